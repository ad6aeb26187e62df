/-
  Texts Q16j Q16k Q16l Q16m Q16n Q16o Q16p Q16q Q16r Q16s Q16t Q16u R23a S22a S22b S22c S22d S22e S22f S22g S22y R23b R23c. Conditions: as each theorem says.
-/
import Derived.Test.YtkbolbpojpmicaaGreatDoorWe4
import Derived.Test.YtkbolbpojpmicaaGreatDoorWe5
import Derived.Test.YtkbolbpojpmicaaGreatDoorWe3
import Derived.Test.YtkbolbpojpmicaaGreatDoorWe2
set_option linter.unusedVariables false
set_option linter.unusedSimpArgs false
set_option maxRecDepth 100000
set_option maxHeartbeats 4000000
open Go.Proofs.Tryz
open List renaming length_map→aa0,mem_of_getElem?→aa2,mem_singleton→aa3,mem_cons→ab0,length_cons→ab1,length_take→ac3,take_length→ac4,all_eq_true→ac5,take_add_one→ac6,length_eq_zero_iff→ad0,drop_length→ad2,cons_append→ae0,take_append_drop→ae7,perm_middle→ae8,all_cons→ai4,length_nil→aj8,all_nil→ao6,map_take→at9
open Bool renaming and_eq_true→aa1,true_and→ab3,eq_iff_iff→ab8,false_and→ae4,not_eq_true'→ag1,and_false→ak3,and_true→al1,and_assoc→al6,not_false→ar3
open Nat renaming le_refl→aa6,zero_le→ac0
open Exists renaming elim→ac7
namespace Go.Proofs.YtkbolbpojpmicaaGreatDoor
open Go Go.Tp
theorem zip_len{α β:Type}{a:List α}{b:List β}(h:a.length=b.length):(a.zip b).length=a.length:=by rw [List.length_zip,h,Nat.min_self]
theorem zip_both{α β:Type}{a:List α}{b:List β}{i:Nat}{x:α}{y:β}(h1:a[i]? =some x)(h2:b[i]? =some y):(a.zip b)[i]? =some (x,y):=List.getElem?_zip_eq_some.2 ⟨h1,h2⟩
theorem sZ{l:List KV}{t:PL}{e:KE}{r:List (PL×KE)}(h:eK l t e=false):((t,e)::r).all (fun te=>eK l te.1 te.2)=false:=by rw [ai4,h];rfl
theorem XI(l:List KV)(ch:List Int)(p:PR)(x:Nat->AV)(lf:Int)(hs:Pure prog a9 109 [aB p,AB false,AB false,kI 1 8,kI 1 8,kI 0 0,kI 0 0] (AB false)):Pure prog a9 92 [EW l ch x lf,aB p] (AB false):=by
 refine P_ func92 84 fun _ _ _ _=>?_
 (refine b_ fun bx=>?_;refine b_ fun bx=>?_;refine y_ ?_);exact lR hs
theorem XJ(l:List KV)(ch:List Int)(p:PR)(x:Nat->AV)(lf:Int)(hs:Pure prog a9 109 [aB p,AB false,AB false,kI 1 8,kI 1 8,kI 0 0,kI 0 0] (AB true))(hle:p.to.length≠p.e.length):Pure prog a9 92 [EW l ch x lf,aB p] (AB false):=by
 have n1:((p.to.map dU).length:Int)=p.to.length:=by rw [aa0]
 have n2:((bB p.e).length:Int)=p.e.length:=by rw [bF]
 refine P_ func92 84 fun _ _ _ _=>?_
 (refine b_ fun bx=>?_;refine b_ fun bx=>?_;refine y_ ?_);refine c_ hs ?_
 refine e_ 24 T (x':=AB true) (aA (by rw [n1,n2];simp;omega)) ?_;exact r_
theorem XK(l:List KV)(ch:List Int)(hl:l.length<=281474976710656)(hv:mD l)(p:PR)(hw:WfR p)(x:Nat->AV)(lf:Int)(hs:Pure prog a9 109 [aB p,AB false,AB false,kI 1 8,kI 1 8,kI 0 0,kI 0 0] (AB true))(hle:p.to.length=p.e.length)(hto8:p.to.length<=8)(R:Bool)(hR:(p.to.zip p.e).all (fun te=>eK l te.1 te.2)=R):
 Pure prog a9 92 [EW l ch x lf,aB p] (AB R):=by
 have hlen:((l.map rF).length:Int)=l.length:=by rw [aa0]
 have n1:((p.to.map dU).length:Int)=p.to.length:=by rw [aa0]
 have n2:((bB p.e).length:Int)=p.e.length:=by rw [bF]
 refine P_ func92 84 fun _ _ _ _=>?_
 (refine b_ fun bx=>?_;refine b_ fun bx=>?_;refine y_ ?_);refine c_ hs ?_
 refine e_ 24 T (x':=AB false) (aA (by rw [n1,n2];simp;omega)) ?_;refine A.ad 27 T (x':=AI (p.to.length:Nat)) (aM n1) ?_;refine l_ (Λ':=[.box _ (aB p)]) ?_;refine A.ay [0,3,26,27,28] T ?_
 refine A.ar (ι:=Nat) (fun i=>(⟨[(0,EW l ch x lf),(3, .v (.pointer (some ⟨_,0,none⟩))),(26,iK p.to),(27,AI (p.to.length:Nat)),(28,AI (i:Nat))],[]⟩,[.box _ (aB p)]))
  (fun i=>i<=p.to.length/\((p.to.zip p.e).drop i).all (fun te=>eK l te.1 te.2)=R) (fun i=>p.to.length-i) 0 ⟨by omega,hR⟩ T fun i hi ih=>?_
 refine y_ ?_;refine k_ (fun hc=>?_) fun hc=>?_
 ·simp at hc;refine ac7 (dC (l:=p.to) (i:=i) (by omega)) fun t ht=>?_;refine ac7 (dC (l:=p.e) (i:=i) (by omega)) fun e hee=>?_;have hwt:=hw.to t (aa2 ht);have hwe:=hw.e e (aa2 hee);have h1:=hi.2;rw [bS (zip_both ht hee)] at h1
  by_cases hneg:t.v<0
  ·rw [sZ (by rw [eK,iT (.inl hneg)])] at h1;refine y_ ?_;refine j_ T (aR ht) T ?_
   (refine b_ fun bx=>?_;refine y_ ?_)
   refine d_ 47 [0,1,2,3,4,5,6,7,8,9,10,11,12,13,14,15,16,17,18,19,20,21,22,23,24,25,26,27,28,29,30,31,32,33,34,35,36,37,38,39,40,41,42,43,44,45,46] [(27,AB false)] ?_;refine uS 36 T (x':=AB true) (aA (by simpa using hneg)) ?_;refine z_ ?_;refine R_ ?_;rw [<-h1];exact .refl
  by_cases hout:(l.length:Int)<=t.v
  ·rw [sZ (by rw [eK,iT (.inr hout)])] at h1;refine y_ ?_;refine j_ T (aR ht) T ?_
   (refine b_ fun bx=>?_;refine y_ ?_)
   refine d_ 47 [0,1,2,3,4,5,6,7,8,9,10,11,12,13,14,15,16,17,18,19,20,21,22,23,24,25,26,27,28,29,30,31,32,33,34,35,36,37,38,39,40,41,42,43,44,45,46] [(27,AB false)] ?_;refine uS 36 T (x':=AB false) (aA (by simp;omega)) ?_;refine uS 47 T (x':=AB true) (aA (by rw [hlen];simpa using hout)) ?_;refine z_ ?_;refine R_ ?_;rw [<-h1];exact .refl
  refine ac7 (FG (l:=l) (i:=t.v) (by omega) (by omega)) fun y hy=>?_;have hyk:=hv y (aa2 hy);have hv0:(0:Int)<=t.v:=by omega
  have hab:eK l t e=(dR l t y.kind&&kM l e y.kind):=by rw [eK,iF (by omega),hy]
  have hpl:=JM l ch x lf hl hv t hwt y.kind;have hft:=yX l ch x lf hl hv e hwe y.kind hyk;generalize dR l t y.kind=b1 at hpl hab;generalize kM l e y.kind=b2 at hft hab;cases b1 with
  |false=>
   rw [sZ (by rw [hab];rfl)] at h1;refine y_ ?_;refine j_ T (aR ht) T ?_
   (refine b_ fun bx=>?_;refine y_ ?_)
   refine d_ 47 [0,1,2,3,4,5,6,7,8,9,10,11,12,13,14,15,16,17,18,19,20,21,22,23,24,25,26,27,28,29,30,31,32,33,34,35,36,37,38,39,40,41,42,43,44,45,46] [(27,AB false)] ?_;refine uS 36 T (x':=AB false) (aA (by simp;omega)) ?_;refine uS 47 T (x':=AB false) (aA (by rw [hlen];simp;omega)) ?_;refine WA.x T hv0 (aR hy) T T ?_;refine w_ ?_;refine lS hpl ?_;refine z_ ?_;refine R_ ?_;rw [<-h1];exact .refl
  |true=>
   refine y_ ?_;refine j_ T (aR ht) T ?_
   (refine b_ fun bx=>?_;refine y_ ?_)
   refine d_ 47 [0,1,2,3,4,5,6,7,8,9,10,11,12,13,14,15,16,17,18,19,20,21,22,23,24,25,26,27,28,29,30,31,32,33,34,35,36,37,38,39,40,41,42,43,44,45,46] [(27,AB true)] ?_;refine uS 36 T (x':=AB false) (aA (by simp;omega)) ?_;refine uS 47 T (x':=AB false) (aA (by rw [hlen];simp;omega)) ?_;refine WA.x T hv0 (aR hy) T T ?_;refine w_ ?_;refine lS hpl ?_;refine rM T (fW hee) (aJ e) ?_;refine WA.x T hv0 (aR hy) T T ?_;refine w_ ?_;refine WA.nil (l:=[]) T ?_;refine c_ hft ?_;refine A.ad 82 T (x':=AB (!b2)) (aA (by cases b2<;>rfl)) ?_;refine k_ (fun hc=>?_) fun hc=>?_
   ·have hf:b2=false:=by simpa using hc
    rw [sZ (by rw [hab,hf,ak3])] at h1;refine y_ ?_;refine R_ ?_;rw [<-h1];exact .refl
   ·have hf:b2=true:=by simpa using hc
    rw [ai4] at h1;have hat:eK l t e=true:=by rw [hab,hf];rfl
    simp only [hat,ab3] at h1;refine y_ ?_;refine vI 28 i ?_;refine l_ (Λ':=[.box _ (aB p)]) ?_;refine u_ (ih (i+1) ⟨by omega,h1⟩ (by omega))
 ·simp at hc;have hil:i=p.to.length:=by omega
  have h1:=hi.2;rw [List.drop_eq_nil_of_le (by rw [zip_len hle];omega),ao6] at h1;refine y_ ?_;refine R_ ?_;rw [<-h1];exact .refl
theorem OX(l:List KV)(ch:List Int)(hl:l.length<=281474976710656)(hv:mD l)(p:PR)(hw:WfR p)(hk:p.kind=4):i6 l ch 92 p:=fun x lf=>by
 have hs:=jB p false false 1 8 1 8 0 0 0 0;have he:aS l ch.length p=(aN p false false 1 8 1 8 0 0 0 0&&(p.to.length==p.e.length)&&(p.to.zip p.e).all fun te=>eK l te.1 te.2):=by simp [aS,hk]
 rw [he];cases hb:aN p false false 1 8 1 8 0 0 0 0 with
 |false=>rw [hb] at hs;rw [ae4,ae4];exact XI l ch p x lf hs |true=>
 rw [hb] at hs
 by_cases hle:p.to.length=p.e.length
 ·have e0:(p.to.length==p.e.length)=true:=by simpa using hle
  rw [e0,ab3,ab3];have hto8:p.to.length<=8:=by simp only [aN,inB,aa1,dT] at hb;omega
  exact XK l ch hl hv p hw x lf hs hle hto8 _ T
 ·have e0:(p.to.length==p.e.length)=false:=by simpa using hle
  rw [e0,ab3,ae4];exact XJ l ch p x lf hs hle
def H2(k:Int):FuncId:=if k=1\/k=2 then 90 else if k=3 then 91 else if k=4 then 92 else if k=5 then 93 else if k=6 then 94
 else if k=7 then 95 else if k=8 then 96 else if k=9 then 97 else if k=10 then 98 else if k=11 then 99 else if k=13 then 101 else 100
theorem kinds15{k:Int}(h:1<=k/\k<=15):k=1\/k=2\/k=3\/k=4\/k=5\/k=6\/k=7\/k=8\/k=9\/k=10\/k=11\/k=12\/k=13\/k=14\/k=15:=by omega
theorem O9(b:Nat)(k:Int)(h:1<=k/\k<=15):Pure prog a9 60 [cT b,aU k] (.fn (H2 k) [cT b] []):=by
 rcases kinds15 h with rfl|rfl|rfl|rfl|rfl|rfl|rfl|rfl|rfl|rfl|rfl|rfl|rfl|rfl|rfl
 all_goals refine P_ func60 39 fun _ _ _ _=>?_
 all_goals refine y_ ?_
 all_goals refine A.makeMap T T T T fun bm=>?_
 all_goals (repeat first|first|refine A.s T ?_|refine A.r T T ?_|refine A.w T T ?_|refine A.p T ?_|refine A.b T fun bx=>?_|refine A.t T fun bl=>?_|refine A.insert T T T T T T T T T T T ?_)
 all_goals refine A.lookup T T T T T T T T T T T T ?_
 all_goals (exact rK)
theorem posK_not{k:Int}(h: ¬(1<=k/\k<=15)):JO .u8 k [.int .u8 1, .int .u8 2, .int .u8 3, .int .u8 4, .int .u8 5, .int .u8 6, .int .u8 7, .int .u8 8, .int .u8 9, .int .u8 10, .int .u8 11, .int .u8 12, .int .u8 13, .int .u8 14, .int .u8 15]=some none:=by
 have e: ∀m:Int,1<=m->m<=15->(k==m)=false:=fun m h1 h2=>by rw [beq_eq_false_iff_ne];rintro rfl;exact h ⟨h1,h2⟩
 simp only [JO,decide_true,e 1 (by decide) (by decide),e 2 (by decide) (by decide),e 3 (by decide) (by decide),e 4 (by decide) (by decide),e 5 (by decide) (by decide),e 6 (by decide) (by decide),e 7 (by decide) (by decide),e 8 (by decide) (by decide),
  e 9 (by decide) (by decide),e 10 (by decide) (by decide),e 11 (by decide) (by decide),e 12 (by decide) (by decide),e 13 (by decide) (by decide),e 14 (by decide) (by decide),e 15 (by decide) (by decide)]
theorem O8(b:Nat)(k:Int)(h: ¬(1<=k/\k<=15)):Pure prog a9 60 [cT b,aU k] (.v .nilFunc):=by refine P_ func60 39 fun _ _ _ _=>?_;refine y_ ?_;refine A.makeMap T T T T fun bm=>?_;(repeat first|first|refine A.s T ?_|refine A.r T T ?_|refine A.w T T ?_|refine A.p T ?_|refine A.b T fun bx=>?_|refine A.t T fun bl=>?_|refine A.insert T T T T T T T T T T T ?_);refine A.ek (v:= .nilFunc) T T T T T T T T (by kernel_rfl) T (posK_not h) T T ?_;exact rK
section
variable(l:List KV)(n:Nat)
mutual
def okR(high:Bool):PR->Bool
 |⟨k,c,v,i,to,e,gs,b⟩=>aS l n ⟨k,c,v,i,to,e,gs,b⟩&& !(high&&k==11)&&zE high (k==11) b&&nW high gs
def zE(high first:Bool):List PR->Bool
 | []=>true |p::r=>okR (high||first) p&&zE high false r
def okG(high:Bool):GD->Bool
 |⟨_,_,_,_,_,_,b⟩=>zE high false b
def nW(high:Bool):List GD->Bool
 | []=>true |g::r=>okG high g&&nW high r
end
end
mutual
def gO:PR->Nat
 |⟨_,_,_,_,_,_,gs,b⟩=>1+dB b+bT gs
def dB:List PR->Nat
 | []=>0 |p::r=>gO p+dB r
def szG:GD->Nat
 |⟨_,_,_,_,_,_,b⟩=>dB b
def bT:List GD->Nat
 | []=>0 |g::r=>szG g+bT r
end
mutual
def pY:PR->Nat
 |⟨_,_,_,_,_,_,gs,b⟩=>1+max (jF b) (dZ gs)
def jF:List PR->Nat
 | []=>0 |p::r=>max (pY p) (jF r)
def htG:GD->Nat
 |⟨_,_,_,_,_,_,b⟩=>jF b
def dZ:List GD->Nat
 | []=>0 |g::r=>max (htG g) (dZ r)
end
theorem vE(l:List KV)(n:Nat)(high:Bool)(p:PR):okR l n high p=(aS l n p&& !(high&&p.kind==11)&&zE l n high (p.kind==11) p.l&&nW l n high p.gs):=by obtain ⟨k,c,v,i,to,e,gs,b⟩:=p;rw [okR]
theorem mI(p:PR):gO p=1+dB p.l+bT p.gs:=by obtain ⟨k,c,v,i,to,e,gs,b⟩:=p;rw [gO]
theorem oT(p:PR):pY p=1+max (jF p.l) (dZ p.gs):=by obtain ⟨k,c,v,i,to,e,gs,b⟩:=p;rw [pY]
theorem QE(l:List KV)(n:Nat)(high:Bool)(g:GD):okG l n high g=zE l n high false g.body:=by obtain ⟨k,e,c,i,to,t,b⟩:=g;rw [okG]
theorem lE(g:GD):szG g=dB g.body:=by obtain ⟨k,e,c,i,to,t,b⟩:=g;rw [szG]
theorem uV(g:GD):htG g=jF g.body:=by obtain ⟨k,e,c,i,to,t,b⟩:=g;rw [htG]
theorem qV(p:PR):1<=gO p:=by rw [mI];omega
theorem IU(p:PR):1<=pY p:=by rw [oT];omega
theorem nO(a b:List PR):dB (a++b)=dB a+dB b:=by
 induction a with
 |nil=>simp [dB] |cons x r ih=>rw [ae0,dB,dB,ih];omega
theorem C3(a b:List PR):jF (a++b)=max (jF a) (jF b):=by
 induction a with
 |nil=>simp [jF] |cons x r ih=>rw [ae0,jF,jF,ih];omega
theorem l9(a b:List GD):bT (a++b)=bT a+bT b:=by
 induction a with
 |nil=>simp [bT] |cons x r ih=>rw [ae0,bT,bT,ih];omega
theorem AH(a b:List GD):dZ (a++b)=max (dZ a) (dZ b):=by
 induction a with
 |nil=>simp [dZ] |cons x r ih=>rw [ae0,dZ,dZ,ih];omega
section
variable{l:List KV}{n:Nat}{high:Bool}
theorem DQ{first:Bool}{a b:List PR}:zE l n high first (a++b)=(zE l n high first a&&zE l n high (first&&a.isEmpty) b):=by
 induction a generalizing first with
 |nil=>simp [zE] |cons x r ih=>rw [ae0,zE,zE,ih];simp [al6]
theorem AM{a b:List GD}:nW l n high (a++b)=(nW l n high a&&nW l n high b):=by
 induction a with
 |nil=>simp [nW] |cons x r ih=>rw [ae0,nW,nW,ih,al6]
def fM(l:List KV)(n:Nat)(high:Bool)(p:PR)(room deep:Int):Prop:=okR l n high p=true/\(gO p:Int)<=room/\(pY p:Int)<=deep
instance (l:List KV) (n:Nat) (high:Bool) (p:PR) (room deep:Int):Decidable (fM l n high p room deep):=by unfold fM;infer_instance
def sC(l:List KV)(n:Nat)(high first:Bool)(ps:List PR)(room deep:Int):Prop:=zE l n high first ps=true/\(dB ps:Int)<=room/\(jF ps:Int)<=deep
def sB(l:List KV)(n:Nat)(high:Bool)(gs:List GD)(room deep:Int):Prop:=nW l n high gs=true/\(bT gs:Int)<=room/\(dZ gs:Int)<=deep
theorem fitsR_l{p:PR}{room deep:Int}(hr:1<=room)(hd:1<=deep)(hk:aS l n p=true)(hh:(high&&p.kind==11)=false):
 fM l n high p room deep↔sC l n high (p.kind==11) p.l (room-1) (deep-1)/\sB l n high p.gs (room-1-dB p.l) (deep-1):=by
 unfold fM sC sB;rw [vE,hk,hh,mI,oT,ar3,ab3,ab3,aa1];constructor
 ·rintro ⟨⟨h1,h2⟩,h3,h4⟩;exact ⟨⟨h1,by omega,by omega⟩,h2,by omega,by omega⟩
 ·rintro ⟨⟨h1,h3,h4⟩,h2,h5,h6⟩;exact ⟨⟨h1,h2⟩,by omega,by omega⟩
theorem wN{p:PR}{r d:Int}(h:r<1\/d<1\/aS l n p=false\/(high&&p.kind==11)=true): ¬fM l n high p r d:=by
 rintro ⟨h1,h2,h3⟩;have:=qV p;have:=IU p;rw [vE] at h1;simp only [aa1,ag1] at h1;rcases h with h|h|h|h
 ·omega
 ·omega
 ·rw [h1.1.1.1] at h;cases h
 ·rw [h1.1.1.2] at h;cases h
theorem MA{first:Bool}{a:List PR}{x:PR}{room deep:Int}(ha:sC l n high first a room deep):sC l n high first (a++[x]) room deep↔fM l n (high||(first&&a.isEmpty)) x (room-dB a) deep:=by
 obtain ⟨h1,h2,h3⟩:=ha;unfold sC fM;rw [DQ,nO,C3,h1,ab3];simp only [zE,dB,jF,al1];constructor
 ·rintro ⟨g1,g2,g3⟩;exact ⟨g1,by omega,by omega⟩
 ·rintro ⟨g1,g2,g3⟩;exact ⟨g1,by omega,by omega⟩
theorem MB{first:Bool}{ps:List PR}{room deep:Int}(h:sC l n high first ps room deep)(i:Nat):sC l n high first (ps.take i) room deep:=by obtain ⟨h1,h2,h3⟩:=h;rw [<-ae7 i ps] at h1 h2 h3;rw [DQ,aa1] at h1;rw [nO] at h2;rw [C3] at h3;exact ⟨h1.1,by omega,by omega⟩
theorem LZ{a:List GD}{x:GD}{y:PR}(hx:x.body=[y]){room deep:Int}(ha:sB l n high a room deep):sB l n high (a++[x]) room deep↔fM l n high y (room-bT a) deep:=by
 obtain ⟨h1,h2,h3⟩:=ha;have e1:nW l n high [x]=okR l n high y:=by rw [nW,nW,al1,QE,hx,zE,zE,al1,Bool.or_false]
 have e2:bT [x]=gO y:=by rw [bT,bT,lE,hx,dB,dB];omega
 have e3:dZ [x]=pY y:=by rw [dZ,dZ,uV,hx,jF,jF];omega
 unfold sB fM;rw [AM,l9,AH,h1,ab3,e1,e2,e3];constructor
 ·rintro ⟨g1,g2,g3⟩;exact ⟨g1,by omega,by omega⟩
 ·rintro ⟨g1,g2,g3⟩;exact ⟨g1,by omega,by omega⟩
theorem L7{gs:List GD}{room deep:Int}(h:sB l n high gs room deep)(i:Nat):sB l n high (gs.take i) room deep:=by obtain ⟨h1,h2,h3⟩:=h;rw [<-ae7 i gs] at h1 h2 h3;rw [AM,aa1] at h1;rw [l9] at h2;rw [AH] at h3;exact ⟨h1.1,by omega,by omega⟩
theorem JX: ∀{ps:List PR} {x:PR},x∈ps->gO x<=dB ps
 | [],_,h=>by cases h |y::r,x,h=>by
  rw [dB];rcases ab0.1 h with rfl|h
  ·omega
  ·have:=JX h;omega
theorem BV: ∀{gs:List GD} {x:GD},x∈gs->szG x<=bT gs
 | [],_,h=>by cases h |y::r,x,h=>by
  rw [bT];rcases ab0.1 h with rfl|h
  ·omega
  ·have:=BV h;omega
theorem ZJ{m:Nat}(h:inB m 0 0=true):m=0:=by simp only [inB,aa1,dT] at h;omega
theorem lV{p:PR}(h:aS l n p=true):1<=p.kind/\p.kind<=15/\ ∀g,g∈p.gs-> ∃y,g.body=[y]:=by
 have h0: ∀{ch v:Bool} {t1 t2 e1 e2 l1 l2:Int},aN p ch v t1 t2 e1 e2 0 0 l1 l2=true-> ∀g,g∈p.gs-> ∃y,g.body=[y]:=fun hs g hg=>by simp only [aN,aa1] at hs;have:=ZJ hs.1.2;rw [ad0] at this;rw [this] at hg;cases hg
 unfold aS at h
 by_cases k0:p.kind=1\/p.kind=2
 ·rw [iT k0] at h;exact ⟨by omega,by omega,h0 h⟩
 rw [iF k0] at h
 by_cases k1:p.kind=3
 ·rw [iT k1,aa1,aa1] at h;exact ⟨by omega,by omega,h0 h.1.1⟩
 rw [iF k1] at h
 by_cases k2:p.kind=4
 ·rw [iT k2,aa1,aa1] at h;exact ⟨by omega,by omega,h0 h.1.1⟩
 rw [iF k2] at h
 by_cases k3:p.kind=5
 ·rw [iT k3,aa1] at h;exact ⟨by omega,by omega,h0 h.1⟩
 rw [iF k3] at h
 by_cases k4:p.kind=6
 ·rw [iT k4,aa1,aa1] at h;exact ⟨by omega,by omega,h0 h.1.1⟩
 rw [iF k4] at h
 by_cases k5:p.kind=7
 ·rw [iT k5,aa1] at h;exact ⟨by omega,by omega,h0 h.1⟩
 rw [iF k5] at h
 by_cases k6:p.kind=8
 ·rw [iT k6,aa1] at h;exact ⟨by omega,by omega,h0 h.1⟩
 rw [iF k6] at h
 by_cases k7:p.kind=9
 ·rw [iT k7] at h;exact ⟨by omega,by omega,h0 h⟩
 rw [iF k7] at h
 by_cases k8:p.kind=10
 ·rw [iT k8] at h;exact ⟨by omega,by omega,h0 h⟩
 rw [iF k8] at h
 by_cases k9:p.kind=11
 ·rw [iT k9] at h;exact ⟨by omega,by omega,h0 h⟩
 rw [iF k9] at h
 by_cases k10:p.kind=12\/p.kind=14\/p.kind=15
 ·rw [iT k10,aa1,ac5] at h;refine ⟨by omega,by omega,fun g hg=>?_⟩;have:=h.2 g hg;simp only [cH,aa1,beq_iff_eq] at this;have h1:=this.1.1.1
  match hb:g.body,h1 with
  | [y],_=>exact ⟨y,rfl⟩
 rw [iF k10] at h
 by_cases k11:p.kind=13
 ·rw [iT k11,aa1] at h;exact ⟨by omega,by omega,h0 h.1⟩
 rw [iF k11] at h;cases h
end
section
variable(l:List KV)(ch:List Int)(hl:l.length<=281474976710656)(hv:mD l)
def W8(f:FuncId)(p:PR):Prop:= ∀(b:Nat) (x:Nat->AV) (lf:Int),lI prog a9 f [cT b,aB p] [.box b (XZ l ch x lf)] fun z Λ'=>z=AB (aS l ch.length p)/\Λ'=[.box b (XZ l ch x lf)]
include hl hv
theorem VH(p:PR)(hw:WfR p)(hk:1<=p.kind/\p.kind<=15):W8 l ch (H2 p.kind) p:=fun b x lf=>by
 by_cases h1:p.kind=1\/p.kind=2
 ·have h:=VS l ch p h1;rw [H2,iT h1];exact Pure.ed func90 T T (h x lf) T (oN.cons (Lt.box (aa3.2 T) T) (oN.cons (Lt.sub .refl) oN.nil))
 rw [H2,iF h1]
 by_cases h3:p.kind=3
 ·have h:=clear_p l ch p h3;rw [iT h3];exact Pure.ed func91 T T (h x lf) T (oN.cons (Lt.box (aa3.2 T) T) (oN.cons (Lt.sub .refl) oN.nil))
 rw [iF h3]
 by_cases h4:p.kind=4
 ·have h:=OX l ch hl hv p hw h4;rw [iT h4];exact Pure.ed func92 T T (h x lf) T (oN.cons (Lt.box (aa3.2 T) T) (oN.cons (Lt.sub .refl) oN.nil))
 rw [iF h4]
 by_cases h5:p.kind=5
 ·have h:=in16_p l ch hl hv p hw h5;rw [iT h5];exact Pure.ed func93 T T (h x lf) T (oN.cons (Lt.box (aa3.2 T) T) (oN.cons (Lt.sub .refl) oN.nil))
 rw [iF h5]
 by_cases h6:p.kind=6
 ·have h:=out16_p l ch hl hv p hw h6;rw [iT h6];exact Pure.ed func94 T T (h x lf) T (oN.cons (Lt.box (aa3.2 T) T) (oN.cons (Lt.sub .refl) oN.nil))
 rw [iF h6]
 by_cases h7:p.kind=7
 ·have h:=time16_p l ch hl hv p hw h7;rw [iT h7];exact Pure.ed func95 T T (h x lf) T (oN.cons (Lt.box (aa3.2 T) T) (oN.cons (Lt.sub .refl) oN.nil))
 rw [iF h7]
 by_cases h8:p.kind=8
 ·have h:=UG l ch hl hv p hw h8;rw [iT h8];exact Pure.ed func96 T T (h x lf) T (oN.cons (Lt.box (aa3.2 T) T) (oN.cons (Lt.sub .refl) oN.nil))
 rw [iF h8]
 by_cases h9:p.kind=9
 ·have h:=seq_p l ch p h9;rw [iT h9];exact Pure.ed func97 T T (h x lf) T (oN.cons (Lt.box (aa3.2 T) T) (oN.cons (Lt.sub .refl) oN.nil))
 rw [iF h9]
 by_cases h10:p.kind=10
 ·have h:=par_p l ch p h10;rw [iT h10];exact Pure.ed func98 T T (h x lf) T (oN.cons (Lt.box (aa3.2 T) T) (oN.cons (Lt.sub .refl) oN.nil))
 rw [iF h10]
 by_cases h11:p.kind=11
 ·have h:=pri_p l ch p h11;rw [iT h11];exact Pure.ed func99 T T (h x lf) T (oN.cons (Lt.box (aa3.2 T) T) (oN.cons (Lt.sub .refl) oN.nil))
 rw [iF h11]
 by_cases h13:p.kind=13
 ·have h:=Z0 l ch hl hv p hw h13;rw [iT h13];exact Pure.ed func101 T T (h x lf) T (oN.cons (Lt.box (aa3.2 T) T) (oN.cons (Lt.sub .refl) oN.nil))
 rw [iF h13];have h:=PA l ch hl hv p hw (by omega);exact Pure.ed func100 T T (h x lf) T (oN.cons (Lt.box (aa3.2 T) T) (oN.cons (Lt.sub .refl) oN.nil))
end
abbrev nJ(l:List KV)(ch:List Int)(x:Nat->AV)(b:Nat)(p:PR)(deep:Int)(high:Bool)(left:Int):Prop:=
 gM prog a9 32 [cT b,aB p,AI deep,AB high] [.box b (XZ l ch x left)] (fun _:Int=>AB (decide (fM l ch.length high p left (33-deep)))) (fun i=>[.box b (XZ l ch x i)]) (fun i=>fM l ch.length high p left (33-deep)->i=left-gO p)
theorem proc_a(l:List KV)(ch:List Int)(x:Nat->AV)(b:Nat)(p:PR)(deep:Int)(high:Bool)(left:Int)(h:left=0\/deep=33)(r0:0<=left)(r1:left<=2048)(f:AV)(hck:Pure prog a9 60 [cT b,aU p.kind] f):nJ l ch x b p deep high left:=by
 have hw1:IntKind.i64.wrap (left-1)=left-1:=fZ _ (by omega);have hnf: ¬fM l ch.length high p left (33-deep):=wN (by omega);unfold nJ gM;refine lI.of (S:=tt) (fn:=f32) (n:=95) dN func32 T T T T fun w0 h0 F hgs=>?_
 (refine b_ fun bx=>?_;refine y_ ?_)
 refine c_ hck ?_;refine A.ad 30 T (x':=AB (decide (left=0))) (aA (by rw [hw1,ab8];simp;omega)) ?_
 by_cases hz:left=0
 ·refine e_ 30 T (x':=AB true) (aA (by simpa using hz)) ?_
  (refine A.az (Λ':=[.box b _]) T T T kK ⟨_,Sb.eq (aA ?_),rfl,?_⟩;exact (decide_eq_false hnf).symm;exact fun h=>absurd h hnf)
 ·refine e_ 30 T (x':=AB false) (aA (by simpa using hz)) ?_;refine e_ 34 T (x':=AB true) (aA (by simp;omega)) ?_
  (refine A.az (Λ':=[.box b _]) T T T kK ⟨_,Sb.eq (aA ?_),rfl,?_⟩;exact (decide_eq_false hnf).symm;exact fun h=>absurd h hnf)
theorem proc_b(l:List KV)(ch:List Int)(x:Nat->AV)(b:Nat)(p:PR)(deep:Int)(high:Bool)(left:Int)(r0:1<=left)(r1:left<=2048)(d0:1<=deep)(d1:deep<=32)(hck:Pure prog a9 60 [cT b,aU p.kind] (.v .nilFunc))(hno:aS l ch.length p=false):nJ l ch x b p deep high left:=by
 have hw1:IntKind.i64.wrap (left-1)=left-1:=fZ _ (by omega);have hnf: ¬fM l ch.length high p left (33-deep):=wN (.inr (.inr (.inl hno)));unfold nJ gM;refine lI.of (S:=tt) (fn:=f32) (n:=95) dN func32 T T T T fun w0 h0 F hgs=>?_
 (refine b_ fun bx=>?_;refine y_ ?_)
 refine c_ hck ?_;refine e_ 30 T (x':=AB false) (aA (by rw [hw1];simp;omega)) ?_;refine e_ 34 T (x':=AB false) (aA (by simp;omega)) ?_
 (refine A.az (Λ':=[.box b _]) T T T kK ⟨_,Sb.eq (aA ?_),rfl,?_⟩;exact (decide_eq_false hnf).symm;exact fun h=>absurd h hnf)
theorem proc_c(l:List KV)(ch:List Int)(x:Nat->AV)(b:Nat)(p:PR)(deep:Int)(high:Bool)(left:Int)(r0:1<=left)(r1:left<=2048)(d0:1<=deep)(d1:deep<=32)(f:FuncId)(hck:Pure prog a9 60 [cT b,aU p.kind] (.fn f [cT b] []))(hle:W8 l ch f p)(hno:aS l ch.length p=false):nJ l ch x b p deep high left:=by
 have hw1:IntKind.i64.wrap (left-1)=left-1:=fZ _ (by omega);have hnf: ¬fM l ch.length high p left (33-deep):=wN (.inr (.inr (.inl hno)));have hl1:=hle b x (IntKind.i64.wrap (left-1));rw [hno] at hl1;unfold nJ gM;refine lI.of (S:=tt) (fn:=f32) (n:=95) dN func32 T T T T fun w0 h0 F hgs=>?_
 (refine b_ fun bx=>?_;refine y_ ?_)
 refine c_ hck ?_;refine e_ 30 T (x':=AB false) (aA (by rw [hw1];simp;omega)) ?_;refine e_ 34 T (x':=AB false) (aA (by simp;omega)) ?_;refine A.d T hl1 .refl (List.Perm.swap _ _ _) ?_;refine y_ ?_
 (refine A.az (Λ':=[.box b _]) T T T kK ⟨_,Sb.eq (aA ?_),rfl,?_⟩;exact (decide_eq_false hnf).symm;exact fun h=>absurd h hnf)
theorem proc_d(l:List KV)(ch:List Int)(x:Nat->AV)(b:Nat)(p:PR)(deep:Int)(left:Int)(r0:1<=left)(r1:left<=2048)(d0:1<=deep)(d1:deep<=32)(f:FuncId)(hck:Pure prog a9 60 [cT b,aU p.kind] (.fn f [cT b] []))(hle:W8 l ch f p)(hyes:aS l ch.length p=true)(hk:p.kind=11):nJ l ch x b p deep true left:=by
 have hw1:IntKind.i64.wrap (left-1)=left-1:=fZ _ (by omega);have hnf: ¬fM l ch.length true p left (33-deep):=wN (.inr (.inr (.inr (by simpa using hk))));have hl1:=hle b x (IntKind.i64.wrap (left-1));rw [hyes] at hl1;unfold nJ gM;refine lI.of (S:=tt) (fn:=f32) (n:=95) dN func32 T T T T fun w0 h0 F hgs=>?_
 (refine b_ fun bx=>?_;refine y_ ?_)
 refine c_ hck ?_;refine e_ 30 T (x':=AB false) (aA (by rw [hw1];simp;omega)) ?_;refine e_ 34 T (x':=AB false) (aA (by simp;omega)) ?_;refine A.d T hl1 .refl (List.Perm.swap _ _ _) ?_;refine y_ ?_;refine e_ 51 T (x':=AB true) (aA (by simpa using hk)) ?_
 (refine A.az (Λ':=[.box b _]) T T T kK ⟨_,Sb.eq (aA ?_),rfl,?_⟩;exact (decide_eq_false hnf).symm;exact fun h=>absurd h hnf)
theorem RC{α:Type}{a:List α}{i:Nat}(h:i<a.length):(a.take i).isEmpty=decide (i=0):=by rw [ab8,List.isEmpty_iff,List.take_eq_nil_iff];simp;rintro rfl;simp at h
theorem proc_e(l:List KV)(ch:List Int)(x:Nat->AV)(b:Nat)(p:PR)(hwf:zS p)(deep:Int)(high:Bool)(left:Int)(r0:1<=left)(r1:left<=2048)(d0:1<=deep)(d1:deep<=32)(f:FuncId)(hck:Pure prog a9 60 [cT b,aU p.kind] (.fn f [cT b] []))(hle:W8 l ch f p)(hyes:aS l ch.length p=true)(hh:(high&&p.kind==11)=false)
 (ih0: ∀(y:PR) (hi:Bool) (lf:Int),zS y->gO y<gO p->0<=lf->lf<=2048->nJ l ch x b y (deep+1) hi lf):nJ l ch x b p deep high left:=by
 have hw1:IntKind.i64.wrap (left-1)=left-1:=fZ _ (by omega);have hw2:IntKind.i64.wrap (deep+1)=deep+1:=fZ _ (by omega);have hwa:=oM hwf;have hl1:=hle b x (left-1);rw [hyes] at hl1;have hbod:=(lV hyes).2.2;have hfl:=fitsR_l (high:=high) (p:=p) (room:=left) (deep:=33-deep) r0 (by omega) hyes hh;rw [show 33-deep-1=33-(deep+1) by omega] at hfl;have hse:=mI p;have n1:((bC p.l).length:Int)=p.l.length:=by rw [aW]
 have n2:((eV p.gs).length:Int)=p.gs.length:=by rw [dD]
 unfold nJ gM;refine lI.of (S:=tt) (fn:=f32) (n:=95) dN func32 T T T T fun w0 h0 F hgs=>?_
 (refine b_ fun bx=>?_;refine y_ ?_)
 refine c_ hck ?_;refine e_ 30 T (x':=AB false) (aA (by rw [hw1];simp;omega)) ?_;refine e_ 34 T (x':=AB false) (aA (by simp;omega)) ?_;refine A.au (Λ':=[.box _ (aB p), .box b (XZ l ch x (left-1))]) (by rw [hw1]) ?_;refine A.d T hl1 .refl (List.Perm.swap _ _ _) ?_;refine g_ ?_;refine e_ 51 T (x':=AB false) (aA (by revert hh;cases high<;>simp)) ?_;refine A.ad 54 T (x':=AI (p.l.length:Nat)) (aM n1) ?_;refine A.ay [0,2,3,5,53,54,55] T ?_
 refine A.ar (ι:=Nat×Int) (fun q=>(⟨[(0,cT b),(2,AI deep),(3,AB high),(5,cT _),(53,iQ p.l),(54,AI (p.l.length:Nat)),(55,AI (q.1:Nat))],[]⟩,[.box b (XZ l ch x q.2), .box _ (aB p)]))
  (fun q=>q.1<=p.l.length/\sC l ch.length high (p.kind==11) (p.l.take q.1) (left-1) (33-(deep+1))/\q.2=left-1-(dB (p.l.take q.1):Nat)) (fun q=>p.l.length-q.1) (0,left-1) ⟨ac0 _,⟨by simp [zE],by simp [dB];omega,by simp [jF];omega⟩,by simp [dB]⟩ T fun q hi ih=>?_
 obtain ⟨i,lf⟩:=q;obtain ⟨hi1,hi2,hi3⟩:=hi;simp only at hi1 hi2 hi3;have hsz2:=hi2.2.1;refine y_ ?_;refine k_ (fun hc=>?_) fun hc=>?_
 ·simp at hc;refine ac7 (dC (l:=p.l) (i:=i) (by omega)) fun y hy=>?_;have hym:=aa2 hy;have htk:p.l.take (i+1)=p.l.take i++[y]:=by rw [ac6,hy];rfl
  have hsn:=MA (x:=y) hi2;rw [<-htk,<-hi3,RC (by omega)] at hsn;have ihy:=ih0 y (high||((p.kind==11)&&decide (i=0))) lf ((oM (by exact hwf)).l y hym) (by have:=JX hym;omega) (by omega) (by omega);unfold nJ at ihy;have e0:(((i:Nat):Int)==0)=decide (i=0):=by rw [ab8];simp
  refine y_ ?_;refine j_ T (cF hy) (bP y) ?_
  (refine rL fun bx=>?_;refine g_ ?_)
  refine A.ad 63 T (x':=AI (deep+1)) (aM hw2) ?_;refine A.ad 73 T (x':=AB (high||((p.kind==11)&&decide (i=0)))) (aA (by rw [e0];clear ih ihy hsn;generalize (p.kind==11)=b11;cases high<;>cases b11<;>simp)) ?_;refine A.e T ihy .refl (List.Perm.swap _ _ _) fun lf2 hlf2=>?_
  by_cases hfx:fM l ch.length (high||((p.kind==11)&&decide (i=0))) y lf (33-(deep+1))
  ·refine e_ 74 T (x':=AB true) (aA (decide_eq_true hfx)) ?_;refine l_ (Λ':=[.box b (XZ l ch x lf2), .box _ (aB p)]) ?_;refine A.ad 55 T (x':=AI ((i+1:Nat):Int)) (qG i (by have:=hwa.ll;omega)) ?_;refine u_ (ih (i+1,lf2) ⟨by show i+1<=_;omega,hsn.2 hfx,?_⟩ (by show _-(i+1)<_-i;omega));show lf2=left-1-(dB (p.l.take (i+1)):Nat);rw [hlf2 hfx,htk,nO,hi3];simp [dB];omega
  ·have hnf: ¬fM l ch.length high p left (33-deep):=fun hf=>hfx (hsn.1 (MB (hfl.1 hf).1 (i+1)));refine e_ 74 T (x':=AB false) (aA (decide_eq_false hfx)) ?_
   (refine A.az (Λ':=[.box b _]) T T T kK ⟨_,Sb.eq (aA ?_),rfl,?_⟩;exact (decide_eq_false hnf).symm;exact fun h=>absurd h hnf)
 simp at hc;have hil:i=p.l.length:=by omega
 rw [hil,ac4] at hi2 hi3;have hszl:=hi2.2.1;refine y_ ?_;refine A.ad 79 T (x':=AI (p.gs.length:Nat)) (aM n2) ?_;refine A.ay [0,2,3,5,78,79,80] T ?_
 refine A.ar (ι:=Nat×Int) (fun q=>(⟨[(0,cT b),(2,AI deep),(3,AB high),(5,cT _),(78,rH p.gs),(79,AI (p.gs.length:Nat)),(80,AI (q.1:Nat))],[]⟩,[.box b (XZ l ch x q.2), .box _ (aB p)]))
  (fun q=>q.1<=p.gs.length/\sB l ch.length high (p.gs.take q.1) (left-1-(dB p.l:Nat)) (33-(deep+1))/\q.2=left-1-(dB p.l:Nat)-(bT (p.gs.take q.1):Nat)) (fun q=>p.gs.length-q.1) (0,lf) ⟨ac0 _,⟨by simp [nW],by simp [bT];omega,by simp [dZ];omega⟩,by simp [bT];omega⟩ T fun q hj jh=>?_
 obtain ⟨j,lg⟩:=q;obtain ⟨hj1,hj2,hj3⟩:=hj;simp only at hj1 hj2 hj3;have hsz3:=hj2.2.1;refine y_ ?_;refine k_ (fun hc=>?_) fun hc=>?_
 ·simp at hc;refine ac7 (dC (l:=p.gs) (i:=j) (by omega)) fun g hg=>?_;have hgm:=aa2 hg;refine ac7 (hbod g hgm) fun y hy=>?_;have htk:p.gs.take (j+1)=p.gs.take j++[g]:=by rw [ac6,hg];rfl
  have hsn:=LZ hy hj2;rw [<-htk,<-hj3] at hsn;have hszy:gO y<=bT p.gs:=by have:=BV hgm;rw [lE,hy,dB,dB] at this;omega
  have ihy:=ih0 y high lg ((BZ (hwa.g g hgm)).body y (by rw [hy];exact List.mem_cons_self ..)) (by omega) (by omega) (by omega);unfold nJ at ihy;refine y_ ?_;refine j_ T (jY hg) (jX g) ?_
  (refine b_ fun bx=>?_;refine y_ ?_)
  refine i_ T (show (bC g.body)[(0:Int).toNat]? =some (yR y) from cF (by rw [hy];rfl)) (bP y) ?_;refine A.ad 90 T (x':=AI (deep+1)) (aM hw2) ?_;refine A.e T ihy .refl (List.Perm.swap _ _ _) fun lf2 hlf2=>?_
  by_cases hfx:fM l ch.length high y lg (33-(deep+1))
  ·refine e_ 92 T (x':=AB true) (aA (decide_eq_true hfx)) ?_;refine l_ (Λ':=[.box b (XZ l ch x lf2), .box _ (aB p)]) ?_;refine A.ad 80 T (x':=AI ((j+1:Nat):Int)) (qG j (by have:=hwa.gl;omega)) ?_;refine u_ (jh (j+1,lf2) ⟨by show j+1<=_;omega,hsn.2 hfx,?_⟩ (by show _-(j+1)<_-j;omega));show lf2=left-1-(dB p.l:Nat)-(bT (p.gs.take (j+1)):Nat);have e2:bT [g]=gO y:=by rw [bT,bT,lE,hy,dB,dB];omega
   rw [hlf2 hfx,htk,l9,hj3,e2];omega
  ·have hnf: ¬fM l ch.length high p left (33-deep):=fun hf=>hfx (hsn.1 (L7 (hfl.1 hf).2 (j+1)));refine e_ 92 T (x':=AB false) (aA (decide_eq_false hfx)) ?_
   (refine A.az (Λ':=[.box b _]) T T T kK ⟨_,Sb.eq (aA ?_),rfl,?_⟩;exact (decide_eq_false hnf).symm;exact fun h=>absurd h hnf)
 simp at hc;have hjl:j=p.gs.length:=by omega
 rw [hjl,ac4] at hj2 hj3;refine y_ ?_;refine A.az (Λ':=[.box b _]) T T T kK ⟨_,Sb.eq (aA ?_),rfl,?_⟩
 ·exact (decide_eq_true (hfl.2 ⟨hi2,hj2⟩)).symm
 ·intro _;show lg=left-gO p;omega
theorem G3(l:List KV)(ch:List Int)(hl:l.length<=281474976710656)(hv:mD l)(x:Nat->AV)(b:Nat): ∀(N:Nat) (p:PR) (deep:Int) (high:Bool) (left:Int),gO p<=N->zS p->0<=left->left<=2048->1<=deep->deep<=33->nJ l ch x b p deep high left
 |0,p,_,_,_,hn,_,_,_,_,_=>by have:=qV p;omega |N+1,p,deep,high,left,hn,hw,r0,r1,d0,d1=>by
  by_cases hk:1<=p.kind/\p.kind<=15
  ·have hck:=O9 b p.kind hk
   by_cases hz:left=0\/deep=33
   ·exact proc_a l ch x b p deep high left hz r0 r1 _ hck
   have hle:=VH l ch hl hv p (oM hw) hk;cases hkb:aS l ch.length p with
   |false=>exact proc_c l ch x b p deep high left (by omega) r1 d0 (by omega) _ hck hle hkb |true=>
    cases hh:(high&&p.kind==11) with
    |true=>
     simp only [aa1,beq_iff_eq] at hh;rw [hh.1];exact proc_d l ch x b p deep left (by omega) r1 d0 (by omega) _ hck hle hkb hh.2
    |false=>exact proc_e l ch x b p hw deep high left (by omega) r1 d0 (by omega) _ hck hle hkb hh fun y hi lf hwy hsz l0 l1=>G3 l ch hl hv x b N y (deep+1) hi lf (by omega) hwy l0 l1 (by omega) (by omega)
  ·have hck:=O8 b p.kind hk;have hno:aS l ch.length p=false:=by
    cases h:aS l ch.length p with
    |false=>rfl |true=>have:=lV h;exact (hk ⟨this.1,this.2.1⟩).elim
   by_cases hz:left=0\/deep=33
   ·exact proc_a l ch x b p deep high left hz r0 r1 _ hck
   ·exact proc_b l ch x b p deep high left (by omega) r1 d0 (by omega) hck hno
abbrev t8(l:List Int):AV:= .sl 1 (l.map AI) none
def VA(v:Int)(l:List Int)(i:Nat):Int:=mU (fun x=>v==x) l i
theorem index_p(l:List Int)(v:Int)(hb:l.length<=281474976710656):Pure prog a9 59 [t8 l,AI v] (AI (VA v l 0)):=by
 refine P_ func59 19 fun _ _ _ _=>?_;refine y_ ?_;refine A.ad 7 T (x':=AI (l.length:Nat)) (aM (by rw [aa0])) ?_;refine A.ay [0,1,7,8] T ?_;refine A.ar (ι:=Nat) (fun i=>(⟨[(0,t8 l),(1,AI v),(7,AI (l.length:Nat)),(8,AI (i:Int))],[]⟩,[])) (fun i=>i<=l.length/\VA v l 0=VA v (l.drop i) i) (fun i=>l.length-i) 0 ⟨by omega,rfl⟩ T fun i hi ih=>?_;refine y_ ?_;refine k_ (fun hc=>?_) fun hc=>?_
 ·simp at hc;refine aX hc fun x hx=>?_;have h1:VA v l 0=if (v==x)=true then (i:Int) else VA v (l.drop (i+1)) (i+1):=by rw [hi.2,bS hx];rfl
  refine y_ ?_;refine i_ T (aR hx) T ?_;refine k_ (fun hc=>?_) fun hc=>?_
  ·rw [hc,iT T] at h1;refine y_ ?_;refine R_ ?_;rw [h1];exact .refl
  ·rw [hc,iF (by simp)] at h1;refine y_ ?_;refine vI 8 i ?_;refine u_ (ih (i+1) ⟨by omega,h1⟩ (by omega))
 ·simp at hc;have:i=l.length:=by omega
  subst this;refine y_ ?_;refine R_ ?_;rw [hi.2,ad2];exact .refl
theorem PD(l:List Int)(v:Int)(hb:l.length<=281474976710656):Pure prog a9 30 [t8 l,AI v] (AB (l.contains v)):=by refine P_ func30 9 fun _ _ _ _=>?_;refine y_ ?_;refine c_ (index_p l v hb) ?_;refine R_ ?_;refine Sb.eq (aA ?_);rw [VA,nC,List.contains_eq_any_beq]
structure KN where
 vars:List KV
 chans:List Int
 root:PR
 procs:List Int
abbrev eZ(k:KN):AV:= .ag [nR k.vars,H5 k.chans,aU k.root.kind,AI k.root.c,AI k.root.v,aU k.root.item,iK k.root.to,c8 k.root.e,rH k.root.gs,iQ k.root.l,t8 k.procs]
structure KG(k:KN):Prop where
 vars:k.vars.length<=281474976710656
 chans:k.chans.length<=281474976710656
 procs:k.procs.length<=281474976710656
 root:zS k.root
def QF:List Int->List Int->Bool
 |_,[]=>true |seen,n::r=>decide (0<=n)&&decide (n<8)&& !seen.contains n&&QF (seen++[n]) r
def pU(v:KV):Bool:=nI v.kind&&decide (0<=v.dim)&&decide (v.dim<=64)
def OH(i:Nat):Int:=if i=0 then 1 else if i=1 then 2 else 0
def E6:Nat->List Int->Bool
 |_,[]=>true |i,h::r=>h==OH i&&E6 (i+1) r
def pH(k:KN):Bool:=decide (k.vars.length<=256)&&decide (2<=k.chans.length)&&decide (k.chans.length<=64)
def AQ(k:KN):Bool:=k.procs.length==0||(k.root.kind==10&&k.root.l.length==k.procs.length)
def nV(k:KN):Bool:=pH k&&AQ k&&QF [] k.procs&&k.vars.all pU&&E6 0 k.chans&&decide (fM k.vars k.chans.length false k.root 2048 32)
theorem W2{l:List KV}(h:l.all pU=true):mD l:=fun y hy=>by have:=ac5.1 h y hy;simp only [pU,nI,aa1,dT] at this;omega
def xN(k:KN):Nat->AV:=fun i=>([aU k.root.kind,AI k.root.c,AI k.root.v,aU k.root.item,iK k.root.to,c8 k.root.e,rH k.root.gs,iQ k.root.l,t8 k.procs]:List AV).getD i (AI 0)
theorem kmay_a(k:KN)(h:(pH k&&AQ k)=false):Pure prog a9 14 [eZ k] (AB false):=by
 have n1:((k.vars.map rF).length:Int)=k.vars.length:=by rw [aa0]
 have n2:((k.chans.map aU).length:Int)=k.chans.length:=by rw [aa0]
 have n3:((k.procs.map AI).length:Int)=k.procs.length:=by rw [aa0]
 have n4:((bC k.root.l).length:Int)=k.root.l.length:=by rw [aW]
 refine P_ func14 116 fun _ _ _ _=>?_
 (refine rL fun bx=>?_;refine g_ ?_)
 refine A.ad 26 T (x':=AB (!pH k)) (aA ?_) ?_
 ·rw [n1,n2,pH,ab8];simp;omega
 cases hlk:pH k with
 |false=>exact rK |true=>
  rw [hlk,ab3] at h;refine g_ ?_;refine A.ad 46 T (x':=AB true) (aA ?_) ?_
  ·rw [n3,n4];have h': ¬k.procs.length=0/\ ¬(k.root.kind=10/\k.root.l.length=k.procs.length):=by simpa [AQ] using h
   by_cases hk:k.root.kind=10
   ·rw [ab8];simp [hk];omega
   ·rw [ab8];simp [hk];omega
  exact rK
theorem kmay_b(k:KN)(hw:KG k)(h:(pH k&&AQ k)=true)(R:Bool)(hR:(QF [] k.procs&&k.vars.all pU&&E6 0 k.chans&&decide (fM k.vars k.chans.length false k.root 2048 32))=R):Pure prog a9 14 [eZ k] (AB R):=by
 have n1:((k.vars.map rF).length:Int)=k.vars.length:=by rw [aa0]
 have n2:((k.chans.map aU).length:Int)=k.chans.length:=by rw [aa0]
 have n3:((k.procs.map AI).length:Int)=k.procs.length:=by rw [aa0]
 have n4:((bC k.root.l).length:Int)=k.root.l.length:=by rw [aW]
 rw [aa1] at h;have hlk:k.vars.length<=256/\2<=k.chans.length/\k.chans.length<=64:=by have:=h.1;simp only [pH,aa1,dT] at this;omega
 have hrk:k.procs.length=0\/(k.root.kind=10/\k.root.l.length=k.procs.length):=by simpa [AQ] using h.2
 have hpl:=hw.procs;generalize hR1:(k.vars.all pU&&E6 0 k.chans&&decide (fM k.vars k.chans.length false k.root 2048 32))=R1;rw [al6,al6,<-al6 (k.vars.all pU),hR1] at hR;refine P_ func14 116 fun _ _ _ _=>?_
 (refine rL fun bx=>?_;refine g_ ?_)
 refine A.ad 26 T (x':=AB false) (aA ?_) ?_
 ·rw [n1,n2,ab8];simp;omega
 refine g_ ?_;refine A.ad 46 T (x':=AB false) (aA ?_) ?_
 ·rw [n3,n4];rcases hrk with hp0|⟨hk,hl2⟩
  ·simp [hp0]
  ·simp [hk,hl2]
 refine y_ ?_;refine A.ad 49 T (x':=AI (k.procs.length:Nat)) (aM n3) ?_;refine A.ay [1,48,49,50] T ?_;refine A.ar (ι:=Nat) (fun i=>(⟨[(1,cT _),(48,t8 k.procs),(49,AI (k.procs.length:Nat)),(50,AI (i:Nat))],[]⟩,[.box _ (eZ k)])) (fun i=>i<=k.procs.length/\(QF (k.procs.take i) (k.procs.drop i)&&R1)=R) (fun i=>k.procs.length-i) 0 ⟨by omega,hR⟩ T fun i hi ih=>?_;refine y_ ?_;refine k_ (fun hc=>?_) fun hc=>?_
 ·simp at hc;refine ac7 (dC (l:=k.procs) (i:=i) (by omega)) fun v hv=>?_;have h1:=hi.2;rw [bS hv,QF] at h1;have htk:k.procs.take (i+1)=k.procs.take i++[v]:=by rw [ac6,hv];rfl
  have hcn:=PD (k.procs.take i) v (by rw [ac3];omega);refine y_ ?_;refine i_ T (aR hv) T ?_
  ((fail_if_success (refine A.lit? T ?_));refine A.gS T (fun hc=>?_) (fun hc=>?_))
  ·have hc0:v<0:=by simpa using hc
   rw [decide_eq_false (by omega)] at h1;refine y_ ?_;refine R_ ?_;rw [<-h1];exact .refl
  have hc0:0<=v:=by simpa using hc
  refine y_ ?_
  ((fail_if_success (refine A.lit? T ?_));refine A.gS T (fun hc=>?_) (fun hc=>?_))
  ·have hc1:8<=v:=by simpa using hc
   rw [decide_eq_false (p:=v<8) (by omega),ak3] at h1;refine y_ ?_;refine R_ ?_;rw [<-h1];exact .refl
  have hc1:v<8:=by simpa using hc
  rw [decide_eq_true hc0,decide_eq_true hc1,ab3,ab3] at h1;refine y_ ?_;refine A.slice (ys:=(k.procs.take i).map AI) T T T T T T T T T (by decide) (by omega) (by rw [aa0];omega) (by simp [at9]) T ?_;refine y_ ?_;refine c_ hcn ?_;refine k_ (fun hc=>?_) fun hc=>?_
  ·have hc:(k.procs.take i).contains v=true:=hc;rw [hc,Bool.not_true,ae4,ae4] at h1;refine y_ ?_;refine R_ ?_;rw [<-h1];exact .refl
  ·have hc:(k.procs.take i).contains v=false:=hc;rw [hc,ar3,ab3,<-htk] at h1;refine y_ ?_;refine vI 50 i ?_;refine u_ (ih (i+1) ⟨by omega,h1⟩ (by omega))
 simp at hc;have hil:i=k.procs.length:=by omega
 have h1:=hi.2;rw [hil,ad2,QF,ab3] at h1;rw [<-hR1,al6] at h1;generalize hR2:(E6 0 k.chans&&decide (fM k.vars k.chans.length false k.root 2048 32))=R2 at h1;clear ih hi hR hR1;refine y_ ?_;refine A.ad 72 T (x':=AI (k.vars.length:Nat)) (aM n1) ?_;refine A.ay [1,71,72,73] T ?_;refine A.ar (ι:=Nat) (fun i=>(⟨[(1,cT _),(71,nR k.vars),(72,AI (k.vars.length:Nat)),(73,AI (i:Nat))],[]⟩,[.box _ (eZ k)])) (fun i=>i<=k.vars.length/\((k.vars.drop i).all pU&&R2)=R/\(k.vars.take i).all pU=true) (fun i=>k.vars.length-i) 0 ⟨by omega,h1,rfl⟩ T fun j hi ih=>?_;refine y_ ?_;refine k_ (fun hc=>?_) fun hc=>?_
 ·simp at hc;refine ac7 (dC (l:=k.vars) (i:=j) (by omega)) fun v hv=>?_;have h2:=hi.2.1;have htv:k.vars.take (j+1)=k.vars.take j++[v]:=by rw [ac6,hv];rfl
  rw [bS hv,ai4,pU] at h2;refine y_ ?_;refine j_ T (aR hv) T ?_
  (refine b_ fun bx=>?_;refine y_ ?_)
  refine c_ (I4 v.kind) ?_
  ((fail_if_success (refine A.lit? T ?_));refine A.gS T (fun hc=>?_) (fun hc=>?_))
  ·have hc0:nI v.kind=false:=by simpa using hc
   rw [hc0] at h2;refine y_ ?_;refine R_ ?_;rw [<-h2];exact .refl
  have hc0:nI v.kind=true:=by simpa using hc
  refine y_ ?_
  ((fail_if_success (refine A.lit? T ?_));refine A.gS T (fun hc=>?_) (fun hc=>?_))
  ·have hc1:v.dim<0:=by simpa using hc
   rw [decide_eq_false (p:=0<=v.dim) (by omega),ak3] at h2;refine y_ ?_;refine R_ ?_;rw [<-h2];exact .refl
  have hc1:0<=v.dim:=by simpa using hc
  refine y_ ?_;refine k_ (fun hc=>?_) fun hc=>?_
  ·have hc2:64<v.dim:=by simpa using hc
   rw [decide_eq_false (p:=v.dim<=64) (by omega),ak3] at h2;refine y_ ?_;refine R_ ?_;rw [<-h2];exact .refl
  ·have hc2:v.dim<=64:=by simpa using hc
   rw [hc0,decide_eq_true hc1,decide_eq_true hc2] at h2;simp only [ab3] at h2;refine y_ ?_;refine l_ (Λ':=[.box _ (eZ k)]) ?_;refine vI 73 j ?_;refine u_ (ih (j+1) ⟨by omega,h2,by rw [htv,List.all_append,hi.2.2];simp [pU,hc0,hc1,hc2]⟩ (by omega))
 simp at hc;have hjl:j=k.vars.length:=by omega
 have h2:=hi.2.1;have hvo:=hi.2.2;rw [hjl,ac4] at hvo;rw [hjl,ad2,ao6,ab3] at h2;clear ih hi;rw [<-hR2] at h2;generalize hR3:decide (fM k.vars k.chans.length false k.root 2048 32)=R3 at h2;have hpr:=fun b=>G3 k.vars k.chans hw.vars (W2 hvo) (xN k) b (gO k.root) k.root 1 false 2048 (aa6 _) hw.root (by decide) (by decide) (by decide) (by decide);simp only [nJ,show (33:Int)-1=32 from rfl] at hpr;refine y_ ?_;refine A.ad 94 T (x':=AI (k.chans.length:Nat)) (aM n2) ?_;refine A.ay [1,93,94,95] T ?_;refine A.ar (ι:=Nat) (fun i=>(⟨[(1,cT _),(93,H5 k.chans),(94,AI (k.chans.length:Nat)),(95,AI (i:Nat))],[]⟩,[.box _ (eZ k)])) (fun i=>i<=k.chans.length/\(E6 i (k.chans.drop i)&&R3)=R) (fun i=>k.chans.length-i) 0 ⟨by omega,h2⟩ T fun m hi ih=>?_;refine y_ ?_;refine k_ (fun hc=>?_) fun hc=>?_
 ·simp at hc;refine ac7 (dC (l:=k.chans) (i:=m) (by omega)) fun v hv=>?_;have h3:=hi.2;rw [bS hv,E6] at h3;refine y_ ?_;refine j_ T (aR hv) T ?_
  by_cases m0:m=0
  ·subst m0;rw [show OH 0=1 from rfl] at h3;refine y_ ?_;refine k_ (fun hc=>?_) fun hc=>?_
   ·have hc:(v !=1)=true:=hc;have hv1:(v==1)=false:=by simpa using hc
    rw [hv1] at h3;refine y_ ?_;refine R_ ?_;rw [<-h3];exact .refl
   ·have hc:(v !=1)=false:=hc;have hv1:(v==1)=true:=by simpa using hc
    rw [hv1,ab3] at h3;refine y_ ?_;refine u_ (ih 1 ⟨by omega,h3⟩ (by omega))
  by_cases m1:m=1
  ·subst m1;rw [show OH 1=2 from rfl] at h3;refine y_ ?_;refine k_ (fun hc=>?_) fun hc=>?_
   ·have hc:(v !=2)=true:=hc;have hv1:(v==2)=false:=by simpa using hc
    rw [hv1] at h3;refine y_ ?_;refine R_ ?_;rw [<-h3];exact .refl
   ·have hc:(v !=2)=false:=hc;have hv1:(v==2)=true:=by simpa using hc
    rw [hv1,ab3] at h3;refine y_ ?_;refine u_ (ih 2 ⟨by omega,h3⟩ (by omega))
  ·rw [show OH m=0 by simp [OH,m0,m1]] at h3;refine y_ ?_;refine e_ 101 T (x':=AB false) (aA (by simp;omega)) ?_;refine e_ 103 T (x':=AB false) (aA (by simp;omega)) ?_;refine k_ (fun hc=>?_) fun hc=>?_
   ·have hc:(v !=0)=true:=hc;have hv1:(v==0)=false:=by simpa using hc
    rw [hv1] at h3;refine y_ ?_;refine R_ ?_;rw [<-h3];exact .refl
   ·have hc:(v !=0)=false:=hc;have hv1:(v==0)=true:=by simpa using hc
    rw [hv1,ab3] at h3;refine y_ ?_;refine vI 95 m ?_;refine u_ (ih (m+1) ⟨by omega,h3⟩ (by omega))
 simp at hc;have hml:m=k.chans.length:=by omega
 have h3:=hi.2;rw [hml,ad2,E6,ab3] at h3;clear ih hi
 (refine b_ fun bx=>?_;refine y_ ?_)
 refine A.au (Λ':=[.box _ (XZ k.vars k.chans (xN k) 2048), .box _ (eZ k)]) T ?_;refine A.e T (hpr _) .refl (List.Perm.refl _) fun lf _=>?_;refine y_ ?_;refine R_ ?_;refine Sb.eq (aA ?_);rw [<-h3,<-hR3]
theorem I3(k:KN)(hw:KG k):Pure prog a9 14 [eZ k] (AB (nV k)):=by
 by_cases h:(pH k&&AQ k)=true
 ·have:=kmay_b k hw h _ T;unfold nV;rw [h,ab3];exact this
 ·have h:(pH k&&AQ k)=false:=by simpa using h
  have:=kmay_a k h;unfold nV;rw [h,ae4,ae4,ae4,ae4];exact this
structure FM where
 c:Bool
 v:Bool
 t1:Int
 t2:Int
 e1:Int
 e2:Int
 g1:Int
 g2:Int
 l1:Int
 l2:Int
def fm0:FM:=⟨false,false,0,0,0,0,0,0,0,0⟩
def MC(k:Int):Option FM:=
 if k=1\/k=2 then some fm0 else if k=3 then some ⟨false,true,0,0,0,0,0,0,0,0⟩ else if k=4 then some ⟨false,false,1,8,1,8,0,0,0,0⟩
 else if k=5 then some ⟨true,false,1,1,0,0,0,0,0,0⟩ else if k=6 then some ⟨true,false,0,0,1,1,0,0,0,0⟩ else if k=7 then some ⟨false,false,1,1,0,0,0,0,0,0⟩
 else if k=8 then some ⟨false,false,0,0,1,1,0,0,0,0⟩ else if k=9 then some ⟨false,false,0,0,0,0,0,0,0,2048⟩ else if k=10 then some ⟨false,false,0,0,0,0,0,0,0,16⟩
 else if k=11 then some ⟨false,false,0,0,0,0,0,0,2,2⟩ else if k=12\/k=14\/k=15 then some ⟨false,false,0,0,0,0,0,16,0,0⟩ else if k=13 then some ⟨false,false,0,0,1,1,0,0,1,1⟩ else none
theorem MO{k:Int}(h:1<=k/\k<=15):k=1\/k=2\/k=3\/k=4\/k=5\/k=6\/k=7\/k=8\/k=9\/k=10\/k=11\/k=12\/k=13\/k=14\/k=15:=by omega
def fR(p:PR):Bool:=match MC p.kind with
 |some f=>aN p f.c f.v f.t1 f.t2 f.e1 f.e2 f.g1 f.g2 f.l1 f.l2 |none=>false
theorem JL{α:Type}{l:List α}(h:l.length=1): ∃a,l=[a]:=by
 match l,h with
 | [a],_=>exact ⟨a,rfl⟩
theorem E3{l:List KV}{n:Nat}{p:PR}(h:fR p=false):aS l n p=false:=by
 cases hk:aS l n p with
 |false=>rfl |true=>
  obtain ⟨kd,c,v,it,to,e,gs,b⟩:=p;have hr:=lV hk;exfalso;simp only [PR.kind] at hr;rcases MO ⟨hr.1,hr.2.1⟩ with rfl|rfl|rfl|rfl|rfl|rfl|rfl|rfl|rfl|rfl|rfl|rfl|rfl|rfl|rfl
  ·have hs:aS l n ⟨1,c,v,it,to,e,gs,b⟩=(fR ⟨1,c,v,it,to,e,gs,b⟩):=rfl;rw [hs,h] at hk;simp at hk
  ·have hs:aS l n ⟨2,c,v,it,to,e,gs,b⟩=(fR ⟨2,c,v,it,to,e,gs,b⟩):=rfl;rw [hs,h] at hk;simp at hk
  ·have hs:aS l n ⟨3,c,v,it,to,e,gs,b⟩=(fR ⟨3,c,v,it,to,e,gs,b⟩&&decide (0<=v)&&decide (v<l.length)):=rfl;rw [hs,h] at hk;simp at hk
  ·have hs:aS l n ⟨4,c,v,it,to,e,gs,b⟩=(fR ⟨4,c,v,it,to,e,gs,b⟩&&(to.length==e.length)&&(to.zip e).all fun te=>eK l te.1 te.2):=rfl;rw [hs,h] at hk;simp at hk
  ·have hs:aS l n ⟨5,c,v,it,to,e,gs,b⟩=(fR ⟨5,c,v,it,to,e,gs,b⟩&&to1 (gD l n c it) to):=rfl;rw [hs,h] at hk;simp at hk
  ·have hs:aS l n ⟨6,c,v,it,to,e,gs,b⟩=(fR ⟨6,c,v,it,to,e,gs,b⟩&&jW n c it 0&&oS l e it):=rfl;rw [hs,h] at hk;simp at hk
  ·have hs:aS l n ⟨7,c,v,it,to,e,gs,b⟩=(fR ⟨7,c,v,it,to,e,gs,b⟩&&to1 (fun t=>dR l t 1) to):=rfl;rw [hs,h] at hk;simp at hk
  ·have hs:aS l n ⟨8,c,v,it,to,e,gs,b⟩=(fR ⟨8,c,v,it,to,e,gs,b⟩&&oS l e 1):=rfl;rw [hs,h] at hk;simp at hk
  ·have hs:aS l n ⟨9,c,v,it,to,e,gs,b⟩=(fR ⟨9,c,v,it,to,e,gs,b⟩):=rfl;rw [hs,h] at hk;simp at hk
  ·have hs:aS l n ⟨10,c,v,it,to,e,gs,b⟩=(fR ⟨10,c,v,it,to,e,gs,b⟩):=rfl;rw [hs,h] at hk;simp at hk
  ·have hs:aS l n ⟨11,c,v,it,to,e,gs,b⟩=(fR ⟨11,c,v,it,to,e,gs,b⟩):=rfl;rw [hs,h] at hk;simp at hk
  ·have hs:aS l n ⟨12,c,v,it,to,e,gs,b⟩=(fR ⟨12,c,v,it,to,e,gs,b⟩&&gs.all fun g=>cH l n g ((12:Int)==12)):=rfl;rw [hs,h] at hk;simp at hk
  ·have hs:aS l n ⟨13,c,v,it,to,e,gs,b⟩=(fR ⟨13,c,v,it,to,e,gs,b⟩&&oS l e 3):=rfl;rw [hs,h] at hk;simp at hk
  ·have hs:aS l n ⟨14,c,v,it,to,e,gs,b⟩=(fR ⟨14,c,v,it,to,e,gs,b⟩&&gs.all fun g=>cH l n g ((14:Int)==12)):=rfl;rw [hs,h] at hk;simp at hk
  ·have hs:aS l n ⟨15,c,v,it,to,e,gs,b⟩=(fR ⟨15,c,v,it,to,e,gs,b⟩&&gs.all fun g=>cH l n g ((15:Int)==12)):=rfl;rw [hs,h] at hk;simp at hk
theorem idxR_p{gs:Ua}(f:FuncId)(c:List AV)(p:PR->Bool)(l:List PR)(hcb: ∀g,g∈l->Pure prog gs f (aB g::c) (AB (p g)))(hb:l.length<=281474976710656):
 Pure prog gs 58 [iQ l, .fn f [] c] (AI (mU p l 0)):=by
 refine P_ func58 19 fun _ _ _ _=>?_;refine y_ ?_;refine A.ad 7 T (x':=AI (l.length:Nat)) (aM (by rw [aW])) ?_;refine A.ay [0,1,7,8] T ?_;refine A.ar (ι:=Nat) (fun i=>(⟨[(0,iQ l),(1, .fn f [] c),(7,AI (l.length:Nat)),(8,AI (i:Int))],[]⟩,[])) (fun i=>i<=l.length/\mU p l 0=mU p (l.drop i) i) (fun i=>l.length-i) 0 ⟨by omega,rfl⟩ T fun i hi ih=>?_;refine y_ ?_;refine k_ (fun hc=>?_) fun hc=>?_
 ·simp at hc;refine aX hc fun x hx=>?_;have hx1:=hcb x (aa2 hx);refine y_ ?_;refine i_ T (cF hx) (bP x) ?_;refine A.c T hx1 fO.refl ?_;have h1:=hi.2;rw [bS hx,mU] at h1;cases hp:p x with
  |true=>
   rw [hp] at h1;refine y_ ?_;refine R_ ?_;rw [h1];exact .refl
  |false=>
   rw [hp] at h1;refine y_ ?_;refine vI 8 i ?_;refine u_ (ih (i+1) ⟨by omega,h1⟩ (by omega))
 ·simp at hc;have:i=l.length:=by omega
  subst this;refine y_ ?_;refine R_ ?_;rw [hi.2,ad2];exact .refl
theorem IP{gs:Ua}(f:FuncId)(c:List AV)(p:PR->Bool)(l:List PR)(hcb: ∀g,g∈l->Pure prog gs f (aB g::c) (AB (p g)))(hb:l.length<=281474976710656):
 Pure prog gs 28 [iQ l, .fn f [] c] (AB (l.any p)):=by
 refine P_ func28 9 fun _ _ _ _=>?_;refine y_ ?_;refine c_ (idxR_p f c p l hcb hb) ?_;refine R_ ?_;refine Sb.eq (aA ?_);exact nC p l 0
def oK(p:PR):Bool:=p.kind !=3
theorem SY(p:PR):Pure prog a9 29 [aB p] (AB (oK p)):=by
 refine P_ func29 6 fun _ _ _ _=>?_
 (refine b_ fun bx=>?_;refine y_ ?_);exact r_
def iI(p:PR):Bool:=p.kind==9&&(decide (0<p.l.length)&& !(p.l.take (p.l.length-1)).any oK)
def bK(p:PR):PR:=if iI p=true then p.l[p.l.length-1]?.getD p else p
theorem yY{p y:PR}(h:iI p=true)(hy:p.l[p.l.length-1]? =some y):bK p=y:=by rw [bK,iT h,hy];rfl
theorem sH{p:PR}(h:iI p=false):bK p=p:=iF (by rw [h];simp)
theorem last_a(p:PR)(kind:Int)(h:iI p=false)(hl:p.l.length<=281474976710656):Pure prog a9 13 [aB p,aU kind] (.tp [aB p,AB (p.kind==kind)]):=by
 have n1:((bC p.l).length:Int)=p.l.length:=by rw [aW]
 by_cases h9:p.kind=9
 case neg=>
  have h9b:(p.kind==9)=false:=beq_eq_false_iff_ne.2 h9;refine P_ func13 37 fun w0 h0 F hgs=>?_
  (refine b_ fun bx=>?_;refine b_ fun bx=>?_;refine y_ ?_)
  refine e_ 13 T (x':=AB false) (aA h9b) ?_;refine A.dx 4 0 6 [0,1,2,3,4,5] (fun i=>if i=5 then [0] else []) [] T (by decide) T (by kernel_rfl) ?_;refine w_ ?_;refine WA.store T T T T T T T T T T ?_;refine WA.nil (l:=[_]) T ?_;refine y_ ?_;refine m_ (d8.cell T T T (d8.tmp T d8.nil)) ?_;exact .refl
 have h9b:(p.kind==9)=true:=beq_iff_eq.2 h9;rw [iI,h9b,ab3] at h
 by_cases h0:0<p.l.length
 case neg=>
  refine P_ func13 37 fun w0 h0 F hgs=>?_
  (refine b_ fun bx=>?_;refine b_ fun bx=>?_;refine y_ ?_)
  refine e_ 13 T (x':=AB true) (aA h9b) ?_;refine e_ 17 T (x':=AB false) (aA (by rw [n1];exact decide_eq_false (by omega))) ?_;refine A.dx 4 0 6 [0,1,2,3,4,5] (fun i=>if i=5 then [0] else []) [] T (by decide) T (by kernel_rfl) ?_;refine w_ ?_;refine WA.store T T T T T T T T T T ?_;refine WA.nil (l:=[_]) T ?_;refine y_ ?_;refine m_ (d8.cell T T T (d8.tmp T d8.nil)) ?_;exact .refl
 rw [decide_eq_true h0,ab3] at h;have hcf:=IP 29 [] oK (p.l.take (p.l.length-1)) (fun g _=>SY g) (by rw [ac3];omega);have hu:(p.l.take (p.l.length-1)).any oK=true:=by simpa using h
 rw [hu] at hcf;have hwr:IntKind.i64.wrap ((p.l.length:Int)-1)=((p.l.length-1:Nat):Int):=by rw [fZ _ (by omega)];omega
 refine P_ func13 37 fun w0 h0 F hgs=>?_
 (refine b_ fun bx=>?_;refine b_ fun bx=>?_;refine y_ ?_)
 refine e_ 13 T (x':=AB true) (aA h9b) ?_;refine e_ 17 T (x':=AB true) (aA (by rw [n1];simp;omega)) ?_;refine A.ad 21 T (x':=AI ((p.l.length-1:Nat):Int)) (aM (by rw [n1];exact hwr)) ?_;refine A.slice (ys:=bC (p.l.take (p.l.length-1))) T T T T T T T T T (by decide) (by omega) (by rw [aW];omega) (by simp [mZ,at9]) T ?_;refine c_ hcf ?_;refine A.dx 4 0 6 [0,1,2,3,4,5] (fun i=>if i=5 then [0] else []) [] T (by decide) T (by kernel_rfl) ?_;refine w_ ?_;refine WA.store T T T T T T T T T T ?_;refine WA.nil (l:=[_]) T ?_;refine y_ ?_;refine m_ (d8.cell T T T (d8.tmp T d8.nil)) ?_;exact .refl
theorem last_b(p y:PR)(kind:Int)(h:iI p=true)(hy:p.l[p.l.length-1]? =some y)(hl:p.l.length<=281474976710656):Pure prog a9 13 [aB p,aU kind] (.tp [aB y,AB (y.kind==kind)]):=by
 have n1:((bC p.l).length:Int)=p.l.length:=by rw [aW]
 simp only [iI,aa1,dT,ag1] at h;obtain ⟨h9b,h0,hu⟩:=h;have hcf:=IP 29 [] oK (p.l.take (p.l.length-1)) (fun g _=>SY g) (by rw [ac3];omega);rw [hu] at hcf;have hwr:IntKind.i64.wrap ((p.l.length:Int)-1)=((p.l.length-1:Nat):Int):=by rw [fZ _ (by omega)];omega
 refine P_ func13 37 fun w0 h0 F hgs=>?_
 (refine b_ fun bx=>?_;refine b_ fun bx=>?_;refine y_ ?_)
 refine e_ 13 T (x':=AB true) (aA h9b) ?_;refine e_ 17 T (x':=AB true) (aA (by rw [n1];simp;omega)) ?_;refine A.ad 21 T (x':=AI ((p.l.length-1:Nat):Int)) (aM (by rw [n1];exact hwr)) ?_;refine A.slice (ys:=bC (p.l.take (p.l.length-1))) T T T T T T T T T (by decide) (by omega) (by rw [aW];omega) (by simp [mZ,at9]) T ?_;refine c_ hcf ?_;refine A.ad 29 T (x':=AI ((p.l.length-1:Nat):Int)) (aM (by rw [n1];exact hwr)) ?_;refine i_ T (cF hy) (bP y) ?_;refine A.dx 4 0 6 [0,1,2,3,4,5] (fun i=>if i=5 then [0] else []) [] T (by decide) T (by kernel_rfl) ?_;refine w_ ?_;refine WA.store T T T T T T T T T T ?_;refine WA.nil (l:=[_]) T ?_;refine y_ ?_;refine m_ (d8.cell T T T (d8.tmp T d8.nil)) ?_;exact .refl
theorem C8{p:PR}(h:iI p=true): ∃y,p.l[p.l.length-1]? =some y:=by simp only [iI,aa1,dT] at h;exact dC (by omega)
theorem ZV(p:PR)(kind:Int)(hl:p.l.length<=281474976710656):Pure prog a9 13 [aB p,aU kind] (.tp [aB (bK p),AB ((bK p).kind==kind)]):=by
 cases h:iI p with
 |false=>rw [sH h];exact last_a p kind h hl |true=>
  obtain ⟨y,hy⟩:=C8 h;rw [yY h hy];exact last_b p y kind h hy hl
end Go.Proofs.YtkbolbpojpmicaaGreatDoor
namespace Go.Proofs.YtkbolbpojpmicaaGreatDoor.S22
open Go Go.Tp
theorem dW{C:nY}{k:List It}{e:Env}{h:GH}{L:List a6}{p:Nat}{t:TypeId}{b off:Nat}{ti:TI}{x:a6}{v:Value}(hk:atEnd k=true)(hrd:C.rd=none)(hD:C.D=[])(hr:C.fn.results= #[.cell p t])(hl:Go.Tp.look e.us p=some (.pointer (some ⟨b,off,none⟩)))(ht:C.S.get t=some ti)
 [i:EntAt L b x] (hv:S1 ti x off=some v) (hR:C.R v h L):V C k e h L:=
 V.gh (L0:=[]) (F0:=L) hk hrd (by rw [hD];rfl) hr hl ht (i:=i) hv hR
noncomputable def cfg (w0:World) (f:FuncId) (fn:Func) (n:Nat) (R:Value->GH->List a6->Prop) (hf:prog.funcs[f]? =some fn):nY:={P:=prog,S:=tt,w0:=w0,f:=f,fn:=fn,n:=n,R:=R,ok:=dN,hfn:=hf}
def EV(x:Value)(h:GH)(L:List a6):Value->GH->List a6->Prop:=fun v h' L'=>v=x/\h.le h'/\L.Sublist L'
def aY(e:KE):Bool:=
 if e.kind=1 then e.oper==0&&e.to==0&&e.v==0&&e.l.length==0
 else if e.kind=2 then e.oper==0&&e.to==0&&e.n==0&&decide (0<=e.v)&&decide (e.v<=255)&&e.l.length==0
 else if e.kind=3 then e.oper==0&&e.to==0&&e.n==0&&decide (0<=e.v)&&decide (e.v<=255)&&e.l.length==1
 else if e.kind=4 then decide (23<=e.oper)&&decide (e.oper<=26)&&e.to==0&&e.n==0&&e.v==0&&e.l.length==1
 else if e.kind=5 then decide (1<=e.oper)&&decide (e.oper<=22)&&e.to==0&&e.n==0&&e.v==0&&e.l.length==2
 else if e.kind=6 then e.oper==0&&decide (1<=e.to)&&decide (e.to<=3)&&e.n==0&&e.v==0&&e.l.length==1
 else false
theorem shape_k(e:KE)(h:e.kind≠1)(h2:e.kind≠2)(h3:e.kind≠3)(h4:e.kind≠4)(h5:e.kind≠5)(h6:e.kind≠6):aY e=false:=by simp [aY, *]
theorem qL(w0:World)(h:GH)(L:List a6)(e:KE)(cs:List Value)(hr:RK h e cs):bM prog w0 118 [.agg ⟨cs⟩] h L (Is (.bool (aY e)) h L):=by
 obtain ⟨k,o,t,n,v,l⟩:=e;simp only [RK] at hr;obtain ⟨hz,a,cap,rfl,hcap,hl⟩:=hr;unfold u8 i32 i64 at hz;refine bM.is (bM.cx (cfg w0 118 f118 107 (EV (.bool (aY ⟨k,o,t,n,v,l⟩)) h L) func118) T T T T T T ?_)
 by_cases h1:k=1
 ·subst h1;(repeat (first|refine V.step T ?_|refine V.load T T T T T T ?_|refine V.store T T T T T T T ?_|refine V.af T ?_|refine V.ae T ?_));refine V.box T T T T T T fun be=>?_;(repeat (first|refine V.step T ?_|refine V.load T T T T T T ?_|refine V.store T T T T T T T ?_|refine V.af T ?_|refine V.ae T ?_));refine V.alloc T T T T T T fun bx=>?_;(repeat (first|refine V.step T ?_|refine V.load T T T T T T ?_|refine V.store T T T T T T T ?_|refine V.af T ?_|refine V.ae T ?_));refine V.az (L0:=[]) T T T T T ⟨?_,GH.le_refl _,(by repeat (first|exact List.Sublist.refl _|apply List.Sublist.cons))⟩;(refine mR ?_;simp only [aY,KE.kind,KE.oper,KE.to,KE.n,KE.v,KE.l];generalize l.length=len at*;(try simp at h9);simp;omega)
 by_cases h2:k=2
 ·subst h2;(repeat (first|refine V.step T ?_|refine V.load T T T T T T ?_|refine V.store T T T T T T T ?_|refine V.af T ?_|refine V.ae T ?_));refine V.box T T T T T T fun be=>?_;(repeat (first|refine V.step T ?_|refine V.load T T T T T T ?_|refine V.store T T T T T T T ?_|refine V.af T ?_|refine V.ae T ?_));refine V.alloc T T T T T T fun bx=>?_;(repeat (first|refine V.step T ?_|refine V.load T T T T T T ?_|refine V.store T T T T T T T ?_|refine V.af T ?_|refine V.ae T ?_));refine V.az (L0:=[]) T T T T T ⟨?_,GH.le_refl _,(by repeat (first|exact List.Sublist.refl _|apply List.Sublist.cons))⟩;(refine mR ?_;simp only [aY,KE.kind,KE.oper,KE.to,KE.n,KE.v,KE.l];generalize l.length=len at*;(try simp at h9);simp;omega)
 by_cases h3:k=3
 ·subst h3;(repeat (first|refine V.step T ?_|refine V.load T T T T T T ?_|refine V.store T T T T T T T ?_|refine V.af T ?_|refine V.ae T ?_));refine V.box T T T T T T fun be=>?_;(repeat (first|refine V.step T ?_|refine V.load T T T T T T ?_|refine V.store T T T T T T T ?_|refine V.af T ?_|refine V.ae T ?_));refine V.alloc T T T T T T fun bx=>?_;(repeat (first|refine V.step T ?_|refine V.load T T T T T T ?_|refine V.store T T T T T T T ?_|refine V.af T ?_|refine V.ae T ?_));refine V.az (L0:=[]) T T T T T ⟨?_,GH.le_refl _,(by repeat (first|exact List.Sublist.refl _|apply List.Sublist.cons))⟩;(refine mR ?_;simp only [aY,KE.kind,KE.oper,KE.to,KE.n,KE.v,KE.l];generalize l.length=len at*;(try simp at h9);simp;omega)
 by_cases h4:k=4
 ·subst h4;(repeat (first|refine V.step T ?_|refine V.load T T T T T T ?_|refine V.store T T T T T T T ?_|refine V.af T ?_|refine V.ae T ?_));refine V.box T T T T T T fun be=>?_;(repeat (first|refine V.step T ?_|refine V.load T T T T T T ?_|refine V.store T T T T T T T ?_|refine V.af T ?_|refine V.ae T ?_));refine V.alloc T T T T T T fun bx=>?_;(repeat (first|refine V.step T ?_|refine V.load T T T T T T ?_|refine V.store T T T T T T T ?_|refine V.af T ?_|refine V.ae T ?_));refine V.cond T (fun h9=>?_) (fun h9=>?_)
  ·(repeat (first|refine V.step T ?_|refine V.load T T T T T T ?_|refine V.store T T T T T T T ?_|refine V.af T ?_|refine V.ae T ?_));refine V.az (L0:=[]) T T T T T ⟨?_,GH.le_refl _,(by repeat (first|exact List.Sublist.refl _|apply List.Sublist.cons))⟩;(refine mR ?_;simp only [aY,KE.kind,KE.oper,KE.to,KE.n,KE.v,KE.l];generalize l.length=len at*;(try simp at h9);simp;omega)
  ·(repeat (first|refine V.step T ?_|refine V.load T T T T T T ?_|refine V.store T T T T T T T ?_|refine V.af T ?_|refine V.ae T ?_));refine V.az (L0:=[]) T T T T T ⟨?_,GH.le_refl _,(by repeat (first|exact List.Sublist.refl _|apply List.Sublist.cons))⟩;(refine mR ?_;simp only [aY,KE.kind,KE.oper,KE.to,KE.n,KE.v,KE.l];generalize l.length=len at*;(try simp at h9);simp;omega)
 by_cases h5:k=5
 ·subst h5;(repeat (first|refine V.step T ?_|refine V.load T T T T T T ?_|refine V.store T T T T T T T ?_|refine V.af T ?_|refine V.ae T ?_));refine V.box T T T T T T fun be=>?_;(repeat (first|refine V.step T ?_|refine V.load T T T T T T ?_|refine V.store T T T T T T T ?_|refine V.af T ?_|refine V.ae T ?_));refine V.alloc T T T T T T fun bx=>?_;(repeat (first|refine V.step T ?_|refine V.load T T T T T T ?_|refine V.store T T T T T T T ?_|refine V.af T ?_|refine V.ae T ?_));refine V.cond T (fun h9=>?_) (fun h9=>?_)
  ·(repeat (first|refine V.step T ?_|refine V.load T T T T T T ?_|refine V.store T T T T T T T ?_|refine V.af T ?_|refine V.ae T ?_));refine V.az (L0:=[]) T T T T T ⟨?_,GH.le_refl _,(by repeat (first|exact List.Sublist.refl _|apply List.Sublist.cons))⟩;(refine mR ?_;simp only [aY,KE.kind,KE.oper,KE.to,KE.n,KE.v,KE.l];generalize l.length=len at*;(try simp at h9);simp;omega)
  ·(repeat (first|refine V.step T ?_|refine V.load T T T T T T ?_|refine V.store T T T T T T T ?_|refine V.af T ?_|refine V.ae T ?_));refine V.az (L0:=[]) T T T T T ⟨?_,GH.le_refl _,(by repeat (first|exact List.Sublist.refl _|apply List.Sublist.cons))⟩;(refine mR ?_;simp only [aY,KE.kind,KE.oper,KE.to,KE.n,KE.v,KE.l];generalize l.length=len at*;(try simp at h9);simp;omega)
 by_cases h6:k=6
 ·subst h6;(repeat (first|refine V.step T ?_|refine V.load T T T T T T ?_|refine V.store T T T T T T T ?_|refine V.af T ?_|refine V.ae T ?_));refine V.box T T T T T T fun be=>?_;(repeat (first|refine V.step T ?_|refine V.load T T T T T T ?_|refine V.store T T T T T T T ?_|refine V.af T ?_|refine V.ae T ?_));refine V.alloc T T T T T T fun bx=>?_;(repeat (first|refine V.step T ?_|refine V.load T T T T T T ?_|refine V.store T T T T T T T ?_|refine V.af T ?_|refine V.ae T ?_));refine V.cond T (fun h9=>?_) (fun h9=>?_)
  ·(repeat (first|refine V.step T ?_|refine V.load T T T T T T ?_|refine V.store T T T T T T T ?_|refine V.af T ?_|refine V.ae T ?_));refine V.az (L0:=[]) T T T T T ⟨?_,GH.le_refl _,(by repeat (first|exact List.Sublist.refl _|apply List.Sublist.cons))⟩;(refine mR ?_;simp only [aY,KE.kind,KE.oper,KE.to,KE.n,KE.v,KE.l];generalize l.length=len at*;(try simp at h9);simp;omega)
  ·(repeat (first|refine V.step T ?_|refine V.load T T T T T T ?_|refine V.store T T T T T T T ?_|refine V.af T ?_|refine V.ae T ?_));refine V.az (L0:=[]) T T T T T ⟨?_,GH.le_refl _,(by repeat (first|exact List.Sublist.refl _|apply List.Sublist.cons))⟩;(refine mR ?_;simp only [aY,KE.kind,KE.oper,KE.to,KE.n,KE.v,KE.l];generalize l.length=len at*;(try simp at h9);simp;omega)
 (repeat (first|refine V.step T ?_|refine V.load T T T T T T ?_|refine V.store T T T T T T T ?_|refine V.af T ?_|refine V.ae T ?_));refine V.box T T T T T T fun be=>?_;(repeat (first|refine V.step T ?_|refine V.load T T T T T T ?_|refine V.store T T T T T T T ?_|refine V.af T ?_|refine V.ae T ?_));refine V.alloc T T T T T T fun bx=>?_;(repeat (first|refine V.step T ?_|refine V.load T T T T T T ?_|refine V.store T T T T T T T ?_|refine V.af T ?_|refine V.ae T ?_));refine V.cond T (fun hc=>(by simp at hc;omega)) (fun _=>?_);(repeat (first|refine V.step T ?_|refine V.load T T T T T T ?_|refine V.store T T T T T T T ?_|refine V.af T ?_|refine V.ae T ?_));refine V.cond T (fun hc=>(by simp at hc;omega)) (fun _=>?_);(repeat (first|refine V.step T ?_|refine V.load T T T T T T ?_|refine V.store T T T T T T T ?_|refine V.af T ?_|refine V.ae T ?_));refine V.cond T (fun hc=>(by simp at hc;omega)) (fun _=>?_);(repeat (first|refine V.step T ?_|refine V.load T T T T T T ?_|refine V.store T T T T T T T ?_|refine V.af T ?_|refine V.ae T ?_));refine V.cond T (fun hc=>(by simp at hc;omega)) (fun _=>?_);(repeat (first|refine V.step T ?_|refine V.load T T T T T T ?_|refine V.store T T T T T T T ?_|refine V.af T ?_|refine V.ae T ?_));refine V.cond T (fun hc=>(by simp at hc;omega)) (fun _=>?_);(repeat (first|refine V.step T ?_|refine V.load T T T T T T ?_|refine V.store T T T T T T T ?_|refine V.af T ?_|refine V.ae T ?_));refine V.cond T (fun hc=>(by simp at hc;omega)) (fun _=>?_);(repeat (first|refine V.step T ?_|refine V.load T T T T T T ?_|refine V.store T T T T T T T ?_|refine V.af T ?_|refine V.ae T ?_));refine V.az (L0:=[]) T T T T T ⟨?_,GH.le_refl _,(by repeat (first|exact List.Sublist.refl _|apply List.Sublist.cons))⟩;rw [shape_k ⟨k,o,t,n,v,l⟩ h1 h2 h3 h4 h5 h6]
def sureB(e:KE):Bool:=if e.kind=1 then true else if e.kind=2 then true else if e.kind=4 then !(e.oper==23) else if e.kind=5 then decide (e.oper≥6) else if e.kind=6 then e.to==1 else false
theorem fL(w0:World)(h:GH)(L:List a6)(x y:Int)(b:Nat)(hr:iB h b 0 [.int .i64 y])(c:Nat):bM prog w0 129 [.int .i64 x, .slice (some ⟨b,0,none⟩) 1 c] h L (Is (.int .i64 (max x y)) h L):=by
 refine bM.is (bM.cx (cfg w0 129 f129 18 (EV (.int .i64 (max x y)) h L) func129) T T T T T T ?_);(repeat (first|refine V.step T ?_|refine V.load T T T T T T ?_|refine V.store T T T T T T T ?_|refine V.af T ?_|refine V.ae T ?_));refine V.bh ?_;(repeat (first|refine V.step T ?_|refine V.load T T T T T T ?_|refine V.store T T T T T T T ?_|refine V.af T ?_|refine V.ae T ?_));refine V.index T T T T T T (by omega) (by decide) ?_;refine V.fh T T T T T (hr 0 _ T) T ?_;(repeat (first|refine V.step T ?_|refine V.load T T T T T T ?_|refine V.store T T T T T T T ?_|refine V.af T ?_|refine V.ae T ?_));refine V.again ?_;(repeat (first|refine V.step T ?_|refine V.load T T T T T T ?_|refine V.store T T T T T T T ?_|refine V.af T ?_|refine V.ae T ?_));refine V.az (L0:=[]) T T T T T ⟨?_,GH.le_refl _,(by repeat (first|exact List.Sublist.refl _|apply List.Sublist.cons))⟩;refine MK ?_
 (try simp only []);split<;>omega
structure NR where
 safe:Bool
 regs:Int
 temps:Int
mutual
def sz:KE->Nat
 |⟨_,_,_,_,_,l⟩=>1+jQ l
def jQ:List KE->Nat
 | []=>0 |e::r=>sz e+jQ r
end
mutual
def ht:KE->Nat
 |⟨_,_,_,_,_,l⟩=>1+oZ l
def oZ:List KE->Nat
 | []=>0 |e::r=>max (ht e) (oZ r)
end
mutual
def fine:KE->Bool
 |⟨k,o,t,n,v,l⟩=>aY ⟨k,o,t,n,v,l⟩&&eF l
def eF:List KE->Bool
 | []=>true |e::r=>fine e&&eF r
end
def kP(k o t:Int):Bool:=if k=4 then (o==25||o==26) else if k=6 then t==1 else false
def jn(k o t n v:Int):List NR->NR
 | []=>⟨sureB ⟨k,o,t,n,v,[]⟩,1,0⟩ | [a]=>⟨a.safe&&sureB ⟨k,o,t,n,v,[]⟩,if kP k o t then a.regs else max a.regs 2,a.temps⟩
 |a::b::_=>⟨a.safe&&b.safe&&sureB ⟨k,o,t,n,v,[]⟩,if o≠20/\o≠21/\a.regs=b.regs then min (a.regs+1) 3 else max a.regs b.regs,
   if o≠20/\o≠21/\a.regs=3/\b.regs=3 then max b.temps (a.temps+1) else max a.temps b.temps⟩
mutual
def ne:KE->NR
 |⟨k,o,t,n,v,l⟩=>jn k o t n v (nel l)
def nel:List KE->List NR
 | []=>[] |e::r=>ne e::nel r
end
theorem dQ{e:KE}(h:fine e=true):(∃n,e=⟨1,0,0,n,0,[]⟩)\/(∃v,0<=v/\v<=255/\e=⟨2,0,0,0,v,[]⟩)\/(∃v a,0<=v/\v<=255/\fine a=true/\e=⟨3,0,0,0,v,[a]⟩)\/
 (∃o a,23<=o/\o<=26/\fine a=true/\e=⟨4,o,0,0,0,[a]⟩)\/(∃o a b,1<=o/\o<=22/\fine a=true/\fine b=true/\e=⟨5,o,0,0,0,[a,b]⟩)\/(∃t a,1<=t/\t<=3/\fine a=true/\e=⟨6,0,t,0,0,[a]⟩):=by
 obtain ⟨k,o,t,n,v,l⟩:=e;simp only [fine,aa1] at h;obtain ⟨h1,h2⟩:=h;simp only [aY,KE.kind,KE.oper,KE.to,KE.n,KE.v,KE.l] at h1;have l0:l.length=0->l=[]:=fun h=>ad0.1 h;have l1:l.length=1-> ∃a,l=[a]:=fun h=>by
  match l,h with
  | [a],_=>exact ⟨a,rfl⟩
 have l2:l.length=2-> ∃a b,l=[a,b]:=fun h=>by
  match l,h with
  | [a,b],_=>exact ⟨a,b,rfl⟩
 split at h1
 ·subst_vars;simp at h1;obtain ⟨⟨⟨rfl,rfl⟩,rfl⟩,h⟩:=h1;rw [h];exact .inl ⟨n,rfl⟩
 split at h1
 ·subst_vars;simp at h1;obtain ⟨⟨⟨⟨⟨rfl,rfl⟩,rfl⟩,h3⟩,h4⟩,h⟩:=h1;rw [h];exact .inr (.inl ⟨v,h3,h4,rfl⟩)
 split at h1
 ·subst_vars;simp at h1;obtain ⟨⟨⟨⟨⟨rfl,rfl⟩,rfl⟩,h3⟩,h4⟩,h⟩:=h1;obtain ⟨a,rfl⟩:=l1 h;simp [eF] at h2;exact .inr (.inr (.inl ⟨v,a,h3,h4,h2,rfl⟩))
 split at h1
 ·subst_vars;simp at h1;obtain ⟨⟨⟨⟨⟨h3,h4⟩,rfl⟩,rfl⟩,rfl⟩,h⟩:=h1;obtain ⟨a,rfl⟩:=l1 h;simp [eF] at h2;exact .inr (.inr (.inr (.inl ⟨o,a,h3,h4,h2,rfl⟩)))
 split at h1
 ·subst_vars;simp at h1;obtain ⟨⟨⟨⟨⟨h3,h4⟩,rfl⟩,rfl⟩,rfl⟩,h⟩:=h1;obtain ⟨a,b,rfl⟩:=l2 h;simp [eF] at h2;exact .inr (.inr (.inr (.inr (.inl ⟨o,a,b,h3,h4,h2.1,h2.2,rfl⟩))))
 split at h1
 ·subst_vars;simp at h1;obtain ⟨⟨⟨⟨⟨rfl,h3⟩,h4⟩,rfl⟩,rfl⟩,h⟩:=h1;obtain ⟨a,rfl⟩:=l1 h;simp [eF] at h2;exact .inr (.inr (.inr (.inr (.inr ⟨t,a,h3,h4,h2,rfl⟩))))
 ·cases h1
theorem gH(e:KE):1<=sz e:=by obtain ⟨k,o,t,n,v,l⟩:=e;simp only [sz];omega
theorem PK(e:KE):1<=ht e:=by obtain ⟨k,o,t,n,v,l⟩:=e;simp only [ht];omega
theorem kY: ∀(N:Nat) (e:KE),sz e<=N->fine e=true->1<=(ne e).regs/\(ne e).regs<=3/\0<=(ne e).temps/\(ne e).temps<=sz e
 |0,e,h,_=>by have:=gH e;omega |N+1,e,h,hf=>by
  rcases dQ hf with ⟨n,rfl⟩|⟨v,h1,h2,rfl⟩|⟨v,a,h1,h2,h3,rfl⟩|⟨o,a,h1,h2,h3,rfl⟩|⟨o,a,b,h1,h2,h3,h4,rfl⟩|⟨t,a,h1,h2,h3,rfl⟩
  ·simp [ne,nel,jn]
  ·simp [ne,nel,jn]
  ·simp only [sz,jQ] at h;have:=kY N a (by omega) h3;simp [ne,nel,jn,sz,jQ,kP];omega
  ·simp only [sz,jQ] at h;have:=kY N a (by omega) h3;simp only [ne,nel,jn,sz,jQ];refine ⟨?_,?_,?_,?_⟩<;>(try split)<;>omega
  ·simp only [sz,jQ] at h;have:=kY N a (by omega) h3;have:=kY N b (by omega) h4;simp only [ne,nel,jn,sz,jQ];refine ⟨?_,?_,?_,?_⟩<;>(try split)<;>omega
  ·simp only [sz,jQ] at h;have:=kY N a (by omega) h3;simp only [ne,nel,jn,sz,jQ];refine ⟨?_,?_,?_,?_⟩<;>(try split)<;>omega
theorem RK_p1{h:GH}{k o t n v:Int}{a:KE}{cs:List Value}(hr:RK h ⟨k,o,t,n,v,[a]⟩ cs):
 ∃b off cap ca,cs=[.int .u8 k, .int .u8 o, .int .u8 t, .int .i32 n, .int .i64 v, .slice (some ⟨b,off,none⟩) 1 cap]/\iB h b off ca/\RK h a ca/\ca.length=6:=by
 simp only [RK] at hr;obtain ⟨_,a',cap,rfl,hcap,hl⟩:=hr;obtain ⟨b,off,rfl,hq⟩:=hl (by simp);simp only [UC] at hq;obtain ⟨⟨ca,h1,h2⟩,_⟩:=hq;exact ⟨b,off,cap,ca,rfl,h1,h2,h2.len⟩
theorem RK_p2{h:GH}{k o t n v:Int}{a c:KE}{cs:List Value}(hr:RK h ⟨k,o,t,n,v,[a,c]⟩ cs):
 ∃b off cap ca cc,cs=[.int .u8 k, .int .u8 o, .int .u8 t, .int .i32 n, .int .i64 v, .slice (some ⟨b,off,none⟩) 2 cap]/\iB h b off ca/\RK h a ca/\ca.length=6/\iB h b (off+6) cc/\RK h c cc/\cc.length=6:=by
 simp only [RK] at hr;obtain ⟨_,a',cap,rfl,hcap,hl⟩:=hr;obtain ⟨b,off,rfl,hq⟩:=hl (by simp);simp only [UC] at hq;obtain ⟨⟨ca,h1,h2⟩,⟨cc,h3,h4⟩,_⟩:=hq;exact ⟨b,off,cap,ca,cc,rfl,h1,h2,h2.len,h3,h4,h4.len⟩
theorem RK_p0{h:GH}{k o t n v:Int}{cs:List Value}(hr:RK h ⟨k,o,t,n,v,[]⟩ cs):
 ∃a cap,cs=[.int .u8 k, .int .u8 o, .int .u8 t, .int .i32 n, .int .i64 v, .slice a 0 cap]:=by
 simp only [RK] at hr;obtain ⟨_,a',cap,rfl,hcap,hl⟩:=hr;exact ⟨a',cap,rfl⟩
def fits(e:KE)(room deep:Int):Prop:=fine e=true/\(sz e:Int)<=room/\(ht e:Int)<=deep
instance (e:KE) (room deep:Int):Decidable (fits e room deep):=by unfold fits;infer_instance
theorem gV{e:KE}{r d:Int}(h:r<1\/d<1\/aY e=false): ¬fits e r d:=by
 rintro ⟨h1,h2,h3⟩;have:=gH e;have:=PK e;rcases h with h|h|h
 ·omega
 ·omega
 ·obtain ⟨k,o,t,n,v,l⟩:=e;simp only [fine,h,ae4] at h1;cases h1
theorem oH{e:KE}(h:aY e=true):(∃k o t n v,e=⟨k,o,t,n,v,[]⟩)\/(∃k o t n v a,e=⟨k,o,t,n,v,[a]⟩)\/(∃k o t n v a b,e=⟨k,o,t,n,v,[a,b]⟩):=by
 obtain ⟨k,o,t,n,v,l⟩:=e
 match l with
 | []=>exact .inl ⟨k,o,t,n,v,rfl⟩ | [a]=>exact .inr (.inl ⟨k,o,t,n,v,a,rfl⟩)
 | [a,b]=>exact .inr (.inr ⟨k,o,t,n,v,a,b,rfl⟩) |a::b::c::r=>
  simp only [aY,KE.kind,KE.oper,KE.to,KE.n,KE.v,KE.l,ab1] at h;exfalso;revert h;(repeat' split)<;>simp<;>omega
theorem Y8{k o t n v:Int}{a:KE}{room deep:Int}(hs:aY ⟨k,o,t,n,v,[a]⟩=true):fits ⟨k,o,t,n,v,[a]⟩ room deep↔fits a (room-1) (deep-1):=by
 simp only [fits,fine,eF,hs,sz,jQ,ht,oZ,ab3,al1];constructor
 ·rintro ⟨h1,h2,h3⟩;exact ⟨h1,by omega,by omega⟩
 ·rintro ⟨h1,h2,h3⟩;exact ⟨h1,by omega,by omega⟩
theorem Y9{k o t n v:Int}{a b:KE}{room deep:Int}(hs:aY ⟨k,o,t,n,v,[a,b]⟩=true):fits ⟨k,o,t,n,v,[a,b]⟩ room deep↔fits a (room-1) (deep-1)/\fits b (room-(1+sz a)) (deep-1):=by
 simp only [fits,fine,eF,hs,sz,jQ,ht,oZ,ab3,al1,aa1];have:=gH b;constructor
 ·rintro ⟨h1,h2,h3⟩;exact ⟨⟨h1.1,by omega,by omega⟩,⟨h1.2,by omega,by omega⟩⟩
 ·rintro ⟨⟨h1,h2,h3⟩,⟨h4,h5,h6⟩⟩;exact ⟨⟨h1,h4⟩,by omega,by omega⟩
abbrev valid(e:KE):Prop:=fits e 256 32
theorem XA{h:GH}{e:KE}{cs:List Value}(hr:RK h e cs): ∃k o t n v a m cap,cs=[.int .u8 k, .int .u8 o, .int .u8 t, .int .i32 n, .int .i64 v, .slice a m cap]:=by obtain ⟨k,o,t,n,v,l⟩:=e;simp only [RK] at hr;obtain ⟨hz,a,cap,rfl,hcap,hl⟩:=hr;exact ⟨_,_,_,_,_,_,_,_,rfl⟩
def nrOf(e:KE):NR:=if valid e then ne e else ⟨false,0,0⟩
def kB(a:NR):List Value:=[.bool true, .bool a.safe, .int .i64 a.regs, .int .i64 a.temps]
def quietB(o:Int):Bool:=(6<=o&&o<=22)||(24<=o&&o<=26)
def quietL:List Value:=(List.range 27).map fun (i:Nat)=>Value.bool (quietB i)
theorem DY{h:GH}(hq:iB h 0 0 quietL){o:Int}(h0:0<=o)(h1:o<27):h 0 (0+o.toNat*1)=some (.bool (quietB o)):=by
 have:=hq o.toNat (.bool (quietB o)) (by unfold quietL;rw [List.getElem?_map,List.getElem?_range (by omega)];simp only [Option.map_some];rw [show ((o.toNat:Nat):Int)=o by omega])
 simpa using this
theorem PU(w0:World)(h:GH)(L:List a6)(k o t n v:Int)(a':Option Addr)(c1:Nat)(a:Option Addr)(c:Nat):bM prog w0 119 [.agg ⟨[.int .u8 k, .int .u8 o, .int .u8 t, .int .i32 n, .int .i64 v, .slice a' 0 c1]⟩, .slice a 0 c] h L (Is (.agg ⟨kB ⟨true,1,0⟩⟩) h L):=by refine bM.is (bM.cx (cfg w0 119 f119 132 (EV (.agg ⟨kB _⟩) h L) func119) T T T T T T ?_);(repeat (first|refine V.step T ?_|refine V.load T T T T T T ?_|refine V.store T T T T T T T ?_|refine V.af T ?_|refine V.ae T ?_));refine V.box T T T T T T fun be=>?_;refine V.alloc T T T T T T fun bx=>?_;(repeat (first|refine V.step T ?_|refine V.load T T T T T T ?_|refine V.store T T T T T T T ?_|refine V.af T ?_|refine V.ae T ?_));refine dW T T T T T T T ⟨?_,GH.le_refl _,(by repeat (first|exact List.Sublist.refl _|apply List.Sublist.cons))⟩;rfl
theorem fP{s:Bool}{r u:Int}{b:NR}(h1:s=b.safe)(h2:r=b.regs)(h3:u=b.temps):(Value.agg ⟨[.bool true, .bool s, .int .i64 r, .int .i64 u]⟩)= .agg ⟨kB b⟩:=by unfold kB;rw [h1,h2,h3]
theorem PV(w0:World)(h:GH)(L:List a6)(v:Int)(x:NR)(p:Option Addr)(m q:Nat)(b of c:Nat)(ha:iB h b of (kB x)):
 bM prog w0 119 [.agg ⟨[.int .u8 3, .int .u8 0, .int .u8 0, .int .i32 0, .int .i64 v, .slice p m q]⟩, .slice (some ⟨b,of,none⟩) 1 c] h L (Is (.agg ⟨kB (jn 3 0 0 0 v [x])⟩) h L):=by
 obtain ⟨s,r,u⟩:=x;cases s
 ·refine bM.is (bM.cx (cfg w0 119 f119 132 (EV (.agg ⟨kB _⟩) h L) func119) T T T T T T ?_);(repeat (first|refine V.aq T ?_|refine V.ah T T T T T T ?_|refine V.store T T T T T T T ?_|refine V.af T ?_|refine V.ae T ?_|refine V.skip T T ?_|refine V.al T T T ?_|refine V.aj T T T T T ?_|refine V.ai T T T T T ?_|refine V.step T ?_|refine V.load T T T T T T ?_));refine V.box T T T T T T fun be=>?_;refine V.alloc T T T T T T fun bx=>?_;(repeat (first|refine V.aq T ?_|refine V.ah T T T T T T ?_|refine V.store T T T T T T T ?_|refine V.af T ?_|refine V.ae T ?_|refine V.skip T T ?_|refine V.al T T T ?_|refine V.aj T T T T T ?_|refine V.ai T T T T T ?_|refine V.step T ?_|refine V.load T T T T T T ?_));refine V.index T T T T T T (by decide) (by decide) ?_;refine V.bp T T T T T ha T T ?_;refine V.alloc T T T T T T fun bx=>?_;(repeat (first|refine V.aq T ?_|refine V.ah T T T T T T ?_|refine V.store T T T T T T T ?_|refine V.af T ?_|refine V.ae T ?_|refine V.skip T T ?_|refine V.al T T T ?_|refine V.aj T T T T T ?_|refine V.ai T T T T T ?_|refine V.step T ?_|refine V.load T T T T T T ?_));refine V.cv T T T T T T fun b2 h2' hle2 hat2=>?_;(repeat (first|refine V.aq T ?_|refine V.ah T T T T T T ?_|refine V.store T T T T T T T ?_|refine V.af T ?_|refine V.ae T ?_|refine V.skip T T ?_|refine V.al T T T ?_|refine V.aj T T T T T ?_|refine V.ai T T T T T ?_|refine V.step T ?_|refine V.load T T T T T T ?_));refine V.bz T T T T T T (fL w0 _ _ _ _ _ hat2 _) ?_;(repeat (first|refine V.aq T ?_|refine V.ah T T T T T T ?_|refine V.store T T T T T T T ?_|refine V.af T ?_|refine V.ae T ?_|refine V.skip T T ?_|refine V.al T T T ?_|refine V.aj T T T T T ?_|refine V.ai T T T T T ?_|refine V.step T ?_|refine V.load T T T T T T ?_));refine dW T T T T T T T ⟨?_,hle2,(by repeat (first|exact List.Sublist.refl _|apply List.Sublist.cons))⟩;(refine fP ?_ ?_ T<;>(simp [jn,sureB,kP,quietB,KE.kind,KE.oper,KE.to,KE.n,KE.v,KE.l]<;>(try split)<;>(try omega)))
 ·refine bM.is (bM.cx (cfg w0 119 f119 132 (EV (.agg ⟨kB _⟩) h L) func119) T T T T T T ?_);(repeat (first|refine V.aq T ?_|refine V.ah T T T T T T ?_|refine V.store T T T T T T T ?_|refine V.af T ?_|refine V.ae T ?_|refine V.skip T T ?_|refine V.al T T T ?_|refine V.aj T T T T T ?_|refine V.ai T T T T T ?_|refine V.step T ?_|refine V.load T T T T T T ?_));refine V.box T T T T T T fun be=>?_;refine V.alloc T T T T T T fun bx=>?_;(repeat (first|refine V.aq T ?_|refine V.ah T T T T T T ?_|refine V.store T T T T T T T ?_|refine V.af T ?_|refine V.ae T ?_|refine V.skip T T ?_|refine V.al T T T ?_|refine V.aj T T T T T ?_|refine V.ai T T T T T ?_|refine V.step T ?_|refine V.load T T T T T T ?_));refine V.index T T T T T T (by decide) (by decide) ?_;refine V.bp T T T T T ha T T ?_;refine V.alloc T T T T T T fun bx=>?_;(repeat (first|refine V.aq T ?_|refine V.ah T T T T T T ?_|refine V.store T T T T T T T ?_|refine V.af T ?_|refine V.ae T ?_|refine V.skip T T ?_|refine V.al T T T ?_|refine V.aj T T T T T ?_|refine V.ai T T T T T ?_|refine V.step T ?_|refine V.load T T T T T T ?_));refine V.cv T T T T T T fun b2 h2' hle2 hat2=>?_;(repeat (first|refine V.aq T ?_|refine V.ah T T T T T T ?_|refine V.store T T T T T T T ?_|refine V.af T ?_|refine V.ae T ?_|refine V.skip T T ?_|refine V.al T T T ?_|refine V.aj T T T T T ?_|refine V.ai T T T T T ?_|refine V.step T ?_|refine V.load T T T T T T ?_));refine V.bz T T T T T T (fL w0 _ _ _ _ _ hat2 _) ?_;(repeat (first|refine V.aq T ?_|refine V.ah T T T T T T ?_|refine V.store T T T T T T T ?_|refine V.af T ?_|refine V.ae T ?_|refine V.skip T T ?_|refine V.al T T T ?_|refine V.aj T T T T T ?_|refine V.ai T T T T T ?_|refine V.step T ?_|refine V.load T T T T T T ?_));refine dW T T T T T T T ⟨?_,hle2,(by repeat (first|exact List.Sublist.refl _|apply List.Sublist.cons))⟩;(refine fP ?_ ?_ T<;>(simp [jn,sureB,kP,quietB,KE.kind,KE.oper,KE.to,KE.n,KE.v,KE.l]<;>(try split)<;>(try omega)))
theorem PW(w0:World)(h:GH)(hq:iB h 0 0 quietL)(L:List a6)(o:Int)(h1:23<=o)(h2:o<=26)(x:NR)(p:Option Addr)(m q:Nat)(b of c:Nat)(ha:iB h b of (kB x)):
 bM prog w0 119 [.agg ⟨[.int .u8 4, .int .u8 o, .int .u8 0, .int .i32 0, .int .i64 0, .slice p m q]⟩, .slice (some ⟨b,of,none⟩) 1 c] h L (Is (.agg ⟨kB (jn 4 o 0 0 0 [x])⟩) h L):=by
 have ho:o=23\/o=24\/o=25\/o=26:=by omega
 obtain ⟨s,r,u⟩:=x;rcases ho with rfl|rfl|rfl|rfl<;>cases s
 ·refine bM.is (bM.cx (cfg w0 119 f119 132 (EV (.agg ⟨kB _⟩) h L) func119) T T T T T T ?_);(repeat (first|refine V.aq T ?_|refine V.ah T T T T T T ?_|refine V.store T T T T T T T ?_|refine V.af T ?_|refine V.ae T ?_|refine V.skip T T ?_|refine V.al T T T ?_|refine V.aj T T T T T ?_|refine V.ai T T T T T ?_|refine V.step T ?_|refine V.load T T T T T T ?_));refine V.box T T T T T T fun be=>?_;refine V.alloc T T T T T T fun bx=>?_;(repeat (first|refine V.aq T ?_|refine V.ah T T T T T T ?_|refine V.store T T T T T T T ?_|refine V.af T ?_|refine V.ae T ?_|refine V.skip T T ?_|refine V.al T T T ?_|refine V.aj T T T T T ?_|refine V.ai T T T T T ?_|refine V.step T ?_|refine V.load T T T T T T ?_));refine V.index T T T T T T (by decide) (by decide) ?_;refine V.bp T T T T T ha T T ?_;refine V.alloc T T T T T T fun bx=>?_;(repeat (first|refine V.aq T ?_|refine V.ah T T T T T T ?_|refine V.store T T T T T T T ?_|refine V.af T ?_|refine V.ae T ?_|refine V.skip T T ?_|refine V.al T T T ?_|refine V.aj T T T T T ?_|refine V.ai T T T T T ?_|refine V.step T ?_|refine V.load T T T T T T ?_));refine V.cv T T T T T T fun b2 h2' hle2 hat2=>?_;(repeat (first|refine V.aq T ?_|refine V.ah T T T T T T ?_|refine V.store T T T T T T T ?_|refine V.af T ?_|refine V.ae T ?_|refine V.skip T T ?_|refine V.al T T T ?_|refine V.aj T T T T T ?_|refine V.ai T T T T T ?_|refine V.step T ?_|refine V.load T T T T T T ?_));refine V.bz T T T T T T (fL w0 _ _ _ _ _ hat2 _) ?_;(repeat (first|refine V.aq T ?_|refine V.ah T T T T T T ?_|refine V.store T T T T T T T ?_|refine V.af T ?_|refine V.ae T ?_|refine V.skip T T ?_|refine V.al T T T ?_|refine V.aj T T T T T ?_|refine V.ai T T T T T ?_|refine V.step T ?_|refine V.load T T T T T T ?_));refine dW T T T T T T T ⟨?_,hle2,(by repeat (first|exact List.Sublist.refl _|apply List.Sublist.cons))⟩;(refine fP ?_ ?_ T<;>(simp [jn,sureB,kP,quietB,KE.kind,KE.oper,KE.to,KE.n,KE.v,KE.l]<;>(try split)<;>(try omega)))
 ·refine bM.is (bM.cx (cfg w0 119 f119 132 (EV (.agg ⟨kB _⟩) h L) func119) T T T T T T ?_);(repeat (first|refine V.aq T ?_|refine V.ah T T T T T T ?_|refine V.store T T T T T T T ?_|refine V.af T ?_|refine V.ae T ?_|refine V.skip T T ?_|refine V.al T T T ?_|refine V.aj T T T T T ?_|refine V.ai T T T T T ?_|refine V.step T ?_|refine V.load T T T T T T ?_));refine V.box T T T T T T fun be=>?_;refine V.alloc T T T T T T fun bx=>?_;(repeat (first|refine V.aq T ?_|refine V.ah T T T T T T ?_|refine V.store T T T T T T T ?_|refine V.af T ?_|refine V.ae T ?_|refine V.skip T T ?_|refine V.al T T T ?_|refine V.aj T T T T T ?_|refine V.ai T T T T T ?_|refine V.step T ?_|refine V.load T T T T T T ?_));refine V.index T T T T T T (by decide) (by decide) ?_;refine V.bp T T T T T ha T T ?_;refine V.alloc T T T T T T fun bx=>?_;(repeat (first|refine V.aq T ?_|refine V.ah T T T T T T ?_|refine V.store T T T T T T T ?_|refine V.af T ?_|refine V.ae T ?_|refine V.skip T T ?_|refine V.al T T T ?_|refine V.aj T T T T T ?_|refine V.ai T T T T T ?_|refine V.step T ?_|refine V.load T T T T T T ?_));refine V.cv T T T T T T fun b2 h2' hle2 hat2=>?_;(repeat (first|refine V.aq T ?_|refine V.ah T T T T T T ?_|refine V.store T T T T T T T ?_|refine V.af T ?_|refine V.ae T ?_|refine V.skip T T ?_|refine V.al T T T ?_|refine V.aj T T T T T ?_|refine V.ai T T T T T ?_|refine V.step T ?_|refine V.load T T T T T T ?_));refine V.bz T T T T T T (fL w0 _ _ _ _ _ hat2 _) ?_;(repeat (first|refine V.aq T ?_|refine V.ah T T T T T T ?_|refine V.store T T T T T T T ?_|refine V.af T ?_|refine V.ae T ?_|refine V.skip T T ?_|refine V.al T T T ?_|refine V.aj T T T T T ?_|refine V.ai T T T T T ?_|refine V.step T ?_|refine V.load T T T T T T ?_));refine V.fe T T T T T T (by decide) (by decide) ?_;refine V.ij T T T T T (DY (o:=23) (hq.mono hle2) (by decide) (by decide)) T ?_;(repeat (first|refine V.aq T ?_|refine V.ah T T T T T T ?_|refine V.store T T T T T T T ?_|refine V.af T ?_|refine V.ae T ?_|refine V.skip T T ?_|refine V.al T T T ?_|refine V.aj T T T T T ?_|refine V.ai T T T T T ?_|refine V.step T ?_|refine V.load T T T T T T ?_));refine dW T T T T T T T ⟨?_,hle2,(by repeat (first|exact List.Sublist.refl _|apply List.Sublist.cons))⟩;(refine fP ?_ ?_ T<;>(simp [jn,sureB,kP,quietB,KE.kind,KE.oper,KE.to,KE.n,KE.v,KE.l]<;>(try split)<;>(try omega)))
 ·refine bM.is (bM.cx (cfg w0 119 f119 132 (EV (.agg ⟨kB _⟩) h L) func119) T T T T T T ?_);(repeat (first|refine V.aq T ?_|refine V.ah T T T T T T ?_|refine V.store T T T T T T T ?_|refine V.af T ?_|refine V.ae T ?_|refine V.skip T T ?_|refine V.al T T T ?_|refine V.aj T T T T T ?_|refine V.ai T T T T T ?_|refine V.step T ?_|refine V.load T T T T T T ?_));refine V.box T T T T T T fun be=>?_;refine V.alloc T T T T T T fun bx=>?_;(repeat (first|refine V.aq T ?_|refine V.ah T T T T T T ?_|refine V.store T T T T T T T ?_|refine V.af T ?_|refine V.ae T ?_|refine V.skip T T ?_|refine V.al T T T ?_|refine V.aj T T T T T ?_|refine V.ai T T T T T ?_|refine V.step T ?_|refine V.load T T T T T T ?_));refine V.index T T T T T T (by decide) (by decide) ?_;refine V.bp T T T T T ha T T ?_;refine V.alloc T T T T T T fun bx=>?_;(repeat (first|refine V.aq T ?_|refine V.ah T T T T T T ?_|refine V.store T T T T T T T ?_|refine V.af T ?_|refine V.ae T ?_|refine V.skip T T ?_|refine V.al T T T ?_|refine V.aj T T T T T ?_|refine V.ai T T T T T ?_|refine V.step T ?_|refine V.load T T T T T T ?_));refine V.cv T T T T T T fun b2 h2' hle2 hat2=>?_;(repeat (first|refine V.aq T ?_|refine V.ah T T T T T T ?_|refine V.store T T T T T T T ?_|refine V.af T ?_|refine V.ae T ?_|refine V.skip T T ?_|refine V.al T T T ?_|refine V.aj T T T T T ?_|refine V.ai T T T T T ?_|refine V.step T ?_|refine V.load T T T T T T ?_));refine V.bz T T T T T T (fL w0 _ _ _ _ _ hat2 _) ?_;(repeat (first|refine V.aq T ?_|refine V.ah T T T T T T ?_|refine V.store T T T T T T T ?_|refine V.af T ?_|refine V.ae T ?_|refine V.skip T T ?_|refine V.al T T T ?_|refine V.aj T T T T T ?_|refine V.ai T T T T T ?_|refine V.step T ?_|refine V.load T T T T T T ?_));refine dW T T T T T T T ⟨?_,hle2,(by repeat (first|exact List.Sublist.refl _|apply List.Sublist.cons))⟩;(refine fP ?_ ?_ T<;>(simp [jn,sureB,kP,quietB,KE.kind,KE.oper,KE.to,KE.n,KE.v,KE.l]<;>(try split)<;>(try omega)))
 ·refine bM.is (bM.cx (cfg w0 119 f119 132 (EV (.agg ⟨kB _⟩) h L) func119) T T T T T T ?_);(repeat (first|refine V.aq T ?_|refine V.ah T T T T T T ?_|refine V.store T T T T T T T ?_|refine V.af T ?_|refine V.ae T ?_|refine V.skip T T ?_|refine V.al T T T ?_|refine V.aj T T T T T ?_|refine V.ai T T T T T ?_|refine V.step T ?_|refine V.load T T T T T T ?_));refine V.box T T T T T T fun be=>?_;refine V.alloc T T T T T T fun bx=>?_;(repeat (first|refine V.aq T ?_|refine V.ah T T T T T T ?_|refine V.store T T T T T T T ?_|refine V.af T ?_|refine V.ae T ?_|refine V.skip T T ?_|refine V.al T T T ?_|refine V.aj T T T T T ?_|refine V.ai T T T T T ?_|refine V.step T ?_|refine V.load T T T T T T ?_));refine V.index T T T T T T (by decide) (by decide) ?_;refine V.bp T T T T T ha T T ?_;refine V.alloc T T T T T T fun bx=>?_;(repeat (first|refine V.aq T ?_|refine V.ah T T T T T T ?_|refine V.store T T T T T T T ?_|refine V.af T ?_|refine V.ae T ?_|refine V.skip T T ?_|refine V.al T T T ?_|refine V.aj T T T T T ?_|refine V.ai T T T T T ?_|refine V.step T ?_|refine V.load T T T T T T ?_));refine V.cv T T T T T T fun b2 h2' hle2 hat2=>?_;(repeat (first|refine V.aq T ?_|refine V.ah T T T T T T ?_|refine V.store T T T T T T T ?_|refine V.af T ?_|refine V.ae T ?_|refine V.skip T T ?_|refine V.al T T T ?_|refine V.aj T T T T T ?_|refine V.ai T T T T T ?_|refine V.step T ?_|refine V.load T T T T T T ?_));refine V.bz T T T T T T (fL w0 _ _ _ _ _ hat2 _) ?_;(repeat (first|refine V.aq T ?_|refine V.ah T T T T T T ?_|refine V.store T T T T T T T ?_|refine V.af T ?_|refine V.ae T ?_|refine V.skip T T ?_|refine V.al T T T ?_|refine V.aj T T T T T ?_|refine V.ai T T T T T ?_|refine V.step T ?_|refine V.load T T T T T T ?_));refine V.fe T T T T T T (by decide) (by decide) ?_;refine V.ij T T T T T (DY (o:=24) (hq.mono hle2) (by decide) (by decide)) T ?_;(repeat (first|refine V.aq T ?_|refine V.ah T T T T T T ?_|refine V.store T T T T T T T ?_|refine V.af T ?_|refine V.ae T ?_|refine V.skip T T ?_|refine V.al T T T ?_|refine V.aj T T T T T ?_|refine V.ai T T T T T ?_|refine V.step T ?_|refine V.load T T T T T T ?_));refine dW T T T T T T T ⟨?_,hle2,(by repeat (first|exact List.Sublist.refl _|apply List.Sublist.cons))⟩;(refine fP ?_ ?_ T<;>(simp [jn,sureB,kP,quietB,KE.kind,KE.oper,KE.to,KE.n,KE.v,KE.l]<;>(try split)<;>(try omega)))
 ·refine bM.is (bM.cx (cfg w0 119 f119 132 (EV (.agg ⟨kB _⟩) h L) func119) T T T T T T ?_);(repeat (first|refine V.aq T ?_|refine V.ah T T T T T T ?_|refine V.store T T T T T T T ?_|refine V.af T ?_|refine V.ae T ?_|refine V.skip T T ?_|refine V.al T T T ?_|refine V.aj T T T T T ?_|refine V.ai T T T T T ?_|refine V.step T ?_|refine V.load T T T T T T ?_));refine V.box T T T T T T fun be=>?_;refine V.alloc T T T T T T fun bx=>?_;(repeat (first|refine V.aq T ?_|refine V.ah T T T T T T ?_|refine V.store T T T T T T T ?_|refine V.af T ?_|refine V.ae T ?_|refine V.skip T T ?_|refine V.al T T T ?_|refine V.aj T T T T T ?_|refine V.ai T T T T T ?_|refine V.step T ?_|refine V.load T T T T T T ?_));refine V.index T T T T T T (by decide) (by decide) ?_;refine V.bp T T T T T ha T T ?_;refine V.alloc T T T T T T fun bx=>?_;(repeat (first|refine V.aq T ?_|refine V.ah T T T T T T ?_|refine V.store T T T T T T T ?_|refine V.af T ?_|refine V.ae T ?_|refine V.skip T T ?_|refine V.al T T T ?_|refine V.aj T T T T T ?_|refine V.ai T T T T T ?_|refine V.step T ?_|refine V.load T T T T T T ?_));refine dW T T T T T T T ⟨?_,GH.le_refl _,(by repeat (first|exact List.Sublist.refl _|apply List.Sublist.cons))⟩;(refine fP ?_ ?_ T<;>(simp [jn,sureB,kP,quietB,KE.kind,KE.oper,KE.to,KE.n,KE.v,KE.l]<;>(try split)<;>(try omega)))
 ·refine bM.is (bM.cx (cfg w0 119 f119 132 (EV (.agg ⟨kB _⟩) h L) func119) T T T T T T ?_);(repeat (first|refine V.aq T ?_|refine V.ah T T T T T T ?_|refine V.store T T T T T T T ?_|refine V.af T ?_|refine V.ae T ?_|refine V.skip T T ?_|refine V.al T T T ?_|refine V.aj T T T T T ?_|refine V.ai T T T T T ?_|refine V.step T ?_|refine V.load T T T T T T ?_));refine V.box T T T T T T fun be=>?_;refine V.alloc T T T T T T fun bx=>?_;(repeat (first|refine V.aq T ?_|refine V.ah T T T T T T ?_|refine V.store T T T T T T T ?_|refine V.af T ?_|refine V.ae T ?_|refine V.skip T T ?_|refine V.al T T T ?_|refine V.aj T T T T T ?_|refine V.ai T T T T T ?_|refine V.step T ?_|refine V.load T T T T T T ?_));refine V.index T T T T T T (by decide) (by decide) ?_;refine V.bp T T T T T ha T T ?_;refine V.alloc T T T T T T fun bx=>?_;(repeat (first|refine V.aq T ?_|refine V.ah T T T T T T ?_|refine V.store T T T T T T T ?_|refine V.af T ?_|refine V.ae T ?_|refine V.skip T T ?_|refine V.al T T T ?_|refine V.aj T T T T T ?_|refine V.ai T T T T T ?_|refine V.step T ?_|refine V.load T T T T T T ?_));refine dW T T T T T T T ⟨?_,GH.le_refl _,(by repeat (first|exact List.Sublist.refl _|apply List.Sublist.cons))⟩;(refine fP ?_ ?_ T<;>(simp [jn,sureB,kP,quietB,KE.kind,KE.oper,KE.to,KE.n,KE.v,KE.l]<;>(try split)<;>(try omega)))
 ·refine bM.is (bM.cx (cfg w0 119 f119 132 (EV (.agg ⟨kB _⟩) h L) func119) T T T T T T ?_);(repeat (first|refine V.aq T ?_|refine V.ah T T T T T T ?_|refine V.store T T T T T T T ?_|refine V.af T ?_|refine V.ae T ?_|refine V.skip T T ?_|refine V.al T T T ?_|refine V.aj T T T T T ?_|refine V.ai T T T T T ?_|refine V.step T ?_|refine V.load T T T T T T ?_));refine V.box T T T T T T fun be=>?_;refine V.alloc T T T T T T fun bx=>?_;(repeat (first|refine V.aq T ?_|refine V.ah T T T T T T ?_|refine V.store T T T T T T T ?_|refine V.af T ?_|refine V.ae T ?_|refine V.skip T T ?_|refine V.al T T T ?_|refine V.aj T T T T T ?_|refine V.ai T T T T T ?_|refine V.step T ?_|refine V.load T T T T T T ?_));refine V.index T T T T T T (by decide) (by decide) ?_;refine V.bp T T T T T ha T T ?_;refine V.alloc T T T T T T fun bx=>?_;(repeat (first|refine V.aq T ?_|refine V.ah T T T T T T ?_|refine V.store T T T T T T T ?_|refine V.af T ?_|refine V.ae T ?_|refine V.skip T T ?_|refine V.al T T T ?_|refine V.aj T T T T T ?_|refine V.ai T T T T T ?_|refine V.step T ?_|refine V.load T T T T T T ?_));refine dW T T T T T T T ⟨?_,GH.le_refl _,(by repeat (first|exact List.Sublist.refl _|apply List.Sublist.cons))⟩;(refine fP ?_ ?_ T<;>(simp [jn,sureB,kP,quietB,KE.kind,KE.oper,KE.to,KE.n,KE.v,KE.l]<;>(try split)<;>(try omega)))
 ·refine bM.is (bM.cx (cfg w0 119 f119 132 (EV (.agg ⟨kB _⟩) h L) func119) T T T T T T ?_);(repeat (first|refine V.aq T ?_|refine V.ah T T T T T T ?_|refine V.store T T T T T T T ?_|refine V.af T ?_|refine V.ae T ?_|refine V.skip T T ?_|refine V.al T T T ?_|refine V.aj T T T T T ?_|refine V.ai T T T T T ?_|refine V.step T ?_|refine V.load T T T T T T ?_));refine V.box T T T T T T fun be=>?_;refine V.alloc T T T T T T fun bx=>?_;(repeat (first|refine V.aq T ?_|refine V.ah T T T T T T ?_|refine V.store T T T T T T T ?_|refine V.af T ?_|refine V.ae T ?_|refine V.skip T T ?_|refine V.al T T T ?_|refine V.aj T T T T T ?_|refine V.ai T T T T T ?_|refine V.step T ?_|refine V.load T T T T T T ?_));refine V.index T T T T T T (by decide) (by decide) ?_;refine V.bp T T T T T ha T T ?_;refine V.alloc T T T T T T fun bx=>?_;(repeat (first|refine V.aq T ?_|refine V.ah T T T T T T ?_|refine V.store T T T T T T T ?_|refine V.af T ?_|refine V.ae T ?_|refine V.skip T T ?_|refine V.al T T T ?_|refine V.aj T T T T T ?_|refine V.ai T T T T T ?_|refine V.step T ?_|refine V.load T T T T T T ?_));refine dW T T T T T T T ⟨?_,GH.le_refl _,(by repeat (first|exact List.Sublist.refl _|apply List.Sublist.cons))⟩;(refine fP ?_ ?_ T<;>(simp [jn,sureB,kP,quietB,KE.kind,KE.oper,KE.to,KE.n,KE.v,KE.l]<;>(try split)<;>(try omega)))
theorem PZ(w0:World)(h:GH)(L:List a6)(t:Int)(h1:1<=t)(h2:t<=3)(x:NR)(p:Option Addr)(m q:Nat)(b of c:Nat)(ha:iB h b of (kB x)):
 bM prog w0 119 [.agg ⟨[.int .u8 6, .int .u8 0, .int .u8 t, .int .i32 0, .int .i64 0, .slice p m q]⟩, .slice (some ⟨b,of,none⟩) 1 c] h L (Is (.agg ⟨kB (jn 6 0 t 0 0 [x])⟩) h L):=by
 have ho:t=1\/t=2\/t=3:=by omega
 obtain ⟨s,r,u⟩:=x;rcases ho with rfl|rfl|rfl<;>cases s
 ·refine bM.is (bM.cx (cfg w0 119 f119 132 (EV (.agg ⟨kB _⟩) h L) func119) T T T T T T ?_);(repeat (first|refine V.aq T ?_|refine V.ah T T T T T T ?_|refine V.store T T T T T T T ?_|refine V.af T ?_|refine V.ae T ?_|refine V.skip T T ?_|refine V.al T T T ?_|refine V.aj T T T T T ?_|refine V.ai T T T T T ?_|refine V.step T ?_|refine V.load T T T T T T ?_));refine V.box T T T T T T fun be=>?_;refine V.alloc T T T T T T fun bx=>?_;(repeat (first|refine V.aq T ?_|refine V.ah T T T T T T ?_|refine V.store T T T T T T T ?_|refine V.af T ?_|refine V.ae T ?_|refine V.skip T T ?_|refine V.al T T T ?_|refine V.aj T T T T T ?_|refine V.ai T T T T T ?_|refine V.step T ?_|refine V.load T T T T T T ?_));refine V.index T T T T T T (by decide) (by decide) ?_;refine V.bp T T T T T ha T T ?_;refine V.alloc T T T T T T fun bx=>?_;(repeat (first|refine V.aq T ?_|refine V.ah T T T T T T ?_|refine V.store T T T T T T T ?_|refine V.af T ?_|refine V.ae T ?_|refine V.skip T T ?_|refine V.al T T T ?_|refine V.aj T T T T T ?_|refine V.ai T T T T T ?_|refine V.step T ?_|refine V.load T T T T T T ?_));refine dW T T T T T T T ⟨?_,GH.le_refl _,(by repeat (first|exact List.Sublist.refl _|apply List.Sublist.cons))⟩;(refine fP ?_ ?_ T<;>(simp [jn,sureB,kP,quietB,KE.kind,KE.oper,KE.to,KE.n,KE.v,KE.l]<;>(try split)<;>(try omega)))
 ·refine bM.is (bM.cx (cfg w0 119 f119 132 (EV (.agg ⟨kB _⟩) h L) func119) T T T T T T ?_);(repeat (first|refine V.aq T ?_|refine V.ah T T T T T T ?_|refine V.store T T T T T T T ?_|refine V.af T ?_|refine V.ae T ?_|refine V.skip T T ?_|refine V.al T T T ?_|refine V.aj T T T T T ?_|refine V.ai T T T T T ?_|refine V.step T ?_|refine V.load T T T T T T ?_));refine V.box T T T T T T fun be=>?_;refine V.alloc T T T T T T fun bx=>?_;(repeat (first|refine V.aq T ?_|refine V.ah T T T T T T ?_|refine V.store T T T T T T T ?_|refine V.af T ?_|refine V.ae T ?_|refine V.skip T T ?_|refine V.al T T T ?_|refine V.aj T T T T T ?_|refine V.ai T T T T T ?_|refine V.step T ?_|refine V.load T T T T T T ?_));refine V.index T T T T T T (by decide) (by decide) ?_;refine V.bp T T T T T ha T T ?_;refine V.alloc T T T T T T fun bx=>?_;(repeat (first|refine V.aq T ?_|refine V.ah T T T T T T ?_|refine V.store T T T T T T T ?_|refine V.af T ?_|refine V.ae T ?_|refine V.skip T T ?_|refine V.al T T T ?_|refine V.aj T T T T T ?_|refine V.ai T T T T T ?_|refine V.step T ?_|refine V.load T T T T T T ?_));refine dW T T T T T T T ⟨?_,GH.le_refl _,(by repeat (first|exact List.Sublist.refl _|apply List.Sublist.cons))⟩;(refine fP ?_ ?_ T<;>(simp [jn,sureB,kP,quietB,KE.kind,KE.oper,KE.to,KE.n,KE.v,KE.l]<;>(try split)<;>(try omega)))
 ·refine bM.is (bM.cx (cfg w0 119 f119 132 (EV (.agg ⟨kB _⟩) h L) func119) T T T T T T ?_);(repeat (first|refine V.aq T ?_|refine V.ah T T T T T T ?_|refine V.store T T T T T T T ?_|refine V.af T ?_|refine V.ae T ?_|refine V.skip T T ?_|refine V.al T T T ?_|refine V.aj T T T T T ?_|refine V.ai T T T T T ?_|refine V.step T ?_|refine V.load T T T T T T ?_));refine V.box T T T T T T fun be=>?_;refine V.alloc T T T T T T fun bx=>?_;(repeat (first|refine V.aq T ?_|refine V.ah T T T T T T ?_|refine V.store T T T T T T T ?_|refine V.af T ?_|refine V.ae T ?_|refine V.skip T T ?_|refine V.al T T T ?_|refine V.aj T T T T T ?_|refine V.ai T T T T T ?_|refine V.step T ?_|refine V.load T T T T T T ?_));refine V.index T T T T T T (by decide) (by decide) ?_;refine V.bp T T T T T ha T T ?_;refine V.alloc T T T T T T fun bx=>?_;(repeat (first|refine V.aq T ?_|refine V.ah T T T T T T ?_|refine V.store T T T T T T T ?_|refine V.af T ?_|refine V.ae T ?_|refine V.skip T T ?_|refine V.al T T T ?_|refine V.aj T T T T T ?_|refine V.ai T T T T T ?_|refine V.step T ?_|refine V.load T T T T T T ?_));refine V.cv T T T T T T fun b2 h2' hle2 hat2=>?_;(repeat (first|refine V.aq T ?_|refine V.ah T T T T T T ?_|refine V.store T T T T T T T ?_|refine V.af T ?_|refine V.ae T ?_|refine V.skip T T ?_|refine V.al T T T ?_|refine V.aj T T T T T ?_|refine V.ai T T T T T ?_|refine V.step T ?_|refine V.load T T T T T T ?_));refine V.bz T T T T T T (fL w0 _ _ _ _ _ hat2 _) ?_;(repeat (first|refine V.aq T ?_|refine V.ah T T T T T T ?_|refine V.store T T T T T T T ?_|refine V.af T ?_|refine V.ae T ?_|refine V.skip T T ?_|refine V.al T T T ?_|refine V.aj T T T T T ?_|refine V.ai T T T T T ?_|refine V.step T ?_|refine V.load T T T T T T ?_));refine dW T T T T T T T ⟨?_,hle2,(by repeat (first|exact List.Sublist.refl _|apply List.Sublist.cons))⟩;(refine fP ?_ ?_ T<;>(simp [jn,sureB,kP,quietB,KE.kind,KE.oper,KE.to,KE.n,KE.v,KE.l]<;>(try split)<;>(try omega)))
 ·refine bM.is (bM.cx (cfg w0 119 f119 132 (EV (.agg ⟨kB _⟩) h L) func119) T T T T T T ?_);(repeat (first|refine V.aq T ?_|refine V.ah T T T T T T ?_|refine V.store T T T T T T T ?_|refine V.af T ?_|refine V.ae T ?_|refine V.skip T T ?_|refine V.al T T T ?_|refine V.aj T T T T T ?_|refine V.ai T T T T T ?_|refine V.step T ?_|refine V.load T T T T T T ?_));refine V.box T T T T T T fun be=>?_;refine V.alloc T T T T T T fun bx=>?_;(repeat (first|refine V.aq T ?_|refine V.ah T T T T T T ?_|refine V.store T T T T T T T ?_|refine V.af T ?_|refine V.ae T ?_|refine V.skip T T ?_|refine V.al T T T ?_|refine V.aj T T T T T ?_|refine V.ai T T T T T ?_|refine V.step T ?_|refine V.load T T T T T T ?_));refine V.index T T T T T T (by decide) (by decide) ?_;refine V.bp T T T T T ha T T ?_;refine V.alloc T T T T T T fun bx=>?_;(repeat (first|refine V.aq T ?_|refine V.ah T T T T T T ?_|refine V.store T T T T T T T ?_|refine V.af T ?_|refine V.ae T ?_|refine V.skip T T ?_|refine V.al T T T ?_|refine V.aj T T T T T ?_|refine V.ai T T T T T ?_|refine V.step T ?_|refine V.load T T T T T T ?_));refine V.cv T T T T T T fun b2 h2' hle2 hat2=>?_;(repeat (first|refine V.aq T ?_|refine V.ah T T T T T T ?_|refine V.store T T T T T T T ?_|refine V.af T ?_|refine V.ae T ?_|refine V.skip T T ?_|refine V.al T T T ?_|refine V.aj T T T T T ?_|refine V.ai T T T T T ?_|refine V.step T ?_|refine V.load T T T T T T ?_));refine V.bz T T T T T T (fL w0 _ _ _ _ _ hat2 _) ?_;(repeat (first|refine V.aq T ?_|refine V.ah T T T T T T ?_|refine V.store T T T T T T T ?_|refine V.af T ?_|refine V.ae T ?_|refine V.skip T T ?_|refine V.al T T T ?_|refine V.aj T T T T T ?_|refine V.ai T T T T T ?_|refine V.step T ?_|refine V.load T T T T T T ?_));refine dW T T T T T T T ⟨?_,hle2,(by repeat (first|exact List.Sublist.refl _|apply List.Sublist.cons))⟩;(refine fP ?_ ?_ T<;>(simp [jn,sureB,kP,quietB,KE.kind,KE.oper,KE.to,KE.n,KE.v,KE.l]<;>(try split)<;>(try omega)))
 ·refine bM.is (bM.cx (cfg w0 119 f119 132 (EV (.agg ⟨kB _⟩) h L) func119) T T T T T T ?_);(repeat (first|refine V.aq T ?_|refine V.ah T T T T T T ?_|refine V.store T T T T T T T ?_|refine V.af T ?_|refine V.ae T ?_|refine V.skip T T ?_|refine V.al T T T ?_|refine V.aj T T T T T ?_|refine V.ai T T T T T ?_|refine V.step T ?_|refine V.load T T T T T T ?_));refine V.box T T T T T T fun be=>?_;refine V.alloc T T T T T T fun bx=>?_;(repeat (first|refine V.aq T ?_|refine V.ah T T T T T T ?_|refine V.store T T T T T T T ?_|refine V.af T ?_|refine V.ae T ?_|refine V.skip T T ?_|refine V.al T T T ?_|refine V.aj T T T T T ?_|refine V.ai T T T T T ?_|refine V.step T ?_|refine V.load T T T T T T ?_));refine V.index T T T T T T (by decide) (by decide) ?_;refine V.bp T T T T T ha T T ?_;refine V.alloc T T T T T T fun bx=>?_;(repeat (first|refine V.aq T ?_|refine V.ah T T T T T T ?_|refine V.store T T T T T T T ?_|refine V.af T ?_|refine V.ae T ?_|refine V.skip T T ?_|refine V.al T T T ?_|refine V.aj T T T T T ?_|refine V.ai T T T T T ?_|refine V.step T ?_|refine V.load T T T T T T ?_));refine V.cv T T T T T T fun b2 h2' hle2 hat2=>?_;(repeat (first|refine V.aq T ?_|refine V.ah T T T T T T ?_|refine V.store T T T T T T T ?_|refine V.af T ?_|refine V.ae T ?_|refine V.skip T T ?_|refine V.al T T T ?_|refine V.aj T T T T T ?_|refine V.ai T T T T T ?_|refine V.step T ?_|refine V.load T T T T T T ?_));refine V.bz T T T T T T (fL w0 _ _ _ _ _ hat2 _) ?_;(repeat (first|refine V.aq T ?_|refine V.ah T T T T T T ?_|refine V.store T T T T T T T ?_|refine V.af T ?_|refine V.ae T ?_|refine V.skip T T ?_|refine V.al T T T ?_|refine V.aj T T T T T ?_|refine V.ai T T T T T ?_|refine V.step T ?_|refine V.load T T T T T T ?_));refine dW T T T T T T T ⟨?_,hle2,(by repeat (first|exact List.Sublist.refl _|apply List.Sublist.cons))⟩;(refine fP ?_ ?_ T<;>(simp [jn,sureB,kP,quietB,KE.kind,KE.oper,KE.to,KE.n,KE.v,KE.l]<;>(try split)<;>(try omega)))
 ·refine bM.is (bM.cx (cfg w0 119 f119 132 (EV (.agg ⟨kB _⟩) h L) func119) T T T T T T ?_);(repeat (first|refine V.aq T ?_|refine V.ah T T T T T T ?_|refine V.store T T T T T T T ?_|refine V.af T ?_|refine V.ae T ?_|refine V.skip T T ?_|refine V.al T T T ?_|refine V.aj T T T T T ?_|refine V.ai T T T T T ?_|refine V.step T ?_|refine V.load T T T T T T ?_));refine V.box T T T T T T fun be=>?_;refine V.alloc T T T T T T fun bx=>?_;(repeat (first|refine V.aq T ?_|refine V.ah T T T T T T ?_|refine V.store T T T T T T T ?_|refine V.af T ?_|refine V.ae T ?_|refine V.skip T T ?_|refine V.al T T T ?_|refine V.aj T T T T T ?_|refine V.ai T T T T T ?_|refine V.step T ?_|refine V.load T T T T T T ?_));refine V.index T T T T T T (by decide) (by decide) ?_;refine V.bp T T T T T ha T T ?_;refine V.alloc T T T T T T fun bx=>?_;(repeat (first|refine V.aq T ?_|refine V.ah T T T T T T ?_|refine V.store T T T T T T T ?_|refine V.af T ?_|refine V.ae T ?_|refine V.skip T T ?_|refine V.al T T T ?_|refine V.aj T T T T T ?_|refine V.ai T T T T T ?_|refine V.step T ?_|refine V.load T T T T T T ?_));refine V.cv T T T T T T fun b2 h2' hle2 hat2=>?_;(repeat (first|refine V.aq T ?_|refine V.ah T T T T T T ?_|refine V.store T T T T T T T ?_|refine V.af T ?_|refine V.ae T ?_|refine V.skip T T ?_|refine V.al T T T ?_|refine V.aj T T T T T ?_|refine V.ai T T T T T ?_|refine V.step T ?_|refine V.load T T T T T T ?_));refine V.bz T T T T T T (fL w0 _ _ _ _ _ hat2 _) ?_;(repeat (first|refine V.aq T ?_|refine V.ah T T T T T T ?_|refine V.store T T T T T T T ?_|refine V.af T ?_|refine V.ae T ?_|refine V.skip T T ?_|refine V.al T T T ?_|refine V.aj T T T T T ?_|refine V.ai T T T T T ?_|refine V.step T ?_|refine V.load T T T T T T ?_));refine dW T T T T T T T ⟨?_,hle2,(by repeat (first|exact List.Sublist.refl _|apply List.Sublist.cons))⟩;(refine fP ?_ ?_ T<;>(simp [jn,sureB,kP,quietB,KE.kind,KE.oper,KE.to,KE.n,KE.v,KE.l]<;>(try split)<;>(try omega)))
def YT(x y:Int):Nat->List Value->Value->GH->Prop:=yl [(17,fun _ v _=>v= .int .i64 x),(23,fun _ v _=>v= .int .i64 y)]
theorem PY(w0:World)(h:GH)(hq:iB h 0 0 quietL)(L:List a6)(o:Int)(h1:1<=o)(h2:o<=22)(x y:NR)(hx:0<=x.regs/\x.regs<=3/\0<=x.temps/\x.temps<=1000000)(hy:0<=y.regs/\y.regs<=3/\0<=y.temps/\y.temps<=1000000)(p:Option Addr)(m q:Nat)(b of c:Nat)(ha:iB h b of (kB x))(hd:iB h b (of+4) (kB y)):
 bM prog w0 119 [.agg ⟨[.int .u8 5, .int .u8 o, .int .u8 0, .int .i32 0, .int .i64 0, .slice p m q]⟩, .slice (some ⟨b,of,none⟩) 2 c] h L (Is (.agg ⟨kB (jn 5 o 0 0 0 [x,y])⟩) h L):=by
 obtain ⟨s,r,u⟩:=x;obtain ⟨s',r',u'⟩:=y;simp only at hx hy;refine bM.is (bM.cx (cfg w0 119 f119 132 (EV (.agg ⟨kB _⟩) h L) func119) T T T T T T ?_);(repeat (first|refine V.aq T ?_|refine V.ah T T T T T T ?_|refine V.store T T T T T T T ?_|refine V.af T ?_|refine V.ae T ?_|refine V.skip T T ?_|refine V.al T T T ?_|refine V.aj T T T T T ?_|refine V.ai T T T T T ?_|refine V.step T ?_|refine V.load T T T T T T ?_));refine V.box T T T T T T fun be=>?_;refine V.alloc T T T T T T fun bx=>?_;(repeat (first|refine V.aq T ?_|refine V.ah T T T T T T ?_|refine V.store T T T T T T T ?_|refine V.af T ?_|refine V.ae T ?_|refine V.skip T T ?_|refine V.al T T T ?_|refine V.aj T T T T T ?_|refine V.ai T T T T T ?_|refine V.step T ?_|refine V.load T T T T T T ?_));refine V.draw 9 [6,7,0,1,2,3,4,5,8] (fun i=>if i=8 then [6] else []) (fun _ _ _ _=>False) (by kernel_rfl) (by kernel_rfl) ?_;refine WE.alloc T T T T T T T T fun b7=>?_;refine WE.alloc T T T T T T T T fun b8=>?_;(repeat (first|refine WE.step T ?_|refine WE.load T T T T T T T ?_));refine WE.index T T T T T T T (by decide) (by decide) ?_;refine WE.bp T T T T T T ha T T ?_;(repeat (first|refine WE.step T ?_|refine WE.load T T T T T T T ?_));refine WE.index T T T T T T T (by decide) (by decide) ?_;refine WE.bp T T T T T T hd T T ?_;refine WE.store T T T T T T T T T T T ?_;refine WE.jt [_,_] (_::_::_::_::_) T T ?_;(repeat (first|refine V.aq T ?_|refine V.ah T T T T T T ?_|refine V.store T T T T T T T ?_|refine V.af T ?_|refine V.ae T ?_|refine V.skip T T ?_|refine V.al T T T ?_|refine V.aj T T T T T ?_|refine V.ai T T T T T ?_|refine V.step T ?_|refine V.load T T T T T T ?_));refine V.draw 26 [25,0,1,2,3,4,5,6,7,8,9,10,11,12,13,14,15,16,18,19,20,21,22,17,23,24] (fun i=>if i=17 then [16] else if i=23 then [22] else []) (YT (max r r') (max u u')) (by kernel_rfl) (by kernel_rfl) ?_;refine WE.alloc T T T T T T T T fun b9=>?_;(repeat (first|refine WE.step T ?_|refine WE.load T T T T T T T ?_));refine WE.index T T T T T T T (by omega) (by omega) ?_;refine WE.fh T T T T T T (DY (o:=o) hq (by omega) (by omega)) T ?_;(repeat (first|refine WE.step T ?_|refine WE.load T T T T T T T ?_));refine WE.lit T T T T T T T T fun c1=>?_;(repeat (first|refine WE.step T ?_|refine WE.load T T T T T T T ?_));refine WE.lit T T T T T T T T fun c2=>?_;refine WE.call T T T T T T T (fun L=>(fL w0 _ L r r' c1 (fun i v hv=>GH.cr h c1 0 _ hv) _).mono ?_) (fun v h2' y1 y2 y3=>?_)
 ·rintro v h' L' ⟨rfl,rfl,rfl⟩;exact ⟨rfl,GH.le_refl _,rfl⟩
 have y3:v= .int .i64 (max r r'):=y3;subst y3;refine WE.call T T T T T T T (fun L=>(fL w0 _ L u u' c2 (fun i v hv=>GH.cr h2' c2 0 _ hv) _).mono ?_) (fun v h3' z1 z2 z3=>?_)
 ·rintro v h' L' ⟨rfl,rfl,rfl⟩;exact ⟨rfl,GH.le_refl _,rfl⟩
 have z3:v= .int .i64 (max u u'):=z3;subst z3;(repeat (first|refine WE.step T ?_|refine WE.load T T T T T T T ?_));refine WE.jt [_] (_::_::_::_::_::_) T T ?_;(repeat (first|refine V.aq T ?_|refine V.ah T T T T T T ?_|refine V.store T T T T T T T ?_|refine V.af T ?_|refine V.ae T ?_|refine V.skip T T ?_|refine V.al T T T ?_|refine V.aj T T T T T ?_|refine V.ai T T T T T ?_|refine V.step T ?_|refine V.load T T T T T T ?_));have hsq:(decide (o≥6):Bool)=quietB o:=by unfold quietB;rw [ab8];simp;omega
 have hle:h.le h3':=GH.le_trans y2 z2;clear y1 z1;refine V.cond T (fun hc=>?_) (fun hc=>?_)
 ·(repeat (first|refine V.aq T ?_|refine V.ah T T T T T T ?_|refine V.store T T T T T T T ?_|refine V.af T ?_|refine V.ae T ?_|refine V.skip T T ?_|refine V.al T T T ?_|refine V.aj T T T T T ?_|refine V.ai T T T T T ?_|refine V.step T ?_|refine V.load T T T T T T ?_));refine dW T T T T T T T ⟨?_,hle,(by repeat (first|exact List.Sublist.refl _|apply List.Sublist.cons))⟩;have hc': ¬(o≠20/\o≠21/\r=r'):=by rintro ⟨g1,g2,g3⟩;simp [g1,g2,g3] at hc
  have hc2: ¬(o≠20/\o≠21/\r=3/\r'=3):=by rintro ⟨g1,g2,g3,g4⟩;exact hc' ⟨g1,g2,by omega⟩
  refine fP ?_ ?_ ?_
  ·simp [jn,sureB,KE.kind,KE.oper,KE.to,KE.n,KE.v,KE.l,hsq]
  ·simp only [jn];rw [iF hc']
  ·simp only [jn];rw [iF hc2]
 ·(repeat (first|refine V.aq T ?_|refine V.ah T T T T T T ?_|refine V.store T T T T T T T ?_|refine V.af T ?_|refine V.ae T ?_|refine V.skip T T ?_|refine V.al T T T ?_|refine V.aj T T T T T ?_|refine V.ai T T T T T ?_|refine V.step T ?_|refine V.load T T T T T T ?_));have hc':o≠20/\o≠21/\r=r':=by
   simp at hc;exact ⟨hc.1.1,hc.1.2,hc.2⟩
  refine V.cond T (fun hd=>?_) (fun hd=>?_)
  ·simp at hd;(repeat (first|refine V.aq T ?_|refine V.ah T T T T T T ?_|refine V.store T T T T T T T ?_|refine V.af T ?_|refine V.ae T ?_|refine V.skip T T ?_|refine V.al T T T ?_|refine V.aj T T T T T ?_|refine V.ai T T T T T ?_|refine V.step T ?_|refine V.load T T T T T T ?_));refine dW T T T T T T T ⟨?_,hle,(by repeat (first|exact List.Sublist.refl _|apply List.Sublist.cons))⟩;have hc2: ¬(o≠20/\o≠21/\r=3/\r'=3):=by rintro ⟨g1,g2,g3,g4⟩;omega
   refine fP ?_ ?_ ?_
   ·simp [jn,sureB,KE.kind,KE.oper,KE.to,KE.n,KE.v,KE.l,hsq]
   ·simp only [jn];rw [iT hc',fZ _ (by omega)];omega
   ·simp only [jn];rw [iF hc2]
  ·simp at hd;(repeat (first|refine V.aq T ?_|refine V.ah T T T T T T ?_|refine V.store T T T T T T T ?_|refine V.af T ?_|refine V.ae T ?_|refine V.skip T T ?_|refine V.al T T T ?_|refine V.aj T T T T T ?_|refine V.ai T T T T T ?_|refine V.step T ?_|refine V.load T T T T T T ?_));refine V.val 103 T (MK (fZ (u+1) (by omega))) ?_;refine V.cv T T T T T T fun b2 h2'' hle2 hat2=>?_;(repeat (first|refine V.aq T ?_|refine V.ah T T T T T T ?_|refine V.store T T T T T T T ?_|refine V.af T ?_|refine V.ae T ?_|refine V.skip T T ?_|refine V.al T T T ?_|refine V.aj T T T T T ?_|refine V.ai T T T T T ?_|refine V.step T ?_|refine V.load T T T T T T ?_));refine V.bz T T T T T T (fL w0 _ _ _ _ _ hat2 _) ?_;(repeat (first|refine V.aq T ?_|refine V.ah T T T T T T ?_|refine V.store T T T T T T T ?_|refine V.af T ?_|refine V.ae T ?_|refine V.skip T T ?_|refine V.al T T T ?_|refine V.aj T T T T T ?_|refine V.ai T T T T T ?_|refine V.step T ?_|refine V.load T T T T T T ?_));refine dW T T T T T T T ⟨?_,GH.le_trans hle hle2,(by repeat (first|exact List.Sublist.refl _|apply List.Sublist.cons))⟩;have hc2:(o≠20/\o≠21/\r=3/\r'=3):=⟨hc'.1,hc'.2.1,by omega,by omega⟩;refine fP ?_ ?_ ?_
   ·simp [jn,sureB,KE.kind,KE.oper,KE.to,KE.n,KE.v,KE.l,hsq]
   ·simp only [jn];rw [iT hc'];omega
   ·simp only [jn];rw [iT hc2]
theorem P0(w0:World)(h:GH)(hq:iB h 0 0 quietL)(L:List a6)(k o t n v:Int)(a:KE)(x:NR)(hf:fine ⟨k,o,t,n,v,[a]⟩=true)(p:Option Addr)(m q:Nat)(b of c:Nat)(ha:iB h b of (kB x)):
 bM prog w0 119 [.agg ⟨[.int .u8 k, .int .u8 o, .int .u8 t, .int .i32 n, .int .i64 v, .slice p m q]⟩, .slice (some ⟨b,of,none⟩) 1 c] h L (Is (.agg ⟨kB (jn k o t n v [x])⟩) h L):=by
 rcases dQ hf with ⟨_,h9⟩|⟨_,_,_,h9⟩|⟨_,_,h1,h2,h3,h9⟩|⟨_,_,h1,h2,h3,h9⟩|⟨_,_,_,_,_,_,_,h9⟩|⟨_,_,h1,h2,h3,h9⟩<;>simp at h9
 ·obtain ⟨rfl,rfl,rfl,rfl,rfl,rfl⟩:=h9;exact PV w0 h L _ x p m q b of c ha
 ·obtain ⟨rfl,rfl,rfl,rfl,rfl,rfl⟩:=h9;exact PW w0 h hq L _ h1 h2 x p m q b of c ha
 ·obtain ⟨rfl,rfl,rfl,rfl,rfl,rfl⟩:=h9;exact PZ w0 h L _ h1 h2 x p m q b of c ha
theorem P1(w0:World)(h:GH)(hq:iB h 0 0 quietL)(L:List a6)(k o t n v:Int)(a d:KE)(x y:NR)(hx:0<=x.regs/\x.regs<=3/\0<=x.temps/\x.temps<=1000000)(hy:0<=y.regs/\y.regs<=3/\0<=y.temps/\y.temps<=1000000)
 (hf:fine ⟨k,o,t,n,v,[a,d]⟩=true) (p:Option Addr) (m q:Nat) (b of c:Nat) (ha:iB h b of (kB x)) (hd:iB h b (of+4) (kB y)):
 bM prog w0 119 [.agg ⟨[.int .u8 k, .int .u8 o, .int .u8 t, .int .i32 n, .int .i64 v, .slice p m q]⟩, .slice (some ⟨b,of,none⟩) 2 c] h L (Is (.agg ⟨kB (jn k o t n v [x,y])⟩) h L):=by
 rcases dQ hf with ⟨_,h9⟩|⟨_,_,_,h9⟩|⟨_,_,h1,h2,h3,h9⟩|⟨_,_,h1,h2,h3,h9⟩|⟨_,_,_,h1,h2,_,_,h9⟩|⟨_,_,h1,h2,h3,h9⟩<;>simp at h9;obtain ⟨rfl,rfl,rfl,rfl,rfl,rfl,rfl⟩:=h9;exact PY w0 h hq L _ h1 h2 x y hx hy p m q b of c ha hd
theorem P2(w0:World)(h:GH)(L:List a6)(k o t n v:Int)(hf:fine ⟨k,o,t,n,v,[]⟩=true)(a':Option Addr)(c1:Nat)(a:Option Addr)(c:Nat):
 bM prog w0 119 [.agg ⟨[.int .u8 k, .int .u8 o, .int .u8 t, .int .i32 n, .int .i64 v, .slice a' 0 c1]⟩, .slice a 0 c] h L (Is (.agg ⟨kB (jn k o t n v [])⟩) h L):=by
 have:=PU w0 h L k o t n v a' c1 a c;have hs:jn k o t n v []=⟨true,1,0⟩:=by
  rcases dQ hf with ⟨_,h9⟩|⟨_,_,_,h9⟩|⟨_,_,h1,h2,h3,h9⟩|⟨_,_,h1,h2,h3,h9⟩|⟨_,_,_,h1,h2,_,_,h9⟩|⟨_,_,h1,h2,h3,h9⟩<;>simp at h9
  ·obtain ⟨rfl,rfl,rfl,_⟩:=h9;simp [jn,sureB,KE.kind,KE.oper,KE.to,KE.n,KE.v,KE.l]
  ·obtain ⟨rfl,rfl,rfl,_⟩:=h9;simp [jn,sureB,KE.kind,KE.oper,KE.to,KE.n,KE.v,KE.l]
 rw [hs];exact this
def RL(Q:Value->GH->List a6->Prop):Value->GH->List a6->Prop:=fun v h' L'=> ∃L'',L''.Sublist L'/\Q v h' L''
def sX:List Value:=[.bool false, .bool false, .int .i64 0, .int .i64 0]
def yA(e:KE)(room deep:Int)(rb:Nat)(h:GH)(L:List a6):Value->GH->List a6->Prop:=fun v h' L'=>h.le h'/\ ∃room':Int,L'=⟨rb,0,[.int .i64 room'],none⟩::L/\
 if fits e room (33-deep) then v= .agg ⟨kB (ne e)⟩/\room'=room-sz e else v= .agg ⟨sX⟩
def WH(h:GH)(rb wb:Nat):Prop:=iB h 0 0 quietL/\h wb 0=some (.func (.func 117) #[] #[.pointer (some ⟨rb,0,none⟩), .pointer (some ⟨wb,0,none⟩)])
theorem WH.mono{h h':GH}{rb wb:Nat}(x:WH h rb wb)(hl:h.le h'):WH h' rb wb:=⟨x.1.mono hl,hl _ _ _ x.2⟩
theorem fitsZ{k o t n v:Int}{room deep:Int}(hs:aY ⟨k,o,t,n,v,[]⟩=true)(h1:1<=room)(h2:1<=deep):fits ⟨k,o,t,n,v,[]⟩ room deep:=by simp only [fits,fine,eF,hs,sz,jQ,ht,oZ,ab3];exact ⟨trivial,by omega,by omega⟩
theorem oL{e:KE}{room deep:Int}{rb:Nat}{h h':GH}{L:List a6}{room':Int}(hl:h.le h')(hf: ¬fits e room (33-deep)):yA e room deep rb h L (.agg ⟨sX⟩) h' (⟨rb,0,[.int .i64 room'],none⟩::L):=
 ⟨hl,room',rfl,by rw [iF hf]⟩
theorem ET{e:KE}{room deep:Int}{rb:Nat}{h h':GH}{L:List a6}{room':Int}(hl:h.le h')(hf:fits e room (33-deep))(hr:room'=room-sz e):yA e room deep rb h L (.agg ⟨kB (ne e)⟩) h' (⟨rb,0,[.int .i64 room'],none⟩::L):=
 ⟨hl,room',rfl,by rw [iT hf];exact ⟨rfl,hr⟩⟩
theorem at2{h:GH}{b o:Nat}{x y:NR}(h6:iB h b o (kB x++kB y)):iB h b o (kB x)/\iB h b (o+4) (kB y):=by
 refine ⟨fun i v hv=>h6 i v ?_,fun i v hv=>?_⟩
 ·have hi:i<(kB x).length:=by
   rcases Nat.lt_or_ge i (kB x).length with g|g
   ·exact g
   ·rw [List.getElem?_eq_none g] at hv;cases hv
  rw [List.getElem?_append_left hi];exact hv
 ·have:=h6 (4+i) v (by
   rw [List.getElem?_append_right (show (kB x).length<=4+i from Nat.le_add_right 4 i)];rw [show 4+i-(kB x).length=i from Nat.add_sub_cancel_left 4 i];exact hv)
  rwa [<-Nat.add_assoc] at this
theorem tS(w0:World)(rb wb:Nat): ∀(N:Nat) (e:KE) (cs:List Value) (h:GH) (L:List a6) (room deep:Int),sz e<=N->RK h e cs->WH h rb wb->0<=room->room<=256->1<=deep->deep<=33->
 bM prog w0 117 [.agg ⟨cs⟩, .int .i64 deep, .pointer (some ⟨rb,0,none⟩), .pointer (some ⟨wb,0,none⟩)] h (⟨rb,0,[.int .i64 room],none⟩::L) (yA e room deep rb h L)
 |0,e,cs,h,L,room,deep,hn,_,_,_,_,_,_=>by have:=gH e;omega |N+1,e,cs,h,L,room,deep,hn,hr,hw,r0,r1,d0,d1=>by
  have hr':=hr;have hw1:IntKind.i64.wrap (room-1)=room-1:=fZ _ (by omega);have hw2:IntKind.i64.wrap (deep+1)=deep+1:=fZ _ (by omega)
  by_cases hs:aY e=true
  ·rcases oH hs with ⟨k,o,t,n,v,rfl⟩|⟨k,o,t,n,v,a,rfl⟩|⟨k,o,t,n,v,a,b,rfl⟩
   ·obtain ⟨a',cap,rfl⟩:=RK_p0 hr;refine bM.iz (bM.cx (cfg w0 117 f117 49 (RL (yA _ room deep rb h L)) func117) T T T T T T ?_);(repeat (first|refine V.step T ?_|refine V.load T T T T T T ?_|refine V.store T T T T T T T ?_|refine V.af T ?_|refine V.ae T ?_));refine V.box T T T T T T fun be=>?_;refine V.alloc T T T T T T fun bx=>?_;(repeat (first|refine V.step T ?_|refine V.load T T T T T T ?_|refine V.store T T T T T T T ?_|refine V.af T ?_|refine V.ae T ?_));refine V.split 19 T (fun hc=>(by simp at hc;(repeat (first|refine V.aq T ?_|refine V.ah T T T T T T ?_|refine V.store T T T T T T T ?_|refine V.af T ?_|refine V.ae T ?_|refine V.skip T T ?_|refine V.al T T T ?_|refine V.aj T T T T T ?_|refine V.ai T T T T T ?_|refine V.step T ?_|refine V.load T T T T T T ?_));refine dW T T T T T T T ⟨⟨rb,0,[.int .i64 _],none⟩::L,kK,?_⟩;exact oL (GH.le_refl _) (gV (by omega)))) (fun hc=>?_);(simp at hc);(repeat (first|refine V.aq T ?_|refine V.ah T T T T T T ?_|refine V.store T T T T T T T ?_|refine V.af T ?_|refine V.ae T ?_|refine V.skip T T ?_|refine V.al T T T ?_|refine V.aj T T T T T ?_|refine V.ai T T T T T ?_|refine V.step T ?_|refine V.load T T T T T T ?_));refine V.bz T T T T T T (qL w0 h _ _ _ hr') ?_;(repeat (first|refine V.aq T ?_|refine V.ah T T T T T T ?_|refine V.store T T T T T T T ?_|refine V.af T ?_|refine V.ae T ?_|refine V.skip T T ?_|refine V.al T T T ?_|refine V.aj T T T T T ?_|refine V.ai T T T T T ?_|refine V.step T ?_|refine V.load T T T T T T ?_));have hff:=fitsZ (room:=room) (deep:=33-deep) hs (by omega) (by omega);refine V.cond T (fun hd=>(by simp [hs] at hd)) (fun hd=>?_);(repeat (first|refine V.aq T ?_|refine V.ah T T T T T T ?_|refine V.store T T T T T T T ?_|refine V.af T ?_|refine V.ae T ?_|refine V.skip T T ?_|refine V.al T T T ?_|refine V.aj T T T T T ?_|refine V.ai T T T T T ?_|refine V.step T ?_|refine V.load T T T T T T ?_));refine V.bh ?_;(repeat (first|refine V.aq T ?_|refine V.ah T T T T T T ?_|refine V.store T T T T T T T ?_|refine V.af T ?_|refine V.ae T ?_|refine V.skip T T ?_|refine V.al T T T ?_|refine V.aj T T T T T ?_|refine V.ai T T T T T ?_|refine V.step T ?_|refine V.load T T T T T T ?_));refine V.bz T T T T T T (P2 w0 h _ k o t n v hff.1 _ _ _ _) ?_;(repeat (first|refine V.aq T ?_|refine V.ah T T T T T T ?_|refine V.store T T T T T T T ?_|refine V.af T ?_|refine V.ae T ?_|refine V.skip T T ?_|refine V.al T T T ?_|refine V.aj T T T T T ?_|refine V.ai T T T T T ?_|refine V.step T ?_|refine V.load T T T T T T ?_));refine dW T T T T T T T ⟨⟨rb,0,[.int .i64 _],none⟩::L,kK,?_⟩;exact ET (GH.le_refl _) hff (by simp [sz,jQ,hw1])
   ·obtain ⟨bb,off,cap,ca,rfl,g1,g2,g3⟩:=RK_p1 hr;obtain ⟨ak,ao,at',an,av,aa,am,ac,rfl⟩:=XA g2;simp only [sz,jQ] at hn;refine bM.iz (bM.cx (cfg w0 117 f117 49 (RL (yA _ room deep rb h L)) func117) T T T T T T ?_);(repeat (first|refine V.step T ?_|refine V.load T T T T T T ?_|refine V.store T T T T T T T ?_|refine V.af T ?_|refine V.ae T ?_));refine V.box T T T T T T fun be=>?_;refine V.alloc T T T T T T fun bx=>?_;(repeat (first|refine V.step T ?_|refine V.load T T T T T T ?_|refine V.store T T T T T T T ?_|refine V.af T ?_|refine V.ae T ?_));refine V.split 19 T (fun hc=>(by simp at hc;(repeat (first|refine V.aq T ?_|refine V.ah T T T T T T ?_|refine V.store T T T T T T T ?_|refine V.af T ?_|refine V.ae T ?_|refine V.skip T T ?_|refine V.al T T T ?_|refine V.aj T T T T T ?_|refine V.ai T T T T T ?_|refine V.step T ?_|refine V.load T T T T T T ?_));refine dW T T T T T T T ⟨⟨rb,0,[.int .i64 _],none⟩::L,kK,?_⟩;exact oL (GH.le_refl _) (gV (by omega)))) (fun hc=>?_);(simp at hc);(repeat (first|refine V.aq T ?_|refine V.ah T T T T T T ?_|refine V.store T T T T T T T ?_|refine V.af T ?_|refine V.ae T ?_|refine V.skip T T ?_|refine V.al T T T ?_|refine V.aj T T T T T ?_|refine V.ai T T T T T ?_|refine V.step T ?_|refine V.load T T T T T T ?_));refine V.bz T T T T T T (qL w0 h _ _ _ hr') ?_;(repeat (first|refine V.aq T ?_|refine V.ah T T T T T T ?_|refine V.store T T T T T T T ?_|refine V.af T ?_|refine V.ae T ?_|refine V.skip T T ?_|refine V.al T T T ?_|refine V.aj T T T T T ?_|refine V.ai T T T T T ?_|refine V.step T ?_|refine V.load T T T T T T ?_));have hf1:fits ⟨k,o,t,n,v,[a]⟩ room (33-deep)↔fits a (IntKind.i64.wrap (room-1)) (33-IntKind.i64.wrap (deep+1)):=by rw [Y8 hs,hw1,hw2,show (33:Int)-(deep+1)=33-deep-1 by omega]
    refine V.cond T (fun hd=>(by simp [hs] at hd)) (fun hd=>?_);refine V.empty ?_;(repeat (first|refine V.aq T ?_|refine V.ah T T T T T T ?_|refine V.store T T T T T T T ?_|refine V.af T ?_|refine V.ae T ?_|refine V.skip T T ?_|refine V.al T T T ?_|refine V.aj T T T T T ?_|refine V.ai T T T T T ?_|refine V.step T ?_|refine V.load T T T T T T ?_));refine V.bh ?_;(repeat (first|refine V.aq T ?_|refine V.ah T T T T T T ?_|refine V.store T T T T T T T ?_|refine V.af T ?_|refine V.ae T ?_|refine V.skip T T ?_|refine V.al T T T ?_|refine V.aj T T T T T ?_|refine V.ai T T T T T ?_|refine V.step T ?_|refine V.load T T T T T T ?_));refine V.index T T T T T T (by decide) (by decide) ?_;refine V.bp T T T T T g1 g3 T ?_;refine V.alloc T T T T T T fun b9=>?_;(repeat (first|refine V.aq T ?_|refine V.ah T T T T T T ?_|refine V.store T T T T T T T ?_|refine V.af T ?_|refine V.ae T ?_|refine V.skip T T ?_|refine V.al T T T ?_|refine V.aj T T T T T ?_|refine V.ai T T T T T ?_|refine V.step T ?_|refine V.load T T T T T T ?_));refine V.fh T T T T T hw.2 T ?_;(repeat (first|refine V.aq T ?_|refine V.ah T T T T T T ?_|refine V.store T T T T T T T ?_|refine V.af T ?_|refine V.ae T ?_|refine V.skip T T ?_|refine V.al T T T ?_|refine V.aj T T T T T ?_|refine V.ai T T T T T ?_|refine V.step T ?_|refine V.load T T T T T T ?_));refine V.perm (L':=⟨rb,0,[.int .i64 (IntKind.i64.wrap (room-1))],none⟩::_::_::_::_::L) (ae8 (l₁:=[_,_,_,_]) (l₂:=L)) ?_;refine V.call T T T T T T (tS w0 rb wb N a _ h _ _ _ (by omega) g2 hw (by omega) (by omega) (by omega) (by omega)) ?_;rintro v1 h1 L1 ⟨hle1,room1,rfl,hv1⟩
    by_cases hfa:fits a (IntKind.i64.wrap (room-1)) (33-IntKind.i64.wrap (deep+1))
    ·rw [iT hfa] at hv1;obtain ⟨rfl,hro⟩:=hv1;refine V.alloc T T T T T T fun b10=>?_;(repeat (first|refine V.aq T ?_|refine V.ah T T T T T T ?_|refine V.store T T T T T T T ?_|refine V.af T ?_|refine V.ae T ?_|refine V.skip T T ?_|refine V.al T T T ?_|refine V.aj T T T T T ?_|refine V.ai T T T T T ?_|refine V.step T ?_|refine V.load T T T T T T ?_))
     (refine V.cv T T T T T T fun c1 h2 hle2 hat2=>?_;(repeat (first|refine V.aq T ?_|refine V.ah T T T T T T ?_|refine V.store T T T T T T T ?_|refine V.af T ?_|refine V.ae T ?_|refine V.skip T T ?_|refine V.al T T T ?_|refine V.aj T T T T T ?_|refine V.ai T T T T T ?_|refine V.step T ?_|refine V.load T T T T T T ?_));refine V.perm (L':=⟨0,0,[],none⟩::_::_::_::_::_::L) (ae8 (l₁:=[_,_,_]) (l₂:=_::_::L)) ?_;have ha2:Sl h2 4 (.slice (some ⟨c1,0,none⟩) 1 1) (kB (ne a)):=Sl.of (aa6 _) T hat2;refine V.fj 1 T T T T T T T T T T T T (Sl.nil h2 4) (Tl.nil 4) ha2 (by simp only [kB,ab1,aj8];omega) T (by decide) ?_;intro jb jo cc h3 x2 hle3 hcc hat3 tl2;(repeat (first|refine V.aq T ?_|refine V.ah T T T T T T ?_|refine V.store T T T T T T T ?_|refine V.af T ?_|refine V.ae T ?_|refine V.skip T T ?_|refine V.al T T T ?_|refine V.aj T T T T T ?_|refine V.ai T T T T T ?_|refine V.step T ?_|refine V.load T T T T T T ?_)))
     have hff:=hf1.2 hfa;refine V.again ?_;(repeat (first|refine V.aq T ?_|refine V.ah T T T T T T ?_|refine V.store T T T T T T T ?_|refine V.af T ?_|refine V.ae T ?_|refine V.skip T T ?_|refine V.al T T T ?_|refine V.aj T T T T T ?_|refine V.ai T T T T T ?_|refine V.step T ?_|refine V.load T T T T T T ?_));have hlt:=GH.le_trans hle1 (GH.le_trans hle2 hle3);have key:yA ⟨k,o,t,n,v,[a]⟩ room deep rb h L (.agg ⟨kB (jn k o t n v [ne a])⟩) h3 (⟨rb,0,[.int .i64 room1],none⟩::L):=by rw [show jn k o t n v [ne a]=ne ⟨k,o,t,n,v,[a]⟩ by simp only [ne,nel]];exact ET hlt hff (by simp only [sz,jQ];omega)
     refine V.bz T T T T T T (P0 w0 h3 (hw.1.mono hlt) _ k o t n v a (ne a) hff.1 (some ⟨bb,off,none⟩) 1 cap jb jo cc hat3) ?_;(repeat (first|refine V.aq T ?_|refine V.ah T T T T T T ?_|refine V.store T T T T T T T ?_|refine V.af T ?_|refine V.ae T ?_|refine V.skip T T ?_|refine V.al T T T ?_|refine V.aj T T T T T ?_|refine V.ai T T T T T ?_|refine V.step T ?_|refine V.load T T T T T T ?_));refine dW T T T T T T T ⟨⟨rb,0,[.int .i64 _],none⟩::L,kK,?_⟩;exact key
    ·rw [iF hfa] at hv1;subst hv1;refine V.alloc T T T T T T fun b10=>?_;(repeat (first|refine V.aq T ?_|refine V.ah T T T T T T ?_|refine V.store T T T T T T T ?_|refine V.af T ?_|refine V.ae T ?_|refine V.skip T T ?_|refine V.al T T T ?_|refine V.aj T T T T T ?_|refine V.ai T T T T T ?_|refine V.step T ?_|refine V.load T T T T T T ?_));refine dW T T T T T T T ⟨⟨rb,0,[.int .i64 _],none⟩::L,kK,?_⟩;exact oL hle1 (fun hh=>hfa (hf1.1 hh))
   ·obtain ⟨bb,off,cap,ca,cb,rfl,g1,g2,g3,g4,g5,g6⟩:=RK_p2 hr;obtain ⟨ak,ao,at',an,av,aa,am,ac,rfl⟩:=XA g2;obtain ⟨bk,bo,bt,bn,bv,ba,bm,bc,rfl⟩:=XA g5;simp only [sz,jQ] at hn;refine bM.iz (bM.cx (cfg w0 117 f117 49 (RL (yA _ room deep rb h L)) func117) T T T T T T ?_);(repeat (first|refine V.step T ?_|refine V.load T T T T T T ?_|refine V.store T T T T T T T ?_|refine V.af T ?_|refine V.ae T ?_));refine V.box T T T T T T fun be=>?_;refine V.alloc T T T T T T fun bx=>?_;(repeat (first|refine V.step T ?_|refine V.load T T T T T T ?_|refine V.store T T T T T T T ?_|refine V.af T ?_|refine V.ae T ?_));refine V.split 19 T (fun hc=>(by simp at hc;(repeat (first|refine V.aq T ?_|refine V.ah T T T T T T ?_|refine V.store T T T T T T T ?_|refine V.af T ?_|refine V.ae T ?_|refine V.skip T T ?_|refine V.al T T T ?_|refine V.aj T T T T T ?_|refine V.ai T T T T T ?_|refine V.step T ?_|refine V.load T T T T T T ?_));refine dW T T T T T T T ⟨⟨rb,0,[.int .i64 _],none⟩::L,kK,?_⟩;exact oL (GH.le_refl _) (gV (by omega)))) (fun hc=>?_);(simp at hc);(repeat (first|refine V.aq T ?_|refine V.ah T T T T T T ?_|refine V.store T T T T T T T ?_|refine V.af T ?_|refine V.ae T ?_|refine V.skip T T ?_|refine V.al T T T ?_|refine V.aj T T T T T ?_|refine V.ai T T T T T ?_|refine V.step T ?_|refine V.load T T T T T T ?_));refine V.bz T T T T T T (qL w0 h _ _ _ hr') ?_;(repeat (first|refine V.aq T ?_|refine V.ah T T T T T T ?_|refine V.store T T T T T T T ?_|refine V.af T ?_|refine V.ae T ?_|refine V.skip T T ?_|refine V.al T T T ?_|refine V.aj T T T T T ?_|refine V.ai T T T T T ?_|refine V.step T ?_|refine V.load T T T T T T ?_));have hf1:fits ⟨k,o,t,n,v,[a,b]⟩ room (33-deep)↔fits a (IntKind.i64.wrap (room-1)) (33-IntKind.i64.wrap (deep+1))/\fits b (IntKind.i64.wrap (room-1)-sz a) (33-IntKind.i64.wrap (deep+1)):=by rw [Y9 hs,hw1,hw2,show (33:Int)-(deep+1)=33-deep-1 by omega,show room-1-(sz a:Int)=room-(1+sz a) by omega]
    refine V.cond T (fun hd=>(by simp [hs] at hd)) (fun hd=>?_);refine V.empty ?_;(repeat (first|refine V.aq T ?_|refine V.ah T T T T T T ?_|refine V.store T T T T T T T ?_|refine V.af T ?_|refine V.ae T ?_|refine V.skip T T ?_|refine V.al T T T ?_|refine V.aj T T T T T ?_|refine V.ai T T T T T ?_|refine V.step T ?_|refine V.load T T T T T T ?_));refine V.bh ?_;(repeat (first|refine V.aq T ?_|refine V.ah T T T T T T ?_|refine V.store T T T T T T T ?_|refine V.af T ?_|refine V.ae T ?_|refine V.skip T T ?_|refine V.al T T T ?_|refine V.aj T T T T T ?_|refine V.ai T T T T T ?_|refine V.step T ?_|refine V.load T T T T T T ?_));refine V.index T T T T T T (by decide) (by decide) ?_;refine V.bp T T T T T g1 g3 T ?_;refine V.alloc T T T T T T fun b9=>?_;(repeat (first|refine V.aq T ?_|refine V.ah T T T T T T ?_|refine V.store T T T T T T T ?_|refine V.af T ?_|refine V.ae T ?_|refine V.skip T T ?_|refine V.al T T T ?_|refine V.aj T T T T T ?_|refine V.ai T T T T T ?_|refine V.step T ?_|refine V.load T T T T T T ?_));refine V.fh T T T T T hw.2 T ?_;(repeat (first|refine V.aq T ?_|refine V.ah T T T T T T ?_|refine V.store T T T T T T T ?_|refine V.af T ?_|refine V.ae T ?_|refine V.skip T T ?_|refine V.al T T T ?_|refine V.aj T T T T T ?_|refine V.ai T T T T T ?_|refine V.step T ?_|refine V.load T T T T T T ?_));refine V.perm (L':=⟨rb,0,[.int .i64 (IntKind.i64.wrap (room-1))],none⟩::_::_::_::_::L) (ae8 (l₁:=[_,_,_,_]) (l₂:=L)) ?_;refine V.call T T T T T T (tS w0 rb wb N a _ h _ _ _ (by omega) g2 hw (by omega) (by omega) (by omega) (by omega)) ?_;rintro v1 h1 L1 ⟨hle1,room1,rfl,hv1⟩
    by_cases hfa:fits a (IntKind.i64.wrap (room-1)) (33-IntKind.i64.wrap (deep+1))
    ·rw [iT hfa] at hv1;obtain ⟨rfl,hro⟩:=hv1;refine V.alloc T T T T T T fun b10=>?_;(repeat (first|refine V.aq T ?_|refine V.ah T T T T T T ?_|refine V.store T T T T T T T ?_|refine V.af T ?_|refine V.ae T ?_|refine V.skip T T ?_|refine V.al T T T ?_|refine V.aj T T T T T ?_|refine V.ai T T T T T ?_|refine V.step T ?_|refine V.load T T T T T T ?_))
     (refine V.cv T T T T T T fun c1 h2 hle2 hat2=>?_;(repeat (first|refine V.aq T ?_|refine V.ah T T T T T T ?_|refine V.store T T T T T T T ?_|refine V.af T ?_|refine V.ae T ?_|refine V.skip T T ?_|refine V.al T T T ?_|refine V.aj T T T T T ?_|refine V.ai T T T T T ?_|refine V.step T ?_|refine V.load T T T T T T ?_));refine V.perm (L':=⟨0,0,[],none⟩::_::_::_::_::_::L) (ae8 (l₁:=[_,_,_]) (l₂:=_::_::L)) ?_;have ha2:Sl h2 4 (.slice (some ⟨c1,0,none⟩) 1 1) (kB (ne a)):=Sl.of (aa6 _) T hat2;refine V.fj 1 T T T T T T T T T T T T (Sl.nil h2 4) (Tl.nil 4) ha2 (by simp only [kB,ab1,aj8];omega) T (by decide) ?_;intro jb jo cc h3 x2 hle3 hcc hat3 tl2;(repeat (first|refine V.aq T ?_|refine V.ah T T T T T T ?_|refine V.store T T T T T T T ?_|refine V.af T ?_|refine V.ae T ?_|refine V.skip T T ?_|refine V.al T T T ?_|refine V.aj T T T T T ?_|refine V.ai T T T T T ?_|refine V.step T ?_|refine V.load T T T T T T ?_)))
     have hlt:=GH.le_trans hle1 (GH.le_trans hle2 hle3);have hat3:iB h3 jb jo (kB (ne a)):=hat3;have hfas:=hfa.2.1;refine V.again ?_;(repeat (first|refine V.aq T ?_|refine V.ah T T T T T T ?_|refine V.store T T T T T T T ?_|refine V.af T ?_|refine V.ae T ?_|refine V.skip T T ?_|refine V.al T T T ?_|refine V.aj T T T T T ?_|refine V.ai T T T T T ?_|refine V.step T ?_|refine V.load T T T T T T ?_));refine V.index T T T T T T (by decide) (by decide) ?_;refine V.bp T T T T T (g4.mono hlt) g6 T ?_;refine V.alloc T T T T T T fun b9'=>?_;(repeat (first|refine V.aq T ?_|refine V.ah T T T T T T ?_|refine V.store T T T T T T T ?_|refine V.af T ?_|refine V.ae T ?_|refine V.skip T T ?_|refine V.al T T T ?_|refine V.aj T T T T T ?_|refine V.ai T T T T T ?_|refine V.step T ?_|refine V.load T T T T T T ?_));refine V.fh T T T T T (hlt _ _ _ hw.2) T ?_;(repeat (first|refine V.aq T ?_|refine V.ah T T T T T T ?_|refine V.store T T T T T T T ?_|refine V.af T ?_|refine V.ae T ?_|refine V.skip T T ?_|refine V.al T T T ?_|refine V.aj T T T T T ?_|refine V.ai T T T T T ?_|refine V.step T ?_|refine V.load T T T T T T ?_));refine V.perm (L':=⟨rb,0,[.int .i64 room1],none⟩::_::_::_::_::_::_::L) (ae8 (l₁:=[_,_,_]) (l₂:=_::_::_::L)) ?_;refine V.call T T T T T T (tS w0 rb wb N b _ h3 _ _ _ (by omega) (RK.mono hlt g5) (hw.mono hlt) (by omega) (by omega) (by omega) (by omega)) ?_;rintro v2 h4 L2 ⟨hle4,room2,rfl,hv2⟩
     by_cases hfb:fits b room1 (33-IntKind.i64.wrap (deep+1))
     ·rw [iT hfb] at hv2;obtain ⟨rfl,hro2⟩:=hv2;refine V.alloc T T T T T T fun b10'=>?_;(repeat (first|refine V.aq T ?_|refine V.ah T T T T T T ?_|refine V.store T T T T T T T ?_|refine V.af T ?_|refine V.ae T ?_|refine V.skip T T ?_|refine V.al T T T ?_|refine V.aj T T T T T ?_|refine V.ai T T T T T ?_|refine V.step T ?_|refine V.load T T T T T T ?_));refine V.cv T T T T T T fun c2 h5 hle5 hat5=>?_;(repeat (first|refine V.aq T ?_|refine V.ah T T T T T T ?_|refine V.store T T T T T T T ?_|refine V.af T ?_|refine V.ae T ?_|refine V.skip T T ?_|refine V.al T T T ?_|refine V.aj T T T T T ?_|refine V.ai T T T T T ?_|refine V.step T ?_|refine V.load T T T T T T ?_));refine V.perm (L':=x2::_::_::_::_::_::_::_::L) (ae8 (l₁:=[_,_,_]) (l₂:=_::_::_::_::L)) ?_;have hb2:Sl h5 4 (.slice (some ⟨c2,0,none⟩) 1 1) (kB (ne b)):=Sl.of (aa6 _) T hat5;have hb1:Sl h5 4 (.slice (some ⟨jb,jo,none⟩) 1 cc) (kB (ne a)):=Sl.of hcc T (hat3.mono (GH.le_trans hle4 hle5));refine V.fj 2 T T T T T T T T T T T T hb1 tl2 hb2 (by simp only [kB,ab1,aj8];omega) T (by decide) ?_;intro jb2 jo2 cc2 h6 x3 hle6 hcc2 hat6 tl3;(repeat (first|refine V.aq T ?_|refine V.ah T T T T T T ?_|refine V.store T T T T T T T ?_|refine V.af T ?_|refine V.ae T ?_|refine V.skip T T ?_|refine V.al T T T ?_|refine V.aj T T T T T ?_|refine V.ai T T T T T ?_|refine V.step T ?_|refine V.load T T T T T T ?_));have hlt2:=GH.le_trans hlt (GH.le_trans hle4 (GH.le_trans hle5 hle6));have hff:=hf1.2 ⟨hfa,by rw [<-hro];exact hfb⟩;have ba:=kY N a (by omega) hfa.1;have bb':=kY N b (by omega) hfb.1;have bs:=hff.2.1;refine V.again ?_;(repeat (first|refine V.aq T ?_|refine V.ah T T T T T T ?_|refine V.store T T T T T T T ?_|refine V.af T ?_|refine V.ae T ?_|refine V.skip T T ?_|refine V.al T T T ?_|refine V.aj T T T T T ?_|refine V.ai T T T T T ?_|refine V.step T ?_|refine V.load T T T T T T ?_));have key:yA ⟨k,o,t,n,v,[a,b]⟩ room deep rb h L (.agg ⟨kB (jn k o t n v [ne a,ne b])⟩) h6 (⟨rb,0,[.int .i64 room2],none⟩::L):=by
       rw [show jn k o t n v [ne a,ne b]=ne ⟨k,o,t,n,v,[a,b]⟩ by simp only [ne,nel]];exact ET hlt2 hff (by simp only [sz,jQ];omega)
      simp only [sz,jQ] at bs;refine V.bz T T T T T T (P1 w0 h6 (hw.1.mono hlt2) _ k o t n v a b (ne a) (ne b) (by omega) (by omega) hff.1 (some ⟨bb,off,none⟩) 2 cap jb2 jo2 cc2 (at2 hat6).1 (at2 hat6).2) ?_;(repeat (first|refine V.aq T ?_|refine V.ah T T T T T T ?_|refine V.store T T T T T T T ?_|refine V.af T ?_|refine V.ae T ?_|refine V.skip T T ?_|refine V.al T T T ?_|refine V.aj T T T T T ?_|refine V.ai T T T T T ?_|refine V.step T ?_|refine V.load T T T T T T ?_));refine dW T T T T T T T ⟨⟨rb,0,[.int .i64 _],none⟩::L,kK,?_⟩;exact key
     ·rw [iF hfb] at hv2;subst hv2;refine V.alloc T T T T T T fun b10'=>?_;(repeat (first|refine V.aq T ?_|refine V.ah T T T T T T ?_|refine V.store T T T T T T T ?_|refine V.af T ?_|refine V.ae T ?_|refine V.skip T T ?_|refine V.al T T T ?_|refine V.aj T T T T T ?_|refine V.ai T T T T T ?_|refine V.step T ?_|refine V.load T T T T T T ?_));refine dW T T T T T T T ⟨⟨rb,0,[.int .i64 _],none⟩::L,kK,?_⟩;exact oL (GH.le_trans hlt hle4) (fun hh=>hfb (by rw [hro];exact (hf1.1 hh).2))
    ·rw [iF hfa] at hv1;subst hv1;refine V.alloc T T T T T T fun b10=>?_;(repeat (first|refine V.aq T ?_|refine V.ah T T T T T T ?_|refine V.store T T T T T T T ?_|refine V.af T ?_|refine V.ae T ?_|refine V.skip T T ?_|refine V.al T T T ?_|refine V.aj T T T T T ?_|refine V.ai T T T T T ?_|refine V.step T ?_|refine V.load T T T T T T ?_));refine dW T T T T T T T ⟨⟨rb,0,[.int .i64 _],none⟩::L,kK,?_⟩;exact oL hle1 (fun hh=>hfa (hf1.1 hh).1)
  ·obtain ⟨k,o,t,n,v,l⟩:=e;simp only [RK] at hr;obtain ⟨hz,a,cap,rfl,hcap,hl⟩:=hr;refine bM.iz (bM.cx (cfg w0 117 f117 49 (RL (yA _ room deep rb h L)) func117) T T T T T T ?_);(repeat (first|refine V.step T ?_|refine V.load T T T T T T ?_|refine V.store T T T T T T T ?_|refine V.af T ?_|refine V.ae T ?_));refine V.box T T T T T T fun be=>?_;refine V.alloc T T T T T T fun bx=>?_;(repeat (first|refine V.step T ?_|refine V.load T T T T T T ?_|refine V.store T T T T T T T ?_|refine V.af T ?_|refine V.ae T ?_));refine V.split 19 T (fun hc=>(by simp at hc;(repeat (first|refine V.aq T ?_|refine V.ah T T T T T T ?_|refine V.store T T T T T T T ?_|refine V.af T ?_|refine V.ae T ?_|refine V.skip T T ?_|refine V.al T T T ?_|refine V.aj T T T T T ?_|refine V.ai T T T T T ?_|refine V.step T ?_|refine V.load T T T T T T ?_));refine dW T T T T T T T ⟨⟨rb,0,[.int .i64 _],none⟩::L,kK,?_⟩;exact oL (GH.le_refl _) (gV (by omega)))) (fun hc=>?_);(simp at hc);(repeat (first|refine V.aq T ?_|refine V.ah T T T T T T ?_|refine V.store T T T T T T T ?_|refine V.af T ?_|refine V.ae T ?_|refine V.skip T T ?_|refine V.al T T T ?_|refine V.aj T T T T T ?_|refine V.ai T T T T T ?_|refine V.step T ?_|refine V.load T T T T T T ?_));refine V.bz T T T T T T (qL w0 h _ _ _ hr') ?_;(repeat (first|refine V.aq T ?_|refine V.ah T T T T T T ?_|refine V.store T T T T T T T ?_|refine V.af T ?_|refine V.ae T ?_|refine V.skip T T ?_|refine V.al T T T ?_|refine V.aj T T T T T ?_|refine V.ai T T T T T ?_|refine V.step T ?_|refine V.load T T T T T T ?_));refine V.cond T (fun hd=>?_) (fun hd=>(by simp at hd;exact (hs hd).elim));(repeat (first|refine V.aq T ?_|refine V.ah T T T T T T ?_|refine V.store T T T T T T T ?_|refine V.af T ?_|refine V.ae T ?_|refine V.skip T T ?_|refine V.al T T T ?_|refine V.aj T T T T T ?_|refine V.ai T T T T T ?_|refine V.step T ?_|refine V.load T T T T T T ?_));refine dW T T T T T T T ⟨⟨rb,0,[.int .i64 _],none⟩::L,kK,?_⟩;exact oL (GH.le_refl _) (gV (.inr (.inr (by simpa using hs))))
def nrV(e:KE):List Value:=if valid e then kB (ne e) else sX
theorem JA(w0:World)(h:GH)(hq:iB h 0 0 quietL)(L:List a6)(e:KE)(cs:List Value)(hr:RK h e cs):bM prog w0 102 [.agg ⟨cs⟩] h L (Is (.agg ⟨nrV e⟩) h L):=by
 have hr':=hr;obtain ⟨k,o,t,n,v,a,m,cap,rfl⟩:=XA hr;refine bM.is (bM.cx (cfg w0 102 f102 9 (EV (.agg ⟨nrV e⟩) h L) func102) T T T T T T ?_);(repeat (first|refine V.step T ?_|refine V.load T T T T T T ?_|refine V.store T T T T T T T ?_|refine V.af T ?_|refine V.ae T ?_));refine V.box T T T T T T fun be=>?_;refine V.alloc T T T T T T fun bx=>?_;(repeat (first|refine V.step T ?_|refine V.load T T T T T T ?_|refine V.store T T T T T T T ?_|refine V.af T ?_|refine V.ae T ?_));refine V.alloc T T T T T T fun rb=>?_;(repeat (first|refine V.step T ?_|refine V.load T T T T T T ?_|refine V.store T T T T T T T ?_|refine V.af T ?_|refine V.ae T ?_));refine V.alloc T T T T T T fun wb=>?_;(repeat (first|refine V.step T ?_|refine V.load T T T T T T ?_|refine V.store T T T T T T T ?_|refine V.af T ?_|refine V.ae T ?_));refine V.bu fun hle=>?_;have hw:WH (h.add wb 0 [.func (.func 117) #[] #[.pointer (some ⟨rb,0,none⟩), .pointer (some ⟨wb,0,none⟩)]]) rb wb:=⟨hq.mono hle,GH.cr h wb 0 _ (i:=0) T⟩;refine V.call T T T T T T (tS w0 rb wb _ e _ _ _ 256 1 (aa6 _) (RK.mono hle hr) hw (by omega) (by omega) (by omega) (by omega)) ?_;rintro v1 h1 L1 ⟨hle1,room1,rfl,hv1⟩;have hle2:=GH.le_trans hle hle1
 by_cases hv:valid e
 ·have hnv:nrV e=kB (ne e):=iT hv;rw [iT (show fits e 256 (33-1) from hv)] at hv1;obtain ⟨rfl,_⟩:=hv1;(repeat (first|refine V.step T ?_|refine V.load T T T T T T ?_|refine V.store T T T T T T T ?_|refine V.af T ?_|refine V.ae T ?_));refine dW T T T T T T T ⟨?_,hle2,kK⟩;rw [hnv];rfl
 ·have hnv:nrV e=sX:=iF hv;rw [iF (show¬fits e 256 (33-1) from hv)] at hv1;subst hv1;(repeat (first|refine V.step T ?_|refine V.load T T T T T T ?_|refine V.store T T T T T T T ?_|refine V.af T ?_|refine V.ae T ?_));refine dW T T T T T T T ⟨?_,hle2,kK⟩;rw [hnv];rfl
theorem nrV_eq(e:KE):nrV e=[.bool (decide (valid e)), .bool (nrOf e).safe, .int .i64 (nrOf e).regs, .int .i64 (nrOf e).temps]:=by
 unfold nrV nrOf
 by_cases h:valid e
 ·simp [h,kB]
 ·simp [h,sX]
theorem E5(w0:World)(h:GH)(hq:iB h 0 0 quietL)(L:List a6)(e:KE)(cs:List Value)(hr:RK h e cs):
 bM prog w0 102 [.agg ⟨cs⟩] h L (Is (.agg ⟨[.bool (decide (valid e)), .bool (nrOf e).safe, .int .i64 (nrOf e).regs, .int .i64 (nrOf e).temps]⟩) h L):=by
 have:=JA w0 h hq L e cs hr;rw [nrV_eq] at this;exact this
theorem dsafe_does(w0:World)(h:GH)(hq:iB h 0 0 quietL)(L:List a6)(e:KE)(cs:List Value)(hr:RK h e cs):bM prog w0 62 [.agg ⟨cs⟩] h L (Is (.bool (nrOf e).safe) h L):=by have hr':=hr;obtain ⟨k,o,t,n,v,a,m,cap,rfl⟩:=XA hr;refine bM.is (bM.cx (cfg w0 62 f62 6 (EV (.bool _) h L) func62) T T T T T T ?_);(repeat (first|refine V.step T ?_|refine V.load T T T T T T ?_|refine V.store T T T T T T T ?_|refine V.af T ?_|refine V.ae T ?_));refine V.box T T T T T T fun be=>?_;(repeat (first|refine V.step T ?_|refine V.load T T T T T T ?_|refine V.store T T T T T T T ?_|refine V.af T ?_|refine V.ae T ?_));refine V.bz T T T T T T (E5 w0 h hq _ e _ hr') ?_;(repeat (first|refine V.step T ?_|refine V.load T T T T T T ?_|refine V.store T T T T T T T ?_|refine V.af T ?_|refine V.ae T ?_));refine V.az (L0:=[]) T T T T T ⟨?_,GH.le_refl _,kK⟩;rfl
end Go.Proofs.YtkbolbpojpmicaaGreatDoor.S22
namespace Go.Proofs.YtkbolbpojpmicaaGreatDoor
open Go Go.Tp
abbrev vT:Ua:=[(0, .pe 27 (.ag (S22.quietL.map .v)))]
abbrev TU(e:KE):Bool:=(S22.nrOf e).safe
theorem UD{h:GH}{x:Value}{r:List AV}{vs:List Value}(q:dM h (.v x::r) vs): ∃vs',vs=x::vs'/\dM h r vs':=by rw [aG] at q;obtain ⟨v,vs',rfl,h1,h2⟩:=q;rw [bE] at h1;exact ⟨vs',by rw [h1.1],h2⟩
mutual
theorem RK_of{h:GH}: ∀{e:KE} {cs:List Value},iZ e->Rp h (eE e) (.agg ⟨cs⟩)->RK h e cs
 |⟨k,o,t,n,v,l⟩,cs,hw,q=>by
  rw [iZ] at hw;rw [eE,eJ] at q;obtain ⟨cs',e1,q⟩:=q;injection e1 with e1;injection e1 with e1;subst e1;obtain ⟨c1,rfl,k1⟩:=UD q;obtain ⟨c2,rfl,k2⟩:=UD k1;obtain ⟨c3,rfl,k3⟩:=UD k2;obtain ⟨c4,rfl,k4⟩:=UD k3;obtain ⟨c5,rfl,k5⟩:=UD k4;rw [aG] at k5;obtain ⟨u,us,rfl,q1,q2⟩:=k5;rw [aQ] at q2;subst q2;rw [cU] at q1;obtain ⟨a,cap,rfl,q2,_,q3⟩:=q1;have hl:(bB l).length=l.length:=by rw [pD,aa0]
  rw [RK];refine ⟨hw.1,a,cap,by rw [hl],by rw [<-hl];exact q2,fun hn=>?_⟩;obtain ⟨b,oo,rfl,q4⟩:=q3 (fun hh=>hn (by rw [hh] at hl;exact ad0.1 hl.symm));exact ⟨b,oo,rfl,RN hw.2 q4⟩
theorem RN{h:GH}: ∀{l:List KE} {b o:Nat},oY l->tU h 6 (bB l) b o->UC h l b o
 | [],_,_,_,_=>by rw [UC];trivial |e::r,b,o,hw,q=>by rw [oY] at hw;rw [bB,jR] at q;obtain ⟨⟨z,q1,q2,q3⟩,q4⟩:=q;rw [UC];have q5:=q1;rw [aJ,eJ] at q5;obtain ⟨cs,rfl,_⟩:=q5;have e1:aI (.agg ⟨cs⟩)=cs:=rfl;rw [e1] at q3;exact ⟨⟨cs,q3,RK_of hw.1 q1⟩,RN hw.2 q4⟩
end
theorem quiet_gs{h:GH}(g:jP h vT):iB h 0 0 S22.quietL:=by
 have q:=g 0 _ T;rw [kO] at q;obtain ⟨b,o,z,e1,q1,q2,q3⟩:=q;injection e1 with e1;injection e1 with e1;injection e1 with e1 e2;subst e1;subst e2;rw [eJ] at q1;obtain ⟨cs,rfl,q1⟩:=q1;have: ∀(l cs:List Value),dM h (l.map .v) cs->cs=l:=fun l=>by
  induction l with
  |nil=>intro cs q;rw [List.map_nil,aQ] at q;exact q |cons x r ih=>
   intro cs q;obtain ⟨vs,rfl,k1⟩:=UD q;rw [ih vs k1]
 have:=this _ _ q1;subst this;exact q3
theorem pure_is{f:FuncId}{e:KE}{v:Value}(hw:iZ e)(hv:iJ v=true)(hd: ∀w0 h L cs,iB h 0 0 S22.quietL->RK h e cs->bM prog w0 f [.agg ⟨cs⟩] h L (Is v h L)):Pure prog vT f [eE e] (.v v):=by intro w0 h vs L F g r q;have q:L=[]:=q;subst q;rw [aG] at r;obtain ⟨u,us,rfl,r1,r2⟩:=r;rw [aQ] at r2;subst r2;have r3:=r1;rw [aJ,eJ] at r3;obtain ⟨cs,rfl,_⟩:=r3;refine (hd w0 h F cs (quiet_gs g) (RK_of hw r1)).mono fun v' h' L' ⟨e1,e2,e3⟩=>?_;subst e1;subst e2;subst e3;exact ⟨_,[],[],⟨rfl,rfl⟩,bE.2 ⟨rfl,hv⟩,GH.le_refl _,rfl,rfl⟩
theorem dsafe_p(e:KE)(hw:iZ e):Pure prog vT 62 [eE e] (AB (TU e)):=pure_is hw T fun w0 h L cs hq hr=>S22.dsafe_does w0 h hq L e cs hr
theorem BC{m:Nat}(h:inB m 1 1=true):m=1:=by simp only [inB,aa1,dT] at h;omega
theorem I2{l:List KV}{n:Nat}{p:PR}(h:aS l n p=true)(k:p.kind=6): ∃x,p.e=[x]/\jW n p.c p.item 0=true:=by obtain ⟨kd,c,v,it,to,e,gs,b⟩:=p;simp only [PR.kind] at k;subst k;have hs:aS l n ⟨6,c,v,it,to,e,gs,b⟩=(aN ⟨6,c,v,it,to,e,gs,b⟩ true false 0 0 1 1 0 0 0 0&&jW n c it 0&&oS l e it):=rfl;rw [hs] at h;simp only [aN,aa1] at h;obtain ⟨x,hx⟩:=JL (BC h.1.1.1.1.2);exact ⟨x,hx,h.1.2⟩
theorem I1{l:List KV}{n:Nat}{p:PR}(h:aS l n p=true)(k:p.kind=5): ∃t,p.to=[t]/\gD l n p.c p.item t=true:=by obtain ⟨kd,c,v,it,to,e,gs,b⟩:=p;simp only [PR.kind] at k;subst k;have hs:aS l n ⟨5,c,v,it,to,e,gs,b⟩=(aN ⟨5,c,v,it,to,e,gs,b⟩ true false 1 1 0 0 0 0 0 0&&to1 (gD l n c it) to):=rfl;rw [hs] at h;simp only [aN,aa1] at h;obtain ⟨x,hx⟩:=JL (BC h.1.1.1.1.2);refine ⟨x,hx,?_⟩;have h2:=h.2;simp only [PR.to] at hx;rw [hx] at h2;exact h2
theorem BF{l:List KV}{n:Nat}{p:PR}(h:aS l n p=true)(k:p.kind=13): ∃x y,p.e=[x]/\p.l=[y]:=by obtain ⟨kd,c,v,it,to,e,gs,b⟩:=p;simp only [PR.kind] at k;subst k;have hs:aS l n ⟨13,c,v,it,to,e,gs,b⟩=(aN ⟨13,c,v,it,to,e,gs,b⟩ false false 0 0 1 1 0 0 1 1&&oS l e 3):=rfl;rw [hs] at h;simp only [aN,aa1] at h;obtain ⟨x,hx⟩:=JL (BC h.1.1.1.2);obtain ⟨y,hy⟩:=JL (BC h.1.2);exact ⟨x,y,hx,hy⟩
theorem place_at{l:List KV}{p:PL}{k:Int}(h:dR l p k=true):0<=p.v/\ ∃y,l[p.v.toNat]? =some y:=by
 unfold dR at h;split at h
 ·cases h
 ·rename_i hn;exact ⟨by omega,dC (by omega)⟩
theorem n9{l:List KV}{n:Nat}{c it:Int}{t:PL}(h:gD l n c it t=true):jW n c it 1=true/\dR l t it=true:=by rw [gD,aa1] at h;exact h
theorem A7{n:Nat}{c it no:Int}(h:jW n c it no=true):0<=c/\c<n:=by simp only [jW,aa1,dT] at h;omega
def yK(q:PR):Bool:=(q.kind !=5&&q.kind !=6)||decide (q.c<2)
def nN(p:PR):List PR:=if p.kind=10 then p.l else [p]
def bO(p:PR):List PR:=if (nN p).any yK=true then [] else nN p
theorem FV(p:PR):bC [p]=[aB p]:=by rw [bC,bC,bP]
theorem WN(p:PR)(h:p.l.length<=281474976710656):(nN p).length<=281474976710656:=by
 unfold nN;split
 ·exact h
 ·show 1<=_;omega
theorem badq_p(q:PR):Pure prog a9 61 [aB q] (AB (yK q)):=by
 refine P_ func61 16 fun _ _ _ _=>?_;(repeat' first|first|refine A.s T ?_|refine A.r T T ?_|refine A.w T T ?_|refine A.p T ?_|refine A.b T fun bx=>?_|refine A.t T fun bl=>?_|((fail_if_success (refine A.lit? T ?_));refine A.gS T (fun hc=>?_) (fun hc=>?_))|((fail_if_success (refine A.cv? T ?_));refine A.gm T (fun hc=>?_) (fun hc=>?_)))
 all_goals (refine R_ ?_;refine Sb.eq (aA ?_))
 all_goals (unfold yK;first|(simp_all;done)|rfl|skip)
theorem NS(p:PR)(hl:p.l.length<=281474976710656):Pure prog a9 33 [aB p] (iQ (bO p)):=by
 have hcf:=IP 61 [] yK (nN p) (fun g _=>badq_p g) (WN p hl)
 by_cases h10:p.kind=10
 ·have hb:(p.kind==10)=true:=beq_iff_eq.2 h10;rw [bO,show nN p=p.l from iT h10] at*;cases hany:p.l.any yK with
  |true=>
   rw [hany] at hcf;rw [iT T];refine P_ func33 14 fun _ _ _ _=>?_
   (refine b_ fun bx=>?_;refine t_ fun bl=>?_;refine y_ ?_)
   refine e_ 8 T (x':=AB true) (aA hb) ?_;refine c_ hcf ?_;refine R_ ?_;exact .nil
  |false=>
   rw [hany] at hcf;rw [iF (by simp)];refine P_ func33 14 fun _ _ _ _=>?_
   (refine b_ fun bx=>?_;refine t_ fun bl=>?_;refine y_ ?_)
   refine e_ 8 T (x':=AB true) (aA hb) ?_;exact lR hcf
 ·have hb:(p.kind==10)=false:=beq_eq_false_iff_ne.2 h10;rw [bO,show nN p=[p] from iF h10] at*;rw [iQ,FV] at hcf;cases hany:[p].any yK with
  |true=>
   rw [hany] at hcf;rw [iT T];refine P_ func33 14 fun _ _ _ _=>?_
   (refine b_ fun bx=>?_;refine t_ fun bl=>?_;refine y_ ?_)
   refine e_ 8 T (x':=AB false) (aA hb) ?_;refine c_ hcf ?_;refine R_ ?_;exact .nil
  |false=>
   rw [hany] at hcf;rw [iF (by simp),iQ,FV];refine P_ func33 14 fun _ _ _ _=>?_
   (refine b_ fun bx=>?_;refine t_ fun bl=>?_;refine y_ ?_)
   refine e_ 8 T (x':=AB false) (aA hb) ?_;refine c_ hcf ?_;refine R_ ?_;exact .own .refl
end Go.Proofs.YtkbolbpojpmicaaGreatDoor
