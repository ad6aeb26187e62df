/-
  Texts Q16l Q16m Q16n Q16o Q16p Q16q Q16r Q16s Q16t Q16u Q18a Q18b Q18c Q18d Q18e Q18f Q18g Q18s Q18h P18a P18b Q18i Q18j Q18k P18c Q17h Q17j Q17k Q18l P18d Q18m Q18q Q18r Q18n Q18o Q18p Q18t Q18v Q18w Q17z P18e Q18x P18f P18g P20d Lt Q18y P18h P18i P18j T18a T18b T18c. Conditions: as each theorem says.
-/
import Derived.Test.YtenkjmjejhhdjaaGreatWc3
import Derived.Test.YtenkjmjejhhdjaaGreatWc5
import Derived.Test.YtenkjmjejhhdjaaGreatWc4
import Derived.Test.YtenkjmjejhhdjaaGreatWc2
set_option linter.unusedVariables false
set_option linter.unusedSimpArgs false
set_option maxRecDepth 100000
set_option maxHeartbeats 4000000
open Go.Tp(T eX dT dF iF iT)
open Go.Proofs.Tryz
open List renaming length_map→aa0,length_append→aa1,mem_of_getElem?→aa2,mem_cons_self→aa5,take_of_length_le→aa6,getElem?_eq_getElem→aa7,mem_singleton→ab0,getElem?_map→ab5,mem_cons→ab6,length_cons→ab7,length_take→ac1,take_length→ac4,take_add_one→ac9,length_eq_zero_iff→ad2,drop_eq_nil_of_le→ad3,cons_append→ad4,foldl_cons→ae2,take_append_drop→ae3,all_eq_true→ae5,foldl_append→af2,length_replicate→ag6,getElem?_set→ah0,mem_range→ah5,drop_length→ai3,all_cons→aj8,length_set→ak6,map_replicate→al6,sizeOf_lt_of_mem→al7,all_append→al9,mem_or_eq_of_mem_set→aq2,any_eq_false→ar3,all_nil→ar8
open Bool renaming and_eq_true→aa3,true_and→ac2,eq_iff_iff→ac8,false_and→af3,not_eq_true'→aj7,and_false→ak4,and_assoc→al1,or_eq_true→al8,and_true→am1,or_false→an9,true_or→ao9,false_or→ap6,not_false→aq9
open Nat renaming zero_le→aa4,le_refl→ab3,eq_zero_or_pos→ah3
open Exists renaming elim→ab4
open Int renaming toNat_natCast→ac7
open Prod renaming snd→al4
namespace Go.Proofs.YtenkjmjejhhdjaaGreat
open Go Go.Tp
section
variable(l:List KV)(n:Nat)
mutual
def okR(high:Bool):PR->Bool
 |⟨k,c,v,i,to,e,gs,b⟩=>bE l n ⟨k,c,v,i,to,e,gs,b⟩&& !(high&&k==11)&&HT high (k==11) b&&sL high gs
def HT(high first:Bool):List PR->Bool
 | []=>true |p::r=>okR (high||first) p&&HT high false r
def okG(high:Bool):GD->Bool
 |⟨_,_,_,_,_,_,b⟩=>HT high false b
def sL(high:Bool):List GD->Bool
 | []=>true |g::r=>okG high g&&sL high r
end
end
mutual
def oD:PR->Nat
 |⟨_,_,_,_,_,_,gs,b⟩=>1+kR b+gG gs
def kR:List PR->Nat
 | []=>0 |p::r=>oD p+kR r
def szG:GD->Nat
 |⟨_,_,_,_,_,_,b⟩=>kR b
def gG:List GD->Nat
 | []=>0 |g::r=>szG g+gG r
end
mutual
def htR:PR->Nat
 |⟨_,_,_,_,_,_,gs,b⟩=>1+max (JV b) (uV gs)
def JV:List PR->Nat
 | []=>0 |p::r=>max (htR p) (JV r)
def htG:GD->Nat
 |⟨_,_,_,_,_,_,b⟩=>JV b
def uV:List GD->Nat
 | []=>0 |g::r=>max (htG g) (uV r)
end
theorem NC(l:List KV)(n:Nat)(high:Bool)(p:PR):okR l n high p=(bE l n p&& !(high&&p.kind==11)&&HT l n high (p.kind==11) p.l&&sL l n high p.gs):=by obtain ⟨k,c,v,i,to,e,gs,b⟩:=p;rw [okR]
theorem y8(p:PR):oD p=1+kR p.l+gG p.gs:=by obtain ⟨k,c,v,i,to,e,gs,b⟩:=p;rw [oD]
theorem V3(p:PR):htR p=1+max (JV p.l) (uV p.gs):=by obtain ⟨k,c,v,i,to,e,gs,b⟩:=p;rw [htR]
theorem XB(l:List KV)(n:Nat)(high:Bool)(g:GD):okG l n high g=HT l n high false g.body:=by obtain ⟨k,e,c,i,to,t,b⟩:=g;rw [okG]
theorem q7(g:GD):szG g=kR g.body:=by obtain ⟨k,e,c,i,to,t,b⟩:=g;rw [szG]
theorem htG_eq(g:GD):htG g=JV g.body:=by obtain ⟨k,e,c,i,to,t,b⟩:=g;rw [htG]
theorem xH(p:PR):1<=oD p:=by rw [y8];omega
theorem a0l(p:PR):1<=htR p:=by rw [V3];omega
theorem q8(a b:List PR):kR (a++b)=kR a+kR b:=by
 induction a with
 |nil=>simp [kR] |cons x r ih=>rw [ad4,kR,kR,ih];omega
theorem CL(a b:List PR):JV (a++b)=max (JV a) (JV b):=by
 induction a with
 |nil=>simp [JV] |cons x r ih=>rw [ad4,JV,JV,ih];omega
theorem oZ(a b:List GD):gG (a++b)=gG a+gG b:=by
 induction a with
 |nil=>simp [gG] |cons x r ih=>rw [ad4,gG,gG,ih];omega
theorem zW(a b:List GD):uV (a++b)=max (uV a) (uV b):=by
 induction a with
 |nil=>simp [uV] |cons x r ih=>rw [ad4,uV,uV,ih];omega
section
variable{l:List KV}{n:Nat}{high:Bool}
theorem C7{first:Bool}{a b:List PR}:HT l n high first (a++b)=(HT l n high first a&&HT l n high (first&&a.isEmpty) b):=by
 induction a generalizing first with
 |nil=>simp [HT] |cons x r ih=>rw [ad4,HT,HT,ih];simp [al1]
theorem AD{a b:List GD}:sL l n high (a++b)=(sL l n high a&&sL l n high b):=by
 induction a with
 |nil=>simp [sL] |cons x r ih=>rw [ad4,sL,sL,ih,al1]
def dU(l:List KV)(n:Nat)(high:Bool)(p:PR)(room deep:Int):Prop:=okR l n high p=true/\(oD p:Int)<=room/\(htR p:Int)<=deep
instance (l:List KV) (n:Nat) (high:Bool) (p:PR) (room deep:Int):Decidable (dU l n high p room deep):=by unfold dU;infer_instance
def pH(l:List KV)(n:Nat)(high first:Bool)(ps:List PR)(room deep:Int):Prop:=HT l n high first ps=true/\(kR ps:Int)<=room/\(JV ps:Int)<=deep
def pG(l:List KV)(n:Nat)(high:Bool)(gs:List GD)(room deep:Int):Prop:=sL l n high gs=true/\(gG gs:Int)<=room/\(uV gs:Int)<=deep
theorem OZ{p:PR}{room deep:Int}(hr:1<=room)(hd:1<=deep)(hk:bE l n p=true)(hh:(high&&p.kind==11)=false):
 dU l n high p room deep↔pH l n high (p.kind==11) p.l (room-1) (deep-1)/\pG l n high p.gs (room-1-kR p.l) (deep-1):=by
 unfold dU pH pG;rw [NC,hk,hh,y8,V3,aq9,ac2,ac2,aa3];constructor
 ·rintro ⟨⟨h1,h2⟩,h3,h4⟩;exact ⟨⟨h1,by omega,by omega⟩,h2,by omega,by omega⟩
 ·rintro ⟨⟨h1,h3,h4⟩,h2,h5,h6⟩;exact ⟨⟨h1,h2⟩,by omega,by omega⟩
theorem mD{p:PR}{r d:Int}(h:r<1\/d<1\/bE l n p=false\/(high&&p.kind==11)=true): ¬dU l n high p r d:=by
 rintro ⟨h1,h2,h3⟩;have:=xH p;have:=a0l p;rw [NC] at h1;simp only [aa3,aj7] at h1;rcases h with h|h|h|h
 ·omega
 ·omega
 ·rw [h1.1.1.1] at h;cases h
 ·rw [h1.1.1.2] at h;cases h
theorem zQ{first:Bool}{a:List PR}{x:PR}{room deep:Int}(ha:pH l n high first a room deep):pH l n high first (a++[x]) room deep↔dU l n (high||(first&&a.isEmpty)) x (room-kR a) deep:=by
 obtain ⟨h1,h2,h3⟩:=ha;unfold pH dU;rw [C7,q8,CL,h1,ac2];simp only [HT,kR,JV,am1];constructor
 ·rintro ⟨g1,g2,g3⟩;exact ⟨g1,by omega,by omega⟩
 ·rintro ⟨g1,g2,g3⟩;exact ⟨g1,by omega,by omega⟩
theorem zR{first:Bool}{ps:List PR}{room deep:Int}(h:pH l n high first ps room deep)(i:Nat):pH l n high first (ps.take i) room deep:=by obtain ⟨h1,h2,h3⟩:=h;rw [<-ae3 i ps] at h1 h2 h3;rw [C7,aa3] at h1;rw [q8] at h2;rw [CL] at h3;exact ⟨h1.1,by omega,by omega⟩
theorem zO{a:List GD}{x:GD}{y:PR}(hx:x.body=[y]){room deep:Int}(ha:pG l n high a room deep):pG l n high (a++[x]) room deep↔dU l n high y (room-gG a) deep:=by
 obtain ⟨h1,h2,h3⟩:=ha;have e1:sL l n high [x]=okR l n high y:=by rw [sL,sL,am1,XB,hx,HT,HT,am1,an9]
 have e2:gG [x]=oD y:=by rw [gG,gG,q7,hx,kR,kR];omega
 have e3:uV [x]=htR y:=by rw [uV,uV,htG_eq,hx,JV,JV];omega
 unfold pG dU;rw [AD,oZ,zW,h1,ac2,e1,e2,e3];constructor
 ·rintro ⟨g1,g2,g3⟩;exact ⟨g1,by omega,by omega⟩
 ·rintro ⟨g1,g2,g3⟩;exact ⟨g1,by omega,by omega⟩
theorem zP{gs:List GD}{room deep:Int}(h:pG l n high gs room deep)(i:Nat):pG l n high (gs.take i) room deep:=by obtain ⟨h1,h2,h3⟩:=h;rw [<-ae3 i gs] at h1 h2 h3;rw [AD,aa3] at h1;rw [oZ] at h2;rw [zW] at h3;exact ⟨h1.1,by omega,by omega⟩
theorem D9: ∀{ps:List PR} {x:PR},x∈ps->oD x<=kR ps
 | [],_,h=>by cases h |y::r,x,h=>by
  rw [kR];rcases ab6.1 h with rfl|h
  ·omega
  ·have:=D9 h;omega
theorem xG: ∀{gs:List GD} {x:GD},x∈gs->szG x<=gG gs
 | [],_,h=>by cases h |y::r,x,h=>by
  rw [gG];rcases ab6.1 h with rfl|h
  ·omega
  ·have:=xG h;omega
theorem FP{m:Nat}(h:wL m 0 0=true):m=0:=by simp only [wL,aa3,dT] at h;omega
theorem iZ{p:PR}(h:bE l n p=true):1<=p.kind/\p.kind<=15/\ ∀g,g∈p.gs-> ∃y,g.body=[y]:=by
 have h0: ∀{ch v:Bool} {t1 t2 e1 e2 l1 l2:Int},aY p ch v t1 t2 e1 e2 0 0 l1 l2=true-> ∀g,g∈p.gs-> ∃y,g.body=[y]:=fun hs g hg=>by simp only [aY,aa3] at hs;have:=FP hs.1.2;rw [ad2] at this;rw [this] at hg;cases hg
 unfold bE at h
 by_cases k0:p.kind=1\/p.kind=2
 ·rw [iT k0] at h;exact ⟨by omega,by omega,h0 h⟩
 rw [iF k0] at h
 by_cases k1:p.kind=3
 ·rw [iT k1,aa3,aa3] at h;exact ⟨by omega,by omega,h0 h.1.1⟩
 rw [iF k1] at h
 by_cases k2:p.kind=4
 ·rw [iT k2,aa3,aa3] at h;exact ⟨by omega,by omega,h0 h.1.1⟩
 rw [iF k2] at h
 by_cases k3:p.kind=5
 ·rw [iT k3,aa3] at h;exact ⟨by omega,by omega,h0 h.1⟩
 rw [iF k3] at h
 by_cases k4:p.kind=6
 ·rw [iT k4,aa3,aa3] at h;exact ⟨by omega,by omega,h0 h.1.1⟩
 rw [iF k4] at h
 by_cases k5:p.kind=7
 ·rw [iT k5,aa3] at h;exact ⟨by omega,by omega,h0 h.1⟩
 rw [iF k5] at h
 by_cases k6:p.kind=8
 ·rw [iT k6,aa3] at h;exact ⟨by omega,by omega,h0 h.1⟩
 rw [iF k6] at h
 by_cases k7:p.kind=9
 ·rw [iT k7] at h;exact ⟨by omega,by omega,h0 h⟩
 rw [iF k7] at h
 by_cases k8:p.kind=10
 ·rw [iT k8] at h;exact ⟨by omega,by omega,h0 h⟩
 rw [iF k8] at h
 by_cases k9:p.kind=11
 ·rw [iT k9] at h;exact ⟨by omega,by omega,h0 h⟩
 rw [iF k9] at h
 by_cases k10:p.kind=12\/p.kind=14\/p.kind=15
 ·rw [iT k10,aa3,ae5] at h;refine ⟨by omega,by omega,fun g hg=>?_⟩;have:=h.2 g hg;simp only [fH,aa3,beq_iff_eq] at this;have h1:=this.1.1.1
  match hb:g.body,h1 with
  | [y],_=>exact ⟨y,rfl⟩
 rw [iF k10] at h
 by_cases k11:p.kind=13
 ·rw [iT k11,aa3] at h;exact ⟨by omega,by omega,h0 h.1⟩
 rw [iF k11] at h;cases h
end
section
variable(l:List KV)(ch:List Int)(hl:l.length<=281474976710656)(hv:mJ l)
def TZ(f:FuncId)(p:PR):Prop:= ∀(b:Nat) (x:Nat->AV) (lf:Int),jB prog aU f [aT b,aE p] [.box b (U3 l ch x lf)] fun z Λ'=>z=AB (bE l ch.length p)/\Λ'=[.box b (U3 l ch x lf)]
include hl hv
theorem SA(p:PR)(hw:T6 p)(hk:1<=p.kind/\p.kind<=15):TZ l ch (G7 p.kind) p:=fun b x lf=>by
 by_cases h1:p.kind=1\/p.kind=2
 ·have h:=SH l ch p h1;rw [G7,iT h1];exact Pure.dg func114 T T (h x lf) T (o6.cons (Lt.box (ab0.2 T) T) (o6.cons (Lt.sub .refl) o6.nil))
 rw [G7,iF h1]
 by_cases h3:p.kind=3
 ·have h:=Z0 l ch p h3;rw [iT h3];exact Pure.dg func115 T T (h x lf) T (o6.cons (Lt.box (ab0.2 T) T) (o6.cons (Lt.sub .refl) o6.nil))
 rw [iF h3]
 by_cases h4:p.kind=4
 ·have h:=L9 l ch hl hv p hw h4;rw [iT h4];exact Pure.dg func116 T T (h x lf) T (o6.cons (Lt.box (ab0.2 T) T) (o6.cons (Lt.sub .refl) o6.nil))
 rw [iF h4]
 by_cases h5:p.kind=5
 ·have h:=in16_p l ch hl hv p hw h5;rw [iT h5];exact Pure.dg func117 T T (h x lf) T (o6.cons (Lt.box (ab0.2 T) T) (o6.cons (Lt.sub .refl) o6.nil))
 rw [iF h5]
 by_cases h6:p.kind=6
 ·have h:=a0D l ch hl hv p hw h6;rw [iT h6];exact Pure.dg func118 T T (h x lf) T (o6.cons (Lt.box (ab0.2 T) T) (o6.cons (Lt.sub .refl) o6.nil))
 rw [iF h6]
 by_cases h7:p.kind=7
 ·have h:=YT l ch hl hv p hw h7;rw [iT h7];exact Pure.dg func119 T T (h x lf) T (o6.cons (Lt.box (ab0.2 T) T) (o6.cons (Lt.sub .refl) o6.nil))
 rw [iF h7]
 by_cases h8:p.kind=8
 ·have h:=RA l ch hl hv p hw h8;rw [iT h8];exact Pure.dg func120 T T (h x lf) T (o6.cons (Lt.box (ab0.2 T) T) (o6.cons (Lt.sub .refl) o6.nil))
 rw [iF h8]
 by_cases h9:p.kind=9
 ·have h:=seq_p l ch p h9;rw [iT h9];exact Pure.dg func121 T T (h x lf) T (o6.cons (Lt.box (ab0.2 T) T) (o6.cons (Lt.sub .refl) o6.nil))
 rw [iF h9]
 by_cases h10:p.kind=10
 ·have h:=par_p l ch p h10;rw [iT h10];exact Pure.dg func122 T T (h x lf) T (o6.cons (Lt.box (ab0.2 T) T) (o6.cons (Lt.sub .refl) o6.nil))
 rw [iF h10]
 by_cases h11:p.kind=11
 ·have h:=pri_p l ch p h11;rw [iT h11];exact Pure.dg func123 T T (h x lf) T (o6.cons (Lt.box (ab0.2 T) T) (o6.cons (Lt.sub .refl) o6.nil))
 rw [iF h11]
 by_cases h13:p.kind=13
 ·have h:=WV l ch hl hv p hw h13;rw [iT h13];exact Pure.dg func125 T T (h x lf) T (o6.cons (Lt.box (ab0.2 T) T) (o6.cons (Lt.sub .refl) o6.nil))
 rw [iF h13];have h:=MM l ch hl hv p hw (by omega);exact Pure.dg func124 T T (h x lf) T (o6.cons (Lt.box (ab0.2 T) T) (o6.cons (Lt.sub .refl) o6.nil))
end
abbrev n9(l:List KV)(ch:List Int)(x:Nat->AV)(b:Nat)(p:PR)(deep:Int)(high:Bool)(left:Int):Prop:=
 fB prog aU 38 [aT b,aE p,AI deep,AB high] [.box b (U3 l ch x left)] (fun _:Int=>AB (decide (dU l ch.length high p left (33-deep)))) (fun i=>[.box b (U3 l ch x i)]) (fun i=>dU l ch.length high p left (33-deep)->i=left-oD p)
theorem XR(l:List KV)(ch:List Int)(x:Nat->AV)(b:Nat)(p:PR)(deep:Int)(high:Bool)(left:Int)(h:left=0\/deep=33)(r0:0<=left)(r1:left<=2048)(f:AV)(hck:Pure prog aU 80 [aT b,cC p.kind] f):n9 l ch x b p deep high left:=by
 have hw1:IntKind.i64.wrap (left-1)=left-1:=fR _ (by omega);have hnf: ¬dU l ch.length high p left (33-deep):=mD (by omega);unfold n9 fB;refine jB.of (S:=tt) (fn:=f38) (n:=95) dE func38 T T T T fun w0 h0 F hgs=>?_
 (refine b_ fun bx=>?_;refine y_ ?_)
 refine c_ hck ?_;refine A.aa 30 T (x':=AB (decide (left=0))) (aA (by rw [hw1,ac8];simp;omega)) ?_
 by_cases hz:left=0
 ·refine e_ 30 T (x':=AB true) (aA (by simpa using hz)) ?_
  (refine A.au (Λ':=[.box b _]) T T T rF ⟨_,Sb.eq (aA ?_),rfl,?_⟩;exact (decide_eq_false hnf).symm;exact fun h=>absurd h hnf)
 ·refine e_ 30 T (x':=AB false) (aA (by simpa using hz)) ?_;refine e_ 34 T (x':=AB true) (aA (by simp;omega)) ?_
  (refine A.au (Λ':=[.box b _]) T T T rF ⟨_,Sb.eq (aA ?_),rfl,?_⟩;exact (decide_eq_false hnf).symm;exact fun h=>absurd h hnf)
theorem proc_b(l:List KV)(ch:List Int)(x:Nat->AV)(b:Nat)(p:PR)(deep:Int)(high:Bool)(left:Int)(r0:1<=left)(r1:left<=2048)(d0:1<=deep)(d1:deep<=32)(hck:Pure prog aU 80 [aT b,cC p.kind] (.v .nilFunc))(hno:bE l ch.length p=false):n9 l ch x b p deep high left:=by
 have hw1:IntKind.i64.wrap (left-1)=left-1:=fR _ (by omega);have hnf: ¬dU l ch.length high p left (33-deep):=mD (.inr (.inr (.inl hno)));unfold n9 fB;refine jB.of (S:=tt) (fn:=f38) (n:=95) dE func38 T T T T fun w0 h0 F hgs=>?_
 (refine b_ fun bx=>?_;refine y_ ?_)
 refine c_ hck ?_;refine e_ 30 T (x':=AB false) (aA (by rw [hw1];simp;omega)) ?_;refine e_ 34 T (x':=AB false) (aA (by simp;omega)) ?_
 (refine A.au (Λ':=[.box b _]) T T T rF ⟨_,Sb.eq (aA ?_),rfl,?_⟩;exact (decide_eq_false hnf).symm;exact fun h=>absurd h hnf)
theorem proc_c(l:List KV)(ch:List Int)(x:Nat->AV)(b:Nat)(p:PR)(deep:Int)(high:Bool)(left:Int)(r0:1<=left)(r1:left<=2048)(d0:1<=deep)(d1:deep<=32)(f:FuncId)(hck:Pure prog aU 80 [aT b,cC p.kind] (.fn f [aT b] []))(hle:TZ l ch f p)(hno:bE l ch.length p=false):n9 l ch x b p deep high left:=by
 have hw1:IntKind.i64.wrap (left-1)=left-1:=fR _ (by omega);have hnf: ¬dU l ch.length high p left (33-deep):=mD (.inr (.inr (.inl hno)));have hl1:=hle b x (IntKind.i64.wrap (left-1));rw [hno] at hl1;unfold n9 fB;refine jB.of (S:=tt) (fn:=f38) (n:=95) dE func38 T T T T fun w0 h0 F hgs=>?_
 (refine b_ fun bx=>?_;refine y_ ?_)
 refine c_ hck ?_;refine e_ 30 T (x':=AB false) (aA (by rw [hw1];simp;omega)) ?_;refine e_ 34 T (x':=AB false) (aA (by simp;omega)) ?_;refine A.d T hl1 .refl (List.Perm.swap _ _ _) ?_;refine y_ ?_
 (refine A.au (Λ':=[.box b _]) T T T rF ⟨_,Sb.eq (aA ?_),rfl,?_⟩;exact (decide_eq_false hnf).symm;exact fun h=>absurd h hnf)
theorem proc_d(l:List KV)(ch:List Int)(x:Nat->AV)(b:Nat)(p:PR)(deep:Int)(left:Int)(r0:1<=left)(r1:left<=2048)(d0:1<=deep)(d1:deep<=32)(f:FuncId)(hck:Pure prog aU 80 [aT b,cC p.kind] (.fn f [aT b] []))(hle:TZ l ch f p)(hyes:bE l ch.length p=true)(hk:p.kind=11):n9 l ch x b p deep true left:=by
 have hw1:IntKind.i64.wrap (left-1)=left-1:=fR _ (by omega);have hnf: ¬dU l ch.length true p left (33-deep):=mD (.inr (.inr (.inr (by simpa using hk))));have hl1:=hle b x (IntKind.i64.wrap (left-1));rw [hyes] at hl1;unfold n9 fB;refine jB.of (S:=tt) (fn:=f38) (n:=95) dE func38 T T T T fun w0 h0 F hgs=>?_
 (refine b_ fun bx=>?_;refine y_ ?_)
 refine c_ hck ?_;refine e_ 30 T (x':=AB false) (aA (by rw [hw1];simp;omega)) ?_;refine e_ 34 T (x':=AB false) (aA (by simp;omega)) ?_;refine A.d T hl1 .refl (List.Perm.swap _ _ _) ?_;refine y_ ?_;refine e_ 51 T (x':=AB true) (aA (by simpa using hk)) ?_
 (refine A.au (Λ':=[.box b _]) T T T rF ⟨_,Sb.eq (aA ?_),rfl,?_⟩;exact (decide_eq_false hnf).symm;exact fun h=>absurd h hnf)
theorem EA{α:Type}{a:List α}{i:Nat}(h:i<a.length):(a.take i).isEmpty=decide (i=0):=by rw [ac8,List.isEmpty_iff,List.take_eq_nil_iff];simp;rintro rfl;simp at h
theorem proc_e(l:List KV)(ch:List Int)(x:Nat->AV)(b:Nat)(p:PR)(hwf:xQ p)(deep:Int)(high:Bool)(left:Int)(r0:1<=left)(r1:left<=2048)(d0:1<=deep)(d1:deep<=32)(f:FuncId)(hck:Pure prog aU 80 [aT b,cC p.kind] (.fn f [aT b] []))(hle:TZ l ch f p)(hyes:bE l ch.length p=true)(hh:(high&&p.kind==11)=false)
 (ih0: ∀(y:PR) (hi:Bool) (lf:Int),xQ y->oD y<oD p->0<=lf->lf<=2048->n9 l ch x b y (deep+1) hi lf):n9 l ch x b p deep high left:=by
 have hw1:IntKind.i64.wrap (left-1)=left-1:=fR _ (by omega);have hw2:IntKind.i64.wrap (deep+1)=deep+1:=fR _ (by omega);have hwa:=q9 hwf;have hl1:=hle b x (left-1);rw [hyes] at hl1;have hbod:=(iZ hyes).2.2;have hfl:=OZ (high:=high) (p:=p) (room:=left) (deep:=33-deep) r0 (by omega) hyes hh;rw [show 33-deep-1=33-(deep+1) by omega] at hfl;have hse:=y8 p;have n1:((aS p.l).length:Int)=p.l.length:=by rw [bP]
 have n2:((cA p.gs).length:Int)=p.gs.length:=by rw [cL]
 unfold n9 fB;refine jB.of (S:=tt) (fn:=f38) (n:=95) dE func38 T T T T fun w0 h0 F hgs=>?_
 (refine b_ fun bx=>?_;refine y_ ?_)
 refine c_ hck ?_;refine e_ 30 T (x':=AB false) (aA (by rw [hw1];simp;omega)) ?_;refine e_ 34 T (x':=AB false) (aA (by simp;omega)) ?_;refine A.ab (Λ':=[.box _ (aE p), .box b (U3 l ch x (left-1))]) (by rw [hw1]) ?_;refine A.d T hl1 .refl (List.Perm.swap _ _ _) ?_;refine g_ ?_;refine e_ 51 T (x':=AB false) (aA (by revert hh;cases high<;>simp)) ?_;refine A.aa 54 T (x':=AI (p.l.length:Nat)) (aL n1) ?_;refine A.af [0,2,3,5,53,54,55] T ?_
 refine A.ae (ι:=Nat×Int) (fun q=>(⟨[(0,aT b),(2,AI deep),(3,AB high),(5,aT _),(53,pN p.l),(54,AI (p.l.length:Nat)),(55,AI (q.1:Nat))],[]⟩,[.box b (U3 l ch x q.2), .box _ (aE p)]))
  (fun q=>q.1<=p.l.length/\pH l ch.length high (p.kind==11) (p.l.take q.1) (left-1) (33-(deep+1))/\q.2=left-1-(kR (p.l.take q.1):Nat)) (fun q=>p.l.length-q.1) (0,left-1) ⟨aa4 _,⟨by simp [HT],by simp [kR];omega,by simp [JV];omega⟩,by simp [kR]⟩ T fun q hi ih=>?_
 obtain ⟨i,lf⟩:=q;obtain ⟨hi1,hi2,hi3⟩:=hi;simp only at hi1 hi2 hi3;have hsz2:=hi2.2.1;refine y_ ?_;refine k_ (fun hc=>?_) fun hc=>?_
 ·simp at hc;refine ab4 (bT (l:=p.l) (i:=i) (by omega)) fun y hy=>?_;have hym:=aa2 hy;have htk:p.l.take (i+1)=p.l.take i++[y]:=by rw [ac9,hy];rfl
  have hsn:=zQ (x:=y) hi2;rw [<-htk,<-hi3,EA (by omega)] at hsn;have ihy:=ih0 y (high||((p.kind==11)&&decide (i=0))) lf ((q9 (by exact hwf)).l y hym) (by have:=D9 hym;omega) (by omega) (by omega);unfold n9 at ihy;have e0:(((i:Nat):Int)==0)=decide (i=0):=by rw [ac8];simp
  refine y_ ?_;refine j_ T (aV hy) (bC y) ?_
  (refine lS fun bx=>?_;refine g_ ?_)
  refine A.aa 63 T (x':=AI (deep+1)) (aL hw2) ?_;refine A.aa 73 T (x':=AB (high||((p.kind==11)&&decide (i=0)))) (aA (by rw [e0];clear ih ihy hsn;generalize (p.kind==11)=b11;cases high<;>cases b11<;>simp)) ?_;refine A.e T ihy .refl (List.Perm.swap _ _ _) fun lf2 hlf2=>?_
  by_cases hfx:dU l ch.length (high||((p.kind==11)&&decide (i=0))) y lf (33-(deep+1))
  ·refine e_ 74 T (x':=AB true) (aA (decide_eq_true hfx)) ?_;refine l_ (Λ':=[.box b (U3 l ch x lf2), .box _ (aE p)]) ?_;refine A.aa 55 T (x':=AI ((i+1:Nat):Int)) (qR i (by have:=hwa.ll;omega)) ?_;refine u_ (ih (i+1,lf2) ⟨by show i+1<=_;omega,hsn.2 hfx,?_⟩ (by show _-(i+1)<_-i;omega));show lf2=left-1-(kR (p.l.take (i+1)):Nat);rw [hlf2 hfx,htk,q8,hi3];simp [kR];omega
  ·have hnf: ¬dU l ch.length high p left (33-deep):=fun hf=>hfx (hsn.1 (zR (hfl.1 hf).1 (i+1)));refine e_ 74 T (x':=AB false) (aA (decide_eq_false hfx)) ?_
   (refine A.au (Λ':=[.box b _]) T T T rF ⟨_,Sb.eq (aA ?_),rfl,?_⟩;exact (decide_eq_false hnf).symm;exact fun h=>absurd h hnf)
 simp at hc;have hil:i=p.l.length:=by omega
 rw [hil,ac4] at hi2 hi3;have hszl:=hi2.2.1;refine y_ ?_;refine A.aa 79 T (x':=AI (p.gs.length:Nat)) (aL n2) ?_;refine A.af [0,2,3,5,78,79,80] T ?_
 refine A.ae (ι:=Nat×Int) (fun q=>(⟨[(0,aT b),(2,AI deep),(3,AB high),(5,aT _),(78,zS p.gs),(79,AI (p.gs.length:Nat)),(80,AI (q.1:Nat))],[]⟩,[.box b (U3 l ch x q.2), .box _ (aE p)]))
  (fun q=>q.1<=p.gs.length/\pG l ch.length high (p.gs.take q.1) (left-1-(kR p.l:Nat)) (33-(deep+1))/\q.2=left-1-(kR p.l:Nat)-(gG (p.gs.take q.1):Nat)) (fun q=>p.gs.length-q.1) (0,lf) ⟨aa4 _,⟨by simp [sL],by simp [gG];omega,by simp [uV];omega⟩,by simp [gG];omega⟩ T fun q hj jh=>?_
 obtain ⟨j,lg⟩:=q;obtain ⟨hj1,hj2,hj3⟩:=hj;simp only at hj1 hj2 hj3;have hsz3:=hj2.2.1;refine y_ ?_;refine k_ (fun hc=>?_) fun hc=>?_
 ·simp at hc;refine ab4 (bT (l:=p.gs) (i:=j) (by omega)) fun g hg=>?_;have hgm:=aa2 hg;refine ab4 (hbod g hgm) fun y hy=>?_;have htk:p.gs.take (j+1)=p.gs.take j++[g]:=by rw [ac9,hg];rfl
  have hsn:=zO hy hj2;rw [<-htk,<-hj3] at hsn;have hszy:oD y<=gG p.gs:=by have:=xG hgm;rw [q7,hy,kR,kR] at this;omega
  have ihy:=ih0 y high lg ((tP (hwa.g g hgm)).body y (by rw [hy];exact aa5 ..)) (by omega) (by omega) (by omega);unfold n9 at ihy;refine y_ ?_;refine j_ T (bZ hg) (cK g) ?_
  (refine b_ fun bx=>?_;refine y_ ?_)
  refine i_ T (show (aS g.body)[(0:Int).toNat]? =some (pC y) from aV (by rw [hy];rfl)) (bC y) ?_;refine A.aa 90 T (x':=AI (deep+1)) (aL hw2) ?_;refine A.e T ihy .refl (List.Perm.swap _ _ _) fun lf2 hlf2=>?_
  by_cases hfx:dU l ch.length high y lg (33-(deep+1))
  ·refine e_ 92 T (x':=AB true) (aA (decide_eq_true hfx)) ?_;refine l_ (Λ':=[.box b (U3 l ch x lf2), .box _ (aE p)]) ?_;refine A.aa 80 T (x':=AI ((j+1:Nat):Int)) (qR j (by have:=hwa.gl;omega)) ?_;refine u_ (jh (j+1,lf2) ⟨by show j+1<=_;omega,hsn.2 hfx,?_⟩ (by show _-(j+1)<_-j;omega));show lf2=left-1-(kR p.l:Nat)-(gG (p.gs.take (j+1)):Nat);have e2:gG [g]=oD y:=by rw [gG,gG,q7,hy,kR,kR];omega
   rw [hlf2 hfx,htk,oZ,hj3,e2];omega
  ·have hnf: ¬dU l ch.length high p left (33-deep):=fun hf=>hfx (hsn.1 (zP (hfl.1 hf).2 (j+1)));refine e_ 92 T (x':=AB false) (aA (decide_eq_false hfx)) ?_
   (refine A.au (Λ':=[.box b _]) T T T rF ⟨_,Sb.eq (aA ?_),rfl,?_⟩;exact (decide_eq_false hnf).symm;exact fun h=>absurd h hnf)
 simp at hc;have hjl:j=p.gs.length:=by omega
 rw [hjl,ac4] at hj2 hj3;refine y_ ?_;refine A.au (Λ':=[.box b _]) T T T rF ⟨_,Sb.eq (aA ?_),rfl,?_⟩
 ·exact (decide_eq_true (hfl.2 ⟨hi2,hj2⟩)).symm
 ·intro _;show lg=left-oD p;omega
theorem GI(l:List KV)(ch:List Int)(hl:l.length<=281474976710656)(hv:mJ l)(x:Nat->AV)(b:Nat): ∀(N:Nat) (p:PR) (deep:Int) (high:Bool) (left:Int),oD p<=N->xQ p->0<=left->left<=2048->1<=deep->deep<=33->n9 l ch x b p deep high left
 |0,p,_,_,_,hn,_,_,_,_,_=>by have:=xH p;omega |N+1,p,deep,high,left,hn,hw,r0,r1,d0,d1=>by
  by_cases hk:1<=p.kind/\p.kind<=15
  ·have hck:=ML b p.kind hk
   by_cases hz:left=0\/deep=33
   ·exact XR l ch x b p deep high left hz r0 r1 _ hck
   have hle:=SA l ch hl hv p (q9 hw) hk;cases hkb:bE l ch.length p with
   |false=>exact proc_c l ch x b p deep high left (by omega) r1 d0 (by omega) _ hck hle hkb |true=>
    cases hh:(high&&p.kind==11) with
    |true=>
     simp only [aa3,beq_iff_eq] at hh;rw [hh.1];exact proc_d l ch x b p deep left (by omega) r1 d0 (by omega) _ hck hle hkb hh.2
    |false=>exact proc_e l ch x b p hw deep high left (by omega) r1 d0 (by omega) _ hck hle hkb hh fun y hi lf hwy hsz l0 l1=>GI l ch hl hv x b N y (deep+1) hi lf (by omega) hwy l0 l1 (by omega) (by omega)
  ·have hck:=MK b p.kind hk;have hno:bE l ch.length p=false:=by
    cases h:bE l ch.length p with
    |false=>rfl |true=>have:=iZ h;exact (hk ⟨this.1,this.2.1⟩).elim
   by_cases hz:left=0\/deep=33
   ·exact XR l ch x b p deep high left hz r0 r1 _ hck
   ·exact proc_b l ch x b p deep high left (by omega) r1 d0 (by omega) hck hno
abbrev aQ(l:List Int):AV:= .sl 1 (l.map AI) none
def R6(v:Int)(l:List Int)(i:Nat):Int:=AP (fun x=>v==x) l i
theorem a0m(l:List Int)(v:Int)(hb:l.length<=281474976710656):Pure prog aU 79 [aQ l,AI v] (AI (R6 v l 0)):=by
 refine P_ func79 19 fun _ _ _ _=>?_;refine y_ ?_;refine A.aa 7 T (x':=AI (l.length:Nat)) (aL (by rw [aa0])) ?_;refine A.af [0,1,7,8] T ?_;refine A.ae (ι:=Nat) (fun i=>(⟨[(0,aQ l),(1,AI v),(7,AI (l.length:Nat)),(8,AI (i:Int))],[]⟩,[])) (fun i=>i<=l.length/\R6 v l 0=R6 v (l.drop i) i) (fun i=>l.length-i) 0 ⟨by omega,rfl⟩ T fun i hi ih=>?_;refine y_ ?_;refine k_ (fun hc=>?_) fun hc=>?_
 ·simp at hc;refine aX hc fun x hx=>?_;have h1:R6 v l 0=if (v==x)=true then (i:Int) else R6 v (l.drop (i+1)) (i+1):=by rw [hi.2,cB hx];rfl
  refine y_ ?_;refine i_ T (aC hx) T ?_;refine k_ (fun hc=>?_) fun hc=>?_
  ·rw [hc,iT T] at h1;refine y_ ?_;refine R_ ?_;rw [h1];exact .refl
  ·rw [hc,iF (by simp)] at h1;refine y_ ?_;refine vI 8 i ?_;refine u_ (ih (i+1) ⟨by omega,h1⟩ (by omega))
 ·simp at hc;have:i=l.length:=by omega
  subst this;refine y_ ?_;refine R_ ?_;rw [hi.2,ai3];exact .refl
theorem B6(l:List Int)(v:Int)(hb:l.length<=281474976710656):Pure prog aU 36 [aQ l,AI v] (AB (l.contains v)):=by refine P_ func36 9 fun _ _ _ _=>?_;refine y_ ?_;refine c_ (a0m l v hb) ?_;refine R_ ?_;refine Sb.eq (aA ?_);rw [R6,wK,List.contains_eq_any_beq]
structure KN where
 vars:List KV
 chans:List Int
 root:PR
 procs:List Int
abbrev eU(k:KN):AV:= .ag [jA k.vars,RJ k.chans,cC k.root.kind,AI k.root.c,AI k.root.v,cC k.root.item,DF k.root.to,qS k.root.e,zS k.root.gs,pN k.root.l,aQ k.procs]
structure ZL(k:KN):Prop where
 vars:k.vars.length<=281474976710656
 chans:k.chans.length<=281474976710656
 procs:k.procs.length<=281474976710656
 root:xQ k.root
def yP:List Int->List Int->Bool
 |_,[]=>true |seen,n::r=>decide (0<=n)&&decide (n<8)&& !seen.contains n&&yP (seen++[n]) r
def mU(v:KV):Bool:=lD v.kind&&decide (0<=v.dim)&&decide (v.dim<=64)
def xL(i:Nat):Int:=if i=0 then 1 else if i=1 then 2 else 0
def vE:Nat->List Int->Bool
 |_,[]=>true |i,h::r=>h==xL i&&vE (i+1) r
def lA(k:KN):Bool:=decide (k.vars.length<=256)&&decide (2<=k.chans.length)&&decide (k.chans.length<=64)
def w7(k:KN):Bool:=k.procs.length==0||(k.root.kind==10&&k.root.l.length==k.procs.length)
def lU(k:KN):Bool:=lA k&&w7 k&&yP [] k.procs&&k.vars.all mU&&vE 0 k.chans&&decide (dU k.vars k.chans.length false k.root 2048 32)
theorem TS{l:List KV}(h:l.all mU=true):mJ l:=fun y hy=>by have:=ae5.1 h y hy;simp only [mU,lD,aa3,dT] at this;omega
def xN(k:KN):Nat->AV:=fun i=>([cC k.root.kind,AI k.root.c,AI k.root.v,cC k.root.item,DF k.root.to,qS k.root.e,zS k.root.gs,pN k.root.l,aQ k.procs]:List AV).getD i (AI 0)
theorem kmay_a(k:KN)(h:(lA k&&w7 k)=false):Pure prog aU 23 [eU k] (AB false):=by
 have n1:((k.vars.map mY).length:Int)=k.vars.length:=by rw [aa0]
 have n2:((k.chans.map cC).length:Int)=k.chans.length:=by rw [aa0]
 have n3:((k.procs.map AI).length:Int)=k.procs.length:=by rw [aa0]
 have n4:((aS k.root.l).length:Int)=k.root.l.length:=by rw [bP]
 refine P_ func23 116 fun _ _ _ _=>?_
 (refine lS fun bx=>?_;refine g_ ?_)
 refine A.aa 26 T (x':=AB (!lA k)) (aA ?_) ?_
 ·rw [n1,n2,lA,ac8];simp;omega
 cases hlk:lA k with
 |false=>exact tV |true=>
  rw [hlk,ac2] at h;refine g_ ?_;refine A.aa 46 T (x':=AB true) (aA ?_) ?_
  ·rw [n3,n4];have h': ¬k.procs.length=0/\ ¬(k.root.kind=10/\k.root.l.length=k.procs.length):=by simpa [w7] using h
   by_cases hk:k.root.kind=10
   ·rw [ac8];simp [hk];omega
   ·rw [ac8];simp [hk];omega
  exact tV
theorem kmay_b(k:KN)(hw:ZL k)(h:(lA k&&w7 k)=true)(R:Bool)(hR:(yP [] k.procs&&k.vars.all mU&&vE 0 k.chans&&decide (dU k.vars k.chans.length false k.root 2048 32))=R):Pure prog aU 23 [eU k] (AB R):=by
 have n1:((k.vars.map mY).length:Int)=k.vars.length:=by rw [aa0]
 have n2:((k.chans.map cC).length:Int)=k.chans.length:=by rw [aa0]
 have n3:((k.procs.map AI).length:Int)=k.procs.length:=by rw [aa0]
 have n4:((aS k.root.l).length:Int)=k.root.l.length:=by rw [bP]
 rw [aa3] at h;have hlk:k.vars.length<=256/\2<=k.chans.length/\k.chans.length<=64:=by have:=h.1;simp only [lA,aa3,dT] at this;omega
 have hrk:k.procs.length=0\/(k.root.kind=10/\k.root.l.length=k.procs.length):=by simpa [w7] using h.2
 have hpl:=hw.procs;generalize hR1:(k.vars.all mU&&vE 0 k.chans&&decide (dU k.vars k.chans.length false k.root 2048 32))=R1;rw [al1,al1,<-al1 (k.vars.all mU),hR1] at hR;refine P_ func23 116 fun _ _ _ _=>?_
 (refine lS fun bx=>?_;refine g_ ?_)
 refine A.aa 26 T (x':=AB false) (aA ?_) ?_
 ·rw [n1,n2,ac8];simp;omega
 refine g_ ?_;refine A.aa 46 T (x':=AB false) (aA ?_) ?_
 ·rw [n3,n4];rcases hrk with hp0|⟨hk,hl2⟩
  ·simp [hp0]
  ·simp [hk,hl2]
 refine y_ ?_;refine A.aa 49 T (x':=AI (k.procs.length:Nat)) (aL n3) ?_;refine A.af [1,48,49,50] T ?_;refine A.ae (ι:=Nat) (fun i=>(⟨[(1,aT _),(48,aQ k.procs),(49,AI (k.procs.length:Nat)),(50,AI (i:Nat))],[]⟩,[.box _ (eU k)])) (fun i=>i<=k.procs.length/\(yP (k.procs.take i) (k.procs.drop i)&&R1)=R) (fun i=>k.procs.length-i) 0 ⟨by omega,hR⟩ T fun i hi ih=>?_;refine y_ ?_;refine k_ (fun hc=>?_) fun hc=>?_
 ·simp at hc;refine ab4 (bT (l:=k.procs) (i:=i) (by omega)) fun v hv=>?_;have h1:=hi.2;rw [cB hv,yP] at h1;have htk:k.procs.take (i+1)=k.procs.take i++[v]:=by rw [ac9,hv];rfl
  have hcn:=B6 (k.procs.take i) v (by rw [ac1];omega);refine y_ ?_;refine i_ T (aC hv) T ?_
  ((fail_if_success (refine A.lit? T ?_));refine A.gS T (fun hc=>?_) (fun hc=>?_))
  ·have hc0:v<0:=by simpa using hc
   rw [decide_eq_false (by omega)] at h1;refine y_ ?_;refine R_ ?_;rw [<-h1];exact .refl
  have hc0:0<=v:=by simpa using hc
  refine y_ ?_
  ((fail_if_success (refine A.lit? T ?_));refine A.gS T (fun hc=>?_) (fun hc=>?_))
  ·have hc1:8<=v:=by simpa using hc
   rw [decide_eq_false (p:=v<8) (by omega),ak4] at h1;refine y_ ?_;refine R_ ?_;rw [<-h1];exact .refl
  have hc1:v<8:=by simpa using hc
  rw [decide_eq_true hc0,decide_eq_true hc1,ac2,ac2] at h1;refine y_ ?_;refine A.slice (ys:=(k.procs.take i).map AI) T T T T T T T T T (by decide) (by omega) (by rw [aa0];omega) (by simp [List.map_take]) T ?_;refine y_ ?_;refine c_ hcn ?_;refine k_ (fun hc=>?_) fun hc=>?_
  ·have hc:(k.procs.take i).contains v=true:=hc;rw [hc,Bool.not_true,af3,af3] at h1;refine y_ ?_;refine R_ ?_;rw [<-h1];exact .refl
  ·have hc:(k.procs.take i).contains v=false:=hc;rw [hc,aq9,ac2,<-htk] at h1;refine y_ ?_;refine vI 50 i ?_;refine u_ (ih (i+1) ⟨by omega,h1⟩ (by omega))
 simp at hc;have hil:i=k.procs.length:=by omega
 have h1:=hi.2;rw [hil,ai3,yP,ac2] at h1;rw [<-hR1,al1] at h1;generalize hR2:(vE 0 k.chans&&decide (dU k.vars k.chans.length false k.root 2048 32))=R2 at h1;clear ih hi hR hR1;refine y_ ?_;refine A.aa 72 T (x':=AI (k.vars.length:Nat)) (aL n1) ?_;refine A.af [1,71,72,73] T ?_;refine A.ae (ι:=Nat) (fun i=>(⟨[(1,aT _),(71,jA k.vars),(72,AI (k.vars.length:Nat)),(73,AI (i:Nat))],[]⟩,[.box _ (eU k)])) (fun i=>i<=k.vars.length/\((k.vars.drop i).all mU&&R2)=R/\(k.vars.take i).all mU=true) (fun i=>k.vars.length-i) 0 ⟨by omega,h1,rfl⟩ T fun j hi ih=>?_;refine y_ ?_;refine k_ (fun hc=>?_) fun hc=>?_
 ·simp at hc;refine ab4 (bT (l:=k.vars) (i:=j) (by omega)) fun v hv=>?_;have h2:=hi.2.1;have htv:k.vars.take (j+1)=k.vars.take j++[v]:=by rw [ac9,hv];rfl
  rw [cB hv,aj8,mU] at h2;refine y_ ?_;refine j_ T (aC hv) T ?_
  (refine b_ fun bx=>?_;refine y_ ?_)
  refine c_ (HM v.kind) ?_
  ((fail_if_success (refine A.lit? T ?_));refine A.gS T (fun hc=>?_) (fun hc=>?_))
  ·have hc0:lD v.kind=false:=by simpa using hc
   rw [hc0] at h2;refine y_ ?_;refine R_ ?_;rw [<-h2];exact .refl
  have hc0:lD v.kind=true:=by simpa using hc
  refine y_ ?_
  ((fail_if_success (refine A.lit? T ?_));refine A.gS T (fun hc=>?_) (fun hc=>?_))
  ·have hc1:v.dim<0:=by simpa using hc
   rw [decide_eq_false (p:=0<=v.dim) (by omega),ak4] at h2;refine y_ ?_;refine R_ ?_;rw [<-h2];exact .refl
  have hc1:0<=v.dim:=by simpa using hc
  refine y_ ?_;refine k_ (fun hc=>?_) fun hc=>?_
  ·have hc2:64<v.dim:=by simpa using hc
   rw [decide_eq_false (p:=v.dim<=64) (by omega),ak4] at h2;refine y_ ?_;refine R_ ?_;rw [<-h2];exact .refl
  ·have hc2:v.dim<=64:=by simpa using hc
   rw [hc0,decide_eq_true hc1,decide_eq_true hc2] at h2;simp only [ac2] at h2;refine y_ ?_;refine l_ (Λ':=[.box _ (eU k)]) ?_;refine vI 73 j ?_;refine u_ (ih (j+1) ⟨by omega,h2,by rw [htv,al9,hi.2.2];simp [mU,hc0,hc1,hc2]⟩ (by omega))
 simp at hc;have hjl:j=k.vars.length:=by omega
 have h2:=hi.2.1;have hvo:=hi.2.2;rw [hjl,ac4] at hvo;rw [hjl,ai3,ar8,ac2] at h2;clear ih hi;rw [<-hR2] at h2;generalize hR3:decide (dU k.vars k.chans.length false k.root 2048 32)=R3 at h2;have hpr:=fun b=>GI k.vars k.chans hw.vars (TS hvo) (xN k) b (oD k.root) k.root 1 false 2048 (ab3 _) hw.root (by decide) (by decide) (by decide) (by decide);simp only [n9,show (33:Int)-1=32 from rfl] at hpr;refine y_ ?_;refine A.aa 94 T (x':=AI (k.chans.length:Nat)) (aL n2) ?_;refine A.af [1,93,94,95] T ?_;refine A.ae (ι:=Nat) (fun i=>(⟨[(1,aT _),(93,RJ k.chans),(94,AI (k.chans.length:Nat)),(95,AI (i:Nat))],[]⟩,[.box _ (eU k)])) (fun i=>i<=k.chans.length/\(vE i (k.chans.drop i)&&R3)=R) (fun i=>k.chans.length-i) 0 ⟨by omega,h2⟩ T fun m hi ih=>?_;refine y_ ?_;refine k_ (fun hc=>?_) fun hc=>?_
 ·simp at hc;refine ab4 (bT (l:=k.chans) (i:=m) (by omega)) fun v hv=>?_;have h3:=hi.2;rw [cB hv,vE] at h3;refine y_ ?_;refine j_ T (aC hv) T ?_
  by_cases m0:m=0
  ·subst m0;rw [show xL 0=1 from rfl] at h3;refine y_ ?_;refine k_ (fun hc=>?_) fun hc=>?_
   ·have hc:(v !=1)=true:=hc;have hv1:(v==1)=false:=by simpa using hc
    rw [hv1] at h3;refine y_ ?_;refine R_ ?_;rw [<-h3];exact .refl
   ·have hc:(v !=1)=false:=hc;have hv1:(v==1)=true:=by simpa using hc
    rw [hv1,ac2] at h3;refine y_ ?_;refine u_ (ih 1 ⟨by omega,h3⟩ (by omega))
  by_cases m1:m=1
  ·subst m1;rw [show xL 1=2 from rfl] at h3;refine y_ ?_;refine k_ (fun hc=>?_) fun hc=>?_
   ·have hc:(v !=2)=true:=hc;have hv1:(v==2)=false:=by simpa using hc
    rw [hv1] at h3;refine y_ ?_;refine R_ ?_;rw [<-h3];exact .refl
   ·have hc:(v !=2)=false:=hc;have hv1:(v==2)=true:=by simpa using hc
    rw [hv1,ac2] at h3;refine y_ ?_;refine u_ (ih 2 ⟨by omega,h3⟩ (by omega))
  ·rw [show xL m=0 by simp [xL,m0,m1]] at h3;refine y_ ?_;refine e_ 101 T (x':=AB false) (aA (by simp;omega)) ?_;refine e_ 103 T (x':=AB false) (aA (by simp;omega)) ?_;refine k_ (fun hc=>?_) fun hc=>?_
   ·have hc:(v !=0)=true:=hc;have hv1:(v==0)=false:=by simpa using hc
    rw [hv1] at h3;refine y_ ?_;refine R_ ?_;rw [<-h3];exact .refl
   ·have hc:(v !=0)=false:=hc;have hv1:(v==0)=true:=by simpa using hc
    rw [hv1,ac2] at h3;refine y_ ?_;refine vI 95 m ?_;refine u_ (ih (m+1) ⟨by omega,h3⟩ (by omega))
 simp at hc;have hml:m=k.chans.length:=by omega
 have h3:=hi.2;rw [hml,ai3,vE,ac2] at h3;clear ih hi
 (refine b_ fun bx=>?_;refine y_ ?_)
 refine A.ab (Λ':=[.box _ (U3 k.vars k.chans (xN k) 2048), .box _ (eU k)]) T ?_;refine A.e T (hpr _) .refl (List.Perm.refl _) fun lf _=>?_;refine y_ ?_;refine R_ ?_;refine Sb.eq (aA ?_);rw [<-h3,<-hR3]
theorem kmay_p(k:KN)(hw:ZL k):Pure prog aU 23 [eU k] (AB (lU k)):=by
 by_cases h:(lA k&&w7 k)=true
 ·have:=kmay_b k hw h _ T;unfold lU;rw [h,ac2];exact this
 ·have h:(lA k&&w7 k)=false:=by simpa using h
  have:=kmay_a k h;unfold lU;rw [h,af3,af3,af3,af3];exact this
theorem rB(n:Nat)(a b:Int):Pure prog aU 146 [AI (n:Int),kQ a b] (AB (wL n a b)):=by
 refine P_ func146 15 fun _ _ _ _=>?_
 (refine b_ fun bx=>?_;refine y_ ?_)
 refine A.df T T T T T T T T (by decide) (by decide) ?_;refine y_ ?_
 ((fail_if_success (refine A.lit? T ?_));refine A.gS T (fun hc=>?_) (fun hc=>?_))
 ·refine y_ ?_;refine A.df T T T T T T T T (by decide) (by decide) ?_;refine y_ ?_;refine R_ ?_;refine Sb.eq (aA ?_);rw [wL,hc];rfl
 ·refine y_ ?_;refine R_ ?_;refine Sb.eq (aA ?_);rw [wL,hc];rfl
structure FM where
 c:Bool
 v:Bool
 t1:Int
 t2:Int
 e1:Int
 e2:Int
 g1:Int
 g2:Int
 l1:Int
 l2:Int
abbrev fmA(f:FM):AV:= .ag [AB f.c,AB f.v,AB f.c,AI f.t1,AI f.t2,AI f.e1,AI f.e2,AI f.g1,AI f.g2,AI f.l1,AI f.l2]
def fm0:FM:=⟨false,false,0,0,0,0,0,0,0,0⟩
def wG(k:Int):Option FM:=
 if k=1\/k=2 then some fm0 else if k=3 then some ⟨false,true,0,0,0,0,0,0,0,0⟩ else if k=4 then some ⟨false,false,1,8,1,8,0,0,0,0⟩
 else if k=5 then some ⟨true,false,1,1,0,0,0,0,0,0⟩ else if k=6 then some ⟨true,false,0,0,1,1,0,0,0,0⟩ else if k=7 then some ⟨false,false,1,1,0,0,0,0,0,0⟩
 else if k=8 then some ⟨false,false,0,0,1,1,0,0,0,0⟩ else if k=9 then some ⟨false,false,0,0,0,0,0,0,0,2048⟩ else if k=10 then some ⟨false,false,0,0,0,0,0,0,0,16⟩
 else if k=11 then some ⟨false,false,0,0,0,0,0,0,2,2⟩ else if k=12\/k=14\/k=15 then some ⟨false,false,0,0,0,0,0,16,0,0⟩ else if k=13 then some ⟨false,false,0,0,1,1,0,0,1,1⟩ else none
theorem J4{k:Int}(h:1<=k/\k<=15):k=1\/k=2\/k=3\/k=4\/k=5\/k=6\/k=7\/k=8\/k=9\/k=10\/k=11\/k=12\/k=13\/k=14\/k=15:=by omega
theorem a0h(k:Int):Pure prog aU 145 [cC k] (.tp [fmA ((wG k).getD fm0),AB (wG k).isSome]):=by
 by_cases h:1<=k/\k<=15
 ·rcases J4 h with rfl|rfl|rfl|rfl|rfl|rfl|rfl|rfl|rfl|rfl|rfl|rfl|rfl|rfl|rfl
  all_goals refine P_ func145 61 fun _ _ _ _=>?_
  all_goals ((refine b_ fun bx=>?_;refine b_ fun bx=>?_;refine b_ fun bx=>?_;refine y_ ?_);refine m_ (jM.cell T T T (jM.tmp T jM.nil)) ?_;exact .refl)
 ·have hn:wG k=none:=by
   unfold wG;rw [iF (by omega),iF (by omega),iF (by omega),iF (by omega),iF (by omega),iF (by omega),iF (by omega),iF (by omega),iF (by omega),iF (by omega),iF (by omega),iF (by omega)]
  rw [hn];refine P_ func145 61 fun _ _ _ _=>?_;(repeat (first|first|refine A.s T ?_|refine A.r T T ?_|refine A.w T T ?_|refine A.p T ?_|refine A.b T fun bx=>?_|refine A.t T fun bl=>?_|refine A.cond T (fun h=>(by simp at h;omega)) (fun _=>?_)|first|refine A.step T ?_|refine A.v T T ?_));refine m_ (jM.cell T T T (jM.tmp T jM.nil)) ?_;exact .refl
def bY(p:PR):Bool:=match wG p.kind with
 |some f=>aY p f.c f.v f.t1 f.t2 f.e1 f.e2 f.g1 f.g2 f.l1 f.l2 |none=>false
theorem A9(p:PR):Pure prog aU 112 [aE p] (AB (bY p)):=by
 have hf:=a0h p.kind;unfold bY;generalize wG p.kind=fk at hf⊢;cases fk with
 |none=>
  refine P_ func112 73 fun _ _ _ _=>?_
  (refine b_ fun bx=>?_;refine y_ ?_);refine n_ hf ?_
  (refine b_ fun bx=>?_;refine y_ ?_);exact r_
 |some f=>
  simp only [Option.getD_some,Option.isSome_some] at hf⊢;have s1:=rB p.to.length f.t1 f.t2;have s2:=rB p.e.length f.e1 f.e2;have s3:=rB p.gs.length f.g1 f.g2;have s4:=rB p.l.length f.l1 f.l2;have n1:((p.to.map gZ).length:Int)=p.to.length:=by rw [aa0]
  have n2:((bK p.e).length:Int)=p.e.length:=by rw [bG]
  have n3:((cA p.gs).length:Int)=p.gs.length:=by rw [cL]
  have n4:((aS p.l).length:Int)=p.l.length:=by rw [bP]
  rw [<-n1] at s1;rw [<-n2] at s2;rw [<-n3] at s3;rw [<-n4] at s4;unfold aY;generalize wL p.to.length f.t1 f.t2=b1 at s1⊢;generalize wL p.e.length f.e1 f.e2=b2 at s2⊢;generalize wL p.gs.length f.g1 f.g2=b3 at s3⊢;generalize wL p.l.length f.l1 f.l2=b4 at s4⊢;clear n1 n2 n3 n4;obtain ⟨c,v,t1,t2,e1,e2,g1,g2,l1,l2⟩:=f;cases c<;>cases v
  all_goals refine P_ func112 73 fun _ _ _ _=>?_
  all_goals (repeat' first|first|refine A.s T ?_|refine A.r T T ?_|refine A.w T T ?_|refine A.p T ?_|refine A.b T fun bx=>?_|refine A.t T fun bl=>?_|refine A.c T hf .refl ?_|refine A.c T s1 .refl ?_|refine A.c T s2 .refl ?_|refine A.c T s3 .refl ?_|refine A.c T s4 .refl ?_|((fail_if_success (refine A.lit? T ?_));refine A.gS T (fun hc=>?_) (fun hc=>?_))|((fail_if_success (refine A.bu? T ?_));refine A.eo T (fun hc=>?_) (fun hc=>?_)))
  (all_goals (refine R_ ?_;refine Sb.eq (aA ?_)))
  all_goals simp_all
theorem qY(l:List KV)(e:KE)(hw:l5 e)(kind:Int):Pure prog aU 148 [jA l,nQ e,cC kind] (AB (kP l e kind)):=by
 have hva:=K8 e hw;rw [aK] at hva;unfold kP
 by_cases hve:valid e
 ·have hf:=kW l (ht e) e kind (ab3 _) hve.1;rw [aK] at hf;rw [decide_eq_true hve] at hva⊢;rw [ac2];generalize aD l e kind=bf at hf⊢;refine P_ func148 15 fun _ _ _ _=>?_
  (refine b_ fun bx=>?_;refine y_ ?_);refine c_ hva ?_;exact oR hf
 ·rw [decide_eq_false hve] at hva⊢;rw [af3];refine P_ func148 15 fun _ _ _ _=>?_
  (refine b_ fun bx=>?_;refine y_ ?_);exact oR hva
theorem DP(l:List KV)(p:PL)(hw:tU p)(k:Int):Pure prog aU 147 [jA l,gZ p,cC k] (AB (eD l p k)):=by
 have hlen:((l.map mY).length:Int)=l.length:=by rw [aa0]
 have hxl:((bK p.ix).length:Int)=p.ix.length:=by rw [bG]
 by_cases hneg:p.v<0
 ·refine P_ func147 50 fun _ _ _ _=>?_
  (refine b_ fun bx=>?_;refine y_ ?_)
  refine e_ 10 T (x':=AB true) (aA (by simpa using hneg)) ?_;refine R_ ?_;refine Sb.eq (aA ?_);rw [eD,iT (.inl hneg)]
 by_cases h1:(l.length:Int)<=p.v
 ·refine P_ func147 50 fun _ _ _ _=>?_
  (refine b_ fun bx=>?_;refine y_ ?_)
  refine e_ 10 T (x':=AB false) (aA (by simp;omega)) ?_;refine e_ 17 T (x':=AB true) (aA (by rw [hlen];simpa using h1)) ?_;refine R_ ?_;refine Sb.eq (aA ?_);rw [eD,iT (.inr h1)]
 refine ab4 (pU (l:=l) (i:=p.v) (by omega) (by omega)) fun y hy=>?_;have hpb:eD l p k=(y.kind==k&&(if y.dim=0 then p.ix.length==0 else p.ix.length==1&&pE l p.ix 1)):=by rw [eD,iF (by omega),hy]
 rw [hpb];clear hpb;have hv0:(0:Int)<=p.v:=by omega
 by_cases hk:y.kind=k
 case neg=>
  refine P_ func147 50 fun _ _ _ _=>?_
  (refine b_ fun bx=>?_;refine y_ ?_)
  refine e_ 10 T (x':=AB false) (aA (by simp;omega)) ?_;refine e_ 17 T (x':=AB false) (aA (by rw [hlen];simp;omega)) ?_;refine A.x T hv0 (aC hy) T T ?_;refine y_ ?_;refine e_ 26 T (x':=AB true) (aA (by simpa using hk)) ?_;refine R_ ?_;refine Sb.eq (aA ?_);simp [hk]
 subst hk
 by_cases hd:y.dim=0
 ·refine P_ func147 50 fun _ _ _ _=>?_
  (refine b_ fun bx=>?_;refine y_ ?_)
  refine e_ 10 T (x':=AB false) (aA (by simp;omega)) ?_;refine e_ 17 T (x':=AB false) (aA (by rw [hlen];simp;omega)) ?_;refine A.x T hv0 (aC hy) T T ?_;refine y_ ?_;refine e_ 26 T (x':=AB false) (aA (by simp)) ?_;refine A.x T hv0 (aC hy) T T ?_;refine y_ ?_;refine e_ 33 T (x':=AB true) (aA (by simpa using hd)) ?_;refine R_ ?_;refine Sb.eq (aA ?_);rw [hxl,iT hd,ac8];simp
 ·by_cases hx1:p.ix.length=1
  ·obtain ⟨e,he⟩: ∃e,p.ix=[e]:=by
    match h:p.ix,hx1 with
    | [e],_=>exact ⟨e,rfl⟩
   have hf:=qY l e (sV hw e (by rw [he];exact aa5 ..)) 1;have hfb:pE l p.ix 1=kP l e 1:=by rw [he];rfl
   rw [hfb];generalize kP l e 1=fb at hf⊢;refine P_ func147 50 fun _ _ _ _=>?_
   (refine b_ fun bx=>?_;refine y_ ?_)
   refine e_ 10 T (x':=AB false) (aA (by simp;omega)) ?_;refine e_ 17 T (x':=AB false) (aA (by rw [hlen];simp;omega)) ?_;refine A.x T hv0 (aC hy) T T ?_;refine y_ ?_;refine e_ 26 T (x':=AB false) (aA (by simp)) ?_;refine A.x T hv0 (aC hy) T T ?_;refine y_ ?_;refine e_ 33 T (x':=AB false) (aA (by simpa using hd)) ?_;refine e_ 42 T (x':=AB true) (aA (by rw [hxl];simp [hx1])) ?_;refine i_ T (show (bK p.ix)[(0:Int).toNat]? =some (dK e) from eW (by rw [he];rfl)) (aK e) ?_;refine c_ hf ?_;refine R_ ?_;refine Sb.eq (aA ?_);rw [iF hd,hx1];simp
  ·refine P_ func147 50 fun _ _ _ _=>?_
   (refine b_ fun bx=>?_;refine y_ ?_)
   refine e_ 10 T (x':=AB false) (aA (by simp;omega)) ?_;refine e_ 17 T (x':=AB false) (aA (by rw [hlen];simp;omega)) ?_;refine A.x T hv0 (aC hy) T T ?_;refine y_ ?_;refine e_ 26 T (x':=AB false) (aA (by simp)) ?_;refine A.x T hv0 (aC hy) T T ?_;refine y_ ?_;refine e_ 33 T (x':=AB false) (aA (by simpa using hd)) ?_;refine e_ 42 T (x':=AB false) (aA (by rw [hxl];simp;omega)) ?_;refine R_ ?_;refine Sb.eq (aA ?_);rw [iF hd];simp [hx1]
theorem H5(t:Int):Pure prog aU 77 [cC t] (AB (lD t)):=by
 have:=XQ t;have he:(t==1||t==2||t==3)=lD t:=by rw [ac8];simp [lD];omega
 rw [he] at this;exact this
theorem K3(k:KN)(c item:Int)(to:PL)(hw:tU to):Pure prog aU 149 [eU k,AI c,cC item,gZ to] (AB (fO k.vars k.chans.length c item to)):=by
 have hn:((k.chans.map cC).length:Int)=k.chans.length:=by rw [aa0]
 have hp:=H5 item;have hpl:=DP k.vars to hw item;unfold fO nR;generalize lD item=b1 at hp⊢;generalize eD k.vars to item=b2 at hpl⊢;refine P_ func149 41 fun _ _ _ _=>?_;(repeat' first|first|refine A.s T ?_|refine A.r T T ?_|refine A.w T T ?_|refine A.p T ?_|refine A.b T fun bx=>?_|refine A.t T fun bl=>?_|refine A.c T hp .refl ?_|refine A.c T hpl .refl ?_|((fail_if_success (refine A.lit? T ?_));refine A.gS T (fun hc=>?_) (fun hc=>?_))|((fail_if_success (refine A.bu? T ?_));refine A.eo T (fun hc=>?_) (fun hc=>?_)))
 (all_goals (refine R_ ?_;refine Sb.eq (aA ?_)))
 all_goals (rw [ac8];simp_all)
 all_goals (try intros)
 all_goals (first|omega|(cases b1<;>cases b2<;>simp_all<;>omega))
theorem S3(k:KN)(c item:Int)(e:KE)(hw:l5 e):Pure prog aU 150 [eU k,AI c,cC item,nQ e] (AB (nR k.chans.length c item 0&&kP k.vars e item)):=by
 have hn:((k.chans.map cC).length:Int)=k.chans.length:=by rw [aa0]
 have hp:=H5 item;have hpl:=qY k.vars e hw item;unfold nR;generalize lD item=b1 at hp⊢;generalize kP k.vars e item=b2 at hpl⊢;refine P_ func150 37 fun _ _ _ _=>?_;(repeat' first|first|refine A.s T ?_|refine A.r T T ?_|refine A.w T T ?_|refine A.p T ?_|refine A.b T fun bx=>?_|refine A.t T fun bl=>?_|refine A.c T hp .refl ?_|refine A.c T hpl .refl ?_|((fail_if_success (refine A.lit? T ?_));refine A.gS T (fun hc=>?_) (fun hc=>?_))|((fail_if_success (refine A.bu? T ?_));refine A.eo T (fun hc=>?_) (fun hc=>?_)))
 (all_goals (refine R_ ?_;refine Sb.eq (aA ?_)))
 all_goals (rw [ac8];simp_all)
 all_goals (try intros)
 all_goals (first|omega|(cases b1<;>cases b2<;>simp_all<;>omega))
def LN(g:GD):Bool:=g.c==0&&g.item==0&&g.to.v==0&&g.to.ix.length==0
theorem vG(g:GD)(i t:Bool):nE g i t=((i||LN g)&&(t||EJ g.time)):=rfl
theorem YU(e:KE):(bif bif bif bif bif e.kind !=0 then true else e.oper !=0 then true else e.to !=0 then true else e.n !=0 then true else e.v !=0 then true else decide (0<((bK e.l).length:Int)))= !EJ e:=by
 have n1:((bK e.l).length:Int)=e.l.length:=by rw [bG]
 have hn:decide (0<((bK e.l).length:Int))= !decide (e.l.length<=0):=by
  rw [n1];rcases ah3 e.l.length with h|h
  ·rw [h];rfl
  ·rw [decide_eq_true (by omega),decide_eq_false (by omega)];rfl
 rw [hn,EJ];simp only [bne];generalize (e.kind==0)=a1;generalize (e.oper==0)=a2;generalize (e.to==0)=a3;generalize (e.n==0)=a4;generalize (e.v==0)=a5;generalize decide (e.l.length<=0)=a6;cases a1<;>cases a2<;>cases a3<;>cases a4<;>cases a5<;>cases a6<;>rfl
theorem R7(g:GD):(bif bif bif g.c !=0 then true else g.item !=0 then true else g.to.v !=0 then true else decide (0<((bK g.to.ix).length:Int)))= !LN g:=by
 have n1:((bK g.to.ix).length:Int)=g.to.ix.length:=by rw [bG]
 have hn:decide (0<((bK g.to.ix).length:Int))= !(g.to.ix.length==0):=by
  rw [n1];rcases ah3 g.to.ix.length with h|h
  ·rw [h];rfl
  ·rw [decide_eq_true (by omega),beq_eq_false_iff_ne.2 (by omega)];rfl
 rw [hn,LN];simp only [bne];generalize (g.c==0)=a1;generalize (g.item==0)=a2;generalize (g.to.v==0)=a3;generalize (g.to.ix.length==0)=a4;cases a1<;>cases a2<;>cases a3<;>cases a4<;>rfl
theorem XY(k:KN)(kind:Int)(g:GD)(h:g.body.length≠1):Pure prog aU 151 [eU k,cC kind,fG g] (AB false):=by
 refine P_ func151 136 fun _ _ _ _=>?_
 (refine b_ fun bx=>?_;refine b_ fun bx=>?_;refine y_ ?_)
 refine e_ 13 T (x':=AB true) (aA (by rw [bP,ac8];simp;omega)) ?_;exact r_
theorem XZ(k:KN)(kind:Int)(g:GD)(h:g.body.length=1)(hfc:Pure prog aU 148 [jA k.vars,nQ g.cond,cC 3] (AB false)):Pure prog aU 151 [eU k,cC kind,fG g] (AB false):=by
 refine P_ func151 136 fun _ _ _ _=>?_
 (refine b_ fun bx=>?_;refine b_ fun bx=>?_;refine y_ ?_)
 refine e_ 13 T (x':=AB false) (aA (by rw [bP,h];rfl)) ?_;exact oR hfc
theorem X0(k:KN)(kind:Int)(g:GD)(h:g.body.length=1)(hfc:Pure prog aU 148 [jA k.vars,nQ g.cond,cC 3] (AB true))(b2 b3:Bool)(hft:Pure prog aU 148 [jA k.vars,nQ g.time,cC 1] (AB b2))
 (hin:Pure prog aU 149 [eU k,AI g.c,cC g.item,gZ g.to] (AB b3)) (R:Bool)
 (hR: ∀cb z w:Bool,cb=(kind==12)->z=EJ g.time->w=LN g->R=(((g.kind==1)==cb)&&(if g.kind=1\/g.kind=2 then w&&z else if g.kind=3 then z&&b3 else if g.kind=4 then w&&b2 else false))):
 Pure prog aU 151 [eU k,cC kind,fG g] (AB R):=by
 have e7:=YU g.time;have e8:=R7 g;have hR:=hR _ _ _ T T T;generalize EJ g.time=z at e7 hR;generalize LN g=w at e8 hR;refine P_ func151 136 fun _ _ _ _=>?_
 (refine b_ fun bx=>?_;refine b_ fun bx=>?_;refine y_ ?_)
 refine e_ 13 T (x':=AB false) (aA (by rw [bP,h];rfl)) ?_;refine n_ hfc ?_;refine g_ ?_;refine A.aa 7 T (x':=AB (!z)) (aA e7) ?_;refine A.aa 8 T (x':=AB (!w)) (aA e8) ?_;clear e7 e8;refine k_ (fun hc=>?_) fun hc=>?_
 ·have k1:g.kind=1:=by simpa using hc
  rw [k1] at hR;(repeat' first|first|refine A.s T ?_|refine A.r T T ?_|refine A.w T T ?_|refine A.p T ?_|refine A.b T fun bx=>?_|refine A.t T fun bl=>?_|((fail_if_success (refine A.lit? T ?_));refine A.gS T (fun hc=>?_) (fun hc=>?_))|((fail_if_success (refine A.bu? T ?_));refine A.eo T (fun hc=>?_) (fun hc=>?_)))
  (all_goals (refine R_ ?_;refine Sb.eq (aA ?_)))
  all_goals (clear hin hft hfc;simp_all)
 have k1:g.kind≠1:=by simpa using hc
 refine y_ ?_;refine k_ (fun hc=>?_) fun hc=>?_
 ·have k2:g.kind=2:=by simpa using hc
  rw [k2] at hR;(repeat' first|first|refine A.s T ?_|refine A.r T T ?_|refine A.w T T ?_|refine A.p T ?_|refine A.b T fun bx=>?_|refine A.t T fun bl=>?_|((fail_if_success (refine A.lit? T ?_));refine A.gS T (fun hc=>?_) (fun hc=>?_))|((fail_if_success (refine A.bu? T ?_));refine A.eo T (fun hc=>?_) (fun hc=>?_)))
  (all_goals (refine R_ ?_;refine Sb.eq (aA ?_)))
  all_goals (clear hin hft hfc;simp_all)
 have k2:g.kind≠2:=by simpa using hc
 refine y_ ?_;refine k_ (fun hc=>?_) fun hc=>?_
 ·have k3:g.kind=3:=by simpa using hc
  rw [k3] at hR;(repeat' first|first|refine A.s T ?_|refine A.r T T ?_|refine A.w T T ?_|refine A.p T ?_|refine A.b T fun bx=>?_|refine A.t T fun bl=>?_|refine A.c T hin .refl ?_|((fail_if_success (refine A.lit? T ?_));refine A.gS T (fun hc=>?_) (fun hc=>?_))|((fail_if_success (refine A.bu? T ?_));refine A.eo T (fun hc=>?_) (fun hc=>?_)))
  (all_goals (refine R_ ?_;refine Sb.eq (aA ?_)))
  all_goals (clear hin hft hfc;simp_all)
 have k3:g.kind≠3:=by simpa using hc
 refine y_ ?_;refine k_ (fun hc=>?_) fun hc=>?_
 ·have k4:g.kind=4:=by simpa using hc
  rw [k4] at hR;(repeat' first|first|refine A.s T ?_|refine A.r T T ?_|refine A.w T T ?_|refine A.p T ?_|refine A.b T fun bx=>?_|refine A.t T fun bl=>?_|refine A.c T hft .refl ?_|((fail_if_success (refine A.lit? T ?_));refine A.gS T (fun hc=>?_) (fun hc=>?_))|((fail_if_success (refine A.bu? T ?_));refine A.eo T (fun hc=>?_) (fun hc=>?_)))
  (all_goals (refine R_ ?_;refine Sb.eq (aA ?_)))
  all_goals (clear hin hft hfc;simp_all)
 have k4:g.kind≠4:=by simpa using hc
 rw [iF (fun h=>h.elim k1 k2),iF k3,iF k4,ak4] at hR;refine y_ ?_;refine R_ ?_;rw [hR];exact .refl
theorem X1(k:KN)(kind:Int)(g:GD)(hw:WfG g):Pure prog aU 151 [eU k,cC kind,fG g] (AB (fH k.vars k.chans.length g (kind==12))):=by
 have hfc:=qY k.vars g.cond hw.cond 3;have hft:=qY k.vars g.time hw.time 1;have hin:=K3 k g.c g.item g.to hw.to;unfold fH
 by_cases hb:g.body.length=1
 case neg=>
  rw [show (g.body.length==1)=false from beq_eq_false_iff_ne.2 hb];exact XY k kind g hb
 rw [show (g.body.length==1)=true from beq_iff_eq.2 hb,ac2];cases hf:kP k.vars g.cond 3 with
 |false=>
  rw [hf] at hfc;exact XZ k kind g hb hfc
 |true=>
  rw [hf] at hfc;refine X0 k kind g hb hfc _ _ hft hin _ fun cb z w e1 e2 e3=>?_;subst e1;subst e2;subst e3;rw [ac2,vG,vG,vG];simp only [ap6,ao9,ac2,am1]
theorem typed_3(k:KN)(c v it:Int)(to:List PL)(e:List KE)(gs:List GD)(b:List PR):Pure prog aU 113 [eU k,aE ⟨3,c,v,it,to,e,gs,b⟩] (AB (decide (0<=v)&&decide (v<k.vars.length))):=by
 have hlen:((k.vars.map mY).length:Int)=k.vars.length:=by rw [aa0]
 rw [<-hlen];refine P_ func113 158 fun _ _ _ _=>?_
 (refine b_ fun bx=>?_;refine b_ fun bx=>?_;refine y_ ?_)
 ((fail_if_success (refine A.lit? T ?_));refine A.gS T (fun hc=>?_) (fun hc=>?_))
 ·refine y_ ?_;refine R_ ?_;refine Sb.eq (aA ?_);have hc:decide (0<=v)=true:=hc;rw [hc];rfl
 ·refine y_ ?_;refine R_ ?_;refine Sb.eq (aA ?_);have hc:decide (0<=v)=false:=hc;rw [hc];rfl
theorem typed_5(k:KN)(c v it:Int)(t:PL)(hw:tU t)(e:List KE)(gs:List GD)(b:List PR):Pure prog aU 113 [eU k,aE ⟨5,c,v,it,[t],e,gs,b⟩] (AB (fO k.vars k.chans.length c it t)):=by
 have hin:=K3 k c it t hw;generalize fO k.vars k.chans.length c it t=R at hin⊢;refine P_ func113 158 fun _ _ _ _=>?_
 (refine b_ fun bx=>?_;refine b_ fun bx=>?_;refine y_ ?_)
 refine d_ 9 [0,1,2,3,4,5,6,7,8] [] ?_;refine gX T T T ?_;refine WA.nil (l:=[]) T ?_;exact oR hin
theorem typed_6(k:KN)(c v it:Int)(to:List PL)(x:KE)(hw:l5 x)(gs:List GD)(b:List PR):Pure prog aU 113 [eU k,aE ⟨6,c,v,it,to,[x],gs,b⟩] (AB (nR k.chans.length c it 0&&kP k.vars x it)):=by
 have hin:=S3 k c it x hw;generalize (nR k.chans.length c it 0&&kP k.vars x it)=R at hin⊢;have he:(bK [x])[(0:Int).toNat]? =some (dK x):=eW T;refine P_ func113 158 fun _ _ _ _=>?_
 (refine b_ fun bx=>?_;refine b_ fun bx=>?_;refine y_ ?_)
 refine d_ 9 [0,1,2,3,4,5,6,7,8] [] ?_;refine gX T he (aK x) ?_;refine WA.nil (l:=[]) T ?_;exact oR hin
theorem typed_7(k:KN)(c v it:Int)(t:PL)(hw:tU t)(e:List KE)(gs:List GD)(b:List PR):Pure prog aU 113 [eU k,aE ⟨7,c,v,it,[t],e,gs,b⟩] (AB (eD k.vars t 1)):=by
 have hin:=DP k.vars t hw 1;generalize eD k.vars t 1=R at hin⊢;refine P_ func113 158 fun _ _ _ _=>?_
 (refine b_ fun bx=>?_;refine b_ fun bx=>?_;refine y_ ?_)
 refine d_ 6 [0,1,2,3,4,5] [] ?_;refine gX T T T ?_;refine WA.nil (l:=[]) T ?_;exact oR hin
theorem typed_8(k:KN)(c v it:Int)(to:List PL)(x:KE)(hw:l5 x)(gs:List GD)(b:List PR):Pure prog aU 113 [eU k,aE ⟨8,c,v,it,to,[x],gs,b⟩] (AB (kP k.vars x 1)):=by
 have hin:=qY k.vars x hw 1;generalize kP k.vars x 1=R at hin⊢;have he:(bK [x])[(0:Int).toNat]? =some (dK x):=eW T;refine P_ func113 158 fun _ _ _ _=>?_
 (refine b_ fun bx=>?_;refine b_ fun bx=>?_;refine y_ ?_)
 refine d_ 6 [0,1,2,3,4,5] [] ?_;refine gX T he (aK x) ?_;refine WA.nil (l:=[]) T ?_;exact oR hin
theorem YY(k:KN)(c v it:Int)(to:List PL)(x:KE)(hw:l5 x)(gs:List GD)(b:List PR):Pure prog aU 113 [eU k,aE ⟨13,c,v,it,to,[x],gs,b⟩] (AB (kP k.vars x 3)):=by
 have hin:=qY k.vars x hw 3;generalize kP k.vars x 3=R at hin⊢;have he:(bK [x])[(0:Int).toNat]? =some (dK x):=eW T;refine P_ func113 158 fun _ _ _ _=>?_
 (refine b_ fun bx=>?_;refine b_ fun bx=>?_;refine y_ ?_)
 refine d_ 6 [0,1,2,3,4,5] [] ?_;refine gX T he (aK x) ?_;refine WA.nil (l:=[]) T ?_;exact oR hin
theorem QV(k:KN)(p:PR)(hk:p.kind≠3/\p.kind≠4/\p.kind≠5/\p.kind≠6/\p.kind≠7/\p.kind≠8/\p.kind≠13)(hwg: ∀g,g∈p.gs->ZG g)(hgl:p.gs.length<=281474976710656)(R:Bool)(hR:(p.gs.all fun g=>fH k.vars k.chans.length g (p.kind==12))=R):Pure prog aU 113 [eU k,aE p] (AB R):=by
 refine P_ func113 158 fun _ _ _ _=>?_;(repeat (first|first|refine A.s T ?_|refine A.r T T ?_|refine A.w T T ?_|refine A.p T ?_|refine A.b T fun bx=>?_|refine A.t T fun bl=>?_|refine A.cond T (fun h=>(by simp at h;omega)) (fun _=>?_)|first|refine A.step T ?_|refine A.v T T ?_));refine A.af [2,3,7] T ?_;refine A.ae (ι:=Nat) (fun i=>(⟨[(2,aT _),(3,aT _),(7,AI (i:Nat))],[]⟩,[.box _ (aE p), .box _ (eU k)])) (fun i=>i<=p.gs.length/\((p.gs.drop i).all fun g=>fH k.vars k.chans.length g (p.kind==12))=R) (fun i=>p.gs.length-i) 0 ⟨aa4 _,hR⟩ T fun i hi ih=>?_;refine y_ ?_;refine A.aa 145 T (x':=AB (decide (i<p.gs.length))) (aA (by rw [cL,ac8];simp)) ?_;refine k_ (fun hc=>?_) fun hc=>?_
 ·have hc:i<p.gs.length:=by simpa using hc
  refine aX hc fun g hg=>?_;have hgp:=X1 k p.kind g (tP (hwg g (aa2 hg)));have h1:=hi.2;rw [cB hg,aj8] at h1;refine y_ ?_;refine d_ 8 [0,1,2,3,4,5,6,7] [] ?_;refine gX T (bZ hg) (cK g) ?_;refine WA.nil (l:=[]) T ?_;refine c_ hgp ?_;refine k_ (fun hc=>?_) fun hc=>?_
  ·have hf:fH k.vars k.chans.length g (p.kind==12)=false:=by simpa using hc
   rw [hf,af3] at h1;refine y_ ?_;refine R_ ?_;rw [<-h1];exact .refl
  ·have hf:fH k.vars k.chans.length g (p.kind==12)=true:=by simpa using hc
   rw [hf,ac2] at h1;refine y_ ?_;refine vI 7 i ?_;refine u_ (ih (i+1) ⟨by omega,h1⟩ (by omega))
 ·have hc: ¬i<p.gs.length:=by simpa using hc
  have hil:i=p.gs.length:=by omega
  have h1:=hi.2;rw [hil,ai3,ar8] at h1;refine y_ ?_;refine R_ ?_;rw [<-h1];exact .refl
abbrev P4(c v it:Int)(to:List PL)(e:List KE)(b:List PR):PR:=⟨4,c,v,it,to,e,[],b⟩
theorem YZ(k:KN)(c v it:Int)(t:PL)(to:List PL)(e:List KE)(b:List PR)(hle:(t::to).length≠e.length):Pure prog aU 113 [eU k,aE (P4 c v it (t::to) e b)] (AB false):=by
 have n1:(((t::to).map gZ).length:Int)=(t::to).length:=by rw [aa0]
 have n2:((bK e).length:Int)=e.length:=by rw [bG]
 refine P_ func113 158 fun _ _ _ _=>?_
 (refine b_ fun bx=>?_;refine b_ fun bx=>?_;refine y_ ?_)
 refine A.ao ?_;refine y_ ?_;refine e_ 29 T (x':=AB true) (aA (by rw [n1];exact decide_eq_true (by rw [ab7];omega))) ?_;refine i_ T T T ?_;refine d_ 49 [0,1,2,3,4,5,6,7,8,9,10,11,12,13,14,15,16,17,18,19,20,21,22,23,24,25,26,27,28,29,30,31,32,33,34,35,36,37,38,39,40,41,42,43,44,45,46,47,48] [(32,AB false)] ?_;refine oH 45 T (x':=AB true) (aA (by rw [n1,n2];simp only [bne_iff_ne,ne_eq];exact fun h=>hle (by omega))) ?_;refine z_ ?_;exact r_
theorem Y1(k:KN)(c v it:Int)(to:List PL)(e:List KE)(b:List PR)(hle:to.length=e.length)(hl8:to.length<=8)(hwt: ∀t,t∈to->tU t)(hwe: ∀x,x∈e->l5 x)(R:Bool)(hR:((to.zip e).all fun te=>dG k.vars te.1 te.2)=R):
 Pure prog aU 113 [eU k,aE (P4 c v it to e b)] (AB R):=by
 have hlen:((k.vars.map mY).length:Int)=k.vars.length:=by rw [aa0]
 have n1:((to.map gZ).length:Int)=to.length:=by rw [aa0]
 have n2:((bK e).length:Int)=e.length:=by rw [bG]
 refine P_ func113 158 fun _ _ _ _=>?_
 (refine b_ fun bx=>?_;refine b_ fun bx=>?_;refine y_ ?_)
 refine A.af [2,3,5] T ?_;refine A.ae (ι:=Nat) (fun i=>(⟨[(2,aT _),(3,aT _),(5,AI (i:Nat))],[]⟩,[.box _ (aE (P4 c v it to e b)), .box _ (eU k)])) (fun i=>i<=to.length/\((to.zip e).drop i).all (fun te=>dG k.vars te.1 te.2)=R) (fun i=>to.length-i) 0 ⟨by omega,hR⟩ T fun i hi ih=>?_;refine y_ ?_;refine A.aa 29 T (x':=AB (decide (i<to.length))) (aA (by rw [n1,ac8];simp)) ?_;refine k_ (fun hc=>?_) fun hc=>?_
 ·have hc:i<to.length:=by simpa using hc
  refine aX hc fun t ht=>?_;refine ab4 (bT (l:=e) (i:=i) (by omega)) fun x hx=>?_;have hwt1:=hwt t (aa2 ht);have hwe1:=hwe x (aa2 hx);have h1:=hi.2;rw [cB (LS ht hx)] at h1;refine y_ ?_;refine i_ T (aC ht) T ?_
  by_cases hneg:t.v<0
  ·rw [kL (by rw [dG,iT (.inl hneg)])] at h1;refine d_ 49 [0,1,2,3,4,5,6,7,8,9,10,11,12,13,14,15,16,17,18,19,20,21,22,23,24,25,26,27,28,29,30,31,32,33,34,35,36,37,38,39,40,41,42,43,44,45,46,47,48] [(32,AB false)] ?_;refine oH 45 T (x':=AB false) (aA (by rw [n1,n2];simp;omega)) ?_;refine oH 49 T (x':=AB true) (aA (by simpa using hneg)) ?_;refine z_ ?_;refine R_ ?_;rw [<-h1];exact .refl
  by_cases hout:(k.vars.length:Int)<=t.v
  ·rw [kL (by rw [dG,iT (.inr hout)])] at h1;refine d_ 49 [0,1,2,3,4,5,6,7,8,9,10,11,12,13,14,15,16,17,18,19,20,21,22,23,24,25,26,27,28,29,30,31,32,33,34,35,36,37,38,39,40,41,42,43,44,45,46,47,48] [(32,AB false)] ?_;refine oH 45 T (x':=AB false) (aA (by rw [n1,n2];simp;omega)) ?_;refine oH 49 T (x':=AB false) (aA (by simp;omega)) ?_;refine oH 56 T (x':=AB true) (aA (by rw [hlen];simpa using hout)) ?_;refine z_ ?_;refine R_ ?_;rw [<-h1];exact .refl
  refine ab4 (pU (l:=k.vars) (i:=t.v) (by omega) (by omega)) fun y hy=>?_;have hv0:(0:Int)<=t.v:=by omega
  have hab:dG k.vars t x=(eD k.vars t y.kind&&kP k.vars x y.kind):=by rw [dG,iF (by omega),hy]
  have hpl:=DP k.vars t hwt1 y.kind;have hft:=qY k.vars x hwe1 y.kind;refine eX (eD k.vars t y.kind) fun b1 e1=>eX (kP k.vars x y.kind) fun b2 e2=>?_;rw [<-e1] at hpl hab;rw [<-e2] at hft hab
  by_cases hb1:b1=true
  ·rw [hb1] at hpl hab;refine d_ 49 [0,1,2,3,4,5,6,7,8,9,10,11,12,13,14,15,16,17,18,19,20,21,22,23,24,25,26,27,28,29,30,31,32,33,34,35,36,37,38,39,40,41,42,43,44,45,46,47,48] [(32,AB true)] ?_;refine oH 45 T (x':=AB false) (aA (by rw [n1,n2];simp;omega)) ?_;refine oH 49 T (x':=AB false) (aA (by simp;omega)) ?_;refine oH 56 T (x':=AB false) (aA (by rw [hlen];simp;omega)) ?_;refine gX T (aC ht) T ?_;refine WA.x T hv0 (aC hy) T T ?_;refine w_ ?_;refine rL hpl ?_;refine gX T (eW hx) (aK x) ?_;refine WA.x T hv0 (aC hy) T T ?_;refine w_ ?_;refine WA.nil (l:=[]) T ?_;refine c_ hft ?_;refine A.aa 89 T (x':=AB (!b2)) (aA (by rfl)) ?_;refine k_ (fun hc=>?_) fun hc=>?_
   ·have hf:b2=false:=by simpa using hc
    rw [kL (by rw [hab,hf,ak4])] at h1;refine y_ ?_;refine R_ ?_;rw [<-h1];exact .refl
   ·have hf:b2=true:=by simpa using hc
    rw [aj8] at h1;have hat:dG k.vars t x=true:=by rw [hab,hf];rfl
    simp only [hat,ac2] at h1;refine y_ ?_;refine vI 5 i ?_;refine u_ (ih (i+1) ⟨by omega,h1⟩ (by omega))
  ·have hb1:b1=false:=by simpa using hb1
   rw [hb1] at hpl hab;rw [kL (by rw [hab];rfl)] at h1;refine d_ 49 [0,1,2,3,4,5,6,7,8,9,10,11,12,13,14,15,16,17,18,19,20,21,22,23,24,25,26,27,28,29,30,31,32,33,34,35,36,37,38,39,40,41,42,43,44,45,46,47,48] [(32,AB false)] ?_;refine oH 45 T (x':=AB false) (aA (by rw [n1,n2];simp;omega)) ?_;refine oH 49 T (x':=AB false) (aA (by simp;omega)) ?_;refine oH 56 T (x':=AB false) (aA (by rw [hlen];simp;omega)) ?_;refine gX T (aC ht) T ?_;refine WA.x T hv0 (aC hy) T T ?_;refine w_ ?_;refine rL hpl ?_;refine z_ ?_;refine R_ ?_;rw [<-h1];exact .refl
 ·have hc: ¬i<to.length:=by simpa using hc
  have h1:=hi.2;rw [ad3 (by rw [Q8 hle];omega),ar8] at h1;refine y_ ?_;refine A.ao ?_;refine y_ ?_;refine R_ ?_;rw [<-h1];exact .refl
theorem CN{m:Nat}(h:wL m 1 1=true):m=1:=by simp only [wL,aa3,dT] at h;omega
theorem C8{α:Type}{l:List α}(h:l.length=1): ∃a,l=[a]:=by
 match l,h with
 | [a],_=>exact ⟨a,rfl⟩
theorem II(k:KN)(p:PR)(hw:T6 p)(hlk:bY p=true):Pure prog aU 113 [eU k,aE p] (AB (bE k.vars k.chans.length p)):=by
 obtain ⟨kd,c,v,it,to,e,gs,b⟩:=p;have hwt:=hw.to;have hwe:=hw.e;have hwg:=hw.g;have hgl:=hw.gl;simp only [PR.to,PR.e,PR.gs] at hwt hwe hwg hgl
 by_cases k12:kd=1\/kd=2
 ·have hs:bY ⟨kd,c,v,it,to,e,gs,b⟩=bE k.vars k.chans.length ⟨kd,c,v,it,to,e,gs,b⟩:=by simp only [bY,bE,PR.kind,wG,iT k12,fm0]
  rw [<-hs,hlk];refine QV k ⟨kd,c,v,it,to,e,gs,b⟩ (by show kd≠3/\kd≠4/\kd≠5/\kd≠6/\kd≠7/\kd≠8/\kd≠13;omega) hwg hgl true ?_;have h0:gs=[]:=by simp only [bY,PR.kind,wG,iT k12,fm0,aY,aa3] at hlk;exact ad2.1 (FP hlk.1.2)
  subst h0;rfl
 by_cases k3:kd=3
 ·subst k3;have hs:bE k.vars k.chans.length ⟨3,c,v,it,to,e,gs,b⟩=(bY ⟨3,c,v,it,to,e,gs,b⟩&&decide (0<=v)&&decide (v<k.vars.length)):=rfl;rw [hs,hlk,ac2];exact typed_3 k c v it to e gs b
 by_cases k4:kd=4
 ·subst k4;have hs:bE k.vars k.chans.length ⟨4,c,v,it,to,e,gs,b⟩=(bY ⟨4,c,v,it,to,e,gs,b⟩&&(to.length==e.length)&&(to.zip e).all fun te=>dG k.vars te.1 te.2):=rfl;have hl2:bY ⟨4,c,v,it,to,e,gs,b⟩=aY ⟨4,c,v,it,to,e,gs,b⟩ false false 1 8 1 8 0 0 0 0:=rfl;rw [hs,hlk,ac2];rw [hl2] at hlk;simp only [aY,aa3] at hlk;have h0:gs=[]:=ad2.1 (FP hlk.1.2);have ht:=hlk.1.1.1.2;simp only [wL,aa3,dT,PR.to] at ht;subst h0
  by_cases hle:to.length=e.length
  ·rw [show (to.length==e.length)=true from beq_iff_eq.2 hle,ac2];exact Y1 k c v it to e b hle (by omega) hwt hwe _ T
  ·rw [show (to.length==e.length)=false from beq_eq_false_iff_ne.2 hle,af3]
   match to,hle,ht with
   | [],_,ht=>simp at ht |t::to,hle,_=>exact YZ k c v it t to e b hle
 by_cases k5:kd=5
 ·subst k5;have hs:bE k.vars k.chans.length ⟨5,c,v,it,to,e,gs,b⟩=(bY ⟨5,c,v,it,to,e,gs,b⟩&&ZF (fO k.vars k.chans.length c it) to):=rfl;have hl2:bY ⟨5,c,v,it,to,e,gs,b⟩=aY ⟨5,c,v,it,to,e,gs,b⟩ true false 1 1 0 0 0 0 0 0:=rfl;rw [hs,hlk,ac2];rw [hl2] at hlk;simp only [aY,aa3] at hlk;obtain ⟨t,rfl⟩:=C8 (CN hlk.1.1.1.2);exact typed_5 k c v it t (hwt t (aa5 ..)) e gs b
 by_cases k6:kd=6
 ·subst k6;have hs:bE k.vars k.chans.length ⟨6,c,v,it,to,e,gs,b⟩=(bY ⟨6,c,v,it,to,e,gs,b⟩&&nR k.chans.length c it 0&&pE k.vars e it):=rfl;have hl2:bY ⟨6,c,v,it,to,e,gs,b⟩=aY ⟨6,c,v,it,to,e,gs,b⟩ true false 0 0 1 1 0 0 0 0:=rfl;rw [hs,hlk,ac2];rw [hl2] at hlk;simp only [aY,aa3] at hlk;obtain ⟨t,rfl⟩:=C8 (CN hlk.1.1.2);exact typed_6 k c v it to t (hwe t (aa5 ..)) gs b
 by_cases k7:kd=7
 ·subst k7;have hs:bE k.vars k.chans.length ⟨7,c,v,it,to,e,gs,b⟩=(bY ⟨7,c,v,it,to,e,gs,b⟩&&ZF (fun t=>eD k.vars t 1) to):=rfl;have hl2:bY ⟨7,c,v,it,to,e,gs,b⟩=aY ⟨7,c,v,it,to,e,gs,b⟩ false false 1 1 0 0 0 0 0 0:=rfl;rw [hs,hlk,ac2];rw [hl2] at hlk;simp only [aY,aa3] at hlk;obtain ⟨t,rfl⟩:=C8 (CN hlk.1.1.1.2);exact typed_7 k c v it t (hwt t (aa5 ..)) e gs b
 by_cases k8:kd=8
 ·subst k8;have hs:bE k.vars k.chans.length ⟨8,c,v,it,to,e,gs,b⟩=(bY ⟨8,c,v,it,to,e,gs,b⟩&&pE k.vars e 1):=rfl;have hl2:bY ⟨8,c,v,it,to,e,gs,b⟩=aY ⟨8,c,v,it,to,e,gs,b⟩ false false 0 0 1 1 0 0 0 0:=rfl;rw [hs,hlk,ac2];rw [hl2] at hlk;simp only [aY,aa3] at hlk;obtain ⟨t,rfl⟩:=C8 (CN hlk.1.1.2);exact typed_8 k c v it to t (hwe t (aa5 ..)) gs b
 by_cases k13:kd=13
 ·subst k13;have hs:bE k.vars k.chans.length ⟨13,c,v,it,to,e,gs,b⟩=(bY ⟨13,c,v,it,to,e,gs,b⟩&&pE k.vars e 3):=rfl;have hl2:bY ⟨13,c,v,it,to,e,gs,b⟩=aY ⟨13,c,v,it,to,e,gs,b⟩ false false 0 0 1 1 0 0 1 1:=rfl;rw [hs,hlk,ac2];rw [hl2] at hlk;simp only [aY,aa3] at hlk;obtain ⟨t,rfl⟩:=C8 (CN hlk.1.1.2);exact YY k c v it to t (hwe t (aa5 ..)) gs b
 ·refine QV k ⟨kd,c,v,it,to,e,gs,b⟩ (by show kd≠3/\kd≠4/\kd≠5/\kd≠6/\kd≠7/\kd≠8/\kd≠13;omega) hwg hgl _ ?_
  by_cases k9:kd=9
  ·subst k9;have hs:bE k.vars k.chans.length ⟨9,c,v,it,to,e,gs,b⟩=bY ⟨9,c,v,it,to,e,gs,b⟩:=rfl;have hl2:bY ⟨9,c,v,it,to,e,gs,b⟩=aY ⟨9,c,v,it,to,e,gs,b⟩ false false 0 0 0 0 0 0 0 2048:=rfl;rw [hs,hlk];rw [hl2] at hlk;simp only [aY,aa3] at hlk;have h0:gs=[]:=ad2.1 (FP hlk.1.2);subst h0;rfl
  by_cases k10:kd=10
  ·subst k10;have hs:bE k.vars k.chans.length ⟨10,c,v,it,to,e,gs,b⟩=bY ⟨10,c,v,it,to,e,gs,b⟩:=rfl;have hl2:bY ⟨10,c,v,it,to,e,gs,b⟩=aY ⟨10,c,v,it,to,e,gs,b⟩ false false 0 0 0 0 0 0 0 16:=rfl;rw [hs,hlk];rw [hl2] at hlk;simp only [aY,aa3] at hlk;have h0:gs=[]:=ad2.1 (FP hlk.1.2);subst h0;rfl
  by_cases k11:kd=11
  ·subst k11;have hs:bE k.vars k.chans.length ⟨11,c,v,it,to,e,gs,b⟩=bY ⟨11,c,v,it,to,e,gs,b⟩:=rfl;have hl2:bY ⟨11,c,v,it,to,e,gs,b⟩=aY ⟨11,c,v,it,to,e,gs,b⟩ false false 0 0 0 0 0 0 2 2:=rfl;rw [hs,hlk];rw [hl2] at hlk;simp only [aY,aa3] at hlk;have h0:gs=[]:=ad2.1 (FP hlk.1.2);subst h0;rfl
  by_cases kc:kd=12\/kd=14\/kd=15
  ·have hs:bE k.vars k.chans.length ⟨kd,c,v,it,to,e,gs,b⟩=(bY ⟨kd,c,v,it,to,e,gs,b⟩&&gs.all fun g=>fH k.vars k.chans.length g (kd==12)):=by
    rcases kc with rfl|rfl|rfl<;>rfl
   rw [hs,hlk,ac2]
  ·have:bY ⟨kd,c,v,it,to,e,gs,b⟩=false:=by
    simp only [bY,PR.kind,wG,iF k12,iF k3,iF k4,iF k5,iF k6,iF k7,iF k8,iF k9,iF k10,iF k11,iF kc,iF k13]
   rw [this] at hlk;cases hlk
theorem ER{l:List KV}{n:Nat}{p:PR}(h:bY p=false):bE l n p=false:=by
 cases hk:bE l n p with
 |false=>rfl |true=>
  obtain ⟨kd,c,v,it,to,e,gs,b⟩:=p;have hr:=iZ hk;exfalso;simp only [PR.kind] at hr;rcases J4 ⟨hr.1,hr.2.1⟩ with rfl|rfl|rfl|rfl|rfl|rfl|rfl|rfl|rfl|rfl|rfl|rfl|rfl|rfl|rfl
  ·have hs:bE l n ⟨1,c,v,it,to,e,gs,b⟩=(bY ⟨1,c,v,it,to,e,gs,b⟩):=rfl;rw [hs,h] at hk;simp at hk
  ·have hs:bE l n ⟨2,c,v,it,to,e,gs,b⟩=(bY ⟨2,c,v,it,to,e,gs,b⟩):=rfl;rw [hs,h] at hk;simp at hk
  ·have hs:bE l n ⟨3,c,v,it,to,e,gs,b⟩=(bY ⟨3,c,v,it,to,e,gs,b⟩&&decide (0<=v)&&decide (v<l.length)):=rfl;rw [hs,h] at hk;simp at hk
  ·have hs:bE l n ⟨4,c,v,it,to,e,gs,b⟩=(bY ⟨4,c,v,it,to,e,gs,b⟩&&(to.length==e.length)&&(to.zip e).all fun te=>dG l te.1 te.2):=rfl;rw [hs,h] at hk;simp at hk
  ·have hs:bE l n ⟨5,c,v,it,to,e,gs,b⟩=(bY ⟨5,c,v,it,to,e,gs,b⟩&&ZF (fO l n c it) to):=rfl;rw [hs,h] at hk;simp at hk
  ·have hs:bE l n ⟨6,c,v,it,to,e,gs,b⟩=(bY ⟨6,c,v,it,to,e,gs,b⟩&&nR n c it 0&&pE l e it):=rfl;rw [hs,h] at hk;simp at hk
  ·have hs:bE l n ⟨7,c,v,it,to,e,gs,b⟩=(bY ⟨7,c,v,it,to,e,gs,b⟩&&ZF (fun t=>eD l t 1) to):=rfl;rw [hs,h] at hk;simp at hk
  ·have hs:bE l n ⟨8,c,v,it,to,e,gs,b⟩=(bY ⟨8,c,v,it,to,e,gs,b⟩&&pE l e 1):=rfl;rw [hs,h] at hk;simp at hk
  ·have hs:bE l n ⟨9,c,v,it,to,e,gs,b⟩=(bY ⟨9,c,v,it,to,e,gs,b⟩):=rfl;rw [hs,h] at hk;simp at hk
  ·have hs:bE l n ⟨10,c,v,it,to,e,gs,b⟩=(bY ⟨10,c,v,it,to,e,gs,b⟩):=rfl;rw [hs,h] at hk;simp at hk
  ·have hs:bE l n ⟨11,c,v,it,to,e,gs,b⟩=(bY ⟨11,c,v,it,to,e,gs,b⟩):=rfl;rw [hs,h] at hk;simp at hk
  ·have hs:bE l n ⟨12,c,v,it,to,e,gs,b⟩=(bY ⟨12,c,v,it,to,e,gs,b⟩&&gs.all fun g=>fH l n g ((12:Int)==12)):=rfl;rw [hs,h] at hk;simp at hk
  ·have hs:bE l n ⟨13,c,v,it,to,e,gs,b⟩=(bY ⟨13,c,v,it,to,e,gs,b⟩&&pE l e 3):=rfl;rw [hs,h] at hk;simp at hk
  ·have hs:bE l n ⟨14,c,v,it,to,e,gs,b⟩=(bY ⟨14,c,v,it,to,e,gs,b⟩&&gs.all fun g=>fH l n g ((14:Int)==12)):=rfl;rw [hs,h] at hk;simp at hk
  ·have hs:bE l n ⟨15,c,v,it,to,e,gs,b⟩=(bY ⟨15,c,v,it,to,e,gs,b⟩&&gs.all fun g=>fH l n g ((15:Int)==12)):=rfl;rw [hs,h] at hk;simp at hk
abbrev MU(k:KN)(deep:Int)(high:Bool):AV:= .ag [jA k.vars,RJ k.chans,cC k.root.kind,AI k.root.c,AI k.root.v,cC k.root.item,DF k.root.to,qS k.root.e,zS k.root.gs,pN k.root.l,aQ k.procs,AI deep,AB high]
theorem O6(k:KN){d d':Int}{h h':Bool}(h1:d=d')(h2:h=h'):MU k d h=MU k d' h':=by rw [h1,h2]
def wM(k:KN)(high:Bool)(deep:Int)(p:PR)(n:Int):Int:=if dU k.vars k.chans.length high p n (32-deep) then n-oD p else-1
abbrev nW(k:KN)(p:PR)(deep:Int)(high:Bool)(n:Int):Prop:=Pure prog aU 78 [MU k deep high,aE p,AI n] (AI (wM k high deep p n))
theorem left_a(k:KN)(p:PR)(deep:Int)(high:Bool)(n:Int)(hz:n=0\/deep=32)(r0:0<=n)(d1:deep<=32):nW k p deep high n:=by
 have hnf: ¬dU k.vars k.chans.length high p n (32-deep):=mD (by omega);unfold nW;refine P_ func78 104 fun _ _ _ _=>?_
 (refine lS fun bx=>?_;refine lS fun bx=>?_;refine g_ ?_)
 refine A.aa 16 T (x':=AB true) (aA (by simp;omega)) ?_
 (refine y_ ?_;refine R_ ?_;exact Sb.eq (aL (iF hnf).symm))
theorem left_b(k:KN)(p:PR)(deep:Int)(high:Bool)(n:Int)(hlk:bY p=false):nW k p deep high n:=by
 have hnf: ¬dU k.vars k.chans.length high p n (32-deep):=mD (.inr (.inr (.inl (ER hlk))));have h1:=A9 p;rw [hlk] at h1;unfold nW;refine P_ func78 104 fun _ _ _ _=>?_;(repeat' first|first|refine A.s T ?_|refine A.r T T ?_|refine A.w T T ?_|refine A.p T ?_|refine A.b T fun bx=>?_|refine A.t T fun bl=>?_|refine A.c T h1 .refl ?_|((fail_if_success (refine A.lit? T ?_));refine A.gS T (fun hc=>?_) (fun hc=>?_))|((fail_if_success (refine A.bu? T ?_));refine A.eo T (fun hc=>?_) (fun hc=>?_)))
 all_goals (refine R_ ?_;exact Sb.eq (aL (iF hnf).symm))
theorem left_c(k:KN)(p:PR)(hw:xQ p)(deep:Int)(high:Bool)(n:Int)(hlk:bY p=true)(hk:bE k.vars k.chans.length p=false):nW k p deep high n:=by
 have hnf: ¬dU k.vars k.chans.length high p n (32-deep):=mD (.inr (.inr (.inl hk)));have h1:=A9 p;have h2:=II k p (q9 hw) hlk;rw [hlk] at h1;rw [hk] at h2;unfold nW;refine P_ func78 104 fun _ _ _ _=>?_;(repeat' first|first|refine A.s T ?_|refine A.r T T ?_|refine A.w T T ?_|refine A.p T ?_|refine A.b T fun bx=>?_|refine A.t T fun bl=>?_|refine A.c T h1 .refl ?_|refine A.c T h2 .refl ?_|((fail_if_success (refine A.lit? T ?_));refine A.gS T (fun hc=>?_) (fun hc=>?_))|((fail_if_success (refine A.bu? T ?_));refine A.eo T (fun hc=>?_) (fun hc=>?_)))
 all_goals (refine R_ ?_;exact Sb.eq (aL (iF hnf).symm))
theorem left_d(k:KN)(p:PR)(hw:xQ p)(deep:Int)(n:Int)(hlk:bY p=true)(hk:bE k.vars k.chans.length p=true)(h11:p.kind=11):nW k p deep true n:=by
 have hnf: ¬dU k.vars k.chans.length true p n (32-deep):=mD (.inr (.inr (.inr (by rw [h11];rfl))));have h1:=A9 p;have h2:=II k p (q9 hw) hlk;rw [hlk] at h1;rw [hk] at h2;unfold nW;have hkk:(p.kind==11)=true:=by rw [h11];rfl
 refine P_ func78 104 fun _ _ _ _=>?_;(repeat' first|first|refine A.s T ?_|refine A.r T T ?_|refine A.w T T ?_|refine A.p T ?_|refine A.b T fun bx=>?_|refine A.t T fun bl=>?_|refine A.c T h1 .refl ?_|refine A.c T h2 .refl ?_|((fail_if_success (refine A.lit? T ?_));refine A.gS T (fun hc=>?_) (fun hc=>?_))|((fail_if_success (refine A.bu? T ?_));refine A.eo T (fun hc=>?_) (fun hc=>?_)))
 all_goals first|(refine R_ ?_;exact Sb.eq (aL (iF hnf).symm))|(exact absurd hkk (by simp_all))
theorem left_e(k:KN)(p:PR)(hw:xQ p)(deep:Int)(high:Bool)(n:Int)(r0:1<=n)(r1:n<=2048)(d0:0<=deep)(d1:deep<32)(hlk:bY p=true)(hk:bE k.vars k.chans.length p=true)(hh:(high&&p.kind==11)=false)
 (ih0: ∀(y:PR) (hi:Bool) (lf:Int),xQ y->oD y<oD p->0<=lf->lf<=2048->nW k y (deep+1) hi lf):nW k p deep high n:=by
 have hw1:IntKind.i64.wrap (n-1)=n-1:=fR _ (by omega);have hw2:IntKind.i64.wrap (deep+1)=deep+1:=fR _ (by omega);have hwa:=q9 hw;have h1:=A9 p;have h2:=II k p hwa hlk;rw [hlk] at h1;rw [hk] at h2;have hbod:=(iZ hk).2.2;have hfl:=OZ (high:=high) (p:=p) (room:=n) (deep:=32-deep) r0 (by omega) hk hh;rw [show 32-deep-1=32-(deep+1) by omega] at hfl;have hse:=y8 p;have n1:((aS p.l).length:Int)=p.l.length:=by rw [bP]
 have n2:((cA p.gs).length:Int)=p.gs.length:=by rw [cL]
 unfold nW;refine P_ func78 104 fun _ _ _ _=>?_
 (refine lS fun bx=>?_;refine lS fun bx=>?_;refine g_ ?_)
 refine A.aa 16 T (x':=AB false) (aA (by rw [ac8];simp;omega)) ?_;refine c_ h1 ?_;refine n_ h2 ?_;refine g_ ?_;refine e_ 36 T (x':=AB false) (aA (by revert hh;generalize (p.kind==11)=b11;cases high<;>cases b11<;>simp)) ?_;refine A.aa 2 T (x':=AI (n-1)) (aL hw1) ?_;refine A.af [2,3,4,7] T ?_
 refine A.ae (ι:=Nat×Int) (fun q=>(⟨[(2,AI q.2),(3,aT _),(4,aT _),(7,AI (q.1:Nat))],[]⟩,[.box _ (aE p), .box _ (MU k deep high)]))
  (fun q=>q.1<=p.l.length/\((pH k.vars k.chans.length high (p.kind==11) (p.l.take q.1) (n-1) (32-(deep+1))/\q.2=n-1-(kR (p.l.take q.1):Nat))\/(q.2= -1/\ ¬dU k.vars k.chans.length high p n (32-deep)))) (fun q=>p.l.length-q.1) (0,n-1) ⟨aa4 _, .inl ⟨⟨by simp [HT],by simp [kR];omega,by simp [JV];omega⟩,by simp [kR]⟩⟩ T fun q hi ih=>?_
 obtain ⟨i,lf⟩:=q;obtain ⟨hi1,hi2⟩:=hi;simp only at hi1 hi2
 by_cases hlf:lf<0
 ·have hneg:lf= -1/\ ¬dU k.vars k.chans.length high p n (32-deep):=by
   rcases hi2 with ⟨hf,he⟩|h
   ·have:=hf.2.1;omega
   ·exact h
  have hnf:=hneg.2;have hlf1:=hneg.1;subst hlf1;refine g_ ?_;refine e_ 47 T (x':=AB false) (aA (by simp)) ?_;refine A.ao ?_;refine g_ ?_;refine e_ 82 T (x':=AB false) (aA (by simp)) ?_;refine R_ ?_;exact Sb.eq (aL (iF hnf).symm)
 have hpos:pH k.vars k.chans.length high (p.kind==11) (p.l.take i) (n-1) (32-(deep+1))/\lf=n-1-(kR (p.l.take i):Nat):=by
  rcases hi2 with h|h
  ·exact h
  ·omega
 clear hi2;obtain ⟨hi2,hi3⟩:=hpos;have hsz2:=hi2.2.1;refine g_ ?_;refine A.aa 47 T (x':=AB (decide (i<p.l.length))) (aA (by rw [n1,ac8];simp;omega)) ?_;refine k_ (fun hc=>?_) fun hc=>?_
 ·have hc:i<p.l.length:=by simpa using hc
  refine ab4 (bT (l:=p.l) (i:=i) (by omega)) fun y hy=>?_;have hym:=aa2 hy;have htk:p.l.take (i+1)=p.l.take i++[y]:=by rw [ac9,hy];rfl
  have hsn:=zQ (x:=y) hi2;rw [<-htk,<-hi3,EA (by omega)] at hsn;have ihy:=ih0 y (high||((p.kind==11)&&decide (i=0))) lf (hwa.l y hym) (by have:=D9 hym;omega) (by omega) (by omega);unfold nW at ihy;have e0:(((i:Nat):Int)==0)=decide (i=0):=by rw [ac8];simp
  refine y_ ?_;refine A.draw 23 [0,1,2,3,4,5,6,7,8,9,10,11,12,13,14,15,16,17,18,19,20,21,22] HR [] (by kernel_rfl) (by kernel_rfl) ?_;refine v_ ?_;refine WA.aa 66 T (x':=MU k (deep+1) (high||((p.kind==11)&&decide (i=0)))) (O6 k hw2 (by rw [e0];clear ih ihy hsn;generalize (p.kind==11)=b11;cases high<;>cases b11<;>simp)) ?_;refine gX T (aV hy) (bC y) ?_;refine WA.nil (l:=[]) T ?_;refine c_ ihy ?_;refine A.aa 7 T (x':=AI ((i+1:Nat):Int)) (qR i (by have:=hwa.ll;omega)) ?_;refine u_ (ih (i+1,wM k (high||((p.kind==11)&&decide (i=0))) (deep+1) y lf) ⟨by show i+1<=_;omega,?_⟩ (by show _-(i+1)<_-i;omega))
  by_cases hfx:dU k.vars k.chans.length (high||((p.kind==11)&&decide (i=0))) y lf (32-(deep+1))
  ·refine .inl ⟨hsn.2 hfx,?_⟩;show wM k (high||((p.kind==11)&&decide (i=0))) (deep+1) y lf=n-1-(kR (p.l.take (i+1)):Nat);rw [wM,iT hfx,htk,q8,hi3];simp [kR];omega
  ·exact .inr ⟨iF hfx,fun hf=>hfx (hsn.1 (zR (hfl.1 hf).1 (i+1)))⟩
 have hc: ¬i<p.l.length:=by simpa using hc
 have hil:i=p.l.length:=by omega
 rw [hil,ac4] at hi2 hi3;have hszl:=hi2.2.1;refine y_ ?_;refine A.af [2,3,4,8] T ?_
 refine A.ae (ι:=Nat×Int) (fun q=>(⟨[(2,AI q.2),(3,aT _),(4,aT _),(8,AI (q.1:Nat))],[]⟩,[.box _ (aE p), .box _ (MU k deep high)]))
  (fun q=>q.1<=p.gs.length/\((pG k.vars k.chans.length high (p.gs.take q.1) (n-1-(kR p.l:Nat)) (32-(deep+1))/\q.2=n-1-(kR p.l:Nat)-(gG (p.gs.take q.1):Nat))\/(q.2= -1/\ ¬dU k.vars k.chans.length high p n (32-deep)))) (fun q=>p.gs.length-q.1) (0,lf) ⟨aa4 _, .inl ⟨⟨by simp [sL],by simp [gG];omega,by simp [uV];omega⟩,by simp [gG];omega⟩⟩ T fun q hj jh=>?_
 obtain ⟨j,lg⟩:=q;obtain ⟨hj1,hj2⟩:=hj;simp only at hj1 hj2
 by_cases hlg:lg<0
 ·have hneg:lg= -1/\ ¬dU k.vars k.chans.length high p n (32-deep):=by
   rcases hj2 with ⟨hf,he⟩|h
   ·have:=hf.2.1;omega
   ·exact h
  have hnf:=hneg.2;have hlg1:=hneg.1;subst hlg1;refine g_ ?_;refine e_ 82 T (x':=AB false) (aA (by simp)) ?_;refine R_ ?_;exact Sb.eq (aL (iF hnf).symm)
 have hpos:pG k.vars k.chans.length high (p.gs.take j) (n-1-(kR p.l:Nat)) (32-(deep+1))/\lg=n-1-(kR p.l:Nat)-(gG (p.gs.take j):Nat):=by
  rcases hj2 with h|h
  ·exact h
  ·omega
 clear hj2;obtain ⟨hj2,hj3⟩:=hpos;have hsz3:=hj2.2.1;refine g_ ?_;refine A.aa 82 T (x':=AB (decide (j<p.gs.length))) (aA (by rw [n2,ac8];simp;omega)) ?_;refine k_ (fun hc=>?_) fun hc=>?_
 ·have hc:j<p.gs.length:=by simpa using hc
  refine ab4 (bT (l:=p.gs) (i:=j) (by omega)) fun g hg=>?_;have hgm:=aa2 hg;refine ab4 (hbod g hgm) fun y hy=>?_;have htk:p.gs.take (j+1)=p.gs.take j++[g]:=by rw [ac9,hg];rfl
  have hsn:=zO hy hj2;rw [<-htk,<-hj3] at hsn;have hszy:oD y<=gG p.gs:=by have:=xG hgm;rw [q7,hy,kR,kR] at this;omega
  have ihy:=ih0 y high lg ((tP (hwa.g g hgm)).body y (by rw [hy];exact aa5 ..)) (by omega) (by omega) (by omega);unfold nW at ihy;refine y_ ?_;refine d_ 17 [0,1,2,3,4,5,6,7,8,9,10,11,12,13,14,15,16] [] ?_;refine WA.aa 92 T (x':=MU k (deep+1) high) (O6 k hw2 T) ?_;refine gX T (bZ hg) (cK g) ?_;refine gX T (show (aS g.body)[(0:Int).toNat]? =some (pC y) from aV (by rw [hy];rfl)) (bC y) ?_;refine WA.nil (l:=[]) T ?_;refine c_ ihy ?_;refine A.aa 8 T (x':=AI ((j+1:Nat):Int)) (qR j (by have:=hwa.gl;omega)) ?_;refine u_ (jh (j+1,wM k high (deep+1) y lg) ⟨by show j+1<=_;omega,?_⟩ (by show _-(j+1)<_-j;omega))
  by_cases hfx:dU k.vars k.chans.length high y lg (32-(deep+1))
  ·refine .inl ⟨hsn.2 hfx,?_⟩;show wM k high (deep+1) y lg=n-1-(kR p.l:Nat)-(gG (p.gs.take (j+1)):Nat);have e2:gG [g]=oD y:=by rw [gG,gG,q7,hy,kR,kR];omega
   rw [wM,iT hfx,htk,oZ,hj3,e2];omega
  ·exact .inr ⟨iF hfx,fun hf=>hfx (hsn.1 (zP (hfl.1 hf).2 (j+1)))⟩
 have hc: ¬j<p.gs.length:=by simpa using hc
 have hjl:j=p.gs.length:=by omega
 rw [hjl,ac4] at hj2 hj3;refine y_ ?_;refine R_ ?_;refine Sb.eq (aL ?_);rw [wM,iT (hfl.2 ⟨hi2,hj2⟩)];omega
theorem WR(k:KN): ∀(N:Nat) (p:PR) (deep:Int) (high:Bool) (n:Int),oD p<=N->xQ p->0<=n->n<=2048->0<=deep->deep<=32->nW k p deep high n
 |0,p,_,_,_,hn,_,_,_,_,_=>by have:=xH p;omega |N+1,p,deep,high,n,hn,hw,r0,r1,d0,d1=>by
  by_cases hz:n=0\/deep=32
  ·exact left_a k p deep high n hz r0 d1
  cases hlk:bY p with
  |false=>exact left_b k p deep high n hlk |true=>
   cases hkb:bE k.vars k.chans.length p with
   |false=>exact left_c k p hw deep high n hlk hkb |true=>
    cases hh:(high&&p.kind==11) with
    |true=>
     simp only [aa3,beq_iff_eq] at hh;rw [hh.1];exact left_d k p hw deep n hlk hkb hh.2
    |false=>exact left_e k p hw deep high n (by omega) r1 d0 (by omega) hlk hkb hh fun y hi lf hwy hsz l0 l1=>WR k N y (deep+1) hi lf (by omega) hwy l0 l1 (by omega) (by omega)
def RV(k:KN):Bool:=k.root.kind==10&&k.root.l.length==k.procs.length
def nD(k:KN):Bool:=k.procs.length==0||(yP [] k.procs&&RV k)
theorem XN(k:KN)(h:k.procs.length=0):Pure prog aU 76 [eU k] (AB true):=by
 have n3:((k.procs.map AI).length:Int)=k.procs.length:=by rw [aa0]
 refine P_ func76 60 fun _ _ _ _=>?_
 (refine b_ fun bx=>?_;refine y_ ?_)
 refine e_ 8 T (x':=AB true) (aA (by rw [n3,h];rfl)) ?_;exact r_
theorem XO(k:KN)(hw:ZL k)(h:k.procs.length≠0)(R:Bool)(hR:(yP [] k.procs&&RV k)=R):Pure prog aU 76 [eU k] (AB R):=by
 have n3:((k.procs.map AI).length:Int)=k.procs.length:=by rw [aa0]
 have n4:((aS k.root.l).length:Int)=k.root.l.length:=by rw [bP]
 have hpl:=hw.procs;refine P_ func76 60 fun _ _ _ _=>?_
 (refine b_ fun bx=>?_;refine y_ ?_)
 refine e_ 8 T (x':=AB false) (aA (by rw [n3];exact beq_eq_false_iff_ne.2 (by omega))) ?_;refine A.af [1,3] T ?_;refine A.ae (ι:=Nat) (fun i=>(⟨[(1,aT _),(3,AI (i:Nat))],[]⟩,[.box _ (eU k)])) (fun i=>i<=k.procs.length/\(yP (k.procs.take i) (k.procs.drop i)&&RV k)=R) (fun i=>k.procs.length-i) 0 ⟨by omega,hR⟩ T fun i hi ih=>?_;refine y_ ?_;refine A.aa 13 T (x':=AB (decide (i<k.procs.length))) (aA (by rw [n3,ac8];simp)) ?_;refine k_ (fun hc=>?_) fun hc=>?_
 ·have hc:i<k.procs.length:=by simpa using hc
  refine aX hc fun v hv=>?_;have h1:=hi.2;rw [cB hv,yP] at h1;have htk:k.procs.take (i+1)=k.procs.take i++[v]:=by rw [ac9,hv];rfl
  rw [<-htk] at h1;refine eX ((yP (k.procs.take (i+1)) (k.procs.drop (i+1))&&RV k)) fun R2 hR2=>?_;have h2:(decide (0<=v)&&decide (v<8)&& !(k.procs.take i).contains v&&R2)=R:=by rw [hR2,<-h1];simp only [al1]
  refine y_ ?_;refine A.af [1,3,4] T ?_;refine A.ae (ι:=Nat) (fun j=>(⟨[(1,aT _),(3,AI (i:Nat)),(4,AI (j:Nat))],[]⟩,[.box _ (eU k)])) (fun j=>j<=i/\(k.procs.take i).contains v=((k.procs.take i).drop j).contains v) (fun j=>i-j) 0 ⟨by omega,rfl⟩ T fun j hj jh=>?_;refine y_ ?_;refine A.aa 18 T (x':=AB (decide (j<i))) (aA (by rw [ac8];simp)) ?_;refine k_ (fun hc=>?_) fun hc=>?_
  ·have hd:j<i:=by simpa using hc
   refine ab4 (bT (l:=k.procs) (i:=j) (by omega)) fun u hu=>?_;have hut:(k.procs.take i)[j]? =some u:=by rw [List.getElem?_take,iT hd,hu]
   have h3:=hj.2;rw [cB hut,List.contains_cons] at h3;refine y_ ?_;refine d_ 10 [0,1,2,3,4,5,6,7,8,9] [] ?_;refine gX T (aC hu) T ?_;refine gX T (aC hv) T ?_;refine z_ ?_;refine k_ (fun hc=>?_) fun hc=>?_
   ·have he:u=v:=by simpa using hc
    rw [he] at h3;simp only [BEq.rfl,ao9] at h3;rw [h3] at h2;simp only [Bool.not_true,ak4,af3] at h2;refine y_ ?_;refine R_ ?_;rw [<-h2];exact .refl
   ·have he:(v==u)=false:=by have:(u==v)=false:=hc;rw [beq_eq_false_iff_ne] at this⊢;exact fun h=>this h.symm
    rw [he,ap6] at h3;refine y_ ?_;refine vI 4 j ?_;refine u_ (jh (j+1) ⟨by omega,h3⟩ (by omega))
  have hd: ¬j<i:=by simpa using hc
  have hji:j=i:=by omega
  have h3:=hj.2;rw [hji,ad3 (by rw [ac1];omega),List.contains_nil] at h3;rw [h3,aq9,am1] at h2;refine y_ ?_;refine i_ T (aC hv) T ?_
  ((fail_if_success (refine A.lit? T ?_));refine A.gS T (fun hc=>?_) (fun hc=>?_))
  ·have hc0:v<0:=by simpa using hc
   rw [decide_eq_false (by omega)] at h2;simp only [af3] at h2;refine y_ ?_;refine R_ ?_;rw [<-h2];exact .refl
  have hc0:0<=v:=by simpa using hc
  refine y_ ?_;refine i_ T (aC hv) T ?_;refine k_ (fun hc=>?_) fun hc=>?_
  ·have hc1:8<=v:=by simpa using hc
   rw [decide_eq_false (p:=v<8) (by omega)] at h2;simp only [af3,ak4] at h2;refine y_ ?_;refine R_ ?_;rw [<-h2];exact .refl
  have hc1:v<8:=by simpa using hc
  rw [decide_eq_true hc0,decide_eq_true hc1,ac2,ac2,hR2] at h2;refine y_ ?_;refine vI 3 i ?_;refine u_ (ih (i+1) ⟨by omega,h2⟩ (by omega))
 have hc: ¬i<k.procs.length:=by simpa using hc
 have hil:i=k.procs.length:=by omega
 have h1:=hi.2;rw [hil,ai3,yP,ac2,RV] at h1;refine g_ ?_;refine R_ ?_;refine Sb.eq (aA ?_);rw [<-h1,n3,n4];generalize (k.root.kind==10)=b10;cases b10 with
 |false=>rfl |true=>clear ih hi h1;rw [ac8];simp;omega
theorem KR(k:KN)(hw:ZL k):Pure prog aU 76 [eU k] (AB (nD k)):=by
 unfold nD
 by_cases h:k.procs.length=0
 ·rw [show (k.procs.length==0)=true from beq_iff_eq.2 h,ao9];exact XN k h
 ·rw [show (k.procs.length==0)=false from beq_eq_false_iff_ne.2 h,ap6];exact XO k hw h _ T
theorem a0v(k:KN):lU k=(lA k&&nD k&&k.vars.all mU&&vE 0 k.chans&&decide (dU k.vars k.chans.length false k.root 2048 32)):=by
 unfold lU;have:(w7 k&&yP [] k.procs)=nD k:=by
  unfold w7 nD RV
  by_cases h:k.procs.length=0
  ·rw [show (k.procs.length==0)=true from beq_iff_eq.2 h,ad2.1 h];rfl
  ·rw [show (k.procs.length==0)=false from beq_eq_false_iff_ne.2 h,ap6,ap6,Bool.and_comm]
 rw [<-this];simp only [al1]
theorem rmay_a(k:KN)(hw:ZL k)(h:(lA k&&nD k)=false):Pure prog aU 34 [eU k] (AB false):=by
 have n1:((k.vars.map mY).length:Int)=k.vars.length:=by rw [aa0]
 have n2:((k.chans.map cC).length:Int)=k.chans.length:=by rw [aa0]
 have hpc:=KR k hw;refine P_ func34 86 fun _ _ _ _=>?_
 (refine lS fun bx=>?_;refine g_ ?_)
 refine A.aa 22 T (x':=AB (!lA k)) (aA ?_) ?_
 ·rw [n1,n2,lA,ac8];simp;omega
 cases hlk:lA k with
 |false=>exact tV |true=>
  rw [hlk,ac2] at h;rw [h] at hpc;exact oR hpc
theorem rmay_b(k:KN)(hw:ZL k)(h:(lA k&&nD k)=true)(R:Bool)(hR:(k.vars.all mU&&(vE 0 k.chans&&decide (dU k.vars k.chans.length false k.root 2048 32)))=R):Pure prog aU 34 [eU k] (AB R):=by
 have n1:((k.vars.map mY).length:Int)=k.vars.length:=by rw [aa0]
 have n2:((k.chans.map cC).length:Int)=k.chans.length:=by rw [aa0]
 rw [aa3] at h;have hlk:k.vars.length<=256/\2<=k.chans.length/\k.chans.length<=64:=by have:=h.1;simp only [lA,aa3,dT] at this;omega
 have hpc:=KR k hw;rw [h.2] at hpc;refine eX ((vE 0 k.chans&&decide (dU k.vars k.chans.length false k.root 2048 32))) fun R2 hR2=>?_;rw [<-hR2] at hR;refine P_ func34 86 fun _ _ _ _=>?_
 (refine lS fun bx=>?_;refine g_ ?_)
 refine A.aa 22 T (x':=AB false) (aA ?_) ?_
 ·rw [n1,n2,ac8];simp;omega
 refine c_ hpc ?_;refine A.af [1,3] T ?_;refine A.ae (ι:=Nat) (fun i=>(⟨[(1,aT _),(3,AI (i:Nat))],[]⟩,[.box _ (eU k)])) (fun i=>i<=k.vars.length/\((k.vars.drop i).all mU&&R2)=R) (fun i=>k.vars.length-i) 0 ⟨by omega,hR⟩ T fun j hi ih=>?_;refine y_ ?_;refine A.aa 31 T (x':=AB (decide (j<k.vars.length))) (aA (by rw [n1,ac8];simp)) ?_;refine k_ (fun hc=>?_) fun hc=>?_
 ·have hc:j<k.vars.length:=by simpa using hc
  refine ab4 (bT (l:=k.vars) (i:=j) (by omega)) fun v hv=>?_;have h2:=hi.2;rw [cB hv,aj8,mU] at h2;refine y_ ?_;refine i_ T (aC hv) T ?_;refine c_ (H5 v.kind) ?_
  ((fail_if_success (refine A.lit? T ?_));refine A.gS T (fun hc=>?_) (fun hc=>?_))
  ·have hc0:lD v.kind=false:=by simpa using hc
   rw [hc0] at h2;refine y_ ?_;refine R_ ?_;rw [<-h2];exact .refl
  have hc0:lD v.kind=true:=by simpa using hc
  refine y_ ?_;refine i_ T (aC hv) T ?_
  ((fail_if_success (refine A.lit? T ?_));refine A.gS T (fun hc=>?_) (fun hc=>?_))
  ·have hc1:v.dim<0:=by simpa using hc
   rw [decide_eq_false (p:=0<=v.dim) (by omega),ak4] at h2;refine y_ ?_;refine R_ ?_;rw [<-h2];exact .refl
  have hc1:0<=v.dim:=by simpa using hc
  refine y_ ?_;refine i_ T (aC hv) T ?_;refine k_ (fun hc=>?_) fun hc=>?_
  ·have hc2:64<v.dim:=by simpa using hc
   rw [decide_eq_false (p:=v.dim<=64) (by omega),ak4] at h2;refine y_ ?_;refine R_ ?_;rw [<-h2];exact .refl
  ·have hc2:v.dim<=64:=by simpa using hc
   rw [hc0,decide_eq_true hc1,decide_eq_true hc2] at h2;simp only [ac2] at h2;refine y_ ?_;refine vI 3 j ?_;refine u_ (ih (j+1) ⟨by omega,h2⟩ (by omega))
 have hc: ¬j<k.vars.length:=by simpa using hc
 have hjl:j=k.vars.length:=by omega
 have h2:=hi.2;rw [hjl,ai3,ar8,ac2,hR2] at h2;clear ih hi;generalize hR3:decide (dU k.vars k.chans.length false k.root 2048 32)=R3 at h2;have hpr:=WR k (oD k.root) k.root 0 false 2048 (ab3 _) hw.root (by decide) (by decide) (by decide) (by decide);unfold nW at hpr;refine y_ ?_;refine A.af [1,4] T ?_;refine A.ae (ι:=Nat) (fun i=>(⟨[(1,aT _),(4,AI (i:Nat))],[]⟩,[.box _ (eU k)])) (fun i=>i<=k.chans.length/\(vE i (k.chans.drop i)&&R3)=R) (fun i=>k.chans.length-i) 0 ⟨by omega,h2⟩ T fun m hi ih=>?_;refine y_ ?_;refine A.aa 64 T (x':=AB (decide (m<k.chans.length))) (aA (by rw [n2,ac8];simp)) ?_;refine k_ (fun hc=>?_) fun hc=>?_
 ·have hc:m<k.chans.length:=by simpa using hc
  refine ab4 (bT (l:=k.chans) (i:=m) (by omega)) fun v hv=>?_;have h3:=hi.2;rw [cB hv,vE] at h3
  by_cases m0:m=0
  ·subst m0;rw [show xL 0=1 from rfl] at h3
   (refine t_ fun bl=>?_;refine y_ ?_)
   refine i_ T T T ?_;refine i_ T (aC hv) T ?_;refine k_ (fun hc=>?_) fun hc=>?_
   ·have hc:(v !=1)=true:=hc;have hv1:(v==1)=false:=by simpa using hc
    rw [hv1] at h3;refine y_ ?_;refine R_ ?_;rw [<-h3];exact .refl
   ·have hc:(v !=1)=false:=hc;have hv1:(v==1)=true:=by simpa using hc
    rw [hv1,ac2] at h3;refine y_ ?_;refine u_ (ih 1 ⟨by omega,h3⟩ (by omega))
  by_cases m1:m=1
  ·subst m1;rw [show xL 1=2 from rfl] at h3
   (refine t_ fun bl=>?_;refine y_ ?_)
   refine i_ T T T ?_;refine i_ T (aC hv) T ?_;refine k_ (fun hc=>?_) fun hc=>?_
   ·have hc:(v !=2)=true:=hc;have hv1:(v==2)=false:=by simpa using hc
    rw [hv1] at h3;refine y_ ?_;refine R_ ?_;rw [<-h3];exact .refl
   ·have hc:(v !=2)=false:=hc;have hv1:(v==2)=true:=by simpa using hc
    rw [hv1,ac2] at h3;refine y_ ?_;refine u_ (ih 2 ⟨by omega,h3⟩ (by omega))
  ·rw [show xL m=0 by simp [xL,m0,m1]] at h3;refine y_ ?_;refine e_ 68 T (x':=AB false) (aA (by simp;omega)) ?_;refine i_ T (aC hv) T ?_;refine k_ (fun hc=>?_) fun hc=>?_
   ·have hc:(v !=0)=true:=hc;have hv1:(v==0)=false:=by simpa using hc
    rw [hv1] at h3;refine y_ ?_;refine R_ ?_;rw [<-h3];exact .refl
   ·have hc:(v !=0)=false:=hc;have hv1:(v==0)=true:=by simpa using hc
    rw [hv1,ac2] at h3;refine y_ ?_;refine vI 4 m ?_;refine u_ (ih (m+1) ⟨by omega,h3⟩ (by omega))
 have hc: ¬m<k.chans.length:=by simpa using hc
 have hml:m=k.chans.length:=by omega
 have h3:=hi.2;rw [hml,ai3,vE,ac2] at h3;clear ih hi;refine y_ ?_;refine c_ hpr ?_;refine R_ ?_;refine Sb.eq (aA ?_);rw [<-h3,<-hR3,wM,show (32:Int)-0=32 from rfl]
 by_cases hf:dU k.vars k.chans.length false k.root 2048 32
 ·rw [iT hf,decide_eq_true hf];have:=hf.2.1;simp;omega
 ·rw [iF hf,decide_eq_false hf];rfl
theorem X2(k:KN)(hw:ZL k):Pure prog aU 34 [eU k] (AB (lU k)):=by
 rw [a0v]
 by_cases h:(lA k&&nD k)=true
 ·rw [h,ac2,al1];exact rmay_b k hw h _ T
 ·have h:(lA k&&nD k)=false:=by simpa using h
  rw [h,af3,af3,af3];exact rmay_a k hw h
mutual
def N0:KE->Prop
 |⟨_,_,_,_,_,l⟩=>l.length*40<=140737488355328/\N1 l
def N1:List KE->Prop
 | []=>True |e::r=>N0 e/\N1 r
end
def smP(p:PL):Prop:=p.ix.length*40<=140737488355328/\ ∀x,x∈p.ix->N0 x
mutual
def sS:PR->Prop
 |⟨_,_,_,_,to,e,gs,l⟩=>((∀t,t∈to->smP t)/\(∀x,x∈e->N0 x)/\to.length*32<=140737488355328/\e.length*40<=140737488355328/\gs.length*160<=140737488355328/\l.length*128<=140737488355328)/\AW gs/\y7 l
def y7:List PR->Prop
 | []=>True |p::r=>sS p/\y7 r
def smG:GD->Prop
 |⟨_,e,_,_,to,t,b⟩=>(N0 e/\N0 t/\smP to/\b.length*128<=140737488355328)/\y7 b
def AW:List GD->Prop
 | []=>True |g::r=>smG g/\AW r
end
theorem D5: ∀{l:List PR},y7 l-> ∀x,x∈l->sS x
 | [],_,x,h=>by cases h |y::r,hw,x,h=>by
  rw [y7] at hw;rcases ab6.1 h with rfl|h
  ·exact hw.1
  ·exact D5 hw.2 x h
theorem LD: ∀{l:List GD},AW l-> ∀x,x∈l->smG x
 | [],_,x,h=>by cases h |y::r,hw,x,h=>by
  rw [AW] at hw;rcases ab6.1 h with rfl|h
  ·exact hw.1
  ·exact LD hw.2 x h
structure SmR(p:PR):Prop where
 to: ∀t,t∈p.to->smP t
 e: ∀x,x∈p.e->N0 x
 tol:p.to.length<=281474976710656
 el:p.e.length<=281474976710656
 gl:p.gs.length<=281474976710656
 ll:p.l.length<=281474976710656
 g: ∀g,g∈p.gs->smG g
 l: ∀x,x∈p.l->sS x
 tb:p.to.length*32<=140737488355328
 eb:p.e.length*40<=140737488355328
 gb:p.gs.length*160<=140737488355328
 lb:p.l.length*128<=140737488355328
theorem lF{p:PR}(h:sS p):SmR p:=by obtain ⟨k,c,v,i,to,e,gs,l⟩:=p;rw [sS] at h;obtain ⟨⟨h1,h2,h3,h4,h5,h6⟩,h7,h8⟩:=h;exact ⟨h1,h2,by show to.length<=_;omega,by show e.length<=_;omega,by show gs.length<=_;omega,by show l.length<=_;omega,LD h7,D5 h8,h3,h4,h5,h6⟩
structure SmG(g:GD):Prop where
 cond:N0 g.cond
 time:N0 g.time
 to:smP g.to
 bl:g.body.length<=281474976710656
 body: ∀x,x∈g.body->sS x
 bb:g.body.length*128<=140737488355328
theorem kC{g:GD}(h:smG g):SmG g:=by obtain ⟨k,e,c,i,to,t,b⟩:=g;rw [smG] at h;obtain ⟨⟨h1,h2,h3,h4⟩,h5⟩:=h;exact ⟨h1,h2,h3,by show b.length<=_;omega,D5 h5,h4⟩
theorem DG{p x:PR}(h:x∈p.l):SizeOf.sizeOf x<SizeOf.sizeOf p:=by obtain ⟨k,c,v,i,to,e,gs,l⟩:=p;have:=al7 h;simp only [PR.mk.sizeOf_spec,PR.l] at this⊢;omega
def skipR:PR:=⟨1,0,0,0,[],[],[],[]⟩
abbrev lC(k:Int):AV:= .ag [cC k,AI 0,AI 0,cC 0,DF [],qS [],zS [],pN []]
mutual
def tgR:PR->Prop
 |⟨_,_,_,_,_,_,_,l⟩=>l.length<=134217728/\YS l
def YS:List PR->Prop
 | []=>True |p::r=>tgR p/\YS r
end
theorem IC: ∀{l:List PR},(∀x,x∈l->sS x)->y7 l
 | [],_=>by rw [y7];trivial |y::r,h=>by rw [y7];exact ⟨h y (.head _),IC fun x hx=>h x (.tail _ hx)⟩
theorem CG{p:PR}{g:GD}(h:g∈p.gs):SizeOf.sizeOf g<SizeOf.sizeOf p:=by obtain ⟨k,c,v,i,to,e,gs,l⟩:=p;have:=al7 h;simp only [PR.mk.sizeOf_spec,PR.gs] at this⊢;omega
theorem BV{g:GD}{x:PR}(h:x∈g.body):SizeOf.sizeOf x<SizeOf.sizeOf g:=by obtain ⟨k,e,c,i,to,t,b⟩:=g;have:=al7 h;simp only [GD.mk.sizeOf_spec,GD.body] at this⊢;omega
mutual
def okF(I:PR->Prop)(next high:Bool):PR->Prop
 |⟨k,c,v,i,to,e,gs,l⟩=>(I ⟨k,c,v,i,to,e,gs,l⟩/\(k=16->next=true)/\(k=11->high=false))/\qU I (next&&(k==9||k==10||k==11)) (next&&(k==10||k==11)) (high||k==11) high l/\KH I high gs
def qU(I:PR->Prop)(n0 n1 h0 h1:Bool):List PR->Prop
 | []=>True |p::r=>okF I n0 h0 p/\qU I n1 n1 h1 h1 r
def XA(I:PR->Prop)(high:Bool):GD->Prop
 |⟨_,_,_,_,_,_,b⟩=>qU I false false high high b
def KH(I:PR->Prop)(high:Bool):List GD->Prop
 | []=>True |g::r=>XA I high g/\KH I high r
end
section
variable{I:PR->Prop}
theorem okF_eq{next high:Bool}(p:PR):okF I next high p↔(I p/\(p.kind=16->next=true)/\(p.kind=11->high=false))/\qU I (next&&(p.kind==9||p.kind==10||p.kind==11)) (next&&(p.kind==10||p.kind==11)) (high||p.kind==11) high p.l/\KH I high p.gs:=by obtain ⟨k,c,v,i,to,e,gs,l⟩:=p;rw [okF]
theorem qT{high:Bool}(g:GD):XA I high g↔qU I false false high high g.body:=by obtain ⟨k,e,c,i,to,t,b⟩:=g;rw [XA]
theorem NB{n0 n1 h0 h1:Bool}:qU I n0 n1 h0 h1 []:=by rw [qU];trivial
theorem nZ{high:Bool}: ∀{l:List GD},KH I high l-> ∀g,g∈l->XA I high g
 | [],_,g,h=>by cases h |y::r,hw,g,h=>by
  rw [KH] at hw;rcases ab6.1 h with rfl|h
  ·exact hw.1
  ·exact nZ hw.2 g h
theorem BB{high:Bool}: ∀{l:List GD},(∀g,g∈l->XA I high g)->KH I high l
 | [],_=>by rw [KH];trivial |y::r,h=>by rw [KH];exact ⟨h y (.head _),BB fun x hx=>h x (.tail _ hx)⟩
theorem KG{n1 h1:Bool}: ∀{l:List PR},qU I n1 n1 h1 h1 l-> ∀x,x∈l->okF I n1 h1 x
 | [],_,x,h=>by cases h |y::r,hw,x,h=>by
  rw [qU] at hw;rcases ab6.1 h with rfl|h
  ·exact hw.1
  ·exact KG hw.2 x h
theorem kN{n0 n1 h0 h1:Bool}{l:List PR}(hw:qU I n0 n1 h0 h1 l){x:PR}(hx:x∈l): ∃n h,okF I n h x:=by
 cases l with
 |nil=>cases hx |cons y r=>
  rw [qU] at hw;rcases ab6.1 hx with rfl|h
  ·exact ⟨_,_,hw.1⟩
  ·exact ⟨_,_,KG hw.2 x h⟩
end
mutual
def atR:PR->List Nat->Option PR
 |⟨k,c,v,i,to,e,gs,l⟩,path=>if k=9 then atS l path else if k=10\/k=11 then (match path with
  | []=>none |j::rest=>atL l j rest) else (match path with
  | []=>some ⟨k,c,v,i,to,e,gs,l⟩ |_::_=>none)
def atS:List PR->List Nat->Option PR
 | [],_=>none |x::_,path=>atR x path
def atL:List PR->Nat->List Nat->Option PR
 | [],_,_=>none |x::_,0,path=>atR x path
 |_::r,j+1,path=>atL r j path
end
section
variable{I:PR->Prop}
end
def waitsG(g:GD):Bool:=g.cond.kind==1&&(g.kind !=4||g.time.kind==1)
theorem UL{α:Type}{l:List α}{i:Nat}{x:α}(hx:l[i]? =some x):i<l.length:=by
 rcases Nat.lt_or_ge i l.length with h|h
 ·exact h
 ·rw [List.getElem?_eq_none h] at hx;cases hx
structure KOk(V:List KV)(C:List Int):Prop where
 vl:V.length<=256
 cl:2<=C.length
 cu:C.length<=64
 var:V.all mU=true
 ch:vE 0 C=true
abbrev I7(p:PR):PR:=⟨if p.kind=16 then 14 else p.kind,p.c,p.v,p.item,p.to,p.e,p.gs,p.l⟩
structure Loc(V:List KV)(C:List Int)(p:PR):Prop where
 kind:bE V C.length (I7 p)=true
 wait:p.kind=16-> ∀g,g∈p.gs->waitsG g=true
 room:1+p.l.length+p.gs.length<=2048
 to: ∀t,t∈p.to->tU t/\smP t
 e: ∀x,x∈p.e->l5 x/\N0 x
 gs: ∀g,g∈p.gs->(l5 g.cond/\N0 g.cond)/\(l5 g.time/\N0 g.time)/\(tU g.to/\smP g.to)
theorem yJ{V:List KV}{n:Nat}{p:PR}(h:bE V n p=true):p.to.length<=8/\p.e.length<=8/\p.gs.length<=16/\p.l.length<=2048:=by
 have h0: ∀{ch v:Bool} {t1 t2 e1 e2 g1 g2 l1 l2:Int},aY p ch v t1 t2 e1 e2 g1 g2 l1 l2=true->t2<=8->e2<=8->g2<=16->l2<=2048->p.to.length<=8/\p.e.length<=8/\p.gs.length<=16/\p.l.length<=2048:=fun hs a b c d=>by simp only [aY,wL,aa3,dT] at hs;omega
 unfold bE at h
 by_cases k0:p.kind=1\/p.kind=2
 ·rw [iT k0] at h;exact h0 h (by decide) (by decide) (by decide) (by decide)
 rw [iF k0] at h
 by_cases k1:p.kind=3
 ·rw [iT k1,aa3,aa3] at h;exact h0 h.1.1 (by decide) (by decide) (by decide) (by decide)
 rw [iF k1] at h
 by_cases k2:p.kind=4
 ·rw [iT k2,aa3,aa3] at h;exact h0 h.1.1 (by decide) (by decide) (by decide) (by decide)
 rw [iF k2] at h
 by_cases k3:p.kind=5
 ·rw [iT k3,aa3] at h;exact h0 h.1 (by decide) (by decide) (by decide) (by decide)
 rw [iF k3] at h
 by_cases k4:p.kind=6
 ·rw [iT k4,aa3,aa3] at h;exact h0 h.1.1 (by decide) (by decide) (by decide) (by decide)
 rw [iF k4] at h
 by_cases k5:p.kind=7
 ·rw [iT k5,aa3] at h;exact h0 h.1 (by decide) (by decide) (by decide) (by decide)
 rw [iF k5] at h
 by_cases k6:p.kind=8
 ·rw [iT k6,aa3] at h;exact h0 h.1 (by decide) (by decide) (by decide) (by decide)
 rw [iF k6] at h
 by_cases k7:p.kind=9
 ·rw [iT k7] at h;exact h0 h (by decide) (by decide) (by decide) (by decide)
 rw [iF k7] at h
 by_cases k8:p.kind=10
 ·rw [iT k8] at h;exact h0 h (by decide) (by decide) (by decide) (by decide)
 rw [iF k8] at h
 by_cases k9:p.kind=11
 ·rw [iT k9] at h;exact h0 h (by decide) (by decide) (by decide) (by decide)
 rw [iF k9] at h
 by_cases k10:p.kind=12\/p.kind=14\/p.kind=15
 ·rw [iT k10,aa3] at h;exact h0 h.1 (by decide) (by decide) (by decide) (by decide)
 rw [iF k10] at h
 by_cases k11:p.kind=13
 ·rw [iT k11,aa3] at h;exact h0 h.1 (by decide) (by decide) (by decide) (by decide)
 rw [iF k11] at h;cases h
section
variable{V:List KV}{C:List Int}
theorem Loc.lens{p:PR}(h:Loc V C p):p.to.length<=8/\p.e.length<=8/\p.gs.length<=16/\p.l.length<=2048:=yJ (p:=I7 p) h.kind
theorem Loc.body{p:PR}(h:Loc V C p): ∀g,g∈p.gs-> ∃y,g.body=[y]:=(iZ (p:=I7 p) h.kind).2.2
theorem Q3: ∀{l:List KE},(∀x,x∈l->l5 x)->nJ l
 | [],_=>by rw [nJ];trivial |y::r,h=>by rw [nJ];exact ⟨h y (.head _),Q3 fun x hx=>h x (.tail _ hx)⟩
theorem PV{I J:PR->Prop}(h: ∀p,I p->J p): ∀(m:Nat) (p:PR) (n hi:Bool),SizeOf.sizeOf p<=m->okF I n hi p->okF J n hi p
 |0,p,_,_,h,_=>by obtain ⟨k,c,v,i,to,e,gs,l⟩:=p;simp only [PR.mk.sizeOf_spec] at h;omega
 |m+1,p,n,hi,hm,w=>by
  rw [okF_eq] at w⊢;obtain ⟨⟨w1,w2,w3⟩,w4,w5⟩:=w;have hl: ∀(l:List PR),(∀x,x∈l->SizeOf.sizeOf x<=m)-> ∀n0 n1 h0 h1,qU I n0 n1 h0 h1 l->qU J n0 n1 h0 h1 l:=by
   intro l
   induction l with
   |nil=>intro _ n0 n1 h0 h1 _;exact NB |cons x r ih=>
    intro hx n0 n1 h0 h1 w;rw [qU] at w⊢;exact ⟨PV h m x n0 h0 (hx x (.head _)) w.1,ih (fun y hy=>hx y (.tail _ hy)) _ _ _ _ w.2⟩
  refine ⟨⟨h _ w1,w2,w3⟩,hl p.l (fun x hx=>by have:=DG hx;omega) _ _ _ _ w4,BB fun g hg=>?_⟩;have:=nZ w5 g hg;rw [qT] at this⊢;exact hl g.body (fun x hx=>by have:=CG hg;have:=BV hx;omega) _ _ _ _ this
theorem AE: ∀(m:Nat) (p:PR) (n hi:Bool),SizeOf.sizeOf p<=m->okR V C.length hi p=true->oD p<=2048->xQ p->sS p->okF (Loc V C) n hi p
 |0,p,_,_,h,_,_,_,_=>by obtain ⟨k,c,v,i,to,e,gs,l⟩:=p;simp only [PR.mk.sizeOf_spec] at h;omega
 |m+1,p,n,hi,hm,hok,hsz,hwf,hsm=>by
  rw [NC] at hok;simp only [aa3,aj7] at hok;obtain ⟨⟨⟨o1,o2⟩,o3⟩,o4⟩:=hok;have hw:=q9 hwf;have hs:=lF hsm;have hb:=iZ o1;have hse:=y8 p;have hl: ∀(l:List PR),(∀x,x∈l->SizeOf.sizeOf x<=m/\xQ x/\sS x)->kR l<=2048-> ∀n0 n1 f,HT V C.length hi f l=true->qU (Loc V C) n0 n1 (hi||f) hi l:=by
   intro l
   induction l with
   |nil=>intro _ _ n0 n1 f _;exact NB |cons x r ih=>
    intro hx hz n0 n1 f w;rw [HT,aa3] at w;rw [kR] at hz;rw [qU];have h1:=hx x (.head _);refine ⟨AE m x n0 (hi||f) h1.1 w.1 (by omega) h1.2.1 h1.2.2,?_⟩;have:=ih (fun y hy=>hx y (.tail _ hy)) (by omega) n1 n1 false w.2;rw [an9] at this;exact this
  have hroom:1+p.l.length+p.gs.length<=2048:=by
   have h1: ∀l:List PR,l.length<=kR l:=by
    intro l
    induction l with
    |nil=>exact aa4 _ |cons x r ih=>rw [kR,ab7];have:=xH x;omega
   have h2: ∀l:List GD,(∀g,g∈l-> ∃y,g.body=[y])->l.length<=gG l:=by
    intro l
    induction l with
    |nil=>intro _;exact aa4 _ |cons x r ih=>
     intro hb;obtain ⟨y,hy⟩:=hb x (.head _);have:=ih fun g hg=>hb g (.tail _ hg);have:=xH y;rw [gG,ab7,q7,hy,kR,kR];omega
   have:=h1 p.l;have:=h2 p.gs hb.2.2;omega
  rw [okF_eq];refine ⟨⟨⟨?_,fun h=>by omega,hroom,fun t ht=>⟨hw.to t ht,hs.to t ht⟩,fun x hx=>⟨hw.e x hx,hs.e x hx⟩,fun g hg=>?_⟩,fun h=>by omega,fun h=>?_⟩,hl p.l (fun x hx=>⟨by have:=DG hx;omega,hw.l x hx,hs.l x hx⟩) (by omega) _ _ _ o3,BB fun g hg=>?_⟩
  ·unfold I7;rw [iF (by omega)];obtain ⟨k,c,v,i,to,e,gs,l⟩:=p;exact o1
  ·have h1:=tP (hw.g g hg);have h2:=kC (hs.g g hg);exact ⟨⟨h1.cond,h2.cond⟩,⟨h1.time,h2.time⟩,h1.to,h2.to⟩
  ·rw [h] at o2;revert o2;cases hi<;>simp
  ·rw [qT];have h1:=tP (hw.g g hg);have h2:=kC (hs.g g hg);have h3: ∀(l:List GD),sL V C.length hi l=true-> ∀g,g∈l->okG V C.length hi g=true:=by
    intro l
    induction l with
    |nil=>intro _ g hg;cases hg |cons x r ih=>
     intro h g hg;rw [sL,aa3] at h;rcases ab6.1 hg with rfl|hg
     ·exact h.1
     ·exact ih h.2 g hg
   have h4:=h3 p.gs o4 g hg;rw [XB] at h4;have h5:=hl g.body (fun x hx=>⟨by have:=CG hg;have:=BV hx;omega,h1.body x hx,h2.body x hx⟩) (by have:=xG hg;rw [q7] at this;omega) false false false h4;rw [an9] at h5;exact h5
theorem SJ{p:PR}{n hi:Bool}(hok:okR V C.length hi p=true)(hsz:oD p<=2048)(hwf:xQ p)(hsm:sS p):okF (Loc V C) n hi p:=AE _ p n hi (ab3 _) hok hsz hwf hsm
end
abbrev s0:List (List Int):=[[7],[1,2,3]]
theorem a0T(hs:List (Value×List Int)):slL 1 (bU hs)=(hs.map al4).map jU:=by simp [slL,bU]
abbrev s1:List (List Int):=[[5,6,7]]
abbrev v0:List KV:=[⟨1,0⟩,⟨3,3⟩]
theorem yZ{f:FuncId}{a:List AV}{n:Nat}{s:List (List Int)}(hf:fB prog aU f a [] (fun p:Value×List (Value×List Int)=> .ms p.1 1 n) (fun p=>[.rows 1 (bU p.2), .row 1 p.1 (oW 1 (bU p.2))]) (fun p=>p.2.map al4=s)):
 Pure prog aU f a (aF s):=
 jB.rows (jB.mono hf fun x Λ' ⟨p,h1,h2,h3⟩=>⟨p.1,bU p.2,n,h1,h2,by rw [a0T,h3]⟩)
def kH(l:List KV):List (List Int):=if dI l then fP l else []
theorem Put_p(s:List (List Int))(v i x:Int)(h1:s.length<=1073741824)(h2: ∀r,r∈s->r.length<=35184372088832):Pure prog aU 17 [aF s,AI v,AI i,aN x] (aF (iK s v i x)):=
 yZ (put_p s v i x h1 h2)
def CH(l:List KV)(i:Nat):Bool:=(l.take i).all dM
theorem yE{l:List KV}{i:Nat}{v:KV}(h:l[i]? =some v):CH l (i+1)=(CH l i&&dM v):=by rw [CH,ac9,h,al9];simp [CH]
theorem VV(l:List KV):CH l l.length= !l.any (fun v=> !dM v):=by
 rw [CH,ac4];induction l with
 |nil=>rfl |cons x r ih=>rw [aj8,List.any_cons,ih];cases dM x<;>simp
theorem lN{l:List KV}{i:Nat}{v:KV}(hv:l[i]? =some v)(h:dM v=false):dI l=false:=by have:(l.any fun v=> !dM v)=true:=List.any_eq_true.2 ⟨v,aa2 hv,by rw [h];rfl⟩;rw [dI,this];simp
theorem X9(l:List KV)(hb:l.length<=281474976710656):Pure prog aU 63 [jA l] (AB (dI l)):=by
 have hl:((l.map mY).length:Int)=l.length:=by rw [aa0]
 by_cases h:l.length<=256
 case neg=>
  refine P_ func63 51 fun _ _ _ _=>?_;refine y_ ?_;refine e_ 6 T (x':=AB true) (aA (by simp;omega)) ?_;refine R_ ?_;refine Sb.eq (aA ?_);simp [dI,h]
 refine P_ func63 51 fun _ _ _ _=>?_;refine y_ ?_;refine e_ 6 T (x':=AB false) (aA (by simp;omega)) ?_;refine A.af [0,3] T ?_;refine A.ae (ι:=Nat) (fun i=>(⟨[(0,jA l),(3,AI (i:Int))],[]⟩,[])) (fun i=>i<=l.length/\CH l i=true) (fun i=>l.length-i) 0 ⟨by omega,rfl⟩ T fun i hi ih=>?_;refine y_ ?_;refine k_ (fun hc=>?_) fun hc=>?_
 ·simp at hc;refine ab4 (bT (l:=l) (i:=i) (by omega)) fun v hv=>?_;refine y_ ?_;refine j_ T (aC hv) T ?_;refine g_ ?_
  by_cases k1:v.kind=1
  ·refine e_ 19 T (x':=AB false) (aA (by simp [k1])) ?_;(refine j_ T (aC hv) T ?_;refine g_ ?_;refine A.split 43 T (fun hd=>?_) (fun hd=>?_);(simp at hd;(refine y_ ?_;refine R_ ?_;exact Sb.eq (aA (lN hv (by simp [dM];omega)).symm)));simp at hd;refine i_ T (aC hv) T ?_;refine k_ (fun he=>?_) fun he=>?_;(simp at he;(refine y_ ?_;refine R_ ?_;exact Sb.eq (aA (lN hv (by simp [dM];omega)).symm)));simp at he;refine y_ ?_;refine vI 3 i ?_;refine u_ (ih (i+1) ⟨by omega,?_⟩ (by omega));rw [yE hv,hi.2];simp [dM];omega)
  refine A.aa 19 T (x':=AB true) (aA (by simp [k1])) ?_;refine j_ T (aC hv) T ?_;refine g_ ?_
  by_cases k2:v.kind=2
  ·refine e_ 27 T (x':=AB false) (aA (by simp [k2])) ?_;(refine j_ T (aC hv) T ?_;refine g_ ?_;refine A.split 43 T (fun hd=>?_) (fun hd=>?_);(simp at hd;(refine y_ ?_;refine R_ ?_;exact Sb.eq (aA (lN hv (by simp [dM];omega)).symm)));simp at hd;refine i_ T (aC hv) T ?_;refine k_ (fun he=>?_) fun he=>?_;(simp at he;(refine y_ ?_;refine R_ ?_;exact Sb.eq (aA (lN hv (by simp [dM];omega)).symm)));simp at he;refine y_ ?_;refine vI 3 i ?_;refine u_ (ih (i+1) ⟨by omega,?_⟩ (by omega));rw [yE hv,hi.2];simp [dM];omega)
  refine A.aa 27 T (x':=AB true) (aA (by simp [k2])) ?_;refine j_ T (aC hv) T ?_;refine g_ ?_
  by_cases k3:v.kind=3
  ·refine A.aa 35 T (x':=AB false) (aA (by simp [k3])) ?_
   (refine j_ T (aC hv) T ?_;refine g_ ?_;refine A.split 43 T (fun hd=>?_) (fun hd=>?_);(simp at hd;(refine y_ ?_;refine R_ ?_;exact Sb.eq (aA (lN hv (by simp [dM];omega)).symm)));simp at hd;refine i_ T (aC hv) T ?_;refine k_ (fun he=>?_) fun he=>?_;(simp at he;(refine y_ ?_;refine R_ ?_;exact Sb.eq (aA (lN hv (by simp [dM];omega)).symm)));simp at he;refine y_ ?_;refine vI 3 i ?_;refine u_ (ih (i+1) ⟨by omega,?_⟩ (by omega));rw [yE hv,hi.2];simp [dM];omega)
  refine A.aa 35 T (x':=AB true) (aA (by simp [k3])) ?_
  (refine y_ ?_;refine R_ ?_;exact Sb.eq (aA (lN hv (by simp [dM];omega)).symm))
 ·simp at hc;have:i=l.length:=by omega
  subst this;have h2:=hi.2;rw [VV] at h2;refine y_ ?_;refine R_ ?_;refine Sb.eq (aA ?_);rw [dI,h2,decide_eq_true h];rfl
theorem long_p(v:KV):Pure prog aU 64 [mY v] (AI (if v.dim=0 then 1 else v.dim)):=by
 refine P_ func64 8 fun _ _ _ _=>?_
 (refine b_ fun bx=>?_;refine y_ ?_)
 refine k_ (fun hc=>?_) fun hc=>?_
 ·simp at hc;refine y_ ?_;refine R_ ?_;refine Sb.eq (aL ?_);rw [iT hc]
 ·simp at hc;refine y_ ?_;refine R_ ?_;refine Sb.eq (aL ?_);rw [iF hc]
theorem TL{l:List KV}{i:Nat}{v:KV}(h:l[i]? =some v):((fP l).take i).map jU++[jU (List.replicate (eP v).toNat 0)]=((fP l).take (i+1)).map jU:=by rw [ac9,fP,ab5,h];simp
theorem QD(a b:List (List Int))(ha:short a):Pure prog aU 21 [aF a,aF b] (AB (sQ a b)):=by
 have ha1:=ha.1
 by_cases hlen:a.length=b.length
 case neg=>
  refine P_ func21 53 fun _ _ _ _=>?_;refine y_ ?_;refine e_ 11 T (x':=AB true) (aA (by simp;omega)) ?_;refine R_ ?_;refine Sb.eq (aA ?_);simp [sQ,iV,hlen]
 refine P_ func21 53 fun _ _ _ _=>?_;refine y_ ?_;refine e_ 11 T (x':=AB false) (aA (by simp;omega)) ?_;refine A.af [0,1,5] T ?_;refine A.ae (ι:=Nat) (fun i=>(⟨[(0,aF a),(1,aF b),(5,AI (i:Int))],[]⟩,[])) (fun i=>i<=a.length/\allEq (iV (· == ·)) a b i=true) (fun i=>a.length-i) 0 ⟨by omega,rfl⟩ T fun i hi ih=>?_;refine y_ ?_;refine k_ (fun hc=>?_) fun hc=>?_
 ·simp at hc;refine ab4 (bT (l:=a) (i:=i) (by omega)) fun x hx=>ab4 (bT (l:=b) (i:=i) (by omega)) fun y hy=>?_;have hxl:=ha.2 x (aa2 hx);have h1:=BT (iV (· == ·)) hx hy;refine y_ ?_;refine d_ 10 [0,1,2,3,4,5,6,7,8,9] [] ?_;refine gX T (aC hx) T ?_;refine gX T (aC hy) T ?_;refine WA.nil (l:=[]) T ?_;refine A.ab (Λ':=[]) T ?_;refine y_ ?_;refine k_ (fun hc=>?_) fun hc=>?_
  ·simp at hc;refine y_ ?_;refine R_ ?_;refine Sb.eq (aA ?_);have h2:=BP (f:=iV (· == ·)) (a:=a) (b:=b) (j:=i+1) (by rw [h1,iV,decide_eq_false (by omega)];simp) a.length (by omega);rw [sQ,iV,h2];simp
  ·simp at hc;have hxy:x.length=y.length:=by omega
   refine y_ ?_;refine A.af [0,1,5,6] T ?_;refine A.ae (ι:=Nat) (fun j=>(⟨[(0,aF a),(1,aF b),(5,AI (i:Int)),(6,AI (j:Int))],[]⟩,[])) (fun j=>j<=x.length/\allEq (· == ·) x y j=true) (fun j=>x.length-j) 0 ⟨by omega,rfl⟩ T fun j hj jh=>?_;refine y_ ?_;refine i_ T (aC hx) T ?_;refine k_ (fun hc=>?_) fun hc=>?_
   ·rename_i hc0;simp at hc;refine ab4 (bT (l:=x) (i:=j) (by omega)) fun u hu=>ab4 (bT (l:=y) (i:=j) (by omega)) fun w hw=>?_;have h3:=BT (· == ·) hu hw;refine y_ ?_;refine d_ 14 [0,1,2,3,4,5,6,7,8,9,10,11,12,13] [] ?_;refine gX T (aC hx) T ?_;refine gX T (aC hu) T ?_;refine gX T (aC hy) T ?_;refine gX T (aC hw) T ?_;refine WA.nil (l:=[]) T ?_;refine A.ab (Λ':=[]) T ?_;refine y_ ?_;refine k_ (fun he=>?_) fun he=>?_
    ·simp at he;refine y_ ?_;refine R_ ?_;refine Sb.eq (aA ?_);have h4:=BP (f:=(· == ·)) (a:=x) (b:=y) (j:=j+1) (by rw [h3];simp [he]) x.length (by omega);have h2:=BP (f:=iV (· == ·)) (a:=a) (b:=b) (j:=i+1) (by rw [h1];simp [iV,h4]) a.length (by omega);rw [sQ,iV,h2];simp
    ·simp at he;refine y_ ?_;refine vI 6 j ?_;refine u_ (jh (j+1) ⟨by omega,by rw [h3];simp [hj.2,he]⟩ (by omega))
   ·simp at hc;have hjl:j=x.length:=by omega
    have h4:=hj.2;rw [hjl] at h4;refine y_ ?_;refine vI 5 i ?_;refine u_ (ih (i+1) ⟨by omega,by rw [h1,hi.2,iV,h4,decide_eq_true hxy];rfl⟩ (by omega))
 ·simp at hc;have:i=a.length:=by omega
  subst this;have h2:=hi.2;refine y_ ?_;refine R_ ?_;refine Sb.eq (aA ?_);rw [sQ,iV,h2,decide_eq_true hlen];rfl
theorem alike_refl{α:Type}{f:α->α->Bool}(hf: ∀x,f x x=true)(a:List α):iV f a a=true:=by
 unfold iV allEq;simp only [decide_true,ac2,ae5];intro k _;cases a[k]? with
 |none=>rfl |some x=>exact hf x
theorem TB(a:List (List Int)):sQ a a=true:=alike_refl (fun x=>alike_refl (fun y=>by simp) x) a
theorem TP(l:List KV)(ch:List Int)(q:PR)(pr:List Int)(hb:l.length<=281474976710656)(hs:dI l=false):Pure prog aU 26 [eU ⟨l,ch,q,pr⟩] vC:=by
 have hp:=LF l hb;rw [hs] at hp;refine P_ func26 31 fun _ _ _ _=>?_
 (refine b_ fun bx=>?_;refine y_ ?_);exact oR (hp)
theorem YN(l:List KV)(ch:List Int)(q:PR)(pr:List Int)(hs:dI l=true):
 fB prog aU 26 [eU ⟨l,ch,q,pr⟩] [] (fun p:Value×List (Value×List Int)=> .ms p.1 1 l.length) (fun p=>[.rows 1 (bU p.2), .row 1 p.1 (oW 1 (bU p.2))]) (fun p=>p.2.map al4=fP l):=by
 have hs0:=hs;unfold dI at hs0;simp at hs0;have hp:=LF l (by omega);rw [hs] at hp;have hl:((l.map mY).length:Int)=l.length:=by rw [aa0]
 unfold fB;refine jB.of (S:=tt) (fn:=f26) (n:=31) dE func26 T T T T fun w0 h0 F hgs=>?_
 (refine b_ fun bx=>?_;refine y_ ?_);refine c_ (hp) ?_
 refine A.aa 12 T (x':=AI (l.length:Nat)) (aL hl) ?_;refine A.make T T T T T T T T T T T T (by omega) ?_ (by omega) fun zo=>?_
 ·show ((24:Nat):Int)*_<=_;omega
 refine y_ ?_;refine A.aa 3 T (x':= .ms zo 1 l.length) (by rw [ac7];rfl) ?_;refine A.aa 16 T (x':=AI (l.length:Nat)) (aL hl) ?_;refine A.af [3,15,16,17] T ?_;refine l_ (Λ':=[.row 1 zo (List.replicate (l.length:Int).toNat vC)]) ?_;refine A.ab (Λ':=[.row 1 zo (List.replicate l.length vC)]) (by rw [ac7]) ?_;refine A.gu 1 ?_
 refine A.ae (ι:=List (Value×List Int)) (fun hs=>(⟨[(3, .ms zo 1 l.length),(15,jA l),(16,AI (l.length:Nat)),(17,AI (hs.length:Nat))],[]⟩,[.rows 1 (bU hs), .row 1 zo (oW 1 (bU hs)++List.replicate (l.length-hs.length) vC)]))
  (fun hs=>hs.map al4=(fP l).take hs.length/\hs.length<=l.length) (fun hs=>l.length-hs.length) [] ⟨rfl,aa4 _⟩ T fun hs hi ih=>?_
 refine y_ ?_;refine k_ (fun hc=>?_) fun hc=>?_
 ·simp at hc;refine aX hc fun v hv=>?_;have hvm:=hs0.2 v (aa2 hv);simp [dM] at hvm;have hlo:1<=eP v/\eP v<=64:=by unfold eP;split<;>omega
  refine y_ ?_;refine j_ T (aC hv) T ?_
  (refine b_ fun bx=>?_;refine y_ ?_)
  refine A.aa 26 T (x':=AI (eP v)) (aL (by unfold eP;split<;>split<;>omega)) ?_;refine A.make T T T T T T T T T T T T (by omega) ?_ (by omega) fun z=>?_
  ·show ((4:Nat):Int)*_<=_;omega
  refine A.ah T T T T T T T T (by omega) (by rw [aa1,jG,ag6];omega) T ?_;have hrl:(List.replicate (eP v).toNat (0:Int)).length=(eP v).toNat:=ag6;refine A.aa 27 T (x':= .ms z 1 (List.replicate (eP v).toNat (0:Int)).length) (by rw [hrl];rfl) ?_;refine l_ (Λ':=[.row 1 z (List.replicate (eP v).toNat (aN 0)), .rows 1 (bU hs), .row 1 zo (oW 1 (bU hs)++List.replicate (l.length-hs.length) vC)]) ?_;refine A.ab (Λ':=[.row 1 z ((List.replicate (eP v).toNat (0:Int)).map aN), .rows 1 (bU hs), .row 1 zo (oW 1 (bU hs)++List.replicate (l.length-hs.length) vC)]) (by rw [al6]) ?_;refine A.bq T T T T T T T T T ?_ (xs':=oW 1 (bU (hs++[(z,List.replicate (eP v).toNat 0)]))++List.replicate (l.length-(hs++[(z,List.replicate (eP v).toNat (0:Int))]).length) vC) ?_ ?_
  ·rw [aa1,jG,ag6];omega
  ·have:=P6 hs z (List.replicate (eP v).toNat 0) (l.length-(hs++[(z,List.replicate (eP v).toNat (0:Int))]).length);rw [show l.length-hs.length=l.length-(hs++[(z,List.replicate (eP v).toNat (0:Int))]).length+1 by simp;omega];exact this
  refine A.fp (.refl _) ?_;refine y_ ?_;refine A.aa 17 T (x':=AI (((hs++[(z,List.replicate (eP v).toNat (0:Int))]).length:Nat):Int)) ?_ ?_
  ·rw [qR hs.length (by omega)];simp
  refine A.ab (Λ':=[.rows 1 (bU (hs++[(z,List.replicate (eP v).toNat (0:Int))])), .row 1 zo (oW 1 (bU (hs++[(z,List.replicate (eP v).toNat (0:Int))]))++List.replicate (l.length-(hs++[(z,List.replicate (eP v).toNat (0:Int))]).length) vC)]) (by simp [bU]) ?_;refine u_ (ih (hs++[(z,List.replicate (eP v).toNat 0)]) ⟨?_,by simp;omega⟩ (by simp;omega));simp [hi.1,fP,ac9,hv]
 ·simp at hc;have hlen:hs.length=l.length:=by omega
  have hsnd:hs.map al4=fP l:=by rw [hi.1,hlen];exact aa6 (by rw [fP,aa0];exact ab3 _)
  refine A.ab (Λ':=[.rows 1 (bU hs), .row 1 zo (oW 1 (bU hs))]) (by rw [hlen,Nat.sub_self];simp) ?_;refine y_ ?_;refine A.au (Λ':=[.rows 1 (bU hs), .row 1 zo (oW 1 (bU hs))]) T T T rF ⟨(zo,hs), .refl,rfl,hsnd⟩
theorem TN(l:List KV)(ch:List Int)(q:PR)(pr:List Int)(hb:l.length<=281474976710656):Pure prog aU 26 [eU ⟨l,ch,q,pr⟩] (aF (kH l)):=by
 cases h:dI l with
 |true=>rw [kH,h,iT T];exact yZ (YN l ch q pr h) |false=>
  have:=TP l ch q pr hb h;rw [kH,h];exact fun w0 h vs L F g r q=>(this w0 h vs L F g r q).mono fun _ _ _ ⟨x,Λ',L1,⟨e1,e1'⟩,e2,e3⟩=>⟨aF [],Λ',L1,⟨rfl,e1'⟩,by subst e1;exact Sb.nil.rp e2,e3⟩
theorem SX(l:List KV)(ch:List Int)(q:PR)(pr:List Int)(hb:l.length<=281474976710656):Pure prog aU 28 [eU ⟨l,ch,q,pr⟩] (aF (kH l)):=by
 have hp:=X9 l hb;have hl:((l.map mY).length:Int)=l.length:=by rw [aa0]
 cases hs:dI l with
 |false=>
  rw [kH,hs];rw [hs] at hp;refine P_ func28 27 fun _ _ _ _=>?_
  (refine b_ fun bx=>?_;refine y_ ?_);refine c_ (hp) ?_;refine R_ ?_;exact .nil
 |true=>
  have hs0:=hs;unfold dI at hs0;simp at hs0;rw [hs] at hp;have hst:kH l=fP l:=by rw [kH,hs,iT T]
  rw [hst];refine P_ func28 27 fun _ _ _ _=>?_
  (refine b_ fun bx=>?_;refine y_ ?_);refine n_ (hp) ?_
  refine A.freeze 1 T (sz:=11) T T ?_;refine y_ ?_;refine A.ie 3 1 T ?_;refine A.af [1,3,4] T ?_;refine A.ae (ι:=Nat×Value) (fun p=>(⟨[(1, .pe 11 (eU ⟨l,ch,q,pr⟩)),(3, .sl 1 (((fP l).take p.1).map jU) (some p.2)),(4,AI (p.1:Nat))],[]⟩,[.tail 1 p.2])) (fun p=>p.1<=l.length) (fun p=>l.length-p.1) (0, .slice none 0 0) (aa4 _) T fun p hi ih=>?_;refine y_ ?_;refine k_ (fun hc=>?_) fun hc=>?_
  ·simp at hc;refine ab4 (bT (l:=l) (i:=p.1) (by omega)) fun v hv=>?_;have hvm:=hs0.2 v (aa2 hv);simp [dM] at hvm;have hlo:1<=eP v/\eP v<=64:=by unfold eP;split<;>omega
   refine y_ ?_;refine i_ T (aC hv) T ?_;refine n_ (long_p v) ?_;refine A.aa 22 T (x':=AI (eP v)) (aL (by unfold eP;split<;>split<;>omega)) ?_;refine A.make T T T T T T T T T T T T (by omega) ?_ (by omega) fun z=>?_
   ·show ((4:Nat):Int)*_<=_;omega
   refine A.ar 23 T ?_;refine A.aa 23 T (x':=jU (List.replicate (eP v).toNat 0)) (by rw [jU,al6];rfl) ?_;refine t_ fun bl=>?_;have hln:(((fP l).take p.1).map jU).length<=256:=by rw [aa0,ac1,fP,aa0];omega
   refine A.ab (Λ':=[.tail ty56.size p.2]) T ?_;refine A.append T T T T T T T T T T T T T T (by show ((List.map jU _).length+1)*1<=_;omega) fun z'=>?_;refine e_ 25 T (x':= .sl 1 (((fP l).take (p.1+1)).map jU) (some z')) (by rw [<-TL hv];rfl) ?_;refine A.aa 4 T (x':=AI ((p.1+1:Nat):Int)) (qR p.1 (by omega)) ?_;refine u_ (ih (p.1+1,z') (by show p.1+1<=_;omega) (by show l.length-(p.1+1)<_;omega))
  ·simp at hc;have:p.1=l.length:=by omega
   refine y_ ?_;refine R_ ?_;refine Sb.own ?_;rw [this,aa6 (by rw [fP,aa0];exact ab3 _)];exact .refl
section
variable{V:List KV}{C:List Int}
theorem QO: ∀{l:List GD},(∀g,g∈l->smG g)->AW l
 | [],_=>by rw [AW];trivial |y::r,h=>by rw [AW];exact ⟨h y (.head _),QO fun x hx=>h x (.tail _ hx)⟩
theorem Q0: ∀{l:List GD},(∀g,g∈l->ZG g)->AY l
 | [],_=>by rw [AY];trivial |y::r,h=>by rw [AY];exact ⟨h y (.head _),Q0 fun x hx=>h x (.tail _ hx)⟩
theorem IM: ∀{l:List PR},(∀x,x∈l->xQ x)->zE l
 | [],_=>by rw [zE];trivial |y::r,h=>by rw [zE];exact ⟨h y (.head _),IM fun x hx=>h x (.tail _ hx)⟩
theorem QS: ∀{l:List PR},(∀x,x∈l->tgR x)->YS l
 | [],_=>by rw [YS];trivial |y::r,h=>by rw [YS];exact ⟨h y (.head _),QS fun x hx=>h x (.tail _ hx)⟩
theorem C6: ∀(m:Nat) (p:PR) (n hi:Bool),SizeOf.sizeOf p<=m->okF (Loc V C) n hi p->xQ p/\sS p/\tgR p
 |0,p,_,_,h,_=>by obtain ⟨k,c,v,i,to,e,gs,l⟩:=p;simp only [PR.mk.sizeOf_spec] at h;omega
 |m+1,p,n,hi,hm,w=>by
  rw [okF_eq] at w;obtain ⟨⟨w1,w2,w3⟩,w4,w5⟩:=w;obtain ⟨l1,l2,l3,l4⟩:=w1.lens;have hb:=w1.body;have hL: ∀x,x∈p.l->xQ x/\sS x/\tgR x:=fun x hx=>by obtain ⟨a,b,hw⟩:=kN w4 hx;exact C6 m x a b (by have:=DG hx;omega) hw
  have hG: ∀g,g∈p.gs-> ∀x,x∈g.body->xQ x/\sS x/\tgR x:=fun g hg x hx=>by have h1:=nZ w5 g hg;rw [qT] at h1;obtain ⟨a,b,hw⟩:=kN h1 hx;exact C6 m x a b (by have:=CG hg;have:=BV hx;omega) hw
  have hgl: ∀g,g∈p.gs->g.body.length=1:=fun g hg=>by obtain ⟨y,hy⟩:=hb g hg;rw [hy];rfl
  have hto:=w1.to;have he:=w1.e;have hgs:=w1.gs;obtain ⟨k,c,v,i,to,e,gs,l⟩:=p;have l1:to.length<=8:=l1;have l2:e.length<=8:=l2;have l3:gs.length<=16:=l3;have l4:l.length<=2048:=l4;rw [xQ,sS,tgR]
  refine ⟨⟨⟨fun t ht=>(hto t ht).1,Q3 fun x hx=>(he x hx).1,by omega,by omega,by omega⟩,Q0 fun g hg=>?_,IM fun x hx=>(hL x hx).1⟩,
   ⟨⟨fun t ht=>(hto t ht).2,fun x hx=>(he x hx).2,by omega,by omega,by omega,by omega⟩,QO fun g hg=>?_,IC fun x hx=>(hL x hx).2.1⟩,by omega,QS fun x hx=>(hL x hx).2.2⟩
  ·have h1:=hgs g hg;have h2:=hG g hg;obtain ⟨k',e',c',i',to',t',b'⟩:=g;rw [ZG];exact ⟨⟨h1.1.1,h1.2.1.1,h1.2.2.1⟩,IM fun x hx=>(h2 x hx).1⟩
  ·have h1:=hgs g hg;have h2:=hG g hg;have h3:=hgl g hg;obtain ⟨k',e',c',i',to',t',b'⟩:=g;have h3:b'.length=1:=h3;rw [smG];exact ⟨⟨h1.1.2,h1.2.1.2,h1.2.2.2,by omega⟩,IC fun x hx=>(h2 x hx).2.1⟩
theorem NA{p:PR}{n hi:Bool}(w:okF (Loc V C) n hi p):xQ p/\sS p/\tgR p:=C6 _ p n hi (ab3 _) w
end
structure ST where
 store:List (List Int)
 root:PR
 inn:List Int
 time:Int
theorem a0w{k:KN}(h:lU k=true):KOk k.vars k.chans:=by unfold lU lA at h;simp only [aa3,dT] at h;obtain ⟨⟨⟨⟨⟨⟨⟨a,b⟩,c⟩,_⟩,_⟩,d⟩,e⟩,_⟩:=h;exact ⟨a,b,c,d,e⟩
theorem wP{k:KN}(h:lU k=true):dU k.vars k.chans.length false k.root 2048 32:=by unfold lU at h;simp only [aa3,dT] at h;exact h.2
theorem KOk.jb{V:List KV}{C:List Int}(h:KOk V C):dI V=true:=by
 unfold dI;have h1:=h.var;have h2:=h.vl;rw [ae5] at h1;simp only [aa3,dT,aj7,ar3];refine ⟨h2,fun v hv=>?_⟩;have:=h1 v hv;simp only [mU,lD,aa3,dT] at this;have h3:dM v=true:=by simp only [dM,aa3,al8,beq_iff_eq,dT];omega
 rw [h3];decide
theorem C1{l:List KV}{s:List (List Int)}(h:AQ l s=true):s.length<=256/\ ∀r,r∈s->r.length<=64:=by
 unfold AQ dI at h;simp only [aa3,dT,aj7,ar3] at h;obtain ⟨⟨h1,h2,h3⟩,h4⟩:=h;refine ⟨by omega,fun r hr=>?_⟩;obtain ⟨i,hi,rfl⟩:=List.getElem_of_mem hr;have hi':i<l.length:=by omega
 have h5:=(ae5.1 h4) i (ah5.2 hi');rw [aa7 hi',aa7 hi] at h5;have h6:dM l[i]=true:=by have:=h3 l[i] (List.getElem_mem hi');simpa using this
 simp only [dM,vA,eP,aa3,dT,beq_iff_eq] at h5 h6;have h7:=h5.1;split at h7<;>omega
def rR(st:List (List Int))(v:Int)(n:Nat):List (List Int):=(List.range n).foldl (fun st i=>iK st v (i:Nat) 0) st
def Small(st:List (List Int)):Prop:=st.length<=256/\ ∀r,r∈st->r.length<=64
theorem Small.put_p{st:List (List Int)}(h:Small st)(v i x:Int):Pure prog aU 17 [aF st,AI v,AI i,aN x] (aF (iK st v i x)):=Put_p st v i x (by have:=h.1;omega) fun r hr=>by have:=h.2 r hr;omega
section
variable{V:List KV}{C:List Int}
end
theorem zM(st:List (List Int))(v:Int)(n:Nat):rR st v (n+1)=iK (rR st v n) v (n:Nat) 0:=by unfold rR;rw [List.range_succ,af2];rfl
section
variable{K:AC}{k:List It}{E:aO}{Λ:List aH}
theorem A.da{x:Operand}{ps:Array Tmp}{assign body:Code}{g:FuncId}{cap cap':List AV}{xss:List (List AV)}(hx:E.ev K.gs [] x=some (.fn g [] cap'))(hs:oO cap' cap)(it:Iter K.P K.S K.ok K.gs g cap xss)(hrd:K.rd=none)
 (hb:pS K.n ps.toList=true) (hlen: ∀xs,xs∈xss->Nat.beq (sD xs) ps.toList.length=true) (Inv:Nat->List aH->Prop) (Stop:LoopState->Option Code->List aH->Prop) (h0:Inv 0 Λ)
 (rounds: ∀(h0':GH) (lp:Nat) (LR:Loop),K.h0.le h0'-> ∀i xs Λi (h1:GH) (hg1:mI h1 K.gs) (F:List bV),xss[i]? =some xs->Inv i Λi->h0'.le h1->
   A ⟨K.P,K.S,K.w0,K.f,K.fn,K.n,K.ok,K.hfn,h1,F,K.gs,hg1,fun y Λ'=>
       (y= .v (.bool true)/\ ∃Λ'',Λ'= .loop lp LR .ready none::Λ''/\Inv (i+1) Λ'')\/(y= .v (.bool false)/\ ∃st pd Λ'',st≠ .busy/\Λ'= .loop lp LR st pd::Λ''/\Stop st pd Λ''),[],some lp⟩
     [.code assign, .begin, .code body] ⟨D4 ps.toList xs E.us,[]⟩ (.loop lp LR .ready none::Λi))
 (fin: ∀(h1:GH) (hg1:mI h1 K.gs) (r:Nat) Λ',K.h0.le h1->Inv xss.length Λ'->A ⟨K.P,K.S,K.w0,K.f,K.fn,K.n,K.ok,K.hfn,h1,K.F,K.gs,hg1,K.Q,r::K.D,none⟩ k E Λ')
 (stop: ∀(h1:GH) (hg1:mI h1 K.gs) (r:Nat) st pd Λ',K.h0.le h1->st≠ .busy->Stop st pd Λ'->A ⟨K.P,K.S,K.w0,K.f,K.fn,K.n,K.ok,K.hfn,h1,K.F,K.gs,hg1,K.Q,r::K.D,none⟩ (oU pd++k) E Λ'):
 A K (.code (.rangeFunc x ps assign body)::k) E Λ:=
 A.gd hx hs it hrd hb hlen Inv Stop h0 (fun h0' lp tm hl i xs Λi h1 hg1 F hxs hi hl1=>rounds h0' lp _ hl i xs Λi h1 hg1 F hxs hi hl1) fin stop
end
def kindOk(kind x:Int):Prop:=(kind=2->0<=x/\x<=255)/\(kind=3->x=0\/x=1)
theorem sB{k x:Int}(h:gO k x=true):kindOk k x:=by
 unfold gO at h;constructor
 ·intro hk;subst hk;simp at h;exact h
 ·intro hk;subst hk;simp at h;exact h
theorem HK(k:Int)(b:Bool)(hk:k=3):kindOk k (fA b):=⟨fun h=>by omega,fun _=>by cases b<;>simp [fA]⟩
theorem CT(x:Int):kindOk 1 x:=⟨fun h=>by omega,fun h=>by omega⟩
def JR(l:List KV)(s:List (List Int)):Prop:= ∀(i:Nat) (v:KV) (r:List Int),l[i]? =some v->s[i]? =some r-> ∀x,x∈r->gO v.kind x=true
theorem I8{l:List KV}{s:List (List Int)}(hg:JR l s){v i x:Int}{y:KV}(hy:l[v.toNat]? =some y)(hx:mT s v i=some x):gO y.kind x=true:=by
 unfold mT at hx;split at hx
 ·cases hx
 ·cases hr:s[v.toNat]? with
  |none=>rw [hr] at hx;cases hx |some r=>rw [hr] at hx;exact hg _ y r hy hr x (aa2 hx)
theorem MR{l:List KV}{s:List (List Int)}(hg:JR l s){e:KE}(hf:mM e=true){kind x:Int}(hk:aD l e kind=true)(hx:cS s e=some x):kindOk kind x:=by
 rcases lR hf with ⟨n,rfl⟩|⟨v,h1,h2,rfl⟩|⟨v,a,h1,h2,h3,rfl⟩|⟨o,a,h1,h2,h3,rfl⟩|⟨o,a,b,h1,h2,h3,h4,rfl⟩|⟨t,a,h1,h2,h3,rfl⟩
 ·simp [aD,cN,eI] at hk;simp [cS,fD,fJ] at hx;subst hx;exact ⟨fun h=>by omega,fun h=>by omega⟩
 ·simp only [aD,cN,eI] at hk;simp [cS,fD,fJ] at hx;rw [iF (by decide),iT trivial] at hk;split at hk
  ·rename_i y hy;simp at hk;rw [<-hk.2];exact sB (I8 hg hy hx)
  ·cases hk
 ·simp only [aD,cN,eI] at hk;rw [iF (by decide),iF (by decide),iT trivial] at hk;split at hk
  ·rename_i y _ _ hy _;simp at hk;simp only [cS,fD,fJ] at hx;cases ha:cS s a with
   |none=>rw [ha] at hx;simp at hx |some z=>
    rw [ha] at hx;simp at hx;rw [<-hk.1.2];exact sB (I8 hg hy hx)
  ·cases hk
 ·simp only [aD,cN,eI] at hk;rw [iF (by decide),iF (by decide),iF (by decide)] at hk;simp at hk;simp only [cS,fD,fJ] at hx;cases ha:cS s a with
  |none=>rw [ha] at hx;simp at hx |some z=>
   rw [ha] at hx;simp at hx;split at hk
   ·rename_i ho;subst ho;simp [gN] at hx;rw [<-hx.2];exact HK _ _ hk.1
   ·rw [hk.1];exact CT x
 ·simp only [aD,cN,eI] at hk;rw [iF (by decide),iF (by decide),iF (by decide)] at hk;simp only [cS,fD,fJ] at hx;cases ha:cS s a with
  |none=>rw [ha] at hx;simp at hx |some z=>
   rw [ha] at hx;simp at hx;simp at hk;split at hk
   ·rw [hk.1];exact CT x
   ·rename_i ho;have hk3:kind=3:=by
     by_cases h:kind=3
     ·exact h
     ·simp [h] at hk
    subst hk3;refine ⟨fun h=>by omega,fun _=>?_⟩;split at hx
    ·rename_i hsh;simp at hx;subst hx;simp [JZ] at hsh;omega
    ·cases hb:cS s b with
     |none=>rw [hb] at hx;simp at hx |some w=>
      rw [hb] at hx;simp at hx;have ho':o=14\/o=15\/o=16\/o=17\/o=18\/o=19\/o=20\/o=21\/o=22:=by omega
      have ht: ∀c:Bool,fA c=0\/fA c=1:=fun c=>by cases c<;>simp [fA]
      rcases ho' with rfl|rfl|rfl|rfl|rfl|rfl|rfl|rfl|rfl<;>simp [gN] at hx
      ·rw [<-hx];exact ht _
      ·rw [<-hx];exact ht _
      ·rw [<-hx];exact ht _
      ·rw [<-hx];exact ht _
      ·rw [<-hx];exact ht _
      ·rw [<-hx];exact ht _
      ·rw [<-hx.2];exact ht _
      ·rw [<-hx.2];exact ht _
      ·rw [<-hx];exact ht _
 ·simp only [aD,cN,eI] at hk;rw [iF (by decide),iF (by decide),iF (by decide)] at hk;simp at hk;simp only [cS,fD,fJ] at hx;cases ha:cS s a with
  |none=>rw [ha] at hx;simp at hx |some z=>
   rw [ha] at hx;simp at hx;rw [FC] at hx;split at hx
   ·rename_i hz;injection hx with hx;subst hx;rw [<-hk.1];exact sB hz
   ·cases hx
theorem J8{l:List KV}{s:List (List Int)}(hs:dI l=true)(hlen:s.length=l.length)(hr: ∀(i:Nat) (v:KV) (r:List Int),l[i]? =some v->s[i]? =some r->(r.length:Int)=eP v)(hg:JR l s):AQ l s=true:=by
 simp only [AQ,hs,hlen,decide_true,ac2,allEq,ae5,ah5];intro i hi;have h2:i<s.length:=by omega
 rw [aa7 hi,aa7 h2];simp only [vA,aa3,beq_iff_eq];refine ⟨hr i _ _ (aa7 hi) (aa7 h2),?_⟩;simp only [aj7,ar3];intro x hx;rw [hg i _ _ (aa7 hi) (aa7 h2) x hx];simp
theorem WU(v:KV):0<eP v:=by unfold eP;split<;>omega
theorem TO(l:List KV):(fP l).length=l.length:=by rw [fP,aa0]
theorem LG{l:List KV}{i:Nat}{v:KV}{r:List Int}(hv:l[i]? =some v)(hr:(fP l)[i]? =some r):r=List.replicate (eP v).toNat 0:=by rw [fP,ab5,hv] at hr;injection hr with hr;exact hr.symm
theorem FG{v:KV}(h:dM v=true):gO v.kind 0=true:=by simp [dM] at h;rcases h.1.1 with (h|h)|h<;>simp [gO,h]
theorem GP{l:List KV}(h:dI l=true){v:KV}(hv:v∈l):dM v=true:=by simp [dI] at h;exact h.2 v hv
theorem N5{l:List KV}(h:dI l=true):JR l (fP l):=fun i v r hv hr x hx=>by rw [LG hv hr] at hx;rw [(List.mem_replicate.1 hx).2];exact FG (GP h (aa2 hv))
theorem SF{l:List KV}(h:dI l=true):AQ l (fP l)=true:=J8 h (TO l) (fun i v r hv hr=>by rw [LG hv hr,ag6];have:=WU v;omega) (N5 h)
structure bI(V:List KV)(st:List (List Int)):Prop where
 may:AQ V st=true
 ws:TX st
theorem qB{V:List KV}{st:List (List Int)}(h:AQ V st=true):dI V=true/\st.length=V.length/\(∀(i:Nat) (v:KV) (r:List Int),V[i]? =some v->st[i]? =some r->(r.length:Int)=eP v)/\JR V st:=by
 simp only [AQ,aa3,dT,allEq,ae5,ah5] at h;obtain ⟨⟨h1,h2⟩,h3⟩:=h;have hm: ∀(i:Nat) (v:KV) (r:List Int),V[i]? =some v->st[i]? =some r->vA v r=true:=fun i v r hv hr=>by have:=h3 i (UL hv);rw [hv,hr] at this;exact this
 refine ⟨h2,h1,fun i v r hv hr=>?_,fun i v r hv hr x hx=>?_⟩
 ·have:=hm i v r hv hr;simp only [vA,aa3,beq_iff_eq] at this;exact this.1
 ·have:=hm i v r hv hr;simp only [vA,aa3,aj7,ar3] at this;have:=this.2 x hx;simpa using this
theorem bI.put{V:List KV}{st:List (List Int)}(h:bI V st){v i x:Int}(hx:i32 x)(hk: ∀y,V[v.toNat]? =some y->gO y.kind x=true):bI V (iK st v i x):=by
 obtain ⟨h1,h2,h3,h4⟩:=qB h.may;unfold iK
 by_cases ha:(mT st v i).isSome=true
 ·rw [iT ha];cases hr:st[v.toNat]? with
  |none=>exact h |some r=>
   show bI V (st.set v.toNat (r.set i.toNat x));have hin: ∀z,z∈r.set i.toNat x->z∈r\/z=x:=fun z hz=>aq2 hz;refine ⟨J8 h1 (by show (st.set _ _).length=_;rw [ak6];exact h2) (fun j y q hy hq=>?_) (fun j y q hy hq z hz=>?_),fun q hq z hz=>?_⟩
   ·replace hq:(st.set v.toNat (r.set i.toNat x))[j]? =some q:=hq;rw [ah0] at hq;split at hq
    ·rename_i hj;subst hj;split at hq
     ·injection hq with hq;rw [<-hq,ak6];exact h3 _ y r hy hr
     ·cases hq
    ·exact h3 j y q hy hq
   ·replace hq:(st.set v.toNat (r.set i.toNat x))[j]? =some q:=hq;rw [ah0] at hq;split at hq
    ·rename_i hj;subst hj;split at hq
     ·injection hq with hq;rw [<-hq] at hz;rcases hin z hz with hz|rfl
      ·exact h4 _ y r hy hr z hz
      ·exact hk y hy
     ·cases hq
    ·exact h4 j y q hy hq z hz
   ·replace hq:q∈st.set v.toNat (r.set i.toNat x):=hq;rcases aq2 hq with hq|hq
    ·exact h.ws q hq z hz
    ·rw [hq] at hz;rcases hin z hz with hz|rfl
     ·exact h.ws r (aa2 hr) z hz
     ·exact hx
 ·rw [iF ha];exact h
theorem bI.small{V:List KV}{st:List (List Int)}(h:bI V st):Small st:=C1 h.may
theorem GG{k x:Int}(hk:k=1\/k=2\/k=3)(h:kindOk k x):gO k x=true:=by
 obtain ⟨h2,h3⟩:=h;rcases hk with rfl|rfl|rfl
 ·rfl
 ·have:=h2 T;simp [gO];omega
 ·have:=h3 T;simpa [gO] using this
theorem D7{v:KV}(h:dM v=true):v.kind=1\/v.kind=2\/v.kind=3:=by
 simp [dM] at h;rcases h.1.1 with (h|h)|h
 ·exact .inl h
 ·exact .inr (.inl h)
 ·exact .inr (.inr h)
theorem HZ{st:List (List Int)}{v:Int}{ix:List KE}{p:Int×Int}(h:fU st v ix=some p):p.1=v:=by
 match ix,h with
 | [],h=>
   rw [fU] at h;split at h
   ·injection h with h;rw [<-h]
   ·cases h
 | [e],h=>
   rw [fU] at h;split at h
   ·split at h
    ·injection h with h;rw [<-h]
    ·cases h
   ·cases h
theorem SS{V:List KV}{t:PL}{k:Int}(h:eD V t k=true): ∀y,V[t.v.toNat]? =some y->y.kind=k:=fun y hy=>by
 unfold eD at h;split at h
 ·cases h
 ·rw [hy] at h;simp only [aa3,beq_iff_eq] at h;exact h.1
theorem vM{V:List KV}{st:List (List Int)}(hs:bI V st){e:KE}{k x:Int}(hf:kP V e k=true)(hv:bH st e=some x):kindOk k x:=by obtain ⟨h1,h2,h3,h4⟩:=qB hs.may;unfold kP at hf;simp only [aa3,dT] at hf;unfold bH at hv;rw [iT hf.1] at hv;exact MR h4 hf.1.1 hf.2 hv
theorem LO{V:List KV}{st:List (List Int)}(hs:bI V st){e:KE}{x:Int}(hw:l5 e)(hv:bH st e=some x):i32 x:=zA hs.ws hw x hv
section
variable{V:List KV}{C:List Int}
theorem VW{st:List (List Int)}(h:bI V st){v:KV}{i:Nat}(hv:V[i]? =some v):dM v=true:=GP (qB h.may).1 (aa2 hv)
theorem rS{st:List (List Int)}(h:bI V st)(v:Int): ∀n,bI V (rR st v n)
 |0=>h |n+1=>by rw [zM];exact (rS h v n).put (by unfold i32;omega) fun y hy=>FG (VW h hy)
theorem VZ{g:GD}{b:Bool}(h:fH V C.length g b=true)(h3:g.kind=3):fO V C.length g.c g.item g.to=true:=by unfold fH at h;rw [iF (by omega),iT h3] at h;simp only [aa3] at h;exact h.2.2
end
theorem fitb8{v:Int}(hv:i32 v):(v==IntKind.i32.wrap (IntKind.u8.wrap v))=(decide (0<=v)&&decide (v<=255)):=by
 unfold i32 at hv;have h8:IntKind.u8.wrap v=v % 256:=by unfold IntKind.wrap;rfl
 rw [h8,gH,ac8];simp only [beq_iff_eq,aa3,dT];omega
theorem fitb1{v:Int}(hv:i32 v):(bitsOf BinOp.or IntKind.i32 v 1==1)=(v==0||v==1):=by
 unfold i32 at hv;rw [ac8];simp only [beq_iff_eq,al8];show IntKind.i32.wrap ((BitVec.ofInt 32 v|||BitVec.ofInt 32 1).toNat:Int)=1↔_;have h1:(BitVec.ofInt 32 1).toNat=1:=by decide
 have h2:((BitVec.ofInt 32 v).toNat:Int)=v % 4294967296:=by
  rw [BitVec.toNat_ofInt];have:(0:Int)<=v % 4294967296:=by omega
  show (((v % ((2^32:Nat):Int)).toNat:Nat):Int)=_;rw [show ((2^32:Nat):Int)=4294967296 by decide,Int.toNat_of_nonneg this]
 have h3:(BitVec.ofInt 32 v|||BitVec.ofInt 32 1).toNat=(BitVec.ofInt 32 v).toNat|||1:=by rw [BitVec.toNat_or,h1]
 have h4:=(BitVec.ofInt 32 v|||BitVec.ofInt 32 1).isLt;have h5:(BitVec.ofInt 32 v).toNat<=(BitVec.ofInt 32 v).toNat|||1:=Nat.left_le_or;rw [h3] at h4⊢;constructor
 ·intro h;rw [gH] at h;have h6:(BitVec.ofInt 32 v).toNat|||1=1:=by omega
  rw [h6] at h5;omega
 ·rintro (h|h)<;>subst h<;>decide
theorem a0g(t v:Int)(hv:i32 v):Pure prog aU 83 [cC t,aN v] (AB (gO t v)):=by
 refine P_ func83 20 fun _ _ _ _=>?_;refine y_ ?_;refine k_ (fun hc=>?_) fun hc=>?_
 ·refine y_ ?_;refine R_ ?_;refine Sb.eq ?_;simp at hc;subst hc;rw [fitb8 hv];rfl
 ·refine y_ ?_;refine k_ (fun hd=>?_) fun hd=>?_
  ·refine y_ ?_;refine R_ ?_;refine Sb.eq ?_;simp at hc hd;subst hd;rw [fitb1 hv];rfl
  ·refine y_ ?_;refine R_ ?_;refine Sb.eq ?_;simp at hc hd;simp [gO,hc,hd]
theorem C2{k:KN}(h:lU k=true):dI k.vars=true:=KOk.jb (C:=k.chans) (a0w h)
theorem TM{k:KN}(h:lU k=true):kH k.vars=fP k.vars:=by unfold kH;rw [iT (C2 h)]
theorem YM{V:List KV}(h:dI V=true):bI V (fP V):=⟨SF h,fun r hr x hx=>by unfold fP at hr;rw [List.mem_map] at hr;obtain ⟨v,_,rfl⟩:=hr;rw [List.eq_of_mem_replicate hx];unfold i32;omega⟩
theorem vK{k:KN}(h:lU k=true)(hw:ZL k)(hs:sS k.root):okF (Loc k.vars k.chans) true false k.root:=by obtain ⟨h1,h2,h3⟩:=wP h;exact SJ h1 (by omega) hw.root hs
end Go.Proofs.YtenkjmjejhhdjaaGreat
namespace Go.Proofs.YtenkjmjejhhdjaaGreat
mutual
def dZ:PR->Bool
 |⟨k,_,_,_,_,_,gs,l⟩=> !(k==7||k==8)&&(IK l&&GS gs)
def IK:List PR->Bool
 | []=>true |p::r=>dZ p&&IK r
def untG:GD->Bool
 |⟨k,_,_,_,_,_,b⟩=> !(k==4)&&IK b
def GS:List GD->Bool
 | []=>true |g::r=>untG g&&GS r
end
theorem untR_eq(p:PR):dZ p=(!(p.kind==7||p.kind==8)&&(IK p.l&&GS p.gs)):=by obtain ⟨k,c,v,i,to,e,gs,l⟩:=p;rw [dZ]
theorem IJ(g:GD):untG g=(!(g.kind==4)&&IK g.body):=by obtain ⟨k,e,c,i,to,t,b⟩:=g;rw [untG]
theorem oF: ∀{l:List PR},IK l=true↔ ∀x,x∈l->dZ x=true
 | []=>by simp [IK] |p::r=>by rw [IK,aa3,oF];simp
theorem GU: ∀{l:List GD},GS l=true↔ ∀g,g∈l->untG g=true
 | []=>by simp [GS] |p::r=>by rw [GS,aa3,GU];simp
structure UT(p:PR):Prop where
 k7:p.kind≠7
 k8:p.kind≠8
 gs: ∀g,g∈p.gs->g.kind≠4
theorem nH{p:PR}:dZ p=true↔UT p/\(∀x,x∈p.l->dZ x=true)/\ ∀g,g∈p.gs->IK g.body=true:=by
 rw [untR_eq];simp only [aa3,aj7,Bool.or_eq_false_iff,beq_eq_false_iff_ne,oF,GU];constructor
 ·rintro ⟨⟨h1,h2⟩,h3,h4⟩;refine ⟨⟨h1,h2,fun g hg=>?_⟩,h3,fun g hg=>?_⟩
  ·have:=h4 g hg;rw [IJ] at this;simp at this;exact this.1
  ·have:=h4 g hg;rw [IJ] at this;simp at this;exact oF.1 this.2
 ·rintro ⟨⟨h1,h2,h3⟩,h4,h5⟩;refine ⟨⟨h1,h2⟩,h4,fun g hg=>?_⟩;rw [IJ];have:=h5 g hg;simp [h3 g hg];exact oF.2 this
section
variable{V:List KV}{C:List Int}
def LU(V:List KV)(C:List Int)(p:PR):Prop:=Loc V C p/\UT p
theorem PJ: ∀(m:Nat) (p:PR) (n hi:Bool),SizeOf.sizeOf p<=m->dZ p=true->okF (Loc V C) n hi p->okF (LU V C) n hi p
 |0,p,_,_,h,_,_=>by obtain ⟨k,c,v,i,to,e,gs,l⟩:=p;simp only [PR.mk.sizeOf_spec] at h;omega
 |m+1,p,n,hi,hm,hu,w=>by
  obtain ⟨u1,u2,u3⟩:=nH.1 hu;rw [okF_eq] at w⊢;obtain ⟨⟨w1,w2,w3⟩,w4,w5⟩:=w;have hl: ∀(l:List PR),(∀x,x∈l->SizeOf.sizeOf x<=m/\dZ x=true)-> ∀n0 n1 h0 h1,qU (Loc V C) n0 n1 h0 h1 l->qU (LU V C) n0 n1 h0 h1 l:=by
   intro l
   induction l with
   |nil=>intro _ n0 n1 h0 h1 _;exact NB |cons x r ih=>
    intro hx n0 n1 h0 h1 w;rw [qU] at w⊢;exact ⟨PJ m x n0 h0 (hx x (.head _)).1 (hx x (.head _)).2 w.1,ih (fun y hy=>hx y (.tail _ hy)) _ _ _ _ w.2⟩
  refine ⟨⟨⟨w1,u1⟩,w2,w3⟩,hl p.l (fun x hx=>⟨by have:=DG hx;omega,u2 x hx⟩) _ _ _ _ w4,BB fun g hg=>?_⟩;have:=nZ w5 g hg;rw [qT] at this⊢;exact hl g.body (fun x hx=>⟨by have:=CG hg;have:=BV hx;omega,oF.1 (u3 g hg) x hx⟩) _ _ _ _ this
theorem lu_of{p:PR}{n hi:Bool}(hu:dZ p=true)(w:okF (Loc V C) n hi p):okF (LU V C) n hi p:=PJ _ p n hi (ab3 _) hu w
end
end Go.Proofs.YtenkjmjejhhdjaaGreat
namespace Go.Tp
open Go Go.RowKit
section
variable{K:AC}{k:List It}{E:aO}{Λ:List aH}
end
end Go.Tp
namespace Go.Proofs.YtenkjmjejhhdjaaGreat
open Go Go.Tp
structure WD where
 store:List (List Int)
 inn:List Int
 out:List Int
 steps:Nat
structure FR where
 c:Int
 v:Int
 i:Int
 to:List PL
 e:List KE
 gs:List GD
 rest:List PR
section
variable{w:WD}{p:PR}{fs:List FR}
end
section
variable{V:List KV}{n:Nat}{p:PR}
end
section
variable{k:KN}{w:WD}{p q:PR}{fs:List FR}
end
theorem bl_lt{p x:PR}{g:GD}(hg:g∈p.gs)(h:x∈g.body):SizeOf.sizeOf x<SizeOf.sizeOf p:=by have h1:=CG hg;have h2:=BV h;omega
def tR(f:PR->Int)(n:Int)(x:PR):Int:=IntKind.i64.wrap (n+f x)
def sumS(f:PR->Int)(p:PR):Int:=p.gs.foldl (fun n g=>g.body.foldl (tR f) n) (p.l.foldl (tR f) 1)
theorem rsz_f(p:PR)(hs:sS p)(f:PR->Int)(hl: ∀x,x∈p.l->Pure prog aU 12 [aE x] (AI (f x)))(hg: ∀g,g∈p.gs-> ∀x,x∈g.body->Pure prog aU 12 [aE x] (AI (f x))):
 Pure prog aU 12 [aE p] (AI (sumS f p)):=by
 have hsa:=lF hs;have hll:=hsa.ll;have hgl:=hsa.gl;have n1:((aS p.l).length:Int)=p.l.length:=by rw [bP]
 have n2:((cA p.gs).length:Int)=p.gs.length:=by rw [cL]
 unfold sumS;refine P_ func12 53 fun _ _ _ _=>?_
 (refine b_ fun bx=>?_;refine y_ ?_)
 refine A.freeze 1 (sz:=8) T T T ?_;refine A.af [1,3,4] T ?_;refine A.ae (ι:=Nat) (fun i=>(⟨[(1, .pe 8 (aE p)),(3,AI ((p.l.take i).foldl (tR f) 1)),(4,AI (i:Nat))],[]⟩,[])) (fun i=>i<=p.l.length) (fun i=>p.l.length-i) 0 (aa4 _) T fun i hi ih=>?_;refine y_ ?_;refine k_ (fun hc=>?_) fun hc=>?_
 ·have hc':i<p.l.length:=by have:=hc;simp only [n1,dT] at this;omega
  refine aX hc' fun x hx=>?_;have hsz:=hl x (aa2 hx);have htk:p.l.take (i+1)=p.l.take i++[x]:=by rw [ac9,hx];rfl
  refine y_ ?_;refine i_ T (aV hx) (bC x) ?_;refine c_ hsz ?_;refine A.aa 3 T (x':=AI ((p.l.take (i+1)).foldl (tR f) 1)) (by rw [htk,af2];rfl) ?_;refine vI 4 i ?_;refine u_ (ih (i+1) (by omega) (by omega))
 have hc': ¬i<p.l.length:=by have:=hc;simp only [n1,dF] at this;omega
 have hil:i=p.l.length:=by omega
 refine e_ 3 T (x':=AI (p.l.foldl (tR f) 1)) (by rw [hil,ac4]) ?_;refine A.af [1,3,5] T ?_;refine A.ae (ι:=Nat) (fun j=>(⟨[(1, .pe 8 (aE p)),(3,AI ((p.gs.take j).foldl (fun n g=>g.body.foldl (tR f) n) (p.l.foldl (tR f) 1))),(5,AI (j:Nat))],[]⟩,[])) (fun j=>j<=p.gs.length) (fun j=>p.gs.length-j) 0 (aa4 _) T fun j hj jh=>?_;refine y_ ?_;refine k_ (fun hc=>?_) fun hc=>?_
 ·have hc':j<p.gs.length:=by have:=hc;simp only [n2,dT] at this;omega
  refine aX hc' fun g hgj=>?_;have hgm:=aa2 hgj;have htk:p.gs.take (j+1)=p.gs.take j++[g]:=by rw [ac9,hgj];rfl
  have n3:((aS g.body).length:Int)=g.body.length:=by rw [bP]
  have hbl:=(kC (hsa.g g hgm)).bl;refine eX ((p.gs.take j).foldl (fun n g=>g.body.foldl (tR f) n) (p.l.foldl (tR f) 1)) fun n0 hn0=>?_;refine e_ 3 T (x':=AI n0) (by rw [hn0]) ?_;refine A.af [1,3,5,6] T ?_;refine A.ae (ι:=Nat) (fun t=>(⟨[(1, .pe 8 (aE p)),(3,AI ((g.body.take t).foldl (tR f) n0)),(5,AI (j:Nat)),(6,AI (t:Nat))],[]⟩,[])) (fun t=>t<=g.body.length) (fun t=>g.body.length-t) 0 (aa4 _) T fun t ht th=>?_;refine y_ ?_;refine i_ T (bZ hgj) (cK g) ?_;refine k_ (fun hc=>?_) fun hc=>?_
  ·have hct:t<g.body.length:=by have:=hc;simp only [n3,dT] at this;omega
   refine aX hct fun x hx=>?_;have hsz:=hg g hgm x (aa2 hx);have htk2:g.body.take (t+1)=g.body.take t++[x]:=by rw [ac9,hx];rfl
   refine y_ ?_;refine i_ T (bZ hgj) (cK g) ?_;refine i_ T (aV hx) (bC x) ?_;refine c_ hsz ?_;refine A.aa 3 T (x':=AI ((g.body.take (t+1)).foldl (tR f) n0)) (by rw [htk2,af2];rfl) ?_;refine vI 6 t ?_;refine u_ (th (t+1) (by omega) (by omega))
  have hct: ¬t<g.body.length:=by have:=hc;simp only [n3,dF] at this;omega
  have fN:t=g.body.length:=by omega
  refine e_ 3 T (x':=AI ((p.gs.take (j+1)).foldl (fun n g=>g.body.foldl (tR f) n) (p.l.foldl (tR f) 1))) (by rw [fN,ac4,htk,af2,<-hn0];rfl) ?_;refine vI 5 j ?_;refine u_ (jh (j+1) (by omega) (by omega))
 have hc': ¬j<p.gs.length:=by have:=hc;simp only [n2,dF] at this;omega
 have hjl:j=p.gs.length:=by omega
 rw [hjl,ac4];exact tV
theorem CE: ∀(l:List PR) (n:Int),0<=n->n+(kR l:Nat)<=4294967296->l.foldl (tR fun x=>(oD x:Nat)) n=n+(kR l:Nat)
 | [],n,_,_=>by rw [kR];simp |x::r,n,h0,h=>by
  rw [kR] at h⊢;have e:tR (fun x=>(oD x:Nat)) n x=n+(oD x:Nat):=by show IntKind.i64.wrap (n+((oD x:Nat):Int))=_;exact fR _ (by omega)
  rw [ae2,e,CE r _ (by omega) (by omega)];omega
theorem FH: ∀(l:List GD) (n:Int),0<=n->n+(gG l:Nat)<=4294967296->l.foldl (fun n g=>g.body.foldl (tR fun x=>(oD x:Nat)) n) n=n+(gG l:Nat)
 | [],n,_,_=>by rw [gG];simp |g::r,n,h0,h=>by rw [gG,q7] at h⊢;rw [ae2,CE g.body n h0 (by omega),FH r _ (by omega) (by omega)];omega
theorem YB: ∀(m:Nat) (p:PR),SizeOf.sizeOf p<=m->sS p->oD p<=1000000->Pure prog aU 12 [aE p] (AI (oD p:Nat))
 |0,p,h,_,_=>by obtain ⟨k,c,v,i,to,e,gs,l⟩:=p;simp only [PR.mk.sizeOf_spec] at h;omega
 |m+1,p,h,hw,hz=>by
  have hwa:=lF hw;have e:=y8 p
  have h1:=rsz_f p hw (fun x=>(oD x:Nat)) (fun x hx=>YB m x (by have:=DG hx;omega) (hwa.l x hx) (by have:=D9 hx;omega))
   (fun g hg x hx=>YB m x (by have:=bl_lt hg hx;omega) ((kC (hwa.g g hg)).body x hx) (by have:=xG hg;have:=D9 hx;rw [q7] at*;omega))
  have e2:sumS (fun x=>(oD x:Nat)) p=(oD p:Nat):=by unfold sumS;rw [CE p.l 1 (by omega) (by omega),FH p.gs _ (by omega) (by omega)];omega
  rw [e2] at h1;exact h1
theorem rsz_p{p:PR}(hw:sS p)(hz:oD p<=1000000):Pure prog aU 12 [aE p] (AI (oD p:Nat)):=YB _ p (ab3 _) hw hz
structure EX(k:KN):Prop where
 wf:ZL k
 root:sS k.root
end Go.Proofs.YtenkjmjejhhdjaaGreat
