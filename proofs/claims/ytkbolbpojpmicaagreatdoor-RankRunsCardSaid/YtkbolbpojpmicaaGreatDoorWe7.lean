/-
  Texts R23d R23e Q18a Q18b Q18c Q18d Q18e Q18f Q18g Q14i Q17c Q17d Q18s Q18h P18a P18b Q18i Q18j Q18k. Conditions: as each theorem says.
-/
import Derived.Test.YtkbolbpojpmicaaGreatDoorWe4
import Derived.Test.YtkbolbpojpmicaaGreatDoorWe6
import Derived.Test.YtkbolbpojpmicaaGreatDoorWe3
import Derived.Test.YtkbolbpojpmicaaGreatDoorWe5
set_option linter.unusedVariables false
set_option linter.unusedSimpArgs false
set_option maxRecDepth 100000
set_option maxHeartbeats 4000000
open Go.Proofs.Tryz
open List renaming length_map→aa0,mem_of_getElem?→aa2,mem_cons_self→aa4,mem_singleton→aa3,length_append→aa7,mem_cons→ab0,length_cons→ab1,getElem?_eq_none→ab4,getElem?_map→ab9,mem_map→ac1,length_take→ac3,take_length→ac4,all_eq_true→ac5,take_add_one→ac6,map_cons→ac8,drop_length→ad2,length_replicate→ad4,nil_sublist→ae1,map_append→ae2,take_append_drop→ae7,map_nil→ag7,map_congr_left→ag8,nil_append→ah8,map_map→ai1,sizeOf_lt_of_mem→ai2,all_cons→ai4,replicate_succ→ai7,set_cons_zero→aj0,all_append→ak9,set_append_right→al0,length_pos_iff→am1,all_nil→ao6,set_cons_succ→ap2
open Bool renaming and_eq_true→aa1,true_and→ab3,false_and→ae4
open Nat renaming le_refl→aa6,zero_le→ac0,lt_or_ge→ad7,mul_le_mul_right→af5,sub_self→ah9,succ_mul→aj3,mul_add→am6,min_le_right→an8,min→ao0,mul_one→ao1,mod_eq_of_lt→ap7
open Exists renaming elim→ac7
open Int renaming toNat_natCast→ad9,natCast_add→as7,sub_zero→au0,zero_add→au1,one_mul→au3
namespace Go.Proofs.YtkbolbpojpmicaaGreatDoor
open Go Go.Tp
def EC(l:List KV)(t:PL):Bool:=match t.ix with
 | []=>true |e::_=>e.kind==1&&decide (0<=e.n)&&(match l[t.v.toNat]? with
  |some y=>decide (e.n<y.dim) |none=>false)
def oG(l:List KV)(p:PR):Bool:=if p.kind=6 then (match p.e with
 |e::_=>TU e | []=>false) else (match p.to with
 |t::_=>EC l t | []=>false)
theorem safe_to(k:KN)(c w it:Int)(t:PL)(hw:pV t)(e:List KE)(gs:List GD)(b:List PR)(y:KV)(hv0:0<=t.v)(hy:k.vars[t.v.toNat]? =some y):Pure prog vT 35 [eZ k,aB ⟨5,c,w,it,[t],e,gs,b⟩] (AB (EC k.vars t)):=by
 obtain ⟨v,ix⟩:=t;simp only at hv0 hy;cases ix with
 |nil=>
  rw [show EC k.vars ⟨v,[]⟩=true from rfl];refine P_ func35 54 fun _ _ _ _=>?_
  (refine b_ fun bx=>?_;refine b_ fun bx=>?_;refine y_ ?_)
  refine j_ T T T ?_
  (refine b_ fun bx=>?_;refine y_ ?_)
  refine d_ 33 [0,1,2,3,4,5,6,7,8,9,10,11,12,13,14,15,16,17,18,19,20,21,22,23,24,25,26,27,28,29,30,31,32] [] ?_;refine z_ ?_;exact r_
 |cons x r=>
  have hwx:=sW hw x (aa4 ..);have hi32:i32 x.n:=by obtain ⟨xk,xo,xt,xn,xv,xl⟩:=x;rw [iZ] at hwx;exact hwx.1.2.2.2.1
  unfold i32 at hi32;have hx0:(bB (x::r))[(0:Int).toNat]? =some (eE x):=fW T;have hln:(((bB (x::r)).length:Int)==0)=false:=by rw [bF];exact beq_eq_false_iff_ne.2 (by rw [ab1];omega)
  have hst:EC k.vars ⟨v,x::r⟩=(x.kind==1&&decide (0<=x.n)&&decide (x.n<y.dim)):=by unfold EC;simp only [hy]
  rw [hst];clear hst;cases hk:(x.kind==1) with
  |false=>
   rw [ae4,ae4];refine P_ func35 54 fun _ _ _ _=>?_
   (refine b_ fun bx=>?_;refine b_ fun bx=>?_;refine y_ ?_)
   refine j_ T T T ?_
   (refine b_ fun bx=>?_;refine y_ ?_)
   refine d_ 33 [0,1,2,3,4,5,6,7,8,9,10,11,12,13,14,15,16,17,18,19,20,21,22,23,24,25,26,27,28,29,30,31,32] [] ?_;refine WA.ad 22 T (x':=AB false) (aA hln) ?_;refine rM T hx0 (aJ x) ?_;refine uS 29 T (x':=AB false) (aA hk) ?_;refine z_ ?_;exact r_
  |true=>
  rw [ab3]
  by_cases hn:0<=x.n
  case neg=>
   rw [decide_eq_false hn,ae4];refine P_ func35 54 fun _ _ _ _=>?_
   (refine b_ fun bx=>?_;refine b_ fun bx=>?_;refine y_ ?_)
   refine j_ T T T ?_
   (refine b_ fun bx=>?_;refine y_ ?_)
   refine d_ 33 [0,1,2,3,4,5,6,7,8,9,10,11,12,13,14,15,16,17,18,19,20,21,22,23,24,25,26,27,28,29,30,31,32] [] ?_;refine WA.ad 22 T (x':=AB false) (aA hln) ?_;refine rM T hx0 (aJ x) ?_;refine uS 29 T (x':=AB true) (aA hk) ?_;refine rM T hx0 (aJ x) ?_;refine uS 37 T (x':=AB false) (aA (by simpa using hn)) ?_;refine z_ ?_;exact r_
  rw [decide_eq_true hn,ab3];have hcv:IntKind.i64.wrap x.n=x.n:=fZ _ (by omega);have hlen:((k.vars.map rF).length:Int)=k.vars.length:=by rw [aa0]
  generalize hd:decide (x.n<y.dim)=bd;refine P_ func35 54 fun _ _ _ _=>?_
  (refine b_ fun bx=>?_;refine b_ fun bx=>?_;refine y_ ?_)
  refine j_ T T T ?_
  (refine b_ fun bx=>?_;refine y_ ?_)
  refine d_ 33 [0,1,2,3,4,5,6,7,8,9,10,11,12,13,14,15,16,17,18,19,20,21,22,23,24,25,26,27,28,29,30,31,32] [] ?_;refine WA.ad 22 T (x':=AB false) (aA hln) ?_;refine rM T hx0 (aJ x) ?_;refine uS 29 T (x':=AB true) (aA hk) ?_;refine rM T hx0 (aJ x) ?_;refine uS 37 T (x':=AB true) (aA (by simpa using hn)) ?_;refine rM T hx0 (aJ x) ?_;refine WA.ad 43 T (x':=AI x.n) (aM hcv) ?_;refine WA.x T hv0 (aR hy) T T ?_;refine w_ ?_;refine z_ ?_;refine R_ ?_;rw [<-hd];exact .refl
theorem safe_p(k:KN)(p:PR)(hw:zS p)(hk:aS k.vars k.chans.length p=true)(h56:p.kind=5\/p.kind=6):Pure prog vT 35 [eZ k,aB p] (AB (oG k.vars p)):=by
 have hwa:=oM hw;rcases h56 with h5|h6
 ·obtain ⟨t,ht,hin⟩:=I1 hk h5;have hpl:=place_at (n9 hin).2;obtain ⟨y,hy⟩:=hpl.2;have hwt:=hwa.to t (by rw [ht];exact aa4 ..);obtain ⟨kd,c,w,it,to,e,gs,b⟩:=p;simp only [PR.kind,PR.to] at h5 ht;subst h5;subst ht;exact safe_to k c w it t hwt e gs b y hpl.1 hy
 ·obtain ⟨x,hx,hch⟩:=I2 hk h6;have hwx:=hwa.e x (by rw [hx];exact aa4 ..);obtain ⟨kd,c,w,it,to,e,gs,b⟩:=p;simp only [PR.kind,PR.e] at h6 hx;subst h6;subst hx;have hx0:(bB [x])[(0:Int).toNat]? =some (eE x):=fW T;have hd:=dsafe_p x hwx;rw [aJ] at hd;rw [show oG k.vars ⟨6,c,w,it,to,[x],gs,b⟩=TU x from rfl];refine P_ func35 54 fun _ _ _ _=>?_
  (refine b_ fun bx=>?_;refine b_ fun bx=>?_;refine y_ ?_)
  refine i_ T hx0 (aJ x) ?_;exact lR hd
structure Good(k:KN)(p:PR):Prop where
 wf:zS p
 ok: ∃h,okR k.vars k.chans.length h p=true
theorem TC{l:List KV}{n:Nat}{high:Bool}: ∀{ps:List PR} {first:Bool},zE l n high first ps=true-> ∀x,x∈ps-> ∃h,okR l n h x=true
 | [],_,_,x,hx=>by cases hx |y::r,first,h,x,hx=>by
  rw [zE,aa1] at h;rcases ab0.1 hx with rfl|hx
  ·exact ⟨_,h.1⟩
  ·exact TC h.2 x hx
theorem Good.kind{k:KN}{p:PR}(g:Good k p):aS k.vars k.chans.length p=true:=by obtain ⟨h,hk⟩:=g.ok;rw [vE] at hk;simp only [aa1] at hk;exact hk.1.1.1
theorem Good.l{k:KN}{p:PR}(g:Good k p){x:PR}(hx:x∈p.l):Good k x:=by refine ⟨(oM g.wf).l x hx,?_⟩;obtain ⟨h,hk⟩:=g.ok;rw [vE] at hk;simp only [aa1] at hk;exact TC hk.1.2 x hx
theorem Good.len{k:KN}{p:PR}(g:Good k p):p.l.length<=281474976710656:=(oM g.wf).ll
theorem Good.last{k:KN}{p:PR}(g:Good k p):Good k (bK p):=by
 cases h:iI p with
 |false=>rw [sH h];exact g |true=>
  obtain ⟨y,hy⟩:=C8 h;rw [yY h hy];exact g.l (aa2 hy)
theorem form_l2{k:Int}{f:FM}(h:MC k=some f):f.l2<=2048:=by
 by_cases hk:1<=k/\k<=15
 ·rcases MO hk with rfl|rfl|rfl|rfl|rfl|rfl|rfl|rfl|rfl|rfl|rfl|rfl|rfl|rfl|rfl
  all_goals (simp [MC] at h;subst h;simp [fm0])
 ·have hn:MC k=none:=by
   unfold MC;rw [iF (by omega),iF (by omega),iF (by omega),iF (by omega),iF (by omega),iF (by omega),iF (by omega),iF (by omega),iF (by omega),iF (by omega),iF (by omega),iF (by omega)]
  rw [hn] at h;cases h
theorem Good.short{k:KN}{p:PR}(g:Good k p):p.l.length<=2048:=by
 have hlk:fR p=true:=by
  cases h:fR p with
  |true=>rfl |false=>have:=E3 (l:=k.vars) (n:=k.chans.length) h;rw [g.kind] at this;cases this
 unfold fR at hlk;split at hlk
 ·rename_i f hf;have:=form_l2 hf;simp only [aN,inB,aa1,dT] at hlk;omega
 ·cases hlk
theorem qR{k:KN}{s:PR}(g:Good k s){x:PR}(hx:x∈nN s):Good k x:=by
 unfold nN at hx;split at hx
 ·exact g.l hx
 ·rw [aa3] at hx;subst hx;exact g
theorem lC{s x:PR}(hx:x∈bO s):x∈nN s/\yK x=false:=by
 unfold bO at hx;split at hx
 ·cases hx
 ·rename_i h;refine ⟨hx,?_⟩;cases hb:yK x with
  |false=>rfl |true=>exact (h (List.any_eq_true.2 ⟨x,hx,hb⟩)).elim
theorem vX{x:PR}(h:yK x=false):(x.kind=5\/x.kind=6)/\2<=x.c:=by
 simp only [yK,Bool.or_eq_false_iff,Bool.and_eq_false_iff,dF] at h;refine ⟨?_,by omega⟩;rcases h.1 with h|h
 ·exact .inl (by simpa using h)
 ·exact .inr (by simpa using h)
theorem qP{k:KN}{s:PR}(g:Good k s):(bO s).length<=2048:=by
 have:=g.short;unfold bO
 by_cases h:(nN s).any yK=true
 ·rw [iT h];simp
 ·rw [iF h,nN]
  by_cases h10:s.kind=10
  ·rw [iT h10];exact this
  ·rw [iF h10];simp
theorem isEmpty_eq(l:List PR):((l.length:Int)==0)=l.isEmpty:=by
 cases l with
 |nil=>rfl |cons a r=>exact beq_eq_false_iff_ne.2 (by rw [ab1];omega)
def VW(q:PR):Bool:=match q.e with
 |e::_=>e.kind==1&&e.n==1 | []=>false
def eU(q:PR):List PR:=match q.l with
 |y::_=>if y.kind=9 then y.l else q.l | []=>[]
def cI(k:KN)(s:PR):Bool:= !(bO s).isEmpty&&(bO s).all (oG k.vars)
def CK(k:KN)(q:PR):List (List PR):=if q.kind=13/\VW q=true/\(eU q).all (cI k)=true then (eU q).map bO else []
def jD(k:KN)(p:PR):List (List PR):=CK k (bK p)
abbrev vO(l:List (List PR)):AV:= .sl 1 (l.map iQ) none
theorem cyc1_p(k:KN)(x:PR)(g:Good k x)(h56:x.kind=5\/x.kind=6):Pure prog vT 34 [aB x, .pe 11 (eZ k)] (AB (!oG k.vars x)):=by
 have hs:=safe_p k x g.wf g.kind h56;generalize oG k.vars x=b at hs⊢;refine P_ func34 8 fun _ _ _ _=>?_
 (refine b_ fun bx=>?_;refine y_ ?_)
 exact lR hs
theorem OA(k:KN)(s:PR)(g:Good k s):Pure prog vT 28 [iQ (bO s), .fn 34 [] [.pe 11 (eZ k)]] (AB (!(bO s).all (oG k.vars))):=by
 have:=IP 34 [.pe 11 (eZ k)] (fun x=> !oG k.vars x) (bO s) (fun x hx=>cyc1_p k x (qR g (lC hx).1) (vX (lC hx).2).1) (by have:=qP g;omega)
 rwa [show (bO s).any (fun x=> !oG k.vars x)= !(bO s).all (oG k.vars) by rw [List.not_all_eq_any_not]] at this
theorem cycw_p(k:KN)(q:PR)(g:Good k q)(R:AV)(hR:R=vO (CK k q))(p:PR)(hlast:Pure prog vT 13 [aB p,aU 13] (.tp [aB q,AB (q.kind==13)])):Pure prog vT 15 [eZ k,aB p] R:=by
 by_cases h13:q.kind=13
 case neg=>
  have hb:(q.kind==13)=false:=beq_eq_false_iff_ne.2 h13;rw [hb] at hlast;rw [CK,iF (fun h=>h13 h.1)] at hR;subst hR;refine P_ func15 68 fun _ _ _ _=>?_
  (refine b_ fun bx=>?_;refine b_ fun bx=>?_;refine y_ ?_)
  refine c_ hlast ?_;refine R_ ?_;exact .nil
 have hb:(q.kind==13)=true:=beq_iff_eq.2 h13;rw [hb] at hlast;obtain ⟨x,y,hx,hy⟩:=BF g.kind h13;have gy:Good k y:=g.l (by rw [hy];exact aa4 ..);have hx0:(bB q.e)[(0:Int).toNat]? =some (eE x):=fW (by rw [hx];rfl);have hy0:(bC q.l)[(0:Int).toNat]? =some (yR y):=cF (by rw [hy];rfl);have how:VW q=(x.kind==1&&x.n==1):=by unfold VW;rw [hx]
 have hsw:eU q=if y.kind=9 then y.l else q.l:=by unfold eU;rw [hy]
 cases h1:(x.kind==1) with
 |false=>
  rw [CK,iF (fun h=>by have:=h.2.1;rw [how,h1] at this;cases this)] at hR;subst hR;refine P_ func15 68 fun _ _ _ _=>?_
  (refine b_ fun bx=>?_;refine b_ fun bx=>?_;refine y_ ?_)
  refine c_ hlast ?_;refine i_ T hx0 (aJ x) ?_;refine e_ 25 T (x':=AB true) (aA (by show (!(x.kind==1))=true;rw [h1];rfl)) ?_;refine R_ ?_;exact .nil
 |true=>
 cases h2:(x.n==1) with
 |false=>
  rw [CK,iF (fun h=>by have:=h.2.1;rw [how,h1,h2] at this;cases this)] at hR;subst hR;refine P_ func15 68 fun _ _ _ _=>?_
  (refine b_ fun bx=>?_;refine b_ fun bx=>?_;refine y_ ?_)
  refine c_ hlast ?_;refine i_ T hx0 (aJ x) ?_;refine e_ 25 T (x':=AB false) (aA (by show (!(x.kind==1))=false;rw [h1];rfl)) ?_;refine i_ T hx0 (aJ x) ?_;refine e_ 32 T (x':=AB true) (aA (by show (!(x.n==1))=true;rw [h2];rfl)) ?_;refine R_ ?_;exact .nil
 |true=>
 rw [h1,h2,ab3] at how;have hR:R=vO (if (eU q).all (cI k)=true then (eU q).map bO else []):=by
  rw [hR,CK]
  by_cases ha:(eU q).all (cI k)=true
  ·rw [iT ⟨h13,how,ha⟩,iT ha]
  ·rw [iF (fun h=>ha h.2.2),iF ha]
 by_cases h9:y.kind=9
 ·have hb9:(y.kind==9)=true:=beq_iff_eq.2 h9;rw [hsw,iT h9] at hR;have hgS: ∀s,s∈y.l->Good k s:=fun s hs=>gy.l hs;have hsl:=gy.short;refine eX (y.l) fun S hS=>?_;rw [<-hS] at hR hgS hsl;refine P_ func15 68 fun _ _ _ _=>?_
  (refine b_ fun bx=>?_;refine b_ fun bx=>?_;refine y_ ?_)
  refine A.freeze 2 (sz:=11) T T T ?_;refine c_ hlast ?_;refine i_ T hx0 (aJ x) ?_;refine e_ 25 T (x':=AB false) (aA (by show (!(x.kind==1))=false;rw [h1];rfl)) ?_;refine i_ T hx0 (aJ x) ?_;refine e_ 32 T (x':=AB false) (aA (by show (!(x.n==1))=false;rw [h2];rfl)) ?_;refine i_ T hy0 (bP y) ?_;refine e_ 40 T (x':=AB true) (aA hb9) ?_;refine i_ T hy0 (bP y) ?_;refine A.ad 46 T (x':=iQ S) (by rw [hS]) ?_;refine A.ad 47 T (x':=AI (S.length:Nat)) (aM (by rw [aW,hS])) ?_;refine A.dr 4 1 T ?_;refine A.ay [2,4,46,47,48] T ?_;refine A.ar (ι:=Nat×Value) (fun q=>(⟨[(2, .pe 11 (eZ k)),(4, .sl 1 (((S.take q.1).map bO).map iQ) (some q.2)),(46,iQ S),(47,AI (S.length:Nat)),(48,AI (q.1:Nat))],[]⟩,[.tail 1 q.2, .box _ _])) (fun q=>q.1<=S.length/\(S.take q.1).all (cI k)=true) (fun q=>S.length-q.1) (0, .slice none 0 0) ⟨ac0 _,rfl⟩ T fun q hi ih=>?_;obtain ⟨i,z⟩:=q;obtain ⟨hi1,hi2⟩:=hi;simp only at hi1 hi2;refine y_ ?_;refine k_ (fun hc=>?_) fun hc=>?_
  ·have hc:i<S.length:=by simpa using hc
   refine aX hc fun s hs=>?_;have gs:=hgS s (aa2 hs);have hsing:=(NS s gs.len).any (gs:=vT);have huns:=OA k s gs;have htk:S.take (i+1)=S.take i++[s]:=by rw [ac6,hs];rfl
   have hbad:cI k s=false->R=vO []:=fun h=>by
    have:S.all (cI k)=false:=by
     cases ha:S.all (cI k) with
     |false=>rfl |true=>rw [ac5] at ha;rw [ha s (aa2 hs)] at h;cases h
    rw [hR,iF (by rw [this];simp)]
   refine eX (bO s) fun sm hsome=>?_;have hshort:=qP gs;rw [<-hsome] at hsing huns hshort;refine y_ ?_;refine j_ T (cF hs) (bP s) ?_
   (refine b_ fun bx=>?_;refine y_ ?_)
   refine c_ hsing ?_;refine A.ad 57 T (x':=AB sm.isEmpty) (aA (by rw [aW];exact isEmpty_eq sm)) ?_;cases hem:sm.isEmpty with
   |true=>
    rw [hbad (by rw [cI,<-hsome,hem];rfl)];refine y_ ?_;refine R_ ?_;exact .nil
   |false=>
   refine y_ ?_;refine c_ huns ?_;cases hall:sm.all (oG k.vars) with
   |false=>
    rw [hbad (by rw [cI,<-hsome,hem,hall];rfl)];refine e_ 61 T (x':=AB true) (aA T) ?_;refine R_ ?_;exact .nil
   |true=>
    refine A.ad 61 T (x':=AB false) (aA T) ?_;refine t_ fun bl=>?_;refine A.au (Λ':=[_, .tail ty29.size z,_]) T ?_;refine A.append T T T T T T T T T T T T T T (by show ((((S.take i).map bO).map iQ).length+1)*1<=_;rw [aa0,aa0,ac3];omega) fun z'=>?_;refine y_ ?_;refine A.ad 4 T (x':= .sl 1 (((S.take (i+1)).map bO).map iQ) (some z')) (by rw [htk];simp only [ae2,ac8,ag7,<-hsome];rfl) ?_;refine vI 48 i ?_;refine A.less (List.Sublist.cons_cons _ (List.Sublist.cons _ (List.Sublist.refl _))) ?_;refine u_ (ih (i+1,z') ⟨by show i+1<=_;omega,by show (S.take (i+1)).all _=true;rw [htk,ak9,hi2,ai4,ao6,cI,<-hsome,hem,hall];rfl⟩ (by show _-(i+1)<_-i;omega))
  have hc: ¬i<S.length:=by simpa using hc
  have hil:i=S.length:=by omega
  rw [hil,ac4] at hi2;rw [iT hi2] at hR;rw [hR];refine y_ ?_;refine R_ ?_;rw [hil,ac4];exact .own .refl
 ·have hb9:(y.kind==9)=false:=beq_eq_false_iff_ne.2 h9;rw [hsw,iF h9] at hR;have hgS: ∀s,s∈q.l->Good k s:=fun s hs=>g.l hs;have hsl:=g.short;refine eX (q.l) fun S hS=>?_;rw [<-hS] at hR hgS hsl;refine P_ func15 68 fun _ _ _ _=>?_
  (refine b_ fun bx=>?_;refine b_ fun bx=>?_;refine y_ ?_)
  refine A.freeze 2 (sz:=11) T T T ?_;refine c_ hlast ?_;refine i_ T hx0 (aJ x) ?_;refine e_ 25 T (x':=AB false) (aA (by show (!(x.kind==1))=false;rw [h1];rfl)) ?_;refine i_ T hx0 (aJ x) ?_;refine e_ 32 T (x':=AB false) (aA (by show (!(x.n==1))=false;rw [h2];rfl)) ?_;refine i_ T hy0 (bP y) ?_;refine e_ 40 T (x':=AB false) (aA hb9) ?_;refine A.ad 46 T (x':=iQ S) (by rw [hS]) ?_;refine A.ad 47 T (x':=AI (S.length:Nat)) (aM (by rw [aW,hS])) ?_;refine A.dr 4 1 T ?_;refine A.ay [2,4,46,47,48] T ?_;refine A.ar (ι:=Nat×Value) (fun q=>(⟨[(2, .pe 11 (eZ k)),(4, .sl 1 (((S.take q.1).map bO).map iQ) (some q.2)),(46,iQ S),(47,AI (S.length:Nat)),(48,AI (q.1:Nat))],[]⟩,[.tail 1 q.2, .box _ _])) (fun q=>q.1<=S.length/\(S.take q.1).all (cI k)=true) (fun q=>S.length-q.1) (0, .slice none 0 0) ⟨ac0 _,rfl⟩ T fun q hi ih=>?_;obtain ⟨i,z⟩:=q;obtain ⟨hi1,hi2⟩:=hi;simp only at hi1 hi2;refine y_ ?_;refine k_ (fun hc=>?_) fun hc=>?_
  ·have hc:i<S.length:=by simpa using hc
   refine aX hc fun s hs=>?_;have gs:=hgS s (aa2 hs);have hsing:=(NS s gs.len).any (gs:=vT);have huns:=OA k s gs;have htk:S.take (i+1)=S.take i++[s]:=by rw [ac6,hs];rfl
   have hbad:cI k s=false->R=vO []:=fun h=>by
    have:S.all (cI k)=false:=by
     cases ha:S.all (cI k) with
     |false=>rfl |true=>rw [ac5] at ha;rw [ha s (aa2 hs)] at h;cases h
    rw [hR,iF (by rw [this];simp)]
   refine eX (bO s) fun sm hsome=>?_;have hshort:=qP gs;rw [<-hsome] at hsing huns hshort;refine y_ ?_;refine j_ T (cF hs) (bP s) ?_
   (refine b_ fun bx=>?_;refine y_ ?_)
   refine c_ hsing ?_;refine A.ad 57 T (x':=AB sm.isEmpty) (aA (by rw [aW];exact isEmpty_eq sm)) ?_;cases hem:sm.isEmpty with
   |true=>
    rw [hbad (by rw [cI,<-hsome,hem];rfl)];refine y_ ?_;refine R_ ?_;exact .nil
   |false=>
   refine y_ ?_;refine c_ huns ?_;cases hall:sm.all (oG k.vars) with
   |false=>
    rw [hbad (by rw [cI,<-hsome,hem,hall];rfl)];refine e_ 61 T (x':=AB true) (aA T) ?_;refine R_ ?_;exact .nil
   |true=>
    refine A.ad 61 T (x':=AB false) (aA T) ?_;refine t_ fun bl=>?_;refine A.au (Λ':=[_, .tail ty29.size z,_]) T ?_;refine A.append T T T T T T T T T T T T T T (by show ((((S.take i).map bO).map iQ).length+1)*1<=_;rw [aa0,aa0,ac3];omega) fun z'=>?_;refine y_ ?_;refine A.ad 4 T (x':= .sl 1 (((S.take (i+1)).map bO).map iQ) (some z')) (by rw [htk];simp only [ae2,ac8,ag7,<-hsome];rfl) ?_;refine vI 48 i ?_;refine A.less (List.Sublist.cons_cons _ (List.Sublist.cons _ (List.Sublist.refl _))) ?_;refine u_ (ih (i+1,z') ⟨by show i+1<=_;omega,by show (S.take (i+1)).all _=true;rw [htk,ak9,hi2,ai4,ao6,cI,<-hsome,hem,hall];rfl⟩ (by show _-(i+1)<_-i;omega))
  have hc: ¬i<S.length:=by simpa using hc
  have hil:i=S.length:=by omega
  rw [hil,ac4] at hi2;rw [iT hi2] at hR;rw [hR];refine y_ ?_;refine R_ ?_;rw [hil,ac4];exact .own .refl
theorem XV(k:KN)(p:PR)(g:Good k p):Pure prog vT 15 [eZ k,aB p] (vO (jD k p)):=
 cycw_p k (bK p) g.last _ T p (ZV p 13 g.len).any
mutual
def uE:KE->Prop
 |⟨_,_,_,_,_,l⟩=>l.length*40<=140737488355328/\NX l
def NX:List KE->Prop
 | []=>True |e::r=>uE e/\NX r
end
theorem NY: ∀{l:List KE},NX l-> ∀x,x∈l->uE x
 | [],_,x,h=>by cases h |y::r,hw,x,h=>by
  rw [NX] at hw;rcases ab0.1 h with rfl|h
  ·exact hw.1
  ·exact NY hw.2 x h
theorem smK_l{e:KE}(h:uE e):e.l.length<=281474976710656/\ ∀x,x∈e.l->uE x:=by obtain ⟨k,o,t,n,v,l⟩:=e;rw [uE] at h;have:=h.1;exact ⟨by show l.length<=_;omega,NY h.2⟩
theorem smK_b{e:KE}(h:uE e):e.l.length*40<=140737488355328:=by obtain ⟨k,o,t,n,v,l⟩:=e;rw [uE] at h;exact h.1
def WJ(p:PL):Prop:=p.ix.length*40<=140737488355328/\ ∀x,x∈p.ix->uE x
theorem smP_l{p:PL}(h:WJ p):p.ix.length<=281474976710656:=by have:=h.1;omega
mutual
def mC:PR->Prop
 |⟨_,_,_,_,to,e,gs,l⟩=>((∀t,t∈to->WJ t)/\(∀x,x∈e->uE x)/\to.length*32<=140737488355328/\e.length*40<=140737488355328/\gs.length*160<=140737488355328/\l.length*128<=140737488355328)/\EI gs/\zN l
def zN:List PR->Prop
 | []=>True |p::r=>mC p/\zN r
def smG:GD->Prop
 |⟨_,e,_,_,to,t,b⟩=>(uE e/\uE t/\WJ to/\b.length*128<=140737488355328)/\zN b
def EI:List GD->Prop
 | []=>True |g::r=>smG g/\EI r
end
theorem EJ: ∀{l:List PR},zN l-> ∀x,x∈l->mC x
 | [],_,x,h=>by cases h |y::r,hw,x,h=>by
  rw [zN] at hw;rcases ab0.1 h with rfl|h
  ·exact hw.1
  ·exact EJ hw.2 x h
theorem NW: ∀{l:List GD},EI l-> ∀x,x∈l->smG x
 | [],_,x,h=>by cases h |y::r,hw,x,h=>by
  rw [EI] at hw;rcases ab0.1 h with rfl|h
  ·exact hw.1
  ·exact NW hw.2 x h
structure SmR(p:PR):Prop where
 to: ∀t,t∈p.to->WJ t
 e: ∀x,x∈p.e->uE x
 tol:p.to.length<=281474976710656
 el:p.e.length<=281474976710656
 gl:p.gs.length<=281474976710656
 ll:p.l.length<=281474976710656
 g: ∀g,g∈p.gs->smG g
 l: ∀x,x∈p.l->mC x
 tb:p.to.length*32<=140737488355328
 eb:p.e.length*40<=140737488355328
 gb:p.gs.length*160<=140737488355328
 lb:p.l.length*128<=140737488355328
theorem lQ{p:PR}(h:mC p):SmR p:=by obtain ⟨k,c,v,i,to,e,gs,l⟩:=p;rw [mC] at h;obtain ⟨⟨h1,h2,h3,h4,h5,h6⟩,h7,h8⟩:=h;exact ⟨h1,h2,by show to.length<=_;omega,by show e.length<=_;omega,by show gs.length<=_;omega,by show l.length<=_;omega,NW h7,EJ h8,h3,h4,h5,h6⟩
structure SmG(g:GD):Prop where
 cond:uE g.cond
 time:uE g.time
 to:WJ g.to
 bl:g.body.length<=281474976710656
 body: ∀x,x∈g.body->mC x
 bb:g.body.length*128<=140737488355328
theorem qQ{g:GD}(h:smG g):SmG g:=by obtain ⟨k,e,c,i,to,t,b⟩:=g;rw [smG] at h;obtain ⟨⟨h1,h2,h3,h4⟩,h5⟩:=h;exact ⟨h1,h2,h3,by show b.length<=_;omega,EJ h5,h4⟩
def eN{α:Type}(p:α->α->Bool):List α->List α->Bool
 | [],[]=>true |a::r,b::s=>p a b&&eN p r s
 |_,_=>false
theorem sA{α:Type}{p:α->α->Bool}: ∀{a b:List α},a.length≠b.length->eN p a b=false
 | [],[],h=>(h T).elim | [],_::_,_=>rfl
 |_::_,[],_=>rfl |a::r,b::s,h=>by rw [eN,sA (a:=r) (b:=s) (by simpa using h),Bool.and_false]
theorem BB{α:Type}{p:α->α->Bool}{a b:List α}{i:Nat}{x y:α}(hx:a[i]? =some x)(hy:b[i]? =some y):eN p (a.drop i) (b.drop i)=(p x y&&eN p (a.drop (i+1)) (b.drop (i+1))):=by rw [bS hx,bS hy,eN]
mutual
def OP:KE->KE->Bool
 |⟨k,o,t,n,v,l⟩,⟨k',o',t',n',v',l'⟩=>(k==k')&&((o==o')&&((t==t')&&((n==n')&&((v==v')&&r9 l l'))))
def r9:List KE->List KE->Bool
 | [],[]=>true |a::r,b::s=>OP a b&&r9 r s
 |_,_=>false
end
theorem YR(a b:KE):OP a b=((a.kind==b.kind)&&((a.oper==b.oper)&&((a.to==b.to)&&((a.n==b.n)&&((a.v==b.v)&&r9 a.l b.l))))):=by obtain ⟨k,o,t,n,v,l⟩:=a;obtain ⟨k',o',t',n',v',l'⟩:=b;rw [OP]
theorem tA: ∀(a b:List KE),r9 a b=eN OP a b
 | [],[]=>by rw [r9,eN] | [],_::_=>by rw [r9,eN]<;>simp
 |_::_,[]=>by rw [r9,eN]<;>simp |a::r,b::s=>by rw [r9,eN,tA r s]
def YU(a b:PL):Bool:=(a.v==b.v)&&r9 a.ix b.ix
mutual
def U2:PR->PR->Bool
 |⟨k,c,v,i,to,e,gs,l⟩,⟨k',c',v',i',to',e',gs',l'⟩=>(k==k')&&((c==c')&&((v==v')&&((i==i')&&(eN YU to to'&&(r9 e e'&&(CP gs gs'&&uR l l'))))))
def uR:List PR->List PR->Bool
 | [],[]=>true |a::r,b::s=>U2 a b&&uR r s
 |_,_=>false
def eqG:GD->GD->Bool
 |⟨k,e,c,i,to,t,b⟩,⟨k',e',c',i',to',t',b'⟩=>(k==k')&&((c==c')&&((i==i')&&(OP e e'&&(OP t t'&&(YU to to'&&uR b b')))))
def CP:List GD->List GD->Bool
 | [],[]=>true |a::r,b::s=>eqG a b&&CP r s
 |_,_=>false
end
theorem YV(a b:PR):U2 a b=((a.kind==b.kind)&&((a.c==b.c)&&((a.v==b.v)&&((a.item==b.item)&&(eN YU a.to b.to&&(r9 a.e b.e&&(CP a.gs b.gs&&uR a.l b.l))))))):=by obtain ⟨k,c,v,i,to,e,gs,l⟩:=a;obtain ⟨k',c',v',i',to',e',gs',l'⟩:=b;rw [U2]
theorem YQ(a b:GD):eqG a b=((a.kind==b.kind)&&((a.c==b.c)&&((a.item==b.item)&&(OP a.cond b.cond&&(OP a.time b.time&&(YU a.to b.to&&uR a.body b.body)))))):=by obtain ⟨k,e,c,i,to,t,bd⟩:=a;obtain ⟨k',e',c',i',to',t',bd'⟩:=b;rw [eqG]
theorem wJ: ∀(a b:List PR),uR a b=eN U2 a b
 | [],[]=>by rw [uR,eN] | [],_::_=>by rw [uR,eN]<;>simp
 |_::_,[]=>by rw [uR,eN]<;>simp |a::r,b::s=>by rw [uR,eN,wJ r s]
theorem IG: ∀(a b:List GD),CP a b=eN eqG a b
 | [],[]=>by rw [CP,eN] | [],_::_=>by rw [CP,eN]<;>simp
 |_::_,[]=>by rw [CP,eN]<;>simp |a::r,b::s=>by rw [CP,eN,IG r s]
theorem eqfP_p{gs:Ua}(f:FuncId)(p:PL->PL->Bool)(a b:List PL)(hcb: ∀x,x∈a-> ∀y,Pure prog gs f [dU x,dU y] (AB (p x y)))(hb:a.length<=281474976710656):
 Pure prog gs 72 [iK a,iK b, .fn f [] []] (AB (eN p a b)):=by
 by_cases hl:a.length=b.length
 case neg=>
  rw [sA hl];refine P_ func72 32 fun _ _ _ _=>?_;refine y_ ?_;refine e_ 14 T (x':=AB true) (aA (by rw [aa0,aa0];show (!((a.length:Int)==(b.length:Int)))=true;rw [beq_eq_false_iff_ne.2 (by omega)];rfl)) ?_;exact r_
 refine P_ func72 32 fun _ _ _ _=>?_;refine y_ ?_;refine e_ 14 T (x':=AB false) (aA (by rw [aa0,aa0];show (!((a.length:Int)==(b.length:Int)))=false;rw [beq_iff_eq.2 (by omega)];rfl)) ?_;refine A.ad 16 T (x':=AI (a.length:Nat)) (aM (by rw [aa0])) ?_;refine A.ay [1,2,15,16,17] T ?_;refine A.ar (ι:=Nat) (fun i=>(⟨[(1,iK b),(2, .fn f [] []),(15,iK a),(16,AI (a.length:Nat)),(17,AI (i:Nat))],[]⟩,[])) (fun i=>i<=a.length/\eN p a b=eN p (a.drop i) (b.drop i)) (fun i=>a.length-i) 0 ⟨ac0 _,rfl⟩ T fun i hi ih=>?_;obtain ⟨hi1,hi2⟩:=hi;refine y_ ?_;refine k_ (fun hc=>?_) fun hc=>?_
 ·have hc':i<a.length:=by simpa using hc
  refine aX hc' fun x hx=>?_;refine ac7 (dC (l:=b) (i:=i) (by omega)) fun y hy=>?_;have hxy:=hcb x (aa2 hx) y;rw [BB hx hy] at hi2;refine y_ ?_;refine j_ T (aR hx) T ?_
  (refine b_ fun bx=>?_;refine y_ ?_)
  refine j_ T (aR hy) T ?_
  (refine b_ fun bx=>?_;refine y_ ?_)
  refine n_ hxy ?_;cases hp:p x y with
  |false=>
   rw [hp,ae4] at hi2;rw [hi2];exact rK
  |true=>
   rw [hp,ab3] at hi2;refine y_ ?_;refine vI 17 i ?_;refine A.less (Λ':=[]) (ae1 _) ?_;refine u_ (ih (i+1) ⟨by omega,hi2⟩ (by omega))
 have hc': ¬i<a.length:=by simpa using hc
 have hil:i=a.length:=by omega
 have:eN p a b=true:=by rw [hi2,hil,ad2,hl,ad2];rfl
 rw [this];exact rK
theorem YX{gs:Ua}(f:FuncId)(p:KE->KE->Bool)(a b:List KE)(hcb: ∀x,x∈a-> ∀y,Pure prog gs f [.ag [aU x.kind,aU x.oper,aU x.to,aL x.n,AI x.v, .sl 6 (bB x.l) none], .ag [aU y.kind,aU y.oper,aU y.to,aL y.n,AI y.v, .sl 6 (bB y.l) none]] (AB (p x y)))(hb:a.length<=281474976710656):
 Pure prog gs 74 [c8 a,c8 b, .fn f [] []] (AB (eN p a b)):=by
 by_cases hl:a.length=b.length
 case neg=>
  rw [sA hl];refine P_ func74 32 fun _ _ _ _=>?_;refine y_ ?_;refine e_ 14 T (x':=AB true) (aA (by rw [bF,bF];show (!((a.length:Int)==(b.length:Int)))=true;rw [beq_eq_false_iff_ne.2 (by omega)];rfl)) ?_;exact r_
 refine P_ func74 32 fun _ _ _ _=>?_;refine y_ ?_;refine e_ 14 T (x':=AB false) (aA (by rw [bF,bF];show (!((a.length:Int)==(b.length:Int)))=false;rw [beq_iff_eq.2 (by omega)];rfl)) ?_;refine A.ad 16 T (x':=AI (a.length:Nat)) (aM (by rw [bF])) ?_;refine A.ay [1,2,15,16,17] T ?_;refine A.ar (ι:=Nat) (fun i=>(⟨[(1,c8 b),(2, .fn f [] []),(15,c8 a),(16,AI (a.length:Nat)),(17,AI (i:Nat))],[]⟩,[])) (fun i=>i<=a.length/\eN p a b=eN p (a.drop i) (b.drop i)) (fun i=>a.length-i) 0 ⟨ac0 _,rfl⟩ T fun i hi ih=>?_;obtain ⟨hi1,hi2⟩:=hi;refine y_ ?_;refine k_ (fun hc=>?_) fun hc=>?_
 ·have hc':i<a.length:=by simpa using hc
  refine aX hc' fun x hx=>?_;refine ac7 (dC (l:=b) (i:=i) (by omega)) fun y hy=>?_;have hxy:=hcb x (aa2 hx) y;rw [BB hx hy] at hi2;refine y_ ?_;refine j_ T (fW hx) (aJ x) ?_
  (refine b_ fun bx=>?_;refine y_ ?_)
  refine j_ T (fW hy) (aJ y) ?_
  (refine b_ fun bx=>?_;refine y_ ?_)
  refine n_ hxy ?_;cases hp:p x y with
  |false=>
   rw [hp,ae4] at hi2;rw [hi2];exact rK
  |true=>
   rw [hp,ab3] at hi2;refine y_ ?_;refine vI 17 i ?_;refine A.less (Λ':=[]) (ae1 _) ?_;refine u_ (ih (i+1) ⟨by omega,hi2⟩ (by omega))
 have hc': ¬i<a.length:=by simpa using hc
 have hil:i=a.length:=by omega
 have:eN p a b=true:=by rw [hi2,hil,ad2,hl,ad2];rfl
 rw [this];exact rK
theorem eqfG_p{gs:Ua}(f:FuncId)(p:GD->GD->Bool)(a b:List GD)(hcb: ∀x,x∈a-> ∀y,Pure prog gs f [aZ x,aZ y] (AB (p x y)))(hb:a.length<=281474976710656):
 Pure prog gs 76 [rH a,rH b, .fn f [] []] (AB (eN p a b)):=by
 by_cases hl:a.length=b.length
 case neg=>
  rw [sA hl];refine P_ func76 32 fun _ _ _ _=>?_;refine y_ ?_;refine e_ 14 T (x':=AB true) (aA (by rw [dD,dD];show (!((a.length:Int)==(b.length:Int)))=true;rw [beq_eq_false_iff_ne.2 (by omega)];rfl)) ?_;exact r_
 refine P_ func76 32 fun _ _ _ _=>?_;refine y_ ?_;refine e_ 14 T (x':=AB false) (aA (by rw [dD,dD];show (!((a.length:Int)==(b.length:Int)))=false;rw [beq_iff_eq.2 (by omega)];rfl)) ?_;refine A.ad 16 T (x':=AI (a.length:Nat)) (aM (by rw [dD])) ?_;refine A.ay [1,2,15,16,17] T ?_;refine A.ar (ι:=Nat) (fun i=>(⟨[(1,rH b),(2, .fn f [] []),(15,rH a),(16,AI (a.length:Nat)),(17,AI (i:Nat))],[]⟩,[])) (fun i=>i<=a.length/\eN p a b=eN p (a.drop i) (b.drop i)) (fun i=>a.length-i) 0 ⟨ac0 _,rfl⟩ T fun i hi ih=>?_;obtain ⟨hi1,hi2⟩:=hi;refine y_ ?_;refine k_ (fun hc=>?_) fun hc=>?_
 ·have hc':i<a.length:=by simpa using hc
  refine aX hc' fun x hx=>?_;refine ac7 (dC (l:=b) (i:=i) (by omega)) fun y hy=>?_;have hxy:=hcb x (aa2 hx) y;rw [BB hx hy] at hi2;refine y_ ?_;refine j_ T (jY hx) (jX x) ?_
  (refine b_ fun bx=>?_;refine y_ ?_)
  refine j_ T (jY hy) (jX y) ?_
  (refine b_ fun bx=>?_;refine y_ ?_)
  refine n_ hxy ?_;cases hp:p x y with
  |false=>
   rw [hp,ae4] at hi2;rw [hi2];exact rK
  |true=>
   rw [hp,ab3] at hi2;refine y_ ?_;refine vI 17 i ?_;refine A.less (Λ':=[]) (ae1 _) ?_;refine u_ (ih (i+1) ⟨by omega,hi2⟩ (by omega))
 have hc': ¬i<a.length:=by simpa using hc
 have hil:i=a.length:=by omega
 have:eN p a b=true:=by rw [hi2,hil,ad2,hl,ad2];rfl
 rw [this];exact rK
theorem YY{gs:Ua}(f:FuncId)(p:PR->PR->Bool)(a b:List PR)(hcb: ∀x,x∈a-> ∀y,Pure prog gs f [aB x,aB y] (AB (p x y)))(hb:a.length<=281474976710656):
 Pure prog gs 78 [iQ a,iQ b, .fn f [] []] (AB (eN p a b)):=by
 by_cases hl:a.length=b.length
 case neg=>
  rw [sA hl];refine P_ func78 32 fun _ _ _ _=>?_;refine y_ ?_;refine e_ 14 T (x':=AB true) (aA (by rw [aW,aW];show (!((a.length:Int)==(b.length:Int)))=true;rw [beq_eq_false_iff_ne.2 (by omega)];rfl)) ?_;exact r_
 refine P_ func78 32 fun _ _ _ _=>?_;refine y_ ?_;refine e_ 14 T (x':=AB false) (aA (by rw [aW,aW];show (!((a.length:Int)==(b.length:Int)))=false;rw [beq_iff_eq.2 (by omega)];rfl)) ?_;refine A.ad 16 T (x':=AI (a.length:Nat)) (aM (by rw [aW])) ?_;refine A.ay [1,2,15,16,17] T ?_;refine A.ar (ι:=Nat) (fun i=>(⟨[(1,iQ b),(2, .fn f [] []),(15,iQ a),(16,AI (a.length:Nat)),(17,AI (i:Nat))],[]⟩,[])) (fun i=>i<=a.length/\eN p a b=eN p (a.drop i) (b.drop i)) (fun i=>a.length-i) 0 ⟨ac0 _,rfl⟩ T fun i hi ih=>?_;obtain ⟨hi1,hi2⟩:=hi;refine y_ ?_;refine k_ (fun hc=>?_) fun hc=>?_
 ·have hc':i<a.length:=by simpa using hc
  refine aX hc' fun x hx=>?_;refine ac7 (dC (l:=b) (i:=i) (by omega)) fun y hy=>?_;have hxy:=hcb x (aa2 hx) y;rw [BB hx hy] at hi2;refine y_ ?_;refine j_ T (cF hx) (bP x) ?_
  (refine b_ fun bx=>?_;refine y_ ?_)
  refine j_ T (cF hy) (bP y) ?_
  (refine b_ fun bx=>?_;refine y_ ?_)
  refine n_ hxy ?_;cases hp:p x y with
  |false=>
   rw [hp,ae4] at hi2;rw [hi2];exact rK
  |true=>
   rw [hp,ab3] at hi2;refine y_ ?_;refine vI 17 i ?_;refine A.less (Λ':=[]) (ae1 _) ?_;refine u_ (ih (i+1) ⟨by omega,hi2⟩ (by omega))
 have hc': ¬i<a.length:=by simpa using hc
 have hil:i=a.length:=by omega
 have:eN p a b=true:=by rw [hi2,hil,ad2,hl,ad2];rfl
 rw [this];exact rK
theorem SE: ∀(m:Nat) (a b:KE),SizeOf.sizeOf a<=m->uE a->Pure prog a9 75 [eE a,eE b] (AB (OP a b))
 |0,a,b,h,_=>by obtain ⟨k,o,t,n,v,l⟩:=a;simp only [KE.mk.sizeOf_spec] at h;omega
 |m+1,a,b,h,hs=>by
  have hl:=smK_l hs;have h1:Pure prog a9 74 [c8 a.l,c8 b.l, .fn 75 [] []] (AB (r9 a.l b.l)):=by
   rw [tA];refine YX _ OP a.l b.l (fun x hx y=>?_) hl.1;have hsz:SizeOf.sizeOf x<=m:=by obtain ⟨k,o,t,n,v,l⟩:=a;have:=ai2 hx;simp only [KE.mk.sizeOf_spec,KE.l] at this h;omega
   have:=SE m x y hsz (hl.2 x hx);rw [aJ,aJ] at this;exact this
  rw [YR,aJ a,aJ b];generalize r9 a.l b.l=r at h1⊢;have h2:=h1;have h3:=h1;have h4:=h1;refine P_ func75 45 fun _ _ _ _=>?_;(repeat' first|first|refine A.s T ?_|refine A.r T T ?_|refine A.w T T ?_|refine A.p T ?_|refine A.b T fun bx=>?_|refine A.t T fun bl=>?_|refine A.c T h1 .refl ?_|refine A.c T h2 .refl ?_|refine A.c T h3 .refl ?_|refine A.c T h4 .refl ?_|((fail_if_success (refine A.lit? T ?_));refine A.gS T (fun hc=>?_) (fun hc=>?_))|((fail_if_success (refine A.cv? T ?_));refine A.gm T (fun hc=>?_) (fun hc=>?_)))
  all_goals (refine R_ ?_;refine Sb.eq (aA ?_))
  all_goals simp_all
theorem IH(a b:KE)(hs:uE a):Pure prog a9 75 [eE a,eE b] (AB (OP a b)):=SE _ a b (aa6 _) hs
theorem YS(a b:List KE)(hb:a.length<=281474976710656)(hs: ∀x,x∈a->uE x):Pure prog a9 74 [c8 a,c8 b, .fn 75 [] []] (AB (r9 a b)):=by rw [tA];refine YX _ OP a b (fun x hx y=>?_) hb;have:=IH x y (hs x hx);rw [aJ,aJ] at this;exact this
theorem AR(a b:PL)(hs:WJ a):Pure prog a9 73 [dU a,dU b] (AB (YU a b)):=by
 have h1:=YS a.ix b.ix (smP_l hs) hs.2;unfold YU;generalize r9 a.ix b.ix=r at h1⊢;have h2:=h1;have h3:=h1;have h4:=h1;refine P_ func73 17 fun _ _ _ _=>?_;(repeat' first|first|refine A.s T ?_|refine A.r T T ?_|refine A.w T T ?_|refine A.p T ?_|refine A.b T fun bx=>?_|refine A.t T fun bl=>?_|refine A.c T h1 .refl ?_|refine A.c T h2 .refl ?_|refine A.c T h3 .refl ?_|refine A.c T h4 .refl ?_|((fail_if_success (refine A.lit? T ?_));refine A.gS T (fun hc=>?_) (fun hc=>?_))|((fail_if_success (refine A.cv? T ?_));refine A.gm T (fun hc=>?_) (fun hc=>?_)))
 all_goals (refine R_ ?_;refine Sb.eq (aA ?_))
 all_goals simp_all
theorem gd_lt{p x:PR}{g:GD}(hg:g∈p.gs)(h:x∈g.body):SizeOf.sizeOf x<SizeOf.sizeOf p:=by obtain ⟨k,c,v,i,to,e,gs,l⟩:=p;have h1:=ai2 hg;obtain ⟨k,e,c,i,to,t,b⟩:=g;have h2:=ai2 h;simp only [PR.mk.sizeOf_spec,GD.mk.sizeOf_spec,PR.gs,GD.body] at h1 h2⊢;omega
theorem cK{p x:PR}(h:x∈p.l):SizeOf.sizeOf x<SizeOf.sizeOf p:=by obtain ⟨k,c,v,i,to,e,gs,l⟩:=p;have:=ai2 h;simp only [PR.mk.sizeOf_spec,PR.l] at this⊢;omega
theorem NO(a b:GD)(hs:SmG a)(h4:Pure prog a9 78 [iQ a.body,iQ b.body, .fn 52 [] []] (AB (uR a.body b.body))):
 Pure prog a9 77 [aZ a,aZ b] (AB (eqG a b)):=by
 have h1:=IH a.cond b.cond hs.cond;have h2:=IH a.time b.time hs.time;have h3:=AR a.to b.to hs.to;rw [aJ,aJ] at h1 h2;rw [YQ];generalize OP a.cond b.cond=r1 at h1⊢;generalize OP a.time b.time=r2 at h2⊢;generalize YU a.to b.to=r3 at h3⊢;generalize uR a.body b.body=r4 at h4⊢;refine P_ func77 52 fun _ _ _ _=>?_;(repeat' first|first|refine A.s T ?_|refine A.r T T ?_|refine A.w T T ?_|refine A.p T ?_|refine A.b T fun bx=>?_|refine A.t T fun bl=>?_|refine A.c T h1 .refl ?_|refine A.c T h2 .refl ?_|refine A.c T h3 .refl ?_|refine A.c T h4 .refl ?_|((fail_if_success (refine A.lit? T ?_));refine A.gS T (fun hc=>?_) (fun hc=>?_))|((fail_if_success (refine A.cv? T ?_));refine A.gm T (fun hc=>?_) (fun hc=>?_)))
 all_goals (refine R_ ?_;refine Sb.eq (aA ?_))
 all_goals simp_all
theorem same_a(a b:PR)(hs:SmR a)(h3:Pure prog a9 76 [rH a.gs,rH b.gs, .fn 77 [] []] (AB (CP a.gs b.gs)))
 (h4:Pure prog a9 78 [iQ a.l,iQ b.l, .fn 52 [] []] (AB (uR a.l b.l))):
 Pure prog a9 52 [aB a,aB b] (AB (U2 a b)):=by
 have h1:=eqfP_p (gs:=a9) 73 YU a.to b.to (fun x hx y=>AR x y (hs.to x hx)) hs.tol;have h2:=YS a.e b.e hs.el hs.e;rw [YV];generalize eN YU a.to b.to=r1 at h1⊢;generalize r9 a.e b.e=r2 at h2⊢;generalize CP a.gs b.gs=r3 at h3⊢;generalize uR a.l b.l=r4 at h4⊢;refine P_ func52 59 fun _ _ _ _=>?_;(repeat' first|first|refine A.s T ?_|refine A.r T T ?_|refine A.w T T ?_|refine A.p T ?_|refine A.b T fun bx=>?_|refine A.t T fun bl=>?_|refine A.c T h1 .refl ?_|refine A.c T h2 .refl ?_|refine A.c T h3 .refl ?_|refine A.c T h4 .refl ?_|((fail_if_success (refine A.lit? T ?_));refine A.gS T (fun hc=>?_) (fun hc=>?_))|((fail_if_success (refine A.cv? T ?_));refine A.gm T (fun hc=>?_) (fun hc=>?_)))
 all_goals (refine R_ ?_;refine Sb.eq (aA ?_))
 all_goals simp_all
theorem JP: ∀(m:Nat) (a b:PR),SizeOf.sizeOf a<=m->mC a->Pure prog a9 52 [aB a,aB b] (AB (U2 a b))
 |0,a,b,h,_=>by obtain ⟨k,c,v,i,to,e,gs,l⟩:=a;simp only [PR.mk.sizeOf_spec] at h;omega
 |m+1,a,b,h,hs=>by
  have hS:=lQ hs;refine same_a a b hS ?_ ?_
  ·rw [IG];refine eqfG_p _ eqG a.gs b.gs (fun x hx y=>?_) hS.gl;have hG:=qQ (hS.g x hx);refine NO x y hG ?_;rw [wJ];exact YY _ U2 x.body y.body (fun u hu w=>JP m u w (by have:=gd_lt hx hu;omega) (hG.body u hu)) hG.bl
  ·rw [wJ];exact YY _ U2 a.l b.l (fun u hu w=>JP m u w (by have:=cK hu;omega) (hS.l u hu)) hS.ll
theorem TN(a b:PR)(hs:mC a):Pure prog a9 52 [aB a,aB b] (AB (U2 a b)):=JP _ a b (aa6 _) hs
theorem LM(l:List KE):bB l=l.map eB:=by rw [pD];exact ag8 fun x _=>aJ x
theorem jL(l:List PR):bC l=l.map aB:=by rw [mZ];exact ag8 fun x _=>bP x
theorem jK(l:List GD):eV l=l.map aZ:=by rw [s9];exact ag8 fun x _=>jX x
def fJ{α:Type}(enc:α->AV)(Z:AV)(l:List α)(i:Nat):List AV:=(l.take i).map enc++List.replicate (l.length-i) Z
theorem iY{α:Type}{enc:α->AV}{Z:AV}{l:List α}{i:Nat}(h:i<=l.length):(fJ enc Z l i).length=l.length:=by rw [fJ,aa7,aa0,ac3,ad4];omega
theorem sQ{α:Type}{enc:α->AV}{Z:AV}{l:List α}{i:Nat}{x:α}(hx:l[i]? =some x):(fJ enc Z l i).set i (enc x)=fJ enc Z l (i+1):=by
 have hi:i<l.length:=by
  rcases ad7 i l.length with h|h
  ·exact h
  ·rw [ab4 h] at hx;cases hx
 unfold fJ;rw [ac6,hx,al0 _ _ (by rw [aa0,ac3];omega),aa0,ac3,show i-min i l.length=0 by omega,show l.length-i=(l.length-(i+1))+1 by omega,ai7,aj0];simp
theorem pQ{α:Type}{enc:α->AV}{Z:AV}{l:List α}:fJ enc Z l l.length=l.map enc:=by rw [fJ,ac4,ah9];simp
theorem r8{gs:Ua}(f:FuncId)(l:List KE)(hcb: ∀x,x∈l->Pure prog gs f [eB x] (eB x))(hb:l.length*40<=140737488355328):Pure prog gs 41 [c8 l, .fn f [] []] (c8 l):=by
 have hsl:c8 l= .sl 6 (l.map eB) none:=by show AV.sl 6 _ none=_;rw [LM]
 rw [hsl]
 by_cases h0:l=[]
 ·subst h0;refine P_ func41 29 fun w0 h0 F hgs=>?_;refine y_ ?_;refine R_ ?_;exact .nil
 have hlp:0<l.length:=am1.2 h0;refine P_ func41 29 fun w0 h0 F hgs=>?_;refine y_ ?_;refine e_ 10 T (x':=AB false) (aA (by rw [aa0];show ((l.length:Int)==0)=false;rw [beq_eq_false_iff_ne];omega)) ?_;refine A.ad 12 T (x':=AI (l.length:Nat)) (aM (by rw [aa0])) ?_;refine A.ez T T T T T T T T T T T T (by omega) (by show (40:Int)*_<=_;omega) (by omega) fun a cp hcp=>?_;refine y_ ?_;refine A.ad 15 T (x':=AI (l.length:Nat)) (aM (by rw [aa0])) ?_;refine A.ay [1,5,14,15,16] T ?_;refine A.au (Λ':=[.row 6 (.slice a l.length cp) (fJ eB (.ag [aU 0,aU 0,aU 0,aL 0,AI 0, .v (.slice none 0 0)]) l 0)]) (by rw [fJ];rfl) ?_;refine A.ar (ι:=Nat) (fun i=>(⟨[(1, .fn f [] []),(5, .ms (.slice a l.length cp) 6 l.length),(14, .sl 6 (l.map eB) none),(15,AI (l.length:Nat)),(16,AI (i:Nat))],[]⟩,[.row 6 (.slice a l.length cp) (fJ eB (.ag [aU 0,aU 0,aU 0,aL 0,AI 0, .v (.slice none 0 0)]) l i)])) (fun i=>i<=l.length) (fun i=>l.length-i) 0 (ac0 _) T fun i hi ih=>?_;refine y_ ?_;refine k_ (fun hc=>?_) fun hc=>?_
 ·have hc':i<l.length:=by simpa using hc
  refine aX hc' fun x hx=>?_;have hx1:=hcb x (aa2 hx);refine y_ ?_;refine j_ T (aR hx) T ?_
  (refine b_ fun bx=>?_;refine y_ ?_)
  refine n_ hx1 ?_;refine A.ax T T T T T T T T (by show (0:Int)<=(i:Nat);omega) (by rw [iY hi];omega) T ?_;refine A.cd T T T T T T T T T (by show i<(fJ eB (.ag [aU 0,aU 0,aU 0,aL 0,AI 0, .v (.slice none 0 0)]) l i).length;rw [iY hi];omega) (xs':=fJ eB (.ag [aU 0,aU 0,aU 0,aL 0,AI 0, .v (.slice none 0 0)]) l (i+1)) (sQ (i:=i) hx) ?_;refine y_ ?_;refine vI 16 i ?_;refine l_ (Λ':=[.row 6 (.slice a l.length cp) (fJ eB (.ag [aU 0,aU 0,aU 0,aL 0,AI 0, .v (.slice none 0 0)]) l (i+1))]) ?_;refine u_ (ih (i+1) (by omega) (by omega))
 have hc': ¬i<l.length:=by simpa using hc
 have hil:i=l.length:=by omega
 refine A.au (Λ':=[.row 6 (.slice a l.length cp) (l.map eB)]) (by rw [hil,pQ]) ?_;refine A.cf 5 T ?_;exact rK
theorem IE{gs:Ua}(f:FuncId)(l:List PL)(hcb: ∀x,x∈l->Pure prog gs f [dU x] (dU x))(hb:l.length*32<=140737488355328):Pure prog gs 39 [iK l, .fn f [] []] (iK l):=by
 have hsl:iK l= .sl 2 (l.map dU) none:=rfl;rw [hsl]
 by_cases h0:l=[]
 ·subst h0;refine P_ func39 29 fun w0 h0 F hgs=>?_;refine y_ ?_;refine R_ ?_;exact .nil
 have hlp:0<l.length:=am1.2 h0;refine P_ func39 29 fun w0 h0 F hgs=>?_;refine y_ ?_;refine e_ 10 T (x':=AB false) (aA (by rw [aa0];show ((l.length:Int)==0)=false;rw [beq_eq_false_iff_ne];omega)) ?_;refine A.ad 12 T (x':=AI (l.length:Nat)) (aM (by rw [aa0])) ?_;refine A.ez T T T T T T T T T T T T (by omega) (by show (32:Int)*_<=_;omega) (by omega) fun a cp hcp=>?_;refine y_ ?_;refine A.ad 15 T (x':=AI (l.length:Nat)) (aM (by rw [aa0])) ?_;refine A.ay [1,5,14,15,16] T ?_;refine A.au (Λ':=[.row 2 (.slice a l.length cp) (fJ dU (.ag [AI 0, .v (.slice none 0 0)]) l 0)]) (by rw [fJ];rfl) ?_;refine A.ar (ι:=Nat) (fun i=>(⟨[(1, .fn f [] []),(5, .ms (.slice a l.length cp) 2 l.length),(14, .sl 2 (l.map dU) none),(15,AI (l.length:Nat)),(16,AI (i:Nat))],[]⟩,[.row 2 (.slice a l.length cp) (fJ dU (.ag [AI 0, .v (.slice none 0 0)]) l i)])) (fun i=>i<=l.length) (fun i=>l.length-i) 0 (ac0 _) T fun i hi ih=>?_;refine y_ ?_;refine k_ (fun hc=>?_) fun hc=>?_
 ·have hc':i<l.length:=by simpa using hc
  refine aX hc' fun x hx=>?_;have hx1:=hcb x (aa2 hx);refine y_ ?_;refine j_ T (aR hx) T ?_
  (refine b_ fun bx=>?_;refine y_ ?_)
  refine n_ hx1 ?_;refine A.ax T T T T T T T T (by show (0:Int)<=(i:Nat);omega) (by rw [iY hi];omega) T ?_;refine A.cd T T T T T T T T T (by show i<(fJ dU (.ag [AI 0, .v (.slice none 0 0)]) l i).length;rw [iY hi];omega) (xs':=fJ dU (.ag [AI 0, .v (.slice none 0 0)]) l (i+1)) (sQ (i:=i) hx) ?_;refine y_ ?_;refine vI 16 i ?_;refine l_ (Λ':=[.row 2 (.slice a l.length cp) (fJ dU (.ag [AI 0, .v (.slice none 0 0)]) l (i+1))]) ?_;refine u_ (ih (i+1) (by omega) (by omega))
 have hc': ¬i<l.length:=by simpa using hc
 have hil:i=l.length:=by omega
 refine A.au (Λ':=[.row 2 (.slice a l.length cp) (l.map dU)]) (by rw [hil,pQ]) ?_;refine A.cf 5 T ?_;exact rK
theorem ID{gs:Ua}(f:FuncId)(l:List GD)(hcb: ∀x,x∈l->Pure prog gs f [aZ x] (aZ x))(hb:l.length*160<=140737488355328):Pure prog gs 44 [rH l, .fn f [] []] (rH l):=by
 have hsl:rH l= .sl 18 (l.map aZ) none:=by show AV.sl 18 _ none=_;rw [jK]
 rw [hsl]
 by_cases h0:l=[]
 ·subst h0;refine P_ func44 29 fun w0 h0 F hgs=>?_;refine y_ ?_;refine R_ ?_;exact .nil
 have hlp:0<l.length:=am1.2 h0;refine P_ func44 29 fun w0 h0 F hgs=>?_;refine y_ ?_;refine e_ 10 T (x':=AB false) (aA (by rw [aa0];show ((l.length:Int)==0)=false;rw [beq_eq_false_iff_ne];omega)) ?_;refine A.ad 12 T (x':=AI (l.length:Nat)) (aM (by rw [aa0])) ?_;refine A.ez T T T T T T T T T T T T (by omega) (by show (160:Int)*_<=_;omega) (by omega) fun a cp hcp=>?_;refine y_ ?_;refine A.ad 15 T (x':=AI (l.length:Nat)) (aM (by rw [aa0])) ?_;refine A.ay [1,5,14,15,16] T ?_;refine A.au (Λ':=[.row 18 (.slice a l.length cp) (fJ aZ (.ag [aU 0,aU 0,aU 0,aU 0,aL 0,AI 0, .v (.slice none 0 0),AI 0,aU 0,AI 0, .v (.slice none 0 0),aU 0,aU 0,aU 0,aL 0,AI 0, .v (.slice none 0 0), .v (.slice none 0 0)]) l 0)]) (by rw [fJ];rfl) ?_;refine A.ar (ι:=Nat) (fun i=>(⟨[(1, .fn f [] []),(5, .ms (.slice a l.length cp) 18 l.length),(14, .sl 18 (l.map aZ) none),(15,AI (l.length:Nat)),(16,AI (i:Nat))],[]⟩,[.row 18 (.slice a l.length cp) (fJ aZ (.ag [aU 0,aU 0,aU 0,aU 0,aL 0,AI 0, .v (.slice none 0 0),AI 0,aU 0,AI 0, .v (.slice none 0 0),aU 0,aU 0,aU 0,aL 0,AI 0, .v (.slice none 0 0), .v (.slice none 0 0)]) l i)])) (fun i=>i<=l.length) (fun i=>l.length-i) 0 (ac0 _) T fun i hi ih=>?_;refine y_ ?_;refine k_ (fun hc=>?_) fun hc=>?_
 ·have hc':i<l.length:=by simpa using hc
  refine aX hc' fun x hx=>?_;have hx1:=hcb x (aa2 hx);refine y_ ?_;refine j_ T (aR hx) T ?_
  (refine b_ fun bx=>?_;refine y_ ?_)
  refine n_ hx1 ?_;refine A.ax T T T T T T T T (by show (0:Int)<=(i:Nat);omega) (by rw [iY hi];omega) T ?_;refine A.cd T T T T T T T T T (by show i<(fJ aZ (.ag [aU 0,aU 0,aU 0,aU 0,aL 0,AI 0, .v (.slice none 0 0),AI 0,aU 0,AI 0, .v (.slice none 0 0),aU 0,aU 0,aU 0,aL 0,AI 0, .v (.slice none 0 0), .v (.slice none 0 0)]) l i).length;rw [iY hi];omega) (xs':=fJ aZ (.ag [aU 0,aU 0,aU 0,aU 0,aL 0,AI 0, .v (.slice none 0 0),AI 0,aU 0,AI 0, .v (.slice none 0 0),aU 0,aU 0,aU 0,aL 0,AI 0, .v (.slice none 0 0), .v (.slice none 0 0)]) l (i+1)) (sQ (i:=i) hx) ?_;refine y_ ?_;refine vI 16 i ?_;refine l_ (Λ':=[.row 18 (.slice a l.length cp) (fJ aZ (.ag [aU 0,aU 0,aU 0,aU 0,aL 0,AI 0, .v (.slice none 0 0),AI 0,aU 0,AI 0, .v (.slice none 0 0),aU 0,aU 0,aU 0,aL 0,AI 0, .v (.slice none 0 0), .v (.slice none 0 0)]) l (i+1))]) ?_;refine u_ (ih (i+1) (by omega) (by omega))
 have hc': ¬i<l.length:=by simpa using hc
 have hil:i=l.length:=by omega
 refine A.au (Λ':=[.row 18 (.slice a l.length cp) (l.map aZ)]) (by rw [hil,pQ]) ?_;refine A.cf 5 T ?_;exact rK
theorem AA{gs:Ua}(f:FuncId)(l:List PR)(hcb: ∀x,x∈l->Pure prog gs f [aB x] (aB x))(hb:l.length*128<=140737488355328):Pure prog gs 43 [iQ l, .fn f [] []] (iQ l):=by
 have hsl:iQ l= .sl 8 (l.map aB) none:=by show AV.sl 8 _ none=_;rw [jL]
 rw [hsl]
 by_cases h0:l=[]
 ·subst h0;refine P_ func43 29 fun w0 h0 F hgs=>?_;refine y_ ?_;refine R_ ?_;exact .nil
 have hlp:0<l.length:=am1.2 h0;refine P_ func43 29 fun w0 h0 F hgs=>?_;refine y_ ?_;refine e_ 10 T (x':=AB false) (aA (by rw [aa0];show ((l.length:Int)==0)=false;rw [beq_eq_false_iff_ne];omega)) ?_;refine A.ad 12 T (x':=AI (l.length:Nat)) (aM (by rw [aa0])) ?_;refine A.ez T T T T T T T T T T T T (by omega) (by show (128:Int)*_<=_;omega) (by omega) fun a cp hcp=>?_;refine y_ ?_;refine A.ad 15 T (x':=AI (l.length:Nat)) (aM (by rw [aa0])) ?_;refine A.ay [1,5,14,15,16] T ?_;refine A.au (Λ':=[.row 8 (.slice a l.length cp) (fJ aB (.ag [aU 0,AI 0,AI 0,aU 0, .v (.slice none 0 0), .v (.slice none 0 0), .v (.slice none 0 0), .v (.slice none 0 0)]) l 0)]) (by rw [fJ];rfl) ?_;refine A.ar (ι:=Nat) (fun i=>(⟨[(1, .fn f [] []),(5, .ms (.slice a l.length cp) 8 l.length),(14, .sl 8 (l.map aB) none),(15,AI (l.length:Nat)),(16,AI (i:Nat))],[]⟩,[.row 8 (.slice a l.length cp) (fJ aB (.ag [aU 0,AI 0,AI 0,aU 0, .v (.slice none 0 0), .v (.slice none 0 0), .v (.slice none 0 0), .v (.slice none 0 0)]) l i)])) (fun i=>i<=l.length) (fun i=>l.length-i) 0 (ac0 _) T fun i hi ih=>?_;refine y_ ?_;refine k_ (fun hc=>?_) fun hc=>?_
 ·have hc':i<l.length:=by simpa using hc
  refine aX hc' fun x hx=>?_;have hx1:=hcb x (aa2 hx);refine y_ ?_;refine j_ T (aR hx) T ?_
  (refine b_ fun bx=>?_;refine y_ ?_)
  refine n_ hx1 ?_;refine A.ax T T T T T T T T (by show (0:Int)<=(i:Nat);omega) (by rw [iY hi];omega) T ?_;refine A.cd T T T T T T T T T (by show i<(fJ aB (.ag [aU 0,AI 0,AI 0,aU 0, .v (.slice none 0 0), .v (.slice none 0 0), .v (.slice none 0 0), .v (.slice none 0 0)]) l i).length;rw [iY hi];omega) (xs':=fJ aB (.ag [aU 0,AI 0,AI 0,aU 0, .v (.slice none 0 0), .v (.slice none 0 0), .v (.slice none 0 0), .v (.slice none 0 0)]) l (i+1)) (sQ (i:=i) hx) ?_;refine y_ ?_;refine vI 16 i ?_;refine l_ (Λ':=[.row 8 (.slice a l.length cp) (fJ aB (.ag [aU 0,AI 0,AI 0,aU 0, .v (.slice none 0 0), .v (.slice none 0 0), .v (.slice none 0 0), .v (.slice none 0 0)]) l (i+1))]) ?_;refine u_ (ih (i+1) (by omega) (by omega))
 have hc': ¬i<l.length:=by simpa using hc
 have hil:i=l.length:=by omega
 refine A.au (Λ':=[.row 8 (.slice a l.length cp) (l.map aB)]) (by rw [hil,pQ]) ?_;refine A.cf 5 T ?_;exact rK
theorem X9: ∀(m:Nat) (a:KE),SizeOf.sizeOf a<=m->uE a->Pure prog a9 42 [eB a] (eB a)
 |0,a,h,_=>by obtain ⟨k,o,t,n,v,l⟩:=a;simp only [KE.mk.sizeOf_spec] at h;omega
 |m+1,a,h,hs=>by
  have h1:Pure prog a9 41 [c8 a.l, .fn 42 [] []] (c8 a.l):=by refine r8 _ a.l (fun x hx=>X9 m x ?_ ((smK_l hs).2 x hx)) (smK_b hs);obtain ⟨k,o,t,n,v,l⟩:=a;have:=ai2 hx;simp only [KE.mk.sizeOf_spec,KE.l] at this h;omega
  refine P_ func42 8 fun _ _ _ _=>?_
  (refine b_ fun bx=>?_;refine b_ fun bx=>?_;refine y_ ?_)
  refine c_ h1 ?_;refine C_ ?_;exact .refl
theorem H8(a:KE)(hs:uE a):Pure prog a9 42 [eB a] (eB a):=X9 _ a (aa6 _) hs
theorem YB(a:PL)(hs:WJ a):Pure prog a9 40 [dU a] (dU a):=by
 have h1:Pure prog a9 41 [c8 a.ix, .fn 42 [] []] (c8 a.ix):=r8 _ a.ix (fun x hx=>H8 x (hs.2 x hx)) hs.1;refine P_ func40 8 fun _ _ _ _=>?_
 (refine b_ fun bx=>?_;refine b_ fun bx=>?_;refine y_ ?_)
 refine c_ h1 ?_;refine C_ ?_;exact .refl
theorem copG_a(a:GD)(hs:SmG a)(h4:Pure prog a9 43 [iQ a.body, .fn 20 [] []] (iQ a.body)):Pure prog a9 45 [aZ a] (aZ a):=by
 have h1:=H8 a.cond hs.cond;have h2:=H8 a.time hs.time;have h3:=YB a.to hs.to;refine P_ func45 20 fun _ _ _ _=>?_
 (refine b_ fun bx=>?_;refine b_ fun bx=>?_;refine y_ ?_)
 refine d_ 13 [0,1,3,4,6,7,9,10,2,12,5,8,11] [(2,eB a.cond),(5,eB a.time),(8,dU a.to),(11,iQ a.body)] ?_;refine lS h1 ?_;refine lS h2 ?_;refine lS h3 ?_;refine lS h4 ?_;refine z_ ?_;refine C_ ?_;exact .refl
theorem copR_a(a:PR)(hs:SmR a)(h3:Pure prog a9 43 [iQ a.l, .fn 20 [] []] (iQ a.l))(h4:Pure prog a9 44 [rH a.gs, .fn 45 [] []] (rH a.gs)):Pure prog a9 20 [aB a] (aB a):=by
 have h1:=IE (gs:=a9) 40 a.to (fun x hx=>YB x (hs.to x hx)) hs.tb;have h2:=r8 (gs:=a9) 42 a.e (fun x hx=>H8 x (hs.e x hx)) hs.eb;refine P_ func20 20 fun _ _ _ _=>?_
 (refine b_ fun bx=>?_;refine b_ fun bx=>?_;refine y_ ?_)
 refine c_ h1 ?_;refine c_ h2 ?_;refine c_ h3 ?_;refine c_ h4 ?_;refine C_ ?_;exact .refl
theorem PE: ∀(m:Nat) (a:PR),SizeOf.sizeOf a<=m->mC a->Pure prog a9 20 [aB a] (aB a)
 |0,a,h,_=>by obtain ⟨k,c,v,i,to,e,gs,l⟩:=a;simp only [PR.mk.sizeOf_spec] at h;omega
 |m+1,a,h,hs=>by have hS:=lQ hs;refine copR_a a hS (AA _ a.l (fun x hx=>PE m x (by have:=cK hx;omega) (hS.l x hx)) hS.lb) (ID _ a.gs (fun g hg=>?_) hS.gb);have hG:=qQ (hS.g g hg);exact copG_a g hG (AA _ g.body (fun x hx=>PE m x (by have:=gd_lt hg hx;omega) (hG.body x hx)) hG.bb)
theorem K7(a:PR)(hs:mC a):Pure prog a9 20 [aB a] (aB a):=PE _ a (aa6 _) hs
def aK:PR:=⟨1,0,0,0,[],[],[],[]⟩
def bL:PR:=⟨2,0,0,0,[],[],[],[]⟩
abbrev gY(k:Int):AV:= .ag [aU k,AI 0,AI 0,aU 0,iK [],c8 [],rH [],iQ []]
theorem DW(k:Int):gY k= .ag [aU k,AI 0,AI 0,aU 0, .sl 2 [] none, .sl 6 [] none, .sl 18 [] none, .sl 8 [] none]:=by show AV.ag [_,_,_,_,AV.sl 2 _ none,AV.sl 6 (bB []) none,AV.sl 18 (eV []) none,AV.sl 8 (bC []) none]=_;rw [bB,eV,bC];rfl
theorem nM:Pure prog a9 48 [] (aB aK):=by
 show Pure prog a9 48 [] (gY 1);rw [DW];refine P_ func48 2 fun _ _ _ _=>?_
 (refine b_ fun bx=>?_;refine y_ ?_);refine C_ ?_;exact .ag (.cons .refl (.cons .refl (.cons .refl (.cons .refl (.cons .nil (.cons .nil (.cons .nil (.cons .nil .refl))))))))
theorem qT:Pure prog a9 83 [] (aB bL):=by
 show Pure prog a9 83 [] (gY 2);rw [DW];refine P_ func83 2 fun _ _ _ _=>?_
 (refine b_ fun bx=>?_;refine y_ ?_);refine C_ ?_;exact .ag (.cons .refl (.cons .refl (.cons .refl (.cons .refl (.cons .nil (.cons .nil (.cons .nil (.cons .nil .refl))))))))
def cP(p:PR):Bool:=p.kind==10||p.kind==11
theorem gR(p:PR):Pure prog a9 46 [aB p] (AB (cP p)):=by
 unfold cP;refine P_ func46 11 fun _ _ _ _=>?_
 (refine b_ fun bx=>?_;refine y_ ?_)
 ((fail_if_success (refine A.lit? T ?_));refine A.gS T (fun hc=>?_) (fun hc=>?_))
 ·have hc:(p.kind==10)=true:=hc;refine y_ ?_;refine R_ ?_;rw [hc];exact .refl
 ·have hc:(p.kind==10)=false:=hc;refine y_ ?_;refine R_ ?_;rw [hc];exact .refl
def bI(p:PR):Bool:=U2 p aK
theorem YH(p:PR)(hs:mC p):Pure prog a9 47 [aB p] (AB (bI p)):=by
 have h1:=TN p aK hs;refine P_ func47 6 fun _ _ _ _=>?_
 (refine b_ fun bx=>?_;refine y_ ?_)
 refine d_ 2 [0,1] [(1,aB aK)] ?_;refine WA.c T T nM (.sub .refl) ?_;refine WA.nil (l:=[]) T ?_;exact lR h1
mutual
def aD:PR->PR
 |⟨k,c,v,i,to,e,gs,l⟩=>if k=10\/k=11 then (if (zB l).all bI=true then aK else ⟨k,c,v,i,to,e,gs,zB l⟩) else if k=9 then bY (fun l'=>⟨k,c,v,i,to,e,gs,l'⟩) l else ⟨k,c,v,i,to,e,gs,l⟩
def zB:List PR->List PR
 | []=>[] |p::r=>aD p::zB r
def bY(f:List PR->PR):List PR->PR
 | []=>aK |x::r=>match r with
  | []=>aD x |y::s=>if bI (aD x)=true then bY f r else f (aD x::y::s)
end
theorem vD: ∀l:List PR,zB l=l.map aD
 | []=>by rw [zB];rfl |p::r=>by rw [zB,vD r];rfl
mutual
def WW:PR->Prop
 |⟨_,_,_,_,_,_,_,l⟩=>l.length<=134217728/\RD l
def RD:List PR->Prop
 | []=>True |p::r=>WW p/\RD r
end
theorem N7: ∀{l:List PR},RD l-> ∀x,x∈l->WW x
 | [],_,x,h=>by cases h |y::r,hw,x,h=>by
  rw [RD] at hw;rcases ab0.1 h with rfl|h
  ·exact hw.1
  ·exact N7 hw.2 x h
theorem tgR_l{p:PR}(h:WW p):p.l.length<=134217728/\ ∀x,x∈p.l->WW x:=by obtain ⟨k,c,v,i,to,e,gs,l⟩:=p;rw [WW] at h;exact ⟨h.1,N7 h.2⟩
theorem xR: ∀{l:List PR},(∀x,x∈l->mC x)->zN l
 | [],_=>by rw [zN];trivial |y::r,h=>by rw [zN];exact ⟨h y (.head _),xR fun x hx=>h x (.tail _ hx)⟩
theorem TZ:mC aK:=by rw [aK,mC,zN,EI];exact ⟨⟨(by intro t h;cases h),(by intro t h;cases h),by decide,by decide,by decide,by decide⟩,trivial,trivial⟩
theorem GP(f:List PR->PR): ∀l:List PR,(∀x,x∈l->mC x)->(∀x,x∈l->mC (aD x))->(∀x r,(mC x)->(∀y,y∈r->mC y)->r.length+1<=l.length->mC (f (x::r)))->mC (bY f l)
 | [],_,_,_=>by rw [bY];exact TZ | [x],_,h,_=>by rw [bY];exact h x (.head _)
 |x::y::s,h0,h,hf=>by
  rw [bY];split
  ·exact GP f (y::s) (fun z hz=>h0 z (.tail _ hz)) (fun z hz=>h z (.tail _ hz)) fun z r hz hr hl=>hf z r hz hr (by rw [ab1];omega)
  ·exact hf _ _ (h x (.head _)) (fun z hz=>h0 z (.tail _ hz)) (by simp)
theorem MZ: ∀(m:Nat) (p:PR),SizeOf.sizeOf p<=m->mC p->mC (aD p)
 |0,p,h,_=>by obtain ⟨k,c,v,i,to,e,gs,l⟩:=p;simp only [PR.mk.sizeOf_spec] at h;omega
 |m+1,p,h,hs=>by
  have hS:=lQ hs;have hL: ∀x,x∈p.l->mC (aD x):=fun x hx=>MZ m x (by have:=cK hx;omega) (hS.l x hx);obtain ⟨k,c,v,i,to,e,gs,l⟩:=p;rw [mC] at hs;obtain ⟨⟨h1,h2,h3,h4,h5,h6⟩,h7,h8⟩:=hs;rw [aD];split
  ·split
   ·exact TZ
   ·rw [mC,vD,aa0];exact ⟨⟨h1,h2,h3,h4,h5,h6⟩,h7,xR fun x hx=>by rw [ac1] at hx;obtain ⟨y,hy,rfl⟩:=hx;exact hL y hy⟩
  ·split
   ·refine GP _ l hS.l hL fun x r hx hr hl=>?_;have:=ab1 (a:=x) («as» :=r);rw [mC,zN];exact ⟨⟨h1,h2,h3,h4,h5,by rw [this];omega⟩,h7,hx,xR hr⟩
   ·rw [mC];exact ⟨⟨h1,h2,h3,h4,h5,h6⟩,h7,h8⟩
theorem BI{p:PR}(h:mC p):mC (aD p):=MZ _ p (aa6 _) h
theorem f7{p:PR}(h:cP p=true):aD p=if ((p.l.map aD).all bI)=true then aK else ⟨p.kind,p.c,p.v,p.item,p.to,p.e,p.gs,p.l.map aD⟩:=by
 obtain ⟨k,c,v,i,to,e,gs,l⟩:=p;have:k=10\/k=11:=by simpa [cP] using h
 rw [aD,iT this,vD]
theorem fH{p:PR}(h:p.kind=9):aD p=bY (fun l'=>⟨p.kind,p.c,p.v,p.item,p.to,p.e,p.gs,l'⟩) p.l:=by obtain ⟨k,c,v,i,to,e,gs,l⟩:=p;have h:k=9:=h;rw [aD,iF (by omega),iT h]
theorem gX{p:PR}(h:cP p=false)(h':p.kind≠9):aD p=p:=by
 obtain ⟨k,c,v,i,to,e,gs,l⟩:=p;have h':k≠9:=h';have: ¬(k=10\/k=11):=by simpa [cP] using h
 rw [aD,iF this,iF h']
theorem XG{l:List PR}{i:Nat}{x:PR}(h:l[i]? =some x):((l.take (i+1)).map aD).all bI=(((l.take i).map aD).all bI&&bI (aD x)):=by rw [ac6,h];simp
theorem kV(x:PR)(r:List PR):bC (x::r)=aB x::bC r:=by rw [bC,bP]
theorem pM(f:List PR->PR):bY f []=aK:=by rw [bY]
theorem eC(f:List PR->PR)(x:PR):bY f [x]=aD x:=by rw [bY]
theorem fI(f:List PR->PR)(x y:PR)(s:List PR):bY f (x::y::s)=if bI (aD x)=true then bY f (y::s) else f (aD x::y::s):=by rw [bY]
def VT(x:Option Int):Prop:= ∀r,x=some r->i32 r
theorem cQ{p:Prop} [Decidable p]{x y:Option Int}(hx:VT x)(hy:VT y):VT (if p then x else y):=by split<;>assumption
theorem ok_none:VT none:=fun r h=>by cases h
theorem gJ{x:Int}(h:i32 x):VT (some x):=fun r e=>by injection e with e;subst e;exact h
theorem BM(n:Int):VT (some (vU n)):=gJ (qX n)
theorem JJ(n:Int):VT (AD n):=by
 unfold AD;split
 ·rename_i h;simp [uT] at h;exact gJ (by unfold i32;omega)
 ·exact ok_none
theorem SO:i32 0:=by unfold i32;decide
theorem iW(b:Bool):VT (some (dS b)):=gJ (by cases b<;>simp [dS,i32])
theorem tmod_in{a b:Int}(ha:i32 a)(hb:i32 b)(h: ¬b=0):i32 (a.tmod b):=by have h1:=Int.natAbs_tmod a b;have h2:a.natAbs % b.natAbs<b.natAbs:=Nat.mod_lt _ (by omega);unfold i32 at*;omega
theorem FF{o a b:Int}(ha:i32 a)(hb:i32 b):VT (eH o a b):=by
 unfold eH
 refine cQ (JJ _)<|cQ (JJ _)<|cQ (JJ _)<|cQ ?_<|cQ ?_<|cQ (BM _)<|cQ (BM _)<|cQ (BM _)<|
  cQ (gJ (qX _))<|cQ (gJ (qX _))<|cQ (gJ (qX _))<|cQ (gJ ?_)<|cQ (gJ ?_)<|cQ (iW _)<|cQ (iW _)<|cQ (iW _)<|
  cQ (iW _)<|cQ (iW _)<|cQ (iW _)<|cQ (cQ (iW _) ok_none)<|cQ (cQ (iW _) ok_none)<|cQ (iW _)<|cQ (JJ _)<|cQ (BM _)<|cQ (gJ (qX _))<|cQ (cQ (iW _) ok_none) ok_none
 ·split
  ·exact ok_none
  ·rename_i h;exact gJ (T1 ha (by simpa using h))
 ·split
  ·exact ok_none
  ·rename_i h;exact gJ (tmod_in ha hb h)
 ·unfold shlM;split
  ·exact SO
  ·exact qX _
 ·unfold shrM;split
  ·exact SO
  ·exact qX _
def OS(s:List (List Int)):Prop:= ∀r,r∈s-> ∀x,x∈r->i32 x
theorem XM{s:List (List Int)}(hs:OS s)(v i:Int):VT (A5 s v i):=by
 unfold A5;split
 ·exact ok_none
 ·intro r h;cases h1:s[v.toNat]? with
  |none=>rw [h1] at h;cases h |some l=>rw [h1] at h;exact hs l (aa2 h1) r (aa2 h)
theorem X8{t v:Int}(h:i32 v):VT (CH t v):=by
 unfold CH;split
 ·exact gJ h
 ·exact ok_none
def PO(o a:Int):Bool:=(o==20&&a==0)||(o==21&&a==1)
def d7(s:List (List Int))(k o t n v:Int)(vs:List (Option Int)):Option Int:=
 if k=1 then some n else if k=2 then A5 s v 0 else match vs with
 |some a::r=>if k=3 then A5 s v a else if k=4 then eH o a 0 else if k=6 then CH t a else if PO o a then some a else match r with
  |some b::_=>eH o a b |_=>none
 |_=>none
theorem IY(o a:Int):(bif bif o==20 then a==0 else false then true else bif o==21 then a==1 else false)=PO o a:=by unfold PO;cases (o==20)<;>cases (a==0)<;>cases (o==21)<;>rfl
mutual
def cM(s:List (List Int)):KE->Option Int
 |⟨k,o,t,n,v,l⟩=>d7 s k o t n v (dX s l)
def dX(s:List (List Int)):List KE->List (Option Int)
 | []=>[] |e::r=>cM s e::dX s r
end
theorem mV{s:List (List Int)}(hs:OS s): ∀(N:Nat) (e:KE),sz e<=N->iZ e->fine e=true->VT (cM s e)
 |0,e,hn,_,_=>by have:=gH e;omega |N+1,e,hn,hw,hf=>by
  have hb0:=SO;rcases dQ hf with ⟨n,rfl⟩|⟨v,h1,h2,rfl⟩|⟨v,a,h1,h2,h3,rfl⟩|⟨o,a,h1,h2,h3,rfl⟩|⟨o,a,b,h1,h2,h3,h4,rfl⟩|⟨t,a,h1,h2,h3,rfl⟩
  ·simp [cM,dX,d7];simp only [iZ] at hw;exact gJ hw.1.2.2.2.1
  ·simp [cM,dX,d7];exact XM hs _ _
  ·cases ha:cM s a<;>simp [cM,dX,d7,ha]
   ·exact ok_none
   ·exact XM hs _ _
  ·simp only [sz,jQ] at hn;have ih:=mV hs N a (by omega) (OJ hw) h3;cases ha:cM s a<;>simp [cM,dX,d7,ha]
   ·exact ok_none
   ·exact FF (ih _ ha) hb0
  ·simp only [sz,jQ] at hn;have:=gH a;have:=gH b;have ih:=mV hs N a (by omega) (OK hw).1 h3;have ih2:=mV hs N b (by omega) (OK hw).2 h4;cases ha:cM s a<;>simp [cM,dX,d7,ha]
   ·exact ok_none
   ·split
    ·exact gJ (ih _ ha)
    ·cases hb:cM s b
     ·exact ok_none
     ·exact FF (ih _ ha) (ih2 _ hb)
  ·simp only [sz,jQ] at hn;have ih:=mV hs N a (by omega) (OJ hw) h3;cases ha:cM s a<;>simp [cM,dX,d7,ha]
   ·exact ok_none
   ·exact X8 (ih _ ha)
def bV(s:List (List Int))(e:KE):Option Int:=if valid e then cM s e else none
theorem HM{s:List (List Int)}(hs:OS s){e:KE}(hw:iZ e):VT (bV s e):=by
 unfold bV;split
 ·rename_i h;exact mV hs _ e (aa6 _) hw h.1
 ·exact ok_none
theorem tR(s:List (List Int))(hs:OS s): ∀(N:Nat) (e:KE),sz e<=N->iZ e->fine e=true->Pure prog a9 122 [eQ s,eE e] (vF (cM s e))
 |0,e,hn,_,_=>by have:=gH e;omega |N+1,e,hn,hw,hf=>by
  have hb0:=SO;rcases dQ hf with ⟨n,rfl⟩|⟨v,h1,h2,rfl⟩|⟨v,a,h1,h2,h3,rfl⟩|⟨o,a,h1,h2,h3,rfl⟩|⟨o,a,b,h1,h2,h3,h4,rfl⟩|⟨t,a,h1,h2,h3,rfl⟩
  ·simp only [eE,bB];refine P_ func122 105 fun _ _ _ _=>?_
   (refine b_ fun bx=>?_;refine y_ ?_);refine q_ ?_;exact .refl
  ·simp only [eE,bB];refine P_ func122 105 fun _ _ _ _=>?_
   (refine b_ fun bx=>?_;refine y_ ?_);refine c_ (OZ _ _ _) ?_;refine q_ ?_;exact .refl
  ·simp only [sz,jQ] at hn;have ih:=tR s hs N a (by omega) (OJ hw) h3;have hi:=mV hs N a (by omega) (OJ hw) h3;rw [aJ] at ih;simp only [eE,bB];cases ha:cM s a with
   |none=>
    rw [ha] at ih;have e:cM s ⟨3,0,0,0,v,[a]⟩=none:=by simp [cM,dX,d7,ha]
    rw [e];refine P_ func122 105 fun _ _ _ _=>?_
    (refine b_ fun bx=>?_;refine y_ ?_)
    refine j_ T T T ?_;refine e_ 27 T (gE a) ?_;refine c_ (ih) ?_;refine q_ ?_;exact .refl
   |some x=>
    rw [ha] at ih;have hx:=hi x ha;have e:cM s ⟨3,0,0,0,v,[a]⟩=A5 s v x:=by simp [cM,dX,d7,ha]
    rw [e];refine P_ func122 105 fun _ _ _ _=>?_
    (refine b_ fun bx=>?_;refine y_ ?_)
    refine j_ T T T ?_;refine e_ 27 T (gE a) ?_;refine c_ (ih) ?_;refine A.ad 42 T (x':=AI x) (aM (nS hx)) ?_;refine c_ (OZ _ _ _) ?_;refine q_ ?_;exact .refl
  ·simp only [sz,jQ] at hn;have ih:=tR s hs N a (by omega) (OJ hw) h3;have hi:=mV hs N a (by omega) (OJ hw) h3;rw [aJ] at ih;simp only [eE,bB];cases ha:cM s a with
   |none=>
    rw [ha] at ih;have e:cM s ⟨4,o,0,0,0,[a]⟩=none:=by simp [cM,dX,d7,ha]
    rw [e];refine P_ func122 105 fun _ _ _ _=>?_
    (refine b_ fun bx=>?_;refine y_ ?_)
    refine j_ T T T ?_;refine e_ 27 T (gE a) ?_;refine c_ (ih) ?_;refine q_ ?_;exact .refl
   |some x=>
    rw [ha] at ih;have hx:=hi x ha;have e:cM s ⟨4,o,0,0,0,[a]⟩=eH o x 0:=by simp [cM,dX,d7,ha]
    rw [e];refine P_ func122 105 fun _ _ _ _=>?_
    (refine b_ fun bx=>?_;refine y_ ?_)
    refine j_ T T T ?_;refine e_ 27 T (gE a) ?_;refine c_ (ih) ?_;refine c_ (RW o x 0 hx hb0) ?_;refine c_ (Q3 _ _) ?_;refine q_ ?_;cases eH o x 0<;>exact .refl
  ·simp only [sz,jQ] at hn;have:=gH a;have:=gH b;have ih:=tR s hs N a (by omega) (OK hw).1 h3;have ih2:=tR s hs N b (by omega) (OK hw).2 h4;have hi:=mV hs N a (by omega) (OK hw).1 h3;have hi2:=mV hs N b (by omega) (OK hw).2 h4;rw [aJ] at ih ih2;simp only [eE,bB];cases ha:cM s a with
   |none=>
    rw [ha] at ih;have e:cM s ⟨5,o,0,0,0,[a,b]⟩=none:=by simp [cM,dX,d7,ha]
    rw [e];refine P_ func122 105 fun _ _ _ _=>?_
    (refine b_ fun bx=>?_;refine y_ ?_)
    refine j_ T T T ?_;refine e_ 27 T (gE a) ?_;refine c_ (ih) ?_;refine q_ ?_;exact .refl
   |some x=>
    rw [ha] at ih;have hx:=hi x ha
    by_cases hsh:PO o x=true
    ·have e:cM s ⟨5,o,0,0,0,[a,b]⟩=some x:=by simp [cM,dX,d7,ha,hsh]
     rw [e];refine P_ func122 105 fun _ _ _ _=>?_
     (refine b_ fun bx=>?_;refine y_ ?_)
     refine j_ T T T ?_;refine e_ 27 T (gE a) ?_;refine n_ (ih) ?_;refine g_ ?_;refine e_ 82 T (x':=AB true) (aA ((IY o x).trans hsh)) ?_;refine q_ ?_;exact .refl
    ·have hsf:PO o x=false:=by simpa using hsh
     cases hb:cM s b with
     |none=>
      rw [hb] at ih2;have e:cM s ⟨5,o,0,0,0,[a,b]⟩=none:=by simp [cM,dX,d7,ha,hb,hsf]
      rw [e];refine P_ func122 105 fun _ _ _ _=>?_
      (refine b_ fun bx=>?_;refine y_ ?_)
      refine j_ T T T ?_;refine e_ 27 T (gE a) ?_;refine n_ (ih) ?_;refine g_ ?_;refine e_ 82 T (x':=AB false) (aA ((IY o x).trans hsf)) ?_;refine j_ T T T ?_;refine e_ 88 T (gE b) ?_;refine c_ (ih2) ?_;refine q_ ?_;exact .refl
     |some y=>
      rw [hb] at ih2;have hy:=hi2 y hb;have e:cM s ⟨5,o,0,0,0,[a,b]⟩=eH o x y:=by simp [cM,dX,d7,ha,hb,hsf]
      rw [e];refine P_ func122 105 fun _ _ _ _=>?_
      (refine b_ fun bx=>?_;refine y_ ?_)
      refine j_ T T T ?_;refine e_ 27 T (gE a) ?_;refine n_ (ih) ?_;refine g_ ?_;refine e_ 82 T (x':=AB false) (aA ((IY o x).trans hsf)) ?_;refine j_ T T T ?_;refine e_ 88 T (gE b) ?_;refine c_ (ih2) ?_;refine c_ (RW o x y hx hy) ?_;refine c_ (Q3 _ _) ?_;refine q_ ?_;cases eH o x y<;>exact .refl
  ·simp only [sz,jQ] at hn;have ih:=tR s hs N a (by omega) (OJ hw) h3;rw [aJ] at ih;simp only [eE,bB];cases ha:cM s a with
   |none=>
    rw [ha] at ih;have e:cM s ⟨6,0,t,0,0,[a]⟩=none:=by simp [cM,dX,d7,ha]
    rw [e];refine P_ func122 105 fun _ _ _ _=>?_
    (refine b_ fun bx=>?_;refine y_ ?_)
    refine j_ T T T ?_;refine e_ 27 T (gE a) ?_;refine c_ (ih) ?_;refine q_ ?_;exact .refl
   |some x=>
    rw [ha] at ih;have e:cM s ⟨6,0,t,0,0,[a]⟩=CH t x:=by simp [cM,dX,d7,ha]
    rw [e,FT];refine P_ func122 105 fun _ _ _ _=>?_
    (refine b_ fun bx=>?_;refine y_ ?_)
    refine j_ T T T ?_;refine e_ 27 T (gE a) ?_;refine c_ (ih) ?_;refine n_ (ZA _ _) ?_;refine c_ (Q3 _ _) ?_;refine q_ ?_;exact .refl
theorem sY(s:List (List Int))(hs:OS s)(e:KE)(hw:iZ e):Pure prog a9 107 [eQ s,eE e] (vF (bV s e)):=by
 have hp:=YZ e hw;have hv:=fun h=>tR s hs _ e (aa6 _) hw h;rw [aJ] at hp⊢;simp only [aJ] at hv
 by_cases h:valid e
 ·have hv:=hv h.1;rw [bV,iT h];rw [decide_eq_true h] at hp;refine P_ func107 14 fun _ _ _ _=>?_
  (refine b_ fun bx=>?_;refine y_ ?_);refine c_ (hp) ?_;refine c_ (hv) ?_;refine q_ ?_;exact .refl
 ·rw [bV,iF h];rw [decide_eq_false h] at hp;refine P_ func107 14 fun _ _ _ _=>?_
  (refine b_ fun bx=>?_;refine y_ ?_);refine c_ (hp) ?_;refine q_ ?_;exact .refl
abbrev lX(n:Int):KE:=⟨1,0,0,n,0,[]⟩
def lens(s:List (List Int)):Nat:=(s.map List.length).sum
abbrev encP(v:Int)(l:List KE):AV:= .ag [AI v, .sl 6 (bB l) none]
def cZ(s:List (List Int))(v:Int):List KE->Option (Int×Int)
 | []=>if (A5 s v 0).isSome then some (v,0) else none | [e]=>match bV s e with
   |some x=>if (A5 s v x).isSome then some (v,x) else none |none=>none
 |_=>none
abbrev QI(x:Option (Int×Int)):AV:= .tp [AI (x.getD (0,0)).1,AI (x.getD (0,0)).2,AB x.isSome]
theorem HQ(s:List (List Int))(hs:OS s)(v:Int)(l:List KE)(hw:oY l)(hn:l.length<=281474976710656):Pure prog a9 82 [eQ s,encP v l] (QI (cZ s v l)):=by
 have hl:=bF l
 match l,hw,hn,hl with
 | [],hw,hn,hl=>
   unfold cZ;cases h:A5 s v 0 with
   |none=>
    have hp:=OZ s v 0;rw [h] at hp;refine P_ func82 42 fun _ _ _ _=>?_
    (refine b_ fun bx=>?_;refine y_ ?_);refine c_ (hp) ?_;refine A.fv (Λ':=[]) T T T T T (ae1 _) ⟨?_,rfl⟩;exact .refl
   |some y=>
    have hp:=OZ s v 0;rw [h] at hp;refine P_ func82 42 fun _ _ _ _=>?_
    (refine b_ fun bx=>?_;refine y_ ?_);refine c_ (hp) ?_;refine A.fv (Λ':=[]) T T T T T (ae1 _) ⟨?_,rfl⟩;exact .refl
 | [e],hw,hn,hl=>
   unfold cZ;simp only [oY] at hw;have hv:=sY s hs e hw.1;rw [aJ] at hv;simp only [encP,bB];cases hx:bV s e with
   |none=>
    rw [hx] at hv;refine P_ func82 42 fun _ _ _ _=>?_
    (refine b_ fun bx=>?_;refine y_ ?_)
    refine j_ T T T ?_;refine e_ 20 T (gE e) ?_;refine c_ (hv) ?_;refine A.fv (Λ':=[]) T T T T T (ae1 _) ⟨?_,rfl⟩;exact .refl
   |some x=>
    rw [hx] at hv;have hxi:=HM hs hw.1 x hx;cases h:A5 s v x with
    |none=>
     have hp:=OZ s v x;rw [h] at hp;simp only [h];refine P_ func82 42 fun _ _ _ _=>?_
     (refine b_ fun bx=>?_;refine y_ ?_)
     refine j_ T T T ?_;refine e_ 20 T (gE e) ?_;refine c_ (hv) ?_;refine A.ad 33 T (x':=AI x) (aM (nS hxi)) ?_;refine c_ (hp) ?_;refine A.fv (Λ':=[]) T T T T T (ae1 _) ⟨?_,rfl⟩;exact .refl
    |some y=>
     have hp:=OZ s v x;rw [h] at hp;simp only [h];refine P_ func82 42 fun _ _ _ _=>?_
     (refine b_ fun bx=>?_;refine y_ ?_)
     refine j_ T T T ?_;refine e_ 20 T (gE e) ?_;refine c_ (hv) ?_;refine A.ad 33 T (x':=AI x) (aM (nS hxi)) ?_;refine A.ad 5 T (x':=AI x) (aM (nS hxi)) ?_;refine c_ (hp) ?_;refine A.fv (Λ':=[]) T T T T T (ae1 _) ⟨?_,rfl⟩;exact .refl
 |e::b::r,hw,hn,hl=>
  unfold cZ;refine P_ func82 42 fun _ _ _ _=>?_
  (refine b_ fun bx=>?_;refine y_ ?_);refine A.fv (Λ':=[]) T T T T T (ae1 _) ⟨?_,rfl⟩;exact .refl
abbrev SH(s:Nat×Nat):Value:= .slice (some ⟨s.1,0,none⟩) 0 s.2
theorem grow_p(n:Nat)(hn0:0<n)(hn1:n<=1073741824):gM prog a9 67 [.v (.slice none 0 0),AI (n:Nat)] [] (fun s:Nat×Nat=> .sl ty31.size [] (some (SH s))) (fun s=>[.tail ty31.size (SH s)]) (fun _=>True):=by refine lI.of (S:=tt) (fn:=f67) (n:=27) dN func67 T T T T fun w0 h0 F hgs=>?_;refine y_ ?_;refine A.ad 6 T (x':=AB false) (aA (by rw [dF];omega)) ?_;refine A.cap T T T T T T ?_;refine y_ ?_;refine A.ad 15 T (x':=AI (n:Nat)) (aM (by rw [show IntKind.i64.wrap (((0:Nat):Int)-((0:Nat):Int))=0 from by decide,au0];exact fZ _ (by omega))) ?_;refine A.ad 16 T (x':=AB true) (aA (by rw [show IntKind.i64.wrap (((0:Nat):Int)-((0:Nat):Int))=0 from by decide,au0,fZ _ (by omega),decide_eq_true_iff];omega)) ?_;refine e_ 1 T (x':=AI (n:Nat)) (aM (by rw [show IntKind.i64.wrap (((0:Nat):Int)-((0:Nat):Int))=0 from by decide,au0];exact fZ _ (by omega))) ?_;refine A.cap T T T T T T ?_;refine A.ff T T T T T T T T (by decide) (by decide) (by decide) (by simp) T T ?_;refine y_ ?_;refine A.fk T T T T T T T T T T T T T T hn0 hn1 fun b cp hcp=>?_;refine y_ ?_;refine A.ff T T T T T T T T (by decide) (by decide) (by show (0:Int)<=(cp:Nat);omega) (by simp) T T ?_;refine y_ ?_;refine A.ad 4 T (x':= .v (SH (b,cp))) (by congr 1;show Value.slice (if cp=0 then _ else _) _ _=_;by_cases hc0:cp=0<;>simp [hc0,SH,Go.Addr.add]) ?_;refine A.il 4 ty31.size T ?_;refine A.az (Λ':=[.tail _ _]) T T T kK ⟨(b,cp), .refl,rfl,trivial⟩
theorem X7(a b:List AV)(h0:0<a.length)(hab:a.length+b.length<=134217728):Pure prog a9 49 [.sl 1 [.sl 8 a none, .sl 8 b none] none] (.sl 8 (a++b) none):=by have hg:=grow_p (a.length+b.length) (by omega) (by omega);refine P_ func49 36 fun w0 h0 F hgs=>?_;refine y_ ?_;refine A.bh ?_;refine y_ ?_;refine i_ T T T ?_;refine A.ad 18 T (x':=AI (a.length:Nat)) (aM (by rw [au1];exact fZ _ (by omega))) ?_;refine A.ad 3 T (x':=AI (a.length:Nat)) (aM (by rw [au1];exact fZ _ (by omega))) ?_;refine e_ 20 T (x':=AB false) (aA (by rw [au1,fZ _ (by omega),dF];omega)) ?_;refine A.again ?_;refine y_ ?_;refine i_ T T T ?_;refine A.ad 18 T (x':=AI ((a.length+b.length:Nat):Int)) (aM (by rw [as7];exact fZ _ (by omega))) ?_;refine A.ad 3 T (x':=AI ((a.length+b.length:Nat):Int)) (aM (by rw [as7];exact fZ _ (by omega))) ?_;refine e_ 20 T (x':=AB false) (aA (by rw [fZ _ (by omega),dF];omega)) ?_;refine A.again ?_;refine y_ ?_;refine A.e T hg .refl (List.Perm.refl _) fun s _=>?_;refine y_ ?_;refine A.bh ?_;refine y_ ?_;refine i_ T T T ?_;refine A.append T T T T T T T T T T T T T T (by show (0+a.length)*8<=_;omega) fun z1=>?_;refine y_ ?_;refine A.again ?_;refine y_ ?_;refine i_ T T T ?_;refine A.append T T T T T T T T T T T T T T (by show (([]++a).length+b.length)*8<=_;rw [ah8];omega) fun z2=>?_;refine y_ ?_;refine A.again ?_;refine y_ ?_;refine R_ ?_;exact .cw
abbrev A2(n:Int):AV:= .v (.int .u64 n)
theorem wrU(n:Nat)(hn:n<18446744073709551616):IntKind.u64.wrap (n:Nat)=(n:Nat):=by show ((n:Int) % 18446744073709551616)=_;omega
theorem Z2(n:Nat)(hn:n<4294967296):bitsOf .and .u64 (n:Nat) 4294967295=(n:Nat):=by
 have h1:BitVec.ofInt 64 ((n:Nat):Int)=BitVec.ofNat 64 n:=by rw [BitVec.ofInt_natCast]
 have h2:BitVec.ofInt 64 4294967295=BitVec.ofNat 64 4294967295:=rfl;show IntKind.u64.wrap ((BitVec.ofInt 64 ((n:Nat):Int)&&&BitVec.ofInt 64 4294967295).toNat:Int)=_;rw [h1,h2,BitVec.toNat_and,BitVec.toNat_ofNat,BitVec.toNat_ofNat,ap7 (by omega),ap7 (by omega),show (4294967295:Nat)=2^32-1 from rfl,Nat.and_two_pow_sub_one_eq_mod,ap7 (by omega)];exact wrU n (by omega)
theorem C2(n:Nat)(hn:n<4294967296):J7 .shr .u64 (n:Nat) 32=0:=by show ((n:Nat):Int).fdiv 4294967296=0;rw [Int.fdiv_eq_ediv_of_nonneg _ (by decide)];omega
theorem jT{a b:Int}(h:a=b):A2 a=A2 b:=by rw [h]
theorem mul64_p(n:Nat)(hn:n<4294967296):Pure prog a9 131 [A2 1,A2 (n:Nat)] (.tp [A2 0,A2 (n:Nat)]):=by refine P_ func131 51 fun _ _ _ _=>?_;refine y_ ?_;refine A.ad 6 T (x':=A2 1) (jT (Z2 1 (by omega))) ?_;refine A.shift T T T T T T (by decide) ?_;refine e_ 17 T (x':=A2 0) (jT (C2 1 (by omega))) ?_;refine A.ad 8 T (x':=A2 (n:Nat)) (jT (Z2 n hn)) ?_;refine A.shift T T T T T T (by decide) ?_;refine e_ 21 T (x':=A2 0) (jT (C2 n hn)) ?_;refine A.ad 10 T (x':=A2 (n:Nat)) (jT (by rw [au3];exact wrU n (by omega))) ?_;refine A.shift T T T T T T (by decide) ?_;refine A.ad 29 T (x':=A2 0) (jT (by rw [au3,wrU n (by omega)];exact C2 n hn)) ?_;refine e_ 27 T (x':=A2 0) (jT (by rw [Int.zero_mul];rfl)) ?_;refine A.ad 11 T (x':=A2 0) (jT T) ?_;refine A.ad 12 T (x':=A2 0) (jT (Z2 0 (by omega))) ?_;refine A.shift T T T T T T (by decide) ?_;refine e_ 34 T (x':=A2 0) (jT (C2 0 (by omega))) ?_;refine A.ad 12 T (x':=A2 0) (jT T) ?_;refine A.shift T T T T T T (by decide) ?_;refine e_ 46 T (x':=A2 0) (jT (C2 0 (by omega))) ?_;refine q_ ?_;refine Sb.eq ?_;rw [au3,wrU n (by omega)];rfl
theorem mul_p(n:Nat)(hn:n<4294967296):Pure prog a9 120 [A2 1,A2 (n:Nat)] (.tp [A2 0,A2 (n:Nat)]):=by refine P_ func120 30 fun _ _ _ _=>?_;refine y_ ?_;refine c_ (mul64_p n hn) ?_;refine q_ ?_;exact .refl
abbrev rN:AV:= .ag [aU 1,AI 0,AI 0,aU 0, .sl 2 [] none, .sl 6 [] none, .sl 18 [] none, .sl 8 [] none]
abbrev KB:AV:= .ag [aU 0,AI 0,AI 0,aU 0, .v (.slice none 0 0), .v (.slice none 0 0), .v (.slice none 0 0), .v (.slice none 0 0)]
theorem rep_step(n k:Nat)(hk:k<=n):(List.replicate k rN++List.replicate (n-k) KB).take k++(((List.replicate k rN++List.replicate (n-k) KB).drop 0).take (min k (n-k))++(List.replicate k rN++List.replicate (n-k) KB).drop (k+min k (n-k)))=List.replicate (k+min k (n-k)) rN++List.replicate (n-(k+min k (n-k))) KB:=by
 have h1:(List.replicate k rN++List.replicate (n-k) KB).take k=List.replicate k rN:=by rw [List.take_append_of_le_length (by rw [ad4];omega),List.take_of_length_le (by rw [ad4];omega)]
 have h2:(List.replicate k rN++List.replicate (n-k) KB).take (min k (n-k))=List.replicate (min k (n-k)) rN:=by rw [List.take_append_of_le_length (by rw [ad4];omega),List.take_replicate,Nat.min_eq_left (by omega)]
 have h3:(List.replicate k rN++List.replicate (n-k) KB).drop (k+min k (n-k))=List.replicate (n-(k+min k (n-k))) KB:=by rw [List.drop_append,ad4,List.drop_eq_nil_of_le (by rw [ad4];omega),ah8,List.drop_replicate];congr 1;omega
 rw [List.drop_zero,h1,h2,h3,<-List.append_assoc,List.replicate_append_replicate]
theorem NF(n:Nat)(hn:n<134217728):Pure prog a9 105 [.sl 8 [rN] none,AI (n:Nat)] (.sl 8 (List.replicate n rN) none):=by
 refine P_ func105 48 fun _ _ _ _=>?_;refine y_ ?_;refine A.ad 10 T (x':=AB false) (aA (by rw [dF];omega)) ?_;refine A.ad 17 T (x':=A2 (n:Nat)) (jT (wrU n (by omega))) ?_;refine A.ad 15 T (x':=A2 1) (jT T) ?_;refine c_ (mul_p n (by omega)) ?_;refine e_ 26 T (x':=AB false) (aA (by show decide (9223372036854775807<(n:Int))=false;rw [dF];omega)) ?_;refine A.ad 29 T (x':=AI (n:Nat)) (aM (fZ _ (by omega))) ?_;refine A.ez T T T T T T T T T T T T (by omega) (by show (128:Int)*_<=_;omega) (by omega) fun a cp hcp=>?_;have hcp:n<=cp:=by simpa using hcp
 refine A.ad 30 T (x':= .ms (.slice a n cp) 8 n) (by rw [ad9];rfl) ?_;refine A.au (Λ':=[.row 8 (.slice a n cp) (List.replicate n KB)]) (by rw [ad9];rfl) ?_;refine y_ ?_
 by_cases hn0:n=0
 ·subst hn0;refine A.jl T T T T T T T T T ?_;refine y_ ?_;refine A.bh ?_;refine y_ ?_;refine A.cf 4 T ?_;exact r_
 refine A.fm (a:=a) (n:=n) (c:=cp) (sz:=8) (l:=List.replicate n KB) (by intro h;have:=congrArg List.length h;rw [ad4] at this;exact hn0 this) fun b o ha=>?_;subst ha;refine A.iu (l1:=List.replicate n KB) T T T T T T T T T T T T (by intro h;have:=congrArg List.length h;rw [ad4] at this;exact hn0 this) (by rw [ad4];show 1<=n;omega) ?_;refine y_ ?_;refine A.km 7 T T ?_;have e0:[rN]++(List.replicate n KB).drop [rN].length=List.replicate 1 rN++List.replicate (n-1) KB:=by rw [List.drop_replicate];rfl
 refine A.au (Λ':=[.row 8 (.slice (some ⟨b,o,none⟩) n cp) (List.replicate 1 rN++List.replicate (n-1) KB)]) (by rw [e0]) ?_;refine A.ad 8 T (x':=AI ((1:Nat):Int)) (aM T) ?_;refine A.ay [7,8] T ?_;refine A.ar (ι:=Nat) (fun k=>(⟨[(7, .v (.slice (some ⟨b,o,none⟩) n cp)),(8,AI (k:Nat))],[]⟩,[.row 8 (.slice (some ⟨b,o,none⟩) n cp) (List.replicate k rN++List.replicate (n-k) KB)])) (fun k=>1<=k/\k<=n) (fun k=>n-k) 1 (by omega) T fun k hk ih=>?_;obtain ⟨hk1,hk2⟩:=hk;refine y_ ?_;refine k_ (fun hc=>?_) fun hc=>?_
 ·have hc:k<n:=by simpa using hc
  have hlen:(List.replicate k rN++List.replicate (n-k) KB).length=n:=by rw [aa7,ad4,ad4];omega
  refine y_ ?_;refine A.jq 7 8 (.slice (some ⟨b,o,none⟩) n cp) 9 [0,1,2,3,4,5,6,7,8] DK [] (by decide) (by kernel_rfl) (by kernel_rfl) ?_;refine w_ ?_;refine WA.ff T T T T T T T T T (by omega) (by omega) (by omega) (fun _=>hcp) (y:= .slice (some ⟨b,o+k*8,none⟩) (n-k) (cp-k)) ?_ T ?_
  ·show Value.slice (if cp=k then _ else _) _ _=_;rw [iF (by omega)];simp only [ad9,Option.map_some,Go.Addr.add];rw [iF (by show¬k*8=0;omega)]
   rfl
  refine w_ ?_;refine WA.ff T T T T T T T T T (by omega) (by omega) (by omega) (fun h=>by cases h) (y:= .slice (some ⟨b,o+0*8,none⟩) k cp) ?_ T ?_
  ·show Value.slice (if cp=0 then _ else _) _ _=_;rw [iF (by omega)];simp [Go.Addr.add]
  refine WA.copy (l':=List.replicate (k+ao0 k (n-k)) rN++List.replicate (n-(k+ao0 k (n-k))) KB) k 0 (ao0 k (n-k)) T T T T T T T T T T T T T T T T T T T T T ?_ ?_ (by intro h;have:=congrArg List.length h;rw [hlen] at this;exact hn0 this) ?_ ?_
  ·rw [hlen];have:=an8 k (n-k);show k+min k (n-k)<=n;omega
  ·rw [hlen];have:=an8 k (n-k);show 0+min k (n-k)<=n;omega
  ·exact rep_step n k hk2
  refine w_ ?_;refine WA.ad 46 T (x':=AI ((k+min k (n-k):Nat):Int)) (aM (by rw [as7];exact fZ _ (by have h:ao0 k (n-k)<=n-k:=an8 _ _;omega))) ?_;refine WA.nil (l:=[_]) T ?_;refine y_ ?_;refine l_ (Λ':=[.row 8 (.slice (some ⟨b,o,none⟩) n cp) (List.replicate (k+min k (n-k)) rN++List.replicate (n-(k+min k (n-k))) KB)]) ?_;refine u_ (ih (k+min k (n-k)) (by have:=an8 k (n-k);omega) (by have h1:1<=min k (n-k):=(by omega);have h2:=an8 k (n-k);show n-(k+min k (n-k))<n-k;omega))
 have hc: ¬k<n:=by simpa using hc
 have hkn:k=n:=by omega
 subst hkn;refine A.au (Λ':=[.row 8 (.slice (some ⟨b,o,none⟩) k cp) (List.replicate k rN)]) (by rw [ah9,List.replicate_zero,List.append_nil]) ?_;refine y_ ?_;refine A.ko 4 8 T ?_;refine A.cf 4 T ?_;exact r_
theorem rowE_at{α:Type}{enc:α->AV}{Z:AV}{l:List α}{i:Nat}{x:α}(hx:l[i]? =some x):(fJ enc Z l (i+1))[i]? =some (enc x):=by
 have hi:i<l.length:=by
  rcases ad7 i l.length with h|h
  ·exact h
  ·rw [ab4 h] at hx;cases hx
 rw [fJ,List.getElem?_append_left (by rw [aa0,ac3];omega),ab9,List.getElem?_take_of_lt (by omega),hx];rfl
theorem pnormP_a(p:PR)(hk:cP p=true)(hs:mC p)(hrec: ∀x,x∈p.l->Pure prog a9 21 [aB x] (aB (aD x))):Pure prog a9 21 [aB p] (aB (aD p)):=by
 have h1:=gR p;rw [hk] at h1;have hlen:((bC p.l).length:Int)=p.l.length:=by rw [aW]
 have hS:=lQ hs;have hlb:=hS.lb;refine eX (aD p) fun R hR=>?_;rw [<-hR];rw [f7 hk] at hR;refine P_ func21 74 fun _ _ _ _=>?_;refine b_ fun b1=>?_;refine A.b T fun b2=>?_;refine y_ ?_;refine c_ h1 ?_;refine A.ad 14 T (x':=AI (p.l.length:Nat)) (aM hlen) ?_;refine A.ez T T T T T T T T T T T T (by omega) (by show (128:Int)*_<=_;omega) (by omega) fun a cp hcp=>?_;refine e_ 15 T (x':= .ms (.slice a p.l.length cp) 8 p.l.length) (by rw [ad9];rfl) ?_;refine A.ad 18 T (x':=AI (p.l.length:Nat)) (aM hlen) ?_;refine A.ay [1,2,3,4,17,18,19] T ?_;refine eX (AV.ag [aU 0,AI 0,AI 0,aU 0, .v (.slice none 0 0), .v (.slice none 0 0), .v (.slice none 0 0), .v (.slice none 0 0)]) fun Z hZ=>?_;refine A.au (Λ':=[.row 8 (.slice a p.l.length cp) (fJ (fun x=>aB (aD x)) Z p.l 0), .box b2 Z, .box b1 (aB p)]) (by rw [hZ,fJ,ad9];rfl) ?_
 refine A.ar (ι:=Nat) (fun i=>(⟨[(1, .v (.pointer (some ⟨b1,0,none⟩))),(2, .v (.pointer (some ⟨b2,0,none⟩))),(3, .ms (.slice a p.l.length cp) 8 p.l.length),(4,AB (((p.l.take i).map aD).all bI)),(17,iQ p.l),(18,AI (p.l.length:Nat)),(19,AI (i:Nat))],[]⟩,[.row 8 (.slice a p.l.length cp) (fJ (fun x=>aB (aD x)) Z p.l i), .box b2 Z, .box b1 (aB p)]))
  (fun i=>i<=p.l.length) (fun i=>p.l.length-i) 0 (ac0 _) T fun i hi ih=>?_
 refine y_ ?_;refine k_ (fun hc=>?_) fun hc=>?_
 ·have hci:i<p.l.length:=by simpa using hc
  clear hc;refine aX hci fun x hx=>?_;have hx1:=hrec x (aa2 hx);have hx2:=YH (aD x) (BI (hS.l x (aa2 hx)));have hta:=XG hx;have hat:=rowE_at (enc:=fun x=>aB (aD x)) (Z:=Z) hx;have hln:(fJ (fun x=>aB (aD x)) Z p.l i).length=p.l.length:=iY hi;have hln':(fJ (fun x=>aB (aD x)) Z p.l (i+1)).length=p.l.length:=iY (by omega);refine y_ ?_;refine j_ T (cF hx) (bP x) ?_
  (refine b_ fun bx=>?_;refine y_ ?_)
  refine n_ hx1 ?_;refine A.ax T T T T T T T T (by show (0:Int)<=(i:Nat);omega) (by rw [hln];omega) T ?_;refine A.cd T T T T T T T T T (by rw [hln];show i<_;omega) (xs':=fJ (fun x=>aB (aD x)) Z p.l (i+1)) (sQ (enc:=fun x=>aB (aD x)) (i:=i) hx) ?_;refine y_ ?_
  ((fail_if_success (refine A.lit? T ?_));refine A.gS T (fun hc=>?_) (fun hc=>?_))
  ·have hc1:((p.l.take i).map aD).all bI=true:=hc;rw [hc1,ab3] at hta;refine y_ ?_;refine A.ax T T T T T T T T (by show (0:Int)<=(i:Nat);omega) (by rw [hln'];omega) T ?_;refine A.cy T T T T T T (y':=aB (aD x)) T hat T T ?_;refine c_ hx2 ?_;refine A.ad 4 T (x':=AB (((p.l.take (i+1)).map aD).all bI)) (aA hta.symm) ?_;refine vI 19 i ?_;refine l_ (Λ':=[.row 8 (.slice a p.l.length cp) (fJ (fun x=>aB (aD x)) Z p.l (i+1)), .box b2 Z, .box b1 (aB p)]) ?_;refine u_ (ih (i+1) (by omega) (by omega))
  ·have hc1:((p.l.take i).map aD).all bI=false:=hc;rw [hc1,ae4] at hta;refine y_ ?_;refine A.ad 4 T (x':=AB (((p.l.take (i+1)).map aD).all bI)) (aA (by rw [hta])) ?_;refine vI 19 i ?_;refine l_ (Λ':=[.row 8 (.slice a p.l.length cp) (fJ (fun x=>aB (aD x)) Z p.l (i+1)), .box b2 Z, .box b1 (aB p)]) ?_;refine u_ (ih (i+1) (by omega) (by omega))
 have hci: ¬i<p.l.length:=by simpa using hc
 have hil:i=p.l.length:=by omega
 clear hc;refine A.au (Λ':=[.row 8 (.slice a p.l.length cp) (bC (p.l.map aD)), .box b2 (.ag [aU 0,AI 0,AI 0,aU 0, .v (.slice none 0 0), .v (.slice none 0 0), .v (.slice none 0 0), .v (.slice none 0 0)]), .box b1 (aB p)]) (by rw [hil,pQ,jL,ai1,hZ];rfl) ?_;refine y_ ?_
 ((fail_if_success (refine A.lit? T ?_));refine A.gS T (fun hc=>?_) (fun hc=>?_))
 ·have hc1:((p.l.take i).map aD).all bI=true:=hc;rw [hil,ac4] at hc1;rw [iT hc1] at hR;rw [hR];refine y_ ?_;refine c_ nM ?_;refine C_ ?_;exact .refl
 ·have hc1:((p.l.take i).map aD).all bI=false:=hc;rw [hil,ac4] at hc1;rw [iF (by rw [hc1];decide)] at hR;rw [hR];refine A.cf 3 T ?_;refine y_ ?_;refine C_ ?_;exact .refl
theorem pnormE{p:PR}(h:cP p=false)(h':p.kind≠9):Pure prog a9 21 [aB p] (aB p):=by
 have h1:=gR p;rw [h] at h1;refine P_ func21 74 fun _ _ _ _=>?_
 (refine b_ fun bx=>?_;refine b_ fun bx=>?_;refine y_ ?_)
 refine c_ h1 ?_;refine e_ 42 T (x':=AB false) (aA (beq_eq_false_iff_ne.2 h')) ?_;refine C_ ?_;exact .refl
theorem pnormS(p:PR)(h9:p.kind=9)(hs:mC p)(hl:p.l.length<=134217728)(hrec: ∀x,x∈p.l->Pure prog a9 21 [aB x] (aB (aD x))):Pure prog a9 21 [aB p] (aB (aD p)):=by
 have h1:=gR p;have hb:cP p=false:=by unfold cP;rw [h9];rfl
 rw [hb] at h1;have hS:=lQ hs;obtain ⟨k,c,v,it,to,e,gs,l⟩:=p;have h9:k=9:=h9;subst h9;refine eX (aD ⟨9,c,v,it,to,e,gs,l⟩) fun R hR=>?_;rw [<-hR];rw [fH (p:=⟨9,c,v,it,to,e,gs,l⟩) T] at hR;generalize hf:(fun l':List PR=>(⟨9,c,v,it,to,e,gs,l'⟩:PR))=f at hR;refine P_ func21 74 fun _ _ _ _=>?_;refine b_ fun b1=>?_;refine A.b T fun b2=>?_;refine y_ ?_;refine c_ h1 ?_;refine A.ay [1,2,7] T ?_;refine eX (AV.ag [aU 0,AI 0,AI 0,aU 0, .v (.slice none 0 0), .v (.slice none 0 0), .v (.slice none 0 0), .v (.slice none 0 0)]) fun Z hZ=>?_;refine A.au (Λ':=[.box b2 Z, .box b1 (aB ⟨9,c,v,it,to,e,gs,l⟩)]) (by rw [hZ];rfl) ?_
 refine A.ar (ι:=List PR) (fun r=>(⟨[(1, .v (.pointer (some ⟨b1,0,none⟩))),(2, .v (.pointer (some ⟨b2,0,none⟩))),(7,iQ r)],[]⟩,[.box b2 Z, .box b1 (aB ⟨9,c,v,it,to,e,gs,l⟩)]))
  (fun r=>R=bY f r/\(∀x,x∈r->x∈l)/\r.length<=l.length) (fun r=>r.length) l ⟨hR,fun x hx=>hx,aa6 _⟩ T fun r hr ih=>?_
 obtain ⟨hr1,hr2,hr3⟩:=hr;have hl:l.length<=134217728:=hl;cases r with
 |nil=>
  refine y_ ?_;refine A.ad 50 T (x':=AB false) (aA (by rw [bC];rfl)) ?_;refine n_ nM ?_;rw [hr1,pM];rw [hZ];refine y_ ?_;refine C_ ?_;exact .refl
 |cons x s=>
  have hx1:=hrec x (hr2 x (.head _));have hx2:=YH (aD x) (BI (hS.l x (hr2 x (.head _))));have hlen:((bC (x::s)).length:Int)=s.length+1:=by rw [aW,ab1];rfl
  have hl2:s.length+1<=l.length:=hr3;have hat:(bC (x::s))[(0:Int).toNat]? =some (yR x):=cF T;rw [hZ];refine y_ ?_;refine e_ 50 T (x':=AB true) (aA (by rw [decide_eq_true_iff,hlen];omega)) ?_;refine i_ T hat (bP x) ?_;refine n_ hx1 ?_;cases s with
  |nil=>
   (refine b_ fun bx=>?_;refine y_ ?_)
   refine A.ad 59 T (x':=AB true) (aA (by rw [hlen];rfl)) ?_;rw [hr1,eC];refine C_ ?_;exact .refl
  |cons y s=>
   have hl3:s.length+2<=l.length:=hl2;rw [fI] at hr1
   by_cases hd:bI (aD x)=true
   ·rw [hd] at hx2;rw [iT hd] at hr1
    (refine b_ fun bx=>?_;refine y_ ?_)
    refine A.ad 59 T (x':=AB false) (aA (by rw [hlen,ab1,beq_eq_false_iff_ne];omega)) ?_;refine c_ hx2 ?_;refine A.slice (ys:=bC (y::s)) T T T T T T T T T (by decide) (by rw [hlen];omega) (by omega) (by rw [kV x];simp) T ?_;refine y_ ?_;refine A.less (Λ':=[.box b2 Z, .box b1 (aB ⟨9,c,v,it,to,e,gs,l⟩)]) (by rw [hZ];exact kK) ?_;refine u_ (ih (y::s) ⟨hr1,fun z hz=>hr2 z (.tail _ hz),by rw [ab1];omega⟩ (by simp))
   ·have hd':bI (aD x)=false:=by simpa using hd
    have hc1:=X7 [aB (aD x)] (bC (y::s)) Nat.one_pos (by rw [aW,ab1];show 1+_<=_;omega);rw [hd'] at hx2;rw [iF hd,<-hf] at hr1;rw [hr1]
    (refine b_ fun bx=>?_;refine y_ ?_)
    refine A.ad 59 T (x':=AB false) (aA (by rw [hlen,ab1,beq_eq_false_iff_ne];omega)) ?_;refine c_ hx2 ?_;refine A.draw 6 [0,1,2,3,4,5] (fun i=>if i=5 then [1,4] else []) [(5, .sl 8 ([aB (aD x)]++bC (y::s)) none)] (by kernel_rfl) (by kernel_rfl) ?_;refine w_ ?_;refine WA.lit T T T T T T T fun bw=>?_;refine w_ ?_;refine WA.slice (ys:=bC (y::s)) T T T T T T T T T T (by decide) (by rw [hlen];omega) (by omega) (by rw [kV x];simp) T ?_;refine WA.lit T T T T T T T fun bw=>?_;refine WA.c T T hc1 (by repeat (first|exact pZ.sub fO.refl|refine pZ.cons ?_ ?_|exact AZ.sub Sb.refl|refine AZ.pub (j:=1) T T ?_|refine AZ.pub (j:=4) T T ?_|exact AZ.sub Sb.cw|exact AZ.sub Sb.nil|focus (refine AZ.sub ?_;(repeat (first|exact Sb.refl|exact fO.refl|refine fO.cons ?_ ?_|exact Sb.nil|exact Sb.cw|refine Sb.own ?_|refine Sb.ag ?_|refine Sb.tp ?_));done))) ?_;refine z_ ?_;refine C_ ?_;show Sb _ (.ag [aU 9,AI c,AI v,aU it,iK to,c8 e,rH gs, .sl 8 (bC (aD x::y::s)) none]);rw [kV (aD x)];exact .refl
theorem M0: ∀(m:Nat) (p:PR),SizeOf.sizeOf p<=m->mC p->WW p->Pure prog a9 21 [aB p] (aB (aD p))
 |0,p,h,_,_=>by obtain ⟨k,c,v,i,to,e,gs,l⟩:=p;simp only [PR.mk.sizeOf_spec] at h;omega
 |m+1,p,h,hs,ht=>by
  have hS:=lQ hs;have hT:=tgR_l ht;have hrec: ∀x,x∈p.l->Pure prog a9 21 [aB x] (aB (aD x)):=fun x hx=>M0 m x (by have:=cK hx;omega) (hS.l x hx) (hT.2 x hx);cases hb:cP p with
  |true=>exact pnormP_a p hb hs hrec |false=>
   by_cases h9:p.kind=9
   ·exact pnormS p h9 hs hT.1 hrec
   ·rw [gX hb h9];exact pnormE hb h9
theorem QA(p:PR)(hs:mC p)(ht:WW p):Pure prog a9 21 [aB p] (aB (aD p)):=M0 _ p (aa6 _) hs ht
theorem wF(p:PR):bI p=true↔p=aK:=by obtain ⟨k,c,v,i,to,e,gs,l⟩:=p;unfold bI aK;rw [U2];cases to<;>cases e<;>cases gs<;>cases l<;>simp [eN,r9,CP,uR]
theorem TY:aD aK=aK:=by rw [gX T (by decide)]
theorem GN(f:List PR->PR)(hf: ∀l,aD (f l)=bY f l): ∀l:List PR,(∀x,x∈l->aD (aD x)=aD x)->aD (bY f l)=bY f l
 | [],_=>by rw [pM];exact TY | [x],h=>by rw [eC];exact h x (.head _)
 |x::y::s,h=>by
  rw [fI];split
  ·exact GN f hf (y::s) fun z hz=>h z (.tail _ hz)
  ·rename_i hd;rw [hf,fI,h x (.head _),iF hd]
theorem GU: ∀(m:Nat) (p:PR),SizeOf.sizeOf p<=m->aD (aD p)=aD p
 |0,p,h=>by obtain ⟨k,c,v,i,to,e,gs,l⟩:=p;simp only [PR.mk.sizeOf_spec] at h;omega
 |m+1,p,h=>by
  have hL: ∀x,x∈p.l->aD (aD x)=aD x:=fun x hx=>GU m x (by have:=cK hx;omega);cases hb:cP p with
  |true=>
   rw [f7 hb];split
   ·exact TY
   ·rename_i hd;have e:(p.l.map aD).map aD=p.l.map aD:=by rw [ai1];exact ag8 hL
    rw [f7 (p:=⟨p.kind,p.c,p.v,p.item,p.to,p.e,p.gs,p.l.map aD⟩) hb];show (if ((p.l.map aD).map aD).all bI=true then aK else ⟨p.kind,p.c,p.v,p.item,p.to,p.e,p.gs,(p.l.map aD).map aD⟩)=_;rw [e,iF hd]
  |false=>
   by_cases h9:p.kind=9
   ·rw [fH h9];exact GN _ (fun l=>fH (p:=⟨p.kind,p.c,p.v,p.item,p.to,p.e,p.gs,l⟩) h9) p.l hL
   ·rw [gX hb h9,gX hb h9]
theorem kA(p:PR):aD (aD p)=aD p:=GU _ p (aa6 _)
mutual
def GK:PR->Prop
 |⟨k,_,_,_,_,_,_,l⟩=>if k=9 then nfS l else if k=10\/k=11 then l.all bI=false/\nfL l else True
def nfS:List PR->Prop
 | []=>False |x::r=>match r with
  | []=>False |_::_=>bI x=false/\GK x
def nfL:List PR->Prop
 | []=>True |x::r=>GK x/\nfL r
end
theorem y9(p:PR):GK p↔if p.kind=9 then nfS p.l else if p.kind=10\/p.kind=11 then p.l.all bI=false/\nfL p.l else True:=by obtain ⟨k,c,v,i,to,e,gs,l⟩:=p;rw [GK]
theorem JB: ∀{l:List PR},nfL l-> ∀x,x∈l->GK x
 | [],_,x,h=>by cases h |y::r,hw,x,h=>by
  rw [nfL] at hw;rcases ab0.1 h with rfl|h
  ·exact hw.1
  ·exact JB hw.2 x h
theorem Z6: ∀{l:List PR},(∀x,x∈l->GK x)->nfL l
 | [],_=>by rw [nfL];trivial |y::r,h=>by rw [nfL];exact ⟨h y (.head _),Z6 fun x hx=>h x (.tail _ hx)⟩
theorem Z8{x y:PR}{s:List PR}:nfS (x::y::s)↔bI x=false/\GK x:=by rw [nfS]
theorem S8:GK aK:=by rw [y9,iF (show¬aK.kind=9 from by show¬(1:Int)=9;decide),iF (show¬(aK.kind=10\/aK.kind=11) from by show¬((1:Int)=10\/(1:Int)=11);decide)];trivial
theorem GM(f:List PR->PR)(hf: ∀l,nfS l->GK (f l)): ∀l:List PR,(∀x,x∈l->GK (aD x))->GK (bY f l)
 | [],_=>by rw [pM];exact S8 | [x],h=>by rw [eC];exact h x (.head _)
 |x::y::s,h=>by
  rw [fI];split
  ·exact GM f hf (y::s) fun z hz=>h z (.tail _ hz)
  ·rename_i hd;exact hf _ (Z8.2 ⟨by simpa using hd,h x (.head _)⟩)
theorem GR: ∀(m:Nat) (p:PR),SizeOf.sizeOf p<=m->GK (aD p)
 |0,p,h=>by obtain ⟨k,c,v,i,to,e,gs,l⟩:=p;simp only [PR.mk.sizeOf_spec] at h;omega
 |m+1,p,h=>by
  have hL: ∀x,x∈p.l->GK (aD x):=fun x hx=>GR m x (by have:=cK hx;omega);cases hb:cP p with
  |true=>
   rw [f7 hb];split
   ·exact S8
   ·rename_i hd;have hb':p.kind=10\/p.kind=11:=by simpa [cP] using hb
    rw [y9];show if p.kind=9 then _ else if p.kind=10\/p.kind=11 then (p.l.map aD).all bI=false/\nfL (p.l.map aD) else True;rw [iF (by omega),iT hb'];refine ⟨by simpa using hd,Z6 fun x hx=>?_⟩;rw [ac1] at hx;obtain ⟨y,hy,rfl⟩:=hx;exact hL y hy
  |false=>
   by_cases h9:p.kind=9
   ·rw [fH h9];refine GM _ (fun l hl=>?_) p.l hL;rw [y9];show if p.kind=9 then nfS l else _;rw [iT h9];exact hl
   ·have hb': ¬(p.kind=10\/p.kind=11):=by simpa [cP] using hb
    rw [gX hb h9,y9,iF h9,iF hb'];trivial
theorem norm_is(p:PR):GK (aD p):=GR _ p (aa6 _)
mutual
def iO:PR->Nat
 |⟨k,_,_,_,_,_,gs,l⟩=>if k=9 then bT gs+KA l else if k=10\/k=11 then 2+bT gs+rO l else 2+dB l+bT gs+rO l+t4 gs
def KA:List PR->Nat
 | []=>2 |x::r=>match r with
  | []=>iO x |y::s=>max (1+iO x+dB (y::s)) (KA r)
def rO:List PR->Nat
 | []=>0 |x::r=>iO x+rO r
def wtG:GD->Nat
 |⟨_,_,_,_,_,_,b⟩=>rO b
def t4:List GD->Nat
 | []=>0 |g::r=>wtG g+t4 r
end
mutual
def lM:PR->Nat
 |⟨k,_,_,_,_,_,gs,l⟩=>if k=9 then max (1+dZ gs) (J8 l) else if k=10\/k=11 then 1+max (max 1 (dZ gs)) (s8 l) else 1+max (1+max (jF l) (dZ gs)) (max (s8 l) (tX gs))
def J8:List PR->Nat
 | []=>2 |x::r=>match r with
  | []=>lM x |y::s=>max (1+max (lM x) (jF (y::s))) (J8 r)
def s8:List PR->Nat
 | []=>0 |x::r=>max (lM x) (s8 r)
def dwG:GD->Nat
 |⟨_,_,_,_,_,_,b⟩=>s8 b
def tX:List GD->Nat
 | []=>0 |g::r=>max (dwG g) (tX r)
end
theorem iP(p:PR):iO p=if p.kind=9 then bT p.gs+KA p.l else if p.kind=10\/p.kind=11 then 2+bT p.gs+rO p.l else 2+dB p.l+bT p.gs+rO p.l+t4 p.gs:=by obtain ⟨k,c,v,i,to,e,gs,l⟩:=p;rw [iO]
theorem jE(p:PR):lM p=if p.kind=9 then max (1+dZ p.gs) (J8 p.l) else if p.kind=10\/p.kind=11 then 1+max (max 1 (dZ p.gs)) (s8 p.l) else 1+max (1+max (jF p.l) (dZ p.gs)) (max (s8 p.l) (tX p.gs)):=by obtain ⟨k,c,v,i,to,e,gs,l⟩:=p;rw [lM]
theorem HN(x:PR):KA [x]=iO x:=by rw [KA]
theorem AY(x y:PR)(s:List PR):KA (x::y::s)=max (1+iO x+dB (y::s)) (KA (y::s)):=by rw [KA]
theorem LI(x:PR):J8 [x]=lM x:=by rw [J8]
theorem CM(x y:PR)(s:List PR):J8 (x::y::s)=max (1+max (lM x) (jF (y::s))) (J8 (y::s)):=by rw [J8]
theorem J5(g:GD):wtG g=rO g.body:=by obtain ⟨k,e,c,i,to,t,b⟩:=g;rw [wtG]
theorem IB(g:GD):dwG g=s8 g.body:=by obtain ⟨k,e,c,i,to,t,b⟩:=g;rw [dwG]
theorem J6:iO aK=2:=by rw [iP,iF (show¬aK.kind=9 from by show¬(1:Int)=9;decide),iF (show¬(aK.kind=10\/aK.kind=11) from by show¬((1:Int)=10\/(1:Int)=11);decide)];simp [aK,dB,bT,rO,t4]
theorem IC:lM aK=2:=by rw [jE,iF (show¬aK.kind=9 from by show¬(1:Int)=9;decide),iF (show¬(aK.kind=10\/aK.kind=11) from by show¬((1:Int)=10\/(1:Int)=11);decide)];simp [aK,jF,dZ,s8,tX]
theorem wt_stop:iO bL=2:=by rw [iP,iF (show¬bL.kind=9 from by show¬(2:Int)=9;decide),iF (show¬(bL.kind=10\/bL.kind=11) from by show¬((2:Int)=10\/(2:Int)=11);decide)];simp [bL,dB,bT,rO,t4]
theorem dw_stop:lM bL=2:=by rw [jE,iF (show¬bL.kind=9 from by show¬(2:Int)=9;decide),iF (show¬(bL.kind=10\/bL.kind=11) from by show¬((2:Int)=10\/(2:Int)=11);decide)];simp [bL,jF,dZ,s8,tX]
theorem OM{f:PR->PR}: ∀{l:List PR},(∀x,x∈l->iO (f x)<=iO x)->rO (l.map f)<=rO l
 | [],_=>aa6 _ |x::r,h=>by rw [ac8,rO,rO];have:=h x (.head _);have:=OM (l:=r) fun y hy=>h y (.tail _ hy);omega
theorem LH{f:PR->PR}: ∀{l:List PR},(∀x,x∈l->lM (f x)<=lM x)->s8 (l.map f)<=s8 l
 | [],_=>aa6 _ |x::r,h=>by rw [ac8,s8,s8];have:=h x (.head _);have:=LH (l:=r) fun y hy=>h y (.tail _ hy);omega
theorem GQ(f:List PR->PR)(c:Nat)(hf: ∀l,iO (f l)=c+KA l): ∀l:List PR,(∀x,x∈l->iO (aD x)<=iO x)->iO (bY f l)<=c+KA l
 | [],_=>by rw [pM,J6,KA];omega | [x],h=>by rw [eC,HN];have:=h x (.head _);omega
 |x::y::s,h=>by
  rw [fI,AY];split
  ·have:=GQ f c hf (y::s) fun z hz=>h z (.tail _ hz);omega
  ·rw [hf,AY];have:=h x (.head _);omega
theorem GL(f:List PR->PR)(c:Nat)(hf: ∀l,lM (f l)=max c (J8 l)): ∀l:List PR,(∀x,x∈l->lM (aD x)<=lM x)->lM (bY f l)<=max c (J8 l)
 | [],_=>by rw [pM,IC,J8];omega | [x],h=>by rw [eC,LI];have:=h x (.head _);omega
 |x::y::s,h=>by
  rw [fI,CM];split
  ·have:=GL f c hf (y::s) fun z hz=>h z (.tail _ hz);omega
  ·rw [hf,CM];have:=h x (.head _);omega
theorem zC: ∀(m:Nat) (p:PR),SizeOf.sizeOf p<=m->iO (aD p)<=iO p/\lM (aD p)<=lM p
 |0,p,h=>by obtain ⟨k,c,v,i,to,e,gs,l⟩:=p;simp only [PR.mk.sizeOf_spec] at h;omega
 |m+1,p,h=>by
  have hL: ∀x,x∈p.l->iO (aD x)<=iO x/\lM (aD x)<=lM x:=fun x hx=>zC m x (by have:=cK hx;omega);cases hb:cP p with
  |true=>
   have hb':p.kind=10\/p.kind=11:=by simpa [cP] using hb
   have e1:=iP p;have e2:=jE p;rw [iF (by omega),iT hb'] at e1 e2;rw [f7 hb,e1,e2];split
   ·rw [J6,IC];omega
   ·have a1:=OM fun x hx=>(hL x hx).1;have a2:=LH fun x hx=>(hL x hx).2;rw [iP,jE];show (if p.kind=9 then _ else if p.kind=10\/p.kind=11 then 2+bT p.gs+rO (p.l.map aD) else _)<=_/\(if p.kind=9 then _ else if p.kind=10\/p.kind=11 then 1+max (max 1 (dZ p.gs)) (s8 (p.l.map aD)) else _)<=_;rw [iF (by omega),iT hb',iF (by omega),iT hb'];omega
  |false=>
   by_cases h9:p.kind=9
   ·rw [fH h9,iP p,jE p,iT h9,iT h9];refine ⟨GQ _ (bT p.gs) (fun l=>?_) p.l fun x hx=>(hL x hx).1,GL _ (1+dZ p.gs) (fun l=>?_) p.l fun x hx=>(hL x hx).2⟩
    ·rw [iP];show (if p.kind=9 then bT p.gs+KA l else _)=_;rw [iT h9]
    ·rw [jE];show (if p.kind=9 then max (1+dZ p.gs) (J8 l) else _)=_;rw [iT h9]
   ·rw [gX hb h9];exact ⟨aa6 _,aa6 _⟩
theorem JF(p:PR):iO (aD p)<=iO p:=(zC _ p (aa6 _)).1
theorem S9(p:PR):lM (aD p)<=lM p:=(zC _ p (aa6 _)).2
theorem Z7: ∀{l:List PR},(∀x,x∈l->gO x<=iO x/\pY x<=lM x)->dB l<=rO l/\jF l<=s8 l
 | [],_=>by rw [dB,rO,jF,s8];omega |x::r,h=>by have h1:=h x (.head _);have h2:=Z7 (l:=r) fun y hy=>h y (.tail _ hy);rw [dB,rO,jF,s8];omega
theorem JC: ∀(m:Nat) (p:PR),SizeOf.sizeOf p<=m->GK p->gO p<=iO p/\pY p<=lM p
 |0,p,h,_=>by obtain ⟨k,c,v,i,to,e,gs,l⟩:=p;simp only [PR.mk.sizeOf_spec] at h;omega
 |m+1,p,h,hn=>by
  have hL: ∀x,x∈p.l->GK x->gO x<=iO x/\pY x<=lM x:=fun x hx hn=>JC m x (by have:=cK hx;omega) hn;rw [y9] at hn;rw [mI,oT,iP,jE]
  by_cases h9:p.kind=9
  ·rw [iT h9] at hn;rw [iT h9,iT h9]
   match hl:p.l,hn with
   |x::y::s,hn=>
    rw [Z8] at hn;have:=hL x (by rw [hl];exact .head _) hn.2;rw [AY,CM,dB,jF];omega
  ·rw [iF h9] at hn;rw [iF h9,iF h9]
   by_cases hb:p.kind=10\/p.kind=11
   ·rw [iT hb] at hn;rw [iT hb,iT hb];have:=Z7 fun x hx=>hL x hx (JB hn.2 x hx);omega
   ·rw [iF hb,iF hb];omega
theorem nf_sz{p:PR}(h:GK p):gO p<=iO p:=(JC _ p (aa6 _) h).1
theorem nf_ht{p:PR}(h:GK p):pY p<=lM p:=(JC _ p (aa6 _) h).2
theorem AE{p:PR}{g:GD}(h:g∈p.gs):SizeOf.sizeOf g<SizeOf.sizeOf p:=by obtain ⟨k,c,v,i,to,e,gs,l⟩:=p;have:=ai2 h;simp only [PR.mk.sizeOf_spec,PR.gs] at this⊢;omega
theorem zX{g:GD}{x:PR}(h:x∈g.body):SizeOf.sizeOf x<SizeOf.sizeOf g:=by obtain ⟨k,e,c,i,to,t,b⟩:=g;have:=ai2 h;simp only [GD.mk.sizeOf_spec,GD.body] at this⊢;omega
theorem RM: ∀{l:List PR} {H:Nat},(∀x,x∈l->iO x<=(pY x+2)*gO x/\lM x<=2*pY x)->jF l<=H->rO l<=(H+2)*dB l/\s8 l<=2*jF l
 | [],H,_,_=>by rw [rO,dB,s8,jF];omega |x::r,H,h,hh=>by rw [jF] at hh;have h1:=h x (.head _);have h2:=RM (l:=r) (H:=H) (fun y hy=>h y (.tail _ hy)) (by omega);have h3:(pY x+2)*gO x<=(H+2)*gO x:=af5 _ (by omega);rw [rO,dB,s8,jF,am6];omega
theorem T8: ∀{l:List GD} {H:Nat},(∀g,g∈l-> ∀x,x∈g.body->iO x<=(pY x+2)*gO x/\lM x<=2*pY x)->dZ l<=H->t4 l<=(H+2)*bT l/\tX l<=2*dZ l
 | [],H,_,_=>by rw [t4,bT,tX,dZ];omega |g::r,H,h,hh=>by rw [dZ,uV] at hh;have h1:=RM (l:=g.body) (H:=H) (h g (.head _)) (by omega);have h2:=T8 (l:=r) (H:=H) (fun y hy=>h y (.tail _ hy)) (by omega);rw [t4,bT,tX,dZ,am6,J5,lE,IB,uV];omega
theorem wtS_le: ∀{l:List PR} {H:Nat},(∀x,x∈l->iO x<=(pY x+2)*gO x/\lM x<=2*pY x)->jF l<=H->KA l<=(H+3)*(1+dB l)/\J8 l<=2*(1+jF l)
 | [],H,_,_=>by rw [KA,dB,J8,jF];omega | [x],H,h,hh=>by rw [jF,jF] at hh;have h1:=h x (.head _);have h3:(pY x+2)*gO x<=(H+3)*(1+gO x):=Nat.mul_le_mul (by omega) (by omega);rw [HN,dB,dB,LI,jF,jF,show 1+(gO x+0)=1+gO x from rfl];omega
 |x::y::s,H,h,hh=>by
  have hh':=hh;rw [jF] at hh;have h1:=h x (.head _);have h2:=wtS_le (l:=y::s) (H:=H) (fun z hz=>h z (.tail _ hz)) (by omega);have h3:(pY x+2)*gO x<=(H+3)*gO x:=af5 _ (by omega);have h4:1*dB (y::s)<=(H+3)*dB (y::s):=af5 _ (by omega);have e1:(H+3)*(1+dB (y::s))=(H+3)+(H+3)*dB (y::s):=by rw [am6,ao1]
  have e2:(H+3)*(1+dB (x::y::s))=(H+3)+(H+3)*gO x+(H+3)*dB (y::s):=by rw [dB,am6,am6,ao1];omega
  rw [AY,CM,e2];rw [e1] at h2;rw [show jF (x::y::s)=max (pY x) (jF (y::s)) by rw [jF]];omega
theorem B0: ∀(m:Nat) (p:PR),SizeOf.sizeOf p<=m->iO p<=(pY p+2)*gO p/\lM p<=2*pY p
 |0,p,h=>by obtain ⟨k,c,v,i,to,e,gs,l⟩:=p;simp only [PR.mk.sizeOf_spec] at h;omega
 |m+1,p,h=>by
  have hL: ∀x,x∈p.l->iO x<=(pY x+2)*gO x/\lM x<=2*pY x:=fun x hx=>B0 m x (by have:=cK hx;omega);have hG: ∀g,g∈p.gs-> ∀x,x∈g.body->iO x<=(pY x+2)*gO x/\lM x<=2*pY x:=fun g hg x hx=>B0 m x (by have:=AE hg;have:=zX hx;omega);have eh:=oT p;have es:=mI p;generalize hH:max (jF p.l) (dZ p.gs)=H at eh;have a1:=RM hL (H:=H) (by omega);have a2:=T8 hG (H:=H) (by omega);have a3:=wtS_le hL (H:=H) (by omega);have e1:(pY p+2)*gO p=(H+3)+(H+3)*dB p.l+(H+3)*bT p.gs:=by rw [eh,es,am6,am6,ao1,show 1+H+2=H+3 by omega]
  have e2:(H+3)*dB p.l=(H+2)*dB p.l+dB p.l:=by rw [<-aj3]
  have e3:(H+3)*bT p.gs=(H+2)*bT p.gs+bT p.gs:=by rw [<-aj3]
  have e4:(H+3)*(1+dB p.l)=(H+3)+(H+3)*dB p.l:=by rw [am6,ao1]
  rw [e4] at a3;rw [iP,jE,e1,eh];split
  ·omega
  ·split<;>omega
theorem wt_le(p:PR):iO p<=(pY p+2)*gO p:=(B0 _ p (aa6 _)).1
theorem dw_le(p:PR):lM p<=2*pY p:=(B0 _ p (aa6 _)).2
mutual
def okF(I:PR->Prop)(next high:Bool):PR->Prop
 |⟨k,c,v,i,to,e,gs,l⟩=>(I ⟨k,c,v,i,to,e,gs,l⟩/\(k=16->next=true)/\(k=11->high=false))/\cO I (next&&(k==9||k==10||k==11)) (next&&(k==10||k==11)) (high||k==11) high l/\sM I high gs
def cO(I:PR->Prop)(n0 n1 h0 h1:Bool):List PR->Prop
 | []=>True |p::r=>okF I n0 h0 p/\cO I n1 n1 h1 h1 r
def a0d(I:PR->Prop)(high:Bool):GD->Prop
 |⟨_,_,_,_,_,_,b⟩=>cO I false false high high b
def sM(I:PR->Prop)(high:Bool):List GD->Prop
 | []=>True |g::r=>a0d I high g/\sM I high r
end
section
variable{I:PR->Prop}
theorem okF_eq{next high:Bool}(p:PR):okF I next high p↔(I p/\(p.kind=16->next=true)/\(p.kind=11->high=false))/\cO I (next&&(p.kind==9||p.kind==10||p.kind==11)) (next&&(p.kind==10||p.kind==11)) (high||p.kind==11) high p.l/\sM I high p.gs:=by obtain ⟨k,c,v,i,to,e,gs,l⟩:=p;rw [okF]
theorem oC{high:Bool}(g:GD):a0d I high g↔cO I false false high high g.body:=by obtain ⟨k,e,c,i,to,t,b⟩:=g;rw [a0d]
theorem DP{n0 n1 h0 h1:Bool}{p:PR}{r:List PR}:cO I n0 n1 h0 h1 (p::r)↔okF I n0 h0 p/\cO I n1 n1 h1 h1 r:=by rw [cO]
theorem mG{n0 n1 h0 h1:Bool}:cO I n0 n1 h0 h1 []:=by rw [cO];trivial
theorem nG{high:Bool}: ∀{l:List GD},sM I high l-> ∀g,g∈l->a0d I high g
 | [],_,g,h=>by cases h |y::r,hw,g,h=>by
  rw [sM] at hw;rcases ab0.1 h with rfl|h
  ·exact hw.1
  ·exact nG hw.2 g h
theorem BL{high:Bool}: ∀{l:List GD},(∀g,g∈l->a0d I high g)->sM I high l
 | [],_=>by rw [sM];trivial |y::r,h=>by rw [sM];exact ⟨h y (.head _),BL fun x hx=>h x (.tail _ hx)⟩
theorem M6{n1 h1:Bool}: ∀{l:List PR},cO I n1 n1 h1 h1 l-> ∀x,x∈l->okF I n1 h1 x
 | [],_,x,h=>by cases h |y::r,hw,x,h=>by
  rw [cO] at hw;rcases ab0.1 h with rfl|h
  ·exact hw.1
  ·exact M6 hw.2 x h
theorem tI{n0 n1 h0 h1:Bool}{l:List PR}(hw:cO I n0 n1 h0 h1 l){x:PR}(hx:x∈l): ∃n h,okF I n h x:=by
 cases l with
 |nil=>cases hx |cons y r=>
  rw [cO] at hw;rcases ab0.1 hx with rfl|h
  ·exact ⟨_,_,hw.1⟩
  ·exact ⟨_,_,M6 hw.2 x h⟩
theorem GW{h0 h1:Bool}: ∀{l:List PR} {n0 n1 n0' n1':Bool},(∀x,x∈l-> ∀n n' h:Bool,(n=true->n'=true)->okF I n h x->okF I n' h x)->(n0=true->n0'=true)->(n1=true->n1'=true)->cO I n0 n1 h0 h1 l->cO I n0' n1' h0 h1 l
 | [],_,_,_,_,_,_,_,_=>mG |x::r,n0,n1,n0',n1',hx,h,h',w=>by rw [cO] at w⊢;exact ⟨hx x (.head _) _ _ _ h w.1,go hx h' w.2⟩
where
 go {x:PR} {n1 n1' h1:Bool}: ∀{r:List PR},(∀y,y∈x::r-> ∀n n' h:Bool,(n=true->n'=true)->okF I n h y->okF I n' h y)->(n1=true->n1'=true)->cO I n1 n1 h1 h1 r->cO I n1' n1' h1 h1 r
 | [],_,_,_=>mG |y::s,hx,h',w=>by
  rw [cO] at w⊢;refine ⟨hx y (.tail _ (.head _)) _ _ _ h' w.1,go (x:=x) (fun z hz=>hx z ?_) h' w.2⟩;rcases ab0.1 hz with rfl|hz
  ·exact .head _
  ·exact .tail _ (.tail _ hz)
theorem DN: ∀(m:Nat) (p:PR) (n n' h:Bool),SizeOf.sizeOf p<=m->(n=true->n'=true)->okF I n h p->okF I n' h p
 |0,p,_,_,_,h,_,_=>by obtain ⟨k,c,v,i,to,e,gs,l⟩:=p;simp only [PR.mk.sizeOf_spec] at h;omega
 |m+1,p,n,n',h,hm,hn,w=>by
  rw [okF_eq] at w⊢;obtain ⟨⟨w1,w2,w3⟩,w4,w5⟩:=w;refine ⟨⟨w1,fun h=>hn (w2 h),w3⟩,GW (fun x hx n n' h hn w=>DN m x n n' h (by have:=cK hx;omega) hn w) (fun h=>?_) (fun h=>?_) w4,w5⟩
  ·rw [aa1] at h⊢;exact ⟨hn h.1,h.2⟩
  ·rw [aa1] at h⊢;exact ⟨hn h.1,h.2⟩
theorem DM{p:PR}{n n' h:Bool}(hn:n=true->n'=true)(w:okF I n h p):okF I n' h p:=DN _ p n n' h (aa6 _) hn w
structure Lax(I:PR->Prop):Prop where
 skip:I aK
 stop:I bL
 seq: ∀(p:PR) (l':List PR),p.kind=9->l'.length<=p.l.length->I p->I ⟨p.kind,p.c,p.v,p.item,p.to,p.e,p.gs,l'⟩
 par: ∀(p:PR) (l':List PR),l'.length=p.l.length->I p->I ⟨p.kind,p.c,p.v,p.item,p.to,p.e,p.gs,l'⟩
theorem JK(L:Lax I)(n h:Bool):okF I n h aK:=by rw [okF_eq];exact ⟨⟨L.skip,(by intro h;cases h),(by intro h;cases h)⟩,mG,by show sM I h [];rw [sM];trivial⟩
theorem ok_stop(L:Lax I)(n h:Bool):okF I n h bL:=by rw [okF_eq];exact ⟨⟨L.stop,(by intro h;cases h),(by intro h;cases h)⟩,mG,by show sM I h [];rw [sM];trivial⟩
theorem GO(L:Lax I)(n h:Bool)(f:List PR->PR): ∀l:List PR,(∀l',l'.length<=l.length->cO I n false h h l'->okF I n h (f l'))->(∀x,x∈l-> ∀n h,okF I n h x->okF I n h (aD x))->cO I n false h h l->okF I n h (bY f l)
 | [],_,_,_=>by rw [pM];exact JK L n h | [x],_,hx,w=>by rw [eC];rw [cO] at w;exact hx x (.head _) _ _ w.1
 |x::y::s,hf,hx,w=>by
  have w0:=w;rw [cO] at w;rw [fI];split
  ·refine GO L n h f (y::s) (fun l' hl=>hf l' (by rw [ab1];omega)) (fun z hz=>hx z (.tail _ hz)) ?_;exact GW (fun x hx n n' h hn w=>DM hn w) (by intro h;cases h) (by intro h;cases h) w.2
  ·refine hf _ (aa6 _) ?_;rw [cO];exact ⟨hx x (.head _) _ _ w.1,w.2⟩
theorem a0e{f:PR->PR}: ∀{l:List PR} {n0 n1 h0 h1:Bool},(∀x,x∈l-> ∀n h,okF I n h x->okF I n h (f x))->cO I n0 n1 h0 h1 l->cO I n0 n1 h0 h1 (l.map f)
 | [],_,_,_,_,_,_=>mG |x::r,n0,n1,h0,h1,hx,w=>by
  rw [ac8,cO] at*;refine ⟨hx x (.head _) _ _ w.1,?_⟩;have:=w.2;clear w
  induction r with
  |nil=>exact mG |cons y s ih=>
   rw [ac8,cO] at*;exact ⟨hx y (.tail _ (.head _)) _ _ this.1,ih (fun z hz=>hx z (by rcases ab0.1 hz with rfl|hz;exact .head _;exact .tail _ (.tail _ hz))) this.2⟩
theorem GV(L:Lax I): ∀(m:Nat) (p:PR) (n h:Bool),SizeOf.sizeOf p<=m->okF I n h p->okF I n h (aD p)
 |0,p,_,_,h,_=>by obtain ⟨k,c,v,i,to,e,gs,l⟩:=p;simp only [PR.mk.sizeOf_spec] at h;omega
 |m+1,p,n,h,hm,w=>by
  have hL: ∀x,x∈p.l-> ∀n h,okF I n h x->okF I n h (aD x):=fun x hx n h w=>GV L m x n h (by have:=cK hx;omega) w;have w0:=w;rw [okF_eq] at w;obtain ⟨⟨w1,w2,w3⟩,w4,w5⟩:=w;cases hb:cP p with
  |true=>
   rw [f7 hb];split
   ·exact JK L n h
   ·rw [okF_eq];exact ⟨⟨L.par p _ (by rw [aa0]) w1,w2,w3⟩,a0e hL w4,w5⟩
  |false=>
   by_cases h9:p.kind=9
   ·rw [fH h9];have e1:(n&&(p.kind==9||p.kind==10||p.kind==11))=n:=by rw [h9];cases n<;>rfl
    have e2:(n&&(p.kind==10||p.kind==11))=false:=by rw [h9];cases n<;>rfl
    have e3:(h||p.kind==11)=h:=by rw [h9];cases h<;>rfl
    rw [e1,e2,e3] at w4;refine GO L n h _ p.l (fun l' hl hw=>?_) hL w4;rw [okF_eq];refine ⟨⟨L.seq p l' h9 hl w1,w2,w3⟩,?_,w5⟩;show cO I (n&&(p.kind==9||p.kind==10||p.kind==11)) (n&&(p.kind==10||p.kind==11)) (h||p.kind==11) h l';rw [e1,e2,e3];exact hw
   ·rw [gX hb h9];exact w0
theorem BH(L:Lax I){p:PR}{n h:Bool}(w:okF I n h p):okF I n h (aD p):=GV L _ p n h (aa6 _) w
end
mutual
def cX(path:List Nat):PR->List (PR×List Nat)
 |⟨k,c,v,i,to,e,gs,l⟩=>if k=9 then wC path l else if k=10\/k=11 then cW path 0 l else [(⟨k,c,v,i,to,e,gs,l⟩,path)]
def wC(path:List Nat):List PR->List (PR×List Nat)
 | []=>[] |x::_=>cX path x
def cW(path:List Nat)(j:Nat):List PR->List (PR×List Nat)
 | []=>[] |x::r=>cX (path++[j]) x++cW path (j+1) r
end
mutual
def atR:PR->List Nat->Option PR
 |⟨k,c,v,i,to,e,gs,l⟩,path=>if k=9 then HV l path else if k=10\/k=11 then (match path with
  | []=>none |j::rest=>RX l j rest) else (match path with
  | []=>some ⟨k,c,v,i,to,e,gs,l⟩ |_::_=>none)
def HV:List PR->List Nat->Option PR
 | [],_=>none |x::_,path=>atR x path
def RX:List PR->Nat->List Nat->Option PR
 | [],_,_=>none |x::_,0,path=>atR x path
 |_::r,j+1,path=>RX r j path
end
mutual
def bN(q:PR):PR->List Nat->PR
 |⟨k,c,v,i,to,e,gs,l⟩,path=>if k=9 then ⟨k,c,v,i,to,e,gs,A1 q l path⟩ else if k=10\/k=11 then ⟨k,c,v,i,to,e,gs,match path with
  | []=>l |j::rest=>sP q l j rest⟩ else q
def A1(q:PR):List PR->List Nat->List PR
 | [],_=>[] |x::r,path=>bN q x path::r
def sP(q:PR):List PR->Nat->List Nat->List PR
 | [],_,_=>[] |x::r,0,path=>bN q x path::r
 |x::r,j+1,path=>x::sP q r j path
end
theorem pA(path:List Nat)(p:PR):cX path p=if p.kind=9 then wC path p.l else if p.kind=10\/p.kind=11 then cW path 0 p.l else [(p,path)]:=by obtain ⟨k,c,v,i,to,e,gs,l⟩:=p;rw [cX]
theorem gP(p:PR)(path:List Nat):atR p path=if p.kind=9 then HV p.l path else if p.kind=10\/p.kind=11 then (match path with
 | []=>none |j::rest=>RX p.l j rest) else (match path with
 | []=>some p |_::_=>none):=by
 obtain ⟨k,c,v,i,to,e,gs,l⟩:=p;rw [atR.eq_def]
theorem jA(q p:PR)(path:List Nat):bN q p path=if p.kind=9 then ⟨p.kind,p.c,p.v,p.item,p.to,p.e,p.gs,A1 q p.l path⟩ else if p.kind=10\/p.kind=11 then ⟨p.kind,p.c,p.v,p.item,p.to,p.e,p.gs,match path with
 | []=>p.l |j::rest=>sP q p.l j rest⟩ else q:=by
 obtain ⟨k,c,v,i,to,e,gs,l⟩:=p;rw [bN.eq_def]
theorem ND(q:PR): ∀(l:List PR) (j:Nat) (path:List Nat),(sP q l j path).length=l.length
 | [],_,_=>by rw [sP] |x::r,0,path=>by rw [sP,ab1,ab1]
 |x::r,j+1,path=>by rw [sP,ab1,ab1,ND q r j path]
theorem i7: ∀{l:List PR} {j:Nat} {path:List Nat} {c:PR},RX l j path=some c-> ∃x,l[j]? =some x/\atR x path=some c
 | [],_,_,_,h=>by rw [RX] at h;cases h |x::r,0,path,c,h=>by rw [RX] at h;exact ⟨x,rfl,h⟩
 |x::r,j+1,path,c,h=>by rw [RX] at h;obtain ⟨y,h1,h2⟩:=i7 h;exact ⟨y,by simpa using h1,h2⟩
theorem HU: ∀{l:List PR} {j:Nat} {path:List Nat} {x:PR},l[j]? =some x->RX l j path=atR x path
 | [],_,_,_,h=>by cases h |x::r,0,path,c,h=>by rw [RX];injection h with h;rw [h]
 |x::r,j+1,path,c,h=>by rw [RX];exact HU (by simpa using h)
theorem kE(q:PR): ∀{l:List PR} {j:Nat} {path:List Nat} {x:PR},l[j]? =some x->sP q l j path=l.set j (bN q x path)
 | [],_,_,_,h=>by cases h |x::r,0,path,c,h=>by rw [sP];injection h with h;rw [h];rfl
 |x::r,j+1,path,c,h=>by rw [sP,kE q (l:=r) (j:=j) (by simpa using h)];rfl
theorem yJ: ∀(m:Nat) (p:PR) (s:List Nat) (c:PR),SizeOf.sizeOf p<=m->atR p s=some c->c.kind≠9/\c.kind≠10/\c.kind≠11
 |0,p,_,_,h,_=>by obtain ⟨k,c,v,i,to,e,gs,l⟩:=p;simp only [PR.mk.sizeOf_spec] at h;omega
 |m+1,p,s,c,hm,h=>by
  rw [gP] at h
  by_cases h9:p.kind=9
  ·rw [iT h9] at h
   match hl:p.l,h with
   |x::r,h=>
    rw [HV] at h;have hx:x∈p.l:=by rw [hl];exact .head _
    exact yJ m x s c (by have:=cK hx;omega) h
  ·rw [iF h9] at h
   by_cases hb:p.kind=10\/p.kind=11
   ·rw [iT hb] at h
    match s,h with
    |j::rest,h=>
     obtain ⟨x,h1,h2⟩:=i7 h;exact yJ m x rest c (by have:=cK (aa2 h1);omega) h2
   ·rw [iF hb] at h
    match s,h with
    | [],h=>injection h with h;rw [<-h];omega
theorem at_kind{p c:PR}{s:List Nat}(h:atR p s=some c):c.kind≠9/\c.kind≠10/\c.kind≠11:=yJ _ p s c (aa6 _) h
theorem K3{path:List Nat}{c:PR}{s:List Nat}: ∀{l:List PR} {j:Nat},(∀x,x∈l-> ∀pre,(c,s)∈cX pre x-> ∃u,s=pre++u/\atR x u=some c)->(c,s)∈cW path j l-> ∃i u,s=path++(j+i)::u/\RX l i u=some c
 | [],_,_,h=>by rw [cW] at h;cases h |x::r,j,hx,h=>by
  rw [cW] at h;rcases List.mem_append.1 h with h|h
  ·obtain ⟨u,h1,h2⟩:=hx x (.head _) _ h;exact ⟨0,u,by rw [h1];simp,by rw [RX];exact h2⟩
  ·obtain ⟨i,u,h1,h2⟩:=K3 (fun y hy=>hx y (.tail _ hy)) h;exact ⟨i+1,u,by rw [h1];congr 2;omega,by rw [RX];exact h2⟩
theorem FQ: ∀(m:Nat) (p:PR) (pre s:List Nat) (c:PR),SizeOf.sizeOf p<=m->(c,s)∈cX pre p-> ∃u,s=pre++u/\atR p u=some c
 |0,p,_,_,_,h,_=>by obtain ⟨k,c,v,i,to,e,gs,l⟩:=p;simp only [PR.mk.sizeOf_spec] at h;omega
 |m+1,p,pre,s,c,hm,h=>by
  have hL: ∀x,x∈p.l-> ∀pre,(c,s)∈cX pre x-> ∃u,s=pre++u/\atR x u=some c:=fun x hx pre h=>FQ m x pre s c (by have:=cK hx;omega) h;rw [pA] at h
  by_cases h9:p.kind=9
  ·rw [iT h9] at h
   match hl:p.l,h with
   | [],h=>rw [wC] at h;cases h |x::r,h=>
    rw [wC] at h;obtain ⟨u,h1,h2⟩:=hL x (by rw [hl];exact .head _) _ h;exact ⟨u,h1,by rw [gP,iT h9,hl,HV];exact h2⟩
  ·rw [iF h9] at h
   by_cases hb:p.kind=10\/p.kind=11
   ·rw [iT hb] at h;obtain ⟨i,u,h1,h2⟩:=K3 hL h;rw [Nat.zero_add] at h1;exact ⟨i::u,h1,by rw [gP,iF h9,iT hb];exact h2⟩
   ·rw [iF hb] at h;have h:=aa3.1 h;injection h with h1 h2;subst h1;subst h2;exact ⟨[],by simp,by rw [gP,iF h9,iF hb]⟩
theorem A9{p c:PR}{s:List Nat}(h:(c,s)∈cX [] p):atR p s=some c:=by obtain ⟨u,h1,h2⟩:=FQ _ p [] s c (aa6 _) h;rw [h1];exact h2
section
variable{I:PR->Prop}
theorem BK{h0 h1:Bool}: ∀{l:List PR} {j:Nat} {x:PR},l[j]? =some x->cO I true true h0 h1 l-> ∃h,okF I true h x
 | [],_,_,h,_=>by cases h |z::r,0,x,h,w=>by injection h with h;subst h;rw [cO] at w;exact ⟨_,w.1⟩
 |z::r,j+1,x,h,w=>by rw [cO] at w;exact BK (by simpa using h) w.2
theorem GX{h1:Bool}{x y:PR}(hy: ∀h,okF I true h x->okF I true h y): ∀{l:List PR} {j:Nat} {h0:Bool},l[j]? =some x->cO I true true h0 h1 l->cO I true true h0 h1 (l.set j y)
 | [],_,_,h,_=>by cases h |z::r,0,_,h,w=>by injection h with h;subst h;rw [aj0,cO];rw [cO] at w;exact ⟨hy _ w.1,w.2⟩
 |z::r,j+1,_,h,w=>by rw [ap2,cO];rw [cO] at w;exact ⟨w.1,GX hy (by simpa using h) w.2⟩
theorem HW: ∀(m:Nat) (p:PR) (s:List Nat) (c:PR) (h:Bool),SizeOf.sizeOf p<=m->atR p s=some c->okF I true h p-> ∃h',okF I true h' c
 |0,p,_,_,_,h,_,_=>by obtain ⟨k,c,v,i,to,e,gs,l⟩:=p;simp only [PR.mk.sizeOf_spec] at h;omega
 |m+1,p,s,c,h,hm,ha,w=>by
  have w0:=w;rw [okF_eq] at w;obtain ⟨⟨w1,w2,w3⟩,w4,w5⟩:=w;rw [gP] at ha
  by_cases h9:p.kind=9
  ·rw [iT h9] at ha
   match hl:p.l,ha with
   |x::r,ha=>
    rw [HV] at ha;rw [hl,cO,h9] at w4;have hx:x∈p.l:=by rw [hl];exact .head _
    exact HW m x s c _ (by have:=cK hx;omega) ha w4.1
  ·rw [iF h9] at ha
   by_cases hb:p.kind=10\/p.kind=11
   ·rw [iT hb] at ha;have e1:(true&&(p.kind==9||p.kind==10||p.kind==11))=true:=by rcases hb with h|h<;>rw [h]<;>rfl
    have e2:(true&&(p.kind==10||p.kind==11))=true:=by rcases hb with h|h<;>rw [h]<;>rfl
    rw [e1,e2] at w4
    match s,ha with
    |j::rest,ha=>
     obtain ⟨x,h1,h2⟩:=i7 ha;obtain ⟨h',w'⟩:=BK h1 w4;exact HW m x rest c h' (by have:=cK (aa2 h1);omega) h2 w'
   ·rw [iF hb] at ha
    match s,ha with
    | [],ha=>injection ha with ha;subst ha;exact ⟨h,w0⟩
theorem at_ok{p c:PR}{s:List Nat}{h:Bool}(ha:atR p s=some c)(w:okF I true h p): ∃h',okF I true h' c:=HW _ p s c h (aa6 _) ha w
theorem D5(L:Lax I)(q c:PR)(hq: ∀h,okF I true h c->okF I true h q): ∀(m:Nat) (p:PR) (s:List Nat) (h:Bool),SizeOf.sizeOf p<=m->atR p s=some c->okF I true h p->okF I true h (bN q p s)
 |0,p,_,_,h,_,_=>by obtain ⟨k,c,v,i,to,e,gs,l⟩:=p;simp only [PR.mk.sizeOf_spec] at h;omega
 |m+1,p,s,h,hm,ha,w=>by
  have w0:=w;rw [okF_eq] at w;obtain ⟨⟨w1,w2,w3⟩,w4,w5⟩:=w;rw [gP] at ha;rw [jA]
  by_cases h9:p.kind=9
  ·rw [iT h9] at ha⊢
   match hl:p.l,ha with
   |x::r,ha=>
    rw [HV] at ha;rw [A1];have hx:x∈p.l:=by rw [hl];exact .head _
    have ih:=fun h w=>D5 L q c hq m x s h (by have:=cK hx;omega) ha w;rw [okF_eq];refine ⟨⟨L.par p _ (by rw [hl];rfl) w1,w2,w3⟩,?_,w5⟩;show cO I (true&&(p.kind==9||p.kind==10||p.kind==11)) (true&&(p.kind==10||p.kind==11)) (h||p.kind==11) h (bN q x s::r);rw [hl] at w4;have e1:(true&&(p.kind==9||p.kind==10||p.kind==11))=true:=by rw [h9];rfl
    rw [e1] at w4⊢;rw [cO] at w4⊢;exact ⟨ih _ w4.1,w4.2⟩
  ·rw [iF h9] at ha⊢
   by_cases hb:p.kind=10\/p.kind=11
   ·rw [iT hb] at ha⊢;have e1:(true&&(p.kind==9||p.kind==10||p.kind==11))=true:=by rcases hb with h|h<;>rw [h]<;>rfl
    have e2:(true&&(p.kind==10||p.kind==11))=true:=by rcases hb with h|h<;>rw [h]<;>rfl
    match s,ha with
    |j::rest,ha=>
     obtain ⟨x,h1,h2⟩:=i7 ha;have ih:=fun h w=>D5 L q c hq m x rest h (by have:=cK (aa2 h1);omega) h2 w;rw [okF_eq];refine ⟨⟨L.par p _ (ND q _ _ _) w1,w2,w3⟩,?_,w5⟩;show cO I (true&&(p.kind==9||p.kind==10||p.kind==11)) (true&&(p.kind==10||p.kind==11)) (h||p.kind==11) h (sP q p.l j rest);rw [e1,e2] at w4⊢;rw [kE q h1];exact GX ih h1 w4
   ·rw [iF hb] at ha⊢
    match s,ha with
    | [],ha=>injection ha with ha;rw [ha] at w0;exact hq _ w0
theorem JR(L:Lax I){q c p:PR}{s:List Nat}{h:Bool}(hq: ∀h,okF I true h c->okF I true h q)(ha:atR p s=some c)(w:okF I true h p):okF I true h (bN q p s):=D5 L q c hq _ p s h (aa6 _) ha w
end
theorem T9{y x:PR}(h:iO y<=iO x): ∀{l:List PR} {j:Nat},l[j]? =some x->rO (l.set j y)<=rO l
 | [],_,h=>by cases h |z::r,0,h=>by injection h with h;subst h;rw [aj0,rO,rO];omega
 |z::r,j+1,hx=>by have:=T9 h (l:=r) (j:=j) (by simpa using hx);rw [ap2,rO,rO];omega
theorem SC{y x:PR}(h:lM y<=lM x): ∀{l:List PR} {j:Nat},l[j]? =some x->s8 (l.set j y)<=s8 l
 | [],_,h=>by cases h |z::r,0,h=>by injection h with h;subst h;rw [aj0,s8,s8];omega
 |z::r,j+1,hx=>by have:=SC h (l:=r) (j:=j) (by simpa using hx);rw [ap2,s8,s8];omega
theorem wtS_head{x y:PR}{r:List PR}(h:iO y<=iO x):KA (y::r)<=KA (x::r):=by
 cases r with
 |nil=>rw [HN,HN];exact h |cons z s=>rw [AY,AY];omega
theorem YI{x y:PR}{r:List PR}(h:lM y<=lM x):J8 (y::r)<=J8 (x::r):=by
 cases r with
 |nil=>rw [LI,LI];exact h |cons z s=>rw [CM,CM];omega
theorem xH(q c:PR)(hq:iO q<=iO c)(hd:lM q<=lM c): ∀(m:Nat) (p:PR) (s:List Nat),SizeOf.sizeOf p<=m->atR p s=some c->iO (bN q p s)<=iO p/\lM (bN q p s)<=lM p
 |0,p,_,h,_=>by obtain ⟨k,c,v,i,to,e,gs,l⟩:=p;simp only [PR.mk.sizeOf_spec] at h;omega
 |m+1,p,s,hm,ha=>by
  rw [gP] at ha;rw [jA]
  by_cases h9:p.kind=9
  ·rw [iT h9] at ha⊢
   match hl:p.l,ha with
   |x::r,ha=>
    rw [HV] at ha;rw [A1];have hx:x∈p.l:=by rw [hl];exact .head _
    have ih:=xH q c hq hd m x s (by have:=cK hx;omega) ha;rw [iP p,jE p,iP,jE];show (if p.kind=9 then bT p.gs+KA (bN q x s::r) else _)<=_/\(if p.kind=9 then max (1+dZ p.gs) (J8 (bN q x s::r)) else _)<=_;rw [iT h9,iT h9,iT h9,iT h9,hl];have:=wtS_head (r:=r) ih.1;have:=YI (r:=r) ih.2;omega
  ·rw [iF h9] at ha⊢
   by_cases hb:p.kind=10\/p.kind=11
   ·rw [iT hb] at ha⊢
    match s,ha with
    |j::rest,ha=>
     obtain ⟨x,h1,h2⟩:=i7 ha;have ih:=xH q c hq hd m x rest (by have:=cK (aa2 h1);omega) h2;rw [iP p,jE p,iP,jE];show (if p.kind=9 then _ else if p.kind=10\/p.kind=11 then 2+bT p.gs+rO (sP q p.l j rest) else _)<=_/\(if p.kind=9 then _ else if p.kind=10\/p.kind=11 then 1+max (max 1 (dZ p.gs)) (s8 (sP q p.l j rest)) else _)<=_;rw [iF h9,iF h9,iF h9,iF h9,iT hb,iT hb,iT hb,iT hb,kE q h1];have:=T9 ih.1 h1;have:=SC ih.2 h1;omega
   ·rw [iF hb] at ha⊢
    match s,ha with
    | [],ha=>injection ha with ha;rw [ha];exact ⟨hq,hd⟩
theorem rep_wt{q c p:PR}{s:List Nat}(hq:iO q<=iO c)(hd:lM q<=lM c)(ha:atR p s=some c):iO (bN q p s)<=iO p:=(xH q c hq hd _ p s (aa6 _) ha).1
theorem rep_dw{q c p:PR}{s:List Nat}(hq:iO q<=iO c)(hd:lM q<=lM c)(ha:atR p s=some c):lM (bN q p s)<=lM p:=(xH q c hq hd _ p s (aa6 _) ha).2
theorem D4(q c:PR): ∀(m:Nat) (p:PR) (s t:List Nat) (d:PR),SizeOf.sizeOf p<=m->atR p s=some c->atR p t=some d->s≠t->atR (bN q p s) t=some d
 |0,p,_,_,_,h,_,_,_=>by obtain ⟨k,c,v,i,to,e,gs,l⟩:=p;simp only [PR.mk.sizeOf_spec] at h;omega
 |m+1,p,s,t,d,hm,ha,hb',hne=>by
  rw [gP] at ha hb';rw [jA]
  by_cases h9:p.kind=9
  ·rw [iT h9] at ha hb'⊢
   match hl:p.l,ha,hb' with
   |x::r,ha,hb'=>
    rw [HV] at ha hb';rw [A1,gP];have hx:x∈p.l:=by rw [hl];exact .head _
    show (if p.kind=9 then HV (bN q x s::r) t else _)=_;rw [iT h9,HV];exact D4 q c m x s t d (by have:=cK hx;omega) ha hb' hne
  ·rw [iF h9] at ha hb'⊢
   by_cases hb:p.kind=10\/p.kind=11
   ·rw [iT hb] at ha hb'⊢
    match s,t,ha,hb',hne with
    |j::u,i::v,ha,hb',hne=>
     obtain ⟨x,h1,h2⟩:=i7 ha;obtain ⟨y,g1,g2⟩:=i7 hb';rw [gP];show (if p.kind=9 then _ else if p.kind=10\/p.kind=11 then RX (sP q p.l j u) i v else _)=_;rw [iF h9,iT hb,kE q h1]
     by_cases hji:j=i
     ·subst hji;rw [h1] at g1;injection g1 with g1;subst g1;have hj:j<p.l.length:=by
       rcases ad7 j p.l.length with h|h
       ·exact h
       ·rw [ab4 h] at h1;cases h1
      rw [HU (x:=bN q x u) (by rw [List.getElem?_set_self hj])];exact D4 q c m x u v d (by have:=cK (aa2 h1);omega) h2 g2 (fun e=>hne (by rw [e]))
     ·rw [HU (x:=y) (by rw [List.getElem?_set_ne hji];exact g1)];exact g2
   ·rw [iF hb] at ha hb'
    match s,t,ha,hb',hne with
    | [],[],ha,hb',hne=>exact (hne T).elim
theorem rep_at{q c d p:PR}{s t:List Nat}(ha:atR p s=some c)(hb:atR p t=some d)(hne:s≠t):atR (bN q p s) t=some d:=D4 q c _ p s t d (aa6 _) ha hb hne
theorem xI(L:List AV)(hL: ∀x,x∈L-> ∃cs,x= .ag cs/\lY cs=true)(h:GH)(zs:List Value)(q:dM h L zs): ∀z,z∈zs->aP (aI z)=true:=by
 induction L generalizing zs with
 |nil=>rw [aQ] at q;subst q;intro z hz;cases hz |cons x r ih=>
  rw [aG] at q;obtain ⟨v,vs,rfl,q1,q2⟩:=q;intro z hz;rcases ab0.1 hz with rfl|hz
  ·obtain ⟨cs,rfl,ho⟩:=hL x (.head _);rw [eJ] at q1;obtain ⟨ds,rfl,q1⟩:=q1;exact q1.one ho
  ·exact ih (fun y hy=>hL y (.tail _ hy)) vs q2 z hz
theorem oneG(l:List GD): ∀x,x∈eV l-> ∃cs,x= .ag cs/\lY cs=true:=by intro x hx;rw [jK,ac1] at hx;obtain ⟨g,_,rfl⟩:=hx;exact ⟨_,rfl,rfl⟩
theorem oneR(l:List PR): ∀x,x∈bC l-> ∃cs,x= .ag cs/\lY cs=true:=by intro x hx;rw [jL,ac1] at hx;obtain ⟨g,_,rfl⟩:=hx;exact ⟨_,rfl,rfl⟩
theorem KY(l:List GD)(hb:l.length<=16777216):gM prog a9 106 [rH l] [] (fun z:Value=> .ms z 18 l.length) (fun z=>[.row 18 z (eV l)]) (fun _=>True):=by
 unfold gM;have hlen:=dD l;have hone:=oneG l;show lI _ _ _ [.sl 18 (eV l) none] _ _;generalize eV l=L at hlen hone;rw [<-hlen] at hb⊢;cases L with
 |nil=>
  refine lI.of (S:=tt) (fn:=f106) (n:=8) dN func106 T T T T fun w0 h0 F hgs=>?_;refine y_ ?_;refine A.ey T T T T T T T T fun b hb=>?_;cases b
  ·refine y_ ?_;refine A.fq T T T T T T T fun bl=>?_;refine y_ ?_;refine A.bq T T T T T T T T T T T T T (by simp) (by simp) (fun x hx=>by injection hx with hx;subst hx;rfl) (xI _ hone) fun z=>?_;refine y_ ?_;refine A.az (Λ':=[.row 18 z _]) T T T kK ⟨z, .refl,rfl,trivial⟩
  ·refine y_ ?_;refine A.fc 2 18 T fun z=>?_;refine A.az (Λ':=[.row 18 z []]) T T T kK ⟨z, .refl,rfl,trivial⟩
 |cons x r=>
  refine lI.of (S:=tt) (fn:=f106) (n:=8) dN func106 T T T T fun w0 h0 F hgs=>?_;refine y_ ?_;refine A.ey T T T T T T T T fun b hb=>?_;cases b
  case true=>cases hb T
  refine y_ ?_;refine A.fq T T T T T T T fun bl=>?_;refine y_ ?_;refine A.bq T T T T T T T T T T T T T (by show (x::r).length*18<=_;omega) (by show (x::r).length*18*160<=_;omega) (fun x hx=>by injection hx with hx;subst hx;rfl) (xI _ hone) fun z=>?_;refine y_ ?_;refine A.az (Λ':=[.row 18 z _]) T T T kK ⟨z, .refl,rfl,trivial⟩
theorem KZ(l:List PR)(hb:l.length<=16777216):gM prog a9 89 [iQ l] [] (fun z:Value=> .ms z 8 l.length) (fun z=>[.row 8 z (bC l)]) (fun _=>True):=by
 unfold gM;have hlen:=aW l;have hone:=oneR l;show lI _ _ _ [.sl 8 (bC l) none] _ _;generalize bC l=L at hlen hone;rw [<-hlen] at hb⊢;cases L with
 |nil=>
  refine lI.of (S:=tt) (fn:=f89) (n:=8) dN func89 T T T T fun w0 h0 F hgs=>?_;refine y_ ?_;refine A.ey T T T T T T T T fun b hb=>?_;cases b
  ·refine y_ ?_;refine A.fq T T T T T T T fun bl=>?_;refine y_ ?_;refine A.bq T T T T T T T T T T T T T (by simp) (by simp) (fun x hx=>by injection hx with hx;subst hx;rfl) (xI _ hone) fun z=>?_;refine y_ ?_;refine A.az (Λ':=[.row 8 z _]) T T T kK ⟨z, .refl,rfl,trivial⟩
  ·refine y_ ?_;refine A.fc 2 8 T fun z=>?_;refine A.az (Λ':=[.row 8 z []]) T T T kK ⟨z, .refl,rfl,trivial⟩
 |cons x r=>
  refine lI.of (S:=tt) (fn:=f89) (n:=8) dN func89 T T T T fun w0 h0 F hgs=>?_;refine y_ ?_;refine A.ey T T T T T T T T fun b hb=>?_;cases b
  case true=>cases hb T
  refine y_ ?_;refine A.fq T T T T T T T fun bl=>?_;refine y_ ?_;refine A.bq T T T T T T T T T T T T T (by show (x::r).length*8<=_;omega) (by show (x::r).length*8*128<=_;omega) (fun x hx=>by injection hx with hx;subst hx;rfl) (xI _ hone) fun z=>?_;refine y_ ?_;refine A.az (Λ':=[.row 8 z _]) T T T kK ⟨z, .refl,rfl,trivial⟩
def iX(g:GD):GD:=⟨g.kind,g.cond,g.c,g.item,g.to,g.time,g.body.map fun _=>aK⟩
def nH(p:PR):PR:=⟨if p.kind=16 then 14 else p.kind,p.c,p.v,p.item,p.to,p.e,p.gs.map iX,p.l.map fun _=>aK⟩
def sV(g:GD):Bool:=g.cond.kind==1&&(g.kind !=4||g.time.kind==1)
abbrev FJ(V:List KV)(C:List Int)(q:PR)(left:Int):AV:= .ag [nR V,H5 C,aU q.kind,AI q.c,AI q.v,aU q.item,iK q.to,c8 q.e,rH q.gs,iQ q.l, .v (.slice none 0 0),AI left]
def qO{α:Type}(f g:α->AV)(l:List α)(i:Nat):List AV:=(l.take i).map f++(l.drop i).map g
theorem rowM_len{α:Type}{f g:α->AV}{l:List α}{i:Nat}:(qO f g l i).length=l.length:=by rw [qO,aa7,aa0,aa0,ac3,List.length_drop];omega
theorem vW{α:Type}{l:List α}{i:Nat}{x:α}(hx:l[i]? =some x):i<l.length:=by
 rcases ad7 i l.length with h|h
 ·exact h
 ·rw [ab4 h] at hx;cases hx
theorem rowM_at{α:Type}{f g:α->AV}{l:List α}{i:Nat}{x:α}(hx:l[i]? =some x):(qO f g l i)[i]? =some (g x):=by have hi:=vW hx;rw [qO,List.getElem?_append_right (by rw [aa0,ac3];omega),aa0,ac3,show i-min i l.length=0 by omega,ab9,List.getElem?_drop,Nat.add_zero,hx];rfl
theorem rowM_set{α:Type}{f g:α->AV}{l:List α}{i:Nat}{x:α}(hx:l[i]? =some x):(qO f g l i).set i (f x)=qO f g l (i+1):=by have hi:=vW hx;unfold qO;rw [al0 _ _ (by rw [aa0,ac3];omega),aa0,ac3,show i-min i l.length=0 by omega,bS hx,ac8,aj0,ac6,hx];simp
theorem rowM_0{α:Type}{f g:α->AV}{l:List α}:qO f g l 0=l.map g:=by rw [qO];simp
theorem V7{α:Type}{f g:α->AV}{l:List α}:qO f g l l.length=l.map f:=by rw [qO];simp
theorem skA_eq:aB aK=rN:=DW 1
theorem skip_A:Pure prog a9 48 [] rN:=by rw [<-skA_eq];exact nM
theorem TP{α:Type}(l:List α):bC (l.map fun _=>aK)=List.replicate l.length rN:=by
 rw [jL,ai1]
 induction l with
 |nil=>rfl |cons x r ih=>rw [ac8,ih,ab1,ai7];show _::_=_;rw [<-skA_eq];rfl
theorem ownG_A(g:GD):aZ (iX g)= .ag [aU g.kind,aU g.cond.kind,aU g.cond.oper,aU g.cond.to,aL g.cond.n,AI g.cond.v,c8 g.cond.l,AI g.c,aU g.item,AI g.to.v,c8 g.to.ix,aU g.time.kind,aU g.time.oper,aU g.time.to,aL g.time.n,AI g.time.v,c8 g.time.l, .sl 8 (List.replicate g.body.length rN) none]:=by rw [<-TP];rfl
theorem ownG_st(g:GD):stA ty29 (aZ g) 17 (.sl 8 (List.replicate g.body.length rN) none)=some (aZ (iX g)):=by rw [ownG_A];rfl
theorem R7(V:List KV)(C:List Int)(left:Int){p:PR}{k:Int}(h:(nH p).kind=k):FJ V C (nH p) left= .ag [nR V,H5 C,aU k,AI p.c,AI p.v,aU p.item,iK p.to,c8 p.e,rH (p.gs.map iX),iQ (p.l.map fun _=>aK), .v (.slice none 0 0),AI left]:=by subst h;rfl
theorem ZQ(V:List KV)(C:List Int)(b:Nat)(q p:PR)(left:Int)(hwait:p.kind=16-> ∀g,g∈p.gs->sV g=true)(hgl:p.gs.length<=16)(hll:p.l.length<=2048)(hbl: ∀g,g∈p.gs->g.body.length<=2048)
 (hwf:KG ⟨V,C,nH p,[]⟩) (hm:nV ⟨V,C,nH p,[]⟩=true):
 gM prog a9 71 [cT b,aB p] [.box b (FJ V C q left)] (fun _:Unit=>AB true) (fun _=>[.box b (FJ V C (nH p) left)]) (fun _=>True):=by
 unfold gM;have hlen:((bC p.l).length:Int)=p.l.length:=by rw [aW]
 have hgn:p.gs.length<=16777216:=by omega
 have hrp:=NF p.l.length (by omega);have hcl:=KY p.gs hgn;have hk:=I3 _ hwf;rw [hm] at hk;refine lI.of (S:=tt) (fn:=f71) (n:=72) dN func71 T T T T fun w0 h0 F hgs=>?_;refine b_ fun b1=>?_;refine y_ ?_;refine A.draw 6 [2,3,4,0,1,5] (fun i=>if i=5 then [1] else []) [(0,rN),(5, .sl 8 (List.replicate p.l.length rN) none)] (by kernel_rfl) (by kernel_rfl) ?_;refine w_ ?_;refine WA.ad 11 T (x':=AI (p.l.length:Nat)) (aM hlen) ?_;refine lS skip_A ?_;refine WA.lit T T T T T T T fun bw=>?_;refine WA.c T T hrp (by repeat (first|exact pZ.sub fO.refl|refine pZ.cons ?_ ?_|exact AZ.sub Sb.refl|refine AZ.pub (j:=1) T T ?_|exact AZ.sub Sb.cw|exact AZ.sub Sb.nil|focus (refine AZ.sub ?_;(repeat (first|exact Sb.refl|exact fO.refl|refine fO.cons ?_ ?_|exact Sb.nil|exact Sb.cw|refine Sb.own ?_|refine Sb.ag ?_|refine Sb.tp ?_));done))) ?_;refine z_ ?_;refine A.e T hcl .refl (List.Perm.refl _) fun z _=>?_;refine A.gi (aa4 ..) fun a cp hz hcp=>?_;rw [dD] at hz hcp;subst hz;refine y_ ?_;refine A.ay [0,3,4,19,20,21] T ?_;refine A.au (Λ':=[.row 18 (.slice a p.gs.length cp) (qO (fun g=>aZ (iX g)) aZ p.gs 0), .box b1 (.ag [aU p.kind,AI p.c,AI p.v,aU p.item,iK p.to,c8 p.e, .ms (.slice a p.gs.length cp) 18 p.gs.length, .sl 8 (List.replicate p.l.length rN) none]), .box b (FJ V C q left)]) (by rw [rowM_0,jK]) ?_
 refine A.ar (ι:=Nat) (fun i=>(⟨[(0,cT b),(3,cT b1),(4,AB false),(19, .ms (.slice a p.gs.length cp) 18 p.gs.length),(20,AI (p.gs.length:Nat)),(21,AI (i:Nat))],[]⟩,[.row 18 (.slice a p.gs.length cp) (qO (fun g=>aZ (iX g)) aZ p.gs i), .box b1 (.ag [aU p.kind,AI p.c,AI p.v,aU p.item,iK p.to,c8 p.e, .ms (.slice a p.gs.length cp) 18 p.gs.length, .sl 8 (List.replicate p.l.length rN) none]), .box b (FJ V C q left)]))
  (fun i=>i<=p.gs.length) (fun i=>p.gs.length-i) 0 (ac0 _) T fun i hi ih=>?_
 refine y_ ?_;refine k_ (fun hc=>?_) fun hc=>?_
 ·have hci:i<p.gs.length:=by simpa using hc
  clear hc;refine aX hci fun g hg=>?_;have hgm:=aa2 hg;have hgb:=hbl g hgm;have hln:(qO (fun g=>aZ (iX g)) aZ p.gs i).length=p.gs.length:=rowM_len;have hat:=rowM_at (f:=fun g=>aZ (iX g)) (g:=aZ) hg;have hne:qO (fun g=>aZ (iX g)) aZ p.gs i≠[]:=by intro h;rw [h] at hln;simp at hln;omega
  have hbn:((bC g.body).length:Int)=g.body.length:=by rw [aW]
  have hrb:=NF g.body.length (by omega);refine A.fm (a:=a) (n:=p.gs.length) (c:=cp) (sz:=18) (l:=qO (fun g=>aZ (iX g)) aZ p.gs i) hne fun bb o ha=>?_;subst ha;refine y_ ?_;refine A.ax T T T T T T T T (by show (0:Int)<=(i:Nat);omega) (by rw [hln];omega) T ?_;refine A.cy T T T T T T (y':=aZ g) T hat T T ?_
  (refine b_ fun bx=>?_;refine y_ ?_)
  refine A.draw 9 [0,1,2,5,6,7,3,4,8] (fun i=>if i=8 then [4] else []) [(3,rN),(8, .sl 8 (List.replicate g.body.length rN) none)] (by kernel_rfl) (by kernel_rfl) ?_;refine w_ ?_;refine WA.ad 33 T (x':=AI (g.body.length:Nat)) (aM hbn) ?_;refine lS skip_A ?_;refine WA.lit T T T T T T T fun bw=>?_;refine WA.c T T hrb (by repeat (first|exact pZ.sub fO.refl|refine pZ.cons ?_ ?_|exact AZ.sub Sb.refl|refine AZ.pub (j:=4) T T ?_|exact AZ.sub Sb.cw|exact AZ.sub Sb.nil|focus (refine AZ.sub ?_;(repeat (first|exact Sb.refl|exact fO.refl|refine fO.cons ?_ ?_|exact Sb.nil|exact Sb.cw|refine Sb.own ?_|refine Sb.ag ?_|refine Sb.tp ?_));done))) ?_;refine WA.nil (l:=[]) T ?_;refine A.ax T T T T T T T T (by show (0:Int)<=(i:Nat);omega) (by rw [hln];omega) T ?_;refine A.jx 35 T ?_;refine y_ ?_;refine A.dt i 17 ty68 T T T T T p.gs.length cp o ?_ hat (x':=aZ (iX g)) ?_ T T T (rowM_set (f:=fun g=>aZ (iX g)) (g:=aZ) hg) ?_
  ·simp
  ·exact ownG_st g
  refine y_ ?_
  ((fail_if_success (refine A.lit? T ?_));refine A.gS T (fun hc=>?_) (fun hc=>?_))
  ·have hk16:p.kind=16:=by have h:(p.kind==16)=true:=hc;simpa using h
   have hw:=hwait hk16 g hgm;unfold sV at hw;rw [aa1] at hw;have hw1:g.cond.kind=1:=by simpa using hw.1
   refine y_ ?_;refine F_ T (show (g.cond.kind !=1)=false by rw [hw1];rfl) ?_;clear hc
   ((fail_if_success (refine A.lit? T ?_));refine A.gS T (fun hc=>?_) (fun hc=>?_))
   ·have hk4:g.kind=4:=by have h:(g.kind==4)=true:=hc;simpa using h
    have hw2:g.time.kind=1:=by have h:=hw.2;rw [hk4] at h;simpa using h
    refine y_ ?_;refine e_ 56 T (x':=AB false) (aA (by show (g.time.kind !=1)=false;rw [hw2];rfl)) ?_;refine vI 21 i ?_;refine l_ (Λ':=[.row 18 (.slice (some ⟨bb,o,none⟩) p.gs.length cp) (qO (fun g=>aZ (iX g)) aZ p.gs (i+1)), .box b1 (.ag [aU p.kind,AI p.c,AI p.v,aU p.item,iK p.to,c8 p.e, .ms (.slice (some ⟨bb,o,none⟩) p.gs.length cp) 18 p.gs.length, .sl 8 (List.replicate p.l.length rN) none]), .box b (FJ V C q left)]) ?_;refine u_ (ih (i+1) (by omega) (by omega))
   ·refine y_ ?_;refine vI 21 i ?_;refine l_ (Λ':=[.row 18 (.slice (some ⟨bb,o,none⟩) p.gs.length cp) (qO (fun g=>aZ (iX g)) aZ p.gs (i+1)), .box b1 (.ag [aU p.kind,AI p.c,AI p.v,aU p.item,iK p.to,c8 p.e, .ms (.slice (some ⟨bb,o,none⟩) p.gs.length cp) 18 p.gs.length, .sl 8 (List.replicate p.l.length rN) none]), .box b (FJ V C q left)]) ?_;refine u_ (ih (i+1) (by omega) (by omega))
  ·refine y_ ?_;refine vI 21 i ?_;refine l_ (Λ':=[.row 18 (.slice (some ⟨bb,o,none⟩) p.gs.length cp) (qO (fun g=>aZ (iX g)) aZ p.gs (i+1)), .box b1 (.ag [aU p.kind,AI p.c,AI p.v,aU p.item,iK p.to,c8 p.e, .ms (.slice (some ⟨bb,o,none⟩) p.gs.length cp) 18 p.gs.length, .sl 8 (List.replicate p.l.length rN) none]), .box b (FJ V C q left)]) ?_;refine u_ (ih (i+1) (by omega) (by omega))
 have hci: ¬i<p.gs.length:=by simpa using hc
 have hil:i=p.gs.length:=by omega
 clear hc;subst hil;refine A.du 3 (.slice a p.gs.length cp) (x':= .ag [aU p.kind,AI p.c,AI p.v,aU p.item,iK p.to,c8 p.e, .sl 18 (p.gs.map fun g=>aZ (iX g)) none, .sl 8 (List.replicate p.l.length rN) none]) T (by rw [V7];exact fz_) ?_;refine A.au (Λ':=[.box b1 (.ag [aU p.kind,AI p.c,AI p.v,aU p.item,iK p.to,c8 p.e,rH (p.gs.map iX),iQ (p.l.map fun _=>aK)]), .box b (FJ V C q left)]) (by rw [show rH (p.gs.map iX)= .sl 18 (p.gs.map fun g=>aZ (iX g)) none from by show AV.sl 18 (eV _) none=_;rw [jK,ai1];rfl,show iQ (p.l.map fun _=>aK)= .sl 8 (List.replicate p.l.length rN) none from by show AV.sl 8 (bC _) none=_;rw [TP]]) ?_;clear ih;refine y_ ?_;refine k_ (fun hc=>?_) fun hc=>?_
 ·have hk16:p.kind=16:=by have h:(p.kind==16)=true:=hc;simpa using h
  have hko:(nH p).kind=14:=by show (if p.kind=16 then (14:Int) else p.kind)=14;rw [iT hk16]
  rw [show eZ ⟨V,C,nH p,[]⟩= .ag [nR V,H5 C,aU 14,AI p.c,AI p.v,aU p.item,iK p.to,c8 p.e,rH (p.gs.map iX),iQ (p.l.map fun _=>aK),t8 []] from by rw [<-hko];rfl] at hk;rw [R7 V C left hko];refine y_ ?_;refine c_ hk ?_;refine A.az (Λ':=[.box b _]) T T T kK ⟨(), .refl,rfl,trivial⟩
 ·have hk16:p.kind≠16:=by have h:(p.kind==16)=false:=hc;simpa using h
  have hko:(nH p).kind=p.kind:=by show (if p.kind=16 then (14:Int) else p.kind)=p.kind;rw [iF hk16]
  rw [show eZ ⟨V,C,nH p,[]⟩= .ag [nR V,H5 C,aU p.kind,AI p.c,AI p.v,aU p.item,iK p.to,c8 p.e,rH (p.gs.map iX),iQ (p.l.map fun _=>aK),t8 []] from by rw [<-hko];rfl] at hk;rw [R7 V C left hko];refine y_ ?_;refine c_ hk ?_;refine A.az (Λ':=[.box b _]) T T T kK ⟨(), .refl,rfl,trivial⟩
structure E8(V:List KV)(C:List Int)(p:PR):Prop where
 wait:p.kind=16-> ∀g,g∈p.gs->sV g=true
 gl:p.gs.length<=16
 ll:p.l.length<=2048
 body: ∀g,g∈p.gs-> ∃y,g.body=[y]
 wf:KG ⟨V,C,nH p,[]⟩
 may:nV ⟨V,C,nH p,[]⟩=true
abbrev CU(V:List KV)(C:List Int)(b:Nat)(q p:PR)(left inside:Int)(next high:Bool):Prop:=
 gM prog a9 51 [cT b,aB p,AI inside,AB next,AB high] [.box b (FJ V C q left)] (fun _:PR=>AB true) (fun q'=>[.box b (FJ V C q' (left-gO p))]) (fun _=>True)
theorem nowait{k:Int}{next high:Bool}(h16:k=16->next=true)(h11:k=11->high=false):(bif bif k==16 then !next else false then true else bif k==11 then high else false)=false:=by
 by_cases a:k=16
 ·rw [h16 a,a];rfl
 ·by_cases c:k=11
  ·rw [h11 c,c];rfl
  ·rw [show (k==16)=false from beq_eq_false_iff_ne.2 a,show (k==11)=false from beq_eq_false_iff_ne.2 c];rfl
theorem IQ: ∀{ps:List PR} {x:PR},x∈ps->pY x<=jF ps
 | [],_,h=>by cases h |y::r,x,h=>by
  rw [jF];rcases ab0.1 h with rfl|h
  ·omega
  ·have:=IQ h;omega
theorem SN: ∀{gs:List GD} {x:GD},x∈gs->htG x<=dZ gs
 | [],_,h=>by cases h |y::r,x,h=>by
  rw [dZ];rcases ab0.1 h with rfl|h
  ·omega
  ·have:=SN h;omega
theorem M5{I:PR->Prop}{n1 h1:Bool}: ∀{l:List PR} {i:Nat} {y:PR} {n0 h0:Bool},l[i]? =some y->cO I n0 n1 h0 h1 l->okF I (if i=0 then n0 else n1) (if i=0 then h0 else h1) y
 | [],_,_,_,_,h,_=>by cases h |z::r,0,y,n0,h0,h,w=>by injection h with h;subst h;rw [cO] at w;exact w.1
 |z::r,i+1,y,n0,h0,h,w=>by
  rw [cO] at w;have:=M5 (i:=i) (by simpa using h) w.2;rw [iF (by omega),iF (by omega)]
  by_cases hi:i=0
  ·rw [iT hi,iT hi] at this;exact this
  ·rw [iF hi,iF hi] at this;exact this
theorem fine_a(V:List KV)(C:List Int)(b:Nat)(q p:PR)(left inside:Int)(next high:Bool)(hok:okF (E8 V C) next high p)(hsz:(gO p:Int)<=left)(hl1:left<=81920)(hht:(pY p:Int)+inside<=96)(hin:0<=inside)
 (ih0: ∀(y q':PR) (lf:Int) (n h:Bool),gO y<gO p->okF (E8 V C) n h y->(gO y:Int)<=lf->lf<=81920->(pY y:Int)+(inside+1)<=96->CU V C b q' y lf (inside+1) n h):CU V C b q p left inside next high:=by
 have hok0:=hok;rw [okF_eq] at hok;obtain ⟨⟨hi,h16,h11⟩,hokl,hoks⟩:=hok;have hpos:=qV p;have hhpos:=IU p;have hits:=ZQ V C b q p left hi.wait hi.gl hi.ll (fun g hg=>by obtain ⟨y,hy⟩:=hi.body g hg;rw [hy];show 1<=2048;omega) hi.wf hi.may;have hgl:=hi.gl;have hll:=hi.ll;have n1:((bC p.l).length:Int)=p.l.length:=by rw [aW]
 have n2:((eV p.gs).length:Int)=p.gs.length:=by rw [dD]
 unfold CU gM;refine lI.of (S:=tt) (fn:=f51) (n:=121) dN func51 T T T T fun w0 h0 F hgs=>?_;refine b_ fun b1=>?_;refine y_ ?_;refine F_ T (show (inside==96)=false by rw [beq_eq_false_iff_ne];omega) ?_;refine F_ T (show (left==0)=false by rw [beq_eq_false_iff_ne];omega) ?_;refine F_ T (show decide (2048<((bC p.l).length:Int))=false by rw [dF,n1];omega) ?_;refine A.ad 35 T (x':=AB false) (aA (by show decide (16<((eV p.gs).length:Int))=false;rw [dF,n2];omega)) ?_;refine g_ ?_;refine A.ad 51 T (x':=AB false) (aA (nowait h16 h11)) ?_;refine A.e T hits .refl (List.Perm.swap _ _ _) fun _ _=>?_;refine y_ ?_;refine A.au (Λ':=[.box b (FJ V C (nH p) (left-1)), .box b1 (aB p)]) (by rw [fZ _ (by omega)];rfl) ?_;refine A.ad 66 T (x':=AI (p.l.length:Nat)) (aM n1) ?_;refine A.ay [0,2,3,4,6,65,66,67] T ?_
 refine A.ar (ι:=Nat×PR) (fun s=>(⟨[(0,cT b),(2,AI inside),(3,AB next),(4,AB high),(6,cT b1),(65,iQ p.l),(66,AI (p.l.length:Nat)),(67,AI (s.1:Nat))],[]⟩,[.box b (FJ V C s.2 (left-1-(dB (p.l.take s.1):Nat))), .box b1 (aB p)]))
  (fun s=>s.1<=p.l.length) (fun s=>p.l.length-s.1) (0,nH p) (ac0 _) (by simp [dB]) fun s hs ih=>?_
 obtain ⟨i,q1⟩:=s;simp only at hs;refine y_ ?_;refine k_ (fun hc=>?_) fun hc=>?_
 ·have hci:i<p.l.length:=by simpa using hc
  clear hc;refine aX hci fun y hy=>?_;have hym:=aa2 hy;have hbr:=gR p;have htk:dB (p.l.take (i+1))=dB (p.l.take i)+gO y:=by rw [ac6,hy,nO];simp [dB]
  have hsy:dB (p.l.take (i+1))<=dB p.l:=by have:=nO (p.l.take (i+1)) (p.l.drop (i+1));rw [ae7] at this;omega
  have hse:=mI p;have hhe:=oT p;have hhy:=IQ hym;have hfl:=M5 hy hokl;have hnx:(if i=0 then (next&&(p.kind==9||p.kind==10||p.kind==11)) else (next&&(p.kind==10||p.kind==11)))=(next&&(cP p||(p.kind==9&&decide (i=0)))):=by
   unfold cP
   by_cases h0:i=0
   ·rw [iT h0,decide_eq_true h0];cases next<;>cases (p.kind==9)<;>cases (p.kind==10)<;>cases (p.kind==11)<;>rfl
   ·rw [iF h0,decide_eq_false h0];cases next<;>cases (p.kind==9)<;>cases (p.kind==10)<;>cases (p.kind==11)<;>rfl
  have hhx:(if i=0 then (high||p.kind==11) else high)=(high||(p.kind==11&&decide (i=0))):=by
   by_cases h0:i=0
   ·rw [iT h0,decide_eq_true h0];cases high<;>cases (p.kind==11)<;>rfl
   ·rw [iF h0,decide_eq_false h0];cases high<;>cases (p.kind==11)<;>rfl
  rw [hnx,hhx] at hfl;have ihy:=ih0 y q1 (left-1-(dB (p.l.take i):Nat)) _ _ (by omega) hfl (by omega) (by omega) (by omega);unfold CU at ihy;have e0:(((i:Nat):Int)==0)=decide (i=0):=by rw [Bool.eq_iff_iff];simp
  refine y_ ?_;refine j_ T (cF hy) (bP y) ?_
  (refine b_ fun bx=>?_;refine y_ ?_)
  cases next with
  |true=>
   refine d_ 28 [0,1,2,3,4,5,6,18,7,8,9,10,11,12,13,14,15,16,17,19,20,21,22,23,24,25,26,27] [(7,AB (cP p))] ?_;refine WA.c T T hbr (.sub .refl) ?_;refine v_ ?_;refine WA.ad 89 T (x':=AB (true&&(cP p||(p.kind==9&&decide (i=0))))) (aA (by show (bif true then bif cP p then true else bif p.kind==9 then (((i:Nat):Int)==0) else false else false)=_;rw [e0];cases cP p<;>cases (p.kind==9)<;>rfl)) ?_;refine WA.ad 99 T (x':=AB (high||(p.kind==11&&decide (i=0)))) (aA (by show (bif high then true else bif p.kind==11 then (((i:Nat):Int)==0) else false)=_;rw [e0];cases high<;>cases (p.kind==11)<;>rfl)) ?_;refine WA.ad 75 T (x':=AI (inside+1)) (aM (fZ _ (by omega))) ?_;refine WA.nil (l:=[]) T ?_;refine A.e T ihy .refl (List.Perm.swap _ _ _) fun q2 _=>?_;refine y_ ?_;refine vI 67 i ?_;refine A.less (Λ':=[.box b (FJ V C q2 (left-1-(dB (p.l.take (i+1)):Nat))), .box b1 (aB p)]) (by rw [show left-1-(dB (p.l.take (i+1)):Nat)=left-1-(dB (p.l.take i):Nat)-gO y by rw [htk];omega];exact kK) ?_;refine u_ (ih (i+1,q2) (by show i+1<=_;omega) (by show _-(i+1)<_-i;omega))
  |false=>
   refine A.draw 28 [0,1,2,3,4,5,6,18,7,8,9,10,11,12,13,14,15,16,17,19,20,21,22,23,24,25,26,27] DK [(7,AB (cP p))] (by kernel_rfl) (by kernel_rfl) ?_;refine v_ ?_;refine WA.ad 89 T (x':=AB (false&&(cP p||(p.kind==9&&decide (i=0))))) (aA T) ?_;refine WA.ad 99 T (x':=AB (high||(p.kind==11&&decide (i=0)))) (aA (by show (bif high then true else bif p.kind==11 then (((i:Nat):Int)==0) else false)=_;rw [e0];cases high<;>cases (p.kind==11)<;>rfl)) ?_;refine WA.ad 75 T (x':=AI (inside+1)) (aM (fZ _ (by omega))) ?_;refine WA.nil (l:=[]) T ?_;refine A.e T ihy .refl (List.Perm.swap _ _ _) fun q2 _=>?_;refine y_ ?_;refine vI 67 i ?_;refine A.less (Λ':=[.box b (FJ V C q2 (left-1-(dB (p.l.take (i+1)):Nat))), .box b1 (aB p)]) (by rw [show left-1-(dB (p.l.take (i+1)):Nat)=left-1-(dB (p.l.take i):Nat)-gO y by rw [htk];omega];exact kK) ?_;refine u_ (ih (i+1,q2) (by show i+1<=_;omega) (by show _-(i+1)<_-i;omega))
 have hci: ¬i<p.l.length:=by simpa using hc
 have hil:i=p.l.length:=by omega
 clear hc ih;subst hil;rw [ac4];refine y_ ?_;refine A.ad 105 T (x':=AI (p.gs.length:Nat)) (aM n2) ?_;refine A.ay [0,2,3,4,6,104,105,106] T ?_
 refine A.ar (ι:=Nat×PR) (fun s=>(⟨[(0,cT b),(2,AI inside),(3,AB next),(4,AB high),(6,cT b1),(104,rH p.gs),(105,AI (p.gs.length:Nat)),(106,AI (s.1:Nat))],[]⟩,[.box b (FJ V C s.2 (left-1-(dB p.l:Nat)-(bT (p.gs.take s.1):Nat))), .box b1 (aB p)]))
  (fun s=>s.1<=p.gs.length) (fun s=>p.gs.length-s.1) (0,q1) (ac0 _) (by simp [bT]) fun s hs ih=>?_
 obtain ⟨j,q2⟩:=s;simp only at hs;have hse:=mI p;have hhe:=oT p;refine y_ ?_;refine k_ (fun hc=>?_) fun hc=>?_
 ·have hcj:j<p.gs.length:=by simpa using hc
  clear hc;refine aX hcj fun g hg=>?_;have hgm:=aa2 hg;refine ac7 (hi.body g hgm) fun y hy=>?_;have hgs1:szG g=gO y:=by rw [lE,hy,dB,dB];omega
  have hgh1:htG g=pY y:=by rw [uV,hy,jF,jF];omega
  have htk:bT (p.gs.take (j+1))=bT (p.gs.take j)+gO y:=by rw [ac6,hg,l9];show _+bT [g]=_;rw [bT,bT,hgs1];omega
  have hsy:bT (p.gs.take (j+1))<=bT p.gs:=by have:=l9 (p.gs.take (j+1)) (p.gs.drop (j+1));rw [ae7] at this;omega
  have hhy:=SN hgm;have hok1:=nG hoks g hgm;rw [oC,hy,cO] at hok1;have ihy:=ih0 y q2 (left-1-(dB p.l:Nat)-(bT (p.gs.take j):Nat)) false high (by omega) hok1.1 (by omega) (by omega) (by omega);unfold CU at ihy;refine y_ ?_;refine j_ T (jY hg) (jX g) ?_
  (refine b_ fun bx=>?_;refine y_ ?_)
  refine i_ T (show (bC g.body)[(0:Int).toNat]? =some (yR y) from cF (by rw [hy];rfl)) (bP y) ?_;refine A.ad 116 T (x':=AI (inside+1)) (aM (fZ _ (by omega))) ?_;refine A.e T ihy .refl (List.Perm.swap _ _ _) fun q3 _=>?_;refine y_ ?_;refine vI 106 j ?_;refine A.less (Λ':=[.box b (FJ V C q3 (left-1-(dB p.l:Nat)-(bT (p.gs.take (j+1)):Nat))), .box b1 (aB p)]) (by rw [show left-1-(dB p.l:Nat)-(bT (p.gs.take (j+1)):Nat)=left-1-(dB p.l:Nat)-(bT (p.gs.take j):Nat)-gO y by rw [htk];omega];exact kK) ?_;refine u_ (ih (j+1,q3) (by show j+1<=_;omega) (by show _-(j+1)<_-j;omega))
 have hcj: ¬j<p.gs.length:=by simpa using hc
 have hjl:j=p.gs.length:=by omega
 clear hc ih;subst hjl;rw [ac4];refine y_ ?_;refine A.au (Λ':=[.box b (FJ V C q2 (left-gO p)), .box b1 (aB p)]) (by rw [show left-1-(dB p.l:Nat)-(bT p.gs:Nat)=left-gO p by omega]) ?_;refine A.az (Λ':=[.box b _]) T T T kK ⟨q2, .refl,rfl,trivial⟩
theorem Y6(V:List KV)(C:List Int)(b:Nat): ∀(N:Nat) (q p:PR) (left inside:Int) (next high:Bool),gO p<=N->okF (E8 V C) next high p->(gO p:Int)<=left->left<=81920->(pY p:Int)+inside<=96->0<=inside->CU V C b q p left inside next high
 |0,q,p,_,_,_,_,h,_,_,_,_,_=>by have:=qV p;omega |N+1,q,p,left,inside,next,high,h,hok,h1,h2,h3,h4=>fine_a V C b q p left inside next high hok h1 h2 h3 h4 fun y q' lf n hi hs hk a1 a2 a3=>Y6 V C b N q' y lf (inside+1) n hi (by omega) hk a1 a2 a3 (by omega)
theorem fine_p(V:List KV)(C:List Int)(b:Nat)(q p:PR)(left inside:Int)(next high:Bool)(hok:okF (E8 V C) next high p)(h1:(gO p:Int)<=left)(h2:left<=81920)(h3:(pY p:Int)+inside<=96)(h4:0<=inside):CU V C b q p left inside next high:=Y6 V C b _ q p left inside next high (aa6 _) hok h1 h2 h3 h4
end Go.Proofs.YtkbolbpojpmicaaGreatDoor
