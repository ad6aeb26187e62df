/-
  Texts P20d P21b P21c P19a P25a P25z P25y P26a P26b P26c P26f P26d P26e Q23a Q23b Q23c Q23d Q23e R23f Q23p Q23q Q23m. Conditions: as each theorem says.
-/
import Derived.Test.YtkbolbpojpmicaaGreatDoorWe4
import Derived.Test.YtkbolbpojpmicaaGreatDoorWe8
import Derived.Test.YtkbolbpojpmicaaGreatDoorWe5
import Derived.Test.YtkbolbpojpmicaaGreatDoorWe7
import Derived.Test.YtkbolbpojpmicaaGreatDoorWe3
import Derived.Test.YtkbolbpojpmicaaGreatDoorWe6
set_option linter.unusedVariables false
set_option linter.unusedSimpArgs false
set_option maxRecDepth 100000
set_option maxHeartbeats 4000000
open Go.Tp(T eX dT dF iF iT)
open Go.Proofs.Tryz
open List renaming length_map→aa0,mem_of_getElem?→aa2,mem_cons_self→aa4,mem_singleton→aa3,length_append→aa7,mem_cons_of_mem→aa8,mem_cons→ab0,length_cons→ab1,getElem?_eq_none→ab4,getElem?_eq_getElem→ab6,append_assoc→ab7,getElem?_map→ab9,mem_map→ac1,take_length→ac4,all_eq_true→ac5,take_add_one→ac6,map_cons→ac8,mem_append_left→ac9,getElem?_append_right→ad1,drop_length→ad2,getElem?_eq_some_iff→ad3,mem_flatMap→ad8,nil_sublist→ae1,map_append→ae2,mem_append_right→ae6,perm_middle→ae8,mem_range→ae9,ext_getElem?→af2,getElem?_set→ag3,map_congr_left→ag8,foldl_cons→ah1,length_set→ah7,length_range→ai6,replicate_succ→ai7,eq_nil_of_length_eq_zero→ai8,foldl_append→aj2,mem_flatten→aj5,flatten_cons→aj9,getElem?_of_mem→al4,foldlM_cons→al9,range_succ→am4,foldl_nil→an0,countP_cons→an4,map_set→ap0,count_cons_of_ne→aq0,count_cons_self→aq5,mem_of_mem_tail→aq7,set_comm→ar7,map_const'→as8,of_mem_zip→as9,any_cons→at8,set_set→au2
open Bool renaming and_eq_true→aa1,true_and→ab3,eq_iff_iff→ab8,not_eq_true'→ag1,or_eq_false_iff→aq3
open Nat renaming le_refl→aa6,sub_self→ah9,min_eq_left→ai3,succ_mul→aj3,le_of_lt→as5
open Exists renaming elim→ac7
open Int renaming toNat_natCast→ad9,le_refl→an9
open Option renaming map_some→ag0,bind→au4
namespace Go.Proofs.YtkbolbpojpmicaaGreatDoor
mutual
def iA:PR->Bool
 |⟨k,_,_,_,_,_,gs,l⟩=> !(k==7||k==8)&&(sS l&&xV gs)
def sS:List PR->Bool
 | []=>true |p::r=>iA p&&sS r
def WY:GD->Bool
 |⟨k,_,_,_,_,_,b⟩=> !(k==4)&&sS b
def xV:List GD->Bool
 | []=>true |g::r=>WY g&&xV r
end
theorem JZ(p:PR):iA p=(!(p.kind==7||p.kind==8)&&(sS p.l&&xV p.gs)):=by obtain ⟨k,c,v,i,to,e,gs,l⟩:=p;rw [iA]
theorem tO(g:GD):WY g=(!(g.kind==4)&&sS g.body):=by obtain ⟨k,e,c,i,to,t,b⟩:=g;rw [WY]
theorem mA: ∀{l:List PR},sS l=true↔ ∀x,x∈l->iA x=true
 | []=>by simp [sS] |p::r=>by rw [sS,aa1,mA];simp
theorem zR: ∀{l:List GD},xV l=true↔ ∀g,g∈l->WY g=true
 | []=>by simp [xV] |p::r=>by rw [xV,aa1,zR];simp
structure UT(p:PR):Prop where
 k7:p.kind≠7
 k8:p.kind≠8
 gs: ∀g,g∈p.gs->g.kind≠4
theorem xX{p:PR}:iA p=true↔UT p/\(∀x,x∈p.l->iA x=true)/\ ∀g,g∈p.gs->sS g.body=true:=by
 rw [JZ];simp only [aa1,ag1,aq3,beq_eq_false_iff_ne,mA,zR];constructor
 ·rintro ⟨⟨h1,h2⟩,h3,h4⟩;refine ⟨⟨h1,h2,fun g hg=>?_⟩,h3,fun g hg=>?_⟩
  ·have:=h4 g hg;rw [tO] at this;simp at this;exact this.1
  ·have:=h4 g hg;rw [tO] at this;simp at this;exact mA.1 this.2
 ·rintro ⟨⟨h1,h2,h3⟩,h4,h5⟩;refine ⟨⟨h1,h2⟩,h4,fun g hg=>?_⟩;rw [tO];have:=h5 g hg;simp [h3 g hg];exact mA.2 this
section
variable{V:List KV}{C:List Int}
def LU(V:List KV)(C:List Int)(p:PR):Prop:=Loc V C p/\UT p
theorem I8:Lax (LU V C) where
 skip:=⟨lN.skip,⟨by decide,by decide,fun g h=>by cases h⟩⟩
 stop:=⟨lN.stop,⟨by decide,by decide,fun g h=>by cases h⟩⟩
 seq p l' h1 h2 h:=⟨lN.seq p l' h1 h2 h.1,⟨h.2.k7,h.2.k8,h.2.gs⟩⟩
 par p l' h1 h:=⟨lN.par p l' h1 h.1,⟨h.2.k7,h.2.k8,h.2.gs⟩⟩
theorem lu_loc{p:PR}{n hi:Bool}(w:okF (LU V C) n hi p):okF (Loc V C) n hi p:=JH (fun _ h=>h.1) _ p n hi (aa6 _) w
theorem S6: ∀(m:Nat) (p:PR) (n hi:Bool),SizeOf.sizeOf p<=m->iA p=true->okF (Loc V C) n hi p->okF (LU V C) n hi p
 |0,p,_,_,h,_,_=>by obtain ⟨k,c,v,i,to,e,gs,l⟩:=p;simp only [PR.mk.sizeOf_spec] at h;omega
 |m+1,p,n,hi,hm,hu,w=>by
  obtain ⟨u1,u2,u3⟩:=xX.1 hu;rw [okF_eq] at w⊢;obtain ⟨⟨w1,w2,w3⟩,w4,w5⟩:=w;have hl: ∀(l:List PR),(∀x,x∈l->SizeOf.sizeOf x<=m/\iA x=true)-> ∀n0 n1 h0 h1,cO (Loc V C) n0 n1 h0 h1 l->cO (LU V C) n0 n1 h0 h1 l:=by
   intro l
   induction l with
   |nil=>intro _ n0 n1 h0 h1 _;exact mG |cons x r ih=>
    intro hx n0 n1 h0 h1 w;rw [cO] at w⊢;exact ⟨S6 m x n0 h0 (hx x (.head _)).1 (hx x (.head _)).2 w.1,ih (fun y hy=>hx y (.tail _ hy)) _ _ _ _ w.2⟩
  refine ⟨⟨⟨w1,u1⟩,w2,w3⟩,hl p.l (fun x hx=>⟨by have:=cK hx;omega,u2 x hx⟩) _ _ _ _ w4,BL fun g hg=>?_⟩;have:=nG w5 g hg;rw [oC] at this⊢;exact hl g.body (fun x hx=>⟨by have:=AE hg;have:=zX hx;omega,mA.1 (u3 g hg) x hx⟩) _ _ _ _ this
theorem S5{p:PR}{n hi:Bool}(hu:iA p=true)(w:okF (Loc V C) n hi p):okF (LU V C) n hi p:=S6 _ p n hi (aa6 _) hu w
theorem EP: ∀(m:Nat) (p:PR) (n hi:Bool),SizeOf.sizeOf p<=m->okF (LU V C) n hi p->iA p=true
 |0,p,_,_,h,_=>by obtain ⟨k,c,v,i,to,e,gs,l⟩:=p;simp only [PR.mk.sizeOf_spec] at h;omega
 |m+1,p,n,hi,hm,w=>by
  rw [okF_eq] at w;obtain ⟨⟨w1,w2,w3⟩,w4,w5⟩:=w;refine xX.2 ⟨w1.2,fun x hx=>?_,fun g hg=>mA.2 fun x hx=>?_⟩
  ·obtain ⟨n',h',hw⟩:=tI w4 hx;exact EP m x n' h' (by have:=cK hx;omega) hw
  ·have:=nG w5 g hg;rw [oC] at this;obtain ⟨n',h',hw⟩:=tI this hx;exact EP m x n' h' (by have:=AE hg;have:=zX hx;omega) hw
theorem J0{p:PR}{n hi:Bool}(w:okF (LU V C) n hi p):iA p=true:=EP _ p n hi (aa6 _) w
theorem pT:iA aK=true:=by decide
theorem nP:iA bL=true:=by decide
theorem xW{l:List PR}(h:sS l=true):iA (fE l)=true:=by
 cases l with
 |nil=>exact pT |cons x r=>exact mA.1 h x (.head _)
theorem gL{st:List (List Int)}{q:PR}(hq:iA q=true): ∀a,a∈fB st q->iA a.next=true:=fun a ha=>by rw [aa3.1 ha];exact hq
theorem HK{s:ST}{c it:Int}{to:PL}{q:PR}(hq:iA q=true): ∀a,a∈fF s c it to q->iA a.next=true:=fun a ha=>by
 unfold fF at ha;split at ha
 ·exact gL nP a ha
 ·rw [aa3.1 ha];exact hq
theorem WZ{st:List (List Int)}{g g':GD}(h:fQ st g=some g'):WY g'=WY g:=by
 have h1:=CO h;have h2:g'.kind=g.kind:=by
  unfold fQ at h;split at h
  ·cases h
  ·split at h
   ·split at h
    ·cases h
    ·injection h with h;rw [<-h]
   ·injection h with h;rw [<-h]
 rw [tO,tO,h1,h2]
theorem YG{s:ST}{c:PR}(hu:iA c=true): ∀a,a∈bA s c->iA a.next=true:=by
 obtain ⟨u1,u2,u3⟩:=xX.1 hu;have cho: ∀l:List GD,(∀g,g∈l->sS g.body=true)-> ∀a,a∈eL s l->iA a.next=true:=by
  intro l
  induction l with
  |nil=>intro _ a ha;exact gL nP a ha |cons g r ih=>
   intro hl a ha;rw [eL] at ha;split at ha
   ·exact gL nP a ha
   ·split at ha
    ·exact gL (xW (hl g (.head _))) a ha
    ·exact ih (fun g hg=>hl g (.tail _ hg)) a ha
 intro a ha;unfold bA at ha;split at ha
 ·exact gL pT a ha
 split at ha
 ·unfold iD at ha;split at ha
  ·exact gL nP a ha
  ·split at ha
   ·exact gL nP a ha
   ·exact gL pT a ha
 split at ha
 ·rename_i k7;exact absurd k7 u1.k7
 split at ha
 ·exact cho _ u3 a ha
 split at ha
 ·unfold eM at ha;split at ha
  ·exact gL nP a ha
  ·rename_i gs' he;refine gL ?_ a ha;rw [JZ];show (true&&(sS []&&xV gs'))=true;rw [sS,ab3,ab3,zR];intro g' hg';obtain ⟨g,hg,hge⟩:=(yS he).2 g' hg';rw [WZ hge,tO];simp only [aa1,ag1,beq_eq_false_iff_ne];exact ⟨u1.gs g hg,u3 g hg⟩
 split at ha
 ·rw [ad8] at ha;obtain ⟨g,hg,ha⟩:=ha;unfold cD at ha;split at ha
  ·cases ha
  ·split at ha
   ·exact HK (xW (u3 g hg)) a ha
   ·split at ha
    ·exact gL (xW (u3 g hg)) a ha
    ·cases ha
 split at ha
 ·unfold inM at ha;split at ha
  ·cases ha
  ·exact HK pT a ha
 split at ha
 ·unfold eR at ha;split at ha
  ·cases ha
  ·split at ha
   ·exact gL nP a ha
   ·split at ha
    ·rw [aa3.1 ha];exact pT
    ·split at ha
     ·refine gL ?_ a ha;rw [JZ];show (true&&(sS [fE c.l,c]&&xV []))=true;rw [xV,sS,sS,sS,hu,xW (mA.2 u2)];rfl
     ·split at ha
      ·exact gL pT a ha
      ·cases ha
 ·cases ha
end
theorem X6{k:KN}{s:ST}(hg:d6 k s)(hu:iA s.root=true){c:PR}{path:List Nat}(hc:(c,path)∈cX [] s.root):iA c=true:=by obtain ⟨h',w⟩:=at_ok (A9 hc) (S5 hu hg.root);exact J0 w
theorem wZ{k:KN}{s:ST}(hg:d6 k s){st:List (List Int)}{r:PR}(hr:okF (LU k.vars k.chans) true false r)(kind ec ev:Int)(inn:List Int):iA (eG s kind ec ev st r inn).next.root=true:=J0 (BH I8 hr)
theorem MX{k:KN}{s:ST}{x:lH×List Nat}{c:PR}(h:m8 k s x c)(hh:Bool)(w:okF (LU k.vars k.chans) true hh c):okF (LU k.vars k.chans) true hh x.1.next:=
 S5 (YG (J0 w) x.1 h.ac) (h.ok.ok hh (lu_loc w))
theorem step_unt{k:KN}{s:ST}(hg:d6 k s)(hu:iA s.root=true): ∀m,m∈hI s->iA m.next.root=true:=fun m hm=>by
 rw [ad8] at hm;obtain ⟨x,hx,hm⟩:=hm;obtain ⟨c,hc⟩:=mO hg hx;have h1:okF (LU k.vars k.chans) true false (bN x.1.next s.root x.2):=JR I8 (MX hc) hc.at' (S5 hu hg.root);unfold fK at hm;split at hm
 ·rw [aa3.1 hm];exact wZ hg h1 _ _ _ _
 ·split at hm
  ·rw [aa3.1 hm];exact wZ hg h1 _ _ _ _
  ·split at hm
   ·rw [aa3.1 hm];exact wZ hg h1 _ _ _ _
   ·split at hm
    ·rename_i ho;rw [ad8] at hm;obtain ⟨y,hy,hm⟩:=hm;obtain ⟨d,hd⟩:=mO hg hy;unfold iG at hm;split at hm
     ·rename_i hi;rw [aa3.1 hm];exact wZ hg (JR I8 (MX hd) (O1 hc hd (BQ hc hd ho hi.1)) h1) _ _ _ _
     ·cases hm
    ·cases hm
abbrev evM(m:MV):Option EL:=if m.kind=2 then some (m.ec,m.ev) else none
structure FB(k:KN)(s:ST):Prop where
 good:d6 k s
 unt:iA s.root=true
theorem FB.step{k:KN}{s:ST}(h:FB k s){m:MV}(hm:m∈hI s):FB k m.next:=
 ⟨(P6 h.good m (by rw [DG];exact ac9 _ hm)).1,step_unt h.good h.unt m hm⟩
section
variable{α:Type} [DecidableEq α]
end
end Go.Proofs.YtkbolbpojpmicaaGreatDoor
namespace Go.Proofs.YtkbolbpojpmicaaGreatDoor
open Go Go.Tp
abbrev pX:=List (List Int)
inductive LB where
 |tau
 |inp (c x:Int)
 |out (c x:Int)
 |com (c x:Int)
abbrev PX:=Int×Int×Int
def pp(st:pX)(d:List PX):pX:=d.foldl (fun st x=>fU st x.1 x.2.1 x.2.2) st
theorem eT(st:pX):pp st []=st:=rfl
abbrev iL(p:PR)(l:List PR):PR:=⟨p.kind,p.c,p.v,p.item,p.to,p.e,p.gs,l⟩
abbrev sO(p:PR):Prop:=p.kind=10\/p.kind=11
def DX(J9:pX):List PL->List Int->Option (List PX)
 | [],_=>some [] |to::r,xs=>match cZ J9 to.v to.ix with
  |none=>none |some q=>match xs with
   | []=>none |x::xr=>(DX J9 r xr).map ((q.1,q.2,x):: ·)
theorem BR(J9:pX): ∀(tos:List PL) (xs:List Int) (st:pX),nK J9 tos xs st=(DX J9 tos xs).map (pp st)
 | [],xs,st=>rfl |to::r,xs,st=>by
  rw [nK,DX];cases cZ J9 to.v to.ix with
  |none=>rfl |some q=>
   obtain ⟨v,j⟩:=q;cases xs with
   |nil=>rfl |cons x xr=>
    simp only;rw [BR J9 r xr];cases DX J9 r xr<;>rfl
def A8(st:pX):List GD->PR
 | []=>bL |g::r=>match bV st g.cond with
  |none=>bL |some x=>if x=1 then fE g.body else A8 st r
theorem uN(s:ST): ∀gs,eL s gs=fB s.store (A8 s.store gs)
 | []=>rfl |g::r=>by
  rw [eL,A8];cases bV s.store g.cond with
  |none=>rfl |some x=>
   simp only
   by_cases h:x=1
   ·rw [iT h,iT h]
   ·rw [iF h,iF h,uN s r]
abbrev clrD(st:pX)(v:Int):List PX:=(List.range (rowOf st v).length).map fun i=>(v,((i:Nat):Int),0)
theorem X2(st:pX)(v:Int)(n:Nat):mE st v n=pp st ((List.range n).map fun i=>(v,((i:Nat):Int),0)):=by unfold mE pp;rw [List.foldl_map]
inductive Lf(st:pX)(p:PR):LB->List PX->PR->Prop
 |clear:p.kind=3->Lf st p .tau (clrD st p.v) aK
 |asgN:p.kind=4->(kJ st p.e=none\/ ∃xs,kJ st p.e=some xs/\DX st p.to xs=none)->Lf st p .tau [] bL
 |asg {xs:List Int} {d:List PX}:p.kind=4->kJ st p.e=some xs->DX st p.to xs=some d->Lf st p .tau d aK
 |ifv:p.kind=12->Lf st p .tau [] (A8 st p.gs)
 |entN:p.kind=14\/p.kind=15->cY st p.gs=none->Lf st p .tau [] bL
 |ent {gs:List GD}:p.kind=14\/p.kind=15->cY st p.gs=some gs->Lf st p .tau [] ⟨16,0,0,0,[],[],gs,[]⟩
 |wSkip {g:GD}:p.kind=16->g∈p.gs->g.cond.n=1->g.kind=2->Lf st p .tau [] (fE g.body)
 |wStop {g:GD}:p.kind=16->g∈p.gs->g.cond.n=1->g.kind=3->cZ st g.to.v g.to.ix=none->Lf st p .tau [] bL
 |wIn {g:GD} {q:Int×Int} {x:Int}:p.kind=16->g∈p.gs->g.cond.n=1->g.kind=3->cZ st g.to.v g.to.ix=some q->cL g.item x=true->Lf st p (.inp g.c x) [(q.1,q.2,x)] (fE g.body)
 |inN {to:PL} {r:List PL}:p.kind=5->p.to=to::r->cZ st to.v to.ix=none->Lf st p .tau [] bL
 |inn {to:PL} {r:List PL} {q:Int×Int} {x:Int}:p.kind=5->p.to=to::r->cZ st to.v to.ix=some q->cL p.item x=true->Lf st p (.inp p.c x) [(q.1,q.2,x)] aK
 |valN {e:KE} {r:List KE}:p.kind=6\/p.kind=13->p.e=e::r->bV st e=none->Lf st p .tau [] bL
 |out {e:KE} {r:List KE} {x:Int}:p.kind=6->p.e=e::r->bV st e=some x->Lf st p (.out p.c x) [] aK
 |more {e:KE} {r:List KE}:p.kind=13->p.e=e::r->bV st e=some 1->Lf st p .tau [] ⟨9,0,0,0,[],[],[],[fE p.l,p]⟩
 |last {e:KE} {r:List KE} {x:Int}:p.kind=13->p.e=e::r->bV st e=some x->x≠1->Lf st p .tau [] aK
inductive LfA(st:pX)(p:PR)(a:lH):Prop
 |tau {d:List PX}:a.kind=116->a.store=pp st d->Lf st p .tau d a.next->LfA st p a
 |inp:a.kind=105->(∀x,cL a.item x=true->Lf st p (.inp a.c x) [(a.v,a.i,x)] a.next)->LfA st p a
 |out:a.kind=111->Lf st p (.out a.c a.value) [] a.next->LfA st p a
theorem lF{s:ST}{p q:PR}{st:pX}{d:List PX}(hs:st=pp s.store d)(h:Lf s.store p .tau d q): ∀a,a∈fB st q->LfA s.store p a:=fun a ha=>by rw [aa3.1 ha];exact .tau T hs h
theorem does_lf{s:ST}{p:PR}(ut:UT p)(hw:p.kind=16-> ∀g,g∈p.gs->g.kind=2\/g.kind=3): ∀a,a∈bA s p->LfA s.store p a:=by
 intro a ha;unfold bA at ha
 by_cases k3:p.kind=3
 ·rw [iT k3] at ha;exact lF (X2 ..) (.clear k3) a ha
 rw [iF k3] at ha
 by_cases k4:p.kind=4
 ·rw [iT k4] at ha;unfold iD at ha;cases hv:kJ s.store p.e with
  |none=>rw [hv] at ha;exact lF (eT _).symm (.asgN k4 (.inl hv)) a ha |some xs=>
   rw [hv] at ha;simp only at ha;rw [BR] at ha;cases hp:DX s.store p.to xs with
   |none=>rw [hp] at ha;exact lF (eT _).symm (.asgN k4 (.inr ⟨xs,hv,hp⟩)) a ha |some d=>rw [hp] at ha;exact lF T (.asg k4 hv hp) a ha
 rw [iF k4] at ha;rw [iF ut.k7] at ha
 by_cases k12:p.kind=12
 ·rw [iT k12,uN] at ha;exact lF (eT _).symm (.ifv k12) a ha
 rw [iF k12] at ha
 by_cases k14:p.kind=14\/p.kind=15
 ·rw [iT k14] at ha;unfold eM at ha;cases he:cY s.store p.gs with
  |none=>rw [he] at ha;exact lF (eT _).symm (.entN k14 he) a ha |some gs=>rw [he] at ha;exact lF (eT _).symm (.ent k14 he) a ha
 rw [iF k14] at ha
 by_cases k16:p.kind=16
 ·rw [iT k16,ad8] at ha;obtain ⟨g,hg,ha⟩:=ha;unfold cD at ha
  by_cases hn:g.cond.n=1
  case neg=>rw [iT hn] at ha;cases ha
  rw [iF (fun h=>h hn)] at ha
  by_cases h3:g.kind=3
  ·rw [iT h3] at ha;unfold fF at ha;cases hp:cZ s.store g.to.v g.to.ix with
   |none=>rw [hp] at ha;exact lF (eT _).symm (.wStop k16 hg hn h3 hp) a ha |some q=>
    obtain ⟨v,i⟩:=q;rw [hp] at ha;rw [aa3.1 ha];exact .inp T fun x hx=> .wIn k16 hg hn h3 hp hx
  ·rw [iF h3] at ha;split at ha
   ·rename_i h2;have h2':g.kind=2:=(hw k16 g hg).resolve_right h3;exact lF (eT _).symm (.wSkip k16 hg hn h2') a ha
   ·cases ha
 rw [iF k16] at ha
 by_cases k5:p.kind=5
 ·rw [iT k5] at ha;unfold inM at ha;cases ht:p.to with
  |nil=>rw [ht] at ha;cases ha |cons to r=>
   rw [ht] at ha;simp only at ha;unfold fF at ha;cases hp:cZ s.store to.v to.ix with
   |none=>rw [hp] at ha;exact lF (eT _).symm (.inN k5 ht hp) a ha |some q=>
    obtain ⟨v,i⟩:=q;rw [hp] at ha;rw [aa3.1 ha];exact .inp T fun x hx=> .inn k5 ht hp hx
 rw [iF k5] at ha
 by_cases k8:p.kind=8\/p.kind=13\/p.kind=6
 ·rw [iT k8] at ha;unfold eR at ha;cases he:p.e with
  |nil=>rw [he] at ha;cases ha |cons e r=>
   rw [he] at ha;simp only at ha;have k13:p.kind=6\/p.kind=13:=by have:=ut.k8;omega
   cases hv:bV s.store e with
   |none=>rw [hv] at ha;exact lF (eT _).symm (.valN k13 he hv) a ha |some x=>
    rw [hv] at ha;simp only at ha
    by_cases k6:p.kind=6
    ·rw [iT k6,aa3] at ha;rw [ha];exact .out T (.out k6 he hv)
    rw [iF k6] at ha;have k13:p.kind=13:=by omega
    by_cases hx:x=1
    ·rw [iT ⟨k13,hx⟩] at ha;exact lF (eT _).symm (.more k13 he (hx▸hv)) a ha
    ·rw [iF (fun h=>hx h.2),iT (.inl k13)] at ha;exact lF (eT _).symm (.last k13 he hv hx) a ha
 rw [iF k8] at ha;cases ha
inductive W7(s:ST)(p:PR):LB->List PX->PR->Prop
 |tau {a:lH} {d:List PX}:a∈bA s p->a.kind=116->a.store=pp s.store d->W7 s p .tau d a.next
 |inp {a:lH} {x:Int}:a∈bA s p->a.kind=105->cL a.item x=true->W7 s p (.inp a.c x) [(a.v,a.i,x)] a.next
 |out {a:lH}:a∈bA s p->a.kind=111->W7 s p (.out a.c a.value) [] a.next
theorem lJ{s:ST}{p q:PR}{st:pX}{d:List PX}(hs:st=pp s.store d)(h:bA s p=fB st q):W7 s p .tau d q:=
 W7.tau (a:=⟨116,st,0,0,0,0,0,q⟩) (by rw [h];exact .head _) T hs
theorem wU{s:ST}{p q:PR}{lab:LB}{d:List PX}(h:Lf s.store p lab d q):W7 s p lab d q:=by
 cases h with
 |clear k=>exact lJ (X2 ..) (by unfold bA;rw [iT k]) |asgN k h=>
  refine lJ (eT _).symm ?_;unfold bA;rw [iF (by omega),iT k];unfold iD;rcases h with h|⟨xs,h1,h2⟩
  ·rw [h]
  ·rw [h1];simp only;rw [BR,h2];rfl
 |asg k h1 h2=>
  refine lJ T ?_;unfold bA;rw [iF (by omega),iT k];unfold iD;rw [h1];simp only;rw [BR,h2];rfl
 |ifv k=>
  refine lJ (eT _).symm ?_;unfold bA;rw [iF (by omega),iF (by omega),iF (by omega),iT k,uN]
 |entN k h=>
  refine lJ (eT _).symm ?_;unfold bA;rw [iF (by omega),iF (by omega),iF (by omega),iF (by omega),iT k];unfold eM;rw [h]
 |ent k h=>
  refine lJ (eT _).symm ?_;unfold bA;rw [iF (by omega),iF (by omega),iF (by omega),iF (by omega),iT k];unfold eM;rw [h]
 |wSkip k hg hn hk=>
  rename_i g;have hd:bA s p=p.gs.flatMap (cD s):=by unfold bA;rw [iF (by omega),iF (by omega),iF (by omega),iF (by omega),iF (by omega),iT k]
  refine W7.tau (a:=⟨116,s.store,0,0,0,0,0,fE g.body⟩) ?_ T (eT _).symm;rw [hd,ad8];refine ⟨g,hg,?_⟩;unfold cD;rw [iF (fun h=>h hn),iF (by omega),iT (.inl hk)];exact .head _
 |wStop k hg hn hk hp=>
  rename_i g;have hd:bA s p=p.gs.flatMap (cD s):=by unfold bA;rw [iF (by omega),iF (by omega),iF (by omega),iF (by omega),iF (by omega),iT k]
  refine W7.tau (a:=⟨116,s.store,0,0,0,0,0,bL⟩) ?_ T (eT _).symm;rw [hd,ad8];refine ⟨g,hg,?_⟩;unfold cD fF;rw [iF (fun h=>h hn),iT hk,hp];exact .head _
 |wIn k hg hn hk hp hx=>
  rename_i g q x;have hd:bA s p=p.gs.flatMap (cD s):=by unfold bA;rw [iF (by omega),iF (by omega),iF (by omega),iF (by omega),iF (by omega),iT k]
  refine W7.inp (a:=⟨105,[],g.c,q.1,q.2,g.item,0,fE g.body⟩) ?_ T hx;rw [hd,ad8];refine ⟨g,hg,?_⟩;unfold cD fF;rw [iF (fun h=>h hn),iT hk,hp];exact .head _
 |inN k ht hp=>
  refine lJ (eT _).symm ?_;unfold bA;rw [iF (by omega),iF (by omega),iF (by omega),iF (by omega),iF (by omega),iF (by omega),iT k];unfold inM fF;rw [ht];simp only;rw [hp]
 |inn k ht hp hx=>
  rename_i to r q x;refine W7.inp (a:=⟨105,[],p.c,q.1,q.2,p.item,0,aK⟩) ?_ T hx;unfold bA;rw [iF (by omega),iF (by omega),iF (by omega),iF (by omega),iF (by omega),iF (by omega),iT k];unfold inM fF;rw [ht];simp only;rw [hp];exact .head _
 |valN k he hv=>
  refine lJ (eT _).symm ?_;unfold bA;rw [iF (by omega),iF (by omega),iF (by omega),iF (by omega),iF (by omega),iF (by omega),iF (by omega),iT (by omega)];unfold eR;rw [he];simp only;rw [hv]
 |out k he hv=>
  rename_i e r x;refine W7.out (a:=⟨111,[],p.c,0,0,0,x,aK⟩) ?_ T;unfold bA;rw [iF (by omega),iF (by omega),iF (by omega),iF (by omega),iF (by omega),iF (by omega),iF (by omega),iT (by omega)];unfold eR;rw [he];simp only;rw [hv];simp only;rw [iT k];exact .head _
 |more k he hv=>
  refine lJ (eT _).symm ?_;unfold bA;rw [iF (by omega),iF (by omega),iF (by omega),iF (by omega),iF (by omega),iF (by omega),iF (by omega),iT (by omega)];unfold eR;rw [he];simp only;rw [hv];simp only;rw [iF (by omega),iT (by simp [k])]
 |last k he hv hx=>
  refine lJ (eT _).symm ?_;unfold bA;rw [iF (by omega),iF (by omega),iF (by omega),iF (by omega),iF (by omega),iF (by omega),iF (by omega),iT (by omega)];unfold eR;rw [he];simp only;rw [hv];simp only;rw [iF (by omega),iF (fun h=>hx h.2),iT (.inl k)]
inductive LS(st:pX):PR->LB->List PX->PR->Prop
 |leaf {p q:PR} {lab:LB} {d:List PX}:p.kind≠9-> ¬sO p->Lf st p lab d q->LS st p lab d (aD q)
 |seq {p x y:PR} {r:List PR} {lab:LB} {d:List PX}:p.kind=9->p.l=x::r->LS st x lab d y->LS st p lab d (aD (iL p (y::r)))
 |par {p x y:PR} {i:Nat} {lab:LB} {d:List PX}:sO p->p.l[i]? =some x->LS st x lab d y->LS st p lab d (aD (iL p (p.l.set i y)))
 |com {p x y x' y':PR} {i j:Nat} {c v:Int} {d1 d2:List PX}:sO p->p.l[i]? =some x->p.l[j]? =some y->i≠j->LS st x (.out c v) d1 x'->LS st y (.inp c v) d2 y'->LS st p (.com c v) (d1++d2) (aD (iL p ((p.l.set i x').set j y')))
theorem vZ{p:PR}(h:sO p):cP p=true:=by unfold cP;rcases h with h|h<;>rw [h]<;>rfl
theorem w9{p:PR}(h:sO p){l m:List PR}(e:l.map aD=m.map aD):aD (iL p l)=aD (iL p m):=by rw [f7 (p:=iL p l) (vZ h),f7 (p:=iL p m) (vZ h)];show (if (l.map aD).all bI=true then _ else (⟨_,_,_,_,_,_,_,l.map aD⟩:PR))=if (m.map aD).all bI=true then _ else ⟨_,_,_,_,_,_,_,m.map aD⟩;rw [e]
theorem eO{p:PR}(h:sO p)(l:List PR)(i:Nat)(y:PR):aD (iL p (l.set i (aD y)))=aD (iL p (l.set i y)):=
 w9 h (by rw [ap0,ap0,kA])
theorem lO{p:PR}(h:p.kind=9){x y:PR}(e:aD x=aD y)(r:List PR):aD (iL p (x::r))=aD (iL p (y::r)):=by obtain ⟨k,c,v,i,to,ee,gs,l⟩:=p;have h:k=9:=h;subst h;exact QB ⟨c,v,i,to,ee,gs,r⟩ e
theorem I7{st:pX}{c q:PR}{lab:LB}{d:List PX}(hf:Lf st c lab d q): ∀(m:Nat) (p:PR) (path:List Nat),SizeOf.sizeOf p<=m->atR p path=some c->LS st p lab d (aD (bN q p path))
 |0,p,path,h,_=>by obtain ⟨k,c,v,i,to,e,gs,l⟩:=p;simp only [PR.mk.sizeOf_spec] at h;omega
 |m+1,p,path,hm,ha=>by
  rw [gP] at ha;rw [jA]
  by_cases h9:p.kind=9
  ·rw [iT h9] at ha⊢;cases hl:p.l with
   |nil=>rw [hl,HV] at ha;cases ha |cons x r=>
    rw [hl,HV] at ha;rw [A1];have hx:SizeOf.sizeOf x<=m:=by have:=cK (p:=p) (x:=x) (by rw [hl];exact .head _);omega
    have:=LS.seq h9 hl (I7 hf m x path hx ha);rw [lO h9 (kA _) r] at this;exact this
  rw [iF h9] at ha⊢
  by_cases hb:sO p
  ·rw [iT hb] at ha⊢;cases path with
   |nil=>cases ha |cons j rest=>
    simp only at ha;obtain ⟨x,h1,h2⟩:=i7 ha;have hx:SizeOf.sizeOf x<=m:=by have:=cK (p:=p) (x:=x) (aa2 h1);omega
    have:=LS.par hb h1 (I7 hf m x rest hx h2);rw [eO hb] at this;simp only;rw [kE q h1];exact this
  ·rw [iF hb] at ha⊢;cases path with
   |nil=>
    injection ha with ha;subst ha;exact .leaf h9 hb hf
   |cons j rest=>cases ha
theorem MQ{st:pX}{p c q:PR}{lab:LB}{d:List PX}{path:List Nat}(hf:Lf st c lab d q)(ha:atR p path=some c):LS st p lab d (aD (bN q p path)):=I7 hf _ p path (aa6 _) ha
theorem DA{st:pX}{c1 c2 q1 q2:PR}{c v:Int}{d1 d2:List PX}(h1:Lf st c1 (.out c v) d1 q1)(h2:Lf st c2 (.inp c v) d2 q2): ∀(m:Nat) (p:PR) (p1 p2:List Nat),SizeOf.sizeOf p<=m->atR p p1=some c1->atR p p2=some c2->p1≠p2->LS st p (.com c v) (d1++d2) (aD (bN q2 (bN q1 p p1) p2))
 |0,p,_,_,h,_,_,_=>by obtain ⟨k,c,v,i,to,e,gs,l⟩:=p;simp only [PR.mk.sizeOf_spec] at h;omega
 |m+1,p,p1,p2,hm,a1,a2,hne=>by
  have a1':=a1;have a2':=a2;rw [gP] at a1 a2
  by_cases h9:p.kind=9
  ·rw [iT h9] at a1 a2;cases hl:p.l with
   |nil=>rw [hl,HV] at a1;cases a1 |cons x r=>
    rw [hl,HV] at a1 a2;have e1:bN q1 p p1=iL p (bN q1 x p1::r):=by rw [jA,iT h9,hl,A1]
    have e2:bN q2 (iL p (bN q1 x p1::r)) p2=iL p (bN q2 (bN q1 x p1) p2::r):=by rw [jA];show (if p.kind=9 then _ else _)=_;rw [iT h9];show (⟨_,_,_,_,_,_,_,A1 q2 (bN q1 x p1::r) p2⟩:PR)=_;rw [A1]
    rw [e1,e2];have hx:SizeOf.sizeOf x<=m:=by have:=cK (p:=p) (x:=x) (by rw [hl];exact .head _);omega
    have:=LS.seq h9 hl (DA h1 h2 m x p1 p2 hx a1 a2 hne);rw [lO h9 (kA _) r] at this;exact this
  rw [iF h9] at a1 a2
  by_cases hb:sO p
  ·rw [iT hb] at a1 a2;cases p1 with
   |nil=>cases a1 |cons i r1=>
    cases p2 with
    |nil=>cases a2 |cons j r2=>
     simp only at a1 a2;obtain ⟨x,x1,x2⟩:=i7 a1;obtain ⟨y,y1,y2⟩:=i7 a2;have hx:SizeOf.sizeOf x<=m:=by have:=cK (p:=p) (x:=x) (aa2 x1);omega
     have e1:bN q1 p (i::r1)=iL p (p.l.set i (bN q1 x r1)):=by rw [jA,iF h9,iT hb];simp only;rw [kE q1 x1]
     have e2: ∀(l:List PR) z,l[j]? =some z->bN q2 (iL p l) (j::r2)=iL p (l.set j (bN q2 z r2)):=fun l z hz=>by rw [jA];show (if p.kind=9 then _ else if p.kind=10\/p.kind=11 then (⟨_,_,_,_,_,_,_,sP q2 l j r2⟩:PR) else _)=_;rw [iF h9,iT hb,kE q2 hz]
     by_cases hij:i=j
     ·subst hij;rw [x1] at y1;injection y1 with y1;subst y1;have hi:i<p.l.length:=(ad3.1 x1).1;rw [e1,e2 _ (bN q1 x r1) (by rw [ag3,iT T,iT hi]),au2];have:=LS.par hb x1 (DA h1 h2 m x r1 r2 hx x2 y2 (fun h=>hne (by rw [h])));rw [eO hb] at this;exact this
     ·rw [e1,e2 _ y (by rw [ag3,iF hij];exact y1)];have:=LS.com hb x1 y1 hij (MQ h1 x2) (MQ h2 y2);rw [eO hb,ar7 _ _ hij,eO hb,ar7 _ _ (Ne.symm hij)] at this;exact this
  ·rw [iF hb] at a1 a2;cases p1 with
   |nil=>
    cases p2 with
    |nil=>exact absurd T hne |cons j r=>cases a2
   |cons i r=>cases a1
theorem ls_at2{st:pX}{p c1 c2 q1 q2:PR}{c v:Int}{d1 d2:List PX}{p1 p2:List Nat}(h1:Lf st c1 (.out c v) d1 q1)(h2:Lf st c2 (.inp c v) d2 q2)(a1:atR p p1=some c1)(a2:atR p p2=some c2)(hne:p1≠p2):LS st p (.com c v) (d1++d2) (aD (bN q2 (bN q1 p p1) p2)):=DA h1 h2 _ p p1 p2 (aa6 _) a1 a2 hne
inductive AtS(st:pX)(p:PR):LB->List PX->PR->Prop
 |one {c q:PR} {lab:LB} {d:List PX} {path:List Nat}:mN c->atR p path=some c->Lf st c lab d q->AtS st p lab d (aD (bN q p path))
 |two {c1 c2 q1 q2:PR} {c v:Int} {d1 d2:List PX} {p1 p2:List Nat}:mN c1->mN c2->atR p p1=some c1->atR p p2=some c2->p1≠p2->Lf st c1 (.out c v) d1 q1->Lf st c2 (.inp c v) d2 q2->AtS st p (.com c v) (d1++d2) (aD (bN q2 (bN q1 p p1) p2))
theorem JS{p x:PR}{r:List PR}(h9:p.kind=9)(q:PR)(path:List Nat):bN q (iL p (x::r)) path=iL p (bN q x path::r):=by rw [jA];show (if p.kind=9 then (⟨_,_,_,_,_,_,_,A1 q (x::r) path⟩:PR) else _)=_;rw [iT h9,A1]
theorem xG{p z:PR}{l:List PR}{j:Nat}(hb:sO p)(hz:l[j]? =some z)(q:PR)(path:List Nat):bN q (iL p l) (j::path)=iL p (l.set j (bN q z path)):=by
 have h9:p.kind≠9:=by rcases hb with h|h<;>omega
 rw [jA];show (if p.kind=9 then _ else if p.kind=10\/p.kind=11 then (⟨_,_,_,_,_,_,_,sP q l j path⟩:PR) else _)=_;rw [iF h9,iT hb,kE q hz]
theorem O0{p x:PR}{r:List PR}(h9:p.kind=9)(hl:p.l=x::r)(path:List Nat):atR p path=atR x path:=by rw [gP,iT h9,hl,HV]
theorem CA{p x:PR}{i:Nat}(hb:sO p)(hx:p.l[i]? =some x)(path:List Nat):atR p (i::path)=atR x path:=by
 have h9:p.kind≠9:=by rcases hb with h|h<;>omega
 rw [gP,iF h9,iT hb];exact HU hx
theorem l5(p:PR):iL p p.l=p:=by obtain ⟨k,c,v,i,to,e,gs,l⟩:=p;rfl
theorem BG{st:pX}{p q:PR}{lab:LB}{d:List PX}(h:LS st p lab d q):AtS st p lab d q:=by
 induction h with
 |leaf h9 hb hf=>
  rename_i p q lab d;have:=AtS.one (st:=st) (p:=p) (path:=[]) ⟨h9,hb⟩ (by rw [gP,iF h9,iF hb]) hf;rw [jA,iF h9,iF hb] at this;exact this
 |seq h9 hl hs ih=>
  rename_i p x y r lab d;have hp:iL p (x::r)=p:=by rw [<-hl];exact l5 p
  cases ih with
  |one hc ha hf=>
   rename_i c q path;have:=AtS.one (st:=st) (p:=p) hc ((O0 h9 hl _).trans ha) hf;rw [<-hp,JS h9,hp] at this;rw [lO h9 (kA _) r];exact this
  |two hc1 hc2 a1 a2 hne h1 h2=>
   rename_i c1 c2 q1 q2 c v d1 d2 p1 p2;have:=AtS.two (st:=st) (p:=p) hc1 hc2 ((O0 h9 hl _).trans a1) ((O0 h9 hl _).trans a2) hne h1 h2;rw [<-hp,JS h9,JS h9,hp] at this;rw [lO h9 (kA _) r];exact this
 |par hb hx hs ih=>
  rename_i p x y i lab d;have hp:iL p p.l=p:=l5 p;have hi:i<p.l.length:=(ad3.1 hx).1;cases ih with
  |one hc ha hf=>
   rename_i c q path;have:=AtS.one (st:=st) (p:=p) (path:=i::path) hc ((CA hb hx _).trans ha) hf;rw [<-hp,xG hb (by show p.l[i]? =_;exact hx),hp] at this;rw [eO hb];exact this
  |two hc1 hc2 a1 a2 hne h1 h2=>
   rename_i c1 c2 q1 q2 c v d1 d2 p1 p2;have:=AtS.two (st:=st) (p:=p) (p1:=i::p1) (p2:=i::p2) hc1 hc2 ((CA hb hx _).trans a1) ((CA hb hx _).trans a2) (fun h=>hne (by injection h)) h1 h2;rw [<-hp,xG hb (by show p.l[i]? =_;exact hx),xG hb (z:=bN q1 x p1) (by rw [ag3,iT T,iT hi]),au2,hp] at this;rw [eO hb];exact this
 |com hb hx hy hij hs1 hs2 ih1 ih2=>
  rename_i p x y x' y' i j c v d1 d2;have hp:iL p p.l=p:=l5 p;cases ih1 with
  |one hc1 a1 h1=>
   rename_i c1 q1 p1;cases ih2 with
   |one hc2 a2 h2=>
    rename_i c2 q2 p2;have:=AtS.two (st:=st) (p:=p) (p1:=i::p1) (p2:=j::p2) hc1 hc2 ((CA hb hx _).trans a1) ((CA hb hy _).trans a2) (fun h=>hij (by injection h)) h1 h2;rw [<-hp,xG hb (by show p.l[i]? =_;exact hx),xG hb (z:=y) (by show (p.l.set i _)[j]? =_;rw [ag3,iF hij];exact hy),hp] at this;rw [eO hb,ar7 _ _ hij,eO hb,ar7 _ _ (Ne.symm hij)];exact this
theorem S4{st:pX}{p q:PR}{lab:LB}{d:List PX}(h:LS st p lab d q):aD q=q:=by cases h<;>exact kA _
theorem lf_no{st:pX}{q:PR}{lab:LB}{d:List PX}(h:Lf st aK lab d q):False:=by
 cases h with
 |clear k=>exact absurd k (by decide) |asgN k=>exact absurd k (by decide)
 |asg k=>exact absurd k (by decide) |ifv k=>exact absurd k (by decide)
 |entN k=>exact absurd k (by decide) |ent k=>exact absurd k (by decide)
 |wSkip k=>exact absurd k (by decide) |wStop k=>exact absurd k (by decide)
 |wIn k=>exact absurd k (by decide) |inN k=>exact absurd k (by decide)
 |inn k=>exact absurd k (by decide) |valN k=>exact absurd k (by decide)
 |out k=>exact absurd k (by decide) |more k=>exact absurd k (by decide)
 |last k=>exact absurd k (by decide)
theorem mY:bI aK=true:=(wF _).2 T
theorem tH{p:PR}(h9:p.kind≠9)(hb: ¬sO p):aD p=p:=gX (by unfold cP;cases h:(p.kind==10||p.kind==11) with
 |false=>rfl |true=>
  exfalso;apply hb;rw [Bool.or_eq_true,beq_iff_eq,beq_iff_eq] at h;exact h) h9
theorem ls_live{st:pX}{p q:PR}{lab:LB}{d:List PX}(h:LS st p lab d q):bI p=false:=by
 cases hd:bI p with
 |false=>rfl |true=>
  rw [wF] at hd;subst hd;cases h with
  |leaf _ _ hf=>exact (lf_no hf).elim |seq h9=>cases h9
  |par hb=>rcases hb with h|h<;>cases h
  |com hb=>rcases hb with h|h<;>cases h
theorem DR{p:PR}(hb:sO p){l:List PR}(hn: ∀z,z∈l->aD z=z){x:PR}(hx:x∈l)(hl:bI x=false):aD (iL p l)=iL p l:=by
 rw [f7 (p:=iL p l) (vZ hb)];have e:l.map aD=l:=by
  conv=>rhs;rw [<-List.map_id l]
  exact ag8 hn
 show (if (l.map aD).all bI=true then aK else (⟨_,_,_,_,_,_,_,l.map aD⟩:PR))=_;rw [e,iF];intro h;rw [ac5] at h;rw [h x hx] at hl;cases hl
abbrev lA(p:PR)(l:List PR):PR:=bY (fun l'=>iL p l') l
theorem tM{p:PR}(h9:p.kind=9)(l:List PR):aD (iL p l)=lA p l:=fH (p:=iL p l) h9
theorem nF{p:PR}(h:p.kind≠1):bI p=false:=by
 cases hd:bI p with
 |false=>rfl |true=>rw [wF] at hd;rw [hd] at h;exact absurd T h
theorem iE:aD aK=aK:=tH (by decide) (by intro h;rcases h with h|h<;>cases h)
theorem skip_no{st:pX}{lab:LB}{d:List PX}{q:PR}: ¬LS st aK lab d q:=fun h=>by have:=ls_live h;rw [mY] at this;cases this
inductive GS(s:ST):TR->ST->Prop
 |tau {d:List PX} {q:PR}:LS s.store s.root .tau d q->GS s [] ⟨pp s.store d,q,s.inn,s.time⟩
 |com {c v:Int} {d:List PX} {q:PR}:LS s.store s.root (.com c v) d q->GS s [(c,v)] ⟨pp s.store d,q,s.inn,s.time⟩
 |inp {x:Int} {r:List Int} {d:List PX} {q:PR}:s.inn=x::r->LS s.store s.root (.inp 0 x) d q->GS s [(0,x)] ⟨pp s.store d,q,r,s.time⟩
 |out {x:Int} {d:List PX} {q:PR}:LS s.store s.root (.out 1 x) d q->GS s [(1,x)] ⟨pp s.store d,q,s.inn,s.time⟩
def Y0(m:MV):TR:=match evM m with
 |none=>[] |some e=>[e]
theorem g23{V:List KV}{n:Nat}{g:GD}(h:cH V n g false=true)(h4:g.kind≠4):g.kind=2\/g.kind=3:=by
 unfold cH at h;simp only [aa1] at h;obtain ⟨⟨⟨_,_⟩,h1⟩,h2⟩:=h
 by_cases h3:g.kind=3
 ·exact .inr h3
 by_cases h5:g.kind=1\/g.kind=2
 ·rcases h5 with h5|h5
  ·rw [h5] at h1;simp at h1
  ·exact .inl h5
 ·rw [iF h5,iF h3,iF h4] at h2;cases h2
theorem in_lf{k:KN}{s:ST}(h:FB k s){x:lH×List Nat}{c:PR}(hc:m8 k s x c):LfA s.store c x.1:=by have hu:=X6 h.good h.unt hc.cm;have ut:=(xX.1 hu).1;exact does_lf ut (fun k16 g hg=>g23 (hc.loc.guards (.inr (.inr k16)) g hg) (ut.gs g hg)) x.1 hc.ac
theorem fitsOne(x:Int):cL 1 x=true:=by unfold cL;rw [iF (by decide),iF (by decide)];rfl
theorem real_gs{k:KN}{s:ST}(h:FB k s): ∀m,m∈hI s->GS s (Y0 m) m.next:=by
 intro m hm;rw [ad8] at hm;obtain ⟨x,hx,hm⟩:=hm;obtain ⟨c,hc⟩:=mO h.good hx;unfold fK at hm;cases in_lf h hc with
 |tau hk hs hf=>
  rw [iT hk,aa3] at hm;rw [hm];have:=GS.tau (MQ hf hc.at');rw [<-hs] at this;exact this
 |inp hk hf=>
  rw [iF (by omega)] at hm
  by_cases h0:x.1.kind=105/\x.1.c=0/\0<s.inn.length
  ·rw [iT h0,aa3] at hm;rw [hm];cases hi:s.inn with
   |nil=>rw [hi] at h0;simp at h0 |cons y r=>
    have h1:=hf y (by rw [(hc.ok.inp hk).2.2 h0.2.1];exact fitsOne y);rw [h0.2.1] at h1;have:=GS.inp hi (MQ h1 hc.at');show GS s [(0,(y::r).headD 0)] ⟨fU s.store x.1.v x.1.i ((y::r).headD 0),aD (bN x.1.next s.root x.2),(y::r).tail,s.time⟩;exact this
  ·rw [iF h0,iF (by omega),iF (by omega)] at hm;cases hm
 |out hk hf=>
  rw [iF (by omega),iF (by omega)] at hm
  by_cases h1:x.1.kind=111/\x.1.c=1
  ·rw [iT h1,aa3] at hm;rw [hm];rw [h1.2] at hf;exact GS.out (MQ hf hc.at')
  ·rw [iF h1,iT hk,ad8] at hm;obtain ⟨y,hy,hm⟩:=hm;obtain ⟨d,hd⟩:=mO h.good hy;unfold iG at hm;split at hm
   ·rename_i hi;rw [aa3] at hm;rw [hm];have hne:=BQ hc hd hk hi.1;cases in_lf h hd with
    |inp hk2 hf2=>
     have h2:=hf2 x.1.value hi.2.2;rw [hi.2.1] at h2;exact GS.com (ls_at2 hf h2 hc.at' hd.at' hne)
    |tau hk2=>omega |out hk2=>omega
   ·cases hm
theorem K4{c:PR}{u:List Nat}{x:PR}(hx: ∀pre,(c,pre++u)∈cX pre x): ∀{l:List PR} {i:Nat} (j:Nat) (pre:List Nat),l[i]? =some x->(c,pre++(j+i)::u)∈cW pre j l
 | [],_,_,_,h=>by cases h |y::r,0,j,pre,h=>by injection h with h;subst h;rw [cW];have:=hx (pre++[j]);rw [ab7] at this;exact ac9 _ this
 |y::r,i+1,j,pre,h=>by rw [cW];have:=K4 hx (l:=r) (i:=i) (j+1) pre (by simpa using h);rw [show j+1+i=j+(i+1) by omega] at this;exact ae6 _ this
theorem yQ{c:PR}: ∀(m:Nat) (p:PR) (path:List Nat),SizeOf.sizeOf p<=m->atR p path=some c-> ∀pre,(c,pre++path)∈cX pre p
 |0,p,_,h,_=>by obtain ⟨k,c,v,i,to,e,gs,l⟩:=p;simp only [PR.mk.sizeOf_spec] at h;omega
 |m+1,p,path,hm,ha=>by
  intro pre;rw [pA];rw [gP] at ha
  by_cases h9:p.kind=9
  ·rw [iT h9] at ha⊢;cases hl:p.l with
   |nil=>rw [hl,HV] at ha;cases ha |cons x r=>
    rw [hl,HV] at ha;rw [wC];exact yQ m x path (by have:=cK (p:=p) (x:=x) (by rw [hl];exact .head _);omega) ha pre
  rw [iF h9] at ha⊢
  by_cases hb:p.kind=10\/p.kind=11
  ·rw [iT hb] at ha⊢;cases path with
   |nil=>cases ha |cons j rest=>
    simp only at ha;obtain ⟨x,h1,h2⟩:=i7 ha;have:=K4 (yQ m x rest (by have:=cK (p:=p) (x:=x) (aa2 h1);omega) h2) 0 pre h1;rw [Nat.zero_add] at this;exact this
  ·rw [iF hb] at ha⊢;cases path with
   |nil=>injection ha with ha;rw [ha,List.append_nil];exact .head _ |cons j rest=>cases ha
theorem comp_of{p c:PR}{path:List Nat}(h:atR p path=some c):(c,path)∈cX [] p:=yQ _ p path (aa6 _) h []
theorem B5{s:ST}{c:PR}{path:List Nat}{a:lH}(h:atR s.root path=some c)(ha:a∈bA s c):(a,path)∈bR s:=
 ad8.2 ⟨(c,path),comp_of h,ac1.2 ⟨a,ha,rfl⟩⟩
theorem ZE{s:ST}(hH: ∀c v d q,LS s.store s.root (.com c v) d q->c≠1){t:TR}{s':ST}(hs:GS s t s'): ∃m,m∈hI s/\Y0 m=t/\m.next=s':=by
 cases hs with
 |tau hl=>
  cases BG hl with
  |one hc ha hf=>
   rename_i c q0 path;generalize hlab:LB.tau=lab at hf;cases wU hf with
   |tau h1 h2 h3=>
    rename_i a;refine ⟨eG s 1 0 0 a.store (bN a.next s.root path) s.inn,ad8.2 ⟨(a,path),B5 ha h1,?_⟩,rfl,?_⟩
    ·unfold fK;rw [iT h2];exact .head _
    ·unfold eG;rw [h3]
   |inp=>cases hlab |out=>cases hlab
 |com hl=>
  cases BG hl with
  |one hc ha hf=>cases hf |two hc1 hc2 a1 a2 hne h1 h2=>
   rename_i c v c1 c2 q1 q2 d1 d2 p1 p2;have hc1':=hH c v _ _ hl;generalize hlab:LB.out c v=lab at h1;generalize hlab2:LB.inp c v=lab2 at h2;cases wU h1 with
   |tau=>cases hlab |inp=>cases hlab
   |out b1 b2=>
    rename_i a;injection hlab with e1 e2;cases wU h2 with
    |tau=>cases hlab2 |out=>cases hlab2
    |inp b3 b4 b5=>
     rename_i b x;injection hlab2 with e3 e4;refine ⟨eG s 2 a.c a.value (fU s.store b.v b.i a.value) (bN b.next (bN a.next s.root p1) p2) s.inn,ad8.2 ⟨(a,p1),B5 a1 b1,?_⟩,?_,?_⟩
     ·unfold fK;rw [iF (by show¬a.kind=116;omega),iF (by show¬(a.kind=105/\_);omega),iF (by show¬(a.kind=111/\a.c=1);omega),iT b2,ad8];refine ⟨(b,p2),B5 a2 b3,?_⟩;unfold iG;rw [iT (show b.kind=105/\b.c=a.c/\cL b.item a.value=true from ⟨b4,by omega,by rw [<-e2,e4];exact b5⟩)];exact .head _
     ·show [(a.c,a.value)]=[(c,v)];rw [e1,e2]
     ·unfold eG;rw [<-e2,e4];rfl
 |inp hi hl=>
  rename_i x r d q;cases BG hl with
  |one hc ha hf=>
   rename_i c q0 path;generalize hlab:LB.inp 0 x=lab at hf;cases wU hf with
   |tau=>cases hlab |out=>cases hlab
   |inp b1 b2 b3=>
    rename_i a y;injection hlab with e1 e2;refine ⟨eG s 2 0 (s.inn.headD 0) (fU s.store a.v a.i (s.inn.headD 0)) (bN a.next s.root path) s.inn.tail,ad8.2 ⟨(a,path),B5 ha b1,?_⟩,?_,?_⟩
    ·unfold fK;rw [iF (by show¬a.kind=116;omega),iT (show a.kind=105/\a.c=0/\0<s.inn.length from ⟨b2,e1.symm,by rw [hi];simp⟩)];exact .head _
    ·show [((0:Int),s.inn.headD 0)]=[(0,x)];rw [hi];rfl
    ·unfold eG;rw [hi,<-e2];rfl
 |out hl=>
  rename_i x d q;cases BG hl with
  |one hc ha hf=>
   rename_i c q0 path;generalize hlab:LB.out 1 x=lab at hf;cases wU hf with
   |tau=>cases hlab |inp=>cases hlab
   |out b1 b2=>
    rename_i a;injection hlab with e1 e2;refine ⟨eG s 2 1 a.value s.store (bN a.next s.root path) s.inn,ad8.2 ⟨(a,path),B5 ha b1,?_⟩,?_,rfl⟩
    ·unfold fK;rw [iF (by show¬a.kind=116;omega),iF (by show¬(a.kind=105/\_);omega),iT (show a.kind=111/\a.c=1 from ⟨b2,e1.symm⟩)];exact .head _
    ·show [((1:Int),a.value)]=[(1,x)];rw [e2]
abbrev P9:PR:=⟨9,0,0,0,[],[],[],[]⟩
def nA(body:PR)(rs:List PR):PR:=if body.kind=9 then lA body rs else fE rs
def E4(body W:PR):List PR->PR
 | []=>W |r=>lA P9 [nA body r,W]
theorem vY{body s:PR}(hn:aD s=s):nA body [s]=s:=by
 unfold nA;split
 ·show bY _ _=_;rw [eC,hn]
 ·rfl
theorem lB{p s:PR}{z:PR}{r:List PR}(hn:aD s=s)(hd:bI s=false):lA p (s::z::r)=iL p (s::z::r):=by show bY _ _=_;rw [fI,hn,iF (by rw [hd];decide)]
theorem zL{p s:PR}{z:PR}{r:List PR}(hn:aD s=s)(hd:bI s=true):lA p (s::z::r)=lA p (z::r):=by show bY _ _=bY _ _;rw [fI,hn,iT hd]
theorem zM{p:PR}(h9:p.kind=9)(l:List PR):aD (lA p l)=lA p l:=by rw [<-tM h9,kA]
theorem UN{body s:PR}{r:List PR}(hn:aD s=s):aD (nA body (s::r))=nA body (s::r):=by
 unfold nA;split
 ·rename_i h;exact zM h _
 ·exact hn
theorem UL{body s:PR}{r:List PR}(hn:aD s=s)(hd:bI s=false):bI (nA body (s::r))=false:=by
 unfold nA;split
 ·rename_i h;cases r with
  |nil=>show bI (bY _ _)=false;rw [eC,hn,hd] |cons z r=>rw [lB hn hd];exact nF (by show body.kind≠1;omega)
 ·exact hd
theorem tF{body W s:PR}{r:List PR}(hn:aD s=s)(hd:bI s=false):E4 body W (s::r)=iL P9 [nA body (s::r),W]:=by show lA P9 _=_;exact lB (UN hn) (UL hn hd)
theorem UM{body s s':PR}{r:List PR}(hb:body.kind=9\/r=[])(hn:aD s'=s'):(bI s'=true->nA body (s'::r)=if r=[] then aK else nA body r):=by
 intro hd;cases r with
 |nil=>rw [iT T,vY hn];exact (wF _).1 hd |cons z r=>
  have h9:body.kind=9:=hb.resolve_right (by simp);rw [iF (by simp)];unfold nA;rw [iT h9,iT h9,zL hn hd]
theorem Z1{body W s:PR}{r:List PR}(hb:body.kind=9\/r=[])(hW:aD W=W)(hr: ∀z,z∈r->aD z=z/\bI z=false)(hn:aD s=s)(hd:bI s=false){st:pX}{lab:LB}{d:List PX}{y:PR}(h:LS st (E4 body W (s::r)) lab d y): ∃s',LS st s lab d s'/\y=(if bI s'=true then E4 body W r else E4 body W (s'::r)):=by
 rw [tF hn hd] at h;have key: ∀B',LS st (nA body (s::r)) lab d B'-> ∃s',LS st s lab d s'/\B'=nA body (s'::r):=fun B' hB=>by
  cases r with
  |nil=>
   rw [vY hn] at hB;exact ⟨B',hB,by rw [vY (S4 hB)]⟩
  |cons z r=>
   have h9:body.kind=9:=hb.resolve_right (by simp);unfold nA at hB⊢;rw [iT h9] at hB;rw [lB hn hd] at hB;cases hB with
   |leaf k=>exact absurd h9 k |par k=>have k:body.kind=10\/body.kind=11:=k;omega
   |com k=>have k:body.kind=10\/body.kind=11:=k;omega |seq k hl hs=>
    rename_i x x' r0;injection hl with e1 e2;subst e1;subst e2;exact ⟨x',hs,by rw [iT h9];exact fH (p:=iL body (x'::z::r)) h9⟩
 cases h with
 |leaf k=>exact absurd T k |par k=>rcases k with k|k<;>cases k
 |com k=>rcases k with k|k<;>cases k
 |seq k hl hs=>
  rename_i x B' r0;injection hl with e1 e2;subst e1;subst e2;obtain ⟨s',h1,h2⟩:=key B' hs;refine ⟨s',h1,?_⟩;have hn':=S4 h1;have e:aD (iL (iL P9 [nA body (s::r),W]) (B'::[W]))=lA P9 [B',W]:=fH (p:=iL P9 [B',W]) T;rw [e,h2];cases hd':bI s' with
  |false=>rw [iF (by decide)];rfl |true=>
   rw [iT T,UM (s:=s) hb hn' hd'];cases r with
   |nil=>
    rw [iT T,zL iE mY];show bY _ _=W;rw [eC,hW]
   |cons z r=>rw [iF (by simp)];rfl
theorem N2{body W s:PR}{r:List PR}(hb:body.kind=9\/r=[])(hn:aD s=s)(hd:bI s=false){st:pX}{lab:LB}{d:List PX}{s':PR}(h:LS st s lab d s'): ∃y,LS st (E4 body W (s::r)) lab d y:=by
 rw [tF hn hd];have key: ∃B',LS st (nA body (s::r)) lab d B':=by
  cases r with
  |nil=>rw [vY hn];exact ⟨s',h⟩ |cons z r=>
   have h9:body.kind=9:=hb.resolve_right (by simp);unfold nA;rw [iT h9,lB hn hd];exact ⟨_,LS.seq (p:=iL body (s::z::r)) h9 T h⟩
 obtain ⟨B',hB⟩:=key;exact ⟨_,LS.seq (p:=iL P9 [nA body (s::r),W]) T T hB⟩
section
variable{V:List KV}
structure Comm(V:List KV)(q:PR):Prop where
 k:q.kind=5\/q.kind=6
 inp:q.kind=5-> ∀st,d9 V st-> ∃to a,q.to=[to]/\cZ st to.v to.ix=some a
 out:q.kind=6-> ∀st,d9 V st-> ∃e x,q.e=[e]/\bV st e=some x/\cL q.item x=true
theorem Comm.k9{q:PR}(h:Comm V q):q.kind≠9:=by have:=h.k;omega
theorem Comm.kb{q:PR}(h:Comm V q): ¬sO q:=by intro hp;have hp:q.kind=10\/q.kind=11:=hp;have:=h.k;omega
theorem Comm.norm{q:PR}(h:Comm V q):aD q=q:=tH h.k9 h.kb
theorem Comm.live{q:PR}(h:Comm V q):bI q=false:=nF (by have:=h.k;omega)
def XB(q:PR)(lab:LB):Prop:=(q.kind=5/\ ∃x,lab= .inp q.c x)\/(q.kind=6/\ ∃x,lab= .out q.c x)
theorem FL{q q':PR}(h:Comm V q){st:pX}(hs:d9 V st){lab:LB}{d:List PX}(hl:LS st q lab d q'):q'=aK/\XB q lab:=by
 cases hl with
 |seq k=>exact absurd k h.k9 |par k=>exact absurd k h.kb
 |com k=>exact absurd k h.kb |leaf _ _ hf=>
  have hk:=h.k;cases hf with
  |inN k he hp=>
   obtain ⟨to,a,h1,h2⟩:=h.inp k st hs;rw [h1] at he;injection he with e1 _;rw [<-e1,h2] at hp;cases hp
  |inn k he hp hf=>exact ⟨iE, .inl ⟨k,_,rfl⟩⟩ |valN k he hv=>
   have k6:q.kind=6:=by omega
   obtain ⟨e,x,h1,h2,_⟩:=h.out k6 st hs;rw [h1] at he;injection he with e1 _;rw [<-e1,h2] at hv;cases hv
  |out k he hv=>exact ⟨iE, .inr ⟨k,_,rfl⟩⟩ |_=>exfalso;omega
theorem X4{q:PR}(h:Comm V q)(hk:q.kind=5){st:pX}(hs:d9 V st){x:Int}(hf:cL q.item x=true): ∃d,LS st q (.inp q.c x) d aK:=by obtain ⟨to,a,h1,h2⟩:=h.inp hk st hs;have:=LS.leaf h.k9 h.kb (Lf.inn (x:=x) hk h1 h2 hf);rw [iE] at this;exact ⟨_,this⟩
theorem X5{q:PR}(h:Comm V q)(hk:q.kind=6){st:pX}(hs:d9 V st): ∃x d,LS st q (.out q.c x) d aK/\cL q.item x=true:=by obtain ⟨e,x,h1,h2,h3⟩:=h.out hk st hs;have:=LS.leaf h.k9 h.kb (Lf.out hk h1 h2);rw [iE] at this;exact ⟨x,_,this,h3⟩
def aO(s:PR):List PR:=if s.kind=10 then s.l else [s]
structure RQ(V:List KV)(s:PR):Prop where
 comm: ∀q,q∈aO s->Comm V q
 ne:aO s≠[]
 nod:((aO s).map PR.c).Nodup
end
def tW(dn:Int->Bool)(q:PR):PR:=if dn q.c=true then aK else q
def hU(s:PR)(dn:Int->Bool):PR:=if s.kind=10 then iL s (s.l.map (tW dn)) else s
theorem qA{s:PR}(h:s.kind=10):aO s=s.l:=iT h
theorem H7{s:PR}(h:s.kind≠10):aO s=[s]:=iF h
theorem vN{s:PR}{dn:Int->Bool}(h: ∀q,q∈aO s->dn q.c=false):hU s dn=s:=by
 unfold hU;split
 ·rename_i hk;rw [qA hk] at h;have e:s.l.map (tW dn)=s.l:=by
   conv=>rhs;rw [<-List.map_id s.l]
   exact ag8 fun q hq=>by unfold tW;rw [iF (by rw [h q hq];decide)];rfl
  rw [e,l5]
 ·rfl
theorem N0{s:PR}{dn dn':Int->Bool}(h: ∀q,q∈aO s->dn q.c=dn' q.c):hU s dn=hU s dn':=by
 unfold hU;split
 ·rename_i hk;rw [qA hk] at h;rw [ag8 fun q hq=>show tW dn q=tW dn' q by unfold tW;rw [h q hq]]
 ·rfl
section
variable{V:List KV}
theorem LD{dn:Int->Bool}{q:PR}(h:Comm V q):aD (tW dn q)=tW dn q:=by
 unfold tW;split
 ·exact iE
 ·exact h.norm
theorem vM{s:PR}{dn:Int->Bool}(h:RQ V s){q:PR}(hq:q∈aO s)(hd:dn q.c=false):aD (hU s dn)=hU s dn/\bI (hU s dn)=false:=by
 unfold hU;split
 ·rename_i hk;rw [qA hk] at hq;have hc:=h.comm;rw [qA hk] at hc;have e:tW dn q=q:=iF (by rw [hd];decide);refine ⟨DR (.inl hk) (x:=q) (fun z hz=>?_) (ac1.2 ⟨q,hq,e⟩) (hc q hq).live,nF (by show s.kind≠1;omega)⟩;obtain ⟨y,hy,rfl⟩:=ac1.1 hz;exact LD (hc y hy)
 ·rename_i hk;have hc:=h.comm;rw [H7 hk] at hc;have:=hc s (.head _);exact ⟨this.norm,this.live⟩
theorem par_gone{p:PR}(hb:sO p){l:List PR}(h: ∀z,z∈l->z=aK):bI (aD (iL p l))=true:=by rw [f7 (p:=iL p l) (vZ hb)];show bI (if (l.map aD).all bI=true then _ else _)=true;rw [iT,mY];rw [ac5];intro z hz;obtain ⟨y,hy,rfl⟩:=ac1.1 hz;rw [h y hy,iE,mY]
theorem Q8{s:PR}{dn:Int->Bool}(h:RQ V s){st:pX}(hs:d9 V st){lab:LB}{d:List PX}{z':PR}(hl:LS st (hU s dn) lab d z')(hp: ∃q,q∈aO s/\dn q.c=false):
 ∃q,q∈aO s/\dn q.c=false/\XB q lab/\ ∀dn':Int->Bool,dn' q.c=true->(∀r,r∈aO s->r.c≠q.c->dn' r.c=dn r.c)->
  (((∀r,r∈aO s->dn' r.c=true)/\bI z'=true)\/((∃r,r∈aO s/\dn' r.c=false)/\z'=hU s dn')):=by
 have hc:=h.comm;have hn:=h.nod
 by_cases hk:s.kind=10
 ·rw [qA hk] at hc hn hp⊢;unfold hU at hl⊢;rw [iT hk] at hl;have hpk:sO (iL s (s.l.map (tW dn))):= .inl hk;have one: ∀(i:Nat) x,(s.l.map (tW dn))[i]? =some x-> ∀{lab:LB} {d:List PX} {y:PR},LS st x lab d y-> ∃q,s.l[i]? =some q/\dn q.c=false/\XB q lab/\y=aK:=by
   intro i x hx lab d y hy;rw [ab9] at hx;cases hq:s.l[i]? with
   |none=>rw [hq] at hx;cases hx |some q=>
    rw [hq] at hx;injection hx with hx;cases hd:dn q.c with
    |true=>
     rw [show tW dn q=aK from iT hd] at hx;rw [<-hx] at hy;exact (skip_no hy).elim
    |false=>
     rw [show tW dn q=q from iF (by rw [hd];decide)] at hx;rw [<-hx] at hy;obtain ⟨e1,e2⟩:=FL (hc q (aa2 hq)) hs hy;exact ⟨q,rfl,hd,e2,e1⟩
  cases hl with
  |leaf _ k=>exact absurd hpk k |seq k=>have k:s.kind=9:=k;omega
  |par k hx hy=>
   rename_i x y i;have hx:(s.l.map (tW dn))[i]? =some x:=hx;obtain ⟨q,hq,hd,hsay,rfl⟩:=one i x hx hy;refine ⟨q,aa2 hq,hd,hsay,fun dn' h1 h2=>?_⟩;have e:(s.l.map (tW dn)).set i aK=s.l.map (tW dn'):=by
    apply af2;intro j;rw [ag3,aa0]
    by_cases hij:i=j
    ·subst hij;rw [iT T,ab9,hq,iT (ad3.1 hq).1];show some aK=some (tW dn' q);unfold tW;rw [iT h1]
    ·rw [iF hij,ab9,ab9];cases hr:s.l[j]? with
     |none=>rfl |some r=>
      show some (tW dn r)=some (tW dn' r);have hne:r.c≠q.c:=fun e=>hij (by have hi:=(ad3.1 hq).1;refine (List.getElem?_inj (by rw [aa0];exact hi) hn).1 ?_;rw [ab9,ab9,hq,hr,ag0,ag0,e])
      unfold tW;rw [h2 r (aa2 hr) hne]
   have e2:aD (iL (iL s (s.l.map (tW dn))) ((s.l.map (tW dn)).set i aK))=aD (iL s (s.l.map (tW dn'))):=by rw [e]
   show (_/\bI (aD (iL (iL s (s.l.map (tW dn))) ((s.l.map (tW dn)).set i aK)))=true)\/_/\aD (iL (iL s (s.l.map (tW dn))) ((s.l.map (tW dn)).set i aK))=_;rw [e2]
   by_cases ha: ∃r,r∈s.l/\dn' r.c=false
   ·obtain ⟨r,hr,hd'⟩:=ha;refine .inr ⟨⟨r,hr,hd'⟩,?_⟩;rw [iT hk];refine DR (.inl hk) (x:=r) (fun z hz=>?_) (ac1.2 ⟨r,hr,iF (by rw [hd'];decide)⟩) (hc r hr).live;obtain ⟨w,hw,rfl⟩:=ac1.1 hz;exact LD (hc w hw)
   ·have ha: ∀r,r∈s.l->dn' r.c=true:=fun r hr=>by
     cases hd':dn' r.c with
     |true=>rfl |false=>exact (ha ⟨r,hr,hd'⟩).elim
    refine .inl ⟨ha,par_gone (.inl hk) fun z hz=>?_⟩;obtain ⟨w,hw,rfl⟩:=ac1.1 hz;exact iT (ha w hw)
  |com k hx hy hij h1 h2=>
   rename_i x y x' y' i j c v d1 d2;exfalso;obtain ⟨q,hq,_,s1,_⟩:=one i x hx h1;obtain ⟨r,hr,_,s2,_⟩:=one j y hy h2;have e1:q.c=c:=by
    rcases s1 with ⟨_,w,e⟩|⟨_,w,e⟩
    ·cases e
    ·injection e with e _;exact e.symm
   have e2:r.c=c:=by
    rcases s2 with ⟨_,w,e⟩|⟨_,w,e⟩
    ·injection e with e _;exact e.symm
    ·cases e
   apply hij;refine (List.getElem?_inj (by rw [aa0];exact (ad3.1 hq).1) hn).1 ?_;rw [ab9,ab9,hq,hr,ag0,ag0,e1,e2]
 ·rw [H7 hk] at hc hn hp⊢;obtain ⟨q,hq,hd⟩:=hp;rw [aa3] at hq;subst hq;unfold hU at hl;rw [iF hk] at hl;obtain ⟨e1,e2⟩:=FL (hc q (.head _)) hs hl;refine ⟨q, .head _,hd,e2,fun dn' h1 h2=> .inl ⟨fun r hr=>?_,by rw [e1,mY]⟩⟩;rw [aa3.1 hr];exact h1
theorem N1{s:PR}{dn:Int->Bool}{q:PR}(hq:q∈aO s)(hd:dn q.c=false){st:pX}{lab:LB}{d:List PX}{y:PR}(hl:LS st q lab d y): ∃y',LS st (hU s dn) lab d y':=by
 unfold hU;split
 ·rename_i hk;rw [qA hk] at hq;obtain ⟨i,hi⟩:=al4 hq;have hx:(s.l.map (tW dn))[i]? =some q:=by
   rw [ab9,hi];show some (tW dn q)=_;unfold tW;rw [iF (by rw [hd];decide)]
  exact ⟨_,LS.par (p:=iL s (s.l.map (tW dn))) (.inl hk) hx hl⟩
 ·rename_i hk;rw [H7 hk,aa3] at hq;subst hq;exact ⟨_,hl⟩
end
def kR(ss:List PR)(q:PR):Prop:= ∃s,s∈ss/\q∈aO s
structure BD where
 W:PR
 body:PR
 steps:List PR
structure yE(V:List KV)(b:BD):Prop where
 st: ∀s,s∈b.steps->RQ V s
 ne:b.steps≠[]
 eq:b.steps=if b.body.kind=9 then b.body.l else [b.body]
 k:b.W.kind=13
 one: ∃e r,b.W.e=e::r/\ ∀st,bV st e=some 1
 l:b.W.l=[b.body]
 nod:((b.steps.flatMap aO).map PR.c).Nodup
theorem MJ{ss:List PR}{q:PR}(h:kR ss q):q.c∈(ss.flatMap aO).map PR.c:=by obtain ⟨s,hs,hq⟩:=h;exact ac1.2 ⟨q,ad8.2 ⟨s,hs,hq⟩,rfl⟩
theorem kR.left{a b:List PR}{q:PR}(h:kR a q):kR (a++b) q:=by obtain ⟨s,hs,hq⟩:=h;exact ⟨s,ac9 _ hs,hq⟩
theorem kR.right{a b:List PR}{q:PR}(h:kR b q):kR (a++b) q:=by obtain ⟨s,hs,hq⟩:=h;exact ⟨s,ae6 _ hs,hq⟩
theorem kR.one{s:PR}{q:PR}(h:q∈aO s)(b:List PR):kR (s::b) q:=⟨s, .head _,h⟩
theorem IW{a b:List PR}{q:PR}:kR (a++b) q↔kR a q\/kR b q:=by
 constructor
 ·rintro ⟨s,hs,hq⟩;rcases List.mem_append.1 hs with hs|hs
  ·exact .inl ⟨s,hs,hq⟩
  ·exact .inr ⟨s,hs,hq⟩
 ·rintro (h|h)
  ·exact h.left
  ·exact h.right
theorem j0{s:PR}{b:List PR}{q:PR}:kR (s::b) q↔q∈aO s\/kR b q:=by
 constructor
 ·rintro ⟨x,hx,hq⟩;rcases ab0.1 hx with rfl|hx
  ·exact .inl hq
  ·exact .inr ⟨x,hx,hq⟩
 ·rintro (h|⟨x,hx,hq⟩)
  ·exact .one h _
  ·exact ⟨x, .tail _ hx,hq⟩
theorem BE{q:PR}: ¬kR [] q:=by rintro ⟨s,hs,_⟩;cases hs
theorem zA{a b:List PR}(h:(((a++b).flatMap aO).map PR.c).Nodup){q r:PR}(hq:kR a q)(hr:kR b r):q.c≠r.c:=by rw [List.flatMap_append,ae2,List.nodup_append] at h;exact h.2.2 _ (MJ hq) _ (MJ hr)
section
variable{V:List KV}{b:BD}
theorem yE.hb(h:yE V b){pre rest:List PR}{s:PR}(e:b.steps=pre++s::rest):b.body.kind=9\/rest=[]:=by
 by_cases h9:b.body.kind=9
 ·exact .inl h9
 ·right;have:=h.eq;rw [iF h9] at this;rw [this] at e;have hl:=congrArg List.length e;rw [aa7,ab1,ab1,List.length_nil] at hl;exact ai8 (by omega)
theorem yE.fresh(h:yE V b){s:PR}(hs:s∈b.steps):aD s=s/\bI s=false:=by
 have hn:=h.st s hs;cases hc:aO s with
 |nil=>exact absurd hc hn.ne |cons q r=>
  have:=vM (dn:=fun _=>false) hn (q:=q) (by rw [hc];exact .head _) T;rw [vN fun _ _=>rfl] at this;exact this
theorem yE.ft(h:yE V b):aD b.W=b.W:=by have:=h.k;exact tH (by omega) (by intro hp;have hp:b.W.kind=10\/b.W.kind=11:=hp;omega)
theorem yE.jr(h:yE V b):bI b.W=false:=nF (by have:=h.k;omega)
theorem yE.kg(h:yE V b):nA b.body b.steps=aD b.body:=by
 have he:=h.eq
 by_cases h9:b.body.kind=9
 ·rw [iT h9] at he;unfold nA;rw [iT h9,he,<-tM h9,l5]
 ·rw [iF h9] at he;rw [he];unfold nA;rw [iF h9];exact ((h.fresh (by rw [he];exact .head _)).1).symm
theorem yE.more(h:yE V b):aD ⟨9,0,0,0,[],[],[],[fE b.W.l,b.W]⟩=E4 b.body b.W b.steps:=by
 have e:aD ⟨9,0,0,0,[],[],[],[fE b.W.l,b.W]⟩=lA P9 [fE b.W.l,b.W]:=tM (p:=P9) T _;have e2:fE b.W.l=b.body:=by rw [h.l];rfl
 rw [e,e2];have hl:E4 b.body b.W b.steps=lA P9 [nA b.body b.steps,b.W]:=by
  cases hs:b.steps with
  |nil=>exact absurd hs h.ne |cons s r=>rfl
 rw [hl,h.kg];show bY _ _=bY _ _;rw [fI,fI,kA]
theorem yE.jw(h:yE V b){st:pX}{lab:LB}{d:List PX}{y:PR}(hl:LS st b.W lab d y):lab= .tau/\y=E4 b.body b.W b.steps:=by
 have k:=h.k;obtain ⟨e,r,he,hv⟩:=h.one;cases hl with
 |seq k9=>omega |par kp=>have kp:b.W.kind=10\/b.W.kind=11:=kp;omega
 |com kp=>have kp:b.W.kind=10\/b.W.kind=11:=kp;omega |leaf _ _ hf=>
  cases hf with
  |valN _ he' hv'=>rw [he] at he';injection he' with e1 _;rw [<-e1,hv st] at hv';cases hv' |more _ he' hv'=>exact ⟨rfl,h.more⟩
  |last _ he' hv' hx=>rw [he] at he';injection he' with e1 _;rw [<-e1,hv st] at hv';injection hv' with hv';exact absurd hv'.symm hx |_=>exfalso;omega
theorem yE.kj(h:yE V b)(st:pX): ∃d y,LS st b.W .tau d y:=by have k:=h.k;obtain ⟨e,r,he,hv⟩:=h.one;exact ⟨_,_,LS.leaf (by omega) (by intro hp;have hp:b.W.kind=10\/b.W.kind=11:=hp;omega) (Lf.more k he (hv st))⟩
theorem yO{c:PR}(k:c.kind=3):aD c=c/\bI c=false:=
 ⟨tH (by omega) (by intro hp;have hp:c.kind=10\/c.kind=11:=hp;omega),nF (by omega)⟩
theorem wB{p c z:PR}{r:List PR}(h9:p.kind=9)(k:c.kind=3){st:pX}{lab:LB}{d:List PX}{y:PR}(hl:LS st (lA p (c::z::r)) lab d y):lab= .tau/\y=lA p (z::r):=by
 obtain ⟨hn,hd⟩:=yO k;rw [lB hn hd] at hl;cases hl with
 |leaf k9=>exact absurd h9 k9 |par kp=>have kp:p.kind=10\/p.kind=11:=kp;omega
 |com kp=>have kp:p.kind=10\/p.kind=11:=kp;omega |seq k9 he hs=>
  rename_i x y1 r0;injection he with e1 e2;subst e1;subst e2;have e3:aD (iL (iL p (c::z::r)) (y1::z::r))=lA p (y1::z::r):=tM h9 _;rw [e3];cases hs with
  |seq k9=>omega |par kp=>have kp:c.kind=10\/c.kind=11:=kp;omega
  |com kp=>have kp:c.kind=10\/c.kind=11:=kp;omega |leaf _ _ hf=>
   cases hf with
   |clear=>exact ⟨rfl,by rw [iE];exact zL iE mY⟩ |_=>exfalso;omega
theorem H6{p c z:PR}{r:List PR}(h9:p.kind=9)(k:c.kind=3)(st:pX): ∃d y,LS st (lA p (c::z::r)) .tau d y:=by obtain ⟨hn,hd⟩:=yO k;rw [lB hn hd];exact ⟨_,_,LS.seq (p:=iL p (c::z::r)) h9 T (LS.leaf (by omega) (by intro hp;have hp:c.kind=10\/c.kind=11:=hp;omega) (Lf.clear k))⟩
theorem K1{p c z:PR}{r:List PR}(h9:p.kind=9)(k:c.kind=3):aD (lA p (c::z::r))=lA p (c::z::r)/\bI (lA p (c::z::r))=false:=by obtain ⟨hn,hd⟩:=yO k;exact ⟨zM h9 _,by rw [lB hn hd];exact nF (by show p.kind≠1;omega)⟩
structure qY(b:BD)(n:Int->Nat)(t:Nat)(pre:List PR)(s:PR)(rest:List PR):Prop where
 eq:b.steps=pre++s::rest
 pre: ∀q,kR pre q->n q.c=t+1
 now: ∀q,q∈aO s->n q.c=t\/n q.c=t+1
 live: ∃q,q∈aO s/\n q.c=t
 rest: ∀q,kR rest q->n q.c=t
abbrev dnN(n:Int->Nat)(t:Nat):Int->Bool:=fun c=>decide (t<n c)
inductive mM(b:BD)(n:Int->Nat):PR->Prop
 |clr {p c:PR} {cs:List PR}:p.kind=9->(∀x,x∈c::cs->x.kind=3)->(∀q,kR b.steps q->n q.c=0)->mM b n (lA p (c::(cs++[b.W])))
 |top {t:Nat}:(∀q,kR b.steps q->n q.c=t)->mM b n b.W
 |mid {t:Nat} {pre rest:List PR} {s:PR}:qY b n t pre s rest->mM b n (E4 b.body b.W (hU s (dnN n t)::rest))
theorem mM.congr{n n':Int->Nat}(h: ∀q,kR b.steps q->n' q.c=n q.c){z:PR}(hz:mM b n z):mM b n' z:=by
 cases hz with
 |clr h9 hc h0=>exact .clr h9 hc fun q hq=>by rw [h q hq,h0 q hq] |top h0=>exact .top fun q hq=>by rw [h q hq,h0 q hq]
 |mid m=>
  rename_i t pre rest s;have hp: ∀q,kR pre q->n' q.c=n q.c:=fun q hq=>h q (by rw [m.eq];exact hq.left);have hs: ∀q,q∈aO s->n' q.c=n q.c:=fun q hq=>h q (by rw [m.eq];exact (kR.one hq _).right);have hr: ∀q,kR rest q->n' q.c=n q.c:=fun q hq=>h q (by rw [m.eq];exact (j0.2 (.inr hq)).right);have e:hU s (dnN n t)=hU s (dnN n' t):=N0 fun q hq=>by show decide _=decide _;rw [hs q hq]
  rw [e];obtain ⟨q,hq,hl⟩:=m.live;exact .mid ⟨m.eq,fun q hq=>by rw [hp q hq,m.pre q hq],fun q hq=>by rw [hs q hq];exact m.now q hq,⟨q,hq,by rw [hs q hq,hl]⟩,fun q hq=>by rw [hr q hq,m.rest q hq]⟩
theorem qY.st{n:Int->Nat}{t:Nat}{pre rest:List PR}{s:PR}(m:qY b n t pre s rest)(h:yE V b):RQ V s:=h.st s (by rw [m.eq];exact ae6 _ (.head _))
theorem qY.fresh{n:Int->Nat}{t:Nat}{pre rest:List PR}{s:PR}(m:qY b n t pre s rest)(h:yE V b): ∀z,z∈rest->aD z=z/\bI z=false:=fun z hz=>h.fresh (by rw [m.eq];exact ae6 _ (.tail _ hz))
theorem qY.ig{n:Int->Nat}{t:Nat}{pre rest:List PR}{s:PR}(m:qY b n t pre s rest)(h:yE V b):aD (hU s (dnN n t))=hU s (dnN n t)/\bI (hU s (dnN n t))=false:=by obtain ⟨q,hq,hl⟩:=m.live;exact vM (m.st h) hq (by show decide _=false;rw [hl];simp)
theorem br_norm(h:yE V b){n:Int->Nat}{z:PR}(hz:mM b n z):aD z=z/\bI z=false:=by
 cases hz with
 |clr h9 hc h0=>
  rename_i p c cs;cases cs with
  |nil=>exact K1 h9 (hc c (.head _)) |cons d r=>exact K1 h9 (hc c (.head _))
 |top h0=>exact ⟨h.ft,h.jr⟩ |mid m=>
  rename_i t pre rest s;have hz:=m.ig h;rw [tF hz.1 hz.2];refine ⟨?_,nF (by show (9:Int)≠1;decide)⟩;rw [<-tF hz.1 hz.2];exact zM (p:=P9) T _
theorem XU(h:yE V b){n:Int->Nat}{t:Nat}(h0: ∀q,kR b.steps q->n q.c=t):mM b n (E4 b.body b.W b.steps):=by
 cases hs:b.steps with
 |nil=>exact absurd hs h.ne |cons s r=>
  rw [hs] at h0;have hn:=h.st s (by rw [hs];exact .head _);have e:hU s (dnN n t)=s:=vN fun q hq=>by show decide _=false;rw [h0 q (.one hq _)];simp
  have hl: ∃q,q∈aO s/\n q.c=t:=by
   cases hc:aO s with
   |nil=>exact absurd hc hn.ne |cons q r0=>exact ⟨q, .head _,h0 q (.one (by rw [hc];exact .head _) _)⟩
  have:=mM.mid (b:=b) (n:=n) (t:=t) (pre:=[]) (s:=s) (rest:=r) ⟨hs,fun q hq=>absurd hq BE,fun q hq=> .inl (h0 q (.one hq _)),hl,fun q hq=>h0 q (j0.2 (.inr hq))⟩;rw [e] at this;exact this
theorem HZ(h:yE V b){st:pX}(hs:d9 V st){n:Int->Nat}{z:PR}(hz:mM b n z){lab:LB}{d:List PX}{y:PR}(hl:LS st z lab d y):
 (lab= .tau/\mM b n y)\/ ∃t pre s rest q,qY b n t pre s rest/\q∈aO s/\n q.c=t/\XB q lab/\ ∀n':Int->Nat,n' q.c=t+1->(∀r,kR b.steps r->r.c≠q.c->n' r.c=n r.c)->mM b n' y:=by
 cases hz with
 |clr h9 hc h0=>
  rename_i p c cs;left;cases cs with
  |nil=>
   obtain ⟨e1,e2⟩:=wB h9 (hc c (.head _)) hl;have e3:lA p [b.W]=b.W:=by show bY _ _=_;rw [eC,h.ft]
   rw [e2,e3];exact ⟨e1, .top h0⟩
  |cons x r=>
   obtain ⟨e1,e2⟩:=wB h9 (hc c (.head _)) hl;rw [e2];exact ⟨e1, .clr h9 (fun w hw=>hc w (.tail _ hw)) h0⟩
 |top h0=>
  left;obtain ⟨e1,e2⟩:=h.jw hl;rw [e2];exact ⟨e1,XU h h0⟩
 |mid m=>
  rename_i t pre rest s;right;have hz:=m.ig h;obtain ⟨s',h1,e2⟩:=Z1 (h.hb m.eq) h.ft (m.fresh h) hz.1 hz.2 hl;obtain ⟨q0,hq0,hl0⟩:=m.live;obtain ⟨q,hq,hd,hsay,key⟩:=Q8 (m.st h) hs h1 ⟨q0,hq0,by show decide _=false;rw [hl0];simp⟩;have hnq:n q.c=t:=by
   rcases m.now q hq with e|e
   ·exact e
   ·have hd:decide (t<n q.c)=false:=hd;rw [e] at hd;simp at hd
  have hnod:=h.nod;rw [m.eq] at hnod;refine ⟨t,pre,s,rest,q,m,hq,hnq,hsay,fun n' g1 g2=>?_⟩;have gp: ∀r,kR pre r->n' r.c=t+1:=fun r hr=>by rw [g2 r (by rw [m.eq];exact hr.left) (zA hnod hr (.one hq _)),m.pre r hr]
  have gr: ∀r,kR rest r->n' r.c=t:=fun r hr=>by
   have hne:q.c≠r.c:=by
    have h3:(((pre++[s])++rest).flatMap aO).map PR.c=((pre++s::rest).flatMap aO).map PR.c:=by rw [ab7];rfl
    rw [<-h3] at hnod;exact zA hnod (kR.right (.one hq _)) hr
   rw [g2 r (by rw [m.eq];exact (j0.2 (.inr hr)).right) (Ne.symm hne),m.rest r hr]
  have gs: ∀r,r∈aO s->n' r.c=t\/n' r.c=t+1:=fun r hr=>by
   by_cases e:r.c=q.c
   ·rw [e];exact .inr g1
   ·rw [g2 r (by rw [m.eq];exact (kR.one hr _).right) e];exact m.now r hr
  rcases key (dnN n' t) (by show decide _=true;rw [g1];simp) (fun r hr e=>by show decide _=decide _;rw [g2 r (by rw [m.eq];exact (kR.one hr _).right) e]) with ⟨k1,k2⟩|⟨⟨r0,k1,k2⟩,k3⟩
  ·rw [iT k2] at e2;rw [e2];have k1: ∀r,r∈aO s->n' r.c=t+1:=fun r hr=>by
    have h5:decide (t<n' r.c)=true:=k1 r hr;rw [dT] at h5;rcases gs r hr with e|e
    ·omega
    ·exact e
   cases hr:rest with
   |nil=>
    subst hr;show mM b n' b.W;refine .top (t:=t+1) fun r hr=>?_;rw [m.eq] at hr;rcases IW.1 hr with hr|hr
    ·exact gp r hr
    ·rcases j0.1 hr with hr|hr
     ·exact k1 r hr
     ·exact absurd hr BE
   |cons s2 rest2=>
    subst hr;have hn2:=h.st s2 (by rw [m.eq];exact ae6 _ (.tail _ (.head _)));have e3:hU s2 (dnN n' t)=s2:=vN fun r hr=>by show decide _=false;rw [gr r (.one hr _)];simp
    have hl2: ∃r,r∈aO s2/\n' r.c=t:=by
     cases hc:aO s2 with
     |nil=>exact absurd hc hn2.ne |cons r r1=>exact ⟨r, .head _,gr r (.one (by rw [hc];exact .head _) _)⟩
    have:=mM.mid (b:=b) (n:=n') (t:=t) (pre:=pre++[s]) (s:=s2) (rest:=rest2) ⟨by rw [m.eq,ab7];rfl,fun r hr=>by
     rcases IW.1 hr with hr|hr
     ·exact gp r hr
     ·rcases j0.1 hr with hr|hr
      ·exact k1 r hr
      ·exact absurd hr BE,fun r hr=> .inl (gr r (.one hr _)),hl2,fun r hr=>gr r (j0.2 (.inr hr))⟩
    rw [e3] at this;exact this
  ·have hd2:bI s'=false:=by
    rw [k3];exact (vM (m.st h) k1 k2).2
   rw [iF (by rw [hd2];decide)] at e2;rw [e2,k3];have hr0:n' r0.c=t:=by have h5:decide (t<n' r0.c)=false:=k2;rw [dF] at h5;rcases gs r0 k1 with e|e<;>omega
   exact .mid ⟨m.eq,gp,gs,⟨r0,k1,hr0⟩,gr⟩
theorem br_go(h:yE V b){st:pX}(hs:d9 V st){n:Int->Nat}{z:PR}(hz:mM b n z):
 (∃d y,LS st z .tau d y)\/ ∃t pre s rest,qY b n t pre s rest/\ ∀q,q∈aO s->n q.c=t->(q.kind=5-> ∀x,cL q.item x=true-> ∃d y,LS st z (.inp q.c x) d y)/\(q.kind=6-> ∃x d y,LS st z (.out q.c x) d y/\cL q.item x=true):=by
 cases hz with
 |clr h9 hc h0=>
  rename_i p c cs;left;cases cs with
  |nil=>exact H6 h9 (hc c (.head _)) st |cons x r=>exact H6 h9 (hc c (.head _)) st
 |top h0=>exact .inl (h.kj st) |mid m=>
  rename_i t pre rest s;right;have hz:=m.ig h;refine ⟨t,pre,s,rest,m,fun q hq hn=>?_⟩;have hc:=(m.st h).comm q hq;have hd:dnN n t q.c=false:=by show decide _=false;rw [hn];simp
  refine ⟨fun k x hf=>?_,fun k=>?_⟩
  ·obtain ⟨d,h1⟩:=X4 hc k hs hf;obtain ⟨y',h2⟩:=N1 hq hd h1;obtain ⟨y,h3⟩:=N2 (W:=b.W) (h.hb m.eq) hz.1 hz.2 h2;exact ⟨d,y,h3⟩
  ·obtain ⟨x,d,h1,hf⟩:=X5 hc k hs;obtain ⟨y',h2⟩:=N1 hq hd h1;obtain ⟨y,h3⟩:=N2 (W:=b.W) (h.hb m.eq) hz.1 hz.2 h2;exact ⟨x,d,y,h3,hf⟩
end
section
variable{V:List KV}{st:pX}
theorem HX(hs:d9 V st){v i:Int}{y:KV}(hv:0<=v)(hy:V[v.toNat]? =some y)(h0:0<=i)(h1:i<dL y): ∃x,A5 st v i=some x:=by obtain ⟨_,h2,h3,_⟩:=pJ hs.may;have hl:=(ad3.1 hy).1;have hr:st[v.toNat]? =some st[v.toNat]:=ab6 (by omega);have hlen:=h3 v.toNat y _ hy hr;unfold A5;rw [iF (by omega),hr];exact ⟨_,ab6 (l:=st[v.toNat]) (i:=i.toNat) (by omega)⟩
theorem QG{z:Int}(h:kindOk 3 z):yW z=true:=by rcases h.2 rfl with rfl|rfl<;>rfl
theorem pS(hs:d9 V st): ∀(N:Nat) (e:KE) (kind:Int),sz e<=N->fine e=true->aC V e kind=true->(S22.ne e).safe=true-> ∃x,cM st e=some x
 |0,e,_,hn,_,_,_=>by have:=gH e;omega |N+1,e,kind,hn,hf,hk,hsf=>by
  obtain ⟨_,_,_,hg⟩:=pJ hs.may;rcases dQ hf with ⟨n,rfl⟩|⟨v,h1,h2,rfl⟩|⟨v,a,h1,h2,h3,rfl⟩|⟨o,a,h1,h2,h3,rfl⟩|⟨o,a,b,h1,h2,h3,h4,rfl⟩|⟨t,a,h1,h2,h3,rfl⟩
  ·exact ⟨n,by simp [cM,dX,d7]⟩
  ·simp only [aC,dV,iU] at hk;rw [iF (by decide),iT trivial] at hk;split at hk
   ·rename_i y hy;simp only [aa1,beq_iff_eq] at hk;obtain ⟨x,hx⟩:=HX hs h1 hy (i:=0) (an9 _) (by unfold dL;rw [iT (by omega)];omega);exact ⟨x,by simp [cM,dX,d7,hx]⟩
   ·cases hk
  ·simp [S22.ne,S22.nel,S22.jn,S22.sureB,KE.kind,KE.oper,KE.to] at hsf
  ·simp only [sz,jQ] at hn;simp [S22.ne,S22.nel,S22.jn,S22.sureB,KE.kind,KE.oper,KE.to] at hsf;simp only [aC,dV,iU] at hk;rw [iF (by decide),iF (by decide),iF (by decide)] at hk;simp at hk
   by_cases h26:o=26
   ·rw [iT h26] at hk;obtain ⟨z,hz⟩:=pS hs N a 3 (by omega) h3 hk.2 hsf.1;have hT:=QG (qD hg h3 hk.2 hz);exact ⟨dS (z==0),by simp [cM,dX,d7,hz,h26,eH,hT]⟩
   ·rw [iF h26] at hk;obtain ⟨z,hz⟩:=pS hs N a 1 (by omega) h3 hk.2 hsf.1;have ho:o=24\/o=25:=by omega
    rcases ho with rfl|rfl
    ·exact ⟨vU (0-z),by simp [cM,dX,d7,hz,eH]⟩
    ·exact ⟨bnot z,by simp [cM,dX,d7,hz,eH]⟩
  ·simp only [sz,jQ] at hn;simp [S22.ne,S22.nel,S22.jn,S22.sureB,KE.kind,KE.oper,KE.to] at hsf;have hab: ∃ka kb,aC V a ka=true/\aC V b kb=true/\((o=20\/o=21)->ka=3/\kb=3):=by
    simp only [aC,dV,iU] at hk;rw [iF (by decide),iF (by decide),iF (by decide)] at hk;simp at hk;split at hk
    ·exact ⟨1,1,hk.2.1,hk.2.2,fun h=>by omega⟩
    ·by_cases hk3:kind=3
     ·simp [hk3] at hk;split at hk
      ·rcases hk with (⟨e1,e2⟩|⟨e1,e2⟩)|⟨e1,e2⟩
       ·exact ⟨1,1,e1,e2,fun h=>by omega⟩
       ·exact ⟨2,2,e1,e2,fun h=>by omega⟩
       ·exact ⟨3,3,e1,e2,fun _=>⟨rfl,rfl⟩⟩
      ·split at hk
       ·rcases hk with ⟨e1,e2⟩|⟨e1,e2⟩
        ·exact ⟨1,1,e1,e2,fun h=>by omega⟩
        ·exact ⟨2,2,e1,e2,fun h=>by omega⟩
       ·split at hk
        ·exact ⟨1,1,hk.1,hk.2,fun h=>by omega⟩
        ·exact ⟨3,3,hk.1,hk.2,fun _=>⟨rfl,rfl⟩⟩
     ·simp [hk3] at hk
   obtain ⟨ka,kb,ha,hb,h20⟩:=hab;obtain ⟨z,hz⟩:=pS hs N a ka (by omega) h3 ha hsf.1.1;obtain ⟨w,hw⟩:=pS hs N b kb (by omega) h4 hb hsf.1.2;have hv:cM st ⟨5,o,0,0,0,[a,b]⟩=if PO o z=true then some z else eH o z w:=by simp [cM,dX,d7,hz,hw]
   rw [hv];split
   ·exact ⟨z,rfl⟩
   ·by_cases hT:o=20\/o=21
    ·obtain ⟨e1,e2⟩:=h20 hT;subst e1;subst e2;have t1:=QG (qD hg h3 ha hz);have t2:=QG (qD hg h4 hb hw);rcases hT with rfl|rfl
     ·exact ⟨dS (z==1&&w==1),by simp [eH,t1,t2]⟩
     ·exact ⟨dS (z==1||w==1),by simp [eH,t1,t2]⟩
    ·have ho:o=6\/o=7\/o=8\/o=9\/o=10\/o=11\/o=12\/o=13\/o=14\/o=15\/o=16\/o=17\/o=18\/o=19\/o=22:=by omega
     rcases ho with rfl|rfl|rfl|rfl|rfl|rfl|rfl|rfl|rfl|rfl|rfl|rfl|rfl|rfl|rfl<;>simp [eH]
  ·simp only [sz,jQ] at hn;simp [S22.ne,S22.nel,S22.jn,S22.sureB,KE.kind,KE.oper,KE.to] at hsf;have ha: ∃ka,aC V a ka=true:=by
    simp only [aC,dV,iU] at hk;rw [iF (by decide),iF (by decide),iF (by decide)] at hk;simp at hk;rcases hk.2 with (e|e)|e
    ·exact ⟨1,e⟩
    ·exact ⟨2,e⟩
    ·exact ⟨3,e⟩
   obtain ⟨ka,ha⟩:=ha;obtain ⟨z,hz⟩:=pS hs N a ka (by omega) h3 ha hsf.1;exact ⟨z,by simp [cM,dX,d7,hz,hsf.2,CH]⟩
theorem QY(hs:d9 V st){e:KE}{kind:Int}(hf:kM V e kind=true)(h:TU e=true): ∃x,bV st e=some x:=by
 unfold kM at hf;simp only [aa1,dT] at hf;unfold bV;rw [iT hf.1];have h:(S22.nrOf e).safe=true:=h;unfold S22.nrOf at h;split at h
 ·exact pS hs _ e kind (aa6 _) hf.1.1 hf.2 h
 ·cases h
theorem QX(hs:d9 V st){t:PL}{item:Int}(hp:dR V t item=true)(h:EC V t=true): ∃a,cZ st t.v t.ix=some a:=by
 obtain ⟨v,ix⟩:=t;unfold dR at hp;split at hp
 ·cases hp
 ·rename_i hv;simp only at hv hp;have hv0:0<=v:=by omega
  cases hy:V[v.toNat]? with
  |none=>rw [hy] at hp;cases hp |some y=>
   rw [hy] at hp;simp only [aa1] at hp;obtain ⟨_,hp⟩:=hp;cases ix with
   |nil=>
    split at hp
    ·rename_i hd;obtain ⟨x,hx⟩:=HX hs hv0 hy (i:=0) (an9 _) (by unfold dL;rw [iT (by omega)];omega);exact ⟨(v,0),by show cZ st v []=_;rw [cZ,hx];rfl⟩
    ·simp at hp
   |cons e r=>
    split at hp
    ·simp at hp
    ·simp only [aa1,beq_iff_eq,ab1] at hp;obtain ⟨hr,hf⟩:=hp;have hr:r=[]:=ai8 (by omega);subst hr;have hf:kM V e 1=true:=hf;have hf2:=hf;unfold kM at hf2;simp only [aa1,dT] at hf2;unfold EC at h;simp only [hy,aa1,beq_iff_eq,dT] at h;obtain ⟨⟨h1,h2⟩,h3⟩:=h;have hx:bV st e=some e.n:=by
      unfold bV;rw [iT hf2.1];rcases dQ hf2.1.1 with ⟨n,rfl⟩|⟨v,_,_,rfl⟩|⟨v,a,_,_,_,rfl⟩|⟨o,a,_,_,_,rfl⟩|⟨o,a,b,_,_,_,_,rfl⟩|⟨t,a,_,_,_,rfl⟩
      ·simp [cM,dX,d7]
      ·cases h1
      ·cases h1
      ·cases h1
      ·cases h1
      ·cases h1
     obtain ⟨x,hx2⟩:=HX hs hv0 hy (i:=e.n) h2 (by unfold dL;split<;>omega);exact ⟨(v,e.n),by show cZ st v [e]=_;rw [cZ,hx];simp only;rw [hx2];rfl⟩
end
theorem prim_of{item:Int}(h:nI item=true):item=1\/item=2\/item=3:=by simp only [nI,aa1,dT] at h;omega
theorem UQ{n:Nat}{c it no:Int}(h:jW n c it no=true):nI it=true:=by unfold jW at h;simp only [aa1] at h;exact h.1.2
theorem comm_of{k:KN}{x:PR}(g:Good k x)(h56:x.kind=5\/x.kind=6)(hsf:oG k.vars x=true):Comm k.vars x:=by
 have hk:=g.kind;refine ⟨h56,fun k5 st hs=>?_,fun k6 st hs=>?_⟩
 ·obtain ⟨t,ht,hin⟩:=I1 hk k5;have hp:=(n9 hin).2;unfold oG at hsf;rw [iF (by omega),ht] at hsf;obtain ⟨a,ha⟩:=QX hs hp hsf;exact ⟨t,a,ht,ha⟩
 ·obtain ⟨e,he,hch⟩:=I2 hk k6;unfold aS at hk;rw [iF (by omega),iF (by omega),iF (by omega),iF (by omega),iT k6,he,aa1] at hk;have hf:kM k.vars e x.item=true:=hk.2;unfold oG at hsf;rw [iT k6,he] at hsf;obtain ⟨w,hw⟩:=QY hs hf hsf;exact ⟨e,w,he,hw,G0 (prim_of (UQ hch)) (vR hs hf hw)⟩
structure yG(V:List KV)(bs:List BD):Prop where
 ok: ∀b,b∈bs->yE V b
 two: ∀(i j k:Nat) b1 b2 b3 q1 q2 q3,bs[i]? =some b1->bs[j]? =some b2->bs[k]? =some b3->kR b1.steps q1->kR b2.steps q2->kR b3.steps q3->q1.c=q2.c->q2.c=q3.c->i=j\/j=k\/i=k
 mate: ∀(i:Nat) b q,bs[i]? =some b->kR b.steps q-> ∃(j:Nat) (b':BD) (q':PR),j≠i/\bs[j]? =some b'/\kR b'.steps q'/\q'.c=q.c/\q'.item=q.item/\(q.kind=5->q'.kind=6)/\(q.kind=6->q'.kind=5)
 hi: ∀b,b∈bs-> ∀q,kR b.steps q->2<=q.c
 ne:bs≠[]
inductive qZ(q:PR)(bs:List BD)(n:Int->Nat):PR->Prop
 |clr {p c:PR} {cs:List PR}:p.kind=9->(∀x,x∈c::cs->x.kind=3)->n=(fun _=>0)->qZ q bs n (lA p (c::(cs++[q])))
 |net {L:List PR}:L.length=bs.length->(∀(i:Nat) z b,L[i]? =some z->bs[i]? =some b->mM b n z)->qZ q bs n (iL q L)
def IV(n:Int->Nat)(c:Int):Int->Nat:=fun x=>if x=c then n c+1 else n x
def yF(q:PR)(bs:List BD):Prop:= ∃L:List PR,aD q=iL q L/\L.length=bs.length/\ ∀(i:Nat) z b,L[i]? =some z->bs[i]? =some b->mM b (fun _=>0) z
def rP(bs:List BD)(n:Int->Nat)(i:Nat)(c:Int):Prop:= ∃b t pre s rest q,bs[i]? =some b/\qY b n t pre s rest/\q∈aO s/\q.c=c/\n c=t
section
variable{V:List KV}{bs:List BD}{q:PR}
theorem DJ(h:yG V bs)(hq:q.kind=10){n:Int->Nat}{L:List PR}(hl:L.length=bs.length)(hb: ∀(i:Nat) z b,L[i]? =some z->bs[i]? =some b->mM b n z):aD (iL q L)=iL q L:=by
 have all: ∀z,z∈L->aD z=z/\bI z=false:=fun z hz=>by obtain ⟨i,hi⟩:=al4 hz;have hil:=(ad3.1 hi).1;have hbi:bs[i]? =some bs[i]:=ab6 (by omega);exact br_norm (h.ok _ (aa2 hbi)) (hb i z _ hi hbi)
 cases hL:L with
 |nil=>
  rw [hL] at hl;exact absurd (ai8 hl.symm) h.ne
 |cons z r=>
  rw [hL] at all;exact DR (.inl hq) (fun w hw=>(all w hw).1) (.head _) (all z (.head _)).2
theorem zK{q:PR}{lab:LB}(h:XB q lab):(∃x,lab= .inp q.c x/\q.kind=5)\/ ∃x,lab= .out q.c x/\q.kind=6:=by
 rcases h with ⟨k,x,e⟩|⟨k,x,e⟩
 ·exact .inl ⟨x,e,k⟩
 ·exact .inr ⟨x,e,k⟩
theorem sK(h:yG V bs)(hq:q.kind=10)(hB:yF q bs){st:pX}(hs:d9 V st){n:Int->Nat}{z:PR}(hz:qZ q bs n z){lab:LB}{d:List PX}{y:PR}(hl:LS st z lab d y):
 (lab= .tau/\qZ q bs n y)\/(∃c v i j,lab= .com c v/\2<=c/\qZ q bs (IV n c) y/\i≠j/\rP bs n i c/\rP bs n j c)\/ ∃c x,2<=c/\(lab= .inp c x\/lab= .out c x):=by
 cases hz with
 |clr h9 hc h0=>
  rename_i p c cs;left;cases cs with
  |nil=>
   obtain ⟨e1,e2⟩:=wB h9 (hc c (.head _)) hl;have e3:lA p [q]=aD q:=by show bY _ _=_;rw [eC]
   obtain ⟨L,g1,g2,g3⟩:=hB;rw [e2,e3,g1];refine ⟨e1, .net g2 ?_⟩;rw [h0];exact g3
  |cons x r=>
   obtain ⟨e1,e2⟩:=wB h9 (hc c (.head _)) hl;rw [e2];exact ⟨e1, .clr h9 (fun w hw=>hc w (.tail _ hw)) h0⟩
 |net hL hb=>
  rename_i L;have bat: ∀(i:Nat) z,L[i]? =some z-> ∃b,bs[i]? =some b/\yE V b/\mM b n z:=fun i z hi=>by have hil:=(ad3.1 hi).1;have hbi:bs[i]? =some bs[i]:=ab6 (by omega);exact ⟨_,hbi,h.ok _ (aa2 hbi),hb i z _ hi hbi⟩
  cases hl with
  |leaf _ k=>exact absurd (show sO (iL q L) from .inl hq) k |seq k=>have k:q.kind=9:=k;omega
  |par k hx hy=>
   rename_i x y i;have hx:L[i]? =some x:=hx;obtain ⟨b,hbi,ho,hbr⟩:=bat i x hx;rcases HZ ho hs hbr hy with ⟨e1,e2⟩|⟨t,pre,s,rest,q1,m,hq1,_,hsay,_⟩
   ·left;refine ⟨e1,?_⟩;have hl2:(L.set i y).length=bs.length:=by rw [ah7];exact hL
    have hb2: ∀(j:Nat) z b,(L.set i y)[j]? =some z->bs[j]? =some b->mM b n z:=fun j z b' hj hbj=>by
     rw [ag3] at hj;split at hj
     ·rename_i e;subst e;split at hj
      ·injection hj with hj;rw [hbi] at hbj;injection hbj with hbj;rw [<-hj,<-hbj];exact e2
      ·cases hj
     ·exact hb j z b' hj hbj
    show qZ q bs n (aD (iL q (L.set i y)));rw [DJ h hq hl2 hb2];exact .net hl2 hb2
   ·right;right;have h2:2<=q1.c:=h.hi b (aa2 hbi) q1 (by rw [m.eq];exact (kR.one hq1 _).right);rcases zK hsay with ⟨x,e,_⟩|⟨x,e,_⟩
    ·exact ⟨_,x,h2, .inl e⟩
    ·exact ⟨_,x,h2, .inr e⟩
  |com k hx hy hij h1 h2=>
   rename_i x y x' y' i j c v d1 d2;have hx:L[i]? =some x:=hx;have hy:L[j]? =some y:=hy;obtain ⟨b1,hb1,ho1,hr1⟩:=bat i x hx;obtain ⟨b2,hb2,ho2,hr2⟩:=bat j y hy;rcases HZ ho1 hs hr1 h1 with ⟨e,_⟩|⟨t1,p1,s1,r1,q1,m1,hq1,hn1,hsay1,key1⟩
   ·cases e
   rcases HZ ho2 hs hr2 h2 with ⟨e,_⟩|⟨t2,p2,s2,r2,q2,m2,hq2,hn2,hsay2,key2⟩
   ·cases e
   right;left;have c1:q1.c=c:=by
    rcases zK hsay1 with ⟨x,e,_⟩|⟨x,e,_⟩
    ·cases e
    ·injection e with e _;exact e.symm
   have c2:q2.c=c:=by
    rcases zK hsay2 with ⟨x,e,_⟩|⟨x,e,_⟩
    ·injection e with e _;exact e.symm
    ·cases e
   rw [c1] at hn1 key1;rw [c2] at hn2 key2;have i1:kR b1.steps q1:=by rw [m1.eq];exact (kR.one hq1 _).right
   have i2:kR b2.steps q2:=by rw [m2.eq];exact (kR.one hq2 _).right
   have hge:2<=c:=by rw [<-c1];exact h.hi b1 (aa2 hb1) q1 i1
   refine ⟨c,v,i,j,rfl,hge,?_,hij,⟨b1,t1,p1,s1,r1,q1,hb1,m1,hq1,c1,hn1⟩,⟨b2,t2,p2,s2,r2,q2,hb2,m2,hq2,c2,hn2⟩⟩;have hil:=(ad3.1 hx).1;have hjl:=(ad3.1 hy).1;have oth: ∀r:PR,r.c≠c->IV n c r.c=n r.c:=fun r hr=>iF hr;have hself:IV n c c=n c+1:=iT T;have hl3:((L.set i x').set j y').length=bs.length:=by rw [ah7,ah7];exact hL
   have hb3: ∀(k:Nat) z b,((L.set i x').set j y')[k]? =some z->bs[k]? =some b->mM b (IV n c) z:=fun k z b' hk hbk=>by
    rw [ag3] at hk;split at hk
    ·rename_i e;subst e;rw [iT (by rw [ah7];exact hjl)] at hk;injection hk with hk;rw [hb2] at hbk;injection hbk with hbk;rw [<-hk,<-hbk];exact key2 (IV n c) (by rw [hself,hn2]) fun r _ hr=>oth r hr
    ·rename_i hjk;rw [ag3] at hk;split at hk
     ·rename_i e;subst e;injection hk with hk;rw [hb1] at hbk;injection hbk with hbk;rw [<-hk,<-hbk];exact key1 (IV n c) (by rw [hself,hn1]) fun r _ hr=>oth r hr
     ·rename_i hik;refine (hb k z b' hk hbk).congr fun r hr=>oth r fun e=>?_;rcases h.two i j k b1 b2 b' q1 q2 r hb1 hb2 hbk i1 i2 hr (by rw [c1,c2]) (by rw [c2,e]) with e|e|e
      ·exact hij e
      ·exact hjk e
      ·exact hik e
   show qZ q bs (IV n c) (aD (iL q ((L.set i x').set j y')));rw [DJ h hq hl3 hb3];exact .net hl3 hb3
def RO(bs:List BD)(rk:Int->Nat):Prop:= ∀b,b∈bs-> ∀pre s s2 rest,b.steps=pre++s::s2::rest-> ∀q r,q∈aO s->r∈aO s2->rk q.c<rk r.c
theorem NI(h:yG V bs){rk:Int->Nat}(hr:RO bs rk){b:BD}(hb:b∈bs): ∀(rest pre:List PR) (s:PR),b.steps=pre++s::rest-> ∀q r,q∈aO s->kR rest r->rk q.c<rk r.c
 | [],pre,s,_,q,r,_,hi=>absurd hi BE |s2::rest,pre,s,e,q,r,hq,hi=>by
  rcases j0.1 hi with hi|hi
  ·exact hr b hb pre s s2 rest e q r hq hi
  ·have hn:=(h.ok b hb).st s2 (by rw [e];exact ae6 _ (.tail _ (.head _)));cases hc:aO s2 with
   |nil=>exact absurd hc hn.ne |cons q2 r2=>
    have h2:q2∈aO s2:=by rw [hc];exact .head _
    have h1:=hr b hb pre s s2 rest e q q2 hq h2;have h3:=NI h hr hb rest (pre++[s]) s2 (by rw [e,ab7];rfl) q2 r h2 hi;omega
theorem net_go(h:yG V bs)(hq:q.kind=10){rk:Int->Nat}{R:Nat}(hr:RO bs rk)(hR: ∀c,rk c<=R){st:pX}(hs:d9 V st){n:Int->Nat}{z:PR}(hz:qZ q bs n z): ∃lab d y,LS st z lab d y/\(lab= .tau\/ ∃c v,lab= .com c v):=by
 cases hz with
 |clr h9 hc h0=>
  rename_i p c cs;cases cs with
  |nil=>obtain ⟨d,y,hl⟩:=H6 (z:=q) (r:=[]) h9 (hc c (.head _)) st;exact ⟨_,d,y,hl, .inl rfl⟩
  |cons x r=>obtain ⟨d,y,hl⟩:=H6 (z:=x) (r:=r++[q]) h9 (hc c (.head _)) st;exact ⟨_,d,y,hl, .inl rfl⟩
 |net hL hb=>
  rename_i L;have hpk:sO (iL q L):= .inl hq;apply Classical.byContradiction;intro hno;have wait: ∀(i:Nat) b,bs[i]? =some b-> ∃z t pre s rest,L[i]? =some z/\qY b n t pre s rest/\ ∀q,q∈aO s->n q.c=t->(q.kind=5-> ∀x,cL q.item x=true-> ∃d y,LS st z (.inp q.c x) d y)/\(q.kind=6-> ∃x d y,LS st z (.out q.c x) d y/\cL q.item x=true):=fun i b hbi=>by
   have hil:=(ad3.1 hbi).1;have hz:L[i]? =some L[i]:=ab6 (by omega);rcases br_go (h.ok b (aa2 hbi)) hs (hb i _ b hz hbi) with ⟨d,y,hl⟩|⟨t,pre,s,rest,m,g⟩
   ·exact (hno ⟨_,d,_,LS.par (p:=iL q L) hpk hz hl, .inl T⟩).elim
   ·exact ⟨_,t,pre,s,rest,hz,m,g⟩
  have key: ∀(N i:Nat) b z t pre s rest q1,bs[i]? =some b->L[i]? =some z->qY b n t pre s rest->q1∈aO s->n q1.c=t->((q1.kind=5-> ∀x,cL q1.item x=true-> ∃d y,LS st z (.inp q1.c x) d y)/\(q1.kind=6-> ∃x d y,LS st z (.out q1.c x) d y/\cL q1.item x=true))->t*(R+1)+rk q1.c<=N->False:=by
   intro N
   induction N using Nat.strongRecOn with
   |ind N ih=>
    intro i b z t pre s rest q1 hbi hz m hq1 hn1 g1 hN;have hi1:kR b.steps q1:=by rw [m.eq];exact (kR.one hq1 _).right
    obtain ⟨j,b',q2,hji,hbj,hi2,hc,hit,k56,k65⟩:=h.mate i b q1 hbi hi1;obtain ⟨z',t',pre',s',rest',hz',m',g'⟩:=wait j b' hbj;obtain ⟨p,hp,hnp⟩:=m'.live;have hbm:=aa2 hbj;have hRp:=hR p.c;have hRq:=hR q1.c;have low:t=t'+1->False:=fun e=>by
     have:t'*(R+1)+rk p.c<t*(R+1)+rk q1.c:=by rw [e,Nat.add_mul];omega
     exact ih (t'*(R+1)+rk p.c) (by omega) j b' z' t' pre' s' rest' p hbj hz' m' hp hnp (g' p hp hnp) (aa6 _)
    rw [m'.eq] at hi2;rcases IW.1 hi2 with hi2|hi2
    ·have:=m'.pre q2 hi2;rw [hc] at this;exact low (by omega)
    ·rcases j0.1 hi2 with hi2|hi2
     ·rcases m'.now q2 hi2 with e|e
      ·have g2:=g' q2 hi2 e;have hk:=((m.st (h.ok b (aa2 hbi))).comm q1 hq1).k;rcases hk with k5|k6
       ·obtain ⟨x,d,y,hl,hf⟩:=g2.2 (k56 k5);obtain ⟨d2,y2,hl2⟩:=g1.1 k5 x (by rw [<-hit];exact hf);rw [hc] at hl;exact hno ⟨_,_,_,LS.com (p:=iL q L) hpk hz' hz hji hl hl2, .inr ⟨_,_,rfl⟩⟩
       ·obtain ⟨x,d,y,hl,hf⟩:=g1.2 k6;obtain ⟨d2,y2,hl2⟩:=g2.1 (k65 k6) x (by rw [hit];exact hf);rw [hc] at hl2;exact hno ⟨_,_,_,LS.com (p:=iL q L) hpk hz hz' (Ne.symm hji) hl hl2, .inr ⟨_,_,rfl⟩⟩
      ·rw [hc] at e;exact low (by omega)
     ·have e:=m'.rest q2 hi2;rw [hc] at e;have hlt:=NI h hr hbm rest' pre' s' m'.eq p q2 hp hi2;rw [hc] at hlt;have et:t=t':=by omega
      exact ih (t'*(R+1)+rk p.c) (by rw [et] at hN;omega) j b' z' t' pre' s' rest' p hbj hz' m' hp hnp (g' p hp hnp) (aa6 _)
  cases hbs:bs with
  |nil=>exact h.ne hbs |cons b r=>
   have hb0:bs[0]? =some b:=by rw [hbs];rfl
   obtain ⟨z,t,pre,s,rest,hz,m,g⟩:=wait 0 b hb0;obtain ⟨p,hp,hnp⟩:=m.live;exact key _ 0 b z t pre s rest p hb0 hz m hp hnp (g p hp hnp) (aa6 _)
end
section
variable{V:List KV}{bs:List BD}{q:PR}
def HP(bs:List BD)(n n':Int->Nat)(t:TR):Prop:=(t=[]/\n'=n)\/ ∃c v i j,t=[(c,v)]/\n'=IV n c/\i≠j/\rP bs n i c/\rP bs n j c
theorem gs_net(h:yG V bs)(hq:q.kind=10)(hB:yF q bs){n:Int->Nat}{s:ST}(hs:d9 V s.store)(hz:qZ q bs n s.root){t:TR}{s':ST}(hg:GS s t s'): ∃n',qZ q bs n' s'.root/\HP bs n n' t:=by
 cases hg with
 |tau hl=>
  rcases sK h hq hB hs hz hl with ⟨_,e⟩|⟨c,v,i,j,e,_⟩|⟨c,x,_,e|e⟩
  ·exact ⟨n,e, .inl ⟨rfl,rfl⟩⟩
  ·cases e
  ·cases e
  ·cases e
 |com hl=>
  rename_i c v d q;rcases sK h hq hB hs hz hl with ⟨e,_⟩|⟨c',v',i,j,e,_,g1,g2,g3,g4⟩|⟨c,x,_,e|e⟩
  ·cases e
  ·injection e with e1 e2;subst e1;exact ⟨_,g1, .inr ⟨c,v,i,j,rfl,rfl,g2,g3,g4⟩⟩
  ·cases e
  ·cases e
 |inp hi hl=>
  rcases sK h hq hB hs hz hl with ⟨e,_⟩|⟨c',v',i,j,e,_⟩|⟨c,x,hc,e|e⟩
  ·cases e
  ·cases e
  ·injection e with e _;omega
  ·cases e
 |out hl=>
  rcases sK h hq hB hs hz hl with ⟨e,_⟩|⟨c',v',i,j,e,_⟩|⟨c,x,hc,e|e⟩
  ·cases e
  ·cases e
  ·cases e
  ·injection e with e _;omega
structure OU(k:KN)(q:PR)(bs:List BD)(n:Int->Nat)(s:ST):Prop where
 srch:FB k s
 net:qZ q bs n s.root
theorem OU.step{k:KN}(h:yG k.vars bs)(hq:q.kind=10)(hB:yF q bs){n:Int->Nat}{s:ST}(r:OU k q bs n s){m:MV}(hm:m∈hI s): ∃n',OU k q bs n' m.next/\HP bs n n' (Y0 m):=by obtain ⟨n',h1,h2⟩:=gs_net h hq hB r.srch.good.st r.net (real_gs r.srch m hm);exact ⟨n',⟨r.srch.step hm,h1⟩,h2⟩
theorem OU.go{k:KN}(h:yG k.vars bs)(hq:q.kind=10)(hB:yF q bs){rk:Int->Nat}{R:Nat}(hr:RO bs rk)(hR: ∀c,rk c<=R){n:Int->Nat}{s:ST}(r:OU k q bs n s):hI s≠[]:=by
 have hs:=r.srch.good.st;have h1: ∀c v d q,LS s.store s.root (.com c v) d q->c≠1:=fun c v d y hl=>by
  rcases sK h hq hB hs r.net hl with ⟨e,_⟩|⟨c',v',i,j,e,hc,_⟩|⟨c,x,_,e|e⟩
  ·cases e
  ·injection e with e1 e2;omega
  ·cases e
  ·cases e
 obtain ⟨lab,d,y,hl,hlab⟩:=net_go h hq hr hR hs r.net;have hg: ∃t s',GS s t s':=by
  rcases hlab with rfl|⟨c,v,rfl⟩
  ·exact ⟨_,_, .tau hl⟩
  ·exact ⟨_,_, .com hl⟩
 obtain ⟨t,s',hg⟩:=hg;obtain ⟨m,hm,_⟩:=ZE h1 hg;exact List.ne_nil_of_mem hm
def Prec(bs:List BD)(d c:Int):Prop:= ∃b,b∈bs/\ ∃pre s s2 rest q r,b.steps=pre++s::s2::rest/\q∈aO s/\r∈aO s2/\q.c=d/\r.c=c
theorem HF{ss:List PR}(h:((ss.flatMap aO).map PR.c).Nodup): ∀{i j:Nat} {u w q r:PR},ss[i]? =some u->ss[j]? =some w->q∈aO u->r∈aO w->q.c=r.c-> ¬i<j:=by
 intro i j u w q r hu hw hq hr e hij;rw [<-List.take_append_drop j ss] at h;refine zA h (a:=ss.take j) (b:=ss.drop j) ⟨u,?_,hq⟩ ⟨w,?_,hr⟩ e
 ·refine aa2 (i:=i) ?_;rw [List.getElem?_take,iT hij];exact hu
 ·refine aa2 (i:=0) ?_;rw [List.getElem?_drop];exact hw
theorem U8(h:yG V bs){n:Int->Nat}{k:Nat}{c:Int}{b:BD}{pre rest:List PR}{s s2 q r:PR}(hb:bs[k]? =some b)(e:b.steps=pre++s::s2::rest)(hq:q∈aO s)(hr:r∈aO s2)(hc:r.c=c)(ha:rP bs n k c):n q.c=n c+1:=by
 obtain ⟨b',t,pre',s',rest',q',hb',m,hq',hc',hn⟩:=ha;rw [hb] at hb';injection hb' with hb';subst hb';have hnod:=(h.ok b (aa2 hb)).nod;have h1:b.steps[pre.length]? =some s:=by rw [e,ad1 (aa6 _),ah9];rfl
 have h2:b.steps[pre.length+1]? =some s2:=by rw [e,ad1 (by omega),show pre.length+1-pre.length=1 by omega];rfl
 have h3:b.steps[pre'.length]? =some s':=by rw [m.eq,ad1 (aa6 _),ah9];rfl
 have e1:=HF hnod h2 h3 hr hq' (by rw [hc,hc']);have e2:=HF hnod h3 h2 hq' hr (by rw [hc,hc']);have hp:s∈pre':=by refine aa2 (i:=pre.length) ?_;rw [m.eq,List.getElem?_append_left (by omega)] at h1;exact h1
 rw [m.pre q ⟨s,hp,hq⟩,hn]
theorem U0(h:yG V bs){l:List Int}(hl: ∀c,c∈l-> ∃d,d∈l/\Prec bs d c){n:Int->Nat}(h0: ∀c,c∈l->n c=0){i j:Nat}{c:Int}(hij:i≠j)(hi:rP bs n i c)(hj:rP bs n j c)(hc:c∈l):False:=by
 obtain ⟨d,hd,b,hb,pre,s,s2,rest,q,r,e,hq,hr,eq,er⟩:=hl c hc;obtain ⟨k,hk⟩:=al4 hb;have key:rP bs n k c->False:=fun ha=>by have:=U8 h hk e hq hr er ha;rw [eq,h0 d hd] at this;omega
 have hi':=hi;have hj':=hj;obtain ⟨b1,t1,p1,s1,r1,q1,hb1,m1,hq1,hc1,_⟩:=hi';obtain ⟨b2,t2,p2,s3,r2,q2,hb2,m2,hq2,hc2,_⟩:=hj';rcases h.two i j k b1 b2 b q1 q2 r hb1 hb2 hk (by rw [m1.eq];exact (kR.one hq1 _).right) (by rw [m2.eq];exact (kR.one hq2 _).right) (by rw [e];exact (kR.right (j0.2 (.inr (.one hr _))))) (by rw [hc1,hc2]) (by rw [hc2,er]) with e|e|e
 ·exact hij e
 ·rw [e] at hj;exact key hj
 ·rw [e] at hi;exact key hi
theorem Z5{l:List Int}{n n':Int->Nat}{t:TR}(hm:HP bs n n' t)(h:yG V bs)(hl: ∀c,c∈l-> ∃d,d∈l/\Prec bs d c)(h0: ∀c,c∈l->n c=0):(∀c,c∈l->n' c=0)/\ ∀c v,(c,v)∈t->c∉l:=by
 rcases hm with ⟨rfl,rfl⟩|⟨c,v,i,j,rfl,rfl,hij,hi,hj⟩
 ·exact ⟨h0,fun c v hx=>by cases hx⟩
 ·have hc:c∉l:=fun hc=>U0 h hl h0 hij hi hj hc;refine ⟨fun x hx=>?_,fun x w hx=>?_⟩
  ·unfold IV;rw [iF (fun e:x=c=>hc (by rw [<-e];exact hx))];exact h0 x hx
  ·rw [aa3] at hx;injection hx with hx _;rw [hx];exact hc
end
abbrev cV:=BitVec 64
abbrev rD(b:cV):AV:= .v (.int .u64 (b.toNat:Int))
theorem lG{a:Int}{b:cV}(h:a=b.toNat):AV.v (.int .u64 a)=rD b:=by rw [h]
theorem J3(b:cV):IntKind.u64.wrap (b.toNat:Int)=b.toNat:=by have:=b.isLt;rw [B1];omega
theorem pN(b:cV):BitVec.ofInt 64 (b.toNat:Int)=b:=by apply BitVec.eq_of_toNat_eq;simp
theorem uand(a b:cV):bitsOf .and .u64 (a.toNat:Int) (b.toNat:Int)=((a&&&b).toNat:Int):=by show IntKind.u64.wrap ((BitVec.ofInt 64 (a.toNat:Int)&&&BitVec.ofInt 64 (b.toNat:Int)).toNat:Int)=_;rw [pN,pN];exact J3 _
theorem uor(a b:cV):bitsOf .or .u64 (a.toNat:Int) (b.toNat:Int)=((a|||b).toNat:Int):=by show IntKind.u64.wrap ((BitVec.ofInt 64 (a.toNat:Int)|||BitVec.ofInt 64 (b.toNat:Int)).toNat:Int)=_;rw [pN,pN];exact J3 _
theorem uandn(a b:cV):bitsOf .andNot .u64 (a.toNat:Int) (b.toNat:Int)=((a&&& ~~~b).toNat:Int):=by show IntKind.u64.wrap ((BitVec.ofInt 64 (a.toNat:Int)&&& ~~~BitVec.ofInt 64 (b.toNat:Int)).toNat:Int)=_;rw [pN,pN];exact J3 _
def mQ(d:Nat):cV:=1#64<<<d
theorem ushl(d:Nat)(h:d<64):J7 .shl .u64 1 (d:Int)=((mQ d).toNat:Int):=by simp only [J7,show IntKind.u64.bits=64 from rfl,ad9,ai3 (as5 h),mQ];rw [B1,BitVec.toNat_shiftLeft];simp [Nat.shiftLeft_eq]
theorem ushr(a:cV)(d:Nat)(h:d<64):J7 .shr .u64 (a.toNat:Int) (d:Int)=((a>>>d).toNat:Int):=by
 simp only [J7,show IntKind.u64.bits=64 from rfl,ad9,ai3 (as5 h)];rw [BitVec.toNat_ushiftRight,Nat.shiftRight_eq_div_pow];have h2:(0:Int)<=2^d:=Int.le_of_lt (Int.pow_pos (by omega));rw [Int.fdiv_eq_ediv_of_nonneg _ h2]
 push_cast
 rfl
theorem XR(a:cV)(d:Nat):((((a>>>d)&&&1#64).toNat:Int)==1)=a.getLsbD d:=by
 have h1:((a>>>d)&&&1#64).toNat=(a.toNat>>>d) % 2:=by rw [BitVec.toNat_and,BitVec.toNat_ushiftRight];simp [Nat.and_one_is_mod]
 rw [h1,ab8];simp only [beq_iff_eq,BitVec.getLsbD,Nat.testBit,Nat.and_comm 1,Nat.and_one_is_mod];have:a.toNat>>>d % 2<2:=Nat.mod_lt _ (by omega);simp only [bne_iff_ne];omega
theorem rW(d i:Nat)(hd:d<64):(mQ d).getLsbD i=decide (i=d):=by simp only [mQ,BitVec.getLsbD_shiftLeft];rw [ab8];simp;omega
def upd{α:Type}(g:Nat->α)(x:Nat)(v:α):Nat->α:=fun i=>if i=x then v else g i
abbrev arrL(f:Nat->AV):List AV:=(List.range 64).map f
theorem cR{α:Type}{n i:Nat}(f:Nat->α)(h:i<n):((List.range n).map f)[i]? =some (f i):=by rw [ab9,List.getElem?_range h];rfl
theorem tK{α β:Type}{n:Nat}(f:α->β)(g:Nat->α)(x:Nat)(v:α):((List.range n).map fun i=>f (g i)).set x (f v)=(List.range n).map fun i=>f (upd g x v i):=by
 apply af2;intro i;rw [ag3]
 by_cases h:i<n
 ·rw [cR _ h,aa0,ai6]
  by_cases hx:x=i
  ·subst hx;simp [upd,h]
  ·rw [iF hx,cR _ h,upd,iF (fun e=>hx e.symm)]
 ·rw [ab4 (by simp;omega),ab4 (by simp;omega)];simp;omega
abbrev l7(g:Nat->cV):List AV:=arrL fun i=>rD (g i)
abbrev tY(g:Nat->Int):List AV:=arrL fun i=>AI (g i)
theorem xA(x:Nat):0+(x:Int).toNat*1=x:=by simp
theorem cE(f:Nat->AV):(arrL f).length=64:=by rw [aa0,ai6]
theorem xM(g:Nat->cV):lY (l7 g)=true:=M8 fun _=>rfl
theorem IX(g:Nat->Int):lY (tY g)=true:=M8 fun _=>rfl
abbrev bX:=List (List (List Int))
abbrev gG(l:List Int):AV:= .sl 1 (l.map AI) none
abbrev kC(p:List (List Int)):AV:= .sl 1 (p.map gG) none
abbrev c0(c:bX):AV:= .sl 1 (c.map kC) none
abbrev P7(n:Int)(c:bX):AV:= .ag [AI n,c0 c]
def rC(p:List (List Int)):Nat:=(p.map fun s=>1+s.length).sum
def mL(c:bX):Nat:=(c.map rC).sum
theorem EF(s:List Int)(p:List (List Int)):rC (s::p)=1+s.length+rC p:=by simp [rC]
theorem EE(p:List (List Int))(c:bX):mL (p::c)=rC p+mL c:=by simp [mL]
structure p8(c:bX):Prop where
 procs:c.length<=20
 steps: ∀p,p∈c->p.length<=70
 size:mL c<=200
theorem WI{p:List (List Int)}{s:List Int}(h:s∈p):s.length<rC p+1:=by
 induction p with
 |nil=>cases h |cons x p ih=>rw [EF];rcases ab0.1 h with rfl|h;omega;have:=ih h;omega
theorem WG{c:bX}{p:List (List Int)}(h:p∈c):rC p<=mL c:=by
 induction c with
 |nil=>cases h |cons x c ih=>rw [EE];rcases ab0.1 h with rfl|h;omega;have:=ih h;omega
theorem p8.row{c:bX}(h:p8 c){p:List (List Int)}{s:List Int}(hp:p∈c)(hs:s∈p):s.length<=200:=by have h1:=WI hs;have h2:=WG hp;have h3:=h.size;omega
structure uJ(c:bX):Prop where
 procs:c.length<=281474976710656
 steps: ∀p,p∈c->p.length<=281474976710656
 uses: ∀p,p∈c-> ∀s,s∈p->s.length<=281474976710656
def TV(a b:List Int):Bool:=decide (a=b)
theorem same_p(a b:List Int)(ha:a.length<=281474976710656):Pure prog a9 11 [gG a,gG b] (AB (TV a b)):=by
 have hal:((a.map AI).length:Int)=a.length:=by rw [aa0]
 have hbl:((b.map AI).length:Int)=b.length:=by rw [aa0]
 by_cases hl:a.length=b.length
 case neg=>
  refine P_ func11 26 fun _ _ _ _=>?_;refine y_ ?_;refine e_ 10 rfl (x':=AB true) (aA (by simp;omega)) ?_;refine R_ ?_;refine Sb.eq (aA ?_);simp [TV];rintro rfl;exact hl rfl
 refine P_ func11 26 fun _ _ _ _=>?_;refine y_ ?_;refine e_ 10 T (x':=AB false) (aA (by simp;omega)) ?_;refine A.ay [0,1,5] T ?_;refine A.ar (ι:=Nat) (fun i=>(⟨[(0,gG a),(1,gG b),(5,AI (i:Nat))],[]⟩,[])) (fun i=>i<=a.length/\a.take i=b.take i) (fun i=>a.length-i) 0 ⟨by omega,by simp⟩ T fun i hi ih=>?_;refine y_ ?_;refine k_ (fun hc=>?_) fun hc=>?_
 ·simp at hc;refine aX hc fun x hx=>?_;refine ac7 (dC (l:=b) (i:=i) (by omega)) fun y hy=>?_;refine y_ ?_;refine d_ 8 [0,1,2,3,4,5,6,7] [] ?_;refine rM T (aR hx) T ?_;refine rM T (aR hy) T ?_;refine z_ ?_;refine k_ (fun hc=>?_) fun hc=>?_
  ·simp at hc;refine y_ ?_;refine R_ ?_;refine Sb.eq (aA ?_);simp [TV];rintro rfl;rw [hx] at hy;injection hy with hy;exact hc hy
  ·simp at hc;refine y_ ?_;refine vI 5 i ?_;refine u_ (ih (i+1) ⟨by omega,?_⟩ (by omega));rw [ac6,ac6,hi.2,hx,hy,hc]
 ·simp at hc;have:i=a.length:=by omega
  subst this;have h2:=hi.2;rw [ac4,hl,ac4] at h2;refine y_ ?_;refine R_ ?_;refine Sb.eq (aA ?_);simp [TV,h2]
def InB(c:bX):Prop:= ∀p,p∈c-> ∀s,s∈p-> ∀x,x∈s->0<=x/\x<64
def addD(x:Nat)(g:Nat->cV)(d:Int):Nat->cV:=upd g x (g x|||mQ d.toNat)
def UF(a:List Int)(g:Nat->cV)(x:Int):Nat->cV:=a.foldl (addD x.toNat) g
def B7(g:Nat->cV)(ab:List Int×List Int):Nat->cV:=ab.2.foldl (UF ab.1) g
def B6(g:Nat->cV)(p:List (List Int)):Nat->cV:=(p.zip p.tail).foldl B7 g
def beforeF(c:bX):Nat->cV:=c.foldl B6 fun _=>0
theorem zip_at{p:List (List Int)}{j:Nat}{a b:List Int}(ha:p[j]? =some a)(hb:p[j+1]? =some b):(p.zip p.tail)[j]? =some (a,b):=by rw [List.getElem?_zip_eq_some];exact ⟨ha,by rw [List.getElem?_tail];exact hb⟩
theorem DH{x:Int}(h:0<=x/\x<64): ∃n:Nat,n<64/\x=n:=⟨x.toNat,by omega,by omega⟩
theorem CB(n:Int)(c:bX)(hs:uJ c)(hb:InB c):Pure prog a9 17 [P7 n c] (.ag (l7 (beforeF c))):=by
 have hcl:((c.map kC).length:Int)=c.length:=by rw [aa0]
 refine P_ func17 53 fun _ _ _ _=>?_
 (refine b_ fun bx=>?_;refine b_ fun bx=>?_;refine y_ ?_)
 refine A.db (.ag (l7 fun _=>0)) (by kernel_rfl) ?_;refine A.ad 12 T (x':=AI (c.length:Nat)) (aM (by rw [aa0])) ?_;refine A.ay [2,11,12,13] T ?_
 refine A.ar (ι:=Nat×(Nat->cV)) (fun p=>(⟨[(2, .v (.pointer (some ⟨_,0,none⟩))),(11,c0 c),(12,AI (c.length:Nat)),(13,AI (p.1:Nat))],[]⟩,[.box _ (.ag (l7 p.2)), .box _ (.ag [AI n,c0 c])]))
  (fun p=>p.1<=c.length/\(c.drop p.1).foldl B6 p.2=beforeF c) (fun p=>c.length-p.1) (0,fun _=>0) ⟨by omega,rfl⟩ T fun q hi ih=>?_
 obtain ⟨i,g0⟩:=q;simp only at hi ih⊢;have hcb:=hs.procs;refine y_ ?_;refine k_ (fun hc=>?_) fun hc=>?_
 ·simp at hc;refine aX hc fun p hp=>?_;have hpm:p∈c:=aa2 hp;have hpl:((p.map gG).length:Int)=p.length:=by rw [aa0]
  have hpb:=hs.steps p hpm;refine y_ ?_;refine i_ T (aR hp) T ?_;refine A.ay [2,4,5,11,12,13] T ?_
  refine A.ar (ι:=Nat×(Nat->cV)) (fun q=>(⟨[(2, .v (.pointer (some ⟨_,0,none⟩))),(4,kC p),(5,AI ((q.1+1:Nat):Int)),(11,c0 c),(12,AI (c.length:Nat)),(13,AI (i:Nat))],[]⟩,[.box _ (.ag (l7 q.2)), .box _ (.ag [AI n,c0 c])]))
   (fun q=>q.1<=p.length/\((p.zip p.tail).drop q.1).foldl B7 q.2=B6 g0 p) (fun q=>p.length-q.1) (0,g0) ⟨by omega,rfl⟩ T fun q hj jh=>?_
  obtain ⟨j,g1⟩:=q;simp only at hj jh⊢;refine y_ ?_;refine k_ (fun hc=>?_) fun hc=>?_
  ·simp at hc;refine ac7 (dC (l:=p) (i:=j+1) (by omega)) fun b hb1=>?_;refine ac7 (dC (l:=p) (i:=j) (by omega)) fun a ha1=>?_;have hbm:b∈p:=aa2 hb1;have ham:a∈p:=aa2 ha1;have hab:=hs.uses p hpm a ham;have hbb:=hs.uses p hpm b hbm;have hz:=zip_at ha1 hb1;have h2:=hj.2;rw [bS hz,ah1] at h2;refine y_ ?_;refine i_ T (aR hb1) T ?_;refine A.ad 27 T (x':=AI (b.length:Nat)) (aM (by rw [aa0])) ?_;refine A.ay [2,4,5,11,12,13,26,27,28] T ?_
   refine A.ar (ι:=Nat×(Nat->cV)) (fun q=>(⟨[(2, .v (.pointer (some ⟨_,0,none⟩))),(4,kC p),(5,AI ((j+1:Nat):Int)),(11,c0 c),(12,AI (c.length:Nat)),(13,AI (i:Nat)),(26,gG b),(27,AI (b.length:Nat)),(28,AI (q.1:Nat))],[]⟩,[.box _ (.ag (l7 q.2)), .box _ (.ag [AI n,c0 c])]))
    (fun q=>q.1<=b.length/\(b.drop q.1).foldl (UF a) q.2=B7 g1 (a,b)) (fun q=>b.length-q.1) (0,g1) ⟨by omega,rfl⟩ T fun q hk kh=>?_
   obtain ⟨k1,g2⟩:=q;simp only at hk kh⊢;refine y_ ?_;refine k_ (fun hc=>?_) fun hc=>?_
   ·simp at hc;refine aX hc fun x0 hx0=>?_;refine ac7 (DH (hb p hpm b hbm x0 (aa2 hx0))) fun x hx1=>?_;have hx:b[k1]? =some (x:Int):=by rw [hx0,hx1.2]
    have h3:=hk.2;rw [bS hx,ah1] at h3;refine y_ ?_;refine i_ T (aR hx) T ?_;refine A.ad 34 T (x':=AI (j:Nat)) (aM (by rw [sU (by unfold i64;omega)];omega)) ?_;refine i_ T (aR ha1) T ?_;refine A.ad 37 T (x':=AI (a.length:Nat)) (aM (by rw [aa0])) ?_;refine A.ay [2,4,5,7,11,12,13,26,27,28,36,37,38] T ?_
    refine A.ar (ι:=Nat×(Nat->cV)) (fun q=>(⟨[(2, .v (.pointer (some ⟨_,0,none⟩))),(4,kC p),(5,AI ((j+1:Nat):Int)),(7,AI (x:Nat)),(11,c0 c),(12,AI (c.length:Nat)),(13,AI (i:Nat)),(26,gG b),(27,AI (b.length:Nat)),(28,AI (k1:Nat)),(36,gG a),(37,AI (a.length:Nat)),(38,AI (q.1:Nat))],[]⟩,[.box _ (.ag (l7 q.2)), .box _ (.ag [AI n,c0 c])]))
     (fun q=>q.1<=a.length/\(a.drop q.1).foldl (addD x) q.2=UF a g2 x) (fun q=>a.length-q.1) (0,g2) ⟨by omega,by simp [UF]⟩ T fun q hm mh=>?_
    obtain ⟨m1,g3⟩:=q;simp only at hm mh⊢;refine y_ ?_;refine k_ (fun hc=>?_) fun hc=>?_
    ·simp at hc;refine aX hc fun d0 hd0=>?_;refine ac7 (DH (hb p hpm a ham d0 (aa2 hd0))) fun d hd1=>?_;have hd:a[m1]? =some (d:Int):=by rw [hd0,hd1.2]
     have h4:=hm.2;rw [bS hd,ah1] at h4;refine y_ ?_;refine i_ T (aR hd) T ?_;refine d_ 5 [0,1,2,3,4] [] ?_;refine WA.xa T (p:=x) (by omega) (by omega) (xA x) T ?_;refine WA.ra T (cR _ hx1.1) T ?_;refine w_ ?_;refine WA.shift T T T T T T T (by omega) ?_;refine WA.nil (l:=[]) T ?_;refine e_ 46 T (x':=rD (mQ d)) (lG (ushl d hd1.1)) ?_;refine A.ad 47 T (x':=rD (g3 x|||mQ d)) (lG (uor _ _)) ?_;refine A.xa T (p:=x) (by omega) (by omega) (xA x) T ?_;refine A.wa T T (by simp;omega) (tK rD g3 x (g3 x|||mQ d)) ?_;refine y_ ?_;refine vI 38 m1 ?_;refine u_ (mh (m1+1,upd g3 x (g3 x|||mQ d)) ⟨by omega,h4⟩ (by simp only;omega))
    ·simp at hc;have hml:m1=a.length:=by omega
     have h4:=hm.2;rw [hml,ad2,an0] at h4;refine y_ ?_;refine vI 28 k1 ?_;refine u_ (kh (k1+1,g3) ⟨by omega,by rw [h4];exact h3⟩ (by simp only;omega))
   ·simp at hc;have hkl:k1=b.length:=by omega
    have h3:=hk.2;rw [hkl,ad2,an0] at h3;refine y_ ?_;refine A.ad 5 T (x':=AI ((j+1+1:Nat):Int)) (qG (j+1) (by omega)) ?_;refine u_ (jh (j+1,g2) ⟨by omega,by rw [h3];exact h2⟩ (by simp only;omega))
  ·simp at hc;have hzl:(p.zip p.tail).drop j=[]:=List.drop_eq_nil_of_le (by rw [List.length_zip,List.length_tail];omega);have h2:=hj.2;rw [hzl,an0] at h2;have h1:=hi.2;rw [bS hp,ah1] at h1;refine y_ ?_;refine vI 13 i ?_;refine u_ (ih (i+1,g1) ⟨by omega,by rw [h2];exact h1⟩ (by simp only;omega))
 ·simp at hc;have hil:i=c.length:=by omega
  have h1:=hi.2;rw [hil,ad2,an0] at h1;(repeat refine A.s T ?_);refine A.la T (cE _) T ?_;refine A.wl T (xM _) (cE _) (cE _) ?_;refine y_ ?_;refine A.gh (Λ':=[]) T T T T (I6 T (cE _)) (ae1 _) ⟨?_,rfl⟩;rw [h1];exact .refl
def OR(P:Nat->Bool)(m:Nat):cV:=(List.range m).foldl (fun w x=>if P x then w|||mQ x else w) 0
theorem xB(P:Nat->Bool)(m:Nat):OR P (m+1)=if P m then OR P m|||mQ m else OR P m:=by rw [OR,am4,aj2];rfl
theorem TG(P:Nat->Bool)(m:Nat)(hm:m<=64)(x:Nat):(OR P m).getLsbD x=(decide (x<m)&&P x):=by
 induction m with
 |zero=>simp [OR] |succ m ih=>
  have ih:=ih (by omega);rw [xB]
  by_cases hx:x=m
  ·subst hx;cases hp:P x
   ·simp [ih,hp]
   ·simp [BitVec.getLsbD_or,ih,hp,rW _ _ (show x<64 by omega)]
  ·have h1:decide (x<m+1)=decide (x<m):=by rw [ab8];simp;omega
   cases hp:P m
   ·simp [ih,h1]
   ·simp [BitVec.getLsbD_or,ih,h1,rW _ _ (show m<64 by omega),hx]
theorem RZ(w:cV):w=0↔ ∀x,x<64->w.getLsbD x=false:=by
 constructor
 ·rintro rfl x _;simp
 ·intro h;apply BitVec.eq_of_getLsbD_eq;intro i hi;simp [h i hi]
def nT(P:Nat->Bool)(k:Int)(n:Nat->Int)(m:Nat):Nat->Int:=fun y=>if decide (y<m)&&P y then k else n y
theorem UZ(P:Nat->Bool)(k:Int)(n:Nat->Int):nT P k n 0=n:=by funext y;simp [nT]
theorem cutU_at(P:Nat->Bool)(k:Int)(n:Nat->Int)(m:Nat):nT P k n m m=n m:=by simp [nT]
theorem YD{P:Nat->Bool}{k:Int}{n:Nat->Int}{m:Nat}(h:P m=true):upd (nT P k n m) m k=nT P k n (m+1):=by
 funext y;simp only [upd,nT]
 by_cases hy:y=m
 ·subst hy;simp [h]
 ·have h1:decide (y<m+1)=decide (y<m):=by rw [ab8];simp;omega
  rw [iF hy,h1]
theorem LA{P:Nat->Bool}{k:Int}{n:Nat->Int}{m:Nat}(h:P m=false):nT P k n m=nT P k n (m+1):=by
 funext y;simp only [nT]
 by_cases hy:y=m
 ·subst hy;simp [h]
 ·have h1:decide (y<m+1)=decide (y<m):=by rw [ab8];simp;omega
  rw [h1]
def gN(s:Nat->cV)(w:cV)(n:Nat->Int)(x:Nat):Bool:=n x==0&&(s x&&&w) !=0
def LW(s:Nat->cV):Nat->(Nat->Int)->cV->Int->Nat->Int
 |0,n,_,_=>n |f+1,n,w,k=>if w=0 then n else LW s f (nT (gN s w n) k n 64) (OR (gN s w n) 64) (k+1)
def eI(s:Nat->cV)(to:Nat):Nat->Int:=LW s 66 (fun _=>0) (mQ to) 1
def sX(n:Nat->Int):Nat:=(List.range 64).countP fun x=>n x==0
theorem FZ(s:Nat->cV)(f:Nat)(n:Nat->Int)(k:Int):LW s f n 0 k=n:=by cases f<;>simp [LW]
theorem UY{α:Type}{p q:α->Bool}{l:List α}(h: ∀x,x∈l->q x=true->p x=true){x:α}(hx:x∈l)(h1:p x=true)(h2:q x=false):l.countP q<l.countP p:=by
 induction l with
 |nil=>cases hx |cons y l ih=>
  have hle:l.countP q<=l.countP p:=List.countP_mono_left fun z hz=>h z (aa8 _ hz);rw [an4,an4];rcases ab0.1 hx with rfl|hx
  ·rw [h1,h2];simp;omega
  ·have:=ih (fun z hz=>h z (aa8 _ hz)) hx;have h3:=h y (aa4 ..);cases hq:q y
   ·simp;split<;>omega
   ·rw [h3 hq];simp;omega
theorem OO{s:Nat->cV}{w:cV}{n:Nat->Int}{k:Int}(hk:1<=k)(h:OR (gN s w n) 64≠0):sX (nT (gN s w n) k n 64)<sX n:=by
 rw [Ne,RZ] at h;simp only [TG _ 64 (aa6 _)] at h;have: ∃x,x<64/\gN s w n x=true:=by
  apply Classical.byContradiction;intro hn;apply h;intro x hx;cases hp:gN s w n x
  ·simp
  ·exact (hn ⟨x,hx,hp⟩).elim
 obtain ⟨x,hx,hp⟩:=this;refine UY (x:=x) (fun y hy hq=>?_) (ae9.2 hx) ?_ ?_
 ·have hy:=ae9.1 hy;simp only [nT,hy,decide_true,ab3] at hq;split at hq
  ·simp at hq;omega
  ·exact hq
 ·simp only [gN,aa1] at hp;exact hp.1
 ·simp only [nT,hx,decide_true,ab3,hp,if_true];simp;omega
theorem ON(n:Nat->Int):sX n<=64:=by have:=List.countP_le_length (p:=fun x=>n x==0) (l:=List.range 64);rw [ai6] at this;exact this
theorem far_p(s:Nat->cV)(to:Nat)(ht:to<64):Pure prog a9 18 [.ag (l7 s),AI (to:Nat)] (.ag (tY (eI s to))):=by
 refine P_ func18 44 fun _ _ _ _=>?_;(repeat refine A.s T ?_);refine A.bl T (xM s) fun b0=>?_;refine A.b T fun b1=>?_;refine A.db (.ag (tY fun _=>0)) (by kernel_rfl) ?_;refine y_ ?_;refine A.shift T T T T T T (by omega) ?_;refine y_ ?_;refine A.ad 6 T (x':=rD (mQ to)) (lG (ushl to ht)) ?_;refine A.ay [2,4,5,6,7] T ?_;refine A.ad 5 T (x':=rD 0) T ?_;refine A.ay [2,4,5,6,7] T ?_
 refine A.ar (ι:=(Nat->Int)×cV×cV×Nat×Nat) (fun p=>(⟨[(2, .v (.pointer (some ⟨b0,0,none⟩))),(4, .v (.pointer (some ⟨b1,0,none⟩))),(5,rD p.2.1),(6,rD p.2.2.1),(7,AI (p.2.2.2.1:Nat))],[]⟩,[.box b1 (.ag (tY p.1)), .box b0 (.ag (l7 s))]))
  (fun p=>LW s p.2.2.2.2 p.1 p.2.2.1 (p.2.2.2.1:Nat)=eI s to/\(p.2.2.1≠0->sX p.1+1<=p.2.2.2.2)/\p.2.2.2.2+p.2.2.2.1=67/\1<=p.2.2.2.1) (fun p=>p.2.2.2.2) (fun _=>0,0,mQ to,1,66) ⟨rfl,fun _=>by have:=ON fun _=>0;simp only;omega,rfl,by simp⟩ T fun q hi ih=>?_
 obtain ⟨n,rch,w,k,f⟩:=q;simp only at hi ih⊢;refine y_ ?_
 by_cases hw:w=0
 ·refine A.ad 13 T (x':=AB false) (aA (by subst hw;rfl)) ?_;(repeat refine A.s T ?_);refine A.la T (cE _) T ?_;refine A.wl T (IX _) (cE _) (cE _) ?_;refine y_ ?_;refine A.gh (Λ':=[]) T T T T (I6 T (cE _)) (ae1 _) ⟨?_,rfl⟩;have h1:=hi.1;rw [hw,FZ] at h1;rw [h1];exact .refl
 refine A.ad 13 T (x':=AB true) (aA (by have h1:w.toNat≠0:=fun h=>hw (BitVec.eq_of_toNat_eq (by rw [h];rfl));simp;omega)) ?_
 have hz:=hi.2.1 hw;obtain ⟨f',rfl⟩: ∃f',f=f'+1:=⟨f-1,by omega⟩;have h1:=hi.1;rw [LW,iF hw] at h1;refine y_ ?_;refine A.ad 8 T (x':=rD 0) T ?_;refine A.ay [2,4,5,6,7,8,16] T ?_
 refine A.ar (ι:=Nat) (fun x=>(⟨[(2, .v (.pointer (some ⟨b0,0,none⟩))),(4, .v (.pointer (some ⟨b1,0,none⟩))),(5,rD rch),(6,rD w),(7,AI (k:Nat)),(8,rD (OR (gN s w n) x)),(16,AI (x:Nat))],[]⟩,[.box b1 (.ag (tY (nT (gN s w n) (k:Nat) n x))), .box b0 (.ag (l7 s))]))
  (fun x=>x<=64) (fun x=>64-x) 0 (by omega) (by rw [UZ];rfl) fun x hx xh=>?_
 refine y_ ?_;refine k_ (fun hc=>?_) fun hc=>?_
 ·simp at hc;have hx64:x<64:=by omega
  refine y_ ?_;refine A.xa T (p:=x) (by omega) (by omega) (xA x) T ?_;refine A.ra T (cR _ hx64) T ?_;refine g_ ?_;refine A.ad 23 T (x':=AB (n x==0)) (aA (by rw [cutU_at])) ?_
  ((fail_if_success (refine A.lit? T ?_));refine A.gS T (fun hc=>?_) (fun hc=>?_))
  ·skip
   refine A.xa T (p:=x) (by omega) (by omega) (xA x) T ?_;refine A.ra T (cR _ hx64) T ?_;refine y_ ?_;refine A.ad 30 T (x':=AB (gN s w n x)) (aA ?_) ?_
   ·rw [uand,gN,hc,ab8];simp only [ab3,bne_iff_ne,ne_eq,Bool.cond_true];apply not_congr;constructor
    ·intro h;exact BitVec.eq_of_toNat_eq (by have h:((s x&&&w).toNat:Int)=0:=h;rw [show (0:cV).toNat=0 from rfl];omega)
    ·intro h;rw [h];rfl
   cases hp:gN s w n x with
   |true=>
    refine y_ ?_;refine A.xa T (p:=x) (by omega) (by omega) (xA x) T ?_;refine A.wa T T (by simp;omega) (tK AI _ x (k:Nat)) ?_;refine y_ ?_;refine A.shift T T T T T T (by omega) ?_;refine y_ ?_;refine A.ad 8 T (x':=rD (OR (gN s w n) (x+1))) (lG ?_) ?_
    ·rw [ushl x hx64,uor,xB,hp];rfl
    refine vI 16 x ?_;refine A.db (.ag (tY (nT (gN s w n) (k:Nat) n (x+1)))) (by rw [YD hp]) ?_;refine u_ (xh (x+1) (by omega) (by omega))
   |false=>
    refine y_ ?_;refine A.ad 8 T (x':=rD (OR (gN s w n) (x+1))) (by rw [xB,hp];rfl) ?_;refine vI 16 x ?_;refine A.db (.ag (tY (nT (gN s w n) (k:Nat) n (x+1)))) (by rw [<-LA hp]) ?_;refine u_ (xh (x+1) (by omega) (by omega))
  ·have hp:gN s w n x=false:=by rw [gN,hc];rfl
   refine y_ ?_;refine A.ad 8 T (x':=rD (OR (gN s w n) (x+1))) (by rw [xB,hp];rfl) ?_;refine vI 16 x ?_;refine A.db (.ag (tY (nT (gN s w n) (k:Nat) n (x+1)))) (by rw [<-LA hp]) ?_;refine u_ (xh (x+1) (by omega) (by omega))
 ·simp at hc;have hx64:x=64:=by omega
  subst hx64;refine y_ ?_;refine A.ad 5 T (x':=rD (rch|||OR (gN s w n) 64)) (lG (uor _ _)) ?_;refine vI 7 k ?_;refine u_ (ih (nT (gN s w n) (k:Nat) n 64,rch|||OR (gN s w n) 64,OR (gN s w n) 64,k+1,f') ⟨h1,fun h=>?_,by simp only;omega,by simp⟩ (by simp only;omega));have:=OO (k:=(k:Int)) (by omega) h;simp only;omega
theorem idxI_p(f:FuncId)(c:List AV)(p:Int->Bool)(hcb: ∀x,Pure prog a9 f (AI x::c) (AB (p x)))(l:List Int)(hb:l.length<=281474976710656):
 Pure prog a9 63 [gG l, .fn f [] c] (AI (mU p l 0)):=by
 refine P_ func63 19 fun _ _ _ _=>?_;refine y_ ?_;refine A.ad 7 T (x':=AI (l.length:Nat)) (aM (by rw [aa0])) ?_;refine A.ay [0,1,7,8] T ?_;refine A.ar (ι:=Nat) (fun i=>(⟨[(0,gG l),(1, .fn f [] c),(7,AI (l.length:Nat)),(8,AI (i:Int))],[]⟩,[])) (fun i=>i<=l.length/\mU p l 0=mU p (l.drop i) i) (fun i=>l.length-i) 0 ⟨by omega,rfl⟩ T fun i hi ih=>?_;refine y_ ?_;refine k_ (fun hc=>?_) fun hc=>?_
 ·simp at hc;refine aX hc fun x hx=>?_;refine y_ ?_;refine i_ T (aR hx) T ?_;refine A.c T (hcb x) fO.refl ?_;have h1:=hi.2;rw [bS hx,mU] at h1;cases hp:p x with
  |true=>
   rw [hp] at h1;refine y_ ?_;refine R_ ?_;rw [h1];exact .refl
  |false=>
   rw [hp] at h1;refine y_ ?_;refine vI 8 i ?_;refine u_ (ih (i+1) ⟨by omega,h1⟩ (by omega))
 ·simp at hc;have:i=l.length:=by omega
  subst this;refine y_ ?_;refine R_ ?_;rw [hi.2,ad2];exact .refl
theorem hasI_p(f:FuncId)(c:List AV)(p:Int->Bool)(hcb: ∀x,Pure prog a9 f (AI x::c) (AB (p x)))(l:List Int)(hb:l.length<=281474976710656):
 Pure prog a9 36 [gG l, .fn f [] c] (AB (l.any p)):=by
 refine P_ func36 9 fun _ _ _ _=>?_;refine y_ ?_;refine c_ (idxI_p f c p hcb l hb) ?_;refine R_ ?_;refine Sb.eq (aA ?_);exact nC p l 0
theorem XQ(a:cV)(x:Nat):(bitsOf .and .u64 ((a>>>x).toNat:Int) 1==1)=a.getLsbD x:=by have:=uand (a>>>x) 1#64;rw [show ((1#64:cV).toNat:Int)=1 from rfl] at this;rw [this,XR]
def zD(x:Int):Bool:=x !=0&&x !=2
theorem nmay1_p(x:Int):Pure prog a9 37 [AI x] (AB (zD x)):=by
 refine P_ func37 9 fun _ _ _ _=>?_;refine y_ ?_
 ((fail_if_success (refine A.lit? T ?_));refine A.gS T (fun hc=>?_) (fun hc=>?_))
 ·refine y_ ?_;refine R_ ?_;refine Sb.eq (aA ?_);rw [zD,hc];rfl
 ·refine y_ ?_;refine R_ ?_;refine Sb.eq (aA ?_);rw [zD,hc];rfl
def R6(n:Int)(s:cV×(Nat->Int))(x:Int):Option (cV×(Nat->Int)):=
 if x<0\/n<=x\/s.1.getLsbD x.toNat=true then none else some (s.1|||mQ x.toNat,upd s.2 x.toNat (w64 (s.2 x.toNat+1)))
def uF(n:Int)(s:cV×(Nat->Int))(st:List Int):Option (cV×(Nat->Int)):=if st=[] then none else st.foldlM (R6 n) s
def oE(n:Int)(u:Nat->Int)(p:List (List Int)):Option (Nat->Int):=if p=[] then none else (p.foldlM (uF n) (0,u)).map (·.2)
def t0(n:Int)(c:bX):Bool:=decide (0<=n)&&decide (n<=64)&&decide (1<=c.length)&&decide (c.length<=16)
def I9(n:Int)(c:bX):Option (Nat->Int):=c.foldlM (oE n) fun _=>0
def LV:Option (Nat->Int)->Bool
 |none=>false |some u=> !((List.range 64).map u).any zD
def eW(n:Int)(c:bX):Bool:=t0 n c&&LV (I9 n c)
theorem CY{α β:Type}{f:β->α->Option β}{l:List α}{i:Nat}{x:α}(h:l[i]? =some x)(s:β):(l.drop i).foldlM f s=(f s x).bind fun s'=>(l.drop (i+1)).foldlM f s':=by rw [bS h,al9];rfl
theorem yT{α β:Type}{f:β->α->Option β}{l:List α}(s:β):(l.drop l.length).foldlM f s=some s:=by rw [ad2,List.foldlM_nil];rfl
theorem pL{n:Int}{c:bX}(h:I9 n c=none):eW n c=false:=by rw [eW,h];simp [LV]
theorem JE(n:Int)(c:bX)(hs:uJ c):Pure prog a9 16 [P7 n c] (AB (eW n c)):=by
 have hcl:((c.map kC).length:Int)=c.length:=by rw [aa0]
 refine P_ func16 86 fun _ _ _ _=>?_
 (refine b_ fun bx=>?_;refine y_ ?_)
 ((fail_if_success (refine A.lit? T ?_));refine A.gS T (fun hc=>?_) (fun hc=>?_))
 ·simp at hc;refine y_ ?_;refine R_ ?_;refine Sb.eq (aA ?_);rw [eW,t0,show decide (0<=n)=false by simp;omega];rfl
 simp at hc;have g1:=hc;refine y_ ?_
 ((fail_if_success (refine A.lit? T ?_));refine A.gS T (fun hc=>?_) (fun hc=>?_))
 ·simp at hc;refine y_ ?_;refine R_ ?_;refine Sb.eq (aA ?_);rw [eW,t0,show decide (n<=64)=false by simp;omega];simp
 simp at hc;have g2:=hc;refine y_ ?_
 ((fail_if_success (refine A.lit? T ?_));refine A.gS T (fun hc=>?_) (fun hc=>?_))
 ·simp at hc;refine y_ ?_;refine R_ ?_;refine Sb.eq (aA ?_);rw [eW,t0,show decide (1<=c.length)=false from decide_eq_false (by omega)];simp
 simp at hc;have g3:1<=c.length:=by omega
 refine y_ ?_;refine k_ (fun hc=>?_) fun hc=>?_
 ·simp at hc;refine y_ ?_;refine R_ ?_;refine Sb.eq (aA ?_);rw [eW,t0,show decide (c.length<=16)=false by simp;omega];simp
 simp at hc;have g4:=hc;have hg:t0 n c=true:=by simp only [t0,aa1,dT];omega
 refine b_ fun b1=>?_;refine A.db (.ag (tY fun _=>0)) (by kernel_rfl) ?_;refine y_ ?_;refine A.ad 33 T (x':=AI (c.length:Nat)) (aM (by rw [aa0])) ?_;refine A.ay [1,3,32,33,34] T ?_
 refine A.ar (ι:=Nat×(Nat->Int)) (fun p=>(⟨[(1, .v (.pointer (some ⟨_,0,none⟩))),(3, .v (.pointer (some ⟨b1,0,none⟩))),(32,c0 c),(33,AI (c.length:Nat)),(34,AI (p.1:Nat))],[]⟩,[.box b1 (.ag (tY p.2)), .box _ (.ag [AI n,c0 c])]))
  (fun p=>p.1<=c.length/\(c.drop p.1).foldlM (oE n) p.2=I9 n c) (fun p=>c.length-p.1) (0,fun _=>0) ⟨by omega,rfl⟩ T fun q hi ih=>?_
 obtain ⟨i,u⟩:=q;simp only at hi ih⊢;refine y_ ?_;refine k_ (fun hc=>?_) fun hc=>?_
 ·simp at hc;refine aX hc fun p hp=>?_;have hpm:p∈c:=aa2 hp;have hpl:((p.map gG).length:Int)=p.length:=by rw [aa0]
  have hpb:=hs.steps p hpm;have h1:=hi.2;rw [CY hp] at h1;refine y_ ?_;refine i_ T (aR hp) T ?_;refine k_ (fun hc=>?_) fun hc=>?_
  ·simp at hc;have hno:I9 n c=none:=by rw [<-h1,oE,iT hc];rfl
   (refine y_ ?_;refine R_ ?_;exact Sb.eq (aA (pL hno).symm))
  simp at hc;rw [oE,iF hc] at h1;refine y_ ?_;refine A.ad 6 T (x':=rD 0) T ?_;refine A.ad 42 T (x':=AI (p.length:Nat)) (aM (by rw [aa0])) ?_;refine A.ay [1,3,6,32,33,34,41,42,43] T ?_
  refine A.ar (ι:=Nat×(cV×(Nat->Int))) (fun q=>(⟨[(1, .v (.pointer (some ⟨_,0,none⟩))),(3, .v (.pointer (some ⟨b1,0,none⟩))),(6,rD q.2.1),(32,c0 c),(33,AI (c.length:Nat)),(34,AI (i:Nat)),(41,kC p),(42,AI (p.length:Nat)),(43,AI (q.1:Nat))],[]⟩,[.box b1 (.ag (tY q.2.2)), .box _ (.ag [AI n,c0 c])]))
   (fun q=>q.1<=p.length/\(p.drop q.1).foldlM (uF n) q.2=p.foldlM (uF n) (0,u)) (fun q=>p.length-q.1) (0,(0,u)) ⟨by omega,rfl⟩ T fun q hj jh=>?_
  obtain ⟨j,met,u1⟩:=q;simp only at hj jh⊢;refine y_ ?_;refine k_ (fun hc=>?_) fun hc=>?_
  ·simp at hc;refine aX hc fun st hst=>?_;have hsm:st∈p:=aa2 hst;have hsb:=hs.uses p hpm st hsm;have h2:=hj.2;rw [CY hst] at h2;refine y_ ?_;refine i_ T (aR hst) T ?_;refine k_ (fun hc=>?_) fun hc=>?_
   ·simp at hc;have hno:I9 n c=none:=by rw [<-h1,<-h2,uF,iT hc];rfl
    (refine y_ ?_;refine R_ ?_;exact Sb.eq (aA (pL hno).symm))
   simp at hc;rw [uF,iF hc] at h2;refine y_ ?_;refine A.ad 51 T (x':=AI (st.length:Nat)) (aM (by rw [aa0])) ?_;refine A.ay [1,3,6,32,33,34,41,42,43,50,51,52] T ?_
   refine A.ar (ι:=Nat×(cV×(Nat->Int))) (fun q=>(⟨[(1, .v (.pointer (some ⟨_,0,none⟩))),(3, .v (.pointer (some ⟨b1,0,none⟩))),(6,rD q.2.1),(32,c0 c),(33,AI (c.length:Nat)),(34,AI (i:Nat)),(41,kC p),(42,AI (p.length:Nat)),(43,AI (j:Nat)),(50,gG st),(51,AI (st.length:Nat)),(52,AI (q.1:Nat))],[]⟩,[.box b1 (.ag (tY q.2.2)), .box _ (.ag [AI n,c0 c])]))
    (fun q=>q.1<=st.length/\(st.drop q.1).foldlM (R6 n) q.2=st.foldlM (R6 n) (met,u1)) (fun q=>st.length-q.1) (0,(met,u1)) ⟨by omega,rfl⟩ T fun q hk kh=>?_
   obtain ⟨k1,met2,u2⟩:=q;simp only at hk kh⊢;refine y_ ?_;refine k_ (fun hc=>?_) fun hc=>?_
   ·simp at hc;refine aX hc fun x0 hx0=>?_;have h3:=hk.2;rw [CY hx0] at h3;refine y_ ?_;refine i_ T (aR hx0) T ?_
    ((fail_if_success (refine A.lit? T ?_));refine A.gS T (fun hc=>?_) (fun hc=>?_))
    ·simp at hc;have hno:I9 n c=none:=by rw [<-h1,<-h2,<-h3,R6,iT (.inl hc)];rfl
     (refine y_ ?_;refine R_ ?_;exact Sb.eq (aA (pL hno).symm))
    simp at hc;have x1:=hc;refine y_ ?_
    ((fail_if_success (refine A.lit? T ?_));refine A.gS T (fun hc=>?_) (fun hc=>?_))
    ·simp at hc;have hno:I9 n c=none:=by rw [<-h1,<-h2,<-h3,R6,iT (.inr (.inl hc))];rfl
     (refine y_ ?_;refine R_ ?_;exact Sb.eq (aA (pL hno).symm))
    simp at hc;refine ac7 (DH (x:=x0) ⟨x1,by omega⟩) fun x hx1=>?_;obtain ⟨hx64,rfl⟩:=hx1;refine y_ ?_;refine A.shift T T T T T T (by omega) ?_;refine e_ 67 T (x':=rD (met2>>>x)) (lG (ushr _ _ hx64)) ?_;refine A.ad 70 T (x':=AB (met2.getLsbD x)) (aA (XQ met2 x)) ?_;refine k_ (fun hc=>?_) fun hc=>?_
    ·have hm:=hc;have hno:I9 n c=none:=by rw [<-h1,<-h2,<-h3,R6,iT (.inr (.inr (by simpa using hm)))];rfl
     (refine y_ ?_;refine R_ ?_;exact Sb.eq (aA (pL hno).symm))
    ·have hm:=hc;rw [R6,iF (by simp [hm];omega)] at h3;refine y_ ?_;refine A.shift T T T T T T (by omega) ?_;refine y_ ?_;refine A.ad 6 T (x':=rD (met2|||mQ x)) (lG (by rw [ushl x hx64,uor])) ?_;refine A.xa T (p:=x) (by omega) (by omega) (xA x) T ?_;refine A.ra T (cR _ hx64) T ?_;refine y_ ?_;refine A.xa T (p:=x) (by omega) (by omega) (xA x) T ?_;refine A.wa T T (by simp;omega) (tK AI _ x (w64 (u2 x+1))) ?_;refine y_ ?_;refine vI 52 k1 ?_;refine u_ (kh (k1+1,(met2|||mQ x,upd u2 x (w64 (u2 x+1)))) ⟨by omega,h3⟩ (by simp only;omega))
   ·simp at hc;have hkl:k1=st.length:=by omega
    have h3:=hk.2;rw [hkl,yT] at h3;rw [<-h3] at h2;refine y_ ?_;refine vI 43 j ?_;refine u_ (jh (j+1,(met2,u2)) ⟨by omega,h2⟩ (by simp only;omega))
  ·simp at hc;have hjl:j=p.length:=by omega
   have h2:=hj.2;rw [hjl,yT] at h2;rw [<-h2] at h1;refine y_ ?_;refine vI 34 i ?_;refine u_ (ih (i+1,u1) ⟨by omega,h1⟩ (by simp only;omega))
 ·simp at hc;have hil:i=c.length:=by omega
  have h1:=hi.2;rw [hil,yT] at h1;(repeat refine A.s T ?_);refine A.freeze 3 (sz:=64) T T (by rw [i9,cE]) ?_;refine A.sa T (cE _) (IX _) T ?_;refine A.ad 83 T (x':=gG ((List.range 64).map u)) (by show AV.sl 1 ((List.range 64).map _) none=AV.sl 1 (((List.range 64).map u).map AI) none;rw [List.map_map];rfl) ?_;refine c_ (hasI_p _ [] _ nmay1_p ((List.range 64).map u) (by simp)) ?_;refine R_ ?_;refine Sb.eq (aA ?_);rw [eW,hg,<-h1];rfl
theorem SL{K:AC}{k:List It}{E:aH}{Λ:List aF}(sz:Nat)(next:A K k E (.tail sz (.slice none 0 0)::Λ)):A K k E Λ:=
 A.dj sz 0 none (fun _=>rfl) (fun _ h=>by cases h) next
theorem SM{K:AC}{k:List It}{E:aH}{sz:Nat}: ∀(n:Nat) {Λ:List aF},A K k E (Λ++List.replicate n (.tail sz (.slice none 0 0)))->A K k E Λ
 |0,_,h=>by simpa using h |n+1,Λ,h=>SL sz (SM n (A.perm (by rw [ai7];exact ae8.symm) h))
structure EN where
 b:Int
 c:Int
 out:Bool
 item:Int
def lT(i:Nat)(x:PR):EN:=⟨i,x.c,x.kind==6,x.item⟩
abbrev sT(e:EN):AV:= .ag [AI e.b,AB e.out,aU e.item]
def o5(E:List EN)(c:Nat):List EN:=E.filter fun e=>e.c==(c:Int)
def W0(E:List EN)(z:Nat->Value)(c:Nat):AV:= .sl 3 ((o5 E c).map sT) (some (z c))
def nQ(E:List EN)(z:Nat->Value):List AV:=arrL (W0 E z)
def oX(z:Nat->Value):List aF:=(List.range 64).map fun c=> .tail 3 (z c)
def zQ(z:Nat->Value)(c:Nat):List aF:=((List.range 64).erase c).map fun c=> .tail 3 (z c)
theorem RB(z:Nat->Value)(c:Nat)(z':Value):zQ (upd z c z') c=zQ z c:=by
 refine ag8 fun x hx=>?_;have:x≠c:=fun e=>by subst e;exact (List.nodup_range.mem_erase_iff.1 hx).1 T
 simp [upd,this]
theorem HG(z:Nat->Value){c:Nat}(hc:c<64)(l:List aF):(l++oX z).Perm (.tail 3 (z c)::(l++zQ z c)):=by have h1:(oX z).Perm (.tail 3 (z c)::zQ z c):=(List.perm_cons_erase (ae9.2 hc)).map _;exact (h1.append_left l).trans ae8
theorem tails_in(z:Nat->Value){c:Nat}(hc:c<64)(z':Value)(l:List aF):(.tail 3 z'::(l++zQ z c)).Perm (l++oX (upd z c z')):=by
 have:=(HG (upd z c z') hc l).symm
 rwa [RB,show upd z c z' c=z' by simp [upd]] at this
theorem TD(E:List EN)(e:EN)(c:Nat):o5 (E++[e]) c=if e.c=c then o5 E c++[e] else o5 E c:=by
 unfold o5;rw [List.filter_append]
 by_cases h:e.c=c
 ·rw [iT h];simp [h]
 ·rw [iF h];simp [h]
theorem usr_set(E:List EN)(z:Nat->Value)(e:EN)(c:Nat)(hc:e.c=c)(z':Value):(nQ E z).set c (.sl 3 ((o5 E c).map sT++[sT e]) (some z'))=nQ (E++[e]) (upd z c z'):=by
 have h1:AV.sl 3 ((o5 E c).map sT++[sT e]) (some z')=W0 (E++[e]) (upd z c z') c:=by simp only [W0,TD,iT hc,ae2,ac8,List.map_nil,upd,if_true]
 rw [h1];apply af2;intro i;rw [ag3]
 by_cases h:i<64
 ·by_cases hx:c=i
  ·subst hx;rw [iT T,iT (by rw [nQ,cE];exact h),nQ,cR _ h]
  ·rw [iF hx,nQ,nQ,cR _ h,cR _ h];have: ¬e.c=i:=by omega
   have hx': ¬i=c:=fun h=>hx h.symm;simp only [W0,TD,iF this,upd,iF hx']
 ·rw [ab4 (l:=nQ (E++[e]) _) (by rw [nQ,cE];omega),ab4 (by rw [nQ,cE];omega)];have: ¬c<(nQ E z).length\/c≠i:=by rw [nQ,cE];omega
  split
  ·split
   ·rename_i h2 h3;rw [nQ,cE] at h3;omega
   ·rfl
  ·rfl
theorem usr_nil:nQ [] (fun _=> .slice none 0 0)=List.replicate 64 (.sl 3 [] (some (.slice none 0 0))):=by show (List.range 64).map (fun _=>AV.sl 3 [] (some (.slice none 0 0)))=_;rw [as8,ai6]
theorem WV:oX (fun _=> .slice none 0 0)=List.replicate 64 (.tail 3 (.slice none 0 0)):=by show (List.range 64).map (fun _=>_)=_;rw [as8,ai6]
theorem usr_from{h:GH}{y:Value}(r:Rp h (.ag (List.replicate 64 (.v (.slice none 0 0)))) y):Rp h (.ag (nQ [] fun _=> .slice none 0 0)) y:=by
 rw [usr_nil];have key: ∀n vs,dM h (List.replicate n (.v (.slice none 0 0))) vs->dM h (List.replicate n (.sl 3 [] (some (.slice none 0 0)))) vs:=by
  intro n
  induction n with
  |zero=>intro vs r;exact r |succ n ih=>
   intro vs r;rw [ai7] at r⊢;exact HS (fun y q=>JD 3 q) ih vs r
 exact FA (key 64) y r
def t7(k:KN)(i:Nat)(p:PR):List EN:=((jD k p).map (·.map (lT i))).flatten
def eP(k:KN):Nat->List PR->List EN
 |_,[]=>[] |i,p::r=>t7 k i p++eP k (i+1) r
def gZ(k:KN)(p:PR):List (List Int):=(jD k p).map (·.map (·.c))
def fA(k:KN)(q:PR):bX:=q.l.map (gZ k)
def nU(x y:EN):Bool:=x.b !=y.b&&x.out !=y.out&&x.item==y.item
def qJ:List EN->Bool
 | []=>true | [x,y]=>nU x y
 |_=>false
def mH(E:List EN):Bool:=(List.range 64).all fun c=>qJ (o5 E c)
def kU(k:KN)(q:PR):Bool:=mH (eP k 0 q.l)&&eW k.chans.length (fA k q)
abbrev yN(n:Int)(c:bX)(b:Bool):AV:= .tp [if b then P7 n c else P7 0 [],AB b]
theorem yU{k:KN}(hw:KG k)(hm:nV k=true):Good k k.root/\k.chans.length<=64:=by simp only [nV,pH,aa1,dT] at hm;exact ⟨⟨hw.root,false,hm.2.1⟩,by omega⟩
theorem Good.kf{k:KN}{p:PR}(g:Good k p)(h:p.kind=10):p.l.length<=16:=by have hk:=g.kind;unfold aS at hk;rw [iF (by omega),iF (by omega),iF (by omega),iF (by omega),iF (by omega),iF (by omega),iF (by omega),iF (by omega),iT h] at hk;simp only [aN,inB,aa1,dT] at hk;omega
theorem WC{k:KN}{s:PR}(g:Good k s):(bO s).length<=16:=by
 unfold bO
 by_cases h:(nN s).any yK=true
 ·rw [iT h];simp
 ·rw [iF h,nN]
  by_cases h10:s.kind=10
  ·rw [iT h10];exact g.kf h10
  ·rw [iF h10];simp
theorem qS{k:KN}{q:PR}(g:Good k q):(∀s,s∈eU q->Good k s)/\(eU q).length<=2048:=by
 unfold eU;split
 ·rename_i y r hy;have gy:Good k y:=g.l (by rw [hy];exact aa4 ..);split
  ·exact ⟨fun s hs=>gy.l hs,gy.short⟩
  ·exact ⟨fun s hs=>g.l hs,g.short⟩
 ·exact ⟨fun s hs=>absurd hs List.not_mem_nil,Nat.zero_le _⟩
theorem cyc_mem{k:KN}{p:PR}(g:Good k p){s:List PR}(hs:s∈jD k p): ∃x,Good k x/\s=bO x:=by
 unfold jD CK at hs;split at hs
 ·obtain ⟨x,hx,rfl⟩:=ac1.1 hs;exact ⟨x,(qS g.last).1 x hx,rfl⟩
 ·cases hs
theorem CL{k:KN}{p:PR}(g:Good k p):(jD k p).length<=2048:=by
 unfold jD CK;split
 ·rw [aa0];exact (qS g.last).2
 ·simp
theorem wD{k:KN}{p:PR}(g:Good k p){s:List PR}(hs:s∈jD k p):s.length<=16/\ ∀x,x∈s->Good k x/\0<=x.c/\x.c<k.chans.length:=by
 obtain ⟨y,gy,rfl⟩:=cyc_mem g hs;refine ⟨WC gy,fun x hx=>?_⟩;obtain ⟨h1,h2⟩:=lC hx;have gx:=qR gy h1;obtain ⟨h3,h4⟩:=vX h2;refine ⟨gx,by omega,?_⟩;have hk:=gx.kind;rcases h3 with h3|h3
 ·obtain ⟨t,_,ht⟩:=I1 hk h3;exact (A7 (n9 ht).1).2
 ·obtain ⟨t,_,ht⟩:=I2 hk h3;exact (A7 ht).2
theorem CX{α:Type}{n:Nat}: ∀{l:List (List α)},(∀x,x∈l->x.length<=n)->l.flatten.length<=l.length*n
 | [],_=>by simp |x::l,h=>by have h1:=h x (aa4 ..);have h2:=CX (l:=l) fun y hy=>h y (aa8 _ hy);rw [aj9,aa7,ab1,aj3];omega
theorem YO{k:KN}{p:PR}(g:Good k p)(i:Nat):(t7 k i p).length<=32768:=by
 have h1:=CX (n:=16) (l:=(jD k p).map (·.map (lT i))) fun x hx=>by obtain ⟨s,hs,rfl⟩:=ac1.1 hx;rw [aa0];exact (wD g hs).1
 have h2:=CL g;rw [aa0] at h1;unfold t7;omega
theorem NG{k:KN}: ∀{l:List PR} (i:Nat),(∀p,p∈l->Good k p)->(eP k i l).length<=l.length*32768
 | [],_,_=>by simp [eP] |p::l,i,h=>by have h1:=YO (h p (aa4 ..)) i;have h2:=NG (l:=l) (i+1) fun y hy=>h y (aa8 _ hy);rw [eP,aa7,ab1,aj3];omega
theorem onC_le(E:List EN)(c:Nat):(o5 E c).length<=E.length:=List.length_filter_le ..
theorem G8{k:KN}{q:PR}(g:Good k q):uJ (fA k q) where
 procs:=by rw [fA,aa0];have:=g.len;omega
 steps:=fun p hp=>by obtain ⟨y,hy,rfl⟩:=ac1.1 hp;rw [gZ,aa0];have:=CL (g.l hy);omega
 uses:=fun p hp s hs=>by obtain ⟨y,hy,rfl⟩:=ac1.1 hp;obtain ⟨t,ht,rfl⟩:=ac1.1 hs;rw [aa0];have:=(wD (g.l hy) ht).1;omega
abbrev Rk:=Nat->Int
def rdy(s:Nat->cV)(done:cV)(x:Nat):Bool:= !(done.getLsbD x||(s x&&& ~~~done) !=0)
def rkD(s:Nat->cV)(x:Nat)(rk:Rk)(d:Nat):Rk:=if (s x).getLsbD d then upd rk x (max (rk x) (w64 (rk d+1))) else rk
abbrev RkS:=Rk×cV×Int
def rkX(s:Nat->cV)(n:Nat)(done:cV)(st:RkS)(x:Nat):RkS:=
 if rdy s done x then ((List.range n).foldl (rkD s x) st.1,st.2.1|||mQ x,st.2.2-1) else st
def hJ(s:Nat->cV)(n:Nat)(done:cV)(rk:Rk)(left:Int)(m:Nat):RkS:=(List.range m).foldl (rkX s n done) (rk,0,left)
def MN(s:Nat->cV)(n:Nat):Nat->Rk->cV->Int->Option Rk
 |0,rk,_,_=>some rk |f+1,rk,done,left=>if left<=0 then some rk else
  if (hJ s n done rk left n).2.2=left then none else
   MN s n f (hJ s n done rk left n).1 (done|||(hJ s n done rk left n).2.1) (hJ s n done rk left n).2.2
def ZS(s:Nat->cV)(n:Nat):Option Rk:=MN s n n (fun _=>0) 0 n
theorem V6(s:Nat->cV)(n:Nat)(done:cV)(rk:Rk)(left:Int):hJ s n done rk left 0=(rk,0,left):=rfl
theorem G5(s:Nat->cV)(n:Nat)(done:cV)(rk:Rk)(left:Int)(m:Nat):hJ s n done rk left (m+1)=rkX s n done (hJ s n done rk left m) m:=by rw [hJ,am4,aj2];rfl
theorem V5(s:Nat->cV)(n:Nat)(done:cV)(rk:Rk)(left:Int)(m:Nat):left-m<=(hJ s n done rk left m).2.2/\(hJ s n done rk left m).2.2<=left:=by
 induction m with
 |zero=>rw [V6];simp |succ m ih=>
  rw [G5,rkX];split
  ·simp only;omega
  ·omega
inductive Way(s:Nat->cV)(to:Nat):Nat->Nat->Prop
 |one {x:Nat}:(s x).getLsbD to=true->Way s to x 1
 |more {x y k:Nat}:(s x).getLsbD y=true->Way s to y k->Way s to x (k+1)
theorem Way.pos{s:Nat->cV}{to x k:Nat}(h:Way s to x k):1<=k:=by cases h<;>omega
structure B3(s:Nat->cV)(to x k:Nat):Prop where
 way:Way s to x k
 le: ∀m,Way s to x m->k<=m
def Fr(s:Nat->cV)(to k y:Nat):Prop:=(k=1/\y=to)\/(2<=k/\B3 s to y (k-1))
structure FI(s:Nat->cV)(to:Nat)(n:Nat->Int)(w:cV)(k:Nat):Prop where
 zero: ∀x,x<64->n x=0-> ∀m,Way s to x m->k<=m
 some: ∀x,x<64->n x≠0-> ∃m:Nat,n x=m/\B3 s to x m/\m<k
 fr: ∀y,y<64->(w.getLsbD y=true↔Fr s to k y)
 k1:1<=k
theorem and_ne{a b:cV}:a&&&b≠0↔ ∃y,a.getLsbD y=true/\b.getLsbD y=true:=by
 rw [Ne,RZ];constructor
 ·intro h;apply Classical.byContradiction;intro hn;apply h;intro x hx;rw [BitVec.getLsbD_and];cases h1:a.getLsbD x
  ·rfl
  ·cases h2:b.getLsbD x
   ·rfl
   ·exact (hn ⟨x,h1,h2⟩).elim
 ·rintro ⟨y,h1,h2⟩ h;have:=h y (BitVec.lt_of_getLsbD h1);rw [BitVec.getLsbD_and,h1,h2] at this;cases this
theorem MW{s:Nat->cV}{w:cV}{n:Nat->Int}{x:Nat}:gN s w n x=true↔n x=0/\ ∃y,(s x).getLsbD y=true/\w.getLsbD y=true:=by unfold gN;rw [aa1,beq_iff_eq,bne_iff_ne,and_ne]
theorem FI.start{s:Nat->cV}{to:Nat}(ht:to<64):FI s to (fun _=>0) (mQ to) 1 where
 zero:=fun x hx _ m hm=>hm.pos
 some:=fun x hx h=>(h T).elim
 fr:=fun y hy=>by
  rw [rW _ _ ht,decide_eq_true_iff];constructor
  ·intro h;exact .inl ⟨rfl,h⟩
  ·rintro (h|h)
   ·exact h.2
   ·omega
 k1:=aa6 _
theorem FI.new{s:Nat->cV}{to:Nat}{n:Nat->Int}{w:cV}{k:Nat}(I:FI s to n w k){x:Nat}(hx:x<64)(h:gN s w n x=true):n x=0/\B3 s to x k:=by
 obtain ⟨h0,y,h1,h2⟩:=MW.1 h;have hy:=BitVec.lt_of_getLsbD h1;refine ⟨h0,?_,I.zero x hx h0⟩;rcases (I.fr y hy).1 h2 with ⟨rfl,rfl⟩|⟨hk,hl⟩
 ·exact .one h1
 ·have:=Way.more h1 hl.way;rw [show k-1+1=k by omega] at this;exact this
theorem FI.not{s:Nat->cV}{to:Nat}{n:Nat->Int}{w:cV}{k:Nat}(ht:to<64)(I:FI s to n w k){x:Nat}(hx:x<64)(h0:n x=0)(h:gN s w n x=false){m:Nat}(hm:Way s to x m):k+1<=m:=by
 have hk:=I.zero x hx h0 m hm;apply Classical.byContradiction;intro hn;have hmk:m=k:=by omega
 subst hmk;have hnew:gN s w n x=true:=by
  rw [MW];refine ⟨h0,?_⟩;cases hm with
  |one h1=>exact ⟨to,h1,(I.fr to ht).2 (.inl ⟨rfl,rfl⟩)⟩ | @more _ y k' h1 h2=>
    have hy:=BitVec.lt_of_getLsbD h1;refine ⟨y,h1,(I.fr y hy).2 (.inr ⟨by have:=h2.pos;omega,?_⟩)⟩
    by_cases hny:n y=0
    ·have:=I.zero y hy hny _ h2;omega
    ·obtain ⟨m',e,l,hlt⟩:=I.some y hy hny;have h3:=l.le _ h2;have h4:=I.zero x hx h0 _ (Way.more h1 l.way);have:m'=k':=by omega
     subst this;exact l
 rw [h] at hnew;cases hnew
theorem FI.round{s:Nat->cV}{to:Nat}{n:Nat->Int}{w:cV}{k:Nat}(ht:to<64)(I:FI s to n w k):FI s to (nT (gN s w n) (k:Nat) n 64) (OR (gN s w n) 64) (k+1):=by
 have hk1:=I.k1;have hcut: ∀x,x<64->nT (gN s w n) (k:Nat) n 64 x=if gN s w n x=true then (k:Int) else n x:=fun x hx=>by simp only [nT,hx,decide_true,ab3]
 refine ⟨fun x hx h0 m hm=>?_,fun x hx hne=>?_,fun y hy=>?_,by omega⟩
 ·rw [hcut x hx] at h0;split at h0
  ·omega
  ·rename_i hb;exact I.not ht hx h0 (by simpa using hb) hm
 ·rw [hcut x hx] at hne⊢;split
  ·rename_i hb;exact ⟨k,rfl,(I.new hx hb).2,by omega⟩
  ·rename_i hb;rw [iF hb] at hne;obtain ⟨m,e,l,hlt⟩:=I.some x hx hne;exact ⟨m,e,l,by omega⟩
 ·rw [TG _ 64 (aa6 _)];simp only [hy,decide_true,ab3];constructor
  ·intro hb;exact .inr ⟨by omega,by rw [Nat.add_sub_cancel];exact (I.new hy hb).2⟩
  ·rintro (⟨h,_⟩|⟨_,l⟩)
   ·omega
   ·rw [Nat.add_sub_cancel] at l;cases hb:gN s w n y with
    |true=>rfl |false=>
     by_cases hny:n y=0
     ·have:=I.not ht hy hny hb l.way;omega
     ·obtain ⟨m,e,l',hlt⟩:=I.some y hy hny;have:=l'.le _ l.way;have:=l.le _ l'.way;omega
theorem FI.fin{s:Nat->cV}{to:Nat}{n:Nat->Int}{k:Nat}(ht:to<64)(I:FI s to n 0 k): ∀m x,x<64->Way s to x m->n x≠0:=by
 intro m
 induction m with
 |zero=>intro x hx hw;have:=hw.pos;omega |succ m ih=>
  intro x hx hw h0;have hk:=I.zero x hx h0 _ hw;have hb:gN s 0 n x=false:=by simp [gN]
  have hk2:=I.not ht hx h0 hb hw;have hk1:=I.k1;cases hw with
  |one h1=>omega | @more _ y _ h1 h2=>
    have hy:=BitVec.lt_of_getLsbD h1;obtain ⟨m',e,l,hlt⟩:=I.some y hy (ih y hy h2);have h4:=I.not ht hx h0 hb (Way.more h1 l.way);omega
def DistV(s:Nat->cV)(to x:Nat)(v:Int):Prop:=(v=0/\ ∀m,¬Way s to x m)\/ ∃m:Nat,v=m/\B3 s to x m/\m<=66
theorem FY{s:Nat->cV}{to:Nat}(ht:to<64): ∀(f:Nat) (n:Nat->Int) (w:cV) (k:Nat),FI s to n w k->(w≠0->sX n+1<=f)->f+k=67-> ∀x,x<64->DistV s to x (LW s f n w (k:Nat) x)
 |f,n,w,k,I,hz,hf,x,hx=>by
  by_cases hw:w=0
  ·subst hw;rw [FZ]
   by_cases h0:n x=0
   ·exact .inl ⟨h0,fun m hm=>I.fin ht m x hx hm h0⟩
   ·obtain ⟨m,e,l,hlt⟩:=I.some x hx h0;exact .inr ⟨m,e,l,by omega⟩
  ·match f,hz hw with
   |f+1,hz1=>
    rw [LW,iF hw];have hk1:=I.k1;have:=FY ht f _ _ (k+1) (I.round ht) (fun h=>by have:=OO (k:=(k:Int)) (by omega) h;omega) (by omega) x hx;exact this
theorem pE{s:Nat->cV}{to:Nat}(ht:to<64){x:Nat}(hx:x<64):DistV s to x (eI s to x):=by have:=FY (s:=s) ht 66 (fun _=>0) (mQ to) 1 (FI.start ht) (fun _=>by have:=ON fun _=>0;omega) T x hx;exact this
theorem Y3{s:Nat->cV}{to:Nat}(ht:to<64){x:Nat}(hx:x<64){m:Nat}(l:B3 s to x m):eI s to x=m:=by
 rcases pE ht hx with ⟨_,h⟩|⟨m',e,l',_⟩
 ·exact (h m l.way).elim
 ·rw [e];have:=l.le _ l'.way;have:=l'.le _ l.way;omega
theorem B3.pos{s:Nat->cV}{to x k:Nat}(h:B3 s to x k):1<=k:=h.way.pos
theorem Y2{s:Nat->cV}{to:Nat}(ht:to<64){x:Nat}(hx:x<64)(h:2<=eI s to x): ∃y,(s x).getLsbD y=true/\eI s to y=eI s to x-1:=by
 rcases pE (s:=s) ht hx with ⟨h0,_⟩|⟨m,e,l,_⟩
 ·omega
 ·rw [e] at h⊢;have hw:=l.way;have hle:=l.le;clear e l;cases hw with
  |one h1=>omega | @more _ y k h1 h2=>
    refine ⟨y,h1,?_⟩;rw [Y3 ht (BitVec.lt_of_getLsbD h1) (m:=k) ⟨h2,fun m' hm=>by have:=hle _ (Way.more h1 hm);omega⟩];omega
def RY(s:Nat->cV)(st:Int×Int)(x:Nat):Int×Int:=if 0<eI s x x/\(st.2=0\/eI s x x<st.2) then ((x:Int),eI s x x) else st
def cA(s:Nat->cV)(m:Nat):Int×Int:=(List.range m).foldl (RY s) (-1,0)
theorem CC(s:Nat->cV)(m:Nat):cA s (m+1)=RY s (cA s m) m:=by rw [cA,am4,aj2];rfl
structure Best(s:Nat->cV)(n f:Nat)(b:Int):Prop where
 lt:f<n
 eq:eI s f f=b
 pos:0<b
 le: ∀x,x<n->0<eI s x x->b<=eI s x x/\(eI s x x=b->f<=x)
theorem p9(s:Nat->cV)(m:Nat):(cA s m=(-1,0)/\ ∀x,x<m-> ¬0<eI s x x)\/ ∃f:Nat,(cA s m).1=f/\Best s m f (cA s m).2:=by
 induction m with
 |zero=>exact .inl ⟨rfl,fun x hx=>by omega⟩ |succ m ih=>
  rw [CC,RY];rcases ih with ⟨h1,h2⟩|⟨f,h1,h2⟩
  ·rw [h1]
   by_cases hp:0<eI s m m
   ·rw [iT ⟨hp, .inl T⟩];refine .inr ⟨m,rfl,by omega,rfl,hp,fun x hx hx0=>?_⟩
    by_cases hxm:x=m
    ·subst hxm;exact ⟨an9 _,fun _=>aa6 _⟩
    ·exact (h2 x (by omega) hx0).elim
   ·rw [iF (fun h=>hp h.1)];refine .inl ⟨rfl,fun x hx hx0=>?_⟩
    by_cases hxm:x=m
    ·subst hxm;exact hp hx0
    ·exact h2 x (by omega) hx0
  ·right
   by_cases hp:0<eI s m m/\((cA s m).2=0\/eI s m m<(cA s m).2)
   ·rw [iT hp];have hb:=h2.pos;refine ⟨m,rfl,by omega,rfl,hp.1,fun x hx hx0=>?_⟩
    by_cases hxm:x=m
    ·subst hxm;exact ⟨an9 _,fun _=>aa6 _⟩
    ·have:=h2.le x (by omega) hx0;refine ⟨by simp only;omega,fun h=>?_⟩;simp only at h;omega
   ·rw [iF hp];refine ⟨f,h1,by have:=h2.lt;omega,h2.eq,h2.pos,fun x hx hx0=>?_⟩
    by_cases hxm:x=m
    ·subst hxm;have h3: ¬eI s x x<(cA s x).2:=fun h=>hp ⟨hx0, .inr h⟩;exact ⟨by omega,fun _=>as5 h2.lt⟩
    ·exact h2.le x (by omega) hx0
def A0(s:Nat->cV)(g:Nat->Int)(at1:Nat)(v:Int)(d:Nat):Bool:=(s at1).getLsbD d&&g d==v
def rE(s:Nat->cV)(n:Nat)(g:Nat->Int)(best:Int):Nat->Nat->Int->List Nat
 |0,_,_=>[] |f+1,at1,len=>if len<best then match (List.range n).find? (A0 s g at1 (best-len)) with
   |some d=>d::rE s n g best f d (len+1) |none=>[]
  else []
def r7(s:Nat->cV)(n:Nat):Option (List Nat):=if (cA s n).1<0 then none else
 some ((cA s n).1.toNat::rE s n (eI s (cA s n).1.toNat) (cA s n).2 66 (cA s n).1.toNat 1)
def RI(c:bX)(x:Int):Nat:=(c.map fun p=>p.flatten.count x).sum
structure B2(n:Int)(p:List (List Int)):Prop where
 ne:p≠[]
 nes: ∀s,s∈p->s≠[]
 rng: ∀x,x∈p.flatten->0<=x/\x<n
 nd: ∀x,x∈p.flatten->p.flatten.count x<=1
structure Valid(n:Int)(c:bX):Prop where
 g:t0 n c=true
 fine: ∀p,p∈c->B2 n p
 two: ∀i:Nat,i<64->RI c i=0\/RI c i=2
theorem KU{n:Int}(hn:n<=64): ∀(l:List Int) (met:cV) (u:Nat->Int) (k:Nat->Nat),(∀i,i<64->u i=k i/\k i+l.length<=1000)->
 (match l.foldlM (R6 n) (met,u) with
 |some st=>(∀x,x∈l->0<=x/\x<n/\met.getLsbD x.toNat=false/\l.count x<=1)/\(∀i,i<64->st.2 i=(k i+l.count (i:Int):Nat)) |none=> ¬ ∀x,x∈l->0<=x/\x<n/\met.getLsbD x.toNat=false/\l.count x<=1)
 | [],met,u,k,hk=>⟨fun x h=>(by cases h),fun i hi=>by show u i=_;rw [(hk i hi).1];simp⟩ |x::l,met,u,k,hk=>by
  rw [al9]
  by_cases hx:x<0\/n<=x\/met.getLsbD x.toNat=true
  ·rw [R6,iT hx];show¬_;intro h;obtain ⟨h1,h2,h3,_⟩:=h x (aa4 ..);rcases hx with h|h|h
   ·omega
   ·omega
   ·rw [h3] at h;cases h
  ·rw [R6,iF hx];have hx0:0<=x:=by omega
   have hxn:x<n:=by omega
   have hxm:met.getLsbD x.toNat=false:=by
    cases h:met.getLsbD x.toNat
    ·rfl
    ·exact (hx (.inr (.inr h))).elim
   have ht:x.toNat<64:=by omega
   have ih:=KU hn l (met|||mQ x.toNat) (upd u x.toNat (w64 (u x.toNat+1))) (fun i=>if i=x.toNat then k i+1 else k i) (fun i hi=>by
    obtain ⟨h1,h2⟩:=hk i hi;rw [ab1] at h2;unfold upd
    by_cases he:i=x.toNat
    ·rw [iT he,iT he,<-he,h1];refine ⟨?_,by omega⟩;have h3:i64 ((k i:Int)+1):=by unfold i64;omega
     exact (sU h3).trans (by push_cast;rfl)
    ·rw [iF he,iF he];exact ⟨h1,by omega⟩)
   show match (List.foldlM (R6 n) (met|||mQ x.toNat,upd u x.toNat (w64 (u x.toNat+1))) l) with
    |some st=>_ |none=>_
   revert ih;have hm2: ∀y:Int,0<=y->(met|||mQ x.toNat).getLsbD y.toNat=(met.getLsbD y.toNat||decide (y=x)):=fun y hy=>by rw [BitVec.getLsbD_or,rW _ _ ht];congr 1;rw [ab8];simp;omega
   cases List.foldlM (R6 n) (met|||mQ x.toNat,upd u x.toNat (w64 (u x.toNat+1))) l with
   |some st=>
    simp only;rintro ⟨h1,h2⟩;have hxl:x∉l:=fun hm=>by have:=(h1 x hm).2.2.1;rw [hm2 x hx0] at this;simp at this
    refine ⟨fun y hy=>?_,fun i hi=>?_⟩
    ·rcases ab0.1 hy with rfl|hy
     ·refine ⟨hx0,hxn,hxm,?_⟩;rw [aq5,List.count_eq_zero.2 hxl];exact aa6 _
     ·obtain ⟨q1,q2,q3,q4⟩:=h1 y hy;rw [hm2 y q1] at q3;simp only [aq3,dF] at q3;refine ⟨q1,q2,q3.1,?_⟩;rw [aq0 (fun e=>q3.2 e.symm)];exact q4
    ·rw [h2 i hi]
     by_cases he:i=x.toNat
     ·have:x=(i:Int):=by omega
      rw [iT he,this,aq5];omega
     ·rw [iF he,aq0 (by omega)]
   |none=>
    simp only;intro h1 h;apply h1;intro y hy;obtain ⟨q1,q2,q3,q4⟩:=h y (aa8 _ hy);have hxy:y≠x:=by rintro rfl;rw [aq5] at q4;have:=List.count_pos_iff.2 hy;omega
    refine ⟨q1,q2,?_,?_⟩
    ·rw [hm2 y q1,q3];simp [hxy]
    ·rw [aq0 (fun e=>hxy e.symm)] at q4;exact q4
theorem HD(n:Int): ∀(p:List (List Int)) (st:cV×(Nat->Int)),(∀s,s∈p->s≠[])->p.foldlM (uF n) st=p.flatten.foldlM (R6 n) st
 | [],st,_=>rfl |s::p,st,h=>by rw [al9,aj9,List.foldlM_append,uF,iF (h s (aa4 ..))];show au4 _ _=au4 _ _;congr 1;funext st';exact HD n p st' fun s' hs=>h s' (aa8 _ hs)
theorem HE(n:Int): ∀(p:List (List Int)) (st:cV×(Nat->Int)),[]∈p->p.foldlM (uF n) st=none
 |s::p,st,h=>by
  rw [al9]
  by_cases hs:s=[]
  ·rw [uF,iT hs];rfl
  ·show au4 _ _=none;rcases ab0.1 h with h|h
   ·exact (hs h.symm).elim
   ·cases uF n st s with
    |none=>rfl |some st'=>exact HE n p st' h
theorem V2{n:Int}(hn:n<=64)(p:List (List Int))(u:Nat->Int)(k:Nat->Nat)(hk: ∀i,i<64->u i=k i/\k i+p.flatten.length<=1000):
 match oE n u p with
 |some u'=>B2 n p/\ ∀i,i<64->u' i=(k i+p.flatten.count (i:Int):Nat) |none=> ¬B2 n p:=by
 unfold oE
 by_cases hp:p=[]
 ·rw [iT hp];exact fun h=>h.ne hp
 rw [iF hp]
 by_cases hs:[]∈p
 ·rw [HE n p _ hs];exact fun h=>h.nes _ hs T
 have hs': ∀s,s∈p->s≠[]:=fun s hm e=>hs (e▸hm);rw [HD n p _ hs'];have:=KU hn p.flatten 0 u k hk;revert this;cases p.flatten.foldlM (R6 n) (0,u) with
 |some st=>
  simp only [ag0];rintro ⟨h1,h2⟩;exact ⟨⟨hp,hs',fun x hx=>⟨(h1 x hx).1,(h1 x hx).2.1⟩,fun x hx=>(h1 x hx).2.2.2⟩,h2⟩
 |none=>
  simp only [Option.map_none];intro h1 h;apply h1;exact fun x hx=>⟨(h.rng x hx).1,(h.rng x hx).2,by simp,h.nd x hx⟩
def wO(c:bX):Nat:=(c.map fun p=>p.flatten.length).sum
theorem MU{n:Int}(hn:n<=64): ∀(c:bX) (u:Nat->Int) (k:Nat->Nat),(∀i,i<64->u i=k i/\k i+wO c<=1000)->
 (match c.foldlM (oE n) u with
 |some u'=>(∀p,p∈c->B2 n p)/\ ∀i,i<64->u' i=(k i+RI c (i:Int):Nat) |none=> ¬ ∀p,p∈c->B2 n p)
 | [],u,k,hk=>⟨fun p h=>(by cases h),fun i hi=>by rw [(hk i hi).1];simp [RI]⟩ |p::c,u,k,hk=>by
  have hfl:wO (p::c)=p.flatten.length+wO c:=by simp [wO]
  rw [al9];have h1:=V2 hn p u k fun i hi=>⟨(hk i hi).1,by have:=(hk i hi).2;rw [hfl] at this;omega⟩;revert h1;cases oE n u p with
  |none=>
   intro h1 h;exact h1 (h p (aa4 ..))
  |some u1=>
   simp only;rintro ⟨h1,h2⟩;show match (c.foldlM (oE n) u1) with
    |some u'=>_ |none=>_
   have ih:=MU hn c u1 (fun i=>k i+p.flatten.count (i:Int)) fun i hi=>⟨h2 i hi,by
    have:=(hk i hi).2;rw [hfl] at this;have:=List.count_le_length (a:=(i:Int)) (l:=p.flatten);omega⟩
   revert ih;cases c.foldlM (oE n) u1 with
   |none=>
    intro h3 h;exact h3 fun q hq=>h q (aa8 _ hq)
   |some u'=>
    simp only;rintro ⟨h3,h4⟩;refine ⟨fun q hq=>?_,fun i hi=>?_⟩
    ·rcases ab0.1 hq with rfl|hq
     ·exact h1
     ·exact h3 q hq
    ·rw [h4 i hi];simp only [RI,ac8,List.sum_cons];push_cast;omega
theorem Q0(p:List (List Int)):p.flatten.length<=rC p:=by
 induction p with
 |nil=>simp [rC] |cons s p ih=>rw [EF,aj9,aa7];omega
theorem ZB(c:bX):wO c<=mL c:=by
 induction c with
 |nil=>simp [wO,mL] |cons p c ih=>
  rw [EE];have:=Q0 p;have:wO (p::c)=p.flatten.length+wO c:=by simp [wO]
  omega
theorem wY{n:Int}{c:bX}(hs:mL c<=1000):eW n c=true↔Valid n c:=by
 unfold eW;rw [aa1]
 by_cases hg:t0 n c=true
 case neg=>exact ⟨fun h=>(hg h.1).elim,fun h=>(hg h.g).elim⟩
 have hn:n<=64:=by simp only [t0,aa1,dT] at hg;omega
 have:=MU hn c (fun _=>0) (fun _=>0) fun i _=>⟨rfl,by have:=ZB c;omega⟩;unfold I9;revert this;cases c.foldlM (oE n) fun _=>0 with
 |none=>
  intro h;constructor
  ·intro h1;exact absurd h1.2 (by simp [LV])
  ·intro h1;exact (h h1.fine).elim
 |some u=>
  simp only;rintro ⟨h1,h2⟩;have hev:LV (some u)=true↔ ∀i:Nat,i<64->RI c (i:Int)=0\/RI c (i:Int)=2:=by
   simp only [LV,ag1,List.any_eq_false,ac1,ae9];constructor
   ·intro h i hi;have:=h (u i) ⟨i,hi,rfl⟩;rw [h2 i hi] at this;simp [zD] at this;omega
   ·rintro h x ⟨i,hi,rfl⟩;rw [h2 i hi];have:=h i hi;simp [zD];omega
  exact ⟨fun h=>⟨hg,h1,hev.1 h.2⟩,fun h=>⟨hg,hev.2 h.two⟩⟩
theorem Valid.inB{n:Int}{c:bX}(h:Valid n c):InB c:=fun p hp s hs x hx=>by have h1:=(h.fine p hp).rng x (aj5.2 ⟨s,hs,hx⟩);have h2:=h.g;simp only [t0,aa1,dT] at h2;omega
def preB(c:bX)(d x:Int):Bool:=c.any fun p=>(p.zip p.tail).any fun ab=>ab.1.contains d&&ab.2.contains x
theorem FE(x d:Nat)(hd:d<64): ∀(a:List Int),(∀y,y∈a->0<=y/\y<64)-> ∀(g:Nat->cV) (y:Nat),((a.foldl (addD x) g) y).getLsbD d=((g y).getLsbD d||(decide (y=x)&&a.contains (d:Int)))
 | [],_,g,y=>by simp |z::a,h,g,y=>by
  obtain ⟨z0,z1⟩:=h z (aa4 ..);rw [ah1,FE x d hd a (fun w hw=>h w (aa8 _ hw)),addD,upd]
  by_cases hy:y=x
  ·subst hy;have hz:decide (d=z.toNat)=(z==(d:Int)):=by rw [ab8];simp;omega
   have hz2:((d:Int)==z)=(z==(d:Int)):=by rw [ab8];simp;omega
   rw [iT T,BitVec.getLsbD_or,rW _ _ (by omega),hz,List.contains_cons,hz2];cases (g y).getLsbD d<;>cases (z==(d:Int))<;>simp
  ·rw [iF hy];simp [hy]
theorem FD(a:List Int)(ha: ∀y,y∈a->0<=y/\y<64)(d:Nat)(hd:d<64): ∀(b:List Int),(∀y,y∈b->0<=y/\y<64)-> ∀(g:Nat->cV) (y:Nat),((b.foldl (UF a) g) y).getLsbD d=((g y).getLsbD d||(a.contains (d:Int)&&b.contains (y:Int)))
 | [],_,g,y=>by simp |z::b,h,g,y=>by
  obtain ⟨z0,z1⟩:=h z (aa4 ..);rw [ah1,FD a ha d hd b (fun w hw=>h w (aa8 _ hw)),UF,FE _ _ hd a ha];have hz:decide (y=z.toNat)=((y:Int)==z):=by rw [ab8];simp;omega
  rw [hz,List.contains_cons];cases (g y).getLsbD d<;>cases ((y:Int)==z)<;>cases a.contains (d:Int)<;>simp
theorem FC(d:Nat)(hd:d<64): ∀(l:List (List Int×List Int)),(∀ab,ab∈l->(∀y,y∈ab.1->0<=y/\y<64)/\(∀y,y∈ab.2->0<=y/\y<64))-> ∀(g:Nat->cV) (y:Nat),
 ((l.foldl B7 g) y).getLsbD d=((g y).getLsbD d||l.any fun ab=>ab.1.contains (d:Int)&&ab.2.contains (y:Int))
 | [],_,g,y=>by simp |ab::l,h,g,y=>by obtain ⟨h1,h2⟩:=h ab (aa4 ..);rw [ah1,FC d hd l (fun w hw=>h w (aa8 _ hw)),B7,FD _ h1 d hd _ h2,at8,Bool.or_assoc]
theorem MT(d:Nat)(hd:d<64): ∀(c:bX),InB c-> ∀(g:Nat->cV) (y:Nat),((c.foldl B6 g) y).getLsbD d=((g y).getLsbD d||preB c d y)
 | [],_,g,y=>by simp [preB] |p::c,h,g,y=>by rw [ah1,MT d hd c (fun q hq=>h q (aa8 _ hq)),B6,FC d hd _ fun ab hab=>?_,preB,preB,at8,Bool.or_assoc];have hp:=h p (aa4 ..);exact ⟨hp _ (as9 hab).1,hp _ (aq7 (as9 hab).2)⟩
theorem rV{c:bX}(h:InB c)(d x:Nat)(hd:d<64):(beforeF c x).getLsbD d=preB c d x:=by rw [beforeF,MT d hd c h];simp
theorem TL{n:Int}{c:bX}(h:Valid n c){d x:Int}(hp:preB c d x=true):(0<=d/\d<n)/\0<=x/\x<n:=by simp only [preB,List.any_eq_true,aa1,List.contains_iff_mem] at hp;obtain ⟨p,hp,ab,hab,h1,h2⟩:=hp;have hm:=as9 hab;exact ⟨(h.fine p hp).rng d (aj5.2 ⟨_,hm.1,h1⟩),(h.fine p hp).rng x (aj5.2 ⟨_,aq7 hm.2,h2⟩)⟩
theorem yL{n:Nat}{c:bX}(h:Valid n c)(x d:Nat)(hb:(beforeF c x).getLsbD d=true):d<n:=by rw [rV h.inB d x (BitVec.lt_of_getLsbD hb)] at hb;have:=TL h hb;omega
end Go.Proofs.YtkbolbpojpmicaaGreatDoor
