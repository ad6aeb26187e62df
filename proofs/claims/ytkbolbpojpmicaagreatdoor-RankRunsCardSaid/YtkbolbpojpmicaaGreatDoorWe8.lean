/-
  Texts P18c Q17h Q17j Q17k Q18l P18d Q18m Q18q Q18r Q18n Q18o Q18p Q18t Q18v Q18w Q17z P18e Q18x P18f P18g P18h P18i P18j P21a P20a P20b P20c. Conditions: as each theorem says.
-/
import Derived.Test.YtkbolbpojpmicaaGreatDoorWe4
import Derived.Test.YtkbolbpojpmicaaGreatDoorWe7
import Derived.Test.YtkbolbpojpmicaaGreatDoorWe5
import Derived.Test.YtkbolbpojpmicaaGreatDoorWe2
import Derived.Test.YtkbolbpojpmicaaGreatDoorWe6
set_option linter.unusedVariables false
set_option linter.unusedSimpArgs false
set_option maxRecDepth 100000
set_option maxHeartbeats 4000000
open Go.Tp(T eX dT dF iF iT)
open Go.Proofs.Tryz
open List renaming length_map→aa0,mem_of_getElem?→aa2,mem_singleton→aa3,length_append→aa7,mem_cons→ab0,length_cons→ab1,getElem?_eq_getElem→ab6,getElem?_map→ab9,mem_map→ac1,length_take→ac3,take_length→ac4,all_eq_true→ac5,take_add_one→ac6,map_cons→ac8,getElem?_append_right→ad1,length_replicate→ad4,length_singleton→ad5,getElem?_append_left→ad6,mem_flatMap→ad8,map_append→ae2,append_nil→ae3,mem_range→ae9,perm_append_comm→af6,flatMap_cons→ag2,getElem?_set→ag3,drop_eq_nil_of_le→ag5,map_nil→ag7,sublist_append_left→ah2,length_set→ah7,nil_append→ah8,sublist_cons_self→ai5,set_cons_zero→aj0,length_nil→aj8,flatMap_append→ak2,take_of_length_le→ak5,set_append_right→al0,perm_append_singleton→al2,mem_or_eq_of_mem_set→al5,drop_zero→al7,any_eq_false→am8,take_zero→an1
open Bool renaming and_eq_true→aa1,eq_iff_iff→ab8,not_eq_true'→ag1,or_eq_true→aj7,or_false→at7
open Nat renaming le_refl→aa6,zero_le→ac0,le_trans→af4,zero_add→ag9,add_sub_cancel_left→ah5,sub_self→ah9,min_eq_left→ai3,add_assoc→am2
open Exists renaming elim→ac7
open Int renaming toNat_natCast→ad9
open Option renaming map_eq_some_iff→ak7
open Prod renaming snd→am7,fst→at6
namespace Go.Proofs.YtkbolbpojpmicaaGreatDoor
open Go Go.Tp
structure KOk(V:List KV)(C:List Int):Prop where
 vl:V.length<=256
 cl:2<=C.length
 cu:C.length<=64
 var:V.all pU=true
 ch:E6 0 C=true
abbrev B9(p:PR):PR:=⟨if p.kind=16 then 14 else p.kind,p.c,p.v,p.item,p.to,p.e,p.gs,p.l⟩
structure Loc(V:List KV)(C:List Int)(p:PR):Prop where
 kind:aS V C.length (B9 p)=true
 wait:p.kind=16-> ∀g,g∈p.gs->sV g=true
 room:1+p.l.length+p.gs.length<=2048
 to: ∀t,t∈p.to->pV t/\WJ t
 e: ∀x,x∈p.e->iZ x/\uE x
 gs: ∀g,g∈p.gs->(iZ g.cond/\uE g.cond)/\(iZ g.time/\uE g.time)/\(pV g.to/\WJ g.to)
theorem PJ(V:List KV)(n:Nat)(c:Bool)(g:GD):cH V n (iX g) c=cH V n g c:=by obtain ⟨k,e,c',i,to,t,b⟩:=g;unfold cH;show ((List.length (b.map fun _=>aK)==1)&&_&&_&&_)=_;rw [aa0];rfl
theorem GB(V:List KV)(n:Nat){k c v i:Int}{to:List PL}{e:List KE}{gs:List GD}{l l':List PR}(h:l'.length=l.length):aS V n ⟨k,c,v,i,to,e,gs,l'⟩=aS V n ⟨k,c,v,i,to,e,gs,l⟩:=by simp only [aS,aN,PR.l,h]
theorem ZT(V:List KV)(n:Nat){k c v i:Int}{to:List PL}{e:List KE}{gs:List GD}{l:List PR}:aS V n ⟨k,c,v,i,to,e,gs.map iX,l⟩=aS V n ⟨k,c,v,i,to,e,gs,l⟩:=by have h: ∀b,((fun g=>cH V n g b)∘iX)=fun g=>cH V n g b:=fun b=>funext fun g=>PJ V n b g;simp only [aS,aN,PR.gs,PR.kind,aa0,List.all_map,h]
theorem VF(V:List KV)(n:Nat)(p:PR):aS V n (nH p)=aS V n (B9 p):=by unfold nH;rw [ZT,GB (l:=p.l) V n (by rw [aa0])]
theorem VG{V:List KV}{n:Nat}{p:PR}(h:aS V n p=true):p.to.length<=8/\p.e.length<=8/\p.gs.length<=16/\p.l.length<=2048:=by
 have h0: ∀{ch v:Bool} {t1 t2 e1 e2 g1 g2 l1 l2:Int},aN p ch v t1 t2 e1 e2 g1 g2 l1 l2=true->t2<=8->e2<=8->g2<=16->l2<=2048->p.to.length<=8/\p.e.length<=8/\p.gs.length<=16/\p.l.length<=2048:=fun hs a b c d=>by simp only [aN,inB,aa1,dT] at hs;omega
 unfold aS at h
 by_cases k0:p.kind=1\/p.kind=2
 ·rw [iT k0] at h;exact h0 h (by decide) (by decide) (by decide) (by decide)
 rw [iF k0] at h
 by_cases k1:p.kind=3
 ·rw [iT k1,aa1,aa1] at h;exact h0 h.1.1 (by decide) (by decide) (by decide) (by decide)
 rw [iF k1] at h
 by_cases k2:p.kind=4
 ·rw [iT k2,aa1,aa1] at h;exact h0 h.1.1 (by decide) (by decide) (by decide) (by decide)
 rw [iF k2] at h
 by_cases k3:p.kind=5
 ·rw [iT k3,aa1] at h;exact h0 h.1 (by decide) (by decide) (by decide) (by decide)
 rw [iF k3] at h
 by_cases k4:p.kind=6
 ·rw [iT k4,aa1,aa1] at h;exact h0 h.1.1 (by decide) (by decide) (by decide) (by decide)
 rw [iF k4] at h
 by_cases k5:p.kind=7
 ·rw [iT k5,aa1] at h;exact h0 h.1 (by decide) (by decide) (by decide) (by decide)
 rw [iF k5] at h
 by_cases k6:p.kind=8
 ·rw [iT k6,aa1] at h;exact h0 h.1 (by decide) (by decide) (by decide) (by decide)
 rw [iF k6] at h
 by_cases k7:p.kind=9
 ·rw [iT k7] at h;exact h0 h (by decide) (by decide) (by decide) (by decide)
 rw [iF k7] at h
 by_cases k8:p.kind=10
 ·rw [iT k8] at h;exact h0 h (by decide) (by decide) (by decide) (by decide)
 rw [iF k8] at h
 by_cases k9:p.kind=11
 ·rw [iT k9] at h;exact h0 h (by decide) (by decide) (by decide) (by decide)
 rw [iF k9] at h
 by_cases k10:p.kind=12\/p.kind=14\/p.kind=15
 ·rw [iT k10,aa1] at h;exact h0 h.1 (by decide) (by decide) (by decide) (by decide)
 rw [iF k10] at h
 by_cases k11:p.kind=13
 ·rw [iT k11,aa1] at h;exact h0 h.1 (by decide) (by decide) (by decide) (by decide)
 rw [iF k11] at h;cases h
section
variable{V:List KV}{C:List Int}
theorem Loc.lens{p:PR}(h:Loc V C p):p.to.length<=8/\p.e.length<=8/\p.gs.length<=16/\p.l.length<=2048:=VG (p:=B9 p) h.kind
theorem Loc.body{p:PR}(h:Loc V C p): ∀g,g∈p.gs-> ∃y,g.body=[y]:=(lV (p:=B9 p) h.kind).2.2
theorem G9(n:Nat):aS V n aK=true:=rfl
theorem WQ(n:Nat):aS V n bL=true:=rfl
theorem wf_skip:zS aK:=by rw [aK,zS,yB,vS,oY];exact ⟨⟨(by intro t h;cases h),trivial,by decide,by decide,by decide⟩,trivial,trivial⟩
theorem NV{α:Type}(l:List α):vS (l.map fun _=>aK):=by
 induction l with
 |nil=>rw [ag7,vS];trivial |cons x r ih=>rw [ac8,vS];exact ⟨wf_skip,ih⟩
theorem skip_okR(n:Nat)(h:Bool):okR V n h aK=true:=by rw [vE,G9];show (true&& !(h&&false)&&zE V n h false []&&nW V n h [])=true;rw [zE,nW,Bool.and_false];rfl
theorem NT{α:Type}(n:Nat)(h:Bool)(l:List α): ∀f,zE V n h f (l.map fun _=>aK)=true:=by
 induction l with
 |nil=>intro f;rw [ag7,zE] |cons x r ih=>intro f;rw [ac8,zE,skip_okR,ih];rfl
theorem sz_skip:gO aK=1:=by rw [mI];show 1+dB []+bT []=1;rw [dB,bT]
theorem ht_skip:pY aK=1:=by rw [oT];show 1+max (jF []) (dZ [])=1;rw [jF,dZ];rfl
theorem NU{α:Type}(l:List α):dB (l.map fun _=>aK)=l.length/\jF (l.map fun _=>aK)<=1:=by
 induction l with
 |nil=>rw [ag7,dB,jF];exact ⟨rfl,by omega⟩ |cons x r ih=>rw [ac8,dB,jF,ih.1,sz_skip,ht_skip,ab1];omega
theorem owns_ok(n:Nat)(h:Bool)(l:List GD):nW V n h (l.map iX)=true:=by
 induction l with
 |nil=>rw [ag7,nW] |cons x r ih=>
  rw [ac8,nW,ih,QE];show (zE V n h false (x.body.map fun _=>aK)&&true)=true;rw [NT];rfl
theorem owns_sz{l:List GD}(hb: ∀g,g∈l-> ∃y,g.body=[y]):bT (l.map iX)=l.length/\dZ (l.map iX)<=1:=by
 induction l with
 |nil=>rw [ag7,bT,dZ];exact ⟨rfl,by omega⟩ |cons x r ih=>
  obtain ⟨i1,i2⟩:=ih fun g hg=>hb g (.tail _ hg);obtain ⟨y,hy⟩:=hb x (.head _);rw [ac8,bT,dZ,i1,lE,uV];show dB (x.body.map fun _=>aK)+_=_/\max (jF (x.body.map fun _=>aK)) _<=1;have h1:=NU x.body;rw [h1.1,hy];rw [hy] at h1;have:=h1.2;constructor
  ·show 1+r.length=r.length+1;omega
  ·omega
theorem owns_wf{l:List GD}(h: ∀g,g∈l->iZ g.cond/\iZ g.time/\pV g.to):yB (l.map iX):=by
 induction l with
 |nil=>rw [ag7,yB];trivial |cons x r ih=>
  rw [ac8,yB];refine ⟨?_,ih fun g hg=>h g (.tail _ hg)⟩;have:=h x (.head _);unfold iX;rw [wfG];exact ⟨⟨this.1,this.2.1,this.2.2⟩,NV _⟩
theorem J1: ∀{l:List KE},(∀x,x∈l->iZ x)->oY l
 | [],_=>by rw [oY];trivial |y::r,h=>by rw [oY];exact ⟨h y (.head _),J1 fun x hx=>h x (.tail _ hx)⟩
theorem Loc.kl(K:KOk V C){p:PR}(h:Loc V C p):E8 V C p:=by
 obtain ⟨l1,l2,l3,l4⟩:=h.lens;refine ⟨h.wait,l3,l4,h.body,⟨by have:=K.vl;show V.length<=_;omega,by have:=K.cu;show C.length<=_;omega,by show 0<=_;omega,?_⟩,?_⟩
 ·show zS (nH p);unfold nH;rw [zS];exact ⟨⟨fun t ht=>(h.to t ht).1,J1 fun x hx=>(h.e x hx).1,by omega,by rw [aa0];omega,by rw [aa0];omega⟩,owns_wf fun g hg=>⟨(h.gs g hg).1.1,(h.gs g hg).2.1.1,(h.gs g hg).2.2.1⟩,NV _⟩
 ·have h1:okR V C.length false (nH p)=true:=by
   rw [vE,VF,h.kind];show (true&& !(false&&_)&&zE V C.length false _ (p.l.map fun _=>aK)&&nW V C.length false (p.gs.map iX))=true;rw [NT,owns_ok];rfl
  have h2:=NU p.l;have h3:=owns_sz h.body;have h4:gO (nH p)=1+p.l.length+p.gs.length:=by rw [mI];show 1+dB (p.l.map fun _=>aK)+bT (p.gs.map iX)=_;rw [h2.1,h3.1]
  have h5:pY (nH p)<=2:=by rw [oT];show 1+max (jF (p.l.map fun _=>aK)) (dZ (p.gs.map iX))<=2;omega
  have h6:fM V C.length false (nH p) 2048 32:=⟨h1,by rw [h4];have:=h.room;omega,by omega⟩;have h7:pH ⟨V,C,nH p,[]⟩=true:=by unfold pH;simp only [aa1,dT];exact ⟨⟨K.vl,K.cl⟩,K.cu⟩
  unfold nV;rw [h7,decide_eq_true h6];show (true&&AQ ⟨V,C,nH p,[]⟩&&QF [] []&&V.all pU&&E6 0 C&&true)=true;rw [K.var,K.ch];rfl
theorem lN:Lax (Loc V C) where
 skip:=⟨G9 _,(by intro h;cases h),(by show 1+0+0<=2048;omega),(by intro t h;cases h),(by intro t h;cases h),(by intro t h;cases h)⟩
 stop:=⟨WQ _,(by intro h;cases h),(by show 1+0+0<=2048;omega),(by intro t h;cases h),(by intro t h;cases h),(by intro t h;cases h)⟩
 seq:=fun p l' h9 hl h=>by
  obtain ⟨k,c,v,i,to,e,gs,l⟩:=p;have hl:l'.length<=l.length:=hl;refine ⟨?_,h.wait,by have:=h.room;show 1+l'.length+gs.length<=2048;have h5:1+l.length+gs.length<=2048:=this;omega,h.to,h.e,h.gs⟩;have h1:=h.kind;unfold B9 at h1⊢;have h9:k=9:=h9;subst h9;have h2:aN ⟨9,c,v,i,to,e,gs,l⟩ false false 0 0 0 0 0 0 0 2048=true:=h1;show aN ⟨9,c,v,i,to,e,gs,l'⟩ false false 0 0 0 0 0 0 0 2048=true;simp only [aN,aa1,inB,dT,PR.l,PR.gs,PR.to,PR.e,PR.c,PR.v,PR.item] at h2⊢;refine ⟨h2.1,?_,?_⟩
  ·omega
  ·have:=h2.2.2;omega
 par:=fun p l' hl h=>by refine ⟨?_,h.wait,by have:=h.room;show 1+l'.length+p.gs.length<=2048;omega,h.to,h.e,h.gs⟩;have h1:=h.kind;unfold B9 at h1⊢;show aS V C.length ⟨if p.kind=16 then 14 else p.kind,p.c,p.v,p.item,p.to,p.e,p.gs,l'⟩=true;rw [GB (l:=p.l) V C.length hl];exact h1
theorem JH{I J:PR->Prop}(h: ∀p,I p->J p): ∀(m:Nat) (p:PR) (n hi:Bool),SizeOf.sizeOf p<=m->okF I n hi p->okF J n hi p
 |0,p,_,_,h,_=>by obtain ⟨k,c,v,i,to,e,gs,l⟩:=p;simp only [PR.mk.sizeOf_spec] at h;omega
 |m+1,p,n,hi,hm,w=>by
  rw [okF_eq] at w⊢;obtain ⟨⟨w1,w2,w3⟩,w4,w5⟩:=w;have hl: ∀(l:List PR),(∀x,x∈l->SizeOf.sizeOf x<=m)-> ∀n0 n1 h0 h1,cO I n0 n1 h0 h1 l->cO J n0 n1 h0 h1 l:=by
   intro l
   induction l with
   |nil=>intro _ n0 n1 h0 h1 _;exact mG |cons x r ih=>
    intro hx n0 n1 h0 h1 w;rw [cO] at w⊢;exact ⟨JH h m x n0 h0 (hx x (.head _)) w.1,ih (fun y hy=>hx y (.tail _ hy)) _ _ _ _ w.2⟩
  refine ⟨⟨h _ w1,w2,w3⟩,hl p.l (fun x hx=>by have:=cK hx;omega) _ _ _ _ w4,BL fun g hg=>?_⟩;have:=nG w5 g hg;rw [oC] at this⊢;exact hl g.body (fun x hx=>by have:=AE hg;have:=zX hx;omega) _ _ _ _ this
theorem okF_its(K:KOk V C){p:PR}{n hi:Bool}(w:okF (Loc V C) n hi p):okF (E8 V C) n hi p:=JH (fun p h=>h.kl K) _ p n hi (aa6 _) w
theorem AN: ∀(m:Nat) (p:PR) (n hi:Bool),SizeOf.sizeOf p<=m->okR V C.length hi p=true->gO p<=2048->zS p->mC p->okF (Loc V C) n hi p
 |0,p,_,_,h,_,_,_,_=>by obtain ⟨k,c,v,i,to,e,gs,l⟩:=p;simp only [PR.mk.sizeOf_spec] at h;omega
 |m+1,p,n,hi,hm,hok,hsz,hwf,hsm=>by
  rw [vE] at hok;simp only [aa1,ag1] at hok;obtain ⟨⟨⟨o1,o2⟩,o3⟩,o4⟩:=hok;have hw:=oM hwf;have hs:=lQ hsm;have hb:=lV o1;have hse:=mI p;have hl: ∀(l:List PR),(∀x,x∈l->SizeOf.sizeOf x<=m/\zS x/\mC x)->dB l<=2048-> ∀n0 n1 f,zE V C.length hi f l=true->cO (Loc V C) n0 n1 (hi||f) hi l:=by
   intro l
   induction l with
   |nil=>intro _ _ n0 n1 f _;exact mG |cons x r ih=>
    intro hx hz n0 n1 f w;rw [zE,aa1] at w;rw [dB] at hz;rw [cO];have h1:=hx x (.head _);refine ⟨AN m x n0 (hi||f) h1.1 w.1 (by omega) h1.2.1 h1.2.2,?_⟩;have:=ih (fun y hy=>hx y (.tail _ hy)) (by omega) n1 n1 false w.2;rw [at7] at this;exact this
  have hroom:1+p.l.length+p.gs.length<=2048:=by
   have h1: ∀l:List PR,l.length<=dB l:=by
    intro l
    induction l with
    |nil=>exact ac0 _ |cons x r ih=>rw [dB,ab1];have:=qV x;omega
   have h2: ∀l:List GD,(∀g,g∈l-> ∃y,g.body=[y])->l.length<=bT l:=by
    intro l
    induction l with
    |nil=>intro _;exact ac0 _ |cons x r ih=>
     intro hb;obtain ⟨y,hy⟩:=hb x (.head _);have:=ih fun g hg=>hb g (.tail _ hg);have:=qV y;rw [bT,ab1,lE,hy,dB,dB];omega
   have:=h1 p.l;have:=h2 p.gs hb.2.2;omega
  rw [okF_eq];refine ⟨⟨⟨?_,fun h=>by omega,hroom,fun t ht=>⟨hw.to t ht,hs.to t ht⟩,fun x hx=>⟨hw.e x hx,hs.e x hx⟩,fun g hg=>?_⟩,fun h=>by omega,fun h=>?_⟩,hl p.l (fun x hx=>⟨by have:=cK hx;omega,hw.l x hx,hs.l x hx⟩) (by omega) _ _ _ o3,BL fun g hg=>?_⟩
  ·unfold B9;rw [iF (by omega)];obtain ⟨k,c,v,i,to,e,gs,l⟩:=p;exact o1
  ·have h1:=BZ (hw.g g hg);have h2:=qQ (hs.g g hg);exact ⟨⟨h1.cond,h2.cond⟩,⟨h1.time,h2.time⟩,h1.to,h2.to⟩
  ·rw [h] at o2;revert o2;cases hi<;>simp
  ·rw [oC];have h1:=BZ (hw.g g hg);have h2:=qQ (hs.g g hg);have h3: ∀(l:List GD),nW V C.length hi l=true-> ∀g,g∈l->okG V C.length hi g=true:=by
    intro l
    induction l with
    |nil=>intro _ g hg;cases hg |cons x r ih=>
     intro h g hg;rw [nW,aa1] at h;rcases ab0.1 hg with rfl|hg
     ·exact h.1
     ·exact ih h.2 g hg
   have h4:=h3 p.gs o4 g hg;rw [QE] at h4;have h5:=hl g.body (fun x hx=>⟨by have:=AE hg;have:=zX hx;omega,h1.body x hx,h2.body x hx⟩) (by have:=BV hg;rw [lE] at this;omega) false false false h4;rw [at7] at h5;exact h5
theorem VU{p:PR}{n hi:Bool}(hok:okR V C.length hi p=true)(hsz:gO p<=2048)(hwf:zS p)(hsm:mC p):okF (Loc V C) n hi p:=AN _ p n hi (aa6 _) hok hsz hwf hsm
end
abbrev s0:List (List Int):=[[7],[1,2,3]]
theorem sl_rows(hs:List (Value×List Int)):slL 1 (bW hs)=(hs.map am7).map rJ:=by simp [slL,bW]
abbrev s1:List (List Int):=[[5,6,7]]
abbrev v0:List KV:=[⟨1,0⟩,⟨3,3⟩]
theorem G6{f:FuncId}{a:List AV}{n:Nat}{s:List (List Int)}(hf:gM prog a9 f a [] (fun p:Value×List (Value×List Int)=> .ms p.1 1 n) (fun p=>[.rows 1 (bW p.2), .row 1 p.1 (uA 1 (bW p.2))]) (fun p=>p.2.map am7=s)):
 Pure prog a9 f a (eQ s):=
 lI.rows (lI.mono hf fun x Λ' ⟨p,h1,h2,h3⟩=>⟨p.1,bW p.2,n,h1,h2,by rw [sl_rows,h3]⟩)
def qU(l:List KV):List (List Int):=if dI l then jH l else []
theorem Put_p(s:List (List Int))(v i x:Int)(h1:s.length<=1073741824)(h2: ∀r,r∈s->r.length<=35184372088832):Pure prog a9 26 [eQ s,AI v,AI i,aL x] (eQ (fU s v i x)):=
 G6 (put_p s v i x h1 h2)
theorem may_pN(l:List KV)(ch:List Int)(q:PR)(pr:List Int)(s:List (List Int))(hb:l.length<=281474976710656)(hs:short s):Pure prog a9 50 [eZ ⟨l,ch,q,pr⟩,eQ s] (AB (sJ l s)):=by
 have hl:((l.map rF).length:Int)=l.length:=by rw [aa0]
 have hsl:((s.map rJ).length:Int)=s.length:=by rw [aa0]
 have hp:=EK l hb
 by_cases hlen:s.length=l.length
 case neg=>
  refine P_ func50 45 fun _ _ _ _=>?_
  (refine rL fun bx=>?_;refine g_ ?_)
  refine e_ 13 T (x':=AB true) (aA (by simp;omega)) ?_;refine R_ ?_;refine Sb.eq (aA ?_);simp [sJ,hlen]
 cases hso:dI l with
 |false=>
  rw [hso] at hp;refine P_ func50 45 fun _ _ _ _=>?_
  (refine rL fun bx=>?_;refine g_ ?_)
  refine A.ad 13 T (x':=AB false) (aA (by simp;omega)) ?_;refine c_ (hp) ?_;refine R_ ?_;refine Sb.eq (aA ?_);simp [sJ,hso]
 |true=>
  rw [hso] at hp;refine P_ func50 45 fun _ _ _ _=>?_
  (refine rL fun bx=>?_;refine g_ ?_)
  refine A.ad 13 T (x':=AB false) (aA (by simp;omega)) ?_;refine c_ (hp) ?_;refine A.ad 21 T (x':=AI (l.length:Nat)) (aM hl) ?_;refine A.ay [1,20,21,22] T ?_;refine l_ (Λ':=[]) ?_;refine A.ar (ι:=Nat) (fun i=>(⟨[(1,eQ s),(20,nR l),(21,AI (l.length:Nat)),(22,AI (i:Int))],[]⟩,[])) (fun i=>i<=l.length/\allEq kX l s i=true) (fun i=>l.length-i) 0 ⟨by omega,rfl⟩ T fun i hi ih=>?_;refine y_ ?_;refine k_ (fun hc=>?_) fun hc=>?_
  ·simp at hc;refine aX hc fun v hv=>ac7 (dC (l:=s) (i:=i) (by omega)) fun r hr=>?_;have hrl:=hs.2 r (aa2 hr);have h1:=OV kX hv hr;refine y_ ?_;refine j_ T (aR hv) T ?_
   (refine b_ fun bx=>?_;refine y_ ?_)
   refine A.freeze 6 T (sz:=2) T T ?_
   by_cases hlr:(r.length:Int)=dL v
   ·refine d_ 15 [0,1,2,3,4,5,6,7,8,9,10,11,12,13,14] [] ?_;refine WA.x T (by omega) (aR hr) T T ?_;refine v_ ?_;refine WA.ad 36 T (x':=AB false) (aA ?_) ?_
    ·rw [aa0,bne_eq_false_iff_eq,hlr,dL];split<;>split<;>omega
    refine rM T (aR hr) T ?_;refine WA.nil T ?_;have hm:=has32_p 69 [.pe 2 (rF v)] (fun x=> !cL v.kind x) (may1_p v) r hrl;refine c_ (hm) ?_;refine k_ (fun hr2=>?_) fun hr2=>?_
    ·have hr2:(r.any fun x=> !cL v.kind x)=true:=hr2;refine y_ ?_;refine R_ ?_;refine Sb.eq (aA ?_);have h2:=KI (f:=kX) (a:=l) (b:=s) (j:=i+1) (by rw [h1,kX,hr2];simp) l.length (by omega);rw [sJ,h2];simp
    ·have hr2:(r.any fun x=> !cL v.kind x)=false:=hr2;refine y_ ?_;refine vI 22 i ?_;refine u_ (ih (i+1) ⟨by omega,by rw [h1,hi.2,kX,hr2,hlr];simp⟩ (by omega))
   ·refine d_ 15 [0,1,2,3,4,5,6,7,8,9,10,11,12,13,14] [] ?_;refine WA.x T (by omega) (aR hr) T T ?_;refine v_ ?_;refine WA.ad 36 T (x':=AB true) (aA ?_) ?_
    ·rw [aa0,bne_iff_ne];unfold dL at hlr;split at hlr<;>split<;>omega
    refine w_ ?_;refine WA.nil T ?_;refine y_ ?_;refine R_ ?_;refine Sb.eq (aA ?_);have h2:=KI (f:=kX) (a:=l) (b:=s) (j:=i+1) (by rw [h1,kX,beq_eq_false_iff_ne.2 hlr];simp) l.length (by omega);rw [sJ,h2];simp
  ·simp at hc;have:i=l.length:=by omega
   subst this;refine y_ ?_;refine R_ ?_;refine Sb.eq (aA ?_);rw [sJ,hso,hi.2,decide_eq_true hlen];rfl
theorem WU(l:List KV)(ch:List Int)(q:PR)(pr:List Int)(hb:l.length<=281474976710656)(hs:dI l=false):Pure prog a9 19 [eZ ⟨l,ch,q,pr⟩] vB:=by
 have hp:=EK l hb;rw [hs] at hp;refine P_ func19 31 fun _ _ _ _=>?_
 (refine b_ fun bx=>?_;refine y_ ?_);exact lR (hp)
theorem store_pN(l:List KV)(ch:List Int)(q:PR)(pr:List Int)(hs:dI l=true):
 gM prog a9 19 [eZ ⟨l,ch,q,pr⟩] [] (fun p:Value×List (Value×List Int)=> .ms p.1 1 l.length) (fun p=>[.rows 1 (bW p.2), .row 1 p.1 (uA 1 (bW p.2))]) (fun p=>p.2.map am7=jH l):=by
 have hs0:=hs;unfold dI at hs0;simp at hs0;have hp:=EK l (by omega);rw [hs] at hp;have hl:((l.map rF).length:Int)=l.length:=by rw [aa0]
 unfold gM;refine lI.of (S:=tt) (fn:=f19) (n:=31) dN func19 T T T T fun w0 h0 F hgs=>?_
 (refine b_ fun bx=>?_;refine y_ ?_);refine c_ (hp) ?_
 refine A.ad 12 T (x':=AI (l.length:Nat)) (aM hl) ?_;refine A.make T T T T T T T T T T T T (by omega) ?_ (by omega) fun zo=>?_
 ·show ((24:Nat):Int)*_<=_;omega
 refine y_ ?_;refine A.ad 3 T (x':= .ms zo 1 l.length) (by rw [ad9];rfl) ?_;refine A.ad 16 T (x':=AI (l.length:Nat)) (aM hl) ?_;refine A.ay [3,15,16,17] T ?_;refine l_ (Λ':=[.row 1 zo (List.replicate (l.length:Int).toNat vB)]) ?_;refine A.au (Λ':=[.row 1 zo (List.replicate l.length vB)]) (by rw [ad9]) ?_;refine A.je 1 ?_
 refine A.ar (ι:=List (Value×List Int)) (fun hs=>(⟨[(3, .ms zo 1 l.length),(15,nR l),(16,AI (l.length:Nat)),(17,AI (hs.length:Nat))],[]⟩,[.rows 1 (bW hs), .row 1 zo (uA 1 (bW hs)++List.replicate (l.length-hs.length) vB)]))
  (fun hs=>hs.map am7=(jH l).take hs.length/\hs.length<=l.length) (fun hs=>l.length-hs.length) [] ⟨rfl,ac0 _⟩ T fun hs hi ih=>?_
 refine y_ ?_;refine k_ (fun hc=>?_) fun hc=>?_
 ·simp at hc;refine aX hc fun v hv=>?_;have hvm:=hs0.2 v (aa2 hv);simp [jG] at hvm;have hlo:1<=dL v/\dL v<=64:=by unfold dL;split<;>omega
  refine y_ ?_;refine j_ T (aR hv) T ?_
  (refine b_ fun bx=>?_;refine y_ ?_)
  refine A.ad 26 T (x':=AI (dL v)) (aM (by unfold dL;split<;>split<;>omega)) ?_;refine A.make T T T T T T T T T T T T (by omega) ?_ (by omega) fun z=>?_
  ·show ((4:Nat):Int)*_<=_;omega
  refine A.ax T T T T T T T T (by omega) (by rw [aa7,kZ,ad4];omega) T ?_;have hrl:(List.replicate (dL v).toNat (0:Int)).length=(dL v).toNat:=ad4;refine A.ad 27 T (x':= .ms z 1 (List.replicate (dL v).toNat (0:Int)).length) (by rw [hrl];rfl) ?_;refine l_ (Λ':=[.row 1 z (List.replicate (dL v).toNat (aL 0)), .rows 1 (bW hs), .row 1 zo (uA 1 (bW hs)++List.replicate (l.length-hs.length) vB)]) ?_;refine A.au (Λ':=[.row 1 z ((List.replicate (dL v).toNat (0:Int)).map aL), .rows 1 (bW hs), .row 1 zo (uA 1 (bW hs)++List.replicate (l.length-hs.length) vB)]) (by rw [List.map_replicate]) ?_;refine A.cd T T T T T T T T T ?_ (xs':=uA 1 (bW (hs++[(z,List.replicate (dL v).toNat 0)]))++List.replicate (l.length-(hs++[(z,List.replicate (dL v).toNat (0:Int))]).length) vB) ?_ ?_
  ·rw [aa7,kZ,ad4];omega
  ·have:=TH hs z (List.replicate (dL v).toNat 0) (l.length-(hs++[(z,List.replicate (dL v).toNat (0:Int))]).length);rw [show l.length-hs.length=l.length-(hs++[(z,List.replicate (dL v).toNat (0:Int))]).length+1 by simp;omega];exact this
  refine A.iq (.refl _) ?_;refine y_ ?_;refine A.ad 17 T (x':=AI (((hs++[(z,List.replicate (dL v).toNat (0:Int))]).length:Nat):Int)) ?_ ?_
  ·rw [qG hs.length (by omega)];simp
  refine A.au (Λ':=[.rows 1 (bW (hs++[(z,List.replicate (dL v).toNat (0:Int))])), .row 1 zo (uA 1 (bW (hs++[(z,List.replicate (dL v).toNat (0:Int))]))++List.replicate (l.length-(hs++[(z,List.replicate (dL v).toNat (0:Int))]).length) vB)]) (by simp [bW]) ?_;refine u_ (ih (hs++[(z,List.replicate (dL v).toNat 0)]) ⟨?_,by simp;omega⟩ (by simp;omega));simp [hi.1,jH,ac6,hv]
 ·simp at hc;have hlen:hs.length=l.length:=by omega
  have hsnd:hs.map am7=jH l:=by rw [hi.1,hlen];exact ak5 (by rw [jH,aa0];exact aa6 _)
  refine A.au (Λ':=[.rows 1 (bW hs), .row 1 zo (uA 1 (bW hs))]) (by rw [hlen,ah9];simp) ?_;refine y_ ?_;refine A.az (Λ':=[.rows 1 (bW hs), .row 1 zo (uA 1 (bW hs))]) T T T kK ⟨(zo,hs), .refl,rfl,hsnd⟩
theorem WS(l:List KV)(ch:List Int)(q:PR)(pr:List Int)(hb:l.length<=281474976710656):Pure prog a9 19 [eZ ⟨l,ch,q,pr⟩] (eQ (qU l)):=by
 cases h:dI l with
 |true=>rw [qU,h,iT T];exact G6 (store_pN l ch q pr h) |false=>
  have:=WU l ch q pr hb h;rw [qU,h];exact fun w0 h vs L F g r q=>(this w0 h vs L F g r q).mono fun _ _ _ ⟨x,Λ',L1,⟨e1,e1'⟩,e2,e3⟩=>⟨eQ [],Λ',L1,⟨rfl,e1'⟩,by subst e1;exact Sb.nil.rp e2,e3⟩
section
variable{V:List KV}{C:List Int}
theorem T0: ∀{l:List GD},(∀g,g∈l->smG g)->EI l
 | [],_=>by rw [EI];trivial |y::r,h=>by rw [EI];exact ⟨h y (.head _),T0 fun x hx=>h x (.tail _ hx)⟩
theorem T7: ∀{l:List GD},(∀g,g∈l->wfG g)->yB l
 | [],_=>by rw [yB];trivial |y::r,h=>by rw [yB];exact ⟨h y (.head _),T7 fun x hx=>h x (.tail _ hx)⟩
theorem J2: ∀{l:List PR},(∀x,x∈l->zS x)->vS l
 | [],_=>by rw [vS];trivial |y::r,h=>by rw [vS];exact ⟨h y (.head _),J2 fun x hx=>h x (.tail _ hx)⟩
theorem T3: ∀{l:List PR},(∀x,x∈l->WW x)->RD l
 | [],_=>by rw [RD];trivial |y::r,h=>by rw [RD];exact ⟨h y (.head _),T3 fun x hx=>h x (.tail _ hx)⟩
theorem DO: ∀(m:Nat) (p:PR) (n hi:Bool),SizeOf.sizeOf p<=m->okF (Loc V C) n hi p->zS p/\mC p/\WW p
 |0,p,_,_,h,_=>by obtain ⟨k,c,v,i,to,e,gs,l⟩:=p;simp only [PR.mk.sizeOf_spec] at h;omega
 |m+1,p,n,hi,hm,w=>by
  rw [okF_eq] at w;obtain ⟨⟨w1,w2,w3⟩,w4,w5⟩:=w;obtain ⟨l1,l2,l3,l4⟩:=w1.lens;have hb:=w1.body;have hL: ∀x,x∈p.l->zS x/\mC x/\WW x:=fun x hx=>by obtain ⟨a,b,hw⟩:=tI w4 hx;exact DO m x a b (by have:=cK hx;omega) hw
  have hG: ∀g,g∈p.gs-> ∀x,x∈g.body->zS x/\mC x/\WW x:=fun g hg x hx=>by have h1:=nG w5 g hg;rw [oC] at h1;obtain ⟨a,b,hw⟩:=tI h1 hx;exact DO m x a b (by have:=AE hg;have:=zX hx;omega) hw
  have hgl: ∀g,g∈p.gs->g.body.length=1:=fun g hg=>by obtain ⟨y,hy⟩:=hb g hg;rw [hy];rfl
  have hto:=w1.to;have he:=w1.e;have hgs:=w1.gs;obtain ⟨k,c,v,i,to,e,gs,l⟩:=p;have l1:to.length<=8:=l1;have l2:e.length<=8:=l2;have l3:gs.length<=16:=l3;have l4:l.length<=2048:=l4;rw [zS,mC,WW]
  refine ⟨⟨⟨fun t ht=>(hto t ht).1,J1 fun x hx=>(he x hx).1,by omega,by omega,by omega⟩,T7 fun g hg=>?_,J2 fun x hx=>(hL x hx).1⟩,
   ⟨⟨fun t ht=>(hto t ht).2,fun x hx=>(he x hx).2,by omega,by omega,by omega,by omega⟩,T0 fun g hg=>?_,xR fun x hx=>(hL x hx).2.1⟩,by omega,T3 fun x hx=>(hL x hx).2.2⟩
  ·have h1:=hgs g hg;have h2:=hG g hg;obtain ⟨k',e',c',i',to',t',b'⟩:=g;rw [wfG];exact ⟨⟨h1.1.1,h1.2.1.1,h1.2.2.1⟩,J2 fun x hx=>(h2 x hx).1⟩
  ·have h1:=hgs g hg;have h2:=hG g hg;have h3:=hgl g hg;obtain ⟨k',e',c',i',to',t',b'⟩:=g;have h3:b'.length=1:=h3;rw [smG];exact ⟨⟨h1.1.2,h1.2.1.2,h1.2.2.2,by omega⟩,xR fun x hx=>(h2 x hx).2.1⟩
theorem QD{p:PR}{n hi:Bool}(w:okF (Loc V C) n hi p):zS p/\mC p/\WW p:=DO _ p n hi (aa6 _) w
end
structure ST where
 store:List (List Int)
 root:PR
 inn:List Int
 time:Int
abbrev gI(s:ST):AV:= .ag [eQ s.store,aU s.root.kind,AI s.root.c,AI s.root.v,aU s.root.item,iK s.root.to,c8 s.root.e,rH s.root.gs,iQ s.root.l,rJ s.inn,aL s.time]
structure MV where
 kind:Int
 ec:Int
 ev:Int
 next:ST
abbrev jZ(m:MV):AV:= .ag [aU m.kind,AI m.ec,aL m.ev,eQ m.next.store,aU m.next.root.kind,AI m.next.root.c,AI m.next.root.v,aU m.next.root.item,iK m.next.root.to,c8 m.next.root.e,rH m.next.root.gs,iQ m.next.root.l,rJ m.next.inn,aL m.next.time]
structure d6(k:KN)(s:ST):Prop where
 may:nV k=true
 wf:KG k
 store:sJ k.vars s.store=true
 ws:OS s.store
 root:okF (Loc k.vars k.chans) true false s.root
 wt:iO s.root<=81920
 dw:lM s.root<=96
 nf:aD s.root=s.root
 inn: ∀x,x∈s.inn->i32 x
 innl:s.inn.length<=35184372088832
 time:i32 s.time
theorem S7{k:KN}(h:nV k=true):KOk k.vars k.chans:=by unfold nV pH at h;simp only [aa1,dT] at h;obtain ⟨⟨⟨⟨⟨⟨⟨a,b⟩,c⟩,_⟩,_⟩,d⟩,e⟩,_⟩:=h;exact ⟨a,b,c,d,e⟩
theorem MR{k:KN}(h:nV k=true):fM k.vars k.chans.length false k.root 2048 32:=by unfold nV at h;simp only [aa1,dT] at h;exact h.2
theorem KOk.ji{V:List KV}{C:List Int}(h:KOk V C):dI V=true:=by
 unfold dI;have h1:=h.var;have h2:=h.vl;rw [ac5] at h1;simp only [aa1,dT,ag1,am8];refine ⟨h2,fun v hv=>?_⟩;have:=h1 v hv;simp only [pU,nI,aa1,dT] at this;have h3:jG v=true:=by simp only [jG,aa1,aj7,beq_iff_eq,dT];omega
 rw [h3];decide
theorem uZ{l:List KV}{s:List (List Int)}(h:sJ l s=true):s.length<=256/\ ∀r,r∈s->r.length<=64:=by
 unfold sJ dI at h;simp only [aa1,dT,ag1,am8] at h;obtain ⟨⟨h1,h2,h3⟩,h4⟩:=h;refine ⟨by omega,fun r hr=>?_⟩;obtain ⟨i,hi,rfl⟩:=List.getElem_of_mem hr;have hi':i<l.length:=by omega
 have h5:=(ac5.1 h4) i (ae9.2 hi');rw [ab6 hi',ab6 hi] at h5;have h6:jG l[i]=true:=by have:=h3 l[i] (List.getElem_mem hi');simpa using this
 simp only [jG,kX,dL,aa1,dT,beq_iff_eq] at h5 h6;have h7:=h5.1;split at h7<;>omega
theorem d6.short{k:KN}{s:ST}(h:d6 k s):short s.store:=by obtain ⟨a,b⟩:=uZ h.store;exact ⟨by omega,fun r hr=>by have:=b r hr;omega⟩
theorem Z9{p:PR}(h:aD p=p):GK p:=by rw [<-h];exact norm_is p
structure lH where
 kind:Int
 store:List (List Int)
 c:Int
 v:Int
 i:Int
 item:Int
 value:Int
 next:PR
def fB(st:List (List Int))(next:PR):List lH:=[⟨116,st,0,0,0,0,0,next⟩]
def fF(s:ST)(c item:Int)(to:PL)(next:PR):List lH:=match cZ s.store to.v to.ix with
 |none=>fB s.store bL |some (v,i)=>[⟨105,[],c,v,i,item,0,next⟩]
def B8(s:ST)(t:Int):Bool:=decide (0<IntKind.i32.wrap (s.time-t))
def kJ(st:List (List Int)):List KE->Option (List Int)
 | []=>some [] |e::r=>match bV st e with
  |none=>none |some x=>(kJ st r).map (x:: ·)
def nK(J9:List (List Int)):List PL->List Int->List (List Int)->Option (List (List Int))
 | [],_,st=>some st |to::r,xs,st=>match cZ J9 to.v to.ix with
  |none=>none |some (v,j)=>match xs with
   | []=>none |x::xr=>nK J9 r xr (fU st v j x)
def iD(s:ST)(p:PR):List lH:=match kJ s.store p.e with
 |none=>fB s.store bL |some xs=>match nK s.store p.to xs s.store with
  |none=>fB s.store bL |some st=>fB st aK
def fE(l:List PR):PR:=match l with
 | []=>aK |x::_=>x
def eL(s:ST):List GD->List lH
 | []=>fB s.store bL |g::r=>match bV s.store g.cond with
  |none=>fB s.store bL |some x=>if x=1 then fB s.store (fE g.body) else eL s r
def fQ(st:List (List Int))(g:GD):Option GD:=match bV st g.cond with
 |none=>none |some x=>if g.kind=4 then (match bV st g.time with
  |none=>none |some t=>some ⟨g.kind,lX x,g.c,g.item,g.to,lX t,g.body⟩) else some ⟨g.kind,lX x,g.c,g.item,g.to,g.time,g.body⟩
def cY(st:List (List Int)):List GD->Option (List GD)
 | []=>some [] |g::r=>match fQ st g with
  |none=>none |some y=>(cY st r).map (y:: ·)
def eM(s:ST)(p:PR):List lH:=match cY s.store p.gs with
 |none=>fB s.store bL |some gs=>fB s.store ⟨16,0,0,0,[],[],gs,[]⟩
def cD(s:ST)(g:GD):List lH:=if g.cond.n≠1 then [] else if g.kind=3 then fF s g.c g.item g.to (fE g.body) else if g.kind=2\/B8 s g.time.n=true then fB s.store (fE g.body) else []
def mE(st:List (List Int))(v:Int)(n:Nat):List (List Int):=(List.range n).foldl (fun st i=>fU st v (i:Nat) 0) st
def rowOf(st:List (List Int))(v:Int):List Int:=match st[v.toNat]? with
 |some r=>r |none=>[]
def eR(s:ST)(p:PR):List lH:=match p.e with
 | []=>[] |e::_=>match bV s.store e with
  |none=>fB s.store bL |some x=>if p.kind=6 then [⟨111,[],p.c,0,0,0,x,aK⟩] else if p.kind=13/\x=1 then fB s.store ⟨9,0,0,0,[],[],[],[fE p.l,p]⟩ else if p.kind=13\/B8 s x=true then fB s.store aK else []
def xS(s:ST)(p:PR):List lH:=match p.to with
 | []=>[] |to::_=>match cZ s.store to.v to.ix with
  |none=>fB s.store bL |some (v,i)=>fB (fU s.store v i s.time) aK
def inM(s:ST)(p:PR):List lH:=match p.to with
 | []=>[] |to::_=>fF s p.c p.item to aK
def bA(s:ST)(p:PR):List lH:=
 if p.kind=3 then fB (mE s.store p.v (rowOf s.store p.v).length) aK
 else if p.kind=4 then iD s p
 else if p.kind=7 then xS s p
 else if p.kind=12 then eL s p.gs
 else if p.kind=14\/p.kind=15 then eM s p
 else if p.kind=16 then p.gs.flatMap (cD s)
 else if p.kind=5 then inM s p
 else if p.kind=8\/p.kind=13\/p.kind=6 then eR s p
 else []
def bR(s:ST):List (lH×List Nat):=(cX [] s.root).flatMap fun cp=>(bA s cp.1).map fun a=>(a,cp.2)
def eG(s:ST)(kind ec ev:Int)(st:List (List Int))(root:PR)(inn:List Int):MV:=⟨kind,ec,ev,⟨st,aD root,inn,s.time⟩⟩
def iG(s:ST)(a:lH×List Nat)(b:lH×List Nat):List MV:=
 if b.1.kind=105/\b.1.c=a.1.c/\cL b.1.item a.1.value=true then [eG s 2 a.1.c a.1.value (fU s.store b.1.v b.1.i a.1.value) (bN b.1.next (bN a.1.next s.root a.2) b.2) s.inn] else []
def fK(s:ST)(acts:List (lH×List Nat))(a:lH×List Nat):List MV:=
 if a.1.kind=116 then [eG s 1 0 0 a.1.store (bN a.1.next s.root a.2) s.inn]
 else if a.1.kind=105/\a.1.c=0/\0<s.inn.length then [eG s 2 0 (s.inn.headD 0) (fU s.store a.1.v a.1.i (s.inn.headD 0)) (bN a.1.next s.root a.2) s.inn.tail]
 else if a.1.kind=111/\a.1.c=1 then [eG s 2 1 a.1.value s.store (bN a.1.next s.root a.2) s.inn]
 else if a.1.kind=111 then acts.flatMap (iG s a)
 else []
def N8(s:ST):MV:=⟨3,0,0,⟨s.store,s.root,s.inn,IntKind.i32.wrap (s.time+1)⟩⟩
def nE(s:ST):List MV:=(bR s).flatMap (fK s (bR s))++[N8 s]
theorem jN{α:Type}{p:α->α->Bool}: ∀{l:List α},(∀x,x∈l->p x x=true)->eN p l l=true
 | [],_=>by rw [eN] |x::r,h=>by rw [eN,h x (.head _),jN fun y hy=>h y (.tail _ hy)];rfl
theorem CQ: ∀(m:Nat) (e:KE),SizeOf.sizeOf e<=m->OP e e=true
 |0,e,h=>by obtain ⟨k,o,t,n,v,l⟩:=e;simp only [KE.mk.sizeOf_spec] at h;omega
 |m+1,e,h=>by
  rw [YR,tA,jN fun x hx=>CQ m x ?_]
  ·simp
  ·obtain ⟨k,o,t,n,v,l⟩:=e;have:=List.sizeOf_lt_of_mem hx;simp only [KE.mk.sizeOf_spec,KE.l] at this h;omega
theorem wI(e:KE):OP e e=true:=CQ _ e (aa6 _)
theorem LQ(p:PL):YU p p=true:=by unfold YU;rw [tA,jN fun x _=>wI x];simp
theorem uQ: ∀(m:Nat) (p:PR),SizeOf.sizeOf p<=m->U2 p p=true
 |0,p,h=>by obtain ⟨k,c,v,i,to,e,gs,l⟩:=p;simp only [PR.mk.sizeOf_spec] at h;omega
 |m+1,p,h=>by
  rw [YV,jN fun x _=>LQ x,tA,jN fun x _=>wI x,IG,wJ,jN fun x hx=>uQ m x (by have:=cK hx;omega),jN fun g hg=>?_]
  ·simp
  ·rw [YQ,wI,wI,LQ,wJ,jN fun x hx=>uQ m x (by have:=AE hg;have:=zX hx;omega)];simp
theorem YW(p:PR):U2 p p=true:=uQ _ p (aa6 _)
theorem smay_p(k:KN)(s:ST)(h:d6 k s):Pure prog a9 23 [eZ k,gI s] (AB true):=by
 have K:=S7 h.may;have hk:=I3 k h.wf;rw [h.may] at hk;have he:=may_pN k.vars k.chans k.root k.procs s.store (by have:=K.vl;omega) h.short;rw [h.store] at he;obtain ⟨w1,w2,w3⟩:=QD h.root;have hn:=QA s.root w2 w3;rw [h.nf] at hn;have hsm:=TN s.root s.root w2;rw [YW] at hsm;have hnf:=Z9 h.nf;have hsz:=nf_sz hnf;have hht:=nf_ht hnf;have hwt:=h.wt;have hdw:=h.dw;refine P_ func23 31 fun _ _ _ _=>?_;refine b_ fun b1=>?_;refine A.b T fun b2=>?_;refine y_ ?_;refine c_ hk ?_;refine n_ he ?_
 (refine b_ fun bx=>?_;refine y_ ?_)
 have hfi:=fun b=>fine_p k.vars k.chans b k.root s.root 81920 0 true false (okF_its K h.root) (by omega) (by decide) (by omega) (by decide);refine A.au (Λ':=[.box bx (FJ k.vars k.chans k.root 81920), .box b2 (gI s), .box b1 (eZ k)]) T ?_;refine A.jm 2 bx (x:=FJ k.vars k.chans k.root 81920) 9 [0,1,2,3,4,5,6,7,8] (fun i=>if i=2 then [2] else []) [(2,AB true),(8,aB s.root)] (by decide) (by kernel_rfl) (by kernel_rfl) ?_;refine w_ ?_;refine WA.gw T T T T T T T T T T T (hfi _) (fun y' Λ' h=>h.choose_spec.1) .refl ?_;refine w_ ?_;refine WA.c T T hn (.sub .refl) ?_;refine WA.nil (l:=[]) T ?_;exact lR hsm
abbrev uC(path:List Nat):AV:=match path with
 | []=> .v (.slice none 0 0) |i::r=> .sl 1 ((i::r).map fun i=>AI (i:Nat)) none
theorem qK(path:List Nat)(i:Nat):uC (path++[i])= .sl 1 ((path.map fun i=>AI (i:Nat))++[AI (i:Nat)]) none:=by
 cases path with
 |nil=>rfl |cons j r=>show AV.sl 1 (((j::r)++[i]).map fun i=>AI (i:Nat)) none=_;rw [ae2];rfl
theorem BA(p:PR)(path:List Nat):Pure prog a9 53 [aB p,uC path] (.fn 79 [] [.pe 8 (aB p), .pe 1 (uC path)]):=by
 cases path with
 |nil=>
  refine P_ func53 6 fun _ _ _ _=>?_;refine b_ fun b1=>?_;refine A.b T fun b2=>?_;refine y_ ?_;refine A.df 4 b1 (y':= .fn 79 [] [.pe 8 (aB p),cT b2]) T T T (.fn (.cons .ptr (.sub .refl))) ?_;refine A.df 4 b2 (y':= .fn 79 [] [.pe 8 (aB p), .pe 1 _]) T T T (.fn (.cons (.sub .refl) (.cons .ptr (.sub .refl)))) ?_;exact r_
 |cons i r=>
  refine P_ func53 6 fun _ _ _ _=>?_;refine b_ fun b1=>?_;refine A.b T fun b2=>?_;refine y_ ?_;refine A.df 4 b1 (y':= .fn 79 [] [.pe 8 (aB p),cT b2]) T T T (.fn (.cons .ptr (.sub .refl))) ?_;refine A.df 4 b2 (y':= .fn 79 [] [.pe 8 (aB p), .pe 1 _]) T T T (.fn (.cons (.sub .refl) (.cons .ptr (.sub .refl)))) ?_;exact r_
theorem qB(path:List Nat): ∀(a b:List PR) (j:Nat),cW path j (a++b)=cW path j a++cW path (j+a.length) b
 | [],b,j=>by rw [ah8,cW,ah8];rfl |x::r,b,j=>by rw [List.cons_append,cW,cW,qB path r b (j+1),List.append_assoc,ab1,show j+1+r.length=j+(r.length+1) by omega]
theorem FP(path:List Nat){l:List PR}{i:Nat}{x:PR}(hx:l[i]? =some x):cW path 0 l=cW path 0 (l.take i)++(cX (path++[i]) x++cW path (i+1) (l.drop (i+1))):=by have hi:=vW hx;have h:=qB path (l.take i) (l.drop i) 0;rw [List.take_append_drop,bS hx,cW,ac3,ag9,ai3 (by omega)] at h;exact h
theorem CG(path:List Nat){l:List PR}{i:Nat}{x:PR}(hx:l[i]? =some x):cW path 0 (l.take (i+1))=cW path 0 (l.take i)++cX (path++[i]) x:=by have hi:=vW hx;rw [ac6,hx];show cW path 0 (l.take i++[x])=_;rw [qB,ac3,ai3 (by omega),cW,cW,ae3,ag9]
theorem A.ju{K:AC}{k:List It}{E:aH}{Λ:List aF}(t:Nat){sz n:Nat}{l:List AV}{o:Option Value}(hx:bJ E.us t=some (.pe n (.sl sz l o)))(next:A K k ⟨(t, .pe n (.sl sz l none))::E.us,E.cs⟩ Λ):A K k E Λ:=by
 refine ⟨fun h e L hl r q=>?_⟩;rcases r.1.look t with ⟨y,v,e1,e2,e3⟩|⟨e1,e2⟩
 ·rw [hx] at e1;injection e1 with e1;subst e1;rw [kO] at e3;obtain ⟨b,o',z,rfl,f1,f2,f3⟩:=e3;exact V.val t e2 T (next.run _ ⟨(t,_)::e.us,e.cs⟩ L hl ⟨r.1.put (kO.2 ⟨b,o',z,rfl,Sb.rp .cw f1,f2,f3⟩),r.2⟩ q)
 ·rw [hx] at e1;cases e1
abbrev YC(cp:PR×List Nat):List AV:=[aB cp.1,uC cp.2]
abbrev rQ(p:PR)(path:List Nat):Prop:=Iter prog tt dN a9 79 [.pe 8 (aB p), .pe 1 (uC path)] ((cX path p).map YC)
theorem VD(p:PR)(path:List Nat)(h9:p.kind≠9)(hb:cP p=false):rQ p path:=by
 have hbr:=gR p;rw [hb] at hbr;have hb': ¬(p.kind=10\/p.kind=11):=by simpa [cP] using hb
 unfold rQ;rw [pA,iF h9,iF hb'];cases path with
 |nil=>
  refine ⟨f79,_,func79,rfl,rfl,rfl,rfl,fun w0 h0 c hfn h1 hg1 F Q Λ0 hl hi hlen hround hfin hstop=>?_⟩;refine b_ fun b3=>?_;refine y_ ?_;refine e_ 12 T (x':=AB false) (aA (beq_eq_false_iff_ne.2 h9)) ?_;refine c_ hbr ?_;refine A.fo c T T T T T T (hlen _ (.head _)) .refl hl (al2 _ _).symm hi (hround 0 _ T) (fun Λ'' hi'=>?_) (fun st pd Λ'' hst hs=>?_)
  ·refine y_ ?_;exact A.eg T T (ah2 _ _) (hfin _ hi') T
  ·refine y_ ?_;exact A.eg T T (ah2 _ _) (hstop _ _ _ hst hs) T
 |cons i r=>
  refine ⟨f79,_,func79,rfl,rfl,rfl,rfl,fun w0 h0 c hfn h1 hg1 F Q Λ0 hl hi hlen hround hfin hstop=>?_⟩;refine b_ fun b3=>?_;refine y_ ?_;refine e_ 12 T (x':=AB false) (aA (beq_eq_false_iff_ne.2 h9)) ?_;refine c_ hbr ?_;refine A.fo c T T T T T T (hlen _ (.head _)) .refl hl (al2 _ _).symm hi (hround 0 _ T) (fun Λ'' hi'=>?_) (fun st pd Λ'' hst hs=>?_)
  ·refine y_ ?_;exact A.eg T T (ah2 _ _) (hfin _ hi') T
  ·refine y_ ?_;exact A.eg T T (ah2 _ _) (hstop _ _ _ hst hs) T
theorem ZP(p x:PR)(r:List PR)(path:List Nat)(h9:p.kind=9)(hl':p.l=x::r)(ih:rQ x path):rQ p path:=by
 have hcp:=BA x path;have hat:(bC p.l)[(0:Int).toNat]? =some (yR x):=by rw [hl',bC];rfl
 unfold rQ at ih⊢;rw [pA path p,iT h9,hl',wC];cases path with
 |nil=>
  refine ⟨f79,_,func79,rfl,rfl,rfl,rfl,fun w0 h0 c hfn h1 hg1 F Q Λ0 hl hi hlen hround hfin hstop=>?_⟩;refine b_ fun b3=>?_;refine y_ ?_;refine e_ 12 T (x':=AB true) (aA (by rw [h9];rfl)) ?_;refine d_ 7 [0,1,2,3,4,6,5] [(5, .fn 79 [] [.pe 8 (aB x), .pe 1 (uC [])])] ?_;refine rM T hat (bP x) ?_;refine WA.c T T hcp (.sub .refl) ?_;refine WA.nil (l:=[]) T ?_;refine A.fp c 0 T T T T T T ih .refl hl (al2 _ _).symm hi hlen (fun i xs h=>by rw [ag9];exact hround i xs h) (fun Λ'' hi'=>?_) (fun st pd Λ'' hst hs=>?_)
  ·refine y_ ?_;exact A.eg T T (ah2 _ _) (hfin _ (by rw [ag9] at hi';exact hi')) T
  ·refine y_ ?_;exact A.eg T T (ah2 _ _) (hstop _ _ _ hst hs) T
 |cons i r=>
  refine ⟨f79,_,func79,rfl,rfl,rfl,rfl,fun w0 h0 c hfn h1 hg1 F Q Λ0 hl hi hlen hround hfin hstop=>?_⟩;refine b_ fun b3=>?_;refine y_ ?_;refine e_ 12 T (x':=AB true) (aA (by rw [h9];rfl)) ?_;refine d_ 7 [0,1,2,3,4,6,5] [(5, .fn 79 [] [.pe 8 (aB x), .pe 1 (uC (i::r))])] ?_;refine rM T hat (bP x) ?_;refine WA.c T T hcp (.sub .refl) ?_;refine WA.nil (l:=[]) T ?_;refine A.fp c 0 T T T T T T ih .refl hl (al2 _ _).symm hi hlen (fun i xs h=>by rw [ag9];exact hround i xs h) (fun Λ'' hi'=>?_) (fun st pd Λ'' hst hs=>?_)
  ·refine y_ ?_;exact A.eg T T (ah2 _ _) (hfin _ (by rw [ag9] at hi';exact hi')) T
  ·refine y_ ?_;exact A.eg T T (ah2 _ _) (hstop _ _ _ hst hs) T
abbrev W6(lp:Nat):AV:= .v (.func (.yield lp) #[] #[])
theorem ZO(p:PR)(path:List Nat)(hb:cP p=true)(hll:p.l.length<=16777216)(hpl:path.length<=1000)(hrec: ∀x,x∈p.l-> ∀i:Nat,rQ x (path++[i])):rQ p path:=by
 have hbr:=gR p;rw [hb] at hbr;have hb':p.kind=10\/p.kind=11:=by simpa [cP] using hb
 have h9:p.kind≠9:=by omega
 have n1:((bC p.l).length:Int)=p.l.length:=by rw [aW]
 unfold rQ;rw [pA path p,iF h9,iT hb'];cases path with
 |nil=>
  refine ⟨f79,_,func79,rfl,rfl,rfl,rfl,fun w0 h0 c hfn h1 hg1 F Q Λ0 hl hi hlen hround hfin hstop=>?_⟩;refine b_ fun b3=>?_;refine y_ ?_;refine e_ 12 T (x':=AB false) (aA (beq_eq_false_iff_ne.2 h9)) ?_;refine c_ hbr ?_;refine A.ad 29 T (x':=AI (p.l.length:Nat)) (aM n1) ?_;refine A.ay [1,2,3,28,29,30] T ?_
  refine A.jd (ι:=Nat×List aF) (fun s=>(⟨[(1, .pe 8 (aB p)),(2, .pe 1 (uC [])),(3,cT b3),(28,iQ p.l),(29,AI (p.l.length:Nat)),(30,AI (s.1:Nat))],[]⟩, .box b3 (W6 c.lp):: .loop c.lp c.r0 .ready none::s.2))
   (fun s=>s.1<=p.l.length/\c.Inv (cW [] 0 (p.l.take s.1)).length s.2) (fun s=>p.l.length-s.1) (0,Λ0) ⟨ac0 _,by rw [an1,cW];exact hi⟩ T fun h2 hg2 D1 s hl2 hs ih=>?_
  obtain ⟨i,Λ1⟩:=s;obtain ⟨hs1,hs2⟩:=hs;simp only at hs1 hs2;refine y_ ?_;refine k_ (fun hc=>?_) fun hc=>?_
  ·have hci:i<p.l.length:=by simpa using hc
   clear hc;refine aX hci fun x hx=>?_;have hcp:=BA x ([]++[i]);have hit:=hrec x (aa2 hx) i;rw [qK] at hcp;unfold rQ at hit;rw [qK] at hit;have hget:=FP [] hx;have htake:=CG [] hx;refine y_ ?_;refine j_ T (cF hx) (bP x) ?_
   (refine b_ fun bx=>?_;refine y_ ?_)
   refine A.dj ty3.size 0 none (fun _=>rfl) (fun x h=>by cases h) ?_;refine A.gz 9 ty3.size (.slice none 0 0) 10 [0,1,2,3,4,5,6,7,8,9] (fun i=>if i=9 then [8] else []) [] (by decide) T (by kernel_rfl) ?_;refine w_ ?_;refine WA.jc T T T T T T T T T (aa6 0) (aa6 0) T ?_;refine w_ ?_;refine WA.lit T T T T T T T fun bw=>?_;refine WA.append T T T T T T T T T T T T T T T T T T (.pub (j:=8) T T (.sub .refl)) (by show (0+1)*1<=1073741824;omega) fun z'=>?_;refine WA.nil (l:=[_]) T ?_;refine n_ hcp ?_;refine A.ay [1,2,3,28,29,30,45] T ?_;refine l_ (Λ':= .box b3 (W6 c.lp):: .loop c.lp c.r0 .ready none::Λ1) ?_;refine y_ ?_
   refine A.eu (xss:=(cX ([]++[i]) x).map YC) T .refl hit T T (fun xs hxs=>?_) (fun j Λ=> ∃Λ'',Λ= .box b3 (W6 c.lp):: .loop c.lp c.r0 .ready none::Λ''/\c.Inv ((cW [] 0 (p.l.take i)).length+j) Λ'')
    (fun st pd Λ=>st= .done/\pd=some .ret/\ ∃st' pd' Λ'',st'≠ .busy/\Λ= .box b3 (W6 c.lp):: .loop c.lp c.r0 st' pd'::Λ''/\c.Stop st' pd' Λ'') ⟨Λ1,rfl,hs2⟩ (fun h3 lp tm hl3 j xs Λi h4 hg4 F4 hxs hinv hl4=>?_) (fun h3 hg3 r Λ' hl3 hinv=>?_) (fun h3 hg3 r st pd Λ' hl3 hst hs=>?_)
   ·rw [ac1] at hxs;obtain ⟨cp,_,rfl⟩:=hxs
    rfl
   ·obtain ⟨Λ3,rfl,hi3⟩:=hinv;obtain ⟨cp,hcp1,rfl⟩: ∃cp,(cX ([]++[i]) x)[j]? =some cp/\YC cp=xs:=by
     rw [ab9] at hxs;cases hq:(cX ([]++[i]) x)[j]? with
     |none=>rw [hq] at hxs;cases hxs |some cp=>rw [hq] at hxs;injection hxs with hxs;exact ⟨cp,rfl,hxs⟩
    have hg:((cW [] 0 p.l).map YC)[(cW [] 0 (p.l.take i)).length+j]? =some (YC cp):=by rw [ab9,hget,ad1 (by omega),ah5,ad6 (vW hcp1),hcp1];rfl
    have hr:=hround _ _ hg;have hln:=hlen _ (aa2 hg);have hle:h0.le h4:=GH.le_trans hl (GH.le_trans hl2 (GH.le_trans hl3 hl4))
    (refine b_ fun bx=>?_;refine y_ ?_)
    refine A.begin T T T ?_;refine y_ ?_;refine A.fo c (Λi:=Λ3) T T T T T T hln .refl hle (af6 (l₁:=[_,_,_])) hi3 hr (fun Λ4 hi4=>?_) (fun st pd Λ4 hst4 hs4=>?_)
    ·refine A.perm af6 ?_;refine l_ (Λ':=_:: .box b3 (W6 c.lp):: .loop c.lp c.r0 .ready none::Λ4) ?_;refine y_ ?_;exact A.dm T T (.inl ⟨rfl,_,rfl,Λ4,rfl,by rw [<-am2];exact hi4⟩)
    ·refine A.perm af6 ?_;refine l_ (Λ':=_:: .box b3 (W6 c.lp):: .loop c.lp c.r0 st pd::Λ4) ?_;refine y_ ?_;exact A.ej T T (.inr ⟨rfl, .done,some .ret,_,(by intro h;cases h),rfl,rfl,rfl,st,pd,Λ4,hst4,rfl,hs4⟩)
   ·obtain ⟨Λ3,rfl,hi3⟩:=hinv;have hi4:c.Inv (cW [] 0 (p.l.take (i+1))).length Λ3:=by rw [htake,aa7];rw [aa0] at hi3;exact hi3
    refine y_ ?_;refine vI 30 i ?_;refine u_ (ih h3 hg3 _ (i+1,Λ3) hl3 ⟨by show i+1<=_;omega,hi4⟩ (by show _-(i+1)<_-i;omega))
   ·obtain ⟨rfl,rfl,st',pd',Λ3,hst',rfl,hs'⟩:=hs;exact A.eg T T (ai5 _ _) (hstop _ _ _ hst' hs') T
  have hci: ¬i<p.l.length:=by simpa using hc
  clear hc ih;have hil:i=p.l.length:=by omega
  rw [hil,ac4] at hs2;refine y_ ?_;exact A.eg T T (ai5 _ _) (hfin _ (by rw [aa0];exact hs2)) T
 |cons i0 r0=>
  refine ⟨f79,_,func79,rfl,rfl,rfl,rfl,fun w0 h0 c hfn h1 hg1 F Q Λ0 hl hi hlen hround hfin hstop=>?_⟩;refine b_ fun b3=>?_;refine y_ ?_;refine e_ 12 T (x':=AB false) (aA (beq_eq_false_iff_ne.2 h9)) ?_;refine c_ hbr ?_;refine A.ad 29 T (x':=AI (p.l.length:Nat)) (aM n1) ?_;refine A.ay [1,2,3,28,29,30] T ?_
  refine A.jd (ι:=Nat×List aF) (fun s=>(⟨[(1, .pe 8 (aB p)),(2, .pe 1 (uC (i0::r0))),(3,cT b3),(28,iQ p.l),(29,AI (p.l.length:Nat)),(30,AI (s.1:Nat))],[]⟩, .box b3 (W6 c.lp):: .loop c.lp c.r0 .ready none::s.2))
   (fun s=>s.1<=p.l.length/\c.Inv (cW (i0::r0) 0 (p.l.take s.1)).length s.2) (fun s=>p.l.length-s.1) (0,Λ0) ⟨ac0 _,by rw [an1,cW];exact hi⟩ T fun h2 hg2 D1 s hl2 hs ih=>?_
  obtain ⟨i,Λ1⟩:=s;obtain ⟨hs1,hs2⟩:=hs;simp only at hs1 hs2;refine y_ ?_;refine k_ (fun hc=>?_) fun hc=>?_
  ·have hci:i<p.l.length:=by simpa using hc
   clear hc;refine aX hci fun x hx=>?_;have hcp:=BA x ((i0::r0)++[i]);have hit:=hrec x (aa2 hx) i;rw [qK] at hcp;unfold rQ at hit;rw [qK] at hit;have hget:=FP (i0::r0) hx;have htake:=CG (i0::r0) hx;refine y_ ?_;refine j_ T (cF hx) (bP x) ?_
   (refine b_ fun bx=>?_;refine y_ ?_)
   refine A.jv 2 T (by intro h;cases h) fun bb oo cc=>?_;refine A.dj ty3.size ((i0::r0).map fun i=>AI (i:Nat)).length (some ⟨bb,oo,none⟩) (fun h=>by cases h) (fun x h=>by injection h with h;rw [<-h]) ?_;refine A.gz 9 ty3.size (.slice (some ⟨bb,oo,none⟩) ((i0::r0).map fun i=>AI (i:Nat)).length ((i0::r0).map fun i=>AI (i:Nat)).length) 10 [0,1,2,3,4,5,6,7,8,9] (fun i=>if i=9 then [8] else []) [] (by decide) T (by kernel_rfl) ?_;refine w_ ?_;refine WA.slice3 T T T T T T T T T T T T ?_;refine w_ ?_;refine WA.lit T T T T T T T fun bw=>?_;refine WA.append T T T T T T T T T T T T T T T T T T (.pub (j:=8) T T (.sub .refl)) (by show (((i0::r0).map fun i=>AI (i:Nat)).length+1)*1<=_;rw [aa0];omega) fun z'=>?_;refine WA.nil (l:=[_]) T ?_;refine n_ hcp ?_;refine A.ay [1,2,3,28,29,30,45] T ?_;refine l_ (Λ':= .box b3 (W6 c.lp):: .loop c.lp c.r0 .ready none::Λ1) ?_;refine y_ ?_
   refine A.eu (xss:=(cX ((i0::r0)++[i]) x).map YC) T .refl hit T T (fun xs hxs=>?_) (fun j Λ=> ∃Λ'',Λ= .box b3 (W6 c.lp):: .loop c.lp c.r0 .ready none::Λ''/\c.Inv ((cW (i0::r0) 0 (p.l.take i)).length+j) Λ'')
    (fun st pd Λ=>st= .done/\pd=some .ret/\ ∃st' pd' Λ'',st'≠ .busy/\Λ= .box b3 (W6 c.lp):: .loop c.lp c.r0 st' pd'::Λ''/\c.Stop st' pd' Λ'') ⟨Λ1,rfl,hs2⟩ (fun h3 lp tm hl3 j xs Λi h4 hg4 F4 hxs hinv hl4=>?_) (fun h3 hg3 r Λ' hl3 hinv=>?_) (fun h3 hg3 r st pd Λ' hl3 hst hs=>?_)
   ·rw [ac1] at hxs;obtain ⟨cp,_,rfl⟩:=hxs
    rfl
   ·obtain ⟨Λ3,rfl,hi3⟩:=hinv;obtain ⟨cp,hcp1,rfl⟩: ∃cp,(cX ((i0::r0)++[i]) x)[j]? =some cp/\YC cp=xs:=by
     rw [ab9] at hxs;cases hq:(cX ((i0::r0)++[i]) x)[j]? with
     |none=>rw [hq] at hxs;cases hxs |some cp=>rw [hq] at hxs;injection hxs with hxs;exact ⟨cp,rfl,hxs⟩
    have hg:((cW (i0::r0) 0 p.l).map YC)[(cW (i0::r0) 0 (p.l.take i)).length+j]? =some (YC cp):=by rw [ab9,hget,ad1 (by omega),ah5,ad6 (vW hcp1),hcp1];rfl
    have hr:=hround _ _ hg;have hln:=hlen _ (aa2 hg);have hle:h0.le h4:=GH.le_trans hl (GH.le_trans hl2 (GH.le_trans hl3 hl4))
    (refine b_ fun bx=>?_;refine y_ ?_)
    refine A.begin T T T ?_;refine y_ ?_;refine A.fo c (Λi:=Λ3) T T T T T T hln .refl hle (af6 (l₁:=[_,_,_])) hi3 hr (fun Λ4 hi4=>?_) (fun st pd Λ4 hst4 hs4=>?_)
    ·refine A.perm af6 ?_;refine l_ (Λ':=_:: .box b3 (W6 c.lp):: .loop c.lp c.r0 .ready none::Λ4) ?_;refine y_ ?_;exact A.dm T T (.inl ⟨rfl,_,rfl,Λ4,rfl,by rw [<-am2];exact hi4⟩)
    ·refine A.perm af6 ?_;refine l_ (Λ':=_:: .box b3 (W6 c.lp):: .loop c.lp c.r0 st pd::Λ4) ?_;refine y_ ?_;exact A.ej T T (.inr ⟨rfl, .done,some .ret,_,(by intro h;cases h),rfl,rfl,rfl,st,pd,Λ4,hst4,rfl,hs4⟩)
   ·obtain ⟨Λ3,rfl,hi3⟩:=hinv;have hi4:c.Inv (cW (i0::r0) 0 (p.l.take (i+1))).length Λ3:=by rw [htake,aa7];rw [aa0] at hi3;exact hi3
    refine y_ ?_;refine vI 30 i ?_;refine A.ju 2 T ?_;refine u_ (ih h3 hg3 _ (i+1,Λ3) hl3 ⟨by show i+1<=_;omega,hi4⟩ (by show _-(i+1)<_-i;omega))
   ·obtain ⟨rfl,rfl,st',pd',Λ3,hst',rfl,hs'⟩:=hs;exact A.eg T T (ai5 _ _) (hstop _ _ _ hst' hs') T
  have hci: ¬i<p.l.length:=by simpa using hc
  clear hc ih;have hil:i=p.l.length:=by omega
  rw [hil,ac4] at hs2;refine y_ ?_;exact A.eg T T (ai5 _ _) (hfin _ (by rw [aa0];exact hs2)) T
theorem PS{V:List KV}{C:List Int}: ∀(m:Nat) (p:PR) (path:List Nat) (h:Bool),SizeOf.sizeOf p<=m->okF (Loc V C) true h p->GK p->path.length+pY p<=1000->rQ p path
 |0,p,_,_,h,_,_,_=>by obtain ⟨k,c,v,i,to,e,gs,l⟩:=p;simp only [PR.mk.sizeOf_spec] at h;omega
 |m+1,p,path,h,hm,hok,hnf,hpl=>by
  have hok0:=hok;rw [okF_eq] at hok;obtain ⟨⟨w1,w2,w3⟩,w4,w5⟩:=hok;rw [y9] at hnf;have hht:=oT p
  by_cases h9:p.kind=9
  ·rw [iT h9] at hnf
   match hl:p.l,hnf with
   |x::y::s,hnf=>
    rw [Z8] at hnf;have hx:x∈p.l:=by rw [hl];exact .head _
    rw [hl,h9,cO] at w4;have:=IQ hx;exact ZP p x (y::s) path h9 hl (PS m x path _ (by have:=cK hx;omega) w4.1 hnf.2 (by omega))
  ·rw [iF h9] at hnf;cases hb:cP p with
   |false=>exact VD p path h9 hb |true=>
    have hb':p.kind=10\/p.kind=11:=by simpa [cP] using hb
    rw [iT hb'] at hnf;have hlens:=w1.lens;have e1:(true&&(p.kind==9||p.kind==10||p.kind==11))=true:=by rcases hb' with h|h<;>rw [h]<;>rfl
    have e2:(true&&(p.kind==10||p.kind==11))=true:=by rcases hb' with h|h<;>rw [h]<;>rfl
    rw [e1,e2] at w4;refine ZO p path hb (by omega) (by have:=IU p;omega) fun x hx i=>?_;obtain ⟨j,hj,hjx⟩:=List.getElem_of_mem hx;obtain ⟨h',hw⟩:=BK (j:=j) (x:=x) (by rw [ab6 hj,hjx]) w4;have:=IQ hx;refine PS m x (path++[i]) h' (by have:=cK hx;omega) hw (JB hnf.2 x hx) ?_;rw [aa7,ad5];omega
abbrev mK(path:List Nat):AV:= .sl 1 (path.map fun i=>AI (i:Nat)) none
theorem FW(l:List PR)(j:Nat)(y:PR):(bC l).set j (aB y)=bC (l.set j y):=by rw [jL,jL,List.map_set]
theorem repS_p(p q x Y:PR)(r:List PR)(path:List Nat)(h9:p.kind=9)(hl:p.l=x::r)(hb:p.l.length<=16777216)(hrec:Pure prog a9 56 [aB x,mK path,aB q] (aB Y)):Pure prog a9 56 [aB p,mK path,aB q] (aB ⟨p.kind,p.c,p.v,p.item,p.to,p.e,p.gs,p.l.set 0 Y⟩):=by
 have hcl:=KZ p.l hb;have hlen:=aW p.l;have hat:(bC p.l)[0]? =some (aB x):=by rw [hl,kV];rfl
 have hj:0<p.l.length:=by rw [hl];simp
 refine P_ func56 38 fun _ _ _ _=>?_
 (refine b_ fun bx=>?_;refine b_ fun bx=>?_;refine b_ fun bx=>?_;refine y_ ?_)
 refine A.ad 12 T (x':=AB true) (aA (by rw [h9];rfl)) ?_;refine e_ 9 T (x':=AB true) (aA (by rw [h9];rfl)) ?_;refine A.ad 7 T (x':=AI ((0:Nat):Int)) T ?_;refine A.e T hcl .refl (List.Perm.refl _) fun z _=>?_;refine y_ ?_;refine d_ 11 [0,1,2,3,4,5,6,7,8,9,10] [(10,aB Y)] ?_;refine WA.ax T T T T T T T T T (by first|omega|decide) (by rw [hlen];omega) T ?_;refine WA.cy T T T T T T T (y':=aB x) T hat T T ?_;refine w_ ?_;refine WA.c T T hrec (.sub s_) ?_;refine WA.nil (l:=[]) T ?_;refine A.ax T T T T T T T T (by first|omega|decide) (by rw [hlen];omega) T ?_;refine A.cd T T T T T T T T T (by rw [hlen];first|exact hj|(show (0:Nat)<_;omega)) (xs':=bC (p.l.set 0 Y)) (FW p.l 0 Y) ?_;refine A.du 3 z (x':=aB ⟨p.kind,p.c,p.v,p.item,p.to,p.e,p.gs,p.l.set 0 Y⟩) T fz_ ?_;refine y_ ?_;refine C_ ?_;exact .refl
theorem repL_p(p q x Y:PR)(j:Nat)(path:List Nat)(hk:p.kind=10\/p.kind=11)(hx:p.l[j]? =some x)(hb:p.l.length<=16777216)(hrec:Pure prog a9 56 [aB x,mK path,aB q] (aB Y)):Pure prog a9 56 [aB p,mK (j::path),aB q] (aB ⟨p.kind,p.c,p.v,p.item,p.to,p.e,p.gs,p.l.set j Y⟩):=by
 have hcl:=KZ p.l hb;have hlen:=aW p.l;have hat:(bC p.l)[j]? =some (aB x):=by rw [cF hx,bP]
 have hj:j<p.l.length:=vW hx;have hbr:=gR p;rw [show cP p=true by simpa [cP] using hk] at hbr;have h9:p.kind≠9:=by rcases hk with h|h<;>rw [h]<;>decide
 refine P_ func56 38 fun _ _ _ _=>?_
 (refine b_ fun bx=>?_;refine b_ fun bx=>?_;refine b_ fun bx=>?_;refine y_ ?_)
 refine A.ad 12 T (x':=AB false) (aA (beq_eq_false_iff_ne.2 h9)) ?_;refine e_ 9 T (x':=AB false) (aA (beq_eq_false_iff_ne.2 h9)) ?_;refine c_ hbr ?_;refine d_ 6 [0,1,2,3,4,5] [] ?_;refine WA.x T (by show (0:Int)<=((0:Nat):Int);omega) T T T ?_;refine w_ ?_;refine WA.slice (ys:=path.map fun i=>AI (i:Nat)) T T T T T T T T T T (by decide) (by rw [aa0,ab1];omega) (by omega) (by rw [aa0,ab1];simp [ak5]) T ?_;refine w_ ?_;refine z_ ?_;refine A.e T hcl .refl (List.Perm.refl _) fun z _=>?_;refine y_ ?_;refine d_ 11 [0,1,2,3,4,5,6,7,8,9,10] [(10,aB Y)] ?_;refine WA.ax T T T T T T T T T (by first|omega|decide) (by rw [hlen];omega) T ?_;refine WA.cy T T T T T T T (y':=aB x) T hat T T ?_;refine w_ ?_;refine WA.c T T hrec (.sub s_) ?_;refine WA.nil (l:=[]) T ?_;refine A.ax T T T T T T T T (by first|omega|decide) (by rw [hlen];omega) T ?_;refine A.cd T T T T T T T T T (by rw [hlen];first|exact hj|(show (0:Nat)<_;omega)) (xs':=bC (p.l.set j Y)) (FW p.l j Y) ?_;refine A.du 3 z (x':=aB ⟨p.kind,p.c,p.v,p.item,p.to,p.e,p.gs,p.l.set j Y⟩) T fz_ ?_;refine y_ ?_;refine C_ ?_;exact .refl
theorem repN_p(p q:PR)(h9:p.kind≠9)(hk: ¬(p.kind=10\/p.kind=11)):Pure prog a9 56 [aB p,mK [],aB q] (aB q):=by
 have hbr:=gR p;rw [show cP p=false by simpa [cP] using hk] at hbr;refine P_ func56 38 fun _ _ _ _=>?_
 (refine b_ fun bx=>?_;refine b_ fun bx=>?_;refine b_ fun bx=>?_;refine y_ ?_)
 refine A.ad 12 T (x':=AB false) (aA (beq_eq_false_iff_ne.2 h9)) ?_;refine e_ 9 T (x':=AB false) (aA (beq_eq_false_iff_ne.2 h9)) ?_;refine c_ hbr ?_;refine C_ ?_;exact .refl
theorem vH{V:List KV}{C:List Int}(q c:PR): ∀(m:Nat) (p:PR) (path:List Nat) (h:Bool),SizeOf.sizeOf p<=m->okF (Loc V C) true h p->atR p path=some c->Pure prog a9 56 [aB p,mK path,aB q] (aB (bN q p path))
 |0,p,_,_,h,_,_=>by obtain ⟨k,c,v,i,to,e,gs,l⟩:=p;simp only [PR.mk.sizeOf_spec] at h;omega
 |m+1,p,path,h,hm,hok,ha=>by
  rw [okF_eq] at hok;obtain ⟨⟨w1,w2,w3⟩,w4,w5⟩:=hok;have hb:p.l.length<=16777216:=by have:=w1.lens;omega
  rw [jA];rw [gP] at ha
  by_cases h9:p.kind=9
  ·rw [iT h9] at ha⊢
   match hl:p.l,ha with
   | [],ha=>rw [HV] at ha;cases ha |x::r,ha=>
    rw [HV] at ha;have hx:x∈p.l:=by rw [hl];exact .head _
    rw [hl,h9,cO] at w4;have e:=repS_p p q x _ r path h9 hl hb (vH q c m x path _ (by have:=cK hx;omega) w4.1 ha);rw [hl] at e;rw [A1];exact e
  ·rw [iF h9] at ha⊢
   by_cases hk:p.kind=10\/p.kind=11
   ·rw [iT hk] at ha⊢
    match path,ha with
    |j::rest,ha=>
     obtain ⟨x,hx,ha⟩:=i7 ha;have hxm:=aa2 hx;show Pure _ _ _ _ (aB ⟨_,_,_,_,_,_,_,sP q p.l j rest⟩);rw [kE q hx];have e1:(true&&(p.kind==9||p.kind==10||p.kind==11))=true:=by rcases hk with h|h<;>rw [h]<;>rfl
     have e2:(true&&(p.kind==10||p.kind==11))=true:=by rcases hk with h|h<;>rw [h]<;>rfl
     rw [e1,e2] at w4;obtain ⟨h',hw⟩:=BK (j:=j) (x:=x) hx w4;exact repL_p p q x _ j rest hk hx hb (vH q c m x rest h' (by have:=cK hxm;omega) hw ha)
   ·rw [iF hk] at ha⊢
    match path,ha with
    | [],ha=>exact repN_p p q h9 hk
theorem QR{V:List KV}{C:List Int}{q c p:PR}{path:List Nat}{h:Bool}(hok:okF (Loc V C) true h p)(ha:atR p path=some c):Pure prog a9 56 [aB p,mK path,aB q] (aB (bN q p path)):=vH q c _ p path h (aa6 _) hok ha
abbrev AP(s:ST):AV:= .pe 11 (gI s)
abbrev yH(a:lH):AV:= .ag [aU a.kind,eQ a.store,AI a.c,AI a.v,AI a.i,aU a.item,aL a.value,aU a.next.kind,AI a.next.c,AI a.next.v,aU a.next.item,iK a.next.to,c8 a.next.e,rH a.next.gs,iQ a.next.l, .v .nilFunc, .sl 1 [] none]
abbrev n6(l:List lH):AV:= .sl 17 (l.map yH) none
theorem kQ(s:ST)(st:List (List Int))(q:PR):Pure prog a9 80 [AP s,eQ st,aB q] (n6 (fB st q)):=by
 refine P_ func80 11 fun _ _ _ _=>?_
 (refine b_ fun bx=>?_;refine t_ fun bl=>?_;refine y_ ?_)
 refine R_ ?_;exact s_
theorem RS(s:ST)(t:Int):Pure prog a9 108 [AP s,aL t] (AB (B8 s t)):=by refine P_ func108 13 fun _ _ _ _=>?_;exact rK
theorem MY(s:ST)(c item:Int)(to:PL)(next:PR)(hs:OS s.store)(hw:pV to)(hn:to.ix.length<=281474976710656):Pure prog a9 87 [AP s,AI c,aU item,dU to,aB next] (n6 (fF s c item to next)):=by
 have hp:=HQ s.store hs to.v to.ix hw hn;refine eX (fF s c item to next) fun R hR=>?_;rw [<-hR];unfold fF at hR;cases hpl:cZ s.store to.v to.ix with
 |none=>
  rw [hpl] at hp hR;have hRR:R=fB s.store bL:=hR;refine P_ func87 42 fun _ _ _ _=>?_
  (refine b_ fun bx=>?_;refine b_ fun bx=>?_;refine y_ ?_)
  refine d_ 13 [0,1,2,3,4,5,6,7,8,9,10,11,12] [(6,QI none)] ?_;refine lS hp ?_;refine z_ ?_;refine d_ 7 [0,1,2,3,4,5,6] [(6,aB bL)] ?_;refine WA.c T T qT (.sub .refl) ?_;refine WA.nil (l:=[]) T ?_;refine c_ (kQ s s.store bL) ?_;refine R_ ?_;rw [hRR];exact .refl
 |some vi=>
  rw [hpl] at hp hR;obtain ⟨v,i⟩:=vi;refine P_ func87 42 fun _ _ _ _=>?_
  (refine b_ fun bx=>?_;refine b_ fun bx=>?_;refine y_ ?_)
  refine d_ 13 [0,1,2,3,4,5,6,7,8,9,10,11,12] [(6,QI (some (v,i)))] ?_;refine lS hp ?_;refine WA.nil (l:=[]) T ?_
  (refine t_ fun bl=>?_;refine y_ ?_)
  refine R_ ?_;rw [hR];exact s_
theorem ES(s:ST)(p:PR)(e:KE)(r:List KE)(he:p.e=e::r)(hs:OS s.store)(hw:iZ e)(b:PR)(hb:p.kind=13-> ∃r,p.l=b::r):Pure prog a9 88 [AP s,aB p] (n6 (eR s p)):=by
 have hv:=sY s.store hs e hw;rw [aJ] at hv;have hat:(bB p.e)[(0:Int).toNat]? =some (eE e):=by rw [he,bB];rfl
 have hbt:p.kind=13->(bC p.l)[(0:Int).toNat]? =some (yR b):=fun h=>by obtain ⟨r,hl⟩:=hb h;rw [hl,bC];rfl
 have hbh:p.kind=13->fE p.l=b:=fun h=>by obtain ⟨r,hl⟩:=hb h;rw [hl];rfl
 refine eX (eR s p) fun R hR=>?_;rw [<-hR];unfold eR at hR;rw [he] at hR;simp only at hR;cases hx:bV s.store e with
 |none=>
  rw [hx] at hv hR;have hRR:R=fB s.store bL:=hR;refine P_ func88 80 fun _ _ _ _=>?_
  (refine b_ fun bx=>?_;refine y_ ?_)
  refine d_ 14 [0,1,2,3,4,5,6,7,8,9,10,11,12,13] [(9,vF none)] ?_;refine rM T hat (aJ e) ?_;refine lS hv ?_;refine z_ ?_;refine d_ 7 [0,1,2,3,4,5,6] [(6,aB bL)] ?_;refine WA.c T T qT (.sub .refl) ?_;refine WA.nil (l:=[]) T ?_;refine c_ (kQ s s.store bL) ?_;refine R_ ?_;rw [hRR];exact .refl
 |some x=>
  rw [hx] at hv hR;simp only at hR;refine P_ func88 80 fun _ _ _ _=>?_
  (refine b_ fun bx=>?_;refine y_ ?_)
  refine d_ 14 [0,1,2,3,4,5,6,7,8,9,10,11,12,13] [(9,vF (some x))] ?_;refine rM T hat (aJ e) ?_;refine lS hv ?_;refine z_ ?_;refine k_ (fun hc=>?_) fun hc=>?_
  ·have h6:p.kind=6:=by have h:(p.kind==6)=true:=hc;simpa using h
   rw [iT h6] at hR;clear hc;refine y_ ?_;refine d_ 4 [0,1,2,3] [(3,aB aK)] ?_;refine WA.c T T nM (.sub .refl) ?_;refine WA.nil (l:=[]) T ?_
   (refine t_ fun bl=>?_;refine y_ ?_)
   refine R_ ?_;rw [hR];exact s_
  have h6:p.kind≠6:=by have h:(p.kind==6)=false:=hc;simpa using h
  rw [iF h6] at hR;clear hc;refine y_ ?_
  ((fail_if_success (refine A.lit? T ?_));refine A.gS T (fun hc=>?_) (fun hc=>?_))
  ·have h13:p.kind=13:=by have h:(p.kind==13)=true:=hc;simpa using h
   clear hc;refine y_ ?_;refine k_ (fun hc=>?_) fun hc=>?_
   ·have hx1:x=1:=by have h:(x==1)=true:=hc;simpa using h
    clear hc;rw [iT ⟨h13,hx1⟩,hbh h13] at hR;refine y_ ?_;refine d_ 13 [0,1,2,3,4,5,6,7,8,9,10,11,12] [] ?_;refine rM T (hbt h13) (bP b) ?_;refine WA.lit T T T T T T T fun bw=>?_;refine w_ ?_;refine WA.nil (l:=[_]) T ?_;refine A.cq 61 (.slice (some ⟨bw,0,none⟩) 2 2) (y':= .ag [aU 9,AI 0,AI 0,aU 0, .v (.slice none 0 0), .v (.slice none 0 0), .v (.slice none 0 0), .sl 8 [aB b,aB p] none]) T fz_ ?_;have hta:=kQ s s.store ⟨9,0,0,0,[],[],[],[b,p]⟩;have e9:aB ⟨9,0,0,0,[],[],[],[b,p]⟩= .ag [aU 9,AI 0,AI 0,aU 0, .sl 2 [] none, .sl 6 [] none, .sl 18 [] none, .sl 8 [aB b,aB p] none]:=by show AV.ag [_,_,_,_,AV.sl 2 _ none,AV.sl 6 (bB []) none,AV.sl 18 (eV []) none,AV.sl 8 (bC [b,p]) none]=_;rw [bB,eV,kV,kV,bC];rfl
    rw [e9] at hta;refine c_ hta ?_;refine R_ ?_;rw [hR];exact .refl
   ·have hx1:x≠1:=by have h:(x==1)=false:=hc;simpa using h
    rw [iF (fun h=>hx1 h.2),iT (.inl h13)] at hR;clear hc;refine y_ ?_;refine T_ T (show (p.kind==13)=true by rw [h13];rfl) ?_;refine d_ 7 [0,1,2,3,4,5,6] [(6,aB aK)] ?_;refine WA.c T T nM (.sub .refl) ?_;refine WA.nil (l:=[]) T ?_;refine c_ (kQ s s.store aK) ?_;refine R_ ?_;rw [hR];exact .refl
  ·have h13:p.kind≠13:=by have h:(p.kind==13)=false:=hc;simpa using h
   rw [iF (fun h=>h13 h.1)] at hR;clear hc;refine y_ ?_;refine F_ T (show (p.kind==13)=false by rw [beq_eq_false_iff_ne];exact h13) ?_;refine n_ (RS s x) ?_
   by_cases haf:B8 s x=true
   ·rw [iT (.inr haf)] at hR;refine e_ 70 T (x':=AB true) (aA haf) ?_;refine d_ 7 [0,1,2,3,4,5,6] [(6,aB aK)] ?_;refine WA.c T T nM (.sub .refl) ?_;refine WA.nil (l:=[]) T ?_;refine c_ (kQ s s.store aK) ?_;refine R_ ?_;rw [hR];exact .refl
   ·rw [iF (by rintro (h|h);exact h13 h;exact haf h)] at hR;refine e_ 70 T (x':=AB false) (aA (by simpa using haf)) ?_;refine R_ ?_;rw [hR];exact .nil
theorem H4(s:ST)(g:GD)(r:List GD):eL s (g::r)=match bV s.store g.cond with
 |none=>fB s.store bL |some x=>if x=1 then fB s.store (fE g.body) else eL s r:=rfl
theorem XY(s:ST)(p:PR)(hs:OS s.store)(hg: ∀g,g∈p.gs->iZ g.cond/\ ∃y,g.body=[y])(hb:p.gs.length<=281474976710656):Pure prog a9 84 [AP s,aB p] (n6 (eL s p.gs)):=by
 have n2:((eV p.gs).length:Int)=p.gs.length:=by rw [dD]
 refine eX (eL s p.gs) fun R hR=>?_;rw [<-hR];refine P_ func84 51 fun _ _ _ _=>?_
 (refine b_ fun bx=>?_;refine y_ ?_)
 refine A.ad 11 T (x':=AI (p.gs.length:Nat)) (aM n2) ?_;refine A.ay [0,10,11,12] T ?_;refine l_ (Λ':=[]) ?_;refine A.ar (ι:=Nat) (fun i=>(⟨[(0,AP s),(10,rH p.gs),(11,AI (p.gs.length:Nat)),(12,AI (i:Nat))],[]⟩,[])) (fun i=>i<=p.gs.length/\R=eL s (p.gs.drop i)) (fun i=>p.gs.length-i) 0 ⟨ac0 _,hR⟩ T fun i hi ih=>?_;obtain ⟨hi1,hi2⟩:=hi;refine y_ ?_;refine k_ (fun hc=>?_) fun hc=>?_
 ·have hci:i<p.gs.length:=by simpa using hc
  clear hc;refine aX hci fun g hgi=>?_;obtain ⟨hwf,y,hy⟩:=hg g (aa2 hgi);have hv:=sY s.store hs g.cond hwf;rw [aJ] at hv;rw [bS hgi,H4] at hi2;have hby:(bC g.body)[(0:Int).toNat]? =some (yR y):=cF (by rw [hy];rfl);have hhd:fE g.body=y:=by rw [hy];rfl
  refine y_ ?_;refine j_ T (jY hgi) (jX g) ?_
  (refine b_ fun bx=>?_;refine y_ ?_)
  cases hx:bV s.store g.cond with
  |none=>
   rw [hx] at hv hi2;refine d_ 12 [0,1,2,3,4,5,6,7,8,9,10,11] [(7,vF none)] ?_;refine lS hv ?_;refine z_ ?_;have hRR:R=fB s.store bL:=hi2;refine d_ 7 [0,1,2,3,4,5,6] [(6,aB bL)] ?_;refine WA.c T T qT (.sub .refl) ?_;refine WA.nil (l:=[]) T ?_;refine c_ (kQ s s.store bL) ?_;refine R_ ?_;rw [hRR];exact .refl
  |some v=>
   rw [hx] at hv hi2;simp only at hi2;refine d_ 12 [0,1,2,3,4,5,6,7,8,9,10,11] [(7,vF (some v))] ?_;refine lS hv ?_;refine z_ ?_;refine k_ (fun hc=>?_) fun hc=>?_
   ·have hv1:v=1:=by have h:(v==1)=true:=hc;simpa using h
    rw [iT hv1,hhd] at hi2;refine y_ ?_;refine d_ 10 [0,1,2,3,4,5,6,7,8,9] [] ?_;refine rM T hby (bP y) ?_;refine WA.nil (l:=[]) T ?_;refine c_ (kQ s s.store y) ?_;refine R_ ?_;rw [hi2];exact .refl
   ·have hv1:v≠1:=by have h:(v==1)=false:=hc;simpa using h
    rw [iF hv1] at hi2;refine y_ ?_;refine vI 12 i ?_;refine l_ (Λ':=[]) ?_;refine u_ (ih (i+1) ⟨by omega,hi2⟩ (by omega))
 have hci: ¬i<p.gs.length:=by simpa using hc
 rw [ag5 (by omega)] at hi2;have hRR:R=fB s.store bL:=hi2;refine y_ ?_;refine d_ 7 [0,1,2,3,4,5,6] [(6,aB bL)] ?_;refine WA.c T T qT (.sub .refl) ?_;refine WA.nil (l:=[]) T ?_;refine c_ (kQ s s.store bL) ?_;refine R_ ?_;rw [hRR];exact .refl
def Small(st:List (List Int)):Prop:=st.length<=256/\ ∀r,r∈st->r.length<=64
theorem Small.put{st:List (List Int)}(h:Small st)(v i x:Int):Small (fU st v i x):=by
 unfold fU;split
 ·split
  ·rename_i r hr;refine ⟨by rw [ah7];exact h.1,fun q hq=>?_⟩;rcases al5 hq with hq|hq
   ·exact h.2 q hq
   ·rw [hq,ah7];exact h.2 r (aa2 hr)
  ·exact h
 ·exact h
theorem Small.put_p{st:List (List Int)}(h:Small st)(v i x:Int):Pure prog a9 26 [eQ st,AI v,AI i,aL x] (eQ (fU st v i x)):=Put_p st v i x (by have:=h.1;omega) fun r hr=>by have:=h.2 r hr;omega
theorem RJ(st:List (List Int))(e:KE)(r:List KE):kJ st (e::r)=match bV st e with
 |none=>none |some x=>(kJ st r).map (x:: ·):=rfl
def vJ(vs:List Int)(n:Nat):List AV:=vs.map aL++List.replicate (n-vs.length) (aL 0)
theorem D7{vs:List Int}{n:Nat}(h:vs.length<=n):(vJ vs n).length=n:=by rw [vJ,aa7,aa0,ad4];omega
theorem rowV_set{vs:List Int}{n:Nat}(h:vs.length<n)(x:Int):(vJ vs n).set vs.length (aL x)=vJ (vs++[x]) n:=by unfold vJ;rw [al0 _ _ (by rw [aa0];exact aa6 _),aa0,ah9,show n-vs.length=(n-(vs++[x]).length)+1 by rw [aa7,ad5];omega,List.replicate_succ,aj0];simp
theorem rowV_at{vs:List Int}{i:Nat}{x:Int}(n:Nat)(h:vs[i]? =some x):(vJ vs n)[i]? =some (aL x):=by rw [vJ,ad6 (by rw [aa0];exact vW h),ab9,h];rfl
theorem XL(s:ST)(p:PR)(hs:OS s.store)(hsm:Small s.store)(he: ∀x,x∈p.e->iZ x)(ht: ∀t,t∈p.to->pV t/\t.ix.length<=281474976710656)(hl:p.to.length=p.e.length)(hb:p.e.length<=8):Pure prog a9 81 [AP s,aB p] (n6 (iD s p)):=by
 have n1:((bB p.e).length:Int)=p.e.length:=by rw [bF]
 have n2:((p.to.map dU).length:Int)=p.to.length:=by rw [aa0]
 refine eX (iD s p) fun R hR=>?_;rw [<-hR];unfold iD at hR;refine P_ func81 100 fun _ _ _ _=>?_;refine b_ fun b1=>?_;refine y_ ?_;refine A.ad 18 T (x':=AI (p.e.length:Nat)) (aM n1) ?_;refine A.ez T T T T T T T T T T T T (by omega) (by show (4:Int)*_<=_;omega) (by omega) fun a cp hcp=>?_;refine e_ 19 T (x':= .ms (.slice a p.e.length cp) 1 p.e.length) (by rw [ad9];rfl) ?_;refine A.ad 22 T (x':=AI (p.e.length:Nat)) (aM n1) ?_;refine A.ay [0,3,5,21,22,23] T ?_;refine A.au (Λ':=[.row 1 (.slice a p.e.length cp) (vJ [] p.e.length), .box b1 (aB p)]) (by rw [vJ,ad9];rfl) ?_
 refine A.ar (ι:=List Int) (fun vs=>(⟨[(0,AP s),(3,cT b1),(5, .ms (.slice a p.e.length cp) 1 p.e.length),(21,c8 p.e),(22,AI (p.e.length:Nat)),(23,AI (vs.length:Nat))],[]⟩,[.row 1 (.slice a p.e.length cp) (vJ vs p.e.length), .box b1 (aB p)]))
  (fun vs=>vs.length<=p.e.length/\kJ s.store p.e=(kJ s.store (p.e.drop vs.length)).map (vs++ ·)) (fun vs=>p.e.length-vs.length) [] ⟨ac0 _,by rw [aj8,al7];cases kJ s.store p.e<;>rfl⟩ T fun vs hv ih=>?_
 obtain ⟨hv1,hv2⟩:=hv;refine y_ ?_;refine k_ (fun hc=>?_) fun hc=>?_
 ·have hci:vs.length<p.e.length:=by simpa using hc
  clear hc;refine aX hci fun e hei=>?_;have hvp:=sY s.store hs e (he e (aa2 hei));rw [aJ] at hvp;rw [bS hei,RJ] at hv2;refine y_ ?_;refine j_ T (fW hei) (aJ e) ?_
  (refine b_ fun bx=>?_;refine y_ ?_)
  cases hx:bV s.store e with
  |none=>
   rw [hx] at hvp hv2;have hv3:kJ s.store p.e=none:=hv2;rw [hv3] at hR;have hRR:R=fB s.store bL:=hR;refine d_ 11 [0,1,2,3,4,5,6,7,8,9,10] [(6,vF none)] ?_;refine lS hvp ?_;refine z_ ?_;refine d_ 7 [0,1,2,3,4,5,6] [(6,aB bL)] ?_;refine WA.c T T qT (.sub .refl) ?_;refine WA.nil (l:=[]) T ?_;refine c_ (kQ s s.store bL) ?_;refine R_ ?_;rw [hRR];exact .refl
  |some x=>
   rw [hx] at hvp hv2;have hv3:kJ s.store p.e=(kJ s.store (p.e.drop (vs++[x]).length)).map ((vs++[x])++ ·):=by
    rw [hv2,aa7,ad5];show ((kJ s.store (p.e.drop (vs.length+1))).map (x:: ·)).map (vs++ ·)=_;cases kJ s.store (p.e.drop (vs.length+1)) with
    |none=>rfl |some l=>simp
   refine d_ 11 [0,1,2,3,4,5,6,7,8,9,10] [(6,vF (some x))] ?_;refine lS hvp ?_;refine z_ ?_;refine A.ax T T T T T T T T (by show (0:Int)<=(vs.length:Nat);omega) (by rw [D7 hv1];omega) T ?_;refine A.cd T T T T T T T T T (by rw [D7 hv1];show vs.length<_;omega) (xs':=vJ (vs++[x]) p.e.length) (rowV_set hci x) ?_;refine y_ ?_;refine A.ad 23 T (x':=AI ((vs++[x]).length:Nat)) (by rw [aa7,ad5];exact qG vs.length (by omega)) ?_;refine l_ (Λ':=[.row 1 (.slice a p.e.length cp) (vJ (vs++[x]) p.e.length), .box b1 (aB p)]) ?_;refine u_ (ih (vs++[x]) ⟨by rw [aa7,ad5];omega,hv3⟩ (by rw [aa7,ad5];omega))
 have hci: ¬vs.length<p.e.length:=by simpa using hc
 have hvl:vs.length=p.e.length:=by omega
 clear hc ih;rw [ag5 (by omega)] at hv2;have hv3:kJ s.store p.e=some vs:=by rw [hv2];show some (vs++[])=_;rw [ae3]
 rw [hv3] at hR;simp only at hR;refine y_ ?_;refine A.ad 60 T (x':=AI (p.to.length:Nat)) (aM n2) ?_;refine A.ay [0,3,5,10,59,60,61] T ?_
 refine A.ar (ι:=Nat×List (List Int)) (fun q=>(⟨[(0,AP s),(3,cT b1),(5, .ms (.slice a p.e.length cp) 1 p.e.length),(10,eQ q.2),(59,iK p.to),(60,AI (p.to.length:Nat)),(61,AI (q.1:Nat))],[]⟩,[.row 1 (.slice a p.e.length cp) (vJ vs p.e.length), .box b1 (aB p)]))
  (fun q=>q.1<=p.to.length/\nK s.store p.to vs s.store=nK s.store (p.to.drop q.1) (vs.drop q.1) q.2/\Small q.2) (fun q=>p.to.length-q.1) (0,s.store) ⟨ac0 _,rfl,hsm⟩ T fun q hq ih=>?_
 obtain ⟨i,st⟩:=q;obtain ⟨hq1,hq2,hq3⟩:=hq;simp only at hq1 hq2 hq3;refine y_ ?_;refine k_ (fun hc=>?_) fun hc=>?_
 ·have hci:i<p.to.length:=by simpa using hc
  clear hc;refine aX hci fun t hti=>?_;refine ac7 (dC (l:=vs) (i:=i) (by omega)) fun x hxi=>?_;obtain ⟨ht1,ht2⟩:=ht t (aa2 hti);have hpp:=HQ s.store hs t.v t.ix ht1 ht2;have hrl:(vJ vs p.e.length).length=p.e.length:=D7 (by omega);rw [bS hti,bS hxi] at hq2;refine y_ ?_;refine j_ T (aR hti) T ?_
  (refine b_ fun bx=>?_;refine y_ ?_)
  cases hx:cZ s.store t.v t.ix with
  |none=>
   rw [hx] at hpp;have hq4:nK s.store p.to vs s.store=none:=by rw [hq2,nK,hx]
   rw [hq4] at hR;have hRR:R=fB s.store bL:=hR;refine d_ 13 [0,1,2,3,4,5,6,7,8,9,10,11,12] [(6,QI none)] ?_;refine lS hpp ?_;refine z_ ?_;refine d_ 7 [0,1,2,3,4,5,6] [(6,aB bL)] ?_;refine WA.c T T qT (.sub .refl) ?_;refine WA.nil (l:=[]) T ?_;refine c_ (kQ s s.store bL) ?_;refine R_ ?_;rw [hRR];exact .refl
  |some vj=>
   obtain ⟨v,j⟩:=vj;rw [hx] at hpp;have hq4:nK s.store p.to vs s.store=nK s.store (p.to.drop (i+1)) (vs.drop (i+1)) (fU st v j x):=by rw [hq2,nK,hx]
   refine d_ 13 [0,1,2,3,4,5,6,7,8,9,10,11,12] [(6,QI (some (v,j)))] ?_;refine lS hpp ?_;refine z_ ?_;refine A.ax T T T T T T T T (by show (0:Int)<=(i:Nat);omega) (by rw [hrl];omega) T ?_;refine A.cy T T T T T T (y':=aL x) T (rowV_at _ hxi) T T ?_;refine c_ (hq3.put_p v j x) ?_;refine vI 61 i ?_;refine l_ (Λ':=[.row 1 (.slice a p.e.length cp) (vJ vs p.e.length), .box b1 (aB p)]) ?_;refine u_ (ih (i+1,fU st v j x) ⟨by show i+1<=_;omega,hq4,hq3.put v j x⟩ (by show _-(i+1)<_-i;omega))
 have hci: ¬i<p.to.length:=by simpa using hc
 clear hc ih;rw [ag5 (by omega),nK] at hq2;rw [hq2] at hR;have hRR:R=fB st aK:=hR;refine y_ ?_;refine n_ nM ?_;refine c_ (kQ s st aK) ?_;refine R_ ?_;rw [hRR];exact .refl
theorem m7(s:ST)(g:GD):(cD s g).length<=1:=by
 unfold cD fF fB;split
 ·exact ac0 _
 ·split
  ·split<;>exact aa6 _
  ·split
   ·exact aa6 _
   ·exact ac0 _
theorem pF{α β:Type}(f:α->List β)(h: ∀a,(f a).length<=1): ∀l:List α,(l.flatMap f).length<=l.length
 | []=>aa6 _ |a::r=>by rw [ag2,aa7,ab1];have:=h a;have:=pF f h r;omega
theorem W3(s:ST)(p:PR)(hs:OS s.store)(hg: ∀g,g∈p.gs->(pV g.to/\g.to.ix.length<=281474976710656)/\ ∃y,g.body=[y])(hb:p.gs.length<=16):Pure prog a9 86 [AP s,aB p] (n6 (p.gs.flatMap (cD s))):=by
 have n2:((eV p.gs).length:Int)=p.gs.length:=by rw [dD]
 refine P_ func86 63 fun _ _ _ _=>?_;refine b_ fun b1=>?_;refine y_ ?_;refine A.ad 9 T (x':=AI (p.gs.length:Nat)) (aM n2) ?_;refine A.dr 4 oJ.size T ?_;refine A.ay [0,4,8,9,10] T ?_;refine l_ (Λ':=[.tail oJ.size (.slice none 0 0)]) ?_;refine A.ar (ι:=Nat×Value) (fun q=>(⟨[(0,AP s),(4, .sl 17 (((p.gs.take q.1).flatMap (cD s)).map yH) (some q.2)),(8,rH p.gs),(9,AI (p.gs.length:Nat)),(10,AI (q.1:Nat))],[]⟩,[.tail oJ.size q.2])) (fun q=>q.1<=p.gs.length) (fun q=>p.gs.length-q.1) (0, .slice none 0 0) (ac0 _) T fun q hi ih=>?_;obtain ⟨i,z⟩:=q;simp only at hi;have hfl:=pF (cD s) (m7 s) (p.gs.take i);rw [ac3] at hfl;refine y_ ?_;refine k_ (fun hc=>?_) fun hc=>?_
 ·have hci:i<p.gs.length:=by simpa using hc
  clear hc;refine aX hci fun g hgi=>?_;obtain ⟨⟨hw1,hw2⟩,y,hy⟩:=hg g (aa2 hgi);have hby:(bC g.body)[(0:Int).toNat]? =some (yR y):=cF (by rw [hy];rfl);have hhd:fE g.body=y:=by rw [hy];rfl
  have htk:(p.gs.take (i+1)).flatMap (cD s)=(p.gs.take i).flatMap (cD s)++cD s g:=by rw [ac6,hgi,ak2];show _++[g].flatMap _=_;simp
  refine y_ ?_;refine j_ T (jY hgi) (jX g) ?_
  (refine b_ fun bx=>?_;refine y_ ?_)
  refine k_ (fun hc=>?_) fun hc=>?_
  ·have hn:g.cond.n≠1:=by have h:(g.cond.n !=1)=true:=hc;simpa using h
   have hwg:cD s g=[]:=by unfold cD;rw [iT hn]
   rw [hwg,ae3] at htk;refine y_ ?_;refine A.ad 4 T (x':= .sl 17 (((p.gs.take (i+1)).flatMap (cD s)).map yH) (some z)) (by rw [htk]) ?_;refine vI 10 i ?_;refine l_ (Λ':=[.tail oJ.size z]) ?_;refine u_ (ih (i+1,z) (by show i+1<=_;omega) (by show _-(i+1)<_-i;omega))
  have hn:g.cond.n=1:=by have h:(g.cond.n !=1)=false:=hc;simpa using h
  clear hc;refine y_ ?_;refine k_ (fun hc=>?_) fun hc=>?_
  ·have h3:g.kind=3:=by have h:(g.kind==3)=true:=hc;simpa using h
   have hwg:cD s g=fF s g.c g.item g.to y:=by unfold cD;rw [iF (by rw [hn];decide),iT h3,hhd]
   have hin:=MY s g.c g.item g.to y hs hw1 hw2;rw [<-hwg] at hin;refine d_ 13 [0,1,2,3,4,5,6,7,8,9,10,11,12] [(12,n6 (cD s g))] ?_;refine rM T hby (bP y) ?_;refine WA.c T T hin (.sub .refl) ?_;refine WA.nil (l:=[]) T ?_;refine A.append T T T T T T T T T T T T T T (by show ((((p.gs.take i).flatMap (cD s)).map yH).length+((cD s g).map yH).length)*17<=_;have:=m7 s g;rw [aa0,aa0];omega) fun z'=>?_;refine y_ ?_;refine A.ad 4 T (x':= .sl 17 (((p.gs.take (i+1)).flatMap (cD s)).map yH) (some z')) (by rw [htk,ae2];rfl) ?_;refine vI 10 i ?_;refine l_ (Λ':=[.tail oJ.size z']) ?_;refine u_ (ih (i+1,z') (by show i+1<=_;omega) (by show _-(i+1)<_-i;omega))
  have h3:g.kind≠3:=by have h:(g.kind==3)=false:=hc;simpa using h
  clear hc;have hta:=kQ s s.store y;refine y_ ?_
  ((fail_if_success (refine A.lit? T ?_));refine A.gS T (fun hc=>?_) (fun hc=>?_))
  ·have h2:g.kind=2:=by have h:(g.kind==2)=true:=hc;simpa using h
   clear hc;have hwg:cD s g=fB s.store y:=by unfold cD;rw [iF (by rw [hn];decide),iF h3,iT (.inl h2),hhd]
   rw [<-hwg] at hta;refine y_ ?_;refine d_ 12 [0,1,2,3,4,5,6,7,8,9,10,11] [(11,n6 (cD s g))] ?_;refine rM T hby (bP y) ?_;refine WA.c T T hta (.sub s_) ?_;refine WA.nil (l:=[]) T ?_;refine A.append T T T T T T T T T T T T T T (by show ((((p.gs.take i).flatMap (cD s)).map yH).length+((cD s g).map yH).length)*17<=_;have:=m7 s g;rw [aa0,aa0];omega) fun z'=>?_;refine y_ ?_;refine A.ad 4 T (x':= .sl 17 (((p.gs.take (i+1)).flatMap (cD s)).map yH) (some z')) (by rw [htk,ae2];rfl) ?_;refine vI 10 i ?_;refine l_ (Λ':=[.tail oJ.size z']) ?_;refine u_ (ih (i+1,z') (by show i+1<=_;omega) (by show _-(i+1)<_-i;omega))
  ·have h2:g.kind≠2:=by have h:(g.kind==2)=false:=hc;simpa using h
   clear hc;have haf:=RS s g.time.n;refine y_ ?_;refine n_ haf ?_
   by_cases ha:B8 s g.time.n=true
   ·have hwg:cD s g=fB s.store y:=by unfold cD;rw [iF (by rw [hn];decide),iF h3,iT (.inr ha),hhd]
    rw [<-hwg] at hta;refine e_ 46 T (x':=AB true) (aA ha) ?_;refine d_ 12 [0,1,2,3,4,5,6,7,8,9,10,11] [(11,n6 (cD s g))] ?_;refine rM T hby (bP y) ?_;refine WA.c T T hta (.sub s_) ?_;refine WA.nil (l:=[]) T ?_;refine A.append T T T T T T T T T T T T T T (by show ((((p.gs.take i).flatMap (cD s)).map yH).length+((cD s g).map yH).length)*17<=_;have:=m7 s g;rw [aa0,aa0];omega) fun z'=>?_;refine y_ ?_;refine A.ad 4 T (x':= .sl 17 (((p.gs.take (i+1)).flatMap (cD s)).map yH) (some z')) (by rw [htk,ae2];rfl) ?_;refine vI 10 i ?_;refine l_ (Λ':=[.tail oJ.size z']) ?_;refine u_ (ih (i+1,z') (by show i+1<=_;omega) (by show _-(i+1)<_-i;omega))
   ·have hwg:cD s g=[]:=by unfold cD;rw [iF (by rw [hn];decide),iF h3,iF (by rintro (h|h);exact h2 h;exact ha h)]
    rw [hwg,ae3] at htk;refine e_ 46 T (x':=AB false) (aA (by simpa using ha)) ?_;refine A.ad 4 T (x':= .sl 17 (((p.gs.take (i+1)).flatMap (cD s)).map yH) (some z)) (by rw [htk]) ?_;refine vI 10 i ?_;refine l_ (Λ':=[.tail oJ.size z]) ?_;refine u_ (ih (i+1,z) (by show i+1<=_;omega) (by show _-(i+1)<_-i;omega))
 have hci: ¬i<p.gs.length:=by simpa using hc
 clear hc;have hil:i=p.gs.length:=by omega
 refine y_ ?_;refine R_ ?_;rw [hil,ac4];exact .cw
theorem LO(st:List (List Int))(g:GD)(r:List GD):cY st (g::r)=match fQ st g with
 |none=>none |some y=>(cY st r).map (y:: ·):=rfl
abbrev numA(x:Int):List AV:=[aU 1,aU 0,aU 0,aL x,AI 0, .sl 6 [] none]
abbrev G1(g:GD)(x:Int):AV:= .ag [aU g.kind,aU 1,aU 0,aU 0,aL x,AI 0, .sl 6 [] none,AI g.c,aU g.item,AI g.to.v,c8 g.to.ix,aU g.time.kind,aU g.time.oper,aU g.time.to,aL g.time.n,AI g.time.v,c8 g.time.l,iQ g.body]
abbrev G2(g:GD)(x t:Int):AV:= .ag [aU g.kind,aU 1,aU 0,aU 0,aL x,AI 0, .sl 6 [] none,AI g.c,aU g.item,AI g.to.v,c8 g.to.ix,aU 1,aU 0,aU 0,aL t,AI 0, .sl 6 [] none,iQ g.body]
theorem G1_eq(g:GD)(x:Int):aZ ⟨g.kind,lX x,g.c,g.item,g.to,g.time,g.body⟩=G1 g x:=by show AV.ag [_,_,_,_,_,_,AV.sl 6 (bB []) none,_,_,_,_,_,_,_,_,_,_,_]=_;rw [bB]
theorem G2_eq(g:GD)(x t:Int):aZ ⟨g.kind,lX x,g.c,g.item,g.to,lX t,g.body⟩=G2 g x t:=by show AV.ag [_,_,_,_,_,_,AV.sl 6 (bB []) none,_,_,_,_,_,_,_,_,_,AV.sl 6 (bB []) none,_]=_;rw [bB]
def qN(d l:List GD):List AV:=d.map aZ++(l.drop d.length).map aZ
theorem rowD_len{d l:List GD}(h:d.length<=l.length):(qN d l).length=l.length:=by rw [qN,aa7,aa0,aa0,List.length_drop];omega
theorem rowD_at{d l:List GD}{g:GD}(h:l[d.length]? =some g):(qN d l)[d.length]? =some (aZ g):=by rw [qN,ad1 (by rw [aa0];exact aa6 _),aa0,ah9,bS h];rfl
theorem NK{d l:List GD}{g:GD}(h:l[d.length]? =some g)(y:GD):(qN d l).set d.length (aZ y)=qN (d++[y]) l:=by unfold qN;rw [al0 _ _ (by rw [aa0];exact aa6 _),aa0,ah9,bS h,ac8,aj0,aa7,ad5,ae2];simp
theorem SD(s:ST)(p:PR)(hs:OS s.store)(hg: ∀g,g∈p.gs->iZ g.cond/\iZ g.time)(hb:p.gs.length<=16):Pure prog a9 85 [AP s,aB p] (n6 (eM s p)):=by
 have hcl:=KY p.gs (by omega);refine eX (eM s p) fun R hR=>?_;rw [<-hR];unfold eM at hR;refine P_ func85 89 fun _ _ _ _=>?_;refine b_ fun b1=>?_;refine y_ ?_;refine A.e T hcl .refl (List.Perm.refl _) fun z _=>?_;refine A.gi (List.mem_cons_self ..) fun a cp hz hcp=>?_;rw [dD] at hz hcp;subst hz;refine y_ ?_;refine A.ay [0,5,15,16,17] T ?_;refine A.au (Λ':=[.row 18 (.slice a p.gs.length cp) (qN [] p.gs), .box b1 (aB p)]) (by rw [qN,ag7,ah8,aj8,al7,jK];rfl) ?_;refine l_ (Λ':=[.row 18 (.slice a p.gs.length cp) (qN [] p.gs)]) ?_
 refine A.ar (ι:=List GD) (fun d=>(⟨[(0,AP s),(5, .ms (.slice a p.gs.length cp) 18 p.gs.length),(15, .ms (.slice a p.gs.length cp) 18 p.gs.length),(16,AI (p.gs.length:Nat)),(17,AI (d.length:Nat))],[]⟩,[.row 18 (.slice a p.gs.length cp) (qN d p.gs)]))
  (fun d=>d.length<=p.gs.length/\cY s.store p.gs=(cY s.store (p.gs.drop d.length)).map (d++ ·)) (fun d=>p.gs.length-d.length) [] ⟨ac0 _,by rw [aj8,al7];cases cY s.store p.gs<;>rfl⟩ T fun d hd ih=>?_
 obtain ⟨hd1,hd2⟩:=hd;have hln:=rowD_len hd1;refine y_ ?_;refine k_ (fun hc=>?_) fun hc=>?_
 ·have hci:d.length<p.gs.length:=by simpa using hc
  clear hc;refine aX hci fun g hgi=>?_;obtain ⟨hw1,hw2⟩:=hg g (aa2 hgi);have hat:=rowD_at hgi;have hv:=sY s.store hs g.cond hw1;rw [aJ] at hv;have hvt:=sY s.store hs g.time hw2;rw [aJ] at hvt;rw [bS hgi,LO] at hd2;refine ac7 (show∃o,bV s.store g.time=o from ⟨_,rfl⟩) fun oy hy=>?_;refine ac7 (show∃o,bV s.store g.cond=o from ⟨_,rfl⟩) fun ox hx=>?_;rw [hy] at hvt;rw [hx] at hv;have hne:qN d p.gs≠[]:=by intro h;rw [h] at hln;simp at hln;omega
  refine A.fm (a:=a) (n:=p.gs.length) (c:=cp) (sz:=18) (l:=qN d p.gs) hne fun bb o ha=>?_;subst ha;refine y_ ?_;refine A.ax T T T T T T T T (by show (0:Int)<=(d.length:Nat);omega) (by rw [hln];omega) T ?_;refine A.cy T T T T T T (y':=aZ g) T hat T T ?_
  (refine b_ fun bx=>?_;refine y_ ?_)
  cases ox with
  |none=>
   have hRR:R=fB s.store bL:=by
    have h1:fQ s.store g=none:=by unfold fQ;rw [hx]
    rw [h1] at hd2;rw [show cY s.store p.gs=none from hd2] at hR;exact hR
   refine d_ 12 [0,1,2,3,4,5,6,7,8,9,10,11] [(7,vF none)] ?_;refine lS hv ?_;refine WA.nil (l:=[]) T ?_;refine g_ ?_;refine e_ 38 T (x':=AB false) (aA (by show (bif (g.kind==4) then false else false)=false;cases (g.kind==4)<;>rfl)) ?_;refine d_ 7 [0,1,2,3,4,5,6] [(6,aB bL)] ?_;refine WA.c T T qT (.sub .refl) ?_;refine WA.nil (l:=[]) T ?_;refine c_ (kQ s s.store bL) ?_;refine R_ ?_;rw [hRR];exact .refl
  |some x=>
   refine d_ 12 [0,1,2,3,4,5,6,7,8,9,10,11] [(7,vF (some x))] ?_;refine lS hv ?_;refine z_ ?_
   ((fail_if_success (refine A.lit? T ?_));refine A.gS T (fun hc=>?_) (fun hc=>?_))
   ·have h4:g.kind=4:=by have h:(g.kind==4)=true:=hc;simpa using h
    clear hc;refine y_ ?_;cases oy with
    |none=>
     have hRR:R=fB s.store bL:=by
      have h1:fQ s.store g=none:=by unfold fQ;rw [hx];simp only;rw [iT h4,hy]
      rw [h1] at hd2;rw [show cY s.store p.gs=none from hd2] at hR;exact hR
     refine d_ 12 [0,1,2,3,4,5,6,7,8,9,10,11] [(7,vF none)] ?_;refine lS hvt ?_;refine z_ ?_;refine d_ 7 [0,1,2,3,4,5,6] [(6,aB bL)] ?_;refine WA.c T T qT (.sub .refl) ?_;refine WA.nil (l:=[]) T ?_;refine c_ (kQ s s.store bL) ?_;refine R_ ?_;rw [hRR];exact .refl
    |some t=>
     refine d_ 12 [0,1,2,3,4,5,6,7,8,9,10,11] [(7,vF (some t))] ?_;refine lS hvt ?_;refine WA.nil (l:=[]) T ?_;have h1:fQ s.store g=some ⟨g.kind,lX x,g.c,g.item,g.to,lX t,g.body⟩:=by unfold fQ;rw [hx];simp only;rw [iT h4,hy]
     refine ac7 (show∃Y:GD,Y=⟨g.kind,lX x,g.c,g.item,g.to,lX t,g.body⟩ from ⟨_,rfl⟩) fun Y hY=>?_;have hd3:cY s.store p.gs=(cY s.store (p.gs.drop (d++[Y]).length)).map ((d++[Y])++ ·):=by
      rw [hd2,h1,<-hY,aa7,ad5];show ((cY s.store (p.gs.drop (d.length+1))).map (Y:: ·)).map (d++ ·)=_;cases cY s.store (p.gs.drop (d.length+1)) with
      |none=>rfl |some l=>simp
     refine y_ ?_;refine A.val 67 T (x':= .ag (numA x)) s_ ?_;refine A.ax T T T T T T T T (by show (0:Int)<=(d.length:Nat);omega) (by rw [hln];omega) T ?_;refine A.jx 68 T ?_;refine y_ ?_;refine A.dt d.length 1 ty68 T T T T T p.gs.length cp o ?_ hat (x':=G1 g x) T T T T T ?_
     ·simp
     refine y_ ?_;refine e_ 72 T (x':=AB true) (aA (by rw [h4];rfl)) ?_;refine A.val 76 T (x':= .ag (numA t)) s_ ?_;refine A.ax T T T T T T T T (by show (0:Int)<=(d.length:Nat);omega) (by rw [ah7,hln];omega) T ?_;refine A.jx 77 T ?_;refine y_ ?_;refine A.dt d.length 11 ty68 T T T T T p.gs.length cp o ?_ (x:=G1 g x) (by rw [List.getElem?_set_self (by rw [hln];exact hci)]) (x':=G2 g x t) T T T T (xs':=qN (d++[Y]) p.gs) (by rw [List.set_set,<-G2_eq,<-hY];exact NK hgi Y) ?_
     ·simp
     refine y_ ?_;refine A.ad 17 T (x':=AI ((d++[Y]).length:Nat)) (by rw [aa7,ad5];exact qG d.length (by omega)) ?_;refine l_ (Λ':=[.row 18 (.slice (some ⟨bb,o,none⟩) p.gs.length cp) (qN (d++[Y]) p.gs)]) ?_;refine u_ (ih (d++[Y]) ⟨by rw [aa7,ad5];omega,hd3⟩ (by rw [aa7,ad5];omega))
   ·have h4:g.kind≠4:=by have h:(g.kind==4)=false:=hc;simpa using h
    clear hc;have h1:fQ s.store g=some ⟨g.kind,lX x,g.c,g.item,g.to,g.time,g.body⟩:=by unfold fQ;rw [hx];simp only;rw [iF h4]
    refine ac7 (show∃Y:GD,Y=⟨g.kind,lX x,g.c,g.item,g.to,g.time,g.body⟩ from ⟨_,rfl⟩) fun Y hY=>?_;have hd3:cY s.store p.gs=(cY s.store (p.gs.drop (d++[Y]).length)).map ((d++[Y])++ ·):=by
     rw [hd2,h1,<-hY,aa7,ad5];show ((cY s.store (p.gs.drop (d.length+1))).map (Y:: ·)).map (d++ ·)=_;cases cY s.store (p.gs.drop (d.length+1)) with
     |none=>rfl |some l=>simp
    refine y_ ?_;refine A.val 67 T (x':= .ag (numA x)) s_ ?_;refine A.ax T T T T T T T T (by show (0:Int)<=(d.length:Nat);omega) (by rw [hln];omega) T ?_;refine A.jx 68 T ?_;refine y_ ?_;refine A.dt d.length 1 ty68 T T T T T p.gs.length cp o ?_ hat (x':=G1 g x) T T T T (xs':=qN (d++[Y]) p.gs) (by rw [<-G1_eq,<-hY];exact NK hgi Y) ?_
    ·simp
    refine y_ ?_;refine e_ 72 T (x':=AB false) (aA (by rw [beq_eq_false_iff_ne];exact h4)) ?_;refine A.ad 17 T (x':=AI ((d++[Y]).length:Nat)) (by rw [aa7,ad5];exact qG d.length (by omega)) ?_;refine l_ (Λ':=[.row 18 (.slice (some ⟨bb,o,none⟩) p.gs.length cp) (qN (d++[Y]) p.gs)]) ?_;refine u_ (ih (d++[Y]) ⟨by rw [aa7,ad5];omega,hd3⟩ (by rw [aa7,ad5];omega))
 have hci: ¬d.length<p.gs.length:=by simpa using hc
 clear hc ih;have hdl:d.length=p.gs.length:=by omega
 rw [ag5 (by omega)] at hd2;have hd3:cY s.store p.gs=some d:=by rw [hd2];show some (d++[])=_;rw [ae3]
 rw [hd3] at hR;have hRR:R=fB s.store ⟨16,0,0,0,[],[],d,[]⟩:=hR;have hta:=kQ s s.store ⟨16,0,0,0,[],[],d,[]⟩;have e9:aB ⟨16,0,0,0,[],[],d,[]⟩= .ag [aU 16,AI 0,AI 0,aU 0, .sl 2 [] none, .sl 6 [] none, .sl 18 (qN d p.gs) none, .sl 8 [] none]:=by show AV.ag [_,_,_,_,AV.sl 2 _ none,AV.sl 6 (bB []) none,AV.sl 18 (eV d) none,AV.sl 8 (bC []) none]=_;rw [bB,bC,jK,qN,ag5 (by omega)];simp
 rw [e9] at hta;refine A.cf 5 T ?_;refine y_ ?_;refine c_ hta ?_;refine R_ ?_;rw [hRR];exact .refl
section
variable{V:List KV}{C:List Int}
theorem nL{p:PR}{ch v:Bool}{t1 t2 e1 e2 g1 g2 l1 l2:Int}(h:aN p ch v t1 t2 e1 e2 g1 g2 l1 l2=true):(t1<=p.to.length/\(p.to.length:Int)<=t2)/\(e1<=p.e.length/\(p.e.length:Int)<=e2)/\(g1<=p.gs.length/\(p.gs.length:Int)<=g2)/\(l1<=p.l.length/\(p.l.length:Int)<=l2):=by simp only [aN,inB,aa1,dT] at h;omega
theorem Loc.k3{p:PR}(h:Loc V C p)(hk:p.kind=3):0<=p.v/\p.v<V.length:=by have h1:=h.kind;obtain ⟨k,c,v,i,to,e,gs,l⟩:=p;have hk:k=3:=hk;subst hk;have h2:(aN ⟨3,c,v,i,to,e,gs,l⟩ false true 0 0 0 0 0 0 0 0&&decide (0<=v)&&decide (v<V.length))=true:=h1;simp only [aa1,dT] at h2;exact ⟨h2.1.2,h2.2⟩
theorem Loc.k4{p:PR}(h:Loc V C p)(hk:p.kind=4):p.to.length=p.e.length/\(p.to.zip p.e).all (fun te=>eK V te.1 te.2)=true:=by have h1:=h.kind;obtain ⟨k,c,v,i,to,e,gs,l⟩:=p;have hk:k=4:=hk;subst hk;have h2:(aN ⟨4,c,v,i,to,e,gs,l⟩ false false 1 8 1 8 0 0 0 0&&(to.length==e.length)&&(to.zip e).all fun te=>eK V te.1 te.2)=true:=h1;simp only [aa1,beq_iff_eq] at h2;exact ⟨h2.1.2,h2.2⟩
theorem tJ{α:Type}{l:List α}(h:l.length=1): ∃x,l=[x]:=by
 match l,h with
 | [x],_=>exact ⟨x,rfl⟩
theorem Loc.k5{p:PR}(h:Loc V C p)(hk:p.kind=5): ∃t,p.to=[t]/\gD V C.length p.c p.item t=true:=by have h1:=h.kind;obtain ⟨k,c,v,i,to,e,gs,l⟩:=p;have hk:k=5:=hk;subst hk;have h2:(aN ⟨5,c,v,i,to,e,gs,l⟩ true false 1 1 0 0 0 0 0 0&&to1 (gD V C.length c i) to)=true:=h1;rw [aa1] at h2;have h3:=(nL h2.1).1;obtain ⟨t,ht⟩:=tJ (l:=to) (by have:(to.length:Int)=to.length:=rfl;have h4:(1:Int)<=to.length:=h3.1;have h5:(to.length:Int)<=1:=h3.2;omega);subst ht;exact ⟨t,rfl,h2.2⟩
theorem Loc.k6{p:PR}(h:Loc V C p)(hk:p.kind=6): ∃e,p.e=[e]/\jW C.length p.c p.item 0=true/\kM V e p.item=true:=by have h1:=h.kind;obtain ⟨k,c,v,i,to,e,gs,l⟩:=p;have hk:k=6:=hk;subst hk;have h2:(aN ⟨6,c,v,i,to,e,gs,l⟩ true false 0 0 1 1 0 0 0 0&&jW C.length c i 0&&oS V e i)=true:=h1;rw [aa1,aa1] at h2;have h3:=(nL h2.1.1).2.1;obtain ⟨t,ht⟩:=tJ (l:=e) (by have h4:(1:Int)<=e.length:=h3.1;have h5:(e.length:Int)<=1:=h3.2;omega);subst ht;exact ⟨t,rfl,h2.1.2,h2.2⟩
theorem Loc.k7{p:PR}(h:Loc V C p)(hk:p.kind=7): ∃t,p.to=[t]/\dR V t 1=true:=by have h1:=h.kind;obtain ⟨k,c,v,i,to,e,gs,l⟩:=p;have hk:k=7:=hk;subst hk;have h2:(aN ⟨7,c,v,i,to,e,gs,l⟩ false false 1 1 0 0 0 0 0 0&&to1 (fun t=>dR V t 1) to)=true:=h1;rw [aa1] at h2;have h3:=(nL h2.1).1;obtain ⟨t,ht⟩:=tJ (l:=to) (by have h4:(1:Int)<=to.length:=h3.1;have h5:(to.length:Int)<=1:=h3.2;omega);subst ht;exact ⟨t,rfl,h2.2⟩
theorem Loc.k8{p:PR}(h:Loc V C p)(hk:p.kind=8): ∃e,p.e=[e]/\kM V e 1=true:=by have h1:=h.kind;obtain ⟨k,c,v,i,to,e,gs,l⟩:=p;have hk:k=8:=hk;subst hk;have h2:(aN ⟨8,c,v,i,to,e,gs,l⟩ false false 0 0 1 1 0 0 0 0&&oS V e 1)=true:=h1;rw [aa1] at h2;have h3:=(nL h2.1).2.1;obtain ⟨t,ht⟩:=tJ (l:=e) (by have h4:(1:Int)<=e.length:=h3.1;have h5:(e.length:Int)<=1:=h3.2;omega);subst ht;exact ⟨t,rfl,h2.2⟩
theorem Loc.k13{p:PR}(h:Loc V C p)(hk:p.kind=13): ∃e b,p.e=[e]/\p.l=[b]/\kM V e 3=true:=by have h1:=h.kind;obtain ⟨k,c,v,i,to,e,gs,l⟩:=p;have hk:k=13:=hk;subst hk;have h2:(aN ⟨13,c,v,i,to,e,gs,l⟩ false false 0 0 1 1 0 0 1 1&&oS V e 3)=true:=h1;rw [aa1] at h2;have h3:=nL h2.1;obtain ⟨t,ht⟩:=tJ (l:=e) (by have h4:(1:Int)<=e.length:=h3.2.1.1;have h5:(e.length:Int)<=1:=h3.2.1.2;omega);obtain ⟨b,hb⟩:=tJ (l:=l) (by have h4:(1:Int)<=l.length:=h3.2.2.2.1;have h5:(l.length:Int)<=1:=h3.2.2.2.2;omega);subst ht;subst hb;exact ⟨t,b,rfl,rfl,h2.2⟩
end
theorem d6.small{k:KN}{s:ST}(h:d6 k s):Small s.store:=uZ h.store
theorem rY(st:List (List Int))(v:Int)(n:Nat):mE st v (n+1)=fU (mE st v n) v (n:Nat) 0:=by unfold mE;rw [List.range_succ,List.foldl_append];rfl
theorem zY{st:List (List Int)}(h:Small st)(v:Int): ∀n,Small (mE st v n)
 |0=>h |n+1=>by rw [rY];exact (zY h v n).put _ _ _
theorem does_3(s:ST)(p:PR)(hsm:Small s.store)(r:List Int)(hr:s.store[p.v.toNat]? =some r)(hv0:0<=p.v)(hk:p.kind=3):Pure prog a9 54 [AP s,aB p] (n6 (fB (mE s.store p.v r.length) aK)):=by
 have hrl:((r.map aL).length:Int)=r.length:=by rw [aa0]
 have hr64:=hsm.2 r (aa2 hr);refine P_ func54 120 fun _ _ _ _=>?_;refine b_ fun b1=>?_;refine y_ ?_;refine e_ 12 T (x':=AB true) (aA (by rw [hk];rfl)) ?_;refine A.x T hv0 (aR hr) T T ?_;refine y_ ?_;refine A.ad 24 T (x':=AI (r.length:Nat)) (aM hrl) ?_;refine A.ay [0,3,5,24,25] T ?_;refine A.ar (ι:=Nat) (fun i=>(⟨[(0,AP s),(3,cT b1),(5,eQ (mE s.store p.v i)),(24,AI (r.length:Nat)),(25,AI (i:Nat))],[]⟩,[.box b1 (aB p)])) (fun i=>i<=r.length) (fun i=>r.length-i) 0 (ac0 _) T fun i hi ih=>?_;refine y_ ?_;refine k_ (fun hc=>?_) fun hc=>?_
 ·have hci:i<r.length:=by simpa using hc
  clear hc;have hpp:=(zY hsm p.v i).put_p p.v (i:Nat) 0;rw [<-rY] at hpp;refine y_ ?_;refine c_ hpp ?_;refine vI 25 i ?_;refine l_ (Λ':=[.box b1 (aB p)]) ?_;refine u_ (ih (i+1) (by omega) (by omega))
 have hci: ¬i<r.length:=by simpa using hc
 clear hc ih;have hil:i=r.length:=by omega
 refine y_ ?_;refine n_ nM ?_;refine c_ (kQ s (mE s.store p.v i) aK) ?_;refine R_ ?_;rw [hil];exact .refl
theorem does_7(s:ST)(p:PR)(hs:OS s.store)(hsm:Small s.store)(t:PL)(r:List PL)(ht:p.to=t::r)(hw:pV t)(hn:t.ix.length<=281474976710656)(hk:p.kind=7):Pure prog a9 54 [AP s,aB p] (n6 (xS s p)):=by
 have hp:=HQ s.store hs t.v t.ix hw hn;have hat:(p.to.map dU)[(0:Int).toNat]? =some (dU t):=by rw [ht];rfl
 refine eX (xS s p) fun R hR=>?_;rw [<-hR];unfold xS at hR;rw [ht] at hR;simp only at hR;cases hx:cZ s.store t.v t.ix with
 |none=>
  rw [hx] at hp hR;have hRR:R=fB s.store bL:=hR;refine P_ func54 120 fun _ _ _ _=>?_
  (refine b_ fun bx=>?_;refine y_ ?_)
  refine e_ 12 T (x':=AB false) (aA (by rw [hk];rfl)) ?_;refine e_ 38 T (x':=AB false) (aA (by rw [hk];rfl)) ?_;refine e_ 43 T (x':=AB true) (aA (by rw [hk];rfl)) ?_;refine d_ 16 [0,1,2,3,4,5,6,7,8,9,10,11,12,13,14,15] [(9,QI none)] ?_;refine rM T hat T ?_;refine lS hp ?_;refine z_ ?_;refine d_ 7 [0,1,2,3,4,5,6] [(6,aB bL)] ?_;refine WA.c T T qT (.sub .refl) ?_;refine WA.nil (l:=[]) T ?_;refine c_ (kQ s s.store bL) ?_;refine R_ ?_;rw [hRR];exact .refl
 |some vi=>
  rw [hx] at hp hR;obtain ⟨v,i⟩:=vi;have hRR:R=fB (fU s.store v i s.time) aK:=hR;have hpp:=hsm.put_p v i s.time;refine P_ func54 120 fun _ _ _ _=>?_
  (refine b_ fun bx=>?_;refine y_ ?_)
  refine e_ 12 T (x':=AB false) (aA (by rw [hk];rfl)) ?_;refine e_ 38 T (x':=AB false) (aA (by rw [hk];rfl)) ?_;refine e_ 43 T (x':=AB true) (aA (by rw [hk];rfl)) ?_;refine d_ 16 [0,1,2,3,4,5,6,7,8,9,10,11,12,13,14,15] [(9,QI (some (v,i)))] ?_;refine rM T hat T ?_;refine lS hp ?_;refine z_ ?_;refine d_ 15 [0,1,2,3,4,5,6,7,8,9,10,11,12,13,14] [(13,eQ (fU s.store v i s.time)),(14,aB aK)] ?_;refine lS hpp ?_;refine WA.c T T nM (.sub .refl) ?_;refine WA.nil (l:=[]) T ?_;refine c_ (kQ s (fU s.store v i s.time) aK) ?_;refine R_ ?_;rw [hRR];exact .refl
theorem fits_wf{k:KN}{c:PR}(h:Loc k.vars k.chans c):(∀x,x∈c.e->iZ x)/\(∀t,t∈c.to->pV t/\t.ix.length<=281474976710656)/\(∀g,g∈c.gs->(iZ g.cond/\iZ g.time)/\(pV g.to/\g.to.ix.length<=281474976710656)/\ ∃y,g.body=[y]):=
 ⟨fun x hx=>(h.e x hx).1,fun t ht=>⟨(h.to t ht).1,smP_l (h.to t ht).2⟩,fun g hg=>⟨⟨(h.gs g hg).1.1,(h.gs g hg).2.1.1⟩,⟨(h.gs g hg).2.2.1,smP_l (h.gs g hg).2.2.2⟩,h.body g hg⟩⟩
theorem does_p(k:KN)(s:ST)(hg:d6 k s)(p:PR)(h:Loc k.vars k.chans p):Pure prog a9 54 [AP s,aB p] (n6 (bA s p)):=by
 have hs:=hg.ws;have hsm:=hg.small;obtain ⟨f1,f2,f3⟩:=fits_wf h;obtain ⟨l1,l2,l3,l4⟩:=h.lens
 by_cases k3:p.kind=3
 ·obtain ⟨h0,h1⟩:=h.k3 k3;have hlen:s.store.length=k.vars.length:=by
   have:=hg.store;unfold sJ at this;simp only [aa1,dT] at this;exact this.1.1
  obtain ⟨r,hr⟩:=dC (l:=s.store) (i:=p.v.toNat) (by omega);have hd:bA s p=fB (mE s.store p.v r.length) aK:=by unfold bA rowOf;rw [iT k3,hr]
  rw [hd];exact does_3 s p hsm r hr h0 k3
 by_cases k7:p.kind=7
 ·obtain ⟨t,ht,_⟩:=h.k7 k7;have ht':=f2 t (by rw [ht];exact .head _);have hd:bA s p=xS s p:=by unfold bA;rw [iF k3,iF (by omega),iT k7]
  rw [hd];exact does_7 s p hs hsm t [] ht ht'.1 ht'.2 k7
 by_cases k4:p.kind=4
 ·have hd:bA s p=iD s p:=by unfold bA;rw [iF k3,iT k4]
  rw [hd];have ha:=XL s p hs hsm f1 f2 (h.k4 k4).1 l2;obtain ⟨kk,c,v,i,to,e,gs,l⟩:=p;have k4:kk=4:=k4;subst k4;refine P_ func54 120 fun w0 h0 F hgs=>?_
  (refine b_ fun bx=>?_;refine y_ ?_)
  exact lR ha
 by_cases k12:p.kind=12
 ·have hd:bA s p=eL s p.gs:=by unfold bA;rw [iF k3,iF k4,iF k7,iT k12]
  rw [hd];have ha:=XY s p hs (fun g hg=>⟨(f3 g hg).1.1,(f3 g hg).2.2⟩) (by omega);obtain ⟨kk,c,v,i,to,e,gs,l⟩:=p;have k12:kk=12:=k12;subst k12;refine P_ func54 120 fun w0 h0 F hgs=>?_
  (refine b_ fun bx=>?_;refine y_ ?_)
  exact lR ha
 by_cases k14:p.kind=14
 ·have hd:bA s p=eM s p:=by unfold bA;rw [iF k3,iF k4,iF k7,iF k12,iT (.inl k14)]
  rw [hd];have ha:=SD s p hs (fun g hg=>(f3 g hg).1) l3;obtain ⟨kk,c,v,i,to,e,gs,l⟩:=p;have k14:kk=14:=k14;subst k14;refine P_ func54 120 fun w0 h0 F hgs=>?_
  (refine b_ fun bx=>?_;refine y_ ?_)
  exact lR ha
 by_cases k15:p.kind=15
 ·have hd:bA s p=eM s p:=by unfold bA;rw [iF k3,iF k4,iF k7,iF k12,iT (.inr k15)]
  rw [hd];have ha:=SD s p hs (fun g hg=>(f3 g hg).1) l3;obtain ⟨kk,c,v,i,to,e,gs,l⟩:=p;have k15:kk=15:=k15;subst k15;refine P_ func54 120 fun w0 h0 F hgs=>?_
  (refine b_ fun bx=>?_;refine y_ ?_)
  exact lR ha
 by_cases k16:p.kind=16
 ·have hd:bA s p=p.gs.flatMap (cD s):=by unfold bA;rw [iF k3,iF k4,iF k7,iF k12,iF (by omega),iT k16]
  rw [hd];have ha:=W3 s p hs (fun g hg=>(f3 g hg).2) l3;obtain ⟨kk,c,v,i,to,e,gs,l⟩:=p;have k16:kk=16:=k16;subst k16;refine P_ func54 120 fun w0 h0 F hgs=>?_
  (refine b_ fun bx=>?_;refine y_ ?_)
  exact lR ha
 by_cases k5:p.kind=5
 ·obtain ⟨t,ht,_⟩:=h.k5 k5;have ht':=f2 t (by rw [ht];exact .head _);have hd:bA s p=fF s p.c p.item t aK:=by unfold bA inM;rw [iF k3,iF k4,iF k7,iF k12,iF (by omega),iF k16,iT k5,ht]
  rw [hd];have ha:=MY s p.c p.item t aK hs ht'.1 ht'.2;have hat:(p.to.map dU)[(0:Int).toNat]? =some (dU t):=by rw [ht];rfl
  obtain ⟨kk,c,v,i,to,e,gs,l⟩:=p;have k5:kk=5:=k5;subst k5;refine P_ func54 120 fun w0 h0 F hgs=>?_
  (refine b_ fun bx=>?_;refine y_ ?_)
  refine d_ 10 [0,1,2,3,4,5,6,7,8,9] [(9,aB aK)] ?_;refine rM T hat T ?_;refine WA.c T T nM (.sub .refl) ?_;refine WA.nil (l:=[]) T ?_;exact lR ha
 by_cases k8:p.kind=8
 ·obtain ⟨e0,he,_⟩:=h.k8 k8;have hd:bA s p=eR s p:=by unfold bA;rw [iF k3,iF k4,iF k7,iF k12,iF (by omega),iF k16,iF k5,iT (.inl k8)]
  rw [hd];have ha:=ES s p e0 [] he hs (f1 e0 (by rw [he];exact .head _)) aK (fun h=>by omega);obtain ⟨kk,c,v,i,to,e,gs,l⟩:=p;have k8:kk=8:=k8;subst k8;refine P_ func54 120 fun w0 h0 F hgs=>?_
  (refine b_ fun bx=>?_;refine y_ ?_)
  exact lR ha
 by_cases k13:p.kind=13
 ·obtain ⟨e0,b,he,hb,_⟩:=h.k13 k13;have hd:bA s p=eR s p:=by unfold bA;rw [iF k3,iF k4,iF k7,iF k12,iF (by omega),iF k16,iF k5,iT (.inr (.inl k13))]
  rw [hd];have ha:=ES s p e0 [] he hs (f1 e0 (by rw [he];exact .head _)) b (fun _=>⟨[],hb⟩);obtain ⟨kk,c,v,i,to,e,gs,l⟩:=p;have k13:kk=13:=k13;subst k13;refine P_ func54 120 fun w0 h0 F hgs=>?_
  (refine b_ fun bx=>?_;refine y_ ?_)
  exact lR ha
 by_cases k6:p.kind=6
 ·obtain ⟨e0,he,_⟩:=h.k6 k6;have hd:bA s p=eR s p:=by unfold bA;rw [iF k3,iF k4,iF k7,iF k12,iF (by omega),iF k16,iF k5,iT (.inr (.inr k6))]
  rw [hd];have ha:=ES s p e0 [] he hs (f1 e0 (by rw [he];exact .head _)) aK (fun h=>by omega);obtain ⟨kk,c,v,i,to,e,gs,l⟩:=p;have k6:kk=6:=k6;subst k6;refine P_ func54 120 fun w0 h0 F hgs=>?_
  (refine b_ fun bx=>?_;refine y_ ?_)
  exact lR ha
 have hd:bA s p=[]:=by unfold bA;rw [iF k3,iF k4,iF k7,iF k12,iF (by omega),iF k16,iF k5,iF (by omega)]
 rw [hd];have n: ∀{j:Int},p.kind≠j->(p.kind==j)=false:=fun h=>beq_eq_false_iff_ne.2 h;refine P_ func54 120 fun w0 h0 F hgs=>?_
 (refine b_ fun bx=>?_;refine y_ ?_)
 refine e_ 12 T (x':=AB false) (aA (n k3)) ?_;refine e_ 38 T (x':=AB false) (aA (n k4)) ?_;refine e_ 43 T (x':=AB false) (aA (n k7)) ?_;refine e_ 84 T (x':=AB false) (aA (n k12)) ?_;refine e_ 89 T (x':=AB false) (aA (n k14)) ?_;refine e_ 89 T (x':=AB false) (aA (n k15)) ?_;refine e_ 95 T (x':=AB false) (aA (n k16)) ?_;refine e_ 100 T (x':=AB false) (aA (n k5)) ?_;refine e_ 113 T (x':=AB false) (aA (n k8)) ?_;refine e_ 113 T (x':=AB false) (aA (n k13)) ?_;refine e_ 113 T (x':=AB false) (aA (n k6)) ?_;refine R_ ?_;exact .nil
section
variable{K:AC}{k:List It}{E:aH}{Λ:List aF}
theorem A.gf{x:Operand}{ps:Array Tmp}{assign body:Code}{g:FuncId}{cap cap':List AV}{xss:List (List AV)}(hx:E.ev K.gs [] x=some (.fn g [] cap'))(hs:fO cap' cap)(it:Iter K.P K.S K.ok K.gs g cap xss)(hrd:K.rd=none)
 (hb:o7 K.n ps.toList=true) (hlen: ∀xs,xs∈xss->Nat.beq (pG xs) ps.toList.length=true) (Inv:Nat->List aF->Prop) (Stop:LoopState->Option Code->List aF->Prop) (h0:Inv 0 Λ)
 (rounds: ∀(h0':GH) (lp:Nat) (LR:Loop),K.h0.le h0'-> ∀i xs Λi (h1:GH) (hg1:jP h1 K.gs) (F:List a6),xss[i]? =some xs->Inv i Λi->h0'.le h1->
   A ⟨K.P,K.S,K.w0,K.f,K.fn,K.n,K.ok,K.hfn,h1,F,K.gs,hg1,fun y Λ'=>
       (y= .v (.bool true)/\ ∃Λ'',Λ'= .loop lp LR .ready none::Λ''/\Inv (i+1) Λ'')\/(y= .v (.bool false)/\ ∃st pd Λ'',st≠ .busy/\Λ'= .loop lp LR st pd::Λ''/\Stop st pd Λ''),[],some lp⟩
     [.code assign, .begin, .code body] ⟨ED ps.toList xs E.us,[]⟩ (.loop lp LR .ready none::Λi))
 (fin: ∀(h1:GH) (hg1:jP h1 K.gs) (r:Nat) Λ',K.h0.le h1->Inv xss.length Λ'->A ⟨K.P,K.S,K.w0,K.f,K.fn,K.n,K.ok,K.hfn,h1,K.F,K.gs,hg1,K.Q,r::K.D,none⟩ k E Λ')
 (stop: ∀(h1:GH) (hg1:jP h1 K.gs) (r:Nat) st pd Λ',K.h0.le h1->st≠ .busy->Stop st pd Λ'->A ⟨K.P,K.S,K.w0,K.f,K.fn,K.n,K.ok,K.hfn,h1,K.F,K.gs,hg1,K.Q,r::K.D,none⟩ (oA pd++k) E Λ'):
 A K (.code (.rangeFunc x ps assign body)::k) E Λ:=
 A.eu hx hs it hrd hb hlen Inv Stop h0 (fun h0' lp tm hl i xs Λi h1 hg1 F hxs hi hl1=>rounds h0' lp _ hl i xs Λi h1 hg1 F hxs hi hl1) fin stop
end
abbrev actW(a:lH)(f path:AV):AV:= .ag [aU a.kind,eQ a.store,AI a.c,AI a.v,AI a.i,aU a.item,aL a.value,aU a.next.kind,AI a.next.c,AI a.next.v,aU a.next.item,iK a.next.to,c8 a.next.e,rH a.next.gs,iQ a.next.l,f,path]
abbrev rawF(path:List Nat)(b:Nat):AV:= .fn 55 [] [.pe 1 (mK path),cT b]
abbrev putF(a:lH)(path:List Nat)(b:Nat):AV:= .fn 55 [] [.pe 1 (mK path), .pe 17 (actW a (rawF path b) (mK path))]
abbrev HT(a:lH×List Nat)(b:Nat):AV:=actW a.1 (putF a.1 a.2 b) (mK a.2)
theorem lZ{V:List KV}{C:List Int}{c p:PR}{h:Bool}(a:lH)(path:List Nat)(b:Nat)(hok:okF (Loc V C) true h p)(ha:atR p path=some c):Pure prog a9 55 [aB p, .pe 1 (mK path), .pe 17 (actW a (rawF path b) (mK path))] (aB (bN a.next p path)):=by
 have hr:=QR (q:=a.next) hok ha;refine P_ func55 10 fun _ _ _ _=>?_
 (refine b_ fun bx=>?_;refine b_ fun bx=>?_;refine y_ ?_)
 refine c_ hr ?_;refine C_ ?_;exact .refl
theorem pathA_sb(path:List Nat):Sb (uC path) (mK path):=by
 cases path with
 |nil=>exact .nil |cons i r=>exact .refl
theorem gK(st:List (List Int))(q:PR):(fB st q).length=1:=rfl
theorem F8(s:ST)(c item:Int)(to:PL)(q:PR):(fF s c item to q).length=1:=by unfold fF;split<;>rfl
theorem uM(s:ST): ∀l:List GD,(eL s l).length=1
 | []=>rfl |g::r=>by
  rw [eL];split
  ·rfl
  ·split
   ·rfl
   ·exact uM s r
theorem LF{V:List KV}{C:List Int}(s:ST){p:PR}(h:Loc V C p):(bA s p).length<=16:=by
 obtain ⟨l1,l2,l3,l4⟩:=h.lens;unfold bA;split
 ·rw [gK];omega
 split
 ·unfold iD;split
  ·rw [gK];omega
  ·split<;>(rw [gK];omega)
 split
 ·unfold xS;split
  ·simp
  ·split<;>(rw [gK];omega)
 split
 ·rw [uM];omega
 split
 ·unfold eM;split<;>(rw [gK];omega)
 split
 ·have:=pF (cD s) (m7 s) p.gs;omega
 split
 ·unfold inM;split
  ·simp
  ·rw [F8];omega
 split
 ·unfold eR;split
  ·simp
  ·split
   ·rw [gK];omega
   ·repeat (first|(rw [gK];omega)|simp|split)
 ·simp
abbrev m9(l:List ((lH×List Nat)×Nat)):List AV:=l.map fun x=>HT x.1 x.2
abbrev FN(s:ST)(l:List (PR×List Nat)):List (lH×List Nat):=l.flatMap fun cp=>(bA s cp.1).map fun a=>(a,cp.2)
theorem FO{V:List KV}{C:List Int}(s:ST): ∀{l:List (PR×List Nat)},(∀cp,cp∈l->Loc V C cp.1)->(FN s l).length<=16*l.length
 | [],_=>aa6 _ |cp::r,h=>by show (List.flatMap _ (cp::r)).length<=_;rw [ag2,aa7,aa0,ab1];have h1:=LF s (h cp (.head _));have h2:=FO s (l:=r) fun x hx=>h x (.tail _ hx);unfold FN at h2;omega
theorem K6{V:List KV}{C:List Int}{p:PR}(hok:okF (Loc V C) true false p): ∀cp,cp∈cX [] p->Loc V C cp.1:=fun cp hcp=>by obtain ⟨h',hw⟩:=at_ok (A9 (c:=cp.1) (s:=cp.2) hcp) hok;rw [okF_eq] at hw;exact hw.1.1
theorem acts_p(k:KN)(s:ST)(hg:d6 k s)(hcl:(cX [] s.root).length<=100000):gM prog a9 24 [AP s] [] (fun l:List ((lH×List Nat)×Nat)=> .sl 17 (m9 l) none) (fun _=>[]) (fun l=>l.map at6=bR s):=by
 have hloc:=K6 hg.root;have hht:([]:List Nat).length+pY s.root<=1000:=by have h1:=nf_ht (Z9 hg.nf);have h2:=hg.dw;show 0+_<=_;omega
 have hit:=PS _ s.root [] false (aa6 _) hg.root (Z9 hg.nf) hht;unfold gM;refine lI.of (S:=tt) (fn:=f24) (n:=33) dN func24 T T T T fun w0 h0 F hgs=>?_;refine b_ fun b1=>?_;refine A.b T fun b2=>?_;refine y_ ?_;refine n_ (BA s.root []) ?_;refine A.gu (b:=b2) (x':= .sl 17 (m9 []) (some (.slice none 0 0))) (.refl _) (fun h y r=>JD 17 r) ?_;refine A.dj oJ.size 0 none (fun _=>rfl) (fun x h=>by cases h) ?_;refine y_ ?_;refine A.ay [1,2,12] T ?_
 refine A.gf (xss:=(cX [] s.root).map YC) T .refl hit T T (fun xs hxs=>?_) (fun j Λ=> ∃(l:List ((lH×List Nat)×Nat)) (z:Value),l.map at6=FN s ((cX [] s.root).take j)/\Λ=[.tail oJ.size z, .box b2 (.sl 17 (m9 l) (some z)), .box b1 (AP s)])
  (fun st pd Λ=>False) ⟨[], .slice none 0 0,rfl,rfl⟩ (fun h1 lp LR hl1 j xs Λi h2 hg2 F2 hxs hinv hl2=>?_) (fun h1 hg1 r Λ' hl1 hinv=>?_) (fun h1 hg1 r st pd Λ' hl1 hst hs=>hs.elim)
 ·rw [ac1] at hxs;obtain ⟨cp,_,rfl⟩:=hxs
  rfl
 ·obtain ⟨l,z,hl,rfl⟩:=hinv;obtain ⟨cp,hcp,rfl⟩: ∃cp,(cX [] s.root)[j]? =some cp/\YC cp=xs:=by
   rw [ab9] at hxs;cases hq:(cX [] s.root)[j]? with
   |none=>rw [hq] at hxs;cases hxs |some cp=>rw [hq] at hxs;injection hxs with hxs;exact ⟨cp,rfl,hxs⟩
  have hlc:=hloc cp (aa2 hcp);have hdo:=does_p k s hg cp.1 hlc;have hd16:=LF s hlc;refine A.val 14 T (pathA_sb cp.2) ?_;refine b_ fun b3=>?_;refine y_ ?_;refine A.b T fun b4=>?_;refine y_ ?_;refine A.df 4 b4 (y':= .pe 1 (mK cp.2)) T T T .ptr ?_;refine A.begin T T T ?_;refine y_ ?_;refine c_ hdo ?_;refine A.ad 18 T (x':=AI ((bA s cp.1).length:Nat)) (aM (by rw [aa0])) ?_;refine A.ay [1,2,4,17,18,19] T ?_;refine A.perm (List.perm_middle (l₁:=[_,_])) ?_
  refine A.ar (ι:=Nat×List ((lH×List Nat)×Nat)×Value) (fun q=>(⟨[(1,cT b1),(2,cT b2),(4, .pe 1 (mK cp.2)),(17,n6 (bA s cp.1)),(18,AI ((bA s cp.1).length:Nat)),(19,AI (q.1:Nat))],[]⟩,[.tail oJ.size q.2.2, .loop lp LR .busy none, .box b3 (aB cp.1), .box b2 (.sl 17 (m9 q.2.1) (some q.2.2)), .box b1 (AP s)]))
   (fun q=>q.1<=(bA s cp.1).length/\q.2.1.map at6=FN s ((cX [] s.root).take j)++((bA s cp.1).take q.1).map fun a=>(a,cp.2)) (fun q=>(bA s cp.1).length-q.1) (0,l,z) ⟨ac0 _,by rw [hl];simp⟩ T fun q hi ih=>?_
  obtain ⟨i,l',z'⟩:=q;obtain ⟨hi1,hi2⟩:=hi;simp only at hi1 hi2;refine y_ ?_;refine k_ (fun hc=>?_) fun hc=>?_
  ·have hci:i<(bA s cp.1).length:=by simpa using hc
   clear hc;refine aX hci fun a ha=>?_;refine y_ ?_;refine j_ T (aR ha) T ?_;refine b_ fun b6=>?_;refine y_ ?_;refine A.df 28 b6 (y':=HT (a,cp.2) b6) T T T (.ag (.cons (.sub .refl) (.cons (.sub .refl) (.cons (.sub .refl) (.cons (.sub .refl) (.cons (.sub .refl) (.cons (.sub .refl) (.cons (.sub .refl) (.cons (.sub .refl) (.cons (.sub .refl) (.cons (.sub .refl) (.cons (.sub .refl) (.cons (.sub .refl) (.cons (.sub .refl) (.cons (.sub .refl) (.cons (.sub .refl) (.cons (.fn (.cons (.sub .refl) (.cons .ptr (.sub .refl)))) (.sub .refl)))))))))))))))))) ?_;refine t_ fun bl=>?_;refine A.append T T T T T T T T T T T T T T (by show ((m9 l').length+1)*17<=_;rw [aa0];have h1:=congrArg List.length hi2;rw [aa0,aa7,aa0,ac3] at h1;have h2:=FO s (l:=(cX [] s.root).take j) (fun cp h=>hloc cp (List.mem_of_mem_take h));rw [ac3] at h2;omega) fun z2=>?_;refine e_ 30 T (x':= .sl 17 (m9 (l'++[((a,cp.2),b6)])) (some z2)) (by show AV.sl 17 (m9 l'++[HT (a,cp.2) b6]) _=_;unfold m9;rw [ae2];rfl) ?_;refine vI 19 i ?_;refine l_ (Λ':=[.tail oJ.size z2, .loop lp LR .busy none, .box b3 (aB cp.1), .box b2 (.sl 17 (m9 (l'++[((a,cp.2),b6)])) (some z2)), .box b1 (AP s)]) ?_;refine u_ (ih (i+1,l'++[((a,cp.2),b6)],z2) ⟨by show i+1<=_;omega,?_⟩ (by show _-(i+1)<_-i;omega));show (l'++[((a,cp.2),b6)]).map at6=_;rw [ae2,hi2];show _=FN s _++(List.take (i+1) _).map _;rw [ac6,ha];simp
  have hci: ¬i<(bA s cp.1).length:=by simpa using hc
  clear hc ih;have hil:i=(bA s cp.1).length:=by omega
  refine y_ ?_;refine A.perm (.swap _ _ _) ?_;refine l_ (Λ':=[.loop lp LR .busy none, .tail oJ.size z', .box b2 (.sl 17 (m9 l') (some z')), .box b1 (AP s)]) ?_;refine A.dm T T (.inl ⟨rfl,_,rfl,l',z',?_,rfl⟩);rw [hi2,hil,ac4,ac6,hcp];unfold FN;rw [ak2];simp
 ·obtain ⟨l,z,hl,rfl⟩:=hinv;rw [aa0,ac4] at hl;refine y_ ?_;refine A.gh (Λ':=[]) T T T T T (List.nil_sublist _) ⟨l, .cw,rfl,hl⟩
def kindOk(kind x:Int):Prop:=(kind=2->0<=x/\x<=255)/\(kind=3->x=0\/x=1)
theorem sG{k x:Int}(h:cL k x=true):kindOk k x:=by
 unfold cL at h;constructor
 ·intro hk;subst hk;simp at h;exact h
 ·intro hk;subst hk;simp at h;exact h
theorem I0(k:Int)(b:Bool)(hk:k=3):kindOk k (dS b):=⟨fun h=>by omega,fun _=>by cases b<;>simp [dS]⟩
theorem C7(x:Int):kindOk 1 x:=⟨fun h=>by omega,fun h=>by omega⟩
def MF(l:List KV)(s:List (List Int)):Prop:= ∀(i:Nat) (v:KV) (r:List Int),l[i]? =some v->s[i]? =some r-> ∀x,x∈r->cL v.kind x=true
theorem KO{l:List KV}{s:List (List Int)}(hg:MF l s){v i x:Int}{y:KV}(hy:l[v.toNat]? =some y)(hx:A5 s v i=some x):cL y.kind x=true:=by
 unfold A5 at hx;split at hx
 ·cases hx
 ·cases hr:s[v.toNat]? with
  |none=>rw [hr] at hx;cases hx |some r=>rw [hr] at hx;exact hg _ y r hy hr x (aa2 hx)
theorem qD{l:List KV}{s:List (List Int)}(hg:MF l s){e:KE}(hf:fine e=true){kind x:Int}(hk:aC l e kind=true)(hx:cM s e=some x):kindOk kind x:=by
 rcases dQ hf with ⟨n,rfl⟩|⟨v,h1,h2,rfl⟩|⟨v,a,h1,h2,h3,rfl⟩|⟨o,a,h1,h2,h3,rfl⟩|⟨o,a,b,h1,h2,h3,h4,rfl⟩|⟨t,a,h1,h2,h3,rfl⟩
 ·simp [aC,dV,iU] at hk;simp [cM,dX,d7] at hx;subst hx;exact ⟨fun h=>by omega,fun h=>by omega⟩
 ·simp only [aC,dV,iU] at hk;simp [cM,dX,d7] at hx;rw [iF (by decide),iT trivial] at hk;split at hk
  ·rename_i y hy;simp at hk;rw [<-hk.2];exact sG (KO hg hy hx)
  ·cases hk
 ·simp only [aC,dV,iU] at hk;rw [iF (by decide),iF (by decide),iT trivial] at hk;split at hk
  ·rename_i y _ _ hy _;simp at hk;simp only [cM,dX,d7] at hx;cases ha:cM s a with
   |none=>rw [ha] at hx;simp at hx |some z=>
    rw [ha] at hx;simp at hx;rw [<-hk.1.2];exact sG (KO hg hy hx)
  ·cases hk
 ·simp only [aC,dV,iU] at hk;rw [iF (by decide),iF (by decide),iF (by decide)] at hk;simp at hk;simp only [cM,dX,d7] at hx;cases ha:cM s a with
  |none=>rw [ha] at hx;simp at hx |some z=>
   rw [ha] at hx;simp at hx;split at hk
   ·rename_i ho;subst ho;simp [eH] at hx;rw [<-hx.2];exact I0 _ _ hk.1
   ·rw [hk.1];exact C7 x
 ·simp only [aC,dV,iU] at hk;rw [iF (by decide),iF (by decide),iF (by decide)] at hk;simp only [cM,dX,d7] at hx;cases ha:cM s a with
  |none=>rw [ha] at hx;simp at hx |some z=>
   rw [ha] at hx;simp at hx;simp at hk;split at hk
   ·rw [hk.1];exact C7 x
   ·rename_i ho;have hk3:kind=3:=by
     by_cases h:kind=3
     ·exact h
     ·simp [h] at hk
    subst hk3;refine ⟨fun h=>by omega,fun _=>?_⟩;split at hx
    ·rename_i hsh;simp at hx;subst hx;simp [PO] at hsh;omega
    ·cases hb:cM s b with
     |none=>rw [hb] at hx;simp at hx |some w=>
      rw [hb] at hx;simp at hx;have ho':o=14\/o=15\/o=16\/o=17\/o=18\/o=19\/o=20\/o=21\/o=22:=by omega
      have ht: ∀c:Bool,dS c=0\/dS c=1:=fun c=>by cases c<;>simp [dS]
      rcases ho' with rfl|rfl|rfl|rfl|rfl|rfl|rfl|rfl|rfl<;>simp [eH] at hx
      ·rw [<-hx];exact ht _
      ·rw [<-hx];exact ht _
      ·rw [<-hx];exact ht _
      ·rw [<-hx];exact ht _
      ·rw [<-hx];exact ht _
      ·rw [<-hx];exact ht _
      ·rw [<-hx.2];exact ht _
      ·rw [<-hx.2];exact ht _
      ·rw [<-hx];exact ht _
 ·simp only [aC,dV,iU] at hk;rw [iF (by decide),iF (by decide),iF (by decide)] at hk;simp at hk;simp only [cM,dX,d7] at hx;cases ha:cM s a with
  |none=>rw [ha] at hx;simp at hx |some z=>
   rw [ha] at hx;simp at hx;rw [FT] at hx;split at hx
   ·rename_i hz;injection hx with hx;subst hx;rw [<-hk.1];exact sG hz
   ·cases hx
theorem MS{l:List KV}{s:List (List Int)}(hs:dI l=true)(hlen:s.length=l.length)(hr: ∀(i:Nat) (v:KV) (r:List Int),l[i]? =some v->s[i]? =some r->(r.length:Int)=dL v)(hg:MF l s):sJ l s=true:=by
 simp only [sJ,hs,hlen,decide_true,Bool.true_and,allEq,ac5,ae9];intro i hi;have h2:i<s.length:=by omega
 rw [ab6 hi,ab6 h2];simp only [kX,aa1,beq_iff_eq];refine ⟨hr i _ _ (ab6 hi) (ab6 h2),?_⟩;simp only [ag1,am8];intro x hx;rw [hg i _ _ (ab6 hi) (ab6 h2) x hx];simp
theorem ZZ(v:KV):0<dL v:=by unfold dL;split<;>omega
theorem WT(l:List KV):(jH l).length=l.length:=by rw [jH,aa0]
theorem N4{l:List KV}{i:Nat}{v:KV}{r:List Int}(hv:l[i]? =some v)(hr:(jH l)[i]? =some r):r=List.replicate (dL v).toNat 0:=by rw [jH,ab9,hv] at hr;injection hr with hr;exact hr.symm
theorem F3{v:KV}(h:jG v=true):cL v.kind 0=true:=by simp [jG] at h;rcases h.1.1 with (h|h)|h<;>simp [cL,h]
theorem HC{l:List KV}(h:dI l=true){v:KV}(hv:v∈l):jG v=true:=by simp [dI] at h;exact h.2 v hv
theorem Q9{l:List KV}(h:dI l=true):MF l (jH l):=fun i v r hv hr x hx=>by rw [N4 hv hr] at hx;rw [(List.mem_replicate.1 hx).2];exact F3 (HC h (aa2 hv))
theorem VN{l:List KV}(h:dI l=true):sJ l (jH l)=true:=MS h (WT l) (fun i v r hv hr=>by rw [N4 hv hr,ad4];have:=ZZ v;omega) (Q9 h)
structure d9(V:List KV)(st:List (List Int)):Prop where
 may:sJ V st=true
 ws:OS st
theorem pJ{V:List KV}{st:List (List Int)}(h:sJ V st=true):dI V=true/\st.length=V.length/\(∀(i:Nat) (v:KV) (r:List Int),V[i]? =some v->st[i]? =some r->(r.length:Int)=dL v)/\MF V st:=by
 simp only [sJ,aa1,dT,allEq,ac5,ae9] at h;obtain ⟨⟨h1,h2⟩,h3⟩:=h;have hm: ∀(i:Nat) (v:KV) (r:List Int),V[i]? =some v->st[i]? =some r->kX v r=true:=fun i v r hv hr=>by have:=h3 i (vW hv);rw [hv,hr] at this;exact this
 refine ⟨h2,h1,fun i v r hv hr=>?_,fun i v r hv hr x hx=>?_⟩
 ·have:=hm i v r hv hr;simp only [kX,aa1,beq_iff_eq] at this;exact this.1
 ·have:=hm i v r hv hr;simp only [kX,aa1,ag1,am8] at this;have:=this.2 x hx;simpa using this
theorem d9.put{V:List KV}{st:List (List Int)}(h:d9 V st){v i x:Int}(hx:i32 x)(hk: ∀y,V[v.toNat]? =some y->cL y.kind x=true):d9 V (fU st v i x):=by
 obtain ⟨h1,h2,h3,h4⟩:=pJ h.may;unfold fU
 by_cases ha:(A5 st v i).isSome=true
 ·rw [iT ha];cases hr:st[v.toNat]? with
  |none=>exact h |some r=>
   show d9 V (st.set v.toNat (r.set i.toNat x));have hin: ∀z,z∈r.set i.toNat x->z∈r\/z=x:=fun z hz=>al5 hz;refine ⟨MS h1 (by show (st.set _ _).length=_;rw [ah7];exact h2) (fun j y q hy hq=>?_) (fun j y q hy hq z hz=>?_),fun q hq z hz=>?_⟩
   ·replace hq:(st.set v.toNat (r.set i.toNat x))[j]? =some q:=hq;rw [ag3] at hq;split at hq
    ·rename_i hj;subst hj;split at hq
     ·injection hq with hq;rw [<-hq,ah7];exact h3 _ y r hy hr
     ·cases hq
    ·exact h3 j y q hy hq
   ·replace hq:(st.set v.toNat (r.set i.toNat x))[j]? =some q:=hq;rw [ag3] at hq;split at hq
    ·rename_i hj;subst hj;split at hq
     ·injection hq with hq;rw [<-hq] at hz;rcases hin z hz with hz|rfl
      ·exact h4 _ y r hy hr z hz
      ·exact hk y hy
     ·cases hq
    ·exact h4 j y q hy hq z hz
   ·replace hq:q∈st.set v.toNat (r.set i.toNat x):=hq;rcases al5 hq with hq|hq
    ·exact h.ws q hq z hz
    ·rw [hq] at hz;rcases hin z hz with hz|rfl
     ·exact h.ws r (aa2 hr) z hz
     ·exact hx
 ·rw [iF ha];exact h
theorem d9.small{V:List KV}{st:List (List Int)}(h:d9 V st):Small st:=uZ h.may
theorem G0{k x:Int}(hk:k=1\/k=2\/k=3)(h:kindOk k x):cL k x=true:=by
 obtain ⟨h2,h3⟩:=h;rcases hk with rfl|rfl|rfl
 ·rfl
 ·have:=h2 T;simp [cL];omega
 ·have:=h3 T;simpa [cL] using this
theorem Q4{v:KV}(h:jG v=true):v.kind=1\/v.kind=2\/v.kind=3:=by
 simp [jG] at h;rcases h.1.1 with (h|h)|h
 ·exact .inl h
 ·exact .inr (.inl h)
 ·exact .inr (.inr h)
theorem JN{st:List (List Int)}{v:Int}{ix:List KE}{p:Int×Int}(h:cZ st v ix=some p):p.1=v:=by
 match ix,h with
 | [],h=>
   rw [cZ] at h;split at h
   ·injection h with h;rw [<-h]
   ·cases h
 | [e],h=>
   rw [cZ] at h;split at h
   ·split at h
    ·injection h with h;rw [<-h]
    ·cases h
   ·cases h
theorem GY{V:List KV}{t:PL}{k:Int}(h:dR V t k=true): ∀y,V[t.v.toNat]? =some y->y.kind=k:=fun y hy=>by
 unfold dR at h;split at h
 ·cases h
 ·rw [hy] at h;simp only [aa1,beq_iff_eq] at h;exact h.1
theorem vR{V:List KV}{st:List (List Int)}(hs:d9 V st){e:KE}{k x:Int}(hf:kM V e k=true)(hv:bV st e=some x):kindOk k x:=by obtain ⟨h1,h2,h3,h4⟩:=pJ hs.may;unfold kM at hf;simp only [aa1,dT] at hf;unfold bV at hv;rw [iT hf.1] at hv;exact qD h4 hf.1.1 hf.2 hv
theorem xZ{V:List KV}{st:List (List Int)}(hs:d9 V st){e:KE}{x:Int}(hw:iZ e)(hv:bV st e=some x):i32 x:=HM hs.ws hw x hv
theorem HL(n:Int):valid (lX n):=by
 refine ⟨?_,?_,?_⟩
 ·simp [lX,fine,eF,aY]
 ·simp [lX,sz,jQ]
 ·simp [lX,ht,oZ]
theorem Y7(V:List KV)(n:Int):kM V (lX n) 1=true:=by unfold kM;rw [decide_eq_true (HL n)];simp [lX,aC,dV,iU]
theorem LY(V:List KV){n:Int}(h:n=0\/n=1):kM V (lX n) 3=true:=by unfold kM;rw [decide_eq_true (HL n)];rcases h with rfl|rfl<;>simp [lX,aC,dV,iU]
theorem wf_num{n:Int}(h:i32 n):iZ (lX n)/\uE (lX n):=by
 unfold i32 at h;constructor
 ·simp only [lX,iZ,oY,u8,i32,i64];exact ⟨⟨by omega,by omega,by omega,h,by omega⟩,trivial⟩
 ·simp [lX,uE,NX]
structure t5(V:List KV)(C:List Int)(c:PR)(a:lH):Prop where
 ok: ∀h,okF (Loc V C) true h c->okF (Loc V C) true h a.next
 wt:iO a.next<=iO c
 dw:lM a.next<=lM c
 kinds:a.kind=116\/a.kind=105\/a.kind=111
 tau:a.kind=116->d9 V a.store
 inp:a.kind=105->(c.kind=5\/c.kind=16)/\(∀y,V[a.v.toNat]? =some y->y.kind=a.item)/\(a.c=0->a.item=1)
 out:a.kind=111->c.kind=6/\i32 a.value
structure mN(c:PR):Prop where
 k9:c.kind≠9
 kb: ¬(c.kind=10\/c.kind=11)
theorem mN.wt{c:PR}(h:mN c):iO c=2+dB c.l+bT c.gs+rO c.l+t4 c.gs:=by rw [iP,iF h.k9,iF h.kb]
theorem mN.dw{c:PR}(h:mN c):lM c=1+max (1+max (jF c.l) (dZ c.gs)) (max (s8 c.l) (tX c.gs)):=by rw [jE,iF h.k9,iF h.kb]
theorem OL: ∀{l:List GD} {g:GD},g∈l->wtG g<=t4 l/\dwG g<=tX l
 |x::r,g,h=>by
  rw [t4,tX];rcases ab0.1 h with rfl|h
  ·omega
  ·have:=OL h;omega
section
variable{V:List KV}{C:List Int}
structure uH(V:List KV)(C:List Int)(c q:PR):Prop where
 ok: ∀h,okF (Loc V C) true h c->okF (Loc V C) true h q
 wt:iO q<=iO c
 dw:lM q<=lM c
theorem m6{c:PR}(h:mN c):uH V C c aK:=⟨fun _ _=>JK lN _ _,by rw [J6,h.wt];omega,by rw [IC,h.dw];omega⟩
theorem jO{c:PR}(h:mN c):uH V C c bL:=⟨fun _ _=>ok_stop lN _ _,by rw [wt_stop,h.wt];omega,by rw [dw_stop,h.dw];omega⟩
theorem y8{c:PR}(h:mN c){g:GD}(hg:g∈c.gs){y:PR}(hy:g.body=[y]):uH V C c y:=by have h1:=OL hg;rw [J5,IB,hy,rO,rO,s8,s8] at h1;refine ⟨fun hh hw=>?_,by rw [h.wt];omega,by rw [h.dw];omega⟩;rw [okF_eq] at hw;have h2:=nG hw.2.2 g hg;rw [oC,hy,DP] at h2;exact DM (fun _=>rfl) h2.1
theorem iM{c q:PR}{st:List (List Int)}(hs:d9 V st)(hn:uH V C c q): ∀a,a∈fB st q->t5 V C c a:=fun a ha=>by rw [aa3.1 ha];exact ⟨hn.ok,hn.wt,hn.dw, .inl T,fun _=>hs,(fun h=>by cases h),(fun h=>by cases h)⟩
theorem MI{c q:PR}{s:ST}(hs:d9 V s.store)(hl:mN c)(hn:uH V C c q)(hk:c.kind=5\/c.kind=16){ch item:Int}{to:PL}(hi:gD V C.length ch item to=true): ∀a,a∈fF s ch item to q->t5 V C c a:=fun a ha=>by
 unfold gD jW at hi;simp only [aa1,aj7,dT,beq_iff_eq] at hi;unfold fF at ha;split at ha
 ·exact iM hs (jO hl) a ha
 ·rename_i v i hp;have hv:=JN hp;rw [aa3.1 ha];refine ⟨hn.ok,hn.wt,hn.dw, .inr (.inl T),(fun h=>by cases h),fun _=>⟨hk,?_,?_⟩,(fun h=>by cases h)⟩
  ·have hv:v=to.v:=hv;show∀y,V[v.toNat]? =some y->_;rw [hv];exact GY hi.2
  ·intro h0;have h0:ch=0:=h0;have:=hi.1.2;show item=1;omega
theorem goods{st:List (List Int)}(h:d9 V st){v:KV}{i:Nat}(hv:V[i]? =some v):jG v=true:=HC (pJ h.may).1 (aa2 hv)
theorem KX{st:List (List Int)}(h:d9 V st)(v:Int): ∀n,d9 V (mE st v n)
 |0=>h |n+1=>by rw [rY];exact (KX h v n).put (by unfold i32;omega) fun y hy=>F3 (goods h hy)
theorem TO{J9:List (List Int)}(h0:d9 V J9): ∀(tos:List PL) (es:List KE) (xs:List Int) (st st':List (List Int)),d9 V st->tos.length=es.length->(∀e,e∈es->iZ e)->(tos.zip es).all (fun te=>eK V te.1 te.2)=true->kJ J9 es=some xs->nK J9 tos xs st=some st'->d9 V st'
 | [],es,xs,st,st',h,_,_,_,_,hp=>by rw [nK] at hp;injection hp with hp;rw [<-hp];exact h |to::tos,[],xs,st,st',h,hl,_,_,_,_=>by cases hl
 |to::tos,e::es,xs,st,st',h,hl,hw,ha,hx,hp=>by
  rw [List.zip_cons_cons,List.all_cons,aa1] at ha;rw [kJ] at hx;cases hv:bV J9 e with
  |none=>rw [hv] at hx;cases hx |some x=>
   rw [hv] at hx;simp only [ak7] at hx;obtain ⟨xr,hxr,rfl⟩:=hx;rw [nK] at hp;cases hpl:cZ J9 to.v to.ix with
   |none=>rw [hpl] at hp;cases hp |some vj=>
    obtain ⟨v,j⟩:=vj;rw [hpl] at hp;simp only at hp;refine TO h0 tos es xr _ st' (h.put (xZ h0 (hw e (.head _)) hv) fun y hy=>?_) (by simpa using hl) (fun e' he'=>hw e' (.tail _ he')) ha.2 hxr hp;have hvv:v=to.v:=JN hpl;rw [hvv] at hy;have h1:=ha.1;unfold eK at h1;split at h1
    ·cases h1
    ·simp only [hy,aa1] at h1;exact G0 (Q4 (goods h hy)) (vR h0 h1.2 hv)
theorem UK{c:PR}{s:ST}(hs:d9 V s.store)(hl:mN c)(hw: ∀x,x∈c.e->iZ x)(h1:c.to.length=c.e.length)(h2:(c.to.zip c.e).all (fun te=>eK V te.1 te.2)=true): ∀a,a∈iD s c->t5 V C c a:=fun a ha=>by
 unfold iD at ha;split at ha
 ·exact iM hs (jO hl) a ha
 ·rename_i xs hxs;split at ha
  ·exact iM hs (jO hl) a ha
  ·rename_i st hst;exact iM (TO hs _ _ _ _ _ hs h1 hw h2 hxs hst) (m6 hl) a ha
theorem time_ok{c:PR}{s:ST}(hs:d9 V s.store)(ht:i32 s.time)(hl:mN c){t:PL}{r:List PL}(hto:c.to=t::r)(hp:dR V t 1=true): ∀a,a∈xS s c->t5 V C c a:=fun a ha=>by
 unfold xS at ha;rw [hto] at ha;simp only at ha;split at ha
 ·exact iM hs (jO hl) a ha
 ·rename_i v i hpl;have hv:v=t.v:=JN hpl;refine iM (hs.put ht fun y hy=>?_) (m6 hl) a ha;rw [hv] at hy;rw [GY hp y hy];rfl
theorem FH{c:PR}{s:ST}(hs:d9 V s.store)(hl:mN c)(hb: ∀g,g∈c.gs-> ∃y,g.body=[y]): ∀(l:List GD),(∀g,g∈l->g∈c.gs)-> ∀a,a∈eL s l->t5 V C c a
 | [],_,a,ha=>iM hs (jO hl) a (by rw [eL] at ha;exact ha) |g::r,hg,a,ha=>by
  rw [eL] at ha;split at ha
  ·exact iM hs (jO hl) a ha
  ·split at ha
   ·obtain ⟨y,hy⟩:=hb g (hg g (.head _));rw [hy] at ha;exact iM hs (y8 hl (hg g (.head _)) hy) a ha
   ·exact FH hs hl hb r (fun g' h'=>hg g' (.tail _ h')) a ha
theorem ZF{g:GD}{b:Bool}(h:cH V C.length g b=true)(h3:g.kind=3):gD V C.length g.c g.item g.to=true:=by unfold cH at h;rw [iF (by omega),iT h3] at h;simp only [aa1] at h;exact h.2.2
theorem wait_ok{c:PR}{s:ST}(hs:d9 V s.store)(hl:mN c)(hk:c.kind=16)(hb: ∀g,g∈c.gs-> ∃y,g.body=[y])(hG: ∀g,g∈c.gs->cH V C.length g false=true): ∀a,a∈c.gs.flatMap (cD s)->t5 V C c a:=fun a ha=>by
 rw [ad8] at ha;obtain ⟨g,hg,ha⟩:=ha;obtain ⟨y,hy⟩:=hb g hg;unfold cD at ha;rw [hy] at ha;split at ha
 ·cases ha
 ·split at ha
  ·rename_i h3;exact MI hs hl (y8 hl hg hy) (.inr hk) (ZF (hG g hg) h3) a ha
  ·split at ha
   ·exact iM hs (y8 hl hg hy) a ha
   ·cases ha
theorem VR{c b:PR}(hl:mN c)(hk:c.kind=13)(hb:c.l=[b]):uH V C c ⟨9,0,0,0,[],[],[],[fE c.l,c]⟩:=by
 have hh:fE c.l=b:=by rw [hb];rfl
 have hs1:gO c=1+dB c.l+bT c.gs:=mI c;have hh1:=oT c;have hw:=hl.wt;have hd:=hl.dw;rw [hb] at hs1 hh1 hw hd;rw [dB,dB] at hs1;rw [jF,jF] at hh1;rw [rO,rO,dB,dB] at hw;rw [s8,s8,jF,jF] at hd;refine ⟨fun h w=>?_,?_,?_⟩
 ·rw [hh,okF_eq];have w0:=w;rw [okF_eq] at w;obtain ⟨⟨w1,w2,w3⟩,w4,w5⟩:=w;refine ⟨⟨⟨?_,(by intro h;cases h),(by show 1+2+0<=2048;omega),(by intro t h;cases h),(by intro t h;cases h),(by intro t h;cases h)⟩,(by intro h;cases h),(by intro h;cases h)⟩,?_,by show sM _ _ [];rw [sM];trivial⟩
  ·show aN ⟨9,0,0,0,[],[],[],[b,c]⟩ false false 0 0 0 0 0 0 0 2048=true
   rfl
  ·show cO (Loc V C) true false (h||false) h [b,c];rw [hb,hk] at w4;have w4:cO (Loc V C) (true&&false) (true&&false) (h||false) h [b]:=w4;rw [DP] at w4;rw [DP,DP];refine ⟨DM (fun _=>rfl) w4.1,?_,mG⟩;rw [okF_eq];refine ⟨⟨w1,fun h=>by omega,w3⟩,?_,w5⟩;rw [hb,hk];show cO (Loc V C) false false (h||false) h [b];rw [DP];exact ⟨w4.1,mG⟩
 ·rw [iP,iT T];show bT []+KA [fE c.l,c]<=_;rw [hh,AY,HN,dB,dB,bT];omega
 ·rw [jE,iT T];show max (1+dZ []) (J8 [fE c.l,c])<=_;rw [hh,CM,LI,jF,jF,dZ];omega
theorem W1{c:PR}{s:ST}(hs:d9 V s.store)(hl:mN c)(hw: ∀x,x∈c.e->iZ x)(hk:c.kind=6\/c.kind=8\/c.kind=13)(hb:c.kind=13-> ∃b,c.l=[b]): ∀a,a∈eR s c->t5 V C c a:=fun a ha=>by
 unfold eR at ha;split at ha
 ·cases ha
 ·rename_i e r he;split at ha
  ·exact iM hs (jO hl) a ha
  ·rename_i x hx;have hxi:=xZ hs (hw e (by rw [he];exact .head _)) hx;split at ha
   ·rename_i h6;have hn:=m6 (V:=V) (C:=C) hl;rw [aa3.1 ha];exact ⟨hn.ok,hn.wt,hn.dw, .inr (.inr T),(fun h=>by cases h),(fun h=>by cases h),fun _=>⟨h6,hxi⟩⟩
   ·split at ha
    ·rename_i h13;obtain ⟨b,hb⟩:=hb h13.1;exact iM hs (VR hl h13.1 hb) a ha
    ·split at ha
     ·exact iM hs (m6 hl) a ha
     ·cases ha
theorem enter_g{st:List (List Int)}(hs:d9 V st){g g':GD}(hw:iZ g.cond/\iZ g.time)(hwp:pV g.to/\WJ g.to)(hsm:uE g.cond/\uE g.time)(hG:cH V C.length g false=true)(h:fQ st g=some g'):
 g'.body=g.body/\cH V C.length g' false=true/\sV g'=true/\(iZ g'.cond/\uE g'.cond)/\(iZ g'.time/\uE g'.time)/\(pV g'.to/\WJ g'.to):=by
 unfold fQ at h;cases hx:bV st g.cond with
 |none=>rw [hx] at h;cases h |some x=>
  rw [hx] at h;simp only at h;have hG0:=hG;unfold cH at hG;simp only [aa1] at hG;obtain ⟨⟨⟨g1,g2⟩,g3⟩,g4⟩:=hG;have hx3:x=0\/x=1:=(vR hs g2 hx).2 T;have hxi:=xZ hs hw.1 hx;have hn:=wf_num hxi;split at h
  ·rename_i h4;cases ht:bV st g.time with
   |none=>rw [ht] at h;cases h |some t=>
    rw [ht] at h;injection h with h;have hti:=xZ hs hw.2 ht;rw [<-h];refine ⟨rfl,?_,?_,hn,wf_num hti,hwp⟩
    ·unfold cH;simp only [aa1];refine ⟨⟨⟨g1,LY V hx3⟩,g3⟩,?_⟩;have e1: ¬(g.kind=1\/g.kind=2):=by omega
     have e2: ¬g.kind=3:=by omega
     show (if g.kind=1\/g.kind=2 then _ else if g.kind=3 then _ else if g.kind=4 then _ else false)=true;rw [iF e1,iF e2,iT h4] at g4⊢;rw [aa1] at g4⊢;exact ⟨g4.1,Y7 V t⟩
    ·unfold sV;simp [lX]
  ·rename_i h4;injection h with h;rw [<-h];refine ⟨rfl,?_,?_,hn,⟨hw.2,hsm.2⟩,hwp⟩
   ·unfold cH;simp only [aa1];exact ⟨⟨⟨g1,LY V hx3⟩,g3⟩,g4⟩
   ·unfold sV;simp [lX,h4]
theorem yS{st:List (List Int)}: ∀{l l':List GD},cY st l=some l'->l'.length=l.length/\ ∀g',g'∈l'-> ∃g,g∈l/\fQ st g=some g'
 | [],l',h=>by rw [cY] at h;injection h with h;rw [<-h];exact ⟨rfl,(by intro g h;cases h)⟩ |g::r,l',h=>by
  rw [cY] at h;cases hg:fQ st g with
  |none=>rw [hg] at h;cases h |some y=>
   rw [hg] at h;simp only [ak7] at h;obtain ⟨r',hr,rfl⟩:=h;obtain ⟨h1,h2⟩:=yS hr;refine ⟨by rw [ab1,ab1,h1],fun g' hg'=>?_⟩;rcases ab0.1 hg' with rfl|hg'
   ·exact ⟨g, .head _,hg⟩
   ·obtain ⟨q,q1,q2⟩:=h2 g' hg';exact ⟨q, .tail _ q1,q2⟩
theorem CO{st:List (List Int)}{g g':GD}(h:fQ st g=some g'):g'.body=g.body:=by
 unfold fQ at h;split at h
 ·cases h
 ·split at h
  ·split at h
   ·cases h
   ·injection h with h;rw [<-h]
  ·injection h with h;rw [<-h]
theorem LP{st:List (List Int)}: ∀{l l':List GD},cY st l=some l'->bT l'=bT l/\t4 l'=t4 l/\dZ l'=dZ l/\tX l'=tX l/\ ∀h,sM (Loc V C) h l->sM (Loc V C) h l'
 | [],l',h=>by rw [cY] at h;injection h with h;rw [<-h];exact ⟨rfl,rfl,rfl,rfl,fun _ w=>w⟩ |g::r,l',h=>by
  rw [cY] at h;cases hg:fQ st g with
  |none=>rw [hg] at h;cases h |some y=>
   rw [hg] at h;simp only [ak7] at h;obtain ⟨r',hr,rfl⟩:=h;obtain ⟨h1,h2,h3,h4,h5⟩:=LP hr;have hb:=CO hg;refine ⟨by rw [bT,bT,lE,lE,hb,h1],by rw [t4,t4,J5,J5,hb,h2],by rw [dZ,dZ,uV,uV,hb,h3],by rw [tX,tX,IB,IB,hb,h4],fun h w=>?_⟩;rw [sM,oC] at w⊢;rw [hb];exact ⟨w.1,h5 h w.2⟩
theorem P8{c:PR}{s:ST}(hs:d9 V s.store)(hl:mN c)(hc:Loc V C c)(hG: ∀g,g∈c.gs->cH V C.length g false=true){gs':List GD}(h:cY s.store c.gs=some gs'):uH V C c ⟨16,0,0,0,[],[],gs',[]⟩:=by
 obtain ⟨e1,e2⟩:=yS h;obtain ⟨s1,s2,s3,s4,s5⟩:=LP (V:=V) (C:=C) h;have hg: ∀g',g'∈gs'->cH V C.length g' false=true/\sV g'=true/\(iZ g'.cond/\uE g'.cond)/\(iZ g'.time/\uE g'.time)/\(pV g'.to/\WJ g'.to):=fun g' hg'=>by obtain ⟨g,hgm,hge⟩:=e2 g' hg';have h1:=hc.gs g hgm;exact (enter_g hs ⟨h1.1.1,h1.2.1.1⟩ h1.2.2 ⟨h1.1.2,h1.2.1.2⟩ (hG g hgm) hge).2
 obtain ⟨l1,l2,l3,l4⟩:=hc.lens;refine ⟨fun h w=>?_,?_,?_⟩
 ·rw [okF_eq] at w⊢;obtain ⟨⟨w1,w2,w3⟩,w4,w5⟩:=w;refine ⟨⟨⟨?_,fun _ g' hg'=>(hg g' hg').2.1,?_,(by intro t h;cases h),(by intro t h;cases h),fun g' hg'=>(hg g' hg').2.2⟩,(fun _=>rfl),(by intro h;cases h)⟩,mG,s5 h w5⟩
  ·show (aN ⟨14,0,0,0,[],[],gs',[]⟩ false false 0 0 0 0 0 16 0 0&&gs'.all fun g=>cH V C.length g false)=true;rw [aa1];refine ⟨?_,ac5.2 fun g' hg'=>(hg g' hg').1⟩;have:gs'.length<=16:=by omega
   simp [aN,inB];have h2:(gs'.length:Int)<=16:=by omega
   exact h2
  ·show 1+0+gs'.length<=2048;omega
 ·rw [iP,iF (by show¬(16:Int)=9;decide),iF (by show¬((16:Int)=10\/(16:Int)=11);decide),hl.wt];show 2+dB []+bT gs'+rO []+t4 gs'<=_;rw [dB,rO,s1,s2];omega
 ·rw [jE,iF (by show¬(16:Int)=9;decide),iF (by show¬((16:Int)=10\/(16:Int)=11);decide),hl.dw];show 1+max (1+max (jF []) (dZ gs')) (max (s8 []) (tX gs'))<=_;rw [jF,s8,s3,s4];omega
theorem PF{c:PR}{s:ST}(hs:d9 V s.store)(hl:mN c)(hc:Loc V C c)(hG: ∀g,g∈c.gs->cH V C.length g false=true): ∀a,a∈eM s c->t5 V C c a:=fun a ha=>by
 unfold eM at ha;split at ha
 ·exact iM hs (jO hl) a ha
 ·rename_i gs' hg;exact iM hs (P8 hs hl hc hG hg) a ha
theorem Loc.guards{c:PR}(h:Loc V C c)(hk:c.kind=14\/c.kind=15\/c.kind=16): ∀g,g∈c.gs->cH V C.length g false=true:=by
 have h1:=h.kind;obtain ⟨k,c,v,i,to,e,gs,l⟩:=c;have hk:k=14\/k=15\/k=16:=hk;have h3: ∀kk:Int,kk=14\/kk=15->aS V C.length ⟨kk,c,v,i,to,e,gs,l⟩=true-> ∀g,g∈gs->cH V C.length g false=true:=by
  intro kk hkk h2 g hg;rcases hkk with rfl|rfl
  ·have h4:(aN ⟨14,c,v,i,to,e,gs,l⟩ false false 0 0 0 0 0 16 0 0&&gs.all fun g=>cH V C.length g false)=true:=h2;rw [aa1] at h4;exact ac5.1 h4.2 g hg
  ·have h4:(aN ⟨15,c,v,i,to,e,gs,l⟩ false false 0 0 0 0 0 16 0 0&&gs.all fun g=>cH V C.length g false)=true:=h2;rw [aa1] at h4;exact ac5.1 h4.2 g hg
 refine h3 (if k=16 then 14 else k) ?_ h1;split
 ·exact .inl T
 ·omega
theorem does_ok{c:PR}{s:ST}(hs:d9 V s.store)(ht:i32 s.time)(hl:mN c)(hc:Loc V C c): ∀a,a∈bA s c->t5 V C c a:=by
 have hwe: ∀x,x∈c.e->iZ x:=fun x hx=>(hc.e x hx).1;unfold bA;split
 ·exact iM (KX hs _ _) (m6 hl)
 split
 ·rename_i k4;obtain ⟨h1,h2⟩:=hc.k4 k4;exact UK hs hl hwe h1 h2
 split
 ·rename_i k7;obtain ⟨t,h1,h2⟩:=hc.k7 k7;exact time_ok hs ht hl h1 h2
 split
 ·exact FH hs hl hc.body c.gs fun g hg=>hg
 split
 ·rename_i k14;exact PF hs hl hc (hc.guards (by omega))
 split
 ·rename_i k16;exact wait_ok hs hl k16 hc.body (hc.guards (by omega))
 split
 ·rename_i k5;obtain ⟨t,h1,h2⟩:=hc.k5 k5;unfold inM;rw [h1];exact MI hs hl (m6 hl) (.inl k5) h2
 split
 ·rename_i k8;refine W1 hs hl hwe (by omega) fun k13=>?_;obtain ⟨e,b,h1,h2,h3⟩:=hc.k13 k13;exact ⟨b,h2⟩
 ·intro a ha;cases ha
theorem does_wt{c:PR}{s:ST}(hl:mN c)(hc:Loc V C c):(bA s c).length<=iO c:=by
 have hw:=hl.wt;have h2: ∀l:List GD,(∀g,g∈l-> ∃y,g.body=[y])->l.length<=bT l:=by
  intro l
  induction l with
  |nil=>intro _;exact ac0 _ |cons x r ih=>
   intro hb;obtain ⟨y,hy⟩:=hb x (.head _);have:=ih fun g hg=>hb g (.tail _ hg);have:=qV y;rw [bT,ab1,lE,hy,dB,dB];omega
 have h3:=h2 c.gs hc.body;unfold bA;split
 ·rw [gK];omega
 split
 ·unfold iD;split
  ·rw [gK];omega
  ·split<;>(rw [gK];omega)
 split
 ·unfold xS;split
  ·simp
  ·split<;>(rw [gK];omega)
 split
 ·rw [uM];omega
 split
 ·unfold eM;split<;>(rw [gK];omega)
 split
 ·have:=pF (cD s) (m7 s) c.gs;omega
 split
 ·unfold inM;split
  ·simp
  ·rw [F8];omega
 split
 ·unfold eR;split
  ·simp
  ·split
   ·rw [gK];omega
   ·repeat (first|(rw [gK];omega)|(show 1<=_;omega)|(show 0<=_;omega)|split)
 ·exact ac0 _
end
theorem K0(r:List Int)(hr:r.length<=35184372088832):Pure prog a9 22 [rJ r] (rJ r):=by
 cases r with
 |nil=>
  refine P_ func22 8 fun _ _ _ _=>?_;refine y_ ?_;refine A.ey T T T T T T T T fun b hb=>?_;cases b
  ·refine y_ ?_;refine A.fq T T T T T T T fun bl=>?_;refine y_ ?_;refine A.bq T T T T T T T T T T T T T (by show (List.map aL _).length*1<=_;rw [aa0];omega) (by show (List.map aL _).length*1*4<=_;rw [aa0];omega) (fun x hx=>by injection hx with hx;subst hx;rfl) (row_one _) fun z=>?_;refine y_ ?_;refine A.cq 2 z (y':=rJ []) T fz_ ?_;exact r_
  ·refine y_ ?_;refine R_ ?_;exact .nil
 |cons x r=>
  refine P_ func22 8 fun _ _ _ _=>?_;refine y_ ?_;refine A.ey T T T T T T T T fun b hb=>?_;cases b
  case true=>cases hb T
  refine y_ ?_;refine A.fq T T T T T T T fun bl=>?_;refine y_ ?_;refine A.bq T T T T T T T T T T T T T (by show (List.map aL _).length*1<=_;rw [aa0];omega) (by show (List.map aL _).length*1*4<=_;rw [aa0];omega) (fun x hx=>by injection hx with hx;subst hx;rfl) (row_one _) fun z=>?_;refine y_ ?_;refine A.cq 2 z (y':=rJ (x::r)) T fz_ ?_;exact r_
theorem put_none(st:List (List Int)):fU st (-1) 0 0=st:=by unfold fU;rw [iF (by unfold A5;simp)]
theorem DF{V:List KV}{C:List Int}(s:ST)(kind ec ev:Int)(st:List (List Int))(root:PR)(inn:List Int)(hst:Small st)(hr:okF (Loc V C) true false root)(hi:inn.length<=35184372088832):
 Pure prog a9 25 [AP s,aU kind, .ag [AI ec,aL ev],eQ st,aB root,rJ inn] (jZ (eG s kind ec ev st root inn)):=by
 obtain ⟨_,h1,h2⟩:=QD hr;have hn:=QA root h1 h2;have hc:=K7 (aD root) (BI h1);have hp:=hst.put_p (-1) 0 0;rw [put_none] at hp;have hcl:=K0 inn (by omega);refine P_ func25 31 fun _ _ _ _=>?_
 (refine b_ fun bx=>?_;refine b_ fun bx=>?_;refine b_ fun bx=>?_;refine y_ ?_)
 refine d_ 14 [0,2,5,7,8,9,10,11,13,1,3,4,6,12] [(1,eQ st),(3,aB (aD root)),(4,aB (aD root)),(6,rJ inn)] ?_;refine WA.alloc T T T T T T T T fun b13=>?_;refine lS hp ?_;refine lS hn ?_;refine lS hc ?_;refine lS hcl ?_;refine WA.nil (l:=[.box b13 _]) T ?_;refine y_ ?_;refine C_ ?_;exact .refl
theorem fitb8{v:Int}(hv:i32 v):(v==IntKind.i32.wrap (IntKind.u8.wrap v))=(decide (0<=v)&&decide (v<=255)):=by
 unfold i32 at hv;have h8:IntKind.u8.wrap v=v % 256:=by unfold IntKind.wrap;rfl
 rw [h8,qW,ab8];simp only [beq_iff_eq,aa1,dT];omega
theorem fitb1{v:Int}(hv:i32 v):(bitsOf BinOp.or IntKind.i32 v 1==1)=(v==0||v==1):=by
 unfold i32 at hv;rw [ab8];simp only [beq_iff_eq,aj7];show IntKind.i32.wrap ((BitVec.ofInt 32 v|||BitVec.ofInt 32 1).toNat:Int)=1↔_;have h1:(BitVec.ofInt 32 1).toNat=1:=by decide
 have h2:((BitVec.ofInt 32 v).toNat:Int)=v % 4294967296:=by
  rw [BitVec.toNat_ofInt];have:(0:Int)<=v % 4294967296:=by omega
  show (((v % ((2^32:Nat):Int)).toNat:Nat):Int)=_;rw [show ((2^32:Nat):Int)=4294967296 by decide,Int.toNat_of_nonneg this]
 have h3:(BitVec.ofInt 32 v|||BitVec.ofInt 32 1).toNat=(BitVec.ofInt 32 v).toNat|||1:=by rw [BitVec.toNat_or,h1]
 have h4:=(BitVec.ofInt 32 v|||BitVec.ofInt 32 1).isLt;have h5:(BitVec.ofInt 32 v).toNat<=(BitVec.ofInt 32 v).toNat|||1:=Nat.left_le_or;rw [h3] at h4⊢;constructor
 ·intro h;rw [qW] at h;have h6:(BitVec.ofInt 32 v).toNat|||1=1:=by omega
  rw [h6] at h5;omega
 ·rintro (h|h)<;>subst h<;>decide
theorem fitsq_p(t v:Int)(hv:i32 v):Pure prog a9 27 [aU t,aL v] (AB (cL t v)):=by
 refine P_ func27 20 fun _ _ _ _=>?_;refine y_ ?_;refine k_ (fun hc=>?_) fun hc=>?_
 ·refine y_ ?_;refine R_ ?_;refine Sb.eq ?_;simp at hc;subst hc;rw [fitb8 hv];rfl
 ·refine y_ ?_;refine k_ (fun hd=>?_) fun hd=>?_
  ·refine y_ ?_;refine R_ ?_;refine Sb.eq ?_;simp at hc hd;subst hd;rw [fitb1 hv];rfl
  ·refine y_ ?_;refine R_ ?_;refine Sb.eq ?_;simp at hc hd;simp [cL,hc,hd]
abbrev N6(l:List (PR×List Nat)):Nat:=(l.map fun cp=>iO cp.1).sum
theorem sumW_app(a b:List (PR×List Nat)):N6 (a++b)=N6 a+N6 b:=by unfold N6;rw [ae2,List.sum_append]
theorem K5{path:List Nat}: ∀{l:List PR} {j:Nat},(∀x,x∈l-> ∀pre,N6 (cX pre x)<=iO x)->N6 (cW path j l)<=rO l
 | [],_,_=>aa6 _ |x::r,j,h=>by rw [cW,sumW_app,rO];have h1:=h x (.head _) (path++[j]);have h2:=K5 (path:=path) (l:=r) (j:=j+1) fun y hy=>h y (.tail _ hy);omega
theorem s7: ∀(m:Nat) (p:PR) (path:List Nat),SizeOf.sizeOf p<=m->N6 (cX path p)<=iO p
 |0,p,_,h=>by obtain ⟨k,c,v,i,to,e,gs,l⟩:=p;simp only [PR.mk.sizeOf_spec] at h;omega
 |m+1,p,path,hm=>by
  rw [pA,iP];split
  ·match hl:p.l with
   | []=>rw [wC];exact ac0 _ | [x]=>
     have hx:x∈p.l:=by rw [hl];exact .head _
     have h1:=s7 m x path (by have:=cK hx;omega);rw [wC,HN];omega
   |x::y::r=>
    have hx:x∈p.l:=by rw [hl];exact .head _
    have h1:=s7 m x path (by have:=cK hx;omega);rw [wC,AY];omega
  ·split
   ·have h1:=K5 (path:=path) (l:=p.l) (j:=0) fun x hx pre=>s7 m x pre (by have:=cK hx;omega);omega
   ·rename_i k9 kb;have hl:mN p:=⟨k9,kb⟩;have:=hl.wt;show ([(p,path)].map fun cp=>iO cp.1).sum<=_;rw [<-this];simp
theorem R9(p:PR)(path:List Nat):N6 (cX path p)<=iO p:=s7 _ p path (aa6 _)
structure m8(k:KN)(s:ST)(x:lH×List Nat)(c:PR):Prop where
 cm:(c,x.2)∈cX [] s.root
 ac:x.1∈bA s c
 at':atR s.root x.2=some c
 leaf:mN c
 loc:Loc k.vars k.chans c
 ok:t5 k.vars k.chans c x.1
theorem d6.st{k:KN}{s:ST}(h:d6 k s):d9 k.vars s.store:=⟨h.store,h.ws⟩
theorem yP{k:KN}{s:ST}(hg:d6 k s){c:PR}{path:List Nat}(hc:(c,path)∈cX [] s.root):mN c/\Loc k.vars k.chans c:=by have ha:=A9 hc;obtain ⟨h1,h2,h3⟩:=at_kind ha;exact ⟨⟨h1,by omega⟩,K6 hg.root (c,path) hc⟩
theorem mO{k:KN}{s:ST}(hg:d6 k s){x:lH×List Nat}(hx:x∈bR s): ∃c,m8 k s x c:=by unfold bR at hx;rw [ad8] at hx;obtain ⟨⟨c,path⟩,hc,hx⟩:=hx;rw [ac1] at hx;obtain ⟨a,ha,rfl⟩:=hx;obtain ⟨h1,h2⟩:=yP hg hc;exact ⟨c,hc,ha,A9 hc,h1,h2,does_ok hg.st hg.time h1 h2 a ha⟩
theorem IJ{α β:Type}(f:α->List β)(w:α->Nat): ∀l:List α,(∀a,a∈l->(f a).length<=w a)->(l.flatMap f).length<=(l.map w).sum
 | [],_=>aa6 _ |a::r,h=>by rw [ag2,aa7,ac8,List.sum_cons];have:=h a (.head _);have:=IJ f w r fun b hb=>h b (.tail _ hb);omega
theorem KH{k:KN}{s:ST}(hg:d6 k s):(bR s).length<=iO s.root:=by
 have h1:=IJ (fun cp:PR×List Nat=>(bA s cp.1).map fun a=>(a,cp.2)) (fun cp=>iO cp.1) (cX [] s.root) fun cp hcp=>by obtain ⟨h1,h2⟩:=yP hg (c:=cp.1) (path:=cp.2) hcp;rw [aa0];exact does_wt h1 h2
 have h2:=R9 s.root [];exact af4 h1 h2
theorem UW{k:KN}{s:ST}(hg:d6 k s):(cX [] s.root).length<=iO s.root:=by
 have h1:=IJ (fun cp:PR×List Nat=>[cp]) (fun cp=>iO cp.1) (cX [] s.root) fun cp hcp=>by obtain ⟨h1,h2⟩:=yP hg (c:=cp.1) (path:=cp.2) hcp;have:=h1.wt;show 1<=iO cp.1;omega
 have h2:=R9 s.root [];rw [List.flatMap_singleton'] at h1;exact af4 h1 h2
structure HR(k:KN)(s:ST)(r:PR):Prop where
 ok:okF (Loc k.vars k.chans) true false r
 wt:iO r<=iO s.root
 dw:lM r<=lM s.root
theorem l6{k:KN}{s:ST}(hg:d6 k s){x:lH×List Nat}{c:PR}(h:m8 k s x c):HR k s (bN x.1.next s.root x.2):=
 ⟨JR lN h.ok.ok h.at' hg.root,rep_wt h.ok.wt h.ok.dw h.at',rep_dw h.ok.wt h.ok.dw h.at'⟩
theorem BQ{k:KN}{s:ST}{x y:lH×List Nat}{c d:PR}(h:m8 k s x c)(h':m8 k s y d)(hx:x.1.kind=111)(hy:y.1.kind=105):x.2≠y.2:=fun e=>by have h1:=h.at';rw [e,h'.at'] at h1;injection h1 with h1;have h2:=(h.ok.out hx).1;have h3:=(h'.ok.inp hy).1;rw [h1] at h3;omega
theorem O1{k:KN}{s:ST}{x y:lH×List Nat}{c d:PR}(h:m8 k s x c)(h':m8 k s y d)(hne:x.2≠y.2):atR (bN x.1.next s.root x.2) y.2=some d:=rep_at h.at' h'.at' hne
theorem NJ{k:KN}{s:ST}(hg:d6 k s){x y:lH×List Nat}{c d:PR}(h:m8 k s x c)(h':m8 k s y d)(hne:x.2≠y.2):HR k s (bN y.1.next (bN x.1.next s.root x.2) y.2):=by have h1:=l6 hg h;have h2:=O1 h h' hne;refine ⟨JR lN h'.ok.ok h2 h1.ok,af4 (rep_wt h'.ok.wt h'.ok.dw h2) h1.wt,af4 (rep_dw h'.ok.wt h'.ok.dw h2) h1.dw⟩
theorem U5{k:KN}{s:ST}(hg:d6 k s){st:List (List Int)}(hst:d9 k.vars st){r:PR}(hr:HR k s r){inn:List Int}(hi: ∀x,x∈inn->i32 x)(hil:inn.length<=35184372088832):d6 k ⟨st,aD r,inn,s.time⟩:=
 ⟨hg.may,hg.wf,hst.may,hst.ws,BH lN hr.ok,af4 (JF r) (af4 hr.wt hg.wt),af4 (S9 r) (af4 hr.dw hg.dw),kA r,hi,hil,hg.time⟩
abbrev KC(k:KN)(s:ST)(m:MV):Prop:=d6 k m.next/\iO m.next.root<=iO s.root
theorem tG{k:KN}{s:ST}(hg:d6 k s){st:List (List Int)}(hst:d9 k.vars st){r:PR}(hr:HR k s r){inn:List Int}(hi: ∀x,x∈inn->i32 x)(hil:inn.length<=35184372088832)(kind ec ev:Int):KC k s (eG s kind ec ev st r inn):=
 ⟨U5 hg hst hr hi hil,af4 (JF r) hr.wt⟩
theorem JQ{k:KN}{s:ST}(hg:d6 k s){x:lH×List Nat}{c:PR}(h:m8 k s x c)(hk:x.1.kind=105){v:Int}(hv:i32 v)(hf:cL x.1.item v=true):d9 k.vars (fU s.store x.1.v x.1.i v):=
 hg.st.put hv fun y hy=>by rw [(h.ok.inp hk).2.1 y hy];exact hf
theorem SK{s:ST}(hi: ∀x,x∈s.inn->i32 x)(h:0<s.inn.length):i32 (s.inn.headD 0):=by
 cases hs:s.inn with
 |nil=>rw [hs] at h;simp at h |cons y r=>exact hi y (by rw [hs];exact .head _)
theorem UU{k:KN}{s:ST}(hg:d6 k s){x:lH×List Nat}(hx:x∈bR s)(h1:x.1.kind=111){y:lH×List Nat}(hy:y∈bR s): ∀m,m∈iG s x y->KC k s m:=fun m hm=>by
 obtain ⟨c,hc⟩:=mO hg hx;obtain ⟨d,hd⟩:=mO hg hy;unfold iG at hm;split at hm
 ·rename_i h;rw [aa3.1 hm];exact tG hg (JQ hg hd h.1 (hc.ok.out h1).2 h.2.2) (NJ hg hc hd (BQ hc hd h1 h.1)) hg.inn hg.innl 2 x.1.c x.1.value
 ·cases hm
theorem WO{k:KN}{s:ST}(hg:d6 k s){x:lH×List Nat}(hx:x∈bR s): ∀m,m∈fK s (bR s) x->KC k s m:=fun m hm=>by
 obtain ⟨c,hc⟩:=mO hg hx;unfold fK at hm;split at hm
 ·rename_i h;rw [aa3.1 hm];exact tG hg (hc.ok.tau h) (l6 hg hc) hg.inn hg.innl 1 0 0
 ·split at hm
  ·rename_i h;rw [aa3.1 hm];refine tG hg (JQ hg hc h.1 (SK hg.inn h.2.2) ?_) (l6 hg hc) (fun z hz=>hg.inn z (List.mem_of_mem_tail hz)) (by have:=hg.innl;rw [List.length_tail];omega) 2 0 (s.inn.headD 0);rw [(hc.ok.inp h.1).2.2 h.2.1];rfl
  ·split at hm
   ·rw [aa3.1 hm];exact tG hg hg.st (l6 hg hc) hg.inn hg.innl 2 1 x.1.value
   ·split at hm
    ·rename_i h;rw [ad8] at hm;obtain ⟨y,hy,hm⟩:=hm;exact UU hg hx h hy m hm
    ·cases hm
theorem WX{k:KN}{s:ST}(hg:d6 k s):KC k s (N8 s):=⟨⟨hg.may,hg.wf,hg.store,hg.ws,hg.root,hg.wt,hg.dw,hg.nf,hg.inn,hg.innl,qX _⟩,aa6 _⟩
theorem P6{k:KN}{s:ST}(hg:d6 k s): ∀m,m∈nE s->KC k s m:=fun m hm=>by
 unfold nE at hm;rw [List.mem_append] at hm;rcases hm with hm|hm
 ·rw [ad8] at hm;obtain ⟨x,hx,hm⟩:=hm;exact WO hg hx m hm
 ·rw [aa3.1 hm];exact WX hg
theorem CW{α β:Type}(f:α->List β)(n:Nat): ∀l:List α,(∀a,a∈l->(f a).length<=n)->(l.flatMap f).length<=n*l.length
 | [],_=>aa6 _ |a::r,h=>by rw [ag2,aa7,ab1,Nat.mul_succ];have:=h a (.head _);have:=CW f n r fun b hb=>h b (.tail _ hb);omega
theorem K2(s:ST)(a b:lH×List Nat):(iG s a b).length<=1:=by unfold iG;split<;>simp
theorem step_len(s:ST)(l:List (lH×List Nat))(a:lH×List Nat):(fK s l a).length<=1+l.length:=by
 unfold fK;split
 ·simp
 ·split
  ·simp
  ·split
   ·simp
   ·split
    ·have:=pF (iG s a) (K2 s a) l;omega
    ·simp
def zP(k:KN)(inn:List Int):ST:=⟨qU k.vars,aD k.root,inn,0⟩
theorem DE{k:KN}(h:nV k=true):dI k.vars=true:=KOk.ji (C:=k.chans) (S7 h)
theorem WR{k:KN}(h:nV k=true):qU k.vars=jH k.vars:=by unfold qU;rw [iT (DE h)]
theorem store_ok{V:List KV}(h:dI V=true):d9 V (jH V):=⟨VN h,fun r hr x hx=>by unfold jH at hr;rw [ac1] at hr;obtain ⟨v,_,rfl⟩:=hr;rw [List.eq_of_mem_replicate hx];unfold i32;omega⟩
theorem vL{k:KN}(h:nV k=true)(hw:KG k)(hs:mC k.root):okF (Loc k.vars k.chans) true false k.root:=by obtain ⟨h1,h2,h3⟩:=MR h;exact VU h1 (by omega) hw.root hs
theorem Q7{k:KN}(h:nV k=true)(hw:KG k)(hs:mC k.root){inn:List Int}(hi: ∀x,x∈inn->i32 x)(hl:inn.length<=35184372088832):d6 k (zP k inn):=by
 have hf:=MR h;obtain ⟨f1,f2,f3⟩:=hf;have hst:=store_ok (DE h);have hwt:=wt_le k.root;have hdw:=dw_le k.root;have hm:(pY k.root+2)*gO k.root<=34*2048:=Nat.mul_le_mul (by omega) (by omega);have e:=WR h;refine ⟨h,hw,?_,?_,BH lN (vL h hw hs),af4 (JF _) (by omega),af4 (S9 _) (by omega),kA _,hi,hl,by show i32 0;unfold i32;omega⟩
 ·show sJ k.vars (qU k.vars)=true;rw [e];exact hst.may
 ·show OS (qU k.vars);rw [e];exact hst.ws
abbrev hI(s:ST):List MV:=(bR s).flatMap (fK s (bR s))
theorem DG(s:ST):nE s=hI s++[N8 s]:=rfl
theorem VO(s:ST):(nE s).length=(hI s).length+1:=by rw [DG,aa7];rfl
structure WD where
 store:List (List Int)
 inn:List Int
 out:List Int
 steps:Nat
structure FR where
 c:Int
 v:Int
 i:Int
 to:List PL
 e:List KE
 gs:List GD
 rest:List PR
abbrev TK(f:FR)(x:PR):PR:=⟨9,f.c,f.v,f.i,f.to,f.e,f.gs,x::f.rest⟩
theorem QB(f:FR){x y:PR}(h:aD x=aD y):aD (TK f x)=aD (TK f y):=by
 rw [fH (p:=TK f x) T,fH (p:=TK f y) T];show bY _ (x::f.rest)=bY _ (y::f.rest);cases f.rest with
 |nil=>rw [eC,eC,h] |cons z r=>rw [fI,fI,h]
section
variable{w:WD}{p:PR}{fs:List FR}
end
section
variable{V:List KV}{n:Nat}{p:PR}
end
section
variable{k:KN}{w:WD}{p q:PR}{fs:List FR}
end
end Go.Proofs.YtkbolbpojpmicaaGreatDoor
namespace Go.Proofs.YtkbolbpojpmicaaGreatDoor
section
variable{α:Type}{lt:α->α->Bool}
end
abbrev EL:=Int×Int
abbrev TR:=List EL
section
variable{S:Type}
end
section
variable{S:Type}
end
section
variable{S:Type}
end
end Go.Proofs.YtkbolbpojpmicaaGreatDoor
