/-
  Texts La. Conditions: as each theorem says.
-/
import Derived.WalkKit
import Derived.RangeFuncNested
set_option linter.unusedVariables false
set_option linter.unusedSimpArgs false
set_option maxRecDepth 100000
set_option maxHeartbeats 4000000
open Bool renaming and_eq_true→aa1,not_eq_true'→ag1,or_eq_true→aj7,false_eq_true→am3
open List renaming mem_of_getElem?→aa2,mem_cons_self→aa4,mem_singleton→aa3,length_append→aa7,mem_cons_of_mem→aa8,mem_cons→ab0,length_cons→ab1,getElem?_eq_none→ab4,getElem?_eq_getElem→ab6,append_assoc→ab7,all_eq_true→ac5,map_cons→ac8,mem_append_left→ac9,length_eq_zero_iff→ad0,getElem?_append_right→ad1,getElem?_append_left→ad6,mem_append_right→ae6,perm_middle→ae8,mem_append→af0,pairwise_cons→af1,ext_getElem?→af2,getElem?_cons_succ→af8,sublist_append_right→af9,range'→ag6,map_nil→ag7,foldl_cons→ah1,nil_append→ah8,length_drop→ai0,sublist_cons_self→ai5,getElem?_drop→aj6,getElem?_cons_zero→ak0,getElem?_set_self→ak4,getElem?_set_ne→an5,filterMap_cons→ao2,nodup_cons→ao4,getElem?_take_of_lt→ao8,getElem?_toArray→aq1,range'_succ→as4
open Go.Result renaming andThen_ok→aa5
open Nat renaming le_refl→aa6,eq_of_beq_eq_true→ab2,lt_or_ge→ad7,le_of_ble_eq_true→af7,zero_add→ag9,eq_zero_or_pos→ah0,blt_eq→ah3,sub_self→ah9,le_mul_of_pos_right→ak1,add_mul→ak6,mul_le_mul→an3,min→ao0,strongRecOn→ao5
open Go.Sem renaming run_bind→aa9,run_pure→ab5
open Array renaming getElem?_toList→ac2,getElem?_eq_none→af3,ext'→ag4,getD_eq_getD_getElem?→ah4,replicate→ah6,toList_map→ai9,getElem?_setIfInBounds→am9
open Option renaming map_some→ag0,isNone_some→ap3,getD_some→ap8
namespace Go.Tp
open Go Go.RowKit
theorem T.{u}{α:Sort u}{a:α}:a=a:=rfl
theorem eX.{u}{α:Sort u}{P:Prop}(x:α)(h: ∀y,y=x→P):P:=h x rfl
theorem dT{p:Prop}[Decidable p]:(decide p=true)=p:=decide_eq_true_eq
theorem dF{p:Prop}[Decidable p]:decide p=false↔¬p:=decide_eq_false_iff_not
theorem iF.{u}{c:Prop}{h:Decidable c}(n:¬c){α:Sort u}{t e:α}:ite c t e=e:=if_neg n
theorem iT.{u}{c:Prop}{h:Decidable c}(n:c){α:Sort u}{t e:α}:ite c t e=t:=if_pos n
abbrev GH:=Nat->Nat->Option Value
def GH.le(h h':GH):Prop:= ∀b o v,h b o=some v->h' b o=some v
theorem GH.le_refl(h:GH):h.le h:=fun _ _ _ x=>x
theorem GH.le_trans{a b c:GH}(x:a.le b)(y:b.le c):a.le c:=fun i o v z=>y i o v (x i o v z)
structure a6 where
 b:Nat
 lo:Nat
 cs:List Value
 obj:Option Obj:=none
def a6.apart(p q:a6):Prop:=
 (∀i j,i<p.cs.length->j<q.cs.length->p.b=q.b->p.lo+i=q.lo+j->False)/\
 (p.obj.isSome->q.obj.isSome->p.b=q.b->False)
theorem a6.apart_symm{p q:a6}(h:p.apart q):q.apart p:=
 ⟨fun i j hi hj hb ho=>h.1 j i hj hi hb.symm ho.symm,fun a b c=>h.2 b a c.symm⟩
def iJ:Value->Bool
 | .agg _=>false | .tuple _=>false
 |_=>true
theorem oneC_eq(v:Value):iJ v=v.oneCell':=by cases v<;>rfl
def aP:List Value->Bool
 | []=>true |v::r=>match iJ v with
  |true=>aP r |false=>false
theorem dP: ∀{l:List Value},aP l=true-> ∀v,v∈l->iJ v=true
 | [],_,_,hm=>by cases hm |x::r,h,v,hm=>by
  simp only [aP] at h;split at h
  ·rename_i hx;rcases ab0.1 hm with rfl|hm
   ·exact hx
   ·exact dP h v hm
  ·cases h
theorem mX: ∀{l:List Value},(∀v,v∈l->iJ v=true)->aP l=true
 | [],_=>rfl |x::r,h=>by simp only [aP,h x (aa4 ..)];exact mX fun v hv=>h v (aa8 _ hv)
structure a6.held(w0:World)(h:GH)(w:World)(p:a6):Prop where
 one: ∀v,v∈p.cs->iJ v=true
 cell: ∀i v,p.cs[i]? =some v->w.cell? ⟨p.b,p.lo+i,none⟩=some v
 new: ∀i,i<p.cs.length->w0.heap.size<=p.b
 warm: ∀i,i<p.cs.length->w.frozen? ⟨p.b,p.lo+i,none⟩=false
 fresh: ∀i,i<p.cs.length->h p.b (p.lo+i)=none
 obj: ∀o,p.obj=some o->w0.heap.size<=p.b/\w.heap[p.b]? =some o/\ ∀c t f,o≠ .cells c t f
structure St(w0:World)(h:GH)(L:List a6)(w:World):Prop where
 below:Below w0.heap.size w0 w
 imm: ∀b o v,h b o=some v->w.cell? ⟨b,o,none⟩=some v
 imm1: ∀b o v,h b o=some v->iJ v=true
 own: ∀p,p∈L->p.held w0 h w
 dis:L.Pairwise a6.apart
 frz: ∀b o v,h b o=some v->w.frozen? ⟨b,o,none⟩=w0.frozen? ⟨b,o,none⟩
 drn:w0.drawn<=w.drawn
variable{w0 w:World}{h h':GH}{L L':List a6}
theorem O2(hb:Below w0.heap.size w0 w):Below w0.heap.size w0 {w with drawn:=w.drawn+1}:=⟨hb.os,hb.tape,hb.output,hb.size,hb.block⟩
theorem St.drew(s:St w0 h L w):St w0 h L {w with drawn:=w.drawn+1}:=
 ⟨O2 s.below,s.imm,s.imm1,fun p hp=>let k:=s.own p hp;⟨k.one,k.cell,k.new,k.warm,k.fresh,k.obj⟩,s.dis,s.frz,Nat.le_succ_of_le s.drn⟩
theorem St.perm(s:St w0 h L w)(hp:L.Perm L'):St w0 h L' w:=
 ⟨s.below,s.imm,s.imm1,fun p hq=>s.own p (hp.mem_iff.2 hq),(hp.pairwise_iff (R:=a6.apart) (fun hx=>a6.apart_symm hx)).1 s.dis,s.frz,s.drn⟩
theorem St.tail{p:a6}(s:St w0 h (p::L) w):St w0 h L w:=
 ⟨s.below,s.imm,s.imm1,fun q hq=>s.own q (aa8 _ hq),(af1.1 s.dis).2,s.frz,s.drn⟩
theorem gW{a:Addr}{v:Value}(hc:w.cell? a=some v):a.block<w.heap.size:=block_lt_of_cell hc
theorem St.iv(s:St w0 h L w)(o:Nat):h w.heap.size o=none:=by
 cases hh:h w.heap.size o with
 |none=>rfl |some v=>exact absurd (gW (s.imm _ _ _ hh)) (Nat.lt_irrefl _)
theorem getElem?_some_of_lt{α:Type}{l:List α}{i:Nat}(hi:i<l.length): ∃v,l[i]? =some v:=⟨l[i],by simp [hi]⟩
theorem wP(w:World)(o:Obj)(ho:(∃c t,o= .cells c t)\/ ∀c t f,o≠ .cells c t f)(a:Addr):(w.alloc o).frozen? a=w.frozen? a:=by
 rcases ad7 a.block w.heap.size with h|h
 ·exact World.frozen?_of_block (Below.heap_alloc w _ _ h)
 ·have e1:w.frozen? a=false:=by unfold World.frozen?;rw [af3 h]
  rw [e1];rcases ad7 w.heap.size a.block with h'|h'
  ·have:(w.alloc o).heap[a.block]? =none:=af3 (by rw [show (w.alloc o).heap.size=w.heap.size+1 by simp];omega);unfold World.frozen?;rw [this]
  ·have e2:a.block=w.heap.size:=by omega
   unfold World.frozen?;rw [e2,heap_alloc_new w o];rcases ho with ⟨c,t,rfl⟩|ho
   ·simp
   ·cases o<;>simp;exact (ho _ _ _ T).elim
theorem St.alloc(s:St w0 h L w)(cs:Array Value)(t:TypeId)(h1:aP cs.toList=true):St w0 h (⟨w.heap.size,0,cs.toList,none⟩::L) (w.alloc (.cells cs t)):=by
 have hle:=s.below.size;refine ⟨s.below.alloc hle _,fun b o v hh=>?_,s.imm1,fun p hp=>?_,?_,fun b o v hv=>(wP w _ (.inl ⟨cs,t,rfl⟩) _).trans (s.frz b o v hv),s.drn⟩
 ·have hc:=s.imm b o v hh;rw [World.cell?_alloc_lt (h:=gW hc)];exact hc
 ·rcases ab0.1 hp with rfl|hp
  ·refine ⟨dP h1,fun i v hv=>?_,fun _ _=>hle,fun i hi=>?_,fun i _=>s.iv _,fun o ho=>by cases ho⟩
   ·simp only [ag9];have:=World.cell?_alloc_new (w:=w) cs t i;rw [this];simpa using hv
   ·simp
  ·have k:=s.own p hp;refine ⟨k.one,fun i v hv=>?_,k.new,fun i hi=>?_,k.fresh,fun o ho=>?_⟩
   ·have hc:=k.cell i v hv;rw [World.cell?_alloc_lt (h:=gW hc)];exact hc
   ·obtain ⟨v,hv⟩:=getElem?_some_of_lt hi;have hl:=gW (k.cell i v hv);have h1:=k.warm i hi;rw [<-h1];exact World.frozen?_of_block (Below.heap_alloc w _ _ hl)
   ·obtain ⟨h1,h2,h3⟩:=k.obj o ho;refine ⟨h1,?_,h3⟩;have hlt:p.b<w.heap.size:=by
     rcases ad7 p.b w.heap.size with h|h
     ·exact h
     ·rw [af3 h] at h2;cases h2
    rw [Below.heap_alloc w _ _ hlt];exact h2
 ·refine af1.2 ⟨fun q hq=>⟨fun i j hi hj hb _=>?_,fun x=>by cases x⟩,s.dis⟩;obtain ⟨v,hv⟩:=getElem?_some_of_lt hj;have:=gW ((s.own q hq).cell j v hv);simp only at hb this;omega
def GH.add(h:GH)(b lo:Nat)(cs:List Value):GH:=fun b' o=>if b'=b/\lo<=o/\o<lo+cs.length then cs[o-lo]? else h b' o
theorem GH.cr(h:GH)(b lo:Nat)(cs:List Value){i:Nat}{v:Value}(hv:cs[i]? =some v):h.add b lo cs b (lo+i)=some v:=by
 have hi:i<cs.length:=by
  rcases ad7 i cs.length with h|h
  ·exact h
  ·rw [ab4 h] at hv;cases hv
 unfold GH.add;rw [iT ⟨rfl,by omega,by omega⟩];simpa using hv
theorem St.dc{b lo:Nat}{cs:List Value}{ob:Option Obj}(s:St w0 h (⟨b,lo,cs,ob⟩::L) w):h.le (h.add b lo cs):=by
 intro b' o v hv;unfold GH.add;split
 ·rename_i hc;obtain ⟨rfl,h1,h2⟩:=hc;have:=(s.own _ (aa4 ..)).fresh (o-lo) (by simp only;omega);simp only at this;rw [show lo+(o-lo)=o by omega,hv] at this;cases this
 ·exact hv
theorem St.bu{b lo:Nat}{cs:List Value}{ob:Option Obj}(s:St w0 h (⟨b,lo,cs,ob⟩::L) w):St w0 (h.add b lo cs) L w:=by
 have k:=s.own _ (aa4 ..);have hd:=af1.1 s.dis;refine ⟨s.below,fun b' o v hv=>?_,fun b' o v hv=>?_,fun p hp=>?_,hd.2,fun b' o v hv=>?_,s.drn⟩
 case refine_4=>
  unfold GH.add at hv;split at hv
  ·rename_i hc;obtain ⟨rfl,h1,h2⟩:=hc;have q1:=k.warm (o-lo) (by simp only;omega);have q2:=k.new (o-lo) (by simp only;omega);simp only at q1 q2;rw [show lo+(o-lo)=o by omega] at q1;rw [q1];unfold World.frozen?;rw [af3 q2]
  ·exact s.frz _ _ _ hv
 rotate_left
 ·unfold GH.add at hv;split at hv
  ·exact k.one v (aa2 hv)
  ·exact s.imm1 _ _ _ hv
 rotate_left
 ·unfold GH.add at hv;split at hv
  ·rename_i hc;obtain ⟨rfl,h1,h2⟩:=hc;have:=k.cell _ _ hv;simp only at this
   rwa [show lo+(o-lo)=o by omega] at this
  ·exact s.imm _ _ _ hv
 ·have q:=s.own p (aa8 _ hp);refine ⟨q.one,q.cell,q.new,q.warm,fun i hi=>?_,q.obj⟩;unfold GH.add;split
  ·rename_i hc;obtain ⟨e,h1,h2⟩:=hc;exact ((hd.1 p hp).1 (p.lo+i-lo) i (by simp only;omega) hi e.symm (by simp only;omega)).elim
  ·exact q.fresh i hi
theorem St.setCell{L1:List a6}{b lo:Nat}{cs:List Value}{ob:Option Obj}(s:St w0 h (L1++⟨b,lo,cs,ob⟩::L) w){i:Nat}(hi:i<cs.length)(v:Value)(hv1:iJ v=true):
 St w0 h (L1++⟨b,lo,cs.set i v,ob⟩::L) (w.setCell ⟨b,lo+i,none⟩ v):=by
 have s':St w0 h (⟨b,lo,cs,ob⟩::(L1++L)) w:=s.perm ae8;refine St.perm (L:=⟨b,lo,cs.set i v,ob⟩::(L1++L)) ?_ ae8.symm;clear s;generalize L1++L=M at s';have k:=s'.own _ (aa4 ..);have hd:=af1.1 s'.dis;obtain ⟨u,hu⟩:=getElem?_some_of_lt hi;have hcu:=k.cell i u hu;refine ⟨s'.below.setCell (k.new i hi) v,fun b' o x hx=>?_,s'.imm1,fun p hp=>?_,?_,fun b' o x hx=>(World.frozen?_setCell ..).trans (s'.frz b' o x hx),s'.drn⟩
 ·rw [World.cell?_setCell_other]
  ·exact s'.imm _ _ _ hx
  ·intro e;have hf:=k.fresh i hi;injection e with e1 e2 _;simp only at hf;rw [e1,e2,hx] at hf;cases hf
 ·rcases ab0.1 hp with rfl|hp
  ·refine ⟨fun x hx=>(List.mem_or_eq_of_mem_set hx).elim (fun hm=>k.one x hm) (fun he=>he▸hv1),fun j x hx=>?_,fun j hj=>k.new i hi,fun j hj=>?_,fun j hj=>k.fresh j (by simpa using hj),fun o ho=>?_⟩
   ·simp only at hx⊢
    by_cases hij:j=i
    ·subst hij;rw [ak4 hi] at hx;injection hx with hx;subst hx;exact World.cell?_setCell_same _ _ _ hcu
    ·rw [an5 (Ne.symm hij)] at hx;rw [World.cell?_setCell_other]
     ·exact k.cell j x hx
     ·intro e;injection e with _ e2 _;omega
   ·rw [World.frozen?_setCell];exact k.warm j (by simpa using hj)
   ·obtain ⟨h1,h2,h3⟩:=k.obj o ho;refine ⟨h1,?_,h3⟩;have hb:=hcu;simp only [World.cell?] at hb;rw [show (⟨b,lo,cs,ob⟩:a6).b=b from rfl] at h2;rw [h2] at hb;cases o<;>simp at hb;exact (h3 _ _ _ T).elim
  ·have q:=s'.own p (aa8 _ hp);have ha:=hd.1 p hp;refine ⟨q.one,fun j x hx=>?_,q.new,fun j hj=>?_,q.fresh,fun o ho=>?_⟩
   ·rw [World.cell?_setCell_other]
    ·exact q.cell j x hx
    ·intro e;injection e with e1 e2 _;have hj:j<p.cs.length:=by
      rcases ad7 j p.cs.length with h|h
      ·exact h
      ·rw [ab4 h] at hx;cases hx
     exact ha.1 i j hi hj e1 e2
   ·rw [World.frozen?_setCell];exact q.warm j hj
   ·obtain ⟨h1,h2,h3⟩:=q.obj o ho;refine ⟨h1,?_,h3⟩
    by_cases e:p.b=b
    ·simp only [World.cell?] at hcu;rw [<-e,h2] at hcu;cases o<;>simp at hcu;exact (h3 _ _ _ T).elim
    ·rw [Below.heap_setCell _ _ _ _ (by simpa using e)];exact h2
 ·refine af1.2 ⟨fun q hq=>⟨fun a c hi hj=>(hd.1 q hq).1 a c (by simpa using hi) hj,(hd.1 q hq).2⟩,hd.2⟩
theorem St.dv(s:St w0 h L w)(o:Obj)(ho: ∀c t f,o≠ .cells c t f):St w0 h (⟨w.heap.size,0,[],some o⟩::L) (w.alloc o):=by
 have hle:=s.below.size;refine ⟨s.below.alloc hle _,fun b o v hh=>?_,s.imm1,fun p hp=>?_,?_,fun b o v hv=>(wP w _ (.inr ho) _).trans (s.frz b o v hv),s.drn⟩
 ·have hc:=s.imm b o v hh;rw [World.cell?_alloc_lt (h:=gW hc)];exact hc
 ·rcases ab0.1 hp with rfl|hp
  ·refine ⟨fun v hv=>by simp at hv,fun i v hv=>by simp at hv,fun i hi=>by simp at hi,fun i hi=>by simp at hi,fun i hi=>by simp at hi,fun o' ho'=>?_⟩;simp only [Option.some.injEq] at ho';subst ho';exact ⟨hle,heap_alloc_new w _,ho⟩
  ·have k:=s.own p hp;refine ⟨k.one,fun i v hv=>?_,k.new,fun i hi=>?_,k.fresh,fun o ho=>?_⟩
   ·have hc:=k.cell i v hv;rw [World.cell?_alloc_lt (h:=gW hc)];exact hc
   ·obtain ⟨v,hv⟩:=getElem?_some_of_lt hi;have hl:=gW (k.cell i v hv);have h1:=k.warm i hi;rw [<-h1];exact World.frozen?_of_block (Below.heap_alloc w _ _ hl)
   ·obtain ⟨h1,h2,h3⟩:=k.obj o ho;refine ⟨h1,?_,h3⟩;have hlt:p.b<w.heap.size:=by
     rcases ad7 p.b w.heap.size with h|h
     ·exact h
     ·rw [af3 h] at h2;cases h2
    rw [Below.heap_alloc w _ _ hlt];exact h2
 ·refine af1.2 ⟨fun q hq=>⟨fun i j hi=>by simp at hi,fun _ hq' hb=>?_⟩,s.dis⟩;cases hob:q.obj with
  |none=>simp [hob] at hq' |some oq=>
   obtain ⟨_,h2,_⟩:=(s.own q hq).obj oq hob;simp only at hb;rw [<-hb,af3 (aa6 _)] at h2;cases h2
theorem St.part{b lo:Nat}{c1 c2:List Value}(s:St w0 h (⟨b,lo,c1++c2,none⟩::L) w):St w0 h (⟨b,lo,c1,none⟩::⟨b,lo+c1.length,c2,none⟩::L) w:=by
 have k:=s.own _ (aa4 ..);have hd:=af1.1 s.dis;have k1:a6.held w0 h w ⟨b,lo,c1,none⟩:=by
  refine ⟨fun v hv=>k.one v (ac9 _ hv),fun i v hv=>k.cell i v ?_,fun i hi=>k.new i ?_,fun i hi=>k.warm i ?_,fun i hi=>k.fresh i ?_,fun o ho=>by cases ho⟩
  ·have hi:i<c1.length:=by
    rcases ad7 i c1.length with h|h
    ·exact h
    ·simp only at hv;rw [ab4 h] at hv;cases hv
   simp only at hv⊢;rw [ad6 hi];exact hv
  all_goals (simp only [aa7] at hi⊢;omega)
 have k2:a6.held w0 h w ⟨b,lo+c1.length,c2,none⟩:=by
  have e: ∀i,lo+c1.length+i=lo+(c1.length+i):=fun i=>by omega
  refine ⟨fun v hv=>k.one v (ae6 _ hv),fun i v hv=>?_,fun i hi=>k.new (c1.length+i) ?_,fun i hi=>?_,fun i hi=>?_,fun o ho=>by cases ho⟩
  ·simp only;rw [e];refine k.cell (c1.length+i) v ?_;simp only at hv⊢;rw [ad1 (by omega),Nat.add_sub_cancel_left];exact hv
  ·simp only [aa7] at hi⊢;omega
  ·simp only;rw [e];refine k.warm (c1.length+i) ?_;simp only [aa7] at hi⊢;omega
  ·simp only;rw [e];refine k.fresh (c1.length+i) ?_;simp only [aa7] at hi⊢;omega
 refine ⟨s.below,s.imm,s.imm1,fun p hp=>?_,?_,s.frz,s.drn⟩
 ·rcases ab0.1 hp with rfl|hp
  ·exact k1
  ·rcases ab0.1 hp with rfl|hp
   ·exact k2
   ·exact s.own p (aa8 _ hp)
 ·refine af1.2 ⟨fun q hq=>?_,af1.2 ⟨fun q hq=>?_,hd.2⟩⟩
  ·rcases ab0.1 hq with rfl|hq
   ·exact ⟨fun i j hi hj _ ho=>by simp only at hi hj ho;omega,fun x=>by cases x⟩
   ·exact ⟨fun i j hi hj hb ho=>(hd.1 q hq).1 i j (by simp only [aa7] at hi⊢;omega) hj hb ho,fun x=>by cases x⟩
  ·exact ⟨fun i j hi hj hb ho=>(hd.1 q hq).1 (c1.length+i) j (by simp only [aa7] at hi⊢;omega) hj hb (by simp only at ho⊢;omega),fun x=>by cases x⟩
end Go.Tp
namespace Go.Tp
open Go Go.RowKit
abbrev Us:=List (Nat×Value)
abbrev Cs:=List (Nat×(Nat×Bool)×Value)
structure Env where
 us:Us
 cs:Cs:=[]
def look:Us->Nat->Option Value
 | [],_=>none |(k,v)::r,t=>match Nat.beq k t with|true=>some v|false=>look r t
def rA:Cs->Nat->Option ((Nat×Bool)×Value)
 | [],_=>none |(k,c,v)::r,t=>match Nat.beq k t with|true=>some (c,v)|false=>rA r t
def uU:Cs->Nat->Bool
 | [],_=>true |(k,(g,_),_)::r,t=>match Nat.beq k t with|true=>false|false=>match Nat.beq g t with|true=>false|false=>uU r t
theorem dY{a b:Nat}(h:Nat.beq a b=false):a≠b:=fun e=>by subst e;simp at h
theorem sD{t:Nat}: ∀{cs:Cs},uU cs t=true->rA cs t=none/\ ∀u g b v,rA cs u=some ((g,b),v)->g≠t
 | [],_=>⟨rfl,fun _ _ _ _ h=>by cases h⟩ |(k,(g,b),v)::r,h=>by
  simp only [uU] at h;split at h
  ·cases h
  ·rename_i h1;split at h
   ·cases h
   ·rename_i h2;obtain ⟨i1,i2⟩:=sD h;refine ⟨by simp only [rA,h1];exact i1,fun u g' b' v' hu=>?_⟩;simp only [rA] at hu;split at hu
    ·injection hu with hu;injection hu with hu _;injection hu with hg _;subst hg;exact dY h2
    ·exact i2 _ _ _ _ hu
def marks(D:List Nat):List Deferred:=D.map fun r=>{target:= .collected r,args:= #[]}
structure Ag(n:Nat)(D:List Nat)(e:Env)(a:Act):Prop where
 size:a.tmps.size=n
 defers:a.defers=marks D
 us: ∀t v,look e.us t=some v->a.tmps[t]? =some v
 cs: ∀t g b v,rA e.cs t=some ((g,b),v)->(a.tmps[g]? =some (.bool b)->a.tmps[t]? =some v)/\(a.tmps[g]? ≠some (.bool b)->a.tmps[t]? =some undef)
def yV:List (Nat×Bool)->Nat×Bool->Bool
 | [],_=>false |(k,b)::r,(k',b')=>match Nat.beq k k' with|true=>(match b,b' with|true,true=>true|false,false=>true|_,_=>yV r (k',b'))|false=>yV r (k',b')
theorem qF: ∀{ks:List (Nat×Bool)} {x:Nat×Bool},yV ks x=true->x∈ks
 | [],_,h=>by cases h |(k,b)::r,(k',b'),h=>by
  simp only [yV] at h;split at h
  ·rename_i hk;have hk:=ab2 hk;subst hk;split at h
   ·exact aa4 ..
   ·exact aa4 ..
   ·exact aa8 _ (qF h)
  ·exact aa8 _ (qF h)
def Env.ev(e:Env)(ks:List (Nat×Bool)):Operand->Option Value
 | .tmp t=>match look e.us t with
   |some v=>some v |none=>match rA e.cs t with
    |some (c,v)=>match yV ks c with|true=>some v|false=>none
    |none=>none
 | .const v=>some v | .global g=>some (.pointer (some ⟨g,0,none⟩))
 | .func f=>some (.func (.func f) #[] #[])
def dK(a:Act)(ks:List (Nat×Bool)):Prop:= ∀g b,(g,b)∈ks->a.tmps[g]? =some (.bool b)
theorem nD(a:Act):dK a []:=fun _ _ h=>by cases h
theorem Act.dz{a:Act}{t:Nat}{v:Value}(h:a.tmps[t]? =some v):a.tmps.getD t undef=v:=by simp [ah4,h]
theorem Ag.ev{n:Nat}{D:List Nat}{e:Env}{a:Act}{ks:List (Nat×Bool)}(g:Ag n D e a)(hk:dK a ks): ∀{x:Operand} {v:Value},e.ev ks x=some v->a.eval x=v:=by
 intro x v hx;cases x with
 |tmp t=>
  simp only [Env.ev] at hx;split at hx
  ·rename_i u hu;injection hx with hx;subst hx;exact Act.dz (g.us t _ hu)
  ·split at hx
   ·rename_i c u hu;split at hx
    ·rename_i hc;injection hx with hx;subst hx;obtain ⟨gg,b⟩:=c;exact Act.dz ((g.cs t gg b _ hu).1 (hk _ _ (qF hc)))
    ·cases hx
   ·cases hx
 |const u=>injection hx |global u=>injection hx
 |func u=>injection hx
def bU{α:Type}:List α->Nat->Option α
 | [],_=>none |x::_,0=>some x
 |_::r,n+1=>bU r n
theorem cC{α:Type}: ∀(l:List α) (n:Nat),bU l n=l[n]?
 | [],_=>by simp [bU] |_::_,0=>by simp [bU]
 |_::r,n+1=>by simp [bU,cC r n]
def chain(cs:Cs):Nat->Nat×Bool->List (Nat×Bool)
 |0,k=>[k] |f+1,k=>match rA cs k.1 with
  |some (k',_)=>k::chain cs f k' |none=>[k]
theorem oO(b:Bool):(Value.bool b)≠undef:=by intro h;cases h
theorem Ag.chain{n:Nat}{D:List Nat}{e:Env}{a:Act}(g:Ag n D e a): ∀(f:Nat) (k:Nat×Bool),a.tmps[k.1]? =some (.bool k.2)->dK a (chain e.cs f k)
 |0,k,h=>fun x b hm=>by simp only [Go.Tp.chain,aa3] at hm;subst hm;exact h |f+1,k,h=>fun x b hm=>by
  simp only [Go.Tp.chain] at hm;split at hm
  ·rename_i k' v hl;rcases ab0.1 hm with rfl|hm
   ·exact h
   ·obtain ⟨g',b'⟩:=k';refine g.chain f (g',b') ?_ x b hm;obtain ⟨_,h2⟩:=g.cs _ _ _ _ hl
    by_cases hg:a.tmps[g']? =some (.bool b')
    ·exact hg
    ·have:=h2 hg;rw [h] at this;injection this with this;exact (oO _ this).elim
  ·simp only [aa3] at hm;subst hm;exact h
def iH(e:Env)(all:Array Oper):Option (Nat×Bool)->Option (Option (Nat×Bool)×List (Nat×Bool))
 |none=>some (none,[]) |some (j,w)=>match bU all.toList j with
  |some o=>match o.dst with
   |some t=>some (some (t,w),Go.Tp.chain e.cs 6 (t,w)) |none=>none
  |none=>none
def Env.put(n:Nat)(m:Option (Nat×Bool))(d:Option Nat)(v:Value)(e:Env):Option Env:=
 match d with
 |none=>some e |some d=>match Nat.blt d n with
  |false=>none |true=>match uU e.cs d with
   |false=>none |true=>match m with
    |none=>some ⟨(d,v)::e.us,e.cs⟩ |some k=>match look e.us d with
     |some _=>none |none=>match Nat.beq k.1 d with
      |true=>none |false=>some ⟨e.us,(d,k,v)::e.cs⟩
theorem getElem?_put_same{a:Act}{d:Nat}{v:Value}(h:d<a.tmps.size):(a.put (some d) v).tmps[d]? =some v:=by simp [Act.put,h]
theorem getElem?_put_ne{a:Act}{d t:Nat}{v:Value}(h:t≠d):(a.put (some d) v).tmps[t]? =a.tmps[t]? :=by simp only [Act.put,am9,iF (Ne.symm h)]
theorem NC{a:Act}{d:Option Nat}{v:Value}:(a.put d v).tmps.size=a.tmps.size:=by cases d<;>simp [Act.put]
theorem put_defers{a:Act}{d:Option Nat}{v:Value}:(a.put d v).defers=a.defers:=by cases d<;>rfl
theorem Ag.put{n:Nat}{D:List Nat}{e e':Env}{a:Act}{d:Option Nat}{v:Value}(g:Ag n D e a)(h:e.put n none d v=some e'):Ag n D e' (a.put d v):=by
 cases d with
 |none=>injection h with h;subst h;exact g |some d=>
  simp only [Env.put] at h;split at h
  ·cases h
  ·rename_i hlt;have hlt:d<a.tmps.size:=by rw [g.size];simpa [ah3] using hlt
   split at h
   ·cases h
   ·rename_i hf;injection h with h;subst h;obtain ⟨f1,f2⟩:=sD hf;refine ⟨by rw [NC];exact g.size,by rw [put_defers];exact g.defers,fun t u hu=>?_,fun t gg b u hu=>?_⟩
    ·simp only [look] at hu;split at hu
     ·rename_i hk;have hk:=ab2 hk;subst hk;injection hu with hu;subst hu;exact getElem?_put_same hlt
     ·rename_i hk;rw [getElem?_put_ne (Ne.symm (dY hk))];exact g.us t u hu
    ·have hg:=f2 _ _ _ _ hu;have ht:t≠d:=fun e=>by subst e;rw [f1] at hu;cases hu
     rw [getElem?_put_ne hg,getElem?_put_ne ht];exact g.cs t gg b u hu
theorem Ag.iy{n:Nat}{D:List Nat}{e e':Env}{a:Act}{d:Option Nat}{k:Nat×Bool}{v u:Value}(g:Ag n D e a)(h:e.put n (some k) d v=some e')
 (h1:a.tmps[k.1]? =some (.bool k.2)->u=v) (h2:a.tmps[k.1]? ≠some (.bool k.2)->u=undef):Ag n D e' (a.put d u):=by
 cases d with
 |none=>injection h with h;subst h;exact g |some d=>
  simp only [Env.put] at h;split at h
  ·cases h
  ·rename_i hlt;have hlt:d<a.tmps.size:=by rw [g.size];simpa [ah3] using hlt
   split at h
   ·cases h
   ·rename_i hf;split at h
    ·cases h
    ·rename_i hnone;split at h
     ·cases h
     ·rename_i hkd;injection h with h;subst h;obtain ⟨f1,f2⟩:=sD hf;have hkd:=dY hkd;refine ⟨by rw [NC];exact g.size,by rw [put_defers];exact g.defers,fun t x hx=>?_,fun t gg b x hx=>?_⟩
      ·have ht:t≠d:=fun e=>by subst e;rw [hnone] at hx;cases hx
       rw [getElem?_put_ne ht];exact g.us t x hx
      ·simp only [rA] at hx;split at hx
       ·rename_i hk;have hk:=ab2 hk;subst hk;injection hx with hx;injection hx with hx1 hx2;subst hx1;subst hx2;rw [getElem?_put_ne hkd,getElem?_put_same hlt];exact ⟨fun hh=>by rw [h1 hh],fun hh=>by rw [h2 hh]⟩
       ·rename_i hk;have hg:=f2 _ _ _ _ hx;rw [getElem?_put_ne hg,getElem?_put_ne (Ne.symm (dY hk))];exact g.cs t gg b x hx
def Env.Sub(e:Env):Us->Prop
 | []=>True |(t,v)::r=>look e.us t=some v/\e.Sub r
theorem Ag.sub{n:Nat}{D:List Nat}{e:Env}{us:Us}{a:Act}(g:Ag n D e a)(h:e.Sub us):Ag n D ⟨us,[]⟩ a:=by
 refine ⟨g.size,g.defers,?_,fun _ _ _ _ h=>by cases h⟩
 induction us with
 |nil=>intro t v hv;cases hv |cons x r ih=>
  obtain ⟨k,u⟩:=x;intro t v hv;simp only [look] at hv;split at hv
  ·rename_i hk;have hk:=ab2 hk;subst hk;injection hv with hv;subst hv;exact g.us _ _ h.1
  ·exact ih h.2 t v hv
theorem Ag.clear{n:Nat}{D:List Nat}{e:Env}{a:Act}(g:Ag n D e a):Ag n D ⟨e.us,[]⟩ a:=⟨g.size,g.defers,g.us,fun _ _ _ _ h=>by cases h⟩
inductive It where
 |code (c:Code)
 |ops (all:Array Oper) (l:List Oper)
 |inBlock (id:Nat)
 |inLoop (c:Code)
 |inScope (c:Code)
 |begin
def It.item:It->Item
 | .code c=> .code c | .ops all l=> .inRegion all (ag6 (all.size-l.length) l.length)
 | .inBlock id=> .inBlock id | .inLoop c=> .inLoop c
 | .inScope c=> .inScope c | .begin=> .beginRound
def j9:List Oper->Bool
 | []=>true |o::l=>match o.op with
  | .defer _=>false |_=>j9 l
theorem vC: ∀{l:List Oper} {i:Nat} {o:Oper},j9 l=true->l[i]? =some o-> ∀c,o.op≠ .defer c
 | [],_,_,_,h=>by simp at h |x::l,i,o,hn,h=>by
  intro c hc;unfold j9 at hn;cases i with
  |zero=>
   simp only [ak0,Option.some.injEq] at h;subst h;rw [hc] at hn;cases hn
  |succ i=>
   simp only [af8] at h;split at hn
   ·cases hn
   ·exact vC hn h c hc
def It.ok:It->Prop
 | .ops all l=>(∃pre,all.toList=pre++l)/\j9 all.toList=true |_=>True
def items(k:List It):List Item:=k.map It.item
def fY(k:List It):Prop:= ∀x,x∈k->x.ok
structure TI where
 d:TypeDesc
 size:Nat
 bytes:Nat
 zero:List Value
 agg:Bool
def PM:TypeDesc->Bool
 | .struct _=>true | .array _ _=>true
 |_=>false
structure TI.Ok(P:Program)(t:TypeId)(i:TI):Prop where
 und:P.underlying t=some i.d
 info: ∃x z,P.info? t=some x/\x.size=i.size/\x.bytes=i.bytes/\x.zero=some z/\z.cells.toList=i.zero
 agg:PM i.d=i.agg
 len:i.zero.length=i.size
inductive TT where
 |leaf
 |node (k:Nat) (v:TI) (l r:TT)
def TT.get:TT->Nat->Option TI
 | .leaf,_=>none | .node k v l r,t=>match Nat.beq k t with
   |true=>some v |false=>match Nat.blt t k with
    |true=>l.get t |false=>r.get t
def TT.Ok(P:Program):TT->Prop
 | .leaf=>True | .node k v l r=>TI.Ok P k v/\l.Ok P/\r.Ok P
theorem TT.Ok.get{P:Program}{t:Nat}{i:TI}: ∀{S:TT},S.Ok P->S.get t=some i->TI.Ok P t i
 | .leaf,_,hg=>by cases hg | .node k v l r,⟨h1,h2,h3⟩,hg=>by
   simp only [TT.get] at hg;split at hg
   ·rename_i hk;have hk:=ab2 hk;subst hk;injection hg with hg;subst hg;exact h1
   ·split at hg
    ·exact TT.Ok.get h2 hg
    ·exact TT.Ok.get h3 hg
structure nY where
 P:Program
 S:TT
 w0:World
 f:FuncId
 fn:Func
 n:Nat
 R:Value->GH->List a6->Prop
 ok:S.Ok P
 hfn:P.funcs[f]? =some fn
 D:List Nat:=[]
 rd:Option Nat:=none
def FrOk(C:nY)(b:Frame)(cs:List Frame):Prop:=b.kind= .normal/\b.roundOf=C.rd/\(C.rd≠none->cs≠[])
def nY.Out(C:nY)(cs:List Frame)(w':World)(v:Value)(m:Machine):Prop:=match C.rd with
 |none=> ∃fr,m=lone fr cs w'/\fr.fn=C.f/\fr.leaving C.P w' (.returned v) |some _=> ∃c cs',cs=c::cs'/\m=lone (c.finish v) cs' w'
def V(C:nY)(k:List It)(e:Env)(h:GH)(L:List a6):Prop:=
 fY k-> ∀(a:Act) (w:World) (b:Frame) (cs:List Frame),Ag C.n C.D e a->St C.w0 h L w->b.fn=C.f->FrOk C b cs->
  ∃v w' m h' L',C.R v h' L'/\St C.w0 h' L' w'/\Steps C.P (lone (b.atR a (items k)) cs w) m/\C.Out cs w' v m/\True
variable{C:nY}{k:List It}{e:Env}{h:GH}{L:List a6}
theorem V.sub{us:Us}(hs:e.Sub us)(hv:V C k ⟨us,[]⟩ h L):V C k e h L:=
 fun ho a w b cs g s hf hk=>hv ho a w b cs (g.sub hs) s hf hk
theorem V.perm{L':List a6}(hp:L.Perm L')(hv:V C k e h L'):V C k e h L:=
 fun ho a w b cs g s hf hk=>hv ho a w b cs g (s.perm hp) hf hk
theorem V.tail{p:a6}(hv:V C k e h L):V C k e h (p::L):=
 fun ho a w b cs g s hf hk=>hv ho a w b cs g s.tail hf hk
theorem V.bu{b lo:Nat}{vs:List Value}(hv:h.le (h.add b lo vs)->V C k e (h.add b lo vs) L):V C k e h (⟨b,lo,vs,none⟩::L):=
 fun ho a w bb cs g s hf hk=>hv s.dc ho a w bb cs g s.bu hf hk
theorem V.ck{k':List It}(hok:fY k->fY k')(hst: ∀(a:Act) (w:World) (b:Frame) (cs:List Frame),Ag C.n C.D e a->Steps C.P (lone (b.atR a (items k)) cs w) (lone (b.atR a (items k')) cs w))
 (hv:V C k' e h L):V C k e h L:=
 fun ho a w b cs g s hf hk=>
  let ⟨v,w',fr,h',L',r,s',st,e1,e2⟩:=hv (hok ho) a w b cs g s hf hk
  ⟨v,w',fr,h',L',r,s',(hst a w b cs g).trans st,e1,e2⟩
theorem bD{x:It}(ho:fY (x::k)):fY k:=fun y hy=>ho y (aa8 _ hy)
theorem kW{x:It}(hx:x.ok)(ho:fY k):fY (x::k):=fun y hy=>by
 rcases ab0.1 hy with rfl|hy
 ·exact hx
 ·exact ho y hy
theorem dE{c:Code}(ho:fY k):fY (.code c::k):=kW (show It.ok (.code c) from trivial) ho
theorem ML{id:Nat}(ho:fY k):fY (.inBlock id::k):=kW (show It.ok (.inBlock id) from trivial) ho
theorem MM{c:Code}(ho:fY k):fY (.inScope c::k):=kW (show It.ok (.inScope c) from trivial) ho
theorem PT{c:Code}(ho:fY k):fY (.inLoop c::k):=kW (show It.ok (.inLoop c) from trivial) ho
theorem tC{all:Array Oper}{l pre:List Oper}(hp:all.toList=pre++l)(hn:j9 all.toList=true)(ho:fY k):fY (.ops all l::k):=kW (show It.ok (.ops all l) from ⟨⟨pre,hp⟩,hn⟩) ho
def CS(id:Nat):List It->Option (List It)
 | .inBlock id'::k=>match Nat.beq id' id with|true=>some k|false=>CS id k
 |_::k=>CS id k | []=>none
theorem gU{id:Nat}: ∀{k k':List It},CS id k=some k'->exitTo id (items k)=some (items k')/\(fY k->fY k')
 | [],_,h=>by cases h | .inBlock id'::k,k',h=>by
   simp only [CS] at h;split at h
   ·rename_i hb;have hb:=ab2 hb;subst hb;injection h with h;subst h;exact ⟨by simp [items,It.item,exitTo],bD⟩
   ·rename_i hb;obtain ⟨h1,h2⟩:=gU h;refine ⟨?_,fun ho=>h2 (bD ho)⟩;have:(id'==id)=false:=by simpa using dY hb
    simpa [items,It.item,exitTo,this] using h1
 | .code c::k,k',h=>by obtain ⟨h1,h2⟩:=gU (k:=k) h;exact ⟨by simpa [items,It.item,exitTo] using h1,fun ho=>h2 (bD ho)⟩
 | .ops all l::k,k',h=>by obtain ⟨h1,h2⟩:=gU (k:=k) h;exact ⟨by simpa [items,It.item,exitTo] using h1,fun ho=>h2 (bD ho)⟩
 | .inLoop c::k,k',h=>by obtain ⟨h1,h2⟩:=gU (k:=k) h;exact ⟨by simpa [items,It.item,exitTo] using h1,fun ho=>h2 (bD ho)⟩
 | .begin::k,k',h=>by obtain ⟨h1,h2⟩:=gU (k:=k) h;exact ⟨by simpa [items,It.item,exitTo] using h1,fun ho=>h2 (bD ho)⟩
 | .inScope c::k,k',h=>by obtain ⟨h1,h2⟩:=gU (k:=k) h;exact ⟨by simpa [items,It.item,exitTo] using h1,fun ho=>h2 (bD ho)⟩
theorem step_scope{P:Program}{b:Frame}{a:Act}{k:List Item}{cs:List Frame}{w:World}{c:Code}:
 step P (lone (b.atR a (.code (.scope c)::k)) cs w)= .next (lone (b.atR a (.code c:: .inScope c::k)) cs w):=
 step_lone_go (by simp [stepG,stepG.exec,Frame.atR])
theorem step_inScope{P:Program}{b:Frame}{a:Act}{k:List Item}{cs:List Frame}{w:World}{c:Code}:
 step P (lone (b.atR a (.inScope c::k)) cs w)= .next (lone (b.atR a k) cs w):=
 step_lone_go (by simp [stepG,stepG.exec,Frame.atR])
def cstep:List It->Option (List It)
 | .code (.seq x y)::k=>some (.code x:: .code y::k) | .code .skip::k=>some k
 | .code (.label _)::k=>some k | .code (.block id c)::k=>some (.code c:: .inBlock id::k)
 | .code (.scope c)::k=>some (.code c:: .inScope c::k) | .code (.exit id)::k=>CS id k
 | .code (.region _ ops false)::k=>match j9 ops.toList with|true=>some (.ops ops ops.toList::k)|false=>none
 | .inBlock _::k=>some k | .inScope _::k=>some k
 |_=>none
theorem V.cstep{k':List It}(hc:cstep k=some k')(hv:V C k' e h L):V C k e h L:=by
 unfold Go.Tp.cstep at hc;split at hc
 case h_1=>injection hc with hc;subst hc;exact hv.ck (fun ho=>dE (dE (bD ho))) fun _ _ _ _ _=> .one stepR_seq
 case h_2=>injection hc with hc;subst hc;exact hv.ck bD fun _ _ _ _ _=> .one stepR_skip
 case h_3=>injection hc with hc;subst hc;exact hv.ck bD fun _ _ _ _ _=> .one stepR_label
 case h_4=>injection hc with hc;subst hc;exact hv.ck (fun ho=>dE (ML (bD ho))) fun _ _ _ _ _=> .one stepR_block
 case h_5=>injection hc with hc;subst hc;exact hv.ck (fun ho=>dE (MM (bD ho))) fun _ _ _ _ _=> .one step_scope
 case h_6 id k=>
  obtain ⟨h1,h2⟩:=gU hc;exact hv.ck (fun ho=>h2 (bD ho)) fun _ _ _ _ _=> .one (stepR_exit h1)
 case h_7 id ops k=>
  split at hc
  rotate_left
  ·cases hc
  rename_i hnd;injection hc with hc;subst hc;refine hv.ck (fun ho=>tC (all:=ops) (pre:=[]) (by simp) hnd (bD ho)) fun a w b cs _=>?_;have:items (.ops ops ops.toList::k)= .inRegion ops (List.range ops.size)::items k:=by simp [items,It.item,List.range_eq_range']
  rw [this];exact .one stepR_region
 case h_8=>injection hc with hc;subst hc;exact hv.ck bD fun _ _ _ _ _=> .one stepR_inBlock
 case h_9=>injection hc with hc;subst hc;exact hv.ck bD fun _ _ _ _ _=> .one step_inScope
 case h_10=>cases hc
theorem V.cond{c:Operand}{x y:Code}{g:Bool}(hc:e.ev [] c=some (.bool g))(ht:g=true->V C (.code x::k) e h L)(hf:g=false->V C (.code y::k) e h L):V C (.code (.cond c x y)::k) e h L:=by
 cases g
 ·refine (hf T).ck (fun ho=>dE (bD ho)) fun a w b cs ag=>?_;have:=stepR_cond (P:=C.P) (b:=b) (a:=a) (k:=items k) (cs:=cs) (w:=w) (c:=c) (x:=x) (y:=y) (ag.ev (nD a) hc);exact .one (by simpa [items,It.item] using this)
 ·refine (ht T).ck (fun ho=>dE (bD ho)) fun a w b cs ag=>?_;have:=stepR_cond (P:=C.P) (b:=b) (a:=a) (k:=items k) (cs:=cs) (w:=w) (c:=c) (x:=x) (y:=y) (ag.ev (nD a) hc);exact .one (by simpa [items,It.item] using this)
def pC(D:List Nat):List a6:=D.map fun r=>⟨r,0,[],some (.deferred (some []))⟩
theorem St.setObj{w0 w:World}{b lo:Nat}{cs:List Value}{o:Obj}(s:St w0 h (⟨b,lo,cs,some o⟩::L) w)(hcs:cs=[])(o':Obj)(ho': ∀c t f,o'≠ .cells c t f):St w0 h (⟨b,lo,[],some o'⟩::L) (w.putObj b o'):=by
 subst hcs;have k:=s.own _ (aa4 ..);obtain ⟨hn,hb,hno⟩:=k.obj o rfl;simp only at hn hb;have hlt:b<w.heap.size:=(Array.getElem?_eq_some_iff.1 hb).1;have hcell: ∀a:Addr,w.cell? a≠none->(w.putObj b o').cell? a=w.cell? a:=fun a ha=>by
  by_cases e:a.block=b
  ·exfalso;apply ha;unfold World.cell?;rw [e,hb];cases o<;>first|rfl|exact (hno _ _ _ T).elim
  ·exact World.cell?_of_block (World.putObj_heap_other e)
 have hfrz: ∀a:Addr,(w.putObj b o').frozen? a=w.frozen? a:=fun a=>by
  by_cases e:a.block=b
  ·have e1:w.frozen? a=false:=by
    unfold World.frozen?;rw [e,hb];cases o<;>first|rfl|exact (hno _ _ _ T).elim
   rw [e1];unfold World.frozen?;rw [e,World.putObj_heap_same hlt];cases o'<;>first|rfl|exact (ho' _ _ _ T).elim
  ·exact World.frozen?_of_block (World.putObj_heap_other e)
 have hd:=af1.1 s.dis;refine ⟨⟨s.below.os,s.below.tape,s.below.output,by rw [World.putObj_size];exact s.below.size,fun j hj=>?_⟩,fun b' o1 v hv=>?_,s.imm1,fun p hp=>?_,?_,fun b o v hv=>(hfrz _).trans (s.frz b o v hv),s.drn⟩
 ·rw [World.putObj_heap_other (by omega)];exact s.below.block j hj
 ·have hc:=s.imm b' o1 v hv;rw [hcell _ (by rw [hc];exact fun x=>by cases x)];exact hc
 ·rcases ab0.1 hp with rfl|hp
  ·refine ⟨fun v hv=>by simp at hv,fun i v hv=>by simp at hv,fun i hi=>by simp at hi,fun i hi=>by simp at hi,fun i hi=>by simp at hi,fun o1 ho1=>?_⟩;simp only [Option.some.injEq] at ho1;subst ho1;exact ⟨hn,World.putObj_heap_same hlt,ho'⟩
  ·have q:=s.own p (aa8 _ hp);refine ⟨q.one,fun i v hv=>?_,q.new,fun i hi=>(hfrz _).trans (q.warm i hi),q.fresh,fun o1 ho1=>?_⟩
   ·have hc:=q.cell i v hv;rw [hcell _ (by rw [hc];exact fun x=>by cases x)];exact hc
   ·obtain ⟨h1,h2,h3⟩:=q.obj o1 ho1;refine ⟨h1,?_,h3⟩;rw [World.putObj_heap_other (fun e=>(hd.1 p hp).2 T (by rw [ho1];rfl) e.symm)];exact h2
 ·exact af1.2 ⟨fun q hq=>⟨fun i j hi=>by simp at hi,fun _=>(hd.1 q hq).2 T⟩,hd.2⟩
theorem unmark{P:Program}{w0:World}{L0 F0:List a6}: ∀{D:List Nat} {w:World} (fr:Frame) (cs:List Frame),fr.mode= .returning->fr.defers=marks D->St w0 h (L0++(pC D++F0)) w->
 ∃w' fr',St w0 h (L0++F0) w'/\Steps P (lone fr cs w) (lone fr' cs w')/\fr'.fn=fr.fn/\fr'.tmps=fr.tmps/\fr'.kind=fr.kind/\fr'.mode= .returning/\fr'.defers=[]
 | [],w,fr,cs,hm,hd,s=>⟨w,fr,s, .refl P _,rfl,rfl,rfl,hm,hd⟩ |r::D,w,fr,cs,hm,hd,s=>by have s1:St w0 h (⟨r,0,[],some (.deferred (some []))⟩::(L0++(pC D++F0))) w:=s.perm ae8;have hb:=(s1.own _ (aa4 ..)).obj _ T;have s2:=(s1.setObj T (.deferred none) (fun _ _ _ x=>by cases x)).tail;obtain ⟨w',fr',s3,st,e1,e2,e3,e4,e5⟩:=unmark (P:=P) {fr with defers:=marks D} cs hm rfl s2;refine ⟨w',fr',s3, .head (step_lone_go ?_) st,e1,e2,e3,e4,e5⟩;have hr:=run_takeDeferred (P:=P) hb.2.1;simp only at hr;have hd':fr.defers={target:= .collected r,args:= #[]}::marks D:=hd;simp [stepG,unwind,hm,hd',Sem.runT_eq,hr,GStep.bare_after]
theorem V.ret{v:Value}(hk:k= .code .ret::k.tail\/k=[])(hrd:C.rd=none){L0 F0:List a6}(hL:L=L0++(pC C.D++F0))
 (hr: ∀a w,Ag C.n C.D e a->St C.w0 h (L0++F0) w->(results C.fn a.tmps).run C.P w= .ok v w) (hR:C.R v h (L0++F0)):V C k e h L:=by
 intro ho a w b cs g s hf hkk;subst hL;obtain ⟨hk1,hk2,_⟩:=hkk;rw [hrd] at hk2
 have key: ∀fr:Frame,fr.mode= .returning->fr.defers=a.defers->fr.fn=b.fn->fr.tmps=a.tmps->fr.kind=b.kind->step C.P (lone (b.atR a (items k)) cs w)= .next (lone fr cs w)->
  ∃v w' m h' L',C.R v h' L'/\St C.w0 h' L' w'/\Steps C.P (lone (b.atR a (items k)) cs w) m/\C.Out cs w' v m/\True:=by
  intro fr m1 m2 m3 m4 m5 hst;obtain ⟨w',fr',s',st,e1,e2,e3,e4,e5⟩:=unmark (P:=C.P) fr cs m1 (m2.trans g.defers) s;refine ⟨v,w',lone fr' cs w',h,_,hR,s', .head hst st,?_,trivial⟩;unfold nY.Out;rw [hrd];exact ⟨fr',rfl,(e1.trans m3).trans hf,e4,e5,(e3.trans m5).trans hk1,C.fn,by rw [e1,m3,hf];exact C.hfn,by rw [e2,m4];exact hr a w' g s'⟩
 rcases hk with hk|hk
 ·refine key {b.atR a (items (.code .ret::k.tail)) with mode:= .returning} rfl T T T T ?_;rw [hk];exact stepR_ret hk2
 ·subst hk;exact key {b.atR a [] with mode:= .returning} rfl T T T T (stepR_end hk2)
theorem op_run{P:Program}{ops:Array Oper}{i:Nat}{rest:List Nat}{o:Oper}{b:Frame}{a:Act}{k:List Item}{cs:List Frame}{w:World}{K:Act->World->Prop}
 (ho:ops[i]? =some o) (hnd: ∀c,o.op≠ .defer c) (hw:Region.wanted o (yielded ops a.tmps)=true) (hh:o.wp P a w K (fun _ _ _=>False)):
 ∃a' w',K a' w'/\Steps P (lone (b.atR a (.inRegion ops (i::rest)::k)) cs w) (lone (b.atR a' (.inRegion ops rest::k)) cs w'):=by
 unfold Oper.wp Oper.upon at hh;have hg:=stepGR_op (P:=P) (b:=b) (k:=k) (cs:=cs) (w:=w) (rest:=rest) ho hw;rw [Oper.semAt_eq _ _ _ hnd] at hg;have hfin: ∀v,(b.atR a (.inRegion ops (i::rest)::k)).finish v=b.atR (a.put o.dst v) (.inRegion ops rest::k):=by intro v;rw [Frame.finish_atR,ho];rfl
 split at hh
 ·rename_i v w' hr;refine ⟨_,_,hh, .one (step_lone_go ?_)⟩;rw [hg,<-hfin];simp [stepG.apply,hr]
 ·rename_i w' hr;refine ⟨_,_,hh, .one (step_lone_go ?_)⟩;rw [hg,<-hfin];simp [stepG.apply,hr]
 ·rename_i d w' hr;refine ⟨_,_,hh, .one (step_lone_go ?_)⟩;have:({b.atR a (.inRegion ops (i::rest)::k) with defers:=d::a.defers}:Frame).finish undef=
   b.atR ({a with defers:=d::a.defers}.put o.dst undef) (.inRegion ops rest::k):=by
   have:=Frame.finish_atR b {a with defers:=d::a.defers} ops i rest k undef;rw [ho] at this;exact this
  rw [hg];simp only [stepG.apply,Sem.runT_eq,hr,GStep.bare_after];exact congrArg (fun fr=>GStep.go {frame:=fr,callers:=cs,status:= .running,dying:=none} w') this
 ·rename_i f args w' hr;obtain ⟨e,w'',fr,hR,hsteps,_,hleave⟩:=hh (b.atR a (.inRegion ops (i::rest)::k)::cs);have henter:step P (lone (b.atR a (.inRegion ops (i::rest)::k)) cs w)=
   .next (lone (Frame.enter P f args .normal) (b.atR a (.inRegion ops (i::rest)::k)::cs) w'):=
   step_lone_go (by rw [hg];simp [stepG.apply,hr,Frame.atR])
  cases e with
  |returned v=>
   refine ⟨_,_,hR, .head henter (hsteps.trans (.one ?_))⟩;rw [<-hfin];exact step_leave_returned hleave
  |panicked chain=>exact hR.elim |outgrown=>obtain ⟨_,_,hq⟩:=hR;exact hq.elim
 ·rename_i row args w' hr;obtain ⟨v,w'',hR,hsteps⟩:=hh (b.atR a (.inRegion ops (i::rest)::k)) cs;have henter:step P (lone (b.atR a (.inRegion ops (i::rest)::k)) cs w)=
   .next (lone (Frame.ofRow P row args .normal) (b.atR a (.inRegion ops (i::rest)::k)::cs) w'):=
   step_lone_go (by rw [hg];simp [stepG.apply,hr,Frame.atR])
  refine ⟨_,_,hR, .head henter ?_⟩;rw [<-hfin];exact hsteps
 ·exact hh.elim
 ·exact hh.elim
theorem M9{all:Array Oper}{o:Oper}{l pre:List Oper}(hp:all.toList=pre++o::l):
 It.item (.ops all (o::l))= .inRegion all (pre.length::ag6 (pre.length+1) l.length)/\
 It.item (.ops all l)= .inRegion all (ag6 (pre.length+1) l.length)/\all[pre.length]? =some o:=by
 have hs:all.size=pre.length+(l.length+1):=by have:=congrArg List.length hp;simpa using this
 refine ⟨?_,?_,?_⟩
 ·simp only [It.item,ab1,as4];rw [show all.size-(l.length+1)=pre.length by omega]
 ·simp only [It.item];rw [show all.size-l.length=pre.length+1 by omega]
 ·rw [<-ac2,hp];simp
def c9(all:Array Oper)(o:Oper)(a:Act):Bool:=Region.wanted o (yielded all a.tmps)
theorem V.op{all:Array Oper}{o:Oper}{l:List Oper}
 (hv: ∀a w,Ag C.n C.D e a->St C.w0 h L w->
   (c9 all o a=true->o.wp C.P a w (fun a' w'=> ∃e' h' L',Ag C.n C.D e' a'/\St C.w0 h' L' w'/\V C (.ops all l::k) e' h' L') (fun _ _ _=>False))/\
   (c9 all o a=false-> ∃e' h' L',Ag C.n C.D e' (a.put o.dst undef)/\St C.w0 h' L' w/\V C (.ops all l::k) e' h' L')):
 V C (.ops all (o::l)::k) e h L:=by
 intro ho a w b cs g s hf hk;obtain ⟨⟨pre,hp⟩,hnd⟩:(∃pre,all.toList=pre++o::l)/\j9 all.toList=true:=ho _ (aa4 ..);obtain ⟨i1,i2,i3⟩:=M9 hp;have hok:fY (.ops all l::k):=tC (pre:=pre++[o]) (by simp [hp]) hnd (bD ho);obtain ⟨v1,v2⟩:=hv a w g s
 by_cases hw:c9 all o a=true
 ·obtain ⟨a',w',⟨e',h',L',g',s',hv'⟩,st⟩:=op_run (P:=C.P) (b:=b) (k:=items k) (cs:=cs) (rest:=ag6 (pre.length+1) l.length) i3 (vC hnd (by rw [ac2];exact i3)) hw (v1 hw);obtain ⟨v,w'',fr,h'',L'',r,s'',st'',e1,e2⟩:=hv' hok a' w' b cs g' s' hf hk;refine ⟨v,w'',fr,h'',L'',r,s'',?_,e1,e2⟩;have x1:items (.ops all (o::l)::k)= .inRegion all (pre.length::ag6 (pre.length+1) l.length)::items k:=by simp [items,i1]
  have x2:items (.ops all l::k)= .inRegion all (ag6 (pre.length+1) l.length)::items k:=by simp [items,i2]
  rw [x1];rw [x2] at st'';exact st.trans st''
 ·have hw:c9 all o a=false:=by simpa using hw
  obtain ⟨e',h',L',g',s',hv'⟩:=v2 hw;obtain ⟨v,w'',fr,h'',L'',r,s'',st'',e1,e2⟩:=hv' hok (a.put o.dst undef) w b cs g' s' hf hk;refine ⟨v,w'',fr,h'',L'',r,s'',?_,e1,e2⟩;have x1:items (.ops all (o::l)::k)= .inRegion all (pre.length::ag6 (pre.length+1) l.length)::items k:=by simp [items,i1]
  have x2:items (.ops all l::k)= .inRegion all (ag6 (pre.length+1) l.length)::items k:=by simp [items,i2]
  rw [x1];rw [x2] at st'';have hs:=stepR_op_skip (P:=C.P) (b:=b) (a:=a) (k:=items k) (cs:=cs) (w:=w) (ops:=all) (i:=pre.length) (rest:=ag6 (pre.length+1) l.length) (by simp only [i3,ag0,ap8];exact hw);rw [i3] at hs;exact .head hs st''
theorem V.eo{all:Array Oper}(hv:V C k ⟨e.us,[]⟩ h L):V C (.ops all []::k) e h L:=by intro ho a w b cs g s hf hk;obtain ⟨v,w'',fr,h'',L'',r,s'',st'',e1,e2⟩:=hv (bD ho) a w b cs g.clear s hf hk;exact ⟨v,w'',fr,h'',L'',r,s'', .head stepR_region_end st'',e1,e2⟩
theorem qE{all:Array Oper}{o:Oper}{m:Option (Nat×Bool)}{ks:List (Nat×Bool)}{a:Act}{n:Nat}{D:List Nat}(g:Ag n D e a)(hg:iH e all o.guard=some (m,ks)):
 (m=none/\c9 all o a=true/\dK a ks)\/
 (∃t b,m=some (t,b)/\(c9 all o a=true↔a.tmps[t]? =some (.bool b))/\(c9 all o a=true->dK a ks)):=by
 cases hgu:o.guard with
 |none=>
  rw [hgu] at hg;injection hg with hg;injection hg with h1 h2;subst h1;subst h2;exact .inl ⟨rfl,by simp [c9,Region.wanted,hgu],nD a⟩
 |some x=>
  obtain ⟨j,b⟩:=x;rw [hgu] at hg;simp only [iH] at hg;split at hg
  ·rename_i oj hj;split at hg
   ·rename_i t ht;injection hg with hg;injection hg with h1 h2;subst h1;subst h2;rw [cC] at hj;have hj':all[j]? =some oj:=by rw [<-ac2];exact hj
    have hiff:c9 all o a=true↔a.tmps[t]? =some (.bool b):=by
     simp only [c9,Region.wanted,hgu,yielded,hj',Option.bind_some,ht];cases hx:a.tmps[t]? with
     |none=>simp |some v=>cases v<;>simp
    refine .inr ⟨t,b,rfl,hiff,fun hon=>?_⟩;exact g.chain 6 (t,b) (hiff.1 hon)
   ·cases hg
  ·cases hg
theorem V.value{all:Array Oper}{o:Oper}{l:List Oper}{m:Option (Nat×Bool)}{ks:List (Nat×Bool)}{v:Value}{e':Env}(hg:iH e all o.guard=some (m,ks))
 (hr: ∀a w,Ag C.n C.D e a->St C.w0 h L w->dK a ks->(execOp a.eval o).run C.P w= .ok (.value v) w) (hp:e.put C.n m o.dst v=some e') (hv:V C (.ops all l::k) e' h L):
 V C (.ops all (o::l)::k) e h L:=by
 refine V.op fun a w g s=>?_;rcases qE g hg with ⟨rfl,hon,hk⟩|⟨t,b,rfl,hiff,hk⟩
 ·refine ⟨fun _=>?_,fun hx=>by rw [hon] at hx;cases hx⟩;unfold Oper.wp;rw [hr a w g s hk];exact ⟨e',h,L,g.put hp,s,hv⟩
 ·refine ⟨fun hon=>?_,fun hoff=>?_⟩
  ·unfold Oper.wp;rw [hr a w g s (hk hon)];exact ⟨e',h,L,g.iy hp (fun _=>rfl) (fun hx=>(hx (hiff.1 hon)).elim),s,hv⟩
  ·refine ⟨e',h,L,g.iy hp (fun hx=>?_) (fun _=>rfl),s,hv⟩;have:=hiff.2 hx;rw [hoff] at this;cases this
def fX(e:Env)(all:Array Oper):Option (Nat×Bool)->Option (List (Nat×Bool))
 |none=>some [] |some (j,w)=>match bU all.toList j with
  |some o=>match o.dst with
   |some t=>match look e.us t with
    |some (.bool b)=>match b,w with
     |true,true=>some [(t,w)] |false,false=>some [(t,w)]
     |_,_=>none
    |_=>none
   |none=>none
  |none=>none
def gno(e:Env)(all:Array Oper):Option (Nat×Bool)->Option Bool
 |none=>none |some (j,w)=>match bU all.toList j with
  |some o=>match o.dst with
   |some t=>match look e.us t with
    |some (.bool b)=>match b,w with
     |true,false=>some true |false,true=>some true
     |_,_=>none
    |_=>none
   |none=>none
  |none=>none
theorem f6{all:Array Oper}{o:Oper}{ks:List (Nat×Bool)}{a:Act}{n:Nat}{D:List Nat}(g:Ag n D e a)(hg:fX e all o.guard=some ks):c9 all o a=true/\dK a ks:=by
 cases hgu:o.guard with
 |none=>
  rw [hgu] at hg;injection hg with hg;subst hg;exact ⟨by simp [c9,Region.wanted,hgu],nD a⟩
 |some x=>
  obtain ⟨j,w⟩:=x;rw [hgu] at hg;simp only [fX] at hg;split at hg
  ·rename_i oj hj;rw [cC] at hj;have hj':all[j]? =some oj:=by rw [<-ac2];exact hj
   split at hg
   ·rename_i t ht;split at hg
    ·rename_i b hl;have hb:=g.us _ _ hl;split at hg
     all_goals first
      |(injection hg with hg
        subst hg;refine And.intro ?_ ?_
        ·simp [c9,Region.wanted,hgu,yielded,hj',ht,hb]
        ·intro x y hm;simp only [aa3,Prod.mk.injEq] at hm;obtain ⟨rfl,rfl⟩:=hm;exact hb)
      |cases hg
    ·cases hg
   ·cases hg
  ·cases hg
theorem ME{all:Array Oper}{o:Oper}{x:Bool}{a:Act}{n:Nat}{D:List Nat}(g:Ag n D e a)(hg:gno e all o.guard=some x):c9 all o a=false:=by
 cases hgu:o.guard with
 |none=>rw [hgu] at hg;cases hg |some x=>
  obtain ⟨j,w⟩:=x;rw [hgu] at hg;simp only [gno] at hg;split at hg
  ·rename_i oj hj;rw [cC] at hj;have hj':all[j]? =some oj:=by rw [<-ac2];exact hj
   split at hg
   ·rename_i t ht;split at hg
    ·rename_i b hl;have hb:=g.us _ _ hl;split at hg
     all_goals first|(simp [c9,Region.wanted,hgu,yielded,hj',ht,hb];done)|cases hg
    ·cases hg
   ·cases hg
  ·cases hg
theorem V.skip{all:Array Oper}{o:Oper}{l:List Oper}{x:Bool}{e':Env}(hg:gno e all o.guard=some x)(hp:e.put C.n none o.dst undef=some e')(hv:V C (.ops all l::k) e' h L):
 V C (.ops all (o::l)::k) e h L:=
 V.op fun a w g s=>⟨fun hon=>(by rw [ME g hg] at hon;cases hon),fun _=>⟨e',h,L,g.put hp,s,hv⟩⟩
theorem V.split(t:Nat){g:Bool}(hl:look e.us t=some (.bool g))(ht:g=true->V C k ⟨(t, .bool true)::e.us,e.cs⟩ h L)(hf:g=false->V C k ⟨(t, .bool false)::e.us,e.cs⟩ h L):V C k e h L:=by
 intro ho a w b cs ag s h1 h2;have hb:=ag.us _ _ hl;cases g
 ·refine hf T ho a w b cs ⟨ag.size,ag.defers,fun u v hu=>?_,ag.cs⟩ s h1 h2;simp only [look] at hu;split at hu
  ·rename_i hk;have hk:=ab2 hk;subst hk;injection hu with hu;subst hu;exact hb
  ·exact ag.us _ _ hu
 ·refine ht T ho a w b cs ⟨ag.size,ag.defers,fun u v hu=>?_,ag.cs⟩ s h1 h2;simp only [look] at hu;split at hu
  ·rename_i hk;have hk:=ab2 hk;subst hk;injection hu with hu;subst hu;exact hb
  ·exact ag.us _ _ hu
end Go.Tp
namespace Go.Tp
open Go Go.RowKit
section
variable{P:Program}{w:World}{t:TypeId}{ti:TI}
theorem run_underlying(h:TI.Ok P t ti):(underlying t).run P w= .ok ti.d w:=by simp [underlying,h.und]
theorem run_typeInfo{x:TypeInfo}(h:P.info? t=some x):(typeInfo t).run P w= .ok x w:=by simp [typeInfo,h]
theorem run_sizeOf(h:TI.Ok P t ti):(sizeOf t).run P w= .ok ti.size w:=by obtain ⟨x,z,h1,h2,h3,h4,h5⟩:=h.info;simp [sizeOf,run_typeInfo h1,h2]
theorem zJ(h:TI.Ok P t ti):(isAgg t).run P w= .ok ti.agg w:=by rw [<-h.agg];simp only [isAgg,aa9,run_underlying h,aa5];cases ti.d<;>rfl
theorem lP(h:TI.Ok P t ti): ∃z,(zeroValue t).run P w= .ok z w/\z.cells.toList=ti.zero:=by obtain ⟨x,z,h1,h2,h3,h4,h5⟩:=h.info;exact ⟨z,by simp [zeroValue,run_typeInfo h1,h4],h5⟩
end
def oW:List Value->Nat->Nat->Option (List Value)
 |_,0,0=>some [] | [],_,_=>none
 |c::cs,0,n+1=>match oW cs 0 n with
  |some r=>some (c::r) |none=>none
 |_::cs,k+1,n=>oW cs k n
theorem lD: ∀(cs:List Value) (k n:Nat) {r:List Value},oW cs k n=some r->r.length=n/\k+n<=cs.length/\ ∀i,i<n->r[i]? =cs[k+i]?
 | [],0,0,r,h=>by simp [oW] at h;subst h;exact ⟨rfl,aa6 _,fun i hi=>by omega⟩ |_::_,0,0,r,h=>by simp [oW] at h;subst h;exact ⟨rfl,by simp,fun i hi=>by omega⟩
 | [],k+1,0,r,h=>by simp [oW] at h | [],0,n+1,r,h=>by simp [oW] at h
 | [],k+1,n+1,r,h=>by simp [oW] at h |c::cs,0,n+1,r,h=>by
  simp only [oW] at h;split at h
  ·rename_i r' hr;injection h with h;subst h;obtain ⟨h1,h2,h3⟩:=lD cs 0 n hr;refine ⟨by simp [h1],by simp;omega,fun i hi=>?_⟩;cases i with
   |zero=>simp |succ i=>
    have:=h3 i (by omega);simp only [ag9] at this⊢;simpa using this
  ·cases h
 |c::cs,k+1,n,r,h=>by
  have h':oW cs k n=some r:=by cases n<;>simpa [oW] using h
  obtain ⟨h1,h2,h3⟩:=lD cs k n h';refine ⟨h1,by simp;omega,fun i hi=>?_⟩;have:=h3 i hi;rw [this,show k+1+i=(k+i)+1 by omega];simp
def cS:List Value->Nat->List Value->Option (List Value)
 |cs,0,[]=>some cs |c::cs,0,v::vs=>match cS cs 0 vs with
  |some r=>some (v::r) |none=>none
 |c::cs,k+1,vs=>match cS cs k vs with
  |some r=>some (c::r) |none=>none
 | [],_,_=>none
theorem dO: ∀(cs:List Value) (k:Nat) (vs:List Value) {r:List Value},cS cs k vs=some r->k+vs.length<=cs.length/\r.length=cs.length/\ ∀i,r[i]? =if k<=i/\i<k+vs.length then vs[i-k]? else cs[i]?
 |cs,0,[],r,h=>by
  have h:r=cs:=by cases cs<;>(simp [cS] at h;first|exact h|exact h.symm)
  subst h;refine ⟨by simp,rfl,fun i=>?_⟩;rw [iF (by simp)]
 | [],0,v::vs,r,h=>by simp [cS] at h | [],k+1,vs,r,h=>by simp [cS] at h
 |c::cs,0,v::vs,r,h=>by
  simp only [cS] at h;split at h
  ·rename_i r' hr;injection h with h;subst h;obtain ⟨h1,h2,h3⟩:=dO cs 0 vs hr;refine ⟨by simp at*;omega,by simp [h2],fun i=>?_⟩;cases i with
   |zero=>simp |succ i=>
    have:=h3 i;simp only [af8,this,ab1]
    by_cases hi:i<vs.length
    ·rw [iT (by omega),iT (by omega)];simp
    ·rw [iF (by omega),iF (by omega)]
  ·cases h
 |c::cs,k+1,vs,r,h=>by
  simp only [cS] at h;split at h
  ·rename_i r' hr;injection h with h;subst h;obtain ⟨h1,h2,h3⟩:=dO cs k vs hr;refine ⟨by simp;omega,by simp [h2],fun i=>?_⟩;cases i with
   |zero=>simp |succ i=>
    have:=h3 i;simp only [af8,this]
    by_cases hi:k<=i/\i<k+vs.length
    ·rw [iT hi,iT (by omega)];congr 1;omega
    ·rw [iF hi,iF (by omega)]
  ·cases h
def ikEq:IntKind->IntKind->Bool
 | .i8, .i8=>true | .i16, .i16=>true
 | .i32, .i32=>true | .i64, .i64=>true
 | .u8, .u8=>true | .u16, .u16=>true
 | .u32, .u32=>true | .u64, .u64=>true
 |_,_=>false
theorem SP{a b:IntKind}(h:ikEq a b=true):a=b:=by cases a<;>cases b<;>first|rfl|cases h
def bitsOf(op:BinOp)(k:IntKind)(x y:Int):Int:=
 let a:=BitVec.ofInt k.bits x
 let b:=BitVec.ofInt k.bits y
 match op with
 | .and=>k.wrap (a&&&b).toNat | .or=>k.wrap (a|||b).toNat
 | .xor=>k.wrap (a^^^b).toNat |_=>k.wrap (a&&& ~~~b).toNat
def ZM(op:BinOp)(k:IntKind)(a b:Int):Option Value:=
 match op with
 | .add=>some (.int k (k.wrap (a+b))) | .sub=>some (.int k (k.wrap (a-b)))
 | .mul=>some (.int k (k.wrap (a*b))) | .and=>some (.int k (bitsOf .and k a b))
 | .or=>some (.int k (bitsOf .or k a b)) | .xor=>some (.int k (bitsOf .xor k a b))
 | .andNot=>some (.int k (bitsOf .andNot k a b)) | .eql=>some (.bool (a==b))
 | .neq=>some (.bool (a !=b)) | .lss=>some (.bool (decide (a<b)))
 | .leq=>some (.bool (decide (a<=b))) | .gtr=>some (.bool (decide (b<a)))
 | .geq=>some (.bool (decide (b<=a))) |_=>none
def strop(op:BinOp)(a b:ByteArray):Option Value:=
 match op with
 | .eql=>some (.bool (a.toList==b.toList)) | .neq=>some (.bool (!(a.toList==b.toList)))
 |_=>none
def XP(S:TT)(op:BinOp)(t:TypeId):Value->Value->Option Value
 | .int k a, .int k' b=>match ikEq k k' with
   |true=>ZM op k a b |false=>none
 | .bool a, .bool b=>match S.get t with
   |some ti=>match ti.d with
    | .bool=>match op with
      | .eql=>some (.bool (a==b)) | .neq=>some (.bool (!(a==b)))
      |_=>none
    |_=>none
   |none=>none
 | .string a, .string b=>strop op a b | .func _ _ _, .nilFunc=>match S.get t with
   |some ti=>match ti.d with
    | .func _ _ _=>match op with
      | .eql=>some (.bool false) | .neq=>some (.bool true)
      |_=>none
    |_=>none
   |none=>none
 | .nilFunc, .nilFunc=>match S.get t with
   |some ti=>match ti.d with
    | .func _ _ _=>match op with
      | .eql=>some (.bool true) | .neq=>some (.bool false)
      |_=>none
    |_=>none
   |none=>none
 |_,_=>none
def unv(op:UnOp):Value->Option Value
 | .bool b=>match op with
   | .not=>some (.bool (!b)) |_=>none
 | .int k n=>match op with
   | .neg=>some (.int k (k.wrap (0-n))) | .xor=>some (.int k (bitsOf .xor k (if k.signed then-1 else k.max) n))
   |_=>none
 |_=>none
def SA(S:TT)(s d:TypeId):Value->Option Value
 | .int _ n=>match S.get s with
   |some _=>match S.get d with
    |some di=>match di.d with
     | .int k=>some (.int k (k.wrap n)) |_=>none
    |none=>none
   |none=>none
 |_=>none
def tB(S:TT)(t:TypeId)(i:Nat):Option (Nat×TI):=
 match S.get t with
 |some ti=>match ti.d with
  | .struct fs=>match bU fs.toList i with
    |some ⟨_,ty,off,_,_,_,_⟩=>match S.get ty with
     |some fi=>some (off,fi) |none=>none
    |none=>none
  |_=>none
 |none=>none
def xE(fi:TI)(cs:List Value)(off:Nat):Option Value:=
 match fi.agg with
 |true=>match oW cs off fi.size with
  |some r=>some (.agg ⟨r⟩) |none=>none
 |false=>bU cs off
def II(S:TT)(t:TypeId)(i:Nat):Value->Option Value
 | .agg cs=>match tB S t i with
   |some (off,fi)=>xE fi cs.toList off |none=>none
 |_=>none
def nB(S:TT)(t:TypeId)(i:Nat):Value->Option Value
 | .pointer (some ⟨b,o,none⟩)=>match tB S t i with
   |some (off,fi)=>match Nat.beq fi.size 0 with
    |true=>none |false=>some (.pointer (some ⟨b,o+off,none⟩))
   |none=>none
 |_=>none
def aI(v:Value):List Value:=match v with
 | .agg cs=>cs.toList |v=>[v]
theorem kT(v:Value):aI v=v.cells.toList:=by cases v<;>rfl
def tZ(place:Nat->Option (Nat×Nat))(ρ:Operand->Option Value):List (Nat×Operand)->List Value->Option (List Value)
 | [],cs=>some cs |(i,x)::r,cs=>match ρ x with
  |some v=>match place i with
   |some (off,size)=>match Nat.beq (aI v).length size with
    |true=>match cS cs off (aI v) with
     |some cs'=>tZ place ρ r cs' |none=>none
    |false=>none
   |none=>none
  |none=>none
def l8(S:TT)(fs:List Field)(i:Nat):Option (Nat×Nat):=
 match bU fs i with
 |some f=>match S.get f.type with
  |some fi=>some (f.offset,fi.size) |none=>none
 |none=>none
def rT(S:TT):List Field->Bool
 | []=>true |f::r=>match S.get f.type with
  |some _=>rT S r |none=>false
def CD(S:TT)(ρ:Operand->Option Value)(t:TypeId)(parts:List (Nat×Operand)):Option Value:=
 match S.get t with
 |some ti=>match ti.d with
  | .struct fs=>match rT S fs.toList with
    |true=>match tZ (l8 S fs.toList) ρ parts ti.zero with
     |some r=>some (.agg ⟨r⟩) |none=>none
    |false=>none
  | .array _ el=>match S.get el with
    |some ei=>match tZ (fun i=>some (i*ei.size,ei.size)) ρ parts ti.zero with
     |some r=>some (.agg ⟨r⟩) |none=>none
    |none=>none
  |_=>none
 |none=>none
def PG(ρ:Operand->Option Value):List Operand->Option (List Value)
 | []=>some [] |x::r=>match ρ x with
  |some v=>match PG ρ r with
   |some vs=>some (v::vs) |none=>none
  |none=>none
def ZX(S:TT)(t:TypeId):Value->Option Value
 | .slice _ n _=>match S.get t with
   |some ti=>match ti.d with
    | .slice _=>some (.int .i64 (n:Int)) |_=>none
   |none=>none
 | .string s=>match S.get t with
   |some ti=>match ti.d with
    | .string=>some (.int .i64 (s.size:Int)) |_=>none
   |none=>none
 |_=>none
def o9(S:TT)(b:Builtin)(ts:List TypeId)(vs:List Value):Option Value:=
 match b with
 | .len=>match ts with
   | [t]=>match vs with
     | [v]=>ZX S t v |_=>none
   |_=>none
 | .max=>match vs with
   | [.int k x, .int _ y]=>some (.int k (if y>x then y else x)) |_=>none
 | .min=>match vs with
   | [.int k x, .int _ y]=>some (.int k (if y<x then y else x)) |_=>none
 |_=>none
def pv(S:TT)(ρ:Operand->Option Value):Op->Option Value
 | .move x=>ρ x | .assign x=>ρ x
 | .pick c a b=>match ρ c with
   |some (.bool g)=>match ρ a with
    |some (.bool x)=>match ρ b with
     |some (.bool y)=>some (.bool (bif g then x else y)) |_=>none
    |_=>none
   |_=>none
 | .binOp op t x y _=>match ρ x with
   |some a=>match ρ y with
    |some b=>XP S op t a b |none=>none
   |none=>none
 | .unOp op _ x=>match ρ x with
   |some a=>unv op a |none=>none
 | .convert s d x=>match ρ x with
   |some a=>SA S s d a |none=>none
 | .field t x i=>match ρ x with
   |some a=>II S t i a |none=>none
 | .fieldAddr t x i=>match ρ x with
   |some a=>nB S t i a |none=>none
 | .extract x i=>match ρ x with
   |some (.tuple vs)=>bU vs.toList i |_=>none
 | .build t parts=>CD S ρ t parts.toList | .makeFunc fn first cap=>match PG ρ first.toList with
   |some a=>match PG ρ cap.toList with
    |some b=>some (.func fn ⟨a⟩ ⟨b⟩) |none=>none
   |none=>none
 | .nilCheck x=>match ρ x with
   |some (.pointer (some a))=>some (.pointer (some a)) |some (.func (.func f) a b)=>some (.func (.func f) a b)
   |_=>none
 | .call c=>match c.callee with
   | .builtin b=>match PG ρ c.args.toList with
     |some vs=>o9 S b c.argTypes.toList vs |none=>none
   |_=>none
 |_=>none
section sound
variable{P:Program}{S:TT}{w:World}{ρ:Operand->Option Value}{σ:Operand->Value}
theorem V9{op:BinOp}{k:IntKind}{a b:Int}{v:Value}{t:TypeId}(h:ZM op k a b=some v):(binOp op t (.int k a) (.int k b)).run P w= .ok v w:=by cases op<;>simp only [ZM,Option.some.injEq,reduceCtorEq] at h<;>subst h<;>simp [binOp,Op.intArith,Op.intBits,Op.intCmp,bitsOf]
def a0c:Value->Bool
 | .agg _=>false | .nilIface=>false
 |_=>true
theorem fN{op:BinOp}{t:TypeId}{x y:Operand}{a b:Value}(h:a0c a=true):(eqGuard op t x y a b).run P w= .ok () w:=by cases a<;>first|(cases op<;>rfl)|exact absurd h (by simp [a0c])
theorem CR{t:TypeId}{x y:Value}{r:Bool}(h: ∀d,(Op.equalIn (d+1) t x y).run P w= .ok r w):(Op.equal t x y).run P w= .ok r w:=h 9999
theorem run_binv(hS:S.Ok P){op:BinOp}{t:TypeId}{x y:Operand}{a b v:Value}(h:XP S op t a b=some v):
 (do eqGuard op t x y a b;binOp op t a b:Sem Value).run P w= .ok v w:=by
 unfold XP at h;split at h
 ·rename_i k a k' b;rw [aa9,fN T,aa5];split at h
  ·rename_i hk;have hk:=SP hk;subst hk;exact V9 h
  ·cases h
 ·rename_i a b;rw [aa9,fN T,aa5];split at h
  ·rename_i ti hg;have ok:=TT.Ok.get hS hg;split at h
   ·rename_i hd;have hu:(underlying t).run P w= .ok .bool w:=by rw [run_underlying ok,hd]
    have he:(Op.equal t (.bool a) (.bool b)).run P w= .ok (a==b) w:=by refine CR fun d=>?_;simp only [Op.equalIn,aa9,hu,aa5,ab5]
    split at h
    ·injection h with h;subst h;simp [binOp,he]
    ·injection h with h;subst h;simp [binOp,he]
    ·cases h
   ·cases h
  ·cases h
 ·rename_i a b;rw [aa9,fN T,aa5];unfold strop at h;split at h
  ·injection h with h;subst h;simp [binOp,Op.stringOp]
  ·injection h with h;subst h;simp [binOp,Op.stringOp]
  ·cases h
 ·rename_i f1 f2 f3;rw [aa9,fN T,aa5];split at h
  ·rename_i ti hg;have ok:=TT.Ok.get hS hg;split at h
   ·rename_i p1 p2 p3 hd;have hu:(underlying t).run P w= .ok (.func p1 p2 p3) w:=by rw [run_underlying ok,hd]
    have he:(Op.equal t (.func f1 f2 f3) .nilFunc).run P w= .ok false w:=by refine CR fun d=>?_;simp only [Op.equalIn,aa9,hu,aa5,ab5]
    split at h
    ·injection h with h;subst h;simp [binOp,he]
    ·injection h with h;subst h;simp [binOp,he]
    ·cases h
   ·cases h
  ·cases h
 ·rw [aa9,fN T,aa5];split at h
  ·rename_i ti hg;have ok:=TT.Ok.get hS hg;split at h
   ·rename_i p1 p2 p3 hd;have hu:(underlying t).run P w= .ok (.func p1 p2 p3) w:=by rw [run_underlying ok,hd]
    have he:(Op.equal t .nilFunc .nilFunc).run P w= .ok true w:=by refine CR fun d=>?_;simp only [Op.equalIn,aa9,hu,aa5,ab5]
    split at h
    ·injection h with h;subst h;simp [binOp,he]
    ·injection h with h;subst h;simp [binOp,he]
    ·cases h
   ·cases h
  ·cases h
 ·cases h
theorem run_unv{op:UnOp}{a v:Value}(h:unv op a=some v):(Op.unary op a).run P w= .ok v w:=by
 unfold unv at h;split at h
 ·split at h
  ·injection h with h;subst h;simp [Op.unary]
  ·cases h
 ·split at h
  ·injection h with h;subst h;simp [Op.unary,Op.intArith]
  ·injection h with h;subst h;simp [Op.unary,Op.intBits,bitsOf]
  ·cases h
 ·cases h
theorem V8(hS:S.Ok P){s d:TypeId}{a v:Value}(h:SA S s d a=some v):(convert s d a).run P w= .ok v w:=by
 unfold SA at h;split at h
 ·split at h
  ·rename_i n si hs;split at h
   ·rename_i di hd;split at h
    ·rename_i k hk;injection h with h;subst h;have o1:=TT.Ok.get hS hs;have o2:=TT.Ok.get hS hd;simp [convert,run_underlying o1,run_underlying o2,hk,Conv.intToInt]
    ·cases h
   ·cases h
  ·cases h
 ·cases h
theorem NN{t:TypeId}{ti:TI}(ok:TI.Ok P t ti){cs:List Value}{off:Nat}{v:Value}(h:xE ti cs off=some v):(part t ⟨cs⟩ off).run P w= .ok v w:=by
 simp only [xE] at h;simp only [part,aa9,zJ ok,aa5];split at h
 ·rename_i hb;split at h
  ·rename_i r hr;injection h with h;subst h;obtain ⟨h1,h2,h3⟩:=lD cs off ti.size hr;rw [hb];simp only [aa9,run_sizeOf ok,aa5,if_true,ab5];congr 2;have:(Array.extract ⟨cs⟩ off (off+ti.size):Array Value)=⟨r⟩:=by
    apply ag4;rw [Array.toList_extract];apply af2;intro i
    by_cases hi:i<ti.size
    ·rw [h3 i hi];simp [List.extract_eq_take_drop,hi]
    ·have:r[i]? =none:=ab4 (by omega);rw [this];simp only [List.extract_eq_take_drop];rw [ab4];simp;omega
   rw [this]
  ·cases h
 ·rename_i hb;rw [hb];rw [cC] at h;simp [h]
theorem wK(hS:S.Ok P){t:TypeId}{i off:Nat}{fi:TI}(h:tB S t i=some (off,fi)):
 ∃ti fs f,TI.Ok P t ti/\ti.d= .struct fs/\fs[i]? =some f/\f.offset=off/\TI.Ok P f.type fi:=by
 unfold tB at h;split at h
 ·rename_i ti hg;split at h
  ·rename_i fs hd;split at h
   ·rename_i n1 ty of1 n2 n3 n4 n5 hf;split at h
    ·rename_i fi' hfi;injection h with h;injection h with h1 h2;subst h1;subst h2;refine ⟨ti,fs,⟨n1,ty,of1,n2,n3,n4,n5⟩,TT.Ok.get hS hg,hd,?_,rfl,TT.Ok.get hS hfi⟩;rw [cC] at hf;rw [<-ac2];exact hf
    ·cases h
   ·cases h
  ·cases h
 ·cases h
theorem QV(hS:S.Ok P){t:TypeId}{i:Nat}{a v:Value}(h:II S t i a=some v):(Instr.field t a i).run P w= .ok v w:=by
 unfold II at h;split at h
 ·rename_i cs;split at h
  ·rename_i off fi hf;obtain ⟨ti,fs,f,o1,hd,hfs,hoff,o2⟩:=wK hS hf;simp only [Instr.field,aa9,run_underlying o1,hd,aa5,hfs,asAgg,ab5];subst hoff;exact NN o2 h
  ·cases h
 ·cases h
theorem eA(b o n:Nat):(⟨b,o,none⟩:Addr).add n=⟨b,o+n,none⟩:=by
 unfold Addr.add;split
 ·subst n;rfl
 ·rfl
theorem EA(hS:S.Ok P){t:TypeId}{i:Nat}{a v:Value}(h:nB S t i a=some v):(Instr.fieldAt t a i).run P w= .ok v w:=by
 unfold nB at h;split at h
 ·rename_i b o;split at h
  ·rename_i off fi hf;obtain ⟨ti,fs,f,o1,hd,hfs,hoff,o2⟩:=wK hS hf;split at h
   ·cases h
   ·rename_i hz;injection h with h;subst h;have hz:=dY hz;simp only [Instr.fieldAt,aa9,run_underlying o1,hd,aa5,hfs,Instr.sureAddr,ab5,fieldPlace,run_sizeOf o2,iF hz,eA,hoff]
  ·cases h
 ·cases h
theorem lU(hρ: ∀x v,ρ x=some v->σ x=v): ∀{l:List Operand} {vs:List Value},PG ρ l=some vs->l.map σ=vs
 | [],vs,h=>by simp only [PG,Option.some.injEq] at h;subst h;rfl |x::r,vs,h=>by
  simp only [PG] at h;split at h
  ·rename_i v hv;split at h
   ·rename_i vs' hvs;injection h with h;subst h;simp [hρ _ _ hv,lU hρ hvs]
   ·cases h
  ·cases h
theorem F6(off:Nat): ∀(vs:List Value) (j:Nat) (cs:Array Value) {r:List Value},cS cs.toList (off+j) vs=some r->
 (vs.zipIdx j).foldl (fun (cs:Array Value) (x:Value×Nat)=>cs.setIfInBounds (off+x.2) x.1) cs=⟨r⟩
 | [],j,cs,r,h=>by obtain ⟨_,h2,h3⟩:=dO _ _ _ h;simp only [List.zipIdx_nil,List.foldl_nil];apply ag4;apply af2;intro i;rw [h3 i,iF (by simp<;>omega)]
 |v::vs,j,cs,r,h=>by
  obtain ⟨h1,h2,h3⟩:=dO _ _ _ h;simp only [List.zipIdx_cons,ah1];have:cS (cs.setIfInBounds (off+j) v).toList (off+(j+1)) vs=some r:=by
   have ex: ∃r',cS (cs.setIfInBounds (off+j) v).toList (off+(j+1)) vs=some r':=by
    have key: ∀(l:List Value) (k:Nat) (us:List Value),k+us.length<=l.length-> ∃r',cS l k us=some r':=by
     intro l
     induction l with
     |nil=>intro k us hk;simp at hk;obtain ⟨rfl,rfl⟩:=hk;exact ⟨[],by simp [cS]⟩
     |cons c l ih=>
      intro k us hk;cases k with
      |zero=>
       cases us with
       |nil=>exact ⟨c::l,by simp [cS]⟩ |cons u us=>
        obtain ⟨r',hr'⟩:=ih 0 us (by simp at hk;omega);exact ⟨u::r',by simp [cS,hr']⟩
      |succ k=>
       obtain ⟨r',hr'⟩:=ih k us (by simp at hk;omega);exact ⟨c::r',by simp [cS,hr']⟩
    exact key _ _ _ (by simp at h1⊢;omega)
   obtain ⟨r',hr'⟩:=ex;obtain ⟨g1,g2,g3⟩:=dO _ _ _ hr';rw [hr'];congr 1;apply af2;intro i;rw [g3 i,h3 i];simp only [ab1]
   by_cases hi:i=off+j
   ·subst hi;rw [iF (by omega),iT (by omega)];have hsz:cs.toList.length=cs.size:=by simp
    simp only [ab1] at h1;rw [Array.toList_setIfInBounds,ak4 (by omega),ah9]
    rfl
   ·by_cases hi2:off+(j+1)<=i/\i<off+(j+1)+vs.length
    ·rw [iT hi2,iT (by omega)];rw [show i-(off+j)=(i-(off+(j+1)))+1 by omega];simp
    ·rw [iF hi2,iF (by omega)];simp [Array.toList_setIfInBounds,an5 (Ne.symm hi)]
  exact F6 off vs (j+1) _ this
theorem xK(hρ: ∀x v,ρ x=some v->σ x=v){place place':Nat->Option (Nat×Nat)}(hp: ∀i y,place i=some y->place' i=some y):
 ∀{parts:List (Nat×Operand)} {cs r:List Value},tZ place ρ parts cs=some r->Instr.fill place' ⟨cs⟩ (parts.map fun (i,x)=>(i,σ x))=some ⟨r⟩
 | [],cs,r,h=>by injection h with h;subst h;rfl |(i,x)::rest,cs,r,h=>by
  simp only [tZ] at h;split at h
  ·rename_i v hv;split at h
   ·rename_i off size hpl;split at h
    ·rename_i hsz;have hsz:=ab2 hsz;split at h
     ·rename_i cs' hu;have hv':=hρ _ _ hv;obtain ⟨u1,_,_⟩:=dO _ _ _ hu;simp only [ac8,Instr.fill,hv',hp _ _ hpl];rw [kT] at hsz u1 hu;have e1:v.cells.size=size:=by simpa using hsz
      rw [iF (by simp only [e1];simp at u1⊢;omega)];have:=F6 off v.cells.toList 0 ⟨cs⟩ (r:=cs') (by simpa using hu);rw [<-Array.foldl_toList,Array.toList_zipIdx];rw [this];exact xK hρ hp h
     ·cases h
    ·cases h
   ·cases h
  ·cases h
theorem run_places(hS:S.Ok P): ∀{l:List Field},rT S l=true->
 ∃ps:List (Nat×Nat),(l.mapM fun f=>(do pure (f.offset,<-sizeOf f.type):Sem (Nat×Nat))).run P w= .ok ps w/\ ∀i,ps[i]? =l8 S l i
 | [],_=>⟨[],by simp,fun i=>by simp [l8,bU]⟩ |f::l,h=>by
  simp only [rT] at h;split at h
  ·rename_i fi hfi;obtain ⟨ps,h1,h2⟩:=run_places hS h;refine ⟨(f.offset,fi.size)::ps,by simp only [List.mapM_cons,aa9,run_sizeOf (TT.Ok.get hS hfi),aa5,ab5,h1],fun i=>?_⟩;cases i with
   |zero=>simp [l8,bU,hfi] |succ i=>simp only [af8,h2];rfl
  ·cases h
theorem QT(hS:S.Ok P)(hρ: ∀x v,ρ x=some v->σ x=v){t:TypeId}{parts:Array (Nat×Operand)}{v:Value}(h:CD S ρ t parts.toList=some v):
 (Instr.build t (parts.map fun (i,x)=>(i,σ x))).run P w= .ok v w:=by
 unfold CD at h;split at h
 ·rename_i ti hg;have ok:=TT.Ok.get hS hg;obtain ⟨z,hz,hzl⟩:=lP (w:=w) ok;have hzl':z.cells=⟨ti.zero⟩:=by rw [<-hzl]
  split at h
  ·rename_i fs hd;split at h
   ·rename_i hall;split at h
    ·rename_i r hr;injection h with h;subst h;obtain ⟨ps,hps,hpl⟩:=run_places (w:=w) hS hall;have hm:(fs.mapM fun f=>(do pure (f.offset,<-sizeOf f.type):Sem (Nat×Nat))).run P w= .ok ⟨ps⟩ w:=by
      rw [Array.mapM_eq_mapM_toList,Sem.run_map,hps]
      rfl
     have hf:=xK (place':=fun i=>(⟨ps⟩:Array (Nat×Nat))[i]?) hρ (fun i y hy=>by simp only [aq1];rw [hpl];exact hy) hr;have hf':Instr.fill (fun x=>(⟨ps⟩:Array (Nat×Nat))[x]?) ⟨ti.zero⟩ (parts.map fun (x:Nat×Operand)=>(x.1,σ x.2)).toList=some ⟨r⟩:=by rw [ai9];exact hf
     simp only [Instr.build,aa9,hz,run_underlying ok,hd,aa5,hm,hzl',hf',ab5]
    ·cases h
   ·cases h
  ·rename_i n el hd;split at h
   ·rename_i ei hei;have oke:=TT.Ok.get hS hei;split at h
    ·rename_i r hr;injection h with h;subst h;have hf:=xK (place':=fun i=>some (i*ei.size,ei.size)) hρ (fun i y hy=>hy) hr;have hf':Instr.fill (fun i=>some (i*ei.size,ei.size)) ⟨ti.zero⟩ (parts.map fun (x:Nat×Operand)=>(x.1,σ x.2)).toList=some ⟨r⟩:=by rw [ai9];exact hf
     simp only [Instr.build,aa9,hz,run_underlying ok,hd,run_sizeOf oke,aa5,hzl',hf',ab5]
    ·cases h
   ·cases h
  ·cases h
 ·cases h
theorem JU(hS:S.Ok P){b:Builtin}{ts:Array TypeId}{ty:TypeId}{cn:Array Bool}{vs:List Value}{v:Value}(h:o9 S b ts.toList vs=some v):
 (builtin b ts ty cn ⟨vs⟩).run P w= .ok (.value v) w:=by
 unfold o9 at h;split at h
 ·split at h
  ·rename_i t hts;have hts:ts= #[t]:=by apply ag4;simpa using hts
   subst hts;split at h
   ·rename_i x;unfold ZX at h;split at h
    ·split at h
     ·rename_i ti hg;have ok:=TT.Ok.get hS hg;split at h
      ·rename_i el hd;injection h with h;subst h;simp [builtin,Builtin.len_,run_underlying ok,hd,goInt]
      ·cases h
     ·cases h
    ·split at h
     ·rename_i ti hg;have ok:=TT.Ok.get hS hg;split at h
      ·rename_i hd;injection h with h;subst h;simp [builtin,Builtin.len_,run_underlying ok,hd,goInt]
      ·cases h
     ·cases h
    ·cases h
   ·cases h
  ·cases h
 ·split at h
  ·injection h with h;subst h;simp [builtin,Builtin.max_,Builtin.max2]
  ·cases h
 ·split at h
  ·injection h with h;subst h;simp [builtin,Builtin.min_,Builtin.min2]
  ·cases h
 ·cases h
theorem run_pv(hS:S.Ok P)(hρ: ∀x v,ρ x=some v->σ x=v){o:Oper}{v:Value}(h:pv S ρ o.op=some v):(execOp σ o).run P w= .ok (.value v) w:=by
 unfold execOp;cases hop:o.op<;>rw [hop] at h<;>simp only [pv,reduceCtorEq] at h
 case move x=>simp [hρ _ _ h]
 case assign x=>simp [hρ _ _ h]
 case pick c a b=>
  split at h
  ·rename_i g hg;split at h
   ·rename_i x hx;split at h
    ·rename_i y hy;injection h with h;subst h;simp only [hρ _ _ hg,hρ _ _ hx,hρ _ _ hy,asBool];cases g<;>simp
    ·cases h
   ·cases h
  ·cases h
 case binOp op t x y yt=>
  split at h
  ·rename_i a ha;split at h
   ·rename_i b hb;have:=run_binv (w:=w) hS (x:=x) (y:=y) h;simp only [hρ _ _ ha,hρ _ _ hb];rw [aa9,this];rfl
   ·cases h
  ·cases h
 case unOp op t x=>
  split at h
  ·rename_i a ha;simp [hρ _ _ ha,run_unv h]
  ·cases h
 case convert s d x=>
  split at h
  ·rename_i a ha;simp [hρ _ _ ha,V8 hS h]
  ·cases h
 case field t x i=>
  split at h
  ·rename_i a ha;simp [hρ _ _ ha,QV hS h]
  ·cases h
 case fieldAddr t x i=>
  split at h
  ·rename_i a ha;simp [hρ _ _ ha,EA hS h]
  ·cases h
 case extract x i=>
  split at h
  ·rename_i vs hvs;rw [cC] at h;have:vs[i]? =some v:=by rw [<-ac2];exact h
   simp [hρ _ _ hvs,Instr.extract,this]
  ·cases h
 case build t parts=>
  have:=QT (w:=w) hS hρ h;simp only [aa9,this,aa5,ab5]
 case makeFunc fn first cap=>
  split at h
  ·rename_i a ha;split at h
   ·rename_i b hb;injection h with h;subst h;have e1:first.map σ=⟨a⟩:=by apply ag4;rw [ai9];exact lU hρ ha
    have e2:cap.map σ=⟨b⟩:=by apply ag4;rw [ai9];exact lU hρ hb
    simp [Instr.makeFunc,e1,e2]
   ·cases h
  ·cases h
 case nilCheck x=>
  split at h
  ·rename_i a ha;injection h with h;subst h;simp [hρ _ _ ha]
  ·rename_i f a b ha;injection h with h;subst h;simp [hρ _ _ ha]
  ·cases h
 case call c=>
  split at h
  ·rename_i b hb;split at h
   ·rename_i vs hvs;have e1:c.args.map σ=⟨vs⟩:=by apply ag4;rw [ai9];exact lU hρ hvs
    simp [resolve,hb,invoke,e1,JU hS h]
   ·cases h
  ·cases h
end sound
def pickv(e:Env)(ks:List (Nat×Bool))(t:Nat)(x y:Operand):Option Value:=match e.ev ks (.tmp t) with
 |some (.bool g)=>match e.ev (chain e.cs 6 (t,true)++ks) x with
  |some (.bool p)=>match e.ev (chain e.cs 6 (t,false)++ks) y with
   |some (.bool q)=>some (.bool (bif g then p else q)) |_=>none
  |_=>none
 |_=>none
def pve(S:TT)(e:Env)(ks:List (Nat×Bool))(op:Op):Option Value:=match op with
 | .pick (.tmp t) x y=>pickv e ks t x y |op=>pv S (e.ev ks) op
theorem Ag.jf{n:Nat}{D:List Nat}{e:Env}{a:Act}{ks:List (Nat×Bool)}(g:Ag n D e a)(hk:dK a ks){t:Nat}{v:Value}(hx:e.ev ks (.tmp t)=some v):a.tmps[t]? =some v:=by
 simp only [Env.ev] at hx;split at hx
 ·rename_i u hu;injection hx with hx;subst hx;exact g.us t _ hu
 ·split at hx
  ·rename_i c u hu;split at hx
   ·rename_i hc;injection hx with hx;subst hx;obtain ⟨gg,b⟩:=c;exact (g.cs t gg b _ hu).1 (hk _ _ (qF hc))
   ·cases hx
  ·cases hx
theorem t9{a:Act}{k1 k2:List (Nat×Bool)}(h1:dK a k1)(h2:dK a k2):dK a (k1++k2):=fun g b hm=>by
 rcases af0.1 hm with h|h
 ·exact h1 _ _ h
 ·exact h2 _ _ h
theorem xL{P:Program}{S:TT}{w:World}{n:Nat}{D:List Nat}{e:Env}{a:Act}{ks:List (Nat×Bool)}(hS:S.Ok P)(g:Ag n D e a)(hk:dK a ks){o:Oper}{v:Value}(h:pve S e ks o.op=some v):(execOp a.eval o).run P w= .ok (.value v) w:=by
 unfold pve at h;split at h
 ·rename_i t x y hop;unfold pickv at h;split at h
  ·rename_i b hb;split at h
   ·rename_i p hp;split at h
    ·rename_i q hq;injection h with h;subst h;have ht:=g.jf hk hb;unfold execOp;rw [hop];simp only [g.ev hk hb,asBool];cases b with
     |true=>
      have hk':dK a (chain e.cs 6 (t,true)++ks):=t9 (g.chain 6 (t,true) ht) hk;simp [g.ev hk' hp]
     |false=>
      have hk':dK a (chain e.cs 6 (t,false)++ks):=t9 (g.chain 6 (t,false) ht) hk;simp [g.ev hk' hq]
    ·cases h
   ·cases h
  ·cases h
 ·exact run_pv hS (fun x v hx=>g.ev hk hx) h
variable{C:nY}{k:List It}{e:Env}{h:GH}{L:List a6}
def sstep(S:TT)(n:Nat)(k:List It)(e:Env):Option (List It×Env):=
 match k with
 | .ops all []::k=>some (k,⟨e.us,[]⟩) | .ops all (o::l)::k=>match iH e all o.guard with
   |some (m,ks)=>match pve S e ks o.op with
    |some v=>match e.put n m o.dst v with
     |some e'=>some (.ops all l::k,e') |none=>none
    |none=>none
   |none=>none
 |k=>match cstep k with
  |some k'=>some (k',e) |none=>none
theorem V.step{k':List It}{e':Env}(hs:sstep C.S C.n k e=some (k',e'))(hv:V C k' e' h L):V C k e h L:=by
 unfold sstep at hs;split at hs
 ·injection hs with hs;injection hs with h1 h2;subst h1;subst h2;exact V.eo hv
 ·rename_i all o l k;split at hs
  ·rename_i m ks hg;split at hs
   ·rename_i v hpv;split at hs
    ·rename_i e'' hput;injection hs with hs;injection hs with h1 h2;subst h1;subst h2;exact V.value hg (fun a w g s hk=>xL C.ok g hk hpv) hput hv
    ·cases hs
   ·cases hs
  ·cases hs
 ·split at hs
  ·rename_i k'' hc;injection hs with hs;injection hs with h1 h2;subst h1;subst h2;exact hv.cstep hc
  ·cases hs
end Go.Tp
namespace Go.Tp
open Go Go.RowKit
class EntAt (L:List a6) (b:Nat) (x:outParam a6):Prop where
 mem:x∈L
 blk:x.b=b
instance EntAt.here {b lo:Nat} {cs:List Value} {ob:Option Obj} {L:List a6}:EntAt (⟨b,lo,cs,ob⟩::L) b ⟨b,lo,cs,ob⟩:=⟨aa4 ..,rfl⟩
instance (priority:=low) EntAt.there {y x:a6} {L:List a6} {b:Nat} [i:EntAt L b x]:EntAt (y::L) b x:=⟨aa8 _ i.mem,i.blk⟩
class EntUp (L:List a6) (b:Nat) (x x':a6) (L':outParam (List a6)):Prop where
 split: ∃L1 L2,L=L1++x::L2/\L'=L1++x'::L2
instance EntUp.here {b lo:Nat} {cs:List Value} {ob:Option Obj} {x':a6} {L:List a6}:EntUp (⟨b,lo,cs,ob⟩::L) b ⟨b,lo,cs,ob⟩ x' (x'::L):=⟨[],L,rfl,rfl⟩
instance (priority:=low) EntUp.there {y x x':a6} {L L':List a6} {b:Nat} [i:EntUp L b x x' L']:EntUp (y::L) b x x' (y::L'):=
 ⟨let ⟨L1,L2,h1,h2⟩:=i.split;⟨y::L1,L2,by rw [h1];rfl,by rw [h2];rfl⟩⟩
def R4(w:World)(b o:Nat)(vs:List Value):Prop:= ∀i v,vs[i]? =some v->w.cell? ⟨b,o+i,none⟩=some v
section
variable{P:Program}{w w0:World}{t:TypeId}{ti:TI}{h:GH}{L:List a6}
theorem rB{b o:Nat}{vs:List Value}(hc:R4 w b o vs):(loadCells ⟨b,o,none⟩ vs.length).run P w= .ok ⟨vs⟩ w:=by have:=run_loadCells_list (P:=P) (w:=w) ⟨b,o,none⟩ vs (fun j v hv=>by rw [eA];exact hc j v hv);simpa using this
theorem kG(ok:TI.Ok P t ti)(ha:ti.agg=true){b o:Nat}{vs:List Value}(hc:R4 w b o vs)(hl:vs.length=ti.size):
 (Instr.loadAt t (.pointer (some ⟨b,o,none⟩))).run P w= .ok (.agg ⟨vs⟩) w:=by
 simp only [Instr.loadAt,Instr.sureAddr,loadVar,aa9,ab5,aa5,zJ ok,ha,if_true,run_sizeOf ok];rw [<-hl,rB hc];rfl
theorem hK(ok:TI.Ok P t ti)(ha:ti.agg=false){b o:Nat}{v:Value}(hc:w.cell? ⟨b,o,none⟩=some v):
 (Instr.loadAt t (.pointer (some ⟨b,o,none⟩))).run P w= .ok v w:=by
 simp [Instr.loadAt,Instr.sureAddr,loadVar,aa9,zJ ok,ha,hc]
theorem hP: ∀(vs:List Value) (b o i:Nat) (w:World) {L1:List a6} {lo k:Nat} {cs:List Value} {ob:Option Obj},St w0 h (L1++⟨b,lo,cs,ob⟩::L) w->
 o+i=lo+k->k+vs.length<=cs.length->(∀v,v∈vs->iJ v=true)-> ∀{r:List Value},cS cs k vs=some r->
 ∃w',(storeCells ⟨b,o,none⟩ vs i).run P w= .ok () w'/\St w0 h (L1++⟨b,lo,r,ob⟩::L) w'
 | [],b,o,i,w,L1,lo,k,cs,ob,s,ho,hk,h1,r,hr=>by
   obtain ⟨_,hl,h3⟩:=dO _ _ _ hr;have:r=cs:=by apply af2;intro j;rw [h3 j,iF (by simp<;>omega)]
   subst this;exact ⟨w,rfl,s⟩
 |v::vs,b,o,i,w,L1,lo,k,cs,ob,s,ho,hk,h1,r,hr=>by
  have hv1:=h1 v (aa4 ..);have hkl:k<cs.length:=by simp at hk;omega
  obtain ⟨u,hu⟩:=getElem?_some_of_lt hkl;have q:=s.own ⟨b,lo,cs,ob⟩ (by simp);have hc:=q.cell k u hu;have hf:=q.warm k hkl;have s1:=s.setCell hkl v hv1;have hr1: ∃r1,cS (cs.set k v) (k+1) vs=some r1:=by
   have key: ∀(l:List Value) (k:Nat) (us:List Value),k+us.length<=l.length-> ∃r',cS l k us=some r':=by
    intro l
    induction l with
    |nil=>intro k us hk;simp at hk;obtain ⟨rfl,rfl⟩:=hk;exact ⟨[],by simp [cS]⟩
    |cons c l ih=>
     intro k us hk;cases k with
     |zero=>
      cases us with
      |nil=>exact ⟨c::l,by simp [cS]⟩ |cons u us=>
       obtain ⟨r',hr'⟩:=ih 0 us (by simp at hk;omega);exact ⟨u::r',by simp [cS,hr']⟩
     |succ k=>
      obtain ⟨r',hr'⟩:=ih k us (by simp at hk;omega);exact ⟨c::r',by simp [cS,hr']⟩
   exact key _ _ _ (by simp at hk⊢;omega)
  obtain ⟨r1,hr1⟩:=hr1;have hrr:r1=r:=by
   obtain ⟨_,g2,g3⟩:=dO _ _ _ hr1;obtain ⟨_,f2,f3⟩:=dO _ _ _ hr;apply af2;intro j;rw [g3 j,f3 j];simp only [ab1]
   by_cases hj:j=k
   ·subst hj;rw [iF (by omega),iT (by omega),ak4 hkl,ah9];rfl
   ·by_cases hj2:k+1<=j/\j<k+1+vs.length
    ·rw [iT hj2,iT (by omega),show j-k=(j-(k+1))+1 by omega];simp
    ·rw [iF hj2,iF (by omega),an5 (Ne.symm hj)]
  subst hrr;obtain ⟨w',hw',s'⟩:=hP vs b o (i+1) _ s1 (by omega) (by simp at hk⊢;omega) (fun x hx=>h1 x (aa8 _ hx)) hr1;refine ⟨w',?_,s'⟩;simp only [storeCells,aa9,eA,ho];rw [run_store P w _ v .plain (by rw [<-oneC_eq];exact hv1)];simp only at hc hf;rw [hc];simp only [hf,am3,if_false,aa5];rw [show lo+k=o+i from ho.symm] at hw'⊢;exact hw'
end
variable{C:nY}{k:List It}{e:Env}{h:GH}{L:List a6}
def eY(n:Nat)(e:Env)(d:Nat):Bool:=match Nat.blt d n with
 |true=>uU e.cs d |false=>false
theorem f8{n d:Nat}{v:Value}(ho:eY n e d=true):e.put n none (some d) v=some ⟨(d,v)::e.us,e.cs⟩:=by
 unfold eY at ho;split at ho
 ·rename_i hlt;simp [Env.put,hlt,ho]
 ·cases ho
theorem V.sure{all:Array Oper}{o:Oper}{l:List Oper}{ks:List (Nat×Bool)}(hg:fX e all o.guard=some ks)
 (hr: ∀a w,Ag C.n C.D e a->St C.w0 h L w->dK a ks->o.wp C.P a w (fun a' w'=> ∃e' h' L',Ag C.n C.D e' a'/\St C.w0 h' L' w'/\V C (.ops all l::k) e' h' L') (fun _ _ _=>False)):
 V C (.ops all (o::l)::k) e h L:=
 V.op fun a w g s=>by obtain ⟨h1,h2⟩:=f6 g hg;exact ⟨fun _=>hr a w g s h2,fun hx=>(by rw [h1] at hx;cases hx)⟩
theorem V.gives{all:Array Oper}{o:Oper}{l:List Oper}{ks:List (Nat×Bool)}{d:Nat}(hg:fX e all o.guard=some ks)(hd:o.dst=some d)(hc:eY C.n e d=true)
 (hr: ∀a w,Ag C.n C.D e a->St C.w0 h L w->dK a ks-> ∃v w' h' L',(execOp a.eval o).run C.P w= .ok (.value v) w'/\St C.w0 h' L' w'/\V C (.ops all l::k) ⟨(d,v)::e.us,e.cs⟩ h' L'):
 V C (.ops all (o::l)::k) e h L:=
 V.sure hg fun a w g s hk=>by obtain ⟨v,w',h',L',h1,h2,h3⟩:=hr a w g s hk;unfold Oper.wp;rw [h1];exact ⟨_,h',L',g.put (by rw [hd];exact f8 hc),h2,h3⟩
def S1(ti:TI)(x:a6)(o:Nat):Option Value:=match Nat.ble x.lo o with
 |true=>xE ti x.cs (o-x.lo) |false=>none
theorem oF{P:Program}{w0 w:World}{t:TypeId}{ti:TI}(ok:TI.Ok P t ti){x:a6}{o b:Nat}{v:Value}(q:x.held w0 h w)(hb:x.b=b)(hv:S1 ti x o=some v):
 (Instr.loadAt t (.pointer (some ⟨b,o,none⟩))).run P w= .ok v w:=by
 subst hb;unfold S1 at hv;split at hv
 ·rename_i hle;have hle:x.lo<=o:=af7 hle;unfold xE at hv;split at hv
  ·rename_i ha;split at hv
   ·rename_i r hr;injection hv with hv;subst hv;obtain ⟨h1,h2,h3⟩:=lD _ _ _ hr;refine kG ok ha (fun i u hu=>?_) h1;have hi:i<r.length:=by
     rcases ad7 i r.length with h|h
     ·exact h
     ·rw [ab4 h] at hu;cases hu
    rw [h3 i (by omega)] at hu;have:=q.cell _ _ hu
    rwa [show x.lo+(o-x.lo+i)=o+i by omega] at this
   ·cases hv
  ·rename_i ha;rw [cC] at hv;have:=q.cell _ _ hv;rw [show x.lo+(o-x.lo)=o by omega] at this;exact hK ok ha this
 ·cases hv
theorem V.load{all:Array Oper}{o:Oper}{l:List Oper}{m:Option (Nat×Bool)}{ks:List (Nat×Bool)}{t:TypeId}{p:Operand}{b off:Nat}{ti:TI}{x:a6}{v:Value}{e':Env}
 (hg:iH e all o.guard=some (m,ks)) (ho:o.op= .load t p) (hp:e.ev ks p=some (.pointer (some ⟨b,off,none⟩))) (ht:C.S.get t=some ti) [i:EntAt L b x]
 (hv:S1 ti x off=some v) (hput:e.put C.n m o.dst v=some e') (next:V C (.ops all l::k) e' h L):V C (.ops all (o::l)::k) e h L:=
 V.value hg (fun a w g s hk=>by have:=oF (TT.Ok.get C.ok ht) (s.own x i.mem) i.blk hv;unfold execOp;rw [ho];simp only [g.ev hk hp,aa9,this,aa5,ab5]) hput next
theorem V.fh{all:Array Oper}{o:Oper}{l:List Oper}{m:Option (Nat×Bool)}{ks:List (Nat×Bool)}{t:TypeId}{p:Operand}{b off:Nat}{ti:TI}{v:Value}{e':Env}
 (hg:iH e all o.guard=some (m,ks)) (ho:o.op= .load t p) (hp:e.ev ks p=some (.pointer (some ⟨b,off,none⟩))) (ht:C.S.get t=some ti) (ha:ti.agg=false)
 (hv:h b off=some v) (hput:e.put C.n m o.dst v=some e') (next:V C (.ops all l::k) e' h L):V C (.ops all (o::l)::k) e h L:=
 V.value hg (fun a w g s hk=>by have:=hK (P:=C.P) (TT.Ok.get C.ok ht) ha (s.imm _ _ _ hv);unfold execOp;rw [ho];simp only [g.ev hk hp,aa9,this,aa5,ab5]) hput next
def iB(h:GH)(b off:Nat)(vs:List Value):Prop:= ∀i v,vs[i]? =some v->h b (off+i)=some v
theorem iB.mono{h h':GH}{b off:Nat}{vs:List Value}(hl:h.le h')(x:iB h b off vs):iB h' b off vs:=fun i v hv=>hl _ _ _ (x i v hv)
theorem V.bp{all:Array Oper}{o:Oper}{l:List Oper}{m:Option (Nat×Bool)}{ks:List (Nat×Bool)}{t:TypeId}{p:Operand}{b off:Nat}{ti:TI}{vs:List Value}{e':Env}
 (hg:iH e all o.guard=some (m,ks)) (ho:o.op= .load t p) (hp:e.ev ks p=some (.pointer (some ⟨b,off,none⟩))) (ht:C.S.get t=some ti) (ha:ti.agg=true)
 (hv:iB h b off vs) (hl:vs.length=ti.size) (hput:e.put C.n m o.dst (.agg ⟨vs⟩)=some e') (next:V C (.ops all l::k) e' h L):V C (.ops all (o::l)::k) e h L:=
 V.value hg (fun a w g s hk=>by have:=kG (P:=C.P) (TT.Ok.get C.ok ht) ha (fun i u hu=>s.imm _ _ _ (hv i u hu)) hl;unfold execOp;rw [ho];simp only [g.ev hk hp,aa9,this,aa5,ab5]) hput next
def Q6(ti:TI)(x:a6)(o:Nat)(v:Value):Option a6:=match Nat.beq (aI v).length ti.size with
 |true=>match x with
  |⟨b,lo,xs,ob⟩=>match Nat.ble lo o with
   |true=>match aP (aI v) with
    |true=>match cS xs (o-lo) (aI v) with
     |some cs=>some ⟨b,lo,cs,ob⟩ |none=>none
    |false=>none
   |false=>none
 |false=>none
theorem TQ{P:Program}{w0 w:World}{t:TypeId}{ti:TI}(ok:TI.Ok P t ti){x x':a6}{L1:List a6}{o b:Nat}{v:Value}(s:St w0 h (L1++x::L) w)(hb:x.b=b)(hv:Q6 ti x o v=some x'):
 ∃w',(Instr.storeAt t (.pointer (some ⟨b,o,none⟩)) v).run P w= .ok () w'/\St w0 h (L1++x'::L) w':=by
 subst hb;obtain ⟨xb,xlo,xs,xob⟩:=x;unfold Q6 at hv;simp only at hv;split at hv
 ·rename_i hsz;have hsz:=ab2 hsz;split at hv
  ·rename_i hle;have hle:xlo<=o:=af7 hle;split at hv
   ·rename_i hone;split at hv
    ·rename_i cs hcs;injection hv with hv;subst hv;obtain ⟨u1,_,_⟩:=dO _ _ _ hcs;obtain ⟨w',h1,h2⟩:=hP (P:=P) (aI v) xb o 0 w (L1:=L1) (lo:=xlo) (k:=o-xlo) (cs:=xs) (ob:=xob) s (by omega) u1 (dP hone) hcs;refine ⟨w',?_,h2⟩;have hsz':v.cells.size=ti.size:=by rw [<-hsz,kT];simp
     simp only [Instr.storeAt,Instr.sureAddr,aa9,ab5,aa5,storeVar,run_sizeOf ok,hsz',ne_eq,not_true,if_false];rw [<-kT];exact h1
    ·cases hv
   ·cases hv
  ·cases hv
 ·cases hv
theorem V.store{all:Array Oper}{o:Oper}{l:List Oper}{ks:List (Nat×Bool)}{t:TypeId}{p y:Operand}{b off:Nat}{ti:TI}{x x':a6}{v:Value}{L':List a6}
 (hg:fX e all o.guard=some ks) (ho:o.op= .store t p y) (hp:e.ev ks p=some (.pointer (some ⟨b,off,none⟩))) (hy:e.ev ks y=some v) (ht:C.S.get t=some ti) [i:EntAt L b x]
 (hv:Q6 ti x off v=some x') [j:EntUp L b x x' L'] (hd:o.dst=none) (next:V C (.ops all l::k) e h L'):V C (.ops all (o::l)::k) e h L:=
 V.sure hg fun a w g s hk=>by obtain ⟨L1,L2,h1,h2⟩:=j.split;subst h1;subst h2;obtain ⟨w',h3,h4⟩:=TQ (P:=C.P) (TT.Ok.get C.ok ht) s i.blk hv;unfold Oper.wp execOp;rw [ho];simp only [g.ev hk hp,g.ev hk hy,aa9,h3,aa5,ab5];exact ⟨e,h,_,by rw [hd];exact g,h4,next⟩
theorem V.alloc{all:Array Oper}{o:Oper}{l:List Oper}{ks:List (Nat×Bool)}{t:TypeId}{ti:TI}{d:Nat}
 (hg:fX e all o.guard=some ks) (ho:o.op= .alloc t) (ht:C.S.get t=some ti) (h1:aP ti.zero=true) (hd:o.dst=some d) (hc:eY C.n e d=true)
 (next: ∀b,V C (.ops all l::k) ⟨(d, .pointer (some ⟨b,0,none⟩))::e.us,e.cs⟩ h (⟨b,0,ti.zero,none⟩::L)):V C (.ops all (o::l)::k) e h L:=
 V.gives hg hd hc fun a w g s hk=>by obtain ⟨z,hz,hzl⟩:=lP (w:=w) (TT.Ok.get C.ok ht);have s':=s.alloc z.cells t (by rw [hzl];exact h1);rw [hzl] at s';refine ⟨_,_,h,_,?_,s',next _⟩;unfold execOp;rw [ho];simp [Instr.alloc,hz,newVar,newRow]
def XS:Value->Option (List Value)
 | .agg ⟨l⟩=>match aP l with
   |true=>some l |false=>none
 |v=>match iJ v with
  |true=>some [v] |false=>none
theorem UO{v:Value}{cs:List Value}(h:XS v=some cs):aI v=cs/\aP (aI v)=true:=by
 unfold XS at h;split at h
 ·split at h
  ·rename_i ho;injection h with h;subst h;exact ⟨rfl,ho⟩
  ·cases h
 ·rename_i hna;split at h
  ·rename_i ho;injection h with h;subst h;have:aI v=[v]:=by cases v<;>first|rfl|(rename_i c;exact (hna c.toList T).elim)
   rw [this];exact ⟨rfl,by simp only [aP,ho]⟩
  ·cases h
theorem V.box{all:Array Oper}{o:Oper}{l:List Oper}{ks:List (Nat×Bool)}{t:TypeId}{y:Operand}{v:Value}{d:Nat}{cs:List Value}
 (hg:fX e all o.guard=some ks) (ho:o.op= .box t y) (hy:e.ev ks y=some v) (hb:XS v=some cs) (hd:o.dst=some d) (hc:eY C.n e d=true)
 (next: ∀b,V C (.ops all l::k) ⟨(d, .pointer (some ⟨b,0,none⟩))::e.us,e.cs⟩ h (⟨b,0,cs,none⟩::L)):V C (.ops all (o::l)::k) e h L:=
 V.gives hg hd hc fun a w g s hk=>by obtain ⟨hcs,h1⟩:=UO hb;subst hcs;have s':=s.alloc v.cells t (by rw [<-kT];exact h1);rw [<-kT] at s';refine ⟨_,_,h,_,?_,s',next _⟩;unfold execOp;rw [ho];simp [Instr.box,newVar,newRow,g.ev hk hy]
theorem V.af{c:Operand}{x y:Code}(hc:e.ev [] c=some (.bool true))(next:V C (.code x::k) e h L):V C (.code (.cond c x y)::k) e h L:=
 V.cond hc (fun _=>next) (fun h=>by cases h)
theorem V.ae{c:Operand}{x y:Code}(hc:e.ev [] c=some (.bool false))(next:V C (.code y::k) e h L):V C (.code (.cond c x y)::k) e h L:=
 V.cond hc (fun h=>by cases h) (fun _=>next)
def bM(P:Program)(w0:World)(f:FuncId)(args:List Value)(h:GH)(L:List a6)(R:Value->GH->List a6->Prop):Prop:=
 (∃g c,P.funcs[f]? =some g/\g.body=some c/\(g.name== "runtime.NumGoroutine")=false)/\
 ∀w,St w0 h L w->Calls P f ⟨args⟩ w fun x w'=> ∃v h' L',x= .returned v/\R v h' L'/\St w0 h' L' w'
theorem bM.mono{P:Program}{w0:World}{f:FuncId}{args:List Value}{R R':Value->GH->List a6->Prop}(hf:bM P w0 f args h L R)(hr: ∀v h' L',R v h' L'->R' v h' L'):bM P w0 f args h L R':=
 ⟨hf.1,fun w s=>(hf.2 w s).mono fun _ _ ⟨v,h',L',e1,e2,e3⟩=>⟨v,h',L',e1,hr _ _ _ e2,e3⟩⟩
def Is(x:Value)(h:GH)(L:List a6):Value->GH->List a6->Prop:=fun v h' L'=>v=x/\h'=h/\L'=L
def rU:Nat->List Value->Us
 |_,[]=>[] |i,v::r=>(i,v)::rU (i+1) r
theorem uY: ∀(l:List Value) (i t:Nat) {v:Value},look (rU i l) t=some v->i<=t/\l[t-i]? =some v
 | [],_,_,_,h=>by cases h |x::r,i,t,v,h=>by
  simp only [rU,look] at h;split at h
  ·rename_i hk;have hk:=ab2 hk;subst hk;injection h with h;subst h;simp
  ·rename_i hk;have hk:=dY hk;obtain ⟨h1,h2⟩:=uY r (i+1) t h;refine ⟨by omega,?_⟩;rw [show t-i=(t-(i+1))+1 by omega];simpa using h2
theorem bM.cx{args:List Value}{c:Code}(C:nY)(hrd:C.rd=none)(hD:C.D=[])(hb:C.fn.body=some c)(hnm:(C.fn.name== "runtime.NumGoroutine")=false)(hn:C.fn.ntmps=C.n)(hl:Nat.ble args.length C.n=true)
 (hv:V C [.code c] ⟨rU 0 args,[]⟩ h L):bM C.P C.w0 C.f args h L C.R:=by
 refine ⟨⟨_,c,C.hfn,hb,hnm⟩,fun w s cs=>?_⟩;have hle:args.length<=C.n:=af7 hl
 let b:Frame:={(default:Frame) with fn:=C.f,kind:= .normal}
 let a:Act:={tmps:=(⟨args⟩:Array Value)++ah6 (C.fn.ntmps-(⟨args⟩:Array Value).size) undef,defers:=[]}
 have ha:Ag C.n C.D ⟨rU 0 args,[]⟩ a:=by
  refine ⟨by simp [a,hn];omega,by rw [hD];rfl,fun t v hv=>?_,fun _ _ _ _ h=>by cases h⟩;obtain ⟨_,h2⟩:=uY args 0 t hv;simp only [Nat.sub_zero] at h2;have ht:t<args.length:=by
   rcases ad7 t args.length with h|h
   ·exact h
   ·rw [ab4 h] at h2;cases h2
  simp only [a];rw [Array.getElem?_append_left (by simpa using ht)];simpa using h2
 have henter:Frame.enter C.P C.f ⟨args⟩ .normal=b.atR a [.code c]:=by simp [Frame.enter,Frame.atR,C.hfn,hb,b,a,show (default:Frame).roundOf=none from rfl]
 obtain ⟨v,w',m,h',L',r,s',st,ou,_⟩:=hv (dE (fun _ hx=>by cases hx)) a w b cs ha s rfl ⟨rfl,hrd.symm,fun x=>(x hrd).elim⟩;unfold nY.Out at ou;rw [hrd] at ou;obtain ⟨fr,rfl,e1,e2⟩:=ou;refine ⟨.returned v,w',fr,⟨v,h',L',rfl,r,s'⟩,?_,e1,e2⟩;show Steps C.P _ _;rw [henter];exact st
theorem V.call{all:Array Oper}{o:Oper}{l:List Oper}{ks:List (Nat×Bool)}{x:Operand}{args:Array Operand}{ts:Array TypeId}{f:FuncId}{fst cap:Array Value}{vs:List Value}{R':Value->GH->List a6->Prop}{d:Nat}
 (hg:fX e all o.guard=some ks) (ho:o.op= .call ⟨.value x,args,ts⟩) (hx:e.ev ks x=some (.func (.func f) fst cap)) (ha:PG (e.ev ks) args.toList=some vs)
 (hd:o.dst=some d) (hc:eY C.n e d=true) (hf:bM C.P C.w0 f (fst.toList++(vs++cap.toList)) h L R')
 (next: ∀v h' L',R' v h' L'->V C (.ops all l::k) ⟨(d,v)::e.us,e.cs⟩ h' L'):V C (.ops all (o::l)::k) e h L:=
 V.sure hg fun a w g s hk=>by
  obtain ⟨⟨gg,c,h1,h2,h3⟩,hcalls⟩:=hf;have e1:args.map a.eval=⟨vs⟩:=by apply ag4;rw [ai9];exact lU (fun x v hx=>g.ev hk hx) ha
  have e2:fst++(⟨vs⟩:Array Value)++cap=⟨fst.toList++(vs++cap.toList)⟩:=by apply ag4;simp
  unfold Oper.wp execOp;rw [ho];have hcf:(callFunc f (fst++(⟨vs⟩:Array Value)++cap)).run C.P w= .ok (.enter f ⟨fst.toList++(vs++cap.toList)⟩) w:=by simp only [callFunc,aa9,run_program,aa5,h1,h3,am3,if_false,h2,ap3,ab5,e2]
  simp only [resolve,e1,g.ev hk hx,Deferred.ofValue,aa9,ab5,aa5,invoke];rw [hcf];refine (hcalls w s).mono fun x w' ⟨v,h',L',e1,e2,e3⟩=>?_;subst e1;exact ⟨_,h',L',g.put (by rw [hd];exact f8 hc),e3,next v h' L' e2⟩
theorem V.bz{all:Array Oper}{o:Oper}{l:List Oper}{ks:List (Nat×Bool)}{x:Operand}{args:Array Operand}{ts:Array TypeId}{f:FuncId}{fst cap:Array Value}{vs:List Value}{v:Value}{d:Nat}
 (hg:fX e all o.guard=some ks) (ho:o.op= .call ⟨.value x,args,ts⟩) (hx:e.ev ks x=some (.func (.func f) fst cap)) (ha:PG (e.ev ks) args.toList=some vs)
 (hd:o.dst=some d) (hc:eY C.n e d=true) (hf:bM C.P C.w0 f (fst.toList++(vs++cap.toList)) h L (Is v h L))
 (next:V C (.ops all l::k) ⟨(d,v)::e.us,e.cs⟩ h L):V C (.ops all (o::l)::k) e h L:=
 V.call hg ho hx ha hd hc hf fun _ _ _ ⟨e1,e2,e3⟩=>(by subst e1;subst e2;subst e3;exact next)
theorem TI.js{P:Program}{t:TypeId}{d:TypeDesc}{sz bt:Nat}{zs:List Value}{ag:Bool}(hu:P.underlying t=some d)
 (hi:(P.info? t).map (fun i=>(i.zero.map fun z=>z.cells.toList,i.size,i.bytes))=some (some zs,sz,bt)) (ha:PM d=ag) (hl:Nat.beq zs.length sz=true):TI.Ok P t ⟨d,sz,bt,zs,ag⟩:=by
 refine ⟨hu,?_,ha,ab2 hl⟩;cases hx:P.info? t with
 |none=>rw [hx] at hi;cases hi |some x=>
  rw [hx] at hi;simp only [ag0,Option.some.injEq,Prod.mk.injEq] at hi;obtain ⟨h1,h2,h3⟩:=hi;cases hz:x.zero with
  |none=>rw [hz] at h1;cases h1 |some z=>
   rw [hz] at h1;simp only [ag0,Option.some.injEq] at h1;exact ⟨x,z,rfl,h2,h3,hz,h1⟩
def atEnd:List It->Bool
 | []=>true | .code .ret::_=>true
 |_=>false
theorem o8(hk:atEnd k=true):k= .code .ret::k.tail\/k=[]:=by
 unfold atEnd at hk;split at hk
 ·exact .inr T
 ·exact .inl T
 ·cases hk
theorem V.eg(hk:atEnd k=true)(hrd:C.rd=none){L0 F0:List a6}(hL:L=L0++(pC C.D++F0))(hr:C.fn.results= #[])(hR:C.R (.tuple #[]) h (L0++F0)):V C k e h L:=
 V.ret (o8 hk) hrd hL (fun a w g s=>by simp [results,hr]) hR
theorem V.az{t:Nat}{v:Value}(hk:atEnd k=true)(hrd:C.rd=none){L0 F0:List a6}(hL:L=L0++(pC C.D++F0))(hr:C.fn.results= #[.tmp t])(hl:look e.us t=some v)(hR:C.R v h (L0++F0)):V C k e h L:=
 V.ret (o8 hk) hrd hL (fun a w g s=>by rw [results_tmp hr,Act.dz (g.us _ _ hl)]) hR
theorem V.jg{t u:Nat}{v x:Value}(hk:atEnd k=true)(hrd:C.rd=none){L0 F0:List a6}(hL:L=L0++(pC C.D++F0))(hr:C.fn.results= #[.tmp t, .tmp u])(hl:look e.us t=some v)(hl':look e.us u=some x)(hR:C.R (.tuple #[v,x]) h (L0++F0)):V C k e h L:=
 V.ret (o8 hk) hrd hL (fun a w g s=>by rw [results_tmp2 hr,Act.dz (g.us _ _ hl),Act.dz (g.us _ _ hl')]) hR
theorem V.fv{t u r:Nat}{v x y:Value}(hk:atEnd k=true)(hrd:C.rd=none){L0 F0:List a6}(hL:L=L0++(pC C.D++F0))(hr:C.fn.results= #[.tmp t, .tmp u, .tmp r])(hl:look e.us t=some v)(hl':look e.us u=some x)(hl'':look e.us r=some y)
 (hR:C.R (.tuple #[v,x,y]) h (L0++F0)):V C k e h L:=
 V.ret (o8 hk) hrd hL (fun a w g s=>by simp [results,hr,g.us _ _ hl,g.us _ _ hl',g.us _ _ hl'']) hR
theorem V.gh{p:Nat}{t:TypeId}{b off:Nat}{ti:TI}{x:a6}{v:Value}(hk:atEnd k=true)(hrd:C.rd=none){L0 F0:List a6}(hL:L=L0++(pC C.D++F0))(hr:C.fn.results= #[.cell p t])(hl:look e.us p=some (.pointer (some ⟨b,off,none⟩)))(ht:C.S.get t=some ti)
 [i:EntAt (L0++F0) b x] (hv:S1 ti x off=some v) (hR:C.R v h (L0++F0)):V C k e h L:=
 V.ret (o8 hk) hrd hL (fun a w g s=>by
  have h1:=oF (P:=C.P) (TT.Ok.get C.ok ht) (s.own x i.mem) i.blk hv;have h2:=g.us _ _ hl;have h1':(loadVar t ⟨b,off,none⟩).run C.P w= .ok v w:=by simpa [Instr.loadAt,Instr.sureAddr] using h1
  simp [results,hr,h2,h1',asAddr]) hR
end Go.Tp
namespace Go.Tp
open Go Go.RowKit
theorem gB(z:List Value)(hz:z≠[]): ∀n,((Array.range (n*z.length)).map fun i=>z.toArray[i % z.toArray.size]!)=⟨(List.replicate n z).flatten⟩:=by
 intro n;apply ag4;simp only [ai9,Array.toList_range]
 induction n with
 |zero=>simp |succ n ih=>
  rw [Nat.succ_mul,List.range_add,List.map_append,ih,List.replicate_succ',List.flatten_append];congr 1;simp only [List.map_map,List.flatten_cons,List.flatten_nil,List.append_nil];apply af2;intro i
  by_cases hi:i<z.length
  ·have e:(n*z.length+i) % z.length=i:=by rw [Nat.mul_comm,Nat.mul_add_mod,Nat.mod_eq_of_lt hi]
   simp [hi,e]
  ·rw [ab4 (by simpa using hi),ab4 (by omega)]
def Sl(h:GH)(sz:Nat)(v:Value)(cs:List Value):Prop:=
 ∃a n c,v= .slice a n c/\n<=c/\cs.length=n*sz/\(0<n-> ∃b o,a=some ⟨b,o,none⟩/\iB h b o cs)
theorem Sl.mono{h h':GH}(hl:h.le h'){sz:Nat}{v:Value}{cs:List Value}(x:Sl h sz v cs):Sl h' sz v cs:=by obtain ⟨a,n,c,x1,x2,x3,x4⟩:=x;exact ⟨a,n,c,x1,x2,x3,fun hn=>let ⟨b,o,y1,y2⟩:=x4 hn;⟨b,o,y1,y2.mono hl⟩⟩
theorem Sl.nil(h:GH)(sz:Nat):Sl h sz (.slice none 0 0) []:=⟨none,0,0,rfl,aa6 _,by simp,fun hn=>by omega⟩
def Tl(sz:Nat)(v:Value)(x:a6):Prop:=
 x.obj=none/\ ∃a n c,v= .slice a n c/\((a=none/\n=0/\c=0/\x.cs=[])\/ ∃b o,a=some ⟨b,o,none⟩/\n<=c/\x.b=b/\x.lo=o+n*sz/\x.cs.length=(c-n)*sz)
theorem Tl.nil(sz:Nat):Tl sz (.slice none 0 0) ⟨0,0,[],none⟩:=⟨rfl,none,0,0,rfl, .inl ⟨rfl,rfl,rfl,rfl⟩⟩
theorem EB{P:Program}{w:World}{h:GH}{sz:Nat}{v:Value}{cs:List Value}(himm: ∀b o v,h b o=some v->w.cell? ⟨b,o,none⟩=some v)(x:Sl h sz v cs)(hsz:0<sz):
 ∃n,Builtin.lenOf v=pure n/\cs.length=n*sz/\(Builtin.firstCells sz n v).run P w= .ok ⟨cs⟩ w:=by
 obtain ⟨a,n,c,rfl,x2,x3,x4⟩:=x;refine ⟨n,rfl,x3,?_⟩
 by_cases hn:0<n
 ·obtain ⟨b,o,rfl,y2⟩:=x4 hn;simp only [Builtin.firstCells];rw [<-x3];exact rB fun i u hu=>himm _ _ _ (y2 i u hu)
 ·have:n=0:=by omega
  subst this;have:cs=[]:=ad0.1 (by simpa using x3);subst this;cases a with
  |none=>rfl |some a=>simp [Builtin.firstCells,loadCells,loadCellsFrom]
theorem mW(z:List Value)(n:Nat)(hz:z≠[]):Builtin.zeroCells ⟨z⟩ n=⟨(List.replicate n z).flatten⟩:=by have:=gB z hz n;simpa [Builtin.zeroCells] using this
theorem lK{l r:List Value}(h1: ∀v,v∈l->iJ v=true)(h2: ∀v,v∈r->iJ v=true): ∀v,v∈l++r->iJ v=true:=fun v hv=>by
 rcases af0.1 hv with h|h
 ·exact h1 v h
 ·exact h2 v h
theorem Sl.one{w0 w:World}{h:GH}{L:List a6}{sz:Nat}{v:Value}{cs:List Value}(s:St w0 h L w)(hsz:0<sz)(x:Sl h sz v cs): ∀u,u∈cs->iJ u=true:=by
 obtain ⟨a,n,c,rfl,x2,x3,x4⟩:=x;intro u hu;have hn:0<n:=by
  rcases ah0 n with e|e
  ·subst e;have:cs=[]:=ad0.1 (by simpa using x3);subst this;cases hu
  ·exact e
 obtain ⟨b,o,_,y⟩:=x4 hn;obtain ⟨i,hi⟩:=List.getElem?_of_mem hu;exact s.imm1 _ _ _ (y i u hi)
theorem BX: ∀(l:List Value) (us:List Value),us.length<=l.length-> ∃r',cS l 0 us=some r'
 | [],us,hk=>by have:us=[]:=ad0.1 (by simpa using hk);subst this;exact ⟨[],rfl⟩ |c::l,[],_=>⟨c::l,rfl⟩
 |c::l,u::us,hk=>by obtain ⟨r',hr'⟩:=BX l us (by simp at hk;omega);exact ⟨u::r',by simp [cS,hr']⟩
theorem xT{w0 w:World}{h:GH}{L:List a6}{x:a6}{sz:Nat}{zs:List Value}{el:TypeId}{nc need:Nat}{cs:List Value}(s:St w0 h (x::L) w)(h1: ∀v,v∈cs->iJ v=true)(hz1:aP zs=true)(hzl:zs.length=sz)
 (hlen:cs.length=need*sz) (hnc:need<=nc) {arr:Array Value} (harr:arr=⟨cs++(List.replicate (nc-need) zs).flatten⟩):
 ∃h' x',h.le h'/\Sl h' sz (.slice (some ⟨w.heap.size,0,none⟩) need nc) cs/\Tl sz (.slice (some ⟨w.heap.size,0,none⟩) need nc) x'/\St w0 h' (x'::L) (w.drew.alloc (.cells arr el)):=by
 have honer: ∀v,v∈(List.replicate (nc-need) zs).flatten->iJ v=true:=fun v hv=>by obtain ⟨l,hl,hvl⟩:=List.mem_flatten.1 hv;have:=(List.mem_replicate.1 hl).2;subst this;exact dP hz1 v hvl
 have hone:aP arr.toList=true:=by rw [harr];exact mX (lK h1 honer)
 have s1:St w0 h (x::L) w.drew:=s.drew;have s3:=s1.tail.alloc arr el hone;rw [harr] at s3⊢;have s4:=St.part s3;have s5:=s4.bu;refine ⟨_,_,s4.dc,⟨_,_,_,rfl,hnc,hlen,fun _=>⟨_,0,rfl,fun i v hv=>GH.cr h _ 0 cs hv⟩⟩,⟨rfl,_,_,_,rfl, .inr ⟨_,0,rfl,hnc,rfl,?_,?_⟩⟩,s5⟩
 ·simp only [ag9,hlen]
 ·simp only [List.length_flatten,List.map_replicate,List.sum_replicate_nat,hzl]
theorem D8{P:Program}{S:TT}(hS:S.Ok P){w0 w:World}{h:GH}{L:List a6}{x:a6}{t el ty:TypeId}{ti ei:TI}{v1 v2:Value}{c1 c2:List Value}
 (ht:S.get t=some ti) (hd:ti.d= .slice el) (he:S.get el=some ei) (hsz:0<ei.size) (hz1:aP ei.zero=true) (hby:ei.bytes<=4096)
 (s:St w0 h (x::L) w) (a1:Sl h ei.size v1 c1) (tl:Tl ei.size v1 x) (a2:Sl h ei.size v2 c2) (hb:c1.length+c2.length<=1073741824):
 ∃v' w' h' x',(Builtin.append_ #[t,t] ty #[v1,v2]).run P w= .ok v' w'/\h.le h'/\Sl h' ei.size v' (c1++c2)/\Tl ei.size v' x'/\St w0 h' (x'::L) w':=by
 have ok:=TT.Ok.get hS ht;have oke:=TT.Ok.get hS he;obtain ⟨xi,zv,hxi,hxs,hxb,hxz,hzl⟩:=oke.info;have hund:P.underlying t=some (.slice el):=by rw [ok.und,hd]
 have one2:=Sl.one s hsz a2;have QH:=Sl.one s hsz a1;have a1':=a1;have tl':=tl;obtain ⟨a,n1,cap,e1,hle,hn1,hat⟩:=a1;obtain ⟨b2,n2,cap2,e2,hle2,hn2,hat2⟩:=a2;obtain ⟨hobj,ta,tn,tc,e3,oZ⟩:=tl;subst e1;subst e2;injection e3 with e3 e4 e5;subst e3;subst e4;subst e5;have hl1:n1<=c1.length:=by rw [hn1];exact ak1 _ hsz
 have hl2:n2<=c2.length:=by rw [hn2];exact ak1 _ hsz
 have hz:Builtin.zeroCells zv.cells=fun n=>⟨(List.replicate n ei.zero).flatten⟩:=by funext n;rw [show zv.cells=⟨ei.zero⟩ from by rw [<-hzl]];refine mW _ _ ?_;intro e;have:=oke.len;rw [e] at this;simp at this;omega
 have hlen:(c1++c2).length=(n1+n2)*ei.size:=by rw [aa7,hn1,hn2,ak6]
 rcases ah0 n2 with h20|h2p
 · --nothing to lay
   subst h20;have hc2:c2=[]:=ad0.1 (by simpa using hn2);subst hc2;refine ⟨.slice a n1 cap,w,h,x,?_,GH.le_refl _,by simpa using a1',tl',s⟩;have hf: ∀w':World,(Builtin.firstCells xi.size 0 (.slice b2 0 cap2)).run P w'= .ok #[] w':=fun w'=>by cases b2<;>simp [Builtin.firstCells,loadCells,loadCellsFrom]
   cases a with
   |none=>simp [Builtin.append_,Go.run_underlying hund,sizeOf,typeInfo,hxi,Builtin.lenOf,hle,hf] |some a=>simp [Builtin.append_,Go.run_underlying hund,sizeOf,typeInfo,hxi,Builtin.lenOf,hle,hf,storeCells]
 ·obtain ⟨b,o2,rfl,y2⟩:=hat2 h2p;have hnews: ∀j u,c2[j]? =some u->w.cell? ((⟨b,o2,none⟩:Addr).add j)=some u:=fun j u hu=>by rw [eA];exact s.imm _ _ _ (y2 j u hu)
  have h63:((n1+n2:Nat):Int)<=9223372036854775807:=by omega
  have hfits: ∀old,old<n1+n2->Builtin.nextslicecap (n1+n2) old*xi.bytes<=281474976710656:=fun old ho=>growslice_fits ho (by
   rw [hxb];have:(n1+n2)*ei.bytes<=1073741824*4096:=an3 (by omega) hby
   omega)
  rcases oZ with ⟨rfl,h0,h1,h2⟩|⟨bb,o,rfl,h0,h1,h2,h3⟩
  · --from nothing
    subst h0;subst h1;have hc1:c1=[]:=ad0.1 (by simpa using hn1);subst hc1;have hr:=run_append_nil (P:=P) w t ty el xi zv hund hxi hxz ⟨b,o2,none⟩ n2 cap2 c2 (by rw [hxs];exact hn2) hnews h2p (by omega) (by
     rw [hxb];have:n2*ei.bytes<=1073741824*4096:=an3 (by omega) hby
     omega)
    obtain ⟨h',x',g1,g2,g3,g4⟩:=xT (w:=w) (el:=el) (nc:=grownCap w n2 0 el) (need:=n2) s one2 hz1 oke.len hn2 (grownCap_ge ..) (arr:=c2.toArray++Builtin.zeroCells zv.cells (grownCap w n2 0 el-n2)) (by rw [hz];apply ag4;simp);exact ⟨_,_,h',x',hr,g1,by simpa using g2,g3,g4⟩
  ·by_cases hcap:n1+n2<=cap
   ·obtain ⟨bx,lox,csx,obx⟩:=x;simp only at hobj h1 h2 h3;subst hobj;subst h1;subst h2;obtain ⟨r,hr⟩:=BX csx c2 (by rw [h3,hn2];exact Nat.mul_le_mul_right _ (by omega));obtain ⟨u1,u2,u3⟩:=dO _ _ _ hr;obtain ⟨w',hw',s'⟩:=hP (P:=P) c2 bx (o+n1*ei.size) 0 w (L1:=[]) s rfl (by simpa using u1) one2 hr;have hre:r=c2++csx.drop c2.length:=by
     apply af2;intro i;rw [u3 i]
     by_cases hi:i<c2.length
     ·rw [iT (by omega),ad6 hi];rfl
     ·rw [iF (by omega),ad1 (by omega),aj6];congr 1;omega
    subst hre;have s2:=St.part s';have s3:=s2.bu;have hle':=s2.dc;have hf:=run_firstCells_some (P:=P) w ei.size n2 ⟨b,o2,none⟩ n2 cap2 c2 hn2 hnews;refine ⟨.slice (some ⟨bx,o,none⟩) (n1+n2) cap,w',_,_,?_,hle',?_,?_,s3⟩
    ·simp [Builtin.append_,Go.run_underlying hund,sizeOf,typeInfo,hxi,Builtin.lenOf,hcap,hxs,hf,eA,hw']
    ·refine ⟨_,_,_,rfl,hcap,hlen,fun hpos=>⟨bx,o,rfl,fun i u hu=>?_⟩⟩
     by_cases hi:i<c1.length
     ·rw [ad6 hi] at hu;have hp:0<n1:=by
       rcases ah0 n1 with e|e
       ·subst e;simp at hn1;subst hn1;simp at hi
       ·exact e
      obtain ⟨b',o',e,y⟩:=hat hp;injection e with e;injection e with e1 e2;subst e1;subst e2;exact hle' _ _ _ (y i u hu)
     ·rw [ad1 (by omega)] at hu;have:=GH.cr h bx (o+n1*ei.size) c2 hu
      rwa [show o+n1*ei.size+(i-c1.length)=o+i by rw [<-hn1];omega] at this
    ·refine ⟨rfl,_,_,_,rfl, .inr ⟨bx,o,rfl,hcap,rfl,?_,?_⟩⟩
     ·simp only [hn2,ak6];omega
     ·simp only [ai0,h3,hn2];rw [<-Nat.sub_mul];congr 1;omega
   ·have hlt:cap<n1+n2:=by omega
    have holds: ∀j u,c1[j]? =some u->w.cell? ((⟨bb,o,none⟩:Addr).add j)=some u:=fun j u hu=>by
     have hp:0<n1:=by
      rcases ah0 n1 with e|e
      ·subst e;simp at hn1;subst hn1;simp at hu
      ·exact e
     obtain ⟨b',o',e,y⟩:=hat hp;injection e with e;injection e with e1 e2;subst e1;subst e2;rw [eA];exact s.imm _ _ _ (y j u hu)
    have hr:=run_append_grow (P:=P) w t ty el xi zv hund hxi hxz ⟨bb,o,none⟩ n1 cap c1 (by rw [hxs];exact hn1) holds ⟨b,o2,none⟩ n2 cap2 c2 (by rw [hxs];exact hn2) hnews hlt h63 (hfits cap hlt)
    obtain ⟨h',x',g1,g2,g3,g4⟩:=xT (w:=w) (el:=el) (nc:=grownCap w (n1+n2) cap el) (need:=n1+n2) s (lK QH one2) hz1 oke.len hlen (grownCap_ge ..)
     (arr:=c1.toArray++c2.toArray++Builtin.zeroCells zv.cells (grownCap w (n1+n2) cap el-(n1+n2))) (by rw [hz];apply ag4;simp)
    exact ⟨_,_,h',x',hr,g1,g2,g3,g4⟩
theorem OG: ∀(l:List Value) (k:Nat) (us:List Value),k+us.length<=l.length-> ∃r',cS l k us=some r'
 | [],k,us,hk=>by
   have h1:k=0:=by simp at hk;exact hk.1
   have h2:us=[]:=by simp at hk;exact hk.2
   subst h1;subst h2;exact ⟨[],by simp [cS]⟩
 |c::l,0,us,hk=>BX (c::l) us (by omega) |c::l,k+1,us,hk=>by obtain ⟨r',hr'⟩:=OG l k us (by simp at hk;omega);exact ⟨c::r',by simp [cS,hr']⟩
def CpAt(v1 v2:Value)(x:a6)(n k1 k2:Nat):Prop:=
 x.obj=none/\ ∃o1 n1 c1 o2 n2 c2,v1= .slice (some ⟨x.b,o1,none⟩) n1 c1/\v2= .slice (some ⟨x.b,o2,none⟩) n2 c2/\o1=x.lo+k1/\o2=x.lo+k2/\n=ao0 n2 n1
def CpPre(sz:Nat)(v1 v2:Value)(x:a6):Prop:= ∃n k1 k2,CpAt v1 v2 x n k1 k2/\k1+n*sz<=x.cs.length/\k2+n*sz<=x.cs.length
def CpY(sz:Nat)(v1 v2:Value)(x:a6)(v:Value)(x':a6):Prop:=
 ∃n k1 k2 r,CpAt v1 v2 x n k1 k2/\v= .int .i64 (n:Nat)/\cS x.cs k1 ((x.cs.drop k2).take (n*sz))=some r/\x'=⟨x.b,x.lo,r,none⟩
theorem NL{P:Program}{S:TT}(hS:S.Ok P){w0 w:World}{h:GH}{L:List a6}{b lo:Nat}{xs:List Value}{t t2 el ty:TypeId}{ti ei:TI}{o1 n1 c1 n2 k:Nat}{v2:Value}{cs r:List Value}
 (ht:S.get t=some ti) (hd:ti.d= .slice el) (he:S.get el=some ei) (s:St w0 h (⟨b,lo,xs,none⟩::L) w) (ho:o1=lo+k) (hlen:Builtin.lenOf v2=pure n2)
 (hcs:(Builtin.firstCells ei.size (ao0 n2 n1) v2).run P w= .ok ⟨cs⟩ w) (one: ∀u,u∈cs->iJ u=true) (hr:cS xs k cs=some r):
 ∃w',(Builtin.copy_ #[t,t2] ty #[.slice (some ⟨b,o1,none⟩) n1 c1,v2]).run P w= .ok (.int .i64 (ao0 n2 n1:Nat)) w'/\St w0 h (⟨b,lo,r,none⟩::L) w':=by
 have ok:=TT.Ok.get hS ht;have hund:P.underlying t=some (.slice el):=by rw [ok.und,hd]
 obtain ⟨u1,u2,u3⟩:=dO _ _ _ hr;obtain ⟨w',h1,h2⟩:=hP (P:=P) cs b o1 0 w (L1:=[]) (k:=k) s (by omega) u1 one hr;refine ⟨w',?_,h2⟩;have hz:(sizeOf el).run P w= .ok ei.size w:=run_sizeOf (TT.Ok.get hS he);simp only [Builtin.copy_,aq1,ak0,af8,aa9,Go.run_underlying hund,aa5,hlen,ab5,hz,hcs,h1,goInt]
def UA(S:TT)(o:Oper)(y1 y2:Operand)(sz:Nat×Bool):Prop:= ∃t t2 el ti ei,o.op= .call ⟨.builtin (match sz.2 with|true=> .append|false=> .copy), #[y1,y2], #[t,t2]⟩/\S.get t=some ti/\ti.d= .slice el/\S.get el=some ei/\0<ei.size/\aP ei.zero=true/\ei.bytes<=4096/\sz.1=ei.size/\(sz.2=true->t2=t)
theorem UA.uniq{S:TT}{o:Oper}{y1 y2 z1 z2:Operand}{sz sz':Nat×Bool}(x:UA S o y1 y2 sz)(y:UA S o z1 z2 sz'):y1=z1/\y2=z2/\sz=sz':=by
 obtain ⟨t,t2,el,ti,ei,a1,a2,a3,a4,_,_,_,a8,_⟩:=x;obtain ⟨t',t2',el',ti',ei',b1,b2,b3,b4,_,_,_,b8,_⟩:=y;obtain ⟨n,c⟩:=sz;obtain ⟨n',c'⟩:=sz';rw [a1] at b1;injection b1 with b1;injection b1 with b0 b1 b1';injection b1 with b1;injection b1 with e1 b1;injection b1 with e2 _;injection b1' with b1';injection b1' with e3 _;subst e1;subst e2;subst e3;rw [a2] at b2;injection b2 with b2;subst b2;rw [a3] at b3;injection b3 with b3;subst b3;rw [a4] at b4;injection b4 with b4;subst b4;have hc:c=c':=by cases c<;>cases c'<;>first|rfl|(injection b0 with b0;cases b0)
 subst hc;exact ⟨rfl,rfl,by rw [show n=n' from a8.trans b8.symm]⟩
def ApPre(h:GH)(sz:Nat×Bool)(v1 v2:Value)(x:a6):Prop:=match sz.2 with
 |true=>Tl sz.1 v1 x/\ ∃c1 c2,Sl h sz.1 v1 c1/\Sl h sz.1 v2 c2/\c1.length+c2.length<=1073741824 |false=>CpPre sz.1 v1 v2 x
def ApY(sz:Nat×Bool)(v1 v2:Value)(x:a6)(v:Value)(h:GH)(x':a6):Prop:=match sz.2 with
 |true=>Tl sz.1 v x'/\ ∃c1 c2,Sl h sz.1 v1 c1/\Sl h sz.1 v2 c2/\Sl h sz.1 v (c1++c2) |false=>CpY sz.1 v1 v2 x v x'
theorem Sl.uniq{h:GH}{sz:Nat}{v:Value}{c c':List Value}(x:Sl h sz v c)(y:Sl h sz v c'):c=c':=by
 obtain ⟨a,n,k,rfl,x2,x3,x4⟩:=x;obtain ⟨a',n',k',e,y2,y3,y4⟩:=y;injection e with e1 e2 e3;subst e1;subst e2;subst e3;rcases ah0 n with h0|hp
 ·subst h0;rw [Nat.zero_mul] at x3 y3;rw [ad0.1 x3,ad0.1 y3]
 ·obtain ⟨b,o,rfl,x5⟩:=x4 hp;obtain ⟨b',o',e,y5⟩:=y4 hp;injection e with e;injection e with e1 e2;subst e1;subst e2;apply af2;intro i
  by_cases hi:i<c.length
  ·have hi':i<c'.length:=by omega
   have h1:=x5 i c[i] (ab6 hi);have h2:=y5 i c'[i] (ab6 hi');rw [h1] at h2;injection h2 with h2;rw [ab6 hi,ab6 hi',h2]
  ·rw [ab4 (by omega),ab4 (by omega)]
end Go.Tp
namespace Go.Tp
open Go Go.RowKit
theorem St.sub{w0 w:World}{h:GH}{L L':List a6}(s:St w0 h L w)(hs:L'.Sublist L):St w0 h L' w:=
 ⟨s.below,s.imm,s.imm1,fun p hp=>s.own p (hs.subset hp),s.dis.sublist hs,s.frz,s.drn⟩
theorem GH.gd{h h':GH}(hl:h.le h'){b o:Nat}(x:h' b o=none):h b o=none:=by
 cases hh:h b o with
 |none=>rfl |some v=>rw [hl _ _ _ hh] at x;cases x
theorem St.less{w0 w:World}{h h':GH}{L:List a6}(s:St w0 h' L w)(hl:h.le h'):St w0 h L w:=
 ⟨s.below,fun b o v x=>s.imm _ _ _ (hl _ _ _ x),fun b o v x=>s.imm1 _ _ _ (hl _ _ _ x),fun p hp=>let q:=s.own p hp
   ⟨q.one,q.cell,q.new,q.warm,fun i hi=>GH.gd hl (q.fresh i hi),q.obj⟩,s.dis,fun b o v x=>s.frz _ _ _ (hl _ _ _ x),s.drn⟩
abbrev aE:=Nat->Option a6
def aE.set(E:aE)(i:Nat)(x:Option a6):aE:=fun j=>if j=i then x else E j
theorem aE.set_comm(E:aE){i j:Nat}(hij:i≠j)(x y:Option a6):(E.set i x).set j y=(E.set j y).set i x:=by
 funext k
 by_cases h1:k=i
 ·subst h1;simp [aE.set,hij]
 ·by_cases h2:k=j
  ·subst h2;simp [aE.set,h1]
  ·simp [aE.set,h1,h2]
theorem aE.dq(E:aE)(i:Nat)(x:Option a6):E.set i x i=x:=by simp [aE.set]
theorem aE.aw(E:aE){i j:Nat}(h:j≠i)(x:Option a6):E.set i x j=E j:=by simp [aE.set,h]
def aE.list(n:Nat)(E:aE):List a6:=(List.range n).filterMap E
def aE.none:aE:=fun _=>Option.none
theorem aE.fg(n:Nat):aE.list n aE.none=[]:=by simp [aE.list,aE.none]
theorem oR(E:aE)(i:Nat)(x:Option a6): ∀(l:List Nat),i∉l->l.filterMap (E.set i x)=l.filterMap E
 | [],_=>rfl |j::l,h=>by have hj:j≠i:=fun e=>h (by simp [e]);have ht:i∉l:=fun e=>h (aa8 _ e);simp only [ao2,aE.aw E hj,oR E i x l ht]
theorem wL(E:aE)(i:Nat)(x:a6): ∀(l:List Nat),l.Nodup->i∈l->(l.filterMap (E.set i (some x))).Perm (x::l.filterMap (E.set i Option.none))
 | [],_,h=>by cases h |j::l,hn,h=>by
  have hn':=ao4.1 hn
  by_cases hj:j=i
  ·subst hj;simp only [ao2,aE.dq];rw [oR E j (some x) l hn'.1,oR E j Option.none l hn'.1]
  ·have hm:i∈l:=by
    rcases ab0.1 h with e|e
    ·exact absurd e.symm hj
    ·exact e
   have ih:=wL E i x l hn'.2 hm;simp only [ao2,aE.aw E hj];cases E j with
   |none=>exact ih |some y=>exact (ih.cons y).trans (List.Perm.swap ..)
theorem aE.dp(E:aE)(i:Nat):E.set i (E i)=E:=by
 funext k;simp only [aE.set];by_cases h:k=i
 ·rw [iT h,h]
 ·rw [iF h]
theorem aE.cz{n i:Nat}(hi:i<n)(E:aE)(x:a6):(aE.list n (E.set i (some x))).Perm (x::aE.list n (E.set i Option.none)):=
 wL E i x _ List.nodup_range (by simpa using hi)
theorem aE.de{n i:Nat}(hi:i<n){E:aE}{x:a6}(h:E i=some x):(aE.list n E).Perm (x::aE.list n (E.set i Option.none)):=by
 have:=aE.cz hi E x
 rwa [show E.set i (some x)=E from by rw [<-h];exact aE.dp E i] at this
theorem aE.ic{n i:Nat}(hi:i<n)(E:aE):(aE.list n E).Perm ((E i).toList++aE.list n (E.set i Option.none)):=by
 cases h:E i with
 |none=>rw [show E.set i Option.none=E from by rw [<-h];exact aE.dp E i];exact .refl _ |some x=>exact aE.de hi h
theorem aE.ie{n i:Nat}(hi:i<n)(E:aE)(x:Option a6):(aE.list n (E.set i x)).Perm (x.toList++aE.list n (E.set i Option.none)):=by
 cases x with
 |none=>exact .refl _ |some x=>exact aE.cz hi E x
def fT(E:aE):List Nat->GH->GH
 | [],h=>h |j::D,h=>match E j with
  |some x=>fT E D (h.add x.b x.lo x.cs) |Option.none=>fT E D h
def pP:List Nat->aE->aE
 | [],E=>E |j::D,E=>pP D (E.set j Option.none)
theorem kD: ∀(D:List Nat) (E:aE) (k:Nat),pP D E k=if k∈D then Option.none else E k
 | [],E,k=>by simp [pP] |j::D,E,k=>by
  rw [pP,kD D]
  by_cases h1:k∈D
  ·simp [h1]
  ·by_cases h2:k=j
   ·subst h2;simp [h1,aE.dq]
   ·simp [h1,h2,aE.aw E h2]
theorem hF{E E':aE}: ∀(D:List Nat) (h:GH),(∀j,j∈D->E j=E' j)->fT E D h=fT E' D h
 | [],_,_=>rfl |j::D,h,hj=>by
  simp only [fT,hj j (aa4 ..)];cases E' j with
  |none=>exact hF D h fun k hk=>hj k (aa8 _ hk) |some x=>exact hF D _ fun k hk=>hj k (aa8 _ hk)
theorem xF{E:aE}{D:List Nat}{i:Nat}{x:Option a6}(hi:i∉D):pP D (E.set i x)=(pP D E).set i x:=by
 funext k;rw [kD]
 by_cases hk:k=i
 ·subst hk;rw [iF hi,aE.dq,aE.dq]
 ·rw [aE.aw _ hk,aE.aw _ hk,kD]
inductive Kd where
 |qt|mk|cl|st|ap
def kd(o:Oper):Kd:=match o.op with
 | .alloc _=> .mk | .box _ _=> .mk
 | .makeMap _ none=> .mk | .buildSlice _ _ _=> .mk
 | .call c=>match c.callee with
   | .value _=> .cl | .builtin .append=> .ap
   | .builtin .copy=> .ap |_=> .qt
 | .store _ _ _=> .st |_=> .qt
def sF(o:Oper):Bool:=match kd o with
 | .cl=>true | .ap=>true
 |_=>false
def wH(o:Oper)(a:Act):Option (FuncId×List Value):=match o.op with
 | .call c=>match c.callee with
   | .value x=>match a.eval x with
     | .func (.func f) fst cap=>some (f,fst.toList++(c.args.toList.map a.eval++cap.toList)) |_=>none
   |_=>none
 |_=>none
def wW(S:TT)(ρ:Operand->Option Value)(t:TypeId)(len:Nat)(parts:List (Nat×Operand)):Option (List Value):=
 match S.get t with
 |some ti=>match ti.d with
  | .slice el=>match S.get el with
    |some ei=>match Nat.beq (len*ei.size) 0 with
     |true=>none |false=>match Nat.ble (len*ei.size) 16777216 with
      |true=>tZ (fun i=>some (i*ei.size,ei.size)) ρ parts ((List.replicate len ei.zero).flatten) |false=>none
    |none=>none
  |_=>none
 |none=>none
inductive Msh where
 |ptr|sl (n:Nat)|mp
def y7(S:TT)(o:Oper)(a:Act):Option (List Value×Msh):=match o.op with
 | .alloc t=>match S.get t with
   |some ti=>some (ti.zero, .ptr) |none=>none
 | .box _ x=>some (aI (a.eval x), .ptr) | .makeMap _ none=>some ([], .mp)
 | .buildSlice t len parts=>match wW S (fun x=>some (a.eval x)) t len parts.toList with
   |some cs=>some (cs, .sl len) |none=>none
 |_=>none
def AK:Msh->Nat->Value
 | .ptr,b=> .pointer (some ⟨b,0,Option.none⟩) | .sl n,b=> .slice (some ⟨b,0,Option.none⟩) n n
 | .mp,b=> .map (some b)
def mkObj:Msh->Option Obj
 | .mp=>some (.map #[] 0) |_=>none
abbrev AJ(sh:Msh)(b:Nat)(cs:List Value):a6:=⟨b,0,cs,mkObj sh⟩
def WL(o:Oper)(a:Act):Option (TypeId×Nat×Nat×Value):=match o.op with
 | .store t p y=>match a.eval p with
   | .pointer (some ⟨b,off,Option.none⟩)=>some (t,b,off,a.eval y) |_=>none
 |_=>none
def VM(o:Oper)(a:Act):Option (TypeId×Nat×Nat):=match o.op with
 | .load t p=>match a.eval p with
   | .pointer (some ⟨b,off,Option.none⟩)=>some (t,b,off) |_=>none
 |_=>none
def q7(E:aE)(ps:List Nat)(h:GH):Prop:=h.le (fT E ps h)/\ ∀j,j∈ps-> ∀x,E j=some x-> ∀i v,x.cs[i]? =some v->fT E ps h x.b (x.lo+i)=some v
theorem q7.congr{E E':aE}{ps:List Nat}{h:GH}(he: ∀j,j∈ps->E j=E' j)(r:q7 E ps h):q7 E' ps h:=by have hH:=hF ps h he;refine ⟨hH▸r.1,fun j hj x hx=>?_⟩;rw [<-hH];exact r.2 j hj x (by rw [he j hj];exact hx)
structure Rg where
 C:nY
 all:Array Oper
 L0:List a6
 pubs:Nat->List Nat
 Y:Nat->List Value->Value->GH->Prop
 Fin:Act->GH->aE->Prop
def Rg.Rz(G:Rg)(h:GH):Prop:= ∃w,St G.C.w0 h G.L0 w
def Rg.live(G:Rg)(h:GH)(E:aE)(w:World):Prop:=St G.C.w0 h (aE.list G.all.size E++G.L0) w
def Rg.dg(G:Rg)(o:Oper)(a:Act)(h:GH)(v:Value):Prop:= ∀E w,St G.C.w0 h (E++G.L0) w->(execOp a.eval o).run G.C.P w= .ok (.value v) w
def Rg.kc(G:Rg)(i:Nat)(o:Oper)(a:Act)(E:aE)(v:Value):Prop:=
 ∃s t b off x ti,G.pubs i=[s]/\VM o a=some (t,b,off)/\G.C.S.get t=some ti/\E s=some x/\x.b=b/\S1 ti x off=some v
def Rg.Qt(G:Rg)(i:Nat)(o:Oper)(a:Act)(h:GH)(E:aE)(v:Value):Prop:=G.dg o a h v\/G.kc i o a E v
def fS(x:Nat):List Nat->Bool
 | []=>false |y::l=>Nat.beq x y||fS x l
theorem fG{x:Nat}: ∀{l:List Nat},fS x l=true↔x∈l
 | []=>by simp [fS] |y::l=>by simp [fS,fG (l:=l),Nat.beq_eq]
def fr2:List Nat->Bool
 | [_,_]=>true |_=>false
def Rg.Node(G:Rg)(i:Nat)(o:Oper)(a:Act)(h:GH)(E:aE)(K:Act->GH->aE->Prop):Prop:=
 match c9 G.all o a with
 |false=>K (a.put o.dst undef) h E |true=>match kd o with
  | .qt=> ∃v,G.Qt i o a h E v/\K (a.put o.dst v) h E | .mk=> ∃cs sh,y7 G.C.S o a=some (cs,sh)/\aP cs=true/\E i=none/\ ∀b,K (a.put o.dst (AK sh b)) h (E.set i (some (AJ sh b cs)))
  | .cl=>match fS i (G.pubs i) with
    |false=> ∃f args,wH o a=some (f,args)/\
     (q7 E (G.pubs i) h-> ∀L,bM G.C.P G.C.w0 f args (fT E (G.pubs i) h) (L++G.L0) (fun v h' L'=>L'=L++G.L0/\(fT E (G.pubs i) h).le h'/\G.Y i args v h'))/\
     ∀v h',(fT E (G.pubs i) h).le h'->h.le h'->G.Rz h'->G.Y i args v h'->K (a.put o.dst v) h' (pP (G.pubs i) E)
    |true=> ∃f args,∃Q:Value->GH->Option a6->Prop,(fr2 (G.pubs i)=true->E i=none)/\wH o a=some (f,args)/\(∀L,bM G.C.P G.C.w0 f args h ((E i).toList++(L++G.L0)) (fun v h' L'=> ∃x',(Option.toList x'++(L++G.L0)).Sublist L'/\h.le h'/\Q v h' x'))/\
     ∀v h' x',h.le h'->G.Rz h'->Q v h' x'->K (a.put o.dst v) h' (E.set i x')
  | .st=> ∃t b off v j x x' ti,WL o a=some (t,b,off,v)/\G.C.S.get t=some ti/\G.pubs i=[j]/\E j=some x/\x.b=b/\Q6 ti x off v=some x'/\o.dst=none/\K a h (E.set j (some x')) | .ap=>match fS i (G.pubs i) with
    |false=> ∃y1 y2 sz x,UA G.C.S o y1 y2 sz/\E i=some x/\i∉G.pubs i/\(q7 E (G.pubs i) h->ApPre (fT E (G.pubs i) h) sz (a.eval y1) (a.eval y2) x)/\
     ∀v h' x',q7 E (G.pubs i) h->(fT E (G.pubs i) h).le h'->h.le h'->G.Rz h'->ApY sz (a.eval y1) (a.eval y2) x v h' x'->K (a.put o.dst v) h' ((pP (G.pubs i) E).set i (some x'))
    |true=> ∀w,G.live h E w-> ∃v w' h' E',(execOp a.eval o).run G.C.P w= .ok (.value v) w'/\G.live h' E' w'/\h.le h'/\K (a.put o.dst v) h' E'
def Rg.W(G:Rg):List Nat->Act->GH->aE->Prop
 | [],a,h,E=>G.Fin a h E |i::π,a,h,E=> ∃o,G.all[i]? =some o/\G.Node i o a h E (G.W π)
def VC(o:Oper):Bool:=match o.guard with
 |none=>match o.op with
  | .move _=>true |_=>false
 |some _=>false
theorem GA{o:Oper}(h:VC o=true):o.guard=none/\ ∃z,o.op= .move z:=by
 unfold VC at h;split at h
 ·rename_i hg;split at h
  ·rename_i z hop;exact ⟨hg,z,hop⟩
  ·cases h
 ·cases h
theorem SR{o:Oper}(h:VC o=true):kd o= .qt:=by obtain ⟨_,z,e⟩:=GA h;unfold kd;rw [e]
theorem FX{all:Array Oper}{x y:Oper}(hap:x.apart all y=true)(a:Act)(u:Value){z:Operand}(hz:z∈y.op.operands.toList):(a.put x.dst u).eval z=a.eval z:=by
 cases z with
 |tmp t=>
  cases hx:x.dst with
  |none=>rfl |some d=>
   have h1:=(Oper.apart_spec hap).1 d hx;have hne:t≠d:=by intro e;subst e;apply h1;unfold Oper.looksAt;apply ac9;rw [List.mem_filterMap];exact ⟨_,hz,rfl⟩
   simp only [Act.eval,ah4,getElem?_put_ne hne]
 |const v=>rfl |global g=>rfl
 |func f=>rfl
section looks
variable{G:Rg}{oi oj:Oper}{a:Act}{u:Value}
theorem uL{x y:Oper}(hap:x.apart G.all y=true)(hsel: ∀cs b,y.op≠ .select cs b)(a:Act)(u:Value):execOp (a.put x.dst u).eval y=execOp a.eval y:=
 execOp_put y hsel a x.dst u (Oper.apart_spec hap).1
theorem KL{x y:Oper}(hap:x.apart G.all y=true)(a:Act)(u:Value):c9 G.all y (a.put x.dst u)=c9 G.all y a:=
 wanted_put y a x.dst u (Oper.apart_spec hap).1
theorem apart_symm{x y:Oper}(hap:x.apart G.all y=true):y.apart G.all x=true:=by
 obtain ⟨h1,h2,h3⟩:=Oper.apart_spec hap;unfold Oper.apart;cases hy:y.dst with
 |none=>
  cases hx:x.dst with
  |none=>rfl |some d=>simp only [Bool.true_and];simpa using h1 d hx
 |some d=>
  cases hx:x.dst with
  |none=>simpa using h3 d hy |some d'=>
   have e1:=h1 d' hx;have e2:=h2 d' hx;have e3:=h3 d hy;rw [hy] at e2;simp only [aa1];refine ⟨⟨by simpa using e3,?_⟩,by simpa using e1⟩;simp only [bne_iff_ne,ne_eq];exact fun e=>e2 e.symm
theorem V3{x y:Oper}(hap:x.apart G.all y=true)(a:Act)(u v:Value):(a.put x.dst u).put y.dst v=(a.put y.dst v).put x.dst u:=
 Act.put_comm a u v (Oper.apart_spec hap).2.1
theorem eval_put{x y:Oper}(hap:x.apart G.all y=true)(a:Act)(u:Value){z:Operand}(hz:z∈y.op.operands.toList):(a.put x.dst u).eval z=a.eval z:=by
 cases z with
 |tmp t=>
  cases hx:x.dst with
  |none=>rfl |some d=>
   have h1:=(Oper.apart_spec hap).1 d hx;have hne:t≠d:=by intro e;subst e;apply h1;unfold Oper.looksAt;apply ac9;rw [List.mem_filterMap];exact ⟨_,hz,rfl⟩
   simp only [Act.eval,ah4,getElem?_put_ne hne]
 |const v=>rfl |global g=>rfl
 |func f=>rfl
theorem jM{x y:Oper}(hap:x.apart G.all y=true)(a:Act)(u:Value):wH y (a.put x.dst u)=wH y a:=by
 unfold wH;cases hop:y.op<;>try rfl
 rename_i c;simp only;cases hc:c.callee with
 |value z=>
  have h1:(a.put x.dst u).eval z=a.eval z:=eval_put hap a u (by simp [hop,Op.operands,Call.operands,hc]);have h2:c.args.toList.map (a.put x.dst u).eval=c.args.toList.map a.eval:=
   List.map_congr_left fun z hz=>eval_put hap a u (by rw [hop];simp only [Op.operands,Call.operands,hc,Array.toList_append];exact ae6 _ hz)
  simp only [h1,h2]
 |invoke r m=>rfl |builtin b=>rfl
theorem C9{place:Nat->Option (Nat×Nat)}{ρ ρ':Operand->Option Value}: ∀(parts:List (Nat×Operand)) (cs:List Value),(∀p,p∈parts->ρ p.2=ρ' p.2)->tZ place ρ parts cs=tZ place ρ' parts cs
 | [],_,_=>rfl |(i,x)::r,cs,hp=>by
  have h1:=hp (i,x) (aa4 ..);simp only at h1;simp only [tZ,h1];cases ρ' x with
  |none=>rfl |some v=>
   simp only;cases place i with
   |none=>rfl |some q=>
    obtain ⟨off,sz⟩:=q;simp only;split
    ·split
     ·exact C9 r _ fun p hp'=>hp p (aa8 _ hp')
     ·rfl
    ·rfl
theorem iV{S:TT}{x y:Oper}(hap:x.apart G.all y=true)(a:Act)(u:Value):y7 S y (a.put x.dst u)=y7 S y a:=by
 unfold y7;cases hop:y.op<;>try rfl
 case makeMap t r=>cases r<;>rfl
 case box t z=>
  have h1:(a.put x.dst u).eval z=a.eval z:=eval_put hap a u (by simp [hop,Op.operands]);simp only [h1]
 case buildSlice t len parts=>
  have:wW S (fun x_1=>some ((a.put x.dst u).eval x_1)) t len parts.toList=wW S (fun x=>some (a.eval x)) t len parts.toList:=by
   unfold wW;split
   ·split
    ·split
     ·split
      ·rfl
      ·split
       ·refine C9 _ _ fun p hp=>?_;rw [eval_put hap a u];simp only [hop,Op.operands,List.toList_toArray,List.mem_map];exact ⟨p,hp,rfl⟩
       ·rfl
     ·rfl
    ·rfl
   ·rfl
  simp only [this]
theorem kH{x y:Oper}(hap:x.apart G.all y=true)(a:Act)(u:Value):WL y (a.put x.dst u)=WL y a:=by
 unfold WL;cases hop:y.op<;>try rfl
 case store t p z=>
  have h1:(a.put x.dst u).eval p=a.eval p:=eval_put hap a u (by simp [hop,Op.operands]);have h2:(a.put x.dst u).eval z=a.eval z:=eval_put hap a u (by simp [hop,Op.operands]);simp only [h1,h2]
theorem ZW{x y:Oper}(hap:x.apart G.all y=true)(a:Act)(u:Value):VM y (a.put x.dst u)=VM y a:=by
 unfold VM;cases hop:y.op<;>try rfl
 case load t p=>
  have h1:(a.put x.dst u).eval p=a.eval p:=eval_put hap a u (by simp [hop,Op.operands]);simp only [h1]
end looks
theorem Rg.Qt.congr{G:Rg}{i:Nat}{o:Oper}{a:Act}{h:GH}{E E':aE}{v:Value}(he: ∀s,s∈G.pubs i->E s=E' s)(x:G.Qt i o a h E v):G.Qt i o a h E' v:=by
 rcases x with x|⟨s,t,b,off,y,ti,x1,x2,x3,x4,x5,x6⟩
 ·exact .inl x
 ·exact .inr ⟨s,t,b,off,y,ti,x1,x2,x3,by rw [<-he s (by rw [x1];exact aa3.2 T)];exact x4,x5,x6⟩
theorem UA.put{S:TT}{x y:Oper}{all:Array Oper}{y1 y2:Operand}{sz:Nat×Bool}(q:UA S y y1 y2 sz)(hap:x.apart all y=true)(a:Act)(u:Value):(a.put x.dst u).eval y1=a.eval y1/\(a.put x.dst u).eval y2=a.eval y2:=by obtain ⟨t,t2,el,ti,ei,h1,_⟩:=q;exact ⟨FX hap a u (by rw [h1];simp [Op.operands,Call.operands]),FX hap a u (by rw [h1];simp [Op.operands,Call.operands])⟩
theorem Rg.dg.uniq{G:Rg}{o:Oper}{a:Act}{h:GH}{v v':Value}(z:G.Rz h)(x:G.dg o a h v)(y:G.dg o a h v'):v=v':=by obtain ⟨w,s⟩:=z;have e1:=x [] w s;have e2:=y [] w s;rw [e1] at e2;injection e2 with e2;injection e2
theorem Rg.Qt.quiet{G:Rg}{i:Nat}{o:Oper}{a:Act}{h:GH}{E:aE}{v:Value}(hp:G.pubs i=[])(x:G.Qt i o a h E v):G.dg o a h v:=by
 rcases x with x|⟨s,t,b,off,y,ti,x1,_⟩
 ·exact x
 ·rw [hp] at x1;cases x1
theorem Rg.Qt.put{G:Rg}{i:Nat}{oi oj:Oper}{a:Act}{h:GH}{E:aE}{u v:Value}(hap:oj.apart G.all oi=true)(hsi: ∀cs b,oi.op≠ .select cs b):G.Qt i oi (a.put oj.dst u) h E v↔G.Qt i oi a h E v:=by unfold Rg.Qt Rg.dg Rg.kc;rw [uL hap hsi a u,ZW hap a u]
theorem Rg.dg.mono{G:Rg}{o:Oper}{a:Act}{h h':GH}{v:Value}(hl:h.le h')(x:G.dg o a h v):G.dg o a h' v:=fun E w s=>x E w (s.less hl)
theorem Rg.Qt.mono{G:Rg}{i:Nat}{o:Oper}{a:Act}{h h':GH}{E:aE}{v:Value}(hl:h.le h')(x:G.Qt i o a h E v):G.Qt i o a h' E v:=x.imp (fun x=>x.mono hl) id
theorem Rg.Node.map{G:Rg}{i:Nat}{o:Oper}{a:Act}{h:GH}{E:aE}{K K':Act->GH->aE->Prop}(hk: ∀a h E,K a h E->K' a h E)(x:G.Node i o a h E K):G.Node i o a h E K':=by
 unfold Rg.Node at*;split
 ·rename_i h0;rw [h0] at x;exact hk _ _ _ x
 ·rename_i h0;rw [h0] at x;simp only at x;split
  ·rename_i h1;rw [h1] at x;obtain ⟨v,x1,x2⟩:=x;exact ⟨v,x1,hk _ _ _ x2⟩
  ·rename_i h1;rw [h1] at x;obtain ⟨cs,sh,x1,x2,x3,x4⟩:=x;exact ⟨cs,sh,x1,x2,x3,fun b=>hk _ _ _ (x4 b)⟩
  ·rename_i h1;rw [h1] at x;simp only at x;split
   ·rename_i h2;rw [h2] at x;obtain ⟨f,args,x1,x2,x3⟩:=x;exact ⟨f,args,x1,x2,fun v h' y1 y2 y3 y4=>hk _ _ _ (x3 v h' y1 y2 y3 y4)⟩
   ·rename_i h2;rw [h2] at x;obtain ⟨f,args,Q,x0,x1,x2,x3⟩:=x;exact ⟨f,args,Q,x0,x1,x2,fun v h' x' y1 y2 y3=>hk _ _ _ (x3 v h' x' y1 y2 y3)⟩
  ·rename_i h1;rw [h1] at x;obtain ⟨t,b,off,v,j,y,y',ti,x1,x2,x3,x4,x5,x6,x7,x8⟩:=x;exact ⟨t,b,off,v,j,y,y',ti,x1,x2,x3,x4,x5,x6,x7,hk _ _ _ x8⟩
  ·rename_i h1;rw [h1] at x;simp only at x;split
   ·rename_i h2;rw [h2] at x;obtain ⟨y1,y2,sz,y,x1,x2,x3,x4,x5⟩:=x;exact ⟨y1,y2,sz,y,x1,x2,x3,x4,fun v h' x' z0 z1 z2 z3 z4=>hk _ _ _ (x5 v h' x' z0 z1 z2 z3 z4)⟩
   ·rename_i h2;rw [h2] at x;exact fun w s=>let ⟨v,w',h',E',x1,x2,x3,x4⟩:=x w s;⟨v,w',h',E',x1,x2,x3,hk _ _ _ x4⟩
theorem Rg.swap{G:Rg}{i j:Nat}{oi oj:Oper}{a:Act}{h:GH}{E:aE}{K:Act->GH->aE->Prop}(hij:i≠j)(hap:oj.apart G.all oi=true)(hcall:sF oj=false\/kd oj= .cl/\fS j (G.pubs j)=true/\fr2 (G.pubs j)=true/\kd oi= .mk)
 (hsi: ∀cs b,oi.op≠ .select cs b) (hsj: ∀cs b,oj.op≠ .select cs b)
 (hii:fS i (G.pubs i)=false\/VC oj=true/\kd oi= .ap\/kd oj= .qt/\kd oi= .cl\/kd oj= .qt/\G.pubs j=[]/\kd oi= .ap) (hi1:j∉G.pubs i) (hj1:i∉G.pubs j) (hd:kd oi≠ .qt\/kd oj≠ .qt-> ∀k,k∈G.pubs i->k∉G.pubs j) (hm:kd oi= .qt->kd oj= .mk->G.pubs i=[]) (z:G.Rz h)
 (x:G.Node j oj a h E (fun a' h' E'=>G.Node i oi a' h' E' K)):G.Node i oi a h E (fun a' h' E'=>G.Node j oj a' h' E' K):=by
 have hap':=apart_symm (G:=G) hap;have onj: ∀u,c9 G.all oj (a.put oi.dst u)=c9 G.all oj a:=fun u=>KL hap' a u;have oni: ∀u,c9 G.all oi (a.put oj.dst u)=c9 G.all oi a:=fun u=>KL hap a u;have cm: ∀u v,(a.put oj.dst u).put oi.dst v=(a.put oi.dst v).put oj.dst u:=fun u v=>V3 hap a u v;have qi: ∀(g:GH) E u v,G.Qt i oi (a.put oj.dst u) g E v↔G.Qt i oi a g E v:=fun g E u v=>Rg.Qt.put hap hsi;have qj: ∀(g:GH) E u v,G.Qt j oj (a.put oi.dst u) g E v↔G.Qt j oj a g E v:=fun g E u v=>Rg.Qt.put hap' hsj;have nj: ∀k,k∈G.pubs j->k≠i:=fun k hk e=>hj1 (e▸hk);have ni: ∀k,k∈G.pubs i->k≠j:=fun k hk e=>hi1 (e▸hk);unfold Rg.Node at x;cases hoj:c9 G.all oj a with
 |false=>
  rw [hoj] at x;simp only at x;unfold Rg.Node;rw [oni] at x;cases hoi:c9 G.all oi a with
  |false=>
   rw [hoi] at x;simp only at x⊢;rw [onj,hoj];simp only;rw [<-cm];exact x
  |true=>
   rw [hoi] at x;simp only at x⊢;cases hk:kd oi with
   |qt=>
    rw [hk] at x;simp only at x⊢;obtain ⟨v,x1,x2⟩:=x;refine ⟨v,(qi _ _ _ _).1 x1,?_⟩;rw [onj,hoj];simp only;rw [<-cm];exact x2
   |mk=>
    rw [hk] at x;simp only at x⊢;obtain ⟨cs,sh,x1,x2,x3,x4⟩:=x;rw [iV hap] at x1;refine ⟨cs,sh,x1,x2,x3,fun b=>?_⟩;rw [onj,hoj];simp only;rw [<-cm];exact x4 b
   |cl=>
    cases hfl:fS i (G.pubs i) with
    |true=>
     rw [hk] at x;simp only [hfl] at x⊢;obtain ⟨f,args,Q,x0,x1,x2,x3⟩:=x;rw [jM hap] at x1;refine ⟨f,args,Q,x0,x1,x2,fun v h' x' y1 y2 y3=>?_⟩;rw [onj,hoj];simp only;rw [<-cm];exact x3 v h' x' y1 y2 y3
    |false=>
    rw [hk] at x;simp only [hfl] at x⊢;obtain ⟨f,args,x1,x2,x3⟩:=x;rw [jM hap] at x1;refine ⟨f,args,x1,x2,fun v h' y1 y2 y3 y4=>?_⟩;rw [onj,hoj];simp only;rw [<-cm];exact x3 v h' y1 y2 y3 y4
   |st=>
    rw [hk] at x;simp only at x⊢;obtain ⟨t,b,off,v,s,y,y',ti,x1,x2,x3,x4,x5,x6,x7,x8⟩:=x;rw [kH hap] at x1;refine ⟨t,b,off,v,s,y,y',ti,x1,x2,x3,x4,x5,x6,x7,?_⟩;rw [hoj];exact x8
   |ap=>
    cases hii:fS i (G.pubs i) with
    |true=>
     rw [hk] at x;simp only [hii] at x⊢;intro w s;obtain ⟨v,w',h',E',x1,x2,x3,x4⟩:=x w s;rw [uL hap hsi a undef] at x1;refine ⟨v,w',h',E',x1,x2,x3,?_⟩;rw [onj,hoj];simp only;rw [<-cm];exact x4
    |false=>
    rw [hk] at x;simp only [hii] at x⊢;obtain ⟨y1,y2,sz,y,x1,x2,x3,x4,x5⟩:=x;obtain ⟨p1,p2⟩:=x1.put hap a undef;rw [p1,p2] at x4 x5;refine ⟨y1,y2,sz,y,x1,x2,x3,x4,fun v h' x' z0 z1 z2 z3 z4=>?_⟩;rw [onj,hoj];simp only;rw [<-cm];exact x5 v h' x' z0 z1 z2 z3 z4
 |true=>
  rw [hoj] at x;simp only at x;cases hkj:kd oj with
  |cl=>
   obtain ⟨_,hfj,hf2,hk⟩:=hcall.resolve_left (fun e=>by simp [sF,hkj] at e);rw [hkj] at x;simp only [hfj] at x;obtain ⟨f,args,Q,x0,x1,x2,x3⟩:=x;have x0':=x0 hf2;unfold Rg.Node;cases hoi:c9 G.all oi a with
   |false=>
    simp only;rw [onj,hoj,hkj];simp only [hfj];refine ⟨f,args,Q,x0,by rw [jM hap'];exact x1,x2,fun v h' x' y1 y2 y3=>?_⟩;have:=x3 v h' x' y1 y2 y3;unfold Rg.Node at this;rw [oni,hoi] at this;simp only at this;rw [<-cm];exact this
   |true=>
    rw [hk];simp only;have key: ∀v h' x',h.le h'->G.Rz h'->Q v h' x'-> ∃cs sh,y7 G.C.S oi a=some (cs,sh)/\aP cs=true/\E i=none/\ ∀b,K ((a.put oj.dst v).put oi.dst (AK sh b)) h' ((E.set j x').set i (some (AJ sh b cs))):=by intro v h' x' y1 y2 y3;have:=x3 v h' x' y1 y2 y3;unfold Rg.Node at this;rw [oni,hoi,hk] at this;simp only at this;obtain ⟨cs,sh,z1,z2,z3,z4⟩:=this;rw [iV hap] at z1;rw [aE.aw E hij] at z3;exact ⟨cs,sh,z1,z2,z3,z4⟩
    obtain ⟨cs,sh,w1,w2,w3⟩: ∃cs sh,y7 G.C.S oi a=some (cs,sh)/\aP cs=true/\E i=none:=by obtain ⟨w,s⟩:=z;have d:=x2 [];rw [x0'] at d;obtain ⟨_,w',_,⟨v,h',L',_,⟨x',q1,q2,q3⟩,q4⟩,_⟩:=d.2 w s [];obtain ⟨cs,sh,z1,z2,z3,_⟩:=key v h' x' q2 ⟨w',q4.sub ((af9 _ _).trans q1)⟩ q3;exact ⟨cs,sh,z1,z2,z3⟩
    refine ⟨cs,sh,w1,w2,w3,fun b=>?_⟩;rw [onj,hoj,hkj];simp only [hfj];refine ⟨f,args,Q,fun _=>by rw [aE.aw E (Ne.symm hij)];exact x0',by rw [jM hap'];exact x1,fun L=>by rw [aE.aw E (Ne.symm hij)];exact x2 L,fun v h' x' y1 y2 y3=>?_⟩;obtain ⟨cs',sh',z1,_,_,z4⟩:=key v h' x' y1 y2 y3;rw [w1] at z1;injection z1 with z1;injection z1 with e1 e2;subst e1;subst e2;rw [<-cm,aE.set_comm E hij];exact z4 b
  |ap=>exact absurd (hcall.resolve_right (fun e=>by rw [hkj] at e;cases e.1)) (by simp [sF,hkj]) |qt=>
   rw [hkj] at x;simp only at x;obtain ⟨vj,j1,x⟩:=x;unfold Rg.Node;rw [oni] at x;cases hoi:c9 G.all oi a with
   |false=>
    rw [hoi] at x;simp only at x⊢;rw [onj,hoj,hkj];exact ⟨vj,(qj _ _ _ _).2 j1,by rw [<-cm];exact x⟩
   |true=>
    rw [hoi] at x;simp only at x⊢;cases hk:kd oi with
    |qt=>
     rw [hk] at x;simp only at x⊢;obtain ⟨v,x1,x2⟩:=x;refine ⟨v,(qi _ _ _ _).1 x1,?_⟩;rw [onj,hoj,hkj];exact ⟨vj,(qj _ _ _ _).2 j1,by rw [<-cm];exact x2⟩
    |mk=>
     rw [hk] at x;simp only at x⊢;obtain ⟨cs,sh,x1,x2,x3,x4⟩:=x;rw [iV hap] at x1;refine ⟨cs,sh,x1,x2,x3,fun b=>?_⟩;rw [onj,hoj,hkj];exact ⟨vj,((qj _ _ _ _).2 j1).congr fun k hk=>(aE.aw E (nj k hk) _).symm,by rw [<-cm];exact x4 b⟩
    |cl=>
     cases hfl:fS i (G.pubs i) with
     |true=>
      rw [hk] at x;simp only [hfl] at x⊢;obtain ⟨f,args,Q,x0,x1,x2,x3⟩:=x;rw [jM hap] at x1;refine ⟨f,args,Q,x0,x1,x2,fun v h' x' y1 y2 y3=>?_⟩;rw [onj,hoj,hkj];exact ⟨vj,((qj _ _ _ _).2 (j1.mono y1)).congr fun k hk=>(aE.aw E (nj k hk) _).symm,by rw [<-cm];exact x3 v h' x' y1 y2 y3⟩
     |false=>
     rw [hk] at x;simp only [hfl] at x⊢;obtain ⟨f,args,x1,x2,x3⟩:=x;rw [jM hap] at x1;refine ⟨f,args,x1,x2,fun v h' y1 y2 y3 y4=>?_⟩;have hd:=hd (.inl (by rw [hk];intro e;cases e));rw [onj,hoj,hkj];exact ⟨vj,((qj _ _ _ _).2 (j1.mono y2)).congr fun k hk=>(by rw [kD,iF (fun h1=>hd k h1 hk)]),by rw [<-cm];exact x3 v h' y1 y2 y3 y4⟩
    |st=>
     rw [hk] at x;simp only at x⊢;obtain ⟨t,b,off,v,s,y,y',ti,x1,x2,x3,x4,x5,x6,x7,x8⟩:=x;rw [kH hap] at x1;refine ⟨t,b,off,v,s,y,y',ti,x1,x2,x3,x4,x5,x6,x7,?_⟩;have hd:=hd (.inl (by rw [hk];intro e;cases e));rw [hoj,hkj];exact ⟨vj,j1.congr fun k hk=>(aE.aw E (fun e=>hd s (by rw [x3];exact aa3.2 T) (by rw [<-e];exact hk)) _).symm,x8⟩
    |ap=>
     cases hfl:fS i (G.pubs i) with
     |true=>
      have hq:G.dg oj a h vj:=by
       rcases (hii.resolve_left (fun e=>by rw [hfl] at e;cases e)) with ⟨hmv,_⟩|⟨_,e⟩|⟨_,e,_⟩
       ·obtain ⟨_,zz,hop⟩:=GA hmv;rcases j1 with j1|⟨_,t,b,off,_,_,_,u2,_⟩
        ·exact j1
        ·unfold VM at u2;rw [hop] at u2;cases u2
       ·rw [hk] at e;cases e
       ·exact j1.quiet e
      rw [hk] at x;simp only [hfl] at x⊢;intro w s;obtain ⟨v,w',h',E',x1,x2,x3,x4⟩:=x w s;rw [uL hap hsi a vj] at x1;refine ⟨v,w',h',E',x1,x2,x3,?_⟩;rw [onj,hoj,hkj];exact ⟨vj,(qj _ _ _ _).2 (.inl (hq.mono x3)),by rw [<-cm];exact x4⟩
     |false=>
     rw [hk] at x;simp only [hfl] at x⊢;obtain ⟨y1,y2,sz,y,x1,x2,x3,x4,x5⟩:=x;obtain ⟨p1,p2⟩:=x1.put hap a vj;rw [p1,p2] at x4 x5;refine ⟨y1,y2,sz,y,x1,x2,x3,x4,fun v h' x' z0 z1 z2 z3 z4=>?_⟩;have hd:=hd (.inl (by rw [hk];intro e;cases e));rw [onj,hoj,hkj];exact ⟨vj,((qj _ _ _ _).2 (j1.mono z2)).congr fun k hk=>(by rw [aE.aw _ (nj k hk),kD,iF (fun h1=>hd k h1 hk)]),by rw [<-cm];exact x5 v h' x' z0 z1 z2 z3 z4⟩
  |mk=>
   rw [hkj] at x;simp only at x;obtain ⟨cj,sj,j1,j2,j3,x⟩:=x;unfold Rg.Node;simp only [oni] at x;cases hoi:c9 G.all oi a with
   |false=>
    rw [hoi] at x;simp only at x⊢;rw [onj,hoj,hkj];exact ⟨cj,sj,by rw [iV hap'];exact j1,j2,j3,fun b=>by rw [<-cm];exact x b⟩
   |true=>
    rw [hoi] at x;simp only at x⊢;cases hk:kd oi with
    |qt=>
     rw [hk] at x;simp only at x⊢;have hpi:=hm hk hkj;obtain ⟨v,x1,x2⟩:=x 0;have x1:=((qi _ _ _ _).1 x1).quiet hpi;refine ⟨v, .inl x1,?_⟩;rw [onj,hoj,hkj];refine ⟨cj,sj,by rw [iV hap'];exact j1,j2,j3,fun b=>?_⟩;obtain ⟨v',y1,y2⟩:=x b;have:v'=v:=Rg.dg.uniq z (((qi _ _ _ _).1 y1).quiet hpi) x1;subst this;rw [<-cm];exact y2
    |mk=>
     rw [hk] at x;simp only at x⊢;obtain ⟨cs,sh,x1,x2,x3,x4⟩:=x 0;rw [iV hap] at x1;rw [aE.aw E hij] at x3;refine ⟨cs,sh,x1,x2,x3,fun b=>?_⟩;rw [onj,hoj,hkj];refine ⟨cj,sj,by rw [iV hap'];exact j1,j2,by rw [aE.aw E (Ne.symm hij)];exact j3,fun b'=>?_⟩;obtain ⟨cs',sh',y1,y2,y3,y4⟩:=x b';rw [iV hap,x1] at y1;injection y1 with y1;injection y1 with e1 e2;subst e1;subst e2;rw [<-cm,aE.set_comm E hij];exact y4 b
    |cl=>
     have hii:=hii.resolve_right (fun e=>e.elim (fun e=>by rw [hk] at e;cases e.2) (fun e=>e.elim (fun e=>by rw [hkj] at e;cases e.1) (fun e=>by rw [hkj] at e;cases e.1)));rw [hk] at x;simp only [hii] at x⊢;obtain ⟨f,args,x1,x2,x3⟩:=x 0;rw [jM hap] at x1;have hH: ∀b,fT (E.set j (some (AJ sj b cj))) (G.pubs i) h=fT E (G.pubs i) h:=fun b=>hF _ _ fun k hk=>aE.aw E (fun e=>hi1 (by rw [<-e];exact hk)) _;refine ⟨f,args,x1,fun pk L=>by have:=x2 (pk.congr fun k hk=>(aE.aw E (fun e=>hi1 (by rw [<-e];exact hk)) _).symm) L;rw [hH] at this;exact this,fun v h' y1 y2 y3 y4=>?_⟩;rw [onj,hoj,hkj];refine ⟨cj,sj,by rw [iV hap'];exact j1,j2,by rw [kD,j3];simp,fun b=>?_⟩;obtain ⟨f',args',u1,u2,u3⟩:=x b;rw [jM hap,x1] at u1;injection u1 with u1;injection u1 with e1 e2;subst e1;subst e2;have:=u3 v h' (by rw [hH];exact y1) y2 y3 y4;rw [<-cm,<-xF hi1];exact this
    |st=>
     rw [hk] at x;simp only at x⊢;obtain ⟨t,b,off,v,s,y,y',ti,x1,x2,x3,x4,x5,x6,x7,x8⟩:=x 0;rw [kH hap] at x1;have hs:s≠j:=fun e=>hi1 (by rw [x3,e];exact aa3.2 T);rw [aE.aw E hs] at x4;refine ⟨t,b,off,v,s,y,y',ti,x1,x2,x3,x4,x5,x6,x7,?_⟩;rw [hoj,hkj];refine ⟨cj,sj,j1,j2,by rw [aE.aw E (Ne.symm hs)];exact j3,fun b'=>?_⟩;obtain ⟨t2,b2,off2,v2,s2,z1,z2,ti2,u1,u2,u3,u4,u5,u6,u7,u8⟩:=x b';rw [kH hap,x1] at u1;injection u1 with u1;injection u1 with e1 u1;injection u1 with e2 u1;injection u1 with e3 e4;subst e1;subst e2;subst e3;subst e4;rw [x2] at u2;injection u2 with u2;subst u2;rw [x3] at u3;injection u3 with u3 _;subst u3;rw [aE.aw E hs,x4] at u4;injection u4 with u4;subst u4;rw [x6] at u6;injection u6 with u6;subst u6;rw [aE.set_comm E hs];exact u8
    |ap=>
     have hii:=hii.resolve_right (fun e=>e.elim (fun e=>by rw [SR e.1] at hkj;cases hkj) (fun e=>e.elim (fun e=>by rw [hk] at e;cases e.2) (fun e=>by rw [hkj] at e;cases e.1)));rw [hk] at x;simp only [hii] at x⊢;obtain ⟨y1,y2,sz,y,x1,x2,x3,x4,x5⟩:=x 0;obtain ⟨p1,p2⟩:=x1.put hap a (AK sj 0);rw [p1,p2] at x4 x5;rw [aE.aw E hij] at x2;have hH: ∀b,fT (E.set j (some (AJ sj b cj))) (G.pubs i) h=fT E (G.pubs i) h:=fun b=>hF _ _ fun k hk=>aE.aw E (fun e=>hi1 (by rw [<-e];exact hk)) _;refine ⟨y1,y2,sz,y,x1,x2,x3,fun pk=>by have:=x4 (pk.congr fun k hk=>(aE.aw E (fun e=>hi1 (by rw [<-e];exact hk)) _).symm);rw [hH] at this;exact this,fun v h' x' z0 z1 z2 z3 z4=>?_⟩;rw [onj,hoj,hkj];refine ⟨cj,sj,by rw [iV hap'];exact j1,j2,by rw [aE.aw _ (Ne.symm hij),kD,j3];simp,fun b=>?_⟩;obtain ⟨y1',y2',sz',y',u1,u2,u3,u4,u5⟩:=x b;obtain ⟨e1,e2,e3⟩:=u1.uniq x1;subst e1;subst e2;subst e3;rw [aE.aw E hij,x2] at u2;injection u2 with u2;subst u2;obtain ⟨p1,p2⟩:=u1.put hap a (AK sj b);rw [p1,p2] at u5;have:=u5 v h' x' (z0.congr fun k hk=>(aE.aw E (fun e=>hi1 (by rw [<-e];exact hk)) _).symm) (by rw [hH];exact z1) z2 z3 z4;rw [<-cm,aE.set_comm _ hij,<-xF hi1];exact this
  |st=>
   rw [hkj] at x;simp only at x;obtain ⟨tj,bj,offj,vj,sj,yj,yj',tij,j1,j2,j3,j4,j5,j6,j7,x⟩:=x;have hd:=hd (.inr (by rw [hkj];intro e;cases e));have hpj: ∀u,a.put oj.dst u=a:=fun u=>by rw [j7];rfl
   unfold Rg.Node;cases hoi:c9 G.all oi a with
   |false=>
    rw [hoi] at x;simp only at x⊢;rw [onj,hoj,hkj];exact ⟨tj,bj,offj,vj,sj,yj,yj',tij,by rw [kH hap'];exact j1,j2,j3,j4,j5,j6,j7,x⟩
   |true=>
    rw [hoi] at x;simp only at x⊢;cases hk:kd oi with
    |qt=>
     rw [hk] at x;simp only at x⊢;obtain ⟨v,x1,x2⟩:=x;refine ⟨v,x1.congr fun k hk=>aE.aw E (fun e=>hd k hk (by rw [j3,e];exact aa3.2 T)) _,?_⟩;rw [onj,hoj,hkj];exact ⟨tj,bj,offj,vj,sj,yj,yj',tij,by rw [kH hap'];exact j1,j2,j3,j4,j5,j6,j7,x2⟩
    |mk=>
     rw [hk] at x;simp only at x⊢;obtain ⟨cs,sh,x1,x2,x3,x4⟩:=x;have hs:i≠sj:=fun e=>hj1 (by rw [j3,e];exact aa3.2 T);rw [aE.aw E hs] at x3;refine ⟨cs,sh,x1,x2,x3,fun b=>?_⟩;rw [onj,hoj,hkj];refine ⟨tj,bj,offj,vj,sj,yj,yj',tij,by rw [kH hap'];exact j1,j2,j3,by rw [aE.aw E (Ne.symm hs)];exact j4,j5,j6,j7,?_⟩;rw [aE.set_comm E hs];exact x4 b
    |cl=>
     have hii:=hii.resolve_right (fun e=>e.elim (fun e=>by rw [hk] at e;cases e.2) (fun e=>e.elim (fun e=>by rw [hkj] at e;cases e.1) (fun e=>by rw [hkj] at e;cases e.1)));rw [hk] at x;simp only [hii] at x⊢;obtain ⟨f,args,x1,x2,x3⟩:=x;have hs:sj∉G.pubs i:=fun e=>hd sj e (by rw [j3];exact aa3.2 T);have hH:fT (E.set sj (some yj')) (G.pubs i) h=fT E (G.pubs i) h:=hF _ _ fun k hk=>aE.aw E (fun e=>hs (by rw [<-e];exact hk)) _;rw [hH] at x2 x3;refine ⟨f,args,x1,fun pk=>x2 (pk.congr fun k hk=>(aE.aw E (fun e=>hs (by rw [<-e];exact hk)) _).symm),fun v h' y1 y2 y3 y4=>?_⟩;rw [onj,hoj,hkj];refine ⟨tj,bj,offj,vj,sj,yj,yj',tij,by rw [kH hap'];exact j1,j2,j3,by rw [kD,iF hs];exact j4,j5,j6,j7,?_⟩;rw [<-xF hs];exact x3 v h' y1 y2 y3 y4
    |st=>
     rw [hk] at x;simp only at x⊢;obtain ⟨t,b,off,v,s,y,y',ti,x1,x2,x3,x4,x5,x6,x7,x8⟩:=x;have hs:s≠sj:=fun e=>hd s (by rw [x3];exact aa3.2 T) (by rw [j3,e];exact aa3.2 T);rw [aE.aw E hs] at x4;refine ⟨t,b,off,v,s,y,y',ti,x1,x2,x3,x4,x5,x6,x7,?_⟩;rw [hoj,hkj];refine ⟨tj,bj,offj,vj,sj,yj,yj',tij,j1,j2,j3,by rw [aE.aw E (Ne.symm hs)];exact j4,j5,j6,j7,?_⟩;rw [aE.set_comm E hs];exact x8
    |ap=>
     have hii:=hii.resolve_right (fun e=>e.elim (fun e=>by rw [SR e.1] at hkj;cases hkj) (fun e=>e.elim (fun e=>by rw [hk] at e;cases e.2) (fun e=>by rw [hkj] at e;cases e.1)));rw [hk] at x;simp only [hii] at x⊢;obtain ⟨y1,y2,sz,y,x1,x2,x3,x4,x5⟩:=x;have hs:sj∉G.pubs i:=fun e=>hd sj e (by rw [j3];exact aa3.2 T);have hsi':i≠sj:=fun e=>hj1 (by rw [j3,e];exact aa3.2 T);have hH:fT (E.set sj (some yj')) (G.pubs i) h=fT E (G.pubs i) h:=hF _ _ fun k hk=>aE.aw E (fun e=>hs (by rw [<-e];exact hk)) _;rw [hH] at x4 x5;rw [aE.aw E hsi'] at x2;refine ⟨y1,y2,sz,y,x1,x2,x3,fun pk=>x4 (pk.congr fun k hk=>(aE.aw E (fun e=>hs (by rw [<-e];exact hk)) _).symm),fun v h' x' z0 z1 z2 z3 z4=>?_⟩;rw [onj,hoj,hkj];refine ⟨tj,bj,offj,vj,sj,yj,yj',tij,by rw [kH hap'];exact j1,j2,j3,by rw [aE.aw _ (Ne.symm hsi'),kD,iF hs];exact j4,j5,j6,j7,?_⟩;rw [aE.set_comm _ hsi',<-xF hs];exact x5 v h' x' (z0.congr fun k hk=>(aE.aw E (fun e=>hs (by rw [<-e];exact hk)) _).symm) z1 z2 z3 z4
end Go.Tp
namespace Go.Tp
open Go Go.RowKit
def force{β:Type}(n:Nat)(k:Nat->β):β:=match n with
 |0=>k 0 |n+1=>k (n+1)
theorem force_eq{β:Type}(n:Nat)(k:Nat->β):force n k=k n:=by cases n<;>rfl
def IK{β:Type}:List Nat->(List Nat->β)->β
 | [],k=>k [] |x::l,k=>force x fun x=>IK l fun l=>k (x::l)
theorem F7{β:Type}: ∀(l:List Nat) (k:List Nat->β),IK l k=k l
 | [],_=>rfl |x::l,k=>by simp only [IK,force_eq,F7 l]
def QC(l:List Nat)(n:Nat):Nat:=(bU l n).getD 0
def DC(acc:List Nat)(o:Oper):Nat:=
 o.after.toList.foldl (fun s e=>match Region.binds .any e with
  |true=>s|||2^e.on|||QC acc e.on
  |false=>s) 0
def sI:List Oper->List Nat->List Nat
 | [],acc=>acc |o::l,acc=>force (DC acc o) fun m=>sI l (acc++[m])
theorem P4{acc:List Nat}{o:Oper}{j:Nat}(h:(DC acc o).testBit j=true): ∃e,e∈o.after/\Region.binds .any e=true/\(j=e.on\/(QC acc e.on).testBit j=true):=by
 have key: ∀(l:List Edge) (s:Nat),(l.foldl (fun s e=>match Region.binds .any e with
  |true=>s|||2^e.on|||QC acc e.on
  |false=>s) s).testBit j=true->s.testBit j=true\/ ∃e,e∈l/\Region.binds .any e=true/\(j=e.on\/(QC acc e.on).testBit j=true):=by
  intro l
  induction l with
  |nil=>intro s hs;exact .inl hs |cons e l ih=>
   intro s hs;simp only [ah1] at hs;rcases ih _ hs with h1|⟨e',h1,h2⟩
   ·split at h1
    ·rename_i hb;simp only [Nat.testBit_or,aj7,Nat.testBit_two_pow] at h1;rcases h1 with (h1|h1)|h1
     ·exact .inl h1
     ·exact .inr ⟨e,aa4 ..,hb, .inl (by simpa using (of_decide_eq_true h1).symm)⟩
     ·exact .inr ⟨e,aa4 ..,hb, .inr h1⟩
    ·exact .inl h1
   ·exact .inr ⟨e',aa8 _ h1,h2⟩
 rcases key _ 0 h with h1|⟨e,h1,h2⟩
 ·simp at h1
 ·exact ⟨e,by simpa using h1,h2⟩
theorem DD: ∀(l:List Oper) (acc:List Nat),∃r,sI l acc=acc++r/\r.length=l.length/\ ∀i o,l[i]? =some o->r[i]? =some (DC (acc++r.take i) o)
 | [],acc=>⟨[],by simp [sI],rfl,fun i o h=>by simp at h⟩ |o::l,acc=>by
  obtain ⟨r,h1,h2,h3⟩:=DD l (acc++[DC acc o]);refine ⟨DC acc o::r,by simp only [sI,force_eq];rw [h1];simp,by simp [h2],fun i x hx=>?_⟩;cases i with
  |zero=>simp at hx;subst hx;simp |succ i=>
   simp only [af8] at hx⊢;rw [h3 i x hx];simp
def yI(tab:List Nat)(i j:Nat):Bool:=(QC tab i).testBit j
def uP(all:Array Oper)(D:Nat->Bool):Prop:= ∀i o,all[i]? =some o->D i=true-> ∀e,e∈o.after->Region.binds .any e=true->D e.on=true
theorem KJ{all:Array Oper}{D:Nat->Bool}(hd:uP all D)(hback: ∀(i:Nat) o,all[i]? =some o-> ∀e,e∈o.after->Region.binds .any e=true->e.on<i):
 ∀(i:Nat) (o:Oper),all[i]? =some o->(∀e,e∈o.after->Region.binds .any e=true->D e.on=true)-> ∀j,yI (sI all.toList []) i j=true->D j=true:=by
 obtain ⟨r,h1,h2,h3⟩:=DD all.toList [];intro i
 induction i using ao5 with
 |_ i ih=>
  intro o ho hp j hj;have ho':all.toList[i]? =some o:=by rw [ac2];exact ho
  have hri:=h3 i o ho';simp only [yI,h1,ah8,QC,cC,hri,ap8] at hj;obtain ⟨e,he,hb,hc⟩:=P4 hj;rcases hc with rfl|hc
  ·exact hp e he hb
  ·have hlt:=hback i o ho e he hb;have hlen:i<all.size:=by
    rcases ad7 i all.size with h|h
    ·exact h
    ·rw [af3 h] at ho;cases ho
   have hr:r.length=all.size:=by rw [h2];simp
   obtain ⟨oe,hoe⟩: ∃oe,all[e.on]? =some oe:=⟨all[e.on]'(by omega),by simp⟩;refine ih e.on hlt oe hoe (hd e.on oe hoe (hp e he hb)) j ?_;simp only [yI,h1,ah8,QC,cC] at hc⊢
   rwa [ao8 hlt] at hc
def HY:List Oper->Nat->Bool
 | [],_=>true |o::l,i=>(o.after.toList.all fun e=> !Region.binds .any e||Nat.blt e.on i)&&HY l (i+1)
theorem zW: ∀(l:List Oper) (i:Nat),HY l i=true-> ∀(j:Nat) o,l[j]? =some o-> ∀e,e∈o.after->Region.binds .any e=true->e.on<i+j
 | [],_,_,j,o,h=>by simp at h |x::l,i,hb,j,o,h=>by
  simp only [HY,aa1,ac5] at hb;intro e he hbe;cases j with
  |zero=>
   simp at h;subst h;have:=hb.1 e (by simpa using he);rw [hbe] at this;simpa [ah3] using this
  |succ j=>
   have:=zW l (i+1) hb.2 j o (by simpa using h) e he hbe;omega
def DL:List Nat->Bool
 | []=>true |x::l=> !fS x l&&DL l
theorem oB: ∀{l:List Nat},DL l=true->l.Nodup
 | [],_=> .nil |x::l,h=>by simp only [DL,aa1,ag1] at h;exact ao4.2 ⟨fun hm=>(by rw [fG.2 hm] at h;cases h.1),oB h.2⟩
def ldMk(oi oj:Oper):List Nat->Bool
 | []=>true |_::_=>match kd oi with
  | .qt=>match kd oj with
    | .mk=>false |_=>true
  |_=>true
theorem VL{oi oj:Oper}{l:List Nat}(h:ldMk oi oj l=true)(hi:kd oi= .qt)(hj:kd oj= .mk):l=[]:=by
 cases l with
 |nil=>rfl |cons x r=>simp only [ldMk,hi,hj] at h;cases h
def O3(oi oj:Oper):Bool:=match kd oi with
 | .qt=>match kd oj with
   | .qt=>true |_=>false
 |_=>false
theorem KQ{oi oj:Oper}(h:O3 oi oj=true):kd oi= .qt/\kd oj= .qt:=by
 unfold O3 at h;split at h
 ·rename_i h1;split at h
  ·rename_i h2;exact ⟨h1,h2⟩
  ·cases h
 ·cases h
def isAp(o:Oper):Bool:=match kd o with
 | .ap=>true |_=>false
theorem F9{o:Oper}(h:isAp o=true):kd o= .ap:=by
 unfold isAp at h;split at h
 ·assumption
 ·cases h
def SS(o:Oper):Bool:=match kd o with
 | .qt=>true |_=>false
def ZN(o:Oper):Bool:=match kd o with
 | .cl=>true |_=>false
theorem C6{o:Oper}(h:SS o=true):kd o= .qt:=by
 unfold SS at h;split at h
 ·assumption
 ·cases h
theorem PN{o:Oper}(h:ZN o=true):kd o= .cl:=by
 unfold ZN at h;split at h
 ·assumption
 ·cases h
def noB:List Nat->Bool
 | []=>true |_=>false
theorem a0b: ∀{l:List Nat},noB l=true->l=[]
 | [],_=>rfl |_::_,h=>by cases h
def flMk(oi oj:Oper)(l:List Nat)(j:Nat):Bool:=match kd oj with
 | .cl=>match kd oi with
   | .mk=>fS j l&&fr2 l |_=>false
 |_=>false
theorem U4{oi oj:Oper}{l:List Nat}{j:Nat}(h:flMk oi oj l j=true):kd oj= .cl/\fS j l=true/\fr2 l=true/\kd oi= .mk:=by
 unfold flMk at h;split at h
 ·rename_i h1;split at h
  ·rename_i h2;rw [aa1] at h;exact ⟨h1,h.1,h.2,h2⟩
  ·cases h
 ·cases h
def qJ(all:Array Oper)(tab:List Nat)(pubs:Nat->List Nat)(j i:Nat):Bool:=
 !yI tab j i&&(yI tab i j||match bU all.toList j with
  |some oj=>match bU all.toList i with
   |some oi=>oj.apart all oi&&(!sF oj||flMk oi oj (pubs j) j)&&(!fS i (pubs i)||VC oj&&isAp oi||SS oj&&ZN oi||SS oj&&isAp oi&&noB (pubs j))&& !fS j (pubs i)&& !fS i (pubs j)&&ldMk oi oj (pubs i)&&(O3 oi oj||(pubs i).all fun k=> !fS k (pubs j))
   |none=>false
  |none=>false)
def BP(all:Array Oper)(tab:List Nat)(pubs:Nat->List Nat):List Nat->Bool
 | []=>true |j::l=>(l.all fun i=>qJ all tab pubs j i)&&BP all tab pubs l
def tailOk(tab:List Nat)(m n:Nat):Bool:=(List.range n).all fun k=>Nat.blt k m||(List.range k).all fun j=>yI tab k j
def IA(all:Array Oper)(m:Nat)(π:List Nat)(pubs:Nat->List Nat):Bool:=
 IK (sI all.toList []) fun tab=>
  Region.noSelect all&&HY all.toList 0&&Nat.beq π.length m&&Nat.ble m all.size&&(π.all fun i=>Nat.blt i m)&&DL π&&((List.range m).all fun i=>fS i π)&&BP all tab pubs π&&tailOk tab m all.size&&
   (π.all fun i=>DL (pubs i)&&(pubs i).all fun j=>Nat.blt j all.size)
variable{G:Rg}
theorem Rg.Node.jy{i:Nat}{o:Oper}{a:Act}{h:GH}{E:aE}{K K':Act->GH->aE->Prop}(z:G.Rz h)(hc:sF o=false\/kd o= .cl/\fS i (G.pubs i)=true)(hk: ∀a h' E,G.Rz h'->K a h' E->K' a h' E)(x:G.Node i o a h E K):G.Node i o a h E K':=by
 unfold Rg.Node at*;split
 ·rename_i h0;rw [h0] at x;exact hk _ _ _ z x
 ·rename_i h0;rw [h0] at x;simp only at x;split
  ·rename_i h1;rw [h1] at x;obtain ⟨v,x1,x2⟩:=x;exact ⟨v,x1,hk _ _ _ z x2⟩
  ·rename_i h1;rw [h1] at x;obtain ⟨cs,sh,x1,x2,x3,x4⟩:=x;exact ⟨cs,sh,x1,x2,x3,fun b=>hk _ _ _ z (x4 b)⟩
  ·rename_i h1;have hm:=(hc.resolve_left (fun e=>by simp [sF,h1] at e)).2;rw [h1] at x;simp only [hm] at x⊢;obtain ⟨f,args,Q,x0,x1,x2,x3⟩:=x;exact ⟨f,args,Q,x0,x1,x2,fun v h' x' y1 y2 y3=>hk _ _ _ y2 (x3 v h' x' y1 y2 y3)⟩
  ·rename_i h1;rw [h1] at x;obtain ⟨t,b,off,v,j,y,y',ti,x1,x2,x3,x4,x5,x6,x7,x8⟩:=x;exact ⟨t,b,off,v,j,y,y',ti,x1,x2,x3,x4,x5,x6,x7,hk _ _ _ z x8⟩
  ·rename_i h1;exact absurd (hc.resolve_right (fun e=>by rw [h1] at e;cases e.1)) (by simp [sF,h1])
structure RR(G:Rg)(j i:Nat):Prop where
 ne:i≠j
 ok: ∀oi oj,G.all[i]? =some oi->G.all[j]? =some oj->oj.apart G.all oi=true/\(sF oj=false\/kd oj= .cl/\fS j (G.pubs j)=true/\fr2 (G.pubs j)=true/\kd oi= .mk)/\(kd oi= .qt->kd oj= .mk->G.pubs i=[])/\(kd oi≠ .qt\/kd oj≠ .qt-> ∀k,k∈G.pubs i->k∉G.pubs j)/\(fS i (G.pubs i)=false\/VC oj=true/\kd oi= .ap\/kd oj= .qt/\kd oi= .cl\/kd oj= .qt/\G.pubs j=[]/\kd oi= .ap)
 p1:j∉G.pubs i
 p2:i∉G.pubs j
theorem Rg.pull(hsel:Region.noSelect G.all=true){i:Nat}{oi:Oper}(hoi:G.all[i]? =some oi){π2:List Nat}: ∀(π1:List Nat) (a:Act) (h:GH) (E:aE),G.Rz h->(∀j,j∈π1->RR G j i)->
 G.W (π1++i::π2) a h E->G.Node i oi a h E (G.W (π1++π2))
 | [],a,h,E,z,hs,x=>by obtain ⟨o,ho,x⟩:=x;rw [hoi] at ho;injection ho with ho;subst ho;exact x
 |j::π1,a,h,E,z,hs,x=>by obtain ⟨oj,hoj,x⟩:=x;have s:=hs j (aa4 ..);obtain ⟨s1,s2,s4,s3,s0⟩:=s.ok oi oj hoi hoj;have x':=Rg.Node.jy (K':=fun a' h' E'=>G.Node i oi a' h' E' (G.W (π1++π2))) z (s2.imp id fun e=>⟨e.1,e.2.1⟩) (fun a h E z y=>Rg.pull hsel hoi π1 a h E z (fun k hk=>hs k (aa8 _ hk)) y) x;have y:=Rg.swap s.ne s1 s2 (Region.noSelect_spec hsel i oi · · hoi) (Region.noSelect_spec hsel j oj · · hoj) s0 s.p1 s.p2 s3 s4 z x';exact Rg.Node.map (fun a h E q=>⟨oj,hoj,q⟩) y
theorem WB{P:Program}{S:TT}{o:Oper}{a:Act}{w:World}{cs:List Value}(h:y7 S o a=some (cs, .mp)):cs=[]/\(execOp a.eval o).run P w= .ok (.value (.map (some w.heap.size))) (w.alloc (.map #[] 0)):=by
 unfold y7 at h;unfold execOp;cases hop:o.op<;>rw [hop] at h<;>try simp only [reduceCtorEq] at h
 case alloc t=>
  split at h
  ·injection h with h;injection h with h1 h2;cases h2
  ·cases h
 case box t x=>injection h with h;injection h with h1 h2;cases h2
 case makeMap t r=>
  cases r with
  |none=>
   simp only at h;injection h with h;injection h with h1 h2;refine ⟨h1.symm,?_⟩;simp [Instr.makeMap,newObj,Sem.run]
  |some r=>cases h
 case buildSlice t len parts=>
  split at h
  ·injection h with h;injection h with h1 h2;cases h2
  ·cases h
theorem NM{P:Program}{S:TT}(hS:S.Ok P){o:Oper}{a:Act}{w:World}{cs:List Value}{sh:Msh}(h:y7 S o a=some (cs,sh))(hm:sh≠ .mp):
 ∃t,(execOp a.eval o).run P w= .ok (.value (AK sh w.heap.size)) (w.alloc (.cells ⟨cs⟩ t)):=by
 unfold y7 at h;unfold execOp;cases hop:o.op<;>rw [hop] at h<;>try simp only [reduceCtorEq] at h
 case alloc t=>
  split at h
  ·rename_i ti ht;injection h with h;injection h with h1 h2;subst h1;subst h2;obtain ⟨z,hz,hzl⟩:=lP (w:=w) (TT.Ok.get hS ht);refine ⟨t,?_⟩;have:z.cells=⟨ti.zero⟩:=by rw [<-hzl]
   simp [Instr.alloc,hz,newVar,newRow,AK,this]
  ·cases h
 case box t x=>
  injection h with h;injection h with h1 h2;subst h1;subst h2;refine ⟨t,?_⟩;have:(a.eval x).cells=⟨aI (a.eval x)⟩:=by rw [kT]
  simp [Instr.box,newVar,newRow,AK,this]
 case makeMap t r=>
  cases r with
  |none=>simp only at h;injection h with h;injection h with h1 h2;exact absurd h2.symm hm |some r=>cases h
 case buildSlice t len parts=>
  split at h
  ·rename_i r hr;injection h with h;injection h with h1 h2;subst h1;subst h2;unfold wW at hr;split at hr
   ·rename_i ti ht;split at hr
    ·rename_i el hd;split at hr
     ·rename_i ei hei;split at hr
      ·cases hr
      ·rename_i hz;have hz:=dY hz;split at hr
       ·rename_i hsz;have hsz:len*ei.size<=16777216:=af7 hsz;have ok:=TT.Ok.get hS ht;have oke:=TT.Ok.get hS hei;obtain ⟨z,hzv,hzl⟩:=lP (w:=w) oke;have hzc:z.cells=⟨ei.zero⟩:=by rw [<-hzl]
        have hne:ei.zero≠[]:=by intro e;have:=oke.len;rw [e] at this;simp only [List.length_nil] at this;rw [<-this] at hz;simp at hz
        have hf:=xK (σ:=a.eval) (place':=fun i=>some (i*ei.size,ei.size)) (fun x v hx=>by injection hx) (fun i y hy=>hy) hr;have hf':Instr.fill (fun i=>some (i*ei.size,ei.size)) ⟨(List.replicate len ei.zero).flatten⟩ (parts.map fun (x:Nat×Operand)=>(x.1,a.eval x.2)).toList=some ⟨r⟩:=by rw [ai9];exact hf
        have hrow:=gB ei.zero hne len;rw [oke.len] at hrow;refine ⟨el,?_⟩;have e2: ¬(len*ei.size>2^24):=by omega
        simp only [Instr.buildSlice,aa9,run_underlying ok,hd,aa5,run_sizeOf oke,e2,if_false,hz,hzv,ab5,hzc];rw [show ((⟨ei.zero⟩:Array Value))=ei.zero.toArray from rfl,hrow];simp only [hf'];simp [newRow,AK]
       ·cases hr
     ·cases hr
    ·cases hr
   ·cases hr
  ·cases h
theorem wX{C:nY}{L0:List a6}{n:Nat}{w:World}: ∀(D:List Nat) (E:aE) (h:GH),D.Nodup->(∀j,j∈D->j<n)->St C.w0 h (aE.list n E++L0) w->
 St C.w0 (fT E D h) (aE.list n (pP D E)++L0) w/\q7 E D h
 | [],E,h,_,_,s=>⟨s,GH.le_refl _,fun _ hj=>by cases hj⟩ |j::D,E,h,hn,hl,s=>by
  obtain ⟨n1,n2⟩:=ao4.1 hn;have hcong: ∀g,fT E D g=fT (E.set j none) D g:=fun g=>hF D g fun k hk=>(aE.aw E (fun e=>n1 (by rw [<-e];exact hk)) _).symm;simp only [fT,pP];cases hj:E j with
  |none=>
   simp only;have:E.set j none=E:=by rw [<-hj];exact aE.dp E j
   rw [this];obtain ⟨s3,l3,l4⟩:=wX D E h n2 (fun k hk=>hl k (aa8 _ hk)) s;refine ⟨s3,by simp only [fT,hj];exact l3,fun k hk x hx i v hv=>?_⟩;simp only [fT,hj];rcases ab0.1 hk with rfl|hk
   ·rw [hj] at hx;cases hx
   ·exact l4 k hk x hx i v hv
  |some x=>
   simp only;have hp:=aE.de (hl j (aa4 ..)) hj;have s1:St C.w0 h (x::(aE.list n (E.set j none)++L0)) w:=s.perm (hp.append_right L0);obtain ⟨b,lo,cs,ob⟩:=x;have s2:=s1.bu;have hle:=s1.dc;obtain ⟨s3,l3,l4⟩:=wX D (E.set j none) _ n2 (fun k hk=>hl k (aa8 _ hk)) s2;have hc2:=hcong (h.add b lo cs);refine ⟨by rw [hc2];exact s3,by simp only [fT,hj];rw [hc2];exact GH.le_trans hle l3,fun k hk x hx i v hv=>?_⟩;simp only [fT,hj];rw [hc2];rcases ab0.1 hk with rfl|hk
   ·rw [hj] at hx;injection hx with hx;subst hx;exact l3 _ _ _ (GH.cr h b lo cs hv)
   ·exact l4 k hk x (by rw [aE.aw E (fun e=>n1 (by rw [<-e];exact hk))];exact hx) i v hv
theorem Rg.Node.sound{i:Nat}{o:Oper}{a:Act}{h:GH}{E:aE}{K:Act->GH->aE->Prop}{w:World}(hi:i<G.all.size)(hp:(G.pubs i).Nodup/\ ∀j,j∈G.pubs i->j<G.all.size)
 (x:G.Node i o a h E K) (s:G.live h E w):
 (c9 G.all o a=true->o.wp G.C.P a w (fun a' w'=> ∃h' E',G.live h' E' w'/\a'.defers=a.defers/\K a' h' E') (fun _ _ _=>False))/\
 (c9 G.all o a=false->K (a.put o.dst undef) h E):=by
 unfold Rg.Node at x;cases hon:c9 G.all o a with
 |false=>rw [hon] at x;exact ⟨fun e=>(by cases e),fun _=>x⟩ |true=>
  rw [hon] at x;simp only at x;refine ⟨fun _=>?_,fun e=>(by cases e)⟩;split at x
  ·rename_i hk;obtain ⟨v,x1,x2⟩:=x;have hr:(execOp a.eval o).run G.C.P w= .ok (.value v) w:=by
    rcases x1 with x1|⟨j,t,b,off,y,ti,u1,u2,u3,u4,u5,u6⟩
    ·exact x1 _ w s
    ·have hj:j<G.all.size:=hp.2 j (by rw [u1];exact aa3.2 T);have hl:=aE.de hj u4;have s1:St G.C.w0 h (y::(aE.list G.all.size (E.set j none)++G.L0)) w:=St.perm s (hl.append_right G.L0);have h1:=oF (TT.Ok.get G.C.ok u3) (s1.own y (aa4 ..)) u5 u6;unfold VM at u2;split at u2
     ·rename_i t' p hop;split at u2
      ·rename_i b' off' hpz;injection u2 with u2;injection u2 with e1 u2;injection u2 with e2 e3;subst e1;subst e2;subst e3;unfold execOp;rw [hop];simp only [hpz,aa9,h1,aa5,ab5]
      ·cases u2
     ·cases u2
   unfold Oper.wp;rw [hr];exact ⟨h,E,s,put_defers,x2⟩
  ·rename_i hk;obtain ⟨cs,sh,x1,x2,x3,x4⟩:=x
   by_cases hmp:sh= .mp
   ·subst hmp;obtain ⟨rfl,hr⟩:=WB (P:=G.C.P) (w:=w) x1;unfold Oper.wp;rw [hr];refine ⟨h,_,?_,put_defers,x4 w.heap.size⟩;have s1:=St.dv s (.map #[] 0) (fun _ _ _ x=>by cases x);refine St.perm s1 ?_;have hl:=aE.cz hi E (AJ .mp w.heap.size []);rw [show E.set i none=E from by rw [<-x3];exact aE.dp E i] at hl;exact (hl.append_right G.L0).symm
   ·obtain ⟨t,hr⟩:=NM (w:=w) G.C.ok x1 hmp;unfold Oper.wp;rw [hr];refine ⟨h,_,?_,put_defers,x4 _⟩;have s1:=St.alloc s ⟨cs⟩ t x2;refine St.perm s1 ?_;have hob:mkObj sh=none:=by cases sh<;>first|rfl|exact absurd T hmp
    have hl:=aE.cz hi E (AJ sh w.heap.size cs);rw [show E.set i none=E from by rw [<-x3];exact aE.dp E i] at hl;have e:AJ sh w.heap.size cs=⟨w.heap.size,0,cs,none⟩:=by rw [AJ,hob]
    rw [e] at hl⊢;exact (hl.append_right G.L0).symm
  ·rename_i hk;split at x
   ·rename_i hkm;obtain ⟨f,args,x1,x2,x3⟩:=x;obtain ⟨s1,pk⟩:=wX (C:=G.C) (G.pubs i) E h hp.1 hp.2 s;have l1:=pk.1;obtain ⟨⟨gg,c,h1,h2,h3⟩,hcalls⟩:=x2 pk (aE.list G.all.size (pP (G.pubs i) E));have hrun:(execOp a.eval o).run G.C.P w= .ok (.enter f ⟨args⟩) w:=by
     unfold wH at x1;split at x1
     ·rename_i c' hop;split at x1
      ·rename_i z hc;split at x1
       ·rename_i f' fst cap hz;injection x1 with x1;injection x1 with e1 e2;subst e1;subst e2;have e1:c'.args.map a.eval=⟨c'.args.toList.map a.eval⟩:=by apply ag4;simp
        have e2:fst++(⟨c'.args.toList.map a.eval⟩:Array Value)++cap=⟨fst.toList++(c'.args.toList.map a.eval++cap.toList)⟩:=by apply ag4;simp
        unfold execOp;rw [hop];have hcf:(callFunc f' (fst++(⟨c'.args.toList.map a.eval⟩:Array Value)++cap)).run G.C.P w= .ok (.enter f' ⟨fst.toList++(c'.args.toList.map a.eval++cap.toList)⟩) w:=by simp only [callFunc,aa9,run_program,aa5,h1,h3,am3,if_false,h2,ap3,ab5,e2]
        simp only [resolve,e1,hc,hz,Deferred.ofValue,aa9,ab5,aa5,invoke];rw [hcf]
       ·cases x1
      ·cases x1
     ·cases x1
    unfold Oper.wp;rw [hrun];refine (hcalls w s1).mono fun e w' ⟨v,h',L',e1,⟨e2,e3,e4⟩,e5⟩=>?_;subst e1;subst e2;exact ⟨h',_,e5,put_defers,x3 v h' e3 (GH.le_trans l1 e3) ⟨w',e5.sub (af9 _ _)⟩ e4⟩
   ·rename_i hkm;obtain ⟨f,args,Q,_,x1,x3,x4⟩:=x;have hl:=aE.ic hi E;have s1:St G.C.w0 h ((E i).toList++(aE.list G.all.size (E.set i none)++G.L0)) w:=St.perm s (by rw [<-ab7];exact hl.append_right G.L0);obtain ⟨⟨gg,c,h1,h2,h3⟩,hcalls⟩:=x3 (aE.list G.all.size (E.set i none));have hrun:(execOp a.eval o).run G.C.P w= .ok (.enter f ⟨args⟩) w:=by
     unfold wH at x1;split at x1
     ·rename_i c' hop;split at x1
      ·rename_i z hc;split at x1
       ·rename_i f' fst cap hz;injection x1 with x1;injection x1 with e1 e2;subst e1;subst e2;have e1:c'.args.map a.eval=⟨c'.args.toList.map a.eval⟩:=by apply ag4;simp
        have e2:fst++(⟨c'.args.toList.map a.eval⟩:Array Value)++cap=⟨fst.toList++(c'.args.toList.map a.eval++cap.toList)⟩:=by apply ag4;simp
        unfold execOp;rw [hop];have hcf:(callFunc f' (fst++(⟨c'.args.toList.map a.eval⟩:Array Value)++cap)).run G.C.P w= .ok (.enter f' ⟨fst.toList++(c'.args.toList.map a.eval++cap.toList)⟩) w:=by simp only [callFunc,aa9,run_program,aa5,h1,h3,am3,if_false,h2,ap3,ab5,e2]
        simp only [resolve,e1,hc,hz,Deferred.ofValue,aa9,ab5,aa5,invoke];rw [hcf]
       ·cases x1
      ·cases x1
     ·cases x1
    unfold Oper.wp;rw [hrun];refine (hcalls w s1).mono fun e w' ⟨v,h',L',e1,⟨x',e2,e3,e4⟩,e5⟩=>?_;subst e1;have e6:=e5.sub e2;have e7:St G.C.w0 h' (aE.list G.all.size (E.set i x')++G.L0) w':=St.perm e6 (by rw [<-ab7];exact ((aE.ie hi E x').append_right G.L0).symm);exact ⟨h',_,e7,put_defers,x4 v h' x' e3 ⟨w',e7.sub (af9 _ _)⟩ e4⟩
  ·rename_i hk;obtain ⟨t,b,off,v,j,y,y',ti,x1,x2,x3,x4,x5,x6,x7,x8⟩:=x;have hj:j<G.all.size:=hp.2 j (by rw [x3];exact aa3.2 T);have hl:=aE.de hj x4;have s1:St G.C.w0 h ([]++y::(aE.list G.all.size (E.set j none)++G.L0)) w:=St.perm s (hl.append_right G.L0);obtain ⟨w',h1,h2⟩:=TQ (TT.Ok.get G.C.ok x2) s1 x5 x6;unfold WL at x1;split at x1
   ·rename_i t' p z hop;split at x1
    ·rename_i b' off' hpz;injection x1 with x1;injection x1 with e1 x1;injection x1 with e2 x1;injection x1 with e3 e4;subst e1;subst e2;subst e3;subst e4;unfold Oper.wp execOp;rw [hop];simp only [hpz,aa9,h1,aa5,ab5];refine ⟨h,_,?_,by rw [x7];rfl,by rw [x7];exact x8⟩;refine St.perm h2 ?_;have hq:=aE.cz hj E y';exact (hq.append_right G.L0).symm
    ·cases x1
   ·cases x1
  ·rename_i hk;split at x
   rotate_left
   ·obtain ⟨v,w',h',E',u1,u2,_,u3⟩:=x w s;unfold Oper.wp;rw [u1];exact ⟨h',E',u2,put_defers,u3⟩
   obtain ⟨y1,y2,⟨sz,co⟩,y,⟨t,t2,el,ti,ei,u1,u2,u3,u4,u5,u6,u7,u8,u9⟩,x2,x3,x4,x5⟩:=x;obtain ⟨s1,pk⟩:=wX (C:=G.C) (G.pubs i) E h hp.1 hp.2 s;have u8:sz=ei.size:=u8;subst u8;have hEi:pP (G.pubs i) E i=some y:=by rw [kD,iF x3,x2]
   have hl:=aE.de hi hEi;have s2:St G.C.w0 (fT E (G.pubs i) h) (y::(aE.list G.all.size ((pP (G.pubs i) E).set i none)++G.L0)) w:=St.perm s1 (hl.append_right G.L0);cases co with
   |true=>
    have u9:t2=t:=u9 T;subst u9;obtain ⟨tl,c1,c2,a1,a2,hb⟩:=x4 pk;obtain ⟨v',w',h',x',r1,r2,r3,r4,r5⟩:=D8 (ty:=o.type) G.C.ok u2 u3 u4 u5 u6 u7 s2 a1 tl a2 hb;unfold Oper.wp execOp;rw [u1];simp only [resolve,invoke,builtin,List.map_toArray,ac8,ag7,aa9,ab5,aa5,r1];refine ⟨h',_,?_,put_defers,x5 v' h' x' pk r2 (GH.le_trans pk.1 r2) ⟨w',r5.sub (by exact (af9 _ _).trans (ai5 _ _))⟩ ⟨r4,c1,c2,a1.mono r2,a2.mono r2,r3⟩⟩;refine St.perm r5 ?_;have hq:=aE.cz hi (pP (G.pubs i) E) x';exact (hq.append_right G.L0).symm
   |false=>
    obtain ⟨n,k1,k2,hat,b1,b2⟩:=x4 pk;obtain ⟨hobj,o1,n1,c1,o2,n2,c2,e1,e2,e3,e4,e5⟩:=id hat;obtain ⟨yb,ylo,ycs,yob⟩:=y;simp only at hobj e1 e2 e3 e4 b1 b2;subst hobj;have hlt:((ycs.drop k2).take (n*ei.size)).length=n*ei.size:=by rw [List.length_take,ai0];omega
    have hex: ∃r,cS ycs k1 ((ycs.drop k2).take (n*ei.size))=some r:=OG _ _ _ (by rw [hlt];exact b1);obtain ⟨r,hr⟩:=hex;have hown:=s2.own ⟨yb,ylo,ycs,none⟩ (aa4 ..);have hcs:(Builtin.firstCells ei.size (ao0 n2 n1) (a.eval y2)).run G.C.P w= .ok ⟨(ycs.drop k2).take (n*ei.size)⟩ w:=by
     rw [e2,<-e5];refine run_firstCells_some (P:=G.C.P) w ei.size n ⟨yb,o2,none⟩ n2 c2 _ hlt fun j v hv=>?_;rw [eA];have hj:j<n*ei.size:=by
      rcases ad7 j (n*ei.size) with h|h
      ·exact h
      ·rw [ab4 (by rw [hlt];exact h)] at hv;cases hv
     rw [ao8 hj,aj6] at hv;have:=hown.cell (k2+j) v hv;rw [e4,Nat.add_assoc];exact this
    obtain ⟨w',r1,r2⟩:=NL (ty:=o.type) (t2:=t2) (n2:=n2) (c1:=c1) G.C.ok u2 u3 u4 s2 e3 (by rw [e2];rfl) hcs (fun u hu=>hown.one u (List.mem_of_mem_drop (List.mem_of_mem_take hu))) hr;unfold Oper.wp execOp;rw [u1];simp only [resolve,invoke,builtin,List.map_toArray,ac8,ag7,aa9,ab5,aa5,e1,r1];refine ⟨_,_,?_,put_defers,x5 _ (fT E (G.pubs i) h) ⟨yb,ylo,r,none⟩ pk (GH.le_refl _) pk.1 ⟨w',r2.sub (by exact (af9 _ _).trans (ai5 _ _))⟩ ⟨n,k1,k2,r,hat,by rw [e5],hr,rfl⟩⟩;refine St.perm r2 ?_;have hq:=aE.cz hi (pP (G.pubs i) E) ⟨yb,ylo,r,none⟩;exact (hq.append_right G.L0).symm
end Go.Tp
namespace Go.Tp
open Go Go.RowKit
theorem SG{all:Array Oper}{listed:Array Bool}(t fuel:Nat)(hr:Region.ready .any all listed≠[]):
 ∃i t',i∈Region.ready .any all listed/\Region.linearise.go .any all (fuel+1) t listed []=i::Region.linearise.go .any all fuel t' (listed.setIfInBounds i true) []:=by
 have hlen:0<(Region.ready .any all listed).length:=List.length_pos_iff.2 hr;have hlt:t % (Region.ready .any all listed).length<(Region.ready .any all listed).length:=Nat.mod_lt _ hlen;obtain ⟨i,hi⟩:=getElem?_some_of_lt hlt;refine ⟨i,t / (Region.ready .any all listed).length,aa2 hi,?_⟩;have:Region.linearise.go .any all (fuel+1) t listed []=match (Region.ready .any all listed)[t % (Region.ready .any all listed).length]? with
  |some i=>Region.linearise.go .any all fuel (t / (Region.ready .any all listed).length) (listed.setIfInBounds i true) [i] |none=>[].reverse:=rfl
 rw [this,hi];simp only;rw [linearise_go_acc];rfl
theorem mT{l:Array Bool}{i j:Nat}(hi:i<l.size):(l.setIfInBounds i true).getD j false=true↔(j=i\/l.getD j false=true):=by
 simp only [ah4,am9]
 by_cases h:i=j
 ·subst h;simp [hi]
 ·rw [iF h];constructor
  ·intro x;exact .inr x
  ·rintro (x|x)
   ·exact absurd x.symm h
   ·exact x
theorem IL{l:Array Bool}{j:Nat}(hj:j<l.size):l.getD j true=l.getD j false:=by simp [ah4,hj]
theorem DZ{all:Array Oper}(hback: ∀(i:Nat) o,all[i]? =some o-> ∀e,e∈o.after->Region.binds .any e=true->e.on<i){listed:Array Bool}(hs:listed.size=all.size){i:Nat}(hi:i<all.size)(hu:listed.getD i false=false):
 Region.ready .any all listed≠[]:=by
 obtain ⟨i0,h1,h2,h3⟩: ∃i0,i0<all.size/\listed.getD i0 false=false/\ ∀j,j<i0->listed.getD j false=true:=by
  induction i using ao5 with
  |_ i ih=>
   by_cases h: ∃j,j<i/\listed.getD j false=false
   ·obtain ⟨j,hj,hju⟩:=h;exact ih j hj (by omega) hju
   ·refine ⟨i,hi,hu,fun j hj=>?_⟩;cases hc:listed.getD j false with
    |true=>rfl |false=>exact absurd ⟨j,hj,hc⟩ h
 have:i0∈Region.ready .any all listed:=mem_ready.2 ⟨by rw [IL (by omega)];exact h2,all[i0],by simp [h1],fun e he hb=>h3 _ (hback i0 _ (by simp [h1]) e he hb)⟩;intro e;rw [e] at this;cases this
structure UB(all:Array Oper)(m:Nat)(π:List Nat)(listed:Array Bool):Prop where
 size:listed.size=all.size
 un: ∀i,i<all.size->(listed.getD i false=false↔(i∈π\/m<=i))
 down:uP all (fun i=>listed.getD i false)
theorem UB.step{all:Array Oper}{m:Nat}{π1 π2:List Nat}{i:Nat}{listed:Array Bool}(d:UB all m (π1++i::π2) listed)(hn:(π1++i::π2).Nodup)(hi:i∈Region.ready .any all listed)(hm:i<m)(hms:m<=all.size):
 UB all m (π1++π2) (listed.setIfInBounds i true):=by
 have hin:i<all.size:=by omega
 obtain ⟨r1,o,ho,r2⟩:=mem_ready.1 hi;refine ⟨by simp [d.size],fun j hj=>?_,fun j oj hoj hj e he hb=>?_⟩
 ·have hx:=mT (l:=listed) (i:=i) (j:=j) (by rw [d.size];exact hin);have hd:=d.un j hj;have hnn:i∉π1/\i∉π2:=by
   have:=List.nodup_append.1 hn;refine ⟨fun h=>this.2.2 i h i (aa4 ..) T,(ao4.1 this.2.1).1⟩
  constructor
  ·intro h;have h0: ¬(j=i\/listed.getD j false=true):=fun hc=>by rw [hx.2 hc] at h;cases h
   have hji:j≠i:=fun e=>h0 (.inl e);have h1:listed.getD j false=false:=by
    cases hc:listed.getD j false with
    |false=>rfl |true=>exact (h0 (.inr hc)).elim
   rcases hd.1 h1 with h2|h2
   ·simp only [af0,ab0] at h2⊢;rcases h2 with h2|h2|h2
    ·exact .inl (.inl h2)
    ·exact (hji h2).elim
    ·exact .inl (.inr h2)
   ·exact .inr h2
  ·intro h;have hji:j≠i:=by
    rintro rfl;rcases h with h|h
    ·rcases af0.1 h with h|h
     ·exact hnn.1 h
     ·exact hnn.2 h
    ·omega
   have h1:listed.getD j false=false:=hd.2 (by
    rcases h with h|h
    ·left;simp only [af0,ab0] at h⊢;rcases h with h|h
     ·exact .inl h
     ·exact .inr (.inr h)
    ·exact .inr h)
   cases hc:(listed.setIfInBounds i true).getD j false with
   |false=>rfl
   |true=>rcases hx.1 hc with e|e
          ·exact (hji e).elim
          ·rw [h1] at e;cases e
 ·have hx:=fun k=>mT (l:=listed) (i:=i) (j:=k) (by rw [d.size];exact hin);rcases (hx j).1 hj with e'|e'
  ·subst e';rw [ho] at hoj;injection hoj with hoj;subst hoj;exact (hx _).2 (.inr (r2 e he hb))
  ·exact (hx _).2 (.inr (d.down j oj hoj e' e he hb))
theorem AW{all:Array Oper}(hback: ∀(i:Nat) o,all[i]? =some o-> ∀e,e∈o.after->Region.binds .any e=true->e.on<i){m:Nat}(hms:m<=all.size)
 (htail: ∀k,k<all.size->m<=k-> ∀j,j<k->yI (sI all.toList []) k j=true):
 ∀(fuel t m':Nat) (listed:Array Bool),m<=m'->fuel+m'=all.size->listed.size=all.size->(∀i,i<all.size->(listed.getD i false=false↔m'<=i))->uP all (fun i=>listed.getD i false)->
  Region.linearise.go .any all fuel t listed []=ag6 m' fuel
 |0,t,m',listed,_,_,_,_,_=>rfl |fuel+1,t,m',listed,hm,hf,hs,hu,hd=>by
  have hlt:m'<all.size:=by omega
  have hne:=DZ hback hs hlt ((hu m' hlt).2 (aa6 _));obtain ⟨i,t',hi,hgo⟩:=SG t fuel hne;obtain ⟨r1,o,ho,r2⟩:=mem_ready.1 hi;have hin:i<all.size:=by
   rcases ad7 i all.size with h|h
   ·exact h
   ·rw [af3 h] at ho;cases ho
  have hiu:listed.getD i false=false:=by rw [<-IL (by omega)];exact r1
  have hge:=(hu i hin).1 hiu;have him:i=m':=by
   rcases ad7 m' i with h|h
   ·have:listed.getD m' false=true:=KJ hd hback i o ho r2 m' (htail i hin (by omega) m' h);rw [(hu m' hlt).2 (aa6 _)] at this;cases this
   ·omega
  subst him;rw [hgo,as4];congr 1;refine AW hback hms htail fuel t' (i+1) _ (by omega) (by omega) (by simp [hs]) (fun j hj=>?_) (fun j oj hoj hj e he hb=>?_)
  ·have hx:=mT (l:=listed) (i:=i) (j:=j) (by omega);constructor
   ·intro h;have h0: ¬(j=i\/listed.getD j false=true):=fun hc=>by rw [hx.2 hc] at h;cases h
    have h1:listed.getD j false=false:=by
     cases hc:listed.getD j false with
     |false=>rfl |true=>exact (h0 (.inr hc)).elim
    have:=(hu j hj).1 h1;have hji:j≠i:=fun e=>h0 (.inl e);omega
   ·intro h;cases hc:(listed.setIfInBounds i true).getD j false with
    |false=>rfl
    |true=>rcases hx.1 hc with e|e
           ·omega
           ·rw [(hu j hj).2 (by omega)] at e;cases e
  ·have hx:=fun k=>mT (l:=listed) (i:=i) (j:=k) (by omega);rcases (hx j).1 hj with e'|e'
   ·subst e';rw [ho] at hoj;injection hoj with hoj;subst hoj;exact (hx _).2 (.inr (r2 e he hb))
   ·exact (hx _).2 (.inr (hd j oj hoj e' e he hb))
structure HO(G:Rg)(m:Nat)(π:List Nat):Prop where
 sel:Region.noSelect G.all=true
 back: ∀(i:Nat) o,G.all[i]? =some o-> ∀e,e∈o.after->Region.binds .any e=true->e.on<i
 len:π.length=m
 le:m<=G.all.size
 lt: ∀i,i∈π->i<m
 nodup:π.Nodup
 full: ∀i,i<m->i∈π
 pairs:π.Pairwise fun j i=>yI (sI G.all.toList []) j i=false/\(yI (sI G.all.toList []) i j=true\/RR G j i)
 tail: ∀k,k<G.all.size->m<=k-> ∀j,j<k->yI (sI G.all.toList []) k j=true
 pubs: ∀i,i∈π->(G.pubs i).Nodup/\ ∀j,j∈G.pubs i->j<G.all.size
theorem xC{G:Rg}{tab:List Nat}: ∀(π:List Nat),π.Nodup->BP G.all tab G.pubs π=true->π.Pairwise fun j i=>yI tab j i=false/\(yI tab i j=true\/RR G j i)
 | [],_,_=> .nil |j::l,hn,h=>by
  obtain ⟨n1,n2⟩:=ao4.1 hn;simp only [BP,aa1,ac5] at h;refine .cons (fun i hi=>?_) (xC l n2 h.2);have hp:=h.1 i hi;simp only [qJ,aa1,ag1,aj7] at hp;refine ⟨hp.1,hp.2.imp id fun hq=>?_⟩;split at hq
  ·rename_i oj hoj;split at hq
   ·rename_i oi hoi;simp only [aa1,aj7,ag1,ac5] at hq;obtain ⟨⟨⟨⟨⟨⟨q1,q2⟩,q0⟩,q3⟩,q4⟩,q6⟩,q5⟩:=hq;rw [cC,ac2] at hoj hoi;refine ⟨fun e=>n1 (e▸hi),fun oi' oj' h1 h2=>?_,fun hm=>(by rw [fG.2 hm] at q3;cases q3),fun hm=>(by rw [fG.2 hm] at q4;cases q4)⟩
    ·rw [hoi] at h1;rw [hoj] at h2;injection h1 with h1;injection h2 with h2;subst h1;subst h2;refine ⟨q1,q2.imp id U4,VL q6,fun hne k hk hm=>?_,(by
      rcases q0 with ((q|q)|q)|q
      ·exact .inl q
      ·exact .inr (.inl ⟨q.1,F9 q.2⟩)
      ·exact .inr (.inr (.inl ⟨C6 q.1,PN q.2⟩))
      ·exact .inr (.inr (.inr ⟨C6 q.1.1,a0b q.2,F9 q.1.2⟩)))⟩
     rcases q5 with q5|q5
     ·obtain ⟨e1,e2⟩:=KQ q5;exact hne.elim (fun h=>h e1) (fun h=>h e2)
     ·have:=q5 k hk;rw [fG.2 hm] at this;cases this
   ·cases hq
  ·cases hq
theorem zZ{G:Rg}{m:Nat}{π:List Nat}(h:IA G.all m π G.pubs=true):HO G m π:=by
 unfold IA at h;rw [F7] at h;simp only [aa1,ac5] at h;obtain ⟨⟨⟨⟨⟨⟨⟨⟨⟨h1,h2⟩,h3⟩,h4⟩,h5⟩,h6⟩,hfull⟩,h7⟩,h8⟩,h9⟩:=h;have hb:=zW _ _ h2;refine ⟨h1,fun i o ho e he hbe=>?_,ab2 h3,af7 h4,fun i hi=>by simpa [ah3] using h5 i hi,oB h6,fun i hi=>fG.1 (hfull i (by simpa using hi)),xC π (oB h6) h7,fun k hk hmk j hj=>?_,fun i hi=>?_⟩
 ·have:=hb i o (by rw [ac2];exact ho) e he hbe;omega
 ·simp only [tailOk,ac5,List.mem_range,aj7] at h8;rcases h8 k hk with e|e
  ·rw [ah3] at e;omega
  ·exact e j hj
 ·have:=h9 i hi;exact ⟨oB this.1,fun j hj=>by simpa [ah3] using this.2 j hj⟩
def lL(all:Array Oper)(m:Nat)(π:List Nat)(pubs:Nat->List Nat):Bool:=match j9 all.toList with
 |true=>IA all m π pubs |false=>false
theorem wG{all:Array Oper}{m:Nat}{π:List Nat}{pubs:Nat->List Nat}(h:lL all m π pubs=true):IA all m π pubs=true/\j9 all.toList=true:=by
 unfold lL at h;split at h
 ·rename_i hn;exact ⟨h,hn⟩
 ·cases h
def Runs(C:nY)(todo:List Item)(a:Act)(w:World)(b:Frame)(cs:List Frame):Prop:=
 ∃v w' m h' L',C.R v h' L'/\St C.w0 h' L' w'/\Steps C.P (lone (b.atR a todo) cs w) m/\C.Out cs w' v m/\True
theorem Rg.run(G:Rg){m:Nat}{π0:List Nat}(ok:HO G m π0){k:List It}(hk:fY k){b:Frame}{cs:List Frame}(hndf:j9 G.all.toList=true)(hbf:b.fn=G.C.f)(hbk:FrOk G.C b cs)
 (hFin: ∀a h E,G.Fin a h E-> ∃e',Ag G.C.n G.C.D e' a/\V G.C (.ops G.all (G.all.toList.drop m)::k) e' h (aE.list G.all.size E++G.L0)):
 ∀(len:Nat) (π:List Nat),π.length=len->π.Sublist π0-> ∀(listed:Array Bool) (t:Nat) (a:Act) (h:GH) (E:aE) (w:World),UB G.all m π listed->G.W π a h E->G.live h E w->
  Runs G.C (.inRegion G.all (Region.linearise.go .any G.all (len+(G.all.size-m)) t listed [])::items k) a w b cs
 |0,π,hlen,hsub,listed,t,a,h,E,w,d,hW,s=>by
  have hπ:π=[]:=ad0.1 hlen;subst hπ;rw [ag9,AW ok.back ok.le ok.tail (G.all.size-m) t m listed (aa6 _) (by have:=ok.le;omega) d.size (fun i hi=>by have:=d.un i hi;simpa using this) d.down];obtain ⟨e',g,hv⟩:=hFin a h E hW;have hok:fY (.ops G.all (G.all.toList.drop m)::k):=tC (pre:=G.all.toList.take m) (by simp) hndf hk;obtain ⟨v,w',fr,h',L',r1,r2,r3,r4,r5⟩:=hv hok a w b cs g s hbf hbk;refine ⟨v,w',fr,h',L',r1,r2,?_,r4,r5⟩;have e:items (.ops G.all (G.all.toList.drop m)::k)= .inRegion G.all (ag6 m (G.all.size-m))::items k:=by simp only [items,ac8,It.item,ai0,Array.length_toList];rw [show G.all.size-(G.all.size-m)=m by have:=ok.le;omega]
  rw [e] at r3;exact r3
 |len+1,π,hlen,hsub,listed,t,a,h,E,w,d,hW,s=>by
  have hpos: ∃i,i∈π:=by
   cases π with
   |nil=>simp at hlen |cons x l=>exact ⟨x,aa4 ..⟩
  obtain ⟨i1,hi1⟩:=hpos;have hi1m:i1<m:=ok.lt i1 (hsub.subset hi1);have hne:=DZ ok.back d.size (i:=i1) (by have:=ok.le;omega) ((d.un i1 (by have:=ok.le;omega)).2 (.inl hi1));rw [show len+1+(G.all.size-m)=(len+(G.all.size-m))+1 by omega];obtain ⟨i,t',hi,hgo⟩:=SG t (len+(G.all.size-m)) hne;rw [hgo];obtain ⟨r1,o,ho,r2⟩:=mem_ready.1 hi;have hin:i<G.all.size:=by
   rcases ad7 i G.all.size with h|h
   ·exact h
   ·rw [af3 h] at ho;cases ho
  have hiu:listed.getD i false=false:=by rw [<-IL (by rw [d.size];exact hin)];exact r1
  have hanc: ∀j,yI (sI G.all.toList []) i j=true->listed.getD j false=true:=fun j hj=>KJ d.down ok.back i o ho r2 j hj;have him:i∈π:=by
   rcases (d.un i hin).1 hiu with h|h
   ·exact h
   ·have:=hanc i1 (ok.tail i hin h i1 (by omega));rw [(d.un i1 (by have:=ok.le;omega)).2 (.inl hi1)] at this;cases this
  obtain ⟨π1,π2,hsplit⟩:=List.append_of_mem him;subst hsplit;have hpw:=ok.pairs.sublist hsub;have hnd:=ok.nodup.sublist hsub;have hsw: ∀j,j∈π1->RR G j i:=fun j hj=>by
   obtain ⟨_,q⟩:=(List.pairwise_append.1 hpw).2.2 j hj i (aa4 ..);rcases q with q|q
   ·have:=hanc j q;have hjm:j∈π1++i::π2:=ac9 _ hj;rw [(d.un j (by have:=ok.lt j (hsub.subset hjm);have:=ok.le;omega)).2 (.inl hjm)] at this;cases this
   ·exact q
  have z:G.Rz h:=⟨w,s.sub (af9 _ _)⟩;have node:=Rg.pull ok.sel ho π1 a h E z hsw hW;have hmi:i<m:=ok.lt i (hsub.subset him);have d':=d.step hnd hi hmi ok.le;have hsub':(π1++π2).Sublist π0:=((List.Sublist.refl π1).append (ai5 i π2)).trans hsub;have hlen':(π1++π2).length=len:=by simp at hlen⊢;omega
  obtain ⟨n1,n2⟩:=Rg.Node.sound hin (ok.pubs i (hsub.subset him)) node s
  by_cases hon:c9 G.all o a=true
  ·obtain ⟨a',w',⟨h',E',s',_,hW'⟩,st⟩:=op_run (P:=G.C.P) (b:=b) (k:=items k) (cs:=cs) (rest:=Region.linearise.go .any G.all (len+(G.all.size-m)) t' (listed.setIfInBounds i true) []) ho (vC hndf (by rw [ac2];exact ho)) hon (n1 hon);obtain ⟨v,w'',fr,h'',L'',q1,q2,q3,q4,q5⟩:=Rg.run G ok hk hndf hbf hbk hFin len (π1++π2) hlen' hsub' _ t' a' h' E' w' d' hW' s';exact ⟨v,w'',fr,h'',L'',q1,q2,st.trans q3,q4,q5⟩
  ·have hon:c9 G.all o a=false:=by simpa using hon
   have hW':=n2 hon;obtain ⟨v,w'',fr,h'',L'',q1,q2,q3,q4,q5⟩:=Rg.run G ok hk hndf hbf hbk hFin len (π1++π2) hlen' hsub' _ t' _ h E w d' hW' s;refine ⟨v,w'',fr,h'',L'',q1,q2,?_,q4,q5⟩;have hs:=stepR_op_skip (P:=G.C.P) (b:=b) (a:=a) (k:=items k) (cs:=cs) (w:=w) (ops:=G.all) (i:=i) (rest:=Region.linearise.go .any G.all (len+(G.all.size-m)) t' (listed.setIfInBounds i true) []) (by simp only [ho,ag0,ap8];exact hon);rw [ho] at hs;exact .head hs q3
variable{C:nY}{k:List It}{e:Env}{h:GH}{L:List a6}
abbrev cG(C:nY)(all:Array Oper)(L:List a6)(pubs:Nat->List Nat)(Y:Nat->List Value->Value->GH->Prop)(m:Nat)(k:List It):Rg:=
 ⟨C,all,L,pubs,Y,fun a h E=> ∃e',Ag C.n C.D e' a/\V C (.ops all (all.toList.drop m)::k) e' h (aE.list all.size E++L)⟩
def WE(G:Rg)(π:List Nat)(e:Env)(h:GH)(E:aE):Prop:= ∀a,Ag G.C.n G.C.D e a->G.W π a h E
theorem V.draw{all:Array Oper}{id:Nat}(m:Nat)(π:List Nat)(pubs:Nat->List Nat)(Y:Nat->List Value->Value->GH->Prop)(hm:C.P.follows .mixedOrders=true)(hok:lL all m π pubs=true)
 (hv:WE (cG C all L pubs Y m k) π e h aE.none):V C (.code (.region id all true)::k) e h L:=by
 intro ho a w b cs g s hf hk;have hok1:=wG hok;have hnd:=hok1.2;have ok:HO (cG C all L pubs Y m k) m π:=zZ hok1.1;have hW:=hv a g;have s':(cG C all L pubs Y m k).live h aE.none {w with drawn:=w.drawn+1}:=by show St C.w0 h (aE.list all.size aE.none++L) _;rw [aE.fg];exact s.drew
 have hd:UB all m π (ah6 all.size false):=by
  refine ⟨by simp,fun i hi=>⟨fun _=>?_,fun _=>by simp [hi]⟩,fun i o ho hi=>?_⟩
  rotate_left
  ·have:(ah6 all.size false).getD i false=false:=by
    simp only [ah4,Array.getElem?_replicate];split<;>rfl
   have hi':(ah6 all.size false).getD i false=true:=hi;rw [this] at hi';cases hi'
  by_cases him:i<m
  ·left;exact ok.full i him
  ·right;omega
 have hr:=Rg.run (cG C all L pubs Y m k) ok (bD ho) (cs:=cs) hnd hf hk (fun a h E x=>x) m π ok.len (List.Sublist.refl _) (ah6 all.size false) (w.tape w.drawn (.order b.fn id)) a h aE.none _ hd hW s';obtain ⟨v,w'',fr,h'',L'',q1,q2,q3,q4,q5⟩:=hr;refine ⟨v,w'',fr,h'',L'',q1,q2,?_,q4,q5⟩;have hstep:=stepR_region_draw (P:=C.P) (b:=b) (a:=a) (k:=items k) (cs:=cs) (w:=w) (ops:=all) (id:=id);have hsch:Region.schedule (C.P.follows .mixedOrders) all (w.tape w.drawn (.order b.fn id))=Region.linearise.go .any all (m+(all.size-m)) (w.tape w.drawn (.order b.fn id)) (ah6 all.size false) []:=by
  rw [show m+(all.size-m)=all.size by have:m<=all.size:=ok.le;omega];simp only [Region.schedule,hm,Bool.true_or,if_true]
  rfl
 rw [hsch] at hstep;exact .head hstep q3
end Go.Tp
namespace Go.Tp
open Go Go.RowKit
section we
variable{G:Rg}{π:List Nat}{e:Env}{h:GH}{E:aE}
theorem WE.value{i:Nat}{o:Oper}{m:Option (Nat×Bool)}{ks:List (Nat×Bool)}{v:Value}{e':Env}(ho:bU G.all.toList i=some o)(hk:kd o= .qt)(hg:iH e G.all o.guard=some (m,ks))
 (hr: ∀a w E,Ag G.C.n G.C.D e a->St G.C.w0 h (E++G.L0) w->dK a ks->(execOp a.eval o).run G.C.P w= .ok (.value v) w) (hp:e.put G.C.n m o.dst v=some e') (next:WE G π e' h E):WE G (i::π) e h E:=by
 intro a g;refine ⟨o,by rw [cC,ac2] at ho;exact ho,?_⟩;unfold Rg.Node;rcases qE g hg with ⟨rfl,hon,hks⟩|⟨t,b,rfl,hiff,hks⟩
 ·rw [hon,hk];exact ⟨v, .inl fun E w s=>hr a w E g s hks,next _ (g.put hp)⟩
 ·cases hon:c9 G.all o a with
  |true=>
   rw [hk];exact ⟨v, .inl fun E w s=>hr a w E g s (hks hon),next _ (g.iy hp (fun _=>rfl) (fun hx=>(hx (hiff.1 hon)).elim))⟩
  |false=>
   refine next _ (g.iy hp (fun hx=>?_) (fun _=>rfl))
   have:=hiff.2 hx;rw [hon] at this;cases this
def VE(o:Oper):Bool:=match kd o with
 | .qt=>true |_=>false
def wstep(S:TT)(n:Nat)(all:Array Oper)(π:List Nat)(e:Env):Option (List Nat×Env):=
 match π with
 | []=>none |i::π=>match bU all.toList i with
  |some o=>match VE o with
   |true=>match iH e all o.guard with
    |some (m,ks)=>match pve S e ks o.op with
     |some v=>match e.put n m o.dst v with
      |some e'=>some (π,e') |none=>none
     |none=>none
    |none=>none
   |false=>none
  |none=>none
theorem WE.step{π':List Nat}{e':Env}(hs:wstep G.C.S G.C.n G.all π e=some (π',e'))(next:WE G π' e' h E):WE G π e h E:=by
 unfold wstep at hs;split at hs
 ·cases hs
 ·rename_i i π;split at hs
  ·rename_i o ho;split at hs
   ·rename_i hk;have hk:kd o= .qt:=by unfold VE at hk;split at hk<;>first|assumption|cases hk
    split at hs
    ·rename_i m ks hg;split at hs
     ·rename_i v hpv;split at hs
      ·rename_i e'' hput;injection hs with hs;injection hs with h1 h2;subst h1;subst h2;exact WE.value ho hk hg (fun a w E g s hks=>xL G.C.ok g hks hpv) hput next
      ·cases hs
     ·cases hs
    ·cases hs
   ·cases hs
  ·cases hs
theorem wR{o:Oper}{t:TypeId}{p:Operand}(ho:o.op= .load t p):kd o= .qt:=by unfold kd;rw [ho]
theorem wQ{o:Oper}{t:TypeId}{p q:Operand}(ho:o.op= .indexAddr t p q):kd o= .qt:=by unfold kd;rw [ho]
theorem WE.load{i:Nat}{o:Oper}{m:Option (Nat×Bool)}{ks:List (Nat×Bool)}{t:TypeId}{p:Operand}{b off:Nat}{ti:TI}{x:a6}{v:Value}{e':Env}
 (hi:bU G.all.toList i=some o) (hg:iH e G.all o.guard=some (m,ks)) (ho:o.op= .load t p) (hp:e.ev ks p=some (.pointer (some ⟨b,off,none⟩))) (ht:G.C.S.get t=some ti) [z:EntAt G.L0 b x]
 (hv:S1 ti x off=some v) (hput:e.put G.C.n m o.dst v=some e') (next:WE G π e' h E):WE G (i::π) e h E:=
 WE.value hi (wR ho) hg (fun a w E g s hk=>by have:=oF (TT.Ok.get G.C.ok ht) (s.own x (ae6 _ z.mem)) z.blk hv;unfold execOp;rw [ho];simp only [g.ev hk hp,aa9,this,aa5,ab5]) hput next
theorem WE.fh{i:Nat}{o:Oper}{m:Option (Nat×Bool)}{ks:List (Nat×Bool)}{t:TypeId}{p:Operand}{b off:Nat}{ti:TI}{v:Value}{e':Env}
 (hi:bU G.all.toList i=some o) (hg:iH e G.all o.guard=some (m,ks)) (ho:o.op= .load t p) (hp:e.ev ks p=some (.pointer (some ⟨b,off,none⟩))) (ht:G.C.S.get t=some ti) (ha:ti.agg=false)
 (hv:h b off=some v) (hput:e.put G.C.n m o.dst v=some e') (next:WE G π e' h E):WE G (i::π) e h E:=
 WE.value hi (wR ho) hg (fun a w E g s hk=>by have:=hK (P:=G.C.P) (TT.Ok.get G.C.ok ht) ha (s.imm _ _ _ hv);unfold execOp;rw [ho];simp only [g.ev hk hp,aa9,this,aa5,ab5]) hput next
theorem WE.bp{i:Nat}{o:Oper}{m:Option (Nat×Bool)}{ks:List (Nat×Bool)}{t:TypeId}{p:Operand}{b off:Nat}{ti:TI}{vs:List Value}{e':Env}
 (hi:bU G.all.toList i=some o) (hg:iH e G.all o.guard=some (m,ks)) (ho:o.op= .load t p) (hp:e.ev ks p=some (.pointer (some ⟨b,off,none⟩))) (ht:G.C.S.get t=some ti) (ha:ti.agg=true)
 (hv:iB h b off vs) (hl:vs.length=ti.size) (hput:e.put G.C.n m o.dst (.agg ⟨vs⟩)=some e') (next:WE G π e' h E):WE G (i::π) e h E:=
 WE.value hi (wR ho) hg (fun a w E g s hk=>by have:=kG (P:=G.C.P) (TT.Ok.get G.C.ok ht) ha (fun i u hu=>s.imm _ _ _ (hv i u hu)) hl;unfold execOp;rw [ho];simp only [g.ev hk hp,aa9,this,aa5,ab5]) hput next
theorem WE.skip{i:Nat}{o:Oper}{x:Bool}{e':Env}(hi:bU G.all.toList i=some o)(hg:gno e G.all o.guard=some x)(hp:e.put G.C.n none o.dst undef=some e')(next:WE G π e' h E):WE G (i::π) e h E:=by intro a g;refine ⟨o,by rw [cC,ac2] at hi;exact hi,?_⟩;unfold Rg.Node;have:c9 G.all o a=false:=ME g hg;rw [this];exact next _ (g.put hp)
theorem WE.alloc{i:Nat}{o:Oper}{ks:List (Nat×Bool)}{t:TypeId}{ti:TI}{d:Nat}(hi:bU G.all.toList i=some o)
 (hg:fX e G.all o.guard=some ks) (ho:o.op= .alloc t) (ht:G.C.S.get t=some ti) (h1:aP ti.zero=true) (hd:o.dst=some d) (hc:eY G.C.n e d=true) (hE:E i=none)
 (next: ∀b,WE G π ⟨(d, .pointer (some ⟨b,0,none⟩))::e.us,e.cs⟩ h (E.set i (some ⟨b,0,ti.zero,none⟩))):WE G (i::π) e h E:=by
 intro a g;refine ⟨o,by rw [cC,ac2] at hi;exact hi,?_⟩;unfold Rg.Node;have hk:kd o= .mk:=by unfold kd;rw [ho]
 rw [(f6 g hg).1,hk];refine ⟨ti.zero, .ptr,by unfold y7;rw [ho];simp only [ht],h1,hE,fun b=>next b _ (g.put (by rw [hd];exact f8 hc))⟩
theorem GC{place:Nat->Option (Nat×Nat)}{ρ ρ':Operand->Option Value}(hρ: ∀x v,ρ x=some v->ρ' x=some v): ∀(parts:List (Nat×Operand)) (cs:List Value) {r:List Value},tZ place ρ parts cs=some r->tZ place ρ' parts cs=some r
 | [],_,_,h=>h |(i,x)::p,cs,r,h=>by
  simp only [tZ] at h⊢;split at h
  ·rename_i v hv;rw [hρ _ _ hv];simp only;split at h
   ·rename_i off size hpl
    (try rw [hpl])
    (try simp only)
    split at h
    ·rename_i hsz
     (try rw [hsz])
     (try simp only)
     split at h
     ·rename_i cs' hu
      (try rw [hu])
      exact GC hρ p cs' h
     ·cases h
    ·cases h
   ·cases h
  ·cases h
theorem GG{S:TT}{ρ ρ':Operand->Option Value}(hρ: ∀x v,ρ x=some v->ρ' x=some v){t:TypeId}{len:Nat}{parts:List (Nat×Operand)}{r:List Value}(h:wW S ρ t len parts=some r):wW S ρ' t len parts=some r:=by
 unfold wW at*;split at h
 ·split at h
  ·split at h
   ·split at h
    ·cases h
    ·split at h
     ·exact GC hρ _ _ h
     ·cases h
   ·cases h
  ·cases h
 ·cases h
theorem WE.lit{i:Nat}{o:Oper}{ks:List (Nat×Bool)}{t:TypeId}{len:Nat}{parts:Array (Nat×Operand)}{cs:List Value}{d:Nat}(hi:bU G.all.toList i=some o)
 (hg:fX e G.all o.guard=some ks) (ho:o.op= .buildSlice t len parts) (hl:wW G.C.S (e.ev ks) t len parts.toList=some cs) (h1:aP cs=true) (hd:o.dst=some d) (hc:eY G.C.n e d=true) (hE:E i=none)
 (next: ∀b,WE G π ⟨(d, .slice (some ⟨b,0,none⟩) len len)::e.us,e.cs⟩ h (E.set i (some ⟨b,0,cs,none⟩))):WE G (i::π) e h E:=by
 intro a g;refine ⟨o,by rw [cC,ac2] at hi;exact hi,?_⟩;unfold Rg.Node;have hk:kd o= .mk:=by unfold kd;rw [ho]
 obtain ⟨g1,g2⟩:=f6 g hg;rw [g1,hk];have hl':=GG (ρ':=fun x=>some (a.eval x)) (fun x v hx=>by rw [g.ev g2 hx]) hl;refine ⟨cs, .sl len,by unfold y7;rw [ho];simp only [hl'],h1,hE,fun b=>next b _ (g.put (by rw [hd];exact f8 hc))⟩
theorem WE.gk{i:Nat}{o:Oper}{ks:List (Nat×Bool)}{x:Operand}{args:Array Operand}{ts:Array TypeId}{f:FuncId}{fst cap:Array Value}{vs:List Value}{d:Nat}(hi:bU G.all.toList i=some o)
 (hg:fX e G.all o.guard=some ks) (ho:o.op= .call ⟨.value x,args,ts⟩) (hx:e.ev ks x=some (.func (.func f) fst cap)) (ha:PG (e.ev ks) args.toList=some vs)
 (hd:o.dst=some d) (hc:eY G.C.n e d=true)
 (hf:q7 E (G.pubs i) h-> ∀L,bM G.C.P G.C.w0 f (fst.toList++(vs++cap.toList)) (fT E (G.pubs i) h) (L++G.L0) (fun v h' L'=>L'=L++G.L0/\(fT E (G.pubs i) h).le h'/\G.Y i (fst.toList++(vs++cap.toList)) v h'))
 (next: ∀v h',(fT E (G.pubs i) h).le h'->h.le h'->G.Y i (fst.toList++(vs++cap.toList)) v h'->WE G π ⟨(d,v)::e.us,e.cs⟩ h' (pP (G.pubs i) E)) (hii:fS i (G.pubs i)=false:=by rfl):WE G (i::π) e h E:=by
 intro a g;refine ⟨o,by rw [cC,ac2] at hi;exact hi,?_⟩;unfold Rg.Node;have hk:kd o= .cl:=by unfold kd;rw [ho]
 obtain ⟨g1,g2⟩:=f6 g hg;rw [g1,hk];have e1:args.toList.map a.eval=vs:=lU (fun x v hx=>g.ev g2 hx) ha;simp only [hii];refine ⟨f,fst.toList++(vs++cap.toList),by unfold wH;rw [ho];simp only [g.ev g2 hx,e1],hf,fun v h' y1 y2 _ y4=>next v h' y1 y2 y4 _ (g.put (by rw [hd];exact f8 hc))⟩
theorem WE.call{i:Nat}{o:Oper}{ks:List (Nat×Bool)}{x:Operand}{args:Array Operand}{ts:Array TypeId}{f:FuncId}{fst cap:Array Value}{vs:List Value}{d:Nat}(hi:bU G.all.toList i=some o)
 (hg:fX e G.all o.guard=some ks) (ho:o.op= .call ⟨.value x,args,ts⟩) (hx:e.ev ks x=some (.func (.func f) fst cap)) (ha:PG (e.ev ks) args.toList=some vs)
 (hd:o.dst=some d) (hc:eY G.C.n e d=true)
 (hf: ∀L,bM G.C.P G.C.w0 f (fst.toList++(vs++cap.toList)) (fT E (G.pubs i) h) L (fun v h' L'=>L'=L/\(fT E (G.pubs i) h).le h'/\G.Y i (fst.toList++(vs++cap.toList)) v h'))
 (next: ∀v h',(fT E (G.pubs i) h).le h'->h.le h'->G.Y i (fst.toList++(vs++cap.toList)) v h'->WE G π ⟨(d,v)::e.us,e.cs⟩ h' (pP (G.pubs i) E)) (hii:fS i (G.pubs i)=false:=by rfl):WE G (i::π) e h E:=
 WE.gk hi hg ho hx ha hd hc (fun _ L=>hf (L++G.L0)) next hii
theorem WE.gw{i:Nat}{o:Oper}{ks:List (Nat×Bool)}{x:Operand}{args:Array Operand}{ts:Array TypeId}{f:FuncId}{fst cap:Array Value}{vs:List Value}{d:Nat}{u:a6}(hi:bU G.all.toList i=some o)
 (hg:fX e G.all o.guard=some ks) (ho:o.op= .call ⟨.value x,args,ts⟩) (hx:e.ev ks x=some (.func (.func f) fst cap)) (ha:PG (e.ev ks) args.toList=some vs)
 (hd:o.dst=some d) (hc:eY G.C.n e d=true) (hii:fS i (G.pubs i)=true) (hE:E i=some u)
 (hf: ∀L,bM G.C.P G.C.w0 f (fst.toList++(vs++cap.toList)) h (u::(L++G.L0)) (fun v h' L'=>(L++G.L0).Sublist L'/\h.le h'/\G.Y i (fst.toList++(vs++cap.toList)) v h'))
 (next: ∀v h',h.le h'->G.Y i (fst.toList++(vs++cap.toList)) v h'->WE G π ⟨(d,v)::e.us,e.cs⟩ h' (E.set i none)) (hfr:fr2 (G.pubs i)=false:=by rfl):WE G (i::π) e h E:=by
 intro a g;refine ⟨o,by rw [cC,ac2] at hi;exact hi,?_⟩;unfold Rg.Node;have hk:kd o= .cl:=by unfold kd;rw [ho]
 obtain ⟨g1,g2⟩:=f6 g hg;rw [g1,hk];have e1:args.toList.map a.eval=vs:=lU (fun x v hx=>g.ev g2 hx) ha;simp only [hii];refine ⟨f,fst.toList++(vs++cap.toList),fun v h' x'=>x'=none/\G.Y i (fst.toList++(vs++cap.toList)) v h',fun e=>(by rw [hfr] at e;cases e),by unfold wH;rw [ho];simp only [g.ev g2 hx,e1],fun L=>?_,fun v h' x' y1 _ y4=>?_⟩
 ·rw [hE];exact (hf L).mono fun v h' L' y=>⟨none,y.1,y.2.1,rfl,y.2.2⟩
 ·obtain ⟨rfl,y4⟩:=y4;exact next v h' y1 y4 _ (g.put (by rw [hd];exact f8 hc))
def yl:List (Nat×(List Value->Value->GH->Prop))->Nat->List Value->Value->GH->Prop
 | [],_=>fun _ _ _=>False |(k,y)::r,i=>match Nat.beq k i with
  |true=>y |false=>yl r i
def DK:Nat->List Nat:=fun _=>[]
theorem WE.store{i:Nat}{o:Oper}{ks:List (Nat×Bool)}{t:TypeId}{p y:Operand}{b off j:Nat}{ti:TI}{x x':a6}{v:Value}(hi:bU G.all.toList i=some o)
 (hg:fX e G.all o.guard=some ks) (ho:o.op= .store t p y) (hp:e.ev ks p=some (.pointer (some ⟨b,off,none⟩))) (hy:e.ev ks y=some v) (ht:G.C.S.get t=some ti)
 (hj:G.pubs i=[j]) (hE:E j=some x) (hb:x.b=b) (hv:Q6 ti x off v=some x') (hd:o.dst=none) (next:WE G π e h (E.set j (some x'))):WE G (i::π) e h E:=by
 intro a g;refine ⟨o,by rw [cC,ac2] at hi;exact hi,?_⟩;unfold Rg.Node;have hk:kd o= .st:=by unfold kd;rw [ho]
 obtain ⟨g1,g2⟩:=f6 g hg;rw [g1,hk];exact ⟨t,b,off,v,j,x,x',ti,by unfold WL;rw [ho];simp only [g.ev g2 hp,g.ev g2 hy],ht,hj,hE,hb,hv,hd,next a g⟩
theorem WE.append{i:Nat}{o:Oper}{ks:List (Nat×Bool)}{y1 y2:Operand}{t el:TypeId}{ti ei:TI}{v1 v2:Value}{x:a6}{d:Nat}(hi:bU G.all.toList i=some o)
 (hg:fX e G.all o.guard=some ks) (ho:o.op= .call ⟨.builtin .append, #[y1,y2], #[t,t]⟩) (h1:e.ev ks y1=some v1) (h2:e.ev ks y2=some v2)
 (ht:G.C.S.get t=some ti) (hdd:ti.d= .slice el) (he:G.C.S.get el=some ei) (hsz:Nat.blt 0 ei.size=true) (hz1:aP ei.zero=true) (hby:Nat.ble ei.bytes 4096=true)
 (hd:o.dst=some d) (hc:eY G.C.n e d=true) (hE:E i=some x) (hp:i∉G.pubs i) (pre:q7 E (G.pubs i) h->ApPre (fT E (G.pubs i) h) (ei.size,true) v1 v2 x)
 (next: ∀v' h' x',q7 E (G.pubs i) h->(fT E (G.pubs i) h).le h'->h.le h'->ApY (ei.size,true) v1 v2 x v' h' x'->WE G π ⟨(d,v')::e.us,e.cs⟩ h' ((pP (G.pubs i) E).set i (some x'))):WE G (i::π) e h E:=by
 intro a g;refine ⟨o,by rw [cC,ac2] at hi;exact hi,?_⟩;unfold Rg.Node;have hk:kd o= .ap:=by unfold kd;rw [ho]
 obtain ⟨g1,g2⟩:=f6 g hg;rw [g1,hk];have e1:=g.ev g2 h1;have e2:=g.ev g2 h2;have hfl:fS i (G.pubs i)=false:=by
  cases hb:fS i (G.pubs i) with
  |false=>rfl |true=>exact (hp (fG.1 hb)).elim
 simp only [hfl];refine ⟨y1,y2,(ei.size,true),x,⟨t,t,el,ti,ei,ho,ht,hdd,he,by simpa [ah3] using hsz,hz1,af7 hby,rfl,fun _=>rfl⟩,hE,hp,by rw [e1,e2];exact pre,fun v h' x' y0 y1 y2 _ y4=>?_⟩;rw [e1,e2] at y4;exact next v h' x' y0 y1 y2 y4 _ (g.put (by rw [hd];exact f8 hc))
theorem WE.copy{i:Nat}{o:Oper}{ks:List (Nat×Bool)}{y1 y2:Operand}{t t2 el:TypeId}{ti ei:TI}{v1 v2:Value}{x:a6}{d:Nat}(hi:bU G.all.toList i=some o)
 (hg:fX e G.all o.guard=some ks) (ho:o.op= .call ⟨.builtin .copy, #[y1,y2], #[t,t2]⟩) (h1:e.ev ks y1=some v1) (h2:e.ev ks y2=some v2)
 (ht:G.C.S.get t=some ti) (hdd:ti.d= .slice el) (he:G.C.S.get el=some ei) (hsz:Nat.blt 0 ei.size=true) (hz1:aP ei.zero=true) (hby:Nat.ble ei.bytes 4096=true)
 (hd:o.dst=some d) (hc:eY G.C.n e d=true) (hE:E i=some x) (hp:i∉G.pubs i) (pre:q7 E (G.pubs i) h->CpPre ei.size v1 v2 x)
 (next: ∀v' h' x',q7 E (G.pubs i) h->(fT E (G.pubs i) h).le h'->h.le h'->CpY ei.size v1 v2 x v' x'->WE G π ⟨(d,v')::e.us,e.cs⟩ h' ((pP (G.pubs i) E).set i (some x'))):WE G (i::π) e h E:=by
 intro a g;refine ⟨o,by rw [cC,ac2] at hi;exact hi,?_⟩;unfold Rg.Node;have hk:kd o= .ap:=by unfold kd;rw [ho]
 obtain ⟨g1,g2⟩:=f6 g hg;rw [g1,hk];have e1:=g.ev g2 h1;have e2:=g.ev g2 h2;have hfl:fS i (G.pubs i)=false:=by
  cases hb:fS i (G.pubs i) with
  |false=>rfl |true=>exact (hp (fG.1 hb)).elim
 simp only [hfl];refine ⟨y1,y2,(ei.size,false),x,⟨t,t2,el,ti,ei,ho,ht,hdd,he,by simpa [ah3] using hsz,hz1,af7 hby,rfl,fun h=>by cases h⟩,hE,hp,by rw [e1,e2];exact pre,fun v h' x' y0 y1 y2 _ y4=>?_⟩;rw [e1,e2] at y4;exact next v h' x' y0 y1 y2 y4 _ (g.put (by rw [hd];exact f8 hc))
def wV(E:aE):Nat->Nat->Option (List a6)
 |_,0=>some [] |i,k+1=>match E i with
  |some x=>match wV E (i+1) k with
   |some r=>some (x::r) |none=>none
  |none=>wV E (i+1) k
theorem uW(E:aE): ∀(k i:Nat) {r:List a6},wV E i k=some r->(ag6 i k).filterMap E=r
 |0,i,r,h=>by simp only [wV,Option.some.injEq] at h;subst h;rfl |k+1,i,r,h=>by
  simp only [wV] at h;rw [as4,ao2];split at h
  ·rename_i x hx;split at h
   ·rename_i r' hr;injection h with h;subst h;rw [hx,uW E k (i+1) hr]
   ·cases h
  ·rename_i hx;rw [hx];exact uW E k (i+1) h
def appL:List a6->List a6->List a6
 | [],L=>L |x::l,L=>x::appL l L
theorem RV: ∀l L,appL l L=l++L
 | [],_=>rfl |x::l,L=>by simp [appL,RV l L]
end we
theorem WE.nil{C:nY}{all:Array Oper}{L0:List a6}{pubs:Nat->List Nat}{Y:Nat->List Value->Value->GH->Prop}{m:Nat}{k:List It}{e:Env}{h:GH}{E:aE}{l:List a6}
 (hl:wV E 0 all.size=some l) (hv:V C (.ops all (all.toList.drop m)::k) e h (l++L0)):WE (cG C all L0 pubs Y m k) [] e h E:=fun a g=>by
 refine ⟨e,g,?_⟩;have:aE.list all.size E=l:=by unfold aE.list;rw [List.range_eq_range'];exact uW E all.size 0 hl
 rw [this];exact hv
variable{C:nY}{k:List It}{e:Env}{h:GH}{L:List a6}
def sE(S:TT)(t:TypeId)(x:Value)(i:Int):Option (Value×Nat):=match S.get t with
 |some ti=>match ti.d with
  | .slice el=>match S.get el with
    |some ei=>match x with
     | .slice (some ⟨b,o,none⟩) n _=>some (.pointer (some ⟨b,o+i.toNat*ei.size,none⟩),n) |_=>none
    |none=>none
  | .array n el=>match S.get el with
    |some ei=>match x with
     | .pointer (some ⟨b,o,none⟩)=>some (.pointer (some ⟨b,o+i.toNat*ei.size,none⟩),n) |_=>none
    |none=>none
  |_=>none
 |none=>none
theorem pR{P:Program}{S:TT}(hS:S.Ok P){w:World}{t:TypeId}{x v:Value}{i:Int}{kk:IntKind}{n:Nat}(hv:sE S t x i=some (v,n))(h0:0<=i)(h1:i<n):
 (Instr.indexAt t x (.int kk i)).run P w= .ok v w:=by
 unfold sE at hv;split at hv
 ·rename_i ti ht;have ok:=TT.Ok.get hS ht;split at hv
  ·rename_i el hd;split at hv
   ·rename_i ei hei;have oke:=TT.Ok.get hS hei;split at hv
    ·injection hv with hv;injection hv with e1 e2;subst e1;subst e2;simp [Instr.indexAt,asIntOf,run_underlying ok,hd,h0,h1,run_sizeOf oke,eA]
    ·cases hv
   ·cases hv
  ·rename_i n' el hd;split at hv
   ·rename_i ei hei;have oke:=TT.Ok.get hS hei;split at hv
    ·injection hv with hv;injection hv with e1 e2;subst e1;subst e2;simp [Instr.indexAt,asIntOf,run_underlying ok,hd,h0,h1,run_sizeOf oke,eA,Instr.sureAddr]
    ·cases hv
   ·cases hv
  ·cases hv
 ·cases hv
theorem V.index{all:Array Oper}{o:Oper}{l:List Oper}{m:Option (Nat×Bool)}{ks:List (Nat×Bool)}{t:TypeId}{x ix:Operand}{xv v:Value}{kk:IntKind}{i:Int}{n:Nat}{e':Env}
 (hg:iH e all o.guard=some (m,ks)) (ho:o.op= .indexAddr t x ix) (hx:e.ev ks x=some xv) (hi:e.ev ks ix=some (.int kk i)) (hv:sE C.S t xv i=some (v,n))
 (hput:e.put C.n m o.dst v=some e') (h0:0<=i) (h1:i<n) (next:V C (.ops all l::k) e' h L):V C (.ops all (o::l)::k) e h L:=
 V.value hg (fun a w g s hk=>by have:=pR (w:=w) (kk:=kk) C.ok hv h0 h1;unfold execOp;rw [ho];simp only [g.ev hk hx,g.ev hk hi,aa9,this,aa5,ab5]) hput next
theorem WE.index{G:Rg}{π:List Nat}{E:aE}{j:Nat}{o:Oper}{m:Option (Nat×Bool)}{ks:List (Nat×Bool)}{t:TypeId}{x ix:Operand}{xv v:Value}{kk:IntKind}{i:Int}{n:Nat}{e':Env}
 (hj:bU G.all.toList j=some o) (hg:iH e G.all o.guard=some (m,ks)) (ho:o.op= .indexAddr t x ix) (hx:e.ev ks x=some xv) (hi:e.ev ks ix=some (.int kk i)) (hv:sE G.C.S t xv i=some (v,n))
 (hput:e.put G.C.n m o.dst v=some e') (h0:0<=i) (h1:i<n) (next:WE G π e' h E):WE G (j::π) e h E:=
 WE.value hj (wQ ho) hg (fun a w E g s hk=>by have:=pR (w:=w) (kk:=kk) G.C.ok hv h0 h1;unfold execOp;rw [ho];simp only [g.ev hk hx,g.ev hk hi,aa9,this,aa5,ab5]) hput next
theorem run_litL{P:Program}{S:TT}(hS:S.Ok P){o:Oper}{a:Act}{w:World}{t:TypeId}{len:Nat}{parts:Array (Nat×Operand)}{cs:List Value}{ρ:Operand->Option Value}(ho:o.op= .buildSlice t len parts)
 (hρ: ∀x v,ρ x=some v->a.eval x=v) (hl:wW S ρ t len parts.toList=some cs): ∃el,(execOp a.eval o).run P w= .ok (.value (.slice (some ⟨w.heap.size,0,none⟩) len len)) (w.alloc (.cells ⟨cs⟩ el)):=by
 have hl':=GG (ρ':=fun x=>some (a.eval x)) (fun x v hx=>by rw [hρ _ _ hx]) hl;exact NM hS (cs:=cs) (sh:= .sl len) (by unfold y7;rw [ho];simp only [hl']) (fun h=>by cases h)
theorem V.lit{all:Array Oper}{o:Oper}{l:List Oper}{ks:List (Nat×Bool)}{t:TypeId}{len:Nat}{parts:Array (Nat×Operand)}{cs:List Value}{d:Nat}
 (hg:fX e all o.guard=some ks) (ho:o.op= .buildSlice t len parts) (hl:wW C.S (e.ev ks) t len parts.toList=some cs) (h1:aP cs=true) (hd:o.dst=some d) (hc:eY C.n e d=true)
 (next: ∀b,V C (.ops all l::k) ⟨(d, .slice (some ⟨b,0,none⟩) len len)::e.us,e.cs⟩ h (⟨b,0,cs,none⟩::L)):V C (.ops all (o::l)::k) e h L:=
 V.gives hg hd hc fun a w g s hk=>by obtain ⟨el,hr⟩:=run_litL (w:=w) C.ok ho (fun x v hx=>g.ev hk hx) hl;exact ⟨_,_,h,_,hr,s.alloc ⟨cs⟩ el h1,next _⟩
theorem V.cv{all:Array Oper}{o:Oper}{l:List Oper}{ks:List (Nat×Bool)}{t:TypeId}{len:Nat}{parts:Array (Nat×Operand)}{cs:List Value}{d:Nat}
 (hg:fX e all o.guard=some ks) (ho:o.op= .buildSlice t len parts) (hl:wW C.S (e.ev ks) t len parts.toList=some cs) (h1:aP cs=true) (hd:o.dst=some d) (hc:eY C.n e d=true)
 (next: ∀b h',h.le h'->iB h' b 0 cs->V C (.ops all l::k) ⟨(d, .slice (some ⟨b,0,none⟩) len len)::e.us,e.cs⟩ h' L):V C (.ops all (o::l)::k) e h L:=
 V.lit hg ho hl h1 hd hc fun b=>V.bu fun hle=>next b _ hle fun i v hv=>GH.cr h b 0 cs hv
end Go.Tp
namespace Go.Tp
open Go Go.RowKit
theorem V.empty{C:nY}{k:List It}{e:Env}{h:GH}{L:List a6}(hv:V C k e h (⟨0,0,[],none⟩::L)):V C k e h L:=
 fun ho a w b cs g s hf hk=>hv ho a w b cs g ⟨s.below,s.imm,s.imm1,fun p hp=>by
  rcases ab0.1 hp with rfl|hp
  ·exact ⟨fun v hv=>by simp at hv,fun i v hv=>by simp at hv,fun i hi=>by simp at hi,fun i hi=>by simp at hi,fun i hi=>by simp at hi,fun o ho=>by cases ho⟩
  ·exact s.own p hp,af1.2 ⟨fun q hq=>⟨fun i j hi=>by simp at hi,fun x=>by cases x⟩,s.dis⟩,s.frz,s.drn⟩ hf hk
theorem V.append{C:nY}{k:List It}{e:Env}{h:GH}{L:List a6}{all:Array Oper}{o:Oper}{l:List Oper}{ks:List (Nat×Bool)}{y1 y2:Operand}{t el:TypeId}{ti ei:TI}{v1 v2:Value}{x:a6}{c1 c2:List Value}{d:Nat}
 (hg:fX e all o.guard=some ks) (ho:o.op= .call ⟨.builtin .append, #[y1,y2], #[t,t]⟩) (h1:e.ev ks y1=some v1) (h2:e.ev ks y2=some v2)
 (ht:C.S.get t=some ti) (hd:ti.d= .slice el) (he:C.S.get el=some ei) (hsz:Nat.blt 0 ei.size=true) (hz1:aP ei.zero=true) (hby:Nat.ble ei.bytes 4096=true)
 (hdst:o.dst=some d) (hc:eY C.n e d=true)
 (a1:Sl h ei.size v1 c1) (tl:Tl ei.size v1 x) (a2:Sl h ei.size v2 c2) (hb:c1.length+c2.length<=1073741824)
 (next: ∀v' h' x',h.le h'->Sl h' ei.size v' (c1++c2)->Tl ei.size v' x'->V C (.ops all l::k) ⟨(d,v')::e.us,e.cs⟩ h' (x'::L)):V C (.ops all (o::l)::k) e h (x::L):=
 V.gives hg hdst hc fun a w g s hk=>by obtain ⟨v',w',h',x',r1,r2,r3,r4,r5⟩:=D8 (ty:=o.type) C.ok ht hd he (by simpa [ah3] using hsz) hz1 (af7 hby) s a1 tl a2 hb;refine ⟨v',w',h',_,?_,r5,next v' h' x' r2 r3 r4⟩;unfold execOp;rw [ho];simp [resolve,invoke,builtin,g.ev hk h1,g.ev hk h2,r1]
theorem bM.is{P:Program}{w0:World}{f:FuncId}{args:List Value}{h:GH}{L:List a6}{x:Value}(hf:bM P w0 f args h L (fun v h' L'=>v=x/\h.le h'/\L.Sublist L')):bM P w0 f args h L (Is x h L):=
 ⟨hf.1,fun w s=>(hf.2 w s).mono fun _ _ ⟨v,h',L',e1,⟨e2,e3,e4⟩,e5⟩=>⟨v,h,L,e1,⟨e2,rfl,rfl⟩,(e5.less e3).sub e4⟩⟩
def Res(h:GH)(L:List a6)(Q:Value->GH->Prop):Value->GH->List a6->Prop:=fun v h' L'=>L'=L/\h.le h'/\Q v h'
theorem bM.iz{P:Program}{w0:World}{f:FuncId}{args:List Value}{h:GH}{L:List a6}{Q:Value->GH->List a6->Prop}(hf:bM P w0 f args h L (fun v h' L'=> ∃L'',L''.Sublist L'/\Q v h' L'')):bM P w0 f args h L Q:=
 ⟨hf.1,fun w s=>(hf.2 w s).mono fun _ _ ⟨v,h',L',e1,⟨L'',e2,e3⟩,e5⟩=>⟨v,h',L'',e1,e3,e5.sub e2⟩⟩
end Go.Tp
