/-
  Texts La. Conditions: as each theorem says.
-/
import Derived.WalkKit
import Derived.RangeFuncNested
set_option linter.unusedVariables false
set_option linter.unusedSimpArgs false
set_option maxRecDepth 100000
set_option maxHeartbeats 4000000
open List renaming length_append→aa1,mem_of_getElem?→aa2,mem_cons_self→aa5,getElem?_eq_getElem→aa7,mem_singleton→ab0,append_assoc→ab2,mem_cons→ab6,length_cons→ab7,mem_cons_of_mem→ab9,getElem?_eq_none→ac6,length_eq_zero_iff→ad2,mem_append_left→ad6,length_drop→ad7,mem_append→ad8,pairwise_cons→ad9,foldl_cons→ae2,all_eq_true→ae5,getElem?_append_left→ae6,getElem?_append_right→ae7,ext_getElem?→af0,getElem?_cons_succ→af4,map_cons→af6,nil_append→ag2,sublist_append_right→ag4,mem_append_right→ag7,range'→ah1,perm_middle→ai5,nodup_cons→aj1,getElem?_cons_zero→ak1,getElem?_drop→al0,filterMap_cons→am3,getElem?_set_self→am6,map_nil→am9,sublist_cons_self→ao4,getElem?_set_ne→ap1,getElem?_take_of_lt→aq6,range'_succ→at5
open Bool renaming and_eq_true→aa3,not_eq_true'→aj7,or_eq_true→al8,false_eq_true→am7
open Go.Result renaming andThen_ok→ab1
open Nat renaming le_refl→ab3,eq_of_beq_eq_true→ac3,lt_or_ge→ae4,zero_add→ag9,eq_zero_or_pos→ah3,le_mul_of_pos_right→ah9,blt_eq→ai7,le_of_ble_eq_true→ai9,add_mul→ak0,sub_self→ak3,mul_le_mul→al2,strongRecOn→au1,min→av5
open Go.Sem renaming run_bind→ab8,run_pure→ac5
open Array renaming getElem?_toList→ad5,getElem?_eq_none→af9,replicate→ag1,ext'→ag8,getD_eq_getD_getElem?→ah2,toList_map→ak7,getElem?_setIfInBounds→ao8
open Option renaming map_some→af8,getD_some→an6,isNone_some→aq8
namespace Go.Tp
open Go Go.RowKit
theorem T.{u}{α:Sort u}{a:α}:a=a:=rfl
theorem eX.{u}{α:Sort u}{P:Prop}(x:α)(h: ∀y,y=x→P):P:=h x rfl
theorem dT{p:Prop}[Decidable p]:(decide p=true)=p:=decide_eq_true_eq
theorem dF{p:Prop}[Decidable p]:decide p=false↔¬p:=decide_eq_false_iff_not
theorem iF.{u}{c:Prop}{h:Decidable c}(n:¬c){α:Sort u}{t e:α}:ite c t e=e:=if_neg n
theorem iT.{u}{c:Prop}{h:Decidable c}(n:c){α:Sort u}{t e:α}:ite c t e=t:=if_pos n
abbrev GH:=Nat->Nat->Option Value
def GH.le(h h':GH):Prop:= ∀b o v,h b o=some v->h' b o=some v
theorem GH.le_refl(h:GH):h.le h:=fun _ _ _ x=>x
theorem GH.le_trans{a b c:GH}(x:a.le b)(y:b.le c):a.le c:=fun i o v z=>y i o v (x i o v z)
structure bV where
 b:Nat
 lo:Nat
 cs:List Value
 obj:Option Obj:=none
def bV.apart(p q:bV):Prop:=
 (∀i j,i<p.cs.length->j<q.cs.length->p.b=q.b->p.lo+i=q.lo+j->False)/\
 (p.obj.isSome->q.obj.isSome->p.b=q.b->False)
theorem bV.apart_symm{p q:bV}(h:p.apart q):q.apart p:=
 ⟨fun i j hi hj hb ho=>h.1 j i hj hi hb.symm ho.symm,fun a b c=>h.2 b a c.symm⟩
def gU:Value->Bool
 | .agg _=>false | .tuple _=>false
 |_=>true
theorem PX(v:Value):gU v=v.oneCell':=by cases v<;>rfl
def aW:List Value->Bool
 | []=>true |v::r=>match gU v with
  |true=>aW r |false=>false
theorem dP: ∀{l:List Value},aW l=true-> ∀v,v∈l->gU v=true
 | [],_,_,hm=>by cases hm |x::r,h,v,hm=>by
  simp only [aW] at h;split at h
  ·rename_i hx;rcases ab6.1 hm with rfl|hm
   ·exact hx
   ·exact dP h v hm
  ·cases h
theorem lM: ∀{l:List Value},(∀v,v∈l->gU v=true)->aW l=true
 | [],_=>rfl |x::r,h=>by simp only [aW,h x (aa5 ..)];exact lM fun v hv=>h v (ab9 _ hv)
structure bV.held(w0:World)(h:GH)(w:World)(p:bV):Prop where
 one: ∀v,v∈p.cs->gU v=true
 cell: ∀i v,p.cs[i]? =some v->w.cell? ⟨p.b,p.lo+i,none⟩=some v
 new: ∀i,i<p.cs.length->w0.heap.size<=p.b
 warm: ∀i,i<p.cs.length->w.frozen? ⟨p.b,p.lo+i,none⟩=false
 fresh: ∀i,i<p.cs.length->h p.b (p.lo+i)=none
 obj: ∀o,p.obj=some o->w0.heap.size<=p.b/\w.heap[p.b]? =some o/\ ∀c t f,o≠ .cells c t f
structure St(w0:World)(h:GH)(L:List bV)(w:World):Prop where
 below:Below w0.heap.size w0 w
 imm: ∀b o v,h b o=some v->w.cell? ⟨b,o,none⟩=some v
 imm1: ∀b o v,h b o=some v->gU v=true
 own: ∀p,p∈L->p.held w0 h w
 dis:L.Pairwise bV.apart
 frz: ∀b o v,h b o=some v->w.frozen? ⟨b,o,none⟩=w0.frozen? ⟨b,o,none⟩
 drn:w0.drawn<=w.drawn
variable{w0 w:World}{h h':GH}{L L':List bV}
theorem MC(hb:Below w0.heap.size w0 w):Below w0.heap.size w0 {w with drawn:=w.drawn+1}:=⟨hb.os,hb.tape,hb.output,hb.size,hb.block⟩
theorem St.drew(s:St w0 h L w):St w0 h L {w with drawn:=w.drawn+1}:=
 ⟨MC s.below,s.imm,s.imm1,fun p hp=>let k:=s.own p hp;⟨k.one,k.cell,k.new,k.warm,k.fresh,k.obj⟩,s.dis,s.frz,Nat.le_succ_of_le s.drn⟩
theorem St.perm(s:St w0 h L w)(hp:L.Perm L'):St w0 h L' w:=
 ⟨s.below,s.imm,s.imm1,fun p hq=>s.own p (hp.mem_iff.2 hq),(hp.pairwise_iff (R:=bV.apart) (fun hx=>bV.apart_symm hx)).1 s.dis,s.frz,s.drn⟩
theorem St.tail{p:bV}(s:St w0 h (p::L) w):St w0 h L w:=
 ⟨s.below,s.imm,s.imm1,fun q hq=>s.own q (ab9 _ hq),(ad9.1 s.dis).2,s.frz,s.drn⟩
theorem dQ{a:Addr}{v:Value}(hc:w.cell? a=some v):a.block<w.heap.size:=block_lt_of_cell hc
theorem St.ia(s:St w0 h L w)(o:Nat):h w.heap.size o=none:=by
 cases hh:h w.heap.size o with
 |none=>rfl |some v=>exact absurd (dQ (s.imm _ _ _ hh)) (Nat.lt_irrefl _)
theorem getElem?_some_of_lt{α:Type}{l:List α}{i:Nat}(hi:i<l.length): ∃v,l[i]? =some v:=⟨l[i],by simp [hi]⟩
theorem wH(w:World)(o:Obj)(ho:(∃c t,o= .cells c t)\/ ∀c t f,o≠ .cells c t f)(a:Addr):(w.alloc o).frozen? a=w.frozen? a:=by
 rcases ae4 a.block w.heap.size with h|h
 ·exact World.frozen?_of_block (Below.heap_alloc w _ _ h)
 ·have e1:w.frozen? a=false:=by unfold World.frozen?;rw [af9 h]
  rw [e1];rcases ae4 w.heap.size a.block with h'|h'
  ·have:(w.alloc o).heap[a.block]? =none:=af9 (by rw [show (w.alloc o).heap.size=w.heap.size+1 by simp];omega);unfold World.frozen?;rw [this]
  ·have e2:a.block=w.heap.size:=by omega
   unfold World.frozen?;rw [e2,heap_alloc_new w o];rcases ho with ⟨c,t,rfl⟩|ho
   ·simp
   ·cases o<;>simp;exact (ho _ _ _ T).elim
theorem St.alloc(s:St w0 h L w)(cs:Array Value)(t:TypeId)(h1:aW cs.toList=true):St w0 h (⟨w.heap.size,0,cs.toList,none⟩::L) (w.alloc (.cells cs t)):=by
 have hle:=s.below.size;refine ⟨s.below.alloc hle _,fun b o v hh=>?_,s.imm1,fun p hp=>?_,?_,fun b o v hv=>(wH w _ (.inl ⟨cs,t,rfl⟩) _).trans (s.frz b o v hv),s.drn⟩
 ·have hc:=s.imm b o v hh;rw [World.cell?_alloc_lt (h:=dQ hc)];exact hc
 ·rcases ab6.1 hp with rfl|hp
  ·refine ⟨dP h1,fun i v hv=>?_,fun _ _=>hle,fun i hi=>?_,fun i _=>s.ia _,fun o ho=>by cases ho⟩
   ·simp only [ag9];have:=World.cell?_alloc_new (w:=w) cs t i;rw [this];simpa using hv
   ·simp
  ·have k:=s.own p hp;refine ⟨k.one,fun i v hv=>?_,k.new,fun i hi=>?_,k.fresh,fun o ho=>?_⟩
   ·have hc:=k.cell i v hv;rw [World.cell?_alloc_lt (h:=dQ hc)];exact hc
   ·obtain ⟨v,hv⟩:=getElem?_some_of_lt hi;have hl:=dQ (k.cell i v hv);have h1:=k.warm i hi;rw [<-h1];exact World.frozen?_of_block (Below.heap_alloc w _ _ hl)
   ·obtain ⟨h1,h2,h3⟩:=k.obj o ho;refine ⟨h1,?_,h3⟩;have hlt:p.b<w.heap.size:=by
     rcases ae4 p.b w.heap.size with h|h
     ·exact h
     ·rw [af9 h] at h2;cases h2
    rw [Below.heap_alloc w _ _ hlt];exact h2
 ·refine ad9.2 ⟨fun q hq=>⟨fun i j hi hj hb _=>?_,fun x=>by cases x⟩,s.dis⟩;obtain ⟨v,hv⟩:=getElem?_some_of_lt hj;have:=dQ ((s.own q hq).cell j v hv);simp only at hb this;omega
def GH.add(h:GH)(b lo:Nat)(cs:List Value):GH:=fun b' o=>if b'=b/\lo<=o/\o<lo+cs.length then cs[o-lo]? else h b' o
theorem GH.cr(h:GH)(b lo:Nat)(cs:List Value){i:Nat}{v:Value}(hv:cs[i]? =some v):h.add b lo cs b (lo+i)=some v:=by
 have hi:i<cs.length:=by
  rcases ae4 i cs.length with h|h
  ·exact h
  ·rw [ac6 h] at hv;cases hv
 unfold GH.add;rw [iT ⟨rfl,by omega,by omega⟩];simpa using hv
theorem St.bz{b lo:Nat}{cs:List Value}{ob:Option Obj}(s:St w0 h (⟨b,lo,cs,ob⟩::L) w):h.le (h.add b lo cs):=by
 intro b' o v hv;unfold GH.add;split
 ·rename_i hc;obtain ⟨rfl,h1,h2⟩:=hc;have:=(s.own _ (aa5 ..)).fresh (o-lo) (by simp only;omega);simp only at this;rw [show lo+(o-lo)=o by omega,hv] at this;cases this
 ·exact hv
theorem St.bc{b lo:Nat}{cs:List Value}{ob:Option Obj}(s:St w0 h (⟨b,lo,cs,ob⟩::L) w):St w0 (h.add b lo cs) L w:=by
 have k:=s.own _ (aa5 ..);have hd:=ad9.1 s.dis;refine ⟨s.below,fun b' o v hv=>?_,fun b' o v hv=>?_,fun p hp=>?_,hd.2,fun b' o v hv=>?_,s.drn⟩
 case refine_4=>
  unfold GH.add at hv;split at hv
  ·rename_i hc;obtain ⟨rfl,h1,h2⟩:=hc;have q1:=k.warm (o-lo) (by simp only;omega);have q2:=k.new (o-lo) (by simp only;omega);simp only at q1 q2;rw [show lo+(o-lo)=o by omega] at q1;rw [q1];unfold World.frozen?;rw [af9 q2]
  ·exact s.frz _ _ _ hv
 rotate_left
 ·unfold GH.add at hv;split at hv
  ·exact k.one v (aa2 hv)
  ·exact s.imm1 _ _ _ hv
 rotate_left
 ·unfold GH.add at hv;split at hv
  ·rename_i hc;obtain ⟨rfl,h1,h2⟩:=hc;have:=k.cell _ _ hv;simp only at this
   rwa [show lo+(o-lo)=o by omega] at this
  ·exact s.imm _ _ _ hv
 ·have q:=s.own p (ab9 _ hp);refine ⟨q.one,q.cell,q.new,q.warm,fun i hi=>?_,q.obj⟩;unfold GH.add;split
  ·rename_i hc;obtain ⟨e,h1,h2⟩:=hc;exact ((hd.1 p hp).1 (p.lo+i-lo) i (by simp only;omega) hi e.symm (by simp only;omega)).elim
  ·exact q.fresh i hi
theorem St.setCell{L1:List bV}{b lo:Nat}{cs:List Value}{ob:Option Obj}(s:St w0 h (L1++⟨b,lo,cs,ob⟩::L) w){i:Nat}(hi:i<cs.length)(v:Value)(hv1:gU v=true):
 St w0 h (L1++⟨b,lo,cs.set i v,ob⟩::L) (w.setCell ⟨b,lo+i,none⟩ v):=by
 have s':St w0 h (⟨b,lo,cs,ob⟩::(L1++L)) w:=s.perm ai5;refine St.perm (L:=⟨b,lo,cs.set i v,ob⟩::(L1++L)) ?_ ai5.symm;clear s;generalize L1++L=M at s';have k:=s'.own _ (aa5 ..);have hd:=ad9.1 s'.dis;obtain ⟨u,hu⟩:=getElem?_some_of_lt hi;have hcu:=k.cell i u hu;refine ⟨s'.below.setCell (k.new i hi) v,fun b' o x hx=>?_,s'.imm1,fun p hp=>?_,?_,fun b' o x hx=>(World.frozen?_setCell ..).trans (s'.frz b' o x hx),s'.drn⟩
 ·rw [World.cell?_setCell_other]
  ·exact s'.imm _ _ _ hx
  ·intro e;have hf:=k.fresh i hi;injection e with e1 e2 _;simp only at hf;rw [e1,e2,hx] at hf;cases hf
 ·rcases ab6.1 hp with rfl|hp
  ·refine ⟨fun x hx=>(List.mem_or_eq_of_mem_set hx).elim (fun hm=>k.one x hm) (fun he=>he▸hv1),fun j x hx=>?_,fun j hj=>k.new i hi,fun j hj=>?_,fun j hj=>k.fresh j (by simpa using hj),fun o ho=>?_⟩
   ·simp only at hx⊢
    by_cases hij:j=i
    ·subst hij;rw [am6 hi] at hx;injection hx with hx;subst hx;exact World.cell?_setCell_same _ _ _ hcu
    ·rw [ap1 (Ne.symm hij)] at hx;rw [World.cell?_setCell_other]
     ·exact k.cell j x hx
     ·intro e;injection e with _ e2 _;omega
   ·rw [World.frozen?_setCell];exact k.warm j (by simpa using hj)
   ·obtain ⟨h1,h2,h3⟩:=k.obj o ho;refine ⟨h1,?_,h3⟩;have hb:=hcu;simp only [World.cell?] at hb;rw [show (⟨b,lo,cs,ob⟩:bV).b=b from rfl] at h2;rw [h2] at hb;cases o<;>simp at hb;exact (h3 _ _ _ T).elim
  ·have q:=s'.own p (ab9 _ hp);have ha:=hd.1 p hp;refine ⟨q.one,fun j x hx=>?_,q.new,fun j hj=>?_,q.fresh,fun o ho=>?_⟩
   ·rw [World.cell?_setCell_other]
    ·exact q.cell j x hx
    ·intro e;injection e with e1 e2 _;have hj:j<p.cs.length:=by
      rcases ae4 j p.cs.length with h|h
      ·exact h
      ·rw [ac6 h] at hx;cases hx
     exact ha.1 i j hi hj e1 e2
   ·rw [World.frozen?_setCell];exact q.warm j hj
   ·obtain ⟨h1,h2,h3⟩:=q.obj o ho;refine ⟨h1,?_,h3⟩
    by_cases e:p.b=b
    ·simp only [World.cell?] at hcu;rw [<-e,h2] at hcu;cases o<;>simp at hcu;exact (h3 _ _ _ T).elim
    ·rw [Below.heap_setCell _ _ _ _ (by simpa using e)];exact h2
 ·refine ad9.2 ⟨fun q hq=>⟨fun a c hi hj=>(hd.1 q hq).1 a c (by simpa using hi) hj,(hd.1 q hq).2⟩,hd.2⟩
theorem St.dc(s:St w0 h L w)(o:Obj)(ho: ∀c t f,o≠ .cells c t f):St w0 h (⟨w.heap.size,0,[],some o⟩::L) (w.alloc o):=by
 have hle:=s.below.size;refine ⟨s.below.alloc hle _,fun b o v hh=>?_,s.imm1,fun p hp=>?_,?_,fun b o v hv=>(wH w _ (.inr ho) _).trans (s.frz b o v hv),s.drn⟩
 ·have hc:=s.imm b o v hh;rw [World.cell?_alloc_lt (h:=dQ hc)];exact hc
 ·rcases ab6.1 hp with rfl|hp
  ·refine ⟨fun v hv=>by simp at hv,fun i v hv=>by simp at hv,fun i hi=>by simp at hi,fun i hi=>by simp at hi,fun i hi=>by simp at hi,fun o' ho'=>?_⟩;simp only [Option.some.injEq] at ho';subst ho';exact ⟨hle,heap_alloc_new w _,ho⟩
  ·have k:=s.own p hp;refine ⟨k.one,fun i v hv=>?_,k.new,fun i hi=>?_,k.fresh,fun o ho=>?_⟩
   ·have hc:=k.cell i v hv;rw [World.cell?_alloc_lt (h:=dQ hc)];exact hc
   ·obtain ⟨v,hv⟩:=getElem?_some_of_lt hi;have hl:=dQ (k.cell i v hv);have h1:=k.warm i hi;rw [<-h1];exact World.frozen?_of_block (Below.heap_alloc w _ _ hl)
   ·obtain ⟨h1,h2,h3⟩:=k.obj o ho;refine ⟨h1,?_,h3⟩;have hlt:p.b<w.heap.size:=by
     rcases ae4 p.b w.heap.size with h|h
     ·exact h
     ·rw [af9 h] at h2;cases h2
    rw [Below.heap_alloc w _ _ hlt];exact h2
 ·refine ad9.2 ⟨fun q hq=>⟨fun i j hi=>by simp at hi,fun _ hq' hb=>?_⟩,s.dis⟩;cases hob:q.obj with
  |none=>simp [hob] at hq' |some oq=>
   obtain ⟨_,h2,_⟩:=(s.own q hq).obj oq hob;simp only at hb;rw [<-hb,af9 (ab3 _)] at h2;cases h2
theorem St.part{b lo:Nat}{c1 c2:List Value}(s:St w0 h (⟨b,lo,c1++c2,none⟩::L) w):St w0 h (⟨b,lo,c1,none⟩::⟨b,lo+c1.length,c2,none⟩::L) w:=by
 have k:=s.own _ (aa5 ..);have hd:=ad9.1 s.dis;have k1:bV.held w0 h w ⟨b,lo,c1,none⟩:=by
  refine ⟨fun v hv=>k.one v (ad6 _ hv),fun i v hv=>k.cell i v ?_,fun i hi=>k.new i ?_,fun i hi=>k.warm i ?_,fun i hi=>k.fresh i ?_,fun o ho=>by cases ho⟩
  ·have hi:i<c1.length:=by
    rcases ae4 i c1.length with h|h
    ·exact h
    ·simp only at hv;rw [ac6 h] at hv;cases hv
   simp only at hv⊢;rw [ae6 hi];exact hv
  all_goals (simp only [aa1] at hi⊢;omega)
 have k2:bV.held w0 h w ⟨b,lo+c1.length,c2,none⟩:=by
  have e: ∀i,lo+c1.length+i=lo+(c1.length+i):=fun i=>by omega
  refine ⟨fun v hv=>k.one v (ag7 _ hv),fun i v hv=>?_,fun i hi=>k.new (c1.length+i) ?_,fun i hi=>?_,fun i hi=>?_,fun o ho=>by cases ho⟩
  ·simp only;rw [e];refine k.cell (c1.length+i) v ?_;simp only at hv⊢;rw [ae7 (by omega),Nat.add_sub_cancel_left];exact hv
  ·simp only [aa1] at hi⊢;omega
  ·simp only;rw [e];refine k.warm (c1.length+i) ?_;simp only [aa1] at hi⊢;omega
  ·simp only;rw [e];refine k.fresh (c1.length+i) ?_;simp only [aa1] at hi⊢;omega
 refine ⟨s.below,s.imm,s.imm1,fun p hp=>?_,?_,s.frz,s.drn⟩
 ·rcases ab6.1 hp with rfl|hp
  ·exact k1
  ·rcases ab6.1 hp with rfl|hp
   ·exact k2
   ·exact s.own p (ab9 _ hp)
 ·refine ad9.2 ⟨fun q hq=>?_,ad9.2 ⟨fun q hq=>?_,hd.2⟩⟩
  ·rcases ab6.1 hq with rfl|hq
   ·exact ⟨fun i j hi hj _ ho=>by simp only at hi hj ho;omega,fun x=>by cases x⟩
   ·exact ⟨fun i j hi hj hb ho=>(hd.1 q hq).1 i j (by simp only [aa1] at hi⊢;omega) hj hb ho,fun x=>by cases x⟩
  ·exact ⟨fun i j hi hj hb ho=>(hd.1 q hq).1 (c1.length+i) j (by simp only [aa1] at hi⊢;omega) hj hb (by simp only at ho⊢;omega),fun x=>by cases x⟩
end Go.Tp
namespace Go.Tp
open Go Go.RowKit
abbrev Us:=List (Nat×Value)
abbrev Cs:=List (Nat×(Nat×Bool)×Value)
structure Env where
 us:Us
 cs:Cs:=[]
def look:Us->Nat->Option Value
 | [],_=>none |(k,v)::r,t=>match Nat.beq k t with|true=>some v|false=>look r t
def rD:Cs->Nat->Option ((Nat×Bool)×Value)
 | [],_=>none |(k,c,v)::r,t=>match Nat.beq k t with|true=>some (c,v)|false=>rD r t
def uU:Cs->Nat->Bool
 | [],_=>true |(k,(g,_),_)::r,t=>match Nat.beq k t with|true=>false|false=>match Nat.beq g t with|true=>false|false=>uU r t
theorem fL{a b:Nat}(h:Nat.beq a b=false):a≠b:=fun e=>by subst e;simp at h
theorem rY{t:Nat}: ∀{cs:Cs},uU cs t=true->rD cs t=none/\ ∀u g b v,rD cs u=some ((g,b),v)->g≠t
 | [],_=>⟨rfl,fun _ _ _ _ h=>by cases h⟩ |(k,(g,b),v)::r,h=>by
  simp only [uU] at h;split at h
  ·cases h
  ·rename_i h1;split at h
   ·cases h
   ·rename_i h2;obtain ⟨i1,i2⟩:=rY h;refine ⟨by simp only [rD,h1];exact i1,fun u g' b' v' hu=>?_⟩;simp only [rD] at hu;split at hu
    ·injection hu with hu;injection hu with hu _;injection hu with hg _;subst hg;exact fL h2
    ·exact i2 _ _ _ _ hu
def marks(D:List Nat):List Deferred:=D.map fun r=>{target:= .collected r,args:= #[]}
structure Ag(n:Nat)(D:List Nat)(e:Env)(a:Act):Prop where
 size:a.tmps.size=n
 defers:a.defers=marks D
 us: ∀t v,look e.us t=some v->a.tmps[t]? =some v
 cs: ∀t g b v,rD e.cs t=some ((g,b),v)->(a.tmps[g]? =some (.bool b)->a.tmps[t]? =some v)/\(a.tmps[g]? ≠some (.bool b)->a.tmps[t]? =some undef)
def yG:List (Nat×Bool)->Nat×Bool->Bool
 | [],_=>false |(k,b)::r,(k',b')=>match Nat.beq k k' with|true=>(match b,b' with|true,true=>true|false,false=>true|_,_=>yG r (k',b'))|false=>yG r (k',b')
theorem qQ: ∀{ks:List (Nat×Bool)} {x:Nat×Bool},yG ks x=true->x∈ks
 | [],_,h=>by cases h |(k,b)::r,(k',b'),h=>by
  simp only [yG] at h;split at h
  ·rename_i hk;have hk:=ac3 hk;subst hk;split at h
   ·exact aa5 ..
   ·exact aa5 ..
   ·exact ab9 _ (qQ h)
  ·exact ab9 _ (qQ h)
def Env.ev(e:Env)(ks:List (Nat×Bool)):Operand->Option Value
 | .tmp t=>match look e.us t with
   |some v=>some v |none=>match rD e.cs t with
    |some (c,v)=>match yG ks c with|true=>some v|false=>none
    |none=>none
 | .const v=>some v | .global g=>some (.pointer (some ⟨g,0,none⟩))
 | .func f=>some (.func (.func f) #[] #[])
def eY(a:Act)(ks:List (Nat×Bool)):Prop:= ∀g b,(g,b)∈ks->a.tmps[g]? =some (.bool b)
theorem nV(a:Act):eY a []:=fun _ _ h=>by cases h
theorem Act.de{a:Act}{t:Nat}{v:Value}(h:a.tmps[t]? =some v):a.tmps.getD t undef=v:=by simp [ah2,h]
theorem Ag.ev{n:Nat}{D:List Nat}{e:Env}{a:Act}{ks:List (Nat×Bool)}(g:Ag n D e a)(hk:eY a ks): ∀{x:Operand} {v:Value},e.ev ks x=some v->a.eval x=v:=by
 intro x v hx;cases x with
 |tmp t=>
  simp only [Env.ev] at hx;split at hx
  ·rename_i u hu;injection hx with hx;subst hx;exact Act.de (g.us t _ hu)
  ·split at hx
   ·rename_i c u hu;split at hx
    ·rename_i hc;injection hx with hx;subst hx;obtain ⟨gg,b⟩:=c;exact Act.de ((g.cs t gg b _ hu).1 (hk _ _ (qQ hc)))
    ·cases hx
   ·cases hx
 |const u=>injection hx |global u=>injection hx
 |func u=>injection hx
def cR{α:Type}:List α->Nat->Option α
 | [],_=>none |x::_,0=>some x
 |_::r,n+1=>cR r n
theorem cZ{α:Type}: ∀(l:List α) (n:Nat),cR l n=l[n]?
 | [],_=>by simp [cR] |_::_,0=>by simp [cR]
 |_::r,n+1=>by simp [cR,cZ r n]
def chain(cs:Cs):Nat->Nat×Bool->List (Nat×Bool)
 |0,k=>[k] |f+1,k=>match rD cs k.1 with
  |some (k',_)=>k::chain cs f k' |none=>[k]
theorem o7(b:Bool):(Value.bool b)≠undef:=by intro h;cases h
theorem Ag.chain{n:Nat}{D:List Nat}{e:Env}{a:Act}(g:Ag n D e a): ∀(f:Nat) (k:Nat×Bool),a.tmps[k.1]? =some (.bool k.2)->eY a (chain e.cs f k)
 |0,k,h=>fun x b hm=>by simp only [Go.Tp.chain,ab0] at hm;subst hm;exact h |f+1,k,h=>fun x b hm=>by
  simp only [Go.Tp.chain] at hm;split at hm
  ·rename_i k' v hl;rcases ab6.1 hm with rfl|hm
   ·exact h
   ·obtain ⟨g',b'⟩:=k';refine g.chain f (g',b') ?_ x b hm;obtain ⟨_,h2⟩:=g.cs _ _ _ _ hl
    by_cases hg:a.tmps[g']? =some (.bool b')
    ·exact hg
    ·have:=h2 hg;rw [h] at this;injection this with this;exact (o7 _ this).elim
  ·simp only [ab0] at hm;subst hm;exact h
def oT(e:Env)(all:Array Oper):Option (Nat×Bool)->Option (Option (Nat×Bool)×List (Nat×Bool))
 |none=>some (none,[]) |some (j,w)=>match cR all.toList j with
  |some o=>match o.dst with
   |some t=>some (some (t,w),Go.Tp.chain e.cs 6 (t,w)) |none=>none
  |none=>none
def Env.put(n:Nat)(m:Option (Nat×Bool))(d:Option Nat)(v:Value)(e:Env):Option Env:=
 match d with
 |none=>some e |some d=>match Nat.blt d n with
  |false=>none |true=>match uU e.cs d with
   |false=>none |true=>match m with
    |none=>some ⟨(d,v)::e.us,e.cs⟩ |some k=>match look e.us d with
     |some _=>none |none=>match Nat.beq k.1 d with
      |true=>none |false=>some ⟨e.us,(d,k,v)::e.cs⟩
theorem getElem?_put_same{a:Act}{d:Nat}{v:Value}(h:d<a.tmps.size):(a.put (some d) v).tmps[d]? =some v:=by simp [Act.put,h]
theorem getElem?_put_ne{a:Act}{d t:Nat}{v:Value}(h:t≠d):(a.put (some d) v).tmps[t]? =a.tmps[t]? :=by simp only [Act.put,ao8,iF (Ne.symm h)]
theorem KU{a:Act}{d:Option Nat}{v:Value}:(a.put d v).tmps.size=a.tmps.size:=by cases d<;>simp [Act.put]
theorem put_defers{a:Act}{d:Option Nat}{v:Value}:(a.put d v).defers=a.defers:=by cases d<;>rfl
theorem Ag.put{n:Nat}{D:List Nat}{e e':Env}{a:Act}{d:Option Nat}{v:Value}(g:Ag n D e a)(h:e.put n none d v=some e'):Ag n D e' (a.put d v):=by
 cases d with
 |none=>injection h with h;subst h;exact g |some d=>
  simp only [Env.put] at h;split at h
  ·cases h
  ·rename_i hlt;have hlt:d<a.tmps.size:=by rw [g.size];simpa [ai7] using hlt
   split at h
   ·cases h
   ·rename_i hf;injection h with h;subst h;obtain ⟨f1,f2⟩:=rY hf;refine ⟨by rw [KU];exact g.size,by rw [put_defers];exact g.defers,fun t u hu=>?_,fun t gg b u hu=>?_⟩
    ·simp only [look] at hu;split at hu
     ·rename_i hk;have hk:=ac3 hk;subst hk;injection hu with hu;subst hu;exact getElem?_put_same hlt
     ·rename_i hk;rw [getElem?_put_ne (Ne.symm (fL hk))];exact g.us t u hu
    ·have hg:=f2 _ _ _ _ hu;have ht:t≠d:=fun e=>by subst e;rw [f1] at hu;cases hu
     rw [getElem?_put_ne hg,getElem?_put_ne ht];exact g.cs t gg b u hu
theorem Ag.ig{n:Nat}{D:List Nat}{e e':Env}{a:Act}{d:Option Nat}{k:Nat×Bool}{v u:Value}(g:Ag n D e a)(h:e.put n (some k) d v=some e')
 (h1:a.tmps[k.1]? =some (.bool k.2)->u=v) (h2:a.tmps[k.1]? ≠some (.bool k.2)->u=undef):Ag n D e' (a.put d u):=by
 cases d with
 |none=>injection h with h;subst h;exact g |some d=>
  simp only [Env.put] at h;split at h
  ·cases h
  ·rename_i hlt;have hlt:d<a.tmps.size:=by rw [g.size];simpa [ai7] using hlt
   split at h
   ·cases h
   ·rename_i hf;split at h
    ·cases h
    ·rename_i hnone;split at h
     ·cases h
     ·rename_i hkd;injection h with h;subst h;obtain ⟨f1,f2⟩:=rY hf;have hkd:=fL hkd;refine ⟨by rw [KU];exact g.size,by rw [put_defers];exact g.defers,fun t x hx=>?_,fun t gg b x hx=>?_⟩
      ·have ht:t≠d:=fun e=>by subst e;rw [hnone] at hx;cases hx
       rw [getElem?_put_ne ht];exact g.us t x hx
      ·simp only [rD] at hx;split at hx
       ·rename_i hk;have hk:=ac3 hk;subst hk;injection hx with hx;injection hx with hx1 hx2;subst hx1;subst hx2;rw [getElem?_put_ne hkd,getElem?_put_same hlt];exact ⟨fun hh=>by rw [h1 hh],fun hh=>by rw [h2 hh]⟩
       ·rename_i hk;have hg:=f2 _ _ _ _ hx;rw [getElem?_put_ne hg,getElem?_put_ne (Ne.symm (fL hk))];exact g.cs t gg b x hx
def Env.Sub(e:Env):Us->Prop
 | []=>True |(t,v)::r=>look e.us t=some v/\e.Sub r
theorem Ag.sub{n:Nat}{D:List Nat}{e:Env}{us:Us}{a:Act}(g:Ag n D e a)(h:e.Sub us):Ag n D ⟨us,[]⟩ a:=by
 refine ⟨g.size,g.defers,?_,fun _ _ _ _ h=>by cases h⟩
 induction us with
 |nil=>intro t v hv;cases hv |cons x r ih=>
  obtain ⟨k,u⟩:=x;intro t v hv;simp only [look] at hv;split at hv
  ·rename_i hk;have hk:=ac3 hk;subst hk;injection hv with hv;subst hv;exact g.us _ _ h.1
  ·exact ih h.2 t v hv
theorem Ag.clear{n:Nat}{D:List Nat}{e:Env}{a:Act}(g:Ag n D e a):Ag n D ⟨e.us,[]⟩ a:=⟨g.size,g.defers,g.us,fun _ _ _ _ h=>by cases h⟩
inductive It where
 |code (c:Code)
 |ops (all:Array Oper) (l:List Oper)
 |inBlock (id:Nat)
 |inLoop (c:Code)
 |inScope (c:Code)
 |begin
def It.item:It->Item
 | .code c=> .code c | .ops all l=> .inRegion all (ah1 (all.size-l.length) l.length)
 | .inBlock id=> .inBlock id | .inLoop c=> .inLoop c
 | .inScope c=> .inScope c | .begin=> .beginRound
def lB:List Oper->Bool
 | []=>true |o::l=>match o.op with
  | .defer _=>false |_=>lB l
theorem vD: ∀{l:List Oper} {i:Nat} {o:Oper},lB l=true->l[i]? =some o-> ∀c,o.op≠ .defer c
 | [],_,_,_,h=>by simp at h |x::l,i,o,hn,h=>by
  intro c hc;unfold lB at hn;cases i with
  |zero=>
   simp only [ak1,Option.some.injEq] at h;subst h;rw [hc] at hn;cases hn
  |succ i=>
   simp only [af4] at h;split at hn
   ·cases hn
   ·exact vD hn h c hc
def It.ok:It->Prop
 | .ops all l=>(∃pre,all.toList=pre++l)/\lB all.toList=true |_=>True
def items(k:List It):List Item:=k.map It.item
def hU(k:List It):Prop:= ∀x,x∈k->x.ok
structure TI where
 d:TypeDesc
 size:Nat
 bytes:Nat
 zero:List Value
 agg:Bool
def MV:TypeDesc->Bool
 | .struct _=>true | .array _ _=>true
 |_=>false
structure TI.Ok(P:Program)(t:TypeId)(i:TI):Prop where
 und:P.underlying t=some i.d
 info: ∃x z,P.info? t=some x/\x.size=i.size/\x.bytes=i.bytes/\x.zero=some z/\z.cells.toList=i.zero
 agg:MV i.d=i.agg
 len:i.zero.length=i.size
inductive TT where
 |leaf
 |node (k:Nat) (v:TI) (l r:TT)
def TT.get:TT->Nat->Option TI
 | .leaf,_=>none | .node k v l r,t=>match Nat.beq k t with
   |true=>some v |false=>match Nat.blt t k with
    |true=>l.get t |false=>r.get t
def TT.Ok(P:Program):TT->Prop
 | .leaf=>True | .node k v l r=>TI.Ok P k v/\l.Ok P/\r.Ok P
theorem TT.Ok.get{P:Program}{t:Nat}{i:TI}: ∀{S:TT},S.Ok P->S.get t=some i->TI.Ok P t i
 | .leaf,_,hg=>by cases hg | .node k v l r,⟨h1,h2,h3⟩,hg=>by
   simp only [TT.get] at hg;split at hg
   ·rename_i hk;have hk:=ac3 hk;subst hk;injection hg with hg;subst hg;exact h1
   ·split at hg
    ·exact TT.Ok.get h2 hg
    ·exact TT.Ok.get h3 hg
structure qJ where
 P:Program
 S:TT
 w0:World
 f:FuncId
 fn:Func
 n:Nat
 R:Value->GH->List bV->Prop
 ok:S.Ok P
 hfn:P.funcs[f]? =some fn
 D:List Nat:=[]
 rd:Option Nat:=none
def FrOk(C:qJ)(b:Frame)(cs:List Frame):Prop:=b.kind= .normal/\b.roundOf=C.rd/\(C.rd≠none->cs≠[])
def qJ.Out(C:qJ)(cs:List Frame)(w':World)(v:Value)(m:Machine):Prop:=match C.rd with
 |none=> ∃fr,m=lone fr cs w'/\fr.fn=C.f/\fr.leaving C.P w' (.returned v) |some _=> ∃c cs',cs=c::cs'/\m=lone (c.finish v) cs' w'
def V(C:qJ)(k:List It)(e:Env)(h:GH)(L:List bV):Prop:=
 hU k-> ∀(a:Act) (w:World) (b:Frame) (cs:List Frame),Ag C.n C.D e a->St C.w0 h L w->b.fn=C.f->FrOk C b cs->
  ∃v w' m h' L',C.R v h' L'/\St C.w0 h' L' w'/\Steps C.P (lone (b.atR a (items k)) cs w) m/\C.Out cs w' v m/\True
variable{C:qJ}{k:List It}{e:Env}{h:GH}{L:List bV}
theorem V.sub{us:Us}(hs:e.Sub us)(hv:V C k ⟨us,[]⟩ h L):V C k e h L:=
 fun ho a w b cs g s hf hk=>hv ho a w b cs (g.sub hs) s hf hk
theorem V.perm{L':List bV}(hp:L.Perm L')(hv:V C k e h L'):V C k e h L:=
 fun ho a w b cs g s hf hk=>hv ho a w b cs g (s.perm hp) hf hk
theorem V.tail{p:bV}(hv:V C k e h L):V C k e h (p::L):=
 fun ho a w b cs g s hf hk=>hv ho a w b cs g s.tail hf hk
theorem V.bc{b lo:Nat}{vs:List Value}(hv:h.le (h.add b lo vs)->V C k e (h.add b lo vs) L):V C k e h (⟨b,lo,vs,none⟩::L):=
 fun ho a w bb cs g s hf hk=>hv s.bz ho a w bb cs g s.bc hf hk
theorem V.ax{k':List It}(hok:hU k->hU k')(hst: ∀(a:Act) (w:World) (b:Frame) (cs:List Frame),Ag C.n C.D e a->Steps C.P (lone (b.atR a (items k)) cs w) (lone (b.atR a (items k')) cs w))
 (hv:V C k' e h L):V C k e h L:=
 fun ho a w b cs g s hf hk=>
  let ⟨v,w',fr,h',L',r,s',st,e1,e2⟩:=hv (hok ho) a w b cs g s hf hk
  ⟨v,w',fr,h',L',r,s',(hst a w b cs g).trans st,e1,e2⟩
theorem bQ{x:It}(ho:hU (x::k)):hU k:=fun y hy=>ho y (ab9 _ hy)
theorem lT{x:It}(hx:x.ok)(ho:hU k):hU (x::k):=fun y hy=>by
 rcases ab6.1 hy with rfl|hy
 ·exact hx
 ·exact ho y hy
theorem eJ{c:Code}(ho:hU k):hU (.code c::k):=lT (show It.ok (.code c) from trivial) ho
theorem J1{id:Nat}(ho:hU k):hU (.inBlock id::k):=lT (show It.ok (.inBlock id) from trivial) ho
theorem J2{c:Code}(ho:hU k):hU (.inScope c::k):=lT (show It.ok (.inScope c) from trivial) ho
theorem MZ{c:Code}(ho:hU k):hU (.inLoop c::k):=lT (show It.ok (.inLoop c) from trivial) ho
theorem tF{all:Array Oper}{l pre:List Oper}(hp:all.toList=pre++l)(hn:lB all.toList=true)(ho:hU k):hU (.ops all l::k):=lT (show It.ok (.ops all l) from ⟨⟨pre,hp⟩,hn⟩) ho
def B9(id:Nat):List It->Option (List It)
 | .inBlock id'::k=>match Nat.beq id' id with|true=>some k|false=>B9 id k
 |_::k=>B9 id k | []=>none
theorem iX{id:Nat}: ∀{k k':List It},B9 id k=some k'->exitTo id (items k)=some (items k')/\(hU k->hU k')
 | [],_,h=>by cases h | .inBlock id'::k,k',h=>by
   simp only [B9] at h;split at h
   ·rename_i hb;have hb:=ac3 hb;subst hb;injection h with h;subst h;exact ⟨by simp [items,It.item,exitTo],bQ⟩
   ·rename_i hb;obtain ⟨h1,h2⟩:=iX h;refine ⟨?_,fun ho=>h2 (bQ ho)⟩;have:(id'==id)=false:=by simpa using fL hb
    simpa [items,It.item,exitTo,this] using h1
 | .code c::k,k',h=>by obtain ⟨h1,h2⟩:=iX (k:=k) h;exact ⟨by simpa [items,It.item,exitTo] using h1,fun ho=>h2 (bQ ho)⟩
 | .ops all l::k,k',h=>by obtain ⟨h1,h2⟩:=iX (k:=k) h;exact ⟨by simpa [items,It.item,exitTo] using h1,fun ho=>h2 (bQ ho)⟩
 | .inLoop c::k,k',h=>by obtain ⟨h1,h2⟩:=iX (k:=k) h;exact ⟨by simpa [items,It.item,exitTo] using h1,fun ho=>h2 (bQ ho)⟩
 | .begin::k,k',h=>by obtain ⟨h1,h2⟩:=iX (k:=k) h;exact ⟨by simpa [items,It.item,exitTo] using h1,fun ho=>h2 (bQ ho)⟩
 | .inScope c::k,k',h=>by obtain ⟨h1,h2⟩:=iX (k:=k) h;exact ⟨by simpa [items,It.item,exitTo] using h1,fun ho=>h2 (bQ ho)⟩
theorem step_scope{P:Program}{b:Frame}{a:Act}{k:List Item}{cs:List Frame}{w:World}{c:Code}:
 step P (lone (b.atR a (.code (.scope c)::k)) cs w)= .next (lone (b.atR a (.code c:: .inScope c::k)) cs w):=
 step_lone_go (by simp [stepG,stepG.exec,Frame.atR])
theorem step_inScope{P:Program}{b:Frame}{a:Act}{k:List Item}{cs:List Frame}{w:World}{c:Code}:
 step P (lone (b.atR a (.inScope c::k)) cs w)= .next (lone (b.atR a k) cs w):=
 step_lone_go (by simp [stepG,stepG.exec,Frame.atR])
def cstep:List It->Option (List It)
 | .code (.seq x y)::k=>some (.code x:: .code y::k) | .code .skip::k=>some k
 | .code (.label _)::k=>some k | .code (.block id c)::k=>some (.code c:: .inBlock id::k)
 | .code (.scope c)::k=>some (.code c:: .inScope c::k) | .code (.exit id)::k=>B9 id k
 | .code (.region _ ops false)::k=>match lB ops.toList with|true=>some (.ops ops ops.toList::k)|false=>none
 | .inBlock _::k=>some k | .inScope _::k=>some k
 |_=>none
theorem V.cstep{k':List It}(hc:cstep k=some k')(hv:V C k' e h L):V C k e h L:=by
 unfold Go.Tp.cstep at hc;split at hc
 case h_1=>injection hc with hc;subst hc;exact hv.ax (fun ho=>eJ (eJ (bQ ho))) fun _ _ _ _ _=> .one stepR_seq
 case h_2=>injection hc with hc;subst hc;exact hv.ax bQ fun _ _ _ _ _=> .one stepR_skip
 case h_3=>injection hc with hc;subst hc;exact hv.ax bQ fun _ _ _ _ _=> .one stepR_label
 case h_4=>injection hc with hc;subst hc;exact hv.ax (fun ho=>eJ (J1 (bQ ho))) fun _ _ _ _ _=> .one stepR_block
 case h_5=>injection hc with hc;subst hc;exact hv.ax (fun ho=>eJ (J2 (bQ ho))) fun _ _ _ _ _=> .one step_scope
 case h_6 id k=>
  obtain ⟨h1,h2⟩:=iX hc;exact hv.ax (fun ho=>h2 (bQ ho)) fun _ _ _ _ _=> .one (stepR_exit h1)
 case h_7 id ops k=>
  split at hc
  rotate_left
  ·cases hc
  rename_i hnd;injection hc with hc;subst hc;refine hv.ax (fun ho=>tF (all:=ops) (pre:=[]) (by simp) hnd (bQ ho)) fun a w b cs _=>?_;have:items (.ops ops ops.toList::k)= .inRegion ops (List.range ops.size)::items k:=by simp [items,It.item,List.range_eq_range']
  rw [this];exact .one stepR_region
 case h_8=>injection hc with hc;subst hc;exact hv.ax bQ fun _ _ _ _ _=> .one stepR_inBlock
 case h_9=>injection hc with hc;subst hc;exact hv.ax bQ fun _ _ _ _ _=> .one step_inScope
 case h_10=>cases hc
theorem V.cond{c:Operand}{x y:Code}{g:Bool}(hc:e.ev [] c=some (.bool g))(ht:g=true->V C (.code x::k) e h L)(hf:g=false->V C (.code y::k) e h L):V C (.code (.cond c x y)::k) e h L:=by
 cases g
 ·refine (hf T).ax (fun ho=>eJ (bQ ho)) fun a w b cs ag=>?_;have:=stepR_cond (P:=C.P) (b:=b) (a:=a) (k:=items k) (cs:=cs) (w:=w) (c:=c) (x:=x) (y:=y) (ag.ev (nV a) hc);exact .one (by simpa [items,It.item] using this)
 ·refine (ht T).ax (fun ho=>eJ (bQ ho)) fun a w b cs ag=>?_;have:=stepR_cond (P:=C.P) (b:=b) (a:=a) (k:=items k) (cs:=cs) (w:=w) (c:=c) (x:=x) (y:=y) (ag.ev (nV a) hc);exact .one (by simpa [items,It.item] using this)
def pX(D:List Nat):List bV:=D.map fun r=>⟨r,0,[],some (.deferred (some []))⟩
theorem St.setObj{w0 w:World}{b lo:Nat}{cs:List Value}{o:Obj}(s:St w0 h (⟨b,lo,cs,some o⟩::L) w)(hcs:cs=[])(o':Obj)(ho': ∀c t f,o'≠ .cells c t f):St w0 h (⟨b,lo,[],some o'⟩::L) (w.putObj b o'):=by
 subst hcs;have k:=s.own _ (aa5 ..);obtain ⟨hn,hb,hno⟩:=k.obj o rfl;simp only at hn hb;have hlt:b<w.heap.size:=(Array.getElem?_eq_some_iff.1 hb).1;have hcell: ∀a:Addr,w.cell? a≠none->(w.putObj b o').cell? a=w.cell? a:=fun a ha=>by
  by_cases e:a.block=b
  ·exfalso;apply ha;unfold World.cell?;rw [e,hb];cases o<;>first|rfl|exact (hno _ _ _ T).elim
  ·exact World.cell?_of_block (World.putObj_heap_other e)
 have hfrz: ∀a:Addr,(w.putObj b o').frozen? a=w.frozen? a:=fun a=>by
  by_cases e:a.block=b
  ·have e1:w.frozen? a=false:=by
    unfold World.frozen?;rw [e,hb];cases o<;>first|rfl|exact (hno _ _ _ T).elim
   rw [e1];unfold World.frozen?;rw [e,World.putObj_heap_same hlt];cases o'<;>first|rfl|exact (ho' _ _ _ T).elim
  ·exact World.frozen?_of_block (World.putObj_heap_other e)
 have hd:=ad9.1 s.dis;refine ⟨⟨s.below.os,s.below.tape,s.below.output,by rw [World.putObj_size];exact s.below.size,fun j hj=>?_⟩,fun b' o1 v hv=>?_,s.imm1,fun p hp=>?_,?_,fun b o v hv=>(hfrz _).trans (s.frz b o v hv),s.drn⟩
 ·rw [World.putObj_heap_other (by omega)];exact s.below.block j hj
 ·have hc:=s.imm b' o1 v hv;rw [hcell _ (by rw [hc];exact fun x=>by cases x)];exact hc
 ·rcases ab6.1 hp with rfl|hp
  ·refine ⟨fun v hv=>by simp at hv,fun i v hv=>by simp at hv,fun i hi=>by simp at hi,fun i hi=>by simp at hi,fun i hi=>by simp at hi,fun o1 ho1=>?_⟩;simp only [Option.some.injEq] at ho1;subst ho1;exact ⟨hn,World.putObj_heap_same hlt,ho'⟩
  ·have q:=s.own p (ab9 _ hp);refine ⟨q.one,fun i v hv=>?_,q.new,fun i hi=>(hfrz _).trans (q.warm i hi),q.fresh,fun o1 ho1=>?_⟩
   ·have hc:=q.cell i v hv;rw [hcell _ (by rw [hc];exact fun x=>by cases x)];exact hc
   ·obtain ⟨h1,h2,h3⟩:=q.obj o1 ho1;refine ⟨h1,?_,h3⟩;rw [World.putObj_heap_other (fun e=>(hd.1 p hp).2 T (by rw [ho1];rfl) e.symm)];exact h2
 ·exact ad9.2 ⟨fun q hq=>⟨fun i j hi=>by simp at hi,fun _=>(hd.1 q hq).2 T⟩,hd.2⟩
theorem Y3{P:Program}{w0:World}{L0 F0:List bV}: ∀{D:List Nat} {w:World} (fr:Frame) (cs:List Frame),fr.mode= .returning->fr.defers=marks D->St w0 h (L0++(pX D++F0)) w->
 ∃w' fr',St w0 h (L0++F0) w'/\Steps P (lone fr cs w) (lone fr' cs w')/\fr'.fn=fr.fn/\fr'.tmps=fr.tmps/\fr'.kind=fr.kind/\fr'.mode= .returning/\fr'.defers=[]
 | [],w,fr,cs,hm,hd,s=>⟨w,fr,s, .refl P _,rfl,rfl,rfl,hm,hd⟩ |r::D,w,fr,cs,hm,hd,s=>by have s1:St w0 h (⟨r,0,[],some (.deferred (some []))⟩::(L0++(pX D++F0))) w:=s.perm ai5;have hb:=(s1.own _ (aa5 ..)).obj _ T;have s2:=(s1.setObj T (.deferred none) (fun _ _ _ x=>by cases x)).tail;obtain ⟨w',fr',s3,st,e1,e2,e3,e4,e5⟩:=Y3 (P:=P) {fr with defers:=marks D} cs hm rfl s2;refine ⟨w',fr',s3, .head (step_lone_go ?_) st,e1,e2,e3,e4,e5⟩;have hr:=run_takeDeferred (P:=P) hb.2.1;simp only at hr;have hd':fr.defers={target:= .collected r,args:= #[]}::marks D:=hd;simp [stepG,unwind,hm,hd',Sem.runT_eq,hr,GStep.bare_after]
theorem V.ret{v:Value}(hk:k= .code .ret::k.tail\/k=[])(hrd:C.rd=none){L0 F0:List bV}(hL:L=L0++(pX C.D++F0))
 (hr: ∀a w,Ag C.n C.D e a->St C.w0 h (L0++F0) w->(results C.fn a.tmps).run C.P w= .ok v w) (hR:C.R v h (L0++F0)):V C k e h L:=by
 intro ho a w b cs g s hf hkk;subst hL;obtain ⟨hk1,hk2,_⟩:=hkk;rw [hrd] at hk2
 have key: ∀fr:Frame,fr.mode= .returning->fr.defers=a.defers->fr.fn=b.fn->fr.tmps=a.tmps->fr.kind=b.kind->step C.P (lone (b.atR a (items k)) cs w)= .next (lone fr cs w)->
  ∃v w' m h' L',C.R v h' L'/\St C.w0 h' L' w'/\Steps C.P (lone (b.atR a (items k)) cs w) m/\C.Out cs w' v m/\True:=by
  intro fr m1 m2 m3 m4 m5 hst;obtain ⟨w',fr',s',st,e1,e2,e3,e4,e5⟩:=Y3 (P:=C.P) fr cs m1 (m2.trans g.defers) s;refine ⟨v,w',lone fr' cs w',h,_,hR,s', .head hst st,?_,trivial⟩;unfold qJ.Out;rw [hrd];exact ⟨fr',rfl,(e1.trans m3).trans hf,e4,e5,(e3.trans m5).trans hk1,C.fn,by rw [e1,m3,hf];exact C.hfn,by rw [e2,m4];exact hr a w' g s'⟩
 rcases hk with hk|hk
 ·refine key {b.atR a (items (.code .ret::k.tail)) with mode:= .returning} rfl T T T T ?_;rw [hk];exact stepR_ret hk2
 ·subst hk;exact key {b.atR a [] with mode:= .returning} rfl T T T T (stepR_end hk2)
theorem NJ{P:Program}{ops:Array Oper}{i:Nat}{rest:List Nat}{o:Oper}{b:Frame}{a:Act}{k:List Item}{cs:List Frame}{w:World}{K:Act->World->Prop}
 (ho:ops[i]? =some o) (hnd: ∀c,o.op≠ .defer c) (hw:Region.wanted o (yielded ops a.tmps)=true) (hh:o.wp P a w K (fun _ _ _=>False)):
 ∃a' w',K a' w'/\Steps P (lone (b.atR a (.inRegion ops (i::rest)::k)) cs w) (lone (b.atR a' (.inRegion ops rest::k)) cs w'):=by
 unfold Oper.wp Oper.upon at hh;have hg:=stepGR_op (P:=P) (b:=b) (k:=k) (cs:=cs) (w:=w) (rest:=rest) ho hw;rw [Oper.semAt_eq _ _ _ hnd] at hg;have hfin: ∀v,(b.atR a (.inRegion ops (i::rest)::k)).finish v=b.atR (a.put o.dst v) (.inRegion ops rest::k):=by intro v;rw [Frame.finish_atR,ho];rfl
 split at hh
 ·rename_i v w' hr;refine ⟨_,_,hh, .one (step_lone_go ?_)⟩;rw [hg,<-hfin];simp [stepG.apply,hr]
 ·rename_i w' hr;refine ⟨_,_,hh, .one (step_lone_go ?_)⟩;rw [hg,<-hfin];simp [stepG.apply,hr]
 ·rename_i d w' hr;refine ⟨_,_,hh, .one (step_lone_go ?_)⟩;have:({b.atR a (.inRegion ops (i::rest)::k) with defers:=d::a.defers}:Frame).finish undef=
   b.atR ({a with defers:=d::a.defers}.put o.dst undef) (.inRegion ops rest::k):=by
   have:=Frame.finish_atR b {a with defers:=d::a.defers} ops i rest k undef;rw [ho] at this;exact this
  rw [hg];simp only [stepG.apply,Sem.runT_eq,hr,GStep.bare_after];exact congrArg (fun fr=>GStep.go {frame:=fr,callers:=cs,status:= .running,dying:=none} w') this
 ·rename_i f args w' hr;obtain ⟨e,w'',fr,hR,hsteps,_,hleave⟩:=hh (b.atR a (.inRegion ops (i::rest)::k)::cs);have henter:step P (lone (b.atR a (.inRegion ops (i::rest)::k)) cs w)=
   .next (lone (Frame.enter P f args .normal) (b.atR a (.inRegion ops (i::rest)::k)::cs) w'):=
   step_lone_go (by rw [hg];simp [stepG.apply,hr,Frame.atR])
  cases e with
  |returned v=>
   refine ⟨_,_,hR, .head henter (hsteps.trans (.one ?_))⟩;rw [<-hfin];exact step_leave_returned hleave
  |panicked chain=>exact hR.elim |outgrown=>obtain ⟨_,_,hq⟩:=hR;exact hq.elim
 ·rename_i row args w' hr;obtain ⟨v,w'',hR,hsteps⟩:=hh (b.atR a (.inRegion ops (i::rest)::k)) cs;have henter:step P (lone (b.atR a (.inRegion ops (i::rest)::k)) cs w)=
   .next (lone (Frame.ofRow P row args .normal) (b.atR a (.inRegion ops (i::rest)::k)::cs) w'):=
   step_lone_go (by rw [hg];simp [stepG.apply,hr,Frame.atR])
  refine ⟨_,_,hR, .head henter ?_⟩;rw [<-hfin];exact hsteps
 ·exact hh.elim
 ·exact hh.elim
theorem KL{all:Array Oper}{o:Oper}{l pre:List Oper}(hp:all.toList=pre++o::l):
 It.item (.ops all (o::l))= .inRegion all (pre.length::ah1 (pre.length+1) l.length)/\
 It.item (.ops all l)= .inRegion all (ah1 (pre.length+1) l.length)/\all[pre.length]? =some o:=by
 have hs:all.size=pre.length+(l.length+1):=by have:=congrArg List.length hp;simpa using this
 refine ⟨?_,?_,?_⟩
 ·simp only [It.item,ab7,at5];rw [show all.size-(l.length+1)=pre.length by omega]
 ·simp only [It.item];rw [show all.size-l.length=pre.length+1 by omega]
 ·rw [<-ad5,hp];simp
def eG(all:Array Oper)(o:Oper)(a:Act):Bool:=Region.wanted o (yielded all a.tmps)
theorem V.op{all:Array Oper}{o:Oper}{l:List Oper}
 (hv: ∀a w,Ag C.n C.D e a->St C.w0 h L w->
   (eG all o a=true->o.wp C.P a w (fun a' w'=> ∃e' h' L',Ag C.n C.D e' a'/\St C.w0 h' L' w'/\V C (.ops all l::k) e' h' L') (fun _ _ _=>False))/\
   (eG all o a=false-> ∃e' h' L',Ag C.n C.D e' (a.put o.dst undef)/\St C.w0 h' L' w/\V C (.ops all l::k) e' h' L')):
 V C (.ops all (o::l)::k) e h L:=by
 intro ho a w b cs g s hf hk;obtain ⟨⟨pre,hp⟩,hnd⟩:(∃pre,all.toList=pre++o::l)/\lB all.toList=true:=ho _ (aa5 ..);obtain ⟨i1,i2,i3⟩:=KL hp;have hok:hU (.ops all l::k):=tF (pre:=pre++[o]) (by simp [hp]) hnd (bQ ho);obtain ⟨v1,v2⟩:=hv a w g s
 by_cases hw:eG all o a=true
 ·obtain ⟨a',w',⟨e',h',L',g',s',hv'⟩,st⟩:=NJ (P:=C.P) (b:=b) (k:=items k) (cs:=cs) (rest:=ah1 (pre.length+1) l.length) i3 (vD hnd (by rw [ad5];exact i3)) hw (v1 hw);obtain ⟨v,w'',fr,h'',L'',r,s'',st'',e1,e2⟩:=hv' hok a' w' b cs g' s' hf hk;refine ⟨v,w'',fr,h'',L'',r,s'',?_,e1,e2⟩;have x1:items (.ops all (o::l)::k)= .inRegion all (pre.length::ah1 (pre.length+1) l.length)::items k:=by simp [items,i1]
  have x2:items (.ops all l::k)= .inRegion all (ah1 (pre.length+1) l.length)::items k:=by simp [items,i2]
  rw [x1];rw [x2] at st'';exact st.trans st''
 ·have hw:eG all o a=false:=by simpa using hw
  obtain ⟨e',h',L',g',s',hv'⟩:=v2 hw;obtain ⟨v,w'',fr,h'',L'',r,s'',st'',e1,e2⟩:=hv' hok (a.put o.dst undef) w b cs g' s' hf hk;refine ⟨v,w'',fr,h'',L'',r,s'',?_,e1,e2⟩;have x1:items (.ops all (o::l)::k)= .inRegion all (pre.length::ah1 (pre.length+1) l.length)::items k:=by simp [items,i1]
  have x2:items (.ops all l::k)= .inRegion all (ah1 (pre.length+1) l.length)::items k:=by simp [items,i2]
  rw [x1];rw [x2] at st'';have hs:=stepR_op_skip (P:=C.P) (b:=b) (a:=a) (k:=items k) (cs:=cs) (w:=w) (ops:=all) (i:=pre.length) (rest:=ah1 (pre.length+1) l.length) (by simp only [i3,af8,an6];exact hw);rw [i3] at hs;exact .head hs st''
theorem V.fe{all:Array Oper}(hv:V C k ⟨e.us,[]⟩ h L):V C (.ops all []::k) e h L:=by intro ho a w b cs g s hf hk;obtain ⟨v,w'',fr,h'',L'',r,s'',st'',e1,e2⟩:=hv (bQ ho) a w b cs g.clear s hf hk;exact ⟨v,w'',fr,h'',L'',r,s'', .head stepR_region_end st'',e1,e2⟩
theorem qP{all:Array Oper}{o:Oper}{m:Option (Nat×Bool)}{ks:List (Nat×Bool)}{a:Act}{n:Nat}{D:List Nat}(g:Ag n D e a)(hg:oT e all o.guard=some (m,ks)):
 (m=none/\eG all o a=true/\eY a ks)\/
 (∃t b,m=some (t,b)/\(eG all o a=true↔a.tmps[t]? =some (.bool b))/\(eG all o a=true->eY a ks)):=by
 cases hgu:o.guard with
 |none=>
  rw [hgu] at hg;injection hg with hg;injection hg with h1 h2;subst h1;subst h2;exact .inl ⟨rfl,by simp [eG,Region.wanted,hgu],nV a⟩
 |some x=>
  obtain ⟨j,b⟩:=x;rw [hgu] at hg;simp only [oT] at hg;split at hg
  ·rename_i oj hj;split at hg
   ·rename_i t ht;injection hg with hg;injection hg with h1 h2;subst h1;subst h2;rw [cZ] at hj;have hj':all[j]? =some oj:=by rw [<-ad5];exact hj
    have hiff:eG all o a=true↔a.tmps[t]? =some (.bool b):=by
     simp only [eG,Region.wanted,hgu,yielded,hj',Option.bind_some,ht];cases hx:a.tmps[t]? with
     |none=>simp |some v=>cases v<;>simp
    refine .inr ⟨t,b,rfl,hiff,fun hon=>?_⟩;exact g.chain 6 (t,b) (hiff.1 hon)
   ·cases hg
  ·cases hg
theorem V.value{all:Array Oper}{o:Oper}{l:List Oper}{m:Option (Nat×Bool)}{ks:List (Nat×Bool)}{v:Value}{e':Env}(hg:oT e all o.guard=some (m,ks))
 (hr: ∀a w,Ag C.n C.D e a->St C.w0 h L w->eY a ks->(execOp a.eval o).run C.P w= .ok (.value v) w) (hp:e.put C.n m o.dst v=some e') (hv:V C (.ops all l::k) e' h L):
 V C (.ops all (o::l)::k) e h L:=by
 refine V.op fun a w g s=>?_;rcases qP g hg with ⟨rfl,hon,hk⟩|⟨t,b,rfl,hiff,hk⟩
 ·refine ⟨fun _=>?_,fun hx=>by rw [hon] at hx;cases hx⟩;unfold Oper.wp;rw [hr a w g s hk];exact ⟨e',h,L,g.put hp,s,hv⟩
 ·refine ⟨fun hon=>?_,fun hoff=>?_⟩
  ·unfold Oper.wp;rw [hr a w g s (hk hon)];exact ⟨e',h,L,g.ig hp (fun _=>rfl) (fun hx=>(hx (hiff.1 hon)).elim),s,hv⟩
  ·refine ⟨e',h,L,g.ig hp (fun hx=>?_) (fun _=>rfl),s,hv⟩;have:=hiff.2 hx;rw [hoff] at this;cases this
def iU(e:Env)(all:Array Oper):Option (Nat×Bool)->Option (List (Nat×Bool))
 |none=>some [] |some (j,w)=>match cR all.toList j with
  |some o=>match o.dst with
   |some t=>match look e.us t with
    |some (.bool b)=>match b,w with
     |true,true=>some [(t,w)] |false,false=>some [(t,w)]
     |_,_=>none
    |_=>none
   |none=>none
  |none=>none
def gno(e:Env)(all:Array Oper):Option (Nat×Bool)->Option Bool
 |none=>none |some (j,w)=>match cR all.toList j with
  |some o=>match o.dst with
   |some t=>match look e.us t with
    |some (.bool b)=>match b,w with
     |true,false=>some true |false,true=>some true
     |_,_=>none
    |_=>none
   |none=>none
  |none=>none
theorem gP{all:Array Oper}{o:Oper}{ks:List (Nat×Bool)}{a:Act}{n:Nat}{D:List Nat}(g:Ag n D e a)(hg:iU e all o.guard=some ks):eG all o a=true/\eY a ks:=by
 cases hgu:o.guard with
 |none=>
  rw [hgu] at hg;injection hg with hg;subst hg;exact ⟨by simp [eG,Region.wanted,hgu],nV a⟩
 |some x=>
  obtain ⟨j,w⟩:=x;rw [hgu] at hg;simp only [iU] at hg;split at hg
  ·rename_i oj hj;rw [cZ] at hj;have hj':all[j]? =some oj:=by rw [<-ad5];exact hj
   split at hg
   ·rename_i t ht;split at hg
    ·rename_i b hl;have hb:=g.us _ _ hl;split at hg
     all_goals first
      |(injection hg with hg
        subst hg;refine And.intro ?_ ?_
        ·simp [eG,Region.wanted,hgu,yielded,hj',ht,hb]
        ·intro x y hm;simp only [ab0,Prod.mk.injEq] at hm;obtain ⟨rfl,rfl⟩:=hm;exact hb)
      |cases hg
    ·cases hg
   ·cases hg
  ·cases hg
theorem JP{all:Array Oper}{o:Oper}{x:Bool}{a:Act}{n:Nat}{D:List Nat}(g:Ag n D e a)(hg:gno e all o.guard=some x):eG all o a=false:=by
 cases hgu:o.guard with
 |none=>rw [hgu] at hg;cases hg |some x=>
  obtain ⟨j,w⟩:=x;rw [hgu] at hg;simp only [gno] at hg;split at hg
  ·rename_i oj hj;rw [cZ] at hj;have hj':all[j]? =some oj:=by rw [<-ad5];exact hj
   split at hg
   ·rename_i t ht;split at hg
    ·rename_i b hl;have hb:=g.us _ _ hl;split at hg
     all_goals first|(simp [eG,Region.wanted,hgu,yielded,hj',ht,hb];done)|cases hg
    ·cases hg
   ·cases hg
  ·cases hg
theorem V.skip{all:Array Oper}{o:Oper}{l:List Oper}{x:Bool}{e':Env}(hg:gno e all o.guard=some x)(hp:e.put C.n none o.dst undef=some e')(hv:V C (.ops all l::k) e' h L):
 V C (.ops all (o::l)::k) e h L:=
 V.op fun a w g s=>⟨fun hon=>(by rw [JP g hg] at hon;cases hon),fun _=>⟨e',h,L,g.put hp,s,hv⟩⟩
end Go.Tp
namespace Go.Tp
open Go Go.RowKit
section
variable{P:Program}{w:World}{t:TypeId}{ti:TI}
theorem run_underlying(h:TI.Ok P t ti):(underlying t).run P w= .ok ti.d w:=by simp [underlying,h.und]
theorem run_typeInfo{x:TypeInfo}(h:P.info? t=some x):(typeInfo t).run P w= .ok x w:=by simp [typeInfo,h]
theorem run_sizeOf(h:TI.Ok P t ti):(sizeOf t).run P w= .ok ti.size w:=by obtain ⟨x,z,h1,h2,h3,h4,h5⟩:=h.info;simp [sizeOf,run_typeInfo h1,h2]
theorem y6(h:TI.Ok P t ti):(isAgg t).run P w= .ok ti.agg w:=by rw [<-h.agg];simp only [isAgg,ab8,run_underlying h,ab1];cases ti.d<;>rfl
theorem jV(h:TI.Ok P t ti): ∃z,(zeroValue t).run P w= .ok z w/\z.cells.toList=ti.zero:=by obtain ⟨x,z,h1,h2,h3,h4,h5⟩:=h.info;exact ⟨z,by simp [zeroValue,run_typeInfo h1,h4],h5⟩
end
def jI:List Value->Nat->Nat->Option (List Value)
 |_,0,0=>some [] | [],_,_=>none
 |c::cs,0,n+1=>match jI cs 0 n with
  |some r=>some (c::r) |none=>none
 |_::cs,k+1,n=>jI cs k n
theorem lY: ∀(cs:List Value) (k n:Nat) {r:List Value},jI cs k n=some r->r.length=n/\k+n<=cs.length/\ ∀i,i<n->r[i]? =cs[k+i]?
 | [],0,0,r,h=>by simp [jI] at h;subst h;exact ⟨rfl,ab3 _,fun i hi=>by omega⟩ |_::_,0,0,r,h=>by simp [jI] at h;subst h;exact ⟨rfl,by simp,fun i hi=>by omega⟩
 | [],k+1,0,r,h=>by simp [jI] at h | [],0,n+1,r,h=>by simp [jI] at h
 | [],k+1,n+1,r,h=>by simp [jI] at h |c::cs,0,n+1,r,h=>by
  simp only [jI] at h;split at h
  ·rename_i r' hr;injection h with h;subst h;obtain ⟨h1,h2,h3⟩:=lY cs 0 n hr;refine ⟨by simp [h1],by simp;omega,fun i hi=>?_⟩;cases i with
   |zero=>simp |succ i=>
    have:=h3 i (by omega);simp only [ag9] at this⊢;simpa using this
  ·cases h
 |c::cs,k+1,n,r,h=>by
  have h':jI cs k n=some r:=by cases n<;>simpa [jI] using h
  obtain ⟨h1,h2,h3⟩:=lY cs k n h';refine ⟨h1,by simp;omega,fun i hi=>?_⟩;have:=h3 i hi;rw [this,show k+1+i=(k+i)+1 by omega];simp
def dY:List Value->Nat->List Value->Option (List Value)
 |cs,0,[]=>some cs |c::cs,0,v::vs=>match dY cs 0 vs with
  |some r=>some (v::r) |none=>none
 |c::cs,k+1,vs=>match dY cs k vs with
  |some r=>some (c::r) |none=>none
 | [],_,_=>none
theorem eM: ∀(cs:List Value) (k:Nat) (vs:List Value) {r:List Value},dY cs k vs=some r->k+vs.length<=cs.length/\r.length=cs.length/\ ∀i,r[i]? =if k<=i/\i<k+vs.length then vs[i-k]? else cs[i]?
 |cs,0,[],r,h=>by
  have h:r=cs:=by cases cs<;>(simp [dY] at h;first|exact h|exact h.symm)
  subst h;refine ⟨by simp,rfl,fun i=>?_⟩;rw [iF (by simp)]
 | [],0,v::vs,r,h=>by simp [dY] at h | [],k+1,vs,r,h=>by simp [dY] at h
 |c::cs,0,v::vs,r,h=>by
  simp only [dY] at h;split at h
  ·rename_i r' hr;injection h with h;subst h;obtain ⟨h1,h2,h3⟩:=eM cs 0 vs hr;refine ⟨by simp at*;omega,by simp [h2],fun i=>?_⟩;cases i with
   |zero=>simp |succ i=>
    have:=h3 i;simp only [af4,this,ab7]
    by_cases hi:i<vs.length
    ·rw [iT (by omega),iT (by omega)];simp
    ·rw [iF (by omega),iF (by omega)]
  ·cases h
 |c::cs,k+1,vs,r,h=>by
  simp only [dY] at h;split at h
  ·rename_i r' hr;injection h with h;subst h;obtain ⟨h1,h2,h3⟩:=eM cs k vs hr;refine ⟨by simp;omega,by simp [h2],fun i=>?_⟩;cases i with
   |zero=>simp |succ i=>
    have:=h3 i;simp only [af4,this]
    by_cases hi:k<=i/\i<k+vs.length
    ·rw [iT hi,iT (by omega)];congr 1;omega
    ·rw [iF hi,iF (by omega)]
  ·cases h
def V6:IntKind->IntKind->Bool
 | .i8, .i8=>true | .i16, .i16=>true
 | .i32, .i32=>true | .i64, .i64=>true
 | .u8, .u8=>true | .u16, .u16=>true
 | .u32, .u32=>true | .u64, .u64=>true
 |_,_=>false
theorem O5{a b:IntKind}(h:V6 a b=true):a=b:=by cases a<;>cases b<;>first|rfl|cases h
def bitsOf(op:BinOp)(k:IntKind)(x y:Int):Int:=
 let a:=BitVec.ofInt k.bits x
 let b:=BitVec.ofInt k.bits y
 match op with
 | .and=>k.wrap (a&&&b).toNat | .or=>k.wrap (a|||b).toNat
 | .xor=>k.wrap (a^^^b).toNat |_=>k.wrap (a&&& ~~~b).toNat
def V9(op:BinOp)(k:IntKind)(a b:Int):Option Value:=
 match op with
 | .add=>some (.int k (k.wrap (a+b))) | .sub=>some (.int k (k.wrap (a-b)))
 | .mul=>some (.int k (k.wrap (a*b))) | .and=>some (.int k (bitsOf .and k a b))
 | .or=>some (.int k (bitsOf .or k a b)) | .xor=>some (.int k (bitsOf .xor k a b))
 | .andNot=>some (.int k (bitsOf .andNot k a b)) | .eql=>some (.bool (a==b))
 | .neq=>some (.bool (a !=b)) | .lss=>some (.bool (decide (a<b)))
 | .leq=>some (.bool (decide (a<=b))) | .gtr=>some (.bool (decide (b<a)))
 | .geq=>some (.bool (decide (b<=a))) |_=>none
def strop(op:BinOp)(a b:ByteArray):Option Value:=
 match op with
 | .eql=>some (.bool (a.toList==b.toList)) | .neq=>some (.bool (!(a.toList==b.toList)))
 |_=>none
def UR(S:TT)(op:BinOp)(t:TypeId):Value->Value->Option Value
 | .int k a, .int k' b=>match V6 k k' with
   |true=>V9 op k a b |false=>none
 | .bool a, .bool b=>match S.get t with
   |some ti=>match ti.d with
    | .bool=>match op with
      | .eql=>some (.bool (a==b)) | .neq=>some (.bool (!(a==b)))
      |_=>none
    |_=>none
   |none=>none
 | .string a, .string b=>strop op a b | .func _ _ _, .nilFunc=>match S.get t with
   |some ti=>match ti.d with
    | .func _ _ _=>match op with
      | .eql=>some (.bool false) | .neq=>some (.bool true)
      |_=>none
    |_=>none
   |none=>none
 | .nilFunc, .nilFunc=>match S.get t with
   |some ti=>match ti.d with
    | .func _ _ _=>match op with
      | .eql=>some (.bool true) | .neq=>some (.bool false)
      |_=>none
    |_=>none
   |none=>none
 |_,_=>none
def unv(op:UnOp):Value->Option Value
 | .bool b=>match op with
   | .not=>some (.bool (!b)) |_=>none
 | .int k n=>match op with
   | .neg=>some (.int k (k.wrap (0-n))) | .xor=>some (.int k (bitsOf .xor k (if k.signed then-1 else k.max) n))
   |_=>none
 |_=>none
def OV(S:TT)(s d:TypeId):Value->Option Value
 | .int _ n=>match S.get s with
   |some _=>match S.get d with
    |some di=>match di.d with
     | .int k=>some (.int k (k.wrap n)) |_=>none
    |none=>none
   |none=>none
 |_=>none
def tB(S:TT)(t:TypeId)(i:Nat):Option (Nat×TI):=
 match S.get t with
 |some ti=>match ti.d with
  | .struct fs=>match cR fs.toList i with
    |some ⟨_,ty,off,_,_,_,_⟩=>match S.get ty with
     |some fi=>some (off,fi) |none=>none
    |none=>none
  |_=>none
 |none=>none
def uH(fi:TI)(cs:List Value)(off:Nat):Option Value:=
 match fi.agg with
 |true=>match jI cs off fi.size with
  |some r=>some (.agg ⟨r⟩) |none=>none
 |false=>cR cs off
def HC(S:TT)(t:TypeId)(i:Nat):Value->Option Value
 | .agg cs=>match tB S t i with
   |some (off,fi)=>uH fi cs.toList off |none=>none
 |_=>none
def nT(S:TT)(t:TypeId)(i:Nat):Value->Option Value
 | .pointer (some ⟨b,o,none⟩)=>match tB S t i with
   |some (off,fi)=>match Nat.beq fi.size 0 with
    |true=>none |false=>some (.pointer (some ⟨b,o+off,none⟩))
   |none=>none
 |_=>none
def aM(v:Value):List Value:=match v with
 | .agg cs=>cs.toList |v=>[v]
theorem lQ(v:Value):aM v=v.cells.toList:=by cases v<;>rfl
def tT(place:Nat->Option (Nat×Nat))(ρ:Operand->Option Value):List (Nat×Operand)->List Value->Option (List Value)
 | [],cs=>some cs |(i,x)::r,cs=>match ρ x with
  |some v=>match place i with
   |some (off,size)=>match Nat.beq (aM v).length size with
    |true=>match dY cs off (aM v) with
     |some cs'=>tT place ρ r cs' |none=>none
    |false=>none
   |none=>none
  |none=>none
def mF(S:TT)(fs:List Field)(i:Nat):Option (Nat×Nat):=
 match cR fs i with
 |some f=>match S.get f.type with
  |some fi=>some (f.offset,fi.size) |none=>none
 |none=>none
def rO(S:TT):List Field->Bool
 | []=>true |f::r=>match S.get f.type with
  |some _=>rO S r |none=>false
def BZ(S:TT)(ρ:Operand->Option Value)(t:TypeId)(parts:List (Nat×Operand)):Option Value:=
 match S.get t with
 |some ti=>match ti.d with
  | .struct fs=>match rO S fs.toList with
    |true=>match tT (mF S fs.toList) ρ parts ti.zero with
     |some r=>some (.agg ⟨r⟩) |none=>none
    |false=>none
  | .array _ el=>match S.get el with
    |some ei=>match tT (fun i=>some (i*ei.size,ei.size)) ρ parts ti.zero with
     |some r=>some (.agg ⟨r⟩) |none=>none
    |none=>none
  |_=>none
 |none=>none
def RT(ρ:Operand->Option Value):List Operand->Option (List Value)
 | []=>some [] |x::r=>match ρ x with
  |some v=>match RT ρ r with
   |some vs=>some (v::vs) |none=>none
  |none=>none
def WS(S:TT)(t:TypeId):Value->Option Value
 | .slice _ n _=>match S.get t with
   |some ti=>match ti.d with
    | .slice _=>some (.int .i64 (n:Int)) |_=>none
   |none=>none
 | .string s=>match S.get t with
   |some ti=>match ti.d with
    | .string=>some (.int .i64 (s.size:Int)) |_=>none
   |none=>none
 |_=>none
def pV(S:TT)(b:Builtin)(ts:List TypeId)(vs:List Value):Option Value:=
 match b with
 | .len=>match ts with
   | [t]=>match vs with
     | [v]=>WS S t v |_=>none
   |_=>none
 | .max=>match vs with
   | [.int k x, .int _ y]=>some (.int k (if y>x then y else x)) |_=>none
 | .min=>match vs with
   | [.int k x, .int _ y]=>some (.int k (if y<x then y else x)) |_=>none
 |_=>none
def pv(S:TT)(ρ:Operand->Option Value):Op->Option Value
 | .move x=>ρ x | .assign x=>ρ x
 | .pick c a b=>match ρ c with
   |some (.bool g)=>match ρ a with
    |some (.bool x)=>match ρ b with
     |some (.bool y)=>some (.bool (bif g then x else y)) |_=>none
    |_=>none
   |_=>none
 | .binOp op t x y _=>match ρ x with
   |some a=>match ρ y with
    |some b=>UR S op t a b |none=>none
   |none=>none
 | .unOp op _ x=>match ρ x with
   |some a=>unv op a |none=>none
 | .convert s d x=>match ρ x with
   |some a=>OV S s d a |none=>none
 | .field t x i=>match ρ x with
   |some a=>HC S t i a |none=>none
 | .fieldAddr t x i=>match ρ x with
   |some a=>nT S t i a |none=>none
 | .extract x i=>match ρ x with
   |some (.tuple vs)=>cR vs.toList i |_=>none
 | .build t parts=>BZ S ρ t parts.toList | .makeFunc fn first cap=>match RT ρ first.toList with
   |some a=>match RT ρ cap.toList with
    |some b=>some (.func fn ⟨a⟩ ⟨b⟩) |none=>none
   |none=>none
 | .nilCheck x=>match ρ x with
   |some (.pointer (some a))=>some (.pointer (some a)) |some (.func (.func f) a b)=>some (.func (.func f) a b)
   |_=>none
 | .call c=>match c.callee with
   | .builtin b=>match RT ρ c.args.toList with
     |some vs=>pV S b c.argTypes.toList vs |none=>none
   |_=>none
 |_=>none
section sound
variable{P:Program}{S:TT}{w:World}{ρ:Operand->Option Value}{σ:Operand->Value}
theorem S7{op:BinOp}{k:IntKind}{a b:Int}{v:Value}{t:TypeId}(h:V9 op k a b=some v):(binOp op t (.int k a) (.int k b)).run P w= .ok v w:=by cases op<;>simp only [V9,Option.some.injEq,reduceCtorEq] at h<;>subst h<;>simp [binOp,Op.intArith,Op.intBits,Op.intCmp,bitsOf]
def W8:Value->Bool
 | .agg _=>false | .nilIface=>false
 |_=>true
theorem gD{op:BinOp}{t:TypeId}{x y:Operand}{a b:Value}(h:W8 a=true):(eqGuard op t x y a b).run P w= .ok () w:=by cases a<;>first|(cases op<;>rfl)|exact absurd h (by simp [W8])
theorem B8{t:TypeId}{x y:Value}{r:Bool}(h: ∀d,(Op.equalIn (d+1) t x y).run P w= .ok r w):(Op.equal t x y).run P w= .ok r w:=h 9999
theorem YC(hS:S.Ok P){op:BinOp}{t:TypeId}{x y:Operand}{a b v:Value}(h:UR S op t a b=some v):
 (do eqGuard op t x y a b;binOp op t a b:Sem Value).run P w= .ok v w:=by
 unfold UR at h;split at h
 ·rename_i k a k' b;rw [ab8,gD T,ab1];split at h
  ·rename_i hk;have hk:=O5 hk;subst hk;exact S7 h
  ·cases h
 ·rename_i a b;rw [ab8,gD T,ab1];split at h
  ·rename_i ti hg;have ok:=TT.Ok.get hS hg;split at h
   ·rename_i hd;have hu:(underlying t).run P w= .ok .bool w:=by rw [run_underlying ok,hd]
    have he:(Op.equal t (.bool a) (.bool b)).run P w= .ok (a==b) w:=by refine B8 fun d=>?_;simp only [Op.equalIn,ab8,hu,ab1,ac5]
    split at h
    ·injection h with h;subst h;simp [binOp,he]
    ·injection h with h;subst h;simp [binOp,he]
    ·cases h
   ·cases h
  ·cases h
 ·rename_i a b;rw [ab8,gD T,ab1];unfold strop at h;split at h
  ·injection h with h;subst h;simp [binOp,Op.stringOp]
  ·injection h with h;subst h;simp [binOp,Op.stringOp]
  ·cases h
 ·rename_i f1 f2 f3;rw [ab8,gD T,ab1];split at h
  ·rename_i ti hg;have ok:=TT.Ok.get hS hg;split at h
   ·rename_i p1 p2 p3 hd;have hu:(underlying t).run P w= .ok (.func p1 p2 p3) w:=by rw [run_underlying ok,hd]
    have he:(Op.equal t (.func f1 f2 f3) .nilFunc).run P w= .ok false w:=by refine B8 fun d=>?_;simp only [Op.equalIn,ab8,hu,ab1,ac5]
    split at h
    ·injection h with h;subst h;simp [binOp,he]
    ·injection h with h;subst h;simp [binOp,he]
    ·cases h
   ·cases h
  ·cases h
 ·rw [ab8,gD T,ab1];split at h
  ·rename_i ti hg;have ok:=TT.Ok.get hS hg;split at h
   ·rename_i p1 p2 p3 hd;have hu:(underlying t).run P w= .ok (.func p1 p2 p3) w:=by rw [run_underlying ok,hd]
    have he:(Op.equal t .nilFunc .nilFunc).run P w= .ok true w:=by refine B8 fun d=>?_;simp only [Op.equalIn,ab8,hu,ab1,ac5]
    split at h
    ·injection h with h;subst h;simp [binOp,he]
    ·injection h with h;subst h;simp [binOp,he]
    ·cases h
   ·cases h
  ·cases h
 ·cases h
theorem a0P{op:UnOp}{a v:Value}(h:unv op a=some v):(Op.unary op a).run P w= .ok v w:=by
 unfold unv at h;split at h
 ·split at h
  ·injection h with h;subst h;simp [Op.unary]
  ·cases h
 ·split at h
  ·injection h with h;subst h;simp [Op.unary,Op.intArith]
  ·injection h with h;subst h;simp [Op.unary,Op.intBits,bitsOf]
  ·cases h
 ·cases h
theorem S6(hS:S.Ok P){s d:TypeId}{a v:Value}(h:OV S s d a=some v):(convert s d a).run P w= .ok v w:=by
 unfold OV at h;split at h
 ·split at h
  ·rename_i n si hs;split at h
   ·rename_i di hd;split at h
    ·rename_i k hk;injection h with h;subst h;have o1:=TT.Ok.get hS hs;have o2:=TT.Ok.get hS hd;simp [convert,run_underlying o1,run_underlying o2,hk,Conv.intToInt]
    ·cases h
   ·cases h
  ·cases h
 ·cases h
theorem D1{t:TypeId}{ti:TI}(ok:TI.Ok P t ti){cs:List Value}{off:Nat}{v:Value}(h:uH ti cs off=some v):(part t ⟨cs⟩ off).run P w= .ok v w:=by
 simp only [uH] at h;simp only [part,ab8,y6 ok,ab1];split at h
 ·rename_i hb;split at h
  ·rename_i r hr;injection h with h;subst h;obtain ⟨h1,h2,h3⟩:=lY cs off ti.size hr;rw [hb];simp only [ab8,run_sizeOf ok,ab1,if_true,ac5];congr 2;have:(Array.extract ⟨cs⟩ off (off+ti.size):Array Value)=⟨r⟩:=by
    apply ag8;rw [Array.toList_extract];apply af0;intro i
    by_cases hi:i<ti.size
    ·rw [h3 i hi];simp [List.extract_eq_take_drop,hi]
    ·have:r[i]? =none:=ac6 (by omega);rw [this];simp only [List.extract_eq_take_drop];rw [ac6];simp;omega
   rw [this]
  ·cases h
 ·rename_i hb;rw [hb];rw [cZ] at h;simp [h]
theorem wD(hS:S.Ok P){t:TypeId}{i off:Nat}{fi:TI}(h:tB S t i=some (off,fi)):
 ∃ti fs f,TI.Ok P t ti/\ti.d= .struct fs/\fs[i]? =some f/\f.offset=off/\TI.Ok P f.type fi:=by
 unfold tB at h;split at h
 ·rename_i ti hg;split at h
  ·rename_i fs hd;split at h
   ·rename_i n1 ty of1 n2 n3 n4 n5 hf;split at h
    ·rename_i fi' hfi;injection h with h;injection h with h1 h2;subst h1;subst h2;refine ⟨ti,fs,⟨n1,ty,of1,n2,n3,n4,n5⟩,TT.Ok.get hS hg,hd,?_,rfl,TT.Ok.get hS hfi⟩;rw [cZ] at hf;rw [<-ad5];exact hf
    ·cases h
   ·cases h
  ·cases h
 ·cases h
theorem NV(hS:S.Ok P){t:TypeId}{i:Nat}{a v:Value}(h:HC S t i a=some v):(Instr.field t a i).run P w= .ok v w:=by
 unfold HC at h;split at h
 ·rename_i cs;split at h
  ·rename_i off fi hf;obtain ⟨ti,fs,f,o1,hd,hfs,hoff,o2⟩:=wD hS hf;simp only [Instr.field,ab8,run_underlying o1,hd,ab1,hfs,asAgg,ac5];subst hoff;exact D1 o2 h
  ·cases h
 ·cases h
theorem eF(b o n:Nat):(⟨b,o,none⟩:Addr).add n=⟨b,o+n,none⟩:=by
 unfold Addr.add;split
 ·subst n;rfl
 ·rfl
theorem DZ(hS:S.Ok P){t:TypeId}{i:Nat}{a v:Value}(h:nT S t i a=some v):(Instr.fieldAt t a i).run P w= .ok v w:=by
 unfold nT at h;split at h
 ·rename_i b o;split at h
  ·rename_i off fi hf;obtain ⟨ti,fs,f,o1,hd,hfs,hoff,o2⟩:=wD hS hf;split at h
   ·cases h
   ·rename_i hz;injection h with h;subst h;have hz:=fL hz;simp only [Instr.fieldAt,ab8,run_underlying o1,hd,ab1,hfs,Instr.sureAddr,ac5,fieldPlace,run_sizeOf o2,iF hz,eF,hoff]
  ·cases h
 ·cases h
theorem mC(hρ: ∀x v,ρ x=some v->σ x=v): ∀{l:List Operand} {vs:List Value},RT ρ l=some vs->l.map σ=vs
 | [],vs,h=>by simp only [RT,Option.some.injEq] at h;subst h;rfl |x::r,vs,h=>by
  simp only [RT] at h;split at h
  ·rename_i v hv;split at h
   ·rename_i vs' hvs;injection h with h;subst h;simp [hρ _ _ hv,mC hρ hvs]
   ·cases h
  ·cases h
theorem FI(off:Nat): ∀(vs:List Value) (j:Nat) (cs:Array Value) {r:List Value},dY cs.toList (off+j) vs=some r->
 (vs.zipIdx j).foldl (fun (cs:Array Value) (x:Value×Nat)=>cs.setIfInBounds (off+x.2) x.1) cs=⟨r⟩
 | [],j,cs,r,h=>by obtain ⟨_,h2,h3⟩:=eM _ _ _ h;simp only [List.zipIdx_nil,List.foldl_nil];apply ag8;apply af0;intro i;rw [h3 i,iF (by simp<;>omega)]
 |v::vs,j,cs,r,h=>by
  obtain ⟨h1,h2,h3⟩:=eM _ _ _ h;simp only [List.zipIdx_cons,ae2];have:dY (cs.setIfInBounds (off+j) v).toList (off+(j+1)) vs=some r:=by
   have ex: ∃r',dY (cs.setIfInBounds (off+j) v).toList (off+(j+1)) vs=some r':=by
    have key: ∀(l:List Value) (k:Nat) (us:List Value),k+us.length<=l.length-> ∃r',dY l k us=some r':=by
     intro l
     induction l with
     |nil=>intro k us hk;simp at hk;obtain ⟨rfl,rfl⟩:=hk;exact ⟨[],by simp [dY]⟩
     |cons c l ih=>
      intro k us hk;cases k with
      |zero=>
       cases us with
       |nil=>exact ⟨c::l,by simp [dY]⟩ |cons u us=>
        obtain ⟨r',hr'⟩:=ih 0 us (by simp at hk;omega);exact ⟨u::r',by simp [dY,hr']⟩
      |succ k=>
       obtain ⟨r',hr'⟩:=ih k us (by simp at hk;omega);exact ⟨c::r',by simp [dY,hr']⟩
    exact key _ _ _ (by simp at h1⊢;omega)
   obtain ⟨r',hr'⟩:=ex;obtain ⟨g1,g2,g3⟩:=eM _ _ _ hr';rw [hr'];congr 1;apply af0;intro i;rw [g3 i,h3 i];simp only [ab7]
   by_cases hi:i=off+j
   ·subst hi;rw [iF (by omega),iT (by omega)];have hsz:cs.toList.length=cs.size:=by simp
    simp only [ab7] at h1;rw [Array.toList_setIfInBounds,am6 (by omega),ak3]
    rfl
   ·by_cases hi2:off+(j+1)<=i/\i<off+(j+1)+vs.length
    ·rw [iT hi2,iT (by omega)];rw [show i-(off+j)=(i-(off+(j+1)))+1 by omega];simp
    ·rw [iF hi2,iF (by omega)];simp [Array.toList_setIfInBounds,ap1 (Ne.symm hi)]
  exact FI off vs (j+1) _ this
theorem xC(hρ: ∀x v,ρ x=some v->σ x=v){place place':Nat->Option (Nat×Nat)}(hp: ∀i y,place i=some y->place' i=some y):
 ∀{parts:List (Nat×Operand)} {cs r:List Value},tT place ρ parts cs=some r->Instr.fill place' ⟨cs⟩ (parts.map fun (i,x)=>(i,σ x))=some ⟨r⟩
 | [],cs,r,h=>by injection h with h;subst h;rfl |(i,x)::rest,cs,r,h=>by
  simp only [tT] at h;split at h
  ·rename_i v hv;split at h
   ·rename_i off size hpl;split at h
    ·rename_i hsz;have hsz:=ac3 hsz;split at h
     ·rename_i cs' hu;have hv':=hρ _ _ hv;obtain ⟨u1,_,_⟩:=eM _ _ _ hu;simp only [af6,Instr.fill,hv',hp _ _ hpl];rw [lQ] at hsz u1 hu;have e1:v.cells.size=size:=by simpa using hsz
      rw [iF (by simp only [e1];simp at u1⊢;omega)];have:=FI off v.cells.toList 0 ⟨cs⟩ (r:=cs') (by simpa using hu);rw [<-Array.foldl_toList,Array.toList_zipIdx];rw [this];exact xC hρ hp h
     ·cases h
    ·cases h
   ·cases h
  ·cases h
theorem run_places(hS:S.Ok P): ∀{l:List Field},rO S l=true->
 ∃ps:List (Nat×Nat),(l.mapM fun f=>(do pure (f.offset,<-sizeOf f.type):Sem (Nat×Nat))).run P w= .ok ps w/\ ∀i,ps[i]? =mF S l i
 | [],_=>⟨[],by simp,fun i=>by simp [mF,cR]⟩ |f::l,h=>by
  simp only [rO] at h;split at h
  ·rename_i fi hfi;obtain ⟨ps,h1,h2⟩:=run_places hS h;refine ⟨(f.offset,fi.size)::ps,by simp only [List.mapM_cons,ab8,run_sizeOf (TT.Ok.get hS hfi),ab1,ac5,h1],fun i=>?_⟩;cases i with
   |zero=>simp [mF,cR,hfi] |succ i=>simp only [af4,h2];rfl
  ·cases h
theorem NU(hS:S.Ok P)(hρ: ∀x v,ρ x=some v->σ x=v){t:TypeId}{parts:Array (Nat×Operand)}{v:Value}(h:BZ S ρ t parts.toList=some v):
 (Instr.build t (parts.map fun (i,x)=>(i,σ x))).run P w= .ok v w:=by
 unfold BZ at h;split at h
 ·rename_i ti hg;have ok:=TT.Ok.get hS hg;obtain ⟨z,hz,hzl⟩:=jV (w:=w) ok;have hzl':z.cells=⟨ti.zero⟩:=by rw [<-hzl]
  split at h
  ·rename_i fs hd;split at h
   ·rename_i hall;split at h
    ·rename_i r hr;injection h with h;subst h;obtain ⟨ps,hps,hpl⟩:=run_places (w:=w) hS hall;have hm:(fs.mapM fun f=>(do pure (f.offset,<-sizeOf f.type):Sem (Nat×Nat))).run P w= .ok ⟨ps⟩ w:=by
      rw [Array.mapM_eq_mapM_toList,Sem.run_map,hps]
      rfl
     have hf:=xC (place':=fun i=>(⟨ps⟩:Array (Nat×Nat))[i]?) hρ (fun i y hy=>by simp only [List.getElem?_toArray];rw [hpl];exact hy) hr;have hf':Instr.fill (fun x=>(⟨ps⟩:Array (Nat×Nat))[x]?) ⟨ti.zero⟩ (parts.map fun (x:Nat×Operand)=>(x.1,σ x.2)).toList=some ⟨r⟩:=by rw [ak7];exact hf
     simp only [Instr.build,ab8,hz,run_underlying ok,hd,ab1,hm,hzl',hf',ac5]
    ·cases h
   ·cases h
  ·rename_i n el hd;split at h
   ·rename_i ei hei;have oke:=TT.Ok.get hS hei;split at h
    ·rename_i r hr;injection h with h;subst h;have hf:=xC (place':=fun i=>some (i*ei.size,ei.size)) hρ (fun i y hy=>hy) hr;have hf':Instr.fill (fun i=>some (i*ei.size,ei.size)) ⟨ti.zero⟩ (parts.map fun (x:Nat×Operand)=>(x.1,σ x.2)).toList=some ⟨r⟩:=by rw [ak7];exact hf
     simp only [Instr.build,ab8,hz,run_underlying ok,hd,run_sizeOf oke,ab1,hzl',hf',ac5]
    ·cases h
   ·cases h
  ·cases h
 ·cases h
theorem H8(hS:S.Ok P){b:Builtin}{ts:Array TypeId}{ty:TypeId}{cn:Array Bool}{vs:List Value}{v:Value}(h:pV S b ts.toList vs=some v):
 (builtin b ts ty cn ⟨vs⟩).run P w= .ok (.value v) w:=by
 unfold pV at h;split at h
 ·split at h
  ·rename_i t hts;have hts:ts= #[t]:=by apply ag8;simpa using hts
   subst hts;split at h
   ·rename_i x;unfold WS at h;split at h
    ·split at h
     ·rename_i ti hg;have ok:=TT.Ok.get hS hg;split at h
      ·rename_i el hd;injection h with h;subst h;simp [builtin,Builtin.len_,run_underlying ok,hd,goInt]
      ·cases h
     ·cases h
    ·split at h
     ·rename_i ti hg;have ok:=TT.Ok.get hS hg;split at h
      ·rename_i hd;injection h with h;subst h;simp [builtin,Builtin.len_,run_underlying ok,hd,goInt]
      ·cases h
     ·cases h
    ·cases h
   ·cases h
  ·cases h
 ·split at h
  ·injection h with h;subst h;simp [builtin,Builtin.max_,Builtin.max2]
  ·cases h
 ·split at h
  ·injection h with h;subst h;simp [builtin,Builtin.min_,Builtin.min2]
  ·cases h
 ·cases h
theorem run_pv(hS:S.Ok P)(hρ: ∀x v,ρ x=some v->σ x=v){o:Oper}{v:Value}(h:pv S ρ o.op=some v):(execOp σ o).run P w= .ok (.value v) w:=by
 unfold execOp;cases hop:o.op<;>rw [hop] at h<;>simp only [pv,reduceCtorEq] at h
 case move x=>simp [hρ _ _ h]
 case assign x=>simp [hρ _ _ h]
 case pick c a b=>
  split at h
  ·rename_i g hg;split at h
   ·rename_i x hx;split at h
    ·rename_i y hy;injection h with h;subst h;simp only [hρ _ _ hg,hρ _ _ hx,hρ _ _ hy,asBool];cases g<;>simp
    ·cases h
   ·cases h
  ·cases h
 case binOp op t x y yt=>
  split at h
  ·rename_i a ha;split at h
   ·rename_i b hb;have:=YC (w:=w) hS (x:=x) (y:=y) h;simp only [hρ _ _ ha,hρ _ _ hb];rw [ab8,this];rfl
   ·cases h
  ·cases h
 case unOp op t x=>
  split at h
  ·rename_i a ha;simp [hρ _ _ ha,a0P h]
  ·cases h
 case convert s d x=>
  split at h
  ·rename_i a ha;simp [hρ _ _ ha,S6 hS h]
  ·cases h
 case field t x i=>
  split at h
  ·rename_i a ha;simp [hρ _ _ ha,NV hS h]
  ·cases h
 case fieldAddr t x i=>
  split at h
  ·rename_i a ha;simp [hρ _ _ ha,DZ hS h]
  ·cases h
 case extract x i=>
  split at h
  ·rename_i vs hvs;rw [cZ] at h;have:vs[i]? =some v:=by rw [<-ad5];exact h
   simp [hρ _ _ hvs,Instr.extract,this]
  ·cases h
 case build t parts=>
  have:=NU (w:=w) hS hρ h;simp only [ab8,this,ab1,ac5]
 case makeFunc fn first cap=>
  split at h
  ·rename_i a ha;split at h
   ·rename_i b hb;injection h with h;subst h;have e1:first.map σ=⟨a⟩:=by apply ag8;rw [ak7];exact mC hρ ha
    have e2:cap.map σ=⟨b⟩:=by apply ag8;rw [ak7];exact mC hρ hb
    simp [Instr.makeFunc,e1,e2]
   ·cases h
  ·cases h
 case nilCheck x=>
  split at h
  ·rename_i a ha;injection h with h;subst h;simp [hρ _ _ ha]
  ·rename_i f a b ha;injection h with h;subst h;simp [hρ _ _ ha]
  ·cases h
 case call c=>
  split at h
  ·rename_i b hb;split at h
   ·rename_i vs hvs;have e1:c.args.map σ=⟨vs⟩:=by apply ag8;rw [ak7];exact mC hρ hvs
    simp [resolve,hb,invoke,e1,H8 hS h]
   ·cases h
  ·cases h
end sound
def XM(e:Env)(ks:List (Nat×Bool))(t:Nat)(x y:Operand):Option Value:=match e.ev ks (.tmp t) with
 |some (.bool g)=>match e.ev (chain e.cs 6 (t,true)++ks) x with
  |some (.bool p)=>match e.ev (chain e.cs 6 (t,false)++ks) y with
   |some (.bool q)=>some (.bool (bif g then p else q)) |_=>none
  |_=>none
 |_=>none
def pve(S:TT)(e:Env)(ks:List (Nat×Bool))(op:Op):Option Value:=match op with
 | .pick (.tmp t) x y=>XM e ks t x y |op=>pv S (e.ev ks) op
theorem Ag.iv{n:Nat}{D:List Nat}{e:Env}{a:Act}{ks:List (Nat×Bool)}(g:Ag n D e a)(hk:eY a ks){t:Nat}{v:Value}(hx:e.ev ks (.tmp t)=some v):a.tmps[t]? =some v:=by
 simp only [Env.ev] at hx;split at hx
 ·rename_i u hu;injection hx with hx;subst hx;exact g.us t _ hu
 ·split at hx
  ·rename_i c u hu;split at hx
   ·rename_i hc;injection hx with hx;subst hx;obtain ⟨gg,b⟩:=c;exact (g.cs t gg b _ hu).1 (hk _ _ (qQ hc))
   ·cases hx
  ·cases hx
theorem uF{a:Act}{k1 k2:List (Nat×Bool)}(h1:eY a k1)(h2:eY a k2):eY a (k1++k2):=fun g b hm=>by
 rcases ad8.1 hm with h|h
 ·exact h1 _ _ h
 ·exact h2 _ _ h
theorem QI{P:Program}{S:TT}{w:World}{n:Nat}{D:List Nat}{e:Env}{a:Act}{ks:List (Nat×Bool)}(hS:S.Ok P)(g:Ag n D e a)(hk:eY a ks){o:Oper}{v:Value}(h:pve S e ks o.op=some v):(execOp a.eval o).run P w= .ok (.value v) w:=by
 unfold pve at h;split at h
 ·rename_i t x y hop;unfold XM at h;split at h
  ·rename_i b hb;split at h
   ·rename_i p hp;split at h
    ·rename_i q hq;injection h with h;subst h;have ht:=g.iv hk hb;unfold execOp;rw [hop];simp only [g.ev hk hb,asBool];cases b with
     |true=>
      have hk':eY a (chain e.cs 6 (t,true)++ks):=uF (g.chain 6 (t,true) ht) hk;simp [g.ev hk' hp]
     |false=>
      have hk':eY a (chain e.cs 6 (t,false)++ks):=uF (g.chain 6 (t,false) ht) hk;simp [g.ev hk' hq]
    ·cases h
   ·cases h
  ·cases h
 ·exact run_pv hS (fun x v hx=>g.ev hk hx) h
variable{C:qJ}{k:List It}{e:Env}{h:GH}{L:List bV}
end Go.Tp
namespace Go.Tp
open Go Go.RowKit
class EntAt (L:List bV) (b:Nat) (x:outParam bV):Prop where
 mem:x∈L
 blk:x.b=b
instance (priority:=low) EntAt.there {y x:bV} {L:List bV} {b:Nat} [i:EntAt L b x]:EntAt (y::L) b x:=⟨ab9 _ i.mem,i.blk⟩
class EntUp (L:List bV) (b:Nat) (x x':bV) (L':outParam (List bV)):Prop where
 split: ∃L1 L2,L=L1++x::L2/\L'=L1++x'::L2
instance (priority:=low) EntUp.there {y x x':bV} {L L':List bV} {b:Nat} [i:EntUp L b x x' L']:EntUp (y::L) b x x' (y::L'):=
 ⟨let ⟨L1,L2,h1,h2⟩:=i.split;⟨y::L1,L2,by rw [h1];rfl,by rw [h2];rfl⟩⟩
def OP(w:World)(b o:Nat)(vs:List Value):Prop:= ∀i v,vs[i]? =some v->w.cell? ⟨b,o+i,none⟩=some v
section
variable{P:Program}{w w0:World}{t:TypeId}{ti:TI}{h:GH}{L:List bV}
theorem rE{b o:Nat}{vs:List Value}(hc:OP w b o vs):(loadCells ⟨b,o,none⟩ vs.length).run P w= .ok ⟨vs⟩ w:=by have:=run_loadCells_list (P:=P) (w:=w) ⟨b,o,none⟩ vs (fun j v hv=>by rw [eF];exact hc j v hv);simpa using this
theorem sO(ok:TI.Ok P t ti)(ha:ti.agg=true){b o:Nat}{vs:List Value}(hc:OP w b o vs)(hl:vs.length=ti.size):
 (Instr.loadAt t (.pointer (some ⟨b,o,none⟩))).run P w= .ok (.agg ⟨vs⟩) w:=by
 simp only [Instr.loadAt,Instr.sureAddr,loadVar,ab8,ac5,ab1,y6 ok,ha,if_true,run_sizeOf ok];rw [<-hl,rE hc];rfl
theorem sP(ok:TI.Ok P t ti)(ha:ti.agg=false){b o:Nat}{v:Value}(hc:w.cell? ⟨b,o,none⟩=some v):
 (Instr.loadAt t (.pointer (some ⟨b,o,none⟩))).run P w= .ok v w:=by
 simp [Instr.loadAt,Instr.sureAddr,loadVar,ab8,y6 ok,ha,hc]
theorem gV: ∀(vs:List Value) (b o i:Nat) (w:World) {L1:List bV} {lo k:Nat} {cs:List Value} {ob:Option Obj},St w0 h (L1++⟨b,lo,cs,ob⟩::L) w->
 o+i=lo+k->k+vs.length<=cs.length->(∀v,v∈vs->gU v=true)-> ∀{r:List Value},dY cs k vs=some r->
 ∃w',(storeCells ⟨b,o,none⟩ vs i).run P w= .ok () w'/\St w0 h (L1++⟨b,lo,r,ob⟩::L) w'
 | [],b,o,i,w,L1,lo,k,cs,ob,s,ho,hk,h1,r,hr=>by
   obtain ⟨_,hl,h3⟩:=eM _ _ _ hr;have:r=cs:=by apply af0;intro j;rw [h3 j,iF (by simp<;>omega)]
   subst this;exact ⟨w,rfl,s⟩
 |v::vs,b,o,i,w,L1,lo,k,cs,ob,s,ho,hk,h1,r,hr=>by
  have hv1:=h1 v (aa5 ..);have hkl:k<cs.length:=by simp at hk;omega
  obtain ⟨u,hu⟩:=getElem?_some_of_lt hkl;have q:=s.own ⟨b,lo,cs,ob⟩ (by simp);have hc:=q.cell k u hu;have hf:=q.warm k hkl;have s1:=s.setCell hkl v hv1;have hr1: ∃r1,dY (cs.set k v) (k+1) vs=some r1:=by
   have key: ∀(l:List Value) (k:Nat) (us:List Value),k+us.length<=l.length-> ∃r',dY l k us=some r':=by
    intro l
    induction l with
    |nil=>intro k us hk;simp at hk;obtain ⟨rfl,rfl⟩:=hk;exact ⟨[],by simp [dY]⟩
    |cons c l ih=>
     intro k us hk;cases k with
     |zero=>
      cases us with
      |nil=>exact ⟨c::l,by simp [dY]⟩ |cons u us=>
       obtain ⟨r',hr'⟩:=ih 0 us (by simp at hk;omega);exact ⟨u::r',by simp [dY,hr']⟩
     |succ k=>
      obtain ⟨r',hr'⟩:=ih k us (by simp at hk;omega);exact ⟨c::r',by simp [dY,hr']⟩
   exact key _ _ _ (by simp at hk⊢;omega)
  obtain ⟨r1,hr1⟩:=hr1;have hrr:r1=r:=by
   obtain ⟨_,g2,g3⟩:=eM _ _ _ hr1;obtain ⟨_,f2,f3⟩:=eM _ _ _ hr;apply af0;intro j;rw [g3 j,f3 j];simp only [ab7]
   by_cases hj:j=k
   ·subst hj;rw [iF (by omega),iT (by omega),am6 hkl,ak3];rfl
   ·by_cases hj2:k+1<=j/\j<k+1+vs.length
    ·rw [iT hj2,iT (by omega),show j-k=(j-(k+1))+1 by omega];simp
    ·rw [iF hj2,iF (by omega),ap1 (Ne.symm hj)]
  subst hrr;obtain ⟨w',hw',s'⟩:=gV vs b o (i+1) _ s1 (by omega) (by simp at hk⊢;omega) (fun x hx=>h1 x (ab9 _ hx)) hr1;refine ⟨w',?_,s'⟩;simp only [storeCells,ab8,eF,ho];rw [run_store P w _ v .plain (by rw [<-PX];exact hv1)];simp only at hc hf;rw [hc];simp only [hf,am7,if_false,ab1];rw [show lo+k=o+i from ho.symm] at hw'⊢;exact hw'
end
variable{C:qJ}{k:List It}{e:Env}{h:GH}{L:List bV}
def hI(n:Nat)(e:Env)(d:Nat):Bool:=match Nat.blt d n with
 |true=>uU e.cs d |false=>false
theorem fY{n d:Nat}{v:Value}(ho:hI n e d=true):e.put n none (some d) v=some ⟨(d,v)::e.us,e.cs⟩:=by
 unfold hI at ho;split at ho
 ·rename_i hlt;simp [Env.put,hlt,ho]
 ·cases ho
theorem V.sure{all:Array Oper}{o:Oper}{l:List Oper}{ks:List (Nat×Bool)}(hg:iU e all o.guard=some ks)
 (hr: ∀a w,Ag C.n C.D e a->St C.w0 h L w->eY a ks->o.wp C.P a w (fun a' w'=> ∃e' h' L',Ag C.n C.D e' a'/\St C.w0 h' L' w'/\V C (.ops all l::k) e' h' L') (fun _ _ _=>False)):
 V C (.ops all (o::l)::k) e h L:=
 V.op fun a w g s=>by obtain ⟨h1,h2⟩:=gP g hg;exact ⟨fun _=>hr a w g s h2,fun hx=>(by rw [h1] at hx;cases hx)⟩
theorem V.gives{all:Array Oper}{o:Oper}{l:List Oper}{ks:List (Nat×Bool)}{d:Nat}(hg:iU e all o.guard=some ks)(hd:o.dst=some d)(hc:hI C.n e d=true)
 (hr: ∀a w,Ag C.n C.D e a->St C.w0 h L w->eY a ks-> ∃v w' h' L',(execOp a.eval o).run C.P w= .ok (.value v) w'/\St C.w0 h' L' w'/\V C (.ops all l::k) ⟨(d,v)::e.us,e.cs⟩ h' L'):
 V C (.ops all (o::l)::k) e h L:=
 V.sure hg fun a w g s hk=>by obtain ⟨v,w',h',L',h1,h2,h3⟩:=hr a w g s hk;unfold Oper.wp;rw [h1];exact ⟨_,h',L',g.put (by rw [hd];exact fY hc),h2,h3⟩
def IW(ti:TI)(x:bV)(o:Nat):Option Value:=match Nat.ble x.lo o with
 |true=>uH ti x.cs (o-x.lo) |false=>none
theorem nF{P:Program}{w0 w:World}{t:TypeId}{ti:TI}(ok:TI.Ok P t ti){x:bV}{o b:Nat}{v:Value}(q:x.held w0 h w)(hb:x.b=b)(hv:IW ti x o=some v):
 (Instr.loadAt t (.pointer (some ⟨b,o,none⟩))).run P w= .ok v w:=by
 subst hb;unfold IW at hv;split at hv
 ·rename_i hle;have hle:x.lo<=o:=ai9 hle;unfold uH at hv;split at hv
  ·rename_i ha;split at hv
   ·rename_i r hr;injection hv with hv;subst hv;obtain ⟨h1,h2,h3⟩:=lY _ _ _ hr;refine sO ok ha (fun i u hu=>?_) h1;have hi:i<r.length:=by
     rcases ae4 i r.length with h|h
     ·exact h
     ·rw [ac6 h] at hu;cases hu
    rw [h3 i (by omega)] at hu;have:=q.cell _ _ hu
    rwa [show x.lo+(o-x.lo+i)=o+i by omega] at this
   ·cases hv
  ·rename_i ha;rw [cZ] at hv;have:=q.cell _ _ hv;rw [show x.lo+(o-x.lo)=o by omega] at this;exact sP ok ha this
 ·cases hv
theorem V.load{all:Array Oper}{o:Oper}{l:List Oper}{m:Option (Nat×Bool)}{ks:List (Nat×Bool)}{t:TypeId}{p:Operand}{b off:Nat}{ti:TI}{x:bV}{v:Value}{e':Env}
 (hg:oT e all o.guard=some (m,ks)) (ho:o.op= .load t p) (hp:e.ev ks p=some (.pointer (some ⟨b,off,none⟩))) (ht:C.S.get t=some ti) [i:EntAt L b x]
 (hv:IW ti x off=some v) (hput:e.put C.n m o.dst v=some e') (next:V C (.ops all l::k) e' h L):V C (.ops all (o::l)::k) e h L:=
 V.value hg (fun a w g s hk=>by have:=nF (TT.Ok.get C.ok ht) (s.own x i.mem) i.blk hv;unfold execOp;rw [ho];simp only [g.ev hk hp,ab8,this,ab1,ac5]) hput next
def rH(h:GH)(b off:Nat)(vs:List Value):Prop:= ∀i v,vs[i]? =some v->h b (off+i)=some v
theorem rH.mono{h h':GH}{b off:Nat}{vs:List Value}(hl:h.le h')(x:rH h b off vs):rH h' b off vs:=fun i v hv=>hl _ _ _ (x i v hv)
def N4(ti:TI)(x:bV)(o:Nat)(v:Value):Option bV:=match Nat.beq (aM v).length ti.size with
 |true=>match x with
  |⟨b,lo,xs,ob⟩=>match Nat.ble lo o with
   |true=>match aW (aM v) with
    |true=>match dY xs (o-lo) (aM v) with
     |some cs=>some ⟨b,lo,cs,ob⟩ |none=>none
    |false=>none
   |false=>none
 |false=>none
theorem QJ{P:Program}{w0 w:World}{t:TypeId}{ti:TI}(ok:TI.Ok P t ti){x x':bV}{L1:List bV}{o b:Nat}{v:Value}(s:St w0 h (L1++x::L) w)(hb:x.b=b)(hv:N4 ti x o v=some x'):
 ∃w',(Instr.storeAt t (.pointer (some ⟨b,o,none⟩)) v).run P w= .ok () w'/\St w0 h (L1++x'::L) w':=by
 subst hb;obtain ⟨xb,xlo,xs,xob⟩:=x;unfold N4 at hv;simp only at hv;split at hv
 ·rename_i hsz;have hsz:=ac3 hsz;split at hv
  ·rename_i hle;have hle:xlo<=o:=ai9 hle;split at hv
   ·rename_i hone;split at hv
    ·rename_i cs hcs;injection hv with hv;subst hv;obtain ⟨u1,_,_⟩:=eM _ _ _ hcs;obtain ⟨w',h1,h2⟩:=gV (P:=P) (aM v) xb o 0 w (L1:=L1) (lo:=xlo) (k:=o-xlo) (cs:=xs) (ob:=xob) s (by omega) u1 (dP hone) hcs;refine ⟨w',?_,h2⟩;have hsz':v.cells.size=ti.size:=by rw [<-hsz,lQ];simp
     simp only [Instr.storeAt,Instr.sureAddr,ab8,ac5,ab1,storeVar,run_sizeOf ok,hsz',ne_eq,not_true,if_false];rw [<-lQ];exact h1
    ·cases hv
   ·cases hv
  ·cases hv
 ·cases hv
theorem V.store{all:Array Oper}{o:Oper}{l:List Oper}{ks:List (Nat×Bool)}{t:TypeId}{p y:Operand}{b off:Nat}{ti:TI}{x x':bV}{v:Value}{L':List bV}
 (hg:iU e all o.guard=some ks) (ho:o.op= .store t p y) (hp:e.ev ks p=some (.pointer (some ⟨b,off,none⟩))) (hy:e.ev ks y=some v) (ht:C.S.get t=some ti) [i:EntAt L b x]
 (hv:N4 ti x off v=some x') [j:EntUp L b x x' L'] (hd:o.dst=none) (next:V C (.ops all l::k) e h L'):V C (.ops all (o::l)::k) e h L:=
 V.sure hg fun a w g s hk=>by obtain ⟨L1,L2,h1,h2⟩:=j.split;subst h1;subst h2;obtain ⟨w',h3,h4⟩:=QJ (P:=C.P) (TT.Ok.get C.ok ht) s i.blk hv;unfold Oper.wp execOp;rw [ho];simp only [g.ev hk hp,g.ev hk hy,ab8,h3,ab1,ac5];exact ⟨e,h,_,by rw [hd];exact g,h4,next⟩
theorem V.alloc{all:Array Oper}{o:Oper}{l:List Oper}{ks:List (Nat×Bool)}{t:TypeId}{ti:TI}{d:Nat}
 (hg:iU e all o.guard=some ks) (ho:o.op= .alloc t) (ht:C.S.get t=some ti) (h1:aW ti.zero=true) (hd:o.dst=some d) (hc:hI C.n e d=true)
 (next: ∀b,V C (.ops all l::k) ⟨(d, .pointer (some ⟨b,0,none⟩))::e.us,e.cs⟩ h (⟨b,0,ti.zero,none⟩::L)):V C (.ops all (o::l)::k) e h L:=
 V.gives hg hd hc fun a w g s hk=>by obtain ⟨z,hz,hzl⟩:=jV (w:=w) (TT.Ok.get C.ok ht);have s':=s.alloc z.cells t (by rw [hzl];exact h1);rw [hzl] at s';refine ⟨_,_,h,_,?_,s',next _⟩;unfold execOp;rw [ho];simp [Instr.alloc,hz,newVar,newRow]
def UW:Value->Option (List Value)
 | .agg ⟨l⟩=>match aW l with
   |true=>some l |false=>none
 |v=>match gU v with
  |true=>some [v] |false=>none
theorem RE{v:Value}{cs:List Value}(h:UW v=some cs):aM v=cs/\aW (aM v)=true:=by
 unfold UW at h;split at h
 ·split at h
  ·rename_i ho;injection h with h;subst h;exact ⟨rfl,ho⟩
  ·cases h
 ·rename_i hna;split at h
  ·rename_i ho;injection h with h;subst h;have:aM v=[v]:=by cases v<;>first|rfl|(rename_i c;exact (hna c.toList T).elim)
   rw [this];exact ⟨rfl,by simp only [aW,ho]⟩
  ·cases h
theorem V.box{all:Array Oper}{o:Oper}{l:List Oper}{ks:List (Nat×Bool)}{t:TypeId}{y:Operand}{v:Value}{d:Nat}{cs:List Value}
 (hg:iU e all o.guard=some ks) (ho:o.op= .box t y) (hy:e.ev ks y=some v) (hb:UW v=some cs) (hd:o.dst=some d) (hc:hI C.n e d=true)
 (next: ∀b,V C (.ops all l::k) ⟨(d, .pointer (some ⟨b,0,none⟩))::e.us,e.cs⟩ h (⟨b,0,cs,none⟩::L)):V C (.ops all (o::l)::k) e h L:=
 V.gives hg hd hc fun a w g s hk=>by obtain ⟨hcs,h1⟩:=RE hb;subst hcs;have s':=s.alloc v.cells t (by rw [<-lQ];exact h1);rw [<-lQ] at s';refine ⟨_,_,h,_,?_,s',next _⟩;unfold execOp;rw [ho];simp [Instr.box,newVar,newRow,g.ev hk hy]
def vQ(P:Program)(w0:World)(f:FuncId)(args:List Value)(h:GH)(L:List bV)(R:Value->GH->List bV->Prop):Prop:=
 (∃g c,P.funcs[f]? =some g/\g.body=some c/\(g.name== "runtime.NumGoroutine")=false)/\
 ∀w,St w0 h L w->Calls P f ⟨args⟩ w fun x w'=> ∃v h' L',x= .returned v/\R v h' L'/\St w0 h' L' w'
theorem vQ.mono{P:Program}{w0:World}{f:FuncId}{args:List Value}{R R':Value->GH->List bV->Prop}(hf:vQ P w0 f args h L R)(hr: ∀v h' L',R v h' L'->R' v h' L'):vQ P w0 f args h L R':=
 ⟨hf.1,fun w s=>(hf.2 w s).mono fun _ _ ⟨v,h',L',e1,e2,e3⟩=>⟨v,h',L',e1,hr _ _ _ e2,e3⟩⟩
def uB:Nat->List Value->Us
 |_,[]=>[] |i,v::r=>(i,v)::uB (i+1) r
theorem uZ: ∀(l:List Value) (i t:Nat) {v:Value},look (uB i l) t=some v->i<=t/\l[t-i]? =some v
 | [],_,_,_,h=>by cases h |x::r,i,t,v,h=>by
  simp only [uB,look] at h;split at h
  ·rename_i hk;have hk:=ac3 hk;subst hk;injection h with h;subst h;simp
  ·rename_i hk;have hk:=fL hk;obtain ⟨h1,h2⟩:=uZ r (i+1) t h;refine ⟨by omega,?_⟩;rw [show t-i=(t-(i+1))+1 by omega];simpa using h2
theorem vQ.jt{args:List Value}{c:Code}(C:qJ)(hrd:C.rd=none)(hD:C.D=[])(hb:C.fn.body=some c)(hnm:(C.fn.name== "runtime.NumGoroutine")=false)(hn:C.fn.ntmps=C.n)(hl:Nat.ble args.length C.n=true)
 (hv:V C [.code c] ⟨uB 0 args,[]⟩ h L):vQ C.P C.w0 C.f args h L C.R:=by
 refine ⟨⟨_,c,C.hfn,hb,hnm⟩,fun w s cs=>?_⟩;have hle:args.length<=C.n:=ai9 hl
 let b:Frame:={(default:Frame) with fn:=C.f,kind:= .normal}
 let a:Act:={tmps:=(⟨args⟩:Array Value)++ag1 (C.fn.ntmps-(⟨args⟩:Array Value).size) undef,defers:=[]}
 have ha:Ag C.n C.D ⟨uB 0 args,[]⟩ a:=by
  refine ⟨by simp [a,hn];omega,by rw [hD];rfl,fun t v hv=>?_,fun _ _ _ _ h=>by cases h⟩;obtain ⟨_,h2⟩:=uZ args 0 t hv;simp only [Nat.sub_zero] at h2;have ht:t<args.length:=by
   rcases ae4 t args.length with h|h
   ·exact h
   ·rw [ac6 h] at h2;cases h2
  simp only [a];rw [Array.getElem?_append_left (by simpa using ht)];simpa using h2
 have henter:Frame.enter C.P C.f ⟨args⟩ .normal=b.atR a [.code c]:=by simp [Frame.enter,Frame.atR,C.hfn,hb,b,a,show (default:Frame).roundOf=none from rfl]
 obtain ⟨v,w',m,h',L',r,s',st,ou,_⟩:=hv (eJ (fun _ hx=>by cases hx)) a w b cs ha s rfl ⟨rfl,hrd.symm,fun x=>(x hrd).elim⟩;unfold qJ.Out at ou;rw [hrd] at ou;obtain ⟨fr,rfl,e1,e2⟩:=ou;refine ⟨.returned v,w',fr,⟨v,h',L',rfl,r,s'⟩,?_,e1,e2⟩;show Steps C.P _ _;rw [henter];exact st
theorem V.call{all:Array Oper}{o:Oper}{l:List Oper}{ks:List (Nat×Bool)}{x:Operand}{args:Array Operand}{ts:Array TypeId}{f:FuncId}{fst cap:Array Value}{vs:List Value}{R':Value->GH->List bV->Prop}{d:Nat}
 (hg:iU e all o.guard=some ks) (ho:o.op= .call ⟨.value x,args,ts⟩) (hx:e.ev ks x=some (.func (.func f) fst cap)) (ha:RT (e.ev ks) args.toList=some vs)
 (hd:o.dst=some d) (hc:hI C.n e d=true) (hf:vQ C.P C.w0 f (fst.toList++(vs++cap.toList)) h L R')
 (next: ∀v h' L',R' v h' L'->V C (.ops all l::k) ⟨(d,v)::e.us,e.cs⟩ h' L'):V C (.ops all (o::l)::k) e h L:=
 V.sure hg fun a w g s hk=>by
  obtain ⟨⟨gg,c,h1,h2,h3⟩,hcalls⟩:=hf;have e1:args.map a.eval=⟨vs⟩:=by apply ag8;rw [ak7];exact mC (fun x v hx=>g.ev hk hx) ha
  have e2:fst++(⟨vs⟩:Array Value)++cap=⟨fst.toList++(vs++cap.toList)⟩:=by apply ag8;simp
  unfold Oper.wp execOp;rw [ho];have hcf:(callFunc f (fst++(⟨vs⟩:Array Value)++cap)).run C.P w= .ok (.enter f ⟨fst.toList++(vs++cap.toList)⟩) w:=by simp only [callFunc,ab8,run_program,ab1,h1,h3,am7,if_false,h2,aq8,ac5,e2]
  simp only [resolve,e1,g.ev hk hx,Deferred.ofValue,ab8,ac5,ab1,invoke];rw [hcf];refine (hcalls w s).mono fun x w' ⟨v,h',L',e1,e2,e3⟩=>?_;subst e1;exact ⟨_,h',L',g.put (by rw [hd];exact fY hc),e3,next v h' L' e2⟩
theorem TI.jm{P:Program}{t:TypeId}{d:TypeDesc}{sz bt:Nat}{zs:List Value}{ag:Bool}(hu:P.underlying t=some d)
 (hi:(P.info? t).map (fun i=>(i.zero.map fun z=>z.cells.toList,i.size,i.bytes))=some (some zs,sz,bt)) (ha:MV d=ag) (hl:Nat.beq zs.length sz=true):TI.Ok P t ⟨d,sz,bt,zs,ag⟩:=by
 refine ⟨hu,?_,ha,ac3 hl⟩;cases hx:P.info? t with
 |none=>rw [hx] at hi;cases hi |some x=>
  rw [hx] at hi;simp only [af8,Option.some.injEq,Prod.mk.injEq] at hi;obtain ⟨h1,h2,h3⟩:=hi;cases hz:x.zero with
  |none=>rw [hz] at h1;cases h1 |some z=>
   rw [hz] at h1;simp only [af8,Option.some.injEq] at h1;exact ⟨x,z,rfl,h2,h3,hz,h1⟩
def atEnd:List It->Bool
 | []=>true | .code .ret::_=>true
 |_=>false
theorem pT(hk:atEnd k=true):k= .code .ret::k.tail\/k=[]:=by
 unfold atEnd at hk;split at hk
 ·exact .inr T
 ·exact .inl T
 ·cases hk
theorem V.bp(hk:atEnd k=true)(hrd:C.rd=none){L0 F0:List bV}(hL:L=L0++(pX C.D++F0))(hr:C.fn.results= #[])(hR:C.R (.tuple #[]) h (L0++F0)):V C k e h L:=
 V.ret (pT hk) hrd hL (fun a w g s=>by simp [results,hr]) hR
theorem V.au{t:Nat}{v:Value}(hk:atEnd k=true)(hrd:C.rd=none){L0 F0:List bV}(hL:L=L0++(pX C.D++F0))(hr:C.fn.results= #[.tmp t])(hl:look e.us t=some v)(hR:C.R v h (L0++F0)):V C k e h L:=
 V.ret (pT hk) hrd hL (fun a w g s=>by rw [results_tmp hr,Act.de (g.us _ _ hl)]) hR
theorem V.iy{t u:Nat}{v x:Value}(hk:atEnd k=true)(hrd:C.rd=none){L0 F0:List bV}(hL:L=L0++(pX C.D++F0))(hr:C.fn.results= #[.tmp t, .tmp u])(hl:look e.us t=some v)(hl':look e.us u=some x)(hR:C.R (.tuple #[v,x]) h (L0++F0)):V C k e h L:=
 V.ret (pT hk) hrd hL (fun a w g s=>by rw [results_tmp2 hr,Act.de (g.us _ _ hl),Act.de (g.us _ _ hl')]) hR
theorem V.dn{t u r:Nat}{v x y:Value}(hk:atEnd k=true)(hrd:C.rd=none){L0 F0:List bV}(hL:L=L0++(pX C.D++F0))(hr:C.fn.results= #[.tmp t, .tmp u, .tmp r])(hl:look e.us t=some v)(hl':look e.us u=some x)(hl'':look e.us r=some y)
 (hR:C.R (.tuple #[v,x,y]) h (L0++F0)):V C k e h L:=
 V.ret (pT hk) hrd hL (fun a w g s=>by simp [results,hr,g.us _ _ hl,g.us _ _ hl',g.us _ _ hl'']) hR
theorem V.iz{p:Nat}{t:TypeId}{b off:Nat}{ti:TI}{x:bV}{v:Value}(hk:atEnd k=true)(hrd:C.rd=none){L0 F0:List bV}(hL:L=L0++(pX C.D++F0))(hr:C.fn.results= #[.cell p t])(hl:look e.us p=some (.pointer (some ⟨b,off,none⟩)))(ht:C.S.get t=some ti)
 [i:EntAt (L0++F0) b x] (hv:IW ti x off=some v) (hR:C.R v h (L0++F0)):V C k e h L:=
 V.ret (pT hk) hrd hL (fun a w g s=>by
  have h1:=nF (P:=C.P) (TT.Ok.get C.ok ht) (s.own x i.mem) i.blk hv;have h2:=g.us _ _ hl;have h1':(loadVar t ⟨b,off,none⟩).run C.P w= .ok v w:=by simpa [Instr.loadAt,Instr.sureAddr] using h1
  simp [results,hr,h2,h1',asAddr]) hR
end Go.Tp
namespace Go.Tp
open Go Go.RowKit
theorem iI(z:List Value)(hz:z≠[]): ∀n,((Array.range (n*z.length)).map fun i=>z.toArray[i % z.toArray.size]!)=⟨(List.replicate n z).flatten⟩:=by
 intro n;apply ag8;simp only [ak7,Array.toList_range]
 induction n with
 |zero=>simp |succ n ih=>
  rw [Nat.succ_mul,List.range_add,List.map_append,ih,List.replicate_succ',List.flatten_append];congr 1;simp only [List.map_map,List.flatten_cons,List.flatten_nil,List.append_nil];apply af0;intro i
  by_cases hi:i<z.length
  ·have e:(n*z.length+i) % z.length=i:=by rw [Nat.mul_comm,Nat.mul_add_mod,Nat.mod_eq_of_lt hi]
   simp [hi,e]
  ·rw [ac6 (by simpa using hi),ac6 (by omega)]
def Sl(h:GH)(sz:Nat)(v:Value)(cs:List Value):Prop:=
 ∃a n c,v= .slice a n c/\n<=c/\cs.length=n*sz/\(0<n-> ∃b o,a=some ⟨b,o,none⟩/\rH h b o cs)
theorem Sl.mono{h h':GH}(hl:h.le h'){sz:Nat}{v:Value}{cs:List Value}(x:Sl h sz v cs):Sl h' sz v cs:=by obtain ⟨a,n,c,x1,x2,x3,x4⟩:=x;exact ⟨a,n,c,x1,x2,x3,fun hn=>let ⟨b,o,y1,y2⟩:=x4 hn;⟨b,o,y1,y2.mono hl⟩⟩
def Tl(sz:Nat)(v:Value)(x:bV):Prop:=
 x.obj=none/\ ∃a n c,v= .slice a n c/\((a=none/\n=0/\c=0/\x.cs=[])\/ ∃b o,a=some ⟨b,o,none⟩/\n<=c/\x.b=b/\x.lo=o+n*sz/\x.cs.length=(c-n)*sz)
theorem Tl.nil(sz:Nat):Tl sz (.slice none 0 0) ⟨0,0,[],none⟩:=⟨rfl,none,0,0,rfl, .inl ⟨rfl,rfl,rfl,rfl⟩⟩
theorem nK(z:List Value)(n:Nat)(hz:z≠[]):Builtin.zeroCells ⟨z⟩ n=⟨(List.replicate n z).flatten⟩:=by have:=iI z hz n;simpa [Builtin.zeroCells] using this
theorem jP{l r:List Value}(h1: ∀v,v∈l->gU v=true)(h2: ∀v,v∈r->gU v=true): ∀v,v∈l++r->gU v=true:=fun v hv=>by
 rcases ad8.1 hv with h|h
 ·exact h1 v h
 ·exact h2 v h
theorem Sl.one{w0 w:World}{h:GH}{L:List bV}{sz:Nat}{v:Value}{cs:List Value}(s:St w0 h L w)(hsz:0<sz)(x:Sl h sz v cs): ∀u,u∈cs->gU u=true:=by
 obtain ⟨a,n,c,rfl,x2,x3,x4⟩:=x;intro u hu;have hn:0<n:=by
  rcases ah3 n with e|e
  ·subst e;have:cs=[]:=ad2.1 (by simpa using x3);subst this;cases hu
  ·exact e
 obtain ⟨b,o,_,y⟩:=x4 hn;obtain ⟨i,hi⟩:=List.getElem?_of_mem hu;exact s.imm1 _ _ _ (y i u hi)
theorem BK: ∀(l:List Value) (us:List Value),us.length<=l.length-> ∃r',dY l 0 us=some r'
 | [],us,hk=>by have:us=[]:=ad2.1 (by simpa using hk);subst this;exact ⟨[],rfl⟩ |c::l,[],_=>⟨c::l,rfl⟩
 |c::l,u::us,hk=>by obtain ⟨r',hr'⟩:=BK l us (by simp at hk;omega);exact ⟨u::r',by simp [dY,hr']⟩
theorem QT{w0 w:World}{h:GH}{L:List bV}{x:bV}{sz:Nat}{zs:List Value}{el:TypeId}{nc need:Nat}{cs:List Value}(s:St w0 h (x::L) w)(h1: ∀v,v∈cs->gU v=true)(hz1:aW zs=true)(hzl:zs.length=sz)
 (hlen:cs.length=need*sz) (hnc:need<=nc) {arr:Array Value} (harr:arr=⟨cs++(List.replicate (nc-need) zs).flatten⟩):
 ∃h' x',h.le h'/\Sl h' sz (.slice (some ⟨w.heap.size,0,none⟩) need nc) cs/\Tl sz (.slice (some ⟨w.heap.size,0,none⟩) need nc) x'/\St w0 h' (x'::L) (w.drew.alloc (.cells arr el)):=by
 have honer: ∀v,v∈(List.replicate (nc-need) zs).flatten->gU v=true:=fun v hv=>by obtain ⟨l,hl,hvl⟩:=List.mem_flatten.1 hv;have:=(List.mem_replicate.1 hl).2;subst this;exact dP hz1 v hvl
 have hone:aW arr.toList=true:=by rw [harr];exact lM (jP h1 honer)
 have s1:St w0 h (x::L) w.drew:=s.drew;have s3:=s1.tail.alloc arr el hone;rw [harr] at s3⊢;have s4:=St.part s3;have s5:=s4.bc;refine ⟨_,_,s4.bz,⟨_,_,_,rfl,hnc,hlen,fun _=>⟨_,0,rfl,fun i v hv=>GH.cr h _ 0 cs hv⟩⟩,⟨rfl,_,_,_,rfl, .inr ⟨_,0,rfl,hnc,rfl,?_,?_⟩⟩,s5⟩
 ·simp only [ag9,hlen]
 ·simp only [List.length_flatten,List.map_replicate,List.sum_replicate_nat,hzl]
theorem DW{P:Program}{S:TT}(hS:S.Ok P){w0 w:World}{h:GH}{L:List bV}{x:bV}{t el ty:TypeId}{ti ei:TI}{v1 v2:Value}{c1 c2:List Value}
 (ht:S.get t=some ti) (hd:ti.d= .slice el) (he:S.get el=some ei) (hsz:0<ei.size) (hz1:aW ei.zero=true) (hby:ei.bytes<=4096)
 (s:St w0 h (x::L) w) (a1:Sl h ei.size v1 c1) (tl:Tl ei.size v1 x) (a2:Sl h ei.size v2 c2) (hb:c1.length+c2.length<=1073741824):
 ∃v' w' h' x',(Builtin.append_ #[t,t] ty #[v1,v2]).run P w= .ok v' w'/\h.le h'/\Sl h' ei.size v' (c1++c2)/\Tl ei.size v' x'/\St w0 h' (x'::L) w':=by
 have ok:=TT.Ok.get hS ht;have oke:=TT.Ok.get hS he;obtain ⟨xi,zv,hxi,hxs,hxb,hxz,hzl⟩:=oke.info;have hund:P.underlying t=some (.slice el):=by rw [ok.und,hd]
 have one2:=Sl.one s hsz a2;have NF:=Sl.one s hsz a1;have a1':=a1;have tl':=tl;obtain ⟨a,n1,cap,e1,hle,hn1,hat⟩:=a1;obtain ⟨b2,n2,cap2,e2,hle2,hn2,hat2⟩:=a2;obtain ⟨hobj,ta,tn,tc,e3,fN⟩:=tl;subst e1;subst e2;injection e3 with e3 e4 e5;subst e3;subst e4;subst e5;have hl1:n1<=c1.length:=by rw [hn1];exact ah9 _ hsz
 have hl2:n2<=c2.length:=by rw [hn2];exact ah9 _ hsz
 have hz:Builtin.zeroCells zv.cells=fun n=>⟨(List.replicate n ei.zero).flatten⟩:=by funext n;rw [show zv.cells=⟨ei.zero⟩ from by rw [<-hzl]];refine nK _ _ ?_;intro e;have:=oke.len;rw [e] at this;simp at this;omega
 have hlen:(c1++c2).length=(n1+n2)*ei.size:=by rw [aa1,hn1,hn2,ak0]
 rcases ah3 n2 with h20|h2p
 · --nothing to lay
   subst h20;have hc2:c2=[]:=ad2.1 (by simpa using hn2);subst hc2;refine ⟨.slice a n1 cap,w,h,x,?_,GH.le_refl _,by simpa using a1',tl',s⟩;have hf: ∀w':World,(Builtin.firstCells xi.size 0 (.slice b2 0 cap2)).run P w'= .ok #[] w':=fun w'=>by cases b2<;>simp [Builtin.firstCells,loadCells,loadCellsFrom]
   cases a with
   |none=>simp [Builtin.append_,Go.run_underlying hund,sizeOf,typeInfo,hxi,Builtin.lenOf,hle,hf] |some a=>simp [Builtin.append_,Go.run_underlying hund,sizeOf,typeInfo,hxi,Builtin.lenOf,hle,hf,storeCells]
 ·obtain ⟨b,o2,rfl,y2⟩:=hat2 h2p;have hnews: ∀j u,c2[j]? =some u->w.cell? ((⟨b,o2,none⟩:Addr).add j)=some u:=fun j u hu=>by rw [eF];exact s.imm _ _ _ (y2 j u hu)
  have h63:((n1+n2:Nat):Int)<=9223372036854775807:=by omega
  have hfits: ∀old,old<n1+n2->Builtin.nextslicecap (n1+n2) old*xi.bytes<=281474976710656:=fun old ho=>growslice_fits ho (by
   rw [hxb];have:(n1+n2)*ei.bytes<=1073741824*4096:=al2 (by omega) hby
   omega)
  rcases fN with ⟨rfl,h0,h1,h2⟩|⟨bb,o,rfl,h0,h1,h2,h3⟩
  · --from nothing
    subst h0;subst h1;have hc1:c1=[]:=ad2.1 (by simpa using hn1);subst hc1;have hr:=run_append_nil (P:=P) w t ty el xi zv hund hxi hxz ⟨b,o2,none⟩ n2 cap2 c2 (by rw [hxs];exact hn2) hnews h2p (by omega) (by
     rw [hxb];have:n2*ei.bytes<=1073741824*4096:=al2 (by omega) hby
     omega)
    obtain ⟨h',x',g1,g2,g3,g4⟩:=QT (w:=w) (el:=el) (nc:=grownCap w n2 0 el) (need:=n2) s one2 hz1 oke.len hn2 (grownCap_ge ..) (arr:=c2.toArray++Builtin.zeroCells zv.cells (grownCap w n2 0 el-n2)) (by rw [hz];apply ag8;simp);exact ⟨_,_,h',x',hr,g1,by simpa using g2,g3,g4⟩
  ·by_cases hcap:n1+n2<=cap
   ·obtain ⟨bx,lox,csx,obx⟩:=x;simp only at hobj h1 h2 h3;subst hobj;subst h1;subst h2;obtain ⟨r,hr⟩:=BK csx c2 (by rw [h3,hn2];exact Nat.mul_le_mul_right _ (by omega));obtain ⟨u1,u2,u3⟩:=eM _ _ _ hr;obtain ⟨w',hw',s'⟩:=gV (P:=P) c2 bx (o+n1*ei.size) 0 w (L1:=[]) s rfl (by simpa using u1) one2 hr;have hre:r=c2++csx.drop c2.length:=by
     apply af0;intro i;rw [u3 i]
     by_cases hi:i<c2.length
     ·rw [iT (by omega),ae6 hi];rfl
     ·rw [iF (by omega),ae7 (by omega),al0];congr 1;omega
    subst hre;have s2:=St.part s';have s3:=s2.bc;have hle':=s2.bz;have hf:=run_firstCells_some (P:=P) w ei.size n2 ⟨b,o2,none⟩ n2 cap2 c2 hn2 hnews;refine ⟨.slice (some ⟨bx,o,none⟩) (n1+n2) cap,w',_,_,?_,hle',?_,?_,s3⟩
    ·simp [Builtin.append_,Go.run_underlying hund,sizeOf,typeInfo,hxi,Builtin.lenOf,hcap,hxs,hf,eF,hw']
    ·refine ⟨_,_,_,rfl,hcap,hlen,fun hpos=>⟨bx,o,rfl,fun i u hu=>?_⟩⟩
     by_cases hi:i<c1.length
     ·rw [ae6 hi] at hu;have hp:0<n1:=by
       rcases ah3 n1 with e|e
       ·subst e;simp at hn1;subst hn1;simp at hi
       ·exact e
      obtain ⟨b',o',e,y⟩:=hat hp;injection e with e;injection e with e1 e2;subst e1;subst e2;exact hle' _ _ _ (y i u hu)
     ·rw [ae7 (by omega)] at hu;have:=GH.cr h bx (o+n1*ei.size) c2 hu
      rwa [show o+n1*ei.size+(i-c1.length)=o+i by rw [<-hn1];omega] at this
    ·refine ⟨rfl,_,_,_,rfl, .inr ⟨bx,o,rfl,hcap,rfl,?_,?_⟩⟩
     ·simp only [hn2,ak0];omega
     ·simp only [ad7,h3,hn2];rw [<-Nat.sub_mul];congr 1;omega
   ·have hlt:cap<n1+n2:=by omega
    have holds: ∀j u,c1[j]? =some u->w.cell? ((⟨bb,o,none⟩:Addr).add j)=some u:=fun j u hu=>by
     have hp:0<n1:=by
      rcases ah3 n1 with e|e
      ·subst e;simp at hn1;subst hn1;simp at hu
      ·exact e
     obtain ⟨b',o',e,y⟩:=hat hp;injection e with e;injection e with e1 e2;subst e1;subst e2;rw [eF];exact s.imm _ _ _ (y j u hu)
    have hr:=run_append_grow (P:=P) w t ty el xi zv hund hxi hxz ⟨bb,o,none⟩ n1 cap c1 (by rw [hxs];exact hn1) holds ⟨b,o2,none⟩ n2 cap2 c2 (by rw [hxs];exact hn2) hnews hlt h63 (hfits cap hlt)
    obtain ⟨h',x',g1,g2,g3,g4⟩:=QT (w:=w) (el:=el) (nc:=grownCap w (n1+n2) cap el) (need:=n1+n2) s (jP NF one2) hz1 oke.len hlen (grownCap_ge ..)
     (arr:=c1.toArray++c2.toArray++Builtin.zeroCells zv.cells (grownCap w (n1+n2) cap el-(n1+n2))) (by rw [hz];apply ag8;simp)
    exact ⟨_,_,h',x',hr,g1,g2,g3,g4⟩
theorem LM: ∀(l:List Value) (k:Nat) (us:List Value),k+us.length<=l.length-> ∃r',dY l k us=some r'
 | [],k,us,hk=>by
   have h1:k=0:=by simp at hk;exact hk.1
   have h2:us=[]:=by simp at hk;exact hk.2
   subst h1;subst h2;exact ⟨[],by simp [dY]⟩
 |c::l,0,us,hk=>BK (c::l) us (by omega) |c::l,k+1,us,hk=>by obtain ⟨r',hr'⟩:=LM l k us (by simp at hk;omega);exact ⟨c::r',by simp [dY,hr']⟩
def CpAt(v1 v2:Value)(x:bV)(n k1 k2:Nat):Prop:=
 x.obj=none/\ ∃o1 n1 c1 o2 n2 c2,v1= .slice (some ⟨x.b,o1,none⟩) n1 c1/\v2= .slice (some ⟨x.b,o2,none⟩) n2 c2/\o1=x.lo+k1/\o2=x.lo+k2/\n=av5 n2 n1
def CpPre(sz:Nat)(v1 v2:Value)(x:bV):Prop:= ∃n k1 k2,CpAt v1 v2 x n k1 k2/\k1+n*sz<=x.cs.length/\k2+n*sz<=x.cs.length
def CpY(sz:Nat)(v1 v2:Value)(x:bV)(v:Value)(x':bV):Prop:=
 ∃n k1 k2 r,CpAt v1 v2 x n k1 k2/\v= .int .i64 (n:Nat)/\dY x.cs k1 ((x.cs.drop k2).take (n*sz))=some r/\x'=⟨x.b,x.lo,r,none⟩
theorem YD{P:Program}{S:TT}(hS:S.Ok P){w0 w:World}{h:GH}{L:List bV}{b lo:Nat}{xs:List Value}{t t2 el ty:TypeId}{ti ei:TI}{o1 n1 c1 n2 k:Nat}{v2:Value}{cs r:List Value}
 (ht:S.get t=some ti) (hd:ti.d= .slice el) (he:S.get el=some ei) (s:St w0 h (⟨b,lo,xs,none⟩::L) w) (ho:o1=lo+k) (hlen:Builtin.lenOf v2=pure n2)
 (hcs:(Builtin.firstCells ei.size (av5 n2 n1) v2).run P w= .ok ⟨cs⟩ w) (one: ∀u,u∈cs->gU u=true) (hr:dY xs k cs=some r):
 ∃w',(Builtin.copy_ #[t,t2] ty #[.slice (some ⟨b,o1,none⟩) n1 c1,v2]).run P w= .ok (.int .i64 (av5 n2 n1:Nat)) w'/\St w0 h (⟨b,lo,r,none⟩::L) w':=by
 have ok:=TT.Ok.get hS ht;have hund:P.underlying t=some (.slice el):=by rw [ok.und,hd]
 obtain ⟨u1,u2,u3⟩:=eM _ _ _ hr;obtain ⟨w',h1,h2⟩:=gV (P:=P) cs b o1 0 w (L1:=[]) (k:=k) s (by omega) u1 one hr;refine ⟨w',?_,h2⟩;have hz:(sizeOf el).run P w= .ok ei.size w:=run_sizeOf (TT.Ok.get hS he);simp only [Builtin.copy_,List.getElem?_toArray,ak1,af4,ab8,Go.run_underlying hund,ab1,hlen,ac5,hz,hcs,h1,goInt]
def Q9(S:TT)(o:Oper)(y1 y2:Operand)(sz:Nat×Bool):Prop:= ∃t t2 el ti ei,o.op= .call ⟨.builtin (match sz.2 with|true=> .append|false=> .copy), #[y1,y2], #[t,t2]⟩/\S.get t=some ti/\ti.d= .slice el/\S.get el=some ei/\0<ei.size/\aW ei.zero=true/\ei.bytes<=4096/\sz.1=ei.size/\(sz.2=true->t2=t)
theorem Q9.uniq{S:TT}{o:Oper}{y1 y2 z1 z2:Operand}{sz sz':Nat×Bool}(x:Q9 S o y1 y2 sz)(y:Q9 S o z1 z2 sz'):y1=z1/\y2=z2/\sz=sz':=by
 obtain ⟨t,t2,el,ti,ei,a1,a2,a3,a4,_,_,_,a8,_⟩:=x;obtain ⟨t',t2',el',ti',ei',b1,b2,b3,b4,_,_,_,b8,_⟩:=y;obtain ⟨n,c⟩:=sz;obtain ⟨n',c'⟩:=sz';rw [a1] at b1;injection b1 with b1;injection b1 with b0 b1 b1';injection b1 with b1;injection b1 with e1 b1;injection b1 with e2 _;injection b1' with b1';injection b1' with e3 _;subst e1;subst e2;subst e3;rw [a2] at b2;injection b2 with b2;subst b2;rw [a3] at b3;injection b3 with b3;subst b3;rw [a4] at b4;injection b4 with b4;subst b4;have hc:c=c':=by cases c<;>cases c'<;>first|rfl|(injection b0 with b0;cases b0)
 subst hc;exact ⟨rfl,rfl,by rw [show n=n' from a8.trans b8.symm]⟩
def ApPre(h:GH)(sz:Nat×Bool)(v1 v2:Value)(x:bV):Prop:=match sz.2 with
 |true=>Tl sz.1 v1 x/\ ∃c1 c2,Sl h sz.1 v1 c1/\Sl h sz.1 v2 c2/\c1.length+c2.length<=1073741824 |false=>CpPre sz.1 v1 v2 x
def ApY(sz:Nat×Bool)(v1 v2:Value)(x:bV)(v:Value)(h:GH)(x':bV):Prop:=match sz.2 with
 |true=>Tl sz.1 v x'/\ ∃c1 c2,Sl h sz.1 v1 c1/\Sl h sz.1 v2 c2/\Sl h sz.1 v (c1++c2) |false=>CpY sz.1 v1 v2 x v x'
theorem Sl.uniq{h:GH}{sz:Nat}{v:Value}{c c':List Value}(x:Sl h sz v c)(y:Sl h sz v c'):c=c':=by
 obtain ⟨a,n,k,rfl,x2,x3,x4⟩:=x;obtain ⟨a',n',k',e,y2,y3,y4⟩:=y;injection e with e1 e2 e3;subst e1;subst e2;subst e3;rcases ah3 n with h0|hp
 ·subst h0;rw [Nat.zero_mul] at x3 y3;rw [ad2.1 x3,ad2.1 y3]
 ·obtain ⟨b,o,rfl,x5⟩:=x4 hp;obtain ⟨b',o',e,y5⟩:=y4 hp;injection e with e;injection e with e1 e2;subst e1;subst e2;apply af0;intro i
  by_cases hi:i<c.length
  ·have hi':i<c'.length:=by omega
   have h1:=x5 i c[i] (aa7 hi);have h2:=y5 i c'[i] (aa7 hi');rw [h1] at h2;injection h2 with h2;rw [aa7 hi,aa7 hi',h2]
  ·rw [ac6 (by omega),ac6 (by omega)]
end Go.Tp
namespace Go.Tp
open Go Go.RowKit
theorem St.sub{w0 w:World}{h:GH}{L L':List bV}(s:St w0 h L w)(hs:L'.Sublist L):St w0 h L' w:=
 ⟨s.below,s.imm,s.imm1,fun p hp=>s.own p (hs.subset hp),s.dis.sublist hs,s.frz,s.drn⟩
theorem GH.fo{h h':GH}(hl:h.le h'){b o:Nat}(x:h' b o=none):h b o=none:=by
 cases hh:h b o with
 |none=>rfl |some v=>rw [hl _ _ _ hh] at x;cases x
theorem St.less{w0 w:World}{h h':GH}{L:List bV}(s:St w0 h' L w)(hl:h.le h'):St w0 h L w:=
 ⟨s.below,fun b o v x=>s.imm _ _ _ (hl _ _ _ x),fun b o v x=>s.imm1 _ _ _ (hl _ _ _ x),fun p hp=>let q:=s.own p hp
   ⟨q.one,q.cell,q.new,q.warm,fun i hi=>GH.fo hl (q.fresh i hi),q.obj⟩,s.dis,fun b o v x=>s.frz _ _ _ (hl _ _ _ x),s.drn⟩
abbrev aG:=Nat->Option bV
def aG.set(E:aG)(i:Nat)(x:Option bV):aG:=fun j=>if j=i then x else E j
theorem aG.set_comm(E:aG){i j:Nat}(hij:i≠j)(x y:Option bV):(E.set i x).set j y=(E.set j y).set i x:=by
 funext k
 by_cases h1:k=i
 ·subst h1;simp [aG.set,hij]
 ·by_cases h2:k=j
  ·subst h2;simp [aG.set,h1]
  ·simp [aG.set,h1,h2]
theorem aG.dp(E:aG)(i:Nat)(x:Option bV):E.set i x i=x:=by simp [aG.set]
theorem aG.ai(E:aG){i j:Nat}(h:j≠i)(x:Option bV):E.set i x j=E j:=by simp [aG.set,h]
def aG.list(n:Nat)(E:aG):List bV:=(List.range n).filterMap E
def aG.none:aG:=fun _=>Option.none
theorem aG.dq(n:Nat):aG.list n aG.none=[]:=by simp [aG.list,aG.none]
theorem pD(E:aG)(i:Nat)(x:Option bV): ∀(l:List Nat),i∉l->l.filterMap (E.set i x)=l.filterMap E
 | [],_=>rfl |j::l,h=>by have hj:j≠i:=fun e=>h (by simp [e]);have ht:i∉l:=fun e=>h (ab9 _ e);simp only [am3,aG.ai E hj,pD E i x l ht]
theorem wE(E:aG)(i:Nat)(x:bV): ∀(l:List Nat),l.Nodup->i∈l->(l.filterMap (E.set i (some x))).Perm (x::l.filterMap (E.set i Option.none))
 | [],_,h=>by cases h |j::l,hn,h=>by
  have hn':=aj1.1 hn
  by_cases hj:j=i
  ·subst hj;simp only [am3,aG.dp];rw [pD E j (some x) l hn'.1,pD E j Option.none l hn'.1]
  ·have hm:i∈l:=by
    rcases ab6.1 h with e|e
    ·exact absurd e.symm hj
    ·exact e
   have ih:=wE E i x l hn'.2 hm;simp only [am3,aG.ai E hj];cases E j with
   |none=>exact ih |some y=>exact (ih.cons y).trans (List.Perm.swap ..)
theorem aG.set_same(E:aG)(i:Nat):E.set i (E i)=E:=by
 funext k;simp only [aG.set];by_cases h:k=i
 ·rw [iT h,h]
 ·rw [iF h]
theorem aG.ay{n i:Nat}(hi:i<n)(E:aG)(x:bV):(aG.list n (E.set i (some x))).Perm (x::aG.list n (E.set i Option.none)):=
 wE E i x _ List.nodup_range (by simpa using hi)
theorem aG.bh{n i:Nat}(hi:i<n){E:aG}{x:bV}(h:E i=some x):(aG.list n E).Perm (x::aG.list n (E.set i Option.none)):=by
 have:=aG.ay hi E x
 rwa [show E.set i (some x)=E from by rw [<-h];exact aG.set_same E i] at this
theorem aG.gp{n i:Nat}(hi:i<n)(E:aG):(aG.list n E).Perm ((E i).toList++aG.list n (E.set i Option.none)):=by
 cases h:E i with
 |none=>rw [show E.set i Option.none=E from by rw [<-h];exact aG.set_same E i];exact .refl _ |some x=>exact aG.bh hi h
theorem aG.gq{n i:Nat}(hi:i<n)(E:aG)(x:Option bV):(aG.list n (E.set i x)).Perm (x.toList++aG.list n (E.set i Option.none)):=by
 cases x with
 |none=>exact .refl _ |some x=>exact aG.ay hi E x
def iA(E:aG):List Nat->GH->GH
 | [],h=>h |j::D,h=>match E j with
  |some x=>iA E D (h.add x.b x.lo x.cs) |Option.none=>iA E D h
def oK:List Nat->aG->aG
 | [],E=>E |j::D,E=>oK D (E.set j Option.none)
theorem kA: ∀(D:List Nat) (E:aG) (k:Nat),oK D E k=if k∈D then Option.none else E k
 | [],E,k=>by simp [oK] |j::D,E,k=>by
  rw [oK,kA D]
  by_cases h1:k∈D
  ·simp [h1]
  ·by_cases h2:k=j
   ·subst h2;simp [h1,aG.dp]
   ·simp [h1,h2,aG.ai E h2]
theorem i7{E E':aG}: ∀(D:List Nat) (h:GH),(∀j,j∈D->E j=E' j)->iA E D h=iA E' D h
 | [],_,_=>rfl |j::D,h,hj=>by
  simp only [iA,hj j (aa5 ..)];cases E' j with
  |none=>exact i7 D h fun k hk=>hj k (ab9 _ hk) |some x=>exact i7 D _ fun k hk=>hj k (ab9 _ hk)
theorem wY{E:aG}{D:List Nat}{i:Nat}{x:Option bV}(hi:i∉D):oK D (E.set i x)=(oK D E).set i x:=by
 funext k;rw [kA]
 by_cases hk:k=i
 ·subst hk;rw [iF hi,aG.dp,aG.dp]
 ·rw [aG.ai _ hk,aG.ai _ hk,kA]
inductive Kd where
 |qt|mk|cl|st|ap
def kd(o:Oper):Kd:=match o.op with
 | .alloc _=> .mk | .box _ _=> .mk
 | .makeMap _ none=> .mk | .buildSlice _ _ _=> .mk
 | .call c=>match c.callee with
   | .value _=> .cl | .builtin .append=> .ap
   | .builtin .copy=> .ap |_=> .qt
 | .store _ _ _=> .st |_=> .qt
def r8(o:Oper):Bool:=match kd o with
 | .cl=>true | .ap=>true
 |_=>false
def wC(o:Oper)(a:Act):Option (FuncId×List Value):=match o.op with
 | .call c=>match c.callee with
   | .value x=>match a.eval x with
     | .func (.func f) fst cap=>some (f,fst.toList++(c.args.toList.map a.eval++cap.toList)) |_=>none
   |_=>none
 |_=>none
def wO(S:TT)(ρ:Operand->Option Value)(t:TypeId)(len:Nat)(parts:List (Nat×Operand)):Option (List Value):=
 match S.get t with
 |some ti=>match ti.d with
  | .slice el=>match S.get el with
    |some ei=>match Nat.beq (len*ei.size) 0 with
     |true=>none |false=>match Nat.ble (len*ei.size) 16777216 with
      |true=>tT (fun i=>some (i*ei.size,ei.size)) ρ parts ((List.replicate len ei.zero).flatten) |false=>none
    |none=>none
  |_=>none
 |none=>none
inductive Msh where
 |ptr|sl (n:Nat)|mp
def wS(S:TT)(o:Oper)(a:Act):Option (List Value×Msh):=match o.op with
 | .alloc t=>match S.get t with
   |some ti=>some (ti.zero, .ptr) |none=>none
 | .box _ x=>some (aM (a.eval x), .ptr) | .makeMap _ none=>some ([], .mp)
 | .buildSlice t len parts=>match wO S (fun x=>some (a.eval x)) t len parts.toList with
   |some cs=>some (cs, .sl len) |none=>none
 |_=>none
def zZ:Msh->Nat->Value
 | .ptr,b=> .pointer (some ⟨b,0,Option.none⟩) | .sl n,b=> .slice (some ⟨b,0,Option.none⟩) n n
 | .mp,b=> .map (some b)
def mkObj:Msh->Option Obj
 | .mp=>some (.map #[] 0) |_=>none
abbrev wR(sh:Msh)(b:Nat)(cs:List Value):bV:=⟨b,0,cs,mkObj sh⟩
def TH(o:Oper)(a:Act):Option (TypeId×Nat×Nat×Value):=match o.op with
 | .store t p y=>match a.eval p with
   | .pointer (some ⟨b,off,Option.none⟩)=>some (t,b,off,a.eval y) |_=>none
 |_=>none
def SE(o:Oper)(a:Act):Option (TypeId×Nat×Nat):=match o.op with
 | .load t p=>match a.eval p with
   | .pointer (some ⟨b,off,Option.none⟩)=>some (t,b,off) |_=>none
 |_=>none
def tW(E:aG)(ps:List Nat)(h:GH):Prop:=h.le (iA E ps h)/\ ∀j,j∈ps-> ∀x,E j=some x-> ∀i v,x.cs[i]? =some v->iA E ps h x.b (x.lo+i)=some v
theorem tW.congr{E E':aG}{ps:List Nat}{h:GH}(he: ∀j,j∈ps->E j=E' j)(r:tW E ps h):tW E' ps h:=by have hH:=i7 ps h he;refine ⟨hH▸r.1,fun j hj x hx=>?_⟩;rw [<-hH];exact r.2 j hj x (by rw [he j hj];exact hx)
structure Rg where
 C:qJ
 all:Array Oper
 L0:List bV
 pubs:Nat->List Nat
 Y:Nat->List Value->Value->GH->Prop
 Fin:Act->GH->aG->Prop
def Rg.Rz(G:Rg)(h:GH):Prop:= ∃w,St G.C.w0 h G.L0 w
def Rg.live(G:Rg)(h:GH)(E:aG)(w:World):Prop:=St G.C.w0 h (aG.list G.all.size E++G.L0) w
def Rg.Quiet(G:Rg)(o:Oper)(a:Act)(h:GH)(v:Value):Prop:= ∀E w,St G.C.w0 h (E++G.L0) w->(execOp a.eval o).run G.C.P w= .ok (.value v) w
def Rg.jx(G:Rg)(i:Nat)(o:Oper)(a:Act)(E:aG)(v:Value):Prop:=
 ∃s t b off x ti,G.pubs i=[s]/\SE o a=some (t,b,off)/\G.C.S.get t=some ti/\E s=some x/\x.b=b/\IW ti x off=some v
def Rg.Qt(G:Rg)(i:Nat)(o:Oper)(a:Act)(h:GH)(E:aG)(v:Value):Prop:=G.Quiet o a h v\/G.jx i o a E v
def gQ(x:Nat):List Nat->Bool
 | []=>false |y::l=>Nat.beq x y||gQ x l
theorem gR{x:Nat}: ∀{l:List Nat},gQ x l=true↔x∈l
 | []=>by simp [gQ] |y::l=>by simp [gQ,gR (l:=l),Nat.beq_eq]
def fr2:List Nat->Bool
 | [_,_]=>true |_=>false
def Rg.Node(G:Rg)(i:Nat)(o:Oper)(a:Act)(h:GH)(E:aG)(K:Act->GH->aG->Prop):Prop:=
 match eG G.all o a with
 |false=>K (a.put o.dst undef) h E |true=>match kd o with
  | .qt=> ∃v,G.Qt i o a h E v/\K (a.put o.dst v) h E | .mk=> ∃cs sh,wS G.C.S o a=some (cs,sh)/\aW cs=true/\E i=none/\ ∀b,K (a.put o.dst (zZ sh b)) h (E.set i (some (wR sh b cs)))
  | .cl=>match gQ i (G.pubs i) with
    |false=> ∃f args,wC o a=some (f,args)/\
     (tW E (G.pubs i) h-> ∀L,vQ G.C.P G.C.w0 f args (iA E (G.pubs i) h) (L++G.L0) (fun v h' L'=>L'=L++G.L0/\(iA E (G.pubs i) h).le h'/\G.Y i args v h'))/\
     ∀v h',(iA E (G.pubs i) h).le h'->h.le h'->G.Rz h'->G.Y i args v h'->K (a.put o.dst v) h' (oK (G.pubs i) E)
    |true=> ∃f args,∃Q:Value->GH->Option bV->Prop,(fr2 (G.pubs i)=true->E i=none)/\wC o a=some (f,args)/\(∀L,vQ G.C.P G.C.w0 f args h ((E i).toList++(L++G.L0)) (fun v h' L'=> ∃x',(Option.toList x'++(L++G.L0)).Sublist L'/\h.le h'/\Q v h' x'))/\
     ∀v h' x',h.le h'->G.Rz h'->Q v h' x'->K (a.put o.dst v) h' (E.set i x')
  | .st=> ∃t b off v j x x' ti,TH o a=some (t,b,off,v)/\G.C.S.get t=some ti/\G.pubs i=[j]/\E j=some x/\x.b=b/\N4 ti x off v=some x'/\o.dst=none/\K a h (E.set j (some x')) | .ap=>match gQ i (G.pubs i) with
    |false=> ∃y1 y2 sz x,Q9 G.C.S o y1 y2 sz/\E i=some x/\i∉G.pubs i/\(tW E (G.pubs i) h->ApPre (iA E (G.pubs i) h) sz (a.eval y1) (a.eval y2) x)/\
     ∀v h' x',tW E (G.pubs i) h->(iA E (G.pubs i) h).le h'->h.le h'->G.Rz h'->ApY sz (a.eval y1) (a.eval y2) x v h' x'->K (a.put o.dst v) h' ((oK (G.pubs i) E).set i (some x'))
    |true=> ∀w,G.live h E w-> ∃v w' h' E',(execOp a.eval o).run G.C.P w= .ok (.value v) w'/\G.live h' E' w'/\h.le h'/\K (a.put o.dst v) h' E'
def Rg.W(G:Rg):List Nat->Act->GH->aG->Prop
 | [],a,h,E=>G.Fin a h E |i::π,a,h,E=> ∃o,G.all[i]? =some o/\G.Node i o a h E (G.W π)
def R8(o:Oper):Bool:=match o.guard with
 |none=>match o.op with
  | .move _=>true |_=>false
 |some _=>false
theorem FU{o:Oper}(h:R8 o=true):o.guard=none/\ ∃z,o.op= .move z:=by
 unfold R8 at h;split at h
 ·rename_i hg;split at h
  ·rename_i z hop;exact ⟨hg,z,hop⟩
  ·cases h
 ·cases h
theorem O9{o:Oper}(h:R8 o=true):kd o= .qt:=by obtain ⟨_,z,e⟩:=FU h;unfold kd;rw [e]
theorem FF{all:Array Oper}{x y:Oper}(hap:x.apart all y=true)(a:Act)(u:Value){z:Operand}(hz:z∈y.op.operands.toList):(a.put x.dst u).eval z=a.eval z:=by
 cases z with
 |tmp t=>
  cases hx:x.dst with
  |none=>rfl |some d=>
   have h1:=(Oper.apart_spec hap).1 d hx;have hne:t≠d:=by intro e;subst e;apply h1;unfold Oper.looksAt;apply ad6;rw [List.mem_filterMap];exact ⟨_,hz,rfl⟩
   simp only [Act.eval,ah2,getElem?_put_ne hne]
 |const v=>rfl |global g=>rfl
 |func f=>rfl
section looks
variable{G:Rg}{oi oj:Oper}{a:Act}{u:Value}
theorem uO{x y:Oper}(hap:x.apart G.all y=true)(hsel: ∀cs b,y.op≠ .select cs b)(a:Act)(u:Value):execOp (a.put x.dst u).eval y=execOp a.eval y:=
 execOp_put y hsel a x.dst u (Oper.apart_spec hap).1
theorem I5{x y:Oper}(hap:x.apart G.all y=true)(a:Act)(u:Value):eG G.all y (a.put x.dst u)=eG G.all y a:=
 wanted_put y a x.dst u (Oper.apart_spec hap).1
theorem apart_symm{x y:Oper}(hap:x.apart G.all y=true):y.apart G.all x=true:=by
 obtain ⟨h1,h2,h3⟩:=Oper.apart_spec hap;unfold Oper.apart;cases hy:y.dst with
 |none=>
  cases hx:x.dst with
  |none=>rfl |some d=>simp only [Bool.true_and];simpa using h1 d hx
 |some d=>
  cases hx:x.dst with
  |none=>simpa using h3 d hy |some d'=>
   have e1:=h1 d' hx;have e2:=h2 d' hx;have e3:=h3 d hy;rw [hy] at e2;simp only [aa3];refine ⟨⟨by simpa using e3,?_⟩,by simpa using e1⟩;simp only [bne_iff_ne,ne_eq];exact fun e=>e2 e.symm
theorem SV{x y:Oper}(hap:x.apart G.all y=true)(a:Act)(u v:Value):(a.put x.dst u).put y.dst v=(a.put y.dst v).put x.dst u:=
 Act.put_comm a u v (Oper.apart_spec hap).2.1
theorem eval_put{x y:Oper}(hap:x.apart G.all y=true)(a:Act)(u:Value){z:Operand}(hz:z∈y.op.operands.toList):(a.put x.dst u).eval z=a.eval z:=by
 cases z with
 |tmp t=>
  cases hx:x.dst with
  |none=>rfl |some d=>
   have h1:=(Oper.apart_spec hap).1 d hx;have hne:t≠d:=by intro e;subst e;apply h1;unfold Oper.looksAt;apply ad6;rw [List.mem_filterMap];exact ⟨_,hz,rfl⟩
   simp only [Act.eval,ah2,getElem?_put_ne hne]
 |const v=>rfl |global g=>rfl
 |func f=>rfl
theorem kM{x y:Oper}(hap:x.apart G.all y=true)(a:Act)(u:Value):wC y (a.put x.dst u)=wC y a:=by
 unfold wC;cases hop:y.op<;>try rfl
 rename_i c;simp only;cases hc:c.callee with
 |value z=>
  have h1:(a.put x.dst u).eval z=a.eval z:=eval_put hap a u (by simp [hop,Op.operands,Call.operands,hc]);have h2:c.args.toList.map (a.put x.dst u).eval=c.args.toList.map a.eval:=
   List.map_congr_left fun z hz=>eval_put hap a u (by rw [hop];simp only [Op.operands,Call.operands,hc,Array.toList_append];exact ag7 _ hz)
  simp only [h1,h2]
 |invoke r m=>rfl |builtin b=>rfl
theorem CU{place:Nat->Option (Nat×Nat)}{ρ ρ':Operand->Option Value}: ∀(parts:List (Nat×Operand)) (cs:List Value),(∀p,p∈parts->ρ p.2=ρ' p.2)->tT place ρ parts cs=tT place ρ' parts cs
 | [],_,_=>rfl |(i,x)::r,cs,hp=>by
  have h1:=hp (i,x) (aa5 ..);simp only at h1;simp only [tT,h1];cases ρ' x with
  |none=>rfl |some v=>
   simp only;cases place i with
   |none=>rfl |some q=>
    obtain ⟨off,sz⟩:=q;simp only;split
    ·split
     ·exact CU r _ fun p hp'=>hp p (ab9 _ hp')
     ·rfl
    ·rfl
theorem jR{S:TT}{x y:Oper}(hap:x.apart G.all y=true)(a:Act)(u:Value):wS S y (a.put x.dst u)=wS S y a:=by
 unfold wS;cases hop:y.op<;>try rfl
 case makeMap t r=>cases r<;>rfl
 case box t z=>
  have h1:(a.put x.dst u).eval z=a.eval z:=eval_put hap a u (by simp [hop,Op.operands]);simp only [h1]
 case buildSlice t len parts=>
  have:wO S (fun x_1=>some ((a.put x.dst u).eval x_1)) t len parts.toList=wO S (fun x=>some (a.eval x)) t len parts.toList:=by
   unfold wO;split
   ·split
    ·split
     ·split
      ·rfl
      ·split
       ·refine CU _ _ fun p hp=>?_;rw [eval_put hap a u];simp only [hop,Op.operands,List.toList_toArray,List.mem_map];exact ⟨p,hp,rfl⟩
       ·rfl
     ·rfl
    ·rfl
   ·rfl
  simp only [this]
theorem lG{x y:Oper}(hap:x.apart G.all y=true)(a:Act)(u:Value):TH y (a.put x.dst u)=TH y a:=by
 unfold TH;cases hop:y.op<;>try rfl
 case store t p z=>
  have h1:(a.put x.dst u).eval p=a.eval p:=eval_put hap a u (by simp [hop,Op.operands]);have h2:(a.put x.dst u).eval z=a.eval z:=eval_put hap a u (by simp [hop,Op.operands]);simp only [h1,h2]
theorem WO{x y:Oper}(hap:x.apart G.all y=true)(a:Act)(u:Value):SE y (a.put x.dst u)=SE y a:=by
 unfold SE;cases hop:y.op<;>try rfl
 case load t p=>
  have h1:(a.put x.dst u).eval p=a.eval p:=eval_put hap a u (by simp [hop,Op.operands]);simp only [h1]
end looks
theorem Rg.Qt.congr{G:Rg}{i:Nat}{o:Oper}{a:Act}{h:GH}{E E':aG}{v:Value}(he: ∀s,s∈G.pubs i->E s=E' s)(x:G.Qt i o a h E v):G.Qt i o a h E' v:=by
 rcases x with x|⟨s,t,b,off,y,ti,x1,x2,x3,x4,x5,x6⟩
 ·exact .inl x
 ·exact .inr ⟨s,t,b,off,y,ti,x1,x2,x3,by rw [<-he s (by rw [x1];exact ab0.2 T)];exact x4,x5,x6⟩
theorem Q9.put{S:TT}{x y:Oper}{all:Array Oper}{y1 y2:Operand}{sz:Nat×Bool}(q:Q9 S y y1 y2 sz)(hap:x.apart all y=true)(a:Act)(u:Value):(a.put x.dst u).eval y1=a.eval y1/\(a.put x.dst u).eval y2=a.eval y2:=by obtain ⟨t,t2,el,ti,ei,h1,_⟩:=q;exact ⟨FF hap a u (by rw [h1];simp [Op.operands,Call.operands]),FF hap a u (by rw [h1];simp [Op.operands,Call.operands])⟩
theorem Rg.Quiet.uniq{G:Rg}{o:Oper}{a:Act}{h:GH}{v v':Value}(z:G.Rz h)(x:G.Quiet o a h v)(y:G.Quiet o a h v'):v=v':=by obtain ⟨w,s⟩:=z;have e1:=x [] w s;have e2:=y [] w s;rw [e1] at e2;injection e2 with e2;injection e2
theorem Rg.Qt.quiet{G:Rg}{i:Nat}{o:Oper}{a:Act}{h:GH}{E:aG}{v:Value}(hp:G.pubs i=[])(x:G.Qt i o a h E v):G.Quiet o a h v:=by
 rcases x with x|⟨s,t,b,off,y,ti,x1,_⟩
 ·exact x
 ·rw [hp] at x1;cases x1
theorem Rg.Qt.put{G:Rg}{i:Nat}{oi oj:Oper}{a:Act}{h:GH}{E:aG}{u v:Value}(hap:oj.apart G.all oi=true)(hsi: ∀cs b,oi.op≠ .select cs b):G.Qt i oi (a.put oj.dst u) h E v↔G.Qt i oi a h E v:=by unfold Rg.Qt Rg.Quiet Rg.jx;rw [uO hap hsi a u,WO hap a u]
theorem Rg.Quiet.mono{G:Rg}{o:Oper}{a:Act}{h h':GH}{v:Value}(hl:h.le h')(x:G.Quiet o a h v):G.Quiet o a h' v:=fun E w s=>x E w (s.less hl)
theorem Rg.Qt.mono{G:Rg}{i:Nat}{o:Oper}{a:Act}{h h':GH}{E:aG}{v:Value}(hl:h.le h')(x:G.Qt i o a h E v):G.Qt i o a h' E v:=x.imp (fun x=>x.mono hl) id
theorem Rg.Node.map{G:Rg}{i:Nat}{o:Oper}{a:Act}{h:GH}{E:aG}{K K':Act->GH->aG->Prop}(hk: ∀a h E,K a h E->K' a h E)(x:G.Node i o a h E K):G.Node i o a h E K':=by
 unfold Rg.Node at*;split
 ·rename_i h0;rw [h0] at x;exact hk _ _ _ x
 ·rename_i h0;rw [h0] at x;simp only at x;split
  ·rename_i h1;rw [h1] at x;obtain ⟨v,x1,x2⟩:=x;exact ⟨v,x1,hk _ _ _ x2⟩
  ·rename_i h1;rw [h1] at x;obtain ⟨cs,sh,x1,x2,x3,x4⟩:=x;exact ⟨cs,sh,x1,x2,x3,fun b=>hk _ _ _ (x4 b)⟩
  ·rename_i h1;rw [h1] at x;simp only at x;split
   ·rename_i h2;rw [h2] at x;obtain ⟨f,args,x1,x2,x3⟩:=x;exact ⟨f,args,x1,x2,fun v h' y1 y2 y3 y4=>hk _ _ _ (x3 v h' y1 y2 y3 y4)⟩
   ·rename_i h2;rw [h2] at x;obtain ⟨f,args,Q,x0,x1,x2,x3⟩:=x;exact ⟨f,args,Q,x0,x1,x2,fun v h' x' y1 y2 y3=>hk _ _ _ (x3 v h' x' y1 y2 y3)⟩
  ·rename_i h1;rw [h1] at x;obtain ⟨t,b,off,v,j,y,y',ti,x1,x2,x3,x4,x5,x6,x7,x8⟩:=x;exact ⟨t,b,off,v,j,y,y',ti,x1,x2,x3,x4,x5,x6,x7,hk _ _ _ x8⟩
  ·rename_i h1;rw [h1] at x;simp only at x;split
   ·rename_i h2;rw [h2] at x;obtain ⟨y1,y2,sz,y,x1,x2,x3,x4,x5⟩:=x;exact ⟨y1,y2,sz,y,x1,x2,x3,x4,fun v h' x' z0 z1 z2 z3 z4=>hk _ _ _ (x5 v h' x' z0 z1 z2 z3 z4)⟩
   ·rename_i h2;rw [h2] at x;exact fun w s=>let ⟨v,w',h',E',x1,x2,x3,x4⟩:=x w s;⟨v,w',h',E',x1,x2,x3,hk _ _ _ x4⟩
theorem Rg.swap{G:Rg}{i j:Nat}{oi oj:Oper}{a:Act}{h:GH}{E:aG}{K:Act->GH->aG->Prop}(hij:i≠j)(hap:oj.apart G.all oi=true)(hcall:r8 oj=false\/kd oj= .cl/\gQ j (G.pubs j)=true/\fr2 (G.pubs j)=true/\kd oi= .mk)
 (hsi: ∀cs b,oi.op≠ .select cs b) (hsj: ∀cs b,oj.op≠ .select cs b)
 (hii:gQ i (G.pubs i)=false\/R8 oj=true/\kd oi= .ap\/kd oj= .qt/\kd oi= .cl\/kd oj= .qt/\G.pubs j=[]/\kd oi= .ap) (hi1:j∉G.pubs i) (hj1:i∉G.pubs j) (hd:kd oi≠ .qt\/kd oj≠ .qt-> ∀k,k∈G.pubs i->k∉G.pubs j) (hm:kd oi= .qt->kd oj= .mk->G.pubs i=[]) (z:G.Rz h)
 (x:G.Node j oj a h E (fun a' h' E'=>G.Node i oi a' h' E' K)):G.Node i oi a h E (fun a' h' E'=>G.Node j oj a' h' E' K):=by
 have hap':=apart_symm (G:=G) hap;have onj: ∀u,eG G.all oj (a.put oi.dst u)=eG G.all oj a:=fun u=>I5 hap' a u;have oni: ∀u,eG G.all oi (a.put oj.dst u)=eG G.all oi a:=fun u=>I5 hap a u;have cm: ∀u v,(a.put oj.dst u).put oi.dst v=(a.put oi.dst v).put oj.dst u:=fun u v=>SV hap a u v;have qi: ∀(g:GH) E u v,G.Qt i oi (a.put oj.dst u) g E v↔G.Qt i oi a g E v:=fun g E u v=>Rg.Qt.put hap hsi;have qj: ∀(g:GH) E u v,G.Qt j oj (a.put oi.dst u) g E v↔G.Qt j oj a g E v:=fun g E u v=>Rg.Qt.put hap' hsj;have nj: ∀k,k∈G.pubs j->k≠i:=fun k hk e=>hj1 (e▸hk);have ni: ∀k,k∈G.pubs i->k≠j:=fun k hk e=>hi1 (e▸hk);unfold Rg.Node at x;cases hoj:eG G.all oj a with
 |false=>
  rw [hoj] at x;simp only at x;unfold Rg.Node;rw [oni] at x;cases hoi:eG G.all oi a with
  |false=>
   rw [hoi] at x;simp only at x⊢;rw [onj,hoj];simp only;rw [<-cm];exact x
  |true=>
   rw [hoi] at x;simp only at x⊢;cases hk:kd oi with
   |qt=>
    rw [hk] at x;simp only at x⊢;obtain ⟨v,x1,x2⟩:=x;refine ⟨v,(qi _ _ _ _).1 x1,?_⟩;rw [onj,hoj];simp only;rw [<-cm];exact x2
   |mk=>
    rw [hk] at x;simp only at x⊢;obtain ⟨cs,sh,x1,x2,x3,x4⟩:=x;rw [jR hap] at x1;refine ⟨cs,sh,x1,x2,x3,fun b=>?_⟩;rw [onj,hoj];simp only;rw [<-cm];exact x4 b
   |cl=>
    cases hfl:gQ i (G.pubs i) with
    |true=>
     rw [hk] at x;simp only [hfl] at x⊢;obtain ⟨f,args,Q,x0,x1,x2,x3⟩:=x;rw [kM hap] at x1;refine ⟨f,args,Q,x0,x1,x2,fun v h' x' y1 y2 y3=>?_⟩;rw [onj,hoj];simp only;rw [<-cm];exact x3 v h' x' y1 y2 y3
    |false=>
    rw [hk] at x;simp only [hfl] at x⊢;obtain ⟨f,args,x1,x2,x3⟩:=x;rw [kM hap] at x1;refine ⟨f,args,x1,x2,fun v h' y1 y2 y3 y4=>?_⟩;rw [onj,hoj];simp only;rw [<-cm];exact x3 v h' y1 y2 y3 y4
   |st=>
    rw [hk] at x;simp only at x⊢;obtain ⟨t,b,off,v,s,y,y',ti,x1,x2,x3,x4,x5,x6,x7,x8⟩:=x;rw [lG hap] at x1;refine ⟨t,b,off,v,s,y,y',ti,x1,x2,x3,x4,x5,x6,x7,?_⟩;rw [hoj];exact x8
   |ap=>
    cases hii:gQ i (G.pubs i) with
    |true=>
     rw [hk] at x;simp only [hii] at x⊢;intro w s;obtain ⟨v,w',h',E',x1,x2,x3,x4⟩:=x w s;rw [uO hap hsi a undef] at x1;refine ⟨v,w',h',E',x1,x2,x3,?_⟩;rw [onj,hoj];simp only;rw [<-cm];exact x4
    |false=>
    rw [hk] at x;simp only [hii] at x⊢;obtain ⟨y1,y2,sz,y,x1,x2,x3,x4,x5⟩:=x;obtain ⟨p1,p2⟩:=x1.put hap a undef;rw [p1,p2] at x4 x5;refine ⟨y1,y2,sz,y,x1,x2,x3,x4,fun v h' x' z0 z1 z2 z3 z4=>?_⟩;rw [onj,hoj];simp only;rw [<-cm];exact x5 v h' x' z0 z1 z2 z3 z4
 |true=>
  rw [hoj] at x;simp only at x;cases hkj:kd oj with
  |cl=>
   obtain ⟨_,hfj,hf2,hk⟩:=hcall.resolve_left (fun e=>by simp [r8,hkj] at e);rw [hkj] at x;simp only [hfj] at x;obtain ⟨f,args,Q,x0,x1,x2,x3⟩:=x;have x0':=x0 hf2;unfold Rg.Node;cases hoi:eG G.all oi a with
   |false=>
    simp only;rw [onj,hoj,hkj];simp only [hfj];refine ⟨f,args,Q,x0,by rw [kM hap'];exact x1,x2,fun v h' x' y1 y2 y3=>?_⟩;have:=x3 v h' x' y1 y2 y3;unfold Rg.Node at this;rw [oni,hoi] at this;simp only at this;rw [<-cm];exact this
   |true=>
    rw [hk];simp only;have key: ∀v h' x',h.le h'->G.Rz h'->Q v h' x'-> ∃cs sh,wS G.C.S oi a=some (cs,sh)/\aW cs=true/\E i=none/\ ∀b,K ((a.put oj.dst v).put oi.dst (zZ sh b)) h' ((E.set j x').set i (some (wR sh b cs))):=by intro v h' x' y1 y2 y3;have:=x3 v h' x' y1 y2 y3;unfold Rg.Node at this;rw [oni,hoi,hk] at this;simp only at this;obtain ⟨cs,sh,z1,z2,z3,z4⟩:=this;rw [jR hap] at z1;rw [aG.ai E hij] at z3;exact ⟨cs,sh,z1,z2,z3,z4⟩
    obtain ⟨cs,sh,w1,w2,w3⟩: ∃cs sh,wS G.C.S oi a=some (cs,sh)/\aW cs=true/\E i=none:=by obtain ⟨w,s⟩:=z;have d:=x2 [];rw [x0'] at d;obtain ⟨_,w',_,⟨v,h',L',_,⟨x',q1,q2,q3⟩,q4⟩,_⟩:=d.2 w s [];obtain ⟨cs,sh,z1,z2,z3,_⟩:=key v h' x' q2 ⟨w',q4.sub ((ag4 _ _).trans q1)⟩ q3;exact ⟨cs,sh,z1,z2,z3⟩
    refine ⟨cs,sh,w1,w2,w3,fun b=>?_⟩;rw [onj,hoj,hkj];simp only [hfj];refine ⟨f,args,Q,fun _=>by rw [aG.ai E (Ne.symm hij)];exact x0',by rw [kM hap'];exact x1,fun L=>by rw [aG.ai E (Ne.symm hij)];exact x2 L,fun v h' x' y1 y2 y3=>?_⟩;obtain ⟨cs',sh',z1,_,_,z4⟩:=key v h' x' y1 y2 y3;rw [w1] at z1;injection z1 with z1;injection z1 with e1 e2;subst e1;subst e2;rw [<-cm,aG.set_comm E hij];exact z4 b
  |ap=>exact absurd (hcall.resolve_right (fun e=>by rw [hkj] at e;cases e.1)) (by simp [r8,hkj]) |qt=>
   rw [hkj] at x;simp only at x;obtain ⟨vj,j1,x⟩:=x;unfold Rg.Node;rw [oni] at x;cases hoi:eG G.all oi a with
   |false=>
    rw [hoi] at x;simp only at x⊢;rw [onj,hoj,hkj];exact ⟨vj,(qj _ _ _ _).2 j1,by rw [<-cm];exact x⟩
   |true=>
    rw [hoi] at x;simp only at x⊢;cases hk:kd oi with
    |qt=>
     rw [hk] at x;simp only at x⊢;obtain ⟨v,x1,x2⟩:=x;refine ⟨v,(qi _ _ _ _).1 x1,?_⟩;rw [onj,hoj,hkj];exact ⟨vj,(qj _ _ _ _).2 j1,by rw [<-cm];exact x2⟩
    |mk=>
     rw [hk] at x;simp only at x⊢;obtain ⟨cs,sh,x1,x2,x3,x4⟩:=x;rw [jR hap] at x1;refine ⟨cs,sh,x1,x2,x3,fun b=>?_⟩;rw [onj,hoj,hkj];exact ⟨vj,((qj _ _ _ _).2 j1).congr fun k hk=>(aG.ai E (nj k hk) _).symm,by rw [<-cm];exact x4 b⟩
    |cl=>
     cases hfl:gQ i (G.pubs i) with
     |true=>
      rw [hk] at x;simp only [hfl] at x⊢;obtain ⟨f,args,Q,x0,x1,x2,x3⟩:=x;rw [kM hap] at x1;refine ⟨f,args,Q,x0,x1,x2,fun v h' x' y1 y2 y3=>?_⟩;rw [onj,hoj,hkj];exact ⟨vj,((qj _ _ _ _).2 (j1.mono y1)).congr fun k hk=>(aG.ai E (nj k hk) _).symm,by rw [<-cm];exact x3 v h' x' y1 y2 y3⟩
     |false=>
     rw [hk] at x;simp only [hfl] at x⊢;obtain ⟨f,args,x1,x2,x3⟩:=x;rw [kM hap] at x1;refine ⟨f,args,x1,x2,fun v h' y1 y2 y3 y4=>?_⟩;have hd:=hd (.inl (by rw [hk];intro e;cases e));rw [onj,hoj,hkj];exact ⟨vj,((qj _ _ _ _).2 (j1.mono y2)).congr fun k hk=>(by rw [kA,iF (fun h1=>hd k h1 hk)]),by rw [<-cm];exact x3 v h' y1 y2 y3 y4⟩
    |st=>
     rw [hk] at x;simp only at x⊢;obtain ⟨t,b,off,v,s,y,y',ti,x1,x2,x3,x4,x5,x6,x7,x8⟩:=x;rw [lG hap] at x1;refine ⟨t,b,off,v,s,y,y',ti,x1,x2,x3,x4,x5,x6,x7,?_⟩;have hd:=hd (.inl (by rw [hk];intro e;cases e));rw [hoj,hkj];exact ⟨vj,j1.congr fun k hk=>(aG.ai E (fun e=>hd s (by rw [x3];exact ab0.2 T) (by rw [<-e];exact hk)) _).symm,x8⟩
    |ap=>
     cases hfl:gQ i (G.pubs i) with
     |true=>
      have hq:G.Quiet oj a h vj:=by
       rcases (hii.resolve_left (fun e=>by rw [hfl] at e;cases e)) with ⟨hmv,_⟩|⟨_,e⟩|⟨_,e,_⟩
       ·obtain ⟨_,zz,hop⟩:=FU hmv;rcases j1 with j1|⟨_,t,b,off,_,_,_,u2,_⟩
        ·exact j1
        ·unfold SE at u2;rw [hop] at u2;cases u2
       ·rw [hk] at e;cases e
       ·exact j1.quiet e
      rw [hk] at x;simp only [hfl] at x⊢;intro w s;obtain ⟨v,w',h',E',x1,x2,x3,x4⟩:=x w s;rw [uO hap hsi a vj] at x1;refine ⟨v,w',h',E',x1,x2,x3,?_⟩;rw [onj,hoj,hkj];exact ⟨vj,(qj _ _ _ _).2 (.inl (hq.mono x3)),by rw [<-cm];exact x4⟩
     |false=>
     rw [hk] at x;simp only [hfl] at x⊢;obtain ⟨y1,y2,sz,y,x1,x2,x3,x4,x5⟩:=x;obtain ⟨p1,p2⟩:=x1.put hap a vj;rw [p1,p2] at x4 x5;refine ⟨y1,y2,sz,y,x1,x2,x3,x4,fun v h' x' z0 z1 z2 z3 z4=>?_⟩;have hd:=hd (.inl (by rw [hk];intro e;cases e));rw [onj,hoj,hkj];exact ⟨vj,((qj _ _ _ _).2 (j1.mono z2)).congr fun k hk=>(by rw [aG.ai _ (nj k hk),kA,iF (fun h1=>hd k h1 hk)]),by rw [<-cm];exact x5 v h' x' z0 z1 z2 z3 z4⟩
  |mk=>
   rw [hkj] at x;simp only at x;obtain ⟨cj,sj,j1,j2,j3,x⟩:=x;unfold Rg.Node;simp only [oni] at x;cases hoi:eG G.all oi a with
   |false=>
    rw [hoi] at x;simp only at x⊢;rw [onj,hoj,hkj];exact ⟨cj,sj,by rw [jR hap'];exact j1,j2,j3,fun b=>by rw [<-cm];exact x b⟩
   |true=>
    rw [hoi] at x;simp only at x⊢;cases hk:kd oi with
    |qt=>
     rw [hk] at x;simp only at x⊢;have hpi:=hm hk hkj;obtain ⟨v,x1,x2⟩:=x 0;have x1:=((qi _ _ _ _).1 x1).quiet hpi;refine ⟨v, .inl x1,?_⟩;rw [onj,hoj,hkj];refine ⟨cj,sj,by rw [jR hap'];exact j1,j2,j3,fun b=>?_⟩;obtain ⟨v',y1,y2⟩:=x b;have:v'=v:=Rg.Quiet.uniq z (((qi _ _ _ _).1 y1).quiet hpi) x1;subst this;rw [<-cm];exact y2
    |mk=>
     rw [hk] at x;simp only at x⊢;obtain ⟨cs,sh,x1,x2,x3,x4⟩:=x 0;rw [jR hap] at x1;rw [aG.ai E hij] at x3;refine ⟨cs,sh,x1,x2,x3,fun b=>?_⟩;rw [onj,hoj,hkj];refine ⟨cj,sj,by rw [jR hap'];exact j1,j2,by rw [aG.ai E (Ne.symm hij)];exact j3,fun b'=>?_⟩;obtain ⟨cs',sh',y1,y2,y3,y4⟩:=x b';rw [jR hap,x1] at y1;injection y1 with y1;injection y1 with e1 e2;subst e1;subst e2;rw [<-cm,aG.set_comm E hij];exact y4 b
    |cl=>
     have hii:=hii.resolve_right (fun e=>e.elim (fun e=>by rw [hk] at e;cases e.2) (fun e=>e.elim (fun e=>by rw [hkj] at e;cases e.1) (fun e=>by rw [hkj] at e;cases e.1)));rw [hk] at x;simp only [hii] at x⊢;obtain ⟨f,args,x1,x2,x3⟩:=x 0;rw [kM hap] at x1;have hH: ∀b,iA (E.set j (some (wR sj b cj))) (G.pubs i) h=iA E (G.pubs i) h:=fun b=>i7 _ _ fun k hk=>aG.ai E (fun e=>hi1 (by rw [<-e];exact hk)) _;refine ⟨f,args,x1,fun pk L=>by have:=x2 (pk.congr fun k hk=>(aG.ai E (fun e=>hi1 (by rw [<-e];exact hk)) _).symm) L;rw [hH] at this;exact this,fun v h' y1 y2 y3 y4=>?_⟩;rw [onj,hoj,hkj];refine ⟨cj,sj,by rw [jR hap'];exact j1,j2,by rw [kA,j3];simp,fun b=>?_⟩;obtain ⟨f',args',u1,u2,u3⟩:=x b;rw [kM hap,x1] at u1;injection u1 with u1;injection u1 with e1 e2;subst e1;subst e2;have:=u3 v h' (by rw [hH];exact y1) y2 y3 y4;rw [<-cm,<-wY hi1];exact this
    |st=>
     rw [hk] at x;simp only at x⊢;obtain ⟨t,b,off,v,s,y,y',ti,x1,x2,x3,x4,x5,x6,x7,x8⟩:=x 0;rw [lG hap] at x1;have hs:s≠j:=fun e=>hi1 (by rw [x3,e];exact ab0.2 T);rw [aG.ai E hs] at x4;refine ⟨t,b,off,v,s,y,y',ti,x1,x2,x3,x4,x5,x6,x7,?_⟩;rw [hoj,hkj];refine ⟨cj,sj,j1,j2,by rw [aG.ai E (Ne.symm hs)];exact j3,fun b'=>?_⟩;obtain ⟨t2,b2,off2,v2,s2,z1,z2,ti2,u1,u2,u3,u4,u5,u6,u7,u8⟩:=x b';rw [lG hap,x1] at u1;injection u1 with u1;injection u1 with e1 u1;injection u1 with e2 u1;injection u1 with e3 e4;subst e1;subst e2;subst e3;subst e4;rw [x2] at u2;injection u2 with u2;subst u2;rw [x3] at u3;injection u3 with u3 _;subst u3;rw [aG.ai E hs,x4] at u4;injection u4 with u4;subst u4;rw [x6] at u6;injection u6 with u6;subst u6;rw [aG.set_comm E hs];exact u8
    |ap=>
     have hii:=hii.resolve_right (fun e=>e.elim (fun e=>by rw [O9 e.1] at hkj;cases hkj) (fun e=>e.elim (fun e=>by rw [hk] at e;cases e.2) (fun e=>by rw [hkj] at e;cases e.1)));rw [hk] at x;simp only [hii] at x⊢;obtain ⟨y1,y2,sz,y,x1,x2,x3,x4,x5⟩:=x 0;obtain ⟨p1,p2⟩:=x1.put hap a (zZ sj 0);rw [p1,p2] at x4 x5;rw [aG.ai E hij] at x2;have hH: ∀b,iA (E.set j (some (wR sj b cj))) (G.pubs i) h=iA E (G.pubs i) h:=fun b=>i7 _ _ fun k hk=>aG.ai E (fun e=>hi1 (by rw [<-e];exact hk)) _;refine ⟨y1,y2,sz,y,x1,x2,x3,fun pk=>by have:=x4 (pk.congr fun k hk=>(aG.ai E (fun e=>hi1 (by rw [<-e];exact hk)) _).symm);rw [hH] at this;exact this,fun v h' x' z0 z1 z2 z3 z4=>?_⟩;rw [onj,hoj,hkj];refine ⟨cj,sj,by rw [jR hap'];exact j1,j2,by rw [aG.ai _ (Ne.symm hij),kA,j3];simp,fun b=>?_⟩;obtain ⟨y1',y2',sz',y',u1,u2,u3,u4,u5⟩:=x b;obtain ⟨e1,e2,e3⟩:=u1.uniq x1;subst e1;subst e2;subst e3;rw [aG.ai E hij,x2] at u2;injection u2 with u2;subst u2;obtain ⟨p1,p2⟩:=u1.put hap a (zZ sj b);rw [p1,p2] at u5;have:=u5 v h' x' (z0.congr fun k hk=>(aG.ai E (fun e=>hi1 (by rw [<-e];exact hk)) _).symm) (by rw [hH];exact z1) z2 z3 z4;rw [<-cm,aG.set_comm _ hij,<-wY hi1];exact this
  |st=>
   rw [hkj] at x;simp only at x;obtain ⟨tj,bj,offj,vj,sj,yj,yj',tij,j1,j2,j3,j4,j5,j6,j7,x⟩:=x;have hd:=hd (.inr (by rw [hkj];intro e;cases e));have hpj: ∀u,a.put oj.dst u=a:=fun u=>by rw [j7];rfl
   unfold Rg.Node;cases hoi:eG G.all oi a with
   |false=>
    rw [hoi] at x;simp only at x⊢;rw [onj,hoj,hkj];exact ⟨tj,bj,offj,vj,sj,yj,yj',tij,by rw [lG hap'];exact j1,j2,j3,j4,j5,j6,j7,x⟩
   |true=>
    rw [hoi] at x;simp only at x⊢;cases hk:kd oi with
    |qt=>
     rw [hk] at x;simp only at x⊢;obtain ⟨v,x1,x2⟩:=x;refine ⟨v,x1.congr fun k hk=>aG.ai E (fun e=>hd k hk (by rw [j3,e];exact ab0.2 T)) _,?_⟩;rw [onj,hoj,hkj];exact ⟨tj,bj,offj,vj,sj,yj,yj',tij,by rw [lG hap'];exact j1,j2,j3,j4,j5,j6,j7,x2⟩
    |mk=>
     rw [hk] at x;simp only at x⊢;obtain ⟨cs,sh,x1,x2,x3,x4⟩:=x;have hs:i≠sj:=fun e=>hj1 (by rw [j3,e];exact ab0.2 T);rw [aG.ai E hs] at x3;refine ⟨cs,sh,x1,x2,x3,fun b=>?_⟩;rw [onj,hoj,hkj];refine ⟨tj,bj,offj,vj,sj,yj,yj',tij,by rw [lG hap'];exact j1,j2,j3,by rw [aG.ai E (Ne.symm hs)];exact j4,j5,j6,j7,?_⟩;rw [aG.set_comm E hs];exact x4 b
    |cl=>
     have hii:=hii.resolve_right (fun e=>e.elim (fun e=>by rw [hk] at e;cases e.2) (fun e=>e.elim (fun e=>by rw [hkj] at e;cases e.1) (fun e=>by rw [hkj] at e;cases e.1)));rw [hk] at x;simp only [hii] at x⊢;obtain ⟨f,args,x1,x2,x3⟩:=x;have hs:sj∉G.pubs i:=fun e=>hd sj e (by rw [j3];exact ab0.2 T);have hH:iA (E.set sj (some yj')) (G.pubs i) h=iA E (G.pubs i) h:=i7 _ _ fun k hk=>aG.ai E (fun e=>hs (by rw [<-e];exact hk)) _;rw [hH] at x2 x3;refine ⟨f,args,x1,fun pk=>x2 (pk.congr fun k hk=>(aG.ai E (fun e=>hs (by rw [<-e];exact hk)) _).symm),fun v h' y1 y2 y3 y4=>?_⟩;rw [onj,hoj,hkj];refine ⟨tj,bj,offj,vj,sj,yj,yj',tij,by rw [lG hap'];exact j1,j2,j3,by rw [kA,iF hs];exact j4,j5,j6,j7,?_⟩;rw [<-wY hs];exact x3 v h' y1 y2 y3 y4
    |st=>
     rw [hk] at x;simp only at x⊢;obtain ⟨t,b,off,v,s,y,y',ti,x1,x2,x3,x4,x5,x6,x7,x8⟩:=x;have hs:s≠sj:=fun e=>hd s (by rw [x3];exact ab0.2 T) (by rw [j3,e];exact ab0.2 T);rw [aG.ai E hs] at x4;refine ⟨t,b,off,v,s,y,y',ti,x1,x2,x3,x4,x5,x6,x7,?_⟩;rw [hoj,hkj];refine ⟨tj,bj,offj,vj,sj,yj,yj',tij,j1,j2,j3,by rw [aG.ai E (Ne.symm hs)];exact j4,j5,j6,j7,?_⟩;rw [aG.set_comm E hs];exact x8
    |ap=>
     have hii:=hii.resolve_right (fun e=>e.elim (fun e=>by rw [O9 e.1] at hkj;cases hkj) (fun e=>e.elim (fun e=>by rw [hk] at e;cases e.2) (fun e=>by rw [hkj] at e;cases e.1)));rw [hk] at x;simp only [hii] at x⊢;obtain ⟨y1,y2,sz,y,x1,x2,x3,x4,x5⟩:=x;have hs:sj∉G.pubs i:=fun e=>hd sj e (by rw [j3];exact ab0.2 T);have hsi':i≠sj:=fun e=>hj1 (by rw [j3,e];exact ab0.2 T);have hH:iA (E.set sj (some yj')) (G.pubs i) h=iA E (G.pubs i) h:=i7 _ _ fun k hk=>aG.ai E (fun e=>hs (by rw [<-e];exact hk)) _;rw [hH] at x4 x5;rw [aG.ai E hsi'] at x2;refine ⟨y1,y2,sz,y,x1,x2,x3,fun pk=>x4 (pk.congr fun k hk=>(aG.ai E (fun e=>hs (by rw [<-e];exact hk)) _).symm),fun v h' x' z0 z1 z2 z3 z4=>?_⟩;rw [onj,hoj,hkj];refine ⟨tj,bj,offj,vj,sj,yj,yj',tij,by rw [lG hap'];exact j1,j2,j3,by rw [aG.ai _ (Ne.symm hsi'),kA,iF hs];exact j4,j5,j6,j7,?_⟩;rw [aG.set_comm _ hsi',<-wY hs];exact x5 v h' x' (z0.congr fun k hk=>(aG.ai E (fun e=>hs (by rw [<-e];exact hk)) _).symm) z1 z2 z3 z4
end Go.Tp
namespace Go.Tp
open Go Go.RowKit
def force{β:Type}(n:Nat)(k:Nat->β):β:=match n with
 |0=>k 0 |n+1=>k (n+1)
theorem force_eq{β:Type}(n:Nat)(k:Nat->β):force n k=k n:=by cases n<;>rfl
def HD{β:Type}:List Nat->(List Nat->β)->β
 | [],k=>k [] |x::l,k=>force x fun x=>HD l fun l=>k (x::l)
theorem FJ{β:Type}: ∀(l:List Nat) (k:List Nat->β),HD l k=k l
 | [],_=>rfl |x::l,k=>by simp only [HD,force_eq,FJ l]
def M9(l:List Nat)(n:Nat):Nat:=(cR l n).getD 0
def CY(acc:List Nat)(o:Oper):Nat:=
 o.after.toList.foldl (fun s e=>match Region.binds .any e with
  |true=>s|||2^e.on|||M9 acc e.on
  |false=>s) 0
def sF:List Oper->List Nat->List Nat
 | [],acc=>acc |o::l,acc=>force (CY acc o) fun m=>sF l (acc++[m])
theorem M6{acc:List Nat}{o:Oper}{j:Nat}(h:(CY acc o).testBit j=true): ∃e,e∈o.after/\Region.binds .any e=true/\(j=e.on\/(M9 acc e.on).testBit j=true):=by
 have key: ∀(l:List Edge) (s:Nat),(l.foldl (fun s e=>match Region.binds .any e with
  |true=>s|||2^e.on|||M9 acc e.on
  |false=>s) s).testBit j=true->s.testBit j=true\/ ∃e,e∈l/\Region.binds .any e=true/\(j=e.on\/(M9 acc e.on).testBit j=true):=by
  intro l
  induction l with
  |nil=>intro s hs;exact .inl hs |cons e l ih=>
   intro s hs;simp only [ae2] at hs;rcases ih _ hs with h1|⟨e',h1,h2⟩
   ·split at h1
    ·rename_i hb;simp only [Nat.testBit_or,al8,Nat.testBit_two_pow] at h1;rcases h1 with (h1|h1)|h1
     ·exact .inl h1
     ·exact .inr ⟨e,aa5 ..,hb, .inl (by simpa using (of_decide_eq_true h1).symm)⟩
     ·exact .inr ⟨e,aa5 ..,hb, .inr h1⟩
    ·exact .inl h1
   ·exact .inr ⟨e',ab9 _ h1,h2⟩
 rcases key _ 0 h with h1|⟨e,h1,h2⟩
 ·simp at h1
 ·exact ⟨e,by simpa using h1,h2⟩
theorem CZ: ∀(l:List Oper) (acc:List Nat),∃r,sF l acc=acc++r/\r.length=l.length/\ ∀i o,l[i]? =some o->r[i]? =some (CY (acc++r.take i) o)
 | [],acc=>⟨[],by simp [sF],rfl,fun i o h=>by simp at h⟩ |o::l,acc=>by
  obtain ⟨r,h1,h2,h3⟩:=CZ l (acc++[CY acc o]);refine ⟨CY acc o::r,by simp only [sF,force_eq];rw [h1];simp,by simp [h2],fun i x hx=>?_⟩;cases i with
  |zero=>simp at hx;subst hx;simp |succ i=>
   simp only [af4] at hx⊢;rw [h3 i x hx];simp
def xT(tab:List Nat)(i j:Nat):Bool:=(M9 tab i).testBit j
def uT(all:Array Oper)(D:Nat->Bool):Prop:= ∀i o,all[i]? =some o->D i=true-> ∀e,e∈o.after->Region.binds .any e=true->D e.on=true
theorem I4{all:Array Oper}{D:Nat->Bool}(hd:uT all D)(hback: ∀(i:Nat) o,all[i]? =some o-> ∀e,e∈o.after->Region.binds .any e=true->e.on<i):
 ∀(i:Nat) (o:Oper),all[i]? =some o->(∀e,e∈o.after->Region.binds .any e=true->D e.on=true)-> ∀j,xT (sF all.toList []) i j=true->D j=true:=by
 obtain ⟨r,h1,h2,h3⟩:=CZ all.toList [];intro i
 induction i using au1 with
 |_ i ih=>
  intro o ho hp j hj;have ho':all.toList[i]? =some o:=by rw [ad5];exact ho
  have hri:=h3 i o ho';simp only [xT,h1,ag2,M9,cZ,hri,an6] at hj;obtain ⟨e,he,hb,hc⟩:=M6 hj;rcases hc with rfl|hc
  ·exact hp e he hb
  ·have hlt:=hback i o ho e he hb;have hlen:i<all.size:=by
    rcases ae4 i all.size with h|h
    ·exact h
    ·rw [af9 h] at ho;cases ho
   have hr:r.length=all.size:=by rw [h2];simp
   obtain ⟨oe,hoe⟩: ∃oe,all[e.on]? =some oe:=⟨all[e.on]'(by omega),by simp⟩;refine ih e.on hlt oe hoe (hd e.on oe hoe (hp e he hb)) j ?_;simp only [xT,h1,ag2,M9,cZ] at hc⊢
   rwa [aq6 hlt] at hc
def G4:List Oper->Nat->Bool
 | [],_=>true |o::l,i=>(o.after.toList.all fun e=> !Region.binds .any e||Nat.blt e.on i)&&G4 l (i+1)
theorem zK: ∀(l:List Oper) (i:Nat),G4 l i=true-> ∀(j:Nat) o,l[j]? =some o-> ∀e,e∈o.after->Region.binds .any e=true->e.on<i+j
 | [],_,_,j,o,h=>by simp at h |x::l,i,hb,j,o,h=>by
  simp only [G4,aa3,ae5] at hb;intro e he hbe;cases j with
  |zero=>
   simp at h;subst h;have:=hb.1 e (by simpa using he);rw [hbe] at this;simpa [ai7] using this
  |succ j=>
   have:=zK l (i+1) hb.2 j o (by simpa using h) e he hbe;omega
def sK:List Nat->Bool
 | []=>true |x::l=> !gQ x l&&sK l
theorem i6: ∀{l:List Nat},sK l=true->l.Nodup
 | [],_=> .nil |x::l,h=>by simp only [sK,aa3,aj7] at h;exact aj1.2 ⟨fun hm=>(by rw [gR.2 hm] at h;cases h.1),i6 h.2⟩
def ldMk(oi oj:Oper):List Nat->Bool
 | []=>true |_::_=>match kd oi with
  | .qt=>match kd oj with
    | .mk=>false |_=>true
  |_=>true
theorem SD{oi oj:Oper}{l:List Nat}(h:ldMk oi oj l=true)(hi:kd oi= .qt)(hj:kd oj= .mk):l=[]:=by
 cases l with
 |nil=>rfl |cons x r=>simp only [ldMk,hi,hj] at h;cases h
def ME(oi oj:Oper):Bool:=match kd oi with
 | .qt=>match kd oj with
   | .qt=>true |_=>false
 |_=>false
theorem JA{oi oj:Oper}(h:ME oi oj=true):kd oi= .qt/\kd oj= .qt:=by
 unfold ME at h;split at h
 ·rename_i h1;split at h
  ·rename_i h2;exact ⟨h1,h2⟩
  ·cases h
 ·cases h
def a0n(o:Oper):Bool:=match kd o with
 | .ap=>true |_=>false
theorem FT{o:Oper}(h:a0n o=true):kd o= .ap:=by
 unfold a0n at h;split at h
 ·assumption
 ·cases h
def PA(o:Oper):Bool:=match kd o with
 | .qt=>true |_=>false
def WB(o:Oper):Bool:=match kd o with
 | .cl=>true |_=>false
theorem CP{o:Oper}(h:PA o=true):kd o= .qt:=by
 unfold PA at h;split at h
 ·assumption
 ·cases h
theorem MW{o:Oper}(h:WB o=true):kd o= .cl:=by
 unfold WB at h;split at h
 ·assumption
 ·cases h
def noB:List Nat->Bool
 | []=>true |_=>false
theorem W7: ∀{l:List Nat},noB l=true->l=[]
 | [],_=>rfl |_::_,h=>by cases h
def flMk(oi oj:Oper)(l:List Nat)(j:Nat):Bool:=match kd oj with
 | .cl=>match kd oi with
   | .mk=>gQ j l&&fr2 l |_=>false
 |_=>false
theorem RX{oi oj:Oper}{l:List Nat}{j:Nat}(h:flMk oi oj l j=true):kd oj= .cl/\gQ j l=true/\fr2 l=true/\kd oi= .mk:=by
 unfold flMk at h;split at h
 ·rename_i h1;split at h
  ·rename_i h2;rw [aa3] at h;exact ⟨h1,h.1,h.2,h2⟩
  ·cases h
 ·cases h
def XK(all:Array Oper)(tab:List Nat)(pubs:Nat->List Nat)(j i:Nat):Bool:=
 !xT tab j i&&(xT tab i j||match cR all.toList j with
  |some oj=>match cR all.toList i with
   |some oi=>oj.apart all oi&&(!r8 oj||flMk oi oj (pubs j) j)&&(!gQ i (pubs i)||R8 oj&&a0n oi||PA oj&&WB oi||PA oj&&a0n oi&&noB (pubs j))&& !gQ j (pubs i)&& !gQ i (pubs j)&&ldMk oi oj (pubs i)&&(ME oi oj||(pubs i).all fun k=> !gQ k (pubs j))
   |none=>false
  |none=>false)
def BD(all:Array Oper)(tab:List Nat)(pubs:Nat->List Nat):List Nat->Bool
 | []=>true |j::l=>(l.all fun i=>XK all tab pubs j i)&&BD all tab pubs l
def YP(tab:List Nat)(m n:Nat):Bool:=(List.range n).all fun k=>Nat.blt k m||(List.range k).all fun j=>xT tab k j
def G9(all:Array Oper)(m:Nat)(π:List Nat)(pubs:Nat->List Nat):Bool:=
 HD (sF all.toList []) fun tab=>
  Region.noSelect all&&G4 all.toList 0&&Nat.beq π.length m&&Nat.ble m all.size&&(π.all fun i=>Nat.blt i m)&&sK π&&((List.range m).all fun i=>gQ i π)&&BD all tab pubs π&&YP tab m all.size&&
   (π.all fun i=>sK (pubs i)&&(pubs i).all fun j=>Nat.blt j all.size)
variable{G:Rg}
theorem Rg.Node.jr{i:Nat}{o:Oper}{a:Act}{h:GH}{E:aG}{K K':Act->GH->aG->Prop}(z:G.Rz h)(hc:r8 o=false\/kd o= .cl/\gQ i (G.pubs i)=true)(hk: ∀a h' E,G.Rz h'->K a h' E->K' a h' E)(x:G.Node i o a h E K):G.Node i o a h E K':=by
 unfold Rg.Node at*;split
 ·rename_i h0;rw [h0] at x;exact hk _ _ _ z x
 ·rename_i h0;rw [h0] at x;simp only at x;split
  ·rename_i h1;rw [h1] at x;obtain ⟨v,x1,x2⟩:=x;exact ⟨v,x1,hk _ _ _ z x2⟩
  ·rename_i h1;rw [h1] at x;obtain ⟨cs,sh,x1,x2,x3,x4⟩:=x;exact ⟨cs,sh,x1,x2,x3,fun b=>hk _ _ _ z (x4 b)⟩
  ·rename_i h1;have hm:=(hc.resolve_left (fun e=>by simp [r8,h1] at e)).2;rw [h1] at x;simp only [hm] at x⊢;obtain ⟨f,args,Q,x0,x1,x2,x3⟩:=x;exact ⟨f,args,Q,x0,x1,x2,fun v h' x' y1 y2 y3=>hk _ _ _ y2 (x3 v h' x' y1 y2 y3)⟩
  ·rename_i h1;rw [h1] at x;obtain ⟨t,b,off,v,j,y,y',ti,x1,x2,x3,x4,x5,x6,x7,x8⟩:=x;exact ⟨t,b,off,v,j,y,y',ti,x1,x2,x3,x4,x5,x6,x7,hk _ _ _ z x8⟩
  ·rename_i h1;exact absurd (hc.resolve_right (fun e=>by rw [h1] at e;cases e.1)) (by simp [r8,h1])
structure OH(G:Rg)(j i:Nat):Prop where
 ne:i≠j
 ok: ∀oi oj,G.all[i]? =some oi->G.all[j]? =some oj->oj.apart G.all oi=true/\(r8 oj=false\/kd oj= .cl/\gQ j (G.pubs j)=true/\fr2 (G.pubs j)=true/\kd oi= .mk)/\(kd oi= .qt->kd oj= .mk->G.pubs i=[])/\(kd oi≠ .qt\/kd oj≠ .qt-> ∀k,k∈G.pubs i->k∉G.pubs j)/\(gQ i (G.pubs i)=false\/R8 oj=true/\kd oi= .ap\/kd oj= .qt/\kd oi= .cl\/kd oj= .qt/\G.pubs j=[]/\kd oi= .ap)
 p1:j∉G.pubs i
 p2:i∉G.pubs j
theorem Rg.pull(hsel:Region.noSelect G.all=true){i:Nat}{oi:Oper}(hoi:G.all[i]? =some oi){π2:List Nat}: ∀(π1:List Nat) (a:Act) (h:GH) (E:aG),G.Rz h->(∀j,j∈π1->OH G j i)->
 G.W (π1++i::π2) a h E->G.Node i oi a h E (G.W (π1++π2))
 | [],a,h,E,z,hs,x=>by obtain ⟨o,ho,x⟩:=x;rw [hoi] at ho;injection ho with ho;subst ho;exact x
 |j::π1,a,h,E,z,hs,x=>by obtain ⟨oj,hoj,x⟩:=x;have s:=hs j (aa5 ..);obtain ⟨s1,s2,s4,s3,s0⟩:=s.ok oi oj hoi hoj;have x':=Rg.Node.jr (K':=fun a' h' E'=>G.Node i oi a' h' E' (G.W (π1++π2))) z (s2.imp id fun e=>⟨e.1,e.2.1⟩) (fun a h E z y=>Rg.pull hsel hoi π1 a h E z (fun k hk=>hs k (ab9 _ hk)) y) x;have y:=Rg.swap s.ne s1 s2 (Region.noSelect_spec hsel i oi · · hoi) (Region.noSelect_spec hsel j oj · · hoj) s0 s.p1 s.p2 s3 s4 z x';exact Rg.Node.map (fun a h E q=>⟨oj,hoj,q⟩) y
theorem S8{P:Program}{S:TT}{o:Oper}{a:Act}{w:World}{cs:List Value}(h:wS S o a=some (cs, .mp)):cs=[]/\(execOp a.eval o).run P w= .ok (.value (.map (some w.heap.size))) (w.alloc (.map #[] 0)):=by
 unfold wS at h;unfold execOp;cases hop:o.op<;>rw [hop] at h<;>try simp only [reduceCtorEq] at h
 case alloc t=>
  split at h
  ·injection h with h;injection h with h1 h2;cases h2
  ·cases h
 case box t x=>injection h with h;injection h with h1 h2;cases h2
 case makeMap t r=>
  cases r with
  |none=>
   simp only at h;injection h with h;injection h with h1 h2;refine ⟨h1.symm,?_⟩;simp [Instr.makeMap,newObj,Sem.run]
  |some r=>cases h
 case buildSlice t len parts=>
  split at h
  ·injection h with h;injection h with h1 h2;cases h2
  ·cases h
theorem K7{P:Program}{S:TT}(hS:S.Ok P){o:Oper}{a:Act}{w:World}{cs:List Value}{sh:Msh}(h:wS S o a=some (cs,sh))(hm:sh≠ .mp):
 ∃t,(execOp a.eval o).run P w= .ok (.value (zZ sh w.heap.size)) (w.alloc (.cells ⟨cs⟩ t)):=by
 unfold wS at h;unfold execOp;cases hop:o.op<;>rw [hop] at h<;>try simp only [reduceCtorEq] at h
 case alloc t=>
  split at h
  ·rename_i ti ht;injection h with h;injection h with h1 h2;subst h1;subst h2;obtain ⟨z,hz,hzl⟩:=jV (w:=w) (TT.Ok.get hS ht);refine ⟨t,?_⟩;have:z.cells=⟨ti.zero⟩:=by rw [<-hzl]
   simp [Instr.alloc,hz,newVar,newRow,zZ,this]
  ·cases h
 case box t x=>
  injection h with h;injection h with h1 h2;subst h1;subst h2;refine ⟨t,?_⟩;have:(a.eval x).cells=⟨aM (a.eval x)⟩:=by rw [lQ]
  simp [Instr.box,newVar,newRow,zZ,this]
 case makeMap t r=>
  cases r with
  |none=>simp only at h;injection h with h;injection h with h1 h2;exact absurd h2.symm hm |some r=>cases h
 case buildSlice t len parts=>
  split at h
  ·rename_i r hr;injection h with h;injection h with h1 h2;subst h1;subst h2;unfold wO at hr;split at hr
   ·rename_i ti ht;split at hr
    ·rename_i el hd;split at hr
     ·rename_i ei hei;split at hr
      ·cases hr
      ·rename_i hz;have hz:=fL hz;split at hr
       ·rename_i hsz;have hsz:len*ei.size<=16777216:=ai9 hsz;have ok:=TT.Ok.get hS ht;have oke:=TT.Ok.get hS hei;obtain ⟨z,hzv,hzl⟩:=jV (w:=w) oke;have hzc:z.cells=⟨ei.zero⟩:=by rw [<-hzl]
        have hne:ei.zero≠[]:=by intro e;have:=oke.len;rw [e] at this;simp only [List.length_nil] at this;rw [<-this] at hz;simp at hz
        have hf:=xC (σ:=a.eval) (place':=fun i=>some (i*ei.size,ei.size)) (fun x v hx=>by injection hx) (fun i y hy=>hy) hr;have hf':Instr.fill (fun i=>some (i*ei.size,ei.size)) ⟨(List.replicate len ei.zero).flatten⟩ (parts.map fun (x:Nat×Operand)=>(x.1,a.eval x.2)).toList=some ⟨r⟩:=by rw [ak7];exact hf
        have hrow:=iI ei.zero hne len;rw [oke.len] at hrow;refine ⟨el,?_⟩;have e2: ¬(len*ei.size>2^24):=by omega
        simp only [Instr.buildSlice,ab8,run_underlying ok,hd,ab1,run_sizeOf oke,e2,if_false,hz,hzv,ac5,hzc];rw [show ((⟨ei.zero⟩:Array Value))=ei.zero.toArray from rfl,hrow];simp only [hf'];simp [newRow,zZ]
       ·cases hr
     ·cases hr
    ·cases hr
   ·cases hr
  ·cases h
theorem sE{C:qJ}{L0:List bV}{n:Nat}{w:World}: ∀(D:List Nat) (E:aG) (h:GH),D.Nodup->(∀j,j∈D->j<n)->St C.w0 h (aG.list n E++L0) w->
 St C.w0 (iA E D h) (aG.list n (oK D E)++L0) w/\tW E D h
 | [],E,h,_,_,s=>⟨s,GH.le_refl _,fun _ hj=>by cases hj⟩ |j::D,E,h,hn,hl,s=>by
  obtain ⟨n1,n2⟩:=aj1.1 hn;have hcong: ∀g,iA E D g=iA (E.set j none) D g:=fun g=>i7 D g fun k hk=>(aG.ai E (fun e=>n1 (by rw [<-e];exact hk)) _).symm;simp only [iA,oK];cases hj:E j with
  |none=>
   simp only;have:E.set j none=E:=by rw [<-hj];exact aG.set_same E j
   rw [this];obtain ⟨s3,l3,l4⟩:=sE D E h n2 (fun k hk=>hl k (ab9 _ hk)) s;refine ⟨s3,by simp only [iA,hj];exact l3,fun k hk x hx i v hv=>?_⟩;simp only [iA,hj];rcases ab6.1 hk with rfl|hk
   ·rw [hj] at hx;cases hx
   ·exact l4 k hk x hx i v hv
  |some x=>
   simp only;have hp:=aG.bh (hl j (aa5 ..)) hj;have s1:St C.w0 h (x::(aG.list n (E.set j none)++L0)) w:=s.perm (hp.append_right L0);obtain ⟨b,lo,cs,ob⟩:=x;have s2:=s1.bc;have hle:=s1.bz;obtain ⟨s3,l3,l4⟩:=sE D (E.set j none) _ n2 (fun k hk=>hl k (ab9 _ hk)) s2;have hc2:=hcong (h.add b lo cs);refine ⟨by rw [hc2];exact s3,by simp only [iA,hj];rw [hc2];exact GH.le_trans hle l3,fun k hk x hx i v hv=>?_⟩;simp only [iA,hj];rw [hc2];rcases ab6.1 hk with rfl|hk
   ·rw [hj] at hx;injection hx with hx;subst hx;exact l3 _ _ _ (GH.cr h b lo cs hv)
   ·exact l4 k hk x (by rw [aG.ai E (fun e=>n1 (by rw [<-e];exact hk))];exact hx) i v hv
theorem Rg.Node.sound{i:Nat}{o:Oper}{a:Act}{h:GH}{E:aG}{K:Act->GH->aG->Prop}{w:World}(hi:i<G.all.size)(hp:(G.pubs i).Nodup/\ ∀j,j∈G.pubs i->j<G.all.size)
 (x:G.Node i o a h E K) (s:G.live h E w):
 (eG G.all o a=true->o.wp G.C.P a w (fun a' w'=> ∃h' E',G.live h' E' w'/\a'.defers=a.defers/\K a' h' E') (fun _ _ _=>False))/\
 (eG G.all o a=false->K (a.put o.dst undef) h E):=by
 unfold Rg.Node at x;cases hon:eG G.all o a with
 |false=>rw [hon] at x;exact ⟨fun e=>(by cases e),fun _=>x⟩ |true=>
  rw [hon] at x;simp only at x;refine ⟨fun _=>?_,fun e=>(by cases e)⟩;split at x
  ·rename_i hk;obtain ⟨v,x1,x2⟩:=x;have hr:(execOp a.eval o).run G.C.P w= .ok (.value v) w:=by
    rcases x1 with x1|⟨j,t,b,off,y,ti,u1,u2,u3,u4,u5,u6⟩
    ·exact x1 _ w s
    ·have hj:j<G.all.size:=hp.2 j (by rw [u1];exact ab0.2 T);have hl:=aG.bh hj u4;have s1:St G.C.w0 h (y::(aG.list G.all.size (E.set j none)++G.L0)) w:=St.perm s (hl.append_right G.L0);have h1:=nF (TT.Ok.get G.C.ok u3) (s1.own y (aa5 ..)) u5 u6;unfold SE at u2;split at u2
     ·rename_i t' p hop;split at u2
      ·rename_i b' off' hpz;injection u2 with u2;injection u2 with e1 u2;injection u2 with e2 e3;subst e1;subst e2;subst e3;unfold execOp;rw [hop];simp only [hpz,ab8,h1,ab1,ac5]
      ·cases u2
     ·cases u2
   unfold Oper.wp;rw [hr];exact ⟨h,E,s,put_defers,x2⟩
  ·rename_i hk;obtain ⟨cs,sh,x1,x2,x3,x4⟩:=x
   by_cases hmp:sh= .mp
   ·subst hmp;obtain ⟨rfl,hr⟩:=S8 (P:=G.C.P) (w:=w) x1;unfold Oper.wp;rw [hr];refine ⟨h,_,?_,put_defers,x4 w.heap.size⟩;have s1:=St.dc s (.map #[] 0) (fun _ _ _ x=>by cases x);refine St.perm s1 ?_;have hl:=aG.ay hi E (wR .mp w.heap.size []);rw [show E.set i none=E from by rw [<-x3];exact aG.set_same E i] at hl;exact (hl.append_right G.L0).symm
   ·obtain ⟨t,hr⟩:=K7 (w:=w) G.C.ok x1 hmp;unfold Oper.wp;rw [hr];refine ⟨h,_,?_,put_defers,x4 _⟩;have s1:=St.alloc s ⟨cs⟩ t x2;refine St.perm s1 ?_;have hob:mkObj sh=none:=by cases sh<;>first|rfl|exact absurd T hmp
    have hl:=aG.ay hi E (wR sh w.heap.size cs);rw [show E.set i none=E from by rw [<-x3];exact aG.set_same E i] at hl;have e:wR sh w.heap.size cs=⟨w.heap.size,0,cs,none⟩:=by rw [wR,hob]
    rw [e] at hl⊢;exact (hl.append_right G.L0).symm
  ·rename_i hk;split at x
   ·rename_i hkm;obtain ⟨f,args,x1,x2,x3⟩:=x;obtain ⟨s1,pk⟩:=sE (C:=G.C) (G.pubs i) E h hp.1 hp.2 s;have l1:=pk.1;obtain ⟨⟨gg,c,h1,h2,h3⟩,hcalls⟩:=x2 pk (aG.list G.all.size (oK (G.pubs i) E));have hrun:(execOp a.eval o).run G.C.P w= .ok (.enter f ⟨args⟩) w:=by
     unfold wC at x1;split at x1
     ·rename_i c' hop;split at x1
      ·rename_i z hc;split at x1
       ·rename_i f' fst cap hz;injection x1 with x1;injection x1 with e1 e2;subst e1;subst e2;have e1:c'.args.map a.eval=⟨c'.args.toList.map a.eval⟩:=by apply ag8;simp
        have e2:fst++(⟨c'.args.toList.map a.eval⟩:Array Value)++cap=⟨fst.toList++(c'.args.toList.map a.eval++cap.toList)⟩:=by apply ag8;simp
        unfold execOp;rw [hop];have hcf:(callFunc f' (fst++(⟨c'.args.toList.map a.eval⟩:Array Value)++cap)).run G.C.P w= .ok (.enter f' ⟨fst.toList++(c'.args.toList.map a.eval++cap.toList)⟩) w:=by simp only [callFunc,ab8,run_program,ab1,h1,h3,am7,if_false,h2,aq8,ac5,e2]
        simp only [resolve,e1,hc,hz,Deferred.ofValue,ab8,ac5,ab1,invoke];rw [hcf]
       ·cases x1
      ·cases x1
     ·cases x1
    unfold Oper.wp;rw [hrun];refine (hcalls w s1).mono fun e w' ⟨v,h',L',e1,⟨e2,e3,e4⟩,e5⟩=>?_;subst e1;subst e2;exact ⟨h',_,e5,put_defers,x3 v h' e3 (GH.le_trans l1 e3) ⟨w',e5.sub (ag4 _ _)⟩ e4⟩
   ·rename_i hkm;obtain ⟨f,args,Q,_,x1,x3,x4⟩:=x;have hl:=aG.gp hi E;have s1:St G.C.w0 h ((E i).toList++(aG.list G.all.size (E.set i none)++G.L0)) w:=St.perm s (by rw [<-ab2];exact hl.append_right G.L0);obtain ⟨⟨gg,c,h1,h2,h3⟩,hcalls⟩:=x3 (aG.list G.all.size (E.set i none));have hrun:(execOp a.eval o).run G.C.P w= .ok (.enter f ⟨args⟩) w:=by
     unfold wC at x1;split at x1
     ·rename_i c' hop;split at x1
      ·rename_i z hc;split at x1
       ·rename_i f' fst cap hz;injection x1 with x1;injection x1 with e1 e2;subst e1;subst e2;have e1:c'.args.map a.eval=⟨c'.args.toList.map a.eval⟩:=by apply ag8;simp
        have e2:fst++(⟨c'.args.toList.map a.eval⟩:Array Value)++cap=⟨fst.toList++(c'.args.toList.map a.eval++cap.toList)⟩:=by apply ag8;simp
        unfold execOp;rw [hop];have hcf:(callFunc f' (fst++(⟨c'.args.toList.map a.eval⟩:Array Value)++cap)).run G.C.P w= .ok (.enter f' ⟨fst.toList++(c'.args.toList.map a.eval++cap.toList)⟩) w:=by simp only [callFunc,ab8,run_program,ab1,h1,h3,am7,if_false,h2,aq8,ac5,e2]
        simp only [resolve,e1,hc,hz,Deferred.ofValue,ab8,ac5,ab1,invoke];rw [hcf]
       ·cases x1
      ·cases x1
     ·cases x1
    unfold Oper.wp;rw [hrun];refine (hcalls w s1).mono fun e w' ⟨v,h',L',e1,⟨x',e2,e3,e4⟩,e5⟩=>?_;subst e1;have e6:=e5.sub e2;have e7:St G.C.w0 h' (aG.list G.all.size (E.set i x')++G.L0) w':=St.perm e6 (by rw [<-ab2];exact ((aG.gq hi E x').append_right G.L0).symm);exact ⟨h',_,e7,put_defers,x4 v h' x' e3 ⟨w',e7.sub (ag4 _ _)⟩ e4⟩
  ·rename_i hk;obtain ⟨t,b,off,v,j,y,y',ti,x1,x2,x3,x4,x5,x6,x7,x8⟩:=x;have hj:j<G.all.size:=hp.2 j (by rw [x3];exact ab0.2 T);have hl:=aG.bh hj x4;have s1:St G.C.w0 h ([]++y::(aG.list G.all.size (E.set j none)++G.L0)) w:=St.perm s (hl.append_right G.L0);obtain ⟨w',h1,h2⟩:=QJ (TT.Ok.get G.C.ok x2) s1 x5 x6;unfold TH at x1;split at x1
   ·rename_i t' p z hop;split at x1
    ·rename_i b' off' hpz;injection x1 with x1;injection x1 with e1 x1;injection x1 with e2 x1;injection x1 with e3 e4;subst e1;subst e2;subst e3;subst e4;unfold Oper.wp execOp;rw [hop];simp only [hpz,ab8,h1,ab1,ac5];refine ⟨h,_,?_,by rw [x7];rfl,by rw [x7];exact x8⟩;refine St.perm h2 ?_;have hq:=aG.ay hj E y';exact (hq.append_right G.L0).symm
    ·cases x1
   ·cases x1
  ·rename_i hk;split at x
   rotate_left
   ·obtain ⟨v,w',h',E',u1,u2,_,u3⟩:=x w s;unfold Oper.wp;rw [u1];exact ⟨h',E',u2,put_defers,u3⟩
   obtain ⟨y1,y2,⟨sz,co⟩,y,⟨t,t2,el,ti,ei,u1,u2,u3,u4,u5,u6,u7,u8,u9⟩,x2,x3,x4,x5⟩:=x;obtain ⟨s1,pk⟩:=sE (C:=G.C) (G.pubs i) E h hp.1 hp.2 s;have u8:sz=ei.size:=u8;subst u8;have hEi:oK (G.pubs i) E i=some y:=by rw [kA,iF x3,x2]
   have hl:=aG.bh hi hEi;have s2:St G.C.w0 (iA E (G.pubs i) h) (y::(aG.list G.all.size ((oK (G.pubs i) E).set i none)++G.L0)) w:=St.perm s1 (hl.append_right G.L0);cases co with
   |true=>
    have u9:t2=t:=u9 T;subst u9;obtain ⟨tl,c1,c2,a1,a2,hb⟩:=x4 pk;obtain ⟨v',w',h',x',r1,r2,r3,r4,r5⟩:=DW (ty:=o.type) G.C.ok u2 u3 u4 u5 u6 u7 s2 a1 tl a2 hb;unfold Oper.wp execOp;rw [u1];simp only [resolve,invoke,builtin,List.map_toArray,af6,am9,ab8,ac5,ab1,r1];refine ⟨h',_,?_,put_defers,x5 v' h' x' pk r2 (GH.le_trans pk.1 r2) ⟨w',r5.sub (by exact (ag4 _ _).trans (ao4 _ _))⟩ ⟨r4,c1,c2,a1.mono r2,a2.mono r2,r3⟩⟩;refine St.perm r5 ?_;have hq:=aG.ay hi (oK (G.pubs i) E) x';exact (hq.append_right G.L0).symm
   |false=>
    obtain ⟨n,k1,k2,hat,b1,b2⟩:=x4 pk;obtain ⟨hobj,o1,n1,c1,o2,n2,c2,e1,e2,e3,e4,e5⟩:=id hat;obtain ⟨yb,ylo,ycs,yob⟩:=y;simp only at hobj e1 e2 e3 e4 b1 b2;subst hobj;have hlt:((ycs.drop k2).take (n*ei.size)).length=n*ei.size:=by rw [List.length_take,ad7];omega
    have hex: ∃r,dY ycs k1 ((ycs.drop k2).take (n*ei.size))=some r:=LM _ _ _ (by rw [hlt];exact b1);obtain ⟨r,hr⟩:=hex;have hown:=s2.own ⟨yb,ylo,ycs,none⟩ (aa5 ..);have hcs:(Builtin.firstCells ei.size (av5 n2 n1) (a.eval y2)).run G.C.P w= .ok ⟨(ycs.drop k2).take (n*ei.size)⟩ w:=by
     rw [e2,<-e5];refine run_firstCells_some (P:=G.C.P) w ei.size n ⟨yb,o2,none⟩ n2 c2 _ hlt fun j v hv=>?_;rw [eF];have hj:j<n*ei.size:=by
      rcases ae4 j (n*ei.size) with h|h
      ·exact h
      ·rw [ac6 (by rw [hlt];exact h)] at hv;cases hv
     rw [aq6 hj,al0] at hv;have:=hown.cell (k2+j) v hv;rw [e4,Nat.add_assoc];exact this
    obtain ⟨w',r1,r2⟩:=YD (ty:=o.type) (t2:=t2) (n2:=n2) (c1:=c1) G.C.ok u2 u3 u4 s2 e3 (by rw [e2];rfl) hcs (fun u hu=>hown.one u (List.mem_of_mem_drop (List.mem_of_mem_take hu))) hr;unfold Oper.wp execOp;rw [u1];simp only [resolve,invoke,builtin,List.map_toArray,af6,am9,ab8,ac5,ab1,e1,r1];refine ⟨_,_,?_,put_defers,x5 _ (iA E (G.pubs i) h) ⟨yb,ylo,r,none⟩ pk (GH.le_refl _) pk.1 ⟨w',r2.sub (by exact (ag4 _ _).trans (ao4 _ _))⟩ ⟨n,k1,k2,r,hat,by rw [e5],hr,rfl⟩⟩;refine St.perm r2 ?_;have hq:=aG.ay hi (oK (G.pubs i) E) ⟨yb,ylo,r,none⟩;exact (hq.append_right G.L0).symm
end Go.Tp
namespace Go.Tp
open Go Go.RowKit
theorem O1{all:Array Oper}{listed:Array Bool}(t fuel:Nat)(hr:Region.ready .any all listed≠[]):
 ∃i t',i∈Region.ready .any all listed/\Region.linearise.go .any all (fuel+1) t listed []=i::Region.linearise.go .any all fuel t' (listed.setIfInBounds i true) []:=by
 have hlen:0<(Region.ready .any all listed).length:=List.length_pos_iff.2 hr;have hlt:t % (Region.ready .any all listed).length<(Region.ready .any all listed).length:=Nat.mod_lt _ hlen;obtain ⟨i,hi⟩:=getElem?_some_of_lt hlt;refine ⟨i,t / (Region.ready .any all listed).length,aa2 hi,?_⟩;have:Region.linearise.go .any all (fuel+1) t listed []=match (Region.ready .any all listed)[t % (Region.ready .any all listed).length]? with
  |some i=>Region.linearise.go .any all fuel (t / (Region.ready .any all listed).length) (listed.setIfInBounds i true) [i] |none=>[].reverse:=rfl
 rw [this,hi];simp only;rw [linearise_go_acc];rfl
theorem nA{l:Array Bool}{i j:Nat}(hi:i<l.size):(l.setIfInBounds i true).getD j false=true↔(j=i\/l.getD j false=true):=by
 simp only [ah2,ao8]
 by_cases h:i=j
 ·subst h;simp [hi]
 ·rw [iF h];constructor
  ·intro x;exact .inr x
  ·rintro (x|x)
   ·exact absurd x.symm h
   ·exact x
theorem HE{l:Array Bool}{j:Nat}(hj:j<l.size):l.getD j true=l.getD j false:=by simp [ah2,hj]
theorem DM{all:Array Oper}(hback: ∀(i:Nat) o,all[i]? =some o-> ∀e,e∈o.after->Region.binds .any e=true->e.on<i){listed:Array Bool}(hs:listed.size=all.size){i:Nat}(hi:i<all.size)(hu:listed.getD i false=false):
 Region.ready .any all listed≠[]:=by
 obtain ⟨i0,h1,h2,h3⟩: ∃i0,i0<all.size/\listed.getD i0 false=false/\ ∀j,j<i0->listed.getD j false=true:=by
  induction i using au1 with
  |_ i ih=>
   by_cases h: ∃j,j<i/\listed.getD j false=false
   ·obtain ⟨j,hj,hju⟩:=h;exact ih j hj (by omega) hju
   ·refine ⟨i,hi,hu,fun j hj=>?_⟩;cases hc:listed.getD j false with
    |true=>rfl |false=>exact absurd ⟨j,hj,hc⟩ h
 have:i0∈Region.ready .any all listed:=mem_ready.2 ⟨by rw [HE (by omega)];exact h2,all[i0],by simp [h1],fun e he hb=>h3 _ (hback i0 _ (by simp [h1]) e he hb)⟩;intro e;rw [e] at this;cases this
structure LY(all:Array Oper)(m:Nat)(π:List Nat)(listed:Array Bool):Prop where
 size:listed.size=all.size
 un: ∀i,i<all.size->(listed.getD i false=false↔(i∈π\/m<=i))
 down:uT all (fun i=>listed.getD i false)
theorem LY.step{all:Array Oper}{m:Nat}{π1 π2:List Nat}{i:Nat}{listed:Array Bool}(d:LY all m (π1++i::π2) listed)(hn:(π1++i::π2).Nodup)(hi:i∈Region.ready .any all listed)(hm:i<m)(hms:m<=all.size):
 LY all m (π1++π2) (listed.setIfInBounds i true):=by
 have hin:i<all.size:=by omega
 obtain ⟨r1,o,ho,r2⟩:=mem_ready.1 hi;refine ⟨by simp [d.size],fun j hj=>?_,fun j oj hoj hj e he hb=>?_⟩
 ·have hx:=nA (l:=listed) (i:=i) (j:=j) (by rw [d.size];exact hin);have hd:=d.un j hj;have hnn:i∉π1/\i∉π2:=by
   have:=List.nodup_append.1 hn;refine ⟨fun h=>this.2.2 i h i (aa5 ..) T,(aj1.1 this.2.1).1⟩
  constructor
  ·intro h;have h0: ¬(j=i\/listed.getD j false=true):=fun hc=>by rw [hx.2 hc] at h;cases h
   have hji:j≠i:=fun e=>h0 (.inl e);have h1:listed.getD j false=false:=by
    cases hc:listed.getD j false with
    |false=>rfl |true=>exact (h0 (.inr hc)).elim
   rcases hd.1 h1 with h2|h2
   ·simp only [ad8,ab6] at h2⊢;rcases h2 with h2|h2|h2
    ·exact .inl (.inl h2)
    ·exact (hji h2).elim
    ·exact .inl (.inr h2)
   ·exact .inr h2
  ·intro h;have hji:j≠i:=by
    rintro rfl;rcases h with h|h
    ·rcases ad8.1 h with h|h
     ·exact hnn.1 h
     ·exact hnn.2 h
    ·omega
   have h1:listed.getD j false=false:=hd.2 (by
    rcases h with h|h
    ·left;simp only [ad8,ab6] at h⊢;rcases h with h|h
     ·exact .inl h
     ·exact .inr (.inr h)
    ·exact .inr h)
   cases hc:(listed.setIfInBounds i true).getD j false with
   |false=>rfl
   |true=>rcases hx.1 hc with e|e
          ·exact (hji e).elim
          ·rw [h1] at e;cases e
 ·have hx:=fun k=>nA (l:=listed) (i:=i) (j:=k) (by rw [d.size];exact hin);rcases (hx j).1 hj with e'|e'
  ·subst e';rw [ho] at hoj;injection hoj with hoj;subst hoj;exact (hx _).2 (.inr (r2 e he hb))
  ·exact (hx _).2 (.inr (d.down j oj hoj e' e he hb))
theorem AK{all:Array Oper}(hback: ∀(i:Nat) o,all[i]? =some o-> ∀e,e∈o.after->Region.binds .any e=true->e.on<i){m:Nat}(hms:m<=all.size)
 (htail: ∀k,k<all.size->m<=k-> ∀j,j<k->xT (sF all.toList []) k j=true):
 ∀(fuel t m':Nat) (listed:Array Bool),m<=m'->fuel+m'=all.size->listed.size=all.size->(∀i,i<all.size->(listed.getD i false=false↔m'<=i))->uT all (fun i=>listed.getD i false)->
  Region.linearise.go .any all fuel t listed []=ah1 m' fuel
 |0,t,m',listed,_,_,_,_,_=>rfl |fuel+1,t,m',listed,hm,hf,hs,hu,hd=>by
  have hlt:m'<all.size:=by omega
  have hne:=DM hback hs hlt ((hu m' hlt).2 (ab3 _));obtain ⟨i,t',hi,hgo⟩:=O1 t fuel hne;obtain ⟨r1,o,ho,r2⟩:=mem_ready.1 hi;have hin:i<all.size:=by
   rcases ae4 i all.size with h|h
   ·exact h
   ·rw [af9 h] at ho;cases ho
  have hiu:listed.getD i false=false:=by rw [<-HE (by omega)];exact r1
  have hge:=(hu i hin).1 hiu;have him:i=m':=by
   rcases ae4 m' i with h|h
   ·have:listed.getD m' false=true:=I4 hd hback i o ho r2 m' (htail i hin (by omega) m' h);rw [(hu m' hlt).2 (ab3 _)] at this;cases this
   ·omega
  subst him;rw [hgo,at5];congr 1;refine AK hback hms htail fuel t' (i+1) _ (by omega) (by omega) (by simp [hs]) (fun j hj=>?_) (fun j oj hoj hj e he hb=>?_)
  ·have hx:=nA (l:=listed) (i:=i) (j:=j) (by omega);constructor
   ·intro h;have h0: ¬(j=i\/listed.getD j false=true):=fun hc=>by rw [hx.2 hc] at h;cases h
    have h1:listed.getD j false=false:=by
     cases hc:listed.getD j false with
     |false=>rfl |true=>exact (h0 (.inr hc)).elim
    have:=(hu j hj).1 h1;have hji:j≠i:=fun e=>h0 (.inl e);omega
   ·intro h;cases hc:(listed.setIfInBounds i true).getD j false with
    |false=>rfl
    |true=>rcases hx.1 hc with e|e
           ·omega
           ·rw [(hu j hj).2 (by omega)] at e;cases e
  ·have hx:=fun k=>nA (l:=listed) (i:=i) (j:=k) (by omega);rcases (hx j).1 hj with e'|e'
   ·subst e';rw [ho] at hoj;injection hoj with hoj;subst hoj;exact (hx _).2 (.inr (r2 e he hb))
   ·exact (hx _).2 (.inr (hd j oj hoj e' e he hb))
structure BL(G:Rg)(m:Nat)(π:List Nat):Prop where
 sel:Region.noSelect G.all=true
 back: ∀(i:Nat) o,G.all[i]? =some o-> ∀e,e∈o.after->Region.binds .any e=true->e.on<i
 len:π.length=m
 le:m<=G.all.size
 lt: ∀i,i∈π->i<m
 nodup:π.Nodup
 full: ∀i,i<m->i∈π
 pairs:π.Pairwise fun j i=>xT (sF G.all.toList []) j i=false/\(xT (sF G.all.toList []) i j=true\/OH G j i)
 tail: ∀k,k<G.all.size->m<=k-> ∀j,j<k->xT (sF G.all.toList []) k j=true
 pubs: ∀i,i∈π->(G.pubs i).Nodup/\ ∀j,j∈G.pubs i->j<G.all.size
theorem wU{G:Rg}{tab:List Nat}: ∀(π:List Nat),π.Nodup->BD G.all tab G.pubs π=true->π.Pairwise fun j i=>xT tab j i=false/\(xT tab i j=true\/OH G j i)
 | [],_,_=> .nil |j::l,hn,h=>by
  obtain ⟨n1,n2⟩:=aj1.1 hn;simp only [BD,aa3,ae5] at h;refine .cons (fun i hi=>?_) (wU l n2 h.2);have hp:=h.1 i hi;simp only [XK,aa3,aj7,al8] at hp;refine ⟨hp.1,hp.2.imp id fun hq=>?_⟩;split at hq
  ·rename_i oj hoj;split at hq
   ·rename_i oi hoi;simp only [aa3,al8,aj7,ae5] at hq;obtain ⟨⟨⟨⟨⟨⟨q1,q2⟩,q0⟩,q3⟩,q4⟩,q6⟩,q5⟩:=hq;rw [cZ,ad5] at hoj hoi;refine ⟨fun e=>n1 (e▸hi),fun oi' oj' h1 h2=>?_,fun hm=>(by rw [gR.2 hm] at q3;cases q3),fun hm=>(by rw [gR.2 hm] at q4;cases q4)⟩
    ·rw [hoi] at h1;rw [hoj] at h2;injection h1 with h1;injection h2 with h2;subst h1;subst h2;refine ⟨q1,q2.imp id RX,SD q6,fun hne k hk hm=>?_,(by
      rcases q0 with ((q|q)|q)|q
      ·exact .inl q
      ·exact .inr (.inl ⟨q.1,FT q.2⟩)
      ·exact .inr (.inr (.inl ⟨CP q.1,MW q.2⟩))
      ·exact .inr (.inr (.inr ⟨CP q.1.1,W7 q.2,FT q.1.2⟩)))⟩
     rcases q5 with q5|q5
     ·obtain ⟨e1,e2⟩:=JA q5;exact hne.elim (fun h=>h e1) (fun h=>h e2)
     ·have:=q5 k hk;rw [gR.2 hm] at this;cases this
   ·cases hq
  ·cases hq
theorem rV{G:Rg}{m:Nat}{π:List Nat}(h:G9 G.all m π G.pubs=true):BL G m π:=by
 unfold G9 at h;rw [FJ] at h;simp only [aa3,ae5] at h;obtain ⟨⟨⟨⟨⟨⟨⟨⟨⟨h1,h2⟩,h3⟩,h4⟩,h5⟩,h6⟩,hfull⟩,h7⟩,h8⟩,h9⟩:=h;have hb:=zK _ _ h2;refine ⟨h1,fun i o ho e he hbe=>?_,ac3 h3,ai9 h4,fun i hi=>by simpa [ai7] using h5 i hi,i6 h6,fun i hi=>gR.1 (hfull i (by simpa using hi)),wU π (i6 h6) h7,fun k hk hmk j hj=>?_,fun i hi=>?_⟩
 ·have:=hb i o (by rw [ad5];exact ho) e he hbe;omega
 ·simp only [YP,ae5,List.mem_range,al8] at h8;rcases h8 k hk with e|e
  ·rw [ai7] at e;omega
  ·exact e j hj
 ·have:=h9 i hi;exact ⟨i6 this.1,fun j hj=>by simpa [ai7] using this.2 j hj⟩
def l7(all:Array Oper)(m:Nat)(π:List Nat)(pubs:Nat->List Nat):Bool:=match lB all.toList with
 |true=>G9 all m π pubs |false=>false
theorem qO{all:Array Oper}{m:Nat}{π:List Nat}{pubs:Nat->List Nat}(h:l7 all m π pubs=true):G9 all m π pubs=true/\lB all.toList=true:=by
 unfold l7 at h;split at h
 ·rename_i hn;exact ⟨h,hn⟩
 ·cases h
def Runs(C:qJ)(todo:List Item)(a:Act)(w:World)(b:Frame)(cs:List Frame):Prop:=
 ∃v w' m h' L',C.R v h' L'/\St C.w0 h' L' w'/\Steps C.P (lone (b.atR a todo) cs w) m/\C.Out cs w' v m/\True
theorem Rg.run(G:Rg){m:Nat}{π0:List Nat}(ok:BL G m π0){k:List It}(hk:hU k){b:Frame}{cs:List Frame}(hndf:lB G.all.toList=true)(hbf:b.fn=G.C.f)(hbk:FrOk G.C b cs)
 (hFin: ∀a h E,G.Fin a h E-> ∃e',Ag G.C.n G.C.D e' a/\V G.C (.ops G.all (G.all.toList.drop m)::k) e' h (aG.list G.all.size E++G.L0)):
 ∀(len:Nat) (π:List Nat),π.length=len->π.Sublist π0-> ∀(listed:Array Bool) (t:Nat) (a:Act) (h:GH) (E:aG) (w:World),LY G.all m π listed->G.W π a h E->G.live h E w->
  Runs G.C (.inRegion G.all (Region.linearise.go .any G.all (len+(G.all.size-m)) t listed [])::items k) a w b cs
 |0,π,hlen,hsub,listed,t,a,h,E,w,d,hW,s=>by
  have hπ:π=[]:=ad2.1 hlen;subst hπ;rw [ag9,AK ok.back ok.le ok.tail (G.all.size-m) t m listed (ab3 _) (by have:=ok.le;omega) d.size (fun i hi=>by have:=d.un i hi;simpa using this) d.down];obtain ⟨e',g,hv⟩:=hFin a h E hW;have hok:hU (.ops G.all (G.all.toList.drop m)::k):=tF (pre:=G.all.toList.take m) (by simp) hndf hk;obtain ⟨v,w',fr,h',L',r1,r2,r3,r4,r5⟩:=hv hok a w b cs g s hbf hbk;refine ⟨v,w',fr,h',L',r1,r2,?_,r4,r5⟩;have e:items (.ops G.all (G.all.toList.drop m)::k)= .inRegion G.all (ah1 m (G.all.size-m))::items k:=by simp only [items,af6,It.item,ad7,Array.length_toList];rw [show G.all.size-(G.all.size-m)=m by have:=ok.le;omega]
  rw [e] at r3;exact r3
 |len+1,π,hlen,hsub,listed,t,a,h,E,w,d,hW,s=>by
  have hpos: ∃i,i∈π:=by
   cases π with
   |nil=>simp at hlen |cons x l=>exact ⟨x,aa5 ..⟩
  obtain ⟨i1,hi1⟩:=hpos;have hi1m:i1<m:=ok.lt i1 (hsub.subset hi1);have hne:=DM ok.back d.size (i:=i1) (by have:=ok.le;omega) ((d.un i1 (by have:=ok.le;omega)).2 (.inl hi1));rw [show len+1+(G.all.size-m)=(len+(G.all.size-m))+1 by omega];obtain ⟨i,t',hi,hgo⟩:=O1 t (len+(G.all.size-m)) hne;rw [hgo];obtain ⟨r1,o,ho,r2⟩:=mem_ready.1 hi;have hin:i<G.all.size:=by
   rcases ae4 i G.all.size with h|h
   ·exact h
   ·rw [af9 h] at ho;cases ho
  have hiu:listed.getD i false=false:=by rw [<-HE (by rw [d.size];exact hin)];exact r1
  have hanc: ∀j,xT (sF G.all.toList []) i j=true->listed.getD j false=true:=fun j hj=>I4 d.down ok.back i o ho r2 j hj;have him:i∈π:=by
   rcases (d.un i hin).1 hiu with h|h
   ·exact h
   ·have:=hanc i1 (ok.tail i hin h i1 (by omega));rw [(d.un i1 (by have:=ok.le;omega)).2 (.inl hi1)] at this;cases this
  obtain ⟨π1,π2,hsplit⟩:=List.append_of_mem him;subst hsplit;have hpw:=ok.pairs.sublist hsub;have hnd:=ok.nodup.sublist hsub;have hsw: ∀j,j∈π1->OH G j i:=fun j hj=>by
   obtain ⟨_,q⟩:=(List.pairwise_append.1 hpw).2.2 j hj i (aa5 ..);rcases q with q|q
   ·have:=hanc j q;have hjm:j∈π1++i::π2:=ad6 _ hj;rw [(d.un j (by have:=ok.lt j (hsub.subset hjm);have:=ok.le;omega)).2 (.inl hjm)] at this;cases this
   ·exact q
  have z:G.Rz h:=⟨w,s.sub (ag4 _ _)⟩;have node:=Rg.pull ok.sel ho π1 a h E z hsw hW;have hmi:i<m:=ok.lt i (hsub.subset him);have d':=d.step hnd hi hmi ok.le;have hsub':(π1++π2).Sublist π0:=((List.Sublist.refl π1).append (ao4 i π2)).trans hsub;have hlen':(π1++π2).length=len:=by simp at hlen⊢;omega
  obtain ⟨n1,n2⟩:=Rg.Node.sound hin (ok.pubs i (hsub.subset him)) node s
  by_cases hon:eG G.all o a=true
  ·obtain ⟨a',w',⟨h',E',s',_,hW'⟩,st⟩:=NJ (P:=G.C.P) (b:=b) (k:=items k) (cs:=cs) (rest:=Region.linearise.go .any G.all (len+(G.all.size-m)) t' (listed.setIfInBounds i true) []) ho (vD hndf (by rw [ad5];exact ho)) hon (n1 hon);obtain ⟨v,w'',fr,h'',L'',q1,q2,q3,q4,q5⟩:=Rg.run G ok hk hndf hbf hbk hFin len (π1++π2) hlen' hsub' _ t' a' h' E' w' d' hW' s';exact ⟨v,w'',fr,h'',L'',q1,q2,st.trans q3,q4,q5⟩
  ·have hon:eG G.all o a=false:=by simpa using hon
   have hW':=n2 hon;obtain ⟨v,w'',fr,h'',L'',q1,q2,q3,q4,q5⟩:=Rg.run G ok hk hndf hbf hbk hFin len (π1++π2) hlen' hsub' _ t' _ h E w d' hW' s;refine ⟨v,w'',fr,h'',L'',q1,q2,?_,q4,q5⟩;have hs:=stepR_op_skip (P:=G.C.P) (b:=b) (a:=a) (k:=items k) (cs:=cs) (w:=w) (ops:=G.all) (i:=i) (rest:=Region.linearise.go .any G.all (len+(G.all.size-m)) t' (listed.setIfInBounds i true) []) (by simp only [ho,af8,an6];exact hon);rw [ho] at hs;exact .head hs q3
variable{C:qJ}{k:List It}{e:Env}{h:GH}{L:List bV}
abbrev cD(C:qJ)(all:Array Oper)(L:List bV)(pubs:Nat->List Nat)(Y:Nat->List Value->Value->GH->Prop)(m:Nat)(k:List It):Rg:=
 ⟨C,all,L,pubs,Y,fun a h E=> ∃e',Ag C.n C.D e' a/\V C (.ops all (all.toList.drop m)::k) e' h (aG.list all.size E++L)⟩
def WE(G:Rg)(π:List Nat)(e:Env)(h:GH)(E:aG):Prop:= ∀a,Ag G.C.n G.C.D e a->G.W π a h E
theorem V.draw{all:Array Oper}{id:Nat}(m:Nat)(π:List Nat)(pubs:Nat->List Nat)(Y:Nat->List Value->Value->GH->Prop)(hm:C.P.follows .mixedOrders=true)(hok:l7 all m π pubs=true)
 (hv:WE (cD C all L pubs Y m k) π e h aG.none):V C (.code (.region id all true)::k) e h L:=by
 intro ho a w b cs g s hf hk;have hok1:=qO hok;have hnd:=hok1.2;have ok:BL (cD C all L pubs Y m k) m π:=rV hok1.1;have hW:=hv a g;have s':(cD C all L pubs Y m k).live h aG.none {w with drawn:=w.drawn+1}:=by show St C.w0 h (aG.list all.size aG.none++L) _;rw [aG.dq];exact s.drew
 have hd:LY all m π (ag1 all.size false):=by
  refine ⟨by simp,fun i hi=>⟨fun _=>?_,fun _=>by simp [hi]⟩,fun i o ho hi=>?_⟩
  rotate_left
  ·have:(ag1 all.size false).getD i false=false:=by
    simp only [ah2,Array.getElem?_replicate];split<;>rfl
   have hi':(ag1 all.size false).getD i false=true:=hi;rw [this] at hi';cases hi'
  by_cases him:i<m
  ·left;exact ok.full i him
  ·right;omega
 have hr:=Rg.run (cD C all L pubs Y m k) ok (bQ ho) (cs:=cs) hnd hf hk (fun a h E x=>x) m π ok.len (List.Sublist.refl _) (ag1 all.size false) (w.tape w.drawn (.order b.fn id)) a h aG.none _ hd hW s';obtain ⟨v,w'',fr,h'',L'',q1,q2,q3,q4,q5⟩:=hr;refine ⟨v,w'',fr,h'',L'',q1,q2,?_,q4,q5⟩;have hstep:=stepR_region_draw (P:=C.P) (b:=b) (a:=a) (k:=items k) (cs:=cs) (w:=w) (ops:=all) (id:=id);have hsch:Region.schedule (C.P.follows .mixedOrders) all (w.tape w.drawn (.order b.fn id))=Region.linearise.go .any all (m+(all.size-m)) (w.tape w.drawn (.order b.fn id)) (ag1 all.size false) []:=by
  rw [show m+(all.size-m)=all.size by have:m<=all.size:=ok.le;omega];simp only [Region.schedule,hm,Bool.true_or,if_true]
  rfl
 rw [hsch] at hstep;exact .head hstep q3
end Go.Tp
namespace Go.Tp
open Go Go.RowKit
section we
variable{G:Rg}{π:List Nat}{e:Env}{h:GH}{E:aG}
theorem WE.value{i:Nat}{o:Oper}{m:Option (Nat×Bool)}{ks:List (Nat×Bool)}{v:Value}{e':Env}(ho:cR G.all.toList i=some o)(hk:kd o= .qt)(hg:oT e G.all o.guard=some (m,ks))
 (hr: ∀a w E,Ag G.C.n G.C.D e a->St G.C.w0 h (E++G.L0) w->eY a ks->(execOp a.eval o).run G.C.P w= .ok (.value v) w) (hp:e.put G.C.n m o.dst v=some e') (next:WE G π e' h E):WE G (i::π) e h E:=by
 intro a g;refine ⟨o,by rw [cZ,ad5] at ho;exact ho,?_⟩;unfold Rg.Node;rcases qP g hg with ⟨rfl,hon,hks⟩|⟨t,b,rfl,hiff,hks⟩
 ·rw [hon,hk];exact ⟨v, .inl fun E w s=>hr a w E g s hks,next _ (g.put hp)⟩
 ·cases hon:eG G.all o a with
  |true=>
   rw [hk];exact ⟨v, .inl fun E w s=>hr a w E g s (hks hon),next _ (g.ig hp (fun _=>rfl) (fun hx=>(hx (hiff.1 hon)).elim))⟩
  |false=>
   refine next _ (g.ig hp (fun hx=>?_) (fun _=>rfl))
   have:=hiff.2 hx;rw [hon] at this;cases this
def a0p(o:Oper):Bool:=match kd o with
 | .qt=>true |_=>false
theorem A8{o:Oper}{t:TypeId}{p:Operand}(ho:o.op= .load t p):kd o= .qt:=by unfold kd;rw [ho]
theorem CQ{o:Oper}{t:TypeId}{p q:Operand}(ho:o.op= .indexAddr t p q):kd o= .qt:=by unfold kd;rw [ho]
theorem WE.load{i:Nat}{o:Oper}{m:Option (Nat×Bool)}{ks:List (Nat×Bool)}{t:TypeId}{p:Operand}{b off:Nat}{ti:TI}{x:bV}{v:Value}{e':Env}
 (hi:cR G.all.toList i=some o) (hg:oT e G.all o.guard=some (m,ks)) (ho:o.op= .load t p) (hp:e.ev ks p=some (.pointer (some ⟨b,off,none⟩))) (ht:G.C.S.get t=some ti) [z:EntAt G.L0 b x]
 (hv:IW ti x off=some v) (hput:e.put G.C.n m o.dst v=some e') (next:WE G π e' h E):WE G (i::π) e h E:=
 WE.value hi (A8 ho) hg (fun a w E g s hk=>by have:=nF (TT.Ok.get G.C.ok ht) (s.own x (ag7 _ z.mem)) z.blk hv;unfold execOp;rw [ho];simp only [g.ev hk hp,ab8,this,ab1,ac5]) hput next
theorem WE.skip{i:Nat}{o:Oper}{x:Bool}{e':Env}(hi:cR G.all.toList i=some o)(hg:gno e G.all o.guard=some x)(hp:e.put G.C.n none o.dst undef=some e')(next:WE G π e' h E):WE G (i::π) e h E:=by intro a g;refine ⟨o,by rw [cZ,ad5] at hi;exact hi,?_⟩;unfold Rg.Node;have:eG G.all o a=false:=JP g hg;rw [this];exact next _ (g.put hp)
theorem WE.alloc{i:Nat}{o:Oper}{ks:List (Nat×Bool)}{t:TypeId}{ti:TI}{d:Nat}(hi:cR G.all.toList i=some o)
 (hg:iU e G.all o.guard=some ks) (ho:o.op= .alloc t) (ht:G.C.S.get t=some ti) (h1:aW ti.zero=true) (hd:o.dst=some d) (hc:hI G.C.n e d=true) (hE:E i=none)
 (next: ∀b,WE G π ⟨(d, .pointer (some ⟨b,0,none⟩))::e.us,e.cs⟩ h (E.set i (some ⟨b,0,ti.zero,none⟩))):WE G (i::π) e h E:=by
 intro a g;refine ⟨o,by rw [cZ,ad5] at hi;exact hi,?_⟩;unfold Rg.Node;have hk:kd o= .mk:=by unfold kd;rw [ho]
 rw [(gP g hg).1,hk];refine ⟨ti.zero, .ptr,by unfold wS;rw [ho];simp only [ht],h1,hE,fun b=>next b _ (g.put (by rw [hd];exact fY hc))⟩
theorem FX{place:Nat->Option (Nat×Nat)}{ρ ρ':Operand->Option Value}(hρ: ∀x v,ρ x=some v->ρ' x=some v): ∀(parts:List (Nat×Operand)) (cs:List Value) {r:List Value},tT place ρ parts cs=some r->tT place ρ' parts cs=some r
 | [],_,_,h=>h |(i,x)::p,cs,r,h=>by
  simp only [tT] at h⊢;split at h
  ·rename_i v hv;rw [hρ _ _ hv];simp only;split at h
   ·rename_i off size hpl
    (try rw [hpl])
    (try simp only)
    split at h
    ·rename_i hsz
     (try rw [hsz])
     (try simp only)
     split at h
     ·rename_i cs' hu
      (try rw [hu])
      exact FX hρ p cs' h
     ·cases h
    ·cases h
   ·cases h
  ·cases h
theorem F5{S:TT}{ρ ρ':Operand->Option Value}(hρ: ∀x v,ρ x=some v->ρ' x=some v){t:TypeId}{len:Nat}{parts:List (Nat×Operand)}{r:List Value}(h:wO S ρ t len parts=some r):wO S ρ' t len parts=some r:=by
 unfold wO at*;split at h
 ·split at h
  ·split at h
   ·split at h
    ·cases h
    ·split at h
     ·exact FX hρ _ _ h
     ·cases h
   ·cases h
  ·cases h
 ·cases h
theorem WE.lit{i:Nat}{o:Oper}{ks:List (Nat×Bool)}{t:TypeId}{len:Nat}{parts:Array (Nat×Operand)}{cs:List Value}{d:Nat}(hi:cR G.all.toList i=some o)
 (hg:iU e G.all o.guard=some ks) (ho:o.op= .buildSlice t len parts) (hl:wO G.C.S (e.ev ks) t len parts.toList=some cs) (h1:aW cs=true) (hd:o.dst=some d) (hc:hI G.C.n e d=true) (hE:E i=none)
 (next: ∀b,WE G π ⟨(d, .slice (some ⟨b,0,none⟩) len len)::e.us,e.cs⟩ h (E.set i (some ⟨b,0,cs,none⟩))):WE G (i::π) e h E:=by
 intro a g;refine ⟨o,by rw [cZ,ad5] at hi;exact hi,?_⟩;unfold Rg.Node;have hk:kd o= .mk:=by unfold kd;rw [ho]
 obtain ⟨g1,g2⟩:=gP g hg;rw [g1,hk];have hl':=F5 (ρ':=fun x=>some (a.eval x)) (fun x v hx=>by rw [g.ev g2 hx]) hl;refine ⟨cs, .sl len,by unfold wS;rw [ho];simp only [hl'],h1,hE,fun b=>next b _ (g.put (by rw [hd];exact fY hc))⟩
theorem WE.fu{i:Nat}{o:Oper}{ks:List (Nat×Bool)}{x:Operand}{args:Array Operand}{ts:Array TypeId}{f:FuncId}{fst cap:Array Value}{vs:List Value}{d:Nat}(hi:cR G.all.toList i=some o)
 (hg:iU e G.all o.guard=some ks) (ho:o.op= .call ⟨.value x,args,ts⟩) (hx:e.ev ks x=some (.func (.func f) fst cap)) (ha:RT (e.ev ks) args.toList=some vs)
 (hd:o.dst=some d) (hc:hI G.C.n e d=true)
 (hf:tW E (G.pubs i) h-> ∀L,vQ G.C.P G.C.w0 f (fst.toList++(vs++cap.toList)) (iA E (G.pubs i) h) (L++G.L0) (fun v h' L'=>L'=L++G.L0/\(iA E (G.pubs i) h).le h'/\G.Y i (fst.toList++(vs++cap.toList)) v h'))
 (next: ∀v h',(iA E (G.pubs i) h).le h'->h.le h'->G.Y i (fst.toList++(vs++cap.toList)) v h'->WE G π ⟨(d,v)::e.us,e.cs⟩ h' (oK (G.pubs i) E)) (hii:gQ i (G.pubs i)=false:=by rfl):WE G (i::π) e h E:=by
 intro a g;refine ⟨o,by rw [cZ,ad5] at hi;exact hi,?_⟩;unfold Rg.Node;have hk:kd o= .cl:=by unfold kd;rw [ho]
 obtain ⟨g1,g2⟩:=gP g hg;rw [g1,hk];have e1:args.toList.map a.eval=vs:=mC (fun x v hx=>g.ev g2 hx) ha;simp only [hii];refine ⟨f,fst.toList++(vs++cap.toList),by unfold wC;rw [ho];simp only [g.ev g2 hx,e1],hf,fun v h' y1 y2 _ y4=>next v h' y1 y2 y4 _ (g.put (by rw [hd];exact fY hc))⟩
theorem WE.jf{i:Nat}{o:Oper}{ks:List (Nat×Bool)}{x:Operand}{args:Array Operand}{ts:Array TypeId}{f:FuncId}{fst cap:Array Value}{vs:List Value}{d:Nat}{Q:Value->GH->Option bV->Prop}(hi:cR G.all.toList i=some o)
 (hg:iU e G.all o.guard=some ks) (ho:o.op= .call ⟨.value x,args,ts⟩) (hx:e.ev ks x=some (.func (.func f) fst cap)) (ha:RT (e.ev ks) args.toList=some vs)
 (hd:o.dst=some d) (hc:hI G.C.n e d=true) (hii:gQ i (G.pubs i)=true)
 (hf: ∀L,vQ G.C.P G.C.w0 f (fst.toList++(vs++cap.toList)) h ((E i).toList++(L++G.L0)) (fun v h' L'=> ∃x',(Option.toList x'++(L++G.L0)).Sublist L'/\h.le h'/\Q v h' x'))
 (next: ∀v h' x',h.le h'->Q v h' x'->WE G π ⟨(d,v)::e.us,e.cs⟩ h' (E.set i x')) (hfr:fr2 (G.pubs i)=true->E i=none):WE G (i::π) e h E:=by
 intro a g;refine ⟨o,by rw [cZ,ad5] at hi;exact hi,?_⟩;unfold Rg.Node;have hk:kd o= .cl:=by unfold kd;rw [ho]
 obtain ⟨g1,g2⟩:=gP g hg;rw [g1,hk];have e1:args.toList.map a.eval=vs:=mC (fun x v hx=>g.ev g2 hx) ha;simp only [hii];exact ⟨f,fst.toList++(vs++cap.toList),Q,hfr,by unfold wC;rw [ho];simp only [g.ev g2 hx,e1],hf,fun v h' x' y1 _ y4=>next v h' x' y1 y4 _ (g.put (by rw [hd];exact fY hc))⟩
def HR:Nat->List Nat:=fun _=>[]
theorem WE.store{i:Nat}{o:Oper}{ks:List (Nat×Bool)}{t:TypeId}{p y:Operand}{b off j:Nat}{ti:TI}{x x':bV}{v:Value}(hi:cR G.all.toList i=some o)
 (hg:iU e G.all o.guard=some ks) (ho:o.op= .store t p y) (hp:e.ev ks p=some (.pointer (some ⟨b,off,none⟩))) (hy:e.ev ks y=some v) (ht:G.C.S.get t=some ti)
 (hj:G.pubs i=[j]) (hE:E j=some x) (hb:x.b=b) (hv:N4 ti x off v=some x') (hd:o.dst=none) (next:WE G π e h (E.set j (some x'))):WE G (i::π) e h E:=by
 intro a g;refine ⟨o,by rw [cZ,ad5] at hi;exact hi,?_⟩;unfold Rg.Node;have hk:kd o= .st:=by unfold kd;rw [ho]
 obtain ⟨g1,g2⟩:=gP g hg;rw [g1,hk];exact ⟨t,b,off,v,j,x,x',ti,by unfold TH;rw [ho];simp only [g.ev g2 hp,g.ev g2 hy],ht,hj,hE,hb,hv,hd,next a g⟩
theorem WE.append{i:Nat}{o:Oper}{ks:List (Nat×Bool)}{y1 y2:Operand}{t el:TypeId}{ti ei:TI}{v1 v2:Value}{x:bV}{d:Nat}(hi:cR G.all.toList i=some o)
 (hg:iU e G.all o.guard=some ks) (ho:o.op= .call ⟨.builtin .append, #[y1,y2], #[t,t]⟩) (h1:e.ev ks y1=some v1) (h2:e.ev ks y2=some v2)
 (ht:G.C.S.get t=some ti) (hdd:ti.d= .slice el) (he:G.C.S.get el=some ei) (hsz:Nat.blt 0 ei.size=true) (hz1:aW ei.zero=true) (hby:Nat.ble ei.bytes 4096=true)
 (hd:o.dst=some d) (hc:hI G.C.n e d=true) (hE:E i=some x) (hp:i∉G.pubs i) (pre:tW E (G.pubs i) h->ApPre (iA E (G.pubs i) h) (ei.size,true) v1 v2 x)
 (next: ∀v' h' x',tW E (G.pubs i) h->(iA E (G.pubs i) h).le h'->h.le h'->ApY (ei.size,true) v1 v2 x v' h' x'->WE G π ⟨(d,v')::e.us,e.cs⟩ h' ((oK (G.pubs i) E).set i (some x'))):WE G (i::π) e h E:=by
 intro a g;refine ⟨o,by rw [cZ,ad5] at hi;exact hi,?_⟩;unfold Rg.Node;have hk:kd o= .ap:=by unfold kd;rw [ho]
 obtain ⟨g1,g2⟩:=gP g hg;rw [g1,hk];have e1:=g.ev g2 h1;have e2:=g.ev g2 h2;have hfl:gQ i (G.pubs i)=false:=by
  cases hb:gQ i (G.pubs i) with
  |false=>rfl |true=>exact (hp (gR.1 hb)).elim
 simp only [hfl];refine ⟨y1,y2,(ei.size,true),x,⟨t,t,el,ti,ei,ho,ht,hdd,he,by simpa [ai7] using hsz,hz1,ai9 hby,rfl,fun _=>rfl⟩,hE,hp,by rw [e1,e2];exact pre,fun v h' x' y0 y1 y2 _ y4=>?_⟩;rw [e1,e2] at y4;exact next v h' x' y0 y1 y2 y4 _ (g.put (by rw [hd];exact fY hc))
theorem WE.jd{i:Nat}{o:Oper}{ks:List (Nat×Bool)}{d:Nat}(hi:cR G.all.toList i=some o)(hg:iU e G.all o.guard=some ks)(hk:kd o= .ap)(hd:o.dst=some d)(hc:hI G.C.n e d=true)(hfl:gQ i (G.pubs i)=true)
 (hr: ∀a w,Ag G.C.n G.C.D e a->G.live h E w->eY a ks-> ∃v w' h' E',(execOp a.eval o).run G.C.P w= .ok (.value v) w'/\G.live h' E' w'/\h.le h'/\WE G π ⟨(d,v)::e.us,e.cs⟩ h' E'):WE G (i::π) e h E:=by
 intro a g;refine ⟨o,by rw [cZ,ad5] at hi;exact hi,?_⟩;unfold Rg.Node;obtain ⟨g1,g2⟩:=gP g hg;rw [g1,hk];simp only [hfl];intro w s;obtain ⟨v,w',h',E',u1,u2,u4,u3⟩:=hr a w g s g2;exact ⟨v,w',h',E',u1,u2,u4,u3 _ (g.put (by rw [hd];exact fY hc))⟩
def zY(E:aG):Nat->Nat->Option (List bV)
 |_,0=>some [] |i,k+1=>match E i with
  |some x=>match zY E (i+1) k with
   |some r=>some (x::r) |none=>none
  |none=>zY E (i+1) k
theorem uY(E:aG): ∀(k i:Nat) {r:List bV},zY E i k=some r->(ah1 i k).filterMap E=r
 |0,i,r,h=>by simp only [zY,Option.some.injEq] at h;subst h;rfl |k+1,i,r,h=>by
  simp only [zY] at h;rw [at5,am3];split at h
  ·rename_i x hx;split at h
   ·rename_i r' hr;injection h with h;subst h;rw [hx,uY E k (i+1) hr]
   ·cases h
  ·rename_i hx;rw [hx];exact uY E k (i+1) h
end we
theorem WE.nil{C:qJ}{all:Array Oper}{L0:List bV}{pubs:Nat->List Nat}{Y:Nat->List Value->Value->GH->Prop}{m:Nat}{k:List It}{e:Env}{h:GH}{E:aG}{l:List bV}
 (hl:zY E 0 all.size=some l) (hv:V C (.ops all (all.toList.drop m)::k) e h (l++L0)):WE (cD C all L0 pubs Y m k) [] e h E:=fun a g=>by
 refine ⟨e,g,?_⟩;have:aG.list all.size E=l:=by unfold aG.list;rw [List.range_eq_range'];exact uY E all.size 0 hl
 rw [this];exact hv
variable{C:qJ}{k:List It}{e:Env}{h:GH}{L:List bV}
def r7(S:TT)(t:TypeId)(x:Value)(i:Int):Option (Value×Nat):=match S.get t with
 |some ti=>match ti.d with
  | .slice el=>match S.get el with
    |some ei=>match x with
     | .slice (some ⟨b,o,none⟩) n _=>some (.pointer (some ⟨b,o+i.toNat*ei.size,none⟩),n) |_=>none
    |none=>none
  | .array n el=>match S.get el with
    |some ei=>match x with
     | .pointer (some ⟨b,o,none⟩)=>some (.pointer (some ⟨b,o+i.toNat*ei.size,none⟩),n) |_=>none
    |none=>none
  |_=>none
 |none=>none
theorem xB{P:Program}{S:TT}(hS:S.Ok P){w:World}{t:TypeId}{x v:Value}{i:Int}{kk:IntKind}{n:Nat}(hv:r7 S t x i=some (v,n))(h0:0<=i)(h1:i<n):
 (Instr.indexAt t x (.int kk i)).run P w= .ok v w:=by
 unfold r7 at hv;split at hv
 ·rename_i ti ht;have ok:=TT.Ok.get hS ht;split at hv
  ·rename_i el hd;split at hv
   ·rename_i ei hei;have oke:=TT.Ok.get hS hei;split at hv
    ·injection hv with hv;injection hv with e1 e2;subst e1;subst e2;simp [Instr.indexAt,asIntOf,run_underlying ok,hd,h0,h1,run_sizeOf oke,eF]
    ·cases hv
   ·cases hv
  ·rename_i n' el hd;split at hv
   ·rename_i ei hei;have oke:=TT.Ok.get hS hei;split at hv
    ·injection hv with hv;injection hv with e1 e2;subst e1;subst e2;simp [Instr.indexAt,asIntOf,run_underlying ok,hd,h0,h1,run_sizeOf oke,eF,Instr.sureAddr]
    ·cases hv
   ·cases hv
  ·cases hv
 ·cases hv
theorem YF{P:Program}{S:TT}(hS:S.Ok P){o:Oper}{a:Act}{w:World}{t:TypeId}{len:Nat}{parts:Array (Nat×Operand)}{cs:List Value}{ρ:Operand->Option Value}(ho:o.op= .buildSlice t len parts)
 (hρ: ∀x v,ρ x=some v->a.eval x=v) (hl:wO S ρ t len parts.toList=some cs): ∃el,(execOp a.eval o).run P w= .ok (.value (.slice (some ⟨w.heap.size,0,none⟩) len len)) (w.alloc (.cells ⟨cs⟩ el)):=by
 have hl':=F5 (ρ':=fun x=>some (a.eval x)) (fun x v hx=>by rw [hρ _ _ hx]) hl;exact K7 hS (cs:=cs) (sh:= .sl len) (by unfold wS;rw [ho];simp only [hl']) (fun h=>by cases h)
theorem V.lit{all:Array Oper}{o:Oper}{l:List Oper}{ks:List (Nat×Bool)}{t:TypeId}{len:Nat}{parts:Array (Nat×Operand)}{cs:List Value}{d:Nat}
 (hg:iU e all o.guard=some ks) (ho:o.op= .buildSlice t len parts) (hl:wO C.S (e.ev ks) t len parts.toList=some cs) (h1:aW cs=true) (hd:o.dst=some d) (hc:hI C.n e d=true)
 (next: ∀b,V C (.ops all l::k) ⟨(d, .slice (some ⟨b,0,none⟩) len len)::e.us,e.cs⟩ h (⟨b,0,cs,none⟩::L)):V C (.ops all (o::l)::k) e h L:=
 V.gives hg hd hc fun a w g s hk=>by obtain ⟨el,hr⟩:=YF (w:=w) C.ok ho (fun x v hx=>g.ev hk hx) hl;exact ⟨_,_,h,_,hr,s.alloc ⟨cs⟩ el h1,next _⟩
theorem V.bu{all:Array Oper}{o:Oper}{l:List Oper}{ks:List (Nat×Bool)}{t:TypeId}{len:Nat}{parts:Array (Nat×Operand)}{cs:List Value}{d:Nat}
 (hg:iU e all o.guard=some ks) (ho:o.op= .buildSlice t len parts) (hl:wO C.S (e.ev ks) t len parts.toList=some cs) (h1:aW cs=true) (hd:o.dst=some d) (hc:hI C.n e d=true)
 (next: ∀b h',h.le h'->rH h' b 0 cs->V C (.ops all l::k) ⟨(d, .slice (some ⟨b,0,none⟩) len len)::e.us,e.cs⟩ h' L):V C (.ops all (o::l)::k) e h L:=
 V.lit hg ho hl h1 hd hc fun b=>V.bc fun hle=>next b _ hle fun i v hv=>GH.cr h b 0 cs hv
end Go.Tp
namespace Go.Tp
open Go Go.RowKit
theorem V.empty{C:qJ}{k:List It}{e:Env}{h:GH}{L:List bV}(hv:V C k e h (⟨0,0,[],none⟩::L)):V C k e h L:=
 fun ho a w b cs g s hf hk=>hv ho a w b cs g ⟨s.below,s.imm,s.imm1,fun p hp=>by
  rcases ab6.1 hp with rfl|hp
  ·exact ⟨fun v hv=>by simp at hv,fun i v hv=>by simp at hv,fun i hi=>by simp at hi,fun i hi=>by simp at hi,fun i hi=>by simp at hi,fun o ho=>by cases ho⟩
  ·exact s.own p hp,ad9.2 ⟨fun q hq=>⟨fun i j hi=>by simp at hi,fun x=>by cases x⟩,s.dis⟩,s.frz,s.drn⟩ hf hk
theorem V.append{C:qJ}{k:List It}{e:Env}{h:GH}{L:List bV}{all:Array Oper}{o:Oper}{l:List Oper}{ks:List (Nat×Bool)}{y1 y2:Operand}{t el:TypeId}{ti ei:TI}{v1 v2:Value}{x:bV}{c1 c2:List Value}{d:Nat}
 (hg:iU e all o.guard=some ks) (ho:o.op= .call ⟨.builtin .append, #[y1,y2], #[t,t]⟩) (h1:e.ev ks y1=some v1) (h2:e.ev ks y2=some v2)
 (ht:C.S.get t=some ti) (hd:ti.d= .slice el) (he:C.S.get el=some ei) (hsz:Nat.blt 0 ei.size=true) (hz1:aW ei.zero=true) (hby:Nat.ble ei.bytes 4096=true)
 (hdst:o.dst=some d) (hc:hI C.n e d=true)
 (a1:Sl h ei.size v1 c1) (tl:Tl ei.size v1 x) (a2:Sl h ei.size v2 c2) (hb:c1.length+c2.length<=1073741824)
 (next: ∀v' h' x',h.le h'->Sl h' ei.size v' (c1++c2)->Tl ei.size v' x'->V C (.ops all l::k) ⟨(d,v')::e.us,e.cs⟩ h' (x'::L)):V C (.ops all (o::l)::k) e h (x::L):=
 V.gives hg hdst hc fun a w g s hk=>by obtain ⟨v',w',h',x',r1,r2,r3,r4,r5⟩:=DW (ty:=o.type) C.ok ht hd he (by simpa [ai7] using hsz) hz1 (ai9 hby) s a1 tl a2 hb;refine ⟨v',w',h',_,?_,r5,next v' h' x' r2 r3 r4⟩;unfold execOp;rw [ho];simp [resolve,invoke,builtin,g.ev hk h1,g.ev hk h2,r1]
def Res(h:GH)(L:List bV)(Q:Value->GH->Prop):Value->GH->List bV->Prop:=fun v h' L'=>L'=L/\h.le h'/\Q v h'
end Go.Tp
