/-
  Texts Lc Ld Le Lf Lg Lh Li Lj. Conditions: as each theorem says.
-/
import Derived.Test.YtkbolbpojpmicaaGreatDoorWe2
import Derived.Laws.BytesString
import Derived.Lib.AppendZeros
set_option linter.unusedVariables false
set_option linter.unusedSimpArgs false
set_option maxRecDepth 100000
set_option maxHeartbeats 4000000
open List renaming length_map→aa0,mem_cons_self→aa4,mem_singleton→aa3,length_append→aa7,mem_cons_of_mem→aa8,mem_cons→ab0,length_cons→ab1,getElem?_eq_getElem→ab6,append_assoc→ab7,getElem?_map→ab9,length_take→ac3,mem_append_left→ac9,cons_append→ae0,take_append_drop→ae7,perm_middle→ae8,mem_append→af0,range'→ag6,nil_append→ah8,length_drop→ai0,all_append→ak9,drop_zero→al7,take_zero→an1,mem_of_mem_take→an6,mem_of_mem_drop→aq6,take_succ_cons→ar2,drop_drop→at3,mapM_cons→at4
open Bool renaming and_eq_true→aa1
open Go.Result renaming andThen_ok→aa5
open Nat renaming le_refl→aa6,eq_of_beq_eq_true→ab2,zero_le→ac0,lt_or_ge→ad7,mul_le_mul_right→af5,le_of_ble_eq_true→af7,blt_eq→ah3,sub_self→ah9,add_mul→ak6,sub_zero→am0,lt_succ_self→as6
open Go.Sem renaming run_bind→aa9,run_pure→ab5,run→aq2
open Array renaming getElem?_toList→ac2,ext'→ag4,replicate→ah6
open Option renaming map_some→ag0,map_none→am5
namespace Go.Tp
open Go Go.RowKit
section
variable{y:aF}{l Λ Λ':List aF}
instance (priority:=low) AAt.app {b:Nat} {x:AV} [i:AAt (y::(l++Λ)) b x]:AAt ((y::l)++Λ) b x:=i
instance (priority:=low) AAt.app0 {b:Nat} {x:AV} [i:AAt Λ b x]:AAt ([]++Λ) b x:=i
instance (priority:=low) AUp.app {b:Nat} {x x1:AV} [i:AUp (y::(l++Λ)) b x x1 Λ']:AUp ((y::l)++Λ) b x x1 Λ':=i
instance (priority:=low) AUp.app0 {b:Nat} {x x1:AV} [i:AUp Λ b x x1 Λ']:AUp ([]++Λ) b x x1 Λ':=i
instance (priority:=low) ATl.app {sz:Nat} {z:Value} [i:ATl (y::(l++Λ)) sz z Λ']:ATl ((y::l)++Λ) sz z Λ':=i
instance (priority:=low) ATl.app0 {sz:Nat} {z:Value} [i:ATl Λ sz z Λ']:ATl ([]++Λ) sz z Λ':=i
instance (priority:=low) ARow.app {z:Value} {sz:Nat} {r:List AV} [i:ARow (y::(l++Λ)) z sz r]:ARow ((y::l)++Λ) z sz r:=i
instance (priority:=low) ARow.app0 {z:Value} {sz:Nat} {r:List AV} [i:ARow Λ z sz r]:ARow ([]++Λ) z sz r:=i
instance (priority:=low) ARowUp.app {z:Value} {sz:Nat} {r r1:List AV} [i:ARowUp (y::(l++Λ)) z sz r r1 Λ']:ARowUp ((y::l)++Λ) z sz r r1 Λ':=i
instance (priority:=low) ARowUp.app0 {z:Value} {sz:Nat} {r r1:List AV} [i:ARowUp Λ z sz r r1 Λ']:ARowUp ([]++Λ) z sz r r1 Λ':=i
instance (priority:=low) AOut.app {x:aF} [i:AOut (y::(l++Λ)) x Λ']:AOut ((y::l)++Λ) x Λ':=i
instance (priority:=low) AOut.app0 {x:aF} [i:AOut Λ x Λ']:AOut ([]++Λ) x Λ':=i
end
mutual
inductive Fz(z:Value)(sz:Nat)(l:List AV):AV->AV->Prop
 |sub {x y:AV}:Sb x y->Fz z sz l x y
 |ms {sz' n:Nat}:Fz z sz l (.ms z sz' n) (.sl sz l none)
 |ag {x y:List AV}:FzL z sz l x y->Fz z sz l (.ag x) (.ag y)
inductive FzL(z:Value)(sz:Nat)(l:List AV):List AV->List AV->Prop
 |sub {x y:List AV}:fO x y->FzL z sz l x y
 |cons {x y:AV} {r s:List AV}:Fz z sz l x y->FzL z sz l r s->FzL z sz l (x::r) (y::s)
end
mutual
theorem Fz.rp{h:GH}{z:Value}{sz:Nat}{l:List AV}(hz:Rp h (.sl sz l none) z): ∀{x y:AV},Fz z sz l x y-> ∀{v:Value},Rp h x v->Rp h y v
 |_,_, .sub s,_,r=>s.rp r |_,_, .ms,_,r=>by rw [kN] at r;rw [r.1];exact hz
 |_,_, .ag s,_,r=>by rw [eJ] at r⊢;obtain ⟨cs,h1,h2⟩:=r;exact ⟨cs,h1,FzL.rp hz s h2⟩
theorem FzL.rp{h:GH}{z:Value}{sz:Nat}{l:List AV}(hz:Rp h (.sl sz l none) z): ∀{x y:List AV},FzL z sz l x y-> ∀{v:List Value},dM h x v->dM h y v
 |_,_, .sub s,_,r=>s.rp r |_,_, .cons s t,_,r=>by rw [aG] at r⊢;obtain ⟨v,vs,h1,h2,h3⟩:=r;exact ⟨v,vs,h1,Fz.rp hz s h2,FzL.rp hz t h3⟩
end
section
variable{K:AC}{k:List It}{E:aH}{Λ:List aF}
theorem A.fy{b:Nat}{z:Value}{sz:Nat}{l:List AV}{x x':AV}{Λ':List aF}(hp:Λ.Perm (.row sz z l:: .box b x::Λ'))(hz:Fz z sz l x x')(next:A K k E (.box b x'::Λ')):A K k E Λ:=by refine A.perm hp ⟨fun h e L hl r q=>?_⟩;obtain ⟨M,L2,rfl,⟨p,q3,rfl⟩,⟨M2,L3,rfl,⟨u,q5,rfl⟩,q6⟩⟩:=q;have ho:p.obj=none:=q3.choose_spec.choose_spec.choose_spec.2.2.2.1;obtain ⟨pb,plo,pcs,pobj⟩:=p;simp only at ho;subst ho;refine V.bu fun hle=>?_;have hrp:=q3.frozen hle;exact next.run _ e _ (GH.le_trans hl hle) ⟨r.1.mono hle,r.2.mono hle⟩ (.one ⟨u,hz.rp hrp (q5.mono hle),rfl⟩ (q6.mono hle))
end
section
variable{K:AC}{k:List It}{E:aH}{Λ:List aF}
theorem A.du(t:Nat)(z:Value){b:Nat}{sz:Nat}{l:List AV}{x x':AV}{Λ1 Λ':List aF}(hx:bJ E.us t=some (.v (.pointer (some ⟨b,0,none⟩)))) [i:ARow Λ z sz l] [j:AOut Λ (.row sz z l) Λ1] [u:AAt Λ1 b x] [v:AOut Λ1 (.box b x) Λ']
 (hz:Fz z sz l x x') (next:A K k E (.box b x'::Λ')):A K k E Λ:=A.fy (j.perm.trans (v.perm.cons _)) hz next
end
section
variable{K:AC}{all:Array Oper}{m:Nat}{k:List It}{pubs:Nat->List Nat}{Y:Ua}{π:List Nat}{E:aH}{Λ:List aF}{D:Da}
theorem WA.ax{i0:Nat}{o:Oper}{ks:List (Nat×Bool)}{t el:TypeId}{ti ei:TI}{x ix:Operand}{z:Value}{sz sz' n:Nat}{xs:List AV}{kk:IntKind}{i:Int}{E':aH}(hi0:bU all.toList i0=some o)
 (hg:aV E all o.guard=some ks) (ho:o.op= .indexAddr t x ix) (hx:E.ev K.gs ks x=some (.ms z sz' n)) (hi:E.ev K.gs ks ix=some (.v (.int kk i))) (ht:K.S.get t=some ti) (hdd:ti.d= .slice el) (he:K.S.get el=some ei) [j:ARow Λ z sz xs]
 (hs:Nat.beq ei.size sz=true) (h0:0<=i) (h1:i<xs.length) (hput:E.put K.n none o.dst (.ep z sz i.toNat)=some E') (next:WA K all m k pubs Y π E' Λ D):WA K all m k pubs Y (i0::π) E Λ D:=by
 refine ⟨fun h e L Es hl r q d=>?_⟩;have hs:=ab2 hs;obtain ⟨v1,e1,f1⟩:=r.ev (K.hgs.mono hl) _ hx;obtain ⟨v2,e2,f2⟩:=r.ev (K.hgs.mono hl) _ hi;rw [bE] at f2;rw [f2.1] at e2;rw [kN] at f1;obtain ⟨rfl,_⟩:=f1;obtain ⟨M,_,p,⟨a,cap,zs,rfl,g2,g3,g4,g5⟩,_⟩:=q.mem j.mem;rcases g5 with ⟨g5,_⟩|⟨b,off,sp,rfl,rfl,_⟩
 ·subst g5;simp at h1;omega
 ·obtain ⟨e',e4,e5⟩:=cJ r hput (B4.2 ⟨b,off,xs.length,cap,rfl,by omega,rfl⟩);have hiv:sE K.S t (.slice (some ⟨b,off,none⟩) xs.length cap) i=some (.pointer (some ⟨b,off+i.toNat*sz,none⟩),xs.length):=by simp only [sE,ht,hdd,he,hs]
  exact WE.bg (G:=cG K.cfg all (L++K.G) pubs (YA Y) m k) hi0 (wQ ho) (aT r hg) (fun a w E0 g s hk=>by have:=pR (P:=K.cfg.P) (w:=w) (kk:=kk) K.ok hiv h0 h1;unfold execOp;rw [ho];simp only [g.ev hk e1,g.ev hk e2,aa9,this,aa5,ab5]) e4 (next.run h e' L Es hl e5 q d)
theorem WA.cy{i0:Nat}{o:Oper}{ks:List (Nat×Bool)}{t:TypeId}{p:Operand}{z:Value}{sz sz' i:Nat}{xs:List AV}{ti:TI}{y y':AV}{E':aH}(hi0:bU all.toList i0=some o)
 (hg:aV E all o.guard=some ks) (ho:o.op= .load t p) (hp:E.ev K.gs ks p=some (.ep z sz' i)) (ht:K.S.get t=some ti) [j:ARow Λ z sz xs] (hs:Nat.beq ti.size sz=true) (hs':Nat.beq sz' sz=true) (hsh:BT ti y'=true)
 (hy:xs[i]? =some y) (hy':y=y') (hput:E.put K.n none o.dst y'=some E') (next:WA K all m k pubs Y π E' Λ D):WA K all m k pubs Y (i0::π) E Λ D:=by
 subst hy';refine ⟨fun h e L Es hl r q d=>?_⟩;have hs:=ab2 hs;have hs':=ab2 hs';subst hs';obtain ⟨v1,e1,f1⟩:=r.ev (K.hgs.mono hl) _ hp;rw [B4] at f1;obtain ⟨b,off,n,cap,rfl,hin,rfl⟩:=f1;obtain ⟨M,m1,pp,⟨a,cap',zs,g1,g2,g3,g4,g5⟩,rfl⟩:=q.mem j.mem;injection g1 with g1 g1' g1'';subst g1;subst g1';subst g1'';rcases g5 with ⟨g5,_⟩|⟨b',off',sp,g6,rfl,g9⟩
 ·subst g5;simp at hy
 ·injection g6 with g6;injection g6 with g6 g7;subst g6;subst g7;obtain ⟨u,hu,hrp⟩:=g3.rp.at hy;have hsub:=CE (sp:=sp) g3.sz hu;have hld:S1 ti ⟨b,off,bH zs++sp,none⟩ (off+i*sz')=some u:=by
   have hle:Nat.ble off (off+i*sz')=true:=Nat.ble_eq_true_of_le (Nat.le_add_right _ _);unfold S1;simp only [hle,Nat.add_sub_cancel_left];unfold xE;unfold BT at hsh;cases hag:ti.agg with
   |true=>
    rw [hag] at hsh;simp only at hsh⊢;rw [hs,hsub];split at hsh
    ·rw [eJ] at hrp;obtain ⟨cs,rfl,_⟩:=hrp
     rfl
    ·cases hsh
   |false=>
    rw [hag] at hsh;simp only at hsh⊢;have hone:=hrp.one hsh;have hc1:=eS hone;have hsz1:sz'=1:=by have:=g3.sz u (List.mem_of_getElem? hu);rw [hc1] at this;simpa using this.symm
    rw [hsz1,hc1] at hsub;obtain ⟨_,_,h3⟩:=lD _ _ _ hsub;have:=h3 0 (by omega);rw [cC,hsz1];simpa using this.symm
  obtain ⟨e',e4,e5⟩:=cJ r hput hrp;exact WE.bg (G:=cG K.cfg all (L++K.G) pubs (YA Y) m k) hi0 (wR ho) (aT r hg) (fun a w E0 g s hk=>by have:=oF (TT.Ok.get K.ok ht) (s.own ⟨b,off,bH zs++sp,none⟩ (List.mem_append_right _ (ac9 _ (m1 _ (aa3.2 T))))) T hld;unfold execOp;rw [ho];have this:aq2 K.cfg.P (Instr.loadAt t (Value.pointer (some ⟨b,off+i*sz',none⟩))) w= .ok u w:=this;simp only [g.ev hk e1,aa9,this,aa5,ab5]) e4 (next.run h e' L Es hl e5 q d)
end
section
variable{K:AC}{k:List It}{E:aH}{Λ:List aF}
end
end Go.Tp
namespace Go.Tp
open Go Go.RowKit
section
variable{K:AC}{k:List It}{E:aH}{Λ:List aF}
theorem A.dk{all:Array Oper}{o:Oper}{l:List Oper}{ks:List (Nat×Bool)}{t el:TypeId}{ti ei:TI}{x ix:Operand}{b off n:Nat}{kk:IntKind}{i:Int}{E':aH}
 (hg:aV E all o.guard=some ks) (ho:o.op= .indexAddr t x ix) (hx:E.ev K.gs ks x=some (.v (.pointer (some ⟨b,off,none⟩)))) (hi:E.ev K.gs ks ix=some (.v (.int kk i))) (ht:K.S.get t=some ti) (hdd:ti.d= .array n el) (he:K.S.get el=some ei)
 (hput:E.put K.n none o.dst (.v (.pointer (some ⟨b,off+i.toNat*ei.size,none⟩)))=some E') (h0:0<=i) (h1:i<n) (next:A K (.ops all l::k) E' Λ):A K (.ops all (o::l)::k) E Λ:=by
 refine ⟨fun h e L hl r q=>?_⟩;obtain ⟨v1,e1,f1⟩:=r.ev (K.hgs.mono hl) _ hx;obtain ⟨v2,e2,f2⟩:=r.ev (K.hgs.mono hl) _ hi;rw [bE] at f1 f2;rw [f1.1] at e1;rw [f2.1] at e2;obtain ⟨e',e4,e5⟩:=cJ r hput (bE.2 ⟨rfl,rfl⟩);have hiv:sE K.S t (.pointer (some ⟨b,off,none⟩)) i=some (.pointer (some ⟨b,off+i.toNat*ei.size,none⟩),n):=by simp only [sE,ht,hdd,he]
 exact V.fe (C:=K.cfg) (aT r hg) ho e1 e2 hiv e4 h0 h1 (next.run h e' L hl e5 q)
end
end Go.Tp
namespace Go.Tp
open Go Go.RowKit
def skipM(E:aH):Option (Nat×Bool)->Bool
 |some (t,_)=>match bJ E.us t with
  |some (.tp [])=>true |_=>false
 |none=>false
def DU(gs:Ua)(n:Nat)(E:aH)(m:Option (Nat×Bool))(ks:List (Nat×Bool))(o:Oper):Option aH:=match o.op with
 | .pick c x y=>match E.ev gs ks c with
   |some (.v (.bool g))=>match g with
    |true=>match E.ev gs ks x with
     |some v=>E.put n m o.dst v |none=>none
    |false=>match E.ev gs ks y with
     |some v=>E.put n m o.dst v |none=>none
   |_=>none
 |_=>none
def TJ(gs:Ua)(n:Nat)(all:Array Oper)(o:Oper)(E:aH):Option aH:=match ZC E all o.guard with
 |some _=>E.put n none o.dst (.tp []) |none=>match gC E all o.guard with
  |some (m,ks)=>match skipM E m with
   |true=>E.put n none o.dst (.tp []) |false=>DU gs n E m ks o
  |none=>none
def stp(S:TT)(gs:Ua)(n:Nat)(k:List It)(E:aH):Option (List It×aH):=match OY S gs n k E with
 |some r=>some r |none=>match k with
  | .ops all (o::l)::k=>match TJ gs n all o E with
    |some E'=>some (.ops all l::k,E') |none=>none
  | .code (.cond c x y)::k=>match E.ev gs [] c with
    |some (.v (.bool g))=>match g with
     |true=>some (.code x::k,E) |false=>some (.code y::k,E)
    |_=>none
  |_=>none
def pks(gs:Ua)(n:Nat)(k:List It)(E:aH):Option (List It×aH):=match k with
 | .ops all (o::l)::k=>match gC E all o.guard with
   |some (m,ks)=>match DU gs n E m ks o with
    |some E'=>some (.ops all l::k,E') |none=>none
   |none=>none
 |_=>none
def rdS(S:TT)(gs:Ua)(n:Nat)(k:List It)(E:aH):Option (Nat×(AV->Option (List It×aH))):=match k with
 | .ops all (o::l)::k=>match aV E all o.guard with
   |some ks=>match o.op with
    | .load t p=>match E.ev gs ks p with
      |some (.v (.pointer (some ⟨b,off,none⟩)))=>match S.get t with
       |some ti=>some (b,fun x=>match OQ ti x off with
        |some y=>match E.put n none o.dst y with
         |some E'=>some (.ops all l::k,E') |none=>none
        |none=>none)
       |none=>none
      |_=>none
    |_=>none
   |none=>none
 |_=>none
def rdU(S:TT)(gs:Ua)(n:Nat)(k:List It)(E:aH):Option (Nat×(AV->Option (List It×aH))):=match k with
 | .ops all (o::l)::k=>match gC E all o.guard with
   |some (m,ks)=>match o.op with
    | .load t p=>match E.ev gs ks p with
      |some (.v (.pointer (some ⟨b,off,none⟩)))=>match S.get t with
       |some ti=>some (b,fun x=>match OQ ti x off with
        |some y=>match E.put n m o.dst y with
         |some E'=>some (.ops all l::k,E') |none=>none
        |none=>none)
       |none=>none
      |_=>none
    |_=>none
   |none=>none
 |_=>none
def wrS(S:TT)(gs:Ua)(k:List It)(E:aH):Option (Nat×(AV->Option AV)×List It):=match k with
 | .ops all (o::l)::k=>match aV E all o.guard with
   |some ks=>match o.op with
    | .store t p y=>match E.ev gs ks p with
      |some (.v (.pointer (some ⟨b,off,none⟩)))=>match E.ev gs ks y with
       |some v=>match S.get t with
        |some ti=>match o.dst with
         |none=>some (b,fun x=>stA ti x off v, .ops all l::k) |some _=>none
        |none=>none
       |none=>none
      |_=>none
    |_=>none
   |none=>none
 |_=>none
def bxS(S:TT)(gs:Ua)(n:Nat)(k:List It)(E:aH):Option (List It×Nat×AV):=match k with
 | .ops all (o::l)::k=>match aV E all o.guard with
   |some ks=>match o.dst with
    |some d=>match bZ n E d with
     |true=>match o.op with
      | .alloc t=>match S.get t with
        |some ti=>match uG ti with
         |some x=>some (.ops all l::k,d,x) |none=>none
        |none=>none
      | .box t y=>match E.ev gs ks y with
        |some v=>match gA v with
         |some vs=>match lY vs with
          |true=>some (.ops all l::k,d,v) |false=>none
         |none=>none
        |none=>none
      |_=>none
     |false=>none
    |none=>none
   |none=>none
 |_=>none
def ltS(S:TT)(gs:Ua)(n:Nat)(k:List It)(E:aH):Option (List It×Nat×Nat×Nat×List AV):=match k with
 | .ops all (o::l)::k=>match aV E all o.guard with
   |some ks=>match o.op with
    | .buildSlice t len parts=>match ZY S (E.ev gs ks) t len parts.toList with
      |some (sz,xs)=>match o.dst with
       |some d=>match bZ n E d with
        |true=>some (.ops all l::k,d,len,sz,xs) |false=>none
       |none=>none
      |none=>none
    |_=>none
   |none=>none
 |_=>none
def clS(gs:Ua)(n:Nat)(k:List It)(E:aH):Option (List It×Nat×FuncId×List AV):=match k with
 | .ops all (o::l)::k=>match aV E all o.guard with
   |some ks=>match o.op with
    | .call c=>match c.callee with
      | .value x=>match E.ev gs ks x with
        |some (.fn f fst cap)=>match rG (E.ev gs ks) c.args.toList with
         |some vs=>match o.dst with
          |some d=>match bZ n E d with
           |true=>some (.ops all l::k,d,f,fst++(vs++cap)) |false=>none
          |none=>none
         |none=>none
        |_=>none
      |_=>none
    |_=>none
   |none=>none
 |_=>none
def ixS(S:TT)(gs:Ua)(n:Nat)(k:List It)(E:aH):Option (List AV×Int×(AV->Option (List It×aH))):=match k with
 | .ops all (o::l)::k=>match aV E all o.guard with
   |some ks=>match o.op with
    | .indexAddr t x ix=>match E.ev gs ks x with
      |some xv=>match E.ev gs ks ix with
       |some (.v (.int _ i))=>match S.get t with
        |some ti=>match ti.d with
         | .slice el=>match S.get el with
           |some ei=>match nX ei.size xv with
            |some (xs,_)=>some (xs,i,fun y=>match E.put n none o.dst (.pe ei.size y) with
             |some E'=>some (.ops all l::k,E') |none=>none)
            |none=>none
           |none=>none
         |_=>none
        |none=>none
       |_=>none
      |none=>none
    |_=>none
   |none=>none
 |_=>none
section
variable{K:AC}{k k':List It}{E E':aH}{Λ Λ':List aF}
theorem A.s(h:stp K.S K.gs K.n k E=some (k',E'))(next:A K k' E' Λ):A K k E Λ:=by
 unfold stp at h;split at h
 ·rename_i r hr;injection h with h;subst h;exact A.aq hr next
 ·split at h
  ·rename_i all o l k0;split at h
   ·rename_i E1 hp;injection h with h;injection h with h1 h2;subst h1;subst h2;unfold TJ at hp;split at hp
    ·rename_i x hg;exact A.skip hg hp next
    ·split at hp
     ·rename_i m ks hg;split at hp
      ·rename_i hs;cases m with
       |none=>cases hs |some mb=>
        obtain ⟨t,b⟩:=mb;simp only [skipM] at hs;split at hs
        ·rename_i hl;exact A.al hg hl hp next
        ·cases hs
      ·unfold DU at hp;split at hp
       ·rename_i c x y ho;split at hp
        ·rename_i g hc;split at hp
         ·split at hp
          ·rename_i v hv;exact A.aj hg ho hc hv hp next
          ·cases hp
         ·split at hp
          ·rename_i v hv;exact A.ai hg ho hc hv hp next
          ·cases hp
        ·cases hp
       ·cases hp
     ·cases hp
   ·cases h
  ·rename_i c x y k0;split at h
   ·rename_i g hc;split at h
    ·injection h with h;injection h with h1 h2;subst h1;subst h2;exact A.af hc next
    ·injection h with h;injection h with h1 h2;subst h1;subst h2;exact A.ae hc next
   ·cases h
  ·cases h
theorem A.p(h:pks K.gs K.n k E=some (k',E'))(next:A K k' E' Λ):A K k E Λ:=by
 unfold pks at h;split at h
 ·split at h
  ·rename_i m ks hg;split at h
   ·rename_i E1 hp;injection h with h;injection h with h1 h2;subst h1;subst h2;unfold DU at hp;split at hp
    ·rename_i c x y ho;split at hp
     ·rename_i g hc;split at hp
      ·split at hp
       ·rename_i v hv;exact A.aj hg ho hc hv hp next
       ·cases hp
      ·split at hp
       ·rename_i v hv;exact A.ai hg ho hc hv hp next
       ·cases hp
     ·cases hp
    ·cases hp
   ·cases h
  ·cases h
 ·cases h
theorem A.r{b:Nat}{f:AV->Option (List It×aH)}{x:AV}(h:rdS K.S K.gs K.n k E=some (b,f)) [i:AAt Λ b x](hf:f x=some (k',E'))(next:A K k' E' Λ):A K k E Λ:=by
 unfold rdS at h;split at h
 ·split at h
  ·rename_i ks hg;split at h
   ·rename_i t p ho;split at h
    ·rename_i b' off hp;split at h
     ·rename_i ti ht;injection h with h;injection h with h1 h2;subst h1;subst h2;simp only at hf;split at hf
      ·rename_i y hy;split at hf
       ·rename_i E1 hput;injection hf with hf;injection hf with h1 h2;subst h1;subst h2;exact A.ah hg ho hp ht hy hput next
       ·cases hf
      ·cases hf
     ·cases h
    ·cases h
   ·cases h
  ·cases h
 ·cases h
theorem A.v{b:Nat}{f:AV->Option (List It×aH)}{x:AV}(h:rdU K.S K.gs K.n k E=some (b,f)) [i:AAt Λ b x](hf:f x=some (k',E'))(next:A K k' E' Λ):A K k E Λ:=by
 unfold rdU at h;split at h
 ·split at h
  ·rename_i m ks hg;split at h
   ·rename_i t p ho;split at h
    ·rename_i b' off hp;split at h
     ·rename_i ti ht;injection h with h;injection h with h1 h2;subst h1;subst h2;simp only at hf;split at hf
      ·rename_i y hy;split at hf
       ·rename_i E1 hput;injection hf with hf;injection hf with h1 h2;subst h1;subst h2;exact A.load hg ho hp ht hy hput next
       ·cases hf
      ·cases hf
     ·cases h
    ·cases h
   ·cases h
  ·cases h
 ·cases h
theorem A.w{b:Nat}{f:AV->Option AV}{x x':AV}(h:wrS K.S K.gs k E=some (b,f,k')) [i:AAt Λ b x](hf:f x=some x') [j:AUp Λ b x x' Λ'](next:A K k' E Λ'):A K k E Λ:=by
 unfold wrS at h;split at h
 ·split at h
  ·rename_i ks hg;split at h
   ·rename_i t p y ho;split at h
    ·rename_i b' off hp;split at h
     ·rename_i v hy;split at h
      ·rename_i ti ht;split at h
       ·rename_i hd;injection h with h;injection h with h1 h2;injection h2 with h2 h3;subst h1;subst h2;subst h3;exact A.store hg ho hp hy ht hf hd next
       ·cases h
      ·cases h
     ·cases h
    ·cases h
   ·cases h
  ·cases h
 ·cases h
theorem A.b{d:Nat}{x:AV}(h:bxS K.S K.gs K.n k E=some (k',d,x))(next: ∀b,A K k' ⟨(d, .v (.pointer (some ⟨b,0,none⟩)))::E.us,E.cs⟩ (.box b x::Λ)):A K k E Λ:=by
 unfold bxS at h;split at h
 ·split at h
  ·rename_i ks hg;split at h
   ·rename_i d' hd;split at h
    ·rename_i hc;split at h
     ·rename_i t ho;split at h
      ·rename_i ti ht;split at h
       ·rename_i z hz;injection h with h;injection h with h1 h2;injection h2 with h2 h3;subst h1;subst h2;subst h3;exact A.alloc hg ho ht hz hd hc next
       ·cases h
      ·cases h
     ·rename_i t y ho;split at h
      ·rename_i v hy;split at h
       ·rename_i vs hvs;split at h
        ·rename_i h1;injection h with h;injection h with h2 h3;injection h3 with h3 h4;subst h2;subst h3;subst h4;exact A.box hg ho hy hvs h1 hd hc next
        ·cases h
       ·cases h
      ·cases h
     ·cases h
    ·cases h
   ·cases h
  ·cases h
 ·cases h
theorem A.t{d len sz:Nat}{xs:List AV}(h:ltS K.S K.gs K.n k E=some (k',d,len,sz,xs))(next: ∀b,A K k' ⟨(d, .sl sz xs (some (.slice (some ⟨b,0,none⟩) len len)))::E.us,E.cs⟩ Λ):A K k E Λ:=by
 unfold ltS at h;split at h
 ·split at h
  ·rename_i ks hg;split at h
   ·rename_i t len' parts ho;split at h
    ·rename_i sz' xs' hl;split at h
     ·rename_i d' hd;split at h
      ·rename_i hc;injection h with h;injection h with h1 h2;injection h2 with h2 h3;injection h3 with h3 h4;injection h4 with h4 h5;subst h1;subst h2;subst h3;subst h4;subst h5;exact A.lit hg ho hl hd hc next
      ·cases h
     ·cases h
    ·cases h
   ·cases h
  ·cases h
 ·cases h
theorem PB{d:Nat}{f:FuncId}{as:List AV}(h:clS K.gs K.n k E=some (k',d,f,as)): ∃all o l k0 ks x args ts fst cap vs,k= .ops all (o::l)::k0/\k'= .ops all l::k0/\aV E all o.guard=some ks/\o.op= .call ⟨.value x,args,ts⟩/\
 E.ev K.gs ks x=some (.fn f fst cap)/\rG (E.ev K.gs ks) args.toList=some vs/\o.dst=some d/\bZ K.n E d=true/\as=fst++(vs++cap):=by
 unfold clS at h;split at h
 ·rename_i all o l k0;split at h
  ·rename_i ks hg;split at h
   ·rename_i c ho;obtain ⟨cc,ca,ct⟩:=c;simp only at h;split at h
    ·rename_i x;split at h
     ·rename_i f' fst cap hx;split at h
      ·rename_i vs hvs;split at h
       ·rename_i d' hd;split at h
        ·rename_i hc;injection h with h;injection h with h1 h2;injection h2 with h2 h3;injection h3 with h3 h4;subst h1;subst h2;subst h3;subst h4;exact ⟨all,o,l,k0,ks,x,ca,ct,fst,cap,vs,rfl,rfl,hg,ho,hx,hvs,hd,hc,rfl⟩
        ·cases h
       ·cases h
      ·cases h
     ·cases h
    ·cases h
   ·cases h
  ·cases h
 ·cases h
theorem A.c{d:Nat}{f:FuncId}{as args':List AV}{y:AV}(h:clS K.gs K.n k E=some (k',d,f,as))(hf:Pure K.P K.gs f args' y)(hs:fO as args')(next:A K k' ⟨(d,y)::E.us,E.cs⟩ Λ):A K k E Λ:=by obtain ⟨all,o,l,k0,ks,x,args,ts,fst,cap,vs,rfl,rfl,hg,ho,hx,ha,hd,hc,rfl⟩:=PB h;exact A.gv hg ho hx ha hd hc hf hs next
theorem A.e{ι:Type}{X:ι->AV}{LL:ι->List aF}{Pr:ι->Prop}{d:Nat}{f:FuncId}{as args':List AV}{Λ1 Λ2:List aF}(h:clS K.gs K.n k E=some (k',d,f,as))(hf:gM K.P K.gs f args' Λ1 X LL Pr)(hs:fO as args')(hp:Λ.Perm (Λ1++Λ2))
 (next: ∀i,Pr i->A K k' ⟨(d,X i)::E.us,E.cs⟩ (LL i++Λ2)):A K k E Λ:=by
 obtain ⟨all,o,l,k0,ks,x,args,ts,fst,cap,vs,rfl,rfl,hg,ho,hx,ha,hd,hc,rfl⟩:=PB h;exact A.jk hg ho hx ha hd hc hf hs hp next
theorem A.d{d:Nat}{f:FuncId}{as args':List AV}{y:AV}{Λ1 Λ2:List aF}(h:clS K.gs K.n k E=some (k',d,f,as))(hf:lI K.P K.gs f args' Λ1 fun z Λ'=>z=y/\Λ'=Λ1)(hs:fO as args')(hp:Λ.Perm (Λ1++Λ2))
 (next:A K k' ⟨(d,y)::E.us,E.cs⟩ (Λ1++Λ2)):A K k E Λ:=by
 obtain ⟨all,o,l,k0,ks,x,args,ts,fst,cap,vs,rfl,rfl,hg,ho,hx,ha,hd,hc,rfl⟩:=PB h;exact A.gk hg ho hx ha hd hc hf hs hp next
theorem A.x{xs:List AV}{i:Int}{f:AV->Option (List It×aH)}{y y':AV}(h:ixS K.S K.gs K.n k E=some (xs,i,f))(h0:0<=i)(hy:xs[i.toNat]? =some y)(hy':y=y')(hf:f y'=some (k',E'))(next:A K k' E' Λ):A K k E Λ:=by
 unfold ixS at h;split at h
 ·split at h
  ·rename_i ks hg;split at h
   ·rename_i t x ix ho;split at h
    ·rename_i xv hx;split at h
     ·rename_i kk i' hi;split at h
      ·rename_i ti ht;split at h
       ·rename_i el hd;split at h
        ·rename_i ei he;split at h
         ·rename_i xs' own hs;injection h with h;injection h with h1 h2;injection h2 with h2 h3;subst h1;subst h2;subst h3;simp only at hf;split at hf
          ·rename_i E1 hput;injection hf with hf;injection hf with h1 h2;subst h1;subst h2;exact A.index hg ho hx hi ht hd he hs h0 hy hy' hput next
          ·cases hf
         ·cases h
        ·cases h
       ·cases h
      ·cases h
     ·cases h
    ·cases h
   ·cases h
  ·cases h
 ·cases h
end
def wstp(S:TT)(gs:Ua)(n:Nat)(all:Array Oper)(π:List Nat)(E:aH):Option (List Nat×aH):=match J4 S gs n all π E with
 |some r=>some r |none=>match π with
  |i::π=>match bU all.toList i with
   |some o=>match TJ gs n all o E with
    |some E'=>some (π,E') |none=>none
   |none=>none
  | []=>none
def wpk(gs:Ua)(n:Nat)(all:Array Oper)(π:List Nat)(E:aH):Option (List Nat×aH):=match π with
 |i::π=>match bU all.toList i with
  |some o=>match gC E all o.guard with
   |some (m,ks)=>match DU gs n E m ks o with
    |some E'=>some (π,E') |none=>none
   |none=>none
  |none=>none
 | []=>none
def wrd(S:TT)(gs:Ua)(n:Nat)(all:Array Oper)(π:List Nat)(E:aH):Option (Nat×(AV->Option (List Nat×aH))):=match π with
 |i::π=>match bU all.toList i with
  |some o=>match aV E all o.guard with
   |some ks=>match o.op with
    | .load t p=>match E.ev gs ks p with
      |some (.v (.pointer (some ⟨b,off,none⟩)))=>match S.get t with
       |some ti=>some (b,fun x=>match OQ ti x off with
        |some y=>match E.put n none o.dst y with
         |some E'=>some (π,E') |none=>none
        |none=>none)
       |none=>none
      |_=>none
    |_=>none
   |none=>none
  |none=>none
 | []=>none
def wrdU(S:TT)(gs:Ua)(n:Nat)(all:Array Oper)(π:List Nat)(E:aH):Option (Nat×(AV->Option (List Nat×aH))):=match π with
 |i::π=>match bU all.toList i with
  |some o=>match gC E all o.guard with
   |some (m,ks)=>match o.op with
    | .load t p=>match E.ev gs ks p with
      |some (.v (.pointer (some ⟨b,off,none⟩)))=>match S.get t with
       |some ti=>some (b,fun x=>match OQ ti x off with
        |some y=>match E.put n m o.dst y with
         |some E'=>some (π,E') |none=>none
        |none=>none)
       |none=>none
      |_=>none
    |_=>none
   |none=>none
  |none=>none
 | []=>none
def wcl(gs:Ua)(n:Nat)(all:Array Oper)(Y:Ua)(π:List Nat)(E:aH):Option (List Nat×Nat×Nat×FuncId×List AV×AV):=match π with
 |i::π=>match bU all.toList i with
  |some o=>match aV E all o.guard with
   |some ks=>match o.op with
    | .call c=>match c.callee with
      | .value x=>match E.ev gs ks x with
        |some (.fn f fst cap)=>match rG (E.ev gs ks) c.args.toList with
         |some vs=>match o.dst with
          |some d=>match bZ n E d with
           |true=>match bJ Y i with
            |some y=>some (π,i,d,f,fst++(vs++cap),y) |none=>none
           |false=>none
          |none=>none
         |none=>none
        |_=>none
      |_=>none
    |_=>none
   |none=>none
  |none=>none
 | []=>none
def wix(S:TT)(gs:Ua)(n:Nat)(all:Array Oper)(π:List Nat)(E:aH):Option (List AV×Int×(AV->Option (List Nat×aH))):=match π with
 |j::π=>match bU all.toList j with
  |some o=>match aV E all o.guard with
   |some ks=>match o.op with
    | .indexAddr t x ix=>match E.ev gs ks x with
      |some xv=>match E.ev gs ks ix with
       |some (.v (.int _ i))=>match S.get t with
        |some ti=>match ti.d with
         | .slice el=>match S.get el with
           |some ei=>match nX ei.size xv with
            |some (xs,_)=>some (xs,i,fun y=>match E.put n none o.dst (.pe ei.size y) with
             |some E'=>some (π,E') |none=>none)
            |none=>none
           |none=>none
         |_=>none
        |none=>none
       |_=>none
      |none=>none
    |_=>none
   |none=>none
  |none=>none
 | []=>none
section
variable{K:AC}{all:Array Oper}{m:Nat}{k:List It}{pubs:Nat->List Nat}{Y:Ua}{π π':List Nat}{E E':aH}{Λ:List aF}{D D':Da}
theorem WA.s(h:wstp K.S K.gs K.n all π E=some (π',E'))(next:WA K all m k pubs Y π' E' Λ D):WA K all m k pubs Y π E Λ D:=by
 unfold wstp at h;split at h
 ·rename_i r hr;injection h with h;subst h;exact WA.aq hr next
 ·split at h
  ·rename_i i π0;split at h
   ·rename_i o hi;split at h
    ·rename_i E1 hp;injection h with h;injection h with h1 h2;subst h1;subst h2;unfold TJ at hp;split at hp
     ·rename_i x hg;exact WA.skip hi hg hp next
     ·split at hp
      ·rename_i mm ks hg;split at hp
       ·rename_i hs;cases mm with
        |none=>cases hs |some mb=>
         obtain ⟨t,b⟩:=mb;simp only [skipM] at hs;split at hs
         ·rename_i hl;exact WA.al hi hg hl hp next
         ·cases hs
       ·unfold DU at hp;split at hp
        ·rename_i c x y ho;split at hp
         ·rename_i g hc;split at hp
          ·split at hp
           ·rename_i v hv;exact WA.aj hi hg ho hc hv hp next
           ·cases hp
          ·split at hp
           ·rename_i v hv;exact WA.ai hi hg ho hc hv hp next
           ·cases hp
         ·cases hp
        ·cases hp
      ·cases hp
    ·cases h
   ·cases h
  ·cases h
theorem WA.p(h:wpk K.gs K.n all π E=some (π',E'))(next:WA K all m k pubs Y π' E' Λ D):WA K all m k pubs Y π E Λ D:=by
 unfold wpk at h;split at h
 ·rename_i i π0;split at h
  ·rename_i o hi;split at h
   ·rename_i mm ks hg;split at h
    ·rename_i E1 hp;injection h with h;injection h with h1 h2;subst h1;subst h2;unfold DU at hp;split at hp
     ·rename_i c x y ho;split at hp
      ·rename_i g hc;split at hp
       ·split at hp
        ·rename_i v hv;exact WA.aj hi hg ho hc hv hp next
        ·cases hp
       ·split at hp
        ·rename_i v hv;exact WA.ai hi hg ho hc hv hp next
        ·cases hp
      ·cases hp
     ·cases hp
    ·cases h
   ·cases h
  ·cases h
 ·cases h
theorem WA.r{b:Nat}{f:AV->Option (List Nat×aH)}{x:AV}(h:wrd K.S K.gs K.n all π E=some (b,f)) [z:AAt Λ b x](hf:f x=some (π',E'))(next:WA K all m k pubs Y π' E' Λ D):WA K all m k pubs Y π E Λ D:=by
 unfold wrd at h;split at h
 ·rename_i i π0;split at h
  ·rename_i o hi;split at h
   ·rename_i ks hg;split at h
    ·rename_i t p ho;split at h
     ·rename_i b' off hp;split at h
      ·rename_i ti ht;injection h with h;injection h with h1 h2;subst h1;subst h2;simp only at hf;split at hf
       ·rename_i y hy;split at hf
        ·rename_i E1 hput;injection hf with hf;injection hf with h1 h2;subst h1;subst h2;exact WA.ah hi hg ho hp ht hy hput next
        ·cases hf
       ·cases hf
      ·cases h
     ·cases h
    ·cases h
   ·cases h
  ·cases h
 ·cases h
theorem WA.v{b:Nat}{f:AV->Option (List Nat×aH)}{x:AV}(h:wrdU K.S K.gs K.n all π E=some (b,f)) [z:AAt Λ b x](hf:f x=some (π',E'))(next:WA K all m k pubs Y π' E' Λ D):WA K all m k pubs Y π E Λ D:=by
 unfold wrdU at h;split at h
 ·rename_i i π0;split at h
  ·rename_i o hi;split at h
   ·rename_i mm ks hg;split at h
    ·rename_i t p ho;split at h
     ·rename_i b' off hp;split at h
      ·rename_i ti ht;injection h with h;injection h with h1 h2;subst h1;subst h2;simp only at hf;split at hf
       ·rename_i y hy;split at hf
        ·rename_i E1 hput;injection hf with hf;injection hf with h1 h2;subst h1;subst h2;exact WA.load hi hg ho hp ht hy hput next
        ·cases hf
       ·cases hf
      ·cases h
     ·cases h
    ·cases h
   ·cases h
  ·cases h
 ·cases h
def SB(ps:List Nat)(i:Nat)(D:Da):Option Da:=match fS i ps with
 |false=>some (q9 ps D) |true=>none
theorem LG{ps:List Nat}{i:Nat}{D D':Da}(h:SB ps i D=some D'):fS i ps=false/\q9 ps D=D':=by
 unfold SB at h;split at h
 ·rename_i hm;injection h with h;exact ⟨hm,h⟩
 ·cases h
theorem WA.c{i d:Nat}{f:FuncId}{as args':List AV}{y:AV}(h:wcl K.gs K.n all Y π E=some (π',i,d,f,as,y))(hD:SB (pubs i) i D=some D')(hf:Pure K.P K.gs f args' y)(hs:pZ D (pubs i) as args')
 (next:WA K all m k pubs Y π' ⟨(d,y)::E.us,E.cs⟩ Λ D'):WA K all m k pubs Y π E Λ D:=by
 unfold wcl at h;split at h
 ·rename_i i0 π0;split at h
  ·rename_i o hi;split at h
   ·rename_i ks hg;split at h
    ·rename_i c ho;obtain ⟨cc,ca,ct⟩:=c;simp only at h;split at h
     ·rename_i x;split at h
      ·rename_i f' fst cap hx;split at h
       ·rename_i vs hvs;split at h
        ·rename_i d' hd;split at h
         ·rename_i hc;split at h
          ·rename_i y' hy;injection h with h;injection h with h1 h2;injection h2 with h2 h3;injection h3 with h3 h4;injection h4 with h4 h5;injection h5 with h5 h6;subst h1;subst h2;subst h3;subst h4;subst h5;subst h6;exact WA.gv hi hg ho hx hvs hd hc T (LG hD).1 (LG hD).2 hy hf hs next
          ·cases h
         ·cases h
        ·cases h
       ·cases h
      ·cases h
     ·cases h
    ·cases h
   ·cases h
  ·cases h
 ·cases h
theorem WA.x{xs:List AV}{i:Int}{f:AV->Option (List Nat×aH)}{y y':AV}(h:wix K.S K.gs K.n all π E=some (xs,i,f))(h0:0<=i)(hy:xs[i.toNat]? =some y)(hy':y=y')(hf:f y'=some (π',E'))(next:WA K all m k pubs Y π' E' Λ D):WA K all m k pubs Y π E Λ D:=by
 unfold wix at h;split at h
 ·rename_i j π0;split at h
  ·rename_i o hj;split at h
   ·rename_i ks hg;split at h
    ·rename_i t x ix ho;split at h
     ·rename_i xv hx;split at h
      ·rename_i kk i' hi;split at h
       ·rename_i ti ht;split at h
        ·rename_i el hd;split at h
         ·rename_i ei he;split at h
          ·rename_i xs' own hs;injection h with h;injection h with h1 h2;injection h2 with h2 h3;subst h1;subst h2;subst h3;simp only at hf;split at hf
           ·rename_i E1 hput;injection hf with hf;injection hf with h1 h2;subst h1;subst h2;exact WA.index hj hg ho hx hi ht hd he hs h0 hy hy' hput next
           ·cases hf
          ·cases h
         ·cases h
        ·cases h
       ·cases h
      ·cases h
     ·cases h
    ·cases h
   ·cases h
  ·cases h
 ·cases h
end
end Go.Tp
namespace Go.Tp
open Go Go.RowKit
theorem Pure.any{P:Program}{f:FuncId}{a:List AV}{x:AV}(h:Pure P [] f a x){gs:Ua}:Pure P gs f a x:=
 fun w0 hh vs L F g r q=>h w0 hh vs L F (fun g x hx=>by cases hx) r q
section
variable{K:AC}{k k':List It}{E E':aH}{Λ:List aF}
end
end Go.Tp
namespace Go.Tp
open Go Go.RowKit
theorem YP{C:nY}{args:List Value}{c:Code}(hD:C.D=[])(hb:C.fn.body=some c)(hn:C.fn.ntmps=C.n)(hl:Nat.ble args.length C.n=true):
 ∃(b:Frame) (a:Act),Frame.enter C.P C.f ⟨args⟩ .normal=b.atR a [.code c]/\Ag C.n C.D ⟨rU 0 args,[]⟩ a/\b.fn=C.f/\b.kind= .normal/\b.roundOf=none:=by
 have hle:args.length<=C.n:=af7 hl;refine ⟨{(default:Frame) with fn:=C.f,kind:= .normal},{tmps:=(⟨args⟩:Array Value)++ah6 (C.fn.ntmps-(⟨args⟩:Array Value).size) undef,defers:=[]},?_,?_,rfl,rfl,rfl⟩
 ·simp [Frame.enter,Frame.atR,C.hfn,hb,show (default:Frame).roundOf=none from rfl]
 ·refine ⟨by simp [hn];omega,by rw [hD];rfl,fun t v hv=>?_,fun _ _ _ _ h=>by cases h⟩;obtain ⟨_,h2⟩:=uY args 0 t hv;simp only [am0] at h2;have ht:t<args.length:=by
   rcases ad7 t args.length with h|h
   ·exact h
   ·rw [List.getElem?_eq_none h] at h2;cases h2
  show ((⟨args⟩:Array Value)++_)[t]? =_;rw [Array.getElem?_append_left (by simpa using ht)];simpa using h2
def oA:Option Code->List It
 |none=>[] |some c=>[.code c]
theorem EY(j:Option Code):items (oA j)=(j.map Item.code).toList:=by cases j<;>rfl
theorem P3(j:Option Code){k:List It}(h:fY k):fY (oA j++k):=by
 cases j
 ·exact h
 ·exact dE h
section
variable{C:nY}{k:List It}{e:Env}{h:GH}{L:List a6}
theorem V.rangeFunc{x:Operand}{ps:Array Tmp}{assign body:Code}{g:FuncId}{fst cap:Array Value}{fng:Func}{cg:Code}{R':Nat->Array Value->Value->GH->List a6->Prop}
 (hrd:C.rd=none) (hx:e.ev [] x=some (.func (.func g) fst cap)) (hfn:C.P.funcs[g]? =some fng) (hb:fng.body=some cg) (hnm:(fng.name== "runtime.NumGoroutine")=false)
 (hl:Nat.ble (fst.toList++(.func (.yield 0) #[] #[]::cap.toList)).length fng.ntmps=true)
 (next: ∀(r:Nat) (tm:Array Value),tm.size=C.n->(∀t v,look e.us t=some v->tm[t]? =some v)->
   V ⟨C.P,C.S,C.w0,g,fng,fng.ntmps,R' r tm,C.ok,hfn,[],none⟩ [.code cg] ⟨rU 0 (fst.toList++(.func (.yield (r+1)) #[] #[]::cap.toList)),[]⟩ h
     (⟨r+1,0,[],some (.loop ⟨.ready,none,C.f,tm,ps,assign,body,r⟩)⟩::⟨r,0,[],some (.deferred (some []))⟩::L))
 (fin: ∀r tm v h' L',R' r tm v h' L'-> ∃rc L'',(∀w,St C.w0 h' L' w->St C.w0 h' (⟨r+1,0,[],some (.loop rc)⟩::L'') w)/\rc.state≠ .busy/\
   V ⟨C.P,C.S,C.w0,C.f,C.fn,C.n,C.R,C.ok,C.hfn,r::C.D,none⟩ (oA rc.pending++k) e h' L''):V C (.code (.rangeFunc x ps assign body)::k) e h L:=by
 intro ho a w b cs g0 s hf hk;obtain ⟨hk1,hk2,hk3⟩:=hk;rw [hrd] at hk2;have hen:=run_enterLoop_outer (P:=C.P) (w:=w) b.fn a.tmps ps assign body;rw [hf,<-hk2] at hen;have hres:(resolve a.eval (rangeCall x (w.heap.size+1)) 0).run C.P ((w.alloc (.deferred (some []))).alloc (.loop {state:= .ready,pending:=none,fn:=C.f,tmps:=a.tmps,params:=ps,assign,body,defers:=w.heap.size}))=
  .ok ⟨.fn (.func g) cap,fst++(#[.func (.yield (w.heap.size+1)) #[] #[]]:Array Value)⟩ ((w.alloc (.deferred (some []))).alloc (.loop {state:= .ready,pending:=none,fn:=C.f,tmps:=a.tmps,params:=ps,assign,body,defers:=w.heap.size})):=by
  have hev:a.eval (.const (.func (.yield (w.heap.size+1)) #[] #[]))= .func (.yield (w.heap.size+1)) #[] #[]:=rfl;simp [resolve,rangeCall,g0.ev (nD a) hx,hev,Deferred.ofValue]
 have e2:fst++(#[.func (.yield (w.heap.size+1)) #[] #[]]:Array Value)++cap=⟨fst.toList++(.func (.yield (w.heap.size+1)) #[] #[]::cap.toList)⟩:=by apply ag4;simp
 have hcf: ∀w1,(callFunc g (fst++(#[.func (.yield (w.heap.size+1)) #[] #[]]:Array Value)++cap)).run C.P w1= .ok (.enter g ⟨fst.toList++(.func (.yield (w.heap.size+1)) #[] #[]::cap.toList)⟩) w1:=by intro w1;simp only [callFunc,aa9,run_program,aa5,hfn,hnm,Bool.false_eq_true,if_false,hb,Option.isNone_some,ab5,e2]
 have hst:=stepR_rangeFunc (P:=C.P) (b:=b) (a:=a) (k:=items k) (cs:=cs) (by rw [hf];exact hen) hres (show (invoke (.fn (.func g) cap) (fst++(#[.func (.yield (w.heap.size+1)) #[] #[]]:Array Value))).run C.P _=_ by simp only [invoke];exact hcf _)
 have s1:=(s.dv (.deferred (some [])) (fun _ _ _ x=>by cases x)).dv (.loop {state:= .ready,pending:=none,fn:=C.f,tmps:=a.tmps,params:=ps,assign,body,defers:=w.heap.size}) (fun _ _ _ x=>by cases x);rw [World.size_alloc] at s1;have hv:=next w.heap.size a.tmps g0.size g0.us
 obtain ⟨b1,a1,q1,q2,q3,q4,q5⟩:=YP (C:=⟨C.P,C.S,C.w0,g,fng,fng.ntmps,R' w.heap.size a.tmps,C.ok,hfn,[],none⟩) (args:=fst.toList++(.func (.yield (w.heap.size+1)) #[] #[]::cap.toList)) rfl hb rfl (by simpa using hl);simp only at q1;rw [q1] at hst;obtain ⟨v,w',m,h',L',r,s',st,ou,_⟩:=hv (dE (fun _ hx=>by cases hx)) a1 _ b1 (b.atR {a with defers:=[{target:= .collected w.heap.size,args:= #[]}]++a.defers} (.inRangeFunc (w.heap.size+1)::items k)::cs) q2 s1 q3 ⟨q4,q5,fun x=>(x rfl).elim⟩;obtain ⟨fr,rfl,f1,f2⟩:=ou;obtain ⟨rc,L'',g1,g2,g3⟩:=fin _ _ _ _ _ r;have s2:=g1 _ s';have hob:=((s2.own _ (aa4 ..)).obj _ T).2.1;simp only at hob;have hel:=run_endLoop (P:=C.P) hob g2;have s3:=(s2.setObj T (.loop {rc with state:= .exhausted}) (fun _ _ _ x=>by cases x)).tail;have hag:Ag C.n (w.heap.size::C.D) e {a with defers:=[{target:= .collected w.heap.size,args:= #[]}]++a.defers}:=by refine ⟨g0.size,?_,g0.us,g0.cs⟩;show _::a.defers=_;rw [g0.defers];rfl
 obtain ⟨v2,w2,m2,h2,L2,r2,s4,st2,ou2,_⟩:=g3 (P3 _ (bD ho)) _ _ b cs hag s3 hf ⟨hk1,hk2,fun x=>(x rfl).elim⟩;refine ⟨v2,w2,m2,h2,L2,r2,s4,?_,?_,trivial⟩
 ·refine .head hst (st.trans (.head (step_leave_returned f2) ?_));rw [finish_atR_inRangeFunc];refine .head (stepR_endRangeFunc hel) ?_;rw [<-EY,show items (oA rc.pending)++items k=items (oA rc.pending++k) by simp [items]];exact st2
 ·unfold nY.Out at ou2⊢;rw [hrd];exact ou2
theorem V.yield{all:Array Oper}{o:Oper}{l:List Oper}{ks:List (Nat×Bool)}{x:Operand}{args:Array Operand}{ts:Array TypeId}{lp:Nat}{vs:List Value}{d:Nat}{rc:Loop}{fn2:Func}{n2:Nat}{e2:Env}
 (hg:fX e all o.guard=some ks) (ho:o.op= .call ⟨.value x,args,ts⟩) (hx:e.ev ks x=some (.func (.yield lp) #[] #[])) (ha:PG (e.ev ks) args.toList=some vs)
 (hd:o.dst=some d) (hc:eY C.n e d=true) (hL:(⟨lp,0,[],some (.loop rc)⟩:a6)∈L) (hlen:vs.length=rc.params.size) (hfn:C.P.funcs[rc.fn]? =some fn2)
 (hag:Ag n2 [] e2 {tmps:=(rc.params.toList.zip vs).foldl (fun tmps (x:Nat×Value)=>tmps.setIfInBounds x.1 x.2) rc.tmps,defers:=[]})
 (next:V ⟨C.P,C.S,C.w0,rc.fn,fn2,n2,fun v h' L'=>V C (.ops all l::k) ⟨(d,v)::e.us,e.cs⟩ h' L',C.ok,hfn,[],some lp⟩ [.code rc.assign, .begin, .code rc.body] e2 h L):
 V C (.ops all (o::l)::k) e h L:=by
 intro hok a w b cs g s hf hk;obtain ⟨⟨pre,hp⟩,hnd⟩:(∃pre,all.toList=pre++o::l)/\j9 all.toList=true:=hok _ (aa4 ..);obtain ⟨i1,i2,i3⟩:=M9 hp;have hok':fY (.ops all l::k):=tC (pre:=pre++[o]) (by simp [hp]) hnd (bD hok);obtain ⟨hon,hks⟩:=f6 g hg;have hgo:=stepGR_op (P:=C.P) (b:=b) (k:=items k) (cs:=cs) (w:=w) (a:=a) (rest:=ag6 (pre.length+1) l.length) i3 hon;rw [Oper.semAt_eq _ _ _ (fun c hc=>by rw [ho] at hc;cases hc)] at hgo;have hob:=((s.own _ hL).obj _ T).2.1;simp only at hob;have e1:args.map a.eval=⟨vs⟩:=by apply ag4;rw [Array.toList_map];exact lU (fun x v hx=>g.ev hks hx) ha
 have hrun:(execOp a.eval o).run C.P w= .ok (.round lp rc.fn ((rc.params.toList.zip vs).foldl (fun tmps (x:Nat×Value)=>tmps.setIfInBounds x.1 x.2) rc.tmps) rc.assign rc.body) w:=by unfold execOp;rw [ho];have hy:=run_yield (P:=C.P) (args:=⟨vs⟩) hob (by simpa using hlen);simp only [resolve,e1,g.ev hks hx,Deferred.ofValue,aa9,ab5,aa5,invoke];simp only [Array.append_empty,Array.empty_append];rw [hy];congr 2;rw [<-Array.foldl_toList,Array.toList_zip]
 have hst:Go.step C.P (lone (b.atR a (.inRegion all (pre.length::ag6 (pre.length+1) l.length)::items k)) cs w)=
  .next (lone (Frame.round lp rc.fn ((rc.params.toList.zip vs).foldl (fun tmps (x:Nat×Value)=>tmps.setIfInBounds x.1 x.2) rc.tmps) rc.assign rc.body .normal) (b.atR a (.inRegion all (pre.length::ag6 (pre.length+1) l.length)::items k)::cs) w):=
  step_lone_go (by rw [hgo];simp [stepG.apply,hrun])
 obtain ⟨v,w',m,h',L',r,s',st,ou,_⟩:=next (dE (kW (show It.ok .begin from trivial) (dE (fun _ hx=>by cases hx)))) {tmps:=(rc.params.toList.zip vs).foldl (fun tmps (x:Nat×Value)=>tmps.setIfInBounds x.1 x.2) rc.tmps,defers:=[]} w
  (Frame.round lp rc.fn ((rc.params.toList.zip vs).foldl (fun tmps (x:Nat×Value)=>tmps.setIfInBounds x.1 x.2) rc.tmps) rc.assign rc.body .normal) (b.atR a (.inRegion all (pre.length::ag6 (pre.length+1) l.length)::items k)::cs) hag s T ⟨rfl,rfl,fun _ x=>by cases x⟩
 obtain ⟨c,cs',f1,rfl⟩:=ou;injection f1 with f1 f2;subst f1;subst f2;obtain ⟨v2,w2,m2,h2,L2,r2,s4,st2,ou2,t2⟩:=r hok' (a.put o.dst v) w' b cs (g.put (by rw [hd];exact f8 hc)) s' hf hk;refine ⟨v2,w2,m2,h2,L2,r2,s4,?_,ou2,t2⟩;have x1:items (.ops all (o::l)::k)= .inRegion all (pre.length::ag6 (pre.length+1) l.length)::items k:=by simp [items,i1]
 have x2:items (.ops all l::k)= .inRegion all (ag6 (pre.length+1) l.length)::items k:=by simp [items,i2]
 rw [x1];rw [x2] at st2;have hfin:(b.atR a (.inRegion all (pre.length::ag6 (pre.length+1) l.length)::items k)).finish v=b.atR (a.put o.dst v) (.inRegion all (ag6 (pre.length+1) l.length)::items k):=by rw [Frame.finish_atR,i3];rfl
 rw [hfin] at st;exact .head hst (st.trans st2)
theorem V.begin{lp:Nat}{rc:Loop}(hrd:C.rd=some lp)(hr:rc.state= .ready)(hv:V C k e h (⟨lp,0,[],some (.loop {rc with state:= .busy})⟩::L)):V C (.begin::k) e h (⟨lp,0,[],some (.loop rc)⟩::L):=by intro ho a w b cs g s hf hk;have hob:=((s.own _ (aa4 ..)).obj _ T).2.1;have s2:=s.setObj T (.loop {rc with state:= .busy}) (fun _ _ _ x=>by cases x);obtain ⟨v,w',m,h',L',r,s',st,ou⟩:=hv (bD ho) a _ b cs g s2 hf hk;exact ⟨v,w',m,h',L',r,s', .head (stepR_beginRound (hk.2.1.trans hrd) (run_beginRound hob hr)) st,ou⟩
theorem V.dm{lp:Nat}{rc:Loop}(hrd:C.rd=some lp)(hR:C.R (.bool true) h (⟨lp,0,[],some (.loop {rc with state:= .ready,pending:=none})⟩::L)):V C [] e h (⟨lp,0,[],some (.loop rc)⟩::L):=by
 intro ho a w b cs g s hf hk;obtain ⟨hk1,hk2,hk3⟩:=hk;have hob:=((s.own _ (aa4 ..)).obj _ T).2.1;have s2:=s.setObj T (.loop {rc with state:= .ready,pending:=none}) (fun _ _ _ x=>by cases x);cases cs with
 |nil=>exact (hk3 (by rw [hrd];exact fun x=>by cases x) T).elim |cons c cs=>
  refine ⟨.bool true,_,_,h,_,hR,s2, .one (stepR_round_end (hk2.trans hrd) hk1 (run_endRound none hob)),?_,trivial⟩;unfold nY.Out;rw [hrd];exact ⟨c,cs,rfl,rfl⟩
theorem V.ej{lp:Nat}{rc:Loop}(hrd:C.rd=some lp)(hR:C.R (.bool false) h (⟨lp,0,[],some (.loop {rc with state:= .done,pending:=some .ret})⟩::L)):V C (.code .ret::k) e h (⟨lp,0,[],some (.loop rc)⟩::L):=by
 intro ho a w b cs g s hf hk;obtain ⟨hk1,hk2,hk3⟩:=hk;have hob:=((s.own _ (aa4 ..)).obj _ T).2.1;have s2:=s.setObj T (.loop {rc with state:= .done,pending:=some .ret}) (fun _ _ _ x=>by cases x);cases cs with
 |nil=>exact (hk3 (by rw [hrd];exact fun x=>by cases x) T).elim |cons c cs=>
  refine ⟨.bool false,_,_,h,_,hR,s2, .one (stepR_round_ret (hk2.trans hrd) hk1 (run_endRound (some .ret) hob)),?_,trivial⟩;unfold nY.Out;rw [hrd];exact ⟨c,cs,rfl,rfl⟩
end
end Go.Tp
namespace Go.Tp
open Go Go.RowKit
theorem V.post{P:Program}{S:TT}{w0:World}{f:FuncId}{fn:Func}{n:Nat}{R R':Value->GH->List a6->Prop}{ok:S.Ok P}{hfn:P.funcs[f]? =some fn}{D:List Nat}{rd:Option Nat}{k:List It}{e:Env}{h:GH}{L:List a6}
 (hR: ∀v h' L',R v h' L'->R' v h' L') (hv:V ⟨P,S,w0,f,fn,n,R,ok,hfn,D,rd⟩ k e h L):V ⟨P,S,w0,f,fn,n,R',ok,hfn,D,rd⟩ k e h L:=by
 intro ho a w b cs g s hf hk;obtain ⟨v,w',m,h',L',r,s',st,ou,t⟩:=hv ho a w b cs g s hf hk;refine ⟨v,w',m,h',L',hR _ _ _ r,s',st,?_,t⟩;unfold nY.Out at ou⊢;exact ou
structure XD(h:GH)(n:Nat)(E:aH)(tm:Array Value):Prop where
 size:tm.size=n
 us: ∃us,zT h E.us us/\ ∀t v,look us t=some v->tm[t]? =some v
theorem XD.mono{h h':GH}(hl:h.le h'){n:Nat}{E:aH}{tm:Array Value}(r:XD h n E tm):XD h' n E tm:=⟨r.size,let ⟨us,a,b⟩:=r.us;⟨us,a.mono hl,b⟩⟩
def ED:List Nat->List AV->Ua->Ua
 |t::ts,x::xs,us=>ED ts xs ((t,x)::us) |_,_,us=>us
def AU:List Nat->List Value->Us->Us
 |t::ts,x::xs,us=>AU ts xs ((t,x)::us) |_,_,us=>us
def o7(n:Nat):List Nat->Bool
 | []=>true |t::ts=>match Nat.blt t n with
  |true=>o7 n ts |false=>false
theorem TX{h:GH}: ∀{ts:List Nat} {xs:List AV} {vs:List Value} {U:Ua} {us:Us},dM h xs vs->zT h U us->zT h (ED ts xs U) (AU ts vs us)
 | [],xs,vs,U,us,r,q=>by
   have e1:ED [] xs U=U:=by unfold ED;rfl
   have e2:AU [] vs us=us:=by unfold AU;rfl
   rw [e1,e2];exact q
 |t::ts,[],vs,U,us,r,q=>by rw [aQ] at r;subst r;exact q |t::ts,x::xs,vs,U,us,r,q=>by rw [aG] at r;obtain ⟨v,vs',rfl,h1,h2⟩:=r;exact TX (ts:=ts) h2 (q.put h1)
theorem TW{n:Nat}: ∀{ts:List Nat} {vs:List Value} {us:Us} {tm:Array Value},o7 n ts=true->tm.size=n->(∀t v,look us t=some v->tm[t]? =some v)->
 Ag n [] ⟨AU ts vs us,[]⟩ {tmps:=(ts.zip vs).foldl (fun tmps (x:Nat×Value)=>tmps.setIfInBounds x.1 x.2) tm,defers:=[]}
 | [],vs,us,tm,hb,hs,hu=>by
   have e2:AU [] vs us=us:=by unfold AU;rfl
   rw [e2];exact ⟨by simpa using hs,rfl,fun t v hv=>by simpa using hu t v hv,fun _ _ _ _ h=>by cases h⟩
 |t::ts,[],us,tm,hb,hs,hu=>⟨by simpa using hs,rfl,fun t v hv=>by simpa using hu t v hv,fun _ _ _ _ h=>by cases h⟩ |t::ts,v::vs,us,tm,hb,hs,hu=>by
  simp only [o7] at hb;split at hb
  ·rename_i ht;have ht:t<tm.size:=by rw [hs];simpa [ah3] using ht
   refine TW (ts:=ts) (vs:=vs) (us:=(t,v)::us) (tm:=tm.setIfInBounds t v) hb (by simpa using hs) fun u x hx=>?_;simp only [look] at hx;split at hx
   ·rename_i hk;have hk:=ab2 hk;subst hk;injection hx with hx;subst hx;simp [ht]
   ·rename_i hk;rw [Array.getElem?_setIfInBounds,iF (dY hk)];exact hu u x hx
  ·cases hb
class ALp (Λ:List aF) (lp:outParam Nat) (r0:outParam Loop) (st:outParam LoopState) (pd:outParam (Option Code)) (Λ':outParam (List aF)):Prop where
 perm:Λ.Perm (.loop lp r0 st pd::Λ')
instance ALp.here {lp:Nat} {r0:Loop} {st:LoopState} {pd:Option Code} {Λ:List aF}:ALp (.loop lp r0 st pd::Λ) lp r0 st pd Λ:=⟨.refl _⟩
instance (priority:=low) ALp.there {y:aF} {lp:Nat} {r0:Loop} {st:LoopState} {pd:Option Code} {Λ Λ':List aF} [i:ALp Λ lp r0 st pd Λ']:ALp (y::Λ) lp r0 st pd (y::Λ'):=⟨(i.perm.cons y).trans (.swap _ _ _)⟩
def QK(K':AC)(E:aH)(k:List It)(lp:Nat)(r0:Loop):AV->List aF->Prop:=
 fun _ Λ'=> ∃st pd Λ'',st≠ .busy/\Λ'.Perm (.loop lp r0 st pd::Λ'')/\A K' (oA pd++k) E Λ''
section
variable{K:AC}{k:List It}{E:aH}{Λ:List aF}
theorem A.rangeFunc{x:Operand}{ps:Array Tmp}{assign body:Code}{g:FuncId}{fst cap:List AV}{fng:Func}{cg:Code}
 (hx:E.ev K.gs [] x=some (.fn g fst cap)) (hfn:K.P.funcs[g]? =some fng) (hb:fng.body=some cg) (hnm:(fng.name== "runtime.NumGoroutine")=false)
 (hl:Nat.ble (pG (fst++(.v (.func (.yield 0) #[] #[])::cap))) fng.ntmps=true) (hrd:K.rd=none)
 (next: ∀(h1:GH) (hg1:jP h1 K.gs) (r:Nat) (tm:Array Value),K.h0.le h1->XD h1 K.n E tm->
   A ⟨K.P,K.S,K.w0,g,fng,fng.ntmps,K.ok,hfn,h1,⟨r,0,[],some (.deferred (some []))⟩::K.G,K.gs,hg1,
       QK ⟨K.P,K.S,K.w0,K.f,K.fn,K.n,K.ok,K.hfn,h1,K.F,K.gs,hg1,K.Q,r::K.D,none⟩ E k (r+1) ⟨.ready,none,K.f,tm,ps,assign,body,r⟩,[],none⟩
     [.code cg] ⟨t6 0 (fst++(.v (.func (.yield (r+1)) #[] #[])::cap)),[]⟩ (.loop (r+1) ⟨.ready,none,K.f,tm,ps,assign,body,r⟩ .ready none::Λ)):
 A K (.code (.rangeFunc x ps assign body)::k) E Λ:=by
 refine ⟨fun h e L hl' r q=>?_⟩;obtain ⟨v1,e1,f1⟩:=r.ev (K.hgs.mono hl') _ hx;rw [q8] at f1;obtain ⟨u,w,rfl,f2,f3⟩:=f1
 refine V.rangeFunc (C:=K.cfg) (R':=fun rr tm=>AC.R ⟨K.P,K.S,K.w0,g,fng,fng.ntmps,K.ok,hfn,h,⟨rr,0,[],some (.deferred (some []))⟩::K.G,K.gs,K.hgs.mono hl',
         QK ⟨K.P,K.S,K.w0,K.f,K.fn,K.n,K.ok,K.hfn,h,K.F,K.gs,K.hgs.mono hl',K.Q,rr::K.D,none⟩ E k (rr+1) ⟨.ready,none,K.f,tm,ps,assign,body,rr⟩,[],none⟩) hrd e1 hfn hb hnm ?_ (fun rr tm t1 t2=>?_) (fun rr tm v h' L' hR=>?_)
 ·have h1:=f2.len;have h2:=f3.len;rw [i9] at hl;have hl:=af7 hl;rw [Nat.ble_eq];simp only [aa7,ab1] at hl⊢;omega
 ·have:=(next h (K.hgs.mono hl') rr tm hl' ⟨t1,e.us,r.1,t2⟩).run h ⟨rU 0 (u++(.func (.yield (rr+1)) #[] #[]::w)),[]⟩ (⟨rr+1,0,[],some (.loop ⟨.ready,none,K.f,tm,ps,assign,body,rr⟩)⟩::L) (GH.le_refl _)
   ⟨vV 0 (f2.append (aG.2 ⟨_,w,rfl,bE.2 ⟨rfl,rfl⟩,f3⟩)),rfl⟩ ⟨[_],L,rfl,rfl,q⟩
  refine V.perm ?_ this;show (_::_::(L++K.G)).Perm ((_::L)++([]++(_::K.G)));rw [ah8,ae0];exact (ae8.symm).cons _
 ·obtain ⟨y,Λ',L1,⟨st,pd,Λ'',c1,c2,c3⟩,h2,h3,h4,h5⟩:=hR;obtain ⟨L2,g1,g2⟩:=h4.perm c2;obtain ⟨p,L3,rfl,g3,g4⟩:=g1;have g3:p=_:=g3;subst g3;refine ⟨{(⟨.ready,none,K.f,tm,ps,assign,body,rr⟩:Loop) with state:=st,pending:=pd},L3++(⟨rr,0,[],some (.deferred (some []))⟩::K.G),fun w s=>?_,c1,?_⟩
  ·exact (s.sub h5).perm (g2.append_right _)
  ·exact V.post (fun v h2 L5 ⟨y,Λ1,L6,d1,d2,d3,d4,d5⟩=>⟨y,Λ1,L6,d1,d2,GH.le_trans hl' d3,d4,d5⟩) (c3.run h' e L3 h3 (r.mono h3) g4)
theorem A.begin{lp lp':Nat}{r0:Loop}{st:LoopState}{pd:Option Code}{Λ':List aF} [i:ALp Λ lp' r0 st pd Λ'](hrd:K.rd=some lp)(he:lp'=lp)(hst:st= .ready)(next:A K k E (.loop lp r0 .busy pd::Λ')):A K (.begin::k) E Λ:=by subst he;subst hst;refine ⟨fun h e L hl r q=>?_⟩;obtain ⟨L1,g1,g2⟩:=q.perm i.perm;obtain ⟨p,L3,rfl,g3,g4⟩:=g1;have g3:p=_:=g3;subst g3;refine V.perm (g2.append_right _) ?_;exact V.begin (C:=K.cfg) hrd T (next.run h e (_::L3) hl r ⟨[_],L3,rfl,rfl,g4⟩)
theorem AC.gn{h:GH}{x:AV}{v:Value}{e:aF}{Λ:List aF}{p:a6}{L:List a6}(hQ:K.Q x (e::Λ))(hr:Rp h x v)(hl:K.h0.le h)(he:nZ h e [p])(q:kL h Λ L):K.R v h (p::(L++K.G)):=
 ⟨x,_,p::L,hQ,hr,hl,⟨[p],L,rfl,he,q⟩,by
   show (p::(L++K.F)).Sublist _;exact ((List.Sublist.refl L).append (List.sublist_append_right _ _)).cons_cons _⟩
theorem A.dm{lp lp':Nat}{r0:Loop}{st:LoopState}{pd:Option Code}{Λ':List aF} [i:ALp Λ lp' r0 st pd Λ'](hrd:K.rd=some lp)(he:lp'=lp)(hq:K.Q (.v (.bool true)) (.loop lp r0 .ready none::Λ')):A K [] E Λ:=by subst he;refine ⟨fun h e L hl r q=>?_⟩;obtain ⟨L1,g1,g2⟩:=q.perm i.perm;obtain ⟨p,L3,rfl,g3,g4⟩:=g1;have g3:p=_:=g3;subst g3;refine V.perm (g2.append_right _) ?_;exact V.dm (C:=K.cfg) hrd (AC.gn hq (bE.2 ⟨rfl,rfl⟩) hl T g4)
theorem A.ej{lp lp':Nat}{r0:Loop}{st:LoopState}{pd:Option Code}{Λ':List aF} [i:ALp Λ lp' r0 st pd Λ'](hrd:K.rd=some lp)(he:lp'=lp)(hq:K.Q (.v (.bool false)) (.loop lp r0 .done (some .ret)::Λ')):A K (.code .ret::k) E Λ:=by subst he;refine ⟨fun h e L hl r q=>?_⟩;obtain ⟨L1,g1,g2⟩:=q.perm i.perm;obtain ⟨p,L3,rfl,g3,g4⟩:=g1;have g3:p=_:=g3;subst g3;refine V.perm (g2.append_right _) ?_;exact V.ej (C:=K.cfg) hrd (AC.gn hq (bE.2 ⟨rfl,rfl⟩) hl T g4)
end
end Go.Tp
namespace Go.Tp
open Go Go.RowKit
def DT(sz:Nat)(l h:Nat):Value->Value
 | .slice a _ c=> .slice (if c=l then a else a.map (·.add (l*sz))) (h-l) (c-l) |v=>v
def jU(ρ:Operand->Option AV)(d:Int):Option Operand->Option Int
 |none=>some d |some x=>match ρ x with
  |some (.v (.int _ i))=>some i |_=>none
def oP(σ:Operand->Value)(d:Int):Option Operand->Option Int
 |none=>some d |some x=>match σ x with
  | .int _ i=>some i |_=>none
theorem TS{P:Program}{S:TT}{w:World}{t el:TypeId}{ti ei:TI}(hS:S.Ok P)(ht:S.get t=some ti)(hd:ti.d= .slice el)(he:S.get el=some ei){σ:Operand->Value}{a:Option Addr}{n c:Nat}{lo hi:Option Operand}{l h:Int}
 (h1:oP σ 0 lo=some l) (h2:oP σ n hi=some h) (h0:0<=l) (h3:l<=h) (h4:h<=c) (h5:hi=none->n<=c):
 (Instr.sliceAt t (.slice a n c) (lo.map σ) (hi.map σ) none).run P w= .ok (DT ei.size l.toNat h.toNat (.slice a n c)) w:=by
 have hu:(underlying t).run P w= .ok (.slice el) w:=by rw [run_underlying (TT.Ok.get hS ht),hd]
 have hz:(sizeOf el).run P w= .ok ei.size w:=run_sizeOf (TT.Ok.get hS he);have eh:(h.toNat:Int)=h:=Int.toNat_of_nonneg (by omega);have hb:(Instr.sliceBounds true n c (lo.map σ) (hi.map σ) none).run P w= .ok (l.toNat,h.toNat,c) w:=by
  cases hi with
  |none=>
   simp only [oP,Option.some.injEq] at h2;subst h2;cases lo with
   |none=>
    simp only [oP,Option.some.injEq] at h1;subst h1;simp [Instr.sliceBounds]
   |some x=>
    simp only [oP] at h1;split at h1
    ·rename_i k i hx;injection h1 with h1;subst h1;have hl:i<=(n:Int):=h3;simp [Instr.sliceBounds,hx,run_sliceBound,h0,hl]
    ·cases h1
  |some y=>
   simp only [oP] at h2;split at h2
   ·rename_i k j hy;injection h2 with h2;subst h2;have hj:0<=j:=by omega
    cases lo with
    |none=>
     simp only [oP,Option.some.injEq] at h1;subst h1;simp [Instr.sliceBounds,hy,run_sliceBound,hj,h4]
    |some x=>
     simp only [oP] at h1;split at h1
     ·rename_i k2 i hx;injection h1 with h1;subst h1;simp [Instr.sliceBounds,hx,hy,run_sliceBound,hj,h4,h0,h3,eh]
     ·cases h1
   ·cases h2
 simp only [Instr.sliceAt,Instr.slice,aa9,hu,aa5,hb,hz,ab5,DT]
theorem s6{ρ:Operand->Option AV}{σ:Operand->Value}{d:Int}{h:GH}(hρ: ∀z x,ρ z=some x->Rp h x (σ z)){o:Option Operand}{i:Int}(hb:jU ρ d o=some i):oP σ d o=some i:=by
 cases o with
 |none=>exact hb |some x=>
  simp only [jU] at hb;split at hb
  ·rename_i k j hx;have:=hρ _ _ hx;rw [bE] at this;simp only [oP,this.1];exact hb
  ·cases hb
theorem part_rp{h:GH}{sz:Nat}{xs:List AV}{own:Option Value}{v:Value}(r:Rp h (.sl sz xs own) v){l n:Nat}(h1:l<=n)(h2:n<=xs.length):Rp h (.sl sz ((xs.drop l).take (n-l)) none) (DT sz l n v):=by
 rw [cU] at r;obtain ⟨a,c,rfl,g2,_,g4⟩:=r;rw [cU];have hlen:((xs.drop l).take (n-l)).length=n-l:=by simp;omega
 refine ⟨if c=l then a else a.map (·.add (l*sz)),c-l,by rw [hlen];rfl,by rw [hlen];omega,trivial,fun hn=>?_⟩;have hnl:l<n:=by
  rcases ad7 l n with h|h
  ·exact h
  ·exact (hn (List.length_eq_zero_iff.1 (by rw [hlen];omega))).elim
 obtain ⟨b,o,rfl,g5⟩:=g4 (fun e=>by subst e;simp at h2;omega);refine ⟨b,o+l*sz,?_,tU.sub l (n-l) g5⟩;rw [iF (by omega)];simp only [ag0,Addr.add];split
 ·rename_i h0;rw [h0];rfl
 ·rfl
section
variable{K:AC}{k:List It}{E:aH}{Λ:List aF}
theorem HA{o:Oper}{ks:List (Nat×Bool)}{t el:TypeId}{ti ei:TI}{x:Operand}{lo hi:Option Operand}{xv:AV}{xs:List AV}{own:Option Value}{l n:Int}{h:GH}{e:Env}
 (ho:o.op= .slice t x lo hi none) (hx:E.ev K.gs ks x=some xv) (ht:K.S.get t=some ti) (hdd:ti.d= .slice el) (he:K.S.get el=some ei) (hs:nX ei.size xv=some (xs,own))
 (hlo:jU (E.ev K.gs ks) 0 lo=some l) (hhi:jU (E.ev K.gs ks) xs.length hi=some n) (h0:0<=l) (h1:l<=n) (h2:n<=xs.length) (hl:K.h0.le h) (r:iR h E e):
 ∃y,Rp h (.sl ei.size ((xs.drop l.toNat).take (n.toNat-l.toNat)) none) y/\ ∀a w,Ag K.n K.D e a->dK a ks->(execOp a.eval o).run K.P w= .ok (.value y) w:=by
 obtain ⟨v1,e1,f1⟩:=r.ev (K.hgs.mono hl) _ hx;have f1:=jC hs f1;refine ⟨DT ei.size l.toNat n.toNat v1,part_rp f1 (by omega) (by omega),fun a w g hk=>?_⟩;rw [cU] at f1;obtain ⟨a1,c,rfl,g2,_⟩:=f1;have hρ: ∀z x,E.ev K.gs ks z=some x->Rp h x (a.eval z):=fun z x hz=>by obtain ⟨v2,e2,f2⟩:=r.ev (K.hgs.mono hl) _ hz;rw [g.ev hk e2];exact f2
 have:=TS (P:=K.P) (w:=w) (n:=xs.length) (c:=c) (a:=a1) K.ok ht hdd he (s6 hρ hlo) (s6 hρ hhi) h0 h1 (by omega) (fun _=>g2);unfold execOp;rw [ho];simp only [g.ev hk e1,am5,aa9,this,aa5,ab5]
theorem A.slice{all:Array Oper}{o:Oper}{l':List Oper}{ks:List (Nat×Bool)}{t el:TypeId}{ti ei:TI}{x:Operand}{lo hi:Option Operand}{xv:AV}{xs:List AV}{own:Option Value}{l n:Int}{E':aH}{ys:List AV}
 (hg:aV E all o.guard=some ks) (ho:o.op= .slice t x lo hi none) (hx:E.ev K.gs ks x=some xv) (ht:K.S.get t=some ti) (hdd:ti.d= .slice el) (he:K.S.get el=some ei) (hs:nX ei.size xv=some (xs,own))
 (hlo:jU (E.ev K.gs ks) 0 lo=some l) (hhi:jU (E.ev K.gs ks) xs.length hi=some n) (h0:0<=l) (h1:l<=n) (h2:n<=xs.length) (hy:(xs.drop l.toNat).take (n.toNat-l.toNat)=ys) (hput:E.put K.n none o.dst (.sl ei.size ys none)=some E')
 (next:A K (.ops all l'::k) E' Λ):A K (.ops all (o::l')::k) E Λ:=by
 subst hy;refine A.bg hg (fun h e L hl r q=>?_) hput next
 obtain ⟨y,f1,f2⟩:=HA (K:=K) ho hx ht hdd he hs hlo hhi h0 h1 h2 hl r;exact ⟨y,f1,fun a w g s hk=>f2 a w g hk⟩
theorem EH{o:Oper}{ks:List (Nat×Bool)}{t el:TypeId}{ti ei:TI}{x:Operand}{lo hi:Option Operand}{a0:Option Addr}{len c:Nat}{l n:Int}{h:GH}{e:Env}
 (ho:o.op= .slice t x lo hi none) (hx:E.ev K.gs ks x=some (.v (.slice a0 len c))) (ht:K.S.get t=some ti) (hdd:ti.d= .slice el) (he:K.S.get el=some ei)
 (hlo:jU (E.ev K.gs ks) 0 lo=some l) (hhi:jU (E.ev K.gs ks) len hi=some n) (h0:0<=l) (h1:l<=n) (h2:n<=c) (h3:hi=none->len<=c) (hl:K.h0.le h) (r:iR h E e):
 ∃y,Rp h (.v (DT ei.size l.toNat n.toNat (.slice a0 len c))) y/\ ∀a w,Ag K.n K.D e a->dK a ks->(execOp a.eval o).run K.P w= .ok (.value y) w:=by
 obtain ⟨v1,e1,f1⟩:=r.ev (K.hgs.mono hl) _ hx;rw [bE] at f1;obtain ⟨rfl,_⟩:=f1;refine ⟨_,bE.2 ⟨rfl,rfl⟩,fun a w g hk=>?_⟩;have hρ: ∀z x,E.ev K.gs ks z=some x->Rp h x (a.eval z):=fun z x hz=>by obtain ⟨v2,e2,f2⟩:=r.ev (K.hgs.mono hl) _ hz;rw [g.ev hk e2];exact f2
 have:=TS (P:=K.P) (w:=w) (n:=len) (c:=c) (a:=a0) K.ok ht hdd he (s6 hρ hlo) (s6 hρ hhi) h0 h1 h2 h3;unfold execOp;rw [ho];simp only [g.ev hk e1,am5,aa9,this,aa5,ab5]
end
section
variable{K:AC}{all:Array Oper}{m:Nat}{k:List It}{pubs:Nat->List Nat}{Y:Ua}{π:List Nat}{E:aH}{Λ:List aF}{D:Da}
theorem wS{o:Oper}{t:TypeId}{x:Operand}{lo hi mx:Option Operand}(ho:o.op= .slice t x lo hi mx):kd o= .qt:=by unfold kd;rw [ho]
theorem WA.quiet{i0:Nat}{o:Oper}{ks:List (Nat×Bool)}{x:AV}{E':aH}(hi0:bU all.toList i0=some o)(hk:kd o= .qt)(hg:aV E all o.guard=some ks)
 (hr: ∀h e,K.h0.le h->iR h E e-> ∃y,Rp h x y/\ ∀a w,Ag K.n K.D e a->dK a ks->(execOp a.eval o).run K.P w= .ok (.value y) w)
 (hput:E.put K.n none o.dst x=some E') (next:WA K all m k pubs Y π E' Λ D):WA K all m k pubs Y (i0::π) E Λ D:=by
 refine ⟨fun h e L Es hl r q d=>?_⟩;obtain ⟨y,f1,f2⟩:=hr h e hl r;obtain ⟨e',e4,e5⟩:=cJ r hput f1;exact WE.bg (G:=cG K.cfg all (L++K.G) pubs (YA Y) m k) hi0 hk (aT r hg) (fun a w E0 g s hk=>f2 a w g hk) e4 (next.run h e' L Es hl e5 q d)
theorem WA.slice{i0:Nat}{o:Oper}{ks:List (Nat×Bool)}{t el:TypeId}{ti ei:TI}{x:Operand}{lo hi:Option Operand}{xv:AV}{xs:List AV}{own:Option Value}{l n:Int}{E':aH}{ys:List AV}
 (hi0:bU all.toList i0=some o) (hg:aV E all o.guard=some ks) (ho:o.op= .slice t x lo hi none) (hx:E.ev K.gs ks x=some xv) (ht:K.S.get t=some ti) (hdd:ti.d= .slice el) (he:K.S.get el=some ei) (hs:nX ei.size xv=some (xs,own))
 (hlo:jU (E.ev K.gs ks) 0 lo=some l) (hhi:jU (E.ev K.gs ks) xs.length hi=some n) (h0:0<=l) (h1:l<=n) (h2:n<=xs.length) (hy:(xs.drop l.toNat).take (n.toNat-l.toNat)=ys) (hput:E.put K.n none o.dst (.sl ei.size ys none)=some E')
 (next:WA K all m k pubs Y π E' Λ D):WA K all m k pubs Y (i0::π) E Λ D:=by
 subst hy;exact WA.quiet hi0 (wS ho) hg (fun h e hl r=>HA (K:=K) ho hx ht hdd he hs hlo hhi h0 h1 h2 hl r) hput next
theorem WA.ff{i0:Nat}{o:Oper}{ks:List (Nat×Bool)}{t el:TypeId}{ti ei:TI}{x:Operand}{lo hi:Option Operand}{a0:Option Addr}{len c:Nat}{l n:Int}{E':aH}{y:Value}
 (hi0:bU all.toList i0=some o) (hg:aV E all o.guard=some ks) (ho:o.op= .slice t x lo hi none) (hx:E.ev K.gs ks x=some (.v (.slice a0 len c))) (ht:K.S.get t=some ti) (hdd:ti.d= .slice el) (he:K.S.get el=some ei)
 (hlo:jU (E.ev K.gs ks) 0 lo=some l) (hhi:jU (E.ev K.gs ks) len hi=some n) (h0:0<=l) (h1:l<=n) (h2:n<=c) (h3:hi=none->len<=c) (hy:DT ei.size l.toNat n.toNat (.slice a0 len c)=y) (hput:E.put K.n none o.dst (.v y)=some E')
 (next:WA K all m k pubs Y π E' Λ D):WA K all m k pubs Y (i0::π) E Λ D:=by
 subst hy;exact WA.quiet hi0 (wS ho) hg (fun h e hl r=>EH (K:=K) ho hx ht hdd he hlo hhi h0 h1 h2 h3 hl r) hput next
end
def W8(P:Program)(gs:Ua)(f:FuncId)(args:List AV)(Λ:List aF)(x:AV):Prop:=
 ∀w0 h vs L F,jP h gs->dM h args vs->kL h Λ L->bM P w0 f vs h (L++F) fun v h' L'=>L'=L++F/\h.le h'/\Rp h' x v
section
variable{K:AC}{k:List It}{E:aH}{Λ:List aF}
theorem A.gi{z:Value}{sz:Nat}{l:List AV}(hm:aF.row sz z l∈Λ)(next: ∀a c,z= .slice a l.length c->l.length<=c->A K k E Λ):A K k E Λ:=by refine ⟨fun h e L hl r q=>?_⟩;obtain ⟨L1,h1,⟨p,⟨a,c,zs,e1,e2,_⟩,_⟩⟩:=q.mem hm;exact (next a c e1 e2).run h e L hl r q
theorem A.ez{all:Array Oper}{o:Oper}{l:List Oper}{ks:List (Nat×Bool)}{t el:TypeId}{ti ei:TI}{y1 y2:Operand}{k1 k2:IntKind}{n:Int}{d:Nat}{x:AV}
 (hg:aV E all o.guard=some ks) (ho:o.op= .makeSlice t y1 y2) (h1:E.ev K.gs ks y1=some (.v (.int k1 n))) (h2:E.ev K.gs ks y2=some (.v (.int k2 n))) (ht:K.S.get t=some ti) (hdd:ti.d= .slice el) (he:K.S.get el=some ei)
 (hsz:Nat.blt 0 ei.size=true) (hlen:Nat.beq ei.zero.length ei.size=true) (hz:uG ei=some x) (hd:o.dst=some d) (hc:bZ K.n E d=true) (h0:0<=n) (hb:(ei.bytes:Int)*n<=140737488355328) (hn:n<=9223372036854775807)
 (next: ∀(a:Option Addr) (c:Nat),n.toNat<=c->A K (.ops all l::k) ⟨(d, .ms (.slice a n.toNat c) ei.size n.toNat)::E.us,E.cs⟩ (.row ei.size (.slice a n.toNat c) (List.replicate n.toNat x)::Λ)):A K (.ops all (o::l)::k) E Λ:=
 A.make hg ho h1 h2 ht hdd he hsz hlen hz hd hc h0 hb hn fun z=>A.gi (aa4 ..) fun a c e1 e2=>by rw [List.length_replicate] at e1 e2;subst e1;exact next a c e2
end
end Go.Tp
namespace Go.Tp
open Go Go.RowKit
abbrev Wt{H:Type}(P:Program)(t:TypeId)(d:DataW H):Prop:=(DataW.weights P t d).all (· <=reachBytes)=true
theorem XF{H:Type}{P:Program}{e:TypeId}: ∀{l:List (DataW H)},(DataW.weightsAll P e l).all (· <=reachBytes)=true-> ∀d,d∈l->Wt P e d
 | [],_,d,hd=>by cases hd |x::r,h,d,hd=>by
  simp only [DataW.weightsAll,ak9,aa1] at h;rcases ab0.1 hd with rfl|hd
  ·exact h.1
  ·exact XF h.2 d hd
theorem A4{H:Type}{P:Program}: ∀{ts:List TypeId} {l:List (DataW H)},(DataW.weightsEach P ts l).all (· <=reachBytes)=true-> ∀(i:Nat) t d,ts[i]? =some t->l[i]? =some d->Wt P t d
 | [],_,_,i,t,d,ht,_=>by simp at ht |_::_,[],_,i,t,d,_,hd=>by simp at hd
 |u::ts,x::r,h,i,t,d,ht,hd=>by
  simp only [DataW.weightsEach,ak9,aa1] at h;cases i with
  |zero=>simp at ht hd;subst ht;subst hd;exact h.1 |succ i=>exact A4 h.2 i t d (by simpa using ht) (by simpa using hd)
section
variable{H:Type}{enc:TypeId×Value->H}{P:Program}{W:World}{base:Nat}{sp:Nat->Bool}{hd:Bool}
theorem U7{b o:Nat}{cs:List Value}(hc: ∀i,i<cs.length->W.cell? ⟨b,o+i,none⟩=cs[i]?)(h1:aP cs=true):iB (C1 W) b o cs:=ZG hc (dP h1)
theorem E9{α:Type}(en:α->AV)(Q:α->Prop){h:GH}{sz b:Nat}: ∀(m o:Nat),(∀i,i<m-> ∃a z,Q a/\Rp h (en a) z/\(aI z).length=sz/\iB h b (o+i*sz) (aI z))->
 ∃l:List α,l.length=m/\(∀a,a∈l->Q a)/\tU h sz (l.map en) b o
 |0,o,_=>⟨[],rfl,fun a ha=>(by cases ha),A3⟩ |m+1,o,hx=>by
  obtain ⟨a,z,q,r,hl,ha⟩:=hx 0 (by omega);obtain ⟨l,h1,h2,h3⟩:=E9 en Q m (o+sz) (fun i hi=>by obtain ⟨a,z,q,r,hl,ha⟩:=hx (i+1) (by omega);exact ⟨a,z,q,r,hl,by rw [show o+sz+i*sz=o+(i+1)*sz by rw [Nat.succ_mul];omega];exact ha⟩)
  refine ⟨a::l,by simp [h1],fun y hy=>?_,?_⟩
  ·rcases ab0.1 hy with rfl|hy
   ·exact q
   ·exact h2 y hy
  ·rw [List.map_cons,jR];exact ⟨⟨z,r,hl,by simpa using ha⟩,h3⟩
theorem TF{α:Type}(en:α->AV)(Q:α->Prop){t e:TypeId}{sz bt fuel:Nat}{cs:List Value}{x:DataW H×List MemPlace}(ht:P.underlying t=some (.slice e))(hsz:P.cellsOf e=sz)(hbt:P.bytesOf e=bt)(h0:0<sz)
 (hel: ∀m,m<fuel-> ∀cs y,cs.length=sz->DataW.trod enc P W base sp hd m e cs=some y->Wt P e y.1-> ∃a z,Q a/\Rp (C1 W) (en a) z/\aI z=cs/\aP cs=true)
 (h:DataW.trod enc P W base sp hd fuel t cs=some x) (hw:Wt P t x.1): ∃(v:Value) (l:List α),cs=[v]/\(∀a,a∈l->Q a)/\Rp (C1 W) (.sl sz (l.map en) none) v/\l.length*bt<=reachBytes:=by
 rcases DataW.trod_slice ht h with ⟨rfl,_⟩|⟨a,len,cap,elems,rest,n,rfl,rfl,hx,hb,hl,hc,hlen,hall,_⟩
 ·exact ⟨_,[],rfl,fun a ha=>(by cases ha),a0a sz,by simp⟩
 ·rw [hx] at hw;simp only [Wt,DataW.weights,ht,List.all_cons,ak9,aa1,dT,aa0] at hw;obtain ⟨hw1,hw2,_⟩:=hw;have hbd:len*bt<=reachBytes:=by rw [hbt] at hw1;rw [<-hlen];exact Nat.le_trans (af5 _ (by omega)) hw1
  have key: ∀i,i<len-> ∃(cs:List Value) (y:DataW H×List MemPlace),W.cells? base (a.add (i*sz)) sz=some cs/\DataW.trod enc P W base sp hd n e cs=some y/\Wt P e y.1:=fun i hi=>by have:=hall i hi;rw [hsz,ab6 (by omega)] at this;obtain ⟨cs',k1,k2⟩:=Option.bind_eq_some_iff.1 this;exact ⟨cs',_,k1,k2,XF hw2 _ (List.mem_map_of_mem (List.getElem_mem ..))⟩
  by_cases hz:len=0
  ·subst hz;refine ⟨_,[],rfl,fun a ha=>(by cases ha),?_,by simp⟩;rw [cU];exact ⟨some a,cap,rfl,ac0 _,trivial,fun hn=>(hn T).elim⟩
  ·obtain ⟨b,off,spot⟩:=a;have hspot:spot=none:=by
    obtain ⟨cs',y,k1,k2,_⟩:=key 0 (by omega);obtain ⟨_,k3,k4⟩:=World.cells?_some k1;have:=k4 0 (by omega);rw [ab6 (by omega)] at this;simpa [Addr.add] using World.cell?_spot this
   subst hspot;obtain ⟨l,h1,h2,h3⟩:=E9 (h:=C1 W) (b:=b) (sz:=sz) en Q len off (fun i hi=>by
    obtain ⟨cs',y,k1,k2,k5⟩:=key i hi;obtain ⟨_,k3,k4⟩:=World.cells?_some k1;obtain ⟨a,z,q,r,e1,e2⟩:=hel n (by omega) cs' y k3 k2 k5;subst e1;refine ⟨a,z,q,r,k3,U7 (fun j hj=>?_) e2⟩;have:=k4 j (by omega)
    rwa [eA,eA] at this)
   refine ⟨_,l,rfl,h2,?_,by rw [h1];exact hbd⟩;rw [cU,aa0];exact ⟨some ⟨b,off,none⟩,cap,by rw [h1],by rw [h1];exact hl,trivial,fun _=>⟨b,off,rfl,h3⟩⟩
theorem open_st{t:TypeId}{fs:Array Field}{n fuel:Nat}{cs:List Value}{x:DataW H×List MemPlace}(ht:P.underlying t=some (.struct fs))(hn:P.cellsOf t=n)
 (h:DataW.trod enc P W base sp hd fuel t cs=some x) (hw:Wt P t x.1): ∃m,m<fuel/\cs.length=n/\
   ∀(i:Nat) (f:Field),fs[i]? =some f-> ∃y,DataW.trod enc P W base sp hd m f.type ((cs.drop f.offset).take (P.cellsOf f.type))=some y/\Wt P f.type y.1:=by
 obtain ⟨xs,m,rfl,rfl,hlen,hxs,hf⟩:=DataW.trod_struct ht h;refine ⟨m,as6 _,by rw [hlen,hn],fun i f hi=>?_⟩;have h1:=hf i f hi;have hlt:i<xs.length:=by
  rw [hxs];rcases ad7 i fs.size with h|h
  ·exact h
  ·rw [Array.getElem?_eq_none h] at hi;cases hi
 rw [ab6 hlt] at h1;refine ⟨_,h1,?_⟩;simp only [Wt,DataW.weights,ht] at hw;refine A4 hw i f.type _ ?_ ?_
 ·rw [ab9,ac2,hi];rfl
 ·rw [ab9,ab6 hlt];rfl
theorem open_i32{t:TypeId}{fuel:Nat}{cs:List Value}{x:DataW H×List MemPlace}(ht:P.underlying t=some (.int .i32))(h:DataW.trod enc P W base sp hd fuel t cs=some x): ∃n,cs=[.int .i32 n]/\i32 n:=by obtain ⟨n,h1,_,h2⟩:=DataW.trod_int ht h;exact ⟨n,h1,wf_i32 h2⟩
theorem open_i64{t:TypeId}{fuel:Nat}{cs:List Value}{x:DataW H×List MemPlace}(ht:P.underlying t=some (.int .i64))(h:DataW.trod enc P W base sp hd fuel t cs=some x): ∃n,cs=[.int .i64 n]/\i64 n:=by obtain ⟨n,h1,_,h2⟩:=DataW.trod_int ht h;exact ⟨n,h1,wf_i64 h2⟩
theorem open_u8{t:TypeId}{fuel:Nat}{cs:List Value}{x:DataW H×List MemPlace}(ht:P.underlying t=some (.int .u8))(h:DataW.trod enc P W base sp hd fuel t cs=some x): ∃n,cs=[.int .u8 n]/\u8 n:=by obtain ⟨n,h1,_,h2⟩:=DataW.trod_int ht h;exact ⟨n,h1,wf_u8 h2⟩
theorem pure_true{f:FuncId}{fn:Func}{s:ChangeSpec}{gs':Ua}{args:List Value}{as:List AV}{ds gs:List (DataW H)}{before:List MemPlace}{tb:TypeId}
 (hl:laidOutB P=true) (hr:(fn.params.toList.all fun t=>P.readableRec t&&decide (t<P.types.size))=true) (hrt:fn.resultTypes= #[tb]) (hb:P.underlying tb=some .bool) (hv:s.vars=[])
 (hs:s.fn H (ds++gs)={results:=[.lit (.bool true)],args:=ds}) (hW:DataW.Whole enc P fn.params.toList s.vars false W args ds gs before)
 (hg:jP (C1 W) gs') (ha:dM (C1 W) as args) (hf:Pure P gs' f as (.v (.bool true))):
 Calls P f ⟨args⟩ W fun e W'=> ∃v,e= .returned v/\s.post enc P fn false true false false W ⟨args⟩ v W':=by
 refine O6 (h:=C1 W) hl hr hrt hb hv hs hW (hOf_st W) ?_;refine (hf W (C1 W) args [] [] hg ha T).mono ?_;rintro v h' L' ⟨x,Λ',L1,⟨rfl,rfl⟩,e2,e3,e4,rfl⟩;rw [bE] at e2;have e4:L1=[]:=e4;subst e4;exact ⟨rfl,e3,e2.1⟩
end
end Go.Tp
namespace Go.Tp
open Go Go.RowKit
def HB(E:aH)(t:Nat):Option (Nat×Bool):=match bJ E.us t with
 |some (.v (.bool b))=>some (t,b) |_=>none
def SI(E:aH)(all:Array Oper)(o:Oper):Option (Nat×Bool):=match o.guard with
 |some (j,w)=>match bU all.toList j with
  |some o'=>match o'.dst with
   |some t=>match HB E t with
    |some r=>some r |none=>none
   |none=>none
  |none=>none
 |none=>match o.op with
  | .pick (.tmp t) x y=>HB E t |_=>none
def ZH(E:aH)(o:Oper):Option (Nat×Bool):=match o.op with
 | .pick (.tmp t) x y=>HB E t |_=>none
def AF(E:aH):List It->Option (Nat×Bool)
 | .ops all (o::l)::k=>SI E all o | .code (.cond (.tmp t) x y)::k=>HB E t
 |_=>none
def IM(E:aH):List It->Option (Nat×Bool)
 | .ops all (o::l)::k=>ZH E o |_=>none
def isLit:Option (Nat×Bool)->Bool
 |some (_,true)=>true |some (_,false)=>true
 |none=>true
section
variable{K:AC}{k:List It}{E:aH}{Λ:List aF}
theorem xQ{t t':Nat}{p:Bool}(h:HB E t=some (t',p)):t=t'/\bJ E.us t'=some (.v (.bool p)):=by
 unfold HB at h;split at h
 ·rename_i b hb;injection h with h;injection h with h1 h2;subst h1;subst h2;exact ⟨rfl,hb⟩
 ·cases h
theorem MG{all:Array Oper}{o:Oper}{t:Nat}{p:Bool}(h:SI E all o=some (t,p)):bJ E.us t=some (.v (.bool p)):=by
 unfold SI at h;split at h
 ·split at h
  ·split at h
   ·split at h
    ·rename_i r hr;injection h with h;subst h;exact (xQ hr).2
    ·cases h
   ·cases h
  ·cases h
 ·split at h
  ·exact (xQ h).2
  ·cases h
theorem C0{t:Nat}{p:Bool}(h:AF E k=some (t,p)):bJ E.us t=some (.v (.bool p)):=by
 unfold AF at h;split at h
 ·exact MG h
 ·exact (xQ h).2
 ·cases h
theorem U6{t:Nat}{p:Bool}(h:IM E k=some (t,p)):bJ E.us t=some (.v (.bool p)):=by
 unfold IM at h;split at h
 ·unfold ZH at h;split at h
  ·exact (xQ h).2
  ·cases h
 ·cases h
theorem A.lit? (h:isLit (AF E k)=true)(next:A K k E Λ):A K k E Λ:=next
theorem A.cv? (h:isLit (IM E k)=true)(next:A K k E Λ):A K k E Λ:=next
theorem A.gS{t:Nat}{p:Bool}(h:AF E k=some (t,p))(ht:p=true->A K k ⟨(t, .v (.bool true))::E.us,E.cs⟩ Λ)(hf:p=false->A K k ⟨(t, .v (.bool false))::E.us,E.cs⟩ Λ):A K k E Λ:=
 A.split t (C0 h) ht hf
theorem A.gT{t:Nat}{p:Bool}(h:AF E k=some (t,p))(hp:p=true)(ht:A K k ⟨(t, .v (.bool true))::E.us,E.cs⟩ Λ):A K k E Λ:=
 A.split t (C0 h) (fun _=>ht) (fun hf=>by rw [hp] at hf;cases hf)
theorem A.gF{t:Nat}{p:Bool}(h:AF E k=some (t,p))(hp:p=false)(hf:A K k ⟨(t, .v (.bool false))::E.us,E.cs⟩ Λ):A K k E Λ:=
 A.split t (C0 h) (fun ht=>by rw [hp] at ht;cases ht) (fun _=>hf)
theorem A.gm{t:Nat}{p:Bool}(h:IM E k=some (t,p))(ht:p=true->A K k ⟨(t, .v (.bool true))::E.us,E.cs⟩ Λ)(hf:p=false->A K k ⟨(t, .v (.bool false))::E.us,E.cs⟩ Λ):A K k E Λ:=
 A.split t (U6 h) ht hf
end
section
variable{K:AC}{all:Array Oper}{m:Nat}{k:List It}{pubs:Nat->List Nat}{Y:Ua}{π:List Nat}{E:aH}{Λ:List aF}{D:Da}
def wslot(E:aH)(all:Array Oper):List Nat->Option (Nat×Bool)
 |i::π=>match bU all.toList i with
  |some o=>match SI E all o with
   |some r=>some r |none=>none
  |none=>none
 | []=>none
theorem wslot_eq{t:Nat}{p:Bool}(h:wslot E all π=some (t,p)):bJ E.us t=some (.v (.bool p)):=by
 unfold wslot at h;split at h
 ·split at h
  ·split at h
   ·rename_i r hr;injection h with h;subst h;exact MG hr
   ·cases h
  ·cases h
 ·cases h
theorem WA.gS{t:Nat}{p:Bool}(h:wslot E all π=some (t,p))(ht:p=true->WA K all m k pubs Y π ⟨(t, .v (.bool true))::E.us,E.cs⟩ Λ D)(hf:p=false->WA K all m k pubs Y π ⟨(t, .v (.bool false))::E.us,E.cs⟩ Λ D):WA K all m k pubs Y π E Λ D:=
 WA.split t (wslot_eq h) ht hf
end
inductive d8(S:TT)(us:Ua)(Λ:List aF):List ResultVar->List AV->Prop
 |nil:d8 S us Λ [] []
 |tmp {t:Nat} {x:AV} {rs:List ResultVar} {xs:List AV}:bJ us t=some x->d8 S us Λ rs xs->d8 S us Λ (.tmp t::rs) (x::xs)
 |cell {p:Nat} {t:TypeId} {b off:Nat} {ti:TI} {x y:AV} {rs:List ResultVar} {xs:List AV}:bJ us p=some (.v (.pointer (some ⟨b,off,none⟩)))->S.get t=some ti->[AAt Λ b x]->OQ ti x off=some y->
   d8 S us Λ rs xs->d8 S us Λ (.cell p t::rs) (y::xs)
def zI(tmps:Array Value):ResultVar->Sem Value
 | .tmp t=>pure (tmps.getD t undef) | .cell a t=>do loadVar t (<-asAddr (tmps.getD a undef))
theorem d8.run{K:AC}{E:aH}{e:Env}{h:GH}{Λ:List aF}{L:List a6}(r:iR h E e)(q:kL h Λ L){rs:List ResultVar}{xs:List AV}(ra:d8 K.S E.us Λ rs xs):
 ∃vs,dM h xs vs/\ ∀a w (M:List a6),(∀p,p∈L->p∈M)->Ag K.n K.D e a->St K.w0 h M w->(rs.mapM (zI a.tmps)).run K.P w= .ok vs w:=by
 induction ra with
 |nil=>exact ⟨[],aQ.2 T,fun a w M _ g s=>by simp⟩ | @tmp t x rs xs hx _ ih=>
   obtain ⟨vs,i1,i2⟩:=ih;rcases r.1.look t with ⟨z,v,e1,e2,e3⟩|⟨e1,e2⟩
   ·rw [hx] at e1;injection e1 with e1;subst e1;refine ⟨v::vs,aG.2 ⟨v,vs,rfl,e3,i1⟩,fun a w M hM g s=>?_⟩;have h1:(zI a.tmps (.tmp t)).run K.P w= .ok v w:=by simp [zI,g.us _ _ e2]
    simp [at4,h1,i2 a w M hM g s]
   ·rw [hx] at e1;cases e1
 | @cell p t b off ti x y rs xs hx ht i hv _ ih=>
   obtain ⟨vs,i1,i2⟩:=ih;rcases r.1.look p with ⟨z,v,e1,e2,e3⟩|⟨e1,e2⟩
   ·rw [hx] at e1;injection e1 with e1;subst e1;rw [bE] at e3;rw [e3.1] at e2;obtain ⟨pe,g1,z,g2,g3⟩:=q.mem i.mem;subst g3;have g1:=g1 _ (aa3.2 T);obtain ⟨v',e4,e5⟩:=yZ (b:=b) g2 hv;refine ⟨v'::vs,aG.2 ⟨v',vs,rfl,e5,i1⟩,fun a w M hM g s=>?_⟩;have h0:=oF (P:=K.P) (TT.Ok.get K.ok ht) (s.own _ (hM _ g1)) T e4;have h0':(loadVar t ⟨b,off,none⟩).run K.P w= .ok v' w:=by simpa [Instr.loadAt,Instr.sureAddr] using h0
    have h1:(zI a.tmps (.cell p t)).run K.P w= .ok v' w:=by simp [zI,g.us _ _ e2,h0',asAddr]
    simp [at4,h1,i2 a w M hM g s]
   ·rw [hx] at e1;cases e1
theorem A.jz{K:AC}{k:List It}{E:aH}{Λ Λ':List aF}{rs:List ResultVar}{x y:AV}{xs:List AV}(hk:atEnd k=true)(hr:K.fn.results.toList=rs)(ra:d8 K.S E.us Λ rs (x::y::xs))(hs:Λ'.Sublist Λ)(hq:K.Q (.tp (x::y::xs)) Λ')(hrd:K.rd=none:=by rfl):A K k E Λ:=by
 refine ⟨fun h e L hl r q=>?_⟩;obtain ⟨vs,i1,i2⟩:=ra.run r q;obtain ⟨L',m1,m2⟩:=q.sub hs;refine V.ret (C:=K.cfg) (o8 hk) hrd T (v:= .tuple ⟨vs⟩) (fun a w g s=>?_) ⟨_,Λ',L',hq,o6.2 ⟨vs,rfl,i1⟩,hl,m1,m2.append_right _⟩;have hm:=i2 a w (L++K.F) (fun p hp=>ac9 _ hp) g s;have hl2:=i1.len;have e1:results K.fn a.tmps=(do let vs<-K.fn.results.mapM (zI a.tmps);pure (if h:vs.size=1 then vs[0] else .tuple vs)):=by unfold results;congr 1
 show (results K.fn a.tmps).run K.P w=_;rw [e1,Array.mapM_eq_mapM_toList,hr];simp [hm];intro h1;rw [h1] at hl2;simp at hl2
end Go.Tp
namespace Go.Tp
open Go Go.RowKit Go.ChangeShapes Go.WideShapes Go.ChangeAt
section
variable{H:Type}{enc:TypeId×Value->H}{P:Program}{W:World}{base:Nat}{sp:Nat->Bool}{hd:Bool}
def fV(enc:TypeId×Value->H)(P:Program)(W:World)(base:Nat)(sp:Nat->Bool)(hd:Bool){α:Type}(n:Nat)(t:TypeId)(cells:α->List AV)(Q:α->Prop):Prop:=
 ∀m,m<n-> ∀cs x,DataW.trod enc P W base sp hd m t cs=some x->Wt P t x.1-> ∃a,Q a/\dM (C1 W) (cells a) cs/\aP cs=true
theorem fV.zero{α:Type}{t:TypeId}{cells:α->List AV}{Q:α->Prop}:fV enc P W base sp hd 0 t cells Q:=fun m hm=>by omega
theorem fV.mono{α:Type}{n n':Nat}{t:TypeId}{cells:α->List AV}{Q:α->Prop}(h:fV enc P W base sp hd n t cells Q)(hn:n'<=n):fV enc P W base sp hd n' t cells Q:=fun m hm=>h m (by omega)
theorem fV.map{α β:Type}{n:Nat}{t:TypeId}{cells:α->List AV}{Q:α->Prop}{cells':β->List AV}{Q':β->Prop}(h:fV enc P W base sp hd n t cells Q)(f:α->β)(hc: ∀a,cells' (f a)=cells a)(hq: ∀a,Q a->Q' (f a)):
 fV enc P W base sp hd n t cells' Q':=fun m hm cs x h1 h2=>by
 obtain ⟨a,q,r,o⟩:=h m hm cs x h1 h2;exact ⟨f a,hq a q,by rw [hc];exact r,o⟩
theorem fV.u8{t:TypeId}(ht:P.underlying t=some (.int .u8))(n:Nat):fV enc P W base sp hd n t (fun a:Int=>[.v (.int .u8 a)]) Go.Tp.u8:=fun m hm cs x h1 h2=>by obtain ⟨a,rfl,q⟩:=open_u8 ht h1;exact ⟨a,q,aG.2 ⟨_,_,rfl,bE.2 ⟨rfl,rfl⟩,aQ.2 T⟩,rfl⟩
theorem fV.i32{t:TypeId}(ht:P.underlying t=some (.int .i32))(n:Nat):fV enc P W base sp hd n t (fun a:Int=>[.v (.int .i32 a)]) Go.Tp.i32:=fun m hm cs x h1 h2=>by obtain ⟨a,rfl,q⟩:=open_i32 ht h1;exact ⟨a,q,aG.2 ⟨_,_,rfl,bE.2 ⟨rfl,rfl⟩,aQ.2 T⟩,rfl⟩
theorem fV.i64{t:TypeId}(ht:P.underlying t=some (.int .i64))(n:Nat):fV enc P W base sp hd n t (fun a:Int=>[.v (.int .i64 a)]) Go.Tp.i64:=fun m hm cs x h1 h2=>by obtain ⟨a,rfl,q⟩:=open_i64 ht h1;exact ⟨a,q,aG.2 ⟨_,_,rfl,bE.2 ⟨rfl,rfl⟩,aQ.2 T⟩,rfl⟩
theorem fV.ew{α:Type}{n sz bt:Nat}{t e:TypeId}{cells:α->List AV}{Q:α->Prop}(ht:P.underlying t=some (.slice e))(hsz:P.cellsOf e=sz)(hbt:P.bytesOf e=bt)(h0:0<sz)(h:fV enc P W base sp hd n e cells Q):
 fV enc P W base sp hd (n+1) t (fun l:List α=>[.sl sz (l.map fun a=> .ag (cells a)) none]) (fun l=>(∀a,a∈l->Q a)/\l.length*bt<=reachBytes):=fun m hm cs x h1 h2=>by
 obtain ⟨v,l,rfl,q,r,b⟩:=TF (fun a=> .ag (cells a)) Q ht hsz hbt h0 (fun k hk cs y hl hy hw=>by obtain ⟨a,q,r,o⟩:=h k (by omega) cs y hy hw;exact ⟨a, .agg ⟨cs⟩,q,eJ.2 ⟨cs,rfl,r⟩,by rw [kT];rfl,o⟩) h1 h2
 refine ⟨l,⟨q,b⟩,aG.2 ⟨_,_,rfl,r,aQ.2 T⟩,?_⟩;obtain ⟨a,c,rfl,_⟩:=cU.1 r
 rfl
theorem fV.gj{α:Type}{n bt:Nat}{t e:TypeId}{en:α->AV}{Q:α->Prop}(ht:P.underlying t=some (.slice e))(hsz:P.cellsOf e=1)(hbt:P.bytesOf e=bt)(h:fV enc P W base sp hd n e (fun a=>[en a]) Q):
 fV enc P W base sp hd (n+1) t (fun l:List α=>[.sl 1 (l.map en) none]) (fun l=>(∀a,a∈l->Q a)/\l.length*bt<=reachBytes):=fun m hm cs x h1 h2=>by
 obtain ⟨v,l,rfl,q,r,b⟩:=TF en Q ht hsz hbt (by decide) (fun k hk cs y hl hy hw=>by obtain ⟨a,q,r,o⟩:=h k (by omega) cs y hy hw;obtain ⟨v,vs,rfl,r1,r2⟩:=aG.1 r;rw [aQ] at r2;subst r2;have ho:iJ v=true:=dP o v (aa3.2 T);exact ⟨a,v,q,r1,eS ho,o⟩) h1 h2
 refine ⟨l,⟨q,b⟩,aG.2 ⟨_,_,rfl,r,aQ.2 T⟩,?_⟩;obtain ⟨a,c,rfl,_⟩:=cU.1 r
 rfl
def fD(enc:TypeId×Value->H)(P:Program)(W:World)(base:Nat)(sp:Nat->Bool)(hd:Bool){α:Type}(n:Nat)(fs:List Field)(o:Nat)(cells:α->List AV)(Q:α->Prop):Prop:=
 ∀m,m<n-> ∀cs:List Value,(∀f,f∈fs-> ∃y,DataW.trod enc P W base sp hd m f.type ((cs.drop f.offset).take (P.cellsOf f.type))=some y/\Wt P f.type y.1)-> ∃a,Q a/\ ∃k,dM (C1 W) (cells a) ((cs.drop o).take k)/\aP ((cs.drop o).take k)=true/\o+k=(fs.getLast?.map fun f=>f.offset+P.cellsOf f.type).getD o
theorem zV: ∀{a b:List Value},aP a=true->aP b=true->aP (a++b)=true
 | [],_,_,h=>h |x::a,b,h1,h2=>by
  simp only [aP] at h1;split at h1
  ·rename_i hx;simp only [ae0,aP,hx];exact zV h1 h2
  ·cases h1
theorem fD.nil{n o:Nat}:fD enc P W base sp hd n [] o (fun _:Unit=>[]) (fun _=>True):=fun m hm cs _=>⟨(),trivial,0,by rw [an1];exact aQ.2 T,by rw [an1];rfl,rfl⟩
theorem fD.cons{α β:Type}{n o:Nat}{f:Field}{fs:List Field}{c1:α->List AV}{Q1:α->Prop}{c2:β->List AV}{Q2:β->Prop}(h:fV enc P W base sp hd n f.type c1 Q1)(ho:f.offset=o)(sz:Nat)(hsz:P.cellsOf f.type=sz)(hr:fD enc P W base sp hd n fs (o+sz) c2 Q2):
 fD enc P W base sp hd n (f::fs) o (fun p:α×β=>c1 p.1++c2 p.2) (fun p=>Q1 p.1/\Q2 p.2):=fun m hm cs hf=>by
 obtain ⟨y,h1,h2⟩:=hf f (aa4 ..);obtain ⟨a,q1,r1,o1⟩:=h m hm _ _ h1 h2;obtain ⟨b,q2,k,r2,o2,e2⟩:=hr m hm cs (fun g hg=>hf g (aa8 _ hg));rw [ho,hsz] at r1 o1;have e:(cs.drop o).take (sz+k)=(cs.drop o).take sz++(cs.drop (o+sz)).take k:=by rw [List.take_add,at3]
 refine ⟨(a,b),⟨q1,q2⟩,sz+k,?_,?_,?_⟩
 ·rw [e];exact r1.append r2
 ·rw [e];exact zV o1 o2
 ·cases fs with
  |nil=>simp only [List.getLast?_nil,am5,Option.getD_none] at e2;simp [hsz,ho];omega |cons g gs=>
   rw [List.getLast?_cons_cons];obtain ⟨z,hz⟩: ∃z,(g::gs).getLast? =some z:=⟨_,List.getLast?_eq_some_getLast (by simp)⟩;rw [hz] at e2⊢;simp only [ag0,Option.getD_some] at e2⊢;omega
theorem fV.struct{α:Type}{n sz:Nat}{t:TypeId}{fs:Array Field}{cells:α->List AV}{Q:α->Prop}(ht:P.underlying t=some (.struct fs))(hsz:P.cellsOf t=sz)(h:fD enc P W base sp hd n fs.toList 0 cells Q)
 (he:((fs.toList.getLast?.map fun f=>f.offset+P.cellsOf f.type).getD 0)=sz):fV enc P W base sp hd (n+1) t cells Q:=fun m hm cs x h1 h2=>by
 obtain ⟨k,hk,hl,hf⟩:=open_st ht hsz h1 h2;obtain ⟨a,q,k',r,o,e⟩:=h k (by omega) cs (fun f hm=>by obtain ⟨i,hi⟩:=List.mem_iff_getElem?.1 hm;exact hf i f (by rw [<-ac2];exact hi))
 rw [he,Nat.zero_add] at e;subst e;rw [al7,<-hl,List.take_length] at r o;exact ⟨a,q,r,o⟩
theorem OW{α:Type}{t:TypeId}{fs:Array Field}{cells:α->List AV}{Q:α->Prop}{v:Value}{d:DataW H}{p:List MemPlace}(ht:P.underlying t=some (.struct fs))(h: ∀n,fV enc P W 0 (fun _=>true) true n t cells Q)
 (hval:Value.okWide P W .any base t v) (hx:DataW.Trod enc P W 0 (fun _=>true) true t v d p) (hw:Wt P t d): ∃a,Q a/\Rp (C1 W) (.ag (cells a)) v:=by
 obtain ⟨cs,rfl,_⟩:=okWide_struct ht hval;obtain ⟨fuel,hf⟩:=hx;obtain ⟨a,q,r,_⟩:=h (fuel+1) fuel (as6 _) _ _ hf hw;exact ⟨a,q,eJ.2 ⟨cs.toList,rfl,r⟩⟩
theorem arg_one{α:Type}{t:TypeId}{en:α->AV}{Q:α->Prop}{v:Value}{d:DataW H}{p:List MemPlace}(hv:v.cells.toList=[v])(h: ∀n,fV enc P W 0 (fun _=>true) true n t (fun a=>[en a]) Q)
 (hx:DataW.Trod enc P W 0 (fun _=>true) true t v d p) (hw:Wt P t d): ∃a,Q a/\Rp (C1 W) (en a) v:=by
 obtain ⟨fuel,hf⟩:=hx;rw [hv] at hf;obtain ⟨a,q,r,_⟩:=h (fuel+1) fuel (as6 _) _ _ hf hw;obtain ⟨u,us,e,r1,r2⟩:=aG.1 r;injection e with e _;subst e;exact ⟨a,q,r1⟩
theorem UJ{α:Type}{t e:TypeId}{en:α->AV}{Q:α->Prop}{v:Value}{d:DataW H}{p:List MemPlace}(ht:P.underlying t=some (.slice e))(h: ∀n,fV enc P W 0 (fun _=>true) true n t (fun a=>[en a]) Q)
 (hval:Value.okWide P W .any base t v) (hx:DataW.Trod enc P W 0 (fun _=>true) true t v d p) (hw:Wt P t d): ∃a,Q a/\Rp (C1 W) (en a) v:=by
 obtain ⟨a,len,cap,rfl⟩:=okWide_slice ht hval;exact arg_one T h hx hw
end
end Go.Tp
namespace Go.Tp
open Go Go.RowKit
section
variable{K:AC}{k:List It}{E:aH}{Λ:List aF}
theorem A.dj(sz n:Nat)(a:Option Addr)(ha:a=none->n=0)(hs: ∀x,a=some x->x.spot=none)(next:A K k E (.tail sz (.slice a n n)::Λ)):A K k E Λ:=
 ⟨fun h e L hl r q=>by obtain ⟨p,h1,h2,h3⟩:=Tl.full sz n a ha hs;exact V.ib (C:=K.cfg) p h2 h3 (next.run h e (p::L) hl r (.one ⟨p,h1,rfl⟩ q))⟩
theorem A.gu{b:Nat}{x x':AV}{Λ':List aF}(hp:Λ.Perm (.box b x::Λ'))(hx: ∀(h:GH) y,Rp h x y->Rp h x' y)(next:A K k E (.box b x'::Λ')):A K k E Λ:=by refine A.perm hp (A.ia (Λ':= .box b x'::Λ') (fun h L q=>?_) next);obtain ⟨L1,L2,rfl,q1,q2⟩:=q;obtain ⟨z,r,rfl⟩:=q1;exact ⟨_,⟨_,L2,rfl,⟨z,hx h z r,rfl⟩,q2⟩, .refl _⟩
theorem JD{h:GH}(sz:Nat){y:Value}(r:Rp h (.v (.slice none 0 0)) y):Rp h (.sl sz [] (some (.slice none 0 0))) y:=by rw [bE] at r;rw [r.1,cU];exact ⟨none,0,rfl,aa6 _,rfl,fun hn=>(hn T).elim⟩
theorem HS{h:GH}{x x':AV}{l l':List AV}(h1: ∀y,Rp h x y->Rp h x' y)(h2: ∀vs,dM h l vs->dM h l' vs): ∀vs,dM h (x::l) vs->dM h (x'::l') vs:=fun vs r=>by rw [aG] at r⊢;obtain ⟨v,vs',rfl,r1,r2⟩:=r;exact ⟨v,vs',rfl,h1 v r1,h2 vs' r2⟩
theorem FA{h:GH}{l l':List AV}(h1: ∀vs,dM h l vs->dM h l' vs): ∀y,Rp h (.ag l) y->Rp h (.ag l') y:=fun y r=>by rw [eJ] at r⊢;obtain ⟨cs,rfl,r⟩:=r;exact ⟨cs,rfl,h1 cs r⟩
end
theorem OE: ∀{l:List AV} {k:Nat} {v:AV},k<l.length->t3 l k [v]=some (l.set k v)
 |c::cs,0,v,_=>by cases cs<;>simp only [t3,List.set] |c::cs,k+1,v,h=>by simp only [t3,OE (l:=cs) (k:=k) (v:=v) (by simpa using h),List.set]
theorem S0{ti:TI}{l:List AV}{o:Nat}{y:AV}(ha:ti.agg=false)(hy:l[o]? =some y):OQ ti (.ag l) o=some y:=by simp only [OQ,gA,AO,ha,cC,hy]
theorem stA_arr{ti:TI}{l:List AV}{o:Nat}{v:AV}(hs:ti.size=1)(h1:v.one=true)(hc:gA v=some [v])(ho:o<l.length):stA ti (.ag l) o v=some (.ag (l.set o v)):=by
 have h2:lY [v]=true:=by simp only [lY,h1]
 have h3:gA (.ag l)=some l:=rfl;unfold stA;simp only [hc,hs,h2,h3,OE ho,S2]
 rfl
def cell1:AV->Bool
 | .ag _=>false | .tp _=>false
 |x=>x.one
theorem KT{v:AV}(h:cell1 v=true):v.one=true/\gA v=some [v]:=by
 cases v with
 |ag l=>cases h |tp l=>cases h
 |_=>exact ⟨h,rfl⟩
section
variable{K:AC}{k k':List It}{E E':aH}{Λ Λ':List aF}
def xaS(S:TT)(gs:Ua)(n:Nat)(k:List It)(E:aH):Option (Nat×Nat×Nat×Int×(Nat->Option (List It×aH))):=match k with
 | .ops all (o::l)::k=>match aV E all o.guard with
   |some ks=>match o.op with
    | .indexAddr t x ix=>match E.ev gs ks x with
      |some (.v (.pointer (some ⟨b,off,none⟩)))=>match E.ev gs ks ix with
       |some (.v (.int _ i))=>match S.get t with
        |some ti=>match ti.d with
         | .array m el=>match S.get el with
           |some ei=>some (off,ei.size,m,i,fun p=>match E.put n none o.dst (.v (.pointer (some ⟨b,p,none⟩))) with
            |some E'=>some (.ops all l::k,E') |none=>none)
           |none=>none
         |_=>none
        |none=>none
       |_=>none
      |_=>none
    |_=>none
   |none=>none
 |_=>none
theorem A.xa{off sz m p:Nat}{i:Int}{f:Nat->Option (List It×aH)}(h:xaS K.S K.gs K.n k E=some (off,sz,m,i,f))(h0:0<=i)(h1:i<m)(hp:off+i.toNat*sz=p)(hf:f p=some (k',E'))(next:A K k' E' Λ):A K k E Λ:=by
 unfold xaS at h;split at h
 ·split at h
  ·rename_i ks hg;split at h
   ·rename_i t x ix ho;split at h
    ·rename_i b off' hx;split at h
     ·rename_i kk i' hi;split at h
      ·rename_i ti ht;split at h
       ·rename_i m' el hd;split at h
        ·rename_i ei he;injection h with h;injection h with e1 h;injection h with e2 h;injection h with e3 h;injection h with e4 e5;subst e1;subst e2;subst e3;subst e4;subst e5;simp only at hf;split at hf
         ·rename_i E1 hput;injection hf with hf;injection hf with e1 e2;subst e1;subst e2;subst hp;exact A.dk hg ho hx hi ht hd he hput h0 h1 next
         ·cases hf
        ·cases h
       ·cases h
      ·cases h
     ·cases h
    ·cases h
   ·cases h
  ·cases h
 ·cases h
def raS(S:TT)(gs:Ua)(n:Nat)(k:List It)(E:aH):Option (Nat×Nat×(AV->Option (List It×aH))):=match k with
 | .ops all (o::l)::k=>match aV E all o.guard with
   |some ks=>match o.op with
    | .load t p=>match E.ev gs ks p with
      |some (.v (.pointer (some ⟨b,off,none⟩)))=>match S.get t with
       |some ti=>match ti.agg with
        |false=>some (b,off,fun y=>match E.put n none o.dst y with
         |some E'=>some (.ops all l::k,E') |none=>none)
        |true=>none
       |none=>none
      |_=>none
    |_=>none
   |none=>none
 |_=>none
theorem A.ra{b off:Nat}{f:AV->Option (List It×aH)}{l:List AV}{y:AV}(h:raS K.S K.gs K.n k E=some (b,off,f)) [z:AAt Λ b (.ag l)](hy:l[off]? =some y)(hf:f y=some (k',E'))(next:A K k' E' Λ):A K k E Λ:=by
 unfold raS at h;split at h
 ·split at h
  ·rename_i ks hg;split at h
   ·rename_i t p ho;split at h
    ·rename_i b' off' hp;split at h
     ·rename_i ti ht;split at h
      ·rename_i ha;injection h with h;injection h with e1 h;injection h with e2 e3;subst e1;subst e2;subst e3;simp only at hf;split at hf
       ·rename_i E1 hput;injection hf with hf;injection hf with e1 e2;subst e1;subst e2;exact A.ah hg ho hp ht (S0 ha hy) hput next
       ·cases hf
      ·cases h
     ·cases h
    ·cases h
   ·cases h
  ·cases h
 ·cases h
def waS(S:TT)(gs:Ua)(k:List It)(E:aH):Option (Nat×Nat×AV×List It):=match k with
 | .ops all (o::l)::k=>match aV E all o.guard with
   |some ks=>match o.op with
    | .store t p y=>match E.ev gs ks p with
      |some (.v (.pointer (some ⟨b,off,none⟩)))=>match E.ev gs ks y with
       |some v=>match S.get t with
        |some ti=>match Nat.beq ti.size 1 with
         |true=>match o.dst with
          |none=>some (b,off,v, .ops all l::k) |some _=>none
         |false=>none
        |none=>none
       |none=>none
      |_=>none
    |_=>none
   |none=>none
 |_=>none
theorem A.wa{b off:Nat}{v:AV}{l l':List AV}(h:waS K.S K.gs k E=some (b,off,v,k'))(hv:cell1 v=true) [z:AAt Λ b (.ag l)](ho:off<l.length)(hl:l.set off v=l') [u:AUp Λ b (.ag l) (.ag l') Λ'](next:A K k' E Λ'):A K k E Λ:=by
 unfold waS at h;split at h
 ·split at h
  ·rename_i ks hg;split at h
   ·rename_i t p y hop;split at h
    ·rename_i b' off' hp;split at h
     ·rename_i v' hy;split at h
      ·rename_i ti ht;split at h
       ·rename_i hs;split at h
        ·rename_i hd;injection h with h;injection h with e1 h;injection h with e2 h;injection h with e3 e4;subst e1;subst e2;subst e3;subst e4;subst hl;have hs:=ab2 hs;exact A.store hg hop hp hy ht (stA_arr hs (KT hv).1 (KT hv).2 ho) (j:=u) hd next
        ·cases h
       ·cases h
      ·cases h
     ·cases h
    ·cases h
   ·cases h
  ·cases h
 ·cases h
def evS(S:TT)(gs:Ua)(n:Nat)(k:List It)(E:aH):Option (List AV×Nat×Nat×Bool×Int×(AV->Option (List It×aH))):=match k with
 | .ops all (o::l)::k=>match aV E all o.guard with
   |some ks=>match o.op with
    | .index t x ix=>match E.ev gs ks x with
      |some (.ag cs)=>match E.ev gs ks ix with
       |some (.v (.int _ i))=>match S.get t with
        |some ti=>match ti.d with
         | .array m el=>match S.get el with
           |some ei=>some (cs,m,ei.size,ei.agg,i,fun y=>match E.put n none o.dst y with
            |some E'=>some (.ops all l::k,E') |none=>none)
           |none=>none
         |_=>none
        |none=>none
       |_=>none
      |_=>none
    |_=>none
   |none=>none
 |_=>none
theorem A.ev{cs:List AV}{m sz:Nat}{i:Int}{y:AV}{f:AV->Option (List It×aH)}(h:evS K.S K.gs K.n k E=some (cs,m,sz,false,i,f))(h0:0<=i)(h1:i<m)(hy:cs[i.toNat*sz]? =some y)(hf:f y=some (k',E'))(next:A K k' E' Λ):A K k E Λ:=by
 unfold evS at h;split at h
 ·split at h
  ·rename_i ks hg;split at h
   ·rename_i t x ix ho;split at h
    ·rename_i cs' hx;split at h
     ·rename_i kk i' hi;split at h
      ·rename_i ti ht;split at h
       ·rename_i m' el hd;split at h
        ·rename_i ei he;injection h with h;injection h with e1 h;injection h with e2 h;injection h with e3 h;injection h with e6 h;injection h with e4 e5;subst e1;subst e2;subst e3;subst e4;subst e5;simp only at hf;split at hf
         ·rename_i E1 hput;injection hf with hf;injection hf with e1 e2;subst e1;subst e2;refine A.bg hg (fun h e L hl r q=>?_) hput next
          obtain ⟨v1,g1,f1⟩:=r.ev (K.hgs.mono hl) _ hx;obtain ⟨v2,g2,f2⟩:=r.ev (K.hgs.mono hl) _ hi;rw [bE] at f2;rw [f2.1] at g2;rw [eJ] at f1;obtain ⟨vs,rfl,f3⟩:=f1;have hpa:AO ei cs' (i'.toNat*ei.size)=some y:=by simp only [AO,e6,cC,hy]
          obtain ⟨v,f4,f5⟩:=DS f3 hpa;refine ⟨v,f5,fun ac w g s hk=>?_⟩;have hu:(underlying t).run K.P w= .ok (.array m' el) w:=by rw [run_underlying (TT.Ok.get K.ok ht),hd]
          have hz:(sizeOf el).run K.P w= .ok ei.size w:=run_sizeOf (TT.Ok.get K.ok he);have hp:=NN (P:=K.P) (w:=w) (TT.Ok.get K.ok he) f4;unfold execOp;rw [ho];simp only [g.ev hk g1,g.ev hk g2,Instr.index,asIntOf,aa9,hu,ab5,aa5,iT (And.intro h0 h1),hz,hp]
         ·cases hf
        ·cases h
       ·cases h
      ·cases h
     ·cases h
    ·cases h
   ·cases h
  ·cases h
 ·cases h
theorem allOneA{l:List AV}(h:lY l=true){g:GH}{vs:List Value}(r:dM g l vs){b:Nat}: ∀{o:Nat},iB g b o vs->tU g 1 l b o:=by
 induction l generalizing vs with
 |nil=>intro o _;simp only [tU] |cons x l ih=>
  intro o ha;rw [aG] at r;obtain ⟨v,vs',rfl,r1,r2⟩:=r;have hx:x.one=true:=oneA_mem h x (aa4 ..);have hl:lY l=true:=by simp only [lY,hx] at h;exact h
  have hc:=eS (r1.one hx);simp only [tU];refine ⟨⟨v,r1,by rw [hc];rfl,by rw [hc];intro i u hu;match i,hu with|0,hu=>exact ha 0 u (by simpa using hu)⟩,ih hl r2 (fun i u hu=>by have:=ha (i+1) u (by simpa using hu);rw [show o+1+i=o+(i+1) by omega];exact this)⟩
def saS(S:TT)(gs:Ua)(n:Nat)(k:List It)(E:aH):Option (List AV×Nat×(AV->Option (List It×aH))):=match k with
 | .ops all (o::l)::k=>match aV E all o.guard with
   |some ks=>match o.op with
    | .slice t x none none none=>match E.ev gs ks x with
      |some (.pe _ (.ag cs))=>match S.get t with
       |some ti=>match ti.d with
        | .array m el=>match S.get el with
          |some ei=>match Nat.beq ei.size 1 with
           |true=>some (cs,m,fun y=>match E.put n none o.dst y with
            |some E'=>some (.ops all l::k,E') |none=>none)
           |false=>none
          |none=>none
        |_=>none
       |none=>none
      |_=>none
    |_=>none
   |none=>none
 |_=>none
theorem A.sa{cs:List AV}{m:Nat}{f:AV->Option (List It×aH)}(h:saS K.S K.gs K.n k E=some (cs,m,f))(hm:cs.length=m)(h1:lY cs=true)(hf:f (.sl 1 cs none)=some (k',E'))(next:A K k' E' Λ):A K k E Λ:=by
 unfold saS at h;split at h
 ·split at h
  ·rename_i ks hg;split at h
   ·rename_i t x ho;split at h
    ·rename_i sz cs' hx;split at h
     ·rename_i ti ht;split at h
      ·rename_i m' el hd;split at h
       ·rename_i ei he;split at h
        ·rename_i hs;injection h with h;injection h with e1 h;injection h with e2 e3;subst e1;subst e2;subst e3;simp only at hf;split at hf
         ·rename_i E1 hput;injection hf with hf;injection hf with e1 e2;subst e1;subst e2;refine A.bg hg (fun h e L hl r q=>?_) hput next
          obtain ⟨v1,g1,f1⟩:=r.ev (K.hgs.mono hl) _ hx;rw [kO] at f1;obtain ⟨b,o',z,rfl,f2,f3,f4⟩:=f1;rw [eJ] at f2;obtain ⟨vs,rfl,f5⟩:=f2;have hlen:vs.length=cs'.length:=f5.len;refine ⟨.slice (some ⟨b,o',none⟩) cs'.length cs'.length,cU.2 ⟨_,_,rfl,aa6 _,trivial,fun _=>⟨b,o',rfl,allOneA h1 f5 f4⟩⟩,fun ac w g s hk=>?_⟩;have hu:(underlying t).run K.P w= .ok (.array m' el) w:=by rw [run_underlying (TT.Ok.get K.ok ht),hd]
          have hz:(sizeOf el).run K.P w= .ok ei.size w:=run_sizeOf (TT.Ok.get K.ok he);have hb:(Instr.sliceBounds false m' m' none none none).run K.P w= .ok (0,m',m') w:=by simp [Instr.sliceBounds]
          unfold execOp;rw [ho];simp only [g.ev hk g1,am5,Instr.sliceAt,Instr.sureAddr,aa9,hu,ab5,aa5,hb,hz,am0,hm];congr 1;congr 1;split
          ·rfl
          ·simp [Addr.add]
         ·cases hf
        ·cases h
       ·cases h
      ·cases h
     ·cases h
    ·cases h
   ·cases h
  ·cases h
 ·cases h
end
section
variable{K:AC}{all:Array Oper}{m:Nat}{k:List It}{pubs:Nat->List Nat}{Y:Ua}{π π':List Nat}{E E':aH}{Λ:List aF}{D:Da}
theorem WA.dk{i0:Nat}{o:Oper}{ks:List (Nat×Bool)}{t el:TypeId}{ti ei:TI}{x ix:Operand}{b off n:Nat}{kk:IntKind}{i:Int}{E':aH}
 (hi0:bU all.toList i0=some o) (hg:aV E all o.guard=some ks) (ho:o.op= .indexAddr t x ix) (hx:E.ev K.gs ks x=some (.v (.pointer (some ⟨b,off,none⟩)))) (hi:E.ev K.gs ks ix=some (.v (.int kk i))) (ht:K.S.get t=some ti) (hdd:ti.d= .array n el) (he:K.S.get el=some ei)
 (hput:E.put K.n none o.dst (.v (.pointer (some ⟨b,off+i.toNat*ei.size,none⟩)))=some E') (h0:0<=i) (h1:i<n) (next:WA K all m k pubs Y π E' Λ D):WA K all m k pubs Y (i0::π) E Λ D:=by
 refine ⟨fun h e L Es hl r q d=>?_⟩;obtain ⟨v1,e1,f1⟩:=r.ev (K.hgs.mono hl) _ hx;obtain ⟨v2,e2,f2⟩:=r.ev (K.hgs.mono hl) _ hi;rw [bE] at f1 f2;rw [f1.1] at e1;rw [f2.1] at e2;obtain ⟨e',e4,e5⟩:=cJ r hput (bE.2 ⟨rfl,rfl⟩);have hiv:sE K.S t (.pointer (some ⟨b,off,none⟩)) i=some (.pointer (some ⟨b,off+i.toNat*ei.size,none⟩),n):=by simp only [sE,ht,hdd,he]
 exact WE.bg (G:=cG K.cfg all (L++K.G) pubs (YA Y) m k) hi0 (wQ ho) (aT r hg) (fun a w E0 g s hk=>by have:=pR (P:=K.cfg.P) (w:=w) (kk:=kk) K.ok hiv h0 h1;unfold execOp;rw [ho];simp only [g.ev hk e1,g.ev hk e2,aa9,this,aa5,ab5]) e4 (next.run h e' L Es hl e5 q d)
def wxaS(S:TT)(gs:Ua)(n:Nat)(all:Array Oper)(π:List Nat)(E:aH):Option (Nat×Nat×Nat×Int×(Nat->Option (List Nat×aH))):=match π with
 |j::π=>match bU all.toList j with
  |some o=>match aV E all o.guard with
   |some ks=>match o.op with
    | .indexAddr t x ix=>match E.ev gs ks x with
      |some (.v (.pointer (some ⟨b,off,none⟩)))=>match E.ev gs ks ix with
       |some (.v (.int _ i))=>match S.get t with
        |some ti=>match ti.d with
         | .array m el=>match S.get el with
           |some ei=>some (off,ei.size,m,i,fun p=>match E.put n none o.dst (.v (.pointer (some ⟨b,p,none⟩))) with
            |some E'=>some (π,E') |none=>none)
           |none=>none
         |_=>none
        |none=>none
       |_=>none
      |_=>none
    |_=>none
   |none=>none
  |none=>none
 | []=>none
theorem WA.xa{off sz n p:Nat}{i:Int}{f:Nat->Option (List Nat×aH)}(h:wxaS K.S K.gs K.n all π E=some (off,sz,n,i,f))(h0:0<=i)(h1:i<n)(hp:off+i.toNat*sz=p)(hf:f p=some (π',E'))(next:WA K all m k pubs Y π' E' Λ D):WA K all m k pubs Y π E Λ D:=by
 unfold wxaS at h;split at h
 ·split at h
  ·rename_i o hj;split at h
   ·rename_i ks hg;split at h
    ·rename_i t x ix ho;split at h
     ·rename_i b off' hx;split at h
      ·rename_i kk i' hi;split at h
       ·rename_i ti ht;split at h
        ·rename_i m' el hd;split at h
         ·rename_i ei he;injection h with h;injection h with e1 h;injection h with e2 h;injection h with e3 h;injection h with e4 e5;subst e1;subst e2;subst e3;subst e4;subst e5;simp only at hf;split at hf
          ·rename_i E1 hput;injection hf with hf;injection hf with e1 e2;subst e1;subst e2;subst hp;exact WA.dk hj hg ho hx hi ht hd he hput h0 h1 next
          ·cases hf
         ·cases h
        ·cases h
       ·cases h
      ·cases h
     ·cases h
    ·cases h
   ·cases h
  ·cases h
 ·cases h
def wraS(S:TT)(gs:Ua)(n:Nat)(all:Array Oper)(π:List Nat)(E:aH):Option (Nat×Nat×(AV->Option (List Nat×aH))):=match π with
 |j::π=>match bU all.toList j with
  |some o=>match aV E all o.guard with
   |some ks=>match o.op with
    | .load t p=>match E.ev gs ks p with
      |some (.v (.pointer (some ⟨b,off,none⟩)))=>match S.get t with
       |some ti=>match ti.agg with
        |false=>some (b,off,fun y=>match E.put n none o.dst y with
         |some E'=>some (π,E') |none=>none)
        |true=>none
       |none=>none
      |_=>none
    |_=>none
   |none=>none
  |none=>none
 | []=>none
theorem WA.ra{b off:Nat}{f:AV->Option (List Nat×aH)}{l:List AV}{y:AV}(h:wraS K.S K.gs K.n all π E=some (b,off,f)) [z:AAt Λ b (.ag l)](hy:l[off]? =some y)(hf:f y=some (π',E'))(next:WA K all m k pubs Y π' E' Λ D):WA K all m k pubs Y π E Λ D:=by
 unfold wraS at h;split at h
 ·split at h
  ·rename_i o hj;split at h
   ·rename_i ks hg;split at h
    ·rename_i t p ho;split at h
     ·rename_i b' off' hp;split at h
      ·rename_i ti ht;split at h
       ·rename_i ha;injection h with h;injection h with e1 h;injection h with e2 e3;subst e1;subst e2;subst e3;simp only at hf;split at hf
        ·rename_i E1 hput;injection hf with hf;injection hf with e1 e2;subst e1;subst e2;exact WA.ah hj hg ho hp ht (S0 ha hy) hput next
        ·cases hf
       ·cases h
      ·cases h
     ·cases h
    ·cases h
   ·cases h
  ·cases h
 ·cases h
end
theorem N5: ∀{l:List AV},vP l 0 l.length=some l
 | []=>by simp only [List.length,vP] |c::cs=>by simp only [List.length,vP,N5 (l:=cs)]
theorem OD: ∀{l vs:List AV},l.length=vs.length->t3 l 0 vs=some vs
 | [],[],_=>by simp only [t3] |c::cs,v::vs,h=>by simp only [t3,OD (l:=cs) (vs:=vs) (by simpa using h)]
 | [],v::vs,h=>by simp at h |c::cs,[],h=>by simp at h
theorem I6{ti:TI}{l:List AV}(ha:ti.agg=true)(hl:l.length=ti.size):OQ ti (.ag l) 0=some (.ag l):=by simp only [OQ,gA,AO,ha,<-hl,N5]
theorem stA_all{ti:TI}{l vs:List AV}(hl:l.length=ti.size)(hv:vs.length=ti.size)(ho:lY vs=true):stA ti (.ag l) 0 (.ag vs)=some (.ag vs):=by
 have h2:Nat.beq (pG vs) ti.size=true:=by rw [i9,hv];exact Nat.beq_refl _
 have h3:gA (.ag l)=some l:=rfl;have h4:gA (.ag vs)=some vs:=rfl;unfold stA;simp only [h4,h2,ho,h3,OD (hl.trans hv.symm),S2]
theorem M7: ∀{l:List AV},(∀x,x∈l->x.one=true)->lY l=true
 | [],_=>rfl |x::l,h=>by simp only [lY,h x (aa4 ..),M7 (l:=l) fun y hy=>h y (aa8 _ hy)]
theorem M8{α:Type}{f:α->AV}{l:List α}(h: ∀x,(f x).one=true):lY (l.map f)=true:=M7 fun x hx=>by obtain ⟨a,_,rfl⟩:=List.mem_map.1 hx;exact h a
section
variable{K:AC}{k k':List It}{E E':aH}{Λ Λ':List aF}
def laS(S:TT)(gs:Ua)(n:Nat)(k:List It)(E:aH):Option (Nat×Nat×(AV->Option (List It×aH))):=match k with
 | .ops all (o::l)::k=>match aV E all o.guard with
   |some ks=>match o.op with
    | .load t p=>match E.ev gs ks p with
      |some (.v (.pointer (some ⟨b,0,none⟩)))=>match S.get t with
       |some ti=>match ti.agg with
        |true=>some (b,ti.size,fun y=>match E.put n none o.dst y with
         |some E'=>some (.ops all l::k,E') |none=>none)
        |false=>none
       |none=>none
      |_=>none
    |_=>none
   |none=>none
 |_=>none
theorem A.la{b sz:Nat}{f:AV->Option (List It×aH)}{l:List AV}(h:laS K.S K.gs K.n k E=some (b,sz,f)) [z:AAt Λ b (.ag l)](hl:l.length=sz)(hf:f (.ag l)=some (k',E'))(next:A K k' E' Λ):A K k E Λ:=by
 unfold laS at h;split at h
 ·split at h
  ·rename_i ks hg;split at h
   ·rename_i t p ho;split at h
    ·rename_i b' hp;split at h
     ·rename_i ti ht;split at h
      ·rename_i ha;injection h with h;injection h with e1 h;injection h with e2 e3;subst e1;subst e2;subst e3;simp only at hf;split at hf
       ·rename_i E1 hput;injection hf with hf;injection hf with e1 e2;subst e1;subst e2;exact A.ah hg ho hp ht (I6 ha hl) hput next
       ·cases hf
      ·cases h
     ·cases h
    ·cases h
   ·cases h
  ·cases h
 ·cases h
def wlS(S:TT)(gs:Ua)(k:List It)(E:aH):Option (Nat×Nat×List AV×List It):=match k with
 | .ops all (o::l)::k=>match aV E all o.guard with
   |some ks=>match o.op with
    | .store t p y=>match E.ev gs ks p with
      |some (.v (.pointer (some ⟨b,0,none⟩)))=>match E.ev gs ks y with
       |some (.ag vs)=>match S.get t with
        |some ti=>match o.dst with
         |none=>some (b,ti.size,vs, .ops all l::k) |some _=>none
        |none=>none
       |_=>none
      |_=>none
    |_=>none
   |none=>none
 |_=>none
theorem A.wl{b sz:Nat}{vs l:List AV}(h:wlS K.S K.gs k E=some (b,sz,vs,k'))(h1:lY vs=true)(hv:vs.length=sz) [z:AAt Λ b (.ag l)](hl:l.length=sz) [u:AUp Λ b (.ag l) (.ag vs) Λ'](next:A K k' E Λ'):A K k E Λ:=by
 unfold wlS at h;split at h
 ·split at h
  ·rename_i ks hg;split at h
   ·rename_i t p y hop;split at h
    ·rename_i b' hp;split at h
     ·rename_i vs' hy;split at h
      ·rename_i ti ht;split at h
       ·rename_i hd;injection h with h;injection h with e1 h;injection h with e2 h;injection h with e3 e4;subst e1;subst e2;subst e3;subst e4;exact A.store hg hop hp hy ht (stA_all hl hv h1) (j:=u) hd next
       ·cases h
      ·cases h
     ·cases h
    ·cases h
   ·cases h
  ·cases h
 ·cases h
def blS(gs:Ua)(n:Nat)(k:List It)(E:aH):Option (List It×Nat×List AV):=match k with
 | .ops all (o::l)::k=>match aV E all o.guard with
   |some ks=>match o.dst with
    |some d=>match bZ n E d with
     |true=>match o.op with
      | .box t y=>match E.ev gs ks y with
        |some (.ag vs)=>some (.ops all l::k,d,vs) |_=>none
      |_=>none
     |false=>none
    |none=>none
   |none=>none
 |_=>none
theorem A.bl{d:Nat}{vs:List AV}(h:blS K.gs K.n k E=some (k',d,vs))(h1:lY vs=true)(next: ∀b,A K k' ⟨(d, .v (.pointer (some ⟨b,0,none⟩)))::E.us,E.cs⟩ (.box b (.ag vs)::Λ)):A K k E Λ:=by
 unfold blS at h;split at h
 ·split at h
  ·rename_i ks hg;split at h
   ·rename_i d' hd;split at h
    ·rename_i hc;split at h
     ·rename_i t y ho;split at h
      ·rename_i vs' hy;injection h with h;injection h with e1 h;injection h with e2 e3;subst e1;subst e2;subst e3;exact A.box hg ho hy T h1 hd hc next
      ·cases h
     ·cases h
    ·cases h
   ·cases h
  ·cases h
 ·cases h
end
section
variable{K:AC}{k:List It}{E:aH}{Λ:List aF}
theorem A.db{b:Nat}{x:AV}(x':AV)(h:x=x')(next:A K k E (.box b x'::Λ)):A K k E (.box b x::Λ):=by subst h;exact next
end
section
variable{P:Program}{w:World}{t kt:TypeId}{ti ki:TI}
theorem vK{b:Nat}{es:Array MapEntry}{n:Nat}(hb:w.heap[b]? =some (.map es n)):(getObj b).run P w= .ok (.map es n) w:=by simp [getObj,aq2,hb]
theorem QW{b:Nat}{es:Array MapEntry}{n:Nat}(o:Obj)(hb:w.heap[b]? =some (.map es n)):(setObj b o).run P w= .ok () (w.putObj b o):=by simp [setObj,aq2,hb,World.putObj]
theorem run_checkKey{em:Bool}{kk:IntKind}{v:Value}(hk:TI.Ok P kt ki)(hd:ki.d= .int kk):(Instr.checkKey em 10000 kt v).run P w= .ok () w:=by unfold Instr.checkKey;simp only [aa9,run_underlying hk,aa5,hd];cases v<;>rfl
theorem run_findKey{kk:IntKind}{v:Value}{es:List MapEntry}{r:Option (Nat×Value)}(hk:TI.Ok P kt ki)(hd:ki.d= .int kk)(hf:Instr.findNow (.int kk) v es 0=some r):(Instr.findKey kt v es).run P w= .ok r w:=by
 unfold Instr.findKey;simp only [aa9,run_underlying hk,aa5,hd,hf]
 rfl
end
section
variable{C:nY}{k:List It}{e:Env}{h:GH}{L:List a6}
theorem V.makeMap{all:Array Oper}{o:Oper}{l:List Oper}{ks:List (Nat×Bool)}{t:TypeId}{d:Nat}
 (hg:fX e all o.guard=some ks) (ho:o.op= .makeMap t none) (hd:o.dst=some d) (hc:eY C.n e d=true)
 (next: ∀b,V C (.ops all l::k) ⟨(d, .map (some b))::e.us,e.cs⟩ h (⟨b,0,[],some (.map #[] 0)⟩::L)):V C (.ops all (o::l)::k) e h L:=
 V.gives hg hd hc fun a w g s hk=>by refine ⟨_,_,h,_,?_,s.dv (.map #[] 0) (fun _ _ _ x=>by cases x),next _⟩;unfold execOp;rw [ho];simp [Instr.makeMap,newObj,aq2]
theorem V.insert{all:Array Oper}{o:Oper}{l:List Oper}{ks:List (Nat×Bool)}{t kt et:TypeId}{ti ki:TI}{m ky y:Operand}{b n:Nat}{kk:IntKind}{es:Array MapEntry}{kv v:Value}{L2:List a6}
 (hg:fX e all o.guard=some ks) (ho:o.op= .insert t m ky y) (hm:e.ev ks m=some (.map (some b))) (hkv:e.ev ks ky=some kv) (hv:e.ev ks y=some v) (ht:C.S.get t=some ti) (htd:ti.d= .map kt et) (hkt:C.S.get kt=some ki) (hkd:ki.d= .int kk)
 (hf:Instr.findNow (.int kk) kv es.toList 0=some none) (hd:o.dst=none) (hL:L=⟨b,0,[],some (.map es n)⟩::L2)
 (next:V C (.ops all l::k) e h (⟨b,0,[],some (.map (es.push ⟨kv,v,n⟩) (n+1))⟩::L2)):V C (.ops all (o::l)::k) e h L:=
 V.sure hg fun a w g s hk=>by subst hL;have hob:=((s.own _ (aa4 ..)).obj _ T).2.1;simp only at hob;have s2:=s.setObj T (.map (es.push ⟨kv,v,n⟩) (n+1)) (fun _ _ _ x=>by cases x);unfold Oper.wp execOp;rw [ho];simp only [g.ev hk hm,g.ev hk hkv,g.ev hk hv,Instr.mapUpdate,aa9,run_underlying (TT.Ok.get C.ok ht),htd,aa5,vK hob,run_checkKey (TT.Ok.get C.ok hkt) hkd,run_findKey (TT.Ok.get C.ok hkt) hkd hf,QW _ hob,ab5];exact ⟨e,h,_,by rw [hd];exact g,s2,next⟩
theorem V.lookup{all:Array Oper}{o:Oper}{l:List Oper}{ks:List (Nat×Bool)}{t kt et:TypeId}{ti ki:TI}{m ky:Operand}{b n d i:Nat}{kk:IntKind}{es:Array MapEntry}{kv v:Value}{L2:List a6}
 (hg:fX e all o.guard=some ks) (ho:o.op= .lookup t m ky false) (hm:e.ev ks m=some (.map (some b))) (hkv:e.ev ks ky=some kv) (ht:C.S.get t=some ti) (htd:ti.d= .map kt et) (hkt:C.S.get kt=some ki) (hkd:ki.d= .int kk)
 (hf:Instr.findNow (.int kk) kv es.toList 0=some (some (i,v))) (hd:o.dst=some d) (hc:eY C.n e d=true) (hL:L=⟨b,0,[],some (.map es n)⟩::L2)
 (next:V C (.ops all l::k) ⟨(d,v)::e.us,e.cs⟩ h L):V C (.ops all (o::l)::k) e h L:=
 V.gives hg hd hc fun a w g s hk=>by
  have hob:=((s.own ⟨b,0,[],some (.map es n)⟩ (by rw [hL];exact aa4 ..)).obj _ T).2.1;simp only at hob;refine ⟨v,w,h,L,?_,s,next⟩;unfold execOp;rw [ho];simp only [g.ev hk hm,g.ev hk hkv,Instr.lookup,aa9,run_underlying (TT.Ok.get C.ok ht),htd,aa5,vK hob,run_checkKey (TT.Ok.get C.ok hkt) hkd,run_findKey (TT.Ok.get C.ok hkt) hkd hf,ab5]
  rfl
theorem V.ek{all:Array Oper}{o:Oper}{l:List Oper}{ks:List (Nat×Bool)}{t kt et:TypeId}{ti ki:TI}{m ky:Operand}{b n d:Nat}{kk:IntKind}{es:Array MapEntry}{kv v:Value}{L2:List a6}
 (hg:fX e all o.guard=some ks) (ho:o.op= .lookup t m ky false) (hm:e.ev ks m=some (.map (some b))) (hkv:e.ev ks ky=some kv) (ht:C.S.get t=some ti) (htd:ti.d= .map kt et) (hkt:C.S.get kt=some ki) (hkd:ki.d= .int kk)
 (hz:(C.P.info? et).bind (fun x=>x.zero)=some v)
 (hf:Instr.findNow (.int kk) kv es.toList 0=some none) (hd:o.dst=some d) (hc:eY C.n e d=true) (hL:L=⟨b,0,[],some (.map es n)⟩::L2)
 (next:V C (.ops all l::k) ⟨(d,v)::e.us,e.cs⟩ h L):V C (.ops all (o::l)::k) e h L:=
 V.gives hg hd hc fun a w g s hk=>by
  have hob:=((s.own ⟨b,0,[],some (.map es n)⟩ (by rw [hL];exact aa4 ..)).obj _ T).2.1;simp only at hob;refine ⟨v,w,h,L,?_,s,next⟩;obtain ⟨xi,hx1,hx2⟩: ∃xi,C.P.info? et=some xi/\xi.zero=some v:=by
   cases hi:C.P.info? et with
   |none=>rw [hi] at hz;cases hz |some xi=>rw [hi] at hz;exact ⟨xi,rfl,hz⟩
  have hz1:(zeroValue et).run C.P w= .ok v w:=by simp [zeroValue,run_typeInfo hx1,hx2]
  unfold execOp;rw [ho];simp only [g.ev hk hm,g.ev hk hkv,Instr.lookup,aa9,run_underlying (TT.Ok.get C.ok ht),htd,aa5,vK hob,run_checkKey (TT.Ok.get C.ok hkt) hkd,run_findKey (TT.Ok.get C.ok hkt) hkd hf,hz1,ab5]
  rfl
end
def JO(kk:IntKind)(n:Int):List Value->Option (Option Nat)
 | []=>some none | .int j m::r=>match decide (kk=j) with
   |true=>match n==m with
    |true=>some (some 0) |false=>match JO kk n r with
     |some (some p)=>some (some (p+1)) |some none=>some none
     |none=>none
   |false=>none
 |_=>none
theorem n8{kk:IntKind}{n:Int}: ∀{ks vs:List Value} {b i:Nat} {r:Option Nat},ks.length=vs.length->JO kk n ks=some r->
 Instr.findNow (.int kk) (.int kk n) (pI ks vs b) i=some (match r with
  |some p=>(vs[p]?).map fun v=>(i+p,v) |none=>none)
 | [],vs,b,i,r,hl,h=>by simp only [JO] at h;injection h with h;subst h;cases vs<;>rfl
 |k::ks,[],b,i,r,hl,h=>by simp at hl |k::ks,v::vs,b,i,r,hl,h=>by
  unfold JO at h;split at h
  ·cases ‹k::ks=[]›
  ·rename_i j m r' he;injection he with e1 e2;subst e1;subst e2;split at h
   ·rename_i hd;have hd:=of_decide_eq_true hd;split at h
    ·rename_i hn;injection h with h;subst h;simp only [pI,Instr.findNow,Instr.sameNow,iT hd,hn];simp
    ·rename_i hn;have ih:=fun r hp=>n8 (kk:=kk) (n:=n) (ks:=ks) (vs:=vs) (b:=b+1) (i:=i+1) (r:=r) (by simpa using hl) hp;simp only [pI,Instr.findNow,Instr.sameNow,iT hd,hn];split at h
     ·rename_i p hp;injection h with h;subst h;rw [ih _ hp];simp only [List.getElem?_cons_succ];cases vs[p]? with
      |none=>rfl |some u=>simp;omega
     ·rename_i hp;injection h with h;subst h;rw [ih _ hp]
     ·cases h
   ·cases h
  ·cases h
theorem DB: ∀{ks vs:List Value} {k v:Value} {b:Nat},ks.length=vs.length->pI (ks++[k]) (vs++[v]) b=pI ks vs b++[⟨k,v,b+ks.length⟩]
 | [],[],k,v,b,_=>by simp [pI] | [],v::vs,_,_,_,h=>by simp at h
 |k::ks,[],_,_,_,h=>by simp at h |k::ks,v::vs,k',v',b,h=>by simp only [ae0,pI,ab1];rw [DB (ks:=ks) (vs:=vs) (by simpa using h)];congr 4;omega
class AMp (Λ:List aF) (b:Nat) (ks:outParam (List Value)) (xs:outParam (List AV)) (Λ':outParam (List aF)):Prop where
 perm:Λ.Perm (.mp b ks xs::Λ')
instance AMp.here {b:Nat} {ks:List Value} {xs:List AV} {Λ:List aF}:AMp (.mp b ks xs::Λ) b ks xs Λ:=⟨.refl _⟩
instance (priority:=low) AMp.there {y:aF} {b:Nat} {ks:List Value} {xs:List AV} {Λ Λ':List aF} [i:AMp Λ b ks xs Λ']:AMp (y::Λ) b ks xs (y::Λ'):=⟨(i.perm.cons y).trans (.swap _ _ _)⟩
section
variable{K:AC}{k:List It}{E:aH}{Λ:List aF}
theorem A.makeMap{all:Array Oper}{o:Oper}{l:List Oper}{ks:List (Nat×Bool)}{t:TypeId}{d:Nat}
 (hg:aV E all o.guard=some ks) (ho:o.op= .makeMap t none) (hd:o.dst=some d) (hc:bZ K.n E d=true)
 (next: ∀b,A K (.ops all l::k) ⟨(d, .v (.map (some b)))::E.us,E.cs⟩ (.mp b [] []::Λ)):A K (.ops all (o::l)::k) E Λ:=by
 refine ⟨fun h e L hl r q=>?_⟩;refine V.makeMap (C:=K.cfg) (aT r hg) ho hd (bQ r hc) fun b=>?_;exact (next b).run h _ (_::L) hl ⟨r.1.put (bE.2 ⟨rfl,rfl⟩),r.2⟩ (.one ⟨rfl,[],aQ.2 T,rfl⟩ q)
theorem A.insert{all:Array Oper}{o:Oper}{l:List Oper}{ks:List (Nat×Bool)}{t kt et:TypeId}{ti ki:TI}{m ky y:Operand}{b:Nat}{kk:IntKind}{n:Int}{nks:List Value}{xs:List AV}{x:AV}{Λ':List aF}
 (hg:aV E all o.guard=some ks) (ho:o.op= .insert t m ky y) (hm:E.ev K.gs ks m=some (.v (.map (some b)))) (hkv:E.ev K.gs ks ky=some (.v (.int kk n))) (hv:E.ev K.gs ks y=some x) (ht:K.S.get t=some ti) (htd:ti.d= .map kt et) (hkt:K.S.get kt=some ki) (hkd:ki.d= .int kk)
 [i:AMp Λ b nks xs Λ'] (hf:JO kk n nks=some none) (hd:o.dst=none) (next:A K (.ops all l::k) E (.mp b (nks++[.int kk n]) (xs++[x])::Λ')):A K (.ops all (o::l)::k) E Λ:=by
 refine ⟨fun h e L hl r q=>?_⟩;obtain ⟨v1,e1,f1⟩:=r.ev (K.hgs.mono hl) _ hm;obtain ⟨v2,e2,f2⟩:=r.ev (K.hgs.mono hl) _ hkv;obtain ⟨v3,e3,f3⟩:=r.ev (K.hgs.mono hl) _ hv;rw [bE] at f1 f2;rw [f1.1] at e1;rw [f2.1] at e2;obtain ⟨L',q1,q2⟩:=q.perm i.perm;obtain ⟨M,L2,rfl,⟨hlen,vs,hvs,rfl⟩,q4⟩:=q1;have hl2:nks.length=vs.length:=by rw [hlen,hvs.len]
 refine V.perm (q2.append_right _) ?_;refine V.insert (C:=K.cfg) (n:=nks.length) (es:=⟨pI nks vs 0⟩) (L2:=L2++K.G) (aT r hg) ho e1 e2 e3 ht htd hkt hkd (n8 hl2 hf) hd T ?_;have:=next.run h e (⟨b,0,[],some (.map ⟨pI (nks++[.int kk n]) (vs++[v3]) 0⟩ (nks++[Value.int kk n]).length)⟩::L2) hl r (.one ⟨by simp [hlen],_,hvs.append (aG.2 ⟨_,_,rfl,f3,aQ.2 T⟩),rfl⟩ q4)
 rw [DB hl2] at this;simpa using this
theorem A.lookup{all:Array Oper}{o:Oper}{l:List Oper}{ks:List (Nat×Bool)}{t kt et:TypeId}{ti ki:TI}{m ky:Operand}{b d p:Nat}{kk:IntKind}{n:Int}{nks:List Value}{xs:List AV}{x:AV}{Λ':List aF}
 (hg:aV E all o.guard=some ks) (ho:o.op= .lookup t m ky false) (hm:E.ev K.gs ks m=some (.v (.map (some b)))) (hkv:E.ev K.gs ks ky=some (.v (.int kk n))) (ht:K.S.get t=some ti) (htd:ti.d= .map kt et) (hkt:K.S.get kt=some ki) (hkd:ki.d= .int kk)
 [i:AMp Λ b nks xs Λ'] (hf:JO kk n nks=some (some p)) (hx:xs[p]? =some x) (hd:o.dst=some d) (hc:bZ K.n E d=true) (next:A K (.ops all l::k) ⟨(d,x)::E.us,E.cs⟩ Λ'):A K (.ops all (o::l)::k) E Λ:=by
 refine ⟨fun h e L hl r q=>?_⟩;obtain ⟨v1,e1,f1⟩:=r.ev (K.hgs.mono hl) _ hm;obtain ⟨v2,e2,f2⟩:=r.ev (K.hgs.mono hl) _ hkv;rw [bE] at f1 f2;rw [f1.1] at e1;rw [f2.1] at e2;obtain ⟨L',q1,q2⟩:=q.perm i.perm;obtain ⟨M,L2,rfl,⟨hlen,vs,hvs,rfl⟩,q4⟩:=q1;have hl2:nks.length=vs.length:=by rw [hlen,hvs.len]
 obtain ⟨u,hu,hux⟩:=hvs.at hx;have hfn:=n8 (b:=0) (i:=0) hl2 hf;simp only [hu,ag0] at hfn;refine V.perm (q2.append_right _) ?_;refine V.lookup (C:=K.cfg) (n:=nks.length) (es:=⟨pI nks vs 0⟩) (L2:=L2++K.G) (aT r hg) ho e1 e2 ht htd hkt hkd hfn hd (bQ r hc) T ?_;exact V.tail (next.run h _ L2 hl ⟨r.1.put hux,r.2⟩ q4)
theorem A.ek{all:Array Oper}{o:Oper}{l:List Oper}{ks:List (Nat×Bool)}{t kt et:TypeId}{ti ki:TI}{m ky:Operand}{b d:Nat}{kk:IntKind}{n:Int}{nks:List Value}{xs:List AV}{v:Value}{Λ':List aF}
 (hg:aV E all o.guard=some ks) (ho:o.op= .lookup t m ky false) (hm:E.ev K.gs ks m=some (.v (.map (some b)))) (hkv:E.ev K.gs ks ky=some (.v (.int kk n))) (ht:K.S.get t=some ti) (htd:ti.d= .map kt et) (hkt:K.S.get kt=some ki) (hkd:ki.d= .int kk) (hz:(K.P.info? et).bind (fun x=>x.zero)=some v) (hone:iJ v=true)
 [i:AMp Λ b nks xs Λ'] (hf:JO kk n nks=some none) (hd:o.dst=some d) (hc:bZ K.n E d=true) (next:A K (.ops all l::k) ⟨(d, .v v)::E.us,E.cs⟩ Λ'):A K (.ops all (o::l)::k) E Λ:=by
 refine ⟨fun h e L hl r q=>?_⟩;obtain ⟨v1,e1,f1⟩:=r.ev (K.hgs.mono hl) _ hm;obtain ⟨v2,e2,f2⟩:=r.ev (K.hgs.mono hl) _ hkv;rw [bE] at f1 f2;rw [f1.1] at e1;rw [f2.1] at e2;obtain ⟨L',q1,q2⟩:=q.perm i.perm;obtain ⟨M,L2,rfl,⟨hlen,vs,hvs,rfl⟩,q4⟩:=q1;have hl2:nks.length=vs.length:=by rw [hlen,hvs.len]
 have hfn:=n8 (b:=0) (i:=0) hl2 hf;refine V.perm (q2.append_right _) ?_;refine V.ek (C:=K.cfg) (n:=nks.length) (es:=⟨pI nks vs 0⟩) (L2:=L2++K.G) (aT r hg) ho e1 e2 ht htd hkt hkd hz hfn hd (bQ r hc) T ?_;exact V.tail (next.run h _ L2 hl ⟨r.1.put (bE.2 ⟨rfl,hone⟩),r.2⟩ q4)
theorem Lt.box{Λ:List aF}{b sz:Nat}{cs:List AV}(hm:aF.box b (.ag cs)∈Λ)(hs:cs.length=sz):Lt Λ (.v (.pointer (some ⟨b,0,none⟩))) (.pe sz (.ag cs)):=fun h L h' v q hl ha r=>by obtain ⟨L1,⟨z,q1,rfl⟩,q2⟩:=zU.mem q ha hm;rw [bE] at r;rw [r.1,kO];have hz:=eJ.1 q1;obtain ⟨zs,rfl,hz2⟩:=hz;exact ⟨b,0,_,rfl,q1.mono hl,by rw [<-hs,<-hz2.len];rfl,q2 _ (aa3.2 T)⟩
end
section
variable{C:nY}{k:List It}{e:Env}{h:GH}{L:List a6}
theorem V.dx{all:Array Oper}{id:Nat}(j:Nat){x:a6}(m:Nat)(π:List Nat)(pubs:Nat->List Nat)(Y:Nat->List Value->Value->GH->Prop)(hj:j<all.size)(hm:C.P.follows .mixedOrders=true)(hok:lL all m π pubs=true)
 (hv:WE (cG C all L pubs Y m k) π e h (aE.none.set j (some x))):V C (.code (.region id all true)::k) e h (x::L):=by
 intro ho a w b cs g s hf hk;have hok1:=wG hok;have hnd:=hok1.2;have ok:HO (cG C all L pubs Y m k) m π:=zZ hok1.1;have hW:=hv a g;have hp:(aE.list all.size (aE.none.set j (some x))).Perm [x]:=by have h1:=aE.cz hj aE.none x;rw [show aE.none.set j Option.none=aE.none by funext i;simp [aE.set,aE.none],aE.fg] at h1;exact h1
 have s':(cG C all L pubs Y m k).live h (aE.none.set j (some x)) {w with drawn:=w.drawn+1}:=by show St C.w0 h (aE.list all.size (aE.none.set j (some x))++L) _;exact s.drew.perm (hp.append_right L).symm
 have hd:UB all m π (ah6 all.size false):=by
  refine ⟨by simp,fun i hi=>⟨fun _=>?_,fun _=>by simp [hi]⟩,fun i o ho hi=>?_⟩
  rotate_left
  ·have:(ah6 all.size false).getD i false=false:=by
    simp only [Array.getD_eq_getD_getElem?,Array.getElem?_replicate];split<;>rfl
   have hi':(ah6 all.size false).getD i false=true:=hi;rw [this] at hi';cases hi'
  by_cases him:i<m
  ·left;exact ok.full i him
  ·right;omega
 have hr:=Rg.run (cG C all L pubs Y m k) ok (bD ho) (cs:=cs) hnd hf hk (fun a h E x=>x) m π ok.len (List.Sublist.refl _) (ah6 all.size false) (w.tape w.drawn (.order b.fn id)) a h (aE.none.set j (some x)) _ hd hW s';obtain ⟨v,w'',fr,h'',L'',q1,q2,q3,q4,q5⟩:=hr;refine ⟨v,w'',fr,h'',L'',q1,q2,?_,q4,q5⟩;have hstep:=stepR_region_draw (P:=C.P) (b:=b) (a:=a) (k:=items k) (cs:=cs) (w:=w) (ops:=all) (id:=id);have hsch:Region.schedule (C.P.follows .mixedOrders) all (w.tape w.drawn (.order b.fn id))=Region.linearise.go .any all (m+(all.size-m)) (w.tape w.drawn (.order b.fn id)) (ah6 all.size false) []:=by
  rw [show m+(all.size-m)=all.size by have:m<=all.size:=ok.le;omega];simp only [Region.schedule,hm,Bool.true_or,if_true]
  rfl
 rw [hsch] at hstep;exact .head hstep q3
end
section
variable{K:AC}{all:Array Oper}{k:List It}{E:aH}{Λ Λ':List aF}
theorem A.dx{id:Nat}(t j:Nat){b:Nat}{x:AV}(m:Nat)(π:List Nat)(pubs:Nat->List Nat)(Y:Ua)(hx:bJ E.us t=some (.v (.pointer (some ⟨b,0,none⟩)))) [i:AAt Λ b x] [o:AOut Λ (.box b x) Λ'](hj:j<EZ all.toList)(hm:K.P.follows .mixedOrders=true)(hok:lL all m π pubs=true)
 (hv:WA K all m k pubs Y π E Λ' [(j, .box b x)]):A K (.code (.region id all true)::k) E Λ:=
 ⟨fun h e L hl r q=>by obtain ⟨L',q1,q2⟩:=q.perm o.perm;obtain ⟨M,L2,rfl,⟨z,q3,rfl⟩,q4⟩:=q1;refine V.perm (q2.append_right _) (V.dx (C:=K.cfg) j m π pubs (YA Y) (by rw [wT] at hj;simpa using hj) hm hok (hv.run h e L2 _ hl r q4 ?_));exact KF.set (D:=[]) (Es:=aE.none) (fun i=>rfl) ⟨z,q3,rfl⟩⟩
end
end Go.Tp
namespace Go.Tp
open Go Go.RowKit
section
variable{K:AC}{all:Array Oper}{m:Nat}{k:List It}{pubs:Nat->List Nat}{Y:Ua}{π:List Nat}{E:aH}{Λ:List aF}{D:Da}
theorem A.gz{id:Nat}(j sz:Nat)(z:Value){Λ':List aF}(m:Nat)(π:List Nat)(pubs:Nat->List Nat)(Y:Ua) [o:AOut Λ (.tail sz z) Λ'](hj:j<EZ all.toList)(hm:K.P.follows .mixedOrders=true)(hok:lL all m π pubs=true)
 (hv:WA K all m k pubs Y π E Λ' [(j, .tail sz z)]):A K (.code (.region id all true)::k) E Λ:=
 ⟨fun h e L hl r q=>by obtain ⟨L',q1,q2⟩:=q.perm o.perm;obtain ⟨M,L2,rfl,⟨p,q3,rfl⟩,q4⟩:=q1;refine V.perm (q2.append_right _) (V.dx (C:=K.cfg) j m π pubs (YA Y) (by rw [wT] at hj;simpa using hj) hm hok (hv.run h e L2 _ hl r q4 ?_));exact KF.set (D:=[]) (Es:=aE.none) (fun i=>rfl) ⟨p,q3,rfl⟩⟩
theorem WA.append{i:Nat}{o:Oper}{ks:List (Nat×Bool)}{y1 y2:Operand}{t el:TypeId}{ti ei:TI}{x1 x2:AV}{l1 l2:List AV}{z:Value}{d:Nat}{ps:List Nat}{D':Da}(hi:bU all.toList i=some o)
 (hg:aV E all o.guard=some ks) (ho:o.op= .call ⟨.builtin .append, #[y1,y2], #[t,t]⟩) (h1:E.ev K.gs ks y1=some x1) (h2:E.ev K.gs ks y2=some x2)
 (ht:K.S.get t=some ti) (hdd:ti.d= .slice el) (he:K.S.get el=some ei) (s1:nX ei.size x1=some (l1,some z)) (hD:lW D i=some (.tail ei.size z)) (hp:pubs i=ps) (hpi:fS i ps=false) (hDD:q9 ps D=D')
 (hsz:Nat.blt 0 ei.size=true) (hz1:aP ei.zero=true) (hby:Nat.ble ei.bytes 4096=true) (hd:o.dst=some d) (hc:bZ K.n E d=true)
 (hs:AZ D ps x2 (.sl ei.size l2 none)) (hb:(l1.length+l2.length)*ei.size<=1073741824)
 (next: ∀z',WA K all m k pubs Y π ⟨(d, .sl ei.size (l1++l2) (some z'))::E.us,E.cs⟩ Λ ((i, .tail ei.size z')::D')):WA K all m k pubs Y (i::π) E Λ D:=by
 subst hDD;subst hp;refine ⟨fun h e L Es hl r q dd=>?_⟩;obtain ⟨v1,e1,f1⟩:=r.ev (K.hgs.mono hl) _ h1;obtain ⟨v2,e2,f2⟩:=r.ev (K.hgs.mono hl) _ h2;have f1:=jC s1 f1;have hown:v1=z:=by rw [cU] at f1;obtain ⟨_,_,_,_,h3,_⟩:=f1;exact h3
 subst hown;have hEi:=dd i;rw [hD] at hEi;obtain ⟨p,hp1,p',hp2,hp3⟩:=hEi;injection hp3 with hp3;subst hp3;have hsz':0<ei.size:=by simpa [ah3] using hsz
 have hni:i∉pubs i:=fun hm=>by rw [fG.2 hm] at hpi;cases hpi
 obtain ⟨zs1,a1,a2,a3⟩:=xP f1;refine WE.append (G:=cG K.cfg all (L++K.G) pubs (YA Y) m k) hi (aT r hg) ho e1 e2 ht hdd he hsz hz1 hby hd (bQ r hc) hp1 hni (fun pk=>?_) (fun v' h' x' pk y1 y2 y3=>?_)
 ·have f2':=AZ.rp dd pk.1 pk.2 hs f2;obtain ⟨zs2,b1,b2,b3⟩:=xP f2';exact ⟨hp2,_,_,a3.mono pk.1,b3,by rw [jV a2,jV b2,a1.len,b1.len,<-ak6];exact hb⟩
 ·have f2':=AZ.rp dd pk.1 pk.2 hs f2;obtain ⟨zs2,b1,b2,b3⟩:=xP f2';obtain ⟨g4,c1,c2,g1,g2,g3⟩:=y3;have u1:=Sl.uniq g1 (a3.mono y2);have u2:=Sl.uniq g2 (b3.mono y1);subst u1;subst u2;have hcat:bH zs1++bH zs2=bH (zs1++zs2):=by simp [bH]
  rw [hcat] at g3;have hrp:Rp h' (.sl ei.size (l1++l2) (some v')) v':=XC hsz' ((a1.mono y2).append (b1.mono y1)) (fun z hz=>by
   rcases af0.1 hz with hz|hz
   ·exact a2 z hz
   ·exact b2 z hz) g3
  exact (next v').run h' ⟨(d,v')::e.us,e.cs⟩ L _ (GH.le_trans hl y2) ⟨(r.1.mono y2).put hrp,r.2.mono y2⟩ (q.mono y2) (((dd.mono y2).pub _).set ⟨x',g4,rfl⟩)
end
end Go.Tp
namespace Go.Tp
open Go Go.RowKit
theorem KM{h:GH}: ∀{l r:List AV} {i:Nat} {us:Us},fO l r->zT h (t6 i l) us->zT h (t6 i r) us
 |_,_,_,_, .refl,q=>q |_,_,i,us, .cons s t,q=>by obtain ⟨v,us',e,q1,q2⟩:=q;exact ⟨v,us',e,s.rp q1,KM t q2⟩
theorem A.frame{P:Program}{S:TT}{w0:World}{f:FuncId}{fn:Func}{n:Nat}{ok:S.Ok P}{hfn:P.funcs[f]? =some fn}{h0:GH}{F:List a6}{gs:Ua}{hgs:jP h0 gs}{Q:AV->List aF->Prop}{rd:Option Nat}{k:List It}{E:aH}{Λ1 Λ2:List aF}
 (Q1:AV->List aF->Prop) (hq: ∀y Λ',Q1 y Λ'->Q y (Λ'++Λ2))
 (hv: ∀(h1:GH) (hg1:jP h1 gs) (F1:List a6),h0.le h1->A ⟨P,S,w0,f,fn,n,ok,hfn,h1,F1,gs,hg1,Q1,[],rd⟩ k E Λ1):A ⟨P,S,w0,f,fn,n,ok,hfn,h0,F,gs,hgs,Q,[],rd⟩ k E (Λ1++Λ2):=by
 refine ⟨fun h e L hl r q=>?_⟩;obtain ⟨L1,L2,rfl,q1,q2⟩:=q.split;have:=(hv h (hgs.mono hl) (L2++F) hl).run h e L1 (GH.le_refl _) r q1;have e1:L1++L2++(pC []++F)=L1++(pC []++(L2++F)):=by simp [pC]
 show V _ k e h (L1++L2++(pC []++F));rw [e1];refine V.post (fun v h' L' hR=>?_) this;obtain ⟨x,Λ',La,c1,c2,c3,c4,c5⟩:=hR;refine ⟨x,Λ'++Λ2,La++L2,hq _ _ c1,c2,GH.le_trans hl c3,c4.append (q2.mono c3),?_⟩;rw [ab7];exact c5
theorem A.jd{P:Program}{S:TT}{w0:World}{f:FuncId}{fn:Func}{n:Nat}{ok:S.Ok P}{hfn:P.funcs[f]? =some fn}{F:List a6}{gs:Ua}{Q:AV->List aF->Prop}{rd:Option Nat}{k:List It}{c:Code}{ι:Type}
 (I:ι->aH×List aF) (Pr:ι->Prop) (μ:ι->Nat) {h0:GH} {hgs:jP h0 gs} {D:List Nat} {E:aH} {Λ:List aF} (i:ι) (hp:Pr i) (he:I i=(E,Λ))
 (round: ∀(h1:GH) (hg1:jP h1 gs) (D1:List Nat) (i:ι),h0.le h1->Pr i->
   (∀(h2:GH) (hg2:jP h2 gs) (D2:List Nat) (j:ι),h1.le h2->Pr j->μ j<μ i->A ⟨P,S,w0,f,fn,n,ok,hfn,h2,F,gs,hg2,Q,D2,rd⟩ (.inLoop c::k) (I j).1 (I j).2)->
   A ⟨P,S,w0,f,fn,n,ok,hfn,h1,F,gs,hg1,Q,D1,rd⟩ (.code c:: .inLoop c::k) (I i).1 (I i).2):
 A ⟨P,S,w0,f,fn,n,ok,hfn,h0,F,gs,hgs,Q,D,rd⟩ (.code (.loop c)::k) E Λ:=by
 have key: ∀m (h1:GH) (hg1:jP h1 gs) (D1:List Nat) (i:ι),h0.le h1->Pr i->μ i=m->A ⟨P,S,w0,f,fn,n,ok,hfn,h1,F,gs,hg1,Q,D1,rd⟩ (.code c:: .inLoop c::k) (I i).1 (I i).2:=by
  intro m
  induction m using Nat.strongRecOn with
  |_ m ih=>
   intro h1 hg1 D1 i hl hp hm;exact round h1 hg1 D1 i hl hp fun h2 hg2 D2 j hl2 hpj hj=>A.again (ih (μ j) (by omega) h2 hg2 D2 j (GH.le_trans hl hl2) hpj T)
 have:=key (μ i) h0 hgs D i (GH.le_refl _) hp T;rw [he] at this;exact A.bh this
structure Rng(P:Program)(S:TT)(w0:World)(ok:S.Ok P)(gs:Ua)(h0:GH) where
 lp:Nat
 r0:Loop
 fn2:Func
 n2:Nat
 E2:aH
 hfn:P.funcs[r0.fn]? =some fn2
 tm:XD h0 n2 E2 r0.tmps
 hb:o7 n2 r0.params.toList=true
 Inv:Nat->List aF->Prop
 Stop:LoopState->Option Code->List aF->Prop
section
variable{P:Program}{S:TT}{w0:World}{ok:S.Ok P}{gs:Ua}{h0:GH}
def Rng.after(c:Rng P S w0 ok gs h0)(i:Nat)(y:AV)(Λ':List aF):Prop:=
 (y= .v (.bool true)/\ ∃Λ'',Λ'= .loop c.lp c.r0 .ready none::Λ''/\c.Inv (i+1) Λ'')\/(y= .v (.bool false)/\ ∃st pd Λ'',st≠ .busy/\Λ'= .loop c.lp c.r0 st pd::Λ''/\c.Stop st pd Λ'')
def Rng.round(c:Rng P S w0 ok gs h0)(i:Nat)(xs:List AV):Prop:=
 ∀(Λi:List aF) (h1:GH) (hg1:jP h1 gs) (F:List a6),c.Inv i Λi->h0.le h1->A ⟨P,S,w0,c.r0.fn,c.fn2,c.n2,ok,c.hfn,h1,F,gs,hg1,c.after i,[],some c.lp⟩ [.code c.r0.assign, .begin, .code c.r0.body] ⟨ED c.r0.params.toList xs c.E2.us,[]⟩ (.loop c.lp c.r0 .ready none::Λi)
def Iter(P:Program)(S:TT)(ok:S.Ok P)(gs:Ua)(g:FuncId)(cap:List AV)(xss:List (List AV)):Prop:=
 ∃fng cg,P.funcs[g]? =some fng/\fng.body=some cg/\(fng.name== "runtime.NumGoroutine")=false/\fng.results= #[]/\Nat.ble (pG (.v (.func (.yield 0) #[] #[])::cap)) fng.ntmps=true/\
  ∀(w0:World) (h0:GH) (c:Rng P S w0 ok gs h0) (hfn:P.funcs[g]? =some fng) (h1:GH) (hg1:jP h1 gs) (F:List a6) (Q:AV->List aF->Prop) (Λ0:List aF),h0.le h1->c.Inv 0 Λ0->
   (∀xs,xs∈xss->Nat.beq (pG xs) c.r0.params.toList.length=true)->(∀i xs,xss[i]? =some xs->c.round i xs)->
   (∀Λ',c.Inv xss.length Λ'->Q (.tp []) (.loop c.lp c.r0 .ready none::Λ'))->(∀st pd Λ',st≠ .busy->c.Stop st pd Λ'->Q (.tp []) (.loop c.lp c.r0 st pd::Λ'))->
   A ⟨P,S,w0,g,fng,fng.ntmps,ok,hfn,h1,F,gs,hg1,Q,[],none⟩ [.code cg] ⟨t6 0 (.v (.func (.yield c.lp) #[] #[])::cap),[]⟩ (.loop c.lp c.r0 .ready none::Λ0)
end
section
variable{K:AC}{k:List It}{E:aH}{Λ:List aF}
theorem A.fo{all:Array Oper}{o:Oper}{l:List Oper}{ks:List (Nat×Bool)}{x:Operand}{args:Array Operand}{ts:Array TypeId}{vs:List AV}{d:Nat}{h0:GH}(c:Rng K.P K.S K.w0 K.ok K.gs h0){i:Nat}{xs:List AV}{Λi Λ2:List aF}
 (hg:aV E all o.guard=some ks) (ho:o.op= .call ⟨.value x,args,ts⟩) (hx:E.ev K.gs ks x=some (.v (.func (.yield c.lp) #[] #[]))) (ha:rG (E.ev K.gs ks) args.toList=some vs)
 (hd:o.dst=some d) (hc:bZ K.n E d=true) (hlen:Nat.beq (pG xs) c.r0.params.toList.length=true) (hs:fO vs xs) (hl0:h0.le K.h0) (hp:Λ.Perm ((.loop c.lp c.r0 .ready none::Λi)++Λ2)) (hi:c.Inv i Λi) (hr:c.round i xs)
 (yes: ∀Λ'',c.Inv (i+1) Λ''->A K (.ops all l::k) ⟨(d, .v (.bool true))::E.us,E.cs⟩ ((.loop c.lp c.r0 .ready none::Λ'')++Λ2))
 (no: ∀st pd Λ'',st≠ .busy->c.Stop st pd Λ''->A K (.ops all l::k) ⟨(d, .v (.bool false))::E.us,E.cs⟩ ((.loop c.lp c.r0 st pd::Λ'')++Λ2)):A K (.ops all (o::l)::k) E Λ:=by
 refine A.perm hp ⟨fun h e L hl r q=>?_⟩;obtain ⟨v1,e1,f1⟩:=r.ev (K.hgs.mono hl) _ hx;rw [bE] at f1;obtain ⟨rfl,_⟩:=f1;obtain ⟨us,e2,f4⟩:=mS (σ:=e.ev ks) (fun z x hz=>r.ev (K.hgs.mono hl) ks hz) ha;have f4:=hs.rp f4;obtain ⟨us0,t1,t2⟩:=(c.tm.mono (GH.le_trans hl0 hl)).us;have q0:=q;obtain ⟨p,L3,rfl,g3,g4⟩:=q;have g3:p=_:=g3;subst g3;have hlen':=f4.len;have hlen:=ab2 hlen;rw [i9] at hlen
 refine V.yield (C:=K.cfg) (rc:={c.r0 with state:= .ready,pending:=none}) (fn2:=c.fn2) (n2:=c.n2) (aT r hg) ho e1 e2 hd (bQ r hc) (ac9 _ (ac9 _ (aa3.2 T))) (by simpa using hlen'.trans hlen) c.hfn
  (TW c.hb c.tm.size t2) ?_
 have hA:=A.frame (P:=K.P) (S:=K.S) (w0:=K.w0) (ok:=K.ok) (hfn:=c.hfn) (h0:=h) (F:=K.G) (hgs:=K.hgs.mono hl) (Λ1:= .loop c.lp c.r0 .ready none::Λi) (Λ2:=Λ2) (rd:=some c.lp)
  (Q:=fun y Λ'=> ∃Λa,c.after i y Λa/\Λ'=Λa++Λ2) (c.after i) (fun y Λ' hy=>⟨Λ',hy,rfl⟩) (fun h1 hg1 F1 hl1=>hr Λi h1 hg1 F1 hi (GH.le_trans hl0 (GH.le_trans hl hl1)))
 refine V.post (fun v h' L' hR=>?_) (hA.run h ⟨AU c.r0.params.toList us us0,[]⟩ _ (GH.le_refl _) ⟨TX f4 t1,rfl⟩ q0);obtain ⟨y,Λ1,L4,⟨Λa,c1,rfl⟩,c2,c3,c4,c5⟩:=hR;have hnext:A K (.ops all l::k) ⟨(d,y)::E.us,E.cs⟩ (Λa++Λ2):=by
  rcases c1 with ⟨rfl,Λ'',rfl,c6⟩|⟨rfl,st,pd,Λ'',c6,rfl,c7⟩
  ·exact yes _ c6
  ·exact no _ _ _ c6 c7
 exact V.less c5 (hnext.run h' ⟨(d,v)::e.us,e.cs⟩ L4 (GH.le_trans hl c3) ⟨(r.1.mono c3).put c2,r.2.mono c3⟩ c4)
theorem A.eu{x:Operand}{ps:Array Tmp}{assign body:Code}{g:FuncId}{cap cap':List AV}{xss:List (List AV)}(hx:E.ev K.gs [] x=some (.fn g [] cap'))(hs:fO cap' cap)(it:Iter K.P K.S K.ok K.gs g cap xss)(hrd:K.rd=none)
 (hb:o7 K.n ps.toList=true) (hlen: ∀xs,xs∈xss->Nat.beq (pG xs) ps.toList.length=true) (Inv:Nat->List aF->Prop) (Stop:LoopState->Option Code->List aF->Prop) (h0:Inv 0 Λ)
 (rounds: ∀(h0':GH) (lp:Nat) (tm:Array Value),K.h0.le h0'-> ∀i xs Λi (h1:GH) (hg1:jP h1 K.gs) (F:List a6),xss[i]? =some xs->Inv i Λi->h0'.le h1->
   A ⟨K.P,K.S,K.w0,K.f,K.fn,K.n,K.ok,K.hfn,h1,F,K.gs,hg1,fun y Λ'=>
       (y= .v (.bool true)/\ ∃Λ'',Λ'= .loop lp ⟨.ready,none,K.f,tm,ps,assign,body,lp-1⟩ .ready none::Λ''/\Inv (i+1) Λ'')\/(y= .v (.bool false)/\ ∃st pd Λ'',st≠ .busy/\Λ'= .loop lp ⟨.ready,none,K.f,tm,ps,assign,body,lp-1⟩ st pd::Λ''/\Stop st pd Λ''),[],some lp⟩
     [.code assign, .begin, .code body] ⟨ED ps.toList xs E.us,[]⟩ (.loop lp ⟨.ready,none,K.f,tm,ps,assign,body,lp-1⟩ .ready none::Λi))
 (fin: ∀(h1:GH) (hg1:jP h1 K.gs) (r:Nat) Λ',K.h0.le h1->Inv xss.length Λ'->A ⟨K.P,K.S,K.w0,K.f,K.fn,K.n,K.ok,K.hfn,h1,K.F,K.gs,hg1,K.Q,r::K.D,none⟩ k E Λ')
 (stop: ∀(h1:GH) (hg1:jP h1 K.gs) (r:Nat) st pd Λ',K.h0.le h1->st≠ .busy->Stop st pd Λ'->A ⟨K.P,K.S,K.w0,K.f,K.fn,K.n,K.ok,K.hfn,h1,K.F,K.gs,hg1,K.Q,r::K.D,none⟩ (oA pd++k) E Λ'):
 A K (.code (.rangeFunc x ps assign body)::k) E Λ:=by
 obtain ⟨fng,cg,i1,i2,i3,i4,i5,it⟩:=it;have hl:cap'.length=cap.length:=hs.len;refine A.rangeFunc (fst:=[]) (cap:=cap') hx i1 i2 i3 (by rw [i9] at i5⊢;simpa [hl] using i5) hrd fun h1 hg1 r tm hl1 htm=>?_
 have key:=it K.w0 h1 ⟨r+1,⟨.ready,none,K.f,tm,ps,assign,body,r⟩,K.fn,K.n,E,K.hfn,htm,hb,Inv,Stop⟩ i1 h1 hg1 (⟨r,0,[],some (.deferred (some []))⟩::K.G)
  (QK ⟨K.P,K.S,K.w0,K.f,K.fn,K.n,K.ok,K.hfn,h1,K.F,K.gs,hg1,K.Q,r::K.D,none⟩ E k (r+1) ⟨.ready,none,K.f,tm,ps,assign,body,r⟩) Λ (GH.le_refl _) h0 hlen
  (fun i xs hxs Λi h2 hg2 F hi hl2=>rounds h1 (r+1) tm hl1 i xs Λi h2 hg2 F hxs hi hl2)
  (fun Λ' hi=>⟨.ready,none,Λ',(fun e=>by cases e), .refl _,fin h1 hg1 r Λ' hl1 hi⟩)
  (fun st pd Λ' hst hs=>⟨st,pd,Λ',hst, .refl _,stop h1 hg1 r st pd Λ' hl1 hst hs⟩)
 refine ⟨fun h e L hh rr q=>?_⟩;refine key.run h e L hh ?_ q;exact ⟨KM (.cons .refl hs) rr.1,rr.2⟩
end
def Rng.shift{P:Program}{S:TT}{w0:World}{ok:S.Ok P}{gs:Ua}{h0:GH}(c:Rng P S w0 ok gs h0)(b:Nat):Rng P S w0 ok gs h0:={c with Inv:=fun i Λ=>c.Inv (b+i) Λ}
section
variable{K:AC}{k:List It}{E:aH}{Λ:List aF}
theorem A.fp{all:Array Oper}{o:Oper}{l:List Oper}{ks:List (Nat×Bool)}{x:Operand}{args:Array Operand}{ts:Array TypeId}{g:FuncId}{cap cap':List AV}{xss:List (List AV)}{d:Nat}{h0:GH}(c:Rng K.P K.S K.w0 K.ok K.gs h0)(b:Nat){Λi Λ2:List aF}
 (hg:aV E all o.guard=some ks) (ho:o.op= .call ⟨.value x,args,ts⟩) (hx:E.ev K.gs ks x=some (.fn g [] cap')) (ha:rG (E.ev K.gs ks) args.toList=some [.v (.func (.yield c.lp) #[] #[])])
 (hd:o.dst=some d) (hc:bZ K.n E d=true) (it:Iter K.P K.S K.ok K.gs g cap xss) (hs:fO cap' cap) (hl0:h0.le K.h0) (hp:Λ.Perm ((.loop c.lp c.r0 .ready none::Λi)++Λ2)) (hi:c.Inv b Λi)
 (hlen: ∀xs,xs∈xss->Nat.beq (pG xs) c.r0.params.toList.length=true) (hr: ∀i xs,xss[i]? =some xs->c.round (b+i) xs)
 (yes: ∀Λ'',c.Inv (b+xss.length) Λ''->A K (.ops all l::k) ⟨(d, .tp [])::E.us,E.cs⟩ ((.loop c.lp c.r0 .ready none::Λ'')++Λ2))
 (no: ∀st pd Λ'',st≠ .busy->c.Stop st pd Λ''->A K (.ops all l::k) ⟨(d, .tp [])::E.us,E.cs⟩ ((.loop c.lp c.r0 st pd::Λ'')++Λ2)):A K (.ops all (o::l)::k) E Λ:=by
 refine A.perm hp ⟨fun h e L hl r q=>?_⟩;obtain ⟨v1,e1,f1⟩:=r.ev (K.hgs.mono hl) _ hx;rw [q8] at f1;obtain ⟨u,w,rfl,f2,f3⟩:=f1;obtain ⟨us,e2,f4⟩:=mS (σ:=e.ev ks) (fun z x hz=>r.ev (K.hgs.mono hl) ks hz) ha;obtain ⟨fng,cg,i1,i2,i3,i4,i5,it⟩:=it;obtain ⟨L1,L2,rfl,q3,q4⟩:=q.split;rw [ab7]
 have hA:=it K.w0 h0 (c.shift b) i1 h (K.hgs.mono hl) (L2++K.G)
  (fun y Λ'=>y= .tp []/\((∃Λ'',Λ'= .loop c.lp c.r0 .ready none::Λ''/\c.Inv (b+xss.length) Λ'')\/ ∃st pd Λ'',st≠ .busy/\Λ'= .loop c.lp c.r0 st pd::Λ''/\c.Stop st pd Λ'')) Λi (GH.le_trans hl0 hl) hi hlen hr
  (fun Λ' h=>⟨rfl, .inl ⟨Λ',rfl,h⟩⟩) (fun st pd Λ' h1 h2=>⟨rfl, .inr ⟨st,pd,Λ',h1,rfl,h2⟩⟩)
 have hargs:dM h (.v (.func (.yield c.lp) #[] #[])::cap) (u++(us++w)):=by rw [aQ] at f2;subst f2;rw [aG] at f4;obtain ⟨v,vs,rfl,g1,g2⟩:=f4;rw [aQ] at g2;subst g2;exact aG.2 ⟨v,w,rfl,g1,hs.rp f3⟩
 have hV:=hA.run h ⟨rU 0 (u++(us++w)),[]⟩ L1 (GH.le_refl _) ⟨vV 0 hargs,rfl⟩ q3;have hdo:=bM.cx (C:=AC.cfg ⟨K.P,K.S,K.w0,g,fng,fng.ntmps,K.ok,i1,h,L2++K.G,K.gs,K.hgs.mono hl,_,[],none⟩) T T i2 i3 T (by rw [hargs.len,<-i9];exact i5) hV;refine V.call (C:=K.cfg) (aT r hg) ho e1 e2 hd (bQ r hc) hdo ?_;rintro v h' L' ⟨y,Λ',L3,⟨rfl,g1⟩,g2,g3,g4,g5⟩;have hl':=GH.le_trans hl g3;have hn:A K (.ops all l::k) ⟨(d, .tp [])::E.us,E.cs⟩ (Λ'++Λ2):=by
  rcases g1 with ⟨Λ'',rfl,h1⟩|⟨st,pd,Λ'',h1,rfl,h2⟩
  ·exact yes _ h1
  ·exact no _ _ _ h1 h2
 have:=hn.run h' ⟨(d,v)::e.us,e.cs⟩ (L3++L2) hl' ⟨(r.1.mono g3).put g2,r.2.mono g3⟩ (g4.append (q4.mono g3));rw [ab7] at this;exact V.less g5 this
end
theorem V.fk{C:nY}{k:List It}{e:Env}{h:GH}{L:List a6}{all:Array Oper}{o:Oper}{l:List Oper}{ks:List (Nat×Bool)}{y1 y2:Operand}{t el tn:TypeId}{ti ei tni:TI}{kk kn:IntKind}{n:Nat}{d:Nat}
 (hg:fX e all o.guard=some ks) (ho:o.op= .call ⟨.builtin .append, #[y1,y2], #[t,tn]⟩) (h1:e.ev ks y1=some (.slice none 0 0)) (h2:e.ev ks y2=some (.int kk n))
 (ht:C.S.get t=some ti) (hd:ti.d= .slice el) (he:C.S.get el=some ei) (htn:C.S.get tn=some tni) (hdn:tni.d= .int kn) (hsz:Nat.blt 0 ei.size=true) (hz1:aP ei.zero=true) (hby:Nat.ble ei.bytes 4096=true)
 (hdst:o.dst=some d) (hc:eY C.n e d=true) (h0:0<n) (hb:n<=1073741824)
 (next: ∀b cap h' x',h.le h'->n<=cap->Tl ei.size (.slice (some ⟨b,0,none⟩) 0 cap) x'->V C (.ops all l::k) ⟨(d, .slice (some ⟨b,0,none⟩) n cap)::e.us,e.cs⟩ h' (x'::L)):V C (.ops all (o::l)::k) e h L:=
 V.empty (V.gives hg hdst hc fun a w g s hk=>by
  have ok:=TT.Ok.get C.ok ht;have oke:=TT.Ok.get C.ok he;have okn:=TT.Ok.get C.ok htn;obtain ⟨xi,zv,hxi,hxs,hxb,hxz,hzl⟩:=oke.info;have hund:C.P.underlying t=some (.slice el):=by rw [ok.und,hd]
  have hundn:C.P.underlying tn=some (.int kn):=by rw [okn.und,hdn]
  have hsz':0<ei.size:=by simpa [ah3] using hsz
  have hby':ei.bytes<=4096:=af7 hby
  have hz:Builtin.zeroCells zv.cells=fun n=>⟨(List.replicate n ei.zero).flatten⟩:=by funext n;rw [show zv.cells=⟨ei.zero⟩ from by rw [<-hzl]];refine mW _ _ ?_;intro e;have:=oke.len;rw [e] at this;simp at this;omega
  have hr:=Go.Lib.run_append_nil_zeros (P:=C.P) w t tn o.type el xi zv kk kn hund hundn hxi hxz n h0 (by rw [hxs];exact hsz') (by omega) (by rw [hxb];have:n*ei.bytes<=1073741824*4096:=Nat.mul_le_mul hb hby';omega)
  have hge:=grownCap_ge w n 0 el;obtain ⟨h',x',g1,g2,g3,g4⟩:=xT (w:=w) (el:=el) (nc:=grownCap w n 0 el) (need:=0) (sz:=ei.size) (cs:=[]) s (by intro v hv;cases hv) hz1 oke.len (by simp) (ac0 _) (arr:=Builtin.zeroCells zv.cells n++Builtin.zeroCells zv.cells (grownCap w n 0 el-n)) (by rw [hz];apply ag4;simp only [Array.toList_append,ah8,am0];rw [<-List.flatten_append,List.replicate_append_replicate,show n+(grownCap w n 0 el-n)=grownCap w n 0 el by omega])
  refine ⟨_,_,h',_,?_,g4,next _ _ h' x' g1 hge g3⟩;unfold execOp;rw [ho];simp [resolve,invoke,builtin,g.ev hk h1,g.ev hk h2,hr])
section
variable{K:AC}{k:List It}{E:aH}{Λ:List aF}
theorem dM.takeN{h:GH}: ∀{l:List AV} {vs:List Value} (n:Nat),dM h l vs->dM h (l.take n) (vs.take n)
 | [],_,n,r=>by rw [aQ] at r;subst r;simp [aQ] |x::l,_,0,r=>by simp [aQ]
 |x::l,_,n+1,r=>by rw [aG] at r;obtain ⟨v,vs',rfl,r1,r2⟩:=r;rw [ar2,ar2,aG];exact ⟨v,_,rfl,r1,dM.takeN n r2⟩
theorem dM.dy{h:GH}: ∀{l:List AV} {vs:List Value} (n:Nat),dM h l vs->dM h (l.drop n) (vs.drop n)
 | [],_,n,r=>by rw [aQ] at r;subst r;simp [aQ] |x::l,_,0,r=>r
 |x::l,_,n+1,r=>by rw [aG] at r;obtain ⟨v,vs',rfl,r1,r2⟩:=r;exact dM.dy n r2
theorem tT.takeN{h:GH}{sz:Nat}{l:List AV}{zs:List Value}(n:Nat)(r:tT h sz l zs):tT h sz (l.take n) (zs.take n):=⟨r.rp.takeN n,fun z hz=>r.sz z (an6 hz),fun z hz=>r.one z (an6 hz)⟩
theorem tT.dy{h:GH}{sz:Nat}{l:List AV}{zs:List Value}(n:Nat)(r:tT h sz l zs):tT h sz (l.drop n) (zs.drop n):=⟨r.rp.dy n,fun z hz=>r.sz z (aq6 hz),fun z hz=>r.one z (aq6 hz)⟩
theorem tT.app{h:GH}{sz:Nat}{l l':List AV}{zs zs':List Value}(r:tT h sz l zs)(r':tT h sz l' zs'):tT h sz (l++l') (zs++zs'):=⟨r.rp.append r'.rp,fun z hz=>by
 rcases af0.1 hz with hz|hz
 ·exact r.sz z hz
 ·exact r'.sz z hz,fun z hz=>by
 rcases af0.1 hz with hz|hz
 ·exact r.one z hz
 ·exact r'.one z hz⟩
theorem iS(a b:List Value):bH (a++b)=bH a++bH b:=by simp [bH]
theorem updL_mid{A M C us:List Value}(h:us.length=M.length):cS (A++(M++C)) A.length us=some (A++(us++C)):=by have:=xY us A (M++C) 0 (tQ M us C h);simpa using this
theorem tT.fl{h:GH}{sz:Nat}{l:List AV}{zs:List Value}(r:tT h sz l zs):(bH zs).length=l.length*sz:=by rw [jV r.sz,r.rp.len]
theorem tT.copy{h:GH}{sz:Nat}{l:List AV}{zs sp:List Value}{i j n:Nat}(r:tT h sz l zs)(hi:i+n<=l.length)(hj:j+n<=l.length):
 ∃zs',tT h sz (l.take i++((l.drop j).take n++l.drop (i+n))) zs'/\cS (bH zs++sp) (i*sz) (((bH zs++sp).drop (j*sz)).take (n*sz))=some (bH zs'++sp)/\(i+n)*sz<=(bH zs++sp).length/\(j+n)*sz<=(bH zs++sp).length:=by
 have h1:zs=zs.take i++((zs.drop i).take n++zs.drop (i+n)):=by rw [<-at3,ae7,ae7]
 have h2:zs=zs.take j++((zs.drop j).take n++zs.drop (j+n)):=by rw [<-at3,ae7,ae7]
 have d1:bH zs=bH (zs.take i)++(bH ((zs.drop i).take n)++bH (zs.drop (i+n))):=by rw [<-iS,<-iS,<-h1]
 have d2:bH zs=bH (zs.take j)++(bH ((zs.drop j).take n)++bH (zs.drop (j+n))):=by rw [<-iS,<-iS,<-h2]
 have c1:=(r.takeN i).fl;have c2:=((r.dy i).takeN n).fl;have c3:=(r.takeN j).fl;have c4:=((r.dy j).takeN n).fl;have c5:=r.fl;rw [ac3] at c1 c2 c3 c4;rw [ai0] at c2 c4;rw [show min i l.length=i by omega] at c1;rw [show min j l.length=j by omega] at c3;rw [show min n (l.length-i)=n by omega] at c2;rw [show min n (l.length-j)=n by omega] at c4;refine ⟨zs.take i++((zs.drop j).take n++zs.drop (i+n)),(r.takeN i).app (((r.dy j).takeN n).app (r.dy (i+n))),?_,?_,?_⟩
 ·have e1:((bH zs++sp).drop (j*sz)).take (n*sz)=bH ((zs.drop j).take n):=by
   rw [d2,ab7,List.drop_append,c3,List.drop_eq_nil_of_le (by omega),ah9,ah8,al7,ab7,List.take_append,c4,List.take_of_length_le (by omega),ah9,an1,List.append_nil]
  rw [e1];rw [d1,ab7,ab7,<-c1,updL_mid (by rw [c2,c4]),iS,iS,ab7,ab7]
 ·rw [aa7,c5];have:=af5 sz hi;omega
 ·rw [aa7,c5];have:=af5 sz hj;omega
theorem A.cap{all:Array Oper}{o:Oper}{l:List Oper}{ks:List (Nat×Bool)}{x:Operand}{t el:TypeId}{ti:TI}{a:Option Addr}{n c:Nat}{E':aH}
 (hg:aV E all o.guard=some ks) (ho:o.op= .call ⟨.builtin .cap, #[x], #[t]⟩) (hx:E.ev K.gs ks x=some (.v (.slice a n c))) (ht:K.S.get t=some ti) (hd:ti.d= .slice el) (hput:E.put K.n none o.dst (.v (.int .i64 (c:Nat)))=some E')
 (next:A K (.ops all l::k) E' Λ):A K (.ops all (o::l)::k) E Λ:=by
 refine A.bg hg (fun h e L hl r q=>?_) hput next
 obtain ⟨v1,e1,f1⟩:=r.ev (K.hgs.mono hl) _ hx;rw [bE] at f1;rw [f1.1] at e1;refine ⟨_,bE.2 ⟨rfl,rfl⟩,fun ac w g s hk=>?_⟩;have hund:K.P.underlying t=some (.slice el):=by rw [(TT.Ok.get K.ok ht).und,hd]
 unfold execOp;rw [ho];simp [resolve,invoke,builtin,Builtin.cap_,g.ev hk e1,Go.run_underlying hund,goInt]
theorem A.km(t:Nat){z:Value}{sz n:Nat}(hx:bJ E.us t=some (.ms z sz n))(hz:iJ z=true)(next:A K k ⟨(t, .v z)::E.us,E.cs⟩ Λ):A K k E Λ:=by
 refine ⟨fun h e L hl r q=>?_⟩;rcases r.1.look t with ⟨y,v,e1,e2,e3⟩|⟨e1,e2⟩
 ·rw [hx] at e1;injection e1 with e1;subst e1;rw [kN] at e3;obtain ⟨e4,_⟩:=e3;subst e4;exact V.val t e2 T (next.run _ ⟨(t,_)::e.us,e.cs⟩ L hl ⟨r.1.put (bE.2 ⟨rfl,hz⟩),r.2⟩ q)
 ·rw [hx] at e1;cases e1
theorem A.ko(t sz:Nat){a:Option Addr}{n c:Nat}(hx:bJ E.us t=some (.v (.slice a n c)))(next:A K k ⟨(t, .ms (.slice a n c) sz n)::E.us,E.cs⟩ Λ):A K k E Λ:=by
 refine ⟨fun h e L hl r q=>?_⟩;rcases r.1.look t with ⟨y,v,e1,e2,e3⟩|⟨e1,e2⟩
 ·rw [hx] at e1;injection e1 with e1;subst e1;rw [bE] at e3;obtain ⟨e4,_⟩:=e3;subst e4;exact V.val t e2 T (next.run _ ⟨(t,_)::e.us,e.cs⟩ L hl ⟨r.1.put (kN.2 ⟨rfl,a,c,rfl⟩),r.2⟩ q)
 ·rw [hx] at e1;cases e1
theorem A.fm{a:Option Addr}{n c sz:Nat}{l:List AV} [i:ARow Λ (.slice a n c) sz l](hl0:l≠[])(next: ∀b o,a=some ⟨b,o,none⟩->A K k E Λ):A K k E Λ:=by
 refine ⟨fun h e L hl r q=>?_⟩;obtain ⟨Λ1,Λ2,rfl⟩:=List.append_of_mem i.mem;obtain ⟨L',q1,q2⟩:=q.perm (ae8 (a:=aF.row sz (.slice a n c) l) (l₁:=Λ1) (l₂:=Λ2));obtain ⟨M,L2,rfl,⟨p,q3,rfl⟩,q4⟩:=q1;obtain ⟨a',cap,zs,e,g2,g3,g4,g5⟩:=q3;injection e with e1 e2 e3;subst e1;rcases g5 with ⟨g5,_⟩|⟨b,o,sp,e4,_⟩
 ·exact (hl0 g5).elim
 ·exact (next b o e4).run h e L hl r q
theorem A.iu{all:Array Oper}{o:Oper}{l:List Oper}{ks:List (Nat×Bool)}{y1 y2:Operand}{t t2 el:TypeId}{ti ei:TI}{x2:AV}{z:Value}{sz' n:Nat}{l1 l2:List AV}{own2:Option Value}{d sz:Nat}{Λ':List aF}
 (hg:aV E all o.guard=some ks) (ho:o.op= .call ⟨.builtin .copy, #[y1,y2], #[t,t2]⟩) (h1:E.ev K.gs ks y1=some (.ms z sz' n)) (h2:E.ev K.gs ks y2=some x2)
 (ht:K.S.get t=some ti) (hdd:ti.d= .slice el) (he:K.S.get el=some ei) (s2:nX ei.size x2=some (l2,own2)) [i:ARow Λ z sz l1] [j:AOut Λ (.row sz z l1) Λ'] (hse:Nat.beq ei.size sz=true)
 (hsz:Nat.blt 0 ei.size=true) (hd:o.dst=some d) (hc:bZ K.n E d=true) (hl0:l1≠[]) (hle:l2.length<=l1.length)
 (next:A K (.ops all l::k) ⟨(d, .v (.int .i64 (l2.length:Nat)))::E.us,E.cs⟩ (.row sz z (l2++l1.drop l2.length)::Λ')):A K (.ops all (o::l)::k) E Λ:=by
 have hse:=ab2 hse;subst hse;refine A.perm j.perm ⟨fun h e L hl r q=>?_⟩;obtain ⟨v1,e1,f1⟩:=r.ev (K.hgs.mono hl) _ h1;obtain ⟨v2,e2,f2⟩:=r.ev (K.hgs.mono hl) _ h2;have f2:=jC s2 f2;obtain ⟨zs2,b1,b2,b3⟩:=xP f2;rw [kN] at f1;obtain ⟨rfl,_⟩:=f1;obtain ⟨M,L2,rfl,⟨p,q3,rfl⟩,q4⟩:=q;obtain ⟨a,cap,zs,rfl,g2,g3,g4,g5⟩:=q3;have hsz':0<ei.size:=by simpa [ah3] using hsz
 rcases g5 with ⟨g5,_⟩|⟨b,o',sp,rfl,rfl,g6⟩
 ·exact (hl0 g5).elim
 refine V.gives (C:=K.cfg) (aT r hg) hd (bQ r hc) fun ac w g s hk=>?_;have one:=Sl.one s hsz' b3;have els2:tT h ei.size l2 zs2:=⟨b1,b2,fun z hz=>mX fun u hu=>one u (List.mem_flatMap.2 ⟨z,hz,hu⟩)⟩;obtain ⟨n',i1,i2,i3⟩:=EB (P:=K.P) s.imm b3 hsz';have hn':n'=l2.length:=by rw [els2.fl] at i2;exact (Nat.eq_of_mul_eq_mul_right hsz' i2).symm
 subst hn';have hmin:Nat.min l2.length l1.length=l2.length:=Nat.min_eq_left hle;have hzs:zs=zs.take l2.length++zs.drop l2.length:=(ae7 _ _).symm;have c1:=(g3.takeN l2.length).fl;rw [ac3,show min l2.length l1.length=l2.length from hmin] at c1;have hr:cS (bH zs++sp) 0 (bH zs2)=some (bH (zs2++zs.drop l2.length)++sp):=by
  conv=>lhs;rw [hzs]
  rw [iS,ab7,tQ _ _ _ (by rw [c1,els2.fl]),iS,ab7]
 obtain ⟨w',r1,r2⟩:=NL (P:=K.P) (ty:=o.type) (t2:=t2) (c1:=cap) (n1:=l1.length) K.ok ht hdd he s (k:=0) rfl i1 (by rw [hmin];exact i3) one hr;refine ⟨_,w',h,_,?_,r2,next.run h _ (_::L2) hl ⟨r.1.put (bE.2 ⟨rfl,rfl⟩),r.2⟩ (.one ⟨_,⟨some ⟨b,o',none⟩,cap,zs2++zs.drop l2.length,?_,?_,els2.app (g3.dy _),rfl, .inr ⟨b,o',sp,rfl,rfl,?_⟩⟩,rfl⟩ q4)⟩
 ·unfold execOp;rw [ho];rw [hmin] at r1;have r1':aq2 K.cfg.P (Builtin.copy_ #[t,t2] o.type #[Value.slice (some ⟨b,o',none⟩) l1.length cap,v2]) w=Result.ok (Value.int IntKind.i64 l2.length) w':=r1;simp [resolve,invoke,builtin,g.ev hk e1,g.ev hk e2,r1']
 ·rw [aa7,ai0,show l2.length+(l1.length-l2.length)=l1.length by omega]
 ·rw [aa7,ai0];omega
 ·rw [aa7,ai0,show l2.length+(l1.length-l2.length)=l1.length by omega];exact g6
theorem A.fk{all:Array Oper}{o:Oper}{l:List Oper}{ks:List (Nat×Bool)}{y1 y2:Operand}{t el tn:TypeId}{ti ei tni:TI}{kk kn:IntKind}{n:Nat}{d:Nat}
 (hg:aV E all o.guard=some ks) (ho:o.op= .call ⟨.builtin .append, #[y1,y2], #[t,tn]⟩) (h1:E.ev K.gs ks y1=some (.v (.slice none 0 0))) (h2:E.ev K.gs ks y2=some (.v (.int kk n)))
 (ht:K.S.get t=some ti) (hd:ti.d= .slice el) (he:K.S.get el=some ei) (htn:K.S.get tn=some tni) (hdn:tni.d= .int kn) (hsz:Nat.blt 0 ei.size=true) (hz1:aP ei.zero=true) (hby:Nat.ble ei.bytes 4096=true)
 (hdst:o.dst=some d) (hc:bZ K.n E d=true) (h0:0<n) (hb:n<=1073741824)
 (next: ∀b cap,n<=cap->A K (.ops all l::k) ⟨(d, .v (.slice (some ⟨b,0,none⟩) n cap))::E.us,E.cs⟩ (.tail ei.size (.slice (some ⟨b,0,none⟩) 0 cap)::Λ)):A K (.ops all (o::l)::k) E Λ:=by
 refine ⟨fun h e L hl r q=>?_⟩;obtain ⟨v1,e1,f1⟩:=r.ev (K.hgs.mono hl) _ h1;obtain ⟨v2,e2,f2⟩:=r.ev (K.hgs.mono hl) _ h2;rw [bE] at f1 f2;rw [f1.1] at e1;rw [f2.1] at e2;refine V.fk (C:=K.cfg) (aT r hg) ho e1 e2 ht hd he htn hdn hsz hz1 hby hdst (bQ r hc) h0 hb fun b cap h' x' g1 g2 g3=>?_;exact (next b cap g2).run h' ⟨_::e.us,e.cs⟩ (x'::L) (GH.le_trans hl g1) ⟨(r.1.mono g1).put (bE.2 ⟨rfl,rfl⟩),r.2.mono g1⟩ (.one ⟨x',g3,rfl⟩ (q.mono g1))
theorem A.ff{all:Array Oper}{o:Oper}{l':List Oper}{ks:List (Nat×Bool)}{t el:TypeId}{ti ei:TI}{x:Operand}{lo hi:Option Operand}{a0:Option Addr}{len c:Nat}{l n:Int}{E':aH}{y:Value}
 (hg:aV E all o.guard=some ks) (ho:o.op= .slice t x lo hi none) (hx:E.ev K.gs ks x=some (.v (.slice a0 len c))) (ht:K.S.get t=some ti) (hdd:ti.d= .slice el) (he:K.S.get el=some ei)
 (hlo:jU (E.ev K.gs ks) 0 lo=some l) (hhi:jU (E.ev K.gs ks) len hi=some n) (h0:0<=l) (h1:l<=n) (h2:n<=c) (h3:hi=none->len<=c) (hy:DT ei.size l.toNat n.toNat (.slice a0 len c)=y) (hput:E.put K.n none o.dst (.v y)=some E')
 (next:A K (.ops all l'::k) E' Λ):A K (.ops all (o::l')::k) E Λ:=by
 subst hy;refine A.bg hg (fun h e L hl r q=>?_) hput next
 obtain ⟨y,f1,f2⟩:=EH (K:=K) ho hx ht hdd he hlo hhi h0 h1 h2 h3 hl r;exact ⟨y,f1,fun a w g s hk=>f2 a w g hk⟩
theorem A.il(t sz:Nat){a:Option Addr}{c:Nat}(hx:bJ E.us t=some (.v (.slice a 0 c)))(next:A K k ⟨(t, .sl sz [] (some (.slice a 0 c)))::E.us,E.cs⟩ Λ):A K k E Λ:=by
 refine ⟨fun h e L hl r q=>?_⟩;rcases r.1.look t with ⟨y,v,e1,e2,e3⟩|⟨e1,e2⟩
 ·rw [hx] at e1;injection e1 with e1;subst e1;rw [bE] at e3;have e4:=e3.1;subst e4;exact V.val t e2 T (next.run _ ⟨(t,_)::e.us,e.cs⟩ L hl ⟨r.1.put (cU.2 ⟨a,c,rfl,ac0 _,rfl,fun hn=>(hn T).elim⟩),r.2⟩ q)
 ·rw [hx] at e1;cases e1
end
section
variable{K:AC}{all:Array Oper}{m:Nat}{k:List It}{pubs:Nat->List Nat}{Y:Ua}{π:List Nat}{E:aH}{Λ:List aF}{D:Da}
theorem A.jq{id:Nat}(j sz:Nat)(z:Value){xs:List AV}{Λ':List aF}(m:Nat)(π:List Nat)(pubs:Nat->List Nat)(Y:Ua) [i:ARow Λ z sz xs] [o:AOut Λ (.row sz z xs) Λ'](hj:j<EZ all.toList)(hm:K.P.follows .mixedOrders=true)(hok:lL all m π pubs=true)
 (hv:WA K all m k pubs Y π E Λ' [(j, .row sz z xs)]):A K (.code (.region id all true)::k) E Λ:=
 ⟨fun h e L hl r q=>by obtain ⟨L',q1,q2⟩:=q.perm o.perm;obtain ⟨M,L2,rfl,⟨p,q3,rfl⟩,q4⟩:=q1;refine V.perm (q2.append_right _) (V.dx (C:=K.cfg) j m π pubs (YA Y) (by rw [wT] at hj;simpa using hj) hm hok (hv.run h e L2 _ hl r q4 ?_));exact KF.set (D:=[]) (Es:=aE.none) (fun i=>rfl) ⟨p,q3,rfl⟩⟩
theorem WA.copy{i:Nat}{o:Oper}{ks:List (Nat×Bool)}{y1 y2:Operand}{t t2 el:TypeId}{ti ei:TI}{b o0 o1 n1 c1 o2 n2 c2 len cap sz:Nat}{l l':List AV}{d:Nat}{ps:List Nat}{D':Da}(i1 i2 n:Nat)(hi:bU all.toList i=some o)
 (hg:aV E all o.guard=some ks) (ho:o.op= .call ⟨.builtin .copy, #[y1,y2], #[t,t2]⟩) (h1:E.ev K.gs ks y1=some (.v (.slice (some ⟨b,o1,none⟩) n1 c1))) (h2:E.ev K.gs ks y2=some (.v (.slice (some ⟨b,o2,none⟩) n2 c2)))
 (ht:K.S.get t=some ti) (hdd:ti.d= .slice el) (he:K.S.get el=some ei) (hD:lW D i=some (.row sz (.slice (some ⟨b,o0,none⟩) len cap) l)) (hp:pubs i=ps) (hpi:fS i ps=false) (hDD:q9 ps D=D')
 (hsz:Nat.blt 0 ei.size=true) (hz1:aP ei.zero=true) (hby:Nat.ble ei.bytes 4096=true) (hse:Nat.beq ei.size sz=true) (hd:o.dst=some d) (hc:bZ K.n E d=true)
 (ho1:o1=o0+i1*sz) (ho2:o2=o0+i2*sz) (hn:n=Nat.min n2 n1) (hb1:i1+n<=l.length) (hb2:i2+n<=l.length) (hl0:l≠[]) (hl':l.take i1++((l.drop i2).take n++l.drop (i1+n))=l')
 (next:WA K all m k pubs Y π ⟨(d, .v (.int .i64 (n:Nat)))::E.us,E.cs⟩ Λ ((i, .row sz (.slice (some ⟨b,o0,none⟩) len cap) l')::D')):WA K all m k pubs Y (i::π) E Λ D:=by
 have hse:=ab2 hse;subst hDD;subst hp;subst hse;subst hl';refine ⟨fun h e L Es hl r q dd=>?_⟩;obtain ⟨v1,e1,f1⟩:=r.ev (K.hgs.mono hl) _ h1;obtain ⟨v2,e2,f2⟩:=r.ev (K.hgs.mono hl) _ h2;rw [bE] at f1 f2;obtain ⟨f1,_⟩:=f1;obtain ⟨f2,_⟩:=f2;have hEi:=dd i;rw [hD] at hEi;obtain ⟨p,hp1,p',hp2,hp3⟩:=hEi;injection hp3 with hp3;subst hp3;obtain ⟨a,cap',zs,g1,g2,g3,g4,g5⟩:=hp2;injection g1 with ga gl gc;subst gl;subst gc;rcases g5 with ⟨g5,_⟩|⟨b',o',sp,rfl,rfl,g6⟩
 ·exact (hl0 g5).elim
 injection ga with ga;injection ga with gb go;subst gb;subst go;have hni:i∉pubs i:=fun hm=>by rw [fG.2 hm] at hpi;cases hpi
 obtain ⟨zs',k1,k2,k3,k4⟩:=g3.copy (sp:=sp) hb1 hb2;have hat: ∀{m q1 q2:Nat},CpAt v1 v2 ⟨b,o0,bH zs++sp,none⟩ m q1 q2->m=n/\q1=i1*ei.size/\q2=i2*ei.size:=fun ⟨_,p1,m1,d1,p2,m2,d2,w1,w2,w3,w4,w5⟩=>by rw [f1] at w1;rw [f2] at w2;injection w1 with w1 w6 _;injection w1 with w1;injection w1 with _ w1;injection w2 with w2 w7 _;injection w2 with w2;injection w2 with _ w2;subst w6;subst w7;simp only at w3 w4;exact ⟨by rw [w5,hn],by omega,by omega⟩
 refine WE.copy (G:=cG K.cfg all (L++K.G) pubs (YA Y) m k) hi (aT r hg) ho e1 e2 ht hdd he hsz hz1 hby hd (bQ r hc) hp1 hni (fun pk=>?_) (fun v' h' x' pk y1 y2 y3=>?_)
 ·exact ⟨n,i1*ei.size,i2*ei.size,⟨rfl,o1,n1,c1,o2,n2,c2,f1,f2,ho1,ho2,hn⟩,by rw [<-ak6];exact k3,by rw [<-ak6];exact k4⟩
 ·obtain ⟨m',q1,q2,r',a1,a2,a3,a4⟩:=y3;obtain ⟨w1,w2,w3⟩:=hat a1;subst w1;subst w2;subst w3;rw [k2] at a3;injection a3 with a3;subst a3;subst a2;subst a4;refine next.run h' ⟨(d,_)::e.us,e.cs⟩ L _ (GH.le_trans hl y2) ⟨(r.1.mono y2).put (bE.2 ⟨rfl,rfl⟩),r.2.mono y2⟩ (q.mono y2) (((dd.mono y2).pub _).set ⟨_,⟨some ⟨b,o0,none⟩,cap,zs',?_,?_,k1.mono y2,rfl, .inr ⟨b,o0,sp,rfl,rfl,?_⟩⟩,rfl⟩)
  all_goals have hlen:(l.take i1++((l.drop i2).take m'++l.drop (i1+m'))).length=l.length:=by simp only [aa7,ac3,ai0];omega
  ·rw [hlen]
  ·rw [hlen];exact g2
  ·rw [hlen];exact g6
end
end Go.Tp
