/-
  Texts Lc Ld Le Lf Lg Lh Li Lj Lk Lm Ln Lo Lz. Conditions: as each theorem says.
-/
import Derived.Test.YtkbolbpojpmicaaGreatWd2
import Derived.Laws.BytesString
import Derived.Lib.AppendZeros
import Derived.Laws.StructEq
set_option linter.unusedVariables false
set_option linter.unusedSimpArgs false
set_option maxRecDepth 100000
set_option maxHeartbeats 4000000
namespace Go.Tp
open Go Go.RowKit
section
variable{y:AEnt}{l Λ Λ':List AEnt}
instance (priority:=low) AAt.app {b:Nat} {x:AV} [i:AAt (y::(l++Λ)) b x]:AAt ((y::l)++Λ) b x:=i
instance (priority:=low) AAt.app0 {b:Nat} {x:AV} [i:AAt Λ b x]:AAt ([]++Λ) b x:=i
instance (priority:=low) AUp.app {b:Nat} {x x1:AV} [i:AUp (y::(l++Λ)) b x x1 Λ']:AUp ((y::l)++Λ) b x x1 Λ':=i
instance (priority:=low) AUp.app0 {b:Nat} {x x1:AV} [i:AUp Λ b x x1 Λ']:AUp ([]++Λ) b x x1 Λ':=i
instance (priority:=low) ATl.app {sz:Nat} {z:Value} [i:ATl (y::(l++Λ)) sz z Λ']:ATl ((y::l)++Λ) sz z Λ':=i
instance (priority:=low) ATl.app0 {sz:Nat} {z:Value} [i:ATl Λ sz z Λ']:ATl ([]++Λ) sz z Λ':=i
instance (priority:=low) ARow.app {z:Value} {sz:Nat} {r:List AV} [i:ARow (y::(l++Λ)) z sz r]:ARow ((y::l)++Λ) z sz r:=i
instance (priority:=low) ARow.app0 {z:Value} {sz:Nat} {r:List AV} [i:ARow Λ z sz r]:ARow ([]++Λ) z sz r:=i
instance (priority:=low) ARowUp.app {z:Value} {sz:Nat} {r r1:List AV} [i:ARowUp (y::(l++Λ)) z sz r r1 Λ']:ARowUp ((y::l)++Λ) z sz r r1 Λ':=i
instance (priority:=low) ARowUp.app0 {z:Value} {sz:Nat} {r r1:List AV} [i:ARowUp Λ z sz r r1 Λ']:ARowUp ([]++Λ) z sz r r1 Λ':=i
instance (priority:=low) AOut.app {x:AEnt} [i:AOut (y::(l++Λ)) x Λ']:AOut ((y::l)++Λ) x Λ':=i
instance (priority:=low) AOut.app0 {x:AEnt} [i:AOut Λ x Λ']:AOut ([]++Λ) x Λ':=i
end
mutual
inductive Fz(z:Value)(sz:Nat)(l:List AV):AV->AV->Prop
 |sub {x y:AV}:Sb x y->Fz z sz l x y
 |ms {sz' n:Nat}:Fz z sz l (.ms z sz' n) (.sl sz l none)
 |ag {x y:List AV}:FzL z sz l x y->Fz z sz l (.ag x) (.ag y)
inductive FzL(z:Value)(sz:Nat)(l:List AV):List AV->List AV->Prop
 |sub {x y:List AV}:SbL x y->FzL z sz l x y
 |cons {x y:AV} {r s:List AV}:Fz z sz l x y->FzL z sz l r s->FzL z sz l (x::r) (y::s)
end
mutual
theorem Fz.rp{h:GH}{z:Value}{sz:Nat}{l:List AV}(hz:Rp h (.sl sz l none) z): ∀{x y:AV},Fz z sz l x y-> ∀{v:Value},Rp h x v->Rp h y v
 |_,_, .sub s,_,r=>s.rp r
 |_,_, .ms,_,r=>by rw [Rp_ms] at r;rw [r.1];exact hz
 |_,_, .ag s,_,r=>by
  rw [Rp_ag] at r⊢
  obtain ⟨cs,h1,h2⟩:=r
  exact ⟨cs,h1,FzL.rp hz s h2⟩
theorem FzL.rp{h:GH}{z:Value}{sz:Nat}{l:List AV}(hz:Rp h (.sl sz l none) z): ∀{x y:List AV},FzL z sz l x y-> ∀{v:List Value},RpC h x v->RpC h y v
 |_,_, .sub s,_,r=>s.rp r
 |_,_, .cons s t,_,r=>by
  rw [RpC_cons] at r⊢
  obtain ⟨v,vs,h1,h2,h3⟩:=r
  exact ⟨v,vs,h1,Fz.rp hz s h2,FzL.rp hz t h3⟩
end
section
variable{K:AC}{k:List It}{E:AEnv}{Λ:List AEnt}
theorem A.freezeRowB{b:Nat}{z:Value}{sz:Nat}{l:List AV}{x x':AV}{Λ':List AEnt}(hp:Λ.Perm (.row sz z l:: .box b x::Λ'))(hz:Fz z sz l x x')(next:A K k E (.box b x'::Λ')):A K k E Λ:=by
 refine A.perm hp ⟨fun h e L hl r q=>?_⟩
 obtain ⟨M,L2,rfl,⟨p,q3,rfl⟩,⟨M2,L3,rfl,⟨u,q5,rfl⟩,q6⟩⟩:=q
 have ho:p.obj=none:=q3.choose_spec.choose_spec.choose_spec.2.2.2.1
 obtain ⟨pb,plo,pcs,pobj⟩:=p
 simp only at ho;subst ho
 refine V.publish fun hle=>?_
 have hrp:=q3.frozen hle
 exact next.run _ e _ (GH.le_trans hl hle) ⟨r.1.mono hle,r.2.mono hle⟩ (.one ⟨u,hz.rp hrp (q5.mono hle),rfl⟩ (q6.mono hle))
end
section
variable{K:AC}{k:List It}{E:AEnv}{Λ:List AEnt}
theorem A.freezeRowV(t:Nat)(z:Value){b:Nat}{sz:Nat}{l:List AV}{x x':AV}{Λ1 Λ':List AEnt}(hx:lookA E.us t=some (.v (.pointer (some ⟨b,0,none⟩)))) [i:ARow Λ z sz l] [j:AOut Λ (.row sz z l) Λ1] [u:AAt Λ1 b x] [v:AOut Λ1 (.box b x) Λ']
 (hz:Fz z sz l x x') (next:A K k E (.box b x'::Λ')):A K k E Λ:=A.freezeRowB (j.perm.trans (v.perm.cons _)) hz next
def allElt(ei:TI):List AV->Bool
 | []=>true
 |x::r=>match eltOk ei x with
  |true=>allElt ei r
  |false=>false
theorem allElt_one{ei:TI}: ∀{l:List AV},allElt ei l=true-> ∀(h:GH) zs,RpC h l zs-> ∀z,z∈zs->allOne (cellsL z)=true
 | [],_,h,zs,q,z,hz=>by rw [RpC_nil] at q;subst q;cases hz
 |x::r,ha,h,zs,q,z,hz=>by
  rw [RpC_cons] at q
  obtain ⟨v,vs,rfl,q1,q2⟩:=q
  simp only [allElt] at ha
  split at ha
  ·rename_i hx
   rcases List.mem_cons.1 hz with rfl|hz
   ·exact (eltOk_rp hx q1).2.1
   ·exact allElt_one ha h vs q2 z hz
  ·cases ha
theorem A.appendRowE{all:Array Oper}{o:Oper}{l:List Oper}{ks:List (Nat×Bool)}{y1 y2:Operand}{t el:TypeId}{ti ei:TI}{x2:AV}{z:Value}{sz' n:Nat}{l1 l2:List AV}{own2:Option Value}{d sz:Nat}{Λ':List AEnt}
 (hg:gyesA E all o.guard=some ks) (ho:o.op= .call ⟨.builtin .append, #[y1,y2], #[t,t]⟩) (h1:E.ev K.gs ks y1=some (.ms z sz' n)) (h2:E.ev K.gs ks y2=some x2)
 (ht:K.S.get t=some ti) (hdd:ti.d= .slice el) (he:K.S.get el=some ei) (s2:slOf ei.size x2=some (l2,own2)) [i:ARow Λ z sz l1] [j:AOut Λ (.row sz z l1) Λ'] (hse:Nat.beq ei.size sz=true)
 (hsz:Nat.blt 0 ei.size=true) (hz1:allOne ei.zero=true) (hd:o.dst=some d) (hc:okPutA K.n E d=true) (hel:allElt ei l2=true)
 (hb:(l1.length+l2.length)*ei.size<=281474976710656) (hby:(l1.length+l2.length)*ei.size*ei.bytes<=140737488355328)
 (next: ∀z',A K (.ops all l::k) ⟨(d, .ms z' sz (l1.length+l2.length))::E.us,E.cs⟩ (.row sz z' (l1++l2)::Λ')):A K (.ops all (o::l)::k) E Λ:=
 A.appendRow hg ho h1 h2 ht hdd he s2 hse hsz hz1 hd hc hb hby (allElt_one hel) next
end
section
variable{K:AC}{all:Array Oper}{m:Nat}{k:List It}{pubs:Nat->List Nat}{Y:Ua}{π:List Nat}{E:AEnv}{Λ:List AEnt}{D:Da}
theorem WA.indexRow{i0:Nat}{o:Oper}{ks:List (Nat×Bool)}{t el:TypeId}{ti ei:TI}{x ix:Operand}{z:Value}{sz sz' n:Nat}{xs:List AV}{kk:IntKind}{i:Int}{E':AEnv}(hi0:nthL all.toList i0=some o)
 (hg:gyesA E all o.guard=some ks) (ho:o.op= .indexAddr t x ix) (hx:E.ev K.gs ks x=some (.ms z sz' n)) (hi:E.ev K.gs ks ix=some (.v (.int kk i))) (ht:K.S.get t=some ti) (hdd:ti.d= .slice el) (he:K.S.get el=some ei) [j:ARow Λ z sz xs]
 (hs:Nat.beq ei.size sz=true) (h0:0<=i) (h1:i<xs.length) (hput:E.put K.n none o.dst (.ep z sz i.toNat)=some E') (next:WA K all m k pubs Y π E' Λ D):WA K all m k pubs Y (i0::π) E Λ D:=by
 refine ⟨fun h e L Es hl r q d=>?_⟩
 have hs:=Nat.eq_of_beq_eq_true hs
 obtain ⟨v1,e1,f1⟩:=r.ev (K.hgs.mono hl) _ hx
 obtain ⟨v2,e2,f2⟩:=r.ev (K.hgs.mono hl) _ hi
 rw [Rp_v] at f2;rw [f2.1] at e2
 rw [Rp_ms] at f1
 obtain ⟨rfl,_⟩:=f1
 obtain ⟨M,_,p,⟨a,cap,zs,rfl,g2,g3,g4,g5⟩,_⟩:=q.mem j.mem
 rcases g5 with ⟨g5,_⟩|⟨b,off,sp,rfl,rfl,_⟩
 ·subst g5;simp at h1;omega
 ·obtain ⟨e',e4,e5⟩:=putA_eq r hput (Rp_ep.2 ⟨b,off,xs.length,cap,rfl,by omega,rfl⟩)
  have hiv:idxv K.S t (.slice (some ⟨b,off,none⟩) xs.length cap) i=some (.pointer (some ⟨b,off+i.toNat*sz,none⟩),xs.length):=by simp only [idxv,ht,hdd,he,hs]
  exact WE.valueY (G:=drawRg K.cfg all (L++K.G) pubs (YA Y) m k) hi0 (kd_index ho) (gyesA_eq r hg) (fun a w E0 g s hk=>by
   have:=run_idxv (P:=K.cfg.P) (w:=w) (kk:=kk) K.ok hiv h0 h1
   unfold execOp
   rw [ho]
   simp only [g.ev hk e1,g.ev hk e2,Sem.run_bind,this,Result.andThen_ok,Sem.run_pure]) e4 (next.run h e' L Es hl e5 q d)
theorem WA.loadRow{i0:Nat}{o:Oper}{ks:List (Nat×Bool)}{t:TypeId}{p:Operand}{z:Value}{sz sz' i:Nat}{xs:List AV}{ti:TI}{y y':AV}{E':AEnv}(hi0:nthL all.toList i0=some o)
 (hg:gyesA E all o.guard=some ks) (ho:o.op= .load t p) (hp:E.ev K.gs ks p=some (.ep z sz' i)) (ht:K.S.get t=some ti) [j:ARow Λ z sz xs] (hs:Nat.beq ti.size sz=true) (hs':Nat.beq sz' sz=true) (hsh:shapeOk ti y'=true)
 (hy:xs[i]? =some y) (hy':y=y') (hput:E.put K.n none o.dst y'=some E') (next:WA K all m k pubs Y π E' Λ D):WA K all m k pubs Y (i0::π) E Λ D:=by
 subst hy'
 refine ⟨fun h e L Es hl r q d=>?_⟩
 have hs:=Nat.eq_of_beq_eq_true hs
 have hs':=Nat.eq_of_beq_eq_true hs'
 subst hs'
 obtain ⟨v1,e1,f1⟩:=r.ev (K.hgs.mono hl) _ hp
 rw [Rp_ep] at f1
 obtain ⟨b,off,n,cap,rfl,hin,rfl⟩:=f1
 obtain ⟨M,m1,pp,⟨a,cap',zs,g1,g2,g3,g4,g5⟩,rfl⟩:=q.mem j.mem
 injection g1 with g1 g1' g1''
 subst g1;subst g1';subst g1''
 rcases g5 with ⟨g5,_⟩|⟨b',off',sp,g6,rfl,g9⟩
 ·subst g5;simp at hy
 ·injection g6 with g6;injection g6 with g6 g7;subst g6;subst g7
  obtain ⟨u,hu,hrp⟩:=g3.rp.at hy
  have hsub:=catL_sub (sp:=sp) g3.sz hu
  have hld:ldV ti ⟨b,off,catL zs++sp,none⟩ (off+i*sz')=some u:=by
   have hle:Nat.ble off (off+i*sz')=true:=Nat.ble_eq_true_of_le (Nat.le_add_right _ _)
   unfold ldV
   simp only [hle,Nat.add_sub_cancel_left]
   unfold partv
   unfold shapeOk at hsh
   cases hag:ti.agg with
   |true=>
    rw [hag] at hsh
    simp only at hsh⊢
    rw [hs,hsub]
    split at hsh
    ·rw [Rp_ag] at hrp
     obtain ⟨cs,rfl,_⟩:=hrp
     rfl
    ·cases hsh
   |false=>
    rw [hag] at hsh
    simp only at hsh⊢
    have hone:=hrp.one hsh
    have hc1:=cellsL_one hone
    have hsz1:sz'=1:=by have:=g3.sz u (List.mem_of_getElem? hu);rw [hc1] at this;simpa using this.symm
    rw [hsz1,hc1] at hsub
    obtain ⟨_,_,h3⟩:=subL_spec _ _ _ hsub
    have:=h3 0 (by omega)
    rw [nthL_eq,hsz1]
    simpa using this.symm
  obtain ⟨e',e4,e5⟩:=putA_eq r hput hrp
  exact WE.valueY (G:=drawRg K.cfg all (L++K.G) pubs (YA Y) m k) hi0 (kd_load ho) (gyesA_eq r hg) (fun a w E0 g s hk=>by
   have:=run_ldV (TT.Ok.get K.ok ht) (s.own ⟨b,off,catL zs++sp,none⟩ (List.mem_append_right _ (List.mem_append_left _ (m1 _ (List.mem_singleton.2 rfl))))) rfl hld
   unfold execOp
   rw [ho]
   have this:Sem.run K.cfg.P (Instr.loadAt t (Value.pointer (some ⟨b,off+i*sz',none⟩))) w= .ok u w:=this
   simp only [g.ev hk e1,Sem.run_bind,this,Result.andThen_ok,Sem.run_pure]) e4 (next.run h e' L Es hl e5 q d)
end
section
variable{K:AC}{k:List It}{E:AEnv}{Λ:List AEnt}
end
end Go.Tp
namespace Go.Tp
open Go Go.RowKit
section
variable{K:AC}{k:List It}{E:AEnv}{Λ:List AEnt}
theorem A.indexArr{all:Array Oper}{o:Oper}{l:List Oper}{ks:List (Nat×Bool)}{t el:TypeId}{ti ei:TI}{x ix:Operand}{b off n:Nat}{kk:IntKind}{i:Int}{E':AEnv}
 (hg:gyesA E all o.guard=some ks) (ho:o.op= .indexAddr t x ix) (hx:E.ev K.gs ks x=some (.v (.pointer (some ⟨b,off,none⟩)))) (hi:E.ev K.gs ks ix=some (.v (.int kk i))) (ht:K.S.get t=some ti) (hdd:ti.d= .array n el) (he:K.S.get el=some ei)
 (hput:E.put K.n none o.dst (.v (.pointer (some ⟨b,off+i.toNat*ei.size,none⟩)))=some E') (h0:0<=i) (h1:i<n) (next:A K (.ops all l::k) E' Λ):A K (.ops all (o::l)::k) E Λ:=by
 refine ⟨fun h e L hl r q=>?_⟩
 obtain ⟨v1,e1,f1⟩:=r.ev (K.hgs.mono hl) _ hx
 obtain ⟨v2,e2,f2⟩:=r.ev (K.hgs.mono hl) _ hi
 rw [Rp_v] at f1 f2;rw [f1.1] at e1;rw [f2.1] at e2
 obtain ⟨e',e4,e5⟩:=putA_eq r hput (Rp_v.2 ⟨rfl,rfl⟩)
 have hiv:idxv K.S t (.pointer (some ⟨b,off,none⟩)) i=some (.pointer (some ⟨b,off+i.toNat*ei.size,none⟩),n):=by simp only [idxv,ht,hdd,he]
 exact V.indexY (C:=K.cfg) (gyesA_eq r hg) ho e1 e2 hiv e4 h0 h1 (next.run h e' L hl e5 q)
end
end Go.Tp
namespace Go.Tp
open Go Go.RowKit
def skipM(E:AEnv):Option (Nat×Bool)->Bool
 |some (t,_)=>match lookA E.us t with
  |some (.tp [])=>true
  |_=>false
 |none=>false
def pickS(gs:Ua)(n:Nat)(E:AEnv)(m:Option (Nat×Bool))(ks:List (Nat×Bool))(o:Oper):Option AEnv:=match o.op with
 | .pick c x y=>match E.ev gs ks c with
   |some (.v (.bool g))=>match g with
    |true=>match E.ev gs ks x with
     |some v=>E.put n m o.dst v
     |none=>none
    |false=>match E.ev gs ks y with
     |some v=>E.put n m o.dst v
     |none=>none
   |_=>none
 |_=>none
def passS(gs:Ua)(n:Nat)(all:Array Oper)(o:Oper)(E:AEnv):Option AEnv:=match gnoA E all o.guard with
 |some _=>E.put n none o.dst (.tp [])
 |none=>match gmodeA E all o.guard with
  |some (m,ks)=>match skipM E m with
   |true=>E.put n none o.dst (.tp [])
   |false=>pickS gs n E m ks o
  |none=>none
def stp(S:TT)(gs:Ua)(n:Nat)(k:List It)(E:AEnv):Option (List It×AEnv):=match astepY S gs n k E with
 |some r=>some r
 |none=>match k with
  | .ops all (o::l)::k=>match passS gs n all o E with
    |some E'=>some (.ops all l::k,E')
    |none=>none
  | .code (.cond c x y)::k=>match E.ev gs [] c with
    |some (.v (.bool g))=>match g with
     |true=>some (.code x::k,E)
     |false=>some (.code y::k,E)
    |_=>none
  |_=>none
def pks(gs:Ua)(n:Nat)(k:List It)(E:AEnv):Option (List It×AEnv):=match k with
 | .ops all (o::l)::k=>match gmodeA E all o.guard with
   |some (m,ks)=>match pickS gs n E m ks o with
    |some E'=>some (.ops all l::k,E')
    |none=>none
   |none=>none
 |_=>none
def rdS(S:TT)(gs:Ua)(n:Nat)(k:List It)(E:AEnv):Option (Nat×(AV->Option (List It×AEnv))):=match k with
 | .ops all (o::l)::k=>match gyesA E all o.guard with
   |some ks=>match o.op with
    | .load t p=>match E.ev gs ks p with
      |some (.v (.pointer (some ⟨b,off,none⟩)))=>match S.get t with
       |some ti=>some (b,fun x=>match ldA ti x off with
        |some y=>match E.put n none o.dst y with
         |some E'=>some (.ops all l::k,E')
         |none=>none
        |none=>none)
       |none=>none
      |_=>none
    |_=>none
   |none=>none
 |_=>none
def rdU(S:TT)(gs:Ua)(n:Nat)(k:List It)(E:AEnv):Option (Nat×(AV->Option (List It×AEnv))):=match k with
 | .ops all (o::l)::k=>match gmodeA E all o.guard with
   |some (m,ks)=>match o.op with
    | .load t p=>match E.ev gs ks p with
      |some (.v (.pointer (some ⟨b,off,none⟩)))=>match S.get t with
       |some ti=>some (b,fun x=>match ldA ti x off with
        |some y=>match E.put n m o.dst y with
         |some E'=>some (.ops all l::k,E')
         |none=>none
        |none=>none)
       |none=>none
      |_=>none
    |_=>none
   |none=>none
 |_=>none
def wrS(S:TT)(gs:Ua)(k:List It)(E:AEnv):Option (Nat×(AV->Option AV)×List It):=match k with
 | .ops all (o::l)::k=>match gyesA E all o.guard with
   |some ks=>match o.op with
    | .store t p y=>match E.ev gs ks p with
      |some (.v (.pointer (some ⟨b,off,none⟩)))=>match E.ev gs ks y with
       |some v=>match S.get t with
        |some ti=>match o.dst with
         |none=>some (b,fun x=>stA ti x off v, .ops all l::k)
         |some _=>none
        |none=>none
       |none=>none
      |_=>none
    |_=>none
   |none=>none
 |_=>none
def bxS(S:TT)(gs:Ua)(n:Nat)(k:List It)(E:AEnv):Option (List It×Nat×AV):=match k with
 | .ops all (o::l)::k=>match gyesA E all o.guard with
   |some ks=>match o.dst with
    |some d=>match okPutA n E d with
     |true=>match o.op with
      | .alloc t=>match S.get t with
        |some ti=>match zeroA ti with
         |some x=>some (.ops all l::k,d,x)
         |none=>none
        |none=>none
      | .box t y=>match E.ev gs ks y with
        |some v=>match cellsA v with
         |some vs=>match oneA vs with
          |true=>some (.ops all l::k,d,v)
          |false=>none
         |none=>none
        |none=>none
      |_=>none
     |false=>none
    |none=>none
   |none=>none
 |_=>none
def ltS(S:TT)(gs:Ua)(n:Nat)(k:List It)(E:AEnv):Option (List It×Nat×Nat×Nat×List AV):=match k with
 | .ops all (o::l)::k=>match gyesA E all o.guard with
   |some ks=>match o.op with
    | .buildSlice t len parts=>match litA S (E.ev gs ks) t len parts.toList with
      |some (sz,xs)=>match o.dst with
       |some d=>match okPutA n E d with
        |true=>some (.ops all l::k,d,len,sz,xs)
        |false=>none
       |none=>none
      |none=>none
    |_=>none
   |none=>none
 |_=>none
def clS(gs:Ua)(n:Nat)(k:List It)(E:AEnv):Option (List It×Nat×FuncId×List AV):=match k with
 | .ops all (o::l)::k=>match gyesA E all o.guard with
   |some ks=>match o.op with
    | .call c=>match c.callee with
      | .value x=>match E.ev gs ks x with
        |some (.fn f fst cap)=>match evsA (E.ev gs ks) c.args.toList with
         |some vs=>match o.dst with
          |some d=>match okPutA n E d with
           |true=>some (.ops all l::k,d,f,fst++(vs++cap))
           |false=>none
          |none=>none
         |none=>none
        |_=>none
      |_=>none
    |_=>none
   |none=>none
 |_=>none
def ixS(S:TT)(gs:Ua)(n:Nat)(k:List It)(E:AEnv):Option (List AV×Int×(AV->Option (List It×AEnv))):=match k with
 | .ops all (o::l)::k=>match gyesA E all o.guard with
   |some ks=>match o.op with
    | .indexAddr t x ix=>match E.ev gs ks x with
      |some xv=>match E.ev gs ks ix with
       |some (.v (.int _ i))=>match S.get t with
        |some ti=>match ti.d with
         | .slice el=>match S.get el with
           |some ei=>match slOf ei.size xv with
            |some (xs,_)=>some (xs,i,fun y=>match E.put n none o.dst (.pe ei.size y) with
             |some E'=>some (.ops all l::k,E')
             |none=>none)
            |none=>none
           |none=>none
         |_=>none
        |none=>none
       |_=>none
      |none=>none
    |_=>none
   |none=>none
 |_=>none
section
variable{K:AC}{k k':List It}{E E':AEnv}{Λ Λ':List AEnt}
theorem A.s(h:stp K.S K.gs K.n k E=some (k',E'))(next:A K k' E' Λ):A K k E Λ:=by
 unfold stp at h
 split at h
 ·rename_i r hr
  injection h with h;subst h
  exact A.stepY hr next
 ·split at h
  ·rename_i all o l k0
   split at h
   ·rename_i E1 hp
    injection h with h;injection h with h1 h2;subst h1;subst h2
    unfold passS at hp
    split at hp
    ·rename_i x hg;exact A.skip hg hp next
    ·split at hp
     ·rename_i m ks hg
      split at hp
      ·rename_i hs
       cases m with
       |none=>cases hs
       |some mb=>
        obtain ⟨t,b⟩:=mb
        simp only [skipM] at hs
        split at hs
        ·rename_i hl;exact A.skipU hg hl hp next
        ·cases hs
      ·unfold pickS at hp
       split at hp
       ·rename_i c x y ho
        split at hp
        ·rename_i g hc
         split at hp
         ·split at hp
          ·rename_i v hv;exact A.pickT hg ho hc hv hp next
          ·cases hp
         ·split at hp
          ·rename_i v hv;exact A.pickF hg ho hc hv hp next
          ·cases hp
        ·cases hp
       ·cases hp
     ·cases hp
   ·cases h
  ·rename_i c x y k0
   split at h
   ·rename_i g hc
    split at h
    ·injection h with h;injection h with h1 h2;subst h1;subst h2;exact A.condT hc next
    ·injection h with h;injection h with h1 h2;subst h1;subst h2;exact A.condF hc next
   ·cases h
  ·cases h
theorem A.p(h:pks K.gs K.n k E=some (k',E'))(next:A K k' E' Λ):A K k E Λ:=by
 unfold pks at h
 split at h
 ·split at h
  ·rename_i m ks hg
   split at h
   ·rename_i E1 hp
    injection h with h;injection h with h1 h2;subst h1;subst h2
    unfold pickS at hp
    split at hp
    ·rename_i c x y ho
     split at hp
     ·rename_i g hc
      split at hp
      ·split at hp
       ·rename_i v hv;exact A.pickT hg ho hc hv hp next
       ·cases hp
      ·split at hp
       ·rename_i v hv;exact A.pickF hg ho hc hv hp next
       ·cases hp
     ·cases hp
    ·cases hp
   ·cases h
  ·cases h
 ·cases h
theorem A.r{b:Nat}{f:AV->Option (List It×AEnv)}{x:AV}(h:rdS K.S K.gs K.n k E=some (b,f)) [i:AAt Λ b x](hf:f x=some (k',E'))(next:A K k' E' Λ):A K k E Λ:=by
 unfold rdS at h
 split at h
 ·split at h
  ·rename_i ks hg
   split at h
   ·rename_i t p ho
    split at h
    ·rename_i b' off hp
     split at h
     ·rename_i ti ht
      injection h with h;injection h with h1 h2;subst h1;subst h2
      simp only at hf
      split at hf
      ·rename_i y hy
       split at hf
       ·rename_i E1 hput
        injection hf with hf;injection hf with h1 h2;subst h1;subst h2
        exact A.loadY hg ho hp ht hy hput next
       ·cases hf
      ·cases hf
     ·cases h
    ·cases h
   ·cases h
  ·cases h
 ·cases h
theorem A.v{b:Nat}{f:AV->Option (List It×AEnv)}{x:AV}(h:rdU K.S K.gs K.n k E=some (b,f)) [i:AAt Λ b x](hf:f x=some (k',E'))(next:A K k' E' Λ):A K k E Λ:=by
 unfold rdU at h
 split at h
 ·split at h
  ·rename_i m ks hg
   split at h
   ·rename_i t p ho
    split at h
    ·rename_i b' off hp
     split at h
     ·rename_i ti ht
      injection h with h;injection h with h1 h2;subst h1;subst h2
      simp only at hf
      split at hf
      ·rename_i y hy
       split at hf
       ·rename_i E1 hput
        injection hf with hf;injection hf with h1 h2;subst h1;subst h2
        exact A.load hg ho hp ht hy hput next
       ·cases hf
      ·cases hf
     ·cases h
    ·cases h
   ·cases h
  ·cases h
 ·cases h
theorem A.w{b:Nat}{f:AV->Option AV}{x x':AV}(h:wrS K.S K.gs k E=some (b,f,k')) [i:AAt Λ b x](hf:f x=some x') [j:AUp Λ b x x' Λ'](next:A K k' E Λ'):A K k E Λ:=by
 unfold wrS at h
 split at h
 ·split at h
  ·rename_i ks hg
   split at h
   ·rename_i t p y ho
    split at h
    ·rename_i b' off hp
     split at h
     ·rename_i v hy
      split at h
      ·rename_i ti ht
       split at h
       ·rename_i hd
        injection h with h;injection h with h1 h2;injection h2 with h2 h3;subst h1;subst h2;subst h3
        exact A.store hg ho hp hy ht hf hd next
       ·cases h
      ·cases h
     ·cases h
    ·cases h
   ·cases h
  ·cases h
 ·cases h
theorem A.b{d:Nat}{x:AV}(h:bxS K.S K.gs K.n k E=some (k',d,x))(next: ∀b,A K k' ⟨(d, .v (.pointer (some ⟨b,0,none⟩)))::E.us,E.cs⟩ (.box b x::Λ)):A K k E Λ:=by
 unfold bxS at h
 split at h
 ·split at h
  ·rename_i ks hg
   split at h
   ·rename_i d' hd
    split at h
    ·rename_i hc
     split at h
     ·rename_i t ho
      split at h
      ·rename_i ti ht
       split at h
       ·rename_i z hz
        injection h with h;injection h with h1 h2;injection h2 with h2 h3;subst h1;subst h2;subst h3
        exact A.alloc hg ho ht hz hd hc next
       ·cases h
      ·cases h
     ·rename_i t y ho
      split at h
      ·rename_i v hy
       split at h
       ·rename_i vs hvs
        split at h
        ·rename_i h1
         injection h with h;injection h with h2 h3;injection h3 with h3 h4;subst h2;subst h3;subst h4
         exact A.box hg ho hy hvs h1 hd hc next
        ·cases h
       ·cases h
      ·cases h
     ·cases h
    ·cases h
   ·cases h
  ·cases h
 ·cases h
theorem A.t{d len sz:Nat}{xs:List AV}(h:ltS K.S K.gs K.n k E=some (k',d,len,sz,xs))(next: ∀b,A K k' ⟨(d, .sl sz xs (some (.slice (some ⟨b,0,none⟩) len len)))::E.us,E.cs⟩ Λ):A K k E Λ:=by
 unfold ltS at h
 split at h
 ·split at h
  ·rename_i ks hg
   split at h
   ·rename_i t len' parts ho
    split at h
    ·rename_i sz' xs' hl
     split at h
     ·rename_i d' hd
      split at h
      ·rename_i hc
       injection h with h;injection h with h1 h2;injection h2 with h2 h3;injection h3 with h3 h4;injection h4 with h4 h5
       subst h1;subst h2;subst h3;subst h4;subst h5
       exact A.lit hg ho hl hd hc next
      ·cases h
     ·cases h
    ·cases h
   ·cases h
  ·cases h
 ·cases h
theorem clS_eq{d:Nat}{f:FuncId}{as:List AV}(h:clS K.gs K.n k E=some (k',d,f,as)): ∃all o l k0 ks x args ts fst cap vs,k= .ops all (o::l)::k0/\k'= .ops all l::k0/\gyesA E all o.guard=some ks/\o.op= .call ⟨.value x,args,ts⟩/\
 E.ev K.gs ks x=some (.fn f fst cap)/\evsA (E.ev K.gs ks) args.toList=some vs/\o.dst=some d/\okPutA K.n E d=true/\as=fst++(vs++cap):=by
 unfold clS at h
 split at h
 ·rename_i all o l k0
  split at h
  ·rename_i ks hg
   split at h
   ·rename_i c ho
    obtain ⟨cc,ca,ct⟩:=c
    simp only at h
    split at h
    ·rename_i x
     split at h
     ·rename_i f' fst cap hx
      split at h
      ·rename_i vs hvs
       split at h
       ·rename_i d' hd
        split at h
        ·rename_i hc
         injection h with h;injection h with h1 h2;injection h2 with h2 h3;injection h3 with h3 h4
         subst h1;subst h2;subst h3;subst h4
         exact ⟨all,o,l,k0,ks,x,ca,ct,fst,cap,vs,rfl,rfl,hg,ho,hx,hvs,hd,hc,rfl⟩
        ·cases h
       ·cases h
      ·cases h
     ·cases h
    ·cases h
   ·cases h
  ·cases h
 ·cases h
theorem A.c{d:Nat}{f:FuncId}{as args':List AV}{y:AV}(h:clS K.gs K.n k E=some (k',d,f,as))(hf:Pure K.P K.gs f args' y)(hs:SbL as args')(next:A K k' ⟨(d,y)::E.us,E.cs⟩ Λ):A K k E Λ:=by
 obtain ⟨all,o,l,k0,ks,x,args,ts,fst,cap,vs,rfl,rfl,hg,ho,hx,ha,hd,hc,rfl⟩:=clS_eq h
 exact A.callP hg ho hx ha hd hc hf hs next
theorem A.e{ι:Type}{X:ι->AV}{LL:ι->List AEnt}{Pr:ι->Prop}{d:Nat}{f:FuncId}{as args':List AV}{Λ1 Λ2:List AEnt}(h:clS K.gs K.n k E=some (k',d,f,as))(hf:FunE K.P K.gs f args' Λ1 X LL Pr)(hs:SbL as args')(hp:Λ.Perm (Λ1++Λ2))
 (next: ∀i,Pr i->A K k' ⟨(d,X i)::E.us,E.cs⟩ (LL i++Λ2)):A K k E Λ:=by
 obtain ⟨all,o,l,k0,ks,x,args,ts,fst,cap,vs,rfl,rfl,hg,ho,hx,ha,hd,hc,rfl⟩:=clS_eq h
 exact A.callE hg ho hx ha hd hc hf hs hp next
theorem A.d{d:Nat}{f:FuncId}{as args':List AV}{y:AV}{Λ1 Λ2:List AEnt}(h:clS K.gs K.n k E=some (k',d,f,as))(hf:Fun K.P K.gs f args' Λ1 fun z Λ'=>z=y/\Λ'=Λ1)(hs:SbL as args')(hp:Λ.Perm (Λ1++Λ2))
 (next:A K k' ⟨(d,y)::E.us,E.cs⟩ (Λ1++Λ2)):A K k E Λ:=by
 obtain ⟨all,o,l,k0,ks,x,args,ts,fst,cap,vs,rfl,rfl,hg,ho,hx,ha,hd,hc,rfl⟩:=clS_eq h
 exact A.callL hg ho hx ha hd hc hf hs hp next
theorem A.x{xs:List AV}{i:Int}{f:AV->Option (List It×AEnv)}{y y':AV}(h:ixS K.S K.gs K.n k E=some (xs,i,f))(h0:0<=i)(hy:xs[i.toNat]? =some y)(hy':y=y')(hf:f y'=some (k',E'))(next:A K k' E' Λ):A K k E Λ:=by
 unfold ixS at h
 split at h
 ·split at h
  ·rename_i ks hg
   split at h
   ·rename_i t x ix ho
    split at h
    ·rename_i xv hx
     split at h
     ·rename_i kk i' hi
      split at h
      ·rename_i ti ht
       split at h
       ·rename_i el hd
        split at h
        ·rename_i ei he
         split at h
         ·rename_i xs' own hs
          injection h with h;injection h with h1 h2;injection h2 with h2 h3;subst h1;subst h2;subst h3
          simp only at hf
          split at hf
          ·rename_i E1 hput
           injection hf with hf;injection hf with h1 h2;subst h1;subst h2
           exact A.index hg ho hx hi ht hd he hs h0 hy hy' hput next
          ·cases hf
         ·cases h
        ·cases h
       ·cases h
      ·cases h
     ·cases h
    ·cases h
   ·cases h
  ·cases h
 ·cases h
end
def wstp(S:TT)(gs:Ua)(n:Nat)(all:Array Oper)(π:List Nat)(E:AEnv):Option (List Nat×AEnv):=match wstepYA S gs n all π E with
 |some r=>some r
 |none=>match π with
  |i::π=>match nthL all.toList i with
   |some o=>match passS gs n all o E with
    |some E'=>some (π,E')
    |none=>none
   |none=>none
  | []=>none
def wpk(gs:Ua)(n:Nat)(all:Array Oper)(π:List Nat)(E:AEnv):Option (List Nat×AEnv):=match π with
 |i::π=>match nthL all.toList i with
  |some o=>match gmodeA E all o.guard with
   |some (m,ks)=>match pickS gs n E m ks o with
    |some E'=>some (π,E')
    |none=>none
   |none=>none
  |none=>none
 | []=>none
def wrd(S:TT)(gs:Ua)(n:Nat)(all:Array Oper)(π:List Nat)(E:AEnv):Option (Nat×(AV->Option (List Nat×AEnv))):=match π with
 |i::π=>match nthL all.toList i with
  |some o=>match gyesA E all o.guard with
   |some ks=>match o.op with
    | .load t p=>match E.ev gs ks p with
      |some (.v (.pointer (some ⟨b,off,none⟩)))=>match S.get t with
       |some ti=>some (b,fun x=>match ldA ti x off with
        |some y=>match E.put n none o.dst y with
         |some E'=>some (π,E')
         |none=>none
        |none=>none)
       |none=>none
      |_=>none
    |_=>none
   |none=>none
  |none=>none
 | []=>none
def wcl(gs:Ua)(n:Nat)(all:Array Oper)(Y:Ua)(π:List Nat)(E:AEnv):Option (List Nat×Nat×Nat×FuncId×List AV×AV):=match π with
 |i::π=>match nthL all.toList i with
  |some o=>match gyesA E all o.guard with
   |some ks=>match o.op with
    | .call c=>match c.callee with
      | .value x=>match E.ev gs ks x with
        |some (.fn f fst cap)=>match evsA (E.ev gs ks) c.args.toList with
         |some vs=>match o.dst with
          |some d=>match okPutA n E d with
           |true=>match lookA Y i with
            |some y=>some (π,i,d,f,fst++(vs++cap),y)
            |none=>none
           |false=>none
          |none=>none
         |none=>none
        |_=>none
      |_=>none
    |_=>none
   |none=>none
  |none=>none
 | []=>none
def wix(S:TT)(gs:Ua)(n:Nat)(all:Array Oper)(π:List Nat)(E:AEnv):Option (List AV×Int×(AV->Option (List Nat×AEnv))):=match π with
 |j::π=>match nthL all.toList j with
  |some o=>match gyesA E all o.guard with
   |some ks=>match o.op with
    | .indexAddr t x ix=>match E.ev gs ks x with
      |some xv=>match E.ev gs ks ix with
       |some (.v (.int _ i))=>match S.get t with
        |some ti=>match ti.d with
         | .slice el=>match S.get el with
           |some ei=>match slOf ei.size xv with
            |some (xs,_)=>some (xs,i,fun y=>match E.put n none o.dst (.pe ei.size y) with
             |some E'=>some (π,E')
             |none=>none)
            |none=>none
           |none=>none
         |_=>none
        |none=>none
       |_=>none
      |none=>none
    |_=>none
   |none=>none
  |none=>none
 | []=>none
section
variable{K:AC}{all:Array Oper}{m:Nat}{k:List It}{pubs:Nat->List Nat}{Y:Ua}{π π':List Nat}{E E':AEnv}{Λ:List AEnt}{D D':Da}
theorem WA.s(h:wstp K.S K.gs K.n all π E=some (π',E'))(next:WA K all m k pubs Y π' E' Λ D):WA K all m k pubs Y π E Λ D:=by
 unfold wstp at h
 split at h
 ·rename_i r hr
  injection h with h;subst h
  exact WA.stepY hr next
 ·split at h
  ·rename_i i π0
   split at h
   ·rename_i o hi
    split at h
    ·rename_i E1 hp
     injection h with h;injection h with h1 h2;subst h1;subst h2
     unfold passS at hp
     split at hp
     ·rename_i x hg;exact WA.skip hi hg hp next
     ·split at hp
      ·rename_i mm ks hg
       split at hp
       ·rename_i hs
        cases mm with
        |none=>cases hs
        |some mb=>
         obtain ⟨t,b⟩:=mb
         simp only [skipM] at hs
         split at hs
         ·rename_i hl;exact WA.skipU hi hg hl hp next
         ·cases hs
       ·unfold pickS at hp
        split at hp
        ·rename_i c x y ho
         split at hp
         ·rename_i g hc
          split at hp
          ·split at hp
           ·rename_i v hv;exact WA.pickT hi hg ho hc hv hp next
           ·cases hp
          ·split at hp
           ·rename_i v hv;exact WA.pickF hi hg ho hc hv hp next
           ·cases hp
         ·cases hp
        ·cases hp
      ·cases hp
    ·cases h
   ·cases h
  ·cases h
theorem WA.p(h:wpk K.gs K.n all π E=some (π',E'))(next:WA K all m k pubs Y π' E' Λ D):WA K all m k pubs Y π E Λ D:=by
 unfold wpk at h
 split at h
 ·rename_i i π0
  split at h
  ·rename_i o hi
   split at h
   ·rename_i mm ks hg
    split at h
    ·rename_i E1 hp
     injection h with h;injection h with h1 h2;subst h1;subst h2
     unfold pickS at hp
     split at hp
     ·rename_i c x y ho
      split at hp
      ·rename_i g hc
       split at hp
       ·split at hp
        ·rename_i v hv;exact WA.pickT hi hg ho hc hv hp next
        ·cases hp
       ·split at hp
        ·rename_i v hv;exact WA.pickF hi hg ho hc hv hp next
        ·cases hp
      ·cases hp
     ·cases hp
    ·cases h
   ·cases h
  ·cases h
 ·cases h
theorem WA.r{b:Nat}{f:AV->Option (List Nat×AEnv)}{x:AV}(h:wrd K.S K.gs K.n all π E=some (b,f)) [z:AAt Λ b x](hf:f x=some (π',E'))(next:WA K all m k pubs Y π' E' Λ D):WA K all m k pubs Y π E Λ D:=by
 unfold wrd at h
 split at h
 ·rename_i i π0
  split at h
  ·rename_i o hi
   split at h
   ·rename_i ks hg
    split at h
    ·rename_i t p ho
     split at h
     ·rename_i b' off hp
      split at h
      ·rename_i ti ht
       injection h with h;injection h with h1 h2;subst h1;subst h2
       simp only at hf
       split at hf
       ·rename_i y hy
        split at hf
        ·rename_i E1 hput
         injection hf with hf;injection hf with h1 h2;subst h1;subst h2
         exact WA.loadY hi hg ho hp ht hy hput next
        ·cases hf
       ·cases hf
      ·cases h
     ·cases h
    ·cases h
   ·cases h
  ·cases h
 ·cases h
def dropC(ps:List Nat)(i:Nat)(D:Da):Option Da:=match memB i ps with
 |false=>some (dropD ps D)
 |true=>none
theorem dropC_eq{ps:List Nat}{i:Nat}{D D':Da}(h:dropC ps i D=some D'):memB i ps=false/\dropD ps D=D':=by
 unfold dropC at h
 split at h
 ·rename_i hm;injection h with h;exact ⟨hm,h⟩
 ·cases h
theorem WA.c{i d:Nat}{f:FuncId}{as args':List AV}{y:AV}(h:wcl K.gs K.n all Y π E=some (π',i,d,f,as,y))(hD:dropC (pubs i) i D=some D')(hf:Pure K.P K.gs f args' y)(hs:SbPL D (pubs i) as args')
 (next:WA K all m k pubs Y π' ⟨(d,y)::E.us,E.cs⟩ Λ D'):WA K all m k pubs Y π E Λ D:=by
 unfold wcl at h
 split at h
 ·rename_i i0 π0
  split at h
  ·rename_i o hi
   split at h
   ·rename_i ks hg
    split at h
    ·rename_i c ho
     obtain ⟨cc,ca,ct⟩:=c
     simp only at h
     split at h
     ·rename_i x
      split at h
      ·rename_i f' fst cap hx
       split at h
       ·rename_i vs hvs
        split at h
        ·rename_i d' hd
         split at h
         ·rename_i hc
          split at h
          ·rename_i y' hy
           injection h with h;injection h with h1 h2;injection h2 with h2 h3;injection h3 with h3 h4;injection h4 with h4 h5;injection h5 with h5 h6
           subst h1;subst h2;subst h3;subst h4;subst h5;subst h6
           exact WA.callP hi hg ho hx hvs hd hc rfl (dropC_eq hD).1 (dropC_eq hD).2 hy hf hs next
          ·cases h
         ·cases h
        ·cases h
       ·cases h
      ·cases h
     ·cases h
    ·cases h
   ·cases h
  ·cases h
 ·cases h
theorem WA.x{xs:List AV}{i:Int}{f:AV->Option (List Nat×AEnv)}{y y':AV}(h:wix K.S K.gs K.n all π E=some (xs,i,f))(h0:0<=i)(hy:xs[i.toNat]? =some y)(hy':y=y')(hf:f y'=some (π',E'))(next:WA K all m k pubs Y π' E' Λ D):WA K all m k pubs Y π E Λ D:=by
 unfold wix at h
 split at h
 ·rename_i j π0
  split at h
  ·rename_i o hj
   split at h
   ·rename_i ks hg
    split at h
    ·rename_i t x ix ho
     split at h
     ·rename_i xv hx
      split at h
      ·rename_i kk i' hi
       split at h
       ·rename_i ti ht
        split at h
        ·rename_i el hd
         split at h
         ·rename_i ei he
          split at h
          ·rename_i xs' own hs
           injection h with h;injection h with h1 h2;injection h2 with h2 h3;subst h1;subst h2;subst h3
           simp only at hf
           split at hf
           ·rename_i E1 hput
            injection hf with hf;injection hf with h1 h2;subst h1;subst h2
            exact WA.index hj hg ho hx hi ht hd he hs h0 hy hy' hput next
           ·cases hf
          ·cases h
         ·cases h
        ·cases h
       ·cases h
      ·cases h
     ·cases h
    ·cases h
   ·cases h
  ·cases h
 ·cases h
end
end Go.Tp
namespace Go.Tp
open Go Go.RowKit
abbrev BS(l:List UInt8):ByteArray:=⟨l.toArray⟩
abbrev AS(l:List UInt8):AV:= .v (.string (BS l))
section
variable{K:AC}{k k':List It}{E E':AEnv}{Λ:List AEnt}
end
end Go.Tp
namespace Go.Tp
open Go Go.RowKit
theorem enter_at{C:Cfg}{args:List Value}{c:Code}(hD:C.D=[])(hb:C.fn.body=some c)(hn:C.fn.ntmps=C.n)(hl:Nat.ble args.length C.n=true):
 ∃(b:Frame) (a:Act),Frame.enter C.P C.f ⟨args⟩ .normal=b.atR a [.code c]/\Ag C.n C.D ⟨argUs 0 args,[]⟩ a/\b.fn=C.f/\b.kind= .normal/\b.roundOf=none:=by
 have hle:args.length<=C.n:=Nat.le_of_ble_eq_true hl
 refine ⟨{(default:Frame) with fn:=C.f,kind:= .normal},{tmps:=(⟨args⟩:Array Value)++Array.replicate (C.fn.ntmps-(⟨args⟩:Array Value).size) undef,defers:=[]},?_,?_,rfl,rfl,rfl⟩
 ·simp [Frame.enter,Frame.atR,C.hfn,hb,show (default:Frame).roundOf=none from rfl]
 ·refine ⟨by simp [hn];omega,by rw [hD];rfl,fun t v hv=>?_,fun _ _ _ _ h=>by cases h⟩
  obtain ⟨_,h2⟩:=look_argUs args 0 t hv
  simp only [Nat.sub_zero] at h2
  have ht:t<args.length:=by
   rcases Nat.lt_or_ge t args.length with h|h
   ·exact h
   ·rw [List.getElem?_eq_none h] at h2;cases h2
  show ((⟨args⟩:Array Value)++_)[t]? =_
  rw [Array.getElem?_append_left (by simpa using ht)]
  simpa using h2
def jumpIts:Option Code->List It
 |none=>[]
 |some c=>[.code c]
theorem jumpIts_items(j:Option Code):items (jumpIts j)=(j.map Item.code).toList:=by cases j<;>rfl
theorem jumpIts_ok(j:Option Code){k:List It}(h:itsOk k):itsOk (jumpIts j++k):=by
 cases j
 ·exact h
 ·exact itsOk_code h
section
variable{C:Cfg}{k:List It}{e:Env}{h:GH}{L:List Ent}
theorem V.rangeFunc{x:Operand}{ps:Array Tmp}{assign body:Code}{g:FuncId}{fst cap:Array Value}{fng:Func}{cg:Code}{R':Nat->Array Value->Value->GH->List Ent->Prop}
 (hrd:C.rd=none) (hx:e.ev [] x=some (.func (.func g) fst cap)) (hfn:C.P.funcs[g]? =some fng) (hb:fng.body=some cg) (hnm:(fng.name== "runtime.NumGoroutine")=false)
 (hl:Nat.ble (fst.toList++(.func (.yield 0) #[] #[]::cap.toList)).length fng.ntmps=true)
 (next: ∀(r:Nat) (tm:Array Value),tm.size=C.n->(∀t v,look e.us t=some v->tm[t]? =some v)->
   V ⟨C.P,C.S,C.w0,g,fng,fng.ntmps,R' r tm,C.ok,hfn,[],none⟩ [.code cg] ⟨argUs 0 (fst.toList++(.func (.yield (r+1)) #[] #[]::cap.toList)),[]⟩ h
     (⟨r+1,0,[],some (.loop ⟨.ready,none,C.f,tm,ps,assign,body,r⟩)⟩::⟨r,0,[],some (.deferred (some []))⟩::L))
 (fin: ∀r tm v h' L',R' r tm v h' L'-> ∃rc L'',(∀w,St C.w0 h' L' w->St C.w0 h' (⟨r+1,0,[],some (.loop rc)⟩::L'') w)/\rc.state≠ .busy/\
   V ⟨C.P,C.S,C.w0,C.f,C.fn,C.n,C.R,C.ok,C.hfn,r::C.D,none⟩ (jumpIts rc.pending++k) e h' L''):V C (.code (.rangeFunc x ps assign body)::k) e h L:=by
 intro ho a w b cs g0 s hf hk
 obtain ⟨hk1,hk2,hk3⟩:=hk
 rw [hrd] at hk2
 have hen:=run_enterLoop_outer (P:=C.P) (w:=w) b.fn a.tmps ps assign body
 rw [hf,<-hk2] at hen
 have hres:(resolve a.eval (rangeCall x (w.heap.size+1)) 0).run C.P ((w.alloc (.deferred (some []))).alloc (.loop {state:= .ready,pending:=none,fn:=C.f,tmps:=a.tmps,params:=ps,assign,body,defers:=w.heap.size}))=
  .ok ⟨.fn (.func g) cap,fst++(#[.func (.yield (w.heap.size+1)) #[] #[]]:Array Value)⟩ ((w.alloc (.deferred (some []))).alloc (.loop {state:= .ready,pending:=none,fn:=C.f,tmps:=a.tmps,params:=ps,assign,body,defers:=w.heap.size})):=by
  have hev:a.eval (.const (.func (.yield (w.heap.size+1)) #[] #[]))= .func (.yield (w.heap.size+1)) #[] #[]:=rfl
  simp [resolve,rangeCall,g0.ev (keysOk_nil a) hx,hev,Deferred.ofValue]
 have e2:fst++(#[.func (.yield (w.heap.size+1)) #[] #[]]:Array Value)++cap=⟨fst.toList++(.func (.yield (w.heap.size+1)) #[] #[]::cap.toList)⟩:=by apply Array.ext';simp
 have hcf: ∀w1,(callFunc g (fst++(#[.func (.yield (w.heap.size+1)) #[] #[]]:Array Value)++cap)).run C.P w1= .ok (.enter g ⟨fst.toList++(.func (.yield (w.heap.size+1)) #[] #[]::cap.toList)⟩) w1:=by
  intro w1
  simp only [callFunc,Sem.run_bind,run_program,Result.andThen_ok,hfn,hnm,Bool.false_eq_true,if_false,hb,Option.isNone_some,Sem.run_pure,e2]
 have hst:=stepR_rangeFunc (P:=C.P) (b:=b) (a:=a) (k:=items k) (cs:=cs) (by rw [hf];exact hen) hres (show (invoke (.fn (.func g) cap) (fst++(#[.func (.yield (w.heap.size+1)) #[] #[]]:Array Value))).run C.P _=_ by
  simp only [invoke]
  exact hcf _)
 have s1:=(s.allocObj (.deferred (some [])) (fun _ _ _ x=>by cases x)).allocObj (.loop {state:= .ready,pending:=none,fn:=C.f,tmps:=a.tmps,params:=ps,assign,body,defers:=w.heap.size}) (fun _ _ _ x=>by cases x)
 rw [World.size_alloc] at s1
 have hv:=next w.heap.size a.tmps g0.size g0.us
 obtain ⟨b1,a1,q1,q2,q3,q4,q5⟩:=enter_at (C:=⟨C.P,C.S,C.w0,g,fng,fng.ntmps,R' w.heap.size a.tmps,C.ok,hfn,[],none⟩) (args:=fst.toList++(.func (.yield (w.heap.size+1)) #[] #[]::cap.toList)) rfl hb rfl (by simpa using hl)
 simp only at q1
 rw [q1] at hst
 obtain ⟨v,w',m,h',L',r,s',st,ou,_⟩:=hv (itsOk_code (fun _ hx=>by cases hx)) a1 _ b1 (b.atR {a with defers:=[{target:= .collected w.heap.size,args:= #[]}]++a.defers} (.inRangeFunc (w.heap.size+1)::items k)::cs) q2 s1 q3 ⟨q4,q5,fun x=>(x rfl).elim⟩
 obtain ⟨fr,rfl,f1,f2⟩:=ou
 obtain ⟨rc,L'',g1,g2,g3⟩:=fin _ _ _ _ _ r
 have s2:=g1 _ s'
 have hob:=((s2.own _ (List.mem_cons_self ..)).obj _ rfl).2.1
 simp only at hob
 have hel:=run_endLoop (P:=C.P) hob g2
 have s3:=(s2.setObj rfl (.loop {rc with state:= .exhausted}) (fun _ _ _ x=>by cases x)).tail
 have hag:Ag C.n (w.heap.size::C.D) e {a with defers:=[{target:= .collected w.heap.size,args:= #[]}]++a.defers}:=by
  refine ⟨g0.size,?_,g0.us,g0.cs⟩
  show _::a.defers=_
  rw [g0.defers];rfl
 obtain ⟨v2,w2,m2,h2,L2,r2,s4,st2,ou2,_⟩:=g3 (jumpIts_ok _ (itsOk_tail ho)) _ _ b cs hag s3 hf ⟨hk1,hk2,fun x=>(x rfl).elim⟩
 refine ⟨v2,w2,m2,h2,L2,r2,s4,?_,?_,trivial⟩
 ·refine .head hst (st.trans (.head (step_leave_returned f2) ?_))
  rw [finish_atR_inRangeFunc]
  refine .head (stepR_endRangeFunc hel) ?_
  rw [<-jumpIts_items,show items (jumpIts rc.pending)++items k=items (jumpIts rc.pending++k) by simp [items]]
  exact st2
 ·unfold Cfg.Out at ou2⊢
  rw [hrd];exact ou2
theorem V.yield{all:Array Oper}{o:Oper}{l:List Oper}{ks:List (Nat×Bool)}{x:Operand}{args:Array Operand}{ts:Array TypeId}{lp:Nat}{vs:List Value}{d:Nat}{rc:Loop}{fn2:Func}{n2:Nat}{e2:Env}
 (hg:gyes e all o.guard=some ks) (ho:o.op= .call ⟨.value x,args,ts⟩) (hx:e.ev ks x=some (.func (.yield lp) #[] #[])) (ha:evs (e.ev ks) args.toList=some vs)
 (hd:o.dst=some d) (hc:okPut C.n e d=true) (hL:(⟨lp,0,[],some (.loop rc)⟩:Ent)∈L) (hlen:vs.length=rc.params.size) (hfn:C.P.funcs[rc.fn]? =some fn2)
 (hag:Ag n2 [] e2 {tmps:=(rc.params.toList.zip vs).foldl (fun tmps (x:Nat×Value)=>tmps.setIfInBounds x.1 x.2) rc.tmps,defers:=[]})
 (next:V ⟨C.P,C.S,C.w0,rc.fn,fn2,n2,fun v h' L'=>V C (.ops all l::k) ⟨(d,v)::e.us,e.cs⟩ h' L',C.ok,hfn,[],some lp⟩ [.code rc.assign, .begin, .code rc.body] e2 h L):
 V C (.ops all (o::l)::k) e h L:=by
 intro hok a w b cs g s hf hk
 obtain ⟨⟨pre,hp⟩,hnd⟩:(∃pre,all.toList=pre++o::l)/\noDefer all.toList=true:=hok _ (List.mem_cons_self ..)
 obtain ⟨i1,i2,i3⟩:=ops_item hp
 have hok':itsOk (.ops all l::k):=itsOk_ops (pre:=pre++[o]) (by simp [hp]) hnd (itsOk_tail hok)
 obtain ⟨hon,hks⟩:=gyes_spec g hg
 have hgo:=stepGR_op (P:=C.P) (b:=b) (k:=items k) (cs:=cs) (w:=w) (a:=a) (rest:=List.range' (pre.length+1) l.length) i3 hon
 rw [Oper.semAt_eq _ _ _ (fun c hc=>by rw [ho] at hc;cases hc)] at hgo
 have hob:=((s.own _ hL).obj _ rfl).2.1
 simp only at hob
 have e1:args.map a.eval=⟨vs⟩:=by apply Array.ext';rw [Array.toList_map];exact evs_spec (fun x v hx=>g.ev hks hx) ha
 have hrun:(execOp a.eval o).run C.P w= .ok (.round lp rc.fn ((rc.params.toList.zip vs).foldl (fun tmps (x:Nat×Value)=>tmps.setIfInBounds x.1 x.2) rc.tmps) rc.assign rc.body) w:=by
  unfold execOp
  rw [ho]
  have hy:=run_yield (P:=C.P) (args:=⟨vs⟩) hob (by simpa using hlen)
  simp only [resolve,e1,g.ev hks hx,Deferred.ofValue,Sem.run_bind,Sem.run_pure,Result.andThen_ok,invoke]
  simp only [Array.append_empty,Array.empty_append]
  rw [hy]
  congr 2
  rw [<-Array.foldl_toList,Array.toList_zip]
 have hst:Go.step C.P (lone (b.atR a (.inRegion all (pre.length::List.range' (pre.length+1) l.length)::items k)) cs w)=
  .next (lone (Frame.round lp rc.fn ((rc.params.toList.zip vs).foldl (fun tmps (x:Nat×Value)=>tmps.setIfInBounds x.1 x.2) rc.tmps) rc.assign rc.body .normal) (b.atR a (.inRegion all (pre.length::List.range' (pre.length+1) l.length)::items k)::cs) w):=
  step_lone_go (by rw [hgo];simp [stepG.apply,hrun])
 obtain ⟨v,w',m,h',L',r,s',st,ou,_⟩:=next (itsOk_code (itsOk_cons (show It.ok .begin from trivial) (itsOk_code (fun _ hx=>by cases hx)))) {tmps:=(rc.params.toList.zip vs).foldl (fun tmps (x:Nat×Value)=>tmps.setIfInBounds x.1 x.2) rc.tmps,defers:=[]} w
  (Frame.round lp rc.fn ((rc.params.toList.zip vs).foldl (fun tmps (x:Nat×Value)=>tmps.setIfInBounds x.1 x.2) rc.tmps) rc.assign rc.body .normal) (b.atR a (.inRegion all (pre.length::List.range' (pre.length+1) l.length)::items k)::cs) hag s rfl ⟨rfl,rfl,fun _ x=>by cases x⟩
 obtain ⟨c,cs',f1,rfl⟩:=ou
 injection f1 with f1 f2
 subst f1;subst f2
 obtain ⟨v2,w2,m2,h2,L2,r2,s4,st2,ou2,t2⟩:=r hok' (a.put o.dst v) w' b cs (g.put (by rw [hd];exact okPut_put hc)) s' hf hk
 refine ⟨v2,w2,m2,h2,L2,r2,s4,?_,ou2,t2⟩
 have x1:items (.ops all (o::l)::k)= .inRegion all (pre.length::List.range' (pre.length+1) l.length)::items k:=by simp [items,i1]
 have x2:items (.ops all l::k)= .inRegion all (List.range' (pre.length+1) l.length)::items k:=by simp [items,i2]
 rw [x1];rw [x2] at st2
 have hfin:(b.atR a (.inRegion all (pre.length::List.range' (pre.length+1) l.length)::items k)).finish v=b.atR (a.put o.dst v) (.inRegion all (List.range' (pre.length+1) l.length)::items k):=by
  rw [Frame.finish_atR,i3];rfl
 rw [hfin] at st
 exact .head hst (st.trans st2)
theorem V.begin{lp:Nat}{rc:Loop}(hrd:C.rd=some lp)(hr:rc.state= .ready)(hv:V C k e h (⟨lp,0,[],some (.loop {rc with state:= .busy})⟩::L)):V C (.begin::k) e h (⟨lp,0,[],some (.loop rc)⟩::L):=by
 intro ho a w b cs g s hf hk
 have hob:=((s.own _ (List.mem_cons_self ..)).obj _ rfl).2.1
 have s2:=s.setObj rfl (.loop {rc with state:= .busy}) (fun _ _ _ x=>by cases x)
 obtain ⟨v,w',m,h',L',r,s',st,ou⟩:=hv (itsOk_tail ho) a _ b cs g s2 hf hk
 exact ⟨v,w',m,h',L',r,s', .head (stepR_beginRound (hk.2.1.trans hrd) (run_beginRound hob hr)) st,ou⟩
theorem V.roundEnd{lp:Nat}{rc:Loop}(hrd:C.rd=some lp)(hR:C.R (.bool true) h (⟨lp,0,[],some (.loop {rc with state:= .ready,pending:=none})⟩::L)):V C [] e h (⟨lp,0,[],some (.loop rc)⟩::L):=by
 intro ho a w b cs g s hf hk
 obtain ⟨hk1,hk2,hk3⟩:=hk
 have hob:=((s.own _ (List.mem_cons_self ..)).obj _ rfl).2.1
 have s2:=s.setObj rfl (.loop {rc with state:= .ready,pending:=none}) (fun _ _ _ x=>by cases x)
 cases cs with
 |nil=>exact (hk3 (by rw [hrd];exact fun x=>by cases x) rfl).elim
 |cons c cs=>
  refine ⟨.bool true,_,_,h,_,hR,s2, .one (stepR_round_end (hk2.trans hrd) hk1 (run_endRound none hob)),?_,trivial⟩
  unfold Cfg.Out;rw [hrd];exact ⟨c,cs,rfl,rfl⟩
end
end Go.Tp
namespace Go.Tp
open Go Go.RowKit
theorem V.post{P:Program}{S:TT}{w0:World}{f:FuncId}{fn:Func}{n:Nat}{R R':Value->GH->List Ent->Prop}{ok:S.Ok P}{hfn:P.funcs[f]? =some fn}{D:List Nat}{rd:Option Nat}{k:List It}{e:Env}{h:GH}{L:List Ent}
 (hR: ∀v h' L',R v h' L'->R' v h' L') (hv:V ⟨P,S,w0,f,fn,n,R,ok,hfn,D,rd⟩ k e h L):V ⟨P,S,w0,f,fn,n,R',ok,hfn,D,rd⟩ k e h L:=by
 intro ho a w b cs g s hf hk
 obtain ⟨v,w',m,h',L',r,s',st,ou,t⟩:=hv ho a w b cs g s hf hk
 refine ⟨v,w',m,h',L',hR _ _ _ r,s',st,?_,t⟩
 unfold Cfg.Out at ou⊢
 exact ou
structure TmOk(h:GH)(n:Nat)(E:AEnv)(tm:Array Value):Prop where
 size:tm.size=n
 us: ∃us,RpU h E.us us/\ ∀t v,look us t=some v->tm[t]? =some v
theorem TmOk.mono{h h':GH}(hl:h.le h'){n:Nat}{E:AEnv}{tm:Array Value}(r:TmOk h n E tm):TmOk h' n E tm:=⟨r.size,let ⟨us,a,b⟩:=r.us;⟨us,a.mono hl,b⟩⟩
def setsA:List Nat->List AV->Ua->Ua
 |t::ts,x::xs,us=>setsA ts xs ((t,x)::us)
 |_,_,us=>us
def setsU:List Nat->List Value->Us->Us
 |t::ts,x::xs,us=>setsU ts xs ((t,x)::us)
 |_,_,us=>us
def allBelow(n:Nat):List Nat->Bool
 | []=>true
 |t::ts=>match Nat.blt t n with
  |true=>allBelow n ts
  |false=>false
theorem sets_rp{h:GH}: ∀{ts:List Nat} {xs:List AV} {vs:List Value} {U:Ua} {us:Us},RpC h xs vs->RpU h U us->RpU h (setsA ts xs U) (setsU ts vs us)
 | [],xs,vs,U,us,r,q=>by
   have e1:setsA [] xs U=U:=by unfold setsA;rfl
   have e2:setsU [] vs us=us:=by unfold setsU;rfl
   rw [e1,e2];exact q
 |t::ts,[],vs,U,us,r,q=>by rw [RpC_nil] at r;subst r;exact q
 |t::ts,x::xs,vs,U,us,r,q=>by
  rw [RpC_cons] at r
  obtain ⟨v,vs',rfl,h1,h2⟩:=r
  exact sets_rp (ts:=ts) h2 (q.put h1)
theorem sets_ag{n:Nat}: ∀{ts:List Nat} {vs:List Value} {us:Us} {tm:Array Value},allBelow n ts=true->tm.size=n->(∀t v,look us t=some v->tm[t]? =some v)->
 Ag n [] ⟨setsU ts vs us,[]⟩ {tmps:=(ts.zip vs).foldl (fun tmps (x:Nat×Value)=>tmps.setIfInBounds x.1 x.2) tm,defers:=[]}
 | [],vs,us,tm,hb,hs,hu=>by
   have e2:setsU [] vs us=us:=by unfold setsU;rfl
   rw [e2]
   exact ⟨by simpa using hs,rfl,fun t v hv=>by simpa using hu t v hv,fun _ _ _ _ h=>by cases h⟩
 |t::ts,[],us,tm,hb,hs,hu=>⟨by simpa using hs,rfl,fun t v hv=>by simpa using hu t v hv,fun _ _ _ _ h=>by cases h⟩
 |t::ts,v::vs,us,tm,hb,hs,hu=>by
  simp only [allBelow] at hb
  split at hb
  ·rename_i ht
   have ht:t<tm.size:=by rw [hs];simpa [Nat.blt_eq] using ht
   refine sets_ag (ts:=ts) (vs:=vs) (us:=(t,v)::us) (tm:=tm.setIfInBounds t v) hb (by simpa using hs) fun u x hx=>?_
   simp only [look] at hx
   split at hx
   ·rename_i hk;have hk:=Nat.eq_of_beq_eq_true hk;subst hk;injection hx with hx;subst hx;simp [ht]
   ·rename_i hk
    rw [Array.getElem?_setIfInBounds,if_neg (beq_false_ne hk)]
    exact hu u x hx
  ·cases hb
class ALp (Λ:List AEnt) (lp:outParam Nat) (r0:outParam Loop) (st:outParam LoopState) (pd:outParam (Option Code)) (Λ':outParam (List AEnt)):Prop where
 perm:Λ.Perm (.loop lp r0 st pd::Λ')
instance ALp.here {lp:Nat} {r0:Loop} {st:LoopState} {pd:Option Code} {Λ:List AEnt}:ALp (.loop lp r0 st pd::Λ) lp r0 st pd Λ:=⟨.refl _⟩
instance (priority:=low) ALp.there {y:AEnt} {lp:Nat} {r0:Loop} {st:LoopState} {pd:Option Code} {Λ Λ':List AEnt} [i:ALp Λ lp r0 st pd Λ']:ALp (y::Λ) lp r0 st pd (y::Λ'):=⟨(i.perm.cons y).trans (.swap _ _ _)⟩
def rangeQ(K':AC)(E:AEnv)(k:List It)(lp:Nat)(r0:Loop):AV->List AEnt->Prop:=
 fun _ Λ'=> ∃st pd Λ'',st≠ .busy/\Λ'.Perm (.loop lp r0 st pd::Λ'')/\A K' (jumpIts pd++k) E Λ''
section
variable{K:AC}{k:List It}{E:AEnv}{Λ:List AEnt}
theorem A.rangeFunc{x:Operand}{ps:Array Tmp}{assign body:Code}{g:FuncId}{fst cap:List AV}{fng:Func}{cg:Code}
 (hx:E.ev K.gs [] x=some (.fn g fst cap)) (hfn:K.P.funcs[g]? =some fng) (hb:fng.body=some cg) (hnm:(fng.name== "runtime.NumGoroutine")=false)
 (hl:Nat.ble (lenN (fst++(.v (.func (.yield 0) #[] #[])::cap))) fng.ntmps=true) (hrd:K.rd=none)
 (next: ∀(h1:GH) (hg1:GsOk h1 K.gs) (r:Nat) (tm:Array Value),K.h0.le h1->TmOk h1 K.n E tm->
   A ⟨K.P,K.S,K.w0,g,fng,fng.ntmps,K.ok,hfn,h1,⟨r,0,[],some (.deferred (some []))⟩::K.G,K.gs,hg1,
       rangeQ ⟨K.P,K.S,K.w0,K.f,K.fn,K.n,K.ok,K.hfn,h1,K.F,K.gs,hg1,K.Q,r::K.D,none⟩ E k (r+1) ⟨.ready,none,K.f,tm,ps,assign,body,r⟩,[],none⟩
     [.code cg] ⟨argUa 0 (fst++(.v (.func (.yield (r+1)) #[] #[])::cap)),[]⟩ (.loop (r+1) ⟨.ready,none,K.f,tm,ps,assign,body,r⟩ .ready none::Λ)):
 A K (.code (.rangeFunc x ps assign body)::k) E Λ:=by
 refine ⟨fun h e L hl' r q=>?_⟩
 obtain ⟨v1,e1,f1⟩:=r.ev (K.hgs.mono hl') _ hx
 rw [Rp_fn] at f1
 obtain ⟨u,w,rfl,f2,f3⟩:=f1
 refine V.rangeFunc (C:=K.cfg) (R':=fun rr tm=>AC.R ⟨K.P,K.S,K.w0,g,fng,fng.ntmps,K.ok,hfn,h,⟨rr,0,[],some (.deferred (some []))⟩::K.G,K.gs,K.hgs.mono hl',
         rangeQ ⟨K.P,K.S,K.w0,K.f,K.fn,K.n,K.ok,K.hfn,h,K.F,K.gs,K.hgs.mono hl',K.Q,rr::K.D,none⟩ E k (rr+1) ⟨.ready,none,K.f,tm,ps,assign,body,rr⟩,[],none⟩) hrd e1 hfn hb hnm ?_ (fun rr tm t1 t2=>?_) (fun rr tm v h' L' hR=>?_)
 ·have h1:=f2.len;have h2:=f3.len
  rw [lenN_eq] at hl
  have hl:=Nat.le_of_ble_eq_true hl
  rw [Nat.ble_eq]
  simp only [List.length_append,List.length_cons] at hl⊢
  omega
 ·have:=(next h (K.hgs.mono hl') rr tm hl' ⟨t1,e.us,r.1,t2⟩).run h ⟨argUs 0 (u++(.func (.yield (rr+1)) #[] #[]::w)),[]⟩ (⟨rr+1,0,[],some (.loop ⟨.ready,none,K.f,tm,ps,assign,body,rr⟩)⟩::L) (GH.le_refl _)
   ⟨argUa_rp 0 (f2.append (RpC_cons.2 ⟨_,w,rfl,Rp_v.2 ⟨rfl,rfl⟩,f3⟩)),rfl⟩ ⟨[_],L,rfl,rfl,q⟩
  refine V.perm ?_ this
  show (_::_::(L++K.G)).Perm ((_::L)++([]++(_::K.G)))
  rw [List.nil_append,List.cons_append]
  exact (List.perm_middle.symm).cons _
 ·obtain ⟨y,Λ',L1,⟨st,pd,Λ'',c1,c2,c3⟩,h2,h3,h4,h5⟩:=hR
  obtain ⟨L2,g1,g2⟩:=h4.perm c2
  obtain ⟨p,L3,rfl,g3,g4⟩:=g1
  have g3:p=_:=g3
  subst g3
  refine ⟨{(⟨.ready,none,K.f,tm,ps,assign,body,rr⟩:Loop) with state:=st,pending:=pd},L3++(⟨rr,0,[],some (.deferred (some []))⟩::K.G),fun w s=>?_,c1,?_⟩
  ·exact (s.sub h5).perm (g2.append_right _)
  ·exact V.post (fun v h2 L5 ⟨y,Λ1,L6,d1,d2,d3,d4,d5⟩=>⟨y,Λ1,L6,d1,d2,GH.le_trans hl' d3,d4,d5⟩) (c3.run h' e L3 h3 (r.mono h3) g4)
theorem A.begin{lp lp':Nat}{r0:Loop}{st:LoopState}{pd:Option Code}{Λ':List AEnt} [i:ALp Λ lp' r0 st pd Λ'](hrd:K.rd=some lp)(he:lp'=lp)(hst:st= .ready)(next:A K k E (.loop lp r0 .busy pd::Λ')):A K (.begin::k) E Λ:=by
 subst he;subst hst
 refine ⟨fun h e L hl r q=>?_⟩
 obtain ⟨L1,g1,g2⟩:=q.perm i.perm
 obtain ⟨p,L3,rfl,g3,g4⟩:=g1
 have g3:p=_:=g3
 subst g3
 refine V.perm (g2.append_right _) ?_
 exact V.begin (C:=K.cfg) hrd rfl (next.run h e (_::L3) hl r ⟨[_],L3,rfl,rfl,g4⟩)
theorem AC.R_loop{h:GH}{x:AV}{v:Value}{e:AEnt}{Λ:List AEnt}{p:Ent}{L:List Ent}(hQ:K.Q x (e::Λ))(hr:Rp h x v)(hl:K.h0.le h)(he:RpEnt h e [p])(q:RpL h Λ L):K.R v h (p::(L++K.G)):=
 ⟨x,_,p::L,hQ,hr,hl,⟨[p],L,rfl,he,q⟩,by
   show (p::(L++K.F)).Sublist _
   exact ((List.Sublist.refl L).append (List.sublist_append_right _ _)).cons_cons _⟩
theorem A.roundEnd{lp lp':Nat}{r0:Loop}{st:LoopState}{pd:Option Code}{Λ':List AEnt} [i:ALp Λ lp' r0 st pd Λ'](hrd:K.rd=some lp)(he:lp'=lp)(hq:K.Q (.v (.bool true)) (.loop lp r0 .ready none::Λ')):A K [] E Λ:=by
 subst he
 refine ⟨fun h e L hl r q=>?_⟩
 obtain ⟨L1,g1,g2⟩:=q.perm i.perm
 obtain ⟨p,L3,rfl,g3,g4⟩:=g1
 have g3:p=_:=g3
 subst g3
 refine V.perm (g2.append_right _) ?_
 exact V.roundEnd (C:=K.cfg) hrd (AC.R_loop hq (Rp_v.2 ⟨rfl,rfl⟩) hl rfl g4)
end
end Go.Tp
namespace Go.Tp
open Go Go.RowKit
def partV(sz:Nat)(l h:Nat):Value->Value
 | .slice a _ c=> .slice (if c=l then a else a.map (·.add (l*sz))) (h-l) (c-l)
 |v=>v
def boundA(ρ:Operand->Option AV)(d:Int):Option Operand->Option Int
 |none=>some d
 |some x=>match ρ x with
  |some (.v (.int _ i))=>some i
  |_=>none
def boundV(σ:Operand->Value)(d:Int):Option Operand->Option Int
 |none=>some d
 |some x=>match σ x with
  | .int _ i=>some i
  |_=>none
theorem run_sub{P:Program}{S:TT}{w:World}{t el:TypeId}{ti ei:TI}(hS:S.Ok P)(ht:S.get t=some ti)(hd:ti.d= .slice el)(he:S.get el=some ei){σ:Operand->Value}{a:Option Addr}{n c:Nat}{lo hi:Option Operand}{l h:Int}
 (h1:boundV σ 0 lo=some l) (h2:boundV σ n hi=some h) (h0:0<=l) (h3:l<=h) (h4:h<=c) (h5:hi=none->n<=c):
 (Instr.sliceAt t (.slice a n c) (lo.map σ) (hi.map σ) none).run P w= .ok (partV ei.size l.toNat h.toNat (.slice a n c)) w:=by
 have hu:(underlying t).run P w= .ok (.slice el) w:=by rw [run_underlying (TT.Ok.get hS ht),hd]
 have hz:(sizeOf el).run P w= .ok ei.size w:=run_sizeOf (TT.Ok.get hS he)
 have eh:(h.toNat:Int)=h:=Int.toNat_of_nonneg (by omega)
 have hb:(Instr.sliceBounds true n c (lo.map σ) (hi.map σ) none).run P w= .ok (l.toNat,h.toNat,c) w:=by
  cases hi with
  |none=>
   simp only [boundV,Option.some.injEq] at h2
   subst h2
   cases lo with
   |none=>
    simp only [boundV,Option.some.injEq] at h1
    subst h1
    simp [Instr.sliceBounds]
   |some x=>
    simp only [boundV] at h1
    split at h1
    ·rename_i k i hx
     injection h1 with h1;subst h1
     have hl:i<=(n:Int):=h3
     simp [Instr.sliceBounds,hx,run_sliceBound,h0,hl]
    ·cases h1
  |some y=>
   simp only [boundV] at h2
   split at h2
   ·rename_i k j hy
    injection h2 with h2;subst h2
    have hj:0<=j:=by omega
    cases lo with
    |none=>
     simp only [boundV,Option.some.injEq] at h1
     subst h1
     simp [Instr.sliceBounds,hy,run_sliceBound,hj,h4]
    |some x=>
     simp only [boundV] at h1
     split at h1
     ·rename_i k2 i hx
      injection h1 with h1;subst h1
      simp [Instr.sliceBounds,hx,hy,run_sliceBound,hj,h4,h0,h3,eh]
     ·cases h1
   ·cases h2
 simp only [Instr.sliceAt,Instr.slice,Sem.run_bind,hu,Result.andThen_ok,hb,hz,Sem.run_pure,partV]
theorem boundA_eq{ρ:Operand->Option AV}{σ:Operand->Value}{d:Int}{h:GH}(hρ: ∀z x,ρ z=some x->Rp h x (σ z)){o:Option Operand}{i:Int}(hb:boundA ρ d o=some i):boundV σ d o=some i:=by
 cases o with
 |none=>exact hb
 |some x=>
  simp only [boundA] at hb
  split at hb
  ·rename_i k j hx
   have:=hρ _ _ hx
   rw [Rp_v] at this
   simp only [boundV,this.1]
   exact hb
  ·cases hb
theorem part_rp{h:GH}{sz:Nat}{xs:List AV}{own:Option Value}{v:Value}(r:Rp h (.sl sz xs own) v){l n:Nat}(h1:l<=n)(h2:n<=xs.length):Rp h (.sl sz ((xs.drop l).take (n-l)) none) (partV sz l n v):=by
 rw [Rp_sl] at r
 obtain ⟨a,c,rfl,g2,_,g4⟩:=r
 rw [Rp_sl]
 have hlen:((xs.drop l).take (n-l)).length=n-l:=by simp;omega
 refine ⟨if c=l then a else a.map (·.add (l*sz)),c-l,by rw [hlen];rfl,by rw [hlen];omega,trivial,fun hn=>?_⟩
 have hnl:l<n:=by
  rcases Nat.lt_or_ge l n with h|h
  ·exact h
  ·exact (hn (List.length_eq_zero_iff.1 (by rw [hlen];omega))).elim
 obtain ⟨b,o,rfl,g5⟩:=g4 (fun e=>by subst e;simp at h2;omega)
 refine ⟨b,o+l*sz,?_,RpE.sub l (n-l) g5⟩
 rw [if_neg (by omega)]
 simp only [Option.map_some,Addr.add]
 split
 ·rename_i h0;rw [h0];rfl
 ·rfl
section
variable{K:AC}{k:List It}{E:AEnv}{Λ:List AEnt}
theorem slice_run{o:Oper}{ks:List (Nat×Bool)}{t el:TypeId}{ti ei:TI}{x:Operand}{lo hi:Option Operand}{xv:AV}{xs:List AV}{own:Option Value}{l n:Int}{h:GH}{e:Env}
 (ho:o.op= .slice t x lo hi none) (hx:E.ev K.gs ks x=some xv) (ht:K.S.get t=some ti) (hdd:ti.d= .slice el) (he:K.S.get el=some ei) (hs:slOf ei.size xv=some (xs,own))
 (hlo:boundA (E.ev K.gs ks) 0 lo=some l) (hhi:boundA (E.ev K.gs ks) xs.length hi=some n) (h0:0<=l) (h1:l<=n) (h2:n<=xs.length) (hl:K.h0.le h) (r:RpEnv h E e):
 ∃y,Rp h (.sl ei.size ((xs.drop l.toNat).take (n.toNat-l.toNat)) none) y/\ ∀a w,Ag K.n K.D e a->keysOk a ks->(execOp a.eval o).run K.P w= .ok (.value y) w:=by
 obtain ⟨v1,e1,f1⟩:=r.ev (K.hgs.mono hl) _ hx
 have f1:=slOf_rp hs f1
 refine ⟨partV ei.size l.toNat n.toNat v1,part_rp f1 (by omega) (by omega),fun a w g hk=>?_⟩
 rw [Rp_sl] at f1
 obtain ⟨a1,c,rfl,g2,_⟩:=f1
 have hρ: ∀z x,E.ev K.gs ks z=some x->Rp h x (a.eval z):=fun z x hz=>by
  obtain ⟨v2,e2,f2⟩:=r.ev (K.hgs.mono hl) _ hz
  rw [g.ev hk e2];exact f2
 have:=run_sub (P:=K.P) (w:=w) (n:=xs.length) (c:=c) (a:=a1) K.ok ht hdd he (boundA_eq hρ hlo) (boundA_eq hρ hhi) h0 h1 (by omega) (fun _=>g2)
 unfold execOp
 rw [ho]
 simp only [g.ev hk e1,Option.map_none,Sem.run_bind,this,Result.andThen_ok,Sem.run_pure]
theorem A.slice{all:Array Oper}{o:Oper}{l':List Oper}{ks:List (Nat×Bool)}{t el:TypeId}{ti ei:TI}{x:Operand}{lo hi:Option Operand}{xv:AV}{xs:List AV}{own:Option Value}{l n:Int}{E':AEnv}{ys:List AV}
 (hg:gyesA E all o.guard=some ks) (ho:o.op= .slice t x lo hi none) (hx:E.ev K.gs ks x=some xv) (ht:K.S.get t=some ti) (hdd:ti.d= .slice el) (he:K.S.get el=some ei) (hs:slOf ei.size xv=some (xs,own))
 (hlo:boundA (E.ev K.gs ks) 0 lo=some l) (hhi:boundA (E.ev K.gs ks) xs.length hi=some n) (h0:0<=l) (h1:l<=n) (h2:n<=xs.length) (hy:(xs.drop l.toNat).take (n.toNat-l.toNat)=ys) (hput:E.put K.n none o.dst (.sl ei.size ys none)=some E')
 (next:A K (.ops all l'::k) E' Λ):A K (.ops all (o::l')::k) E Λ:=by
 subst hy
 refine A.valueY hg (fun h e L hl r q=>?_) hput next
 obtain ⟨y,f1,f2⟩:=slice_run (K:=K) ho hx ht hdd he hs hlo hhi h0 h1 h2 hl r
 exact ⟨y,f1,fun a w g s hk=>f2 a w g hk⟩
theorem sliceV_run{o:Oper}{ks:List (Nat×Bool)}{t el:TypeId}{ti ei:TI}{x:Operand}{lo hi:Option Operand}{a0:Option Addr}{len c:Nat}{l n:Int}{h:GH}{e:Env}
 (ho:o.op= .slice t x lo hi none) (hx:E.ev K.gs ks x=some (.v (.slice a0 len c))) (ht:K.S.get t=some ti) (hdd:ti.d= .slice el) (he:K.S.get el=some ei)
 (hlo:boundA (E.ev K.gs ks) 0 lo=some l) (hhi:boundA (E.ev K.gs ks) len hi=some n) (h0:0<=l) (h1:l<=n) (h2:n<=c) (h3:hi=none->len<=c) (hl:K.h0.le h) (r:RpEnv h E e):
 ∃y,Rp h (.v (partV ei.size l.toNat n.toNat (.slice a0 len c))) y/\ ∀a w,Ag K.n K.D e a->keysOk a ks->(execOp a.eval o).run K.P w= .ok (.value y) w:=by
 obtain ⟨v1,e1,f1⟩:=r.ev (K.hgs.mono hl) _ hx
 rw [Rp_v] at f1
 obtain ⟨rfl,_⟩:=f1
 refine ⟨_,Rp_v.2 ⟨rfl,rfl⟩,fun a w g hk=>?_⟩
 have hρ: ∀z x,E.ev K.gs ks z=some x->Rp h x (a.eval z):=fun z x hz=>by
  obtain ⟨v2,e2,f2⟩:=r.ev (K.hgs.mono hl) _ hz
  rw [g.ev hk e2];exact f2
 have:=run_sub (P:=K.P) (w:=w) (n:=len) (c:=c) (a:=a0) K.ok ht hdd he (boundA_eq hρ hlo) (boundA_eq hρ hhi) h0 h1 h2 h3
 unfold execOp
 rw [ho]
 simp only [g.ev hk e1,Option.map_none,Sem.run_bind,this,Result.andThen_ok,Sem.run_pure]
end
section
variable{K:AC}{all:Array Oper}{m:Nat}{k:List It}{pubs:Nat->List Nat}{Y:Ua}{π:List Nat}{E:AEnv}{Λ:List AEnt}{D:Da}
theorem kd_slice{o:Oper}{t:TypeId}{x:Operand}{lo hi mx:Option Operand}(ho:o.op= .slice t x lo hi mx):kd o= .qt:=by unfold kd;rw [ho]
theorem WA.quiet{i0:Nat}{o:Oper}{ks:List (Nat×Bool)}{x:AV}{E':AEnv}(hi0:nthL all.toList i0=some o)(hk:kd o= .qt)(hg:gyesA E all o.guard=some ks)
 (hr: ∀h e,K.h0.le h->RpEnv h E e-> ∃y,Rp h x y/\ ∀a w,Ag K.n K.D e a->keysOk a ks->(execOp a.eval o).run K.P w= .ok (.value y) w)
 (hput:E.put K.n none o.dst x=some E') (next:WA K all m k pubs Y π E' Λ D):WA K all m k pubs Y (i0::π) E Λ D:=by
 refine ⟨fun h e L Es hl r q d=>?_⟩
 obtain ⟨y,f1,f2⟩:=hr h e hl r
 obtain ⟨e',e4,e5⟩:=putA_eq r hput f1
 exact WE.valueY (G:=drawRg K.cfg all (L++K.G) pubs (YA Y) m k) hi0 hk (gyesA_eq r hg) (fun a w E0 g s hk=>f2 a w g hk) e4 (next.run h e' L Es hl e5 q d)
theorem WA.slice{i0:Nat}{o:Oper}{ks:List (Nat×Bool)}{t el:TypeId}{ti ei:TI}{x:Operand}{lo hi:Option Operand}{xv:AV}{xs:List AV}{own:Option Value}{l n:Int}{E':AEnv}{ys:List AV}
 (hi0:nthL all.toList i0=some o) (hg:gyesA E all o.guard=some ks) (ho:o.op= .slice t x lo hi none) (hx:E.ev K.gs ks x=some xv) (ht:K.S.get t=some ti) (hdd:ti.d= .slice el) (he:K.S.get el=some ei) (hs:slOf ei.size xv=some (xs,own))
 (hlo:boundA (E.ev K.gs ks) 0 lo=some l) (hhi:boundA (E.ev K.gs ks) xs.length hi=some n) (h0:0<=l) (h1:l<=n) (h2:n<=xs.length) (hy:(xs.drop l.toNat).take (n.toNat-l.toNat)=ys) (hput:E.put K.n none o.dst (.sl ei.size ys none)=some E')
 (next:WA K all m k pubs Y π E' Λ D):WA K all m k pubs Y (i0::π) E Λ D:=by
 subst hy
 exact WA.quiet hi0 (kd_slice ho) hg (fun h e hl r=>slice_run (K:=K) ho hx ht hdd he hs hlo hhi h0 h1 h2 hl r) hput next
end
def Lent(P:Program)(gs:Ua)(f:FuncId)(args:List AV)(Λ:List AEnt)(x:AV):Prop:=
 ∀w0 h vs L F,GsOk h gs->RpC h args vs->RpL h Λ L->Does P w0 f vs h (L++F) fun v h' L'=>L'=L++F/\h.le h'/\Rp h' x v
section
variable{K:AC}{k:List It}{E:AEnv}{Λ:List AEnt}
theorem A.rowRaw{z:Value}{sz:Nat}{l:List AV}(hm:AEnt.row sz z l∈Λ)(next: ∀a c,z= .slice a l.length c->l.length<=c->A K k E Λ):A K k E Λ:=by
 refine ⟨fun h e L hl r q=>?_⟩
 obtain ⟨L1,h1,⟨p,⟨a,c,zs,e1,e2,_⟩,_⟩⟩:=q.mem hm
 exact (next a c e1 e2).run h e L hl r q
theorem A.makeV{all:Array Oper}{o:Oper}{l:List Oper}{ks:List (Nat×Bool)}{t el:TypeId}{ti ei:TI}{y1 y2:Operand}{k1 k2:IntKind}{n:Int}{d:Nat}{x:AV}
 (hg:gyesA E all o.guard=some ks) (ho:o.op= .makeSlice t y1 y2) (h1:E.ev K.gs ks y1=some (.v (.int k1 n))) (h2:E.ev K.gs ks y2=some (.v (.int k2 n))) (ht:K.S.get t=some ti) (hdd:ti.d= .slice el) (he:K.S.get el=some ei)
 (hsz:Nat.blt 0 ei.size=true) (hlen:Nat.beq ei.zero.length ei.size=true) (hz:zeroA ei=some x) (hd:o.dst=some d) (hc:okPutA K.n E d=true) (h0:0<=n) (hb:(ei.bytes:Int)*n<=140737488355328) (hn:n<=9223372036854775807)
 (next: ∀(a:Option Addr) (c:Nat),n.toNat<=c->A K (.ops all l::k) ⟨(d, .ms (.slice a n.toNat c) ei.size n.toNat)::E.us,E.cs⟩ (.row ei.size (.slice a n.toNat c) (List.replicate n.toNat x)::Λ)):A K (.ops all (o::l)::k) E Λ:=
 A.make hg ho h1 h2 ht hdd he hsz hlen hz hd hc h0 hb hn fun z=>A.rowRaw (List.mem_cons_self ..) fun a c e1 e2=>by
  rw [List.length_replicate] at e1 e2
  subst e1
  exact next a c e2
end
end Go.Tp
namespace Go.Tp
open Go Go.RowKit
abbrev Wt{H:Type}(P:Program)(t:TypeId)(d:DataW H):Prop:=(DataW.weights P t d).all (· <=reachBytes)=true
theorem Wt_all{H:Type}{P:Program}{e:TypeId}: ∀{l:List (DataW H)},(DataW.weightsAll P e l).all (· <=reachBytes)=true-> ∀d,d∈l->Wt P e d
 | [],_,d,hd=>by cases hd
 |x::r,h,d,hd=>by
  simp only [DataW.weightsAll,List.all_append,Bool.and_eq_true] at h
  rcases List.mem_cons.1 hd with rfl|hd
  ·exact h.1
  ·exact Wt_all h.2 d hd
theorem Wt_each{H:Type}{P:Program}: ∀{ts:List TypeId} {l:List (DataW H)},(DataW.weightsEach P ts l).all (· <=reachBytes)=true-> ∀(i:Nat) t d,ts[i]? =some t->l[i]? =some d->Wt P t d
 | [],_,_,i,t,d,ht,_=>by simp at ht
 |_::_,[],_,i,t,d,_,hd=>by simp at hd
 |u::ts,x::r,h,i,t,d,ht,hd=>by
  simp only [DataW.weightsEach,List.all_append,Bool.and_eq_true] at h
  cases i with
  |zero=>simp at ht hd;subst ht;subst hd;exact h.1
  |succ i=>exact Wt_each h.2 i t d (by simpa using ht) (by simpa using hd)
section
variable{H:Type}{enc:TypeId×Value->H}{P:Program}{W:World}{base:Nat}{sp:Nat->Bool}{hd:Bool}
theorem hOf_cells{b o:Nat}{cs:List Value}(hc: ∀i,i<cs.length->W.cell? ⟨b,o+i,none⟩=cs[i]?)(h1:allOne cs=true):atH (hOf W) b o cs:=hOf_at hc (allOne_mem h1)
theorem RpE_build{α:Type}(en:α->AV)(Q:α->Prop){h:GH}{sz b:Nat}: ∀(m o:Nat),(∀i,i<m-> ∃a z,Q a/\Rp h (en a) z/\(cellsL z).length=sz/\atH h b (o+i*sz) (cellsL z))->
 ∃l:List α,l.length=m/\(∀a,a∈l->Q a)/\RpE h sz (l.map en) b o
 |0,o,_=>⟨[],rfl,fun a ha=>(by cases ha),RpE_nil⟩
 |m+1,o,hx=>by
  obtain ⟨a,z,q,r,hl,ha⟩:=hx 0 (by omega)
  obtain ⟨l,h1,h2,h3⟩:=RpE_build en Q m (o+sz) (fun i hi=>by
   obtain ⟨a,z,q,r,hl,ha⟩:=hx (i+1) (by omega)
   exact ⟨a,z,q,r,hl,by rw [show o+sz+i*sz=o+(i+1)*sz by rw [Nat.succ_mul];omega];exact ha⟩)
  refine ⟨a::l,by simp [h1],fun y hy=>?_,?_⟩
  ·rcases List.mem_cons.1 hy with rfl|hy
   ·exact q
   ·exact h2 y hy
  ·rw [List.map_cons,RpE_cons]
   exact ⟨⟨z,r,hl,by simpa using ha⟩,h3⟩
theorem open_sl{α:Type}(en:α->AV)(Q:α->Prop){t e:TypeId}{sz bt fuel:Nat}{cs:List Value}{x:DataW H×List MemPlace}(ht:P.underlying t=some (.slice e))(hsz:P.cellsOf e=sz)(hbt:P.bytesOf e=bt)(h0:0<sz)
 (hel: ∀m,m<fuel-> ∀cs y,cs.length=sz->DataW.trod enc P W base sp hd m e cs=some y->Wt P e y.1-> ∃a z,Q a/\Rp (hOf W) (en a) z/\cellsL z=cs/\allOne cs=true)
 (h:DataW.trod enc P W base sp hd fuel t cs=some x) (hw:Wt P t x.1): ∃(v:Value) (l:List α),cs=[v]/\(∀a,a∈l->Q a)/\Rp (hOf W) (.sl sz (l.map en) none) v/\l.length*bt<=reachBytes:=by
 rcases DataW.trod_slice ht h with ⟨rfl,_⟩|⟨a,len,cap,elems,rest,n,rfl,rfl,hx,hb,hl,hc,hlen,hall,_⟩
 ·exact ⟨_,[],rfl,fun a ha=>(by cases ha),nil_rp sz,by simp⟩
 ·rw [hx] at hw
  simp only [Wt,DataW.weights,ht,List.all_cons,List.all_append,Bool.and_eq_true,decide_eq_true_eq,List.length_map] at hw
  obtain ⟨hw1,hw2,_⟩:=hw
  have hbd:len*bt<=reachBytes:=by rw [hbt] at hw1;rw [<-hlen];exact Nat.le_trans (Nat.mul_le_mul_right _ (by omega)) hw1
  have key: ∀i,i<len-> ∃(cs:List Value) (y:DataW H×List MemPlace),W.cells? base (a.add (i*sz)) sz=some cs/\DataW.trod enc P W base sp hd n e cs=some y/\Wt P e y.1:=fun i hi=>by
   have:=hall i hi
   rw [hsz,List.getElem?_eq_getElem (by omega)] at this
   obtain ⟨cs',k1,k2⟩:=Option.bind_eq_some_iff.1 this
   exact ⟨cs',_,k1,k2,Wt_all hw2 _ (List.mem_map_of_mem (List.getElem_mem ..))⟩
  by_cases hz:len=0
  ·subst hz
   refine ⟨_,[],rfl,fun a ha=>(by cases ha),?_,by simp⟩
   rw [Rp_sl];exact ⟨some a,cap,rfl,Nat.zero_le _,trivial,fun hn=>(hn rfl).elim⟩
  ·obtain ⟨b,off,spot⟩:=a
   have hspot:spot=none:=by
    obtain ⟨cs',y,k1,k2,_⟩:=key 0 (by omega)
    obtain ⟨_,k3,k4⟩:=World.cells?_some k1
    have:=k4 0 (by omega)
    rw [List.getElem?_eq_getElem (by omega)] at this
    simpa [Addr.add] using World.cell?_spot this
   subst hspot
   obtain ⟨l,h1,h2,h3⟩:=RpE_build (h:=hOf W) (b:=b) (sz:=sz) en Q len off (fun i hi=>by
    obtain ⟨cs',y,k1,k2,k5⟩:=key i hi
    obtain ⟨_,k3,k4⟩:=World.cells?_some k1
    obtain ⟨a,z,q,r,e1,e2⟩:=hel n (by omega) cs' y k3 k2 k5
    subst e1
    refine ⟨a,z,q,r,k3,hOf_cells (fun j hj=>?_) e2⟩
    have:=k4 j (by omega)
    rwa [add_norm,add_norm] at this)
   refine ⟨_,l,rfl,h2,?_,by rw [h1];exact hbd⟩
   rw [Rp_sl,List.length_map]
   exact ⟨some ⟨b,off,none⟩,cap,by rw [h1],by rw [h1];exact hl,trivial,fun _=>⟨b,off,rfl,h3⟩⟩
theorem open_st{t:TypeId}{fs:Array Field}{n fuel:Nat}{cs:List Value}{x:DataW H×List MemPlace}(ht:P.underlying t=some (.struct fs))(hn:P.cellsOf t=n)
 (h:DataW.trod enc P W base sp hd fuel t cs=some x) (hw:Wt P t x.1): ∃m,m<fuel/\cs.length=n/\
   ∀(i:Nat) (f:Field),fs[i]? =some f-> ∃y,DataW.trod enc P W base sp hd m f.type ((cs.drop f.offset).take (P.cellsOf f.type))=some y/\Wt P f.type y.1:=by
 obtain ⟨xs,m,rfl,rfl,hlen,hxs,hf⟩:=DataW.trod_struct ht h
 refine ⟨m,Nat.lt_succ_self _,by rw [hlen,hn],fun i f hi=>?_⟩
 have h1:=hf i f hi
 have hlt:i<xs.length:=by
  rw [hxs]
  rcases Nat.lt_or_ge i fs.size with h|h
  ·exact h
  ·rw [Array.getElem?_eq_none h] at hi;cases hi
 rw [List.getElem?_eq_getElem hlt] at h1
 refine ⟨_,h1,?_⟩
 simp only [Wt,DataW.weights,ht] at hw
 refine Wt_each hw i f.type _ ?_ ?_
 ·rw [List.getElem?_map,Array.getElem?_toList,hi];rfl
 ·rw [List.getElem?_map,List.getElem?_eq_getElem hlt];rfl
theorem open_i32{t:TypeId}{fuel:Nat}{cs:List Value}{x:DataW H×List MemPlace}(ht:P.underlying t=some (.int .i32))(h:DataW.trod enc P W base sp hd fuel t cs=some x): ∃n,cs=[.int .i32 n]/\i32 n:=by
 obtain ⟨n,h1,_,h2⟩:=DataW.trod_int ht h;exact ⟨n,h1,wf_i32 h2⟩
theorem open_i64{t:TypeId}{fuel:Nat}{cs:List Value}{x:DataW H×List MemPlace}(ht:P.underlying t=some (.int .i64))(h:DataW.trod enc P W base sp hd fuel t cs=some x): ∃n,cs=[.int .i64 n]/\i64 n:=by
 obtain ⟨n,h1,_,h2⟩:=DataW.trod_int ht h;exact ⟨n,h1,wf_i64 h2⟩
theorem open_u8{t:TypeId}{fuel:Nat}{cs:List Value}{x:DataW H×List MemPlace}(ht:P.underlying t=some (.int .u8))(h:DataW.trod enc P W base sp hd fuel t cs=some x): ∃n,cs=[.int .u8 n]/\u8 n:=by
 obtain ⟨n,h1,_,h2⟩:=DataW.trod_int ht h;exact ⟨n,h1,wf_u8 h2⟩
theorem pure_true{f:FuncId}{fn:Func}{s:ChangeSpec}{gs':Ua}{args:List Value}{as:List AV}{ds gs:List (DataW H)}{before:List MemPlace}{tb:TypeId}
 (hl:laidOutB P=true) (hr:(fn.params.toList.all fun t=>P.readableRec t&&decide (t<P.types.size))=true) (hrt:fn.resultTypes= #[tb]) (hb:P.underlying tb=some .bool) (hv:s.vars=[])
 (hs:s.fn H (ds++gs)={results:=[.lit (.bool true)],args:=ds}) (hW:DataW.Whole enc P fn.params.toList s.vars false W args ds gs before)
 (hg:GsOk (hOf W) gs') (ha:RpC (hOf W) as args) (hf:Pure P gs' f as (.v (.bool true))):
 Calls P f ⟨args⟩ W fun e W'=> ∃v,e= .returned v/\s.post enc P fn false true false false W ⟨args⟩ v W':=by
 refine calls_true (h:=hOf W) hl hr hrt hb hv hs hW (hOf_st W) ?_
 refine (hf W (hOf W) args [] [] hg ha rfl).mono ?_
 rintro v h' L' ⟨x,Λ',L1,⟨rfl,rfl⟩,e2,e3,e4,rfl⟩
 rw [Rp_v] at e2
 have e4:L1=[]:=e4
 subst e4
 exact ⟨rfl,e3,e2.1⟩
end
end Go.Tp
namespace Go.Tp
open Go Go.RowKit
def slotB(E:AEnv)(t:Nat):Option (Nat×Bool):=match lookA E.us t with
 |some (.v (.bool b))=>some (t,b)
 |_=>none
def hangs(E:AEnv)(all:Array Oper)(o:Oper):Option (Nat×Bool):=match o.guard with
 |some (j,w)=>match nthL all.toList j with
  |some o'=>match o'.dst with
   |some t=>match slotB E t with
    |some r=>some r
    |none=>none
   |none=>none
  |none=>none
 |none=>match o.op with
  | .pick (.tmp t) x y=>slotB E t
  |_=>none
def hangsP(E:AEnv)(o:Oper):Option (Nat×Bool):=match o.op with
 | .pick (.tmp t) x y=>slotB E t
 |_=>none
def gslot(E:AEnv):List It->Option (Nat×Bool)
 | .ops all (o::l)::k=>hangs E all o
 | .code (.cond (.tmp t) x y)::k=>slotB E t
 |_=>none
def gslotP(E:AEnv):List It->Option (Nat×Bool)
 | .ops all (o::l)::k=>hangsP E o
 |_=>none
def isLit:Option (Nat×Bool)->Bool
 |some (_,true)=>true
 |some (_,false)=>true
 |none=>true
section
variable{K:AC}{k:List It}{E:AEnv}{Λ:List AEnt}
theorem slotB_eq{t t':Nat}{p:Bool}(h:slotB E t=some (t',p)):t=t'/\lookA E.us t'=some (.v (.bool p)):=by
 unfold slotB at h
 split at h
 ·rename_i b hb
  injection h with h;injection h with h1 h2;subst h1;subst h2
  exact ⟨rfl,hb⟩
 ·cases h
theorem hangs_eq{all:Array Oper}{o:Oper}{t:Nat}{p:Bool}(h:hangs E all o=some (t,p)):lookA E.us t=some (.v (.bool p)):=by
 unfold hangs at h
 split at h
 ·split at h
  ·split at h
   ·split at h
    ·rename_i r hr;injection h with h;subst h;exact (slotB_eq hr).2
    ·cases h
   ·cases h
  ·cases h
 ·split at h
  ·exact (slotB_eq h).2
  ·cases h
theorem gslot_eq{t:Nat}{p:Bool}(h:gslot E k=some (t,p)):lookA E.us t=some (.v (.bool p)):=by
 unfold gslot at h
 split at h
 ·exact hangs_eq h
 ·exact (slotB_eq h).2
 ·cases h
theorem gslotP_eq{t:Nat}{p:Bool}(h:gslotP E k=some (t,p)):lookA E.us t=some (.v (.bool p)):=by
 unfold gslotP at h
 split at h
 ·unfold hangsP at h
  split at h
  ·exact (slotB_eq h).2
  ·cases h
 ·cases h
theorem A.lit? (h:isLit (gslot E k)=true)(next:A K k E Λ):A K k E Λ:=next
theorem A.litP? (h:isLit (gslotP E k)=true)(next:A K k E Λ):A K k E Λ:=next
theorem A.gS{t:Nat}{p:Bool}(h:gslot E k=some (t,p))(ht:p=true->A K k ⟨(t, .v (.bool true))::E.us,E.cs⟩ Λ)(hf:p=false->A K k ⟨(t, .v (.bool false))::E.us,E.cs⟩ Λ):A K k E Λ:=
 A.split t (gslot_eq h) ht hf
theorem A.gT{t:Nat}{p:Bool}(h:gslot E k=some (t,p))(hp:p=true)(ht:A K k ⟨(t, .v (.bool true))::E.us,E.cs⟩ Λ):A K k E Λ:=
 A.split t (gslot_eq h) (fun _=>ht) (fun hf=>by rw [hp] at hf;cases hf)
theorem A.gF{t:Nat}{p:Bool}(h:gslot E k=some (t,p))(hp:p=false)(hf:A K k ⟨(t, .v (.bool false))::E.us,E.cs⟩ Λ):A K k E Λ:=
 A.split t (gslot_eq h) (fun ht=>by rw [hp] at ht;cases ht) (fun _=>hf)
theorem A.gSP{t:Nat}{p:Bool}(h:gslotP E k=some (t,p))(ht:p=true->A K k ⟨(t, .v (.bool true))::E.us,E.cs⟩ Λ)(hf:p=false->A K k ⟨(t, .v (.bool false))::E.us,E.cs⟩ Λ):A K k E Λ:=
 A.split t (gslotP_eq h) ht hf
end
section
variable{K:AC}{all:Array Oper}{m:Nat}{k:List It}{pubs:Nat->List Nat}{Y:Ua}{π:List Nat}{E:AEnv}{Λ:List AEnt}{D:Da}
def wslot(E:AEnv)(all:Array Oper):List Nat->Option (Nat×Bool)
 |i::π=>match nthL all.toList i with
  |some o=>match hangs E all o with
   |some r=>some r
   |none=>none
  |none=>none
 | []=>none
theorem wslot_eq{t:Nat}{p:Bool}(h:wslot E all π=some (t,p)):lookA E.us t=some (.v (.bool p)):=by
 unfold wslot at h
 split at h
 ·split at h
  ·split at h
   ·rename_i r hr;injection h with h;subst h;exact hangs_eq hr
   ·cases h
  ·cases h
 ·cases h
theorem WA.gS{t:Nat}{p:Bool}(h:wslot E all π=some (t,p))(ht:p=true->WA K all m k pubs Y π ⟨(t, .v (.bool true))::E.us,E.cs⟩ Λ D)(hf:p=false->WA K all m k pubs Y π ⟨(t, .v (.bool false))::E.us,E.cs⟩ Λ D):WA K all m k pubs Y π E Λ D:=
 WA.split t (wslot_eq h) ht hf
end
inductive ResA(S:TT)(us:Ua)(Λ:List AEnt):List ResultVar->List AV->Prop
 |nil:ResA S us Λ [] []
 |tmp {t:Nat} {x:AV} {rs:List ResultVar} {xs:List AV}:lookA us t=some x->ResA S us Λ rs xs->ResA S us Λ (.tmp t::rs) (x::xs)
 |cell {p:Nat} {t:TypeId} {b off:Nat} {ti:TI} {x y:AV} {rs:List ResultVar} {xs:List AV}:lookA us p=some (.v (.pointer (some ⟨b,off,none⟩)))->S.get t=some ti->[AAt Λ b x]->ldA ti x off=some y->
   ResA S us Λ rs xs->ResA S us Λ (.cell p t::rs) (y::xs)
def resOne(tmps:Array Value):ResultVar->Sem Value
 | .tmp t=>pure (tmps.getD t undef)
 | .cell a t=>do loadVar t (<-asAddr (tmps.getD a undef))
theorem ResA.run{K:AC}{E:AEnv}{e:Env}{h:GH}{Λ:List AEnt}{L:List Ent}(r:RpEnv h E e)(q:RpL h Λ L){rs:List ResultVar}{xs:List AV}(ra:ResA K.S E.us Λ rs xs):
 ∃vs,RpC h xs vs/\ ∀a w (M:List Ent),(∀p,p∈L->p∈M)->Ag K.n K.D e a->St K.w0 h M w->(rs.mapM (resOne a.tmps)).run K.P w= .ok vs w:=by
 induction ra with
 |nil=>exact ⟨[],RpC_nil.2 rfl,fun a w M _ g s=>by simp⟩
 | @tmp t x rs xs hx _ ih=>
   obtain ⟨vs,i1,i2⟩:=ih
   rcases r.1.look t with ⟨z,v,e1,e2,e3⟩|⟨e1,e2⟩
   ·rw [hx] at e1;injection e1 with e1;subst e1
    refine ⟨v::vs,RpC_cons.2 ⟨v,vs,rfl,e3,i1⟩,fun a w M hM g s=>?_⟩
    have h1:(resOne a.tmps (.tmp t)).run K.P w= .ok v w:=by simp [resOne,g.us _ _ e2]
    simp [List.mapM_cons,h1,i2 a w M hM g s]
   ·rw [hx] at e1;cases e1
 | @cell p t b off ti x y rs xs hx ht i hv _ ih=>
   obtain ⟨vs,i1,i2⟩:=ih
   rcases r.1.look p with ⟨z,v,e1,e2,e3⟩|⟨e1,e2⟩
   ·rw [hx] at e1;injection e1 with e1;subst e1
    rw [Rp_v] at e3;rw [e3.1] at e2
    obtain ⟨pe,g1,z,g2,g3⟩:=q.mem i.mem
    subst g3
    have g1:=g1 _ (List.mem_singleton.2 rfl)
    obtain ⟨v',e4,e5⟩:=ldA_rp (b:=b) g2 hv
    refine ⟨v'::vs,RpC_cons.2 ⟨v',vs,rfl,e5,i1⟩,fun a w M hM g s=>?_⟩
    have h0:=run_ldV (P:=K.P) (TT.Ok.get K.ok ht) (s.own _ (hM _ g1)) rfl e4
    have h0':(loadVar t ⟨b,off,none⟩).run K.P w= .ok v' w:=by simpa [Instr.loadAt,Instr.sureAddr] using h0
    have h1:(resOne a.tmps (.cell p t)).run K.P w= .ok v' w:=by simp [resOne,g.us _ _ e2,h0',asAddr]
    simp [List.mapM_cons,h1,i2 a w M hM g s]
   ·rw [hx] at e1;cases e1
theorem A.retN{K:AC}{k:List It}{E:AEnv}{Λ Λ':List AEnt}{rs:List ResultVar}{x y:AV}{xs:List AV}(hk:atEnd k=true)(hr:K.fn.results.toList=rs)(ra:ResA K.S E.us Λ rs (x::y::xs))(hs:Λ'.Sublist Λ)(hq:K.Q (.tp (x::y::xs)) Λ')(hrd:K.rd=none:=by rfl):A K k E Λ:=by
 refine ⟨fun h e L hl r q=>?_⟩
 obtain ⟨vs,i1,i2⟩:=ra.run r q
 obtain ⟨L',m1,m2⟩:=q.sub hs
 refine V.ret (C:=K.cfg) (atEnd_or hk) hrd rfl (v:= .tuple ⟨vs⟩) (fun a w g s=>?_) ⟨_,Λ',L',hq,Rp_tp.2 ⟨vs,rfl,i1⟩,hl,m1,m2.append_right _⟩
 have hm:=i2 a w (L++K.F) (fun p hp=>List.mem_append_left _ hp) g s
 have hl2:=i1.len
 have e1:results K.fn a.tmps=(do let vs<-K.fn.results.mapM (resOne a.tmps);pure (if h:vs.size=1 then vs[0] else .tuple vs)):=by
  unfold results
  congr 1
 show (results K.fn a.tmps).run K.P w=_
 rw [e1,Array.mapM_eq_mapM_toList,hr]
 simp [hm]
 intro h1
 rw [h1] at hl2
 simp at hl2
end Go.Tp
namespace Go.Tp
open Go Go.RowKit Go.ChangeShapes Go.WideShapes Go.ChangeAt
section
variable{H:Type}{enc:TypeId×Value->H}{P:Program}{W:World}{base:Nat}{sp:Nat->Bool}{hd:Bool}
def Opn(enc:TypeId×Value->H)(P:Program)(W:World)(base:Nat)(sp:Nat->Bool)(hd:Bool){α:Type}(n:Nat)(t:TypeId)(cells:α->List AV)(Q:α->Prop):Prop:=
 ∀m,m<n-> ∀cs x,DataW.trod enc P W base sp hd m t cs=some x->Wt P t x.1-> ∃a,Q a/\RpC (hOf W) (cells a) cs/\allOne cs=true
theorem Opn.zero{α:Type}{t:TypeId}{cells:α->List AV}{Q:α->Prop}:Opn enc P W base sp hd 0 t cells Q:=fun m hm=>by omega
theorem Opn.mono{α:Type}{n n':Nat}{t:TypeId}{cells:α->List AV}{Q:α->Prop}(h:Opn enc P W base sp hd n t cells Q)(hn:n'<=n):Opn enc P W base sp hd n' t cells Q:=fun m hm=>h m (by omega)
theorem Opn.map{α β:Type}{n:Nat}{t:TypeId}{cells:α->List AV}{Q:α->Prop}{cells':β->List AV}{Q':β->Prop}(h:Opn enc P W base sp hd n t cells Q)(f:α->β)(hc: ∀a,cells' (f a)=cells a)(hq: ∀a,Q a->Q' (f a)):
 Opn enc P W base sp hd n t cells' Q':=fun m hm cs x h1 h2=>by
 obtain ⟨a,q,r,o⟩:=h m hm cs x h1 h2
 exact ⟨f a,hq a q,by rw [hc];exact r,o⟩
theorem Opn.u8{t:TypeId}(ht:P.underlying t=some (.int .u8))(n:Nat):Opn enc P W base sp hd n t (fun a:Int=>[.v (.int .u8 a)]) Go.Tp.u8:=fun m hm cs x h1 h2=>by
 obtain ⟨a,rfl,q⟩:=open_u8 ht h1
 exact ⟨a,q,RpC_cons.2 ⟨_,_,rfl,Rp_v.2 ⟨rfl,rfl⟩,RpC_nil.2 rfl⟩,rfl⟩
theorem Opn.i32{t:TypeId}(ht:P.underlying t=some (.int .i32))(n:Nat):Opn enc P W base sp hd n t (fun a:Int=>[.v (.int .i32 a)]) Go.Tp.i32:=fun m hm cs x h1 h2=>by
 obtain ⟨a,rfl,q⟩:=open_i32 ht h1
 exact ⟨a,q,RpC_cons.2 ⟨_,_,rfl,Rp_v.2 ⟨rfl,rfl⟩,RpC_nil.2 rfl⟩,rfl⟩
theorem Opn.i64{t:TypeId}(ht:P.underlying t=some (.int .i64))(n:Nat):Opn enc P W base sp hd n t (fun a:Int=>[.v (.int .i64 a)]) Go.Tp.i64:=fun m hm cs x h1 h2=>by
 obtain ⟨a,rfl,q⟩:=open_i64 ht h1
 exact ⟨a,q,RpC_cons.2 ⟨_,_,rfl,Rp_v.2 ⟨rfl,rfl⟩,RpC_nil.2 rfl⟩,rfl⟩
theorem Opn.sliceA{α:Type}{n sz bt:Nat}{t e:TypeId}{cells:α->List AV}{Q:α->Prop}(ht:P.underlying t=some (.slice e))(hsz:P.cellsOf e=sz)(hbt:P.bytesOf e=bt)(h0:0<sz)(h:Opn enc P W base sp hd n e cells Q):
 Opn enc P W base sp hd (n+1) t (fun l:List α=>[.sl sz (l.map fun a=> .ag (cells a)) none]) (fun l=>(∀a,a∈l->Q a)/\l.length*bt<=reachBytes):=fun m hm cs x h1 h2=>by
 obtain ⟨v,l,rfl,q,r,b⟩:=open_sl (fun a=> .ag (cells a)) Q ht hsz hbt h0 (fun k hk cs y hl hy hw=>by
  obtain ⟨a,q,r,o⟩:=h k (by omega) cs y hy hw
  exact ⟨a, .agg ⟨cs⟩,q,Rp_ag.2 ⟨cs,rfl,r⟩,by rw [cellsL_eq];rfl,o⟩) h1 h2
 refine ⟨l,⟨q,b⟩,RpC_cons.2 ⟨_,_,rfl,r,RpC_nil.2 rfl⟩,?_⟩
 obtain ⟨a,c,rfl,_⟩:=Rp_sl.1 r
 rfl
def OpnF(enc:TypeId×Value->H)(P:Program)(W:World)(base:Nat)(sp:Nat->Bool)(hd:Bool){α:Type}(n:Nat)(fs:List Field)(o:Nat)(cells:α->List AV)(Q:α->Prop):Prop:=
 ∀m,m<n-> ∀cs:List Value,(∀f,f∈fs-> ∃y,DataW.trod enc P W base sp hd m f.type ((cs.drop f.offset).take (P.cellsOf f.type))=some y/\Wt P f.type y.1)-> ∃a,Q a/\ ∃k,RpC (hOf W) (cells a) ((cs.drop o).take k)/\allOne ((cs.drop o).take k)=true/\o+k=(fs.getLast?.map fun f=>f.offset+P.cellsOf f.type).getD o
theorem allOne_join: ∀{a b:List Value},allOne a=true->allOne b=true->allOne (a++b)=true
 | [],_,_,h=>h
 |x::a,b,h1,h2=>by
  simp only [allOne] at h1
  split at h1
  ·rename_i hx
   simp only [List.cons_append,allOne,hx]
   exact allOne_join h1 h2
  ·cases h1
theorem OpnF.nil{n o:Nat}:OpnF enc P W base sp hd n [] o (fun _:Unit=>[]) (fun _=>True):=fun m hm cs _=>⟨(),trivial,0,by rw [List.take_zero];exact RpC_nil.2 rfl,by rw [List.take_zero];rfl,rfl⟩
theorem OpnF.cons{α β:Type}{n o:Nat}{f:Field}{fs:List Field}{c1:α->List AV}{Q1:α->Prop}{c2:β->List AV}{Q2:β->Prop}(h:Opn enc P W base sp hd n f.type c1 Q1)(ho:f.offset=o)(sz:Nat)(hsz:P.cellsOf f.type=sz)(hr:OpnF enc P W base sp hd n fs (o+sz) c2 Q2):
 OpnF enc P W base sp hd n (f::fs) o (fun p:α×β=>c1 p.1++c2 p.2) (fun p=>Q1 p.1/\Q2 p.2):=fun m hm cs hf=>by
 obtain ⟨y,h1,h2⟩:=hf f (List.mem_cons_self ..)
 obtain ⟨a,q1,r1,o1⟩:=h m hm _ _ h1 h2
 obtain ⟨b,q2,k,r2,o2,e2⟩:=hr m hm cs (fun g hg=>hf g (List.mem_cons_of_mem _ hg))
 rw [ho,hsz] at r1 o1
 have e:(cs.drop o).take (sz+k)=(cs.drop o).take sz++(cs.drop (o+sz)).take k:=by rw [List.take_add,List.drop_drop]
 refine ⟨(a,b),⟨q1,q2⟩,sz+k,?_,?_,?_⟩
 ·rw [e];exact r1.append r2
 ·rw [e];exact allOne_join o1 o2
 ·cases fs with
  |nil=>simp only [List.getLast?_nil,Option.map_none,Option.getD_none] at e2;simp [hsz,ho];omega
  |cons g gs=>
   rw [List.getLast?_cons_cons]
   obtain ⟨z,hz⟩: ∃z,(g::gs).getLast? =some z:=⟨_,List.getLast?_eq_some_getLast (by simp)⟩
   rw [hz] at e2⊢
   simp only [Option.map_some,Option.getD_some] at e2⊢
   omega
theorem Opn.struct{α:Type}{n sz:Nat}{t:TypeId}{fs:Array Field}{cells:α->List AV}{Q:α->Prop}(ht:P.underlying t=some (.struct fs))(hsz:P.cellsOf t=sz)(h:OpnF enc P W base sp hd n fs.toList 0 cells Q)
 (he:((fs.toList.getLast?.map fun f=>f.offset+P.cellsOf f.type).getD 0)=sz):Opn enc P W base sp hd (n+1) t cells Q:=fun m hm cs x h1 h2=>by
 obtain ⟨k,hk,hl,hf⟩:=open_st ht hsz h1 h2
 obtain ⟨a,q,k',r,o,e⟩:=h k (by omega) cs (fun f hm=>by
  obtain ⟨i,hi⟩:=List.mem_iff_getElem?.1 hm
  exact hf i f (by rw [<-Array.getElem?_toList];exact hi))
 rw [he,Nat.zero_add] at e
 subst e
 rw [List.drop_zero,<-hl,List.take_length] at r o
 exact ⟨a,q,r,o⟩
theorem arg_struct{α:Type}{t:TypeId}{fs:Array Field}{cells:α->List AV}{Q:α->Prop}{v:Value}{d:DataW H}{p:List MemPlace}(ht:P.underlying t=some (.struct fs))(h: ∀n,Opn enc P W 0 (fun _=>true) true n t cells Q)
 (hval:Value.okWide P W .any base t v) (hx:DataW.Trod enc P W 0 (fun _=>true) true t v d p) (hw:Wt P t d): ∃a,Q a/\Rp (hOf W) (.ag (cells a)) v:=by
 obtain ⟨cs,rfl,_⟩:=okWide_struct ht hval
 obtain ⟨fuel,hf⟩:=hx
 obtain ⟨a,q,r,_⟩:=h (fuel+1) fuel (Nat.lt_succ_self _) _ _ hf hw
 exact ⟨a,q,Rp_ag.2 ⟨cs.toList,rfl,r⟩⟩
theorem arg_one{α:Type}{t:TypeId}{en:α->AV}{Q:α->Prop}{v:Value}{d:DataW H}{p:List MemPlace}(hv:v.cells.toList=[v])(h: ∀n,Opn enc P W 0 (fun _=>true) true n t (fun a=>[en a]) Q)
 (hx:DataW.Trod enc P W 0 (fun _=>true) true t v d p) (hw:Wt P t d): ∃a,Q a/\Rp (hOf W) (en a) v:=by
 obtain ⟨fuel,hf⟩:=hx
 rw [hv] at hf
 obtain ⟨a,q,r,_⟩:=h (fuel+1) fuel (Nat.lt_succ_self _) _ _ hf hw
 obtain ⟨u,us,e,r1,r2⟩:=RpC_cons.1 r
 injection e with e _
 subst e
 exact ⟨a,q,r1⟩
theorem arg_slice{α:Type}{t e:TypeId}{en:α->AV}{Q:α->Prop}{v:Value}{d:DataW H}{p:List MemPlace}(ht:P.underlying t=some (.slice e))(h: ∀n,Opn enc P W 0 (fun _=>true) true n t (fun a=>[en a]) Q)
 (hval:Value.okWide P W .any base t v) (hx:DataW.Trod enc P W 0 (fun _=>true) true t v d p) (hw:Wt P t d): ∃a,Q a/\Rp (hOf W) (en a) v:=by
 obtain ⟨a,len,cap,rfl⟩:=okWide_slice ht hval
 exact arg_one rfl h hx hw
end
end Go.Tp
namespace Go.Tp
open Go Go.RowKit
theorem RpC_u8{h:GH}: ∀{l:List Int} {vs:List Value},RpC h (l.map fun n=> .v (.int .u8 n)) vs->vs=l.map (Value.int .u8)
 | [],vs,r=>by rw [List.map_nil,RpC_nil] at r;exact r
 |n::l,vs,r=>by
  rw [List.map_cons,RpC_cons] at r
  obtain ⟨v,vs',rfl,r1,r2⟩:=r
  rw [Rp_v] at r1
  rw [r1.1,RpC_u8 r2];rfl
theorem push_all: ∀(l:List Int) (s:ByteArray),l.foldl (fun r n=>r.push (UInt8.ofNat n.toNat)) s=⟨s.data++(l.map fun n=>UInt8.ofNat n.toNat).toArray⟩
 | [],s=>by simp
 |n::l,s=>by
  rw [List.foldl_cons,push_all l]
  simp [ByteArray.push]
section
variable{K:AC}{k:List It}{E:AEnv}{Λ:List AEnt}
theorem A.bytesStr{all:Array Oper}{o:Oper}{l':List Oper}{ks:List (Nat×Bool)}{t d el:TypeId}{ti di ei:TI}{x:Operand}{l:List Int}{own:Option Value}{E':AEnv}{s:List UInt8}
 (hg:gyesA E all o.guard=some ks) (ho:o.op= .convert t d x) (hx:E.ev K.gs ks x=some (.sl 1 (l.map fun n=> .v (.int .u8 n)) own)) (ht:K.S.get t=some ti) (hdd:ti.d= .slice el) (he:K.S.get el=some ei) (hee:ei.d= .int .u8)
 (hdt:K.S.get d=some di) (hds:di.d= .string) (hs:(l.map fun n=>UInt8.ofNat n.toNat)=s) (hput:E.put K.n none o.dst (AS s)=some E') (next:A K (.ops all l'::k) E' Λ):A K (.ops all (o::l')::k) E Λ:=by
 refine A.valueY hg (fun h e L hl r q=>?_) hput next
 obtain ⟨v,e1,f1⟩:=r.ev (K.hgs.mono hl) _ hx
 refine ⟨.string (BS s),Rp_v.2 ⟨rfl,rfl⟩,fun a w g st hk=>?_⟩
 have okt:=TT.Ok.get K.ok ht
 have oke:=TT.Ok.get K.ok he
 have okd:=TT.Ok.get K.ok hdt
 rw [Rp_sl] at f1
 obtain ⟨ad,cap,rfl,hc,_,hn⟩:=f1
 unfold execOp
 rw [ho]
 simp only [g.ev hk e1,Sem.run_bind,Sem.run_pure]
 rw [run_convert_bytes_string w t d el ad _ cap (by rw [okt.und,hdd]) (by rw [oke.und,hee]) (by rw [okd.und,hds])]
 rw [List.length_map]
 cases ad with
 |none=>
  have hl0:l=[]:=by
   cases l with
   |nil=>rfl
   |cons n l=>obtain ⟨b,o,h1,_⟩:=hn (by simp);cases h1
  subst hl0
  subst hs
  simp [Conv.bytesToString];rfl
 |some ad=>
  have key:(loadCells ad l.length).run K.P w= .ok (l.map (Value.int .u8)).toArray w:=by
   cases l with
   |nil=>simp [loadCells,loadCellsFrom]
   |cons n l=>
    obtain ⟨b,o,h1,h2⟩:=hn (by simp)
    injection h1 with h1;subst h1
    obtain ⟨zs,z1,z2,z3⟩:=RpE_cat h2
    have hz:=RpC_u8 z1
    have hcat:catL zs=(n::l).map (Value.int .u8):=by
     rw [hz];unfold catL
     generalize (n::l)=m
     induction m with
     |nil=>rfl
     |cons y m ih=>rw [List.map_cons,List.flatMap_cons,ih];rfl
    rw [hcat] at z3
    have:=run_loadCellsAt (P:=K.P) (w:=w) (b:=b) (o:=o) (vs:=(n::l).map (Value.int .u8)) (fun i v hv=>st.imm _ _ _ (z3 i v hv))
    rw [List.length_map] at this
    exact this
  rw [run_bytesToString w ad l.length cap l key]
  subst hs
  rw [push_all]
  simp
theorem A.fullTail(sz n:Nat)(a:Option Addr)(ha:a=none->n=0)(hs: ∀x,a=some x->x.spot=none)(next:A K k E (.tail sz (.slice a n n)::Λ)):A K k E Λ:=
 ⟨fun h e L hl r q=>by
   obtain ⟨p,h1,h2,h3⟩:=Tl.full sz n a ha hs
   exact V.hollow (C:=K.cfg) p h2 h3 (next.run h e (p::L) hl r (.one ⟨p,h1,rfl⟩ q))⟩
theorem A.boxAs{b:Nat}{x x':AV}{Λ':List AEnt}(hp:Λ.Perm (.box b x::Λ'))(hx: ∀(h:GH) y,Rp h x y->Rp h x' y)(next:A K k E (.box b x'::Λ')):A K k E Λ:=by
 refine A.perm hp (A.ents (Λ':= .box b x'::Λ') (fun h L q=>?_) next)
 obtain ⟨L1,L2,rfl,q1,q2⟩:=q
 obtain ⟨z,r,rfl⟩:=q1
 exact ⟨_,⟨_,L2,rfl,⟨z,hx h z r,rfl⟩,q2⟩, .refl _⟩
theorem nil_own{h:GH}(sz:Nat){y:Value}(r:Rp h (.v (.slice none 0 0)) y):Rp h (.sl sz [] (some (.slice none 0 0))) y:=by
 rw [Rp_v] at r;rw [r.1,Rp_sl]
 exact ⟨none,0,rfl,Nat.le_refl _,rfl,fun hn=>(hn rfl).elim⟩
end
section
variable{K:AC}{k k':List It}{E E':AEnv}{Λ Λ':List AEnt}
end
section
variable{K:AC}{all:Array Oper}{m:Nat}{k:List It}{pubs:Nat->List Nat}{Y:Ua}{π π':List Nat}{E E':AEnv}{Λ:List AEnt}{D:Da}
end
section
variable{K:AC}{k k':List It}{E E':AEnv}{Λ Λ':List AEnt}
end
section
variable{K:AC}{k:List It}{E:AEnv}{Λ:List AEnt}
end
section
variable{P:Program}{w:World}{t kt:TypeId}{ti ki:TI}
theorem run_getMap{b:Nat}{es:Array MapEntry}{n:Nat}(hb:w.heap[b]? =some (.map es n)):(getObj b).run P w= .ok (.map es n) w:=by simp [getObj,Sem.run,hb]
theorem run_setMap{b:Nat}{es:Array MapEntry}{n:Nat}(o:Obj)(hb:w.heap[b]? =some (.map es n)):(setObj b o).run P w= .ok () (w.putObj b o):=by simp [setObj,Sem.run,hb,World.putObj]
theorem run_checkKey{em:Bool}{kk:IntKind}{v:Value}(hk:TI.Ok P kt ki)(hd:ki.d= .int kk):(Instr.checkKey em 10000 kt v).run P w= .ok () w:=by
 unfold Instr.checkKey
 simp only [Sem.run_bind,run_underlying hk,Result.andThen_ok,hd]
 cases v<;>rfl
theorem run_findKey{kk:IntKind}{v:Value}{es:List MapEntry}{r:Option (Nat×Value)}(hk:TI.Ok P kt ki)(hd:ki.d= .int kk)(hf:Instr.findNow (.int kk) v es 0=some r):(Instr.findKey kt v es).run P w= .ok r w:=by
 unfold Instr.findKey
 simp only [Sem.run_bind,run_underlying hk,Result.andThen_ok,hd,hf]
 rfl
end
section
variable{C:Cfg}{k:List It}{e:Env}{h:GH}{L:List Ent}
theorem V.makeMap{all:Array Oper}{o:Oper}{l:List Oper}{ks:List (Nat×Bool)}{t:TypeId}{d:Nat}
 (hg:gyes e all o.guard=some ks) (ho:o.op= .makeMap t none) (hd:o.dst=some d) (hc:okPut C.n e d=true)
 (next: ∀b,V C (.ops all l::k) ⟨(d, .map (some b))::e.us,e.cs⟩ h (⟨b,0,[],some (.map #[] 0)⟩::L)):V C (.ops all (o::l)::k) e h L:=
 V.gives hg hd hc fun a w g s hk=>by
  refine ⟨_,_,h,_,?_,s.allocObj (.map #[] 0) (fun _ _ _ x=>by cases x),next _⟩
  unfold execOp
  rw [ho]
  simp [Instr.makeMap,newObj,Sem.run]
theorem V.insert{all:Array Oper}{o:Oper}{l:List Oper}{ks:List (Nat×Bool)}{t kt et:TypeId}{ti ki:TI}{m ky y:Operand}{b n:Nat}{kk:IntKind}{es:Array MapEntry}{kv v:Value}{L2:List Ent}
 (hg:gyes e all o.guard=some ks) (ho:o.op= .insert t m ky y) (hm:e.ev ks m=some (.map (some b))) (hkv:e.ev ks ky=some kv) (hv:e.ev ks y=some v) (ht:C.S.get t=some ti) (htd:ti.d= .map kt et) (hkt:C.S.get kt=some ki) (hkd:ki.d= .int kk)
 (hf:Instr.findNow (.int kk) kv es.toList 0=some none) (hd:o.dst=none) (hL:L=⟨b,0,[],some (.map es n)⟩::L2)
 (next:V C (.ops all l::k) e h (⟨b,0,[],some (.map (es.push ⟨kv,v,n⟩) (n+1))⟩::L2)):V C (.ops all (o::l)::k) e h L:=
 V.sure hg fun a w g s hk=>by
  subst hL
  have hob:=((s.own _ (List.mem_cons_self ..)).obj _ rfl).2.1
  simp only at hob
  have s2:=s.setObj rfl (.map (es.push ⟨kv,v,n⟩) (n+1)) (fun _ _ _ x=>by cases x)
  unfold Oper.wp execOp
  rw [ho]
  simp only [g.ev hk hm,g.ev hk hkv,g.ev hk hv,Instr.mapUpdate,Sem.run_bind,run_underlying (TT.Ok.get C.ok ht),htd,Result.andThen_ok,run_getMap hob,run_checkKey (TT.Ok.get C.ok hkt) hkd,run_findKey (TT.Ok.get C.ok hkt) hkd hf,run_setMap _ hob,Sem.run_pure]
  exact ⟨e,h,_,by rw [hd];exact g,s2,next⟩
theorem V.lookup{all:Array Oper}{o:Oper}{l:List Oper}{ks:List (Nat×Bool)}{t kt et:TypeId}{ti ki:TI}{m ky:Operand}{b n d i:Nat}{kk:IntKind}{es:Array MapEntry}{kv v:Value}{L2:List Ent}
 (hg:gyes e all o.guard=some ks) (ho:o.op= .lookup t m ky false) (hm:e.ev ks m=some (.map (some b))) (hkv:e.ev ks ky=some kv) (ht:C.S.get t=some ti) (htd:ti.d= .map kt et) (hkt:C.S.get kt=some ki) (hkd:ki.d= .int kk)
 (hf:Instr.findNow (.int kk) kv es.toList 0=some (some (i,v))) (hd:o.dst=some d) (hc:okPut C.n e d=true) (hL:L=⟨b,0,[],some (.map es n)⟩::L2)
 (next:V C (.ops all l::k) ⟨(d,v)::e.us,e.cs⟩ h L):V C (.ops all (o::l)::k) e h L:=
 V.gives hg hd hc fun a w g s hk=>by
  have hob:=((s.own ⟨b,0,[],some (.map es n)⟩ (by rw [hL];exact List.mem_cons_self ..)).obj _ rfl).2.1
  simp only at hob
  refine ⟨v,w,h,L,?_,s,next⟩
  unfold execOp
  rw [ho]
  simp only [g.ev hk hm,g.ev hk hkv,Instr.lookup,Sem.run_bind,run_underlying (TT.Ok.get C.ok ht),htd,Result.andThen_ok,run_getMap hob,run_checkKey (TT.Ok.get C.ok hkt) hkd,run_findKey (TT.Ok.get C.ok hkt) hkd hf,Sem.run_pure]
  rfl
theorem V.lookupNil{all:Array Oper}{o:Oper}{l:List Oper}{ks:List (Nat×Bool)}{t kt et:TypeId}{ti ki:TI}{m ky:Operand}{b n d:Nat}{kk:IntKind}{es:Array MapEntry}{kv v:Value}{L2:List Ent}
 (hg:gyes e all o.guard=some ks) (ho:o.op= .lookup t m ky false) (hm:e.ev ks m=some (.map (some b))) (hkv:e.ev ks ky=some kv) (ht:C.S.get t=some ti) (htd:ti.d= .map kt et) (hkt:C.S.get kt=some ki) (hkd:ki.d= .int kk)
 (hz:(C.P.info? et).bind (fun x=>x.zero)=some v)
 (hf:Instr.findNow (.int kk) kv es.toList 0=some none) (hd:o.dst=some d) (hc:okPut C.n e d=true) (hL:L=⟨b,0,[],some (.map es n)⟩::L2)
 (next:V C (.ops all l::k) ⟨(d,v)::e.us,e.cs⟩ h L):V C (.ops all (o::l)::k) e h L:=
 V.gives hg hd hc fun a w g s hk=>by
  have hob:=((s.own ⟨b,0,[],some (.map es n)⟩ (by rw [hL];exact List.mem_cons_self ..)).obj _ rfl).2.1
  simp only at hob
  refine ⟨v,w,h,L,?_,s,next⟩
  obtain ⟨xi,hx1,hx2⟩: ∃xi,C.P.info? et=some xi/\xi.zero=some v:=by
   cases hi:C.P.info? et with
   |none=>rw [hi] at hz;cases hz
   |some xi=>rw [hi] at hz;exact ⟨xi,rfl,hz⟩
  have hz1:(zeroValue et).run C.P w= .ok v w:=by simp [zeroValue,run_typeInfo hx1,hx2]
  unfold execOp
  rw [ho]
  simp only [g.ev hk hm,g.ev hk hkv,Instr.lookup,Sem.run_bind,run_underlying (TT.Ok.get C.ok ht),htd,Result.andThen_ok,run_getMap hob,run_checkKey (TT.Ok.get C.ok hkt) hkd,run_findKey (TT.Ok.get C.ok hkt) hkd hf,hz1,Sem.run_pure]
  rfl
end
def posK(kk:IntKind)(n:Int):List Value->Option (Option Nat)
 | []=>some none
 | .int j m::r=>match decide (kk=j) with
   |true=>match n==m with
    |true=>some (some 0)
    |false=>match posK kk n r with
     |some (some p)=>some (some (p+1))
     |some none=>some none
     |none=>none
   |false=>none
 |_=>none
theorem findNow_pos{kk:IntKind}{n:Int}: ∀{ks vs:List Value} {b i:Nat} {r:Option Nat},ks.length=vs.length->posK kk n ks=some r->
 Instr.findNow (.int kk) (.int kk n) (mapEs ks vs b) i=some (match r with
  |some p=>(vs[p]?).map fun v=>(i+p,v)
  |none=>none)
 | [],vs,b,i,r,hl,h=>by
   simp only [posK] at h
   injection h with h;subst h
   cases vs<;>rfl
 |k::ks,[],b,i,r,hl,h=>by simp at hl
 |k::ks,v::vs,b,i,r,hl,h=>by
  unfold posK at h
  split at h
  ·cases ‹k::ks=[]›
  ·rename_i j m r' he
   injection he with e1 e2;subst e1;subst e2
   split at h
   ·rename_i hd
    have hd:=of_decide_eq_true hd
    split at h
    ·rename_i hn
     injection h with h;subst h
     simp only [mapEs,Instr.findNow,Instr.sameNow,if_pos hd,hn]
     simp
    ·rename_i hn
     have ih:=fun r hp=>findNow_pos (kk:=kk) (n:=n) (ks:=ks) (vs:=vs) (b:=b+1) (i:=i+1) (r:=r) (by simpa using hl) hp
     simp only [mapEs,Instr.findNow,Instr.sameNow,if_pos hd,hn]
     split at h
     ·rename_i p hp
      injection h with h;subst h
      rw [ih _ hp]
      simp only [List.getElem?_cons_succ]
      cases vs[p]? with
      |none=>rfl
      |some u=>simp;omega
     ·rename_i hp
      injection h with h;subst h
      rw [ih _ hp]
     ·cases h
   ·cases h
  ·cases h
theorem mapEs_snoc: ∀{ks vs:List Value} {k v:Value} {b:Nat},ks.length=vs.length->mapEs (ks++[k]) (vs++[v]) b=mapEs ks vs b++[⟨k,v,b+ks.length⟩]
 | [],[],k,v,b,_=>by simp [mapEs]
 | [],v::vs,_,_,_,h=>by simp at h
 |k::ks,[],_,_,_,h=>by simp at h
 |k::ks,v::vs,k',v',b,h=>by
  simp only [List.cons_append,mapEs,List.length_cons]
  rw [mapEs_snoc (ks:=ks) (vs:=vs) (by simpa using h)]
  congr 4
  omega
class AMp (Λ:List AEnt) (b:Nat) (ks:outParam (List Value)) (xs:outParam (List AV)) (Λ':outParam (List AEnt)):Prop where
 perm:Λ.Perm (.mp b ks xs::Λ')
instance AMp.here {b:Nat} {ks:List Value} {xs:List AV} {Λ:List AEnt}:AMp (.mp b ks xs::Λ) b ks xs Λ:=⟨.refl _⟩
instance (priority:=low) AMp.there {y:AEnt} {b:Nat} {ks:List Value} {xs:List AV} {Λ Λ':List AEnt} [i:AMp Λ b ks xs Λ']:AMp (y::Λ) b ks xs (y::Λ'):=⟨(i.perm.cons y).trans (.swap _ _ _)⟩
section
variable{K:AC}{k:List It}{E:AEnv}{Λ:List AEnt}
theorem A.makeMap{all:Array Oper}{o:Oper}{l:List Oper}{ks:List (Nat×Bool)}{t:TypeId}{d:Nat}
 (hg:gyesA E all o.guard=some ks) (ho:o.op= .makeMap t none) (hd:o.dst=some d) (hc:okPutA K.n E d=true)
 (next: ∀b,A K (.ops all l::k) ⟨(d, .v (.map (some b)))::E.us,E.cs⟩ (.mp b [] []::Λ)):A K (.ops all (o::l)::k) E Λ:=by
 refine ⟨fun h e L hl r q=>?_⟩
 refine V.makeMap (C:=K.cfg) (gyesA_eq r hg) ho hd (okPutA_eq r hc) fun b=>?_
 exact (next b).run h _ (_::L) hl ⟨r.1.put (Rp_v.2 ⟨rfl,rfl⟩),r.2⟩ (.one ⟨rfl,[],RpC_nil.2 rfl,rfl⟩ q)
theorem A.insert{all:Array Oper}{o:Oper}{l:List Oper}{ks:List (Nat×Bool)}{t kt et:TypeId}{ti ki:TI}{m ky y:Operand}{b:Nat}{kk:IntKind}{n:Int}{nks:List Value}{xs:List AV}{x:AV}{Λ':List AEnt}
 (hg:gyesA E all o.guard=some ks) (ho:o.op= .insert t m ky y) (hm:E.ev K.gs ks m=some (.v (.map (some b)))) (hkv:E.ev K.gs ks ky=some (.v (.int kk n))) (hv:E.ev K.gs ks y=some x) (ht:K.S.get t=some ti) (htd:ti.d= .map kt et) (hkt:K.S.get kt=some ki) (hkd:ki.d= .int kk)
 [i:AMp Λ b nks xs Λ'] (hf:posK kk n nks=some none) (hd:o.dst=none) (next:A K (.ops all l::k) E (.mp b (nks++[.int kk n]) (xs++[x])::Λ')):A K (.ops all (o::l)::k) E Λ:=by
 refine ⟨fun h e L hl r q=>?_⟩
 obtain ⟨v1,e1,f1⟩:=r.ev (K.hgs.mono hl) _ hm
 obtain ⟨v2,e2,f2⟩:=r.ev (K.hgs.mono hl) _ hkv
 obtain ⟨v3,e3,f3⟩:=r.ev (K.hgs.mono hl) _ hv
 rw [Rp_v] at f1 f2
 rw [f1.1] at e1
 rw [f2.1] at e2
 obtain ⟨L',q1,q2⟩:=q.perm i.perm
 obtain ⟨M,L2,rfl,⟨hlen,vs,hvs,rfl⟩,q4⟩:=q1
 have hl2:nks.length=vs.length:=by rw [hlen,hvs.len]
 refine V.perm (q2.append_right _) ?_
 refine V.insert (C:=K.cfg) (n:=nks.length) (es:=⟨mapEs nks vs 0⟩) (L2:=L2++K.G) (gyesA_eq r hg) ho e1 e2 e3 ht htd hkt hkd (findNow_pos hl2 hf) hd rfl ?_
 have:=next.run h e (⟨b,0,[],some (.map ⟨mapEs (nks++[.int kk n]) (vs++[v3]) 0⟩ (nks++[Value.int kk n]).length)⟩::L2) hl r (.one ⟨by simp [hlen],_,hvs.append (RpC_cons.2 ⟨_,_,rfl,f3,RpC_nil.2 rfl⟩),rfl⟩ q4)
 rw [mapEs_snoc hl2] at this
 simpa using this
theorem A.lookup{all:Array Oper}{o:Oper}{l:List Oper}{ks:List (Nat×Bool)}{t kt et:TypeId}{ti ki:TI}{m ky:Operand}{b d p:Nat}{kk:IntKind}{n:Int}{nks:List Value}{xs:List AV}{x:AV}{Λ':List AEnt}
 (hg:gyesA E all o.guard=some ks) (ho:o.op= .lookup t m ky false) (hm:E.ev K.gs ks m=some (.v (.map (some b)))) (hkv:E.ev K.gs ks ky=some (.v (.int kk n))) (ht:K.S.get t=some ti) (htd:ti.d= .map kt et) (hkt:K.S.get kt=some ki) (hkd:ki.d= .int kk)
 [i:AMp Λ b nks xs Λ'] (hf:posK kk n nks=some (some p)) (hx:xs[p]? =some x) (hd:o.dst=some d) (hc:okPutA K.n E d=true) (next:A K (.ops all l::k) ⟨(d,x)::E.us,E.cs⟩ Λ'):A K (.ops all (o::l)::k) E Λ:=by
 refine ⟨fun h e L hl r q=>?_⟩
 obtain ⟨v1,e1,f1⟩:=r.ev (K.hgs.mono hl) _ hm
 obtain ⟨v2,e2,f2⟩:=r.ev (K.hgs.mono hl) _ hkv
 rw [Rp_v] at f1 f2
 rw [f1.1] at e1
 rw [f2.1] at e2
 obtain ⟨L',q1,q2⟩:=q.perm i.perm
 obtain ⟨M,L2,rfl,⟨hlen,vs,hvs,rfl⟩,q4⟩:=q1
 have hl2:nks.length=vs.length:=by rw [hlen,hvs.len]
 obtain ⟨u,hu,hux⟩:=hvs.at hx
 have hfn:=findNow_pos (b:=0) (i:=0) hl2 hf
 simp only [hu,Option.map_some] at hfn
 refine V.perm (q2.append_right _) ?_
 refine V.lookup (C:=K.cfg) (n:=nks.length) (es:=⟨mapEs nks vs 0⟩) (L2:=L2++K.G) (gyesA_eq r hg) ho e1 e2 ht htd hkt hkd hfn hd (okPutA_eq r hc) rfl ?_
 exact V.tail (next.run h _ L2 hl ⟨r.1.put hux,r.2⟩ q4)
theorem A.lookupNil{all:Array Oper}{o:Oper}{l:List Oper}{ks:List (Nat×Bool)}{t kt et:TypeId}{ti ki:TI}{m ky:Operand}{b d:Nat}{kk:IntKind}{n:Int}{nks:List Value}{xs:List AV}{v:Value}{Λ':List AEnt}
 (hg:gyesA E all o.guard=some ks) (ho:o.op= .lookup t m ky false) (hm:E.ev K.gs ks m=some (.v (.map (some b)))) (hkv:E.ev K.gs ks ky=some (.v (.int kk n))) (ht:K.S.get t=some ti) (htd:ti.d= .map kt et) (hkt:K.S.get kt=some ki) (hkd:ki.d= .int kk) (hz:(K.P.info? et).bind (fun x=>x.zero)=some v) (hone:oneC v=true)
 [i:AMp Λ b nks xs Λ'] (hf:posK kk n nks=some none) (hd:o.dst=some d) (hc:okPutA K.n E d=true) (next:A K (.ops all l::k) ⟨(d, .v v)::E.us,E.cs⟩ Λ'):A K (.ops all (o::l)::k) E Λ:=by
 refine ⟨fun h e L hl r q=>?_⟩
 obtain ⟨v1,e1,f1⟩:=r.ev (K.hgs.mono hl) _ hm
 obtain ⟨v2,e2,f2⟩:=r.ev (K.hgs.mono hl) _ hkv
 rw [Rp_v] at f1 f2
 rw [f1.1] at e1
 rw [f2.1] at e2
 obtain ⟨L',q1,q2⟩:=q.perm i.perm
 obtain ⟨M,L2,rfl,⟨hlen,vs,hvs,rfl⟩,q4⟩:=q1
 have hl2:nks.length=vs.length:=by rw [hlen,hvs.len]
 have hfn:=findNow_pos (b:=0) (i:=0) hl2 hf
 refine V.perm (q2.append_right _) ?_
 refine V.lookupNil (C:=K.cfg) (n:=nks.length) (es:=⟨mapEs nks vs 0⟩) (L2:=L2++K.G) (gyesA_eq r hg) ho e1 e2 ht htd hkt hkd hz hfn hd (okPutA_eq r hc) rfl ?_
 exact V.tail (next.run h _ L2 hl ⟨r.1.put (Rp_v.2 ⟨rfl,hone⟩),r.2⟩ q4)
theorem Lt.box{Λ:List AEnt}{b sz:Nat}{cs:List AV}(hm:AEnt.box b (.ag cs)∈Λ)(hs:cs.length=sz):Lt Λ (.v (.pointer (some ⟨b,0,none⟩))) (.pe sz (.ag cs)):=fun h L h' v q hl ha r=>by
 obtain ⟨L1,⟨z,q1,rfl⟩,q2⟩:=allAt.mem q ha hm
 rw [Rp_v] at r
 rw [r.1,Rp_pe]
 have hz:=Rp_ag.1 q1
 obtain ⟨zs,rfl,hz2⟩:=hz
 exact ⟨b,0,_,rfl,q1.mono hl,by rw [<-hs,<-hz2.len];rfl,q2 _ (List.mem_singleton.2 rfl)⟩
end
section
variable{C:Cfg}{k:List It}{e:Env}{h:GH}{L:List Ent}
theorem V.drawO{all:Array Oper}{id:Nat}(j:Nat){x:Ent}(m:Nat)(π:List Nat)(pubs:Nat->List Nat)(Y:Nat->List Value->Value->GH->Prop)(hj:j<all.size)(hm:C.P.follows .mixedOrders=true)(hok:drawOkN all m π pubs=true)
 (hv:WE (drawRg C all L pubs Y m k) π e h (Slots.none.set j (some x))):V C (.code (.region id all true)::k) e h (x::L):=by
 intro ho a w b cs g s hf hk
 have hok1:=drawOkN_spec hok
 have hnd:=hok1.2
 have ok:DrawOk (drawRg C all L pubs Y m k) m π:=drawOk_spec hok1.1
 have hW:=hv a g
 have hp:(Slots.list all.size (Slots.none.set j (some x))).Perm [x]:=by
  have h1:=Slots.list_put hj Slots.none x
  rw [show Slots.none.set j Option.none=Slots.none by funext i;simp [Slots.set,Slots.none],Slots.list_none] at h1
  exact h1
 have s':(drawRg C all L pubs Y m k).live h (Slots.none.set j (some x)) {w with drawn:=w.drawn+1}:=by
  show St C.w0 h (Slots.list all.size (Slots.none.set j (some x))++L) _
  exact s.drew.perm (hp.append_right L).symm
 have hd:Done all m π (Array.replicate all.size false):=by
  refine ⟨by simp,fun i hi=>⟨fun _=>?_,fun _=>by simp [hi]⟩,fun i o ho hi=>?_⟩
  rotate_left
  ·have:(Array.replicate all.size false).getD i false=false:=by
    simp only [Array.getD_eq_getD_getElem?,Array.getElem?_replicate];split<;>rfl
   have hi':(Array.replicate all.size false).getD i false=true:=hi
   rw [this] at hi';cases hi'
  by_cases him:i<m
  ·left;exact ok.full i him
  ·right;omega
 have hr:=Rg.run (drawRg C all L pubs Y m k) ok (itsOk_tail ho) (cs:=cs) hnd hf hk (fun a h E x=>x) m π ok.len (List.Sublist.refl _) (Array.replicate all.size false) (w.tape w.drawn (.order b.fn id)) a h (Slots.none.set j (some x)) _ hd hW s'
 obtain ⟨v,w'',fr,h'',L'',q1,q2,q3,q4,q5⟩:=hr
 refine ⟨v,w'',fr,h'',L'',q1,q2,?_,q4,q5⟩
 have hstep:=stepR_region_draw (P:=C.P) (b:=b) (a:=a) (k:=items k) (cs:=cs) (w:=w) (ops:=all) (id:=id)
 have hsch:Region.schedule (C.P.follows .mixedOrders) all (w.tape w.drawn (.order b.fn id))=Region.linearise.go .any all (m+(all.size-m)) (w.tape w.drawn (.order b.fn id)) (Array.replicate all.size false) []:=by
  rw [show m+(all.size-m)=all.size by have:m<=all.size:=ok.le;omega]
  simp only [Region.schedule,hm,Bool.true_or,if_true]
  rfl
 rw [hsch] at hstep
 exact .head hstep q3
end
section
variable{K:AC}{all:Array Oper}{k:List It}{E:AEnv}{Λ Λ':List AEnt}
end
end Go.Tp
namespace Go.Tp
open Go Go.RowKit
section
variable{K:AC}{all:Array Oper}{m:Nat}{k:List It}{pubs:Nat->List Nat}{Y:Ua}{π:List Nat}{E:AEnv}{Λ:List AEnt}{D:Da}
theorem A.drawT{id:Nat}(j sz:Nat)(z:Value){Λ':List AEnt}(m:Nat)(π:List Nat)(pubs:Nat->List Nat)(Y:Ua) [o:AOut Λ (.tail sz z) Λ'](hj:j<lenO all.toList)(hm:K.P.follows .mixedOrders=true)(hok:drawOkN all m π pubs=true)
 (hv:WA K all m k pubs Y π E Λ' [(j, .tail sz z)]):A K (.code (.region id all true)::k) E Λ:=
 ⟨fun h e L hl r q=>by
   obtain ⟨L',q1,q2⟩:=q.perm o.perm
   obtain ⟨M,L2,rfl,⟨p,q3,rfl⟩,q4⟩:=q1
   refine V.perm (q2.append_right _) (V.drawO (C:=K.cfg) j m π pubs (YA Y) (by rw [lenO_eq] at hj;simpa using hj) hm hok (hv.run h e L2 _ hl r q4 ?_))
   exact RpD.set (D:=[]) (Es:=Slots.none) (fun i=>rfl) ⟨p,q3,rfl⟩⟩
theorem WA.append{i:Nat}{o:Oper}{ks:List (Nat×Bool)}{y1 y2:Operand}{t el:TypeId}{ti ei:TI}{x1 x2:AV}{l1 l2:List AV}{z:Value}{d:Nat}{ps:List Nat}{D':Da}(hi:nthL all.toList i=some o)
 (hg:gyesA E all o.guard=some ks) (ho:o.op= .call ⟨.builtin .append, #[y1,y2], #[t,t]⟩) (h1:E.ev K.gs ks y1=some x1) (h2:E.ev K.gs ks y2=some x2)
 (ht:K.S.get t=some ti) (hdd:ti.d= .slice el) (he:K.S.get el=some ei) (s1:slOf ei.size x1=some (l1,some z)) (hD:lookD D i=some (.tail ei.size z)) (hp:pubs i=ps) (hpi:memB i ps=false) (hDD:dropD ps D=D')
 (hsz:Nat.blt 0 ei.size=true) (hz1:allOne ei.zero=true) (hby:Nat.ble ei.bytes 4096=true) (hd:o.dst=some d) (hc:okPutA K.n E d=true)
 (hs:SbP D ps x2 (.sl ei.size l2 none)) (hb:(l1.length+l2.length)*ei.size<=1073741824)
 (next: ∀z',WA K all m k pubs Y π ⟨(d, .sl ei.size (l1++l2) (some z'))::E.us,E.cs⟩ Λ ((i, .tail ei.size z')::D')):WA K all m k pubs Y (i::π) E Λ D:=by
 subst hDD;subst hp
 refine ⟨fun h e L Es hl r q dd=>?_⟩
 obtain ⟨v1,e1,f1⟩:=r.ev (K.hgs.mono hl) _ h1
 obtain ⟨v2,e2,f2⟩:=r.ev (K.hgs.mono hl) _ h2
 have f1:=slOf_rp s1 f1
 have hown:v1=z:=by rw [Rp_sl] at f1;obtain ⟨_,_,_,_,h3,_⟩:=f1;exact h3
 subst hown
 have hEi:=dd i
 rw [hD] at hEi
 obtain ⟨p,hp1,p',hp2,hp3⟩:=hEi
 injection hp3 with hp3;subst hp3
 have hsz':0<ei.size:=by simpa [Nat.blt_eq] using hsz
 have hni:i∉pubs i:=fun hm=>by rw [memB_iff.2 hm] at hpi;cases hpi
 obtain ⟨zs1,a1,a2,a3⟩:=sl_Sl f1
 refine WE.append (G:=drawRg K.cfg all (L++K.G) pubs (YA Y) m k) hi (gyesA_eq r hg) ho e1 e2 ht hdd he hsz hz1 hby hd (okPutA_eq r hc) hp1 hni (fun pk=>?_) (fun v' h' x' pk y1 y2 y3=>?_)
 ·have f2':=SbP.rp dd pk.1 pk.2 hs f2
  obtain ⟨zs2,b1,b2,b3⟩:=sl_Sl f2'
  exact ⟨hp2,_,_,a3.mono pk.1,b3,by rw [cat_len a2,cat_len b2,a1.len,b1.len,<-Nat.add_mul];exact hb⟩
 ·have f2':=SbP.rp dd pk.1 pk.2 hs f2
  obtain ⟨zs2,b1,b2,b3⟩:=sl_Sl f2'
  obtain ⟨g4,c1,c2,g1,g2,g3⟩:=y3
  have u1:=Sl.uniq g1 (a3.mono y2)
  have u2:=Sl.uniq g2 (b3.mono y1)
  subst u1;subst u2
  have hcat:catL zs1++catL zs2=catL (zs1++zs2):=by simp [catL]
  rw [hcat] at g3
  have hrp:Rp h' (.sl ei.size (l1++l2) (some v')) v':=Sl_sl hsz' ((a1.mono y2).append (b1.mono y1)) (fun z hz=>by
   rcases List.mem_append.1 hz with hz|hz
   ·exact a2 z hz
   ·exact b2 z hz) g3
  exact (next v').run h' ⟨(d,v')::e.us,e.cs⟩ L _ (GH.le_trans hl y2) ⟨(r.1.mono y2).put hrp,r.2.mono y2⟩ (q.mono y2) (((dd.mono y2).pub _).set ⟨x',g4,rfl⟩)
end
end Go.Tp
namespace Go.Tp
open Go Go.RowKit
theorem argUa_sb{h:GH}: ∀{l r:List AV} {i:Nat} {us:Us},SbL l r->RpU h (argUa i l) us->RpU h (argUa i r) us
 |_,_,_,_, .refl,q=>q
 |_,_,i,us, .cons s t,q=>by
  obtain ⟨v,us',e,q1,q2⟩:=q
  exact ⟨v,us',e,s.rp q1,argUa_sb t q2⟩
theorem A.frame{P:Program}{S:TT}{w0:World}{f:FuncId}{fn:Func}{n:Nat}{ok:S.Ok P}{hfn:P.funcs[f]? =some fn}{h0:GH}{F:List Ent}{gs:Ua}{hgs:GsOk h0 gs}{Q:AV->List AEnt->Prop}{rd:Option Nat}{k:List It}{E:AEnv}{Λ1 Λ2:List AEnt}
 (Q1:AV->List AEnt->Prop) (hq: ∀y Λ',Q1 y Λ'->Q y (Λ'++Λ2))
 (hv: ∀(h1:GH) (hg1:GsOk h1 gs) (F1:List Ent),h0.le h1->A ⟨P,S,w0,f,fn,n,ok,hfn,h1,F1,gs,hg1,Q1,[],rd⟩ k E Λ1):A ⟨P,S,w0,f,fn,n,ok,hfn,h0,F,gs,hgs,Q,[],rd⟩ k E (Λ1++Λ2):=by
 refine ⟨fun h e L hl r q=>?_⟩
 obtain ⟨L1,L2,rfl,q1,q2⟩:=q.split
 have:=(hv h (hgs.mono hl) (L2++F) hl).run h e L1 (GH.le_refl _) r q1
 have e1:L1++L2++(dEnts []++F)=L1++(dEnts []++(L2++F)):=by simp [dEnts]
 show V _ k e h (L1++L2++(dEnts []++F))
 rw [e1]
 refine V.post (fun v h' L' hR=>?_) this
 obtain ⟨x,Λ',La,c1,c2,c3,c4,c5⟩:=hR
 refine ⟨x,Λ'++Λ2,La++L2,hq _ _ c1,c2,GH.le_trans hl c3,c4.append (q2.mono c3),?_⟩
 rw [List.append_assoc];exact c5
structure Rng(P:Program)(S:TT)(w0:World)(ok:S.Ok P)(gs:Ua)(h0:GH) where
 lp:Nat
 r0:Loop
 fn2:Func
 n2:Nat
 E2:AEnv
 hfn:P.funcs[r0.fn]? =some fn2
 tm:TmOk h0 n2 E2 r0.tmps
 hb:allBelow n2 r0.params.toList=true
 Inv:Nat->List AEnt->Prop
 Stop:LoopState->Option Code->List AEnt->Prop
section
variable{P:Program}{S:TT}{w0:World}{ok:S.Ok P}{gs:Ua}{h0:GH}
def Rng.after(c:Rng P S w0 ok gs h0)(i:Nat)(y:AV)(Λ':List AEnt):Prop:=
 (y= .v (.bool true)/\ ∃Λ'',Λ'= .loop c.lp c.r0 .ready none::Λ''/\c.Inv (i+1) Λ'')\/(y= .v (.bool false)/\ ∃st pd Λ'',st≠ .busy/\Λ'= .loop c.lp c.r0 st pd::Λ''/\c.Stop st pd Λ'')
def Rng.round(c:Rng P S w0 ok gs h0)(i:Nat)(xs:List AV):Prop:=
 ∀(Λi:List AEnt) (h1:GH) (hg1:GsOk h1 gs) (F:List Ent),c.Inv i Λi->h0.le h1->A ⟨P,S,w0,c.r0.fn,c.fn2,c.n2,ok,c.hfn,h1,F,gs,hg1,c.after i,[],some c.lp⟩ [.code c.r0.assign, .begin, .code c.r0.body] ⟨setsA c.r0.params.toList xs c.E2.us,[]⟩ (.loop c.lp c.r0 .ready none::Λi)
def Iter(P:Program)(S:TT)(ok:S.Ok P)(gs:Ua)(g:FuncId)(cap:List AV)(xss:List (List AV)):Prop:=
 ∃fng cg,P.funcs[g]? =some fng/\fng.body=some cg/\(fng.name== "runtime.NumGoroutine")=false/\fng.results= #[]/\Nat.ble (lenN (.v (.func (.yield 0) #[] #[])::cap)) fng.ntmps=true/\
  ∀(w0:World) (h0:GH) (c:Rng P S w0 ok gs h0) (hfn:P.funcs[g]? =some fng) (h1:GH) (hg1:GsOk h1 gs) (F:List Ent) (Q:AV->List AEnt->Prop) (Λ0:List AEnt),h0.le h1->c.Inv 0 Λ0->
   (∀xs,xs∈xss->Nat.beq (lenN xs) c.r0.params.toList.length=true)->(∀i xs,xss[i]? =some xs->c.round i xs)->
   (∀Λ',c.Inv xss.length Λ'->Q (.tp []) (.loop c.lp c.r0 .ready none::Λ'))->(∀st pd Λ',st≠ .busy->c.Stop st pd Λ'->Q (.tp []) (.loop c.lp c.r0 st pd::Λ'))->
   A ⟨P,S,w0,g,fng,fng.ntmps,ok,hfn,h1,F,gs,hg1,Q,[],none⟩ [.code cg] ⟨argUa 0 (.v (.func (.yield c.lp) #[] #[])::cap),[]⟩ (.loop c.lp c.r0 .ready none::Λ0)
end
section
variable{K:AC}{k:List It}{E:AEnv}{Λ:List AEnt}
theorem A.yieldC{all:Array Oper}{o:Oper}{l:List Oper}{ks:List (Nat×Bool)}{x:Operand}{args:Array Operand}{ts:Array TypeId}{vs:List AV}{d:Nat}{h0:GH}(c:Rng K.P K.S K.w0 K.ok K.gs h0){i:Nat}{xs:List AV}{Λi Λ2:List AEnt}
 (hg:gyesA E all o.guard=some ks) (ho:o.op= .call ⟨.value x,args,ts⟩) (hx:E.ev K.gs ks x=some (.v (.func (.yield c.lp) #[] #[]))) (ha:evsA (E.ev K.gs ks) args.toList=some vs)
 (hd:o.dst=some d) (hc:okPutA K.n E d=true) (hlen:Nat.beq (lenN xs) c.r0.params.toList.length=true) (hs:SbL vs xs) (hl0:h0.le K.h0) (hp:Λ.Perm ((.loop c.lp c.r0 .ready none::Λi)++Λ2)) (hi:c.Inv i Λi) (hr:c.round i xs)
 (yes: ∀Λ'',c.Inv (i+1) Λ''->A K (.ops all l::k) ⟨(d, .v (.bool true))::E.us,E.cs⟩ ((.loop c.lp c.r0 .ready none::Λ'')++Λ2))
 (no: ∀st pd Λ'',st≠ .busy->c.Stop st pd Λ''->A K (.ops all l::k) ⟨(d, .v (.bool false))::E.us,E.cs⟩ ((.loop c.lp c.r0 st pd::Λ'')++Λ2)):A K (.ops all (o::l)::k) E Λ:=by
 refine A.perm hp ⟨fun h e L hl r q=>?_⟩
 obtain ⟨v1,e1,f1⟩:=r.ev (K.hgs.mono hl) _ hx
 rw [Rp_v] at f1;obtain ⟨rfl,_⟩:=f1
 obtain ⟨us,e2,f4⟩:=evsA_rp (σ:=e.ev ks) (fun z x hz=>r.ev (K.hgs.mono hl) ks hz) ha
 have f4:=hs.rp f4
 obtain ⟨us0,t1,t2⟩:=(c.tm.mono (GH.le_trans hl0 hl)).us
 have q0:=q
 obtain ⟨p,L3,rfl,g3,g4⟩:=q
 have g3:p=_:=g3
 subst g3
 have hlen':=f4.len
 have hlen:=Nat.eq_of_beq_eq_true hlen
 rw [lenN_eq] at hlen
 refine V.yield (C:=K.cfg) (rc:={c.r0 with state:= .ready,pending:=none}) (fn2:=c.fn2) (n2:=c.n2) (gyesA_eq r hg) ho e1 e2 hd (okPutA_eq r hc) (List.mem_append_left _ (List.mem_append_left _ (List.mem_singleton.2 rfl))) (by simpa using hlen'.trans hlen) c.hfn
  (sets_ag c.hb c.tm.size t2) ?_
 have hA:=A.frame (P:=K.P) (S:=K.S) (w0:=K.w0) (ok:=K.ok) (hfn:=c.hfn) (h0:=h) (F:=K.G) (hgs:=K.hgs.mono hl) (Λ1:= .loop c.lp c.r0 .ready none::Λi) (Λ2:=Λ2) (rd:=some c.lp)
  (Q:=fun y Λ'=> ∃Λa,c.after i y Λa/\Λ'=Λa++Λ2) (c.after i) (fun y Λ' hy=>⟨Λ',hy,rfl⟩) (fun h1 hg1 F1 hl1=>hr Λi h1 hg1 F1 hi (GH.le_trans hl0 (GH.le_trans hl hl1)))
 refine V.post (fun v h' L' hR=>?_) (hA.run h ⟨setsU c.r0.params.toList us us0,[]⟩ _ (GH.le_refl _) ⟨sets_rp f4 t1,rfl⟩ q0)
 obtain ⟨y,Λ1,L4,⟨Λa,c1,rfl⟩,c2,c3,c4,c5⟩:=hR
 have hnext:A K (.ops all l::k) ⟨(d,y)::E.us,E.cs⟩ (Λa++Λ2):=by
  rcases c1 with ⟨rfl,Λ'',rfl,c6⟩|⟨rfl,st,pd,Λ'',c6,rfl,c7⟩
  ·exact yes _ c6
  ·exact no _ _ _ c6 c7
 exact V.less c5 (hnext.run h' ⟨(d,v)::e.us,e.cs⟩ L4 (GH.le_trans hl c3) ⟨(r.1.mono c3).put c2,r.2.mono c3⟩ c4)
theorem A.rangeIter{x:Operand}{ps:Array Tmp}{assign body:Code}{g:FuncId}{cap cap':List AV}{xss:List (List AV)}(hx:E.ev K.gs [] x=some (.fn g [] cap'))(hs:SbL cap' cap)(it:Iter K.P K.S K.ok K.gs g cap xss)(hrd:K.rd=none)
 (hb:allBelow K.n ps.toList=true) (hlen: ∀xs,xs∈xss->Nat.beq (lenN xs) ps.toList.length=true) (Inv:Nat->List AEnt->Prop) (Stop:LoopState->Option Code->List AEnt->Prop) (h0:Inv 0 Λ)
 (rounds: ∀(h0':GH) (lp:Nat) (tm:Array Value),K.h0.le h0'-> ∀i xs Λi (h1:GH) (hg1:GsOk h1 K.gs) (F:List Ent),xss[i]? =some xs->Inv i Λi->h0'.le h1->
   A ⟨K.P,K.S,K.w0,K.f,K.fn,K.n,K.ok,K.hfn,h1,F,K.gs,hg1,fun y Λ'=>
       (y= .v (.bool true)/\ ∃Λ'',Λ'= .loop lp ⟨.ready,none,K.f,tm,ps,assign,body,lp-1⟩ .ready none::Λ''/\Inv (i+1) Λ'')\/(y= .v (.bool false)/\ ∃st pd Λ'',st≠ .busy/\Λ'= .loop lp ⟨.ready,none,K.f,tm,ps,assign,body,lp-1⟩ st pd::Λ''/\Stop st pd Λ''),[],some lp⟩
     [.code assign, .begin, .code body] ⟨setsA ps.toList xs E.us,[]⟩ (.loop lp ⟨.ready,none,K.f,tm,ps,assign,body,lp-1⟩ .ready none::Λi))
 (fin: ∀(h1:GH) (hg1:GsOk h1 K.gs) (r:Nat) Λ',K.h0.le h1->Inv xss.length Λ'->A ⟨K.P,K.S,K.w0,K.f,K.fn,K.n,K.ok,K.hfn,h1,K.F,K.gs,hg1,K.Q,r::K.D,none⟩ k E Λ')
 (stop: ∀(h1:GH) (hg1:GsOk h1 K.gs) (r:Nat) st pd Λ',K.h0.le h1->st≠ .busy->Stop st pd Λ'->A ⟨K.P,K.S,K.w0,K.f,K.fn,K.n,K.ok,K.hfn,h1,K.F,K.gs,hg1,K.Q,r::K.D,none⟩ (jumpIts pd++k) E Λ'):
 A K (.code (.rangeFunc x ps assign body)::k) E Λ:=by
 obtain ⟨fng,cg,i1,i2,i3,i4,i5,it⟩:=it
 have hl:cap'.length=cap.length:=hs.len
 refine A.rangeFunc (fst:=[]) (cap:=cap') hx i1 i2 i3 (by
  rw [lenN_eq] at i5⊢
  simpa [hl] using i5) hrd fun h1 hg1 r tm hl1 htm=>?_
 have key:=it K.w0 h1 ⟨r+1,⟨.ready,none,K.f,tm,ps,assign,body,r⟩,K.fn,K.n,E,K.hfn,htm,hb,Inv,Stop⟩ i1 h1 hg1 (⟨r,0,[],some (.deferred (some []))⟩::K.G)
  (rangeQ ⟨K.P,K.S,K.w0,K.f,K.fn,K.n,K.ok,K.hfn,h1,K.F,K.gs,hg1,K.Q,r::K.D,none⟩ E k (r+1) ⟨.ready,none,K.f,tm,ps,assign,body,r⟩) Λ (GH.le_refl _) h0 hlen
  (fun i xs hxs Λi h2 hg2 F hi hl2=>rounds h1 (r+1) tm hl1 i xs Λi h2 hg2 F hxs hi hl2)
  (fun Λ' hi=>⟨.ready,none,Λ',(fun e=>by cases e), .refl _,fin h1 hg1 r Λ' hl1 hi⟩)
  (fun st pd Λ' hst hs=>⟨st,pd,Λ',hst, .refl _,stop h1 hg1 r st pd Λ' hl1 hst hs⟩)
 refine ⟨fun h e L hh rr q=>?_⟩
 refine key.run h e L hh ?_ q
 exact ⟨argUa_sb (.cons .refl hs) rr.1,rr.2⟩
end
section
variable{K:AC}{k:List It}{E:AEnv}{Λ:List AEnt}
end
section
variable{K:AC}{k:List It}{E:AEnv}{Λ:List AEnt}
theorem RpC.takeN{h:GH}: ∀{l:List AV} {vs:List Value} (n:Nat),RpC h l vs->RpC h (l.take n) (vs.take n)
 | [],_,n,r=>by rw [RpC_nil] at r;subst r;simp [RpC_nil]
 |x::l,_,0,r=>by simp [RpC_nil]
 |x::l,_,n+1,r=>by
  rw [RpC_cons] at r
  obtain ⟨v,vs',rfl,r1,r2⟩:=r
  rw [List.take_succ_cons,List.take_succ_cons,RpC_cons]
  exact ⟨v,_,rfl,r1,RpC.takeN n r2⟩
theorem RpC.dropN{h:GH}: ∀{l:List AV} {vs:List Value} (n:Nat),RpC h l vs->RpC h (l.drop n) (vs.drop n)
 | [],_,n,r=>by rw [RpC_nil] at r;subst r;simp [RpC_nil]
 |x::l,_,0,r=>r
 |x::l,_,n+1,r=>by
  rw [RpC_cons] at r
  obtain ⟨v,vs',rfl,r1,r2⟩:=r
  exact RpC.dropN n r2
theorem Els.takeN{h:GH}{sz:Nat}{l:List AV}{zs:List Value}(n:Nat)(r:Els h sz l zs):Els h sz (l.take n) (zs.take n):=⟨r.rp.takeN n,fun z hz=>r.sz z (List.mem_of_mem_take hz),fun z hz=>r.one z (List.mem_of_mem_take hz)⟩
theorem Els.dropN{h:GH}{sz:Nat}{l:List AV}{zs:List Value}(n:Nat)(r:Els h sz l zs):Els h sz (l.drop n) (zs.drop n):=⟨r.rp.dropN n,fun z hz=>r.sz z (List.mem_of_mem_drop hz),fun z hz=>r.one z (List.mem_of_mem_drop hz)⟩
theorem Els.app{h:GH}{sz:Nat}{l l':List AV}{zs zs':List Value}(r:Els h sz l zs)(r':Els h sz l' zs'):Els h sz (l++l') (zs++zs'):=⟨r.rp.append r'.rp,fun z hz=>by
 rcases List.mem_append.1 hz with hz|hz
 ·exact r.sz z hz
 ·exact r'.sz z hz,fun z hz=>by
 rcases List.mem_append.1 hz with hz|hz
 ·exact r.one z hz
 ·exact r'.one z hz⟩
theorem catL_app(a b:List Value):catL (a++b)=catL a++catL b:=by simp [catL]
theorem Els.clen{h:GH}{sz:Nat}{l:List AV}{zs:List Value}(r:Els h sz l zs):(catL zs).length=l.length*sz:=by rw [cat_len r.sz,r.rp.len]
theorem A.msV(t:Nat){z:Value}{sz n:Nat}(hx:lookA E.us t=some (.ms z sz n))(hz:oneC z=true)(next:A K k ⟨(t, .v z)::E.us,E.cs⟩ Λ):A K k E Λ:=by
 refine ⟨fun h e L hl r q=>?_⟩
 rcases r.1.look t with ⟨y,v,e1,e2,e3⟩|⟨e1,e2⟩
 ·rw [hx] at e1;injection e1 with e1;subst e1
  rw [Rp_ms] at e3
  obtain ⟨e4,_⟩:=e3
  subst e4
  exact V.val t e2 rfl (next.run _ ⟨(t,_)::e.us,e.cs⟩ L hl ⟨r.1.put (Rp_v.2 ⟨rfl,hz⟩),r.2⟩ q)
 ·rw [hx] at e1;cases e1
theorem A.vMs(t sz:Nat){a:Option Addr}{n c:Nat}(hx:lookA E.us t=some (.v (.slice a n c)))(next:A K k ⟨(t, .ms (.slice a n c) sz n)::E.us,E.cs⟩ Λ):A K k E Λ:=by
 refine ⟨fun h e L hl r q=>?_⟩
 rcases r.1.look t with ⟨y,v,e1,e2,e3⟩|⟨e1,e2⟩
 ·rw [hx] at e1;injection e1 with e1;subst e1
  rw [Rp_v] at e3
  obtain ⟨e4,_⟩:=e3
  subst e4
  exact V.val t e2 rfl (next.run _ ⟨(t,_)::e.us,e.cs⟩ L hl ⟨r.1.put (Rp_ms.2 ⟨rfl,a,c,rfl⟩),r.2⟩ q)
 ·rw [hx] at e1;cases e1
theorem A.rowSome{a:Option Addr}{n c sz:Nat}{l:List AV} [i:ARow Λ (.slice a n c) sz l](hl0:l≠[])(next: ∀b o,a=some ⟨b,o,none⟩->A K k E Λ):A K k E Λ:=by
 refine ⟨fun h e L hl r q=>?_⟩
 obtain ⟨Λ1,Λ2,rfl⟩:=List.append_of_mem i.mem
 obtain ⟨L',q1,q2⟩:=q.perm (List.perm_middle (a:=AEnt.row sz (.slice a n c) l) (l₁:=Λ1) (l₂:=Λ2))
 obtain ⟨M,L2,rfl,⟨p,q3,rfl⟩,q4⟩:=q1
 obtain ⟨a',cap,zs,e,g2,g3,g4,g5⟩:=q3
 injection e with e1 e2 e3;subst e1
 rcases g5 with ⟨g5,_⟩|⟨b,o,sp,e4,_⟩
 ·exact (hl0 g5).elim
 ·exact (next b o e4).run h e L hl r q
theorem A.sliceV{all:Array Oper}{o:Oper}{l':List Oper}{ks:List (Nat×Bool)}{t el:TypeId}{ti ei:TI}{x:Operand}{lo hi:Option Operand}{a0:Option Addr}{len c:Nat}{l n:Int}{E':AEnv}{y:Value}
 (hg:gyesA E all o.guard=some ks) (ho:o.op= .slice t x lo hi none) (hx:E.ev K.gs ks x=some (.v (.slice a0 len c))) (ht:K.S.get t=some ti) (hdd:ti.d= .slice el) (he:K.S.get el=some ei)
 (hlo:boundA (E.ev K.gs ks) 0 lo=some l) (hhi:boundA (E.ev K.gs ks) len hi=some n) (h0:0<=l) (h1:l<=n) (h2:n<=c) (h3:hi=none->len<=c) (hy:partV ei.size l.toNat n.toNat (.slice a0 len c)=y) (hput:E.put K.n none o.dst (.v y)=some E')
 (next:A K (.ops all l'::k) E' Λ):A K (.ops all (o::l')::k) E Λ:=by
 subst hy
 refine A.valueY hg (fun h e L hl r q=>?_) hput next
 obtain ⟨y,f1,f2⟩:=sliceV_run (K:=K) ho hx ht hdd he hlo hhi h0 h1 h2 h3 hl r
 exact ⟨y,f1,fun a w g s hk=>f2 a w g hk⟩
end
section
variable{K:AC}{all:Array Oper}{m:Nat}{k:List It}{pubs:Nat->List Nat}{Y:Ua}{π:List Nat}{E:AEnv}{Λ:List AEnt}{D:Da}
end
mutual
inductive Pb(b sz:Nat)(x:AV):AV->AV->Prop
 |sub {y z:AV}:Sb y z->Pb b sz x y z
 |ptr:Pb b sz x (.v (.pointer (some ⟨b,0,none⟩))) (.pe sz x)
 |ag {y z:List AV}:PbL b sz x y z->Pb b sz x (.ag y) (.ag z)
 |fn {f:FuncId} {p y z:List AV}:PbL b sz x y z->Pb b sz x (.fn f p y) (.fn f p z)
inductive PbL(b sz:Nat)(x:AV):List AV->List AV->Prop
 |sub {y z:List AV}:SbL y z->PbL b sz x y z
 |cons {y z:AV} {r s:List AV}:Pb b sz x y z->PbL b sz x r s->PbL b sz x (y::r) (z::s)
end
mutual
theorem Pb.rp{h:GH}{b sz:Nat}{x:AV}(hz:Rp h (.pe sz x) (.pointer (some ⟨b,0,none⟩))): ∀{y z:AV},Pb b sz x y z-> ∀{v:Value},Rp h y v->Rp h z v
 |_,_, .sub s,_,r=>s.rp r
 |_,_, .ptr,_,r=>by rw [Rp_v] at r;rw [r.1];exact hz
 |_,_, .ag s,_,r=>by
  rw [Rp_ag] at r⊢
  obtain ⟨cs,h1,h2⟩:=r
  exact ⟨cs,h1,PbL.rp hz s h2⟩
 |_,_, .fn s,_,r=>by
  rw [Rp_fn] at r⊢
  obtain ⟨u,w,h1,h2,h3⟩:=r
  exact ⟨u,w,h1,h2,PbL.rp hz s h3⟩
theorem PbL.rp{h:GH}{b sz:Nat}{x:AV}(hz:Rp h (.pe sz x) (.pointer (some ⟨b,0,none⟩))): ∀{y z:List AV},PbL b sz x y z-> ∀{v:List Value},RpC h y v->RpC h z v
 |_,_, .sub s,_,r=>s.rp r
 |_,_, .cons s t,_,r=>by
  rw [RpC_cons] at r⊢
  obtain ⟨v,vs,h1,h2,h3⟩:=r
  exact ⟨v,vs,h1,Pb.rp hz s h2,PbL.rp hz t h3⟩
end
section
variable{K:AC}{k:List It}{E:AEnv}{Λ:List AEnt}
theorem A.epV(t:Nat){b o0 n c sz i:Nat}(hx:lookA E.us t=some (.ep (.slice (some ⟨b,o0,none⟩) n c) sz i))(next:A K k ⟨(t, .v (.pointer (some ⟨b,o0+i*sz,none⟩)))::E.us,E.cs⟩ Λ):A K k E Λ:=by
 refine ⟨fun h e L hl r q=>?_⟩
 rcases r.1.look t with ⟨y,v,e1,e2,e3⟩|⟨e1,e2⟩
 ·rw [hx] at e1;injection e1 with e1;subst e1
  rw [Rp_ep] at e3
  obtain ⟨b',o',n',c',e4,_,e5⟩:=e3
  injection e4 with e4;injection e4 with e4;injection e4 with e6 e7
  subst e6;subst e7;subst e5
  exact V.val t e2 rfl (next.run _ ⟨(t,_)::e.us,e.cs⟩ L hl ⟨r.1.put (Rp_v.2 ⟨rfl,rfl⟩),r.2⟩ q)
 ·rw [hx] at e1;cases e1
theorem A.storeRowF{all:Array Oper}{o:Oper}{l:List Oper}{ks:List (Nat×Bool)}{t:TypeId}{p y:Operand}{b sz off:Nat}(i k0:Nat){xs xs':List AV}{ti:TI}(ei:TI){v x x':AV}{Λ':List AEnt}
 (hg:gyesA E all o.guard=some ks) (ho:o.op= .store t p y) (hp:E.ev K.gs ks p=some (.v (.pointer (some ⟨b,off,none⟩)))) (hy:E.ev K.gs ks y=some v) (ht:K.S.get t=some ti) (n c o0:Nat) [j:ARow Λ (.slice (some ⟨b,o0,none⟩) n c) sz xs] (hoff:off=o0+i*sz+k0) (hx:xs[i]? =some x) (hst:stA ti x k0 v=some x')
 (hok:eltOk ei x'=true) (hse:Nat.beq ei.size sz=true) (hd:o.dst=none) (hxs:xs.set i x'=xs') [u:ARowUp Λ (.slice (some ⟨b,o0,none⟩) n c) sz xs xs' Λ'] (next:A K (.ops all l::k) E Λ'):A K (.ops all (o::l)::k) E Λ:=by
 subst hxs;subst hoff
 refine ⟨fun h e L hl r q=>?_⟩
 have hse:=Nat.eq_of_beq_eq_true hse
 obtain ⟨v1,e1,f1⟩:=r.ev (K.hgs.mono hl) _ hp
 obtain ⟨v2,e2,f2⟩:=r.ev (K.hgs.mono hl) _ hy
 rw [Rp_v] at f1;rw [f1.1] at e1
 obtain ⟨Λ1,Λ2,d1,d2⟩:=u.split
 subst d1;subst d2
 obtain ⟨L1,M,L2,rfl,q1,⟨pp,⟨a,cap',zs,g1,g2,g3,g4,g5⟩,rfl⟩,q3⟩:=q.mid
 injection g1 with g1 g1' g1''
 subst g1;subst g1';subst g1''
 have hi:i<xs.length:=by
  rcases Nat.lt_or_ge i xs.length with h|h
  ·exact h
  ·rw [List.getElem?_eq_none h] at hx;cases hx
 rcases g5 with ⟨g5,_⟩|⟨b',off',sp,g6,rfl,g9⟩
 ·subst g5;simp at hi
 ·injection g6 with g6;injection g6 with g6 g7;subst g6;subst g7
  have hzl:zs.length=xs.length:=g3.rp.len
  obtain ⟨z0,hz0,hr0⟩:=g3.rp.at hx
  obtain ⟨z0',s1,s2⟩:=stA_rp (b:=b) hr0 f2 hst
  obtain ⟨c1,c2,_⟩:=eltOk_rp hok s2
  have hzs:zs=zs.take i++z0::zs.drop (i+1):=by
   have:=List.take_append_drop i zs
   rw [List.drop_eq_getElem_cons (by omega)] at this
   rw [List.getElem?_eq_getElem (by omega)] at hz0
   injection hz0 with hz0
   rw [hz0] at this
   exact this.symm
  have hxs:xs.set i x'=xs.take i++x'::xs.drop (i+1):=by rw [List.set_eq_take_append_cons_drop,if_pos hi]
  have g3':Els h sz (xs.set i x') (zs.take i++z0'::zs.drop (i+1)):=by
   rw [hxs]
   refine (g3.takeN i).app ((?_:Els h sz [x'] [z0']).app (g3.dropN (i+1)))
   exact ⟨RpC_cons.2 ⟨z0',[],rfl,s2,RpC_nil.2 rfl⟩,fun z hz=>by rw [List.mem_singleton.1 hz,c1,hse],fun z hz=>by rw [List.mem_singleton.1 hz];exact c2⟩
  have hA:(catL (zs.take i)).length=i*sz:=by
   rw [(g3.takeN i).clen,List.length_take,Nat.min_eq_left (by omega)]
  have hlen:Nat.beq (cellsL v2).length ti.size=true:=by
   cases hb:Nat.beq (cellsL v2).length ti.size with
   |true=>rfl
   |false=>rw [stV,hb] at s1;cases s1
  have hble:Nat.ble 0 k0=true:=by cases k0<;>rfl
  have hone:allOne (cellsL v2)=true:=by
   cases hb:allOne (cellsL v2) with
   |true=>rfl
   |false=>simp only [stV,hlen,hble,hb] at s1;cases s1
  have hcs:updL (cellsL z0) k0 (cellsL v2)=some (cellsL z0'):=by
   simp only [stV,hlen,hble,hone,Nat.sub_zero] at s1
   split at s1
   ·rename_i cs hcs
    injection s1 with s1;injection s1 with _ _ s1 _
    rw [hcs,s1]
   ·cases s1
  have hle:Nat.ble o0 (o0+i*sz+k0)=true:=Nat.ble_eq_true_of_le (by omega)
  have e3:updL (catL zs++sp) (i*sz+k0) (cellsL v2)=some (catL (zs.take i++z0'::zs.drop (i+1))++sp):=by
   have h1:=updL_right (cellsL v2) (catL (zs.drop (i+1))++sp) _ _ hcs
   have h2:=updL_app (cellsL v2) (catL (zs.take i)) _ _ h1
   rw [hA] at h2
   have e4:catL zs++sp=catL (zs.take i)++(cellsL z0++(catL (zs.drop (i+1))++sp)):=by
    conv=>lhs;rw [hzs]
    rw [catL_app,List.append_assoc]
    congr 1
    show (cellsL z0++catL (zs.drop (i+1)))++sp=_
    rw [List.append_assoc]
   rw [e4,h2]
   congr 1
   rw [catL_app,List.append_assoc]
   congr 1
   show _=(cellsL z0'++catL (zs.drop (i+1)))++sp
   rw [List.append_assoc]
  have hst':stV ti ⟨b,o0,catL zs++sp,none⟩ (o0+i*sz+k0) v2=some ⟨b,o0,catL (zs.take i++z0'::zs.drop (i+1))++sp,none⟩:=by
   simp only [stV,hlen,hle,hone,show o0+i*sz+k0-o0=i*sz+k0 by omega,e3]
  have i':EntAt ((L1++([⟨b,o0,catL zs++sp,none⟩]++L2))++K.G) b ⟨b,o0,catL zs++sp,none⟩:=⟨by simp,rfl⟩
  have j':EntUp ((L1++([⟨b,o0,catL zs++sp,none⟩]++L2))++K.G) b ⟨b,o0,catL zs++sp,none⟩ ⟨b,o0,catL (zs.take i++z0'::zs.drop (i+1))++sp,none⟩ ((L1++([⟨b,o0,catL (zs.take i++z0'::zs.drop (i+1))++sp,none⟩]++L2))++K.G):=⟨L1,L2++K.G,by simp,by simp⟩
  have hlen:(xs.set i x').length=xs.length:=List.length_set
  exact V.store (C:=K.cfg) (gyesA_eq r hg) ho e1 e2 ht (i:=i') hst' (j:=j') hd (next.run h e _ hl r (RpL.mid_of q1 ⟨_,⟨some ⟨b,o0,none⟩,c,_,by rw [hlen],by rw [hlen];exact g2,g3',rfl, .inr ⟨b,o0,sp,rfl,rfl,by rw [hlen];exact g9⟩⟩,rfl⟩ q3))
end
end Go.Tp
namespace Go.Tp
open Go Go.RowKit
section
variable{K:AC}{all:Array Oper}{m:Nat}{k:List It}{pubs:Nat->List Nat}{Y:Ua}{π:List Nat}{E:AEnv}{Λ:List AEnt}{D:Da}
theorem A.drawB{id:Nat}(j b:Nat){x:AV}{Λ':List AEnt}(m:Nat)(π:List Nat)(pubs:Nat->List Nat)(Y:Ua) [i:AAt Λ b x] [o:AOut Λ (.box b x) Λ'](hj:j<lenO all.toList)(hm:K.P.follows .mixedOrders=true)(hok:drawOkN all m π pubs=true)
 (hv:WA K all m k pubs Y π E Λ' [(j, .box b x)]):A K (.code (.region id all true)::k) E Λ:=
 ⟨fun h e L hl r q=>by
   obtain ⟨L',q1,q2⟩:=q.perm o.perm
   obtain ⟨M,L2,rfl,⟨z,q3,rfl⟩,q4⟩:=q1
   refine V.perm (q2.append_right _) (V.drawO (C:=K.cfg) j m π pubs (YA Y) (by rw [lenO_eq] at hj;simpa using hj) hm hok (hv.run h e L2 _ hl r q4 ?_))
   exact RpD.set (D:=[]) (Es:=Slots.none) (fun i=>rfl) ⟨z,q3,rfl⟩⟩
end
end Go.Tp
namespace Go.Tp
open Go Go.RowKit
section
variable{K:AC}{all:Array Oper}{m:Nat}{k:List It}{pubs:Nat->List Nat}{Y:Ua}{π:List Nat}{E:AEnv}{Λ:List AEnt}{D:Da}
end
section
variable{K:AC}{k:List It}{E:AEnv}{Λ:List AEnt}
end
def isEqOp:BinOp->Bool
 | .eql=>true
 | .neq=>true
 |_=>false
def eqV(op:BinOp)(b:Bool):Bool:=match op with
 | .eql=>b
 |_=> !b
structure EqSt(P:Program)(t:TypeId)(xs ys:List Value)(b:Bool):Prop where
 guard:P.eqGuardType P.depth t=false
 run: ∀w,(Op.equalIn 10000 t (.agg ⟨xs⟩) (.agg ⟨ys⟩)).run P w= .ok b w
theorem run_eqSt{P:Program}{w:World}{op:BinOp}{t:TypeId}{x y:Operand}{xs ys:List Value}{b:Bool}(ho:isEqOp op=true)(h:EqSt P t xs ys b):
 (do eqGuard op t x y (.agg ⟨xs⟩) (.agg ⟨ys⟩);binOp op t (.agg ⟨xs⟩) (.agg ⟨ys⟩):Sem Value).run P w= .ok (.bool (eqV op b)) w:=by
 rw [Sem.run_bind,run_eqGuard_agg w op t x y _ _ h.guard,Result.andThen_ok]
 cases op<;>first|(exact absurd ho (by decide))|(rw [run_eql_struct,h.run,Result.andThen_ok];rfl)|(rw [run_neq_struct,h.run,Result.andThen_ok];rfl)
theorem rawL_rp{h:GH}: ∀{l:List AV} {vs cs:List Value},rawL l=some vs->RpC h l cs->cs=vs
 | [],vs,cs,hr,r=>by
   rw [RpC_nil] at r
   injection hr with hr
   rw [r,hr]
 |x::l,vs,cs,hr,r=>by
  obtain ⟨v,us,rfl,r1,r2⟩:=RpC_cons.1 r
  cases x with
  |v y=>
   rw [rawL] at hr
   cases hl:rawL l with
   |none=>rw [hl] at hr;cases hr
   |some ws=>
    rw [hl] at hr
    injection hr with hr
    rw [Rp_v] at r1
    rw [<-hr,r1.1,rawL_rp hl r2]
  |_=>cases hr
section
variable{K:AC}{k:List It}{E:AEnv}{Λ:List AEnt}
end
section
variable{K:AC}{all:Array Oper}{m:Nat}{k:List It}{pubs:Nat->List Nat}{Y:Ua}{π:List Nat}{E:AEnv}{Λ:List AEnt}{D:Da}
theorem WA.eqSt{i:Nat}{o:Oper}{ks:List (Nat×Bool)}{op:BinOp}{t ty:TypeId}{x y:Operand}{l1 l2:List AV}{xs ys:List Value}{b:Bool}{E':AEnv}(hi:nthL all.toList i=some o)
 (hg:gyesA E all o.guard=some ks) (ho:o.op= .binOp op t x y ty) (hs:isEqOp op=true) (hx:E.ev K.gs ks x=some (.ag l1)) (hy:E.ev K.gs ks y=some (.ag l2)) (h1:rawL l1=some xs) (h2:rawL l2=some ys)
 (hput:E.put K.n none o.dst (.v (.bool (eqV op b)))=some E') (hb:EqSt K.P t xs ys b) (next:WA K all m k pubs Y π E' Λ D):WA K all m k pubs Y (i::π) E Λ D:=by
 refine ⟨fun h e L Es hl r q d=>?_⟩
 obtain ⟨v1,e1,f1⟩:=r.ev (K.hgs.mono hl) _ hx
 obtain ⟨v2,e2,f2⟩:=r.ev (K.hgs.mono hl) _ hy
 obtain ⟨c1,rfl,r1⟩:=Rp_ag.1 f1
 obtain ⟨c2,rfl,r2⟩:=Rp_ag.1 f2
 rw [rawL_rp h1 r1] at e1
 rw [rawL_rp h2 r2] at e2
 obtain ⟨e',e4,e5⟩:=putA_eq r hput (Rp_v.2 ⟨rfl,rfl⟩)
 exact WE.valueY (G:=drawRg K.cfg all (L++K.G) pubs (YA Y) m k) hi (kd_bin ho) (gyesA_eq r hg) (fun ac w E0 g s hk=>by
  have:=run_eqSt (P:=K.cfg.P) (w:=w) (x:=x) (y:=y) hs hb
  unfold execOp;rw [ho]
  simp only [Sem.run_bind] at this
  simp only [g.ev hk e1,g.ev hk e2,Sem.run_bind,this,Result.andThen_ok,Sem.run_pure]) e4 (next.run h e' L Es hl e5 q d)
end
end Go.Tp
namespace Go.Tp
open Go Go.RowKit
section
variable{K:AC}{all:Array Oper}{m:Nat}{k:List It}{pubs:Nat->List Nat}{Y:Ua}{π:List Nat}{E:AEnv}{Λ:List AEnt}{D:Da}
end
end Go.Tp
namespace Go.Tp
open Go Go.RowKit
section
variable{K:AC}{all:Array Oper}{m:Nat}{k:List It}{pubs:Nat->List Nat}{Y:Ua}{π:List Nat}{E:AEnv}{Λ:List AEnt}{D:Da}
end
theorem s_{P:Prop}(h:P:=by (repeat (first|exact Sb.refl|exact SbL.refl|refine SbL.cons ?_ ?_|exact Sb.nil|exact Sb.own1|refine Sb.own ?_|refine Sb.ag ?_|refine Sb.tp ?_|exact Sb.un rfl))):P:=h
theorem sl_{P:Prop}(h:P:=by (repeat (first|exact List.Sublist.refl _|apply List.Sublist.cons_cons|apply List.Sublist.cons))):P:=h
theorem fz_{P:Prop}(h:P:=by (repeat (first|exact Fz.ms|apply Fz.ag|apply FzL.cons|exact FzL.sub .refl|exact Fz.sub .refl))):P:=h
theorem y_{P Q:Prop}(n:Q)(h:Q->P:=by intro h;(repeat (first|refine A.s rfl ?_|refine A.r rfl rfl ?_|refine A.w rfl rfl ?_|refine A.p rfl ?_));exact h):P:=h n
theorem g_{P Q:Prop}(n:Q)(h:Q->P:=by intro h;(repeat (first|refine A.s rfl ?_|refine A.r rfl rfl ?_|refine A.w rfl rfl ?_|refine A.p rfl ?_|refine A.step rfl ?_|refine A.v rfl rfl ?_));exact h):P:=h n
theorem w_{P Q:Prop}(n:Q)(h:Q->P:=by intro h;(repeat (first|refine WA.s rfl ?_|refine WA.r rfl rfl ?_|refine WA.p rfl ?_));exact h):P:=h n
theorem b_{P:Prop}{Q:Nat->Prop}(n: ∀b,Q b)(h:(∀b,Q b)->P:=by intro h;(repeat (first|refine A.s rfl ?_|refine A.r rfl rfl ?_|refine A.w rfl rfl ?_|refine A.p rfl ?_));refine A.b rfl fun b=>?_;exact h b):P:=h n
theorem t_{P:Prop}{Q:Nat->Prop}(n: ∀b,Q b)(h:(∀b,Q b)->P:=by intro h;(repeat (first|refine A.s rfl ?_|refine A.r rfl rfl ?_|refine A.w rfl rfl ?_|refine A.p rfl ?_));refine A.t rfl fun b=>?_;exact h b):P:=h n
theorem gb_{P:Prop}{Q:Nat->Prop}(n: ∀b,Q b)(h:(∀b,Q b)->P:=by intro h;(repeat (first|refine A.s rfl ?_|refine A.r rfl rfl ?_|refine A.w rfl rfl ?_|refine A.p rfl ?_|refine A.step rfl ?_|refine A.v rfl rfl ?_));refine A.b rfl fun b=>?_;exact h b):P:=h n
section
variable{K:AC}{k k':List It}{E E':AEnv}{Λ Λ':List AEnt}
theorem c_{d:Nat}{f:FuncId}{as args':List AV}{y:AV}{Q:Prop}(hf:Pure K.P K.gs f args' y)(n:Q)(h:clS K.gs K.n k E=some (k',d,f,as):=by exact rfl)(hs:SbL as args':=by (repeat (first|exact Sb.refl|exact SbL.refl|refine SbL.cons ?_ ?_|exact Sb.nil|exact Sb.own1|refine Sb.own ?_|refine Sb.ag ?_|refine Sb.tp ?_|exact Sb.un rfl)))(hy:Q->A K k' ⟨(d,y)::E.us,E.cs⟩ Λ:=by intro h;(repeat (first|refine A.s rfl ?_|refine A.r rfl rfl ?_|refine A.w rfl rfl ?_|refine A.p rfl ?_));exact h):A K k E Λ:=A.c h hf hs (hy n)
theorem n_{d:Nat}{f:FuncId}{as args':List AV}{y:AV}(hf:Pure K.P K.gs f args' y)(n:A K k' ⟨(d,y)::E.us,E.cs⟩ Λ)(h:clS K.gs K.n k E=some (k',d,f,as):=by exact rfl)(hs:SbL as args':=by (repeat (first|exact Sb.refl|exact SbL.refl|refine SbL.cons ?_ ?_|exact Sb.nil|exact Sb.own1|refine Sb.own ?_|refine Sb.ag ?_|refine Sb.tp ?_|exact Sb.un rfl))):A K k E Λ:=A.c h hf hs n
theorem i_{xs:List AV}{i:Int}{f:AV->Option (List It×AEnv)}{y y':AV}{Q:Prop}(h:ixS K.S K.gs K.n k E=some (xs,i,f))(hy:xs[i.toNat]? =some y)(hy':y=y')(n:Q)(h0:0<=i:=by first|decide|omega)(hf:f y'=some (k',E'):=by exact rfl)(hq:Q->A K k' E' Λ:=by intro h;(repeat (first|refine A.s rfl ?_|refine A.r rfl rfl ?_|refine A.w rfl rfl ?_|refine A.p rfl ?_));exact h):A K k E Λ:=A.x h h0 hy hy' hf (hq n)
theorem j_{xs:List AV}{i:Int}{f:AV->Option (List It×AEnv)}{y y':AV}(h:ixS K.S K.gs K.n k E=some (xs,i,f))(hy:xs[i.toNat]? =some y)(hy':y=y')(n:A K k' E' Λ)(h0:0<=i:=by first|decide|omega)(hf:f y'=some (k',E'):=by exact rfl):A K k E Λ:=A.x h h0 hy hy' hf n
theorem T_{t:Nat}{p:Bool}{Q:Prop}(h:gslot E k=some (t,p))(hp:p=true)(n:Q)(hy:Q->A K k ⟨(t, .v (.bool true))::E.us,E.cs⟩ Λ:=by intro h;(repeat (first|refine A.s rfl ?_|refine A.r rfl rfl ?_|refine A.w rfl rfl ?_|refine A.p rfl ?_));exact h):A K k E Λ:=A.gT h hp (hy n)
theorem F_{t:Nat}{p:Bool}{Q:Prop}(h:gslot E k=some (t,p))(hp:p=false)(n:Q)(hy:Q->A K k ⟨(t, .v (.bool false))::E.us,E.cs⟩ Λ:=by intro h;(repeat (first|refine A.s rfl ?_|refine A.r rfl rfl ?_|refine A.w rfl rfl ?_|refine A.p rfl ?_));exact h):A K k E Λ:=A.gF h hp (hy n)
theorem e_(t:Nat){x x':AV}{Q:Prop}(hx:lookA E.us t=some x)(hs:x=x')(n:Q)(hy:Q->A K k ⟨(t,x')::E.us,E.cs⟩ Λ:=by intro h;(repeat (first|refine A.s rfl ?_|refine A.r rfl rfl ?_|refine A.w rfl rfl ?_|refine A.p rfl ?_));exact h):A K k E Λ:=A.valE t hx hs (hy n)
theorem R_{t:Nat}{x:AV}{R:Prop}(hq:R)(hk:atEnd k=true:=by exact rfl)(hr:K.fn.results= #[.tmp t]:=by exact rfl)(hx:lookA E.us t=some x:=by exact rfl)(hQ:R->K.Q x []:=by exact fun h=>⟨h,rfl⟩)(hrd:K.rd=none:=by exact rfl):A K k E Λ:=A.ret1 hk hr hx (List.nil_sublist _) (hQ hq) hrd
theorem r_{t:Nat}{x:AV}(hk:atEnd k=true:=by exact rfl)(hr:K.fn.results= #[.tmp t]:=by exact rfl)(hx:lookA E.us t=some x:=by exact rfl)(hQ:K.Q x []:=by exact ⟨.refl,rfl⟩)(hrd:K.rd=none:=by exact rfl):A K k E Λ:=A.ret1 hk hr hx (List.nil_sublist _) hQ hrd
theorem yr_(h:A K k E Λ:=by (repeat (first|refine A.s rfl ?_|refine A.r rfl rfl ?_|refine A.w rfl rfl ?_|refine A.p rfl ?_));exact r_):A K k E Λ:=h
theorem cr_{f:FuncId}{args':List AV}{y:AV}(hf:Pure K.P K.gs f args' y)(h:Pure K.P K.gs f args' y->A K k E Λ:=by intro h;refine c_ h ?_;exact r_):A K k E Λ:=h hf
theorem q_{t u:Nat}{x y:AV}{R:Prop}(hq:R)(hk:atEnd k=true:=by exact rfl)(hr:K.fn.results= #[.tmp t, .tmp u]:=by exact rfl)(hx:lookA E.us t=some x:=by exact rfl)(hy:lookA E.us u=some y:=by exact rfl)(hQ:R->K.Q (.tp [x,y]) []:=by exact fun h=>⟨h,rfl⟩)(hrd:K.rd=none:=by exact rfl):A K k E Λ:=A.ret2 hk hr hx hy (List.nil_sublist _) (hQ hq) hrd
theorem m_{rs:List ResultVar}{x y:AV}{xs:List AV}{R:Prop}(ra:ResA K.S E.us Λ rs (x::y::xs))(hq:R)(hk:atEnd k=true:=by exact rfl)(hr:K.fn.results.toList=rs:=by exact rfl)(hQ:R->K.Q (.tp (x::y::xs)) []:=by exact fun h=>⟨h,rfl⟩)(hrd:K.rd=none:=by exact rfl):A K k E Λ:=A.retN hk hr ra (List.nil_sublist _) (hQ hq) hrd
theorem u_{U:Ua}(n:A K k ⟨U,[]⟩ Λ)(hs:subU E.us U:=by (repeat (first|exact trivial|refine ⟨⟨_,rfl, .refl⟩,?_⟩))):A K k E Λ:=A.sub hs n
theorem l_{Λ':List AEnt}(n:A K k E Λ')(s:Λ'.Sublist Λ:=by (repeat (first|exact List.Sublist.refl _|apply List.Sublist.cons_cons|apply List.Sublist.cons))):A K k E Λ:=A.less s n
theorem k_{c:Operand}{x y:Code}{g:Bool}(ht:g=true->A K (.code x::k) E Λ)(hf:g=false->A K (.code y::k) E Λ)(hc:E.ev K.gs [] c=some (.v (.bool g)):=by exact rfl):A K (.code (.cond c x y)::k) E Λ:=A.cond hc ht hf
end
section
variable{K:AC}{all:Array Oper}{m:Nat}{k:List It}{pubs:Nat->List Nat}{Y:Ua}{π π':List Nat}{E E':AEnv}{Λ:List AEnt}{D D':Da}
theorem cw_{i d:Nat}{f:FuncId}{as args':List AV}{y:AV}{Q:Prop}(hf:Pure K.P K.gs f args' y)(n:Q)(h:wcl K.gs K.n all Y π E=some (π',i,d,f,as,y):=by exact rfl)(hD:dropC (pubs i) i D=some D':=by exact rfl)(hs:SbPL D (pubs i) as args':=by refine .sub ?_;(repeat (first|exact Sb.refl|exact SbL.refl|refine SbL.cons ?_ ?_|exact Sb.nil|exact Sb.own1|refine Sb.own ?_|refine Sb.ag ?_|refine Sb.tp ?_|exact Sb.un rfl)))(hy:Q->WA K all m k pubs Y π' ⟨(d,y)::E.us,E.cs⟩ Λ D':=by intro h;(repeat (first|refine WA.s rfl ?_|refine WA.r rfl rfl ?_|refine WA.p rfl ?_));exact h):WA K all m k pubs Y π E Λ D:=WA.c h hD hf hs (hy n)
theorem iw_{xs:List AV}{i:Int}{f:AV->Option (List Nat×AEnv)}{y y':AV}{Q:Prop}(h:wix K.S K.gs K.n all π E=some (xs,i,f))(hy:xs[i.toNat]? =some y)(hy':y=y')(n:Q)(h0:0<=i:=by first|decide|omega)(hf:f y'=some (π',E'):=by exact rfl)(hq:Q->WA K all m k pubs Y π' E' Λ D:=by intro h;(repeat (first|refine WA.s rfl ?_|refine WA.r rfl rfl ?_|refine WA.p rfl ?_));exact h):WA K all m k pubs Y π E Λ D:=WA.x h h0 hy hy' hf (hq n)
theorem ew_(t:Nat){x x':AV}{Q:Prop}(hx:lookA E.us t=some x)(hs:x=x')(n:Q)(hy:Q->WA K all m k pubs Y π ⟨(t,x')::E.us,E.cs⟩ Λ D:=by intro h;(repeat (first|refine WA.s rfl ?_|refine WA.r rfl rfl ?_|refine WA.p rfl ?_));exact h):WA K all m k pubs Y π E Λ D:=WA.valE t hx hs (hy n)
theorem z_{Q:Prop}(n:Q)(hl:listDn D 0 (lenO all.toList)=[]:=by exact rfl)(hy:Q->A K (.ops all (all.toList.drop m)::k) E Λ:=by intro h;(repeat (first|refine A.s rfl ?_|refine A.r rfl rfl ?_|refine A.w rfl rfl ?_|refine A.p rfl ?_));exact h):WA K all m k pubs Y [] E Λ D:=WA.nil hl (hy n)
theorem d_{id:Nat}(m:Nat)(π:List Nat)(Yv:Ua){Q:Prop}(n:Q)(hm:K.P.follows .mixedOrders=true:=by kernel_rfl)(hok:drawOkN all m π noPubs=true:=by kernel_rfl)(hy:Q->WA K all m k noPubs Yv π E Λ []:=by intro h;(repeat (first|refine WA.s rfl ?_|refine WA.r rfl rfl ?_|refine WA.p rfl ?_));exact h):A K (.code (.region id all true)::k) E Λ:=A.draw m π noPubs Yv hm hok (hy n)
end
theorem p_{P:Program}{S:TT}{gs:Ua}{f:FuncId}{fn:Func}{args:List AV}{x:AV}{c:Code}(ok:S.Ok P)(hfn:P.funcs[f]? =some fn)(n:Nat)(hv: ∀w0 h0 F (hgs:GsOk h0 gs),A ⟨P,S,w0,f,fn,n,ok,hfn,h0,F,gs,hgs,fun y Λ'=>Sb y x/\Λ'=[],[],none⟩ [.code c] ⟨argUa 0 args,[]⟩ [])(hb:fn.body=some c:=by exact rfl)(hnm:(fn.name== "runtime.NumGoroutine")=false:=by exact rfl)(hn:fn.ntmps=n:=by exact rfl)(hl:Nat.ble (lenN args) n=true:=by exact rfl):Pure P gs f args x:=Pure.of ok hfn hb hnm hn hl hv
end Go.Tp
