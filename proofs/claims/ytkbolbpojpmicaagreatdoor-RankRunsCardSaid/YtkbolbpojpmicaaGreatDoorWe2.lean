/-
  Texts Lb. Conditions: as each theorem says.
-/
import Derived.Test.YtkbolbpojpmicaaGreatDoorWe1
import Derived.WalkKit
import Derived.OpenShut
import Derived.Deep.Slices
import Derived.ChangeArms
import Derived.ProofKit
import Derived.Carry
import Derived.Deep.DeepHandedRow
import Derived.Lib.LaidTab
import Derived.Laws.MakeOwn
import Derived.Lib.SliceRun
set_option linter.unusedVariables false
set_option linter.unusedSimpArgs false
set_option maxRecDepth 100000
set_option maxHeartbeats 4000000
open List renaming length_map→aa0,mem_of_getElem?→aa2,mem_cons_self→aa4,mem_singleton→aa3,length_append→aa7,mem_cons_of_mem→aa8,mem_cons→ab0,length_cons→ab1,getElem?_eq_none→ab4,append_assoc→ab7,map_cons→ac8,mem_append_left→ac9,length_eq_zero_iff→ad0,getElem?_append_right→ad1,getElem?_append_left→ad6,cons_append→ae0,nil_sublist→ae1,append_nil→ae3,mem_append_right→ae6,perm_middle→ae8,mem_append→af0,pairwise_cons→af1,flatMap_cons→ag2,replicate_succ→ai7,mem_flatten→aj5,eq_of_mem_replicate→ao7,map_replicate→ao9,mem_replicate→ap1,sum_replicate_nat→ap5,pairwise_append→aq8,length_flatten→ar1
open Bool renaming and_eq_true→aa1,true_and→ab3
open Go.Result renaming andThen_ok→aa5
open Nat renaming le_refl→aa6,eq_of_beq_eq_true→ab2,lt_or_ge→ad7,mul_le_mul_right→af5,eq_zero_or_pos→ah0,blt_eq→ah3,add_sub_cancel_left→ah5,succ_mul→aj3,eq_of_mul_eq_mul_right→al3,sub_zero→am0,add_assoc→am2,ble_eq_true_of_le→an2,le_add_right→an7,zero_mul→aq9
open Go.Sem renaming run_bind→aa9,run_pure→ab5,run→aq2
open Array renaming getElem?_toList→ac2,ext'→ag4
open Go.IntKind renaming bits→ak8,wrap→aq4,signed→ar4
namespace Go.Tp
open Go Go.RowKit
inductive KE where
 |mk (kind oper to n v:Int) (l:List KE)
abbrev KE.kind:KE->Int|⟨k,_,_,_,_,_⟩=>k
abbrev KE.oper:KE->Int|⟨_,o,_,_,_,_⟩=>o
abbrev KE.to:KE->Int|⟨_,_,t,_,_,_⟩=>t
abbrev KE.n:KE->Int|⟨_,_,_,n,_,_⟩=>n
abbrev KE.v:KE->Int|⟨_,_,_,_,v,_⟩=>v
abbrev KE.l:KE->List KE|⟨_,_,_,_,_,l⟩=>l
def i32(n:Int):Prop:= -2147483648<=n/\n<=2147483647
def i64(n:Int):Prop:= -9223372036854775808<=n/\n<=9223372036854775807
def u8(n:Int):Prop:=0<=n/\n<=255
mutual
def RK(h:GH):KE->List Value->Prop
 |⟨k,o,t,n,v,l⟩,cs=>(u8 k/\u8 o/\u8 t/\i32 n/\i64 v)/\ ∃a cap,cs=[.int .u8 k, .int .u8 o, .int .u8 t, .int .i32 n, .int .i64 v, .slice a l.length cap]/\
    l.length<=cap/\(l≠[]-> ∃b o,a=some ⟨b,o,none⟩/\UC h l b o)
def UC(h:GH):List KE->Nat->Nat->Prop
 | [],_,_=>True |e::r,b,o=>(∃cs,iB h b o cs/\RK h e cs)/\UC h r b (o+6)
end
theorem RK.len{h:GH}{e:KE}{cs:List Value}(r:RK h e cs):cs.length=6:=by
 obtain ⟨k,o,t,n,v,l⟩:=e;simp only [RK] at r;obtain ⟨_,a,cap,rfl,_⟩:=r
 rfl
mutual
theorem RK.mono{h h':GH}(hl:h.le h'): ∀{e:KE} {cs:List Value},RK h e cs->RK h' e cs
 |⟨k,o,t,n,v,l⟩,cs,r=>by simp only [RK] at r⊢;obtain ⟨r1,a,cap,r2,r3,r4⟩:=r;exact ⟨r1,a,cap,r2,r3,fun hn=>let ⟨b,o,x,y⟩:=r4 hn;⟨b,o,x,UC.mono hl y⟩⟩
theorem UC.mono{h h':GH}(hl:h.le h'): ∀{l:List KE} {b o:Nat},UC h l b o->UC h' l b o
 | [],_,_,_=>trivial |e::r,b,o,x=>by simp only [UC] at x⊢;obtain ⟨⟨cs,x1,x2⟩,x3⟩:=x;exact ⟨⟨cs,x1.mono hl,RK.mono hl x2⟩,UC.mono hl x3⟩
end
theorem fZ(n:Int)(h: -9223372036854775808<=n/\n<=9223372036854775807):IntKind.i64.wrap n=n:=by
 unfold aq4;simp only [ak8,ar4,ab3,ge_iff_le,dT];have e1:(2^64:Int)=18446744073709551616:=by decide
 have e2:(2^(64-1):Int)=9223372036854775808:=by decide
 rw [e1,e2];split<;>omega
theorem wr32(n:Int)(h: -2147483648<=n/\n<=2147483647):IntKind.i32.wrap n=n:=by
 unfold aq4;simp only [ak8,ar4,ab3,ge_iff_le,dT];have e1:(2^32:Int)=4294967296:=by decide
 have e2:(2^(32-1):Int)=2147483648:=by decide
 rw [e1,e2];split<;>omega
theorem MK{n m:Int}(h:n=m):Value.int .i64 n= .int .i64 m:=by rw [h]
theorem mR{a b:Bool}(h:a=true↔b=true):Value.bool a=Value.bool b:=by rw [Bool.eq_iff_iff.2 h]
theorem V.val{C:nY}{k:List It}{e:Env}{h:GH}{L:List a6}(t:Nat){v v':Value}(hl:look e.us t=some v)(hv:v=v')(next:V C k ⟨(t,v')::e.us,e.cs⟩ h L):V C k e h L:=by
 subst hv;intro ho a w b cs ag s h1 h2;refine next ho a w b cs ⟨ag.size,ag.defers,fun u v hu=>?_,ag.cs⟩ s h1 h2
 simp only [look] at hu;split at hu
 ·rename_i hk;have hk:=ab2 hk;subst hk;injection hu with hu;subst hu;exact ag.us _ _ hl
 ·exact ag.us _ _ hu
theorem WE.val{G:Rg}{π:List Nat}{e:Env}{h:GH}{E:aE}(t:Nat){v v':Value}(hl:look e.us t=some v)(hv:v=v')(next:WE G π ⟨(t,v')::e.us,e.cs⟩ h E):WE G π e h E:=by
 subst hv;intro a ag;refine next a ⟨ag.size,ag.defers,fun u v hu=>?_,ag.cs⟩
 simp only [look] at hu;split at hu
 ·rename_i hk;have hk:=ab2 hk;subst hk;injection hu with hu;subst hu;exact ag.us _ _ hl
 ·exact ag.us _ _ hu
theorem V.bh{C:nY}{k:List It}{e:Env}{h:GH}{L:List a6}{c:Code}(hv:V C (.code c:: .inLoop c::k) e h L):V C (.code (.loop c)::k) e h L:=
 hv.ck (fun ho=>dE (PT (bD ho))) fun _ _ _ _ _=> .one stepR_loop
theorem V.again{C:nY}{k:List It}{e:Env}{h:GH}{L:List a6}{c:Code}(hv:V C (.code c:: .inLoop c::k) e h L):V C (.inLoop c::k) e h L:=
 hv.ck (fun ho=>dE ho) fun _ _ _ _ _=> .one stepR_inLoop
theorem V.aj{C:nY}{k:List It}{e:Env}{h:GH}{L:List a6}{all:Array Oper}{o:Oper}{l:List Oper}{m:Option (Nat×Bool)}{ks:List (Nat×Bool)}{c x y:Operand}{v:Value}{e':Env}
 (hg:iH e all o.guard=some (m,ks)) (ho:o.op= .pick c x y) (hc:e.ev ks c=some (.bool true)) (hx:e.ev ks x=some v) (hput:e.put C.n m o.dst v=some e') (next:V C (.ops all l::k) e' h L):V C (.ops all (o::l)::k) e h L:=
 V.value hg (fun a w g s hk=>by unfold execOp;rw [ho];simp only [g.ev hk hc,asBool];simp [g.ev hk hx]) hput next
theorem V.ai{C:nY}{k:List It}{e:Env}{h:GH}{L:List a6}{all:Array Oper}{o:Oper}{l:List Oper}{m:Option (Nat×Bool)}{ks:List (Nat×Bool)}{c x y:Operand}{v:Value}{e':Env}
 (hg:iH e all o.guard=some (m,ks)) (ho:o.op= .pick c x y) (hc:e.ev ks c=some (.bool false)) (hy:e.ev ks y=some v) (hput:e.put C.n m o.dst v=some e') (next:V C (.ops all l::k) e' h L):V C (.ops all (o::l)::k) e h L:=
 V.value hg (fun a w g s hk=>by unfold execOp;rw [ho];simp only [g.ev hk hc,asBool];simp [g.ev hk hy]) hput next
theorem WE.aj{G:Rg}{π:List Nat}{e:Env}{h:GH}{E:aE}{i:Nat}{o:Oper}{m:Option (Nat×Bool)}{ks:List (Nat×Bool)}{c x y:Operand}{v:Value}{e':Env}
 (hi:bU G.all.toList i=some o) (hg:iH e G.all o.guard=some (m,ks)) (ho:o.op= .pick c x y) (hc:e.ev ks c=some (.bool true)) (hx:e.ev ks x=some v) (hput:e.put G.C.n m o.dst v=some e') (next:WE G π e' h E):WE G (i::π) e h E:=
 WE.value hi (by unfold kd;rw [ho]) hg (fun a w E g s hk=>by unfold execOp;rw [ho];simp only [g.ev hk hc,asBool];simp [g.ev hk hx]) hput next
theorem WE.ai{G:Rg}{π:List Nat}{e:Env}{h:GH}{E:aE}{i:Nat}{o:Oper}{m:Option (Nat×Bool)}{ks:List (Nat×Bool)}{c x y:Operand}{v:Value}{e':Env}
 (hi:bU G.all.toList i=some o) (hg:iH e G.all o.guard=some (m,ks)) (ho:o.op= .pick c x y) (hc:e.ev ks c=some (.bool false)) (hy:e.ev ks y=some v) (hput:e.put G.C.n m o.dst v=some e') (next:WE G π e' h E):WE G (i::π) e h E:=
 WE.value hi (by unfold kd;rw [ho]) hg (fun a w E g s hk=>by unfold execOp;rw [ho];simp only [g.ev hk hc,asBool];simp [g.ev hk hy]) hput next
section known
variable{C:nY}{k:List It}{e:Env}{h:GH}{L:List a6}
theorem V.bg{all:Array Oper}{o:Oper}{l:List Oper}{ks:List (Nat×Bool)}{v:Value}{e':Env}(hg:fX e all o.guard=some ks)
 (hr: ∀a w,Ag C.n C.D e a->St C.w0 h L w->dK a ks->(execOp a.eval o).run C.P w= .ok (.value v) w) (hp:e.put C.n none o.dst v=some e') (hv:V C (.ops all l::k) e' h L):
 V C (.ops all (o::l)::k) e h L:=
 V.sure hg fun a w g s hk=>by unfold Oper.wp;rw [hr a w g s hk];exact ⟨_,h,L,g.put hp,s,hv⟩
def ystep(S:TT)(n:Nat)(k:List It)(e:Env):Option (List It×Env):=
 match k with
 | .ops all []::k=>some (k,⟨e.us,[]⟩) | .ops all (o::l)::k=>match fX e all o.guard with
   |some ks=>match pve S e ks o.op with
    |some v=>match e.put n none o.dst v with
     |some e'=>some (.ops all l::k,e') |none=>none
    |none=>none
   |none=>none
 |k=>match cstep k with
  |some k'=>some (k',e) |none=>none
theorem V.aq{k':List It}{e':Env}(hs:ystep C.S C.n k e=some (k',e'))(hv:V C k' e' h L):V C k e h L:=by
 unfold ystep at hs;split at hs
 ·injection hs with hs;injection hs with h1 h2;subst h1;subst h2;exact V.eo hv
 ·split at hs
  ·rename_i ks hg;split at hs
   ·rename_i v hpv;split at hs
    ·rename_i e'' hput;injection hs with hs;injection hs with h1 h2;subst h1;subst h2;exact V.bg hg (fun a w g s hk=>xL C.ok g hk hpv) hput hv
    ·cases hs
   ·cases hs
  ·cases hs
 ·split at hs
  ·rename_i k'' hc;injection hs with hs;injection hs with h1 h2;subst h1;subst h2;exact hv.cstep hc
  ·cases hs
theorem V.al{all:Array Oper}{o:Oper}{l:List Oper}{t:Nat}{b:Bool}{ks:List (Nat×Bool)}{e':Env}(hg:iH e all o.guard=some (some (t,b),ks))(hl:look e.us t=some undef)(hp:e.put C.n none o.dst undef=some e')(hv:V C (.ops all l::k) e' h L):
 V C (.ops all (o::l)::k) e h L:=
 V.op fun a w g s=>⟨fun hon=>by
  rcases qE g hg with ⟨h1,_⟩|⟨t',b',h1,hiff,_⟩
  ·cases h1
  ·injection h1 with h1;injection h1 with h1 h2;subst h1;subst h2;have:=hiff.1 hon;rw [g.us _ _ hl] at this;injection this with this;exact absurd this.symm (oO _),fun _=>⟨e',h,L,g.put hp,s,hv⟩⟩
theorem V.ah{all:Array Oper}{o:Oper}{l:List Oper}{ks:List (Nat×Bool)}{t:TypeId}{p:Operand}{b off:Nat}{ti:TI}{x:a6}{v:Value}{e':Env}
 (hg:fX e all o.guard=some ks) (ho:o.op= .load t p) (hp:e.ev ks p=some (.pointer (some ⟨b,off,none⟩))) (ht:C.S.get t=some ti) [i:EntAt L b x]
 (hv:S1 ti x off=some v) (hput:e.put C.n none o.dst v=some e') (next:V C (.ops all l::k) e' h L):V C (.ops all (o::l)::k) e h L:=
 V.bg hg (fun a w g s hk=>by have:=oF (TT.Ok.get C.ok ht) (s.own x i.mem) i.blk hv;unfold execOp;rw [ho];simp only [g.ev hk hp,aa9,this,aa5,ab5]) hput next
theorem V.ij{all:Array Oper}{o:Oper}{l:List Oper}{ks:List (Nat×Bool)}{t:TypeId}{p:Operand}{b off:Nat}{ti:TI}{v:Value}{e':Env}
 (hg:fX e all o.guard=some ks) (ho:o.op= .load t p) (hp:e.ev ks p=some (.pointer (some ⟨b,off,none⟩))) (ht:C.S.get t=some ti) (ha:ti.agg=false)
 (hv:h b off=some v) (hput:e.put C.n none o.dst v=some e') (next:V C (.ops all l::k) e' h L):V C (.ops all (o::l)::k) e h L:=
 V.bg hg (fun a w g s hk=>by have:=hK (P:=C.P) (TT.Ok.get C.ok ht) ha (s.imm _ _ _ hv);unfold execOp;rw [ho];simp only [g.ev hk hp,aa9,this,aa5,ab5]) hput next
theorem V.fe{all:Array Oper}{o:Oper}{l:List Oper}{ks:List (Nat×Bool)}{t:TypeId}{x ix:Operand}{xv v:Value}{kk:IntKind}{i:Int}{n:Nat}{e':Env}
 (hg:fX e all o.guard=some ks) (ho:o.op= .indexAddr t x ix) (hx:e.ev ks x=some xv) (hi:e.ev ks ix=some (.int kk i)) (hv:sE C.S t xv i=some (v,n))
 (hput:e.put C.n none o.dst v=some e') (h0:0<=i) (h1:i<n) (next:V C (.ops all l::k) e' h L):V C (.ops all (o::l)::k) e h L:=
 V.bg hg (fun a w g s hk=>by have:=pR (w:=w) (kk:=kk) C.ok hv h0 h1;unfold execOp;rw [ho];simp only [g.ev hk hx,g.ev hk hi,aa9,this,aa5,ab5]) hput next
end known
theorem WE.jt{C:nY}{all:Array Oper}{L0:List a6}{pubs:Nat->List Nat}{Y:Nat->List Value->Value->GH->Prop}{m:Nat}{k:List It}{e:Env}{h:GH}{E:aE}(l L':List a6)
 (hl:wV E 0 all.size=some l) (hL:appL l L0=L') (hv:V C (.ops all (all.toList.drop m)::k) e h L'):WE (cG C all L0 pubs Y m k) [] e h E:=
 WE.nil hl (by rw [<-RV,hL];exact hv)
theorem V.fj{C:nY}{k:List It}{e:Env}{h:GH}{L:List a6}{all:Array Oper}{o:Oper}{l:List Oper}{ks:List (Nat×Bool)}{y1 y2:Operand}{t el:TypeId}{ti ei:TI}{v1 v2:Value}{x:a6}{c1 c2:List Value}{d:Nat}(n:Nat)
 (hg:fX e all o.guard=some ks) (ho:o.op= .call ⟨.builtin .append, #[y1,y2], #[t,t]⟩) (h1:e.ev ks y1=some v1) (h2:e.ev ks y2=some v2)
 (ht:C.S.get t=some ti) (hd:ti.d= .slice el) (he:C.S.get el=some ei) (hsz:Nat.blt 0 ei.size=true) (hz1:aP ei.zero=true) (hby:Nat.ble ei.bytes 4096=true)
 (hdst:o.dst=some d) (hc:eY C.n e d=true)
 (a1:Sl h ei.size v1 c1) (tl:Tl ei.size v1 x) (a2:Sl h ei.size v2 c2) (hb:c1.length+c2.length<=1073741824) (hn:c1.length+c2.length=n*ei.size) (hn0:0<n)
 (next: ∀b o c h' x',h.le h'->n<=c->iB h' b o (c1++c2)->Tl ei.size (.slice (some ⟨b,o,none⟩) n c) x'->V C (.ops all l::k) ⟨(d, .slice (some ⟨b,o,none⟩) n c)::e.us,e.cs⟩ h' (x'::L)):V C (.ops all (o::l)::k) e h (x::L):=
 V.append hg ho h1 h2 ht hd he hsz hz1 hby hdst hc a1 tl a2 hb fun v' h' x' q1 q2 q3=>by
  obtain ⟨a,m,c,e1,e2,e3,e4⟩:=q2;have hsz':0<ei.size:=by simpa [ah3] using hsz
  have hm:m=n:=by rw [aa7,hn] at e3;exact (al3 hsz' e3).symm
  subst hm;obtain ⟨b,o,e5,e6⟩:=e4 hn0;subst e5;subst e1;exact next b o c h' x' q1 e2 e6 q3
theorem Sl.of{h:GH}{sz n c b o:Nat}{cs:List Value}(hc:n<=c)(hn:cs.length=n*sz)(ha:iB h b o cs):Sl h sz (.slice (some ⟨b,o,none⟩) n c) cs:=⟨_,_,_,rfl,hc,hn,fun _=>⟨_,_,rfl,ha⟩⟩
end Go.Tp
namespace Go.Tp
open Go Go.RowKit
def C1(W:World):GH:=fun b o=>match W.cell? ⟨b,o,none⟩ with
 |some v=>if iJ v then some v else none |none=>none
theorem hOf_eq{W:World}{b o:Nat}{v:Value}(hc:W.cell? ⟨b,o,none⟩=some v)(h1:iJ v=true):C1 W b o=some v:=by unfold C1;rw [hc];simp [h1]
theorem hOf_st(W:World):St W (C1 W) [] W where
 below:=Below.refl _ _
 imm b o v h:=by
  unfold C1 at h;split at h
  ·rename_i u hu;split at h
   ·injection h with h;subst h;exact hu
   ·cases h
  ·cases h
 imm1 b o v h:=by
  unfold C1 at h;split at h
  ·split at h
   ·rename_i h1;injection h with h;subst h;exact h1
   ·cases h
  ·cases h
 own:=by simp
 dis:=List.Pairwise.nil
 frz:=fun _ _ _ _=>rfl
 drn:=aa6 _
theorem ZG{W:World}{b o:Nat}{cs:List Value}(hc: ∀i,i<cs.length->W.cell? ⟨b,o+i,none⟩=cs[i]?)(h1: ∀v,v∈cs->iJ v=true):iB (C1 W) b o cs:=fun i v hv=>by
 have hi:i<cs.length:=by
  rcases ad7 i cs.length with h|h
  ·exact h
  ·rw [ab4 h] at hv;cases hv
 exact hOf_eq ((hc i hi).trans hv) (h1 v (aa2 hv))
section
variable{H:Type}{enc:TypeId×Value->H}{P:Program}{W:World}{base:Nat}{sp:Nat->Bool}{hd:Bool}{tE tL:TypeId}{fs:Array Field}
theorem wf_u8{n:Int}(h:(Lit.int .u8 n).wf=true):u8 n:=by
 have e1:IntKind.u8.min=0:=by decide
 have e2:IntKind.u8.max=255:=by decide
 simp only [Lit.wf,e1,e2,aa1,dT] at h;exact h
theorem wf_i32{n:Int}(h:(Lit.int .i32 n).wf=true):i32 n:=by
 have e1:IntKind.i32.min= -2147483648:=by decide
 have e2:IntKind.i32.max=2147483647:=by decide
 simp only [Lit.wf,e1,e2,aa1,dT] at h;exact h
theorem wf_i64{n:Int}(h:(Lit.int .i64 n).wf=true):i64 n:=by
 have e1:IntKind.i64.min= -9223372036854775808:=by decide
 have e2:IntKind.i64.max=9223372036854775807:=by decide
 simp only [Lit.wf,e1,e2,aa1,dT] at h;exact h
end
end Go.Tp
namespace Go.Tp
open Go Go.RowKit Go.ChangeShapes Go.WideShapes
section
variable{H:Type}{enc:TypeId×Value->H}{P:Program}
theorem xU(hl:laidOutB P=true){W W':World}(hb:Below W.heap.size W W'){sp:Nat->Bool}: ∀{ts:List TypeId} {vs:List Value} {ds:List (DataW H)} {ps:List MemPlace},
 (ts.all fun t=>P.readableRec t&&decide (t<P.types.size))=true->DataW.TrodAll enc P W 0 (fun _=>true) true ts vs ds ps->(∀p,p∈ps->p.block<W.heap.size)->(∀p,p∈ps->sp p.block=true)->
 DataW.TrodAll enc P W' 0 sp true ts vs ds ps
 | [],_,_,_,_,h,_,_=>by obtain ⟨rfl,rfl,rfl⟩:=trodAll_nil h;exact trodAll_mk0
 |t::ts,_,_,_,hr,h,hlt,hsp=>by
  obtain ⟨v,vs,d,ds,p,q,rfl,rfl,rfl,h1,h2⟩:=trodAll_cons h;simp only [List.all_cons,aa1,dT] at hr
  exact trodAll_cons_mk (WideElems.Trod_stays hl hr.1.1 hr.1.2 h1 (fun x hx=>hb.same (hlt x (ac9 _ hx))) (fun x hx=>hsp x (ac9 _ hx)))
   (xU hl hb (by simpa using hr.2) h2 (fun x hx=>hlt x (ae6 _ hx)) (fun x hx=>hsp x (ae6 _ hx)))
theorem V1{fn:Func}{s:ChangeSpec}{W W':World}{args:Array Value}{ds gs:List (DataW H)}{before:List MemPlace}{tb:TypeId}
 (hl:laidOutB P=true) (hr:(fn.params.toList.all fun t=>P.readableRec t&&decide (t<P.types.size))=true) (hrt:fn.resultTypes= #[tb]) (hb:P.underlying tb=some .bool) (hv:s.vars=[])
 (hs:s.fn H (ds++gs)={results:=[.lit (.bool true)],args:=ds}) (hW:DataW.Whole enc P fn.params.toList s.vars false W args.toList ds gs before) (hbel:Below W.heap.size W W'):
 s.post enc P fn false true false false W args (.bool true) W':=by
 have hW':=hW;obtain ⟨p,q,hA,hV,rfl,_,_⟩:=hW;have hV0:=hV;rw [hv] at hV;obtain ⟨rfl,rfl⟩:=trodVars_none hV;refine ⟨ds,_,p++[],[],p,[],hW',?_,?_,?_,hbel.frame _,fun ha=>by cases ha⟩
 ·rw [hrt,hs];exact trodAll_cons_mk (shut_bool hb true) trodAll_mk0
 ·rw [hs];exact xU hl hbel hr hA (fun x hx=>by simpa using hW'.lt x (ac9 _ hx)) (fun x hx=>by simpa using hW'.lt x (ac9 _ hx))
 ·rw [hs,hv];exact rfl
theorem O6{f:FuncId}{fn:Func}{s:ChangeSpec}{W:World}{h:GH}{args:List Value}{ds gs:List (DataW H)}{before:List MemPlace}{tb:TypeId}
 (hl:laidOutB P=true) (hr:(fn.params.toList.all fun t=>P.readableRec t&&decide (t<P.types.size))=true) (hrt:fn.resultTypes= #[tb]) (hb:P.underlying tb=some .bool) (hv:s.vars=[])
 (hs:s.fn H (ds++gs)={results:=[.lit (.bool true)],args:=ds}) (hW:DataW.Whole enc P fn.params.toList s.vars false W args ds gs before) (hst:St W h [] W)
 (hd:bM P W f args h [] (Res h [] (fun v _=>v= .bool true))):
 Calls P f ⟨args⟩ W fun e W'=> ∃v,e= .returned v/\s.post enc P fn false true false false W ⟨args⟩ v W':=by
 refine (hd.2 W hst).mono fun e W' ⟨v,h',L',e1,⟨_,_,e2⟩,e3⟩=>?_;subst e1;subst e2;exact ⟨_,rfl,V1 hl hr hrt hb hv hs (by simpa using hW) e3.below⟩
theorem CF{w:World}{base:Nat}{sp:Nat->Bool}{held:Bool}{fuel:Nat}{t e:TypeId}{n:Nat}{cs:List Value}{zs:List Bool}{p:List MemPlace}
 (ht:P.underlying t=some (.array n e)) (he:P.underlying e=some .bool) (hce:P.cellsOf e=1) (hct:P.cellsOf t=n)
 (h:DataW.trod enc P w base sp held fuel t cs=some (.agg (zs.map fun z=> .lit (.bool z)),p)):cs=zs.map Value.bool:=by
 obtain ⟨xs,m,rfl,hx,hl,hxl,hf⟩:=DataW.trod_array ht h;have hxs:xs.map (·.1)=zs.map fun z=>(DataW.lit (.bool z):DataW H):=by have:=congrArg Prod.fst hx;simpa using this.symm
 have hzl:zs.length=n:=by have:=congrArg List.length hxs;simp at this;omega
 apply List.ext_getElem?;intro i
 by_cases hi:i<n
 ·have h1:=hf i hi;have hg: ∃y,xs[i]? =some y:=⟨_,List.getElem?_eq_getElem (by omega)⟩;obtain ⟨y,hy⟩:=hg;rw [hy] at h1;obtain ⟨b,hc,hb⟩:=DataW.trod_bool he h1;rw [hce,Nat.mul_one] at hc;have h2:cs[i]? =some (.bool b):=by
   have:=congrArg (·[0]?) hc;simpa [List.getElem?_take,List.getElem?_drop] using this
  have h3:(xs.map (·.1))[i]? =some (DataW.lit (.bool b):DataW H):=by simp [hy,hb]
  rw [hxs] at h3;simp only [List.getElem?_map,Option.map_eq_some_iff,DataW.lit.injEq,Lit.bool.injEq] at h3;obtain ⟨z,hz,rfl⟩:=h3;simp [h2,hz]
 ·rw [ab4 (by omega),ab4 (by simp;omega)]
theorem VJ{W:World}{name:String}{d:DataW Unit}{rest:List (String×DataW Unit)}{g:Nat}{t:TypeId}(hg:P.globalNamed name=some g)(hty:(P.globals[g]?).map (·.type)=some t)
 (h:laidMet P ((name,d)::rest) W): ∃cs fuel p,W.var? P name=some cs/\DataW.trod (fun _=>()) P W 0 (fun _=>true) false fuel t cs.toList=some (d,p)/\ ∀i,W.cell? ⟨g,i,none⟩=cs[i]? :=by
 obtain ⟨ps,⟨g',t',cs,fuel,p,q,hg',ht',hvar,hd,_,_⟩,_⟩:=h;obtain rfl:=Option.some.inj (hg.symm.trans hg');obtain rfl:=Option.some.inj (hty.symm.trans ht');exact ⟨cs,fuel,p,hvar,hd,fun i=>World.var?_cell hg hvar i⟩
end
end Go.Tp
namespace Go.Tp
open Go Go.RowKit
inductive AV where
 |v (x:Value)
 |sl (sz:Nat) (l:List AV) (own:Option Value)
 |ag (l:List AV)
 |tp (l:List AV)
 |pe (sz:Nat) (x:AV)
 |fn (f:FuncId) (fst cap:List AV)
 |ms (z:Value) (sz n:Nat)
 |ep (z:Value) (sz i:Nat)
 |eb (b i:Nat)
 |un
def ownOk(own:Option Value)(y:Value):Prop:=match own with
 |none=>True |some z=>y=z
def AV.cells:AV->List AV
 | .ag l=>l |x=>[x]
mutual
def Rp(h:GH):AV->Value->Prop
 | .v x,y=>y=x/\iJ x=true | .sl sz l own,y=> ∃a cap,y= .slice a l.length cap/\l.length<=cap/\ownOk own y/\(l≠[]-> ∃b o,a=some ⟨b,o,none⟩/\tU h sz l b o)
 | .ag l,y=> ∃cs,y= .agg ⟨cs⟩/\dM h l cs | .tp l,y=> ∃vs,y= .tuple ⟨vs⟩/\dM h l vs
 | .pe sz x,y=> ∃b o z,y= .pointer (some ⟨b,o,none⟩)/\Rp h x z/\(aI z).length=sz/\iB h b o (aI z) | .fn f p q,y=> ∃u w,y= .func (.func f) ⟨u⟩ ⟨w⟩/\dM h p u/\dM h q w
 | .ms z sz n,y=>y=z/\ ∃a cap,z= .slice a n cap | .ep z sz i,y=> ∃b o n cap,z= .slice (some ⟨b,o,none⟩) n cap/\i<n/\y= .pointer (some ⟨b,o+i*sz,none⟩)
 | .eb b i,y=>y= .pointer (some ⟨b,i,none⟩) | .un,y=>iJ y=true
def dM(h:GH):List AV->List Value->Prop
 | [],vs=>vs=[] |x::r,vs=> ∃v vs',vs=v::vs'/\Rp h x v/\dM h r vs'
def tU(h:GH)(sz:Nat):List AV->Nat->Nat->Prop
 | [],_,_=>True |x::r,b,o=>(∃z,Rp h x z/\(aI z).length=sz/\iB h b o (aI z))/\tU h sz r b (o+sz)
end
mutual
theorem Rp.mono{h h':GH}(hl:h.le h'): ∀{x:AV} {y:Value},Rp h x y->Rp h' x y
 | .v _,_,r=>by simp only [Rp] at r⊢;exact r | .sl _ l _,_,r=>by simp only [Rp] at r⊢;obtain ⟨a,cap,h1,h2,h3,h4⟩:=r;exact ⟨a,cap,h1,h2,h3,fun hn=>let ⟨b,o,e1,e2⟩:=h4 hn;⟨b,o,e1,tU.mono hl e2⟩⟩
 | .ag _,_,r=>by simp only [Rp] at r⊢;obtain ⟨cs,h1,h2⟩:=r;exact ⟨cs,h1,dM.mono hl h2⟩
 | .tp _,_,r=>by simp only [Rp] at r⊢;obtain ⟨cs,h1,h2⟩:=r;exact ⟨cs,h1,dM.mono hl h2⟩
 | .pe _ _,_,r=>by simp only [Rp] at r⊢;obtain ⟨b,o,z,h1,h2,h3,h4⟩:=r;exact ⟨b,o,z,h1,Rp.mono hl h2,h3,h4.mono hl⟩
 | .fn _ _ _,_,r=>by simp only [Rp] at r⊢;obtain ⟨u,w,h1,h2,h3⟩:=r;exact ⟨u,w,h1,dM.mono hl h2,dM.mono hl h3⟩
 | .ms _ _ _,_,r=>by simp only [Rp] at r⊢;exact r | .ep _ _ _,_,r=>by simp only [Rp] at r⊢;exact r
 | .eb _ _,_,r=>by simp only [Rp] at r⊢;exact r | .un,_,r=>by simp only [Rp] at r⊢;exact r
theorem dM.mono{h h':GH}(hl:h.le h'): ∀{x:List AV} {y:List Value},dM h x y->dM h' x y
 | [],_,r=>by simp only [dM] at r⊢;exact r |_::_,_,r=>by simp only [dM] at r⊢;obtain ⟨v,vs,h1,h2,h3⟩:=r;exact ⟨v,vs,h1,Rp.mono hl h2,dM.mono hl h3⟩
theorem tU.mono{h h':GH}(hl:h.le h'){sz:Nat}: ∀{x:List AV} {b o:Nat},tU h sz x b o->tU h' sz x b o
 | [],_,_,_=>by simp only [tU] |_::_,_,_,r=>by simp only [tU] at r⊢;obtain ⟨⟨z,h1,h2,h3⟩,h4⟩:=r;exact ⟨⟨z,Rp.mono hl h1,h2,h3.mono hl⟩,tU.mono hl h4⟩
end
section
variable{h:GH}
theorem bE{x y:Value}:Rp h (.v x) y↔y=x/\iJ x=true:=by simp only [Rp]
theorem eJ{l:List AV}{y:Value}:Rp h (.ag l) y↔ ∃cs,y= .agg ⟨cs⟩/\dM h l cs:=by simp only [Rp]
theorem o6{l:List AV}{y:Value}:Rp h (.tp l) y↔ ∃cs,y= .tuple ⟨cs⟩/\dM h l cs:=by simp only [Rp]
theorem cU{sz:Nat}{l:List AV}{own:Option Value}{y:Value}:Rp h (.sl sz l own) y↔ ∃a cap,y= .slice a l.length cap/\l.length<=cap/\ownOk own y/\(l≠[]-> ∃b o,a=some ⟨b,o,none⟩/\tU h sz l b o):=by simp only [Rp]
theorem kO{sz:Nat}{x:AV}{y:Value}:Rp h (.pe sz x) y↔ ∃b o z,y= .pointer (some ⟨b,o,none⟩)/\Rp h x z/\(aI z).length=sz/\iB h b o (aI z):=by simp only [Rp]
theorem q8{f:FuncId}{p q:List AV}{y:Value}:Rp h (.fn f p q) y↔ ∃u w,y= .func (.func f) ⟨u⟩ ⟨w⟩/\dM h p u/\dM h q w:=by simp only [Rp]
theorem kN{z:Value}{sz n:Nat}{y:Value}:Rp h (.ms z sz n) y↔y=z/\ ∃a cap,z= .slice a n cap:=by simp only [Rp]
theorem B4{z:Value}{sz i:Nat}{y:Value}:Rp h (.ep z sz i) y↔ ∃b o n cap,z= .slice (some ⟨b,o,none⟩) n cap/\i<n/\y= .pointer (some ⟨b,o+i*sz,none⟩):=by simp only [Rp]
theorem Rp_eb{b i:Nat}{y:Value}:Rp h (.eb b i) y↔y= .pointer (some ⟨b,i,none⟩):=by simp only [Rp]
theorem Rp_un{y:Value}:Rp h .un y↔iJ y=true:=by simp only [Rp]
theorem aQ{vs:List Value}:dM h [] vs↔vs=[]:=by simp only [dM]
theorem aG{x:AV}{r:List AV}{vs:List Value}:dM h (x::r) vs↔ ∃v vs',vs=v::vs'/\Rp h x v/\dM h r vs':=by simp only [dM]
theorem A3{sz b o:Nat}:tU h sz [] b o:=by simp only [tU]
theorem jR{sz b o:Nat}{x:AV}{r:List AV}:tU h sz (x::r) b o↔(∃z,Rp h x z/\(aI z).length=sz/\iB h b o (aI z))/\tU h sz r b (o+sz):=by simp only [tU]
theorem dM.len: ∀{l:List AV} {vs:List Value},dM h l vs->vs.length=l.length
 | [],_,r=>by rw [aQ] at r;subst r;rfl |_::_,_,r=>by rw [aG] at r;obtain ⟨v,vs',rfl,_,h2⟩:=r;simp [dM.len h2]
theorem dM.append: ∀{l r:List AV} {us vs:List Value},dM h l us->dM h r vs->dM h (l++r) (us++vs)
 | [],_,_,_,a,b=>by rw [aQ] at a;subst a;exact b |_::_,_,_,_,a,b=>by rw [aG] at a;obtain ⟨v,vs',rfl,a1,a2⟩:=a;rw [ae0,aG];exact ⟨v,vs'++_,rfl,a1,dM.append a2 b⟩
theorem dM.at: ∀{l:List AV} {vs:List Value},dM h l vs-> ∀{i:Nat} {x:AV},l[i]? =some x-> ∃v,vs[i]? =some v/\Rp h x v
 | [],_,_,_,_,hx=>by simp at hx |_::_,_,r,i,x,hx=>by
  rw [aG] at r;obtain ⟨v,vs',rfl,a1,a2⟩:=r;cases i with
  |zero=>injection hx with hx;subst hx;exact ⟨v,rfl,a1⟩ |succ i=>exact dM.at a2 (i:=i) (by simpa using hx)
theorem tU.at{sz b:Nat}: ∀{l:List AV} {o:Nat},tU h sz l b o-> ∀{i:Nat} {x:AV},l[i]? =some x-> ∃z,Rp h x z/\(aI z).length=sz/\iB h b (o+i*sz) (aI z)
 | [],_,_,_,_,hx=>by simp at hx |_::_,o,r,i,x,hx=>by
  rw [jR] at r;obtain ⟨a1,a2⟩:=r;cases i with
  |zero=>injection hx with hx;subst hx;simpa using a1 |succ i=>
   have:=tU.at a2 (i:=i) (by simpa using hx)
   rwa [show o+sz+i*sz=o+(i+1)*sz by rw [aj3];omega] at this
theorem tU.sub{sz b:Nat}: ∀{l:List AV} {o:Nat} (k n:Nat),tU h sz l b o->tU h sz ((l.drop k).take n) b (o+k*sz)
 | [],_,k,n,r=>by simp [A3] |x::l,o,0,n,r=>by
  rw [jR] at r;cases n with
  |zero=>simp [A3] |succ n=>
   simp only [List.drop_zero,List.take_succ_cons,aq9,Nat.add_zero];rw [jR];exact ⟨r.1,by simpa using tU.sub 0 n r.2⟩
 |x::l,o,k+1,n,r=>by rw [jR] at r;have:=tU.sub k n r.2;simpa [aj3,Nat.add_comm,Nat.add_left_comm,am2] using this
def AV.one:AV->Bool
 | .ag _=>false | .tp _=>false
 |_=>true
def lY:List AV->Bool
 | []=>true |x::r=>match x.one with
  |true=>lY r |false=>false
theorem Rp.one{x:AV}{y:Value}(r:Rp h x y)(ho:x.one=true):iJ y=true:=by
 cases x with
 |v x=>rw [bE] at r;rw [r.1];exact r.2 |sl sz l own=>rw [cU] at r;obtain ⟨a,c,rfl,_⟩:=r;rfl
 |ag l=>cases ho |tp l=>cases ho
 |pe sz x=>rw [kO] at r;obtain ⟨b,o,z,rfl,_⟩:=r;rfl
 |fn f p q=>rw [q8] at r;obtain ⟨u,w,rfl,_⟩:=r;rfl
 |ms b sz n=>rw [kN] at r;obtain ⟨rfl,a,c,rfl⟩:=r;rfl
 |ep b sz n=>rw [B4] at r;obtain ⟨b,o,n,c,_,_,rfl⟩:=r;rfl
 |eb b i=>rw [Rp_eb] at r;subst r;rfl |un=>rw [Rp_un] at r;exact r
theorem eS{y:Value}(h:iJ y=true):aI y=[y]:=by cases y<;>first|rfl|cases h
theorem dM.one: ∀{l:List AV} {vs:List Value},dM h l vs->lY l=true->aP vs=true
 | [],_,r,_=>by rw [aQ] at r;subst r;rfl |x::l,_,r,ho=>by
  rw [aG] at r;obtain ⟨v,vs',rfl,a1,a2⟩:=r;simp only [lY] at ho;split at ho
  ·rename_i hx;simp only [aP,Rp.one a1 hx];exact dM.one a2 ho
  ·cases ho
theorem Rp.cells{x:AV}{y:Value}(r:Rp h x y)(ho:x.one=true\/ ∃l,x= .ag l):dM h x.cells (aI y):=by
 rcases ho with ho|⟨l,rfl⟩
 ·have h1:=eS (r.one ho);have h2:x.cells=[x]:=by cases x<;>first|rfl|cases ho
  rw [h1,h2,aG];exact ⟨y,[],rfl,r,aQ.2 T⟩
 ·rw [eJ] at r;obtain ⟨cs,rfl,h2⟩:=r;exact h2
mutual
inductive Sb:AV->AV->Prop
 |refl {x:AV}:Sb x x
 |nil {sz:Nat}:Sb (.v (.slice none 0 0)) (.sl sz [] none)
 |own {sz:Nat} {l l':List AV} {o:Option Value}:fO l l'->Sb (.sl sz l o) (.sl sz l' none)
 |ag {l l':List AV}:fO l l'->Sb (.ag l) (.ag l')
 |tp {l l':List AV}:fO l l'->Sb (.tp l) (.tp l')
 |ms {z:Value} {sz n:Nat}:Sb (.ms z sz n) (.v z)
 |un {x:AV}:x.one=true->Sb x .un
inductive fO:List AV->List AV->Prop
 |refl {l:List AV}:fO l l
 |cons {x y:AV} {l r:List AV}:Sb x y->fO l r->fO (x::l) (y::r)
end
theorem fO.nil:fO [] []:= .refl
theorem Sb.cw{sz:Nat}{l:List AV}{o:Option Value}:Sb (.sl sz l o) (.sl sz l none):= .own .refl
theorem fO.len{l r:List AV}(s:fO l r):l.length=r.length:=by
 induction r generalizing l with
 |nil=>cases s;rfl |cons x r ih=>cases s with
  |refl=>rfl |cons _ s=>simp [ih s]
theorem a0a(sz:Nat):Rp h (.sl sz [] none) (.slice none 0 0):=by rw [cU];exact ⟨none,0,rfl,aa6 _,trivial,fun hn=>(hn T).elim⟩
mutual
theorem Sb.rp: ∀{x y:AV},Sb x y-> ∀{z:Value},Rp h x z->Rp h y z
 |_,_, .refl,_,r=>r |_,_, .nil,z,r=>by rw [bE] at r;rw [r.1];exact a0a _
 |_,_, .own (l:=l) (l':=l') s,z,r=>by rw [cU] at r⊢;obtain ⟨a,c,h1,h2,_,h4⟩:=r;have hl:=s.len;rw [<-hl];refine ⟨a,c,h1,h2,trivial,fun hn=>?_⟩;obtain ⟨b,o,g1,g2⟩:=h4 (fun hh=>hn (by subst hh;exact ad0.1 hl.symm));exact ⟨b,o,g1,fO.ke s g2⟩
 |_,_, .ag s,z,r=>by rw [eJ] at r⊢;obtain ⟨cs,h1,h2⟩:=r;exact ⟨cs,h1,fO.rp s h2⟩
 |_,_, .tp s,z,r=>by rw [o6] at r⊢;obtain ⟨cs,h1,h2⟩:=r;exact ⟨cs,h1,fO.rp s h2⟩
 |_,_, .ms,z,r=>by rw [kN] at r;rw [bE];obtain ⟨rfl,a,c,rfl⟩:=r;exact ⟨rfl,rfl⟩
 |_,_, .un ho,z,r=>Rp_un.2 (r.one ho)
theorem fO.rp: ∀{x y:List AV},fO x y-> ∀{z:List Value},dM h x z->dM h y z
 |_,_, .refl,_,r=>r |_,_, .cons s t,z,r=>by rw [aG] at r⊢;obtain ⟨v,vs,h1,h2,h3⟩:=r;exact ⟨v,vs,h1,Sb.rp s h2,fO.rp t h3⟩
theorem fO.ke: ∀{x y:List AV},fO x y-> ∀{sz b o:Nat},tU h sz x b o->tU h sz y b o
 |_,_, .refl,_,_,_,r=>r |_,_, .cons s t,sz,b,o,r=>by rw [jR] at r⊢;obtain ⟨⟨z,h1,h2,h3⟩,h4⟩:=r;exact ⟨⟨z,Sb.rp s h1,h2,h3⟩,fO.ke t h4⟩
end
end
end Go.Tp
namespace Go.Tp
open Go Go.RowKit
abbrev Ua:=List (Nat×AV)
abbrev Ka:=List (Nat×(Nat×Bool)×AV)
structure aH where
 us:Ua
 cs:Ka:=[]
def bJ:Ua->Nat->Option AV
 | [],_=>none |(k,v)::r,t=>match Nat.beq k t with|true=>some v|false=>bJ r t
def GI:Ka->Nat->Option ((Nat×Bool)×AV)
 | [],_=>none |(k,c,v)::r,t=>match Nat.beq k t with|true=>some (c,v)|false=>GI r t
def MD:Ka->Nat->Bool
 | [],_=>true |(k,(g,_),_)::r,t=>match Nat.beq k t with|true=>false|false=>match Nat.beq g t with|true=>false|false=>MD r t
def yM(cs:Ka):Nat->Nat×Bool->List (Nat×Bool)
 |0,k=>[k] |f+1,k=>match GI cs k.1 with
  |some (k',_)=>k::yM cs f k' |none=>[k]
def zT(h:GH):Ua->Us->Prop
 | [],us=>us=[] |(k,x)::r,us=> ∃v us',us=(k,v)::us'/\Rp h x v/\zT h r us'
def OT(h:GH):Ka->Cs->Prop
 | [],cs=>cs=[] |(k,g,x)::r,cs=> ∃v cs',cs=(k,g,v)::cs'/\Rp h x v/\OT h r cs'
def iR(h:GH)(E:aH)(e:Env):Prop:=zT h E.us e.us/\OT h E.cs e.cs
theorem zT.mono{h h':GH}(hl:h.le h'): ∀{U:Ua} {us:Us},zT h U us->zT h' U us
 | [],_,r=>r |(k,x)::U,_,⟨v,us',h1,h2,h3⟩=>⟨v,us',h1,h2.mono hl,zT.mono hl h3⟩
theorem OT.mono{h h':GH}(hl:h.le h'): ∀{U:Ka} {us:Cs},OT h U us->OT h' U us
 | [],_,r=>r |(k,g,x)::U,_,⟨v,us',h1,h2,h3⟩=>⟨v,us',h1,h2.mono hl,OT.mono hl h3⟩
theorem iR.mono{h h':GH}(hl:h.le h'){E:aH}{e:Env}(r:iR h E e):iR h' E e:=⟨r.1.mono hl,r.2.mono hl⟩
section
variable{h:GH}
theorem zT.look: ∀{U:Ua} {us:Us},zT h U us-> ∀t,(∃x v,bJ U t=some x/\Go.Tp.look us t=some v/\Rp h x v)\/(bJ U t=none/\Go.Tp.look us t=none)
 | [],_,r,t=>by cases r;exact .inr ⟨rfl,rfl⟩ |(k,x)::U,_,⟨v,us',h1,h2,h3⟩,t=>by
  subst h1;simp only [bJ,Go.Tp.look];cases Nat.beq k t with
  |true=>exact .inl ⟨x,v,rfl,rfl,h2⟩ |false=>exact zT.look h3 t
theorem OT.look: ∀{U:Ka} {us:Cs},OT h U us-> ∀t,(∃c x v,GI U t=some (c,x)/\rA us t=some (c,v)/\Rp h x v)\/(GI U t=none/\rA us t=none)
 | [],_,r,t=>by cases r;exact .inr ⟨rfl,rfl⟩ |(k,g,x)::U,_,⟨v,us',h1,h2,h3⟩,t=>by
  subst h1;simp only [GI,rA];cases Nat.beq k t with
  |true=>exact .inl ⟨g,x,v,rfl,rfl,h2⟩ |false=>exact OT.look h3 t
theorem OT.free: ∀{U:Ka} {us:Cs},OT h U us-> ∀t,MD U t=uU us t
 | [],_,r,t=>by cases r;rfl |(k,(g,b),x)::U,_,⟨v,us',h1,h2,h3⟩,t=>by subst h1;simp only [MD,uU,OT.free h3 t];cases Nat.beq k t<;>simp only;cases Nat.beq g t<;>rfl
theorem OT.chain{U:Ka}{us:Cs}(r:OT h U us): ∀(f:Nat) (k:Nat×Bool),yM U f k=Go.Tp.chain us f k
 |0,k=>rfl |f+1,k=>by
  simp only [yM,Go.Tp.chain];rcases r.look k.1 with ⟨c,x,v,e1,e2,_⟩|⟨e1,e2⟩
  ·rw [e1,e2];simp only [OT.chain r f c]
  ·rw [e1,e2]
end
def PC(v:Value):Option AV:=match v with
 | .agg ⟨cs⟩=>match aP cs with
   |true=>some (.ag (cs.map .v)) |false=>none
 | .tuple _=>none | .func (.func f) ⟨[]⟩ ⟨[]⟩=>some (.fn f [] [])
 |x=>some (.v x)
def jP(h:GH)(gs:Ua):Prop:= ∀g x,bJ gs g=some x->Rp h x (.pointer (some ⟨g,0,none⟩))
theorem jP.mono{h h':GH}(hl:h.le h'){gs:Ua}(r:jP h gs):jP h' gs:=fun g x hx=>(r g x hx).mono hl
def aH.ev(gs:Ua)(e:aH)(ks:List (Nat×Bool)):Operand->Option AV
 | .tmp t=>match bJ e.us t with
   |some v=>some v |none=>match GI e.cs t with
    |some (c,v)=>match yV ks c with|true=>some v|false=>none
    |none=>none
 | .const v=>PC v | .global g=>match bJ gs g with
   |some x=>some x |none=>some (.v (.pointer (some ⟨g,0,none⟩)))
 | .func f=>some (.fn f [] [])
theorem KD{h:GH}: ∀{cs:List Value},aP cs=true->dM h (cs.map .v) cs
 | [],_=>by rw [List.map_nil,aQ] |x::r,ho=>by
  simp only [aP] at ho;split at ho
  ·rename_i hx;rw [ac8,aG];exact ⟨x,r,rfl,bE.2 ⟨rfl,hx⟩,KD ho⟩
  ·cases ho
theorem UX{h:GH}{v:Value}{x:AV}(hc:PC v=some x):Rp h x v:=by
 unfold PC at hc;split at hc
 ·split at hc
  ·rename_i ho;injection hc with hc;subst hc;rw [eJ];exact ⟨_,rfl,KD ho⟩
  ·cases hc
 ·cases hc
 ·injection hc with hc;subst hc;rw [q8];exact ⟨[],[],rfl,aQ.2 T,aQ.2 T⟩
 ·rename_i h1 h2 _;injection hc with hc;subst hc;rw [bE];refine ⟨rfl,?_⟩;cases v with
  |agg cs=>exact (h1 cs.toList T).elim |tuple cs=>exact (h2 cs T).elim
  |_=>rfl
theorem iR.ev{h:GH}{gs:Ua}{E:aH}{e:Env}(g:jP h gs)(r:iR h E e)(ks:List (Nat×Bool)){z:Operand}{x:AV}(hx:E.ev gs ks z=some x): ∃y,e.ev ks z=some y/\Rp h x y:=by
 cases z with
 |tmp t=>
  simp only [aH.ev] at hx;simp only [Env.ev];rcases r.1.look t with ⟨x',v,e1,e2,e3⟩|⟨e1,e2⟩
  ·rw [e1] at hx;injection hx with hx;subst hx;rw [e2];exact ⟨v,rfl,e3⟩
  ·rw [e1] at hx;rw [e2];rcases r.2.look t with ⟨c,x',v,g1,g2,g3⟩|⟨g1,g2⟩
   ·rw [g1] at hx;rw [g2];simp only at hx⊢;split at hx
    ·rename_i hk;injection hx with hx;subst hx;rw [hk];exact ⟨v,rfl,g3⟩
    ·cases hx
   ·rw [g1] at hx;cases hx
 |const v=>exact ⟨v,rfl,UX hx⟩ |global n=>
  simp only [aH.ev] at hx;simp only [Env.ev];split at hx
  ·rename_i x' hl;injection hx with hx;subst hx;exact ⟨_,rfl,g _ _ hl⟩
  ·injection hx with hx;subst hx;exact ⟨_,rfl,bE.2 ⟨rfl,rfl⟩⟩
 |func f=>
  injection hx with hx;subst hx;exact ⟨_,rfl,by rw [q8];exact ⟨[],[],rfl,aQ.2 T,aQ.2 T⟩⟩
def vP:List AV->Nat->Nat->Option (List AV)
 |_,0,0=>some [] | [],_,_=>none
 |c::cs,0,n+1=>match vP cs 0 n with
  |some r=>some (c::r) |none=>none
 |_::cs,k+1,n=>vP cs k n
theorem BU{h:GH}: ∀{l:List AV} {vs:List Value},dM h l vs-> ∀{k n:Nat} {r:List AV},vP l k n=some r-> ∃r',oW vs k n=some r'/\dM h r r'
 |l,vs,q,0,0,r,hr=>by
  have:r=[]:=by cases l<;>(simp only [vP] at hr;injection hr with hr;exact hr.symm)
  subst this;exact ⟨[],by cases vs<;>rfl,aQ.2 T⟩
 | [],vs,q,k+1,n,r,hr=>by simp [vP] at hr | [],vs,q,0,n+1,r,hr=>by simp [vP] at hr
 |x::l,vs,q,0,n+1,r,hr=>by
  rw [aG] at q;obtain ⟨v,vs',rfl,a1,a2⟩:=q;simp only [vP] at hr;split at hr
  ·rename_i r1 h1;injection hr with hr;subst hr;obtain ⟨r',e1,e2⟩:=BU a2 h1;exact ⟨v::r',by simp only [oW,e1],aG.2 ⟨v,r',rfl,a1,e2⟩⟩
  ·cases hr
 |x::l,vs,q,k+1,n,r,hr=>by
  rw [aG] at q;obtain ⟨v,vs',rfl,a1,a2⟩:=q;have hr':vP l k n=some r:=by cases n<;>simpa only [vP] using hr
  obtain ⟨r',e1,e2⟩:=BU a2 hr';exact ⟨r',by cases n<;>simpa only [oW] using e1,e2⟩
def t3:List AV->Nat->List AV->Option (List AV)
 |cs,0,[]=>some cs |c::cs,0,v::vs=>match t3 cs 0 vs with
  |some r=>some (v::r) |none=>none
 |c::cs,k+1,vs=>match t3 cs k vs with
  |some r=>some (c::r) |none=>none
 | [],_,_=>none
theorem BW{h:GH}: ∀{l:List AV} {cs:List Value},dM h l cs-> ∀{k:Nat} {vs:List AV} {us:List Value},dM h vs us-> ∀{r:List AV},t3 l k vs=some r-> ∃r',cS cs k us=some r'/\dM h r r'
 |l,cs,q,0,[],us,p,r,hr=>by
  rw [aQ] at p;subst p;have:r=l:=by cases l<;>(simp only [t3] at hr;injection hr with hr;exact hr.symm)
  subst this;exact ⟨cs,by cases cs<;>rfl,q⟩
 | [],cs,q,k+1,vs,us,p,r,hr=>by simp [t3] at hr | [],cs,q,0,x::vs,us,p,r,hr=>by simp [t3] at hr
 |x::l,cs,q,0,z::vs,us,p,r,hr=>by
  rw [aG] at q p;obtain ⟨v,cs',rfl,a1,a2⟩:=q;obtain ⟨u,us',rfl,b1,b2⟩:=p;simp only [t3] at hr;split at hr
  ·rename_i r1 h1;injection hr with hr;subst hr;obtain ⟨r',e1,e2⟩:=BW a2 b2 h1;exact ⟨u::r',by simp only [cS,e1],aG.2 ⟨u,r',rfl,b1,e2⟩⟩
  ·cases hr
 |x::l,cs,q,k+1,vs,us,p,r,hr=>by
  rw [aG] at q;obtain ⟨v,cs',rfl,a1,a2⟩:=q;simp only [t3] at hr;split at hr
  ·rename_i r1 h1;injection hr with hr;subst hr;obtain ⟨r',e1,e2⟩:=BW a2 p h1;exact ⟨v::r',by simp only [cS,e1],aG.2 ⟨v,r',rfl,a1,e2⟩⟩
  ·cases hr
theorem TA{h:GH}{l:List AV}{vs:List Value}(q:dM h l vs){n:Nat}{x:AV}(hx:bU l n=some x): ∃v,bU vs n=some v/\Rp h x v:=by rw [cC] at hx;obtain ⟨v,e1,e2⟩:=q.at hx;exact ⟨v,by rw [cC];exact e1,e2⟩
def AO(fi:TI)(cs:List AV)(off:Nat):Option AV:=
 match fi.agg with
 |true=>match vP cs off fi.size with
  |some r=>some (.ag r) |none=>none
 |false=>bU cs off
theorem DS{h:GH}{fi:TI}{l:List AV}{vs:List Value}(q:dM h l vs){off:Nat}{x:AV}(hx:AO fi l off=some x): ∃v,xE fi vs off=some v/\Rp h x v:=by
 unfold AO at hx;unfold xE;split at hx
 ·rename_i ha;split at hx
  ·rename_i r hr;injection hx with hx;subst hx;obtain ⟨r',e1,e2⟩:=BU q hr;rw [ha];simp only [e1];exact ⟨_,rfl,eJ.2 ⟨r',rfl,e2⟩⟩
  ·cases hx
 ·rename_i ha;rw [ha];simp only;exact TA q hx
def QH(x:Value):Option AV:=match iJ x with
 |true=>some (.v x) |false=>none
theorem one1_rp{h:GH}{x:Value}{y:AV}(hy:QH x=some y):Rp h y x:=by
 unfold QH at hy;split at hy
 ·rename_i ho;injection hy with hy;subst hy;exact bE.2 ⟨rfl,ho⟩
 ·cases hy
def NA:Option Value->Option AV
 |some x=>QH x |none=>none
def binA(S:TT)(op:BinOp)(t:TypeId):AV->AV->Option AV
 | .v a, .v b=>NA (XP S op t a b) | .fn _ _ _, .v .nilFunc=>match S.get t with
   |some ti=>match ti.d with
    | .func _ _ _=>match op with
      | .eql=>some (.v (.bool false)) | .neq=>some (.v (.bool true))
      |_=>none
    |_=>none
   |none=>none
 |_,_=>none
def rG(ρ:Operand->Option AV):List Operand->Option (List AV)
 | []=>some [] |x::r=>match ρ x with
  |some v=>match rG ρ r with
   |some vs=>some (v::vs) |none=>none
  |none=>none
def gA:AV->Option (List AV)
 | .ag l=>some l | .tp _=>none
 |x=>some [x]
theorem jJ{h:GH}{x:AV}{y:Value}{l:List AV}(q:Rp h x y)(hl:gA x=some l):dM h l (aI y):=by
 cases x with
 |ag l'=>injection hl with hl;subst hl;exact q.cells (.inr ⟨_,rfl⟩) |tp l'=>cases hl
 |v x=>injection hl with hl;subst hl;exact q.cells (.inl T) |sl a b c=>injection hl with hl;subst hl;exact q.cells (.inl T)
 |pe a b=>injection hl with hl;subst hl;exact q.cells (.inl T) |fn a b c=>injection hl with hl;subst hl;exact q.cells (.inl T)
 |ms a b c=>injection hl with hl;subst hl;exact q.cells (.inl T) |ep a b c=>injection hl with hl;subst hl;exact q.cells (.inl T)
 |eb a b=>injection hl with hl;subst hl;exact q.cells (.inl T) |un=>injection hl with hl;subst hl;exact q.cells (.inl T)
def pG:List AV->Nat
 | []=>0 |_::r=>Nat.succ (pG r)
theorem i9(l:List AV):pG l=l.length:=by induction l with
 |nil=>rfl |cons x r ih=>simp [pG,ih]
def VK(place:Nat->Option (Nat×Nat))(ρ:Operand->Option AV):List (Nat×Operand)->List AV->Option (List AV)
 | [],cs=>some cs |(i,x)::r,cs=>match ρ x with
  |some v=>match gA v with
   |some vs=>match place i with
    |some (off,size)=>match Nat.beq (pG vs) size with
     |true=>match t3 cs off vs with
      |some cs'=>VK place ρ r cs' |none=>none
     |false=>none
    |none=>none
   |none=>none
  |none=>none
def O4(S:TT)(ρ:Operand->Option AV)(t:TypeId)(parts:List (Nat×Operand)):Option AV:=
 match S.get t with
 |some ti=>match aP ti.zero with
  |true=>match ti.d with
   | .struct fs=>match rT S fs.toList with
     |true=>match VK (l8 S fs.toList) ρ parts (ti.zero.map .v) with
      |some r=>some (.ag r) |none=>none
     |false=>none
   | .array _ el=>match S.get el with
     |some ei=>match VK (fun i=>some (i*ei.size,ei.size)) ρ parts (ti.zero.map .v) with
      |some r=>some (.ag r) |none=>none
     |none=>none
   |_=>none
  |false=>none
 |none=>none
def Y4(S:TT)(t:TypeId)(i:Nat):AV->Option AV
 | .ag cs=>match tB S t i with
   |some (off,fi)=>AO fi cs off |none=>none
 |_=>none
def CT(S:TT)(t:TypeId)(i:Nat):AV->Option AV
 | .v x=>NA (nB S t i x) | .pe _ (.ag cs)=>match tB S t i with
   |some (off,fi)=>match Nat.beq fi.size 0 with
    |true=>none |false=>match vP cs off fi.size with
     |some r=>match fi.agg with
      |true=>some (.pe fi.size (.ag r)) |false=>match r with
       | [x]=>match x.one with
         |true=>some (.pe fi.size x) |false=>none
       |_=>none
     |none=>none
   |none=>none
 |_=>none
def lenA(S:TT)(t:TypeId):AV->Option AV
 | .v x=>NA (ZX S t x) | .sl _ l _=>match S.get t with
   |some ti=>match ti.d with
    | .slice _=>some (.v (.int .i64 (l.length:Int))) |_=>none
   |none=>none
 | .ms _ _ n=>match S.get t with
   |some ti=>match ti.d with
    | .slice _=>some (.v (.int .i64 (n:Int))) |_=>none
   |none=>none
 |_=>none
def KS(S:TT)(b:Builtin)(ts:List TypeId)(vs:List AV):Option AV:=
 match b with
 | .len=>match ts with
   | [t]=>match vs with
     | [v]=>lenA S t v |_=>none
   |_=>none
 | .max=>match vs with
   | [.v x, .v y]=>NA (o9 S .max ts [x,y]) |_=>none
 | .min=>match vs with
   | [.v x, .v y]=>NA (o9 S .min ts [x,y]) |_=>none
 |_=>none
def apv(S:TT)(ρ:Operand->Option AV):Op->Option AV
 | .move x=>ρ x | .assign x=>ρ x
 | .pick c a b=>match ρ c with
   |some (.v (.bool g))=>match ρ a with
    |some (.v (.bool x))=>match ρ b with
     |some (.v (.bool y))=>some (.v (.bool (bif g then x else y))) |_=>none
    |_=>none
   |_=>none
 | .binOp op t x y _=>match ρ x with
   |some a=>match ρ y with
    |some b=>binA S op t a b |none=>none
   |none=>none
 | .unOp op _ x=>match ρ x with
   |some (.v a)=>NA (unv op a) |_=>none
 | .convert s d x=>match ρ x with
   |some (.v a)=>NA (SA S s d a) |_=>none
 | .field t x i=>match ρ x with
   |some a=>Y4 S t i a |none=>none
 | .fieldAddr t x i=>match ρ x with
   |some a=>CT S t i a |none=>none
 | .extract x i=>match ρ x with
   |some (.tp vs)=>bU vs i |_=>none
 | .build t parts=>O4 S ρ t parts.toList | .makeFunc (.func f) first cap=>match rG ρ first.toList with
   |some a=>match rG ρ cap.toList with
    |some b=>some (.fn f a b) |none=>none
   |none=>none
 | .nilCheck x=>match ρ x with
   |some (.v (.pointer (some a)))=>some (.v (.pointer (some a))) |some (.fn f a b)=>some (.fn f a b)
   |some (.pe sz x)=>some (.pe sz x) |_=>none
 | .call c=>match c.callee with
   | .builtin b=>match rG ρ c.args.toList with
     |some vs=>KS S b c.argTypes.toList vs |none=>none
   |_=>none
 |_=>none
section
variable{h:GH}{S:TT}{ρ:Operand->Option AV}{σ:Operand->Option Value}
theorem qI{y:Option Value}{x:AV}(hy:NA y=some x): ∃z,y=some z/\Rp h x z:=by
 cases y with
 |none=>cases hy |some z=>exact ⟨z,rfl,one1_rp hy⟩
theorem mS(hρ: ∀z x,ρ z=some x-> ∃y,σ z=some y/\Rp h x y): ∀{l:List Operand} {vs:List AV},rG ρ l=some vs-> ∃us,PG σ l=some us/\dM h vs us
 | [],_,hl=>by simp only [rG] at hl;injection hl with hl;subst hl;exact ⟨[],rfl,aQ.2 T⟩ |z::r,_,hl=>by
  simp only [rG] at hl;split at hl
  ·rename_i x hx;split at hl
   ·rename_i vs hvs;injection hl with hl;subst hl;obtain ⟨y,e1,e2⟩:=hρ z x hx;obtain ⟨us,e3,e4⟩:=mS hρ hvs;exact ⟨y::us,by simp only [PG,e1,e3],aG.2 ⟨y,us,rfl,e2,e4⟩⟩
   ·cases hl
  ·cases hl
theorem I5(hρ: ∀z x,ρ z=some x-> ∃y,σ z=some y/\Rp h x y){place:Nat->Option (Nat×Nat)}: ∀{parts:List (Nat×Operand)} {cs r:List AV} {us:List Value},dM h cs us->VK place ρ parts cs=some r->
 ∃r',tZ place σ parts us=some r'/\dM h r r'
 | [],cs,r,us,q,hr=>by simp only [VK] at hr;injection hr with hr;subst hr;exact ⟨us,rfl,q⟩ |(i,z)::p,cs,r,us,q,hr=>by
  simp only [VK] at hr;split at hr
  ·rename_i v hv;split at hr
   ·rename_i vs hc;split at hr
    ·rename_i off size hp;split at hr
     ·rename_i hlen;split at hr
      ·rename_i cs' hu;obtain ⟨y,e1,e2⟩:=hρ z v hv;have e3:=jJ e2 hc;obtain ⟨r1,e4,e5⟩:=BW q e3 hu;obtain ⟨r',e6,e7⟩:=I5 hρ e5 hr;have e8:Nat.beq (aI y).length size=true:=by rw [e3.len,<-i9];exact hlen
       exact ⟨r',by simp only [tZ,e1,hp,e8,e4,e6],e7⟩
      ·cases hr
     ·cases hr
    ·cases hr
   ·cases hr
  ·cases hr
theorem UP(hρ: ∀z x,ρ z=some x-> ∃y,σ z=some y/\Rp h x y){t:TypeId}{parts:List (Nat×Operand)}{x:AV}(hx:O4 S ρ t parts=some x): ∃y,CD S σ t parts=some y/\Rp h x y:=by
 unfold O4 at hx;unfold CD;split at hx
 ·rename_i ti ht;rw [ht];split at hx
  ·rename_i hz;have q:=KD (h:=h) hz;split at hx
   ·rename_i fs hd;simp only [hd];split at hx
    ·rename_i hty;simp only [hty];split at hx
     ·rename_i r hr;injection hx with hx;subst hx;obtain ⟨r',e1,e2⟩:=I5 hρ q hr;simp only [e1];exact ⟨_,rfl,eJ.2 ⟨r',rfl,e2⟩⟩
     ·cases hx
    ·cases hx
   ·rename_i n el hd;simp only [hd];split at hx
    ·rename_i ei hei;simp only [hei];split at hx
     ·rename_i r hr;injection hx with hx;subst hx;obtain ⟨r',e1,e2⟩:=I5 hρ q hr;simp only [e1];exact ⟨_,rfl,eJ.2 ⟨r',rfl,e2⟩⟩
     ·cases hx
    ·cases hx
   ·cases hx
  ·cases hx
 ·cases hx
theorem O7{h:GH}{l r:List AV}{vs:List Value}(q:dM h l vs){k n:Nat}(hs:vP l k n=some r){b o:Nat}(ha:iB h b o vs):
 ∃us,dM h r us/\us.length=n/\iB h b (o+k) us:=by
 obtain ⟨us,e1,e2⟩:=BU q hs;obtain ⟨g1,g2,g3⟩:=lD _ _ _ e1;refine ⟨us,e2,g1,fun i v hv=>?_⟩;have hi:i<n:=by
  rcases ad7 i n with hi|hi
  ·exact hi
  ·rw [ab4 (by omega)] at hv;cases hv
 rw [g3 i hi] at hv;have:=ha _ _ hv
 rwa [<-am2] at this
theorem apv_rp(hρ: ∀z x,ρ z=some x-> ∃y,σ z=some y/\Rp h x y){op:Op}{x:AV}(hx:apv S ρ op=some x): ∃y,pv S σ op=some y/\Rp h x y:=by
 unfold apv at hx;split at hx
 ·exact hρ _ _ hx
 ·exact hρ _ _ hx
 ·rename_i c a b;split at hx
  ·rename_i g hg;split at hx
   ·rename_i p hp;split at hx
    ·rename_i q hq;injection hx with hx;subst hx;obtain ⟨y1,e1,f1⟩:=hρ _ _ hg;obtain ⟨y2,e2,f2⟩:=hρ _ _ hp;obtain ⟨y3,e3,f3⟩:=hρ _ _ hq;rw [bE] at f1 f2 f3;rw [f1.1] at e1;rw [f2.1] at e2;rw [f3.1] at e3;simp only [pv,e1,e2,e3];exact ⟨_,rfl,bE.2 ⟨rfl,rfl⟩⟩
    ·cases hx
   ·cases hx
  ·cases hx
 ·rename_i op t a b _;split at hx
  ·rename_i p hp;split at hx
   ·rename_i q hq;obtain ⟨y1,e1,f1⟩:=hρ _ _ hp;obtain ⟨y2,e2,f2⟩:=hρ _ _ hq;simp only [pv,e1,e2];unfold binA at hx;split at hx
    ·rw [bE] at f1 f2;rw [f1.1,f2.1];exact qI hx
    ·rw [q8] at f1;obtain ⟨u,w,rfl,_⟩:=f1;rw [bE] at f2;rw [f2.1];unfold XP;split at hx
     ·rename_i ti ht;simp only [ht];split at hx
      ·rename_i hd;simp only [hd];split at hx
       ·injection hx with hx;subst hx;exact ⟨_,rfl,bE.2 ⟨rfl,rfl⟩⟩
       ·injection hx with hx;subst hx;exact ⟨_,rfl,bE.2 ⟨rfl,rfl⟩⟩
       ·cases hx
      ·cases hx
     ·cases hx
    ·cases hx
   ·cases hx
  ·cases hx
 ·split at hx
  ·rename_i a ha;obtain ⟨y1,e1,f1⟩:=hρ _ _ ha;rw [bE] at f1;rw [f1.1] at e1;simp only [pv,e1];exact qI hx
  ·cases hx
 ·split at hx
  ·rename_i a ha;obtain ⟨y1,e1,f1⟩:=hρ _ _ ha;rw [bE] at f1;rw [f1.1] at e1;simp only [pv,e1];exact qI hx
  ·cases hx
 ·rename_i t z i;split at hx
  ·rename_i a ha;obtain ⟨y1,e1,f1⟩:=hρ _ _ ha;simp only [pv,e1];unfold Y4 at hx;split at hx
   ·rw [eJ] at f1;obtain ⟨cs,rfl,f1⟩:=f1;unfold II;split at hx
    ·rename_i off fi hf;simp only [hf];exact DS f1 hx
    ·cases hx
   ·cases hx
  ·cases hx
 ·rename_i t z i;split at hx
  ·rename_i a ha;obtain ⟨y1,e1,f1⟩:=hρ _ _ ha;simp only [pv,e1];unfold CT at hx;split at hx
   ·rw [bE] at f1;rw [f1.1];exact qI hx
   ·rw [kO] at f1;obtain ⟨b,o,zz,rfl,f1,f2,f3⟩:=f1;rw [eJ] at f1;obtain ⟨cs,rfl,f1⟩:=f1;unfold nB;split at hx
    ·rename_i off fi hf;simp only [hf];split at hx
     ·cases hx
     ·rename_i hz;simp only [hz];split at hx
      ·rename_i r hr;obtain ⟨us,g1,g2,g3⟩:=O7 f1 hr f3;split at hx
       ·injection hx with hx;subst hx;exact ⟨_,rfl,kO.2 ⟨b,o+off, .agg ⟨us⟩,rfl,eJ.2 ⟨us,rfl,g1⟩,g2,g3⟩⟩
       ·split at hx
        ·rename_i x' _;split at hx
         ·rename_i ho;injection hx with hx;subst hx;rw [aG] at g1;obtain ⟨u,us',rfl,g4,g5⟩:=g1;rw [aQ] at g5;subst g5;have:=eS (g4.one ho);exact ⟨_,rfl,kO.2 ⟨b,o+off,u,rfl,g4,by rw [this];exact g2,by rw [this];exact g3⟩⟩
         ·cases hx
        ·cases hx
      ·cases hx
    ·cases hx
   ·cases hx
  ·cases hx
 ·split at hx
  ·rename_i vs ha;obtain ⟨y1,e1,f1⟩:=hρ _ _ ha;rw [o6] at f1;obtain ⟨us,rfl,f1⟩:=f1;simp only [pv,e1];exact TA f1 hx
  ·cases hx
 ·exact UP hρ hx
 ·rename_i f first cap
  split at hx
  ·rename_i a ha;split at hx
   ·rename_i b hb;injection hx with hx;subst hx;obtain ⟨us,e1,e2⟩:=mS hρ ha;obtain ⟨ws,e3,e4⟩:=mS hρ hb;simp only [pv,e1,e3];exact ⟨_,rfl,q8.2 ⟨us,ws,rfl,e2,e4⟩⟩
   ·cases hx
  ·cases hx
 ·split at hx
  ·rename_i a ha;injection hx with hx;subst hx;obtain ⟨y1,e1,f1⟩:=hρ _ _ ha;rw [bE] at f1;rw [f1.1] at e1;simp only [pv,e1];exact ⟨_,rfl,bE.2 ⟨rfl,rfl⟩⟩
  ·rename_i f a b ha;injection hx with hx;subst hx;obtain ⟨y1,e1,f1⟩:=hρ _ _ ha;have f1':=f1;rw [q8] at f1;obtain ⟨u,w,rfl,_⟩:=f1;simp only [pv,e1];exact ⟨_,rfl,f1'⟩
  ·rename_i sz z ha;injection hx with hx;subst hx;obtain ⟨y1,e1,f1⟩:=hρ _ _ ha;have f1':=f1;rw [kO] at f1;obtain ⟨b,o,zz,rfl,_⟩:=f1;simp only [pv,e1];exact ⟨_,rfl,f1'⟩
  ·cases hx
 ·rename_i c;split at hx
  ·rename_i b hb;split at hx
   ·rename_i vs hvs;obtain ⟨us,e1,e2⟩:=mS hρ hvs;simp only [pv,hb,e1];unfold KS at hx;split at hx
    ·split at hx
     ·rename_i t hts;split at hx
      ·rw [aG] at e2;obtain ⟨u,us',rfl,e2,e3⟩:=e2;rw [aQ] at e3;subst e3;simp only [o9,hts];unfold lenA at hx;split at hx
       ·rw [bE] at e2;rw [e2.1];exact qI hx
       ·rw [cU] at e2;obtain ⟨a,cap,rfl,_⟩:=e2;unfold ZX;split at hx
        ·rename_i ti ht;simp only [ht];split at hx
         ·rename_i hd;simp only [hd];injection hx with hx;subst hx;exact ⟨_,rfl,bE.2 ⟨rfl,rfl⟩⟩
         ·cases hx
        ·cases hx
       ·rw [kN] at e2;obtain ⟨rfl,a,cap,rfl⟩:=e2;unfold ZX;split at hx
        ·rename_i ti ht;simp only [ht];split at hx
         ·rename_i hd;simp only [hd];injection hx with hx;subst hx;exact ⟨_,rfl,bE.2 ⟨rfl,rfl⟩⟩
         ·cases hx
        ·cases hx
       ·cases hx
      ·cases hx
     ·cases hx
    ·split at hx
     ·rw [aG] at e2;obtain ⟨u,us',rfl,e2,e3⟩:=e2;rw [aG] at e3;obtain ⟨u2,us2,rfl,e3,e4⟩:=e3;rw [aQ] at e4;subst e4;rw [bE] at e2 e3;rw [e2.1,e3.1];exact qI hx
     ·cases hx
    ·split at hx
     ·rw [aG] at e2;obtain ⟨u,us',rfl,e2,e3⟩:=e2;rw [aG] at e3;obtain ⟨u2,us2,rfl,e3,e4⟩:=e3;rw [aQ] at e4;subst e4;rw [bE] at e2 e3;rw [e2.1,e3.1];exact qI hx
     ·cases hx
    ·cases hx
   ·cases hx
  ·cases hx
 ·cases hx
end
end Go.Tp
namespace Go.Tp
open Go Go.RowKit
inductive aF where
 |box (b:Nat) (x:AV)
 |row (sz:Nat) (z:Value) (l:List AV)
 |rows (sz:Nat) (hs:List (Value×List AV))
 |tail (sz:Nat) (z:Value)
 |loop (l:Nat) (r:Loop) (st:LoopState) (pd:Option Code)
 |mp (b:Nat) (ks:List Value) (xs:List AV)
def pI:List Value->List Value->Nat->List MapEntry
 |k::ks,v::vs,i=>⟨k,v,i⟩::pI ks vs (i+1) |_,_,_=>[]
structure tT(h:GH)(sz:Nat)(l:List AV)(zs:List Value):Prop where
 rp:dM h l zs
 sz: ∀z,z∈zs->(aI z).length=sz
 one: ∀z,z∈zs->aP (aI z)=true
def bH(zs:List Value):List Value:=zs.flatMap aI
def rS(h:GH)(sz:Nat)(z:Value)(l:List AV)(p:a6):Prop:=
 ∃a cap zs,z= .slice a l.length cap/\l.length<=cap/\tT h sz l zs/\p.obj=none/\
  ((l=[]/\p.cs=[]/\cap=0/\ ∀y,a=some y->y.spot=none)\/ ∃b o sp,a=some ⟨b,o,none⟩/\p=⟨b,o,bH zs++sp,none⟩/\sp.length=(cap-l.length)*sz)
def dJ(h:GH)(sz:Nat):List (Value×List AV)->List a6->Prop
 | [],L=>L=[] |(z,l)::r,L=> ∃p L',L=p::L'/\rS h sz z l p/\dJ h sz r L'
def nZ(h:GH):aF->List a6->Prop
 | .box b x,L=> ∃z,Rp h x z/\L=[⟨b,0,aI z,none⟩] | .row sz z l,L=> ∃p,rS h sz z l p/\L=[p]
 | .rows sz hs,L=>dJ h sz hs L | .tail sz z,L=> ∃p,Tl sz z p/\L=[p]
 | .loop l r st pd,L=>L=[⟨l,0,[],some (.loop {r with state:=st,pending:=pd})⟩] | .mp b ks xs,L=>ks.length=xs.length/\ ∃vs,dM h xs vs/\L=[⟨b,0,[],some (.map ⟨pI ks vs 0⟩ ks.length)⟩]
def kL(h:GH):List aF->List a6->Prop
 | [],L=>L=[] |x::r,L=> ∃L1 L2,L=L1++L2/\nZ h x L1/\kL h r L2
theorem tT.mono{h h':GH}(hl:h.le h'){sz:Nat}{l:List AV}{zs:List Value}(r:tT h sz l zs):tT h' sz l zs:=⟨r.rp.mono hl,r.sz,r.one⟩
theorem rS.mono{h h':GH}(hl:h.le h'){sz:Nat}{z:Value}{l:List AV}{p:a6}(r:rS h sz z l p):rS h' sz z l p:=by obtain ⟨a,cap,zs,h1,h2,h3,h4⟩:=r;exact ⟨a,cap,zs,h1,h2,h3.mono hl,h4⟩
theorem dJ.mono{h h':GH}(hl:h.le h'){sz:Nat}: ∀{hs:List (Value×List AV)} {L:List a6},dJ h sz hs L->dJ h' sz hs L
 | [],_,r=>r |(z,l)::hs,_,⟨p,L',h1,h2,h3⟩=>⟨p,L',h1,h2.mono hl,dJ.mono hl h3⟩
theorem nZ.mono{h h':GH}(hl:h.le h'){x:aF}{p:List a6}(r:nZ h x p):nZ h' x p:=by
 cases x with
 |box b x=>obtain ⟨z,h1,h2⟩:=r;exact ⟨z,h1.mono hl,h2⟩
 |row sz z l=>obtain ⟨p,h1,h2⟩:=r;exact ⟨p,h1.mono hl,h2⟩
 |rows sz hs=>exact dJ.mono hl r |tail sz z=>exact r
 |loop l r' st pd=>exact r |mp b ks xs=>obtain ⟨h1,vs,h2,h3⟩:=r;exact ⟨h1,vs,h2.mono hl,h3⟩
theorem kL.mono{h h':GH}(hl:h.le h'): ∀{Λ:List aF} {L:List a6},kL h Λ L->kL h' Λ L
 | [],_,r=>r |x::r,_,⟨p,L',h1,h2,h3⟩=>⟨p,L',h1,h2.mono hl,kL.mono hl h3⟩
section
variable{h:GH}
theorem kL.perm{Λ Λ':List aF}(p:Λ.Perm Λ'): ∀{L:List a6},kL h Λ L-> ∃L',kL h Λ' L'/\L.Perm L':=by
 induction p with
 |nil=>intro L r;exact ⟨L,r, .refl _⟩ |cons x _ ih=>
  intro L r;obtain ⟨q,L1,rfl,h1,h2⟩:=r;obtain ⟨L2,h3,h4⟩:=ih h2;exact ⟨q++L2,⟨q,L2,rfl,h1,h3⟩,h4.append_left q⟩
 |swap x y l=>
  intro L r;obtain ⟨q,L1,rfl,h1,q',L2,rfl,h2,h3⟩:=r;refine ⟨q'++(q++L2),⟨q',_,rfl,h2,q,L2,rfl,h1,h3⟩,?_⟩;rw [<-ab7,<-ab7];exact List.perm_append_comm.append_right L2
 |trans _ _ ih1 ih2=>
  intro L r;obtain ⟨L1,h1,h2⟩:=ih1 r;obtain ⟨L2,h3,h4⟩:=ih2 h1;exact ⟨L2,h3,h2.trans h4⟩
theorem kL.sub{Λ Λ':List aF}(s:Λ'.Sublist Λ): ∀{L:List a6},kL h Λ L-> ∃L',kL h Λ' L'/\L'.Sublist L:=by
 induction s with
 |slnil=>intro L r;exact ⟨L,r, .refl _⟩ |cons x _ ih=>
  intro L r;obtain ⟨q,L1,rfl,h1,h2⟩:=r;obtain ⟨L2,h3,h4⟩:=ih h2;exact ⟨L2,h3,h4.trans (List.sublist_append_right q L1)⟩
 |cons_cons x _ ih=>
  intro L r;obtain ⟨q,L1,rfl,h1,h2⟩:=r;obtain ⟨L2,h3,h4⟩:=ih h2;exact ⟨q++L2,⟨q,L2,rfl,h1,h3⟩,h4.append_left q⟩
theorem kL.append: ∀{Λ Λ':List aF} {L L':List a6},kL h Λ L->kL h Λ' L'->kL h (Λ++Λ') (L++L')
 | [],_,_,_,a,b=>by cases a;exact b |x::r,_,_,_,⟨p,L1,h1,h2,h3⟩,b=>by subst h1;exact ⟨p,_,by rw [ab7],h2,kL.append h3 b⟩
theorem kL.split: ∀{Λ Λ':List aF} {L:List a6},kL h (Λ++Λ') L-> ∃L1 L2,L=L1++L2/\kL h Λ L1/\kL h Λ' L2
 | [],_,L,a=>⟨[],L,rfl,rfl,a⟩ |x::r,_,_,⟨p,L1,h1,h2,h3⟩=>by obtain ⟨L2,L3,g1,g2,g3⟩:=kL.split h3;subst h1;subst g1;exact ⟨p++L2,L3,by rw [ab7],⟨p,L2,rfl,h2,g2⟩,g3⟩
theorem kL.one{x:aF}{Λ:List aF}{p:a6}{L:List a6}(a:nZ h x [p])(b:kL h Λ L):kL h (x::Λ) (p::L):=⟨[p],L,rfl,a,b⟩
theorem kL.mem: ∀{Λ:List aF} {L:List a6},kL h Λ L-> ∀{x:aF},x∈Λ-> ∃L1,(∀p,p∈L1->p∈L)/\nZ h x L1
 | [],_,_,_,hx=>by cases hx |y::Λ,_,⟨p,L',h1,h2,h3⟩,x,hx=>by
  subst h1;rcases ab0.1 hx with rfl|hx
  ·exact ⟨p,fun q hq=>ac9 _ hq,h2⟩
  ·obtain ⟨q,g1,g2⟩:=kL.mem h3 hx;exact ⟨q,fun r hr=>ae6 _ (g1 r hr),g2⟩
theorem kL.mid{Λ1 Λ2:List aF}{x:aF}{L:List a6}(r:kL h (Λ1++x::Λ2) L): ∃L1 M L2,L=L1++(M++L2)/\kL h Λ1 L1/\nZ h x M/\kL h Λ2 L2:=by obtain ⟨L1,L',h1,h2,p,L2,h3,h4,h5⟩:=r.split;subst h3;exact ⟨L1,p,L2,h1,h2,h4,h5⟩
theorem kL.fz{Λ1 Λ2:List aF}{x:aF}{L1 M L2:List a6}(a:kL h Λ1 L1)(b:nZ h x M)(c:kL h Λ2 L2):kL h (Λ1++x::Λ2) (L1++(M++L2)):=a.append ⟨M,L2,rfl,b,c⟩
end
structure AC where
 P:Program
 S:TT
 w0:World
 f:FuncId
 fn:Func
 n:Nat
 ok:S.Ok P
 hfn:P.funcs[f]? =some fn
 h0:GH
 F:List a6
 gs:Ua
 hgs:jP h0 gs
 Q:AV->List aF->Prop
 D:List Nat:=[]
 rd:Option Nat:=none
def AC.G(K:AC):List a6:=pC K.D++K.F
def AC.R(K:AC):Value->GH->List a6->Prop:=fun v h' L'=> ∃x Λ' L1,K.Q x Λ'/\Rp h' x v/\K.h0.le h'/\kL h' Λ' L1/\(L1++K.F).Sublist L'
def AC.cfg(K:AC):nY:=⟨K.P,K.S,K.w0,K.f,K.fn,K.n,K.R,K.ok,K.hfn,K.D,K.rd⟩
structure A(K:AC)(k:List It)(E:aH)(Λ:List aF):Prop where
 run: ∀h e L,K.h0.le h->iR h E e->kL h Λ L->V K.cfg k e h (L++K.G)
def gC(E:aH)(all:Array Oper):Option (Nat×Bool)->Option (Option (Nat×Bool)×List (Nat×Bool))
 |none=>some (none,[]) |some (j,w)=>match bU all.toList j with
  |some o=>match o.dst with
   |some t=>some (some (t,w),yM E.cs 6 (t,w)) |none=>none
  |none=>none
def aV(E:aH)(all:Array Oper):Option (Nat×Bool)->Option (List (Nat×Bool))
 |none=>some [] |some (j,w)=>match bU all.toList j with
  |some o=>match o.dst with
   |some t=>match bJ E.us t with
    |some (.v (.bool b))=>match b,w with
     |true,true=>some [(t,w)] |false,false=>some [(t,w)]
     |_,_=>none
    |_=>none
   |none=>none
  |none=>none
def ZC(E:aH)(all:Array Oper):Option (Nat×Bool)->Option Bool
 |none=>none |some (j,w)=>match bU all.toList j with
  |some o=>match o.dst with
   |some t=>match bJ E.us t with
    |some (.v (.bool b))=>match b,w with
     |true,false=>some true |false,true=>some true
     |_,_=>none
    |_=>none
   |none=>none
  |none=>none
def aH.put(n:Nat)(m:Option (Nat×Bool))(d:Option Nat)(v:AV)(e:aH):Option aH:=
 match d with
 |none=>some e |some d=>match Nat.blt d n with
  |false=>none |true=>match MD e.cs d with
   |false=>none |true=>match m with
    |none=>some ⟨(d,v)::e.us,e.cs⟩ |some k=>match bJ e.us d with
     |some _=>none |none=>match Nat.beq k.1 d with
      |true=>none |false=>some ⟨e.us,(d,k,v)::e.cs⟩
def bZ(n:Nat)(e:aH)(d:Nat):Bool:=match Nat.blt d n with
 |true=>MD e.cs d |false=>false
section
variable{h:GH}{E E':aH}{e:Env}{all:Array Oper}
theorem f0(r:iR h E e)(g:Option (Nat×Bool)):gC E all g=iH e all g:=by
 cases g with
 |none=>rfl |some x=>
  obtain ⟨j,w⟩:=x;simp only [gC,iH];cases bU all.toList j with
  |none=>rfl |some o=>
   simp only;cases o.dst with
   |none=>rfl |some t=>simp only;rw [r.2.chain]
theorem aT(r:iR h E e){g:Option (Nat×Bool)}{ks:List (Nat×Bool)}(hg:aV E all g=some ks):fX e all g=some ks:=by
 cases g with
 |none=>exact hg |some x=>
  obtain ⟨j,w⟩:=x;simp only [aV] at hg;simp only [fX];split at hg
  ·rename_i o ho;simp only [ho];split at hg
   ·rename_i t ht;simp only [ht];split at hg
    ·rename_i b hb;rcases r.1.look t with ⟨x,v,e1,e2,e3⟩|⟨e1,e2⟩
     ·rw [hb] at e1;injection e1 with e1;subst e1;rw [bE] at e3;rw [e3.1] at e2;simp only [e2];exact hg
     ·rw [hb] at e1;cases e1
    ·cases hg
   ·cases hg
  ·cases hg
theorem SF(r:iR h E e){g:Option (Nat×Bool)}{x:Bool}(hg:ZC E all g=some x):gno e all g=some x:=by
 cases g with
 |none=>cases hg |some y=>
  obtain ⟨j,w⟩:=y;simp only [ZC] at hg;simp only [gno];split at hg
  ·rename_i o ho;simp only [ho];split at hg
   ·rename_i t ht;simp only [ht];split at hg
    ·rename_i b hb;rcases r.1.look t with ⟨x,v,e1,e2,e3⟩|⟨e1,e2⟩
     ·rw [hb] at e1;injection e1 with e1;subst e1;rw [bE] at e3;rw [e3.1] at e2;simp only [e2];exact hg
     ·rw [hb] at e1;cases e1
    ·cases hg
   ·cases hg
  ·cases hg
theorem cJ(r:iR h E e){n:Nat}{m:Option (Nat×Bool)}{d:Option Nat}{x:AV}(hp:E.put n m d x=some E'){y:Value}(q:Rp h x y): ∃e',e.put n m d y=some e'/\iR h E' e':=by
 cases d with
 |none=>injection hp with hp;subst hp;exact ⟨e,rfl,r⟩ |some d=>
  simp only [aH.put] at hp;simp only [Env.put];split at hp
  ·cases hp
  ·rename_i hlt;simp only [hlt];split at hp
   ·cases hp
   ·rename_i hf;rw [r.2.free] at hf;simp only [hf];split at hp
    ·injection hp with hp;subst hp;exact ⟨_,rfl,⟨y,e.us,rfl,q,r.1⟩,r.2⟩
    ·rename_i k;rcases r.1.look d with ⟨x',v,e1,e2,e3⟩|⟨e1,e2⟩
     ·rw [e1] at hp;cases hp
     ·rw [e1] at hp;rw [e2];simp only at hp⊢;split at hp
      ·cases hp
      ·rename_i hk;simp only [hk];injection hp with hp;subst hp;exact ⟨_,rfl,r.1,⟨y,e.cs,rfl,q,r.2⟩⟩
theorem bQ(r:iR h E e){n d:Nat}(hp:bZ n E d=true):eY n e d=true:=by
 unfold bZ at hp;unfold eY;split at hp
 ·rename_i hlt;simp only [hlt];rw [<-r.2.free];exact hp
 ·cases hp
end
def pickA(gs:Ua)(E:aH)(ks:List (Nat×Bool))(t:Nat)(x y:Operand):Option AV:=match E.ev gs ks (.tmp t) with
 |some (.v (.bool g))=>match E.ev gs (yM E.cs 6 (t,true)++ks) x with
  |some (.v (.bool p))=>match E.ev gs (yM E.cs 6 (t,false)++ks) y with
   |some (.v (.bool q))=>some (.v (.bool (bif g then p else q))) |_=>none
  |_=>none
 |_=>none
def loadA(S:TT)(t:TypeId):AV->Option AV
 | .pe sz x=>match S.get t with
   |some ti=>match Nat.beq sz ti.size with
    |true=>match ti.agg with
     |true=>match x with
      | .ag l=>some (.ag l) |_=>none
     |false=>match x.one with
      |true=>some x |false=>none
    |false=>none
   |none=>none
 |_=>none
def UI(S:TT)(gs:Ua)(E:aH)(ks:List (Nat×Bool))(op:Op):Option AV:=match op with
 | .pick (.tmp t) x y=>pickA gs E ks t x y | .load t p=>match E.ev gs ks p with
   |some x=>loadA S t x |none=>none
 |op=>apv S (E.ev gs ks) op
theorem xJ{P:Program}{S:TT}{gs:Ua}{h:GH}{L:List a6}{w0:World}{n:Nat}{D:List Nat}{E:aH}{e:Env}{ks:List (Nat×Bool)}(hS:S.Ok P)(hgs:jP h gs)(r:iR h E e){o:Oper}{x:AV}
 (hx:UI S gs E ks o.op=some x): ∃y,Rp h x y/\ ∀a w,Ag n D e a->St w0 h L w->dK a ks->(execOp a.eval o).run P w= .ok (.value y) w:=by
 unfold UI at hx;split at hx
 ·rename_i t u v hop;unfold pickA at hx;split at hx
  ·rename_i b hb;split at hx
   ·rename_i p hp;split at hx
    ·rename_i q hq;injection hx with hx;subst hx;obtain ⟨y1,e1,f1⟩:=r.ev hgs ks hb;obtain ⟨y2,e2,f2⟩:=r.ev hgs _ hp;obtain ⟨y3,e3,f3⟩:=r.ev hgs _ hq;rw [bE] at f1 f2 f3;rw [f1.1] at e1;rw [f2.1,r.2.chain] at e2;rw [f3.1,r.2.chain] at e3;refine ⟨_,bE.2 ⟨rfl,rfl⟩,fun a w g s hk=>xL hS g hk ?_⟩;rw [hop];simp only [pve,pickv,e1,e2,e3]
    ·cases hx
   ·cases hx
  ·cases hx
 ·rename_i t p hop;split at hx
  ·rename_i z hz;unfold loadA at hx;split at hx
   ·rename_i sz u;split at hx
    ·rename_i ti ht;split at hx
     ·rename_i hsz;have hsz:=ab2 hsz;obtain ⟨y1,e1,f1⟩:=r.ev hgs ks hz;rw [kO] at f1;obtain ⟨b,off,zz,rfl,f1,f2,f3⟩:=f1;have okt:=TT.Ok.get hS ht;split at hx
      ·rename_i ha;split at hx
       ·injection hx with hx;subst hx;have f1':=f1;rw [eJ] at f1;obtain ⟨cs,rfl,f1⟩:=f1;refine ⟨_,f1',fun a w g s hk=>?_⟩;have:=kG (P:=P) (w:=w) okt ha (b:=b) (o:=off) (vs:=cs) (fun i v hv=>s.imm _ _ _ (f3 i v hv)) (by rw [<-hsz];exact f2);unfold execOp;rw [hop];simp [g.ev hk e1,this]
       ·cases hx
      ·rename_i ha;split at hx
       ·rename_i ho;injection hx with hx;subst hx;have hc:=eS (f1.one ho);refine ⟨_,f1,fun a w g s hk=>?_⟩;have h3:h b off=some zz:=by have:=f3 0 zz (by rw [hc];rfl);simpa using this
        have:=hK (P:=P) (w:=w) okt ha (b:=b) (o:=off) (v:=zz) (s.imm _ _ _ h3);unfold execOp;rw [hop];simp [g.ev hk e1,this]
       ·cases hx
     ·cases hx
    ·cases hx
   ·cases hx
  ·cases hx
 ·rename_i h1 h2;obtain ⟨y,e1,e2⟩:=apv_rp (σ:=e.ev ks) (fun z x hz=>r.ev hgs ks hz) hx;refine ⟨y,e2,fun a w g s hk=>xL hS g hk ?_⟩;unfold pve;split
  ·rename_i t u v hop;exact (h1 _ _ _ hop).elim
  ·exact e1
section
variable{K:AC}{k:List It}{E:aH}{Λ:List aF}
theorem A.value{all:Array Oper}{o:Oper}{l:List Oper}{m:Option (Nat×Bool)}{ks:List (Nat×Bool)}{x:AV}{E':aH}(hg:gC E all o.guard=some (m,ks))
 (hr: ∀h e L,K.h0.le h->iR h E e->kL h Λ L-> ∃y,Rp h x y/\ ∀a w,Ag K.n K.D e a->St K.w0 h (L++K.G) w->dK a ks->(execOp a.eval o).run K.P w= .ok (.value y) w)
 (hp:E.put K.n m o.dst x=some E') (next:A K (.ops all l::k) E' Λ):A K (.ops all (o::l)::k) E Λ:=by
 refine ⟨fun h e L hl r q=>?_⟩;obtain ⟨y,e1,e2⟩:=hr h e L hl r q;rw [f0 r] at hg;obtain ⟨e',e3,e4⟩:=cJ r hp e1;exact V.value hg e2 e3 (next.run h e' L hl e4 q)
theorem A.bg{all:Array Oper}{o:Oper}{l:List Oper}{ks:List (Nat×Bool)}{x:AV}{E':aH}(hg:aV E all o.guard=some ks)
 (hr: ∀h e L,K.h0.le h->iR h E e->kL h Λ L-> ∃y,Rp h x y/\ ∀a w,Ag K.n K.D e a->St K.w0 h (L++K.G) w->dK a ks->(execOp a.eval o).run K.P w= .ok (.value y) w)
 (hp:E.put K.n none o.dst x=some E') (next:A K (.ops all l::k) E' Λ):A K (.ops all (o::l)::k) E Λ:=by
 refine ⟨fun h e L hl r q=>?_⟩;obtain ⟨y,e1,e2⟩:=hr h e L hl r q;obtain ⟨e',e3,e4⟩:=cJ r hp e1;exact V.bg (aT r hg) e2 e3 (next.run h e' L hl e4 q)
def astep(S:TT)(gs:Ua)(n:Nat)(k:List It)(E:aH):Option (List It×aH):=
 match k with
 | .ops all []::k=>some (k,⟨E.us,[]⟩) | .ops all (o::l)::k=>match gC E all o.guard with
   |some (m,ks)=>match UI S gs E ks o.op with
    |some v=>match E.put n m o.dst v with
     |some E'=>some (.ops all l::k,E') |none=>none
    |none=>none
   |none=>none
 |k=>match cstep k with
  |some k'=>some (k',E) |none=>none
def OY(S:TT)(gs:Ua)(n:Nat)(k:List It)(E:aH):Option (List It×aH):=
 match k with
 | .ops all []::k=>some (k,⟨E.us,[]⟩) | .ops all (o::l)::k=>match aV E all o.guard with
   |some ks=>match UI S gs E ks o.op with
    |some v=>match E.put n none o.dst v with
     |some E'=>some (.ops all l::k,E') |none=>none
    |none=>none
   |none=>none
 |k=>match cstep k with
  |some k'=>some (k',E) |none=>none
theorem A.eo{all:Array Oper}(hv:A K k ⟨E.us,[]⟩ Λ):A K (.ops all []::k) E Λ:=⟨fun h e L hl r q=>V.eo (hv.run h ⟨e.us,[]⟩ L hl ⟨r.1,rfl⟩ q)⟩
theorem A.cstep{k':List It}(hc:Go.Tp.cstep k=some k')(hv:A K k' E Λ):A K k E Λ:=⟨fun h e L hl r q=>V.cstep hc (hv.run h e L hl r q)⟩
theorem A.step{k':List It}{E':aH}(hs:astep K.S K.gs K.n k E=some (k',E'))(hv:A K k' E' Λ):A K k E Λ:=by
 unfold astep at hs;split at hs
 ·injection hs with hs;injection hs with h1 h2;subst h1;subst h2;exact A.eo hv
 ·split at hs
  ·rename_i m ks hg;split at hs
   ·rename_i v hpv;split at hs
    ·rename_i e'' hput;injection hs with hs;injection hs with h1 h2;subst h1;subst h2;exact A.value hg (fun h e L hl r q=>xJ K.ok (K.hgs.mono hl) r hpv) hput hv
    ·cases hs
   ·cases hs
  ·cases hs
 ·split at hs
  ·rename_i k'' hc;injection hs with hs;injection hs with h1 h2;subst h1;subst h2;exact A.cstep hc hv
  ·cases hs
theorem A.aq{k':List It}{E':aH}(hs:OY K.S K.gs K.n k E=some (k',E'))(hv:A K k' E' Λ):A K k E Λ:=by
 unfold OY at hs;split at hs
 ·injection hs with hs;injection hs with h1 h2;subst h1;subst h2;exact A.eo hv
 ·split at hs
  ·rename_i ks hg;split at hs
   ·rename_i v hpv;split at hs
    ·rename_i e'' hput;injection hs with hs;injection hs with h1 h2;subst h1;subst h2;exact A.bg hg (fun h e L hl r q=>xJ K.ok (K.hgs.mono hl) r hpv) hput hv
    ·cases hs
   ·cases hs
  ·cases hs
 ·split at hs
  ·rename_i k'' hc;injection hs with hs;injection hs with h1 h2;subst h1;subst h2;exact A.cstep hc hv
  ·cases hs
theorem A.cond{c:Operand}{x y:Code}{g:Bool}(hc:E.ev K.gs [] c=some (.v (.bool g)))(ht:g=true->A K (.code x::k) E Λ)(hf:g=false->A K (.code y::k) E Λ):A K (.code (.cond c x y)::k) E Λ:=by refine ⟨fun h e L hl r q=>?_⟩;obtain ⟨v,e1,e2⟩:=r.ev (K.hgs.mono hl) [] hc;rw [bE] at e2;rw [e2.1] at e1;exact V.cond e1 (fun hg=>(ht hg).run h e L hl r q) (fun hg=>(hf hg).run h e L hl r q)
theorem A.af{c:Operand}{x y:Code}(hc:E.ev K.gs [] c=some (.v (.bool true)))(next:A K (.code x::k) E Λ):A K (.code (.cond c x y)::k) E Λ:=A.cond hc (fun _=>next) (fun h=>by cases h)
theorem A.ae{c:Operand}{x y:Code}(hc:E.ev K.gs [] c=some (.v (.bool false)))(next:A K (.code y::k) E Λ):A K (.code (.cond c x y)::k) E Λ:=A.cond hc (fun h=>by cases h) (fun _=>next)
theorem zT.put{h:GH}{U:Ua}{us:Us}(r:zT h U us){t:Nat}{x:AV}{v:Value}(q:Rp h x v):zT h ((t,x)::U) ((t,v)::us):=⟨v,us,rfl,q,r⟩
theorem A.val(t:Nat){x x':AV}(hx:bJ E.us t=some x)(hs:Sb x x')(next:A K k ⟨(t,x')::E.us,E.cs⟩ Λ):A K k E Λ:=by
 refine ⟨fun h e L hl r q=>?_⟩;rcases r.1.look t with ⟨y,v,e1,e2,e3⟩|⟨e1,e2⟩
 ·rw [hx] at e1;injection e1 with e1;subst e1;exact V.val t e2 T (next.run h ⟨(t,v)::e.us,e.cs⟩ L hl ⟨r.1.put (hs.rp e3),r.2⟩ q)
 ·rw [hx] at e1;cases e1
theorem A.ad(t:Nat){x x':AV}(hx:bJ E.us t=some x)(hs:x=x')(next:A K k ⟨(t,x')::E.us,E.cs⟩ Λ):A K k E Λ:=A.val t hx (by subst hs;exact .refl) next
theorem A.split(t:Nat){g:Bool}(hx:bJ E.us t=some (.v (.bool g)))(ht:g=true->A K k ⟨(t, .v (.bool true))::E.us,E.cs⟩ Λ)(hf:g=false->A K k ⟨(t, .v (.bool false))::E.us,E.cs⟩ Λ):A K k E Λ:=by
 cases g
 ·exact A.val t hx .refl (hf T)
 ·exact A.val t hx .refl (ht T)
theorem A.skip{all:Array Oper}{o:Oper}{l:List Oper}{x:Bool}{E':aH}(hg:ZC E all o.guard=some x)(hp:E.put K.n none o.dst (.tp [])=some E')(hv:A K (.ops all l::k) E' Λ):A K (.ops all (o::l)::k) E Λ:=by refine ⟨fun h e L hl r q=>?_⟩;obtain ⟨e',e3,e4⟩:=cJ r hp (y:=undef) (o6.2 ⟨[],rfl,aQ.2 rfl⟩);exact V.skip (SF r hg) e3 (hv.run h e' L hl e4 q)
theorem A.al{all:Array Oper}{o:Oper}{l:List Oper}{t:Nat}{b:Bool}{ks:List (Nat×Bool)}{E':aH}(hg:gC E all o.guard=some (some (t,b),ks))(hx:bJ E.us t=some (.tp []))(hp:E.put K.n none o.dst (.tp [])=some E')
 (hv:A K (.ops all l::k) E' Λ):A K (.ops all (o::l)::k) E Λ:=by
 refine ⟨fun h e L hl r q=>?_⟩;rw [f0 r] at hg;obtain ⟨e',e3,e4⟩:=cJ r hp (y:=undef) (o6.2 ⟨[],rfl,aQ.2 rfl⟩);rcases r.1.look t with ⟨y,v,e1,e2,e5⟩|⟨e1,e2⟩
 ·rw [hx] at e1;injection e1 with e1;subst e1;rw [o6] at e5;obtain ⟨cs,rfl,e5⟩:=e5;rw [aQ] at e5;subst e5;exact V.al hg e2 e3 (hv.run h e' L hl e4 q)
 ·rw [hx] at e1;cases e1
theorem A.aj{all:Array Oper}{o:Oper}{l:List Oper}{m:Option (Nat×Bool)}{ks:List (Nat×Bool)}{c x y:Operand}{v:AV}{E':aH}(hg:gC E all o.guard=some (m,ks))(ho:o.op= .pick c x y)(hc:E.ev K.gs ks c=some (.v (.bool true)))
 (hx:E.ev K.gs ks x=some v) (hp:E.put K.n m o.dst v=some E') (next:A K (.ops all l::k) E' Λ):A K (.ops all (o::l)::k) E Λ:=by
 refine ⟨fun h e L hl r q=>?_⟩;rw [f0 r] at hg;obtain ⟨v1,e1,f1⟩:=r.ev (K.hgs.mono hl) _ hc;obtain ⟨v2,e2,f2⟩:=r.ev (K.hgs.mono hl) _ hx;rw [bE] at f1;rw [f1.1] at e1;obtain ⟨e',e3,e4⟩:=cJ r hp f2;exact V.aj hg ho e1 e2 e3 (next.run h e' L hl e4 q)
theorem A.ai{all:Array Oper}{o:Oper}{l:List Oper}{m:Option (Nat×Bool)}{ks:List (Nat×Bool)}{c x y:Operand}{v:AV}{E':aH}(hg:gC E all o.guard=some (m,ks))(ho:o.op= .pick c x y)(hc:E.ev K.gs ks c=some (.v (.bool false)))
 (hx:E.ev K.gs ks y=some v) (hp:E.put K.n m o.dst v=some E') (next:A K (.ops all l::k) E' Λ):A K (.ops all (o::l)::k) E Λ:=by
 refine ⟨fun h e L hl r q=>?_⟩;rw [f0 r] at hg;obtain ⟨v1,e1,f1⟩:=r.ev (K.hgs.mono hl) _ hc;obtain ⟨v2,e2,f2⟩:=r.ev (K.hgs.mono hl) _ hx;rw [bE] at f1;rw [f1.1] at e1;obtain ⟨e',e3,e4⟩:=cJ r hp f2;exact V.ai hg ho e1 e2 e3 (next.run h e' L hl e4 q)
def SW(us:Ua):List Nat->Option Ua
 | []=>some [] |t::r=>match bJ us t with
  |some x=>match SW us r with
   |some l=>some ((t,x)::l) |none=>none
  |none=>none
theorem zT.ay{h:GH}{U:Ua}{us:Us}(r:zT h U us): ∀{ts:List Nat} {U':Ua},SW U ts=some U'-> ∃us',zT h U' us'/\ ∀(n:Nat) (e:Env),e.us=us->e.Sub us'
 | [],U',hk=>by injection hk with hk;subst hk;exact ⟨[],rfl,fun _ _ _=>trivial⟩ |t::ts,U',hk=>by
  simp only [SW] at hk;split at hk
  ·rename_i x hx;split at hk
   ·rename_i l hl;injection hk with hk;subst hk;obtain ⟨us',g1,g2⟩:=zT.ay r hl;rcases r.look t with ⟨y,v,e1,e2,e3⟩|⟨e1,e2⟩
    ·rw [hx] at e1;injection e1 with e1;subst e1;exact ⟨(t,v)::us',g1.put e3,fun n e he=>⟨by rw [he];exact e2,g2 n e he⟩⟩
    ·rw [hx] at e1;cases e1
   ·cases hk
  ·cases hk
theorem A.ay(ts:List Nat){U:Ua}(hk:SW E.us ts=some U)(next:A K k ⟨U,[]⟩ Λ):A K k E Λ:=by refine ⟨fun h e L hl r q=>?_⟩;obtain ⟨us',g1,g2⟩:=r.1.ay hk;exact V.sub (g2 0 e T) (next.run h ⟨us',[]⟩ L hl ⟨g1,rfl⟩ q)
def subU(us:Ua):Ua->Prop
 | []=>True |(t,x)::r=>(∃y,bJ us t=some y/\Sb y x)/\subU us r
theorem zT.sub{h:GH}{U:Ua}{us:Us}(r:zT h U us): ∀{U':Ua},subU U U'-> ∃us',zT h U' us'/\ ∀(n:Nat) (e:Env),e.us=us->e.Sub us'
 | [],_=>⟨[],rfl,fun _ _ _=>trivial⟩ |(t,x)::U',⟨⟨y,hy,hs⟩,hr⟩=>by
  obtain ⟨us',g1,g2⟩:=zT.sub r hr;rcases r.look t with ⟨z,v,e1,e2,e3⟩|⟨e1,e2⟩
  ·rw [hy] at e1;injection e1 with e1;subst e1;exact ⟨(t,v)::us',g1.put (hs.rp e3),fun n e he=>⟨by rw [he];exact e2,g2 n e he⟩⟩
  ·rw [hy] at e1;cases e1
theorem A.sub{U:Ua}(hs:subU E.us U)(next:A K k ⟨U,[]⟩ Λ):A K k E Λ:=by refine ⟨fun h e L hl r q=>?_⟩;obtain ⟨us',g1,g2⟩:=r.1.sub hs;exact V.sub (g2 0 e T) (next.run h ⟨us',[]⟩ L hl ⟨g1,rfl⟩ q)
theorem V.less{C:nY}{e:Env}{h:GH}{L L':List a6}(hs:L'.Sublist L)(hv:V C k e h L'):V C k e h L:=fun ho a w b cs g s hf hk=>hv ho a w b cs g (s.sub hs) hf hk
theorem A.perm{Λ':List aF}(p:Λ.Perm Λ')(next:A K k E Λ'):A K k E Λ:=by refine ⟨fun h e L hl r q=>?_⟩;obtain ⟨L',g1,g2⟩:=q.perm p;exact V.perm (g2.append_right _) (next.run h e L' hl r g1)
theorem A.less{Λ':List aF}(s:Λ'.Sublist Λ)(next:A K k E Λ'):A K k E Λ:=by refine ⟨fun h e L hl r q=>?_⟩;obtain ⟨L',g1,g2⟩:=q.sub s;exact V.less (g2.append_right _) (next.run h e L' hl r g1)
theorem A.loop{c:Code}{ι:Type}(I:ι->aH×List aF)(μ:ι->Nat)
 (round: ∀i,(∀j,μ j<μ i->A K (.inLoop c::k) (I j).1 (I j).2)->A K (.code c:: .inLoop c::k) (I i).1 (I i).2)
 (i:ι) (he:I i=(E,Λ)):A K (.code (.loop c)::k) E Λ:=by
 have key: ∀m i,μ i=m->A K (.code c:: .inLoop c::k) (I i).1 (I i).2:=by
  intro m
  induction m using Nat.strongRecOn with
  |_ m ih=>
   intro i hi;refine round i fun j hj=>?_;refine ⟨fun h e L hl r q=>?_⟩;exact V.again ((ih (μ j) (hi▸hj) j T).run h e L hl r q)
 have:=key (μ i) i T;rw [he] at this;exact ⟨fun h e L hl r q=>V.bh (this.run h e L hl r q)⟩
theorem A.bh{c:Code}(hv:A K (.code c:: .inLoop c::k) E Λ):A K (.code (.loop c)::k) E Λ:=⟨fun h e L hl r q=>V.bh (hv.run h e L hl r q)⟩
theorem A.again{c:Code}(hv:A K (.code c:: .inLoop c::k) E Λ):A K (.inLoop c::k) E Λ:=⟨fun h e L hl r q=>V.again (hv.run h e L hl r q)⟩
theorem A.az{t:Nat}{x:AV}{Λ':List aF}(hk:atEnd k=true)(hr:K.fn.results= #[.tmp t])(hx:bJ E.us t=some x)(hs:Λ'.Sublist Λ)(hq:K.Q x Λ')(hrd:K.rd=none:=by rfl):A K k E Λ:=by
 refine ⟨fun h e L hl r q=>?_⟩;rcases r.1.look t with ⟨y,v,e1,e2,e3⟩|⟨e1,e2⟩
 ·rw [hx] at e1;injection e1 with e1;subst e1;obtain ⟨L',g1,g2⟩:=q.sub hs;exact V.az (C:=K.cfg) hk hrd T hr e2 ⟨x,Λ',L',hq,e3,hl,g1,g2.append_right _⟩
 ·rw [hx] at e1;cases e1
theorem A.eg{Λ':List aF}(hk:atEnd k=true)(hr:K.fn.results= #[])(hs:Λ'.Sublist Λ)(hq:K.Q (.tp []) Λ')(hrd:K.rd=none:=by rfl):A K k E Λ:=by refine ⟨fun h e L hl r q=>?_⟩;obtain ⟨L',g1,g2⟩:=q.sub hs;exact V.eg (C:=K.cfg) hk hrd T hr ⟨_,Λ',L',hq,o6.2 ⟨[],rfl,aQ.2 T⟩,hl,g1,g2.append_right _⟩
theorem A.jg{t u:Nat}{x y:AV}{Λ':List aF}(hk:atEnd k=true)(hr:K.fn.results= #[.tmp t, .tmp u])(hx:bJ E.us t=some x)(hy:bJ E.us u=some y)(hs:Λ'.Sublist Λ)(hq:K.Q (.tp [x,y]) Λ')(hrd:K.rd=none:=by rfl):A K k E Λ:=by
 refine ⟨fun h e L hl r q=>?_⟩;rcases r.1.look t with ⟨z,v,e1,e2,e3⟩|⟨e1,e2⟩
 ·rcases r.1.look u with ⟨z',v',f1,f2,f3⟩|⟨f1,f2⟩
  ·rw [hx] at e1;injection e1 with e1;subst e1;rw [hy] at f1;injection f1 with f1;subst f1;obtain ⟨L',g1,g2⟩:=q.sub hs;exact V.jg (C:=K.cfg) hk hrd T hr e2 f2 ⟨_,Λ',L',hq,o6.2 ⟨[v,v'],rfl,aG.2 ⟨v,[v'],rfl,e3,aG.2 ⟨v',[],rfl,f3,aQ.2 T⟩⟩⟩,hl,g1,g2.append_right _⟩
  ·rw [hy] at f1;cases f1
 ·rw [hx] at e1;cases e1
theorem A.fv{t u s:Nat}{x y z:AV}{Λ':List aF}(hk:atEnd k=true)(hr:K.fn.results= #[.tmp t, .tmp u, .tmp s])(hx:bJ E.us t=some x)(hy:bJ E.us u=some y)(hz:bJ E.us s=some z)(hs:Λ'.Sublist Λ)(hq:K.Q (.tp [x,y,z]) Λ')(hrd:K.rd=none:=by rfl):
 A K k E Λ:=by
 refine ⟨fun h e L hl r q=>?_⟩;rcases r.1.look t with ⟨z1,v,e1,e2,e3⟩|⟨e1,e2⟩
 ·rcases r.1.look u with ⟨z2,v',f1,f2,f3⟩|⟨f1,f2⟩
  ·rcases r.1.look s with ⟨z3,v'',d1,d2,d3⟩|⟨d1,d2⟩
   ·rw [hx] at e1;injection e1 with e1;subst e1;rw [hy] at f1;injection f1 with f1;subst f1;rw [hz] at d1;injection d1 with d1;subst d1;obtain ⟨L',g1,g2⟩:=q.sub hs;exact V.fv (C:=K.cfg) hk hrd T hr e2 f2 d2 ⟨_,Λ',L',hq,o6.2 ⟨[v,v',v''],rfl,aG.2 ⟨v,_,rfl,e3,aG.2 ⟨v',_,rfl,f3,aG.2 ⟨v'',[],rfl,d3,aQ.2 T⟩⟩⟩⟩,hl,g1,g2.append_right _⟩
   ·rw [hz] at d1;cases d1
  ·rw [hy] at f1;cases f1
 ·rw [hx] at e1;cases e1
end
end Go.Tp
namespace Go.Tp
open Go Go.RowKit
theorem iB.left{h:GH}{b o:Nat}{l r:List Value}(g:iB h b o (l++r)):iB h b o l:=fun i v hv=>g i v (by
 have hi:i<l.length:=by
  rcases ad7 i l.length with q|q
  ·exact q
  ·rw [ab4 q] at hv;cases hv
 rw [ad6 hi];exact hv)
theorem iB.right{h:GH}{b o:Nat}{l r:List Value}(g:iB h b o (l++r)):iB h b (o+l.length) r:=fun i v hv=>by
 have:=g (l.length+i) v (by rw [ad1 (an7 _ _),ah5];exact hv)
 rwa [<-am2] at this
theorem iB.join{h:GH}{b o:Nat}{l r:List Value}(g:iB h b o l)(g':iB h b (o+l.length) r):iB h b o (l++r):=fun i v hv=>by
 rcases ad7 i l.length with q|q
 ·rw [ad6 q] at hv;exact g i v hv
 ·rw [ad1 q] at hv;have:=g' _ v hv
  rwa [show o+l.length+(i-l.length)=o+i by omega] at this
theorem jV{sz:Nat}: ∀{zs:List Value},(∀z,z∈zs->(aI z).length=sz)->(bH zs).length=zs.length*sz
 | [],_=>by simp [bH] |z::r,hz=>by have:=jV (zs:=r) fun x hx=>hz x (aa8 _ hx);simp only [bH,ag2,aa7,ab1] at this⊢;rw [this,hz z (aa4 ..),aj3];omega
section
variable{h:GH}{sz:Nat}
theorem RP{b:Nat}: ∀{l:List AV} {o:Nat},tU h sz l b o-> ∃zs,dM h l zs/\(∀z,z∈zs->(aI z).length=sz)/\iB h b o (bH zs)
 | [],o,_=>⟨[],aQ.2 T,fun _ hz=>by simp at hz,fun i v hv=>by simp [bH] at hv⟩ |x::l,o,r=>by
  rw [jR] at r;obtain ⟨⟨z,h1,h2,h3⟩,h4⟩:=r;obtain ⟨zs,g1,g2,g3⟩:=RP h4;refine ⟨z::zs,aG.2 ⟨z,zs,rfl,h1,g1⟩,fun y hy=>?_,?_⟩
  ·rcases ab0.1 hy with rfl|hy
   ·exact h2
   ·exact g2 y hy
  ·simp only [bH,ag2];exact iB.join h3 (by rw [h2];exact g3)
theorem uI{b:Nat}: ∀{l:List AV} {zs:List Value} {o:Nat},dM h l zs->(∀z,z∈zs->(aI z).length=sz)->iB h b o (bH zs)->tU h sz l b o
 | [],zs,o,_,_,_=>A3 |x::l,zs,o,r,hz,ha=>by rw [aG] at r;obtain ⟨z,zs',rfl,h1,h2⟩:=r;simp only [bH,ag2] at ha;have h3:=hz z (aa4 ..);rw [jR];exact ⟨⟨z,h1,h3,ha.left⟩,uI h2 (fun y hy=>hz y (aa8 _ hy)) (by have:=ha.right;rwa [h3] at this)⟩
end
class AAt (Λ:List aF) (b:Nat) (x:outParam AV):Prop where
 mem:aF.box b x∈Λ
instance AAt.here {b:Nat} {x:AV} {Λ:List aF}:AAt (.box b x::Λ) b x:=⟨aa4 ..⟩
instance (priority:=low) AAt.there {y:aF} {x:AV} {Λ:List aF} {b:Nat} [i:AAt Λ b x]:AAt (y::Λ) b x:=⟨aa8 _ i.mem⟩
class AUp (Λ:List aF) (b:Nat) (x x':AV) (Λ':outParam (List aF)):Prop where
 split: ∃Λ1 Λ2,Λ=Λ1++ .box b x::Λ2/\Λ'=Λ1++ .box b x'::Λ2
instance AUp.here {b:Nat} {x x':AV} {Λ:List aF}:AUp (.box b x::Λ) b x x' (.box b x'::Λ):=⟨[],Λ,rfl,rfl⟩
instance (priority:=low) AUp.there {y:aF} {x x':AV} {Λ Λ':List aF} {b:Nat} [i:AUp Λ b x x' Λ']:AUp (y::Λ) b x x' (y::Λ'):=
 ⟨let ⟨L1,L2,h1,h2⟩:=i.split;⟨y::L1,L2,by rw [h1];rfl,by rw [h2];rfl⟩⟩
class ATl (Λ:List aF) (sz:Nat) (z:Value) (Λ':outParam (List aF)):Prop where
 perm:Λ.Perm (.tail sz z::Λ')
instance ATl.here {sz:Nat} {z:Value} {Λ:List aF}:ATl (.tail sz z::Λ) sz z Λ:=⟨.refl _⟩
instance (priority:=low) ATl.there {y:aF} {sz:Nat} {z:Value} {Λ Λ':List aF} [i:ATl Λ sz z Λ']:ATl (y::Λ) sz z (y::Λ'):=⟨(i.perm.cons y).trans (.swap _ _ _)⟩
class ARow (Λ:List aF) (z:Value) (sz:outParam Nat) (l:outParam (List AV)):Prop where
 mem:aF.row sz z l∈Λ
instance ARow.here {z:Value} {sz:Nat} {l:List AV} {Λ:List aF}:ARow (.row sz z l::Λ) z sz l:=⟨aa4 ..⟩
instance (priority:=low) ARow.there {y:aF} {z:Value} {sz:Nat} {l:List AV} {Λ:List aF} [i:ARow Λ z sz l]:ARow (y::Λ) z sz l:=⟨aa8 _ i.mem⟩
class ARowUp (Λ:List aF) (z:Value) (sz:Nat) (l l':List AV) (Λ':outParam (List aF)):Prop where
 split: ∃Λ1 Λ2,Λ=Λ1++ .row sz z l::Λ2/\Λ'=Λ1++ .row sz z l'::Λ2
instance ARowUp.here {z:Value} {sz:Nat} {l l':List AV} {Λ:List aF}:ARowUp (.row sz z l::Λ) z sz l l' (.row sz z l'::Λ):=⟨[],Λ,rfl,rfl⟩
instance (priority:=low) ARowUp.there {y:aF} {z:Value} {sz:Nat} {l l':List AV} {Λ Λ':List aF} [i:ARowUp Λ z sz l l' Λ']:ARowUp (y::Λ) z sz l l' (y::Λ'):=
 ⟨let ⟨L1,L2,h1,h2⟩:=i.split;⟨y::L1,L2,by rw [h1];rfl,by rw [h2];rfl⟩⟩
class AOut (Λ:List aF) (x:aF) (Λ':outParam (List aF)):Prop where
 perm:Λ.Perm (x::Λ')
instance AOut.here {x:aF} {Λ:List aF}:AOut (x::Λ) x Λ:=⟨.refl _⟩
instance (priority:=low) AOut.there {x y:aF} {Λ Λ':List aF} [i:AOut Λ x Λ']:AOut (y::Λ) x (y::Λ'):=⟨(i.perm.cons y).trans (.swap _ _ _)⟩
section
variable{K:AC}{k:List It}{E:aH}{Λ:List aF}
def OQ(ti:TI)(x:AV)(o:Nat):Option AV:=match gA x with
 |some l=>AO ti l o |none=>none
theorem yZ{h:GH}{ti:TI}{x y:AV}{o b:Nat}{z:Value}(q:Rp h x z)(hy:OQ ti x o=some y): ∃v,S1 ti ⟨b,0,aI z,none⟩ o=some v/\Rp h y v:=by
 unfold OQ at hy;split at hy
 ·rename_i l hl;obtain ⟨v,e1,e2⟩:=DS (jJ q hl) hy;have h0:Nat.ble 0 o=true:=by cases o<;>rfl
  exact ⟨v,by simp only [S1,h0,am0];exact e1,e2⟩
 ·cases hy
theorem A.load{all:Array Oper}{o:Oper}{l:List Oper}{m:Option (Nat×Bool)}{ks:List (Nat×Bool)}{t:TypeId}{p:Operand}{b off:Nat}{ti:TI}{x y:AV}{E':aH}
 (hg:gC E all o.guard=some (m,ks)) (ho:o.op= .load t p) (hp:E.ev K.gs ks p=some (.v (.pointer (some ⟨b,off,none⟩)))) (ht:K.S.get t=some ti) [i:AAt Λ b x]
 (hv:OQ ti x off=some y) (hput:E.put K.n m o.dst y=some E') (next:A K (.ops all l::k) E' Λ):A K (.ops all (o::l)::k) E Λ:=by
 refine ⟨fun h e L hl r q=>?_⟩;rw [f0 r] at hg;obtain ⟨v1,e1,f1⟩:=r.ev (K.hgs.mono hl) _ hp;rw [bE] at f1;rw [f1.1] at e1;obtain ⟨pe,g1,z,g2,g3⟩:=q.mem i.mem;subst g3;have g1:=g1 _ (aa3.2 T);obtain ⟨v,e2,e3⟩:=yZ (b:=b) g2 hv;obtain ⟨e',e4,e5⟩:=cJ r hput e3;exact V.load (C:=K.cfg) hg ho e1 ht (i:=⟨ac9 _ g1,rfl⟩) e2 e4 (next.run h e' L hl e5 q)
theorem A.ah{all:Array Oper}{o:Oper}{l:List Oper}{ks:List (Nat×Bool)}{t:TypeId}{p:Operand}{b off:Nat}{ti:TI}{x y:AV}{E':aH}
 (hg:aV E all o.guard=some ks) (ho:o.op= .load t p) (hp:E.ev K.gs ks p=some (.v (.pointer (some ⟨b,off,none⟩)))) (ht:K.S.get t=some ti) [i:AAt Λ b x]
 (hv:OQ ti x off=some y) (hput:E.put K.n none o.dst y=some E') (next:A K (.ops all l::k) E' Λ):A K (.ops all (o::l)::k) E Λ:=by
 refine ⟨fun h e L hl r q=>?_⟩;obtain ⟨v1,e1,f1⟩:=r.ev (K.hgs.mono hl) _ hp;rw [bE] at f1;rw [f1.1] at e1;obtain ⟨pe,g1,z,g2,g3⟩:=q.mem i.mem;subst g3;have g1:=g1 _ (aa3.2 T);obtain ⟨v,e2,e3⟩:=yZ (b:=b) g2 hv;obtain ⟨e',e4,e5⟩:=cJ r hput e3;exact V.ah (C:=K.cfg) (aT r hg) ho e1 ht (i:=⟨ac9 _ g1,rfl⟩) e2 e4 (next.run h e' L hl e5 q)
def S2(x:AV)(cs:List AV):Option AV:=match x with
 | .ag _=>some (.ag cs) |_=>match cs with
  | [c]=>some c |_=>none
def stA(ti:TI)(x:AV)(o:Nat)(v:AV):Option AV:=match gA v with
 |some vs=>match Nat.beq (pG vs) ti.size with
  |true=>match lY vs with
   |true=>match gA x with
    |some xs=>match t3 xs o vs with
     |some cs=>S2 x cs |none=>none
    |none=>none
   |false=>none
  |false=>none
 |none=>none
theorem oneA_mem{l:List AV}(h:lY l=true): ∀x,x∈l->x.one=true:=by
 induction l with
 |nil=>intro x hx;cases hx |cons y r ih=>
  simp only [lY] at h;split at h
  ·rename_i hy;intro x hx;rcases ab0.1 hx with rfl|hx
   ·exact hy
   ·exact ih h x hx
  ·cases h
theorem Q5{h:GH}{ti:TI}{x x' v:AV}{o b:Nat}{z u:Value}(q:Rp h x z)(p:Rp h v u)(hs:stA ti x o v=some x'): ∃z',Q6 ti ⟨b,0,aI z,none⟩ o u=some ⟨b,0,aI z',none⟩/\Rp h x' z':=by
 unfold stA at hs;split at hs
 ·rename_i vs hvs;split at hs
  ·rename_i hlen;split at hs
   ·rename_i ho;split at hs
    ·rename_i xs hxs;split at hs
     ·rename_i cs hcs;have p1:=jJ p hvs;have q1:=jJ q hxs;obtain ⟨r',e1,e2⟩:=BW q1 p1 hcs;have e3:Nat.beq (aI u).length ti.size=true:=by rw [p1.len,<-i9];exact hlen
      have e4:aP (aI u)=true:=p1.one ho;have hst:Q6 ti ⟨b,0,aI z,none⟩ o u=some ⟨b,0,r',none⟩:=by
       have h0:Nat.ble 0 o=true:=by cases o<;>rfl
       simp only [Q6,e3,e4,h0,am0,e1]
      unfold S2 at hs;split at hs
      ·injection hs with hs;subst hs;exact ⟨.agg ⟨r'⟩,hst,eJ.2 ⟨r',rfl,e2⟩⟩
      ·rename_i hx;split at hs
       ·injection hs with hs;subst hs;rename_i c;rw [aG] at e2;obtain ⟨y,ys,rfl,e5,e6⟩:=e2;rw [aQ] at e6;subst e6;have hone:iJ y=true:=by
         have hx1:x.one=true:=by cases x<;>first|rfl|(exact (hx _ T).elim)|cases hxs
         have hz1:=eS (q.one hx1);rw [hz1] at e1;obtain ⟨u1,u2,u3⟩:=dO _ _ _ e1;have h0:=u3 0;simp only [List.getElem?_cons_zero] at h0;split at h0
         ·rename_i hk;obtain ⟨k1,k2⟩:=hk;have:y∈aI u:=aa2 h0.symm;exact dP e4 y this
         ·injection h0 with h0;rw [h0];exact q.one hx1
        exact ⟨y,by rw [eS hone];exact hst,e5⟩
       ·cases hs
     ·cases hs
    ·cases hs
   ·cases hs
  ·cases hs
 ·cases hs
theorem A.store{all:Array Oper}{o:Oper}{l:List Oper}{ks:List (Nat×Bool)}{t:TypeId}{p y:Operand}{b off:Nat}{ti:TI}{x x' v:AV}{Λ':List aF}
 (hg:aV E all o.guard=some ks) (ho:o.op= .store t p y) (hp:E.ev K.gs ks p=some (.v (.pointer (some ⟨b,off,none⟩)))) (hy:E.ev K.gs ks y=some v) (ht:K.S.get t=some ti) [i:AAt Λ b x]
 (hv:stA ti x off v=some x') [j:AUp Λ b x x' Λ'] (hd:o.dst=none) (next:A K (.ops all l::k) E Λ'):A K (.ops all (o::l)::k) E Λ:=by
 refine ⟨fun h e L hl r q=>?_⟩;obtain ⟨v1,e1,f1⟩:=r.ev (K.hgs.mono hl) _ hp;rw [bE] at f1;rw [f1.1] at e1;obtain ⟨u,e2,f2⟩:=r.ev (K.hgs.mono hl) _ hy;obtain ⟨Λ1,Λ2,h1,h2⟩:=j.split;subst h1;subst h2;obtain ⟨L1,pe,L2,rfl,g1,⟨z,g2,g2'⟩,g3⟩:=q.mid;subst g2';obtain ⟨z',e3,e4⟩:=Q5 (b:=b) g2 f2 hv;have i':EntAt ((L1++([⟨b,0,aI z,none⟩]++L2))++K.G) b ⟨b,0,aI z,none⟩:=⟨by simp,rfl⟩;have j':EntUp ((L1++([⟨b,0,aI z,none⟩]++L2))++K.G) b ⟨b,0,aI z,none⟩ ⟨b,0,aI z',none⟩ ((L1++([⟨b,0,aI z',none⟩]++L2))++K.G):=⟨L1,L2++K.G,by simp,by simp⟩;exact V.store (C:=K.cfg) (aT r hg) ho e1 e2 ht (i:=i') e3 (j:=j') hd (next.run h e _ hl r (kL.fz g1 ⟨z',e4,rfl⟩ g3))
def uG(ti:TI):Option AV:=match aP ti.zero with
 |true=>match ti.agg with
  |true=>some (.ag (ti.zero.map .v)) |false=>match ti.zero with
   | [z]=>some (.v z) |_=>none
 |false=>none
theorem yC{h:GH}{ti:TI}{x:AV}(hz:uG ti=some x): ∃z,Rp h x z/\aI z=ti.zero:=by
 unfold uG at hz;split at hz
 ·rename_i ho;split at hz
  ·injection hz with hz;subst hz;exact ⟨.agg ⟨ti.zero⟩,eJ.2 ⟨_,rfl,KD ho⟩,rfl⟩
  ·split at hz
   ·rename_i z hzz;injection hz with hz;subst hz;rw [hzz] at ho;have h1:iJ z=true:=dP ho z (aa4 ..);exact ⟨z,bE.2 ⟨rfl,h1⟩,by rw [hzz];exact eS h1⟩
   ·cases hz
 ·cases hz
theorem pW{ti:TI}{x:AV}(hz:uG ti=some x):aP ti.zero=true:=by
 unfold uG at hz;split at hz
 ·assumption
 ·cases hz
theorem A.alloc{all:Array Oper}{o:Oper}{l:List Oper}{ks:List (Nat×Bool)}{t:TypeId}{ti:TI}{d:Nat}{x:AV}
 (hg:aV E all o.guard=some ks) (ho:o.op= .alloc t) (ht:K.S.get t=some ti) (hz:uG ti=some x) (hd:o.dst=some d) (hc:bZ K.n E d=true)
 (next: ∀b,A K (.ops all l::k) ⟨(d, .v (.pointer (some ⟨b,0,none⟩)))::E.us,E.cs⟩ (.box b x::Λ)):A K (.ops all (o::l)::k) E Λ:=by
 refine ⟨fun h e L hl r q=>?_⟩;refine V.alloc (C:=K.cfg) (aT r hg) ho ht (pW hz) hd (bQ r hc) fun b=>?_;obtain ⟨z,e1,e2⟩:=yC (h:=h) hz;exact (next b).run h _ (_::L) hl ⟨r.1.put (bE.2 ⟨rfl,rfl⟩),r.2⟩ (.one ⟨z,e1,by rw [e2]⟩ q)
theorem boxL_of{v:Value}(h:aP (aI v)=true):XS v=some (aI v):=by
 unfold XS;split
 ·rename_i l;have h:aP l=true:=h;simp only [h];rfl
 ·rename_i hna;have:aI v=[v]:=by cases v<;>first|rfl|(rename_i c;exact (hna c.toList T).elim)
  rw [this] at h;simp only [aP] at h;split at h
  ·rename_i ho;simp only [ho,this]
  ·cases h
theorem A.box{all:Array Oper}{o:Oper}{l:List Oper}{ks:List (Nat×Bool)}{t:TypeId}{y:Operand}{v:AV}{vs:List AV}{d:Nat}
 (hg:aV E all o.guard=some ks) (ho:o.op= .box t y) (hy:E.ev K.gs ks y=some v) (hb:gA v=some vs) (h1:lY vs=true) (hd:o.dst=some d) (hc:bZ K.n E d=true)
 (next: ∀b,A K (.ops all l::k) ⟨(d, .v (.pointer (some ⟨b,0,none⟩)))::E.us,E.cs⟩ (.box b v::Λ)):A K (.ops all (o::l)::k) E Λ:=by
 refine ⟨fun h e L hl r q=>?_⟩;obtain ⟨u,e2,f2⟩:=r.ev (K.hgs.mono hl) _ hy;have h2:=(jJ f2 hb).one h1;refine V.box (C:=K.cfg) (aT r hg) ho e2 (boxL_of h2) hd (bQ r hc) fun b=>?_;exact (next b).run h _ (_::L) hl ⟨r.1.put (bE.2 ⟨rfl,rfl⟩),r.2⟩ (.one ⟨u,f2,rfl⟩ q)
def lI(P:Program)(gs:Ua)(f:FuncId)(args:List AV)(Λ:List aF)(Q:AV->List aF->Prop):Prop:=
 ∀w0 h vs L F,jP h gs->dM h args vs->kL h Λ L->bM P w0 f vs h (L++F) fun v h' L'=> ∃x Λ' L1,Q x Λ'/\Rp h' x v/\h.le h'/\kL h' Λ' L1/\L'=L1++F
def Pure(P:Program)(gs:Ua)(f:FuncId)(args:List AV)(x:AV):Prop:=lI P gs f args [] fun y Λ'=>y=x/\Λ'=[]
theorem lI.mono{P:Program}{gs:Ua}{f:FuncId}{args:List AV}{Λ:List aF}{Q Q':AV->List aF->Prop}(hf:lI P gs f args Λ Q)(hq: ∀x Λ',Q x Λ'->Q' x Λ'):lI P gs f args Λ Q':=
 fun w0 h vs L F g r q=>(hf w0 h vs L F g r q).mono fun _ _ _ ⟨x,Λ',L1,e1,e2,e3⟩=>⟨x,Λ',L1,hq _ _ e1,e2,e3⟩
def t6:Nat->List AV->Ua
 |_,[]=>[] |i,v::r=>(i,v)::t6 (i+1) r
theorem vV{h:GH}: ∀{args:List AV} {vs:List Value} (i:Nat),dM h args vs->zT h (t6 i args) (rU i vs)
 | [],_,i,r=>by rw [aQ] at r;subst r;exact rfl |x::l,_,i,r=>by rw [aG] at r;obtain ⟨v,vs',rfl,h1,h2⟩:=r;exact ⟨v,_,rfl,h1,vV (i+1) h2⟩
theorem lI.of{P:Program}{S:TT}{gs:Ua}{f:FuncId}{fn:Func}{n:Nat}{args:List AV}{Λ:List aF}{Q:AV->List aF->Prop}{c:Code}(ok:S.Ok P)(hfn:P.funcs[f]? =some fn)(hb:fn.body=some c)
 (hnm:(fn.name== "runtime.NumGoroutine")=false) (hn:fn.ntmps=n) (hl:Nat.ble (pG args) n=true)
 (hv: ∀w0 h0 F (hgs:jP h0 gs),A ⟨P,S,w0,f,fn,n,ok,hfn,h0,F,gs,hgs,Q,[],none⟩ [.code c] ⟨t6 0 args,[]⟩ Λ):lI P gs f args Λ Q:=by
 intro w0 h vs L F g r q;have hv:=(hv w0 h F g).run h ⟨rU 0 vs,[]⟩ L (GH.le_refl _) ⟨vV 0 r,rfl⟩ q;have hd:=bM.cx (C:=AC.cfg ⟨P,S,w0,f,fn,n,ok,hfn,h,F,gs,g,Q,[],none⟩) T T hb hnm hn (by rw [r.len,<-i9];exact hl) hv;refine ⟨hd.1,fun w s=>(hd.2 w s).mono fun _ _ ⟨v,h',L',e1,⟨x,Λ',L1,q1,q2,q3,q4,q5⟩,s'⟩=>⟨v,h',L1++F,e1,⟨x,Λ',L1,q1,q2,q3,q4,rfl⟩,s'.sub q5⟩⟩
theorem Pure.of{P:Program}{S:TT}{gs:Ua}{f:FuncId}{fn:Func}{n:Nat}{args:List AV}{x:AV}{c:Code}(ok:S.Ok P)(hfn:P.funcs[f]? =some fn)(hb:fn.body=some c)
 (hnm:(fn.name== "runtime.NumGoroutine")=false) (hn:fn.ntmps=n) (hl:Nat.ble (pG args) n=true)
 (hv: ∀w0 h0 F (hgs:jP h0 gs),A ⟨P,S,w0,f,fn,n,ok,hfn,h0,F,gs,hgs,fun y Λ'=>Sb y x/\Λ'=[],[],none⟩ [.code c] ⟨t6 0 args,[]⟩ []):Pure P gs f args x:=by
 have:=lI.of (Λ:=[]) (Q:=fun y Λ'=>Sb y x/\Λ'=[]) ok hfn hb hnm hn hl hv;intro w0 h vs L F g r q;exact (this w0 h vs L F g r q).mono fun _ _ _ ⟨y,Λ',L1,⟨e1,e1'⟩,e2,e3⟩=>⟨x,Λ',L1,⟨rfl,e1'⟩,e1.rp e2,e3⟩
theorem A.call{all:Array Oper}{o:Oper}{l:List Oper}{ks:List (Nat×Bool)}{x:Operand}{args:Array Operand}{ts:Array TypeId}{f:FuncId}{fst cap vs args':List AV}{Λ1 Λ2:List aF}{Q:AV->List aF->Prop}{d:Nat}
 (hg:aV E all o.guard=some ks) (ho:o.op= .call ⟨.value x,args,ts⟩) (hx:E.ev K.gs ks x=some (.fn f fst cap)) (ha:rG (E.ev K.gs ks) args.toList=some vs)
 (hd:o.dst=some d) (hc:bZ K.n E d=true) (hf:lI K.P K.gs f args' Λ1 Q) (hs:fO (fst++(vs++cap)) args') (hp:Λ.Perm (Λ1++Λ2))
 (next: ∀y Λ',Q y Λ'->A K (.ops all l::k) ⟨(d,y)::E.us,E.cs⟩ (Λ'++Λ2)):A K (.ops all (o::l)::k) E Λ:=by
 refine ⟨fun h e L hl r q=>?_⟩;obtain ⟨v1,e1,f1⟩:=r.ev (K.hgs.mono hl) _ hx;rw [q8] at f1;obtain ⟨u,w,rfl,f2,f3⟩:=f1;obtain ⟨us,e2,f4⟩:=mS (σ:=e.ev ks) (fun z x hz=>r.ev (K.hgs.mono hl) ks hz) ha;obtain ⟨L',q1,q2⟩:=q.perm hp;obtain ⟨L1,L2,rfl,q3,q4⟩:=q1.split;refine V.perm (q2.append_right _) ?_;rw [ab7];refine V.call (C:=K.cfg) (aT r hg) ho e1 e2 hd (bQ r hc) (hf K.w0 h _ L1 (L2++K.G) (K.hgs.mono hl) (hs.rp (f2.append (f4.append f3))) q3) ?_;rintro v h' L' ⟨y,Λ',L3,g1,g2,g3,g4,rfl⟩;have hl':=GH.le_trans hl g3;have:=(next y Λ' g1).run h' ⟨(d,v)::e.us,e.cs⟩ (L3++L2) hl' ⟨(r.1.mono g3).put g2,r.2.mono g3⟩ (g4.append (q4.mono g3))
 rwa [ab7] at this
theorem A.gv{all:Array Oper}{o:Oper}{l:List Oper}{ks:List (Nat×Bool)}{x:Operand}{args:Array Operand}{ts:Array TypeId}{f:FuncId}{fst cap vs args':List AV}{y:AV}{d:Nat}
 (hg:aV E all o.guard=some ks) (ho:o.op= .call ⟨.value x,args,ts⟩) (hx:E.ev K.gs ks x=some (.fn f fst cap)) (ha:rG (E.ev K.gs ks) args.toList=some vs)
 (hd:o.dst=some d) (hc:bZ K.n E d=true) (hf:Pure K.P K.gs f args' y) (hs:fO (fst++(vs++cap)) args')
 (next:A K (.ops all l::k) ⟨(d,y)::E.us,E.cs⟩ Λ):A K (.ops all (o::l)::k) E Λ:=
 A.call hg ho hx ha hd hc hf hs (.refl _) fun _ _ ⟨e1,e2⟩=>(by subst e1;subst e2;exact next)
def nX(sz:Nat):AV->Option (List AV×Option Value)
 | .sl s l own=>match Nat.beq s sz with
   |true=>some (l,own) |false=>none
 | .v (.slice none 0 0)=>some ([],some (.slice none 0 0)) |_=>none
theorem jC{h:GH}{sz:Nat}{x:AV}{l:List AV}{own:Option Value}{y:Value}(hx:nX sz x=some (l,own))(r:Rp h x y):Rp h (.sl sz l own) y:=by
 unfold nX at hx;split at hx
 ·split at hx
  ·rename_i hs;have hs:=ab2 hs;injection hx with hx;injection hx with h1 h2;subst h1;subst h2;subst hs;exact r
  ·cases hx
 ·injection hx with hx;injection hx with h1 h2;subst h1;subst h2;rw [bE] at r;rw [r.1,cU];exact ⟨none,0,rfl,aa6 _,rfl,fun hn=>(hn T).elim⟩
 ·cases hx
theorem xP{h:GH}{sz:Nat}{l:List AV}{own:Option Value}{y:Value}(r:Rp h (.sl sz l own) y): ∃zs,dM h l zs/\(∀z,z∈zs->(aI z).length=sz)/\Sl h sz y (bH zs):=by
 rw [cU] at r;obtain ⟨a,cap,rfl,h2,_,h4⟩:=r
 by_cases hn:l=[]
 ·subst hn;exact ⟨[],aQ.2 T,fun _ hz=>(by cases hz),a,0,cap,rfl,h2,by simp [bH],fun h=>by omega⟩
 ·obtain ⟨b,o,rfl,h5⟩:=h4 hn;obtain ⟨zs,g1,g2,g3⟩:=RP h5;exact ⟨zs,g1,g2,_,_,_,rfl,h2,by rw [jV g2,g1.len],fun _=>⟨b,o,rfl,g3⟩⟩
theorem XC{h:GH}{sz:Nat}{l:List AV}{y:Value}{zs:List Value}(hsz:0<sz)(g1:dM h l zs)(g2: ∀z,z∈zs->(aI z).length=sz)(r:Sl h sz y (bH zs)):Rp h (.sl sz l (some y)) y:=by obtain ⟨a,n,c,rfl,h2,h3,h4⟩:=r;rw [jV g2,g1.len] at h3;have hn:n=l.length:=(al3 hsz h3).symm;subst hn;rw [cU];refine ⟨a,c,rfl,h2,rfl,fun hn=>?_⟩;obtain ⟨b,o,rfl,h5⟩:=h4 (by cases l with|nil=>exact (hn rfl).elim|cons x l=>simp);exact ⟨b,o,rfl,uI g1 g2 h5⟩
theorem A.append{all:Array Oper}{o:Oper}{l:List Oper}{ks:List (Nat×Bool)}{y1 y2:Operand}{t el:TypeId}{ti ei:TI}{x1 x2:AV}{l1 l2:List AV}{z:Value}{own2:Option Value}{d:Nat}{Λ':List aF}
 (hg:aV E all o.guard=some ks) (ho:o.op= .call ⟨.builtin .append, #[y1,y2], #[t,t]⟩) (h1:E.ev K.gs ks y1=some x1) (h2:E.ev K.gs ks y2=some x2)
 (ht:K.S.get t=some ti) (hdd:ti.d= .slice el) (he:K.S.get el=some ei) (s1:nX ei.size x1=some (l1,some z)) (s2:nX ei.size x2=some (l2,own2)) [i:ATl Λ ei.size z Λ']
 (hsz:Nat.blt 0 ei.size=true) (hz1:aP ei.zero=true) (hby:Nat.ble ei.bytes 4096=true) (hd:o.dst=some d) (hc:bZ K.n E d=true)
 (hb:(l1.length+l2.length)*ei.size<=1073741824)
 (next: ∀z',A K (.ops all l::k) ⟨(d, .sl ei.size (l1++l2) (some z'))::E.us,E.cs⟩ (.tail ei.size z'::Λ')):A K (.ops all (o::l)::k) E Λ:=by
 refine ⟨fun h e L hl r q=>?_⟩;obtain ⟨v1,e1,f1⟩:=r.ev (K.hgs.mono hl) _ h1;obtain ⟨v2,e2,f2⟩:=r.ev (K.hgs.mono hl) _ h2;have f1:=jC s1 f1;have f2:=jC s2 f2;have hown:v1=z:=by rw [cU] at f1;obtain ⟨_,_,_,_,h3,_⟩:=f1;exact h3
 subst hown;obtain ⟨zs1,a1,a2,a3⟩:=xP f1;obtain ⟨zs2,b1,b2,b3⟩:=xP f2;obtain ⟨L',q1,q2⟩:=q.perm i.perm;obtain ⟨_,L2,rfl,⟨p,q3,rfl⟩,q4⟩:=q1;have hsz':0<ei.size:=by simpa [ah3] using hsz
 have hlen:(bH zs1).length+(bH zs2).length=(l1.length+l2.length)*ei.size:=by rw [jV a2,jV b2,a1.len,b1.len,Nat.add_mul]
 refine V.perm (q2.append_right _) ?_;refine V.append (C:=K.cfg) (aT r hg) ho e1 e2 ht hdd he hsz hz1 hby hd (bQ r hc) a3 q3 b3 (by rw [hlen];exact hb) ?_;intro v' h' x' g1 g2 g3;have hl':=GH.le_trans hl g1;have hcat:bH zs1++bH zs2=bH (zs1++zs2):=by simp [bH]
 rw [hcat] at g2;have hrp:Rp h' (.sl ei.size (l1++l2) (some v')) v':=XC hsz' ((a1.append b1).mono g1) (fun z hz=>by
  rcases af0.1 hz with hz|hz
  ·exact a2 z hz
  ·exact b2 z hz) g2
 exact (next v').run h' ⟨(d,v')::e.us,e.cs⟩ (x'::L2) hl' ⟨(r.1.mono g1).put hrp,r.2.mono g1⟩ (.one ⟨x',g3,rfl⟩ (q4.mono g1))
theorem Tl.full(sz n:Nat)(a:Option Addr)(ha:a=none->n=0)(hs: ∀x,a=some x->x.spot=none): ∃p:a6,Tl sz (.slice a n n) p/\p.cs=[]/\p.obj=none:=by
 cases a with
 |none=>have:=ha T;subst this;exact ⟨⟨0,0,[],none⟩,Tl.nil sz,rfl,rfl⟩ |some x=>
  obtain ⟨b,o,sp⟩:=x;have:=hs _ T;simp only at this;subst this;exact ⟨⟨b,o+n*sz,[],none⟩,⟨rfl,_,_,_,rfl, .inr ⟨b,o,rfl,aa6 _,rfl,rfl,by simp⟩⟩,rfl,rfl⟩
theorem V.ib{C:nY}{e:Env}{h:GH}{L:List a6}(p:a6)(hp:p.cs=[])(ho:p.obj=none)(hv:V C k e h (p::L)):V C k e h L:=by
 intro hok a w bb cs g s hf hk;refine hv hok a w bb cs g ⟨s.below,s.imm,s.imm1,fun q hq=>?_,af1.2 ⟨fun q hq=>⟨fun i j hi=>by rw [hp] at hi;simp at hi,fun x=>by rw [ho] at x;cases x⟩,s.dis⟩,s.frz,s.drn⟩ hf hk;rcases ab0.1 hq with rfl|hq
 ·exact ⟨fun v hv=>by rw [hp] at hv;simp at hv,fun i v hv=>by rw [hp] at hv;simp at hv,fun i hi=>by rw [hp] at hi;simp at hi,fun i hi=>by rw [hp] at hi;simp at hi,fun i hi=>by rw [hp] at hi;simp at hi,fun o h'=>by rw [ho] at h';cases h'⟩
 ·exact s.own q hq
theorem A.ir{all:Array Oper}{o:Oper}{l:List Oper}{ks:List (Nat×Bool)}{y1 y2:Operand}{t el:TypeId}{ti ei:TI}{x1 x2:AV}{l1 l2:List AV}{a:Option Addr}{n:Nat}{own2:Option Value}{d:Nat}
 (hg:aV E all o.guard=some ks) (ho:o.op= .call ⟨.builtin .append, #[y1,y2], #[t,t]⟩) (h1:E.ev K.gs ks y1=some x1) (h2:E.ev K.gs ks y2=some x2)
 (ht:K.S.get t=some ti) (hdd:ti.d= .slice el) (he:K.S.get el=some ei) (s1:nX ei.size x1=some (l1,some (.slice a n n))) (s2:nX ei.size x2=some (l2,own2))
 (hsz:Nat.blt 0 ei.size=true) (hz1:aP ei.zero=true) (hby:Nat.ble ei.bytes 4096=true) (hd:o.dst=some d) (hc:bZ K.n E d=true)
 (hb:(l1.length+l2.length)*ei.size<=1073741824) (ha:a=none->n=0) (hsp: ∀x,a=some x->x.spot=none)
 (next: ∀z',A K (.ops all l::k) ⟨(d, .sl ei.size (l1++l2) (some z'))::E.us,E.cs⟩ (.tail ei.size z'::Λ)):A K (.ops all (o::l)::k) E Λ:=by
 have key:A K (.ops all (o::l)::k) E (.tail ei.size (.slice a n n)::Λ):=
  A.append (Λ:= .tail ei.size (.slice a n n)::Λ) hg ho h1 h2 ht hdd he s1 s2 hsz hz1 hby hd hc hb next
 refine ⟨fun h e L hl r q=>?_⟩;obtain ⟨p,hp1,hp2,hp3⟩:=Tl.full ei.size n a ha hsp;exact V.ib p hp2 hp3 (key.run h e (p::L) hl r (.one ⟨p,hp1,rfl⟩ q))
theorem A.br{all:Array Oper}{o:Oper}{l:List Oper}{ks:List (Nat×Bool)}{y1 y2:Operand}{t el:TypeId}{ti ei:TI}{x1 x2:AV}{l1 l2:List AV}{own2:Option Value}{d:Nat}
 (hg:aV E all o.guard=some ks) (ho:o.op= .call ⟨.builtin .append, #[y1,y2], #[t,t]⟩) (h1:E.ev K.gs ks y1=some x1) (h2:E.ev K.gs ks y2=some x2)
 (ht:K.S.get t=some ti) (hdd:ti.d= .slice el) (he:K.S.get el=some ei) (s1:nX ei.size x1=some (l1,some (.slice none 0 0))) (s2:nX ei.size x2=some (l2,own2))
 (hsz:Nat.blt 0 ei.size=true) (hz1:aP ei.zero=true) (hby:Nat.ble ei.bytes 4096=true) (hd:o.dst=some d) (hc:bZ K.n E d=true)
 (hb:(l1.length+l2.length)*ei.size<=1073741824)
 (next: ∀z',A K (.ops all l::k) ⟨(d, .sl ei.size (l1++l2) (some z'))::E.us,E.cs⟩ (.tail ei.size z'::Λ)):A K (.ops all (o::l)::k) E Λ:=
 A.ir hg ho h1 h2 ht hdd he s1 s2 hsz hz1 hby hd hc hb (fun _=>rfl) (fun _ h=>by cases h) next
theorem A.index{all:Array Oper}{o:Oper}{l:List Oper}{ks:List (Nat×Bool)}{t el:TypeId}{ti ei:TI}{x ix:Operand}{xv y y':AV}{xs:List AV}{own:Option Value}{kk:IntKind}{i:Int}{E':aH}
 (hg:aV E all o.guard=some ks) (ho:o.op= .indexAddr t x ix) (hx:E.ev K.gs ks x=some xv) (hi:E.ev K.gs ks ix=some (.v (.int kk i))) (ht:K.S.get t=some ti) (hdd:ti.d= .slice el) (he:K.S.get el=some ei)
 (hs:nX ei.size xv=some (xs,own)) (h0:0<=i) (hy:xs[i.toNat]? =some y) (hy':y=y') (hput:E.put K.n none o.dst (.pe ei.size y')=some E') (next:A K (.ops all l::k) E' Λ):A K (.ops all (o::l)::k) E Λ:=by
 subst hy';refine ⟨fun h e L hl r q=>?_⟩;obtain ⟨v1,e1,f1⟩:=r.ev (K.hgs.mono hl) _ hx;obtain ⟨v2,e2,f2⟩:=r.ev (K.hgs.mono hl) _ hi;rw [bE] at f2;rw [f2.1] at e2;have f1:=jC hs f1;rw [cU] at f1;obtain ⟨a,cap,rfl,_,_,h4⟩:=f1;have hlt:i.toNat<xs.length:=by
  rcases ad7 i.toNat xs.length with h|h
  ·exact h
  ·rw [ab4 h] at hy;cases hy
 obtain ⟨b,off,rfl,h5⟩:=h4 (fun hn=>by subst hn;simp at hlt);obtain ⟨z,g1,g2,g3⟩:=h5.at hy;obtain ⟨e',e4,e5⟩:=cJ r hput (kO.2 ⟨b,off+i.toNat*ei.size,z,rfl,g1,g2,g3⟩);have hiv:sE K.S t (.slice (some ⟨b,off,none⟩) xs.length cap) i=some (.pointer (some ⟨b,off+i.toNat*ei.size,none⟩),xs.length):=by simp only [sE,ht,hdd,he]
 exact V.fe (C:=K.cfg) (aT r hg) ho e1 e2 hiv e4 h0 (by omega) (next.run h e' L hl e5 q)
def QQ:Nat->AV->List AV
 |0,_=>[] |n+1,z=>z::QQ n z
def E7:List AV->Nat->AV->Option (List AV)
 |_::r,0,v=>some (v::r) |c::r,n+1,v=>match E7 r n v with
  |some r'=>some (c::r') |none=>none
 | [],_,_=>none
def LJ(ei:TI)(v:AV):Bool:=match gA v with
 |some vs=>match Nat.beq (pG vs) ei.size with
  |true=>lY vs |false=>false
 |none=>false
def MP(ei:TI)(ρ:Operand->Option AV):List (Nat×Operand)->List AV->Option (List AV)
 | [],l=>some l |(i,x)::r,l=>match ρ x with
  |some v=>match LJ ei v with
   |true=>match E7 l i v with
    |some l'=>MP ei ρ r l' |none=>none
   |false=>none
  |none=>none
def ZY(S:TT)(ρ:Operand->Option AV)(t:TypeId)(len:Nat)(parts:List (Nat×Operand)):Option (Nat×List AV):=
 match S.get t with
 |some ti=>match ti.d with
  | .slice el=>match S.get el with
    |some ei=>match Nat.beq (len*ei.size) 0 with
     |true=>none |false=>match Nat.ble (len*ei.size) 16777216 with
      |true=>match Nat.beq ei.zero.length ei.size with
       |true=>match uG ei with
        |some z=>match MP ei ρ parts (QQ len z) with
         |some l=>some (ei.size,l) |none=>none
        |none=>none
       |false=>none
      |false=>none
    |none=>none
  |_=>none
 |none=>none
theorem repA_len(n:Nat)(z:AV):(QQ n z).length=n:=by induction n with
 |zero=>rfl |succ n ih=>simp [QQ,ih]
theorem NP: ∀{l:List AV} {i:Nat} {v:AV} {r:List AV},E7 l i v=some r->r.length=l.length
 | [],_,_,_,h=>by cases h |c::l,0,v,r,h=>by simp only [E7] at h;injection h with h;subst h;rfl
 |c::l,i+1,v,r,h=>by
  simp only [E7] at h;split at h
  ·rename_i r' h1;injection h with h;subst h;simp [NP h1]
  ·cases h
theorem setA_eq{l:List AV}{i:Nat}{v:AV}: ∀(hi:i<l.length),E7 l i v=some (l.set i v):=by
 induction l generalizing i with
 |nil=>intro hi;simp at hi |cons c l ih=>
  intro hi;cases i with
  |zero=>rfl |succ i=>simp only [E7,ih (by simpa using hi),List.set_cons_succ]
theorem xY(vs:List Value): ∀(l r:List Value) (k:Nat) {r':List Value},cS r k vs=some r'->cS (l++r) (l.length+k) vs=some (l++r')
 | [],r,k,r',h=>by simpa using h |x::l,r,k,r',h=>by have:=xY vs l r k h;simp only [ae0,ab1];rw [show l.length+1+k=(l.length+k)+1 by omega];simp only [cS,this]
theorem tQ: ∀(l vs r:List Value),vs.length=l.length->cS (l++r) 0 vs=some (vs++r)
 | [],[],r,_=>by cases r<;>rfl |x::l,v::vs,r,h=>by have:=tQ l vs r (by simpa using h);simp only [ae0,cS,this]
theorem tT.upd{h:GH}{sz:Nat}: ∀{l:List AV} {zs:List Value} {i:Nat} {v:AV} {u:Value} {r:List AV},tT h sz l zs->Rp h v u->(aI u).length=sz->aP (aI u)=true->E7 l i v=some r->
 ∃zs',tT h sz r zs'/\cS (bH zs) (i*sz) (aI u)=some (bH zs')
 | [],_,_,_,_,_,_,_,_,_,hs=>by cases hs |c::l,zs,0,v,u,r,a,p,p1,p2,hs=>by
  simp only [E7] at hs;injection hs with hs;subst hs;obtain ⟨a1,a2,a3⟩:=a;rw [aG] at a1;obtain ⟨z,zs',rfl,a4,a5⟩:=a1;refine ⟨u::zs',⟨aG.2 ⟨u,zs',rfl,p,a5⟩,fun x hx=>?_,fun x hx=>?_⟩,?_⟩
  ·rcases ab0.1 hx with rfl|hx
   ·exact p1
   ·exact a2 x (aa8 _ hx)
  ·rcases ab0.1 hx with rfl|hx
   ·exact p2
   ·exact a3 x (aa8 _ hx)
  ·simp only [bH,ag2,aq9];exact tQ _ _ _ (by rw [p1,a2 z (aa4 ..)])
 |c::l,zs,i+1,v,u,r,a,p,p1,p2,hs=>by
  simp only [E7] at hs;split at hs
  ·rename_i r' hr;injection hs with hs;subst hs;obtain ⟨a1,a2,a3⟩:=a;rw [aG] at a1;obtain ⟨z,zs',rfl,a4,a5⟩:=a1;obtain ⟨zs2,b1,b2⟩:=tT.upd (zs:=zs') ⟨a5,fun x hx=>a2 x (aa8 _ hx),fun x hx=>a3 x (aa8 _ hx)⟩ p p1 p2 hr;refine ⟨z::zs2,⟨aG.2 ⟨z,zs2,rfl,a4,b1.rp⟩,fun x hx=>?_,fun x hx=>?_⟩,?_⟩
   ·rcases ab0.1 hx with rfl|hx
    ·exact a2 x (aa4 ..)
    ·exact b1.sz x hx
   ·rcases ab0.1 hx with rfl|hx
    ·exact a3 x (aa4 ..)
    ·exact b1.one x hx
   ·simp only [bH,ag2];have hz:=a2 z (aa4 ..);have:=xY (aI u) (aI z) (zs'.flatMap aI) (i*sz) (by simpa only [bH] using b2);rw [hz] at this;rw [show (i+1)*sz=sz+i*sz by rw [aj3];omega];simpa only [bH] using this
  ·cases hs
theorem CN{h:GH}{ei:TI}{v:AV}{u:Value}(hv:LJ ei v=true)(p:Rp h v u):(aI u).length=ei.size/\aP (aI u)=true/\ ∃vs,gA v=some vs:=by
 unfold LJ at hv;split at hv
 ·rename_i vs hvs;split at hv
  ·rename_i hlen;have p1:=jJ p hvs;exact ⟨by rw [p1.len,<-i9];exact ab2 hlen,p1.one hv,vs,hvs⟩
  ·cases hv
 ·cases hv
theorem SZ{h:GH}{ei:TI}{ρ:Operand->Option AV}{σ:Operand->Option Value}(hρ: ∀z x,ρ z=some x-> ∃y,σ z=some y/\Rp h x y): ∀{parts:List (Nat×Operand)} {l r:List AV} {zs:List Value},tT h ei.size l zs->
 MP ei ρ parts l=some r-> ∃zs',tT h ei.size r zs'/\tZ (fun i=>some (i*ei.size,ei.size)) σ parts (bH zs)=some (bH zs')
 | [],l,r,zs,a,hr=>by simp only [MP] at hr;injection hr with hr;subst hr;exact ⟨zs,a,rfl⟩ |(i,x)::p,l,r,zs,a,hr=>by
  simp only [MP] at hr;split at hr
  ·rename_i v hv;split at hr
   ·rename_i hok;split at hr
    ·rename_i l' hl';obtain ⟨u,e1,e2⟩:=hρ x v hv;obtain ⟨e3,e4,_⟩:=CN hok e2;obtain ⟨zs1,b1,b2⟩:=a.upd e2 e3 e4 hl';obtain ⟨zs',c1,c2⟩:=SZ hρ b1 hr;have e5:Nat.beq (aI u).length ei.size=true:=by rw [e3];simp
     exact ⟨zs',c1,by simp only [tZ,e1,e5,b2,c2]⟩
    ·cases hr
   ·cases hr
  ·cases hr
theorem D3{h:GH}{sz:Nat}{x:AV}{z:Value}(r:Rp h x z)(h1:(aI z).length=sz)(h2:aP (aI z)=true): ∀n,tT h sz (QQ n x) (List.replicate n z)
 |0=>⟨aQ.2 T,fun _ hz=>(by cases hz),fun _ hz=>(by cases hz)⟩ |n+1=>by
  have ih:=D3 r h1 h2 n;refine ⟨aG.2 ⟨z,_,by simp [ai7],r,ih.rp⟩,fun y hy=>?_,fun y hy=>?_⟩
  ·have:=ao7 hy;subst this;exact h1
  ·have:=ao7 hy;subst this;exact h2
theorem R0(z:Value)(n:Nat):bH (List.replicate n z)=(List.replicate n (aI z)).flatten:=by simp [bH,List.flatMap]
theorem tT.ik{h:GH}{sz:Nat}{l:List AV}: ∀{zs:List Value},tT h sz l zs->aP (bH zs)=true:=fun {zs} a=>mX fun v hv=>by simp only [bH,List.mem_flatMap] at hv;obtain ⟨z,hz,hv⟩:=hv;exact dP (a.one z hz) v hv
theorem S3{h:GH}{S:TT}{ρ:Operand->Option AV}{σ:Operand->Option Value}(hρ: ∀z x,ρ z=some x-> ∃y,σ z=some y/\Rp h x y){t:TypeId}{len:Nat}{parts:List (Nat×Operand)}{sz:Nat}{l:List AV}
 (hl:ZY S ρ t len parts=some (sz,l)): ∃zs,tT h sz l zs/\wW S σ t len parts=some (bH zs)/\l.length=len/\0<sz:=by
 unfold ZY at hl;split at hl
 ·rename_i ti ht;split at hl
  ·rename_i el hd;split at hl
   ·rename_i ei he;split at hl
    ·cases hl
    ·rename_i h1;split at hl
     ·rename_i h2;split at hl
      ·rename_i h2';split at hl
       ·rename_i z hz;split at hl
        ·rename_i l' hl';injection hl with hl;injection hl with e1 e2;subst e1;subst e2;obtain ⟨z0,f1,f2⟩:=yC (h:=h) hz;have hz1:=pW hz;have a:=D3 (sz:=ei.size) f1 (by rw [f2];exact ab2 h2') (by rw [f2];exact hz1) len;obtain ⟨zs',b1,b2⟩:=SZ hρ a hl';refine ⟨zs',b1,?_,?_,?_⟩
         ·simp only [wW,ht,hd,he,h1,h2];rw [R0,f2] at b2;exact b2
         ·have: ∀{parts:List (Nat×Operand)} {l r:List AV},MP ei ρ parts l=some r->r.length=l.length:=by
           intro parts
           induction parts with
           |nil=>intro l r h;simp only [MP] at h;injection h with h;subst h;rfl |cons p q ih=>
            intro l r h;obtain ⟨i,x⟩:=p;simp only [MP] at h;split at h
            ·split at h
             ·split at h
              ·rename_i l1 hl1;rw [ih h,NP hl1]
              ·cases h
             ·cases h
            ·cases h
          rw [this hl',repA_len]
         ·rcases ah0 ei.size with h0|h0
          ·rw [h0] at h1;simp at h1
          ·exact h0
        ·cases hl
       ·cases hl
      ·cases hl
     ·cases hl
   ·cases hl
  ·cases hl
 ·cases hl
theorem A.lit{all:Array Oper}{o:Oper}{l:List Oper}{ks:List (Nat×Bool)}{t:TypeId}{len:Nat}{parts:Array (Nat×Operand)}{sz:Nat}{xs:List AV}{d:Nat}
 (hg:aV E all o.guard=some ks) (ho:o.op= .buildSlice t len parts) (hx:ZY K.S (E.ev K.gs ks) t len parts.toList=some (sz,xs)) (hd:o.dst=some d) (hc:bZ K.n E d=true)
 (next: ∀b,A K (.ops all l::k) ⟨(d, .sl sz xs (some (.slice (some ⟨b,0,none⟩) len len)))::E.us,E.cs⟩ Λ):A K (.ops all (o::l)::k) E Λ:=by
 refine ⟨fun h e L hl r q=>?_⟩;obtain ⟨zs,a,b1,b2,b3⟩:=S3 (σ:=e.ev ks) (fun z x hz=>r.ev (K.hgs.mono hl) ks hz) hx;refine V.cv (C:=K.cfg) (aT r hg) ho b1 a.ik hd (bQ r hc) fun b h' hle hat=>?_;have hrp:Rp h' (.sl sz xs (some (.slice (some ⟨b,0,none⟩) len len))) (.slice (some ⟨b,0,none⟩) len len):=by rw [cU];exact ⟨some ⟨b,0,none⟩,len,by rw [b2],by rw [b2];exact aa6 _,rfl,fun _=>⟨b,0,rfl,uI (a.rp.mono hle) a.sz hat⟩⟩
 exact (next b).run h' _ L (GH.le_trans hl hle) ⟨(r.1.mono hle).put hrp,r.2.mono hle⟩ (q.mono hle)
theorem A.gh{p:Nat}{t:TypeId}{b off:Nat}{ti:TI}{x y:AV}{Λ':List aF}(hk:atEnd k=true)(hr:K.fn.results= #[.cell p t])(hx:bJ E.us p=some (.v (.pointer (some ⟨b,off,none⟩))))(ht:K.S.get t=some ti)
 [i:AAt Λ b x] (hv:OQ ti x off=some y) (hs:Λ'.Sublist Λ) (hq:K.Q y Λ') (hrd:K.rd=none:=by rfl):A K k E Λ:=by
 refine ⟨fun h e L hl r q=>?_⟩;rcases r.1.look p with ⟨z,v,e1,e2,e3⟩|⟨e1,e2⟩
 ·rw [hx] at e1;injection e1 with e1;subst e1;rw [bE] at e3;rw [e3.1] at e2;obtain ⟨pe,g1,z,g2,g3⟩:=q.mem i.mem;subst g3;have g1:=g1 _ (aa3.2 T);obtain ⟨v',e4,e5⟩:=yZ (b:=b) g2 hv;obtain ⟨L',m1,m2⟩:=q.sub hs;exact V.gh (C:=K.cfg) hk hrd T hr e2 ht (i:=⟨ac9 _ g1,rfl⟩) e4 ⟨y,Λ',L',hq,e5,hl,m1,m2.append_right _⟩
 ·rw [hx] at e1;cases e1
end
end Go.Tp
namespace Go.Tp
open Go Go.RowKit
theorem WE.bg{G:Rg}{π:List Nat}{e:Env}{h:GH}{E:aE}{i:Nat}{o:Oper}{ks:List (Nat×Bool)}{v:Value}{e':Env}(ho:bU G.all.toList i=some o)(hk:kd o= .qt)(hg:fX e G.all o.guard=some ks)
 (hr: ∀a w E,Ag G.C.n G.C.D e a->St G.C.w0 h (E++G.L0) w->dK a ks->(execOp a.eval o).run G.C.P w= .ok (.value v) w) (hp:e.put G.C.n none o.dst v=some e') (next:WE G π e' h E):WE G (i::π) e h E:=by
 intro a g;refine ⟨o,by rw [cC,ac2] at ho;exact ho,?_⟩;obtain ⟨hon,hks⟩:=f6 g hg;unfold Rg.Node;rw [hon,hk];exact ⟨v, .inl fun E' w s=>hr a w E' g s hks,next _ (g.put hp)⟩
abbrev Da:=List (Nat×aF)
def lW:Da->Nat->Option aF
 | [],_=>none |(k,v)::r,t=>match Nat.beq k t with|true=>some v|false=>lW r t
def UE(h:GH):Option aF->Option a6->Prop
 |some x,y=> ∃p,y=some p/\nZ h x [p] |none,y=>y=none
def KF(h:GH)(D:Da)(Es:aE):Prop:= ∀i,UE h (lW D i) (Es i)
theorem UE.mono{h h':GH}(hl:h.le h'){x:Option aF}{y:Option a6}(r:UE h x y):UE h' x y:=by
 cases x with
 |none=>exact r |some x=>obtain ⟨p,h1,h2⟩:=r;exact ⟨p,h1,h2.mono hl⟩
theorem KF.mono{h h':GH}(hl:h.le h'){D:Da}{Es:aE}(r:KF h D Es):KF h' D Es:=fun i=>(r i).mono hl
theorem KF.set{h:GH}{D:Da}{Es:aE}(r:KF h D Es){i:Nat}{x:aF}{p:a6}(q:nZ h x [p]):KF h ((i,x)::D) (Es.set i (some p)):=fun j=>by
 simp only [lW,aE.set]
 by_cases hj:j=i
 ·subst hj;simp only [Nat.beq_refl,if_true];exact ⟨p,rfl,q⟩
 ·rw [iF hj];have:Nat.beq i j=false:=by
   cases hb:Nat.beq i j with
   |false=>rfl |true=>exact absurd (ab2 hb).symm hj
  rw [this];exact r j
def q9(ps:List Nat):Da->Da
 | []=>[] |(k,v)::r=>match fS k ps with|true=>q9 ps r|false=>(k,v)::q9 ps r
theorem uX(ps:List Nat): ∀(D:Da) (i:Nat),lW (q9 ps D) i=if i∈ps then none else lW D i
 | [],i=>by simp [q9,lW] |(k,v)::D,i=>by
  have ih:=uX ps D i;simp only [q9];cases hm:fS k ps with
  |true=>
   have hm:=fG.1 hm;simp only [ih,lW];split
   ·rfl
   ·rename_i hi;have:Nat.beq k i=false:=by
     cases hb:Nat.beq k i with
     |false=>rfl |true=>have:=ab2 hb;subst this;exact absurd hm hi
    rw [this]
  |false=>
   have hm:k∉ps:=fun hh=>by rw [fG.2 hh] at hm;cases hm
   simp only [lW];cases hb:Nat.beq k i with
   |true=>have:=ab2 hb;subst this;simp only [iF hm] |false=>exact ih
theorem KF.pub{h:GH}{D:Da}{Es:aE}(r:KF h D Es)(ps:List Nat):KF h (q9 ps D) (pP ps Es):=fun i=>by
 rw [uX,kD];split
 ·rfl
 ·exact r i
def YA(Y:Ua):Nat->List Value->Value->GH->Prop:=fun i _ v h'=>match bJ Y i with
 |some y=>Rp h' y v |none=>False
def EZ:List Oper->Nat
 | []=>0 |_::r=>Nat.succ (EZ r)
theorem wT(l:List Oper):EZ l=l.length:=by induction l with
 |nil=>rfl |cons x r ih=>simp [EZ,ih]
structure WA(K:AC)(all:Array Oper)(m:Nat)(k:List It)(pubs:Nat->List Nat)(Y:Ua)(π:List Nat)(E:aH)(Λ:List aF)(D:Da):Prop where
 run: ∀h e L Es,K.h0.le h->iR h E e->kL h Λ L->KF h D Es->WE (cG K.cfg all (L++K.G) pubs (YA Y) m k) π e h Es
mutual
inductive AZ(D:Da)(ps:List Nat):AV->AV->Prop
 |sub {x y:AV}:Sb x y->AZ D ps x y
 |pub {j sz n:Nat} {z:Value} {l l':List AV}:lW D j=some (.row sz z l)->fS j ps=true->pZ D ps l l'->AZ D ps (.ms z sz n) (.sl sz l' none)
inductive pZ(D:Da)(ps:List Nat):List AV->List AV->Prop
 |sub {x y:List AV}:fO x y->pZ D ps x y
 |cons {x y:AV} {l r:List AV}:AZ D ps x y->pZ D ps l r->pZ D ps (x::l) (y::r)
end
theorem rS.pub{h:GH}{sz:Nat}{z:Value}{l:List AV}{p:a6}(r:rS h sz z l p): ∃a cap zs,z= .slice a l.length cap/\l.length<=cap/\dM h l zs/\(∀z,z∈zs->(aI z).length=sz)/\(l≠[]-> ∃b o sp,a=some ⟨b,o,none⟩/\p=⟨b,o,bH zs++sp,none⟩):=by
 obtain ⟨a,cap,zs,rfl,h2,h3,h4,h5⟩:=r;refine ⟨a,cap,zs,rfl,h2,h3.rp,h3.sz,fun hn=>?_⟩;rcases h5 with ⟨h5,_⟩|h5
 ·exact (hn h5).elim
 ·obtain ⟨b,o,sp,k1,k2,_⟩:=h5;exact ⟨b,o,sp,k1,k2⟩
theorem pZ.len{D:Da}{ps:List Nat}{l r:List AV}(s:pZ D ps l r):l.length=r.length:=by
 induction r generalizing l with
 |nil=>cases s with
  |sub s=>exact s.len
 |cons x r ih=>cases s with
  |sub s=>exact s.len |cons _ s=>simp [ih s]
mutual
theorem AZ.rp{h h':GH}{D:Da}{Es:aE}{ps:List Nat}(r:KF h D Es)(hl:h.le h')(hp: ∀j,j∈ps-> ∀x,Es j=some x->iB h' x.b x.lo x.cs): ∀{x y:AV} (s:AZ D ps x y) {v:Value} (q:Rp h x v),Rp h' y v
 |_,_, .sub s,_,q=>(s.rp q).mono hl |_,_, .pub (j:=j) (l:=l) (l':=l') hd hm hs,_,q=>by have:=r j;rw [hd] at this;obtain ⟨p,e1,p',e2,e3⟩:=this;injection e3 with e3;subst e3;rw [kN] at q;obtain ⟨rfl,_⟩:=q;have hat:=hp j (fG.1 hm) p e1;obtain ⟨a,cap,zs,rfl,g2,g3,g4,g5⟩:=e2.pub;have hlen:=hs.len;rw [cU,<-hlen];refine ⟨a,cap,rfl,g2,trivial,fun hn=>?_⟩;obtain ⟨b,o,sp,rfl,rfl⟩:=g5 (fun hh=>hn (by subst hh;exact ad0.1 hlen.symm));exact ⟨b,o,rfl,uI (pZ.rp r hl hp hs g3) g4 (iB.left hat)⟩
theorem pZ.rp{h h':GH}{D:Da}{Es:aE}{ps:List Nat}(r:KF h D Es)(hl:h.le h')(hp: ∀j,j∈ps-> ∀x,Es j=some x->iB h' x.b x.lo x.cs): ∀{x y:List AV} (s:pZ D ps x y) {v:List Value} (q:dM h x v),dM h' y v
 |_,_, .sub s,_,q=>(s.rp q).mono hl |_,_, .cons s t,_,q=>by rw [aG] at q⊢;obtain ⟨u,us,rfl,h1,h2⟩:=q;exact ⟨u,us,rfl,AZ.rp r hl hp s h1,pZ.rp r hl hp t h2⟩
end
section
variable{K:AC}{all:Array Oper}{m:Nat}{k:List It}{pubs:Nat->List Nat}{Y:Ua}{π:List Nat}{E:aH}{Λ:List aF}{D:Da}
theorem A.draw{id:Nat}(m:Nat)(π:List Nat)(pubs:Nat->List Nat)(Y:Ua)(hm:K.P.follows .mixedOrders=true)(hok:lL all m π pubs=true)(hv:WA K all m k pubs Y π E Λ []):A K (.code (.region id all true)::k) E Λ:=
 ⟨fun h e L hl r q=>V.draw (C:=K.cfg) m π pubs (YA Y) hm hok (hv.run h e L aE.none hl r q fun i=>rfl)⟩
def wstepA(S:TT)(gs:Ua)(n:Nat)(all:Array Oper)(π:List Nat)(E:aH):Option (List Nat×aH):=
 match π with
 | []=>none |i::π=>match bU all.toList i with
  |some o=>match VE o with
   |true=>match gC E all o.guard with
    |some (m,ks)=>match UI S gs E ks o.op with
     |some v=>match E.put n m o.dst v with
      |some E'=>some (π,E') |none=>none
     |none=>none
    |none=>none
   |false=>none
  |none=>none
def J4(S:TT)(gs:Ua)(n:Nat)(all:Array Oper)(π:List Nat)(E:aH):Option (List Nat×aH):=
 match π with
 | []=>none |i::π=>match bU all.toList i with
  |some o=>match VE o with
   |true=>match aV E all o.guard with
    |some ks=>match UI S gs E ks o.op with
     |some v=>match E.put n none o.dst v with
      |some E'=>some (π,E') |none=>none
     |none=>none
    |none=>none
   |false=>none
  |none=>none
theorem SV{o:Oper}(h:VE o=true):kd o= .qt:=by
 unfold VE at h;split at h
 ·assumption
 ·cases h
theorem WA.step{π':List Nat}{E':aH}(hs:wstepA K.S K.gs K.n all π E=some (π',E'))(next:WA K all m k pubs Y π' E' Λ D):WA K all m k pubs Y π E Λ D:=by
 refine ⟨fun h e L Es hl r q d=>?_⟩;unfold wstepA at hs;split at hs
 ·cases hs
 ·split at hs
  ·rename_i o ho;split at hs
   ·rename_i hk;split at hs
    ·rename_i mm ks hg;split at hs
     ·rename_i v hpv;split at hs
      ·rename_i E'' hput;injection hs with hs;injection hs with h1 h2;subst h1;subst h2;rw [f0 r] at hg;obtain ⟨y,e1,e2⟩:=xJ (P:=K.P) (w0:=K.w0) (n:=K.n) (L:=[]) K.ok (K.hgs.mono hl) r hpv;obtain ⟨e',e3,e4⟩:=cJ r hput e1;refine WE.value (G:=cG K.cfg all (L++K.G) pubs (YA Y) m k) ho (SV hk) hg (fun a w E0 g s hks=>e2 a w g (s.sub (ae1 _)) hks) e3 (next.run h e' L Es hl e4 q d)
      ·cases hs
     ·cases hs
    ·cases hs
   ·cases hs
  ·cases hs
theorem WA.aq{π':List Nat}{E':aH}(hs:J4 K.S K.gs K.n all π E=some (π',E'))(next:WA K all m k pubs Y π' E' Λ D):WA K all m k pubs Y π E Λ D:=by
 refine ⟨fun h e L Es hl r q d=>?_⟩;unfold J4 at hs;split at hs
 ·cases hs
 ·split at hs
  ·rename_i o ho;split at hs
   ·rename_i hk;split at hs
    ·rename_i ks hg;split at hs
     ·rename_i v hpv;split at hs
      ·rename_i E'' hput;injection hs with hs;injection hs with h1 h2;subst h1;subst h2;obtain ⟨y,e1,e2⟩:=xJ (P:=K.P) (w0:=K.w0) (n:=K.n) (L:=[]) K.ok (K.hgs.mono hl) r hpv;obtain ⟨e',e3,e4⟩:=cJ r hput e1;refine WE.bg (G:=cG K.cfg all (L++K.G) pubs (YA Y) m k) ho (SV hk) (aT r hg) (fun a w E0 g s hks=>e2 a w g (s.sub (ae1 _)) hks) e3 (next.run h e' L Es hl e4 q d)
      ·cases hs
     ·cases hs
    ·cases hs
   ·cases hs
  ·cases hs
theorem WA.load{i:Nat}{o:Oper}{mm:Option (Nat×Bool)}{ks:List (Nat×Bool)}{t:TypeId}{p:Operand}{b off:Nat}{ti:TI}{x y:AV}{E':aH}
 (hi:bU all.toList i=some o) (hg:gC E all o.guard=some (mm,ks)) (ho:o.op= .load t p) (hp:E.ev K.gs ks p=some (.v (.pointer (some ⟨b,off,none⟩)))) (ht:K.S.get t=some ti) [z:AAt Λ b x]
 (hv:OQ ti x off=some y) (hput:E.put K.n mm o.dst y=some E') (next:WA K all m k pubs Y π E' Λ D):WA K all m k pubs Y (i::π) E Λ D:=by
 refine ⟨fun h e L Es hl r q d=>?_⟩;rw [f0 r] at hg;obtain ⟨v1,e1,f1⟩:=r.ev (K.hgs.mono hl) _ hp;rw [bE] at f1;rw [f1.1] at e1;obtain ⟨pe,g1,u,g2,g3⟩:=q.mem z.mem;subst g3;have g1:=g1 _ (aa3.2 T);obtain ⟨v,e2,e3⟩:=yZ (b:=b) g2 hv;obtain ⟨e',e4,e5⟩:=cJ r hput e3;exact WE.load (G:=cG K.cfg all (L++K.G) pubs (YA Y) m k) hi hg ho e1 ht (z:=⟨ac9 _ g1,rfl⟩) e2 e4 (next.run h e' L Es hl e5 q d)
theorem WA.ah{i:Nat}{o:Oper}{ks:List (Nat×Bool)}{t:TypeId}{p:Operand}{b off:Nat}{ti:TI}{x y:AV}{E':aH}
 (hi:bU all.toList i=some o) (hg:aV E all o.guard=some ks) (ho:o.op= .load t p) (hp:E.ev K.gs ks p=some (.v (.pointer (some ⟨b,off,none⟩)))) (ht:K.S.get t=some ti) [z:AAt Λ b x]
 (hv:OQ ti x off=some y) (hput:E.put K.n none o.dst y=some E') (next:WA K all m k pubs Y π E' Λ D):WA K all m k pubs Y (i::π) E Λ D:=by
 refine ⟨fun h e L Es hl r q d=>?_⟩;obtain ⟨v1,e1,f1⟩:=r.ev (K.hgs.mono hl) _ hp;rw [bE] at f1;rw [f1.1] at e1;obtain ⟨pe,g1,u,g2,g3⟩:=q.mem z.mem;subst g3;have g1:=g1 _ (aa3.2 T);obtain ⟨v,e2,e3⟩:=yZ (b:=b) g2 hv;obtain ⟨e',e4,e5⟩:=cJ r hput e3;exact WE.bg (G:=cG K.cfg all (L++K.G) pubs (YA Y) m k) hi (wR ho) (aT r hg) (fun a w E0 g s hk=>by have:=oF (TT.Ok.get K.ok ht) (s.own ⟨b,0,aI u,none⟩ (ae6 _ (ac9 _ g1))) T e2;unfold execOp;rw [ho];have this:aq2 K.cfg.P (Instr.loadAt t (Value.pointer (some ⟨b,off,none⟩))) w= .ok v w:=this;simp only [g.ev hk e1,aa9,this,aa5,ab5]) e4 (next.run h e' L Es hl e5 q d)
theorem WA.index{i0:Nat}{o:Oper}{ks:List (Nat×Bool)}{t el:TypeId}{ti ei:TI}{x ix:Operand}{xv y y':AV}{xs:List AV}{own:Option Value}{kk:IntKind}{i:Int}{E':aH}
 (hi0:bU all.toList i0=some o) (hg:aV E all o.guard=some ks) (ho:o.op= .indexAddr t x ix) (hx:E.ev K.gs ks x=some xv) (hi:E.ev K.gs ks ix=some (.v (.int kk i))) (ht:K.S.get t=some ti) (hdd:ti.d= .slice el) (he:K.S.get el=some ei)
 (hs:nX ei.size xv=some (xs,own)) (h0:0<=i) (hy:xs[i.toNat]? =some y) (hy':y=y') (hput:E.put K.n none o.dst (.pe ei.size y')=some E') (next:WA K all m k pubs Y π E' Λ D):WA K all m k pubs Y (i0::π) E Λ D:=by
 subst hy';refine ⟨fun h e L Es hl r q d=>?_⟩;obtain ⟨v1,e1,f1⟩:=r.ev (K.hgs.mono hl) _ hx;obtain ⟨v2,e2,f2⟩:=r.ev (K.hgs.mono hl) _ hi;rw [bE] at f2;rw [f2.1] at e2;have f1:=jC hs f1;rw [cU] at f1;obtain ⟨a,cap,rfl,_,_,h4⟩:=f1;have hlt:i.toNat<xs.length:=by
  rcases ad7 i.toNat xs.length with h|h
  ·exact h
  ·rw [ab4 h] at hy;cases hy
 obtain ⟨b,off,rfl,h5⟩:=h4 (fun hn=>by subst hn;simp at hlt);obtain ⟨z,g1,g2,g3⟩:=h5.at hy;obtain ⟨e',e4,e5⟩:=cJ r hput (kO.2 ⟨b,off+i.toNat*ei.size,z,rfl,g1,g2,g3⟩);have hiv:sE K.S t (.slice (some ⟨b,off,none⟩) xs.length cap) i=some (.pointer (some ⟨b,off+i.toNat*ei.size,none⟩),xs.length):=by simp only [sE,ht,hdd,he]
 exact WE.bg (G:=cG K.cfg all (L++K.G) pubs (YA Y) m k) hi0 (wQ ho) (aT r hg) (fun a w E0 g s hk=>by have:=pR (P:=K.cfg.P) (w:=w) (kk:=kk) K.ok hiv h0 (by omega);unfold execOp;rw [ho];simp only [g.ev hk e1,g.ev hk e2,aa9,this,aa5,ab5]) e4 (next.run h e' L Es hl e5 q d)
theorem WA.skip{i:Nat}{o:Oper}{x:Bool}{E':aH}(hi:bU all.toList i=some o)(hg:ZC E all o.guard=some x)(hp:E.put K.n none o.dst (.tp [])=some E')(next:WA K all m k pubs Y π E' Λ D):WA K all m k pubs Y (i::π) E Λ D:=by refine ⟨fun h e L Es hl r q d=>?_⟩;obtain ⟨e',e3,e4⟩:=cJ r hp (y:=undef) (o6.2 ⟨[],rfl,aQ.2 rfl⟩);exact WE.skip (G:=cG K.cfg all (L++K.G) pubs (YA Y) m k) hi (SF r hg) e3 (next.run h e' L Es hl e4 q d)
theorem WA.aj{i:Nat}{o:Oper}{mm:Option (Nat×Bool)}{ks:List (Nat×Bool)}{c x y:Operand}{v:AV}{E':aH}(hi:bU all.toList i=some o)(hg:gC E all o.guard=some (mm,ks))(ho:o.op= .pick c x y)(hc:E.ev K.gs ks c=some (.v (.bool true)))
 (hx:E.ev K.gs ks x=some v) (hp:E.put K.n mm o.dst v=some E') (next:WA K all m k pubs Y π E' Λ D):WA K all m k pubs Y (i::π) E Λ D:=by
 refine ⟨fun h e L Es hl r q d=>?_⟩;rw [f0 r] at hg;obtain ⟨v1,e1,f1⟩:=r.ev (K.hgs.mono hl) _ hc;obtain ⟨v2,e2,f2⟩:=r.ev (K.hgs.mono hl) _ hx;rw [bE] at f1;rw [f1.1] at e1;obtain ⟨e',e3,e4⟩:=cJ r hp f2;exact WE.aj (G:=cG K.cfg all (L++K.G) pubs (YA Y) m k) hi hg ho e1 e2 e3 (next.run h e' L Es hl e4 q d)
theorem WA.ai{i:Nat}{o:Oper}{mm:Option (Nat×Bool)}{ks:List (Nat×Bool)}{c x y:Operand}{v:AV}{E':aH}(hi:bU all.toList i=some o)(hg:gC E all o.guard=some (mm,ks))(ho:o.op= .pick c x y)(hc:E.ev K.gs ks c=some (.v (.bool false)))
 (hx:E.ev K.gs ks y=some v) (hp:E.put K.n mm o.dst v=some E') (next:WA K all m k pubs Y π E' Λ D):WA K all m k pubs Y (i::π) E Λ D:=by
 refine ⟨fun h e L Es hl r q d=>?_⟩;rw [f0 r] at hg;obtain ⟨v1,e1,f1⟩:=r.ev (K.hgs.mono hl) _ hc;obtain ⟨v2,e2,f2⟩:=r.ev (K.hgs.mono hl) _ hx;rw [bE] at f1;rw [f1.1] at e1;obtain ⟨e',e3,e4⟩:=cJ r hp f2;exact WE.ai (G:=cG K.cfg all (L++K.G) pubs (YA Y) m k) hi hg ho e1 e2 e3 (next.run h e' L Es hl e4 q d)
theorem WA.val(t:Nat){x x':AV}(hx:bJ E.us t=some x)(hs:Sb x x')(next:WA K all m k pubs Y π ⟨(t,x')::E.us,E.cs⟩ Λ D):WA K all m k pubs Y π E Λ D:=by
 refine ⟨fun h e L Es hl r q d=>?_⟩;rcases r.1.look t with ⟨y,v,e1,e2,e3⟩|⟨e1,e2⟩
 ·rw [hx] at e1;injection e1 with e1;subst e1;exact WE.val (G:=cG K.cfg all (L++K.G) pubs (YA Y) m k) t e2 T (next.run h ⟨(t,v)::e.us,e.cs⟩ L Es hl ⟨r.1.put (hs.rp e3),r.2⟩ q d)
 ·rw [hx] at e1;cases e1
theorem WA.ad(t:Nat){x x':AV}(hx:bJ E.us t=some x)(hs:x=x')(next:WA K all m k pubs Y π ⟨(t,x')::E.us,E.cs⟩ Λ D):WA K all m k pubs Y π E Λ D:=WA.val t hx (by subst hs;exact .refl) next
theorem WA.split(t:Nat){g:Bool}(hx:bJ E.us t=some (.v (.bool g)))(ht:g=true->WA K all m k pubs Y π ⟨(t, .v (.bool true))::E.us,E.cs⟩ Λ D)(hf:g=false->WA K all m k pubs Y π ⟨(t, .v (.bool false))::E.us,E.cs⟩ Λ D):WA K all m k pubs Y π E Λ D:=by
 cases g
 ·exact WA.val t hx .refl (hf T)
 ·exact WA.val t hx .refl (ht T)
theorem WA.alloc{i:Nat}{o:Oper}{ks:List (Nat×Bool)}{t:TypeId}{ti:TI}{d:Nat}{x:AV}(hi:bU all.toList i=some o)
 (hg:aV E all o.guard=some ks) (ho:o.op= .alloc t) (ht:K.S.get t=some ti) (hz:uG ti=some x) (hd:o.dst=some d) (hc:bZ K.n E d=true) (hE:lW D i=none)
 (next: ∀b,WA K all m k pubs Y π ⟨(d, .v (.pointer (some ⟨b,0,none⟩)))::E.us,E.cs⟩ Λ ((i, .box b x)::D)):WA K all m k pubs Y (i::π) E Λ D:=by
 refine ⟨fun h e L Es hl r q dd=>?_⟩;have hE':Es i=none:=by have:=dd i;rw [hE] at this;exact this
 refine WE.alloc (G:=cG K.cfg all (L++K.G) pubs (YA Y) m k) hi (aT r hg) ho ht (pW hz) hd (bQ r hc) hE' fun b=>?_;obtain ⟨z,e1,e2⟩:=yC (h:=h) hz;exact (next b).run h _ L _ hl ⟨r.1.put (bE.2 ⟨rfl,rfl⟩),r.2⟩ q (dd.set ⟨z,e1,by rw [e2]⟩)
theorem WA.lit{i:Nat}{o:Oper}{ks:List (Nat×Bool)}{t:TypeId}{len:Nat}{parts:Array (Nat×Operand)}{sz:Nat}{xs:List AV}{d:Nat}(hi:bU all.toList i=some o)
 (hg:aV E all o.guard=some ks) (ho:o.op= .buildSlice t len parts) (hx:ZY K.S (E.ev K.gs ks) t len parts.toList=some (sz,xs)) (hd:o.dst=some d) (hc:bZ K.n E d=true) (hE:lW D i=none)
 (next: ∀b,WA K all m k pubs Y π ⟨(d, .ms (.slice (some ⟨b,0,none⟩) len len) sz len)::E.us,E.cs⟩ Λ ((i, .row sz (.slice (some ⟨b,0,none⟩) len len) xs)::D)):WA K all m k pubs Y (i::π) E Λ D:=by
 refine ⟨fun h e L Es hl r q dd=>?_⟩;have hE':Es i=none:=by have:=dd i;rw [hE] at this;exact this
 obtain ⟨zs,a,b1,b2,b3⟩:=S3 (σ:=e.ev ks) (fun z x hz=>r.ev (K.hgs.mono hl) ks hz) hx;refine WE.lit (G:=cG K.cfg all (L++K.G) pubs (YA Y) m k) hi (aT r hg) ho b1 a.ik hd (bQ r hc) hE' fun b=>?_;refine (next b).run h _ L _ hl ⟨r.1.put (kN.2 ⟨rfl,_,_,rfl⟩),r.2⟩ q (dd.set ⟨_,⟨some ⟨b,0,none⟩,len,zs,by rw [b2],by rw [b2];exact aa6 _,a,rfl, .inr ⟨b,0,[],rfl,by rw [ae3],by rw [b2];simp⟩⟩,rfl⟩)
theorem WA.store{i j:Nat}{o:Oper}{ks:List (Nat×Bool)}{t:TypeId}{p y:Operand}{b off:Nat}{ti:TI}{x x' v:AV}(hi:bU all.toList i=some o)
 (hg:aV E all o.guard=some ks) (ho:o.op= .store t p y) (hp:E.ev K.gs ks p=some (.v (.pointer (some ⟨b,off,none⟩)))) (hy:E.ev K.gs ks y=some v) (ht:K.S.get t=some ti) (hj:pubs i=[j]) (hE:lW D j=some (.box b x))
 (hv:stA ti x off v=some x') (hd:o.dst=none) (next:WA K all m k pubs Y π E Λ ((j, .box b x')::D)):WA K all m k pubs Y (i::π) E Λ D:=by
 refine ⟨fun h e L Es hl r q dd=>?_⟩;obtain ⟨v1,e1,f1⟩:=r.ev (K.hgs.mono hl) _ hp;rw [bE] at f1;rw [f1.1] at e1;obtain ⟨u,e2,f2⟩:=r.ev (K.hgs.mono hl) _ hy;have:=dd j;rw [hE] at this;obtain ⟨pp,g1,z,g2,g3⟩:=this;injection g3 with g3;subst g3;obtain ⟨z',e3,e4⟩:=Q5 (b:=b) g2 f2 hv;exact WE.store (G:=cG K.cfg all (L++K.G) pubs (YA Y) m k) hi (aT r hg) ho e1 e2 ht hj g1 T e3 hd (next.run h e L _ hl r q (dd.set ⟨z',e4,rfl⟩))
theorem WA.gv{i:Nat}{o:Oper}{ks:List (Nat×Bool)}{x:Operand}{args:Array Operand}{ts:Array TypeId}{f:FuncId}{fst cap vs args':List AV}{y:AV}{d:Nat}{ps:List Nat}{D':Da}(hi:bU all.toList i=some o)
 (hg:aV E all o.guard=some ks) (ho:o.op= .call ⟨.value x,args,ts⟩) (hx:E.ev K.gs ks x=some (.fn f fst cap)) (ha:rG (E.ev K.gs ks) args.toList=some vs)
 (hd:o.dst=some d) (hc:bZ K.n E d=true) (hp:pubs i=ps) (hii:fS i ps=false) (hD:q9 ps D=D') (hY:bJ Y i=some y) (hf:Pure K.P K.gs f args' y) (hs:pZ D ps (fst++(vs++cap)) args')
 (next:WA K all m k pubs Y π ⟨(d,y)::E.us,E.cs⟩ Λ D'):WA K all m k pubs Y (i::π) E Λ D:=by
 subst hD;subst hp;refine ⟨fun h e L Es hl r q dd=>?_⟩;obtain ⟨v1,e1,f1⟩:=r.ev (K.hgs.mono hl) _ hx;rw [q8] at f1;obtain ⟨u,w,rfl,f2,f3⟩:=f1;obtain ⟨us,e2,f4⟩:=mS (σ:=e.ev ks) (fun z x hz=>r.ev (K.hgs.mono hl) ks hz) ha;refine WE.gk (G:=cG K.cfg all (L++K.G) pubs (YA Y) m k) hi (aT r hg) ho e1 e2 hd (bQ r hc) (fun pk L'=>?_) (fun v h' y1 y2 y3=>?_) hii
 ·have hargs:=hs.rp dd pk.1 pk.2 (f2.append (f4.append f3));refine (hf K.w0 _ _ [] _ (K.hgs.mono (GH.le_trans hl pk.1)) hargs T).mono ?_;rintro v h' L'' ⟨z,Λ',L1,⟨rfl,rfl⟩,g2,g3,g4,rfl⟩;have g4:L1=[]:=g4;subst g4;exact ⟨rfl,g3,by simp only [YA,hY];exact g2⟩
 ·have y3:Rp h' y v:=by simp only [YA,hY] at y3;exact y3
  exact next.run h' ⟨(d,v)::e.us,e.cs⟩ L _ (GH.le_trans hl y2) ⟨(r.1.mono y2).put y3,r.2.mono y2⟩ (q.mono y2) ((dd.mono y2).pub _)
def y6(D:Da):Nat->Nat->List aF
 |_,0=>[] |i,n+1=>match lW D i with
  |some x=>x::y6 D (i+1) n |none=>y6 D (i+1) n
theorem GF{h:GH}{D:Da}{Es:aE}(d:KF h D Es): ∀(n i:Nat),∃l,wV Es i n=some l/\kL h (y6 D i n) l
 |0,i=>⟨[],rfl,rfl⟩ |n+1,i=>by
  obtain ⟨l,e1,e2⟩:=GF d n (i+1);have:=d i;simp only [y6,wV];cases hx:lW D i with
  |none=>rw [hx] at this;have this:Es i=none:=this;rw [this];exact ⟨l,e1,e2⟩ |some x=>
   rw [hx] at this;obtain ⟨p,e3,e4⟩:=this;simp only [e3,e1];exact ⟨p::l,rfl, .one e4 e2⟩
theorem WA.nil{l:List aF}(hl:y6 D 0 (EZ all.toList)=l)(hv:A K (.ops all (all.toList.drop m)::k) E (l++Λ)):WA K all m k pubs Y [] E Λ D:=by
 subst hl;refine ⟨fun h e L Es hh r q d=>?_⟩;obtain ⟨l,e1,e2⟩:=GF d all.size 0;have:EZ all.toList=all.size:=by rw [wT];simp
 rw [this] at hv;refine WE.nil e1 ?_;have:=hv.run h e (l++L) hh r (e2.append q)
 rwa [ab7] at this
end
end Go.Tp
namespace Go.Tp
open Go Go.RowKit
theorem U9{w0 w:World}{h:GH}{L:List a6}(s:St w0 h L w)(p:a6)(hp:p.cs=[])(ho:p.obj=none):St w0 h (p::L) w:=by
 refine ⟨s.below,s.imm,s.imm1,fun q hq=>?_,af1.2 ⟨fun q hq=>⟨fun i j hi=>by rw [hp] at hi;simp at hi,fun x=>by rw [ho] at x;cases x⟩,s.dis⟩,s.frz,s.drn⟩;rcases ab0.1 hq with rfl|hq
 ·exact ⟨fun v hv=>by rw [hp] at hv;simp at hv,fun i v hv=>by rw [hp] at hv;simp at hv,fun i hi=>by rw [hp] at hi;simp at hi,fun i hi=>by rw [hp] at hi;simp at hi,fun i hi=>by rw [hp] at hi;simp at hi,fun o h'=>by rw [ho] at h';cases h'⟩
 ·exact s.own q hq
section
variable{C:nY}{k:List It}{e:Env}{h:GH}{L:List a6}
theorem V.make{all:Array Oper}{o:Oper}{l:List Oper}{ks:List (Nat×Bool)}{t el:TypeId}{ti ei:TI}{y1 y2:Operand}{k1 k2:IntKind}{n:Int}{d:Nat}
 (hg:fX e all o.guard=some ks) (ho:o.op= .makeSlice t y1 y2) (h1:e.ev ks y1=some (.int k1 n)) (h2:e.ev ks y2=some (.int k2 n)) (ht:C.S.get t=some ti) (hdd:ti.d= .slice el) (he:C.S.get el=some ei)
 (hsz:0<ei.size) (hz1:aP ei.zero=true) (hd:o.dst=some d) (hc:eY C.n e d=true) (h0:0<=n) (hb:(ei.bytes:Int)*n<=140737488355328) (hn:n<=9223372036854775807)
 (next: ∀b,V C (.ops all l::k) ⟨(d, .slice (some ⟨b,0,none⟩) n.toNat n.toNat)::e.us,e.cs⟩ h (⟨b,0,(List.replicate n.toNat ei.zero).flatten,none⟩::L)):V C (.ops all (o::l)::k) e h L:=
 V.gives hg hd hc fun a w g s hk=>by
  have ok:=TT.Ok.get C.ok ht;have oke:=TT.Ok.get C.ok he;obtain ⟨xi,zv,hxi,hxs,hxb,hxz,hzl⟩:=oke.info;have hund:C.P.underlying t=some (.slice el):=by rw [ok.und,hdd]
  have hr:=run_make (P:=C.P) w t el xi zv hund hxi hxz k1 k2 n n h0 (Int.le_refl _) (by rw [hxb];omega) hn;have hcells:madeCells zv.cells (n.toNat*xi.size)=⟨(List.replicate n.toNat ei.zero).flatten⟩:=by
   have hz0:ei.zero≠[]:=by intro hh;have:=oke.len;rw [hh] at this;simp at this;omega
   have:=gB ei.zero hz0 n.toNat;rw [oke.len] at this;rw [<-this,hxs,show zv.cells=ei.zero.toArray from by rw [<-hzl]]
   rfl
  rw [hcells] at hr;have hone:aP (List.replicate n.toNat ei.zero).flatten=true:=mX fun v hv=>by obtain ⟨l,hl,hvl⟩:=aj5.1 hv;have:=(ap1.1 hl).2;subst this;exact dP hz1 v hvl
  refine ⟨_,_,h,_,?_,s.alloc ⟨_⟩ el hone,next _⟩;unfold execOp;rw [ho];simp only [g.ev hk h1,g.ev hk h2,aa9,hr,aa5,ab5]
end
section
variable{K:AC}{k:List It}{E:aH}{Λ:List aF}
theorem A.freeze(t:Nat){b:Nat}{x:AV}{vs:List AV}{sz:Nat}{Λ':List aF}(hx:bJ E.us t=some (.v (.pointer (some ⟨b,0,none⟩)))) [i:AAt Λ b x] [j:AOut Λ (.box b x) Λ'](hc:gA x=some vs)(hn:pG vs=sz)
 (next:A K k ⟨(t, .pe sz x)::E.us,E.cs⟩ Λ'):A K k E Λ:=by
 refine ⟨fun h e L hl r q=>?_⟩;rcases r.1.look t with ⟨y,v,e1,e2,e3⟩|⟨e1,e2⟩
 ·rw [hx] at e1;injection e1 with e1;subst e1;rw [bE] at e3;obtain ⟨L',q1,q2⟩:=q.perm j.perm;obtain ⟨M,L2,rfl,⟨z,q3,rfl⟩,q4⟩:=q1;refine V.perm (q2.append_right _) (V.bu fun hle=>?_);have hrp:Rp (h.add b 0 (aI z)) (.pe sz x) v:=by
   rw [e3.1,kO];exact ⟨b,0,z,rfl,q3.mono hle,by rw [(jJ q3 hc).len,<-hn,i9],fun i u hu=>GH.cr h b 0 _ hu⟩
  exact V.val t e2 T (next.run _ ⟨(t,v)::e.us,e.cs⟩ L2 (GH.le_trans hl hle) ⟨(r.1.mono hle).put hrp,r.2.mono hle⟩ (q4.mono hle))
 ·rw [hx] at e1;cases e1
theorem A.cf(t:Nat){z:Value}{sz sz' n:Nat}{l:List AV}{Λ':List aF}(hx:bJ E.us t=some (.ms z sz' n)) [i:ARow Λ z sz l] [j:AOut Λ (.row sz z l) Λ']
 (next:A K k ⟨(t, .sl sz l none)::E.us,E.cs⟩ Λ'):A K k E Λ:=by
 refine ⟨fun h e L hl r q=>?_⟩;rcases r.1.look t with ⟨y,v,e1,e2,e3⟩|⟨e1,e2⟩
 ·rw [hx] at e1;injection e1 with e1;subst e1;rw [kN] at e3;obtain ⟨rfl,_⟩:=e3;obtain ⟨L',q1,q2⟩:=q.perm j.perm;obtain ⟨M,L2,rfl,⟨p,q3,rfl⟩,q4⟩:=q1;obtain ⟨a,cap,zs,rfl,g2,g3,g4,g5⟩:=q3;obtain ⟨pb,plo,pcs,pobj⟩:=p;simp only at g4;subst g4;refine V.perm (q2.append_right _) (V.bu fun hle=>?_);have hrp:Rp (h.add pb plo pcs) (.sl sz l none) (.slice a l.length cap):=by
   rw [cU];refine ⟨a,cap,rfl,g2,trivial,fun hn=>?_⟩;rcases g5 with ⟨g5,_⟩|⟨b,o,sp,rfl,g5,_⟩
   ·exact (hn g5).elim
   ·injection g5 with g6 g7 g8;subst g6;subst g7;subst g8;exact ⟨pb,plo,rfl,uI (g3.rp.mono hle) g3.sz (iB.left fun i u hu=>GH.cr h pb plo _ hu)⟩
  exact V.val t e2 T (next.run _ ⟨(t,_)::e.us,e.cs⟩ L2 (GH.le_trans hl hle) ⟨(r.1.mono hle).put hrp,r.2.mono hle⟩ (q4.mono hle))
 ·rw [hx] at e1;cases e1
theorem A.make{all:Array Oper}{o:Oper}{l:List Oper}{ks:List (Nat×Bool)}{t el:TypeId}{ti ei:TI}{y1 y2:Operand}{k1 k2:IntKind}{n:Int}{d:Nat}{x:AV}
 (hg:aV E all o.guard=some ks) (ho:o.op= .makeSlice t y1 y2) (h1:E.ev K.gs ks y1=some (.v (.int k1 n))) (h2:E.ev K.gs ks y2=some (.v (.int k2 n))) (ht:K.S.get t=some ti) (hdd:ti.d= .slice el) (he:K.S.get el=some ei)
 (hsz:Nat.blt 0 ei.size=true) (hlen:Nat.beq ei.zero.length ei.size=true) (hz:uG ei=some x) (hd:o.dst=some d) (hc:bZ K.n E d=true) (h0:0<=n) (hb:(ei.bytes:Int)*n<=140737488355328) (hn:n<=9223372036854775807)
 (next: ∀z,A K (.ops all l::k) ⟨(d, .ms z ei.size n.toNat)::E.us,E.cs⟩ (.row ei.size z (List.replicate n.toNat x)::Λ)):A K (.ops all (o::l)::k) E Λ:=by
 refine ⟨fun h e L hl r q=>?_⟩;obtain ⟨v1,e1,f1⟩:=r.ev (K.hgs.mono hl) _ h1;obtain ⟨v2,e2,f2⟩:=r.ev (K.hgs.mono hl) _ h2;rw [bE] at f1 f2;rw [f1.1] at e1;rw [f2.1] at e2;have hsz':0<ei.size:=by simpa [ah3] using hsz
 refine V.make (C:=K.cfg) (aT r hg) ho e1 e2 ht hdd he hsz' (pW hz) hd (bQ r hc) h0 hb hn fun b=>?_;obtain ⟨z0,g1,g2⟩:=yC (h:=h) hz;have hrep: ∀n,tT h ei.size (List.replicate n x) (List.replicate n z0):=fun n=>by
  have:=D3 g1 (sz:=ei.size) (by rw [g2];exact ab2 hlen) (by rw [g2];exact pW hz) n;have he: ∀n,QQ n x=List.replicate n x:=fun n=>by
   induction n with
   |zero=>rfl |succ n ih=>rw [QQ,ih,ai7]
  rwa [he] at this
 refine (next (.slice (some ⟨b,0,none⟩) n.toNat n.toNat)).run h _ (_::L) hl ⟨r.1.put (kN.2 ⟨rfl,_,_,rfl⟩),r.2⟩
  (.one ⟨_,⟨some ⟨b,0,none⟩,n.toNat,_,by simp,by simp,hrep _,rfl, .inr ⟨b,0,[],rfl,?_,by simp⟩⟩,rfl⟩ q)
 rw [ae3,R0,g2]
theorem A.ax{all:Array Oper}{o:Oper}{l:List Oper}{ks:List (Nat×Bool)}{t el:TypeId}{ti ei:TI}{x ix:Operand}{z:Value}{sz sz' n:Nat}{xs:List AV}{kk:IntKind}{i:Int}{E':aH}
 (hg:aV E all o.guard=some ks) (ho:o.op= .indexAddr t x ix) (hx:E.ev K.gs ks x=some (.ms z sz' n)) (hi:E.ev K.gs ks ix=some (.v (.int kk i))) (ht:K.S.get t=some ti) (hdd:ti.d= .slice el) (he:K.S.get el=some ei) [j:ARow Λ z sz xs]
 (hs:Nat.beq ei.size sz=true) (h0:0<=i) (h1:i<xs.length) (hput:E.put K.n none o.dst (.ep z sz i.toNat)=some E') (next:A K (.ops all l::k) E' Λ):A K (.ops all (o::l)::k) E Λ:=by
 refine ⟨fun h e L hl r q=>?_⟩;have hs:=ab2 hs;obtain ⟨v1,e1,f1⟩:=r.ev (K.hgs.mono hl) _ hx;obtain ⟨v2,e2,f2⟩:=r.ev (K.hgs.mono hl) _ hi;rw [bE] at f2;rw [f2.1] at e2;rw [kN] at f1;obtain ⟨rfl,_⟩:=f1;obtain ⟨M,_,p,⟨a,cap,zs,rfl,g2,g3,g4,g5⟩,_⟩:=q.mem j.mem;rcases g5 with ⟨g5,_⟩|⟨b,off,sp,rfl,rfl,_⟩
 ·subst g5;simp at h1;omega
 ·obtain ⟨e',e4,e5⟩:=cJ r hput (B4.2 ⟨b,off,xs.length,cap,rfl,by omega,rfl⟩);have hiv:sE K.S t (.slice (some ⟨b,off,none⟩) xs.length cap) i=some (.pointer (some ⟨b,off+i.toNat*sz,none⟩),xs.length):=by simp only [sE,ht,hdd,he,hs]
  exact V.fe (C:=K.cfg) (aT r hg) ho e1 e2 hiv e4 h0 h1 (next.run h e' L hl e5 q)
theorem CE: ∀{zs:List Value} {sz i:Nat} {z:Value} {sp:List Value},(∀z,z∈zs->(aI z).length=sz)->zs[i]? =some z->oW (bH zs++sp) (i*sz) sz=some (aI z)
 | [],_,_,_,_,_,h=>by simp at h |y::zs,sz,0,z,sp,hz,h=>by
  injection h with h;subst h;have hlen:=hz y (aa4 ..);simp only [bH,ag2,aq9,ab7];have: ∀(l r:List Value),oW (l++r) 0 l.length=some l:=by
   intro l r
   induction l with
   |nil=>cases r<;>rfl |cons x l ih=>simp only [ae0,ab1,oW,ih]
  rw [<-hlen];exact this _ _
 |y::zs,sz,i+1,z,sp,hz,h=>by
  have hlen:=hz y (aa4 ..);have ih:=CE (zs:=zs) (i:=i) (sp:=sp) (fun x hx=>hz x (aa8 _ hx)) (by simpa using h);have: ∀(l r:List Value) (k n:Nat),oW (l++r) (l.length+k) n=oW r k n:=by
   intro l r k n
   induction l with
   |nil=>simp |cons x l ih=>
    rw [ae0,ab1,show l.length+1+k=(l.length+k)+1 by omega];cases n<;>simpa only [oW] using ih
  simp only [bH,ag2,ab7] at ih⊢;rw [show (i+1)*sz=(aI y).length+i*sz by rw [hlen,aj3];omega,this];exact ih
theorem ER(vs sp:List Value): ∀(l:List Value) (k:Nat) {r:List Value},cS l k vs=some r->cS (l++sp) k vs=some (r++sp):=by
 induction vs with
 |nil=>
  intro l k
  induction l generalizing k with
  |nil=>intro r h;cases k with
   |zero=>simp only [cS] at h;injection h with h;subst h;cases sp<;>rfl |succ k=>simp [cS] at h
  |cons x l ih=>
   intro r h;cases k with
   |zero=>simp only [cS] at h;injection h with h;subst h;rfl |succ k=>
    simp only [cS] at h;split at h
    ·rename_i r' hr';injection h with h;subst h;simp only [ae0,cS,ih k hr']
    ·cases h
 |cons v vs ihv=>
  intro l k
  induction l generalizing k with
  |nil=>intro r h;cases k<;>simp [cS] at h |cons x l ih=>
   intro r h;cases k with
   |zero=>
    simp only [cS] at h;split at h
    ·rename_i r' hr';injection h with h;subst h;simp only [ae0,cS,ihv l 0 hr']
    ·cases h
   |succ k=>
    simp only [cS] at h;split at h
    ·rename_i r' hr';injection h with h;subst h;simp only [ae0,cS,ih k hr']
    ·cases h
def BT(ti:TI)(x:AV):Bool:=match ti.agg with
 |true=>match x with
  | .ag _=>true |_=>false
 |false=>x.one
theorem A.cy{all:Array Oper}{o:Oper}{l:List Oper}{ks:List (Nat×Bool)}{t:TypeId}{p:Operand}{z:Value}{sz sz' i:Nat}{xs:List AV}{ti:TI}{y y':AV}{E':aH}
 (hg:aV E all o.guard=some ks) (ho:o.op= .load t p) (hp:E.ev K.gs ks p=some (.ep z sz' i)) (ht:K.S.get t=some ti) [j:ARow Λ z sz xs] (hs:Nat.beq ti.size sz=true) (hs':Nat.beq sz' sz=true) (hsh:BT ti y'=true)
 (hy:xs[i]? =some y) (hy':y=y') (hput:E.put K.n none o.dst y'=some E') (next:A K (.ops all l::k) E' Λ):A K (.ops all (o::l)::k) E Λ:=by
 subst hy';refine ⟨fun h e L hl r q=>?_⟩;have hs:=ab2 hs;have hs':=ab2 hs';subst hs';obtain ⟨v1,e1,f1⟩:=r.ev (K.hgs.mono hl) _ hp;rw [B4] at f1;obtain ⟨b,off,n,cap,rfl,hin,rfl⟩:=f1;obtain ⟨M,m1,pp,⟨a,cap',zs,g1,g2,g3,g4,g5⟩,rfl⟩:=q.mem j.mem;injection g1 with g1 g1' g1'';subst g1;subst g1';subst g1'';rcases g5 with ⟨g5,_⟩|⟨b',off',sp,g6,rfl,g9⟩
 ·subst g5;simp at hy
 ·injection g6 with g6;injection g6 with g6 g7;subst g6;subst g7;obtain ⟨u,hu,hrp⟩:=g3.rp.at hy;have hsub:=CE (sp:=sp) g3.sz hu;have hld:S1 ti ⟨b,off,bH zs++sp,none⟩ (off+i*sz')=some u:=by
   have hle:Nat.ble off (off+i*sz')=true:=an2 (an7 _ _);unfold S1;simp only [hle,ah5];unfold xE;unfold BT at hsh;cases hag:ti.agg with
   |true=>
    rw [hag] at hsh;simp only at hsh⊢;rw [hs,hsub];split at hsh
    ·rw [eJ] at hrp;obtain ⟨cs,rfl,_⟩:=hrp
     rfl
    ·cases hsh
   |false=>
    rw [hag] at hsh;simp only at hsh⊢;have hone:=hrp.one hsh;have hc1:=eS hone;have hsz1:sz'=1:=by have:=g3.sz u (aa2 hu);rw [hc1] at this;simpa using this.symm
    rw [hsz1,hc1] at hsub;obtain ⟨_,_,h3⟩:=lD _ _ _ hsub;have:=h3 0 (by omega);rw [cC,hsz1];simpa using this.symm
  obtain ⟨e',e4,e5⟩:=cJ r hput hrp;exact V.ah (C:=K.cfg) (aT r hg) ho e1 ht (i:=⟨ac9 _ (m1 _ (aa3.2 T)),rfl⟩) hld e4 (next.run h e' L hl e5 q)
theorem A.cd{all:Array Oper}{o:Oper}{l:List Oper}{ks:List (Nat×Bool)}{t:TypeId}{p y:Operand}{z:Value}{sz sz' i:Nat}{xs xs':List AV}{ti:TI}{v:AV}{Λ':List aF}
 (hg:aV E all o.guard=some ks) (ho:o.op= .store t p y) (hp:E.ev K.gs ks p=some (.ep z sz' i)) (hy:E.ev K.gs ks y=some v) (ht:K.S.get t=some ti) [j:ARow Λ z sz xs] (hs:Nat.beq ti.size sz=true) (hs':Nat.beq sz' sz=true) (hok:LJ ti v=true)
 (hd:o.dst=none) (hi:i<xs.length) (hx:xs.set i v=xs') [u:ARowUp Λ z sz xs xs' Λ'] (next:A K (.ops all l::k) E Λ'):A K (.ops all (o::l)::k) E Λ:=by
 subst hx;refine ⟨fun h e L hl r q=>?_⟩;have hs:=ab2 hs;have hs':=ab2 hs';subst hs';obtain ⟨v1,e1,f1⟩:=r.ev (K.hgs.mono hl) _ hp;obtain ⟨v2,e2,f2⟩:=r.ev (K.hgs.mono hl) _ hy;rw [B4] at f1;obtain ⟨b,off,n,cap,rfl,hin,rfl⟩:=f1;obtain ⟨Λ1,Λ2,d1,d2⟩:=u.split;subst d1;subst d2;obtain ⟨L1,M,L2,rfl,q1,⟨pp,⟨a,cap',zs,g1,g2,g3,g4,g5⟩,rfl⟩,q3⟩:=q.mid;injection g1 with g1 g1' g1'';subst g1;subst g1';subst g1'';rcases g5 with ⟨g5,_⟩|⟨b',off',sp,g6,rfl,g9⟩
 ·subst g5;simp at hi
 ·injection g6 with g6;injection g6 with g6 g7;subst g6;subst g7;obtain ⟨c1,c2,_⟩:=CN hok f2;rw [hs] at c1;obtain ⟨zs',b1,b2⟩:=g3.upd f2 c1 c2 (setA_eq hi);have hst:Q6 ti ⟨b,off,bH zs++sp,none⟩ (off+i*sz') v2=some ⟨b,off,bH zs'++sp,none⟩:=by
   have h1:Nat.beq (aI v2).length ti.size=true:=by rw [c1,hs];simp
   have hle:Nat.ble off (off+i*sz')=true:=an2 (an7 _ _);simp only [Q6,h1,hle,c2,ah5,ER _ sp _ _ b2]
  have i':EntAt ((L1++([⟨b,off,bH zs++sp,none⟩]++L2))++K.G) b ⟨b,off,bH zs++sp,none⟩:=⟨by simp,rfl⟩;have j':EntUp ((L1++([⟨b,off,bH zs++sp,none⟩]++L2))++K.G) b ⟨b,off,bH zs++sp,none⟩ ⟨b,off,bH zs'++sp,none⟩ ((L1++([⟨b,off,bH zs'++sp,none⟩]++L2))++K.G):=⟨L1,L2++K.G,by simp,by simp⟩;have hlen:(xs.set i v).length=xs.length:=List.length_set;exact V.store (C:=K.cfg) (aT r hg) ho e1 e2 ht (i:=i') hst (j:=j') hd (next.run h e _ hl r (kL.fz q1 ⟨_,⟨some ⟨b,off,none⟩,cap,zs',by rw [hlen],by rw [hlen];exact g2,b1,rfl, .inr ⟨b,off,sp,rfl,rfl,by rw [hlen];exact g9⟩⟩,rfl⟩ q3))
theorem dJ.append{h:GH}{sz:Nat}: ∀{hs hs':List (Value×List AV)} {L L':List a6},dJ h sz hs L->dJ h sz hs' L'->dJ h sz (hs++hs') (L++L')
 | [],_,_,_,a,b=>by cases a;exact b |(z,l)::r,_,_,_,⟨p,L1,h1,h2,h3⟩,b=>by subst h1;exact ⟨p,_,rfl,h2,dJ.append h3 b⟩
theorem dJ.split{h:GH}{sz:Nat}: ∀{hs hs':List (Value×List AV)} {L:List a6},dJ h sz (hs++hs') L-> ∃L1 L2,L=L1++L2/\dJ h sz hs L1/\dJ h sz hs' L2
 | [],_,L,a=>⟨[],L,rfl,rfl,a⟩ |(z,l)::r,_,_,⟨p,L1,h1,h2,h3⟩=>by obtain ⟨L2,L3,g1,g2,g3⟩:=dJ.split h3;subst h1;subst g1;exact ⟨p::L2,L3,rfl,⟨p,L2,rfl,h2,g2⟩,g3⟩
theorem A.ia{Λ':List aF}(hq: ∀h L,kL h Λ L-> ∃L',kL h Λ' L'/\L.Perm L')(next:A K k E Λ'):A K k E Λ:=by refine ⟨fun h e L hl r q=>?_⟩;obtain ⟨L',q1,q2⟩:=hq h L q;exact V.perm (q2.append_right _) (next.run h e L' hl r q1)
end
end Go.Tp
namespace Go.Tp
open Go Go.RowKit
def J7(op:BinOp)(k:IntKind)(a b:Int):Int:=match op with
 | .shl=>k.wrap (a*2^(min b.toNat k.bits)) | .shr=>a.fdiv (2^(min b.toNat k.bits))
 | .quo=>k.wrap (a.tdiv b) |_=>a.tmod b
def IZ:BinOp->Bool
 | .shl=>true | .shr=>true
 |_=>false
def isDiv:BinOp->Bool
 | .quo=>true | .rem=>true
 |_=>false
theorem G7{P:Program}{w:World}{op:BinOp}{t:TypeId}{x y:Operand}{k k':IntKind}{a b:Int}(ho:IZ op=true)(hb:0<=b):
 (do eqGuard op t x y (.int k a) (.int k' b);binOp op t (.int k a) (.int k' b):Sem Value).run P w= .ok (.int k (J7 op k a b)) w:=by
 rw [aa9,fN T,aa5];have h1: ¬b<0:=by omega
 cases op<;>first|(exact absurd ho (by decide))|(simp only [binOp,Op.shift,iF h1];rfl)
theorem QU{P:Program}{w:World}{op:BinOp}{t:TypeId}{x y:Operand}{k k':IntKind}{a b:Int}(ho:isDiv op=true)(hk:ikEq k k'=true)(hb:b≠0):
 (do eqGuard op t x y (.int k a) (.int k' b);binOp op t (.int k a) (.int k' b):Sem Value).run P w= .ok (.int k (J7 op k a b)) w:=by
 rw [aa9,fN T,aa5];have hk:=SP hk;subst hk;cases op<;>first|(exact absurd ho (by decide))|(simp only [binOp,ne_eq,not_true_eq_false,if_false,Op.intDiv,iF hb];rfl)
section
variable{K:AC}{k:List It}{E:aH}{Λ:List aF}
theorem A.shift{all:Array Oper}{o:Oper}{l:List Oper}{ks:List (Nat×Bool)}{op:BinOp}{t ty:TypeId}{x y:Operand}{k1 k2:IntKind}{a b:Int}{E':aH}
 (hg:aV E all o.guard=some ks) (ho:o.op= .binOp op t x y ty) (hs:IZ op=true) (hx:E.ev K.gs ks x=some (.v (.int k1 a))) (hy:E.ev K.gs ks y=some (.v (.int k2 b)))
 (hput:E.put K.n none o.dst (.v (.int k1 (J7 op k1 a b)))=some E') (hb:0<=b) (next:A K (.ops all l::k) E' Λ):A K (.ops all (o::l)::k) E Λ:=
 A.bg hg (fun h e L hl r q=>by obtain ⟨v1,e1,f1⟩:=r.ev (K.hgs.mono hl) _ hx;obtain ⟨v2,e2,f2⟩:=r.ev (K.hgs.mono hl) _ hy;rw [bE] at f1 f2;rw [f1.1] at e1;rw [f2.1] at e2;refine ⟨_,bE.2 ⟨rfl,rfl⟩,fun ac w g s hk=>?_⟩;have:=G7 (P:=K.P) (w:=w) (t:=t) (x:=x) (y:=y) (k:=k1) (k':=k2) (a:=a) hs hb;unfold execOp;rw [ho];simp only [aa9] at this;simp only [g.ev hk e1,g.ev hk e2,aa9,this,aa5,ab5]) hput next
theorem A.fw{all:Array Oper}{o:Oper}{l:List Oper}{ks:List (Nat×Bool)}{op:BinOp}{t ty:TypeId}{x y:Operand}{k1 k2:IntKind}{a b:Int}{E':aH}
 (hg:aV E all o.guard=some ks) (ho:o.op= .binOp op t x y ty) (hs:isDiv op=true) (hx:E.ev K.gs ks x=some (.v (.int k1 a))) (hy:E.ev K.gs ks y=some (.v (.int k2 b))) (hk12:ikEq k1 k2=true)
 (hput:E.put K.n none o.dst (.v (.int k1 (J7 op k1 a b)))=some E') (hb:b≠0) (next:A K (.ops all l::k) E' Λ):A K (.ops all (o::l)::k) E Λ:=
 A.bg hg (fun h e L hl r q=>by obtain ⟨v1,e1,f1⟩:=r.ev (K.hgs.mono hl) _ hx;obtain ⟨v2,e2,f2⟩:=r.ev (K.hgs.mono hl) _ hy;rw [bE] at f1 f2;rw [f1.1] at e1;rw [f2.1] at e2;refine ⟨_,bE.2 ⟨rfl,rfl⟩,fun ac w g s hk=>?_⟩;have:=QU (P:=K.P) (w:=w) (t:=t) (x:=x) (y:=y) (a:=a) hs hk12 hb;unfold execOp;rw [ho];simp only [aa9] at this;simp only [g.ev hk e1,g.ev hk e2,aa9,this,aa5,ab5]) hput next
theorem A.ar{c:Code}{ι:Type}(I:ι->aH×List aF)(Pr:ι->Prop)(μ:ι->Nat)
 (i:ι) (hp:Pr i) (he:I i=(E,Λ)) (round: ∀i,Pr i->(∀j,Pr j->μ j<μ i->A K (.inLoop c::k) (I j).1 (I j).2)->A K (.code c:: .inLoop c::k) (I i).1 (I i).2):A K (.code (.loop c)::k) E Λ:=
 A.loop (ι:={i // Pr i}) (fun i=>I i.1) (fun i=>μ i.1) (fun i ih=>round i.1 i.2 fun j hj hm=>ih ⟨j,hj⟩ hm) ⟨i,hp⟩ he
theorem A.ey{all:Array Oper}{o:Oper}{l:List Oper}{ks:List (Nat×Bool)}{op:BinOp}{t ty el:TypeId}{ti:TI}{x:Operand}{sz:Nat}{xs:List AV}{own:Option Value}{d:Nat}
 (hg:aV E all o.guard=some ks) (ho:o.op= .binOp op t x (.const (.slice none 0 0)) ty) (hop:op= .eql) (hx:E.ev K.gs ks x=some (.sl sz xs own)) (ht:K.S.get t=some ti) (hdd:ti.d= .slice el) (hd:o.dst=some d) (hc:bZ K.n E d=true)
 (next: ∀b,(b=true->xs=[])->A K (.ops all l::k) ⟨(d, .v (.bool b))::E.us,E.cs⟩ Λ):A K (.ops all (o::l)::k) E Λ:=by
 refine ⟨fun h e L hl r q=>?_⟩;obtain ⟨v1,e1,f1⟩:=r.ev (K.hgs.mono hl) _ hx;rw [cU] at f1;obtain ⟨a,cap,rfl,_,_,h4⟩:=f1;subst hop
 refine V.bg (C:=K.cfg) (v:= .bool a.isNone) (aT r hg) (fun ac w g s hk=>?_) (by rw [hd];exact f8 (bQ r hc))
  ((next a.isNone fun hb=>?_).run h ⟨(d, .bool a.isNone)::e.us,e.cs⟩ L hl ⟨r.1.put (bE.2 ⟨rfl,rfl⟩),r.2⟩ q)
 ·have ok:=TT.Ok.get K.ok ht;have:=Lib.run_eql_slice_nil (P:=K.P) w t el a xs.length cap 0 0 (by rw [ok.und,hdd]);unfold execOp;rw [ho];have e3:ac.eval (.const (.slice none 0 0))= .slice none 0 0:=rfl;have hgd:(eqGuard .eql t x (.const (.slice none 0 0)) (.slice a xs.length cap) (.slice none 0 0)).run K.P w= .ok () w:=fN T;show aq2 K.P _ w=_;simp only [g.ev hk e1,e3,aa9,hgd,this,aa5,ab5]
 ·by_cases hn:xs=[]
  ·exact hn
  ·obtain ⟨b,off,rfl,_⟩:=h4 hn;cases hb
theorem A.fq{all:Array Oper}{o:Oper}{l:List Oper}{ks:List (Nat×Bool)}{t el:TypeId}{ti ei:TI}{d:Nat}
 (hg:aV E all o.guard=some ks) (ho:o.op= .buildSlice t 0 #[]) (ht:K.S.get t=some ti) (hdd:ti.d= .slice el) (he:K.S.get el=some ei) (hd:o.dst=some d) (hc:bZ K.n E d=true)
 (next: ∀b,A K (.ops all l::k) ⟨(d, .sl ei.size [] (some (.slice (some ⟨b,0,none⟩) 0 0)))::E.us,E.cs⟩ Λ):A K (.ops all (o::l)::k) E Λ:=by
 refine ⟨fun h e L hl r q=>?_⟩;refine V.gives (C:=K.cfg) (aT r hg) hd (bQ r hc) fun ac w g s hk=>?_;have ok:=TT.Ok.get K.ok ht;have oke:=TT.Ok.get K.ok he;obtain ⟨xi,zv,hxi,hxs,hxb,hxz,hzl⟩:=oke.info;have hund:K.P.underlying t=some (.slice el):=by rw [ok.und,hdd]
 refine ⟨.slice (some ⟨w.heap.size,0,none⟩) 0 0,_,h,L++K.G,?_,(s.alloc #[] el T).tail,(next w.heap.size).run h _ L hl ⟨r.1.put (cU.2 ⟨_,0,rfl,aa6 _,rfl,fun hn=>(hn T).elim⟩),r.2⟩ q⟩;unfold execOp;rw [ho];show aq2 K.P _ w=_;simp [Instr.buildSlice,Go.run_underlying hund,sizeOf,typeInfo,hxi,Instr.fill,newRow,Array.range_zero']
end
section
variable{K:AC}{all:Array Oper}{m:Nat}{k:List It}{pubs:Nat->List Nat}{Y:Ua}{π:List Nat}{E:aH}{Λ:List aF}{D:Da}
theorem kd_bin{o:Oper}{op:BinOp}{t ty:TypeId}{x y:Operand}(ho:o.op= .binOp op t x y ty):kd o= .qt:=by unfold kd;rw [ho]
theorem WA.shift{i:Nat}{o:Oper}{ks:List (Nat×Bool)}{op:BinOp}{t ty:TypeId}{x y:Operand}{k1 k2:IntKind}{a b:Int}{E':aH}(hi:bU all.toList i=some o)
 (hg:aV E all o.guard=some ks) (ho:o.op= .binOp op t x y ty) (hs:IZ op=true) (hx:E.ev K.gs ks x=some (.v (.int k1 a))) (hy:E.ev K.gs ks y=some (.v (.int k2 b)))
 (hput:E.put K.n none o.dst (.v (.int k1 (J7 op k1 a b)))=some E') (hb:0<=b) (next:WA K all m k pubs Y π E' Λ D):WA K all m k pubs Y (i::π) E Λ D:=by
 refine ⟨fun h e L Es hl r q d=>?_⟩;obtain ⟨v1,e1,f1⟩:=r.ev (K.hgs.mono hl) _ hx;obtain ⟨v2,e2,f2⟩:=r.ev (K.hgs.mono hl) _ hy;rw [bE] at f1 f2;rw [f1.1] at e1;rw [f2.1] at e2;obtain ⟨e',e4,e5⟩:=cJ r hput (bE.2 ⟨rfl,rfl⟩);exact WE.bg (G:=cG K.cfg all (L++K.G) pubs (YA Y) m k) hi (kd_bin ho) (aT r hg) (fun ac w E0 g s hk=>by have:=G7 (P:=K.cfg.P) (w:=w) (t:=t) (x:=x) (y:=y) (k:=k1) (k':=k2) (a:=a) hs hb;unfold execOp;rw [ho];simp only [aa9] at this;simp only [g.ev hk e1,g.ev hk e2,aa9,this,aa5,ab5]) e4 (next.run h e' L Es hl e5 q d)
end
end Go.Tp
namespace Go.Tp
open Go
variable{K:AC}{k:List It}{E:aH}{Λ:List aF}
def gM{ι:Type}(P:Program)(gs:Ua)(f:FuncId)(args:List AV)(Λ:List aF)(X:ι->AV)(LL:ι->List aF)(Pr:ι->Prop):Prop:=lI P gs f args Λ fun x Λ'=> ∃i,Sb x (X i)/\Λ'=LL i/\Pr i
theorem A.jk{ι:Type}{X:ι->AV}{LL:ι->List aF}{Pr:ι->Prop}{all:Array Oper}{o:Oper}{l:List Oper}{ks:List (Nat×Bool)}{x:Operand}{args:Array Operand}{ts:Array TypeId}{f:FuncId}{fst cap vs args':List AV}{Λ1 Λ2:List aF}{d:Nat}
 (hg:aV E all o.guard=some ks) (ho:o.op= .call ⟨.value x,args,ts⟩) (hx:E.ev K.gs ks x=some (.fn f fst cap)) (ha:rG (E.ev K.gs ks) args.toList=some vs)
 (hd:o.dst=some d) (hc:bZ K.n E d=true) (hf:gM K.P K.gs f args' Λ1 X LL Pr) (hs:fO (fst++(vs++cap)) args') (hp:Λ.Perm (Λ1++Λ2))
 (next: ∀i,Pr i->A K (.ops all l::k) ⟨(d,X i)::E.us,E.cs⟩ (LL i++Λ2)):A K (.ops all (o::l)::k) E Λ:=
 have hf':lI K.P K.gs f args' Λ1 fun x Λ'=> ∃i,x=X i/\Λ'=LL i/\Pr i:=fun w0 h vs L F g r q=>
  (hf w0 h vs L F g r q).mono fun _ _ _ ⟨x,Λ',L1,⟨i,e1,e2,e3⟩,q2,q3⟩=>⟨X i,Λ',L1,⟨i,rfl,e2,e3⟩,e1.rp q2,q3⟩
 A.call hg ho hx ha hd hc hf' hs hp fun y Λ' ⟨i,e1,e2,e3⟩=>by subst e1;subst e2;exact next i e3
theorem A.au{Λ':List aF}(h:Λ=Λ')(next:A K k E Λ'):A K k E Λ:=by subst h;exact next
theorem A.fc(t:Nat)(sz:Nat)(hx:bJ E.us t=some (.v (.slice none 0 0)))(next: ∀z,A K k ⟨(t, .ms z sz 0)::E.us,E.cs⟩ (.row sz z []::Λ)):A K k E Λ:=by
 refine ⟨fun h e L hl r q=>?_⟩;rcases r.1.look t with ⟨y,v,e1,e2,e3⟩|⟨e1,e2⟩
 ·rw [hx] at e1;injection e1 with e1;subst e1;rw [bE] at e3;have e4:=e3.1;subst e4;have hr0: ∃p,rS h sz (.slice none 0 0) [] p/\[(⟨0,0,[],none⟩:a6)]=[p]:=⟨⟨0,0,[],none⟩,⟨none,0,[],rfl,Nat.zero_le _,⟨(by rw [aQ]),(fun z hz=>by cases hz),(fun z hz=>by cases hz)⟩,rfl, .inl ⟨rfl,rfl,rfl,fun y hy=>by cases hy⟩⟩,rfl⟩;refine V.empty ?_;refine V.val t e2 T ((next (.slice none 0 0)).run h ⟨(t, .slice none 0 0)::e.us,e.cs⟩ (⟨0,0,[],none⟩::L) hl ⟨r.1.put (kN.2 ⟨rfl,none,0,rfl⟩),r.2⟩ (.one hr0 q))
 ·rw [hx] at e1;cases e1
theorem A.je(sz:Nat)(next:A K k E (.rows sz []::Λ)):A K k E Λ:=A.ia (Λ':= .rows sz []::Λ) (fun h L q=>⟨L,⟨[],L,rfl,rfl,q⟩, .refl _⟩) next
theorem A.iq{sz:Nat}{z:Value}{l:List AV}{hs:List (Value×List AV)}{Λ':List aF}(hp:Λ.Perm (.row sz z l:: .rows sz hs::Λ'))(next:A K k E (.rows sz (hs++[(z,l)])::Λ')):A K k E Λ:=by refine A.perm hp (A.ia (fun h L q=>?_) next);obtain ⟨L1,L2,rfl,⟨p,q1,rfl⟩,⟨L3,L4,rfl,q2,q3⟩⟩:=q;refine ⟨(L3++[p])++L4,⟨_,_,rfl,dJ.append q2 ⟨p,[],rfl,q1,rfl⟩,q3⟩,?_⟩;rw [ab7];exact (ae8 (l₁:=L3) (a:=p) (l₂:=L4)).symm
theorem A.ja(i:Nat){sz:Nat}{z:Value}{l:List AV}{hs:List (Value×List AV)}{Λ':List aF}(hi:hs[i]? =some (z,l))(hp:Λ.Perm (.rows sz hs::Λ'))(next:A K k E (.row sz z l:: .rows sz (hs.take i):: .rows sz (hs.drop (i+1))::Λ')):A K k E Λ:=by
 refine A.perm hp (A.ia (fun h L q=>?_) next);obtain ⟨L1,L2,rfl,q1,q2⟩:=q;have hh:hs=hs.take i++(z,l)::hs.drop (i+1):=by obtain ⟨hlt,rfl'⟩:=List.getElem?_eq_some_iff.1 hi;rw [<-rfl',List.getElem_cons_drop,List.take_append_drop]
 have q1:dJ h sz hs L1:=q1;rw [hh] at q1;obtain ⟨L3,L4,rfl,g1,⟨p,L5,rfl,g2,g3⟩⟩:=dJ.split q1;refine ⟨p::(L3++(L5++L2)),⟨[p],_,rfl,⟨p,g2,rfl⟩,⟨L3,_,rfl,g1,⟨L5,L2,rfl,g3,q2⟩⟩⟩,?_⟩;rw [ab7];exact ae8
theorem A.im{sz:Nat}{z:Value}{l:List AV}{a b:List (Value×List AV)}{Λ':List aF}(hp:Λ.Perm (.row sz z l:: .rows sz a:: .rows sz b::Λ'))(next:A K k E (.rows sz (a++(z,l)::b)::Λ')):A K k E Λ:=by refine A.perm hp (A.ia (fun h L q=>?_) next);obtain ⟨L1,L2,rfl,⟨p,q1,rfl⟩,⟨L3,L4,rfl,q2,⟨L5,L6,rfl,q3,q4⟩⟩⟩:=q;refine ⟨(L3++(p::L5))++L6,⟨_,_,rfl,dJ.append q2 ⟨p,L5,rfl,q1,q3⟩,q4⟩,?_⟩;rw [ab7];exact (ae8 (l₁:=L3) (a:=p) (l₂:=L5++L6)).symm
abbrev uA(sz:Nat)(hs:List (Value×List AV)):List AV:=hs.map fun p=> .ms p.1 sz p.2.length
abbrev slL(sz:Nat)(hs:List (Value×List AV)):List AV:=hs.map fun p=> .sl sz p.2 none
theorem rS.frozen{h:GH}{sz:Nat}{z:Value}{l:List AV}{p:a6}(q:rS h sz z l p)(hle:h.le (h.add p.b p.lo p.cs)):Rp (h.add p.b p.lo p.cs) (.sl sz l none) z:=by
 obtain ⟨a,cap,zs,rfl,g2,g3,g4,g5⟩:=q;rw [cU];refine ⟨a,cap,rfl,g2,trivial,fun hn=>?_⟩;rcases g5 with ⟨g5,_⟩|⟨b,o,sp,rfl,rfl,_⟩
 ·exact (hn g5).elim
 ·exact ⟨b,o,rfl,uI (g3.rp.mono hle) g3.sz (iB.left fun i u hu=>GH.cr h b o _ hu)⟩
theorem ms_sl{h:GH}{sz:Nat}: ∀{hs:List (Value×List AV)} {zs:List Value},dM h (uA sz hs) zs->(∀p,p∈hs->Rp h (.sl sz p.2 none) p.1)->dM h (slL sz hs) zs
 | [],zs,q,_=>q |(z,l)::r,zs,q,hr=>by rw [uA,ac8,aG] at q;obtain ⟨v,vs,rfl,q1,q2⟩:=q;rw [kN] at q1;rw [slL,ac8,aG];refine ⟨v,vs,rfl,?_,ms_sl q2 fun p hp=>hr p (aa8 _ hp)⟩;rw [q1.1];exact hr (z,l) (aa4 ..)
end Go.Tp
namespace Go.Tp
open Go
theorem St.fa{w0 w:World}{sz:Nat}{L2:List a6}: ∀{hs:List (Value×List AV)} {L1:List a6} {h:GH},dJ h sz hs L1->St w0 h (L1++L2) w->
 ∃h',h.le h'/\St w0 h' L2 w/\ ∀p,p∈hs->Rp h' (.sl sz p.2 none) p.1
 | [],L1,h,q,s=>by have q:L1=[]:=q;subst q;exact ⟨h,GH.le_refl _,s,fun p hp=>by cases hp⟩
 |(z,l)::r,_,h,⟨⟨b,lo,cs,obj⟩,L',rfl,q1,q2⟩,s=>by
  obtain ⟨h',g1,g2,g3⟩:=St.fa (q2.mono s.dc) s.bu;refine ⟨h',GH.le_trans s.dc g1,g2,fun p hp=>?_⟩;rcases ab0.1 hp with rfl|hp
  ·exact (q1.frozen s.dc).mono g1
  ·exact g3 p hp
theorem lI.rows{P:Program}{gs:Ua}{f:FuncId}{args:List AV}{l:List AV}{sz szo:Nat}
 (hf:lI P gs f args [] fun x Λ'=> ∃z hs n,Sb x (.ms z szo n)/\Λ'=[.rows sz hs, .row szo z (uA sz hs)]/\slL sz hs=l):Pure P gs f args (.sl szo l none):=by
 intro w0 h vs L F g r q;have hd:=hf w0 h vs L F g r q;refine ⟨hd.1,fun w s=>(hd.2 w s).mono fun _ w2 ⟨v,h',L',e1,⟨x,Λ',L1,⟨z,hs,n,q1,q2,q3⟩,e2,e3,e4,e5⟩,s'⟩=>?_⟩;subst q2;subst q3;subst e5;obtain ⟨M1,L2,rfl,m1,⟨M2,L3,rfl,⟨p,m2,rfl⟩,m3⟩⟩:=e4;have m3:L3=[]:=m3;subst m3;have hz:=(kN.1 (q1.rp e2)).1;subst hz;rw [ab7] at s';obtain ⟨h1,g1,g2,g3⟩:=St.fa m1 s';obtain ⟨a,cap,zs,rfl,k2,k3,k4,k5⟩:=m2;obtain ⟨pb,plo,pcs,pobj⟩:=p;simp only at k4;subst k4;have hll:(slL sz hs).length=(uA sz hs).length:=by rw [slL,uA,aa0,aa0]
 have q5:rS h1 szo (.slice a (uA sz hs).length cap) (slL sz hs) ⟨pb,plo,pcs,none⟩:=by
  refine ⟨a,cap,zs,by rw [hll],by rw [hll];exact k2,⟨ms_sl (k3.rp.mono g1) g3,k3.sz,k3.one⟩,rfl,?_⟩;rcases k5 with ⟨k5,k6⟩|k5
  ·exact .inl ⟨ad0.1 (by rw [hll,k5];rfl),k6⟩
  ·rw [hll];exact .inr k5
 have g2:St w0 h1 (⟨pb,plo,pcs,none⟩::F) w2:=by simpa using g2
 refine ⟨_,_,F,e1,⟨_,[],[],⟨rfl,rfl⟩,q5.frozen g2.dc,GH.le_trans e3 (GH.le_trans g1 g2.dc),rfl,rfl⟩,g2.bu⟩
theorem A.dr{K:AC}{k:List It}{E:aH}{Λ:List aF}(t sz:Nat)(hx:bJ E.us t=some (.v (.slice none 0 0)))(next:A K k ⟨(t, .sl sz [] (some (.slice none 0 0)))::E.us,E.cs⟩ (.tail sz (.slice none 0 0)::Λ)):A K k E Λ:=by
 refine ⟨fun h e L hl r q=>?_⟩;rcases r.1.look t with ⟨y,v,e1,e2,e3⟩|⟨e1,e2⟩
 ·rw [hx] at e1;injection e1 with e1;subst e1;rw [bE] at e3;have e4:=e3.1;subst e4;have hr0: ∃p,Tl sz (.slice none 0 0) p/\[(⟨0,0,[],none⟩:a6)]=[p]:=⟨_,Tl.nil sz,rfl⟩;refine V.empty ?_;refine V.val t e2 T (next.run h ⟨(t, .slice none 0 0)::e.us,e.cs⟩ (⟨0,0,[],none⟩::L) hl ⟨r.1.put (cU.2 ⟨none,0,rfl,aa6 _,rfl,fun hn=>(hn T).elim⟩),r.2⟩ (.one hr0 q))
 ·rw [hx] at e1;cases e1
end Go.Tp
namespace Go.Tp
open Go Go.RowKit
section
variable{C:nY}{k:List It}{e:Env}{h:GH}{L:List a6}
theorem D9{P:Program}{S:TT}(hS:S.Ok P){w0 w:World}{h:GH}{L:List a6}{t el ty:TypeId}{ti ei:TI}{v2:Value}{c2:List Value}(a:Option Addr)(ha: ∀x,a=some x->x.spot=none)
 (ht:S.get t=some ti) (hd:ti.d= .slice el) (he:S.get el=some ei) (hsz:0<ei.size) (hz1:aP ei.zero=true)
 (s:St w0 h L w) (a2:Sl h ei.size v2 c2) (hb:c2.length<=281474976710656) (hby:c2.length*ei.bytes<=140737488355328):
 ∃v' w' p,(Builtin.append_ #[t,t] ty #[.slice a 0 0,v2]).run P w= .ok v' w'/\St w0 h (p::L) w'/\p.obj=none/\
  ∃a' n cap,v'= .slice a' n cap/\n<=cap/\c2.length=n*ei.size/\((c2=[]/\p.cs=[]/\cap=0/\ ∀y,a'=some y->y.spot=none)\/ ∃b sp,a'=some ⟨b,0,none⟩/\p=⟨b,0,c2++sp,none⟩/\sp.length=(cap-n)*ei.size):=by
 have ok:=TT.Ok.get hS ht;have oke:=TT.Ok.get hS he;obtain ⟨xi,zv,hxi,hxs,hxb,hxz,hzl⟩:=oke.info;have hund:P.underlying t=some (.slice el):=by rw [ok.und,hd]
 have one2:=Sl.one s hsz a2;obtain ⟨b2,n2,cap2,e2,hle2,hn2,hat2⟩:=a2;subst e2;have hl2:n2<=c2.length:=by rw [hn2];exact Nat.le_mul_of_pos_right _ hsz
 have hz:Builtin.zeroCells zv.cells=fun n=>⟨(List.replicate n ei.zero).flatten⟩:=by funext n;rw [show zv.cells=⟨ei.zero⟩ from by rw [<-hzl]];refine mW _ _ ?_;intro e;have:=oke.len;rw [e] at this;simp at this;omega
 rcases ah0 n2 with h20|h2p
 ·subst h20;have hc2:c2=[]:=ad0.1 (by simpa using hn2);subst hc2;refine ⟨.slice a 0 0,w,⟨0,0,[],none⟩,?_,U9 s _ T T,rfl,a,0,0,rfl,aa6 _,by simp, .inl ⟨rfl,rfl,rfl,ha⟩⟩;have hf: ∀w':World,(Builtin.firstCells xi.size 0 (.slice b2 0 cap2)).run P w'= .ok #[] w':=fun w'=>by cases b2<;>simp [Builtin.firstCells,loadCells,loadCellsFrom]
  cases a with
  |none=>simp [Builtin.append_,Go.run_underlying hund,sizeOf,typeInfo,hxi,Builtin.lenOf,hf] |some a=>simp [Builtin.append_,Go.run_underlying hund,sizeOf,typeInfo,hxi,Builtin.lenOf,hf,storeCells]
 ·obtain ⟨b,o2,rfl,y2⟩:=hat2 h2p;have hnews: ∀j u,c2[j]? =some u->w.cell? ((⟨b,o2,none⟩:Addr).add j)=some u:=fun j u hu=>by rw [eA];exact s.imm _ _ _ (y2 j u hu)
  have hfin: ∀(nc:Nat),n2<=nc-> ∀arr:Array Value,arr=⟨c2++(List.replicate (nc-n2) ei.zero).flatten⟩->
   St w0 h (⟨w.heap.size,0,c2++(List.replicate (nc-n2) ei.zero).flatten,none⟩::L) (w.drew.alloc (.cells arr el)):=fun nc _ arr harr=>by
   have honer: ∀v,v∈(List.replicate (nc-n2) ei.zero).flatten->iJ v=true:=fun v hv=>by obtain ⟨l,hl,hvl⟩:=aj5.1 hv;have:=(ap1.1 hl).2;subst this;exact dP hz1 v hvl
   have:=s.drew.alloc arr el (by rw [harr];exact mX (lK one2 honer));rw [harr] at this⊢;exact this
  cases a with
  |none=>
   have hr:=run_append_nil (P:=P) w t ty el xi zv hund hxi hxz ⟨b,o2,none⟩ n2 cap2 c2 (by rw [hxs];exact hn2) hnews h2p (by omega) (by rw [hxb];have:n2*ei.bytes<=c2.length*ei.bytes:=af5 _ hl2;omega)
   exact ⟨_,_,_,hr,hfin (grownCap w n2 0 el) (grownCap_ge ..) _ (by rw [hz];apply ag4;simp),rfl,_,_,_,rfl,grownCap_ge ..,hn2, .inr ⟨_,_,rfl,rfl,by simp only [ar1,ao9,ap5,oke.len]⟩⟩
  |some x=>
   obtain ⟨bb,o,sp⟩:=x;have:=ha _ T;simp only at this;subst this;have hr:=run_append_grow (P:=P) w t ty el xi zv hund hxi hxz ⟨bb,o,none⟩ 0 0 [] (by simp) (fun j u hu=>by simp at hu) ⟨b,o2,none⟩ n2 cap2 c2 (by rw [hxs];exact hn2) hnews (by omega) (by omega) (growslice_fits (by omega) (by rw [hxb];have:(0+n2)*ei.bytes<=c2.length*ei.bytes:=af5 _ (by omega);omega))
   rw [Nat.zero_add] at hr;exact ⟨_,_,_,hr,hfin (grownCap w n2 0 el) (grownCap_ge ..) _ (by rw [hz];apply ag4;simp),rfl,_,_,_,rfl,grownCap_ge ..,hn2, .inr ⟨_,_,rfl,rfl,by simp only [ar1,ao9,ap5,oke.len]⟩⟩
theorem V.bq{all:Array Oper}{o:Oper}{l:List Oper}{ks:List (Nat×Bool)}{y1 y2:Operand}{t el:TypeId}{ti ei:TI}{a:Option Addr}{v2:Value}{c2:List Value}{d:Nat}(ha: ∀x,a=some x->x.spot=none)
 (hg:fX e all o.guard=some ks) (ho:o.op= .call ⟨.builtin .append, #[y1,y2], #[t,t]⟩) (h1:e.ev ks y1=some (.slice a 0 0)) (h2:e.ev ks y2=some v2)
 (ht:C.S.get t=some ti) (hd:ti.d= .slice el) (he:C.S.get el=some ei) (hsz:0<ei.size) (hz1:aP ei.zero=true) (hdst:o.dst=some d) (hc:eY C.n e d=true)
 (a2:Sl h ei.size v2 c2) (hb:c2.length<=281474976710656) (hby:c2.length*ei.bytes<=140737488355328)
 (next: ∀p a' n cap,p.obj=none->n<=cap->c2.length=n*ei.size->((c2=[]/\p.cs=[]/\cap=0/\ ∀y,a'=some y->y.spot=none)\/ ∃b sp,a'=some ⟨b,0,none⟩/\p=⟨b,0,c2++sp,none⟩/\sp.length=(cap-n)*ei.size)->
   V C (.ops all l::k) ⟨(d, .slice a' n cap)::e.us,e.cs⟩ h (p::L)):V C (.ops all (o::l)::k) e h L:=
 V.gives hg hdst hc fun ac w g s hk=>by
  obtain ⟨v',w',p,r1,r2,r3,a',n,cap,rfl,r4,r5,r6⟩:=D9 (ty:=o.type) C.ok a ha ht hd he hsz hz1 s a2 hb hby
  refine ⟨_,w',h,_,?_,r2,next p a' n cap r3 r4 r5 r6⟩;unfold execOp;rw [ho];simp [resolve,invoke,builtin,g.ev hk h1,g.ev hk h2,r1]
end
section
variable{K:AC}{k:List It}{E:aH}{Λ:List aF}
theorem A.bq{all:Array Oper}{o:Oper}{l:List Oper}{ks:List (Nat×Bool)}{y1 y2:Operand}{t el:TypeId}{ti ei:TI}{x1 x2:AV}{l1 l2:List AV}{a:Option Addr}{own2:Option Value}{d:Nat}
 (hg:aV E all o.guard=some ks) (ho:o.op= .call ⟨.builtin .append, #[y1,y2], #[t,t]⟩) (h1:E.ev K.gs ks y1=some x1) (h2:E.ev K.gs ks y2=some x2)
 (ht:K.S.get t=some ti) (hdd:ti.d= .slice el) (he:K.S.get el=some ei) (s1:nX ei.size x1=some (l1,some (.slice a 0 0))) (s2:nX ei.size x2=some (l2,own2))
 (hsz:Nat.blt 0 ei.size=true) (hz1:aP ei.zero=true) (hd:o.dst=some d) (hc:bZ K.n E d=true)
 (hb:l2.length*ei.size<=281474976710656) (hby:l2.length*ei.size*ei.bytes<=140737488355328) (ha: ∀x,a=some x->x.spot=none) (hone: ∀(h:GH) zs,dM h l2 zs-> ∀z,z∈zs->aP (aI z)=true)
 (next: ∀z,A K (.ops all l::k) ⟨(d, .ms z ei.size l2.length)::E.us,E.cs⟩ (.row ei.size z l2::Λ)):A K (.ops all (o::l)::k) E Λ:=by
 refine ⟨fun h e L hl r q=>?_⟩;obtain ⟨v1,e1,f1⟩:=r.ev (K.hgs.mono hl) _ h1;obtain ⟨v2,e2,f2⟩:=r.ev (K.hgs.mono hl) _ h2;have f1:=jC s1 f1;have f2:=jC s2 f2;have hown:v1= .slice a 0 0:=by rw [cU] at f1;obtain ⟨_,_,_,_,h3,_⟩:=f1;exact h3
 subst hown;obtain ⟨zs2,b1,b2,b3⟩:=xP f2;have hsz':0<ei.size:=by simpa [ah3] using hsz
 have hlen:(bH zs2).length=l2.length*ei.size:=by rw [jV b2,b1.len]
 refine V.bq (C:=K.cfg) ha (aT r hg) ho e1 e2 ht hdd he hsz' hz1 hd (bQ r hc) b3 (by rw [hlen];exact hb) (by rw [hlen];exact hby) ?_;intro p a' n cap p1 p2 p3 p4;have hn:n=l2.length:=al3 hsz' (by rw [<-p3,hlen]);subst hn;refine (next (.slice a' l2.length cap)).run h _ (p::L) hl ⟨r.1.put (kN.2 ⟨rfl,_,_,rfl⟩),r.2⟩ (.one ⟨p,⟨a',cap,zs2,rfl,p2,⟨b1,b2,hone h zs2 b1⟩,p1,?_⟩,rfl⟩ q);rcases p4 with ⟨p5,p6⟩|⟨b,sp,p5,p6,p7⟩
 ·left;refine ⟨?_,p6⟩;rw [p5] at hlen;have:l2.length=0:=by
   rcases ah0 l2.length with h|h
   ·exact h
   ·have:=Nat.mul_pos h hsz';simp at hlen;omega
  exact ad0.1 this
 ·exact .inr ⟨b,0,sp,p5,p6,p7⟩
end
end Go.Tp
namespace Go.Tp
open Go
def a6.has(p:a6)(b o:Nat):Prop:=p.b=b/\p.lo<=o/\o<p.lo+p.cs.length
open Classical in
noncomputable def GH.less (h:GH) (L:List a6):GH:=fun b o=>if∃p,p∈L/\p.has b o then none else h b o
def zU(h:GH)(L:List a6):Prop:= ∀p,p∈L->iB h p.b p.lo p.cs
section
variable{w0 w w':World}{h h' h'':GH}
theorem St.fu: ∀{L1 L2:List a6} {h:GH},St w0 h (L1++L2) w-> ∃h',h.le h'/\St w0 h' L2 w/\zU h' L1
 | [],L2,h,s=>⟨h,GH.le_refl _,s,fun p hp=>by cases hp⟩ |⟨b,lo,cs,ob⟩::L1,L2,h,s=>by
  obtain ⟨h',g1,g2,g3⟩:=St.fu (L1:=L1) (L2:=L2) (St.bu (b:=b) (lo:=lo) (cs:=cs) (ob:=ob) s);refine ⟨h',GH.le_trans s.dc g1,g2,fun p hp=>?_⟩;rcases ab0.1 hp with rfl|hp
  ·intro i v hv;exact g1 _ _ _ (GH.cr h b lo _ hv)
  ·exact g3 p hp
theorem has_at{p:a6}{b o:Nat}(hp:p.has b o): ∃i,i<p.cs.length/\o=p.lo+i/\b=p.b:=⟨o-p.lo,by have:=hp.2.1;have:=hp.2.2;omega,by have:=hp.2.1;omega,hp.1.symm⟩
theorem St.iw{L1 L2:List a6}(s:St w0 h (L1++L2) w)(hl:h.le h''):h.le (h''.less L1):=by
 intro b o v hv;unfold GH.less;split
 ·rename_i hx;obtain ⟨p,hp,hh⟩:=hx;obtain ⟨i,hi,rfl,rfl⟩:=has_at hh;rw [(s.own p (ac9 _ hp)).fresh i hi] at hv;cases hv
 ·exact hl _ _ _ hv
theorem St.jj{L1 L2 L':List a6}(s:St w0 h (L1++L2) w)(s':St w0 h'' L' w')(ha:zU h'' L1)(ho: ∀p,p∈L1->p.obj=none):St w0 (h''.less L1) (L1++L') w':=by
 have hless: ∀b o v,h''.less L1 b o=some v->h'' b o=some v:=by
  intro b o v hv;unfold GH.less at hv;split at hv
  ·cases hv
  ·exact hv
 refine ⟨s'.below,fun b o v hv=>s'.imm _ _ _ (hless _ _ _ hv),fun b o v hv=>s'.imm1 _ _ _ (hless _ _ _ hv),fun p hp=>?_,?_,fun b o v hv=>s'.frz _ _ _ (hless _ _ _ hv),s'.drn⟩
 ·rcases af0.1 hp with hp|hp
  ·have k:=s.own p (ac9 _ hp);refine ⟨k.one,fun i v hv=>s'.imm _ _ _ (ha p hp i v hv),k.new,fun i hi=>?_,fun i hi=>?_,fun o hh=>?_⟩
   ·obtain ⟨v,hv⟩:=getElem?_some_of_lt hi;rw [s'.frz _ _ _ (ha p hp i v hv)];unfold World.frozen?;rw [Array.getElem?_eq_none (k.new i hi)]
   ·unfold GH.less;rw [iT ⟨p,hp,rfl,by omega,by omega⟩]
   ·rw [ho p hp] at hh;cases hh
  ·have k:=s'.own p hp;refine ⟨k.one,k.cell,k.new,k.warm,fun i hi=>?_,k.obj⟩;unfold GH.less;split
   ·rfl
   ·exact k.fresh i hi
 ·have d:=aq8.1 s.dis;refine aq8.2 ⟨d.1,s'.dis,fun p hp q hq=>⟨fun i j hi hj hb hlo=>?_,fun hx=>?_⟩⟩
  ·obtain ⟨v,hv⟩:=getElem?_some_of_lt hi;have h1:=ha p hp i v hv;rw [hb,hlo,(s'.own q hq).fresh j hj] at h1;cases h1
  ·rw [ho p hp] at hx;cases hx
end
theorem WE.al{G:Rg}{π:List Nat}{e:Env}{h:GH}{E:aE}{i:Nat}{o:Oper}{t:Nat}{b:Bool}{ks:List (Nat×Bool)}{e':Env}(hi:bU G.all.toList i=some o)(hg:iH e G.all o.guard=some (some (t,b),ks))(hl:look e.us t=some undef)
 (hp:e.put G.C.n none o.dst undef=some e') (next:WE G π e' h E):WE G (i::π) e h E:=by
 intro a g;refine ⟨o,by rw [cC,ac2] at hi;exact hi,?_⟩;unfold Rg.Node;have:c9 G.all o a=false:=by
  cases hon:c9 G.all o a with
  |false=>rfl |true=>
   rcases qE g hg with ⟨h1,_⟩|⟨t',b',h1,hiff,_⟩
   ·cases h1
   ·injection h1 with h1;injection h1 with h1 h2;subst h1;subst h2;have:=hiff.1 hon;rw [g.us _ _ hl] at this;injection this with this;exact absurd this.symm (oO _)
 rw [this];exact next _ (g.put hp)
theorem WA.al{K:AC}{all:Array Oper}{m:Nat}{k:List It}{pubs:Nat->List Nat}{Y:Ua}{π:List Nat}{E:aH}{Λ:List aF}{D:Da}{i:Nat}{o:Oper}{t:Nat}{b:Bool}{ks:List (Nat×Bool)}{E':aH}(hi:bU all.toList i=some o)
 (hg:gC E all o.guard=some (some (t,b),ks)) (hx:bJ E.us t=some (.tp [])) (hp:E.put K.n none o.dst (.tp [])=some E') (next:WA K all m k pubs Y π E' Λ D):WA K all m k pubs Y (i::π) E Λ D:=by
 refine ⟨fun h e L Es hl r q d=>?_⟩;rw [f0 r] at hg;obtain ⟨e',e3,e4⟩:=cJ r hp (y:=undef) (o6.2 ⟨[],rfl,aQ.2 rfl⟩);rcases r.1.look t with ⟨y,v,e1,e2,e5⟩|⟨e1,e2⟩
 ·rw [hx] at e1;injection e1 with e1;subst e1;rw [o6] at e5;obtain ⟨cs,rfl,e5⟩:=e5;rw [aQ] at e5;subst e5;exact WE.al (G:=cG K.cfg all (L++K.G) pubs (YA Y) m k) hi hg e2 e3 (next.run h e' L Es hl e4 q d)
 ·rw [hx] at e1;cases e1
mutual
def gY:AV->Bool
 | .v _=>true | .tp l=>DV l
 | .ag l=>DV l |_=>false
def DV:List AV->Bool
 | []=>true |x::r=>gY x&&DV r
end
mutual
theorem GZ{h h':GH}: ∀{x:AV} {v:Value},gY x=true->Rp h x v->Rp h' x v
 | .v _,_,_,r=>by rw [bE] at r⊢;exact r | .tp l,_,hp,r=>by rw [gY] at hp;rw [o6] at r⊢;obtain ⟨cs,h1,h2⟩:=r;exact ⟨cs,h1,zG hp h2⟩
 | .ag l,_,hp,r=>by rw [gY] at hp;rw [eJ] at r⊢;obtain ⟨cs,h1,h2⟩:=r;exact ⟨cs,h1,zG hp h2⟩
 | .sl _ _ _,_,hp,_=>by simp [gY] at hp | .pe _ _,_,hp,_=>by simp [gY] at hp
 | .fn _ _ _,_,hp,_=>by simp [gY] at hp | .ms _ _ _,_,hp,_=>by simp [gY] at hp
 | .ep _ _ _,_,hp,_=>by simp [gY] at hp | .eb _ _,_,hp,_=>by simp [gY] at hp
 | .un,_,hp,_=>by simp [gY] at hp
theorem zG{h h':GH}: ∀{x:List AV} {v:List Value},DV x=true->dM h x v->dM h' x v
 | [],_,_,r=>by rw [aQ] at r⊢;exact r |x::l,_,hp,r=>by rw [DV,aa1] at hp;rw [aG] at r⊢;obtain ⟨v,vs,h1,h2,h3⟩:=r;exact ⟨v,vs,h1,GZ hp.1 h2,zG hp.2 h3⟩
end
def Lt(Λ:List aF)(x y:AV):Prop:= ∀h L h' v,kL h Λ L->h.le h'->zU h' L->Rp h x v->Rp h' y v
def oN(Λ:List aF)(x y:List AV):Prop:= ∀h L h' v,kL h Λ L->h.le h'->zU h' L->dM h x v->dM h' y v
theorem Lt.sub{Λ:List aF}{x y:AV}(s:Sb x y):Lt Λ x y:=fun h L h' v _ hl _ r=>(s.rp r).mono hl
theorem oN.nil{Λ:List aF}:oN Λ [] []:=fun h L h' v _ hl _ r=>r.mono hl
theorem oN.cons{Λ:List aF}{x y:AV}{l r:List AV}(a:Lt Λ x y)(b:oN Λ l r):oN Λ (x::l) (y::r):=fun h L h' v q hl ha p=>by rw [aG] at p⊢;obtain ⟨u,us,h1,h2,h3⟩:=p;exact ⟨u,us,h1,a h L h' u q hl ha h2,b h L h' us q hl ha h3⟩
theorem zU.mem{h:GH}: ∀{Λ:List aF} {L:List a6} {h0:GH},kL h0 Λ L->zU h L-> ∀{x:aF},x∈Λ-> ∃L1,nZ h0 x L1/\zU h L1:=fun {Λ L h0} r a {x} hx=>by obtain ⟨L1,h1,h2⟩:=r.mem hx;exact ⟨L1,h2,fun p hp=>a p (h1 p hp)⟩
theorem Tl.ef{sz:Nat}{z:Value}{p:a6}(q:Tl sz z p):p.obj=none:=q.1
theorem dJ.ef{h:GH}{sz:Nat}: ∀{hs:List (Value×List AV)} {L:List a6},dJ h sz hs L-> ∀p,p∈L->p.obj=none
 | [],_,r,p,hp=>by have r:_=[]:=r;subst r;cases hp |(z,l)::r,_,⟨q,L',rfl,h2,h3⟩,p,hp=>by
  rcases ab0.1 hp with rfl|hp
  ·exact h2.choose_spec.choose_spec.choose_spec.2.2.2.1
  ·exact dJ.ef h3 p hp
def sL:List aF->Bool
 | []=>true | .loop _ _ _ _::_=>false
 | .mp _ _ _::_=>false |_::l=>sL l
theorem nZ.ef{h:GH}: ∀{x:aF} {L:List a6},sL [x]=true->nZ h x L-> ∀p,p∈L->p.obj=none
 | .loop _ _ _ _,_,hn,_,_,_=>by cases hn | .mp _ _ _,_,hn,_,_,_=>by cases hn
 | .box b x,_,_,⟨z,h1,rfl⟩,p,hp=>by rcases ab0.1 hp with rfl|hp;rfl;cases hp
 | .row sz z l,_,_,⟨q,h1,rfl⟩,p,hp=>by
   rcases ab0.1 hp with rfl|hp
   ·exact h1.choose_spec.choose_spec.choose_spec.2.2.2.1
   ·cases hp
 | .rows sz hs,_,_,r,p,hp=>dJ.ef r p hp | .tail sz z,_,_,⟨q,h1,rfl⟩,p,hp=>by
   rcases ab0.1 hp with rfl|hp
   ·exact h1.ef
   ·cases hp
theorem AL{x:aF}{l:List aF}(h:sL (x::l)=true):sL [x]=true/\sL l=true:=by cases x<;>first|exact ⟨rfl,h⟩|cases h
theorem kL.ef{h:GH}: ∀{Λ:List aF} {L:List a6},sL Λ=true->kL h Λ L-> ∀p,p∈L->p.obj=none
 | [],_,_,r,p,hp=>by have r:_=[]:=r;subst r;cases hp |x::Λ,_,hn,⟨L1,L2,rfl,h2,h3⟩,p,hp=>by
  rcases af0.1 hp with hp|hp
  ·exact h2.ef (AL hn).1 p hp
  ·exact kL.ef (AL hn).2 h3 p hp
theorem lI.ed{P:Program}{gs:Ua}{f:FuncId}{args args':List AV}{Λ:List aF}{Q:AV->Prop}{g:Func}{c:Code}(h1:P.funcs[f]? =some g)(h2:g.body=some c)(h3:(g.name== "runtime.NumGoroutine")=false)
 (hf:lI P gs f args [] fun y Λ'=>Q y/\Λ'=[]) (hQ: ∀y,Q y->gY y=true) (ha:oN Λ args' args) (hnl:sL Λ=true:=by rfl):lI P gs f args' Λ fun y Λ'=>Q y/\Λ'=Λ:=by
 intro w0 h vs L F hgs r q;refine ⟨⟨g,c,h1,h2,h3⟩,fun w s=>?_⟩;obtain ⟨h',g1,g2,g3⟩:=St.fu s;refine ((hf w0 h' vs [] F (hgs.mono g1) (ha h L h' vs q g1 g3 r) T).2 w g2).mono fun x w' ⟨v,h'',L',e1,⟨y,Λ',L1,⟨k1,k2⟩,k3,k4,k5,k6⟩,s'⟩=>?_;subst k2;have k5:L1=[]:=k5;subst k5;have k6:L'=F:=k6;subst k6;have hle:=s.iw (GH.le_trans g1 k4);exact ⟨v,h''.less L,L++L',e1,⟨y,Λ,L,⟨k1,rfl⟩,GZ (hQ y k1) k3,hle,q.mono hle,rfl⟩,s.jj s' (fun p hp=>iB.mono k4 (g3 p hp)) (q.ef hnl)⟩
theorem Pure.ed{P:Program}{gs:Ua}{f:FuncId}{args args':List AV}{Λ:List aF}{x:AV}{g:Func}{c:Code}(h1:P.funcs[f]? =some g)(h2:g.body=some c)(h3:(g.name== "runtime.NumGoroutine")=false)
 (hf:Pure P gs f args x) (hx:gY x=true) (ha:oN Λ args' args) (hnl:sL Λ=true:=by rfl):lI P gs f args' Λ fun y Λ'=>y=x/\Λ'=Λ:=
 lI.ed h1 h2 h3 hf (fun y hy=>by rw [hy];exact hx) ha hnl
end Go.Tp
namespace Go.Tp
open Go Go.RowKit
section
variable{K:AC}{k:List It}{E:aH}{Λ:List aF}
theorem A.gk{all:Array Oper}{o:Oper}{l:List Oper}{ks:List (Nat×Bool)}{x:Operand}{args:Array Operand}{ts:Array TypeId}{f:FuncId}{fst cap vs args':List AV}{y:AV}{Λ1 Λ2:List aF}{d:Nat}
 (hg:aV E all o.guard=some ks) (ho:o.op= .call ⟨.value x,args,ts⟩) (hx:E.ev K.gs ks x=some (.fn f fst cap)) (ha:rG (E.ev K.gs ks) args.toList=some vs)
 (hd:o.dst=some d) (hc:bZ K.n E d=true) (hf:lI K.P K.gs f args' Λ1 fun z Λ'=>z=y/\Λ'=Λ1) (hs:fO (fst++(vs++cap)) args') (hp:Λ.Perm (Λ1++Λ2))
 (next:A K (.ops all l::k) ⟨(d,y)::E.us,E.cs⟩ (Λ1++Λ2)):A K (.ops all (o::l)::k) E Λ:=
 A.call hg ho hx ha hd hc hf hs hp fun _ _ ⟨e1,e2⟩=>(by subst e1;subst e2;exact next)
end
end Go.Tp
