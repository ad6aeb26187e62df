/-
  Texts Lb. Conditions: as each theorem says.
-/
import Derived.Test.YtkbolbpojpmicaaGreatWd1
import Derived.WalkKit
import Derived.OpenShut
import Derived.Deep.Slices
import Derived.ChangeArms
import Derived.ProofKit
import Derived.Carry
import Derived.Deep.DeepHandedRow
import Derived.Lib.LaidTab
import Derived.Laws.MakeOwn
import Derived.Lib.SliceRun
set_option linter.unusedVariables false
set_option linter.unusedSimpArgs false
set_option maxRecDepth 100000
set_option maxHeartbeats 4000000
namespace Go.Tp
open Go Go.RowKit
inductive KE where
 |mk (kind oper to n v:Int) (l:List KE)
abbrev KE.kind:KE->Int|⟨k,_,_,_,_,_⟩=>k
abbrev KE.oper:KE->Int|⟨_,o,_,_,_,_⟩=>o
abbrev KE.to:KE->Int|⟨_,_,t,_,_,_⟩=>t
abbrev KE.n:KE->Int|⟨_,_,_,n,_,_⟩=>n
abbrev KE.v:KE->Int|⟨_,_,_,_,v,_⟩=>v
abbrev KE.l:KE->List KE|⟨_,_,_,_,_,l⟩=>l
def i32(n:Int):Prop:= -2147483648<=n/\n<=2147483647
def i64(n:Int):Prop:= -9223372036854775808<=n/\n<=9223372036854775807
def u8(n:Int):Prop:=0<=n/\n<=255
mutual
def RK(h:GH):KE->List Value->Prop
 |⟨k,o,t,n,v,l⟩,cs=>(u8 k/\u8 o/\u8 t/\i32 n/\i64 v)/\ ∃a cap,cs=[.int .u8 k, .int .u8 o, .int .u8 t, .int .i32 n, .int .i64 v, .slice a l.length cap]/\
    l.length<=cap/\(l≠[]-> ∃b o,a=some ⟨b,o,none⟩/\RKl h l b o)
def RKl(h:GH):List KE->Nat->Nat->Prop
 | [],_,_=>True
 |e::r,b,o=>(∃cs,atH h b o cs/\RK h e cs)/\RKl h r b (o+6)
end
mutual
theorem RK.mono{h h':GH}(hl:h.le h'): ∀{e:KE} {cs:List Value},RK h e cs->RK h' e cs
 |⟨k,o,t,n,v,l⟩,cs,r=>by
  simp only [RK] at r⊢
  obtain ⟨r1,a,cap,r2,r3,r4⟩:=r
  exact ⟨r1,a,cap,r2,r3,fun hn=>let ⟨b,o,x,y⟩:=r4 hn;⟨b,o,x,RKl.mono hl y⟩⟩
theorem RKl.mono{h h':GH}(hl:h.le h'): ∀{l:List KE} {b o:Nat},RKl h l b o->RKl h' l b o
 | [],_,_,_=>trivial
 |e::r,b,o,x=>by
  simp only [RKl] at x⊢
  obtain ⟨⟨cs,x1,x2⟩,x3⟩:=x
  exact ⟨⟨cs,x1.mono hl,RK.mono hl x2⟩,RKl.mono hl x3⟩
end
theorem wr64(n:Int)(h: -9223372036854775808<=n/\n<=9223372036854775807):IntKind.i64.wrap n=n:=by
 unfold IntKind.wrap
 simp only [IntKind.bits,IntKind.signed,Bool.true_and,ge_iff_le,decide_eq_true_eq]
 have e1:(2^64:Int)=18446744073709551616:=by decide
 have e2:(2^(64-1):Int)=9223372036854775808:=by decide
 rw [e1,e2]
 split<;>omega
theorem wr32(n:Int)(h: -2147483648<=n/\n<=2147483647):IntKind.i32.wrap n=n:=by
 unfold IntKind.wrap
 simp only [IntKind.bits,IntKind.signed,Bool.true_and,ge_iff_le,decide_eq_true_eq]
 have e1:(2^32:Int)=4294967296:=by decide
 have e2:(2^(32-1):Int)=2147483648:=by decide
 rw [e1,e2]
 split<;>omega
theorem V.val{C:Cfg}{k:List It}{e:Env}{h:GH}{L:List Ent}(t:Nat){v v':Value}(hl:look e.us t=some v)(hv:v=v')(next:V C k ⟨(t,v')::e.us,e.cs⟩ h L):V C k e h L:=by
 subst hv
 intro ho a w b cs ag s h1 h2
 refine next ho a w b cs ⟨ag.size,ag.defers,fun u v hu=>?_,ag.cs⟩ s h1 h2
 simp only [look] at hu
 split at hu
 ·rename_i hk;have hk:=Nat.eq_of_beq_eq_true hk;subst hk;injection hu with hu;subst hu;exact ag.us _ _ hl
 ·exact ag.us _ _ hu
theorem WE.val{G:Rg}{π:List Nat}{e:Env}{h:GH}{E:Slots}(t:Nat){v v':Value}(hl:look e.us t=some v)(hv:v=v')(next:WE G π ⟨(t,v')::e.us,e.cs⟩ h E):WE G π e h E:=by
 subst hv
 intro a ag
 refine next a ⟨ag.size,ag.defers,fun u v hu=>?_,ag.cs⟩
 simp only [look] at hu
 split at hu
 ·rename_i hk;have hk:=Nat.eq_of_beq_eq_true hk;subst hk;injection hu with hu;subst hu;exact ag.us _ _ hl
 ·exact ag.us _ _ hu
theorem V.loop1{C:Cfg}{k:List It}{e:Env}{h:GH}{L:List Ent}{c:Code}(hv:V C (.code c:: .inLoop c::k) e h L):V C (.code (.loop c)::k) e h L:=
 hv.of_step (fun ho=>itsOk_code (itsOk_loop (itsOk_tail ho))) fun _ _ _ _ _=> .one stepR_loop
theorem V.again{C:Cfg}{k:List It}{e:Env}{h:GH}{L:List Ent}{c:Code}(hv:V C (.code c:: .inLoop c::k) e h L):V C (.inLoop c::k) e h L:=
 hv.of_step (fun ho=>itsOk_code ho) fun _ _ _ _ _=> .one stepR_inLoop
theorem V.pickT{C:Cfg}{k:List It}{e:Env}{h:GH}{L:List Ent}{all:Array Oper}{o:Oper}{l:List Oper}{m:Option (Nat×Bool)}{ks:List (Nat×Bool)}{c x y:Operand}{v:Value}{e':Env}
 (hg:gmode e all o.guard=some (m,ks)) (ho:o.op= .pick c x y) (hc:e.ev ks c=some (.bool true)) (hx:e.ev ks x=some v) (hput:e.put C.n m o.dst v=some e') (next:V C (.ops all l::k) e' h L):V C (.ops all (o::l)::k) e h L:=
 V.value hg (fun a w g s hk=>by
  unfold execOp
  rw [ho]
  simp only [g.ev hk hc,asBool]
  simp [g.ev hk hx]) hput next
theorem V.pickF{C:Cfg}{k:List It}{e:Env}{h:GH}{L:List Ent}{all:Array Oper}{o:Oper}{l:List Oper}{m:Option (Nat×Bool)}{ks:List (Nat×Bool)}{c x y:Operand}{v:Value}{e':Env}
 (hg:gmode e all o.guard=some (m,ks)) (ho:o.op= .pick c x y) (hc:e.ev ks c=some (.bool false)) (hy:e.ev ks y=some v) (hput:e.put C.n m o.dst v=some e') (next:V C (.ops all l::k) e' h L):V C (.ops all (o::l)::k) e h L:=
 V.value hg (fun a w g s hk=>by
  unfold execOp
  rw [ho]
  simp only [g.ev hk hc,asBool]
  simp [g.ev hk hy]) hput next
theorem WE.pickT{G:Rg}{π:List Nat}{e:Env}{h:GH}{E:Slots}{i:Nat}{o:Oper}{m:Option (Nat×Bool)}{ks:List (Nat×Bool)}{c x y:Operand}{v:Value}{e':Env}
 (hi:nthL G.all.toList i=some o) (hg:gmode e G.all o.guard=some (m,ks)) (ho:o.op= .pick c x y) (hc:e.ev ks c=some (.bool true)) (hx:e.ev ks x=some v) (hput:e.put G.C.n m o.dst v=some e') (next:WE G π e' h E):WE G (i::π) e h E:=
 WE.value hi (by unfold kd;rw [ho]) hg (fun a w E g s hk=>by
  unfold execOp
  rw [ho]
  simp only [g.ev hk hc,asBool]
  simp [g.ev hk hx]) hput next
theorem WE.pickF{G:Rg}{π:List Nat}{e:Env}{h:GH}{E:Slots}{i:Nat}{o:Oper}{m:Option (Nat×Bool)}{ks:List (Nat×Bool)}{c x y:Operand}{v:Value}{e':Env}
 (hi:nthL G.all.toList i=some o) (hg:gmode e G.all o.guard=some (m,ks)) (ho:o.op= .pick c x y) (hc:e.ev ks c=some (.bool false)) (hy:e.ev ks y=some v) (hput:e.put G.C.n m o.dst v=some e') (next:WE G π e' h E):WE G (i::π) e h E:=
 WE.value hi (by unfold kd;rw [ho]) hg (fun a w E g s hk=>by
  unfold execOp
  rw [ho]
  simp only [g.ev hk hc,asBool]
  simp [g.ev hk hy]) hput next
section known
variable{C:Cfg}{k:List It}{e:Env}{h:GH}{L:List Ent}
theorem V.valueY{all:Array Oper}{o:Oper}{l:List Oper}{ks:List (Nat×Bool)}{v:Value}{e':Env}(hg:gyes e all o.guard=some ks)
 (hr: ∀a w,Ag C.n C.D e a->St C.w0 h L w->keysOk a ks->(execOp a.eval o).run C.P w= .ok (.value v) w) (hp:e.put C.n none o.dst v=some e') (hv:V C (.ops all l::k) e' h L):
 V C (.ops all (o::l)::k) e h L:=
 V.sure hg fun a w g s hk=>by
  unfold Oper.wp
  rw [hr a w g s hk]
  exact ⟨_,h,L,g.put hp,s,hv⟩
theorem V.skipU{all:Array Oper}{o:Oper}{l:List Oper}{t:Nat}{b:Bool}{ks:List (Nat×Bool)}{e':Env}(hg:gmode e all o.guard=some (some (t,b),ks))(hl:look e.us t=some undef)(hp:e.put C.n none o.dst undef=some e')(hv:V C (.ops all l::k) e' h L):
 V C (.ops all (o::l)::k) e h L:=
 V.op fun a w g s=>⟨fun hon=>by
  rcases gmode_spec g hg with ⟨h1,_⟩|⟨t',b',h1,hiff,_⟩
  ·cases h1
  ·injection h1 with h1;injection h1 with h1 h2;subst h1;subst h2
   have:=hiff.1 hon
   rw [g.us _ _ hl] at this
   injection this with this
   exact absurd this.symm (bool_ne_undef _),fun _=>⟨e',h,L,g.put hp,s,hv⟩⟩
theorem V.loadY{all:Array Oper}{o:Oper}{l:List Oper}{ks:List (Nat×Bool)}{t:TypeId}{p:Operand}{b off:Nat}{ti:TI}{x:Ent}{v:Value}{e':Env}
 (hg:gyes e all o.guard=some ks) (ho:o.op= .load t p) (hp:e.ev ks p=some (.pointer (some ⟨b,off,none⟩))) (ht:C.S.get t=some ti) [i:EntAt L b x]
 (hv:ldV ti x off=some v) (hput:e.put C.n none o.dst v=some e') (next:V C (.ops all l::k) e' h L):V C (.ops all (o::l)::k) e h L:=
 V.valueY hg (fun a w g s hk=>by
  have:=run_ldV (TT.Ok.get C.ok ht) (s.own x i.mem) i.blk hv
  unfold execOp
  rw [ho]
  simp only [g.ev hk hp,Sem.run_bind,this,Result.andThen_ok,Sem.run_pure]) hput next
theorem V.indexY{all:Array Oper}{o:Oper}{l:List Oper}{ks:List (Nat×Bool)}{t:TypeId}{x ix:Operand}{xv v:Value}{kk:IntKind}{i:Int}{n:Nat}{e':Env}
 (hg:gyes e all o.guard=some ks) (ho:o.op= .indexAddr t x ix) (hx:e.ev ks x=some xv) (hi:e.ev ks ix=some (.int kk i)) (hv:idxv C.S t xv i=some (v,n))
 (hput:e.put C.n none o.dst v=some e') (h0:0<=i) (h1:i<n) (next:V C (.ops all l::k) e' h L):V C (.ops all (o::l)::k) e h L:=
 V.valueY hg (fun a w g s hk=>by
  have:=run_idxv (w:=w) (kk:=kk) C.ok hv h0 h1
  unfold execOp
  rw [ho]
  simp only [g.ev hk hx,g.ev hk hi,Sem.run_bind,this,Result.andThen_ok,Sem.run_pure]) hput next
end known
end Go.Tp
namespace Go.Tp
open Go Go.RowKit
def hOf(W:World):GH:=fun b o=>match W.cell? ⟨b,o,none⟩ with
 |some v=>if oneC v then some v else none
 |none=>none
theorem hOf_eq{W:World}{b o:Nat}{v:Value}(hc:W.cell? ⟨b,o,none⟩=some v)(h1:oneC v=true):hOf W b o=some v:=by
 unfold hOf;rw [hc];simp [h1]
theorem hOf_st(W:World):St W (hOf W) [] W where
 below:=Below.refl _ _
 imm b o v h:=by
  unfold hOf at h
  split at h
  ·rename_i u hu
   split at h
   ·injection h with h;subst h;exact hu
   ·cases h
  ·cases h
 imm1 b o v h:=by
  unfold hOf at h
  split at h
  ·split at h
   ·rename_i h1;injection h with h;subst h;exact h1
   ·cases h
  ·cases h
 own:=by simp
 dis:=List.Pairwise.nil
 frz:=fun _ _ _ _=>rfl
 drn:=Nat.le_refl _
theorem hOf_at{W:World}{b o:Nat}{cs:List Value}(hc: ∀i,i<cs.length->W.cell? ⟨b,o+i,none⟩=cs[i]?)(h1: ∀v,v∈cs->oneC v=true):atH (hOf W) b o cs:=fun i v hv=>by
 have hi:i<cs.length:=by
  rcases Nat.lt_or_ge i cs.length with h|h
  ·exact h
  ·rw [List.getElem?_eq_none h] at hv;cases hv
 exact hOf_eq ((hc i hi).trans hv) (h1 v (List.mem_of_getElem? hv))
section
variable{H:Type}{enc:TypeId×Value->H}{P:Program}{W:World}{base:Nat}{sp:Nat->Bool}{hd:Bool}{tE tL:TypeId}{fs:Array Field}
theorem wf_u8{n:Int}(h:(Lit.int .u8 n).wf=true):u8 n:=by
 have e1:IntKind.u8.min=0:=by decide
 have e2:IntKind.u8.max=255:=by decide
 simp only [Lit.wf,e1,e2,Bool.and_eq_true,decide_eq_true_eq] at h;exact h
theorem wf_i32{n:Int}(h:(Lit.int .i32 n).wf=true):i32 n:=by
 have e1:IntKind.i32.min= -2147483648:=by decide
 have e2:IntKind.i32.max=2147483647:=by decide
 simp only [Lit.wf,e1,e2,Bool.and_eq_true,decide_eq_true_eq] at h;exact h
theorem wf_i64{n:Int}(h:(Lit.int .i64 n).wf=true):i64 n:=by
 have e1:IntKind.i64.min= -9223372036854775808:=by decide
 have e2:IntKind.i64.max=9223372036854775807:=by decide
 simp only [Lit.wf,e1,e2,Bool.and_eq_true,decide_eq_true_eq] at h;exact h
end
end Go.Tp
namespace Go.Tp
open Go Go.RowKit Go.ChangeShapes Go.WideShapes
section
variable{H:Type}{enc:TypeId×Value->H}{P:Program}
theorem trodAll_stay(hl:laidOutB P=true){W W':World}(hb:Below W.heap.size W W'){sp:Nat->Bool}: ∀{ts:List TypeId} {vs:List Value} {ds:List (DataW H)} {ps:List MemPlace},
 (ts.all fun t=>P.readableRec t&&decide (t<P.types.size))=true->DataW.TrodAll enc P W 0 (fun _=>true) true ts vs ds ps->(∀p,p∈ps->p.block<W.heap.size)->(∀p,p∈ps->sp p.block=true)->
 DataW.TrodAll enc P W' 0 sp true ts vs ds ps
 | [],_,_,_,_,h,_,_=>by
   obtain ⟨rfl,rfl,rfl⟩:=trodAll_nil h
   exact trodAll_mk0
 |t::ts,_,_,_,hr,h,hlt,hsp=>by
  obtain ⟨v,vs,d,ds,p,q,rfl,rfl,rfl,h1,h2⟩:=trodAll_cons h
  simp only [List.all_cons,Bool.and_eq_true,decide_eq_true_eq] at hr
  exact trodAll_cons_mk (WideElems.Trod_stays hl hr.1.1 hr.1.2 h1 (fun x hx=>hb.same (hlt x (List.mem_append_left _ hx))) (fun x hx=>hsp x (List.mem_append_left _ hx)))
   (trodAll_stay hl hb (by simpa using hr.2) h2 (fun x hx=>hlt x (List.mem_append_right _ hx)) (fun x hx=>hsp x (List.mem_append_right _ hx)))
theorem post_true{fn:Func}{s:ChangeSpec}{W W':World}{args:Array Value}{ds gs:List (DataW H)}{before:List MemPlace}{tb:TypeId}
 (hl:laidOutB P=true) (hr:(fn.params.toList.all fun t=>P.readableRec t&&decide (t<P.types.size))=true) (hrt:fn.resultTypes= #[tb]) (hb:P.underlying tb=some .bool) (hv:s.vars=[])
 (hs:s.fn H (ds++gs)={results:=[.lit (.bool true)],args:=ds}) (hW:DataW.Whole enc P fn.params.toList s.vars false W args.toList ds gs before) (hbel:Below W.heap.size W W'):
 s.post enc P fn false true false false W args (.bool true) W':=by
 have hW':=hW
 obtain ⟨p,q,hA,hV,rfl,_,_⟩:=hW
 have hV0:=hV
 rw [hv] at hV
 obtain ⟨rfl,rfl⟩:=trodVars_none hV
 refine ⟨ds,_,p++[],[],p,[],hW',?_,?_,?_,hbel.frame _,fun ha=>by cases ha⟩
 ·rw [hrt,hs]
  exact trodAll_cons_mk (shut_bool hb true) trodAll_mk0
 ·rw [hs]
  exact trodAll_stay hl hbel hr hA (fun x hx=>by simpa using hW'.lt x (List.mem_append_left _ hx)) (fun x hx=>by simpa using hW'.lt x (List.mem_append_left _ hx))
 ·rw [hs,hv]
  exact rfl
theorem calls_true{f:FuncId}{fn:Func}{s:ChangeSpec}{W:World}{h:GH}{args:List Value}{ds gs:List (DataW H)}{before:List MemPlace}{tb:TypeId}
 (hl:laidOutB P=true) (hr:(fn.params.toList.all fun t=>P.readableRec t&&decide (t<P.types.size))=true) (hrt:fn.resultTypes= #[tb]) (hb:P.underlying tb=some .bool) (hv:s.vars=[])
 (hs:s.fn H (ds++gs)={results:=[.lit (.bool true)],args:=ds}) (hW:DataW.Whole enc P fn.params.toList s.vars false W args ds gs before) (hst:St W h [] W)
 (hd:Does P W f args h [] (Res h [] (fun v _=>v= .bool true))):
 Calls P f ⟨args⟩ W fun e W'=> ∃v,e= .returned v/\s.post enc P fn false true false false W ⟨args⟩ v W':=by
 refine (hd.2 W hst).mono fun e W' ⟨v,h',L',e1,⟨_,_,e2⟩,e3⟩=>?_
 subst e1;subst e2
 exact ⟨_,rfl,post_true hl hr hrt hb hv hs (by simpa using hW) e3.below⟩
end
end Go.Tp
namespace Go.Tp
open Go Go.RowKit
inductive AV where
 |v (x:Value)
 |sl (sz:Nat) (l:List AV) (own:Option Value)
 |ag (l:List AV)
 |tp (l:List AV)
 |pe (sz:Nat) (x:AV)
 |fn (f:FuncId) (fst cap:List AV)
 |ms (z:Value) (sz n:Nat)
 |ep (z:Value) (sz i:Nat)
 |eb (b i:Nat)
 |un
def ownOk(own:Option Value)(y:Value):Prop:=match own with
 |none=>True
 |some z=>y=z
def AV.cells:AV->List AV
 | .ag l=>l
 |x=>[x]
mutual
def Rp(h:GH):AV->Value->Prop
 | .v x,y=>y=x/\oneC x=true
 | .sl sz l own,y=> ∃a cap,y= .slice a l.length cap/\l.length<=cap/\ownOk own y/\(l≠[]-> ∃b o,a=some ⟨b,o,none⟩/\RpE h sz l b o)
 | .ag l,y=> ∃cs,y= .agg ⟨cs⟩/\RpC h l cs
 | .tp l,y=> ∃vs,y= .tuple ⟨vs⟩/\RpC h l vs
 | .pe sz x,y=> ∃b o z,y= .pointer (some ⟨b,o,none⟩)/\Rp h x z/\(cellsL z).length=sz/\atH h b o (cellsL z)
 | .fn f p q,y=> ∃u w,y= .func (.func f) ⟨u⟩ ⟨w⟩/\RpC h p u/\RpC h q w
 | .ms z sz n,y=>y=z/\ ∃a cap,z= .slice a n cap
 | .ep z sz i,y=> ∃b o n cap,z= .slice (some ⟨b,o,none⟩) n cap/\i<n/\y= .pointer (some ⟨b,o+i*sz,none⟩)
 | .eb b i,y=>y= .pointer (some ⟨b,i,none⟩)
 | .un,y=>oneC y=true
def RpC(h:GH):List AV->List Value->Prop
 | [],vs=>vs=[]
 |x::r,vs=> ∃v vs',vs=v::vs'/\Rp h x v/\RpC h r vs'
def RpE(h:GH)(sz:Nat):List AV->Nat->Nat->Prop
 | [],_,_=>True
 |x::r,b,o=>(∃z,Rp h x z/\(cellsL z).length=sz/\atH h b o (cellsL z))/\RpE h sz r b (o+sz)
end
mutual
theorem Rp.mono{h h':GH}(hl:h.le h'): ∀{x:AV} {y:Value},Rp h x y->Rp h' x y
 | .v _,_,r=>by simp only [Rp] at r⊢;exact r
 | .sl _ l _,_,r=>by
   simp only [Rp] at r⊢
   obtain ⟨a,cap,h1,h2,h3,h4⟩:=r
   exact ⟨a,cap,h1,h2,h3,fun hn=>let ⟨b,o,e1,e2⟩:=h4 hn;⟨b,o,e1,RpE.mono hl e2⟩⟩
 | .ag _,_,r=>by
   simp only [Rp] at r⊢
   obtain ⟨cs,h1,h2⟩:=r
   exact ⟨cs,h1,RpC.mono hl h2⟩
 | .tp _,_,r=>by
   simp only [Rp] at r⊢
   obtain ⟨cs,h1,h2⟩:=r
   exact ⟨cs,h1,RpC.mono hl h2⟩
 | .pe _ _,_,r=>by
   simp only [Rp] at r⊢
   obtain ⟨b,o,z,h1,h2,h3,h4⟩:=r
   exact ⟨b,o,z,h1,Rp.mono hl h2,h3,h4.mono hl⟩
 | .fn _ _ _,_,r=>by
   simp only [Rp] at r⊢
   obtain ⟨u,w,h1,h2,h3⟩:=r
   exact ⟨u,w,h1,RpC.mono hl h2,RpC.mono hl h3⟩
 | .ms _ _ _,_,r=>by simp only [Rp] at r⊢;exact r
 | .ep _ _ _,_,r=>by simp only [Rp] at r⊢;exact r
 | .eb _ _,_,r=>by simp only [Rp] at r⊢;exact r
 | .un,_,r=>by simp only [Rp] at r⊢;exact r
theorem RpC.mono{h h':GH}(hl:h.le h'): ∀{x:List AV} {y:List Value},RpC h x y->RpC h' x y
 | [],_,r=>by simp only [RpC] at r⊢;exact r
 |_::_,_,r=>by
  simp only [RpC] at r⊢
  obtain ⟨v,vs,h1,h2,h3⟩:=r
  exact ⟨v,vs,h1,Rp.mono hl h2,RpC.mono hl h3⟩
theorem RpE.mono{h h':GH}(hl:h.le h'){sz:Nat}: ∀{x:List AV} {b o:Nat},RpE h sz x b o->RpE h' sz x b o
 | [],_,_,_=>by simp only [RpE]
 |_::_,_,_,r=>by
  simp only [RpE] at r⊢
  obtain ⟨⟨z,h1,h2,h3⟩,h4⟩:=r
  exact ⟨⟨z,Rp.mono hl h1,h2,h3.mono hl⟩,RpE.mono hl h4⟩
end
section
variable{h:GH}
theorem Rp_v{x y:Value}:Rp h (.v x) y↔y=x/\oneC x=true:=by simp only [Rp]
theorem Rp_ag{l:List AV}{y:Value}:Rp h (.ag l) y↔ ∃cs,y= .agg ⟨cs⟩/\RpC h l cs:=by simp only [Rp]
theorem Rp_tp{l:List AV}{y:Value}:Rp h (.tp l) y↔ ∃cs,y= .tuple ⟨cs⟩/\RpC h l cs:=by simp only [Rp]
theorem Rp_sl{sz:Nat}{l:List AV}{own:Option Value}{y:Value}:Rp h (.sl sz l own) y↔ ∃a cap,y= .slice a l.length cap/\l.length<=cap/\ownOk own y/\(l≠[]-> ∃b o,a=some ⟨b,o,none⟩/\RpE h sz l b o):=by simp only [Rp]
theorem Rp_pe{sz:Nat}{x:AV}{y:Value}:Rp h (.pe sz x) y↔ ∃b o z,y= .pointer (some ⟨b,o,none⟩)/\Rp h x z/\(cellsL z).length=sz/\atH h b o (cellsL z):=by simp only [Rp]
theorem Rp_fn{f:FuncId}{p q:List AV}{y:Value}:Rp h (.fn f p q) y↔ ∃u w,y= .func (.func f) ⟨u⟩ ⟨w⟩/\RpC h p u/\RpC h q w:=by simp only [Rp]
theorem Rp_ms{z:Value}{sz n:Nat}{y:Value}:Rp h (.ms z sz n) y↔y=z/\ ∃a cap,z= .slice a n cap:=by simp only [Rp]
theorem Rp_ep{z:Value}{sz i:Nat}{y:Value}:Rp h (.ep z sz i) y↔ ∃b o n cap,z= .slice (some ⟨b,o,none⟩) n cap/\i<n/\y= .pointer (some ⟨b,o+i*sz,none⟩):=by simp only [Rp]
theorem Rp_eb{b i:Nat}{y:Value}:Rp h (.eb b i) y↔y= .pointer (some ⟨b,i,none⟩):=by simp only [Rp]
theorem Rp_un{y:Value}:Rp h .un y↔oneC y=true:=by simp only [Rp]
theorem RpC_nil{vs:List Value}:RpC h [] vs↔vs=[]:=by simp only [RpC]
theorem RpC_cons{x:AV}{r:List AV}{vs:List Value}:RpC h (x::r) vs↔ ∃v vs',vs=v::vs'/\Rp h x v/\RpC h r vs':=by simp only [RpC]
theorem RpE_nil{sz b o:Nat}:RpE h sz [] b o:=by simp only [RpE]
theorem RpE_cons{sz b o:Nat}{x:AV}{r:List AV}:RpE h sz (x::r) b o↔(∃z,Rp h x z/\(cellsL z).length=sz/\atH h b o (cellsL z))/\RpE h sz r b (o+sz):=by simp only [RpE]
theorem RpC.len: ∀{l:List AV} {vs:List Value},RpC h l vs->vs.length=l.length
 | [],_,r=>by rw [RpC_nil] at r;subst r;rfl
 |_::_,_,r=>by
  rw [RpC_cons] at r
  obtain ⟨v,vs',rfl,_,h2⟩:=r
  simp [RpC.len h2]
theorem RpC.append: ∀{l r:List AV} {us vs:List Value},RpC h l us->RpC h r vs->RpC h (l++r) (us++vs)
 | [],_,_,_,a,b=>by rw [RpC_nil] at a;subst a;exact b
 |_::_,_,_,_,a,b=>by
  rw [RpC_cons] at a
  obtain ⟨v,vs',rfl,a1,a2⟩:=a
  rw [List.cons_append,RpC_cons]
  exact ⟨v,vs'++_,rfl,a1,RpC.append a2 b⟩
theorem RpC.at: ∀{l:List AV} {vs:List Value},RpC h l vs-> ∀{i:Nat} {x:AV},l[i]? =some x-> ∃v,vs[i]? =some v/\Rp h x v
 | [],_,_,_,_,hx=>by simp at hx
 |_::_,_,r,i,x,hx=>by
  rw [RpC_cons] at r
  obtain ⟨v,vs',rfl,a1,a2⟩:=r
  cases i with
  |zero=>injection hx with hx;subst hx;exact ⟨v,rfl,a1⟩
  |succ i=>exact RpC.at a2 (i:=i) (by simpa using hx)
theorem RpE.at{sz b:Nat}: ∀{l:List AV} {o:Nat},RpE h sz l b o-> ∀{i:Nat} {x:AV},l[i]? =some x-> ∃z,Rp h x z/\(cellsL z).length=sz/\atH h b (o+i*sz) (cellsL z)
 | [],_,_,_,_,hx=>by simp at hx
 |_::_,o,r,i,x,hx=>by
  rw [RpE_cons] at r
  obtain ⟨a1,a2⟩:=r
  cases i with
  |zero=>injection hx with hx;subst hx;simpa using a1
  |succ i=>
   have:=RpE.at a2 (i:=i) (by simpa using hx)
   rwa [show o+sz+i*sz=o+(i+1)*sz by rw [Nat.succ_mul];omega] at this
theorem RpE.sub{sz b:Nat}: ∀{l:List AV} {o:Nat} (k n:Nat),RpE h sz l b o->RpE h sz ((l.drop k).take n) b (o+k*sz)
 | [],_,k,n,r=>by simp [RpE_nil]
 |x::l,o,0,n,r=>by
  rw [RpE_cons] at r
  cases n with
  |zero=>simp [RpE_nil]
  |succ n=>
   simp only [List.drop_zero,List.take_succ_cons,Nat.zero_mul,Nat.add_zero]
   rw [RpE_cons]
   exact ⟨r.1,by simpa using RpE.sub 0 n r.2⟩
 |x::l,o,k+1,n,r=>by
  rw [RpE_cons] at r
  have:=RpE.sub k n r.2
  simpa [Nat.succ_mul,Nat.add_comm,Nat.add_left_comm,Nat.add_assoc] using this
def AV.one:AV->Bool
 | .ag _=>false
 | .tp _=>false
 |_=>true
def oneA:List AV->Bool
 | []=>true
 |x::r=>match x.one with
  |true=>oneA r
  |false=>false
theorem Rp.one{x:AV}{y:Value}(r:Rp h x y)(ho:x.one=true):oneC y=true:=by
 cases x with
 |v x=>rw [Rp_v] at r;rw [r.1];exact r.2
 |sl sz l own=>rw [Rp_sl] at r;obtain ⟨a,c,rfl,_⟩:=r;rfl
 |ag l=>cases ho
 |tp l=>cases ho
 |pe sz x=>rw [Rp_pe] at r;obtain ⟨b,o,z,rfl,_⟩:=r;rfl
 |fn f p q=>rw [Rp_fn] at r;obtain ⟨u,w,rfl,_⟩:=r;rfl
 |ms b sz n=>rw [Rp_ms] at r;obtain ⟨rfl,a,c,rfl⟩:=r;rfl
 |ep b sz n=>rw [Rp_ep] at r;obtain ⟨b,o,n,c,_,_,rfl⟩:=r;rfl
 |eb b i=>rw [Rp_eb] at r;subst r;rfl
 |un=>rw [Rp_un] at r;exact r
theorem cellsL_one{y:Value}(h:oneC y=true):cellsL y=[y]:=by cases y<;>first|rfl|cases h
theorem RpC.one: ∀{l:List AV} {vs:List Value},RpC h l vs->oneA l=true->allOne vs=true
 | [],_,r,_=>by rw [RpC_nil] at r;subst r;rfl
 |x::l,_,r,ho=>by
  rw [RpC_cons] at r
  obtain ⟨v,vs',rfl,a1,a2⟩:=r
  simp only [oneA] at ho
  split at ho
  ·rename_i hx
   simp only [allOne,Rp.one a1 hx]
   exact RpC.one a2 ho
  ·cases ho
theorem Rp.cells{x:AV}{y:Value}(r:Rp h x y)(ho:x.one=true\/ ∃l,x= .ag l):RpC h x.cells (cellsL y):=by
 rcases ho with ho|⟨l,rfl⟩
 ·have h1:=cellsL_one (r.one ho)
  have h2:x.cells=[x]:=by cases x<;>first|rfl|cases ho
  rw [h1,h2,RpC_cons]
  exact ⟨y,[],rfl,r,RpC_nil.2 rfl⟩
 ·rw [Rp_ag] at r
  obtain ⟨cs,rfl,h2⟩:=r
  exact h2
mutual
inductive Sb:AV->AV->Prop
 |refl {x:AV}:Sb x x
 |nil {sz:Nat}:Sb (.v (.slice none 0 0)) (.sl sz [] none)
 |own {sz:Nat} {l l':List AV} {o:Option Value}:SbL l l'->Sb (.sl sz l o) (.sl sz l' none)
 |ag {l l':List AV}:SbL l l'->Sb (.ag l) (.ag l')
 |tp {l l':List AV}:SbL l l'->Sb (.tp l) (.tp l')
 |ms {z:Value} {sz n:Nat}:Sb (.ms z sz n) (.v z)
 |un {x:AV}:x.one=true->Sb x .un
inductive SbL:List AV->List AV->Prop
 |refl {l:List AV}:SbL l l
 |cons {x y:AV} {l r:List AV}:Sb x y->SbL l r->SbL (x::l) (y::r)
end
theorem Sb.own1{sz:Nat}{l:List AV}{o:Option Value}:Sb (.sl sz l o) (.sl sz l none):= .own .refl
theorem SbL.len{l r:List AV}(s:SbL l r):l.length=r.length:=by
 induction r generalizing l with
 |nil=>cases s;rfl
 |cons x r ih=>cases s with
  |refl=>rfl
  |cons _ s=>simp [ih s]
theorem nil_rp(sz:Nat):Rp h (.sl sz [] none) (.slice none 0 0):=by
 rw [Rp_sl];exact ⟨none,0,rfl,Nat.le_refl _,trivial,fun hn=>(hn rfl).elim⟩
mutual
theorem Sb.rp: ∀{x y:AV},Sb x y-> ∀{z:Value},Rp h x z->Rp h y z
 |_,_, .refl,_,r=>r
 |_,_, .nil,z,r=>by
  rw [Rp_v] at r;rw [r.1];exact nil_rp _
 |_,_, .own (l:=l) (l':=l') s,z,r=>by
  rw [Rp_sl] at r⊢
  obtain ⟨a,c,h1,h2,_,h4⟩:=r
  have hl:=s.len
  rw [<-hl]
  refine ⟨a,c,h1,h2,trivial,fun hn=>?_⟩
  obtain ⟨b,o,g1,g2⟩:=h4 (fun hh=>hn (by subst hh;exact List.length_eq_zero_iff.1 hl.symm))
  exact ⟨b,o,g1,SbL.rpE s g2⟩
 |_,_, .ag s,z,r=>by
  rw [Rp_ag] at r⊢
  obtain ⟨cs,h1,h2⟩:=r
  exact ⟨cs,h1,SbL.rp s h2⟩
 |_,_, .tp s,z,r=>by
  rw [Rp_tp] at r⊢
  obtain ⟨cs,h1,h2⟩:=r
  exact ⟨cs,h1,SbL.rp s h2⟩
 |_,_, .ms,z,r=>by
  rw [Rp_ms] at r;rw [Rp_v]
  obtain ⟨rfl,a,c,rfl⟩:=r
  exact ⟨rfl,rfl⟩
 |_,_, .un ho,z,r=>Rp_un.2 (r.one ho)
theorem SbL.rp: ∀{x y:List AV},SbL x y-> ∀{z:List Value},RpC h x z->RpC h y z
 |_,_, .refl,_,r=>r
 |_,_, .cons s t,z,r=>by
  rw [RpC_cons] at r⊢
  obtain ⟨v,vs,h1,h2,h3⟩:=r
  exact ⟨v,vs,h1,Sb.rp s h2,SbL.rp t h3⟩
theorem SbL.rpE: ∀{x y:List AV},SbL x y-> ∀{sz b o:Nat},RpE h sz x b o->RpE h sz y b o
 |_,_, .refl,_,_,_,r=>r
 |_,_, .cons s t,sz,b,o,r=>by
  rw [RpE_cons] at r⊢
  obtain ⟨⟨z,h1,h2,h3⟩,h4⟩:=r
  exact ⟨⟨z,Sb.rp s h1,h2,h3⟩,SbL.rpE t h4⟩
end
end
end Go.Tp
namespace Go.Tp
open Go Go.RowKit
abbrev Ua:=List (Nat×AV)
abbrev Ka:=List (Nat×(Nat×Bool)×AV)
structure AEnv where
 us:Ua
 cs:Ka:=[]
def lookA:Ua->Nat->Option AV
 | [],_=>none
 |(k,v)::r,t=>match Nat.beq k t with|true=>some v|false=>lookA r t
def lookK:Ka->Nat->Option ((Nat×Bool)×AV)
 | [],_=>none
 |(k,c,v)::r,t=>match Nat.beq k t with|true=>some (c,v)|false=>lookK r t
def freeK:Ka->Nat->Bool
 | [],_=>true
 |(k,(g,_),_)::r,t=>match Nat.beq k t with|true=>false|false=>match Nat.beq g t with|true=>false|false=>freeK r t
def chainK(cs:Ka):Nat->Nat×Bool->List (Nat×Bool)
 |0,k=>[k]
 |f+1,k=>match lookK cs k.1 with
  |some (k',_)=>k::chainK cs f k'
  |none=>[k]
def RpU(h:GH):Ua->Us->Prop
 | [],us=>us=[]
 |(k,x)::r,us=> ∃v us',us=(k,v)::us'/\Rp h x v/\RpU h r us'
def RpK(h:GH):Ka->Cs->Prop
 | [],cs=>cs=[]
 |(k,g,x)::r,cs=> ∃v cs',cs=(k,g,v)::cs'/\Rp h x v/\RpK h r cs'
def RpEnv(h:GH)(E:AEnv)(e:Env):Prop:=RpU h E.us e.us/\RpK h E.cs e.cs
theorem RpU.mono{h h':GH}(hl:h.le h'): ∀{U:Ua} {us:Us},RpU h U us->RpU h' U us
 | [],_,r=>r
 |(k,x)::U,_,⟨v,us',h1,h2,h3⟩=>⟨v,us',h1,h2.mono hl,RpU.mono hl h3⟩
theorem RpK.mono{h h':GH}(hl:h.le h'): ∀{U:Ka} {us:Cs},RpK h U us->RpK h' U us
 | [],_,r=>r
 |(k,g,x)::U,_,⟨v,us',h1,h2,h3⟩=>⟨v,us',h1,h2.mono hl,RpK.mono hl h3⟩
theorem RpEnv.mono{h h':GH}(hl:h.le h'){E:AEnv}{e:Env}(r:RpEnv h E e):RpEnv h' E e:=⟨r.1.mono hl,r.2.mono hl⟩
section
variable{h:GH}
theorem RpU.look: ∀{U:Ua} {us:Us},RpU h U us-> ∀t,(∃x v,lookA U t=some x/\Go.Tp.look us t=some v/\Rp h x v)\/(lookA U t=none/\Go.Tp.look us t=none)
 | [],_,r,t=>by cases r;exact .inr ⟨rfl,rfl⟩
 |(k,x)::U,_,⟨v,us',h1,h2,h3⟩,t=>by
  subst h1
  simp only [lookA,Go.Tp.look]
  cases Nat.beq k t with
  |true=>exact .inl ⟨x,v,rfl,rfl,h2⟩
  |false=>exact RpU.look h3 t
theorem RpK.look: ∀{U:Ka} {us:Cs},RpK h U us-> ∀t,(∃c x v,lookK U t=some (c,x)/\lookc us t=some (c,v)/\Rp h x v)\/(lookK U t=none/\lookc us t=none)
 | [],_,r,t=>by cases r;exact .inr ⟨rfl,rfl⟩
 |(k,g,x)::U,_,⟨v,us',h1,h2,h3⟩,t=>by
  subst h1
  simp only [lookK,lookc]
  cases Nat.beq k t with
  |true=>exact .inl ⟨g,x,v,rfl,rfl,h2⟩
  |false=>exact RpK.look h3 t
theorem RpK.free: ∀{U:Ka} {us:Cs},RpK h U us-> ∀t,freeK U t=freeOf us t
 | [],_,r,t=>by cases r;rfl
 |(k,(g,b),x)::U,_,⟨v,us',h1,h2,h3⟩,t=>by
  subst h1
  simp only [freeK,freeOf,RpK.free h3 t]
  cases Nat.beq k t<;>simp only
  cases Nat.beq g t<;>rfl
theorem RpK.chain{U:Ka}{us:Cs}(r:RpK h U us): ∀(f:Nat) (k:Nat×Bool),chainK U f k=Go.Tp.chain us f k
 |0,k=>rfl
 |f+1,k=>by
  simp only [chainK,Go.Tp.chain]
  rcases r.look k.1 with ⟨c,x,v,e1,e2,_⟩|⟨e1,e2⟩
  ·rw [e1,e2];simp only [RpK.chain r f c]
  ·rw [e1,e2]
end
def constA(v:Value):Option AV:=match v with
 | .agg ⟨cs⟩=>match allOne cs with
   |true=>some (.ag (cs.map .v))
   |false=>none
 | .tuple _=>none
 | .func (.func f) ⟨[]⟩ ⟨[]⟩=>some (.fn f [] [])
 |x=>some (.v x)
def GsOk(h:GH)(gs:Ua):Prop:= ∀g x,lookA gs g=some x->Rp h x (.pointer (some ⟨g,0,none⟩))
theorem GsOk.mono{h h':GH}(hl:h.le h'){gs:Ua}(r:GsOk h gs):GsOk h' gs:=fun g x hx=>(r g x hx).mono hl
def AEnv.ev(gs:Ua)(e:AEnv)(ks:List (Nat×Bool)):Operand->Option AV
 | .tmp t=>match lookA e.us t with
   |some v=>some v
   |none=>match lookK e.cs t with
    |some (c,v)=>match inKeys ks c with|true=>some v|false=>none
    |none=>none
 | .const v=>constA v
 | .global g=>match lookA gs g with
   |some x=>some x
   |none=>some (.v (.pointer (some ⟨g,0,none⟩)))
 | .func f=>some (.fn f [] [])
theorem RpC_v{h:GH}: ∀{cs:List Value},allOne cs=true->RpC h (cs.map .v) cs
 | [],_=>by rw [List.map_nil,RpC_nil]
 |x::r,ho=>by
  simp only [allOne] at ho
  split at ho
  ·rename_i hx
   rw [List.map_cons,RpC_cons]
   exact ⟨x,r,rfl,Rp_v.2 ⟨rfl,hx⟩,RpC_v ho⟩
  ·cases ho
theorem constA_rp{h:GH}{v:Value}{x:AV}(hc:constA v=some x):Rp h x v:=by
 unfold constA at hc
 split at hc
 ·split at hc
  ·rename_i ho
   injection hc with hc;subst hc
   rw [Rp_ag];exact ⟨_,rfl,RpC_v ho⟩
  ·cases hc
 ·cases hc
 ·injection hc with hc;subst hc
  rw [Rp_fn];exact ⟨[],[],rfl,RpC_nil.2 rfl,RpC_nil.2 rfl⟩
 ·rename_i h1 h2 _
  injection hc with hc;subst hc
  rw [Rp_v];refine ⟨rfl,?_⟩
  cases v with
  |agg cs=>exact (h1 cs.toList rfl).elim
  |tuple cs=>exact (h2 cs rfl).elim
  |_=>rfl
theorem RpEnv.ev{h:GH}{gs:Ua}{E:AEnv}{e:Env}(g:GsOk h gs)(r:RpEnv h E e)(ks:List (Nat×Bool)){z:Operand}{x:AV}(hx:E.ev gs ks z=some x): ∃y,e.ev ks z=some y/\Rp h x y:=by
 cases z with
 |tmp t=>
  simp only [AEnv.ev] at hx
  simp only [Env.ev]
  rcases r.1.look t with ⟨x',v,e1,e2,e3⟩|⟨e1,e2⟩
  ·rw [e1] at hx;injection hx with hx;subst hx
   rw [e2];exact ⟨v,rfl,e3⟩
  ·rw [e1] at hx;rw [e2]
   rcases r.2.look t with ⟨c,x',v,g1,g2,g3⟩|⟨g1,g2⟩
   ·rw [g1] at hx;rw [g2]
    simp only at hx⊢
    split at hx
    ·rename_i hk
     injection hx with hx;subst hx
     rw [hk];exact ⟨v,rfl,g3⟩
    ·cases hx
   ·rw [g1] at hx;cases hx
 |const v=>exact ⟨v,rfl,constA_rp hx⟩
 |global n=>
  simp only [AEnv.ev] at hx
  simp only [Env.ev]
  split at hx
  ·rename_i x' hl
   injection hx with hx;subst hx
   exact ⟨_,rfl,g _ _ hl⟩
  ·injection hx with hx;subst hx
   exact ⟨_,rfl,Rp_v.2 ⟨rfl,rfl⟩⟩
 |func f=>
  injection hx with hx;subst hx
  exact ⟨_,rfl,by rw [Rp_fn];exact ⟨[],[],rfl,RpC_nil.2 rfl,RpC_nil.2 rfl⟩⟩
def subA:List AV->Nat->Nat->Option (List AV)
 |_,0,0=>some []
 | [],_,_=>none
 |c::cs,0,n+1=>match subA cs 0 n with
  |some r=>some (c::r)
  |none=>none
 |_::cs,k+1,n=>subA cs k n
theorem subA_rp{h:GH}: ∀{l:List AV} {vs:List Value},RpC h l vs-> ∀{k n:Nat} {r:List AV},subA l k n=some r-> ∃r',subL vs k n=some r'/\RpC h r r'
 |l,vs,q,0,0,r,hr=>by
  have:r=[]:=by cases l<;>(simp only [subA] at hr;injection hr with hr;exact hr.symm)
  subst this
  exact ⟨[],by cases vs<;>rfl,RpC_nil.2 rfl⟩
 | [],vs,q,k+1,n,r,hr=>by simp [subA] at hr
 | [],vs,q,0,n+1,r,hr=>by simp [subA] at hr
 |x::l,vs,q,0,n+1,r,hr=>by
  rw [RpC_cons] at q
  obtain ⟨v,vs',rfl,a1,a2⟩:=q
  simp only [subA] at hr
  split at hr
  ·rename_i r1 h1
   injection hr with hr;subst hr
   obtain ⟨r',e1,e2⟩:=subA_rp a2 h1
   exact ⟨v::r',by simp only [subL,e1],RpC_cons.2 ⟨v,r',rfl,a1,e2⟩⟩
  ·cases hr
 |x::l,vs,q,k+1,n,r,hr=>by
  rw [RpC_cons] at q
  obtain ⟨v,vs',rfl,a1,a2⟩:=q
  have hr':subA l k n=some r:=by cases n<;>simpa only [subA] using hr
  obtain ⟨r',e1,e2⟩:=subA_rp a2 hr'
  exact ⟨r',by cases n<;>simpa only [subL] using e1,e2⟩
def updA:List AV->Nat->List AV->Option (List AV)
 |cs,0,[]=>some cs
 |c::cs,0,v::vs=>match updA cs 0 vs with
  |some r=>some (v::r)
  |none=>none
 |c::cs,k+1,vs=>match updA cs k vs with
  |some r=>some (c::r)
  |none=>none
 | [],_,_=>none
theorem updA_rp{h:GH}: ∀{l:List AV} {cs:List Value},RpC h l cs-> ∀{k:Nat} {vs:List AV} {us:List Value},RpC h vs us-> ∀{r:List AV},updA l k vs=some r-> ∃r',updL cs k us=some r'/\RpC h r r'
 |l,cs,q,0,[],us,p,r,hr=>by
  rw [RpC_nil] at p;subst p
  have:r=l:=by cases l<;>(simp only [updA] at hr;injection hr with hr;exact hr.symm)
  subst this
  exact ⟨cs,by cases cs<;>rfl,q⟩
 | [],cs,q,k+1,vs,us,p,r,hr=>by simp [updA] at hr
 | [],cs,q,0,x::vs,us,p,r,hr=>by simp [updA] at hr
 |x::l,cs,q,0,z::vs,us,p,r,hr=>by
  rw [RpC_cons] at q p
  obtain ⟨v,cs',rfl,a1,a2⟩:=q
  obtain ⟨u,us',rfl,b1,b2⟩:=p
  simp only [updA] at hr
  split at hr
  ·rename_i r1 h1
   injection hr with hr;subst hr
   obtain ⟨r',e1,e2⟩:=updA_rp a2 b2 h1
   exact ⟨u::r',by simp only [updL,e1],RpC_cons.2 ⟨u,r',rfl,b1,e2⟩⟩
  ·cases hr
 |x::l,cs,q,k+1,vs,us,p,r,hr=>by
  rw [RpC_cons] at q
  obtain ⟨v,cs',rfl,a1,a2⟩:=q
  simp only [updA] at hr
  split at hr
  ·rename_i r1 h1
   injection hr with hr;subst hr
   obtain ⟨r',e1,e2⟩:=updA_rp a2 p h1
   exact ⟨v::r',by simp only [updL,e1],RpC_cons.2 ⟨v,r',rfl,a1,e2⟩⟩
  ·cases hr
theorem nthL_rp{h:GH}{l:List AV}{vs:List Value}(q:RpC h l vs){n:Nat}{x:AV}(hx:nthL l n=some x): ∃v,nthL vs n=some v/\Rp h x v:=by
 rw [nthL_eq] at hx
 obtain ⟨v,e1,e2⟩:=q.at hx
 exact ⟨v,by rw [nthL_eq];exact e1,e2⟩
def partA(fi:TI)(cs:List AV)(off:Nat):Option AV:=
 match fi.agg with
 |true=>match subA cs off fi.size with
  |some r=>some (.ag r)
  |none=>none
 |false=>nthL cs off
theorem partA_rp{h:GH}{fi:TI}{l:List AV}{vs:List Value}(q:RpC h l vs){off:Nat}{x:AV}(hx:partA fi l off=some x): ∃v,partv fi vs off=some v/\Rp h x v:=by
 unfold partA at hx
 unfold partv
 split at hx
 ·rename_i ha
  split at hx
  ·rename_i r hr
   injection hx with hx;subst hx
   obtain ⟨r',e1,e2⟩:=subA_rp q hr
   rw [ha];simp only [e1]
   exact ⟨_,rfl,Rp_ag.2 ⟨r',rfl,e2⟩⟩
  ·cases hx
 ·rename_i ha
  rw [ha];simp only
  exact nthL_rp q hx
def one1(x:Value):Option AV:=match oneC x with
 |true=>some (.v x)
 |false=>none
theorem one1_rp{h:GH}{x:Value}{y:AV}(hy:one1 x=some y):Rp h y x:=by
 unfold one1 at hy
 split at hy
 ·rename_i ho;injection hy with hy;subst hy;exact Rp_v.2 ⟨rfl,ho⟩
 ·cases hy
def opt1:Option Value->Option AV
 |some x=>one1 x
 |none=>none
def binA(S:TT)(op:BinOp)(t:TypeId):AV->AV->Option AV
 | .v a, .v b=>opt1 (binv S op t a b)
 | .fn _ _ _, .v .nilFunc=>match S.get t with
   |some ti=>match ti.d with
    | .func _ _ _=>match op with
      | .eql=>some (.v (.bool false))
      | .neq=>some (.v (.bool true))
      |_=>none
    |_=>none
   |none=>none
 |_,_=>none
def evsA(ρ:Operand->Option AV):List Operand->Option (List AV)
 | []=>some []
 |x::r=>match ρ x with
  |some v=>match evsA ρ r with
   |some vs=>some (v::vs)
   |none=>none
  |none=>none
def cellsA:AV->Option (List AV)
 | .ag l=>some l
 | .tp _=>none
 |x=>some [x]
theorem cellsA_rp{h:GH}{x:AV}{y:Value}{l:List AV}(q:Rp h x y)(hl:cellsA x=some l):RpC h l (cellsL y):=by
 cases x with
 |ag l'=>injection hl with hl;subst hl;exact q.cells (.inr ⟨_,rfl⟩)
 |tp l'=>cases hl
 |v x=>injection hl with hl;subst hl;exact q.cells (.inl rfl)
 |sl a b c=>injection hl with hl;subst hl;exact q.cells (.inl rfl)
 |pe a b=>injection hl with hl;subst hl;exact q.cells (.inl rfl)
 |fn a b c=>injection hl with hl;subst hl;exact q.cells (.inl rfl)
 |ms a b c=>injection hl with hl;subst hl;exact q.cells (.inl rfl)
 |ep a b c=>injection hl with hl;subst hl;exact q.cells (.inl rfl)
 |eb a b=>injection hl with hl;subst hl;exact q.cells (.inl rfl)
 |un=>injection hl with hl;subst hl;exact q.cells (.inl rfl)
def lenN:List AV->Nat
 | []=>0
 |_::r=>Nat.succ (lenN r)
theorem lenN_eq(l:List AV):lenN l=l.length:=by induction l with
 |nil=>rfl
 |cons x r ih=>simp [lenN,ih]
def layA(place:Nat->Option (Nat×Nat))(ρ:Operand->Option AV):List (Nat×Operand)->List AV->Option (List AV)
 | [],cs=>some cs
 |(i,x)::r,cs=>match ρ x with
  |some v=>match cellsA v with
   |some vs=>match place i with
    |some (off,size)=>match Nat.beq (lenN vs) size with
     |true=>match updA cs off vs with
      |some cs'=>layA place ρ r cs'
      |none=>none
     |false=>none
    |none=>none
   |none=>none
  |none=>none
def buildA(S:TT)(ρ:Operand->Option AV)(t:TypeId)(parts:List (Nat×Operand)):Option AV:=
 match S.get t with
 |some ti=>match allOne ti.zero with
  |true=>match ti.d with
   | .struct fs=>match allTyped S fs.toList with
     |true=>match layA (structPlace S fs.toList) ρ parts (ti.zero.map .v) with
      |some r=>some (.ag r)
      |none=>none
     |false=>none
   | .array _ el=>match S.get el with
     |some ei=>match layA (fun i=>some (i*ei.size,ei.size)) ρ parts (ti.zero.map .v) with
      |some r=>some (.ag r)
      |none=>none
     |none=>none
   |_=>none
  |false=>none
 |none=>none
def fieldA(S:TT)(t:TypeId)(i:Nat):AV->Option AV
 | .ag cs=>match fieldOf S t i with
   |some (off,fi)=>partA fi cs off
   |none=>none
 |_=>none
def fieldAddrA(S:TT)(t:TypeId)(i:Nat):AV->Option AV
 | .v x=>opt1 (fieldAddrv S t i x)
 | .pe _ (.ag cs)=>match fieldOf S t i with
   |some (off,fi)=>match Nat.beq fi.size 0 with
    |true=>none
    |false=>match subA cs off fi.size with
     |some r=>match fi.agg with
      |true=>some (.pe fi.size (.ag r))
      |false=>match r with
       | [x]=>match x.one with
         |true=>some (.pe fi.size x)
         |false=>none
       |_=>none
     |none=>none
   |none=>none
 |_=>none
def lenA(S:TT)(t:TypeId):AV->Option AV
 | .v x=>opt1 (lenv S t x)
 | .sl _ l _=>match S.get t with
   |some ti=>match ti.d with
    | .slice _=>some (.v (.int .i64 (l.length:Int)))
    |_=>none
   |none=>none
 | .ms _ _ n=>match S.get t with
   |some ti=>match ti.d with
    | .slice _=>some (.v (.int .i64 (n:Int)))
    |_=>none
   |none=>none
 |_=>none
def rawL:List AV->Option (List Value)
 | []=>some []
 | .v x::r=>match rawL r with
   |some l=>some (x::l)
   |none=>none
 |_::_=>none
def builtinA(S:TT)(b:Builtin)(ts:List TypeId)(vs:List AV):Option AV:=
 match b with
 | .len=>match ts with
   | [t]=>match vs with
     | [v]=>lenA S t v
     |_=>none
   |_=>none
 | .max=>match vs with
   | [.v x, .v y]=>opt1 (builtinv S .max ts [x,y])
   |_=>none
 | .min=>match vs with
   | [.v x, .v y]=>opt1 (builtinv S .min ts [x,y])
   |_=>none
 |_=>none
def apv(S:TT)(ρ:Operand->Option AV):Op->Option AV
 | .move x=>ρ x
 | .assign x=>ρ x
 | .pick c a b=>match ρ c with
   |some (.v (.bool g))=>match ρ a with
    |some (.v (.bool x))=>match ρ b with
     |some (.v (.bool y))=>some (.v (.bool (bif g then x else y)))
     |_=>none
    |_=>none
   |_=>none
 | .binOp op t x y _=>match ρ x with
   |some a=>match ρ y with
    |some b=>binA S op t a b
    |none=>none
   |none=>none
 | .unOp op _ x=>match ρ x with
   |some (.v a)=>opt1 (unv op a)
   |_=>none
 | .convert s d x=>match ρ x with
   |some (.v a)=>opt1 (convv S s d a)
   |_=>none
 | .field t x i=>match ρ x with
   |some a=>fieldA S t i a
   |none=>none
 | .fieldAddr t x i=>match ρ x with
   |some a=>fieldAddrA S t i a
   |none=>none
 | .extract x i=>match ρ x with
   |some (.tp vs)=>nthL vs i
   |_=>none
 | .build t parts=>buildA S ρ t parts.toList
 | .makeFunc (.func f) first cap=>match evsA ρ first.toList with
   |some a=>match evsA ρ cap.toList with
    |some b=>some (.fn f a b)
    |none=>none
   |none=>none
 | .nilCheck x=>match ρ x with
   |some (.v (.pointer (some a)))=>some (.v (.pointer (some a)))
   |some (.fn f a b)=>some (.fn f a b)
   |some (.pe sz x)=>some (.pe sz x)
   |_=>none
 | .call c=>match c.callee with
   | .builtin b=>match evsA ρ c.args.toList with
     |some vs=>builtinA S b c.argTypes.toList vs
     |none=>none
   |_=>none
 |_=>none
section
variable{h:GH}{S:TT}{ρ:Operand->Option AV}{σ:Operand->Option Value}
theorem opt1_rp{y:Option Value}{x:AV}(hy:opt1 y=some x): ∃z,y=some z/\Rp h x z:=by
 cases y with
 |none=>cases hy
 |some z=>exact ⟨z,rfl,one1_rp hy⟩
theorem evsA_rp(hρ: ∀z x,ρ z=some x-> ∃y,σ z=some y/\Rp h x y): ∀{l:List Operand} {vs:List AV},evsA ρ l=some vs-> ∃us,evs σ l=some us/\RpC h vs us
 | [],_,hl=>by simp only [evsA] at hl;injection hl with hl;subst hl;exact ⟨[],rfl,RpC_nil.2 rfl⟩
 |z::r,_,hl=>by
  simp only [evsA] at hl
  split at hl
  ·rename_i x hx
   split at hl
   ·rename_i vs hvs
    injection hl with hl;subst hl
    obtain ⟨y,e1,e2⟩:=hρ z x hx
    obtain ⟨us,e3,e4⟩:=evsA_rp hρ hvs
    exact ⟨y::us,by simp only [evs,e1,e3],RpC_cons.2 ⟨y,us,rfl,e2,e4⟩⟩
   ·cases hl
  ·cases hl
theorem layA_rp(hρ: ∀z x,ρ z=some x-> ∃y,σ z=some y/\Rp h x y){place:Nat->Option (Nat×Nat)}: ∀{parts:List (Nat×Operand)} {cs r:List AV} {us:List Value},RpC h cs us->layA place ρ parts cs=some r->
 ∃r',layL place σ parts us=some r'/\RpC h r r'
 | [],cs,r,us,q,hr=>by simp only [layA] at hr;injection hr with hr;subst hr;exact ⟨us,rfl,q⟩
 |(i,z)::p,cs,r,us,q,hr=>by
  simp only [layA] at hr
  split at hr
  ·rename_i v hv
   split at hr
   ·rename_i vs hc
    split at hr
    ·rename_i off size hp
     split at hr
     ·rename_i hlen
      split at hr
      ·rename_i cs' hu
       obtain ⟨y,e1,e2⟩:=hρ z v hv
       have e3:=cellsA_rp e2 hc
       obtain ⟨r1,e4,e5⟩:=updA_rp q e3 hu
       obtain ⟨r',e6,e7⟩:=layA_rp hρ e5 hr
       have e8:Nat.beq (cellsL y).length size=true:=by rw [e3.len,<-lenN_eq];exact hlen
       exact ⟨r',by simp only [layL,e1,hp,e8,e4,e6],e7⟩
      ·cases hr
     ·cases hr
    ·cases hr
   ·cases hr
  ·cases hr
theorem buildA_rp(hρ: ∀z x,ρ z=some x-> ∃y,σ z=some y/\Rp h x y){t:TypeId}{parts:List (Nat×Operand)}{x:AV}(hx:buildA S ρ t parts=some x): ∃y,buildv S σ t parts=some y/\Rp h x y:=by
 unfold buildA at hx
 unfold buildv
 split at hx
 ·rename_i ti ht
  rw [ht]
  split at hx
  ·rename_i hz
   have q:=RpC_v (h:=h) hz
   split at hx
   ·rename_i fs hd
    simp only [hd]
    split at hx
    ·rename_i hty
     simp only [hty]
     split at hx
     ·rename_i r hr
      injection hx with hx;subst hx
      obtain ⟨r',e1,e2⟩:=layA_rp hρ q hr
      simp only [e1]
      exact ⟨_,rfl,Rp_ag.2 ⟨r',rfl,e2⟩⟩
     ·cases hx
    ·cases hx
   ·rename_i n el hd
    simp only [hd]
    split at hx
    ·rename_i ei hei
     simp only [hei]
     split at hx
     ·rename_i r hr
      injection hx with hx;subst hx
      obtain ⟨r',e1,e2⟩:=layA_rp hρ q hr
      simp only [e1]
      exact ⟨_,rfl,Rp_ag.2 ⟨r',rfl,e2⟩⟩
     ·cases hx
    ·cases hx
   ·cases hx
  ·cases hx
 ·cases hx
theorem cellsL_sub{h:GH}{l r:List AV}{vs:List Value}(q:RpC h l vs){k n:Nat}(hs:subA l k n=some r){b o:Nat}(ha:atH h b o vs):
 ∃us,RpC h r us/\us.length=n/\atH h b (o+k) us:=by
 obtain ⟨us,e1,e2⟩:=subA_rp q hs
 obtain ⟨g1,g2,g3⟩:=subL_spec _ _ _ e1
 refine ⟨us,e2,g1,fun i v hv=>?_⟩
 have hi:i<n:=by
  rcases Nat.lt_or_ge i n with hi|hi
  ·exact hi
  ·rw [List.getElem?_eq_none (by omega)] at hv;cases hv
 rw [g3 i hi] at hv
 have:=ha _ _ hv
 rwa [<-Nat.add_assoc] at this
theorem apv_rp(hρ: ∀z x,ρ z=some x-> ∃y,σ z=some y/\Rp h x y){op:Op}{x:AV}(hx:apv S ρ op=some x): ∃y,pv S σ op=some y/\Rp h x y:=by
 unfold apv at hx
 split at hx
 ·exact hρ _ _ hx
 ·exact hρ _ _ hx
 ·rename_i c a b
  split at hx
  ·rename_i g hg
   split at hx
   ·rename_i p hp
    split at hx
    ·rename_i q hq
     injection hx with hx;subst hx
     obtain ⟨y1,e1,f1⟩:=hρ _ _ hg
     obtain ⟨y2,e2,f2⟩:=hρ _ _ hp
     obtain ⟨y3,e3,f3⟩:=hρ _ _ hq
     rw [Rp_v] at f1 f2 f3
     rw [f1.1] at e1;rw [f2.1] at e2;rw [f3.1] at e3
     simp only [pv,e1,e2,e3]
     exact ⟨_,rfl,Rp_v.2 ⟨rfl,rfl⟩⟩
    ·cases hx
   ·cases hx
  ·cases hx
 ·rename_i op t a b _
  split at hx
  ·rename_i p hp
   split at hx
   ·rename_i q hq
    obtain ⟨y1,e1,f1⟩:=hρ _ _ hp
    obtain ⟨y2,e2,f2⟩:=hρ _ _ hq
    simp only [pv,e1,e2]
    unfold binA at hx
    split at hx
    ·rw [Rp_v] at f1 f2
     rw [f1.1,f2.1]
     exact opt1_rp hx
    ·rw [Rp_fn] at f1
     obtain ⟨u,w,rfl,_⟩:=f1
     rw [Rp_v] at f2
     rw [f2.1]
     unfold binv
     split at hx
     ·rename_i ti ht
      simp only [ht]
      split at hx
      ·rename_i hd
       simp only [hd]
       split at hx
       ·injection hx with hx;subst hx;exact ⟨_,rfl,Rp_v.2 ⟨rfl,rfl⟩⟩
       ·injection hx with hx;subst hx;exact ⟨_,rfl,Rp_v.2 ⟨rfl,rfl⟩⟩
       ·cases hx
      ·cases hx
     ·cases hx
    ·cases hx
   ·cases hx
  ·cases hx
 ·split at hx
  ·rename_i a ha
   obtain ⟨y1,e1,f1⟩:=hρ _ _ ha
   rw [Rp_v] at f1;rw [f1.1] at e1
   simp only [pv,e1]
   exact opt1_rp hx
  ·cases hx
 ·split at hx
  ·rename_i a ha
   obtain ⟨y1,e1,f1⟩:=hρ _ _ ha
   rw [Rp_v] at f1;rw [f1.1] at e1
   simp only [pv,e1]
   exact opt1_rp hx
  ·cases hx
 ·rename_i t z i
  split at hx
  ·rename_i a ha
   obtain ⟨y1,e1,f1⟩:=hρ _ _ ha
   simp only [pv,e1]
   unfold fieldA at hx
   split at hx
   ·rw [Rp_ag] at f1
    obtain ⟨cs,rfl,f1⟩:=f1
    unfold fieldv
    split at hx
    ·rename_i off fi hf
     simp only [hf]
     exact partA_rp f1 hx
    ·cases hx
   ·cases hx
  ·cases hx
 ·rename_i t z i
  split at hx
  ·rename_i a ha
   obtain ⟨y1,e1,f1⟩:=hρ _ _ ha
   simp only [pv,e1]
   unfold fieldAddrA at hx
   split at hx
   ·rw [Rp_v] at f1;rw [f1.1]
    exact opt1_rp hx
   ·rw [Rp_pe] at f1
    obtain ⟨b,o,zz,rfl,f1,f2,f3⟩:=f1
    rw [Rp_ag] at f1
    obtain ⟨cs,rfl,f1⟩:=f1
    unfold fieldAddrv
    split at hx
    ·rename_i off fi hf
     simp only [hf]
     split at hx
     ·cases hx
     ·rename_i hz
      simp only [hz]
      split at hx
      ·rename_i r hr
       obtain ⟨us,g1,g2,g3⟩:=cellsL_sub f1 hr f3
       split at hx
       ·injection hx with hx;subst hx
        exact ⟨_,rfl,Rp_pe.2 ⟨b,o+off, .agg ⟨us⟩,rfl,Rp_ag.2 ⟨us,rfl,g1⟩,g2,g3⟩⟩
       ·split at hx
        ·rename_i x' _
         split at hx
         ·rename_i ho
          injection hx with hx;subst hx
          rw [RpC_cons] at g1
          obtain ⟨u,us',rfl,g4,g5⟩:=g1
          rw [RpC_nil] at g5;subst g5
          have:=cellsL_one (g4.one ho)
          exact ⟨_,rfl,Rp_pe.2 ⟨b,o+off,u,rfl,g4,by rw [this];exact g2,by rw [this];exact g3⟩⟩
         ·cases hx
        ·cases hx
      ·cases hx
    ·cases hx
   ·cases hx
  ·cases hx
 ·split at hx
  ·rename_i vs ha
   obtain ⟨y1,e1,f1⟩:=hρ _ _ ha
   rw [Rp_tp] at f1
   obtain ⟨us,rfl,f1⟩:=f1
   simp only [pv,e1]
   exact nthL_rp f1 hx
  ·cases hx
 ·exact buildA_rp hρ hx
 ·rename_i f first cap
  split at hx
  ·rename_i a ha
   split at hx
   ·rename_i b hb
    injection hx with hx;subst hx
    obtain ⟨us,e1,e2⟩:=evsA_rp hρ ha
    obtain ⟨ws,e3,e4⟩:=evsA_rp hρ hb
    simp only [pv,e1,e3]
    exact ⟨_,rfl,Rp_fn.2 ⟨us,ws,rfl,e2,e4⟩⟩
   ·cases hx
  ·cases hx
 ·split at hx
  ·rename_i a ha
   injection hx with hx;subst hx
   obtain ⟨y1,e1,f1⟩:=hρ _ _ ha
   rw [Rp_v] at f1;rw [f1.1] at e1
   simp only [pv,e1]
   exact ⟨_,rfl,Rp_v.2 ⟨rfl,rfl⟩⟩
  ·rename_i f a b ha
   injection hx with hx;subst hx
   obtain ⟨y1,e1,f1⟩:=hρ _ _ ha
   have f1':=f1
   rw [Rp_fn] at f1
   obtain ⟨u,w,rfl,_⟩:=f1
   simp only [pv,e1]
   exact ⟨_,rfl,f1'⟩
  ·rename_i sz z ha
   injection hx with hx;subst hx
   obtain ⟨y1,e1,f1⟩:=hρ _ _ ha
   have f1':=f1
   rw [Rp_pe] at f1
   obtain ⟨b,o,zz,rfl,_⟩:=f1
   simp only [pv,e1]
   exact ⟨_,rfl,f1'⟩
  ·cases hx
 ·rename_i c
  split at hx
  ·rename_i b hb
   split at hx
   ·rename_i vs hvs
    obtain ⟨us,e1,e2⟩:=evsA_rp hρ hvs
    simp only [pv,hb,e1]
    unfold builtinA at hx
    split at hx
    ·split at hx
     ·rename_i t hts
      split at hx
      ·rw [RpC_cons] at e2
       obtain ⟨u,us',rfl,e2,e3⟩:=e2
       rw [RpC_nil] at e3;subst e3
       simp only [builtinv,hts]
       unfold lenA at hx
       split at hx
       ·rw [Rp_v] at e2;rw [e2.1]
        exact opt1_rp hx
       ·rw [Rp_sl] at e2
        obtain ⟨a,cap,rfl,_⟩:=e2
        unfold lenv
        split at hx
        ·rename_i ti ht
         simp only [ht]
         split at hx
         ·rename_i hd
          simp only [hd]
          injection hx with hx;subst hx
          exact ⟨_,rfl,Rp_v.2 ⟨rfl,rfl⟩⟩
         ·cases hx
        ·cases hx
       ·rw [Rp_ms] at e2
        obtain ⟨rfl,a,cap,rfl⟩:=e2
        unfold lenv
        split at hx
        ·rename_i ti ht
         simp only [ht]
         split at hx
         ·rename_i hd
          simp only [hd]
          injection hx with hx;subst hx
          exact ⟨_,rfl,Rp_v.2 ⟨rfl,rfl⟩⟩
         ·cases hx
        ·cases hx
       ·cases hx
      ·cases hx
     ·cases hx
    ·split at hx
     ·rw [RpC_cons] at e2
      obtain ⟨u,us',rfl,e2,e3⟩:=e2
      rw [RpC_cons] at e3
      obtain ⟨u2,us2,rfl,e3,e4⟩:=e3
      rw [RpC_nil] at e4;subst e4
      rw [Rp_v] at e2 e3
      rw [e2.1,e3.1]
      exact opt1_rp hx
     ·cases hx
    ·split at hx
     ·rw [RpC_cons] at e2
      obtain ⟨u,us',rfl,e2,e3⟩:=e2
      rw [RpC_cons] at e3
      obtain ⟨u2,us2,rfl,e3,e4⟩:=e3
      rw [RpC_nil] at e4;subst e4
      rw [Rp_v] at e2 e3
      rw [e2.1,e3.1]
      exact opt1_rp hx
     ·cases hx
    ·cases hx
   ·cases hx
  ·cases hx
 ·cases hx
end
end Go.Tp
namespace Go.Tp
open Go Go.RowKit
inductive AEnt where
 |box (b:Nat) (x:AV)
 |row (sz:Nat) (z:Value) (l:List AV)
 |rows (sz:Nat) (hs:List (Value×List AV))
 |tail (sz:Nat) (z:Value)
 |loop (l:Nat) (r:Loop) (st:LoopState) (pd:Option Code)
 |mp (b:Nat) (ks:List Value) (xs:List AV)
def mapEs:List Value->List Value->Nat->List MapEntry
 |k::ks,v::vs,i=>⟨k,v,i⟩::mapEs ks vs (i+1)
 |_,_,_=>[]
structure Els(h:GH)(sz:Nat)(l:List AV)(zs:List Value):Prop where
 rp:RpC h l zs
 sz: ∀z,z∈zs->(cellsL z).length=sz
 one: ∀z,z∈zs->allOne (cellsL z)=true
def catL(zs:List Value):List Value:=zs.flatMap cellsL
def RpRow(h:GH)(sz:Nat)(z:Value)(l:List AV)(p:Ent):Prop:=
 ∃a cap zs,z= .slice a l.length cap/\l.length<=cap/\Els h sz l zs/\p.obj=none/\
  ((l=[]/\p.cs=[]/\cap=0/\ ∀y,a=some y->y.spot=none)\/ ∃b o sp,a=some ⟨b,o,none⟩/\p=⟨b,o,catL zs++sp,none⟩/\sp.length=(cap-l.length)*sz)
def RpRows(h:GH)(sz:Nat):List (Value×List AV)->List Ent->Prop
 | [],L=>L=[]
 |(z,l)::r,L=> ∃p L',L=p::L'/\RpRow h sz z l p/\RpRows h sz r L'
def RpEnt(h:GH):AEnt->List Ent->Prop
 | .box b x,L=> ∃z,Rp h x z/\L=[⟨b,0,cellsL z,none⟩]
 | .row sz z l,L=> ∃p,RpRow h sz z l p/\L=[p]
 | .rows sz hs,L=>RpRows h sz hs L
 | .tail sz z,L=> ∃p,Tl sz z p/\L=[p]
 | .loop l r st pd,L=>L=[⟨l,0,[],some (.loop {r with state:=st,pending:=pd})⟩]
 | .mp b ks xs,L=>ks.length=xs.length/\ ∃vs,RpC h xs vs/\L=[⟨b,0,[],some (.map ⟨mapEs ks vs 0⟩ ks.length)⟩]
def RpL(h:GH):List AEnt->List Ent->Prop
 | [],L=>L=[]
 |x::r,L=> ∃L1 L2,L=L1++L2/\RpEnt h x L1/\RpL h r L2
theorem Els.mono{h h':GH}(hl:h.le h'){sz:Nat}{l:List AV}{zs:List Value}(r:Els h sz l zs):Els h' sz l zs:=⟨r.rp.mono hl,r.sz,r.one⟩
theorem RpRow.mono{h h':GH}(hl:h.le h'){sz:Nat}{z:Value}{l:List AV}{p:Ent}(r:RpRow h sz z l p):RpRow h' sz z l p:=by
 obtain ⟨a,cap,zs,h1,h2,h3,h4⟩:=r;exact ⟨a,cap,zs,h1,h2,h3.mono hl,h4⟩
theorem RpRows.mono{h h':GH}(hl:h.le h'){sz:Nat}: ∀{hs:List (Value×List AV)} {L:List Ent},RpRows h sz hs L->RpRows h' sz hs L
 | [],_,r=>r
 |(z,l)::hs,_,⟨p,L',h1,h2,h3⟩=>⟨p,L',h1,h2.mono hl,RpRows.mono hl h3⟩
theorem RpEnt.mono{h h':GH}(hl:h.le h'){x:AEnt}{p:List Ent}(r:RpEnt h x p):RpEnt h' x p:=by
 cases x with
 |box b x=>obtain ⟨z,h1,h2⟩:=r;exact ⟨z,h1.mono hl,h2⟩
 |row sz z l=>obtain ⟨p,h1,h2⟩:=r;exact ⟨p,h1.mono hl,h2⟩
 |rows sz hs=>exact RpRows.mono hl r
 |tail sz z=>exact r
 |loop l r' st pd=>exact r
 |mp b ks xs=>obtain ⟨h1,vs,h2,h3⟩:=r;exact ⟨h1,vs,h2.mono hl,h3⟩
theorem RpL.mono{h h':GH}(hl:h.le h'): ∀{Λ:List AEnt} {L:List Ent},RpL h Λ L->RpL h' Λ L
 | [],_,r=>r
 |x::r,_,⟨p,L',h1,h2,h3⟩=>⟨p,L',h1,h2.mono hl,RpL.mono hl h3⟩
section
variable{h:GH}
theorem RpL.perm{Λ Λ':List AEnt}(p:Λ.Perm Λ'): ∀{L:List Ent},RpL h Λ L-> ∃L',RpL h Λ' L'/\L.Perm L':=by
 induction p with
 |nil=>intro L r;exact ⟨L,r, .refl _⟩
 |cons x _ ih=>
  intro L r
  obtain ⟨q,L1,rfl,h1,h2⟩:=r
  obtain ⟨L2,h3,h4⟩:=ih h2
  exact ⟨q++L2,⟨q,L2,rfl,h1,h3⟩,h4.append_left q⟩
 |swap x y l=>
  intro L r
  obtain ⟨q,L1,rfl,h1,q',L2,rfl,h2,h3⟩:=r
  refine ⟨q'++(q++L2),⟨q',_,rfl,h2,q,L2,rfl,h1,h3⟩,?_⟩
  rw [<-List.append_assoc,<-List.append_assoc]
  exact List.perm_append_comm.append_right L2
 |trans _ _ ih1 ih2=>
  intro L r
  obtain ⟨L1,h1,h2⟩:=ih1 r
  obtain ⟨L2,h3,h4⟩:=ih2 h1
  exact ⟨L2,h3,h2.trans h4⟩
theorem RpL.sub{Λ Λ':List AEnt}(s:Λ'.Sublist Λ): ∀{L:List Ent},RpL h Λ L-> ∃L',RpL h Λ' L'/\L'.Sublist L:=by
 induction s with
 |slnil=>intro L r;exact ⟨L,r, .refl _⟩
 |cons x _ ih=>
  intro L r
  obtain ⟨q,L1,rfl,h1,h2⟩:=r
  obtain ⟨L2,h3,h4⟩:=ih h2
  exact ⟨L2,h3,h4.trans (List.sublist_append_right q L1)⟩
 |cons_cons x _ ih=>
  intro L r
  obtain ⟨q,L1,rfl,h1,h2⟩:=r
  obtain ⟨L2,h3,h4⟩:=ih h2
  exact ⟨q++L2,⟨q,L2,rfl,h1,h3⟩,h4.append_left q⟩
theorem RpL.append: ∀{Λ Λ':List AEnt} {L L':List Ent},RpL h Λ L->RpL h Λ' L'->RpL h (Λ++Λ') (L++L')
 | [],_,_,_,a,b=>by cases a;exact b
 |x::r,_,_,_,⟨p,L1,h1,h2,h3⟩,b=>by subst h1;exact ⟨p,_,by rw [List.append_assoc],h2,RpL.append h3 b⟩
theorem RpL.split: ∀{Λ Λ':List AEnt} {L:List Ent},RpL h (Λ++Λ') L-> ∃L1 L2,L=L1++L2/\RpL h Λ L1/\RpL h Λ' L2
 | [],_,L,a=>⟨[],L,rfl,rfl,a⟩
 |x::r,_,_,⟨p,L1,h1,h2,h3⟩=>by
  obtain ⟨L2,L3,g1,g2,g3⟩:=RpL.split h3
  subst h1;subst g1
  exact ⟨p++L2,L3,by rw [List.append_assoc],⟨p,L2,rfl,h2,g2⟩,g3⟩
theorem RpL.one{x:AEnt}{Λ:List AEnt}{p:Ent}{L:List Ent}(a:RpEnt h x [p])(b:RpL h Λ L):RpL h (x::Λ) (p::L):=⟨[p],L,rfl,a,b⟩
theorem RpL.mem: ∀{Λ:List AEnt} {L:List Ent},RpL h Λ L-> ∀{x:AEnt},x∈Λ-> ∃L1,(∀p,p∈L1->p∈L)/\RpEnt h x L1
 | [],_,_,_,hx=>by cases hx
 |y::Λ,_,⟨p,L',h1,h2,h3⟩,x,hx=>by
  subst h1
  rcases List.mem_cons.1 hx with rfl|hx
  ·exact ⟨p,fun q hq=>List.mem_append_left _ hq,h2⟩
  ·obtain ⟨q,g1,g2⟩:=RpL.mem h3 hx
   exact ⟨q,fun r hr=>List.mem_append_right _ (g1 r hr),g2⟩
theorem RpL.mid{Λ1 Λ2:List AEnt}{x:AEnt}{L:List Ent}(r:RpL h (Λ1++x::Λ2) L): ∃L1 M L2,L=L1++(M++L2)/\RpL h Λ1 L1/\RpEnt h x M/\RpL h Λ2 L2:=by
 obtain ⟨L1,L',h1,h2,p,L2,h3,h4,h5⟩:=r.split
 subst h3
 exact ⟨L1,p,L2,h1,h2,h4,h5⟩
theorem RpL.mid_of{Λ1 Λ2:List AEnt}{x:AEnt}{L1 M L2:List Ent}(a:RpL h Λ1 L1)(b:RpEnt h x M)(c:RpL h Λ2 L2):RpL h (Λ1++x::Λ2) (L1++(M++L2)):=a.append ⟨M,L2,rfl,b,c⟩
end
structure AC where
 P:Program
 S:TT
 w0:World
 f:FuncId
 fn:Func
 n:Nat
 ok:S.Ok P
 hfn:P.funcs[f]? =some fn
 h0:GH
 F:List Ent
 gs:Ua
 hgs:GsOk h0 gs
 Q:AV->List AEnt->Prop
 D:List Nat:=[]
 rd:Option Nat:=none
def AC.G(K:AC):List Ent:=dEnts K.D++K.F
def AC.R(K:AC):Value->GH->List Ent->Prop:=fun v h' L'=> ∃x Λ' L1,K.Q x Λ'/\Rp h' x v/\K.h0.le h'/\RpL h' Λ' L1/\(L1++K.F).Sublist L'
def AC.cfg(K:AC):Cfg:=⟨K.P,K.S,K.w0,K.f,K.fn,K.n,K.R,K.ok,K.hfn,K.D,K.rd⟩
structure A(K:AC)(k:List It)(E:AEnv)(Λ:List AEnt):Prop where
 run: ∀h e L,K.h0.le h->RpEnv h E e->RpL h Λ L->V K.cfg k e h (L++K.G)
def gmodeA(E:AEnv)(all:Array Oper):Option (Nat×Bool)->Option (Option (Nat×Bool)×List (Nat×Bool))
 |none=>some (none,[])
 |some (j,w)=>match nthL all.toList j with
  |some o=>match o.dst with
   |some t=>some (some (t,w),chainK E.cs 6 (t,w))
   |none=>none
  |none=>none
def gyesA(E:AEnv)(all:Array Oper):Option (Nat×Bool)->Option (List (Nat×Bool))
 |none=>some []
 |some (j,w)=>match nthL all.toList j with
  |some o=>match o.dst with
   |some t=>match lookA E.us t with
    |some (.v (.bool b))=>match b,w with
     |true,true=>some [(t,w)]
     |false,false=>some [(t,w)]
     |_,_=>none
    |_=>none
   |none=>none
  |none=>none
def gnoA(E:AEnv)(all:Array Oper):Option (Nat×Bool)->Option Bool
 |none=>none
 |some (j,w)=>match nthL all.toList j with
  |some o=>match o.dst with
   |some t=>match lookA E.us t with
    |some (.v (.bool b))=>match b,w with
     |true,false=>some true
     |false,true=>some true
     |_,_=>none
    |_=>none
   |none=>none
  |none=>none
def AEnv.put(n:Nat)(m:Option (Nat×Bool))(d:Option Nat)(v:AV)(e:AEnv):Option AEnv:=
 match d with
 |none=>some e
 |some d=>match Nat.blt d n with
  |false=>none
  |true=>match freeK e.cs d with
   |false=>none
   |true=>match m with
    |none=>some ⟨(d,v)::e.us,e.cs⟩
    |some k=>match lookA e.us d with
     |some _=>none
     |none=>match Nat.beq k.1 d with
      |true=>none
      |false=>some ⟨e.us,(d,k,v)::e.cs⟩
def okPutA(n:Nat)(e:AEnv)(d:Nat):Bool:=match Nat.blt d n with
 |true=>freeK e.cs d
 |false=>false
section
variable{h:GH}{E E':AEnv}{e:Env}{all:Array Oper}
theorem gmodeA_eq(r:RpEnv h E e)(g:Option (Nat×Bool)):gmodeA E all g=gmode e all g:=by
 cases g with
 |none=>rfl
 |some x=>
  obtain ⟨j,w⟩:=x
  simp only [gmodeA,gmode]
  cases nthL all.toList j with
  |none=>rfl
  |some o=>
   simp only
   cases o.dst with
   |none=>rfl
   |some t=>simp only;rw [r.2.chain]
theorem gyesA_eq(r:RpEnv h E e){g:Option (Nat×Bool)}{ks:List (Nat×Bool)}(hg:gyesA E all g=some ks):gyes e all g=some ks:=by
 cases g with
 |none=>exact hg
 |some x=>
  obtain ⟨j,w⟩:=x
  simp only [gyesA] at hg
  simp only [gyes]
  split at hg
  ·rename_i o ho
   simp only [ho]
   split at hg
   ·rename_i t ht
    simp only [ht]
    split at hg
    ·rename_i b hb
     rcases r.1.look t with ⟨x,v,e1,e2,e3⟩|⟨e1,e2⟩
     ·rw [hb] at e1;injection e1 with e1;subst e1
      rw [Rp_v] at e3;rw [e3.1] at e2
      simp only [e2]
      exact hg
     ·rw [hb] at e1;cases e1
    ·cases hg
   ·cases hg
  ·cases hg
theorem gnoA_eq(r:RpEnv h E e){g:Option (Nat×Bool)}{x:Bool}(hg:gnoA E all g=some x):gno e all g=some x:=by
 cases g with
 |none=>cases hg
 |some y=>
  obtain ⟨j,w⟩:=y
  simp only [gnoA] at hg
  simp only [gno]
  split at hg
  ·rename_i o ho
   simp only [ho]
   split at hg
   ·rename_i t ht
    simp only [ht]
    split at hg
    ·rename_i b hb
     rcases r.1.look t with ⟨x,v,e1,e2,e3⟩|⟨e1,e2⟩
     ·rw [hb] at e1;injection e1 with e1;subst e1
      rw [Rp_v] at e3;rw [e3.1] at e2
      simp only [e2]
      exact hg
     ·rw [hb] at e1;cases e1
    ·cases hg
   ·cases hg
  ·cases hg
theorem putA_eq(r:RpEnv h E e){n:Nat}{m:Option (Nat×Bool)}{d:Option Nat}{x:AV}(hp:E.put n m d x=some E'){y:Value}(q:Rp h x y): ∃e',e.put n m d y=some e'/\RpEnv h E' e':=by
 cases d with
 |none=>injection hp with hp;subst hp;exact ⟨e,rfl,r⟩
 |some d=>
  simp only [AEnv.put] at hp
  simp only [Env.put]
  split at hp
  ·cases hp
  ·rename_i hlt
   simp only [hlt]
   split at hp
   ·cases hp
   ·rename_i hf
    rw [r.2.free] at hf
    simp only [hf]
    split at hp
    ·injection hp with hp;subst hp
     exact ⟨_,rfl,⟨y,e.us,rfl,q,r.1⟩,r.2⟩
    ·rename_i k
     rcases r.1.look d with ⟨x',v,e1,e2,e3⟩|⟨e1,e2⟩
     ·rw [e1] at hp;cases hp
     ·rw [e1] at hp;rw [e2]
      simp only at hp⊢
      split at hp
      ·cases hp
      ·rename_i hk
       simp only [hk]
       injection hp with hp;subst hp
       exact ⟨_,rfl,r.1,⟨y,e.cs,rfl,q,r.2⟩⟩
theorem okPutA_eq(r:RpEnv h E e){n d:Nat}(hp:okPutA n E d=true):okPut n e d=true:=by
 unfold okPutA at hp
 unfold okPut
 split at hp
 ·rename_i hlt;simp only [hlt];rw [<-r.2.free];exact hp
 ·cases hp
end
def pickA(gs:Ua)(E:AEnv)(ks:List (Nat×Bool))(t:Nat)(x y:Operand):Option AV:=match E.ev gs ks (.tmp t) with
 |some (.v (.bool g))=>match E.ev gs (chainK E.cs 6 (t,true)++ks) x with
  |some (.v (.bool p))=>match E.ev gs (chainK E.cs 6 (t,false)++ks) y with
   |some (.v (.bool q))=>some (.v (.bool (bif g then p else q)))
   |_=>none
  |_=>none
 |_=>none
def loadA(S:TT)(t:TypeId):AV->Option AV
 | .pe sz x=>match S.get t with
   |some ti=>match Nat.beq sz ti.size with
    |true=>match ti.agg with
     |true=>match x with
      | .ag l=>some (.ag l)
      |_=>none
     |false=>match x.one with
      |true=>some x
      |false=>none
    |false=>none
   |none=>none
 |_=>none
def apve(S:TT)(gs:Ua)(E:AEnv)(ks:List (Nat×Bool))(op:Op):Option AV:=match op with
 | .pick (.tmp t) x y=>pickA gs E ks t x y
 | .load t p=>match E.ev gs ks p with
   |some x=>loadA S t x
   |none=>none
 |op=>apv S (E.ev gs ks) op
theorem run_apve{P:Program}{S:TT}{gs:Ua}{h:GH}{L:List Ent}{w0:World}{n:Nat}{D:List Nat}{E:AEnv}{e:Env}{ks:List (Nat×Bool)}(hS:S.Ok P)(hgs:GsOk h gs)(r:RpEnv h E e){o:Oper}{x:AV}
 (hx:apve S gs E ks o.op=some x): ∃y,Rp h x y/\ ∀a w,Ag n D e a->St w0 h L w->keysOk a ks->(execOp a.eval o).run P w= .ok (.value y) w:=by
 unfold apve at hx
 split at hx
 ·rename_i t u v hop
  unfold pickA at hx
  split at hx
  ·rename_i b hb
   split at hx
   ·rename_i p hp
    split at hx
    ·rename_i q hq
     injection hx with hx;subst hx
     obtain ⟨y1,e1,f1⟩:=r.ev hgs ks hb
     obtain ⟨y2,e2,f2⟩:=r.ev hgs _ hp
     obtain ⟨y3,e3,f3⟩:=r.ev hgs _ hq
     rw [Rp_v] at f1 f2 f3
     rw [f1.1] at e1;rw [f2.1,r.2.chain] at e2;rw [f3.1,r.2.chain] at e3
     refine ⟨_,Rp_v.2 ⟨rfl,rfl⟩,fun a w g s hk=>run_pve hS g hk ?_⟩
     rw [hop]
     simp only [pve,pickv,e1,e2,e3]
    ·cases hx
   ·cases hx
  ·cases hx
 ·rename_i t p hop
  split at hx
  ·rename_i z hz
   unfold loadA at hx
   split at hx
   ·rename_i sz u
    split at hx
    ·rename_i ti ht
     split at hx
     ·rename_i hsz
      have hsz:=Nat.eq_of_beq_eq_true hsz
      obtain ⟨y1,e1,f1⟩:=r.ev hgs ks hz
      rw [Rp_pe] at f1
      obtain ⟨b,off,zz,rfl,f1,f2,f3⟩:=f1
      have okt:=TT.Ok.get hS ht
      split at hx
      ·rename_i ha
       split at hx
       ·injection hx with hx;subst hx
        have f1':=f1
        rw [Rp_ag] at f1
        obtain ⟨cs,rfl,f1⟩:=f1
        refine ⟨_,f1',fun a w g s hk=>?_⟩
        have:=run_loadAt_agg (P:=P) (w:=w) okt ha (b:=b) (o:=off) (vs:=cs) (fun i v hv=>s.imm _ _ _ (f3 i v hv)) (by rw [<-hsz];exact f2)
        unfold execOp;rw [hop]
        simp [g.ev hk e1,this]
       ·cases hx
      ·rename_i ha
       split at hx
       ·rename_i ho
        injection hx with hx;subst hx
        have hc:=cellsL_one (f1.one ho)
        refine ⟨_,f1,fun a w g s hk=>?_⟩
        have h3:h b off=some zz:=by have:=f3 0 zz (by rw [hc];rfl);simpa using this
        have:=run_loadAt_one (P:=P) (w:=w) okt ha (b:=b) (o:=off) (v:=zz) (s.imm _ _ _ h3)
        unfold execOp;rw [hop]
        simp [g.ev hk e1,this]
       ·cases hx
     ·cases hx
    ·cases hx
   ·cases hx
  ·cases hx
 ·rename_i h1 h2
  obtain ⟨y,e1,e2⟩:=apv_rp (σ:=e.ev ks) (fun z x hz=>r.ev hgs ks hz) hx
  refine ⟨y,e2,fun a w g s hk=>run_pve hS g hk ?_⟩
  unfold pve
  split
  ·rename_i t u v hop;exact (h1 _ _ _ hop).elim
  ·exact e1
section
variable{K:AC}{k:List It}{E:AEnv}{Λ:List AEnt}
theorem A.value{all:Array Oper}{o:Oper}{l:List Oper}{m:Option (Nat×Bool)}{ks:List (Nat×Bool)}{x:AV}{E':AEnv}(hg:gmodeA E all o.guard=some (m,ks))
 (hr: ∀h e L,K.h0.le h->RpEnv h E e->RpL h Λ L-> ∃y,Rp h x y/\ ∀a w,Ag K.n K.D e a->St K.w0 h (L++K.G) w->keysOk a ks->(execOp a.eval o).run K.P w= .ok (.value y) w)
 (hp:E.put K.n m o.dst x=some E') (next:A K (.ops all l::k) E' Λ):A K (.ops all (o::l)::k) E Λ:=by
 refine ⟨fun h e L hl r q=>?_⟩
 obtain ⟨y,e1,e2⟩:=hr h e L hl r q
 rw [gmodeA_eq r] at hg
 obtain ⟨e',e3,e4⟩:=putA_eq r hp e1
 exact V.value hg e2 e3 (next.run h e' L hl e4 q)
theorem A.valueY{all:Array Oper}{o:Oper}{l:List Oper}{ks:List (Nat×Bool)}{x:AV}{E':AEnv}(hg:gyesA E all o.guard=some ks)
 (hr: ∀h e L,K.h0.le h->RpEnv h E e->RpL h Λ L-> ∃y,Rp h x y/\ ∀a w,Ag K.n K.D e a->St K.w0 h (L++K.G) w->keysOk a ks->(execOp a.eval o).run K.P w= .ok (.value y) w)
 (hp:E.put K.n none o.dst x=some E') (next:A K (.ops all l::k) E' Λ):A K (.ops all (o::l)::k) E Λ:=by
 refine ⟨fun h e L hl r q=>?_⟩
 obtain ⟨y,e1,e2⟩:=hr h e L hl r q
 obtain ⟨e',e3,e4⟩:=putA_eq r hp e1
 exact V.valueY (gyesA_eq r hg) e2 e3 (next.run h e' L hl e4 q)
def astep(S:TT)(gs:Ua)(n:Nat)(k:List It)(E:AEnv):Option (List It×AEnv):=
 match k with
 | .ops all []::k=>some (k,⟨E.us,[]⟩)
 | .ops all (o::l)::k=>match gmodeA E all o.guard with
   |some (m,ks)=>match apve S gs E ks o.op with
    |some v=>match E.put n m o.dst v with
     |some E'=>some (.ops all l::k,E')
     |none=>none
    |none=>none
   |none=>none
 |k=>match cstep k with
  |some k'=>some (k',E)
  |none=>none
def astepY(S:TT)(gs:Ua)(n:Nat)(k:List It)(E:AEnv):Option (List It×AEnv):=
 match k with
 | .ops all []::k=>some (k,⟨E.us,[]⟩)
 | .ops all (o::l)::k=>match gyesA E all o.guard with
   |some ks=>match apve S gs E ks o.op with
    |some v=>match E.put n none o.dst v with
     |some E'=>some (.ops all l::k,E')
     |none=>none
    |none=>none
   |none=>none
 |k=>match cstep k with
  |some k'=>some (k',E)
  |none=>none
theorem A.opsNil{all:Array Oper}(hv:A K k ⟨E.us,[]⟩ Λ):A K (.ops all []::k) E Λ:=⟨fun h e L hl r q=>V.opsNil (hv.run h ⟨e.us,[]⟩ L hl ⟨r.1,rfl⟩ q)⟩
theorem A.cstep{k':List It}(hc:Go.Tp.cstep k=some k')(hv:A K k' E Λ):A K k E Λ:=⟨fun h e L hl r q=>V.cstep hc (hv.run h e L hl r q)⟩
theorem A.step{k':List It}{E':AEnv}(hs:astep K.S K.gs K.n k E=some (k',E'))(hv:A K k' E' Λ):A K k E Λ:=by
 unfold astep at hs
 split at hs
 ·injection hs with hs;injection hs with h1 h2;subst h1;subst h2
  exact A.opsNil hv
 ·split at hs
  ·rename_i m ks hg
   split at hs
   ·rename_i v hpv
    split at hs
    ·rename_i e'' hput
     injection hs with hs;injection hs with h1 h2;subst h1;subst h2
     exact A.value hg (fun h e L hl r q=>run_apve K.ok (K.hgs.mono hl) r hpv) hput hv
    ·cases hs
   ·cases hs
  ·cases hs
 ·split at hs
  ·rename_i k'' hc
   injection hs with hs;injection hs with h1 h2;subst h1;subst h2
   exact A.cstep hc hv
  ·cases hs
theorem A.stepY{k':List It}{E':AEnv}(hs:astepY K.S K.gs K.n k E=some (k',E'))(hv:A K k' E' Λ):A K k E Λ:=by
 unfold astepY at hs
 split at hs
 ·injection hs with hs;injection hs with h1 h2;subst h1;subst h2
  exact A.opsNil hv
 ·split at hs
  ·rename_i ks hg
   split at hs
   ·rename_i v hpv
    split at hs
    ·rename_i e'' hput
     injection hs with hs;injection hs with h1 h2;subst h1;subst h2
     exact A.valueY hg (fun h e L hl r q=>run_apve K.ok (K.hgs.mono hl) r hpv) hput hv
    ·cases hs
   ·cases hs
  ·cases hs
 ·split at hs
  ·rename_i k'' hc
   injection hs with hs;injection hs with h1 h2;subst h1;subst h2
   exact A.cstep hc hv
  ·cases hs
theorem A.cond{c:Operand}{x y:Code}{g:Bool}(hc:E.ev K.gs [] c=some (.v (.bool g)))(ht:g=true->A K (.code x::k) E Λ)(hf:g=false->A K (.code y::k) E Λ):A K (.code (.cond c x y)::k) E Λ:=by
 refine ⟨fun h e L hl r q=>?_⟩
 obtain ⟨v,e1,e2⟩:=r.ev (K.hgs.mono hl) [] hc
 rw [Rp_v] at e2;rw [e2.1] at e1
 exact V.cond e1 (fun hg=>(ht hg).run h e L hl r q) (fun hg=>(hf hg).run h e L hl r q)
theorem A.condT{c:Operand}{x y:Code}(hc:E.ev K.gs [] c=some (.v (.bool true)))(next:A K (.code x::k) E Λ):A K (.code (.cond c x y)::k) E Λ:=A.cond hc (fun _=>next) (fun h=>by cases h)
theorem A.condF{c:Operand}{x y:Code}(hc:E.ev K.gs [] c=some (.v (.bool false)))(next:A K (.code y::k) E Λ):A K (.code (.cond c x y)::k) E Λ:=A.cond hc (fun h=>by cases h) (fun _=>next)
theorem RpU.put{h:GH}{U:Ua}{us:Us}(r:RpU h U us){t:Nat}{x:AV}{v:Value}(q:Rp h x v):RpU h ((t,x)::U) ((t,v)::us):=⟨v,us,rfl,q,r⟩
theorem A.val(t:Nat){x x':AV}(hx:lookA E.us t=some x)(hs:Sb x x')(next:A K k ⟨(t,x')::E.us,E.cs⟩ Λ):A K k E Λ:=by
 refine ⟨fun h e L hl r q=>?_⟩
 rcases r.1.look t with ⟨y,v,e1,e2,e3⟩|⟨e1,e2⟩
 ·rw [hx] at e1;injection e1 with e1;subst e1
  exact V.val t e2 rfl (next.run h ⟨(t,v)::e.us,e.cs⟩ L hl ⟨r.1.put (hs.rp e3),r.2⟩ q)
 ·rw [hx] at e1;cases e1
theorem A.valE(t:Nat){x x':AV}(hx:lookA E.us t=some x)(hs:x=x')(next:A K k ⟨(t,x')::E.us,E.cs⟩ Λ):A K k E Λ:=A.val t hx (by subst hs;exact .refl) next
theorem A.split(t:Nat){g:Bool}(hx:lookA E.us t=some (.v (.bool g)))(ht:g=true->A K k ⟨(t, .v (.bool true))::E.us,E.cs⟩ Λ)(hf:g=false->A K k ⟨(t, .v (.bool false))::E.us,E.cs⟩ Λ):A K k E Λ:=by
 cases g
 ·exact A.val t hx .refl (hf rfl)
 ·exact A.val t hx .refl (ht rfl)
theorem A.skip{all:Array Oper}{o:Oper}{l:List Oper}{x:Bool}{E':AEnv}(hg:gnoA E all o.guard=some x)(hp:E.put K.n none o.dst (.tp [])=some E')(hv:A K (.ops all l::k) E' Λ):A K (.ops all (o::l)::k) E Λ:=by
 refine ⟨fun h e L hl r q=>?_⟩
 obtain ⟨e',e3,e4⟩:=putA_eq r hp (y:=undef) (Rp_tp.2 ⟨[],rfl,RpC_nil.2 rfl⟩)
 exact V.skip (gnoA_eq r hg) e3 (hv.run h e' L hl e4 q)
theorem A.skipU{all:Array Oper}{o:Oper}{l:List Oper}{t:Nat}{b:Bool}{ks:List (Nat×Bool)}{E':AEnv}(hg:gmodeA E all o.guard=some (some (t,b),ks))(hx:lookA E.us t=some (.tp []))(hp:E.put K.n none o.dst (.tp [])=some E')
 (hv:A K (.ops all l::k) E' Λ):A K (.ops all (o::l)::k) E Λ:=by
 refine ⟨fun h e L hl r q=>?_⟩
 rw [gmodeA_eq r] at hg
 obtain ⟨e',e3,e4⟩:=putA_eq r hp (y:=undef) (Rp_tp.2 ⟨[],rfl,RpC_nil.2 rfl⟩)
 rcases r.1.look t with ⟨y,v,e1,e2,e5⟩|⟨e1,e2⟩
 ·rw [hx] at e1;injection e1 with e1;subst e1
  rw [Rp_tp] at e5
  obtain ⟨cs,rfl,e5⟩:=e5
  rw [RpC_nil] at e5;subst e5
  exact V.skipU hg e2 e3 (hv.run h e' L hl e4 q)
 ·rw [hx] at e1;cases e1
theorem A.pickT{all:Array Oper}{o:Oper}{l:List Oper}{m:Option (Nat×Bool)}{ks:List (Nat×Bool)}{c x y:Operand}{v:AV}{E':AEnv}(hg:gmodeA E all o.guard=some (m,ks))(ho:o.op= .pick c x y)(hc:E.ev K.gs ks c=some (.v (.bool true)))
 (hx:E.ev K.gs ks x=some v) (hp:E.put K.n m o.dst v=some E') (next:A K (.ops all l::k) E' Λ):A K (.ops all (o::l)::k) E Λ:=by
 refine ⟨fun h e L hl r q=>?_⟩
 rw [gmodeA_eq r] at hg
 obtain ⟨v1,e1,f1⟩:=r.ev (K.hgs.mono hl) _ hc
 obtain ⟨v2,e2,f2⟩:=r.ev (K.hgs.mono hl) _ hx
 rw [Rp_v] at f1;rw [f1.1] at e1
 obtain ⟨e',e3,e4⟩:=putA_eq r hp f2
 exact V.pickT hg ho e1 e2 e3 (next.run h e' L hl e4 q)
theorem A.pickF{all:Array Oper}{o:Oper}{l:List Oper}{m:Option (Nat×Bool)}{ks:List (Nat×Bool)}{c x y:Operand}{v:AV}{E':AEnv}(hg:gmodeA E all o.guard=some (m,ks))(ho:o.op= .pick c x y)(hc:E.ev K.gs ks c=some (.v (.bool false)))
 (hx:E.ev K.gs ks y=some v) (hp:E.put K.n m o.dst v=some E') (next:A K (.ops all l::k) E' Λ):A K (.ops all (o::l)::k) E Λ:=by
 refine ⟨fun h e L hl r q=>?_⟩
 rw [gmodeA_eq r] at hg
 obtain ⟨v1,e1,f1⟩:=r.ev (K.hgs.mono hl) _ hc
 obtain ⟨v2,e2,f2⟩:=r.ev (K.hgs.mono hl) _ hx
 rw [Rp_v] at f1;rw [f1.1] at e1
 obtain ⟨e',e3,e4⟩:=putA_eq r hp f2
 exact V.pickF hg ho e1 e2 e3 (next.run h e' L hl e4 q)
def keepA(us:Ua):List Nat->Option Ua
 | []=>some []
 |t::r=>match lookA us t with
  |some x=>match keepA us r with
   |some l=>some ((t,x)::l)
   |none=>none
  |none=>none
theorem RpU.keep{h:GH}{U:Ua}{us:Us}(r:RpU h U us): ∀{ts:List Nat} {U':Ua},keepA U ts=some U'-> ∃us',RpU h U' us'/\ ∀(n:Nat) (e:Env),e.us=us->e.Sub us'
 | [],U',hk=>by injection hk with hk;subst hk;exact ⟨[],rfl,fun _ _ _=>trivial⟩
 |t::ts,U',hk=>by
  simp only [keepA] at hk
  split at hk
  ·rename_i x hx
   split at hk
   ·rename_i l hl
    injection hk with hk;subst hk
    obtain ⟨us',g1,g2⟩:=RpU.keep r hl
    rcases r.look t with ⟨y,v,e1,e2,e3⟩|⟨e1,e2⟩
    ·rw [hx] at e1;injection e1 with e1;subst e1
     exact ⟨(t,v)::us',g1.put e3,fun n e he=>⟨by rw [he];exact e2,g2 n e he⟩⟩
    ·rw [hx] at e1;cases e1
   ·cases hk
  ·cases hk
theorem A.keep(ts:List Nat){U:Ua}(hk:keepA E.us ts=some U)(next:A K k ⟨U,[]⟩ Λ):A K k E Λ:=by
 refine ⟨fun h e L hl r q=>?_⟩
 obtain ⟨us',g1,g2⟩:=r.1.keep hk
 exact V.sub (g2 0 e rfl) (next.run h ⟨us',[]⟩ L hl ⟨g1,rfl⟩ q)
def subU(us:Ua):Ua->Prop
 | []=>True
 |(t,x)::r=>(∃y,lookA us t=some y/\Sb y x)/\subU us r
theorem RpU.sub{h:GH}{U:Ua}{us:Us}(r:RpU h U us): ∀{U':Ua},subU U U'-> ∃us',RpU h U' us'/\ ∀(n:Nat) (e:Env),e.us=us->e.Sub us'
 | [],_=>⟨[],rfl,fun _ _ _=>trivial⟩
 |(t,x)::U',⟨⟨y,hy,hs⟩,hr⟩=>by
  obtain ⟨us',g1,g2⟩:=RpU.sub r hr
  rcases r.look t with ⟨z,v,e1,e2,e3⟩|⟨e1,e2⟩
  ·rw [hy] at e1;injection e1 with e1;subst e1
   exact ⟨(t,v)::us',g1.put (hs.rp e3),fun n e he=>⟨by rw [he];exact e2,g2 n e he⟩⟩
  ·rw [hy] at e1;cases e1
theorem A.sub{U:Ua}(hs:subU E.us U)(next:A K k ⟨U,[]⟩ Λ):A K k E Λ:=by
 refine ⟨fun h e L hl r q=>?_⟩
 obtain ⟨us',g1,g2⟩:=r.1.sub hs
 exact V.sub (g2 0 e rfl) (next.run h ⟨us',[]⟩ L hl ⟨g1,rfl⟩ q)
theorem V.less{C:Cfg}{e:Env}{h:GH}{L L':List Ent}(hs:L'.Sublist L)(hv:V C k e h L'):V C k e h L:=fun ho a w b cs g s hf hk=>hv ho a w b cs g (s.sub hs) hf hk
theorem A.perm{Λ':List AEnt}(p:Λ.Perm Λ')(next:A K k E Λ'):A K k E Λ:=by
 refine ⟨fun h e L hl r q=>?_⟩
 obtain ⟨L',g1,g2⟩:=q.perm p
 exact V.perm (g2.append_right _) (next.run h e L' hl r g1)
theorem A.less{Λ':List AEnt}(s:Λ'.Sublist Λ)(next:A K k E Λ'):A K k E Λ:=by
 refine ⟨fun h e L hl r q=>?_⟩
 obtain ⟨L',g1,g2⟩:=q.sub s
 exact V.less (g2.append_right _) (next.run h e L' hl r g1)
theorem A.loop{c:Code}{ι:Type}(I:ι->AEnv×List AEnt)(μ:ι->Nat)
 (round: ∀i,(∀j,μ j<μ i->A K (.inLoop c::k) (I j).1 (I j).2)->A K (.code c:: .inLoop c::k) (I i).1 (I i).2)
 (i:ι) (he:I i=(E,Λ)):A K (.code (.loop c)::k) E Λ:=by
 have key: ∀m i,μ i=m->A K (.code c:: .inLoop c::k) (I i).1 (I i).2:=by
  intro m
  induction m using Nat.strongRecOn with
  |_ m ih=>
   intro i hi
   refine round i fun j hj=>?_
   refine ⟨fun h e L hl r q=>?_⟩
   exact V.again ((ih (μ j) (hi▸hj) j rfl).run h e L hl r q)
 have:=key (μ i) i rfl
 rw [he] at this
 exact ⟨fun h e L hl r q=>V.loop1 (this.run h e L hl r q)⟩
theorem A.loop1{c:Code}(hv:A K (.code c:: .inLoop c::k) E Λ):A K (.code (.loop c)::k) E Λ:=⟨fun h e L hl r q=>V.loop1 (hv.run h e L hl r q)⟩
theorem A.again{c:Code}(hv:A K (.code c:: .inLoop c::k) E Λ):A K (.inLoop c::k) E Λ:=⟨fun h e L hl r q=>V.again (hv.run h e L hl r q)⟩
theorem A.ret1{t:Nat}{x:AV}{Λ':List AEnt}(hk:atEnd k=true)(hr:K.fn.results= #[.tmp t])(hx:lookA E.us t=some x)(hs:Λ'.Sublist Λ)(hq:K.Q x Λ')(hrd:K.rd=none:=by rfl):A K k E Λ:=by
 refine ⟨fun h e L hl r q=>?_⟩
 rcases r.1.look t with ⟨y,v,e1,e2,e3⟩|⟨e1,e2⟩
 ·rw [hx] at e1;injection e1 with e1;subst e1
  obtain ⟨L',g1,g2⟩:=q.sub hs
  exact V.ret1 (C:=K.cfg) hk hrd rfl hr e2 ⟨x,Λ',L',hq,e3,hl,g1,g2.append_right _⟩
 ·rw [hx] at e1;cases e1
theorem A.ret0{Λ':List AEnt}(hk:atEnd k=true)(hr:K.fn.results= #[])(hs:Λ'.Sublist Λ)(hq:K.Q (.tp []) Λ')(hrd:K.rd=none:=by rfl):A K k E Λ:=by
 refine ⟨fun h e L hl r q=>?_⟩
 obtain ⟨L',g1,g2⟩:=q.sub hs
 exact V.ret0 (C:=K.cfg) hk hrd rfl hr ⟨_,Λ',L',hq,Rp_tp.2 ⟨[],rfl,RpC_nil.2 rfl⟩,hl,g1,g2.append_right _⟩
theorem A.ret2{t u:Nat}{x y:AV}{Λ':List AEnt}(hk:atEnd k=true)(hr:K.fn.results= #[.tmp t, .tmp u])(hx:lookA E.us t=some x)(hy:lookA E.us u=some y)(hs:Λ'.Sublist Λ)(hq:K.Q (.tp [x,y]) Λ')(hrd:K.rd=none:=by rfl):A K k E Λ:=by
 refine ⟨fun h e L hl r q=>?_⟩
 rcases r.1.look t with ⟨z,v,e1,e2,e3⟩|⟨e1,e2⟩
 ·rcases r.1.look u with ⟨z',v',f1,f2,f3⟩|⟨f1,f2⟩
  ·rw [hx] at e1;injection e1 with e1;subst e1
   rw [hy] at f1;injection f1 with f1;subst f1
   obtain ⟨L',g1,g2⟩:=q.sub hs
   exact V.ret2 (C:=K.cfg) hk hrd rfl hr e2 f2 ⟨_,Λ',L',hq,Rp_tp.2 ⟨[v,v'],rfl,RpC_cons.2 ⟨v,[v'],rfl,e3,RpC_cons.2 ⟨v',[],rfl,f3,RpC_nil.2 rfl⟩⟩⟩,hl,g1,g2.append_right _⟩
  ·rw [hy] at f1;cases f1
 ·rw [hx] at e1;cases e1
theorem A.ret3{t u s:Nat}{x y z:AV}{Λ':List AEnt}(hk:atEnd k=true)(hr:K.fn.results= #[.tmp t, .tmp u, .tmp s])(hx:lookA E.us t=some x)(hy:lookA E.us u=some y)(hz:lookA E.us s=some z)(hs:Λ'.Sublist Λ)(hq:K.Q (.tp [x,y,z]) Λ')(hrd:K.rd=none:=by rfl):
 A K k E Λ:=by
 refine ⟨fun h e L hl r q=>?_⟩
 rcases r.1.look t with ⟨z1,v,e1,e2,e3⟩|⟨e1,e2⟩
 ·rcases r.1.look u with ⟨z2,v',f1,f2,f3⟩|⟨f1,f2⟩
  ·rcases r.1.look s with ⟨z3,v'',d1,d2,d3⟩|⟨d1,d2⟩
   ·rw [hx] at e1;injection e1 with e1;subst e1
    rw [hy] at f1;injection f1 with f1;subst f1
    rw [hz] at d1;injection d1 with d1;subst d1
    obtain ⟨L',g1,g2⟩:=q.sub hs
    exact V.ret3 (C:=K.cfg) hk hrd rfl hr e2 f2 d2 ⟨_,Λ',L',hq,Rp_tp.2 ⟨[v,v',v''],rfl,RpC_cons.2 ⟨v,_,rfl,e3,RpC_cons.2 ⟨v',_,rfl,f3,RpC_cons.2 ⟨v'',[],rfl,d3,RpC_nil.2 rfl⟩⟩⟩⟩,hl,g1,g2.append_right _⟩
   ·rw [hz] at d1;cases d1
  ·rw [hy] at f1;cases f1
 ·rw [hx] at e1;cases e1
end
end Go.Tp
namespace Go.Tp
open Go Go.RowKit
theorem atH.left{h:GH}{b o:Nat}{l r:List Value}(g:atH h b o (l++r)):atH h b o l:=fun i v hv=>g i v (by
 have hi:i<l.length:=by
  rcases Nat.lt_or_ge i l.length with q|q
  ·exact q
  ·rw [List.getElem?_eq_none q] at hv;cases hv
 rw [List.getElem?_append_left hi];exact hv)
theorem atH.right{h:GH}{b o:Nat}{l r:List Value}(g:atH h b o (l++r)):atH h b (o+l.length) r:=fun i v hv=>by
 have:=g (l.length+i) v (by rw [List.getElem?_append_right (Nat.le_add_right _ _),Nat.add_sub_cancel_left];exact hv)
 rwa [<-Nat.add_assoc] at this
theorem atH.join{h:GH}{b o:Nat}{l r:List Value}(g:atH h b o l)(g':atH h b (o+l.length) r):atH h b o (l++r):=fun i v hv=>by
 rcases Nat.lt_or_ge i l.length with q|q
 ·rw [List.getElem?_append_left q] at hv;exact g i v hv
 ·rw [List.getElem?_append_right q] at hv
  have:=g' _ v hv
  rwa [show o+l.length+(i-l.length)=o+i by omega] at this
theorem cat_len{sz:Nat}: ∀{zs:List Value},(∀z,z∈zs->(cellsL z).length=sz)->(catL zs).length=zs.length*sz
 | [],_=>by simp [catL]
 |z::r,hz=>by
  have:=cat_len (zs:=r) fun x hx=>hz x (List.mem_cons_of_mem _ hx)
  simp only [catL,List.flatMap_cons,List.length_append,List.length_cons] at this⊢
  rw [this,hz z (List.mem_cons_self ..),Nat.succ_mul];omega
section
variable{h:GH}{sz:Nat}
theorem RpE_cat{b:Nat}: ∀{l:List AV} {o:Nat},RpE h sz l b o-> ∃zs,RpC h l zs/\(∀z,z∈zs->(cellsL z).length=sz)/\atH h b o (catL zs)
 | [],o,_=>⟨[],RpC_nil.2 rfl,fun _ hz=>by simp at hz,fun i v hv=>by simp [catL] at hv⟩
 |x::l,o,r=>by
  rw [RpE_cons] at r
  obtain ⟨⟨z,h1,h2,h3⟩,h4⟩:=r
  obtain ⟨zs,g1,g2,g3⟩:=RpE_cat h4
  refine ⟨z::zs,RpC_cons.2 ⟨z,zs,rfl,h1,g1⟩,fun y hy=>?_,?_⟩
  ·rcases List.mem_cons.1 hy with rfl|hy
   ·exact h2
   ·exact g2 y hy
  ·simp only [catL,List.flatMap_cons]
   exact atH.join h3 (by rw [h2];exact g3)
theorem RpE_of{b:Nat}: ∀{l:List AV} {zs:List Value} {o:Nat},RpC h l zs->(∀z,z∈zs->(cellsL z).length=sz)->atH h b o (catL zs)->RpE h sz l b o
 | [],zs,o,_,_,_=>RpE_nil
 |x::l,zs,o,r,hz,ha=>by
  rw [RpC_cons] at r
  obtain ⟨z,zs',rfl,h1,h2⟩:=r
  simp only [catL,List.flatMap_cons] at ha
  have h3:=hz z (List.mem_cons_self ..)
  rw [RpE_cons]
  exact ⟨⟨z,h1,h3,ha.left⟩,RpE_of h2 (fun y hy=>hz y (List.mem_cons_of_mem _ hy)) (by have:=ha.right;rwa [h3] at this)⟩
end
class AAt (Λ:List AEnt) (b:Nat) (x:outParam AV):Prop where
 mem:AEnt.box b x∈Λ
instance AAt.here {b:Nat} {x:AV} {Λ:List AEnt}:AAt (.box b x::Λ) b x:=⟨List.mem_cons_self ..⟩
instance (priority:=low) AAt.there {y:AEnt} {x:AV} {Λ:List AEnt} {b:Nat} [i:AAt Λ b x]:AAt (y::Λ) b x:=⟨List.mem_cons_of_mem _ i.mem⟩
class AUp (Λ:List AEnt) (b:Nat) (x x':AV) (Λ':outParam (List AEnt)):Prop where
 split: ∃Λ1 Λ2,Λ=Λ1++ .box b x::Λ2/\Λ'=Λ1++ .box b x'::Λ2
instance AUp.here {b:Nat} {x x':AV} {Λ:List AEnt}:AUp (.box b x::Λ) b x x' (.box b x'::Λ):=⟨[],Λ,rfl,rfl⟩
instance (priority:=low) AUp.there {y:AEnt} {x x':AV} {Λ Λ':List AEnt} {b:Nat} [i:AUp Λ b x x' Λ']:AUp (y::Λ) b x x' (y::Λ'):=
 ⟨let ⟨L1,L2,h1,h2⟩:=i.split;⟨y::L1,L2,by rw [h1];rfl,by rw [h2];rfl⟩⟩
class ATl (Λ:List AEnt) (sz:Nat) (z:Value) (Λ':outParam (List AEnt)):Prop where
 perm:Λ.Perm (.tail sz z::Λ')
instance ATl.here {sz:Nat} {z:Value} {Λ:List AEnt}:ATl (.tail sz z::Λ) sz z Λ:=⟨.refl _⟩
instance (priority:=low) ATl.there {y:AEnt} {sz:Nat} {z:Value} {Λ Λ':List AEnt} [i:ATl Λ sz z Λ']:ATl (y::Λ) sz z (y::Λ'):=⟨(i.perm.cons y).trans (.swap _ _ _)⟩
class ARow (Λ:List AEnt) (z:Value) (sz:outParam Nat) (l:outParam (List AV)):Prop where
 mem:AEnt.row sz z l∈Λ
instance ARow.here {z:Value} {sz:Nat} {l:List AV} {Λ:List AEnt}:ARow (.row sz z l::Λ) z sz l:=⟨List.mem_cons_self ..⟩
instance (priority:=low) ARow.there {y:AEnt} {z:Value} {sz:Nat} {l:List AV} {Λ:List AEnt} [i:ARow Λ z sz l]:ARow (y::Λ) z sz l:=⟨List.mem_cons_of_mem _ i.mem⟩
class ARowUp (Λ:List AEnt) (z:Value) (sz:Nat) (l l':List AV) (Λ':outParam (List AEnt)):Prop where
 split: ∃Λ1 Λ2,Λ=Λ1++ .row sz z l::Λ2/\Λ'=Λ1++ .row sz z l'::Λ2
instance ARowUp.here {z:Value} {sz:Nat} {l l':List AV} {Λ:List AEnt}:ARowUp (.row sz z l::Λ) z sz l l' (.row sz z l'::Λ):=⟨[],Λ,rfl,rfl⟩
instance (priority:=low) ARowUp.there {y:AEnt} {z:Value} {sz:Nat} {l l':List AV} {Λ Λ':List AEnt} [i:ARowUp Λ z sz l l' Λ']:ARowUp (y::Λ) z sz l l' (y::Λ'):=
 ⟨let ⟨L1,L2,h1,h2⟩:=i.split;⟨y::L1,L2,by rw [h1];rfl,by rw [h2];rfl⟩⟩
class AOut (Λ:List AEnt) (x:AEnt) (Λ':outParam (List AEnt)):Prop where
 perm:Λ.Perm (x::Λ')
instance AOut.here {x:AEnt} {Λ:List AEnt}:AOut (x::Λ) x Λ:=⟨.refl _⟩
instance (priority:=low) AOut.there {x y:AEnt} {Λ Λ':List AEnt} [i:AOut Λ x Λ']:AOut (y::Λ) x (y::Λ'):=⟨(i.perm.cons y).trans (.swap _ _ _)⟩
section
variable{K:AC}{k:List It}{E:AEnv}{Λ:List AEnt}
def ldA(ti:TI)(x:AV)(o:Nat):Option AV:=match cellsA x with
 |some l=>partA ti l o
 |none=>none
theorem ldA_rp{h:GH}{ti:TI}{x y:AV}{o b:Nat}{z:Value}(q:Rp h x z)(hy:ldA ti x o=some y): ∃v,ldV ti ⟨b,0,cellsL z,none⟩ o=some v/\Rp h y v:=by
 unfold ldA at hy
 split at hy
 ·rename_i l hl
  obtain ⟨v,e1,e2⟩:=partA_rp (cellsA_rp q hl) hy
  have h0:Nat.ble 0 o=true:=by cases o<;>rfl
  exact ⟨v,by simp only [ldV,h0,Nat.sub_zero];exact e1,e2⟩
 ·cases hy
theorem A.load{all:Array Oper}{o:Oper}{l:List Oper}{m:Option (Nat×Bool)}{ks:List (Nat×Bool)}{t:TypeId}{p:Operand}{b off:Nat}{ti:TI}{x y:AV}{E':AEnv}
 (hg:gmodeA E all o.guard=some (m,ks)) (ho:o.op= .load t p) (hp:E.ev K.gs ks p=some (.v (.pointer (some ⟨b,off,none⟩)))) (ht:K.S.get t=some ti) [i:AAt Λ b x]
 (hv:ldA ti x off=some y) (hput:E.put K.n m o.dst y=some E') (next:A K (.ops all l::k) E' Λ):A K (.ops all (o::l)::k) E Λ:=by
 refine ⟨fun h e L hl r q=>?_⟩
 rw [gmodeA_eq r] at hg
 obtain ⟨v1,e1,f1⟩:=r.ev (K.hgs.mono hl) _ hp
 rw [Rp_v] at f1;rw [f1.1] at e1
 obtain ⟨pe,g1,z,g2,g3⟩:=q.mem i.mem
 subst g3
 have g1:=g1 _ (List.mem_singleton.2 rfl)
 obtain ⟨v,e2,e3⟩:=ldA_rp (b:=b) g2 hv
 obtain ⟨e',e4,e5⟩:=putA_eq r hput e3
 exact V.load (C:=K.cfg) hg ho e1 ht (i:=⟨List.mem_append_left _ g1,rfl⟩) e2 e4 (next.run h e' L hl e5 q)
theorem A.loadY{all:Array Oper}{o:Oper}{l:List Oper}{ks:List (Nat×Bool)}{t:TypeId}{p:Operand}{b off:Nat}{ti:TI}{x y:AV}{E':AEnv}
 (hg:gyesA E all o.guard=some ks) (ho:o.op= .load t p) (hp:E.ev K.gs ks p=some (.v (.pointer (some ⟨b,off,none⟩)))) (ht:K.S.get t=some ti) [i:AAt Λ b x]
 (hv:ldA ti x off=some y) (hput:E.put K.n none o.dst y=some E') (next:A K (.ops all l::k) E' Λ):A K (.ops all (o::l)::k) E Λ:=by
 refine ⟨fun h e L hl r q=>?_⟩
 obtain ⟨v1,e1,f1⟩:=r.ev (K.hgs.mono hl) _ hp
 rw [Rp_v] at f1;rw [f1.1] at e1
 obtain ⟨pe,g1,z,g2,g3⟩:=q.mem i.mem
 subst g3
 have g1:=g1 _ (List.mem_singleton.2 rfl)
 obtain ⟨v,e2,e3⟩:=ldA_rp (b:=b) g2 hv
 obtain ⟨e',e4,e5⟩:=putA_eq r hput e3
 exact V.loadY (C:=K.cfg) (gyesA_eq r hg) ho e1 ht (i:=⟨List.mem_append_left _ g1,rfl⟩) e2 e4 (next.run h e' L hl e5 q)
def likeA(x:AV)(cs:List AV):Option AV:=match x with
 | .ag _=>some (.ag cs)
 |_=>match cs with
  | [c]=>some c
  |_=>none
def stA(ti:TI)(x:AV)(o:Nat)(v:AV):Option AV:=match cellsA v with
 |some vs=>match Nat.beq (lenN vs) ti.size with
  |true=>match oneA vs with
   |true=>match cellsA x with
    |some xs=>match updA xs o vs with
     |some cs=>likeA x cs
     |none=>none
    |none=>none
   |false=>none
  |false=>none
 |none=>none
theorem stA_rp{h:GH}{ti:TI}{x x' v:AV}{o b:Nat}{z u:Value}(q:Rp h x z)(p:Rp h v u)(hs:stA ti x o v=some x'): ∃z',stV ti ⟨b,0,cellsL z,none⟩ o u=some ⟨b,0,cellsL z',none⟩/\Rp h x' z':=by
 unfold stA at hs
 split at hs
 ·rename_i vs hvs
  split at hs
  ·rename_i hlen
   split at hs
   ·rename_i ho
    split at hs
    ·rename_i xs hxs
     split at hs
     ·rename_i cs hcs
      have p1:=cellsA_rp p hvs
      have q1:=cellsA_rp q hxs
      obtain ⟨r',e1,e2⟩:=updA_rp q1 p1 hcs
      have e3:Nat.beq (cellsL u).length ti.size=true:=by rw [p1.len,<-lenN_eq];exact hlen
      have e4:allOne (cellsL u)=true:=p1.one ho
      have hst:stV ti ⟨b,0,cellsL z,none⟩ o u=some ⟨b,0,r',none⟩:=by
       have h0:Nat.ble 0 o=true:=by cases o<;>rfl
       simp only [stV,e3,e4,h0,Nat.sub_zero,e1]
      unfold likeA at hs
      split at hs
      ·injection hs with hs;subst hs
       exact ⟨.agg ⟨r'⟩,hst,Rp_ag.2 ⟨r',rfl,e2⟩⟩
      ·rename_i hx
       split at hs
       ·injection hs with hs;subst hs
        rename_i c
        rw [RpC_cons] at e2
        obtain ⟨y,ys,rfl,e5,e6⟩:=e2
        rw [RpC_nil] at e6;subst e6
        have hone:oneC y=true:=by
         have hx1:x.one=true:=by cases x<;>first|rfl|(exact (hx _ rfl).elim)|cases hxs
         have hz1:=cellsL_one (q.one hx1)
         rw [hz1] at e1
         obtain ⟨u1,u2,u3⟩:=updL_spec _ _ _ e1
         have h0:=u3 0
         simp only [List.getElem?_cons_zero] at h0
         split at h0
         ·rename_i hk
          obtain ⟨k1,k2⟩:=hk
          have:y∈cellsL u:=List.mem_of_getElem? h0.symm
          exact allOne_mem e4 y this
         ·injection h0 with h0;rw [h0];exact q.one hx1
        exact ⟨y,by rw [cellsL_one hone];exact hst,e5⟩
       ·cases hs
     ·cases hs
    ·cases hs
   ·cases hs
  ·cases hs
 ·cases hs
theorem A.store{all:Array Oper}{o:Oper}{l:List Oper}{ks:List (Nat×Bool)}{t:TypeId}{p y:Operand}{b off:Nat}{ti:TI}{x x' v:AV}{Λ':List AEnt}
 (hg:gyesA E all o.guard=some ks) (ho:o.op= .store t p y) (hp:E.ev K.gs ks p=some (.v (.pointer (some ⟨b,off,none⟩)))) (hy:E.ev K.gs ks y=some v) (ht:K.S.get t=some ti) [i:AAt Λ b x]
 (hv:stA ti x off v=some x') [j:AUp Λ b x x' Λ'] (hd:o.dst=none) (next:A K (.ops all l::k) E Λ'):A K (.ops all (o::l)::k) E Λ:=by
 refine ⟨fun h e L hl r q=>?_⟩
 obtain ⟨v1,e1,f1⟩:=r.ev (K.hgs.mono hl) _ hp
 rw [Rp_v] at f1;rw [f1.1] at e1
 obtain ⟨u,e2,f2⟩:=r.ev (K.hgs.mono hl) _ hy
 obtain ⟨Λ1,Λ2,h1,h2⟩:=j.split
 subst h1;subst h2
 obtain ⟨L1,pe,L2,rfl,g1,⟨z,g2,g2'⟩,g3⟩:=q.mid
 subst g2'
 obtain ⟨z',e3,e4⟩:=stA_rp (b:=b) g2 f2 hv
 have i':EntAt ((L1++([⟨b,0,cellsL z,none⟩]++L2))++K.G) b ⟨b,0,cellsL z,none⟩:=⟨by simp,rfl⟩
 have j':EntUp ((L1++([⟨b,0,cellsL z,none⟩]++L2))++K.G) b ⟨b,0,cellsL z,none⟩ ⟨b,0,cellsL z',none⟩ ((L1++([⟨b,0,cellsL z',none⟩]++L2))++K.G):=⟨L1,L2++K.G,by simp,by simp⟩
 exact V.store (C:=K.cfg) (gyesA_eq r hg) ho e1 e2 ht (i:=i') e3 (j:=j') hd (next.run h e _ hl r (RpL.mid_of g1 ⟨z',e4,rfl⟩ g3))
def zeroA(ti:TI):Option AV:=match allOne ti.zero with
 |true=>match ti.agg with
  |true=>some (.ag (ti.zero.map .v))
  |false=>match ti.zero with
   | [z]=>some (.v z)
   |_=>none
 |false=>none
theorem zeroA_rp{h:GH}{ti:TI}{x:AV}(hz:zeroA ti=some x): ∃z,Rp h x z/\cellsL z=ti.zero:=by
 unfold zeroA at hz
 split at hz
 ·rename_i ho
  split at hz
  ·injection hz with hz;subst hz
   exact ⟨.agg ⟨ti.zero⟩,Rp_ag.2 ⟨_,rfl,RpC_v ho⟩,rfl⟩
  ·split at hz
   ·rename_i z hzz
    injection hz with hz;subst hz
    rw [hzz] at ho
    have h1:oneC z=true:=allOne_mem ho z (List.mem_cons_self ..)
    exact ⟨z,Rp_v.2 ⟨rfl,h1⟩,by rw [hzz];exact cellsL_one h1⟩
   ·cases hz
 ·cases hz
theorem zeroA_one{ti:TI}{x:AV}(hz:zeroA ti=some x):allOne ti.zero=true:=by
 unfold zeroA at hz
 split at hz
 ·assumption
 ·cases hz
theorem A.alloc{all:Array Oper}{o:Oper}{l:List Oper}{ks:List (Nat×Bool)}{t:TypeId}{ti:TI}{d:Nat}{x:AV}
 (hg:gyesA E all o.guard=some ks) (ho:o.op= .alloc t) (ht:K.S.get t=some ti) (hz:zeroA ti=some x) (hd:o.dst=some d) (hc:okPutA K.n E d=true)
 (next: ∀b,A K (.ops all l::k) ⟨(d, .v (.pointer (some ⟨b,0,none⟩)))::E.us,E.cs⟩ (.box b x::Λ)):A K (.ops all (o::l)::k) E Λ:=by
 refine ⟨fun h e L hl r q=>?_⟩
 refine V.alloc (C:=K.cfg) (gyesA_eq r hg) ho ht (zeroA_one hz) hd (okPutA_eq r hc) fun b=>?_
 obtain ⟨z,e1,e2⟩:=zeroA_rp (h:=h) hz
 exact (next b).run h _ (_::L) hl ⟨r.1.put (Rp_v.2 ⟨rfl,rfl⟩),r.2⟩ (.one ⟨z,e1,by rw [e2]⟩ q)
theorem boxL_of{v:Value}(h:allOne (cellsL v)=true):boxL v=some (cellsL v):=by
 unfold boxL
 split
 ·rename_i l;have h:allOne l=true:=h;simp only [h];rfl
 ·rename_i hna
  have:cellsL v=[v]:=by cases v<;>first|rfl|(rename_i c;exact (hna c.toList rfl).elim)
  rw [this] at h
  simp only [allOne] at h
  split at h
  ·rename_i ho;simp only [ho,this]
  ·cases h
theorem A.box{all:Array Oper}{o:Oper}{l:List Oper}{ks:List (Nat×Bool)}{t:TypeId}{y:Operand}{v:AV}{vs:List AV}{d:Nat}
 (hg:gyesA E all o.guard=some ks) (ho:o.op= .box t y) (hy:E.ev K.gs ks y=some v) (hb:cellsA v=some vs) (h1:oneA vs=true) (hd:o.dst=some d) (hc:okPutA K.n E d=true)
 (next: ∀b,A K (.ops all l::k) ⟨(d, .v (.pointer (some ⟨b,0,none⟩)))::E.us,E.cs⟩ (.box b v::Λ)):A K (.ops all (o::l)::k) E Λ:=by
 refine ⟨fun h e L hl r q=>?_⟩
 obtain ⟨u,e2,f2⟩:=r.ev (K.hgs.mono hl) _ hy
 have h2:=(cellsA_rp f2 hb).one h1
 refine V.box (C:=K.cfg) (gyesA_eq r hg) ho e2 (boxL_of h2) hd (okPutA_eq r hc) fun b=>?_
 exact (next b).run h _ (_::L) hl ⟨r.1.put (Rp_v.2 ⟨rfl,rfl⟩),r.2⟩ (.one ⟨u,f2,rfl⟩ q)
def Fun(P:Program)(gs:Ua)(f:FuncId)(args:List AV)(Λ:List AEnt)(Q:AV->List AEnt->Prop):Prop:=
 ∀w0 h vs L F,GsOk h gs->RpC h args vs->RpL h Λ L->Does P w0 f vs h (L++F) fun v h' L'=> ∃x Λ' L1,Q x Λ'/\Rp h' x v/\h.le h'/\RpL h' Λ' L1/\L'=L1++F
def Pure(P:Program)(gs:Ua)(f:FuncId)(args:List AV)(x:AV):Prop:=Fun P gs f args [] fun y Λ'=>y=x/\Λ'=[]
theorem Fun.mono{P:Program}{gs:Ua}{f:FuncId}{args:List AV}{Λ:List AEnt}{Q Q':AV->List AEnt->Prop}(hf:Fun P gs f args Λ Q)(hq: ∀x Λ',Q x Λ'->Q' x Λ'):Fun P gs f args Λ Q':=
 fun w0 h vs L F g r q=>(hf w0 h vs L F g r q).mono fun _ _ _ ⟨x,Λ',L1,e1,e2,e3⟩=>⟨x,Λ',L1,hq _ _ e1,e2,e3⟩
def argUa:Nat->List AV->Ua
 |_,[]=>[]
 |i,v::r=>(i,v)::argUa (i+1) r
theorem argUa_rp{h:GH}: ∀{args:List AV} {vs:List Value} (i:Nat),RpC h args vs->RpU h (argUa i args) (argUs i vs)
 | [],_,i,r=>by rw [RpC_nil] at r;subst r;exact rfl
 |x::l,_,i,r=>by
  rw [RpC_cons] at r
  obtain ⟨v,vs',rfl,h1,h2⟩:=r
  exact ⟨v,_,rfl,h1,argUa_rp (i+1) h2⟩
theorem Fun.of{P:Program}{S:TT}{gs:Ua}{f:FuncId}{fn:Func}{n:Nat}{args:List AV}{Λ:List AEnt}{Q:AV->List AEnt->Prop}{c:Code}(ok:S.Ok P)(hfn:P.funcs[f]? =some fn)(hb:fn.body=some c)
 (hnm:(fn.name== "runtime.NumGoroutine")=false) (hn:fn.ntmps=n) (hl:Nat.ble (lenN args) n=true)
 (hv: ∀w0 h0 F (hgs:GsOk h0 gs),A ⟨P,S,w0,f,fn,n,ok,hfn,h0,F,gs,hgs,Q,[],none⟩ [.code c] ⟨argUa 0 args,[]⟩ Λ):Fun P gs f args Λ Q:=by
 intro w0 h vs L F g r q
 have hv:=(hv w0 h F g).run h ⟨argUs 0 vs,[]⟩ L (GH.le_refl _) ⟨argUa_rp 0 r,rfl⟩ q
 have hd:=Does.of_V (C:=AC.cfg ⟨P,S,w0,f,fn,n,ok,hfn,h,F,gs,g,Q,[],none⟩) rfl rfl hb hnm hn (by rw [r.len,<-lenN_eq];exact hl) hv
 refine ⟨hd.1,fun w s=>(hd.2 w s).mono fun _ _ ⟨v,h',L',e1,⟨x,Λ',L1,q1,q2,q3,q4,q5⟩,s'⟩=>⟨v,h',L1++F,e1,⟨x,Λ',L1,q1,q2,q3,q4,rfl⟩,s'.sub q5⟩⟩
theorem Pure.of{P:Program}{S:TT}{gs:Ua}{f:FuncId}{fn:Func}{n:Nat}{args:List AV}{x:AV}{c:Code}(ok:S.Ok P)(hfn:P.funcs[f]? =some fn)(hb:fn.body=some c)
 (hnm:(fn.name== "runtime.NumGoroutine")=false) (hn:fn.ntmps=n) (hl:Nat.ble (lenN args) n=true)
 (hv: ∀w0 h0 F (hgs:GsOk h0 gs),A ⟨P,S,w0,f,fn,n,ok,hfn,h0,F,gs,hgs,fun y Λ'=>Sb y x/\Λ'=[],[],none⟩ [.code c] ⟨argUa 0 args,[]⟩ []):Pure P gs f args x:=by
 have:=Fun.of (Λ:=[]) (Q:=fun y Λ'=>Sb y x/\Λ'=[]) ok hfn hb hnm hn hl hv
 intro w0 h vs L F g r q
 exact (this w0 h vs L F g r q).mono fun _ _ _ ⟨y,Λ',L1,⟨e1,e1'⟩,e2,e3⟩=>⟨x,Λ',L1,⟨rfl,e1'⟩,e1.rp e2,e3⟩
theorem A.call{all:Array Oper}{o:Oper}{l:List Oper}{ks:List (Nat×Bool)}{x:Operand}{args:Array Operand}{ts:Array TypeId}{f:FuncId}{fst cap vs args':List AV}{Λ1 Λ2:List AEnt}{Q:AV->List AEnt->Prop}{d:Nat}
 (hg:gyesA E all o.guard=some ks) (ho:o.op= .call ⟨.value x,args,ts⟩) (hx:E.ev K.gs ks x=some (.fn f fst cap)) (ha:evsA (E.ev K.gs ks) args.toList=some vs)
 (hd:o.dst=some d) (hc:okPutA K.n E d=true) (hf:Fun K.P K.gs f args' Λ1 Q) (hs:SbL (fst++(vs++cap)) args') (hp:Λ.Perm (Λ1++Λ2))
 (next: ∀y Λ',Q y Λ'->A K (.ops all l::k) ⟨(d,y)::E.us,E.cs⟩ (Λ'++Λ2)):A K (.ops all (o::l)::k) E Λ:=by
 refine ⟨fun h e L hl r q=>?_⟩
 obtain ⟨v1,e1,f1⟩:=r.ev (K.hgs.mono hl) _ hx
 rw [Rp_fn] at f1
 obtain ⟨u,w,rfl,f2,f3⟩:=f1
 obtain ⟨us,e2,f4⟩:=evsA_rp (σ:=e.ev ks) (fun z x hz=>r.ev (K.hgs.mono hl) ks hz) ha
 obtain ⟨L',q1,q2⟩:=q.perm hp
 obtain ⟨L1,L2,rfl,q3,q4⟩:=q1.split
 refine V.perm (q2.append_right _) ?_
 rw [List.append_assoc]
 refine V.call (C:=K.cfg) (gyesA_eq r hg) ho e1 e2 hd (okPutA_eq r hc) (hf K.w0 h _ L1 (L2++K.G) (K.hgs.mono hl) (hs.rp (f2.append (f4.append f3))) q3) ?_
 rintro v h' L' ⟨y,Λ',L3,g1,g2,g3,g4,rfl⟩
 have hl':=GH.le_trans hl g3
 have:=(next y Λ' g1).run h' ⟨(d,v)::e.us,e.cs⟩ (L3++L2) hl' ⟨(r.1.mono g3).put g2,r.2.mono g3⟩ (g4.append (q4.mono g3))
 rwa [List.append_assoc] at this
theorem A.callP{all:Array Oper}{o:Oper}{l:List Oper}{ks:List (Nat×Bool)}{x:Operand}{args:Array Operand}{ts:Array TypeId}{f:FuncId}{fst cap vs args':List AV}{y:AV}{d:Nat}
 (hg:gyesA E all o.guard=some ks) (ho:o.op= .call ⟨.value x,args,ts⟩) (hx:E.ev K.gs ks x=some (.fn f fst cap)) (ha:evsA (E.ev K.gs ks) args.toList=some vs)
 (hd:o.dst=some d) (hc:okPutA K.n E d=true) (hf:Pure K.P K.gs f args' y) (hs:SbL (fst++(vs++cap)) args')
 (next:A K (.ops all l::k) ⟨(d,y)::E.us,E.cs⟩ Λ):A K (.ops all (o::l)::k) E Λ:=
 A.call hg ho hx ha hd hc hf hs (.refl _) fun _ _ ⟨e1,e2⟩=>(by subst e1;subst e2;exact next)
def slOf(sz:Nat):AV->Option (List AV×Option Value)
 | .sl s l own=>match Nat.beq s sz with
   |true=>some (l,own)
   |false=>none
 | .v (.slice none 0 0)=>some ([],some (.slice none 0 0))
 |_=>none
theorem slOf_rp{h:GH}{sz:Nat}{x:AV}{l:List AV}{own:Option Value}{y:Value}(hx:slOf sz x=some (l,own))(r:Rp h x y):Rp h (.sl sz l own) y:=by
 unfold slOf at hx
 split at hx
 ·split at hx
  ·rename_i hs
   have hs:=Nat.eq_of_beq_eq_true hs
   injection hx with hx;injection hx with h1 h2;subst h1;subst h2;subst hs;exact r
  ·cases hx
 ·injection hx with hx;injection hx with h1 h2;subst h1;subst h2
  rw [Rp_v] at r;rw [r.1,Rp_sl]
  exact ⟨none,0,rfl,Nat.le_refl _,rfl,fun hn=>(hn rfl).elim⟩
 ·cases hx
theorem sl_Sl{h:GH}{sz:Nat}{l:List AV}{own:Option Value}{y:Value}(r:Rp h (.sl sz l own) y): ∃zs,RpC h l zs/\(∀z,z∈zs->(cellsL z).length=sz)/\Sl h sz y (catL zs):=by
 rw [Rp_sl] at r
 obtain ⟨a,cap,rfl,h2,_,h4⟩:=r
 by_cases hn:l=[]
 ·subst hn
  exact ⟨[],RpC_nil.2 rfl,fun _ hz=>(by cases hz),a,0,cap,rfl,h2,by simp [catL],fun h=>by omega⟩
 ·obtain ⟨b,o,rfl,h5⟩:=h4 hn
  obtain ⟨zs,g1,g2,g3⟩:=RpE_cat h5
  exact ⟨zs,g1,g2,_,_,_,rfl,h2,by rw [cat_len g2,g1.len],fun _=>⟨b,o,rfl,g3⟩⟩
theorem Sl_sl{h:GH}{sz:Nat}{l:List AV}{y:Value}{zs:List Value}(hsz:0<sz)(g1:RpC h l zs)(g2: ∀z,z∈zs->(cellsL z).length=sz)(r:Sl h sz y (catL zs)):Rp h (.sl sz l (some y)) y:=by
 obtain ⟨a,n,c,rfl,h2,h3,h4⟩:=r
 rw [cat_len g2,g1.len] at h3
 have hn:n=l.length:=(Nat.eq_of_mul_eq_mul_right hsz h3).symm
 subst hn
 rw [Rp_sl]
 refine ⟨a,c,rfl,h2,rfl,fun hn=>?_⟩
 obtain ⟨b,o,rfl,h5⟩:=h4 (by cases l with|nil=>exact (hn rfl).elim|cons x l=>simp)
 exact ⟨b,o,rfl,RpE_of g1 g2 h5⟩
theorem A.append{all:Array Oper}{o:Oper}{l:List Oper}{ks:List (Nat×Bool)}{y1 y2:Operand}{t el:TypeId}{ti ei:TI}{x1 x2:AV}{l1 l2:List AV}{z:Value}{own2:Option Value}{d:Nat}{Λ':List AEnt}
 (hg:gyesA E all o.guard=some ks) (ho:o.op= .call ⟨.builtin .append, #[y1,y2], #[t,t]⟩) (h1:E.ev K.gs ks y1=some x1) (h2:E.ev K.gs ks y2=some x2)
 (ht:K.S.get t=some ti) (hdd:ti.d= .slice el) (he:K.S.get el=some ei) (s1:slOf ei.size x1=some (l1,some z)) (s2:slOf ei.size x2=some (l2,own2)) [i:ATl Λ ei.size z Λ']
 (hsz:Nat.blt 0 ei.size=true) (hz1:allOne ei.zero=true) (hby:Nat.ble ei.bytes 4096=true) (hd:o.dst=some d) (hc:okPutA K.n E d=true)
 (hb:(l1.length+l2.length)*ei.size<=1073741824)
 (next: ∀z',A K (.ops all l::k) ⟨(d, .sl ei.size (l1++l2) (some z'))::E.us,E.cs⟩ (.tail ei.size z'::Λ')):A K (.ops all (o::l)::k) E Λ:=by
 refine ⟨fun h e L hl r q=>?_⟩
 obtain ⟨v1,e1,f1⟩:=r.ev (K.hgs.mono hl) _ h1
 obtain ⟨v2,e2,f2⟩:=r.ev (K.hgs.mono hl) _ h2
 have f1:=slOf_rp s1 f1
 have f2:=slOf_rp s2 f2
 have hown:v1=z:=by rw [Rp_sl] at f1;obtain ⟨_,_,_,_,h3,_⟩:=f1;exact h3
 subst hown
 obtain ⟨zs1,a1,a2,a3⟩:=sl_Sl f1
 obtain ⟨zs2,b1,b2,b3⟩:=sl_Sl f2
 obtain ⟨L',q1,q2⟩:=q.perm i.perm
 obtain ⟨_,L2,rfl,⟨p,q3,rfl⟩,q4⟩:=q1
 have hsz':0<ei.size:=by simpa [Nat.blt_eq] using hsz
 have hlen:(catL zs1).length+(catL zs2).length=(l1.length+l2.length)*ei.size:=by rw [cat_len a2,cat_len b2,a1.len,b1.len,Nat.add_mul]
 refine V.perm (q2.append_right _) ?_
 refine V.append (C:=K.cfg) (gyesA_eq r hg) ho e1 e2 ht hdd he hsz hz1 hby hd (okPutA_eq r hc) a3 q3 b3 (by rw [hlen];exact hb) ?_
 intro v' h' x' g1 g2 g3
 have hl':=GH.le_trans hl g1
 have hcat:catL zs1++catL zs2=catL (zs1++zs2):=by simp [catL]
 rw [hcat] at g2
 have hrp:Rp h' (.sl ei.size (l1++l2) (some v')) v':=Sl_sl hsz' ((a1.append b1).mono g1) (fun z hz=>by
  rcases List.mem_append.1 hz with hz|hz
  ·exact a2 z hz
  ·exact b2 z hz) g2
 exact (next v').run h' ⟨(d,v')::e.us,e.cs⟩ (x'::L2) hl' ⟨(r.1.mono g1).put hrp,r.2.mono g1⟩ (.one ⟨x',g3,rfl⟩ (q4.mono g1))
theorem Tl.full(sz n:Nat)(a:Option Addr)(ha:a=none->n=0)(hs: ∀x,a=some x->x.spot=none): ∃p:Ent,Tl sz (.slice a n n) p/\p.cs=[]/\p.obj=none:=by
 cases a with
 |none=>have:=ha rfl;subst this;exact ⟨⟨0,0,[],none⟩,Tl.nil sz,rfl,rfl⟩
 |some x=>
  obtain ⟨b,o,sp⟩:=x
  have:=hs _ rfl
  simp only at this;subst this
  exact ⟨⟨b,o+n*sz,[],none⟩,⟨rfl,_,_,_,rfl, .inr ⟨b,o,rfl,Nat.le_refl _,rfl,rfl,by simp⟩⟩,rfl,rfl⟩
theorem V.hollow{C:Cfg}{e:Env}{h:GH}{L:List Ent}(p:Ent)(hp:p.cs=[])(ho:p.obj=none)(hv:V C k e h (p::L)):V C k e h L:=by
 intro hok a w bb cs g s hf hk
 refine hv hok a w bb cs g ⟨s.below,s.imm,s.imm1,fun q hq=>?_,List.pairwise_cons.2 ⟨fun q hq=>⟨fun i j hi=>by rw [hp] at hi;simp at hi,fun x=>by rw [ho] at x;cases x⟩,s.dis⟩,s.frz,s.drn⟩ hf hk
 rcases List.mem_cons.1 hq with rfl|hq
 ·exact ⟨fun v hv=>by rw [hp] at hv;simp at hv,fun i v hv=>by rw [hp] at hv;simp at hv,fun i hi=>by rw [hp] at hi;simp at hi,fun i hi=>by rw [hp] at hi;simp at hi,fun i hi=>by rw [hp] at hi;simp at hi,fun o h'=>by rw [ho] at h';cases h'⟩
 ·exact s.own q hq
theorem A.appendF{all:Array Oper}{o:Oper}{l:List Oper}{ks:List (Nat×Bool)}{y1 y2:Operand}{t el:TypeId}{ti ei:TI}{x1 x2:AV}{l1 l2:List AV}{a:Option Addr}{n:Nat}{own2:Option Value}{d:Nat}
 (hg:gyesA E all o.guard=some ks) (ho:o.op= .call ⟨.builtin .append, #[y1,y2], #[t,t]⟩) (h1:E.ev K.gs ks y1=some x1) (h2:E.ev K.gs ks y2=some x2)
 (ht:K.S.get t=some ti) (hdd:ti.d= .slice el) (he:K.S.get el=some ei) (s1:slOf ei.size x1=some (l1,some (.slice a n n))) (s2:slOf ei.size x2=some (l2,own2))
 (hsz:Nat.blt 0 ei.size=true) (hz1:allOne ei.zero=true) (hby:Nat.ble ei.bytes 4096=true) (hd:o.dst=some d) (hc:okPutA K.n E d=true)
 (hb:(l1.length+l2.length)*ei.size<=1073741824) (ha:a=none->n=0) (hsp: ∀x,a=some x->x.spot=none)
 (next: ∀z',A K (.ops all l::k) ⟨(d, .sl ei.size (l1++l2) (some z'))::E.us,E.cs⟩ (.tail ei.size z'::Λ)):A K (.ops all (o::l)::k) E Λ:=by
 have key:A K (.ops all (o::l)::k) E (.tail ei.size (.slice a n n)::Λ):=
  A.append (Λ:= .tail ei.size (.slice a n n)::Λ) hg ho h1 h2 ht hdd he s1 s2 hsz hz1 hby hd hc hb next
 refine ⟨fun h e L hl r q=>?_⟩
 obtain ⟨p,hp1,hp2,hp3⟩:=Tl.full ei.size n a ha hsp
 exact V.hollow p hp2 hp3 (key.run h e (p::L) hl r (.one ⟨p,hp1,rfl⟩ q))
theorem A.append0{all:Array Oper}{o:Oper}{l:List Oper}{ks:List (Nat×Bool)}{y1 y2:Operand}{t el:TypeId}{ti ei:TI}{x1 x2:AV}{l1 l2:List AV}{own2:Option Value}{d:Nat}
 (hg:gyesA E all o.guard=some ks) (ho:o.op= .call ⟨.builtin .append, #[y1,y2], #[t,t]⟩) (h1:E.ev K.gs ks y1=some x1) (h2:E.ev K.gs ks y2=some x2)
 (ht:K.S.get t=some ti) (hdd:ti.d= .slice el) (he:K.S.get el=some ei) (s1:slOf ei.size x1=some (l1,some (.slice none 0 0))) (s2:slOf ei.size x2=some (l2,own2))
 (hsz:Nat.blt 0 ei.size=true) (hz1:allOne ei.zero=true) (hby:Nat.ble ei.bytes 4096=true) (hd:o.dst=some d) (hc:okPutA K.n E d=true)
 (hb:(l1.length+l2.length)*ei.size<=1073741824)
 (next: ∀z',A K (.ops all l::k) ⟨(d, .sl ei.size (l1++l2) (some z'))::E.us,E.cs⟩ (.tail ei.size z'::Λ)):A K (.ops all (o::l)::k) E Λ:=
 A.appendF hg ho h1 h2 ht hdd he s1 s2 hsz hz1 hby hd hc hb (fun _=>rfl) (fun _ h=>by cases h) next
theorem A.index{all:Array Oper}{o:Oper}{l:List Oper}{ks:List (Nat×Bool)}{t el:TypeId}{ti ei:TI}{x ix:Operand}{xv y y':AV}{xs:List AV}{own:Option Value}{kk:IntKind}{i:Int}{E':AEnv}
 (hg:gyesA E all o.guard=some ks) (ho:o.op= .indexAddr t x ix) (hx:E.ev K.gs ks x=some xv) (hi:E.ev K.gs ks ix=some (.v (.int kk i))) (ht:K.S.get t=some ti) (hdd:ti.d= .slice el) (he:K.S.get el=some ei)
 (hs:slOf ei.size xv=some (xs,own)) (h0:0<=i) (hy:xs[i.toNat]? =some y) (hy':y=y') (hput:E.put K.n none o.dst (.pe ei.size y')=some E') (next:A K (.ops all l::k) E' Λ):A K (.ops all (o::l)::k) E Λ:=by
 subst hy'
 refine ⟨fun h e L hl r q=>?_⟩
 obtain ⟨v1,e1,f1⟩:=r.ev (K.hgs.mono hl) _ hx
 obtain ⟨v2,e2,f2⟩:=r.ev (K.hgs.mono hl) _ hi
 rw [Rp_v] at f2;rw [f2.1] at e2
 have f1:=slOf_rp hs f1
 rw [Rp_sl] at f1
 obtain ⟨a,cap,rfl,_,_,h4⟩:=f1
 have hlt:i.toNat<xs.length:=by
  rcases Nat.lt_or_ge i.toNat xs.length with h|h
  ·exact h
  ·rw [List.getElem?_eq_none h] at hy;cases hy
 obtain ⟨b,off,rfl,h5⟩:=h4 (fun hn=>by subst hn;simp at hlt)
 obtain ⟨z,g1,g2,g3⟩:=h5.at hy
 obtain ⟨e',e4,e5⟩:=putA_eq r hput (Rp_pe.2 ⟨b,off+i.toNat*ei.size,z,rfl,g1,g2,g3⟩)
 have hiv:idxv K.S t (.slice (some ⟨b,off,none⟩) xs.length cap) i=some (.pointer (some ⟨b,off+i.toNat*ei.size,none⟩),xs.length):=by simp only [idxv,ht,hdd,he]
 exact V.indexY (C:=K.cfg) (gyesA_eq r hg) ho e1 e2 hiv e4 h0 (by omega) (next.run h e' L hl e5 q)
def repA:Nat->AV->List AV
 |0,_=>[]
 |n+1,z=>z::repA n z
def setA:List AV->Nat->AV->Option (List AV)
 |_::r,0,v=>some (v::r)
 |c::r,n+1,v=>match setA r n v with
  |some r'=>some (c::r')
  |none=>none
 | [],_,_=>none
def eltOk(ei:TI)(v:AV):Bool:=match cellsA v with
 |some vs=>match Nat.beq (lenN vs) ei.size with
  |true=>oneA vs
  |false=>false
 |none=>false
def layE(ei:TI)(ρ:Operand->Option AV):List (Nat×Operand)->List AV->Option (List AV)
 | [],l=>some l
 |(i,x)::r,l=>match ρ x with
  |some v=>match eltOk ei v with
   |true=>match setA l i v with
    |some l'=>layE ei ρ r l'
    |none=>none
   |false=>none
  |none=>none
def litA(S:TT)(ρ:Operand->Option AV)(t:TypeId)(len:Nat)(parts:List (Nat×Operand)):Option (Nat×List AV):=
 match S.get t with
 |some ti=>match ti.d with
  | .slice el=>match S.get el with
    |some ei=>match Nat.beq (len*ei.size) 0 with
     |true=>none
     |false=>match Nat.ble (len*ei.size) 16777216 with
      |true=>match Nat.beq ei.zero.length ei.size with
       |true=>match zeroA ei with
        |some z=>match layE ei ρ parts (repA len z) with
         |some l=>some (ei.size,l)
         |none=>none
        |none=>none
       |false=>none
      |false=>none
    |none=>none
  |_=>none
 |none=>none
theorem repA_len(n:Nat)(z:AV):(repA n z).length=n:=by induction n with
 |zero=>rfl
 |succ n ih=>simp [repA,ih]
theorem setA_len: ∀{l:List AV} {i:Nat} {v:AV} {r:List AV},setA l i v=some r->r.length=l.length
 | [],_,_,_,h=>by cases h
 |c::l,0,v,r,h=>by simp only [setA] at h;injection h with h;subst h;rfl
 |c::l,i+1,v,r,h=>by
  simp only [setA] at h
  split at h
  ·rename_i r' h1;injection h with h;subst h;simp [setA_len h1]
  ·cases h
theorem setA_eq{l:List AV}{i:Nat}{v:AV}: ∀(hi:i<l.length),setA l i v=some (l.set i v):=by
 induction l generalizing i with
 |nil=>intro hi;simp at hi
 |cons c l ih=>
  intro hi
  cases i with
  |zero=>rfl
  |succ i=>simp only [setA,ih (by simpa using hi),List.set_cons_succ]
theorem updL_app(vs:List Value): ∀(l r:List Value) (k:Nat) {r':List Value},updL r k vs=some r'->updL (l++r) (l.length+k) vs=some (l++r')
 | [],r,k,r',h=>by simpa using h
 |x::l,r,k,r',h=>by
  have:=updL_app vs l r k h
  simp only [List.cons_append,List.length_cons]
  rw [show l.length+1+k=(l.length+k)+1 by omega]
  simp only [updL,this]
theorem updL_head: ∀(l vs r:List Value),vs.length=l.length->updL (l++r) 0 vs=some (vs++r)
 | [],[],r,_=>by cases r<;>rfl
 |x::l,v::vs,r,h=>by
  have:=updL_head l vs r (by simpa using h)
  simp only [List.cons_append,updL,this]
theorem Els.upd{h:GH}{sz:Nat}: ∀{l:List AV} {zs:List Value} {i:Nat} {v:AV} {u:Value} {r:List AV},Els h sz l zs->Rp h v u->(cellsL u).length=sz->allOne (cellsL u)=true->setA l i v=some r->
 ∃zs',Els h sz r zs'/\updL (catL zs) (i*sz) (cellsL u)=some (catL zs')
 | [],_,_,_,_,_,_,_,_,_,hs=>by cases hs
 |c::l,zs,0,v,u,r,a,p,p1,p2,hs=>by
  simp only [setA] at hs
  injection hs with hs;subst hs
  obtain ⟨a1,a2,a3⟩:=a
  rw [RpC_cons] at a1
  obtain ⟨z,zs',rfl,a4,a5⟩:=a1
  refine ⟨u::zs',⟨RpC_cons.2 ⟨u,zs',rfl,p,a5⟩,fun x hx=>?_,fun x hx=>?_⟩,?_⟩
  ·rcases List.mem_cons.1 hx with rfl|hx
   ·exact p1
   ·exact a2 x (List.mem_cons_of_mem _ hx)
  ·rcases List.mem_cons.1 hx with rfl|hx
   ·exact p2
   ·exact a3 x (List.mem_cons_of_mem _ hx)
  ·simp only [catL,List.flatMap_cons,Nat.zero_mul]
   exact updL_head _ _ _ (by rw [p1,a2 z (List.mem_cons_self ..)])
 |c::l,zs,i+1,v,u,r,a,p,p1,p2,hs=>by
  simp only [setA] at hs
  split at hs
  ·rename_i r' hr
   injection hs with hs;subst hs
   obtain ⟨a1,a2,a3⟩:=a
   rw [RpC_cons] at a1
   obtain ⟨z,zs',rfl,a4,a5⟩:=a1
   obtain ⟨zs2,b1,b2⟩:=Els.upd (zs:=zs') ⟨a5,fun x hx=>a2 x (List.mem_cons_of_mem _ hx),fun x hx=>a3 x (List.mem_cons_of_mem _ hx)⟩ p p1 p2 hr
   refine ⟨z::zs2,⟨RpC_cons.2 ⟨z,zs2,rfl,a4,b1.rp⟩,fun x hx=>?_,fun x hx=>?_⟩,?_⟩
   ·rcases List.mem_cons.1 hx with rfl|hx
    ·exact a2 x (List.mem_cons_self ..)
    ·exact b1.sz x hx
   ·rcases List.mem_cons.1 hx with rfl|hx
    ·exact a3 x (List.mem_cons_self ..)
    ·exact b1.one x hx
   ·simp only [catL,List.flatMap_cons]
    have hz:=a2 z (List.mem_cons_self ..)
    have:=updL_app (cellsL u) (cellsL z) (zs'.flatMap cellsL) (i*sz) (by simpa only [catL] using b2)
    rw [hz] at this
    rw [show (i+1)*sz=sz+i*sz by rw [Nat.succ_mul];omega]
    simpa only [catL] using this
  ·cases hs
theorem eltOk_rp{h:GH}{ei:TI}{v:AV}{u:Value}(hv:eltOk ei v=true)(p:Rp h v u):(cellsL u).length=ei.size/\allOne (cellsL u)=true/\ ∃vs,cellsA v=some vs:=by
 unfold eltOk at hv
 split at hv
 ·rename_i vs hvs
  split at hv
  ·rename_i hlen
   have p1:=cellsA_rp p hvs
   exact ⟨by rw [p1.len,<-lenN_eq];exact Nat.eq_of_beq_eq_true hlen,p1.one hv,vs,hvs⟩
  ·cases hv
 ·cases hv
theorem layE_rp{h:GH}{ei:TI}{ρ:Operand->Option AV}{σ:Operand->Option Value}(hρ: ∀z x,ρ z=some x-> ∃y,σ z=some y/\Rp h x y): ∀{parts:List (Nat×Operand)} {l r:List AV} {zs:List Value},Els h ei.size l zs->
 layE ei ρ parts l=some r-> ∃zs',Els h ei.size r zs'/\layL (fun i=>some (i*ei.size,ei.size)) σ parts (catL zs)=some (catL zs')
 | [],l,r,zs,a,hr=>by simp only [layE] at hr;injection hr with hr;subst hr;exact ⟨zs,a,rfl⟩
 |(i,x)::p,l,r,zs,a,hr=>by
  simp only [layE] at hr
  split at hr
  ·rename_i v hv
   split at hr
   ·rename_i hok
    split at hr
    ·rename_i l' hl'
     obtain ⟨u,e1,e2⟩:=hρ x v hv
     obtain ⟨e3,e4,_⟩:=eltOk_rp hok e2
     obtain ⟨zs1,b1,b2⟩:=a.upd e2 e3 e4 hl'
     obtain ⟨zs',c1,c2⟩:=layE_rp hρ b1 hr
     have e5:Nat.beq (cellsL u).length ei.size=true:=by rw [e3];simp
     exact ⟨zs',c1,by simp only [layL,e1,e5,b2,c2]⟩
    ·cases hr
   ·cases hr
  ·cases hr
theorem repA_els{h:GH}{sz:Nat}{x:AV}{z:Value}(r:Rp h x z)(h1:(cellsL z).length=sz)(h2:allOne (cellsL z)=true): ∀n,Els h sz (repA n x) (List.replicate n z)
 |0=>⟨RpC_nil.2 rfl,fun _ hz=>(by cases hz),fun _ hz=>(by cases hz)⟩
 |n+1=>by
  have ih:=repA_els r h1 h2 n
  refine ⟨RpC_cons.2 ⟨z,_,by simp [List.replicate_succ],r,ih.rp⟩,fun y hy=>?_,fun y hy=>?_⟩
  ·have:=List.eq_of_mem_replicate hy;subst this;exact h1
  ·have:=List.eq_of_mem_replicate hy;subst this;exact h2
theorem cat_rep(z:Value)(n:Nat):catL (List.replicate n z)=(List.replicate n (cellsL z)).flatten:=by simp [catL,List.flatMap]
theorem Els.oneAll{h:GH}{sz:Nat}{l:List AV}: ∀{zs:List Value},Els h sz l zs->allOne (catL zs)=true:=fun {zs} a=>allOne_of fun v hv=>by
 simp only [catL,List.mem_flatMap] at hv
 obtain ⟨z,hz,hv⟩:=hv
 exact allOne_mem (a.one z hz) v hv
theorem litA_rp{h:GH}{S:TT}{ρ:Operand->Option AV}{σ:Operand->Option Value}(hρ: ∀z x,ρ z=some x-> ∃y,σ z=some y/\Rp h x y){t:TypeId}{len:Nat}{parts:List (Nat×Operand)}{sz:Nat}{l:List AV}
 (hl:litA S ρ t len parts=some (sz,l)): ∃zs,Els h sz l zs/\litL S σ t len parts=some (catL zs)/\l.length=len/\0<sz:=by
 unfold litA at hl
 split at hl
 ·rename_i ti ht
  split at hl
  ·rename_i el hd
   split at hl
   ·rename_i ei he
    split at hl
    ·cases hl
    ·rename_i h1
     split at hl
     ·rename_i h2
      split at hl
      ·rename_i h2'
       split at hl
       ·rename_i z hz
        split at hl
        ·rename_i l' hl'
         injection hl with hl;injection hl with e1 e2;subst e1;subst e2
         obtain ⟨z0,f1,f2⟩:=zeroA_rp (h:=h) hz
         have hz1:=zeroA_one hz
         have a:=repA_els (sz:=ei.size) f1 (by rw [f2];exact Nat.eq_of_beq_eq_true h2') (by rw [f2];exact hz1) len
         obtain ⟨zs',b1,b2⟩:=layE_rp hρ a hl'
         refine ⟨zs',b1,?_,?_,?_⟩
         ·simp only [litL,ht,hd,he,h1,h2]
          rw [cat_rep,f2] at b2
          exact b2
         ·have: ∀{parts:List (Nat×Operand)} {l r:List AV},layE ei ρ parts l=some r->r.length=l.length:=by
           intro parts
           induction parts with
           |nil=>intro l r h;simp only [layE] at h;injection h with h;subst h;rfl
           |cons p q ih=>
            intro l r h
            obtain ⟨i,x⟩:=p
            simp only [layE] at h
            split at h
            ·split at h
             ·split at h
              ·rename_i l1 hl1
               rw [ih h,setA_len hl1]
              ·cases h
             ·cases h
            ·cases h
          rw [this hl',repA_len]
         ·rcases Nat.eq_zero_or_pos ei.size with h0|h0
          ·rw [h0] at h1;simp at h1
          ·exact h0
        ·cases hl
       ·cases hl
      ·cases hl
     ·cases hl
   ·cases hl
  ·cases hl
 ·cases hl
theorem A.lit{all:Array Oper}{o:Oper}{l:List Oper}{ks:List (Nat×Bool)}{t:TypeId}{len:Nat}{parts:Array (Nat×Operand)}{sz:Nat}{xs:List AV}{d:Nat}
 (hg:gyesA E all o.guard=some ks) (ho:o.op= .buildSlice t len parts) (hx:litA K.S (E.ev K.gs ks) t len parts.toList=some (sz,xs)) (hd:o.dst=some d) (hc:okPutA K.n E d=true)
 (next: ∀b,A K (.ops all l::k) ⟨(d, .sl sz xs (some (.slice (some ⟨b,0,none⟩) len len)))::E.us,E.cs⟩ Λ):A K (.ops all (o::l)::k) E Λ:=by
 refine ⟨fun h e L hl r q=>?_⟩
 obtain ⟨zs,a,b1,b2,b3⟩:=litA_rp (σ:=e.ev ks) (fun z x hz=>r.ev (K.hgs.mono hl) ks hz) hx
 refine V.litP (C:=K.cfg) (gyesA_eq r hg) ho b1 a.oneAll hd (okPutA_eq r hc) fun b h' hle hat=>?_
 have hrp:Rp h' (.sl sz xs (some (.slice (some ⟨b,0,none⟩) len len))) (.slice (some ⟨b,0,none⟩) len len):=by
  rw [Rp_sl]
  exact ⟨some ⟨b,0,none⟩,len,by rw [b2],by rw [b2];exact Nat.le_refl _,rfl,fun _=>⟨b,0,rfl,RpE_of (a.rp.mono hle) a.sz hat⟩⟩
 exact (next b).run h' _ L (GH.le_trans hl hle) ⟨(r.1.mono hle).put hrp,r.2.mono hle⟩ (q.mono hle)
theorem A.retC{p:Nat}{t:TypeId}{b off:Nat}{ti:TI}{x y:AV}{Λ':List AEnt}(hk:atEnd k=true)(hr:K.fn.results= #[.cell p t])(hx:lookA E.us p=some (.v (.pointer (some ⟨b,off,none⟩))))(ht:K.S.get t=some ti)
 [i:AAt Λ b x] (hv:ldA ti x off=some y) (hs:Λ'.Sublist Λ) (hq:K.Q y Λ') (hrd:K.rd=none:=by rfl):A K k E Λ:=by
 refine ⟨fun h e L hl r q=>?_⟩
 rcases r.1.look p with ⟨z,v,e1,e2,e3⟩|⟨e1,e2⟩
 ·rw [hx] at e1;injection e1 with e1;subst e1
  rw [Rp_v] at e3;rw [e3.1] at e2
  obtain ⟨pe,g1,z,g2,g3⟩:=q.mem i.mem
  subst g3
  have g1:=g1 _ (List.mem_singleton.2 rfl)
  obtain ⟨v',e4,e5⟩:=ldA_rp (b:=b) g2 hv
  obtain ⟨L',m1,m2⟩:=q.sub hs
  exact V.retC (C:=K.cfg) hk hrd rfl hr e2 ht (i:=⟨List.mem_append_left _ g1,rfl⟩) e4 ⟨y,Λ',L',hq,e5,hl,m1,m2.append_right _⟩
 ·rw [hx] at e1;cases e1
end
end Go.Tp
namespace Go.Tp
open Go Go.RowKit
theorem WE.valueY{G:Rg}{π:List Nat}{e:Env}{h:GH}{E:Slots}{i:Nat}{o:Oper}{ks:List (Nat×Bool)}{v:Value}{e':Env}(ho:nthL G.all.toList i=some o)(hk:kd o= .qt)(hg:gyes e G.all o.guard=some ks)
 (hr: ∀a w E,Ag G.C.n G.C.D e a->St G.C.w0 h (E++G.L0) w->keysOk a ks->(execOp a.eval o).run G.C.P w= .ok (.value v) w) (hp:e.put G.C.n none o.dst v=some e') (next:WE G π e' h E):WE G (i::π) e h E:=by
 intro a g
 refine ⟨o,by rw [nthL_eq,Array.getElem?_toList] at ho;exact ho,?_⟩
 obtain ⟨hon,hks⟩:=gyes_spec g hg
 unfold Rg.Node
 rw [hon,hk]
 exact ⟨v, .inl fun E' w s=>hr a w E' g s hks,next _ (g.put hp)⟩
abbrev Da:=List (Nat×AEnt)
def lookD:Da->Nat->Option AEnt
 | [],_=>none
 |(k,v)::r,t=>match Nat.beq k t with|true=>some v|false=>lookD r t
def RpDo(h:GH):Option AEnt->Option Ent->Prop
 |some x,y=> ∃p,y=some p/\RpEnt h x [p]
 |none,y=>y=none
def RpD(h:GH)(D:Da)(Es:Slots):Prop:= ∀i,RpDo h (lookD D i) (Es i)
theorem RpDo.mono{h h':GH}(hl:h.le h'){x:Option AEnt}{y:Option Ent}(r:RpDo h x y):RpDo h' x y:=by
 cases x with
 |none=>exact r
 |some x=>obtain ⟨p,h1,h2⟩:=r;exact ⟨p,h1,h2.mono hl⟩
theorem RpD.mono{h h':GH}(hl:h.le h'){D:Da}{Es:Slots}(r:RpD h D Es):RpD h' D Es:=fun i=>(r i).mono hl
theorem RpD.set{h:GH}{D:Da}{Es:Slots}(r:RpD h D Es){i:Nat}{x:AEnt}{p:Ent}(q:RpEnt h x [p]):RpD h ((i,x)::D) (Es.set i (some p)):=fun j=>by
 simp only [lookD,Slots.set]
 by_cases hj:j=i
 ·subst hj;simp only [Nat.beq_refl,if_true];exact ⟨p,rfl,q⟩
 ·rw [if_neg hj]
  have:Nat.beq i j=false:=by
   cases hb:Nat.beq i j with
   |false=>rfl
   |true=>exact absurd (Nat.eq_of_beq_eq_true hb).symm hj
  rw [this];exact r j
def dropD(ps:List Nat):Da->Da
 | []=>[]
 |(k,v)::r=>match memB k ps with|true=>dropD ps r|false=>(k,v)::dropD ps r
theorem lookD_drop(ps:List Nat): ∀(D:Da) (i:Nat),lookD (dropD ps D) i=if i∈ps then none else lookD D i
 | [],i=>by simp [dropD,lookD]
 |(k,v)::D,i=>by
  have ih:=lookD_drop ps D i
  simp only [dropD]
  cases hm:memB k ps with
  |true=>
   have hm:=memB_iff.1 hm
   simp only [ih,lookD]
   split
   ·rfl
   ·rename_i hi
    have:Nat.beq k i=false:=by
     cases hb:Nat.beq k i with
     |false=>rfl
     |true=>have:=Nat.eq_of_beq_eq_true hb;subst this;exact absurd hm hi
    rw [this]
  |false=>
   have hm:k∉ps:=fun hh=>by rw [memB_iff.2 hh] at hm;cases hm
   simp only [lookD]
   cases hb:Nat.beq k i with
   |true=>have:=Nat.eq_of_beq_eq_true hb;subst this;simp only [if_neg hm]
   |false=>exact ih
theorem RpD.pub{h:GH}{D:Da}{Es:Slots}(r:RpD h D Es)(ps:List Nat):RpD h (dropD ps D) (pubE ps Es):=fun i=>by
 rw [lookD_drop,pubE_at]
 split
 ·rfl
 ·exact r i
def YA(Y:Ua):Nat->List Value->Value->GH->Prop:=fun i _ v h'=>match lookA Y i with
 |some y=>Rp h' y v
 |none=>False
def lenO:List Oper->Nat
 | []=>0
 |_::r=>Nat.succ (lenO r)
theorem lenO_eq(l:List Oper):lenO l=l.length:=by induction l with
 |nil=>rfl
 |cons x r ih=>simp [lenO,ih]
structure WA(K:AC)(all:Array Oper)(m:Nat)(k:List It)(pubs:Nat->List Nat)(Y:Ua)(π:List Nat)(E:AEnv)(Λ:List AEnt)(D:Da):Prop where
 run: ∀h e L Es,K.h0.le h->RpEnv h E e->RpL h Λ L->RpD h D Es->WE (drawRg K.cfg all (L++K.G) pubs (YA Y) m k) π e h Es
mutual
inductive SbP(D:Da)(ps:List Nat):AV->AV->Prop
 |sub {x y:AV}:Sb x y->SbP D ps x y
 |pub {j sz n:Nat} {z:Value} {l l':List AV}:lookD D j=some (.row sz z l)->memB j ps=true->SbPL D ps l l'->SbP D ps (.ms z sz n) (.sl sz l' none)
inductive SbPL(D:Da)(ps:List Nat):List AV->List AV->Prop
 |sub {x y:List AV}:SbL x y->SbPL D ps x y
 |cons {x y:AV} {l r:List AV}:SbP D ps x y->SbPL D ps l r->SbPL D ps (x::l) (y::r)
end
theorem RpRow.pub{h:GH}{sz:Nat}{z:Value}{l:List AV}{p:Ent}(r:RpRow h sz z l p): ∃a cap zs,z= .slice a l.length cap/\l.length<=cap/\RpC h l zs/\(∀z,z∈zs->(cellsL z).length=sz)/\(l≠[]-> ∃b o sp,a=some ⟨b,o,none⟩/\p=⟨b,o,catL zs++sp,none⟩):=by
 obtain ⟨a,cap,zs,rfl,h2,h3,h4,h5⟩:=r
 refine ⟨a,cap,zs,rfl,h2,h3.rp,h3.sz,fun hn=>?_⟩
 rcases h5 with ⟨h5,_⟩|h5
 ·exact (hn h5).elim
 ·obtain ⟨b,o,sp,k1,k2,_⟩:=h5
  exact ⟨b,o,sp,k1,k2⟩
theorem SbPL.len{D:Da}{ps:List Nat}{l r:List AV}(s:SbPL D ps l r):l.length=r.length:=by
 induction r generalizing l with
 |nil=>cases s with
  |sub s=>exact s.len
 |cons x r ih=>cases s with
  |sub s=>exact s.len
  |cons _ s=>simp [ih s]
mutual
theorem SbP.rp{h h':GH}{D:Da}{Es:Slots}{ps:List Nat}(r:RpD h D Es)(hl:h.le h')(hp: ∀j,j∈ps-> ∀x,Es j=some x->atH h' x.b x.lo x.cs): ∀{x y:AV} (s:SbP D ps x y) {v:Value} (q:Rp h x v),Rp h' y v
 |_,_, .sub s,_,q=>(s.rp q).mono hl
 |_,_, .pub (j:=j) (l:=l) (l':=l') hd hm hs,_,q=>by
  have:=r j
  rw [hd] at this
  obtain ⟨p,e1,p',e2,e3⟩:=this
  injection e3 with e3;subst e3
  rw [Rp_ms] at q
  obtain ⟨rfl,_⟩:=q
  have hat:=hp j (memB_iff.1 hm) p e1
  obtain ⟨a,cap,zs,rfl,g2,g3,g4,g5⟩:=e2.pub
  have hlen:=hs.len
  rw [Rp_sl,<-hlen]
  refine ⟨a,cap,rfl,g2,trivial,fun hn=>?_⟩
  obtain ⟨b,o,sp,rfl,rfl⟩:=g5 (fun hh=>hn (by subst hh;exact List.length_eq_zero_iff.1 hlen.symm))
  exact ⟨b,o,rfl,RpE_of (SbPL.rp r hl hp hs g3) g4 (atH.left hat)⟩
theorem SbPL.rp{h h':GH}{D:Da}{Es:Slots}{ps:List Nat}(r:RpD h D Es)(hl:h.le h')(hp: ∀j,j∈ps-> ∀x,Es j=some x->atH h' x.b x.lo x.cs): ∀{x y:List AV} (s:SbPL D ps x y) {v:List Value} (q:RpC h x v),RpC h' y v
 |_,_, .sub s,_,q=>(s.rp q).mono hl
 |_,_, .cons s t,_,q=>by
  rw [RpC_cons] at q⊢
  obtain ⟨u,us,rfl,h1,h2⟩:=q
  exact ⟨u,us,rfl,SbP.rp r hl hp s h1,SbPL.rp r hl hp t h2⟩
end
section
variable{K:AC}{all:Array Oper}{m:Nat}{k:List It}{pubs:Nat->List Nat}{Y:Ua}{π:List Nat}{E:AEnv}{Λ:List AEnt}{D:Da}
theorem A.draw{id:Nat}(m:Nat)(π:List Nat)(pubs:Nat->List Nat)(Y:Ua)(hm:K.P.follows .mixedOrders=true)(hok:drawOkN all m π pubs=true)(hv:WA K all m k pubs Y π E Λ []):A K (.code (.region id all true)::k) E Λ:=
 ⟨fun h e L hl r q=>V.draw (C:=K.cfg) m π pubs (YA Y) hm hok (hv.run h e L Slots.none hl r q fun i=>rfl)⟩
def wstepYA(S:TT)(gs:Ua)(n:Nat)(all:Array Oper)(π:List Nat)(E:AEnv):Option (List Nat×AEnv):=
 match π with
 | []=>none
 |i::π=>match nthL all.toList i with
  |some o=>match kdQt o with
   |true=>match gyesA E all o.guard with
    |some ks=>match apve S gs E ks o.op with
     |some v=>match E.put n none o.dst v with
      |some E'=>some (π,E')
      |none=>none
     |none=>none
    |none=>none
   |false=>none
  |none=>none
theorem kdQt_eq{o:Oper}(h:kdQt o=true):kd o= .qt:=by
 unfold kdQt at h
 split at h
 ·assumption
 ·cases h
theorem WA.stepY{π':List Nat}{E':AEnv}(hs:wstepYA K.S K.gs K.n all π E=some (π',E'))(next:WA K all m k pubs Y π' E' Λ D):WA K all m k pubs Y π E Λ D:=by
 refine ⟨fun h e L Es hl r q d=>?_⟩
 unfold wstepYA at hs
 split at hs
 ·cases hs
 ·split at hs
  ·rename_i o ho
   split at hs
   ·rename_i hk
    split at hs
    ·rename_i ks hg
     split at hs
     ·rename_i v hpv
      split at hs
      ·rename_i E'' hput
       injection hs with hs;injection hs with h1 h2;subst h1;subst h2
       obtain ⟨y,e1,e2⟩:=run_apve (P:=K.P) (w0:=K.w0) (n:=K.n) (L:=[]) K.ok (K.hgs.mono hl) r hpv
       obtain ⟨e',e3,e4⟩:=putA_eq r hput e1
       refine WE.valueY (G:=drawRg K.cfg all (L++K.G) pubs (YA Y) m k) ho (kdQt_eq hk) (gyesA_eq r hg) (fun a w E0 g s hks=>e2 a w g (s.sub (List.nil_sublist _)) hks) e3 (next.run h e' L Es hl e4 q d)
      ·cases hs
     ·cases hs
    ·cases hs
   ·cases hs
  ·cases hs
theorem WA.loadY{i:Nat}{o:Oper}{ks:List (Nat×Bool)}{t:TypeId}{p:Operand}{b off:Nat}{ti:TI}{x y:AV}{E':AEnv}
 (hi:nthL all.toList i=some o) (hg:gyesA E all o.guard=some ks) (ho:o.op= .load t p) (hp:E.ev K.gs ks p=some (.v (.pointer (some ⟨b,off,none⟩)))) (ht:K.S.get t=some ti) [z:AAt Λ b x]
 (hv:ldA ti x off=some y) (hput:E.put K.n none o.dst y=some E') (next:WA K all m k pubs Y π E' Λ D):WA K all m k pubs Y (i::π) E Λ D:=by
 refine ⟨fun h e L Es hl r q d=>?_⟩
 obtain ⟨v1,e1,f1⟩:=r.ev (K.hgs.mono hl) _ hp
 rw [Rp_v] at f1;rw [f1.1] at e1
 obtain ⟨pe,g1,u,g2,g3⟩:=q.mem z.mem
 subst g3
 have g1:=g1 _ (List.mem_singleton.2 rfl)
 obtain ⟨v,e2,e3⟩:=ldA_rp (b:=b) g2 hv
 obtain ⟨e',e4,e5⟩:=putA_eq r hput e3
 exact WE.valueY (G:=drawRg K.cfg all (L++K.G) pubs (YA Y) m k) hi (kd_load ho) (gyesA_eq r hg) (fun a w E0 g s hk=>by
  have:=run_ldV (TT.Ok.get K.ok ht) (s.own ⟨b,0,cellsL u,none⟩ (List.mem_append_right _ (List.mem_append_left _ g1))) rfl e2
  unfold execOp
  rw [ho]
  have this:Sem.run K.cfg.P (Instr.loadAt t (Value.pointer (some ⟨b,off,none⟩))) w= .ok v w:=this
  simp only [g.ev hk e1,Sem.run_bind,this,Result.andThen_ok,Sem.run_pure]) e4 (next.run h e' L Es hl e5 q d)
theorem WA.index{i0:Nat}{o:Oper}{ks:List (Nat×Bool)}{t el:TypeId}{ti ei:TI}{x ix:Operand}{xv y y':AV}{xs:List AV}{own:Option Value}{kk:IntKind}{i:Int}{E':AEnv}
 (hi0:nthL all.toList i0=some o) (hg:gyesA E all o.guard=some ks) (ho:o.op= .indexAddr t x ix) (hx:E.ev K.gs ks x=some xv) (hi:E.ev K.gs ks ix=some (.v (.int kk i))) (ht:K.S.get t=some ti) (hdd:ti.d= .slice el) (he:K.S.get el=some ei)
 (hs:slOf ei.size xv=some (xs,own)) (h0:0<=i) (hy:xs[i.toNat]? =some y) (hy':y=y') (hput:E.put K.n none o.dst (.pe ei.size y')=some E') (next:WA K all m k pubs Y π E' Λ D):WA K all m k pubs Y (i0::π) E Λ D:=by
 subst hy'
 refine ⟨fun h e L Es hl r q d=>?_⟩
 obtain ⟨v1,e1,f1⟩:=r.ev (K.hgs.mono hl) _ hx
 obtain ⟨v2,e2,f2⟩:=r.ev (K.hgs.mono hl) _ hi
 rw [Rp_v] at f2;rw [f2.1] at e2
 have f1:=slOf_rp hs f1
 rw [Rp_sl] at f1
 obtain ⟨a,cap,rfl,_,_,h4⟩:=f1
 have hlt:i.toNat<xs.length:=by
  rcases Nat.lt_or_ge i.toNat xs.length with h|h
  ·exact h
  ·rw [List.getElem?_eq_none h] at hy;cases hy
 obtain ⟨b,off,rfl,h5⟩:=h4 (fun hn=>by subst hn;simp at hlt)
 obtain ⟨z,g1,g2,g3⟩:=h5.at hy
 obtain ⟨e',e4,e5⟩:=putA_eq r hput (Rp_pe.2 ⟨b,off+i.toNat*ei.size,z,rfl,g1,g2,g3⟩)
 have hiv:idxv K.S t (.slice (some ⟨b,off,none⟩) xs.length cap) i=some (.pointer (some ⟨b,off+i.toNat*ei.size,none⟩),xs.length):=by simp only [idxv,ht,hdd,he]
 exact WE.valueY (G:=drawRg K.cfg all (L++K.G) pubs (YA Y) m k) hi0 (kd_index ho) (gyesA_eq r hg) (fun a w E0 g s hk=>by
  have:=run_idxv (P:=K.cfg.P) (w:=w) (kk:=kk) K.ok hiv h0 (by omega)
  unfold execOp
  rw [ho]
  simp only [g.ev hk e1,g.ev hk e2,Sem.run_bind,this,Result.andThen_ok,Sem.run_pure]) e4 (next.run h e' L Es hl e5 q d)
theorem WA.skip{i:Nat}{o:Oper}{x:Bool}{E':AEnv}(hi:nthL all.toList i=some o)(hg:gnoA E all o.guard=some x)(hp:E.put K.n none o.dst (.tp [])=some E')(next:WA K all m k pubs Y π E' Λ D):WA K all m k pubs Y (i::π) E Λ D:=by
 refine ⟨fun h e L Es hl r q d=>?_⟩
 obtain ⟨e',e3,e4⟩:=putA_eq r hp (y:=undef) (Rp_tp.2 ⟨[],rfl,RpC_nil.2 rfl⟩)
 exact WE.skip (G:=drawRg K.cfg all (L++K.G) pubs (YA Y) m k) hi (gnoA_eq r hg) e3 (next.run h e' L Es hl e4 q d)
theorem WA.pickT{i:Nat}{o:Oper}{mm:Option (Nat×Bool)}{ks:List (Nat×Bool)}{c x y:Operand}{v:AV}{E':AEnv}(hi:nthL all.toList i=some o)(hg:gmodeA E all o.guard=some (mm,ks))(ho:o.op= .pick c x y)(hc:E.ev K.gs ks c=some (.v (.bool true)))
 (hx:E.ev K.gs ks x=some v) (hp:E.put K.n mm o.dst v=some E') (next:WA K all m k pubs Y π E' Λ D):WA K all m k pubs Y (i::π) E Λ D:=by
 refine ⟨fun h e L Es hl r q d=>?_⟩
 rw [gmodeA_eq r] at hg
 obtain ⟨v1,e1,f1⟩:=r.ev (K.hgs.mono hl) _ hc
 obtain ⟨v2,e2,f2⟩:=r.ev (K.hgs.mono hl) _ hx
 rw [Rp_v] at f1;rw [f1.1] at e1
 obtain ⟨e',e3,e4⟩:=putA_eq r hp f2
 exact WE.pickT (G:=drawRg K.cfg all (L++K.G) pubs (YA Y) m k) hi hg ho e1 e2 e3 (next.run h e' L Es hl e4 q d)
theorem WA.pickF{i:Nat}{o:Oper}{mm:Option (Nat×Bool)}{ks:List (Nat×Bool)}{c x y:Operand}{v:AV}{E':AEnv}(hi:nthL all.toList i=some o)(hg:gmodeA E all o.guard=some (mm,ks))(ho:o.op= .pick c x y)(hc:E.ev K.gs ks c=some (.v (.bool false)))
 (hx:E.ev K.gs ks y=some v) (hp:E.put K.n mm o.dst v=some E') (next:WA K all m k pubs Y π E' Λ D):WA K all m k pubs Y (i::π) E Λ D:=by
 refine ⟨fun h e L Es hl r q d=>?_⟩
 rw [gmodeA_eq r] at hg
 obtain ⟨v1,e1,f1⟩:=r.ev (K.hgs.mono hl) _ hc
 obtain ⟨v2,e2,f2⟩:=r.ev (K.hgs.mono hl) _ hx
 rw [Rp_v] at f1;rw [f1.1] at e1
 obtain ⟨e',e3,e4⟩:=putA_eq r hp f2
 exact WE.pickF (G:=drawRg K.cfg all (L++K.G) pubs (YA Y) m k) hi hg ho e1 e2 e3 (next.run h e' L Es hl e4 q d)
theorem WA.val(t:Nat){x x':AV}(hx:lookA E.us t=some x)(hs:Sb x x')(next:WA K all m k pubs Y π ⟨(t,x')::E.us,E.cs⟩ Λ D):WA K all m k pubs Y π E Λ D:=by
 refine ⟨fun h e L Es hl r q d=>?_⟩
 rcases r.1.look t with ⟨y,v,e1,e2,e3⟩|⟨e1,e2⟩
 ·rw [hx] at e1;injection e1 with e1;subst e1
  exact WE.val (G:=drawRg K.cfg all (L++K.G) pubs (YA Y) m k) t e2 rfl (next.run h ⟨(t,v)::e.us,e.cs⟩ L Es hl ⟨r.1.put (hs.rp e3),r.2⟩ q d)
 ·rw [hx] at e1;cases e1
theorem WA.valE(t:Nat){x x':AV}(hx:lookA E.us t=some x)(hs:x=x')(next:WA K all m k pubs Y π ⟨(t,x')::E.us,E.cs⟩ Λ D):WA K all m k pubs Y π E Λ D:=WA.val t hx (by subst hs;exact .refl) next
theorem WA.split(t:Nat){g:Bool}(hx:lookA E.us t=some (.v (.bool g)))(ht:g=true->WA K all m k pubs Y π ⟨(t, .v (.bool true))::E.us,E.cs⟩ Λ D)(hf:g=false->WA K all m k pubs Y π ⟨(t, .v (.bool false))::E.us,E.cs⟩ Λ D):WA K all m k pubs Y π E Λ D:=by
 cases g
 ·exact WA.val t hx .refl (hf rfl)
 ·exact WA.val t hx .refl (ht rfl)
theorem WA.alloc{i:Nat}{o:Oper}{ks:List (Nat×Bool)}{t:TypeId}{ti:TI}{d:Nat}{x:AV}(hi:nthL all.toList i=some o)
 (hg:gyesA E all o.guard=some ks) (ho:o.op= .alloc t) (ht:K.S.get t=some ti) (hz:zeroA ti=some x) (hd:o.dst=some d) (hc:okPutA K.n E d=true) (hE:lookD D i=none)
 (next: ∀b,WA K all m k pubs Y π ⟨(d, .v (.pointer (some ⟨b,0,none⟩)))::E.us,E.cs⟩ Λ ((i, .box b x)::D)):WA K all m k pubs Y (i::π) E Λ D:=by
 refine ⟨fun h e L Es hl r q dd=>?_⟩
 have hE':Es i=none:=by have:=dd i;rw [hE] at this;exact this
 refine WE.alloc (G:=drawRg K.cfg all (L++K.G) pubs (YA Y) m k) hi (gyesA_eq r hg) ho ht (zeroA_one hz) hd (okPutA_eq r hc) hE' fun b=>?_
 obtain ⟨z,e1,e2⟩:=zeroA_rp (h:=h) hz
 exact (next b).run h _ L _ hl ⟨r.1.put (Rp_v.2 ⟨rfl,rfl⟩),r.2⟩ q (dd.set ⟨z,e1,by rw [e2]⟩)
theorem WA.lit{i:Nat}{o:Oper}{ks:List (Nat×Bool)}{t:TypeId}{len:Nat}{parts:Array (Nat×Operand)}{sz:Nat}{xs:List AV}{d:Nat}(hi:nthL all.toList i=some o)
 (hg:gyesA E all o.guard=some ks) (ho:o.op= .buildSlice t len parts) (hx:litA K.S (E.ev K.gs ks) t len parts.toList=some (sz,xs)) (hd:o.dst=some d) (hc:okPutA K.n E d=true) (hE:lookD D i=none)
 (next: ∀b,WA K all m k pubs Y π ⟨(d, .ms (.slice (some ⟨b,0,none⟩) len len) sz len)::E.us,E.cs⟩ Λ ((i, .row sz (.slice (some ⟨b,0,none⟩) len len) xs)::D)):WA K all m k pubs Y (i::π) E Λ D:=by
 refine ⟨fun h e L Es hl r q dd=>?_⟩
 have hE':Es i=none:=by have:=dd i;rw [hE] at this;exact this
 obtain ⟨zs,a,b1,b2,b3⟩:=litA_rp (σ:=e.ev ks) (fun z x hz=>r.ev (K.hgs.mono hl) ks hz) hx
 refine WE.lit (G:=drawRg K.cfg all (L++K.G) pubs (YA Y) m k) hi (gyesA_eq r hg) ho b1 a.oneAll hd (okPutA_eq r hc) hE' fun b=>?_
 refine (next b).run h _ L _ hl ⟨r.1.put (Rp_ms.2 ⟨rfl,_,_,rfl⟩),r.2⟩ q (dd.set ⟨_,⟨some ⟨b,0,none⟩,len,zs,by rw [b2],by rw [b2];exact Nat.le_refl _,a,rfl, .inr ⟨b,0,[],rfl,by rw [List.append_nil],by rw [b2];simp⟩⟩,rfl⟩)
theorem WA.store{i j:Nat}{o:Oper}{ks:List (Nat×Bool)}{t:TypeId}{p y:Operand}{b off:Nat}{ti:TI}{x x' v:AV}(hi:nthL all.toList i=some o)
 (hg:gyesA E all o.guard=some ks) (ho:o.op= .store t p y) (hp:E.ev K.gs ks p=some (.v (.pointer (some ⟨b,off,none⟩)))) (hy:E.ev K.gs ks y=some v) (ht:K.S.get t=some ti) (hj:pubs i=[j]) (hE:lookD D j=some (.box b x))
 (hv:stA ti x off v=some x') (hd:o.dst=none) (next:WA K all m k pubs Y π E Λ ((j, .box b x')::D)):WA K all m k pubs Y (i::π) E Λ D:=by
 refine ⟨fun h e L Es hl r q dd=>?_⟩
 obtain ⟨v1,e1,f1⟩:=r.ev (K.hgs.mono hl) _ hp
 rw [Rp_v] at f1;rw [f1.1] at e1
 obtain ⟨u,e2,f2⟩:=r.ev (K.hgs.mono hl) _ hy
 have:=dd j
 rw [hE] at this
 obtain ⟨pp,g1,z,g2,g3⟩:=this
 injection g3 with g3;subst g3
 obtain ⟨z',e3,e4⟩:=stA_rp (b:=b) g2 f2 hv
 exact WE.store (G:=drawRg K.cfg all (L++K.G) pubs (YA Y) m k) hi (gyesA_eq r hg) ho e1 e2 ht hj g1 rfl e3 hd (next.run h e L _ hl r q (dd.set ⟨z',e4,rfl⟩))
theorem WA.callP{i:Nat}{o:Oper}{ks:List (Nat×Bool)}{x:Operand}{args:Array Operand}{ts:Array TypeId}{f:FuncId}{fst cap vs args':List AV}{y:AV}{d:Nat}{ps:List Nat}{D':Da}(hi:nthL all.toList i=some o)
 (hg:gyesA E all o.guard=some ks) (ho:o.op= .call ⟨.value x,args,ts⟩) (hx:E.ev K.gs ks x=some (.fn f fst cap)) (ha:evsA (E.ev K.gs ks) args.toList=some vs)
 (hd:o.dst=some d) (hc:okPutA K.n E d=true) (hp:pubs i=ps) (hii:memB i ps=false) (hD:dropD ps D=D') (hY:lookA Y i=some y) (hf:Pure K.P K.gs f args' y) (hs:SbPL D ps (fst++(vs++cap)) args')
 (next:WA K all m k pubs Y π ⟨(d,y)::E.us,E.cs⟩ Λ D'):WA K all m k pubs Y (i::π) E Λ D:=by
 subst hD;subst hp
 refine ⟨fun h e L Es hl r q dd=>?_⟩
 obtain ⟨v1,e1,f1⟩:=r.ev (K.hgs.mono hl) _ hx
 rw [Rp_fn] at f1
 obtain ⟨u,w,rfl,f2,f3⟩:=f1
 obtain ⟨us,e2,f4⟩:=evsA_rp (σ:=e.ev ks) (fun z x hz=>r.ev (K.hgs.mono hl) ks hz) ha
 refine WE.callL (G:=drawRg K.cfg all (L++K.G) pubs (YA Y) m k) hi (gyesA_eq r hg) ho e1 e2 hd (okPutA_eq r hc) (fun pk L'=>?_) (fun v h' y1 y2 y3=>?_) hii
 ·have hargs:=hs.rp dd pk.1 pk.2 (f2.append (f4.append f3))
  refine (hf K.w0 _ _ [] _ (K.hgs.mono (GH.le_trans hl pk.1)) hargs rfl).mono ?_
  rintro v h' L'' ⟨z,Λ',L1,⟨rfl,rfl⟩,g2,g3,g4,rfl⟩
  have g4:L1=[]:=g4
  subst g4
  exact ⟨rfl,g3,by simp only [YA,hY];exact g2⟩
 ·have y3:Rp h' y v:=by simp only [YA,hY] at y3;exact y3
  exact next.run h' ⟨(d,v)::e.us,e.cs⟩ L _ (GH.le_trans hl y2) ⟨(r.1.mono y2).put y3,r.2.mono y2⟩ (q.mono y2) ((dd.mono y2).pub _)
def listDn(D:Da):Nat->Nat->List AEnt
 |_,0=>[]
 |i,n+1=>match lookD D i with
  |some x=>x::listDn D (i+1) n
  |none=>listDn D (i+1) n
theorem listDn_rp{h:GH}{D:Da}{Es:Slots}(d:RpD h D Es): ∀(n i:Nat),∃l,listU Es i n=some l/\RpL h (listDn D i n) l
 |0,i=>⟨[],rfl,rfl⟩
 |n+1,i=>by
  obtain ⟨l,e1,e2⟩:=listDn_rp d n (i+1)
  have:=d i
  simp only [listDn,listU]
  cases hx:lookD D i with
  |none=>rw [hx] at this;have this:Es i=none:=this;rw [this];exact ⟨l,e1,e2⟩
  |some x=>
   rw [hx] at this
   obtain ⟨p,e3,e4⟩:=this
   simp only [e3,e1]
   exact ⟨p::l,rfl, .one e4 e2⟩
theorem WA.nil{l:List AEnt}(hl:listDn D 0 (lenO all.toList)=l)(hv:A K (.ops all (all.toList.drop m)::k) E (l++Λ)):WA K all m k pubs Y [] E Λ D:=by
 subst hl
 refine ⟨fun h e L Es hh r q d=>?_⟩
 obtain ⟨l,e1,e2⟩:=listDn_rp d all.size 0
 have:lenO all.toList=all.size:=by rw [lenO_eq];simp
 rw [this] at hv
 refine WE.nil e1 ?_
 have:=hv.run h e (l++L) hh r (e2.append q)
 rwa [List.append_assoc] at this
end
end Go.Tp
namespace Go.Tp
open Go Go.RowKit
theorem hollow_st{w0 w:World}{h:GH}{L:List Ent}(s:St w0 h L w)(p:Ent)(hp:p.cs=[])(ho:p.obj=none):St w0 h (p::L) w:=by
 refine ⟨s.below,s.imm,s.imm1,fun q hq=>?_,List.pairwise_cons.2 ⟨fun q hq=>⟨fun i j hi=>by rw [hp] at hi;simp at hi,fun x=>by rw [ho] at x;cases x⟩,s.dis⟩,s.frz,s.drn⟩
 rcases List.mem_cons.1 hq with rfl|hq
 ·exact ⟨fun v hv=>by rw [hp] at hv;simp at hv,fun i v hv=>by rw [hp] at hv;simp at hv,fun i hi=>by rw [hp] at hi;simp at hi,fun i hi=>by rw [hp] at hi;simp at hi,fun i hi=>by rw [hp] at hi;simp at hi,fun o h'=>by rw [ho] at h';cases h'⟩
 ·exact s.own q hq
section
variable{C:Cfg}{k:List It}{e:Env}{h:GH}{L:List Ent}
theorem V.make{all:Array Oper}{o:Oper}{l:List Oper}{ks:List (Nat×Bool)}{t el:TypeId}{ti ei:TI}{y1 y2:Operand}{k1 k2:IntKind}{n:Int}{d:Nat}
 (hg:gyes e all o.guard=some ks) (ho:o.op= .makeSlice t y1 y2) (h1:e.ev ks y1=some (.int k1 n)) (h2:e.ev ks y2=some (.int k2 n)) (ht:C.S.get t=some ti) (hdd:ti.d= .slice el) (he:C.S.get el=some ei)
 (hsz:0<ei.size) (hz1:allOne ei.zero=true) (hd:o.dst=some d) (hc:okPut C.n e d=true) (h0:0<=n) (hb:(ei.bytes:Int)*n<=140737488355328) (hn:n<=9223372036854775807)
 (next: ∀b,V C (.ops all l::k) ⟨(d, .slice (some ⟨b,0,none⟩) n.toNat n.toNat)::e.us,e.cs⟩ h (⟨b,0,(List.replicate n.toNat ei.zero).flatten,none⟩::L)):V C (.ops all (o::l)::k) e h L:=
 V.gives hg hd hc fun a w g s hk=>by
  have ok:=TT.Ok.get C.ok ht
  have oke:=TT.Ok.get C.ok he
  obtain ⟨xi,zv,hxi,hxs,hxb,hxz,hzl⟩:=oke.info
  have hund:C.P.underlying t=some (.slice el):=by rw [ok.und,hdd]
  have hr:=run_make (P:=C.P) w t el xi zv hund hxi hxz k1 k2 n n h0 (Int.le_refl _) (by rw [hxb];omega) hn
  have hcells:madeCells zv.cells (n.toNat*xi.size)=⟨(List.replicate n.toNat ei.zero).flatten⟩:=by
   have hz0:ei.zero≠[]:=by intro hh;have:=oke.len;rw [hh] at this;simp at this;omega
   have:=flatten_replicate_mod ei.zero hz0 n.toNat
   rw [oke.len] at this
   rw [<-this,hxs,show zv.cells=ei.zero.toArray from by rw [<-hzl]]
   rfl
  rw [hcells] at hr
  have hone:allOne (List.replicate n.toNat ei.zero).flatten=true:=allOne_of fun v hv=>by
   obtain ⟨l,hl,hvl⟩:=List.mem_flatten.1 hv
   have:=(List.mem_replicate.1 hl).2
   subst this
   exact allOne_mem hz1 v hvl
  refine ⟨_,_,h,_,?_,s.alloc ⟨_⟩ el hone,next _⟩
  unfold execOp
  rw [ho]
  simp only [g.ev hk h1,g.ev hk h2,Sem.run_bind,hr,Result.andThen_ok,Sem.run_pure]
end
section
variable{K:AC}{k:List It}{E:AEnv}{Λ:List AEnt}
theorem A.freeze(t:Nat){b:Nat}{x:AV}{vs:List AV}{sz:Nat}{Λ':List AEnt}(hx:lookA E.us t=some (.v (.pointer (some ⟨b,0,none⟩)))) [i:AAt Λ b x] [j:AOut Λ (.box b x) Λ'](hc:cellsA x=some vs)(hn:lenN vs=sz)
 (next:A K k ⟨(t, .pe sz x)::E.us,E.cs⟩ Λ'):A K k E Λ:=by
 refine ⟨fun h e L hl r q=>?_⟩
 rcases r.1.look t with ⟨y,v,e1,e2,e3⟩|⟨e1,e2⟩
 ·rw [hx] at e1;injection e1 with e1;subst e1
  rw [Rp_v] at e3
  obtain ⟨L',q1,q2⟩:=q.perm j.perm
  obtain ⟨M,L2,rfl,⟨z,q3,rfl⟩,q4⟩:=q1
  refine V.perm (q2.append_right _) (V.publish fun hle=>?_)
  have hrp:Rp (h.add b 0 (cellsL z)) (.pe sz x) v:=by
   rw [e3.1,Rp_pe]
   exact ⟨b,0,z,rfl,q3.mono hle,by rw [(cellsA_rp q3 hc).len,<-hn,lenN_eq],fun i u hu=>GH.add_at h b 0 _ hu⟩
  exact V.val t e2 rfl (next.run _ ⟨(t,v)::e.us,e.cs⟩ L2 (GH.le_trans hl hle) ⟨(r.1.mono hle).put hrp,r.2.mono hle⟩ (q4.mono hle))
 ·rw [hx] at e1;cases e1
theorem A.freezeRow(t:Nat){z:Value}{sz sz' n:Nat}{l:List AV}{Λ':List AEnt}(hx:lookA E.us t=some (.ms z sz' n)) [i:ARow Λ z sz l] [j:AOut Λ (.row sz z l) Λ']
 (next:A K k ⟨(t, .sl sz l none)::E.us,E.cs⟩ Λ'):A K k E Λ:=by
 refine ⟨fun h e L hl r q=>?_⟩
 rcases r.1.look t with ⟨y,v,e1,e2,e3⟩|⟨e1,e2⟩
 ·rw [hx] at e1;injection e1 with e1;subst e1
  rw [Rp_ms] at e3
  obtain ⟨rfl,_⟩:=e3
  obtain ⟨L',q1,q2⟩:=q.perm j.perm
  obtain ⟨M,L2,rfl,⟨p,q3,rfl⟩,q4⟩:=q1
  obtain ⟨a,cap,zs,rfl,g2,g3,g4,g5⟩:=q3
  obtain ⟨pb,plo,pcs,pobj⟩:=p
  simp only at g4;subst g4
  refine V.perm (q2.append_right _) (V.publish fun hle=>?_)
  have hrp:Rp (h.add pb plo pcs) (.sl sz l none) (.slice a l.length cap):=by
   rw [Rp_sl]
   refine ⟨a,cap,rfl,g2,trivial,fun hn=>?_⟩
   rcases g5 with ⟨g5,_⟩|⟨b,o,sp,rfl,g5,_⟩
   ·exact (hn g5).elim
   ·injection g5 with g6 g7 g8;subst g6;subst g7;subst g8
    exact ⟨pb,plo,rfl,RpE_of (g3.rp.mono hle) g3.sz (atH.left fun i u hu=>GH.add_at h pb plo _ hu)⟩
  exact V.val t e2 rfl (next.run _ ⟨(t,_)::e.us,e.cs⟩ L2 (GH.le_trans hl hle) ⟨(r.1.mono hle).put hrp,r.2.mono hle⟩ (q4.mono hle))
 ·rw [hx] at e1;cases e1
theorem A.make{all:Array Oper}{o:Oper}{l:List Oper}{ks:List (Nat×Bool)}{t el:TypeId}{ti ei:TI}{y1 y2:Operand}{k1 k2:IntKind}{n:Int}{d:Nat}{x:AV}
 (hg:gyesA E all o.guard=some ks) (ho:o.op= .makeSlice t y1 y2) (h1:E.ev K.gs ks y1=some (.v (.int k1 n))) (h2:E.ev K.gs ks y2=some (.v (.int k2 n))) (ht:K.S.get t=some ti) (hdd:ti.d= .slice el) (he:K.S.get el=some ei)
 (hsz:Nat.blt 0 ei.size=true) (hlen:Nat.beq ei.zero.length ei.size=true) (hz:zeroA ei=some x) (hd:o.dst=some d) (hc:okPutA K.n E d=true) (h0:0<=n) (hb:(ei.bytes:Int)*n<=140737488355328) (hn:n<=9223372036854775807)
 (next: ∀z,A K (.ops all l::k) ⟨(d, .ms z ei.size n.toNat)::E.us,E.cs⟩ (.row ei.size z (List.replicate n.toNat x)::Λ)):A K (.ops all (o::l)::k) E Λ:=by
 refine ⟨fun h e L hl r q=>?_⟩
 obtain ⟨v1,e1,f1⟩:=r.ev (K.hgs.mono hl) _ h1
 obtain ⟨v2,e2,f2⟩:=r.ev (K.hgs.mono hl) _ h2
 rw [Rp_v] at f1 f2;rw [f1.1] at e1;rw [f2.1] at e2
 have hsz':0<ei.size:=by simpa [Nat.blt_eq] using hsz
 refine V.make (C:=K.cfg) (gyesA_eq r hg) ho e1 e2 ht hdd he hsz' (zeroA_one hz) hd (okPutA_eq r hc) h0 hb hn fun b=>?_
 obtain ⟨z0,g1,g2⟩:=zeroA_rp (h:=h) hz
 have hrep: ∀n,Els h ei.size (List.replicate n x) (List.replicate n z0):=fun n=>by
  have:=repA_els g1 (sz:=ei.size) (by rw [g2];exact Nat.eq_of_beq_eq_true hlen) (by rw [g2];exact zeroA_one hz) n
  have he: ∀n,repA n x=List.replicate n x:=fun n=>by
   induction n with
   |zero=>rfl
   |succ n ih=>rw [repA,ih,List.replicate_succ]
  rwa [he] at this
 refine (next (.slice (some ⟨b,0,none⟩) n.toNat n.toNat)).run h _ (_::L) hl ⟨r.1.put (Rp_ms.2 ⟨rfl,_,_,rfl⟩),r.2⟩
  (.one ⟨_,⟨some ⟨b,0,none⟩,n.toNat,_,by simp,by simp,hrep _,rfl, .inr ⟨b,0,[],rfl,?_,by simp⟩⟩,rfl⟩ q)
 rw [List.append_nil,cat_rep,g2]
theorem A.indexRow{all:Array Oper}{o:Oper}{l:List Oper}{ks:List (Nat×Bool)}{t el:TypeId}{ti ei:TI}{x ix:Operand}{z:Value}{sz sz' n:Nat}{xs:List AV}{kk:IntKind}{i:Int}{E':AEnv}
 (hg:gyesA E all o.guard=some ks) (ho:o.op= .indexAddr t x ix) (hx:E.ev K.gs ks x=some (.ms z sz' n)) (hi:E.ev K.gs ks ix=some (.v (.int kk i))) (ht:K.S.get t=some ti) (hdd:ti.d= .slice el) (he:K.S.get el=some ei) [j:ARow Λ z sz xs]
 (hs:Nat.beq ei.size sz=true) (h0:0<=i) (h1:i<xs.length) (hput:E.put K.n none o.dst (.ep z sz i.toNat)=some E') (next:A K (.ops all l::k) E' Λ):A K (.ops all (o::l)::k) E Λ:=by
 refine ⟨fun h e L hl r q=>?_⟩
 have hs:=Nat.eq_of_beq_eq_true hs
 obtain ⟨v1,e1,f1⟩:=r.ev (K.hgs.mono hl) _ hx
 obtain ⟨v2,e2,f2⟩:=r.ev (K.hgs.mono hl) _ hi
 rw [Rp_v] at f2;rw [f2.1] at e2
 rw [Rp_ms] at f1
 obtain ⟨rfl,_⟩:=f1
 obtain ⟨M,_,p,⟨a,cap,zs,rfl,g2,g3,g4,g5⟩,_⟩:=q.mem j.mem
 rcases g5 with ⟨g5,_⟩|⟨b,off,sp,rfl,rfl,_⟩
 ·subst g5;simp at h1;omega
 ·obtain ⟨e',e4,e5⟩:=putA_eq r hput (Rp_ep.2 ⟨b,off,xs.length,cap,rfl,by omega,rfl⟩)
  have hiv:idxv K.S t (.slice (some ⟨b,off,none⟩) xs.length cap) i=some (.pointer (some ⟨b,off+i.toNat*sz,none⟩),xs.length):=by simp only [idxv,ht,hdd,he,hs]
  exact V.indexY (C:=K.cfg) (gyesA_eq r hg) ho e1 e2 hiv e4 h0 h1 (next.run h e' L hl e5 q)
theorem catL_sub: ∀{zs:List Value} {sz i:Nat} {z:Value} {sp:List Value},(∀z,z∈zs->(cellsL z).length=sz)->zs[i]? =some z->subL (catL zs++sp) (i*sz) sz=some (cellsL z)
 | [],_,_,_,_,_,h=>by simp at h
 |y::zs,sz,0,z,sp,hz,h=>by
  injection h with h;subst h
  have hlen:=hz y (List.mem_cons_self ..)
  simp only [catL,List.flatMap_cons,Nat.zero_mul,List.append_assoc]
  have: ∀(l r:List Value),subL (l++r) 0 l.length=some l:=by
   intro l r
   induction l with
   |nil=>cases r<;>rfl
   |cons x l ih=>simp only [List.cons_append,List.length_cons,subL,ih]
  rw [<-hlen];exact this _ _
 |y::zs,sz,i+1,z,sp,hz,h=>by
  have hlen:=hz y (List.mem_cons_self ..)
  have ih:=catL_sub (zs:=zs) (i:=i) (sp:=sp) (fun x hx=>hz x (List.mem_cons_of_mem _ hx)) (by simpa using h)
  have: ∀(l r:List Value) (k n:Nat),subL (l++r) (l.length+k) n=subL r k n:=by
   intro l r k n
   induction l with
   |nil=>simp
   |cons x l ih=>
    rw [List.cons_append,List.length_cons,show l.length+1+k=(l.length+k)+1 by omega]
    cases n<;>simpa only [subL] using ih
  simp only [catL,List.flatMap_cons,List.append_assoc] at ih⊢
  rw [show (i+1)*sz=(cellsL y).length+i*sz by rw [hlen,Nat.succ_mul];omega,this]
  exact ih
theorem updL_right(vs sp:List Value): ∀(l:List Value) (k:Nat) {r:List Value},updL l k vs=some r->updL (l++sp) k vs=some (r++sp):=by
 induction vs with
 |nil=>
  intro l k
  induction l generalizing k with
  |nil=>intro r h;cases k with
   |zero=>simp only [updL] at h;injection h with h;subst h;cases sp<;>rfl
   |succ k=>simp [updL] at h
  |cons x l ih=>
   intro r h
   cases k with
   |zero=>simp only [updL] at h;injection h with h;subst h;rfl
   |succ k=>
    simp only [updL] at h
    split at h
    ·rename_i r' hr';injection h with h;subst h
     simp only [List.cons_append,updL,ih k hr']
    ·cases h
 |cons v vs ihv=>
  intro l k
  induction l generalizing k with
  |nil=>intro r h;cases k<;>simp [updL] at h
  |cons x l ih=>
   intro r h
   cases k with
   |zero=>
    simp only [updL] at h
    split at h
    ·rename_i r' hr';injection h with h;subst h
     simp only [List.cons_append,updL,ihv l 0 hr']
    ·cases h
   |succ k=>
    simp only [updL] at h
    split at h
    ·rename_i r' hr';injection h with h;subst h
     simp only [List.cons_append,updL,ih k hr']
    ·cases h
def shapeOk(ti:TI)(x:AV):Bool:=match ti.agg with
 |true=>match x with
  | .ag _=>true
  |_=>false
 |false=>x.one
theorem A.loadRow{all:Array Oper}{o:Oper}{l:List Oper}{ks:List (Nat×Bool)}{t:TypeId}{p:Operand}{z:Value}{sz sz' i:Nat}{xs:List AV}{ti:TI}{y y':AV}{E':AEnv}
 (hg:gyesA E all o.guard=some ks) (ho:o.op= .load t p) (hp:E.ev K.gs ks p=some (.ep z sz' i)) (ht:K.S.get t=some ti) [j:ARow Λ z sz xs] (hs:Nat.beq ti.size sz=true) (hs':Nat.beq sz' sz=true) (hsh:shapeOk ti y'=true)
 (hy:xs[i]? =some y) (hy':y=y') (hput:E.put K.n none o.dst y'=some E') (next:A K (.ops all l::k) E' Λ):A K (.ops all (o::l)::k) E Λ:=by
 subst hy'
 refine ⟨fun h e L hl r q=>?_⟩
 have hs:=Nat.eq_of_beq_eq_true hs
 have hs':=Nat.eq_of_beq_eq_true hs'
 subst hs'
 obtain ⟨v1,e1,f1⟩:=r.ev (K.hgs.mono hl) _ hp
 rw [Rp_ep] at f1
 obtain ⟨b,off,n,cap,rfl,hin,rfl⟩:=f1
 obtain ⟨M,m1,pp,⟨a,cap',zs,g1,g2,g3,g4,g5⟩,rfl⟩:=q.mem j.mem
 injection g1 with g1 g1' g1''
 subst g1;subst g1';subst g1''
 rcases g5 with ⟨g5,_⟩|⟨b',off',sp,g6,rfl,g9⟩
 ·subst g5;simp at hy
 ·injection g6 with g6;injection g6 with g6 g7;subst g6;subst g7
  obtain ⟨u,hu,hrp⟩:=g3.rp.at hy
  have hsub:=catL_sub (sp:=sp) g3.sz hu
  have hld:ldV ti ⟨b,off,catL zs++sp,none⟩ (off+i*sz')=some u:=by
   have hle:Nat.ble off (off+i*sz')=true:=Nat.ble_eq_true_of_le (Nat.le_add_right _ _)
   unfold ldV
   simp only [hle,Nat.add_sub_cancel_left]
   unfold partv
   unfold shapeOk at hsh
   cases hag:ti.agg with
   |true=>
    rw [hag] at hsh
    simp only at hsh⊢
    rw [hs,hsub]
    split at hsh
    ·rw [Rp_ag] at hrp
     obtain ⟨cs,rfl,_⟩:=hrp
     rfl
    ·cases hsh
   |false=>
    rw [hag] at hsh
    simp only at hsh⊢
    have hone:=hrp.one hsh
    have hc1:=cellsL_one hone
    have hsz1:sz'=1:=by have:=g3.sz u (List.mem_of_getElem? hu);rw [hc1] at this;simpa using this.symm
    rw [hsz1,hc1] at hsub
    obtain ⟨_,_,h3⟩:=subL_spec _ _ _ hsub
    have:=h3 0 (by omega)
    rw [nthL_eq,hsz1]
    simpa using this.symm
  obtain ⟨e',e4,e5⟩:=putA_eq r hput hrp
  exact V.loadY (C:=K.cfg) (gyesA_eq r hg) ho e1 ht (i:=⟨List.mem_append_left _ (m1 _ (List.mem_singleton.2 rfl)),rfl⟩) hld e4 (next.run h e' L hl e5 q)
theorem A.storeRow{all:Array Oper}{o:Oper}{l:List Oper}{ks:List (Nat×Bool)}{t:TypeId}{p y:Operand}{z:Value}{sz sz' i:Nat}{xs xs':List AV}{ti:TI}{v:AV}{Λ':List AEnt}
 (hg:gyesA E all o.guard=some ks) (ho:o.op= .store t p y) (hp:E.ev K.gs ks p=some (.ep z sz' i)) (hy:E.ev K.gs ks y=some v) (ht:K.S.get t=some ti) [j:ARow Λ z sz xs] (hs:Nat.beq ti.size sz=true) (hs':Nat.beq sz' sz=true) (hok:eltOk ti v=true)
 (hd:o.dst=none) (hi:i<xs.length) (hx:xs.set i v=xs') [u:ARowUp Λ z sz xs xs' Λ'] (next:A K (.ops all l::k) E Λ'):A K (.ops all (o::l)::k) E Λ:=by
 subst hx
 refine ⟨fun h e L hl r q=>?_⟩
 have hs:=Nat.eq_of_beq_eq_true hs
 have hs':=Nat.eq_of_beq_eq_true hs'
 subst hs'
 obtain ⟨v1,e1,f1⟩:=r.ev (K.hgs.mono hl) _ hp
 obtain ⟨v2,e2,f2⟩:=r.ev (K.hgs.mono hl) _ hy
 rw [Rp_ep] at f1
 obtain ⟨b,off,n,cap,rfl,hin,rfl⟩:=f1
 obtain ⟨Λ1,Λ2,d1,d2⟩:=u.split
 subst d1;subst d2
 obtain ⟨L1,M,L2,rfl,q1,⟨pp,⟨a,cap',zs,g1,g2,g3,g4,g5⟩,rfl⟩,q3⟩:=q.mid
 injection g1 with g1 g1' g1''
 subst g1;subst g1';subst g1''
 rcases g5 with ⟨g5,_⟩|⟨b',off',sp,g6,rfl,g9⟩
 ·subst g5;simp at hi
 ·injection g6 with g6;injection g6 with g6 g7;subst g6;subst g7
  obtain ⟨c1,c2,_⟩:=eltOk_rp hok f2
  rw [hs] at c1
  obtain ⟨zs',b1,b2⟩:=g3.upd f2 c1 c2 (setA_eq hi)
  have hst:stV ti ⟨b,off,catL zs++sp,none⟩ (off+i*sz') v2=some ⟨b,off,catL zs'++sp,none⟩:=by
   have h1:Nat.beq (cellsL v2).length ti.size=true:=by rw [c1,hs];simp
   have hle:Nat.ble off (off+i*sz')=true:=Nat.ble_eq_true_of_le (Nat.le_add_right _ _)
   simp only [stV,h1,hle,c2,Nat.add_sub_cancel_left,updL_right _ sp _ _ b2]
  have i':EntAt ((L1++([⟨b,off,catL zs++sp,none⟩]++L2))++K.G) b ⟨b,off,catL zs++sp,none⟩:=⟨by simp,rfl⟩
  have j':EntUp ((L1++([⟨b,off,catL zs++sp,none⟩]++L2))++K.G) b ⟨b,off,catL zs++sp,none⟩ ⟨b,off,catL zs'++sp,none⟩ ((L1++([⟨b,off,catL zs'++sp,none⟩]++L2))++K.G):=⟨L1,L2++K.G,by simp,by simp⟩
  have hlen:(xs.set i v).length=xs.length:=List.length_set
  exact V.store (C:=K.cfg) (gyesA_eq r hg) ho e1 e2 ht (i:=i') hst (j:=j') hd (next.run h e _ hl r (RpL.mid_of q1 ⟨_,⟨some ⟨b,off,none⟩,cap,zs',by rw [hlen],by rw [hlen];exact g2,b1,rfl, .inr ⟨b,off,sp,rfl,rfl,by rw [hlen];exact g9⟩⟩,rfl⟩ q3))
theorem RpRows.append{h:GH}{sz:Nat}: ∀{hs hs':List (Value×List AV)} {L L':List Ent},RpRows h sz hs L->RpRows h sz hs' L'->RpRows h sz (hs++hs') (L++L')
 | [],_,_,_,a,b=>by cases a;exact b
 |(z,l)::r,_,_,_,⟨p,L1,h1,h2,h3⟩,b=>by subst h1;exact ⟨p,_,rfl,h2,RpRows.append h3 b⟩
theorem RpRows.split{h:GH}{sz:Nat}: ∀{hs hs':List (Value×List AV)} {L:List Ent},RpRows h sz (hs++hs') L-> ∃L1 L2,L=L1++L2/\RpRows h sz hs L1/\RpRows h sz hs' L2
 | [],_,L,a=>⟨[],L,rfl,rfl,a⟩
 |(z,l)::r,_,_,⟨p,L1,h1,h2,h3⟩=>by
  obtain ⟨L2,L3,g1,g2,g3⟩:=RpRows.split h3
  subst h1;subst g1
  exact ⟨p::L2,L3,rfl,⟨p,L2,rfl,h2,g2⟩,g3⟩
theorem A.ents{Λ':List AEnt}(hq: ∀h L,RpL h Λ L-> ∃L',RpL h Λ' L'/\L.Perm L')(next:A K k E Λ'):A K k E Λ:=by
 refine ⟨fun h e L hl r q=>?_⟩
 obtain ⟨L',q1,q2⟩:=hq h L q
 exact V.perm (q2.append_right _) (next.run h e L' hl r q1)
end
end Go.Tp
namespace Go.Tp
open Go Go.RowKit
def arV(op:BinOp)(k:IntKind)(a b:Int):Int:=match op with
 | .shl=>k.wrap (a*2^(min b.toNat k.bits))
 | .shr=>a.fdiv (2^(min b.toNat k.bits))
 | .quo=>k.wrap (a.tdiv b)
 |_=>a.tmod b
def isShift:BinOp->Bool
 | .shl=>true
 | .shr=>true
 |_=>false
def isDiv:BinOp->Bool
 | .quo=>true
 | .rem=>true
 |_=>false
theorem run_shift{P:Program}{w:World}{op:BinOp}{t:TypeId}{x y:Operand}{k k':IntKind}{a b:Int}(ho:isShift op=true)(hb:0<=b):
 (do eqGuard op t x y (.int k a) (.int k' b);binOp op t (.int k a) (.int k' b):Sem Value).run P w= .ok (.int k (arV op k a b)) w:=by
 rw [Sem.run_bind,run_eqGuard rfl,Result.andThen_ok]
 have h1: ¬b<0:=by omega
 cases op<;>first|(exact absurd ho (by decide))|(simp only [binOp,Op.shift,if_neg h1];rfl)
theorem run_divrem{P:Program}{w:World}{op:BinOp}{t:TypeId}{x y:Operand}{k k':IntKind}{a b:Int}(ho:isDiv op=true)(hk:ikEq k k'=true)(hb:b≠0):
 (do eqGuard op t x y (.int k a) (.int k' b);binOp op t (.int k a) (.int k' b):Sem Value).run P w= .ok (.int k (arV op k a b)) w:=by
 rw [Sem.run_bind,run_eqGuard rfl,Result.andThen_ok]
 have hk:=ikEq_eq hk;subst hk
 cases op<;>first|(exact absurd ho (by decide))|(simp only [binOp,ne_eq,not_true_eq_false,if_false,Op.intDiv,if_neg hb];rfl)
section
variable{K:AC}{k:List It}{E:AEnv}{Λ:List AEnt}
theorem A.shift{all:Array Oper}{o:Oper}{l:List Oper}{ks:List (Nat×Bool)}{op:BinOp}{t ty:TypeId}{x y:Operand}{k1 k2:IntKind}{a b:Int}{E':AEnv}
 (hg:gyesA E all o.guard=some ks) (ho:o.op= .binOp op t x y ty) (hs:isShift op=true) (hx:E.ev K.gs ks x=some (.v (.int k1 a))) (hy:E.ev K.gs ks y=some (.v (.int k2 b)))
 (hput:E.put K.n none o.dst (.v (.int k1 (arV op k1 a b)))=some E') (hb:0<=b) (next:A K (.ops all l::k) E' Λ):A K (.ops all (o::l)::k) E Λ:=
 A.valueY hg (fun h e L hl r q=>by
  obtain ⟨v1,e1,f1⟩:=r.ev (K.hgs.mono hl) _ hx
  obtain ⟨v2,e2,f2⟩:=r.ev (K.hgs.mono hl) _ hy
  rw [Rp_v] at f1 f2;rw [f1.1] at e1;rw [f2.1] at e2
  refine ⟨_,Rp_v.2 ⟨rfl,rfl⟩,fun ac w g s hk=>?_⟩
  have:=run_shift (P:=K.P) (w:=w) (t:=t) (x:=x) (y:=y) (k:=k1) (k':=k2) (a:=a) hs hb
  unfold execOp;rw [ho]
  simp only [Sem.run_bind] at this
  simp only [g.ev hk e1,g.ev hk e2,Sem.run_bind,this,Result.andThen_ok,Sem.run_pure]) hput next
theorem A.divrem{all:Array Oper}{o:Oper}{l:List Oper}{ks:List (Nat×Bool)}{op:BinOp}{t ty:TypeId}{x y:Operand}{k1 k2:IntKind}{a b:Int}{E':AEnv}
 (hg:gyesA E all o.guard=some ks) (ho:o.op= .binOp op t x y ty) (hs:isDiv op=true) (hx:E.ev K.gs ks x=some (.v (.int k1 a))) (hy:E.ev K.gs ks y=some (.v (.int k2 b))) (hk12:ikEq k1 k2=true)
 (hput:E.put K.n none o.dst (.v (.int k1 (arV op k1 a b)))=some E') (hb:b≠0) (next:A K (.ops all l::k) E' Λ):A K (.ops all (o::l)::k) E Λ:=
 A.valueY hg (fun h e L hl r q=>by
  obtain ⟨v1,e1,f1⟩:=r.ev (K.hgs.mono hl) _ hx
  obtain ⟨v2,e2,f2⟩:=r.ev (K.hgs.mono hl) _ hy
  rw [Rp_v] at f1 f2;rw [f1.1] at e1;rw [f2.1] at e2
  refine ⟨_,Rp_v.2 ⟨rfl,rfl⟩,fun ac w g s hk=>?_⟩
  have:=run_divrem (P:=K.P) (w:=w) (t:=t) (x:=x) (y:=y) (a:=a) hs hk12 hb
  unfold execOp;rw [ho]
  simp only [Sem.run_bind] at this
  simp only [g.ev hk e1,g.ev hk e2,Sem.run_bind,this,Result.andThen_ok,Sem.run_pure]) hput next
theorem A.loopP{c:Code}{ι:Type}(I:ι->AEnv×List AEnt)(Pr:ι->Prop)(μ:ι->Nat)
 (i:ι) (hp:Pr i) (he:I i=(E,Λ)) (round: ∀i,Pr i->(∀j,Pr j->μ j<μ i->A K (.inLoop c::k) (I j).1 (I j).2)->A K (.code c:: .inLoop c::k) (I i).1 (I i).2):A K (.code (.loop c)::k) E Λ:=
 A.loop (ι:={i // Pr i}) (fun i=>I i.1) (fun i=>μ i.1) (fun i ih=>round i.1 i.2 fun j hj hm=>ih ⟨j,hj⟩ hm) ⟨i,hp⟩ he
theorem A.eqNil{all:Array Oper}{o:Oper}{l:List Oper}{ks:List (Nat×Bool)}{op:BinOp}{t ty el:TypeId}{ti:TI}{x:Operand}{sz:Nat}{xs:List AV}{own:Option Value}{d:Nat}
 (hg:gyesA E all o.guard=some ks) (ho:o.op= .binOp op t x (.const (.slice none 0 0)) ty) (hop:op= .eql) (hx:E.ev K.gs ks x=some (.sl sz xs own)) (ht:K.S.get t=some ti) (hdd:ti.d= .slice el) (hd:o.dst=some d) (hc:okPutA K.n E d=true)
 (next: ∀b,(b=true->xs=[])->A K (.ops all l::k) ⟨(d, .v (.bool b))::E.us,E.cs⟩ Λ):A K (.ops all (o::l)::k) E Λ:=by
 refine ⟨fun h e L hl r q=>?_⟩
 obtain ⟨v1,e1,f1⟩:=r.ev (K.hgs.mono hl) _ hx
 rw [Rp_sl] at f1
 obtain ⟨a,cap,rfl,_,_,h4⟩:=f1
 subst hop
 refine V.valueY (C:=K.cfg) (v:= .bool a.isNone) (gyesA_eq r hg) (fun ac w g s hk=>?_) (by rw [hd];exact okPut_put (okPutA_eq r hc))
  ((next a.isNone fun hb=>?_).run h ⟨(d, .bool a.isNone)::e.us,e.cs⟩ L hl ⟨r.1.put (Rp_v.2 ⟨rfl,rfl⟩),r.2⟩ q)
 ·have ok:=TT.Ok.get K.ok ht
  have:=Lib.run_eql_slice_nil (P:=K.P) w t el a xs.length cap 0 0 (by rw [ok.und,hdd])
  unfold execOp;rw [ho]
  have e3:ac.eval (.const (.slice none 0 0))= .slice none 0 0:=rfl
  have hgd:(eqGuard .eql t x (.const (.slice none 0 0)) (.slice a xs.length cap) (.slice none 0 0)).run K.P w= .ok () w:=run_eqGuard rfl
  show Sem.run K.P _ w=_
  simp only [g.ev hk e1,e3,Sem.run_bind,hgd,this,Result.andThen_ok,Sem.run_pure]
 ·by_cases hn:xs=[]
  ·exact hn
  ·obtain ⟨b,off,rfl,_⟩:=h4 hn
   cases hb
theorem A.lit0{all:Array Oper}{o:Oper}{l:List Oper}{ks:List (Nat×Bool)}{t el:TypeId}{ti ei:TI}{d:Nat}
 (hg:gyesA E all o.guard=some ks) (ho:o.op= .buildSlice t 0 #[]) (ht:K.S.get t=some ti) (hdd:ti.d= .slice el) (he:K.S.get el=some ei) (hd:o.dst=some d) (hc:okPutA K.n E d=true)
 (next: ∀b,A K (.ops all l::k) ⟨(d, .sl ei.size [] (some (.slice (some ⟨b,0,none⟩) 0 0)))::E.us,E.cs⟩ Λ):A K (.ops all (o::l)::k) E Λ:=by
 refine ⟨fun h e L hl r q=>?_⟩
 refine V.gives (C:=K.cfg) (gyesA_eq r hg) hd (okPutA_eq r hc) fun ac w g s hk=>?_
 have ok:=TT.Ok.get K.ok ht
 have oke:=TT.Ok.get K.ok he
 obtain ⟨xi,zv,hxi,hxs,hxb,hxz,hzl⟩:=oke.info
 have hund:K.P.underlying t=some (.slice el):=by rw [ok.und,hdd]
 refine ⟨.slice (some ⟨w.heap.size,0,none⟩) 0 0,_,h,L++K.G,?_,(s.alloc #[] el rfl).tail,(next w.heap.size).run h _ L hl ⟨r.1.put (Rp_sl.2 ⟨_,0,rfl,Nat.le_refl _,rfl,fun hn=>(hn rfl).elim⟩),r.2⟩ q⟩
 unfold execOp;rw [ho]
 show Sem.run K.P _ w=_
 simp [Instr.buildSlice,Go.run_underlying hund,sizeOf,typeInfo,hxi,Instr.fill,newRow,Array.range_zero']
end
section
variable{K:AC}{all:Array Oper}{m:Nat}{k:List It}{pubs:Nat->List Nat}{Y:Ua}{π:List Nat}{E:AEnv}{Λ:List AEnt}{D:Da}
theorem kd_bin{o:Oper}{op:BinOp}{t ty:TypeId}{x y:Operand}(ho:o.op= .binOp op t x y ty):kd o= .qt:=by unfold kd;rw [ho]
end
end Go.Tp
namespace Go.Tp
open Go
variable{K:AC}{k:List It}{E:AEnv}{Λ:List AEnt}
def FunE{ι:Type}(P:Program)(gs:Ua)(f:FuncId)(args:List AV)(Λ:List AEnt)(X:ι->AV)(LL:ι->List AEnt)(Pr:ι->Prop):Prop:=Fun P gs f args Λ fun x Λ'=> ∃i,Sb x (X i)/\Λ'=LL i/\Pr i
theorem A.callE{ι:Type}{X:ι->AV}{LL:ι->List AEnt}{Pr:ι->Prop}{all:Array Oper}{o:Oper}{l:List Oper}{ks:List (Nat×Bool)}{x:Operand}{args:Array Operand}{ts:Array TypeId}{f:FuncId}{fst cap vs args':List AV}{Λ1 Λ2:List AEnt}{d:Nat}
 (hg:gyesA E all o.guard=some ks) (ho:o.op= .call ⟨.value x,args,ts⟩) (hx:E.ev K.gs ks x=some (.fn f fst cap)) (ha:evsA (E.ev K.gs ks) args.toList=some vs)
 (hd:o.dst=some d) (hc:okPutA K.n E d=true) (hf:FunE K.P K.gs f args' Λ1 X LL Pr) (hs:SbL (fst++(vs++cap)) args') (hp:Λ.Perm (Λ1++Λ2))
 (next: ∀i,Pr i->A K (.ops all l::k) ⟨(d,X i)::E.us,E.cs⟩ (LL i++Λ2)):A K (.ops all (o::l)::k) E Λ:=
 have hf':Fun K.P K.gs f args' Λ1 fun x Λ'=> ∃i,x=X i/\Λ'=LL i/\Pr i:=fun w0 h vs L F g r q=>
  (hf w0 h vs L F g r q).mono fun _ _ _ ⟨x,Λ',L1,⟨i,e1,e2,e3⟩,q2,q3⟩=>⟨X i,Λ',L1,⟨i,rfl,e2,e3⟩,e1.rp q2,q3⟩
 A.call hg ho hx ha hd hc hf' hs hp fun y Λ' ⟨i,e1,e2,e3⟩=>by subst e1;subst e2;exact next i e3
theorem A.entsEq{Λ':List AEnt}(h:Λ=Λ')(next:A K k E Λ'):A K k E Λ:=by subst h;exact next
theorem A.emptyRow(t:Nat)(sz:Nat)(hx:lookA E.us t=some (.v (.slice none 0 0)))(next: ∀z,A K k ⟨(t, .ms z sz 0)::E.us,E.cs⟩ (.row sz z []::Λ)):A K k E Λ:=by
 refine ⟨fun h e L hl r q=>?_⟩
 rcases r.1.look t with ⟨y,v,e1,e2,e3⟩|⟨e1,e2⟩
 ·rw [hx] at e1;injection e1 with e1;subst e1
  rw [Rp_v] at e3
  have e4:=e3.1
  subst e4
  have hr0: ∃p,RpRow h sz (.slice none 0 0) [] p/\[(⟨0,0,[],none⟩:Ent)]=[p]:=⟨⟨0,0,[],none⟩,⟨none,0,[],rfl,Nat.zero_le _,⟨(by rw [RpC_nil]),(fun z hz=>by cases hz),(fun z hz=>by cases hz)⟩,rfl, .inl ⟨rfl,rfl,rfl,fun y hy=>by cases hy⟩⟩,rfl⟩
  refine V.empty ?_
  refine V.val t e2 rfl ((next (.slice none 0 0)).run h ⟨(t, .slice none 0 0)::e.us,e.cs⟩ (⟨0,0,[],none⟩::L) hl ⟨r.1.put (Rp_ms.2 ⟨rfl,none,0,rfl⟩),r.2⟩ (.one hr0 q))
 ·rw [hx] at e1;cases e1
theorem A.rows0(sz:Nat)(next:A K k E (.rows sz []::Λ)):A K k E Λ:=A.ents (Λ':= .rows sz []::Λ) (fun h L q=>⟨L,⟨[],L,rfl,rfl,q⟩, .refl _⟩) next
theorem A.rowsIn{sz:Nat}{z:Value}{l:List AV}{hs:List (Value×List AV)}{Λ':List AEnt}(hp:Λ.Perm (.row sz z l:: .rows sz hs::Λ'))(next:A K k E (.rows sz (hs++[(z,l)])::Λ')):A K k E Λ:=by
 refine A.perm hp (A.ents (fun h L q=>?_) next)
 obtain ⟨L1,L2,rfl,⟨p,q1,rfl⟩,⟨L3,L4,rfl,q2,q3⟩⟩:=q
 refine ⟨(L3++[p])++L4,⟨_,_,rfl,RpRows.append q2 ⟨p,[],rfl,q1,rfl⟩,q3⟩,?_⟩
 rw [List.append_assoc]
 exact (List.perm_middle (l₁:=L3) (a:=p) (l₂:=L4)).symm
theorem A.rowsOut(i:Nat){sz:Nat}{z:Value}{l:List AV}{hs:List (Value×List AV)}{Λ':List AEnt}(hi:hs[i]? =some (z,l))(hp:Λ.Perm (.rows sz hs::Λ'))(next:A K k E (.row sz z l:: .rows sz (hs.take i):: .rows sz (hs.drop (i+1))::Λ')):A K k E Λ:=by
 refine A.perm hp (A.ents (fun h L q=>?_) next)
 obtain ⟨L1,L2,rfl,q1,q2⟩:=q
 have hh:hs=hs.take i++(z,l)::hs.drop (i+1):=by
  obtain ⟨hlt,rfl'⟩:=List.getElem?_eq_some_iff.1 hi
  rw [<-rfl',List.getElem_cons_drop,List.take_append_drop]
 have q1:RpRows h sz hs L1:=q1
 rw [hh] at q1
 obtain ⟨L3,L4,rfl,g1,⟨p,L5,rfl,g2,g3⟩⟩:=RpRows.split q1
 refine ⟨p::(L3++(L5++L2)),⟨[p],_,rfl,⟨p,g2,rfl⟩,⟨L3,_,rfl,g1,⟨L5,L2,rfl,g3,q2⟩⟩⟩,?_⟩
 rw [List.append_assoc]
 exact List.perm_middle
theorem A.rowsBack{sz:Nat}{z:Value}{l:List AV}{a b:List (Value×List AV)}{Λ':List AEnt}(hp:Λ.Perm (.row sz z l:: .rows sz a:: .rows sz b::Λ'))(next:A K k E (.rows sz (a++(z,l)::b)::Λ')):A K k E Λ:=by
 refine A.perm hp (A.ents (fun h L q=>?_) next)
 obtain ⟨L1,L2,rfl,⟨p,q1,rfl⟩,⟨L3,L4,rfl,q2,⟨L5,L6,rfl,q3,q4⟩⟩⟩:=q
 refine ⟨(L3++(p::L5))++L6,⟨_,_,rfl,RpRows.append q2 ⟨p,L5,rfl,q1,q3⟩,q4⟩,?_⟩
 rw [List.append_assoc]
 exact (List.perm_middle (l₁:=L3) (a:=p) (l₂:=L5++L6)).symm
abbrev msL(sz:Nat)(hs:List (Value×List AV)):List AV:=hs.map fun p=> .ms p.1 sz p.2.length
abbrev slL(sz:Nat)(hs:List (Value×List AV)):List AV:=hs.map fun p=> .sl sz p.2 none
theorem RpRow.frozen{h:GH}{sz:Nat}{z:Value}{l:List AV}{p:Ent}(q:RpRow h sz z l p)(hle:h.le (h.add p.b p.lo p.cs)):Rp (h.add p.b p.lo p.cs) (.sl sz l none) z:=by
 obtain ⟨a,cap,zs,rfl,g2,g3,g4,g5⟩:=q
 rw [Rp_sl]
 refine ⟨a,cap,rfl,g2,trivial,fun hn=>?_⟩
 rcases g5 with ⟨g5,_⟩|⟨b,o,sp,rfl,rfl,_⟩
 ·exact (hn g5).elim
 ·exact ⟨b,o,rfl,RpE_of (g3.rp.mono hle) g3.sz (atH.left fun i u hu=>GH.add_at h b o _ hu)⟩
theorem ms_sl{h:GH}{sz:Nat}: ∀{hs:List (Value×List AV)} {zs:List Value},RpC h (msL sz hs) zs->(∀p,p∈hs->Rp h (.sl sz p.2 none) p.1)->RpC h (slL sz hs) zs
 | [],zs,q,_=>q
 |(z,l)::r,zs,q,hr=>by
  rw [msL,List.map_cons,RpC_cons] at q
  obtain ⟨v,vs,rfl,q1,q2⟩:=q
  rw [Rp_ms] at q1
  rw [slL,List.map_cons,RpC_cons]
  refine ⟨v,vs,rfl,?_,ms_sl q2 fun p hp=>hr p (List.mem_cons_of_mem _ hp)⟩
  rw [q1.1];exact hr (z,l) (List.mem_cons_self ..)
end Go.Tp
namespace Go.Tp
open Go
theorem St.publishRows{w0 w:World}{sz:Nat}{L2:List Ent}: ∀{hs:List (Value×List AV)} {L1:List Ent} {h:GH},RpRows h sz hs L1->St w0 h (L1++L2) w->
 ∃h',h.le h'/\St w0 h' L2 w/\ ∀p,p∈hs->Rp h' (.sl sz p.2 none) p.1
 | [],L1,h,q,s=>by
   have q:L1=[]:=q
   subst q;exact ⟨h,GH.le_refl _,s,fun p hp=>by cases hp⟩
 |(z,l)::r,_,h,⟨⟨b,lo,cs,obj⟩,L',rfl,q1,q2⟩,s=>by
  obtain ⟨h',g1,g2,g3⟩:=St.publishRows (q2.mono s.le_add) s.publish
  refine ⟨h',GH.le_trans s.le_add g1,g2,fun p hp=>?_⟩
  rcases List.mem_cons.1 hp with rfl|hp
  ·exact (q1.frozen s.le_add).mono g1
  ·exact g3 p hp
theorem Fun.rows{P:Program}{gs:Ua}{f:FuncId}{args:List AV}{l:List AV}{sz szo:Nat}
 (hf:Fun P gs f args [] fun x Λ'=> ∃z hs n,Sb x (.ms z szo n)/\Λ'=[.rows sz hs, .row szo z (msL sz hs)]/\slL sz hs=l):Pure P gs f args (.sl szo l none):=by
 intro w0 h vs L F g r q
 have hd:=hf w0 h vs L F g r q
 refine ⟨hd.1,fun w s=>(hd.2 w s).mono fun _ w2 ⟨v,h',L',e1,⟨x,Λ',L1,⟨z,hs,n,q1,q2,q3⟩,e2,e3,e4,e5⟩,s'⟩=>?_⟩
 subst q2;subst q3;subst e5
 obtain ⟨M1,L2,rfl,m1,⟨M2,L3,rfl,⟨p,m2,rfl⟩,m3⟩⟩:=e4
 have m3:L3=[]:=m3
 subst m3
 have hz:=(Rp_ms.1 (q1.rp e2)).1
 subst hz
 rw [List.append_assoc] at s'
 obtain ⟨h1,g1,g2,g3⟩:=St.publishRows m1 s'
 obtain ⟨a,cap,zs,rfl,k2,k3,k4,k5⟩:=m2
 obtain ⟨pb,plo,pcs,pobj⟩:=p
 simp only at k4;subst k4
 have hll:(slL sz hs).length=(msL sz hs).length:=by rw [slL,msL,List.length_map,List.length_map]
 have q5:RpRow h1 szo (.slice a (msL sz hs).length cap) (slL sz hs) ⟨pb,plo,pcs,none⟩:=by
  refine ⟨a,cap,zs,by rw [hll],by rw [hll];exact k2,⟨ms_sl (k3.rp.mono g1) g3,k3.sz,k3.one⟩,rfl,?_⟩
  rcases k5 with ⟨k5,k6⟩|k5
  ·exact .inl ⟨List.length_eq_zero_iff.1 (by rw [hll,k5];rfl),k6⟩
  ·rw [hll];exact .inr k5
 have g2:St w0 h1 (⟨pb,plo,pcs,none⟩::F) w2:=by simpa using g2
 refine ⟨_,_,F,e1,⟨_,[],[],⟨rfl,rfl⟩,q5.frozen g2.le_add,GH.le_trans e3 (GH.le_trans g1 g2.le_add),rfl,rfl⟩,g2.publish⟩
end Go.Tp
namespace Go.Tp
open Go Go.RowKit
section
variable{C:Cfg}{k:List It}{e:Env}{h:GH}{L:List Ent}
theorem run_appendNewW{P:Program}{S:TT}(hS:S.Ok P){w0 w:World}{h:GH}{L:List Ent}{t el ty:TypeId}{ti ei:TI}{v2:Value}{c2:List Value}(a:Option Addr)(ha: ∀x,a=some x->x.spot=none)
 (ht:S.get t=some ti) (hd:ti.d= .slice el) (he:S.get el=some ei) (hsz:0<ei.size) (hz1:allOne ei.zero=true)
 (s:St w0 h L w) (a2:Sl h ei.size v2 c2) (hb:c2.length<=281474976710656) (hby:c2.length*ei.bytes<=140737488355328):
 ∃v' w' p,(Builtin.append_ #[t,t] ty #[.slice a 0 0,v2]).run P w= .ok v' w'/\St w0 h (p::L) w'/\p.obj=none/\
  ∃a' n cap,v'= .slice a' n cap/\n<=cap/\c2.length=n*ei.size/\((c2=[]/\p.cs=[]/\cap=0/\ ∀y,a'=some y->y.spot=none)\/ ∃b sp,a'=some ⟨b,0,none⟩/\p=⟨b,0,c2++sp,none⟩/\sp.length=(cap-n)*ei.size):=by
 have ok:=TT.Ok.get hS ht
 have oke:=TT.Ok.get hS he
 obtain ⟨xi,zv,hxi,hxs,hxb,hxz,hzl⟩:=oke.info
 have hund:P.underlying t=some (.slice el):=by rw [ok.und,hd]
 have one2:=Sl.one s hsz a2
 obtain ⟨b2,n2,cap2,e2,hle2,hn2,hat2⟩:=a2
 subst e2
 have hl2:n2<=c2.length:=by rw [hn2];exact Nat.le_mul_of_pos_right _ hsz
 have hz:Builtin.zeroCells zv.cells=fun n=>⟨(List.replicate n ei.zero).flatten⟩:=by
  funext n
  rw [show zv.cells=⟨ei.zero⟩ from by rw [<-hzl]]
  refine zeroCells_eq _ _ ?_
  intro e
  have:=oke.len
  rw [e] at this;simp at this;omega
 rcases Nat.eq_zero_or_pos n2 with h20|h2p
 ·subst h20
  have hc2:c2=[]:=List.length_eq_zero_iff.1 (by simpa using hn2)
  subst hc2
  refine ⟨.slice a 0 0,w,⟨0,0,[],none⟩,?_,hollow_st s _ rfl rfl,rfl,a,0,0,rfl,Nat.le_refl _,by simp, .inl ⟨rfl,rfl,rfl,ha⟩⟩
  have hf: ∀w':World,(Builtin.firstCells xi.size 0 (.slice b2 0 cap2)).run P w'= .ok #[] w':=fun w'=>by cases b2<;>simp [Builtin.firstCells,loadCells,loadCellsFrom]
  cases a with
  |none=>simp [Builtin.append_,Go.run_underlying hund,sizeOf,typeInfo,hxi,Builtin.lenOf,hf]
  |some a=>simp [Builtin.append_,Go.run_underlying hund,sizeOf,typeInfo,hxi,Builtin.lenOf,hf,storeCells]
 ·obtain ⟨b,o2,rfl,y2⟩:=hat2 h2p
  have hnews: ∀j u,c2[j]? =some u->w.cell? ((⟨b,o2,none⟩:Addr).add j)=some u:=fun j u hu=>by rw [add_norm];exact s.imm _ _ _ (y2 j u hu)
  have hfin: ∀(nc:Nat),n2<=nc-> ∀arr:Array Value,arr=⟨c2++(List.replicate (nc-n2) ei.zero).flatten⟩->
   St w0 h (⟨w.heap.size,0,c2++(List.replicate (nc-n2) ei.zero).flatten,none⟩::L) (w.drew.alloc (.cells arr el)):=fun nc _ arr harr=>by
   have honer: ∀v,v∈(List.replicate (nc-n2) ei.zero).flatten->oneC v=true:=fun v hv=>by
    obtain ⟨l,hl,hvl⟩:=List.mem_flatten.1 hv
    have:=(List.mem_replicate.1 hl).2
    subst this
    exact allOne_mem hz1 v hvl
   have:=s.drew.alloc arr el (by rw [harr];exact allOne_of (allOne_append one2 honer))
   rw [harr] at this⊢
   exact this
  cases a with
  |none=>
   have hr:=run_append_nil (P:=P) w t ty el xi zv hund hxi hxz ⟨b,o2,none⟩ n2 cap2 c2 (by rw [hxs];exact hn2) hnews h2p (by omega) (by
    rw [hxb]
    have:n2*ei.bytes<=c2.length*ei.bytes:=Nat.mul_le_mul_right _ hl2
    omega)
   exact ⟨_,_,_,hr,hfin (grownCap w n2 0 el) (grownCap_ge ..) _ (by rw [hz];apply Array.ext';simp),rfl,_,_,_,rfl,grownCap_ge ..,hn2, .inr ⟨_,_,rfl,rfl,by simp only [List.length_flatten,List.map_replicate,List.sum_replicate_nat,oke.len]⟩⟩
  |some x=>
   obtain ⟨bb,o,sp⟩:=x
   have:=ha _ rfl
   simp only at this;subst this
   have hr:=run_append_grow (P:=P) w t ty el xi zv hund hxi hxz ⟨bb,o,none⟩ 0 0 [] (by simp) (fun j u hu=>by simp at hu) ⟨b,o2,none⟩ n2 cap2 c2 (by rw [hxs];exact hn2) hnews (by omega) (by omega) (growslice_fits (by omega) (by
    rw [hxb]
    have:(0+n2)*ei.bytes<=c2.length*ei.bytes:=Nat.mul_le_mul_right _ (by omega)
    omega))
   rw [Nat.zero_add] at hr
   exact ⟨_,_,_,hr,hfin (grownCap w n2 0 el) (grownCap_ge ..) _ (by rw [hz];apply Array.ext';simp),rfl,_,_,_,rfl,grownCap_ge ..,hn2, .inr ⟨_,_,rfl,rfl,by simp only [List.length_flatten,List.map_replicate,List.sum_replicate_nat,oke.len]⟩⟩
theorem V.appendNewW{all:Array Oper}{o:Oper}{l:List Oper}{ks:List (Nat×Bool)}{y1 y2:Operand}{t el:TypeId}{ti ei:TI}{a:Option Addr}{v2:Value}{c2:List Value}{d:Nat}(ha: ∀x,a=some x->x.spot=none)
 (hg:gyes e all o.guard=some ks) (ho:o.op= .call ⟨.builtin .append, #[y1,y2], #[t,t]⟩) (h1:e.ev ks y1=some (.slice a 0 0)) (h2:e.ev ks y2=some v2)
 (ht:C.S.get t=some ti) (hd:ti.d= .slice el) (he:C.S.get el=some ei) (hsz:0<ei.size) (hz1:allOne ei.zero=true) (hdst:o.dst=some d) (hc:okPut C.n e d=true)
 (a2:Sl h ei.size v2 c2) (hb:c2.length<=281474976710656) (hby:c2.length*ei.bytes<=140737488355328)
 (next: ∀p a' n cap,p.obj=none->n<=cap->c2.length=n*ei.size->((c2=[]/\p.cs=[]/\cap=0/\ ∀y,a'=some y->y.spot=none)\/ ∃b sp,a'=some ⟨b,0,none⟩/\p=⟨b,0,c2++sp,none⟩/\sp.length=(cap-n)*ei.size)->
   V C (.ops all l::k) ⟨(d, .slice a' n cap)::e.us,e.cs⟩ h (p::L)):V C (.ops all (o::l)::k) e h L:=
 V.gives hg hdst hc fun ac w g s hk=>by
  obtain ⟨v',w',p,r1,r2,r3,a',n,cap,rfl,r4,r5,r6⟩:=run_appendNewW (ty:=o.type) C.ok a ha ht hd he hsz hz1 s a2 hb hby
  refine ⟨_,w',h,_,?_,r2,next p a' n cap r3 r4 r5 r6⟩
  unfold execOp
  rw [ho]
  simp [resolve,invoke,builtin,g.ev hk h1,g.ev hk h2,r1]
end
section
variable{K:AC}{k:List It}{E:AEnv}{Λ:List AEnt}
theorem A.appendNewW{all:Array Oper}{o:Oper}{l:List Oper}{ks:List (Nat×Bool)}{y1 y2:Operand}{t el:TypeId}{ti ei:TI}{x1 x2:AV}{l1 l2:List AV}{a:Option Addr}{own2:Option Value}{d:Nat}
 (hg:gyesA E all o.guard=some ks) (ho:o.op= .call ⟨.builtin .append, #[y1,y2], #[t,t]⟩) (h1:E.ev K.gs ks y1=some x1) (h2:E.ev K.gs ks y2=some x2)
 (ht:K.S.get t=some ti) (hdd:ti.d= .slice el) (he:K.S.get el=some ei) (s1:slOf ei.size x1=some (l1,some (.slice a 0 0))) (s2:slOf ei.size x2=some (l2,own2))
 (hsz:Nat.blt 0 ei.size=true) (hz1:allOne ei.zero=true) (hd:o.dst=some d) (hc:okPutA K.n E d=true)
 (hb:l2.length*ei.size<=281474976710656) (hby:l2.length*ei.size*ei.bytes<=140737488355328) (ha: ∀x,a=some x->x.spot=none) (hone: ∀(h:GH) zs,RpC h l2 zs-> ∀z,z∈zs->allOne (cellsL z)=true)
 (next: ∀z,A K (.ops all l::k) ⟨(d, .ms z ei.size l2.length)::E.us,E.cs⟩ (.row ei.size z l2::Λ)):A K (.ops all (o::l)::k) E Λ:=by
 refine ⟨fun h e L hl r q=>?_⟩
 obtain ⟨v1,e1,f1⟩:=r.ev (K.hgs.mono hl) _ h1
 obtain ⟨v2,e2,f2⟩:=r.ev (K.hgs.mono hl) _ h2
 have f1:=slOf_rp s1 f1
 have f2:=slOf_rp s2 f2
 have hown:v1= .slice a 0 0:=by rw [Rp_sl] at f1;obtain ⟨_,_,_,_,h3,_⟩:=f1;exact h3
 subst hown
 obtain ⟨zs2,b1,b2,b3⟩:=sl_Sl f2
 have hsz':0<ei.size:=by simpa [Nat.blt_eq] using hsz
 have hlen:(catL zs2).length=l2.length*ei.size:=by rw [cat_len b2,b1.len]
 refine V.appendNewW (C:=K.cfg) ha (gyesA_eq r hg) ho e1 e2 ht hdd he hsz' hz1 hd (okPutA_eq r hc) b3 (by rw [hlen];exact hb) (by rw [hlen];exact hby) ?_
 intro p a' n cap p1 p2 p3 p4
 have hn:n=l2.length:=Nat.eq_of_mul_eq_mul_right hsz' (by rw [<-p3,hlen])
 subst hn
 refine (next (.slice a' l2.length cap)).run h _ (p::L) hl ⟨r.1.put (Rp_ms.2 ⟨rfl,_,_,rfl⟩),r.2⟩ (.one ⟨p,⟨a',cap,zs2,rfl,p2,⟨b1,b2,hone h zs2 b1⟩,p1,?_⟩,rfl⟩ q)
 rcases p4 with ⟨p5,p6⟩|⟨b,sp,p5,p6,p7⟩
 ·left
  refine ⟨?_,p6⟩
  rw [p5] at hlen
  have:l2.length=0:=by
   rcases Nat.eq_zero_or_pos l2.length with h|h
   ·exact h
   ·have:=Nat.mul_pos h hsz';simp at hlen;omega
  exact List.length_eq_zero_iff.1 this
 ·exact .inr ⟨b,0,sp,p5,p6,p7⟩
end
end Go.Tp
namespace Go.Tp
open Go
def Ent.has(p:Ent)(b o:Nat):Prop:=p.b=b/\p.lo<=o/\o<p.lo+p.cs.length
open Classical in
noncomputable def GH.less (h:GH) (L:List Ent):GH:=fun b o=>if∃p,p∈L/\p.has b o then none else h b o
def allAt(h:GH)(L:List Ent):Prop:= ∀p,p∈L->atH h p.b p.lo p.cs
section
variable{w0 w w':World}{h h' h'':GH}
theorem St.publishL: ∀{L1 L2:List Ent} {h:GH},St w0 h (L1++L2) w-> ∃h',h.le h'/\St w0 h' L2 w/\allAt h' L1
 | [],L2,h,s=>⟨h,GH.le_refl _,s,fun p hp=>by cases hp⟩
 |⟨b,lo,cs,ob⟩::L1,L2,h,s=>by
  obtain ⟨h',g1,g2,g3⟩:=St.publishL (L1:=L1) (L2:=L2) (St.publish (b:=b) (lo:=lo) (cs:=cs) (ob:=ob) s)
  refine ⟨h',GH.le_trans s.le_add g1,g2,fun p hp=>?_⟩
  rcases List.mem_cons.1 hp with rfl|hp
  ·intro i v hv;exact g1 _ _ _ (GH.add_at h b lo _ hv)
  ·exact g3 p hp
theorem has_at{p:Ent}{b o:Nat}(hp:p.has b o): ∃i,i<p.cs.length/\o=p.lo+i/\b=p.b:=⟨o-p.lo,by have:=hp.2.1;have:=hp.2.2;omega,by have:=hp.2.1;omega,hp.1.symm⟩
theorem St.le_less{L1 L2:List Ent}(s:St w0 h (L1++L2) w)(hl:h.le h''):h.le (h''.less L1):=by
 intro b o v hv
 unfold GH.less
 split
 ·rename_i hx
  obtain ⟨p,hp,hh⟩:=hx
  obtain ⟨i,hi,rfl,rfl⟩:=has_at hh
  rw [(s.own p (List.mem_append_left _ hp)).fresh i hi] at hv;cases hv
 ·exact hl _ _ _ hv
theorem St.unlend{L1 L2 L':List Ent}(s:St w0 h (L1++L2) w)(s':St w0 h'' L' w')(ha:allAt h'' L1)(ho: ∀p,p∈L1->p.obj=none):St w0 (h''.less L1) (L1++L') w':=by
 have hless: ∀b o v,h''.less L1 b o=some v->h'' b o=some v:=by
  intro b o v hv
  unfold GH.less at hv
  split at hv
  ·cases hv
  ·exact hv
 refine ⟨s'.below,fun b o v hv=>s'.imm _ _ _ (hless _ _ _ hv),fun b o v hv=>s'.imm1 _ _ _ (hless _ _ _ hv),fun p hp=>?_,?_,fun b o v hv=>s'.frz _ _ _ (hless _ _ _ hv),s'.drn⟩
 ·rcases List.mem_append.1 hp with hp|hp
  ·have k:=s.own p (List.mem_append_left _ hp)
   refine ⟨k.one,fun i v hv=>s'.imm _ _ _ (ha p hp i v hv),k.new,fun i hi=>?_,fun i hi=>?_,fun o hh=>?_⟩
   ·obtain ⟨v,hv⟩:=getElem?_some_of_lt hi
    rw [s'.frz _ _ _ (ha p hp i v hv)]
    unfold World.frozen?
    rw [Array.getElem?_eq_none (k.new i hi)]
   ·unfold GH.less;rw [if_pos ⟨p,hp,rfl,by omega,by omega⟩]
   ·rw [ho p hp] at hh;cases hh
  ·have k:=s'.own p hp
   refine ⟨k.one,k.cell,k.new,k.warm,fun i hi=>?_,k.obj⟩
   unfold GH.less
   split
   ·rfl
   ·exact k.fresh i hi
 ·have d:=List.pairwise_append.1 s.dis
  refine List.pairwise_append.2 ⟨d.1,s'.dis,fun p hp q hq=>⟨fun i j hi hj hb hlo=>?_,fun hx=>?_⟩⟩
  ·obtain ⟨v,hv⟩:=getElem?_some_of_lt hi
   have h1:=ha p hp i v hv
   rw [hb,hlo,(s'.own q hq).fresh j hj] at h1;cases h1
  ·rw [ho p hp] at hx;cases hx
end
theorem WE.skipU{G:Rg}{π:List Nat}{e:Env}{h:GH}{E:Slots}{i:Nat}{o:Oper}{t:Nat}{b:Bool}{ks:List (Nat×Bool)}{e':Env}(hi:nthL G.all.toList i=some o)(hg:gmode e G.all o.guard=some (some (t,b),ks))(hl:look e.us t=some undef)
 (hp:e.put G.C.n none o.dst undef=some e') (next:WE G π e' h E):WE G (i::π) e h E:=by
 intro a g
 refine ⟨o,by rw [nthL_eq,Array.getElem?_toList] at hi;exact hi,?_⟩
 unfold Rg.Node
 have:onNow G.all o a=false:=by
  cases hon:onNow G.all o a with
  |false=>rfl
  |true=>
   rcases gmode_spec g hg with ⟨h1,_⟩|⟨t',b',h1,hiff,_⟩
   ·cases h1
   ·injection h1 with h1;injection h1 with h1 h2;subst h1;subst h2
    have:=hiff.1 hon
    rw [g.us _ _ hl] at this
    injection this with this
    exact absurd this.symm (bool_ne_undef _)
 rw [this]
 exact next _ (g.put hp)
theorem WA.skipU{K:AC}{all:Array Oper}{m:Nat}{k:List It}{pubs:Nat->List Nat}{Y:Ua}{π:List Nat}{E:AEnv}{Λ:List AEnt}{D:Da}{i:Nat}{o:Oper}{t:Nat}{b:Bool}{ks:List (Nat×Bool)}{E':AEnv}(hi:nthL all.toList i=some o)
 (hg:gmodeA E all o.guard=some (some (t,b),ks)) (hx:lookA E.us t=some (.tp [])) (hp:E.put K.n none o.dst (.tp [])=some E') (next:WA K all m k pubs Y π E' Λ D):WA K all m k pubs Y (i::π) E Λ D:=by
 refine ⟨fun h e L Es hl r q d=>?_⟩
 rw [gmodeA_eq r] at hg
 obtain ⟨e',e3,e4⟩:=putA_eq r hp (y:=undef) (Rp_tp.2 ⟨[],rfl,RpC_nil.2 rfl⟩)
 rcases r.1.look t with ⟨y,v,e1,e2,e5⟩|⟨e1,e2⟩
 ·rw [hx] at e1;injection e1 with e1;subst e1
  rw [Rp_tp] at e5
  obtain ⟨cs,rfl,e5⟩:=e5
  rw [RpC_nil] at e5;subst e5
  exact WE.skipU (G:=drawRg K.cfg all (L++K.G) pubs (YA Y) m k) hi hg e2 e3 (next.run h e' L Es hl e4 q d)
 ·rw [hx] at e1;cases e1
mutual
def plainA:AV->Bool
 | .v _=>true
 | .tp l=>plainL l
 | .ag l=>plainL l
 |_=>false
def plainL:List AV->Bool
 | []=>true
 |x::r=>plainA x&&plainL r
end
mutual
theorem plainA_rp{h h':GH}: ∀{x:AV} {v:Value},plainA x=true->Rp h x v->Rp h' x v
 | .v _,_,_,r=>by rw [Rp_v] at r⊢;exact r
 | .tp l,_,hp,r=>by
   rw [plainA] at hp
   rw [Rp_tp] at r⊢
   obtain ⟨cs,h1,h2⟩:=r
   exact ⟨cs,h1,plainL_rp hp h2⟩
 | .ag l,_,hp,r=>by
   rw [plainA] at hp
   rw [Rp_ag] at r⊢
   obtain ⟨cs,h1,h2⟩:=r
   exact ⟨cs,h1,plainL_rp hp h2⟩
 | .sl _ _ _,_,hp,_=>by simp [plainA] at hp
 | .pe _ _,_,hp,_=>by simp [plainA] at hp
 | .fn _ _ _,_,hp,_=>by simp [plainA] at hp
 | .ms _ _ _,_,hp,_=>by simp [plainA] at hp
 | .ep _ _ _,_,hp,_=>by simp [plainA] at hp
 | .eb _ _,_,hp,_=>by simp [plainA] at hp
 | .un,_,hp,_=>by simp [plainA] at hp
theorem plainL_rp{h h':GH}: ∀{x:List AV} {v:List Value},plainL x=true->RpC h x v->RpC h' x v
 | [],_,_,r=>by rw [RpC_nil] at r⊢;exact r
 |x::l,_,hp,r=>by
  rw [plainL,Bool.and_eq_true] at hp
  rw [RpC_cons] at r⊢
  obtain ⟨v,vs,h1,h2,h3⟩:=r
  exact ⟨v,vs,h1,plainA_rp hp.1 h2,plainL_rp hp.2 h3⟩
end
def Lt(Λ:List AEnt)(x y:AV):Prop:= ∀h L h' v,RpL h Λ L->h.le h'->allAt h' L->Rp h x v->Rp h' y v
def LtL(Λ:List AEnt)(x y:List AV):Prop:= ∀h L h' v,RpL h Λ L->h.le h'->allAt h' L->RpC h x v->RpC h' y v
theorem Lt.sub{Λ:List AEnt}{x y:AV}(s:Sb x y):Lt Λ x y:=fun h L h' v _ hl _ r=>(s.rp r).mono hl
theorem LtL.nil{Λ:List AEnt}:LtL Λ [] []:=fun h L h' v _ hl _ r=>r.mono hl
theorem LtL.cons{Λ:List AEnt}{x y:AV}{l r:List AV}(a:Lt Λ x y)(b:LtL Λ l r):LtL Λ (x::l) (y::r):=fun h L h' v q hl ha p=>by
 rw [RpC_cons] at p⊢
 obtain ⟨u,us,h1,h2,h3⟩:=p
 exact ⟨u,us,h1,a h L h' u q hl ha h2,b h L h' us q hl ha h3⟩
theorem allAt.mem{h:GH}: ∀{Λ:List AEnt} {L:List Ent} {h0:GH},RpL h0 Λ L->allAt h L-> ∀{x:AEnt},x∈Λ-> ∃L1,RpEnt h0 x L1/\allAt h L1:=fun {Λ L h0} r a {x} hx=>by
 obtain ⟨L1,h1,h2⟩:=r.mem hx
 exact ⟨L1,h2,fun p hp=>a p (h1 p hp)⟩
theorem Tl.noobj{sz:Nat}{z:Value}{p:Ent}(q:Tl sz z p):p.obj=none:=q.1
theorem RpRows.noobj{h:GH}{sz:Nat}: ∀{hs:List (Value×List AV)} {L:List Ent},RpRows h sz hs L-> ∀p,p∈L->p.obj=none
 | [],_,r,p,hp=>by have r:_=[]:=r;subst r;cases hp
 |(z,l)::r,_,⟨q,L',rfl,h2,h3⟩,p,hp=>by
  rcases List.mem_cons.1 hp with rfl|hp
  ·exact h2.choose_spec.choose_spec.choose_spec.2.2.2.1
  ·exact RpRows.noobj h3 p hp
def noLoop:List AEnt->Bool
 | []=>true
 | .loop _ _ _ _::_=>false
 | .mp _ _ _::_=>false
 |_::l=>noLoop l
theorem RpEnt.noobj{h:GH}: ∀{x:AEnt} {L:List Ent},noLoop [x]=true->RpEnt h x L-> ∀p,p∈L->p.obj=none
 | .loop _ _ _ _,_,hn,_,_,_=>by cases hn
 | .mp _ _ _,_,hn,_,_,_=>by cases hn
 | .box b x,_,_,⟨z,h1,rfl⟩,p,hp=>by rcases List.mem_cons.1 hp with rfl|hp;rfl;cases hp
 | .row sz z l,_,_,⟨q,h1,rfl⟩,p,hp=>by
   rcases List.mem_cons.1 hp with rfl|hp
   ·exact h1.choose_spec.choose_spec.choose_spec.2.2.2.1
   ·cases hp
 | .rows sz hs,_,_,r,p,hp=>RpRows.noobj r p hp
 | .tail sz z,_,_,⟨q,h1,rfl⟩,p,hp=>by
   rcases List.mem_cons.1 hp with rfl|hp
   ·exact h1.noobj
   ·cases hp
theorem noLoop_cons{x:AEnt}{l:List AEnt}(h:noLoop (x::l)=true):noLoop [x]=true/\noLoop l=true:=by
 cases x<;>first|exact ⟨rfl,h⟩|cases h
theorem RpL.noobj{h:GH}: ∀{Λ:List AEnt} {L:List Ent},noLoop Λ=true->RpL h Λ L-> ∀p,p∈L->p.obj=none
 | [],_,_,r,p,hp=>by have r:_=[]:=r;subst r;cases hp
 |x::Λ,_,hn,⟨L1,L2,rfl,h2,h3⟩,p,hp=>by
  rcases List.mem_append.1 hp with hp|hp
  ·exact h2.noobj (noLoop_cons hn).1 p hp
  ·exact RpL.noobj (noLoop_cons hn).2 h3 p hp
theorem Fun.lend{P:Program}{gs:Ua}{f:FuncId}{args args':List AV}{Λ:List AEnt}{Q:AV->Prop}{g:Func}{c:Code}(h1:P.funcs[f]? =some g)(h2:g.body=some c)(h3:(g.name== "runtime.NumGoroutine")=false)
 (hf:Fun P gs f args [] fun y Λ'=>Q y/\Λ'=[]) (hQ: ∀y,Q y->plainA y=true) (ha:LtL Λ args' args) (hnl:noLoop Λ=true:=by rfl):Fun P gs f args' Λ fun y Λ'=>Q y/\Λ'=Λ:=by
 intro w0 h vs L F hgs r q
 refine ⟨⟨g,c,h1,h2,h3⟩,fun w s=>?_⟩
 obtain ⟨h',g1,g2,g3⟩:=St.publishL s
 refine ((hf w0 h' vs [] F (hgs.mono g1) (ha h L h' vs q g1 g3 r) rfl).2 w g2).mono fun x w' ⟨v,h'',L',e1,⟨y,Λ',L1,⟨k1,k2⟩,k3,k4,k5,k6⟩,s'⟩=>?_
 subst k2
 have k5:L1=[]:=k5
 subst k5
 have k6:L'=F:=k6
 subst k6
 have hle:=s.le_less (GH.le_trans g1 k4)
 exact ⟨v,h''.less L,L++L',e1,⟨y,Λ,L,⟨k1,rfl⟩,plainA_rp (hQ y k1) k3,hle,q.mono hle,rfl⟩,s.unlend s' (fun p hp=>atH.mono k4 (g3 p hp)) (q.noobj hnl)⟩
theorem Pure.lend{P:Program}{gs:Ua}{f:FuncId}{args args':List AV}{Λ:List AEnt}{x:AV}{g:Func}{c:Code}(h1:P.funcs[f]? =some g)(h2:g.body=some c)(h3:(g.name== "runtime.NumGoroutine")=false)
 (hf:Pure P gs f args x) (hx:plainA x=true) (ha:LtL Λ args' args) (hnl:noLoop Λ=true:=by rfl):Fun P gs f args' Λ fun y Λ'=>y=x/\Λ'=Λ:=
 Fun.lend h1 h2 h3 hf (fun y hy=>by rw [hy];exact hx) ha hnl
end Go.Tp
namespace Go.Tp
open Go Go.RowKit
def Ow(sz:Nat)(a:Option Addr)(n cap:Nat)(cs:List Value)(x:Ent):Prop:=
 x.obj=none/\n<=cap/\cs.length=n*sz/\((x.cs=[]/\cap=0/\ ∀y,a=some y->y.spot=none)\/ ∃b o sp,a=some ⟨b,o,none⟩/\x=⟨b,o,cs++sp,none⟩/\sp.length=(cap-n)*sz)
theorem updL_at(vs r:List Value): ∀(l sp:List Value),updL sp 0 vs=some r->updL (l++sp) l.length vs=some (l++r)
 | [],sp,h=>h
 |x::l,sp,h=>by
  have:=updL_at vs r l sp h
  cases vs with
  |nil=>simp only [List.cons_append,List.length_cons,updL,this]
  |cons v vs=>simp only [List.cons_append,List.length_cons,updL,this]
theorem run_appendOwn{P:Program}{S:TT}(hS:S.Ok P){w0 w:World}{h:GH}{L:List Ent}{x:Ent}{t el ty:TypeId}{ti ei:TI}{a:Option Addr}{n1 cap:Nat}{v2:Value}{c1 c2:List Value}
 (ht:S.get t=some ti) (hd:ti.d= .slice el) (he:S.get el=some ei) (hsz:0<ei.size) (hz1:allOne ei.zero=true) (one1: ∀v,v∈c1->oneC v=true)
 (s:St w0 h (x::L) w) (ow:Ow ei.size a n1 cap c1 x) (a2:Sl h ei.size v2 c2) (hb:c1.length+c2.length<=281474976710656) (hby:(c1.length+c2.length)*ei.bytes<=140737488355328):
 ∃w' x' a' n' cap',(Builtin.append_ #[t,t] ty #[.slice a n1 cap,v2]).run P w= .ok (.slice a' n' cap') w'/\St w0 h (x'::L) w'/\Ow ei.size a' n' cap' (c1++c2) x':=by
 have ok:=TT.Ok.get hS ht
 have oke:=TT.Ok.get hS he
 obtain ⟨xi,zv,hxi,hxs,hxb,hxz,hzl⟩:=oke.info
 have hund:P.underlying t=some (.slice el):=by rw [ok.und,hd]
 have one2:=Sl.one s hsz a2
 obtain ⟨b2,n2,cap2,e2,hle2,hn2,hat2⟩:=a2
 have ow0:=ow
 obtain ⟨hobj,hle,hn1,how⟩:=ow
 subst e2
 have hl1:n1<=c1.length:=by rw [hn1];exact Nat.le_mul_of_pos_right _ hsz
 have hl2:n2<=c2.length:=by rw [hn2];exact Nat.le_mul_of_pos_right _ hsz
 have hz:Builtin.zeroCells zv.cells=fun n=>⟨(List.replicate n ei.zero).flatten⟩:=by
  funext n
  rw [show zv.cells=⟨ei.zero⟩ from by rw [<-hzl]]
  refine zeroCells_eq _ _ ?_
  intro e
  have:=oke.len
  rw [e] at this;simp at this;omega
 have hlen:(c1++c2).length=(n1+n2)*ei.size:=by rw [List.length_append,hn1,hn2,Nat.add_mul]
 rcases Nat.eq_zero_or_pos n2 with h20|h2p
 ·subst h20
  have hc2:c2=[]:=List.length_eq_zero_iff.1 (by simpa using hn2)
  subst hc2
  refine ⟨w,x,a,n1,cap,?_,s,by simpa using ow0⟩
  have hf: ∀w':World,(Builtin.firstCells xi.size 0 (.slice b2 0 cap2)).run P w'= .ok #[] w':=fun w'=>by cases b2<;>simp [Builtin.firstCells,loadCells,loadCellsFrom]
  cases a with
  |none=>simp [Builtin.append_,Go.run_underlying hund,sizeOf,typeInfo,hxi,Builtin.lenOf,hle,hf]
  |some a=>simp [Builtin.append_,Go.run_underlying hund,sizeOf,typeInfo,hxi,Builtin.lenOf,hle,hf,storeCells]
 ·obtain ⟨b,o2,rfl,y2⟩:=hat2 h2p
  have hnews: ∀j u,c2[j]? =some u->w.cell? ((⟨b,o2,none⟩:Addr).add j)=some u:=fun j u hu=>by rw [add_norm];exact s.imm _ _ _ (y2 j u hu)
  have h63:((n1+n2:Nat):Int)<=9223372036854775807:=by omega
  have hbb:(n1+n2)*ei.bytes<=140737488355328:=Nat.le_trans (Nat.mul_le_mul_right _ (by omega)) hby
  have hfits: ∀old,old<n1+n2->Builtin.nextslicecap (n1+n2) old*xi.bytes<=281474976710656:=fun old ho=>growslice_fits ho (by rw [hxb];omega)
  have hfin: ∀(cs:List Value) (need nc:Nat),(∀v,v∈cs->oneC v=true)->cs.length=need*ei.size->need<=nc-> ∀arr:Array Value,arr=⟨cs++(List.replicate (nc-need) ei.zero).flatten⟩->
   ∃x',St w0 h (x'::L) (w.drew.alloc (.cells arr el))/\Ow ei.size (some ⟨w.heap.size,0,none⟩) need nc cs x':=fun cs need nc h1 h2 h3 arr harr=>by
   have honer: ∀v,v∈(List.replicate (nc-need) ei.zero).flatten->oneC v=true:=fun v hv=>by
    obtain ⟨l,hl,hvl⟩:=List.mem_flatten.1 hv
    have:=(List.mem_replicate.1 hl).2
    subst this
    exact allOne_mem hz1 v hvl
   have:=s.tail.drew.alloc arr el (by rw [harr];exact allOne_of (allOne_append h1 honer))
   rw [harr] at this⊢
   exact ⟨_,this,rfl,h3,h2, .inr ⟨_,0,_,rfl,rfl,by simp only [List.length_flatten,List.map_replicate,List.sum_replicate_nat,oke.len]⟩⟩
  rcases how with ⟨g1,g2,g3⟩|⟨bb,o,sp,rfl,rfl,g3⟩
  ·subst g2
   have h0:n1=0:=by omega
   subst h0
   have hc1:c1=[]:=List.length_eq_zero_iff.1 (by simpa using hn1)
   subst hc1
   cases a with
   |none=>
    have hr:=run_append_nil (P:=P) w t ty el xi zv hund hxi hxz ⟨b,o2,none⟩ n2 cap2 c2 (by rw [hxs];exact hn2) hnews h2p (by omega) (by rw [hxb];have:=hbb;simp at this;omega)
    obtain ⟨x',k1,k2⟩:=hfin c2 n2 (grownCap w n2 0 el) one2 hn2 (grownCap_ge ..) (c2.toArray++Builtin.zeroCells zv.cells (grownCap w n2 0 el-n2)) (by rw [hz];apply Array.ext';simp)
    exact ⟨_,x',_,_,_,hr,k1,by simpa using k2⟩
   |some y=>
    obtain ⟨bb,o,sp⟩:=y
    have:=g3 _ rfl
    simp only at this;subst this
    have hr:=run_append_grow (P:=P) w t ty el xi zv hund hxi hxz ⟨bb,o,none⟩ 0 0 [] (by simp) (fun j u hu=>by simp at hu) ⟨b,o2,none⟩ n2 cap2 c2 (by rw [hxs];exact hn2) hnews (by omega) (by omega) (hfits 0 (by omega))
    rw [Nat.zero_add] at hr
    obtain ⟨x',k1,k2⟩:=hfin c2 n2 (grownCap w n2 0 el) one2 hn2 (grownCap_ge ..) (([]:List Value).toArray++c2.toArray++Builtin.zeroCells zv.cells (grownCap w n2 0 el-n2)) (by rw [hz];apply Array.ext';simp)
    exact ⟨_,x',_,_,_,hr,k1,by simpa using k2⟩
  ·by_cases hcap:n1+n2<=cap
   ·obtain ⟨r,hr⟩:=updL_ex sp c2 (by rw [g3,hn2];exact Nat.mul_le_mul_right _ (by omega))
    obtain ⟨u1,u2,u3⟩:=updL_spec _ _ _ hr
    have hre:r=c2++sp.drop c2.length:=by
     apply List.ext_getElem?
     intro i
     rw [u3 i]
     by_cases hi:i<c2.length
     ·rw [if_pos (by omega),List.getElem?_append_left hi];rfl
     ·rw [if_neg (by omega),List.getElem?_append_right (by omega),List.getElem?_drop];congr 1;omega
    subst hre
    have hup:=updL_at c2 _ c1 sp hr
    obtain ⟨w',hw',s'⟩:=run_storeCells (P:=P) c2 bb (o+n1*ei.size) 0 w (L1:=[]) (lo:=o) (k:=c1.length) s (by rw [hn1];rfl) (by rw [List.length_append];omega) one2 hup
    have hf:=run_firstCells_some (P:=P) w ei.size n2 ⟨b,o2,none⟩ n2 cap2 c2 hn2 hnews
    refine ⟨w',_,some ⟨bb,o,none⟩,n1+n2,cap,?_,s',rfl,hcap,hlen, .inr ⟨bb,o,sp.drop c2.length,rfl,by rw [List.append_assoc],?_⟩⟩
    ·simp [Builtin.append_,Go.run_underlying hund,sizeOf,typeInfo,hxi,Builtin.lenOf,hcap,hxs,hf,add_norm,hw']
    ·rw [List.length_drop,g3,hn2,<-Nat.sub_mul];congr 1;omega
   ·have hlt:cap<n1+n2:=by omega
    have k0:=s.own _ (List.mem_cons_self ..)
    have holds: ∀j u,c1[j]? =some u->w.cell? ((⟨bb,o,none⟩:Addr).add j)=some u:=fun j u hu=>by
     rw [add_norm]
     refine k0.cell j u ?_
     have hj:j<c1.length:=(List.getElem?_eq_some_iff.1 hu).1
     simp only
     rw [List.getElem?_append_left hj];exact hu
    have hr:=run_append_grow (P:=P) w t ty el xi zv hund hxi hxz ⟨bb,o,none⟩ n1 cap c1 (by rw [hxs];exact hn1) holds ⟨b,o2,none⟩ n2 cap2 c2 (by rw [hxs];exact hn2) hnews hlt h63 (hfits cap hlt)
    obtain ⟨x',k1,k2⟩:=hfin (c1++c2) (n1+n2) (grownCap w (n1+n2) cap el) (allOne_append one1 one2) hlen (grownCap_ge ..) (c1.toArray++c2.toArray++Builtin.zeroCells zv.cells (grownCap w (n1+n2) cap el-(n1+n2))) (by rw [hz];apply Array.ext';simp)
    exact ⟨_,x',_,_,_,hr,k1,k2⟩
section
variable{K:AC}{k:List It}{E:AEnv}{Λ:List AEnt}
theorem A.appendRow{all:Array Oper}{o:Oper}{l:List Oper}{ks:List (Nat×Bool)}{y1 y2:Operand}{t el:TypeId}{ti ei:TI}{x2:AV}{z:Value}{sz' n:Nat}{l1 l2:List AV}{own2:Option Value}{d sz:Nat}{Λ':List AEnt}
 (hg:gyesA E all o.guard=some ks) (ho:o.op= .call ⟨.builtin .append, #[y1,y2], #[t,t]⟩) (h1:E.ev K.gs ks y1=some (.ms z sz' n)) (h2:E.ev K.gs ks y2=some x2)
 (ht:K.S.get t=some ti) (hdd:ti.d= .slice el) (he:K.S.get el=some ei) (s2:slOf ei.size x2=some (l2,own2)) [i:ARow Λ z sz l1] [j:AOut Λ (.row sz z l1) Λ'] (hse:Nat.beq ei.size sz=true)
 (hsz:Nat.blt 0 ei.size=true) (hz1:allOne ei.zero=true) (hd:o.dst=some d) (hc:okPutA K.n E d=true)
 (hb:(l1.length+l2.length)*ei.size<=281474976710656) (hby:(l1.length+l2.length)*ei.size*ei.bytes<=140737488355328) (hone: ∀(h:GH) zs,RpC h l2 zs-> ∀z,z∈zs->allOne (cellsL z)=true)
 (next: ∀z',A K (.ops all l::k) ⟨(d, .ms z' sz (l1.length+l2.length))::E.us,E.cs⟩ (.row sz z' (l1++l2)::Λ')):A K (.ops all (o::l)::k) E Λ:=by
 have hse:=Nat.eq_of_beq_eq_true hse
 subst hse
 refine A.perm j.perm ⟨fun h e L hl r q=>?_⟩
 obtain ⟨v1,e1,f1⟩:=r.ev (K.hgs.mono hl) _ h1
 obtain ⟨v2,e2,f2⟩:=r.ev (K.hgs.mono hl) _ h2
 have f2:=slOf_rp s2 f2
 obtain ⟨zs2,b1,b2,b3⟩:=sl_Sl f2
 rw [Rp_ms] at f1
 obtain ⟨rfl,_⟩:=f1
 obtain ⟨M,L2,rfl,⟨p,q3,rfl⟩,q4⟩:=q
 obtain ⟨a,cap,zs,rfl,g2,g3,g4,g5⟩:=q3
 have hsz':0<ei.size:=by simpa [Nat.blt_eq] using hsz
 have hlen1:(catL zs).length=l1.length*ei.size:=by rw [cat_len g3.sz,g3.rp.len]
 have hlen2:(catL zs2).length=l2.length*ei.size:=by rw [cat_len b2,b1.len]
 have how:Ow ei.size a l1.length cap (catL zs) p:=⟨g4,g2,hlen1,g5.elim (fun ⟨_,k2,k3,k4⟩=> .inl ⟨k2,k3,k4⟩) .inr⟩
 refine V.gives (C:=K.cfg) (gyesA_eq r hg) hd (okPutA_eq r hc) fun ac w g s hk=>?_
 obtain ⟨w',x',a',n',cap',r1,r2,r3⟩:=run_appendOwn (ty:=o.type) K.ok ht hdd he hsz' hz1 (allOne_mem g3.oneAll) s how b3 (by rw [hlen1,hlen2,<-Nat.add_mul];exact hb) (by rw [hlen1,hlen2,<-Nat.add_mul];exact hby)
 have hn':n'=l1.length+l2.length:=by
  have:=r3.2.2.1
  rw [List.length_append,hlen1,hlen2,<-Nat.add_mul] at this
  exact (Nat.eq_of_mul_eq_mul_right hsz' this).symm
 subst hn'
 refine ⟨_,w',h,_,?_,r2,(next (.slice a' (l1.length+l2.length) cap')).run h _ (x'::L2) hl ⟨r.1.put (Rp_ms.2 ⟨rfl,_,_,rfl⟩),r.2⟩ (.one ⟨x',⟨a',cap',zs++zs2,by rw [List.length_append],by rw [List.length_append];exact r3.2.1,⟨g3.rp.append b1,fun z hz=>?_,fun z hz=>?_⟩,r3.1,?_⟩,rfl⟩ q4)⟩
 ·unfold execOp
  rw [ho]
  have r1':Sem.run K.cfg.P (Builtin.append_ #[t,t] o.type #[Value.slice a l1.length cap,v2]) w=Result.ok (Value.slice a' (l1.length+l2.length) cap') w':=r1
  simp [resolve,invoke,builtin,g.ev hk e1,g.ev hk e2,r1']
 ·rcases List.mem_append.1 hz with hz|hz
  ·exact g3.sz z hz
  ·exact b2 z hz
 ·rcases List.mem_append.1 hz with hz|hz
  ·exact g3.one z hz
  ·exact hone h zs2 b1 z hz
 ·have hcat:catL (zs++zs2)=catL zs++catL zs2:=by simp [catL]
  rcases r3.2.2.2 with ⟨k2,k3,k4⟩|k5
  ·refine .inl ⟨?_,k2,k3,k4⟩
   have:=r3.2.1
   exact List.length_eq_zero_iff.1 (by rw [List.length_append];omega)
  ·rw [hcat,List.length_append];exact .inr k5
theorem A.callL{all:Array Oper}{o:Oper}{l:List Oper}{ks:List (Nat×Bool)}{x:Operand}{args:Array Operand}{ts:Array TypeId}{f:FuncId}{fst cap vs args':List AV}{y:AV}{Λ1 Λ2:List AEnt}{d:Nat}
 (hg:gyesA E all o.guard=some ks) (ho:o.op= .call ⟨.value x,args,ts⟩) (hx:E.ev K.gs ks x=some (.fn f fst cap)) (ha:evsA (E.ev K.gs ks) args.toList=some vs)
 (hd:o.dst=some d) (hc:okPutA K.n E d=true) (hf:Fun K.P K.gs f args' Λ1 fun z Λ'=>z=y/\Λ'=Λ1) (hs:SbL (fst++(vs++cap)) args') (hp:Λ.Perm (Λ1++Λ2))
 (next:A K (.ops all l::k) ⟨(d,y)::E.us,E.cs⟩ (Λ1++Λ2)):A K (.ops all (o::l)::k) E Λ:=
 A.call hg ho hx ha hd hc hf hs hp fun _ _ ⟨e1,e2⟩=>(by subst e1;subst e2;exact next)
end
end Go.Tp
