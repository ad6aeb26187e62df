/-
  Texts Lk Lm Ln Lo Lz. Conditions: as each theorem says.
-/
import Derived.Test.YtkbolbpojpmicaaGreatDoorWe3
import Derived.Laws.StructEq
set_option linter.unusedVariables false
set_option linter.unusedSimpArgs false
set_option maxRecDepth 100000
set_option maxHeartbeats 4000000
open List renaming mem_singleton→aa3,append_assoc→ab7,nil_sublist→ae1
open Go.Result renaming andThen_ok→aa5
open Nat renaming le_refl→aa6,sub_zero→am0
open Go.Sem renaming run_bind→aa9,run_pure→ab5
namespace Go.Tp
open Go Go.RowKit
mutual
inductive Pb(b sz:Nat)(x:AV):AV->AV->Prop
 |sub {y z:AV}:Sb y z->Pb b sz x y z
 |ptr:Pb b sz x (.v (.pointer (some ⟨b,0,none⟩))) (.pe sz x)
 |ag {y z:List AV}:PbL b sz x y z->Pb b sz x (.ag y) (.ag z)
 |fn {f:FuncId} {p y z:List AV}:PbL b sz x y z->Pb b sz x (.fn f p y) (.fn f p z)
inductive PbL(b sz:Nat)(x:AV):List AV->List AV->Prop
 |sub {y z:List AV}:fO y z->PbL b sz x y z
 |cons {y z:AV} {r s:List AV}:Pb b sz x y z->PbL b sz x r s->PbL b sz x (y::r) (z::s)
end
mutual
theorem Pb.rp{h:GH}{b sz:Nat}{x:AV}(hz:Rp h (.pe sz x) (.pointer (some ⟨b,0,none⟩))): ∀{y z:AV},Pb b sz x y z-> ∀{v:Value},Rp h y v->Rp h z v
 |_,_, .sub s,_,r=>s.rp r |_,_, .ptr,_,r=>by rw [bE] at r;rw [r.1];exact hz
 |_,_, .ag s,_,r=>by rw [eJ] at r⊢;obtain ⟨cs,h1,h2⟩:=r;exact ⟨cs,h1,PbL.rp hz s h2⟩
 |_,_, .fn s,_,r=>by rw [q8] at r⊢;obtain ⟨u,w,h1,h2,h3⟩:=r;exact ⟨u,w,h1,h2,PbL.rp hz s h3⟩
theorem PbL.rp{h:GH}{b sz:Nat}{x:AV}(hz:Rp h (.pe sz x) (.pointer (some ⟨b,0,none⟩))): ∀{y z:List AV},PbL b sz x y z-> ∀{v:List Value},dM h y v->dM h z v
 |_,_, .sub s,_,r=>s.rp r |_,_, .cons s t,_,r=>by rw [aG] at r⊢;obtain ⟨v,vs,h1,h2,h3⟩:=r;exact ⟨v,vs,h1,Pb.rp hz s h2,PbL.rp hz t h3⟩
end
section
variable{K:AC}{k:List It}{E:aH}{Λ:List aF}
theorem A.df(t b:Nat){x y y':AV}{vs:List AV}{sz:Nat}{Λ':List aF}(hx:bJ E.us t=some y) [i:AAt Λ b x] [j:AOut Λ (.box b x) Λ'](hc:gA x=some vs)(hn:pG vs=sz)(hp:Pb b sz x y y')
 (next:A K k ⟨(t,y')::E.us,E.cs⟩ Λ'):A K k E Λ:=by
 refine ⟨fun h e L hl r q=>?_⟩;rcases r.1.look t with ⟨y,v,e1,e2,e3⟩|⟨e1,e2⟩
 ·rw [hx] at e1;injection e1 with e1;subst e1;obtain ⟨L',q1,q2⟩:=q.perm j.perm;obtain ⟨M,L2,rfl,⟨z,q3,rfl⟩,q4⟩:=q1;refine V.perm (q2.append_right _) (V.bu fun hle=>?_);have hrp:Rp (h.add b 0 (aI z)) (.pe sz x) (.pointer (some ⟨b,0,none⟩)):=by
   rw [kO];exact ⟨b,0,z,rfl,q3.mono hle,by rw [(jJ q3 hc).len,<-hn,i9],fun i u hu=>GH.cr h b 0 _ hu⟩
  exact V.val t e2 T (next.run _ ⟨(t,v)::e.us,e.cs⟩ L2 (GH.le_trans hl hle) ⟨(r.1.mono hle).put (hp.rp hrp (e3.mono hle)),r.2.mono hle⟩ (q4.mono hle))
 ·rw [hx] at e1;cases e1
theorem A.jx(t:Nat){b o0 n c sz i:Nat}(hx:bJ E.us t=some (.ep (.slice (some ⟨b,o0,none⟩) n c) sz i))(next:A K k ⟨(t, .v (.pointer (some ⟨b,o0+i*sz,none⟩)))::E.us,E.cs⟩ Λ):A K k E Λ:=by
 refine ⟨fun h e L hl r q=>?_⟩;rcases r.1.look t with ⟨y,v,e1,e2,e3⟩|⟨e1,e2⟩
 ·rw [hx] at e1;injection e1 with e1;subst e1;rw [B4] at e3;obtain ⟨b',o',n',c',e4,_,e5⟩:=e3;injection e4 with e4;injection e4 with e4;injection e4 with e6 e7;subst e6;subst e7;subst e5;exact V.val t e2 T (next.run _ ⟨(t,_)::e.us,e.cs⟩ L hl ⟨r.1.put (bE.2 ⟨rfl,rfl⟩),r.2⟩ q)
 ·rw [hx] at e1;cases e1
theorem A.dt{all:Array Oper}{o:Oper}{l:List Oper}{ks:List (Nat×Bool)}{t:TypeId}{p y:Operand}{b sz off:Nat}(i k0:Nat){xs xs':List AV}{ti:TI}(ei:TI){v x x':AV}{Λ':List aF}
 (hg:aV E all o.guard=some ks) (ho:o.op= .store t p y) (hp:E.ev K.gs ks p=some (.v (.pointer (some ⟨b,off,none⟩)))) (hy:E.ev K.gs ks y=some v) (ht:K.S.get t=some ti) (n c o0:Nat) [j:ARow Λ (.slice (some ⟨b,o0,none⟩) n c) sz xs] (hoff:off=o0+i*sz+k0) (hx:xs[i]? =some x) (hst:stA ti x k0 v=some x')
 (hok:LJ ei x'=true) (hse:Nat.beq ei.size sz=true) (hd:o.dst=none) (hxs:xs.set i x'=xs') [u:ARowUp Λ (.slice (some ⟨b,o0,none⟩) n c) sz xs xs' Λ'] (next:A K (.ops all l::k) E Λ'):A K (.ops all (o::l)::k) E Λ:=by
 subst hxs;subst hoff;refine ⟨fun h e L hl r q=>?_⟩;have hse:=Nat.eq_of_beq_eq_true hse;obtain ⟨v1,e1,f1⟩:=r.ev (K.hgs.mono hl) _ hp;obtain ⟨v2,e2,f2⟩:=r.ev (K.hgs.mono hl) _ hy;rw [bE] at f1;rw [f1.1] at e1;obtain ⟨Λ1,Λ2,d1,d2⟩:=u.split;subst d1;subst d2;obtain ⟨L1,M,L2,rfl,q1,⟨pp,⟨a,cap',zs,g1,g2,g3,g4,g5⟩,rfl⟩,q3⟩:=q.mid;injection g1 with g1 g1' g1'';subst g1;subst g1';subst g1'';have hi:i<xs.length:=by
  rcases Nat.lt_or_ge i xs.length with h|h
  ·exact h
  ·rw [List.getElem?_eq_none h] at hx;cases hx
 rcases g5 with ⟨g5,_⟩|⟨b',off',sp,g6,rfl,g9⟩
 ·subst g5;simp at hi
 ·injection g6 with g6;injection g6 with g6 g7;subst g6;subst g7;have hzl:zs.length=xs.length:=g3.rp.len;obtain ⟨z0,hz0,hr0⟩:=g3.rp.at hx;obtain ⟨z0',s1,s2⟩:=Q5 (b:=b) hr0 f2 hst;obtain ⟨c1,c2,_⟩:=CN hok s2;have hzs:zs=zs.take i++z0::zs.drop (i+1):=by
   have:=List.take_append_drop i zs;rw [List.drop_eq_getElem_cons (by omega)] at this;rw [List.getElem?_eq_getElem (by omega)] at hz0;injection hz0 with hz0;rw [hz0] at this;exact this.symm
  have hxs:xs.set i x'=xs.take i++x'::xs.drop (i+1):=by rw [List.set_eq_take_append_cons_drop,iT hi]
  have g3':tT h sz (xs.set i x') (zs.take i++z0'::zs.drop (i+1)):=by rw [hxs];refine (g3.takeN i).app ((?_:tT h sz [x'] [z0']).app (g3.dy (i+1)));exact ⟨aG.2 ⟨z0',[],rfl,s2,aQ.2 T⟩,fun z hz=>by rw [aa3.1 hz,c1,hse],fun z hz=>by rw [aa3.1 hz];exact c2⟩
  have hA:(bH (zs.take i)).length=i*sz:=by rw [(g3.takeN i).fl,List.length_take,Nat.min_eq_left (by omega)]
  have hlen:Nat.beq (aI v2).length ti.size=true:=by
   cases hb:Nat.beq (aI v2).length ti.size with
   |true=>rfl |false=>rw [Q6,hb] at s1;cases s1
  have hble:Nat.ble 0 k0=true:=by cases k0<;>rfl
  have hone:aP (aI v2)=true:=by
   cases hb:aP (aI v2) with
   |true=>rfl |false=>simp only [Q6,hlen,hble,hb] at s1;cases s1
  have hcs:cS (aI z0) k0 (aI v2)=some (aI z0'):=by
   simp only [Q6,hlen,hble,hone,am0] at s1;split at s1
   ·rename_i cs hcs;injection s1 with s1;injection s1 with _ _ s1 _;rw [hcs,s1]
   ·cases s1
  have hle:Nat.ble o0 (o0+i*sz+k0)=true:=Nat.ble_eq_true_of_le (by omega);have e3:cS (bH zs++sp) (i*sz+k0) (aI v2)=some (bH (zs.take i++z0'::zs.drop (i+1))++sp):=by
   have h1:=ER (aI v2) (bH (zs.drop (i+1))++sp) _ _ hcs;have h2:=xY (aI v2) (bH (zs.take i)) _ _ h1;rw [hA] at h2;have e4:bH zs++sp=bH (zs.take i)++(aI z0++(bH (zs.drop (i+1))++sp)):=by
    conv=>lhs;rw [hzs]
    rw [iS,ab7];congr 1;show (aI z0++bH (zs.drop (i+1)))++sp=_;rw [ab7]
   rw [e4,h2];congr 1;rw [iS,ab7];congr 1;show _=(aI z0'++bH (zs.drop (i+1)))++sp;rw [ab7]
  have hst':Q6 ti ⟨b,o0,bH zs++sp,none⟩ (o0+i*sz+k0) v2=some ⟨b,o0,bH (zs.take i++z0'::zs.drop (i+1))++sp,none⟩:=by simp only [Q6,hlen,hle,hone,show o0+i*sz+k0-o0=i*sz+k0 by omega,e3]
  have i':EntAt ((L1++([⟨b,o0,bH zs++sp,none⟩]++L2))++K.G) b ⟨b,o0,bH zs++sp,none⟩:=⟨by simp,rfl⟩;have j':EntUp ((L1++([⟨b,o0,bH zs++sp,none⟩]++L2))++K.G) b ⟨b,o0,bH zs++sp,none⟩ ⟨b,o0,bH (zs.take i++z0'::zs.drop (i+1))++sp,none⟩ ((L1++([⟨b,o0,bH (zs.take i++z0'::zs.drop (i+1))++sp,none⟩]++L2))++K.G):=⟨L1,L2++K.G,by simp,by simp⟩;have hlen:(xs.set i x').length=xs.length:=List.length_set;exact V.store (C:=K.cfg) (aT r hg) ho e1 e2 ht (i:=i') hst' (j:=j') hd (next.run h e _ hl r (kL.fz q1 ⟨_,⟨some ⟨b,o0,none⟩,c,_,by rw [hlen],by rw [hlen];exact g2,g3',rfl, .inr ⟨b,o0,sp,rfl,rfl,by rw [hlen];exact g9⟩⟩,rfl⟩ q3))
theorem A.jl{all:Array Oper}{o:Oper}{l:List Oper}{ks:List (Nat×Bool)}{y1 y2:Operand}{t t2 el:TypeId}{ti ei:TI}{x2:AV}{z:Value}{sz':Nat}{l2:List AV}{own2:Option Value}{E':aH}
 (hg:aV E all o.guard=some ks) (ho:o.op= .call ⟨.builtin .copy, #[y1,y2], #[t,t2]⟩) (h1:E.ev K.gs ks y1=some (.ms z sz' 0)) (h2:E.ev K.gs ks y2=some x2)
 (ht:K.S.get t=some ti) (hdd:ti.d= .slice el) (he:K.S.get el=some ei) (s2:nX ei.size x2=some (l2,own2)) (hput:E.put K.n none o.dst (.v (.int .i64 0))=some E')
 (next:A K (.ops all l::k) E' Λ):A K (.ops all (o::l)::k) E Λ:=by
 refine A.bg hg (fun h e L hl r q=>?_) hput next
 obtain ⟨v1,e1,f1⟩:=r.ev (K.hgs.mono hl) _ h1;obtain ⟨v2,e2,f2⟩:=r.ev (K.hgs.mono hl) _ h2;have f2:=jC s2 f2;rw [kN] at f1;obtain ⟨rfl,a,cap,rfl⟩:=f1;rw [cU] at f2;obtain ⟨a2,cap2,rfl,_⟩:=f2;refine ⟨_,bE.2 ⟨rfl,rfl⟩,fun ac w g s hk=>?_⟩;have ok:=TT.Ok.get K.ok ht;have hund:K.P.underlying t=some (.slice el):=by rw [ok.und,hdd]
 have hz:(sizeOf el).run K.P w= .ok ei.size w:=run_sizeOf (TT.Ok.get K.ok he);have hf:(Builtin.firstCells ei.size 0 (.slice a2 l2.length cap2)).run K.P w= .ok #[] w:=by
  cases a2 with
  |none=>simp [Builtin.firstCells]
  |some a=>simp [Builtin.firstCells,loadCells,loadCellsFrom]
 have hr:(Builtin.copy_ #[t,t2] o.type #[.slice a 0 cap, .slice a2 l2.length cap2]).run K.P w= .ok (.int .i64 0) w:=by
  simp only [Builtin.copy_,List.getElem?_toArray,List.getElem?_cons_zero,List.getElem?_cons_succ,aa9,Go.run_underlying hund,aa5,Builtin.lenOf,ab5,hz,show Nat.min l2.length 0=0 from Nat.min_zero _,hf,goInt];cases a with
  |none=>simp |some a=>simp [storeCells]
 unfold execOp;rw [ho];simp [resolve,invoke,builtin,g.ev hk e1,g.ev hk e2,hr]
end
end Go.Tp
namespace Go.Tp
open Go Go.RowKit
section
variable{K:AC}{all:Array Oper}{m:Nat}{k:List It}{pubs:Nat->List Nat}{Y:Ua}{π:List Nat}{E:aH}{Λ:List aF}{D:Da}
theorem A.jm{id:Nat}(j b:Nat){x:AV}{Λ':List aF}(m:Nat)(π:List Nat)(pubs:Nat->List Nat)(Y:Ua) [i:AAt Λ b x] [o:AOut Λ (.box b x) Λ'](hj:j<EZ all.toList)(hm:K.P.follows .mixedOrders=true)(hok:lL all m π pubs=true)
 (hv:WA K all m k pubs Y π E Λ' [(j, .box b x)]):A K (.code (.region id all true)::k) E Λ:=
 ⟨fun h e L hl r q=>by obtain ⟨L',q1,q2⟩:=q.perm o.perm;obtain ⟨M,L2,rfl,⟨z,q3,rfl⟩,q4⟩:=q1;refine V.perm (q2.append_right _) (V.dx (C:=K.cfg) j m π pubs (YA Y) (by rw [wT] at hj;simpa using hj) hm hok (hv.run h e L2 _ hl r q4 ?_));exact KF.set (D:=[]) (Es:=aE.none) (fun i=>rfl) ⟨z,q3,rfl⟩⟩
theorem WA.gw{i:Nat}{o:Oper}{ks:List (Nat×Bool)}{x:Operand}{args:Array Operand}{ts:Array TypeId}{f:FuncId}{fst cap vs args':List AV}{y:AV}{d:Nat}{D':Da}{ent:aF}{Q:AV->List aF->Prop}(hi:bU all.toList i=some o)
 (hg:aV E all o.guard=some ks) (ho:o.op= .call ⟨.value x,args,ts⟩) (hx:E.ev K.gs ks x=some (.fn f fst cap)) (ha:rG (E.ev K.gs ks) args.toList=some vs)
 (hd:o.dst=some d) (hc:bZ K.n E d=true) (hii:fS i (pubs i)=true) (hE:lW D i=some ent) (hD:q9 [i] D=D') (hY:bJ Y i=some y) (hf:lI K.P K.gs f args' [ent] Q) (hQ: ∀y' Λ',Q y' Λ'->Sb y' y) (hs:fO (fst++(vs++cap)) args')
 (next:WA K all m k pubs Y π ⟨(d,y)::E.us,E.cs⟩ Λ D') (hfr:fr2 (pubs i)=false:=by rfl):WA K all m k pubs Y (i::π) E Λ D:=by
 subst hD;refine ⟨fun h e L Es hl r q dd=>?_⟩;obtain ⟨v1,e1,f1⟩:=r.ev (K.hgs.mono hl) _ hx;rw [q8] at f1;obtain ⟨u,w,rfl,f2,f3⟩:=f1;obtain ⟨us,e2,f4⟩:=mS (σ:=e.ev ks) (fun z x hz=>r.ev (K.hgs.mono hl) ks hz) ha;have hEi:=dd i;rw [hE] at hEi;obtain ⟨p,hp1,hp2⟩:=hEi;refine WE.gw (G:=cG K.cfg all (L++K.G) pubs (YA Y) m k) (hfr:=hfr) hi (aT r hg) ho e1 e2 hd (bQ r hc) hii hp1 (fun L'=>?_) (fun v h' y1 y3=>?_)
 ·have hargs:=hs.rp (f2.append (f4.append f3));refine (hf K.w0 _ _ [p] _ (K.hgs.mono hl) hargs ⟨[p],[],rfl,hp2,rfl⟩).mono ?_;rintro v h' L'' ⟨z,Λ',L1,h1,g2,g3,g4,rfl⟩;exact ⟨List.sublist_append_right _ _,g3,by simp only [YA,hY];exact (hQ _ _ h1).rp g2⟩
 ·have y3:Rp h' y v:=by simp only [YA,hY] at y3;exact y3
  refine next.run h' ⟨(d,v)::e.us,e.cs⟩ L _ (GH.le_trans hl y1) ⟨(r.1.mono y1).put y3,r.2.mono y1⟩ (q.mono y1) (fun j=>?_)
  rw [uX]
  by_cases hj:j=i
  ·subst hj;rw [iT (aa3.2 T)];show UE h' none (Es.set j none j);rw [aE.dq];rfl
  ·rw [iF (fun hm=>hj (aa3.1 hm))];show UE h' _ (Es.set i none j);rw [aE.aw Es hj];exact (dd j).mono y1
end
end Go.Tp
namespace Go.Tp
open Go Go.RowKit
section
variable{K:AC}{all:Array Oper}{m:Nat}{k:List It}{pubs:Nat->List Nat}{Y:Ua}{π:List Nat}{E:aH}{Λ:List aF}{D:Da}
theorem run_sub3{P:Program}{S:TT}{w:World}{t el:TypeId}{ti ei:TI}(hS:S.Ok P)(ht:S.get t=some ti)(hd:ti.d= .slice el)(he:S.get el=some ei){a:Option Addr}{n c h mx:Nat}{k1 k2:IntKind}(h1:h<=mx)(h2:mx<=c):
 (Instr.sliceAt t (.slice a n c) none (some (.int k1 (h:Nat))) (some (.int k2 (mx:Nat)))).run P w= .ok (.slice a h mx) w:=by
 have hu:(underlying t).run P w= .ok (.slice el) w:=by rw [run_underlying (TT.Ok.get hS ht),hd]
 have hz:(sizeOf el).run P w= .ok ei.size w:=run_sizeOf (TT.Ok.get hS he);have hb:(Instr.sliceBounds true n c none (some (.int k1 (h:Nat))) (some (.int k2 (mx:Nat)))).run P w= .ok (0,h,mx) w:=by
  have b1:(mx:Int)<=c:=by omega
  have b2:(h:Int)<=mx:=by omega
  have b3:(0:Int)<=(mx:Int):=by omega
  have b4:(0:Int)<=(h:Int):=by omega
  simp [Instr.sliceBounds,run_sliceBound,b1,b2,b3,b4]
 have e1:(if mx=0 then a else a.map (·.add (0*ei.size)))=a:=by
  split
  ·rfl
  ·rw [Nat.zero_mul];cases a<;>rfl
 simp only [Instr.sliceAt,Instr.slice,aa9,hu,aa5,hb,hz,ab5,e1,am0]
theorem EG{K:AC}{E:aH}{o:Oper}{ks:List (Nat×Bool)}{t el:TypeId}{ti ei:TI}{x hi mx:Operand}{xv:AV}{a:Option Addr}{n c j q:Nat}{k1 k2:IntKind}{h:GH}{e:Env}
 (ho:o.op= .slice t x none (some hi) (some mx)) (hx:E.ev K.gs ks x=some xv) (hxv: ∀y,Rp h xv y->y= .slice a n c) (ht:K.S.get t=some ti) (hdd:ti.d= .slice el) (he:K.S.get el=some ei)
 (hhi:E.ev K.gs ks hi=some (.v (.int k1 (j:Nat)))) (hmx:E.ev K.gs ks mx=some (.v (.int k2 (q:Nat)))) (h1:j<=q) (h2:q<=c) (hl:K.h0.le h) (r:iR h E e):
 ∀ac w,Ag K.n K.D e ac->dK ac ks->(execOp ac.eval o).run K.P w= .ok (.value (.slice a j q)) w:=by
 intro ac w g hk;obtain ⟨v1,e1,f1⟩:=r.ev (K.hgs.mono hl) _ hx;obtain ⟨v2,e2,f2⟩:=r.ev (K.hgs.mono hl) _ hhi;obtain ⟨v3,e3,f3⟩:=r.ev (K.hgs.mono hl) _ hmx;rw [hxv _ f1] at e1;rw [bE] at f2 f3;rw [f2.1] at e2;rw [f3.1] at e3;have:=run_sub3 (P:=K.P) (w:=w) (n:=n) (c:=c) (a:=a) (k1:=k1) (k2:=k2) K.ok ht hdd he h1 h2;unfold execOp;rw [ho];simp only [g.ev hk e1,g.ev hk e2,g.ev hk e3,Option.map_none,Option.map_some,aa9,this,aa5,ab5]
theorem WA.jc{i0:Nat}{o:Oper}{ks:List (Nat×Bool)}{t el:TypeId}{ti ei:TI}{x hi mx:Operand}{a:Option Addr}{n c j q:Nat}{k1 k2:IntKind}{E':aH}
 (hi0:bU all.toList i0=some o) (hg:aV E all o.guard=some ks) (ho:o.op= .slice t x none (some hi) (some mx)) (hx:E.ev K.gs ks x=some (.v (.slice a n c))) (ht:K.S.get t=some ti) (hdd:ti.d= .slice el) (he:K.S.get el=some ei)
 (hhi:E.ev K.gs ks hi=some (.v (.int k1 (j:Nat)))) (hmx:E.ev K.gs ks mx=some (.v (.int k2 (q:Nat)))) (h1:j<=q) (h2:q<=c) (hput:E.put K.n none o.dst (.v (.slice a j q))=some E')
 (next:WA K all m k pubs Y π E' Λ D):WA K all m k pubs Y (i0::π) E Λ D:=
 WA.quiet hi0 (wS ho) hg (fun h e hl r=>⟨_,bE.2 ⟨rfl,rfl⟩,EG (K:=K) ho hx (fun y hy=>by rw [bE] at hy;exact hy.1) ht hdd he hhi hmx h1 h2 hl r⟩) hput next
theorem WA.slice3{i0:Nat}{o:Oper}{ks:List (Nat×Bool)}{t el:TypeId}{ti ei:TI}{x hi mx:Operand}{sz:Nat}{xs:List AV}{a:Option Addr}{c j q:Nat}{k1 k2:IntKind}{E':aH}
 (hi0:bU all.toList i0=some o) (hg:aV E all o.guard=some ks) (ho:o.op= .slice t x none (some hi) (some mx)) (hx:E.ev K.gs ks x=some (.sl sz xs (some (.slice a xs.length c)))) (ht:K.S.get t=some ti) (hdd:ti.d= .slice el) (he:K.S.get el=some ei)
 (hhi:E.ev K.gs ks hi=some (.v (.int k1 (j:Nat)))) (hmx:E.ev K.gs ks mx=some (.v (.int k2 (q:Nat)))) (h1:j=xs.length) (h2:q=xs.length) (hput:E.put K.n none o.dst (.sl sz xs (some (.slice a xs.length xs.length)))=some E')
 (next:WA K all m k pubs Y π E' Λ D):WA K all m k pubs Y (i0::π) E Λ D:=by
 subst h1;subst h2;refine WA.quiet hi0 (wS ho) hg (fun h e hl r=>?_) hput next
 obtain ⟨v1,e1,f1⟩:=r.ev (K.hgs.mono hl) _ hx;rw [cU] at f1;obtain ⟨a1,c1,rfl,g2,g3,g4⟩:=f1;have g3:Value.slice a1 xs.length c1=Value.slice a xs.length c:=g3;injection g3 with g5 _ g6;subst g5;subst g6;refine ⟨_,cU.2 ⟨a1,xs.length,rfl,aa6 _,rfl,g4⟩,EG (K:=K) (n:=xs.length) (a:=a1) (c:=c1) ho hx (fun y hy=>?_) ht hdd he hhi hmx (aa6 _) g2 hl r⟩;rw [cU] at hy;obtain ⟨_,_,_,_,h5,_⟩:=hy;exact h5
end
section
variable{K:AC}{k:List It}{E:aH}{Λ:List aF}
theorem A.jv(t:Nat){sz:Nat}{l:List AV}(hx:bJ E.us t=some (.pe 1 (.sl sz l none)))(hl0:l≠[])(next: ∀b o c,A K k ⟨(t, .pe 1 (.sl sz l (some (.slice (some ⟨b,o,none⟩) l.length c))))::E.us,E.cs⟩ Λ):A K k E Λ:=by
 refine ⟨fun h e L hl r q=>?_⟩;rcases r.1.look t with ⟨y,v,e1,e2,e3⟩|⟨e1,e2⟩
 ·rw [hx] at e1;injection e1 with e1;subst e1;rw [kO] at e3;obtain ⟨b,o,z,rfl,f1,f2,f3⟩:=e3;rw [cU] at f1;obtain ⟨a,c,rfl,g2,g3,g4⟩:=f1;obtain ⟨b',o',rfl,g5⟩:=g4 hl0;exact V.val t e2 T ((next b' o' c).run _ ⟨(t,_)::e.us,e.cs⟩ L hl ⟨r.1.put (kO.2 ⟨b,o,_,rfl,cU.2 ⟨_,c,rfl,g2,rfl,g4⟩,f2,f3⟩),r.2⟩ q)
 ·rw [hx] at e1;cases e1
theorem A.cq(t:Nat)(z:Value){y y':AV}{sz:Nat}{l:List AV}{Λ':List aF}(hx:bJ E.us t=some y) [i:ARow Λ z sz l] [j:AOut Λ (.row sz z l) Λ'](hp:Fz z sz l y y')
 (next:A K k ⟨(t,y')::E.us,E.cs⟩ Λ'):A K k E Λ:=by
 refine ⟨fun h e L hl r q=>?_⟩;rcases r.1.look t with ⟨u,v,e1,e2,e3⟩|⟨e1,e2⟩
 ·rw [hx] at e1;injection e1 with e1;subst e1;obtain ⟨L',q1,q2⟩:=q.perm j.perm;obtain ⟨M,L2,rfl,⟨p,q3,rfl⟩,q4⟩:=q1;obtain ⟨a,cap,zs,rfl,g2,g3,g4,g5⟩:=q3;obtain ⟨pb,plo,pcs,pobj⟩:=p;simp only at g4;subst g4;refine V.perm (q2.append_right _) (V.bu fun hle=>?_);have hrp:Rp (h.add pb plo pcs) (.sl sz l none) (.slice a l.length cap):=by
   rw [cU];refine ⟨a,cap,rfl,g2,trivial,fun hn=>?_⟩;rcases g5 with ⟨g5,_⟩|⟨b,o,sp,rfl,g5,_⟩
   ·exact (hn g5).elim
   ·injection g5 with g6 g7 g8;subst g6;subst g7;subst g8;exact ⟨pb,plo,rfl,uI (g3.rp.mono hle) g3.sz (iB.left fun i u hu=>GH.cr h pb plo _ hu)⟩
  exact V.val t e2 T (next.run _ ⟨(t,_)::e.us,e.cs⟩ L2 (GH.le_trans hl hle) ⟨(r.1.mono hle).put (hp.rp hrp (e3.mono hle)),r.2.mono hle⟩ (q4.mono hle))
 ·rw [hx] at e1;cases e1
end
section
variable{K:AC}{k:List It}{E:aH}{Λ:List aF}
end
section
variable{K:AC}{all:Array Oper}{m:Nat}{k:List It}{pubs:Nat->List Nat}{Y:Ua}{π:List Nat}{E:aH}{Λ:List aF}{D:Da}
end
end Go.Tp
namespace Go.Tp
open Go Go.RowKit
section
variable{K:AC}{all:Array Oper}{m:Nat}{k:List It}{pubs:Nat->List Nat}{Y:Ua}{π:List Nat}{E:aH}{Λ:List aF}{D:Da}
end
end Go.Tp
namespace Go.Tp
open Go Go.RowKit
section
variable{K:AC}{all:Array Oper}{m:Nat}{k:List It}{pubs:Nat->List Nat}{Y:Ua}{π:List Nat}{E:aH}{Λ:List aF}{D:Da}
end
theorem s_{P:Prop}(h:P:=by (repeat (first|exact Sb.refl|exact fO.refl|refine fO.cons ?_ ?_|exact Sb.nil|exact Sb.cw|refine Sb.own ?_|refine Sb.ag ?_|refine Sb.tp ?_|exact Sb.un T))):P:=h
theorem kK{P:Prop}(h:P:=by (repeat (first|exact List.Sublist.refl _|apply List.Sublist.cons_cons|apply List.Sublist.cons))):P:=h
theorem su_{P:Prop}(h:P:=by (repeat (first|exact trivial|refine ⟨⟨_,rfl, .refl⟩,?_⟩))):P:=h
theorem fz_{P:Prop}(h:P:=by (repeat (first|exact Fz.ms|apply Fz.ag|apply FzL.cons|exact FzL.sub .refl|exact Fz.sub .refl))):P:=h
theorem y_{P Q:Prop}(n:Q)(h:Q->P:=by intro h;(repeat (first|refine A.s T ?_|refine A.r T T ?_|refine A.w T T ?_|refine A.p T ?_));exact h):P:=h n
theorem g_{P Q:Prop}(n:Q)(h:Q->P:=by intro h;(repeat (first|refine A.s T ?_|refine A.r T T ?_|refine A.w T T ?_|refine A.p T ?_|refine A.step T ?_|refine A.v T T ?_));exact h):P:=h n
theorem w_{P Q:Prop}(n:Q)(h:Q->P:=by intro h;(repeat (first|refine WA.s T ?_|refine WA.r T T ?_|refine WA.p T ?_));exact h):P:=h n
theorem v_{P Q:Prop}(n:Q)(h:Q->P:=by intro h;(repeat (first|refine WA.s T ?_|refine WA.r T T ?_|refine WA.p T ?_|refine WA.step T ?_|refine WA.v T T ?_));exact h):P:=h n
theorem b_{P:Prop}{Q:Nat->Prop}(n: ∀b,Q b)(h:(∀b,Q b)->P:=by intro h;(repeat (first|refine A.s T ?_|refine A.r T T ?_|refine A.w T T ?_|refine A.p T ?_));refine A.b T fun b=>?_;exact h b):P:=h n
theorem t_{P:Prop}{Q:Nat->Prop}(n: ∀b,Q b)(h:(∀b,Q b)->P:=by intro h;(repeat (first|refine A.s T ?_|refine A.r T T ?_|refine A.w T T ?_|refine A.p T ?_));refine A.t T fun b=>?_;exact h b):P:=h n
theorem rL{P:Prop}{Q:Nat->Prop}(n: ∀b,Q b)(h:(∀b,Q b)->P:=by intro h;(repeat (first|refine A.s T ?_|refine A.r T T ?_|refine A.w T T ?_|refine A.p T ?_|refine A.step T ?_|refine A.v T T ?_));refine A.b T fun b=>?_;exact h b):P:=h n
section
variable{K:AC}{k k':List It}{E E':aH}{Λ Λ':List aF}
theorem c_{d:Nat}{f:FuncId}{as args':List AV}{y:AV}{Q:Prop}(hf:Pure K.P K.gs f args' y)(n:Q)(h:clS K.gs K.n k E=some (k',d,f,as):=by exact rfl)(hs:fO as args':=by (repeat (first|exact Sb.refl|exact fO.refl|refine fO.cons ?_ ?_|exact Sb.nil|exact Sb.cw|refine Sb.own ?_|refine Sb.ag ?_|refine Sb.tp ?_|exact Sb.un T)))(hy:Q->A K k' ⟨(d,y)::E.us,E.cs⟩ Λ:=by intro h;(repeat (first|refine A.s T ?_|refine A.r T T ?_|refine A.w T T ?_|refine A.p T ?_));exact h):A K k E Λ:=A.c h hf hs (hy n)
theorem n_{d:Nat}{f:FuncId}{as args':List AV}{y:AV}(hf:Pure K.P K.gs f args' y)(n:A K k' ⟨(d,y)::E.us,E.cs⟩ Λ)(h:clS K.gs K.n k E=some (k',d,f,as):=by exact rfl)(hs:fO as args':=by (repeat (first|exact Sb.refl|exact fO.refl|refine fO.cons ?_ ?_|exact Sb.nil|exact Sb.cw|refine Sb.own ?_|refine Sb.ag ?_|refine Sb.tp ?_|exact Sb.un T))):A K k E Λ:=A.c h hf hs n
theorem i_{xs:List AV}{i:Int}{f:AV->Option (List It×aH)}{y y':AV}{Q:Prop}(h:ixS K.S K.gs K.n k E=some (xs,i,f))(hy:xs[i.toNat]? =some y)(hy':y=y')(n:Q)(h0:0<=i:=by first|decide|omega)(hf:f y'=some (k',E'):=by exact rfl)(hq:Q->A K k' E' Λ:=by intro h;(repeat (first|refine A.s T ?_|refine A.r T T ?_|refine A.w T T ?_|refine A.p T ?_));exact h):A K k E Λ:=A.x h h0 hy hy' hf (hq n)
theorem j_{xs:List AV}{i:Int}{f:AV->Option (List It×aH)}{y y':AV}(h:ixS K.S K.gs K.n k E=some (xs,i,f))(hy:xs[i.toNat]? =some y)(hy':y=y')(n:A K k' E' Λ)(h0:0<=i:=by first|decide|omega)(hf:f y'=some (k',E'):=by exact rfl):A K k E Λ:=A.x h h0 hy hy' hf n
theorem T_{t:Nat}{p:Bool}{Q:Prop}(h:AF E k=some (t,p))(hp:p=true)(n:Q)(hy:Q->A K k ⟨(t, .v (.bool true))::E.us,E.cs⟩ Λ:=by intro h;(repeat (first|refine A.s T ?_|refine A.r T T ?_|refine A.w T T ?_|refine A.p T ?_));exact h):A K k E Λ:=A.gT h hp (hy n)
theorem F_{t:Nat}{p:Bool}{Q:Prop}(h:AF E k=some (t,p))(hp:p=false)(n:Q)(hy:Q->A K k ⟨(t, .v (.bool false))::E.us,E.cs⟩ Λ:=by intro h;(repeat (first|refine A.s T ?_|refine A.r T T ?_|refine A.w T T ?_|refine A.p T ?_));exact h):A K k E Λ:=A.gF h hp (hy n)
theorem e_(t:Nat){x x':AV}{Q:Prop}(hx:bJ E.us t=some x)(hs:x=x')(n:Q)(hy:Q->A K k ⟨(t,x')::E.us,E.cs⟩ Λ:=by intro h;(repeat (first|refine A.s T ?_|refine A.r T T ?_|refine A.w T T ?_|refine A.p T ?_));exact h):A K k E Λ:=A.ad t hx hs (hy n)
theorem R_{t:Nat}{x:AV}{R:Prop}(hq:R)(hk:atEnd k=true:=by exact rfl)(hr:K.fn.results= #[.tmp t]:=by exact rfl)(hx:bJ E.us t=some x:=by exact rfl)(hQ:R->K.Q x []:=by exact fun h=>⟨h,rfl⟩)(hrd:K.rd=none:=by exact rfl):A K k E Λ:=A.az hk hr hx (ae1 _) (hQ hq) hrd
theorem r_{t:Nat}{x:AV}(hk:atEnd k=true:=by exact rfl)(hr:K.fn.results= #[.tmp t]:=by exact rfl)(hx:bJ E.us t=some x:=by exact rfl)(hQ:K.Q x []:=by exact ⟨.refl,rfl⟩)(hrd:K.rd=none:=by exact rfl):A K k E Λ:=A.az hk hr hx (ae1 _) hQ hrd
theorem rK(h:A K k E Λ:=by (repeat (first|refine A.s T ?_|refine A.r T T ?_|refine A.w T T ?_|refine A.p T ?_));exact r_):A K k E Λ:=h
theorem lR{f:FuncId}{args':List AV}{y:AV}(hf:Pure K.P K.gs f args' y)(h:Pure K.P K.gs f args' y->A K k E Λ:=by intro h;refine c_ h ?_;exact r_):A K k E Λ:=h hf
theorem q_{t u:Nat}{x y:AV}{R:Prop}(hq:R)(hk:atEnd k=true:=by exact rfl)(hr:K.fn.results= #[.tmp t, .tmp u]:=by exact rfl)(hx:bJ E.us t=some x:=by exact rfl)(hy:bJ E.us u=some y:=by exact rfl)(hQ:R->K.Q (.tp [x,y]) []:=by exact fun h=>⟨h,rfl⟩)(hrd:K.rd=none:=by exact rfl):A K k E Λ:=A.jg hk hr hx hy (ae1 _) (hQ hq) hrd
theorem m_{rs:List ResultVar}{x y:AV}{xs:List AV}{R:Prop}(ra:d8 K.S E.us Λ rs (x::y::xs))(hq:R)(hk:atEnd k=true:=by exact rfl)(hr:K.fn.results.toList=rs:=by exact rfl)(hQ:R->K.Q (.tp (x::y::xs)) []:=by exact fun h=>⟨h,rfl⟩)(hrd:K.rd=none:=by exact rfl):A K k E Λ:=A.jz hk hr ra (ae1 _) (hQ hq) hrd
theorem u_{U:Ua}(n:A K k ⟨U,[]⟩ Λ)(hs:subU E.us U:=by (repeat (first|exact trivial|refine ⟨⟨_,rfl, .refl⟩,?_⟩))):A K k E Λ:=A.sub hs n
theorem l_{Λ':List aF}(n:A K k E Λ')(s:Λ'.Sublist Λ:=by (repeat (first|exact List.Sublist.refl _|apply List.Sublist.cons_cons|apply List.Sublist.cons))):A K k E Λ:=A.less s n
theorem k_{c:Operand}{x y:Code}{g:Bool}(ht:g=true->A K (.code x::k) E Λ)(hf:g=false->A K (.code y::k) E Λ)(hc:E.ev K.gs [] c=some (.v (.bool g)):=by exact rfl):A K (.code (.cond c x y)::k) E Λ:=A.cond hc ht hf
end
section
variable{K:AC}{all:Array Oper}{m:Nat}{k:List It}{pubs:Nat->List Nat}{Y:Ua}{π π':List Nat}{E E':aH}{Λ:List aF}{D D':Da}
theorem lS{i d:Nat}{f:FuncId}{as args':List AV}{y:AV}{Q:Prop}(hf:Pure K.P K.gs f args' y)(n:Q)(h:wcl K.gs K.n all Y π E=some (π',i,d,f,as,y):=by exact rfl)(hD:SB (pubs i) i D=some D':=by exact rfl)(hs:pZ D (pubs i) as args':=by refine .sub ?_;(repeat (first|exact Sb.refl|exact fO.refl|refine fO.cons ?_ ?_|exact Sb.nil|exact Sb.cw|refine Sb.own ?_|refine Sb.ag ?_|refine Sb.tp ?_|exact Sb.un T)))(hy:Q->WA K all m k pubs Y π' ⟨(d,y)::E.us,E.cs⟩ Λ D':=by intro h;(repeat (first|refine WA.s T ?_|refine WA.r T T ?_|refine WA.p T ?_));exact h):WA K all m k pubs Y π E Λ D:=WA.c h hD hf hs (hy n)
theorem rM{xs:List AV}{i:Int}{f:AV->Option (List Nat×aH)}{y y':AV}{Q:Prop}(h:wix K.S K.gs K.n all π E=some (xs,i,f))(hy:xs[i.toNat]? =some y)(hy':y=y')(n:Q)(h0:0<=i:=by first|decide|omega)(hf:f y'=some (π',E'):=by exact rfl)(hq:Q->WA K all m k pubs Y π' E' Λ D:=by intro h;(repeat (first|refine WA.s T ?_|refine WA.r T T ?_|refine WA.p T ?_));exact h):WA K all m k pubs Y π E Λ D:=WA.x h h0 hy hy' hf (hq n)
theorem uS(t:Nat){x x':AV}{Q:Prop}(hx:bJ E.us t=some x)(hs:x=x')(n:Q)(hy:Q->WA K all m k pubs Y π ⟨(t,x')::E.us,E.cs⟩ Λ D:=by intro h;(repeat (first|refine WA.s T ?_|refine WA.r T T ?_|refine WA.p T ?_));exact h):WA K all m k pubs Y π E Λ D:=WA.ad t hx hs (hy n)
theorem z_{Q:Prop}(n:Q)(hl:y6 D 0 (EZ all.toList)=[]:=by exact rfl)(hy:Q->A K (.ops all (all.toList.drop m)::k) E Λ:=by intro h;(repeat (first|refine A.s T ?_|refine A.r T T ?_|refine A.w T T ?_|refine A.p T ?_));exact h):WA K all m k pubs Y [] E Λ D:=WA.nil hl (hy n)
theorem d_{id:Nat}(m:Nat)(π:List Nat)(Yv:Ua){Q:Prop}(n:Q)(hm:K.P.follows .mixedOrders=true:=by kernel_rfl)(hok:lL all m π DK=true:=by kernel_rfl)(hy:Q->WA K all m k DK Yv π E Λ []:=by intro h;(repeat (first|refine WA.s T ?_|refine WA.r T T ?_|refine WA.p T ?_));exact h):A K (.code (.region id all true)::k) E Λ:=A.draw m π DK Yv hm hok (hy n)
end
theorem p_{P:Program}{S:TT}{gs:Ua}{f:FuncId}{fn:Func}{args:List AV}{x:AV}{c:Code}(ok:S.Ok P)(hfn:P.funcs[f]? =some fn)(n:Nat)(hv: ∀w0 h0 F (hgs:jP h0 gs),A ⟨P,S,w0,f,fn,n,ok,hfn,h0,F,gs,hgs,fun y Λ'=>Sb y x/\Λ'=[],[],none⟩ [.code c] ⟨t6 0 args,[]⟩ [])(hb:fn.body=some c:=by exact rfl)(hnm:(fn.name== "runtime.NumGoroutine")=false:=by exact rfl)(hn:fn.ntmps=n:=by exact rfl)(hl:Nat.ble (pG args) n=true:=by exact rfl):Pure P gs f args x:=Pure.of ok hfn hb hnm hn hl hv
theorem C_{P R:Prop}(hq:R)(h:R→P:=by intro h;exact A.gh (Λ':=[]) T T T T T (_root_.List.nil_sublist _) ⟨h,rfl⟩):P:=h hq
end Go.Tp
