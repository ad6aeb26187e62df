/-
  Texts Lp Lr. Conditions: as each theorem says.
-/
import Derived.Test.YtafcodjilcljeaaGreatV3
import Derived.Sort.Row
import Derived.Sort.Grow
import Derived.Deep.Draws
set_option linter.unusedVariables false
set_option linter.unusedSimpArgs false
set_option maxRecDepth 100000
set_option maxHeartbeats 4000000
namespace Go.Tp
open Go Go.RowKit
section
variable{K:AC}{k:List It}{E:AEnv}{Λ:List AEnt}
theorem A.indexPart{all:Array Oper}{o:Oper}{l:List Oper}{ks:List (Nat×Bool)}{t el:TypeId}{ti ei:TI}{x ix:Operand}{b off p m c' n c sz:Nat}{xs:List AV}{kk:IntKind}{i:Int}{E':AEnv}(j0:Nat)
 (hg:gyesA E all o.guard=some ks) (ho:o.op= .indexAddr t x ix) (hx:E.ev K.gs ks x=some (.v (.slice (some ⟨b,p,none⟩) m c'))) (hi:E.ev K.gs ks ix=some (.v (.int kk i))) (ht:K.S.get t=some ti) (hdd:ti.d= .slice el) (he:K.S.get el=some ei) [j:ARow Λ (.slice (some ⟨b,off,none⟩) n c) sz xs]
 (hs:Nat.beq ei.size sz=true) (hp:p=off+j0*sz) (h0:0≤i) (h1:i<m) (h2:j0+i.toNat<n) (hput:E.put K.n none o.dst (.ep (.slice (some ⟨b,off,none⟩) n c) sz (j0+i.toNat))=some E') (next:A K (.ops all l::k) E' Λ):A K (.ops all (o::l)::k) E Λ:=by
 refine ⟨fun h e L hl r q=>?_⟩
 have hs:=Nat.eq_of_beq_eq_true hs
 obtain ⟨v1,e1,f1⟩:=r.ev (K.hgs.mono hl) _ hx
 obtain ⟨v2,e2,f2⟩:=r.ev (K.hgs.mono hl) _ hi
 rw [Rp_v] at f1 f2;rw [f1.1] at e1;rw [f2.1] at e2
 obtain ⟨e',e4,e5⟩:=putA_eq (y:= .pointer (some ⟨b,p+i.toNat*sz,none⟩)) r hput (Rp_ep.2 ⟨b,off,n,c,rfl,h2,by rw [hp,Nat.add_mul,Nat.add_assoc]⟩)
 have hiv:idxv K.S t (.slice (some ⟨b,p,none⟩) m c') i=some (.pointer (some ⟨b,p+i.toNat*sz,none⟩),m):=by simp only [idxv,ht,hdd,he,hs]
 exact V.indexY (C:=K.cfg) (gyesA_eq r hg) ho e1 e2 hiv e4 h0 h1 (next.run h e' L hl e5 q)
theorem Fun.row1{P:Program}{gs:Ua}{f:FuncId}{args:List AV}{Q:AV→List AEnt→Prop}{Λ:List AEnt}{z:Value}{sz n:Nat}{l:List AV}(hl:l≠[])
 (hv: ∀b o c,l.length≤c→Fun P gs f (.ms (.slice (some ⟨b,o,none⟩) l.length c) sz l.length::args) (.row sz (.slice (some ⟨b,o,none⟩) l.length c) l::Λ) Q):Fun P gs f (.ms z sz n::args) (.row sz z l::Λ) Q:=by
 intro w0 h vs L F g r q
 have r0:=r
 have q0:=q
 rw [RpC_cons] at r
 obtain ⟨u,us,rfl,r1,r2⟩:=r
 rw [Rp_ms] at r1
 obtain ⟨rfl,a',cap',rfl⟩:=r1
 obtain ⟨M,L2,rfl,⟨p,⟨a,cap,zs,e1,e2,e3,e4,e5⟩,rfl⟩,q2⟩:=q
 injection e1 with e1 e1' e1''
 subst e1;subst e1';subst e1''
 rcases e5 with ⟨e5,_⟩|⟨b,o,sp,rfl,rfl,e6⟩
 ·exact (hl e5).elim
 ·exact hv b o cap' e2 w0 h _ _ F g r0 q0
theorem A.rowCut{a:Option Addr}{n c sz:Nat}{l l1 l2:List AV}(m:Nat){Λ':List AEnt} [i:ARow Λ (.slice a n c) sz l] [j:AOut Λ (.row sz (.slice a n c) l) Λ'](hl:l=l1++l2)(hm:l1.length=m)(h0:l1≠[])
 (next:A K k E (.row sz (.slice a m c) l1::Λ')):A K k E Λ:=by
 subst hl;subst hm
 refine A.perm j.perm (A.ents (fun h L q=>?_) next)
 obtain ⟨M,L2,rfl,⟨p,⟨a',cap,zs,g1,g2,g3,g4,g5⟩,rfl⟩,q4⟩:=q
 injection g1 with g1 g1' g1''
 subst g1;subst g1';subst g1''
 rw [List.length_append] at g2
 refine ⟨[p]++L2,⟨[p],L2,rfl,⟨p,⟨a,c,zs.take l1.length,rfl,by omega,?_,g4,?_⟩,rfl⟩,q4⟩, .refl _⟩
 ·have:=g3.takeN l1.length
  rwa [List.take_left' rfl] at this
 ·rcases g5 with ⟨g5,_⟩|⟨b,o,sp,g6,g7,g8⟩
  ·simp at g5;exact (h0 g5.1).elim
  ·refine .inr ⟨b,o,catL (zs.drop l1.length)++sp,g6,?_,?_⟩
   ·rw [g7,←List.append_assoc,←catL_app,List.take_append_drop]
   ·rw [List.length_append,(g3.dropN l1.length).clen,List.drop_left' rfl,g8,List.length_append,←Nat.add_mul]
    congr 1;omega
theorem catL_rep(v:Value): ∀m:Nat,(List.replicate m (cellsL v)).flatten=catL (List.replicate m v)
 |0=>rfl
 |m+1=>by rw [List.replicate_succ,List.flatten_cons,catL_rep v m];rfl
theorem RpC.rep{h:GH}{y:AV}{v:Value}(r:Rp h y v): ∀m:Nat,RpC h (List.replicate m y) (List.replicate m v)
 |0=>RpC_nil.2 rfl
 |m+1=>RpC_cons.2 ⟨_,_,rfl,r,RpC.rep r m⟩
theorem A.clearRow{all:Array Oper}{o:Oper}{l:List Oper}{ks:List (Nat×Bool)}{x:Operand}{t el:TypeId}{ti ei:TI}{b off p m c' n c sz:Nat}{xs xs':List AV}{y:AV}{Λ':List AEnt}(j0:Nat)
 (hg:gyesA E all o.guard=some ks) (ho:o.op= .call ⟨.builtin .clear, #[x], #[t]⟩) (hx:E.ev K.gs ks x=some (.v (.slice (some ⟨b,p,none⟩) m c'))) (ht:K.S.get t=some ti) (hdd:ti.d= .slice el) (he:K.S.get el=some ei)
 [i:ARow Λ (.slice (some ⟨b,off,none⟩) n c) sz xs] [u:ARowUp Λ (.slice (some ⟨b,off,none⟩) n c) sz xs xs' Λ'] (hs:Nat.beq ei.size sz=true) (hsz:Nat.blt 0 ei.size=true) (hp:p=off+j0*sz) (hm:j0+m=xs.length) (h0:0<m)
 (hz1:allOne ei.zero=true) (hy: ∀h,∃v,Rp h y v∧cellsL v=ei.zero) (hxs:xs'=xs.take j0++List.replicate m y) (hd:o.dst=none)
 (next:A K (.ops all l::k) E Λ'):A K (.ops all (o::l)::k) E Λ:=by
 subst hxs
 have hs:=Nat.eq_of_beq_eq_true hs
 subst hs
 refine ⟨fun h e L hl r q=>?_⟩
 obtain ⟨v1,e1,f1⟩:=r.ev (K.hgs.mono hl) _ hx
 rw [Rp_v] at f1;rw [f1.1] at e1
 obtain ⟨Λ1,Λ2,d1,d2⟩:=u.split
 subst d1;subst d2
 obtain ⟨L1,M,L2,rfl,q1,⟨pp,⟨a,cap',zs,g1,g2,g3,g4,g5⟩,rfl⟩,q3⟩:=q.mid
 injection g1 with g1 g1' g1''
 subst g1;subst g1';subst g1''
 rcases g5 with ⟨g5,_⟩|⟨b',o',sp,g6,rfl,g8⟩
 ·rw [g5] at hm;simp at hm;omega
 injection g6 with g6;injection g6 with g6 g7;subst g6;subst g7
 refine V.sure (C:=K.cfg) (gyesA_eq r hg) fun ac w g s hk=>?_
 obtain ⟨yv,y1,y2⟩:=hy h
 have ok:=TT.Ok.get K.ok ht
 have oke:=TT.Ok.get K.ok he
 have hund:K.P.underlying t=some (.slice el):=by rw [ok.und,hdd]
 obtain ⟨zv,hz,hzl⟩:=run_zeroCells (w:=w) oke
 have hsz':0<ei.size:=by simpa [Nat.blt_eq] using hsz
 have hzc:(Builtin.zeroCells zv.cells m).toList=(List.replicate m ei.zero).flatten:=by
  rw [show zv.cells=⟨ei.zero⟩ from by rw [←hzl]]
  rw [zeroCells_eq]
  intro e
  have:=oke.len
  rw [e] at this;simp at this;omega
 have hcat:(List.replicate m ei.zero).flatten=catL (List.replicate m yv):=by
  rw [←y2];exact catL_rep yv m
 have hzs:zs.length=xs.length:=g3.rp.len
 have c1:=(g3.takeN j0).clen
 rw [List.length_take,Nat.min_eq_left (by omega)] at c1
 have c2:=(g3.dropN j0).clen
 have hel:Els h ei.size (List.replicate m y) (List.replicate m yv):=by
  refine ⟨RpC.rep y1 m,fun z hz=>?_,fun z hz=>?_⟩
  ·rw [List.eq_of_mem_replicate hz,y2,oke.len]
  ·rw [List.eq_of_mem_replicate hz,y2];exact hz1
 have hone: ∀u,u∈(List.replicate m ei.zero).flatten→oneC u=true:=by
  intro u hu
  rw [hcat] at hu
  obtain ⟨z,h1,h2⟩:=List.mem_flatMap.1 hu
  exact allOne_mem (hel.one z h1) u h2
 have hr:updL (catL zs++sp) (j0*ei.size) (catL (List.replicate m yv))=some (catL (zs.take j0++List.replicate m yv)++sp):=by
  have hzd:zs=zs.take j0++zs.drop j0:=(List.take_append_drop _ _).symm
  conv=>lhs;rw [hzd]
  have h1:updL (catL (zs.drop j0)++sp) 0 (catL (List.replicate m yv))=some (catL (List.replicate m yv)++sp):=by
   refine updL_head _ _ _ ?_
   rw [c2,hel.clen,List.length_drop,List.length_replicate];congr 1;omega
  have h2:=updL_app (catL (List.replicate m yv)) (catL (zs.take j0)) _ _ h1
  rw [c1,Nat.add_zero] at h2
  rw [catL_app,List.append_assoc,h2,catL_app,List.append_assoc]
 rw [←hcat] at hr
 obtain ⟨w',r1,r2⟩:=run_storeCells (P:=K.P) (List.replicate m ei.zero).flatten b p 0 w (L1:=L1) (k:=j0*ei.size) (by simpa [AC.G] using s) (by omega) (updL_spec _ _ _ hr).1 hone hr
 have hnext:=next.run h e ((L1++([⟨b,off,catL (zs.take j0++List.replicate m yv)++sp,none⟩]++L2))) hl r (RpL.mid_of q1 ⟨_,⟨some ⟨b,off,none⟩,c,zs.take j0++List.replicate m yv,?_,?_,(g3.takeN j0).app hel,rfl, .inr ⟨b,off,sp,rfl,rfl,?_⟩⟩,rfl⟩ q3)
 ·have hex:(execOp ac.eval o).run K.cfg.P w= .ok (.value (.tuple #[])) w':=by
   unfold execOp
   rw [ho]
   obtain ⟨m',rfl⟩: ∃m',m=m'+1:=⟨m-1,by omega⟩
   have r1':Sem.run K.cfg.P (storeCells ⟨b,p,none⟩ (Builtin.zeroCells zv.cells (m'+1)).toList) w= .ok () w':=by rw [hzc];exact r1
   have hund':K.cfg.P.underlying t=some (.slice el):=hund
   have hz':Sem.run K.cfg.P (zeroValue el) w= .ok zv w:=hz
   simp [resolve,invoke,builtin,Builtin.clear_,g.ev hk e1,Go.run_underlying hund',hz',r1']
  unfold Oper.wp
  rw [hex]
  exact ⟨e,h,_,by rw [hd];exact g,(by simpa [AC.G] using r2),hnext⟩
 all_goals rw [List.length_append,List.length_take,List.length_replicate,Nat.min_eq_left (by omega),hm]
 ·exact g2
 ·exact g8
end
section
variable{K:AC}{all:Array Oper}{m:Nat}{k:List It}{pubs:Nat→List Nat}{Y:Ua}{π:List Nat}{E:AEnv}{Λ:List AEnt}{D:Da}
theorem WA.indexPart{i0:Nat}{o:Oper}{ks:List (Nat×Bool)}{t el:TypeId}{ti ei:TI}{x ix:Operand}{b off p q c' n c sz:Nat}{xs:List AV}{kk:IntKind}{i:Int}{E':AEnv}(j0:Nat)(hi0:nthL all.toList i0=some o)
 (hg:gyesA E all o.guard=some ks) (ho:o.op= .indexAddr t x ix) (hx:E.ev K.gs ks x=some (.v (.slice (some ⟨b,p,none⟩) q c'))) (hi:E.ev K.gs ks ix=some (.v (.int kk i))) (ht:K.S.get t=some ti) (hdd:ti.d= .slice el) (he:K.S.get el=some ei) [j:ARow Λ (.slice (some ⟨b,off,none⟩) n c) sz xs]
 (hs:Nat.beq ei.size sz=true) (hp:p=off+j0*sz) (h0:0≤i) (h1:i<q) (h2:j0+i.toNat<n) (hput:E.put K.n none o.dst (.ep (.slice (some ⟨b,off,none⟩) n c) sz (j0+i.toNat))=some E') (next:WA K all m k pubs Y π E' Λ D):WA K all m k pubs Y (i0::π) E Λ D:=by
 refine ⟨fun h e L Es hl r q' d=>?_⟩
 have hs:=Nat.eq_of_beq_eq_true hs
 obtain ⟨v1,e1,f1⟩:=r.ev (K.hgs.mono hl) _ hx
 obtain ⟨v2,e2,f2⟩:=r.ev (K.hgs.mono hl) _ hi
 rw [Rp_v] at f1 f2;rw [f1.1] at e1;rw [f2.1] at e2
 obtain ⟨e',e4,e5⟩:=putA_eq (y:= .pointer (some ⟨b,p+i.toNat*sz,none⟩)) r hput (Rp_ep.2 ⟨b,off,n,c,rfl,h2,by rw [hp,Nat.add_mul,Nat.add_assoc]⟩)
 have hiv:idxv K.S t (.slice (some ⟨b,p,none⟩) q c') i=some (.pointer (some ⟨b,p+i.toNat*sz,none⟩),q):=by simp only [idxv,ht,hdd,he,hs]
 exact WE.valueY (G:=drawRg K.cfg all (L++K.G) pubs (YA Y) m k) hi0 (kd_index ho) (gyesA_eq r hg) (fun a w E0 g s hk=>by
  have:=run_idxv (P:=K.cfg.P) (w:=w) (kk:=kk) K.ok hiv h0 h1
  unfold execOp
  rw [ho]
  simp only [g.ev hk e1,g.ev hk e2,Sem.run_bind,this,Result.andThen_ok,Sem.run_pure]) e4 (next.run h e' L Es hl e5 q' d)
end
end Go.Tp
namespace Go.Tp
open Go Go.RowKit
theorem St.self{w0 w:World}{h:GH}{L:List Ent}(s:St w0 h L w):St w h [] w:=
 ⟨Below.refl _ _,s.imm,s.imm1,fun p hp=>(by cases hp),List.Pairwise.nil,fun _ _ _ _=>rfl,Nat.le_refl _⟩
theorem putRow_heap_other{α:Type} [Inhabited α](enc:α→Value)(w:World)(b lo:Nat)(d:Array α){j:Nat}(hj:j≠b):(Sort.putRow enc w b lo d).heap[j]? =w.heap[j]? :=by
 unfold Sort.putRow Sort.mapBlock
 simp only [Array.getElem?_modify]
 rw [if_neg (fun e=>hj e.symm)]
theorem St.sorted{α:Type} [Inhabited α]{w0 w:World}{h:GH}{L:List Ent}{b lo:Nat}{cs:List Value}{enc:α→Value}{d d':Array α}{n:Nat}{os:Array Obj}
 (s:St w0 h (⟨b,lo,cs,none⟩::L) w) (hd:d.size≤cs.length) (hp:0<d.size) (hH:Sort.Holds enc w b lo d) (hs:d'.size=d.size) (h1: ∀j,j<d.size→oneC (enc d'[j]!)=true):
 St w0 h (⟨b,lo,d'.toList.map enc++cs.drop d.size,none⟩::L) (Sort.grow (Sort.putRow enc (Sort.ahead w n) b lo d') os):=by
 have k:=s.own _ (List.mem_cons_self ..)
 have hdis:=List.pairwise_cons.1 s.dis
 have hnew:=k.new 0 (by simp only;omega)
 simp only at hnew
 have hsz:(Sort.putRow enc (Sort.ahead w n) b lo d').heap.size=w.heap.size:=by rw [Sort.size_putRow];rfl
 have hlen:(d'.toList.map enc++cs.drop d.size).length=cs.length:=by simp [hs];omega
 have hcell: ∀a:Addr,(a.block≠b∨a.off<lo∨lo+d.size≤a.off)→a.block<w.heap.size→(Sort.grow (Sort.putRow enc (Sort.ahead w n) b lo d') os).cell? a=w.cell? a:=fun a ha hl=>by
  rw [Sort.cell?_grow _ _ _ (by rw [hsz];exact hl),Sort.cell?_putRow_other _ _ _ _ _ _ (by rw [hs];exact ha),Sort.cell?_ahead]
 have hfr: ∀a:Addr,a.block<w.heap.size→(Sort.grow (Sort.putRow enc (Sort.ahead w n) b lo d') os).frozen? a=w.frozen? a:=fun a hl=>by
  rw [Sort.frozen?_grow _ _ _ (by rw [hsz];exact hl),Sort.frozen?_putRow,Sort.frozen?_ahead]
 have hb:b<w.heap.size:=lt_of_cell (hH 0 hp).1
 refine ⟨⟨s.below.os,s.below.tape,s.below.output,?_,fun j hj=>?_⟩,fun b' o v hv=>?_,s.imm1,fun p hp'=>?_,?_,fun b' o v hv=>?_,?_⟩
 ·rw [Sort.size_grow,hsz];exact Nat.le_trans s.below.size (Nat.le_add_right _ _)
 ·have hjw:j<w.heap.size:=Nat.lt_of_lt_of_le hj s.below.size
  rw [Sort.heap_grow_old _ _ (by rw [hsz];exact hjw),putRow_heap_other _ _ _ _ _ (by omega)]
  exact s.below.block j hj
 ·have hc:=s.imm _ _ _ hv
  rw [hcell _ ?_ (lt_of_cell hc)]
  ·exact hc
  ·by_cases e1:b'=b
   ·refine .inr ?_
    by_cases e2:o<lo
    ·exact .inl e2
    ·refine .inr ?_
     simp only
     rcases Nat.lt_or_ge o (lo+d.size) with h2|h2
     ·have:=k.fresh (o-lo) (by simp only;omega)
      simp only at this
      rw [show lo+(o-lo)=o by omega,←e1,hv] at this;cases this
     ·exact h2
   ·exact .inl e1
 ·rcases List.mem_cons.1 hp' with rfl|hp'
  ·refine ⟨fun v hv=>?_,fun i v hv=>?_,fun i hi=>hnew,fun i hi=>?_,fun i hi=>k.fresh i (by rw [←hlen];exact hi),fun o ho=>by cases ho⟩
   ·rcases List.mem_append.1 hv with hv|hv
    ·obtain ⟨x,hx,rfl⟩:=List.mem_map.1 hv
     obtain ⟨j,hj,rfl⟩:=List.mem_iff_getElem.1 hx
     have hj':j<d'.size:=by simpa using hj
     have:=h1 j (by omega)
     rw [getElem!_pos d' j hj'] at this
     simpa using this
    ·exact k.one v (List.mem_of_mem_drop hv)
   ·simp only at hv⊢
    rcases Nat.lt_or_ge i d.size with hi|hi
    ·rw [Sort.cell?_grow _ _ _ (by rw [hsz];exact hb),Sort.cell?_putRow enc (Sort.ahead w n) b lo d d' hH hs i (by omega)]
     rw [List.getElem?_append_left (by simp;omega)] at hv
     have hj':i<d'.size:=by omega
     rw [getElem!_pos d' i hj']
     rw [List.getElem?_eq_getElem (by simpa using hj')] at hv
     simpa using hv
    ·rw [hcell _ (.inr (.inr (by simp only;omega))) hb]
     rw [List.getElem?_append_right (by simp;omega)] at hv
     refine k.cell i v ?_
     simp only [List.getElem?_drop,List.length_map,Array.length_toList] at hv⊢
     rwa [show d.size+(i-d'.size)=i by omega] at hv
   ·rw [hfr _ hb];exact k.warm i (by rw [←hlen];exact hi)
  ·have q:=s.own p (List.mem_cons_of_mem _ hp')
   have ha:=hdis.1 p hp'
   refine ⟨q.one,fun i v hv=>?_,q.new,fun i hi=>?_,q.fresh,fun o ho=>?_⟩
   ·have hc:=q.cell i v hv
    have hi:i<p.cs.length:=by
     rcases Nat.lt_or_ge i p.cs.length with h|h
     ·exact h
     ·rw [List.getElem?_eq_none h] at hv;cases hv
    rw [hcell _ ?_ (lt_of_cell hc)]
    ·exact hc
    ·by_cases e1:p.b=b
     ·refine .inr ?_
      by_cases e2:p.lo+i<lo
      ·exact .inl e2
      ·refine .inr ?_
       simp only
       rcases Nat.lt_or_ge (p.lo+i) (lo+d.size) with h2|h2
       ·exact (ha.1 (p.lo+i-lo) i (by simp only;omega) hi e1.symm (by simp only;omega)).elim
       ·exact h2
     ·exact .inl e1
   ·obtain ⟨v,hv⟩:=getElem?_some_of_lt hi
    rw [hfr _ (lt_of_cell (q.cell i v hv))];exact q.warm i hi
   ·obtain ⟨h2,h3,h4⟩:=q.obj o ho
    refine ⟨h2,?_,h4⟩
    have hlt:p.b<w.heap.size:=(Array.getElem?_eq_some_iff.1 h3).1
    have hne:p.b≠b:=by
     intro e
     obtain ⟨c,t,fr,hc,_⟩:=Sort.cells_of_cell? (hH 0 hp).1
     rw [←e,h3] at hc
     injection hc with hc
     exact h4 _ _ _ hc
    rw [Sort.heap_grow_old _ _ (by rw [hsz];exact hlt),putRow_heap_other _ _ _ _ _ hne]
    exact h3
 ·refine List.pairwise_cons.2 ⟨fun q hq=>⟨fun i j hi hj=>(hdis.1 q hq).1 i j (by simp only [hlen] at hi;exact hi) hj,(hdis.1 q hq).2⟩,hdis.2⟩
 ·rw [hfr _ (lt_of_cell (s.imm _ _ _ hv))];exact s.frz _ _ _ hv
 ·show w0.drawn≤w.drawn+n
  exact Nat.le_trans s.drn (Nat.le_add_right _ _)
theorem St.grown{h:GH}{L:List Ent}{W w':World}(s:St W h L w'): ∃q os,w'=Sort.grow (W.drewN q) os:=by
 refine ⟨w'.drawn-W.drawn,w'.heap.extract W.heap.size w'.heap.size,?_⟩
 obtain ⟨hp,tp,dr,os,ou⟩:=w'
 have b:=s.below
 obtain ⟨b1,b2,b3,b4,b5⟩:=b
 have hd:=s.drn
 simp only at b1 b2 b3 b4 b5 hd⊢
 unfold Sort.grow World.drewN
 simp only [World.mk.injEq]
 refine ⟨?_,b2,by omega,b1,b3⟩
 apply Array.ext_getElem?
 intro i
 rcases Nat.lt_or_ge i W.heap.size with hi|hi
 ·rw [b5 i hi,Array.getElem?_append_left hi]
 ·rw [Array.getElem?_append_right hi,Array.getElem?_extract]
  split
  ·rw [show W.heap.size+(i-W.heap.size)=i by omega]
  ·rename_i hn
   rw [Array.getElem?_eq_none (by omega)]
theorem pure_grown{P:Program}{gs:Ua}{f:FuncId}{args:List AV}{c:Int}{vs:List Value}{W:World}{h:GH}(hf:Pure P gs f args (.v (.int .i64 c)))(s:St W h [] W)(g:GsOk h gs)(r:RpC h args vs):
 Calls P f ⟨vs⟩ W fun e w'=>e= .returned (.int .i64 c)∧ ∃q os,w'=Sort.grow (W.drewN q) os:=by
 refine ((hf W h vs [] [] g r rfl).2 W s).mono fun e w' ⟨v,h',L',e1,⟨x,Λ',L1,⟨q1,q2⟩,q3,_⟩,e3⟩=>?_
 subst q1
 rw [Rp_v] at q3
 exact ⟨by rw [e1,q3.1],e3.grown⟩
end Go.Tp
namespace Go.Tp
open Go Go.RowKit
def pickL{α:Type}(l:List α):List Nat→Option (List α)
 | []=>some []
 |i::π=>match nthL l i with
  |some x=>match pickL l π with
   |some r=>some (x::r)
   |none=>none
  |none=>none
theorem pickL_eq{α:Type}{l:List α}: ∀{π:List Nat} {r:List α},pickL l π=some r→r=π.filterMap fun i=>l[i]?
 | [],r,h=>by injection h with h;subst h;rfl
 |i::π,r,h=>by
  simp only [pickL] at h
  split at h
  ·rename_i x hx
   split at h
   ·rename_i r' hr
    injection h with h;subst h
    rw [nthL_eq] at hx
    rw [List.filterMap_cons,hx,pickL_eq hr]
   ·cases h
  ·cases h
theorem range_pick{α:Type}(l:List α):(List.range l.length).filterMap (fun i=>l[i]?)=l:=by
 induction l with
 |nil=>rfl
 |cons x l ih=>
  rw [List.length_cons,List.range_succ_eq_map,List.filterMap_cons]
  simp only [List.getElem?_cons_zero,List.filterMap_map]
  congr 1
theorem perm_pick{α:Type}(π:List Nat){l r:List α}(h:pickL l π=some r)(h1:nodupB π=true)(h2:(π.all fun i=>Nat.blt i l.length)=true)(h3:((List.range l.length).all fun i=>memB i π)=true):l.Perm r:=by
 rw [pickL_eq h]
 have:(List.range l.length).Perm π:=by
  refine (List.perm_ext_iff_of_nodup List.nodup_range (nodupB_spec h1)).2 fun a=>⟨fun ha=>?_,fun ha=>?_⟩
  ·exact memB_iff.1 ((List.all_eq_true.1 h3) a ha)
  ·have:=(List.all_eq_true.1 h2) a ha
   rw [Nat.blt_eq] at this
   exact List.mem_range.2 this
 have:=this.filterMap fun i=>l[i]?
 rwa [range_pick] at this
def Slots.ofL:List (Nat×Ent)→Slots
 | []=>Slots.none
 |(j,x)::r=>(Slots.ofL r).set j (some x)
theorem Slots.ofL_none: ∀{l:List (Nat×Ent)} {j:Nat},j∉l.map (·.1)→Slots.ofL l j=Option.none
 | [],_,_=>rfl
 |(i,x)::r,j,h=>by
  simp only [List.map_cons,List.mem_cons,not_or] at h
  rw [Slots.ofL,Slots.set_ne _ h.1]
  exact Slots.ofL_none h.2
theorem Slots.ofL_perm{n:Nat}: ∀{l:List (Nat×Ent)},(l.map (·.1)).Nodup→(∀j,j∈l.map (·.1)→j<n)→(Slots.list n (Slots.ofL l)).Perm (l.map (·.2))
 | [],_,_=>by rw [show Slots.ofL []=Slots.none from rfl,Slots.list_none];exact .refl _
 |(j,x)::r,h,hn=>by
  simp only [List.map_cons,List.nodup_cons] at h
  have h1:=Slots.list_put (hn j (List.mem_cons_self ..)) (Slots.ofL r) x
  have h2:(Slots.ofL r).set j Option.none=Slots.ofL r:=by rw [←Slots.ofL_none h.1];exact Slots.set_same _ _
  rw [h2] at h1
  exact h1.trans ((Slots.ofL_perm h.2 fun i hi=>hn i (List.mem_cons_of_mem _ hi)).cons x)
section
variable{C:Cfg}{k:List It}{e:Env}{h:GH}{L:List Ent}
theorem V.drawL{all:Array Oper}{id:Nat}(l:List (Nat×Ent))(m:Nat)(π:List Nat)(pubs:Nat→List Nat)(Y:Nat→List Value→Value→GH→Prop)(hn:(l.map (·.1)).Nodup)(hj: ∀j,j∈l.map (·.1)→j<all.size)(hm:C.P.follows .mixedOrders=true)(hok:drawOkN all m π pubs=true)
 (hv:WE (drawRg C all L pubs Y m k) π e h (Slots.ofL l)):V C (.code (.region id all true)::k) e h (l.map (·.2)++L):=by
 intro ho a w b cs g s hf hk
 have hok1:=drawOkN_spec hok
 have hnd:=hok1.2
 have ok:DrawOk (drawRg C all L pubs Y m k) m π:=drawOk_spec hok1.1
 have hW:=hv a g
 have hp:=Slots.ofL_perm (n:=all.size) hn hj
 have s':(drawRg C all L pubs Y m k).live h (Slots.ofL l) {w with drawn:=w.drawn+1}:=by
  show St C.w0 h (Slots.list all.size (Slots.ofL l)++L) _
  exact s.drew.perm (hp.append_right L).symm
 have hd:Done all m π (Array.replicate all.size false):=by
  refine ⟨by simp,fun i hi=>⟨fun _=>?_,fun _=>by simp [hi]⟩,fun i o ho hi=>?_⟩
  rotate_left
  ·have:(Array.replicate all.size false).getD i false=false:=by
    simp only [Array.getD_eq_getD_getElem?,Array.getElem?_replicate];split<;>rfl
   have hi':(Array.replicate all.size false).getD i false=true:=hi
   rw [this] at hi';cases hi'
  by_cases him:i<m
  ·left;exact ok.full i him
  ·right;omega
 have hr:=Rg.run (drawRg C all L pubs Y m k) ok (itsOk_tail ho) (cs:=cs) hnd hf hk (fun a h E x=>x) m π ok.len (List.Sublist.refl _) (Array.replicate all.size false) (w.tape w.drawn (.order b.fn id)) a h (Slots.ofL l) _ hd hW s'
 obtain ⟨v,w'',fr,h'',L'',q1,q2,q3,q4,q5⟩:=hr
 refine ⟨v,w'',fr,h'',L'',q1,q2,?_,q4,q5⟩
 have hstep:=stepR_region_draw (P:=C.P) (b:=b) (a:=a) (k:=items k) (cs:=cs) (w:=w) (ops:=all) (id:=id)
 have hsch:Region.schedule (C.P.follows .mixedOrders) all (w.tape w.drawn (.order b.fn id))=Region.linearise.go .any all (m+(all.size-m)) (w.tape w.drawn (.order b.fn id)) (Array.replicate all.size false) []:=by
  rw [show m+(all.size-m)=all.size by have:m≤all.size:=ok.le;omega]
  simp only [Region.schedule,hm,Bool.true_or,if_true]
  rfl
 rw [hsch] at hstep
 exact .head hstep q3
end
def oneEnt:AEnt→Bool
 | .box _ _=>true
 | .row _ _ _=>true
 | .tail _ _=>true
 |_=>false
theorem oneEnt_rp{h:GH}{x:AEnt}{M:List Ent}(ho:oneEnt x=true)(r:RpEnt h x M): ∃p,M=[p]:=by
 cases x with
 |box b y=>obtain ⟨z,_,e⟩:=r;exact ⟨_,e⟩
 |row sz z l=>obtain ⟨p,_,e⟩:=r;exact ⟨_,e⟩
 |tail sz z=>obtain ⟨p,_,e⟩:=r;exact ⟨_,e⟩
 |_=>cases ho
theorem RpL.ofD{h:GH}: ∀{D:Da} {L:List Ent},(D.all fun x=>oneEnt x.2)=true→RpL h (D.map (·.2)) L→ ∃l:List (Nat×Ent),l.map (·.1)=D.map (·.1)∧L=l.map (·.2)∧RpD h D (Slots.ofL l)
 | [],L,_,r=>by
   have r:L=[]:=r
   exact ⟨[],rfl,r,fun i=>rfl⟩
 |(j,x)::D,L,ho,r=>by
  simp only [List.all_cons,Bool.and_eq_true] at ho
  obtain ⟨M,L2,rfl,r1,r2⟩:=r
  obtain ⟨p,rfl⟩:=oneEnt_rp ho.1 r1
  obtain ⟨l,e1,e2,e3⟩:=RpL.ofD ho.2 r2
  exact ⟨(j,p)::l,by simp [e1],by simp [e2],e3.set r1⟩
section
variable{K:AC}{all:Array Oper}{k:List It}{E:AEnv}{Λ:List AEnt}
theorem A.drawL{id:Nat}(D:Da)(m:Nat)(π:List Nat)(pubs:Nat→List Nat)(Y:Ua){Λ':List AEnt}(hp:Λ.Perm (D.map (·.2)++Λ'))(ho:(D.all fun x=>oneEnt x.2)=true)(hn:nodupB (D.map (·.1))=true)(hj:((D.map (·.1)).all fun j=>Nat.blt j (lenO all.toList))=true)
 (hm:K.P.follows .mixedOrders=true) (hok:drawOkN all m π pubs=true) (hv:WA K all m k pubs Y π E Λ' D):A K (.code (.region id all true)::k) E Λ:=
 ⟨fun h e L hl r q=>by
   obtain ⟨L',q1,q2⟩:=q.perm hp
   obtain ⟨M,L2,rfl,q3,q4⟩:=q1.split
   obtain ⟨l,e1,rfl,e3⟩:=RpL.ofD ho q3
   refine V.perm (q2.append_right _) ?_
   rw [List.append_assoc]
   refine V.drawL (C:=K.cfg) l m π pubs (YA Y) (by rw [e1];exact nodupB_spec hn) (fun j hj'=>?_) hm hok (hv.run h e L2 _ hl r q4 e3)
   rw [e1] at hj'
   have:=(List.all_eq_true.1 hj) j hj'
   rw [lenO_eq] at this
   simpa [Nat.blt_eq] using this⟩
end
section
variable{K:AC}{all:Array Oper}{m:Nat}{k:List It}{pubs:Nat→List Nat}{Y:Ua}{π:List Nat}{E:AEnv}{Λ:List AEnt}{D:Da}
theorem WA.loadD{i:Nat}{o:Oper}{ks:List (Nat×Bool)}{t:TypeId}{p:Operand}{b off j:Nat}{ti:TI}{x y:AV}{E':AEnv}
 (hi:nthL all.toList i=some o) (hg:gyesA E all o.guard=some ks) (ho:o.op= .load t p) (hp:E.ev K.gs ks p=some (.v (.pointer (some ⟨b,off,none⟩)))) (ht:K.S.get t=some ti) (hj:pubs i=[j]) (hD:lookD D j=some (.box b x))
 (hv:ldA ti x off=some y) (hput:E.put K.n none o.dst y=some E') (next:WA K all m k pubs Y π E' Λ D):WA K all m k pubs Y (i::π) E Λ D:=by
 refine ⟨fun h e L Es hl r q d=>?_⟩
 obtain ⟨v1,e1,f1⟩:=r.ev (K.hgs.mono hl) _ hp
 rw [Rp_v] at f1;rw [f1.1] at e1
 have hEi:=d j
 rw [hD] at hEi
 obtain ⟨pe,hp1,u,g2,g3⟩:=hEi
 injection g3 with g3;subst g3
 obtain ⟨v,e2,e3⟩:=ldA_rp (b:=b) g2 hv
 obtain ⟨e',e4,e5⟩:=putA_eq r hput e3
 exact WE.loadS (G:=drawRg K.cfg all (L++K.G) pubs (YA Y) m k) hi (gyesA_eq r hg) ho e1 ht hj hp1 rfl e2 e4 (next.run h e' L Es hl e5 q d)
theorem WA.callR{ι:Type}{X:ι→AV}{sz:Nat}{z:Value}{l:List AV}{Z:ι→Value}{LL:ι→List AV}{Pr:ι→Prop}{i:Nat}{o:Oper}{ks:List (Nat×Bool)}{x:Operand}{args:Array Operand}{ts:Array TypeId}{f:FuncId}{fst cap vs args':List AV}{d:Nat}(hi:nthL all.toList i=some o)
 (hg:gyesA E all o.guard=some ks) (ho:o.op= .call ⟨.value x,args,ts⟩) (hx:E.ev K.gs ks x=some (.fn f fst cap)) (ha:evsA (E.ev K.gs ks) args.toList=some vs)
 (hd:o.dst=some d) (hc:okPutA K.n E d=true) (hii:memB i (pubs i)=true) (hE:lookD D i=some (.row sz z l)) (hf:FunE K.P K.gs f args' [.row sz z l] X (fun j=>[.row sz (Z j) (LL j)]) Pr) (hs:SbL (fst++(vs++cap)) args')
 (next: ∀j,Pr j→WA K all m k pubs Y π ⟨(d,X j)::E.us,E.cs⟩ Λ ((i, .row sz (Z j) (LL j))::D)) (hfr:fr2 (pubs i)=false:=by rfl):WA K all m k pubs Y (i::π) E Λ D:=by
 refine ⟨fun h e L Es hl r q dd=>?_⟩
 obtain ⟨v1,e1,f1⟩:=r.ev (K.hgs.mono hl) _ hx
 rw [Rp_fn] at f1
 obtain ⟨u,w,rfl,f2,f3⟩:=f1
 obtain ⟨us,e2,f4⟩:=evsA_rp (σ:=e.ev ks) (fun z x hz=>r.ev (K.hgs.mono hl) ks hz) ha
 have hEi:=dd i
 rw [hE] at hEi
 obtain ⟨p0,hp0,hrow⟩:=hEi
 refine WE.callG (G:=drawRg K.cfg all (L++K.G) pubs (YA Y) m k) (Q:=fun v h' x'=> ∃j p,Pr j∧x'=some p∧RpEnt h' (.row sz (Z j) (LL j)) [p]∧Rp h' (X j) v) hi (gyesA_eq r hg) ho e1 e2 hd (okPutA_eq r hc) hii (fun L'=>?_) (fun v h' x' y1 y3=>?_) (fun e=>by rw [show fr2 (pubs i)=false from hfr] at e;cases e)
 ·rw [hp0]
  have hargs:=hs.rp (f2.append (f4.append f3))
  refine (hf K.w0 _ _ [p0] _ (K.hgs.mono hl) hargs ⟨[p0],[],rfl,hrow,rfl⟩).mono ?_
  rintro v h' L'' ⟨z',Λ',L1,⟨j,hj1,rfl,hj2⟩,g2,g3,g4,rfl⟩
  obtain ⟨M,M2,rfl,hM,hM2⟩:=g4
  have hM2:M2=[]:=hM2
  subst hM2
  obtain ⟨p,hp,rfl⟩:=hM
  exact ⟨some p,by simp,g3,j,p,hj2,rfl,⟨p,hp,rfl⟩,hj1.rp g2⟩
 ·obtain ⟨j,p,hj,rfl,hp,hv⟩:=y3
  exact (next j hj).run h' ⟨(d,v)::e.us,e.cs⟩ L _ (GH.le_trans hl y1) ⟨(r.1.mono y1).put hv,r.2.mono y1⟩ (q.mono y1) ((dd.mono y1).set hp)
theorem WA.appendR{i:Nat}{o:Oper}{ks:List (Nat×Bool)}{y1 y2:Operand}{t el:TypeId}{ti ei:TI}{x2:AV}{l1 l2:List AV}{z:Value}{sz sz' n d:Nat}{ps:List Nat}{D':Da}(hi:nthL all.toList i=some o)
 (hg:gyesA E all o.guard=some ks) (ho:o.op= .call ⟨.builtin .append, #[y1,y2], #[t,t]⟩) (h1:E.ev K.gs ks y1=some (.ms z sz' n)) (h2:E.ev K.gs ks y2=some x2)
 (ht:K.S.get t=some ti) (hdd:ti.d= .slice el) (he:K.S.get el=some ei) (hD:lookD D i=some (.row sz z l1)) (hp:pubs i=i::ps) (hpi:memB i ps=false) (hDD:dropD ps D=D') (hse:Nat.beq ei.size sz=true)
 (hsz:Nat.blt 0 ei.size=true) (hz1:allOne ei.zero=true) (hd:o.dst=some d) (hc:okPutA K.n E d=true) (hnd:nodupB ps=true) (hlt:((i::ps).all fun j=>Nat.blt j (lenO all.toList))=true) (hel:allElt ei l2=true)
 (hs:SbP D ps x2 (.sl ei.size l2 none)) (hb:(l1.length+l2.length)*ei.size≤281474976710656) (hby:(l1.length+l2.length)*ei.size*ei.bytes≤140737488355328)
 (next: ∀z',WA K all m k pubs Y π ⟨(d, .ms z' sz (l1.length+l2.length))::E.us,E.cs⟩ Λ ((i, .row sz z' (l1++l2))::D')):WA K all m k pubs Y (i::π) E Λ D:=by
 subst hDD
 have hse:=Nat.eq_of_beq_eq_true hse
 subst hse
 refine ⟨fun h e L Es hl r q dd=>?_⟩
 obtain ⟨v1,e1,f1⟩:=r.ev (K.hgs.mono hl) _ h1
 obtain ⟨v2,e2,f2⟩:=r.ev (K.hgs.mono hl) _ h2
 rw [Rp_ms] at f1
 obtain ⟨rfl,_⟩:=f1
 have hEi:=dd i
 rw [hD] at hEi
 obtain ⟨p0,hp1,p,⟨a,cap,zs,rfl,g2,g3,g4,g5⟩,hpe⟩:=hEi
 injection hpe with hpe;subst hpe
 have hsz':0<ei.size:=by simpa [Nat.blt_eq] using hsz
 have hni:i∉ps:=fun hm=>by rw [memB_iff.2 hm] at hpi;cases hpi
 have hlt': ∀j,j∈i::ps→j<all.size:=fun j hj=>by
  have:=(List.all_eq_true.1 hlt) j hj
  rw [lenO_eq] at this
  simpa [Nat.blt_eq] using this
 have hkap:kd o= .ap:=by unfold kd;rw [ho]
 refine WE.apAny (G:=drawRg K.cfg all (L++K.G) pubs (YA Y) m k) hi (gyesA_eq r hg) hkap hd (okPutA_eq r hc) (by show memB i (pubs i)=true;rw [hp];simp [memB]) fun ac w g s hk=>?_
 obtain ⟨s1,pk⟩:=live_pub (C:=K.cfg) (n:=all.size) ps Es h (nodupB_spec hnd) (fun j hj=>hlt' j (List.mem_cons_of_mem _ hj)) s
 have f2':=SbP.rp dd pk.1 pk.2 hs f2
 obtain ⟨zs2,b1,b2,b3⟩:=sl_Sl f2'
 have hEi':pubE ps Es i=some p0:=by rw [pubE_at,if_neg hni,hp1]
 have hl':=Slots.list_take (hlt' i (List.mem_cons_self ..)) hEi'
 have s2:St K.w0 (pubH Es ps h) (p0::(Slots.list all.size ((pubE ps Es).set i none)++(L++K.G))) w:=St.perm s1 (hl'.append_right _)
 have hlen1:(catL zs).length=l1.length*ei.size:=by rw [cat_len g3.sz,g3.rp.len]
 have hlen2:(catL zs2).length=l2.length*ei.size:=by rw [cat_len b2,b1.len]
 have how:Ow ei.size a l1.length cap (catL zs) p0:=⟨g4,g2,hlen1,g5.elim (fun ⟨_,k2,k3,k4⟩=> .inl ⟨k2,k3,k4⟩) .inr⟩
 obtain ⟨w',x',a',n',cap',r1,r2,r3⟩:=run_appendOwn (ty:=o.type) K.ok ht hdd he hsz' hz1 (allOne_mem g3.oneAll) s2 how b3 (by rw [hlen1,hlen2,←Nat.add_mul];exact hb) (by rw [hlen1,hlen2,←Nat.add_mul];exact hby)
 have hn':n'=l1.length+l2.length:=by
  have:=r3.2.2.1
  rw [List.length_append,hlen1,hlen2,←Nat.add_mul] at this
  exact (Nat.eq_of_mul_eq_mul_right hsz' this).symm
 subst hn'
 have g3':=g3.mono pk.1
 have hrow:RpRow (pubH Es ps h) ei.size (.slice a' (l1.length+l2.length) cap') (l1++l2) x':=by
  refine ⟨a',cap',zs++zs2,by rw [List.length_append],by rw [List.length_append];exact r3.2.1,⟨g3'.rp.append b1,fun z hz=>?_,fun z hz=>?_⟩,r3.1,?_⟩
  ·rcases List.mem_append.1 hz with hz|hz
   ·exact g3.sz z hz
   ·exact b2 z hz
  ·rcases List.mem_append.1 hz with hz|hz
   ·exact g3.one z hz
   ·exact allElt_one hel _ zs2 b1 z hz
  ·have hcat:catL (zs++zs2)=catL zs++catL zs2:=by simp [catL]
   rcases r3.2.2.2 with ⟨k2,k3,k4⟩|k5
   ·refine .inl ⟨?_,k2,k3,k4⟩
    have:=r3.2.1
    exact List.length_eq_zero_iff.1 (by rw [List.length_append];omega)
   ·rw [hcat,List.length_append];exact .inr k5
 refine ⟨_,w',pubH Es ps h,(pubE ps Es).set i (some x'),?_,?_,pk.1,(next (.slice a' (l1.length+l2.length) cap')).run _ ⟨_::e.us,e.cs⟩ L _ (GH.le_trans hl pk.1) ⟨(r.1.mono pk.1).put (Rp_ms.2 ⟨rfl,_,_,rfl⟩),r.2.mono pk.1⟩ (q.mono pk.1) (((dd.mono pk.1).pub _).set ⟨x',hrow,rfl⟩)⟩
 ·unfold execOp
  rw [ho]
  have r1':Sem.run K.cfg.P (Builtin.append_ #[t,t] o.type #[Value.slice a l1.length cap,v2]) w=Result.ok (Value.slice a' (l1.length+l2.length) cap') w':=r1
  simp [resolve,invoke,builtin,g.ev hk e1,g.ev hk e2,r1']
 ·have hq:=Slots.list_put (hlt' i (List.mem_cons_self ..)) (pubE ps Es) x'
  exact St.perm r2 (hq.append_right _).symm
end
end Go.Tp
namespace Go.Tp
open Go Go.RowKit
section
variable{K:AC}{all:Array Oper}{m:Nat}{k:List It}{pubs:Nat→List Nat}{Y:Ua}{π:List Nat}{E:AEnv}{Λ:List AEnt}{D:Da}
theorem WA.appendM(j:Nat){i:Nat}{o:Oper}{ks:List (Nat×Bool)}{y1 y2:Operand}{t el:TypeId}{ti ei:TI}{x2:AV}{l1 l2:List AV}{z:Value}{sz sz' n d:Nat}{ps:List Nat}{D':Da}(hi:nthL all.toList i=some o)
 (hg:gyesA E all o.guard=some ks) (ho:o.op= .call ⟨.builtin .append, #[y1,y2], #[t,t]⟩) (h1:E.ev K.gs ks y1=some (.ms z sz' n)) (h2:E.ev K.gs ks y2=some x2)
 (ht:K.S.get t=some ti) (hdd:ti.d= .slice el) (he:K.S.get el=some ei) (hD:lookD D j=some (.row sz z l1)) (hD0:lookD D i=none) (hij:Nat.beq i j=false) (hpj:memB j ps=false) (hp:pubs i=i::ps) (hpi:memB i ps=false) (hDD:dropD [j] (dropD ps D)=D') (hse:Nat.beq ei.size sz=true)
 (hsz:Nat.blt 0 ei.size=true) (hz1:allOne ei.zero=true) (hd:o.dst=some d) (hc:okPutA K.n E d=true) (hnd:nodupB ps=true) (hlt:((j::i::ps).all fun j=>Nat.blt j (lenO all.toList))=true) (hel:allElt ei l2=true)
 (hs:SbP D ps x2 (.sl ei.size l2 none)) (hb:(l1.length+l2.length)*ei.size≤281474976710656) (hby:(l1.length+l2.length)*ei.size*ei.bytes≤140737488355328)
 (next: ∀z',WA K all m k pubs Y π ⟨(d, .ms z' sz (l1.length+l2.length))::E.us,E.cs⟩ Λ ((i, .row sz z' (l1++l2))::D')):WA K all m k pubs Y (i::π) E Λ D:=by
 subst hDD
 have hse:=Nat.eq_of_beq_eq_true hse
 subst hse
 refine ⟨fun h e L Es hl r q dd=>?_⟩
 obtain ⟨v1,e1,f1⟩:=r.ev (K.hgs.mono hl) _ h1
 obtain ⟨v2,e2,f2⟩:=r.ev (K.hgs.mono hl) _ h2
 rw [Rp_ms] at f1
 obtain ⟨rfl,_⟩:=f1
 have hEi:=dd j
 rw [hD] at hEi
 have hE0:=dd i
 rw [hD0] at hE0
 have hE0:Es i=none:=hE0
 have hne:i≠j:=fun e=>by subst e;simp at hij
 have hnj:j∉ps:=fun hm=>by rw [memB_iff.2 hm] at hpj;cases hpj
 obtain ⟨p0,hp1,p,⟨a,cap,zs,rfl,g2,g3,g4,g5⟩,hpe⟩:=hEi
 injection hpe with hpe;subst hpe
 have hsz':0<ei.size:=by simpa [Nat.blt_eq] using hsz
 have hni:i∉ps:=fun hm=>by rw [memB_iff.2 hm] at hpi;cases hpi
 have hlt': ∀k,k∈j::i::ps→k<all.size:=fun j hj=>by
  have:=(List.all_eq_true.1 hlt) j hj
  rw [lenO_eq] at this
  simpa [Nat.blt_eq] using this
 have hkap:kd o= .ap:=by unfold kd;rw [ho]
 refine WE.apAny (G:=drawRg K.cfg all (L++K.G) pubs (YA Y) m k) hi (gyesA_eq r hg) hkap hd (okPutA_eq r hc) (by show memB i (pubs i)=true;rw [hp];simp [memB]) fun ac w g s hk=>?_
 obtain ⟨s1,pk⟩:=live_pub (C:=K.cfg) (n:=all.size) ps Es h (nodupB_spec hnd) (fun j hj=>hlt' j (List.mem_cons_of_mem _ (List.mem_cons_of_mem _ hj))) s
 have f2':=SbP.rp dd pk.1 pk.2 hs f2
 obtain ⟨zs2,b1,b2,b3⟩:=sl_Sl f2'
 have hEi':pubE ps Es j=some p0:=by rw [pubE_at,if_neg hnj,hp1]
 have hl':=Slots.list_take (hlt' j (List.mem_cons_self ..)) hEi'
 have hil:i<all.size:=hlt' i (List.mem_cons_of_mem _ (List.mem_cons_self ..))
 have hEn:((pubE ps Es).set j none) i=none:=by rw [Slots.set_ne _ hne,pubE_at,if_neg hni,hE0]
 have hEs:((pubE ps Es).set j none).set i none=(pubE ps Es).set j none:=by have:=Slots.set_same ((pubE ps Es).set j none) i;rwa [hEn] at this
 have s2:St K.w0 (pubH Es ps h) (p0::(Slots.list all.size ((pubE ps Es).set j none)++(L++K.G))) w:=St.perm s1 (hl'.append_right _)
 have hlen1:(catL zs).length=l1.length*ei.size:=by rw [cat_len g3.sz,g3.rp.len]
 have hlen2:(catL zs2).length=l2.length*ei.size:=by rw [cat_len b2,b1.len]
 have how:Ow ei.size a l1.length cap (catL zs) p0:=⟨g4,g2,hlen1,g5.elim (fun ⟨_,k2,k3,k4⟩=> .inl ⟨k2,k3,k4⟩) .inr⟩
 obtain ⟨w',x',a',n',cap',r1,r2,r3⟩:=run_appendOwn (ty:=o.type) K.ok ht hdd he hsz' hz1 (allOne_mem g3.oneAll) s2 how b3 (by rw [hlen1,hlen2,←Nat.add_mul];exact hb) (by rw [hlen1,hlen2,←Nat.add_mul];exact hby)
 have hn':n'=l1.length+l2.length:=by
  have:=r3.2.2.1
  rw [List.length_append,hlen1,hlen2,←Nat.add_mul] at this
  exact (Nat.eq_of_mul_eq_mul_right hsz' this).symm
 subst hn'
 have g3':=g3.mono pk.1
 have hrow:RpRow (pubH Es ps h) ei.size (.slice a' (l1.length+l2.length) cap') (l1++l2) x':=by
  refine ⟨a',cap',zs++zs2,by rw [List.length_append],by rw [List.length_append];exact r3.2.1,⟨g3'.rp.append b1,fun z hz=>?_,fun z hz=>?_⟩,r3.1,?_⟩
  ·rcases List.mem_append.1 hz with hz|hz
   ·exact g3.sz z hz
   ·exact b2 z hz
  ·rcases List.mem_append.1 hz with hz|hz
   ·exact g3.one z hz
   ·exact allElt_one hel _ zs2 b1 z hz
  ·have hcat:catL (zs++zs2)=catL zs++catL zs2:=by simp [catL]
   rcases r3.2.2.2 with ⟨k2,k3,k4⟩|k5
   ·refine .inl ⟨?_,k2,k3,k4⟩
    have:=r3.2.1
    exact List.length_eq_zero_iff.1 (by rw [List.length_append];omega)
   ·rw [hcat,List.length_append];exact .inr k5
 refine ⟨_,w',pubH Es ps h,((pubE ps Es).set j none).set i (some x'),?_,?_,pk.1,(next (.slice a' (l1.length+l2.length) cap')).run _ ⟨_::e.us,e.cs⟩ L _ (GH.le_trans hl pk.1) ⟨(r.1.mono pk.1).put (Rp_ms.2 ⟨rfl,_,_,rfl⟩),r.2.mono pk.1⟩ (q.mono pk.1) ((((dd.mono pk.1).pub ps).pub [j]).set ⟨x',hrow,rfl⟩)⟩
 ·unfold execOp
  rw [ho]
  have r1':Sem.run K.cfg.P (Builtin.append_ #[t,t] o.type #[Value.slice a l1.length cap,v2]) w=Result.ok (Value.slice a' (l1.length+l2.length) cap') w':=r1
  simp [resolve,invoke,builtin,g.ev hk e1,g.ev hk e2,r1']
 ·have hq:=Slots.list_put hil ((pubE ps Es).set j none) x'
  rw [hEs] at hq
  exact St.perm r2 (hq.append_right _).symm
end
end Go.Tp
