/-
  Texts Lp Lr Q20a T18d Q20b Ls Q20c P20e Q20f Q20g Lq P21b Q20h Q20i. Conditions: as each theorem says.
-/
import Derived.Test.YtpcloejpklkieaaGreatV3
import Derived.Sort.Row
import Derived.Sort.Grow
import Derived.Deep.Draws
import Derived.Test.YtpcloejpklkieaaGreatV7
import Derived.Test.YtpcloejpklkieaaGreatV6
import Derived.Shelf.SlSortCmp.NoneTotal
import Derived.Test.YtpcloejpklkieaaGreatV4
import Derived.Shelf.SlLaysF
set_option linter.unusedVariables false
set_option linter.unusedSimpArgs false
set_option maxRecDepth 100000
set_option maxHeartbeats 4000000
namespace Go.Tp
open Go Go.RowKit
section
variable{K:AC}{k:List It}{E:AEnv}{Λ:List AEnt}
theorem A.indexPart{all:Array Oper}{o:Oper}{l:List Oper}{ks:List (Nat×Bool)}{t el:TypeId}{ti ei:TI}{x ix:Operand}{b off p m c' n c sz:Nat}{xs:List AV}{kk:IntKind}{i:Int}{E':AEnv}(j0:Nat)
 (hg:gyesA E all o.guard=some ks) (ho:o.op= .indexAddr t x ix) (hx:E.ev K.gs ks x=some (.v (.slice (some ⟨b,p,none⟩) m c'))) (hi:E.ev K.gs ks ix=some (.v (.int kk i))) (ht:K.S.get t=some ti) (hdd:ti.d= .slice el) (he:K.S.get el=some ei) [j:ARow Λ (.slice (some ⟨b,off,none⟩) n c) sz xs]
 (hs:Nat.beq ei.size sz=true) (hp:p=off+j0*sz) (h0:0≤i) (h1:i<m) (h2:j0+i.toNat<n) (hput:E.put K.n none o.dst (.ep (.slice (some ⟨b,off,none⟩) n c) sz (j0+i.toNat))=some E') (next:A K (.ops all l::k) E' Λ):A K (.ops all (o::l)::k) E Λ:=by
 refine ⟨fun h e L hl r q=>?_⟩
 have hs:=Nat.eq_of_beq_eq_true hs
 obtain ⟨v1,e1,f1⟩:=r.ev (K.hgs.mono hl) _ hx
 obtain ⟨v2,e2,f2⟩:=r.ev (K.hgs.mono hl) _ hi
 rw [Rp_v] at f1 f2;rw [f1.1] at e1;rw [f2.1] at e2
 obtain ⟨e',e4,e5⟩:=putA_eq (y:= .pointer (some ⟨b,p+i.toNat*sz,none⟩)) r hput (Rp_ep.2 ⟨b,off,n,c,rfl,h2,by rw [hp,Nat.add_mul,Nat.add_assoc]⟩)
 have hiv:idxv K.S t (.slice (some ⟨b,p,none⟩) m c') i=some (.pointer (some ⟨b,p+i.toNat*sz,none⟩),m):=by simp only [idxv,ht,hdd,he,hs]
 exact V.indexY (C:=K.cfg) (gyesA_eq r hg) ho e1 e2 hiv e4 h0 h1 (next.run h e' L hl e5 q)
theorem Fun.row1{P:Program}{gs:Ua}{f:FuncId}{args:List AV}{Q:AV→List AEnt→Prop}{Λ:List AEnt}{z:Value}{sz n:Nat}{l:List AV}(hl:l≠[])
 (hv: ∀b o c,l.length≤c→Fun P gs f (.ms (.slice (some ⟨b,o,none⟩) l.length c) sz l.length::args) (.row sz (.slice (some ⟨b,o,none⟩) l.length c) l::Λ) Q):Fun P gs f (.ms z sz n::args) (.row sz z l::Λ) Q:=by
 intro w0 h vs L F g r q
 have r0:=r
 have q0:=q
 rw [RpC_cons] at r
 obtain ⟨u,us,rfl,r1,r2⟩:=r
 rw [Rp_ms] at r1
 obtain ⟨rfl,a',cap',rfl⟩:=r1
 obtain ⟨M,L2,rfl,⟨p,⟨a,cap,zs,e1,e2,e3,e4,e5⟩,rfl⟩,q2⟩:=q
 injection e1 with e1 e1' e1''
 subst e1;subst e1';subst e1''
 rcases e5 with ⟨e5,_⟩|⟨b,o,sp,rfl,rfl,e6⟩
 ·exact (hl e5).elim
 ·exact hv b o cap' e2 w0 h _ _ F g r0 q0
theorem A.rowCut{a:Option Addr}{n c sz:Nat}{l l1 l2:List AV}(m:Nat){Λ':List AEnt} [i:ARow Λ (.slice a n c) sz l] [j:AOut Λ (.row sz (.slice a n c) l) Λ'](hl:l=l1++l2)(hm:l1.length=m)(h0:l1≠[])
 (next:A K k E (.row sz (.slice a m c) l1::Λ')):A K k E Λ:=by
 subst hl;subst hm
 refine A.perm j.perm (A.ents (fun h L q=>?_) next)
 obtain ⟨M,L2,rfl,⟨p,⟨a',cap,zs,g1,g2,g3,g4,g5⟩,rfl⟩,q4⟩:=q
 injection g1 with g1 g1' g1''
 subst g1;subst g1';subst g1''
 rw [List.length_append] at g2
 refine ⟨[p]++L2,⟨[p],L2,rfl,⟨p,⟨a,c,zs.take l1.length,rfl,by omega,?_,g4,?_⟩,rfl⟩,q4⟩, .refl _⟩
 ·have:=g3.takeN l1.length
  rwa [List.take_left' rfl] at this
 ·rcases g5 with ⟨g5,_⟩|⟨b,o,sp,g6,g7,g8⟩
  ·simp at g5;exact (h0 g5.1).elim
  ·refine .inr ⟨b,o,catL (zs.drop l1.length)++sp,g6,?_,?_⟩
   ·rw [g7,←List.append_assoc,←catL_app,List.take_append_drop]
   ·rw [List.length_append,(g3.dropN l1.length).clen,List.drop_left' rfl,g8,List.length_append,←Nat.add_mul]
    congr 1;omega
theorem catL_rep(v:Value): ∀m:Nat,(List.replicate m (cellsL v)).flatten=catL (List.replicate m v)
 |0=>rfl
 |m+1=>by rw [List.replicate_succ,List.flatten_cons,catL_rep v m];rfl
theorem RpC.rep{h:GH}{y:AV}{v:Value}(r:Rp h y v): ∀m:Nat,RpC h (List.replicate m y) (List.replicate m v)
 |0=>RpC_nil.2 rfl
 |m+1=>RpC_cons.2 ⟨_,_,rfl,r,RpC.rep r m⟩
theorem A.clearRow{all:Array Oper}{o:Oper}{l:List Oper}{ks:List (Nat×Bool)}{x:Operand}{t el:TypeId}{ti ei:TI}{b off p m c' n c sz:Nat}{xs xs':List AV}{y:AV}{Λ':List AEnt}(j0:Nat)
 (hg:gyesA E all o.guard=some ks) (ho:o.op= .call ⟨.builtin .clear, #[x], #[t]⟩) (hx:E.ev K.gs ks x=some (.v (.slice (some ⟨b,p,none⟩) m c'))) (ht:K.S.get t=some ti) (hdd:ti.d= .slice el) (he:K.S.get el=some ei)
 [i:ARow Λ (.slice (some ⟨b,off,none⟩) n c) sz xs] [u:ARowUp Λ (.slice (some ⟨b,off,none⟩) n c) sz xs xs' Λ'] (hs:Nat.beq ei.size sz=true) (hsz:Nat.blt 0 ei.size=true) (hp:p=off+j0*sz) (hm:j0+m=xs.length) (h0:0<m)
 (hz1:allOne ei.zero=true) (hy: ∀h,∃v,Rp h y v∧cellsL v=ei.zero) (hxs:xs'=xs.take j0++List.replicate m y) (hd:o.dst=none)
 (next:A K (.ops all l::k) E Λ'):A K (.ops all (o::l)::k) E Λ:=by
 subst hxs
 have hs:=Nat.eq_of_beq_eq_true hs
 subst hs
 refine ⟨fun h e L hl r q=>?_⟩
 obtain ⟨v1,e1,f1⟩:=r.ev (K.hgs.mono hl) _ hx
 rw [Rp_v] at f1;rw [f1.1] at e1
 obtain ⟨Λ1,Λ2,d1,d2⟩:=u.split
 subst d1;subst d2
 obtain ⟨L1,M,L2,rfl,q1,⟨pp,⟨a,cap',zs,g1,g2,g3,g4,g5⟩,rfl⟩,q3⟩:=q.mid
 injection g1 with g1 g1' g1''
 subst g1;subst g1';subst g1''
 rcases g5 with ⟨g5,_⟩|⟨b',o',sp,g6,rfl,g8⟩
 ·rw [g5] at hm;simp at hm;omega
 injection g6 with g6;injection g6 with g6 g7;subst g6;subst g7
 refine V.sure (C:=K.cfg) (gyesA_eq r hg) fun ac w g s hk=>?_
 obtain ⟨yv,y1,y2⟩:=hy h
 have ok:=TT.Ok.get K.ok ht
 have oke:=TT.Ok.get K.ok he
 have hund:K.P.underlying t=some (.slice el):=by rw [ok.und,hdd]
 obtain ⟨zv,hz,hzl⟩:=run_zeroCells (w:=w) oke
 have hsz':0<ei.size:=by simpa [Nat.blt_eq] using hsz
 have hzc:(Builtin.zeroCells zv.cells m).toList=(List.replicate m ei.zero).flatten:=by
  rw [show zv.cells=⟨ei.zero⟩ from by rw [←hzl]]
  rw [zeroCells_eq]
  intro e
  have:=oke.len
  rw [e] at this;simp at this;omega
 have hcat:(List.replicate m ei.zero).flatten=catL (List.replicate m yv):=by
  rw [←y2];exact catL_rep yv m
 have hzs:zs.length=xs.length:=g3.rp.len
 have c1:=(g3.takeN j0).clen
 rw [List.length_take,Nat.min_eq_left (by omega)] at c1
 have c2:=(g3.dropN j0).clen
 have hel:Els h ei.size (List.replicate m y) (List.replicate m yv):=by
  refine ⟨RpC.rep y1 m,fun z hz=>?_,fun z hz=>?_⟩
  ·rw [List.eq_of_mem_replicate hz,y2,oke.len]
  ·rw [List.eq_of_mem_replicate hz,y2];exact hz1
 have hone: ∀u,u∈(List.replicate m ei.zero).flatten→oneC u=true:=by
  intro u hu
  rw [hcat] at hu
  obtain ⟨z,h1,h2⟩:=List.mem_flatMap.1 hu
  exact allOne_mem (hel.one z h1) u h2
 have hr:updL (catL zs++sp) (j0*ei.size) (catL (List.replicate m yv))=some (catL (zs.take j0++List.replicate m yv)++sp):=by
  have hzd:zs=zs.take j0++zs.drop j0:=(List.take_append_drop _ _).symm
  conv=>lhs;rw [hzd]
  have h1:updL (catL (zs.drop j0)++sp) 0 (catL (List.replicate m yv))=some (catL (List.replicate m yv)++sp):=by
   refine updL_head _ _ _ ?_
   rw [c2,hel.clen,List.length_drop,List.length_replicate];congr 1;omega
  have h2:=updL_app (catL (List.replicate m yv)) (catL (zs.take j0)) _ _ h1
  rw [c1,Nat.add_zero] at h2
  rw [catL_app,List.append_assoc,h2,catL_app,List.append_assoc]
 rw [←hcat] at hr
 obtain ⟨w',r1,r2⟩:=run_storeCells (P:=K.P) (List.replicate m ei.zero).flatten b p 0 w (L1:=L1) (k:=j0*ei.size) (by simpa [AC.G] using s) (by omega) (updL_spec _ _ _ hr).1 hone hr
 have hnext:=next.run h e ((L1++([⟨b,off,catL (zs.take j0++List.replicate m yv)++sp,none⟩]++L2))) hl r (RpL.mid_of q1 ⟨_,⟨some ⟨b,off,none⟩,c,zs.take j0++List.replicate m yv,?_,?_,(g3.takeN j0).app hel,rfl, .inr ⟨b,off,sp,rfl,rfl,?_⟩⟩,rfl⟩ q3)
 ·have hex:(execOp ac.eval o).run K.cfg.P w= .ok (.value (.tuple #[])) w':=by
   unfold execOp
   rw [ho]
   obtain ⟨m',rfl⟩: ∃m',m=m'+1:=⟨m-1,by omega⟩
   have r1':Sem.run K.cfg.P (storeCells ⟨b,p,none⟩ (Builtin.zeroCells zv.cells (m'+1)).toList) w= .ok () w':=by rw [hzc];exact r1
   have hund':K.cfg.P.underlying t=some (.slice el):=hund
   have hz':Sem.run K.cfg.P (zeroValue el) w= .ok zv w:=hz
   simp [resolve,invoke,builtin,Builtin.clear_,g.ev hk e1,Go.run_underlying hund',hz',r1']
  unfold Oper.wp
  rw [hex]
  exact ⟨e,h,_,by rw [hd];exact g,(by simpa [AC.G] using r2),hnext⟩
 all_goals rw [List.length_append,List.length_take,List.length_replicate,Nat.min_eq_left (by omega),hm]
 ·exact g2
 ·exact g8
end
section
variable{K:AC}{all:Array Oper}{m:Nat}{k:List It}{pubs:Nat→List Nat}{Y:Ua}{π:List Nat}{E:AEnv}{Λ:List AEnt}{D:Da}
theorem WA.indexPart{i0:Nat}{o:Oper}{ks:List (Nat×Bool)}{t el:TypeId}{ti ei:TI}{x ix:Operand}{b off p q c' n c sz:Nat}{xs:List AV}{kk:IntKind}{i:Int}{E':AEnv}(j0:Nat)(hi0:nthL all.toList i0=some o)
 (hg:gyesA E all o.guard=some ks) (ho:o.op= .indexAddr t x ix) (hx:E.ev K.gs ks x=some (.v (.slice (some ⟨b,p,none⟩) q c'))) (hi:E.ev K.gs ks ix=some (.v (.int kk i))) (ht:K.S.get t=some ti) (hdd:ti.d= .slice el) (he:K.S.get el=some ei) [j:ARow Λ (.slice (some ⟨b,off,none⟩) n c) sz xs]
 (hs:Nat.beq ei.size sz=true) (hp:p=off+j0*sz) (h0:0≤i) (h1:i<q) (h2:j0+i.toNat<n) (hput:E.put K.n none o.dst (.ep (.slice (some ⟨b,off,none⟩) n c) sz (j0+i.toNat))=some E') (next:WA K all m k pubs Y π E' Λ D):WA K all m k pubs Y (i0::π) E Λ D:=by
 refine ⟨fun h e L Es hl r q' d=>?_⟩
 have hs:=Nat.eq_of_beq_eq_true hs
 obtain ⟨v1,e1,f1⟩:=r.ev (K.hgs.mono hl) _ hx
 obtain ⟨v2,e2,f2⟩:=r.ev (K.hgs.mono hl) _ hi
 rw [Rp_v] at f1 f2;rw [f1.1] at e1;rw [f2.1] at e2
 obtain ⟨e',e4,e5⟩:=putA_eq (y:= .pointer (some ⟨b,p+i.toNat*sz,none⟩)) r hput (Rp_ep.2 ⟨b,off,n,c,rfl,h2,by rw [hp,Nat.add_mul,Nat.add_assoc]⟩)
 have hiv:idxv K.S t (.slice (some ⟨b,p,none⟩) q c') i=some (.pointer (some ⟨b,p+i.toNat*sz,none⟩),q):=by simp only [idxv,ht,hdd,he,hs]
 exact WE.valueY (G:=drawRg K.cfg all (L++K.G) pubs (YA Y) m k) hi0 (kd_index ho) (gyesA_eq r hg) (fun a w E0 g s hk=>by
  have:=run_idxv (P:=K.cfg.P) (w:=w) (kk:=kk) K.ok hiv h0 h1
  unfold execOp
  rw [ho]
  simp only [g.ev hk e1,g.ev hk e2,Sem.run_bind,this,Result.andThen_ok,Sem.run_pure]) e4 (next.run h e' L Es hl e5 q' d)
end
end Go.Tp
namespace Go.Tp
open Go Go.RowKit
theorem St.self{w0 w:World}{h:GH}{L:List Ent}(s:St w0 h L w):St w h [] w:=
 ⟨Below.refl _ _,s.imm,s.imm1,fun p hp=>(by cases hp),List.Pairwise.nil,fun _ _ _ _=>rfl,Nat.le_refl _⟩
theorem putRow_heap_other{α:Type} [Inhabited α](enc:α→Value)(w:World)(b lo:Nat)(d:Array α){j:Nat}(hj:j≠b):(Sort.putRow enc w b lo d).heap[j]? =w.heap[j]? :=by
 unfold Sort.putRow Sort.mapBlock
 simp only [Array.getElem?_modify]
 rw [if_neg (fun e=>hj e.symm)]
theorem St.sorted{α:Type} [Inhabited α]{w0 w:World}{h:GH}{L:List Ent}{b lo:Nat}{cs:List Value}{enc:α→Value}{d d':Array α}{n:Nat}{os:Array Obj}
 (s:St w0 h (⟨b,lo,cs,none⟩::L) w) (hd:d.size≤cs.length) (hp:0<d.size) (hH:Sort.Holds enc w b lo d) (hs:d'.size=d.size) (h1: ∀j,j<d.size→oneC (enc d'[j]!)=true):
 St w0 h (⟨b,lo,d'.toList.map enc++cs.drop d.size,none⟩::L) (Sort.grow (Sort.putRow enc (Sort.ahead w n) b lo d') os):=by
 have k:=s.own _ (List.mem_cons_self ..)
 have hdis:=List.pairwise_cons.1 s.dis
 have hnew:=k.new 0 (by simp only;omega)
 simp only at hnew
 have hsz:(Sort.putRow enc (Sort.ahead w n) b lo d').heap.size=w.heap.size:=by rw [Sort.size_putRow];rfl
 have hlen:(d'.toList.map enc++cs.drop d.size).length=cs.length:=by simp [hs];omega
 have hcell: ∀a:Addr,(a.block≠b∨a.off<lo∨lo+d.size≤a.off)→a.block<w.heap.size→(Sort.grow (Sort.putRow enc (Sort.ahead w n) b lo d') os).cell? a=w.cell? a:=fun a ha hl=>by
  rw [Sort.cell?_grow _ _ _ (by rw [hsz];exact hl),Sort.cell?_putRow_other _ _ _ _ _ _ (by rw [hs];exact ha),Sort.cell?_ahead]
 have hfr: ∀a:Addr,a.block<w.heap.size→(Sort.grow (Sort.putRow enc (Sort.ahead w n) b lo d') os).frozen? a=w.frozen? a:=fun a hl=>by
  rw [Sort.frozen?_grow _ _ _ (by rw [hsz];exact hl),Sort.frozen?_putRow,Sort.frozen?_ahead]
 have hb:b<w.heap.size:=lt_of_cell (hH 0 hp).1
 refine ⟨⟨s.below.os,s.below.tape,s.below.output,?_,fun j hj=>?_⟩,fun b' o v hv=>?_,s.imm1,fun p hp'=>?_,?_,fun b' o v hv=>?_,?_⟩
 ·rw [Sort.size_grow,hsz];exact Nat.le_trans s.below.size (Nat.le_add_right _ _)
 ·have hjw:j<w.heap.size:=Nat.lt_of_lt_of_le hj s.below.size
  rw [Sort.heap_grow_old _ _ (by rw [hsz];exact hjw),putRow_heap_other _ _ _ _ _ (by omega)]
  exact s.below.block j hj
 ·have hc:=s.imm _ _ _ hv
  rw [hcell _ ?_ (lt_of_cell hc)]
  ·exact hc
  ·by_cases e1:b'=b
   ·refine .inr ?_
    by_cases e2:o<lo
    ·exact .inl e2
    ·refine .inr ?_
     simp only
     rcases Nat.lt_or_ge o (lo+d.size) with h2|h2
     ·have:=k.fresh (o-lo) (by simp only;omega)
      simp only at this
      rw [show lo+(o-lo)=o by omega,←e1,hv] at this;cases this
     ·exact h2
   ·exact .inl e1
 ·rcases List.mem_cons.1 hp' with rfl|hp'
  ·refine ⟨fun v hv=>?_,fun i v hv=>?_,fun i hi=>hnew,fun i hi=>?_,fun i hi=>k.fresh i (by rw [←hlen];exact hi),fun o ho=>by cases ho⟩
   ·rcases List.mem_append.1 hv with hv|hv
    ·obtain ⟨x,hx,rfl⟩:=List.mem_map.1 hv
     obtain ⟨j,hj,rfl⟩:=List.mem_iff_getElem.1 hx
     have hj':j<d'.size:=by simpa using hj
     have:=h1 j (by omega)
     rw [getElem!_pos d' j hj'] at this
     simpa using this
    ·exact k.one v (List.mem_of_mem_drop hv)
   ·simp only at hv⊢
    rcases Nat.lt_or_ge i d.size with hi|hi
    ·rw [Sort.cell?_grow _ _ _ (by rw [hsz];exact hb),Sort.cell?_putRow enc (Sort.ahead w n) b lo d d' hH hs i (by omega)]
     rw [List.getElem?_append_left (by simp;omega)] at hv
     have hj':i<d'.size:=by omega
     rw [getElem!_pos d' i hj']
     rw [List.getElem?_eq_getElem (by simpa using hj')] at hv
     simpa using hv
    ·rw [hcell _ (.inr (.inr (by simp only;omega))) hb]
     rw [List.getElem?_append_right (by simp;omega)] at hv
     refine k.cell i v ?_
     simp only [List.getElem?_drop,List.length_map,Array.length_toList] at hv⊢
     rwa [show d.size+(i-d'.size)=i by omega] at hv
   ·rw [hfr _ hb];exact k.warm i (by rw [←hlen];exact hi)
  ·have q:=s.own p (List.mem_cons_of_mem _ hp')
   have ha:=hdis.1 p hp'
   refine ⟨q.one,fun i v hv=>?_,q.new,fun i hi=>?_,q.fresh,fun o ho=>?_⟩
   ·have hc:=q.cell i v hv
    have hi:i<p.cs.length:=by
     rcases Nat.lt_or_ge i p.cs.length with h|h
     ·exact h
     ·rw [List.getElem?_eq_none h] at hv;cases hv
    rw [hcell _ ?_ (lt_of_cell hc)]
    ·exact hc
    ·by_cases e1:p.b=b
     ·refine .inr ?_
      by_cases e2:p.lo+i<lo
      ·exact .inl e2
      ·refine .inr ?_
       simp only
       rcases Nat.lt_or_ge (p.lo+i) (lo+d.size) with h2|h2
       ·exact (ha.1 (p.lo+i-lo) i (by simp only;omega) hi e1.symm (by simp only;omega)).elim
       ·exact h2
     ·exact .inl e1
   ·obtain ⟨v,hv⟩:=getElem?_some_of_lt hi
    rw [hfr _ (lt_of_cell (q.cell i v hv))];exact q.warm i hi
   ·obtain ⟨h2,h3,h4⟩:=q.obj o ho
    refine ⟨h2,?_,h4⟩
    have hlt:p.b<w.heap.size:=(Array.getElem?_eq_some_iff.1 h3).1
    have hne:p.b≠b:=by
     intro e
     obtain ⟨c,t,fr,hc,_⟩:=Sort.cells_of_cell? (hH 0 hp).1
     rw [←e,h3] at hc
     injection hc with hc
     exact h4 _ _ _ hc
    rw [Sort.heap_grow_old _ _ (by rw [hsz];exact hlt),putRow_heap_other _ _ _ _ _ hne]
    exact h3
 ·refine List.pairwise_cons.2 ⟨fun q hq=>⟨fun i j hi hj=>(hdis.1 q hq).1 i j (by simp only [hlen] at hi;exact hi) hj,(hdis.1 q hq).2⟩,hdis.2⟩
 ·rw [hfr _ (lt_of_cell (s.imm _ _ _ hv))];exact s.frz _ _ _ hv
 ·show w0.drawn≤w.drawn+n
  exact Nat.le_trans s.drn (Nat.le_add_right _ _)
theorem St.grown{h:GH}{L:List Ent}{W w':World}(s:St W h L w'): ∃q os,w'=Sort.grow (W.drewN q) os:=by
 refine ⟨w'.drawn-W.drawn,w'.heap.extract W.heap.size w'.heap.size,?_⟩
 obtain ⟨hp,tp,dr,os,ou⟩:=w'
 have b:=s.below
 obtain ⟨b1,b2,b3,b4,b5⟩:=b
 have hd:=s.drn
 simp only at b1 b2 b3 b4 b5 hd⊢
 unfold Sort.grow World.drewN
 simp only [World.mk.injEq]
 refine ⟨?_,b2,by omega,b1,b3⟩
 apply Array.ext_getElem?
 intro i
 rcases Nat.lt_or_ge i W.heap.size with hi|hi
 ·rw [b5 i hi,Array.getElem?_append_left hi]
 ·rw [Array.getElem?_append_right hi,Array.getElem?_extract]
  split
  ·rw [show W.heap.size+(i-W.heap.size)=i by omega]
  ·rename_i hn
   rw [Array.getElem?_eq_none (by omega)]
theorem pure_grown{P:Program}{gs:Ua}{f:FuncId}{args:List AV}{c:Int}{vs:List Value}{W:World}{h:GH}(hf:Pure P gs f args (.v (.int .i64 c)))(s:St W h [] W)(g:GsOk h gs)(r:RpC h args vs):
 Calls P f ⟨vs⟩ W fun e w'=>e= .returned (.int .i64 c)∧ ∃q os,w'=Sort.grow (W.drewN q) os:=by
 refine ((hf W h vs [] [] g r rfl).2 W s).mono fun e w' ⟨v,h',L',e1,⟨x,Λ',L1,⟨q1,q2⟩,q3,_⟩,e3⟩=>?_
 subst q1
 rw [Rp_v] at q3
 exact ⟨by rw [e1,q3.1],e3.grown⟩
end Go.Tp
namespace Go.Tp
open Go Go.RowKit
def pickL{α:Type}(l:List α):List Nat→Option (List α)
 | []=>some []
 |i::π=>match nthL l i with
  |some x=>match pickL l π with
   |some r=>some (x::r)
   |none=>none
  |none=>none
theorem pickL_eq{α:Type}{l:List α}: ∀{π:List Nat} {r:List α},pickL l π=some r→r=π.filterMap fun i=>l[i]?
 | [],r,h=>by injection h with h;subst h;rfl
 |i::π,r,h=>by
  simp only [pickL] at h
  split at h
  ·rename_i x hx
   split at h
   ·rename_i r' hr
    injection h with h;subst h
    rw [nthL_eq] at hx
    rw [List.filterMap_cons,hx,pickL_eq hr]
   ·cases h
  ·cases h
theorem range_pick{α:Type}(l:List α):(List.range l.length).filterMap (fun i=>l[i]?)=l:=by
 induction l with
 |nil=>rfl
 |cons x l ih=>
  rw [List.length_cons,List.range_succ_eq_map,List.filterMap_cons]
  simp only [List.getElem?_cons_zero,List.filterMap_map]
  congr 1
theorem perm_pick{α:Type}(π:List Nat){l r:List α}(h:pickL l π=some r)(h1:nodupB π=true)(h2:(π.all fun i=>Nat.blt i l.length)=true)(h3:((List.range l.length).all fun i=>memB i π)=true):l.Perm r:=by
 rw [pickL_eq h]
 have:(List.range l.length).Perm π:=by
  refine (List.perm_ext_iff_of_nodup List.nodup_range (nodupB_spec h1)).2 fun a=>⟨fun ha=>?_,fun ha=>?_⟩
  ·exact memB_iff.1 ((List.all_eq_true.1 h3) a ha)
  ·have:=(List.all_eq_true.1 h2) a ha
   rw [Nat.blt_eq] at this
   exact List.mem_range.2 this
 have:=this.filterMap fun i=>l[i]?
 rwa [range_pick] at this
def Slots.ofL:List (Nat×Ent)→Slots
 | []=>Slots.none
 |(j,x)::r=>(Slots.ofL r).set j (some x)
theorem Slots.ofL_none: ∀{l:List (Nat×Ent)} {j:Nat},j∉l.map (·.1)→Slots.ofL l j=Option.none
 | [],_,_=>rfl
 |(i,x)::r,j,h=>by
  simp only [List.map_cons,List.mem_cons,not_or] at h
  rw [Slots.ofL,Slots.set_ne _ h.1]
  exact Slots.ofL_none h.2
theorem Slots.ofL_perm{n:Nat}: ∀{l:List (Nat×Ent)},(l.map (·.1)).Nodup→(∀j,j∈l.map (·.1)→j<n)→(Slots.list n (Slots.ofL l)).Perm (l.map (·.2))
 | [],_,_=>by rw [show Slots.ofL []=Slots.none from rfl,Slots.list_none];exact .refl _
 |(j,x)::r,h,hn=>by
  simp only [List.map_cons,List.nodup_cons] at h
  have h1:=Slots.list_put (hn j (List.mem_cons_self ..)) (Slots.ofL r) x
  have h2:(Slots.ofL r).set j Option.none=Slots.ofL r:=by rw [←Slots.ofL_none h.1];exact Slots.set_same _ _
  rw [h2] at h1
  exact h1.trans ((Slots.ofL_perm h.2 fun i hi=>hn i (List.mem_cons_of_mem _ hi)).cons x)
section
variable{C:Cfg}{k:List It}{e:Env}{h:GH}{L:List Ent}
theorem V.drawL{all:Array Oper}{id:Nat}(l:List (Nat×Ent))(m:Nat)(π:List Nat)(pubs:Nat→List Nat)(Y:Nat→List Value→Value→GH→Prop)(hn:(l.map (·.1)).Nodup)(hj: ∀j,j∈l.map (·.1)→j<all.size)(hm:C.P.follows .mixedOrders=true)(hok:drawOkN all m π pubs=true)
 (hv:WE (drawRg C all L pubs Y m k) π e h (Slots.ofL l)):V C (.code (.region id all true)::k) e h (l.map (·.2)++L):=by
 intro ho a w b cs g s hf hk
 have hok1:=drawOkN_spec hok
 have hnd:=hok1.2
 have ok:DrawOk (drawRg C all L pubs Y m k) m π:=drawOk_spec hok1.1
 have hW:=hv a g
 have hp:=Slots.ofL_perm (n:=all.size) hn hj
 have s':(drawRg C all L pubs Y m k).live h (Slots.ofL l) {w with drawn:=w.drawn+1}:=by
  show St C.w0 h (Slots.list all.size (Slots.ofL l)++L) _
  exact s.drew.perm (hp.append_right L).symm
 have hd:Done all m π (Array.replicate all.size false):=by
  refine ⟨by simp,fun i hi=>⟨fun _=>?_,fun _=>by simp [hi]⟩,fun i o ho hi=>?_⟩
  rotate_left
  ·have:(Array.replicate all.size false).getD i false=false:=by
    simp only [Array.getD_eq_getD_getElem?,Array.getElem?_replicate];split<;>rfl
   have hi':(Array.replicate all.size false).getD i false=true:=hi
   rw [this] at hi';cases hi'
  by_cases him:i<m
  ·left;exact ok.full i him
  ·right;omega
 have hr:=Rg.run (drawRg C all L pubs Y m k) ok (itsOk_tail ho) (cs:=cs) hnd hf hk (fun a h E x=>x) m π ok.len (List.Sublist.refl _) (Array.replicate all.size false) (w.tape w.drawn (.order b.fn id)) a h (Slots.ofL l) _ hd hW s'
 obtain ⟨v,w'',fr,h'',L'',q1,q2,q3,q4,q5⟩:=hr
 refine ⟨v,w'',fr,h'',L'',q1,q2,?_,q4,q5⟩
 have hstep:=stepR_region_draw (P:=C.P) (b:=b) (a:=a) (k:=items k) (cs:=cs) (w:=w) (ops:=all) (id:=id)
 have hsch:Region.schedule (C.P.follows .mixedOrders) all (w.tape w.drawn (.order b.fn id))=Region.linearise.go .any all (m+(all.size-m)) (w.tape w.drawn (.order b.fn id)) (Array.replicate all.size false) []:=by
  rw [show m+(all.size-m)=all.size by have:m≤all.size:=ok.le;omega]
  simp only [Region.schedule,hm,Bool.true_or,if_true]
  rfl
 rw [hsch] at hstep
 exact .head hstep q3
end
def oneEnt:AEnt→Bool
 | .box _ _=>true
 | .row _ _ _=>true
 | .tail _ _=>true
 |_=>false
theorem oneEnt_rp{h:GH}{x:AEnt}{M:List Ent}(ho:oneEnt x=true)(r:RpEnt h x M): ∃p,M=[p]:=by
 cases x with
 |box b y=>obtain ⟨z,_,e⟩:=r;exact ⟨_,e⟩
 |row sz z l=>obtain ⟨p,_,e⟩:=r;exact ⟨_,e⟩
 |tail sz z=>obtain ⟨p,_,e⟩:=r;exact ⟨_,e⟩
 |_=>cases ho
theorem RpL.ofD{h:GH}: ∀{D:Da} {L:List Ent},(D.all fun x=>oneEnt x.2)=true→RpL h (D.map (·.2)) L→ ∃l:List (Nat×Ent),l.map (·.1)=D.map (·.1)∧L=l.map (·.2)∧RpD h D (Slots.ofL l)
 | [],L,_,r=>by
   have r:L=[]:=r
   exact ⟨[],rfl,r,fun i=>rfl⟩
 |(j,x)::D,L,ho,r=>by
  simp only [List.all_cons,Bool.and_eq_true] at ho
  obtain ⟨M,L2,rfl,r1,r2⟩:=r
  obtain ⟨p,rfl⟩:=oneEnt_rp ho.1 r1
  obtain ⟨l,e1,e2,e3⟩:=RpL.ofD ho.2 r2
  exact ⟨(j,p)::l,by simp [e1],by simp [e2],e3.set r1⟩
section
variable{K:AC}{all:Array Oper}{k:List It}{E:AEnv}{Λ:List AEnt}
theorem A.drawL{id:Nat}(D:Da)(m:Nat)(π:List Nat)(pubs:Nat→List Nat)(Y:Ua){Λ':List AEnt}(hp:Λ.Perm (D.map (·.2)++Λ'))(ho:(D.all fun x=>oneEnt x.2)=true)(hn:nodupB (D.map (·.1))=true)(hj:((D.map (·.1)).all fun j=>Nat.blt j (lenO all.toList))=true)
 (hm:K.P.follows .mixedOrders=true) (hok:drawOkN all m π pubs=true) (hv:WA K all m k pubs Y π E Λ' D):A K (.code (.region id all true)::k) E Λ:=
 ⟨fun h e L hl r q=>by
   obtain ⟨L',q1,q2⟩:=q.perm hp
   obtain ⟨M,L2,rfl,q3,q4⟩:=q1.split
   obtain ⟨l,e1,rfl,e3⟩:=RpL.ofD ho q3
   refine V.perm (q2.append_right _) ?_
   rw [List.append_assoc]
   refine V.drawL (C:=K.cfg) l m π pubs (YA Y) (by rw [e1];exact nodupB_spec hn) (fun j hj'=>?_) hm hok (hv.run h e L2 _ hl r q4 e3)
   rw [e1] at hj'
   have:=(List.all_eq_true.1 hj) j hj'
   rw [lenO_eq] at this
   simpa [Nat.blt_eq] using this⟩
end
section
variable{K:AC}{all:Array Oper}{m:Nat}{k:List It}{pubs:Nat→List Nat}{Y:Ua}{π:List Nat}{E:AEnv}{Λ:List AEnt}{D:Da}
theorem WA.appendR{i:Nat}{o:Oper}{ks:List (Nat×Bool)}{y1 y2:Operand}{t el:TypeId}{ti ei:TI}{x2:AV}{l1 l2:List AV}{z:Value}{sz sz' n d:Nat}{ps:List Nat}{D':Da}(hi:nthL all.toList i=some o)
 (hg:gyesA E all o.guard=some ks) (ho:o.op= .call ⟨.builtin .append, #[y1,y2], #[t,t]⟩) (h1:E.ev K.gs ks y1=some (.ms z sz' n)) (h2:E.ev K.gs ks y2=some x2)
 (ht:K.S.get t=some ti) (hdd:ti.d= .slice el) (he:K.S.get el=some ei) (hD:lookD D i=some (.row sz z l1)) (hp:pubs i=i::ps) (hpi:memB i ps=false) (hDD:dropD ps D=D') (hse:Nat.beq ei.size sz=true)
 (hsz:Nat.blt 0 ei.size=true) (hz1:allOne ei.zero=true) (hd:o.dst=some d) (hc:okPutA K.n E d=true) (hnd:nodupB ps=true) (hlt:((i::ps).all fun j=>Nat.blt j (lenO all.toList))=true) (hel:allElt ei l2=true)
 (hs:SbP D ps x2 (.sl ei.size l2 none)) (hb:(l1.length+l2.length)*ei.size≤281474976710656) (hby:(l1.length+l2.length)*ei.size*ei.bytes≤140737488355328)
 (next: ∀z',WA K all m k pubs Y π ⟨(d, .ms z' sz (l1.length+l2.length))::E.us,E.cs⟩ Λ ((i, .row sz z' (l1++l2))::D')):WA K all m k pubs Y (i::π) E Λ D:=by
 subst hDD
 have hse:=Nat.eq_of_beq_eq_true hse
 subst hse
 refine ⟨fun h e L Es hl r q dd=>?_⟩
 obtain ⟨v1,e1,f1⟩:=r.ev (K.hgs.mono hl) _ h1
 obtain ⟨v2,e2,f2⟩:=r.ev (K.hgs.mono hl) _ h2
 rw [Rp_ms] at f1
 obtain ⟨rfl,_⟩:=f1
 have hEi:=dd i
 rw [hD] at hEi
 obtain ⟨p0,hp1,p,⟨a,cap,zs,rfl,g2,g3,g4,g5⟩,hpe⟩:=hEi
 injection hpe with hpe;subst hpe
 have hsz':0<ei.size:=by simpa [Nat.blt_eq] using hsz
 have hni:i∉ps:=fun hm=>by rw [memB_iff.2 hm] at hpi;cases hpi
 have hlt': ∀j,j∈i::ps→j<all.size:=fun j hj=>by
  have:=(List.all_eq_true.1 hlt) j hj
  rw [lenO_eq] at this
  simpa [Nat.blt_eq] using this
 have hkap:kd o= .ap:=by unfold kd;rw [ho]
 refine WE.apAny (G:=drawRg K.cfg all (L++K.G) pubs (YA Y) m k) hi (gyesA_eq r hg) hkap hd (okPutA_eq r hc) (by show memB i (pubs i)=true;rw [hp];simp [memB]) fun ac w g s hk=>?_
 obtain ⟨s1,pk⟩:=live_pub (C:=K.cfg) (n:=all.size) ps Es h (nodupB_spec hnd) (fun j hj=>hlt' j (List.mem_cons_of_mem _ hj)) s
 have f2':=SbP.rp dd pk.1 pk.2 hs f2
 obtain ⟨zs2,b1,b2,b3⟩:=sl_Sl f2'
 have hEi':pubE ps Es i=some p0:=by rw [pubE_at,if_neg hni,hp1]
 have hl':=Slots.list_take (hlt' i (List.mem_cons_self ..)) hEi'
 have s2:St K.w0 (pubH Es ps h) (p0::(Slots.list all.size ((pubE ps Es).set i none)++(L++K.G))) w:=St.perm s1 (hl'.append_right _)
 have hlen1:(catL zs).length=l1.length*ei.size:=by rw [cat_len g3.sz,g3.rp.len]
 have hlen2:(catL zs2).length=l2.length*ei.size:=by rw [cat_len b2,b1.len]
 have how:Ow ei.size a l1.length cap (catL zs) p0:=⟨g4,g2,hlen1,g5.elim (fun ⟨_,k2,k3,k4⟩=> .inl ⟨k2,k3,k4⟩) .inr⟩
 obtain ⟨w',x',a',n',cap',r1,r2,r3⟩:=run_appendOwn (ty:=o.type) K.ok ht hdd he hsz' hz1 (allOne_mem g3.oneAll) s2 how b3 (by rw [hlen1,hlen2,←Nat.add_mul];exact hb) (by rw [hlen1,hlen2,←Nat.add_mul];exact hby)
 have hn':n'=l1.length+l2.length:=by
  have:=r3.2.2.1
  rw [List.length_append,hlen1,hlen2,←Nat.add_mul] at this
  exact (Nat.eq_of_mul_eq_mul_right hsz' this).symm
 subst hn'
 have g3':=g3.mono pk.1
 have hrow:RpRow (pubH Es ps h) ei.size (.slice a' (l1.length+l2.length) cap') (l1++l2) x':=by
  refine ⟨a',cap',zs++zs2,by rw [List.length_append],by rw [List.length_append];exact r3.2.1,⟨g3'.rp.append b1,fun z hz=>?_,fun z hz=>?_⟩,r3.1,?_⟩
  ·rcases List.mem_append.1 hz with hz|hz
   ·exact g3.sz z hz
   ·exact b2 z hz
  ·rcases List.mem_append.1 hz with hz|hz
   ·exact g3.one z hz
   ·exact allElt_one hel _ zs2 b1 z hz
  ·have hcat:catL (zs++zs2)=catL zs++catL zs2:=by simp [catL]
   rcases r3.2.2.2 with ⟨k2,k3,k4⟩|k5
   ·refine .inl ⟨?_,k2,k3,k4⟩
    have:=r3.2.1
    exact List.length_eq_zero_iff.1 (by rw [List.length_append];omega)
   ·rw [hcat,List.length_append];exact .inr k5
 refine ⟨_,w',pubH Es ps h,(pubE ps Es).set i (some x'),?_,?_,pk.1,(next (.slice a' (l1.length+l2.length) cap')).run _ ⟨_::e.us,e.cs⟩ L _ (GH.le_trans hl pk.1) ⟨(r.1.mono pk.1).put (Rp_ms.2 ⟨rfl,_,_,rfl⟩),r.2.mono pk.1⟩ (q.mono pk.1) (((dd.mono pk.1).pub _).set ⟨x',hrow,rfl⟩)⟩
 ·unfold execOp
  rw [ho]
  have r1':Sem.run K.cfg.P (Builtin.append_ #[t,t] o.type #[Value.slice a l1.length cap,v2]) w=Result.ok (Value.slice a' (l1.length+l2.length) cap') w':=r1
  simp [resolve,invoke,builtin,g.ev hk e1,g.ev hk e2,r1']
 ·have hq:=Slots.list_put (hlt' i (List.mem_cons_self ..)) (pubE ps Es) x'
  exact St.perm r2 (hq.append_right _).symm
end
end Go.Tp
namespace Go.Tp
open Go Go.RowKit
section
variable{K:AC}{all:Array Oper}{m:Nat}{k:List It}{pubs:Nat→List Nat}{Y:Ua}{π:List Nat}{E:AEnv}{Λ:List AEnt}{D:Da}
theorem WA.appendM(j:Nat){i:Nat}{o:Oper}{ks:List (Nat×Bool)}{y1 y2:Operand}{t el:TypeId}{ti ei:TI}{x2:AV}{l1 l2:List AV}{z:Value}{sz sz' n d:Nat}{ps:List Nat}{D':Da}(hi:nthL all.toList i=some o)
 (hg:gyesA E all o.guard=some ks) (ho:o.op= .call ⟨.builtin .append, #[y1,y2], #[t,t]⟩) (h1:E.ev K.gs ks y1=some (.ms z sz' n)) (h2:E.ev K.gs ks y2=some x2)
 (ht:K.S.get t=some ti) (hdd:ti.d= .slice el) (he:K.S.get el=some ei) (hD:lookD D j=some (.row sz z l1)) (hD0:lookD D i=none) (hij:Nat.beq i j=false) (hpj:memB j ps=false) (hp:pubs i=i::ps) (hpi:memB i ps=false) (hDD:dropD [j] (dropD ps D)=D') (hse:Nat.beq ei.size sz=true)
 (hsz:Nat.blt 0 ei.size=true) (hz1:allOne ei.zero=true) (hd:o.dst=some d) (hc:okPutA K.n E d=true) (hnd:nodupB ps=true) (hlt:((j::i::ps).all fun j=>Nat.blt j (lenO all.toList))=true) (hel:allElt ei l2=true)
 (hs:SbP D ps x2 (.sl ei.size l2 none)) (hb:(l1.length+l2.length)*ei.size≤281474976710656) (hby:(l1.length+l2.length)*ei.size*ei.bytes≤140737488355328)
 (next: ∀z',WA K all m k pubs Y π ⟨(d, .ms z' sz (l1.length+l2.length))::E.us,E.cs⟩ Λ ((i, .row sz z' (l1++l2))::D')):WA K all m k pubs Y (i::π) E Λ D:=by
 subst hDD
 have hse:=Nat.eq_of_beq_eq_true hse
 subst hse
 refine ⟨fun h e L Es hl r q dd=>?_⟩
 obtain ⟨v1,e1,f1⟩:=r.ev (K.hgs.mono hl) _ h1
 obtain ⟨v2,e2,f2⟩:=r.ev (K.hgs.mono hl) _ h2
 rw [Rp_ms] at f1
 obtain ⟨rfl,_⟩:=f1
 have hEi:=dd j
 rw [hD] at hEi
 have hE0:=dd i
 rw [hD0] at hE0
 have hE0:Es i=none:=hE0
 have hne:i≠j:=fun e=>by subst e;simp at hij
 have hnj:j∉ps:=fun hm=>by rw [memB_iff.2 hm] at hpj;cases hpj
 obtain ⟨p0,hp1,p,⟨a,cap,zs,rfl,g2,g3,g4,g5⟩,hpe⟩:=hEi
 injection hpe with hpe;subst hpe
 have hsz':0<ei.size:=by simpa [Nat.blt_eq] using hsz
 have hni:i∉ps:=fun hm=>by rw [memB_iff.2 hm] at hpi;cases hpi
 have hlt': ∀k,k∈j::i::ps→k<all.size:=fun j hj=>by
  have:=(List.all_eq_true.1 hlt) j hj
  rw [lenO_eq] at this
  simpa [Nat.blt_eq] using this
 have hkap:kd o= .ap:=by unfold kd;rw [ho]
 refine WE.apAny (G:=drawRg K.cfg all (L++K.G) pubs (YA Y) m k) hi (gyesA_eq r hg) hkap hd (okPutA_eq r hc) (by show memB i (pubs i)=true;rw [hp];simp [memB]) fun ac w g s hk=>?_
 obtain ⟨s1,pk⟩:=live_pub (C:=K.cfg) (n:=all.size) ps Es h (nodupB_spec hnd) (fun j hj=>hlt' j (List.mem_cons_of_mem _ (List.mem_cons_of_mem _ hj))) s
 have f2':=SbP.rp dd pk.1 pk.2 hs f2
 obtain ⟨zs2,b1,b2,b3⟩:=sl_Sl f2'
 have hEi':pubE ps Es j=some p0:=by rw [pubE_at,if_neg hnj,hp1]
 have hl':=Slots.list_take (hlt' j (List.mem_cons_self ..)) hEi'
 have hil:i<all.size:=hlt' i (List.mem_cons_of_mem _ (List.mem_cons_self ..))
 have hEn:((pubE ps Es).set j none) i=none:=by rw [Slots.set_ne _ hne,pubE_at,if_neg hni,hE0]
 have hEs:((pubE ps Es).set j none).set i none=(pubE ps Es).set j none:=by have:=Slots.set_same ((pubE ps Es).set j none) i;rwa [hEn] at this
 have s2:St K.w0 (pubH Es ps h) (p0::(Slots.list all.size ((pubE ps Es).set j none)++(L++K.G))) w:=St.perm s1 (hl'.append_right _)
 have hlen1:(catL zs).length=l1.length*ei.size:=by rw [cat_len g3.sz,g3.rp.len]
 have hlen2:(catL zs2).length=l2.length*ei.size:=by rw [cat_len b2,b1.len]
 have how:Ow ei.size a l1.length cap (catL zs) p0:=⟨g4,g2,hlen1,g5.elim (fun ⟨_,k2,k3,k4⟩=> .inl ⟨k2,k3,k4⟩) .inr⟩
 obtain ⟨w',x',a',n',cap',r1,r2,r3⟩:=run_appendOwn (ty:=o.type) K.ok ht hdd he hsz' hz1 (allOne_mem g3.oneAll) s2 how b3 (by rw [hlen1,hlen2,←Nat.add_mul];exact hb) (by rw [hlen1,hlen2,←Nat.add_mul];exact hby)
 have hn':n'=l1.length+l2.length:=by
  have:=r3.2.2.1
  rw [List.length_append,hlen1,hlen2,←Nat.add_mul] at this
  exact (Nat.eq_of_mul_eq_mul_right hsz' this).symm
 subst hn'
 have g3':=g3.mono pk.1
 have hrow:RpRow (pubH Es ps h) ei.size (.slice a' (l1.length+l2.length) cap') (l1++l2) x':=by
  refine ⟨a',cap',zs++zs2,by rw [List.length_append],by rw [List.length_append];exact r3.2.1,⟨g3'.rp.append b1,fun z hz=>?_,fun z hz=>?_⟩,r3.1,?_⟩
  ·rcases List.mem_append.1 hz with hz|hz
   ·exact g3.sz z hz
   ·exact b2 z hz
  ·rcases List.mem_append.1 hz with hz|hz
   ·exact g3.one z hz
   ·exact allElt_one hel _ zs2 b1 z hz
  ·have hcat:catL (zs++zs2)=catL zs++catL zs2:=by simp [catL]
   rcases r3.2.2.2 with ⟨k2,k3,k4⟩|k5
   ·refine .inl ⟨?_,k2,k3,k4⟩
    have:=r3.2.1
    exact List.length_eq_zero_iff.1 (by rw [List.length_append];omega)
   ·rw [hcat,List.length_append];exact .inr k5
 refine ⟨_,w',pubH Es ps h,((pubE ps Es).set j none).set i (some x'),?_,?_,pk.1,(next (.slice a' (l1.length+l2.length) cap')).run _ ⟨_::e.us,e.cs⟩ L _ (GH.le_trans hl pk.1) ⟨(r.1.mono pk.1).put (Rp_ms.2 ⟨rfl,_,_,rfl⟩),r.2.mono pk.1⟩ (q.mono pk.1) ((((dd.mono pk.1).pub ps).pub [j]).set ⟨x',hrow,rfl⟩)⟩
 ·unfold execOp
  rw [ho]
  have r1':Sem.run K.cfg.P (Builtin.append_ #[t,t] o.type #[Value.slice a l1.length cap,v2]) w=Result.ok (Value.slice a' (l1.length+l2.length) cap') w':=r1
  simp [resolve,invoke,builtin,g.ev hk e1,g.ev hk e2,r1']
 ·have hq:=Slots.list_put hil ((pubE ps Es).set j none) x'
  rw [hEs] at hq
  exact St.perm r2 (hq.append_right _).symm
end
end Go.Tp
namespace Go.Proofs.YtpcloejpklkieaaGreat
open Go Go.Tp
abbrev evA(x:EL):AV:= .ag [AI x.1,AI32 x.2]
abbrev trA(t:TR):AV:= .sl 2 (t.map evA) none
theorem trA_len(t:TR):((t.map evA).length:Int)=t.length:=by rw [List.length_map]
def cmpJ(x y:Int):Int:=if x<y then-1 else if y<x then 1 else 0
def orJ(x y:Int):Int:=if x=0 then y else x
def cmpV(x y:EL):Int:=orJ (cmpJ x.1 y.1) (cmpJ x.2 y.2)
def cmpT:TR→TR→Int
 | [],[]=>0
 | [],_::_=> -1
 |_::_,[]=>1
 |x::a,y::b=>if cmpV x y=0 then cmpT a b else cmpV x y
def cmpB(a b:TR):Int:=orJ (cmpJ (a.length:Nat) (b.length:Nat)) (cmpT a b)
theorem cmpV_zero{x y:EL}:cmpV x y=0↔x=y:=by
 obtain ⟨a,b⟩:=x
 obtain ⟨c,d⟩:=y
 unfold cmpV orJ cmpJ
 simp only [Prod.mk.injEq]
 repeat' split
 all_goals omega
theorem cmpV_lt{x y:EL}:cmpV x y<0↔ltE x y=true:=by
 obtain ⟨a,b⟩:=x
 obtain ⟨c,d⟩:=y
 unfold cmpV orJ cmpJ ltE
 simp only [Bool.or_eq_true,Bool.and_eq_true,decide_eq_true_eq]
 repeat' split
 all_goals omega
theorem cmpT_zero: ∀{a b:TR},cmpT a b=0↔a=b
 | [],[]=>by simp [cmpT]
 | [],_::_=>by simp [cmpT]
 |_::_,[]=>by simp [cmpT]
 |x::a,y::b=>by
  rw [cmpT]
  split
  ·rename_i h;rw [cmpV_zero] at h;subst h
   rw [cmpT_zero];simp
  ·rename_i h
   constructor
   ·intro h2;exact absurd h2 h
   ·intro h2;injection h2 with h2 h3;exact absurd (cmpV_zero.2 h2) h
theorem cmpT_lt: ∀{a b:TR},cmpT a b<0↔ltL a b=true
 | [],[]=>by simp [cmpT,ltL]
 | [],_::_=>by simp [cmpT,ltL]
 |_::_,[]=>by simp [cmpT,ltL]
 |x::a,y::b=>by
  rw [cmpT,ltL]
  split
  ·rename_i h;rw [cmpV_zero] at h;rw [if_pos h];exact cmpT_lt
  ·rename_i h;rw [if_neg (fun e=>h (cmpV_zero.2 e))];exact cmpV_lt
theorem cmpB_lt{a b:TR}:cmpB a b<0↔ltB a b=true:=by
 rw [ltB_iff,←cmpT_lt]
 unfold cmpB orJ cmpJ
 repeat' split
 all_goals omega
theorem nan64_p(x:Int):Pure Tryz.prog gs0 86 [AI x] (AB false):=by
 refine p_ tt_ok Tryz.func86 6 fun w0 h0 F hgs=>?_
 refine y_ ?_
 refine R_ ?_
 refine Sb.eq (ab_eq ?_)
 simp
theorem nan32_p(x:Int):Pure Tryz.prog gs0 87 [AI32 x] (AB false):=by
 refine p_ tt_ok Tryz.func87 6 fun w0 h0 F hgs=>?_
 refine y_ ?_
 refine R_ ?_
 refine Sb.eq (ab_eq ?_)
 simp
theorem cmp64_p(x y:Int):Pure Tryz.prog gs0 54 [AI x,AI y] (AI (cmpJ x y)):=by
 have h1:=nan64_p x
 have h2:=nan64_p y
 refine Exists.elim (show∃R,R=cmpJ x y from ⟨_,rfl⟩) fun R hR=>?_
 rw [←hR]
 unfold cmpJ at hR
 refine p_ tt_ok Tryz.func54 20 fun w0 h0 F hgs=>?_
 refine y_ ?_
 refine c_ h1 ?_
 refine n_ h2 ?_
 (repeat' first|refine A.s rfl ?_|refine A.r rfl rfl ?_|refine A.w rfl rfl ?_|refine A.p rfl ?_|refine A.b rfl fun bx=>?_|refine A.t rfl fun bl=>?_|((fail_if_success (refine A.lit? rfl ?_));refine A.gS rfl (fun hc=>?_) (fun hc=>?_))|((fail_if_success (refine A.litP? rfl ?_));refine A.gSP rfl (fun hc=>?_) (fun hc=>?_)))
 all_goals (refine R_ ?_;refine Sb.eq (ai_eq ?_);rw [hR];simp at*;omega)
theorem cmp32_p(x y:Int):Pure Tryz.prog gs0 55 [AI32 x,AI32 y] (AI (cmpJ x y)):=by
 have h1:=nan32_p x
 have h2:=nan32_p y
 refine Exists.elim (show∃R,R=cmpJ x y from ⟨_,rfl⟩) fun R hR=>?_
 rw [←hR]
 unfold cmpJ at hR
 refine p_ tt_ok Tryz.func55 20 fun w0 h0 F hgs=>?_
 refine y_ ?_
 refine c_ h1 ?_
 refine n_ h2 ?_
 (repeat' first|refine A.s rfl ?_|refine A.r rfl rfl ?_|refine A.w rfl rfl ?_|refine A.p rfl ?_|refine A.b rfl fun bx=>?_|refine A.t rfl fun bl=>?_|((fail_if_success (refine A.lit? rfl ?_));refine A.gS rfl (fun hc=>?_) (fun hc=>?_))|((fail_if_success (refine A.litP? rfl ?_));refine A.gSP rfl (fun hc=>?_) (fun hc=>?_)))
 all_goals (refine R_ ?_;refine Sb.eq (ai_eq ?_);rw [hR];simp at*;omega)
theorem or64_p(x y:Int):Pure Tryz.prog gs0 53 [.sl 1 [AI x,AI y] none] (AI (orJ x y)):=by
 refine Exists.elim (show∃R,R=orJ x y from ⟨_,rfl⟩) fun R hR=>?_
 rw [←hR]
 unfold orJ at hR
 refine p_ tt_ok Tryz.func53 18 fun w0 h0 F hgs=>?_
 refine y_ ?_
 refine A.loop1 ?_
 refine y_ ?_
 refine i_ rfl rfl rfl ?_
 refine k_ (fun hc=>?_) fun hc=>?_
 ·refine y_ ?_
  refine R_ ?_
  refine Sb.eq (ai_eq ?_)
  rw [hR];simp at hc;rw [if_neg hc]
 have hx:x=0:=by simpa using hc
 rw [if_pos hx] at hR
 clear hc
 refine y_ ?_
 refine A.again ?_
 refine y_ ?_
 refine i_ rfl rfl rfl ?_
 refine k_ (fun hc=>?_) fun hc=>?_
 ·refine y_ ?_
  refine R_ ?_
  rw [hR]
  exact .refl
 have hy:y=0:=by simpa using hc
 clear hc
 refine y_ ?_
 refine A.again ?_
 refine y_ ?_
 refine R_ ?_
 rw [hR,hy]
 exact .refl
theorem cmpV_p(x y:EL):Pure Tryz.prog gs0 52 [evA x,evA y] (AI (cmpV x y)):=by
 have h1:=cmp64_p x.1 y.1
 have h2:=cmp32_p x.2 y.2
 have h3:=or64_p (cmpJ x.1 y.1) (cmpJ x.2 y.2)
 refine p_ tt_ok Tryz.func52 17 fun w0 h0 F hgs=>?_
 (refine b_ fun bx=>?_;refine b_ fun bx=>?_;refine y_ ?_)
 refine d_ 9 [0,1,2,3,5,6,7,8,4] [(4,AI (cmpJ x.1 y.1))] ?_
 refine WA.c rfl rfl h1 (.sub .refl) ?_
 refine WA.nil (l:=[]) rfl ?_
 refine n_ h2 ?_
 refine t_ fun bl=>?_
 exact cr_ h3
theorem cmpF_p(a b:TR)(ha:a.length≤281474976710656):Pure Tryz.prog gs0 51 [trA a,trA b, .fn 52 [] []] (AI (cmpT a b)):=by
 have na:=trA_len a
 have nb:=trA_len b
 refine p_ tt_ok Tryz.func51 39 fun w0 h0 F hgs=>?_
 refine y_ ?_
 refine A.valE 12 rfl (x':=AI (a.length:Nat)) (ai_eq na) ?_
 refine A.keep [0,1,2,11,12,13] rfl ?_
 refine A.loopP (ι:=Nat) (fun i=>(⟨[(0,trA a),(1,trA b),(2, .fn 52 [] []),(11,trA a),(12,AI (a.length:Nat)),(13,AI (i:Nat))],[]⟩,[])) (fun i=>i≤a.length∧i≤b.length∧cmpT a b=cmpT (a.drop i) (b.drop i)) (fun i=>a.length-i) 0 ⟨Nat.zero_le _,Nat.zero_le _,rfl⟩ rfl fun i hi ih=>?_
 obtain ⟨hi1,hi2,hi3⟩:=hi
 refine y_ ?_
 refine k_ (fun hc=>?_) fun hc=>?_
 ·have hci:i<a.length:=by simpa using hc
  clear hc
  refine Exists.elim (at_exN (l:=a) (i:=i) hci) fun x hx=>?_
  refine y_ ?_
  refine j_ rfl (map_at hx) rfl ?_
  (repeat refine A.s rfl ?_)
  refine A.b rfl fun b8=>?_
  refine y_ ?_
  have hda:a.drop i=x::a.drop (i+1):=by rw [List.drop_eq_getElem_cons hci];rw [List.getElem?_eq_getElem hci] at hx;injection hx with hx;rw [hx]
  by_cases hcb:i<b.length
  ·refine A.gF rfl (by rw [nb,decide_eq_false_iff_not];omega) ?_
   refine Exists.elim (at_exN (l:=b) (i:=i) hcb) fun y hy=>?_
   have hdb:b.drop i=y::b.drop (i+1):=by rw [List.drop_eq_getElem_cons hcb];rw [List.getElem?_eq_getElem hcb] at hy;injection hy with hy;rw [hy]
   have hcv:=cmpV_p x y
   refine y_ ?_
   refine j_ rfl (map_at hy) rfl ?_
   (repeat refine A.s rfl ?_)
   refine A.b rfl fun b9=>?_
   refine y_ ?_
   refine c_ hcv ?_
   by_cases h0:cmpV x y=0
   ·refine F_ rfl (by rw [h0];rfl) ?_
    refine A.valE 13 rfl (x':=AI ((i+1:Nat):Int)) (inc_eq i (by omega)) ?_
    refine l_ (Λ':=[]) ?_
    refine u_ (ih (i+1) ⟨by omega,by omega,by rw [hi3,hda,hdb,cmpT,if_pos h0]⟩ (by omega))
   ·refine T_ rfl (by simpa using h0) ?_
    refine R_ ?_
    rw [hi3,hda,hdb,cmpT,if_neg h0]
    exact .refl
  ·refine T_ rfl (by rw [nb,decide_eq_true_eq];omega) ?_
   refine R_ ?_
   rw [hi3,hda,List.drop_eq_nil_of_le (by omega:b.length≤i)]
   exact .refl
 have hci: ¬i<a.length:=by simpa using hc
 clear hc ih
 have hda:a.drop i=[]:=List.drop_eq_nil_of_le (by omega)
 have hia:i=a.length:=by omega
 refine y_ ?_
 by_cases hcb:i<b.length
 ·refine T_ rfl (by rw [na,nb,decide_eq_true_eq];omega) ?_
  refine R_ ?_
  rw [hi3,hda,List.drop_eq_getElem_cons hcb]
  exact .refl
 ·refine F_ rfl (by rw [na,nb,decide_eq_false_iff_not];omega) ?_
  refine R_ ?_
  rw [hi3,hda,List.drop_eq_nil_of_le (by omega:b.length≤i)]
  exact .refl
theorem cmpT_p(a b:TR)(ha:a.length≤281474976710656):Pure Tryz.prog gs0 24 [trA a,trA b] (AI (cmpT a b)):=by
 have h1:=cmpF_p a b ha
 refine p_ tt_ok Tryz.func24 8 fun w0 h0 F hgs=>?_
 refine y_ ?_
 exact cr_ h1
theorem cmpB_p(a b:TR)(ha:a.length≤281474976710656):Pure Tryz.prog gs0 35 [trA a,trA b] (AI (cmpB a b)):=by
 have na:=trA_len a
 have nb:=trA_len b
 have h1:=cmp64_p (a.length:Nat) (b.length:Nat)
 have h2:=cmpT_p a b ha
 have h3:=or64_p (cmpJ (a.length:Nat) (b.length:Nat)) (cmpT a b)
 refine p_ tt_ok Tryz.func35 15 fun w0 h0 F hgs=>?_
 refine y_ ?_
 refine A.valE 6 rfl (x':=AI (a.length:Nat)) (ai_eq na) ?_
 refine A.valE 8 rfl (x':=AI (b.length:Nat)) (ai_eq nb) ?_
 refine c_ h1 ?_
 refine n_ h2 ?_
 refine t_ fun bl=>?_
 exact cr_ h3
theorem oneEv(l:TR): ∀x,x∈l.map evA→ ∃cs,x= .ag cs∧oneA cs=true:=by
 intro x hx
 obtain ⟨n,_,rfl⟩:=List.mem_map.1 hx
 exact ⟨_,rfl,rfl⟩
theorem cloneT_p(l:TR)(hb:l.length≤16777216):FunE Tryz.prog gs0 30 [trA l] [] (fun z:Value=> .ms z 2 l.length) (fun z=>[.row 2 z (l.map evA)]) (fun _=>True):=by
 unfold FunE
 have hlen:(l.map evA).length=l.length:=List.length_map ..
 have hone:=oneEv l
 show Fun _ _ _ [.sl 2 (l.map evA) none] _ _
 generalize l.map evA=L at hlen hone
 rw [←hlen] at hb⊢
 cases L with
 |nil=>
  refine Fun.of (S:=tt) (fn:=Tryz.f30) (n:=8) tt_ok Tryz.func30 rfl rfl rfl rfl fun w0 h0 F hgs=>?_
  refine y_ ?_
  refine A.eqNil rfl rfl rfl rfl rfl rfl rfl rfl fun b hb=>?_
  cases b
  ·refine y_ ?_
   refine A.lit0 rfl rfl rfl rfl rfl rfl rfl fun bl=>?_;refine y_ ?_;refine A.appendNewW rfl rfl rfl rfl rfl rfl rfl rfl rfl rfl rfl rfl rfl (by simp) (by simp) (fun x hx=>by injection hx with hx;subst hx;rfl) (row_oneA _ hone) fun z=>?_
   refine y_ ?_
   refine A.ret1 (Λ':=[.row 2 z _]) rfl rfl rfl sl_ ⟨z, .refl,rfl,trivial⟩
  ·refine y_ ?_
   refine A.emptyRow 2 2 rfl fun z=>?_
   refine A.ret1 (Λ':=[.row 2 z []]) rfl rfl rfl sl_ ⟨z, .refl,rfl,trivial⟩
 |cons x r=>
  refine Fun.of (S:=tt) (fn:=Tryz.f30) (n:=8) tt_ok Tryz.func30 rfl rfl rfl rfl fun w0 h0 F hgs=>?_
  refine y_ ?_
  refine A.eqNil rfl rfl rfl rfl rfl rfl rfl rfl fun b hb=>?_
  cases b
  case true=>cases hb rfl
  refine y_ ?_
  refine A.lit0 rfl rfl rfl rfl rfl rfl rfl fun bl=>?_;refine y_ ?_;refine A.appendNewW rfl rfl rfl rfl rfl rfl rfl rfl rfl rfl rfl rfl rfl (by show (x::r).length*2≤_;omega) (by show (x::r).length*2*16≤_;omega) (fun x hx=>by injection hx with hx;subst hx;rfl) (row_oneA _ hone) fun z=>?_
  refine y_ ?_
  refine A.ret1 (Λ':=[.row 2 z _]) rfl rfl rfl sl_ ⟨z, .refl,rfl,trivial⟩
theorem with_p(t:TR)(m:MV)(ht:t.length≤1048576):Pure Tryz.prog gs0 29 [trA t,encMV m] (trA (withM t (evM m,m.next))):=by
 by_cases hk:m.kind=2
 ·have hw:withM t (evM m,m.next)=t++[(m.ec,m.ev)]:=by unfold withM evM;rw [if_pos hk]
  have hcl:=cloneT_p t (by omega)
  rw [hw]
  refine p_ tt_ok Tryz.func29 15 fun w0 h0 F hgs=>?_
  (refine b_ fun bx=>?_;refine y_ ?_)
  refine F_ rfl (by rw [hk];rfl) ?_
  refine A.draw 6 [0,2,3,1,4,5] (fun i=>if i=1 then [1,0] else if i=5 then [5,4] else []) [] (by kernel_rfl) (by kernel_rfl) ?_
  refine w_ ?_
  refine WA.callG rfl rfl rfl rfl rfl rfl rfl rfl rfl hcl .refl fun z2 _=>?_
  refine WA.lit rfl rfl rfl rfl rfl rfl rfl fun bw=>?_
  refine WA.appendM 1 rfl rfl rfl rfl rfl rfl rfl rfl rfl rfl rfl rfl rfl rfl rfl rfl rfl rfl rfl rfl rfl rfl rfl (.pub (j:=4) rfl rfl (.sub .refl)) (by show ((t.map evA).length+1)*2≤_;rw [List.length_map];omega) (by show ((t.map evA).length+1)*2*16≤_;rw [List.length_map];omega) fun z3=>?_
  refine WA.nil (l:=[_]) rfl ?_
  refine A.freezeRow 14 rfl ?_
  refine y_ ?_
  refine R_ ?_
  refine Sb.eq ?_
  show AV.sl 2 (t.map evA++[evA (m.ec,m.ev)]) none= .sl 2 ((t++[(m.ec,m.ev)]).map evA) none
  rw [List.map_append];rfl
 ·have hw:withM t (evM m,m.next)=t:=by unfold withM evM;rw [if_neg hk]
  rw [hw]
  refine p_ tt_ok Tryz.func29 15 fun w0 h0 F hgs=>?_
  (refine b_ fun bx=>?_;refine y_ ?_)
  refine T_ rfl (by simpa using hk) ?_
  exact r_
abbrev knum(n:Int):KE:=⟨1,0,0,n,0,[]⟩
abbrev kvar(v:Int):KE:=⟨2,0,0,0,v,[]⟩
abbrev pOut:PR:=⟨6,2,0,1,[],[knum 5],[],[]⟩
abbrev pIn:PR:=⟨5,2,0,1,[⟨0,[]⟩],[],[],[]⟩
abbrev pTell:PR:=⟨6,1,0,1,[],[kvar 0],[],[]⟩
abbrev pSeq:PR:=⟨9,0,0,0,[],[],[],[pIn,pTell]⟩
abbrev pRoot:PR:=⟨10,0,0,0,[],[],[],[pOut,pSeq]⟩
theorem zero_sm:SmN ⟨[],[],⟨0,0,0,0,[],[],[],[]⟩,[]⟩ where
 wf:=⟨by decide,by decide,by decide,by simp [wfR,wfRl,wfGl,wfKl,wfK,wfPl,i32,i64,Go.Tp.u8]⟩
 root:=by simp [smR,smRl,smGl,smK,smKl,smP]
abbrev st0:ST:=⟨[[0]],pRoot,[],0⟩
abbrev st2:ST:=⟨[[5]],skipR,[],0⟩
theorem GoodK.sms{k:KN}{s:ST}(h:GoodK k s):SmS s:=⟨by have:=h.innl;omega,h.short,(okF_sm h.root).2.1⟩
section
variable{V:List KV}{C:List Int}
theorem unt_no_l{p x:PR}(hx:x∈p.l)(h:untR x=false):untR p=false:=by
 cases hp:untR p with
 |false=>rfl
 |true=>have:=(unt_iff.1 hp).2.1 x hx;rw [h] at this;cases this
theorem unt_no_g{p:PR}{g:GD}(hg:g∈p.gs)(h:g.kind=4):untR p=false:=by
 cases hp:untR p with
 |false=>rfl
 |true=>exact absurd h ((unt_iff.1 hp).1.gs g hg)
theorem unt_no_b{p x:PR}{g:GD}(hg:g∈p.gs)(hb:g.body=[x])(h:untR x=false):untR p=false:=by
 cases hp:untR p with
 |false=>rfl
 |true=>
  have:=(unt_iff.1 hp).2.2 g hg
  rw [hb,untL_all] at this
  have:=this x (.head _)
  rw [h] at this;cases this
theorem unt_yes{p:PR}(h7:p.kind≠7)(h8:p.kind≠8)(hl: ∀x,x∈p.l→untR x=true)(hg: ∀g,g∈p.gs→g.kind≠4∧ ∃y,g.body=[y]∧untR y=true):untR p=true:=by
 refine unt_iff.2 ⟨⟨h7,h8,fun g h=>(hg g h).1⟩,hl,fun g h=>?_⟩
 obtain ⟨_,y,e,hy⟩:=hg g h
 rw [e,untL_all]
 intro x hx
 rw [List.mem_singleton.1 hx];exact hy
theorem unt_f(p:PR)(hs:smR p)(hbd: ∀g,g∈p.gs→ ∃y,g.body=[y])(hl: ∀x,x∈p.l→Pure Tryz.prog gs0 50 [cellsR x] (AB (untR x)))(hg: ∀g,g∈p.gs→ ∀x,x∈g.body→Pure Tryz.prog gs0 50 [cellsR x] (AB (untR x))):
 Pure Tryz.prog gs0 50 [cellsR p] (AB (untR p)):=by
 have hsa:=smR_all hs
 have hll:=hsa.ll
 have hgl:=hsa.gl
 have n1:((encRl p.l).length:Int)=p.l.length:=by rw [encRl_len]
 have n2:((encGl p.gs).length:Int)=p.gs.length:=by rw [encGl_len]
 by_cases h7:p.kind=7
 ·have hu:untR p=false:=by
   cases hp:untR p with
   |false=>rfl
   |true=>exact absurd h7 (unt_iff.1 hp).1.k7
  rw [hu]
  refine p_ tt_ok Tryz.func50 45 fun w0 h0 F hgs=>?_
  (refine b_ fun bx=>?_;refine y_ ?_)
  refine e_ 10 rfl (x':=AB true) (ab_eq (by rw [h7];rfl)) ?_
  exact r_
 by_cases h8:p.kind=8
 ·have hu:untR p=false:=by
   cases hp:untR p with
   |false=>rfl
   |true=>exact absurd h8 (unt_iff.1 hp).1.k8
  rw [hu]
  refine p_ tt_ok Tryz.func50 45 fun w0 h0 F hgs=>?_
  (refine b_ fun bx=>?_;refine y_ ?_)
  refine e_ 10 rfl (x':=AB false) (ab_eq (by rw [h8];rfl)) ?_
  refine T_ rfl (by rw [h8];rfl) ?_
  exact r_
 refine Exists.elim (show∃R,R=untR p from ⟨_,rfl⟩) fun R hR=>?_
 rw [←hR]
 refine p_ tt_ok Tryz.func50 45 fun w0 h0 F hgs=>?_
 (refine b_ fun bx=>?_;refine y_ ?_)
 refine e_ 10 rfl (x':=AB false) (ab_eq (beq_eq_false_iff_ne.2 h7)) ?_
 refine F_ rfl (beq_eq_false_iff_ne.2 h8) ?_
 refine A.freeze 1 (sz:=8) rfl rfl rfl ?_
 refine A.valE 17 rfl (x':=AI (p.l.length:Nat)) (ai_eq n1) ?_
 refine A.keep [1,16,17,18] rfl ?_
 refine l_ (Λ':=[]) ?_
 refine A.loopP (ι:=Nat) (fun i=>(⟨[(1, .pe 8 (cellsR p)),(16,rsA p.l),(17,AI (p.l.length:Nat)),(18,AI (i:Nat))],[]⟩,[])) (fun i=>i≤p.l.length∧ ∀x,x∈p.l.take i→untR x=true) (fun i=>p.l.length-i) 0 ⟨Nat.zero_le _,fun x h=>by rw [List.take_zero] at h;cases h⟩ rfl fun i hi ih=>?_
 obtain ⟨hi1,hi2⟩:=hi
 refine y_ ?_
 refine k_ (fun hc=>?_) fun hc=>?_
 ·have hci:i<p.l.length:=by simpa using hc
  clear hc
  refine Exists.elim (at_exN (l:=p.l) (i:=i) hci) fun x hx=>?_
  have hxm:=List.mem_of_getElem? hx
  have hcall:=hl x hxm
  have htk:p.l.take (i+1)=p.l.take i++[x]:=by rw [List.take_add_one,hx];rfl
  refine y_ ?_
  refine j_ rfl (encRl_at hx) (encR_eq x) ?_
  (repeat refine A.s rfl ?_)
  refine A.b rfl fun b4=>?_
  refine y_ ?_
  refine c_ hcall ?_
  refine k_ (fun hc=>?_) fun hc=>?_
  ·have hx0:untR x=false:=by simpa using hc
   refine y_ ?_
   refine R_ ?_
   rw [hR,unt_no_l hxm hx0]
   exact .refl
  ·have hx1:untR x=true:=by simpa using hc
   clear hc
   refine y_ ?_
   refine A.valE 18 rfl (x':=AI ((i+1:Nat):Int)) (inc_eq i (by omega)) ?_
   refine l_ (Λ':=[]) ?_
   refine u_ (ih (i+1) ⟨by omega,fun y hy=>?_⟩ (by omega))
   rw [htk,List.mem_append] at hy
   rcases hy with hy|hy
   ·exact hi2 y hy
   ·rw [List.mem_singleton.1 hy];exact hx1
 have hci: ¬i<p.l.length:=by simpa using hc
 clear hc ih
 have hil:i=p.l.length:=by omega
 rw [hil,List.take_length] at hi2
 refine y_ ?_
 refine A.valE 28 rfl (x':=AI (p.gs.length:Nat)) (ai_eq n2) ?_
 refine A.keep [1,27,28,29] rfl ?_
 refine A.loopP (ι:=Nat) (fun j=>(⟨[(1, .pe 8 (cellsR p)),(27,gsA p.gs),(28,AI (p.gs.length:Nat)),(29,AI (j:Nat))],[]⟩,[])) (fun j=>j≤p.gs.length∧ ∀g,g∈p.gs.take j→g.kind≠4∧ ∃y,g.body=[y]∧untR y=true) (fun j=>p.gs.length-j) 0 ⟨Nat.zero_le _,fun x h=>by rw [List.take_zero] at h;cases h⟩ rfl fun j hj jh=>?_
 obtain ⟨hj1,hj2⟩:=hj
 refine y_ ?_
 refine k_ (fun hc=>?_) fun hc=>?_
 ·have hcj:j<p.gs.length:=by simpa using hc
  clear hc
  refine Exists.elim (at_exN (l:=p.gs) (i:=j) hcj) fun g hgj=>?_
  have hgm:=List.mem_of_getElem? hgj
  have htk:p.gs.take (j+1)=p.gs.take j++[g]:=by rw [List.take_add_one,hgj];rfl
  refine Exists.elim (hbd g hgm) fun y hy=>?_
  have hcall:=hg g hgm y (by rw [hy];exact .head _)
  have hat:(encRl g.body)[(0:Int).toNat]? =some (encR y):=encRl_at (by rw [hy];rfl)
  refine y_ ?_
  refine j_ rfl (encGl_at hgj) (encG_eq g) ?_
  (repeat refine A.s rfl ?_)
  refine A.b rfl fun b6=>?_
  refine y_ ?_
  by_cases h4:g.kind=4
  ·refine e_ 36 rfl (x':=AB true) (ab_eq (by rw [h4];rfl)) ?_
   refine R_ ?_
   rw [hR,unt_no_g hgm h4]
   exact .refl
  ·refine e_ 36 rfl (x':=AB false) (ab_eq (beq_eq_false_iff_ne.2 h4)) ?_
   refine i_ rfl hat (encR_eq y) ?_
   refine c_ hcall ?_
   refine k_ (fun hc=>?_) fun hc=>?_
   ·have hx0:untR y=false:=by simpa using hc
    refine y_ ?_
    refine R_ ?_
    rw [hR,unt_no_b hgm hy hx0]
    exact .refl
   ·have hx1:untR y=true:=by simpa using hc
    clear hc
    refine y_ ?_
    refine A.valE 29 rfl (x':=AI ((j+1:Nat):Int)) (inc_eq j (by omega)) ?_
    refine l_ (Λ':=[]) ?_
    refine u_ (jh (j+1) ⟨by omega,fun g' hg'=>?_⟩ (by omega))
    rw [htk,List.mem_append] at hg'
    rcases hg' with hg'|hg'
    ·exact hj2 g' hg'
    ·rw [List.mem_singleton.1 hg'];exact ⟨h4,y,hy,hx1⟩
 have hcj: ¬j<p.gs.length:=by simpa using hc
 clear hc jh
 have hjl:j=p.gs.length:=by omega
 rw [hjl,List.take_length] at hj2
 refine y_ ?_
 refine R_ ?_
 rw [hR,unt_yes h7 h8 hi2 hj2]
 exact .refl
theorem unt_n: ∀(m:Nat) (p:PR) (n hi:Bool),SizeOf.sizeOf p≤m→okF (Loc V C) n hi p→Pure Tryz.prog gs0 50 [cellsR p] (AB (untR p))
 |0,p,_,_,h,_=>by
  obtain ⟨k,c,v,i,to,e,gs,l⟩:=p
  simp only [PR.mk.sizeOf_spec] at h;omega
 |m+1,p,n,hi,hm,w=>by
  have hs:=(okF_sm w).2.1
  rw [okF_eq] at w
  obtain ⟨⟨w1,w2,w3⟩,w4,w5⟩:=w
  refine unt_f p hs w1.body (fun x hx=>?_) (fun g hg x hx=>?_)
  ·obtain ⟨n',h',hw⟩:=okFl_some w4 hx
   exact unt_n m x n' h' (by have:=pr_lt hx;omega) hw
  ·have:=okFs_mem w5 g hg
   rw [okFg_eq] at this
   obtain ⟨n',h',hw⟩:=okFl_some this hx
   exact unt_n m x n' h' (by have:=gg_lt hg;have:=bd_lt hx;omega) hw
end
theorem unt_p{k:KN}(hk:SmN k)(hm:mayK k=true):Pure Tryz.prog gs0 50 [cellsR k.root] (AB (untR k.root)):=unt_n _ k.root true false (Nat.le_refl _) (start_root hm hk.wf hk.root)
def checkX(k:KN)(n most:Int):Int:=if mayK k=false∨n<0∨most<1 then 2 else if 4096<most then 3 else if untR k.root=false then 8 else 0
theorem checkX_p(k:KN)(hk:SmN k)(n most:Int):Pure Tryz.prog gs0 22 [encN k,AI n,AI most] (AI (checkX k n most)):=by
 have h1:=kmay_p k hk.wf
 by_cases hm:mayK k=true
 case neg=>
  have hm:mayK k=false:=by simpa using hm
  rw [hm] at h1
  have e:checkX k n most=2:=by unfold checkX;rw [if_pos (.inl hm)]
  rw [e]
  refine p_ tt_ok Tryz.func22 23 fun w0 h0 F hgs=>?_
  (refine b_ fun bx=>?_;refine y_ ?_)
  exact cr_ h1
 have h2:=unt_p hk hm
 rw [hm] at h1
 refine Exists.elim (show∃R,R=checkX k n most from ⟨_,rfl⟩) fun R hR=>?_
 rw [←hR]
 unfold checkX at hR
 by_cases c1:n<0
 ·rw [if_pos (.inr (.inl c1))] at hR
  rw [hR]
  refine p_ tt_ok Tryz.func22 23 fun w0 h0 F hgs=>?_
  (refine b_ fun bx=>?_;refine y_ ?_)
  refine c_ h1 ?_
  refine T_ rfl (by rw [decide_eq_true_eq];exact c1) ?_
  exact r_
 by_cases c2:most<1
 ·rw [if_pos (.inr (.inr c2))] at hR
  rw [hR]
  refine p_ tt_ok Tryz.func22 23 fun w0 h0 F hgs=>?_
  (refine b_ fun bx=>?_;refine y_ ?_)
  refine c_ h1 ?_
  refine F_ rfl (by rw [decide_eq_false_iff_not];exact c1) ?_
  refine T_ rfl (by rw [decide_eq_true_eq];exact c2) ?_
  exact r_
 rw [if_neg (by rintro (h|h|h);rw [hm] at h;cases h;exact c1 h;exact c2 h)] at hR
 by_cases c3:4096<most
 ·rw [if_pos c3] at hR
  rw [hR]
  refine p_ tt_ok Tryz.func22 23 fun w0 h0 F hgs=>?_
  (refine b_ fun bx=>?_;refine y_ ?_)
  refine c_ h1 ?_
  refine F_ rfl (by rw [decide_eq_false_iff_not];exact c1) ?_
  refine F_ rfl (by rw [decide_eq_false_iff_not];exact c2) ?_
  refine T_ rfl (by rw [decide_eq_true_eq];exact c3) ?_
  exact r_
 rw [if_neg c3] at hR
 refine p_ tt_ok Tryz.func22 23 fun w0 h0 F hgs=>?_
 (refine b_ fun bx=>?_;refine y_ ?_)
 refine c_ h1 ?_
 refine F_ rfl (by rw [decide_eq_false_iff_not];exact c1) ?_
 refine F_ rfl (by rw [decide_eq_false_iff_not];exact c2) ?_
 refine F_ rfl (by rw [decide_eq_false_iff_not];exact c3) ?_
 refine c_ h2 ?_
 refine k_ (fun hc=>?_) fun hc=>?_
 ·have hx0:untR k.root=false:=by simpa using hc
  refine y_ ?_
  refine R_ ?_
  rw [hR,if_pos hx0]
  exact .refl
 ·have hx1:untR k.root=true:=by simpa using hc
  refine y_ ?_
  refine R_ ?_
  rw [hR,if_neg (by rw [hx1];decide)]
  exact .refl
abbrev pairC(y:TR×ST):List AV:=[trA y.1,rowsA y.2.store,AU8 y.2.root.kind,AI y.2.root.c,AI y.2.root.v,AU8 y.2.root.item,plsA y.2.root.to,kesA y.2.root.e,gsA y.2.root.gs,rsA y.2.root.l,rowA y.2.inn,AI32 y.2.time]
abbrev pairA(y:TR×ST):AV:= .ag (pairC y)
theorem first_y(k:KN)(hk:SmN k)(hm:mayK k=true)(inn:List Int)(hi:inn.length≤35184372088832):Pure Tryz.prog gs0 27 [encN k,rowA inn] (pairA ([],startS k inn)):=by
 have h1:=start_yes k hk hm inn hi
 refine p_ tt_ok Tryz.func27 15 fun w0 h0 F hgs=>?_
 (refine b_ fun bx=>?_;refine b_ fun bx=>?_;refine y_ ?_)
 refine n_ h1 ?_
 (refine b_ fun bx=>?_;refine y_ ?_)
 refine A.retC (Λ':=[]) rfl rfl rfl rfl rfl (List.nil_sublist _) ⟨?_,rfl⟩;exact s_
theorem steps_len{k:KN}{s:ST}(hg:GoodK k s):(realM s).length≤6710968320:=by
 have h1:=acts_len hg
 have h2:=part_len (s:=s) (Nat.le_trans h1 hg.wt) (actsM s).length
 unfold partM at h2
 rw [List.take_length] at h2
 exact h2
theorem steps_p{k:KN}{s:ST}(hg:GoodK k s):Pure Tryz.prog gs0 28 [encN k,encST s] (.sl 14 (movsA (realM s)) none):=by
 have h1:=movesG_p k s hg
 have hl:=steps_len hg
 have n1:((movsA (movesM s)).length:Int)=(realM s).length+1:=by rw [List.length_map,moves_pos];omega
 refine p_ tt_ok Tryz.func28 15 fun w0 h0 F hgs=>?_
 (refine b_ fun bx=>?_;refine b_ fun bx=>?_;refine y_ ?_)
 refine c_ h1 ?_
 have n2:(if IntKind.i64.wrap (((movsA (movesM s)).length:Int)-1)>0 then IntKind.i64.wrap (((movsA (movesM s)).length:Int)-1) else 0)=((realM s).length:Int):=by
  rw [n1,wr64 _ (by omega)]
  split<;>omega
 refine A.valE 13 rfl (x':=AI ((realM s).length:Nat)) (ai_eq n2) ?_
 refine A.slice (ys:=movsA (realM s)) rfl rfl rfl rfl rfl rfl rfl rfl rfl (Int.le_refl 0) (by show (0:Int)≤((realM s).length:Nat);omega) (by rw [n1];omega) (by
  show ((movsA (movesM s)).drop 0).take ((((realM s).length:Nat):Int).toNat-0)=_
  rw [List.drop_zero,Int.toNat_natCast,Nat.sub_zero,moves_eq]
  show ((realM s++[tickM s]).map encMV).take _=_
  rw [List.map_append,List.take_append_of_le_length (by rw [List.length_map];omega),List.take_of_length_le (by rw [List.length_map];omega)]) rfl ?_
 exact yr_
theorem pairs_p(x y:TR×ST)(h:SmS x.2):Pure Tryz.prog gs0 61 [pairA x,pairA y] (AB (sameStB x.2 y.2)):=by
 have h1:=ssame_p x.2 y.2 h
 refine p_ tt_ok Tryz.func61 10 fun w0 h0 F hgs=>?_
 (refine b_ fun bx=>?_;refine b_ fun bx=>?_;refine y_ ?_)
 exact cr_ h1
def samePB(x y:TR×ST):Bool:=(cmpT x.1 y.1==0)&&sameStB x.2 y.2
theorem pairt_p(x y:TR×ST)(h:SmS x.2)(hl:x.1.length≤281474976710656):Pure Tryz.prog gs0 23 [pairA x,pairA y] (AB (samePB x y)):=by
 have h1:=ssame_p x.2 y.2 h
 have h2:=cmpT_p x.1 y.1 hl
 unfold samePB
 by_cases h0:cmpT x.1 y.1=0
 ·have e:(cmpT x.1 y.1==0)=true:=by rw [h0];rfl
  rw [e]
  refine p_ tt_ok Tryz.func23 18 fun w0 h0 F hgs=>?_
  (refine b_ fun bx=>?_;refine b_ fun bx=>?_;refine y_ ?_)
  refine c_ h2 ?_
  refine e_ 11 rfl (x':=AB true) (ab_eq e) ?_
  exact cr_ h1
 ·have e:(cmpT x.1 y.1==0)=false:=by simpa using h0
  rw [e]
  refine p_ tt_ok Tryz.func23 18 fun w0 h0 F hgs=>?_
  (refine b_ fun bx=>?_;refine b_ fun bx=>?_;refine y_ ?_)
  refine c_ h2 ?_
  refine e_ 11 rfl (x':=AB false) (ab_eq e) ?_
  exact r_
theorem trsame_p(a b:TR)(hl:a.length≤281474976710656):Pure Tryz.prog gs0 33 [trA a,trA b] (AB (cmpT a b==0)):=by
 have h2:=cmpT_p a b hl
 refine p_ tt_ok Tryz.func33 9 fun w0 h0 F hgs=>?_
 refine y_ ?_
 exact cr_ h2
end Go.Proofs.YtpcloejpklkieaaGreat
namespace Go.Tp
open Go Go.RowKit
theorem subL_ext{B:List Value}: ∀(cs:List Value) (k n:Nat) {r:List Value},subL cs k n=some r→subL (cs++B) k n=some r
 | [],0,0,r,h=>by cases B<;>exact h
 |_::_,0,0,r,h=>h
 | [],k+1,0,r,h=>by simp [subL] at h
 | [],0,n+1,r,h=>by simp [subL] at h
 | [],k+1,n+1,r,h=>by simp [subL] at h
 |c::cs,0,n+1,r,h=>by
  rw [List.cons_append]
  simp only [subL] at h⊢
  split at h
  ·rename_i r' hr
   rw [subL_ext cs 0 n hr];exact h
  ·cases h
 |_::cs,k+1,0,r,h=>by
  rw [List.cons_append]
  simp only [subL] at h⊢
  exact subL_ext cs k 0 h
 |_::cs,k+1,n+1,r,h=>by
  rw [List.cons_append]
  simp only [subL] at h⊢
  exact subL_ext cs k (n+1) h
theorem subL_in{cs B:List Value}{k n:Nat}{r:List Value}(h:subL cs k n=some r): ∀A:List Value,subL (A++(cs++B)) (A.length+k) n=some r
 | []=>by rw [List.nil_append,List.length_nil,Nat.zero_add];exact subL_ext cs k n h
 |a::A=>by
  rw [List.cons_append,List.length_cons,show A.length+1+k=(A.length+k)+1 by omega]
  have e:subL (a::(A++(cs++B))) ((A.length+k)+1) n=subL (A++(cs++B)) (A.length+k) n:=by
   cases n<;>simp only [subL]
  rw [e];exact subL_in h A
theorem ldV_in{ti:TI}{A B cs:List Value}{b b' o0 k0:Nat}{v:Value}(h:ldV ti ⟨b',0,cs,none⟩ k0=some v):ldV ti ⟨b,o0,A++(cs++B),none⟩ (o0+A.length+k0)=some v:=by
 have h0:Nat.ble 0 k0=true:=by cases k0<;>rfl
 have hle:Nat.ble o0 (o0+A.length+k0)=true:=Nat.ble_eq_true_of_le (by omega)
 simp only [ldV,h0,hle,Nat.sub_zero,show o0+A.length+k0-o0=A.length+k0 by omega] at h⊢
 unfold partv at h⊢
 split at h
 ·split at h
  ·rename_i r hr
   rw [subL_in hr A];exact h
  ·cases h
 ·rw [nthL_eq] at h⊢
  have hk:k0<cs.length:=(List.getElem?_eq_some_iff.1 h).1
  rw [List.getElem?_append_right (by omega),show A.length+k0-A.length=k0 by omega,List.getElem?_append_left hk]
  exact h
theorem row_split{zs:List Value}{i:Nat}{z0:Value}(sp:List Value)(hz0:zs[i]? =some z0):catL zs++sp=catL (zs.take i)++(cellsL z0++(catL (zs.drop (i+1))++sp)):=by
 have hi:i<zs.length:=(List.getElem?_eq_some_iff.1 hz0).1
 have hzs:zs=zs.take i++z0::zs.drop (i+1):=by
  have:=List.take_append_drop i zs
  rw [List.drop_eq_getElem_cons hi] at this
  rw [List.getElem?_eq_getElem hi] at hz0
  injection hz0 with hz0
  rw [hz0] at this
  exact this.symm
 conv=>lhs;rw [hzs]
 rw [catL_app,List.append_assoc]
 congr 1
 show (cellsL z0++catL (zs.drop (i+1)))++sp=_
 rw [List.append_assoc]
section
variable{K:AC}{k:List It}{E:AEnv}{Λ:List AEnt}
theorem A.loadPart{all:Array Oper}{o:Oper}{l:List Oper}{ks:List (Nat×Bool)}{t:TypeId}{p:Operand}{b sz off:Nat}(i k0:Nat){xs:List AV}{ti:TI}{x y:AV}{E':AEnv}
 (hg:gyesA E all o.guard=some ks) (ho:o.op= .load t p) (hp:E.ev K.gs ks p=some (.v (.pointer (some ⟨b,off,none⟩)))) (ht:K.S.get t=some ti) (n c o0:Nat) [j:ARow Λ (.slice (some ⟨b,o0,none⟩) n c) sz xs] (hoff:off=o0+i*sz+k0)
 (hx:xs[i]? =some x) (hld:ldA ti x k0=some y) (hput:E.put K.n none o.dst y=some E') (next:A K (.ops all l::k) E' Λ):A K (.ops all (o::l)::k) E Λ:=by
 subst hoff
 refine ⟨fun h e L hl r q=>?_⟩
 obtain ⟨v1,e1,f1⟩:=r.ev (K.hgs.mono hl) _ hp
 rw [Rp_v] at f1;rw [f1.1] at e1
 obtain ⟨M,m1,pp,⟨a,cap',zs,g1,g2,g3,g4,g5⟩,rfl⟩:=q.mem j.mem
 injection g1 with g1 g1' g1''
 subst g1;subst g1';subst g1''
 rcases g5 with ⟨g5,_⟩|⟨b',off',sp,g6,rfl,g9⟩
 ·subst g5;cases hx
 ·injection g6 with g6;injection g6 with g6 g7;subst g6;subst g7
  obtain ⟨z0,hz0,hr0⟩:=g3.rp.at hx
  obtain ⟨v,s1,s2⟩:=ldA_rp (b:=b) hr0 hld
  have hzl:zs.length=xs.length:=g3.rp.len
  have hi:i<xs.length:=(List.getElem?_eq_some_iff.1 hx).1
  have hA:(catL (zs.take i)).length=i*sz:=by
   rw [(g3.takeN i).clen,List.length_take,Nat.min_eq_left (by omega)]
  have hv:ldV ti ⟨b,o0,catL zs++sp,none⟩ (o0+i*sz+k0)=some v:=by
   rw [row_split sp hz0,←hA];exact ldV_in s1
  obtain ⟨e',e5,e6⟩:=putA_eq r hput s2
  exact V.loadY (C:=K.cfg) (gyesA_eq r hg) ho e1 ht (i:=⟨List.mem_append_left _ (m1 _ (List.mem_singleton.2 rfl)),rfl⟩) hv e5 (next.run h e' L hl e6 q)
end
section
variable{K:AC}{all:Array Oper}{m:Nat}{k:List It}{pubs:Nat→List Nat}{Y:Ua}{π:List Nat}{E:AEnv}{Λ:List AEnt}{D:Da}
theorem WA.epV(t:Nat){b o0 n c sz i:Nat}(hx:lookA E.us t=some (.ep (.slice (some ⟨b,o0,none⟩) n c) sz i))(next:WA K all m k pubs Y π ⟨(t, .v (.pointer (some ⟨b,o0+i*sz,none⟩)))::E.us,E.cs⟩ Λ D):WA K all m k pubs Y π E Λ D:=by
 refine ⟨fun h e L Es hl r q d=>?_⟩
 rcases r.1.look t with ⟨y,v,e1,e2,e3⟩|⟨e1,e2⟩
 ·rw [hx] at e1;injection e1 with e1;subst e1
  rw [Rp_ep] at e3
  obtain ⟨b',o',n',c',e4,_,e5⟩:=e3
  injection e4 with e4;injection e4 with e4;injection e4 with e6 e7
  subst e6;subst e7;subst e5
  exact WE.val (G:=drawRg K.cfg all (L++K.G) pubs (YA Y) m k) t e2 rfl (next.run h ⟨(t,_)::e.us,e.cs⟩ L Es hl ⟨r.1.put (Rp_v.2 ⟨rfl,rfl⟩),r.2⟩ q d)
 ·rw [hx] at e1;cases e1
theorem WA.loadPart{i0:Nat}{o:Oper}{ks:List (Nat×Bool)}{t:TypeId}{p:Operand}{b sz off:Nat}(i k0:Nat){xs:List AV}{ti:TI}{x y:AV}{E':AEnv}(hi0:nthL all.toList i0=some o)
 (hg:gyesA E all o.guard=some ks) (ho:o.op= .load t p) (hp:E.ev K.gs ks p=some (.v (.pointer (some ⟨b,off,none⟩)))) (ht:K.S.get t=some ti) (n c o0:Nat) [j:ARow Λ (.slice (some ⟨b,o0,none⟩) n c) sz xs] (hoff:off=o0+i*sz+k0)
 (hx:xs[i]? =some x) (hld:ldA ti x k0=some y) (hput:E.put K.n none o.dst y=some E') (next:WA K all m k pubs Y π E' Λ D):WA K all m k pubs Y (i0::π) E Λ D:=by
 subst hoff
 refine ⟨fun h e L Es hl r q d=>?_⟩
 obtain ⟨v1,e1,f1⟩:=r.ev (K.hgs.mono hl) _ hp
 rw [Rp_v] at f1;rw [f1.1] at e1
 obtain ⟨M,m1,pp,⟨a,cap',zs,g1,g2,g3,g4,g5⟩,rfl⟩:=q.mem j.mem
 injection g1 with g1 g1' g1''
 subst g1;subst g1';subst g1''
 rcases g5 with ⟨g5,_⟩|⟨b',off',sp,g6,rfl,g9⟩
 ·subst g5;cases hx
 ·injection g6 with g6;injection g6 with g6 g7;subst g6;subst g7
  obtain ⟨z0,hz0,hr0⟩:=g3.rp.at hx
  obtain ⟨v,s1,s2⟩:=ldA_rp (b:=b) hr0 hld
  have hzl:zs.length=xs.length:=g3.rp.len
  have hi:i<xs.length:=(List.getElem?_eq_some_iff.1 hx).1
  have hA:(catL (zs.take i)).length=i*sz:=by
   rw [(g3.takeN i).clen,List.length_take,Nat.min_eq_left (by omega)]
  have hv:ldV ti ⟨b,o0,catL zs++sp,none⟩ (o0+i*sz+k0)=some v:=by
   rw [row_split sp hz0,←hA];exact ldV_in s1
  obtain ⟨e',e4,e5⟩:=putA_eq r hput s2
  exact WE.valueY (G:=drawRg K.cfg all (L++K.G) pubs (YA Y) m k) hi0 (kd_load ho) (gyesA_eq r hg) (fun a w E0 g s hk=>by
   have:=run_ldV (TT.Ok.get K.ok ht) (s.own ⟨b,o0,catL zs++sp,none⟩ (List.mem_append_right _ (List.mem_append_left _ (m1 _ (List.mem_singleton.2 rfl))))) rfl hv
   unfold execOp
   rw [ho]
   have this:Sem.run K.cfg.P (Instr.loadAt t (Value.pointer (some ⟨b,o0+i*sz+k0,none⟩))) w= .ok v w:=this
   simp only [g.ev hk e1,Sem.run_bind,this,Result.andThen_ok,Sem.run_pure]) e4 (next.run h e' L Es hl e5 q d)
end
end Go.Tp
namespace Go.Tp
open Go Go.RowKit
theorem run_append_grow_zeros{P:Program}(w:World)(t tn ty e:TypeId)(i:TypeInfo)(z:Value)(k kn:IntKind)(ht:P.underlying t=some (.slice e))(htn:P.underlying tn=some (.int kn))(hi:P.info? e=some i)(hz:i.zero=some z)
 (b:Addr) (sLen sCap:Nat) (olds:List Value) (hlo:olds.length=sLen*i.size) (holds: ∀j v,olds[j]? =some v→w.cell? (b.add j)=some v)
 (n:Nat) (h0:0<n) (hs:0<i.size) (hg:sCap<sLen+n) (h63:((sLen+n:Nat):Int)≤9223372036854775807) (hfit:Builtin.nextslicecap (sLen+n) sCap*i.bytes≤281474976710656) (h48:n*i.bytes≤281474976710656):
 (Builtin.append_ #[t,tn] ty #[.slice (some b) sLen sCap, .int k n]).run P w=
   .ok (.slice (some ⟨w.heap.size,0,none⟩) (sLen+n) (grownCap w (sLen+n) sCap e))
    (w.drew.alloc (.cells (olds.toArray++Builtin.zeroCells z.cells n++Builtin.zeroCells z.cells (grownCap w (sLen+n) sCap e-(sLen+n))) e)):=by
 have hn: ¬(sLen+n≤sCap):=by omega
 have hw:IntKind.i64.wrap (n:Int)=n:=by rw [IntKind.wrap_i64];omega
 have h63': ¬(9223372036854775807<((sLen:Int)+(n:Int))):=by omega
 have h48': ¬(281474976710656<Builtin.nextslicecap (sLen+n) sCap*i.bytes):=by omega
 have h48i: ¬(281474976710656<(n:Int)*(i.bytes:Int)):=by
  rw [←Int.natCast_mul]
  omega
 have hneg: ¬((n:Int)<0):=by omega
 have hns: ¬(n*i.size=0):=Nat.mul_ne_zero (by omega) (by omega)
 have hns': ¬(n=0∨i.size=0):=by omega
 have hfo:=run_firstCells_some (P:=P) w.drew i.size sLen b sLen sCap olds hlo (by simpa using holds)
 simp [Builtin.append_,Go.run_underlying ht,Go.run_underlying htn,sizeOf,typeInfo,zeroValue,hi,hz,asInt,asIntOf,hw,hn,hneg,hns,hns',h63',h48',h48i,Question.forced,hfo,newRow,grownCap]
theorem run_append_room_zeros{P:Program}(w w':World)(t tn ty e:TypeId)(i:TypeInfo)(z:Value)(k kn:IntKind)(ht:P.underlying t=some (.slice e))(htn:P.underlying tn=some (.int kn))(hi:P.info? e=some i)(hz:i.zero=some z)
 (b:Addr) (sLen sCap n:Nat) (h0:0<n) (hs:0<i.size) (hg:sLen+n≤sCap) (h48:n*i.bytes≤281474976710656) (h63:(n:Int)≤9223372036854775807)
 (hst:(storeCells (b.add (sLen*i.size)) (Builtin.zeroCells z.cells n).toList).run P w= .ok () w'):
 (Builtin.append_ #[t,tn] ty #[.slice (some b) sLen sCap, .int k n]).run P w= .ok (.slice (some b) (sLen+n) sCap) w':=by
 have hw:IntKind.i64.wrap (n:Int)=n:=by rw [IntKind.wrap_i64];omega
 have h48i: ¬(281474976710656<(n:Int)*(i.bytes:Int)):=by
  rw [←Int.natCast_mul]
  omega
 have hneg: ¬((n:Int)<0):=by omega
 have hns: ¬(n*i.size=0):=Nat.mul_ne_zero (by omega) (by omega)
 have hns': ¬(n=0∨i.size=0):=by omega
 simp [Builtin.append_,Go.run_underlying ht,Go.run_underlying htn,sizeOf,typeInfo,zeroValue,hi,hz,asInt,asIntOf,hw,hg,hneg,hns,hns',h48i,Question.forced,hst]
theorem run_append_zero_zeros{P:Program}(w:World)(t tn ty e:TypeId)(i:TypeInfo)(k kn:IntKind)(ht:P.underlying t=some (.slice e))(htn:P.underlying tn=some (.int kn))(hi:P.info? e=some i)
 (a:Option Addr) (sLen sCap:Nat) (hg:sLen≤sCap):(Builtin.append_ #[t,tn] ty #[.slice a sLen sCap, .int k 0]).run P w= .ok (.slice a sLen sCap) w:=by
 have hw:IntKind.i64.wrap 0=0:=by decide
 cases a with
 |none=>simp [Builtin.append_,Go.run_underlying ht,Go.run_underlying htn,sizeOf,typeInfo,hi,asInt,asIntOf,hw,hg]
 |some b=>simp [Builtin.append_,Go.run_underlying ht,Go.run_underlying htn,sizeOf,typeInfo,hi,asInt,asIntOf,hw,hg,storeCells]
theorem run_appendOwnZ{P:Program}{S:TT}(hS:S.Ok P){w0 w:World}{h:GH}{L:List Ent}{x:Ent}{t el tn ty:TypeId}{ti ei tni:TI}{kk kn:IntKind}{a:Option Addr}{n1 cap:Nat}{c1:List Value}
 (ht:S.get t=some ti) (hd:ti.d= .slice el) (he:S.get el=some ei) (htn:S.get tn=some tni) (hdn:tni.d= .int kn) (hsz:0<ei.size) (hz1:allOne ei.zero=true) (one1: ∀v,v∈c1→oneC v=true)
 (s:St w0 h (x::L) w) (ow:Ow ei.size a n1 cap c1 x) (n2:Nat) (hb:n1+n2≤281474976710656) (hby:(n1+n2)*ei.bytes≤140737488355328):
 ∃w' x' a' cap',(Builtin.append_ #[t,tn] ty #[.slice a n1 cap, .int kk n2]).run P w= .ok (.slice a' (n1+n2) cap') w'∧St w0 h (x'::L) w'∧Ow ei.size a' (n1+n2) cap' (c1++(List.replicate n2 ei.zero).flatten) x':=by
 have ok:=TT.Ok.get hS ht
 have oke:=TT.Ok.get hS he
 have okn:=TT.Ok.get hS htn
 obtain ⟨xi,zv,hxi,hxs,hxb,hxz,hzl⟩:=oke.info
 have hund:P.underlying t=some (.slice el):=by rw [ok.und,hd]
 have hundn:P.underlying tn=some (.int kn):=by rw [okn.und,hdn]
 have ow0:=ow
 obtain ⟨hobj,hle,hn1,how⟩:=ow
 have hz:Builtin.zeroCells zv.cells=fun n=>⟨(List.replicate n ei.zero).flatten⟩:=by
  funext n
  rw [show zv.cells=⟨ei.zero⟩ from by rw [←hzl]]
  refine zeroCells_eq _ _ ?_
  intro e
  have:=oke.len
  rw [e] at this;simp at this;omega
 generalize hc2:(List.replicate n2 ei.zero).flatten=c2
 have hn2:c2.length=n2*ei.size:=by rw [←hc2];simp only [List.length_flatten,List.map_replicate,List.sum_replicate_nat,oke.len]
 have one2: ∀v,v∈c2→oneC v=true:=fun v hv=>by
  rw [←hc2] at hv
  obtain ⟨l,hl,hvl⟩:=List.mem_flatten.1 hv
  have:=(List.mem_replicate.1 hl).2
  subst this
  exact allOne_mem hz1 v hvl
 have hlen:(c1++c2).length=(n1+n2)*ei.size:=by rw [List.length_append,hn1,hn2,Nat.add_mul]
 rcases Nat.eq_zero_or_pos n2 with h20|h2p
 ·subst h20
  have hc0:c2=[]:=List.length_eq_zero_iff.1 (by simpa using hn2)
  subst hc0
  exact ⟨w,x,a,cap,run_append_zero_zeros w t tn ty el xi kk kn hund hundn hxi a n1 cap hle,s,by simpa using ow0⟩
 ·have h63:((n1+n2:Nat):Int)≤9223372036854775807:=by omega
  have h48:n2*xi.bytes≤281474976710656:=by
   have:n2*ei.bytes≤(n1+n2)*ei.bytes:=Nat.mul_le_mul_right _ (by omega)
   rw [hxb];omega
  have hfits: ∀old,old<n1+n2→Builtin.nextslicecap (n1+n2) old*xi.bytes≤281474976710656:=fun old ho=>growslice_fits ho (by rw [hxb];omega)
  have hfin: ∀(cs:List Value) (need nc:Nat),(∀v,v∈cs→oneC v=true)→cs.length=need*ei.size→need≤nc→ ∀arr:Array Value,arr=⟨cs++(List.replicate (nc-need) ei.zero).flatten⟩→
   ∃x',St w0 h (x'::L) (w.drew.alloc (.cells arr el))∧Ow ei.size (some ⟨w.heap.size,0,none⟩) need nc cs x':=fun cs need nc h1 h2 h3 arr harr=>by
   have honer: ∀v,v∈(List.replicate (nc-need) ei.zero).flatten→oneC v=true:=fun v hv=>by
    obtain ⟨l,hl,hvl⟩:=List.mem_flatten.1 hv
    have:=(List.mem_replicate.1 hl).2
    subst this
    exact allOne_mem hz1 v hvl
   have:=s.tail.drew.alloc arr el (by rw [harr];exact allOne_of (allOne_append h1 honer))
   rw [harr] at this⊢
   exact ⟨_,this,rfl,h3,h2, .inr ⟨_,0,_,rfl,rfl,by simp only [List.length_flatten,List.map_replicate,List.sum_replicate_nat,oke.len]⟩⟩
  rcases how with ⟨g1,g2,g3⟩|⟨bb,o,sp,rfl,rfl,g3⟩
  ·subst g2
   have h0:n1=0:=by omega
   subst h0
   have hc1:c1=[]:=List.length_eq_zero_iff.1 (by simpa using hn1)
   subst hc1
   cases a with
   |none=>
    have hr:=Go.Lib.run_append_nil_zeros (P:=P) w t tn ty el xi zv kk kn hund hundn hxi hxz n2 h2p (by omega) (by omega) h48
    obtain ⟨x',k1,k2⟩:=hfin c2 n2 (grownCap w n2 0 el) one2 hn2 (grownCap_ge ..) (Builtin.zeroCells zv.cells n2++Builtin.zeroCells zv.cells (grownCap w n2 0 el-n2)) (by rw [hz,←hc2];apply Array.ext';simp)
    rw [Nat.zero_add]
    exact ⟨_,x',_,_,hr,k1,by simpa using k2⟩
   |some y=>
    obtain ⟨bb,o,sp⟩:=y
    have:=g3 _ rfl
    simp only at this;subst this
    have hr:=run_append_grow_zeros (P:=P) w t tn ty el xi zv kk kn hund hundn hxi hxz ⟨bb,o,none⟩ 0 0 [] (by simp) (fun j u hu=>by simp at hu) n2 h2p (by omega) (by omega) (by omega) (hfits 0 (by omega)) h48
    rw [Nat.zero_add] at hr
    obtain ⟨x',k1,k2⟩:=hfin c2 n2 (grownCap w n2 0 el) one2 hn2 (grownCap_ge ..) (([]:List Value).toArray++Builtin.zeroCells zv.cells n2++Builtin.zeroCells zv.cells (grownCap w n2 0 el-n2)) (by rw [hz,←hc2];apply Array.ext';simp)
    rw [Nat.zero_add]
    exact ⟨_,x',_,_,hr,k1,by simpa using k2⟩
  ·by_cases hcap:n1+n2≤cap
   ·obtain ⟨r,hr⟩:=updL_ex sp c2 (by rw [g3,hn2];exact Nat.mul_le_mul_right _ (by omega))
    obtain ⟨u1,u2,u3⟩:=updL_spec _ _ _ hr
    have hre:r=c2++sp.drop c2.length:=by
     apply List.ext_getElem?
     intro i
     rw [u3 i]
     by_cases hi:i<c2.length
     ·rw [if_pos (by omega),List.getElem?_append_left hi];rfl
     ·rw [if_neg (by omega),List.getElem?_append_right (by omega),List.getElem?_drop];congr 1;omega
    subst hre
    have hup:=updL_at c2 _ c1 sp hr
    obtain ⟨w',hw',s'⟩:=run_storeCells (P:=P) c2 bb (o+n1*ei.size) 0 w (L1:=[]) (lo:=o) (k:=c1.length) s (by rw [hn1];rfl) (by rw [List.length_append];omega) one2 hup
    have hst:(storeCells ((⟨bb,o,none⟩:Addr).add (n1*xi.size)) (Builtin.zeroCells zv.cells n2).toList).run P w= .ok () w':=by
     rw [hz,hxs,add_norm]
     simp only [hc2]
     simpa using hw'
    refine ⟨w',_,some ⟨bb,o,none⟩,cap,run_append_room_zeros w w' t tn ty el xi zv kk kn hund hundn hxi hxz ⟨bb,o,none⟩ n1 cap n2 h2p (by omega) hcap h48 (by omega) hst,s',rfl,hcap,hlen, .inr ⟨bb,o,sp.drop c2.length,rfl,by rw [List.append_assoc],?_⟩⟩
    rw [List.length_drop,g3,hn2,←Nat.sub_mul];congr 1;omega
   ·have hlt:cap<n1+n2:=by omega
    have k0:=s.own _ (List.mem_cons_self ..)
    have holds: ∀j u,c1[j]? =some u→w.cell? ((⟨bb,o,none⟩:Addr).add j)=some u:=fun j u hu=>by
     rw [add_norm]
     refine k0.cell j u ?_
     have hj:j<c1.length:=(List.getElem?_eq_some_iff.1 hu).1
     simp only
     rw [List.getElem?_append_left hj];exact hu
    have hr:=run_append_grow_zeros (P:=P) w t tn ty el xi zv kk kn hund hundn hxi hxz ⟨bb,o,none⟩ n1 cap c1 (by rw [hxs];exact hn1) holds n2 h2p (by omega) hlt h63 (hfits cap hlt) h48
    obtain ⟨x',k1,k2⟩:=hfin (c1++c2) (n1+n2) (grownCap w (n1+n2) cap el) (allOne_append one1 one2) hlen (grownCap_ge ..) (c1.toArray++Builtin.zeroCells zv.cells n2++Builtin.zeroCells zv.cells (grownCap w (n1+n2) cap el-(n1+n2))) (by rw [hz,←hc2];apply Array.ext';simp)
    exact ⟨_,x',_,_,hr,k1,k2⟩
section
variable{K:AC}{k:List It}{E:AEnv}{Λ:List AEnt}
theorem A.appendRowZ{all:Array Oper}{o:Oper}{l:List Oper}{ks:List (Nat×Bool)}{y1 y2:Operand}{t el tn:TypeId}{ti ei tni:TI}{kk kn:IntKind}{m:Nat}{z:Value}{sz' n:Nat}{l1:List AV}{x:AV}{d sz:Nat}{Λ':List AEnt}
 (hg:gyesA E all o.guard=some ks) (ho:o.op= .call ⟨.builtin .append, #[y1,y2], #[t,tn]⟩) (h1:E.ev K.gs ks y1=some (.ms z sz' n)) (h2:E.ev K.gs ks y2=some (.v (.int kk m)))
 (ht:K.S.get t=some ti) (hdd:ti.d= .slice el) (he:K.S.get el=some ei) (htn:K.S.get tn=some tni) (hdn:tni.d= .int kn) [i:ARow Λ z sz l1] [j:AOut Λ (.row sz z l1) Λ'] (hse:Nat.beq ei.size sz=true)
 (hsz:Nat.blt 0 ei.size=true) (hlenz:Nat.beq ei.zero.length ei.size=true) (hz:zeroA ei=some x) (hd:o.dst=some d) (hc:okPutA K.n E d=true)
 (hb:l1.length+m≤281474976710656) (hby:(l1.length+m)*ei.bytes≤140737488355328)
 (next: ∀z',A K (.ops all l::k) ⟨(d, .ms z' sz (l1.length+m))::E.us,E.cs⟩ (.row sz z' (l1++List.replicate m x)::Λ')):A K (.ops all (o::l)::k) E Λ:=by
 have hse:=Nat.eq_of_beq_eq_true hse
 subst hse
 refine A.perm j.perm ⟨fun h e L hl r q=>?_⟩
 obtain ⟨v1,e1,f1⟩:=r.ev (K.hgs.mono hl) _ h1
 obtain ⟨v2,e2,f2⟩:=r.ev (K.hgs.mono hl) _ h2
 rw [Rp_v] at f2;rw [f2.1] at e2
 rw [Rp_ms] at f1
 obtain ⟨rfl,_⟩:=f1
 obtain ⟨M,L2,rfl,⟨p,q3,rfl⟩,q4⟩:=q
 obtain ⟨a,cap,zs,rfl,g2,g3,g4,g5⟩:=q3
 have hsz':0<ei.size:=by simpa [Nat.blt_eq] using hsz
 have hlen1:(catL zs).length=l1.length*ei.size:=by rw [cat_len g3.sz,g3.rp.len]
 have how:Ow ei.size a l1.length cap (catL zs) p:=⟨g4,g2,hlen1,g5.elim (fun ⟨_,k2,k3,k4⟩=> .inl ⟨k2,k3,k4⟩) .inr⟩
 obtain ⟨z0,y1',y2'⟩:=zeroA_rp (h:=h) hz
 have hrep:Els h ei.size (List.replicate m x) (List.replicate m z0):=by
  have:=repA_els y1' (sz:=ei.size) (by rw [y2'];exact Nat.eq_of_beq_eq_true hlenz) (by rw [y2'];exact zeroA_one hz) m
  have he: ∀n,repA n x=List.replicate n x:=fun n=>by
   induction n with
   |zero=>rfl
   |succ n ih=>rw [repA,ih,List.replicate_succ]
  rwa [he] at this
 refine V.gives (C:=K.cfg) (gyesA_eq r hg) hd (okPutA_eq r hc) fun ac w g s hk=>?_
 obtain ⟨w',x',a',cap',r1,r2,r3⟩:=run_appendOwnZ (ty:=o.type) (kk:=kk) K.ok ht hdd he htn hdn hsz' (zeroA_one hz) (allOne_mem g3.oneAll) s how m hb hby
 have hcat:catL (zs++List.replicate m z0)=catL zs++(List.replicate m ei.zero).flatten:=by rw [catL_app,cat_rep,y2']
 refine ⟨_,w',h,_,?_,r2,(next (.slice a' (l1.length+m) cap')).run h _ (x'::L2) hl ⟨r.1.put (Rp_ms.2 ⟨rfl,_,_,rfl⟩),r.2⟩ (.one ⟨x',⟨a',cap',zs++List.replicate m z0,by rw [List.length_append,List.length_replicate],by rw [List.length_append,List.length_replicate];exact r3.2.1,g3.app hrep,r3.1,?_⟩,rfl⟩ q4)⟩
 ·unfold execOp
  rw [ho]
  have r1':Sem.run K.cfg.P (Builtin.append_ #[t,tn] o.type #[Value.slice a l1.length cap, .int kk m]) w=Result.ok (Value.slice a' (l1.length+m) cap') w':=r1
  simp [resolve,invoke,builtin,g.ev hk e1,g.ev hk e2,r1']
 ·rcases r3.2.2.2 with ⟨k2,k3,k4⟩|k5
  ·refine .inl ⟨?_,k2,k3,k4⟩
   have:=r3.2.1
   exact List.length_eq_zero_iff.1 (by rw [List.length_append,List.length_replicate];omega)
  ·rw [hcat,List.length_append,List.length_replicate];exact .inr k5
theorem A.nilRow(sz:Nat)(next:A K k E (.row sz (.slice none 0 0) []::Λ)):A K k E Λ:=by
 refine ⟨fun h e L hl r q=>?_⟩
 have hr0: ∃p,RpRow h sz (.slice none 0 0) [] p∧[(⟨0,0,[],none⟩:Ent)]=[p]:=⟨⟨0,0,[],none⟩,⟨none,0,[],rfl,Nat.zero_le _,⟨(by rw [RpC_nil]),(fun z hz=>by cases hz),(fun z hz=>by cases hz)⟩,rfl, .inl ⟨rfl,rfl,rfl,fun y hy=>by cases hy⟩⟩,rfl⟩
 exact V.empty (next.run h e (_::L) hl r (.one hr0 q))
theorem A.valR(t:Nat){x x':AV}(hx:lookA E.us t=some x)(hr: ∀(h:GH) z,Rp h x z→Rp h x' z)(next:A K k ⟨(t,x')::E.us,E.cs⟩ Λ):A K k E Λ:=by
 refine ⟨fun h e L hl r q=>?_⟩
 rcases r.1.look t with ⟨y,v,e1,e2,e3⟩|⟨e1,e2⟩
 ·rw [hx] at e1;injection e1 with e1;subst e1
  exact V.val t e2 rfl (next.run _ ⟨(t,v)::e.us,e.cs⟩ L hl ⟨r.1.put (hr _ _ e3),r.2⟩ q)
 ·rw [hx] at e1;cases e1
end
end Go.Tp
namespace Go.Proofs.YtpcloejpklkieaaGreat
open Go Go.Tp
abbrev setA(z:Value)(n:Nat)(f:FuncId):AV:= .ag [.ms z 12 n, .fn f [] []]
section
variable{α:Type}
def findQ(q:α→α→Bool)(x:α):List α→Option Nat
 | []=>none
 |y::r=>if q y x=true then some 0 else (findQ q x r).map (· +1)
theorem findQ_some{q:α→α→Bool}{x:α}: ∀{l:List α} {i:Nat} {y:α},l[i]? =some y→q y x=true→(∀j u,j<i→l[j]? =some u→q u x=false)→findQ q x l=some i
 | [],_,_,h,_,_=>by cases h
 |u::r,0,y,h,hq,_=>by
  injection h with h;subst h
  rw [findQ,if_pos hq]
 |u::r,i+1,y,h,hq,hn=>by
  have h0:=hn 0 u (Nat.zero_lt_succ _) rfl
  rw [findQ,if_neg (by rw [h0];decide),findQ_some (l:=r) h hq fun j u' hj hu=>hn (j+1) u' (by omega) hu];rfl
theorem findQ_none{q:α→α→Bool}{x:α}: ∀{l:List α},(∀j u,j<l.length→l[j]? =some u→q u x=false)→findQ q x l=none
 | [],_=>rfl
 |u::r,hn=>by
  have h0:=hn 0 u (by simp) rfl
  rw [findQ,if_neg (by rw [h0];decide),findQ_none (l:=r) fun j u' hj hu=>hn (j+1) u' (by simp;omega) hu];rfl
end
def addR(q:TR×ST→TR×ST→Bool)(l:List (TR×ST))(x:TR×ST):List (TR×ST):=match findQ q x l with
 |some _=>l
 |none=>l++[x]
def addI(q:TR×ST→TR×ST→Bool)(l:List (TR×ST))(x:TR×ST):Nat:=match findQ q x l with
 |some i=>i
 |none=>l.length
def addN(q:TR×ST→TR×ST→Bool)(l:List (TR×ST))(x:TR×ST):Bool:=match findQ q x l with
 |some _=>false
 |none=>true
theorem add_p(b:Nat)(z:Value)(l:List (TR×ST))(x:TR×ST)(f:FuncId)(q:TR×ST→TR×ST→Bool)(hq: ∀y,y∈l→Pure Tryz.prog gs0 f [pairA y,pairA x] (AB (q y x)))(hl:l.length≤1048576):
 FunE Tryz.prog gs0 26 [ptrA b,pairA x] [.box b (setA z l.length f), .row 12 z (l.map pairA)] (fun _:Value=> .tp [AI (addI q l x:Nat),AB (addN q l x)])
  (fun z'=>[.box b (setA z' (addR q l x).length f), .row 12 z' ((addR q l x).map pairA)]) (fun _=>True):=by
 have n1:(l.map pairA).length=l.length:=List.length_map ..
 unfold FunE
 refine Fun.of (S:=tt) (fn:=Tryz.f26) (n:=46) tt_ok Tryz.func26 rfl rfl rfl rfl fun w0 h0 F hgs=>?_
 (repeat refine A.s rfl ?_)
 refine A.b rfl fun b3=>?_
 refine A.perm (Λ':=[.box b (setA z l.length f), .row 12 z (l.map pairA), .box b3 (pairA x)]) (List.perm_append_comm (l₁:=[_]) (l₂:=[_,_])) ?_
 refine y_ ?_
 refine A.keep [0,3,11,12] rfl ?_
 refine A.loopP (ι:=Nat) (fun i=>(⟨[(0,ptrA b),(3,ptrA b3),(11,AI (l.length:Nat)),(12,AI (i:Nat))],[]⟩,[.box b (setA z l.length f), .row 12 z (l.map pairA), .box b3 (pairA x)])) (fun i=>i≤l.length∧ ∀j y,j<i→l[j]? =some y→q y x=false) (fun i=>l.length-i) 0 ⟨Nat.zero_le _,fun j y h=>by omega⟩ rfl fun i hi ih=>?_
 obtain ⟨hi1,hi2⟩:=hi
 refine y_ ?_
 refine k_ (fun hc=>?_) fun hc=>?_
 ·have hci:i<l.length:=by simpa using hc
  clear hc
  refine Exists.elim (at_exN (l:=l) (i:=i) hci) fun y hy=>?_
  have hcall:=hq y (List.mem_of_getElem? hy)
  have hat:(l.map pairA)[((i:Nat):Int).toNat]? =some (pairA y):=by rw [Int.toNat_natCast];exact map_at hy
  refine y_ ?_
  refine d_ 12 [0,1,2,3,4,5,6,7,8,9,10,11] [] ?_
  refine WA.indexRow rfl rfl rfl rfl rfl rfl rfl rfl rfl (by show (0:Int)≤(i:Nat);omega) (by rw [n1];omega) rfl ?_
  refine WA.loadRow rfl rfl rfl rfl rfl rfl rfl (y':=pairA y) rfl hat rfl rfl ?_
  refine w_ ?_
  refine WA.nil (l:=[]) rfl ?_
  refine c_ hcall ?_
  refine k_ (fun hc=>?_) fun hc=>?_
  ·have hf:=findQ_some (q:=q) (x:=x) hy hc hi2
   have e1:addI q l x=i:=by unfold addI;rw [hf]
   have e2:addN q l x=false:=by unfold addN;rw [hf]
   have e3:addR q l x=l:=by unfold addR;rw [hf]
   rw [e1,e2]
   simp only [e3]
   refine y_ ?_
   refine A.ret2 (Λ':=[.box b (setA z l.length f), .row 12 z (l.map pairA)]) rfl rfl rfl rfl sl_ ⟨z, .refl,rfl,trivial⟩
  ·refine y_ ?_
   refine A.valE 12 rfl (x':=AI ((i+1:Nat):Int)) (inc_eq i (by omega)) ?_
   refine l_ (Λ':=[.box b (setA z l.length f), .row 12 z (l.map pairA), .box b3 (pairA x)]) ?_
   refine u_ (ih (i+1) ⟨by omega,fun j u hj hu=>?_⟩ (by omega))
   rcases Nat.lt_or_ge j i with h|h
   ·exact hi2 j u h hu
   ·have:j=i:=by omega
    subst this
    rw [hu] at hy;injection hy with hy;subst hy
    simpa using hc
 have hci: ¬i<l.length:=by simpa using hc
 clear hc ih
 have hil:i=l.length:=by omega
 rw [hil] at hi2
 have hf:=findQ_none (q:=q) (x:=x) hi2
 have e1:addI q l x=l.length:=by unfold addI;rw [hf]
 have e2:addN q l x=true:=by unfold addN;rw [hf]
 have e3:addR q l x=l++[x]:=by unfold addR;rw [hf]
 rw [e1,e2]
 simp only [e3]
 refine y_ ?_
 refine A.drawL [(7, .row 12 z (l.map pairA))] 8 [0,1,2,3,4,5,6,7] (fun i=>if i=7 then [7,6] else []) [] (.swap _ _ _) rfl rfl (by rfl) (by kernel_rfl) (by kernel_rfl) ?_
 refine w_ ?_
 refine WA.lit rfl rfl rfl rfl rfl rfl rfl fun bw=>?_
 refine WA.appendR rfl rfl rfl rfl rfl rfl rfl rfl rfl rfl rfl rfl rfl rfl rfl rfl rfl rfl rfl rfl (.pub (j:=6) rfl rfl (.sub .refl)) (by show ((l.map pairA).length+1)*12≤_;rw [List.length_map];omega) (by show ((l.map pairA).length+1)*12*208≤_;rw [List.length_map];omega) fun z2=>?_
 refine WA.nil (l:=[_]) rfl ?_
 refine y_ ?_
 have e4:[AEnt.row 12 z2 (l.map pairA++[pairA x]), .box b (.ag [.ms z2 12 ((l.map pairA).length+[pairA x].length), .fn f [] []]), .box b3 (pairA x)]=[.row 12 z2 ((l++[x]).map pairA), .box b (setA z2 (l++[x]).length f), .box b3 (pairA x)]:=by
  rw [List.map_append,List.length_map,List.length_append];rfl
 refine A.entsEq (Λ':=_) e4 ?_
 refine A.perm (.swap _ _ _) ?_
 refine A.valE 4 rfl (x':=AI (l.length:Nat)) (ai_eq (by rw [n1];show IntKind.i64.wrap (((l.length+1:Nat):Int)-1)=_;rw [wr64 _ (by omega)];omega)) ?_
 refine A.ret2 (Λ':=[.box b (setA z2 (l++[x]).length f), .row 12 z2 ((l++[x]).map pairA)]) rfl rfl rfl rfl sl_ ⟨z2, .refl,rfl,trivial⟩
end Go.Proofs.YtpcloejpklkieaaGreat
namespace Go.Proofs.YtpcloejpklkieaaGreat
theorem alike20{α:Type}{f:α→α→Bool}(hf: ∀x y,f x y=true↔x=y)(a b:List α):alikeB f a b=true↔a=b:=by
 constructor
 ·intro h
  simp only [alikeB,allEq,Bool.and_eq_true,decide_eq_true_eq,List.all_eq_true,List.mem_range] at h
  obtain ⟨h1,h2⟩:=h
  apply List.ext_getElem?
  intro i
  rcases Nat.lt_or_ge i a.length with hi|hi
  ·have h3:=h2 i hi
   have hi2:i<b.length:=by omega
   rw [List.getElem?_eq_getElem hi,List.getElem?_eq_getElem hi2] at h3⊢
   simp only [hf] at h3
   rw [h3]
  ·rw [List.getElem?_eq_none hi,List.getElem?_eq_none (by omega)]
 ·rintro rfl
  simp only [alikeB,allEq,Bool.and_eq_true,decide_eq_true_eq,List.all_eq_true,List.mem_range]
  refine ⟨trivial,fun i hi=>?_⟩
  rw [List.getElem?_eq_getElem hi]
  exact (hf _ _).2 rfl
theorem sameSt20{a b:ST}:sameStB a b=true↔a=b:=by
 have hw: ∀x y:List Int,alikeB (· == ·) x y=true↔x=y:=alike20 fun u v=>by simp
 have hww: ∀x y:List (List Int),alikeB (alikeB (· == ·)) x y=true↔x=y:=alike20 hw
 obtain ⟨a1,a2,a3,a4⟩:=a
 obtain ⟨b1,b2,b3,b4⟩:=b
 unfold sameStB
 simp only [Bool.and_eq_true,beq_iff_eq,ST.mk.injEq]
 unfold wordsB sameB
 rw [hw,hww,eqR_iff]
 constructor
 ·rintro ⟨h1,h2,h3,h4⟩;exact ⟨h3,h4,h2,h1⟩
 ·rintro ⟨h3,h4,h2,h1⟩;exact ⟨h1,h2,h3,h4⟩
instance decST:DecidableEq ST:=fun a b=>if h:sameStB a b=true then isTrue (sameSt20.1 h) else isFalse fun e=>h (sameSt20.2 e)
abbrev sQ(x y:TR×ST):Bool:=sameStB x.2 y.2
abbrev prN(n:ND ST):TR×ST:=(n.t,n.s)
theorem relax_find{y:TR×ST}: ∀{l:List (ND ST)},(∀i,findQ sQ y (l.map prN)=some i→ ∃n,l[i]? =some n∧n.s=y.2∧relax y l=l.set i ⟨if ltB y.1 n.t=true then y.1 else n.t,n.s,n.d⟩)∧(findQ sQ y (l.map prN)=none→relax y l=l++[⟨y.1,y.2,false⟩])
 | []=>⟨(fun i h=>by rw [List.map_nil,findQ] at h;cases h),fun _=>rfl⟩
 |n::r=>by
  obtain ⟨h1,h2⟩:=relax_find (y:=y) (l:=r)
  rw [List.map_cons,findQ]
  by_cases e:n.s=y.2
  ·rw [if_pos (show sQ (prN n) y=true from sameSt20.2 e)]
   refine ⟨fun i h=>?_,(fun h=>by cases h)⟩
   injection h with h;subst h
   refine ⟨n,rfl,e,?_⟩
   rw [relax,if_pos e]
   show _=_::r
   split<;>rfl
  ·rw [if_neg (fun h=>e (sameSt20.1 (show sameStB n.s y.2=true from h))),relax,if_neg e]
   refine ⟨fun i h=>?_,fun h=>?_⟩
   ·cases hf:findQ sQ y (r.map prN) with
    |none=>rw [hf] at h;cases h
    |some j=>
     rw [hf] at h;injection h with h;subst h
     obtain ⟨m,g1,g2,g3⟩:=h1 j hf
     exact ⟨m,g1,g2,by rw [g3];rfl⟩
   ·cases hf:findQ sQ y (r.map prN) with
    |none=>rw [h2 hf];rfl
    |some j=>rw [hf] at h;cases h
theorem samePB_iff{x y:TR×ST}:samePB x y=true↔x=y:=by
 obtain ⟨a,b⟩:=x
 obtain ⟨c,d⟩:=y
 unfold samePB
 rw [Bool.and_eq_true,beq_iff_eq,cmpT_zero,sameSt20,Prod.mk.injEq]
theorem findP{y:TR×ST}: ∀{l:List (TR×ST)},findQ samePB y l=none↔y∉l
 | []=>by simp [findQ]
 |x::r=>by
  rw [findQ]
  by_cases e:x=y
  ·rw [if_pos (samePB_iff.2 e)]
   simp [e]
  ·rw [if_neg (fun h=>e (samePB_iff.1 h)),Option.map_eq_none_iff,findP]
   simp [Ne.symm e]
theorem addR_addP(y:TR×ST)(l:List (TR×ST)):addR samePB l y=addP y l:=by
 unfold addR addP
 cases hf:findQ samePB y l with
 |none=>rw [if_neg (findP.1 hf)]
 |some i=>
  rw [if_pos]
  refine Decidable.not_not.1 fun h=>?_
  rw [findP.2 h] at hf;cases hf
end Go.Proofs.YtpcloejpklkieaaGreat
namespace Go.Proofs.YtpcloejpklkieaaGreat
open Go Go.Tp
theorem nilSet(f:FuncId)(h:GH)(z:Value)(q:Rp h (.ag [.v (.slice none 0 0), .fn f [] []]) z):Rp h (setA (.slice none 0 0) 0 f) z:=by
 rw [Rp_ag] at q⊢
 obtain ⟨ds,rfl,q⟩:=q
 refine ⟨ds,rfl,?_⟩
 rw [RpC_cons] at q⊢
 obtain ⟨v,vs,rfl,q1,q2⟩:=q
 rw [Rp_v] at q1
 obtain ⟨rfl,_⟩:=q1
 exact ⟨_,vs,rfl,Rp_ms.2 ⟨rfl,none,0,rfl⟩,q2⟩
structure SR where
 l:List (ND ST)
 dn:List Bool
 z:Value
 zd:Value
 f:Nat
abbrev nextI(o:Option Nat):Int:=match o with
 |some j=>(j:Nat)
 |none=> -1
structure SROk(k:KN)(most:Nat)(R:Option (List (ND ST)))(u:SR):Prop where
 r:R=searchM stepsM most u.f u.l
 lm:u.l.length≤most
 l1:1≤u.l.length
 dn:u.l.map (·.d)=u.dn++List.replicate (u.l.length-u.dn.length) false
 dl:u.dn.length≤u.l.length
 ct:u.dn.count true+u.f=most+1
 sk: ∀n,n∈u.l→SrchK k n.s
 tl: ∀n,n∈u.l→n.t.length+u.f≤most+1
theorem pick_done{l:List (ND ST)}{i:Nat}(h:undone l i=false):pickN l (i+1)=pickN l i:=by
 rw [pickN]
 cases pickN l i with
 |none=>simp [h]
 |some j=>simp [h]
theorem pick_first{l:List (ND ST)}{i:Nat}(h:undone l i=true)(h0:pickN l i=none):pickN l (i+1)=some i:=by
 rw [pickN,h0];simp [h]
theorem pick_next{l:List (ND ST)}{i j:Nat}(h:undone l i=true)(h0:pickN l i=some j):pickN l (i+1)=if ltB (tAt l i) (tAt l j)=true then some i else some j:=by
 rw [pickN,h0]
 simp only [h,true_and]
theorem relax_d(y:TR×ST): ∀l:List (ND ST),(relax y l).map (·.d)=l.map (·.d)++List.replicate ((relax y l).length-l.length) false
 | []=>rfl
 |n::r=>by
  rw [relax]
  split
  ·rw [List.map_cons,List.map_cons,List.length_cons,List.length_cons,Nat.sub_self,List.replicate_zero,List.append_nil]
   split<;>rfl
  ·rw [List.map_cons,relax_d y r,List.map_cons,List.length_cons,List.length_cons,Nat.add_sub_add_right];rfl
theorem unt_start{k:KN}(hm:mayK k=true)(hk:SmN k)(hu:untR k.root=true){inn:List Int}(hi: ∀x,x∈inn→i32 x)(hil:inn.length≤35184372088832):SrchK k (startS k inn):=
 ⟨start_good hm hk.wf hk.root hi hil,unt_of (norm_ok lu_lax (lu_of hu (start_root hm hk.wf hk.root)))⟩
structure S2 where
 l:List (ND ST)
 i:Nat
 z:Value
abbrev yM(x:ND ST)(m:MV):TR×ST:=(withM x.t (evM m,m.next),m.next)
theorem pairs_eq(x:ND ST):((stepsM x.s).map fun m=>(withM x.t m,m.2))=(realM x.s).map (yM x):=by
 unfold stepsM
 rw [List.map_map];rfl
structure S2Ok(k:KN)(most f:Nat)(l0:List (ND ST))(j:Nat)(x:ND ST)(u:S2):Prop where
 r:relaxAll most (markN l0 j) ((realM x.s).map (yM x))=relaxAll most u.l (((realM x.s).drop u.i).map (yM x))
 i:u.i≤(realM x.s).length
 lm:u.l.length≤most
 l1:l0.length≤u.l.length
 d:u.l.map (·.d)=(l0.map (·.d)).set j true++List.replicate (u.l.length-l0.length) false
 sk: ∀n,n∈u.l→SrchK k n.s
 tl: ∀n,n∈u.l→n.t.length+f≤most+1
theorem with_len(t:TR)(m:Mv ST):(withM t m).length≤t.length+1:=by
 unfold withM
 cases m.1 with
 |none=>exact Nat.le_succ _
 |some e=>show (t++[e]).length≤_;rw [List.length_append];exact Nat.le_refl _
theorem S2Ok.next{k:KN}{most f:Nat}{l0:List (ND ST)}{j:Nat}{x:ND ST}{u:S2}(h:S2Ok k most f l0 j x u)(hx:SrchK k x.s)(hxt:x.t.length+(f+1)≤most+1){m:MV}(hm:(realM x.s)[u.i]? =some m)(z:Value)(hl:(relax (yM x m) u.l).length≤most):S2Ok k most f l0 j x ⟨relax (yM x m) u.l,u.i+1,z⟩:=by
 have hil:=(List.getElem?_eq_some_iff.1 hm).1
 obtain ⟨r1,r2⟩:=relax_len (yM x m) u.l
 have hmm:=List.mem_of_getElem? hm
 refine ⟨?_,hil,hl,Nat.le_trans h.l1 r1,?_,fun n hn=>?_,fun n hn=>?_⟩
 ·rw [h.r,List.drop_eq_getElem_cons hil,List.map_cons,relaxAll]
  rw [List.getElem?_eq_getElem hil] at hm
  injection hm with hm
  rw [hm,if_neg (by omega)]
 ·have h1:=h.l1
  show (relax (yM x m) u.l).map (·.d)=_
  rw [relax_d,h.d,List.append_assoc,List.replicate_append_replicate]
  congr 2
  show _=(relax (yM x m) u.l).length-l0.length
  omega
 ·rcases relax_mem hn with hn|rfl|⟨o,ho,_,_,rfl⟩
  ·exact h.sk n hn
  ·exact hx.step hmm
  ·exact h.sk o ho
 ·rcases relax_mem hn with hn|rfl|⟨o,ho,_,_,rfl⟩
  ·exact h.tl n hn
  ·show (withM x.t _).length+f≤_
   have:=with_len x.t (evM m,m.next);omega
  ·show (withM x.t _).length+f≤_
   have:=with_len x.t (evM m,m.next);omega
theorem S2Ok.full{k:KN}{most f:Nat}{l0:List (ND ST)}{j:Nat}{x:ND ST}{u:S2}(h:S2Ok k most f l0 j x u){m:MV}(hm:(realM x.s)[u.i]? =some m)(hl:most<(relax (yM x m) u.l).length):relaxAll most (markN l0 j) ((realM x.s).map (yM x))=none:=by
 have hil:=(List.getElem?_eq_some_iff.1 hm).1
 rw [h.r,List.drop_eq_getElem_cons hil,List.map_cons,relaxAll]
 rw [List.getElem?_eq_getElem hil] at hm
 injection hm with hm
 rw [hm,if_pos (by omega)]
theorem mark_eq{l:List (ND ST)}{j:Nat}{x:ND ST}(h:l[j]? =some x):markN l j=l.set j ⟨x.t,x.s,true⟩:=by
 unfold markN;rw [h]
theorem S2Ok.begin{k:KN}{most f:Nat}{l:List (ND ST)}{j:Nat}{x:ND ST}(hx:l[j]? =some x)(hlm:l.length≤most)(hsk: ∀n,n∈l→SrchK k n.s)(htl: ∀n,n∈l→n.t.length+(f+1)≤most+1)(z:Value):S2Ok k most f l j x ⟨markN l j,0,z⟩:=by
 have hm:=mark_eq hx
 have hln:(markN l j).length=l.length:=by rw [hm,List.length_set]
 have hmem: ∀n,n∈markN l j→ ∃o,o∈l∧n.s=o.s∧n.t=o.t:=fun n hn=>by
  rw [hm] at hn
  rcases List.mem_or_eq_of_mem_set hn with hn|rfl
  ·exact ⟨n,hn,rfl,rfl⟩
  ·exact ⟨x,List.mem_of_getElem? hx,rfl,rfl⟩
 refine ⟨rfl,Nat.zero_le _,by show (markN l j).length≤most;omega,by show l.length≤(markN l j).length;omega,?_,fun n hn=>?_,fun n hn=>?_⟩
 ·show (markN l j).map (·.d)=_++List.replicate ((markN l j).length-_) false
  rw [hln,Nat.sub_self,List.replicate_zero,List.append_nil,hm,List.map_set]
 ·obtain ⟨o,ho,e,_⟩:=hmem n hn
  rw [e];exact hsk o ho
 ·obtain ⟨o,ho,_,e⟩:=hmem n hn
  have:=htl o ho
  rw [e];omega
theorem count_set: ∀(l:List Bool) (j:Nat),l[j]? =some false→(l.set j true).count true=l.count true+1
 | [],j,h=>by simp at h
 |b::r,0,h=>by
  injection h with h;subst h
  simp
 |b::r,j+1,h=>by
  rw [List.set_cons_succ,List.count_cons,List.count_cons,count_set r j (by simpa using h)]
  omega
theorem set_same{α:Type}: ∀{l:List α} {i:Nat} {x:α},l[i]? =some x→l.set i x=l
 | [],_,_,h=>by simp at h
 |y::r,0,x,h=>by injection h with h;subst h;rfl
 |y::r,i+1,x,h=>by rw [List.set_cons_succ,set_same (by simpa using h)]
theorem count_rep(n:Nat):(List.replicate n false).count true=0:=by
 rw [List.count_replicate];rfl
theorem SROk.pos{k:KN}{most:Nat}{R:Option (List (ND ST))}{u:SR}(h:SROk k most R u): ∃f,u.f=f+1:=by
 have h1:=List.count_le_length (a:=true) (l:=u.dn)
 have h2:=h.ct
 have h3:=h.dl
 have h4:=h.lm
 exact ⟨u.f-1,by omega⟩
theorem SROk.count{k:KN}{most:Nat}{R:Option (List (ND ST))}{u:SR}(h:SROk k most R u):(u.l.map (·.d)).count true=u.dn.count true:=by
 rw [h.dn,List.count_append,count_rep];rfl
theorem SROk.done{k:KN}{most:Nat}{R:Option (List (ND ST))}{u:SR}(h:SROk k most R u)(hp:pickN u.l u.l.length=none):R=some u.l:=by
 obtain ⟨f,hf⟩:=h.pos
 rw [h.r,hf,searchM,hp]
theorem SROk.look{k:KN}{most:Nat}{R:Option (List (ND ST))}{u:SR}{f:Nat}(h:SROk k most R u)(hf:u.f=f+1){j:Nat}{x:ND ST}(hp:pickN u.l u.l.length=some j)(hx:u.l[j]? =some x):
 R=match relaxAll most (markN u.l j) ((realM x.s).map (yM x)) with
  |none=>none
  |some l'=>searchM stepsM most f l':=by
 rw [h.r,hf,searchM,hp]
 simp only [hx,pairs_eq]
 cases relaxAll most (markN u.l j) ((realM x.s).map (yM x))<;>rfl
theorem SROk.next{k:KN}{most:Nat}{R:Option (List (ND ST))}{u:SR}{f:Nat}(h:SROk k most R u)(hf:u.f=f+1){j:Nat}{x:ND ST}(hp:pickN u.l u.l.length=some j)(hx:u.l[j]? =some x){v:S2}(hv:S2Ok k most f u.l j x v)(hi:v.i=(realM x.s).length)(zd:Value):SROk k most R ⟨v.l,(u.l.map (·.d)).set j true,v.z,zd,f⟩:=by
 obtain ⟨_,hju,_⟩:=pick_some u.l _ j hp
 have hxd:x.d=false:=by unfold undone at hju;rw [hx] at hju;simpa using hju
 have hc:=h.count
 have h1:=h.l1
 refine ⟨?_,hv.lm,Nat.le_trans h1 hv.l1,?_,?_,?_,hv.sk,hv.tl⟩
 ·rw [h.look hf hp hx,hv.r,hi,List.drop_length,List.map_nil,relaxAll]
 ·show v.l.map (·.d)=_++List.replicate (v.l.length-((u.l.map (·.d)).set j true).length) false
  rw [List.length_set,List.length_map];exact hv.d
 ·show ((u.l.map (·.d)).set j true).length≤v.l.length
  rw [List.length_set,List.length_map];exact hv.l1
 ·show ((u.l.map (·.d)).set j true).count true+f=most+1
  rw [count_set _ _ (by rw [List.getElem?_map,hx];show some x.d=_;rw [hxd]),hc]
  have:=h.ct;omega
theorem SROk.begin{k:KN}{most:Nat}(hmo:1≤most){s:ST}(hs:SrchK k s){R:Option (List (ND ST))}(hR:R=searchM stepsM most (most+1) [⟨[],s,false⟩])(z zd:Value):SROk k most R ⟨[⟨[],s,false⟩],[],z,zd,most+1⟩:=by
 refine ⟨hR,hmo,Nat.le_refl _,rfl,Nat.zero_le _,by show [].count true+(most+1)=most+1;rw [List.count_nil];omega,fun n hn=>?_,fun n hn=>?_⟩
 ·rw [List.mem_singleton.1 hn];exact hs
 ·rw [List.mem_singleton.1 hn];show 0+(most+1)≤_;omega
theorem search_p(k:KN)(hk:SmN k)(hm:mayK k=true)(hu:untR k.root=true)(inn:List Int)(hi: ∀x,x∈inn→i32 x)(hil:inn.length≤35184372088832)(most:Nat)(hmo:1≤most)(hml:most≤4096):
 Pure Tryz.prog gs0 34 [encN k,rowA inn,AI (most:Nat)] (match searchM stepsM most (most+1) [⟨[],startS k inn,false⟩] with
  |some l=> .tp [.sl 12 (l.map fun n=>pairA (prN n)) none,AI 0]
  |none=> .tp [.sl 12 [] none,AI 190]):=by
 have h1:=first_y k hk hm inn hil
 refine p_ tt_ok Tryz.func34 124 fun w0 h0 F hgs=>?_
 (repeat refine A.s rfl ?_)
 refine A.b rfl fun b3=>?_
 refine A.nilRow 12 ?_
 (repeat refine A.s rfl ?_)
 refine A.valR 18 (x':=setA (.slice none 0 0) 0 61) rfl (nilSet _) ?_
 refine A.b rfl fun b8=>?_
 have h2:=add_p b8 (.slice none 0 0) [] ([],startS k inn) 61 sQ (fun y hy=>by cases hy) (by decide)
 refine y_ ?_
 refine n_ h1 ?_
 refine A.perm (Λ':=[.box b8 (setA (.slice none 0 0) 0 61), .row 12 (.slice none 0 0) [], .box b3 (encN k)]) (.refl _) ?_
 refine A.e rfl h2 .refl (List.Perm.refl _) fun z1 _=>?_
 refine y_ ?_
 refine A.emptyRow 9 1 rfl fun zd=>?_
 refine A.keep [2,3,8,9] rfl ?_
 refine Exists.elim (show∃R,R=searchM stepsM most (most+1) [⟨[],startS k inn,false⟩] from ⟨_,rfl⟩) fun R hR=>?_
 have hg0:=start_good hm hk.wf hk.root hi hil
 refine A.loopP (ι:=SR) (fun u=>(⟨[(2,AI (most:Nat)),(3,ptrA b3),(8,ptrA b8),(9, .ms u.zd 1 u.dn.length)],[]⟩,[.row 1 u.zd (u.dn.map AB), .box b8 (setA u.z u.l.length 61), .row 12 u.z (u.l.map fun n=>pairA (prN n)), .box b3 (encN k)]))
  (SROk k most R) (fun u=>u.f) ⟨[⟨[],startS k inn,false⟩],[],z1,zd,most+1⟩ (SROk.begin hmo (unt_start hm hk hu hi hil) hR z1 zd) rfl fun u hu ih=>?_
 obtain ⟨l,dn,z,zd,f⟩:=u
 have hu0:=hu
 obtain ⟨hr,hlm,hl1,hdn,hdl,hct,hsk,htl⟩:=hu
 simp only at hr hlm hl1 hdn hdl hct hsk htl
 have n1:(((l.map fun n=>pairA (prN n)).length:Nat):Int)=l.length:=by rw [List.length_map]
 refine y_ ?_
 refine A.valE 29 rfl (x':=AI ((l.length-dn.length:Nat):Int)) (ai_eq (by show IntKind.i64.wrap (((l.length:Nat):Int)-((dn.length:Nat):Int))=_;rw [wr64 _ (by omega)];omega)) ?_
 refine A.appendRowZ rfl rfl rfl rfl rfl rfl rfl rfl rfl rfl rfl rfl rfl rfl rfl (by show (dn.map AB).length+(l.length-dn.length)≤_;rw [List.length_map];omega) (by show ((dn.map AB).length+(l.length-dn.length))*1≤_;rw [List.length_map];omega) fun z2=>?_
 refine y_ ?_
 have e5:dn.map AB++List.replicate (l.length-dn.length) (AB false)=(l.map (·.d)).map AB:=by rw [hdn,List.map_append,List.map_replicate]
 have e6:(dn.map AB).length+(l.length-dn.length)=l.length:=by rw [List.length_map];omega
 refine A.valE 9 rfl (x':= .ms z2 1 l.length) (by show AV.ms z2 1 ((dn.map AB).length+(l.length-dn.length))=_;rw [e6]) ?_
 refine A.entsEq (Λ':=[.row 1 z2 ((l.map (·.d)).map AB), .box b8 (setA z l.length 61), .row 12 z (l.map fun n=>pairA (prN n)), .box b3 (encN k)]) (by show [AEnt.row 1 z2 (dn.map AB++List.replicate (l.length-dn.length) (AB false)),_,_,_]=_;rw [e5]) ?_
 have n2:((l.map (·.d)).map AB).length=l.length:=by rw [List.length_map,List.length_map]
 have n3:(l.map fun n=>pairA (prN n)).length=l.length:=List.length_map ..
 refine A.keep [2,3,8,9,10,32,33,34] rfl ?_
 refine A.rowRaw (List.mem_cons_of_mem _ (List.mem_cons_of_mem _ (List.mem_cons_self ..))) fun az cz hz hcz=>?_
 subst hz
 have hne:(l.map fun n=>pairA (prN n))≠[]:=fun h=>by have:=congrArg List.length h;rw [List.length_map] at this;simp at this;rw [this] at hl1;exact absurd hl1 (by decide)
 refine A.rowSome (a:=az) (n:=(l.map fun n=>pairA (prN n)).length) (c:=cz) (sz:=12) (l:=l.map fun n=>pairA (prN n)) hne fun bz oz haz=>?_
 subst haz
 generalize hzz:Value.slice (some ⟨bz,oz,none⟩) (l.map fun n=>pairA (prN n)).length cz=z
 refine A.loopP (ι:=Nat) (fun i=>(⟨[(2,AI (most:Nat)),(3,ptrA b3),(8,ptrA b8),(9, .ms z2 1 l.length),(10,AI (nextI (pickN l i))),(32, .ms z 12 l.length),(33,AI (l.length:Nat)),(34,AI (i:Nat))],[]⟩,[.row 1 z2 ((l.map (·.d)).map AB), .box b8 (setA z l.length 61), .row 12 z (l.map fun n=>pairA (prN n)), .box b3 (encN k)]))
  (fun i=>i≤l.length) (fun i=>l.length-i) 0 (Nat.zero_le _) rfl fun i hi ih2=>?_
 refine y_ ?_
 refine k_ (fun hc=>?_) fun hc=>?_
 ·have hci:i<l.length:=by simpa using hc
  clear hc
  refine Exists.elim (at_exN (l:=l) (i:=i) hci) fun n hn=>?_
  have hd:((l.map (·.d)).map AB)[((i:Nat):Int).toNat]? =some (AB n.d):=by rw [Int.toNat_natCast,List.getElem?_map,List.getElem?_map,hn];rfl
  refine y_ ?_
  cases hnd:n.d with
  |true=>
   rw [hnd] at hd
   refine d_ 21 [0,1,2,3,4,5,6,7,8,9,10,11,12,13,14,15,16,17,18,19,20] [] ?_
   refine WA.indexRow rfl rfl rfl rfl rfl rfl rfl rfl rfl (by show (0:Int)≤(i:Nat);omega) (by rw [n2];omega) rfl ?_
   refine WA.loadRow rfl rfl rfl rfl rfl rfl rfl (y':=AB true) rfl hd rfl rfl ?_
   refine w_ ?_
   refine z_ ?_
   refine A.valE 34 rfl (x':=AI ((i+1:Nat):Int)) (inc_eq i (by omega)) ?_
   have hud:undone l i=false:=by unfold undone;rw [hn];simp [hnd]
   refine A.valE 10 rfl (x':=AI (nextI (pickN l (i+1)))) (by rw [pick_done hud]) ?_
   refine u_ (ih2 (i+1) (by omega) (by omega))
  |false=>
   rw [hnd] at hd
   have hud:undone l i=true:=by unfold undone;rw [hn];simp [hnd]
   cases hpk:pickN l i with
   |none=>
    refine d_ 21 [0,1,2,3,4,5,6,7,8,9,10,11,12,13,14,15,16,17,18,19,20] [] ?_
    refine WA.indexRow rfl rfl rfl rfl rfl rfl rfl rfl rfl (by show (0:Int)≤(i:Nat);omega) (by rw [n2];omega) rfl ?_
    refine WA.loadRow rfl rfl rfl rfl rfl rfl rfl (y':=AB false) rfl hd rfl rfl ?_
    refine w_ ?_
    refine z_ ?_
    refine A.valE 34 rfl (x':=AI ((i+1:Nat):Int)) (inc_eq i (by omega)) ?_
    refine A.valE 10 rfl (x':=AI (nextI (pickN l (i+1)))) (by rw [pick_first hud hpk]) ?_
    refine u_ (ih2 (i+1) (by omega) (by omega))
   |some j=>
    obtain ⟨hji,hju,_⟩:=pick_some l i j hpk
    refine Exists.elim (at_exN (l:=l) (i:=j) (by omega)) fun n' hn'=>?_
    have hai:(l.map fun n=>pairA (prN n))[i]? =some (pairA (prN n)):=by rw [List.getElem?_map,hn];rfl
    have haj:(l.map fun n=>pairA (prN n))[j]? =some (pairA (prN n')):=by rw [List.getElem?_map,hn'];rfl
    have hb:=cmpB_p n.t n'.t (by have:=htl n (List.mem_of_getElem? hn);omega)
    have ht1:tAt l i=n.t:=by unfold tAt;rw [hn]
    have ht2:tAt l j=n'.t:=by unfold tAt;rw [hn']
    subst hzz
    refine d_ 21 [0,1,2,3,4,5,6,7,8,9,10,11,12,13,14,15,16,17,18,19,20] [] ?_
    refine WA.indexRow rfl rfl rfl rfl rfl rfl rfl rfl rfl (by show (0:Int)≤(i:Nat);omega) (by rw [n2];omega) rfl ?_
    refine WA.loadRow rfl rfl rfl rfl rfl rfl rfl (y':=AB false) rfl hd rfl rfl ?_
    refine w_ ?_
    refine WA.valE 45 rfl (x':=AB false) (ab_eq (by show decide ((j:Int)<0)=false;rw [decide_eq_false_iff_not];omega)) ?_
    refine WA.indexRow rfl rfl rfl rfl rfl rfl rfl rfl rfl (by show (0:Int)≤(i:Nat);omega) (by rw [n3];omega) rfl ?_
    refine WA.epV 49 rfl ?_
    refine w_ ?_
    refine WA.loadPart i 0 rfl rfl rfl rfl rfl (l.map fun n=>pairA (prN n)).length cz oz (by rw [Int.toNat_natCast]) hai (y:=trA n.t) rfl rfl ?_
    refine w_ ?_
    refine WA.indexRow rfl rfl rfl rfl rfl rfl rfl rfl rfl (by show (0:Int)≤(j:Nat);omega) (by show ((j:Nat):Int)<_;rw [n3];omega) rfl ?_
    refine WA.epV 55 rfl ?_
    refine w_ ?_
    refine WA.loadPart j 0 rfl rfl rfl rfl rfl (l.map fun n=>pairA (prN n)).length cz oz (by rw [Int.toNat_natCast]) haj (y:=trA n'.t) rfl rfl ?_
    refine WA.nil (l:=[]) rfl ?_
    refine c_ hb ?_
    have hdec:decide (cmpB n.t n'.t<0)=ltB n.t n'.t:=by rw [Bool.eq_iff_iff,decide_eq_true_eq,cmpB_lt]
    by_cases hL:ltB n.t n'.t=true
    ·refine e_ 61 rfl (x':=AB true) (ab_eq (show decide (cmpB n.t n'.t<0)=true from by rw [hdec,hL])) ?_
     refine A.valE 34 rfl (x':=AI ((i+1:Nat):Int)) (inc_eq i (by omega)) ?_
     refine A.valE 10 rfl (x':=AI (nextI (pickN l (i+1)))) (by rw [pick_next hud hpk,ht1,ht2,if_pos hL]) ?_
     refine u_ (ih2 (i+1) (by omega) (by omega))
    ·refine e_ 61 rfl (x':=AB false) (ab_eq (show decide (cmpB n.t n'.t<0)=false from by rw [hdec];simpa using hL)) ?_
     refine A.valE 34 rfl (x':=AI ((i+1:Nat):Int)) (inc_eq i (by omega)) ?_
     refine A.valE 10 rfl (x':=AI (nextI (pickN l (i+1)))) (by rw [pick_next hud hpk,ht1,ht2,if_neg hL]) ?_
     refine u_ (ih2 (i+1) (by omega) (by omega))
 have hci: ¬i<l.length:=by simpa using hc
 clear hc ih2
 have hie:i=l.length:=by omega
 have hb64:l.length≤4096:=by omega
 subst hzz
 refine A.valE 10 rfl (x':=AI (nextI (pickN l l.length))) (by rw [hie]) ?_
 cases hpk:pickN l l.length with
 |none=>
  have hR2:=hu0.done hpk
  refine y_ ?_
  refine l_ (Λ':=[.row 12 _ (l.map fun n=>pairA (prN n))]) ?_
  refine A.freezeRow 6 rfl ?_
  refine q_ ?_
  rw [←hR,hR2]
  exact s_
 |some j=>
  obtain ⟨hjl,hju,_⟩:=pick_some l _ j hpk
  refine Exists.elim (at_exN (l:=l) (i:=j) hjl) fun x hx=>?_
  refine Exists.elim hu0.pos fun f' hf'=>?_
  have hlook:=hu0.look hf' hpk hx
  have hxs:=hsk x (List.mem_of_getElem? hx)
  have hxt:=htl x (List.mem_of_getElem? hx)
  simp only at hf'
  subst hf'
  have hax:(l.map fun n=>pairA (prN n))[j]? =some (pairA (prN x)):=by rw [List.getElem?_map,hx];rfl
  have hst:=steps_p hxs.good
  have hsl:=steps_len hxs.good
  refine y_ ?_
  refine A.indexRow rfl rfl rfl rfl rfl rfl rfl rfl (by show (0:Int)≤(j:Nat);omega) (by show ((j:Nat):Int)<_;rw [n2];omega) rfl ?_
  refine A.storeRow rfl rfl rfl rfl rfl rfl rfl rfl rfl (by rw [n2];show ((j:Nat):Int).toNat<_;omega) (xs':=((l.map (·.d)).set j true).map AB) (by show ((l.map (·.d)).map AB).set ((j:Nat):Int).toNat (AB true)=_;rw [Int.toNat_natCast,List.map_set]) ?_
  refine y_ ?_
  refine A.indexRow rfl rfl rfl rfl rfl rfl rfl rfl (by show (0:Int)≤(j:Nat);omega) (by show ((j:Nat):Int)<_;rw [n3];omega) rfl ?_
  refine A.loadRow rfl rfl rfl rfl rfl rfl (y':=pairA (prN x)) rfl (by show (l.map fun n=>pairA (prN n))[((j:Nat):Int).toNat]? =_;rw [Int.toNat_natCast];exact hax) rfl rfl ?_
  refine A.b rfl fun b12=>?_
  refine y_ ?_
  refine c_ hst ?_
  have n4:((movsA (realM x.s)).length:Int)=(realM x.s).length:=by rw [List.length_map]
  refine A.valE 80 rfl (x':=AI ((realM x.s).length:Nat)) (ai_eq n4) ?_
  refine A.keep [2,3,8,9,12,79,80,81] rfl ?_
  have hmk:=mark_eq hx
  have hmn:(markN l j).map (fun n=>pairA (prN n))=l.map fun n=>pairA (prN n):=by
   rw [hmk,List.map_set]
   exact set_same hax
  have hmkl:(markN l j).length=l.length:=by rw [hmk,List.length_set]
  generalize hzz:Value.slice (some ⟨bz,oz,none⟩) (l.map fun n=>pairA (prN n)).length cz=z
  refine A.entsEq (Λ':=[.box b12 (pairA (prN x)), .row 1 z2 (((l.map (·.d)).set j true).map AB), .box b8 (setA z (markN l j).length 61), .row 12 z ((markN l j).map fun n=>pairA (prN n)), .box b3 (encN k)]) (by rw [hmn,hmkl];rfl) ?_
  refine A.loopP (ι:=S2) (fun u=>(⟨[(2,AI (most:Nat)),(3,ptrA b3),(8,ptrA b8),(9, .ms z2 1 l.length),(12,ptrA b12),(79, .sl 14 (movsA (realM x.s)) none),(80,AI ((realM x.s).length:Nat)),(81,AI (u.i:Nat))],[]⟩,[.box b12 (pairA (prN x)), .row 1 z2 (((l.map (·.d)).set j true).map AB), .box b8 (setA u.z u.l.length 61), .row 12 u.z (u.l.map fun n=>pairA (prN n)), .box b3 (encN k)]))
   (S2Ok k most f' l j x) (fun u=>(realM x.s).length-u.i) ⟨markN l j,0,z⟩ (S2Ok.begin hx hlm hsk htl z) rfl fun v hv ih2=>?_
  have hv0:=hv
  obtain ⟨l2,i2,z3⟩:=v
  obtain ⟨vr,vi,vlm,vl1,vd,vsk,vtl⟩:=hv
  simp only at vr vi vlm vl1 vd vsk vtl
  have n5:(l2.map fun n=>pairA (prN n)).length=l2.length:=List.length_map ..
  refine y_ ?_
  refine k_ (fun hc=>?_) fun hc=>?_
  ·have hci:i2<(realM x.s).length:=by simpa using hc
   clear hc
   refine Exists.elim (at_exN (l:=realM x.s) (i:=i2) hci) fun m hm=>?_
   have hw:=with_p x.t m (by omega)
   have hxn:=hxs.step (List.mem_of_getElem? hm)
   have ha:=add_p b8 z3 (l2.map prN) (yM x m) 61 sQ (fun y hy=>by
    obtain ⟨n,hn,rfl⟩:=List.mem_map.1 hy
    exact pairs_p _ _ (vsk n hn).good.sms) (by rw [List.length_map];omega)
   refine y_ ?_
   refine j_ rfl (map_at hm) rfl ?_
   (repeat refine A.s rfl ?_)
   refine A.b rfl fun b14=>?_
   have n6:(l2.map prN).map pairA=l2.map fun n=>pairA (prN n):=by rw [List.map_map];rfl
   have wl:=with_len x.t (evM m,m.next)
   refine y_ ?_
   refine d_ 8 [0,1,2,4,5,7,3,6] [(3,trA (withM x.t (evM m,m.next)))] ?_
   refine WA.alloc rfl rfl rfl rfl rfl rfl rfl rfl fun b15=>?_
   refine cw_ hw ?_
   refine WA.nil (l:=[_]) rfl ?_
   refine y_ ?_
   refine l_ (Λ':=[.box b15 (pairA (yM x m)), .box b12 (pairA (prN x)), .row 1 z2 (((l.map (·.d)).set j true).map AB), .box b8 (setA z3 l2.length 61), .row 12 z3 (l2.map fun n=>pairA (prN n)), .box b3 (encN k)]) ?_
   refine A.perm (perm_pick [3,4,0,1,2,5] rfl rfl rfl rfl) ?_
   rcases (show (∃i,findQ sQ (yM x m) (l2.map prN)=some i)∨findQ sQ (yM x m) (l2.map prN)=none from by cases findQ sQ (yM x m) (l2.map prN) with|none=>exact .inr rfl|some i=>exact .inl ⟨i,rfl⟩) with hfq|hfq
   ·refine Exists.elim hfq fun i hfi=>?_
    refine Exists.elim (relax_find.1 i hfi) fun n' hn'=>?_
    obtain ⟨hn1,hn2,hn3⟩:=hn'
    have hil2:i<l2.length:=(List.getElem?_eq_some_iff.1 hn1).1
    have hai2:(l2.map fun n=>pairA (prN n))[i]? =some (pairA (prN n')):=by rw [List.getElem?_map,hn1];rfl
    have e1:addI sQ (l2.map prN) (yM x m)=i:=by unfold addI;rw [hfi]
    have e2:addN sQ (l2.map prN) (yM x m)=false:=by unfold addN;rw [hfi]
    have e3:addR sQ (l2.map prN) (yM x m)=l2.map prN:=by unfold addR;rw [hfi]
    simp only [e1,e2,e3,n6,List.length_map] at ha
    have hb2:=cmpB_p (yM x m).1 n'.t (by show (withM x.t (evM m,m.next)).length≤_;omega)
    have hne2:(l2.map fun n=>pairA (prN n))≠[]:=fun h=>by have:=congrArg List.length h;rw [List.length_map,List.length_nil] at this;omega
    refine A.e rfl ha .refl (List.Perm.refl _) fun z5 _=>?_
    refine A.rowRaw (z:=z5) (sz:=12) (l:=l2.map fun n=>pairA (prN n)) (List.mem_cons_of_mem _ (List.mem_cons_self ..)) fun az5 cz5 hz5 hcz5=>?_
    subst hz5
    refine A.rowSome (a:=az5) (n:=(l2.map fun n=>pairA (prN n)).length) (c:=cz5) (sz:=12) (l:=l2.map fun n=>pairA (prN n)) hne2 fun bz5 oz5 haz5=>?_
    subst haz5
    refine y_ ?_
    refine d_ 11 [0,1,2,3,4,5,6,7,8,9,10] [] ?_
    refine WA.indexRow rfl rfl rfl rfl rfl rfl rfl rfl rfl (by show (0:Int)≤(i:Nat);omega) (by show ((i:Nat):Int)<_;rw [n5];omega) rfl ?_
    refine WA.epV 105 rfl ?_
    refine w_ ?_
    refine WA.loadPart i 0 rfl rfl rfl rfl rfl (l2.map fun n=>pairA (prN n)).length cz5 oz5 (by rw [Int.toNat_natCast]) hai2 (y:=trA n'.t) rfl rfl ?_
    refine WA.nil (l:=[]) rfl ?_
    refine c_ hb2 ?_
    have hdec2:decide (cmpB (yM x m).1 n'.t<0)=ltB (yM x m).1 n'.t:=by rw [Bool.eq_iff_iff,decide_eq_true_eq,cmpB_lt]
    have hrl:(relax (yM x m) l2).length=l2.length:=by rw [hn3,List.length_set]
    by_cases hL:ltB (yM x m).1 n'.t=true
    ·have hrm:(l2.map fun n=>pairA (prN n)).set i (pairA ((yM x m).1,n'.s))=(relax (yM x m) l2).map fun n=>pairA (prN n):=by rw [hn3,List.map_set,if_pos hL]
     refine e_ 110 rfl (x':=AB true) (ab_eq (show decide (cmpB (yM x m).1 n'.t<0)=true from by rw [hdec2,hL])) ?_
     refine A.indexRow rfl rfl rfl rfl rfl rfl rfl rfl (by show (0:Int)≤(i:Nat);omega) (by show ((i:Nat):Int)<_;rw [n5];omega) rfl ?_
     refine A.epV 116 rfl ?_
     refine y_ ?_
     refine A.storeRowF i 0 ty78 rfl rfl rfl rfl rfl (l2.map fun n=>pairA (prN n)).length cz5 oz5 (by rw [Int.toNat_natCast]) hai2 (x':=pairA ((yM x m).1,n'.s)) rfl rfl rfl rfl hrm ?_
     refine A.keep [2,3,8,9,12,79,80,81] rfl ?_
     generalize hzz5:Value.slice (some ⟨bz5,oz5,none⟩) (l2.map fun n=>pairA (prN n)).length cz5=z5
     refine A.entsEq (Λ':=[.box b8 (setA z5 (relax (yM x m) l2).length 61), .row 12 z5 ((relax (yM x m) l2).map fun n=>pairA (prN n)), .box b15 (pairA (yM x m)), .box b12 (pairA (prN x)), .row 1 z2 (((l.map (·.d)).set j true).map AB), .box b3 (encN k)]) (by rw [hrl];rfl) ?_
     have n7:((relax (yM x m) l2).map fun n=>pairA (prN n)).length=(relax (yM x m) l2).length:=List.length_map ..
     refine y_ ?_
     by_cases hbig:most<(relax (yM x m) l2).length
     ·refine T_ rfl (by show decide ((most:Int)<((relax (yM x m) l2).length:Nat))=true;rw [decide_eq_true_eq];omega) ?_
      refine q_ ?_
      rw [←hR,hlook,hv0.full hm hbig]
      exact s_
     ·refine F_ rfl (by show decide ((most:Int)<((relax (yM x m) l2).length:Nat))=false;rw [decide_eq_false_iff_not];omega) ?_
      refine A.valE 81 rfl (x':=AI ((i2+1:Nat):Int)) (inc_eq i2 (by omega)) ?_
      refine l_ (Λ':=[.box b8 (setA z5 (relax (yM x m) l2).length 61), .row 12 z5 ((relax (yM x m) l2).map fun n=>pairA (prN n)), .box b12 (pairA (prN x)), .row 1 z2 (((l.map (·.d)).set j true).map AB), .box b3 (encN k)]) ?_
      refine A.perm (perm_pick [2,3,0,1,4] rfl rfl rfl rfl) ?_
      refine u_ (ih2 ⟨relax (yM x m) l2,i2+1,z5⟩ (hv0.next hxs hxt hm z5 (by show (relax (yM x m) l2).length≤most;omega)) (by show _-(i2+1)<_-i2;omega))
    ·have hrm:relax (yM x m) l2=l2:=by rw [hn3,if_neg hL];exact set_same hn1
     refine A.valE 110 rfl (x':=AB false) (ab_eq (show decide (cmpB (yM x m).1 n'.t<0)=false from by rw [hdec2];simpa using hL)) ?_
     refine A.keep [2,3,8,9,12,79,80,81,110] rfl ?_
     generalize hzz5:Value.slice (some ⟨bz5,oz5,none⟩) (l2.map fun n=>pairA (prN n)).length cz5=z5
     refine A.entsEq (Λ':=[.box b8 (setA z5 (relax (yM x m) l2).length 61), .row 12 z5 ((relax (yM x m) l2).map fun n=>pairA (prN n)), .box b15 (pairA (yM x m)), .box b12 (pairA (prN x)), .row 1 z2 (((l.map (·.d)).set j true).map AB), .box b3 (encN k)]) (by rw [hrm];rfl) ?_
     have n7:((relax (yM x m) l2).map fun n=>pairA (prN n)).length=(relax (yM x m) l2).length:=List.length_map ..
     refine y_ ?_
     by_cases hbig:most<(relax (yM x m) l2).length
     ·refine T_ rfl (by show decide ((most:Int)<((relax (yM x m) l2).length:Nat))=true;rw [decide_eq_true_eq];omega) ?_
      refine q_ ?_
      rw [←hR,hlook,hv0.full hm hbig]
      exact s_
     ·refine F_ rfl (by show decide ((most:Int)<((relax (yM x m) l2).length:Nat))=false;rw [decide_eq_false_iff_not];omega) ?_
      refine A.valE 81 rfl (x':=AI ((i2+1:Nat):Int)) (inc_eq i2 (by omega)) ?_
      refine l_ (Λ':=[.box b8 (setA z5 (relax (yM x m) l2).length 61), .row 12 z5 ((relax (yM x m) l2).map fun n=>pairA (prN n)), .box b12 (pairA (prN x)), .row 1 z2 (((l.map (·.d)).set j true).map AB), .box b3 (encN k)]) ?_
      refine A.perm (perm_pick [2,3,0,1,4] rfl rfl rfl rfl) ?_
      refine u_ (ih2 ⟨relax (yM x m) l2,i2+1,z5⟩ (hv0.next hxs hxt hm z5 (by show (relax (yM x m) l2).length≤most;omega)) (by show _-(i2+1)<_-i2;omega))
   ·have e1:addI sQ (l2.map prN) (yM x m)=l2.length:=by unfold addI;rw [hfq,List.length_map]
    have e2:addN sQ (l2.map prN) (yM x m)=true:=by unfold addN;rw [hfq]
    have e3:addR sQ (l2.map prN) (yM x m)=(relax (yM x m) l2).map prN:=by unfold addR;rw [hfq,relax_find.2 hfq,List.map_append];rfl
    have n8:((relax (yM x m) l2).map prN).map pairA=(relax (yM x m) l2).map fun n=>pairA (prN n):=by rw [List.map_map];rfl
    simp only [e1,e2,e3,n6,n8,List.length_map] at ha
    refine A.e rfl ha .refl (List.Perm.refl _) fun z5 _=>?_
    refine y_ ?_
    refine d_ 11 [0,1,2,3,4,5,6,7,8,9,10] [] ?_
    refine WA.nil (l:=[]) rfl ?_
    have n7:((relax (yM x m) l2).map fun n=>pairA (prN n)).length=(relax (yM x m) l2).length:=List.length_map ..
    refine y_ ?_
    by_cases hbig:most<(relax (yM x m) l2).length
    ·refine T_ rfl (by show decide ((most:Int)<((relax (yM x m) l2).length:Nat))=true;rw [decide_eq_true_eq];omega) ?_
     refine q_ ?_
     rw [←hR,hlook,hv0.full hm hbig]
     exact s_
    ·refine F_ rfl (by show decide ((most:Int)<((relax (yM x m) l2).length:Nat))=false;rw [decide_eq_false_iff_not];omega) ?_
     refine A.valE 81 rfl (x':=AI ((i2+1:Nat):Int)) (inc_eq i2 (by omega)) ?_
     refine l_ (Λ':=[.box b8 (setA z5 (relax (yM x m) l2).length 61), .row 12 z5 ((relax (yM x m) l2).map fun n=>pairA (prN n)), .box b12 (pairA (prN x)), .row 1 z2 (((l.map (·.d)).set j true).map AB), .box b3 (encN k)]) ?_
     refine A.perm (perm_pick [2,3,0,1,4] rfl rfl rfl rfl) ?_
     refine u_ (ih2 ⟨relax (yM x m) l2,i2+1,z5⟩ (hv0.next hxs hxt hm z5 (by show (relax (yM x m) l2).length≤most;omega)) (by show _-(i2+1)<_-i2;omega))
  have hci: ¬i2<(realM x.s).length:=by simpa using hc
  clear hc ih2
  have hie2:i2=(realM x.s).length:=by omega
  refine y_ ?_
  refine l_ (Λ':=[.row 1 z2 (((l.map (·.d)).set j true).map AB), .box b8 (setA z3 l2.length 61), .row 12 z3 (l2.map fun n=>pairA (prN n)), .box b3 (encN k)]) ?_
  have hln:((l.map (·.d)).set j true).length=l.length:=by rw [List.length_set,List.length_map]
  refine A.valE 9 rfl (x':= .ms z2 1 ((l.map (·.d)).set j true).length) (by show AV.ms z2 1 l.length=_;rw [hln]) ?_
  refine u_ (ih ⟨l2,(l.map (·.d)).set j true,z3,z2,f'⟩ (hu0.next rfl hpk hx hv0 hie2 z2) (Nat.lt_succ_self _))
def badS(s:ST):Bool:=(realM s).isEmpty&& !doneR s.root
structure ChkX(k:KN)(most:Int):Prop where
 may:mayK k=true
 lo:1≤most
 hi:most≤4096
 unt:untR k.root=true
theorem chk0{k:KN}{n most:Int}(h:checkX k n most=0):ChkX k most∧0≤n:=by
 unfold checkX at h
 by_cases h1:mayK k=false∨n<0∨most<1
 ·rw [if_pos h1] at h;cases h
 rw [if_neg h1] at h
 by_cases h2:4096<most
 ·rw [if_pos h2] at h;cases h
 rw [if_neg h2] at h
 by_cases h3:untR k.root=false
 ·rw [if_pos h3] at h;cases h
 refine ⟨⟨?_,by omega,by omega,by simpa using h3⟩,by omega⟩
 cases hm:mayK k with
 |true=>rfl
 |false=>exact absurd (.inl hm) h1
def reachM(k:KN)(inn:List Int)(most:Nat):Option (List (ND ST)):=searchM stepsM most (most+1) [⟨[],startS k inn,false⟩]
theorem reach_keep{k:KN}{inn:List Int}{most:Nat}(hs:SrchK k (startS k inn)){l:List (ND ST)}(h:reachM k inn most=some l): ∀n,n∈l→SrchK k n.s:=fun n hn=>hs.wlk ((search_all h).1 n hn)
theorem relaxAll_len{most:Nat}: ∀(r:List (TR×ST)) (l l':List (ND ST)),l.length≤most→relaxAll most l r=some l'→l'.length≤most
 | [],l,l',h,e=>by rw [relaxAll] at e;injection e with e;subst e;exact h
 |y::r,l,l',h,e=>by
  rw [relaxAll] at e
  split at e
  ·cases e
  ·exact relaxAll_len r _ l' (by omega) e
theorem relaxAll_tr{most c:Nat}: ∀(r:List (TR×ST)) (l l':List (ND ST)),(∀n,n∈l→n.t.length≤c)→(∀y,y∈r→y.1.length≤c)→relaxAll most l r=some l'→ ∀n,n∈l'→n.t.length≤c
 | [],l,l',h,_,e=>by rw [relaxAll] at e;injection e with e;subst e;exact h
 |y::r,l,l',h,hr,e=>by
  rw [relaxAll] at e
  split at e
  ·cases e
  ·refine relaxAll_tr r _ l' (fun n hn=>?_) (fun z hz=>hr z (.tail _ hz)) e
   rcases relax_mem hn with hn|rfl|⟨o,ho,_,_,rfl⟩
   ·exact h n hn
   ·exact hr y (.head _)
   ·exact hr y (.head _)
theorem search_len{most:Nat}: ∀(f:Nat) (l l':List (ND ST)),l.length≤most→searchM stepsM most f l=some l'→l'.length≤most
 |0,l,l',_,e=>by rw [searchM] at e;cases e
 |f+1,l,l',h,e=>by
  rw [searchM] at e
  split at e
  ·injection e with e;subst e;exact h
  ·split at e
   ·cases e
   ·rename_i x hx
    split at e
    ·cases e
    ·rename_i l1 h1
     refine search_len f _ l' (relaxAll_len _ _ _ ?_ h1) e
     rw [mark_eq hx,List.length_set];exact h
theorem search_tr{most:Nat}: ∀(f c:Nat) (l l':List (ND ST)),(∀n,n∈l→n.t.length≤c)→searchM stepsM most f l=some l'→ ∀n,n∈l'→n.t.length≤c+f
 |0,c,l,l',_,e=>by rw [searchM] at e;cases e
 |f+1,c,l,l',h,e=>by
  rw [searchM] at e
  split at e
  ·injection e with e;subst e
   intro n hn;have:=h n hn;omega
  ·split at e
   ·cases e
   ·rename_i x hx
    split at e
    ·cases e
    ·rename_i l1 h1
     have hxc:=h x (List.mem_of_getElem? hx)
     have:=search_tr f (c+1) _ l' (relaxAll_tr (c:=c+1) _ _ _ (fun n hn=>?_) (fun y hy=>?_) h1) e
     ·intro n hn;have:=this n hn;omega
     ·rw [mark_eq hx] at hn
      rcases List.mem_or_eq_of_mem_set hn with hn|rfl
      ·have:=h n hn;omega
      ·show x.t.length≤_;omega
     ·obtain ⟨m,_,rfl⟩:=List.mem_map.1 hy
      have:=with_len x.t m
      show (withM x.t m).length≤_;omega
theorem reach_len{k:KN}{inn:List Int}{most:Nat}(hm:1≤most){l:List (ND ST)}(h:reachM k inn most=some l):l.length≤most:=search_len _ _ _ (by simpa using hm) h
theorem reach_tr{k:KN}{inn:List Int}{most:Nat}{l:List (ND ST)}(h:reachM k inn most=some l): ∀n,n∈l→n.t.length≤most+1:=fun n hn=>by
 have:=search_tr (most+1) 0 _ _ (fun n hn=>by rw [List.mem_singleton.1 hn];exact Nat.le_refl _) h n hn;omega
theorem reach_p(k:KN)(hk:SmN k){most:Nat}(hc:ChkX k most)(inn:List Int)(hi: ∀x,x∈inn→i32 x)(hil:inn.length≤35184372088832):
 Pure Tryz.prog gs0 34 [encN k,rowA inn,AI (most:Nat)] (match reachM k inn most with
  |some l=> .tp [.sl 12 (l.map fun n=>pairA (prN n)) none,AI 0]
  |none=> .tp [.sl 12 [] none,AI 190]):=
 search_p k hk hc.may hc.unt inn hi hil most (by have:=hc.lo;omega) (by have:=hc.hi;omega)
theorem states_no(k:KN)(hk:SmN k)(inn:List Int)(most:Int)(h:checkX k 0 most≠0):Pure Tryz.prog gs0 17 [encN k,rowA inn,AI most] (.tp [AI 0,AI (checkX k 0 most)]):=by
 have h1:=checkX_p k hk 0 most
 refine p_ tt_ok Tryz.func17 27 fun w0 h0 F hgs=>?_
 (repeat refine A.s rfl ?_)
 refine A.b rfl fun b3=>?_
 refine y_ ?_
 refine c_ h1 ?_
 refine T_ rfl (bne_iff_ne.2 h) ?_
 refine q_ ?_
 exact .refl
theorem states_yes(k:KN)(hk:SmN k)(most:Nat)(h:checkX k 0 (most:Nat)=0)(inn:List Int)(hi: ∀x,x∈inn→i32 x)(hil:inn.length≤35184372088832):Pure Tryz.prog gs0 17 [encN k,rowA inn,AI (most:Nat)] (match reachM k inn most with
 |some l=> .tp [AI (l.length:Nat),AI 0]
 |none=> .tp [AI 0,AI 190]):=by
 have h1:=checkX_p k hk 0 (most:Nat)
 have hs:=reach_p k hk (chk0 h).1 inn hi hil
 rw [h] at h1
 cases hr:reachM k inn most with
 |none=>
  rw [hr] at hs
  refine p_ tt_ok Tryz.func17 27 fun w0 h0 F hgs=>?_
  (repeat refine A.s rfl ?_)
  refine A.b rfl fun b3=>?_
  refine y_ ?_
  refine c_ h1 ?_
  refine c_ hs ?_
  refine q_ ?_
  exact .refl
 |some l=>
  rw [hr] at hs
  have n1:((l.map fun n=>pairA (prN n)).length:Int)=l.length:=by rw [List.length_map]
  refine p_ tt_ok Tryz.func17 27 fun w0 h0 F hgs=>?_
  (repeat refine A.s rfl ?_)
  refine A.b rfl fun b3=>?_
  refine y_ ?_
  refine c_ h1 ?_
  refine c_ hs ?_
  refine A.valE 6 rfl (x':=AI (l.length:Nat)) (ai_eq n1) ?_
  refine q_ ?_
  exact .refl
theorem stuck_no(k:KN)(hk:SmN k)(inn:List Int)(most:Int)(h:checkX k 0 most≠0):Pure Tryz.prog gs0 11 [encN k,rowA inn,AI most] (.tp [trA [],AB false,AI (checkX k 0 most)]):=by
 have h1:=checkX_p k hk 0 most
 refine p_ tt_ok Tryz.func11 63 fun w0 h0 F hgs=>?_
 (repeat refine A.s rfl ?_)
 refine A.b rfl fun b3=>?_
 refine y_ ?_
 refine c_ h1 ?_
 refine T_ rfl (bne_iff_ne.2 h) ?_
 refine A.ret3 (Λ':=[]) rfl rfl rfl rfl rfl (List.nil_sublist _) ⟨?_,rfl⟩
 exact s_
theorem stuck_full(k:KN)(hk:SmN k)(most:Nat)(h:checkX k 0 (most:Nat)=0)(inn:List Int)(hi: ∀x,x∈inn→i32 x)(hil:inn.length≤35184372088832)(hr:reachM k inn most=none):Pure Tryz.prog gs0 11 [encN k,rowA inn,AI (most:Nat)] (.tp [trA [],AB false,AI 190]):=by
 have h1:=checkX_p k hk 0 (most:Nat)
 have hs:=reach_p k hk (chk0 h).1 inn hi hil
 rw [h] at h1
 rw [hr] at hs
 refine p_ tt_ok Tryz.func11 63 fun w0 h0 F hgs=>?_
 (repeat refine A.s rfl ?_)
 refine A.b rfl fun b3=>?_
 refine y_ ?_
 refine c_ h1 ?_
 refine c_ hs ?_
 refine A.ret3 (Λ':=[]) rfl rfl rfl rfl rfl (List.nil_sublist _) ⟨?_,rfl⟩
 exact s_
def optT(o:Option TR):TR:=match o with
 |some t=>t
 |none=>[]
theorem stuck_take(bad:ST→Bool){l:List (ND ST)}{i:Nat}{n:ND ST}(h:l[i]? =some n):stuckM bad (l.take (i+1))=stuckStep bad (stuckM bad (l.take i)) n:=by
 rw [List.take_add_one,h];exact stuck_snoc bad _ n
theorem stuck_yes(k:KN)(hk:SmN k)(most:Nat)(h:checkX k 0 (most:Nat)=0)(inn:List Int)(hi: ∀x,x∈inn→i32 x)(hil:inn.length≤35184372088832)(l:List (ND ST))(hr:reachM k inn most=some l):Pure Tryz.prog gs0 11 [encN k,rowA inn,AI (most:Nat)] (.tp [trA (optT (stuckM badS l)),AB (stuckM badS l).isSome,AI 0]):=by
 have h1:=checkX_p k hk 0 (most:Nat)
 have hc:=(chk0 h).1
 have hs:=reach_p k hk hc inn hi hil
 have hkp:=reach_keep (unt_start hc.may hk hc.unt hi hil) hr
 have htr:=reach_tr hr
 have hlen:=reach_len (by have:=hc.lo;omega) hr
 have hm4:=hc.hi
 rw [h] at h1
 rw [hr] at hs
 have n1:((l.map fun n=>pairA (prN n)).length:Int)=l.length:=by rw [List.length_map]
 refine Exists.elim (show∃R,R=stuckM badS l from ⟨_,rfl⟩) fun R hR=>?_
 rw [←hR]
 refine p_ tt_ok Tryz.func11 63 fun w0 h0 F hgs=>?_
 (repeat refine A.s rfl ?_)
 refine A.b rfl fun b3=>?_
 refine y_ ?_
 refine c_ h1 ?_
 refine c_ hs ?_
 refine A.valE 30 rfl (x':=AI (l.length:Nat)) (ai_eq n1) ?_
 refine A.val 6 rfl (x':=trA []) s_ ?_
 refine A.keep [3,6,7,29,30,31] rfl ?_
 refine A.loopP (ι:=Nat) (fun i=>(⟨[(3,ptrA b3),(6,trA (optT (stuckM badS (l.take i)))),(7,AB (stuckM badS (l.take i)).isSome),(29, .sl 12 (l.map fun n=>pairA (prN n)) none),(30,AI (l.length:Nat)),(31,AI (i:Nat))],[]⟩,[.box b3 (encN k)]))
  (fun i=>i≤l.length) (fun i=>l.length-i) 0 (Nat.zero_le _) rfl fun i hi1 ih=>?_
 refine y_ ?_
 refine k_ (fun hc=>?_) fun hc=>?_
 ·have hci:i<l.length:=by simpa using hc
  clear hc
  refine Exists.elim (at_exN (l:=l) (i:=i) hci) fun n hn=>?_
  have hnk:=hkp n (List.mem_of_getElem? hn)
  have hnt:=htr n (List.mem_of_getElem? hn)
  have hst:=steps_p hnk.good
  have hdn:=sdone_p n.s hnk.good.sms.root
  have htk:=stuck_take badS hn
  have n2:((movsA (realM n.s)).length:Int)=(realM n.s).length:=by rw [List.length_map]
  have hbt: ∀t',Pure Tryz.prog gs0 35 [trA n.t,trA t'] (AI (cmpB n.t t')):=fun t'=>cmpB_p n.t t' (by omega)
  refine y_ ?_
  refine j_ rfl (map_at hn) rfl ?_
  (repeat refine A.s rfl ?_)
  refine A.b rfl fun b12=>?_
  refine y_ ?_
  refine c_ hst ?_
  by_cases hemp:realM n.s=[]
  case neg=>
   have hb:badS n.s=false:=by unfold badS;rw [List.isEmpty_eq_false_iff.2 hemp];rfl
   have hst2:stuckStep badS (stuckM badS (l.take i)) n=stuckM badS (l.take i):=by unfold stuckStep;rw [if_neg (by rw [hb];decide)]
   have hpos:=List.length_pos_iff.2 hemp
   refine e_ 41 rfl (x':=AB false) (ab_eq (by rw [n2];show decide _=_;rw [decide_eq_false_iff_not];omega)) ?_
   refine A.valE 31 rfl (x':=AI ((i+1:Nat):Int)) (inc_eq i (by omega)) ?_
   refine A.valE 6 rfl (x':=trA (optT (stuckM badS (l.take (i+1))))) (by rw [htk,hst2];try rfl) ?_
   refine A.valE 7 rfl (x':=AB (stuckM badS (l.take (i+1))).isSome) (by rw [htk,hst2];try rfl) ?_
   refine l_ (Λ':=[.box b3 (encN k)]) ?_
   refine u_ (ih (i+1) (by omega) (by omega))
  case pos=>
   refine e_ 41 rfl (x':=AB true) (ab_eq (by rw [hemp];rfl)) ?_
   refine n_ hdn ?_
   by_cases hdo:doneR n.s.root=true
   ·have hb:badS n.s=false:=by unfold badS;rw [hdo];exact Bool.and_false _
    have hst2:stuckStep badS (stuckM badS (l.take i)) n=stuckM badS (l.take i):=by unfold stuckStep;rw [if_neg (by rw [hb];decide)]
    refine e_ 44 rfl (x':=AB true) (by rw [hdo]) ?_
    refine A.valE 31 rfl (x':=AI ((i+1:Nat):Int)) (inc_eq i (by omega)) ?_
    refine A.valE 6 rfl (x':=trA (optT (stuckM badS (l.take (i+1))))) (by rw [htk,hst2];try rfl) ?_
    refine A.valE 7 rfl (x':=AB (stuckM badS (l.take (i+1))).isSome) (by rw [htk,hst2];try rfl) ?_
    refine l_ (Λ':=[.box b3 (encN k)]) ?_
    refine u_ (ih (i+1) (by omega) (by omega))
   ·have hb:badS n.s=true:=by unfold badS;rw [hemp];simpa using hdo
    refine A.valE 44 rfl (x':=AB false) (ab_eq (by simpa using hdo)) ?_
    rcases (show stuckM badS (l.take i)=none∨ ∃t,stuckM badS (l.take i)=some t from by cases stuckM badS (l.take i) with|none=>exact .inl rfl|some t=>exact .inr ⟨t,rfl⟩) with hsm|hsm
    ·have hst2:stuckStep badS (stuckM badS (l.take i)) n=some n.t:=by unfold stuckStep;rw [if_pos hb,hsm]
     refine e_ 7 rfl (x':=AB false) (by rw [hsm];rfl) ?_
     refine A.valE 31 rfl (x':=AI ((i+1:Nat):Int)) (inc_eq i (by omega)) ?_
     refine A.valE 6 rfl (x':=trA (optT (stuckM badS (l.take (i+1))))) (by rw [htk,hst2];try rfl) ?_
     refine A.valE 7 rfl (x':=AB (stuckM badS (l.take (i+1))).isSome) (by rw [htk,hst2];try rfl) ?_
     refine l_ (Λ':=[.box b3 (encN k)]) ?_
     refine u_ (ih (i+1) (by omega) (by omega))
    ·refine Exists.elim hsm fun t' hsm=>?_
     have hbt':=hbt t'
     have hdec:decide (cmpB n.t t'<0)=ltB n.t t':=by rw [Bool.eq_iff_iff,decide_eq_true_eq,cmpB_lt]
     refine A.valE 7 rfl (x':=AB true) (by rw [hsm];rfl) ?_
     refine e_ 6 rfl (x':=trA t') (by rw [hsm];rfl) ?_
     refine n_ hbt' ?_
     by_cases hL:ltB n.t t'=true
     ·have hst2:stuckStep badS (stuckM badS (l.take i)) n=some n.t:=by unfold stuckStep;rw [if_pos hb,hsm];exact if_pos hL
      refine A.s rfl ?_
      refine e_ 55 rfl (x':=AB true) (ab_eq (by rw [hdec,hL])) ?_
      refine A.valE 31 rfl (x':=AI ((i+1:Nat):Int)) (inc_eq i (by omega)) ?_
      refine A.valE 6 rfl (x':=trA (optT (stuckM badS (l.take (i+1))))) (by rw [htk,hst2];try rfl) ?_
      refine A.valE 7 rfl (x':=AB (stuckM badS (l.take (i+1))).isSome) (by rw [htk,hst2];try rfl) ?_
      refine l_ (Λ':=[.box b3 (encN k)]) ?_
      refine u_ (ih (i+1) (by omega) (by omega))
     ·have hst2:stuckStep badS (stuckM badS (l.take i)) n=some t':=by unfold stuckStep;rw [if_pos hb,hsm];exact if_neg hL
      refine A.s rfl ?_
      refine e_ 55 rfl (x':=AB false) (ab_eq (by rw [hdec];simpa using hL)) ?_
      refine A.valE 31 rfl (x':=AI ((i+1:Nat):Int)) (inc_eq i (by omega)) ?_
      refine A.valE 6 rfl (x':=trA (optT (stuckM badS (l.take (i+1))))) (by rw [htk,hst2];try rfl) ?_
      refine A.valE 7 rfl (x':=AB (stuckM badS (l.take (i+1))).isSome) (by rw [htk,hst2];try rfl) ?_
      refine l_ (Λ':=[.box b3 (encN k)]) ?_
      refine u_ (ih (i+1) (by omega) (by omega))
 have hci: ¬i<l.length:=by simpa using hc
 clear hc ih
 have hie:i=l.length:=by omega
 refine A.valE 6 rfl (x':=trA (optT R)) (by rw [hR,hie,List.take_length]) ?_
 refine e_ 7 rfl (x':=AB R.isSome) (by rw [hR,hie,List.take_length]) ?_
 refine A.ret3 (Λ':=[]) rfl rfl rfl rfl rfl (List.nil_sublist _) ⟨?_,rfl⟩
 exact s_
end Go.Proofs.YtpcloejpklkieaaGreat
namespace Go.Tp
open Go Go.RowKit
def atW{α:Type}(l:List α)(h:0<l.length)(i:Nat):α:=l[i % l.length]'(Nat.mod_lt _ h)
theorem atW_lt{α:Type}{l:List α}(h:0<l.length){i:Nat}(hi:i<l.length):l[i]? =some (atW l h i):=by
 unfold atW
 have:i % l.length=i:=Nat.mod_eq_of_lt hi
 simp [this,hi]
theorem atW_mem{α:Type}{l:List α}(h:0<l.length)(i:Nat):atW l h i∈l:=List.getElem_mem ..
theorem map_atW{α:Type}{l:List α}(h:0<l.length):(List.range l.length).map (atW l h)=l:=by
 apply List.ext_getElem?
 intro i
 rcases Nat.lt_or_ge i l.length with hi|hi
 ·rw [List.getElem?_map,List.getElem?_range hi,Option.map_some,atW_lt h hi]
 ·rw [List.getElem?_eq_none (by simpa using hi),List.getElem?_eq_none hi]
theorem RpC.atW{h:GH}{l:List AV}{zs:List Value}(r:RpC h l zs)(h1:0<l.length)(h2:0<zs.length)(i:Nat):Rp h (atW l h1 i) (atW zs h2 i):=by
 have hl:=r.len
 obtain ⟨v,e,q⟩:=r.at (i:=i % l.length) (x:=Go.Tp.atW l h1 i) (by simp [Go.Tp.atW])
 have:Go.Tp.atW zs h2 i=v:=by
  unfold Go.Tp.atW
  have e':zs[i % zs.length]? =some v:=by rw [hl];exact e
  rw [List.getElem?_eq_getElem (Nat.mod_lt _ h2)] at e'
  exact Option.some.inj e'
 rw [this];exact q
theorem RpC_map{h:GH}{ι:Type}{f:ι→AV}{z:ι→Value}(r: ∀i,Rp h (f i) (z i)): ∀l:List ι,RpC h (l.map f) (l.map z)
 | []=>RpC_nil.2 rfl
 |x::l=>RpC_cons.2 ⟨_,_,rfl,r x,RpC_map r l⟩
section
variable{κ:Type}{P:Program}{gs:Ua}{ρ:Shelf.Ren}
theorem mono_swo{α β:Type}{lt:α→α→Bool}(f:β→α)(h:Sort.SWO lt):Sort.SWO fun x y=>lt (f x) (f y):=
 ⟨fun x=>h.irrefl _,fun x y z=>h.trans _ _ _,fun x y z=>h.ntrans _ _ _⟩
theorem perm_of_in{n:Nat}{d d':Array Nat}(hd:d.size=n)(h:Sort.PermIn 0 n d d'):d'.toList.Perm d.toList:=by
 obtain ⟨h1,_,h3⟩:=h
 have e1:d'.extract 0 n=d':=by rw [←hd,←h1];simp
 have e2:d.extract 0 n=d:=by rw [←hd];simp
 rwa [e1,e2] at h3
theorem sorted_of_in{lt:Nat→Nat→Bool}{n:Nat}{d:Array Nat}(hd:d.size=n)(h:Sort.SortedIn lt 0 n d):d.toList.Pairwise fun x y=>lt y x=false:=by
 rw [List.pairwise_iff_getElem]
 intro i j hi hj hij
 have hi':i<d.size:=by simpa using hi
 have hj':j<d.size:=by simpa using hj
 have:=h i j (Nat.zero_le _) hij (by omega)
 rw [getElem!_pos d i hi',getElem!_pos d j hj'] at this
 simpa using this
theorem sort1_fun(L:Go.Proofs.SlLaysF.n6 P ρ)(hfn: ∃g c,P.funcs[ρ.f 6]? =some g∧g.body=some c∧(g.name== "runtime.NumGoroutine")=false)
 (enc:κ→AV) (cf:κ→κ→Int) (hO:Sort.SWO fun x y=>decide (cf x y<0)) (g:FuncId) (eg: ∀args w,(callFunc g args).run P w= .ok (.enter g args) w) (z:Value) (n:Nat) (ks:List κ) (h1: ∀x,x∈ks→(enc x).one=true)
 (hc: ∀x,x∈ks→ ∀y,y∈ks→Pure P gs g [enc x,enc y] (.v (.int .i64 (cf x y)))) (hsz:ks.length<4611686018427387904):
 Fun P gs (ρ.f 6) [.ms z 1 n, .fn g [] []] [.row 1 z (ks.map enc)] fun y Λ'=> ∃ks':List κ,ks'.Perm ks∧ks'.Pairwise (fun a b=>0≤cf b a)∧y= .tp []∧Λ'=[.row 1 z (ks'.map enc)]:=by
 intro w0 h vs LL F hg r q
 rw [RpC_cons] at r
 obtain ⟨u,us,rfl,r1,r2⟩:=r
 rw [RpC_cons] at r2
 obtain ⟨u2,us2,rfl,r2,r3⟩:=r2
 rw [RpC_nil] at r3;subst r3
 rw [Rp_ms] at r1
 obtain ⟨rfl,_⟩:=r1
 rw [Rp_fn] at r2
 obtain ⟨c1,c2,rfl,r4,r5⟩:=r2
 rw [RpC_nil] at r4 r5;subst r4;subst r5
 obtain ⟨M,L2,rfl,⟨p,hrow,rfl⟩,q2⟩:=q
 have q2:L2=[]:=q2
 subst q2
 refine ⟨hfn,fun w s=>?_⟩
 have hrow':=hrow
 obtain ⟨a,cap,zs,e1,e2,e3,e4,e5⟩:=hrow
 rw [List.length_map] at e1 e2
 subst e1
 by_cases hn:0<ks.length
 ·rcases e5 with ⟨e5,_⟩|⟨b,o,sp,rfl,rfl,e6⟩
  ·simp at e5;subst e5;simp at hn
  have hzl:zs.length=ks.length:=by rw [e3.rp.len,List.length_map]
  have hz:0<zs.length:=by omega
  have hel: ∀i,Rp h (enc (atW ks hn i)) (atW zs hz i):=fun i=>by
   have:=e3.rp.atW (by rw [List.length_map];exact hn) hz i
   have e:atW (ks.map enc) (by rw [List.length_map];exact hn) i=enc (atW ks hn i):=by simp [atW]
   rwa [e] at this
  have hon: ∀i,oneC (atW zs hz i)=true:=fun i=>(hel i).one (h1 _ (atW_mem hn i))
  have hcat: ∀l:List Nat,catL (l.map (atW zs hz))=l.map (atW zs hz):=fun l=>by
   induction l with
   |nil=>rfl
   |cons x l ih=>show cellsL _++catL (l.map _)=_;rw [cellsL_one (hon x),ih];rfl
  have hzz:(List.range ks.length).map (atW zs hz)=zs:=by rw [←hzl];exact map_atW hz
  let d:Array Nat:=(List.range ks.length).toArray
  have hds:d.size=ks.length:=by simp [d]
  have hcz:catL zs=zs:=by rw [←hzz];exact hcat _
  have hH:Sort.Holds (atW zs hz) w b o d:=by
   intro j hj
   rw [hds] at hj
   have kk:=s.own _ (List.mem_cons_self ..)
   have hv:zs[j]? =some (atW zs hz d[j]!):=by
    rw [getElem!_pos d j (by rw [hds];exact hj)]
    have:d[j]'(by rw [hds];exact hj)=j:=by simp [d]
    rw [this];exact atW_lt hz (by omega)
   exact ⟨kk.cell j _ (by show (catL zs++sp)[j]? =_;rw [hcz,List.getElem?_append_left (by omega)];exact hv),kk.warm j (by show j<(catL zs++sp).length;rw [hcz,List.length_append];omega)⟩
  have hst: ∀(m:Nat) (os:Array Obj) (dk:Array Nat),dk.size=d.size→St w0 h (⟨b,o,catL (dk.toList.map (atW zs hz))++sp,none⟩::([]++F)) (Go.Proofs.sortWorld (atW zs hz) w b o m dk os):=fun m os dk hdk=>by
   have:=s.sorted (enc:=atW zs hz) (d:=d) (d':=dk) (n:=m) (os:=os) (by rw [hds,hcz,List.length_append];omega) (by rw [hds];exact hn) hH hdk (fun j hj=>hon _)
   rw [hds,hcz,←hzl,List.drop_left] at this
   rw [hcat];exact this
  have hcmp:Go.Proofs.CmpLays1 P g #[] (atW zs hz) (fun i j=>cf (atW ks hn i) (atW ks hn j)) b o d.size w:=by
   intro m os dk hdk x y
   exact pure_grown (hc _ (atW_mem hn x) _ (atW_mem hn y)) (hst m os dk hdk).self hg (RpC_cons.2 ⟨_,_,rfl,hel x,RpC_cons.2 ⟨_,_,rfl,hel y,RpC_nil.2 rfl⟩⟩)
  have hcall:=Go.Proofs.Any.slices_SortFunc L (atW zs hz) (fun i=>by rw [←oneC_eq];exact hon i) (fun i j=>cf (atW ks hn i) (atW ks hn j)) (mono_swo (atW ks hn) hO) g #[] b o cap d w eg hcmp hH (lt_of_cell (hH 0 (by rw [hds];exact hn)).1) (by rw [hds];exact hsz)
  rw [hds] at hcall
  refine hcall.mono fun e w' ⟨he,d',m,os,h1,h2,h3⟩=>?_
  subst h3
  have hd':d'.size=d.size:=h1.1
  have hperm:=perm_of_in hds h1
  have hsort:=sorted_of_in (hd'.trans hds) h2
  have hdl:d'.toList.length=ks.length:=by rw [←hds,←hd'];simp
  refine ⟨_,h,_,he,⟨.tp [],_,_,⟨d'.toList.map (atW ks hn),?_,?_,rfl,rfl⟩,?_,GH.le_refl _,⟨[_],[],rfl,⟨_,⟨some ⟨b,o,none⟩,cap,d'.toList.map (atW zs hz),?_,?_,⟨?_,?_,?_⟩,rfl, .inr ⟨b,o,sp,rfl,rfl,?_⟩⟩,rfl⟩,rfl⟩,rfl⟩,hst m os d' hd'⟩
  ·have:=hperm.map (atW ks hn)
   rwa [show d.toList.map (atW ks hn)=ks from map_atW hn] at this
  ·rw [List.pairwise_map]
   refine hsort.imp fun {x y} hxy=>?_
   have hxy:decide (cf (atW ks hn y) (atW ks hn x)<0)=false:=hxy
   simpa using hxy
  ·rw [Rp_tp];exact ⟨[],rfl,RpC_nil.2 rfl⟩
  ·rw [List.length_map,List.length_map,hdl]
  ·rw [List.length_map,List.length_map,hdl];exact e2
  ·rw [List.map_map];exact RpC_map hel _
  ·intro z hz';obtain ⟨i,_,rfl⟩:=List.mem_map.1 hz';rw [cellsL_one (hon i)];rfl
  ·intro z hz';obtain ⟨i,_,rfl⟩:=List.mem_map.1 hz';rw [cellsL_one (hon i)];exact allOne_of fun v hv=>by rw [List.mem_singleton.1 hv];exact hon i
  ·rw [e6,List.length_map,List.length_map,List.length_map,hdl]
 ·have hk0:ks=[]:=List.eq_nil_of_length_eq_zero (by omega)
  subst hk0
  refine (Go.Proofs.AnyF.slices_SortFunc_none {L with} a cap (.func (.func g) #[] #[]) w).mono fun e w' ⟨he,hw⟩=>?_
  subst hw
  exact ⟨_,h,_,he,⟨.tp [],_,_,⟨[], .refl _,List.Pairwise.nil,rfl,rfl⟩,Rp_tp.2 ⟨[],rfl,RpC_nil.2 rfl⟩,GH.le_refl _,⟨[p],[],rfl,⟨p,hrow',rfl⟩,rfl⟩,rfl⟩,s⟩
end
end Go.Tp
namespace Go.Proofs.YtpcloejpklkieaaGreat
theorem take_two{α:Type}(l:List α)(m:Nat)(h0:0<m){x y:α}(hx:l[m-1]? =some x)(hy:l[m]? =some y):l.take (m+1)=l.take (m-1)++[x,y]∧l.take m=l.take (m-1)++[x]:=by
 have hxl:m-1<l.length:=(List.getElem?_eq_some_iff.1 hx).1
 have hyl:m<l.length:=(List.getElem?_eq_some_iff.1 hy).1
 have e1:l.take m=l.take (m-1)++[x]:=by
  have:=List.take_add_one (l:=l) (i:=m-1)
  rw [show m-1+1=m by omega] at this
  rw [this,hx];rfl
 refine ⟨?_,e1⟩
 rw [List.take_add_one,hy,e1]
 simp
section
variable{α:Type} [DecidableEq α]
theorem compD_snoc(x y:α): ∀l:List α,compD (l++[x,y])=if x=y then compD (l++[x]) else compD (l++[x])++[y]
 | []=>by
   simp only [List.nil_append,compD]
   split
   ·rename_i e;rw [e]
   ·rfl
 | [a]=>by
   have ih:=compD_snoc x y []
   simp only [List.nil_append,List.cons_append] at ih⊢
   rw [compD,ih]
   conv=>rhs;rw [compD]
   split<;>split<;>simp_all
 |a::b::l=>by
  have ih:=compD_snoc x y (b::l)
  simp only [List.cons_append] at ih⊢
  rw [compD,ih]
  conv=>rhs;rw [compD]
  split<;>split<;>simp_all
theorem comp_step(l:List α)(m:Nat)(h0:0<m){x y:α}(hx:l[m-1]? =some x)(hy:l[m]? =some y):
 compD (l.take (m+1))=if x=y then compD (l.take m) else compD (l.take m)++[y]:=by
 obtain ⟨e1,e2⟩:=take_two l m h0 hx hy
 rw [e1,e2,compD_snoc]
theorem comp_pos: ∀l:List α,l≠[]→compD l≠[]
 | [],h=>(h rfl).elim
 | [x],_=>by simp [compD]
 |x::y::r,_=>by
  have:=comp_pos (y::r) (by simp)
  simp only [compD]
  split
  ·exact this
  ·simp
structure CompI(l r:List α)(m k:Nat):Prop where
 len:r.length=l.length
 kl:(compD (l.take m)).length=k
 lt:k<m
 out:r.take k=compD (l.take m)
 rest: ∀i,m-1≤i→r[i]? =l[i]?
theorem CompI.start{l:List α}{m:Nat}{x:α}(h0:0<m)(hx:l[m-1]? =some x)(hy:l[m]? =some x)(hd:compD (l.take m)=l.take m):CompI l l (m+1) m:=by
 have hyl:m<l.length:=(List.getElem?_eq_some_iff.1 hy).1
 have e:=comp_step l m h0 hx hy
 rw [if_pos rfl,hd] at e
 exact ⟨rfl,by rw [e,List.length_take];omega,by omega,e.symm,fun _ _=>rfl⟩
theorem CompI.same{l r:List α}{m k:Nat}(c:CompI l r m k)(h0:0<m){x:α}(hx:l[m-1]? =some x)(hy:l[m]? =some x):CompI l r (m+1) k:=by
 have e:=comp_step l m h0 hx hy
 rw [if_pos rfl] at e
 exact ⟨c.len,by rw [e,c.kl],by have:=c.lt;omega,by rw [e,c.out],fun i hi=>c.rest i (by omega)⟩
theorem CompI.put{l r:List α}{m k:Nat}(c:CompI l r m k)(h0:0<m){x y:α}(hx:l[m-1]? =some x)(hy:l[m]? =some y)(hne:x≠y):CompI l (r.set k y) (m+1) (k+1):=by
 have hyl:m<l.length:=(List.getElem?_eq_some_iff.1 hy).1
 have e:=comp_step l m h0 hx hy
 rw [if_neg hne] at e
 have hk:=c.lt
 have hl:=c.len
 refine ⟨by simp [c.len],by rw [e,List.length_append,c.kl];rfl,by omega,?_,fun i hi=>?_⟩
 ·rw [e,List.take_add_one,List.take_set_of_le (Nat.le_refl _),c.out,List.getElem?_set_self (by omega)];rfl
 ·rw [List.getElem?_set_ne (by omega)];exact c.rest i (by omega)
theorem comp_dis{l:List α}{m:Nat}{x y:α}(h0:0<m)(hx:l[m-1]? =some x)(hy:l[m]? =some y)(hne:x≠y)(hd:compD (l.take m)=l.take m):compD (l.take (m+1))=l.take (m+1):=by
 rw [comp_step l m h0 hx hy,if_neg hne,hd,List.take_add_one,hy];rfl
end
end Go.Proofs.YtpcloejpklkieaaGreat
namespace Go.Proofs
open Go.Shelf
def Tryz.sortT_ren:Go.Shelf.Ren:=⟨fun|6=>31|15=>60|14=>59|28=>107|29=>108|20=>99|21=>100|22=>101|23=>102|24=>103|25=>104|26=>105|27=>106|46=>130|47=>131|48=>132|49=>133|50=>134|57=>153|n=>n,fun|22=>45|24=>37|25=>79|3=>3|39=>124|0=>0|53=>179|55=>181|4=>4|46=>173|45=>172|50=>84|5=>5|9=>9|66=>196|70=>200|76=>207|77=>208|n=>n,fun|n=>n⟩
theorem Tryz.sortT:Go.Proofs.SlLaysF.n6 Tryz.prog Tryz.sortT_ren:={
 mixed:=by kernel_rfl
 f6:=⟨Tryz.f31.name,by decide,Tryz.func31.trans (congrArg some (by kernel_rfl))⟩
 f14:=⟨Tryz.f59.name,by decide,Tryz.func59.trans (congrArg some (by kernel_rfl))⟩
 f15:=Tryz.func60.trans (congrArg some (by kernel_rfl))
 f20:=⟨Tryz.f99.name,by decide,Tryz.func99.trans (congrArg some (by kernel_rfl))⟩
 f21:=⟨Tryz.f100.name,by decide,Tryz.func100.trans (congrArg some (by kernel_rfl))⟩
 f22:=⟨Tryz.f101.name,by decide,Tryz.func101.trans (congrArg some (by kernel_rfl))⟩
 f23:=⟨Tryz.f102.name,by decide,Tryz.func102.trans (congrArg some (by kernel_rfl))⟩
 f24:=⟨Tryz.f103.name,by decide,Tryz.func103.trans (congrArg some (by kernel_rfl))⟩
 f25:=⟨Tryz.f104.name,by decide,Tryz.func104.trans (congrArg some (by kernel_rfl))⟩
 f26:=⟨Tryz.f105.name,by decide,Tryz.func105.trans (congrArg some (by kernel_rfl))⟩
 f27:=⟨Tryz.f106.name,by decide,Tryz.func106.trans (congrArg some (by kernel_rfl))⟩
 f28:=Tryz.func107.trans (congrArg some (by kernel_rfl))
 f29:=Tryz.func108.trans (congrArg some (by kernel_rfl))
 f46:=⟨Tryz.f130.name,by decide,Tryz.func130.trans (congrArg some (by kernel_rfl))⟩
 f47:=Tryz.func131.trans (congrArg some (by kernel_rfl))
 f48:=Tryz.func132.trans (congrArg some (by kernel_rfl))
 f49:=⟨Tryz.f133.name,by decide,Tryz.func133.trans (congrArg some (by kernel_rfl))⟩
 f50:=⟨Tryz.f134.name,by decide,Tryz.func134.trans (congrArg some (by kernel_rfl))⟩
 f57:=⟨Tryz.f153.name,by decide,Tryz.func153.trans (congrArg some (by kernel_rfl))⟩
 t0:=Tryz.underlying0
 a0:=Tryz.isAgg0
 z0:=Tryz.sizeOf0
 v0:=Tryz.zeroValue0
 t3:=Tryz.underlying3
 a3:=Tryz.isAgg3
 z3:=Tryz.sizeOf3
 v3:=Tryz.zeroValue3
 t4:=Tryz.underlying4
 a4:=Tryz.isAgg4
 z4:=Tryz.sizeOf4
 v4:=Tryz.zeroValue4
 t5:=Tryz.underlying5
 a5:=Tryz.isAgg5
 z5:=Tryz.sizeOf5
 v5:=Tryz.zeroValue5
 t9:=Tryz.underlying9
 a9:=Tryz.isAgg9
 z9:=Tryz.sizeOf9
 v9:=Tryz.zeroValue9
 t22:=Tryz.underlying45
 a22:=Tryz.isAgg45
 z22:=Tryz.sizeOf45
 v22:=Tryz.zeroValue45
 a24:=Tryz.isAgg37
 z24:=Tryz.sizeOf37
 t25:=Tryz.underlying79
 a25:=Tryz.isAgg79
 z25:=Tryz.sizeOf79
 v25:=Tryz.zeroValue79
 t39:=Tryz.underlying124
 a39:=Tryz.isAgg124
 z39:=Tryz.sizeOf124
 v39:=Tryz.zeroValue124
 t45:=Tryz.underlying172
 a45:=Tryz.isAgg172
 z45:=Tryz.sizeOf172
 v45:=Tryz.zeroValue172
 t46:=Tryz.underlying173
 a46:=Tryz.isAgg173
 z46:=Tryz.sizeOf173
 v46:=Tryz.zeroValue173
 t50:=Tryz.underlying84
 a50:=Tryz.isAgg84
 z50:=Tryz.sizeOf84
 v50:=Tryz.zeroValue84
 t53:=Tryz.underlying179
 a53:=Tryz.isAgg179
 z53:=Tryz.sizeOf179
 v53:=Tryz.zeroValue179
 t55:=Tryz.underlying181
 a55:=Tryz.isAgg181
 z55:=Tryz.sizeOf181
 v55:=Tryz.zeroValue181
 t66:=Tryz.underlying196
 a66:=Tryz.isAgg196
 z66:=Tryz.sizeOf196
 v66:=Tryz.zeroValue196
 t70:=Tryz.underlying200
 a70:=Tryz.isAgg200
 z70:=Tryz.sizeOf200
 v70:=Tryz.zeroValue200
 t76:=Tryz.underlying207
 a76:=Tryz.isAgg207
 z76:=Tryz.sizeOf207
 v76:=Tryz.zeroValue207
 t77:=Tryz.underlying208
 a77:=Tryz.isAgg208
 z77:=Tryz.sizeOf208
 v77:=Tryz.zeroValue208}
end Go.Proofs
namespace Go.Proofs.YtpcloejpklkieaaGreat
open Go Go.Tp
theorem swo20{α:Type}{lt:α→α→Bool}(o:Ord lt):Sort.SWO lt where
 irrefl:=o.irrefl
 trans:=o.trans
 ntrans x y z h1 h2:=by
  cases h:lt x z with
  |false=>rfl
  |true=>
   cases h3:lt y x with
   |true=>rw [o.trans _ _ _ h3 h] at h2;cases h2
   |false=>rw [o.tri _ _ h1 h3] at h;rw [h] at h2;cases h2
theorem cmpT_dec(a b:TR):decide (cmpT a b<0)=ltL a b:=by rw [Bool.eq_iff_iff,decide_eq_true_eq,cmpT_lt]
theorem sortT_p(z:Value)(n:Nat)(l:List TR)(hb:l.length≤1099511627776)(hl: ∀t,t∈l→t.length≤281474976710656):FunE Tryz.prog gs0 31 [.ms z 1 n, .fn 24 [] []] [.row 1 z (l.map trA)] (fun _:List TR=> .tp []) (fun l'=>[.row 1 z (l'.map trA)]) (fun l'=>l'.Perm l∧l'.Pairwise fun x y=>ltL y x=false):=by
 refine (sort1_fun (ρ:=Tryz.sortT_ren) Tryz.sortT ⟨_,_,Tryz.func31,rfl,rfl⟩
  trA cmpT ?_ 24 (enters_of Tryz.func24 (by kernel_rfl) rfl) z n l (fun x _=>rfl) (fun x hx y _=>cmpT_p x y (hl x hx)) (by omega)).mono fun y Λ' ⟨l',h1,h2,h3,h4⟩=>⟨l',by rw [h3];exact .refl,h4,h1,h2.imp fun {a b} h=>?_⟩
 ·have:=swo20 ord_L
  simp only [cmpT_dec]
  exact this
 ·rw [←cmpT_dec];simpa using h
abbrev nilT:AV:= .v (.slice none 0 0)
theorem compT_p(z:Value)(n:Nat)(l:List TR)(hne0:l≠[])(hb:l.length≤1099511627776)(htl: ∀t,t∈l→t.length≤281474976710656):FunE Tryz.prog gs0 32 [.ms z 1 n, .fn 33 [] []] [.row 1 z (l.map trA)] (fun z':Value=> .ms z' 1 (compD l).length) (fun z'=>[.row 1 z' ((compD l).map trA)]) (fun _=>True):=by
 unfold FunE
 have hne:l.map trA≠[]:=fun h=>hne0 (List.map_eq_nil_iff.1 h)
 refine Fun.row1 hne fun b o c hcap=>?_
 rw [List.length_map] at hcap⊢
 have hlm:((l.map trA).length:Int)=l.length:=by rw [List.length_map]
 have hlmN:(l.map trA).length=l.length:=List.length_map ..
 by_cases h2:l.length<2
 ·have hd:compD l=l:=by
   cases l with
   |nil=>exact absurd rfl hne0
   |cons x l0=>
    cases l0 with
    |nil=>rfl
    |cons y r=>simp only [List.length_cons] at h2;omega
  rw [hd]
  refine Fun.of (S:=tt) (fn:=Tryz.f32) (n:=66) tt_ok Tryz.func32 rfl rfl rfl rfl fun w0 h0 F hgs=>?_
  refine y_ ?_
  refine e_ 10 rfl (x':=AB true) (ab_eq (decide_eq_true (by omega))) ?_
  refine A.ret1 (Λ':=[.row 1 _ _]) rfl rfl rfl sl_ ⟨_, .refl,rfl,trivial⟩
 refine Fun.of (S:=tt) (fn:=Tryz.f32) (n:=66) tt_ok Tryz.func32 rfl rfl rfl rfl fun w0 h0 F hgs=>?_
 refine y_ ?_
 refine e_ 10 rfl (x':=AB false) (ab_eq (decide_eq_false (by omega))) ?_
 refine A.keep [0,1,5] rfl ?_
 refine A.loopP (ι:=Nat) (fun i=>(⟨[(0, .ms (.slice (some ⟨b,o,none⟩) l.length c) 1 l.length),(1, .fn 33 [] []),(5,AI (i:Nat))],[]⟩,[.row 1 (.slice (some ⟨b,o,none⟩) l.length c) (l.map trA)])) (fun i=>1≤i∧i≤l.length∧compD (l.take i)=l.take i) (fun i=>l.length-i) 1 ⟨Nat.le_refl _,by omega,?_⟩ rfl fun i hi ih=>?_
 ·cases l with
  |nil=>exact absurd rfl hne0
  |cons x l0=>rfl
 obtain ⟨hi1,hi2,hi3⟩:=hi
 refine y_ ?_
 refine k_ (fun hc=>?_) fun hc=>?_
 case refine_2.refine_2=>
  have hc':i=l.length:=by have: ¬((i:Int)<l.length):=by simpa using hc
                          omega
  rw [hc',List.take_length] at hi3
  rw [hi3]
  refine y_ ?_
  refine A.ret1 (Λ':=[.row 1 _ _]) rfl rfl rfl sl_ ⟨_, .refl,rfl,trivial⟩
 have hc':i<l.length:=by have:((i:Int)<l.length):=by simpa using hc
                         omega
 clear hc
 refine Exists.elim (at_exN (l:=l) (i:=i) hc') fun y hy=>?_
 refine Exists.elim (at_exN (l:=l) (i:=i-1) (by omega)) fun x hx=>?_
 have hsub:IntKind.i64.wrap ((i:Int)-1)=((i-1:Nat):Int):=by rw [w64_id (by unfold i64;omega)];omega
 have hcl:=trsame_p y x (htl y (List.mem_of_getElem? hy))
 refine y_ ?_
 refine d_ 10 [0,1,2,3,4,5,6,7,8,9] [] ?_
 refine WA.indexRow rfl rfl rfl rfl rfl rfl rfl rfl rfl (by omega) (by rw [List.length_map];omega) rfl ?_
 refine WA.loadRow rfl rfl rfl rfl rfl rfl rfl (y':=trA y) rfl (map_at hy) rfl rfl ?_
 refine w_ ?_
 refine WA.valE 25 rfl (x':=AI ((i-1:Nat):Int)) (ai_eq hsub) ?_
 refine WA.indexRow rfl rfl rfl rfl rfl rfl rfl rfl rfl (by omega) (by rw [List.length_map];omega) rfl ?_
 refine WA.loadRow rfl rfl rfl rfl rfl rfl rfl (y':=trA x) rfl (map_at hx) rfl rfl ?_
 refine WA.nil (l:=[]) rfl ?_
 refine c_ hcl ?_
 by_cases he:x=y
 case neg=>
  refine F_ rfl (beq_eq_false_iff_ne.2 fun e=>he (cmpT_zero.1 e).symm) ?_
  refine A.valE 5 rfl (x':=AI ((i+1:Nat):Int)) (inc_eq i (by omega)) ?_
  refine u_ (ih (i+1) ⟨by omega,by omega,comp_dis (by omega) hx hy he hi3⟩ (by omega))
 subst he
 clear ih
 refine T_ rfl (by rw [cmpT_zero.2 rfl];rfl) ?_
 refine A.msV 29 rfl rfl ?_
 refine A.sliceV rfl rfl rfl rfl rfl rfl rfl rfl (by omega) (by omega) (by omega) (fun _=>hcap) rfl rfl ?_
 refine y_ ?_
 refine A.valE 6 rfl (x':= .v (.slice (some ⟨b,o+i*1,none⟩) (l.length-i) (c-i))) (congrArg AV.v (by simp only [partV];rw [Int.toNat_natCast,Int.toNat_natCast,if_neg (by omega)];simp only [Option.map_some];rw [add_norm];rfl)) ?_
 refine A.keep [0,1,5,6,7] rfl ?_
 refine A.loopP (ι:=Nat×Nat×List TR) (fun j=>(⟨[(0, .ms (.slice (some ⟨b,o,none⟩) l.length c) 1 l.length),(1, .fn 33 [] []),(5,AI (j.2.1:Nat)),(6, .v (.slice (some ⟨b,o+i*1,none⟩) (l.length-i) (c-i))),(7,AI (j.1:Nat))],[]⟩,[.row 1 (.slice (some ⟨b,o,none⟩) l.length c) (j.2.2.map trA)])) (fun j=>1≤j.1∧i+j.1≤l.length∧CompI l j.2.2 (i+j.1) j.2.1) (fun j=>l.length-j.1) (1,i,l) ⟨Nat.le_refl _,by omega,CompI.start (by omega) hx hy hi3⟩ rfl fun j hj ih=>?_
 obtain ⟨m,k,r⟩:=j
 obtain ⟨hj1,hj2,hj3⟩:=hj
 simp only at hj1 hj2 hj3 ih⊢
 have hrl:=hj3.len
 have hkm:=hj3.lt
 have hlr:((r.map trA).length:Int)=l.length:=by rw [List.length_map,hrl]
 refine y_ ?_
 refine k_ (fun hc=>?_) fun hc=>?_
 case refine_2=>
  have hc':i+m=l.length:=by have: ¬((m:Int)<((l.length-i:Nat):Int)):=by simpa using hc
                            omega
  clear hc ih
  rw [hc'] at hj3
  have hout:=hj3.out
  rw [List.take_length] at hout
  have hkl:=hj3.kl
  rw [List.take_length] at hkl
  have hk0:0<k:=by
   rcases Nat.eq_zero_or_pos k with h|h
   ·exact (comp_pos l hne0 (List.eq_nil_of_length_eq_zero (hkl.trans h))).elim
   ·exact h
  refine y_ ?_
  refine A.msV 59 rfl rfl ?_
  refine A.sliceV rfl rfl rfl rfl rfl rfl rfl rfl (by omega) (by omega) (by omega) (fun _=>hcap) rfl rfl ?_
  refine A.valE 61 rfl (x':= .v (.slice (some ⟨b,o+k*1,none⟩) (l.length-k) (c-k))) (congrArg AV.v (by simp only [partV];rw [Int.toNat_natCast,Int.toNat_natCast,if_neg (by omega)];simp only [Option.map_some];rw [add_norm];rfl)) ?_
  refine A.clearRow (off:=o) (n:=l.length) (c:=c) k rfl rfl rfl rfl rfl rfl (xs':=(compD l).map trA++List.replicate (l.length-k) nilT) rfl rfl rfl (by rw [List.length_map];omega) (by omega) rfl (fun h=>⟨.slice none 0 0,Rp_v.2 ⟨rfl,rfl⟩,rfl⟩) (by rw [←List.map_take,hout]) rfl ?_
  refine y_ ?_
  refine A.msV 62 rfl rfl ?_
  refine A.sliceV rfl rfl rfl rfl rfl rfl rfl rfl (by decide) (by omega) (by omega) (fun h=>by cases h) rfl rfl ?_
  refine A.valE 64 rfl (x':= .v (.slice (some ⟨b,o,none⟩) k c)) (congrArg AV.v (by simp only [partV];rw [Int.toNat_natCast];simp [add_norm])) ?_
  refine A.vMs 64 1 rfl ?_
  refine A.rowCut (sz:=1) (a:=some ⟨b,o,none⟩) (n:=l.length) (c:=c) k (l1:=(compD l).map trA) (l2:=List.replicate (l.length-k) nilT) rfl (by rw [List.length_map,hkl]) (by simp [comp_pos l hne0]) ?_
  refine y_ ?_
  rw [hkl]
  refine A.ret1 (Λ':=[.row 1 _ _]) rfl rfl rfl sl_ ⟨_, .refl,rfl,trivial⟩
 have hc':i+m<l.length:=by have:((m:Int)<((l.length-i:Nat):Int)):=by simpa using hc
                           omega
 clear hc
 refine Exists.elim (at_exN (l:=l) (i:=i+m) hc') fun v hv=>?_
 refine Exists.elim (at_exN (l:=l) (i:=i+m-1) (by omega)) fun u hu=>?_
 have hrv:r[i+m]? =some v:=(hj3.rest _ (by omega)).trans hv
 have hru:r[i+(m-1)]? =some u:=by rw [show i+(m-1)=i+m-1 by omega];exact (hj3.rest _ (by omega)).trans hu
 have hsub':IntKind.i64.wrap ((m:Int)-1)=((m-1:Nat):Int):=by rw [w64_id (by unfold i64;omega)];omega
 have hcl2:=trsame_p v u (htl v (List.mem_of_getElem? hv))
 refine y_ ?_
 refine d_ 10 [0,1,2,3,4,5,6,7,8,9] [] ?_
 refine WA.indexPart (off:=o) (n:=l.length) (c:=c) i rfl rfl rfl rfl rfl rfl rfl rfl rfl rfl (by omega) (by omega) (by omega) rfl ?_
 refine WA.loadRow rfl rfl rfl rfl rfl rfl rfl (y':=trA v) rfl (map_at hrv) rfl rfl ?_
 refine w_ ?_
 refine WA.valE 45 rfl (x':=AI ((m-1:Nat):Int)) (ai_eq hsub') ?_
 refine WA.indexPart (off:=o) (n:=l.length) (c:=c) i rfl rfl rfl rfl rfl rfl rfl rfl rfl rfl (by omega) (by omega) (by omega) rfl ?_
 refine WA.loadRow rfl rfl rfl rfl rfl rfl rfl (y':=trA u) rfl (map_at hru) rfl rfl ?_
 refine WA.nil (l:=[]) rfl ?_
 refine c_ hcl2 ?_
 by_cases he':v=u
 ·subst he'
  refine e_ 49 rfl (x':=AB false) (ab_eq (by show (!(cmpT v v==0))=false;rw [cmpT_zero.2 rfl];rfl)) ?_
  refine A.valE 7 rfl (x':=AI ((m+1:Nat):Int)) (inc_eq m (by omega)) ?_
  refine u_ (ih (m+1,k,r) ⟨by omega,by show i+(m+1)≤_;omega,by show CompI l r (i+(m+1)) k;exact hj3.same (by omega) hu hv⟩ (by show l.length-(m+1)<l.length-m;omega))
 have hne':u≠v:=fun e=>he' e.symm
 refine e_ 49 rfl (x':=AB true) (ab_eq (by show (!(cmpT v u==0))=true;rw [beq_eq_false_iff_ne.2 fun e=>he' (cmpT_zero.1 e)];rfl)) ?_
 refine A.indexPart (off:=o) (n:=l.length) (c:=c) i rfl rfl rfl rfl rfl rfl rfl rfl rfl (by omega) (by omega) (by omega) rfl ?_
 refine A.loadRow rfl rfl rfl rfl rfl rfl (y':=trA v) rfl (map_at hrv) rfl rfl ?_
 refine A.indexRow rfl rfl rfl rfl rfl rfl rfl rfl (by omega) (by rw [List.length_map];omega) rfl ?_
 refine A.storeRow rfl rfl rfl rfl rfl rfl rfl rfl rfl (by rw [List.length_map];omega) (xs':=(r.set k v).map trA) List.map_set.symm ?_
 refine y_ ?_
 refine A.valE 5 rfl (x':=AI ((k+1:Nat):Int)) (inc_eq k (by omega)) ?_
 refine A.valE 7 rfl (x':=AI ((m+1:Nat):Int)) (inc_eq m (by omega)) ?_
 refine u_ (ih (m+1,k+1,r.set k v) ⟨by omega,by show i+(m+1)≤_;omega,by show CompI l (r.set k v) (i+(m+1)) (k+1);exact hj3.put (by omega) hu hv hne'⟩ (by show l.length-(m+1)<l.length-m;omega))
end Go.Proofs.YtpcloejpklkieaaGreat
namespace Go.Proofs.YtpcloejpklkieaaGreat
open Go Go.Tp
abbrev yP(x:TR×ST)(m:MV):TR×ST:=(withM x.1 (evM m,m.next),m.next)
theorem pairsP_eq(x:TR×ST):((stepsM x.2).map fun m=>(withM x.1 m,m.2))=(realM x.2).map (yP x):=by
 unfold stepsM
 rw [List.map_map];rfl
structure C1 where
 i:Nat
 l:List (TR×ST)
 z:Value
abbrev KP(k:KN)(n:Nat)(y:TR×ST):Prop:=SrchK k y.2∧y.1.length≤n
structure C1Ok(k:KN)(n most:Nat)(R:Option (List (TR×ST)))(u:C1):Prop where
 r:R=closM stepsM n most (most+1-u.i) u.i u.l
 i:u.i≤u.l.length
 lm:u.l.length≤most
 l1:1≤u.l.length
 kp: ∀y,y∈u.l→KP k n y
structure C2Ok(k:KN)(n most:Nat)(l0:List (TR×ST))(x:TR×ST)(u:C1):Prop where
 r:addPs n most l0 ((realM x.2).map (yP x))=addPs n most u.l (((realM x.2).drop u.i).map (yP x))
 i:u.i≤(realM x.2).length
 lm:u.l.length≤most
 pre: ∃q,u.l=l0++q
 kp: ∀y,y∈u.l→KP k n y
theorem C2Ok.rest{k:KN}{n most:Nat}{l0:List (TR×ST)}{x:TR×ST}{u:C1}(h:C2Ok k n most l0 x u){m:MV}(hm:(realM x.2)[u.i]? =some m):addPs n most l0 ((realM x.2).map (yP x))=addPs n most u.l (yP x m::((realM x.2).drop (u.i+1)).map (yP x)):=by
 have hil:=(List.getElem?_eq_some_iff.1 hm).1
 rw [h.r,List.drop_eq_getElem_cons hil,List.map_cons]
 rw [List.getElem?_eq_getElem hil] at hm
 injection hm with hm
 rw [hm]
theorem C2Ok.skip{k:KN}{n most:Nat}{l0:List (TR×ST)}{x:TR×ST}{u:C1}(h:C2Ok k n most l0 x u){m:MV}(hm:(realM x.2)[u.i]? =some m)(hl:n<(yP x m).1.length):C2Ok k n most l0 x ⟨u.i+1,u.l,u.z⟩:=
 ⟨by rw [h.rest hm,addPs,if_pos hl],(List.getElem?_eq_some_iff.1 hm).1,h.lm,h.pre,h.kp⟩
theorem C2Ok.full{k:KN}{n most:Nat}{l0:List (TR×ST)}{x:TR×ST}{u:C1}(h:C2Ok k n most l0 x u){m:MV}(hm:(realM x.2)[u.i]? =some m)(hl:(yP x m).1.length≤n)(hf:most<(addP (yP x m) u.l).length):addPs n most l0 ((realM x.2).map (yP x))=none:=by
 rw [h.rest hm,addPs,if_neg (by omega),if_pos hf]
theorem C2Ok.next{k:KN}{n most:Nat}{l0:List (TR×ST)}{x:TR×ST}{u:C1}(h:C2Ok k n most l0 x u)(hx:SrchK k x.2){m:MV}(hm:(realM x.2)[u.i]? =some m)(hl:(yP x m).1.length≤n)(hf:(addP (yP x m) u.l).length≤most)(z:Value):C2Ok k n most l0 x ⟨u.i+1,addP (yP x m) u.l,z⟩:=by
 obtain ⟨q,hq⟩:=h.pre
 obtain ⟨q',hq'⟩:=addP_pre (yP x m) u.l
 refine ⟨by rw [h.rest hm,addPs,if_neg (by omega),if_neg (by omega)],(List.getElem?_eq_some_iff.1 hm).1,hf,⟨q++q',by show addP (yP x m) u.l=_;rw [hq',hq,List.append_assoc]⟩,fun y hy=>?_⟩
 unfold addP at hy
 split at hy
 ·exact h.kp y hy
 ·rcases List.mem_append.1 hy with hy|hy
  ·exact h.kp y hy
  ·rw [List.mem_singleton.1 hy]
   exact ⟨hx.step (List.mem_of_getElem? hm),hl⟩
theorem C1Ok.look{k:KN}{n most:Nat}{R:Option (List (TR×ST))}{u:C1}(h:C1Ok k n most R u){x:TR×ST}(hx:u.l[u.i]? =some x):
 R=match addPs n most u.l ((realM x.2).map (yP x)) with
  |none=>none
  |some l'=>closM stepsM n most (most+1-(u.i+1)) (u.i+1) l':=by
 have h1:=(List.getElem?_eq_some_iff.1 hx).1
 have h2:=h.lm
 rw [h.r,show most+1-u.i=most+1-(u.i+1)+1 by omega,closM,hx]
 simp only [pairsP_eq]
 cases addPs n most u.l ((realM x.2).map (yP x))<;>rfl
theorem C1Ok.done{k:KN}{n most:Nat}{R:Option (List (TR×ST))}{u:C1}(h:C1Ok k n most R u)(hi:u.i=u.l.length):R=some u.l:=by
 have h2:=h.lm
 rw [h.r,show most+1-u.i=most-u.i+1 by omega,closM,hi,List.getElem?_eq_none (Nat.le_refl _)]
theorem C1Ok.next{k:KN}{n most:Nat}{R:Option (List (TR×ST))}{u v:C1}(h:C1Ok k n most R u){x:TR×ST}(hx:u.l[u.i]? =some x)(hv:C2Ok k n most u.l x v)(hi:v.i=(realM x.2).length):C1Ok k n most R ⟨u.i+1,v.l,v.z⟩:=by
 have h1:=(List.getElem?_eq_some_iff.1 hx).1
 obtain ⟨q,hq⟩:=hv.pre
 have hl:v.l.length=u.l.length+q.length:=by rw [hq,List.length_append]
 refine ⟨?_,by show u.i+1≤v.l.length;omega,hv.lm,by show 1≤v.l.length;omega,hv.kp⟩
 rw [h.look hx,hv.r,hi,List.drop_length,List.map_nil,addPs]
theorem C1Ok.begin{k:KN}{n most:Nat}(hmo:1≤most){s:ST}(hs:SrchK k s){R:Option (List (TR×ST))}(hR:R=closM stepsM n most (most+1) 0 [([],s)])(z:Value):C1Ok k n most R ⟨0,[([],s)],z⟩:=
 ⟨hR,Nat.zero_le _,hmo,Nat.le_refl _,fun y hy=>by rw [List.mem_singleton.1 hy];exact ⟨hs,Nat.zero_le _⟩⟩
def closX(k:KN)(inn:List Int)(n most:Nat):Option (List (TR×ST)):=closM stepsM n most (most+1) 0 [([],startS k inn)]
theorem traces_no(k:KN)(hk:SmN k)(inn:List Int)(n most:Int)(h:checkX k n most≠0):Pure Tryz.prog gs0 9 [encN k,rowA inn,AI n,AI most] (.tp [.sl 1 [] none,AI (checkX k n most)]):=by
 have h1:=checkX_p k hk n most
 refine p_ tt_ok Tryz.func9 94 fun w0 h0 F hgs=>?_
 (repeat refine A.s rfl ?_)
 refine A.b rfl fun b4=>?_
 refine y_ ?_
 refine c_ h1 ?_
 refine T_ rfl (bne_iff_ne.2 h) ?_
 refine q_ ?_
 exact s_
theorem traces_yes(k:KN)(hk:SmN k)(n most:Nat)(hn:n≤1000)(h:checkX k (n:Nat) (most:Nat)=0)(inn:List Int)(hi: ∀x,x∈inn→i32 x)(hil:inn.length≤35184372088832):Pure Tryz.prog gs0 9 [encN k,rowA inn,AI (n:Nat),AI (most:Nat)] (match closX k inn n most with
 |some l=> .tp [.sl 1 ((canT (l.map (·.1))).map trA) none,AI 0]
 |none=> .tp [.sl 1 [] none,AI 190]):=by
 have h1:=checkX_p k hk (n:Nat) (most:Nat)
 have hc:=(chk0 h).1
 have hs0:=unt_start hc.may hk hc.unt hi hil
 have hmo:1≤most:=by have:=hc.lo;omega
 have hm4:most≤4096:=by have:=hc.hi;omega
 have hf:=first_y k hk hc.may inn hil
 rw [h] at h1
 refine Exists.elim (show∃R,R=closX k inn n most from ⟨_,rfl⟩) fun R hR=>?_
 rw [←hR]
 refine p_ tt_ok Tryz.func9 94 fun w0 h0 F hgs=>?_
 (repeat refine A.s rfl ?_)
 refine A.b rfl fun b4=>?_
 refine y_ ?_
 refine n_ h1 ?_
 (repeat refine A.s rfl ?_)
 refine A.nilRow 12 ?_
 refine A.valR 27 (x':=setA (.slice none 0 0) 0 23) rfl (nilSet _) ?_
 refine A.b rfl fun b11=>?_
 have h2:=add_p b11 (.slice none 0 0) [] ([],startS k inn) 23 samePB (fun y hy=>by cases hy) (by decide)
 refine y_ ?_
 refine n_ hf ?_
 refine A.perm (Λ':=[.box b11 (setA (.slice none 0 0) 0 23), .row 12 (.slice none 0 0) [], .box b4 (encN k)]) (.refl _) ?_
 refine A.e rfl h2 .refl (List.Perm.refl _) fun z1 _=>?_
 refine y_ ?_
 refine A.keep [2,3,4,11,12,13] rfl ?_
 refine A.loopP (ι:=C1) (fun u=>(⟨[(2,AI (n:Nat)),(3,AI (most:Nat)),(4,ptrA b4),(11,ptrA b11),(12,AB false),(13,AI (u.i:Nat))],[]⟩,[.box b11 (setA u.z u.l.length 23), .row 12 u.z (u.l.map pairA), .box b4 (encN k)]))
  (C1Ok k n most R) (fun u=>most+1-u.i) ⟨0,[([],startS k inn)],z1⟩ (C1Ok.begin hmo hs0 hR z1) rfl fun u hu ih=>?_
 have hu0:=hu
 obtain ⟨i,l,z⟩:=u
 obtain ⟨ur,ui,ulm,ul1,ukp⟩:=hu
 simp only at ur ui ulm ul1 ukp
 have n1:(l.map pairA).length=l.length:=List.length_map ..
 have hne:l.map pairA≠[]:=fun h=>by have:=congrArg List.length h;rw [List.length_map,List.length_nil] at this;omega
 refine y_ ?_
 by_cases hci:i<l.length
 case neg=>
  refine A.gF rfl (by show decide ((i:Int)<(l.length:Nat))=false;rw [decide_eq_false_iff_not];omega) ?_
  have hRl:=hu0.done (by show i=l.length;omega)
  simp only at hRl
  clear ih hu0 ur
  subst hRl
  refine y_ ?_
  refine A.emptyRow 17 1 rfl fun zo=>?_
  refine A.keep [4,11,17,77,78,79] rfl ?_
  have hll:l.length≤4096:=by omega
  refine A.loopP (ι:=Nat×Value) (fun u=>(⟨[(4,ptrA b4),(11,ptrA b11),(17, .ms u.2 1 u.1),(77, .ms z 12 l.length),(78,AI (l.length:Nat)),(79,AI (u.1:Nat))],[]⟩,[.row 1 u.2 (((l.take u.1).map (·.1)).map trA), .box b11 (setA z l.length 23), .row 12 z (l.map pairA), .box b4 (encN k)]))
   (fun u=>u.1≤l.length) (fun u=>l.length-u.1) (0,zo) (Nat.zero_le _) rfl fun u hu ih=>?_
  obtain ⟨j,zj⟩:=u
  simp only at hu
  refine y_ ?_
  by_cases hcj:j<l.length
  ·refine A.gT rfl (by show decide ((j:Int)<(l.length:Nat))=true;rw [decide_eq_true_eq];omega) ?_
   refine Exists.elim (at_exN (l:=l) (i:=j) hcj) fun y hy=>?_
   have hyk:=(ukp y (List.mem_of_getElem? hy)).2
   have hcl:=cloneT_p y.1 (by omega)
   have htk:(((l.take j).map (·.1)).map trA)++[trA y.1]=((l.take (j+1)).map (·.1)).map trA:=by
    rw [List.take_add_one,hy,List.map_append,List.map_append];rfl
   have n5:(((l.take j).map (·.1)).map trA).length=j:=by rw [List.length_map,List.length_map,List.length_take];omega
   refine y_ ?_
   refine A.indexRow rfl rfl rfl rfl rfl rfl rfl rfl (by show (0:Int)≤(j:Nat);omega) (by show ((j:Nat):Int)<((l.map pairA).length:Nat);rw [n1];omega) rfl ?_
   refine A.loadRow rfl rfl rfl rfl rfl rfl (y':=pairA y) rfl (map_at hy) rfl rfl ?_
   refine A.b rfl fun b19=>?_
   refine y_ ?_
   refine A.e rfl hcl .refl (.refl _) fun zc _=>?_
   refine A.freezeRow 86 rfl ?_
   refine t_ fun bl=>?_
   refine A.appendRowE rfl rfl rfl rfl rfl rfl rfl rfl rfl rfl rfl rfl rfl rfl (by show ((((l.take j).map (·.1)).map trA).length+1)*1≤_;rw [n5];omega) (by show ((((l.take j).map (·.1)).map trA).length+1)*1*24≤_;rw [n5];omega) fun z2=>?_
   refine y_ ?_
   refine A.valE 79 rfl (x':=AI ((j+1:Nat):Int)) (inc_eq j (by omega)) ?_
   refine A.valE 17 rfl (x':= .ms z2 1 (j+1)) (by rw [n5];rfl) ?_
   refine l_ (Λ':=[.row 1 z2 ((((l.take j).map (·.1)).map trA)++[trA y.1]), .box b11 (setA z l.length 23), .row 12 z (l.map pairA), .box b4 (encN k)]) ?_
   refine A.entsEq (Λ':=[.row 1 z2 (((l.take (j+1)).map (·.1)).map trA), .box b11 (setA z l.length 23), .row 12 z (l.map pairA), .box b4 (encN k)]) (by rw [htk]) ?_
   refine u_ (ih (j+1,z2) (by show j+1≤_;omega) (by show _-(j+1)<_-j;omega))
  ·refine A.gF rfl (by show decide ((j:Int)<(l.length:Nat))=false;rw [decide_eq_false_iff_not];omega) ?_
   have hj:j=l.length:=by omega
   clear ih
   subst hj
   have hso:=sortT_p zj l.length (l.map (·.1)) (by rw [List.length_map];omega) (fun t ht=>by
    obtain ⟨y,hy,rfl⟩:=List.mem_map.1 ht
    have:=(ukp y hy).2;omega)
   refine y_ ?_
   refine A.entsEq (Λ':=[.row 1 zj ((l.map (·.1)).map trA), .box b11 (setA z l.length 23), .row 12 z (l.map pairA), .box b4 (encN k)]) (by rw [List.take_length]) ?_
   refine A.e rfl hso .refl (.refl _) fun l' hl'=>?_
   have hcm:=compT_p zj l.length l' (fun e=>by have:=hl'.1.length_eq;rw [e,List.length_map,List.length_nil] at this;omega) (by have:=hl'.1.length_eq;rw [List.length_map] at this;omega) (fun t ht=>by
    obtain ⟨y,hy,rfl⟩:=List.mem_map.1 (hl'.1.mem_iff.1 ht)
    have:=(ukp y hy).2;omega)
   rw [comp_ins ord_L hl'.1 hl'.2] at hcm
   refine y_ ?_
   refine A.e rfl hcm .refl (.refl _) fun z' _=>?_
   refine y_ ?_
   refine l_ (Λ':=[.row 1 z' _]) ?_
   refine A.freezeRow 8 rfl ?_
   refine q_ ?_
   exact s_
 refine Exists.elim (at_exN (l:=l) (i:=i) hci) fun x hx=>?_
 obtain ⟨hxs,hxl⟩:=ukp x (List.mem_of_getElem? hx)
 have hlook:=hu0.look hx
 have hst:=steps_p hxs.good
 have hsl:=steps_len hxs.good
 have hax:(l.map pairA)[i]? =some (pairA x):=map_at hx
 have n4:((movsA (realM x.2)).length:Int)=(realM x.2).length:=by rw [List.length_map]
 refine A.gT rfl (by show decide ((i:Int)<(l.length:Nat))=true;rw [decide_eq_true_eq];omega) ?_
 refine A.rowRaw (z:=z) (sz:=12) (l:=l.map pairA) (List.mem_cons_of_mem _ (List.mem_cons_self ..)) fun az cz hz hcz=>?_
 subst hz
 refine A.rowSome (a:=az) (n:=(l.map pairA).length) (c:=cz) (sz:=12) (l:=l.map pairA) hne fun bz oz haz=>?_
 subst haz
 refine y_ ?_
 refine d_ 10 [0,1,2,3,4,5,6,9,7,8] [(7, .sl 14 (movsA (realM x.2)) none)] ?_
 refine WA.indexRow rfl rfl rfl rfl rfl rfl rfl rfl rfl (by show (0:Int)≤(i:Nat);omega) (by show ((i:Nat):Int)<((l.map pairA).length:Nat);rw [n1];omega) rfl ?_
 refine WA.epV 43 rfl ?_
 refine w_ ?_
 refine WA.loadPart i 1 rfl rfl rfl rfl rfl (l.map pairA).length cz oz (by rw [Int.toNat_natCast]) hax (y:=encST x.2) rfl rfl ?_
 refine w_ ?_
 refine cw_ hst ?_
 refine z_ ?_
 refine A.valE 47 rfl (x':=AI ((realM x.2).length:Nat)) (ai_eq n4) ?_
 refine A.keep [2,3,4,11,12,13,46,47,48] rfl ?_
 generalize hzz:Value.slice (some ⟨bz,oz,none⟩) (l.map pairA).length cz=z
 have hls:(realM x.2)[0]? =(realM x.2)[0]? :=rfl
 refine A.loopP (ι:=C1) (fun u=>(⟨[(2,AI (n:Nat)),(3,AI (most:Nat)),(4,ptrA b4),(11,ptrA b11),(12,AB false),(13,AI (i:Nat)),(46, .sl 14 (movsA (realM x.2)) none),(47,AI ((realM x.2).length:Nat)),(48,AI (u.i:Nat))],[]⟩,[.box b11 (setA u.z u.l.length 23), .row 12 u.z (u.l.map pairA), .box b4 (encN k)]))
  (C2Ok k n most l x) (fun u=>(realM x.2).length-u.i) ⟨0,l,z⟩ ⟨by rw [List.drop_zero],Nat.zero_le _,ulm,⟨[],by simp⟩,ukp⟩ rfl fun v hv ih2=>?_
 have hv0:=hv
 obtain ⟨j,l2,z3⟩:=v
 obtain ⟨vr,vi,vlm,vpre,vkp⟩:=hv
 simp only at vr vi vlm vpre vkp
 refine y_ ?_
 by_cases hcj:j<(realM x.2).length
 case neg=>
  refine F_ rfl (by show decide ((j:Int)<((realM x.2).length:Nat))=false;rw [decide_eq_false_iff_not];omega) ?_
  refine A.valE 13 rfl (x':=AI ((i+1:Nat):Int)) (inc_eq i (by omega)) ?_
  refine u_ (ih ⟨i+1,l2,z3⟩ (hu0.next hx hv0 (by show j=_;omega)) (by show most+1-(i+1)<most+1-i;omega))
 refine Exists.elim (at_exN (l:=realM x.2) (i:=j) hcj) fun m hm=>?_
 have hx2:l2[i]? =some x:=by
  obtain ⟨q,hq⟩:=vpre
  rw [hq,List.getElem?_append_left hci];exact hx
 have hi2:i<l2.length:=(List.getElem?_eq_some_iff.1 hx2).1
 have hax2:(l2.map pairA)[i]? =some (pairA x):=map_at hx2
 have hw:=with_p x.1 m (by omega)
 have wl:=with_len x.1 (evM m,m.next)
 have n2:(l2.map pairA).length=l2.length:=List.length_map ..
 have n3:(((withM x.1 (evM m,m.next)).map evA).length:Int)=(withM x.1 (evM m,m.next)).length:=by rw [List.length_map]
 have hne:l2.map pairA≠[]:=fun h=>by have:=congrArg List.length h;rw [List.length_map,List.length_nil] at this;omega
 refine T_ rfl (by show decide ((j:Int)<((realM x.2).length:Nat))=true;rw [decide_eq_true_eq];omega) ?_
 refine j_ rfl (map_at hm) rfl ?_
 (repeat refine A.s rfl ?_)
 refine A.b rfl fun b15=>?_
 refine y_ ?_
 refine A.perm (Λ':=[.box b11 (setA z3 l2.length 23), .row 12 z3 (l2.map pairA), .box b15 (encMV m), .box b4 (encN k)]) (perm_pick [1,2,0,3] rfl rfl rfl rfl) ?_
 refine A.rowRaw (z:=z3) (sz:=12) (l:=l2.map pairA) (List.mem_cons_of_mem _ (List.mem_cons_self ..)) fun az3 cz3 hz3 hcz3=>?_
 subst hz3
 refine A.rowSome (a:=az3) (n:=(l2.map pairA).length) (c:=cz3) (sz:=12) (l:=l2.map pairA) hne fun bz3 oz3 haz3=>?_
 subst haz3
 refine d_ 7 [0,1,2,3,4,5,6] [] ?_
 refine WA.indexRow rfl rfl rfl rfl rfl rfl rfl rfl rfl (by show (0:Int)≤(i:Nat);omega) (by show ((i:Nat):Int)<((l2.map pairA).length:Nat);rw [n2];omega) rfl ?_
 refine WA.epV 55 rfl ?_
 refine w_ ?_
 refine WA.loadPart i 0 rfl rfl rfl rfl rfl (l2.map pairA).length cz3 oz3 (by rw [Int.toNat_natCast]) hax2 (y:=trA x.1) rfl rfl ?_
 refine w_ ?_
 refine WA.nil (l:=[]) rfl ?_
 refine c_ hw ?_
 by_cases hlong:n<(withM x.1 (evM m,m.next)).length
 ·refine T_ rfl (by rw [n3,decide_eq_true_eq];omega) ?_
  refine A.valE 48 rfl (x':=AI ((j+1:Nat):Int)) (inc_eq j (by omega)) ?_
  refine l_ (Λ':=[.box b11 (setA (.slice (some ⟨bz3,oz3,none⟩) (l2.map pairA).length cz3) l2.length 23), .row 12 (.slice (some ⟨bz3,oz3,none⟩) (l2.map pairA).length cz3) (l2.map pairA), .box b4 (encN k)]) ?_
  refine u_ (ih2 ⟨j+1,l2, .slice (some ⟨bz3,oz3,none⟩) (l2.map pairA).length cz3⟩ (hv0.skip hm hlong) (by show _-(j+1)<_-j;omega))
 ·refine A.gF rfl (by rw [n3,decide_eq_false_iff_not];omega) ?_
  have ha:=add_p b11 (.slice (some ⟨bz3,oz3,none⟩) (l2.map pairA).length cz3) l2 (yP x m) 23 samePB (fun y hy=>pairt_p y (yP x m) (vkp y hy).1.good.sms (by have:=(vkp y hy).2;omega)) (by omega)
  simp only [addR_addP] at ha
  refine y_ ?_
  refine A.e rfl ha .refl (List.Perm.refl _) fun z5 _=>?_
  refine y_ ?_
  by_cases hbig:most<(addP (yP x m) l2).length
  ·refine T_ rfl (by show decide ((most:Int)<((addP (yP x m) l2).length:Nat))=true;rw [decide_eq_true_eq];omega) ?_
   refine q_ ?_
   rw [hlook,hv0.full hm (by show (withM x.1 (evM m,m.next)).length≤n;omega) hbig]
   exact s_
  ·refine F_ rfl (by show decide ((most:Int)<((addP (yP x m) l2).length:Nat))=false;rw [decide_eq_false_iff_not];omega) ?_
   refine A.valE 48 rfl (x':=AI ((j+1:Nat):Int)) (inc_eq j (by omega)) ?_
   refine l_ (Λ':=[.box b11 (setA z5 (addP (yP x m) l2).length 23), .row 12 z5 ((addP (yP x m) l2).map pairA), .box b4 (encN k)]) ?_
   refine u_ (ih2 ⟨j+1,addP (yP x m) l2,z5⟩ (hv0.next hxs hm (by show (withM x.1 (evM m,m.next)).length≤n;omega) (by show (addP (yP x m) l2).length≤most;omega) z5) (by show _-(j+1)<_-j;omega))
end Go.Proofs.YtpcloejpklkieaaGreat
