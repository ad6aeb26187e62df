/-
  Texts Lp Lr Q20a Lu Ls Q19a Q19b Q19c Q19d Q19e P19g P19h P19i P19j P19k P19l P19m Q17n Q17l Q19s Q19f Q19w Q19x. Conditions: as each theorem says.
-/
import Derived.Test.YtenkjmjejhhdjaaGreatWc3
import Derived.Sort.Row
import Derived.Sort.Grow
import Derived.Deep.Draws
import Derived.Test.YtenkjmjejhhdjaaGreatWc6
import Derived.WalkSpells
import Derived.Test.YtenkjmjejhhdjaaGreatWc5
set_option linter.unusedVariables false
set_option linter.unusedSimpArgs false
set_option maxRecDepth 100000
set_option maxHeartbeats 4000000
open Go.Proofs.Tryz
open List renaming length_map→aa0,length_append→aa1,mem_of_getElem?→aa2,mem_cons_self→aa5,take_of_length_le→aa6,getElem?_eq_getElem→aa7,getElem?_eq_some_iff→aa8,append_nil→aa9,mem_singleton→ab0,append_assoc→ab2,getElem?_map→ab5,mem_cons→ab6,length_cons→ab7,mem_cons_of_mem→ab9,map_append→ac0,length_take→ac1,take_length→ac4,getElem?_eq_none→ac6,take_add_one→ac9,take_zero→ad1,drop_eq_nil_of_le→ad3,cons_append→ad4,mem_append_left→ad6,length_drop→ad7,mem_append→ad8,pairwise_cons→ad9,foldl_cons→ae2,take_append_drop→ae3,all_eq_true→ae5,getElem?_append_left→ae6,getElem?_append_right→ae7,ext_getElem?→af0,flatMap_cons→af1,foldl_append→af2,getElem?_cons_succ→af4,length_nil→af5,map_cons→af6,mem_of_mem_take→ag0,drop_zero→ag3,filter_append→ag5,length_replicate→ag6,getElem?_set→ah0,length_filter_le→ah4,mem_range→ah5,getElem_of_mem→ah7,mem_map→ai0,getElem?_zip_eq_some→ai1,mem_of_mem_drop→ai2,mem_flatMap→ai4,mem_filter→aj0,nodup_cons→aj1,filter_cons→aj2,getElem_mem→aj3,drop_eq_getElem_cons→aj5,flatMap_append→aj6,all_cons→aj8,contains_iff_mem→aj9,getElem?_cons_zero→ak1,length_set→ak6,eq_of_mem_replicate→ak9,filterMap_cons→am3,map_set→an0,mem_map_of_mem→an7,range_succ→ao1,length_take_le'→ap2,map_drop→ap8,filter_nil→ar9,flatten_append→as3,flatten_cons→as9,append_inj→au0
open Bool renaming and_eq_true→aa3,eq_iff_iff→ac8
open Nat renaming zero_le→aa4,le_refl→ab3,eq_of_beq_eq_true→ac3,lt_or_ge→ae4,le_trans→ae9,zero_add→ag9,min_eq_left→ah6,blt_eq→ai7,le_add_right→aj4,add_mul→ak0,add_assoc→al5,mul_pos→av3
open Go.Result renaming andThen_ok→ab1
open Exists renaming elim→ab4
open Go.Sem renaming run_bind→ab8,run_pure→ac5,run→am5
open Int renaming toNat_natCast→ac7,fdiv_eq_ediv_of_nonneg→ah8
open Option renaming map_some→af8
open Array renaming replicate→ag1
open Or renaming elim→al3
open Prod renaming snd→al4
namespace Go.Tp
open Go Go.RowKit
section
variable{K:AC}{k:List It}{E:aO}{Λ:List aH}
theorem A.cx{all:Array Oper}{o:Oper}{l:List Oper}{ks:List (Nat×Bool)}{t el:TypeId}{ti ei:TI}{x ix:Operand}{b off p m c' n c sz:Nat}{xs:List AV}{kk:IntKind}{i:Int}{E':aO}(j0:Nat)
 (hg:bL E all o.guard=some ks) (ho:o.op= .indexAddr t x ix) (hx:E.ev K.gs ks x=some (.v (.slice (some ⟨b,p,none⟩) m c'))) (hi:E.ev K.gs ks ix=some (.v (.int kk i))) (ht:K.S.get t=some ti) (hdd:ti.d= .slice el) (he:K.S.get el=some ei) [j:ARow Λ (.slice (some ⟨b,off,none⟩) n c) sz xs]
 (hs:Nat.beq ei.size sz=true) (hp:p=off+j0*sz) (h0:0<=i) (h1:i<m) (h2:j0+i.toNat<n) (hput:E.put K.n none o.dst (.ep (.slice (some ⟨b,off,none⟩) n c) sz (j0+i.toNat))=some E') (next:A K (.ops all l::k) E' Λ):A K (.ops all (o::l)::k) E Λ:=by
 refine ⟨fun h e L hl r q=>?_⟩;have hs:=ac3 hs;obtain ⟨v1,e1,f1⟩:=r.ev (K.hgs.mono hl) _ hx;obtain ⟨v2,e2,f2⟩:=r.ev (K.hgs.mono hl) _ hi;rw [bN] at f1 f2;rw [f1.1] at e1;rw [f2.1] at e2;obtain ⟨e',e4,e5⟩:=cO (y:= .pointer (some ⟨b,p+i.toNat*sz,none⟩)) r hput (tX.2 ⟨b,off,n,c,rfl,h2,by rw [hp,ak0,al5]⟩);have hiv:r7 K.S t (.slice (some ⟨b,p,none⟩) m c') i=some (.pointer (some ⟨b,p+i.toNat*sz,none⟩),m):=by simp only [r7,ht,hdd,he,hs]
 exact V.e9 (C:=K.cfg) (aR r hg) ho e1 e2 hiv e4 h0 h1 (next.run h e' L hl e5 q)
theorem jB.jv{P:Program}{gs:Ua}{f:FuncId}{args:List AV}{Q:AV->List aH->Prop}{Λ:List aH}{z:Value}{sz n:Nat}{l:List AV}(hl:l≠[])
 (hv: ∀b o c,l.length<=c->jB P gs f (.ms (.slice (some ⟨b,o,none⟩) l.length c) sz l.length::args) (.row sz (.slice (some ⟨b,o,none⟩) l.length c) l::Λ) Q):jB P gs f (.ms z sz n::args) (.row sz z l::Λ) Q:=by
 intro w0 h vs L F g r q;have r0:=r;have q0:=q;rw [aJ] at r;obtain ⟨u,us,rfl,r1,r2⟩:=r;rw [gI] at r1;obtain ⟨rfl,a',cap',rfl⟩:=r1;obtain ⟨M,L2,rfl,⟨p,⟨a,cap,zs,e1,e2,e3,e4,e5⟩,rfl⟩,q2⟩:=q;injection e1 with e1 e1' e1'';subst e1;subst e1';subst e1'';rcases e5 with ⟨e5,_⟩|⟨b,o,sp,rfl,rfl,e6⟩
 ·exact (hl e5).elim
 ·exact hv b o cap' e2 w0 h _ _ F g r0 q0
theorem A.ja{a:Option Addr}{n c sz:Nat}{l l1 l2:List AV}(m:Nat){Λ':List aH} [i:ARow Λ (.slice a n c) sz l] [j:AOut Λ (.row sz (.slice a n c) l) Λ'](hl:l=l1++l2)(hm:l1.length=m)(h0:l1≠[])
 (next:A K k E (.row sz (.slice a m c) l1::Λ')):A K k E Λ:=by
 subst hl;subst hm;refine A.perm j.perm (A.fz (fun h L q=>?_) next);obtain ⟨M,L2,rfl,⟨p,⟨a',cap,zs,g1,g2,g3,g4,g5⟩,rfl⟩,q4⟩:=q;injection g1 with g1 g1' g1'';subst g1;subst g1';subst g1'';rw [aa1] at g2;refine ⟨[p]++L2,⟨[p],L2,rfl,⟨p,⟨a,c,zs.take l1.length,rfl,by omega,?_,g4,?_⟩,rfl⟩,q4⟩, .refl _⟩
 ·have:=g3.takeN l1.length
  rwa [List.take_left' T] at this
 ·rcases g5 with ⟨g5,_⟩|⟨b,o,sp,g6,g7,g8⟩
  ·simp at g5;exact (h0 g5.1).elim
  ·refine .inr ⟨b,o,bJ (zs.drop l1.length)++sp,g6,?_,?_⟩
   ·rw [g7,<-ab2,<-pW,ae3]
   ·rw [aa1,(g3.ek l1.length).fl,List.drop_left' T,g8,aa1,<-ak0];congr 1;omega
theorem JD(v:Value): ∀m:Nat,(List.replicate m (aM v)).flatten=bJ (List.replicate m v)
 |0=>rfl |m+1=>by rw [List.replicate_succ,as9,JD v m];rfl
theorem eN.rep{h:GH}{y:AV}{v:Value}(r:Rp h y v): ∀m:Nat,eN h (List.replicate m y) (List.replicate m v)
 |0=>aP.2 T |m+1=>aJ.2 ⟨_,_,rfl,r,eN.rep r m⟩
theorem A.gk{all:Array Oper}{o:Oper}{l:List Oper}{ks:List (Nat×Bool)}{x:Operand}{t el:TypeId}{ti ei:TI}{b off p m c' n c sz:Nat}{xs xs':List AV}{y:AV}{Λ':List aH}(j0:Nat)
 (hg:bL E all o.guard=some ks) (ho:o.op= .call ⟨.builtin .clear, #[x], #[t]⟩) (hx:E.ev K.gs ks x=some (.v (.slice (some ⟨b,p,none⟩) m c'))) (ht:K.S.get t=some ti) (hdd:ti.d= .slice el) (he:K.S.get el=some ei)
 [i:ARow Λ (.slice (some ⟨b,off,none⟩) n c) sz xs] [u:ARowUp Λ (.slice (some ⟨b,off,none⟩) n c) sz xs xs' Λ'] (hs:Nat.beq ei.size sz=true) (hsz:Nat.blt 0 ei.size=true) (hp:p=off+j0*sz) (hm:j0+m=xs.length) (h0:0<m)
 (hz1:aW ei.zero=true) (hy: ∀h,∃v,Rp h y v/\aM v=ei.zero) (hxs:xs'=xs.take j0++List.replicate m y) (hd:o.dst=none)
 (next:A K (.ops all l::k) E Λ'):A K (.ops all (o::l)::k) E Λ:=by
 subst hxs;have hs:=ac3 hs;subst hs;refine ⟨fun h e L hl r q=>?_⟩;obtain ⟨v1,e1,f1⟩:=r.ev (K.hgs.mono hl) _ hx;rw [bN] at f1;rw [f1.1] at e1;obtain ⟨Λ1,Λ2,d1,d2⟩:=u.split;subst d1;subst d2;obtain ⟨L1,M,L2,rfl,q1,⟨pp,⟨a,cap',zs,g1,g2,g3,g4,g5⟩,rfl⟩,q3⟩:=q.jq;injection g1 with g1 g1' g1'';subst g1;subst g1';subst g1'';rcases g5 with ⟨g5,_⟩|⟨b',o',sp,g6,rfl,g8⟩
 ·rw [g5] at hm;simp at hm;omega
 injection g6 with g6;injection g6 with g6 g7;subst g6;subst g7;refine V.sure (C:=K.cfg) (aR r hg) fun ac w g s hk=>?_;obtain ⟨yv,y1,y2⟩:=hy h;have ok:=TT.Ok.get K.ok ht;have oke:=TT.Ok.get K.ok he;have hund:K.P.underlying t=some (.slice el):=by rw [ok.und,hdd]
 obtain ⟨zv,hz,hzl⟩:=jV (w:=w) oke;have hsz':0<ei.size:=by simpa [ai7] using hsz
 have hzc:(Builtin.zeroCells zv.cells m).toList=(List.replicate m ei.zero).flatten:=by rw [show zv.cells=⟨ei.zero⟩ from by rw [<-hzl]];rw [nK];intro e;have:=oke.len;rw [e] at this;simp at this;omega
 have hcat:(List.replicate m ei.zero).flatten=bJ (List.replicate m yv):=by rw [<-y2];exact JD yv m
 have hzs:zs.length=xs.length:=g3.rp.len;have c1:=(g3.takeN j0).fl;rw [ac1,ah6 (by omega)] at c1;have c2:=(g3.ek j0).fl;have hel:vP h ei.size (List.replicate m y) (List.replicate m yv):=by
  refine ⟨eN.rep y1 m,fun z hz=>?_,fun z hz=>?_⟩
  ·rw [ak9 hz,y2,oke.len]
  ·rw [ak9 hz,y2];exact hz1
 have hone: ∀u,u∈(List.replicate m ei.zero).flatten->gU u=true:=by intro u hu;rw [hcat] at hu;obtain ⟨z,h1,h2⟩:=ai4.1 hu;exact dP (hel.one z h1) u h2
 have hr:dY (bJ zs++sp) (j0*ei.size) (bJ (List.replicate m yv))=some (bJ (zs.take j0++List.replicate m yv)++sp):=by
  have hzd:zs=zs.take j0++zs.drop j0:=(ae3 _ _).symm
  conv=>lhs;rw [hzd]
  have h1:dY (bJ (zs.drop j0)++sp) 0 (bJ (List.replicate m yv))=some (bJ (List.replicate m yv)++sp):=by refine y9 _ _ _ ?_;rw [c2,hel.fl,ad7,ag6];congr 1;omega
  have h2:=xK (bJ (List.replicate m yv)) (bJ (zs.take j0)) _ _ h1;rw [c1,Nat.add_zero] at h2;rw [pW,ab2,h2,pW,ab2]
 rw [<-hcat] at hr;obtain ⟨w',r1,r2⟩:=gV (P:=K.P) (List.replicate m ei.zero).flatten b p 0 w (L1:=L1) (k:=j0*ei.size) (by simpa [AC.G] using s) (by omega) (eM _ _ _ hr).1 hone hr;have hnext:=next.run h e ((L1++([⟨b,off,bJ (zs.take j0++List.replicate m yv)++sp,none⟩]++L2))) hl r (kK.fa q1 ⟨_,⟨some ⟨b,off,none⟩,c,zs.take j0++List.replicate m yv,?_,?_,(g3.takeN j0).app hel,rfl, .inr ⟨b,off,sp,rfl,rfl,?_⟩⟩,rfl⟩ q3)
 ·have hex:(execOp ac.eval o).run K.cfg.P w= .ok (.value (.tuple #[])) w':=by
   unfold execOp;rw [ho];obtain ⟨m',rfl⟩: ∃m',m=m'+1:=⟨m-1,by omega⟩;have r1':am5 K.cfg.P (storeCells ⟨b,p,none⟩ (Builtin.zeroCells zv.cells (m'+1)).toList) w= .ok () w':=by rw [hzc];exact r1
   have hund':K.cfg.P.underlying t=some (.slice el):=hund;have hz':am5 K.cfg.P (zeroValue el) w= .ok zv w:=hz;simp [resolve,invoke,builtin,Builtin.clear_,g.ev hk e1,Go.run_underlying hund',hz',r1']
  unfold Oper.wp;rw [hex];exact ⟨e,h,_,by rw [hd];exact g,(by simpa [AC.G] using r2),hnext⟩
 all_goals rw [aa1,ac1,ag6,ah6 (by omega),hm]
 ·exact g2
 ·exact g8
end
section
variable{K:AC}{all:Array Oper}{m:Nat}{k:List It}{pubs:Nat->List Nat}{Y:Ua}{π:List Nat}{E:aO}{Λ:List aH}{D:Da}
theorem WA.cx{i0:Nat}{o:Oper}{ks:List (Nat×Bool)}{t el:TypeId}{ti ei:TI}{x ix:Operand}{b off p q c' n c sz:Nat}{xs:List AV}{kk:IntKind}{i:Int}{E':aO}(j0:Nat)(hi0:cR all.toList i0=some o)
 (hg:bL E all o.guard=some ks) (ho:o.op= .indexAddr t x ix) (hx:E.ev K.gs ks x=some (.v (.slice (some ⟨b,p,none⟩) q c'))) (hi:E.ev K.gs ks ix=some (.v (.int kk i))) (ht:K.S.get t=some ti) (hdd:ti.d= .slice el) (he:K.S.get el=some ei) [j:ARow Λ (.slice (some ⟨b,off,none⟩) n c) sz xs]
 (hs:Nat.beq ei.size sz=true) (hp:p=off+j0*sz) (h0:0<=i) (h1:i<q) (h2:j0+i.toNat<n) (hput:E.put K.n none o.dst (.ep (.slice (some ⟨b,off,none⟩) n c) sz (j0+i.toNat))=some E') (next:WA K all m k pubs Y π E' Λ D):WA K all m k pubs Y (i0::π) E Λ D:=by
 refine ⟨fun h e L Es hl r q' d=>?_⟩;have hs:=ac3 hs;obtain ⟨v1,e1,f1⟩:=r.ev (K.hgs.mono hl) _ hx;obtain ⟨v2,e2,f2⟩:=r.ev (K.hgs.mono hl) _ hi;rw [bN] at f1 f2;rw [f1.1] at e1;rw [f2.1] at e2;obtain ⟨e',e4,e5⟩:=cO (y:= .pointer (some ⟨b,p+i.toNat*sz,none⟩)) r hput (tX.2 ⟨b,off,n,c,rfl,h2,by rw [hp,ak0,al5]⟩);have hiv:r7 K.S t (.slice (some ⟨b,p,none⟩) q c') i=some (.pointer (some ⟨b,p+i.toNat*sz,none⟩),q):=by simp only [r7,ht,hdd,he,hs]
 exact WE.an (G:=cD K.cfg all (L++K.G) pubs (YA Y) m k) hi0 (CQ ho) (aR r hg) (fun a w E0 g s hk=>by have:=xB (P:=K.cfg.P) (w:=w) (kk:=kk) K.ok hiv h0 h1;unfold execOp;rw [ho];simp only [g.ev hk e1,g.ev hk e2,ab8,this,ab1,ac5]) e4 (next.run h e' L Es hl e5 q' d)
end
end Go.Tp
namespace Go.Tp
open Go Go.RowKit
theorem St.self{w0 w:World}{h:GH}{L:List bV}(s:St w0 h L w):St w h [] w:=
 ⟨Below.refl _ _,s.imm,s.imm1,fun p hp=>(by cases hp),List.Pairwise.nil,fun _ _ _ _=>rfl,ab3 _⟩
theorem oX{α:Type} [Inhabited α](enc:α->Value)(w:World)(b lo:Nat)(d:Array α){j:Nat}(hj:j≠b):(Sort.putRow enc w b lo d).heap[j]? =w.heap[j]? :=by unfold Sort.putRow Sort.mapBlock;simp only [Array.getElem?_modify];rw [iF (fun e=>hj e.symm)]
theorem St.sorted{α:Type} [Inhabited α]{w0 w:World}{h:GH}{L:List bV}{b lo:Nat}{cs:List Value}{enc:α->Value}{d d':Array α}{n:Nat}{os:Array Obj}
 (s:St w0 h (⟨b,lo,cs,none⟩::L) w) (hd:d.size<=cs.length) (hp:0<d.size) (hH:Sort.Holds enc w b lo d) (hs:d'.size=d.size) (h1: ∀j,j<d.size->gU (enc d'[j]!)=true):
 St w0 h (⟨b,lo,d'.toList.map enc++cs.drop d.size,none⟩::L) (Sort.grow (Sort.putRow enc (Sort.ahead w n) b lo d') os):=by
 have k:=s.own _ (aa5 ..);have hdis:=ad9.1 s.dis;have hnew:=k.new 0 (by simp only;omega);simp only at hnew;have hsz:(Sort.putRow enc (Sort.ahead w n) b lo d').heap.size=w.heap.size:=by rw [Sort.size_putRow];rfl
 have hlen:(d'.toList.map enc++cs.drop d.size).length=cs.length:=by simp [hs];omega
 have hcell: ∀a:Addr,(a.block≠b\/a.off<lo\/lo+d.size<=a.off)->a.block<w.heap.size->(Sort.grow (Sort.putRow enc (Sort.ahead w n) b lo d') os).cell? a=w.cell? a:=fun a ha hl=>by rw [Sort.cell?_grow _ _ _ (by rw [hsz];exact hl),Sort.cell?_putRow_other _ _ _ _ _ _ (by rw [hs];exact ha),Sort.cell?_ahead]
 have hfr: ∀a:Addr,a.block<w.heap.size->(Sort.grow (Sort.putRow enc (Sort.ahead w n) b lo d') os).frozen? a=w.frozen? a:=fun a hl=>by rw [Sort.frozen?_grow _ _ _ (by rw [hsz];exact hl),Sort.frozen?_putRow,Sort.frozen?_ahead]
 have hb:b<w.heap.size:=dQ (hH 0 hp).1;refine ⟨⟨s.below.os,s.below.tape,s.below.output,?_,fun j hj=>?_⟩,fun b' o v hv=>?_,s.imm1,fun p hp'=>?_,?_,fun b' o v hv=>?_,?_⟩
 ·rw [Sort.size_grow,hsz];exact ae9 s.below.size (aj4 _ _)
 ·have hjw:j<w.heap.size:=Nat.lt_of_lt_of_le hj s.below.size;rw [Sort.heap_grow_old _ _ (by rw [hsz];exact hjw),oX _ _ _ _ _ (by omega)];exact s.below.block j hj
 ·have hc:=s.imm _ _ _ hv;rw [hcell _ ?_ (dQ hc)]
  ·exact hc
  ·by_cases e1:b'=b
   ·refine .inr ?_
    by_cases e2:o<lo
    ·exact .inl e2
    ·refine .inr ?_;simp only;rcases ae4 o (lo+d.size) with h2|h2
     ·have:=k.fresh (o-lo) (by simp only;omega);simp only at this;rw [show lo+(o-lo)=o by omega,<-e1,hv] at this;cases this
     ·exact h2
   ·exact .inl e1
 ·rcases ab6.1 hp' with rfl|hp'
  ·refine ⟨fun v hv=>?_,fun i v hv=>?_,fun i hi=>hnew,fun i hi=>?_,fun i hi=>k.fresh i (by rw [<-hlen];exact hi),fun o ho=>by cases ho⟩
   ·rcases ad8.1 hv with hv|hv
    ·obtain ⟨x,hx,rfl⟩:=ai0.1 hv;obtain ⟨j,hj,rfl⟩:=List.mem_iff_getElem.1 hx;have hj':j<d'.size:=by simpa using hj
     have:=h1 j (by omega);rw [getElem!_pos d' j hj'] at this;simpa using this
    ·exact k.one v (ai2 hv)
   ·simp only at hv⊢;rcases ae4 i d.size with hi|hi
    ·rw [Sort.cell?_grow _ _ _ (by rw [hsz];exact hb),Sort.cell?_putRow enc (Sort.ahead w n) b lo d d' hH hs i (by omega)];rw [ae6 (by simp;omega)] at hv;have hj':i<d'.size:=by omega
     rw [getElem!_pos d' i hj'];rw [aa7 (by simpa using hj')] at hv;simpa using hv
    ·rw [hcell _ (.inr (.inr (by simp only;omega))) hb];rw [ae7 (by simp;omega)] at hv;refine k.cell i v ?_;simp only [List.getElem?_drop,aa0,Array.length_toList] at hv⊢
     rwa [show d.size+(i-d'.size)=i by omega] at hv
   ·rw [hfr _ hb];exact k.warm i (by rw [<-hlen];exact hi)
  ·have q:=s.own p (ab9 _ hp');have ha:=hdis.1 p hp';refine ⟨q.one,fun i v hv=>?_,q.new,fun i hi=>?_,q.fresh,fun o ho=>?_⟩
   ·have hc:=q.cell i v hv;have hi:i<p.cs.length:=by
     rcases ae4 i p.cs.length with h|h
     ·exact h
     ·rw [ac6 h] at hv;cases hv
    rw [hcell _ ?_ (dQ hc)]
    ·exact hc
    ·by_cases e1:p.b=b
     ·refine .inr ?_
      by_cases e2:p.lo+i<lo
      ·exact .inl e2
      ·refine .inr ?_;simp only;rcases ae4 (p.lo+i) (lo+d.size) with h2|h2
       ·exact (ha.1 (p.lo+i-lo) i (by simp only;omega) hi e1.symm (by simp only;omega)).elim
       ·exact h2
     ·exact .inl e1
   ·obtain ⟨v,hv⟩:=getElem?_some_of_lt hi;rw [hfr _ (dQ (q.cell i v hv))];exact q.warm i hi
   ·obtain ⟨h2,h3,h4⟩:=q.obj o ho;refine ⟨h2,?_,h4⟩;have hlt:p.b<w.heap.size:=(Array.getElem?_eq_some_iff.1 h3).1;have hne:p.b≠b:=by
     intro e;obtain ⟨c,t,fr,hc,_⟩:=Sort.cells_of_cell? (hH 0 hp).1;rw [<-e,h3] at hc;injection hc with hc;exact h4 _ _ _ hc
    rw [Sort.heap_grow_old _ _ (by rw [hsz];exact hlt),oX _ _ _ _ _ hne];exact h3
 ·refine ad9.2 ⟨fun q hq=>⟨fun i j hi hj=>(hdis.1 q hq).1 i j (by simp only [hlen] at hi;exact hi) hj,(hdis.1 q hq).2⟩,hdis.2⟩
 ·rw [hfr _ (dQ (s.imm _ _ _ hv))];exact s.frz _ _ _ hv
 ·show w0.drawn<=w.drawn+n;exact ae9 s.drn (aj4 _ _)
theorem St.grown{h:GH}{L:List bV}{W w':World}(s:St W h L w'): ∃q os,w'=Sort.grow (W.drewN q) os:=by
 refine ⟨w'.drawn-W.drawn,w'.heap.extract W.heap.size w'.heap.size,?_⟩;obtain ⟨hp,tp,dr,os,ou⟩:=w';have b:=s.below;obtain ⟨b1,b2,b3,b4,b5⟩:=b;have hd:=s.drn;simp only at b1 b2 b3 b4 b5 hd⊢;unfold Sort.grow World.drewN;simp only [World.mk.injEq];refine ⟨?_,b2,by omega,b1,b3⟩;apply Array.ext_getElem?;intro i;rcases ae4 i W.heap.size with hi|hi
 ·rw [b5 i hi,Array.getElem?_append_left hi]
 ·rw [Array.getElem?_append_right hi,Array.getElem?_extract];split
  ·rw [show W.heap.size+(i-W.heap.size)=i by omega]
  ·rename_i hn;rw [Array.getElem?_eq_none (by omega)]
theorem NN{P:Program}{gs:Ua}{f:FuncId}{args:List AV}{c:Int}{vs:List Value}{W:World}{h:GH}(hf:Pure P gs f args (.v (.int .i64 c)))(s:St W h [] W)(g:mI h gs)(r:eN h args vs):
 Calls P f ⟨vs⟩ W fun e w'=>e= .returned (.int .i64 c)/\ ∃q os,w'=Sort.grow (W.drewN q) os:=by
 refine ((hf W h vs [] [] g r T).2 W s).mono fun e w' ⟨v,h',L',e1,⟨x,Λ',L1,⟨q1,q2⟩,q3,_⟩,e3⟩=>?_;subst q1;rw [bN] at q3;exact ⟨by rw [e1,q3.1],e3.grown⟩
end Go.Tp
namespace Go.Tp
open Go Go.RowKit
def P9{α:Type}(l:List α):List Nat->Option (List α)
 | []=>some [] |i::π=>match cR l i with
  |some x=>match P9 l π with
   |some r=>some (x::r) |none=>none
  |none=>none
theorem KQ{α:Type}{l:List α}: ∀{π:List Nat} {r:List α},P9 l π=some r->r=π.filterMap fun i=>l[i]?
 | [],r,h=>by injection h with h;subst h;rfl |i::π,r,h=>by
  simp only [P9] at h;split at h
  ·rename_i x hx;split at h
   ·rename_i r' hr;injection h with h;subst h;rw [cZ] at hx;rw [am3,hx,KQ hr]
   ·cases h
  ·cases h
theorem NQ{α:Type}(l:List α):(List.range l.length).filterMap (fun i=>l[i]?)=l:=by
 induction l with
 |nil=>rfl |cons x l ih=>
  rw [ab7,List.range_succ_eq_map,am3];simp only [ak1,List.filterMap_map];congr 1
theorem c9{α:Type}(π:List Nat){l r:List α}(h:P9 l π=some r)(h1:sK π=true)(h2:(π.all fun i=>Nat.blt i l.length)=true)(h3:((List.range l.length).all fun i=>gQ i π)=true):l.Perm r:=by
 rw [KQ h];have:(List.range l.length).Perm π:=by
  refine (List.perm_ext_iff_of_nodup List.nodup_range (i6 h1)).2 fun a=>⟨fun ha=>?_,fun ha=>?_⟩
  ·exact gR.1 ((ae5.1 h3) a ha)
  ·have:=(ae5.1 h2) a ha;rw [ai7] at this;exact ah5.2 this
 have:=this.filterMap fun i=>l[i]?
 rwa [NQ] at this
def aG.ga:List (Nat×bV)->aG
 | []=>aG.none |(j,x)::r=>(aG.ga r).set j (some x)
theorem aG.ff: ∀{l:List (Nat×bV)} {j:Nat},j∉l.map (·.1)->aG.ga l j=Option.none
 | [],_,_=>rfl |(i,x)::r,j,h=>by simp only [af6,ab6,not_or] at h;rw [aG.ga,aG.ai _ h.1];exact aG.ff h.2
theorem aG.fg{n:Nat}: ∀{l:List (Nat×bV)},(l.map (·.1)).Nodup->(∀j,j∈l.map (·.1)->j<n)->(aG.list n (aG.ga l)).Perm (l.map (·.2))
 | [],_,_=>by rw [show aG.ga []=aG.none from rfl,aG.dq];exact .refl _ |(j,x)::r,h,hn=>by
  simp only [af6,aj1] at h;have h1:=aG.ay (hn j (aa5 ..)) (aG.ga r) x;have h2:(aG.ga r).set j Option.none=aG.ga r:=by rw [<-aG.ff h.1];exact aG.set_same _ _
  rw [h2] at h1;exact h1.trans ((aG.fg h.2 fun i hi=>hn i (ab9 _ hi)).cons x)
section
variable{C:qJ}{k:List It}{e:Env}{h:GH}{L:List bV}
theorem V.cq{all:Array Oper}{id:Nat}(l:List (Nat×bV))(m:Nat)(π:List Nat)(pubs:Nat->List Nat)(Y:Nat->List Value->Value->GH->Prop)(hn:(l.map (·.1)).Nodup)(hj: ∀j,j∈l.map (·.1)->j<all.size)(hm:C.P.follows .mixedOrders=true)(hok:l7 all m π pubs=true)
 (hv:WE (cD C all L pubs Y m k) π e h (aG.ga l)):V C (.code (.region id all true)::k) e h (l.map (·.2)++L):=by
 intro ho a w b cs g s hf hk;have hok1:=qO hok;have hnd:=hok1.2;have ok:BL (cD C all L pubs Y m k) m π:=rV hok1.1;have hW:=hv a g;have hp:=aG.fg (n:=all.size) hn hj;have s':(cD C all L pubs Y m k).live h (aG.ga l) {w with drawn:=w.drawn+1}:=by show St C.w0 h (aG.list all.size (aG.ga l)++L) _;exact s.drew.perm (hp.append_right L).symm
 have hd:LY all m π (ag1 all.size false):=by
  refine ⟨by simp,fun i hi=>⟨fun _=>?_,fun _=>by simp [hi]⟩,fun i o ho hi=>?_⟩
  rotate_left
  ·have:(ag1 all.size false).getD i false=false:=by
    simp only [Array.getD_eq_getD_getElem?,Array.getElem?_replicate];split<;>rfl
   have hi':(ag1 all.size false).getD i false=true:=hi;rw [this] at hi';cases hi'
  by_cases him:i<m
  ·left;exact ok.full i him
  ·right;omega
 have hr:=Rg.run (cD C all L pubs Y m k) ok (bQ ho) (cs:=cs) hnd hf hk (fun a h E x=>x) m π ok.len (List.Sublist.refl _) (ag1 all.size false) (w.tape w.drawn (.order b.fn id)) a h (aG.ga l) _ hd hW s';obtain ⟨v,w'',fr,h'',L'',q1,q2,q3,q4,q5⟩:=hr;refine ⟨v,w'',fr,h'',L'',q1,q2,?_,q4,q5⟩;have hstep:=stepR_region_draw (P:=C.P) (b:=b) (a:=a) (k:=items k) (cs:=cs) (w:=w) (ops:=all) (id:=id);have hsch:Region.schedule (C.P.follows .mixedOrders) all (w.tape w.drawn (.order b.fn id))=Region.linearise.go .any all (m+(all.size-m)) (w.tape w.drawn (.order b.fn id)) (ag1 all.size false) []:=by
  rw [show m+(all.size-m)=all.size by have:m<=all.size:=ok.le;omega];simp only [Region.schedule,hm,Bool.true_or,if_true]
  rfl
 rw [hsch] at hstep;exact .head hstep q3
end
def NH:aH->Bool
 | .box _ _=>true | .row _ _ _=>true
 | .tail _ _=>true |_=>false
theorem SK{h:GH}{x:aH}{M:List bV}(ho:NH x=true)(r:mS h x M): ∃p,M=[p]:=by
 cases x with
 |box b y=>obtain ⟨z,_,e⟩:=r;exact ⟨_,e⟩
 |row sz z l=>obtain ⟨p,_,e⟩:=r;exact ⟨_,e⟩
 |tail sz z=>obtain ⟨p,_,e⟩:=r;exact ⟨_,e⟩
 |_=>cases ho
theorem kK.jy{h:GH}: ∀{D:Da} {L:List bV},(D.all fun x=>NH x.2)=true->kK h (D.map (·.2)) L-> ∃l:List (Nat×bV),l.map (·.1)=D.map (·.1)/\L=l.map (·.2)/\IZ h D (aG.ga l)
 | [],L,_,r=>by have r:L=[]:=r;exact ⟨[],rfl,r,fun i=>rfl⟩
 |(j,x)::D,L,ho,r=>by simp only [aj8,aa3] at ho;obtain ⟨M,L2,rfl,r1,r2⟩:=r;obtain ⟨p,rfl⟩:=SK ho.1 r1;obtain ⟨l,e1,e2,e3⟩:=kK.jy ho.2 r2;exact ⟨(j,p)::l,by simp [e1],by simp [e2],e3.set r1⟩
section
variable{K:AC}{all:Array Oper}{k:List It}{E:aO}{Λ:List aH}
theorem A.cq{id:Nat}(D:Da)(m:Nat)(π:List Nat)(pubs:Nat->List Nat)(Y:Ua){Λ':List aH}(hp:Λ.Perm (D.map (·.2)++Λ'))(ho:(D.all fun x=>NH x.2)=true)(hn:sK (D.map (·.1))=true)(hj:((D.map (·.1)).all fun j=>Nat.blt j (EP all.toList))=true)
 (hm:K.P.follows .mixedOrders=true) (hok:l7 all m π pubs=true) (hv:WA K all m k pubs Y π E Λ' D):A K (.code (.region id all true)::k) E Λ:=
 ⟨fun h e L hl r q=>by obtain ⟨L',q1,q2⟩:=q.perm hp;obtain ⟨M,L2,rfl,q3,q4⟩:=q1.split;obtain ⟨l,e1,rfl,e3⟩:=kK.jy ho q3;refine V.perm (q2.append_right _) ?_;rw [ab2];refine V.cq (C:=K.cfg) l m π pubs (YA Y) (by rw [e1];exact i6 hn) (fun j hj'=>?_) hm hok (hv.run h e L2 _ hl r q4 e3);rw [e1] at hj';have:=(ae5.1 hj) j hj';rw [wN] at this;simpa [ai7] using this⟩
end
section
variable{K:AC}{all:Array Oper}{m:Nat}{k:List It}{pubs:Nat->List Nat}{Y:Ua}{π:List Nat}{E:aO}{Λ:List aH}{D:Da}
theorem WA.ej{ι:Type}{X:ι->AV}{sz:Nat}{z:Value}{l:List AV}{Z:ι->Value}{LL:ι->List AV}{Pr:ι->Prop}{i:Nat}{o:Oper}{ks:List (Nat×Bool)}{x:Operand}{args:Array Operand}{ts:Array TypeId}{f:FuncId}{fst cap vs args':List AV}{d:Nat}(hi:cR all.toList i=some o)
 (hg:bL E all o.guard=some ks) (ho:o.op= .call ⟨.value x,args,ts⟩) (hx:E.ev K.gs ks x=some (.fn f fst cap)) (ha:rI (E.ev K.gs ks) args.toList=some vs)
 (hd:o.dst=some d) (hc:cP K.n E d=true) (hii:gQ i (pubs i)=true) (hE:lK D i=some (.row sz z l)) (hf:fB K.P K.gs f args' [.row sz z l] X (fun j=>[.row sz (Z j) (LL j)]) Pr) (hs:oO (fst++(vs++cap)) args')
 (next: ∀j,Pr j->WA K all m k pubs Y π ⟨(d,X j)::E.us,E.cs⟩ Λ ((i, .row sz (Z j) (LL j))::D)) (hfr:fr2 (pubs i)=false:=by rfl):WA K all m k pubs Y (i::π) E Λ D:=by
 refine ⟨fun h e L Es hl r q dd=>?_⟩;obtain ⟨v1,e1,f1⟩:=r.ev (K.hgs.mono hl) _ hx;rw [pQ] at f1;obtain ⟨u,w,rfl,f2,f3⟩:=f1;obtain ⟨us,e2,f4⟩:=mZ (σ:=e.ev ks) (fun z x hz=>r.ev (K.hgs.mono hl) ks hz) ha;have hEi:=dd i;rw [hE] at hEi;obtain ⟨p0,hp0,hrow⟩:=hEi;refine WE.jf (G:=cD K.cfg all (L++K.G) pubs (YA Y) m k) (Q:=fun v h' x'=> ∃j p,Pr j/\x'=some p/\mS h' (.row sz (Z j) (LL j)) [p]/\Rp h' (X j) v) hi (aR r hg) ho e1 e2 hd (cE r hc) hii (fun L'=>?_) (fun v h' x' y1 y3=>?_) (fun e=>by rw [show fr2 (pubs i)=false from hfr] at e;cases e)
 ·rw [hp0];have hargs:=hs.rp (f2.append (f4.append f3));refine (hf K.w0 _ _ [p0] _ (K.hgs.mono hl) hargs ⟨[p0],[],rfl,hrow,rfl⟩).mono ?_;rintro v h' L'' ⟨z',Λ',L1,⟨j,hj1,rfl,hj2⟩,g2,g3,g4,rfl⟩;obtain ⟨M,M2,rfl,hM,hM2⟩:=g4;have hM2:M2=[]:=hM2;subst hM2;obtain ⟨p,hp,rfl⟩:=hM;exact ⟨some p,by simp,g3,j,p,hj2,rfl,⟨p,hp,rfl⟩,hj1.rp g2⟩
 ·obtain ⟨j,p,hj,rfl,hp,hv⟩:=y3;exact (next j hj).run h' ⟨(d,v)::e.us,e.cs⟩ L _ (GH.le_trans hl y1) ⟨(r.1.mono y1).put hv,r.2.mono y1⟩ (q.mono y1) ((dd.mono y1).set hp)
theorem WA.dw{i:Nat}{o:Oper}{ks:List (Nat×Bool)}{y1 y2:Operand}{t el:TypeId}{ti ei:TI}{x2:AV}{l1 l2:List AV}{z:Value}{sz sz' n d:Nat}{ps:List Nat}{D':Da}(hi:cR all.toList i=some o)
 (hg:bL E all o.guard=some ks) (ho:o.op= .call ⟨.builtin .append, #[y1,y2], #[t,t]⟩) (h1:E.ev K.gs ks y1=some (.ms z sz' n)) (h2:E.ev K.gs ks y2=some x2)
 (ht:K.S.get t=some ti) (hdd:ti.d= .slice el) (he:K.S.get el=some ei) (hD:lK D i=some (.row sz z l1)) (hp:pubs i=i::ps) (hpi:gQ i ps=false) (hDD:rC ps D=D') (hse:Nat.beq ei.size sz=true)
 (hsz:Nat.blt 0 ei.size=true) (hz1:aW ei.zero=true) (hd:o.dst=some d) (hc:cP K.n E d=true) (hnd:sK ps=true) (hlt:((i::ps).all fun j=>Nat.blt j (EP all.toList))=true) (hel:BO ei l2=true)
 (hs:T3 D ps x2 (.sl ei.size l2 none)) (hb:(l1.length+l2.length)*ei.size<=281474976710656) (hby:(l1.length+l2.length)*ei.size*ei.bytes<=140737488355328)
 (next: ∀z',WA K all m k pubs Y π ⟨(d, .ms z' sz (l1.length+l2.length))::E.us,E.cs⟩ Λ ((i, .row sz z' (l1++l2))::D')):WA K all m k pubs Y (i::π) E Λ D:=by
 subst hDD;have hse:=ac3 hse;subst hse;refine ⟨fun h e L Es hl r q dd=>?_⟩;obtain ⟨v1,e1,f1⟩:=r.ev (K.hgs.mono hl) _ h1;obtain ⟨v2,e2,f2⟩:=r.ev (K.hgs.mono hl) _ h2;rw [gI] at f1;obtain ⟨rfl,_⟩:=f1;have hEi:=dd i;rw [hD] at hEi;obtain ⟨p0,hp1,p,⟨a,cap,zs,rfl,g2,g3,g4,g5⟩,hpe⟩:=hEi;injection hpe with hpe;subst hpe;have hsz':0<ei.size:=by simpa [ai7] using hsz
 have hni:i∉ps:=fun hm=>by rw [gR.2 hm] at hpi;cases hpi
 have hlt': ∀j,j∈i::ps->j<all.size:=fun j hj=>by have:=(ae5.1 hlt) j hj;rw [wN] at this;simpa [ai7] using this
 have hkap:kd o= .ap:=by unfold kd;rw [ho]
 refine WE.jd (G:=cD K.cfg all (L++K.G) pubs (YA Y) m k) hi (aR r hg) hkap hd (cE r hc) (by show gQ i (pubs i)=true;rw [hp];simp [gQ]) fun ac w g s hk=>?_;obtain ⟨s1,pk⟩:=sE (C:=K.cfg) (n:=all.size) ps Es h (i6 hnd) (fun j hj=>hlt' j (ab9 _ hj)) s;have f2':=T3.rp dd pk.1 pk.2 hs f2;obtain ⟨zs2,b1,b2,b3⟩:=AJ f2';have hEi':oK ps Es i=some p0:=by rw [kA,iF hni,hp1]
 have hl':=aG.bh (hlt' i (aa5 ..)) hEi';have s2:St K.w0 (iA Es ps h) (p0::(aG.list all.size ((oK ps Es).set i none)++(L++K.G))) w:=St.perm s1 (hl'.append_right _);have hlen1:(bJ zs).length=l1.length*ei.size:=by rw [jD g3.sz,g3.rp.len]
 have hlen2:(bJ zs2).length=l2.length*ei.size:=by rw [jD b2,b1.len]
 have how:Ow ei.size a l1.length cap (bJ zs) p0:=⟨g4,g2,hlen1,g5.elim (fun ⟨_,k2,k3,k4⟩=> .inl ⟨k2,k3,k4⟩) .inr⟩;obtain ⟨w',x',a',n',cap',r1,r2,r3⟩:=uI (ty:=o.type) K.ok ht hdd he hsz' hz1 (dP g3.fc) s2 how b3 (by rw [hlen1,hlen2,<-ak0];exact hb) (by rw [hlen1,hlen2,<-ak0];exact hby);have hn':n'=l1.length+l2.length:=by have:=r3.2.2.1;rw [aa1,hlen1,hlen2,<-ak0] at this;exact (Nat.eq_of_mul_eq_mul_right hsz' this).symm
 subst hn';have g3':=g3.mono pk.1;have hrow:oM (iA Es ps h) ei.size (.slice a' (l1.length+l2.length) cap') (l1++l2) x':=by
  refine ⟨a',cap',zs++zs2,by rw [aa1],by rw [aa1];exact r3.2.1,⟨g3'.rp.append b1,fun z hz=>?_,fun z hz=>?_⟩,r3.1,?_⟩
  ·rcases ad8.1 hz with hz|hz
   ·exact g3.sz z hz
   ·exact b2 z hz
  ·rcases ad8.1 hz with hz|hz
   ·exact g3.one z hz
   ·exact uM hel _ zs2 b1 z hz
  ·have hcat:bJ (zs++zs2)=bJ zs++bJ zs2:=by simp [bJ]
   rcases r3.2.2.2 with ⟨k2,k3,k4⟩|k5
   ·refine .inl ⟨?_,k2,k3,k4⟩;have:=r3.2.1;exact List.length_eq_zero_iff.1 (by rw [aa1];omega)
   ·rw [hcat,aa1];exact .inr k5
 refine ⟨_,w',iA Es ps h,(oK ps Es).set i (some x'),?_,?_,pk.1,(next (.slice a' (l1.length+l2.length) cap')).run _ ⟨_::e.us,e.cs⟩ L _ (GH.le_trans hl pk.1) ⟨(r.1.mono pk.1).put (gI.2 ⟨rfl,_,_,rfl⟩),r.2.mono pk.1⟩ (q.mono pk.1) (((dd.mono pk.1).pub _).set ⟨x',hrow,rfl⟩)⟩
 ·unfold execOp;rw [ho];have r1':am5 K.cfg.P (Builtin.append_ #[t,t] o.type #[Value.slice a l1.length cap,v2]) w=Result.ok (Value.slice a' (l1.length+l2.length) cap') w':=r1;simp [resolve,invoke,builtin,g.ev hk e1,g.ev hk e2,r1']
 ·have hq:=aG.ay (hlt' i (aa5 ..)) (oK ps Es) x';exact St.perm r2 (hq.append_right _).symm
end
end Go.Tp
namespace Go.Tp
open Go Go.RowKit
section
variable{K:AC}{all:Array Oper}{m:Nat}{k:List It}{pubs:Nat->List Nat}{Y:Ua}{π:List Nat}{E:aO}{Λ:List aH}{D:Da}
end
end Go.Tp
namespace Go.Proofs.YtenkjmjejhhdjaaGreat
open Go Go.Tp
abbrev jK(x:EL):AV:= .ag [AI x.1,aN x.2]
abbrev lI(t:TR):AV:= .sl 2 (t.map jK) none
theorem iS(t:TR):((t.map jK).length:Int)=t.length:=by rw [aa0]
def U5(x y:Int):Int:=if x<y then-1 else if y<x then 1 else 0
theorem PQ(x:Int):Pure prog aU 111 [aN x] (AB false):=by refine P_ func111 6 fun _ _ _ _=>?_;refine y_ ?_;refine R_ ?_;refine Sb.eq (aA ?_);simp
theorem Z2(x y:Int):Pure prog aU 75 [aN x,aN y] (AI (U5 x y)):=by
 have h1:=PQ x;have h2:=PQ y;refine eX (U5 x y) fun R hR=>?_;rw [<-hR];unfold U5 at hR;refine P_ func75 20 fun _ _ _ _=>?_;refine y_ ?_;refine c_ h1 ?_;refine n_ h2 ?_;(repeat' first|refine A.s T ?_|refine A.r T T ?_|refine A.w T T ?_|refine A.p T ?_|refine A.b T fun bx=>?_|refine A.t T fun bl=>?_|((fail_if_success (refine A.lit? T ?_));refine A.gS T (fun hc=>?_) (fun hc=>?_))|((fail_if_success (refine A.bu? T ?_));refine A.eo T (fun hc=>?_) (fun hc=>?_)))
 all_goals (refine R_ ?_;refine Sb.eq (aL ?_);rw [hR];simp at*;omega)
end Go.Proofs.YtenkjmjejhhdjaaGreat
namespace Go.Tp
open Go Go.RowKit
def CR:TypeDesc->Bool
 | .int _=>true | .string=>true
 |_=>false
section
variable{P:Program}{w:World}{t kt:TypeId}{ti ki:TI}
theorem iE{em:Bool}{v:Value}(hk:TI.Ok P kt ki)(hd:CR ki.d=true):(Instr.checkKey em 10000 kt v).run P w= .ok () w:=by unfold Instr.checkKey;simp only [ab8,run_underlying hk,ab1];cases hx:ki.d<;>rw [hx] at hd<;>first|(cases hd;done)|(cases v<;>rfl)
theorem jH{v:Value}{es:List MapEntry}{r:Option (Nat×Value)}(hk:TI.Ok P kt ki)(hf:Instr.findNow ki.d v es 0=some r):(Instr.findKey kt v es).run P w= .ok r w:=by
 unfold Instr.findKey;simp only [ab8,run_underlying hk,ab1,hf]
 rfl
end
def qE(d:TypeDesc)(k:Value):List Value->Option (Option Nat)
 | []=>some none |m::r=>match Instr.sameNow d k m with
  |some true=>some (some 0) |some false=>match qE d k r with
   |some (some p)=>some (some (p+1)) |some none=>some none
   |none=>none
  |none=>none
theorem hN{d:TypeDesc}{k:Value}: ∀{ks vs:List Value} {b i:Nat} {r:Option Nat},ks.length=vs.length->qE d k ks=some r->
 Instr.findNow d k (eZ ks vs b) i=some (match r with
  |some p=>(vs[p]?).map fun v=>(i+p,v) |none=>none)
 | [],vs,b,i,r,hl,h=>by simp only [qE] at h;injection h with h;subst h;cases vs<;>rfl
 |m::ks,[],b,i,r,hl,h=>by simp at hl |m::ks,v::vs,b,i,r,hl,h=>by
  rw [qE] at h;rw [eZ,Instr.findNow];cases hs:Instr.sameNow d k m with
  |none=>rw [hs] at h;cases h |some q=>
   rw [hs] at h;simp only;cases q with
   |true=>
    simp only at h⊢;injection h with h;subst h;simp
   |false=>
    simp only at h⊢;cases hp:qE d k ks with
    |none=>rw [hp] at h;cases h |some r'=>
     have ih:=hN (vs:=vs) (b:=b+1) (i:=i+1) (by simpa using hl) hp;rw [ih];rw [hp] at h;cases r' with
     |none=>simp only at h;injection h with h;subst h;rfl |some p=>
      simp only at h;injection h with h;subst h;simp only [af4];cases vs[p]? with
      |none=>rfl |some u=>simp;omega
section
variable{C:qJ}{k:List It}{e:Env}{h:GH}{L:List bV}
theorem V.cz{all:Array Oper}{o:Oper}{l:List Oper}{ks:List (Nat×Bool)}{t kt et:TypeId}{ti ki:TI}{m ky y:Operand}{b n:Nat}{es:Array MapEntry}{kv v:Value}{L2:List bV}
 (hg:iU e all o.guard=some ks) (ho:o.op= .mapUpdate t m ky y) (hm:e.ev ks m=some (.map (some b))) (hkv:e.ev ks ky=some kv) (hv:e.ev ks y=some v) (ht:C.S.get t=some ti) (htd:ti.d= .map kt et) (hkt:C.S.get kt=some ki) (hkd:CR ki.d=true)
 (hf:Instr.findNow ki.d kv es.toList 0=some none) (hd:o.dst=none) (hL:L=⟨b,0,[],some (.map es n)⟩::L2)
 (next:V C (.ops all l::k) e h (⟨b,0,[],some (.map (es.push ⟨kv,v,n⟩) (n+1))⟩::L2)):V C (.ops all (o::l)::k) e h L:=
 V.sure hg fun a w g s hk=>by subst hL;have hob:=((s.own _ (aa5 ..)).obj _ T).2.1;simp only at hob;have s2:=s.setObj T (.map (es.push ⟨kv,v,n⟩) (n+1)) (fun _ _ _ x=>by cases x);unfold Oper.wp execOp;rw [ho];simp only [g.ev hk hm,g.ev hk hkv,g.ev hk hv,Instr.mapUpdate,ab8,run_underlying (TT.Ok.get C.ok ht),htd,ab1,hP hob,iE (TT.Ok.get C.ok hkt) hkd,jH (TT.Ok.get C.ok hkt) hf,vJ _ hob,ac5];exact ⟨e,h,_,by rw [hd];exact g,s2,next⟩
theorem V.ck{all:Array Oper}{o:Oper}{l:List Oper}{ks:List (Nat×Bool)}{t kt et:TypeId}{ti ki:TI}{m ky:Operand}{b n d i:Nat}{c:Bool}{es:Array MapEntry}{kv v:Value}{L2:List bV}
 (hg:iU e all o.guard=some ks) (ho:o.op= .lookup t m ky c) (hm:e.ev ks m=some (.map (some b))) (hkv:e.ev ks ky=some kv) (ht:C.S.get t=some ti) (htd:ti.d= .map kt et) (hkt:C.S.get kt=some ki) (hkd:CR ki.d=true)
 (hf:Instr.findNow ki.d kv es.toList 0=some (some (i,v))) (hd:o.dst=some d) (hc:hI C.n e d=true) (hL:L=⟨b,0,[],some (.map es n)⟩::L2)
 (next:V C (.ops all l::k) ⟨(d,if c then .tuple #[v, .bool true] else v)::e.us,e.cs⟩ h L):V C (.ops all (o::l)::k) e h L:=
 V.gives hg hd hc fun a w g s hk=>by have hob:=((s.own ⟨b,0,[],some (.map es n)⟩ (by rw [hL];exact aa5 ..)).obj _ T).2.1;simp only at hob;refine ⟨_,w,h,L,?_,s,next⟩;unfold execOp;rw [ho];simp only [g.ev hk hm,g.ev hk hkv,Instr.lookup,ab8,run_underlying (TT.Ok.get C.ok ht),htd,ab1,hP hob,iE (TT.Ok.get C.ok hkt) hkd,jH (TT.Ok.get C.ok hkt) hf,ac5]
theorem V.aw{all:Array Oper}{o:Oper}{l:List Oper}{ks:List (Nat×Bool)}{t kt et:TypeId}{ti ki:TI}{m ky:Operand}{b n d:Nat}{c:Bool}{es:Array MapEntry}{kv v:Value}{L2:List bV}
 (hg:iU e all o.guard=some ks) (ho:o.op= .lookup t m ky c) (hm:e.ev ks m=some (.map (some b))) (hkv:e.ev ks ky=some kv) (ht:C.S.get t=some ti) (htd:ti.d= .map kt et) (hkt:C.S.get kt=some ki) (hkd:CR ki.d=true)
 (hz:(C.P.info? et).bind (fun x=>x.zero)=some v)
 (hf:Instr.findNow ki.d kv es.toList 0=some none) (hd:o.dst=some d) (hc:hI C.n e d=true) (hL:L=⟨b,0,[],some (.map es n)⟩::L2)
 (next:V C (.ops all l::k) ⟨(d,if c then .tuple #[v, .bool false] else v)::e.us,e.cs⟩ h L):V C (.ops all (o::l)::k) e h L:=
 V.gives hg hd hc fun a w g s hk=>by
  have hob:=((s.own ⟨b,0,[],some (.map es n)⟩ (by rw [hL];exact aa5 ..)).obj _ T).2.1;simp only at hob;refine ⟨_,w,h,L,?_,s,next⟩;obtain ⟨xi,hx1,hx2⟩: ∃xi,C.P.info? et=some xi/\xi.zero=some v:=by
   cases hi:C.P.info? et with
   |none=>rw [hi] at hz;cases hz |some xi=>rw [hi] at hz;exact ⟨xi,rfl,hz⟩
  have hz1:(zeroValue et).run C.P w= .ok v w:=by simp [zeroValue,run_typeInfo hx1,hx2]
  unfold execOp;rw [ho];simp only [g.ev hk hm,g.ev hk hkv,Instr.lookup,ab8,run_underlying (TT.Ok.get C.ok ht),htd,ab1,hP hob,iE (TT.Ok.get C.ok hkt) hkd,jH (TT.Ok.get C.ok hkt) hf,hz1,ac5]
end
section
variable{K:AC}{k:List It}{E:aO}{Λ:List aH}
theorem A.cz{all:Array Oper}{o:Oper}{l:List Oper}{ks:List (Nat×Bool)}{t kt et:TypeId}{ti ki:TI}{m ky y:Operand}{b:Nat}{kv:Value}{nks:List Value}{xs:List AV}{x:AV}{Λ':List aH}
 (hg:bL E all o.guard=some ks) (ho:o.op= .mapUpdate t m ky y) (hm:E.ev K.gs ks m=some (.v (.map (some b)))) (hkv:E.ev K.gs ks ky=some (.v kv)) (hv:E.ev K.gs ks y=some x) (ht:K.S.get t=some ti) (htd:ti.d= .map kt et) (hkt:K.S.get kt=some ki) (hkd:CR ki.d=true)
 [i:AMp Λ b nks xs Λ'] (hf:qE ki.d kv nks=some none) (hd:o.dst=none) (next:A K (.ops all l::k) E (.mp b (nks++[kv]) (xs++[x])::Λ')):A K (.ops all (o::l)::k) E Λ:=by
 refine ⟨fun h e L hl r q=>?_⟩;obtain ⟨v1,e1,f1⟩:=r.ev (K.hgs.mono hl) _ hm;obtain ⟨v2,e2,f2⟩:=r.ev (K.hgs.mono hl) _ hkv;obtain ⟨v3,e3,f3⟩:=r.ev (K.hgs.mono hl) _ hv;rw [bN] at f1 f2;rw [f1.1] at e1;rw [f2.1] at e2;obtain ⟨L',q1,q2⟩:=q.perm i.perm;obtain ⟨M,L2,rfl,⟨hlen,vs,hvs,rfl⟩,q4⟩:=q1;have hl2:nks.length=vs.length:=by rw [hlen,hvs.len]
 refine V.perm (q2.append_right _) ?_;refine V.cz (C:=K.cfg) (n:=nks.length) (es:=⟨eZ nks vs 0⟩) (L2:=L2++K.G) (aR r hg) ho e1 e2 e3 ht htd hkt hkd (hN hl2 hf) hd T ?_;have:=next.run h e (⟨b,0,[],some (.map ⟨eZ (nks++[kv]) (vs++[v3]) 0⟩ (nks++[kv]).length)⟩::L2) hl r (.one ⟨by simp [hlen],_,hvs.append (aJ.2 ⟨_,_,rfl,f3,aP.2 T⟩),rfl⟩ q4)
 rw [u0 hl2] at this;simpa using this
theorem A.ck{all:Array Oper}{o:Oper}{l:List Oper}{ks:List (Nat×Bool)}{t kt et:TypeId}{ti ki:TI}{m ky:Operand}{b d p:Nat}{c:Bool}{kv:Value}{nks:List Value}{xs:List AV}{x:AV}{Λ':List aH}
 (hg:bL E all o.guard=some ks) (ho:o.op= .lookup t m ky c) (hm:E.ev K.gs ks m=some (.v (.map (some b)))) (hkv:E.ev K.gs ks ky=some (.v kv)) (ht:K.S.get t=some ti) (htd:ti.d= .map kt et) (hkt:K.S.get kt=some ki) (hkd:CR ki.d=true)
 [i:AMp Λ b nks xs Λ'] (hf:qE ki.d kv nks=some (some p)) (hx:xs[p]? =some x) (hd:o.dst=some d) (hc:cP K.n E d=true) (next:A K (.ops all l::k) ⟨(d,if c then .tp [x, .v (.bool true)] else x)::E.us,E.cs⟩ Λ):A K (.ops all (o::l)::k) E Λ:=by
 refine ⟨fun h e L hl r q=>?_⟩;obtain ⟨v1,e1,f1⟩:=r.ev (K.hgs.mono hl) _ hm;obtain ⟨v2,e2,f2⟩:=r.ev (K.hgs.mono hl) _ hkv;rw [bN] at f1 f2;rw [f1.1] at e1;rw [f2.1] at e2;obtain ⟨L',q1,q2⟩:=q.perm i.perm;have q1':=q1;obtain ⟨M,L2,rfl,⟨hlen,vs,hvs,rfl⟩,q4⟩:=q1;have hl2:nks.length=vs.length:=by rw [hlen,hvs.len]
 obtain ⟨u,hu,hux⟩:=hvs.at hx;have hfn:=hN (b:=0) (i:=0) hl2 hf;simp only [hu,af8] at hfn;refine V.perm (q2.append_right _) ?_;refine V.ck (C:=K.cfg) (n:=nks.length) (es:=⟨eZ nks vs 0⟩) (L2:=L2++K.G) (aR r hg) ho e1 e2 ht htd hkt hkd hfn hd (cE r hc) T ?_;refine V.perm (q2.symm.append_right _) ?_;refine next.run h _ L hl ⟨r.1.put ?_,r.2⟩ q
 cases c with
 |false=>exact hux |true=>exact kT.2 ⟨_,rfl,aJ.2 ⟨_,_,rfl,hux,aJ.2 ⟨_,_,rfl,bN.2 ⟨rfl,rfl⟩,aP.2 T⟩⟩⟩
theorem A.aw{all:Array Oper}{o:Oper}{l:List Oper}{ks:List (Nat×Bool)}{t kt et:TypeId}{ti ki:TI}{m ky:Operand}{b d:Nat}{c:Bool}{kv:Value}{nks:List Value}{xs:List AV}{v:Value}{Λ':List aH}
 (hg:bL E all o.guard=some ks) (ho:o.op= .lookup t m ky c) (hm:E.ev K.gs ks m=some (.v (.map (some b)))) (hkv:E.ev K.gs ks ky=some (.v kv)) (ht:K.S.get t=some ti) (htd:ti.d= .map kt et) (hkt:K.S.get kt=some ki) (hkd:CR ki.d=true) (hz:(K.P.info? et).bind (fun x=>x.zero)=some v) (hone:gU v=true)
 [i:AMp Λ b nks xs Λ'] (hf:qE ki.d kv nks=some none) (hd:o.dst=some d) (hc:cP K.n E d=true) (next:A K (.ops all l::k) ⟨(d,if c then .tp [.v v, .v (.bool false)] else .v v)::E.us,E.cs⟩ Λ):A K (.ops all (o::l)::k) E Λ:=by
 refine ⟨fun h e L hl r q=>?_⟩;obtain ⟨v1,e1,f1⟩:=r.ev (K.hgs.mono hl) _ hm;obtain ⟨v2,e2,f2⟩:=r.ev (K.hgs.mono hl) _ hkv;rw [bN] at f1 f2;rw [f1.1] at e1;rw [f2.1] at e2;obtain ⟨L',q1,q2⟩:=q.perm i.perm;obtain ⟨M,L2,rfl,⟨hlen,vs,hvs,rfl⟩,q4⟩:=q1;have hl2:nks.length=vs.length:=by rw [hlen,hvs.len]
 have hfn:=hN (b:=0) (i:=0) hl2 hf;refine V.perm (q2.append_right _) ?_;refine V.aw (C:=K.cfg) (n:=nks.length) (es:=⟨eZ nks vs 0⟩) (L2:=L2++K.G) (aR r hg) ho e1 e2 ht htd hkt hkd hz hfn hd (cE r hc) T ?_;refine V.perm (q2.symm.append_right _) ?_;refine next.run h _ L hl ⟨r.1.put ?_,r.2⟩ q
 cases c with
 |false=>exact bN.2 ⟨rfl,hone⟩ |true=>exact kT.2 ⟨_,rfl,aJ.2 ⟨_,_,rfl,bN.2 ⟨rfl,hone⟩,aJ.2 ⟨_,_,rfl,bN.2 ⟨rfl,rfl⟩,aP.2 T⟩⟩⟩
theorem A.gm{all:Array Oper}{o:Oper}{l:List Oper}{ks:List (Nat×Bool)}{op:BinOp}{t ty kt et:TypeId}{ti:TI}{x:Operand}{p:Option Nat}{d:Nat}
 (hg:bL E all o.guard=some ks) (ho:o.op= .binOp op t x (.const (.map none)) ty) (hop:op= .eql) (hx:E.ev K.gs ks x=some (.v (.map p))) (ht:K.S.get t=some ti) (hdd:ti.d= .map kt et) (hd:o.dst=some d) (hc:cP K.n E d=true)
 (next:A K (.ops all l::k) ⟨(d, .v (.bool p.isNone))::E.us,E.cs⟩ Λ):A K (.ops all (o::l)::k) E Λ:=by
 refine ⟨fun h e L hl r q=>?_⟩;obtain ⟨v1,e1,f1⟩:=r.ev (K.hgs.mono hl) _ hx;rw [bN] at f1;rw [f1.1] at e1;subst hop
 refine V.an (C:=K.cfg) (v:= .bool p.isNone) (aR r hg) (fun ac w g s hk=>?_) (by rw [hd];exact fY (cE r hc))
  (next.run h ⟨(d, .bool p.isNone)::e.us,e.cs⟩ L hl ⟨r.1.put (bN.2 ⟨rfl,rfl⟩),r.2⟩ q)
 have ok:=TT.Ok.get K.ok ht;have:=run_eql_map_nil (P:=K.P) w t kt et p (by rw [ok.und,hdd]);unfold execOp;rw [ho];have e3:ac.eval (.const (.map none))= .map none:=rfl;have hgd:(eqGuard .eql t x (.const (.map none)) (.map p) (.map none)).run K.P w= .ok () w:=gD T;show am5 K.P _ w=_;simp only [g.ev hk e1,e3,ab8,hgd,this,ab1,ac5]
end
theorem xF{B:List Value}: ∀(cs:List Value) (k n:Nat) {r:List Value},jI cs k n=some r->jI (cs++B) k n=some r
 | [],0,0,r,h=>by cases B<;>exact h |_::_,0,0,r,h=>h
 | [],k+1,0,r,h=>by simp [jI] at h | [],0,n+1,r,h=>by simp [jI] at h
 | [],k+1,n+1,r,h=>by simp [jI] at h |c::cs,0,n+1,r,h=>by
  rw [ad4];simp only [jI] at h⊢;split at h
  ·rename_i r' hr;rw [xF cs 0 n hr];exact h
  ·cases h
 |_::cs,k+1,0,r,h=>by rw [ad4];simp only [jI] at h⊢;exact xF cs k 0 h
 |_::cs,k+1,n+1,r,h=>by rw [ad4];simp only [jI] at h⊢;exact xF cs k (n+1) h
theorem QP{cs B:List Value}{k n:Nat}{r:List Value}(h:jI cs k n=some r): ∀A:List Value,jI (A++(cs++B)) (A.length+k) n=some r
 | []=>by rw [List.nil_append,af5,ag9];exact xF cs k n h |a::A=>by
  rw [ad4,ab7,show A.length+1+k=(A.length+k)+1 by omega];have e:jI (a::(A++(cs++B))) ((A.length+k)+1) n=jI (A++(cs++B)) (A.length+k) n:=by cases n<;>simp only [jI]
  rw [e];exact QP h A
theorem WQ{ti:TI}{A B cs:List Value}{b b' o0 k0:Nat}{v:Value}(h:IW ti ⟨b',0,cs,none⟩ k0=some v):IW ti ⟨b,o0,A++(cs++B),none⟩ (o0+A.length+k0)=some v:=by
 have h0:Nat.ble 0 k0=true:=by cases k0<;>rfl
 have hle:Nat.ble o0 (o0+A.length+k0)=true:=Nat.ble_eq_true_of_le (by omega);simp only [IW,h0,hle,Nat.sub_zero,show o0+A.length+k0-o0=A.length+k0 by omega] at h⊢;unfold uH at h⊢;split at h
 ·split at h
  ·rename_i r hr;rw [QP hr A];exact h
  ·cases h
 ·rw [cZ] at h⊢;have hk:k0<cs.length:=(aa8.1 h).1;rw [ae7 (by omega),show A.length+k0-A.length=k0 by omega,ae6 hk];exact h
theorem GK{zs:List Value}{i:Nat}{z0:Value}(sp:List Value)(hz0:zs[i]? =some z0):bJ zs++sp=bJ (zs.take i)++(aM z0++(bJ (zs.drop (i+1))++sp)):=by
 have hi:i<zs.length:=(aa8.1 hz0).1;have hzs:zs=zs.take i++z0::zs.drop (i+1):=by have:=ae3 i zs;rw [aj5 hi] at this;rw [aa7 hi] at hz0;injection hz0 with hz0;rw [hz0] at this;exact this.symm
 conv=>lhs;rw [hzs]
 rw [pW,ab2];congr 1;show (aM z0++bJ (zs.drop (i+1)))++sp=_;rw [ab2]
section
variable{K:AC}{k:List It}{E:aO}{Λ:List aH}
theorem A.al{all:Array Oper}{o:Oper}{l:List Oper}{ks:List (Nat×Bool)}{t:TypeId}{p:Operand}{b sz off:Nat}(i k0:Nat){xs:List AV}{ti:TI}{x y:AV}{E':aO}
 (hg:bL E all o.guard=some ks) (ho:o.op= .load t p) (hp:E.ev K.gs ks p=some (.v (.pointer (some ⟨b,off,none⟩)))) (ht:K.S.get t=some ti) (n c o0:Nat) [j:ARow Λ (.slice (some ⟨b,o0,none⟩) n c) sz xs] (hoff:off=o0+i*sz+k0)
 (hx:xs[i]? =some x) (hld:M5 ti x k0=some y) (hput:E.put K.n none o.dst y=some E') (next:A K (.ops all l::k) E' Λ):A K (.ops all (o::l)::k) E Λ:=by
 subst hoff;refine ⟨fun h e L hl r q=>?_⟩;obtain ⟨v1,e1,f1⟩:=r.ev (K.hgs.mono hl) _ hp;rw [bN] at f1;rw [f1.1] at e1;obtain ⟨M,m1,pp,⟨a,cap',zs,g1,g2,g3,g4,g5⟩,rfl⟩:=q.mem j.mem;injection g1 with g1 g1' g1'';subst g1;subst g1';subst g1'';rcases g5 with ⟨g5,_⟩|⟨b',off',sp,g6,rfl,g9⟩
 ·subst g5;cases hx
 ·injection g6 with g6;injection g6 with g6 g7;subst g6;subst g7;obtain ⟨z0,hz0,hr0⟩:=g3.rp.at hx;obtain ⟨v,s1,s2⟩:=sC (b:=b) hr0 hld;have hzl:zs.length=xs.length:=g3.rp.len;have hi:i<xs.length:=(aa8.1 hx).1;have hA:(bJ (zs.take i)).length=i*sz:=by rw [(g3.takeN i).fl,ac1,ah6 (by omega)]
  have hv:IW ti ⟨b,o0,bJ zs++sp,none⟩ (o0+i*sz+k0)=some v:=by rw [GK sp hz0,<-hA];exact WQ s1
  obtain ⟨e',e5,e6⟩:=cO r hput s2;exact V.ec (C:=K.cfg) (aR r hg) ho e1 ht (i:=⟨ad6 _ (m1 _ (ab0.2 T)),rfl⟩) hv e5 (next.run h e' L hl e6 q)
end
section
variable{K:AC}{all:Array Oper}{m:Nat}{k:List It}{pubs:Nat->List Nat}{Y:Ua}{π:List Nat}{E:aO}{Λ:List aH}{D:Da}
theorem WA.ew(t:Nat){b o0 n c sz i:Nat}(hx:cF E.us t=some (.ep (.slice (some ⟨b,o0,none⟩) n c) sz i))(next:WA K all m k pubs Y π ⟨(t, .v (.pointer (some ⟨b,o0+i*sz,none⟩)))::E.us,E.cs⟩ Λ D):WA K all m k pubs Y π E Λ D:=by
 refine ⟨fun h e L Es hl r q d=>?_⟩;rcases r.1.look t with ⟨y,v,e1,e2,e3⟩|⟨e1,e2⟩
 ·rw [hx] at e1;injection e1 with e1;subst e1;rw [tX] at e3;obtain ⟨b',o',n',c',e4,_,e5⟩:=e3;injection e4 with e4;injection e4 with e4;injection e4 with e6 e7;subst e6;subst e7;subst e5;exact WE.val (G:=cD K.cfg all (L++K.G) pubs (YA Y) m k) t e2 T (next.run h ⟨(t,_)::e.us,e.cs⟩ L Es hl ⟨r.1.put (bN.2 ⟨rfl,rfl⟩),r.2⟩ q d)
 ·rw [hx] at e1;cases e1
theorem WA.al{i0:Nat}{o:Oper}{ks:List (Nat×Bool)}{t:TypeId}{p:Operand}{b sz off:Nat}(i k0:Nat){xs:List AV}{ti:TI}{x y:AV}{E':aO}(hi0:cR all.toList i0=some o)
 (hg:bL E all o.guard=some ks) (ho:o.op= .load t p) (hp:E.ev K.gs ks p=some (.v (.pointer (some ⟨b,off,none⟩)))) (ht:K.S.get t=some ti) (n c o0:Nat) [j:ARow Λ (.slice (some ⟨b,o0,none⟩) n c) sz xs] (hoff:off=o0+i*sz+k0)
 (hx:xs[i]? =some x) (hld:M5 ti x k0=some y) (hput:E.put K.n none o.dst y=some E') (next:WA K all m k pubs Y π E' Λ D):WA K all m k pubs Y (i0::π) E Λ D:=by
 subst hoff;refine ⟨fun h e L Es hl r q d=>?_⟩;obtain ⟨v1,e1,f1⟩:=r.ev (K.hgs.mono hl) _ hp;rw [bN] at f1;rw [f1.1] at e1;obtain ⟨M,m1,pp,⟨a,cap',zs,g1,g2,g3,g4,g5⟩,rfl⟩:=q.mem j.mem;injection g1 with g1 g1' g1'';subst g1;subst g1';subst g1'';rcases g5 with ⟨g5,_⟩|⟨b',off',sp,g6,rfl,g9⟩
 ·subst g5;cases hx
 ·injection g6 with g6;injection g6 with g6 g7;subst g6;subst g7;obtain ⟨z0,hz0,hr0⟩:=g3.rp.at hx;obtain ⟨v,s1,s2⟩:=sC (b:=b) hr0 hld;have hzl:zs.length=xs.length:=g3.rp.len;have hi:i<xs.length:=(aa8.1 hx).1;have hA:(bJ (zs.take i)).length=i*sz:=by rw [(g3.takeN i).fl,ac1,ah6 (by omega)]
  have hv:IW ti ⟨b,o0,bJ zs++sp,none⟩ (o0+i*sz+k0)=some v:=by rw [GK sp hz0,<-hA];exact WQ s1
  obtain ⟨e',e4,e5⟩:=cO r hput s2;exact WE.an (G:=cD K.cfg all (L++K.G) pubs (YA Y) m k) hi0 (A8 ho) (aR r hg) (fun a w E0 g s hk=>by have:=nF (TT.Ok.get K.ok ht) (s.own ⟨b,o0,bJ zs++sp,none⟩ (List.mem_append_right _ (ad6 _ (m1 _ (ab0.2 T))))) T hv;unfold execOp;rw [ho];have this:am5 K.cfg.P (Instr.loadAt t (Value.pointer (some ⟨b,o0+i*sz+k0,none⟩))) w= .ok v w:=this;simp only [g.ev hk e1,ab8,this,ab1,ac5]) e4 (next.run h e' L Es hl e5 q d)
end
end Go.Tp
namespace Go.Tp
open Go Go.RowKit
section
variable{K:AC}{k:List It}{E:aO}{Λ:List aH}
theorem A.av(sz:Nat)(next:A K k E (.row sz (.slice none 0 0) []::Λ)):A K k E Λ:=by refine ⟨fun h e L hl r q=>?_⟩;have hr0: ∃p,oM h sz (.slice none 0 0) [] p/\[(⟨0,0,[],none⟩:bV)]=[p]:=⟨⟨0,0,[],none⟩,⟨none,0,[],rfl,aa4 _,⟨(by rw [aP]),(fun z hz=>by cases hz),(fun z hz=>by cases hz)⟩,rfl, .inl ⟨rfl,rfl,rfl,fun y hy=>by cases hy⟩⟩,rfl⟩;exact V.empty (next.run h e (_::L) hl r (.one hr0 q))
theorem A.gx(t:Nat){x x':AV}(hx:cF E.us t=some x)(hr: ∀(h:GH) z,Rp h x z->Rp h x' z)(next:A K k ⟨(t,x')::E.us,E.cs⟩ Λ):A K k E Λ:=by
 refine ⟨fun h e L hl r q=>?_⟩;rcases r.1.look t with ⟨y,v,e1,e2,e3⟩|⟨e1,e2⟩
 ·rw [hx] at e1;injection e1 with e1;subst e1;exact V.val t e2 T (next.run _ ⟨(t,v)::e.us,e.cs⟩ L hl ⟨r.1.put (hr _ _ e3),r.2⟩ q)
 ·rw [hx] at e1;cases e1
end
end Go.Tp
namespace Go.Proofs.YtenkjmjejhhdjaaGreat
open Go Go.Tp
theorem A7(l:List Int)(v:Int)(hb:l.length<=281474976710656):Pure prog aU 44 [aQ l,AI v] (AB (l.contains v)):=by have h1:=B6 l v hb;refine P_ func44 8 fun _ _ _ _=>?_;refine y_ ?_;exact oR h1
theorem HG(l:List Int)(v:Int)(hb:l.length<=281474976710656):Pure prog aU 56 [aQ l,AI v] (AB (l.contains v)):=by
 have nl:((l.map AI).length:Int)=l.length:=by rw [aa0]
 refine eX (l.contains v) fun R hR=>?_;rw [<-hR];refine P_ func56 18 fun _ _ _ _=>?_;refine y_ ?_;refine A.af [0,1,5] T ?_;refine A.ae (ι:=Nat) (fun i=>(⟨[(0,aQ l),(1,AI v),(5,AI (i:Nat))],[]⟩,[])) (fun i=>i<=l.length/\R=(l.drop i).contains v) (fun i=>l.length-i) 0 ⟨aa4 _,hR⟩ T fun i hi ih=>?_;obtain ⟨hi1,hi2⟩:=hi;refine y_ ?_
 by_cases hci:i<l.length
 ·refine aX hci fun x hx=>?_;have hdx:l.drop i=x::l.drop (i+1):=by
   obtain ⟨h1,h2⟩:=aa8.1 hx;rw [aj5 h1,h2]
  rw [hdx,List.contains_cons] at hi2;refine T_ T (by show decide ((i:Int)<((l.map AI).length:Int))=true;rw [nl,dT];omega) ?_;refine i_ T (aC hx) T ?_
  by_cases hxv:x=v
  ·refine T_ T (by show (x==v)=true;rw [hxv];simp) ?_;refine R_ ?_;rw [hi2,hxv];refine Sb.eq (aA ?_);simp
  ·refine F_ T (by show (x==v)=false;simpa using hxv) ?_;refine vI 5 i ?_;refine u_ (ih (i+1) ⟨by omega,by rw [hi2,show (v==x)=false by simpa using fun e=>hxv e.symm];rfl⟩ (by omega))
 ·refine F_ T (by show decide ((i:Int)<((l.map AI).length:Int))=false;rw [nl,dF];omega) ?_;refine R_ ?_;rw [hi2,ad3 (by omega)];exact .refl
abbrev fS(t:TR)(op:List Int)(f:Nat):AV:= .ag [lI t,aQ op,AI (f:Nat)]
theorem MS(t:TR)(op:List Int)(f n:Nat)(hn:n<=t.length):Pure prog aU 86 [fS t op f,AI (n:Nat)] (fS (t.drop n) op f):=by
 have nt:=iS t;refine P_ func86 14 fun _ _ _ _=>?_;refine b_ fun b2=>?_;refine A.b T fun b4=>?_;(repeat refine A.s T ?_);refine d_ 9 [0,1,2,3,4,5,6,7,8] [] ?_;refine WA.slice (ys:=(t.drop n).map jK) T T T T T T T T T T (by show (0:Int)<=(n:Nat);omega) (by show ((n:Nat):Int)<=((t.map jK).length:Int);rw [nt];omega) (Int.le_refl _) (by show ((t.map jK).drop ((n:Nat):Int).toNat).take (((t.map jK).length:Int).toNat-((n:Nat):Int).toNat)=_;rw [ac7,ac7,ap8,aa6 (by rw [ad7];exact ab3 _)]) T ?_
 refine w_ ?_;refine z_ ?_;refine C_ ?_;exact .refl
theorem GB(t:TR)(ch:List Int){i:Nat}{e:EL}(h:t[i]? =some e):bX (t.take (i+1)) ch=if ch.contains e.1 then bX (t.take i) ch++[e] else bX (t.take i) ch:=by unfold bX;rw [ac9,h,ag5];show List.filter _ (t.take i)++List.filter _ [e]=_;rw [aj2];split<;>simp
theorem sM(t:TR)(ch:List Int):(bX t ch).length<=t.length:=ah4 ..
theorem only_p(t:TR)(ch:List Int)(ht:t.length<=1048576)(hc:ch.length<=281474976710656):Pure prog aU 89 [lI t,aQ ch] (lI (bX t ch)):=by
 have nt:=iS t;refine P_ func89 24 fun _ _ _ _=>?_;refine y_ ?_;refine A.bo 5 2 T fun z0=>?_;refine A.aa 9 T (x':=AI (t.length:Nat)) (aL nt) ?_;refine A.af [1,5,8,9,10] T ?_;refine A.ae (ι:=Nat×Value) (fun u=>(⟨[(1,aQ ch),(5, .ms u.2 2 (bX (t.take u.1) ch).length),(8,lI t),(9,AI (t.length:Nat)),(10,AI (u.1:Nat))],[]⟩,[.row 2 u.2 ((bX (t.take u.1) ch).map jK)])) (fun u=>u.1<=t.length) (fun u=>t.length-u.1) (0,z0) (aa4 _) T fun u hu ih=>?_;obtain ⟨i,z⟩:=u;simp only at hu;have hol:(bX (t.take i) ch).length<=t.length:=ae9 (sM _ _) (by rw [ac1];omega);refine y_ ?_
 by_cases hci:i<t.length
 ·refine aX hci fun e he=>?_;have hs:=GB t ch he;have hh:=A7 ch e.1 hc;refine T_ T (by show decide ((i:Int)<(t.length:Nat))=true;rw [dT];omega) ?_;refine j_ T (aC he) T ?_;refine b_ fun b7=>?_;refine y_ ?_;refine c_ hh ?_
  by_cases hce:ch.contains e.1=true
  ·rw [iT hce] at hs;refine A.gT T hce ?_;refine t_ fun bl=>?_;refine A.aj T T T T T T T T T T T T T T (by show (((bX (t.take i) ch).map jK).length+1)*2<=_;rw [aa0];omega) (by show (((bX (t.take i) ch).map jK).length+1)*2*16<=_;rw [aa0];omega) fun z2=>?_;refine y_ ?_;refine vI 10 i ?_;refine A.aa 5 T (x':= .ms z2 2 (bX (t.take (i+1)) ch).length) (by rw [hs,aa1,aa0];rfl) ?_;refine l_ (Λ':=[.row 2 z2 ((bX (t.take i) ch).map jK++[jK e])]) ?_;refine A.ab (Λ':=[.row 2 z2 ((bX (t.take (i+1)) ch).map jK)]) (by rw [hs,ac0];rfl) ?_;refine u_ (ih (i+1,z2) (by show i+1<=_;omega) (by show _-(i+1)<_-i;omega))
  ·rw [iF hce] at hs;refine F_ T (by simpa using hce) ?_;refine vI 10 i ?_;refine A.aa 5 T (x':= .ms z 2 (bX (t.take (i+1)) ch).length) (by rw [hs]) ?_;refine l_ (Λ':=[.row 2 z ((bX (t.take i) ch).map jK)]) ?_;refine A.ab (Λ':=[.row 2 z ((bX (t.take (i+1)) ch).map jK)]) (by rw [hs]) ?_;refine u_ (ih (i+1,z) (by show i+1<=_;omega) (by show _-(i+1)<_-i;omega))
 ·refine A.gF T (by show decide ((i:Int)<(t.length:Nat))=false;rw [dF];omega) ?_;clear ih;have hie:i=t.length:=by omega
  subst hie;refine A.aa 5 T (x':= .ms z 2 (bX t ch).length) (by rw [ac4]) ?_;refine A.ab (Λ':=[.row 2 z ((bX t ch).map jK)]) (by rw [ac4]) ?_;refine A.ar 5 T ?_;exact tV
theorem a0L(t:TR)(ch:List Int)(ht:t.length<=1048576)(hc:ch.length<=281474976710656):Pure prog aU 102 [lI t,aQ ch] (lI (bX t ch)):=by
 have nt:=iS t;refine P_ func102 28 fun _ _ _ _=>?_;refine y_ ?_;refine A.bo 5 2 T fun z0=>?_;refine A.af [0,1,5,6] T ?_;refine A.ae (ι:=Nat×Value) (fun u=>(⟨[(0,lI t),(1,aQ ch),(5, .ms u.2 2 (bX (t.take u.1) ch).length),(6,AI (u.1:Nat))],[]⟩,[.row 2 u.2 ((bX (t.take u.1) ch).map jK)])) (fun u=>u.1<=t.length) (fun u=>t.length-u.1) (0,z0) (aa4 _) T fun u hu ih=>?_;obtain ⟨i,z⟩:=u;simp only at hu;have hol:(bX (t.take i) ch).length<=t.length:=ae9 (sM _ _) (by rw [ac1];omega);refine y_ ?_
 by_cases hci:i<t.length
 ·refine aX hci fun e he=>?_;have hs:=GB t ch he;have hh:=HG ch e.1 hc;refine T_ T (by show decide ((i:Int)<((t.map jK).length:Int))=true;rw [nt,dT];omega) ?_;refine i_ T (aC he) T ?_;refine c_ hh ?_
  by_cases hce:ch.contains e.1=true
  ·rw [iT hce] at hs;refine T_ T hce ?_;refine j_ T (aC he) T ?_;refine t_ fun bl=>?_;refine A.aj T T T T T T T T T T T T T T (by show (((bX (t.take i) ch).map jK).length+1)*2<=_;rw [aa0];omega) (by show (((bX (t.take i) ch).map jK).length+1)*2*16<=_;rw [aa0];omega) fun z2=>?_;refine y_ ?_;refine vI 6 i ?_;refine A.aa 5 T (x':= .ms z2 2 (bX (t.take (i+1)) ch).length) (by rw [hs,aa1,aa0];rfl) ?_;refine A.ab (Λ':=[.row 2 z2 ((bX (t.take (i+1)) ch).map jK)]) (by rw [hs,ac0];rfl) ?_;refine u_ (ih (i+1,z2) (by show i+1<=_;omega) (by show _-(i+1)<_-i;omega))
  ·rw [iF hce] at hs;refine F_ T (by simpa using hce) ?_;refine vI 6 i ?_;refine A.aa 5 T (x':= .ms z 2 (bX (t.take (i+1)) ch).length) (by rw [hs]) ?_;refine A.ab (Λ':=[.row 2 z ((bX (t.take (i+1)) ch).map jK)]) (by rw [hs]) ?_;refine u_ (ih (i+1,z) (by show i+1<=_;omega) (by show _-(i+1)<_-i;omega))
 ·refine A.gF T (by show decide ((i:Int)<((t.map jK).length:Int))=false;rw [nt,dF];omega) ?_;clear ih;have hie:i=t.length:=by omega
  subst hie;refine A.aa 5 T (x':= .ms z 2 (bX t ch).length) (by rw [ac4]) ?_;refine A.ab (Λ':=[.row 2 z ((bX t ch).map jK)]) (by rw [ac4]) ?_;refine A.ar 5 T ?_;exact tV
abbrev b8(x:Int):Int:=IntKind.u8.wrap x
def jF(x:Int):List Int:=[b8 x,b8 (x.fdiv 256),b8 (x.fdiv 65536),b8 (x.fdiv 16777216)]
def WK(e:fK):List Int:=[b8 (e.1:Nat),b8 (((e.1:Nat):Int).fdiv 256)]++e.2.flatMap fun r=>r.flatMap jF
def M4(e:fK):List UInt8:=(WK e).map fun n=>UInt8.ofNat n.toNat
theorem UM(x:Int):b8 x=x % 256:=by unfold b8 IntKind.wrap;simp [IntKind.bits,IntKind.signed]
theorem UN(x:Int):0<=b8 x/\b8 x<256:=by rw [UM];omega
theorem WL{x y:Int}(hx:i32 x)(hy:i32 y)(h:jF x=jF y):x=y:=by unfold jF at h;unfold i32 at hx hy;simp only [List.cons.injEq,UM,and_true] at h;obtain ⟨h1,h2,h3,h4⟩:=h;rw [ah8 _ (by decide),ah8 _ (by decide)] at h2 h3 h4;omega
theorem J3: ∀{r q:List Int},(∀x,x∈r->i32 x)->(∀x,x∈q->i32 x)->r.length=q.length->r.flatMap jF=q.flatMap jF->r=q
 | [],[],_,_,_,_=>rfl | [],_::_,_,_,h,_=>by simp at h
 |_::_,[],_,_,h,_=>by simp at h |x::r,y::q,hr,hq,hl,h=>by rw [af1,af1] at h;obtain ⟨h1,h2⟩:=au0 h (by rfl);rw [WL (hr x (.head _)) (hq y (.head _)) h1,J3 (fun z hz=>hr z (.tail _ hz)) (fun z hz=>hq z (.tail _ hz)) (by simpa using hl) h2]
theorem sA: ∀r:List Int,(r.flatMap jF).length=4*r.length
 | []=>rfl |x::r=>by rw [af1,aa1,sA r,ab7];show 4+_=_;omega
theorem CS: ∀{s u:bA},TX s->TX u->s.length=u.length->(∀(i:Nat) r q,s[i]? =some r->u[i]? =some q->r.length=q.length)->(s.flatMap fun r=>r.flatMap jF)=(u.flatMap fun r=>r.flatMap jF)->s=u
 | [],[],_,_,_,_,_=>rfl | [],_::_,_,_,h,_,_=>by simp at h
 |_::_,[],_,_,h,_,_=>by simp at h |r::s,q::u,hs,hu,hl,hr,h=>by rw [af1,af1] at h;have h0:=hr 0 r q T T;obtain ⟨h1,h2⟩:=au0 h (by rw [sA,sA,h0]);rw [J3 (hs r (.head _)) (hu q (.head _)) h0 h1,CS (fun z hz=>hs z (.tail _ hz)) (fun z hz=>hu z (.tail _ hz)) (by simpa using hl) (fun i a b ha hb=>hr (i+1) a b ha hb) h2]
theorem Y2: ∀{l m:List Int},(∀x,x∈l->0<=x/\x<256)->(∀x,x∈m->0<=x/\x<256)->(l.map fun n=>UInt8.ofNat n.toNat)=(m.map fun n=>UInt8.ofNat n.toNat)->l=m
 | [],[],_,_,_=>rfl | [],_::_,_,_,h=>by simp at h
 |_::_,[],_,_,h=>by simp at h |x::l,y::m,hl,hm,h=>by
  rw [af6,af6] at h;injection h with h1 h2;have hx:=hl x (.head _);have hy:=hm y (.head _);have e:=congrArg UInt8.toNat h1;rw [UInt8.toNat_ofNat',UInt8.toNat_ofNat'] at e;have:x=y:=by omega
  rw [this,Y2 (fun z hz=>hl z (.tail _ hz)) (fun z hz=>hm z (.tail _ hz)) h2]
theorem PE(e:fK): ∀x,x∈WK e->0<=x/\x<256:=fun x hx=>by
 unfold WK at hx;rcases ad8.1 hx with hx|hx
 ·rcases ab6.1 hx with rfl|hx
  ·exact UN _
  ·rw [ab0.1 hx];exact UN _
 ·obtain ⟨r,_,hx⟩:=ai4.1 hx;obtain ⟨y,_,hx⟩:=ai4.1 hx;unfold jF at hx;simp only [ab6,List.not_mem_nil,or_false] at hx;rcases hx with rfl|rfl|rfl|rfl<;>exact UN _
abbrev IU(V:List KV)(s:bA):Prop:=bI V s
theorem iD{V:List KV}{s:bA}(h:AQ V s=true):s.length=V.length/\ ∀(i:Nat) v r,V[i]? =some v->s[i]? =some r->(r.length:Int)=eP v:=by unfold AQ at h;simp only [aa3,dT] at h;obtain ⟨⟨h1,_⟩,h2⟩:=h;refine ⟨h1,fun i v r hv hr=>?_⟩;simp only [allEq,ae5,ah5] at h2;have h3:=h2 i (by have:=(aa8.1 hr).1;omega);rw [hv,hr] at h3;unfold vA at h3;simp only [aa3,beq_iff_eq] at h3;exact h3.1
theorem YJ{V:List KV}{s u:bA}(hs:AQ V s=true)(hu:AQ V u=true):s.length=u.length/\ ∀(i:Nat) r q,s[i]? =some r->u[i]? =some q->r.length=q.length:=by
 obtain ⟨a1,a2⟩:=iD hs;obtain ⟨b1,b2⟩:=iD hu;refine ⟨by omega,fun i r q hr hq=>?_⟩;have hi:i<V.length:=by rw [<-a1];exact (aa8.1 hr).1
 have e1:=a2 i _ r (aa7 hi) hr;have e2:=b2 i _ q (aa7 hi) hq;omega
theorem key_inj{V:List KV}{a b:fK}(ha:IU V a.2)(hb:IU V b.2)(h1:a.1<=256)(h2:b.1<=256)(h:M4 a=M4 b):a=b:=by
 have hk:=Y2 (PE a) (PE b) h;unfold WK at hk;obtain ⟨k1,k2⟩:=au0 hk rfl;simp only [List.cons.injEq,UM,and_true] at k1;obtain ⟨k3,k4⟩:=k1;rw [ah8 _ (by decide),ah8 _ (by decide)] at k4;obtain ⟨e1,e2⟩:=YJ ha.may hb.may;have e3:=CS ha.ws hb.ws e1 e2 k2;obtain ⟨a1,a2⟩:=a;obtain ⟨b1,b2⟩:=b;simp only at*;have:a1=b1:=by omega
 rw [this,e3]
theorem UZ(a b:ByteArray):(a==b)=decide (a=b):=by obtain ⟨x⟩:=a;obtain ⟨y⟩:=b;have h:(ByteArray.mk x==ByteArray.mk y)=(x==y):=rfl;rw [h,ac8,dT,beq_iff_eq];exact ⟨fun h=>by rw [h],fun h=>by injection h⟩
theorem BS_inj{a b:List UInt8}(h:BS a=BS b):a=b:=by injection h with h;simpa using h
abbrev cT(e:fK):AV:= .ag [AI (e.1:Nat),aF e.2]
abbrev uX(e:fK):Value:= .string (BS (M4 e))
structure jL(V:List KV)(l:List fK):Prop where
 shp: ∀e,e∈l->IU V e.2/\e.1<=256
theorem jL.tail{V:List KV}{x:fK}{l:List fK}(h:jL V (x::l)):jL V l:=⟨fun e he=>h.shp e (.tail _ he)⟩
theorem QB{V:List KV}{e:fK}(he:IU V e.2/\e.1<=256): ∀{l:List fK},jL V l->(e∈l-> ∃p,qE .string (uX e) (l.map uX)=some (some p)/\p<l.length)/\(e∉l->qE .string (uX e) (l.map uX)=some none)
 | [],_=>⟨fun h=>(by cases h),fun _=>rfl⟩ |x::l,h=>by
  obtain ⟨i1,i2⟩:=QB he h.tail;have hx:=h.shp x (.head _);have hs:Instr.sameNow .string (uX e) (uX x)=some (decide (e=x)):=by show some (BS (M4 e)==BS (M4 x))=_;rw [UZ];congr 1;rw [ac8,dT,dT];exact ⟨fun hh=>key_inj he.1 hx.1 he.2 hx.2 (BS_inj hh),fun hh=>by rw [hh]⟩
  rw [af6,qE,hs]
  by_cases hex:e=x
  ·rw [decide_eq_true hex];exact ⟨fun _=>⟨0,rfl,by simp⟩,fun hn=>absurd (by rw [hex];exact aa5 ..) hn⟩
  ·rw [decide_eq_false hex];refine ⟨fun hm=>?_,fun hn=>?_⟩
   ·rcases ab6.1 hm with hm|hm
    ·exact absurd hm hex
    ·obtain ⟨p,hp,hpl⟩:=i1 hm;exact ⟨p+1,by simp only [hp],by simp;omega⟩
   ·have:=i2 fun hm=>hn (.tail _ hm);simp only [this]
abbrev rG(n:Nat):List AV:=(List.range n).map fun i=>AI (i:Nat)
theorem N8(n:Nat):rG n++[AI (n:Nat)]=rG (n+1):=by unfold rG;rw [ao1,ac0];rfl
def mapA(m:Nat):List fK->AV
 | []=> .v (.map none) |_::_=> .v (.map (some m))
def ES(m:Nat):List fK->List aH
 | []=>[] |x::l=>[.mp m ((x::l).map uX) (rG (x::l).length)]
abbrev yX(z:Value)(m:Nat)(r:RN):AV:= .ag [AI (r.reach:Nat), .ms z 2 r.ends.length,mapA m r.ends,AB r.miss]
abbrev nN(b:Nat)(z:Value)(m:Nat)(r:RN):List aH:= .box b (yX z m r):: .row 2 z (r.ends.map cT)::ES m r.ends
abbrev oI(r:RN):AV:= .ag [AI (r.reach:Nat), .sl 2 (r.ends.map cT) none, .un,AB r.miss]
abbrev k0(e:fK):List Int:=[b8 (e.1:Nat),b8 (((e.1:Nat):Int).fdiv 256)]
theorem key_p(e:fK)(h1:e.1<=1048576)(h2:e.2.length<=256)(h3: ∀r,r∈e.2->r.length<=64):Pure prog aU 126 [cT e] (AS (M4 e)):=by
 have ns:((e.2.map jU).length:Int)=e.2.length:=by rw [aa0]
 have hb: ∀i,((e.2.take i).flatMap fun r=>r.flatMap jF).length<=65536:=fun i=>by
  have: ∀l:List (List Int),(∀r,r∈l->r.length<=64)->(l.flatMap fun r=>r.flatMap jF).length<=256*l.length:=by
   intro l
   induction l with
   |nil=>intro _;simp |cons r l ih=>
    intro hl;rw [af1,aa1,sA,ab7];have:=ih fun q hq=>hl q (.tail _ hq);have:=hl r (.head _);omega
  have:=this (e.2.take i) fun r hr=>h3 r (ag0 hr);have h4:=ap2 i e.2;omega
 have hk2: ∀i,(k0 e++(e.2.take i).flatMap fun r=>r.flatMap jF).length<=65538:=fun i=>by rw [aa1];have:=hb i;show 2+_<=_;omega
 refine P_ func126 47 fun _ _ _ _=>?_;refine b_ fun b1=>?_;refine y_ ?_;refine A.shift T T T T T T (by decide) ?_;(repeat refine A.s T ?_);refine A.t T fun bl=>?_;(repeat refine A.s T ?_);refine A.aa 3 T (x':= .sl 1 ((k0 e++(e.2.take 0).flatMap fun r=>r.flatMap jF).map cC) (some (.slice (some ⟨bl,0,none⟩) 2 2))) T ?_;refine A.dz 1 2 (some ⟨bl,0,none⟩) (fun h=>by cases h) (fun x hx=>by injection hx with hx;subst hx;rfl) ?_;refine y_ ?_;refine A.aa 18 T (x':=AI (e.2.length:Nat)) (aL ns) ?_;refine A.af [3,17,18,19] T ?_;refine l_ (Λ':=[.tail 1 _]) ?_;refine A.ae (ι:=Nat×Value) (fun u=>(⟨[(3, .sl 1 ((k0 e++(e.2.take u.1).flatMap fun r=>r.flatMap jF).map cC) (some u.2)),(17,aF e.2),(18,AI (e.2.length:Nat)),(19,AI (u.1:Nat))],[]⟩,[.tail 1 u.2])) (fun u=>u.1<=e.2.length) (fun u=>e.2.length-u.1) (0, .slice (some ⟨bl,0,none⟩) 2 2) (aa4 _) T fun u hu ih=>?_;obtain ⟨i,z⟩:=u;simp only at hu;refine y_ ?_
 by_cases hci:i<e.2.length
 ·refine aX hci fun r hr=>?_;have hrl:=h3 r (aa2 hr);have nr:((r.map aN).length:Int)=r.length:=by rw [aa0]
  have htk:(e.2.take (i+1)).flatMap (fun r=>r.flatMap jF)=(e.2.take i).flatMap (fun r=>r.flatMap jF)++r.flatMap jF:=by rw [ac9,hr,aj6];simp
  have hk3:=hk2 i;refine T_ T (by show decide ((i:Int)<(e.2.length:Nat))=true;rw [dT];omega) ?_;refine i_ T (aC hr) T ?_;refine A.aa 24 T (x':=AI (r.length:Nat)) (aL nr) ?_;refine A.aa 3 T (x':= .sl 1 ((k0 e++(e.2.take i).flatMap (fun r=>r.flatMap jF)++(r.take 0).flatMap jF).map cC) (some z)) (by rw [ad1,List.flatMap_nil,aa9]) ?_;refine A.af [3,17,18,19,23,24,25] T ?_;refine A.ae (ι:=Nat×Value) (fun u=>(⟨[(3, .sl 1 ((k0 e++(e.2.take i).flatMap (fun r=>r.flatMap jF)++(r.take u.1).flatMap jF).map cC) (some u.2)),(17,aF e.2),(18,AI (e.2.length:Nat)),(19,AI (i:Nat)),(23,jU r),(24,AI (r.length:Nat)),(25,AI (u.1:Nat))],[]⟩,[.tail 1 u.2])) (fun u=>u.1<=r.length) (fun u=>r.length-u.1) (0,z) (aa4 _) T fun u hu2 jh=>?_;obtain ⟨j,z2⟩:=u;simp only at hu2;have hj4:((r.take j).flatMap jF).length<=256:=by rw [sA];have:=ap2 j r;omega
  refine A.aa 3 T (x':= .sl 1 ((k0 e++(e.2.take i).flatMap (fun r=>r.flatMap jF)++(r.take j).flatMap jF).map cC) (some z2)) T ?_;refine A.ab (Λ':=[.tail 1 z2]) T ?_;refine y_ ?_
  by_cases hcj:j<r.length
  ·refine aX hcj fun x hx=>?_;have htj:(r.take (j+1)).flatMap jF=(r.take j).flatMap jF++jF x:=by rw [ac9,hx,aj6];simp
   refine T_ T (by show decide ((j:Int)<(r.length:Nat))=true;rw [dT];omega) ?_;refine i_ T (aC hx) T ?_;refine A.shift T T T T T T (by decide) ?_;refine y_ ?_;refine A.shift T T T T T T (by decide) ?_;refine y_ ?_;refine A.shift T T T T T T (by decide) ?_;refine t_ fun bl=>?_;refine A.append (i:=by exact ATl.here) T T T T T T T T T T T T T T (by show (((k0 e++(e.2.take i).flatMap (fun r=>r.flatMap jF)++(r.take j).flatMap jF).map cC).length+4)*1<=_;rw [aa0,aa1];omega) fun z3=>?_;refine y_ ?_;refine vI 25 j ?_;refine A.aa 3 T (x':= .sl 1 ((k0 e++(e.2.take i).flatMap (fun r=>r.flatMap jF)++(r.take (j+1)).flatMap jF).map cC) (some z3)) (by rw [htj,<-ab2,ac0 (l₂:=jF x)];try rfl) ?_;refine l_ (Λ':=[.tail 1 z3]) ?_;refine u_ (jh (j+1,z3) (by show j+1<=_;omega) (by show _-(j+1)<_-j;omega))
  ·refine F_ T (by show decide ((j:Int)<(r.length:Nat))=false;rw [dF];omega) ?_;refine vI 19 i ?_;refine A.aa 3 T (x':= .sl 1 ((k0 e++(e.2.take (i+1)).flatMap fun r=>r.flatMap jF).map cC) (some z2)) (by rw [htk,aa6 (l:=r) (i:=j) (by omega),ab2]) ?_;refine u_ (ih (i+1,z2) (by show i+1<=_;omega) (by show _-(i+1)<_-i;omega))
 ·refine F_ T (by show decide ((i:Int)<(e.2.length:Nat))=false;rw [dF];omega) ?_;refine A.aa 45 T (x':= .sl 1 ((WK e).map fun n=> .v (.int .u8 n)) (some z)) (by rw [aa6 (by omega)];rfl) ?_;refine A.gi (s:=M4 e) T T T T T T T T T T T ?_;exact tV
structure rN(V:List KV)(r:RN):Prop where
 ends:jL V r.ends
 len:r.ends.length<=1048576
abbrev Q4(r:RN)(l:List fK):RN:=⟨r.reach,l,r.miss⟩
theorem dX{V:List KV}{s:bA}(h:IU V s):s.length<=256/\ ∀r,r∈s->r.length<=64:=C1 h.may
theorem BN{l:List fK}{e:fK}(h:e∈l):fF l e=l:=by unfold fF;rw [iT h]
theorem G1{l:List fK}{e:fK}(h:e∉l):fF l e=l++[e]:=by unfold fF;rw [iF h]
theorem F7(m:Nat)(l:List fK)(h:l≠[]):mapA m l= .v (.map (some m)):=by cases l with|nil=>exact absurd T h|cons x l=>rfl
theorem F8(m:Nat)(l:List fK)(h:l≠[]):ES m l=[.mp m (l.map uX) (rG l.length)]:=by cases l with|nil=>exact absurd T h|cons x l=>rfl
theorem A1{V:List KV}(b m:Nat)(z:Value)(r:RN)(h:rN V r)(e:fK)(he:IU V e.2/\e.1<=256):
 fB prog aU 81 [aT b,cT e] (nN b z m r) (fun _:Value×Nat=> .tp []) (fun u=>nN b u.1 u.2 (Q4 r (fF r.ends e))) (fun _=>True):=by
 obtain ⟨hs1,hs2⟩:=dX he.1;have hkey:=key_p e (by have:=he.2;omega) hs1 hs2;obtain ⟨p1,p2⟩:=QB he h.ends;have hlen:=h.len;have n1:(r.ends.map cT).length=r.ends.length:=aa0 ..;unfold fB
 by_cases hr0:r.ends=[]
 ·obtain ⟨rc,l,ms⟩:=r;simp only at hr0;subst hr0;refine jB.of (S:=tt) (fn:=f81) (n:=49) dE func81 T T T T fun w0 h0 F hgs=>?_;refine b_ fun b3=>?_;refine y_ ?_;refine A.gm T T T T T T T T ?_;refine y_ ?_;refine A.makeMap T T T T fun bm=>?_;refine y_ ?_;refine c_ hkey ?_;refine A.aw (c:=true) (v:= .int .i64 0) T T T T T T T T (by kernel_rfl) T T T T ?_;refine y_ ?_;refine d_ 10 [0,1,2,3,4,5,6,7,8,9] [] ?_;refine WA.nil (l:=[]) T ?_;refine A.ab (Λ':=[.mp bm [] [], .box b3 (cT e), .box b (.ag [AI (rc:Nat), .ms z 2 0, .v (.map (some bm)),AB ms]), .row 2 z []]) T ?_;refine A.cz T T T T T T T T T T T ?_;refine y_ ?_;refine A.cq [(7, .row 2 z [])] 8 [0,1,2,3,4,5,6,7] (fun i=>if i=7 then [7,6] else []) [] (c9 [3,0,1,2] T T T T) T T (by rfl) (by kernel_rfl) (by kernel_rfl) ?_;refine w_ ?_;refine WA.lit T T T T T T T fun bw=>?_;refine WA.dw T T T T T T T T T T T T T T T T T T T T (.pub (j:=6) T T (.sub .refl)) (by show (0+1)*2<=_;decide) (by show (0+1)*2*32<=_;decide) fun z2=>?_;refine WA.nil (l:=[_]) T ?_;refine y_ ?_;refine l_ (Λ':=[.row 2 z2 [cT e], .mp bm [uX e] [AI 0], .box b (yX z2 bm ⟨rc,[e],ms⟩)]) ?_;refine A.perm (Λ':=nN b z2 bm ⟨rc,[e],ms⟩) (c9 [2,0,1] T T T T) ?_;exact A.bp T T (.refl _) ⟨(z2,bm), .refl,rfl,trivial⟩
 ·have hml:=F8 m r.ends hr0;have hma:=F7 m r.ends hr0;have hln:=List.length_pos_iff.2 hr0;rw [show nN b z m r=[.box b (.ag [AI (r.reach:Nat), .ms z 2 r.ends.length, .v (.map (some m)),AB r.miss]), .row 2 z (r.ends.map cT), .mp m (r.ends.map uX) (rG r.ends.length)] by show .box b (yX z m r):: .row 2 z (r.ends.map cT)::ES m r.ends=_;rw [hml];show aH.box b (.ag [_,_,mapA m r.ends,_])::_=_;rw [hma]]
  by_cases hin:e∈r.ends
  ·obtain ⟨p,hp,hpl⟩:=p1 hin;refine jB.of (S:=tt) (fn:=f81) (n:=49) dE func81 T T T T fun w0 h0 F hgs=>?_;refine b_ fun b3=>?_;refine y_ ?_;refine A.gm T T T T T T T T ?_;refine y_ ?_;refine c_ hkey ?_;refine A.ck (c:=true) T T T T T T T T hp (x:=AI (p:Nat)) (by show (rG r.ends.length)[p]? =_;unfold rG;rw [ab5,List.getElem?_range hpl];rfl) T T ?_;refine y_ ?_;refine l_ (Λ':=[.box b (.ag [AI (r.reach:Nat), .ms z 2 r.ends.length, .v (.map (some m)),AB r.miss]), .row 2 z (r.ends.map cT), .mp m (r.ends.map uX) (rG r.ends.length)]) ?_;refine A.ab (Λ':=nN b z m r) (by show _= .box b (yX z m r):: .row 2 z (r.ends.map cT)::ES m r.ends;rw [hml];show _=aH.box b (.ag [_,_,mapA m r.ends,_])::_;rw [hma]) ?_;exact A.bp T T (.refl _) ⟨(z,m), .refl,by rw [BN hin],trivial⟩
  ·have hp:=p2 hin;refine jB.of (S:=tt) (fn:=f81) (n:=49) dE func81 T T T T fun w0 h0 F hgs=>?_;refine b_ fun b3=>?_;refine y_ ?_;refine A.gm T T T T T T T T ?_;refine y_ ?_;refine c_ hkey ?_;refine A.aw (c:=true) (v:= .int .i64 0) T T T T T T T T (by kernel_rfl) T hp T T ?_;refine y_ ?_;refine d_ 10 [0,1,2,3,4,5,6,7,8,9] [] ?_;refine WA.nil (l:=[]) T ?_;refine A.ab (Λ':=[.box b3 (cT e), .box b (.ag [AI (r.reach:Nat), .ms z 2 r.ends.length, .v (.map (some m)),AB r.miss]), .row 2 z (r.ends.map cT), .mp m (r.ends.map uX) (rG r.ends.length)]) T ?_;refine A.cz T T T T T T T T T hp T ?_;refine y_ ?_;refine A.cq [(7, .row 2 z (r.ends.map cT))] 8 [0,1,2,3,4,5,6,7] (fun i=>if i=7 then [7,6] else []) [] (c9 [3,0,1,2] T T T T) T T (by rfl) (by kernel_rfl) (by kernel_rfl) ?_;refine w_ ?_;refine WA.lit T T T T T T T fun bw=>?_;refine WA.dw T T T T T T T T T T T T T T T T T T T T (.pub (j:=6) T T (.sub .refl)) (by show ((r.ends.map cT).length+1)*2<=_;rw [n1];omega) (by show ((r.ends.map cT).length+1)*2*32<=_;rw [n1];omega) fun z2=>?_;refine WA.nil (l:=[_]) T ?_;refine y_ ?_;have hne2:r.ends++[e]≠[]:=by simp
   refine l_ (Λ':=[.row 2 z2 (r.ends.map cT++[cT e]), .mp m (r.ends.map uX++[uX e]) (rG r.ends.length++[AI (r.ends.length:Nat)]), .box b (.ag [AI (r.reach:Nat), .ms z2 2 ((r.ends.map cT).length+1), .v (.map (some m)),AB r.miss])]) ?_;refine A.perm (c9 [2,0,1] T T T T) ?_;refine A.ab (Λ':=nN b z2 m (Q4 r (fF r.ends e))) (by rw [G1 hin];show _= .box b (.ag [AI (r.reach:Nat), .ms z2 2 (r.ends++[e]).length,mapA m (r.ends++[e]),AB r.miss]):: .row 2 z2 ((r.ends++[e]).map cT)::ES m (r.ends++[e]);rw [F8 _ _ hne2,F7 _ _ hne2,N8,ac0,ac0,aa1,n1];rfl) ?_
   exact A.bp T T (.refl _) ⟨(z2,m), .refl,rfl,trivial⟩
theorem yY(h:GH)(y:Value)(q:Rp h (.ag [AI 0, .v (.slice none 0 0), .v (.map none),AB false]) y):Rp h (yX (.slice none 0 0) 0 a7) y:=by rw [gY] at q⊢;obtain ⟨ds,rfl,q⟩:=q;refine ⟨ds,rfl,?_⟩;rw [aJ] at q⊢;obtain ⟨v,vs,rfl,q1,q2⟩:=q;refine ⟨v,vs,rfl,q1,?_⟩;rw [aJ] at q2⊢;obtain ⟨v,vs,rfl,q1,q2⟩:=q2;rw [bN] at q1;obtain ⟨rfl,_⟩:=q1;exact ⟨_,vs,rfl,gI.2 ⟨rfl,none,0,rfl⟩,q2⟩
theorem PS(V:List KV):rN V a7:=⟨⟨fun e he=>by cases he⟩,aa4 _⟩
theorem CB{V:List KV}(s:bA)(hs:IU V s):Pure prog aU 39 [aF s] (oI (fM s)):=by refine P_ func39 7 fun _ _ _ _=>?_;refine b_ fun b2=>?_;refine A.bn (b:=b2) (x':=yX (.slice none 0 0) 0 a7) (.refl _) yY ?_;refine A.av 2 ?_;refine A.perm (Λ':=nN b2 (.slice none 0 0) 0 a7) (.swap _ _ _) ?_;have h1:=A1 b2 0 (.slice none 0 0) a7 (PS V) (0,s) ⟨hs,aa4 _⟩;refine y_ ?_;refine A.e T h1 s_ (Λ2:=[]) (by rw [aa9]) fun u _=>?_;refine A.ab (Λ':=[.box b2 (.ag [AI 0, .ms u.1 2 1, .v (.map (some u.2)),AB false]), .row 2 u.1 [cT (0,s)], .mp u.2 [uX (0,s)] (rG 1)]) T ?_;refine l_ (Λ':=[.box b2 (.ag [AI 0, .ms u.1 2 1, .v (.map (some u.2)),AB false]), .row 2 u.1 [cT (0,s)]]) ?_;refine A.ak 2 u.1 (x':= .ag [AI 0, .sl 2 [cT (0,s)] none, .v (.map (some u.2)),AB false]) T fz_ ?_;refine y_ ?_;refine C_ ?_;exact s_
abbrev pA(r:RN)(n:Nat)(q:RN)(i:Nat):RN:=⟨max r.reach (n+q.reach),(q.ends.take i).foldl (fun l e=>fF l (n+e.1,e.2)) r.ends,r.miss||q.miss⟩
theorem VD{V:List KV}{r q:RN}{n:Nat}(h:rN V r)(hq: ∀e,e∈q.ends->IU V e.2/\n+e.1<=256)(hl:r.ends.length+q.ends.length<=1048576)(i:Nat):rN V (pA r n q i):=by
 refine ⟨⟨fun e he=>?_⟩,?_⟩
 ·rcases (nY _ _).1 he with he|⟨x,hx,rfl⟩
  ·exact h.ends.shp e he
  ·exact hq x (ag0 hx)
 ·have:=qL (n:=n) (q.ends.take i) r.ends;have h2:=ap2 i q.ends;show ((q.ends.take i).foldl (fun l e=>fF l (n+e.1,e.2)) r.ends).length<=_;omega
theorem JE{r q:RN}{n i:Nat}{e:fK}(he:q.ends[i]? =some e):pA r n q (i+1)=Q4 (pA r n q i) (fF (pA r n q i).ends (n+e.1,e.2)):=by unfold pA Q4;congr 1;rw [ac9,he,af2];rfl
theorem p9{V:List KV}(b m:Nat)(z:Value)(r q:RN)(n:Nat)(h:rN V r)(hq: ∀e,e∈q.ends->IU V e.2/\n+e.1<=256)(hl:r.ends.length+q.ends.length<=1048576)(h1:r.reach<=1048576)(h2:n+q.reach<=1048576):
 fB prog aU 42 [aT b,AI (n:Nat),oI q] (nN b z m r) (fun _:Value×Nat=> .tp []) (fun u=>nN b u.1 u.2 (cM r n q)) (fun _=>True):=by
 have nq:((q.ends.map cT).length:Int)=q.ends.length:=by rw [aa0]
 have hmx:(if ((r.reach:Nat):Int)<IntKind.i64.wrap (((n:Nat):Int)+((q.reach:Nat):Int)) then IntKind.i64.wrap (((n:Nat):Int)+((q.reach:Nat):Int)) else ((r.reach:Nat):Int))=((max r.reach (n+q.reach):Nat):Int):=by rw [fR _ (by omega)];split<;>omega
 obtain ⟨rc,l,ms⟩:=r;unfold fB;cases ms with
 |true=>
  refine jB.of (S:=tt) (fn:=f42) (n:=48) dE func42 T T T T fun w0 h0 F hgs=>?_;refine b_ fun b5=>?_;refine y_ ?_;refine d_ 10 [0,1,2,3,4,5,6,7,8,9] [] ?_;refine WA.nil (l:=[]) T ?_;refine A.ab (Λ':= .box b5 (oI q):: .box b (.ag [AI (rc:Nat), .ms z 2 l.length,mapA m l,AB true]):: .row 2 z (l.map cT)::ES m l) T ?_;refine e_ 17 T (x':=AI ((max rc (n+q.reach):Nat):Int)) (aL hmx) ?_;refine A.aa 33 T (x':=AI (q.ends.length:Nat)) (aL nq) ?_;refine A.af [0,1,32,33,34] T ?_;refine A.less (Λ':=nN b z m (pA ⟨rc,l,true⟩ n q 0)) (.cons _ (.refl _)) ?_;refine A.ae (ι:=Nat×Value×Nat) (fun u=>(⟨[(0,aT b),(1,AI (n:Nat)),(32, .sl 2 (q.ends.map cT) none),(33,AI (q.ends.length:Nat)),(34,AI (u.1:Nat))],[]⟩,nN b u.2.1 u.2.2 (pA ⟨rc,l,true⟩ n q u.1))) (fun u=>u.1<=q.ends.length) (fun u=>q.ends.length-u.1) (0,z,m) (aa4 _) T fun u hu ih=>?_;obtain ⟨i,z1,m1⟩:=u;simp only at hu;refine y_ ?_
  by_cases hci:i<q.ends.length
  ·refine aX hci fun e he=>?_;have hqe:=hq e (aa2 he);have hadd:=A1 b m1 z1 (pA ⟨rc,l,true⟩ n q i) (VD h hq hl i) (n+e.1,e.2) ⟨hqe.1,hqe.2⟩;rw [<-JE he] at hadd;refine T_ T (by show decide ((i:Int)<(q.ends.length:Nat))=true;rw [dT];omega) ?_;refine j_ T (aC he) T ?_;refine b_ fun b7=>?_;refine y_ ?_;refine A.less (Λ':=nN b z1 m1 (pA ⟨rc,l,true⟩ n q i)) (.cons _ (.refl _)) ?_;refine A.aa 45 T (x':=cT (n+e.1,e.2)) (by show AV.ag [AI (IntKind.i64.wrap (((n:Nat):Int)+((e.1:Nat):Int))),aF e.2]=_;rw [fR _ (by omega)];rfl) ?_;refine A.e T hadd s_ (Λ2:=[]) (by rw [aa9]) fun v _=>?_;refine y_ ?_;refine vI 34 i ?_;refine A.ab (Λ':=nN b v.1 v.2 (pA ⟨rc,l,true⟩ n q (i+1))) (aa9 _) ?_;refine u_ (ih (i+1,v.1,v.2) (by show i+1<=_;omega) (by show _-(i+1)<_-i;omega))
  ·refine F_ T (by show decide ((i:Int)<(q.ends.length:Nat))=false;rw [dF];omega) ?_;refine A.ab (Λ':=nN b z1 m1 (cM ⟨rc,l,true⟩ n q)) (by
    have e1:pA ⟨rc,l,true⟩ n q i=cM ⟨rc,l,true⟩ n q:=by unfold pA cM;rw [aa6 (by omega)]
    show nN b z1 m1 (pA ⟨rc,l,true⟩ n q i)=_;rw [e1]) ?_
   exact A.bp T T (.refl _) ⟨(z1,m1), .refl,rfl,trivial⟩
 |false=>
  refine jB.of (S:=tt) (fn:=f42) (n:=48) dE func42 T T T T fun w0 h0 F hgs=>?_;refine b_ fun b5=>?_;refine y_ ?_;refine d_ 10 [0,1,2,3,4,5,6,7,8,9] [] ?_;refine WA.nil (l:=[]) T ?_;refine A.ab (Λ':= .box b5 (oI q):: .box b (.ag [AI (rc:Nat), .ms z 2 l.length,mapA m l,AB false]):: .row 2 z (l.map cT)::ES m l) T ?_;refine e_ 17 T (x':=AI ((max rc (n+q.reach):Nat):Int)) (aL hmx) ?_;refine A.aa 33 T (x':=AI (q.ends.length:Nat)) (aL nq) ?_;refine A.af [0,1,32,33,34] T ?_;refine A.less (Λ':=nN b z m (pA ⟨rc,l,false⟩ n q 0)) (.cons _ (.refl _)) ?_;refine A.ae (ι:=Nat×Value×Nat) (fun u=>(⟨[(0,aT b),(1,AI (n:Nat)),(32, .sl 2 (q.ends.map cT) none),(33,AI (q.ends.length:Nat)),(34,AI (u.1:Nat))],[]⟩,nN b u.2.1 u.2.2 (pA ⟨rc,l,false⟩ n q u.1))) (fun u=>u.1<=q.ends.length) (fun u=>q.ends.length-u.1) (0,z,m) (aa4 _) T fun u hu ih=>?_;obtain ⟨i,z1,m1⟩:=u;simp only at hu;refine y_ ?_
  by_cases hci:i<q.ends.length
  ·refine aX hci fun e he=>?_;have hqe:=hq e (aa2 he);have hadd:=A1 b m1 z1 (pA ⟨rc,l,false⟩ n q i) (VD h hq hl i) (n+e.1,e.2) ⟨hqe.1,hqe.2⟩;rw [<-JE he] at hadd;refine T_ T (by show decide ((i:Int)<(q.ends.length:Nat))=true;rw [dT];omega) ?_;refine j_ T (aC he) T ?_;refine b_ fun b7=>?_;refine y_ ?_;refine A.less (Λ':=nN b z1 m1 (pA ⟨rc,l,false⟩ n q i)) (.cons _ (.refl _)) ?_;refine A.aa 45 T (x':=cT (n+e.1,e.2)) (by show AV.ag [AI (IntKind.i64.wrap (((n:Nat):Int)+((e.1:Nat):Int))),aF e.2]=_;rw [fR _ (by omega)];rfl) ?_;refine A.e T hadd s_ (Λ2:=[]) (by rw [aa9]) fun v _=>?_;refine y_ ?_;refine vI 34 i ?_;refine A.ab (Λ':=nN b v.1 v.2 (pA ⟨rc,l,false⟩ n q (i+1))) (aa9 _) ?_;refine u_ (ih (i+1,v.1,v.2) (by show i+1<=_;omega) (by show _-(i+1)<_-i;omega))
  ·refine F_ T (by show decide ((i:Int)<(q.ends.length:Nat))=false;rw [dF];omega) ?_;refine A.ab (Λ':=nN b z1 m1 (cM ⟨rc,l,false⟩ n q)) (by
    have e1:pA ⟨rc,l,false⟩ n q i=cM ⟨rc,l,false⟩ n q:=by unfold pA cM;rw [aa6 (by omega)]
    show nN b z1 m1 (pA ⟨rc,l,false⟩ n q i)=_;rw [e1]) ?_
   exact A.bp T T (.refl _) ⟨(z1,m1), .refl,rfl,trivial⟩
section
variable{V:List KV}{C:List Int}
def Un(V:List KV)(C:List Int)(p:PR):Prop:= ∃n h,okF (LU V C) n h p
theorem Un.loc{p:PR}(u:Un V C p):Loc V C p:=by obtain ⟨n,h,w⟩:=u;exact ((okF_eq p).1 w).1.1.1
theorem Un.ut{p:PR}(u:Un V C p):UT p:=by obtain ⟨n,h,w⟩:=u;exact ((okF_eq p).1 w).1.1.2
theorem Un.l{p:PR}(u:Un V C p): ∀x,x∈p.l->Un V C x:=fun x hx=>by obtain ⟨n,h,w⟩:=u;obtain ⟨n',h',w'⟩:=kN ((okF_eq p).1 w).2.1 hx;exact ⟨n',h',w'⟩
theorem Un.g{p:PR}(u:Un V C p): ∀g,g∈p.gs-> ∀x,x∈g.body->Un V C x:=fun g hg x hx=>by obtain ⟨n,h,w⟩:=u;have:=nZ ((okF_eq p).1 w).2.2 g hg;rw [qT] at this;obtain ⟨n',h',w'⟩:=kN this hx;exact ⟨n',h',w'⟩
theorem Un.kb{p:PR}(u:Un V C p)(h:p.kind≠16):bE V C.length p=true:=by have:=u.loc.kind;obtain ⟨k,c,v,i,to,e,gs,l⟩:=p;unfold I7 at this;have h:k≠16:=h;simp only [PR.kind] at this;rw [iF h] at this;exact this
theorem Un.ir{p:PR}(u:Un V C p): ∀x,x∈p.e->l5 x:=fun x hx=>(u.loc.e x hx).1
theorem inB1{α:Type}{l:List α}(h:wL l.length 1 1=true): ∃x,l=[x]:=by
 unfold wL at h;simp only [aa3,dT] at h;cases l with
 |nil=>simp at h |cons x r=>cases r with
  |nil=>exact ⟨x,rfl⟩ |cons y r=>simp only [ab7] at h;omega
theorem YI{p:PR}{a b:Bool}{e1 e2 g1 g2 l1 l2:Int}(h:aY p a b 1 1 e1 e2 g1 g2 l1 l2=true): ∃x,p.to=[x]:=by unfold aY at h;simp only [aa3] at h;exact inB1 (by simp only [h])
theorem QN{p:PR}{a b:Bool}{t1 t2 g1 g2 l1 l2:Int}(h:aY p a b t1 t2 1 1 g1 g2 l1 l2=true): ∃x,p.e=[x]:=by unfold aY at h;simp only [aa3] at h;exact inB1 (by simp only [h])
theorem a0S{p:PR}{a b:Bool}{t1 t2 e1 e2 g1 g2:Int}(h:aY p a b t1 t2 e1 e2 g1 g2 1 1=true): ∃x,p.l=[x]:=by unfold aY at h;simp only [aa3] at h;exact inB1 (by simp only [h])
theorem Un.k3{p:PR}(u:Un V C p)(hk:p.kind=3):0<=p.v/\p.v<V.length:=by have h:=u.kb (by omega);unfold bE at h;rw [iF (by omega),iT hk] at h;simp only [aa3,dT] at h;exact ⟨h.1.2,h.2⟩
theorem Un.k4{p:PR}(u:Un V C p)(hk:p.kind=4):p.to.length=p.e.length/\(p.to.zip p.e).all (fun te=>dG V te.1 te.2)=true:=by have h:=u.kb (by omega);unfold bE at h;rw [iF (by omega),iF (by omega),iT hk] at h;simp only [aa3,beq_iff_eq] at h;exact ⟨h.1.2,h.2⟩
theorem Un.k5{p:PR}(u:Un V C p)(hk:p.kind=5): ∃q,p.to=[q]/\fO V C.length p.c p.item q=true:=by have h:=u.kb (by omega);unfold bE at h;rw [iF (by omega),iF (by omega),iF (by omega),iT hk] at h;simp only [aa3] at h;obtain ⟨q,hq⟩:=YI h.1;refine ⟨q,hq,?_⟩;have h2:=h.2;rw [hq] at h2;exact h2
theorem Un.k6{p:PR}(u:Un V C p)(hk:p.kind=6): ∃x,p.e=[x]:=by have h:=u.kb (by omega);unfold bE at h;rw [iF (by omega),iF (by omega),iF (by omega),iF (by omega),iT hk] at h;simp only [aa3] at h;exact QN h.1.1
theorem Un.k13{p:PR}(u:Un V C p)(hk:p.kind=13): ∃x b,p.e=[x]/\p.l=[b]/\kP V x 3=true:=by have h:=u.kb (by omega);unfold bE at h;rw [iF (by omega),iF (by omega),iF (by omega),iF (by omega),iF (by omega),iF (by omega),iF (by omega),iF (by omega),iF (by omega),iF (by omega),iF (by omega),iT hk] at h;simp only [aa3] at h;obtain ⟨x,hx⟩:=QN h.1;obtain ⟨b,hb⟩:=a0S h.1;have h2:=h.2;rw [hx] at h2;exact ⟨x,b,hx,hb,h2⟩
theorem Un.kg{p:PR}(u:Un V C p)(hk:p.kind=12\/p.kind=14\/p.kind=15): ∀g,g∈p.gs->fH V C.length g (p.kind==12)=true:=by have h:=u.kb (by omega);unfold bE at h;rw [iF (by omega),iF (by omega),iF (by omega),iF (by omega),iF (by omega),iF (by omega),iF (by omega),iF (by omega),iF (by omega),iF (by omega),iT hk] at h;simp only [aa3,ae5] at h;exact h.2
theorem L8{st0:bA}(h0:bI V st0): ∀(tos:List PL) (es:List KE) (st st':bA),bI V st->(∀e,e∈es->l5 e)->(tos.zip es).all (fun te=>dG V te.1 te.2)=true->iN st0 tos es st=some st'->bI V st'
 | [],es,st,st',h,_,_,hp=>by rw [iN] at hp;injection hp with hp;rw [<-hp];exact h |to::tos,[],st,st',h,_,_,hp=>by rw [iN] at hp;cases hp
 |to::tos,e::es,st,st',h,hw,ha,hp=>by
  rw [List.zip_cons_cons,aj8,aa3] at ha;rw [iN] at hp;cases hv:bH st0 e with
  |none=>rw [hv] at hp;cases hp |some x=>
   rw [hv] at hp;simp only at hp;cases hpl:fU st0 to.v to.ix with
   |none=>rw [hpl] at hp;cases hp |some vj=>
    obtain ⟨v,j⟩:=vj;rw [hpl] at hp;simp only at hp;refine L8 h0 tos es _ st' (h.put (LO h0 (hw e (.head _)) hv) fun y hy=>?_) (fun e' he'=>hw e' (.tail _ he')) ha.2 hp;have hvv:v=to.v:=HZ hpl;rw [hvv] at hy;have h1:=ha.1;unfold dG at h1;split at h1
    ·cases h1
    ·simp only [hy,aa3] at h1;exact GG (D7 (VW h hy)) (vM h0 h1.2 hv)
abbrev l6(t:TR):Prop:= ∀e,e∈t->i32 e.2
theorem yH{s s':bA}(hs:bI V s){op:List Int}{t:TR}(ht:l6 t){c it:Int}{to:PL}(hi:fO V C.length c it to=true)(h:cU op t c it to s=some s'):bI V s':=by
 unfold fO at hi;rw [aa3] at hi;unfold cU at h;cases hp:fU s to.v to.ix with
 |none=>rw [hp] at h;cases h |some q=>
  rw [hp] at h;cases t with
  |nil=>cases h |cons e r=>
   simp only at h;split at h
   ·rename_i hc;injection h with h;rw [<-h];refine hs.put (ht e (.head _)) fun y hy=>?_;have hv:q.1=to.v:=HZ hp;rw [hv] at hy;rw [SS hi.2 y hy];exact hc.2.2
   ·cases h
theorem clr_ok{s:bA}(h:bI V s)(v:Int):bI V (G8 s v):=rS h v _
theorem xU{s:bA}{v i:Nat}{r:List Int}{x:Int}(hr:s[v]? =some r)(hx:r[i]? =some x):mT s (v:Nat) (i:Nat)=some x:=by unfold mT;rw [iF (by omega),ac7,ac7,hr];exact hx
theorem wQ{s out x:bA}(ho:bI V out)(hx:bI V x):bI V (fX s out x):=by
 obtain ⟨_,hxl,hxr,hxg⟩:=qB hx.may;have inner: ∀(v:Nat) (r:List Int),x[v]? =some r-> ∀(l:List Nat),(∀i,i∈l->i<r.length)-> ∀o,bI V o->bI V (l.foldl (fun out (i:Nat)=>if mT x v i=mT s v i then out else iK out v i ((mT x v i).getD 0)) o):=by
  intro v r hr l
  induction l with
  |nil=>intro _ o ho;exact ho |cons i l ih=>
   intro hl o ho;rw [ae2];refine ih (fun j hj=>hl j (.tail _ hj)) _ ?_;split
   ·exact ho
   ·have hi:=hl i (.head _);have hat:=xU hr (aa7 hi);rw [hat];refine ho.put (hx.ws r (aa2 hr) _ (aj3 hi)) fun y hy=>?_;rw [ac7] at hy;exact hxg v y r hy hr _ (aj3 hi)
 have outer: ∀(l:List Nat),(∀v,v∈l->v<x.length)-> ∀o,bI V o->bI V (l.foldl (fun out (v:Nat)=>(List.range (match x[v]? with|some r=>r.length|none=>0)).foldl (fun out (i:Nat)=>if mT x v i=mT s v i then out else iK out v i ((mT x v i).getD 0)) out) o):=by
  intro l
  induction l with
  |nil=>intro _ o ho;exact ho |cons v l ih=>
   intro hl o ho;rw [ae2];refine ih (fun j hj=>hl j (.tail _ hj)) _ ?_;have hv:=hl v (.head _);rw [aa7 hv];exact inner v _ (aa7 hv) _ (fun i hi=>ah5.1 hi) o ho
 exact outer _ (fun v hv=>ah5.1 hv) out ho
theorem BE{s:bA}: ∀(bs:List (List bA)) (out:bA),(∀b,b∈bs-> ∀x,x∈b->bI V x)->bI V out-> ∀x,x∈dD s bs out->bI V x
 | [],out,_,ho,x,hx=>by rw [dD,ab0] at hx;rw [hx];exact ho |b::r,out,h,ho,x,hx=>by rw [dD,ai4] at hx;obtain ⟨y,hy,hx⟩:=hx;exact BE r _ (fun b' hb'=>h b' (.tail _ hb')) (wQ ho (h b (.head _) y hy)) x hx
abbrev sW(V:List KV)(r:RN):Prop:= ∀e,e∈r.ends->bI V e.2
theorem sW.join{r q:RN}{n:Nat}(h:sW V r)(hq:sW V q):sW V (cM r n q):=fun e he=>by
 rcases (nY _ _).1 he with he|⟨x,hx,rfl⟩
 ·exact h e he
 ·exact hq x hx
theorem sW.fin{s:bA}(h:bI V s):sW V (fM s):=fun e he=>by rw [ab0.1 he];exact h
theorem sW.nil:sW V a7:=fun e he=>by cases he
theorem sW.andThen{first:RN}{k:Nat->bA->RN}(h:sW V first)(hk: ∀e,e∈first.ends->sW V (k e.1 e.2)):sW V (fW first k):=fun y hy=>by
 rw [then_eq] at hy;rcases (FN _ _).1 hy with hy|⟨e,he,z,hz,rfl⟩
 ·cases hy
 ·exact hk e he z hz
theorem yD{cond:bA->Option Int}{body:Nat->TR->bA->RN}(hb: ∀f t s,l6 t->bI V s->sW V (body f t s)): ∀(f:Nat) (t:TR) (s:bA),l6 t->bI V s->sW V (fQ cond body f t s)
 |0,t,s,ht,hs=>by
  rw [fQ];cases cond s with
  |none=>exact .nil |some v=>
   simp only;split
   ·exact .fin hs
   ·intro e he;cases he
 |f+1,t,s,ht,hs=>by
  rw [fQ];cases cond s with
  |none=>exact .nil |some v=>
   simp only;split
   ·exact .fin hs
   ·exact (hb f t s ht hs).andThen fun e he=>(yD hb f (t.drop e.1) e.2 (fun x hx=>ht x (ai2 hx)) (hb f t s ht hs e he)).andThen fun x hx=> .fin (yD hb f (t.drop e.1) e.2 (fun x hx=>ht x (ai2 hx)) (hb f t s ht hs e he) x hx)
theorem eok_go{chs:List (List Int)}{rs:List RN}{s:bA}(hs:bI V s)(hr: ∀r,r∈rs->sW V r): ∀(t:TR) (j:Nat) (cn:List Nat) (r:RN),sW V r->sW V (gC chs rs s t j cn r):=by
 have meet: ∀(j:Nat) (cn:List Nat) (r:RN),sW V r->sW V (fC s rs cn j r):=fun j cn r h e he=>by
  rw [dV,sH] at he;rcases he with he|⟨x,hx,rfl⟩
  ·exact h e he
  ·refine BE _ s (fun b hb y hy=>?_) hs x hx;obtain ⟨i,hi,rfl⟩:=ah7 hb;rw [List.getElem_zipWith] at hy;exact hr _ (aj3 _) _ (kE.1 hy)
 intro t
 induction t with
 |nil=>intro j cn r h;rw [gC];exact meet j cn r h |cons e t ih=>
  intro j cn r h;rw [gC];split
  ·exact ih _ _ _ (meet j cn r h)
  ·exact meet j cn r h
abbrev oN(V:List KV)(p:PR):Prop:= ∀f op t s,l6 t->bI V s->sW V (cG f op t s p)
theorem C9{t:TR}(h:l6 t)(ch:List Int):l6 (bX t ch):=fun e he=>h e (aj0.1 he).1
theorem ND{l:List PR}(h: ∀x,x∈l->oN V x): ∀f op t s,l6 t->bI V s->sW V (bD f op t s l):=by
 intro f op t s ht hs;cases l with
 |nil=>rw [bD];exact .nil |cons p r=>rw [bD];exact h p (.head _) f op t s ht hs
theorem XC{l:List PR}(h: ∀x,x∈l->oN V x): ∀f op t s,l6 t->bI V s->sW V (bB f op t s l):=by
 induction l with
 |nil=>intro f op t s _ hs;rw [bB];exact .fin hs |cons p r ih=>
  intro f op t s ht hs;rw [bB];have h1:=h p (.head _) f op t s ht hs;exact h1.andThen fun e he=>ih (fun x hx=>h x (.tail _ hx)) f op (t.drop e.1) e.2 (fun x hx=>ht x (ai2 hx)) (h1 e he)
theorem ok_if{gs:List GD}(h: ∀g,g∈gs-> ∀x,x∈g.body->oN V x): ∀f op t s,l6 t->bI V s->sW V (rJ f op t s gs):=by
 induction gs with
 |nil=>intro f op t s _ _;rw [rJ];exact .nil |cons g r ih=>
  intro f op t s ht hs;have hb:=ND (h g (.head _)) f op t s ht hs;have hi:=ih (fun x hx=>h x (.tail _ hx)) f op t s ht hs;obtain ⟨k,cd,c,it,to,tm,b⟩:=g;rw [rJ];cases bH s cd with
  |none=>exact .nil |some v=>
   simp only;split
   ·exact hi
   ·exact sW.nil.join hb
theorem ok_alt{gs:List GD}(hG: ∀g,g∈gs->g.kind=3->fO V C.length g.c g.item g.to=true)(h: ∀g,g∈gs-> ∀x,x∈g.body->oN V x): ∀f op t s acc,l6 t->bI V s->sW V acc->sW V (iW f op t s gs acc):=by
 induction gs with
 |nil=>intro f op t s acc _ _ ha;rw [iW];exact ha |cons g r ih=>
  intro f op t s acc ht hs ha;have hb:=ND (h g (.head _)) f op;have hi:=fun acc=>ih (fun x hx=>hG x (.tail _ hx)) (fun x hx=>h x (.tail _ hx)) f op t s acc ht hs;have hg:=hG g (.head _);obtain ⟨k,cd,c,it,to,tm,b⟩:=g;have hg:k=3->fO V C.length c it to=true:=hg;have hb: ∀t s,l6 t->bI V s->sW V (bD f op t s b):=hb;rw [iW];split
  ·exact hi _ ha
  ·split
   ·rename_i hk;cases hin:cU op t c it to s with
    |none=>exact hi _ ha |some s'=>exact hi _ (ha.join (hb (t.drop 1) s' (fun x hx=>ht x (ai2 hx)) (yH hs ht (hg hk) hin)))
   ·exact hi _ (ha.join (hb t s ht hs))
theorem D0: ∀(m:Nat) (p:PR),SizeOf.sizeOf p<=m->Un V C p->oN V p
 |0,p,h,_=>by obtain ⟨k,c,v,i,to,e,gs,l⟩:=p;simp only [PR.mk.sizeOf_spec] at h;omega
 |m+1,p,hm,u=>by
  have hl: ∀x,x∈p.l->oN V x:=fun x hx=>D0 m x (by have:=mO hx;omega) (u.l x hx);have hg: ∀g,g∈p.gs-> ∀x,x∈g.body->oN V x:=fun g hg x hx=>D0 m x (by have:=nX hg hx;omega) (u.g g hg x hx);have s1:=XC hl;have b1:=ND hl;have i1:=ok_if hg;have q4:=u.k4;have q5:=u.k5;have qg:=u.kg;have wfe:=u.ir;obtain ⟨k,c,v,it,to,e,gs,l⟩:=p;intro f op t s ht hs;rw [cX]
  by_cases k1:k=1
  ·rw [iT k1];exact .fin hs
  rw [iF k1]
  by_cases k3:k=3
  ·rw [iT k3];exact .fin (clr_ok hs v)
  rw [iF k3]
  by_cases k4:k=4
  ·rw [iT k4];obtain ⟨h1,h2⟩:=q4 k4;cases ha:iN s to e s with
   |none=>exact .nil |some s'=>exact .fin (L8 hs to e s s' hs wfe h2 ha)
  rw [iF k4]
  by_cases k5:k=5
  ·rw [iT k5];obtain ⟨q,h1,h2⟩:=q5 k5;have h1:to=[q]:=h1;have h2:fO V C.length c it q=true:=h2;subst h1;simp only;cases hin:cU op t c it q s with
   |none=>exact .nil |some s'=>exact sW.nil.join (.fin (yH hs ht h2 hin))
  rw [iF k5]
  by_cases k6:k=6
  ·rw [iT k6];cases e with
   |nil=>exact .nil |cons x r=>
    simp only
    by_cases ho:fT op t c x s=true
    ·rw [iT ho];exact sW.nil.join (.fin hs)
    ·rw [iF ho];exact .nil
  rw [iF k6]
  by_cases k9:k=9
  ·rw [iT k9];exact s1 f op t s ht hs
  rw [iF k9]
  by_cases k13:k=13
  ·rw [iT k13];cases e with
   |nil=>exact .nil |cons x r=>exact yD (fun f t s ht hs=>b1 f op t s ht hs) f t s ht hs
  rw [iF k13]
  by_cases k12:k=12
  ·rw [iT k12];exact i1 f op t s ht hs
  rw [iF k12]
  by_cases k14:k=14\/k=15
  ·rw [iT k14]
   by_cases ho:jQ s gs=true
   ·rw [iT ho];refine ok_alt (C:=C) (fun g hgm h3=>?_) hg f op t s a7 ht hs .nil;have:=qg (.inr k14) g hgm;exact VZ this h3
   ·rw [iF ho];exact .nil
  rw [iF k14]
  by_cases k10:k=10\/k=11
  ·rw [iT k10];refine eok_go hs (fun r hr=>?_) t 0 _ _ (fun e he=>by cases he);obtain ⟨i,hi,rfl⟩:=ah7 hr;have h1:=aa7 hi;rw [rP] at h1;cases hp:l[i]? with
   |none=>rw [hp] at h1;cases h1 |some p=>
    rw [hp] at h1;injection h1 with h1;rw [<-h1];exact hl p (aa2 hp) f _ _ s (C9 ht _) hs
  rw [iF k10];exact .nil
theorem H9{p:PR}(u:Un V C p):oN V p:=D0 _ p (ab3 _) u
end
def pB(first:RN)(i:Nat):RN:=⟨first.reach,first.ends.take i,first.miss⟩
theorem JF{first:RN}{i:Nat}(h:first.ends.length<=i):pB first i=first:=by unfold pB;rw [aa6 h]
theorem TQ(first:RN)(k:Nat->bA->RN):fW (pB first 0) k=⟨first.reach,[],first.miss⟩:=by unfold fW pB;rw [ad1];rfl
theorem GR{first:RN}{k:Nat->bA->RN}{i:Nat}{e:fK}(h:first.ends[i]? =some e):fW (pB first (i+1)) k=cM (fW (pB first i) k) e.1 (k e.1 e.2):=by unfold fW pB;rw [ac9,h];show List.foldl _ _ (List.take i first.ends++[e])=_;rw [af2];rfl
theorem rU{first:RN}{i:Nat}{e:fK}(h:e∈(pB first i).ends):e∈first.ends:=ag0 h
theorem Z9{first:RN}{m:Nat}(h:lJ first m)(i:Nat):lJ (pB first i) m:=⟨h.len,fun e he=>h.le e (rU he),h.nod.sublist (List.take_sublist ..)⟩
theorem Z8{V:List KV}{first:RN}(h:sW V first)(i:Nat):sW V (pB first i):=fun e he=>h e (rU he)
theorem QZ: ∀(l:List PR) (f:Nat),(∀x,x∈l->1<=bF x f)->1<=cW l f
 | [],f,_=>by rw [cW];exact ab3 _ |x::r,f,h=>by rw [cW];exact av3 (h x (.head _)) (QZ r f fun y hy=>h y (.tail _ hy))
theorem GX: ∀(m:Nat) (p:PR),SizeOf.sizeOf p<=m-> ∀f,1<=bF p f
 |0,p,h=>by obtain ⟨k,c,v,i,to,e,gs,l⟩:=p;simp only [PR.mk.sizeOf_spec] at h;omega
 |m+1,p,hm=>by
  intro f;have hl: ∀x,x∈p.l->1<=bF x f:=fun x hx=>GX m x (by have:=mO hx;omega) f;obtain ⟨k,c,v,it,to,e,gs,l⟩:=p;have hl: ∀x,x∈l->1<=bF x f:=hl;have h1:1<=cW l f:=QZ l f hl;rw [gL];split
  ·exact h1
  split
  ·omega
  split
  ·exact uJ f
  ·exact ab3 _
theorem o5(p:PR)(f:Nat):1<=bF p f:=GX _ p (ab3 _) f
theorem sU: ∀(l:List PR) (f:Nat),1<=cW l f
 | [],f=>by rw [cW];exact ab3 _ |x::r,f=>by rw [cW];exact av3 (o5 x f) (sU r f)
theorem zC{x:PR}{r:List PR}{f n:Nat}(h:cW (x::r) f<=n):bF x f<=n/\cW r f<=n:=by rw [cW] at h;have h1:=Nat.le_mul_of_pos_right (bF x f) (sU r f);have h2:=Nat.le_mul_of_pos_left (cW r f) (o5 x f);omega
theorem jW{x:PR}: ∀{l:List PR} {f n:Nat},cW l f<=n->x∈l->bF x f<=n
 |y::r,f,n,h,hx=>by
  have h1:=zC h;rcases ab6.1 hx with rfl|hx
  ·exact h1.1
  ·exact jW h1.2 hx
theorem EF{x:PR}: ∀{l:List PR} {f:Nat},x∈l->bF x f<=gW l f
 |y::r,f,hx=>by
  rw [gW];rcases ab6.1 hx with rfl|hx
  ·exact aj4 _ _
  ·have:=EF (f:=f) hx;omega
theorem zB{x:PR}: ∀{gs:List GD} {g:GD} {f:Nat},g∈gs->x∈g.body->bF x f<=dO gs f
 |y::r,g,f,hg,hx=>by
  obtain ⟨k,cd,c,it,to,tm,b⟩:=y;rw [dO];rcases ab6.1 hg with rfl|hg
  ·have:=EF (f:=f) hx;have hb:gW b f=gW b f:=rfl;have:bF x f<=gW b f:=this;omega
  ·have:=zB (f:=f) hg hx;omega
theorem nM{x:PR}: ∀{l:List PR},x∈l->(dW x).length<=(aI l).length
 |y::r,hx=>by
  rw [aI,aa1];rcases ab6.1 hx with rfl|hx
  ·exact aj4 _ _
  ·have:=nM hx;omega
theorem GJ{x:PR}: ∀{gs:List GD} {g:GD},g∈gs->x∈g.body->(dW x).length<=(aZ gs).length
 |y::r,g,hg,hx=>by
  obtain ⟨k,cd,c,it,to,tm,b⟩:=y;rw [aZ,aa1,aa1];rcases ab6.1 hg with rfl|hg
  ·have:(dW x).length<=(aI b).length:=nM hx;omega
  ·have:=GJ hg hx;omega
theorem tJ(p:PR):dW p=(if p.kind=5\/p.kind=6 then [p.c] else [])++(aI p.l++aZ p.gs):=by obtain ⟨k,c,v,it,to,e,gs,l⟩:=p;rw [dW]
theorem DJ{p x:PR}(h:x∈p.l):(dW x).length<=(dW p).length:=by rw [tJ p,aa1,aa1];have:=nM h;omega
theorem NR{p x:PR}{g:GD}(hg:g∈p.gs)(h:x∈g.body):(dW x).length<=(dW p).length:=by rw [tJ p,aa1,aa1];have:=GJ hg h;omega
abbrev IQ:=List (Nat×List bA)
def yF:IQ->fK->IQ
 | [],e=>[(e.1,[e.2])] |x::r,e=>if x.1=e.1 then (x.1,x.2++[e.2])::r else x::yF r e
def dC(l:List fK):IQ:=l.foldl yF []
abbrev hC(g:IQ):List Nat:=g.map (·.1)
theorem rZ: ∀{g:IQ} {e:fK},e.1∉hC g->yF g e=g++[(e.1,[e.2])]
 | [],e,_=>rfl |x::r,e,h=>by rw [yF,iF (fun h'=>h (by rw [<-h'];exact aa5 ..)),rZ (fun h'=>h (.tail _ h'))];rfl
theorem wI: ∀{g:IQ} {e:fK} {p:Nat} {x:Nat×List bA},(hC g).Nodup->g[p]? =some x->x.1=e.1->yF g e=g.set p (x.1,x.2++[e.2])
 | [],e,p,x,_,h,_=>by simp at h |y::r,e,0,x,hn,h,hx=>by simp only [ak1,Option.some.injEq] at h;subst h;rw [yF,iT hx];rfl
 |y::r,e,p+1,x,hn,h,hx=>by simp only [af4] at h;have hn:(y.1::hC r).Nodup:=hn;rw [aj1] at hn;have hne:y.1≠e.1:=fun h'=>hn.1 (by rw [h',<-hx];exact an7 (aa2 h));rw [yF,iF hne,wI hn.2 h hx];rfl
theorem tG: ∀{g:IQ} {n:Nat},n∈hC g-> ∃(p:Nat) (x:Nat×List bA),g[p]? =some x/\x.1=n
 |y::r,n,h=>by
  rcases ab6.1 h with h|h
  ·exact ⟨0,y,rfl,h.symm⟩
  ·obtain ⟨p,x,h1,h2⟩:=tG (g:=r) h;exact ⟨p+1,x,h1,h2⟩
theorem R9{g:IQ}{e:fK}(hn:(hC g).Nodup):(hC (yF g e)).Nodup/\(∀n,n∈hC (yF g e)↔n∈hC g\/n=e.1):=by
 by_cases h:e.1∈hC g
 ·obtain ⟨p,x,h1,h2⟩:=tG h;have hp:p<g.length:=(aa8.1 h1).1;have he:hC (yF g e)=hC g:=by
   rw [wI hn h1 h2];show (g.set p _).map _=_;rw [an0];apply af0;intro j;rw [ah0]
   by_cases hj:p=j
   ·subst hj;rw [iT T,iT (by rw [aa0];exact hp),ab5,h1];rfl
   ·rw [iF hj]
  rw [he];exact ⟨hn,fun n=>⟨.inl,fun h'=>h'.elim id fun e'=>e'▸h⟩⟩
 ·rw [rZ h];show ((g++[(e.1,[e.2])]).map _).Nodup/\ ∀n,n∈(g++[(e.1,[e.2])]).map _↔_;rw [ac0];refine ⟨List.nodup_append.2 ⟨hn,by simp,fun a ha b hb=>?_⟩,fun n=>by simp [hC]⟩;simp only [af6,List.map_nil,ab0] at hb;subst hb;intro h';subst h';exact h ha
structure BM(g:IQ)(l:List fK):Prop where
 nod:(hC g).Nodup
 mem: ∀n,n∈hC g↔ ∃e,e∈l/\e.1=n
 val: ∀(p:Nat) x,g[p]? =some x->x.2=(l.filter fun e=>decide (e.1=x.1)).map (·.2)
theorem a0j:BM [] []:=⟨List.nodup_nil,fun n=>by simp,fun p x h=>by simp at h⟩
theorem VP{e:fK}{n:Nat}(h:e.1≠n)(l:List fK):((l++[e]).filter fun e=>decide (e.1=n)).map (·.2)=(l.filter fun e=>decide (e.1=n)).map (·.2):=by rw [ag5,aj2,iF (by simpa using h),ar9,aa9]
theorem VO{e:fK}{n:Nat}(h:e.1=n)(l:List fK):((l++[e]).filter fun e=>decide (e.1=n)).map (·.2)=(l.filter fun e=>decide (e.1=n)).map (·.2)++[e.2]:=by rw [ag5,aj2,iT (by simpa using h),ar9,ac0];rfl
theorem nod_at{g:IQ}(hn:(hC g).Nodup){i j:Nat}{x y:Nat×List bA}(h1:g[i]? =some x)(h2:g[j]? =some y)(h:x.1=y.1):i=j:=by
 have hi:i<(hC g).length:=by rw [aa0];exact (aa8.1 h1).1
 refine (List.getElem?_inj hi hn).1 ?_;rw [ab5,ab5,h1,h2,af8,af8,h]
theorem BM.next{g:IQ}{l:List fK}(h:BM g l)(e:fK):BM (yF g e) (l++[e]):=by
 obtain ⟨k1,k2⟩:=R9 (e:=e) h.nod;refine ⟨k1,fun n=>?_,fun j x hx=>?_⟩
 ·rw [k2,h.mem];constructor
  ·rintro (⟨y,hy,rfl⟩|rfl)
   ·exact ⟨y,ad6 _ hy,rfl⟩
   ·exact ⟨e,by simp,rfl⟩
  ·rintro ⟨y,hy,rfl⟩;rcases ad8.1 hy with hy|hy
   ·exact .inl ⟨y,hy,rfl⟩
   ·rw [ab0.1 hy];exact .inr T
 ·by_cases hk:e.1∈hC g
  ·obtain ⟨p,y,h1,h2⟩:=tG hk;rw [wI h.nod h1 h2,ah0] at hx
   by_cases hpj:p=j
   ·subst hpj;rw [iT T,iT (aa8.1 h1).1] at hx;injection hx with hx;rw [<-hx];show y.2++[e.2]=_;rw [VO h2.symm,h.val p y h1]
   ·rw [iF hpj] at hx;rw [VP (fun h'=>hpj (nod_at h.nod h1 hx (by rw [h2,h']))),h.val j x hx]
  ·rw [rZ hk] at hx;rcases ae4 j g.length with hj|hj
   ·rw [ae6 hj] at hx;rw [VP (fun h'=>hk (by rw [h'];exact an7 (aa2 hx))),h.val j x hx]
   ·rw [ae7 hj] at hx;have hj0:j-g.length=0:=by
     have:=(aa8.1 hx).1;simp only [ab7,af5] at this;omega
    rw [hj0] at hx;injection hx with hx;rw [<-hx];show [e.2]=_;rw [VO T];have:(l.filter fun e'=>decide (e'.1=e.1))=[]:=by rw [List.filter_eq_nil_iff];intro a ha h';exact hk ((h.mem e.1).2 ⟨a,ha,by simpa using h'⟩)
    rw [this];rfl
theorem VY: ∀(l:List fK) {g:IQ} {m:List fK},BM g m->BM (l.foldl yF g) (m++l)
 | [],g,m,h=>by rw [aa9];exact h |e::l,g,m,h=>by have:=VY l (h.next e);rw [ab2] at this;exact this
theorem wJ(l:List fK):BM (dC l) l:=VY l a0j
theorem FO{l:List fK}{i:Nat}{e:fK}(h:l[i]? =some e):dC (l.take (i+1))=yF (dC (l.take i)) e:=by unfold dC;rw [ac9,h];show List.foldl _ _ (List.take i l++[e])=_;rw [af2];rfl
theorem CI{r:RN}{p:Nat}{x:Nat×List bA}(h:(dC r.ends)[p]? =some x):x.2=cI r x.1:=(wJ r.ends).val p x h
theorem VX{r:RN}{n:Nat}(h:n∉hC (dC r.ends)):cI r n=[]:=by
 unfold cI;have:(r.ends.filter fun e=>decide (e.1=n))=[]:=by rw [List.filter_eq_nil_iff];intro a ha h';exact h (((wJ r.ends).mem n).2 ⟨a,ha,by simpa using h'⟩)
 rw [this];rfl
def AF(op:List Int)(all:List (List Int))(i j:Nat):List Int:=op++(if j<=i then (all.take j).flatten else (all.take i).flatten++((all.take j).drop (i+1)).flatten)
theorem KK(op:List Int)(all:List (List Int))(i:Nat):AF op all i 0=op:=by unfold AF;rw [iT (aa4 _)];simp
theorem KI{op:List Int}{all:List (List Int)}{i j:Nat}{c:List Int}(h:all[j]? =some c)(hij:j≠i):AF op all i (j+1)=AF op all i j++c:=by
 have hj:j<all.length:=(aa8.1 h).1;unfold AF;rw [ac9,h];show op++(if j+1<=i then (all.take j++[c]).flatten else (all.take i).flatten++((all.take j++[c]).drop (i+1)).flatten)=_
 by_cases h1:j<i
 ·rw [iT (by omega),iT (by omega)];simp
 ·rw [iF (by omega),iF (by omega),List.drop_append_of_le_length (by rw [ac1];omega)];simp
theorem KJ{op:List Int}{all:List (List Int)}{i:Nat}:AF op all i (i+1)=AF op all i i:=by unfold AF;rw [iF (by omega),iT (ab3 _),ad3 (by rw [ac1];omega)];simp
theorem PZ{op:List Int}{all:List (List Int)}{i:Nat}(h:i<all.length):AF op all i all.length=gB op all i:=by unfold AF gB;rw [iF (by omega),ac4]
theorem CD(all:List (List Int))(i:Nat):((all.take i).flatten).length<=all.flatten.length:=by
 conv=>rhs;rw [<-ae3 i all]
 rw [as3,aa1];omega
theorem P0(op:List Int)(all:List (List Int))(i j:Nat):(AF op all i j).length<=op.length+all.flatten.length:=by
 unfold AF;rw [aa1];split
 ·have:=CD all j;omega
 ·rename_i h;have h1:=CD all j;have h2:all.take j=all.take i++(all.take j).drop i:=by
   have:=ae3 i (all.take j);rw [List.take_take,ah6 (by omega)] at this;exact this.symm
  rw [h2,as3,aa1] at h1;have h3:((all.take j).drop (i+1)).flatten.length<=((all.take j).drop i).flatten.length:=by
   have e:(all.take j).drop (i+1)=((all.take j).drop i).drop 1:=by rw [List.drop_drop]
   rw [e];cases (all.take j).drop i with
   |nil=>simp |cons x r=>simp
  rw [aa1];omega
theorem uW{α:Type} [DecidableEq α]{lt:α->α->Bool}: ∀(l:List α) (x:α),(kG lt l x).length<=l.length+1
 | [],x=>by simp [kG] |y::r,x=>by
  have:=uW (lt:=lt) r x;simp only [kG]
  repeat' split
  all_goals simp only [ab7] at*
  all_goals omega
theorem cY{α:Type} [DecidableEq α]{lt:α->α->Bool}: ∀(m l:List α),(bW lt l m).length<=l.length+m.length
 | [],l=>by simp [bW] |x::m,l=>by have h1:=cY (lt:=lt) m (kG lt l x);have h2:=uW (lt:=lt) l x;show (bW lt (kG lt l x) m).length<=_;rw [ab7];omega
theorem cJ(p:PR):(aB p).length<=(dW p).length:=by have:=cY (lt:=j8) (dW p) [];simpa [aB,bS] using this
theorem vX: ∀l:List PR,(l.map aB).flatten.length<=(aI l).length
 | []=>by simp [aI] |x::r=>by have h1:=cJ x;have h2:=vX r;rw [af6,as9,aI,aa1,aa1];omega
theorem DB(op:List Int)(l:List PR){i:Nat}{x:PR}(h:l[i]? =some x):(gB op (l.map aB) i).length+(dW x).length<=op.length+(aI l).length:=by
 have hi:i<l.length:=(aa8.1 h).1;have hs:l=l.take i++(x::l.drop (i+1)):=by have:=(aa8.1 h).2;rw [<-this,<-aj5 hi,ae3]
 have happ: ∀a b:List PR,aI (a++b)=aI a++aI b:=fun a b=>by
  induction a with
  |nil=>rw [aI];rfl |cons y a ih=>rw [ad4,aI,aI,ih,ab2]
 have h1:(aI l).length=(aI (l.take i)).length+((dW x).length+(aI (l.drop (i+1))).length):=by
  conv=>lhs;rw [hs]
  rw [happ,aI,aa1,aa1]
 have h2:=vX (l.take i);have h3:=vX (l.drop (i+1));unfold gB;rw [aa1,aa1,<-List.map_take,<-ap8,h1];omega
def mB(chs:List (List Int))(rs:List RN)(s:bA):TR->Nat->List Nat->RN->RN
 | [],_,_,r=>r |e::t,n,cn,r=>if eE chs rs cn e.1=true then gC chs rs s t (n+1) (gA chs cn e.1) r else r
theorem vF{chs:List (List Int)}{rs:List RN}{s:bA}: ∀(t:TR) (n:Nat) (cn:List Nat) (r:RN),gC chs rs s t n cn r=mB chs rs s t n cn (fC s rs cn n r)
 | [],n,cn,r=>by rw [gC,mB] |e::t,n,cn,r=>by rw [gC,mB]
theorem B5{chs:List (List Int)}{rs:List RN}{s:bA}{e:EL}{t:TR}{n:Nat}{cn:List Nat}{r:RN}(h:eE chs rs cn e.1=true):mB chs rs s (e::t) n cn r=mB chs rs s t (n+1) (gA chs cn e.1) (fC s rs (gA chs cn e.1) (n+1) r):=by rw [mB,iT h,vF]
theorem qN{chs:List (List Int)}{rs:List RN}{s:bA}{e:EL}{t:TR}{n:Nat}{cn:List Nat}{r:RN}(h:eE chs rs cn e.1=false):mB chs rs s (e::t) n cn r=r:=by rw [mB,iF (by rw [h];decide)]
theorem JH{rs:List RN}{cn:List Nat}(h:cn.length=rs.length):dA ((rs.zipWith cI cn).map List.length)<=dA (rs.map fun r=>r.ends.length):=by
 refine qX (by simp [h]) fun i x y hx hy=>?_;rw [ab5,List.getElem?_zipWith] at hx;rw [ab5] at hy;cases hr:rs[i]? with
 |none=>rw [hr] at hy;cases hy |some r=>
  rw [hr] at hx hy;cases hc:cn[i]? with
  |none=>rw [hc] at hx;cases hx |some c=>
   rw [hc] at hx;injection hx with hx;injection hy with hy;rw [<-hx,<-hy];unfold cI;rw [aa0];exact ah4 ..
theorem D8{chs:List (List Int)}{rs:List RN}{cn:List Nat}{c:Int}(h:eE chs rs cn c=true): ∀(i:Nat) n r,(gA chs cn c)[i]? =some n->rs[i]? =some r->n<=r.reach:=by
 intro i n r hn hr;unfold eE at h;rw [aa3,ae5] at h;have hz:((gA chs cn c).zip rs)[i]? =some (n,r):=by rw [ai1];exact ⟨hn,hr⟩
 simpa using h.2 _ (aa2 hz)
section
variable{α:Type} [DecidableEq α]{lt:α->α->Bool}{cmp:α->α->Int}
def lexB(lt:α->α->Bool):List α->List α->Bool
 | [],[]=>false | [],_::_=>true
 |_::_,[]=>false |x::a,y::b=>if x=y then lexB lt a b else lt x y
theorem zX: ∀a:List α,lexB lt a a=false
 | []=>rfl |x::a=>by rw [lexB,iT T,zX a]
theorem CV(o:Ord lt): ∀a b c:List α,lexB lt a b=true->lexB lt b c=true->lexB lt a c=true
 | [],[],_,h,_=>by rw [lexB] at h;cases h | [],_::_,[],_,h=>by rw [lexB] at h;cases h
 | [],_::_,_::_,_,_=>by rw [lexB] |_::_,[],_,h,_=>by rw [lexB] at h;cases h
 |_::_,_::_,[],_,h=>by rw [lexB] at h;cases h |x::a,y::b,z::c,h1,h2=>by
  rw [lexB] at h1 h2⊢
  by_cases e1:x=y
  ·subst e1;rw [iT T] at h1
   by_cases e2:x=z
   ·subst e2;rw [iT T] at h2⊢;exact CV o a b c h1 h2
   ·rw [iF e2] at h2⊢;exact h2
  ·rw [iF e1] at h1
   by_cases e2:y=z
   ·subst e2;rw [iF e1];exact h1
   ·rw [iF e2] at h2;have h3:=o.trans _ _ _ h1 h2;rw [iF (fun e=>by subst e;rw [o.irrefl] at h3;cases h3)];exact h3
theorem J6(o:Ord lt): ∀a b:List α,lexB lt a b=false->lexB lt b a=false->a=b
 | [],[],_,_=>rfl | [],_::_,h,_=>by rw [lexB] at h;cases h
 |_::_,[],_,h=>by rw [lexB] at h;cases h |x::a,y::b,h1,h2=>by
  rw [lexB] at h1 h2
  by_cases e:x=y
  ·subst e;rw [iT T] at h1 h2;rw [J6 o a b h1 h2]
  ·rw [iF e] at h1;rw [iF (Ne.symm e)] at h2;exact absurd (o.tri _ _ h1 h2) e
theorem P3(o:Ord lt):Ord (lexB lt):=⟨zX,CV o,J6 o⟩
def rK(cmp:α->α->Int):List α->List α->Int
 | [],[]=>0 | [],_::_=> -1
 |_::_,[]=>1 |x::a,y::b=>if cmp x y=0 then rK cmp a b else cmp x y
theorem F3{β:Type}{cmp:β->β->Int}(h: ∀x y,cmp x y=0↔x=y): ∀a b:List β,rK cmp a b=0↔a=b
 | [],[]=>by simp [rK] | [],_::_=>by simp [rK]
 |_::_,[]=>by simp [rK] |x::a,y::b=>by
  rw [rK]
  by_cases h0:cmp x y=0
  ·rw [iT h0,F3 h a b];have:=(h x y).1 h0;subst this;simp
  ·rw [iF h0];exact ⟨fun h1=>absurd h1 h0,fun h1=>by injection h1 with h1 _;exact absurd ((h x y).2 h1) h0⟩
theorem HO(h: ∀x y,cmp x y=0↔x=y)(hl: ∀x y,cmp x y<0↔lt x y=true): ∀a b:List α,rK cmp a b<0↔lexB lt a b=true
 | [],[]=>by simp [rK,lexB] | [],_::_=>by simp [rK,lexB]
 |_::_,[]=>by simp [rK,lexB] |x::a,y::b=>by
  rw [rK,lexB]
  by_cases h0:cmp x y=0
  ·rw [iT h0,iT ((h x y).1 h0)];exact HO h hl a b
  ·rw [iF h0,iF (fun e=>h0 ((h x y).2 e))];exact hl x y
end
abbrev ltRw:List Int->List Int->Bool:=lexB j8
abbrev mE:bA->bA->Bool:=lexB ltRw
theorem HW:Ord mE:=P3 (P3 wT)
def EM(x y:Int):Int:=if x<y then-1 else if y<x then 1 else 0
theorem E9(x y:Int):EM x y=0↔x=y:=by unfold EM;repeat' split;all_goals omega
theorem Z3(x y:Int):EM x y<0↔j8 x y=true:=by
 unfold EM j8;rw [dT]
 repeat' split
 all_goals omega
abbrev vY:List Int->List Int->Int:=rK EM
abbrev FA:bA->bA->Int:=rK vY
theorem MO(a b:List Int):vY a b=0↔a=b:=F3 E9 a b
theorem U6(a b:bA):FA a b<0↔mE a b=true:=HO MO (HO E9 Z3) a b
def zN(r:RN)(n:Nat):List bA:=bW mE [] (cI r n)
theorem RQ{r:RN}{n:Nat}{s:bA}:s∈zN r n↔(n,s)∈r.ends:=by unfold zN;rw [lV,kE];simp
theorem W9{r:RN}(h:r.ends.Nodup)(n:Nat):(cI r n).Nodup:=by unfold cI;have h1:(r.ends.filter fun e=>decide (e.1=n)).Nodup:=h.sublist (List.filter_sublist ..);show (List.map _ _).Pairwise _;rw [List.pairwise_map];refine h1.imp_of_mem fun {x y} hx hy hne e=>hne ?_;have h2:=(aj0.1 hx).2;have h3:=(aj0.1 hy).2;simp only [dT] at h2 h3;exact Prod.ext (h2.trans h3.symm) e
theorem TF{l m:List bA}(hn:m.Nodup)(hp:l.Perm m)(hs:l.Pairwise fun x y=>mE y x=false):l=bW mE [] m:=by
 have hl:l.Nodup:=hp.nodup_iff.2 hn;refine G2 HW ?_ (nO HW List.Pairwise.nil) fun z=>?_
 ·refine (hs.and hl).imp fun {a b} hab=>?_;cases h:mE a b with
  |true=>rfl |false=>exact absurd (HW.tri a b h hab.1) hab.2
 ·rw [lV,hp.mem_iff];simp
theorem takeN{α:Type}{l:List α}{i:Nat}{x:α}(h:l[i]? =some x):l.take (i+1)=l.take i++[x]:=by rw [ac9,h];rfl
abbrev eR(l m:List fK):List fK:=m.foldl fF l
abbrev lL(n:Nat)(r:RN):RN:=⟨n+r.reach,r.ends.map fun e=>(n+e.1,e.2),r.miss⟩
def JB(a b:RN):RN:=⟨max a.reach b.reach,eR (eR [] a.ends) b.ends,a.miss||b.miss⟩
theorem EY: ∀(m l:List fK),(∀e,e∈m->e∉l)->m.Nodup->eR l m=l++m
 | [],l,_,_=>by simp [eR] |e::m,l,h,hn=>by
  rw [aj1] at hn;have he:fF l e=l++[e]:=by unfold fF;rw [iF (h e (.head _))]
  show eR (fF l e) m=_;rw [he,EY m (l++[e]) (fun x hx hx2=>?_) hn.2,ab2];rfl;rcases ad8.1 hx2 with hx2|hx2
  ·exact h x (.tail _ hx) hx2
  ·rw [ab0.1 hx2] at hx;exact hn.1 hx
theorem UA{m:List fK}(h:m.Nodup):eR [] m=m:=EY m [] (fun e _ h=>by cases h) h
theorem T9(n:Nat)(q l:List fK):eR l (q.map fun e=>(n+e.1,e.2))=q.foldl (fun l e=>fF l (n+e.1,e.2)) l:=by unfold eR;rw [List.foldl_map]
theorem BX{a:RN}(q:RN)(n:Nat)(h:a.ends.Nodup):JB a (lL n q)=cM a n q:=by unfold JB cM;rw [UA h,T9]
theorem RD{a:RN}(q:RN)(h:a.ends.Nodup):JB a q=cM a 0 q:=by rw [<-BX q 0 h];unfold lL;congr 1;obtain ⟨r,l,m⟩:=q;simp
theorem pR(m l:List fK):(eR l m).length<=l.length+m.length:=by
 have:=qL (n:=0) m l;have e:m.foldl (fun l e=>fF l (0+e.1,e.2)) l=eR l m:=by unfold eR;congr 1;funext l e;rw [ag9]
 rw [e] at this;exact this
theorem J9{y:fK}: ∀(m l:List fK),y∈eR l m↔y∈l\/y∈m
 | [],l=>by simp [eR] |e::m,l=>by show y∈eR (fF l e) m↔_;rw [J9 m,sG,ab6,or_assoc]
theorem sY{l m:List fK}{i:Nat}{e:fK}(h:m[i]? =some e):eR l (m.take (i+1))=fF (eR l (m.take i)) e:=by unfold eR;rw [ac9,h,af2];rfl
theorem NO(s:bA)(v i x:Int):(iK s v i x).map List.length=s.map List.length:=by
 unfold iK;split
 ·split
  ·rename_i r hr;rw [an0,ak6];apply af0;intro a;rw [ah0];split
   ·rename_i h;subst h;rw [ab5,hr];split
    ·rfl
    ·rename_i h2;exfalso;apply h2;rw [aa0];exact (aa8.1 hr).1
   ·rfl
  ·rfl
 ·rfl
def ZX:List (List bA)->List (List bA)
 | []=>[[]] |b::r=>b.flatMap fun x=>(ZX r).map fun c=>x::c
abbrev j9(s:bA)(c:List bA):bA:=c.foldl (fX s) s
theorem HX(s:bA): ∀(bs:List (List bA)) (out:bA),dD s bs out=(ZX bs).map fun c=>c.foldl (fX s) out
 | [],out=>rfl |b::r,out=>by rw [dD,ZX,List.map_flatMap];congr 1;funext x;rw [HX s r,List.map_map];rfl
theorem ZY: ∀bs:List (List bA),(ZX bs).length=dA (bs.map List.length)
 | []=>rfl |b::r=>by rw [<-qD (s:=[]) (b::r) [],HX,aa0]
theorem A5: ∀{bs:List (List bA)} {c:List bA},c∈ZX bs->c.length=bs.length/\ ∀x,x∈c-> ∃b,b∈bs/\x∈b
 | [],c,h=>by rw [ZX,ab0] at h;subst h;exact ⟨rfl,fun x h=>by cases h⟩ |b::r,c,h=>by
  rw [ZX,ai4] at h;obtain ⟨x,hx,h⟩:=h;rw [ai0] at h;obtain ⟨d,hd,rfl⟩:=h;obtain ⟨h1,h2⟩:=A5 hd;refine ⟨by rw [ab7,ab7,h1],fun y hy=>?_⟩;rcases ab6.1 hy with rfl|hy
  ·exact ⟨b, .head _,hx⟩
  ·obtain ⟨b',h3,h4⟩:=h2 y hy;exact ⟨b', .tail _ h3,h4⟩
theorem a0u(hs:List (Value×List Int))(p:Value×List Int)(h:hs.length<=1073741824):AV.v (.int .i64 (IntKind.i64.wrap ((hs.length:Nat)+1:Int)))=AI ((hs++[p]).length:Nat):=by rw [qR hs.length (by omega)];simp
theorem S4(hs:List (Value×List Int))(z:Value)(r:List Int):bU (hs++[(z,r)])=bU hs++[(z,r.map aN)]:=by simp [bU]
theorem W4(sz:Nat)(hs:List (Value×List AV))(z:Value)(l:List AV):oW sz (hs++[(z,l)])=oW sz hs++[.ms z sz l.length]:=by simp [oW]
theorem rput_p(s:List (List Int))(v i x:Int)(h1:s.length<=1073741823)(h2: ∀r,r∈s->r.length<=35184372088832):
 fB prog aU 95 [aF s,AI v,AI i,aN x] [] (fun p:Value×List (Value×List Int)=> .ms p.1 1 s.length) (fun p=>[.rows 1 (bU p.2), .row 1 p.1 (oW 1 (bU p.2))]) (fun p=>p.2.map al4=iK s v i x):=by
 unfold fB;have hl:((s.map jU).length:Int)=s.length:=by rw [aa0]
 have hat:=DI s v i;refine jB.of (S:=tt) (fn:=f95) (n:=45) dE func95 T T T T fun w0 h0 F hgs=>?_;refine y_ ?_;refine A.bo 9 1 T fun z0=>?_;refine A.gu 1 ?_;refine A.af [0,1,2,3,9,10] T ?_
 refine A.ae (ι:=Value×List (Value×List Int)) (fun p=>(⟨[(0,aF s),(1,AI v),(2,AI i),(3,aN x),(9, .ms p.1 1 p.2.length),(10,AI (p.2.length:Nat))],[]⟩,[.rows 1 (bU p.2), .row 1 p.1 (oW 1 (bU p.2))]))
  (fun p=>p.2.map al4=s.take p.2.length/\p.2.length<=s.length) (fun p=>s.length-p.2.length) (z0,[]) ⟨rfl,aa4 _⟩ T fun p hi ih=>?_
 obtain ⟨z,hs⟩:=p;simp only at hi;refine y_ ?_;refine k_ (fun hc=>?_) fun hc=>?_
 ·simp at hc;refine aX hc fun r hr=>?_;have hrl:=h2 r (aa2 hr);have eNx:=a0u hs;refine y_ ?_;refine i_ T (aC hr) T ?_;refine A.bk T T T T T T T T T T T T T (by show (List.map aN _).length*1<=_;rw [aa0];omega) (by show (List.map aN _).length*1*4<=_;rw [aa0];omega) (fun x hx=>by cases hx) (row_one _) fun z2=>?_;refine t_ fun bl=>?_;have hm:=jG hs;refine A.aj T T T T T T T T T T T T T T (by show ((oW 1 (bU hs)).length+1)*1<=_;rw [hm];omega) (by show ((oW 1 (bU hs)).length+1)*1*24<=_;rw [hm];omega) fun z3=>?_;refine A.fp ((List.Perm.swap _ _ _).trans ((List.Perm.swap _ _ _).cons _)) ?_;refine y_ ?_;refine A.aa 9 T (x':= .ms z3 1 (hs++[(z2,r)]).length) ?_ ?_
  ·simp [oW,bU];rfl
  refine A.aa 10 T (x':=AI (((hs++[(z2,r)]).length:Nat):Int)) (eNx (z2,r) (by omega)) ?_;refine A.ab (Λ':=[.rows 1 (bU (hs++[(z2,r)])), .row 1 z3 (oW 1 (bU (hs++[(z2,r)])))]) (by rw [S4,W4];rfl) ?_;refine u_ (ih (z3,hs++[(z2,r)]) ⟨?_,by simp;omega⟩ (by simp;omega));simp [hi.1,ac9,hr]
 ·simp at hc;have hlen:hs.length=s.length:=by omega
  have hsnd:hs.map al4=s:=by rw [hi.1,hlen,ac4]
  cases hv:mT s v i with
  |none=>
   rw [hv] at hat;refine y_ ?_;refine c_ (hat) ?_;refine A.aa 8 T (x':= .ms z 1 s.length) (by rw [<-hlen]) ?_;refine A.au (Λ':=[.rows 1 (bU hs), .row 1 z (oW 1 (bU hs))]) T T T rF ⟨(z,hs), .refl,rfl,?_⟩;show hs.map al4=_;rw [hsnd,iK,hv];rfl
  |some y=>
   rw [hv] at hat;have hneg: ¬(v<0\/i<0):=fun hh=>by rw [mT,iT hh] at hv;cases hv
   rw [mT,iF hneg] at hv;refine ab4 (Option.bind_eq_some_iff.1 hv) fun r hr=>?_;have hv2:(hs.map al4)[v.toNat]? =some r:=by rw [hsnd];exact hr.1
   rw [ab5] at hv2;refine ab4 (Option.map_eq_some_iff.1 hv2) fun p hp=>?_;have hpl:(bU hs)[v.toNat]? =some (p.1,r.map aN):=by rw [bU,ab5,hp.1,<-hp.2];rfl
   have hvl:v.toNat<hs.length:=(aa8.1 hp.1).1;have hrl:i.toNat<r.length:=(aa8.1 hr.2).1;refine y_ ?_;refine c_ (hat) ?_;refine A.ah T T T T T T T T (by omega) (by rw [jG];show v<(hs.length:Int);omega) T ?_;refine A.ba T T T T T T (y':= .ms p.1 1 (r.map aN).length) T (by rw [oW,ab5,hpl];rfl) T T ?_;refine A.fw v.toNat hpl (.refl _) ?_;refine y_ ?_;refine A.ah T T T T T T T T (by omega) (by rw [aa0];omega) T ?_;refine A.bq T T T T T T T T T (by rw [aa0];omega) (xs':=(r.set i.toNat x).map aN) an0.symm ?_;refine A.fj (.refl _) ?_;have hp2:p.2=r:=hp.2;refine A.ab (Λ':=[.rows 1 (bU (hs.set v.toNat (p.1,r.set i.toNat x))), .row 1 z (oW 1 (bU (hs.set v.toNat (p.1,r.set i.toNat x))))]) (by rw [YH hp.1 _ (by rw [ak6,hp2]),LB hvl]) ?_;refine y_ ?_;refine A.aa 8 T (x':= .ms z 1 s.length) (by rw [<-hlen]) ?_;refine A.au (Λ':=[.rows 1 (bU (hs.set v.toNat (p.1,r.set i.toNat x))), .row 1 z _]) T T T rF ⟨(z,hs.set v.toNat (p.1,r.set i.toNat x)), .refl,rfl,?_⟩;show (hs.set v.toNat (p.1,r.set i.toNat x)).map al4=iK s v i x;rw [an0,hsnd,iK,mT,iF hneg,hv,hr.1];rfl
theorem rPut_p(s:List (List Int))(v i x:Int)(h1:s.length<=1073741823)(h2: ∀r,r∈s->r.length<=35184372088832):Pure prog aU 95 [aF s,AI v,AI i,aN x] (aF (iK s v i x)):=
 yZ (rput_p s v i x h1 h2)
theorem E3{α:Type}{f:α->α->Bool}(hf: ∀x y,f x y=true↔x=y)(a b:List α):iV f a b=true↔a=b:=by
 constructor
 ·intro h;simp only [iV,allEq,aa3,dT,ae5,ah5] at h;obtain ⟨h1,h2⟩:=h;apply af0;intro i;rcases ae4 i a.length with hi|hi
  ·have h3:=h2 i hi;have hi2:i<b.length:=by omega
   rw [aa7 hi,aa7 hi2] at h3⊢;simp only [hf] at h3;rw [h3]
  ·rw [ac6 hi,ac6 (by omega)]
 ·rintro rfl;exact alike_refl (fun x=>(hf x x).2 rfl) a
theorem K9(a b:List (List Int)):sQ a b=true↔a=b:=E3 (fun x y=>E3 (fun u v=>by simp) x y) a b
abbrev eK(r:RN):AV:= .ag [AI (r.reach:Nat), .sl 2 (r.ends.map cT) none,AB r.miss]
abbrev qK(z:Value)(r:RN):AV:= .ag [AI (r.reach:Nat), .ms z 2 r.ends.length,AB r.miss]
theorem oC:Pure prog aU 62 [] (eK a7):=by
 refine P_ func62 2 fun _ _ _ _=>?_
 (refine b_ fun bx=>?_;refine y_ ?_)
 refine C_ ?_;exact s_
theorem oB(s:bA):Pure prog aU 50 [aF s] (eK (fM s)):=by
 refine P_ func50 7 fun _ _ _ _=>?_
 (refine b_ fun bx=>?_;refine t_ fun bl=>?_;refine y_ ?_)
 refine C_ ?_;exact s_
theorem TC{V:List KV}{s:bA}(h:IU V s):short s:=by obtain ⟨a,b⟩:=dX h;exact ⟨by omega,fun r hr=>by have:=b r hr;omega⟩
theorem qG{V:List KV}(l:List fK)(e:fK)(hl:jL V l)(he:IU V e.2/\e.1<=256)(hb:l.length<=1048576)(z:Value):fB prog aU 104 [.ms z 2 l.length,cT e] [.row 2 z (l.map cT)] (fun z':Value=> .ms z' 2 (fF l e).length) (fun z'=>[.row 2 z' ((fF l e).map cT)]) (fun _=>True):=by
 have n1:(l.map cT).length=l.length:=aa0 ..;unfold fB;refine jB.of (S:=tt) (fn:=f104) (n:=35) dE func104 T T T T fun w0 h0 F hgs=>?_;refine b_ fun b3=>?_;refine y_ ?_;refine A.af [0,3,5] T ?_;refine A.ae (ι:=Nat) (fun i=>(⟨[(0, .ms z 2 l.length),(3,aT b3),(5,AI (i:Nat))],[]⟩,[.box b3 (cT e), .row 2 z (l.map cT)])) (fun i=>i<=l.length/\e∉l.take i) (fun i=>l.length-i) 0 ⟨aa4 _,by simp⟩ T fun i hi ih=>?_;obtain ⟨hi1,hi2⟩:=hi;refine y_ ?_
 by_cases hci:i<l.length
 ·refine aX hci fun x hx=>?_;have hxe:=hl.shp x (aa2 hx);have hat:(l.map cT)[i]? =some (cT x):=aC hx;have hsm:=QD x.2 e.2 (TC hxe.1);refine T_ T (by show decide ((i:Int)<(l.length:Nat))=true;rw [dT];omega) ?_;refine A.ee (z:=z) (sz:=2) (l:=l.map cT) (ab9 _ (aa5 ..)) fun a cp hz hcp=>?_;rw [n1] at hz hcp;subst hz;refine A.cy (a:=a) (n:=l.length) (c:=cp) (sz:=2) (l:=l.map cT) (fun h=>by rw [h] at n1;simp at n1;omega) fun bb o ha=>?_;subst ha
  by_cases hn:x.1=e.1
  ·refine d_ 18 [0,1,2,3,4,5,6,7,8,9,10,11,12,13,14,15,16,17] [(16,AB (sQ x.2 e.2))] ?_;refine WA.ah T T T T T T T T T (by show (0:Int)<=(i:Nat);omega) (by show ((i:Nat):Int)<_;rw [n1];omega) T ?_;refine WA.ew 14 T ?_;refine w_ ?_;refine WA.al i 0 T T T T T l.length cp o (by rw [ac7]) hat (y:=AI (x.1:Nat)) T T ?_;refine w_ ?_;refine oH 20 T (x':=AB true) (aA (by rw [hn];simp)) ?_;refine WA.ah T T T T T T T T T (by show (0:Int)<=(i:Nat);omega) (by show ((i:Nat):Int)<_;rw [n1];omega) T ?_;refine WA.ew 23 T ?_;refine w_ ?_;refine WA.al i 1 T T T T T l.length cp o (by rw [ac7]) hat (y:=aF x.2) T T ?_;refine w_ ?_;refine rL hsm ?_;refine WA.nil (l:=[]) T ?_
   by_cases hs:x.2=e.2
   ·have hxe:x=e:=Prod.ext hn hs;refine e_ 29 T (x':=AB true) (aA (by rw [hs,TB];rfl)) ?_;refine A.au (Λ':=[_]) T T T (.cons _ (.refl _)) ⟨_,Sb.eq (by rw [BN (hxe▸aa2 hx)]),by rw [BN (hxe▸aa2 hx)],trivial⟩
   ·refine A.aa 29 T (x':=AB false) (aA (by cases h:sQ x.2 e.2 with
     |false=>rfl |true=>exact absurd ((K9 _ _).1 h) hs)) ?_
    refine y_ ?_;refine vI 5 i ?_;refine u_ (ih (i+1) ⟨by omega,by
     rw [takeN hx];intro hm;rcases ad8.1 hm with hm|hm
     ·exact hi2 hm
     ·rw [ab0] at hm;exact hs (by rw [hm])⟩ (by omega))
  ·refine d_ 18 [0,1,2,3,4,5,6,7,8,9,10,11,12,13,14,15,16,17] [(16,AB (sQ x.2 e.2))] ?_;refine WA.ah T T T T T T T T T (by show (0:Int)<=(i:Nat);omega) (by show ((i:Nat):Int)<_;rw [n1];omega) T ?_;refine WA.ew 14 T ?_;refine w_ ?_;refine WA.al i 0 T T T T T l.length cp o (by rw [ac7]) hat (y:=AI (x.1:Nat)) T T ?_;refine w_ ?_;refine oH 20 T (x':=AB false) (aA (by show (((x.1:Nat):Int)==((e.1:Nat):Int))=false;rw [beq_eq_false_iff_ne];omega)) ?_;refine z_ ?_;refine vI 5 i ?_;refine u_ (ih (i+1) ⟨by omega,by
    rw [takeN hx];intro hm;rcases ad8.1 hm with hm|hm
    ·exact hi2 hm
    ·rw [ab0] at hm;exact hn (by rw [hm])⟩ (by omega))
 ·refine A.gF T (by show decide ((i:Int)<(l.length:Nat))=false;rw [dF];omega) ?_;rw [aa6 (by omega)] at hi2;clear ih;refine t_ fun bl=>?_;refine A.aj T T T T T T T T T T T T T T (by show ((l.map cT).length+1)*2<=_;rw [n1];omega) (by show ((l.map cT).length+1)*2*32<=_;rw [n1];omega) fun z2=>?_;refine y_ ?_;refine A.au (Λ':=[_]) T T T (List.Sublist.cons_cons _ (List.nil_sublist _)) ⟨z2,Sb.eq (by rw [G1 hi2,aa1,n1];rfl),by rw [G1 hi2,ac0];rfl,trivial⟩
theorem pZ{V:List KV}{l m:List fK}(hl:jL V l)(hm:jL V m):jL V (eR l m):=⟨fun e he=>by
 rcases (J9 _ _).1 he with he|he
 ·exact hl.shp e he
 ·exact hm.shp e he⟩
theorem wB{V:List KV}:jL V []:=⟨fun e he=>by cases he⟩
theorem s9{V:List KV}{l:List fK}(h:jL V l)(i:Nat):jL V (l.take i):=⟨fun e he=>h.shp e (ag0 he)⟩
theorem H6(a:Int)(h:GH)(m:AV)(y:Value)(q:Rp h (.ag [AI a, .v (.slice none 0 0),m]) y):Rp h (.ag [AI a, .ms (.slice none 0 0) 2 0,m]) y:=by rw [gY] at q⊢;obtain ⟨ds,rfl,q⟩:=q;refine ⟨ds,rfl,?_⟩;rw [aJ] at q⊢;obtain ⟨v,vs,rfl,q1,q2⟩:=q;refine ⟨v,vs,rfl,q1,?_⟩;rw [aJ] at q2⊢;obtain ⟨v,vs,rfl,q1,q2⟩:=q2;rw [bN] at q1;obtain ⟨rfl,_⟩:=q1;exact ⟨_,vs,rfl,gI.2 ⟨rfl,none,0,rfl⟩,q2⟩
theorem DQ(z:Value)(r:RN):Fz z 2 (r.ends.map cT) (qK z r) (eK r):=Fz.ag (IX.cons (Fz.sub .refl) (IX.cons Fz.ms (IX.sub .refl)))
theorem I9{V:List KV}(a b:RN)(ha:jL V a.ends)(hb:jL V b.ends)(h1:a.reach<=1048576)(h2:b.reach<=1048576)(hla:a.ends.length<=65536)(hlb:b.ends.length<=65536):Pure prog aU 100 [eK a,eK b] (eK (JB a b)):=by
 have na:((a.ends.map cT).length:Int)=a.ends.length:=by rw [aa0]
 have nb:((b.ends.map cT).length:Int)=b.ends.length:=by rw [aa0]
 have hmx:(if ((a.reach:Nat):Int)<((b.reach:Nat):Int) then ((b.reach:Nat):Int) else ((a.reach:Nat):Int))=((max a.reach b.reach:Nat):Int):=by split<;>omega
 refine eX ((a.miss||b.miss)) fun ms hms=>?_;refine eX (max a.reach b.reach) fun rc hrc=>?_;have hR:JB a b=⟨rc,eR (eR [] a.ends) b.ends,ms⟩:=by rw [hms,hrc];rfl
 rw [hR];clear hR
 by_cases hma:a.miss=true
 ·refine P_ func100 53 fun _ _ _ _=>?_;refine b_ fun b2=>?_;refine A.b T fun b3=>?_;refine A.b T fun b4=>?_;(repeat first|refine A.r T T ?_|refine A.s T ?_);refine A.gT T hma ?_;refine b_ fun b5=>?_;refine y_ ?_;refine A.ab (Λ':=[.box b5 (.ag [AI (rc:Nat), .v (.slice none 0 0),AB ms]), .box b4 _, .box b3 (eK b), .box b2 (eK a)]) (by rw [hms,hrc,hma,<-hmx];rfl) ?_;refine A.bn (b:=b5) (x':= .ag [AI (rc:Nat), .ms (.slice none 0 0) 2 0,AB ms]) (.refl _) (fun h y q=>H6 _ h _ y q) ?_;refine A.av 2 ?_;refine A.af [2,3,4,5,6] T ?_;refine A.ab (Λ':=[.row 2 (.slice none 0 0) ((eR [] (a.ends.take 0)).map cT), .box b5 (qK (.slice none 0 0) ⟨rc,eR [] (a.ends.take 0),ms⟩), .box b4 _, .box b3 (eK b), .box b2 (eK a)]) T ?_;refine A.ae (ι:=Nat×Value) (fun u=>(⟨[(2,aT b2),(3,aT b3),(4,aT b4),(5,aT b5),(6,AI (u.1:Nat))],[]⟩,[.row 2 u.2 ((eR [] (a.ends.take u.1)).map cT), .box b5 (qK u.2 ⟨rc,eR [] (a.ends.take u.1),ms⟩), .box b4 _, .box b3 (eK b), .box b2 (eK a)])) (fun u=>u.1<=a.ends.length) (fun u=>a.ends.length-u.1) (0, .slice none 0 0) (aa4 _) T fun u hu ih=>?_;obtain ⟨i,z⟩:=u;simp only at hu;refine y_ ?_
  by_cases hci:i<a.ends.length
  ·refine aX hci fun x hx=>?_;have hxe:=ha.shp x (aa2 hx);have hll:=pR (a.ends.take i) [];rw [ac1] at hll;have hadd:=qG (eR [] (a.ends.take i)) x (pZ wB (s9 ha i)) hxe (by have:([]:List fK).length=0:=rfl;omega) z;rw [<-sY hx] at hadd;refine T_ T (by show decide ((i:Int)<((a.ends.map cT).length:Int))=true;rw [na,dT];omega) ?_;refine A.cq [(7, .row 2 z ((eR [] (a.ends.take i)).map cT))] 8 [0,1,2,3,4,5,6,7] (fun i=>if i=7 then [7] else []) [] (.refl _) T T (by rfl) (by kernel_rfl) (by kernel_rfl) ?_;refine w_ ?_;refine gX T (aC hx) T ?_;refine WA.ej T T T T T T T T T hadd s_ fun z2 _=>?_;refine WA.nil (l:=[_]) T ?_;refine y_ ?_;refine vI 6 i ?_;refine u_ (ih (i+1,z2) (by show i+1<=_;omega) (by show _-(i+1)<_-i;omega))
  refine A.gF T (by show decide ((i:Int)<((a.ends.map cT).length:Int))=false;rw [na,dF];omega) ?_;clear ih;refine eX (eR [] a.ends) fun A0 hA0=>?_;have hA0e:jL V A0:=by rw [hA0];exact pZ wB ha
  have hA0l:A0.length<=65536:=by have:=pR a.ends [];rw [hA0];have:([]:List fK).length=0:=rfl;omega
  rw [<-hA0];refine y_ ?_;refine A.af [3,4,5,7] T ?_;refine A.ab (Λ':=[.row 2 z ((eR A0 (b.ends.take 0)).map cT), .box b5 (qK z ⟨rc,eR A0 (b.ends.take 0),ms⟩), .box b4 _, .box b3 (eK b), .box b2 (eK a)]) (by rw [hA0,aa6 (by omega:a.ends.length<=i)];rfl) ?_;refine A.ae (ι:=Nat×Value) (fun u=>(⟨[(3,aT b3),(4,aT b4),(5,aT b5),(7,AI (u.1:Nat))],[]⟩,[.row 2 u.2 ((eR A0 (b.ends.take u.1)).map cT), .box b5 (qK u.2 ⟨rc,eR A0 (b.ends.take u.1),ms⟩), .box b4 _, .box b3 (eK b), .box b2 (eK a)])) (fun u=>u.1<=b.ends.length) (fun u=>b.ends.length-u.1) (0,z) (aa4 _) T fun u hu ih=>?_;obtain ⟨j,z⟩:=u;simp only at hu;refine y_ ?_
  by_cases hcj:j<b.ends.length
  ·refine aX hcj fun x hx=>?_;have hxe:=hb.shp x (aa2 hx);have hll:=pR (b.ends.take j) A0;rw [ac1] at hll;have hadd:=qG (eR A0 (b.ends.take j)) x (pZ hA0e (s9 hb j)) hxe (by omega) z;rw [<-sY hx] at hadd;refine T_ T (by show decide ((j:Int)<((b.ends.map cT).length:Int))=true;rw [nb,dT];omega) ?_;refine A.cq [(7, .row 2 z ((eR A0 (b.ends.take j)).map cT))] 8 [0,1,2,3,4,5,6,7] (fun i=>if i=7 then [7] else []) [] (.refl _) T T (by rfl) (by kernel_rfl) (by kernel_rfl) ?_;refine w_ ?_;refine gX T (aC hx) T ?_;refine WA.ej T T T T T T T T T hadd s_ fun z2 _=>?_;refine WA.nil (l:=[_]) T ?_;refine y_ ?_;refine vI 7 j ?_;refine u_ (ih (j+1,z2) (by show j+1<=_;omega) (by show _-(j+1)<_-j;omega))
  refine A.gF T (by show decide ((j:Int)<((b.ends.map cT).length:Int))=false;rw [nb,dF];omega) ?_;clear ih;refine A.ab (Λ':=[.row 2 z ((eR A0 b.ends).map cT), .box b5 (qK z ⟨rc,eR A0 b.ends,ms⟩), .box b4 _, .box b3 (eK b), .box b2 (eK a)]) (by rw [aa6 (by omega:b.ends.length<=j)]) ?_;refine A.ak 5 z (x':=eK ⟨rc,eR A0 b.ends,ms⟩) T (DQ z ⟨rc,eR A0 b.ends,ms⟩) ?_;refine y_ ?_;refine C_ ?_;exact s_
 ·have hma:a.miss=false:=by simpa using hma
  refine P_ func100 53 fun _ _ _ _=>?_;refine b_ fun b2=>?_;refine A.b T fun b3=>?_;refine A.b T fun b4=>?_;(repeat first|refine A.r T T ?_|refine A.s T ?_);refine A.gF T hma ?_;(repeat first|refine A.r T T ?_|refine A.s T ?_);refine A.b T fun b5=>?_;refine y_ ?_;refine A.ab (Λ':=[.box b5 (.ag [AI (rc:Nat), .v (.slice none 0 0),AB ms]), .box b4 _, .box b3 (eK b), .box b2 (eK a)]) (by rw [hms,hrc,hma,<-hmx];rfl) ?_;refine A.bn (b:=b5) (x':= .ag [AI (rc:Nat), .ms (.slice none 0 0) 2 0,AB ms]) (.refl _) (fun h y q=>H6 _ h _ y q) ?_;refine A.av 2 ?_;refine A.af [2,3,4,5,6] T ?_;refine A.ab (Λ':=[.row 2 (.slice none 0 0) ((eR [] (a.ends.take 0)).map cT), .box b5 (qK (.slice none 0 0) ⟨rc,eR [] (a.ends.take 0),ms⟩), .box b4 _, .box b3 (eK b), .box b2 (eK a)]) T ?_;refine A.ae (ι:=Nat×Value) (fun u=>(⟨[(2,aT b2),(3,aT b3),(4,aT b4),(5,aT b5),(6,AI (u.1:Nat))],[]⟩,[.row 2 u.2 ((eR [] (a.ends.take u.1)).map cT), .box b5 (qK u.2 ⟨rc,eR [] (a.ends.take u.1),ms⟩), .box b4 _, .box b3 (eK b), .box b2 (eK a)])) (fun u=>u.1<=a.ends.length) (fun u=>a.ends.length-u.1) (0, .slice none 0 0) (aa4 _) T fun u hu ih=>?_;obtain ⟨i,z⟩:=u;simp only at hu;refine y_ ?_
  by_cases hci:i<a.ends.length
  ·refine aX hci fun x hx=>?_;have hxe:=ha.shp x (aa2 hx);have hll:=pR (a.ends.take i) [];rw [ac1] at hll;have hadd:=qG (eR [] (a.ends.take i)) x (pZ wB (s9 ha i)) hxe (by have:([]:List fK).length=0:=rfl;omega) z;rw [<-sY hx] at hadd;refine T_ T (by show decide ((i:Int)<((a.ends.map cT).length:Int))=true;rw [na,dT];omega) ?_;refine A.cq [(7, .row 2 z ((eR [] (a.ends.take i)).map cT))] 8 [0,1,2,3,4,5,6,7] (fun i=>if i=7 then [7] else []) [] (.refl _) T T (by rfl) (by kernel_rfl) (by kernel_rfl) ?_;refine w_ ?_;refine gX T (aC hx) T ?_;refine WA.ej T T T T T T T T T hadd s_ fun z2 _=>?_;refine WA.nil (l:=[_]) T ?_;refine y_ ?_;refine vI 6 i ?_;refine u_ (ih (i+1,z2) (by show i+1<=_;omega) (by show _-(i+1)<_-i;omega))
  refine A.gF T (by show decide ((i:Int)<((a.ends.map cT).length:Int))=false;rw [na,dF];omega) ?_;clear ih;refine eX (eR [] a.ends) fun A0 hA0=>?_;have hA0e:jL V A0:=by rw [hA0];exact pZ wB ha
  have hA0l:A0.length<=65536:=by have:=pR a.ends [];rw [hA0];have:([]:List fK).length=0:=rfl;omega
  rw [<-hA0];refine y_ ?_;refine A.af [3,4,5,7] T ?_;refine A.ab (Λ':=[.row 2 z ((eR A0 (b.ends.take 0)).map cT), .box b5 (qK z ⟨rc,eR A0 (b.ends.take 0),ms⟩), .box b4 _, .box b3 (eK b), .box b2 (eK a)]) (by rw [hA0,aa6 (by omega:a.ends.length<=i)];rfl) ?_;refine A.ae (ι:=Nat×Value) (fun u=>(⟨[(3,aT b3),(4,aT b4),(5,aT b5),(7,AI (u.1:Nat))],[]⟩,[.row 2 u.2 ((eR A0 (b.ends.take u.1)).map cT), .box b5 (qK u.2 ⟨rc,eR A0 (b.ends.take u.1),ms⟩), .box b4 _, .box b3 (eK b), .box b2 (eK a)])) (fun u=>u.1<=b.ends.length) (fun u=>b.ends.length-u.1) (0,z) (aa4 _) T fun u hu ih=>?_;obtain ⟨j,z⟩:=u;simp only at hu;refine y_ ?_
  by_cases hcj:j<b.ends.length
  ·refine aX hcj fun x hx=>?_;have hxe:=hb.shp x (aa2 hx);have hll:=pR (b.ends.take j) A0;rw [ac1] at hll;have hadd:=qG (eR A0 (b.ends.take j)) x (pZ hA0e (s9 hb j)) hxe (by omega) z;rw [<-sY hx] at hadd;refine T_ T (by show decide ((j:Int)<((b.ends.map cT).length:Int))=true;rw [nb,dT];omega) ?_;refine A.cq [(7, .row 2 z ((eR A0 (b.ends.take j)).map cT))] 8 [0,1,2,3,4,5,6,7] (fun i=>if i=7 then [7] else []) [] (.refl _) T T (by rfl) (by kernel_rfl) (by kernel_rfl) ?_;refine w_ ?_;refine gX T (aC hx) T ?_;refine WA.ej T T T T T T T T T hadd s_ fun z2 _=>?_;refine WA.nil (l:=[_]) T ?_;refine y_ ?_;refine vI 7 j ?_;refine u_ (ih (j+1,z2) (by show j+1<=_;omega) (by show _-(j+1)<_-j;omega))
  refine A.gF T (by show decide ((j:Int)<((b.ends.map cT).length:Int))=false;rw [nb,dF];omega) ?_;clear ih;refine A.ab (Λ':=[.row 2 z ((eR A0 b.ends).map cT), .box b5 (qK z ⟨rc,eR A0 b.ends,ms⟩), .box b4 _, .box b3 (eK b), .box b2 (eK a)]) (by rw [aa6 (by omega:b.ends.length<=j)]) ?_;refine A.ak 5 z (x':=eK ⟨rc,eR A0 b.ends,ms⟩) T (DQ z ⟨rc,eR A0 b.ends,ms⟩) ?_;refine y_ ?_;refine C_ ?_;exact s_
abbrev DC(o:Option bA):AV:= .tp [aF (o.getD []),AB o.isSome]
theorem dH{α:Type}(o:Option α):o=none\/ ∃x,o=some x:=by
 cases o with
 |none=>exact .inl T |some x=>exact .inr ⟨x,rfl⟩
theorem OK{V:List KV}{s out:bA}(hs:bI V s)(ho:bI V out){e:KE}{to:PL}{x:Int}{q:Int×Int}(hw:l5 e)(ha:dG V to e=true)(hv:bH s e=some x)(hp:fU s to.v to.ix=some q):bI V (iK out q.1 q.2 x):=by
 refine ho.put (LO hs hw hv) fun y hy=>?_;have hvv:q.1=to.v:=HZ hp;rw [hvv] at hy;unfold dG at ha;split at ha
 ·cases ha
 ·simp only [hy,aa3] at ha;exact GG (D7 (VW hs hy)) (vM hs ha.2 hv)
structure As where
 i:Nat
 out:bA
theorem QA{V:List KV}{C:List Int}{p:PR}(u:Un V C p){t:PL}(ht:t∈p.to):nJ t.ix/\t.ix.length<=281474976710656:=by have:=u.loc.to t ht;refine ⟨this.1,?_⟩;have:=this.2.1;omega
theorem asgn_p{V:List KV}{C:List Int}(p:PR)(u:Un V C p)(hk:p.kind=4)(s:bA)(hs:bI V s):Pure prog aU 40 [aE p,aF s] (DC (iN s p.to p.e s)):=by
 obtain ⟨k1,k2⟩:=u.k4 hk;have n2:((p.to.map gZ).length:Int)=p.to.length:=by rw [aa0]
 have hto8:=(yJ (u.kb (by omega))).1;refine eX (iN s p.to p.e s) fun R hR=>?_;rw [<-hR];refine P_ func40 53 fun _ _ _ _=>?_;refine b_ fun b2=>?_;refine y_ ?_;refine A.aa 17 T (x':=AI (p.to.length:Nat)) (aL n2) ?_;refine A.af [1,2,6,16,17,18] T ?_
 refine A.ae (ι:=As) (fun v=>(⟨[(1,aF s),(2,aT b2),(6,aF v.out),(16,DF p.to),(17,AI (p.to.length:Nat)),(18,AI (v.i:Nat))],[]⟩,[.box b2 (aE p)]))
  (fun v=>v.i<=p.to.length/\bI V v.out/\R=iN s (p.to.drop v.i) (p.e.drop v.i) v.out) (fun v=>p.to.length-v.i) ⟨0,s⟩ ⟨aa4 _,hs,by rw [ag3,ag3];exact hR⟩ T fun v hv ih=>?_
 obtain ⟨i,out⟩:=v;obtain ⟨hi1,ho,hRi⟩:=hv;simp only at hi1 ho hRi;refine y_ ?_
 by_cases hci:i<p.to.length
 ·refine aX hci fun t ht=>?_;refine ab4 (bT (l:=p.e) (i:=i) (by omega)) fun e he=>?_;obtain ⟨w1,w2⟩:=QA u (aa2 ht);have we:=u.ir e (aa2 he);have hvp:=sX s hs.ws e we;rw [aK] at hvp;have hpp:=OC s hs.ws t.v t.ix w1 w2;have hput:=fun a b x=>ho.small.put_p a b x;have hab:dG V t e=true:=by
   have hz:(p.to.zip p.e)[i]? =some (t,e):=by rw [ai1];exact ⟨ht,he⟩
   exact ae5.1 k2 (t,e) (aa2 hz)
  rw [cB ht,cB he,iN] at hRi;refine T_ T (by show decide ((i:Int)<(p.to.length:Nat))=true;rw [dT];omega) ?_;refine j_ T (aC ht) T ?_;refine b_ fun b8=>?_;refine y_ ?_;refine i_ T (eW he) (aK e) ?_;refine c_ hvp ?_;refine n_ hpp ?_;refine al3 (dH (bH s e)) (fun hx=>?_) (fun hx=>?_)
  ·rw [hx] at hRi;refine A.aa 30 T (x':=jT none) (by rw [hx]) ?_;refine e_ 10 T (x':=AB false) (by rw [hx];rfl) ?_;refine q_ ?_;rw [hRi];exact s_
  ·refine ab4 hx fun x hx=>?_;rw [hx] at hRi;refine al3 (dH (fU s t.v t.ix)) (fun hq=>?_) (fun hq=>?_)
   ·rw [hq] at hRi;refine A.aa 10 T (x':=AB true) (by rw [hx];rfl) ?_;refine e_ 36 T (x':=SO none) (by rw [hq]) ?_;refine q_ ?_;rw [hRi];exact s_
   ·refine ab4 hq fun q hq=>?_;rw [hq] at hRi;refine A.aa 10 T (x':=AB true) (by rw [hx];rfl) ?_;refine A.aa 9 T (x':=aN x) (by rw [hx];rfl) ?_;refine e_ 36 T (x':=SO (some q)) (by rw [hq]) ?_;refine c_ (hput q.1 q.2 x) ?_;refine vI 18 i ?_;refine l_ (Λ':=[.box b2 (aE p)]) ?_;refine u_ (ih ⟨i+1,iK out q.1 q.2 x⟩ ⟨by show i+1<=_;omega,OK hs ho we hab hx hq,hRi⟩ (by show _-(i+1)<_-i;omega))
 ·refine A.gF T (by show decide ((i:Int)<(p.to.length:Nat))=false;rw [dF];omega) ?_;rw [ad3 (by omega:p.to.length<=i),iN] at hRi;refine y_ ?_;refine q_ ?_;rw [hRi];exact .refl
theorem HH(op:List Int)(e:EL)(r:TR)(c it:Int)(to:PL)(s:bA){q:Int×Int}(h:fU s to.v to.ix=some q):cU op (e::r) c it to s=if c∈op/\e.1=c/\gO it e.2=true then some (iK s q.1 q.2 e.2) else none:=by unfold cU;rw [h]
theorem V7(op:List Int)(t:TR)(c it:Int)(to:PL)(s:bA)(h:fU s to.v to.ix=none):cU op t c it to s=none:=by unfold cU;rw [h]
theorem FQ{V:List KV}(t:TR)(op:List Int)(f:Nat)(c it:Int)(to:PL)(s:bA)(hs:bI V s)(ht:l6 t)(hw:nJ to.ix)(hn:to.ix.length<=281474976710656)(ho:op.length<=281474976710656):Pure prog aU 41 [fS t op f,AI c,cC it,gZ to,aF s] (DC (cU op t c it to s)):=by
 have hpp:=OC s hs.ws to.v to.ix hw hn;have hhas:=A7 op c ho;refine al3 (dH (fU s to.v to.ix)) (fun hq=>?_) (fun hq=>?_)
 ·rw [V7 op t c it to s hq];rw [hq] at hpp;refine P_ func41 65 fun _ _ _ _=>?_
  (refine b_ fun bx=>?_;refine b_ fun bx=>?_;refine y_ ?_)
  refine c_ hpp ?_;refine q_ ?_;exact s_
 obtain ⟨q,hq⟩:=hq;rw [hq] at hpp
 by_cases hc:op.contains c=true
 case neg=>
  have hc0:op.contains c=false:=by simpa using hc
  have hR:cU op t c it to s=none:=by
   cases t with
   |nil=>unfold cU;rw [hq] |cons e r=>rw [HH op e r c it to s hq,iF (fun h=>hc (aj9.2 h.1))]
  rw [hR];rw [hc0] at hhas;refine P_ func41 65 fun _ _ _ _=>?_
  (refine b_ fun bx=>?_;refine b_ fun bx=>?_;refine y_ ?_)
  refine c_ hpp ?_;refine c_ hhas ?_;refine q_ ?_;exact s_
 rw [hc] at hhas;have hcm:=aj9.1 hc;cases t with
 |nil=>
  have hR:cU op [] c it to s=none:=by unfold cU;rw [hq]
  rw [hR];refine P_ func41 65 fun _ _ _ _=>?_
  (refine b_ fun bx=>?_;refine b_ fun bx=>?_;refine y_ ?_)
  refine c_ hpp ?_;refine c_ hhas ?_;refine q_ ?_;exact s_
 |cons e r=>
  have hfit:=a0g it e.2 (ht e (.head _));have hput:=hs.small.put_p q.1 q.2 e.2;rw [HH op e r c it to s hq]
  by_cases he:e.1=c
  case neg=>
   rw [iF (fun h=>he h.2.1)];refine P_ func41 65 fun _ _ _ _=>?_
   (refine b_ fun bx=>?_;refine b_ fun bx=>?_;refine y_ ?_)
   refine c_ hpp ?_;refine c_ hhas ?_;refine A.aa 37 T (x':=AB false) (aA (by show ((((e::r).map jK).length:Int)==0)=false;rw [aa0,ab7,beq_eq_false_iff_ne];omega)) ?_;refine i_ T T T ?_;refine e_ 46 T (x':=AB true) (aA (by show (e.1 !=c)=true;exact bne_iff_ne.2 he)) ?_;refine q_ ?_;exact s_
  by_cases hf:gO it e.2=true
  case neg=>
   rw [iF (fun h=>hf h.2.2)];rw [show gO it e.2=false by simpa using hf] at hfit;refine P_ func41 65 fun _ _ _ _=>?_
   (refine b_ fun bx=>?_;refine b_ fun bx=>?_;refine y_ ?_)
   refine c_ hpp ?_;refine c_ hhas ?_;refine A.aa 37 T (x':=AB false) (aA (by show ((((e::r).map jK).length:Int)==0)=false;rw [aa0,ab7,beq_eq_false_iff_ne];omega)) ?_;refine i_ T T T ?_;refine e_ 46 T (x':=AB false) (aA (by show (e.1 !=c)=false;rw [he];simp)) ?_;refine i_ T T T ?_;refine c_ hfit ?_;refine q_ ?_;exact s_
  rw [iT ⟨hcm,he,hf⟩];rw [hf] at hfit;refine P_ func41 65 fun _ _ _ _=>?_
  (refine b_ fun bx=>?_;refine b_ fun bx=>?_;refine y_ ?_)
  refine c_ hpp ?_;refine c_ hhas ?_;refine A.aa 37 T (x':=AB false) (aA (by show ((((e::r).map jK).length:Int)==0)=false;rw [aa0,ab7,beq_eq_false_iff_ne];omega)) ?_;refine i_ T T T ?_;refine e_ 46 T (x':=AB false) (aA (by show (e.1 !=c)=false;rw [he];simp)) ?_;refine i_ T T T ?_;refine c_ hfit ?_;refine i_ T T T ?_;refine c_ hput ?_;refine q_ ?_;exact s_
theorem XX(t v:Int):Pure prog aU 97 [cC t,aN v] (AB (gO t v)):=by
 refine P_ func97 24 fun _ _ _ _=>?_;(repeat' first|refine A.s T ?_|refine A.r T T ?_|refine A.w T T ?_|refine A.p T ?_|refine A.b T fun bx=>?_|refine A.t T fun bl=>?_|((fail_if_success (refine A.lit? T ?_));refine A.gS T (fun hc=>?_) (fun hc=>?_))|((fail_if_success (refine A.bu? T ?_));refine A.eo T (fun hc=>?_) (fun hc=>?_)))
 all_goals (refine R_ ?_;refine Sb.eq (aA ?_);unfold gO;simp_all<;>(intros;omega))
theorem IU.ij{V:List KV}{s:bA}(h:IU V s)(v i x:Int):Pure prog aU 95 [aF s,AI v,AI i,aN x] (aF (iK s v i x)):=
 rPut_p s v i x (by have:=(dX h).1;omega) fun r hr=>by have:=(dX h).2 r hr;omega
theorem EZ(n:Nat)(r:RN)(h1:n+r.reach<=1048576)(h2: ∀e,e∈r.ends->n+e.1<=1048576)(hl:r.ends.length<=1048576):Pure prog aU 54 [AI (n:Nat),eK r] (eK (lL n r)):=by
 have nq:((r.ends.map cT).length:Int)=r.ends.length:=by rw [aa0]
 refine eX (n+r.reach) fun rc hrc=>?_;refine ab4 (show∃g:fK->fK,g=fun e=>(n+e.1,e.2) from ⟨_,rfl⟩) fun g hg=>?_;have hR:lL n r=⟨rc,r.ends.map g,r.miss⟩:=by rw [hrc,hg]
 rw [hR];clear hR;refine P_ func54 42 fun _ _ _ _=>?_;refine b_ fun b3=>?_;refine A.b T fun b4=>?_;(repeat first|refine A.r T T ?_|refine A.s T ?_);refine A.b T fun b5=>?_;refine y_ ?_;refine A.ab (Λ':=[.box b5 (.ag [AI (rc:Nat), .v (.slice none 0 0),AB r.miss]), .box b4 _, .box b3 (eK r)]) (by rw [hrc,<-show IntKind.i64.wrap (((n:Nat):Int)+((r.reach:Nat):Int))=((n+r.reach:Nat):Int) by rw [fR _ (by omega)];rfl];rfl) ?_;refine A.bn (b:=b5) (x':= .ag [AI (rc:Nat), .ms (.slice none 0 0) 2 0,AB r.miss]) (.refl _) (fun h y q=>H6 _ h _ y q) ?_;refine A.av 2 ?_;refine A.af [0,3,4,5,6] T ?_;refine A.ae (ι:=Nat×Value) (fun u=>(⟨[(0,AI (n:Nat)),(3,aT b3),(4,aT b4),(5,aT b5),(6,AI (u.1:Nat))],[]⟩,[.row 2 u.2 (((r.ends.take u.1).map g).map cT), .box b5 (qK u.2 ⟨rc,(r.ends.take u.1).map g,r.miss⟩), .box b4 _, .box b3 (eK r)])) (fun u=>u.1<=r.ends.length) (fun u=>r.ends.length-u.1) (0, .slice none 0 0) (aa4 _) T fun u hu ih=>?_;obtain ⟨i,z⟩:=u;simp only at hu;refine y_ ?_
 by_cases hci:i<r.ends.length
 ·refine aX hci fun x hx=>?_;have hxn:=h2 x (aa2 hx);have htk:(r.ends.take (i+1)).map g=(r.ends.take i).map g++[g x]:=by rw [takeN hx,ac0];rfl
  have hml:(((r.ends.take i).map g).map cT).length=i:=by rw [aa0,aa0,ac1];omega
  refine T_ T (by show decide ((i:Int)<((r.ends.map cT).length:Int))=true;rw [nq,dT];omega) ?_;refine A.cq [(18, .row 2 z (((r.ends.take i).map g).map cT))] 19 [0,1,2,3,4,5,6,7,8,9,10,11,12,13,14,15,16,17,18] (fun i=>if i=18 then [18,17] else []) [] (.refl _) T T (by rfl) (by kernel_rfl) (by kernel_rfl) ?_;refine w_ ?_;refine gX T (aC hx) T ?_;refine gX T (aC hx) T ?_;refine WA.aa 37 T (x':=cT (g x)) (by rw [hg];show AV.ag [AI (IntKind.i64.wrap (((n:Nat):Int)+((x.1:Nat):Int))),aF x.2]=_;rw [fR _ (by omega)];rfl) ?_;refine WA.lit T T T T T T T fun bw=>?_;refine WA.dw T T T T T T T T T T T T T T T T T T T T (.pub (j:=17) T T (.sub .refl)) (by show ((((r.ends.take i).map g).map cT).length+1)*2<=_;rw [hml];omega) (by show ((((r.ends.take i).map g).map cT).length+1)*2*32<=_;rw [hml];omega) fun z2=>?_;refine WA.nil (l:=[_]) T ?_;refine y_ ?_;refine vI 6 i ?_;refine A.ab (Λ':=[.row 2 z2 (((r.ends.take (i+1)).map g).map cT), .box b5 (qK z2 ⟨rc,(r.ends.take (i+1)).map g,r.miss⟩), .box b4 _, .box b3 (eK r)]) (by rw [htk,ac0];show _=[_,aH.box b5 (.ag [_, .ms z2 2 ((r.ends.take i).map g++[g x]).length,_]),_,_];rw [aa1,<-aa0 (f:=cT)];rfl) ?_;refine u_ (ih (i+1,z2) (by show i+1<=_;omega) (by show _-(i+1)<_-i;omega))
 refine A.gF T (by show decide ((i:Int)<((r.ends.map cT).length:Int))=false;rw [nq,dF];omega) ?_;clear ih;refine A.ab (Λ':=[.row 2 z ((r.ends.map g).map cT), .box b5 (qK z ⟨rc,r.ends.map g,r.miss⟩), .box b4 _, .box b3 (eK r)]) (by rw [aa6 (by omega:r.ends.length<=i)]) ?_;refine A.ak 5 z (x':=eK ⟨rc,r.ends.map g,r.miss⟩) T (DQ z ⟨rc,r.ends.map g,r.miss⟩) ?_;refine y_ ?_;refine C_ ?_;exact s_
theorem RM(s:bA)(v:Int)(i:Nat):(List.range (i+1)).foldl (fun s (i:Nat)=>iK s v (i:Nat) 0) s=iK ((List.range i).foldl (fun s (i:Nat)=>iK s v (i:Nat) 0) s) v (i:Nat) 0:=by rw [ao1,af2];rfl
theorem RL{V:List KV}(s:bA)(hs:IU V s)(v:Int)(h0v:0<=v)(hv:v<s.length):Pure prog aU 51 [aF s,AI v] (aF (G8 s v)):=by
 refine ab4 (pU h0v (l:=s) hv) fun r hr=>?_;refine ab4 (show∃W:Nat->bA,W=fun i=>(List.range i).foldl (fun s (i:Nat)=>iK s v (i:Nat) 0) s from ⟨_,rfl⟩) fun W hW=>?_;have hWn: ∀i,W (i+1)=iK (W i) v (i:Nat) 0:=fun i=>by rw [hW];exact RM s v i
 have hWs: ∀i,IU V (W i):=fun i=>by rw [hW];have:=rS hs v i;exact this
 have hWl: ∀i,(W i).map List.length=s.map List.length:=fun i=>by
  induction i with
  |zero=>rw [hW];rfl |succ i ih=>rw [hWn,NO,ih]
 have hR:G8 s v=W r.length:=by unfold G8;rw [hr,hW]
 rw [hR];clear hR;have hrow: ∀i,∃q,(W i)[v.toNat]? =some q/\q.length=r.length:=fun i=>by
  have h1:((W i).map List.length)[v.toNat]? =(s.map List.length)[v.toNat]? :=by rw [hWl]
  rw [ab5,ab5,hr] at h1;cases hq:(W i)[v.toNat]? with
  |none=>rw [hq] at h1;cases h1 |some q=>rw [hq] at h1;injection h1 with h1;exact ⟨q,rfl,h1⟩
 have hrl:=(dX hs).2 r (aa2 hr);refine P_ func51 20 fun _ _ _ _=>?_;refine y_ ?_;refine A.af [0,1,5] T ?_;refine A.ae (ι:=Nat) (fun i=>(⟨[(0,aF (W i)),(1,AI v),(5,AI (i:Nat))],[]⟩,[])) (fun i=>i<=r.length) (fun i=>r.length-i) 0 (aa4 _) (by rw [hW];rfl) fun i hi ih=>?_;refine ab4 (hrow i) fun q hq=>?_;have hput:=(hWs i).ij v (i:Nat) 0;rw [<-hWn] at hput;refine y_ ?_;refine A.x T h0v (aC hq.1) T T ?_;refine y_ ?_
 by_cases hci:i<r.length
 ·refine T_ T (by show decide ((i:Int)<((q.map aN).length:Int))=true;rw [aa0,hq.2,dT];omega) ?_;refine c_ hput ?_;refine vI 5 i ?_;refine u_ (ih (i+1) (by omega) (by omega))
 ·refine A.gF T (by show decide ((i:Int)<((q.map aN).length:Int))=false;rw [aa0,hq.2,dF];omega) ?_;have hir:i=r.length:=by omega
  subst hir;exact tV
theorem a0J{V:List KV}{C:List Int}(p:PR)(u:Un V C p)(hk:p.kind=4)(s:bA)(hs:bI V s):Pure prog aU 52 [aE p,aF s] (eK (match iN s p.to p.e s with|some s'=>fM s'|none=>a7)):=by
 obtain ⟨k1,k2⟩:=u.k4 hk;have n2:((p.to.map gZ).length:Int)=p.to.length:=by rw [aa0]
 have hto8:=(yJ (u.kb (by omega))).1;have hstop:=oC;refine eX (iN s p.to p.e s) fun R hR=>?_;rw [<-hR];refine P_ func52 55 fun _ _ _ _=>?_;refine b_ fun b2=>?_;refine A.b T fun b4=>?_;refine y_ ?_;refine A.af [1,2,4,5,6] T ?_
 refine A.ae (ι:=As) (fun v=>(⟨[(1,aF s),(2,aT b2),(4,aT b4),(5,aF v.out),(6,AI (v.i:Nat))],[]⟩,[.box b4 _, .box b2 (aE p)]))
  (fun v=>v.i<=p.to.length/\bI V v.out/\R=iN s (p.to.drop v.i) (p.e.drop v.i) v.out) (fun v=>p.to.length-v.i) ⟨0,s⟩ ⟨aa4 _,hs,by rw [ag3,ag3];exact hR⟩ T fun v hv ih=>?_
 obtain ⟨i,out⟩:=v;obtain ⟨hi1,ho,hRi⟩:=hv;simp only at hi1 ho hRi;refine y_ ?_
 by_cases hci:i<p.to.length
 ·refine aX hci fun t ht=>?_;refine ab4 (bT (l:=p.e) (i:=i) (by omega)) fun e he=>?_;obtain ⟨w1,w2⟩:=QA u (aa2 ht);have we:=u.ir e (aa2 he);have hvp:=qF s hs.ws e we;rw [aK] at hvp;have hpp:=KW s hs.ws t.v t.ix w1 w2;have hput:=fun a b x=>IU.ij (V:=V) ho a b x;have hab:dG V t e=true:=by
   have hz:(p.to.zip p.e)[i]? =some (t,e):=by rw [ai1];exact ⟨ht,he⟩
   exact ae5.1 k2 (t,e) (aa2 hz)
  rw [cB ht,cB he,iN] at hRi;refine T_ T (by show decide ((i:Int)<((p.to.map gZ).length:Int))=true;rw [n2,dT];omega) ?_;refine i_ T (eW he) (aK e) ?_;refine c_ hvp ?_;refine i_ T (aC ht) T ?_;refine n_ hpp ?_;refine al3 (dH (bH s e)) (fun hx=>?_) (fun hx=>?_)
  ·rw [hx] at hRi;refine e_ 8 T (x':=AB false) (by rw [hx];rfl) ?_;refine c_ hstop ?_;refine C_ ?_;rw [hRi];exact s_
  ·refine ab4 hx fun x hx=>?_;rw [hx] at hRi;refine al3 (dH (fU s t.v t.ix)) (fun hq=>?_) (fun hq=>?_)
   ·rw [hq] at hRi;refine A.aa 8 T (x':=AB true) (by rw [hx];rfl) ?_;refine e_ 37 T (x':=SO none) (by rw [hq]) ?_;refine c_ hstop ?_;refine C_ ?_;rw [hRi];exact s_
   ·refine ab4 hq fun q hq=>?_;rw [hq] at hRi;refine A.aa 8 T (x':=AB true) (by rw [hx];rfl) ?_;refine A.aa 7 T (x':=aN x) (by rw [hx];rfl) ?_;refine e_ 37 T (x':=SO (some q)) (by rw [hq]) ?_;refine c_ (hput q.1 q.2 x) ?_;refine vI 6 i ?_;refine u_ (ih ⟨i+1,iK out q.1 q.2 x⟩ ⟨by show i+1<=_;omega,OK hs ho we hab hx hq,hRi⟩ (by show _-(i+1)<_-i;omega))
 ·have hskip:=oB out;refine A.gF T (by show decide ((i:Int)<((p.to.map gZ).length:Int))=false;rw [n2,dF];omega) ?_;rw [ad3 (by omega:p.to.length<=i),iN] at hRi;clear ih;refine y_ ?_;refine c_ hskip ?_;refine C_ ?_;rw [hRi];exact s_
theorem K2{V:List KV}(t:TR)(op:List Int)(c it:Int)(to:PL)(s:bA)(hs:bI V s)(ht:l6 t)(hw:nJ to.ix)(hn:to.ix.length<=281474976710656)(ho:op.length<=281474976710656):Pure prog aU 53 [AI c,cC it,gZ to,aF s,lI t,aQ op] (DC (cU op t c it to s)):=by
 have hpp:=KW s hs.ws to.v to.ix hw hn;have hhas:=HG op c ho;refine al3 (dH (fU s to.v to.ix)) (fun hq=>?_) (fun hq=>?_)
 ·rw [V7 op t c it to s hq];rw [hq] at hpp;refine P_ func53 62 fun _ _ _ _=>?_;refine b_ fun b8=>?_;refine y_ ?_;refine c_ hpp ?_;refine q_ ?_;exact s_
 obtain ⟨q,hq⟩:=hq;rw [hq] at hpp
 by_cases hc:op.contains c=true
 case neg=>
  have hc0:op.contains c=false:=by simpa using hc
  have hR:cU op t c it to s=none:=by
   cases t with
   |nil=>unfold cU;rw [hq] |cons e r=>rw [HH op e r c it to s hq,iF (fun h=>hc (aj9.2 h.1))]
  rw [hR];rw [hc0] at hhas;refine P_ func53 62 fun _ _ _ _=>?_;refine b_ fun b8=>?_;refine y_ ?_;refine c_ hpp ?_;refine c_ hhas ?_;refine q_ ?_;exact s_
 rw [hc] at hhas;have hcm:=aj9.1 hc;cases t with
 |nil=>
  have hR:cU op [] c it to s=none:=by unfold cU;rw [hq]
  rw [hR];refine P_ func53 62 fun _ _ _ _=>?_;refine b_ fun b8=>?_;refine y_ ?_;refine c_ hpp ?_;refine c_ hhas ?_;refine A.aa 37 T (x':=AB true) T ?_;refine q_ ?_;exact s_
 |cons e r=>
  have hfit:=XX it e.2;have hput:=IU.ij (V:=V) hs q.1 q.2 e.2;have hne:((((e::r).map jK).length:Int)==0)=false:=by rw [aa0,ab7,beq_eq_false_iff_ne];omega
  rw [HH op e r c it to s hq]
  by_cases he:e.1=c
  case neg=>
   rw [iF (fun h=>he h.2.1)];refine P_ func53 62 fun _ _ _ _=>?_;refine b_ fun b8=>?_;refine y_ ?_;refine c_ hpp ?_;refine c_ hhas ?_;refine A.aa 37 T (x':=AB false) (aA hne) ?_;refine i_ T T T ?_;refine e_ 45 T (x':=AB true) (aA (by show (e.1 !=c)=true;exact bne_iff_ne.2 he)) ?_;refine q_ ?_;exact s_
  by_cases hf:gO it e.2=true
  case neg=>
   rw [iF (fun h=>hf h.2.2)];rw [show gO it e.2=false by simpa using hf] at hfit;refine P_ func53 62 fun _ _ _ _=>?_;refine b_ fun b8=>?_;refine y_ ?_;refine c_ hpp ?_;refine c_ hhas ?_;refine A.aa 37 T (x':=AB false) (aA hne) ?_;refine i_ T T T ?_;refine e_ 45 T (x':=AB false) (aA (by show (e.1 !=c)=false;rw [he];simp)) ?_;refine i_ T T T ?_;refine c_ hfit ?_;refine q_ ?_;exact s_
  rw [iT ⟨hcm,he,hf⟩];rw [hf] at hfit;refine P_ func53 62 fun _ _ _ _=>?_;refine b_ fun b8=>?_;refine y_ ?_;refine c_ hpp ?_;refine c_ hhas ?_;refine A.aa 37 T (x':=AB false) (aA hne) ?_;refine i_ T T T ?_;refine e_ 45 T (x':=AB false) (aA (by show (e.1 !=c)=false;rw [he];simp)) ?_;refine i_ T T T ?_;refine c_ hfit ?_;refine i_ T T T ?_;refine c_ hput ?_;refine q_ ?_;exact s_
end Go.Proofs.YtenkjmjejhhdjaaGreat
