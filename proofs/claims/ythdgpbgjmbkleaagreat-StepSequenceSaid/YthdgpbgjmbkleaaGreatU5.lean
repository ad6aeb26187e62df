/-
  Texts Q16m Q16n Q16o Q16p Q16q Q16r Q16s Q16t Q16u Q18a Q18b Q18c Q18d Q18e Q18f Q18g Q14i Q17c Q17d Q18s Q18h P18a. Conditions: as each theorem says.
-/
import Derived.Test.YthdgpbgjmbkleaaGreatU3
import Derived.Test.YthdgpbgjmbkleaaGreatU4
set_option linter.unusedVariables false
set_option linter.unusedSimpArgs false
set_option maxRecDepth 100000
set_option maxHeartbeats 4000000
namespace Go.Proofs.YthdgpbgjmbkleaaGreat
open Go Go.Tp
section
variable(l:List KV)(ch:List Int)(hl:l.length≤281474976710656)(hv:VarsOk l)
def Lent(f:FuncId)(p:PR):Prop:= ∀(b:Nat) (x:Nat→AV) (lf:Int),Fun Tryz.prog gs0 f [ptrA b,cellsR p] [.box b (ckA l ch x lf)] fun z Λ'=>z=AB (kindB l ch.length p)∧Λ'=[.box b (ckA l ch x lf)]
include hl hv
theorem kind_lent(p:PR)(hw:WfR p)(hk:1≤p.kind∧p.kind≤15):Lent l ch (checkF p.kind) p:=fun b x lf=>by
 by_cases h1:p.kind=1∨p.kind=2
 ·have h:=nothing_p l ch p h1
  rw [checkF,if_pos h1];exact Pure.lend Tryz.func131 rfl rfl (h x lf) rfl (LtL.cons (Lt.box (List.mem_singleton.2 rfl) rfl) (LtL.cons (Lt.sub .refl) LtL.nil))
 rw [checkF,if_neg h1]
 by_cases h3:p.kind=3
 ·have h:=clear_p l ch p h3
  rw [if_pos h3];exact Pure.lend Tryz.func132 rfl rfl (h x lf) rfl (LtL.cons (Lt.box (List.mem_singleton.2 rfl) rfl) (LtL.cons (Lt.sub .refl) LtL.nil))
 rw [if_neg h3]
 by_cases h4:p.kind=4
 ·have h:=assign16_p l ch hl hv p hw h4
  rw [if_pos h4];exact Pure.lend Tryz.func133 rfl rfl (h x lf) rfl (LtL.cons (Lt.box (List.mem_singleton.2 rfl) rfl) (LtL.cons (Lt.sub .refl) LtL.nil))
 rw [if_neg h4]
 by_cases h5:p.kind=5
 ·have h:=in16_p l ch hl hv p hw h5
  rw [if_pos h5];exact Pure.lend Tryz.func134 rfl rfl (h x lf) rfl (LtL.cons (Lt.box (List.mem_singleton.2 rfl) rfl) (LtL.cons (Lt.sub .refl) LtL.nil))
 rw [if_neg h5]
 by_cases h6:p.kind=6
 ·have h:=out16_p l ch hl hv p hw h6
  rw [if_pos h6];exact Pure.lend Tryz.func135 rfl rfl (h x lf) rfl (LtL.cons (Lt.box (List.mem_singleton.2 rfl) rfl) (LtL.cons (Lt.sub .refl) LtL.nil))
 rw [if_neg h6]
 by_cases h7:p.kind=7
 ·have h:=time16_p l ch hl hv p hw h7
  rw [if_pos h7];exact Pure.lend Tryz.func136 rfl rfl (h x lf) rfl (LtL.cons (Lt.box (List.mem_singleton.2 rfl) rfl) (LtL.cons (Lt.sub .refl) LtL.nil))
 rw [if_neg h7]
 by_cases h8:p.kind=8
 ·have h:=after16_p l ch hl hv p hw h8
  rw [if_pos h8];exact Pure.lend Tryz.func137 rfl rfl (h x lf) rfl (LtL.cons (Lt.box (List.mem_singleton.2 rfl) rfl) (LtL.cons (Lt.sub .refl) LtL.nil))
 rw [if_neg h8]
 by_cases h9:p.kind=9
 ·have h:=seq_p l ch p h9
  rw [if_pos h9];exact Pure.lend Tryz.func138 rfl rfl (h x lf) rfl (LtL.cons (Lt.box (List.mem_singleton.2 rfl) rfl) (LtL.cons (Lt.sub .refl) LtL.nil))
 rw [if_neg h9]
 by_cases h10:p.kind=10
 ·have h:=par_p l ch p h10
  rw [if_pos h10];exact Pure.lend Tryz.func139 rfl rfl (h x lf) rfl (LtL.cons (Lt.box (List.mem_singleton.2 rfl) rfl) (LtL.cons (Lt.sub .refl) LtL.nil))
 rw [if_neg h10]
 by_cases h11:p.kind=11
 ·have h:=pri_p l ch p h11
  rw [if_pos h11];exact Pure.lend Tryz.func140 rfl rfl (h x lf) rfl (LtL.cons (Lt.box (List.mem_singleton.2 rfl) rfl) (LtL.cons (Lt.sub .refl) LtL.nil))
 rw [if_neg h11]
 by_cases h13:p.kind=13
 ·have h:=loop16_p l ch hl hv p hw h13
  rw [if_pos h13];exact Pure.lend Tryz.func142 rfl rfl (h x lf) rfl (LtL.cons (Lt.box (List.mem_singleton.2 rfl) rfl) (LtL.cons (Lt.sub .refl) LtL.nil))
 rw [if_neg h13]
 have h:=choice16_p l ch hl hv p hw (by omega)
 exact Pure.lend Tryz.func141 rfl rfl (h x lf) rfl (LtL.cons (Lt.box (List.mem_singleton.2 rfl) rfl) (LtL.cons (Lt.sub .refl) LtL.nil))
end
abbrev procE(l:List KV)(ch:List Int)(x:Nat→AV)(b:Nat)(p:PR)(deep:Int)(high:Bool)(left:Int):Prop:=
 FunE Tryz.prog gs0 59 [ptrA b,cellsR p,AI deep,AB high] [.box b (ckA l ch x left)] (fun _:Int=>AB (decide (fitsR l ch.length high p left (33-deep)))) (fun i=>[.box b (ckA l ch x i)]) (fun i=>fitsR l ch.length high p left (33-deep)→i=left-szR p)
theorem proc_a(l:List KV)(ch:List Int)(x:Nat→AV)(b:Nat)(p:PR)(deep:Int)(high:Bool)(left:Int)(h:left=0∨deep=33)(r0:0≤left)(r1:left≤2048)(f:AV)(hck:Pure Tryz.prog gs0 107 [ptrA b,AU8 p.kind] f):procE l ch x b p deep high left:=by
 have hw1:IntKind.i64.wrap (left-1)=left-1:=wr64 _ (by omega)
 have hnf: ¬fitsR l ch.length high p left (33-deep):=fitsR_no (by omega)
 unfold procE FunE
 refine Fun.of (S:=tt) (fn:=Tryz.f59) (n:=95) tt_ok Tryz.func59 rfl rfl rfl rfl fun w0 h0 F hgs=>?_
 (refine b_ fun bx=>?_;refine y_ ?_)
 refine c_ hck ?_
 refine A.valE 30 rfl (x':=AB (decide (left=0))) (ab_eq (by rw [hw1,Bool.eq_iff_iff];simp;omega)) ?_
 by_cases hz:left=0
 ·refine e_ 30 rfl (x':=AB true) (ab_eq (by simpa using hz)) ?_
  (refine A.ret1 (Λ':=[.box b _]) rfl rfl rfl sl_ ⟨_,Sb.eq (ab_eq ?_),rfl,?_⟩;exact (decide_eq_false hnf).symm;exact fun h=>absurd h hnf)
 ·refine e_ 30 rfl (x':=AB false) (ab_eq (by simpa using hz)) ?_
  refine e_ 34 rfl (x':=AB true) (ab_eq (by simp;omega)) ?_
  (refine A.ret1 (Λ':=[.box b _]) rfl rfl rfl sl_ ⟨_,Sb.eq (ab_eq ?_),rfl,?_⟩;exact (decide_eq_false hnf).symm;exact fun h=>absurd h hnf)
theorem proc_b(l:List KV)(ch:List Int)(x:Nat→AV)(b:Nat)(p:PR)(deep:Int)(high:Bool)(left:Int)(r0:1≤left)(r1:left≤2048)(d0:1≤deep)(d1:deep≤32)(hck:Pure Tryz.prog gs0 107 [ptrA b,AU8 p.kind] (.v .nilFunc))(hno:kindB l ch.length p=false):procE l ch x b p deep high left:=by
 have hw1:IntKind.i64.wrap (left-1)=left-1:=wr64 _ (by omega)
 have hnf: ¬fitsR l ch.length high p left (33-deep):=fitsR_no (.inr (.inr (.inl hno)))
 unfold procE FunE
 refine Fun.of (S:=tt) (fn:=Tryz.f59) (n:=95) tt_ok Tryz.func59 rfl rfl rfl rfl fun w0 h0 F hgs=>?_
 (refine b_ fun bx=>?_;refine y_ ?_)
 refine c_ hck ?_
 refine e_ 30 rfl (x':=AB false) (ab_eq (by rw [hw1];simp;omega)) ?_
 refine e_ 34 rfl (x':=AB false) (ab_eq (by simp;omega)) ?_
 (refine A.ret1 (Λ':=[.box b _]) rfl rfl rfl sl_ ⟨_,Sb.eq (ab_eq ?_),rfl,?_⟩;exact (decide_eq_false hnf).symm;exact fun h=>absurd h hnf)
theorem proc_c(l:List KV)(ch:List Int)(x:Nat→AV)(b:Nat)(p:PR)(deep:Int)(high:Bool)(left:Int)(r0:1≤left)(r1:left≤2048)(d0:1≤deep)(d1:deep≤32)(f:FuncId)(hck:Pure Tryz.prog gs0 107 [ptrA b,AU8 p.kind] (.fn f [ptrA b] []))(hle:Lent l ch f p)(hno:kindB l ch.length p=false):procE l ch x b p deep high left:=by
 have hw1:IntKind.i64.wrap (left-1)=left-1:=wr64 _ (by omega)
 have hnf: ¬fitsR l ch.length high p left (33-deep):=fitsR_no (.inr (.inr (.inl hno)))
 have hl1:=hle b x (IntKind.i64.wrap (left-1))
 rw [hno] at hl1
 unfold procE FunE
 refine Fun.of (S:=tt) (fn:=Tryz.f59) (n:=95) tt_ok Tryz.func59 rfl rfl rfl rfl fun w0 h0 F hgs=>?_
 (refine b_ fun bx=>?_;refine y_ ?_)
 refine c_ hck ?_
 refine e_ 30 rfl (x':=AB false) (ab_eq (by rw [hw1];simp;omega)) ?_
 refine e_ 34 rfl (x':=AB false) (ab_eq (by simp;omega)) ?_
 refine A.d rfl hl1 .refl (List.Perm.swap _ _ _) ?_
 refine y_ ?_
 (refine A.ret1 (Λ':=[.box b _]) rfl rfl rfl sl_ ⟨_,Sb.eq (ab_eq ?_),rfl,?_⟩;exact (decide_eq_false hnf).symm;exact fun h=>absurd h hnf)
theorem proc_d(l:List KV)(ch:List Int)(x:Nat→AV)(b:Nat)(p:PR)(deep:Int)(left:Int)(r0:1≤left)(r1:left≤2048)(d0:1≤deep)(d1:deep≤32)(f:FuncId)(hck:Pure Tryz.prog gs0 107 [ptrA b,AU8 p.kind] (.fn f [ptrA b] []))(hle:Lent l ch f p)(hyes:kindB l ch.length p=true)(hk:p.kind=11):procE l ch x b p deep true left:=by
 have hw1:IntKind.i64.wrap (left-1)=left-1:=wr64 _ (by omega)
 have hnf: ¬fitsR l ch.length true p left (33-deep):=fitsR_no (.inr (.inr (.inr (by simpa using hk))))
 have hl1:=hle b x (IntKind.i64.wrap (left-1))
 rw [hyes] at hl1
 unfold procE FunE
 refine Fun.of (S:=tt) (fn:=Tryz.f59) (n:=95) tt_ok Tryz.func59 rfl rfl rfl rfl fun w0 h0 F hgs=>?_
 (refine b_ fun bx=>?_;refine y_ ?_)
 refine c_ hck ?_
 refine e_ 30 rfl (x':=AB false) (ab_eq (by rw [hw1];simp;omega)) ?_
 refine e_ 34 rfl (x':=AB false) (ab_eq (by simp;omega)) ?_
 refine A.d rfl hl1 .refl (List.Perm.swap _ _ _) ?_
 refine y_ ?_
 refine e_ 51 rfl (x':=AB true) (ab_eq (by simpa using hk)) ?_
 (refine A.ret1 (Λ':=[.box b _]) rfl rfl rfl sl_ ⟨_,Sb.eq (ab_eq ?_),rfl,?_⟩;exact (decide_eq_false hnf).symm;exact fun h=>absurd h hnf)
theorem take_empty{α:Type}{a:List α}{i:Nat}(h:i<a.length):(a.take i).isEmpty=decide (i=0):=by
 rw [Bool.eq_iff_iff,List.isEmpty_iff,List.take_eq_nil_iff];simp
 rintro rfl;simp at h
theorem proc_e(l:List KV)(ch:List Int)(x:Nat→AV)(b:Nat)(p:PR)(hwf:wfR p)(deep:Int)(high:Bool)(left:Int)(r0:1≤left)(r1:left≤2048)(d0:1≤deep)(d1:deep≤32)(f:FuncId)(hck:Pure Tryz.prog gs0 107 [ptrA b,AU8 p.kind] (.fn f [ptrA b] []))(hle:Lent l ch f p)(hyes:kindB l ch.length p=true)(hh:(high&&p.kind==11)=false)
 (ih0: ∀(y:PR) (hi:Bool) (lf:Int),wfR y→szR y<szR p→0≤lf→lf≤2048→procE l ch x b y (deep+1) hi lf):procE l ch x b p deep high left:=by
 have hw1:IntKind.i64.wrap (left-1)=left-1:=wr64 _ (by omega)
 have hw2:IntKind.i64.wrap (deep+1)=deep+1:=wr64 _ (by omega)
 have hwa:=wfR_all hwf
 have hl1:=hle b x (left-1)
 rw [hyes] at hl1
 have hbod:=(kind_bodies hyes).2.2
 have hfl:=fitsR_l (high:=high) (p:=p) (room:=left) (deep:=33-deep) r0 (by omega) hyes hh
 rw [show 33-deep-1=33-(deep+1) by omega] at hfl
 have hse:=szR_eq p
 have n1:((encRl p.l).length:Int)=p.l.length:=by rw [encRl_len]
 have n2:((encGl p.gs).length:Int)=p.gs.length:=by rw [encGl_len]
 unfold procE FunE
 refine Fun.of (S:=tt) (fn:=Tryz.f59) (n:=95) tt_ok Tryz.func59 rfl rfl rfl rfl fun w0 h0 F hgs=>?_
 (refine b_ fun bx=>?_;refine y_ ?_)
 refine c_ hck ?_
 refine e_ 30 rfl (x':=AB false) (ab_eq (by rw [hw1];simp;omega)) ?_
 refine e_ 34 rfl (x':=AB false) (ab_eq (by simp;omega)) ?_
 refine A.entsEq (Λ':=[.box _ (cellsR p), .box b (ckA l ch x (left-1))]) (by rw [hw1]) ?_
 refine A.d rfl hl1 .refl (List.Perm.swap _ _ _) ?_
 refine g_ ?_
 refine e_ 51 rfl (x':=AB false) (ab_eq (by revert hh;cases high<;>simp)) ?_
 refine A.valE 54 rfl (x':=AI (p.l.length:Nat)) (ai_eq n1) ?_
 refine A.keep [0,2,3,5,53,54,55] rfl ?_
 refine A.loopP (ι:=Nat×Int) (fun q=>(⟨[(0,ptrA b),(2,AI deep),(3,AB high),(5,ptrA _),(53,rsA p.l),(54,AI (p.l.length:Nat)),(55,AI (q.1:Nat))],[]⟩,[.box b (ckA l ch x q.2), .box _ (cellsR p)]))
  (fun q=>q.1≤p.l.length∧fitsPs l ch.length high (p.kind==11) (p.l.take q.1) (left-1) (33-(deep+1))∧q.2=left-1-(szL (p.l.take q.1):Nat)) (fun q=>p.l.length-q.1) (0,left-1) ⟨Nat.zero_le _,⟨by simp [okL],by simp [szL];omega,by simp [htL];omega⟩,by simp [szL]⟩ rfl fun q hi ih=>?_
 obtain ⟨i,lf⟩:=q
 obtain ⟨hi1,hi2,hi3⟩:=hi
 simp only at hi1 hi2 hi3
 have hsz2:=hi2.2.1
 refine y_ ?_
 refine k_ (fun hc=>?_) fun hc=>?_
 ·simp at hc
  refine Exists.elim (at_exN (l:=p.l) (i:=i) (by omega)) fun y hy=>?_
  have hym:=List.mem_of_getElem? hy
  have htk:p.l.take (i+1)=p.l.take i++[y]:=by rw [List.take_add_one,hy];rfl
  have hsn:=fitsPs_snoc (x:=y) hi2
  rw [←htk,←hi3,take_empty (by omega)] at hsn
  have ihy:=ih0 y (high||((p.kind==11)&&decide (i=0))) lf ((wfR_all (by exact hwf)).l y hym) (by have:=szL_le hym;omega) (by omega) (by omega)
  unfold procE at ihy
  have e0:(((i:Nat):Int)==0)=decide (i=0):=by rw [Bool.eq_iff_iff];simp
  refine y_ ?_
  refine j_ rfl (encRl_at hy) (encR_eq y) ?_
  (refine gb_ fun bx=>?_;refine g_ ?_)
  refine A.valE 63 rfl (x':=AI (deep+1)) (ai_eq hw2) ?_
  refine A.valE 73 rfl (x':=AB (high||((p.kind==11)&&decide (i=0)))) (ab_eq (by rw [e0];clear ih ihy hsn;generalize (p.kind==11)=b11;cases high<;>cases b11<;>simp)) ?_
  refine A.e rfl ihy .refl (List.Perm.swap _ _ _) fun lf2 hlf2=>?_
  by_cases hfx:fitsR l ch.length (high||((p.kind==11)&&decide (i=0))) y lf (33-(deep+1))
  ·refine e_ 74 rfl (x':=AB true) (ab_eq (decide_eq_true hfx)) ?_
   refine l_ (Λ':=[.box b (ckA l ch x lf2), .box _ (cellsR p)]) ?_
   refine A.valE 55 rfl (x':=AI ((i+1:Nat):Int)) (inc_eq i (by have:=hwa.ll;omega)) ?_
   refine u_ (ih (i+1,lf2) ⟨by show i+1≤_;omega,hsn.2 hfx,?_⟩ (by show _-(i+1)<_-i;omega))
   show lf2=left-1-(szL (p.l.take (i+1)):Nat)
   rw [hlf2 hfx,htk,szL_append,hi3];simp [szL];omega
  ·have hnf: ¬fitsR l ch.length high p left (33-deep):=fun hf=>hfx (hsn.1 (fitsPs_take (hfl.1 hf).1 (i+1)))
   refine e_ 74 rfl (x':=AB false) (ab_eq (decide_eq_false hfx)) ?_
   (refine A.ret1 (Λ':=[.box b _]) rfl rfl rfl sl_ ⟨_,Sb.eq (ab_eq ?_),rfl,?_⟩;exact (decide_eq_false hnf).symm;exact fun h=>absurd h hnf)
 simp at hc
 have hil:i=p.l.length:=by omega
 rw [hil,List.take_length] at hi2 hi3
 have hszl:=hi2.2.1
 refine y_ ?_
 refine A.valE 79 rfl (x':=AI (p.gs.length:Nat)) (ai_eq n2) ?_
 refine A.keep [0,2,3,5,78,79,80] rfl ?_
 refine A.loopP (ι:=Nat×Int) (fun q=>(⟨[(0,ptrA b),(2,AI deep),(3,AB high),(5,ptrA _),(78,gsA p.gs),(79,AI (p.gs.length:Nat)),(80,AI (q.1:Nat))],[]⟩,[.box b (ckA l ch x q.2), .box _ (cellsR p)]))
  (fun q=>q.1≤p.gs.length∧fitsGs l ch.length high (p.gs.take q.1) (left-1-(szL p.l:Nat)) (33-(deep+1))∧q.2=left-1-(szL p.l:Nat)-(szGs (p.gs.take q.1):Nat)) (fun q=>p.gs.length-q.1) (0,lf) ⟨Nat.zero_le _,⟨by simp [okGs],by simp [szGs];omega,by simp [htGs];omega⟩,by simp [szGs];omega⟩ rfl fun q hj jh=>?_
 obtain ⟨j,lg⟩:=q
 obtain ⟨hj1,hj2,hj3⟩:=hj
 simp only at hj1 hj2 hj3
 have hsz3:=hj2.2.1
 refine y_ ?_
 refine k_ (fun hc=>?_) fun hc=>?_
 ·simp at hc
  refine Exists.elim (at_exN (l:=p.gs) (i:=j) (by omega)) fun g hg=>?_
  have hgm:=List.mem_of_getElem? hg
  refine Exists.elim (hbod g hgm) fun y hy=>?_
  have htk:p.gs.take (j+1)=p.gs.take j++[g]:=by rw [List.take_add_one,hg];rfl
  have hsn:=fitsGs_snoc hy hj2
  rw [←htk,←hj3] at hsn
  have hszy:szR y≤szGs p.gs:=by have:=szGs_le hgm;rw [szG_eq,hy,szL,szL] at this;omega
  have ihy:=ih0 y high lg ((wfG_all (hwa.g g hgm)).body y (by rw [hy];exact List.mem_cons_self ..)) (by omega) (by omega) (by omega)
  unfold procE at ihy
  refine y_ ?_
  refine j_ rfl (encGl_at hg) (encG_eq g) ?_
  (refine b_ fun bx=>?_;refine y_ ?_)
  refine i_ rfl (show (encRl g.body)[(0:Int).toNat]? =some (encR y) from encRl_at (by rw [hy];rfl)) (encR_eq y) ?_
  refine A.valE 90 rfl (x':=AI (deep+1)) (ai_eq hw2) ?_
  refine A.e rfl ihy .refl (List.Perm.swap _ _ _) fun lf2 hlf2=>?_
  by_cases hfx:fitsR l ch.length high y lg (33-(deep+1))
  ·refine e_ 92 rfl (x':=AB true) (ab_eq (decide_eq_true hfx)) ?_
   refine l_ (Λ':=[.box b (ckA l ch x lf2), .box _ (cellsR p)]) ?_
   refine A.valE 80 rfl (x':=AI ((j+1:Nat):Int)) (inc_eq j (by have:=hwa.gl;omega)) ?_
   refine u_ (jh (j+1,lf2) ⟨by show j+1≤_;omega,hsn.2 hfx,?_⟩ (by show _-(j+1)<_-j;omega))
   show lf2=left-1-(szL p.l:Nat)-(szGs (p.gs.take (j+1)):Nat)
   have e2:szGs [g]=szR y:=by rw [szGs,szGs,szG_eq,hy,szL,szL];omega
   rw [hlf2 hfx,htk,szGs_append,hj3,e2];omega
  ·have hnf: ¬fitsR l ch.length high p left (33-deep):=fun hf=>hfx (hsn.1 (fitsGs_take (hfl.1 hf).2 (j+1)))
   refine e_ 92 rfl (x':=AB false) (ab_eq (decide_eq_false hfx)) ?_
   (refine A.ret1 (Λ':=[.box b _]) rfl rfl rfl sl_ ⟨_,Sb.eq (ab_eq ?_),rfl,?_⟩;exact (decide_eq_false hnf).symm;exact fun h=>absurd h hnf)
 simp at hc
 have hjl:j=p.gs.length:=by omega
 rw [hjl,List.take_length] at hj2 hj3
 refine y_ ?_
 refine A.ret1 (Λ':=[.box b _]) rfl rfl rfl sl_ ⟨_,Sb.eq (ab_eq ?_),rfl,?_⟩
 ·exact (decide_eq_true (hfl.2 ⟨hi2,hj2⟩)).symm
 ·intro _;show lg=left-szR p;omega
theorem process_p(l:List KV)(ch:List Int)(hl:l.length≤281474976710656)(hv:VarsOk l)(x:Nat→AV)(b:Nat): ∀(N:Nat) (p:PR) (deep:Int) (high:Bool) (left:Int),szR p≤N→wfR p→0≤left→left≤2048→1≤deep→deep≤33→procE l ch x b p deep high left
 |0,p,_,_,_,hn,_,_,_,_,_=>by have:=szR_pos p;omega
 |N+1,p,deep,high,left,hn,hw,r0,r1,d0,d1=>by
  by_cases hk:1≤p.kind∧p.kind≤15
  ·have hck:=check_some b p.kind hk
   by_cases hz:left=0∨deep=33
   ·exact proc_a l ch x b p deep high left hz r0 r1 _ hck
   have hle:=kind_lent l ch hl hv p (wfR_all hw) hk
   cases hkb:kindB l ch.length p with
   |false=>exact proc_c l ch x b p deep high left (by omega) r1 d0 (by omega) _ hck hle hkb
   |true=>
    cases hh:(high&&p.kind==11) with
    |true=>
     simp only [Bool.and_eq_true,beq_iff_eq] at hh
     rw [hh.1]
     exact proc_d l ch x b p deep left (by omega) r1 d0 (by omega) _ hck hle hkb hh.2
    |false=>exact proc_e l ch x b p hw deep high left (by omega) r1 d0 (by omega) _ hck hle hkb hh fun y hi lf hwy hsz l0 l1=>process_p l ch hl hv x b N y (deep+1) hi lf (by omega) hwy l0 l1 (by omega) (by omega)
  ·have hck:=check_none b p.kind hk
   have hno:kindB l ch.length p=false:=by
    cases h:kindB l ch.length p with
    |false=>rfl
    |true=>have:=kind_bodies h;exact (hk ⟨this.1,this.2.1⟩).elim
   by_cases hz:left=0∨deep=33
   ·exact proc_a l ch x b p deep high left hz r0 r1 _ hck
   ·exact proc_b l ch x b p deep high left (by omega) r1 d0 (by omega) hck hno
abbrev intsA(l:List Int):AV:= .sl 1 (l.map AI) none
def idxI(v:Int)(l:List Int)(i:Nat):Int:=idxF (fun x=>v==x) l i
theorem index_p(l:List Int)(v:Int)(hb:l.length≤281474976710656):Pure Tryz.prog gs0 106 [intsA l,AI v] (AI (idxI v l 0)):=by
 refine p_ tt_ok Tryz.func106 19 fun w0 h0 F hgs=>?_
 refine y_ ?_
 refine A.valE 7 rfl (x':=AI (l.length:Nat)) (ai_eq (by rw [List.length_map])) ?_
 refine A.keep [0,1,7,8] rfl ?_
 refine A.loopP (ι:=Nat) (fun i=>(⟨[(0,intsA l),(1,AI v),(7,AI (l.length:Nat)),(8,AI (i:Int))],[]⟩,[])) (fun i=>i≤l.length∧idxI v l 0=idxI v (l.drop i) i) (fun i=>l.length-i) 0 ⟨by omega,rfl⟩ rfl fun i hi ih=>?_
 refine y_ ?_
 refine k_ (fun hc=>?_) fun hc=>?_
 ·simp at hc
  refine Exists.elim (at_exN (l:=l) (i:=i) hc) fun x hx=>?_
  have h1:idxI v l 0=if (v==x)=true then (i:Int) else idxI v (l.drop (i+1)) (i+1):=by rw [hi.2,drop_at hx];rfl
  refine y_ ?_
  refine i_ rfl (map_at hx) rfl ?_
  refine k_ (fun hc=>?_) fun hc=>?_
  ·rw [hc,if_pos rfl] at h1
   refine y_ ?_;refine R_ ?_;rw [h1];exact .refl
  ·rw [hc,if_neg (by simp)] at h1
   refine y_ ?_
   refine A.valE 8 rfl (x':=AI ((i+1:Nat):Int)) (inc_eq i (by omega)) ?_
   refine u_ (ih (i+1) ⟨by omega,h1⟩ (by omega))
 ·simp at hc
  have:i=l.length:=by omega
  subst this
  refine y_ ?_;refine R_ ?_;rw [hi.2,List.drop_length];exact .refl
theorem contains_p(l:List Int)(v:Int)(hb:l.length≤281474976710656):Pure Tryz.prog gs0 57 [intsA l,AI v] (AB (l.contains v)):=by
 refine p_ tt_ok Tryz.func57 9 fun w0 h0 F hgs=>?_
 refine y_ ?_
 refine c_ (index_p l v hb) ?_;refine R_ ?_;refine Sb.eq (ab_eq ?_)
 rw [idxI,idxF_any,List.contains_eq_any_beq]
structure KN where
 vars:List KV
 chans:List Int
 root:PR
 procs:List Int
abbrev encN(k:KN):AV:= .ag [varsA k.vars,chsA k.chans,AU8 k.root.kind,AI k.root.c,AI k.root.v,AU8 k.root.item,plsA k.root.to,kesA k.root.e,gsA k.root.gs,rsA k.root.l,intsA k.procs]
structure WfN(k:KN):Prop where
 vars:k.vars.length≤281474976710656
 chans:k.chans.length≤281474976710656
 procs:k.procs.length≤281474976710656
 root:wfR k.root
def okPr:List Int→List Int→Bool
 |_,[]=>true
 |seen,n::r=>decide (0≤n)&&decide (n<8)&& !seen.contains n&&okPr (seen++[n]) r
def varOk(v:KV):Bool:=primB v.kind&&decide (0≤v.dim)&&decide (v.dim≤64)
def wantH(i:Nat):Int:=if i=0 then 1 else if i=1 then 2 else 0
def okCh:Nat→List Int→Bool
 |_,[]=>true
 |i,h::r=>h==wantH i&&okCh (i+1) r
def lensK(k:KN):Bool:=decide (k.vars.length≤256)&&decide (2≤k.chans.length)&&decide (k.chans.length≤64)
def rootK(k:KN):Bool:=k.procs.length==0||(k.root.kind==10&&k.root.l.length==k.procs.length)
def mayK(k:KN):Bool:=lensK k&&rootK k&&okPr [] k.procs&&k.vars.all varOk&&okCh 0 k.chans&&decide (fitsR k.vars k.chans.length false k.root 2048 32)
theorem varsOk_of{l:List KV}(h:l.all varOk=true):VarsOk l:=fun y hy=>by
 have:=List.all_eq_true.1 h y hy
 simp only [varOk,primB,Bool.and_eq_true,decide_eq_true_eq] at this
 omega
def xN(k:KN):Nat→AV:=fun i=>([AU8 k.root.kind,AI k.root.c,AI k.root.v,AU8 k.root.item,plsA k.root.to,kesA k.root.e,gsA k.root.gs,rsA k.root.l,intsA k.procs]:List AV).getD i (AI 0)
theorem kmay_a(k:KN)(h:(lensK k&&rootK k)=false):Pure Tryz.prog gs0 31 [encN k] (AB false):=by
 have n1:((k.vars.map encV).length:Int)=k.vars.length:=by rw [List.length_map]
 have n2:((k.chans.map AU8).length:Int)=k.chans.length:=by rw [List.length_map]
 have n3:((k.procs.map AI).length:Int)=k.procs.length:=by rw [List.length_map]
 have n4:((encRl k.root.l).length:Int)=k.root.l.length:=by rw [encRl_len]
 refine p_ tt_ok Tryz.func31 116 fun w0 h0 F hgs=>?_
 (refine gb_ fun bx=>?_;refine g_ ?_)
 refine A.valE 26 rfl (x':=AB (!lensK k)) (ab_eq ?_) ?_
 ·rw [n1,n2,lensK,Bool.eq_iff_iff];simp;omega
 cases hlk:lensK k with
 |false=>exact yr_
 |true=>
  rw [hlk,Bool.true_and] at h
  refine g_ ?_
  refine A.valE 46 rfl (x':=AB true) (ab_eq ?_) ?_
  ·rw [n3,n4]
   have h': ¬k.procs.length=0∧ ¬(k.root.kind=10∧k.root.l.length=k.procs.length):=by simpa [rootK] using h
   by_cases hk:k.root.kind=10
   ·rw [Bool.eq_iff_iff];simp [hk];omega
   ·rw [Bool.eq_iff_iff];simp [hk];omega
  exact yr_
theorem kmay_b(k:KN)(hw:WfN k)(h:(lensK k&&rootK k)=true)(R:Bool)(hR:(okPr [] k.procs&&k.vars.all varOk&&okCh 0 k.chans&&decide (fitsR k.vars k.chans.length false k.root 2048 32))=R):Pure Tryz.prog gs0 31 [encN k] (AB R):=by
 have n1:((k.vars.map encV).length:Int)=k.vars.length:=by rw [List.length_map]
 have n2:((k.chans.map AU8).length:Int)=k.chans.length:=by rw [List.length_map]
 have n3:((k.procs.map AI).length:Int)=k.procs.length:=by rw [List.length_map]
 have n4:((encRl k.root.l).length:Int)=k.root.l.length:=by rw [encRl_len]
 rw [Bool.and_eq_true] at h
 have hlk:k.vars.length≤256∧2≤k.chans.length∧k.chans.length≤64:=by have:=h.1;simp only [lensK,Bool.and_eq_true,decide_eq_true_eq] at this;omega
 have hrk:k.procs.length=0∨(k.root.kind=10∧k.root.l.length=k.procs.length):=by simpa [rootK] using h.2
 have hpl:=hw.procs
 generalize hR1:(k.vars.all varOk&&okCh 0 k.chans&&decide (fitsR k.vars k.chans.length false k.root 2048 32))=R1
 rw [Bool.and_assoc,Bool.and_assoc,←Bool.and_assoc (k.vars.all varOk),hR1] at hR
 refine p_ tt_ok Tryz.func31 116 fun w0 h0 F hgs=>?_
 (refine gb_ fun bx=>?_;refine g_ ?_)
 refine A.valE 26 rfl (x':=AB false) (ab_eq ?_) ?_
 ·rw [n1,n2,Bool.eq_iff_iff];simp;omega
 refine g_ ?_
 refine A.valE 46 rfl (x':=AB false) (ab_eq ?_) ?_
 ·rw [n3,n4]
  rcases hrk with hp0|⟨hk,hl2⟩
  ·simp [hp0]
  ·simp [hk,hl2]
 refine y_ ?_
 refine A.valE 49 rfl (x':=AI (k.procs.length:Nat)) (ai_eq n3) ?_
 refine A.keep [1,48,49,50] rfl ?_
 refine A.loopP (ι:=Nat) (fun i=>(⟨[(1,ptrA _),(48,intsA k.procs),(49,AI (k.procs.length:Nat)),(50,AI (i:Nat))],[]⟩,[.box _ (encN k)])) (fun i=>i≤k.procs.length∧(okPr (k.procs.take i) (k.procs.drop i)&&R1)=R) (fun i=>k.procs.length-i) 0 ⟨by omega,hR⟩ rfl fun i hi ih=>?_
 refine y_ ?_
 refine k_ (fun hc=>?_) fun hc=>?_
 ·simp at hc
  refine Exists.elim (at_exN (l:=k.procs) (i:=i) (by omega)) fun v hv=>?_
  have h1:=hi.2
  rw [drop_at hv,okPr] at h1
  have htk:k.procs.take (i+1)=k.procs.take i++[v]:=by rw [List.take_add_one,hv];rfl
  have hcn:=contains_p (k.procs.take i) v (by rw [List.length_take];omega)
  refine y_ ?_
  refine i_ rfl (map_at hv) rfl ?_
  ((fail_if_success (refine A.lit? rfl ?_));refine A.gS rfl (fun hc=>?_) (fun hc=>?_))
  ·have hc0:v<0:=by simpa using hc
   rw [decide_eq_false (by omega)] at h1
   refine y_ ?_;refine R_ ?_;rw [←h1];exact .refl
  have hc0:0≤v:=by simpa using hc
  refine y_ ?_
  ((fail_if_success (refine A.lit? rfl ?_));refine A.gS rfl (fun hc=>?_) (fun hc=>?_))
  ·have hc1:8≤v:=by simpa using hc
   rw [decide_eq_false (p:=v<8) (by omega),Bool.and_false] at h1
   refine y_ ?_;refine R_ ?_;rw [←h1];exact .refl
  have hc1:v<8:=by simpa using hc
  rw [decide_eq_true hc0,decide_eq_true hc1,Bool.true_and,Bool.true_and] at h1
  refine y_ ?_
  refine A.slice (ys:=(k.procs.take i).map AI) rfl rfl rfl rfl rfl rfl rfl rfl rfl (by decide) (by omega) (by rw [List.length_map];omega) (by simp [List.map_take]) rfl ?_
  refine y_ ?_
  refine c_ hcn ?_
  refine k_ (fun hc=>?_) fun hc=>?_
  ·have hc:(k.procs.take i).contains v=true:=hc
   rw [hc,Bool.not_true,Bool.false_and,Bool.false_and] at h1
   refine y_ ?_;refine R_ ?_;rw [←h1];exact .refl
  ·have hc:(k.procs.take i).contains v=false:=hc
   rw [hc,Bool.not_false,Bool.true_and,←htk] at h1
   refine y_ ?_
   refine A.valE 50 rfl (x':=AI ((i+1:Nat):Int)) (inc_eq i (by omega)) ?_
   refine u_ (ih (i+1) ⟨by omega,h1⟩ (by omega))
 simp at hc
 have hil:i=k.procs.length:=by omega
 have h1:=hi.2
 rw [hil,List.drop_length,okPr,Bool.true_and] at h1
 rw [←hR1,Bool.and_assoc] at h1
 generalize hR2:(okCh 0 k.chans&&decide (fitsR k.vars k.chans.length false k.root 2048 32))=R2 at h1
 clear ih hi hR hR1
 refine y_ ?_
 refine A.valE 72 rfl (x':=AI (k.vars.length:Nat)) (ai_eq n1) ?_
 refine A.keep [1,71,72,73] rfl ?_
 refine A.loopP (ι:=Nat) (fun i=>(⟨[(1,ptrA _),(71,varsA k.vars),(72,AI (k.vars.length:Nat)),(73,AI (i:Nat))],[]⟩,[.box _ (encN k)])) (fun i=>i≤k.vars.length∧((k.vars.drop i).all varOk&&R2)=R∧(k.vars.take i).all varOk=true) (fun i=>k.vars.length-i) 0 ⟨by omega,h1,rfl⟩ rfl fun j hi ih=>?_
 refine y_ ?_
 refine k_ (fun hc=>?_) fun hc=>?_
 ·simp at hc
  refine Exists.elim (at_exN (l:=k.vars) (i:=j) (by omega)) fun v hv=>?_
  have h2:=hi.2.1
  have htv:k.vars.take (j+1)=k.vars.take j++[v]:=by rw [List.take_add_one,hv];rfl
  rw [drop_at hv,List.all_cons,varOk] at h2
  refine y_ ?_
  refine j_ rfl (map_at hv) rfl ?_
  (refine b_ fun bx=>?_;refine y_ ?_)
  refine c_ (kprim_p v.kind) ?_
  ((fail_if_success (refine A.lit? rfl ?_));refine A.gS rfl (fun hc=>?_) (fun hc=>?_))
  ·have hc0:primB v.kind=false:=by simpa using hc
   rw [hc0] at h2
   refine y_ ?_;refine R_ ?_;rw [←h2];exact .refl
  have hc0:primB v.kind=true:=by simpa using hc
  refine y_ ?_
  ((fail_if_success (refine A.lit? rfl ?_));refine A.gS rfl (fun hc=>?_) (fun hc=>?_))
  ·have hc1:v.dim<0:=by simpa using hc
   rw [decide_eq_false (p:=0≤v.dim) (by omega),Bool.and_false] at h2
   refine y_ ?_;refine R_ ?_;rw [←h2];exact .refl
  have hc1:0≤v.dim:=by simpa using hc
  refine y_ ?_
  refine k_ (fun hc=>?_) fun hc=>?_
  ·have hc2:64<v.dim:=by simpa using hc
   rw [decide_eq_false (p:=v.dim≤64) (by omega),Bool.and_false] at h2
   refine y_ ?_;refine R_ ?_;rw [←h2];exact .refl
  ·have hc2:v.dim≤64:=by simpa using hc
   rw [hc0,decide_eq_true hc1,decide_eq_true hc2] at h2
   simp only [Bool.true_and] at h2
   refine y_ ?_
   refine l_ (Λ':=[.box _ (encN k)]) ?_
   refine A.valE 73 rfl (x':=AI ((j+1:Nat):Int)) (inc_eq j (by omega)) ?_
   refine u_ (ih (j+1) ⟨by omega,h2,by rw [htv,List.all_append,hi.2.2];simp [varOk,hc0,hc1,hc2]⟩ (by omega))
 simp at hc
 have hjl:j=k.vars.length:=by omega
 have h2:=hi.2.1
 have hvo:=hi.2.2
 rw [hjl,List.take_length] at hvo
 rw [hjl,List.drop_length,List.all_nil,Bool.true_and] at h2
 clear ih hi
 rw [←hR2] at h2
 generalize hR3:decide (fitsR k.vars k.chans.length false k.root 2048 32)=R3 at h2
 have hpr:=fun b=>process_p k.vars k.chans hw.vars (varsOk_of hvo) (xN k) b (szR k.root) k.root 1 false 2048 (Nat.le_refl _) hw.root (by decide) (by decide) (by decide) (by decide)
 simp only [procE,show (33:Int)-1=32 from rfl] at hpr
 refine y_ ?_
 refine A.valE 94 rfl (x':=AI (k.chans.length:Nat)) (ai_eq n2) ?_
 refine A.keep [1,93,94,95] rfl ?_
 refine A.loopP (ι:=Nat) (fun i=>(⟨[(1,ptrA _),(93,chsA k.chans),(94,AI (k.chans.length:Nat)),(95,AI (i:Nat))],[]⟩,[.box _ (encN k)])) (fun i=>i≤k.chans.length∧(okCh i (k.chans.drop i)&&R3)=R) (fun i=>k.chans.length-i) 0 ⟨by omega,h2⟩ rfl fun m hi ih=>?_
 refine y_ ?_
 refine k_ (fun hc=>?_) fun hc=>?_
 ·simp at hc
  refine Exists.elim (at_exN (l:=k.chans) (i:=m) (by omega)) fun v hv=>?_
  have h3:=hi.2
  rw [drop_at hv,okCh] at h3
  refine y_ ?_
  refine j_ rfl (map_at hv) rfl ?_
  by_cases m0:m=0
  ·subst m0
   rw [show wantH 0=1 from rfl] at h3
   refine y_ ?_
   refine k_ (fun hc=>?_) fun hc=>?_
   ·have hc:(v !=1)=true:=hc
    have hv1:(v==1)=false:=by simpa using hc
    rw [hv1] at h3
    refine y_ ?_;refine R_ ?_;rw [←h3];exact .refl
   ·have hc:(v !=1)=false:=hc
    have hv1:(v==1)=true:=by simpa using hc
    rw [hv1,Bool.true_and] at h3
    refine y_ ?_
    refine u_ (ih 1 ⟨by omega,h3⟩ (by omega))
  by_cases m1:m=1
  ·subst m1
   rw [show wantH 1=2 from rfl] at h3
   refine y_ ?_
   refine k_ (fun hc=>?_) fun hc=>?_
   ·have hc:(v !=2)=true:=hc
    have hv1:(v==2)=false:=by simpa using hc
    rw [hv1] at h3
    refine y_ ?_;refine R_ ?_;rw [←h3];exact .refl
   ·have hc:(v !=2)=false:=hc
    have hv1:(v==2)=true:=by simpa using hc
    rw [hv1,Bool.true_and] at h3
    refine y_ ?_
    refine u_ (ih 2 ⟨by omega,h3⟩ (by omega))
  ·rw [show wantH m=0 by simp [wantH,m0,m1]] at h3
   refine y_ ?_
   refine e_ 101 rfl (x':=AB false) (ab_eq (by simp;omega)) ?_
   refine e_ 103 rfl (x':=AB false) (ab_eq (by simp;omega)) ?_
   refine k_ (fun hc=>?_) fun hc=>?_
   ·have hc:(v !=0)=true:=hc
    have hv1:(v==0)=false:=by simpa using hc
    rw [hv1] at h3
    refine y_ ?_;refine R_ ?_;rw [←h3];exact .refl
   ·have hc:(v !=0)=false:=hc
    have hv1:(v==0)=true:=by simpa using hc
    rw [hv1,Bool.true_and] at h3
    refine y_ ?_
    refine A.valE 95 rfl (x':=AI ((m+1:Nat):Int)) (inc_eq m (by omega)) ?_
    refine u_ (ih (m+1) ⟨by omega,h3⟩ (by omega))
 simp at hc
 have hml:m=k.chans.length:=by omega
 have h3:=hi.2
 rw [hml,List.drop_length,okCh,Bool.true_and] at h3
 clear ih hi
 (refine b_ fun bx=>?_;refine y_ ?_)
 refine A.entsEq (Λ':=[.box _ (ckA k.vars k.chans (xN k) 2048), .box _ (encN k)]) rfl ?_
 refine A.e rfl (hpr _) .refl (List.Perm.refl _) fun lf _=>?_
 refine y_ ?_;refine R_ ?_;refine Sb.eq (ab_eq ?_);rw [←h3,←hR3]
theorem kmay_p(k:KN)(hw:WfN k):Pure Tryz.prog gs0 31 [encN k] (AB (mayK k)):=by
 by_cases h:(lensK k&&rootK k)=true
 ·have:=kmay_b k hw h _ rfl
  unfold mayK
  rw [h,Bool.true_and]
  exact this
 ·have h:(lensK k&&rootK k)=false:=by simpa using h
  have:=kmay_a k h
  unfold mayK
  rw [h,Bool.false_and,Bool.false_and,Bool.false_and,Bool.false_and]
  exact this
theorem within16_p(n:Nat)(a b:Int):Pure Tryz.prog gs0 145 [AI (n:Int),twoA a b] (AB (inB n a b)):=by
 refine p_ tt_ok Tryz.func145 15 fun w0 h0 F hgs=>?_
 (refine b_ fun bx=>?_;refine y_ ?_)
 refine A.indexArr rfl rfl rfl rfl rfl rfl rfl rfl (by decide) (by decide) ?_
 refine y_ ?_
 ((fail_if_success (refine A.lit? rfl ?_));refine A.gS rfl (fun hc=>?_) (fun hc=>?_))
 ·refine y_ ?_
  refine A.indexArr rfl rfl rfl rfl rfl rfl rfl rfl (by decide) (by decide) ?_
  refine y_ ?_;refine R_ ?_;refine Sb.eq (ab_eq ?_);rw [inB,hc];rfl
 ·refine y_ ?_;refine R_ ?_;refine Sb.eq (ab_eq ?_);rw [inB,hc];rfl
structure FM where
 c:Bool
 v:Bool
 t1:Int
 t2:Int
 e1:Int
 e2:Int
 g1:Int
 g2:Int
 l1:Int
 l2:Int
abbrev fmA(f:FM):AV:= .ag [AB f.c,AB f.v,AB f.c,AI f.t1,AI f.t2,AI f.e1,AI f.e2,AI f.g1,AI f.g2,AI f.l1,AI f.l2]
def fm0:FM:=⟨false,false,0,0,0,0,0,0,0,0⟩
def formK(k:Int):Option FM:=
 if k=1∨k=2 then some fm0 else if k=3 then some ⟨false,true,0,0,0,0,0,0,0,0⟩ else if k=4 then some ⟨false,false,1,8,1,8,0,0,0,0⟩
 else if k=5 then some ⟨true,false,1,1,0,0,0,0,0,0⟩ else if k=6 then some ⟨true,false,0,0,1,1,0,0,0,0⟩ else if k=7 then some ⟨false,false,1,1,0,0,0,0,0,0⟩
 else if k=8 then some ⟨false,false,0,0,1,1,0,0,0,0⟩ else if k=9 then some ⟨false,false,0,0,0,0,0,0,0,2048⟩ else if k=10 then some ⟨false,false,0,0,0,0,0,0,0,16⟩
 else if k=11 then some ⟨false,false,0,0,0,0,0,0,2,2⟩ else if k=12∨k=14∨k=15 then some ⟨false,false,0,0,0,0,0,16,0,0⟩ else if k=13 then some ⟨false,false,0,0,1,1,0,0,1,1⟩ else none
theorem kinds_15{k:Int}(h:1≤k∧k≤15):k=1∨k=2∨k=3∨k=4∨k=5∨k=6∨k=7∨k=8∨k=9∨k=10∨k=11∨k=12∨k=13∨k=14∨k=15:=by omega
theorem forms_p(k:Int):Pure Tryz.prog gs0 144 [AU8 k] (.tp [fmA ((formK k).getD fm0),AB (formK k).isSome]):=by
 by_cases h:1≤k∧k≤15
 ·rcases kinds_15 h with rfl|rfl|rfl|rfl|rfl|rfl|rfl|rfl|rfl|rfl|rfl|rfl|rfl|rfl|rfl
  all_goals refine p_ tt_ok Tryz.func144 61 fun w0 h0 F hgs=>?_
  all_goals ((refine b_ fun bx=>?_;refine b_ fun bx=>?_;refine b_ fun bx=>?_;refine y_ ?_);refine m_ (ResA.cell rfl rfl rfl (ResA.tmp rfl ResA.nil)) ?_;exact .refl)
 ·have hn:formK k=none:=by
   unfold formK
   rw [if_neg (by omega),if_neg (by omega),if_neg (by omega),if_neg (by omega),if_neg (by omega),if_neg (by omega),if_neg (by omega),if_neg (by omega),if_neg (by omega),if_neg (by omega),if_neg (by omega),if_neg (by omega)]
  rw [hn]
  refine p_ tt_ok Tryz.func144 61 fun w0 h0 F hgs=>?_
  (repeat (first|first|refine A.s rfl ?_|refine A.r rfl rfl ?_|refine A.w rfl rfl ?_|refine A.p rfl ?_|refine A.b rfl fun bx=>?_|refine A.t rfl fun bl=>?_|refine A.cond rfl (fun h=>(by simp at h;omega)) (fun _=>?_)|first|refine A.step rfl ?_|refine A.v rfl rfl ?_))
  refine m_ (ResA.cell rfl rfl rfl (ResA.tmp rfl ResA.nil)) ?_;exact .refl
def looksB(p:PR):Bool:=match formK p.kind with
 |some f=>shapeR p f.c f.v f.t1 f.t2 f.e1 f.e2 f.g1 f.g2 f.l1 f.l2
 |none=>false
theorem looks_p(p:PR):Pure Tryz.prog gs0 112 [cellsR p] (AB (looksB p)):=by
 have hf:=forms_p p.kind
 unfold looksB
 generalize formK p.kind=fk at hf⊢
 cases fk with
 |none=>
  refine p_ tt_ok Tryz.func112 73 fun w0 h0 F hgs=>?_
  (refine b_ fun bx=>?_;refine y_ ?_);refine n_ hf ?_
  (refine b_ fun bx=>?_;refine y_ ?_);exact r_
 |some f=>
  simp only [Option.getD_some,Option.isSome_some] at hf⊢
  have s1:=within16_p p.to.length f.t1 f.t2
  have s2:=within16_p p.e.length f.e1 f.e2
  have s3:=within16_p p.gs.length f.g1 f.g2
  have s4:=within16_p p.l.length f.l1 f.l2
  have n1:((p.to.map encPl).length:Int)=p.to.length:=by rw [List.length_map]
  have n2:((encKl p.e).length:Int)=p.e.length:=by rw [encKl_len]
  have n3:((encGl p.gs).length:Int)=p.gs.length:=by rw [encGl_len]
  have n4:((encRl p.l).length:Int)=p.l.length:=by rw [encRl_len]
  rw [←n1] at s1
  rw [←n2] at s2
  rw [←n3] at s3
  rw [←n4] at s4
  unfold shapeR
  generalize inB p.to.length f.t1 f.t2=b1 at s1⊢
  generalize inB p.e.length f.e1 f.e2=b2 at s2⊢
  generalize inB p.gs.length f.g1 f.g2=b3 at s3⊢
  generalize inB p.l.length f.l1 f.l2=b4 at s4⊢
  clear n1 n2 n3 n4
  obtain ⟨c,v,t1,t2,e1,e2,g1,g2,l1,l2⟩:=f
  cases c<;>cases v
  all_goals refine p_ tt_ok Tryz.func112 73 fun w0 h0 F hgs=>?_
  all_goals (repeat' first|first|refine A.s rfl ?_|refine A.r rfl rfl ?_|refine A.w rfl rfl ?_|refine A.p rfl ?_|refine A.b rfl fun bx=>?_|refine A.t rfl fun bl=>?_|refine A.c rfl hf .refl ?_|refine A.c rfl s1 .refl ?_|refine A.c rfl s2 .refl ?_|refine A.c rfl s3 .refl ?_|refine A.c rfl s4 .refl ?_|((fail_if_success (refine A.lit? rfl ?_));refine A.gS rfl (fun hc=>?_) (fun hc=>?_))|((fail_if_success (refine A.litP? rfl ?_));refine A.gSP rfl (fun hc=>?_) (fun hc=>?_)))
  (all_goals (refine R_ ?_;refine Sb.eq (ab_eq ?_)))
  all_goals simp_all
theorem rFits_p(l:List KV)(e:KE)(hw:wfK e)(kind:Int):Pure Tryz.prog gs0 147 [varsA l,cellsK e,AU8 kind] (AB (fitV l e kind)):=by
 have hva:=rvalid_p e hw
 rw [encK_eq] at hva
 unfold fitV
 by_cases hve:valid e
 ·have hf:=fits16_p l (ht e) e kind (Nat.le_refl _) hve.1
  rw [encK_eq] at hf
  rw [decide_eq_true hve] at hva⊢
  rw [Bool.true_and]
  generalize fitsM l e kind=bf at hf⊢
  refine p_ tt_ok Tryz.func147 15 fun w0 h0 F hgs=>?_
  (refine b_ fun bx=>?_;refine y_ ?_);refine c_ hva ?_;exact cr_ hf
 ·rw [decide_eq_false hve] at hva⊢
  rw [Bool.false_and]
  refine p_ tt_ok Tryz.func147 15 fun w0 h0 F hgs=>?_
  (refine b_ fun bx=>?_;refine y_ ?_);exact cr_ hva
theorem rplace_p(l:List KV)(p:PL)(hw:wfPl p)(k:Int):Pure Tryz.prog gs0 146 [varsA l,encPl p,AU8 k] (AB (placeB l p k)):=by
 have hlen:((l.map encV).length:Int)=l.length:=by rw [List.length_map]
 have hxl:((encKl p.ix).length:Int)=p.ix.length:=by rw [encKl_len]
 by_cases hneg:p.v<0
 ·refine p_ tt_ok Tryz.func146 50 fun w0 h0 F hgs=>?_
  (refine b_ fun bx=>?_;refine y_ ?_)
  refine e_ 10 rfl (x':=AB true) (ab_eq (by simpa using hneg)) ?_;refine R_ ?_;refine Sb.eq (ab_eq ?_);rw [placeB,if_pos (.inl hneg)]
 by_cases h1:(l.length:Int)≤p.v
 ·refine p_ tt_ok Tryz.func146 50 fun w0 h0 F hgs=>?_
  (refine b_ fun bx=>?_;refine y_ ?_)
  refine e_ 10 rfl (x':=AB false) (ab_eq (by simp;omega)) ?_
  refine e_ 17 rfl (x':=AB true) (ab_eq (by rw [hlen];simpa using h1)) ?_;refine R_ ?_;refine Sb.eq (ab_eq ?_);rw [placeB,if_pos (.inr h1)]
 refine Exists.elim (at_ex (l:=l) (i:=p.v) (by omega) (by omega)) fun y hy=>?_
 have hpb:placeB l p k=(y.kind==k&&(if y.dim=0 then p.ix.length==0 else p.ix.length==1&&fit1 l p.ix 1)):=by rw [placeB,if_neg (by omega),hy]
 rw [hpb]
 clear hpb
 have hv0:(0:Int)≤p.v:=by omega
 by_cases hk:y.kind=k
 case neg=>
  refine p_ tt_ok Tryz.func146 50 fun w0 h0 F hgs=>?_
  (refine b_ fun bx=>?_;refine y_ ?_)
  refine e_ 10 rfl (x':=AB false) (ab_eq (by simp;omega)) ?_
  refine e_ 17 rfl (x':=AB false) (ab_eq (by rw [hlen];simp;omega)) ?_
  refine A.x rfl hv0 (map_at hy) rfl rfl ?_
  refine y_ ?_
  refine e_ 26 rfl (x':=AB true) (ab_eq (by simpa using hk)) ?_;refine R_ ?_;refine Sb.eq (ab_eq ?_);simp [hk]
 subst hk
 by_cases hd:y.dim=0
 ·refine p_ tt_ok Tryz.func146 50 fun w0 h0 F hgs=>?_
  (refine b_ fun bx=>?_;refine y_ ?_)
  refine e_ 10 rfl (x':=AB false) (ab_eq (by simp;omega)) ?_
  refine e_ 17 rfl (x':=AB false) (ab_eq (by rw [hlen];simp;omega)) ?_
  refine A.x rfl hv0 (map_at hy) rfl rfl ?_
  refine y_ ?_
  refine e_ 26 rfl (x':=AB false) (ab_eq (by simp)) ?_
  refine A.x rfl hv0 (map_at hy) rfl rfl ?_
  refine y_ ?_
  refine e_ 33 rfl (x':=AB true) (ab_eq (by simpa using hd)) ?_;refine R_ ?_;refine Sb.eq (ab_eq ?_);rw [hxl,if_pos hd,Bool.eq_iff_iff];simp
 ·by_cases hx1:p.ix.length=1
  ·obtain ⟨e,he⟩: ∃e,p.ix=[e]:=by
    match h:p.ix,hx1 with
    | [e],_=>exact ⟨e,rfl⟩
   have hf:=rFits_p l e (wfKl_mem hw e (by rw [he];exact List.mem_cons_self ..)) 1
   have hfb:fit1 l p.ix 1=fitV l e 1:=by rw [he];rfl
   rw [hfb]
   generalize fitV l e 1=fb at hf⊢
   refine p_ tt_ok Tryz.func146 50 fun w0 h0 F hgs=>?_
   (refine b_ fun bx=>?_;refine y_ ?_)
   refine e_ 10 rfl (x':=AB false) (ab_eq (by simp;omega)) ?_
   refine e_ 17 rfl (x':=AB false) (ab_eq (by rw [hlen];simp;omega)) ?_
   refine A.x rfl hv0 (map_at hy) rfl rfl ?_
   refine y_ ?_
   refine e_ 26 rfl (x':=AB false) (ab_eq (by simp)) ?_
   refine A.x rfl hv0 (map_at hy) rfl rfl ?_
   refine y_ ?_
   refine e_ 33 rfl (x':=AB false) (ab_eq (by simpa using hd)) ?_
   refine e_ 42 rfl (x':=AB true) (ab_eq (by rw [hxl];simp [hx1])) ?_
   refine i_ rfl (show (encKl p.ix)[(0:Int).toNat]? =some (encK e) from encKl_at (by rw [he];rfl)) (encK_eq e) ?_
   refine c_ hf ?_;refine R_ ?_;refine Sb.eq (ab_eq ?_);rw [if_neg hd,hx1];simp
  ·refine p_ tt_ok Tryz.func146 50 fun w0 h0 F hgs=>?_
   (refine b_ fun bx=>?_;refine y_ ?_)
   refine e_ 10 rfl (x':=AB false) (ab_eq (by simp;omega)) ?_
   refine e_ 17 rfl (x':=AB false) (ab_eq (by rw [hlen];simp;omega)) ?_
   refine A.x rfl hv0 (map_at hy) rfl rfl ?_
   refine y_ ?_
   refine e_ 26 rfl (x':=AB false) (ab_eq (by simp)) ?_
   refine A.x rfl hv0 (map_at hy) rfl rfl ?_
   refine y_ ?_
   refine e_ 33 rfl (x':=AB false) (ab_eq (by simpa using hd)) ?_
   refine e_ 42 rfl (x':=AB false) (ab_eq (by rw [hxl];simp;omega)) ?_;refine R_ ?_;refine Sb.eq (ab_eq ?_);rw [if_neg hd];simp [hx1]
theorem rprim_p(t:Int):Pure Tryz.prog gs0 72 [AU8 t] (AB (primB t)):=by
 have:=prim_p t
 have he:(t==1||t==2||t==3)=primB t:=by rw [Bool.eq_iff_iff];simp [primB];omega
 rw [he] at this
 exact this
theorem rinput_p(k:KN)(c item:Int)(to:PL)(hw:wfPl to):Pure Tryz.prog gs0 148 [encN k,AI c,AU8 item,encPl to] (AB (inputB k.vars k.chans.length c item to)):=by
 have hn:((k.chans.map AU8).length:Int)=k.chans.length:=by rw [List.length_map]
 have hp:=rprim_p item
 have hpl:=rplace_p k.vars to hw item
 unfold inputB chanB
 generalize primB item=b1 at hp⊢
 generalize placeB k.vars to item=b2 at hpl⊢
 refine p_ tt_ok Tryz.func148 41 fun w0 h0 F hgs=>?_
 (repeat' first|first|refine A.s rfl ?_|refine A.r rfl rfl ?_|refine A.w rfl rfl ?_|refine A.p rfl ?_|refine A.b rfl fun bx=>?_|refine A.t rfl fun bl=>?_|refine A.c rfl hp .refl ?_|refine A.c rfl hpl .refl ?_|((fail_if_success (refine A.lit? rfl ?_));refine A.gS rfl (fun hc=>?_) (fun hc=>?_))|((fail_if_success (refine A.litP? rfl ?_));refine A.gSP rfl (fun hc=>?_) (fun hc=>?_)))
 (all_goals (refine R_ ?_;refine Sb.eq (ab_eq ?_)))
 all_goals (rw [Bool.eq_iff_iff];simp_all)
 all_goals (try intros)
 all_goals (first|omega|(cases b1<;>cases b2<;>simp_all<;>omega))
theorem routput_p(k:KN)(c item:Int)(e:KE)(hw:wfK e):Pure Tryz.prog gs0 149 [encN k,AI c,AU8 item,cellsK e] (AB (chanB k.chans.length c item 0&&fitV k.vars e item)):=by
 have hn:((k.chans.map AU8).length:Int)=k.chans.length:=by rw [List.length_map]
 have hp:=rprim_p item
 have hpl:=rFits_p k.vars e hw item
 unfold chanB
 generalize primB item=b1 at hp⊢
 generalize fitV k.vars e item=b2 at hpl⊢
 refine p_ tt_ok Tryz.func149 37 fun w0 h0 F hgs=>?_
 (repeat' first|first|refine A.s rfl ?_|refine A.r rfl rfl ?_|refine A.w rfl rfl ?_|refine A.p rfl ?_|refine A.b rfl fun bx=>?_|refine A.t rfl fun bl=>?_|refine A.c rfl hp .refl ?_|refine A.c rfl hpl .refl ?_|((fail_if_success (refine A.lit? rfl ?_));refine A.gS rfl (fun hc=>?_) (fun hc=>?_))|((fail_if_success (refine A.litP? rfl ?_));refine A.gSP rfl (fun hc=>?_) (fun hc=>?_)))
 (all_goals (refine R_ ?_;refine Sb.eq (ab_eq ?_)))
 all_goals (rw [Bool.eq_iff_iff];simp_all)
 all_goals (try intros)
 all_goals (first|omega|(cases b1<;>cases b2<;>simp_all<;>omega))
def usesG(g:GD):Bool:=g.c==0&&g.item==0&&g.to.v==0&&g.to.ix.length==0
theorem plainGB_eq(g:GD)(i t:Bool):plainGB g i t=((i||usesG g)&&(t||zeroE g.time)):=rfl
theorem timed_eq(e:KE):(bif bif bif bif bif e.kind !=0 then true else e.oper !=0 then true else e.to !=0 then true else e.n !=0 then true else e.v !=0 then true else decide (0<((encKl e.l).length:Int)))= !zeroE e:=by
 have n1:((encKl e.l).length:Int)=e.l.length:=by rw [encKl_len]
 have hn:decide (0<((encKl e.l).length:Int))= !decide (e.l.length≤0):=by
  rw [n1]
  rcases Nat.eq_zero_or_pos e.l.length with h|h
  ·rw [h];rfl
  ·rw [decide_eq_true (by omega),decide_eq_false (by omega)];rfl
 rw [hn,zeroE]
 simp only [bne]
 generalize (e.kind==0)=a1
 generalize (e.oper==0)=a2
 generalize (e.to==0)=a3
 generalize (e.n==0)=a4
 generalize (e.v==0)=a5
 generalize decide (e.l.length≤0)=a6
 cases a1<;>cases a2<;>cases a3<;>cases a4<;>cases a5<;>cases a6<;>rfl
theorem inputs_eq(g:GD):(bif bif bif g.c !=0 then true else g.item !=0 then true else g.to.v !=0 then true else decide (0<((encKl g.to.ix).length:Int)))= !usesG g:=by
 have n1:((encKl g.to.ix).length:Int)=g.to.ix.length:=by rw [encKl_len]
 have hn:decide (0<((encKl g.to.ix).length:Int))= !(g.to.ix.length==0):=by
  rw [n1]
  rcases Nat.eq_zero_or_pos g.to.ix.length with h|h
  ·rw [h];rfl
  ·rw [decide_eq_true (by omega),beq_eq_false_iff_ne.2 (by omega)];rfl
 rw [hn,usesG]
 simp only [bne]
 generalize (g.c==0)=a1
 generalize (g.item==0)=a2
 generalize (g.to.v==0)=a3
 generalize (g.to.ix.length==0)=a4
 cases a1<;>cases a2<;>cases a3<;>cases a4<;>rfl
theorem rguard_a(k:KN)(kind:Int)(g:GD)(h:g.body.length≠1):Pure Tryz.prog gs0 150 [encN k,AU8 kind,cellsG g] (AB false):=by
 refine p_ tt_ok Tryz.func150 136 fun w0 h0 F hgs=>?_
 (refine b_ fun bx=>?_;refine b_ fun bx=>?_;refine y_ ?_)
 refine e_ 13 rfl (x':=AB true) (ab_eq (by rw [encRl_len,Bool.eq_iff_iff];simp;omega)) ?_;exact r_
theorem rguard_b(k:KN)(kind:Int)(g:GD)(h:g.body.length=1)(hfc:Pure Tryz.prog gs0 147 [varsA k.vars,cellsK g.cond,AU8 3] (AB false)):Pure Tryz.prog gs0 150 [encN k,AU8 kind,cellsG g] (AB false):=by
 refine p_ tt_ok Tryz.func150 136 fun w0 h0 F hgs=>?_
 (refine b_ fun bx=>?_;refine b_ fun bx=>?_;refine y_ ?_)
 refine e_ 13 rfl (x':=AB false) (ab_eq (by rw [encRl_len,h];rfl)) ?_
 exact cr_ hfc
theorem rguard_c(k:KN)(kind:Int)(g:GD)(h:g.body.length=1)(hfc:Pure Tryz.prog gs0 147 [varsA k.vars,cellsK g.cond,AU8 3] (AB true))(b2 b3:Bool)(hft:Pure Tryz.prog gs0 147 [varsA k.vars,cellsK g.time,AU8 1] (AB b2))
 (hin:Pure Tryz.prog gs0 148 [encN k,AI g.c,AU8 g.item,encPl g.to] (AB b3)) (R:Bool)
 (hR: ∀cb z w:Bool,cb=(kind==12)→z=zeroE g.time→w=usesG g→R=(((g.kind==1)==cb)&&(if g.kind=1∨g.kind=2 then w&&z else if g.kind=3 then z&&b3 else if g.kind=4 then w&&b2 else false))):
 Pure Tryz.prog gs0 150 [encN k,AU8 kind,cellsG g] (AB R):=by
 have e7:=timed_eq g.time
 have e8:=inputs_eq g
 have hR:=hR _ _ _ rfl rfl rfl
 generalize zeroE g.time=z at e7 hR
 generalize usesG g=w at e8 hR
 refine p_ tt_ok Tryz.func150 136 fun w0 h0 F hgs=>?_
 (refine b_ fun bx=>?_;refine b_ fun bx=>?_;refine y_ ?_)
 refine e_ 13 rfl (x':=AB false) (ab_eq (by rw [encRl_len,h];rfl)) ?_
 refine n_ hfc ?_
 refine g_ ?_
 refine A.valE 7 rfl (x':=AB (!z)) (ab_eq e7) ?_
 refine A.valE 8 rfl (x':=AB (!w)) (ab_eq e8) ?_
 clear e7 e8
 refine k_ (fun hc=>?_) fun hc=>?_
 ·have k1:g.kind=1:=by simpa using hc
  rw [k1] at hR
  (repeat' first|first|refine A.s rfl ?_|refine A.r rfl rfl ?_|refine A.w rfl rfl ?_|refine A.p rfl ?_|refine A.b rfl fun bx=>?_|refine A.t rfl fun bl=>?_|((fail_if_success (refine A.lit? rfl ?_));refine A.gS rfl (fun hc=>?_) (fun hc=>?_))|((fail_if_success (refine A.litP? rfl ?_));refine A.gSP rfl (fun hc=>?_) (fun hc=>?_)))
  (all_goals (refine R_ ?_;refine Sb.eq (ab_eq ?_)))
  all_goals (clear hin hft hfc;simp_all)
 have k1:g.kind≠1:=by simpa using hc
 refine y_ ?_
 refine k_ (fun hc=>?_) fun hc=>?_
 ·have k2:g.kind=2:=by simpa using hc
  rw [k2] at hR
  (repeat' first|first|refine A.s rfl ?_|refine A.r rfl rfl ?_|refine A.w rfl rfl ?_|refine A.p rfl ?_|refine A.b rfl fun bx=>?_|refine A.t rfl fun bl=>?_|((fail_if_success (refine A.lit? rfl ?_));refine A.gS rfl (fun hc=>?_) (fun hc=>?_))|((fail_if_success (refine A.litP? rfl ?_));refine A.gSP rfl (fun hc=>?_) (fun hc=>?_)))
  (all_goals (refine R_ ?_;refine Sb.eq (ab_eq ?_)))
  all_goals (clear hin hft hfc;simp_all)
 have k2:g.kind≠2:=by simpa using hc
 refine y_ ?_
 refine k_ (fun hc=>?_) fun hc=>?_
 ·have k3:g.kind=3:=by simpa using hc
  rw [k3] at hR
  (repeat' first|first|refine A.s rfl ?_|refine A.r rfl rfl ?_|refine A.w rfl rfl ?_|refine A.p rfl ?_|refine A.b rfl fun bx=>?_|refine A.t rfl fun bl=>?_|refine A.c rfl hin .refl ?_|((fail_if_success (refine A.lit? rfl ?_));refine A.gS rfl (fun hc=>?_) (fun hc=>?_))|((fail_if_success (refine A.litP? rfl ?_));refine A.gSP rfl (fun hc=>?_) (fun hc=>?_)))
  (all_goals (refine R_ ?_;refine Sb.eq (ab_eq ?_)))
  all_goals (clear hin hft hfc;simp_all)
 have k3:g.kind≠3:=by simpa using hc
 refine y_ ?_
 refine k_ (fun hc=>?_) fun hc=>?_
 ·have k4:g.kind=4:=by simpa using hc
  rw [k4] at hR
  (repeat' first|first|refine A.s rfl ?_|refine A.r rfl rfl ?_|refine A.w rfl rfl ?_|refine A.p rfl ?_|refine A.b rfl fun bx=>?_|refine A.t rfl fun bl=>?_|refine A.c rfl hft .refl ?_|((fail_if_success (refine A.lit? rfl ?_));refine A.gS rfl (fun hc=>?_) (fun hc=>?_))|((fail_if_success (refine A.litP? rfl ?_));refine A.gSP rfl (fun hc=>?_) (fun hc=>?_)))
  (all_goals (refine R_ ?_;refine Sb.eq (ab_eq ?_)))
  all_goals (clear hin hft hfc;simp_all)
 have k4:g.kind≠4:=by simpa using hc
 rw [if_neg (fun h=>h.elim k1 k2),if_neg k3,if_neg k4,Bool.and_false] at hR
 refine y_ ?_;refine R_ ?_;rw [hR];exact .refl
theorem rguard_p(k:KN)(kind:Int)(g:GD)(hw:WfG g):Pure Tryz.prog gs0 150 [encN k,AU8 kind,cellsG g] (AB (guardB k.vars k.chans.length g (kind==12))):=by
 have hfc:=rFits_p k.vars g.cond hw.cond 3
 have hft:=rFits_p k.vars g.time hw.time 1
 have hin:=rinput_p k g.c g.item g.to hw.to
 unfold guardB
 by_cases hb:g.body.length=1
 case neg=>
  rw [show (g.body.length==1)=false from beq_eq_false_iff_ne.2 hb]
  exact rguard_a k kind g hb
 rw [show (g.body.length==1)=true from beq_iff_eq.2 hb,Bool.true_and]
 cases hf:fitV k.vars g.cond 3 with
 |false=>
  rw [hf] at hfc
  exact rguard_b k kind g hb hfc
 |true=>
  rw [hf] at hfc
  refine rguard_c k kind g hb hfc _ _ hft hin _ fun cb z w e1 e2 e3=>?_
  subst e1;subst e2;subst e3
  rw [Bool.true_and,plainGB_eq,plainGB_eq,plainGB_eq]
  simp only [Bool.false_or,Bool.true_or,Bool.true_and,Bool.and_true]
theorem typed_3(k:KN)(c v it:Int)(to:List PL)(e:List KE)(gs:List GD)(b:List PR):Pure Tryz.prog gs0 113 [encN k,cellsR ⟨3,c,v,it,to,e,gs,b⟩] (AB (decide (0≤v)&&decide (v<k.vars.length))):=by
 have hlen:((k.vars.map encV).length:Int)=k.vars.length:=by rw [List.length_map]
 rw [←hlen]
 refine p_ tt_ok Tryz.func113 158 fun w0 h0 F hgs=>?_
 (refine b_ fun bx=>?_;refine b_ fun bx=>?_;refine y_ ?_)
 ((fail_if_success (refine A.lit? rfl ?_));refine A.gS rfl (fun hc=>?_) (fun hc=>?_))
 ·refine y_ ?_;refine R_ ?_;refine Sb.eq (ab_eq ?_);have hc:decide (0≤v)=true:=hc;rw [hc];rfl
 ·refine y_ ?_;refine R_ ?_;refine Sb.eq (ab_eq ?_);have hc:decide (0≤v)=false:=hc;rw [hc];rfl
theorem typed_5(k:KN)(c v it:Int)(t:PL)(hw:wfPl t)(e:List KE)(gs:List GD)(b:List PR):Pure Tryz.prog gs0 113 [encN k,cellsR ⟨5,c,v,it,[t],e,gs,b⟩] (AB (inputB k.vars k.chans.length c it t)):=by
 have hin:=rinput_p k c it t hw
 generalize inputB k.vars k.chans.length c it t=R at hin⊢
 refine p_ tt_ok Tryz.func113 158 fun w0 h0 F hgs=>?_
 (refine b_ fun bx=>?_;refine b_ fun bx=>?_;refine y_ ?_)
 refine d_ 9 [0,1,2,3,4,5,6,7,8] [] ?_
 refine iw_ rfl rfl rfl ?_
 refine WA.nil (l:=[]) rfl ?_
 exact cr_ hin
theorem typed_6(k:KN)(c v it:Int)(to:List PL)(x:KE)(hw:wfK x)(gs:List GD)(b:List PR):Pure Tryz.prog gs0 113 [encN k,cellsR ⟨6,c,v,it,to,[x],gs,b⟩] (AB (chanB k.chans.length c it 0&&fitV k.vars x it)):=by
 have hin:=routput_p k c it x hw
 generalize (chanB k.chans.length c it 0&&fitV k.vars x it)=R at hin⊢
 have he:(encKl [x])[(0:Int).toNat]? =some (encK x):=encKl_at rfl
 refine p_ tt_ok Tryz.func113 158 fun w0 h0 F hgs=>?_
 (refine b_ fun bx=>?_;refine b_ fun bx=>?_;refine y_ ?_)
 refine d_ 9 [0,1,2,3,4,5,6,7,8] [] ?_
 refine iw_ rfl he (encK_eq x) ?_
 refine WA.nil (l:=[]) rfl ?_
 exact cr_ hin
theorem typed_7(k:KN)(c v it:Int)(t:PL)(hw:wfPl t)(e:List KE)(gs:List GD)(b:List PR):Pure Tryz.prog gs0 113 [encN k,cellsR ⟨7,c,v,it,[t],e,gs,b⟩] (AB (placeB k.vars t 1)):=by
 have hin:=rplace_p k.vars t hw 1
 generalize placeB k.vars t 1=R at hin⊢
 refine p_ tt_ok Tryz.func113 158 fun w0 h0 F hgs=>?_
 (refine b_ fun bx=>?_;refine b_ fun bx=>?_;refine y_ ?_)
 refine d_ 6 [0,1,2,3,4,5] [] ?_
 refine iw_ rfl rfl rfl ?_
 refine WA.nil (l:=[]) rfl ?_
 exact cr_ hin
theorem typed_8(k:KN)(c v it:Int)(to:List PL)(x:KE)(hw:wfK x)(gs:List GD)(b:List PR):Pure Tryz.prog gs0 113 [encN k,cellsR ⟨8,c,v,it,to,[x],gs,b⟩] (AB (fitV k.vars x 1)):=by
 have hin:=rFits_p k.vars x hw 1
 generalize fitV k.vars x 1=R at hin⊢
 have he:(encKl [x])[(0:Int).toNat]? =some (encK x):=encKl_at rfl
 refine p_ tt_ok Tryz.func113 158 fun w0 h0 F hgs=>?_
 (refine b_ fun bx=>?_;refine b_ fun bx=>?_;refine y_ ?_)
 refine d_ 6 [0,1,2,3,4,5] [] ?_
 refine iw_ rfl he (encK_eq x) ?_
 refine WA.nil (l:=[]) rfl ?_
 exact cr_ hin
theorem typed_13(k:KN)(c v it:Int)(to:List PL)(x:KE)(hw:wfK x)(gs:List GD)(b:List PR):Pure Tryz.prog gs0 113 [encN k,cellsR ⟨13,c,v,it,to,[x],gs,b⟩] (AB (fitV k.vars x 3)):=by
 have hin:=rFits_p k.vars x hw 3
 generalize fitV k.vars x 3=R at hin⊢
 have he:(encKl [x])[(0:Int).toNat]? =some (encK x):=encKl_at rfl
 refine p_ tt_ok Tryz.func113 158 fun w0 h0 F hgs=>?_
 (refine b_ fun bx=>?_;refine b_ fun bx=>?_;refine y_ ?_)
 refine d_ 6 [0,1,2,3,4,5] [] ?_
 refine iw_ rfl he (encK_eq x) ?_
 refine WA.nil (l:=[]) rfl ?_
 exact cr_ hin
theorem typed_g(k:KN)(p:PR)(hk:p.kind≠3∧p.kind≠4∧p.kind≠5∧p.kind≠6∧p.kind≠7∧p.kind≠8∧p.kind≠13)(hwg: ∀g,g∈p.gs→wfG g)(hgl:p.gs.length≤281474976710656)(R:Bool)(hR:(p.gs.all fun g=>guardB k.vars k.chans.length g (p.kind==12))=R):Pure Tryz.prog gs0 113 [encN k,cellsR p] (AB R):=by
 refine p_ tt_ok Tryz.func113 158 fun w0 h0 F hgs=>?_
 (repeat (first|first|refine A.s rfl ?_|refine A.r rfl rfl ?_|refine A.w rfl rfl ?_|refine A.p rfl ?_|refine A.b rfl fun bx=>?_|refine A.t rfl fun bl=>?_|refine A.cond rfl (fun h=>(by simp at h;omega)) (fun _=>?_)|first|refine A.step rfl ?_|refine A.v rfl rfl ?_))
 refine A.keep [2,3,7] rfl ?_
 refine A.loopP (ι:=Nat) (fun i=>(⟨[(2,ptrA _),(3,ptrA _),(7,AI (i:Nat))],[]⟩,[.box _ (cellsR p), .box _ (encN k)])) (fun i=>i≤p.gs.length∧((p.gs.drop i).all fun g=>guardB k.vars k.chans.length g (p.kind==12))=R) (fun i=>p.gs.length-i) 0 ⟨Nat.zero_le _,hR⟩ rfl fun i hi ih=>?_
 refine y_ ?_
 refine A.valE 145 rfl (x':=AB (decide (i<p.gs.length))) (ab_eq (by rw [encGl_len,Bool.eq_iff_iff];simp)) ?_
 refine k_ (fun hc=>?_) fun hc=>?_
 ·have hc:i<p.gs.length:=by simpa using hc
  refine Exists.elim (at_exN (l:=p.gs) (i:=i) hc) fun g hg=>?_
  have hgp:=rguard_p k p.kind g (wfG_all (hwg g (List.mem_of_getElem? hg)))
  have h1:=hi.2
  rw [drop_at hg,List.all_cons] at h1
  refine y_ ?_
  refine d_ 8 [0,1,2,3,4,5,6,7] [] ?_
  refine iw_ rfl (encGl_at hg) (encG_eq g) ?_
  refine WA.nil (l:=[]) rfl ?_
  refine c_ hgp ?_
  refine k_ (fun hc=>?_) fun hc=>?_
  ·have hf:guardB k.vars k.chans.length g (p.kind==12)=false:=by simpa using hc
   rw [hf,Bool.false_and] at h1
   refine y_ ?_;refine R_ ?_;rw [←h1];exact .refl
  ·have hf:guardB k.vars k.chans.length g (p.kind==12)=true:=by simpa using hc
   rw [hf,Bool.true_and] at h1
   refine y_ ?_
   refine A.valE 7 rfl (x':=AI ((i+1:Nat):Int)) (inc_eq i (by omega)) ?_
   refine u_ (ih (i+1) ⟨by omega,h1⟩ (by omega))
 ·have hc: ¬i<p.gs.length:=by simpa using hc
  have hil:i=p.gs.length:=by omega
  have h1:=hi.2
  rw [hil,List.drop_length,List.all_nil] at h1
  refine y_ ?_;refine R_ ?_;rw [←h1];exact .refl
abbrev P4(c v it:Int)(to:List PL)(e:List KE)(b:List PR):PR:=⟨4,c,v,it,to,e,[],b⟩
theorem typed_4a(k:KN)(c v it:Int)(t:PL)(to:List PL)(e:List KE)(b:List PR)(hle:(t::to).length≠e.length):Pure Tryz.prog gs0 113 [encN k,cellsR (P4 c v it (t::to) e b)] (AB false):=by
 have n1:(((t::to).map encPl).length:Int)=(t::to).length:=by rw [List.length_map]
 have n2:((encKl e).length:Int)=e.length:=by rw [encKl_len]
 refine p_ tt_ok Tryz.func113 158 fun w0 h0 F hgs=>?_
 (refine b_ fun bx=>?_;refine b_ fun bx=>?_;refine y_ ?_)
 refine A.loop1 ?_
 refine y_ ?_
 refine e_ 29 rfl (x':=AB true) (ab_eq (by rw [n1];exact decide_eq_true (by rw [List.length_cons];omega))) ?_
 refine i_ rfl rfl rfl ?_
 refine d_ 49 [0,1,2,3,4,5,6,7,8,9,10,11,12,13,14,15,16,17,18,19,20,21,22,23,24,25,26,27,28,29,30,31,32,33,34,35,36,37,38,39,40,41,42,43,44,45,46,47,48] [(32,AB false)] ?_
 refine ew_ 45 rfl (x':=AB true) (ab_eq (by rw [n1,n2];simp only [bne_iff_ne,ne_eq];exact fun h=>hle (by omega))) ?_
 refine z_ ?_;exact r_
theorem typed_4b(k:KN)(c v it:Int)(to:List PL)(e:List KE)(b:List PR)(hle:to.length=e.length)(hl8:to.length≤8)(hwt: ∀t,t∈to→wfPl t)(hwe: ∀x,x∈e→wfK x)(R:Bool)(hR:((to.zip e).all fun te=>assignB k.vars te.1 te.2)=R):
 Pure Tryz.prog gs0 113 [encN k,cellsR (P4 c v it to e b)] (AB R):=by
 have hlen:((k.vars.map encV).length:Int)=k.vars.length:=by rw [List.length_map]
 have n1:((to.map encPl).length:Int)=to.length:=by rw [List.length_map]
 have n2:((encKl e).length:Int)=e.length:=by rw [encKl_len]
 refine p_ tt_ok Tryz.func113 158 fun w0 h0 F hgs=>?_
 (refine b_ fun bx=>?_;refine b_ fun bx=>?_;refine y_ ?_)
 refine A.keep [2,3,5] rfl ?_
 refine A.loopP (ι:=Nat) (fun i=>(⟨[(2,ptrA _),(3,ptrA _),(5,AI (i:Nat))],[]⟩,[.box _ (cellsR (P4 c v it to e b)), .box _ (encN k)])) (fun i=>i≤to.length∧((to.zip e).drop i).all (fun te=>assignB k.vars te.1 te.2)=R) (fun i=>to.length-i) 0 ⟨by omega,hR⟩ rfl fun i hi ih=>?_
 refine y_ ?_
 refine A.valE 29 rfl (x':=AB (decide (i<to.length))) (ab_eq (by rw [n1,Bool.eq_iff_iff];simp)) ?_
 refine k_ (fun hc=>?_) fun hc=>?_
 ·have hc:i<to.length:=by simpa using hc
  refine Exists.elim (at_exN (l:=to) (i:=i) hc) fun t ht=>?_
  refine Exists.elim (at_exN (l:=e) (i:=i) (by omega)) fun x hx=>?_
  have hwt1:=hwt t (List.mem_of_getElem? ht)
  have hwe1:=hwe x (List.mem_of_getElem? hx)
  have h1:=hi.2
  rw [drop_at (zip_both ht hx)] at h1
  refine y_ ?_
  refine i_ rfl (map_at ht) rfl ?_
  by_cases hneg:t.v<0
  ·rw [assign_no (by rw [assignB,if_pos (.inl hneg)])] at h1
   refine d_ 49 [0,1,2,3,4,5,6,7,8,9,10,11,12,13,14,15,16,17,18,19,20,21,22,23,24,25,26,27,28,29,30,31,32,33,34,35,36,37,38,39,40,41,42,43,44,45,46,47,48] [(32,AB false)] ?_
   refine ew_ 45 rfl (x':=AB false) (ab_eq (by rw [n1,n2];simp;omega)) ?_
   refine ew_ 49 rfl (x':=AB true) (ab_eq (by simpa using hneg)) ?_
   refine z_ ?_;refine R_ ?_;rw [←h1];exact .refl
  by_cases hout:(k.vars.length:Int)≤t.v
  ·rw [assign_no (by rw [assignB,if_pos (.inr hout)])] at h1
   refine d_ 49 [0,1,2,3,4,5,6,7,8,9,10,11,12,13,14,15,16,17,18,19,20,21,22,23,24,25,26,27,28,29,30,31,32,33,34,35,36,37,38,39,40,41,42,43,44,45,46,47,48] [(32,AB false)] ?_
   refine ew_ 45 rfl (x':=AB false) (ab_eq (by rw [n1,n2];simp;omega)) ?_
   refine ew_ 49 rfl (x':=AB false) (ab_eq (by simp;omega)) ?_
   refine ew_ 56 rfl (x':=AB true) (ab_eq (by rw [hlen];simpa using hout)) ?_
   refine z_ ?_;refine R_ ?_;rw [←h1];exact .refl
  refine Exists.elim (at_ex (l:=k.vars) (i:=t.v) (by omega) (by omega)) fun y hy=>?_
  have hv0:(0:Int)≤t.v:=by omega
  have hab:assignB k.vars t x=(placeB k.vars t y.kind&&fitV k.vars x y.kind):=by rw [assignB,if_neg (by omega),hy]
  have hpl:=rplace_p k.vars t hwt1 y.kind
  have hft:=rFits_p k.vars x hwe1 y.kind
  refine Exists.elim (show∃b1,b1=placeB k.vars t y.kind from ⟨_,rfl⟩) fun b1 e1=>Exists.elim (show∃b2,b2=fitV k.vars x y.kind from ⟨_,rfl⟩) fun b2 e2=>?_
  rw [←e1] at hpl hab
  rw [←e2] at hft hab
  by_cases hb1:b1=true
  ·rw [hb1] at hpl hab
   refine d_ 49 [0,1,2,3,4,5,6,7,8,9,10,11,12,13,14,15,16,17,18,19,20,21,22,23,24,25,26,27,28,29,30,31,32,33,34,35,36,37,38,39,40,41,42,43,44,45,46,47,48] [(32,AB true)] ?_
   refine ew_ 45 rfl (x':=AB false) (ab_eq (by rw [n1,n2];simp;omega)) ?_
   refine ew_ 49 rfl (x':=AB false) (ab_eq (by simp;omega)) ?_
   refine ew_ 56 rfl (x':=AB false) (ab_eq (by rw [hlen];simp;omega)) ?_
   refine iw_ rfl (map_at ht) rfl ?_
   refine WA.x rfl hv0 (map_at hy) rfl rfl ?_
   refine w_ ?_
   refine cw_ hpl ?_
   refine iw_ rfl (encKl_at hx) (encK_eq x) ?_
   refine WA.x rfl hv0 (map_at hy) rfl rfl ?_
   refine w_ ?_
   refine WA.nil (l:=[]) rfl ?_
   refine c_ hft ?_
   refine A.valE 89 rfl (x':=AB (!b2)) (ab_eq (by rfl)) ?_
   refine k_ (fun hc=>?_) fun hc=>?_
   ·have hf:b2=false:=by simpa using hc
    rw [assign_no (by rw [hab,hf,Bool.and_false])] at h1
    refine y_ ?_;refine R_ ?_;rw [←h1];exact .refl
   ·have hf:b2=true:=by simpa using hc
    rw [List.all_cons] at h1
    have hat:assignB k.vars t x=true:=by rw [hab,hf];rfl
    simp only [hat,Bool.true_and] at h1
    refine y_ ?_
    refine A.valE 5 rfl (x':=AI ((i+1:Nat):Int)) (inc_eq i (by omega)) ?_
    refine u_ (ih (i+1) ⟨by omega,h1⟩ (by omega))
  ·have hb1:b1=false:=by simpa using hb1
   rw [hb1] at hpl hab
   rw [assign_no (by rw [hab];rfl)] at h1
   refine d_ 49 [0,1,2,3,4,5,6,7,8,9,10,11,12,13,14,15,16,17,18,19,20,21,22,23,24,25,26,27,28,29,30,31,32,33,34,35,36,37,38,39,40,41,42,43,44,45,46,47,48] [(32,AB false)] ?_
   refine ew_ 45 rfl (x':=AB false) (ab_eq (by rw [n1,n2];simp;omega)) ?_
   refine ew_ 49 rfl (x':=AB false) (ab_eq (by simp;omega)) ?_
   refine ew_ 56 rfl (x':=AB false) (ab_eq (by rw [hlen];simp;omega)) ?_
   refine iw_ rfl (map_at ht) rfl ?_
   refine WA.x rfl hv0 (map_at hy) rfl rfl ?_
   refine w_ ?_
   refine cw_ hpl ?_
   refine z_ ?_;refine R_ ?_;rw [←h1];exact .refl
 ·have hc: ¬i<to.length:=by simpa using hc
  have h1:=hi.2
  rw [List.drop_eq_nil_of_le (by rw [zip_len hle];omega),List.all_nil] at h1
  refine y_ ?_
  refine A.loop1 ?_
  refine y_ ?_;refine R_ ?_;rw [←h1];exact .refl
theorem inB_11{m:Nat}(h:inB m 1 1=true):m=1:=by simp only [inB,Bool.and_eq_true,decide_eq_true_eq] at h;omega
theorem one_of{α:Type}{l:List α}(h:l.length=1): ∃a,l=[a]:=by
 match l,h with
 | [a],_=>exact ⟨a,rfl⟩
theorem typed_p(k:KN)(p:PR)(hw:WfR p)(hlk:looksB p=true):Pure Tryz.prog gs0 113 [encN k,cellsR p] (AB (kindB k.vars k.chans.length p)):=by
 obtain ⟨kd,c,v,it,to,e,gs,b⟩:=p
 have hwt:=hw.to
 have hwe:=hw.e
 have hwg:=hw.g
 have hgl:=hw.gl
 simp only [PR.to,PR.e,PR.gs] at hwt hwe hwg hgl
 by_cases k12:kd=1∨kd=2
 ·have hs:looksB ⟨kd,c,v,it,to,e,gs,b⟩=kindB k.vars k.chans.length ⟨kd,c,v,it,to,e,gs,b⟩:=by simp only [looksB,kindB,PR.kind,formK,if_pos k12,fm0]
  rw [←hs,hlk]
  refine typed_g k ⟨kd,c,v,it,to,e,gs,b⟩ (by show kd≠3∧kd≠4∧kd≠5∧kd≠6∧kd≠7∧kd≠8∧kd≠13;omega) hwg hgl true ?_
  have h0:gs=[]:=by
   simp only [looksB,PR.kind,formK,if_pos k12,fm0,shapeR,Bool.and_eq_true] at hlk
   exact List.length_eq_zero_iff.1 (inB_0 hlk.1.2)
  subst h0;rfl
 by_cases k3:kd=3
 ·subst k3
  have hs:kindB k.vars k.chans.length ⟨3,c,v,it,to,e,gs,b⟩=(looksB ⟨3,c,v,it,to,e,gs,b⟩&&decide (0≤v)&&decide (v<k.vars.length)):=rfl
  rw [hs,hlk,Bool.true_and]
  exact typed_3 k c v it to e gs b
 by_cases k4:kd=4
 ·subst k4
  have hs:kindB k.vars k.chans.length ⟨4,c,v,it,to,e,gs,b⟩=(looksB ⟨4,c,v,it,to,e,gs,b⟩&&(to.length==e.length)&&(to.zip e).all fun te=>assignB k.vars te.1 te.2):=rfl
  have hl2:looksB ⟨4,c,v,it,to,e,gs,b⟩=shapeR ⟨4,c,v,it,to,e,gs,b⟩ false false 1 8 1 8 0 0 0 0:=rfl
  rw [hs,hlk,Bool.true_and]
  rw [hl2] at hlk
  simp only [shapeR,Bool.and_eq_true] at hlk
  have h0:gs=[]:=List.length_eq_zero_iff.1 (inB_0 hlk.1.2)
  have ht:=hlk.1.1.1.2
  simp only [inB,Bool.and_eq_true,decide_eq_true_eq,PR.to] at ht
  subst h0
  by_cases hle:to.length=e.length
  ·rw [show (to.length==e.length)=true from beq_iff_eq.2 hle,Bool.true_and]
   exact typed_4b k c v it to e b hle (by omega) hwt hwe _ rfl
  ·rw [show (to.length==e.length)=false from beq_eq_false_iff_ne.2 hle,Bool.false_and]
   match to,hle,ht with
   | [],_,ht=>simp at ht
   |t::to,hle,_=>exact typed_4a k c v it t to e b hle
 by_cases k5:kd=5
 ·subst k5
  have hs:kindB k.vars k.chans.length ⟨5,c,v,it,to,e,gs,b⟩=(looksB ⟨5,c,v,it,to,e,gs,b⟩&&to1 (inputB k.vars k.chans.length c it) to):=rfl
  have hl2:looksB ⟨5,c,v,it,to,e,gs,b⟩=shapeR ⟨5,c,v,it,to,e,gs,b⟩ true false 1 1 0 0 0 0 0 0:=rfl
  rw [hs,hlk,Bool.true_and]
  rw [hl2] at hlk
  simp only [shapeR,Bool.and_eq_true] at hlk
  obtain ⟨t,rfl⟩:=one_of (inB_11 hlk.1.1.1.2)
  exact typed_5 k c v it t (hwt t (List.mem_cons_self ..)) e gs b
 by_cases k6:kd=6
 ·subst k6
  have hs:kindB k.vars k.chans.length ⟨6,c,v,it,to,e,gs,b⟩=(looksB ⟨6,c,v,it,to,e,gs,b⟩&&chanB k.chans.length c it 0&&fit1 k.vars e it):=rfl
  have hl2:looksB ⟨6,c,v,it,to,e,gs,b⟩=shapeR ⟨6,c,v,it,to,e,gs,b⟩ true false 0 0 1 1 0 0 0 0:=rfl
  rw [hs,hlk,Bool.true_and]
  rw [hl2] at hlk
  simp only [shapeR,Bool.and_eq_true] at hlk
  obtain ⟨t,rfl⟩:=one_of (inB_11 hlk.1.1.2)
  exact typed_6 k c v it to t (hwe t (List.mem_cons_self ..)) gs b
 by_cases k7:kd=7
 ·subst k7
  have hs:kindB k.vars k.chans.length ⟨7,c,v,it,to,e,gs,b⟩=(looksB ⟨7,c,v,it,to,e,gs,b⟩&&to1 (fun t=>placeB k.vars t 1) to):=rfl
  have hl2:looksB ⟨7,c,v,it,to,e,gs,b⟩=shapeR ⟨7,c,v,it,to,e,gs,b⟩ false false 1 1 0 0 0 0 0 0:=rfl
  rw [hs,hlk,Bool.true_and]
  rw [hl2] at hlk
  simp only [shapeR,Bool.and_eq_true] at hlk
  obtain ⟨t,rfl⟩:=one_of (inB_11 hlk.1.1.1.2)
  exact typed_7 k c v it t (hwt t (List.mem_cons_self ..)) e gs b
 by_cases k8:kd=8
 ·subst k8
  have hs:kindB k.vars k.chans.length ⟨8,c,v,it,to,e,gs,b⟩=(looksB ⟨8,c,v,it,to,e,gs,b⟩&&fit1 k.vars e 1):=rfl
  have hl2:looksB ⟨8,c,v,it,to,e,gs,b⟩=shapeR ⟨8,c,v,it,to,e,gs,b⟩ false false 0 0 1 1 0 0 0 0:=rfl
  rw [hs,hlk,Bool.true_and]
  rw [hl2] at hlk
  simp only [shapeR,Bool.and_eq_true] at hlk
  obtain ⟨t,rfl⟩:=one_of (inB_11 hlk.1.1.2)
  exact typed_8 k c v it to t (hwe t (List.mem_cons_self ..)) gs b
 by_cases k13:kd=13
 ·subst k13
  have hs:kindB k.vars k.chans.length ⟨13,c,v,it,to,e,gs,b⟩=(looksB ⟨13,c,v,it,to,e,gs,b⟩&&fit1 k.vars e 3):=rfl
  have hl2:looksB ⟨13,c,v,it,to,e,gs,b⟩=shapeR ⟨13,c,v,it,to,e,gs,b⟩ false false 0 0 1 1 0 0 1 1:=rfl
  rw [hs,hlk,Bool.true_and]
  rw [hl2] at hlk
  simp only [shapeR,Bool.and_eq_true] at hlk
  obtain ⟨t,rfl⟩:=one_of (inB_11 hlk.1.1.2)
  exact typed_13 k c v it to t (hwe t (List.mem_cons_self ..)) gs b
 ·refine typed_g k ⟨kd,c,v,it,to,e,gs,b⟩ (by show kd≠3∧kd≠4∧kd≠5∧kd≠6∧kd≠7∧kd≠8∧kd≠13;omega) hwg hgl _ ?_
  by_cases k9:kd=9
  ·subst k9
   have hs:kindB k.vars k.chans.length ⟨9,c,v,it,to,e,gs,b⟩=looksB ⟨9,c,v,it,to,e,gs,b⟩:=rfl
   have hl2:looksB ⟨9,c,v,it,to,e,gs,b⟩=shapeR ⟨9,c,v,it,to,e,gs,b⟩ false false 0 0 0 0 0 0 0 2048:=rfl
   rw [hs,hlk]
   rw [hl2] at hlk
   simp only [shapeR,Bool.and_eq_true] at hlk
   have h0:gs=[]:=List.length_eq_zero_iff.1 (inB_0 hlk.1.2)
   subst h0;rfl
  by_cases k10:kd=10
  ·subst k10
   have hs:kindB k.vars k.chans.length ⟨10,c,v,it,to,e,gs,b⟩=looksB ⟨10,c,v,it,to,e,gs,b⟩:=rfl
   have hl2:looksB ⟨10,c,v,it,to,e,gs,b⟩=shapeR ⟨10,c,v,it,to,e,gs,b⟩ false false 0 0 0 0 0 0 0 16:=rfl
   rw [hs,hlk]
   rw [hl2] at hlk
   simp only [shapeR,Bool.and_eq_true] at hlk
   have h0:gs=[]:=List.length_eq_zero_iff.1 (inB_0 hlk.1.2)
   subst h0;rfl
  by_cases k11:kd=11
  ·subst k11
   have hs:kindB k.vars k.chans.length ⟨11,c,v,it,to,e,gs,b⟩=looksB ⟨11,c,v,it,to,e,gs,b⟩:=rfl
   have hl2:looksB ⟨11,c,v,it,to,e,gs,b⟩=shapeR ⟨11,c,v,it,to,e,gs,b⟩ false false 0 0 0 0 0 0 2 2:=rfl
   rw [hs,hlk]
   rw [hl2] at hlk
   simp only [shapeR,Bool.and_eq_true] at hlk
   have h0:gs=[]:=List.length_eq_zero_iff.1 (inB_0 hlk.1.2)
   subst h0;rfl
  by_cases kc:kd=12∨kd=14∨kd=15
  ·have hs:kindB k.vars k.chans.length ⟨kd,c,v,it,to,e,gs,b⟩=(looksB ⟨kd,c,v,it,to,e,gs,b⟩&&gs.all fun g=>guardB k.vars k.chans.length g (kd==12)):=by
    rcases kc with rfl|rfl|rfl<;>rfl
   rw [hs,hlk,Bool.true_and]
  ·have:looksB ⟨kd,c,v,it,to,e,gs,b⟩=false:=by
    simp only [looksB,PR.kind,formK,if_neg k12,if_neg k3,if_neg k4,if_neg k5,if_neg k6,if_neg k7,if_neg k8,if_neg k9,if_neg k10,if_neg k11,if_neg kc,if_neg k13]
   rw [this] at hlk;cases hlk
theorem looks_of_kind{l:List KV}{n:Nat}{p:PR}(h:looksB p=false):kindB l n p=false:=by
 cases hk:kindB l n p with
 |false=>rfl
 |true=>
  obtain ⟨kd,c,v,it,to,e,gs,b⟩:=p
  have hr:=kind_bodies hk
  exfalso
  simp only [PR.kind] at hr
  rcases kinds_15 ⟨hr.1,hr.2.1⟩ with rfl|rfl|rfl|rfl|rfl|rfl|rfl|rfl|rfl|rfl|rfl|rfl|rfl|rfl|rfl
  ·have hs:kindB l n ⟨1,c,v,it,to,e,gs,b⟩=(looksB ⟨1,c,v,it,to,e,gs,b⟩):=rfl
   rw [hs,h] at hk;simp at hk
  ·have hs:kindB l n ⟨2,c,v,it,to,e,gs,b⟩=(looksB ⟨2,c,v,it,to,e,gs,b⟩):=rfl
   rw [hs,h] at hk;simp at hk
  ·have hs:kindB l n ⟨3,c,v,it,to,e,gs,b⟩=(looksB ⟨3,c,v,it,to,e,gs,b⟩&&decide (0≤v)&&decide (v<l.length)):=rfl
   rw [hs,h] at hk;simp at hk
  ·have hs:kindB l n ⟨4,c,v,it,to,e,gs,b⟩=(looksB ⟨4,c,v,it,to,e,gs,b⟩&&(to.length==e.length)&&(to.zip e).all fun te=>assignB l te.1 te.2):=rfl
   rw [hs,h] at hk;simp at hk
  ·have hs:kindB l n ⟨5,c,v,it,to,e,gs,b⟩=(looksB ⟨5,c,v,it,to,e,gs,b⟩&&to1 (inputB l n c it) to):=rfl
   rw [hs,h] at hk;simp at hk
  ·have hs:kindB l n ⟨6,c,v,it,to,e,gs,b⟩=(looksB ⟨6,c,v,it,to,e,gs,b⟩&&chanB n c it 0&&fit1 l e it):=rfl
   rw [hs,h] at hk;simp at hk
  ·have hs:kindB l n ⟨7,c,v,it,to,e,gs,b⟩=(looksB ⟨7,c,v,it,to,e,gs,b⟩&&to1 (fun t=>placeB l t 1) to):=rfl
   rw [hs,h] at hk;simp at hk
  ·have hs:kindB l n ⟨8,c,v,it,to,e,gs,b⟩=(looksB ⟨8,c,v,it,to,e,gs,b⟩&&fit1 l e 1):=rfl
   rw [hs,h] at hk;simp at hk
  ·have hs:kindB l n ⟨9,c,v,it,to,e,gs,b⟩=(looksB ⟨9,c,v,it,to,e,gs,b⟩):=rfl
   rw [hs,h] at hk;simp at hk
  ·have hs:kindB l n ⟨10,c,v,it,to,e,gs,b⟩=(looksB ⟨10,c,v,it,to,e,gs,b⟩):=rfl
   rw [hs,h] at hk;simp at hk
  ·have hs:kindB l n ⟨11,c,v,it,to,e,gs,b⟩=(looksB ⟨11,c,v,it,to,e,gs,b⟩):=rfl
   rw [hs,h] at hk;simp at hk
  ·have hs:kindB l n ⟨12,c,v,it,to,e,gs,b⟩=(looksB ⟨12,c,v,it,to,e,gs,b⟩&&gs.all fun g=>guardB l n g ((12:Int)==12)):=rfl
   rw [hs,h] at hk;simp at hk
  ·have hs:kindB l n ⟨13,c,v,it,to,e,gs,b⟩=(looksB ⟨13,c,v,it,to,e,gs,b⟩&&fit1 l e 3):=rfl
   rw [hs,h] at hk;simp at hk
  ·have hs:kindB l n ⟨14,c,v,it,to,e,gs,b⟩=(looksB ⟨14,c,v,it,to,e,gs,b⟩&&gs.all fun g=>guardB l n g ((14:Int)==12)):=rfl
   rw [hs,h] at hk;simp at hk
  ·have hs:kindB l n ⟨15,c,v,it,to,e,gs,b⟩=(looksB ⟨15,c,v,it,to,e,gs,b⟩&&gs.all fun g=>guardB l n g ((15:Int)==12)):=rfl
   rw [hs,h] at hk;simp at hk
abbrev innA(k:KN)(deep:Int)(high:Bool):AV:= .ag [varsA k.vars,chsA k.chans,AU8 k.root.kind,AI k.root.c,AI k.root.v,AU8 k.root.item,plsA k.root.to,kesA k.root.e,gsA k.root.gs,rsA k.root.l,intsA k.procs,AI deep,AB high]
theorem innA_eq(k:KN){d d':Int}{h h':Bool}(h1:d=d')(h2:h=h'):innA k d h=innA k d' h':=by rw [h1,h2]
def leftI(k:KN)(high:Bool)(deep:Int)(p:PR)(n:Int):Int:=if fitsR k.vars k.chans.length high p n (32-deep) then n-szR p else-1
abbrev leftE(k:KN)(p:PR)(deep:Int)(high:Bool)(n:Int):Prop:=Pure Tryz.prog gs0 73 [innA k deep high,cellsR p,AI n] (AI (leftI k high deep p n))
theorem left_a(k:KN)(p:PR)(deep:Int)(high:Bool)(n:Int)(hz:n=0∨deep=32)(r0:0≤n)(d1:deep≤32):leftE k p deep high n:=by
 have hnf: ¬fitsR k.vars k.chans.length high p n (32-deep):=fitsR_no (by omega)
 unfold leftE
 refine p_ tt_ok Tryz.func73 104 fun w0 h0 F hgs=>?_
 (refine gb_ fun bx=>?_;refine gb_ fun bx=>?_;refine g_ ?_)
 refine A.valE 16 rfl (x':=AB true) (ab_eq (by simp;omega)) ?_
 (refine y_ ?_;refine R_ ?_;exact Sb.eq (ai_eq (if_neg hnf).symm))
theorem left_b(k:KN)(p:PR)(deep:Int)(high:Bool)(n:Int)(hlk:looksB p=false):leftE k p deep high n:=by
 have hnf: ¬fitsR k.vars k.chans.length high p n (32-deep):=fitsR_no (.inr (.inr (.inl (looks_of_kind hlk))))
 have h1:=looks_p p
 rw [hlk] at h1
 unfold leftE
 refine p_ tt_ok Tryz.func73 104 fun w0 h0 F hgs=>?_
 (repeat' first|first|refine A.s rfl ?_|refine A.r rfl rfl ?_|refine A.w rfl rfl ?_|refine A.p rfl ?_|refine A.b rfl fun bx=>?_|refine A.t rfl fun bl=>?_|refine A.c rfl h1 .refl ?_|((fail_if_success (refine A.lit? rfl ?_));refine A.gS rfl (fun hc=>?_) (fun hc=>?_))|((fail_if_success (refine A.litP? rfl ?_));refine A.gSP rfl (fun hc=>?_) (fun hc=>?_)))
 all_goals (refine R_ ?_;exact Sb.eq (ai_eq (if_neg hnf).symm))
theorem left_c(k:KN)(p:PR)(hw:wfR p)(deep:Int)(high:Bool)(n:Int)(hlk:looksB p=true)(hk:kindB k.vars k.chans.length p=false):leftE k p deep high n:=by
 have hnf: ¬fitsR k.vars k.chans.length high p n (32-deep):=fitsR_no (.inr (.inr (.inl hk)))
 have h1:=looks_p p
 have h2:=typed_p k p (wfR_all hw) hlk
 rw [hlk] at h1
 rw [hk] at h2
 unfold leftE
 refine p_ tt_ok Tryz.func73 104 fun w0 h0 F hgs=>?_
 (repeat' first|first|refine A.s rfl ?_|refine A.r rfl rfl ?_|refine A.w rfl rfl ?_|refine A.p rfl ?_|refine A.b rfl fun bx=>?_|refine A.t rfl fun bl=>?_|refine A.c rfl h1 .refl ?_|refine A.c rfl h2 .refl ?_|((fail_if_success (refine A.lit? rfl ?_));refine A.gS rfl (fun hc=>?_) (fun hc=>?_))|((fail_if_success (refine A.litP? rfl ?_));refine A.gSP rfl (fun hc=>?_) (fun hc=>?_)))
 all_goals (refine R_ ?_;exact Sb.eq (ai_eq (if_neg hnf).symm))
theorem left_d(k:KN)(p:PR)(hw:wfR p)(deep:Int)(n:Int)(hlk:looksB p=true)(hk:kindB k.vars k.chans.length p=true)(h11:p.kind=11):leftE k p deep true n:=by
 have hnf: ¬fitsR k.vars k.chans.length true p n (32-deep):=fitsR_no (.inr (.inr (.inr (by rw [h11];rfl))))
 have h1:=looks_p p
 have h2:=typed_p k p (wfR_all hw) hlk
 rw [hlk] at h1
 rw [hk] at h2
 unfold leftE
 have hkk:(p.kind==11)=true:=by rw [h11];rfl
 refine p_ tt_ok Tryz.func73 104 fun w0 h0 F hgs=>?_
 (repeat' first|first|refine A.s rfl ?_|refine A.r rfl rfl ?_|refine A.w rfl rfl ?_|refine A.p rfl ?_|refine A.b rfl fun bx=>?_|refine A.t rfl fun bl=>?_|refine A.c rfl h1 .refl ?_|refine A.c rfl h2 .refl ?_|((fail_if_success (refine A.lit? rfl ?_));refine A.gS rfl (fun hc=>?_) (fun hc=>?_))|((fail_if_success (refine A.litP? rfl ?_));refine A.gSP rfl (fun hc=>?_) (fun hc=>?_)))
 all_goals first|(refine R_ ?_;exact Sb.eq (ai_eq (if_neg hnf).symm))|(exact absurd hkk (by simp_all))
theorem left_e(k:KN)(p:PR)(hw:wfR p)(deep:Int)(high:Bool)(n:Int)(r0:1≤n)(r1:n≤2048)(d0:0≤deep)(d1:deep<32)(hlk:looksB p=true)(hk:kindB k.vars k.chans.length p=true)(hh:(high&&p.kind==11)=false)
 (ih0: ∀(y:PR) (hi:Bool) (lf:Int),wfR y→szR y<szR p→0≤lf→lf≤2048→leftE k y (deep+1) hi lf):leftE k p deep high n:=by
 have hw1:IntKind.i64.wrap (n-1)=n-1:=wr64 _ (by omega)
 have hw2:IntKind.i64.wrap (deep+1)=deep+1:=wr64 _ (by omega)
 have hwa:=wfR_all hw
 have h1:=looks_p p
 have h2:=typed_p k p hwa hlk
 rw [hlk] at h1
 rw [hk] at h2
 have hbod:=(kind_bodies hk).2.2
 have hfl:=fitsR_l (high:=high) (p:=p) (room:=n) (deep:=32-deep) r0 (by omega) hk hh
 rw [show 32-deep-1=32-(deep+1) by omega] at hfl
 have hse:=szR_eq p
 have n1:((encRl p.l).length:Int)=p.l.length:=by rw [encRl_len]
 have n2:((encGl p.gs).length:Int)=p.gs.length:=by rw [encGl_len]
 unfold leftE
 refine p_ tt_ok Tryz.func73 104 fun w0 h0 F hgs=>?_
 (refine gb_ fun bx=>?_;refine gb_ fun bx=>?_;refine g_ ?_)
 refine A.valE 16 rfl (x':=AB false) (ab_eq (by rw [Bool.eq_iff_iff];simp;omega)) ?_
 refine c_ h1 ?_
 refine n_ h2 ?_
 refine g_ ?_
 refine e_ 36 rfl (x':=AB false) (ab_eq (by revert hh;generalize (p.kind==11)=b11;cases high<;>cases b11<;>simp)) ?_
 refine A.valE 2 rfl (x':=AI (n-1)) (ai_eq hw1) ?_
 refine A.keep [2,3,4,7] rfl ?_
 refine A.loopP (ι:=Nat×Int) (fun q=>(⟨[(2,AI q.2),(3,ptrA _),(4,ptrA _),(7,AI (q.1:Nat))],[]⟩,[.box _ (cellsR p), .box _ (innA k deep high)]))
  (fun q=>q.1≤p.l.length∧((fitsPs k.vars k.chans.length high (p.kind==11) (p.l.take q.1) (n-1) (32-(deep+1))∧q.2=n-1-(szL (p.l.take q.1):Nat))∨(q.2= -1∧ ¬fitsR k.vars k.chans.length high p n (32-deep)))) (fun q=>p.l.length-q.1) (0,n-1) ⟨Nat.zero_le _, .inl ⟨⟨by simp [okL],by simp [szL];omega,by simp [htL];omega⟩,by simp [szL]⟩⟩ rfl fun q hi ih=>?_
 obtain ⟨i,lf⟩:=q
 obtain ⟨hi1,hi2⟩:=hi
 simp only at hi1 hi2
 by_cases hlf:lf<0
 ·have hneg:lf= -1∧ ¬fitsR k.vars k.chans.length high p n (32-deep):=by
   rcases hi2 with ⟨hf,he⟩|h
   ·have:=hf.2.1;omega
   ·exact h
  have hnf:=hneg.2
  have hlf1:=hneg.1
  subst hlf1
  refine g_ ?_
  refine e_ 47 rfl (x':=AB false) (ab_eq (by simp)) ?_
  refine A.loop1 ?_
  refine g_ ?_
  refine e_ 82 rfl (x':=AB false) (ab_eq (by simp)) ?_;refine R_ ?_;exact Sb.eq (ai_eq (if_neg hnf).symm)
 have hpos:fitsPs k.vars k.chans.length high (p.kind==11) (p.l.take i) (n-1) (32-(deep+1))∧lf=n-1-(szL (p.l.take i):Nat):=by
  rcases hi2 with h|h
  ·exact h
  ·omega
 clear hi2
 obtain ⟨hi2,hi3⟩:=hpos
 have hsz2:=hi2.2.1
 refine g_ ?_
 refine A.valE 47 rfl (x':=AB (decide (i<p.l.length))) (ab_eq (by rw [n1,Bool.eq_iff_iff];simp;omega)) ?_
 refine k_ (fun hc=>?_) fun hc=>?_
 ·have hc:i<p.l.length:=by simpa using hc
  refine Exists.elim (at_exN (l:=p.l) (i:=i) (by omega)) fun y hy=>?_
  have hym:=List.mem_of_getElem? hy
  have htk:p.l.take (i+1)=p.l.take i++[y]:=by rw [List.take_add_one,hy];rfl
  have hsn:=fitsPs_snoc (x:=y) hi2
  rw [←htk,←hi3,take_empty (by omega)] at hsn
  have ihy:=ih0 y (high||((p.kind==11)&&decide (i=0))) lf (hwa.l y hym) (by have:=szL_le hym;omega) (by omega) (by omega)
  unfold leftE at ihy
  have e0:(((i:Nat):Int)==0)=decide (i=0):=by rw [Bool.eq_iff_iff];simp
  refine y_ ?_
  refine A.draw 23 [0,1,2,3,4,5,6,7,8,9,10,11,12,13,14,15,16,17,18,19,20,21,22] noPubs [] (by kernel_rfl) (by kernel_rfl) ?_
  refine v_ ?_
  refine WA.valE 66 rfl (x':=innA k (deep+1) (high||((p.kind==11)&&decide (i=0)))) (innA_eq k hw2 (by rw [e0];clear ih ihy hsn;generalize (p.kind==11)=b11;cases high<;>cases b11<;>simp)) ?_
  refine iw_ rfl (encRl_at hy) (encR_eq y) ?_
  refine WA.nil (l:=[]) rfl ?_
  refine c_ ihy ?_
  refine A.valE 7 rfl (x':=AI ((i+1:Nat):Int)) (inc_eq i (by have:=hwa.ll;omega)) ?_
  refine u_ (ih (i+1,leftI k (high||((p.kind==11)&&decide (i=0))) (deep+1) y lf) ⟨by show i+1≤_;omega,?_⟩ (by show _-(i+1)<_-i;omega))
  by_cases hfx:fitsR k.vars k.chans.length (high||((p.kind==11)&&decide (i=0))) y lf (32-(deep+1))
  ·refine .inl ⟨hsn.2 hfx,?_⟩
   show leftI k (high||((p.kind==11)&&decide (i=0))) (deep+1) y lf=n-1-(szL (p.l.take (i+1)):Nat)
   rw [leftI,if_pos hfx,htk,szL_append,hi3];simp [szL];omega
  ·exact .inr ⟨if_neg hfx,fun hf=>hfx (hsn.1 (fitsPs_take (hfl.1 hf).1 (i+1)))⟩
 have hc: ¬i<p.l.length:=by simpa using hc
 have hil:i=p.l.length:=by omega
 rw [hil,List.take_length] at hi2 hi3
 have hszl:=hi2.2.1
 refine y_ ?_
 refine A.keep [2,3,4,8] rfl ?_
 refine A.loopP (ι:=Nat×Int) (fun q=>(⟨[(2,AI q.2),(3,ptrA _),(4,ptrA _),(8,AI (q.1:Nat))],[]⟩,[.box _ (cellsR p), .box _ (innA k deep high)]))
  (fun q=>q.1≤p.gs.length∧((fitsGs k.vars k.chans.length high (p.gs.take q.1) (n-1-(szL p.l:Nat)) (32-(deep+1))∧q.2=n-1-(szL p.l:Nat)-(szGs (p.gs.take q.1):Nat))∨(q.2= -1∧ ¬fitsR k.vars k.chans.length high p n (32-deep)))) (fun q=>p.gs.length-q.1) (0,lf) ⟨Nat.zero_le _, .inl ⟨⟨by simp [okGs],by simp [szGs];omega,by simp [htGs];omega⟩,by simp [szGs];omega⟩⟩ rfl fun q hj jh=>?_
 obtain ⟨j,lg⟩:=q
 obtain ⟨hj1,hj2⟩:=hj
 simp only at hj1 hj2
 by_cases hlg:lg<0
 ·have hneg:lg= -1∧ ¬fitsR k.vars k.chans.length high p n (32-deep):=by
   rcases hj2 with ⟨hf,he⟩|h
   ·have:=hf.2.1;omega
   ·exact h
  have hnf:=hneg.2
  have hlg1:=hneg.1
  subst hlg1
  refine g_ ?_
  refine e_ 82 rfl (x':=AB false) (ab_eq (by simp)) ?_;refine R_ ?_;exact Sb.eq (ai_eq (if_neg hnf).symm)
 have hpos:fitsGs k.vars k.chans.length high (p.gs.take j) (n-1-(szL p.l:Nat)) (32-(deep+1))∧lg=n-1-(szL p.l:Nat)-(szGs (p.gs.take j):Nat):=by
  rcases hj2 with h|h
  ·exact h
  ·omega
 clear hj2
 obtain ⟨hj2,hj3⟩:=hpos
 have hsz3:=hj2.2.1
 refine g_ ?_
 refine A.valE 82 rfl (x':=AB (decide (j<p.gs.length))) (ab_eq (by rw [n2,Bool.eq_iff_iff];simp;omega)) ?_
 refine k_ (fun hc=>?_) fun hc=>?_
 ·have hc:j<p.gs.length:=by simpa using hc
  refine Exists.elim (at_exN (l:=p.gs) (i:=j) (by omega)) fun g hg=>?_
  have hgm:=List.mem_of_getElem? hg
  refine Exists.elim (hbod g hgm) fun y hy=>?_
  have htk:p.gs.take (j+1)=p.gs.take j++[g]:=by rw [List.take_add_one,hg];rfl
  have hsn:=fitsGs_snoc hy hj2
  rw [←htk,←hj3] at hsn
  have hszy:szR y≤szGs p.gs:=by have:=szGs_le hgm;rw [szG_eq,hy,szL,szL] at this;omega
  have ihy:=ih0 y high lg ((wfG_all (hwa.g g hgm)).body y (by rw [hy];exact List.mem_cons_self ..)) (by omega) (by omega) (by omega)
  unfold leftE at ihy
  refine y_ ?_
  refine d_ 17 [0,1,2,3,4,5,6,7,8,9,10,11,12,13,14,15,16] [] ?_
  refine WA.valE 92 rfl (x':=innA k (deep+1) high) (innA_eq k hw2 rfl) ?_
  refine iw_ rfl (encGl_at hg) (encG_eq g) ?_
  refine iw_ rfl (show (encRl g.body)[(0:Int).toNat]? =some (encR y) from encRl_at (by rw [hy];rfl)) (encR_eq y) ?_
  refine WA.nil (l:=[]) rfl ?_
  refine c_ ihy ?_
  refine A.valE 8 rfl (x':=AI ((j+1:Nat):Int)) (inc_eq j (by have:=hwa.gl;omega)) ?_
  refine u_ (jh (j+1,leftI k high (deep+1) y lg) ⟨by show j+1≤_;omega,?_⟩ (by show _-(j+1)<_-j;omega))
  by_cases hfx:fitsR k.vars k.chans.length high y lg (32-(deep+1))
  ·refine .inl ⟨hsn.2 hfx,?_⟩
   show leftI k high (deep+1) y lg=n-1-(szL p.l:Nat)-(szGs (p.gs.take (j+1)):Nat)
   have e2:szGs [g]=szR y:=by rw [szGs,szGs,szG_eq,hy,szL,szL];omega
   rw [leftI,if_pos hfx,htk,szGs_append,hj3,e2];omega
  ·exact .inr ⟨if_neg hfx,fun hf=>hfx (hsn.1 (fitsGs_take (hfl.1 hf).2 (j+1)))⟩
 have hc: ¬j<p.gs.length:=by simpa using hc
 have hjl:j=p.gs.length:=by omega
 rw [hjl,List.take_length] at hj2 hj3
 refine y_ ?_;refine R_ ?_
 refine Sb.eq (ai_eq ?_)
 rw [leftI,if_pos (hfl.2 ⟨hi2,hj2⟩)];omega
theorem left_p(k:KN): ∀(N:Nat) (p:PR) (deep:Int) (high:Bool) (n:Int),szR p≤N→wfR p→0≤n→n≤2048→0≤deep→deep≤32→leftE k p deep high n
 |0,p,_,_,_,hn,_,_,_,_,_=>by have:=szR_pos p;omega
 |N+1,p,deep,high,n,hn,hw,r0,r1,d0,d1=>by
  by_cases hz:n=0∨deep=32
  ·exact left_a k p deep high n hz r0 d1
  cases hlk:looksB p with
  |false=>exact left_b k p deep high n hlk
  |true=>
   cases hkb:kindB k.vars k.chans.length p with
   |false=>exact left_c k p hw deep high n hlk hkb
   |true=>
    cases hh:(high&&p.kind==11) with
    |true=>
     simp only [Bool.and_eq_true,beq_iff_eq] at hh
     rw [hh.1]
     exact left_d k p hw deep n hlk hkb hh.2
    |false=>exact left_e k p hw deep high n (by omega) r1 d0 (by omega) hlk hkb hh fun y hi lf hwy hsz l0 l1=>left_p k N y (deep+1) hi lf (by omega) hwy l0 l1 (by omega) (by omega)
def finK(k:KN):Bool:=k.root.kind==10&&k.root.l.length==k.procs.length
def placedK(k:KN):Bool:=k.procs.length==0||(okPr [] k.procs&&finK k)
theorem placed_a(k:KN)(h:k.procs.length=0):Pure Tryz.prog gs0 71 [encN k] (AB true):=by
 have n3:((k.procs.map AI).length:Int)=k.procs.length:=by rw [List.length_map]
 refine p_ tt_ok Tryz.func71 60 fun w0 h0 F hgs=>?_
 (refine b_ fun bx=>?_;refine y_ ?_)
 refine e_ 8 rfl (x':=AB true) (ab_eq (by rw [n3,h];rfl)) ?_;exact r_
theorem placed_b(k:KN)(hw:WfN k)(h:k.procs.length≠0)(R:Bool)(hR:(okPr [] k.procs&&finK k)=R):Pure Tryz.prog gs0 71 [encN k] (AB R):=by
 have n3:((k.procs.map AI).length:Int)=k.procs.length:=by rw [List.length_map]
 have n4:((encRl k.root.l).length:Int)=k.root.l.length:=by rw [encRl_len]
 have hpl:=hw.procs
 refine p_ tt_ok Tryz.func71 60 fun w0 h0 F hgs=>?_
 (refine b_ fun bx=>?_;refine y_ ?_)
 refine e_ 8 rfl (x':=AB false) (ab_eq (by rw [n3];exact beq_eq_false_iff_ne.2 (by omega))) ?_
 refine A.keep [1,3] rfl ?_
 refine A.loopP (ι:=Nat) (fun i=>(⟨[(1,ptrA _),(3,AI (i:Nat))],[]⟩,[.box _ (encN k)])) (fun i=>i≤k.procs.length∧(okPr (k.procs.take i) (k.procs.drop i)&&finK k)=R) (fun i=>k.procs.length-i) 0 ⟨by omega,hR⟩ rfl fun i hi ih=>?_
 refine y_ ?_
 refine A.valE 13 rfl (x':=AB (decide (i<k.procs.length))) (ab_eq (by rw [n3,Bool.eq_iff_iff];simp)) ?_
 refine k_ (fun hc=>?_) fun hc=>?_
 ·have hc:i<k.procs.length:=by simpa using hc
  refine Exists.elim (at_exN (l:=k.procs) (i:=i) hc) fun v hv=>?_
  have h1:=hi.2
  rw [drop_at hv,okPr] at h1
  have htk:k.procs.take (i+1)=k.procs.take i++[v]:=by rw [List.take_add_one,hv];rfl
  rw [←htk] at h1
  refine Exists.elim (show∃R2,R2=(okPr (k.procs.take (i+1)) (k.procs.drop (i+1))&&finK k) from ⟨_,rfl⟩) fun R2 hR2=>?_
  have h2:(decide (0≤v)&&decide (v<8)&& !(k.procs.take i).contains v&&R2)=R:=by rw [hR2,←h1];simp only [Bool.and_assoc]
  refine y_ ?_
  refine A.keep [1,3,4] rfl ?_
  refine A.loopP (ι:=Nat) (fun j=>(⟨[(1,ptrA _),(3,AI (i:Nat)),(4,AI (j:Nat))],[]⟩,[.box _ (encN k)])) (fun j=>j≤i∧(k.procs.take i).contains v=((k.procs.take i).drop j).contains v) (fun j=>i-j) 0 ⟨by omega,rfl⟩ rfl fun j hj jh=>?_
  refine y_ ?_
  refine A.valE 18 rfl (x':=AB (decide (j<i))) (ab_eq (by rw [Bool.eq_iff_iff];simp)) ?_
  refine k_ (fun hc=>?_) fun hc=>?_
  ·have hd:j<i:=by simpa using hc
   refine Exists.elim (at_exN (l:=k.procs) (i:=j) (by omega)) fun u hu=>?_
   have hut:(k.procs.take i)[j]? =some u:=by rw [List.getElem?_take,if_pos hd,hu]
   have h3:=hj.2
   rw [drop_at hut,List.contains_cons] at h3
   refine y_ ?_
   refine d_ 10 [0,1,2,3,4,5,6,7,8,9] [] ?_
   refine iw_ rfl (map_at hu) rfl ?_
   refine iw_ rfl (map_at hv) rfl ?_
   refine z_ ?_
   refine k_ (fun hc=>?_) fun hc=>?_
   ·have he:u=v:=by simpa using hc
    rw [he] at h3
    simp only [BEq.rfl,Bool.true_or] at h3
    rw [h3] at h2
    simp only [Bool.not_true,Bool.and_false,Bool.false_and] at h2
    refine y_ ?_;refine R_ ?_;rw [←h2];exact .refl
   ·have he:(v==u)=false:=by have:(u==v)=false:=hc;rw [beq_eq_false_iff_ne] at this⊢;exact fun h=>this h.symm
    rw [he,Bool.false_or] at h3
    refine y_ ?_
    refine A.valE 4 rfl (x':=AI ((j+1:Nat):Int)) (inc_eq j (by omega)) ?_
    refine u_ (jh (j+1) ⟨by omega,h3⟩ (by omega))
  have hd: ¬j<i:=by simpa using hc
  have hji:j=i:=by omega
  have h3:=hj.2
  rw [hji,List.drop_eq_nil_of_le (by rw [List.length_take];omega),List.contains_nil] at h3
  rw [h3,Bool.not_false,Bool.and_true] at h2
  refine y_ ?_
  refine i_ rfl (map_at hv) rfl ?_
  ((fail_if_success (refine A.lit? rfl ?_));refine A.gS rfl (fun hc=>?_) (fun hc=>?_))
  ·have hc0:v<0:=by simpa using hc
   rw [decide_eq_false (by omega)] at h2
   simp only [Bool.false_and] at h2
   refine y_ ?_;refine R_ ?_;rw [←h2];exact .refl
  have hc0:0≤v:=by simpa using hc
  refine y_ ?_
  refine i_ rfl (map_at hv) rfl ?_
  refine k_ (fun hc=>?_) fun hc=>?_
  ·have hc1:8≤v:=by simpa using hc
   rw [decide_eq_false (p:=v<8) (by omega)] at h2
   simp only [Bool.false_and,Bool.and_false] at h2
   refine y_ ?_;refine R_ ?_;rw [←h2];exact .refl
  have hc1:v<8:=by simpa using hc
  rw [decide_eq_true hc0,decide_eq_true hc1,Bool.true_and,Bool.true_and,hR2] at h2
  refine y_ ?_
  refine A.valE 3 rfl (x':=AI ((i+1:Nat):Int)) (inc_eq i (by omega)) ?_
  refine u_ (ih (i+1) ⟨by omega,h2⟩ (by omega))
 have hc: ¬i<k.procs.length:=by simpa using hc
 have hil:i=k.procs.length:=by omega
 have h1:=hi.2
 rw [hil,List.drop_length,okPr,Bool.true_and,finK] at h1
 refine g_ ?_;refine R_ ?_
 refine Sb.eq (ab_eq ?_)
 rw [←h1,n3,n4]
 generalize (k.root.kind==10)=b10
 cases b10 with
 |false=>rfl
 |true=>clear ih hi h1;rw [Bool.eq_iff_iff];simp;omega
theorem placed_p(k:KN)(hw:WfN k):Pure Tryz.prog gs0 71 [encN k] (AB (placedK k)):=by
 unfold placedK
 by_cases h:k.procs.length=0
 ·rw [show (k.procs.length==0)=true from beq_iff_eq.2 h,Bool.true_or];exact placed_a k h
 ·rw [show (k.procs.length==0)=false from beq_eq_false_iff_ne.2 h,Bool.false_or];exact placed_b k hw h _ rfl
theorem mayK_eq(k:KN):mayK k=(lensK k&&placedK k&&k.vars.all varOk&&okCh 0 k.chans&&decide (fitsR k.vars k.chans.length false k.root 2048 32)):=by
 unfold mayK
 have:(rootK k&&okPr [] k.procs)=placedK k:=by
  unfold rootK placedK finK
  by_cases h:k.procs.length=0
  ·rw [show (k.procs.length==0)=true from beq_iff_eq.2 h,List.length_eq_zero_iff.1 h];rfl
  ·rw [show (k.procs.length==0)=false from beq_eq_false_iff_ne.2 h,Bool.false_or,Bool.false_or,Bool.and_comm]
 rw [←this]
 simp only [Bool.and_assoc]
theorem rmay_a(k:KN)(hw:WfN k)(h:(lensK k&&placedK k)=false):Pure Tryz.prog gs0 36 [encN k] (AB false):=by
 have n1:((k.vars.map encV).length:Int)=k.vars.length:=by rw [List.length_map]
 have n2:((k.chans.map AU8).length:Int)=k.chans.length:=by rw [List.length_map]
 have hpc:=placed_p k hw
 refine p_ tt_ok Tryz.func36 86 fun w0 h0 F hgs=>?_
 (refine gb_ fun bx=>?_;refine g_ ?_)
 refine A.valE 22 rfl (x':=AB (!lensK k)) (ab_eq ?_) ?_
 ·rw [n1,n2,lensK,Bool.eq_iff_iff];simp;omega
 cases hlk:lensK k with
 |false=>exact yr_
 |true=>
  rw [hlk,Bool.true_and] at h
  rw [h] at hpc
  exact cr_ hpc
theorem rmay_b(k:KN)(hw:WfN k)(h:(lensK k&&placedK k)=true)(R:Bool)(hR:(k.vars.all varOk&&(okCh 0 k.chans&&decide (fitsR k.vars k.chans.length false k.root 2048 32)))=R):Pure Tryz.prog gs0 36 [encN k] (AB R):=by
 have n1:((k.vars.map encV).length:Int)=k.vars.length:=by rw [List.length_map]
 have n2:((k.chans.map AU8).length:Int)=k.chans.length:=by rw [List.length_map]
 rw [Bool.and_eq_true] at h
 have hlk:k.vars.length≤256∧2≤k.chans.length∧k.chans.length≤64:=by have:=h.1;simp only [lensK,Bool.and_eq_true,decide_eq_true_eq] at this;omega
 have hpc:=placed_p k hw
 rw [h.2] at hpc
 refine Exists.elim (show∃R2,R2=(okCh 0 k.chans&&decide (fitsR k.vars k.chans.length false k.root 2048 32)) from ⟨_,rfl⟩) fun R2 hR2=>?_
 rw [←hR2] at hR
 refine p_ tt_ok Tryz.func36 86 fun w0 h0 F hgs=>?_
 (refine gb_ fun bx=>?_;refine g_ ?_)
 refine A.valE 22 rfl (x':=AB false) (ab_eq ?_) ?_
 ·rw [n1,n2,Bool.eq_iff_iff];simp;omega
 refine c_ hpc ?_
 refine A.keep [1,3] rfl ?_
 refine A.loopP (ι:=Nat) (fun i=>(⟨[(1,ptrA _),(3,AI (i:Nat))],[]⟩,[.box _ (encN k)])) (fun i=>i≤k.vars.length∧((k.vars.drop i).all varOk&&R2)=R) (fun i=>k.vars.length-i) 0 ⟨by omega,hR⟩ rfl fun j hi ih=>?_
 refine y_ ?_
 refine A.valE 31 rfl (x':=AB (decide (j<k.vars.length))) (ab_eq (by rw [n1,Bool.eq_iff_iff];simp)) ?_
 refine k_ (fun hc=>?_) fun hc=>?_
 ·have hc:j<k.vars.length:=by simpa using hc
  refine Exists.elim (at_exN (l:=k.vars) (i:=j) (by omega)) fun v hv=>?_
  have h2:=hi.2
  rw [drop_at hv,List.all_cons,varOk] at h2
  refine y_ ?_
  refine i_ rfl (map_at hv) rfl ?_
  refine c_ (rprim_p v.kind) ?_
  ((fail_if_success (refine A.lit? rfl ?_));refine A.gS rfl (fun hc=>?_) (fun hc=>?_))
  ·have hc0:primB v.kind=false:=by simpa using hc
   rw [hc0] at h2
   refine y_ ?_;refine R_ ?_;rw [←h2];exact .refl
  have hc0:primB v.kind=true:=by simpa using hc
  refine y_ ?_
  refine i_ rfl (map_at hv) rfl ?_
  ((fail_if_success (refine A.lit? rfl ?_));refine A.gS rfl (fun hc=>?_) (fun hc=>?_))
  ·have hc1:v.dim<0:=by simpa using hc
   rw [decide_eq_false (p:=0≤v.dim) (by omega),Bool.and_false] at h2
   refine y_ ?_;refine R_ ?_;rw [←h2];exact .refl
  have hc1:0≤v.dim:=by simpa using hc
  refine y_ ?_
  refine i_ rfl (map_at hv) rfl ?_
  refine k_ (fun hc=>?_) fun hc=>?_
  ·have hc2:64<v.dim:=by simpa using hc
   rw [decide_eq_false (p:=v.dim≤64) (by omega),Bool.and_false] at h2
   refine y_ ?_;refine R_ ?_;rw [←h2];exact .refl
  ·have hc2:v.dim≤64:=by simpa using hc
   rw [hc0,decide_eq_true hc1,decide_eq_true hc2] at h2
   simp only [Bool.true_and] at h2
   refine y_ ?_
   refine A.valE 3 rfl (x':=AI ((j+1:Nat):Int)) (inc_eq j (by omega)) ?_
   refine u_ (ih (j+1) ⟨by omega,h2⟩ (by omega))
 have hc: ¬j<k.vars.length:=by simpa using hc
 have hjl:j=k.vars.length:=by omega
 have h2:=hi.2
 rw [hjl,List.drop_length,List.all_nil,Bool.true_and,hR2] at h2
 clear ih hi
 generalize hR3:decide (fitsR k.vars k.chans.length false k.root 2048 32)=R3 at h2
 have hpr:=left_p k (szR k.root) k.root 0 false 2048 (Nat.le_refl _) hw.root (by decide) (by decide) (by decide) (by decide)
 unfold leftE at hpr
 refine y_ ?_
 refine A.keep [1,4] rfl ?_
 refine A.loopP (ι:=Nat) (fun i=>(⟨[(1,ptrA _),(4,AI (i:Nat))],[]⟩,[.box _ (encN k)])) (fun i=>i≤k.chans.length∧(okCh i (k.chans.drop i)&&R3)=R) (fun i=>k.chans.length-i) 0 ⟨by omega,h2⟩ rfl fun m hi ih=>?_
 refine y_ ?_
 refine A.valE 64 rfl (x':=AB (decide (m<k.chans.length))) (ab_eq (by rw [n2,Bool.eq_iff_iff];simp)) ?_
 refine k_ (fun hc=>?_) fun hc=>?_
 ·have hc:m<k.chans.length:=by simpa using hc
  refine Exists.elim (at_exN (l:=k.chans) (i:=m) (by omega)) fun v hv=>?_
  have h3:=hi.2
  rw [drop_at hv,okCh] at h3
  by_cases m0:m=0
  ·subst m0
   rw [show wantH 0=1 from rfl] at h3
   (refine t_ fun bl=>?_;refine y_ ?_)
   refine i_ rfl rfl rfl ?_
   refine i_ rfl (map_at hv) rfl ?_
   refine k_ (fun hc=>?_) fun hc=>?_
   ·have hc:(v !=1)=true:=hc
    have hv1:(v==1)=false:=by simpa using hc
    rw [hv1] at h3
    refine y_ ?_;refine R_ ?_;rw [←h3];exact .refl
   ·have hc:(v !=1)=false:=hc
    have hv1:(v==1)=true:=by simpa using hc
    rw [hv1,Bool.true_and] at h3
    refine y_ ?_
    refine u_ (ih 1 ⟨by omega,h3⟩ (by omega))
  by_cases m1:m=1
  ·subst m1
   rw [show wantH 1=2 from rfl] at h3
   (refine t_ fun bl=>?_;refine y_ ?_)
   refine i_ rfl rfl rfl ?_
   refine i_ rfl (map_at hv) rfl ?_
   refine k_ (fun hc=>?_) fun hc=>?_
   ·have hc:(v !=2)=true:=hc
    have hv1:(v==2)=false:=by simpa using hc
    rw [hv1] at h3
    refine y_ ?_;refine R_ ?_;rw [←h3];exact .refl
   ·have hc:(v !=2)=false:=hc
    have hv1:(v==2)=true:=by simpa using hc
    rw [hv1,Bool.true_and] at h3
    refine y_ ?_
    refine u_ (ih 2 ⟨by omega,h3⟩ (by omega))
  ·rw [show wantH m=0 by simp [wantH,m0,m1]] at h3
   refine y_ ?_
   refine e_ 68 rfl (x':=AB false) (ab_eq (by simp;omega)) ?_
   refine i_ rfl (map_at hv) rfl ?_
   refine k_ (fun hc=>?_) fun hc=>?_
   ·have hc:(v !=0)=true:=hc
    have hv1:(v==0)=false:=by simpa using hc
    rw [hv1] at h3
    refine y_ ?_;refine R_ ?_;rw [←h3];exact .refl
   ·have hc:(v !=0)=false:=hc
    have hv1:(v==0)=true:=by simpa using hc
    rw [hv1,Bool.true_and] at h3
    refine y_ ?_
    refine A.valE 4 rfl (x':=AI ((m+1:Nat):Int)) (inc_eq m (by omega)) ?_
    refine u_ (ih (m+1) ⟨by omega,h3⟩ (by omega))
 have hc: ¬m<k.chans.length:=by simpa using hc
 have hml:m=k.chans.length:=by omega
 have h3:=hi.2
 rw [hml,List.drop_length,okCh,Bool.true_and] at h3
 clear ih hi
 refine y_ ?_
 refine c_ hpr ?_;refine R_ ?_;refine Sb.eq (ab_eq ?_);rw [←h3,←hR3,leftI,show (32:Int)-0=32 from rfl]
 by_cases hf:fitsR k.vars k.chans.length false k.root 2048 32
 ·rw [if_pos hf,decide_eq_true hf];have:=hf.2.1;simp;omega
 ·rw [if_neg hf,decide_eq_false hf];rfl
theorem rmay16_p(k:KN)(hw:WfN k):Pure Tryz.prog gs0 36 [encN k] (AB (mayK k)):=by
 rw [mayK_eq]
 by_cases h:(lensK k&&placedK k)=true
 ·rw [h,Bool.true_and,Bool.and_assoc];exact rmay_b k hw h _ rfl
 ·have h:(lensK k&&placedK k)=false:=by simpa using h
  rw [h,Bool.false_and,Bool.false_and,Bool.false_and];exact rmay_a k hw h
mutual
def smK:KE→Prop
 |⟨_,_,_,_,_,l⟩=>l.length*40≤140737488355328∧smKl l
def smKl:List KE→Prop
 | []=>True
 |e::r=>smK e∧smKl r
end
theorem smKl_mem: ∀{l:List KE},smKl l→ ∀x,x∈l→smK x
 | [],_,x,h=>by cases h
 |y::r,hw,x,h=>by
  rw [smKl] at hw
  rcases List.mem_cons.1 h with rfl|h
  ·exact hw.1
  ·exact smKl_mem hw.2 x h
theorem smK_l{e:KE}(h:smK e):e.l.length≤281474976710656∧ ∀x,x∈e.l→smK x:=by
 obtain ⟨k,o,t,n,v,l⟩:=e
 rw [smK] at h
 have:=h.1
 exact ⟨by show l.length≤_;omega,smKl_mem h.2⟩
theorem smK_b{e:KE}(h:smK e):e.l.length*40≤140737488355328:=by
 obtain ⟨k,o,t,n,v,l⟩:=e
 rw [smK] at h
 exact h.1
def smP(p:PL):Prop:=p.ix.length*40≤140737488355328∧ ∀x,x∈p.ix→smK x
theorem smP_l{p:PL}(h:smP p):p.ix.length≤281474976710656:=by have:=h.1;omega
mutual
def smR:PR→Prop
 |⟨_,_,_,_,to,e,gs,l⟩=>((∀t,t∈to→smP t)∧(∀x,x∈e→smK x)∧to.length*32≤140737488355328∧e.length*40≤140737488355328∧gs.length*160≤140737488355328∧l.length*128≤140737488355328)∧smGl gs∧smRl l
def smRl:List PR→Prop
 | []=>True
 |p::r=>smR p∧smRl r
def smG:GD→Prop
 |⟨_,e,_,_,to,t,b⟩=>(smK e∧smK t∧smP to∧b.length*128≤140737488355328)∧smRl b
def smGl:List GD→Prop
 | []=>True
 |g::r=>smG g∧smGl r
end
theorem smRl_mem: ∀{l:List PR},smRl l→ ∀x,x∈l→smR x
 | [],_,x,h=>by cases h
 |y::r,hw,x,h=>by
  rw [smRl] at hw
  rcases List.mem_cons.1 h with rfl|h
  ·exact hw.1
  ·exact smRl_mem hw.2 x h
theorem smGl_mem: ∀{l:List GD},smGl l→ ∀x,x∈l→smG x
 | [],_,x,h=>by cases h
 |y::r,hw,x,h=>by
  rw [smGl] at hw
  rcases List.mem_cons.1 h with rfl|h
  ·exact hw.1
  ·exact smGl_mem hw.2 x h
structure SmR(p:PR):Prop where
 to: ∀t,t∈p.to→smP t
 e: ∀x,x∈p.e→smK x
 tol:p.to.length≤281474976710656
 el:p.e.length≤281474976710656
 gl:p.gs.length≤281474976710656
 ll:p.l.length≤281474976710656
 g: ∀g,g∈p.gs→smG g
 l: ∀x,x∈p.l→smR x
 tb:p.to.length*32≤140737488355328
 eb:p.e.length*40≤140737488355328
 gb:p.gs.length*160≤140737488355328
 lb:p.l.length*128≤140737488355328
theorem smR_all{p:PR}(h:smR p):SmR p:=by
 obtain ⟨k,c,v,i,to,e,gs,l⟩:=p
 rw [smR] at h
 obtain ⟨⟨h1,h2,h3,h4,h5,h6⟩,h7,h8⟩:=h
 exact ⟨h1,h2,by show to.length≤_;omega,by show e.length≤_;omega,by show gs.length≤_;omega,by show l.length≤_;omega,smGl_mem h7,smRl_mem h8,h3,h4,h5,h6⟩
structure SmG(g:GD):Prop where
 cond:smK g.cond
 time:smK g.time
 to:smP g.to
 bl:g.body.length≤281474976710656
 body: ∀x,x∈g.body→smR x
 bb:g.body.length*128≤140737488355328
theorem smG_all{g:GD}(h:smG g):SmG g:=by
 obtain ⟨k,e,c,i,to,t,b⟩:=g
 rw [smG] at h
 obtain ⟨⟨h1,h2,h3,h4⟩,h5⟩:=h
 exact ⟨h1,h2,h3,by show b.length≤_;omega,smRl_mem h5,h4⟩
def eqLB{α:Type}(p:α→α→Bool):List α→List α→Bool
 | [],[]=>true
 |a::r,b::s=>p a b&&eqLB p r s
 |_,_=>false
theorem eqLB_len{α:Type}{p:α→α→Bool}: ∀{a b:List α},a.length≠b.length→eqLB p a b=false
 | [],[],h=>(h rfl).elim
 | [],_::_,_=>rfl
 |_::_,[],_=>rfl
 |a::r,b::s,h=>by rw [eqLB,eqLB_len (a:=r) (b:=s) (by simpa using h),Bool.and_false]
theorem eqLB_at{α:Type}{p:α→α→Bool}{a b:List α}{i:Nat}{x y:α}(hx:a[i]? =some x)(hy:b[i]? =some y):eqLB p (a.drop i) (b.drop i)=(p x y&&eqLB p (a.drop (i+1)) (b.drop (i+1))):=by
 rw [drop_at hx,drop_at hy,eqLB]
mutual
def eqK:KE→KE→Bool
 |⟨k,o,t,n,v,l⟩,⟨k',o',t',n',v',l'⟩=>(k==k')&&((o==o')&&((t==t')&&((n==n')&&((v==v')&&eqKl l l'))))
def eqKl:List KE→List KE→Bool
 | [],[]=>true
 |a::r,b::s=>eqK a b&&eqKl r s
 |_,_=>false
end
theorem eqK_eq(a b:KE):eqK a b=((a.kind==b.kind)&&((a.oper==b.oper)&&((a.to==b.to)&&((a.n==b.n)&&((a.v==b.v)&&eqKl a.l b.l))))):=by
 obtain ⟨k,o,t,n,v,l⟩:=a
 obtain ⟨k',o',t',n',v',l'⟩:=b
 rw [eqK]
theorem eqKl_eq: ∀(a b:List KE),eqKl a b=eqLB eqK a b
 | [],[]=>by rw [eqKl,eqLB]
 | [],_::_=>by rw [eqKl,eqLB]<;>simp
 |_::_,[]=>by rw [eqKl,eqLB]<;>simp
 |a::r,b::s=>by rw [eqKl,eqLB,eqKl_eq r s]
def eqP(a b:PL):Bool:=(a.v==b.v)&&eqKl a.ix b.ix
mutual
def eqR:PR→PR→Bool
 |⟨k,c,v,i,to,e,gs,l⟩,⟨k',c',v',i',to',e',gs',l'⟩=>(k==k')&&((c==c')&&((v==v')&&((i==i')&&(eqLB eqP to to'&&(eqKl e e'&&(eqGl gs gs'&&eqRl l l'))))))
def eqRl:List PR→List PR→Bool
 | [],[]=>true
 |a::r,b::s=>eqR a b&&eqRl r s
 |_,_=>false
def eqG:GD→GD→Bool
 |⟨k,e,c,i,to,t,b⟩,⟨k',e',c',i',to',t',b'⟩=>(k==k')&&((c==c')&&((i==i')&&(eqK e e'&&(eqK t t'&&(eqP to to'&&eqRl b b')))))
def eqGl:List GD→List GD→Bool
 | [],[]=>true
 |a::r,b::s=>eqG a b&&eqGl r s
 |_,_=>false
end
theorem eqR_eq(a b:PR):eqR a b=((a.kind==b.kind)&&((a.c==b.c)&&((a.v==b.v)&&((a.item==b.item)&&(eqLB eqP a.to b.to&&(eqKl a.e b.e&&(eqGl a.gs b.gs&&eqRl a.l b.l))))))):=by
 obtain ⟨k,c,v,i,to,e,gs,l⟩:=a
 obtain ⟨k',c',v',i',to',e',gs',l'⟩:=b
 rw [eqR]
theorem eqG_eq(a b:GD):eqG a b=((a.kind==b.kind)&&((a.c==b.c)&&((a.item==b.item)&&(eqK a.cond b.cond&&(eqK a.time b.time&&(eqP a.to b.to&&eqRl a.body b.body)))))):=by
 obtain ⟨k,e,c,i,to,t,bd⟩:=a
 obtain ⟨k',e',c',i',to',t',bd'⟩:=b
 rw [eqG]
theorem eqRl_eq: ∀(a b:List PR),eqRl a b=eqLB eqR a b
 | [],[]=>by rw [eqRl,eqLB]
 | [],_::_=>by rw [eqRl,eqLB]<;>simp
 |_::_,[]=>by rw [eqRl,eqLB]<;>simp
 |a::r,b::s=>by rw [eqRl,eqLB,eqRl_eq r s]
theorem eqGl_eq: ∀(a b:List GD),eqGl a b=eqLB eqG a b
 | [],[]=>by rw [eqGl,eqLB]
 | [],_::_=>by rw [eqGl,eqLB]<;>simp
 |_::_,[]=>by rw [eqGl,eqLB]<;>simp
 |a::r,b::s=>by rw [eqGl,eqLB,eqGl_eq r s]
theorem eqfP_p{gs:Ua}(f:FuncId)(p:PL→PL→Bool)(a b:List PL)(hcb: ∀x,x∈a→ ∀y,Pure Tryz.prog gs f [encPl x,encPl y] (AB (p x y)))(hb:a.length≤281474976710656):
 Pure Tryz.prog gs 83 [plsA a,plsA b, .fn f [] []] (AB (eqLB p a b)):=by
 by_cases hl:a.length=b.length
 case neg=>
  rw [eqLB_len hl]
  refine p_ tt_ok Tryz.func83 32 fun w0 h0 F hgs=>?_
  refine y_ ?_
  refine e_ 14 rfl (x':=AB true) (ab_eq (by rw [List.length_map,List.length_map];show (!((a.length:Int)==(b.length:Int)))=true;rw [beq_eq_false_iff_ne.2 (by omega)];rfl)) ?_;exact r_
 refine p_ tt_ok Tryz.func83 32 fun w0 h0 F hgs=>?_
 refine y_ ?_
 refine e_ 14 rfl (x':=AB false) (ab_eq (by rw [List.length_map,List.length_map];show (!((a.length:Int)==(b.length:Int)))=false;rw [beq_iff_eq.2 (by omega)];rfl)) ?_
 refine A.valE 16 rfl (x':=AI (a.length:Nat)) (ai_eq (by rw [List.length_map])) ?_
 refine A.keep [1,2,15,16,17] rfl ?_
 refine A.loopP (ι:=Nat) (fun i=>(⟨[(1,plsA b),(2, .fn f [] []),(15,plsA a),(16,AI (a.length:Nat)),(17,AI (i:Nat))],[]⟩,[])) (fun i=>i≤a.length∧eqLB p a b=eqLB p (a.drop i) (b.drop i)) (fun i=>a.length-i) 0 ⟨Nat.zero_le _,rfl⟩ rfl fun i hi ih=>?_
 obtain ⟨hi1,hi2⟩:=hi
 refine y_ ?_
 refine k_ (fun hc=>?_) fun hc=>?_
 ·have hc':i<a.length:=by simpa using hc
  refine Exists.elim (at_exN (l:=a) (i:=i) hc') fun x hx=>?_
  refine Exists.elim (at_exN (l:=b) (i:=i) (by omega)) fun y hy=>?_
  have hxy:=hcb x (List.mem_of_getElem? hx) y
  rw [eqLB_at hx hy] at hi2
  refine y_ ?_
  refine j_ rfl (map_at hx) rfl ?_
  (refine b_ fun bx=>?_;refine y_ ?_)
  refine j_ rfl (map_at hy) rfl ?_
  (refine b_ fun bx=>?_;refine y_ ?_)
  refine n_ hxy ?_
  cases hp:p x y with
  |false=>
   rw [hp,Bool.false_and] at hi2
   rw [hi2]
   exact yr_
  |true=>
   rw [hp,Bool.true_and] at hi2
   refine y_ ?_
   refine A.valE 17 rfl (x':=AI ((i+1:Nat):Int)) (inc_eq i (by omega)) ?_
   refine A.less (Λ':=[]) (List.nil_sublist _) ?_
   refine u_ (ih (i+1) ⟨by omega,hi2⟩ (by omega))
 have hc': ¬i<a.length:=by simpa using hc
 have hil:i=a.length:=by omega
 have:eqLB p a b=true:=by rw [hi2,hil,List.drop_length,hl,List.drop_length];rfl
 rw [this]
 exact yr_
theorem eqfK_p{gs:Ua}(f:FuncId)(p:KE→KE→Bool)(a b:List KE)(hcb: ∀x,x∈a→ ∀y,Pure Tryz.prog gs f [.ag [AU8 x.kind,AU8 x.oper,AU8 x.to,AI32 x.n,AI x.v, .sl 6 (encKl x.l) none], .ag [AU8 y.kind,AU8 y.oper,AU8 y.to,AI32 y.n,AI y.v, .sl 6 (encKl y.l) none]] (AB (p x y)))(hb:a.length≤281474976710656):
 Pure Tryz.prog gs 85 [kesA a,kesA b, .fn f [] []] (AB (eqLB p a b)):=by
 by_cases hl:a.length=b.length
 case neg=>
  rw [eqLB_len hl]
  refine p_ tt_ok Tryz.func85 32 fun w0 h0 F hgs=>?_
  refine y_ ?_
  refine e_ 14 rfl (x':=AB true) (ab_eq (by rw [encKl_len,encKl_len];show (!((a.length:Int)==(b.length:Int)))=true;rw [beq_eq_false_iff_ne.2 (by omega)];rfl)) ?_;exact r_
 refine p_ tt_ok Tryz.func85 32 fun w0 h0 F hgs=>?_
 refine y_ ?_
 refine e_ 14 rfl (x':=AB false) (ab_eq (by rw [encKl_len,encKl_len];show (!((a.length:Int)==(b.length:Int)))=false;rw [beq_iff_eq.2 (by omega)];rfl)) ?_
 refine A.valE 16 rfl (x':=AI (a.length:Nat)) (ai_eq (by rw [encKl_len])) ?_
 refine A.keep [1,2,15,16,17] rfl ?_
 refine A.loopP (ι:=Nat) (fun i=>(⟨[(1,kesA b),(2, .fn f [] []),(15,kesA a),(16,AI (a.length:Nat)),(17,AI (i:Nat))],[]⟩,[])) (fun i=>i≤a.length∧eqLB p a b=eqLB p (a.drop i) (b.drop i)) (fun i=>a.length-i) 0 ⟨Nat.zero_le _,rfl⟩ rfl fun i hi ih=>?_
 obtain ⟨hi1,hi2⟩:=hi
 refine y_ ?_
 refine k_ (fun hc=>?_) fun hc=>?_
 ·have hc':i<a.length:=by simpa using hc
  refine Exists.elim (at_exN (l:=a) (i:=i) hc') fun x hx=>?_
  refine Exists.elim (at_exN (l:=b) (i:=i) (by omega)) fun y hy=>?_
  have hxy:=hcb x (List.mem_of_getElem? hx) y
  rw [eqLB_at hx hy] at hi2
  refine y_ ?_
  refine j_ rfl (encKl_at hx) (encK_eq x) ?_
  (refine b_ fun bx=>?_;refine y_ ?_)
  refine j_ rfl (encKl_at hy) (encK_eq y) ?_
  (refine b_ fun bx=>?_;refine y_ ?_)
  refine n_ hxy ?_
  cases hp:p x y with
  |false=>
   rw [hp,Bool.false_and] at hi2
   rw [hi2]
   exact yr_
  |true=>
   rw [hp,Bool.true_and] at hi2
   refine y_ ?_
   refine A.valE 17 rfl (x':=AI ((i+1:Nat):Int)) (inc_eq i (by omega)) ?_
   refine A.less (Λ':=[]) (List.nil_sublist _) ?_
   refine u_ (ih (i+1) ⟨by omega,hi2⟩ (by omega))
 have hc': ¬i<a.length:=by simpa using hc
 have hil:i=a.length:=by omega
 have:eqLB p a b=true:=by rw [hi2,hil,List.drop_length,hl,List.drop_length];rfl
 rw [this]
 exact yr_
theorem eqfG_p{gs:Ua}(f:FuncId)(p:GD→GD→Bool)(a b:List GD)(hcb: ∀x,x∈a→ ∀y,Pure Tryz.prog gs f [cellsG x,cellsG y] (AB (p x y)))(hb:a.length≤281474976710656):
 Pure Tryz.prog gs 87 [gsA a,gsA b, .fn f [] []] (AB (eqLB p a b)):=by
 by_cases hl:a.length=b.length
 case neg=>
  rw [eqLB_len hl]
  refine p_ tt_ok Tryz.func87 32 fun w0 h0 F hgs=>?_
  refine y_ ?_
  refine e_ 14 rfl (x':=AB true) (ab_eq (by rw [encGl_len,encGl_len];show (!((a.length:Int)==(b.length:Int)))=true;rw [beq_eq_false_iff_ne.2 (by omega)];rfl)) ?_;exact r_
 refine p_ tt_ok Tryz.func87 32 fun w0 h0 F hgs=>?_
 refine y_ ?_
 refine e_ 14 rfl (x':=AB false) (ab_eq (by rw [encGl_len,encGl_len];show (!((a.length:Int)==(b.length:Int)))=false;rw [beq_iff_eq.2 (by omega)];rfl)) ?_
 refine A.valE 16 rfl (x':=AI (a.length:Nat)) (ai_eq (by rw [encGl_len])) ?_
 refine A.keep [1,2,15,16,17] rfl ?_
 refine A.loopP (ι:=Nat) (fun i=>(⟨[(1,gsA b),(2, .fn f [] []),(15,gsA a),(16,AI (a.length:Nat)),(17,AI (i:Nat))],[]⟩,[])) (fun i=>i≤a.length∧eqLB p a b=eqLB p (a.drop i) (b.drop i)) (fun i=>a.length-i) 0 ⟨Nat.zero_le _,rfl⟩ rfl fun i hi ih=>?_
 obtain ⟨hi1,hi2⟩:=hi
 refine y_ ?_
 refine k_ (fun hc=>?_) fun hc=>?_
 ·have hc':i<a.length:=by simpa using hc
  refine Exists.elim (at_exN (l:=a) (i:=i) hc') fun x hx=>?_
  refine Exists.elim (at_exN (l:=b) (i:=i) (by omega)) fun y hy=>?_
  have hxy:=hcb x (List.mem_of_getElem? hx) y
  rw [eqLB_at hx hy] at hi2
  refine y_ ?_
  refine j_ rfl (encGl_at hx) (encG_eq x) ?_
  (refine b_ fun bx=>?_;refine y_ ?_)
  refine j_ rfl (encGl_at hy) (encG_eq y) ?_
  (refine b_ fun bx=>?_;refine y_ ?_)
  refine n_ hxy ?_
  cases hp:p x y with
  |false=>
   rw [hp,Bool.false_and] at hi2
   rw [hi2]
   exact yr_
  |true=>
   rw [hp,Bool.true_and] at hi2
   refine y_ ?_
   refine A.valE 17 rfl (x':=AI ((i+1:Nat):Int)) (inc_eq i (by omega)) ?_
   refine A.less (Λ':=[]) (List.nil_sublist _) ?_
   refine u_ (ih (i+1) ⟨by omega,hi2⟩ (by omega))
 have hc': ¬i<a.length:=by simpa using hc
 have hil:i=a.length:=by omega
 have:eqLB p a b=true:=by rw [hi2,hil,List.drop_length,hl,List.drop_length];rfl
 rw [this]
 exact yr_
theorem eqfR_p{gs:Ua}(f:FuncId)(p:PR→PR→Bool)(a b:List PR)(hcb: ∀x,x∈a→ ∀y,Pure Tryz.prog gs f [cellsR x,cellsR y] (AB (p x y)))(hb:a.length≤281474976710656):
 Pure Tryz.prog gs 89 [rsA a,rsA b, .fn f [] []] (AB (eqLB p a b)):=by
 by_cases hl:a.length=b.length
 case neg=>
  rw [eqLB_len hl]
  refine p_ tt_ok Tryz.func89 32 fun w0 h0 F hgs=>?_
  refine y_ ?_
  refine e_ 14 rfl (x':=AB true) (ab_eq (by rw [encRl_len,encRl_len];show (!((a.length:Int)==(b.length:Int)))=true;rw [beq_eq_false_iff_ne.2 (by omega)];rfl)) ?_;exact r_
 refine p_ tt_ok Tryz.func89 32 fun w0 h0 F hgs=>?_
 refine y_ ?_
 refine e_ 14 rfl (x':=AB false) (ab_eq (by rw [encRl_len,encRl_len];show (!((a.length:Int)==(b.length:Int)))=false;rw [beq_iff_eq.2 (by omega)];rfl)) ?_
 refine A.valE 16 rfl (x':=AI (a.length:Nat)) (ai_eq (by rw [encRl_len])) ?_
 refine A.keep [1,2,15,16,17] rfl ?_
 refine A.loopP (ι:=Nat) (fun i=>(⟨[(1,rsA b),(2, .fn f [] []),(15,rsA a),(16,AI (a.length:Nat)),(17,AI (i:Nat))],[]⟩,[])) (fun i=>i≤a.length∧eqLB p a b=eqLB p (a.drop i) (b.drop i)) (fun i=>a.length-i) 0 ⟨Nat.zero_le _,rfl⟩ rfl fun i hi ih=>?_
 obtain ⟨hi1,hi2⟩:=hi
 refine y_ ?_
 refine k_ (fun hc=>?_) fun hc=>?_
 ·have hc':i<a.length:=by simpa using hc
  refine Exists.elim (at_exN (l:=a) (i:=i) hc') fun x hx=>?_
  refine Exists.elim (at_exN (l:=b) (i:=i) (by omega)) fun y hy=>?_
  have hxy:=hcb x (List.mem_of_getElem? hx) y
  rw [eqLB_at hx hy] at hi2
  refine y_ ?_
  refine j_ rfl (encRl_at hx) (encR_eq x) ?_
  (refine b_ fun bx=>?_;refine y_ ?_)
  refine j_ rfl (encRl_at hy) (encR_eq y) ?_
  (refine b_ fun bx=>?_;refine y_ ?_)
  refine n_ hxy ?_
  cases hp:p x y with
  |false=>
   rw [hp,Bool.false_and] at hi2
   rw [hi2]
   exact yr_
  |true=>
   rw [hp,Bool.true_and] at hi2
   refine y_ ?_
   refine A.valE 17 rfl (x':=AI ((i+1:Nat):Int)) (inc_eq i (by omega)) ?_
   refine A.less (Λ':=[]) (List.nil_sublist _) ?_
   refine u_ (ih (i+1) ⟨by omega,hi2⟩ (by omega))
 have hc': ¬i<a.length:=by simpa using hc
 have hil:i=a.length:=by omega
 have:eqLB p a b=true:=by rw [hi2,hil,List.drop_length,hl,List.drop_length];rfl
 rw [this]
 exact yr_
theorem equal_n: ∀(m:Nat) (a b:KE),SizeOf.sizeOf a≤m→smK a→Pure Tryz.prog gs0 86 [encK a,encK b] (AB (eqK a b))
 |0,a,b,h,_=>by
  obtain ⟨k,o,t,n,v,l⟩:=a
  simp only [KE.mk.sizeOf_spec] at h;omega
 |m+1,a,b,h,hs=>by
  have hl:=smK_l hs
  have h1:Pure Tryz.prog gs0 85 [kesA a.l,kesA b.l, .fn 86 [] []] (AB (eqKl a.l b.l)):=by
   rw [eqKl_eq]
   refine eqfK_p _ eqK a.l b.l (fun x hx y=>?_) hl.1
   have hsz:SizeOf.sizeOf x≤m:=by
    obtain ⟨k,o,t,n,v,l⟩:=a
    have:=List.sizeOf_lt_of_mem hx
    simp only [KE.mk.sizeOf_spec,KE.l] at this h
    omega
   have:=equal_n m x y hsz (hl.2 x hx)
   rw [encK_eq,encK_eq] at this
   exact this
  rw [eqK_eq,encK_eq a,encK_eq b]
  generalize eqKl a.l b.l=r at h1⊢
  have h2:=h1;have h3:=h1;have h4:=h1
  refine p_ tt_ok Tryz.func86 45 fun w0 h0 F hgs=>?_
  (repeat' first|first|refine A.s rfl ?_|refine A.r rfl rfl ?_|refine A.w rfl rfl ?_|refine A.p rfl ?_|refine A.b rfl fun bx=>?_|refine A.t rfl fun bl=>?_|refine A.c rfl h1 .refl ?_|refine A.c rfl h2 .refl ?_|refine A.c rfl h3 .refl ?_|refine A.c rfl h4 .refl ?_|((fail_if_success (refine A.lit? rfl ?_));refine A.gS rfl (fun hc=>?_) (fun hc=>?_))|((fail_if_success (refine A.litP? rfl ?_));refine A.gSP rfl (fun hc=>?_) (fun hc=>?_)))
  all_goals (refine R_ ?_;refine Sb.eq (ab_eq ?_))
  all_goals simp_all
theorem equal_p(a b:KE)(hs:smK a):Pure Tryz.prog gs0 86 [encK a,encK b] (AB (eqK a b)):=equal_n _ a b (Nat.le_refl _) hs
theorem eqKs_p(a b:List KE)(hb:a.length≤281474976710656)(hs: ∀x,x∈a→smK x):Pure Tryz.prog gs0 85 [kesA a,kesA b, .fn 86 [] []] (AB (eqKl a b)):=by
 rw [eqKl_eq]
 refine eqfK_p _ eqK a b (fun x hx y=>?_) hb
 have:=equal_p x y (hs x hx)
 rw [encK_eq,encK_eq] at this
 exact this
theorem samePlace_p(a b:PL)(hs:smP a):Pure Tryz.prog gs0 84 [encPl a,encPl b] (AB (eqP a b)):=by
 have h1:=eqKs_p a.ix b.ix (smP_l hs) hs.2
 unfold eqP
 generalize eqKl a.ix b.ix=r at h1⊢
 have h2:=h1;have h3:=h1;have h4:=h1
 refine p_ tt_ok Tryz.func84 17 fun w0 h0 F hgs=>?_
 (repeat' first|first|refine A.s rfl ?_|refine A.r rfl rfl ?_|refine A.w rfl rfl ?_|refine A.p rfl ?_|refine A.b rfl fun bx=>?_|refine A.t rfl fun bl=>?_|refine A.c rfl h1 .refl ?_|refine A.c rfl h2 .refl ?_|refine A.c rfl h3 .refl ?_|refine A.c rfl h4 .refl ?_|((fail_if_success (refine A.lit? rfl ?_));refine A.gS rfl (fun hc=>?_) (fun hc=>?_))|((fail_if_success (refine A.litP? rfl ?_));refine A.gSP rfl (fun hc=>?_) (fun hc=>?_)))
 all_goals (refine R_ ?_;refine Sb.eq (ab_eq ?_))
 all_goals simp_all
theorem gd_lt{p x:PR}{g:GD}(hg:g∈p.gs)(h:x∈g.body):SizeOf.sizeOf x<SizeOf.sizeOf p:=by
 obtain ⟨k,c,v,i,to,e,gs,l⟩:=p
 have h1:=List.sizeOf_lt_of_mem hg
 obtain ⟨k,e,c,i,to,t,b⟩:=g
 have h2:=List.sizeOf_lt_of_mem h
 simp only [PR.mk.sizeOf_spec,GD.mk.sizeOf_spec,PR.gs,GD.body] at h1 h2⊢
 omega
theorem pr_lt{p x:PR}(h:x∈p.l):SizeOf.sizeOf x<SizeOf.sizeOf p:=by
 obtain ⟨k,c,v,i,to,e,gs,l⟩:=p
 have:=List.sizeOf_lt_of_mem h
 simp only [PR.mk.sizeOf_spec,PR.l] at this⊢
 omega
theorem sameGuard_a(a b:GD)(hs:SmG a)(h4:Pure Tryz.prog gs0 89 [rsA a.body,rsA b.body, .fn 41 [] []] (AB (eqRl a.body b.body))):
 Pure Tryz.prog gs0 88 [cellsG a,cellsG b] (AB (eqG a b)):=by
 have h1:=equal_p a.cond b.cond hs.cond
 have h2:=equal_p a.time b.time hs.time
 have h3:=samePlace_p a.to b.to hs.to
 rw [encK_eq,encK_eq] at h1 h2
 rw [eqG_eq]
 generalize eqK a.cond b.cond=r1 at h1⊢
 generalize eqK a.time b.time=r2 at h2⊢
 generalize eqP a.to b.to=r3 at h3⊢
 generalize eqRl a.body b.body=r4 at h4⊢
 refine p_ tt_ok Tryz.func88 52 fun w0 h0 F hgs=>?_
 (repeat' first|first|refine A.s rfl ?_|refine A.r rfl rfl ?_|refine A.w rfl rfl ?_|refine A.p rfl ?_|refine A.b rfl fun bx=>?_|refine A.t rfl fun bl=>?_|refine A.c rfl h1 .refl ?_|refine A.c rfl h2 .refl ?_|refine A.c rfl h3 .refl ?_|refine A.c rfl h4 .refl ?_|((fail_if_success (refine A.lit? rfl ?_));refine A.gS rfl (fun hc=>?_) (fun hc=>?_))|((fail_if_success (refine A.litP? rfl ?_));refine A.gSP rfl (fun hc=>?_) (fun hc=>?_)))
 all_goals (refine R_ ?_;refine Sb.eq (ab_eq ?_))
 all_goals simp_all
theorem same_a(a b:PR)(hs:SmR a)(h3:Pure Tryz.prog gs0 87 [gsA a.gs,gsA b.gs, .fn 88 [] []] (AB (eqGl a.gs b.gs)))
 (h4:Pure Tryz.prog gs0 89 [rsA a.l,rsA b.l, .fn 41 [] []] (AB (eqRl a.l b.l))):
 Pure Tryz.prog gs0 41 [cellsR a,cellsR b] (AB (eqR a b)):=by
 have h1:=eqfP_p (gs:=gs0) 84 eqP a.to b.to (fun x hx y=>samePlace_p x y (hs.to x hx)) hs.tol
 have h2:=eqKs_p a.e b.e hs.el hs.e
 rw [eqR_eq]
 generalize eqLB eqP a.to b.to=r1 at h1⊢
 generalize eqKl a.e b.e=r2 at h2⊢
 generalize eqGl a.gs b.gs=r3 at h3⊢
 generalize eqRl a.l b.l=r4 at h4⊢
 refine p_ tt_ok Tryz.func41 59 fun w0 h0 F hgs=>?_
 (repeat' first|first|refine A.s rfl ?_|refine A.r rfl rfl ?_|refine A.w rfl rfl ?_|refine A.p rfl ?_|refine A.b rfl fun bx=>?_|refine A.t rfl fun bl=>?_|refine A.c rfl h1 .refl ?_|refine A.c rfl h2 .refl ?_|refine A.c rfl h3 .refl ?_|refine A.c rfl h4 .refl ?_|((fail_if_success (refine A.lit? rfl ?_));refine A.gS rfl (fun hc=>?_) (fun hc=>?_))|((fail_if_success (refine A.litP? rfl ?_));refine A.gSP rfl (fun hc=>?_) (fun hc=>?_)))
 all_goals (refine R_ ?_;refine Sb.eq (ab_eq ?_))
 all_goals simp_all
theorem psame_n: ∀(m:Nat) (a b:PR),SizeOf.sizeOf a≤m→smR a→Pure Tryz.prog gs0 41 [cellsR a,cellsR b] (AB (eqR a b))
 |0,a,b,h,_=>by
  obtain ⟨k,c,v,i,to,e,gs,l⟩:=a
  simp only [PR.mk.sizeOf_spec] at h;omega
 |m+1,a,b,h,hs=>by
  have hS:=smR_all hs
  refine same_a a b hS ?_ ?_
  ·rw [eqGl_eq]
   refine eqfG_p _ eqG a.gs b.gs (fun x hx y=>?_) hS.gl
   have hG:=smG_all (hS.g x hx)
   refine sameGuard_a x y hG ?_
   rw [eqRl_eq]
   exact eqfR_p _ eqR x.body y.body (fun u hu w=>psame_n m u w (by have:=gd_lt hx hu;omega) (hG.body u hu)) hG.bl
  ·rw [eqRl_eq]
   exact eqfR_p _ eqR a.l b.l (fun u hu w=>psame_n m u w (by have:=pr_lt hu;omega) (hS.l u hu)) hS.ll
theorem psame_p(a b:PR)(hs:smR a):Pure Tryz.prog gs0 41 [cellsR a,cellsR b] (AB (eqR a b)):=psame_n _ a b (Nat.le_refl _) hs
theorem exprs_n: ∀(m:Nat) (a b:List KE),SizeOf.sizeOf a≤m→a.length≤281474976710656→(∀x,x∈a→smK x)→Pure Tryz.prog gs0 77 [kesA a,kesA b] (AB (eqKl a b))
 |0,a,b,h,_,_=>by
  cases a with
  |nil=>simp at h
  |cons x r=>simp at h
 |m+1,a,b,h,hb,hs=>by
  by_cases hl:a.length=b.length
  case neg=>
   rw [eqKl_eq,eqLB_len hl]
   refine p_ tt_ok Tryz.func77 94 fun w0 h0 F hgs=>?_
   refine y_ ?_
   refine e_ 10 rfl (x':=AB true) (ab_eq (by rw [encKl_len,encKl_len];show (!((a.length:Int)==(b.length:Int)))=true;rw [beq_eq_false_iff_ne.2 (by omega)];rfl)) ?_;exact r_
  have hrec: ∀x,x∈a→ ∀y:KE,Pure Tryz.prog gs0 77 [kesA x.l,kesA y.l] (AB (eqKl x.l y.l)):=fun x hx y=>by
   have h1:=List.sizeOf_lt_of_mem hx
   have h2:=smK_l (hs x hx)
   refine exprs_n m x.l y.l ?_ h2.1 h2.2
   obtain ⟨k,o,t,n,v,l⟩:=x
   simp only [KE.mk.sizeOf_spec,KE.l] at h1⊢
   omega
  refine Exists.elim (show∃R,R=eqKl a b from ⟨_,rfl⟩) fun R hR=>?_
  rw [←hR]
  refine p_ tt_ok Tryz.func77 94 fun w0 h0 F hgs=>?_
  refine y_ ?_
  refine e_ 10 rfl (x':=AB false) (ab_eq (by rw [encKl_len,encKl_len];show (!((a.length:Int)==(b.length:Int)))=false;rw [beq_iff_eq.2 (by omega)];rfl)) ?_
  refine A.keep [0,1,5] rfl ?_
  refine A.loopP (ι:=Nat) (fun i=>(⟨[(0,kesA a),(1,kesA b),(5,AI (i:Nat))],[]⟩,[])) (fun i=>i≤a.length∧R=eqLB eqK (a.drop i) (b.drop i)) (fun i=>a.length-i) 0 ⟨Nat.zero_le _,by rw [hR,eqKl_eq];rfl⟩ rfl fun i hi ih=>?_
  obtain ⟨hi1,hi2⟩:=hi
  refine y_ ?_
  refine k_ (fun hc=>?_) fun hc=>?_
  ·have hc':i<a.length:=by have:=hc;rw [encKl_len] at this;simpa using this
   clear hc
   refine Exists.elim (at_exN (l:=a) (i:=i) hc') fun x hx=>?_
   refine Exists.elim (at_exN (l:=b) (i:=i) (by omega)) fun y hy=>?_
   have h1:=hrec x (List.mem_of_getElem? hx) y
   rw [eqLB_at hx hy,eqK_eq] at hi2
   refine Exists.elim (show∃r,r=eqKl x.l y.l from ⟨_,rfl⟩) fun r hr=>?_
   rw [←hr] at h1 hi2
   clear hr hrec hR
   refine y_ ?_
   refine A.draw 74 [0,1,2,3,4,5,6,7,8,9,10,11,12,13,14,15,16,17,18,19,20,21,22,23,24,25,26,27,28,29,30,31,32,33,34,35,36,37,38,39,40,41,42,43,44,45,46,47,48,49,50,51,52,53,54,55,56,57,58,59,60,61,62,63,64,65,66,67,68,69,70,71,72,73] noPubs [] (by kernel_rfl) (by kernel_rfl) ?_
   (repeat' first|refine WA.s rfl ?_|refine WA.r rfl rfl ?_|refine WA.p rfl ?_|refine WA.x rfl (by show (0:Int)≤(i:Nat);omega) (encKl_at hx) (encK_eq x) rfl ?_|refine WA.x rfl (by show (0:Int)≤(i:Nat);omega) (encKl_at hy) (encK_eq y) rfl ?_|((fail_if_success (refine WA.lit? rfl ?_));refine WA.gS rfl (fun hc=>?_) (fun hc=>?_))|refine WA.nil (l:=[]) rfl ?_)
   all_goals (repeat' first|first|refine A.s rfl ?_|refine A.r rfl rfl ?_|refine A.w rfl rfl ?_|refine A.p rfl ?_|refine A.b rfl fun bx=>?_|refine A.t rfl fun bl=>?_|refine A.c rfl h1 .refl ?_|((fail_if_success (refine A.lit? rfl ?_));refine A.gS rfl (fun hc=>?_) (fun hc=>?_))|((fail_if_success (refine A.litP? rfl ?_));refine A.gSP rfl (fun hc=>?_) (fun hc=>?_)))
   all_goals first
    |(refine R_ ?_;refine Sb.eq (ab_eq ?_);rw [hi2];simp_all)
    |(refine A.valE 5 rfl (x':=AI ((i+1:Nat):Int)) (inc_eq i (by omega)) ?_
      refine u_ (ih (i+1) ⟨by omega,by rw [hi2];simp_all⟩ (by omega)))
  have hc': ¬i<a.length:=by have:=hc;rw [encKl_len] at this;simpa using this
  have hil:i=a.length:=by omega
  have:R=true:=by rw [hi2,hil,List.drop_length,hl,List.drop_length];rfl
  rw [this]
  exact yr_
theorem exprs_p(a b:List KE)(hb:a.length≤281474976710656)(hs: ∀x,x∈a→smK x):Pure Tryz.prog gs0 77 [kesA a,kesA b] (AB (eqKl a b)):=exprs_n _ a b (Nat.le_refl _) hb hs
theorem places_p(a b:List PL)(hb:a.length≤281474976710656)(hs: ∀x,x∈a→smP x):Pure Tryz.prog gs0 76 [plsA a,plsA b] (AB (eqLB eqP a b)):=by
 by_cases hl:a.length=b.length
 case neg=>
  rw [eqLB_len hl]
  refine p_ tt_ok Tryz.func76 42 fun w0 h0 F hgs=>?_
  refine y_ ?_
  refine e_ 10 rfl (x':=AB true) (ab_eq (by rw [List.length_map,List.length_map];show (!((a.length:Int)==(b.length:Int)))=true;rw [beq_eq_false_iff_ne.2 (by omega)];rfl)) ?_;exact r_
 refine Exists.elim (show∃R,R=eqLB eqP a b from ⟨_,rfl⟩) fun R hR=>?_
 rw [←hR]
 refine p_ tt_ok Tryz.func76 42 fun w0 h0 F hgs=>?_
 refine y_ ?_
 refine e_ 10 rfl (x':=AB false) (ab_eq (by rw [List.length_map,List.length_map];show (!((a.length:Int)==(b.length:Int)))=false;rw [beq_iff_eq.2 (by omega)];rfl)) ?_
 refine A.keep [0,1,5] rfl ?_
 refine A.loopP (ι:=Nat) (fun i=>(⟨[(0,plsA a),(1,plsA b),(5,AI (i:Nat))],[]⟩,[])) (fun i=>i≤a.length∧R=eqLB eqP (a.drop i) (b.drop i)) (fun i=>a.length-i) 0 ⟨Nat.zero_le _,hR⟩ rfl fun i hi ih=>?_
 obtain ⟨hi1,hi2⟩:=hi
 refine y_ ?_
 refine k_ (fun hc=>?_) fun hc=>?_
 ·have hc':i<a.length:=by have:=hc;rw [List.length_map] at this;simpa using this
  clear hc
  refine Exists.elim (at_exN (l:=a) (i:=i) hc') fun x hx=>?_
  refine Exists.elim (at_exN (l:=b) (i:=i) (by omega)) fun y hy=>?_
  have hsx:=hs x (List.mem_of_getElem? hx)
  have h1:=exprs_p x.ix y.ix (smP_l hsx) hsx.2
  rw [eqLB_at hx hy,eqP] at hi2
  refine Exists.elim (show∃r,r=eqKl x.ix y.ix from ⟨_,rfl⟩) fun r hr=>?_
  rw [←hr] at h1 hi2
  clear hr hR
  refine y_ ?_
  refine A.draw 22 [0,1,2,3,4,5,6,7,8,9,10,11,12,13,14,15,16,17,18,19,20,21] noPubs [] (by kernel_rfl) (by kernel_rfl) ?_
  (repeat' first|refine WA.s rfl ?_|refine WA.r rfl rfl ?_|refine WA.p rfl ?_|refine WA.x rfl (by show (0:Int)≤(i:Nat);omega) (map_at hx) rfl rfl ?_|refine WA.x rfl (by show (0:Int)≤(i:Nat);omega) (map_at hy) rfl rfl ?_|((fail_if_success (refine WA.lit? rfl ?_));refine WA.gS rfl (fun hc=>?_) (fun hc=>?_))|refine WA.nil (l:=[]) rfl ?_)
  all_goals (repeat' first|first|refine A.s rfl ?_|refine A.r rfl rfl ?_|refine A.w rfl rfl ?_|refine A.p rfl ?_|refine A.b rfl fun bx=>?_|refine A.t rfl fun bl=>?_|refine A.c rfl h1 .refl ?_|((fail_if_success (refine A.lit? rfl ?_));refine A.gS rfl (fun hc=>?_) (fun hc=>?_))|((fail_if_success (refine A.litP? rfl ?_));refine A.gSP rfl (fun hc=>?_) (fun hc=>?_)))
  all_goals first
   |(refine R_ ?_;refine Sb.eq (ab_eq ?_);rw [hi2];simp_all)
   |(refine A.valE 5 rfl (x':=AI ((i+1:Nat):Int)) (inc_eq i (by omega)) ?_
     refine u_ (ih (i+1) ⟨by omega,by rw [hi2];simp_all⟩ (by omega)))
 have hc': ¬i<a.length:=by have:=hc;rw [List.length_map] at this;simpa using this
 have hil:i=a.length:=by omega
 have:R=true:=by rw [hi2,hil,List.drop_length,hl,List.drop_length];rfl
 rw [this]
 exact yr_
theorem eqG_eq2(x y:GD):eqG x y=((x.kind==y.kind)&&((x.c==y.c)&&((x.item==y.item)&&(eqKl [x.cond,x.time] [y.cond,y.time]&&(eqLB eqP [x.to] [y.to]&&eqRl x.body y.body))))):=by
 rw [eqG_eq,eqKl,eqKl,eqKl,eqLB,eqLB,Bool.and_true,Bool.and_true]
 simp only [Bool.and_assoc]
theorem two_kes(a b:KE):kesA [a,b]= .sl 6 [.ag [AU8 a.kind,AU8 a.oper,AU8 a.to,AI32 a.n,AI a.v, .sl 6 (encKl a.l) none], .ag [AU8 b.kind,AU8 b.oper,AU8 b.to,AI32 b.n,AI b.v, .sl 6 (encKl b.l) none]] none:=by
 show AV.sl 6 (encKl _) none=_
 rw [encKl,encKl,encKl,encK_eq,encK_eq]
theorem guards_a(a b:List GD)(hb:a.length≤281474976710656)(hs: ∀x,x∈a→smG x)(hrec: ∀x,x∈a→ ∀y:GD,Pure Tryz.prog gs0 38 [rsA x.body,rsA y.body] (AB (eqRl x.body y.body))):Pure Tryz.prog gs0 78 [gsA a,gsA b] (AB (eqGl a b)):=by
 by_cases hl:a.length=b.length
 case neg=>
  rw [eqGl_eq,eqLB_len hl]
  refine p_ tt_ok Tryz.func78 117 fun w0 h0 F hgs=>?_
  refine y_ ?_
  refine e_ 13 rfl (x':=AB true) (ab_eq (by rw [encGl_len,encGl_len];show (!((a.length:Int)==(b.length:Int)))=true;rw [beq_eq_false_iff_ne.2 (by omega)];rfl)) ?_;exact r_
 refine Exists.elim (show∃R,R=eqGl a b from ⟨_,rfl⟩) fun R hR=>?_
 rw [←hR]
 refine p_ tt_ok Tryz.func78 117 fun w0 h0 F hgs=>?_
 refine y_ ?_
 refine e_ 13 rfl (x':=AB false) (ab_eq (by rw [encGl_len,encGl_len];show (!((a.length:Int)==(b.length:Int)))=false;rw [beq_iff_eq.2 (by omega)];rfl)) ?_
 refine A.keep [0,1,5] rfl ?_
 refine A.loopP (ι:=Nat) (fun i=>(⟨[(0,gsA a),(1,gsA b),(5,AI (i:Nat))],[]⟩,[])) (fun i=>i≤a.length∧R=eqLB eqG (a.drop i) (b.drop i)) (fun i=>a.length-i) 0 ⟨Nat.zero_le _,by rw [hR,eqGl_eq];rfl⟩ rfl fun i hi ih=>?_
 obtain ⟨hi1,hi2⟩:=hi
 refine y_ ?_
 refine k_ (fun hc=>?_) fun hc=>?_
 ·have hc':i<a.length:=by have:=hc;rw [encGl_len] at this;simpa using this
  clear hc
  refine Exists.elim (at_exN (l:=a) (i:=i) hc') fun x hx=>?_
  refine Exists.elim (at_exN (l:=b) (i:=i) (by omega)) fun y hy=>?_
  have hS:=smG_all (hs x (List.mem_of_getElem? hx))
  have h3:=hrec x (List.mem_of_getElem? hx) y
  have h1:=exprs_p [x.cond,x.time] [y.cond,y.time] (by simp) (fun z hz=>by
   rcases List.mem_cons.1 hz with rfl|hz
   ·exact hS.cond
   ·rw [List.mem_singleton] at hz;subst hz;exact hS.time)
  have h2:=places_p [x.to] [y.to] (by simp) (fun z hz=>by rw [List.mem_singleton] at hz;subst hz;exact hS.to)
  rw [eqLB_at hx hy,eqG_eq2] at hi2
  rw [two_kes,two_kes] at h1
  refine Exists.elim (show∃r,r=eqKl [x.cond,x.time] [y.cond,y.time] from ⟨_,rfl⟩) fun r1 hr=>?_
  rw [←hr] at h1 hi2
  clear hr
  refine Exists.elim (show∃r,r=eqLB eqP [x.to] [y.to] from ⟨_,rfl⟩) fun r2 hr=>?_
  rw [←hr] at h2 hi2
  clear hr
  refine Exists.elim (show∃r,r=eqRl x.body y.body from ⟨_,rfl⟩) fun r3 hr=>?_
  rw [←hr] at h3 hi2
  clear hr hrec hR hS
  refine Exists.elim (show∃one,one=((x.kind==y.kind)&&((x.c==y.c)&&(x.item==y.item))) from ⟨_,rfl⟩) fun one hone=>?_
  have hi2:R=((one&&(r1&&(r2&&r3)))&&eqLB eqG (a.drop (i+1)) (b.drop (i+1))):=by rw [hi2,hone];simp only [Bool.and_assoc]
  refine y_ ?_
  refine A.draw 35 [0,1,2,3,4,5,6,7,8,9,10,11,12,13,14,15,16,17,18,19,20,21,22,23,24,25,26,27,28,29,30,31,32,33,34] noPubs [] (by kernel_rfl) (by kernel_rfl) ?_
  (repeat' first|refine WA.s rfl ?_|refine WA.r rfl rfl ?_|refine WA.p rfl ?_|refine WA.x rfl (by show (0:Int)≤(i:Nat);omega) (encGl_at hx) (encG_eq x) rfl ?_|refine WA.x rfl (by show (0:Int)≤(i:Nat);omega) (encGl_at hy) (encG_eq y) rfl ?_|((fail_if_success (refine WA.lit? rfl ?_));refine WA.gS rfl (fun hc=>?_) (fun hc=>?_))|refine WA.nil (l:=[]) rfl ?_)
  all_goals (refine y_ ?_;refine A.valE 6 rfl (x':=AB one) (ab_eq (by rw [hone];simp_all)) ?_)
  all_goals (refine A.draw 10 [0,1,2,3,4,5,6,7,8,9] noPubs [] (by kernel_rfl) (by kernel_rfl) ?_)
  all_goals (repeat' first|refine WA.s rfl ?_|refine WA.r rfl rfl ?_|refine WA.p rfl ?_|refine WA.x rfl (by show (0:Int)≤(i:Nat);omega) (encGl_at hx) (encG_eq x) rfl ?_|refine WA.x rfl (by show (0:Int)≤(i:Nat);omega) (encGl_at hy) (encG_eq y) rfl ?_|refine WA.nil (l:=[]) rfl ?_)
  all_goals (refine t_ fun bl=>?_;refine y_ ?_)
  all_goals (refine A.draw 10 [0,1,2,3,4,5,6,7,8,9] noPubs [] (by kernel_rfl) (by kernel_rfl) ?_)
  all_goals (repeat' first|refine WA.s rfl ?_|refine WA.r rfl rfl ?_|refine WA.p rfl ?_|refine WA.x rfl (by show (0:Int)≤(i:Nat);omega) (encGl_at hx) (encG_eq x) rfl ?_|refine WA.x rfl (by show (0:Int)≤(i:Nat);omega) (encGl_at hy) (encG_eq y) rfl ?_|refine WA.nil (l:=[]) rfl ?_)
  all_goals (refine t_ fun bl=>?_;refine y_ ?_)
  all_goals (refine A.val 7 rfl .own1 ?_;refine A.val 8 rfl .own1 ?_)
  all_goals (refine A.keep [0,1,5,6,7,8] rfl ?_)
  all_goals clear hone
  all_goals (cases one with
   |false=>
    refine A.draw 35 [0,1,2,3,4,5,6,7,8,9,10,11,12,13,14,15,16,17,18,19,20,21,22,23,24,25,26,27,28,29,30,31,32,33,34] (fun i=>if i=21 then [14,20] else []) [(5,AB r1),(21,AB r2)] (by kernel_rfl) (by kernel_rfl) ?_
    (repeat' refine WA.s rfl ?_)
    refine z_ ?_;refine R_ ?_;refine Sb.eq (ab_eq ?_);rw [hi2];rfl
   |true=>
    refine A.draw 35 [0,1,2,3,4,5,6,7,8,9,10,11,12,13,14,15,16,17,18,19,20,21,22,23,24,25,26,27,28,29,30,31,32,33,34] (fun i=>if i=21 then [14,20] else []) [(5,AB r1),(21,AB r2)] (by kernel_rfl) (by kernel_rfl) ?_
    (repeat' refine WA.s rfl ?_)
    refine WA.c rfl rfl h1 (.sub .refl) ?_
    (repeat' refine WA.s rfl ?_)
    cases r1 with
    |false=>
     (repeat' refine WA.s rfl ?_)
     refine z_ ?_;refine R_ ?_;refine Sb.eq (ab_eq ?_);rw [hi2];rfl
    |true=>
     (repeat' first|refine WA.s rfl ?_|refine WA.r rfl rfl ?_|refine WA.p rfl ?_|refine WA.x rfl (by show (0:Int)≤(i:Nat);omega) (encGl_at hx) (encG_eq x) rfl ?_|refine WA.x rfl (by show (0:Int)≤(i:Nat);omega) (encGl_at hy) (encG_eq y) rfl ?_)
     refine WA.lit rfl rfl rfl rfl rfl rfl rfl fun bw=>?_
     (repeat' first|refine WA.s rfl ?_|refine WA.r rfl rfl ?_|refine WA.p rfl ?_|refine WA.x rfl (by show (0:Int)≤(i:Nat);omega) (encGl_at hx) (encG_eq x) rfl ?_|refine WA.x rfl (by show (0:Int)≤(i:Nat);omega) (encGl_at hy) (encG_eq y) rfl ?_)
     refine WA.lit rfl rfl rfl rfl rfl rfl rfl fun bw=>?_
     refine WA.c rfl rfl h2 (.cons (.pub (j:=14) rfl rfl (.sub .refl)) (.cons (.pub (j:=20) rfl rfl (.sub .refl)) (.sub .refl))) ?_
     (repeat' refine WA.s rfl ?_)
     cases r2 with
     |false=>
      (repeat' refine WA.s rfl ?_)
      refine z_ ?_;refine R_ ?_;refine Sb.eq (ab_eq ?_);rw [hi2];rfl
     |true=>
      (repeat' first|refine WA.s rfl ?_|refine WA.r rfl rfl ?_|refine WA.p rfl ?_|refine WA.x rfl (by show (0:Int)≤(i:Nat);omega) (encGl_at hx) (encG_eq x) rfl ?_|refine WA.x rfl (by show (0:Int)≤(i:Nat);omega) (encGl_at hy) (encG_eq y) rfl ?_)
      refine WA.nil (l:=[]) rfl ?_
      refine n_ h3 ?_
      cases r3 with
      |false=>refine y_ ?_;refine R_ ?_;refine Sb.eq (ab_eq ?_);rw [hi2];rfl
      |true=>
       refine y_ ?_
       refine A.valE 5 rfl (x':=AI ((i+1:Nat):Int)) (inc_eq i (by omega)) ?_
       refine u_ (ih (i+1) ⟨by omega,by rw [hi2];rfl⟩ (by omega)))
 have hc': ¬i<a.length:=by have:=hc;rw [encGl_len] at this;simpa using this
 have hil:i=a.length:=by omega
 have:R=true:=by rw [hi2,hil,List.drop_length,hl,List.drop_length];rfl
 rw [this]
 exact yr_
theorem procs_a(a b:List PR)(hb:a.length≤281474976710656)(hs: ∀x,x∈a→smR x)(hg: ∀x,x∈a→ ∀y:PR,Pure Tryz.prog gs0 78 [gsA x.gs,gsA y.gs] (AB (eqGl x.gs y.gs)))(hrec: ∀x,x∈a→ ∀y:PR,Pure Tryz.prog gs0 38 [rsA x.l,rsA y.l] (AB (eqRl x.l y.l))):
 Pure Tryz.prog gs0 38 [rsA a,rsA b] (AB (eqRl a b)):=by
 by_cases hl:a.length=b.length
 case neg=>
  rw [eqRl_eq,eqLB_len hl]
  refine p_ tt_ok Tryz.func38 126 fun w0 h0 F hgs=>?_
  refine y_ ?_
  refine e_ 11 rfl (x':=AB true) (ab_eq (by rw [encRl_len,encRl_len];show (!((a.length:Int)==(b.length:Int)))=true;rw [beq_eq_false_iff_ne.2 (by omega)];rfl)) ?_;exact r_
 refine Exists.elim (show∃R,R=eqRl a b from ⟨_,rfl⟩) fun R hR=>?_
 rw [←hR]
 refine p_ tt_ok Tryz.func38 126 fun w0 h0 F hgs=>?_
 refine y_ ?_
 refine e_ 11 rfl (x':=AB false) (ab_eq (by rw [encRl_len,encRl_len];show (!((a.length:Int)==(b.length:Int)))=false;rw [beq_iff_eq.2 (by omega)];rfl)) ?_
 refine A.keep [0,1,5] rfl ?_
 refine A.loopP (ι:=Nat) (fun i=>(⟨[(0,rsA a),(1,rsA b),(5,AI (i:Nat))],[]⟩,[])) (fun i=>i≤a.length∧R=eqLB eqR (a.drop i) (b.drop i)) (fun i=>a.length-i) 0 ⟨Nat.zero_le _,by rw [hR,eqRl_eq];rfl⟩ rfl fun i hi ih=>?_
 obtain ⟨hi1,hi2⟩:=hi
 refine y_ ?_
 refine k_ (fun hc=>?_) fun hc=>?_
 ·have hc':i<a.length:=by have:=hc;rw [encRl_len] at this;simpa using this
  clear hc
  refine Exists.elim (at_exN (l:=a) (i:=i) hc') fun x hx=>?_
  refine Exists.elim (at_exN (l:=b) (i:=i) (by omega)) fun y hy=>?_
  have hS:=smR_all (hs x (List.mem_of_getElem? hx))
  have h1:=places_p x.to y.to hS.tol hS.to
  have h2:=exprs_p x.e y.e hS.el hS.e
  have h3:=hg x (List.mem_of_getElem? hx) y
  have h4:=hrec x (List.mem_of_getElem? hx) y
  rw [eqLB_at hx hy,eqR_eq] at hi2
  refine Exists.elim (show∃r,r=eqLB eqP x.to y.to from ⟨_,rfl⟩) fun r1 hr=>?_
  rw [←hr] at h1 hi2
  clear hr
  refine Exists.elim (show∃r,r=eqKl x.e y.e from ⟨_,rfl⟩) fun r2 hr=>?_
  rw [←hr] at h2 hi2
  clear hr
  refine Exists.elim (show∃r,r=eqGl x.gs y.gs from ⟨_,rfl⟩) fun r3 hr=>?_
  rw [←hr] at h3 hi2
  clear hr
  refine Exists.elim (show∃r,r=eqRl x.l y.l from ⟨_,rfl⟩) fun r4 hr=>?_
  rw [←hr] at h4 hi2
  clear hr hrec hg hR hS
  refine Exists.elim (show∃one,one=((x.kind==y.kind)&&((x.c==y.c)&&((x.v==y.v)&&(x.item==y.item)))) from ⟨_,rfl⟩) fun one hone=>?_
  have hi2:R=((one&&(r1&&(r2&&(r3&&r4))))&&eqLB eqR (a.drop (i+1)) (b.drop (i+1))):=by rw [hi2,hone];simp only [Bool.and_assoc]
  refine y_ ?_
  refine A.draw 48 [0,1,2,3,4,5,6,7,8,9,10,11,12,13,14,15,16,17,18,19,20,21,22,23,24,25,26,27,28,29,30,31,32,33,34,35,36,37,38,39,40,41,42,43,44,45,46,47] noPubs [] (by kernel_rfl) (by kernel_rfl) ?_
  (repeat' first|refine WA.s rfl ?_|refine WA.r rfl rfl ?_|refine WA.p rfl ?_|refine WA.x rfl (by show (0:Int)≤(i:Nat);omega) (encRl_at hx) (encR_eq x) rfl ?_|refine WA.x rfl (by show (0:Int)≤(i:Nat);omega) (encRl_at hy) (encR_eq y) rfl ?_|((fail_if_success (refine WA.lit? rfl ?_));refine WA.gS rfl (fun hc=>?_) (fun hc=>?_))|refine WA.nil (l:=[]) rfl ?_)
  all_goals (refine y_ ?_;(repeat' first|((fail_if_success (refine A.lit? rfl ?_));refine A.gS rfl (fun hc=>?_) (fun hc=>?_))|first|refine A.s rfl ?_|refine A.r rfl rfl ?_|refine A.w rfl rfl ?_|refine A.p rfl ?_|refine A.b rfl fun bx=>?_|refine A.t rfl fun bl=>?_|((fail_if_success (refine A.litP? rfl ?_));refine A.gSP rfl (fun hc=>?_) (fun hc=>?_)));refine A.valE 6 rfl (x':=AB one) (ab_eq (by rw [hone];simp_all)) ?_)
  all_goals (refine A.keep [0,1,5,6] rfl ?_)
  all_goals clear hone
  all_goals (cases one with
   |false=>
    refine A.draw 55 [0,1,2,3,4,5,6,7,8,9,10,11,12,13,14,15,16,17,18,19,20,21,22,23,24,25,26,27,28,29,30,31,32,33,34,35,36,37,38,39,40,41,42,43,44,45,46,47,48,49,50,51,52,53,54] noPubs [(13,AB r1),(27,AB r2),(41,AB r3)] (by kernel_rfl) (by kernel_rfl) ?_
    (repeat' refine WA.s rfl ?_);refine z_ ?_;refine R_ ?_;refine Sb.eq (ab_eq ?_);rw [hi2];rfl
   |true=>
    refine A.draw 55 [0,1,2,3,4,5,6,7,8,9,10,11,12,13,14,15,16,17,18,19,20,21,22,23,24,25,26,27,28,29,30,31,32,33,34,35,36,37,38,39,40,41,42,43,44,45,46,47,48,49,50,51,52,53,54] noPubs [(13,AB r1),(27,AB r2),(41,AB r3)] (by kernel_rfl) (by kernel_rfl) ?_
    (repeat' first|refine WA.s rfl ?_|refine WA.r rfl rfl ?_|refine WA.p rfl ?_|refine WA.x rfl (by show (0:Int)≤(i:Nat);omega) (encRl_at hx) (encR_eq x) rfl ?_|refine WA.x rfl (by show (0:Int)≤(i:Nat);omega) (encRl_at hy) (encR_eq y) rfl ?_)
    refine WA.c rfl rfl h1 (.sub .refl) ?_
    (repeat' refine WA.s rfl ?_)
    cases r1 with
    |false=>(repeat' refine WA.s rfl ?_);refine z_ ?_;refine R_ ?_;refine Sb.eq (ab_eq ?_);rw [hi2];rfl
    |true=>
    (repeat' first|refine WA.s rfl ?_|refine WA.r rfl rfl ?_|refine WA.p rfl ?_|refine WA.x rfl (by show (0:Int)≤(i:Nat);omega) (encRl_at hx) (encR_eq x) rfl ?_|refine WA.x rfl (by show (0:Int)≤(i:Nat);omega) (encRl_at hy) (encR_eq y) rfl ?_)
    refine WA.c rfl rfl h2 (.sub .refl) ?_
    (repeat' refine WA.s rfl ?_)
    cases r2 with
    |false=>(repeat' refine WA.s rfl ?_);refine z_ ?_;refine R_ ?_;refine Sb.eq (ab_eq ?_);rw [hi2];rfl
    |true=>
    (repeat' first|refine WA.s rfl ?_|refine WA.r rfl rfl ?_|refine WA.p rfl ?_|refine WA.x rfl (by show (0:Int)≤(i:Nat);omega) (encRl_at hx) (encR_eq x) rfl ?_|refine WA.x rfl (by show (0:Int)≤(i:Nat);omega) (encRl_at hy) (encR_eq y) rfl ?_)
    refine WA.c rfl rfl h3 (.sub .refl) ?_
    (repeat' refine WA.s rfl ?_)
    cases r3 with
    |false=>(repeat' refine WA.s rfl ?_);refine z_ ?_;refine R_ ?_;refine Sb.eq (ab_eq ?_);rw [hi2];rfl
    |true=>
    (repeat' first|refine WA.s rfl ?_|refine WA.r rfl rfl ?_|refine WA.p rfl ?_|refine WA.x rfl (by show (0:Int)≤(i:Nat);omega) (encRl_at hx) (encR_eq x) rfl ?_|refine WA.x rfl (by show (0:Int)≤(i:Nat);omega) (encRl_at hy) (encR_eq y) rfl ?_)
    refine WA.nil (l:=[]) rfl ?_
    refine n_ h4 ?_
    cases r4 with
    |false=>refine y_ ?_;refine R_ ?_;refine Sb.eq (ab_eq ?_);rw [hi2];rfl
    |true=>
     refine y_ ?_
     refine A.valE 5 rfl (x':=AI ((i+1:Nat):Int)) (inc_eq i (by omega)) ?_
     refine u_ (ih (i+1) ⟨by omega,by rw [hi2];rfl⟩ (by omega)))
 have hc': ¬i<a.length:=by have:=hc;rw [encRl_len] at this;simpa using this
 have hil:i=a.length:=by omega
 have:R=true:=by rw [hi2,hil,List.drop_length,hl,List.drop_length];rfl
 rw [this]
 exact yr_
theorem procs_n: ∀(m:Nat),(∀a b:List PR,SizeOf.sizeOf a≤m→a.length≤281474976710656→(∀x,x∈a→smR x)→Pure Tryz.prog gs0 38 [rsA a,rsA b] (AB (eqRl a b)))∧
 (∀a b:List GD,SizeOf.sizeOf a≤m→a.length≤281474976710656→(∀x,x∈a→smG x)→Pure Tryz.prog gs0 78 [gsA a,gsA b] (AB (eqGl a b)))
 |0=>⟨fun a b h _ _=>by cases a<;>simp at h,fun a b h _ _=>by cases a<;>simp at h⟩
 |m+1=>by
  obtain ⟨i1,i2⟩:=procs_n m
  refine ⟨fun a b h hb hs=>procs_a a b hb hs (fun x hx y=>?_) (fun x hx y=>?_),fun a b h hb hs=>guards_a a b hb hs fun x hx y=>?_⟩
  ·have h1:=List.sizeOf_lt_of_mem hx
   have hS:=smR_all (hs x hx)
   refine i2 x.gs y.gs ?_ hS.gl hS.g
   obtain ⟨k,c,v,i,to,e,gs,l⟩:=x
   simp only [PR.mk.sizeOf_spec,PR.gs] at h1⊢
   omega
  ·have h1:=List.sizeOf_lt_of_mem hx
   have hS:=smR_all (hs x hx)
   refine i1 x.l y.l ?_ hS.ll hS.l
   obtain ⟨k,c,v,i,to,e,gs,l⟩:=x
   simp only [PR.mk.sizeOf_spec,PR.l] at h1⊢
   omega
  ·have h1:=List.sizeOf_lt_of_mem hx
   have hS:=smG_all (hs x hx)
   refine i1 x.body y.body ?_ hS.bl hS.body
   obtain ⟨k,e,c,i,to,t,bd⟩:=x
   simp only [GD.mk.sizeOf_spec,GD.body] at h1⊢
   omega
theorem procs_p(a b:List PR)(hb:a.length≤281474976710656)(hs: ∀x,x∈a→smR x):Pure Tryz.prog gs0 38 [rsA a,rsA b] (AB (eqRl a b)):=(procs_n _).1 a b (Nat.le_refl _) hb hs
theorem encKl_cells(l:List KE):encKl l=l.map cellsK:=by rw [encKl_map];exact List.map_congr_left fun x _=>encK_eq x
theorem encRl_cells(l:List PR):encRl l=l.map cellsR:=by rw [encRl_map];exact List.map_congr_left fun x _=>encR_eq x
theorem encGl_cells(l:List GD):encGl l=l.map cellsG:=by rw [encGl_map];exact List.map_congr_left fun x _=>encG_eq x
def rowE{α:Type}(enc:α→AV)(Z:AV)(l:List α)(i:Nat):List AV:=(l.take i).map enc++List.replicate (l.length-i) Z
theorem rowE_len{α:Type}{enc:α→AV}{Z:AV}{l:List α}{i:Nat}(h:i≤l.length):(rowE enc Z l i).length=l.length:=by
 rw [rowE,List.length_append,List.length_map,List.length_take,List.length_replicate];omega
theorem rowE_set{α:Type}{enc:α→AV}{Z:AV}{l:List α}{i:Nat}{x:α}(hx:l[i]? =some x):(rowE enc Z l i).set i (enc x)=rowE enc Z l (i+1):=by
 have hi:i<l.length:=by
  rcases Nat.lt_or_ge i l.length with h|h
  ·exact h
  ·rw [List.getElem?_eq_none h] at hx;cases hx
 unfold rowE
 rw [List.take_add_one,hx,List.set_append_right _ _ (by rw [List.length_map,List.length_take];omega),List.length_map,List.length_take,show i-min i l.length=0 by omega,show l.length-i=(l.length-(i+1))+1 by omega,List.replicate_succ,List.set_cons_zero]
 simp
theorem rowE_full{α:Type}{enc:α→AV}{Z:AV}{l:List α}:rowE enc Z l l.length=l.map enc:=by
 rw [rowE,List.take_length,Nat.sub_self];simp
theorem eachKExpr_p{gs:Ua}(f:FuncId)(l:List KE)(hcb: ∀x,x∈l→Pure Tryz.prog gs f [cellsK x] (cellsK x))(hb:l.length*40≤140737488355328):Pure Tryz.prog gs 63 [kesA l, .fn f [] []] (kesA l):=by
 have hsl:kesA l= .sl 6 (l.map cellsK) none:=by show AV.sl 6 _ none=_;rw [encKl_cells]
 rw [hsl]
 by_cases h0:l=[]
 ·subst h0
  refine p_ tt_ok Tryz.func63 29 fun w0 h0 F hgs=>?_
  refine y_ ?_;refine R_ ?_;exact .nil
 have hlp:0<l.length:=List.length_pos_iff.2 h0
 refine p_ tt_ok Tryz.func63 29 fun w0 h0 F hgs=>?_
 refine y_ ?_
 refine e_ 10 rfl (x':=AB false) (ab_eq (by rw [List.length_map];show ((l.length:Int)==0)=false;rw [beq_eq_false_iff_ne];omega)) ?_
 refine A.valE 12 rfl (x':=AI (l.length:Nat)) (ai_eq (by rw [List.length_map])) ?_
 refine A.makeV rfl rfl rfl rfl rfl rfl rfl rfl rfl rfl rfl rfl (by omega) (by show (40:Int)*_≤_;omega) (by omega) fun a cp hcp=>?_
 refine y_ ?_
 refine A.valE 15 rfl (x':=AI (l.length:Nat)) (ai_eq (by rw [List.length_map])) ?_
 refine A.keep [1,5,14,15,16] rfl ?_
 refine A.entsEq (Λ':=[.row 6 (.slice a l.length cp) (rowE cellsK (.ag [AU8 0,AU8 0,AU8 0,AI32 0,AI 0, .v (.slice none 0 0)]) l 0)]) (by rw [rowE];rfl) ?_
 refine A.loopP (ι:=Nat) (fun i=>(⟨[(1, .fn f [] []),(5, .ms (.slice a l.length cp) 6 l.length),(14, .sl 6 (l.map cellsK) none),(15,AI (l.length:Nat)),(16,AI (i:Nat))],[]⟩,[.row 6 (.slice a l.length cp) (rowE cellsK (.ag [AU8 0,AU8 0,AU8 0,AI32 0,AI 0, .v (.slice none 0 0)]) l i)])) (fun i=>i≤l.length) (fun i=>l.length-i) 0 (Nat.zero_le _) rfl fun i hi ih=>?_
 refine y_ ?_
 refine k_ (fun hc=>?_) fun hc=>?_
 ·have hc':i<l.length:=by simpa using hc
  refine Exists.elim (at_exN (l:=l) (i:=i) hc') fun x hx=>?_
  have hx1:=hcb x (List.mem_of_getElem? hx)
  refine y_ ?_
  refine j_ rfl (map_at hx) rfl ?_
  (refine b_ fun bx=>?_;refine y_ ?_)
  refine n_ hx1 ?_
  refine A.indexRow rfl rfl rfl rfl rfl rfl rfl rfl (by show (0:Int)≤(i:Nat);omega) (by rw [rowE_len hi];omega) rfl ?_
  refine A.storeRow rfl rfl rfl rfl rfl rfl rfl rfl rfl (by show i<(rowE cellsK (.ag [AU8 0,AU8 0,AU8 0,AI32 0,AI 0, .v (.slice none 0 0)]) l i).length;rw [rowE_len hi];omega) (xs':=rowE cellsK (.ag [AU8 0,AU8 0,AU8 0,AI32 0,AI 0, .v (.slice none 0 0)]) l (i+1)) (rowE_set (i:=i) hx) ?_
  refine y_ ?_
  refine A.valE 16 rfl (x':=AI ((i+1:Nat):Int)) (inc_eq i (by omega)) ?_
  refine l_ (Λ':=[.row 6 (.slice a l.length cp) (rowE cellsK (.ag [AU8 0,AU8 0,AU8 0,AI32 0,AI 0, .v (.slice none 0 0)]) l (i+1))]) ?_
  refine u_ (ih (i+1) (by omega) (by omega))
 have hc': ¬i<l.length:=by simpa using hc
 have hil:i=l.length:=by omega
 refine A.entsEq (Λ':=[.row 6 (.slice a l.length cp) (l.map cellsK)]) (by rw [hil,rowE_full]) ?_
 refine A.freezeRow 5 rfl ?_
 exact yr_
theorem eachKPlace_p{gs:Ua}(f:FuncId)(l:List PL)(hcb: ∀x,x∈l→Pure Tryz.prog gs f [encPl x] (encPl x))(hb:l.length*32≤140737488355328):Pure Tryz.prog gs 61 [plsA l, .fn f [] []] (plsA l):=by
 have hsl:plsA l= .sl 2 (l.map encPl) none:=rfl
 rw [hsl]
 by_cases h0:l=[]
 ·subst h0
  refine p_ tt_ok Tryz.func61 29 fun w0 h0 F hgs=>?_
  refine y_ ?_;refine R_ ?_;exact .nil
 have hlp:0<l.length:=List.length_pos_iff.2 h0
 refine p_ tt_ok Tryz.func61 29 fun w0 h0 F hgs=>?_
 refine y_ ?_
 refine e_ 10 rfl (x':=AB false) (ab_eq (by rw [List.length_map];show ((l.length:Int)==0)=false;rw [beq_eq_false_iff_ne];omega)) ?_
 refine A.valE 12 rfl (x':=AI (l.length:Nat)) (ai_eq (by rw [List.length_map])) ?_
 refine A.makeV rfl rfl rfl rfl rfl rfl rfl rfl rfl rfl rfl rfl (by omega) (by show (32:Int)*_≤_;omega) (by omega) fun a cp hcp=>?_
 refine y_ ?_
 refine A.valE 15 rfl (x':=AI (l.length:Nat)) (ai_eq (by rw [List.length_map])) ?_
 refine A.keep [1,5,14,15,16] rfl ?_
 refine A.entsEq (Λ':=[.row 2 (.slice a l.length cp) (rowE encPl (.ag [AI 0, .v (.slice none 0 0)]) l 0)]) (by rw [rowE];rfl) ?_
 refine A.loopP (ι:=Nat) (fun i=>(⟨[(1, .fn f [] []),(5, .ms (.slice a l.length cp) 2 l.length),(14, .sl 2 (l.map encPl) none),(15,AI (l.length:Nat)),(16,AI (i:Nat))],[]⟩,[.row 2 (.slice a l.length cp) (rowE encPl (.ag [AI 0, .v (.slice none 0 0)]) l i)])) (fun i=>i≤l.length) (fun i=>l.length-i) 0 (Nat.zero_le _) rfl fun i hi ih=>?_
 refine y_ ?_
 refine k_ (fun hc=>?_) fun hc=>?_
 ·have hc':i<l.length:=by simpa using hc
  refine Exists.elim (at_exN (l:=l) (i:=i) hc') fun x hx=>?_
  have hx1:=hcb x (List.mem_of_getElem? hx)
  refine y_ ?_
  refine j_ rfl (map_at hx) rfl ?_
  (refine b_ fun bx=>?_;refine y_ ?_)
  refine n_ hx1 ?_
  refine A.indexRow rfl rfl rfl rfl rfl rfl rfl rfl (by show (0:Int)≤(i:Nat);omega) (by rw [rowE_len hi];omega) rfl ?_
  refine A.storeRow rfl rfl rfl rfl rfl rfl rfl rfl rfl (by show i<(rowE encPl (.ag [AI 0, .v (.slice none 0 0)]) l i).length;rw [rowE_len hi];omega) (xs':=rowE encPl (.ag [AI 0, .v (.slice none 0 0)]) l (i+1)) (rowE_set (i:=i) hx) ?_
  refine y_ ?_
  refine A.valE 16 rfl (x':=AI ((i+1:Nat):Int)) (inc_eq i (by omega)) ?_
  refine l_ (Λ':=[.row 2 (.slice a l.length cp) (rowE encPl (.ag [AI 0, .v (.slice none 0 0)]) l (i+1))]) ?_
  refine u_ (ih (i+1) (by omega) (by omega))
 have hc': ¬i<l.length:=by simpa using hc
 have hil:i=l.length:=by omega
 refine A.entsEq (Λ':=[.row 2 (.slice a l.length cp) (l.map encPl)]) (by rw [hil,rowE_full]) ?_
 refine A.freezeRow 5 rfl ?_
 exact yr_
theorem eachKGuard_p{gs:Ua}(f:FuncId)(l:List GD)(hcb: ∀x,x∈l→Pure Tryz.prog gs f [cellsG x] (cellsG x))(hb:l.length*160≤140737488355328):Pure Tryz.prog gs 66 [gsA l, .fn f [] []] (gsA l):=by
 have hsl:gsA l= .sl 18 (l.map cellsG) none:=by show AV.sl 18 _ none=_;rw [encGl_cells]
 rw [hsl]
 by_cases h0:l=[]
 ·subst h0
  refine p_ tt_ok Tryz.func66 29 fun w0 h0 F hgs=>?_
  refine y_ ?_;refine R_ ?_;exact .nil
 have hlp:0<l.length:=List.length_pos_iff.2 h0
 refine p_ tt_ok Tryz.func66 29 fun w0 h0 F hgs=>?_
 refine y_ ?_
 refine e_ 10 rfl (x':=AB false) (ab_eq (by rw [List.length_map];show ((l.length:Int)==0)=false;rw [beq_eq_false_iff_ne];omega)) ?_
 refine A.valE 12 rfl (x':=AI (l.length:Nat)) (ai_eq (by rw [List.length_map])) ?_
 refine A.makeV rfl rfl rfl rfl rfl rfl rfl rfl rfl rfl rfl rfl (by omega) (by show (160:Int)*_≤_;omega) (by omega) fun a cp hcp=>?_
 refine y_ ?_
 refine A.valE 15 rfl (x':=AI (l.length:Nat)) (ai_eq (by rw [List.length_map])) ?_
 refine A.keep [1,5,14,15,16] rfl ?_
 refine A.entsEq (Λ':=[.row 18 (.slice a l.length cp) (rowE cellsG (.ag [AU8 0,AU8 0,AU8 0,AU8 0,AI32 0,AI 0, .v (.slice none 0 0),AI 0,AU8 0,AI 0, .v (.slice none 0 0),AU8 0,AU8 0,AU8 0,AI32 0,AI 0, .v (.slice none 0 0), .v (.slice none 0 0)]) l 0)]) (by rw [rowE];rfl) ?_
 refine A.loopP (ι:=Nat) (fun i=>(⟨[(1, .fn f [] []),(5, .ms (.slice a l.length cp) 18 l.length),(14, .sl 18 (l.map cellsG) none),(15,AI (l.length:Nat)),(16,AI (i:Nat))],[]⟩,[.row 18 (.slice a l.length cp) (rowE cellsG (.ag [AU8 0,AU8 0,AU8 0,AU8 0,AI32 0,AI 0, .v (.slice none 0 0),AI 0,AU8 0,AI 0, .v (.slice none 0 0),AU8 0,AU8 0,AU8 0,AI32 0,AI 0, .v (.slice none 0 0), .v (.slice none 0 0)]) l i)])) (fun i=>i≤l.length) (fun i=>l.length-i) 0 (Nat.zero_le _) rfl fun i hi ih=>?_
 refine y_ ?_
 refine k_ (fun hc=>?_) fun hc=>?_
 ·have hc':i<l.length:=by simpa using hc
  refine Exists.elim (at_exN (l:=l) (i:=i) hc') fun x hx=>?_
  have hx1:=hcb x (List.mem_of_getElem? hx)
  refine y_ ?_
  refine j_ rfl (map_at hx) rfl ?_
  (refine b_ fun bx=>?_;refine y_ ?_)
  refine n_ hx1 ?_
  refine A.indexRow rfl rfl rfl rfl rfl rfl rfl rfl (by show (0:Int)≤(i:Nat);omega) (by rw [rowE_len hi];omega) rfl ?_
  refine A.storeRow rfl rfl rfl rfl rfl rfl rfl rfl rfl (by show i<(rowE cellsG (.ag [AU8 0,AU8 0,AU8 0,AU8 0,AI32 0,AI 0, .v (.slice none 0 0),AI 0,AU8 0,AI 0, .v (.slice none 0 0),AU8 0,AU8 0,AU8 0,AI32 0,AI 0, .v (.slice none 0 0), .v (.slice none 0 0)]) l i).length;rw [rowE_len hi];omega) (xs':=rowE cellsG (.ag [AU8 0,AU8 0,AU8 0,AU8 0,AI32 0,AI 0, .v (.slice none 0 0),AI 0,AU8 0,AI 0, .v (.slice none 0 0),AU8 0,AU8 0,AU8 0,AI32 0,AI 0, .v (.slice none 0 0), .v (.slice none 0 0)]) l (i+1)) (rowE_set (i:=i) hx) ?_
  refine y_ ?_
  refine A.valE 16 rfl (x':=AI ((i+1:Nat):Int)) (inc_eq i (by omega)) ?_
  refine l_ (Λ':=[.row 18 (.slice a l.length cp) (rowE cellsG (.ag [AU8 0,AU8 0,AU8 0,AU8 0,AI32 0,AI 0, .v (.slice none 0 0),AI 0,AU8 0,AI 0, .v (.slice none 0 0),AU8 0,AU8 0,AU8 0,AI32 0,AI 0, .v (.slice none 0 0), .v (.slice none 0 0)]) l (i+1))]) ?_
  refine u_ (ih (i+1) (by omega) (by omega))
 have hc': ¬i<l.length:=by simpa using hc
 have hil:i=l.length:=by omega
 refine A.entsEq (Λ':=[.row 18 (.slice a l.length cp) (l.map cellsG)]) (by rw [hil,rowE_full]) ?_
 refine A.freezeRow 5 rfl ?_
 exact yr_
theorem eachKProc_p{gs:Ua}(f:FuncId)(l:List PR)(hcb: ∀x,x∈l→Pure Tryz.prog gs f [cellsR x] (cellsR x))(hb:l.length*128≤140737488355328):Pure Tryz.prog gs 65 [rsA l, .fn f [] []] (rsA l):=by
 have hsl:rsA l= .sl 8 (l.map cellsR) none:=by show AV.sl 8 _ none=_;rw [encRl_cells]
 rw [hsl]
 by_cases h0:l=[]
 ·subst h0
  refine p_ tt_ok Tryz.func65 29 fun w0 h0 F hgs=>?_
  refine y_ ?_;refine R_ ?_;exact .nil
 have hlp:0<l.length:=List.length_pos_iff.2 h0
 refine p_ tt_ok Tryz.func65 29 fun w0 h0 F hgs=>?_
 refine y_ ?_
 refine e_ 10 rfl (x':=AB false) (ab_eq (by rw [List.length_map];show ((l.length:Int)==0)=false;rw [beq_eq_false_iff_ne];omega)) ?_
 refine A.valE 12 rfl (x':=AI (l.length:Nat)) (ai_eq (by rw [List.length_map])) ?_
 refine A.makeV rfl rfl rfl rfl rfl rfl rfl rfl rfl rfl rfl rfl (by omega) (by show (128:Int)*_≤_;omega) (by omega) fun a cp hcp=>?_
 refine y_ ?_
 refine A.valE 15 rfl (x':=AI (l.length:Nat)) (ai_eq (by rw [List.length_map])) ?_
 refine A.keep [1,5,14,15,16] rfl ?_
 refine A.entsEq (Λ':=[.row 8 (.slice a l.length cp) (rowE cellsR (.ag [AU8 0,AI 0,AI 0,AU8 0, .v (.slice none 0 0), .v (.slice none 0 0), .v (.slice none 0 0), .v (.slice none 0 0)]) l 0)]) (by rw [rowE];rfl) ?_
 refine A.loopP (ι:=Nat) (fun i=>(⟨[(1, .fn f [] []),(5, .ms (.slice a l.length cp) 8 l.length),(14, .sl 8 (l.map cellsR) none),(15,AI (l.length:Nat)),(16,AI (i:Nat))],[]⟩,[.row 8 (.slice a l.length cp) (rowE cellsR (.ag [AU8 0,AI 0,AI 0,AU8 0, .v (.slice none 0 0), .v (.slice none 0 0), .v (.slice none 0 0), .v (.slice none 0 0)]) l i)])) (fun i=>i≤l.length) (fun i=>l.length-i) 0 (Nat.zero_le _) rfl fun i hi ih=>?_
 refine y_ ?_
 refine k_ (fun hc=>?_) fun hc=>?_
 ·have hc':i<l.length:=by simpa using hc
  refine Exists.elim (at_exN (l:=l) (i:=i) hc') fun x hx=>?_
  have hx1:=hcb x (List.mem_of_getElem? hx)
  refine y_ ?_
  refine j_ rfl (map_at hx) rfl ?_
  (refine b_ fun bx=>?_;refine y_ ?_)
  refine n_ hx1 ?_
  refine A.indexRow rfl rfl rfl rfl rfl rfl rfl rfl (by show (0:Int)≤(i:Nat);omega) (by rw [rowE_len hi];omega) rfl ?_
  refine A.storeRow rfl rfl rfl rfl rfl rfl rfl rfl rfl (by show i<(rowE cellsR (.ag [AU8 0,AI 0,AI 0,AU8 0, .v (.slice none 0 0), .v (.slice none 0 0), .v (.slice none 0 0), .v (.slice none 0 0)]) l i).length;rw [rowE_len hi];omega) (xs':=rowE cellsR (.ag [AU8 0,AI 0,AI 0,AU8 0, .v (.slice none 0 0), .v (.slice none 0 0), .v (.slice none 0 0), .v (.slice none 0 0)]) l (i+1)) (rowE_set (i:=i) hx) ?_
  refine y_ ?_
  refine A.valE 16 rfl (x':=AI ((i+1:Nat):Int)) (inc_eq i (by omega)) ?_
  refine l_ (Λ':=[.row 8 (.slice a l.length cp) (rowE cellsR (.ag [AU8 0,AI 0,AI 0,AU8 0, .v (.slice none 0 0), .v (.slice none 0 0), .v (.slice none 0 0), .v (.slice none 0 0)]) l (i+1))]) ?_
  refine u_ (ih (i+1) (by omega) (by omega))
 have hc': ¬i<l.length:=by simpa using hc
 have hil:i=l.length:=by omega
 refine A.entsEq (Λ':=[.row 8 (.slice a l.length cp) (l.map cellsR)]) (by rw [hil,rowE_full]) ?_
 refine A.freezeRow 5 rfl ?_
 exact yr_
theorem copE_n: ∀(m:Nat) (a:KE),SizeOf.sizeOf a≤m→smK a→Pure Tryz.prog gs0 64 [cellsK a] (cellsK a)
 |0,a,h,_=>by
  obtain ⟨k,o,t,n,v,l⟩:=a
  simp only [KE.mk.sizeOf_spec] at h;omega
 |m+1,a,h,hs=>by
  have h1:Pure Tryz.prog gs0 63 [kesA a.l, .fn 64 [] []] (kesA a.l):=by
   refine eachKExpr_p _ a.l (fun x hx=>copE_n m x ?_ ((smK_l hs).2 x hx)) (smK_b hs)
   obtain ⟨k,o,t,n,v,l⟩:=a
   have:=List.sizeOf_lt_of_mem hx
   simp only [KE.mk.sizeOf_spec,KE.l] at this h
   omega
  refine p_ tt_ok Tryz.func64 8 fun w0 h0 F hgs=>?_
  (refine b_ fun bx=>?_;refine b_ fun bx=>?_;refine y_ ?_)
  refine c_ h1 ?_;refine A.retC (Λ':=[]) rfl rfl rfl rfl rfl (List.nil_sublist _) ⟨?_,rfl⟩;exact .refl
theorem copE_p(a:KE)(hs:smK a):Pure Tryz.prog gs0 64 [cellsK a] (cellsK a):=copE_n _ a (Nat.le_refl _) hs
theorem copP_p(a:PL)(hs:smP a):Pure Tryz.prog gs0 62 [encPl a] (encPl a):=by
 have h1:Pure Tryz.prog gs0 63 [kesA a.ix, .fn 64 [] []] (kesA a.ix):=eachKExpr_p _ a.ix (fun x hx=>copE_p x (hs.2 x hx)) hs.1
 refine p_ tt_ok Tryz.func62 8 fun w0 h0 F hgs=>?_
 (refine b_ fun bx=>?_;refine b_ fun bx=>?_;refine y_ ?_)
 refine c_ h1 ?_;refine A.retC (Λ':=[]) rfl rfl rfl rfl rfl (List.nil_sublist _) ⟨?_,rfl⟩;exact .refl
theorem copG_a(a:GD)(hs:SmG a)(h4:Pure Tryz.prog gs0 65 [rsA a.body, .fn 33 [] []] (rsA a.body)):Pure Tryz.prog gs0 67 [cellsG a] (cellsG a):=by
 have h1:=copE_p a.cond hs.cond
 have h2:=copE_p a.time hs.time
 have h3:=copP_p a.to hs.to
 refine p_ tt_ok Tryz.func67 20 fun w0 h0 F hgs=>?_
 (refine b_ fun bx=>?_;refine b_ fun bx=>?_;refine y_ ?_)
 refine d_ 13 [0,1,3,4,6,7,9,10,2,12,5,8,11] [(2,cellsK a.cond),(5,cellsK a.time),(8,encPl a.to),(11,rsA a.body)] ?_
 refine cw_ h1 ?_
 refine cw_ h2 ?_
 refine cw_ h3 ?_
 refine cw_ h4 ?_
 refine z_ ?_;refine A.retC (Λ':=[]) rfl rfl rfl rfl rfl (List.nil_sublist _) ⟨?_,rfl⟩;exact .refl
theorem copR_a(a:PR)(hs:SmR a)(h3:Pure Tryz.prog gs0 65 [rsA a.l, .fn 33 [] []] (rsA a.l))(h4:Pure Tryz.prog gs0 66 [gsA a.gs, .fn 67 [] []] (gsA a.gs)):Pure Tryz.prog gs0 33 [cellsR a] (cellsR a):=by
 have h1:=eachKPlace_p (gs:=gs0) 62 a.to (fun x hx=>copP_p x (hs.to x hx)) hs.tb
 have h2:=eachKExpr_p (gs:=gs0) 64 a.e (fun x hx=>copE_p x (hs.e x hx)) hs.eb
 refine p_ tt_ok Tryz.func33 20 fun w0 h0 F hgs=>?_
 (refine b_ fun bx=>?_;refine b_ fun bx=>?_;refine y_ ?_)
 refine c_ h1 ?_
 refine c_ h2 ?_
 refine c_ h3 ?_
 refine c_ h4 ?_;refine A.retC (Λ':=[]) rfl rfl rfl rfl rfl (List.nil_sublist _) ⟨?_,rfl⟩;exact .refl
theorem copR_n: ∀(m:Nat) (a:PR),SizeOf.sizeOf a≤m→smR a→Pure Tryz.prog gs0 33 [cellsR a] (cellsR a)
 |0,a,h,_=>by
  obtain ⟨k,c,v,i,to,e,gs,l⟩:=a
  simp only [PR.mk.sizeOf_spec] at h;omega
 |m+1,a,h,hs=>by
  have hS:=smR_all hs
  refine copR_a a hS (eachKProc_p _ a.l (fun x hx=>copR_n m x (by have:=pr_lt hx;omega) (hS.l x hx)) hS.lb) (eachKGuard_p _ a.gs (fun g hg=>?_) hS.gb)
  have hG:=smG_all (hS.g g hg)
  exact copG_a g hG (eachKProc_p _ g.body (fun x hx=>copR_n m x (by have:=gd_lt hg hx;omega) (hG.body x hx)) hG.bb)
theorem copied_p(a:PR)(hs:smR a):Pure Tryz.prog gs0 33 [cellsR a] (cellsR a):=copR_n _ a (Nat.le_refl _) hs
def skipR:PR:=⟨1,0,0,0,[],[],[],[]⟩
def stopR:PR:=⟨2,0,0,0,[],[],[],[]⟩
abbrev plainA(k:Int):AV:= .ag [AU8 k,AI 0,AI 0,AU8 0,plsA [],kesA [],gsA [],rsA []]
theorem plain_eq(k:Int):plainA k= .ag [AU8 k,AI 0,AI 0,AU8 0, .sl 2 [] none, .sl 6 [] none, .sl 18 [] none, .sl 8 [] none]:=by
 show AV.ag [_,_,_,_,AV.sl 2 _ none,AV.sl 6 (encKl []) none,AV.sl 18 (encGl []) none,AV.sl 8 (encRl []) none]=_
 rw [encKl,encGl,encRl];rfl
theorem skip_p:Pure Tryz.prog gs0 69 [] (cellsR skipR):=by
 show Pure Tryz.prog gs0 69 [] (plainA 1)
 rw [plain_eq]
 refine p_ tt_ok Tryz.func69 2 fun w0 h0 F hgs=>?_
 (refine b_ fun bx=>?_;refine y_ ?_);refine A.retC (Λ':=[]) rfl rfl rfl rfl rfl (List.nil_sublist _) ⟨?_,rfl⟩;exact .ag (.cons .refl (.cons .refl (.cons .refl (.cons .refl (.cons .nil (.cons .nil (.cons .nil (.cons .nil .refl))))))))
theorem stop_p:Pure Tryz.prog gs0 118 [] (cellsR stopR):=by
 show Pure Tryz.prog gs0 118 [] (plainA 2)
 rw [plain_eq]
 refine p_ tt_ok Tryz.func118 2 fun w0 h0 F hgs=>?_
 (refine b_ fun bx=>?_;refine y_ ?_);refine A.retC (Λ':=[]) rfl rfl rfl rfl rfl (List.nil_sublist _) ⟨?_,rfl⟩;exact .ag (.cons .refl (.cons .refl (.cons .refl (.cons .refl (.cons .nil (.cons .nil (.cons .nil (.cons .nil .refl))))))))
theorem rskip_p:Pure Tryz.prog gs0 75 [] (cellsR skipR):=by
 show Pure Tryz.prog gs0 75 [] (plainA 1)
 rw [plain_eq]
 refine p_ tt_ok Tryz.func75 2 fun w0 h0 F hgs=>?_
 (refine b_ fun bx=>?_;refine y_ ?_);refine A.retC (Λ':=[]) rfl rfl rfl rfl rfl (List.nil_sublist _) ⟨?_,rfl⟩;exact .ag (.cons .refl (.cons .refl (.cons .refl (.cons .refl (.cons .nil (.cons .nil (.cons .nil (.cons .nil .refl))))))))
def bothB(p:PR):Bool:=p.kind==10||p.kind==11
theorem branches_p(p:PR):Pure Tryz.prog gs0 68 [cellsR p] (AB (bothB p)):=by
 unfold bothB
 refine p_ tt_ok Tryz.func68 11 fun w0 h0 F hgs=>?_
 (refine b_ fun bx=>?_;refine y_ ?_)
 ((fail_if_success (refine A.lit? rfl ?_));refine A.gS rfl (fun hc=>?_) (fun hc=>?_))
 ·have hc:(p.kind==10)=true:=hc
  refine y_ ?_;refine R_ ?_;rw [hc];exact .refl
 ·have hc:(p.kind==10)=false:=hc
  refine y_ ?_;refine R_ ?_;rw [hc];exact .refl
theorem rboth_p(p:PR):Pure Tryz.prog gs0 74 [cellsR p] (AB (bothB p)):=by
 unfold bothB
 refine p_ tt_ok Tryz.func74 11 fun w0 h0 F hgs=>?_
 (refine b_ fun bx=>?_;refine y_ ?_)
 ((fail_if_success (refine A.lit? rfl ?_));refine A.gS rfl (fun hc=>?_) (fun hc=>?_))
 ·have hc:(p.kind==10)=true:=hc
  refine y_ ?_;refine R_ ?_;rw [hc];exact .refl
 ·have hc:(p.kind==10)=false:=hc
  refine y_ ?_;refine R_ ?_;rw [hc];exact .refl
def doneR(p:PR):Bool:=eqR p skipR
theorem done_p(p:PR)(hs:smR p):Pure Tryz.prog gs0 42 [cellsR p] (AB (doneR p)):=by
 have h1:=psame_p p skipR hs
 refine p_ tt_ok Tryz.func42 6 fun w0 h0 F hgs=>?_
 (refine b_ fun bx=>?_;refine y_ ?_)
 refine d_ 2 [0,1] [(1,cellsR skipR)] ?_
 refine WA.c rfl rfl skip_p (.sub .refl) ?_
 refine WA.nil (l:=[]) rfl ?_
 exact cr_ h1
theorem rdone_p(p:PR)(hs:smR p):Pure Tryz.prog gs0 43 [cellsR p] (AB (doneR p)):=by
 have h1:=procs_p [p] [skipR] (by simp) (fun x hx=>by rw [List.mem_singleton] at hx;subst hx;exact hs)
 have h2:eqRl [p] [skipR]=doneR p:=by rw [eqRl,eqRl,Bool.and_true];rfl
 rw [h2] at h1
 have e1: ∀q:PR,rsA [q]= .sl 8 [cellsR q] none:=fun q=>by show AV.sl 8 (encRl [q]) none=_;rw [encRl_cells];rfl
 rw [e1,e1] at h1
 refine p_ tt_ok Tryz.func43 8 fun w0 h0 F hgs=>?_
 (refine b_ fun bx=>?_;refine y_ ?_)
 refine d_ 4 [0,1,2,3] [(2,cellsR skipR)] ?_
 refine WA.lit rfl rfl rfl rfl rfl rfl rfl fun bw=>?_
 refine cw_ rskip_p ?_
 refine WA.lit rfl rfl rfl rfl rfl rfl rfl fun bw=>?_
 refine WA.nil (l:=[_,_]) rfl ?_
 refine A.freezeRow 4 rfl ?_
 refine A.freezeRow 6 rfl ?_
 exact cr_ h1
mutual
def normR:PR→PR
 |⟨k,c,v,i,to,e,gs,l⟩=>if k=10∨k=11 then (if (normRl l).all doneR=true then skipR else ⟨k,c,v,i,to,e,gs,normRl l⟩) else if k=9 then normSq (fun l'=>⟨k,c,v,i,to,e,gs,l'⟩) l else ⟨k,c,v,i,to,e,gs,l⟩
def normRl:List PR→List PR
 | []=>[]
 |p::r=>normR p::normRl r
def normSq(f:List PR→PR):List PR→PR
 | []=>skipR
 |x::r=>match r with
  | []=>normR x
  |y::s=>if doneR (normR x)=true then normSq f r else f (normR x::y::s)
end
theorem normRl_map: ∀l:List PR,normRl l=l.map normR
 | []=>by rw [normRl];rfl
 |p::r=>by rw [normRl,normRl_map r];rfl
mutual
def tgR:PR→Prop
 |⟨_,_,_,_,_,_,_,l⟩=>l.length≤134217728∧tgRl l
def tgRl:List PR→Prop
 | []=>True
 |p::r=>tgR p∧tgRl r
end
theorem tgRl_mem: ∀{l:List PR},tgRl l→ ∀x,x∈l→tgR x
 | [],_,x,h=>by cases h
 |y::r,hw,x,h=>by
  rw [tgRl] at hw
  rcases List.mem_cons.1 h with rfl|h
  ·exact hw.1
  ·exact tgRl_mem hw.2 x h
theorem tgR_l{p:PR}(h:tgR p):p.l.length≤134217728∧ ∀x,x∈p.l→tgR x:=by
 obtain ⟨k,c,v,i,to,e,gs,l⟩:=p
 rw [tgR] at h
 exact ⟨h.1,tgRl_mem h.2⟩
theorem smRl_of: ∀{l:List PR},(∀x,x∈l→smR x)→smRl l
 | [],_=>by rw [smRl];trivial
 |y::r,h=>by rw [smRl];exact ⟨h y (.head _),smRl_of fun x hx=>h x (.tail _ hx)⟩
theorem skip_sm:smR skipR:=by
 rw [skipR,smR,smRl,smGl]
 exact ⟨⟨(by intro t h;cases h),(by intro t h;cases h),by decide,by decide,by decide,by decide⟩,trivial,trivial⟩
theorem normSq_sm(f:List PR→PR): ∀l:List PR,(∀x,x∈l→smR x)→(∀x,x∈l→smR (normR x))→(∀x r,(smR x)→(∀y,y∈r→smR y)→r.length+1≤l.length→smR (f (x::r)))→smR (normSq f l)
 | [],_,_,_=>by rw [normSq];exact skip_sm
 | [x],_,h,_=>by rw [normSq];exact h x (.head _)
 |x::y::s,h0,h,hf=>by
  rw [normSq]
  split
  ·exact normSq_sm f (y::s) (fun z hz=>h0 z (.tail _ hz)) (fun z hz=>h z (.tail _ hz)) fun z r hz hr hl=>hf z r hz hr (by rw [List.length_cons];omega)
  ·exact hf _ _ (h x (.head _)) (fun z hz=>h0 z (.tail _ hz)) (by simp)
theorem normR_sm: ∀(m:Nat) (p:PR),SizeOf.sizeOf p≤m→smR p→smR (normR p)
 |0,p,h,_=>by
  obtain ⟨k,c,v,i,to,e,gs,l⟩:=p
  simp only [PR.mk.sizeOf_spec] at h;omega
 |m+1,p,h,hs=>by
  have hS:=smR_all hs
  have hL: ∀x,x∈p.l→smR (normR x):=fun x hx=>normR_sm m x (by have:=pr_lt hx;omega) (hS.l x hx)
  obtain ⟨k,c,v,i,to,e,gs,l⟩:=p
  rw [smR] at hs
  obtain ⟨⟨h1,h2,h3,h4,h5,h6⟩,h7,h8⟩:=hs
  rw [normR]
  split
  ·split
   ·exact skip_sm
   ·rw [smR,normRl_map,List.length_map]
    exact ⟨⟨h1,h2,h3,h4,h5,h6⟩,h7,smRl_of fun x hx=>by
     rw [List.mem_map] at hx
     obtain ⟨y,hy,rfl⟩:=hx
     exact hL y hy⟩
  ·split
   ·refine normSq_sm _ l hS.l hL fun x r hx hr hl=>?_
    have:=List.length_cons (a:=x) («as» :=r)
    rw [smR,smRl]
    exact ⟨⟨h1,h2,h3,h4,h5,by rw [this];omega⟩,h7,hx,smRl_of hr⟩
   ·rw [smR];exact ⟨⟨h1,h2,h3,h4,h5,h6⟩,h7,h8⟩
theorem norm_sm{p:PR}(h:smR p):smR (normR p):=normR_sm _ p (Nat.le_refl _) h
theorem normR_par{p:PR}(h:bothB p=true):normR p=if ((p.l.map normR).all doneR)=true then skipR else ⟨p.kind,p.c,p.v,p.item,p.to,p.e,p.gs,p.l.map normR⟩:=by
 obtain ⟨k,c,v,i,to,e,gs,l⟩:=p
 have:k=10∨k=11:=by simpa [bothB] using h
 rw [normR,if_pos this,normRl_map]
theorem normR_seq{p:PR}(h:p.kind=9):normR p=normSq (fun l'=>⟨p.kind,p.c,p.v,p.item,p.to,p.e,p.gs,l'⟩) p.l:=by
 obtain ⟨k,c,v,i,to,e,gs,l⟩:=p
 have h:k=9:=h
 rw [normR,if_neg (by omega),if_pos h]
theorem normR_else{p:PR}(h:bothB p=false)(h':p.kind≠9):normR p=p:=by
 obtain ⟨k,c,v,i,to,e,gs,l⟩:=p
 have h':k≠9:=h'
 have: ¬(k=10∨k=11):=by simpa [bothB] using h
 rw [normR,if_neg this,if_neg h']
theorem all_take{l:List PR}{i:Nat}{x:PR}(h:l[i]? =some x):((l.take (i+1)).map normR).all doneR=(((l.take i).map normR).all doneR&&doneR (normR x)):=by
 rw [List.take_add_one,h];simp
theorem encN_take{l:List PR}{i:Nat}{x:PR}(h:l[i]? =some x):encRl ((l.take (i+1)).map normR)=encRl ((l.take i).map normR)++[cellsR (normR x)]:=by
 rw [List.take_add_one,h,encRl_map,encRl_map];simp [encR_eq]
theorem normP_a(p:PR)(hk:bothB p=true)(hs:smR p)(hl:p.l.length≤134217728)(hrec: ∀x,x∈p.l→Pure Tryz.prog gs0 37 [cellsR x] (cellsR (normR x))):Pure Tryz.prog gs0 37 [cellsR p] (cellsR (normR p)):=by
 have h1:=rboth_p p
 rw [hk] at h1
 have hlen:((encRl p.l).length:Int)=p.l.length:=by rw [encRl_len]
 have hS:=smR_all hs
 refine Exists.elim (show∃R,R=normR p from ⟨_,rfl⟩) fun R hR=>?_
 rw [←hR]
 rw [normR_par hk] at hR
 refine p_ tt_ok Tryz.func37 75 fun w0 h0 F hgs=>?_
 refine y_ ?_
 refine A.b rfl fun b1=>?_
 refine A.b rfl fun b2=>?_
 refine y_ ?_
 refine c_ h1 ?_
 refine A.nilTail 3 ty31.size rfl ?_
 refine A.keep [1,2,3,4,5] rfl ?_
 refine Exists.elim (show∃Z,Z=AV.ag [AU8 0,AI 0,AI 0,AU8 0, .v (.slice none 0 0), .v (.slice none 0 0), .v (.slice none 0 0), .v (.slice none 0 0)] from ⟨_,rfl⟩) fun Z hZ=>?_
 refine A.entsEq (Λ':= .tail ty31.size (.slice none 0 0):: .box b2 Z:: .box b1 (cellsR p)::[]) (by rw [hZ];rfl) ?_
 refine A.loopP (ι:=Nat×Value) (fun s=>(⟨[(1, .v (.pointer (some ⟨b1,0,none⟩))),(2, .v (.pointer (some ⟨b2,0,none⟩))),(3, .sl 8 (encRl ((p.l.take s.1).map normR)) (some s.2)),(4,AB (((p.l.take s.1).map normR).all doneR)),(5,AI (s.1:Nat))],[]⟩, .tail ty31.size s.2:: .box b2 Z:: .box b1 (cellsR p)::[]))
  (fun s=>s.1≤p.l.length) (fun s=>p.l.length-s.1) (0, .slice none 0 0) (Nat.zero_le _) (by rw [List.take_zero,List.map_nil,encRl];rfl) fun s hi ih=>?_
 obtain ⟨i,z⟩:=s
 simp only at hi
 refine y_ ?_
 refine k_ (fun hc=>?_) fun hc=>?_
 ·have hci:i<p.l.length:=by have:=hc;rw [encRl_len] at this;simpa using this
  refine Exists.elim (at_exN (l:=p.l) (i:=i) hci) fun x hx=>?_
  have hx1:=hrec x (List.mem_of_getElem? hx)
  have hx2:=rdone_p (normR x) (norm_sm (hS.l x (List.mem_of_getElem? hx)))
  have hte:=encN_take hx
  have hta:=all_take hx
  have hat:(encRl ((p.l.take i).map normR)++[cellsR (normR x)])[i]? =some (cellsR (normR x)):=by
   rw [List.getElem?_append_right (by rw [encRl_len,List.length_map,List.length_take];omega),encRl_len,List.length_map,List.length_take,show i-min i p.l.length=0 by omega];rfl
  refine y_ ?_
  refine i_ rfl (encRl_at hx) (encR_eq x) ?_
  refine n_ hx1 ?_
  refine t_ fun bl=>?_
  refine A.append rfl rfl rfl rfl rfl rfl rfl rfl rfl rfl rfl rfl rfl rfl (by show ((encRl ((p.l.take i).map normR)).length+1)*8≤_;rw [encRl_len,List.length_map,List.length_take];omega) fun z'=>?_
  refine y_ ?_
  clear hc
  ((fail_if_success (refine A.lit? rfl ?_));refine A.gS rfl (fun hc=>?_) (fun hc=>?_))
  ·have hc1:((p.l.take i).map normR).all doneR=true:=hc
   rw [hc1,Bool.true_and] at hta
   refine y_ ?_
   refine i_ rfl hat rfl ?_
   refine c_ hx2 ?_
   refine A.valE 3 rfl (x':= .sl 8 (encRl ((p.l.take (i+1)).map normR)) (some z')) (by rw [hte];rfl) ?_
   refine A.valE 4 rfl (x':=AB (((p.l.take (i+1)).map normR).all doneR)) (ab_eq hta.symm) ?_
   refine A.valE 5 rfl (x':=AI ((i+1:Nat):Int)) (inc_eq i (by omega)) ?_
   refine u_ (ih (i+1,z') (by show i+1≤_;omega) (by show _-(i+1)<_-i;omega))
  ·have hc1:((p.l.take i).map normR).all doneR=false:=hc
   rw [hc1,Bool.false_and] at hta
   refine y_ ?_
   refine A.valE 3 rfl (x':= .sl 8 (encRl ((p.l.take (i+1)).map normR)) (some z')) (by rw [hte];rfl) ?_
   refine A.valE 4 rfl (x':=AB (((p.l.take (i+1)).map normR).all doneR)) (ab_eq (by rw [hta])) ?_
   refine A.valE 5 rfl (x':=AI ((i+1:Nat):Int)) (inc_eq i (by omega)) ?_
   refine u_ (ih (i+1,z') (by show i+1≤_;omega) (by show _-(i+1)<_-i;omega))
 have hci: ¬i<p.l.length:=by have:=hc;rw [encRl_len] at this;simpa using this
 have hil:i=p.l.length:=by omega
 clear hc
 refine A.entsEq (Λ':= .tail ty31.size z:: .box b2 (.ag [AU8 0,AI 0,AI 0,AU8 0, .v (.slice none 0 0), .v (.slice none 0 0), .v (.slice none 0 0), .v (.slice none 0 0)]):: .box b1 (cellsR p)::[]) (by rw [hZ]) ?_
 refine y_ ?_
 ((fail_if_success (refine A.lit? rfl ?_));refine A.gS rfl (fun hc=>?_) (fun hc=>?_))
 ·have hc1:((p.l.take i).map normR).all doneR=true:=hc
  rw [hil,List.take_length] at hc1
  rw [if_pos hc1] at hR
  rw [hR]
  refine y_ ?_
  refine c_ rskip_p ?_;refine A.retC (Λ':=[]) rfl rfl rfl rfl rfl (List.nil_sublist _) ⟨?_,rfl⟩;exact .refl
 ·have hc1:((p.l.take i).map normR).all doneR=false:=hc
  rw [hil,List.take_length] at hc1
  rw [if_neg (by rw [hc1];decide)] at hR
  rw [hR]
  rw [hil,List.take_length]
  refine y_ ?_;refine A.retC (Λ':=[]) rfl rfl rfl rfl rfl (List.nil_sublist _) ⟨?_,rfl⟩;exact .ag (.cons .refl (.cons .refl (.cons .refl (.cons .refl (.cons .refl (.cons .refl (.cons .refl (.cons .own1 .refl))))))))
theorem encRl_cons(x:PR)(r:List PR):encRl (x::r)=cellsR x::encRl r:=by rw [encRl,encR_eq]
theorem bothB_9{c v i:Int}{to:List PL}{e:List KE}{gs:List GD}{l:List PR}:bothB ⟨9,c,v,i,to,e,gs,l⟩=false:=rfl
theorem normS0{c v i:Int}{to:List PL}{e:List KE}{gs:List GD}:Pure Tryz.prog gs0 37 [cellsR ⟨9,c,v,i,to,e,gs,[]⟩] (cellsR skipR):=by
 have h1:=rboth_p ⟨9,c,v,i,to,e,gs,[]⟩
 rw [bothB_9] at h1
 refine p_ tt_ok Tryz.func37 75 fun w0 h0 F hgs=>?_
 (refine b_ fun bx=>?_;refine b_ fun bx=>?_;refine y_ ?_)
 refine c_ h1 ?_
 refine c_ rskip_p ?_;refine A.retC (Λ':=[]) rfl rfl rfl rfl rfl (List.nil_sublist _) ⟨?_,rfl⟩;exact .refl
theorem normS1{c v i:Int}{to:List PL}{e:List KE}{gs:List GD}{x:PR}(hx:Pure Tryz.prog gs0 37 [cellsR x] (cellsR (normR x))):Pure Tryz.prog gs0 37 [cellsR ⟨9,c,v,i,to,e,gs,[x]⟩] (cellsR (normR x)):=by
 have h1:=rboth_p ⟨9,c,v,i,to,e,gs,[x]⟩
 rw [bothB_9] at h1
 have e1:cellsR ⟨9,c,v,i,to,e,gs,[x]⟩= .ag [AU8 9,AI c,AI v,AU8 i,plsA to,kesA e,gsA gs, .sl 8 [cellsR x] none]:=by
  show AV.ag [_,_,_,_,_,_,_,AV.sl 8 (encRl [x]) none]=_
  rw [encRl_cons,encRl]
 rw [e1] at h1⊢
 refine p_ tt_ok Tryz.func37 75 fun w0 h0 F hgs=>?_
 (refine b_ fun bx=>?_;refine b_ fun bx=>?_;refine y_ ?_)
 refine c_ h1 ?_
 refine i_ rfl rfl rfl ?_
 refine n_ hx ?_
 (refine b_ fun bx=>?_;refine y_ ?_);refine A.retC (Λ':=[]) rfl rfl rfl rfl rfl (List.nil_sublist _) ⟨?_,rfl⟩;exact .refl
theorem normS2{c v i:Int}{to:List PL}{e:List KE}{gs:List GD}{x y:PR}{s:List PR}(hl:s.length≤134217726)(hS:smR x)(hx:Pure Tryz.prog gs0 37 [cellsR x] (cellsR (normR x)))
 (hr:Pure Tryz.prog gs0 37 [cellsR ⟨9,c,v,i,to,e,gs,y::s⟩] (cellsR (normR ⟨9,c,v,i,to,e,gs,y::s⟩))):
 Pure Tryz.prog gs0 37 [cellsR ⟨9,c,v,i,to,e,gs,x::y::s⟩] (cellsR (if doneR (normR x)=true then normR ⟨9,c,v,i,to,e,gs,y::s⟩ else ⟨9,c,v,i,to,e,gs,normR x::y::s⟩)):=by
 have h1:=rboth_p ⟨9,c,v,i,to,e,gs,x::y::s⟩
 have h2:=rdone_p (normR x) (norm_sm hS)
 rw [bothB_9] at h1
 have e1: ∀r:List PR,cellsR ⟨9,c,v,i,to,e,gs,r⟩= .ag [AU8 9,AI c,AI v,AU8 i,plsA to,kesA e,gsA gs, .sl 8 (encRl r) none]:=fun r=>rfl
 refine Exists.elim (show∃R,R=normR ⟨9,c,v,i,to,e,gs,y::s⟩ from ⟨_,rfl⟩) fun R hR=>?_
 rw [←hR] at hr⊢
 clear hR
 have e2:(encRl (y::s)).length≤134217727:=by rw [encRl_len,List.length_cons];omega
 have e3:encRl (y::s)≠[]:=by rw [encRl_cons];intro h;cases h
 rw [e1,encRl_cons] at h1⊢
 rw [e1] at hr
 refine Exists.elim (show∃L,L=encRl (y::s) from ⟨_,rfl⟩) fun L hL=>?_
 rw [←hL] at h1 hr e2 e3⊢
 have hn:0<L.length:=List.length_pos_iff.2 e3
 cases hd:doneR (normR x) with
 |true=>
  rw [hd] at h2
  rw [if_pos rfl]
  refine p_ tt_ok Tryz.func37 75 fun w0 h0 F hgs=>?_
  (refine b_ fun bx=>?_;refine b_ fun bx=>?_;refine y_ ?_)
  refine c_ h1 ?_
  refine A.valE 46 rfl (x':=AB false) (ab_eq (by rw [List.length_cons,beq_eq_false_iff_ne];omega)) ?_
  refine i_ rfl rfl rfl ?_
  refine n_ hx ?_
  (refine b_ fun bx=>?_;refine y_ ?_)
  refine e_ 56 rfl (x':=AB false) (ab_eq (by rw [List.length_cons,beq_eq_false_iff_ne];omega)) ?_
  refine c_ h2 ?_
  refine A.slice (ys:=L) rfl rfl rfl rfl rfl rfl rfl rfl rfl (by decide) (by rw [List.length_cons];omega) (by omega) (by simp) rfl ?_
  refine y_ ?_
  refine c_ hr ?_;refine A.retC (Λ':=[]) rfl rfl rfl rfl rfl (List.nil_sublist _) ⟨?_,rfl⟩;exact .refl
 |false=>
  rw [hd] at h2
  rw [if_neg (by decide),e1,encRl_cons,←hL]
  refine p_ tt_ok Tryz.func37 75 fun w0 h0 F hgs=>?_
  (refine b_ fun bx=>?_;refine b_ fun bx=>?_;refine y_ ?_)
  refine c_ h1 ?_
  refine A.valE 46 rfl (x':=AB false) (ab_eq (by rw [List.length_cons,beq_eq_false_iff_ne];omega)) ?_
  refine i_ rfl rfl rfl ?_
  refine n_ hx ?_
  (refine b_ fun bx=>?_;refine y_ ?_)
  refine e_ 56 rfl (x':=AB false) (ab_eq (by rw [List.length_cons,beq_eq_false_iff_ne];omega)) ?_
  refine n_ h2 ?_
  (refine t_ fun bl=>?_;refine y_ ?_)
  refine A.slice (ys:=L) rfl rfl rfl rfl rfl rfl rfl rfl rfl (by decide) (by rw [List.length_cons];omega) (by omega) (by simp) rfl ?_
  refine A.fullTail ty31.size 1 (some ⟨bl,0,none⟩) (fun h=>by cases h) (fun x h=>by injection h with h;rw [←h]) ?_
  refine A.append rfl rfl rfl rfl rfl rfl rfl rfl rfl rfl rfl rfl rfl rfl (by show (1+L.length)*8≤_;omega) fun z'=>?_
  refine y_ ?_;refine A.retC (Λ':=[]) rfl rfl rfl rfl rfl (List.nil_sublist _) ⟨?_,rfl⟩;exact .ag (.cons .refl (.cons .refl (.cons .refl (.cons .refl (.cons .refl (.cons .refl (.cons .refl (.cons .own1 .refl))))))))
theorem normE{p:PR}(h:bothB p=false)(h':p.kind≠9):Pure Tryz.prog gs0 37 [cellsR p] (cellsR p):=by
 have h1:=rboth_p p
 rw [h] at h1
 refine p_ tt_ok Tryz.func37 75 fun w0 h0 F hgs=>?_
 (refine b_ fun bx=>?_;refine b_ fun bx=>?_;refine y_ ?_)
 refine c_ h1 ?_
 refine e_ 41 rfl (x':=AB true) (ab_eq (bne_iff_ne.2 h')) ?_;refine A.retC (Λ':=[]) rfl rfl rfl rfl rfl (List.nil_sublist _) ⟨?_,rfl⟩;exact .refl
theorem normSq_0(f:List PR→PR):normSq f []=skipR:=by rw [normSq]
theorem normSq_1(f:List PR→PR)(x:PR):normSq f [x]=normR x:=by rw [normSq]
theorem normSq_2(f:List PR→PR)(x y:PR)(s:List PR):normSq f (x::y::s)=if doneR (normR x)=true then normSq f (y::s) else f (normR x::y::s):=by rw [normSq]
theorem normR_0{c v i:Int}{to:List PL}{e:List KE}{gs:List GD}:normR ⟨9,c,v,i,to,e,gs,[]⟩=skipR:=by
 rw [normR_seq (p:=⟨9,c,v,i,to,e,gs,[]⟩) rfl];exact normSq_0 _
theorem normR_1{c v i:Int}{to:List PL}{e:List KE}{gs:List GD}{x:PR}:normR ⟨9,c,v,i,to,e,gs,[x]⟩=normR x:=by
 rw [normR_seq (p:=⟨9,c,v,i,to,e,gs,[x]⟩) rfl];exact normSq_1 _ x
theorem normR_2{c v i:Int}{to:List PL}{e:List KE}{gs:List GD}{x y:PR}{s:List PR}:normR ⟨9,c,v,i,to,e,gs,x::y::s⟩=if doneR (normR x)=true then normR ⟨9,c,v,i,to,e,gs,y::s⟩ else ⟨9,c,v,i,to,e,gs,normR x::y::s⟩:=by
 rw [normR_seq (p:=⟨9,c,v,i,to,e,gs,x::y::s⟩) rfl,normR_seq (p:=⟨9,c,v,i,to,e,gs,y::s⟩) rfl];exact normSq_2 _ x y s
theorem ref_norm_n: ∀(m:Nat) (p:PR),SizeOf.sizeOf p≤m→smR p→tgR p→Pure Tryz.prog gs0 37 [cellsR p] (cellsR (normR p))
 |0,p,h,_,_=>by
  obtain ⟨k,c,v,i,to,e,gs,l⟩:=p
  simp only [PR.mk.sizeOf_spec] at h;omega
 |m+1,p,h,hs,ht=>by
  have hS:=smR_all hs
  have hT:=tgR_l ht
  have hrec: ∀x,x∈p.l→Pure Tryz.prog gs0 37 [cellsR x] (cellsR (normR x)):=fun x hx=>ref_norm_n m x (by have:=pr_lt hx;omega) (hS.l x hx) (hT.2 x hx)
  cases hb:bothB p with
  |true=>exact normP_a p hb hs hT.1 hrec
  |false=>
   by_cases h9:p.kind=9
   case neg=>rw [normR_else hb h9];exact normE hb h9
   obtain ⟨k,c,v,i,to,e,gs,l⟩:=p
   have h9:k=9:=h9
   subst h9
   cases l with
   |nil=>rw [normR_0];exact normS0
   |cons x r=>
    cases r with
    |nil=>rw [normR_1];exact normS1 (hrec x (.head _))
    |cons y s=>
     rw [normR_2]
     have hl:(x::y::s).length≤134217728:=hT.1
     simp only [List.length_cons] at hl
     refine normS2 ?_ (hS.l x (.head _)) (hrec x (.head _)) (ref_norm_n m _ ?_ ?_ ?_)
     ·show s.length≤_;omega
     ·simp only [PR.mk.sizeOf_spec,List.cons.sizeOf_spec] at h⊢;omega
     ·rw [smR] at hs⊢
      rw [smRl] at hs
      obtain ⟨⟨a1,a2,a3,a4,a5,a6⟩,a7,a8,a9⟩:=hs
      exact ⟨⟨a1,a2,a3,a4,a5,Nat.le_trans (Nat.mul_le_mul_right _ (Nat.le_succ _)) a6⟩,a7,a9⟩
     ·rw [tgR] at ht⊢
      rw [tgRl] at ht
      obtain ⟨a1,a2,a3⟩:=ht
      exact ⟨Nat.le_trans (Nat.le_succ _) a1,a3⟩
theorem ref_norm_p(p:PR)(hs:smR p)(ht:tgR p):Pure Tryz.prog gs0 37 [cellsR p] (cellsR (normR p)):=ref_norm_n _ p (Nat.le_refl _) hs ht
def okI(x:Option Int):Prop:= ∀r,x=some r→i32 r
theorem ok_ite{p:Prop} [Decidable p]{x y:Option Int}(hx:okI x)(hy:okI y):okI (if p then x else y):=by split<;>assumption
theorem ok_none:okI none:=fun r h=>by cases h
theorem ok_some{x:Int}(h:i32 x):okI (some x):=fun r e=>by injection e with e;subst e;exact h
theorem ok_wrap(n:Int):okI (some (w32 n)):=ok_some (w32_in n)
theorem ok_fit(n:Int):okI (fit32 n):=by
 unfold fit32;split
 ·rename_i h;simp [fitB] at h;exact ok_some (by unfold i32;omega)
 ·exact ok_none
theorem i32_0:i32 0:=by unfold i32;decide
theorem ok_truth(b:Bool):okI (some (truthI b)):=ok_some (by cases b<;>simp [truthI,i32])
theorem tmod_in{a b:Int}(ha:i32 a)(hb:i32 b)(h: ¬b=0):i32 (a.tmod b):=by
 have h1:=Int.natAbs_tmod a b
 have h2:a.natAbs % b.natAbs<b.natAbs:=Nat.mod_lt _ (by omega)
 unfold i32 at*;omega
theorem applyC_in{o a b:Int}(ha:i32 a)(hb:i32 b):okI (applyC o a b):=by
 unfold applyC
 refine ok_ite (ok_fit _)<|ok_ite (ok_fit _)<|ok_ite (ok_fit _)<|ok_ite ?_<|ok_ite ?_<|ok_ite (ok_wrap _)<|ok_ite (ok_wrap _)<|ok_ite (ok_wrap _)<|
  ok_ite (ok_some (w32_in _))<|ok_ite (ok_some (w32_in _))<|ok_ite (ok_some (w32_in _))<|ok_ite (ok_some ?_)<|ok_ite (ok_some ?_)<|ok_ite (ok_truth _)<|ok_ite (ok_truth _)<|ok_ite (ok_truth _)<|
  ok_ite (ok_truth _)<|ok_ite (ok_truth _)<|ok_ite (ok_truth _)<|ok_ite (ok_ite (ok_truth _) ok_none)<|ok_ite (ok_ite (ok_truth _) ok_none)<|ok_ite (ok_truth _)<|ok_ite (ok_fit _)<|ok_ite (ok_wrap _)<|ok_ite (ok_some (w32_in _))<|ok_ite (ok_ite (ok_truth _) ok_none) ok_none
 ·split
  ·exact ok_none
  ·rename_i h;exact ok_some (tdiv_in ha (by simpa using h))
 ·split
  ·exact ok_none
  ·rename_i h;exact ok_some (tmod_in ha hb h)
 ·unfold shlM;split
  ·exact i32_0
  ·exact w32_in _
 ·unfold shrM;split
  ·exact i32_0
  ·exact w32_in _
def wfS(s:List (List Int)):Prop:= ∀r,r∈s→ ∀x,x∈r→i32 x
theorem atM_in{s:List (List Int)}(hs:wfS s)(v i:Int):okI (atM s v i):=by
 unfold atM;split
 ·exact ok_none
 ·intro r h
  cases h1:s[v.toNat]? with
  |none=>rw [h1] at h;cases h
  |some l=>rw [h1] at h;exact hs l (List.mem_of_getElem? h1) r (List.mem_of_getElem? h)
theorem convC_in{t v:Int}(h:i32 v):okI (convC t v):=by
 unfold convC;split
 ·exact ok_some h
 ·exact ok_none
def isSh(o a:Int):Bool:=(o==20&&a==0)||(o==21&&a==1)
def combM(s:List (List Int))(k o t n v:Int)(vs:List (Option Int)):Option Int:=
 if k=1 then some n else if k=2 then atM s v 0 else match vs with
 |some a::r=>if k=3 then atM s v a else if k=4 then applyC o a 0 else if k=6 then convC t a else if isSh o a then some a else match r with
  |some b::_=>applyC o a b
  |_=>none
 |_=>none
theorem isSh_eq(o a:Int):(bif bif o==20 then a==0 else false then true else bif o==21 then a==1 else false)=isSh o a:=by unfold isSh;cases (o==20)<;>cases (a==0)<;>cases (o==21)<;>rfl
mutual
def valM(s:List (List Int)):KE→Option Int
 |⟨k,o,t,n,v,l⟩=>combM s k o t n v (valMl s l)
def valMl(s:List (List Int)):List KE→List (Option Int)
 | []=>[]
 |e::r=>valM s e::valMl s r
end
theorem valM_in{s:List (List Int)}(hs:wfS s): ∀(N:Nat) (e:KE),sz e≤N→wfK e→fine e=true→okI (valM s e)
 |0,e,hn,_,_=>by have:=sz_pos e;omega
 |N+1,e,hn,hw,hf=>by
  have hb0:=i32_0
  rcases fine_cases hf with ⟨n,rfl⟩|⟨v,h1,h2,rfl⟩|⟨v,a,h1,h2,h3,rfl⟩|⟨o,a,h1,h2,h3,rfl⟩|⟨o,a,b,h1,h2,h3,h4,rfl⟩|⟨t,a,h1,h2,h3,rfl⟩
  ·simp [valM,valMl,combM];simp only [wfK] at hw;exact ok_some hw.1.2.2.2.1
  ·simp [valM,valMl,combM];exact atM_in hs _ _
  ·cases ha:valM s a<;>simp [valM,valMl,combM,ha]
   ·exact ok_none
   ·exact atM_in hs _ _
  ·simp only [sz,szl] at hn
   have ih:=valM_in hs N a (by omega) (wfK1 hw) h3
   cases ha:valM s a<;>simp [valM,valMl,combM,ha]
   ·exact ok_none
   ·exact applyC_in (ih _ ha) hb0
  ·simp only [sz,szl] at hn
   have:=sz_pos a
   have:=sz_pos b
   have ih:=valM_in hs N a (by omega) (wfK2 hw).1 h3
   have ih2:=valM_in hs N b (by omega) (wfK2 hw).2 h4
   cases ha:valM s a<;>simp [valM,valMl,combM,ha]
   ·exact ok_none
   ·split
    ·exact ok_some (ih _ ha)
    ·cases hb:valM s b
     ·exact ok_none
     ·exact applyC_in (ih _ ha) (ih2 _ hb)
  ·simp only [sz,szl] at hn
   have ih:=valM_in hs N a (by omega) (wfK1 hw) h3
   cases ha:valM s a<;>simp [valM,valMl,combM,ha]
   ·exact ok_none
   ·exact convC_in (ih _ ha)
def valueM(s:List (List Int))(e:KE):Option Int:=if valid e then valM s e else none
theorem valueM_in{s:List (List Int)}(hs:wfS s){e:KE}(hw:wfK e):okI (valueM s e):=by
 unfold valueM;split
 ·rename_i h;exact valM_in hs _ e (Nat.le_refl _) hw h.1
 ·exact ok_none
theorem value_p(s:List (List Int))(hs:wfS s): ∀(N:Nat) (e:KE),sz e≤N→wfK e→fine e=true→Pure Tryz.prog gs0 175 [rowsA s,encK e] (optA (valM s e))
 |0,e,hn,_,_=>by have:=sz_pos e;omega
 |N+1,e,hn,hw,hf=>by
  have hb0:=i32_0
  rcases fine_cases hf with ⟨n,rfl⟩|⟨v,h1,h2,rfl⟩|⟨v,a,h1,h2,h3,rfl⟩|⟨o,a,h1,h2,h3,rfl⟩|⟨o,a,b,h1,h2,h3,h4,rfl⟩|⟨t,a,h1,h2,h3,rfl⟩
  ·simp only [encK,encKl]
   refine p_ tt_ok Tryz.func175 105 fun w0 h0 F hgs=>?_
   (refine b_ fun bx=>?_;refine y_ ?_);refine q_ ?_;exact .refl
  ·simp only [encK,encKl]
   refine p_ tt_ok Tryz.func175 105 fun w0 h0 F hgs=>?_
   (refine b_ fun bx=>?_;refine y_ ?_);refine c_ (at_p _ _ _) ?_;refine q_ ?_;exact .refl
  ·simp only [sz,szl] at hn
   have ih:=value_p s hs N a (by omega) (wfK1 hw) h3
   have hi:=valM_in hs N a (by omega) (wfK1 hw) h3
   rw [encK_eq] at ih
   simp only [encK,encKl]
   cases ha:valM s a with
   |none=>
    rw [ha] at ih
    have e:valM s ⟨3,0,0,0,v,[a]⟩=none:=by simp [valM,valMl,combM,ha]
    rw [e]
    refine p_ tt_ok Tryz.func175 105 fun w0 h0 F hgs=>?_
    (refine b_ fun bx=>?_;refine y_ ?_)
    refine j_ rfl rfl rfl ?_
    refine e_ 27 rfl (pe_enc a) ?_
    refine c_ (ih) ?_;refine q_ ?_;exact .refl
   |some x=>
    rw [ha] at ih
    have hx:=hi x ha
    have e:valM s ⟨3,0,0,0,v,[a]⟩=atM s v x:=by simp [valM,valMl,combM,ha]
    rw [e]
    refine p_ tt_ok Tryz.func175 105 fun w0 h0 F hgs=>?_
    (refine b_ fun bx=>?_;refine y_ ?_)
    refine j_ rfl rfl rfl ?_
    refine e_ 27 rfl (pe_enc a) ?_
    refine c_ (ih) ?_
    refine A.valE 42 rfl (x':=AI x) (ai_eq (w64_32 hx)) ?_
    refine c_ (at_p _ _ _) ?_;refine q_ ?_;exact .refl
  ·simp only [sz,szl] at hn
   have ih:=value_p s hs N a (by omega) (wfK1 hw) h3
   have hi:=valM_in hs N a (by omega) (wfK1 hw) h3
   rw [encK_eq] at ih
   simp only [encK,encKl]
   cases ha:valM s a with
   |none=>
    rw [ha] at ih
    have e:valM s ⟨4,o,0,0,0,[a]⟩=none:=by simp [valM,valMl,combM,ha]
    rw [e]
    refine p_ tt_ok Tryz.func175 105 fun w0 h0 F hgs=>?_
    (refine b_ fun bx=>?_;refine y_ ?_)
    refine j_ rfl rfl rfl ?_
    refine e_ 27 rfl (pe_enc a) ?_
    refine c_ (ih) ?_;refine q_ ?_;exact .refl
   |some x=>
    rw [ha] at ih
    have hx:=hi x ha
    have e:valM s ⟨4,o,0,0,0,[a]⟩=applyC o x 0:=by simp [valM,valMl,combM,ha]
    rw [e]
    refine p_ tt_ok Tryz.func175 105 fun w0 h0 F hgs=>?_
    (refine b_ fun bx=>?_;refine y_ ?_)
    refine j_ rfl rfl rfl ?_
    refine e_ 27 rfl (pe_enc a) ?_
    refine c_ (ih) ?_
    refine c_ (apply_p o x 0 hx hb0) ?_
    refine c_ (some_p _ _) ?_;refine q_ ?_;cases applyC o x 0<;>exact .refl
  ·simp only [sz,szl] at hn
   have:=sz_pos a
   have:=sz_pos b
   have ih:=value_p s hs N a (by omega) (wfK2 hw).1 h3
   have ih2:=value_p s hs N b (by omega) (wfK2 hw).2 h4
   have hi:=valM_in hs N a (by omega) (wfK2 hw).1 h3
   have hi2:=valM_in hs N b (by omega) (wfK2 hw).2 h4
   rw [encK_eq] at ih ih2
   simp only [encK,encKl]
   cases ha:valM s a with
   |none=>
    rw [ha] at ih
    have e:valM s ⟨5,o,0,0,0,[a,b]⟩=none:=by simp [valM,valMl,combM,ha]
    rw [e]
    refine p_ tt_ok Tryz.func175 105 fun w0 h0 F hgs=>?_
    (refine b_ fun bx=>?_;refine y_ ?_)
    refine j_ rfl rfl rfl ?_
    refine e_ 27 rfl (pe_enc a) ?_
    refine c_ (ih) ?_;refine q_ ?_;exact .refl
   |some x=>
    rw [ha] at ih
    have hx:=hi x ha
    by_cases hsh:isSh o x=true
    ·have e:valM s ⟨5,o,0,0,0,[a,b]⟩=some x:=by simp [valM,valMl,combM,ha,hsh]
     rw [e]
     refine p_ tt_ok Tryz.func175 105 fun w0 h0 F hgs=>?_
     (refine b_ fun bx=>?_;refine y_ ?_)
     refine j_ rfl rfl rfl ?_
     refine e_ 27 rfl (pe_enc a) ?_
     refine n_ (ih) ?_
     refine g_ ?_
     refine e_ 82 rfl (x':=AB true) (ab_eq ((isSh_eq o x).trans hsh)) ?_;refine q_ ?_;exact .refl
    ·have hsf:isSh o x=false:=by simpa using hsh
     cases hb:valM s b with
     |none=>
      rw [hb] at ih2
      have e:valM s ⟨5,o,0,0,0,[a,b]⟩=none:=by simp [valM,valMl,combM,ha,hb,hsf]
      rw [e]
      refine p_ tt_ok Tryz.func175 105 fun w0 h0 F hgs=>?_
      (refine b_ fun bx=>?_;refine y_ ?_)
      refine j_ rfl rfl rfl ?_
      refine e_ 27 rfl (pe_enc a) ?_
      refine n_ (ih) ?_
      refine g_ ?_
      refine e_ 82 rfl (x':=AB false) (ab_eq ((isSh_eq o x).trans hsf)) ?_
      refine j_ rfl rfl rfl ?_
      refine e_ 88 rfl (pe_enc b) ?_
      refine c_ (ih2) ?_;refine q_ ?_;exact .refl
     |some y=>
      rw [hb] at ih2
      have hy:=hi2 y hb
      have e:valM s ⟨5,o,0,0,0,[a,b]⟩=applyC o x y:=by simp [valM,valMl,combM,ha,hb,hsf]
      rw [e]
      refine p_ tt_ok Tryz.func175 105 fun w0 h0 F hgs=>?_
      (refine b_ fun bx=>?_;refine y_ ?_)
      refine j_ rfl rfl rfl ?_
      refine e_ 27 rfl (pe_enc a) ?_
      refine n_ (ih) ?_
      refine g_ ?_
      refine e_ 82 rfl (x':=AB false) (ab_eq ((isSh_eq o x).trans hsf)) ?_
      refine j_ rfl rfl rfl ?_
      refine e_ 88 rfl (pe_enc b) ?_
      refine c_ (ih2) ?_
      refine c_ (apply_p o x y hx hy) ?_
      refine c_ (some_p _ _) ?_;refine q_ ?_;cases applyC o x y<;>exact .refl
  ·simp only [sz,szl] at hn
   have ih:=value_p s hs N a (by omega) (wfK1 hw) h3
   rw [encK_eq] at ih
   simp only [encK,encKl]
   cases ha:valM s a with
   |none=>
    rw [ha] at ih
    have e:valM s ⟨6,0,t,0,0,[a]⟩=none:=by simp [valM,valMl,combM,ha]
    rw [e]
    refine p_ tt_ok Tryz.func175 105 fun w0 h0 F hgs=>?_
    (refine b_ fun bx=>?_;refine y_ ?_)
    refine j_ rfl rfl rfl ?_
    refine e_ 27 rfl (pe_enc a) ?_
    refine c_ (ih) ?_;refine q_ ?_;exact .refl
   |some x=>
    rw [ha] at ih
    have e:valM s ⟨6,0,t,0,0,[a]⟩=convC t x:=by simp [valM,valMl,combM,ha]
    rw [e,conv_fits]
    refine p_ tt_ok Tryz.func175 105 fun w0 h0 F hgs=>?_
    (refine b_ fun bx=>?_;refine y_ ?_)
    refine j_ rfl rfl rfl ?_
    refine e_ 27 rfl (pe_enc a) ?_
    refine c_ (ih) ?_
    refine n_ (fits_p _ _) ?_
    refine c_ (some_p _ _) ?_;refine q_ ?_;exact .refl
theorem rvalue_p(s:List (List Int))(hs:wfS s): ∀(N:Nat) (e:KE),sz e≤N→wfK e→fine e=true→Pure Tryz.prog gs0 100 [rowsA s,encK e] (optA (valM s e))
 |0,e,hn,_,_=>by have:=sz_pos e;omega
 |N+1,e,hn,hw,hf=>by
  have hb0:=i32_0
  rcases fine_cases hf with ⟨n,rfl⟩|⟨v,h1,h2,rfl⟩|⟨v,a,h1,h2,h3,rfl⟩|⟨o,a,h1,h2,h3,rfl⟩|⟨o,a,b,h1,h2,h3,h4,rfl⟩|⟨t,a,h1,h2,h3,rfl⟩
  ·simp only [encK,encKl]
   refine p_ tt_ok Tryz.func100 97 fun w0 h0 F hgs=>?_
   (refine b_ fun bx=>?_;refine y_ ?_);refine q_ ?_;exact .refl
  ·simp only [encK,encKl]
   refine p_ tt_ok Tryz.func100 97 fun w0 h0 F hgs=>?_
   (refine b_ fun bx=>?_;refine y_ ?_);refine c_ (rat_p _ _ _) ?_;refine q_ ?_;exact .refl
  ·simp only [sz,szl] at hn
   have ih:=rvalue_p s hs N a (by omega) (wfK1 hw) h3
   have hi:=valM_in hs N a (by omega) (wfK1 hw) h3
   rw [encK_eq] at ih
   simp only [encK,encKl]
   cases ha:valM s a with
   |none=>
    rw [ha] at ih
    have e:valM s ⟨3,0,0,0,v,[a]⟩=none:=by simp [valM,valMl,combM,ha]
    rw [e]
    refine p_ tt_ok Tryz.func100 97 fun w0 h0 F hgs=>?_
    (refine b_ fun bx=>?_;refine y_ ?_)
    refine j_ rfl rfl rfl ?_
    refine e_ 27 rfl (pe_enc a) ?_
    refine c_ (ih) ?_;refine q_ ?_;exact .refl
   |some x=>
    rw [ha] at ih
    have hx:=hi x ha
    have e:valM s ⟨3,0,0,0,v,[a]⟩=atM s v x:=by simp [valM,valMl,combM,ha]
    rw [e]
    refine p_ tt_ok Tryz.func100 97 fun w0 h0 F hgs=>?_
    (refine b_ fun bx=>?_;refine y_ ?_)
    refine j_ rfl rfl rfl ?_
    refine e_ 27 rfl (pe_enc a) ?_
    refine c_ (ih) ?_
    refine A.valE 42 rfl (x':=AI x) (ai_eq (w64_32 hx)) ?_
    refine c_ (rat_p _ _ _) ?_;refine q_ ?_;exact .refl
  ·simp only [sz,szl] at hn
   have ih:=rvalue_p s hs N a (by omega) (wfK1 hw) h3
   have hi:=valM_in hs N a (by omega) (wfK1 hw) h3
   rw [encK_eq] at ih
   simp only [encK,encKl]
   cases ha:valM s a with
   |none=>
    rw [ha] at ih
    have e:valM s ⟨4,o,0,0,0,[a]⟩=none:=by simp [valM,valMl,combM,ha]
    rw [e]
    refine p_ tt_ok Tryz.func100 97 fun w0 h0 F hgs=>?_
    (refine b_ fun bx=>?_;refine y_ ?_)
    refine j_ rfl rfl rfl ?_
    refine e_ 27 rfl (pe_enc a) ?_
    refine c_ (ih) ?_;refine q_ ?_;exact .refl
   |some x=>
    rw [ha] at ih
    have hx:=hi x ha
    have e:valM s ⟨4,o,0,0,0,[a]⟩=applyC o x 0:=by simp [valM,valMl,combM,ha]
    rw [e]
    refine p_ tt_ok Tryz.func100 97 fun w0 h0 F hgs=>?_
    (refine b_ fun bx=>?_;refine y_ ?_)
    refine j_ rfl rfl rfl ?_
    refine e_ 27 rfl (pe_enc a) ?_
    refine c_ (ih) ?_
    refine c_ (rapply_p o x 0 hx hb0) ?_;refine q_ ?_;exact .refl
  ·simp only [sz,szl] at hn
   have:=sz_pos a
   have:=sz_pos b
   have ih:=rvalue_p s hs N a (by omega) (wfK2 hw).1 h3
   have ih2:=rvalue_p s hs N b (by omega) (wfK2 hw).2 h4
   have hi:=valM_in hs N a (by omega) (wfK2 hw).1 h3
   have hi2:=valM_in hs N b (by omega) (wfK2 hw).2 h4
   rw [encK_eq] at ih ih2
   simp only [encK,encKl]
   cases ha:valM s a with
   |none=>
    rw [ha] at ih
    have e:valM s ⟨5,o,0,0,0,[a,b]⟩=none:=by simp [valM,valMl,combM,ha]
    rw [e]
    refine p_ tt_ok Tryz.func100 97 fun w0 h0 F hgs=>?_
    (refine b_ fun bx=>?_;refine y_ ?_)
    refine j_ rfl rfl rfl ?_
    refine e_ 27 rfl (pe_enc a) ?_
    refine c_ (ih) ?_;refine q_ ?_;exact .refl
   |some x=>
    rw [ha] at ih
    have hx:=hi x ha
    by_cases hsh:isSh o x=true
    ·have e:valM s ⟨5,o,0,0,0,[a,b]⟩=some x:=by simp [valM,valMl,combM,ha,hsh]
     rw [e]
     refine p_ tt_ok Tryz.func100 97 fun w0 h0 F hgs=>?_
     (refine b_ fun bx=>?_;refine y_ ?_)
     refine j_ rfl rfl rfl ?_
     refine e_ 27 rfl (pe_enc a) ?_
     refine n_ (ih) ?_
     refine g_ ?_
     refine e_ 77 rfl (x':=AB true) (ab_eq ((isSh_eq o x).trans hsh)) ?_;refine q_ ?_;exact .refl
    ·have hsf:isSh o x=false:=by simpa using hsh
     cases hb:valM s b with
     |none=>
      rw [hb] at ih2
      have e:valM s ⟨5,o,0,0,0,[a,b]⟩=none:=by simp [valM,valMl,combM,ha,hb,hsf]
      rw [e]
      refine p_ tt_ok Tryz.func100 97 fun w0 h0 F hgs=>?_
      (refine b_ fun bx=>?_;refine y_ ?_)
      refine j_ rfl rfl rfl ?_
      refine e_ 27 rfl (pe_enc a) ?_
      refine n_ (ih) ?_
      refine g_ ?_
      refine e_ 77 rfl (x':=AB false) (ab_eq ((isSh_eq o x).trans hsf)) ?_
      refine j_ rfl rfl rfl ?_
      refine e_ 83 rfl (pe_enc b) ?_
      refine c_ (ih2) ?_;refine q_ ?_;exact .refl
     |some y=>
      rw [hb] at ih2
      have hy:=hi2 y hb
      have e:valM s ⟨5,o,0,0,0,[a,b]⟩=applyC o x y:=by simp [valM,valMl,combM,ha,hb,hsf]
      rw [e]
      refine p_ tt_ok Tryz.func100 97 fun w0 h0 F hgs=>?_
      (refine b_ fun bx=>?_;refine y_ ?_)
      refine j_ rfl rfl rfl ?_
      refine e_ 27 rfl (pe_enc a) ?_
      refine n_ (ih) ?_
      refine g_ ?_
      refine e_ 77 rfl (x':=AB false) (ab_eq ((isSh_eq o x).trans hsf)) ?_
      refine j_ rfl rfl rfl ?_
      refine e_ 83 rfl (pe_enc b) ?_
      refine c_ (ih2) ?_
      refine c_ (rapply_p o x y hx hy) ?_;refine q_ ?_;exact .refl
  ·simp only [sz,szl] at hn
   have ih:=rvalue_p s hs N a (by omega) (wfK1 hw) h3
   rw [encK_eq] at ih
   simp only [encK,encKl]
   cases ha:valM s a with
   |none=>
    rw [ha] at ih
    have e:valM s ⟨6,0,t,0,0,[a]⟩=none:=by simp [valM,valMl,combM,ha]
    rw [e]
    refine p_ tt_ok Tryz.func100 97 fun w0 h0 F hgs=>?_
    (refine b_ fun bx=>?_;refine y_ ?_)
    refine j_ rfl rfl rfl ?_
    refine e_ 27 rfl (pe_enc a) ?_
    refine c_ (ih) ?_;refine q_ ?_;exact .refl
   |some x=>
    rw [ha] at ih
    have e:valM s ⟨6,0,t,0,0,[a]⟩=convC t x:=by simp [valM,valMl,combM,ha]
    rw [e]
    refine p_ tt_ok Tryz.func100 97 fun w0 h0 F hgs=>?_
    (refine b_ fun bx=>?_;refine y_ ?_)
    refine j_ rfl rfl rfl ?_
    refine e_ 27 rfl (pe_enc a) ?_
    refine c_ (ih) ?_
    refine c_ (conv_p _ _) ?_;refine q_ ?_;exact .refl
theorem Value_p(s:List (List Int))(hs:wfS s)(e:KE)(hw:wfK e):Pure Tryz.prog gs0 151 [rowsA s,encK e] (optA (valueM s e)):=by
 have hp:=evalid_p e hw
 have hv:=fun h=>value_p s hs _ e (Nat.le_refl _) hw h
 rw [encK_eq] at hp⊢
 simp only [encK_eq] at hv
 by_cases h:valid e
 ·have hv:=hv h.1
  rw [valueM,if_pos h];rw [decide_eq_true h] at hp
  refine p_ tt_ok Tryz.func151 14 fun w0 h0 F hgs=>?_
  (refine b_ fun bx=>?_;refine y_ ?_);refine c_ (hp) ?_;refine c_ (hv) ?_;refine q_ ?_;exact .refl
 ·rw [valueM,if_neg h];rw [decide_eq_false h] at hp
  refine p_ tt_ok Tryz.func151 14 fun w0 h0 F hgs=>?_
  (refine b_ fun bx=>?_;refine y_ ?_);refine c_ (hp) ?_;refine q_ ?_;exact .refl
theorem rValue_p(s:List (List Int))(hs:wfS s)(e:KE)(hw:wfK e):Pure Tryz.prog gs0 52 [rowsA s,encK e] (optA (valueM s e)):=by
 have hp:=rvalid_p e hw
 have hv:=fun h=>rvalue_p s hs _ e (Nat.le_refl _) hw h
 rw [encK_eq] at hp⊢
 simp only [encK_eq] at hv
 by_cases h:valid e
 ·have hv:=hv h.1
  rw [valueM,if_pos h];rw [decide_eq_true h] at hp
  refine p_ tt_ok Tryz.func52 14 fun w0 h0 F hgs=>?_
  (refine b_ fun bx=>?_;refine y_ ?_);refine c_ (hp) ?_;refine c_ (hv) ?_;refine q_ ?_;exact .refl
 ·rw [valueM,if_neg h];rw [decide_eq_false h] at hp
  refine p_ tt_ok Tryz.func52 14 fun w0 h0 F hgs=>?_
  (refine b_ fun bx=>?_;refine y_ ?_);refine c_ (hp) ?_;refine q_ ?_;exact .refl
abbrev numE(n:Int):KE:=⟨1,0,0,n,0,[]⟩
def lens(s:List (List Int)):Nat:=(s.map List.length).sum
abbrev encP(v:Int)(l:List KE):AV:= .ag [AI v, .sl 6 (encKl l) none]
def placeM(s:List (List Int))(v:Int):List KE→Option (Int×Int)
 | []=>if (atM s v 0).isSome then some (v,0) else none
 | [e]=>match valueM s e with
   |some x=>if (atM s v x).isSome then some (v,x) else none
   |none=>none
 |_=>none
abbrev optP(x:Option (Int×Int)):AV:= .tp [AI (x.getD (0,0)).1,AI (x.getD (0,0)).2,AB x.isSome]
theorem Place_p(s:List (List Int))(hs:wfS s)(v:Int)(l:List KE)(hw:wfKl l)(hn:l.length≤281474976710656):Pure Tryz.prog gs0 117 [rowsA s,encP v l] (optP (placeM s v l)):=by
 have hl:=encKl_len l
 match l,hw,hn,hl with
 | [],hw,hn,hl=>
   unfold placeM
   cases h:atM s v 0 with
   |none=>
    have hp:=at_p s v 0
    rw [h] at hp
    refine p_ tt_ok Tryz.func117 42 fun w0 h0 F hgs=>?_
    (refine b_ fun bx=>?_;refine y_ ?_);refine c_ (hp) ?_;refine A.ret3 (Λ':=[]) rfl rfl rfl rfl rfl (List.nil_sublist _) ⟨?_,rfl⟩;exact .refl
   |some y=>
    have hp:=at_p s v 0
    rw [h] at hp
    refine p_ tt_ok Tryz.func117 42 fun w0 h0 F hgs=>?_
    (refine b_ fun bx=>?_;refine y_ ?_);refine c_ (hp) ?_;refine A.ret3 (Λ':=[]) rfl rfl rfl rfl rfl (List.nil_sublist _) ⟨?_,rfl⟩;exact .refl
 | [e],hw,hn,hl=>
   unfold placeM
   simp only [wfKl] at hw
   have hv:=Value_p s hs e hw.1
   rw [encK_eq] at hv
   simp only [encP,encKl]
   cases hx:valueM s e with
   |none=>
    rw [hx] at hv
    refine p_ tt_ok Tryz.func117 42 fun w0 h0 F hgs=>?_
    (refine b_ fun bx=>?_;refine y_ ?_)
    refine j_ rfl rfl rfl ?_
    refine e_ 20 rfl (pe_enc e) ?_;refine c_ (hv) ?_;refine A.ret3 (Λ':=[]) rfl rfl rfl rfl rfl (List.nil_sublist _) ⟨?_,rfl⟩;exact .refl
   |some x=>
    rw [hx] at hv
    have hxi:=valueM_in hs hw.1 x hx
    cases h:atM s v x with
    |none=>
     have hp:=at_p s v x
     rw [h] at hp
     simp only [h]
     refine p_ tt_ok Tryz.func117 42 fun w0 h0 F hgs=>?_
     (refine b_ fun bx=>?_;refine y_ ?_)
     refine j_ rfl rfl rfl ?_
     refine e_ 20 rfl (pe_enc e) ?_;refine c_ (hv) ?_
     refine A.valE 33 rfl (x':=AI x) (ai_eq (w64_32 hxi)) ?_
     refine c_ (hp) ?_;refine A.ret3 (Λ':=[]) rfl rfl rfl rfl rfl (List.nil_sublist _) ⟨?_,rfl⟩;exact .refl
    |some y=>
     have hp:=at_p s v x
     rw [h] at hp
     simp only [h]
     refine p_ tt_ok Tryz.func117 42 fun w0 h0 F hgs=>?_
     (refine b_ fun bx=>?_;refine y_ ?_)
     refine j_ rfl rfl rfl ?_
     refine e_ 20 rfl (pe_enc e) ?_;refine c_ (hv) ?_
     refine A.valE 33 rfl (x':=AI x) (ai_eq (w64_32 hxi)) ?_
     refine A.valE 5 rfl (x':=AI x) (ai_eq (w64_32 hxi)) ?_
     refine c_ (hp) ?_;refine A.ret3 (Λ':=[]) rfl rfl rfl rfl rfl (List.nil_sublist _) ⟨?_,rfl⟩;exact .refl
 |e::b::r,hw,hn,hl=>
  unfold placeM
  refine p_ tt_ok Tryz.func117 42 fun w0 h0 F hgs=>?_
  (refine b_ fun bx=>?_;refine y_ ?_);refine A.ret3 (Λ':=[]) rfl rfl rfl rfl rfl (List.nil_sublist _) ⟨?_,rfl⟩;exact .refl
theorem rPlace_p(s:List (List Int))(hs:wfS s)(v:Int)(l:List KE)(hw:wfKl l)(hn:l.length≤281474976710656):Pure Tryz.prog gs0 104 [rowsA s,encP v l] (optP (placeM s v l)):=by
 have hl:=encKl_len l
 match l,hw,hn,hl with
 | [],hw,hn,hl=>
   unfold placeM
   cases h:atM s v 0 with
   |none=>
    have hp:=rat_p s v 0
    rw [h] at hp
    refine p_ tt_ok Tryz.func104 47 fun w0 h0 F hgs=>?_
    (refine b_ fun bx=>?_;refine y_ ?_);refine c_ (hp) ?_;refine A.ret3 (Λ':=[]) rfl rfl rfl rfl rfl (List.nil_sublist _) ⟨?_,rfl⟩;exact .refl
   |some y=>
    have hp:=rat_p s v 0
    rw [h] at hp
    refine p_ tt_ok Tryz.func104 47 fun w0 h0 F hgs=>?_
    (refine b_ fun bx=>?_;refine y_ ?_);refine c_ (hp) ?_;refine A.ret3 (Λ':=[]) rfl rfl rfl rfl rfl (List.nil_sublist _) ⟨?_,rfl⟩;exact .refl
 | [e],hw,hn,hl=>
   unfold placeM
   simp only [wfKl] at hw
   have hv:=rValue_p s hs e hw.1
   rw [encK_eq] at hv
   simp only [encP,encKl]
   cases hx:valueM s e with
   |none=>
    rw [hx] at hv
    refine p_ tt_ok Tryz.func104 47 fun w0 h0 F hgs=>?_
    (refine b_ fun bx=>?_;refine y_ ?_)
    refine j_ rfl rfl rfl ?_
    refine e_ 24 rfl (pe_enc e) ?_;refine c_ (hv) ?_;refine A.ret3 (Λ':=[]) rfl rfl rfl rfl rfl (List.nil_sublist _) ⟨?_,rfl⟩;exact .refl
   |some x=>
    rw [hx] at hv
    have hxi:=valueM_in hs hw.1 x hx
    cases h:atM s v x with
    |none=>
     have hp:=rat_p s v x
     rw [h] at hp
     simp only [h]
     refine p_ tt_ok Tryz.func104 47 fun w0 h0 F hgs=>?_
     (refine b_ fun bx=>?_;refine y_ ?_)
     refine j_ rfl rfl rfl ?_
     refine e_ 24 rfl (pe_enc e) ?_;refine c_ (hv) ?_
     refine A.valE 37 rfl (x':=AI x) (ai_eq (w64_32 hxi)) ?_
     refine c_ (hp) ?_;refine A.ret3 (Λ':=[]) rfl rfl rfl rfl rfl (List.nil_sublist _) ⟨?_,rfl⟩;exact .refl
    |some y=>
     have hp:=rat_p s v x
     rw [h] at hp
     simp only [h]
     refine p_ tt_ok Tryz.func104 47 fun w0 h0 F hgs=>?_
     (refine b_ fun bx=>?_;refine y_ ?_)
     refine j_ rfl rfl rfl ?_
     refine e_ 24 rfl (pe_enc e) ?_;refine c_ (hv) ?_
     refine A.valE 37 rfl (x':=AI x) (ai_eq (w64_32 hxi)) ?_
     refine c_ (hp) ?_;refine A.valE 5 rfl (x':=AI x) (ai_eq (w64_32 hxi)) ?_;refine A.ret3 (Λ':=[]) rfl rfl rfl rfl rfl (List.nil_sublist _) ⟨?_,rfl⟩;exact .refl
 |e::b::r,hw,hn,hl=>
  unfold placeM
  refine p_ tt_ok Tryz.func104 47 fun w0 h0 F hgs=>?_
  (refine b_ fun bx=>?_;refine y_ ?_)
  refine e_ 15 rfl (x':=AB true) (ab_eq (by rw [hl];simp;omega)) ?_;refine A.ret3 (Λ':=[]) rfl rfl rfl rfl rfl (List.nil_sublist _) ⟨?_,rfl⟩;exact .refl
abbrev growV(s:Nat×Nat):Value:= .slice (some ⟨s.1,0,none⟩) 0 s.2
theorem grow_p(n:Nat)(hn0:0<n)(hn1:n≤1073741824):FunE Tryz.prog gs0 111 [.v (.slice none 0 0),AI (n:Nat)] [] (fun s:Nat×Nat=> .sl ty31.size [] (some (growV s))) (fun s=>[.tail ty31.size (growV s)]) (fun _=>True):=by
 refine Fun.of (S:=tt) (fn:=Tryz.f111) (n:=27) tt_ok Tryz.func111 rfl rfl rfl rfl fun w0 h0 F hgs=>?_
 refine y_ ?_
 refine A.valE 6 rfl (x':=AB false) (ab_eq (by rw [decide_eq_false_iff_not];omega)) ?_
 refine A.cap rfl rfl rfl rfl rfl rfl ?_
 refine y_ ?_
 refine A.valE 15 rfl (x':=AI (n:Nat)) (ai_eq (by rw [show IntKind.i64.wrap (((0:Nat):Int)-((0:Nat):Int))=0 from by decide,Int.sub_zero];exact wr64 _ (by omega))) ?_
 refine A.valE 16 rfl (x':=AB true) (ab_eq (by rw [show IntKind.i64.wrap (((0:Nat):Int)-((0:Nat):Int))=0 from by decide,Int.sub_zero,wr64 _ (by omega),decide_eq_true_iff];omega)) ?_
 refine e_ 1 rfl (x':=AI (n:Nat)) (ai_eq (by rw [show IntKind.i64.wrap (((0:Nat):Int)-((0:Nat):Int))=0 from by decide,Int.sub_zero];exact wr64 _ (by omega))) ?_
 refine A.cap rfl rfl rfl rfl rfl rfl ?_
 refine A.sliceV rfl rfl rfl rfl rfl rfl rfl rfl (by decide) (by decide) (by decide) (by simp) rfl rfl ?_
 refine y_ ?_
 refine A.appendZ rfl rfl rfl rfl rfl rfl rfl rfl rfl rfl rfl rfl rfl rfl hn0 hn1 fun b cp hcp=>?_
 refine y_ ?_
 refine A.sliceV rfl rfl rfl rfl rfl rfl rfl rfl (by decide) (by decide) (by show (0:Int)≤(cp:Nat);omega) (by simp) rfl rfl ?_
 refine y_ ?_
 refine A.valE 4 rfl (x':= .v (growV (b,cp))) (by congr 1;show Value.slice (if cp=0 then _ else _) _ _=_;by_cases hc0:cp=0<;>simp [hc0,growV,Go.Addr.add]) ?_
 refine A.rawEmpty 4 ty31.size rfl ?_
 refine A.ret1 (Λ':=[.tail _ _]) rfl rfl rfl sl_ ⟨(b,cp), .refl,rfl,trivial⟩
theorem concat_p(a b:List AV)(h0:0<a.length)(hab:a.length+b.length≤134217728):Pure Tryz.prog gs0 70 [.sl 1 [.sl 8 a none, .sl 8 b none] none] (.sl 8 (a++b) none):=by
 have hg:=grow_p (a.length+b.length) (by omega) (by omega)
 refine p_ tt_ok Tryz.func70 36 fun w0 h0 F hgs=>?_
 refine y_ ?_
 refine A.loop1 ?_
 refine y_ ?_
 refine i_ rfl rfl rfl ?_
 refine A.valE 18 rfl (x':=AI (a.length:Nat)) (ai_eq (by rw [Int.zero_add];exact wr64 _ (by omega))) ?_
 refine A.valE 3 rfl (x':=AI (a.length:Nat)) (ai_eq (by rw [Int.zero_add];exact wr64 _ (by omega))) ?_
 refine e_ 20 rfl (x':=AB false) (ab_eq (by rw [Int.zero_add,wr64 _ (by omega),decide_eq_false_iff_not];omega)) ?_
 refine A.again ?_
 refine y_ ?_
 refine i_ rfl rfl rfl ?_
 refine A.valE 18 rfl (x':=AI ((a.length+b.length:Nat):Int)) (ai_eq (by rw [Int.natCast_add];exact wr64 _ (by omega))) ?_
 refine A.valE 3 rfl (x':=AI ((a.length+b.length:Nat):Int)) (ai_eq (by rw [Int.natCast_add];exact wr64 _ (by omega))) ?_
 refine e_ 20 rfl (x':=AB false) (ab_eq (by rw [wr64 _ (by omega),decide_eq_false_iff_not];omega)) ?_
 refine A.again ?_
 refine y_ ?_
 refine A.e rfl hg .refl (List.Perm.refl _) fun s _=>?_
 refine y_ ?_
 refine A.loop1 ?_
 refine y_ ?_
 refine i_ rfl rfl rfl ?_
 refine A.append rfl rfl rfl rfl rfl rfl rfl rfl rfl rfl rfl rfl rfl rfl (by show (0+a.length)*8≤_;omega) fun z1=>?_
 refine y_ ?_
 refine A.again ?_
 refine y_ ?_
 refine i_ rfl rfl rfl ?_
 refine A.append rfl rfl rfl rfl rfl rfl rfl rfl rfl rfl rfl rfl rfl rfl (by show (([]++a).length+b.length)*8≤_;rw [List.nil_append];omega) fun z2=>?_
 refine y_ ?_
 refine A.again ?_
 refine y_ ?_
 refine R_ ?_
 exact .own1
abbrev AUL(n:Int):AV:= .v (.int .u64 n)
theorem wrU(n:Nat)(hn:n<18446744073709551616):IntKind.u64.wrap (n:Nat)=(n:Nat):=by
 show ((n:Int) % 18446744073709551616)=_
 omega
theorem low32(n:Nat)(hn:n<4294967296):bitsOf .and .u64 (n:Nat) 4294967295=(n:Nat):=by
 have h1:BitVec.ofInt 64 ((n:Nat):Int)=BitVec.ofNat 64 n:=by rw [BitVec.ofInt_natCast]
 have h2:BitVec.ofInt 64 4294967295=BitVec.ofNat 64 4294967295:=rfl
 show IntKind.u64.wrap ((BitVec.ofInt 64 ((n:Nat):Int)&&&BitVec.ofInt 64 4294967295).toNat:Int)=_
 rw [h1,h2,BitVec.toNat_and,BitVec.toNat_ofNat,BitVec.toNat_ofNat,Nat.mod_eq_of_lt (by omega),Nat.mod_eq_of_lt (by omega),show (4294967295:Nat)=2^32-1 from rfl,Nat.and_two_pow_sub_one_eq_mod,Nat.mod_eq_of_lt (by omega)]
 exact wrU n (by omega)
theorem high32(n:Nat)(hn:n<4294967296):arV .shr .u64 (n:Nat) 32=0:=by
 show ((n:Nat):Int).fdiv 4294967296=0
 rw [Int.fdiv_eq_ediv_of_nonneg _ (by decide)]
 omega
theorem aul_eq{a b:Int}(h:a=b):AUL a=AUL b:=by rw [h]
theorem mul64_p(n:Nat)(hn:n<4294967296):Pure Tryz.prog gs0 177 [AUL 1,AUL (n:Nat)] (.tp [AUL 0,AUL (n:Nat)]):=by
 refine p_ tt_ok Tryz.func177 51 fun w0 h0 F hgs=>?_
 refine y_ ?_
 refine A.valE 6 rfl (x':=AUL 1) (aul_eq (low32 1 (by omega))) ?_
 refine A.shift rfl rfl rfl rfl rfl rfl (by decide) ?_
 refine e_ 17 rfl (x':=AUL 0) (aul_eq (high32 1 (by omega))) ?_
 refine A.valE 8 rfl (x':=AUL (n:Nat)) (aul_eq (low32 n hn)) ?_
 refine A.shift rfl rfl rfl rfl rfl rfl (by decide) ?_
 refine e_ 21 rfl (x':=AUL 0) (aul_eq (high32 n hn)) ?_
 refine A.valE 10 rfl (x':=AUL (n:Nat)) (aul_eq (by rw [Int.one_mul];exact wrU n (by omega))) ?_
 refine A.shift rfl rfl rfl rfl rfl rfl (by decide) ?_
 refine A.valE 29 rfl (x':=AUL 0) (aul_eq (by rw [Int.one_mul,wrU n (by omega)];exact high32 n hn)) ?_
 refine e_ 27 rfl (x':=AUL 0) (aul_eq (by rw [Int.zero_mul];rfl)) ?_
 refine A.valE 11 rfl (x':=AUL 0) (aul_eq rfl) ?_
 refine A.valE 12 rfl (x':=AUL 0) (aul_eq (low32 0 (by omega))) ?_
 refine A.shift rfl rfl rfl rfl rfl rfl (by decide) ?_
 refine e_ 34 rfl (x':=AUL 0) (aul_eq (high32 0 (by omega))) ?_
 refine A.valE 12 rfl (x':=AUL 0) (aul_eq rfl) ?_
 refine A.shift rfl rfl rfl rfl rfl rfl (by decide) ?_
 refine e_ 46 rfl (x':=AUL 0) (aul_eq (high32 0 (by omega))) ?_
 refine q_ ?_
 refine Sb.eq ?_
 rw [Int.one_mul,wrU n (by omega)];rfl
theorem mul_p(n:Nat)(hn:n<4294967296):Pure Tryz.prog gs0 153 [AUL 1,AUL (n:Nat)] (.tp [AUL 0,AUL (n:Nat)]):=by
 refine p_ tt_ok Tryz.func153 30 fun w0 h0 F hgs=>?_
 refine y_ ?_
 refine c_ (mul64_p n hn) ?_
 refine q_ ?_
 exact .refl
abbrev skA:AV:= .ag [AU8 1,AI 0,AI 0,AU8 0, .sl 2 [] none, .sl 6 [] none, .sl 18 [] none, .sl 8 [] none]
abbrev zrA:AV:= .ag [AU8 0,AI 0,AI 0,AU8 0, .v (.slice none 0 0), .v (.slice none 0 0), .v (.slice none 0 0), .v (.slice none 0 0)]
theorem rep_step(n k:Nat)(hk:k≤n):(List.replicate k skA++List.replicate (n-k) zrA).take k++(((List.replicate k skA++List.replicate (n-k) zrA).drop 0).take (min k (n-k))++(List.replicate k skA++List.replicate (n-k) zrA).drop (k+min k (n-k)))=List.replicate (k+min k (n-k)) skA++List.replicate (n-(k+min k (n-k))) zrA:=by
 have h1:(List.replicate k skA++List.replicate (n-k) zrA).take k=List.replicate k skA:=by rw [List.take_append_of_le_length (by rw [List.length_replicate];omega),List.take_of_length_le (by rw [List.length_replicate];omega)]
 have h2:(List.replicate k skA++List.replicate (n-k) zrA).take (min k (n-k))=List.replicate (min k (n-k)) skA:=by rw [List.take_append_of_le_length (by rw [List.length_replicate];omega),List.take_replicate,Nat.min_eq_left (by omega)]
 have h3:(List.replicate k skA++List.replicate (n-k) zrA).drop (k+min k (n-k))=List.replicate (n-(k+min k (n-k))) zrA:=by rw [List.drop_append,List.length_replicate,List.drop_eq_nil_of_le (by rw [List.length_replicate];omega),List.nil_append,List.drop_replicate];congr 1;omega
 rw [List.drop_zero,h1,h2,h3,←List.append_assoc,List.replicate_append_replicate]
theorem repeat_p(n:Nat)(hn:n<134217728):Pure Tryz.prog gs0 126 [.sl 8 [skA] none,AI (n:Nat)] (.sl 8 (List.replicate n skA) none):=by
 refine p_ tt_ok Tryz.func126 48 fun w0 h0 F hgs=>?_
 refine y_ ?_
 refine A.valE 10 rfl (x':=AB false) (ab_eq (by rw [decide_eq_false_iff_not];omega)) ?_
 refine A.valE 17 rfl (x':=AUL (n:Nat)) (aul_eq (wrU n (by omega))) ?_
 refine A.valE 15 rfl (x':=AUL 1) (aul_eq rfl) ?_
 refine c_ (mul_p n (by omega)) ?_
 refine e_ 26 rfl (x':=AB false) (ab_eq (by show decide (9223372036854775807<(n:Int))=false;rw [decide_eq_false_iff_not];omega)) ?_
 refine A.valE 29 rfl (x':=AI (n:Nat)) (ai_eq (wr64 _ (by omega))) ?_
 refine A.makeV rfl rfl rfl rfl rfl rfl rfl rfl rfl rfl rfl rfl (by omega) (by show (128:Int)*_≤_;omega) (by omega) fun a cp hcp=>?_
 have hcp:n≤cp:=by simpa using hcp
 refine A.valE 30 rfl (x':= .ms (.slice a n cp) 8 n) (by rw [Int.toNat_natCast];rfl) ?_
 refine A.entsEq (Λ':=[.row 8 (.slice a n cp) (List.replicate n zrA)]) (by rw [Int.toNat_natCast];rfl) ?_
 refine y_ ?_
 by_cases hn0:n=0
 ·subst hn0
  refine A.copy0 rfl rfl rfl rfl rfl rfl rfl rfl rfl ?_
  refine y_ ?_
  refine A.loop1 ?_
  refine y_ ?_
  refine A.freezeRow 4 rfl ?_
  exact r_
 refine A.rowSome (a:=a) (n:=n) (c:=cp) (sz:=8) (l:=List.replicate n zrA) (by intro h;have:=congrArg List.length h;rw [List.length_replicate] at this;exact hn0 this) fun b o ha=>?_
 subst ha
 refine A.copyRow (l1:=List.replicate n zrA) rfl rfl rfl rfl rfl rfl rfl rfl rfl rfl rfl rfl (by intro h;have:=congrArg List.length h;rw [List.length_replicate] at this;exact hn0 this) (by rw [List.length_replicate];show 1≤n;omega) ?_
 refine y_ ?_
 refine A.msV 7 rfl rfl ?_
 have e0:[skA]++(List.replicate n zrA).drop [skA].length=List.replicate 1 skA++List.replicate (n-1) zrA:=by rw [List.drop_replicate];rfl
 refine A.entsEq (Λ':=[.row 8 (.slice (some ⟨b,o,none⟩) n cp) (List.replicate 1 skA++List.replicate (n-1) zrA)]) (by rw [e0]) ?_
 refine A.valE 8 rfl (x':=AI ((1:Nat):Int)) (ai_eq rfl) ?_
 refine A.keep [7,8] rfl ?_
 refine A.loopP (ι:=Nat) (fun k=>(⟨[(7, .v (.slice (some ⟨b,o,none⟩) n cp)),(8,AI (k:Nat))],[]⟩,[.row 8 (.slice (some ⟨b,o,none⟩) n cp) (List.replicate k skA++List.replicate (n-k) zrA)])) (fun k=>1≤k∧k≤n) (fun k=>n-k) 1 (by omega) rfl fun k hk ih=>?_
 obtain ⟨hk1,hk2⟩:=hk
 refine y_ ?_
 refine k_ (fun hc=>?_) fun hc=>?_
 ·have hc:k<n:=by simpa using hc
  have hlen:(List.replicate k skA++List.replicate (n-k) zrA).length=n:=by rw [List.length_append,List.length_replicate,List.length_replicate];omega
  refine y_ ?_
  refine A.drawR 7 8 (.slice (some ⟨b,o,none⟩) n cp) 9 [0,1,2,3,4,5,6,7,8] noPubs [] (by decide) (by kernel_rfl) (by kernel_rfl) ?_
  refine w_ ?_
  refine WA.sliceV rfl rfl rfl rfl rfl rfl rfl rfl rfl (by omega) (by omega) (by omega) (fun _=>hcp) (y:= .slice (some ⟨b,o+k*8,none⟩) (n-k) (cp-k)) ?_ rfl ?_
  ·show Value.slice (if cp=k then _ else _) _ _=_
   rw [if_neg (by omega)]
   simp only [Int.toNat_natCast,Option.map_some,Go.Addr.add]
   rw [if_neg (by show¬k*8=0;omega)]
   rfl
  refine w_ ?_
  refine WA.sliceV rfl rfl rfl rfl rfl rfl rfl rfl rfl (by omega) (by omega) (by omega) (fun h=>by cases h) (y:= .slice (some ⟨b,o+0*8,none⟩) k cp) ?_ rfl ?_
  ·show Value.slice (if cp=0 then _ else _) _ _=_
   rw [if_neg (by omega)]
   simp [Go.Addr.add]
  refine WA.copy (l':=List.replicate (k+Nat.min k (n-k)) skA++List.replicate (n-(k+Nat.min k (n-k))) zrA) k 0 (Nat.min k (n-k)) rfl rfl rfl rfl rfl rfl rfl rfl rfl rfl rfl rfl rfl rfl rfl rfl rfl rfl rfl rfl rfl ?_ ?_ (by intro h;have:=congrArg List.length h;rw [hlen] at this;exact hn0 this) ?_ ?_
  ·rw [hlen];have:=Nat.min_le_right k (n-k);show k+min k (n-k)≤n;omega
  ·rw [hlen];have:=Nat.min_le_right k (n-k);show 0+min k (n-k)≤n;omega
  ·exact rep_step n k hk2
  refine w_ ?_
  refine WA.valE 46 rfl (x':=AI ((k+min k (n-k):Nat):Int)) (ai_eq (by rw [Int.natCast_add];exact wr64 _ (by have h:Nat.min k (n-k)≤n-k:=Nat.min_le_right _ _;omega))) ?_
  refine WA.nil (l:=[_]) rfl ?_
  refine y_ ?_
  refine l_ (Λ':=[.row 8 (.slice (some ⟨b,o,none⟩) n cp) (List.replicate (k+min k (n-k)) skA++List.replicate (n-(k+min k (n-k))) zrA)]) ?_
  refine u_ (ih (k+min k (n-k)) (by have:=Nat.min_le_right k (n-k);omega) (by have h1:1≤min k (n-k):=(by omega);have h2:=Nat.min_le_right k (n-k);show n-(k+min k (n-k))<n-k;omega))
 have hc: ¬k<n:=by simpa using hc
 have hkn:k=n:=by omega
 subst hkn
 refine A.entsEq (Λ':=[.row 8 (.slice (some ⟨b,o,none⟩) k cp) (List.replicate k skA)]) (by rw [Nat.sub_self,List.replicate_zero,List.append_nil]) ?_
 refine y_ ?_
 refine A.vMs 4 8 rfl ?_
 refine A.freezeRow 4 rfl ?_
 exact r_
theorem rowE_at{α:Type}{enc:α→AV}{Z:AV}{l:List α}{i:Nat}{x:α}(hx:l[i]? =some x):(rowE enc Z l (i+1))[i]? =some (enc x):=by
 have hi:i<l.length:=by
  rcases Nat.lt_or_ge i l.length with h|h
  ·exact h
  ·rw [List.getElem?_eq_none h] at hx;cases hx
 rw [rowE,List.getElem?_append_left (by rw [List.length_map,List.length_take];omega),List.getElem?_map,List.getElem?_take_of_lt (by omega),hx];rfl
theorem pnormP_a(p:PR)(hk:bothB p=true)(hs:smR p)(hrec: ∀x,x∈p.l→Pure Tryz.prog gs0 34 [cellsR x] (cellsR (normR x))):Pure Tryz.prog gs0 34 [cellsR p] (cellsR (normR p)):=by
 have h1:=branches_p p
 rw [hk] at h1
 have hlen:((encRl p.l).length:Int)=p.l.length:=by rw [encRl_len]
 have hS:=smR_all hs
 have hlb:=hS.lb
 refine Exists.elim (show∃R,R=normR p from ⟨_,rfl⟩) fun R hR=>?_
 rw [←hR]
 rw [normR_par hk] at hR
 refine p_ tt_ok Tryz.func34 74 fun w0 h0 F hgs=>?_
 refine y_ ?_
 refine A.b rfl fun b1=>?_
 refine A.b rfl fun b2=>?_
 refine y_ ?_
 refine c_ h1 ?_
 refine A.valE 14 rfl (x':=AI (p.l.length:Nat)) (ai_eq hlen) ?_
 refine A.makeV rfl rfl rfl rfl rfl rfl rfl rfl rfl rfl rfl rfl (by omega) (by show (128:Int)*_≤_;omega) (by omega) fun a cp hcp=>?_
 refine e_ 15 rfl (x':= .ms (.slice a p.l.length cp) 8 p.l.length) (by rw [Int.toNat_natCast];rfl) ?_
 refine A.valE 18 rfl (x':=AI (p.l.length:Nat)) (ai_eq hlen) ?_
 refine A.keep [1,2,3,4,17,18,19] rfl ?_
 refine Exists.elim (show∃Z,Z=AV.ag [AU8 0,AI 0,AI 0,AU8 0, .v (.slice none 0 0), .v (.slice none 0 0), .v (.slice none 0 0), .v (.slice none 0 0)] from ⟨_,rfl⟩) fun Z hZ=>?_
 refine A.entsEq (Λ':=[.row 8 (.slice a p.l.length cp) (rowE (fun x=>cellsR (normR x)) Z p.l 0), .box b2 Z, .box b1 (cellsR p)]) (by rw [hZ,rowE,Int.toNat_natCast];rfl) ?_
 refine A.loopP (ι:=Nat) (fun i=>(⟨[(1, .v (.pointer (some ⟨b1,0,none⟩))),(2, .v (.pointer (some ⟨b2,0,none⟩))),(3, .ms (.slice a p.l.length cp) 8 p.l.length),(4,AB (((p.l.take i).map normR).all doneR)),(17,rsA p.l),(18,AI (p.l.length:Nat)),(19,AI (i:Nat))],[]⟩,[.row 8 (.slice a p.l.length cp) (rowE (fun x=>cellsR (normR x)) Z p.l i), .box b2 Z, .box b1 (cellsR p)]))
  (fun i=>i≤p.l.length) (fun i=>p.l.length-i) 0 (Nat.zero_le _) rfl fun i hi ih=>?_
 refine y_ ?_
 refine k_ (fun hc=>?_) fun hc=>?_
 ·have hci:i<p.l.length:=by simpa using hc
  clear hc
  refine Exists.elim (at_exN (l:=p.l) (i:=i) hci) fun x hx=>?_
  have hx1:=hrec x (List.mem_of_getElem? hx)
  have hx2:=done_p (normR x) (norm_sm (hS.l x (List.mem_of_getElem? hx)))
  have hta:=all_take hx
  have hat:=rowE_at (enc:=fun x=>cellsR (normR x)) (Z:=Z) hx
  have hln:(rowE (fun x=>cellsR (normR x)) Z p.l i).length=p.l.length:=rowE_len hi
  have hln':(rowE (fun x=>cellsR (normR x)) Z p.l (i+1)).length=p.l.length:=rowE_len (by omega)
  refine y_ ?_
  refine j_ rfl (encRl_at hx) (encR_eq x) ?_
  (refine b_ fun bx=>?_;refine y_ ?_)
  refine n_ hx1 ?_
  refine A.indexRow rfl rfl rfl rfl rfl rfl rfl rfl (by show (0:Int)≤(i:Nat);omega) (by rw [hln];omega) rfl ?_
  refine A.storeRow rfl rfl rfl rfl rfl rfl rfl rfl rfl (by rw [hln];show i<_;omega) (xs':=rowE (fun x=>cellsR (normR x)) Z p.l (i+1)) (rowE_set (enc:=fun x=>cellsR (normR x)) (i:=i) hx) ?_
  refine y_ ?_
  ((fail_if_success (refine A.lit? rfl ?_));refine A.gS rfl (fun hc=>?_) (fun hc=>?_))
  ·have hc1:((p.l.take i).map normR).all doneR=true:=hc
   rw [hc1,Bool.true_and] at hta
   refine y_ ?_
   refine A.indexRow rfl rfl rfl rfl rfl rfl rfl rfl (by show (0:Int)≤(i:Nat);omega) (by rw [hln'];omega) rfl ?_
   refine A.loadRow rfl rfl rfl rfl rfl rfl (y':=cellsR (normR x)) rfl hat rfl rfl ?_
   refine c_ hx2 ?_
   refine A.valE 4 rfl (x':=AB (((p.l.take (i+1)).map normR).all doneR)) (ab_eq hta.symm) ?_
   refine A.valE 19 rfl (x':=AI ((i+1:Nat):Int)) (inc_eq i (by omega)) ?_
   refine l_ (Λ':=[.row 8 (.slice a p.l.length cp) (rowE (fun x=>cellsR (normR x)) Z p.l (i+1)), .box b2 Z, .box b1 (cellsR p)]) ?_
   refine u_ (ih (i+1) (by omega) (by omega))
  ·have hc1:((p.l.take i).map normR).all doneR=false:=hc
   rw [hc1,Bool.false_and] at hta
   refine y_ ?_
   refine A.valE 4 rfl (x':=AB (((p.l.take (i+1)).map normR).all doneR)) (ab_eq (by rw [hta])) ?_
   refine A.valE 19 rfl (x':=AI ((i+1:Nat):Int)) (inc_eq i (by omega)) ?_
   refine l_ (Λ':=[.row 8 (.slice a p.l.length cp) (rowE (fun x=>cellsR (normR x)) Z p.l (i+1)), .box b2 Z, .box b1 (cellsR p)]) ?_
   refine u_ (ih (i+1) (by omega) (by omega))
 have hci: ¬i<p.l.length:=by simpa using hc
 have hil:i=p.l.length:=by omega
 clear hc
 refine A.entsEq (Λ':=[.row 8 (.slice a p.l.length cp) (encRl (p.l.map normR)), .box b2 (.ag [AU8 0,AI 0,AI 0,AU8 0, .v (.slice none 0 0), .v (.slice none 0 0), .v (.slice none 0 0), .v (.slice none 0 0)]), .box b1 (cellsR p)]) (by rw [hil,rowE_full,encRl_cells,List.map_map,hZ];rfl) ?_
 refine y_ ?_
 ((fail_if_success (refine A.lit? rfl ?_));refine A.gS rfl (fun hc=>?_) (fun hc=>?_))
 ·have hc1:((p.l.take i).map normR).all doneR=true:=hc
  rw [hil,List.take_length] at hc1
  rw [if_pos hc1] at hR
  rw [hR]
  refine y_ ?_
  refine c_ skip_p ?_;refine A.retC (Λ':=[]) rfl rfl rfl rfl rfl (List.nil_sublist _) ⟨?_,rfl⟩;exact .refl
 ·have hc1:((p.l.take i).map normR).all doneR=false:=hc
  rw [hil,List.take_length] at hc1
  rw [if_neg (by rw [hc1];decide)] at hR
  rw [hR]
  refine A.freezeRow 3 rfl ?_
  refine y_ ?_;refine A.retC (Λ':=[]) rfl rfl rfl rfl rfl (List.nil_sublist _) ⟨?_,rfl⟩;exact .refl
theorem pnormE{p:PR}(h:bothB p=false)(h':p.kind≠9):Pure Tryz.prog gs0 34 [cellsR p] (cellsR p):=by
 have h1:=branches_p p
 rw [h] at h1
 refine p_ tt_ok Tryz.func34 74 fun w0 h0 F hgs=>?_
 (refine b_ fun bx=>?_;refine b_ fun bx=>?_;refine y_ ?_)
 refine c_ h1 ?_
 refine e_ 42 rfl (x':=AB false) (ab_eq (beq_eq_false_iff_ne.2 h')) ?_;refine A.retC (Λ':=[]) rfl rfl rfl rfl rfl (List.nil_sublist _) ⟨?_,rfl⟩;exact .refl
theorem pnormS(p:PR)(h9:p.kind=9)(hs:smR p)(hl:p.l.length≤134217728)(hrec: ∀x,x∈p.l→Pure Tryz.prog gs0 34 [cellsR x] (cellsR (normR x))):Pure Tryz.prog gs0 34 [cellsR p] (cellsR (normR p)):=by
 have h1:=branches_p p
 have hb:bothB p=false:=by unfold bothB;rw [h9];rfl
 rw [hb] at h1
 have hS:=smR_all hs
 obtain ⟨k,c,v,it,to,e,gs,l⟩:=p
 have h9:k=9:=h9
 subst h9
 refine Exists.elim (show∃R,R=normR ⟨9,c,v,it,to,e,gs,l⟩ from ⟨_,rfl⟩) fun R hR=>?_
 rw [←hR]
 rw [normR_seq (p:=⟨9,c,v,it,to,e,gs,l⟩) rfl] at hR
 generalize hf:(fun l':List PR=>(⟨9,c,v,it,to,e,gs,l'⟩:PR))=f at hR
 refine p_ tt_ok Tryz.func34 74 fun w0 h0 F hgs=>?_
 refine y_ ?_
 refine A.b rfl fun b1=>?_
 refine A.b rfl fun b2=>?_
 refine y_ ?_
 refine c_ h1 ?_
 refine A.keep [1,2,7] rfl ?_
 refine Exists.elim (show∃Z,Z=AV.ag [AU8 0,AI 0,AI 0,AU8 0, .v (.slice none 0 0), .v (.slice none 0 0), .v (.slice none 0 0), .v (.slice none 0 0)] from ⟨_,rfl⟩) fun Z hZ=>?_
 refine A.entsEq (Λ':=[.box b2 Z, .box b1 (cellsR ⟨9,c,v,it,to,e,gs,l⟩)]) (by rw [hZ];rfl) ?_
 refine A.loopP (ι:=List PR) (fun r=>(⟨[(1, .v (.pointer (some ⟨b1,0,none⟩))),(2, .v (.pointer (some ⟨b2,0,none⟩))),(7,rsA r)],[]⟩,[.box b2 Z, .box b1 (cellsR ⟨9,c,v,it,to,e,gs,l⟩)]))
  (fun r=>R=normSq f r∧(∀x,x∈r→x∈l)∧r.length≤l.length) (fun r=>r.length) l ⟨hR,fun x hx=>hx,Nat.le_refl _⟩ rfl fun r hr ih=>?_
 obtain ⟨hr1,hr2,hr3⟩:=hr
 have hl:l.length≤134217728:=hl
 cases r with
 |nil=>
  refine y_ ?_
  refine A.valE 50 rfl (x':=AB false) (ab_eq (by rw [encRl];rfl)) ?_
  refine n_ skip_p ?_
  rw [hr1,normSq_0]
  rw [hZ]
  refine y_ ?_;refine A.retC (Λ':=[]) rfl rfl rfl rfl rfl (List.nil_sublist _) ⟨?_,rfl⟩;exact .refl
 |cons x s=>
  have hx1:=hrec x (hr2 x (.head _))
  have hx2:=done_p (normR x) (norm_sm (hS.l x (hr2 x (.head _))))
  have hlen:((encRl (x::s)).length:Int)=s.length+1:=by rw [encRl_len,List.length_cons];rfl
  have hl2:s.length+1≤l.length:=hr3
  have hat:(encRl (x::s))[(0:Int).toNat]? =some (encR x):=encRl_at rfl
  rw [hZ]
  refine y_ ?_
  refine e_ 50 rfl (x':=AB true) (ab_eq (by rw [decide_eq_true_iff,hlen];omega)) ?_
  refine i_ rfl hat (encR_eq x) ?_
  refine n_ hx1 ?_
  cases s with
  |nil=>
   (refine b_ fun bx=>?_;refine y_ ?_)
   refine A.valE 59 rfl (x':=AB true) (ab_eq (by rw [hlen];rfl)) ?_
   rw [hr1,normSq_1]
   refine A.retC (Λ':=[]) rfl rfl rfl rfl rfl (List.nil_sublist _) ⟨?_,rfl⟩;exact .refl
  |cons y s=>
   have hl3:s.length+2≤l.length:=hl2
   rw [normSq_2] at hr1
   by_cases hd:doneR (normR x)=true
   ·rw [hd] at hx2
    rw [if_pos hd] at hr1
    (refine b_ fun bx=>?_;refine y_ ?_)
    refine A.valE 59 rfl (x':=AB false) (ab_eq (by rw [hlen,List.length_cons,beq_eq_false_iff_ne];omega)) ?_
    refine c_ hx2 ?_
    refine A.slice (ys:=encRl (y::s)) rfl rfl rfl rfl rfl rfl rfl rfl rfl (by decide) (by rw [hlen];omega) (by omega) (by rw [encRl_cons x];simp) rfl ?_
    refine y_ ?_
    refine A.less (Λ':=[.box b2 Z, .box b1 (cellsR ⟨9,c,v,it,to,e,gs,l⟩)]) (by rw [hZ];exact sl_) ?_
    refine u_ (ih (y::s) ⟨hr1,fun z hz=>hr2 z (.tail _ hz),by rw [List.length_cons];omega⟩ (by simp))
   ·have hd':doneR (normR x)=false:=by simpa using hd
    have hc1:=concat_p [cellsR (normR x)] (encRl (y::s)) Nat.one_pos (by rw [encRl_len,List.length_cons];show 1+_≤_;omega)
    rw [hd'] at hx2
    rw [if_neg hd,←hf] at hr1
    rw [hr1]
    (refine b_ fun bx=>?_;refine y_ ?_)
    refine A.valE 59 rfl (x':=AB false) (ab_eq (by rw [hlen,List.length_cons,beq_eq_false_iff_ne];omega)) ?_
    refine c_ hx2 ?_
    refine A.draw 6 [0,1,2,3,4,5] (fun i=>if i=5 then [1,4] else []) [(5, .sl 8 ([cellsR (normR x)]++encRl (y::s)) none)] (by kernel_rfl) (by kernel_rfl) ?_
    refine w_ ?_
    refine WA.lit rfl rfl rfl rfl rfl rfl rfl fun bw=>?_
    refine w_ ?_
    refine WA.slice (ys:=encRl (y::s)) rfl rfl rfl rfl rfl rfl rfl rfl rfl rfl (by decide) (by rw [hlen];omega) (by omega) (by rw [encRl_cons x];simp) rfl ?_
    refine WA.lit rfl rfl rfl rfl rfl rfl rfl fun bw=>?_
    refine WA.c rfl rfl hc1 (by repeat (first|exact SbPL.sub SbL.refl|refine SbPL.cons ?_ ?_|exact SbP.sub Sb.refl|refine SbP.pub (j:=1) rfl rfl ?_|refine SbP.pub (j:=4) rfl rfl ?_|exact SbP.sub Sb.own1|exact SbP.sub Sb.nil|focus (refine SbP.sub ?_;(repeat (first|exact Sb.refl|exact SbL.refl|refine SbL.cons ?_ ?_|exact Sb.nil|exact Sb.own1|refine Sb.own ?_|refine Sb.ag ?_|refine Sb.tp ?_));done))) ?_
    refine z_ ?_
    refine A.retC (Λ':=[]) rfl rfl rfl rfl rfl (List.nil_sublist _) ⟨?_,rfl⟩
    show Sb _ (.ag [AU8 9,AI c,AI v,AU8 it,plsA to,kesA e,gsA gs, .sl 8 (encRl (normR x::y::s)) none])
    rw [encRl_cons (normR x)]
    exact .refl
theorem norm_p_n: ∀(m:Nat) (p:PR),SizeOf.sizeOf p≤m→smR p→tgR p→Pure Tryz.prog gs0 34 [cellsR p] (cellsR (normR p))
 |0,p,h,_,_=>by
  obtain ⟨k,c,v,i,to,e,gs,l⟩:=p
  simp only [PR.mk.sizeOf_spec] at h;omega
 |m+1,p,h,hs,ht=>by
  have hS:=smR_all hs
  have hT:=tgR_l ht
  have hrec: ∀x,x∈p.l→Pure Tryz.prog gs0 34 [cellsR x] (cellsR (normR x)):=fun x hx=>norm_p_n m x (by have:=pr_lt hx;omega) (hS.l x hx) (hT.2 x hx)
  cases hb:bothB p with
  |true=>exact pnormP_a p hb hs hrec
  |false=>
   by_cases h9:p.kind=9
   ·exact pnormS p h9 hs hT.1 hrec
   ·rw [normR_else hb h9];exact pnormE hb h9
theorem norm_p(p:PR)(hs:smR p)(ht:tgR p):Pure Tryz.prog gs0 34 [cellsR p] (cellsR (normR p)):=norm_p_n _ p (Nat.le_refl _) hs ht
theorem done_iff(p:PR):doneR p=true↔p=skipR:=by
 obtain ⟨k,c,v,i,to,e,gs,l⟩:=p
 unfold doneR skipR
 rw [eqR]
 cases to<;>cases e<;>cases gs<;>cases l<;>simp [eqLB,eqKl,eqGl,eqRl]
theorem skip_nf:normR skipR=skipR:=by rw [normR_else rfl (by decide)]
theorem normSq_nf(f:List PR→PR)(hf: ∀l,normR (f l)=normSq f l): ∀l:List PR,(∀x,x∈l→normR (normR x)=normR x)→normR (normSq f l)=normSq f l
 | [],_=>by rw [normSq_0];exact skip_nf
 | [x],h=>by rw [normSq_1];exact h x (.head _)
 |x::y::s,h=>by
  rw [normSq_2]
  split
  ·exact normSq_nf f hf (y::s) fun z hz=>h z (.tail _ hz)
  ·rename_i hd
   rw [hf,normSq_2,h x (.head _),if_neg hd]
theorem norm_nf_n: ∀(m:Nat) (p:PR),SizeOf.sizeOf p≤m→normR (normR p)=normR p
 |0,p,h=>by
  obtain ⟨k,c,v,i,to,e,gs,l⟩:=p
  simp only [PR.mk.sizeOf_spec] at h;omega
 |m+1,p,h=>by
  have hL: ∀x,x∈p.l→normR (normR x)=normR x:=fun x hx=>norm_nf_n m x (by have:=pr_lt hx;omega)
  cases hb:bothB p with
  |true=>
   rw [normR_par hb]
   split
   ·exact skip_nf
   ·rename_i hd
    have e:(p.l.map normR).map normR=p.l.map normR:=by rw [List.map_map];exact List.map_congr_left hL
    rw [normR_par (p:=⟨p.kind,p.c,p.v,p.item,p.to,p.e,p.gs,p.l.map normR⟩) hb]
    show (if ((p.l.map normR).map normR).all doneR=true then skipR else ⟨p.kind,p.c,p.v,p.item,p.to,p.e,p.gs,(p.l.map normR).map normR⟩)=_
    rw [e,if_neg hd]
  |false=>
   by_cases h9:p.kind=9
   ·rw [normR_seq h9]
    exact normSq_nf _ (fun l=>normR_seq (p:=⟨p.kind,p.c,p.v,p.item,p.to,p.e,p.gs,l⟩) h9) p.l hL
   ·rw [normR_else hb h9,normR_else hb h9]
theorem norm_nf(p:PR):normR (normR p)=normR p:=norm_nf_n _ p (Nat.le_refl _)
mutual
def nfR:PR→Prop
 |⟨k,_,_,_,_,_,_,l⟩=>if k=9 then nfS l else if k=10∨k=11 then l.all doneR=false∧nfL l else True
def nfS:List PR→Prop
 | []=>False
 |x::r=>match r with
  | []=>False
  |_::_=>doneR x=false∧nfR x
def nfL:List PR→Prop
 | []=>True
 |x::r=>nfR x∧nfL r
end
theorem nfR_eq(p:PR):nfR p↔if p.kind=9 then nfS p.l else if p.kind=10∨p.kind=11 then p.l.all doneR=false∧nfL p.l else True:=by
 obtain ⟨k,c,v,i,to,e,gs,l⟩:=p
 rw [nfR]
theorem nfL_mem: ∀{l:List PR},nfL l→ ∀x,x∈l→nfR x
 | [],_,x,h=>by cases h
 |y::r,hw,x,h=>by
  rw [nfL] at hw
  rcases List.mem_cons.1 h with rfl|h
  ·exact hw.1
  ·exact nfL_mem hw.2 x h
theorem nfL_of: ∀{l:List PR},(∀x,x∈l→nfR x)→nfL l
 | [],_=>by rw [nfL];trivial
 |y::r,h=>by rw [nfL];exact ⟨h y (.head _),nfL_of fun x hx=>h x (.tail _ hx)⟩
theorem nfS_2{x y:PR}{s:List PR}:nfS (x::y::s)↔doneR x=false∧nfR x:=by rw [nfS]
theorem nf_skip:nfR skipR:=by
 rw [nfR_eq,if_neg (show¬skipR.kind=9 from by show¬(1:Int)=9;decide),if_neg (show¬(skipR.kind=10∨skipR.kind=11) from by show¬((1:Int)=10∨(1:Int)=11);decide)]
 trivial
theorem normSq_is(f:List PR→PR)(hf: ∀l,nfS l→nfR (f l)): ∀l:List PR,(∀x,x∈l→nfR (normR x))→nfR (normSq f l)
 | [],_=>by rw [normSq_0];exact nf_skip
 | [x],h=>by rw [normSq_1];exact h x (.head _)
 |x::y::s,h=>by
  rw [normSq_2]
  split
  ·exact normSq_is f hf (y::s) fun z hz=>h z (.tail _ hz)
  ·rename_i hd
   exact hf _ (nfS_2.2 ⟨by simpa using hd,h x (.head _)⟩)
theorem norm_is_n: ∀(m:Nat) (p:PR),SizeOf.sizeOf p≤m→nfR (normR p)
 |0,p,h=>by
  obtain ⟨k,c,v,i,to,e,gs,l⟩:=p
  simp only [PR.mk.sizeOf_spec] at h;omega
 |m+1,p,h=>by
  have hL: ∀x,x∈p.l→nfR (normR x):=fun x hx=>norm_is_n m x (by have:=pr_lt hx;omega)
  cases hb:bothB p with
  |true=>
   rw [normR_par hb]
   split
   ·exact nf_skip
   ·rename_i hd
    have hb':p.kind=10∨p.kind=11:=by simpa [bothB] using hb
    rw [nfR_eq]
    show if p.kind=9 then _ else if p.kind=10∨p.kind=11 then (p.l.map normR).all doneR=false∧nfL (p.l.map normR) else True
    rw [if_neg (by omega),if_pos hb']
    refine ⟨by simpa using hd,nfL_of fun x hx=>?_⟩
    rw [List.mem_map] at hx
    obtain ⟨y,hy,rfl⟩:=hx
    exact hL y hy
  |false=>
   by_cases h9:p.kind=9
   ·rw [normR_seq h9]
    refine normSq_is _ (fun l hl=>?_) p.l hL
    rw [nfR_eq]
    show if p.kind=9 then nfS l else _
    rw [if_pos h9];exact hl
   ·have hb': ¬(p.kind=10∨p.kind=11):=by simpa [bothB] using hb
    rw [normR_else hb h9,nfR_eq,if_neg h9,if_neg hb'];trivial
theorem norm_is(p:PR):nfR (normR p):=norm_is_n _ p (Nat.le_refl _)
mutual
def wtR:PR→Nat
 |⟨k,_,_,_,_,_,gs,l⟩=>if k=9 then szGs gs+wtS l else if k=10∨k=11 then 2+szGs gs+wtL l else 2+szL l+szGs gs+wtL l+wtGs gs
def wtS:List PR→Nat
 | []=>2
 |x::r=>match r with
  | []=>wtR x
  |y::s=>max (1+wtR x+szL (y::s)) (wtS r)
def wtL:List PR→Nat
 | []=>0
 |x::r=>wtR x+wtL r
def wtG:GD→Nat
 |⟨_,_,_,_,_,_,b⟩=>wtL b
def wtGs:List GD→Nat
 | []=>0
 |g::r=>wtG g+wtGs r
end
mutual
def dwR:PR→Nat
 |⟨k,_,_,_,_,_,gs,l⟩=>if k=9 then max (1+htGs gs) (dwS l) else if k=10∨k=11 then 1+max (max 1 (htGs gs)) (dwL l) else 1+max (1+max (htL l) (htGs gs)) (max (dwL l) (dwGs gs))
def dwS:List PR→Nat
 | []=>2
 |x::r=>match r with
  | []=>dwR x
  |y::s=>max (1+max (dwR x) (htL (y::s))) (dwS r)
def dwL:List PR→Nat
 | []=>0
 |x::r=>max (dwR x) (dwL r)
def dwG:GD→Nat
 |⟨_,_,_,_,_,_,b⟩=>dwL b
def dwGs:List GD→Nat
 | []=>0
 |g::r=>max (dwG g) (dwGs r)
end
theorem wtR_eq(p:PR):wtR p=if p.kind=9 then szGs p.gs+wtS p.l else if p.kind=10∨p.kind=11 then 2+szGs p.gs+wtL p.l else 2+szL p.l+szGs p.gs+wtL p.l+wtGs p.gs:=by
 obtain ⟨k,c,v,i,to,e,gs,l⟩:=p
 rw [wtR]
theorem dwR_eq(p:PR):dwR p=if p.kind=9 then max (1+htGs p.gs) (dwS p.l) else if p.kind=10∨p.kind=11 then 1+max (max 1 (htGs p.gs)) (dwL p.l) else 1+max (1+max (htL p.l) (htGs p.gs)) (max (dwL p.l) (dwGs p.gs)):=by
 obtain ⟨k,c,v,i,to,e,gs,l⟩:=p
 rw [dwR]
theorem wtS_1(x:PR):wtS [x]=wtR x:=by rw [wtS]
theorem wtS_2(x y:PR)(s:List PR):wtS (x::y::s)=max (1+wtR x+szL (y::s)) (wtS (y::s)):=by rw [wtS]
theorem dwS_1(x:PR):dwS [x]=dwR x:=by rw [dwS]
theorem dwS_2(x y:PR)(s:List PR):dwS (x::y::s)=max (1+max (dwR x) (htL (y::s))) (dwS (y::s)):=by rw [dwS]
theorem wtG_eq(g:GD):wtG g=wtL g.body:=by obtain ⟨k,e,c,i,to,t,b⟩:=g;rw [wtG]
theorem dwG_eq(g:GD):dwG g=dwL g.body:=by obtain ⟨k,e,c,i,to,t,b⟩:=g;rw [dwG]
theorem wt_skip:wtR skipR=2:=by
 rw [wtR_eq,if_neg (show¬skipR.kind=9 from by show¬(1:Int)=9;decide),if_neg (show¬(skipR.kind=10∨skipR.kind=11) from by show¬((1:Int)=10∨(1:Int)=11);decide)]
 simp [skipR,szL,szGs,wtL,wtGs]
theorem dw_skip:dwR skipR=2:=by
 rw [dwR_eq,if_neg (show¬skipR.kind=9 from by show¬(1:Int)=9;decide),if_neg (show¬(skipR.kind=10∨skipR.kind=11) from by show¬((1:Int)=10∨(1:Int)=11);decide)]
 simp [skipR,htL,htGs,dwL,dwGs]
theorem wt_stop:wtR stopR=2:=by
 rw [wtR_eq,if_neg (show¬stopR.kind=9 from by show¬(2:Int)=9;decide),if_neg (show¬(stopR.kind=10∨stopR.kind=11) from by show¬((2:Int)=10∨(2:Int)=11);decide)]
 simp [stopR,szL,szGs,wtL,wtGs]
theorem dw_stop:dwR stopR=2:=by
 rw [dwR_eq,if_neg (show¬stopR.kind=9 from by show¬(2:Int)=9;decide),if_neg (show¬(stopR.kind=10∨stopR.kind=11) from by show¬((2:Int)=10∨(2:Int)=11);decide)]
 simp [stopR,htL,htGs,dwL,dwGs]
theorem wtL_mono{f:PR→PR}: ∀{l:List PR},(∀x,x∈l→wtR (f x)≤wtR x)→wtL (l.map f)≤wtL l
 | [],_=>Nat.le_refl _
 |x::r,h=>by
  rw [List.map_cons,wtL,wtL]
  have:=h x (.head _)
  have:=wtL_mono (l:=r) fun y hy=>h y (.tail _ hy)
  omega
theorem dwL_mono{f:PR→PR}: ∀{l:List PR},(∀x,x∈l→dwR (f x)≤dwR x)→dwL (l.map f)≤dwL l
 | [],_=>Nat.le_refl _
 |x::r,h=>by
  rw [List.map_cons,dwL,dwL]
  have:=h x (.head _)
  have:=dwL_mono (l:=r) fun y hy=>h y (.tail _ hy)
  omega
theorem normSq_wt(f:List PR→PR)(c:Nat)(hf: ∀l,wtR (f l)=c+wtS l): ∀l:List PR,(∀x,x∈l→wtR (normR x)≤wtR x)→wtR (normSq f l)≤c+wtS l
 | [],_=>by rw [normSq_0,wt_skip,wtS];omega
 | [x],h=>by rw [normSq_1,wtS_1];have:=h x (.head _);omega
 |x::y::s,h=>by
  rw [normSq_2,wtS_2]
  split
  ·have:=normSq_wt f c hf (y::s) fun z hz=>h z (.tail _ hz)
   omega
  ·rw [hf,wtS_2]
   have:=h x (.head _)
   omega
theorem normSq_dw(f:List PR→PR)(c:Nat)(hf: ∀l,dwR (f l)=max c (dwS l)): ∀l:List PR,(∀x,x∈l→dwR (normR x)≤dwR x)→dwR (normSq f l)≤max c (dwS l)
 | [],_=>by rw [normSq_0,dw_skip,dwS];omega
 | [x],h=>by rw [normSq_1,dwS_1];have:=h x (.head _);omega
 |x::y::s,h=>by
  rw [normSq_2,dwS_2]
  split
  ·have:=normSq_dw f c hf (y::s) fun z hz=>h z (.tail _ hz)
   omega
  ·rw [hf,dwS_2]
   have:=h x (.head _)
   omega
theorem norm_wt_n: ∀(m:Nat) (p:PR),SizeOf.sizeOf p≤m→wtR (normR p)≤wtR p∧dwR (normR p)≤dwR p
 |0,p,h=>by
  obtain ⟨k,c,v,i,to,e,gs,l⟩:=p
  simp only [PR.mk.sizeOf_spec] at h;omega
 |m+1,p,h=>by
  have hL: ∀x,x∈p.l→wtR (normR x)≤wtR x∧dwR (normR x)≤dwR x:=fun x hx=>norm_wt_n m x (by have:=pr_lt hx;omega)
  cases hb:bothB p with
  |true=>
   have hb':p.kind=10∨p.kind=11:=by simpa [bothB] using hb
   have e1:=wtR_eq p
   have e2:=dwR_eq p
   rw [if_neg (by omega),if_pos hb'] at e1 e2
   rw [normR_par hb,e1,e2]
   split
   ·rw [wt_skip,dw_skip];omega
   ·have a1:=wtL_mono fun x hx=>(hL x hx).1
    have a2:=dwL_mono fun x hx=>(hL x hx).2
    rw [wtR_eq,dwR_eq]
    show (if p.kind=9 then _ else if p.kind=10∨p.kind=11 then 2+szGs p.gs+wtL (p.l.map normR) else _)≤_∧(if p.kind=9 then _ else if p.kind=10∨p.kind=11 then 1+max (max 1 (htGs p.gs)) (dwL (p.l.map normR)) else _)≤_
    rw [if_neg (by omega),if_pos hb',if_neg (by omega),if_pos hb']
    omega
  |false=>
   by_cases h9:p.kind=9
   ·rw [normR_seq h9,wtR_eq p,dwR_eq p,if_pos h9,if_pos h9]
    refine ⟨normSq_wt _ (szGs p.gs) (fun l=>?_) p.l fun x hx=>(hL x hx).1,normSq_dw _ (1+htGs p.gs) (fun l=>?_) p.l fun x hx=>(hL x hx).2⟩
    ·rw [wtR_eq];show (if p.kind=9 then szGs p.gs+wtS l else _)=_;rw [if_pos h9]
    ·rw [dwR_eq];show (if p.kind=9 then max (1+htGs p.gs) (dwS l) else _)=_;rw [if_pos h9]
   ·rw [normR_else hb h9];exact ⟨Nat.le_refl _,Nat.le_refl _⟩
theorem norm_wt(p:PR):wtR (normR p)≤wtR p:=(norm_wt_n _ p (Nat.le_refl _)).1
theorem norm_dw(p:PR):dwR (normR p)≤dwR p:=(norm_wt_n _ p (Nat.le_refl _)).2
theorem nfL_sz: ∀{l:List PR},(∀x,x∈l→szR x≤wtR x∧htR x≤dwR x)→szL l≤wtL l∧htL l≤dwL l
 | [],_=>by rw [szL,wtL,htL,dwL];omega
 |x::r,h=>by
  have h1:=h x (.head _)
  have h2:=nfL_sz (l:=r) fun y hy=>h y (.tail _ hy)
  rw [szL,wtL,htL,dwL];omega
theorem nf_sz_n: ∀(m:Nat) (p:PR),SizeOf.sizeOf p≤m→nfR p→szR p≤wtR p∧htR p≤dwR p
 |0,p,h,_=>by
  obtain ⟨k,c,v,i,to,e,gs,l⟩:=p
  simp only [PR.mk.sizeOf_spec] at h;omega
 |m+1,p,h,hn=>by
  have hL: ∀x,x∈p.l→nfR x→szR x≤wtR x∧htR x≤dwR x:=fun x hx hn=>nf_sz_n m x (by have:=pr_lt hx;omega) hn
  rw [nfR_eq] at hn
  rw [szR_eq,htR_eq,wtR_eq,dwR_eq]
  by_cases h9:p.kind=9
  ·rw [if_pos h9] at hn
   rw [if_pos h9,if_pos h9]
   match hl:p.l,hn with
   |x::y::s,hn=>
    rw [nfS_2] at hn
    have:=hL x (by rw [hl];exact .head _) hn.2
    rw [wtS_2,dwS_2,szL,htL];omega
  ·rw [if_neg h9] at hn
   rw [if_neg h9,if_neg h9]
   by_cases hb:p.kind=10∨p.kind=11
   ·rw [if_pos hb] at hn
    rw [if_pos hb,if_pos hb]
    have:=nfL_sz fun x hx=>hL x hx (nfL_mem hn.2 x hx)
    omega
   ·rw [if_neg hb,if_neg hb];omega
theorem nf_sz{p:PR}(h:nfR p):szR p≤wtR p:=(nf_sz_n _ p (Nat.le_refl _) h).1
theorem nf_ht{p:PR}(h:nfR p):htR p≤dwR p:=(nf_sz_n _ p (Nat.le_refl _) h).2
theorem gg_lt{p:PR}{g:GD}(h:g∈p.gs):SizeOf.sizeOf g<SizeOf.sizeOf p:=by
 obtain ⟨k,c,v,i,to,e,gs,l⟩:=p
 have:=List.sizeOf_lt_of_mem h
 simp only [PR.mk.sizeOf_spec,PR.gs] at this⊢
 omega
theorem bd_lt{g:GD}{x:PR}(h:x∈g.body):SizeOf.sizeOf x<SizeOf.sizeOf g:=by
 obtain ⟨k,e,c,i,to,t,b⟩:=g
 have:=List.sizeOf_lt_of_mem h
 simp only [GD.mk.sizeOf_spec,GD.body] at this⊢
 omega
theorem wtL_le: ∀{l:List PR} {H:Nat},(∀x,x∈l→wtR x≤(htR x+2)*szR x∧dwR x≤2*htR x)→htL l≤H→wtL l≤(H+2)*szL l∧dwL l≤2*htL l
 | [],H,_,_=>by rw [wtL,szL,dwL,htL];omega
 |x::r,H,h,hh=>by
  rw [htL] at hh
  have h1:=h x (.head _)
  have h2:=wtL_le (l:=r) (H:=H) (fun y hy=>h y (.tail _ hy)) (by omega)
  have h3:(htR x+2)*szR x≤(H+2)*szR x:=Nat.mul_le_mul_right _ (by omega)
  rw [wtL,szL,dwL,htL,Nat.mul_add];omega
theorem wtGs_le: ∀{l:List GD} {H:Nat},(∀g,g∈l→ ∀x,x∈g.body→wtR x≤(htR x+2)*szR x∧dwR x≤2*htR x)→htGs l≤H→wtGs l≤(H+2)*szGs l∧dwGs l≤2*htGs l
 | [],H,_,_=>by rw [wtGs,szGs,dwGs,htGs];omega
 |g::r,H,h,hh=>by
  rw [htGs,htG_eq] at hh
  have h1:=wtL_le (l:=g.body) (H:=H) (h g (.head _)) (by omega)
  have h2:=wtGs_le (l:=r) (H:=H) (fun y hy=>h y (.tail _ hy)) (by omega)
  rw [wtGs,szGs,dwGs,htGs,Nat.mul_add,wtG_eq,szG_eq,dwG_eq,htG_eq];omega
theorem wtS_le: ∀{l:List PR} {H:Nat},(∀x,x∈l→wtR x≤(htR x+2)*szR x∧dwR x≤2*htR x)→htL l≤H→wtS l≤(H+3)*(1+szL l)∧dwS l≤2*(1+htL l)
 | [],H,_,_=>by rw [wtS,szL,dwS,htL];omega
 | [x],H,h,hh=>by
   rw [htL,htL] at hh
   have h1:=h x (.head _)
   have h3:(htR x+2)*szR x≤(H+3)*(1+szR x):=Nat.mul_le_mul (by omega) (by omega)
   rw [wtS_1,szL,szL,dwS_1,htL,htL,show 1+(szR x+0)=1+szR x from rfl];omega
 |x::y::s,H,h,hh=>by
  have hh':=hh
  rw [htL] at hh
  have h1:=h x (.head _)
  have h2:=wtS_le (l:=y::s) (H:=H) (fun z hz=>h z (.tail _ hz)) (by omega)
  have h3:(htR x+2)*szR x≤(H+3)*szR x:=Nat.mul_le_mul_right _ (by omega)
  have h4:1*szL (y::s)≤(H+3)*szL (y::s):=Nat.mul_le_mul_right _ (by omega)
  have e1:(H+3)*(1+szL (y::s))=(H+3)+(H+3)*szL (y::s):=by rw [Nat.mul_add,Nat.mul_one]
  have e2:(H+3)*(1+szL (x::y::s))=(H+3)+(H+3)*szR x+(H+3)*szL (y::s):=by rw [szL,Nat.mul_add,Nat.mul_add,Nat.mul_one];omega
  rw [wtS_2,dwS_2,e2]
  rw [e1] at h2
  rw [show htL (x::y::s)=max (htR x) (htL (y::s)) by rw [htL]]
  omega
theorem wt_le_n: ∀(m:Nat) (p:PR),SizeOf.sizeOf p≤m→wtR p≤(htR p+2)*szR p∧dwR p≤2*htR p
 |0,p,h=>by
  obtain ⟨k,c,v,i,to,e,gs,l⟩:=p
  simp only [PR.mk.sizeOf_spec] at h;omega
 |m+1,p,h=>by
  have hL: ∀x,x∈p.l→wtR x≤(htR x+2)*szR x∧dwR x≤2*htR x:=fun x hx=>wt_le_n m x (by have:=pr_lt hx;omega)
  have hG: ∀g,g∈p.gs→ ∀x,x∈g.body→wtR x≤(htR x+2)*szR x∧dwR x≤2*htR x:=fun g hg x hx=>wt_le_n m x (by have:=gg_lt hg;have:=bd_lt hx;omega)
  have eh:=htR_eq p
  have es:=szR_eq p
  generalize hH:max (htL p.l) (htGs p.gs)=H at eh
  have a1:=wtL_le hL (H:=H) (by omega)
  have a2:=wtGs_le hG (H:=H) (by omega)
  have a3:=wtS_le hL (H:=H) (by omega)
  have e1:(htR p+2)*szR p=(H+3)+(H+3)*szL p.l+(H+3)*szGs p.gs:=by rw [eh,es,Nat.mul_add,Nat.mul_add,Nat.mul_one,show 1+H+2=H+3 by omega]
  have e2:(H+3)*szL p.l=(H+2)*szL p.l+szL p.l:=by rw [←Nat.succ_mul]
  have e3:(H+3)*szGs p.gs=(H+2)*szGs p.gs+szGs p.gs:=by rw [←Nat.succ_mul]
  have e4:(H+3)*(1+szL p.l)=(H+3)+(H+3)*szL p.l:=by rw [Nat.mul_add,Nat.mul_one]
  rw [e4] at a3
  rw [wtR_eq,dwR_eq,e1,eh]
  split
  ·omega
  ·split<;>omega
theorem wt_le(p:PR):wtR p≤(htR p+2)*szR p:=(wt_le_n _ p (Nat.le_refl _)).1
theorem dw_le(p:PR):dwR p≤2*htR p:=(wt_le_n _ p (Nat.le_refl _)).2
end Go.Proofs.YthdgpbgjmbkleaaGreat
