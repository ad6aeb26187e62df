/-
  Texts Q20p. Conditions: as each theorem says.
-/
import Derived.Test.YtpcloejpklkieaaGreatV3
import Derived.Test.YtpcloejpklkieaaGreatV11
set_option linter.unusedVariables false
set_option linter.unusedSimpArgs false
set_option maxRecDepth 100000
set_option maxHeartbeats 4000000
namespace Go.Proofs.YtpcloejpklkieaaGreat
open Go Go.Tp
theorem before_in{ts:List TR}(h:AscL ltL ts){i:Nat}{x d:TR}(hx:ts[i]? =some x)(hd:d∈ts)(hl:ltL d x=true):d∈ts.take i:=by
 obtain ⟨p,hp,rfl⟩:=List.getElem_of_mem hd
 obtain ⟨hi,rfl⟩:=List.getElem?_eq_some_iff.1 hx
 have hpw:=List.pairwise_iff_getElem.1 h
 rcases Nat.lt_trichotomy p i with hpi|hpi|hpi
 ·rw [List.mem_take_iff_getElem]
  exact ⟨p,by omega,rfl⟩
 ·subst hpi;rw [ltL_irrefl] at hl;cases hl
 ·have h1:=hpw i p hi hp hpi
  have h2:=ltL_trans _ _ _ hl h1
  rw [ltL_irrefl] at h2;cases h2
structure OrdOk(n:Nat)(ts:List TR):Prop where
 asc:AscL ltL ts
 len: ∀t,t∈ts→t.length≤n
 beg: ∀t,t∈ts→t≠[]→t.dropLast∈ts
 nil:[]∈ts
 sh:ts.length≤60
theorem ord_ok{k:KN}{inn:List Int}{n:Nat}{l:List (TR×ST)}(h:closX k inn n 60=some l):OrdOk n (canT (l.map (·.1))):=by
 obtain ⟨h1,h2⟩:=order_plain (by decide) h
 exact ⟨asc_canT _,fun t ht=>(h1 t ht).1,fun t ht=>(h1 t ht).2,h2,can_short (by decide) h⟩
theorem ord_prev{n:Nat}{ts:List TR}(h:OrdOk n ts){i:Nat}{x y:TR}(hi:0<i)(hx:ts[i]? =some x)(hy:ts[i-1]? =some y):ltL y x=true:=by
 obtain ⟨h1,rfl⟩:=List.getElem?_eq_some_iff.1 hx
 obtain ⟨h2,rfl⟩:=List.getElem?_eq_some_iff.1 hy
 exact List.pairwise_iff_getElem.1 h.asc (i-1) i h2 h1 (by omega)
theorem drop_take_ev(x:TR):((x.map evA).drop 0).take ((((x.length-1:Nat):Int)).toNat-0)=x.dropLast.map evA:=by
 rw [List.drop_zero,Int.toNat_natCast,Nat.sub_zero,List.dropLast_eq_take,List.map_take]
theorem short_eq{n:Nat}{ts:List TR}(hn:1≤n):(ts.filter fun t=>decide (t.length≤n-1))=ts.filter fun t=>decide (t.length<n):=by
 congr 1
 funext t
 rw [Bool.eq_iff_iff,decide_eq_true_eq,decide_eq_true_eq];omega
theorem order_law(k:KN)(hk:SmN k)(inn:List Int)(hi: ∀x,x∈inn→i32 x)(hil:inn.length≤35184372088832)(n8:Int)(h8:Go.Tp.u8 n8):Pure Tryz.prog gs0 4 [encN k,rowA inn,AU8 n8] (AB true):=by
 have hw:=works_p
 unfold Go.Tp.u8 at h8
 obtain ⟨n,hn⟩: ∃n:Nat,n=n8.toNat % 8:=⟨_,rfl⟩
 have hnv:Int.tmod n8 8=(n:Nat):=by rw [hn,Int.tmod_eq_emod_of_nonneg (by omega)];omega
 have hn7:n≤7:=by omega
 by_cases hc0:checkX k (n:Nat) 60=0
 case neg=>
  have h1:=traces_no k hk inn (n:Nat) 60 hc0
  generalize checkX k (n:Nat) 60=e at h1 hc0
  refine p_ tt_ok Tryz.func4 139 fun w0 h0 F hgs=>?_
  (repeat refine A.s rfl ?_)
  refine A.b rfl fun b3=>?_
  refine y_ ?_
  refine A.divrem rfl rfl rfl rfl rfl rfl rfl (by decide) ?_
  refine A.valE 17 rfl (x':=AU8 (n:Nat)) (by show AU8 (Int.tmod n8 8)=_;rw [hnv]) ?_
  refine A.s rfl ?_
  refine e_ 18 rfl (x':=AI (n:Nat)) (ai_eq (wr64 _ (by omega))) ?_
  refine c_ h1 ?_
  refine T_ rfl (bne_iff_ne.2 hc0) ?_
  exact cr_ hw
 obtain ⟨⟨hm,_,_,hu⟩,_⟩:=chk0 hc0
 have h1:=traces_yes k hk n 60 (by omega) hc0 inn hi hil
 cases hcl:closX k inn n 60 with
 |none=>
  rw [hcl] at h1
  dsimp only at h1
  refine p_ tt_ok Tryz.func4 139 fun w0 h0 F hgs=>?_
  (repeat refine A.s rfl ?_)
  refine A.b rfl fun b3=>?_
  refine y_ ?_
  refine A.divrem rfl rfl rfl rfl rfl rfl rfl (by decide) ?_
  refine A.valE 17 rfl (x':=AU8 (n:Nat)) (by show AU8 (Int.tmod n8 8)=_;rw [hnv]) ?_
  refine A.s rfl ?_
  refine e_ 18 rfl (x':=AI (n:Nat)) (ai_eq (wr64 _ (by omega))) ?_
  refine c_ h1 ?_
  exact cr_ hw
 |some l=>
  rw [hcl] at h1
  dsimp only at h1
  have ok:=ord_ok hcl
  have ck1:=chk_val hm (n-1)
  rw [if_neg (by rw [hu];decide)] at ck1
  have h2:=traces_yes k hk (n-1) 60 (by omega) ck1 inn hi hil
  obtain ⟨l',hl',he⟩:=shorter_plain (most:=60) (f':=61) (by decide) hcl (by decide) (Nat.sub_le n 1)
  have hcl':closX k inn (n-1) 60=some l':=hl'
  rw [hcl'] at h2
  dsimp only at h2
  rw [he] at h2
  clear hl' he hcl'
  generalize canT (l.map (·.1))=ts at h1 h2 ok
  have hsl:n=0∨(1≤n∧Pure Tryz.prog gs0 15 [tsA (ts.filter fun t=>decide (t.length≤n-1)),tsA (ts.filter fun t=>decide (t.length<n))] (AB true)):=by
   rcases Nat.eq_zero_or_pos n with h|h
   ·exact .inl h
   ·refine .inr ⟨h,?_⟩
    have hh: ∀t,t∈(ts.filter fun t=>decide (t.length<n))→t.length≤281474976710656:=fun t ht=>by have:=ok.len t (List.mem_filter.1 ht).1;omega
    have:=lists_p (ts.filter fun t=>decide (t.length<n)) (ts.filter fun t=>decide (t.length<n)) hh hh (by have:=List.length_filter_le (fun t:TR=>decide (t.length<n)) ts;have:=ok.sh;omega)
    rw [decide_eq_true rfl] at this
    rw [short_eq h];exact this
  have nts:((ts.map trA).length:Int)=ts.length:=by rw [List.length_map]
  have hsh:=ok.sh
  have hpos:=List.length_pos_of_mem ok.nil
  refine p_ tt_ok Tryz.func4 139 fun w0 h0 F hgs=>?_
  (repeat refine A.s rfl ?_)
  refine A.b rfl fun b3=>?_
  refine y_ ?_
  refine A.divrem rfl rfl rfl rfl rfl rfl rfl (by decide) ?_
  refine A.valE 17 rfl (x':=AU8 (n:Nat)) (by show AU8 (Int.tmod n8 8)=_;rw [hnv]) ?_
  refine A.s rfl ?_
  refine e_ 18 rfl (x':=AI (n:Nat)) (ai_eq (wr64 _ (by omega))) ?_
  refine c_ h1 ?_
  refine A.emptyRow 10 1 rfl fun z0=>?_
  refine A.valE 35 rfl (x':=AI (ts.length:Nat)) (ai_eq nts) ?_
  refine A.keep [1,3,7,8,10,35,36] rfl ?_
  refine A.loopP (ι:=Nat×Value) (fun u=>(⟨[(1,rowA inn),(3,ptrA b3),(7,AI (n:Nat)),(8,tsA ts),(10, .ms u.2 1 ((ts.take u.1).filter fun t=>decide (t.length<n)).length),(35,AI (ts.length:Nat)),(36,AI (u.1:Nat))],[]⟩,[.row 1 u.2 (((ts.take u.1).filter fun t=>decide (t.length<n)).map trA), .box b3 (encN k)])) (fun u=>u.1≤ts.length) (fun u=>ts.length-u.1) (0,z0) (Nat.zero_le _) rfl fun u hi1 ih=>?_
  obtain ⟨i,zz⟩:=u
  simp only at hi1
  refine y_ ?_
  by_cases hci:i<ts.length
  case neg=>
   refine A.gF rfl (by show decide ((i:Int)<(ts.length:Nat))=false;rw [decide_eq_false_iff_not];omega) ?_
   have hie:i=ts.length:=by omega
   clear ih
   refine y_ ?_
   refine A.valE 116 rfl (x':=AI ((n-1:Nat):Int)) (ai_eq (by
    show (if (0:Int)<IntKind.i64.wrap ((n:Int)-1) then IntKind.i64.wrap ((n:Int)-1) else 0)=_
    rw [wr64 _ (by omega)];split<;>omega)) ?_
   refine n_ h2 ?_
   subst hie
   refine A.valE 10 rfl (x':= .ms zz 1 (ts.filter fun t=>decide (t.length<n)).length) (by rw [List.take_length]) ?_
   refine A.entsEq (Λ':=[.row 1 zz ((ts.filter fun t=>decide (t.length<n)).map trA), .box b3 (encN k)]) (by rw [List.take_length]) ?_
   refine A.freezeRow 10 rfl ?_
   refine y_ ?_
   refine e_ 123 rfl (x':=AB true) (ab_eq (by show decide ((0:Int)<((ts.map trA).length:Int))=true;rw [nts,decide_eq_true_eq];omega)) ?_
   rcases hsl with hsl|hsl
   ·refine e_ 130 rfl (x':=AB true) (ab_eq (by show ((n:Int)==0)=true;rw [hsl];rfl)) ?_
    exact cr_ hw
   ·obtain ⟨hs1,hs2⟩:=hsl
    refine e_ 130 rfl (x':=AB false) (ab_eq (by show ((n:Int)==0)=false;rw [beq_eq_false_iff_ne];omega)) ?_
    refine c_ hs2 ?_
    exact cr_ hw
  refine Exists.elim (at_exN (l:=ts) (i:=i) hci) fun x hx=>?_
  have hxin:=List.mem_of_getElem? hx
  have hxl:=ok.len x hxin
  have nx:=trA_len x
  refine T_ rfl (by show decide ((i:Int)<(ts.length:Nat))=true;rw [decide_eq_true_eq];omega) ?_
  have htk:ts.take (i+1)=ts.take i++[x]:=by rw [List.take_add_one,hx];rfl
  have hdl:x≠[]→x.dropLast∈ts.take i:=fun h=>before_in ok.asc hx (ok.beg x hxin h) (dropLast_lt h)
  have hfl: ∀j,((ts.take j).filter fun t=>decide (t.length<n)).length≤60:=fun j=>by
   have h3:=List.length_filter_le (fun t:TR=>decide (t.length<n)) (ts.take j)
   have h4:=List.length_take_le j ts
   have h5:=List.length_take_le' j ts
   omega
  refine d_ 20 [0,1,2,3,4,5,6,7,8,9,10,11,12,13,14,15,16,17,18,19] [] ?_
  refine iw_ rfl (map_at hx) rfl ?_
  refine ew_ 46 rfl (x':=AB false) (ab_eq (by show decide ((n:Int)<((x.map evA).length:Int))=false;rw [nx,decide_eq_false_iff_not];omega)) ?_
  by_cases hi0:0<i
  ·refine Exists.elim (at_exN (l:=ts) (i:=i-1) (by omega)) fun y hy=>?_
   have hls:=rless_p y x (by have:=ok.len y (List.mem_of_getElem? hy);omega)
   rw [ord_prev ok hi0 hx hy] at hls
   refine ew_ 49 rfl (x':=AB true) (ab_eq (by show decide ((0:Int)<(i:Nat))=true;rw [decide_eq_true_eq];omega)) ?_
   refine WA.valE 52 rfl (x':=AI ((i-1:Nat):Int)) (ai_eq (by show IntKind.i64.wrap ((i:Int)-1)=_;rw [wr64 _ (by omega)];omega)) ?_
   refine WA.x rfl (by show (0:Int)≤((i-1:Nat):Int);omega) (map_at hy) rfl rfl ?_
   refine w_ ?_
   refine iw_ rfl (map_at hx) rfl ?_
   refine WA.nil (l:=[]) rfl ?_
   refine c_ hls ?_
   refine A.keep [1,3,7,8,10,11,35,36,63,64] rfl ?_
   refine i_ rfl (map_at hx) rfl ?_
   by_cases hlt:x.length<n
   ·refine A.gT rfl (by show decide (((x.map evA).length:Int)<(n:Nat))=true;rw [nx,decide_eq_true_eq];omega) ?_
    have hap:((ts.take i).filter fun t=>decide (t.length<n)).map trA++[trA x]=((ts.take (i+1)).filter fun t=>decide (t.length<n)).map trA:=by
     rw [htk,List.filter_append,List.map_append]
     simp [hlt]
    have hal:((ts.take i).filter fun t=>decide (t.length<n)).length+1=((ts.take (i+1)).filter fun t=>decide (t.length<n)).length:=by
     rw [htk,List.filter_append,List.length_append]
     simp [hlt]
    have hfi:=hfl i
    refine y_ ?_
    refine j_ rfl (map_at hx) rfl ?_
    refine t_ fun bl=>?_
    refine A.appendRowE rfl rfl rfl rfl rfl rfl rfl rfl rfl rfl rfl rfl rfl rfl (by show ((((ts.take i).filter fun t=>decide (t.length<n)).map trA).length+1)*1≤_;rw [List.length_map];omega) (by show ((((ts.take i).filter fun t=>decide (t.length<n)).map trA).length+1)*1*24≤_;rw [List.length_map];omega) fun zz=>?_
    refine A.s rfl ?_
    refine A.valE 10 rfl (x':= .ms zz 1 ((ts.take (i+1)).filter fun t=>decide (t.length<n)).length) (by rw [←hal,List.length_map];rfl) ?_
    refine l_ (Λ':=[.row 1 zz (((ts.take i).filter fun t=>decide (t.length<n)).map trA++[trA x]), .box b3 (encN k)]) ?_
    refine A.entsEq (Λ':=[.row 1 zz (((ts.take (i+1)).filter fun t=>decide (t.length<n)).map trA), .box b3 (encN k)]) (by rw [hap]) ?_
    refine y_ ?_
    refine i_ rfl (map_at hx) rfl ?_
    by_cases hxe:x=[]
    ·refine A.valE 12 rfl (x':=AB true) (ab_eq (by rw [hxe];rfl)) ?_
     refine A.loop1 ?_
     refine y_ ?_
     by_cases hi2:0<i
     ·refine e_ 86 rfl (x':=AB true) (ab_eq (by show decide ((0:Int)<(i:Nat))=true;rw [decide_eq_true_eq];omega)) ?_
      refine A.valE 36 rfl (x':=AI ((i+1:Nat):Int)) (inc_eq i (by omega)) ?_
      refine u_ (ih (i+1,zz) (by show i+1≤_;omega) (by show _-(i+1)<_-i;omega))
     ·refine e_ 86 rfl (x':=AB false) (ab_eq (by show decide ((0:Int)<(i:Nat))=false;rw [decide_eq_false_iff_not];omega)) ?_
      refine A.valE 36 rfl (x':=AI ((i+1:Nat):Int)) (inc_eq i (by omega)) ?_
      refine u_ (ih (i+1,zz) (by show i+1≤_;omega) (by show _-(i+1)<_-i;omega))
    ·have hxp:=List.length_pos_iff.2 hxe
     refine A.valE 12 rfl (x':=AB (decide (x.dropLast∈ts.take 0))) (ab_eq (by
      rw [List.take_zero,decide_eq_false List.not_mem_nil]
      show (((x.map evA).length:Int)==0)=false
      rw [nx,beq_eq_false_iff_ne];omega)) ?_
     refine A.keep [1,3,7,8,10,11,12,13,35,36] rfl ?_
     refine A.loopP (ι:=Nat) (fun j=>(⟨[(1,rowA inn),(3,ptrA b3),(7,AI (n:Nat)),(8,tsA ts),(10, .ms zz 1 ((ts.take (i+1)).filter fun t=>decide (t.length<n)).length),(11,AI (i:Nat)),(12,AB (decide (x.dropLast∈ts.take j))),(13,AI (j:Nat)),(35,AI (ts.length:Nat)),(36,AI (i:Nat))],[]⟩,[.row 1 zz (((ts.take (i+1)).filter fun t=>decide (t.length<n)).map trA), .box b3 (encN k)])) (fun j=>j≤i) (fun j=>i-j) 0 (Nat.zero_le _) rfl fun j hj1 jh=>?_
     by_cases hf:x.dropLast∈ts.take j
     ·refine e_ 12 rfl (x':=AB true) (by rw [decide_eq_true hf]) ?_
      by_cases hji:j<i
      ·refine e_ 86 rfl (x':=AB true) (ab_eq (by show decide ((j:Int)<(i:Nat))=true;rw [decide_eq_true_eq];omega)) ?_
       refine A.valE 36 rfl (x':=AI ((i+1:Nat):Int)) (inc_eq i (by omega)) ?_
       refine u_ (ih (i+1,zz) (by show i+1≤_;omega) (by show _-(i+1)<_-i;omega))
      ·refine e_ 86 rfl (x':=AB false) (ab_eq (by show decide ((j:Int)<(i:Nat))=false;rw [decide_eq_false_iff_not];omega)) ?_
       refine A.valE 36 rfl (x':=AI ((i+1:Nat):Int)) (inc_eq i (by omega)) ?_
       refine u_ (ih (i+1,zz) (by show i+1≤_;omega) (by show _-(i+1)<_-i;omega))
     ·have hji:j<i:=by
       rcases Nat.lt_or_ge j i with h|h
       ·exact h
       ·exact absurd (show x.dropLast∈ts.take j by rw [show j=i by omega];exact hdl hxe) hf
      refine Exists.elim (at_exN (l:=ts) (i:=j) (by omega)) fun y hy=>?_
      have hyl:=ok.len y (List.mem_of_getElem? hy)
      have hsm:=rtsame_p y x.dropLast (by omega) (by rw [List.length_dropLast];omega)
      have htj:ts.take (j+1)=ts.take j++[y]:=by rw [List.take_add_one,hy];rfl
      refine e_ 12 rfl (x':=AB false) (by rw [decide_eq_false hf]) ?_
      refine e_ 86 rfl (x':=AB true) (ab_eq (by show decide ((j:Int)<(i:Nat))=true;rw [decide_eq_true_eq];omega)) ?_
      refine d_ 15 [0,1,2,3,4,5,6,7,8,9,10,11,12,13,14] [] ?_
      refine iw_ rfl (map_at hy) rfl ?_
      refine iw_ rfl (map_at hx) rfl ?_
      refine iw_ rfl (map_at hx) rfl ?_
      refine WA.valE 105 rfl (x':=AI ((x.length-1:Nat):Int)) (ai_eq (by show IntKind.i64.wrap (((x.map evA).length:Int)-1)=_;rw [nx,wr64 _ (by omega)];omega)) ?_
      refine WA.slice (ys:=x.dropLast.map evA) rfl rfl rfl rfl rfl rfl rfl rfl rfl rfl (Int.le_refl 0) (by show (0:Int)≤((x.length-1:Nat):Int);omega) (by show ((x.length-1:Nat):Int)≤_;rw [nx];omega) (drop_take_ev x) rfl ?_
      refine WA.nil (l:=[]) rfl ?_
      refine c_ hsm ?_
      refine A.valE 12 rfl (x':=AB (decide (x.dropLast∈ts.take (j+1)))) (ab_eq (by rw [htj,Bool.eq_iff_iff,decide_eq_true_eq,decide_eq_true_eq,List.mem_append,List.mem_singleton];exact ⟨fun e=> .inr e.symm,fun e=>e.elim (fun h=>absurd h hf) fun e=>e.symm⟩)) ?_
      refine A.valE 13 rfl (x':=AI ((j+1:Nat):Int)) (inc_eq j (by omega)) ?_
      refine u_ (jh (j+1) (by omega) (by omega))
   ·refine A.gF rfl (by show decide (((x.map evA).length:Int)<(n:Nat))=false;rw [nx,decide_eq_false_iff_not];omega) ?_
    have hap:(ts.take i).filter (fun t=>decide (t.length<n))=(ts.take (i+1)).filter fun t=>decide (t.length<n):=by
     rw [htk,List.filter_append]
     simp [hlt]
    refine A.valE 10 rfl (x':= .ms zz 1 ((ts.take (i+1)).filter fun t=>decide (t.length<n)).length) (by rw [←hap]) ?_
    refine A.entsEq (Λ':=[.row 1 zz (((ts.take (i+1)).filter fun t=>decide (t.length<n)).map trA), .box b3 (encN k)]) (by rw [←hap];try rfl) ?_
    refine y_ ?_
    refine i_ rfl (map_at hx) rfl ?_
    by_cases hxe:x=[]
    ·refine A.valE 12 rfl (x':=AB true) (ab_eq (by rw [hxe];rfl)) ?_
     refine A.loop1 ?_
     refine y_ ?_
     by_cases hi2:0<i
     ·refine e_ 86 rfl (x':=AB true) (ab_eq (by show decide ((0:Int)<(i:Nat))=true;rw [decide_eq_true_eq];omega)) ?_
      refine A.valE 36 rfl (x':=AI ((i+1:Nat):Int)) (inc_eq i (by omega)) ?_
      refine u_ (ih (i+1,zz) (by show i+1≤_;omega) (by show _-(i+1)<_-i;omega))
     ·refine e_ 86 rfl (x':=AB false) (ab_eq (by show decide ((0:Int)<(i:Nat))=false;rw [decide_eq_false_iff_not];omega)) ?_
      refine A.valE 36 rfl (x':=AI ((i+1:Nat):Int)) (inc_eq i (by omega)) ?_
      refine u_ (ih (i+1,zz) (by show i+1≤_;omega) (by show _-(i+1)<_-i;omega))
    ·have hxp:=List.length_pos_iff.2 hxe
     refine A.valE 12 rfl (x':=AB (decide (x.dropLast∈ts.take 0))) (ab_eq (by
      rw [List.take_zero,decide_eq_false List.not_mem_nil]
      show (((x.map evA).length:Int)==0)=false
      rw [nx,beq_eq_false_iff_ne];omega)) ?_
     refine A.keep [1,3,7,8,10,11,12,13,35,36] rfl ?_
     refine A.loopP (ι:=Nat) (fun j=>(⟨[(1,rowA inn),(3,ptrA b3),(7,AI (n:Nat)),(8,tsA ts),(10, .ms zz 1 ((ts.take (i+1)).filter fun t=>decide (t.length<n)).length),(11,AI (i:Nat)),(12,AB (decide (x.dropLast∈ts.take j))),(13,AI (j:Nat)),(35,AI (ts.length:Nat)),(36,AI (i:Nat))],[]⟩,[.row 1 zz (((ts.take (i+1)).filter fun t=>decide (t.length<n)).map trA), .box b3 (encN k)])) (fun j=>j≤i) (fun j=>i-j) 0 (Nat.zero_le _) rfl fun j hj1 jh=>?_
     by_cases hf:x.dropLast∈ts.take j
     ·refine e_ 12 rfl (x':=AB true) (by rw [decide_eq_true hf]) ?_
      by_cases hji:j<i
      ·refine e_ 86 rfl (x':=AB true) (ab_eq (by show decide ((j:Int)<(i:Nat))=true;rw [decide_eq_true_eq];omega)) ?_
       refine A.valE 36 rfl (x':=AI ((i+1:Nat):Int)) (inc_eq i (by omega)) ?_
       refine u_ (ih (i+1,zz) (by show i+1≤_;omega) (by show _-(i+1)<_-i;omega))
      ·refine e_ 86 rfl (x':=AB false) (ab_eq (by show decide ((j:Int)<(i:Nat))=false;rw [decide_eq_false_iff_not];omega)) ?_
       refine A.valE 36 rfl (x':=AI ((i+1:Nat):Int)) (inc_eq i (by omega)) ?_
       refine u_ (ih (i+1,zz) (by show i+1≤_;omega) (by show _-(i+1)<_-i;omega))
     ·have hji:j<i:=by
       rcases Nat.lt_or_ge j i with h|h
       ·exact h
       ·exact absurd (show x.dropLast∈ts.take j by rw [show j=i by omega];exact hdl hxe) hf
      refine Exists.elim (at_exN (l:=ts) (i:=j) (by omega)) fun y hy=>?_
      have hyl:=ok.len y (List.mem_of_getElem? hy)
      have hsm:=rtsame_p y x.dropLast (by omega) (by rw [List.length_dropLast];omega)
      have htj:ts.take (j+1)=ts.take j++[y]:=by rw [List.take_add_one,hy];rfl
      refine e_ 12 rfl (x':=AB false) (by rw [decide_eq_false hf]) ?_
      refine e_ 86 rfl (x':=AB true) (ab_eq (by show decide ((j:Int)<(i:Nat))=true;rw [decide_eq_true_eq];omega)) ?_
      refine d_ 15 [0,1,2,3,4,5,6,7,8,9,10,11,12,13,14] [] ?_
      refine iw_ rfl (map_at hy) rfl ?_
      refine iw_ rfl (map_at hx) rfl ?_
      refine iw_ rfl (map_at hx) rfl ?_
      refine WA.valE 105 rfl (x':=AI ((x.length-1:Nat):Int)) (ai_eq (by show IntKind.i64.wrap (((x.map evA).length:Int)-1)=_;rw [nx,wr64 _ (by omega)];omega)) ?_
      refine WA.slice (ys:=x.dropLast.map evA) rfl rfl rfl rfl rfl rfl rfl rfl rfl rfl (Int.le_refl 0) (by show (0:Int)≤((x.length-1:Nat):Int);omega) (by show ((x.length-1:Nat):Int)≤_;rw [nx];omega) (drop_take_ev x) rfl ?_
      refine WA.nil (l:=[]) rfl ?_
      refine c_ hsm ?_
      refine A.valE 12 rfl (x':=AB (decide (x.dropLast∈ts.take (j+1)))) (ab_eq (by rw [htj,Bool.eq_iff_iff,decide_eq_true_eq,decide_eq_true_eq,List.mem_append,List.mem_singleton];exact ⟨fun e=> .inr e.symm,fun e=>e.elim (fun h=>absurd h hf) fun e=>e.symm⟩)) ?_
      refine A.valE 13 rfl (x':=AI ((j+1:Nat):Int)) (inc_eq j (by omega)) ?_
      refine u_ (jh (j+1) (by omega) (by omega))
  ·refine ew_ 49 rfl (x':=AB false) (ab_eq (by show decide ((0:Int)<(i:Nat))=false;rw [decide_eq_false_iff_not];omega)) ?_
   refine z_ ?_
   refine A.keep [1,3,7,8,10,11,35,36,63,64] rfl ?_
   refine i_ rfl (map_at hx) rfl ?_
   by_cases hlt:x.length<n
   ·refine A.gT rfl (by show decide (((x.map evA).length:Int)<(n:Nat))=true;rw [nx,decide_eq_true_eq];omega) ?_
    have hap:((ts.take i).filter fun t=>decide (t.length<n)).map trA++[trA x]=((ts.take (i+1)).filter fun t=>decide (t.length<n)).map trA:=by
     rw [htk,List.filter_append,List.map_append]
     simp [hlt]
    have hal:((ts.take i).filter fun t=>decide (t.length<n)).length+1=((ts.take (i+1)).filter fun t=>decide (t.length<n)).length:=by
     rw [htk,List.filter_append,List.length_append]
     simp [hlt]
    have hfi:=hfl i
    refine y_ ?_
    refine j_ rfl (map_at hx) rfl ?_
    refine t_ fun bl=>?_
    refine A.appendRowE rfl rfl rfl rfl rfl rfl rfl rfl rfl rfl rfl rfl rfl rfl (by show ((((ts.take i).filter fun t=>decide (t.length<n)).map trA).length+1)*1≤_;rw [List.length_map];omega) (by show ((((ts.take i).filter fun t=>decide (t.length<n)).map trA).length+1)*1*24≤_;rw [List.length_map];omega) fun zz=>?_
    refine A.s rfl ?_
    refine A.valE 10 rfl (x':= .ms zz 1 ((ts.take (i+1)).filter fun t=>decide (t.length<n)).length) (by rw [←hal,List.length_map];rfl) ?_
    refine l_ (Λ':=[.row 1 zz (((ts.take i).filter fun t=>decide (t.length<n)).map trA++[trA x]), .box b3 (encN k)]) ?_
    refine A.entsEq (Λ':=[.row 1 zz (((ts.take (i+1)).filter fun t=>decide (t.length<n)).map trA), .box b3 (encN k)]) (by rw [hap]) ?_
    refine y_ ?_
    refine i_ rfl (map_at hx) rfl ?_
    by_cases hxe:x=[]
    ·refine A.valE 12 rfl (x':=AB true) (ab_eq (by rw [hxe];rfl)) ?_
     refine A.loop1 ?_
     refine y_ ?_
     by_cases hi2:0<i
     ·refine e_ 86 rfl (x':=AB true) (ab_eq (by show decide ((0:Int)<(i:Nat))=true;rw [decide_eq_true_eq];omega)) ?_
      refine A.valE 36 rfl (x':=AI ((i+1:Nat):Int)) (inc_eq i (by omega)) ?_
      refine u_ (ih (i+1,zz) (by show i+1≤_;omega) (by show _-(i+1)<_-i;omega))
     ·refine e_ 86 rfl (x':=AB false) (ab_eq (by show decide ((0:Int)<(i:Nat))=false;rw [decide_eq_false_iff_not];omega)) ?_
      refine A.valE 36 rfl (x':=AI ((i+1:Nat):Int)) (inc_eq i (by omega)) ?_
      refine u_ (ih (i+1,zz) (by show i+1≤_;omega) (by show _-(i+1)<_-i;omega))
    ·have hxp:=List.length_pos_iff.2 hxe
     refine A.valE 12 rfl (x':=AB (decide (x.dropLast∈ts.take 0))) (ab_eq (by
      rw [List.take_zero,decide_eq_false List.not_mem_nil]
      show (((x.map evA).length:Int)==0)=false
      rw [nx,beq_eq_false_iff_ne];omega)) ?_
     refine A.keep [1,3,7,8,10,11,12,13,35,36] rfl ?_
     refine A.loopP (ι:=Nat) (fun j=>(⟨[(1,rowA inn),(3,ptrA b3),(7,AI (n:Nat)),(8,tsA ts),(10, .ms zz 1 ((ts.take (i+1)).filter fun t=>decide (t.length<n)).length),(11,AI (i:Nat)),(12,AB (decide (x.dropLast∈ts.take j))),(13,AI (j:Nat)),(35,AI (ts.length:Nat)),(36,AI (i:Nat))],[]⟩,[.row 1 zz (((ts.take (i+1)).filter fun t=>decide (t.length<n)).map trA), .box b3 (encN k)])) (fun j=>j≤i) (fun j=>i-j) 0 (Nat.zero_le _) rfl fun j hj1 jh=>?_
     by_cases hf:x.dropLast∈ts.take j
     ·refine e_ 12 rfl (x':=AB true) (by rw [decide_eq_true hf]) ?_
      by_cases hji:j<i
      ·refine e_ 86 rfl (x':=AB true) (ab_eq (by show decide ((j:Int)<(i:Nat))=true;rw [decide_eq_true_eq];omega)) ?_
       refine A.valE 36 rfl (x':=AI ((i+1:Nat):Int)) (inc_eq i (by omega)) ?_
       refine u_ (ih (i+1,zz) (by show i+1≤_;omega) (by show _-(i+1)<_-i;omega))
      ·refine e_ 86 rfl (x':=AB false) (ab_eq (by show decide ((j:Int)<(i:Nat))=false;rw [decide_eq_false_iff_not];omega)) ?_
       refine A.valE 36 rfl (x':=AI ((i+1:Nat):Int)) (inc_eq i (by omega)) ?_
       refine u_ (ih (i+1,zz) (by show i+1≤_;omega) (by show _-(i+1)<_-i;omega))
     ·have hji:j<i:=by
       rcases Nat.lt_or_ge j i with h|h
       ·exact h
       ·exact absurd (show x.dropLast∈ts.take j by rw [show j=i by omega];exact hdl hxe) hf
      refine Exists.elim (at_exN (l:=ts) (i:=j) (by omega)) fun y hy=>?_
      have hyl:=ok.len y (List.mem_of_getElem? hy)
      have hsm:=rtsame_p y x.dropLast (by omega) (by rw [List.length_dropLast];omega)
      have htj:ts.take (j+1)=ts.take j++[y]:=by rw [List.take_add_one,hy];rfl
      refine e_ 12 rfl (x':=AB false) (by rw [decide_eq_false hf]) ?_
      refine e_ 86 rfl (x':=AB true) (ab_eq (by show decide ((j:Int)<(i:Nat))=true;rw [decide_eq_true_eq];omega)) ?_
      refine d_ 15 [0,1,2,3,4,5,6,7,8,9,10,11,12,13,14] [] ?_
      refine iw_ rfl (map_at hy) rfl ?_
      refine iw_ rfl (map_at hx) rfl ?_
      refine iw_ rfl (map_at hx) rfl ?_
      refine WA.valE 105 rfl (x':=AI ((x.length-1:Nat):Int)) (ai_eq (by show IntKind.i64.wrap (((x.map evA).length:Int)-1)=_;rw [nx,wr64 _ (by omega)];omega)) ?_
      refine WA.slice (ys:=x.dropLast.map evA) rfl rfl rfl rfl rfl rfl rfl rfl rfl rfl (Int.le_refl 0) (by show (0:Int)≤((x.length-1:Nat):Int);omega) (by show ((x.length-1:Nat):Int)≤_;rw [nx];omega) (drop_take_ev x) rfl ?_
      refine WA.nil (l:=[]) rfl ?_
      refine c_ hsm ?_
      refine A.valE 12 rfl (x':=AB (decide (x.dropLast∈ts.take (j+1)))) (ab_eq (by rw [htj,Bool.eq_iff_iff,decide_eq_true_eq,decide_eq_true_eq,List.mem_append,List.mem_singleton];exact ⟨fun e=> .inr e.symm,fun e=>e.elim (fun h=>absurd h hf) fun e=>e.symm⟩)) ?_
      refine A.valE 13 rfl (x':=AI ((j+1:Nat):Int)) (inc_eq j (by omega)) ?_
      refine u_ (jh (j+1) (by omega) (by omega))
   ·refine A.gF rfl (by show decide (((x.map evA).length:Int)<(n:Nat))=false;rw [nx,decide_eq_false_iff_not];omega) ?_
    have hap:(ts.take i).filter (fun t=>decide (t.length<n))=(ts.take (i+1)).filter fun t=>decide (t.length<n):=by
     rw [htk,List.filter_append]
     simp [hlt]
    refine A.valE 10 rfl (x':= .ms zz 1 ((ts.take (i+1)).filter fun t=>decide (t.length<n)).length) (by rw [←hap]) ?_
    refine A.entsEq (Λ':=[.row 1 zz (((ts.take (i+1)).filter fun t=>decide (t.length<n)).map trA), .box b3 (encN k)]) (by rw [←hap];try rfl) ?_
    refine y_ ?_
    refine i_ rfl (map_at hx) rfl ?_
    by_cases hxe:x=[]
    ·refine A.valE 12 rfl (x':=AB true) (ab_eq (by rw [hxe];rfl)) ?_
     refine A.loop1 ?_
     refine y_ ?_
     by_cases hi2:0<i
     ·refine e_ 86 rfl (x':=AB true) (ab_eq (by show decide ((0:Int)<(i:Nat))=true;rw [decide_eq_true_eq];omega)) ?_
      refine A.valE 36 rfl (x':=AI ((i+1:Nat):Int)) (inc_eq i (by omega)) ?_
      refine u_ (ih (i+1,zz) (by show i+1≤_;omega) (by show _-(i+1)<_-i;omega))
     ·refine e_ 86 rfl (x':=AB false) (ab_eq (by show decide ((0:Int)<(i:Nat))=false;rw [decide_eq_false_iff_not];omega)) ?_
      refine A.valE 36 rfl (x':=AI ((i+1:Nat):Int)) (inc_eq i (by omega)) ?_
      refine u_ (ih (i+1,zz) (by show i+1≤_;omega) (by show _-(i+1)<_-i;omega))
    ·have hxp:=List.length_pos_iff.2 hxe
     refine A.valE 12 rfl (x':=AB (decide (x.dropLast∈ts.take 0))) (ab_eq (by
      rw [List.take_zero,decide_eq_false List.not_mem_nil]
      show (((x.map evA).length:Int)==0)=false
      rw [nx,beq_eq_false_iff_ne];omega)) ?_
     refine A.keep [1,3,7,8,10,11,12,13,35,36] rfl ?_
     refine A.loopP (ι:=Nat) (fun j=>(⟨[(1,rowA inn),(3,ptrA b3),(7,AI (n:Nat)),(8,tsA ts),(10, .ms zz 1 ((ts.take (i+1)).filter fun t=>decide (t.length<n)).length),(11,AI (i:Nat)),(12,AB (decide (x.dropLast∈ts.take j))),(13,AI (j:Nat)),(35,AI (ts.length:Nat)),(36,AI (i:Nat))],[]⟩,[.row 1 zz (((ts.take (i+1)).filter fun t=>decide (t.length<n)).map trA), .box b3 (encN k)])) (fun j=>j≤i) (fun j=>i-j) 0 (Nat.zero_le _) rfl fun j hj1 jh=>?_
     by_cases hf:x.dropLast∈ts.take j
     ·refine e_ 12 rfl (x':=AB true) (by rw [decide_eq_true hf]) ?_
      by_cases hji:j<i
      ·refine e_ 86 rfl (x':=AB true) (ab_eq (by show decide ((j:Int)<(i:Nat))=true;rw [decide_eq_true_eq];omega)) ?_
       refine A.valE 36 rfl (x':=AI ((i+1:Nat):Int)) (inc_eq i (by omega)) ?_
       refine u_ (ih (i+1,zz) (by show i+1≤_;omega) (by show _-(i+1)<_-i;omega))
      ·refine e_ 86 rfl (x':=AB false) (ab_eq (by show decide ((j:Int)<(i:Nat))=false;rw [decide_eq_false_iff_not];omega)) ?_
       refine A.valE 36 rfl (x':=AI ((i+1:Nat):Int)) (inc_eq i (by omega)) ?_
       refine u_ (ih (i+1,zz) (by show i+1≤_;omega) (by show _-(i+1)<_-i;omega))
     ·have hji:j<i:=by
       rcases Nat.lt_or_ge j i with h|h
       ·exact h
       ·exact absurd (show x.dropLast∈ts.take j by rw [show j=i by omega];exact hdl hxe) hf
      refine Exists.elim (at_exN (l:=ts) (i:=j) (by omega)) fun y hy=>?_
      have hyl:=ok.len y (List.mem_of_getElem? hy)
      have hsm:=rtsame_p y x.dropLast (by omega) (by rw [List.length_dropLast];omega)
      have htj:ts.take (j+1)=ts.take j++[y]:=by rw [List.take_add_one,hy];rfl
      refine e_ 12 rfl (x':=AB false) (by rw [decide_eq_false hf]) ?_
      refine e_ 86 rfl (x':=AB true) (ab_eq (by show decide ((j:Int)<(i:Nat))=true;rw [decide_eq_true_eq];omega)) ?_
      refine d_ 15 [0,1,2,3,4,5,6,7,8,9,10,11,12,13,14] [] ?_
      refine iw_ rfl (map_at hy) rfl ?_
      refine iw_ rfl (map_at hx) rfl ?_
      refine iw_ rfl (map_at hx) rfl ?_
      refine WA.valE 105 rfl (x':=AI ((x.length-1:Nat):Int)) (ai_eq (by show IntKind.i64.wrap (((x.map evA).length:Int)-1)=_;rw [nx,wr64 _ (by omega)];omega)) ?_
      refine WA.slice (ys:=x.dropLast.map evA) rfl rfl rfl rfl rfl rfl rfl rfl rfl rfl (Int.le_refl 0) (by show (0:Int)≤((x.length-1:Nat):Int);omega) (by show ((x.length-1:Nat):Int)≤_;rw [nx];omega) (drop_take_ev x) rfl ?_
      refine WA.nil (l:=[]) rfl ?_
      refine c_ hsm ?_
      refine A.valE 12 rfl (x':=AB (decide (x.dropLast∈ts.take (j+1)))) (ab_eq (by rw [htj,Bool.eq_iff_iff,decide_eq_true_eq,decide_eq_true_eq,List.mem_append,List.mem_singleton];exact ⟨fun e=> .inr e.symm,fun e=>e.elim (fun h=>absurd h hf) fun e=>e.symm⟩)) ?_
      refine A.valE 13 rfl (x':=AI ((j+1:Nat):Int)) (inc_eq j (by omega)) ?_
      refine u_ (jh (j+1) (by omega) (by omega))
end Go.Proofs.YtpcloejpklkieaaGreat
