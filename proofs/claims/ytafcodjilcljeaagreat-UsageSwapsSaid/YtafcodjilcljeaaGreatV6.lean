/-
  Texts Q16i Q16j Q16k Q16l Q16m Q16n Q16o Q16p Q16q Q16r Q16s Q16t Q16u P21a P21b P21c Q21b Lq. Conditions: as each theorem says.
-/
import Derived.Test.YtafcodjilcljeaaGreatV3
import Derived.Test.YtafcodjilcljeaaGreatV5
import Derived.Test.YtafcodjilcljeaaGreatV4
import Derived.Shelf.SlSortCmp.NoneTotal
set_option linter.unusedVariables false
set_option linter.unusedSimpArgs false
set_option maxRecDepth 100000
set_option maxHeartbeats 4000000
namespace Go.Proofs.YtafcodjilcljeaaGreat
open Go Go.Tp
section
variable(l:List KV)(ch:List Int)
variable(hl:l.length≤281474976710656)(hv:VarsOk l)
def IsCheck(f:FuncId)(p:PR):Prop:= ∀(x:Nat→AV) (lf:Int),Pure Tryz.prog gs0 f [ckP l ch x lf,cellsR p] (AB (kindB l ch.length p))
theorem nothing_p(p:PR)(hk:p.kind=1∨p.kind=2):IsCheck l ch 108 p:=fun x lf=>by
 have hs:=shape_p p false false 0 0 0 0 0 0 0 0
 have he:kindB l ch.length p=shapeR p false false 0 0 0 0 0 0 0 0:=by rw [kindB,if_pos hk]
 rw [he]
 refine p_ tt_ok Tryz.func108 11 fun w0 h0 F hgs=>?_
 (refine b_ fun bx=>?_;refine y_ ?_);exact cr_ hs
theorem seq_p(p:PR)(hk:p.kind=9):IsCheck l ch 115 p:=fun x lf=>by
 have hs:=shape_p p false false 0 0 0 0 0 0 0 2048
 have he:kindB l ch.length p=shapeR p false false 0 0 0 0 0 0 0 2048:=by simp [kindB,hk]
 rw [he]
 refine p_ tt_ok Tryz.func115 11 fun w0 h0 F hgs=>?_
 (refine b_ fun bx=>?_;refine y_ ?_);exact cr_ hs
theorem par_p(p:PR)(hk:p.kind=10):IsCheck l ch 116 p:=fun x lf=>by
 have hs:=shape_p p false false 0 0 0 0 0 0 0 16
 have he:kindB l ch.length p=shapeR p false false 0 0 0 0 0 0 0 16:=by simp [kindB,hk]
 rw [he]
 refine p_ tt_ok Tryz.func116 11 fun w0 h0 F hgs=>?_
 (refine b_ fun bx=>?_;refine y_ ?_);exact cr_ hs
theorem pri_p(p:PR)(hk:p.kind=11):IsCheck l ch 117 p:=fun x lf=>by
 have hs:=shape_p p false false 0 0 0 0 0 0 2 2
 have he:kindB l ch.length p=shapeR p false false 0 0 0 0 0 0 2 2:=by simp [kindB,hk]
 rw [he]
 refine p_ tt_ok Tryz.func117 11 fun w0 h0 F hgs=>?_
 (refine b_ fun bx=>?_;refine y_ ?_);exact cr_ hs
theorem clear_p(p:PR)(hk:p.kind=3):IsCheck l ch 109 p:=fun x lf=>by
 have hs:=shape_p p false true 0 0 0 0 0 0 0 0
 have hlen:((l.map encV).length:Int)=l.length:=by rw [List.length_map]
 have he:kindB l ch.length p=(shapeR p false true 0 0 0 0 0 0 0 0&&decide (0≤p.v)&&decide (p.v<((l.map encV).length:Int))):=by rw [hlen];simp [kindB,hk]
 rw [he]
 generalize shapeR p false true 0 0 0 0 0 0 0 0=b at hs⊢
 refine p_ tt_ok Tryz.func109 27 fun w0 h0 F hgs=>?_
 (refine b_ fun bx=>?_;refine y_ ?_)
 refine d_ 20 [0,1,2,3,4,5,6,7,8,9,10,11,12,13,14,15,16,17,18,19] [(5,AB b)] ?_
 refine cw_ hs ?_
 refine WA.gS rfl (fun hc=>?_) (fun hc=>?_)
 ·refine w_ ?_
  refine WA.gS rfl (fun hd=>?_) (fun hd=>?_)
  ·refine w_ ?_
   refine z_ ?_;refine R_ ?_;refine Sb.eq (ab_eq ?_);have hd:decide (0≤p.v)=true:=hd;rw [hc,hd];rfl
  ·refine w_ ?_
   refine z_ ?_;refine R_ ?_;refine Sb.eq (ab_eq ?_);have hd:decide (0≤p.v)=false:=hd;rw [hc,hd];rfl
 ·refine w_ ?_
  refine z_ ?_;refine R_ ?_;refine Sb.eq (ab_eq ?_);rw [hc];rfl
theorem rng11{n:Nat}(h:inB n 1 1=true):n=1:=by
 simp only [inB,Bool.and_eq_true,decide_eq_true_eq] at h;omega
theorem shape_to{p:PR}{c v:Bool}{e1 e2 g1 g2 l1 l2:Int}(h:shapeR p c v 1 1 e1 e2 g1 g2 l1 l2=true): ∃t,p.to=[t]:=by
 simp only [shapeR,Bool.and_eq_true] at h
 have:=rng11 h.1.1.1.2
 match hh:p.to,this with
 | [t],_=>exact ⟨t,rfl⟩
theorem shape_e{p:PR}{c v:Bool}{t1 t2 g1 g2 l1 l2:Int}(h:shapeR p c v t1 t2 1 1 g1 g2 l1 l2=true): ∃t,p.e=[t]:=by
 simp only [shapeR,Bool.and_eq_true] at h
 have:=rng11 h.1.1.2
 match hh:p.e,this with
 | [t],_=>exact ⟨t,rfl⟩
include hl hv
theorem in16_p(p:PR)(hw:WfR p)(hk:p.kind=5):IsCheck l ch 111 p:=fun x lf=>by
 have hs:=shape_p p true false 1 1 0 0 0 0 0 0
 have he:kindB l ch.length p=(shapeR p true false 1 1 0 0 0 0 0 0&&to1 (inputB l ch.length p.c p.item) p.to):=by simp [kindB,hk]
 rw [he]
 cases hb:shapeR p true false 1 1 0 0 0 0 0 0 with
 |false=>
  rw [hb] at hs
  refine p_ tt_ok Tryz.func111 23 fun w0 h0 F hgs=>?_
  (refine b_ fun bx=>?_;refine y_ ?_)
  refine d_ 16 [0,1,2,3,4,5,6,7,8,9,10,11,12,13,14,15] [(5,AB false)] ?_
  refine cw_ hs ?_
  refine z_ ?_;exact r_
 |true=>
  rw [hb] at hs
  obtain ⟨t,ht⟩:=shape_to hb
  have hin:=input_p l ch x lf hl hv p.c p.item t (hw.to t (by rw [ht];exact List.mem_cons_self ..))
  have h1:to1 (inputB l ch.length p.c p.item) p.to=inputB l ch.length p.c p.item t:=by rw [ht];rfl
  rw [h1]
  refine p_ tt_ok Tryz.func111 23 fun w0 h0 F hgs=>?_
  (refine b_ fun bx=>?_;refine y_ ?_)
  refine d_ 16 [0,1,2,3,4,5,6,7,8,9,10,11,12,13,14,15] [(5,AB true)] ?_
  refine cw_ hs ?_
  refine iw_ rfl (show (p.to.map encPl)[(0:Int).toNat]? =some (encPl t) from map_at (by rw [ht];rfl)) rfl ?_
  refine WA.nil (l:=[]) rfl ?_
  exact cr_ hin
omit hl hv in
theorem out_a(p:PR)(x:Nat→AV)(lf:Int)(hs:Pure Tryz.prog gs0 149 [cellsR p,AB true,AB false,twoA 0 0,twoA 1 1,twoA 0 0,twoA 0 0] (AB false)):Pure Tryz.prog gs0 112 [ckP l ch x lf,cellsR p] (AB false):=by
 refine p_ tt_ok Tryz.func112 29 fun w0 h0 F hgs=>?_
 (refine b_ fun bx=>?_;refine y_ ?_)
 refine d_ 22 [0,1,2,3,4,5,6,7,8,9,10,11,12,13,14,15,16,17,18,19,20,21] [(5,AB false),(12,AB false)] ?_
 refine cw_ hs ?_
 refine z_ ?_;exact r_
omit hl hv in
theorem out_b(p:PR)(x:Nat→AV)(lf:Int)(hs:Pure Tryz.prog gs0 149 [cellsR p,AB true,AB false,twoA 0 0,twoA 1 1,twoA 0 0,twoA 0 0] (AB true))(hch:Pure Tryz.prog gs0 153 [ckP l ch x lf,AI p.c,AU8 p.item,AI 0] (AB false)):
 Pure Tryz.prog gs0 112 [ckP l ch x lf,cellsR p] (AB false):=by
 refine p_ tt_ok Tryz.func112 29 fun w0 h0 F hgs=>?_
 (refine b_ fun bx=>?_;refine y_ ?_)
 refine d_ 22 [0,1,2,3,4,5,6,7,8,9,10,11,12,13,14,15,16,17,18,19,20,21] [(5,AB true),(12,AB false)] ?_
 refine cw_ hs ?_
 refine cw_ hch ?_
 refine z_ ?_;exact r_
omit hl hv in
theorem out_c(p:PR)(x:Nat→AV)(lf:Int)(e:KE)(bf:Bool)(he:(encKl p.e)[(0:Int).toNat]? =some (encK e))(hs:Pure Tryz.prog gs0 149 [cellsR p,AB true,AB false,twoA 0 0,twoA 1 1,twoA 0 0,twoA 0 0] (AB true))(hch:Pure Tryz.prog gs0 153 [ckP l ch x lf,AI p.c,AU8 p.item,AI 0] (AB true))
 (hf:Pure Tryz.prog gs0 151 [ckP l ch x lf,cellsK e,AU8 p.item] (AB bf)):Pure Tryz.prog gs0 112 [ckP l ch x lf,cellsR p] (AB bf):=by
 refine p_ tt_ok Tryz.func112 29 fun w0 h0 F hgs=>?_
 (refine b_ fun bx=>?_;refine y_ ?_)
 refine d_ 22 [0,1,2,3,4,5,6,7,8,9,10,11,12,13,14,15,16,17,18,19,20,21] [(5,AB true),(12,AB true)] ?_
 refine cw_ hs ?_
 refine cw_ hch ?_
 refine iw_ rfl he (encK_eq e) ?_
 refine WA.nil (l:=[]) rfl ?_
 exact cr_ hf
theorem out16_p(p:PR)(hw:WfR p)(hk:p.kind=6):IsCheck l ch 112 p:=fun x lf=>by
 have hs:=shape_p p true false 0 0 1 1 0 0 0 0
 have he:kindB l ch.length p=(shapeR p true false 0 0 1 1 0 0 0 0&&chanB ch.length p.c p.item 0&&fit1 l p.e p.item):=by simp [kindB,hk]
 rw [he]
 cases hb:shapeR p true false 0 0 1 1 0 0 0 0 with
 |false=>rw [hb] at hs;exact out_a l ch p x lf hs
 |true=>
 rw [hb] at hs
 obtain ⟨e,ht⟩:=shape_e hb
 have hch:=chan_p l ch x lf p.c p.item 0
 have h1:fit1 l p.e p.item=fitV l e p.item:=by rw [ht];rfl
 rw [h1]
 cases hc:chanB ch.length p.c p.item 0 with
 |false=>rw [hc] at hch;exact out_b l ch p x lf hs hch
 |true=>
  rw [hc] at hch
  have hpi:1≤p.item∧p.item≤3:=by simp only [chanB,primB,Bool.and_eq_true,decide_eq_true_eq] at hc;omega
  have hf:=kfit_p l ch x lf hl hv e (hw.e e (by rw [ht];exact List.mem_cons_self ..)) p.item hpi
  rw [Bool.and_self,Bool.true_and]
  exact out_c l ch p x lf e _ (encKl_at (by rw [ht];rfl)) hs hch hf
theorem time16_p(p:PR)(hw:WfR p)(hk:p.kind=7):IsCheck l ch 113 p:=fun x lf=>by
 have hs:=shape_p p false false 1 1 0 0 0 0 0 0
 have he:kindB l ch.length p=(shapeR p false false 1 1 0 0 0 0 0 0&&to1 (fun t=>placeB l t 1) p.to):=by simp [kindB,hk]
 rw [he]
 cases hb:shapeR p false false 1 1 0 0 0 0 0 0 with
 |false=>
  rw [hb] at hs
  refine p_ tt_ok Tryz.func113 19 fun w0 h0 F hgs=>?_
  (refine b_ fun bx=>?_;refine y_ ?_);exact cr_ hs
 |true=>
  rw [hb] at hs
  obtain ⟨t,ht⟩:=shape_to hb
  have hin:=place_p l ch x lf hl hv t (hw.to t (by rw [ht];exact List.mem_cons_self ..)) 1
  have h1:to1 (fun t=>placeB l t 1) p.to=placeB l t 1:=by rw [ht];rfl
  rw [h1]
  refine p_ tt_ok Tryz.func113 19 fun w0 h0 F hgs=>?_
  (refine b_ fun bx=>?_;refine y_ ?_);refine c_ hs ?_
  refine i_ rfl (show (p.to.map encPl)[(0:Int).toNat]? =some (encPl t) from map_at (by rw [ht];rfl)) rfl ?_;exact cr_ hin
theorem after16_p(p:PR)(hw:WfR p)(hk:p.kind=8):IsCheck l ch 114 p:=fun x lf=>by
 have hs:=shape_p p false false 0 0 1 1 0 0 0 0
 have he:kindB l ch.length p=(shapeR p false false 0 0 1 1 0 0 0 0&&fit1 l p.e 1):=by simp [kindB,hk]
 rw [he]
 cases hb:shapeR p false false 0 0 1 1 0 0 0 0 with
 |false=>
  rw [hb] at hs
  refine p_ tt_ok Tryz.func114 19 fun w0 h0 F hgs=>?_
  (refine b_ fun bx=>?_;refine y_ ?_);exact cr_ hs
 |true=>
  rw [hb] at hs
  obtain ⟨e,ht⟩:=shape_e hb
  have hin:=kfit_p l ch x lf hl hv e (hw.e e (by rw [ht];exact List.mem_cons_self ..)) 1 (by decide)
  have h1:fit1 l p.e 1=fitV l e 1:=by rw [ht];rfl
  rw [h1]
  refine p_ tt_ok Tryz.func114 19 fun w0 h0 F hgs=>?_
  (refine b_ fun bx=>?_;refine y_ ?_);refine c_ hs ?_
  refine i_ rfl (show (encKl p.e)[(0:Int).toNat]? =some (encK e) from encKl_at (by rw [ht];rfl)) (encK_eq e) ?_;exact cr_ hin
theorem loop16_p(p:PR)(hw:WfR p)(hk:p.kind=13):IsCheck l ch 119 p:=fun x lf=>by
 have hs:=shape_p p false false 0 0 1 1 0 0 1 1
 have he:kindB l ch.length p=(shapeR p false false 0 0 1 1 0 0 1 1&&fit1 l p.e 3):=by simp [kindB,hk]
 rw [he]
 cases hb:shapeR p false false 0 0 1 1 0 0 1 1 with
 |false=>
  rw [hb] at hs
  refine p_ tt_ok Tryz.func119 19 fun w0 h0 F hgs=>?_
  (refine b_ fun bx=>?_;refine y_ ?_);exact cr_ hs
 |true=>
  rw [hb] at hs
  obtain ⟨e,ht⟩:=shape_e hb
  have hin:=kfit_p l ch x lf hl hv e (hw.e e (by rw [ht];exact List.mem_cons_self ..)) 3 (by decide)
  have h1:fit1 l p.e 3=fitV l e 3:=by rw [ht];rfl
  rw [h1]
  refine p_ tt_ok Tryz.func119 19 fun w0 h0 F hgs=>?_
  (refine b_ fun bx=>?_;refine y_ ?_);refine c_ hs ?_
  refine i_ rfl (show (encKl p.e)[(0:Int).toNat]? =some (encK e) from encKl_at (by rw [ht];rfl)) (encK_eq e) ?_;exact cr_ hin
theorem choice1_p(x:Nat→AV)(lf:Int)(p:PR)(g:GD)(hw:WfG g):Pure Tryz.prog gs0 155 [cellsG g, .pe 1 (ckP l ch x lf), .pe 8 (cellsR p)] (AB (!guardB l ch.length g (p.kind==12))):=by
 have hg:=guard_p l ch x lf hl hv g hw (p.kind==12)
 refine p_ tt_ok Tryz.func155 12 fun w0 h0 F hgs=>?_
 (refine b_ fun bx=>?_;refine y_ ?_);exact cr_ hg
theorem choice16_p(p:PR)(hw:WfR p)(hk:p.kind=12∨p.kind=14∨p.kind=15):IsCheck l ch 118 p:=fun x lf=>by
 have hs:=shape_p p false false 0 0 0 0 0 16 0 0
 have he:kindB l ch.length p=(shapeR p false false 0 0 0 0 0 16 0 0&& !p.gs.any fun g=> !guardB l ch.length g (p.kind==12)):=by
  rw [List.not_any_eq_all_not];rcases hk with hk|hk|hk<;>simp [kindB,hk]
 rw [he]
 have hg:=hasG_p 155 [.pe 1 (ckP l ch x lf), .pe 8 (cellsR p)] (fun g=> !guardB l ch.length g (p.kind==12)) p.gs (fun g hgm=>choice1_p l ch hl hv x lf p g (wfG_all (hw.g g hgm))) hw.gl
 cases hb:shapeR p false false 0 0 0 0 0 16 0 0 with
 |false=>
  rw [hb] at hs
  refine p_ tt_ok Tryz.func118 17 fun w0 h0 F hgs=>?_
  (refine b_ fun bx=>?_;refine b_ fun bx=>?_;refine y_ ?_);exact cr_ hs
 |true=>
  rw [hb] at hs
  refine p_ tt_ok Tryz.func118 17 fun w0 h0 F hgs=>?_
  (refine b_ fun bx=>?_;refine b_ fun bx=>?_;refine y_ ?_);refine n_ hs ?_
  refine A.freeze 2 (sz:=1) rfl rfl rfl ?_
  refine A.freeze 3 (sz:=8) rfl rfl rfl ?_
  refine y_ ?_;exact cr_ hg
end
theorem zip_len{α β:Type}{a:List α}{b:List β}(h:a.length=b.length):(a.zip b).length=a.length:=by rw [List.length_zip,h,Nat.min_self]
theorem zip_both{α β:Type}{a:List α}{b:List β}{i:Nat}{x:α}{y:β}(h1:a[i]? =some x)(h2:b[i]? =some y):(a.zip b)[i]? =some (x,y):=List.getElem?_zip_eq_some.2 ⟨h1,h2⟩
theorem assign_no{l:List KV}{t:PL}{e:KE}{r:List (PL×KE)}(h:assignB l t e=false):((t,e)::r).all (fun te=>assignB l te.1 te.2)=false:=by rw [List.all_cons,h];rfl
theorem assign_a(l:List KV)(ch:List Int)(p:PR)(x:Nat→AV)(lf:Int)(hs:Pure Tryz.prog gs0 149 [cellsR p,AB false,AB false,twoA 1 8,twoA 1 8,twoA 0 0,twoA 0 0] (AB false)):Pure Tryz.prog gs0 110 [ckP l ch x lf,cellsR p] (AB false):=by
 refine p_ tt_ok Tryz.func110 84 fun w0 h0 F hgs=>?_
 (refine b_ fun bx=>?_;refine b_ fun bx=>?_;refine y_ ?_);exact cr_ hs
theorem assign_b(l:List KV)(ch:List Int)(p:PR)(x:Nat→AV)(lf:Int)(hs:Pure Tryz.prog gs0 149 [cellsR p,AB false,AB false,twoA 1 8,twoA 1 8,twoA 0 0,twoA 0 0] (AB true))(hle:p.to.length≠p.e.length):Pure Tryz.prog gs0 110 [ckP l ch x lf,cellsR p] (AB false):=by
 have n1:((p.to.map encPl).length:Int)=p.to.length:=by rw [List.length_map]
 have n2:((encKl p.e).length:Int)=p.e.length:=by rw [encKl_len]
 refine p_ tt_ok Tryz.func110 84 fun w0 h0 F hgs=>?_
 (refine b_ fun bx=>?_;refine b_ fun bx=>?_;refine y_ ?_);refine c_ hs ?_
 refine e_ 24 rfl (x':=AB true) (ab_eq (by rw [n1,n2];simp;omega)) ?_;exact r_
theorem assign_c(l:List KV)(ch:List Int)(hl:l.length≤281474976710656)(hv:VarsOk l)(p:PR)(hw:WfR p)(x:Nat→AV)(lf:Int)(hs:Pure Tryz.prog gs0 149 [cellsR p,AB false,AB false,twoA 1 8,twoA 1 8,twoA 0 0,twoA 0 0] (AB true))(hle:p.to.length=p.e.length)(hto8:p.to.length≤8)(R:Bool)(hR:(p.to.zip p.e).all (fun te=>assignB l te.1 te.2)=R):
 Pure Tryz.prog gs0 110 [ckP l ch x lf,cellsR p] (AB R):=by
 have hlen:((l.map encV).length:Int)=l.length:=by rw [List.length_map]
 have n1:((p.to.map encPl).length:Int)=p.to.length:=by rw [List.length_map]
 have n2:((encKl p.e).length:Int)=p.e.length:=by rw [encKl_len]
 refine p_ tt_ok Tryz.func110 84 fun w0 h0 F hgs=>?_
 (refine b_ fun bx=>?_;refine b_ fun bx=>?_;refine y_ ?_);refine c_ hs ?_
 refine e_ 24 rfl (x':=AB false) (ab_eq (by rw [n1,n2];simp;omega)) ?_
 refine A.valE 27 rfl (x':=AI (p.to.length:Nat)) (ai_eq n1) ?_
 refine l_ (Λ':=[.box _ (cellsR p)]) ?_
 refine A.keep [0,3,26,27,28] rfl ?_
 refine A.loopP (ι:=Nat) (fun i=>(⟨[(0,ckP l ch x lf),(3, .v (.pointer (some ⟨_,0,none⟩))),(26,plsA p.to),(27,AI (p.to.length:Nat)),(28,AI (i:Nat))],[]⟩,[.box _ (cellsR p)]))
  (fun i=>i≤p.to.length∧((p.to.zip p.e).drop i).all (fun te=>assignB l te.1 te.2)=R) (fun i=>p.to.length-i) 0 ⟨by omega,hR⟩ rfl fun i hi ih=>?_
 refine y_ ?_
 refine k_ (fun hc=>?_) fun hc=>?_
 ·simp at hc
  refine Exists.elim (at_exN (l:=p.to) (i:=i) (by omega)) fun t ht=>?_
  refine Exists.elim (at_exN (l:=p.e) (i:=i) (by omega)) fun e hee=>?_
  have hwt:=hw.to t (List.mem_of_getElem? ht)
  have hwe:=hw.e e (List.mem_of_getElem? hee)
  have h1:=hi.2
  rw [drop_at (zip_both ht hee)] at h1
  by_cases hneg:t.v<0
  ·rw [assign_no (by rw [assignB,if_pos (.inl hneg)])] at h1
   refine y_ ?_
   refine j_ rfl (map_at ht) rfl ?_
   (refine b_ fun bx=>?_;refine y_ ?_)
   refine d_ 47 [0,1,2,3,4,5,6,7,8,9,10,11,12,13,14,15,16,17,18,19,20,21,22,23,24,25,26,27,28,29,30,31,32,33,34,35,36,37,38,39,40,41,42,43,44,45,46] [(27,AB false)] ?_
   refine ew_ 36 rfl (x':=AB true) (ab_eq (by simpa using hneg)) ?_
   refine z_ ?_;refine R_ ?_;rw [←h1];exact .refl
  by_cases hout:(l.length:Int)≤t.v
  ·rw [assign_no (by rw [assignB,if_pos (.inr hout)])] at h1
   refine y_ ?_
   refine j_ rfl (map_at ht) rfl ?_
   (refine b_ fun bx=>?_;refine y_ ?_)
   refine d_ 47 [0,1,2,3,4,5,6,7,8,9,10,11,12,13,14,15,16,17,18,19,20,21,22,23,24,25,26,27,28,29,30,31,32,33,34,35,36,37,38,39,40,41,42,43,44,45,46] [(27,AB false)] ?_
   refine ew_ 36 rfl (x':=AB false) (ab_eq (by simp;omega)) ?_
   refine ew_ 47 rfl (x':=AB true) (ab_eq (by rw [hlen];simpa using hout)) ?_
   refine z_ ?_;refine R_ ?_;rw [←h1];exact .refl
  refine Exists.elim (at_ex (l:=l) (i:=t.v) (by omega) (by omega)) fun y hy=>?_
  have hyk:=hv y (List.mem_of_getElem? hy)
  have hv0:(0:Int)≤t.v:=by omega
  have hab:assignB l t e=(placeB l t y.kind&&fitV l e y.kind):=by rw [assignB,if_neg (by omega),hy]
  have hpl:=place_p l ch x lf hl hv t hwt y.kind
  have hft:=kfit_p l ch x lf hl hv e hwe y.kind hyk
  generalize placeB l t y.kind=b1 at hpl hab
  generalize fitV l e y.kind=b2 at hft hab
  cases b1 with
  |false=>
   rw [assign_no (by rw [hab];rfl)] at h1
   refine y_ ?_
   refine j_ rfl (map_at ht) rfl ?_
   (refine b_ fun bx=>?_;refine y_ ?_)
   refine d_ 47 [0,1,2,3,4,5,6,7,8,9,10,11,12,13,14,15,16,17,18,19,20,21,22,23,24,25,26,27,28,29,30,31,32,33,34,35,36,37,38,39,40,41,42,43,44,45,46] [(27,AB false)] ?_
   refine ew_ 36 rfl (x':=AB false) (ab_eq (by simp;omega)) ?_
   refine ew_ 47 rfl (x':=AB false) (ab_eq (by rw [hlen];simp;omega)) ?_
   refine WA.x rfl hv0 (map_at hy) rfl rfl ?_
   refine w_ ?_
   refine cw_ hpl ?_
   refine z_ ?_;refine R_ ?_;rw [←h1];exact .refl
  |true=>
   refine y_ ?_
   refine j_ rfl (map_at ht) rfl ?_
   (refine b_ fun bx=>?_;refine y_ ?_)
   refine d_ 47 [0,1,2,3,4,5,6,7,8,9,10,11,12,13,14,15,16,17,18,19,20,21,22,23,24,25,26,27,28,29,30,31,32,33,34,35,36,37,38,39,40,41,42,43,44,45,46] [(27,AB true)] ?_
   refine ew_ 36 rfl (x':=AB false) (ab_eq (by simp;omega)) ?_
   refine ew_ 47 rfl (x':=AB false) (ab_eq (by rw [hlen];simp;omega)) ?_
   refine WA.x rfl hv0 (map_at hy) rfl rfl ?_
   refine w_ ?_
   refine cw_ hpl ?_
   refine iw_ rfl (encKl_at hee) (encK_eq e) ?_
   refine WA.x rfl hv0 (map_at hy) rfl rfl ?_
   refine w_ ?_
   refine WA.nil (l:=[]) rfl ?_
   refine c_ hft ?_
   refine A.valE 82 rfl (x':=AB (!b2)) (ab_eq (by cases b2<;>rfl)) ?_
   refine k_ (fun hc=>?_) fun hc=>?_
   ·have hf:b2=false:=by simpa using hc
    rw [assign_no (by rw [hab,hf,Bool.and_false])] at h1
    refine y_ ?_;refine R_ ?_;rw [←h1];exact .refl
   ·have hf:b2=true:=by simpa using hc
    rw [List.all_cons] at h1
    have hat:assignB l t e=true:=by rw [hab,hf];rfl
    simp only [hat,Bool.true_and] at h1
    refine y_ ?_
    refine A.valE 28 rfl (x':=AI ((i+1:Nat):Int)) (inc_eq i (by omega)) ?_
    refine l_ (Λ':=[.box _ (cellsR p)]) ?_
    refine u_ (ih (i+1) ⟨by omega,h1⟩ (by omega))
 ·simp at hc
  have hil:i=p.to.length:=by omega
  have h1:=hi.2
  rw [List.drop_eq_nil_of_le (by rw [zip_len hle];omega),List.all_nil] at h1
  refine y_ ?_;refine R_ ?_;rw [←h1];exact .refl
theorem assign16_p(l:List KV)(ch:List Int)(hl:l.length≤281474976710656)(hv:VarsOk l)(p:PR)(hw:WfR p)(hk:p.kind=4):IsCheck l ch 110 p:=fun x lf=>by
 have hs:=shape_p p false false 1 8 1 8 0 0 0 0
 have he:kindB l ch.length p=(shapeR p false false 1 8 1 8 0 0 0 0&&(p.to.length==p.e.length)&&(p.to.zip p.e).all fun te=>assignB l te.1 te.2):=by simp [kindB,hk]
 rw [he]
 cases hb:shapeR p false false 1 8 1 8 0 0 0 0 with
 |false=>rw [hb] at hs;rw [Bool.false_and,Bool.false_and];exact assign_a l ch p x lf hs
 |true=>
 rw [hb] at hs
 by_cases hle:p.to.length=p.e.length
 ·have e0:(p.to.length==p.e.length)=true:=by simpa using hle
  rw [e0,Bool.true_and,Bool.true_and]
  have hto8:p.to.length≤8:=by
   simp only [shapeR,inB,Bool.and_eq_true,decide_eq_true_eq] at hb;omega
  exact assign_c l ch hl hv p hw x lf hs hle hto8 _ rfl
 ·have e0:(p.to.length==p.e.length)=false:=by simpa using hle
  rw [e0,Bool.true_and,Bool.false_and]
  exact assign_b l ch p x lf hs hle
def checkF(k:Int):FuncId:=if k=1∨k=2 then 108 else if k=3 then 109 else if k=4 then 110 else if k=5 then 111 else if k=6 then 112
 else if k=7 then 113 else if k=8 then 114 else if k=9 then 115 else if k=10 then 116 else if k=11 then 117 else if k=13 then 119 else 118
theorem kinds15{k:Int}(h:1≤k∧k≤15):k=1∨k=2∨k=3∨k=4∨k=5∨k=6∨k=7∨k=8∨k=9∨k=10∨k=11∨k=12∨k=13∨k=14∨k=15:=by omega
theorem check_some(b:Nat)(k:Int)(h:1≤k∧k≤15):Pure Tryz.prog gs0 85 [ptrA b,AU8 k] (.fn (checkF k) [ptrA b] []):=by
 rcases kinds15 h with rfl|rfl|rfl|rfl|rfl|rfl|rfl|rfl|rfl|rfl|rfl|rfl|rfl|rfl|rfl
 all_goals refine p_ tt_ok Tryz.func85 39 fun w0 h0 F hgs=>?_
 all_goals refine y_ ?_
 all_goals refine A.makeMap rfl rfl rfl rfl fun bm=>?_
 all_goals (repeat first|first|refine A.s rfl ?_|refine A.r rfl rfl ?_|refine A.w rfl rfl ?_|refine A.p rfl ?_|refine A.b rfl fun bx=>?_|refine A.t rfl fun bl=>?_|refine A.insert rfl rfl rfl rfl rfl rfl rfl rfl rfl rfl rfl ?_)
 all_goals refine A.lookup rfl rfl rfl rfl rfl rfl rfl rfl rfl rfl rfl rfl ?_
 all_goals (exact yr_)
theorem posK_not{k:Int}(h: ¬(1≤k∧k≤15)):posK .u8 k [.int .u8 1, .int .u8 2, .int .u8 3, .int .u8 4, .int .u8 5, .int .u8 6, .int .u8 7, .int .u8 8, .int .u8 9, .int .u8 10, .int .u8 11, .int .u8 12, .int .u8 13, .int .u8 14, .int .u8 15]=some none:=by
 have e: ∀m:Int,1≤m→m≤15→(k==m)=false:=fun m h1 h2=>by
  rw [beq_eq_false_iff_ne];rintro rfl;exact h ⟨h1,h2⟩
 simp only [posK,decide_true,e 1 (by decide) (by decide),e 2 (by decide) (by decide),e 3 (by decide) (by decide),e 4 (by decide) (by decide),e 5 (by decide) (by decide),e 6 (by decide) (by decide),e 7 (by decide) (by decide),e 8 (by decide) (by decide),
  e 9 (by decide) (by decide),e 10 (by decide) (by decide),e 11 (by decide) (by decide),e 12 (by decide) (by decide),e 13 (by decide) (by decide),e 14 (by decide) (by decide),e 15 (by decide) (by decide)]
theorem check_none(b:Nat)(k:Int)(h: ¬(1≤k∧k≤15)):Pure Tryz.prog gs0 85 [ptrA b,AU8 k] (.v .nilFunc):=by
 refine p_ tt_ok Tryz.func85 39 fun w0 h0 F hgs=>?_
 refine y_ ?_
 refine A.makeMap rfl rfl rfl rfl fun bm=>?_
 (repeat first|first|refine A.s rfl ?_|refine A.r rfl rfl ?_|refine A.w rfl rfl ?_|refine A.p rfl ?_|refine A.b rfl fun bx=>?_|refine A.t rfl fun bl=>?_|refine A.insert rfl rfl rfl rfl rfl rfl rfl rfl rfl rfl rfl ?_)
 refine A.lookupNil (v:= .nilFunc) rfl rfl rfl rfl rfl rfl rfl rfl (by kernel_rfl) rfl (posK_not h) rfl rfl ?_
 exact yr_
section
variable(l:List KV)(n:Nat)
mutual
def okR(high:Bool):PR→Bool
 |⟨k,c,v,i,to,e,gs,b⟩=>kindB l n ⟨k,c,v,i,to,e,gs,b⟩&& !(high&&k==11)&&okL high (k==11) b&&okGs high gs
def okL(high first:Bool):List PR→Bool
 | []=>true
 |p::r=>okR (high||first) p&&okL high false r
def okG(high:Bool):GD→Bool
 |⟨_,_,_,_,_,_,b⟩=>okL high false b
def okGs(high:Bool):List GD→Bool
 | []=>true
 |g::r=>okG high g&&okGs high r
end
end
mutual
def szR:PR→Nat
 |⟨_,_,_,_,_,_,gs,b⟩=>1+szL b+szGs gs
def szL:List PR→Nat
 | []=>0
 |p::r=>szR p+szL r
def szG:GD→Nat
 |⟨_,_,_,_,_,_,b⟩=>szL b
def szGs:List GD→Nat
 | []=>0
 |g::r=>szG g+szGs r
end
mutual
def htR:PR→Nat
 |⟨_,_,_,_,_,_,gs,b⟩=>1+max (htL b) (htGs gs)
def htL:List PR→Nat
 | []=>0
 |p::r=>max (htR p) (htL r)
def htG:GD→Nat
 |⟨_,_,_,_,_,_,b⟩=>htL b
def htGs:List GD→Nat
 | []=>0
 |g::r=>max (htG g) (htGs r)
end
theorem okR_eq(l:List KV)(n:Nat)(high:Bool)(p:PR):okR l n high p=(kindB l n p&& !(high&&p.kind==11)&&okL l n high (p.kind==11) p.l&&okGs l n high p.gs):=by obtain ⟨k,c,v,i,to,e,gs,b⟩:=p;rw [okR]
theorem szR_eq(p:PR):szR p=1+szL p.l+szGs p.gs:=by obtain ⟨k,c,v,i,to,e,gs,b⟩:=p;rw [szR]
theorem htR_eq(p:PR):htR p=1+max (htL p.l) (htGs p.gs):=by obtain ⟨k,c,v,i,to,e,gs,b⟩:=p;rw [htR]
theorem okG_eq(l:List KV)(n:Nat)(high:Bool)(g:GD):okG l n high g=okL l n high false g.body:=by obtain ⟨k,e,c,i,to,t,b⟩:=g;rw [okG]
theorem szG_eq(g:GD):szG g=szL g.body:=by obtain ⟨k,e,c,i,to,t,b⟩:=g;rw [szG]
theorem htG_eq(g:GD):htG g=htL g.body:=by obtain ⟨k,e,c,i,to,t,b⟩:=g;rw [htG]
theorem szR_pos(p:PR):1≤szR p:=by rw [szR_eq];omega
theorem htR_pos(p:PR):1≤htR p:=by rw [htR_eq];omega
theorem szL_append(a b:List PR):szL (a++b)=szL a+szL b:=by
 induction a with
 |nil=>simp [szL]
 |cons x r ih=>rw [List.cons_append,szL,szL,ih];omega
theorem htL_append(a b:List PR):htL (a++b)=max (htL a) (htL b):=by
 induction a with
 |nil=>simp [htL]
 |cons x r ih=>rw [List.cons_append,htL,htL,ih];omega
theorem szGs_append(a b:List GD):szGs (a++b)=szGs a+szGs b:=by
 induction a with
 |nil=>simp [szGs]
 |cons x r ih=>rw [List.cons_append,szGs,szGs,ih];omega
theorem htGs_append(a b:List GD):htGs (a++b)=max (htGs a) (htGs b):=by
 induction a with
 |nil=>simp [htGs]
 |cons x r ih=>rw [List.cons_append,htGs,htGs,ih];omega
section
variable{l:List KV}{n:Nat}{high:Bool}
theorem okL_append{first:Bool}{a b:List PR}:okL l n high first (a++b)=(okL l n high first a&&okL l n high (first&&a.isEmpty) b):=by
 induction a generalizing first with
 |nil=>simp [okL]
 |cons x r ih=>rw [List.cons_append,okL,okL,ih];simp [Bool.and_assoc]
theorem okGs_append{a b:List GD}:okGs l n high (a++b)=(okGs l n high a&&okGs l n high b):=by
 induction a with
 |nil=>simp [okGs]
 |cons x r ih=>rw [List.cons_append,okGs,okGs,ih,Bool.and_assoc]
def fitsR(l:List KV)(n:Nat)(high:Bool)(p:PR)(room deep:Int):Prop:=okR l n high p=true∧(szR p:Int)≤room∧(htR p:Int)≤deep
instance (l:List KV) (n:Nat) (high:Bool) (p:PR) (room deep:Int):Decidable (fitsR l n high p room deep):=by unfold fitsR;infer_instance
def fitsPs(l:List KV)(n:Nat)(high first:Bool)(ps:List PR)(room deep:Int):Prop:=okL l n high first ps=true∧(szL ps:Int)≤room∧(htL ps:Int)≤deep
def fitsGs(l:List KV)(n:Nat)(high:Bool)(gs:List GD)(room deep:Int):Prop:=okGs l n high gs=true∧(szGs gs:Int)≤room∧(htGs gs:Int)≤deep
theorem fitsR_l{p:PR}{room deep:Int}(hr:1≤room)(hd:1≤deep)(hk:kindB l n p=true)(hh:(high&&p.kind==11)=false):
 fitsR l n high p room deep↔fitsPs l n high (p.kind==11) p.l (room-1) (deep-1)∧fitsGs l n high p.gs (room-1-szL p.l) (deep-1):=by
 unfold fitsR fitsPs fitsGs
 rw [okR_eq,hk,hh,szR_eq,htR_eq,Bool.not_false,Bool.true_and,Bool.true_and,Bool.and_eq_true]
 constructor
 ·rintro ⟨⟨h1,h2⟩,h3,h4⟩;exact ⟨⟨h1,by omega,by omega⟩,h2,by omega,by omega⟩
 ·rintro ⟨⟨h1,h3,h4⟩,h2,h5,h6⟩;exact ⟨⟨h1,h2⟩,by omega,by omega⟩
theorem fitsR_no{p:PR}{r d:Int}(h:r<1∨d<1∨kindB l n p=false∨(high&&p.kind==11)=true): ¬fitsR l n high p r d:=by
 rintro ⟨h1,h2,h3⟩
 have:=szR_pos p
 have:=htR_pos p
 rw [okR_eq] at h1
 simp only [Bool.and_eq_true,Bool.not_eq_true'] at h1
 rcases h with h|h|h|h
 ·omega
 ·omega
 ·rw [h1.1.1.1] at h;cases h
 ·rw [h1.1.1.2] at h;cases h
theorem fitsPs_snoc{first:Bool}{a:List PR}{x:PR}{room deep:Int}(ha:fitsPs l n high first a room deep):fitsPs l n high first (a++[x]) room deep↔fitsR l n (high||(first&&a.isEmpty)) x (room-szL a) deep:=by
 obtain ⟨h1,h2,h3⟩:=ha
 unfold fitsPs fitsR
 rw [okL_append,szL_append,htL_append,h1,Bool.true_and]
 simp only [okL,szL,htL,Bool.and_true]
 constructor
 ·rintro ⟨g1,g2,g3⟩;exact ⟨g1,by omega,by omega⟩
 ·rintro ⟨g1,g2,g3⟩;exact ⟨g1,by omega,by omega⟩
theorem fitsPs_take{first:Bool}{ps:List PR}{room deep:Int}(h:fitsPs l n high first ps room deep)(i:Nat):fitsPs l n high first (ps.take i) room deep:=by
 obtain ⟨h1,h2,h3⟩:=h
 rw [←List.take_append_drop i ps] at h1 h2 h3
 rw [okL_append,Bool.and_eq_true] at h1
 rw [szL_append] at h2
 rw [htL_append] at h3
 exact ⟨h1.1,by omega,by omega⟩
theorem fitsGs_snoc{a:List GD}{x:GD}{y:PR}(hx:x.body=[y]){room deep:Int}(ha:fitsGs l n high a room deep):fitsGs l n high (a++[x]) room deep↔fitsR l n high y (room-szGs a) deep:=by
 obtain ⟨h1,h2,h3⟩:=ha
 have e1:okGs l n high [x]=okR l n high y:=by rw [okGs,okGs,Bool.and_true,okG_eq,hx,okL,okL,Bool.and_true,Bool.or_false]
 have e2:szGs [x]=szR y:=by rw [szGs,szGs,szG_eq,hx,szL,szL];omega
 have e3:htGs [x]=htR y:=by rw [htGs,htGs,htG_eq,hx,htL,htL];omega
 unfold fitsGs fitsR
 rw [okGs_append,szGs_append,htGs_append,h1,Bool.true_and,e1,e2,e3]
 constructor
 ·rintro ⟨g1,g2,g3⟩;exact ⟨g1,by omega,by omega⟩
 ·rintro ⟨g1,g2,g3⟩;exact ⟨g1,by omega,by omega⟩
theorem fitsGs_take{gs:List GD}{room deep:Int}(h:fitsGs l n high gs room deep)(i:Nat):fitsGs l n high (gs.take i) room deep:=by
 obtain ⟨h1,h2,h3⟩:=h
 rw [←List.take_append_drop i gs] at h1 h2 h3
 rw [okGs_append,Bool.and_eq_true] at h1
 rw [szGs_append] at h2
 rw [htGs_append] at h3
 exact ⟨h1.1,by omega,by omega⟩
theorem szL_le: ∀{ps:List PR} {x:PR},x∈ps→szR x≤szL ps
 | [],_,h=>by cases h
 |y::r,x,h=>by
  rw [szL]
  rcases List.mem_cons.1 h with rfl|h
  ·omega
  ·have:=szL_le h;omega
theorem szGs_le: ∀{gs:List GD} {x:GD},x∈gs→szG x≤szGs gs
 | [],_,h=>by cases h
 |y::r,x,h=>by
  rw [szGs]
  rcases List.mem_cons.1 h with rfl|h
  ·omega
  ·have:=szGs_le h;omega
theorem inB_0{m:Nat}(h:inB m 0 0=true):m=0:=by simp only [inB,Bool.and_eq_true,decide_eq_true_eq] at h;omega
theorem kind_bodies{p:PR}(h:kindB l n p=true):1≤p.kind∧p.kind≤15∧ ∀g,g∈p.gs→ ∃y,g.body=[y]:=by
 have h0: ∀{ch v:Bool} {t1 t2 e1 e2 l1 l2:Int},shapeR p ch v t1 t2 e1 e2 0 0 l1 l2=true→ ∀g,g∈p.gs→ ∃y,g.body=[y]:=fun hs g hg=>by
  simp only [shapeR,Bool.and_eq_true] at hs
  have:=inB_0 hs.1.2
  rw [List.length_eq_zero_iff] at this
  rw [this] at hg;cases hg
 unfold kindB at h
 by_cases k0:p.kind=1∨p.kind=2
 ·rw [if_pos k0] at h;exact ⟨by omega,by omega,h0 h⟩
 rw [if_neg k0] at h
 by_cases k1:p.kind=3
 ·rw [if_pos k1,Bool.and_eq_true,Bool.and_eq_true] at h;exact ⟨by omega,by omega,h0 h.1.1⟩
 rw [if_neg k1] at h
 by_cases k2:p.kind=4
 ·rw [if_pos k2,Bool.and_eq_true,Bool.and_eq_true] at h;exact ⟨by omega,by omega,h0 h.1.1⟩
 rw [if_neg k2] at h
 by_cases k3:p.kind=5
 ·rw [if_pos k3,Bool.and_eq_true] at h;exact ⟨by omega,by omega,h0 h.1⟩
 rw [if_neg k3] at h
 by_cases k4:p.kind=6
 ·rw [if_pos k4,Bool.and_eq_true,Bool.and_eq_true] at h;exact ⟨by omega,by omega,h0 h.1.1⟩
 rw [if_neg k4] at h
 by_cases k5:p.kind=7
 ·rw [if_pos k5,Bool.and_eq_true] at h;exact ⟨by omega,by omega,h0 h.1⟩
 rw [if_neg k5] at h
 by_cases k6:p.kind=8
 ·rw [if_pos k6,Bool.and_eq_true] at h;exact ⟨by omega,by omega,h0 h.1⟩
 rw [if_neg k6] at h
 by_cases k7:p.kind=9
 ·rw [if_pos k7] at h;exact ⟨by omega,by omega,h0 h⟩
 rw [if_neg k7] at h
 by_cases k8:p.kind=10
 ·rw [if_pos k8] at h;exact ⟨by omega,by omega,h0 h⟩
 rw [if_neg k8] at h
 by_cases k9:p.kind=11
 ·rw [if_pos k9] at h;exact ⟨by omega,by omega,h0 h⟩
 rw [if_neg k9] at h
 by_cases k10:p.kind=12∨p.kind=14∨p.kind=15
 ·rw [if_pos k10,Bool.and_eq_true,List.all_eq_true] at h
  refine ⟨by omega,by omega,fun g hg=>?_⟩
  have:=h.2 g hg
  simp only [guardB,Bool.and_eq_true,beq_iff_eq] at this
  have h1:=this.1.1.1
  match hb:g.body,h1 with
  | [y],_=>exact ⟨y,rfl⟩
 rw [if_neg k10] at h
 by_cases k11:p.kind=13
 ·rw [if_pos k11,Bool.and_eq_true] at h;exact ⟨by omega,by omega,h0 h.1⟩
 rw [if_neg k11] at h
 cases h
end
section
variable(l:List KV)(ch:List Int)(hl:l.length≤281474976710656)(hv:VarsOk l)
def Lent(f:FuncId)(p:PR):Prop:= ∀(b:Nat) (x:Nat→AV) (lf:Int),Fun Tryz.prog gs0 f [ptrA b,cellsR p] [.box b (ckA l ch x lf)] fun z Λ'=>z=AB (kindB l ch.length p)∧Λ'=[.box b (ckA l ch x lf)]
include hl hv
theorem kind_lent(p:PR)(hw:WfR p)(hk:1≤p.kind∧p.kind≤15):Lent l ch (checkF p.kind) p:=fun b x lf=>by
 by_cases h1:p.kind=1∨p.kind=2
 ·have h:=nothing_p l ch p h1
  rw [checkF,if_pos h1];exact Pure.lend Tryz.func108 rfl rfl (h x lf) rfl (LtL.cons (Lt.box (List.mem_singleton.2 rfl) rfl) (LtL.cons (Lt.sub .refl) LtL.nil))
 rw [checkF,if_neg h1]
 by_cases h3:p.kind=3
 ·have h:=clear_p l ch p h3
  rw [if_pos h3];exact Pure.lend Tryz.func109 rfl rfl (h x lf) rfl (LtL.cons (Lt.box (List.mem_singleton.2 rfl) rfl) (LtL.cons (Lt.sub .refl) LtL.nil))
 rw [if_neg h3]
 by_cases h4:p.kind=4
 ·have h:=assign16_p l ch hl hv p hw h4
  rw [if_pos h4];exact Pure.lend Tryz.func110 rfl rfl (h x lf) rfl (LtL.cons (Lt.box (List.mem_singleton.2 rfl) rfl) (LtL.cons (Lt.sub .refl) LtL.nil))
 rw [if_neg h4]
 by_cases h5:p.kind=5
 ·have h:=in16_p l ch hl hv p hw h5
  rw [if_pos h5];exact Pure.lend Tryz.func111 rfl rfl (h x lf) rfl (LtL.cons (Lt.box (List.mem_singleton.2 rfl) rfl) (LtL.cons (Lt.sub .refl) LtL.nil))
 rw [if_neg h5]
 by_cases h6:p.kind=6
 ·have h:=out16_p l ch hl hv p hw h6
  rw [if_pos h6];exact Pure.lend Tryz.func112 rfl rfl (h x lf) rfl (LtL.cons (Lt.box (List.mem_singleton.2 rfl) rfl) (LtL.cons (Lt.sub .refl) LtL.nil))
 rw [if_neg h6]
 by_cases h7:p.kind=7
 ·have h:=time16_p l ch hl hv p hw h7
  rw [if_pos h7];exact Pure.lend Tryz.func113 rfl rfl (h x lf) rfl (LtL.cons (Lt.box (List.mem_singleton.2 rfl) rfl) (LtL.cons (Lt.sub .refl) LtL.nil))
 rw [if_neg h7]
 by_cases h8:p.kind=8
 ·have h:=after16_p l ch hl hv p hw h8
  rw [if_pos h8];exact Pure.lend Tryz.func114 rfl rfl (h x lf) rfl (LtL.cons (Lt.box (List.mem_singleton.2 rfl) rfl) (LtL.cons (Lt.sub .refl) LtL.nil))
 rw [if_neg h8]
 by_cases h9:p.kind=9
 ·have h:=seq_p l ch p h9
  rw [if_pos h9];exact Pure.lend Tryz.func115 rfl rfl (h x lf) rfl (LtL.cons (Lt.box (List.mem_singleton.2 rfl) rfl) (LtL.cons (Lt.sub .refl) LtL.nil))
 rw [if_neg h9]
 by_cases h10:p.kind=10
 ·have h:=par_p l ch p h10
  rw [if_pos h10];exact Pure.lend Tryz.func116 rfl rfl (h x lf) rfl (LtL.cons (Lt.box (List.mem_singleton.2 rfl) rfl) (LtL.cons (Lt.sub .refl) LtL.nil))
 rw [if_neg h10]
 by_cases h11:p.kind=11
 ·have h:=pri_p l ch p h11
  rw [if_pos h11];exact Pure.lend Tryz.func117 rfl rfl (h x lf) rfl (LtL.cons (Lt.box (List.mem_singleton.2 rfl) rfl) (LtL.cons (Lt.sub .refl) LtL.nil))
 rw [if_neg h11]
 by_cases h13:p.kind=13
 ·have h:=loop16_p l ch hl hv p hw h13
  rw [if_pos h13];exact Pure.lend Tryz.func119 rfl rfl (h x lf) rfl (LtL.cons (Lt.box (List.mem_singleton.2 rfl) rfl) (LtL.cons (Lt.sub .refl) LtL.nil))
 rw [if_neg h13]
 have h:=choice16_p l ch hl hv p hw (by omega)
 exact Pure.lend Tryz.func118 rfl rfl (h x lf) rfl (LtL.cons (Lt.box (List.mem_singleton.2 rfl) rfl) (LtL.cons (Lt.sub .refl) LtL.nil))
end
abbrev procE(l:List KV)(ch:List Int)(x:Nat→AV)(b:Nat)(p:PR)(deep:Int)(high:Bool)(left:Int):Prop:=
 FunE Tryz.prog gs0 59 [ptrA b,cellsR p,AI deep,AB high] [.box b (ckA l ch x left)] (fun _:Int=>AB (decide (fitsR l ch.length high p left (33-deep)))) (fun i=>[.box b (ckA l ch x i)]) (fun i=>fitsR l ch.length high p left (33-deep)→i=left-szR p)
theorem proc_a(l:List KV)(ch:List Int)(x:Nat→AV)(b:Nat)(p:PR)(deep:Int)(high:Bool)(left:Int)(h:left=0∨deep=33)(r0:0≤left)(r1:left≤2048)(f:AV)(hck:Pure Tryz.prog gs0 85 [ptrA b,AU8 p.kind] f):procE l ch x b p deep high left:=by
 have hw1:IntKind.i64.wrap (left-1)=left-1:=wr64 _ (by omega)
 have hnf: ¬fitsR l ch.length high p left (33-deep):=fitsR_no (by omega)
 unfold procE FunE
 refine Fun.of (S:=tt) (fn:=Tryz.f59) (n:=95) tt_ok Tryz.func59 rfl rfl rfl rfl fun w0 h0 F hgs=>?_
 (refine b_ fun bx=>?_;refine y_ ?_)
 refine c_ hck ?_
 refine A.valE 30 rfl (x':=AB (decide (left=0))) (ab_eq (by rw [hw1,Bool.eq_iff_iff];simp;omega)) ?_
 by_cases hz:left=0
 ·refine e_ 30 rfl (x':=AB true) (ab_eq (by simpa using hz)) ?_
  (refine A.ret1 (Λ':=[.box b _]) rfl rfl rfl sl_ ⟨_,Sb.eq (ab_eq ?_),rfl,?_⟩;exact (decide_eq_false hnf).symm;exact fun h=>absurd h hnf)
 ·refine e_ 30 rfl (x':=AB false) (ab_eq (by simpa using hz)) ?_
  refine e_ 34 rfl (x':=AB true) (ab_eq (by simp;omega)) ?_
  (refine A.ret1 (Λ':=[.box b _]) rfl rfl rfl sl_ ⟨_,Sb.eq (ab_eq ?_),rfl,?_⟩;exact (decide_eq_false hnf).symm;exact fun h=>absurd h hnf)
theorem proc_b(l:List KV)(ch:List Int)(x:Nat→AV)(b:Nat)(p:PR)(deep:Int)(high:Bool)(left:Int)(r0:1≤left)(r1:left≤2048)(d0:1≤deep)(d1:deep≤32)(hck:Pure Tryz.prog gs0 85 [ptrA b,AU8 p.kind] (.v .nilFunc))(hno:kindB l ch.length p=false):procE l ch x b p deep high left:=by
 have hw1:IntKind.i64.wrap (left-1)=left-1:=wr64 _ (by omega)
 have hnf: ¬fitsR l ch.length high p left (33-deep):=fitsR_no (.inr (.inr (.inl hno)))
 unfold procE FunE
 refine Fun.of (S:=tt) (fn:=Tryz.f59) (n:=95) tt_ok Tryz.func59 rfl rfl rfl rfl fun w0 h0 F hgs=>?_
 (refine b_ fun bx=>?_;refine y_ ?_)
 refine c_ hck ?_
 refine e_ 30 rfl (x':=AB false) (ab_eq (by rw [hw1];simp;omega)) ?_
 refine e_ 34 rfl (x':=AB false) (ab_eq (by simp;omega)) ?_
 (refine A.ret1 (Λ':=[.box b _]) rfl rfl rfl sl_ ⟨_,Sb.eq (ab_eq ?_),rfl,?_⟩;exact (decide_eq_false hnf).symm;exact fun h=>absurd h hnf)
theorem proc_c(l:List KV)(ch:List Int)(x:Nat→AV)(b:Nat)(p:PR)(deep:Int)(high:Bool)(left:Int)(r0:1≤left)(r1:left≤2048)(d0:1≤deep)(d1:deep≤32)(f:FuncId)(hck:Pure Tryz.prog gs0 85 [ptrA b,AU8 p.kind] (.fn f [ptrA b] []))(hle:Lent l ch f p)(hno:kindB l ch.length p=false):procE l ch x b p deep high left:=by
 have hw1:IntKind.i64.wrap (left-1)=left-1:=wr64 _ (by omega)
 have hnf: ¬fitsR l ch.length high p left (33-deep):=fitsR_no (.inr (.inr (.inl hno)))
 have hl1:=hle b x (IntKind.i64.wrap (left-1))
 rw [hno] at hl1
 unfold procE FunE
 refine Fun.of (S:=tt) (fn:=Tryz.f59) (n:=95) tt_ok Tryz.func59 rfl rfl rfl rfl fun w0 h0 F hgs=>?_
 (refine b_ fun bx=>?_;refine y_ ?_)
 refine c_ hck ?_
 refine e_ 30 rfl (x':=AB false) (ab_eq (by rw [hw1];simp;omega)) ?_
 refine e_ 34 rfl (x':=AB false) (ab_eq (by simp;omega)) ?_
 refine A.d rfl hl1 .refl (List.Perm.swap _ _ _) ?_
 refine y_ ?_
 (refine A.ret1 (Λ':=[.box b _]) rfl rfl rfl sl_ ⟨_,Sb.eq (ab_eq ?_),rfl,?_⟩;exact (decide_eq_false hnf).symm;exact fun h=>absurd h hnf)
theorem proc_d(l:List KV)(ch:List Int)(x:Nat→AV)(b:Nat)(p:PR)(deep:Int)(left:Int)(r0:1≤left)(r1:left≤2048)(d0:1≤deep)(d1:deep≤32)(f:FuncId)(hck:Pure Tryz.prog gs0 85 [ptrA b,AU8 p.kind] (.fn f [ptrA b] []))(hle:Lent l ch f p)(hyes:kindB l ch.length p=true)(hk:p.kind=11):procE l ch x b p deep true left:=by
 have hw1:IntKind.i64.wrap (left-1)=left-1:=wr64 _ (by omega)
 have hnf: ¬fitsR l ch.length true p left (33-deep):=fitsR_no (.inr (.inr (.inr (by simpa using hk))))
 have hl1:=hle b x (IntKind.i64.wrap (left-1))
 rw [hyes] at hl1
 unfold procE FunE
 refine Fun.of (S:=tt) (fn:=Tryz.f59) (n:=95) tt_ok Tryz.func59 rfl rfl rfl rfl fun w0 h0 F hgs=>?_
 (refine b_ fun bx=>?_;refine y_ ?_)
 refine c_ hck ?_
 refine e_ 30 rfl (x':=AB false) (ab_eq (by rw [hw1];simp;omega)) ?_
 refine e_ 34 rfl (x':=AB false) (ab_eq (by simp;omega)) ?_
 refine A.d rfl hl1 .refl (List.Perm.swap _ _ _) ?_
 refine y_ ?_
 refine e_ 51 rfl (x':=AB true) (ab_eq (by simpa using hk)) ?_
 (refine A.ret1 (Λ':=[.box b _]) rfl rfl rfl sl_ ⟨_,Sb.eq (ab_eq ?_),rfl,?_⟩;exact (decide_eq_false hnf).symm;exact fun h=>absurd h hnf)
theorem take_empty{α:Type}{a:List α}{i:Nat}(h:i<a.length):(a.take i).isEmpty=decide (i=0):=by
 rw [Bool.eq_iff_iff,List.isEmpty_iff,List.take_eq_nil_iff];simp
 rintro rfl;simp at h
theorem proc_e(l:List KV)(ch:List Int)(x:Nat→AV)(b:Nat)(p:PR)(hwf:wfR p)(deep:Int)(high:Bool)(left:Int)(r0:1≤left)(r1:left≤2048)(d0:1≤deep)(d1:deep≤32)(f:FuncId)(hck:Pure Tryz.prog gs0 85 [ptrA b,AU8 p.kind] (.fn f [ptrA b] []))(hle:Lent l ch f p)(hyes:kindB l ch.length p=true)(hh:(high&&p.kind==11)=false)
 (ih0: ∀(y:PR) (hi:Bool) (lf:Int),wfR y→szR y<szR p→0≤lf→lf≤2048→procE l ch x b y (deep+1) hi lf):procE l ch x b p deep high left:=by
 have hw1:IntKind.i64.wrap (left-1)=left-1:=wr64 _ (by omega)
 have hw2:IntKind.i64.wrap (deep+1)=deep+1:=wr64 _ (by omega)
 have hwa:=wfR_all hwf
 have hl1:=hle b x (left-1)
 rw [hyes] at hl1
 have hbod:=(kind_bodies hyes).2.2
 have hfl:=fitsR_l (high:=high) (p:=p) (room:=left) (deep:=33-deep) r0 (by omega) hyes hh
 rw [show 33-deep-1=33-(deep+1) by omega] at hfl
 have hse:=szR_eq p
 have n1:((encRl p.l).length:Int)=p.l.length:=by rw [encRl_len]
 have n2:((encGl p.gs).length:Int)=p.gs.length:=by rw [encGl_len]
 unfold procE FunE
 refine Fun.of (S:=tt) (fn:=Tryz.f59) (n:=95) tt_ok Tryz.func59 rfl rfl rfl rfl fun w0 h0 F hgs=>?_
 (refine b_ fun bx=>?_;refine y_ ?_)
 refine c_ hck ?_
 refine e_ 30 rfl (x':=AB false) (ab_eq (by rw [hw1];simp;omega)) ?_
 refine e_ 34 rfl (x':=AB false) (ab_eq (by simp;omega)) ?_
 refine A.entsEq (Λ':=[.box _ (cellsR p), .box b (ckA l ch x (left-1))]) (by rw [hw1]) ?_
 refine A.d rfl hl1 .refl (List.Perm.swap _ _ _) ?_
 refine g_ ?_
 refine e_ 51 rfl (x':=AB false) (ab_eq (by revert hh;cases high<;>simp)) ?_
 refine A.valE 54 rfl (x':=AI (p.l.length:Nat)) (ai_eq n1) ?_
 refine A.keep [0,2,3,5,53,54,55] rfl ?_
 refine A.loopP (ι:=Nat×Int) (fun q=>(⟨[(0,ptrA b),(2,AI deep),(3,AB high),(5,ptrA _),(53,rsA p.l),(54,AI (p.l.length:Nat)),(55,AI (q.1:Nat))],[]⟩,[.box b (ckA l ch x q.2), .box _ (cellsR p)]))
  (fun q=>q.1≤p.l.length∧fitsPs l ch.length high (p.kind==11) (p.l.take q.1) (left-1) (33-(deep+1))∧q.2=left-1-(szL (p.l.take q.1):Nat)) (fun q=>p.l.length-q.1) (0,left-1) ⟨Nat.zero_le _,⟨by simp [okL],by simp [szL];omega,by simp [htL];omega⟩,by simp [szL]⟩ rfl fun q hi ih=>?_
 obtain ⟨i,lf⟩:=q
 obtain ⟨hi1,hi2,hi3⟩:=hi
 simp only at hi1 hi2 hi3
 have hsz2:=hi2.2.1
 refine y_ ?_
 refine k_ (fun hc=>?_) fun hc=>?_
 ·simp at hc
  refine Exists.elim (at_exN (l:=p.l) (i:=i) (by omega)) fun y hy=>?_
  have hym:=List.mem_of_getElem? hy
  have htk:p.l.take (i+1)=p.l.take i++[y]:=by rw [List.take_add_one,hy];rfl
  have hsn:=fitsPs_snoc (x:=y) hi2
  rw [←htk,←hi3,take_empty (by omega)] at hsn
  have ihy:=ih0 y (high||((p.kind==11)&&decide (i=0))) lf ((wfR_all (by exact hwf)).l y hym) (by have:=szL_le hym;omega) (by omega) (by omega)
  unfold procE at ihy
  have e0:(((i:Nat):Int)==0)=decide (i=0):=by rw [Bool.eq_iff_iff];simp
  refine y_ ?_
  refine j_ rfl (encRl_at hy) (encR_eq y) ?_
  (refine gb_ fun bx=>?_;refine g_ ?_)
  refine A.valE 63 rfl (x':=AI (deep+1)) (ai_eq hw2) ?_
  refine A.valE 73 rfl (x':=AB (high||((p.kind==11)&&decide (i=0)))) (ab_eq (by rw [e0];clear ih ihy hsn;generalize (p.kind==11)=b11;cases high<;>cases b11<;>simp)) ?_
  refine A.e rfl ihy .refl (List.Perm.swap _ _ _) fun lf2 hlf2=>?_
  by_cases hfx:fitsR l ch.length (high||((p.kind==11)&&decide (i=0))) y lf (33-(deep+1))
  ·refine e_ 74 rfl (x':=AB true) (ab_eq (decide_eq_true hfx)) ?_
   refine l_ (Λ':=[.box b (ckA l ch x lf2), .box _ (cellsR p)]) ?_
   refine A.valE 55 rfl (x':=AI ((i+1:Nat):Int)) (inc_eq i (by have:=hwa.ll;omega)) ?_
   refine u_ (ih (i+1,lf2) ⟨by show i+1≤_;omega,hsn.2 hfx,?_⟩ (by show _-(i+1)<_-i;omega))
   show lf2=left-1-(szL (p.l.take (i+1)):Nat)
   rw [hlf2 hfx,htk,szL_append,hi3];simp [szL];omega
  ·have hnf: ¬fitsR l ch.length high p left (33-deep):=fun hf=>hfx (hsn.1 (fitsPs_take (hfl.1 hf).1 (i+1)))
   refine e_ 74 rfl (x':=AB false) (ab_eq (decide_eq_false hfx)) ?_
   (refine A.ret1 (Λ':=[.box b _]) rfl rfl rfl sl_ ⟨_,Sb.eq (ab_eq ?_),rfl,?_⟩;exact (decide_eq_false hnf).symm;exact fun h=>absurd h hnf)
 simp at hc
 have hil:i=p.l.length:=by omega
 rw [hil,List.take_length] at hi2 hi3
 have hszl:=hi2.2.1
 refine y_ ?_
 refine A.valE 79 rfl (x':=AI (p.gs.length:Nat)) (ai_eq n2) ?_
 refine A.keep [0,2,3,5,78,79,80] rfl ?_
 refine A.loopP (ι:=Nat×Int) (fun q=>(⟨[(0,ptrA b),(2,AI deep),(3,AB high),(5,ptrA _),(78,gsA p.gs),(79,AI (p.gs.length:Nat)),(80,AI (q.1:Nat))],[]⟩,[.box b (ckA l ch x q.2), .box _ (cellsR p)]))
  (fun q=>q.1≤p.gs.length∧fitsGs l ch.length high (p.gs.take q.1) (left-1-(szL p.l:Nat)) (33-(deep+1))∧q.2=left-1-(szL p.l:Nat)-(szGs (p.gs.take q.1):Nat)) (fun q=>p.gs.length-q.1) (0,lf) ⟨Nat.zero_le _,⟨by simp [okGs],by simp [szGs];omega,by simp [htGs];omega⟩,by simp [szGs];omega⟩ rfl fun q hj jh=>?_
 obtain ⟨j,lg⟩:=q
 obtain ⟨hj1,hj2,hj3⟩:=hj
 simp only at hj1 hj2 hj3
 have hsz3:=hj2.2.1
 refine y_ ?_
 refine k_ (fun hc=>?_) fun hc=>?_
 ·simp at hc
  refine Exists.elim (at_exN (l:=p.gs) (i:=j) (by omega)) fun g hg=>?_
  have hgm:=List.mem_of_getElem? hg
  refine Exists.elim (hbod g hgm) fun y hy=>?_
  have htk:p.gs.take (j+1)=p.gs.take j++[g]:=by rw [List.take_add_one,hg];rfl
  have hsn:=fitsGs_snoc hy hj2
  rw [←htk,←hj3] at hsn
  have hszy:szR y≤szGs p.gs:=by have:=szGs_le hgm;rw [szG_eq,hy,szL,szL] at this;omega
  have ihy:=ih0 y high lg ((wfG_all (hwa.g g hgm)).body y (by rw [hy];exact List.mem_cons_self ..)) (by omega) (by omega) (by omega)
  unfold procE at ihy
  refine y_ ?_
  refine j_ rfl (encGl_at hg) (encG_eq g) ?_
  (refine b_ fun bx=>?_;refine y_ ?_)
  refine i_ rfl (show (encRl g.body)[(0:Int).toNat]? =some (encR y) from encRl_at (by rw [hy];rfl)) (encR_eq y) ?_
  refine A.valE 90 rfl (x':=AI (deep+1)) (ai_eq hw2) ?_
  refine A.e rfl ihy .refl (List.Perm.swap _ _ _) fun lf2 hlf2=>?_
  by_cases hfx:fitsR l ch.length high y lg (33-(deep+1))
  ·refine e_ 92 rfl (x':=AB true) (ab_eq (decide_eq_true hfx)) ?_
   refine l_ (Λ':=[.box b (ckA l ch x lf2), .box _ (cellsR p)]) ?_
   refine A.valE 80 rfl (x':=AI ((j+1:Nat):Int)) (inc_eq j (by have:=hwa.gl;omega)) ?_
   refine u_ (jh (j+1,lf2) ⟨by show j+1≤_;omega,hsn.2 hfx,?_⟩ (by show _-(j+1)<_-j;omega))
   show lf2=left-1-(szL p.l:Nat)-(szGs (p.gs.take (j+1)):Nat)
   have e2:szGs [g]=szR y:=by rw [szGs,szGs,szG_eq,hy,szL,szL];omega
   rw [hlf2 hfx,htk,szGs_append,hj3,e2];omega
  ·have hnf: ¬fitsR l ch.length high p left (33-deep):=fun hf=>hfx (hsn.1 (fitsGs_take (hfl.1 hf).2 (j+1)))
   refine e_ 92 rfl (x':=AB false) (ab_eq (decide_eq_false hfx)) ?_
   (refine A.ret1 (Λ':=[.box b _]) rfl rfl rfl sl_ ⟨_,Sb.eq (ab_eq ?_),rfl,?_⟩;exact (decide_eq_false hnf).symm;exact fun h=>absurd h hnf)
 simp at hc
 have hjl:j=p.gs.length:=by omega
 rw [hjl,List.take_length] at hj2 hj3
 refine y_ ?_
 refine A.ret1 (Λ':=[.box b _]) rfl rfl rfl sl_ ⟨_,Sb.eq (ab_eq ?_),rfl,?_⟩
 ·exact (decide_eq_true (hfl.2 ⟨hi2,hj2⟩)).symm
 ·intro _;show lg=left-szR p;omega
theorem process_p(l:List KV)(ch:List Int)(hl:l.length≤281474976710656)(hv:VarsOk l)(x:Nat→AV)(b:Nat): ∀(N:Nat) (p:PR) (deep:Int) (high:Bool) (left:Int),szR p≤N→wfR p→0≤left→left≤2048→1≤deep→deep≤33→procE l ch x b p deep high left
 |0,p,_,_,_,hn,_,_,_,_,_=>by have:=szR_pos p;omega
 |N+1,p,deep,high,left,hn,hw,r0,r1,d0,d1=>by
  by_cases hk:1≤p.kind∧p.kind≤15
  ·have hck:=check_some b p.kind hk
   by_cases hz:left=0∨deep=33
   ·exact proc_a l ch x b p deep high left hz r0 r1 _ hck
   have hle:=kind_lent l ch hl hv p (wfR_all hw) hk
   cases hkb:kindB l ch.length p with
   |false=>exact proc_c l ch x b p deep high left (by omega) r1 d0 (by omega) _ hck hle hkb
   |true=>
    cases hh:(high&&p.kind==11) with
    |true=>
     simp only [Bool.and_eq_true,beq_iff_eq] at hh
     rw [hh.1]
     exact proc_d l ch x b p deep left (by omega) r1 d0 (by omega) _ hck hle hkb hh.2
    |false=>exact proc_e l ch x b p hw deep high left (by omega) r1 d0 (by omega) _ hck hle hkb hh fun y hi lf hwy hsz l0 l1=>process_p l ch hl hv x b N y (deep+1) hi lf (by omega) hwy l0 l1 (by omega) (by omega)
  ·have hck:=check_none b p.kind hk
   have hno:kindB l ch.length p=false:=by
    cases h:kindB l ch.length p with
    |false=>rfl
    |true=>have:=kind_bodies h;exact (hk ⟨this.1,this.2.1⟩).elim
   by_cases hz:left=0∨deep=33
   ·exact proc_a l ch x b p deep high left hz r0 r1 _ hck
   ·exact proc_b l ch x b p deep high left (by omega) r1 d0 (by omega) hck hno
abbrev intsA(l:List Int):AV:= .sl 1 (l.map AI) none
def idxI(v:Int)(l:List Int)(i:Nat):Int:=idxF (fun x=>v==x) l i
theorem index_p(l:List Int)(v:Int)(hb:l.length≤281474976710656):Pure Tryz.prog gs0 84 [intsA l,AI v] (AI (idxI v l 0)):=by
 refine p_ tt_ok Tryz.func84 19 fun w0 h0 F hgs=>?_
 refine y_ ?_
 refine A.valE 7 rfl (x':=AI (l.length:Nat)) (ai_eq (by rw [List.length_map])) ?_
 refine A.keep [0,1,7,8] rfl ?_
 refine A.loopP (ι:=Nat) (fun i=>(⟨[(0,intsA l),(1,AI v),(7,AI (l.length:Nat)),(8,AI (i:Int))],[]⟩,[])) (fun i=>i≤l.length∧idxI v l 0=idxI v (l.drop i) i) (fun i=>l.length-i) 0 ⟨by omega,rfl⟩ rfl fun i hi ih=>?_
 refine y_ ?_
 refine k_ (fun hc=>?_) fun hc=>?_
 ·simp at hc
  refine Exists.elim (at_exN (l:=l) (i:=i) hc) fun x hx=>?_
  have h1:idxI v l 0=if (v==x)=true then (i:Int) else idxI v (l.drop (i+1)) (i+1):=by rw [hi.2,drop_at hx];rfl
  refine y_ ?_
  refine i_ rfl (map_at hx) rfl ?_
  refine k_ (fun hc=>?_) fun hc=>?_
  ·rw [hc,if_pos rfl] at h1
   refine y_ ?_;refine R_ ?_;rw [h1];exact .refl
  ·rw [hc,if_neg (by simp)] at h1
   refine y_ ?_
   refine A.valE 8 rfl (x':=AI ((i+1:Nat):Int)) (inc_eq i (by omega)) ?_
   refine u_ (ih (i+1) ⟨by omega,h1⟩ (by omega))
 ·simp at hc
  have:i=l.length:=by omega
  subst this
  refine y_ ?_;refine R_ ?_;rw [hi.2,List.drop_length];exact .refl
theorem contains_p(l:List Int)(v:Int)(hb:l.length≤281474976710656):Pure Tryz.prog gs0 57 [intsA l,AI v] (AB (l.contains v)):=by
 refine p_ tt_ok Tryz.func57 9 fun w0 h0 F hgs=>?_
 refine y_ ?_
 refine c_ (index_p l v hb) ?_;refine R_ ?_;refine Sb.eq (ab_eq ?_)
 rw [idxI,idxF_any,List.contains_eq_any_beq]
structure KN where
 vars:List KV
 chans:List Int
 root:PR
 procs:List Int
abbrev encN(k:KN):AV:= .ag [varsA k.vars,chsA k.chans,AU8 k.root.kind,AI k.root.c,AI k.root.v,AU8 k.root.item,plsA k.root.to,kesA k.root.e,gsA k.root.gs,rsA k.root.l,intsA k.procs]
structure WfN(k:KN):Prop where
 vars:k.vars.length≤281474976710656
 chans:k.chans.length≤281474976710656
 procs:k.procs.length≤281474976710656
 root:wfR k.root
def okPr:List Int→List Int→Bool
 |_,[]=>true
 |seen,n::r=>decide (0≤n)&&decide (n<8)&& !seen.contains n&&okPr (seen++[n]) r
def varOk(v:KV):Bool:=primB v.kind&&decide (0≤v.dim)&&decide (v.dim≤64)
def wantH(i:Nat):Int:=if i=0 then 1 else if i=1 then 2 else 0
def okCh:Nat→List Int→Bool
 |_,[]=>true
 |i,h::r=>h==wantH i&&okCh (i+1) r
def lensK(k:KN):Bool:=decide (k.vars.length≤256)&&decide (2≤k.chans.length)&&decide (k.chans.length≤64)
def rootK(k:KN):Bool:=k.procs.length==0||(k.root.kind==10&&k.root.l.length==k.procs.length)
def mayK(k:KN):Bool:=lensK k&&rootK k&&okPr [] k.procs&&k.vars.all varOk&&okCh 0 k.chans&&decide (fitsR k.vars k.chans.length false k.root 2048 32)
theorem varsOk_of{l:List KV}(h:l.all varOk=true):VarsOk l:=fun y hy=>by
 have:=List.all_eq_true.1 h y hy
 simp only [varOk,primB,Bool.and_eq_true,decide_eq_true_eq] at this
 omega
def xN(k:KN):Nat→AV:=fun i=>([AU8 k.root.kind,AI k.root.c,AI k.root.v,AU8 k.root.item,plsA k.root.to,kesA k.root.e,gsA k.root.gs,rsA k.root.l,intsA k.procs]:List AV).getD i (AI 0)
theorem kmay_a(k:KN)(h:(lensK k&&rootK k)=false):Pure Tryz.prog gs0 35 [encN k] (AB false):=by
 have n1:((k.vars.map encV).length:Int)=k.vars.length:=by rw [List.length_map]
 have n2:((k.chans.map AU8).length:Int)=k.chans.length:=by rw [List.length_map]
 have n3:((k.procs.map AI).length:Int)=k.procs.length:=by rw [List.length_map]
 have n4:((encRl k.root.l).length:Int)=k.root.l.length:=by rw [encRl_len]
 refine p_ tt_ok Tryz.func35 116 fun w0 h0 F hgs=>?_
 (refine gb_ fun bx=>?_;refine g_ ?_)
 refine A.valE 26 rfl (x':=AB (!lensK k)) (ab_eq ?_) ?_
 ·rw [n1,n2,lensK,Bool.eq_iff_iff];simp;omega
 cases hlk:lensK k with
 |false=>exact yr_
 |true=>
  rw [hlk,Bool.true_and] at h
  refine g_ ?_
  refine A.valE 46 rfl (x':=AB true) (ab_eq ?_) ?_
  ·rw [n3,n4]
   have h': ¬k.procs.length=0∧ ¬(k.root.kind=10∧k.root.l.length=k.procs.length):=by simpa [rootK] using h
   by_cases hk:k.root.kind=10
   ·rw [Bool.eq_iff_iff];simp [hk];omega
   ·rw [Bool.eq_iff_iff];simp [hk];omega
  exact yr_
theorem kmay_b(k:KN)(hw:WfN k)(h:(lensK k&&rootK k)=true)(R:Bool)(hR:(okPr [] k.procs&&k.vars.all varOk&&okCh 0 k.chans&&decide (fitsR k.vars k.chans.length false k.root 2048 32))=R):Pure Tryz.prog gs0 35 [encN k] (AB R):=by
 have n1:((k.vars.map encV).length:Int)=k.vars.length:=by rw [List.length_map]
 have n2:((k.chans.map AU8).length:Int)=k.chans.length:=by rw [List.length_map]
 have n3:((k.procs.map AI).length:Int)=k.procs.length:=by rw [List.length_map]
 have n4:((encRl k.root.l).length:Int)=k.root.l.length:=by rw [encRl_len]
 rw [Bool.and_eq_true] at h
 have hlk:k.vars.length≤256∧2≤k.chans.length∧k.chans.length≤64:=by have:=h.1;simp only [lensK,Bool.and_eq_true,decide_eq_true_eq] at this;omega
 have hrk:k.procs.length=0∨(k.root.kind=10∧k.root.l.length=k.procs.length):=by simpa [rootK] using h.2
 have hpl:=hw.procs
 generalize hR1:(k.vars.all varOk&&okCh 0 k.chans&&decide (fitsR k.vars k.chans.length false k.root 2048 32))=R1
 rw [Bool.and_assoc,Bool.and_assoc,←Bool.and_assoc (k.vars.all varOk),hR1] at hR
 refine p_ tt_ok Tryz.func35 116 fun w0 h0 F hgs=>?_
 (refine gb_ fun bx=>?_;refine g_ ?_)
 refine A.valE 26 rfl (x':=AB false) (ab_eq ?_) ?_
 ·rw [n1,n2,Bool.eq_iff_iff];simp;omega
 refine g_ ?_
 refine A.valE 46 rfl (x':=AB false) (ab_eq ?_) ?_
 ·rw [n3,n4]
  rcases hrk with hp0|⟨hk,hl2⟩
  ·simp [hp0]
  ·simp [hk,hl2]
 refine y_ ?_
 refine A.valE 49 rfl (x':=AI (k.procs.length:Nat)) (ai_eq n3) ?_
 refine A.keep [1,48,49,50] rfl ?_
 refine A.loopP (ι:=Nat) (fun i=>(⟨[(1,ptrA _),(48,intsA k.procs),(49,AI (k.procs.length:Nat)),(50,AI (i:Nat))],[]⟩,[.box _ (encN k)])) (fun i=>i≤k.procs.length∧(okPr (k.procs.take i) (k.procs.drop i)&&R1)=R) (fun i=>k.procs.length-i) 0 ⟨by omega,hR⟩ rfl fun i hi ih=>?_
 refine y_ ?_
 refine k_ (fun hc=>?_) fun hc=>?_
 ·simp at hc
  refine Exists.elim (at_exN (l:=k.procs) (i:=i) (by omega)) fun v hv=>?_
  have h1:=hi.2
  rw [drop_at hv,okPr] at h1
  have htk:k.procs.take (i+1)=k.procs.take i++[v]:=by rw [List.take_add_one,hv];rfl
  have hcn:=contains_p (k.procs.take i) v (by rw [List.length_take];omega)
  refine y_ ?_
  refine i_ rfl (map_at hv) rfl ?_
  ((fail_if_success (refine A.lit? rfl ?_));refine A.gS rfl (fun hc=>?_) (fun hc=>?_))
  ·have hc0:v<0:=by simpa using hc
   rw [decide_eq_false (by omega)] at h1
   refine y_ ?_;refine R_ ?_;rw [←h1];exact .refl
  have hc0:0≤v:=by simpa using hc
  refine y_ ?_
  ((fail_if_success (refine A.lit? rfl ?_));refine A.gS rfl (fun hc=>?_) (fun hc=>?_))
  ·have hc1:8≤v:=by simpa using hc
   rw [decide_eq_false (p:=v<8) (by omega),Bool.and_false] at h1
   refine y_ ?_;refine R_ ?_;rw [←h1];exact .refl
  have hc1:v<8:=by simpa using hc
  rw [decide_eq_true hc0,decide_eq_true hc1,Bool.true_and,Bool.true_and] at h1
  refine y_ ?_
  refine A.slice (ys:=(k.procs.take i).map AI) rfl rfl rfl rfl rfl rfl rfl rfl rfl (by decide) (by omega) (by rw [List.length_map];omega) (by simp [List.map_take]) rfl ?_
  refine y_ ?_
  refine c_ hcn ?_
  refine k_ (fun hc=>?_) fun hc=>?_
  ·have hc:(k.procs.take i).contains v=true:=hc
   rw [hc,Bool.not_true,Bool.false_and,Bool.false_and] at h1
   refine y_ ?_;refine R_ ?_;rw [←h1];exact .refl
  ·have hc:(k.procs.take i).contains v=false:=hc
   rw [hc,Bool.not_false,Bool.true_and,←htk] at h1
   refine y_ ?_
   refine A.valE 50 rfl (x':=AI ((i+1:Nat):Int)) (inc_eq i (by omega)) ?_
   refine u_ (ih (i+1) ⟨by omega,h1⟩ (by omega))
 simp at hc
 have hil:i=k.procs.length:=by omega
 have h1:=hi.2
 rw [hil,List.drop_length,okPr,Bool.true_and] at h1
 rw [←hR1,Bool.and_assoc] at h1
 generalize hR2:(okCh 0 k.chans&&decide (fitsR k.vars k.chans.length false k.root 2048 32))=R2 at h1
 clear ih hi hR hR1
 refine y_ ?_
 refine A.valE 72 rfl (x':=AI (k.vars.length:Nat)) (ai_eq n1) ?_
 refine A.keep [1,71,72,73] rfl ?_
 refine A.loopP (ι:=Nat) (fun i=>(⟨[(1,ptrA _),(71,varsA k.vars),(72,AI (k.vars.length:Nat)),(73,AI (i:Nat))],[]⟩,[.box _ (encN k)])) (fun i=>i≤k.vars.length∧((k.vars.drop i).all varOk&&R2)=R∧(k.vars.take i).all varOk=true) (fun i=>k.vars.length-i) 0 ⟨by omega,h1,rfl⟩ rfl fun j hi ih=>?_
 refine y_ ?_
 refine k_ (fun hc=>?_) fun hc=>?_
 ·simp at hc
  refine Exists.elim (at_exN (l:=k.vars) (i:=j) (by omega)) fun v hv=>?_
  have h2:=hi.2.1
  have htv:k.vars.take (j+1)=k.vars.take j++[v]:=by rw [List.take_add_one,hv];rfl
  rw [drop_at hv,List.all_cons,varOk] at h2
  refine y_ ?_
  refine j_ rfl (map_at hv) rfl ?_
  (refine b_ fun bx=>?_;refine y_ ?_)
  refine c_ (kprim_p v.kind) ?_
  ((fail_if_success (refine A.lit? rfl ?_));refine A.gS rfl (fun hc=>?_) (fun hc=>?_))
  ·have hc0:primB v.kind=false:=by simpa using hc
   rw [hc0] at h2
   refine y_ ?_;refine R_ ?_;rw [←h2];exact .refl
  have hc0:primB v.kind=true:=by simpa using hc
  refine y_ ?_
  ((fail_if_success (refine A.lit? rfl ?_));refine A.gS rfl (fun hc=>?_) (fun hc=>?_))
  ·have hc1:v.dim<0:=by simpa using hc
   rw [decide_eq_false (p:=0≤v.dim) (by omega),Bool.and_false] at h2
   refine y_ ?_;refine R_ ?_;rw [←h2];exact .refl
  have hc1:0≤v.dim:=by simpa using hc
  refine y_ ?_
  refine k_ (fun hc=>?_) fun hc=>?_
  ·have hc2:64<v.dim:=by simpa using hc
   rw [decide_eq_false (p:=v.dim≤64) (by omega),Bool.and_false] at h2
   refine y_ ?_;refine R_ ?_;rw [←h2];exact .refl
  ·have hc2:v.dim≤64:=by simpa using hc
   rw [hc0,decide_eq_true hc1,decide_eq_true hc2] at h2
   simp only [Bool.true_and] at h2
   refine y_ ?_
   refine l_ (Λ':=[.box _ (encN k)]) ?_
   refine A.valE 73 rfl (x':=AI ((j+1:Nat):Int)) (inc_eq j (by omega)) ?_
   refine u_ (ih (j+1) ⟨by omega,h2,by rw [htv,List.all_append,hi.2.2];simp [varOk,hc0,hc1,hc2]⟩ (by omega))
 simp at hc
 have hjl:j=k.vars.length:=by omega
 have h2:=hi.2.1
 have hvo:=hi.2.2
 rw [hjl,List.take_length] at hvo
 rw [hjl,List.drop_length,List.all_nil,Bool.true_and] at h2
 clear ih hi
 rw [←hR2] at h2
 generalize hR3:decide (fitsR k.vars k.chans.length false k.root 2048 32)=R3 at h2
 have hpr:=fun b=>process_p k.vars k.chans hw.vars (varsOk_of hvo) (xN k) b (szR k.root) k.root 1 false 2048 (Nat.le_refl _) hw.root (by decide) (by decide) (by decide) (by decide)
 simp only [procE,show (33:Int)-1=32 from rfl] at hpr
 refine y_ ?_
 refine A.valE 94 rfl (x':=AI (k.chans.length:Nat)) (ai_eq n2) ?_
 refine A.keep [1,93,94,95] rfl ?_
 refine A.loopP (ι:=Nat) (fun i=>(⟨[(1,ptrA _),(93,chsA k.chans),(94,AI (k.chans.length:Nat)),(95,AI (i:Nat))],[]⟩,[.box _ (encN k)])) (fun i=>i≤k.chans.length∧(okCh i (k.chans.drop i)&&R3)=R) (fun i=>k.chans.length-i) 0 ⟨by omega,h2⟩ rfl fun m hi ih=>?_
 refine y_ ?_
 refine k_ (fun hc=>?_) fun hc=>?_
 ·simp at hc
  refine Exists.elim (at_exN (l:=k.chans) (i:=m) (by omega)) fun v hv=>?_
  have h3:=hi.2
  rw [drop_at hv,okCh] at h3
  refine y_ ?_
  refine j_ rfl (map_at hv) rfl ?_
  by_cases m0:m=0
  ·subst m0
   rw [show wantH 0=1 from rfl] at h3
   refine y_ ?_
   refine k_ (fun hc=>?_) fun hc=>?_
   ·have hc:(v !=1)=true:=hc
    have hv1:(v==1)=false:=by simpa using hc
    rw [hv1] at h3
    refine y_ ?_;refine R_ ?_;rw [←h3];exact .refl
   ·have hc:(v !=1)=false:=hc
    have hv1:(v==1)=true:=by simpa using hc
    rw [hv1,Bool.true_and] at h3
    refine y_ ?_
    refine u_ (ih 1 ⟨by omega,h3⟩ (by omega))
  by_cases m1:m=1
  ·subst m1
   rw [show wantH 1=2 from rfl] at h3
   refine y_ ?_
   refine k_ (fun hc=>?_) fun hc=>?_
   ·have hc:(v !=2)=true:=hc
    have hv1:(v==2)=false:=by simpa using hc
    rw [hv1] at h3
    refine y_ ?_;refine R_ ?_;rw [←h3];exact .refl
   ·have hc:(v !=2)=false:=hc
    have hv1:(v==2)=true:=by simpa using hc
    rw [hv1,Bool.true_and] at h3
    refine y_ ?_
    refine u_ (ih 2 ⟨by omega,h3⟩ (by omega))
  ·rw [show wantH m=0 by simp [wantH,m0,m1]] at h3
   refine y_ ?_
   refine e_ 101 rfl (x':=AB false) (ab_eq (by simp;omega)) ?_
   refine e_ 103 rfl (x':=AB false) (ab_eq (by simp;omega)) ?_
   refine k_ (fun hc=>?_) fun hc=>?_
   ·have hc:(v !=0)=true:=hc
    have hv1:(v==0)=false:=by simpa using hc
    rw [hv1] at h3
    refine y_ ?_;refine R_ ?_;rw [←h3];exact .refl
   ·have hc:(v !=0)=false:=hc
    have hv1:(v==0)=true:=by simpa using hc
    rw [hv1,Bool.true_and] at h3
    refine y_ ?_
    refine A.valE 95 rfl (x':=AI ((m+1:Nat):Int)) (inc_eq m (by omega)) ?_
    refine u_ (ih (m+1) ⟨by omega,h3⟩ (by omega))
 simp at hc
 have hml:m=k.chans.length:=by omega
 have h3:=hi.2
 rw [hml,List.drop_length,okCh,Bool.true_and] at h3
 clear ih hi
 (refine b_ fun bx=>?_;refine y_ ?_)
 refine A.entsEq (Λ':=[.box _ (ckA k.vars k.chans (xN k) 2048), .box _ (encN k)]) rfl ?_
 refine A.e rfl (hpr _) .refl (List.Perm.refl _) fun lf _=>?_
 refine y_ ?_;refine R_ ?_;refine Sb.eq (ab_eq ?_);rw [←h3,←hR3]
theorem kmay_p(k:KN)(hw:WfN k):Pure Tryz.prog gs0 35 [encN k] (AB (mayK k)):=by
 by_cases h:(lensK k&&rootK k)=true
 ·have:=kmay_b k hw h _ rfl
  unfold mayK
  rw [h,Bool.true_and]
  exact this
 ·have h:(lensK k&&rootK k)=false:=by simpa using h
  have:=kmay_a k h
  unfold mayK
  rw [h,Bool.false_and,Bool.false_and,Bool.false_and,Bool.false_and]
  exact this
theorem within16_p(n:Nat)(a b:Int):Pure Tryz.prog gs0 125 [AI (n:Int),twoA a b] (AB (inB n a b)):=by
 refine p_ tt_ok Tryz.func125 15 fun w0 h0 F hgs=>?_
 (refine b_ fun bx=>?_;refine y_ ?_)
 refine A.indexArr rfl rfl rfl rfl rfl rfl rfl rfl (by decide) (by decide) ?_
 refine y_ ?_
 ((fail_if_success (refine A.lit? rfl ?_));refine A.gS rfl (fun hc=>?_) (fun hc=>?_))
 ·refine y_ ?_
  refine A.indexArr rfl rfl rfl rfl rfl rfl rfl rfl (by decide) (by decide) ?_
  refine y_ ?_;refine R_ ?_;refine Sb.eq (ab_eq ?_);rw [inB,hc];rfl
 ·refine y_ ?_;refine R_ ?_;refine Sb.eq (ab_eq ?_);rw [inB,hc];rfl
structure FM where
 c:Bool
 v:Bool
 t1:Int
 t2:Int
 e1:Int
 e2:Int
 g1:Int
 g2:Int
 l1:Int
 l2:Int
abbrev fmA(f:FM):AV:= .ag [AB f.c,AB f.v,AB f.c,AI f.t1,AI f.t2,AI f.e1,AI f.e2,AI f.g1,AI f.g2,AI f.l1,AI f.l2]
def fm0:FM:=⟨false,false,0,0,0,0,0,0,0,0⟩
def formK(k:Int):Option FM:=
 if k=1∨k=2 then some fm0 else if k=3 then some ⟨false,true,0,0,0,0,0,0,0,0⟩ else if k=4 then some ⟨false,false,1,8,1,8,0,0,0,0⟩
 else if k=5 then some ⟨true,false,1,1,0,0,0,0,0,0⟩ else if k=6 then some ⟨true,false,0,0,1,1,0,0,0,0⟩ else if k=7 then some ⟨false,false,1,1,0,0,0,0,0,0⟩
 else if k=8 then some ⟨false,false,0,0,1,1,0,0,0,0⟩ else if k=9 then some ⟨false,false,0,0,0,0,0,0,0,2048⟩ else if k=10 then some ⟨false,false,0,0,0,0,0,0,0,16⟩
 else if k=11 then some ⟨false,false,0,0,0,0,0,0,2,2⟩ else if k=12∨k=14∨k=15 then some ⟨false,false,0,0,0,0,0,16,0,0⟩ else if k=13 then some ⟨false,false,0,0,1,1,0,0,1,1⟩ else none
theorem kinds_15{k:Int}(h:1≤k∧k≤15):k=1∨k=2∨k=3∨k=4∨k=5∨k=6∨k=7∨k=8∨k=9∨k=10∨k=11∨k=12∨k=13∨k=14∨k=15:=by omega
theorem forms_p(k:Int):Pure Tryz.prog gs0 124 [AU8 k] (.tp [fmA ((formK k).getD fm0),AB (formK k).isSome]):=by
 by_cases h:1≤k∧k≤15
 ·rcases kinds_15 h with rfl|rfl|rfl|rfl|rfl|rfl|rfl|rfl|rfl|rfl|rfl|rfl|rfl|rfl|rfl
  all_goals refine p_ tt_ok Tryz.func124 61 fun w0 h0 F hgs=>?_
  all_goals ((refine b_ fun bx=>?_;refine b_ fun bx=>?_;refine b_ fun bx=>?_;refine y_ ?_);refine m_ (ResA.cell rfl rfl rfl (ResA.tmp rfl ResA.nil)) ?_;exact .refl)
 ·have hn:formK k=none:=by
   unfold formK
   rw [if_neg (by omega),if_neg (by omega),if_neg (by omega),if_neg (by omega),if_neg (by omega),if_neg (by omega),if_neg (by omega),if_neg (by omega),if_neg (by omega),if_neg (by omega),if_neg (by omega),if_neg (by omega)]
  rw [hn]
  refine p_ tt_ok Tryz.func124 61 fun w0 h0 F hgs=>?_
  (repeat (first|first|refine A.s rfl ?_|refine A.r rfl rfl ?_|refine A.w rfl rfl ?_|refine A.p rfl ?_|refine A.b rfl fun bx=>?_|refine A.t rfl fun bl=>?_|refine A.cond rfl (fun h=>(by simp at h;omega)) (fun _=>?_)|first|refine A.step rfl ?_|refine A.v rfl rfl ?_))
  refine m_ (ResA.cell rfl rfl rfl (ResA.tmp rfl ResA.nil)) ?_;exact .refl
def looksB(p:PR):Bool:=match formK p.kind with
 |some f=>shapeR p f.c f.v f.t1 f.t2 f.e1 f.e2 f.g1 f.g2 f.l1 f.l2
 |none=>false
theorem looks_p(p:PR):Pure Tryz.prog gs0 94 [cellsR p] (AB (looksB p)):=by
 have hf:=forms_p p.kind
 unfold looksB
 generalize formK p.kind=fk at hf⊢
 cases fk with
 |none=>
  refine p_ tt_ok Tryz.func94 73 fun w0 h0 F hgs=>?_
  (refine b_ fun bx=>?_;refine y_ ?_);refine n_ hf ?_
  (refine b_ fun bx=>?_;refine y_ ?_);exact r_
 |some f=>
  simp only [Option.getD_some,Option.isSome_some] at hf⊢
  have s1:=within16_p p.to.length f.t1 f.t2
  have s2:=within16_p p.e.length f.e1 f.e2
  have s3:=within16_p p.gs.length f.g1 f.g2
  have s4:=within16_p p.l.length f.l1 f.l2
  have n1:((p.to.map encPl).length:Int)=p.to.length:=by rw [List.length_map]
  have n2:((encKl p.e).length:Int)=p.e.length:=by rw [encKl_len]
  have n3:((encGl p.gs).length:Int)=p.gs.length:=by rw [encGl_len]
  have n4:((encRl p.l).length:Int)=p.l.length:=by rw [encRl_len]
  rw [←n1] at s1
  rw [←n2] at s2
  rw [←n3] at s3
  rw [←n4] at s4
  unfold shapeR
  generalize inB p.to.length f.t1 f.t2=b1 at s1⊢
  generalize inB p.e.length f.e1 f.e2=b2 at s2⊢
  generalize inB p.gs.length f.g1 f.g2=b3 at s3⊢
  generalize inB p.l.length f.l1 f.l2=b4 at s4⊢
  clear n1 n2 n3 n4
  obtain ⟨c,v,t1,t2,e1,e2,g1,g2,l1,l2⟩:=f
  cases c<;>cases v
  all_goals refine p_ tt_ok Tryz.func94 73 fun w0 h0 F hgs=>?_
  all_goals (repeat' first|first|refine A.s rfl ?_|refine A.r rfl rfl ?_|refine A.w rfl rfl ?_|refine A.p rfl ?_|refine A.b rfl fun bx=>?_|refine A.t rfl fun bl=>?_|refine A.c rfl hf .refl ?_|refine A.c rfl s1 .refl ?_|refine A.c rfl s2 .refl ?_|refine A.c rfl s3 .refl ?_|refine A.c rfl s4 .refl ?_|((fail_if_success (refine A.lit? rfl ?_));refine A.gS rfl (fun hc=>?_) (fun hc=>?_))|((fail_if_success (refine A.litP? rfl ?_));refine A.gSP rfl (fun hc=>?_) (fun hc=>?_)))
  (all_goals (refine R_ ?_;refine Sb.eq (ab_eq ?_)))
  all_goals simp_all
theorem rFits_p(l:List KV)(e:KE)(hw:wfK e)(kind:Int):Pure Tryz.prog gs0 127 [varsA l,cellsK e,AU8 kind] (AB (fitV l e kind)):=by
 have hva:=rvalid_p e hw
 rw [encK_eq] at hva
 unfold fitV
 by_cases hve:valid e
 ·have hf:=fits16_p l (ht e) e kind (Nat.le_refl _) hve.1
  rw [encK_eq] at hf
  rw [decide_eq_true hve] at hva⊢
  rw [Bool.true_and]
  generalize fitsM l e kind=bf at hf⊢
  refine p_ tt_ok Tryz.func127 15 fun w0 h0 F hgs=>?_
  (refine b_ fun bx=>?_;refine y_ ?_);refine c_ hva ?_;exact cr_ hf
 ·rw [decide_eq_false hve] at hva⊢
  rw [Bool.false_and]
  refine p_ tt_ok Tryz.func127 15 fun w0 h0 F hgs=>?_
  (refine b_ fun bx=>?_;refine y_ ?_);exact cr_ hva
theorem rplace_p(l:List KV)(p:PL)(hw:wfPl p)(k:Int):Pure Tryz.prog gs0 126 [varsA l,encPl p,AU8 k] (AB (placeB l p k)):=by
 have hlen:((l.map encV).length:Int)=l.length:=by rw [List.length_map]
 have hxl:((encKl p.ix).length:Int)=p.ix.length:=by rw [encKl_len]
 by_cases hneg:p.v<0
 ·refine p_ tt_ok Tryz.func126 50 fun w0 h0 F hgs=>?_
  (refine b_ fun bx=>?_;refine y_ ?_)
  refine e_ 10 rfl (x':=AB true) (ab_eq (by simpa using hneg)) ?_;refine R_ ?_;refine Sb.eq (ab_eq ?_);rw [placeB,if_pos (.inl hneg)]
 by_cases h1:(l.length:Int)≤p.v
 ·refine p_ tt_ok Tryz.func126 50 fun w0 h0 F hgs=>?_
  (refine b_ fun bx=>?_;refine y_ ?_)
  refine e_ 10 rfl (x':=AB false) (ab_eq (by simp;omega)) ?_
  refine e_ 17 rfl (x':=AB true) (ab_eq (by rw [hlen];simpa using h1)) ?_;refine R_ ?_;refine Sb.eq (ab_eq ?_);rw [placeB,if_pos (.inr h1)]
 refine Exists.elim (at_ex (l:=l) (i:=p.v) (by omega) (by omega)) fun y hy=>?_
 have hpb:placeB l p k=(y.kind==k&&(if y.dim=0 then p.ix.length==0 else p.ix.length==1&&fit1 l p.ix 1)):=by rw [placeB,if_neg (by omega),hy]
 rw [hpb]
 clear hpb
 have hv0:(0:Int)≤p.v:=by omega
 by_cases hk:y.kind=k
 case neg=>
  refine p_ tt_ok Tryz.func126 50 fun w0 h0 F hgs=>?_
  (refine b_ fun bx=>?_;refine y_ ?_)
  refine e_ 10 rfl (x':=AB false) (ab_eq (by simp;omega)) ?_
  refine e_ 17 rfl (x':=AB false) (ab_eq (by rw [hlen];simp;omega)) ?_
  refine A.x rfl hv0 (map_at hy) rfl rfl ?_
  refine y_ ?_
  refine e_ 26 rfl (x':=AB true) (ab_eq (by simpa using hk)) ?_;refine R_ ?_;refine Sb.eq (ab_eq ?_);simp [hk]
 subst hk
 by_cases hd:y.dim=0
 ·refine p_ tt_ok Tryz.func126 50 fun w0 h0 F hgs=>?_
  (refine b_ fun bx=>?_;refine y_ ?_)
  refine e_ 10 rfl (x':=AB false) (ab_eq (by simp;omega)) ?_
  refine e_ 17 rfl (x':=AB false) (ab_eq (by rw [hlen];simp;omega)) ?_
  refine A.x rfl hv0 (map_at hy) rfl rfl ?_
  refine y_ ?_
  refine e_ 26 rfl (x':=AB false) (ab_eq (by simp)) ?_
  refine A.x rfl hv0 (map_at hy) rfl rfl ?_
  refine y_ ?_
  refine e_ 33 rfl (x':=AB true) (ab_eq (by simpa using hd)) ?_;refine R_ ?_;refine Sb.eq (ab_eq ?_);rw [hxl,if_pos hd,Bool.eq_iff_iff];simp
 ·by_cases hx1:p.ix.length=1
  ·obtain ⟨e,he⟩: ∃e,p.ix=[e]:=by
    match h:p.ix,hx1 with
    | [e],_=>exact ⟨e,rfl⟩
   have hf:=rFits_p l e (wfKl_mem hw e (by rw [he];exact List.mem_cons_self ..)) 1
   have hfb:fit1 l p.ix 1=fitV l e 1:=by rw [he];rfl
   rw [hfb]
   generalize fitV l e 1=fb at hf⊢
   refine p_ tt_ok Tryz.func126 50 fun w0 h0 F hgs=>?_
   (refine b_ fun bx=>?_;refine y_ ?_)
   refine e_ 10 rfl (x':=AB false) (ab_eq (by simp;omega)) ?_
   refine e_ 17 rfl (x':=AB false) (ab_eq (by rw [hlen];simp;omega)) ?_
   refine A.x rfl hv0 (map_at hy) rfl rfl ?_
   refine y_ ?_
   refine e_ 26 rfl (x':=AB false) (ab_eq (by simp)) ?_
   refine A.x rfl hv0 (map_at hy) rfl rfl ?_
   refine y_ ?_
   refine e_ 33 rfl (x':=AB false) (ab_eq (by simpa using hd)) ?_
   refine e_ 42 rfl (x':=AB true) (ab_eq (by rw [hxl];simp [hx1])) ?_
   refine i_ rfl (show (encKl p.ix)[(0:Int).toNat]? =some (encK e) from encKl_at (by rw [he];rfl)) (encK_eq e) ?_
   refine c_ hf ?_;refine R_ ?_;refine Sb.eq (ab_eq ?_);rw [if_neg hd,hx1];simp
  ·refine p_ tt_ok Tryz.func126 50 fun w0 h0 F hgs=>?_
   (refine b_ fun bx=>?_;refine y_ ?_)
   refine e_ 10 rfl (x':=AB false) (ab_eq (by simp;omega)) ?_
   refine e_ 17 rfl (x':=AB false) (ab_eq (by rw [hlen];simp;omega)) ?_
   refine A.x rfl hv0 (map_at hy) rfl rfl ?_
   refine y_ ?_
   refine e_ 26 rfl (x':=AB false) (ab_eq (by simp)) ?_
   refine A.x rfl hv0 (map_at hy) rfl rfl ?_
   refine y_ ?_
   refine e_ 33 rfl (x':=AB false) (ab_eq (by simpa using hd)) ?_
   refine e_ 42 rfl (x':=AB false) (ab_eq (by rw [hxl];simp;omega)) ?_;refine R_ ?_;refine Sb.eq (ab_eq ?_);rw [if_neg hd];simp [hx1]
theorem rprim_p(t:Int):Pure Tryz.prog gs0 66 [AU8 t] (AB (primB t)):=by
 have:=prim_p t
 have he:(t==1||t==2||t==3)=primB t:=by rw [Bool.eq_iff_iff];simp [primB];omega
 rw [he] at this
 exact this
theorem rinput_p(k:KN)(c item:Int)(to:PL)(hw:wfPl to):Pure Tryz.prog gs0 128 [encN k,AI c,AU8 item,encPl to] (AB (inputB k.vars k.chans.length c item to)):=by
 have hn:((k.chans.map AU8).length:Int)=k.chans.length:=by rw [List.length_map]
 have hp:=rprim_p item
 have hpl:=rplace_p k.vars to hw item
 unfold inputB chanB
 generalize primB item=b1 at hp⊢
 generalize placeB k.vars to item=b2 at hpl⊢
 refine p_ tt_ok Tryz.func128 41 fun w0 h0 F hgs=>?_
 (repeat' first|first|refine A.s rfl ?_|refine A.r rfl rfl ?_|refine A.w rfl rfl ?_|refine A.p rfl ?_|refine A.b rfl fun bx=>?_|refine A.t rfl fun bl=>?_|refine A.c rfl hp .refl ?_|refine A.c rfl hpl .refl ?_|((fail_if_success (refine A.lit? rfl ?_));refine A.gS rfl (fun hc=>?_) (fun hc=>?_))|((fail_if_success (refine A.litP? rfl ?_));refine A.gSP rfl (fun hc=>?_) (fun hc=>?_)))
 (all_goals (refine R_ ?_;refine Sb.eq (ab_eq ?_)))
 all_goals (rw [Bool.eq_iff_iff];simp_all)
 all_goals (try intros)
 all_goals (first|omega|(cases b1<;>cases b2<;>simp_all<;>omega))
theorem routput_p(k:KN)(c item:Int)(e:KE)(hw:wfK e):Pure Tryz.prog gs0 129 [encN k,AI c,AU8 item,cellsK e] (AB (chanB k.chans.length c item 0&&fitV k.vars e item)):=by
 have hn:((k.chans.map AU8).length:Int)=k.chans.length:=by rw [List.length_map]
 have hp:=rprim_p item
 have hpl:=rFits_p k.vars e hw item
 unfold chanB
 generalize primB item=b1 at hp⊢
 generalize fitV k.vars e item=b2 at hpl⊢
 refine p_ tt_ok Tryz.func129 37 fun w0 h0 F hgs=>?_
 (repeat' first|first|refine A.s rfl ?_|refine A.r rfl rfl ?_|refine A.w rfl rfl ?_|refine A.p rfl ?_|refine A.b rfl fun bx=>?_|refine A.t rfl fun bl=>?_|refine A.c rfl hp .refl ?_|refine A.c rfl hpl .refl ?_|((fail_if_success (refine A.lit? rfl ?_));refine A.gS rfl (fun hc=>?_) (fun hc=>?_))|((fail_if_success (refine A.litP? rfl ?_));refine A.gSP rfl (fun hc=>?_) (fun hc=>?_)))
 (all_goals (refine R_ ?_;refine Sb.eq (ab_eq ?_)))
 all_goals (rw [Bool.eq_iff_iff];simp_all)
 all_goals (try intros)
 all_goals (first|omega|(cases b1<;>cases b2<;>simp_all<;>omega))
def usesG(g:GD):Bool:=g.c==0&&g.item==0&&g.to.v==0&&g.to.ix.length==0
theorem plainGB_eq(g:GD)(i t:Bool):plainGB g i t=((i||usesG g)&&(t||zeroE g.time)):=rfl
theorem timed_eq(e:KE):(bif bif bif bif bif e.kind !=0 then true else e.oper !=0 then true else e.to !=0 then true else e.n !=0 then true else e.v !=0 then true else decide (0<((encKl e.l).length:Int)))= !zeroE e:=by
 have n1:((encKl e.l).length:Int)=e.l.length:=by rw [encKl_len]
 have hn:decide (0<((encKl e.l).length:Int))= !decide (e.l.length≤0):=by
  rw [n1]
  rcases Nat.eq_zero_or_pos e.l.length with h|h
  ·rw [h];rfl
  ·rw [decide_eq_true (by omega),decide_eq_false (by omega)];rfl
 rw [hn,zeroE]
 simp only [bne]
 generalize (e.kind==0)=a1
 generalize (e.oper==0)=a2
 generalize (e.to==0)=a3
 generalize (e.n==0)=a4
 generalize (e.v==0)=a5
 generalize decide (e.l.length≤0)=a6
 cases a1<;>cases a2<;>cases a3<;>cases a4<;>cases a5<;>cases a6<;>rfl
theorem inputs_eq(g:GD):(bif bif bif g.c !=0 then true else g.item !=0 then true else g.to.v !=0 then true else decide (0<((encKl g.to.ix).length:Int)))= !usesG g:=by
 have n1:((encKl g.to.ix).length:Int)=g.to.ix.length:=by rw [encKl_len]
 have hn:decide (0<((encKl g.to.ix).length:Int))= !(g.to.ix.length==0):=by
  rw [n1]
  rcases Nat.eq_zero_or_pos g.to.ix.length with h|h
  ·rw [h];rfl
  ·rw [decide_eq_true (by omega),beq_eq_false_iff_ne.2 (by omega)];rfl
 rw [hn,usesG]
 simp only [bne]
 generalize (g.c==0)=a1
 generalize (g.item==0)=a2
 generalize (g.to.v==0)=a3
 generalize (g.to.ix.length==0)=a4
 cases a1<;>cases a2<;>cases a3<;>cases a4<;>rfl
theorem rguard_a(k:KN)(kind:Int)(g:GD)(h:g.body.length≠1):Pure Tryz.prog gs0 130 [encN k,AU8 kind,cellsG g] (AB false):=by
 refine p_ tt_ok Tryz.func130 136 fun w0 h0 F hgs=>?_
 (refine b_ fun bx=>?_;refine b_ fun bx=>?_;refine y_ ?_)
 refine e_ 13 rfl (x':=AB true) (ab_eq (by rw [encRl_len,Bool.eq_iff_iff];simp;omega)) ?_;exact r_
theorem rguard_b(k:KN)(kind:Int)(g:GD)(h:g.body.length=1)(hfc:Pure Tryz.prog gs0 127 [varsA k.vars,cellsK g.cond,AU8 3] (AB false)):Pure Tryz.prog gs0 130 [encN k,AU8 kind,cellsG g] (AB false):=by
 refine p_ tt_ok Tryz.func130 136 fun w0 h0 F hgs=>?_
 (refine b_ fun bx=>?_;refine b_ fun bx=>?_;refine y_ ?_)
 refine e_ 13 rfl (x':=AB false) (ab_eq (by rw [encRl_len,h];rfl)) ?_
 exact cr_ hfc
theorem rguard_c(k:KN)(kind:Int)(g:GD)(h:g.body.length=1)(hfc:Pure Tryz.prog gs0 127 [varsA k.vars,cellsK g.cond,AU8 3] (AB true))(b2 b3:Bool)(hft:Pure Tryz.prog gs0 127 [varsA k.vars,cellsK g.time,AU8 1] (AB b2))
 (hin:Pure Tryz.prog gs0 128 [encN k,AI g.c,AU8 g.item,encPl g.to] (AB b3)) (R:Bool)
 (hR: ∀cb z w:Bool,cb=(kind==12)→z=zeroE g.time→w=usesG g→R=(((g.kind==1)==cb)&&(if g.kind=1∨g.kind=2 then w&&z else if g.kind=3 then z&&b3 else if g.kind=4 then w&&b2 else false))):
 Pure Tryz.prog gs0 130 [encN k,AU8 kind,cellsG g] (AB R):=by
 have e7:=timed_eq g.time
 have e8:=inputs_eq g
 have hR:=hR _ _ _ rfl rfl rfl
 generalize zeroE g.time=z at e7 hR
 generalize usesG g=w at e8 hR
 refine p_ tt_ok Tryz.func130 136 fun w0 h0 F hgs=>?_
 (refine b_ fun bx=>?_;refine b_ fun bx=>?_;refine y_ ?_)
 refine e_ 13 rfl (x':=AB false) (ab_eq (by rw [encRl_len,h];rfl)) ?_
 refine n_ hfc ?_
 refine g_ ?_
 refine A.valE 7 rfl (x':=AB (!z)) (ab_eq e7) ?_
 refine A.valE 8 rfl (x':=AB (!w)) (ab_eq e8) ?_
 clear e7 e8
 refine k_ (fun hc=>?_) fun hc=>?_
 ·have k1:g.kind=1:=by simpa using hc
  rw [k1] at hR
  (repeat' first|first|refine A.s rfl ?_|refine A.r rfl rfl ?_|refine A.w rfl rfl ?_|refine A.p rfl ?_|refine A.b rfl fun bx=>?_|refine A.t rfl fun bl=>?_|((fail_if_success (refine A.lit? rfl ?_));refine A.gS rfl (fun hc=>?_) (fun hc=>?_))|((fail_if_success (refine A.litP? rfl ?_));refine A.gSP rfl (fun hc=>?_) (fun hc=>?_)))
  (all_goals (refine R_ ?_;refine Sb.eq (ab_eq ?_)))
  all_goals (clear hin hft hfc;simp_all)
 have k1:g.kind≠1:=by simpa using hc
 refine y_ ?_
 refine k_ (fun hc=>?_) fun hc=>?_
 ·have k2:g.kind=2:=by simpa using hc
  rw [k2] at hR
  (repeat' first|first|refine A.s rfl ?_|refine A.r rfl rfl ?_|refine A.w rfl rfl ?_|refine A.p rfl ?_|refine A.b rfl fun bx=>?_|refine A.t rfl fun bl=>?_|((fail_if_success (refine A.lit? rfl ?_));refine A.gS rfl (fun hc=>?_) (fun hc=>?_))|((fail_if_success (refine A.litP? rfl ?_));refine A.gSP rfl (fun hc=>?_) (fun hc=>?_)))
  (all_goals (refine R_ ?_;refine Sb.eq (ab_eq ?_)))
  all_goals (clear hin hft hfc;simp_all)
 have k2:g.kind≠2:=by simpa using hc
 refine y_ ?_
 refine k_ (fun hc=>?_) fun hc=>?_
 ·have k3:g.kind=3:=by simpa using hc
  rw [k3] at hR
  (repeat' first|first|refine A.s rfl ?_|refine A.r rfl rfl ?_|refine A.w rfl rfl ?_|refine A.p rfl ?_|refine A.b rfl fun bx=>?_|refine A.t rfl fun bl=>?_|refine A.c rfl hin .refl ?_|((fail_if_success (refine A.lit? rfl ?_));refine A.gS rfl (fun hc=>?_) (fun hc=>?_))|((fail_if_success (refine A.litP? rfl ?_));refine A.gSP rfl (fun hc=>?_) (fun hc=>?_)))
  (all_goals (refine R_ ?_;refine Sb.eq (ab_eq ?_)))
  all_goals (clear hin hft hfc;simp_all)
 have k3:g.kind≠3:=by simpa using hc
 refine y_ ?_
 refine k_ (fun hc=>?_) fun hc=>?_
 ·have k4:g.kind=4:=by simpa using hc
  rw [k4] at hR
  (repeat' first|first|refine A.s rfl ?_|refine A.r rfl rfl ?_|refine A.w rfl rfl ?_|refine A.p rfl ?_|refine A.b rfl fun bx=>?_|refine A.t rfl fun bl=>?_|refine A.c rfl hft .refl ?_|((fail_if_success (refine A.lit? rfl ?_));refine A.gS rfl (fun hc=>?_) (fun hc=>?_))|((fail_if_success (refine A.litP? rfl ?_));refine A.gSP rfl (fun hc=>?_) (fun hc=>?_)))
  (all_goals (refine R_ ?_;refine Sb.eq (ab_eq ?_)))
  all_goals (clear hin hft hfc;simp_all)
 have k4:g.kind≠4:=by simpa using hc
 rw [if_neg (fun h=>h.elim k1 k2),if_neg k3,if_neg k4,Bool.and_false] at hR
 refine y_ ?_;refine R_ ?_;rw [hR];exact .refl
theorem rguard_p(k:KN)(kind:Int)(g:GD)(hw:WfG g):Pure Tryz.prog gs0 130 [encN k,AU8 kind,cellsG g] (AB (guardB k.vars k.chans.length g (kind==12))):=by
 have hfc:=rFits_p k.vars g.cond hw.cond 3
 have hft:=rFits_p k.vars g.time hw.time 1
 have hin:=rinput_p k g.c g.item g.to hw.to
 unfold guardB
 by_cases hb:g.body.length=1
 case neg=>
  rw [show (g.body.length==1)=false from beq_eq_false_iff_ne.2 hb]
  exact rguard_a k kind g hb
 rw [show (g.body.length==1)=true from beq_iff_eq.2 hb,Bool.true_and]
 cases hf:fitV k.vars g.cond 3 with
 |false=>
  rw [hf] at hfc
  exact rguard_b k kind g hb hfc
 |true=>
  rw [hf] at hfc
  refine rguard_c k kind g hb hfc _ _ hft hin _ fun cb z w e1 e2 e3=>?_
  subst e1;subst e2;subst e3
  rw [Bool.true_and,plainGB_eq,plainGB_eq,plainGB_eq]
  simp only [Bool.false_or,Bool.true_or,Bool.true_and,Bool.and_true]
theorem typed_3(k:KN)(c v it:Int)(to:List PL)(e:List KE)(gs:List GD)(b:List PR):Pure Tryz.prog gs0 95 [encN k,cellsR ⟨3,c,v,it,to,e,gs,b⟩] (AB (decide (0≤v)&&decide (v<k.vars.length))):=by
 have hlen:((k.vars.map encV).length:Int)=k.vars.length:=by rw [List.length_map]
 rw [←hlen]
 refine p_ tt_ok Tryz.func95 158 fun w0 h0 F hgs=>?_
 (refine b_ fun bx=>?_;refine b_ fun bx=>?_;refine y_ ?_)
 ((fail_if_success (refine A.lit? rfl ?_));refine A.gS rfl (fun hc=>?_) (fun hc=>?_))
 ·refine y_ ?_;refine R_ ?_;refine Sb.eq (ab_eq ?_);have hc:decide (0≤v)=true:=hc;rw [hc];rfl
 ·refine y_ ?_;refine R_ ?_;refine Sb.eq (ab_eq ?_);have hc:decide (0≤v)=false:=hc;rw [hc];rfl
theorem typed_5(k:KN)(c v it:Int)(t:PL)(hw:wfPl t)(e:List KE)(gs:List GD)(b:List PR):Pure Tryz.prog gs0 95 [encN k,cellsR ⟨5,c,v,it,[t],e,gs,b⟩] (AB (inputB k.vars k.chans.length c it t)):=by
 have hin:=rinput_p k c it t hw
 generalize inputB k.vars k.chans.length c it t=R at hin⊢
 refine p_ tt_ok Tryz.func95 158 fun w0 h0 F hgs=>?_
 (refine b_ fun bx=>?_;refine b_ fun bx=>?_;refine y_ ?_)
 refine d_ 9 [0,1,2,3,4,5,6,7,8] [] ?_
 refine iw_ rfl rfl rfl ?_
 refine WA.nil (l:=[]) rfl ?_
 exact cr_ hin
theorem typed_6(k:KN)(c v it:Int)(to:List PL)(x:KE)(hw:wfK x)(gs:List GD)(b:List PR):Pure Tryz.prog gs0 95 [encN k,cellsR ⟨6,c,v,it,to,[x],gs,b⟩] (AB (chanB k.chans.length c it 0&&fitV k.vars x it)):=by
 have hin:=routput_p k c it x hw
 generalize (chanB k.chans.length c it 0&&fitV k.vars x it)=R at hin⊢
 have he:(encKl [x])[(0:Int).toNat]? =some (encK x):=encKl_at rfl
 refine p_ tt_ok Tryz.func95 158 fun w0 h0 F hgs=>?_
 (refine b_ fun bx=>?_;refine b_ fun bx=>?_;refine y_ ?_)
 refine d_ 9 [0,1,2,3,4,5,6,7,8] [] ?_
 refine iw_ rfl he (encK_eq x) ?_
 refine WA.nil (l:=[]) rfl ?_
 exact cr_ hin
theorem typed_7(k:KN)(c v it:Int)(t:PL)(hw:wfPl t)(e:List KE)(gs:List GD)(b:List PR):Pure Tryz.prog gs0 95 [encN k,cellsR ⟨7,c,v,it,[t],e,gs,b⟩] (AB (placeB k.vars t 1)):=by
 have hin:=rplace_p k.vars t hw 1
 generalize placeB k.vars t 1=R at hin⊢
 refine p_ tt_ok Tryz.func95 158 fun w0 h0 F hgs=>?_
 (refine b_ fun bx=>?_;refine b_ fun bx=>?_;refine y_ ?_)
 refine d_ 6 [0,1,2,3,4,5] [] ?_
 refine iw_ rfl rfl rfl ?_
 refine WA.nil (l:=[]) rfl ?_
 exact cr_ hin
theorem typed_8(k:KN)(c v it:Int)(to:List PL)(x:KE)(hw:wfK x)(gs:List GD)(b:List PR):Pure Tryz.prog gs0 95 [encN k,cellsR ⟨8,c,v,it,to,[x],gs,b⟩] (AB (fitV k.vars x 1)):=by
 have hin:=rFits_p k.vars x hw 1
 generalize fitV k.vars x 1=R at hin⊢
 have he:(encKl [x])[(0:Int).toNat]? =some (encK x):=encKl_at rfl
 refine p_ tt_ok Tryz.func95 158 fun w0 h0 F hgs=>?_
 (refine b_ fun bx=>?_;refine b_ fun bx=>?_;refine y_ ?_)
 refine d_ 6 [0,1,2,3,4,5] [] ?_
 refine iw_ rfl he (encK_eq x) ?_
 refine WA.nil (l:=[]) rfl ?_
 exact cr_ hin
theorem typed_13(k:KN)(c v it:Int)(to:List PL)(x:KE)(hw:wfK x)(gs:List GD)(b:List PR):Pure Tryz.prog gs0 95 [encN k,cellsR ⟨13,c,v,it,to,[x],gs,b⟩] (AB (fitV k.vars x 3)):=by
 have hin:=rFits_p k.vars x hw 3
 generalize fitV k.vars x 3=R at hin⊢
 have he:(encKl [x])[(0:Int).toNat]? =some (encK x):=encKl_at rfl
 refine p_ tt_ok Tryz.func95 158 fun w0 h0 F hgs=>?_
 (refine b_ fun bx=>?_;refine b_ fun bx=>?_;refine y_ ?_)
 refine d_ 6 [0,1,2,3,4,5] [] ?_
 refine iw_ rfl he (encK_eq x) ?_
 refine WA.nil (l:=[]) rfl ?_
 exact cr_ hin
theorem typed_g(k:KN)(p:PR)(hk:p.kind≠3∧p.kind≠4∧p.kind≠5∧p.kind≠6∧p.kind≠7∧p.kind≠8∧p.kind≠13)(hwg: ∀g,g∈p.gs→wfG g)(hgl:p.gs.length≤281474976710656)(R:Bool)(hR:(p.gs.all fun g=>guardB k.vars k.chans.length g (p.kind==12))=R):Pure Tryz.prog gs0 95 [encN k,cellsR p] (AB R):=by
 refine p_ tt_ok Tryz.func95 158 fun w0 h0 F hgs=>?_
 (repeat (first|first|refine A.s rfl ?_|refine A.r rfl rfl ?_|refine A.w rfl rfl ?_|refine A.p rfl ?_|refine A.b rfl fun bx=>?_|refine A.t rfl fun bl=>?_|refine A.cond rfl (fun h=>(by simp at h;omega)) (fun _=>?_)|first|refine A.step rfl ?_|refine A.v rfl rfl ?_))
 refine A.keep [2,3,7] rfl ?_
 refine A.loopP (ι:=Nat) (fun i=>(⟨[(2,ptrA _),(3,ptrA _),(7,AI (i:Nat))],[]⟩,[.box _ (cellsR p), .box _ (encN k)])) (fun i=>i≤p.gs.length∧((p.gs.drop i).all fun g=>guardB k.vars k.chans.length g (p.kind==12))=R) (fun i=>p.gs.length-i) 0 ⟨Nat.zero_le _,hR⟩ rfl fun i hi ih=>?_
 refine y_ ?_
 refine A.valE 145 rfl (x':=AB (decide (i<p.gs.length))) (ab_eq (by rw [encGl_len,Bool.eq_iff_iff];simp)) ?_
 refine k_ (fun hc=>?_) fun hc=>?_
 ·have hc:i<p.gs.length:=by simpa using hc
  refine Exists.elim (at_exN (l:=p.gs) (i:=i) hc) fun g hg=>?_
  have hgp:=rguard_p k p.kind g (wfG_all (hwg g (List.mem_of_getElem? hg)))
  have h1:=hi.2
  rw [drop_at hg,List.all_cons] at h1
  refine y_ ?_
  refine d_ 8 [0,1,2,3,4,5,6,7] [] ?_
  refine iw_ rfl (encGl_at hg) (encG_eq g) ?_
  refine WA.nil (l:=[]) rfl ?_
  refine c_ hgp ?_
  refine k_ (fun hc=>?_) fun hc=>?_
  ·have hf:guardB k.vars k.chans.length g (p.kind==12)=false:=by simpa using hc
   rw [hf,Bool.false_and] at h1
   refine y_ ?_;refine R_ ?_;rw [←h1];exact .refl
  ·have hf:guardB k.vars k.chans.length g (p.kind==12)=true:=by simpa using hc
   rw [hf,Bool.true_and] at h1
   refine y_ ?_
   refine A.valE 7 rfl (x':=AI ((i+1:Nat):Int)) (inc_eq i (by omega)) ?_
   refine u_ (ih (i+1) ⟨by omega,h1⟩ (by omega))
 ·have hc: ¬i<p.gs.length:=by simpa using hc
  have hil:i=p.gs.length:=by omega
  have h1:=hi.2
  rw [hil,List.drop_length,List.all_nil] at h1
  refine y_ ?_;refine R_ ?_;rw [←h1];exact .refl
abbrev P4(c v it:Int)(to:List PL)(e:List KE)(b:List PR):PR:=⟨4,c,v,it,to,e,[],b⟩
theorem typed_4a(k:KN)(c v it:Int)(t:PL)(to:List PL)(e:List KE)(b:List PR)(hle:(t::to).length≠e.length):Pure Tryz.prog gs0 95 [encN k,cellsR (P4 c v it (t::to) e b)] (AB false):=by
 have n1:(((t::to).map encPl).length:Int)=(t::to).length:=by rw [List.length_map]
 have n2:((encKl e).length:Int)=e.length:=by rw [encKl_len]
 refine p_ tt_ok Tryz.func95 158 fun w0 h0 F hgs=>?_
 (refine b_ fun bx=>?_;refine b_ fun bx=>?_;refine y_ ?_)
 refine A.loop1 ?_
 refine y_ ?_
 refine e_ 29 rfl (x':=AB true) (ab_eq (by rw [n1];exact decide_eq_true (by rw [List.length_cons];omega))) ?_
 refine i_ rfl rfl rfl ?_
 refine d_ 49 [0,1,2,3,4,5,6,7,8,9,10,11,12,13,14,15,16,17,18,19,20,21,22,23,24,25,26,27,28,29,30,31,32,33,34,35,36,37,38,39,40,41,42,43,44,45,46,47,48] [(32,AB false)] ?_
 refine ew_ 45 rfl (x':=AB true) (ab_eq (by rw [n1,n2];simp only [bne_iff_ne,ne_eq];exact fun h=>hle (by omega))) ?_
 refine z_ ?_;exact r_
theorem typed_4b(k:KN)(c v it:Int)(to:List PL)(e:List KE)(b:List PR)(hle:to.length=e.length)(hl8:to.length≤8)(hwt: ∀t,t∈to→wfPl t)(hwe: ∀x,x∈e→wfK x)(R:Bool)(hR:((to.zip e).all fun te=>assignB k.vars te.1 te.2)=R):
 Pure Tryz.prog gs0 95 [encN k,cellsR (P4 c v it to e b)] (AB R):=by
 have hlen:((k.vars.map encV).length:Int)=k.vars.length:=by rw [List.length_map]
 have n1:((to.map encPl).length:Int)=to.length:=by rw [List.length_map]
 have n2:((encKl e).length:Int)=e.length:=by rw [encKl_len]
 refine p_ tt_ok Tryz.func95 158 fun w0 h0 F hgs=>?_
 (refine b_ fun bx=>?_;refine b_ fun bx=>?_;refine y_ ?_)
 refine A.keep [2,3,5] rfl ?_
 refine A.loopP (ι:=Nat) (fun i=>(⟨[(2,ptrA _),(3,ptrA _),(5,AI (i:Nat))],[]⟩,[.box _ (cellsR (P4 c v it to e b)), .box _ (encN k)])) (fun i=>i≤to.length∧((to.zip e).drop i).all (fun te=>assignB k.vars te.1 te.2)=R) (fun i=>to.length-i) 0 ⟨by omega,hR⟩ rfl fun i hi ih=>?_
 refine y_ ?_
 refine A.valE 29 rfl (x':=AB (decide (i<to.length))) (ab_eq (by rw [n1,Bool.eq_iff_iff];simp)) ?_
 refine k_ (fun hc=>?_) fun hc=>?_
 ·have hc:i<to.length:=by simpa using hc
  refine Exists.elim (at_exN (l:=to) (i:=i) hc) fun t ht=>?_
  refine Exists.elim (at_exN (l:=e) (i:=i) (by omega)) fun x hx=>?_
  have hwt1:=hwt t (List.mem_of_getElem? ht)
  have hwe1:=hwe x (List.mem_of_getElem? hx)
  have h1:=hi.2
  rw [drop_at (zip_both ht hx)] at h1
  refine y_ ?_
  refine i_ rfl (map_at ht) rfl ?_
  by_cases hneg:t.v<0
  ·rw [assign_no (by rw [assignB,if_pos (.inl hneg)])] at h1
   refine d_ 49 [0,1,2,3,4,5,6,7,8,9,10,11,12,13,14,15,16,17,18,19,20,21,22,23,24,25,26,27,28,29,30,31,32,33,34,35,36,37,38,39,40,41,42,43,44,45,46,47,48] [(32,AB false)] ?_
   refine ew_ 45 rfl (x':=AB false) (ab_eq (by rw [n1,n2];simp;omega)) ?_
   refine ew_ 49 rfl (x':=AB true) (ab_eq (by simpa using hneg)) ?_
   refine z_ ?_;refine R_ ?_;rw [←h1];exact .refl
  by_cases hout:(k.vars.length:Int)≤t.v
  ·rw [assign_no (by rw [assignB,if_pos (.inr hout)])] at h1
   refine d_ 49 [0,1,2,3,4,5,6,7,8,9,10,11,12,13,14,15,16,17,18,19,20,21,22,23,24,25,26,27,28,29,30,31,32,33,34,35,36,37,38,39,40,41,42,43,44,45,46,47,48] [(32,AB false)] ?_
   refine ew_ 45 rfl (x':=AB false) (ab_eq (by rw [n1,n2];simp;omega)) ?_
   refine ew_ 49 rfl (x':=AB false) (ab_eq (by simp;omega)) ?_
   refine ew_ 56 rfl (x':=AB true) (ab_eq (by rw [hlen];simpa using hout)) ?_
   refine z_ ?_;refine R_ ?_;rw [←h1];exact .refl
  refine Exists.elim (at_ex (l:=k.vars) (i:=t.v) (by omega) (by omega)) fun y hy=>?_
  have hv0:(0:Int)≤t.v:=by omega
  have hab:assignB k.vars t x=(placeB k.vars t y.kind&&fitV k.vars x y.kind):=by rw [assignB,if_neg (by omega),hy]
  have hpl:=rplace_p k.vars t hwt1 y.kind
  have hft:=rFits_p k.vars x hwe1 y.kind
  refine Exists.elim (show∃b1,b1=placeB k.vars t y.kind from ⟨_,rfl⟩) fun b1 e1=>Exists.elim (show∃b2,b2=fitV k.vars x y.kind from ⟨_,rfl⟩) fun b2 e2=>?_
  rw [←e1] at hpl hab
  rw [←e2] at hft hab
  by_cases hb1:b1=true
  ·rw [hb1] at hpl hab
   refine d_ 49 [0,1,2,3,4,5,6,7,8,9,10,11,12,13,14,15,16,17,18,19,20,21,22,23,24,25,26,27,28,29,30,31,32,33,34,35,36,37,38,39,40,41,42,43,44,45,46,47,48] [(32,AB true)] ?_
   refine ew_ 45 rfl (x':=AB false) (ab_eq (by rw [n1,n2];simp;omega)) ?_
   refine ew_ 49 rfl (x':=AB false) (ab_eq (by simp;omega)) ?_
   refine ew_ 56 rfl (x':=AB false) (ab_eq (by rw [hlen];simp;omega)) ?_
   refine iw_ rfl (map_at ht) rfl ?_
   refine WA.x rfl hv0 (map_at hy) rfl rfl ?_
   refine w_ ?_
   refine cw_ hpl ?_
   refine iw_ rfl (encKl_at hx) (encK_eq x) ?_
   refine WA.x rfl hv0 (map_at hy) rfl rfl ?_
   refine w_ ?_
   refine WA.nil (l:=[]) rfl ?_
   refine c_ hft ?_
   refine A.valE 89 rfl (x':=AB (!b2)) (ab_eq (by rfl)) ?_
   refine k_ (fun hc=>?_) fun hc=>?_
   ·have hf:b2=false:=by simpa using hc
    rw [assign_no (by rw [hab,hf,Bool.and_false])] at h1
    refine y_ ?_;refine R_ ?_;rw [←h1];exact .refl
   ·have hf:b2=true:=by simpa using hc
    rw [List.all_cons] at h1
    have hat:assignB k.vars t x=true:=by rw [hab,hf];rfl
    simp only [hat,Bool.true_and] at h1
    refine y_ ?_
    refine A.valE 5 rfl (x':=AI ((i+1:Nat):Int)) (inc_eq i (by omega)) ?_
    refine u_ (ih (i+1) ⟨by omega,h1⟩ (by omega))
  ·have hb1:b1=false:=by simpa using hb1
   rw [hb1] at hpl hab
   rw [assign_no (by rw [hab];rfl)] at h1
   refine d_ 49 [0,1,2,3,4,5,6,7,8,9,10,11,12,13,14,15,16,17,18,19,20,21,22,23,24,25,26,27,28,29,30,31,32,33,34,35,36,37,38,39,40,41,42,43,44,45,46,47,48] [(32,AB false)] ?_
   refine ew_ 45 rfl (x':=AB false) (ab_eq (by rw [n1,n2];simp;omega)) ?_
   refine ew_ 49 rfl (x':=AB false) (ab_eq (by simp;omega)) ?_
   refine ew_ 56 rfl (x':=AB false) (ab_eq (by rw [hlen];simp;omega)) ?_
   refine iw_ rfl (map_at ht) rfl ?_
   refine WA.x rfl hv0 (map_at hy) rfl rfl ?_
   refine w_ ?_
   refine cw_ hpl ?_
   refine z_ ?_;refine R_ ?_;rw [←h1];exact .refl
 ·have hc: ¬i<to.length:=by simpa using hc
  have h1:=hi.2
  rw [List.drop_eq_nil_of_le (by rw [zip_len hle];omega),List.all_nil] at h1
  refine y_ ?_
  refine A.loop1 ?_
  refine y_ ?_;refine R_ ?_;rw [←h1];exact .refl
theorem inB_11{m:Nat}(h:inB m 1 1=true):m=1:=by simp only [inB,Bool.and_eq_true,decide_eq_true_eq] at h;omega
theorem one_of{α:Type}{l:List α}(h:l.length=1): ∃a,l=[a]:=by
 match l,h with
 | [a],_=>exact ⟨a,rfl⟩
theorem typed_p(k:KN)(p:PR)(hw:WfR p)(hlk:looksB p=true):Pure Tryz.prog gs0 95 [encN k,cellsR p] (AB (kindB k.vars k.chans.length p)):=by
 obtain ⟨kd,c,v,it,to,e,gs,b⟩:=p
 have hwt:=hw.to
 have hwe:=hw.e
 have hwg:=hw.g
 have hgl:=hw.gl
 simp only [PR.to,PR.e,PR.gs] at hwt hwe hwg hgl
 by_cases k12:kd=1∨kd=2
 ·have hs:looksB ⟨kd,c,v,it,to,e,gs,b⟩=kindB k.vars k.chans.length ⟨kd,c,v,it,to,e,gs,b⟩:=by simp only [looksB,kindB,PR.kind,formK,if_pos k12,fm0]
  rw [←hs,hlk]
  refine typed_g k ⟨kd,c,v,it,to,e,gs,b⟩ (by show kd≠3∧kd≠4∧kd≠5∧kd≠6∧kd≠7∧kd≠8∧kd≠13;omega) hwg hgl true ?_
  have h0:gs=[]:=by
   simp only [looksB,PR.kind,formK,if_pos k12,fm0,shapeR,Bool.and_eq_true] at hlk
   exact List.length_eq_zero_iff.1 (inB_0 hlk.1.2)
  subst h0;rfl
 by_cases k3:kd=3
 ·subst k3
  have hs:kindB k.vars k.chans.length ⟨3,c,v,it,to,e,gs,b⟩=(looksB ⟨3,c,v,it,to,e,gs,b⟩&&decide (0≤v)&&decide (v<k.vars.length)):=rfl
  rw [hs,hlk,Bool.true_and]
  exact typed_3 k c v it to e gs b
 by_cases k4:kd=4
 ·subst k4
  have hs:kindB k.vars k.chans.length ⟨4,c,v,it,to,e,gs,b⟩=(looksB ⟨4,c,v,it,to,e,gs,b⟩&&(to.length==e.length)&&(to.zip e).all fun te=>assignB k.vars te.1 te.2):=rfl
  have hl2:looksB ⟨4,c,v,it,to,e,gs,b⟩=shapeR ⟨4,c,v,it,to,e,gs,b⟩ false false 1 8 1 8 0 0 0 0:=rfl
  rw [hs,hlk,Bool.true_and]
  rw [hl2] at hlk
  simp only [shapeR,Bool.and_eq_true] at hlk
  have h0:gs=[]:=List.length_eq_zero_iff.1 (inB_0 hlk.1.2)
  have ht:=hlk.1.1.1.2
  simp only [inB,Bool.and_eq_true,decide_eq_true_eq,PR.to] at ht
  subst h0
  by_cases hle:to.length=e.length
  ·rw [show (to.length==e.length)=true from beq_iff_eq.2 hle,Bool.true_and]
   exact typed_4b k c v it to e b hle (by omega) hwt hwe _ rfl
  ·rw [show (to.length==e.length)=false from beq_eq_false_iff_ne.2 hle,Bool.false_and]
   match to,hle,ht with
   | [],_,ht=>simp at ht
   |t::to,hle,_=>exact typed_4a k c v it t to e b hle
 by_cases k5:kd=5
 ·subst k5
  have hs:kindB k.vars k.chans.length ⟨5,c,v,it,to,e,gs,b⟩=(looksB ⟨5,c,v,it,to,e,gs,b⟩&&to1 (inputB k.vars k.chans.length c it) to):=rfl
  have hl2:looksB ⟨5,c,v,it,to,e,gs,b⟩=shapeR ⟨5,c,v,it,to,e,gs,b⟩ true false 1 1 0 0 0 0 0 0:=rfl
  rw [hs,hlk,Bool.true_and]
  rw [hl2] at hlk
  simp only [shapeR,Bool.and_eq_true] at hlk
  obtain ⟨t,rfl⟩:=one_of (inB_11 hlk.1.1.1.2)
  exact typed_5 k c v it t (hwt t (List.mem_cons_self ..)) e gs b
 by_cases k6:kd=6
 ·subst k6
  have hs:kindB k.vars k.chans.length ⟨6,c,v,it,to,e,gs,b⟩=(looksB ⟨6,c,v,it,to,e,gs,b⟩&&chanB k.chans.length c it 0&&fit1 k.vars e it):=rfl
  have hl2:looksB ⟨6,c,v,it,to,e,gs,b⟩=shapeR ⟨6,c,v,it,to,e,gs,b⟩ true false 0 0 1 1 0 0 0 0:=rfl
  rw [hs,hlk,Bool.true_and]
  rw [hl2] at hlk
  simp only [shapeR,Bool.and_eq_true] at hlk
  obtain ⟨t,rfl⟩:=one_of (inB_11 hlk.1.1.2)
  exact typed_6 k c v it to t (hwe t (List.mem_cons_self ..)) gs b
 by_cases k7:kd=7
 ·subst k7
  have hs:kindB k.vars k.chans.length ⟨7,c,v,it,to,e,gs,b⟩=(looksB ⟨7,c,v,it,to,e,gs,b⟩&&to1 (fun t=>placeB k.vars t 1) to):=rfl
  have hl2:looksB ⟨7,c,v,it,to,e,gs,b⟩=shapeR ⟨7,c,v,it,to,e,gs,b⟩ false false 1 1 0 0 0 0 0 0:=rfl
  rw [hs,hlk,Bool.true_and]
  rw [hl2] at hlk
  simp only [shapeR,Bool.and_eq_true] at hlk
  obtain ⟨t,rfl⟩:=one_of (inB_11 hlk.1.1.1.2)
  exact typed_7 k c v it t (hwt t (List.mem_cons_self ..)) e gs b
 by_cases k8:kd=8
 ·subst k8
  have hs:kindB k.vars k.chans.length ⟨8,c,v,it,to,e,gs,b⟩=(looksB ⟨8,c,v,it,to,e,gs,b⟩&&fit1 k.vars e 1):=rfl
  have hl2:looksB ⟨8,c,v,it,to,e,gs,b⟩=shapeR ⟨8,c,v,it,to,e,gs,b⟩ false false 0 0 1 1 0 0 0 0:=rfl
  rw [hs,hlk,Bool.true_and]
  rw [hl2] at hlk
  simp only [shapeR,Bool.and_eq_true] at hlk
  obtain ⟨t,rfl⟩:=one_of (inB_11 hlk.1.1.2)
  exact typed_8 k c v it to t (hwe t (List.mem_cons_self ..)) gs b
 by_cases k13:kd=13
 ·subst k13
  have hs:kindB k.vars k.chans.length ⟨13,c,v,it,to,e,gs,b⟩=(looksB ⟨13,c,v,it,to,e,gs,b⟩&&fit1 k.vars e 3):=rfl
  have hl2:looksB ⟨13,c,v,it,to,e,gs,b⟩=shapeR ⟨13,c,v,it,to,e,gs,b⟩ false false 0 0 1 1 0 0 1 1:=rfl
  rw [hs,hlk,Bool.true_and]
  rw [hl2] at hlk
  simp only [shapeR,Bool.and_eq_true] at hlk
  obtain ⟨t,rfl⟩:=one_of (inB_11 hlk.1.1.2)
  exact typed_13 k c v it to t (hwe t (List.mem_cons_self ..)) gs b
 ·refine typed_g k ⟨kd,c,v,it,to,e,gs,b⟩ (by show kd≠3∧kd≠4∧kd≠5∧kd≠6∧kd≠7∧kd≠8∧kd≠13;omega) hwg hgl _ ?_
  by_cases k9:kd=9
  ·subst k9
   have hs:kindB k.vars k.chans.length ⟨9,c,v,it,to,e,gs,b⟩=looksB ⟨9,c,v,it,to,e,gs,b⟩:=rfl
   have hl2:looksB ⟨9,c,v,it,to,e,gs,b⟩=shapeR ⟨9,c,v,it,to,e,gs,b⟩ false false 0 0 0 0 0 0 0 2048:=rfl
   rw [hs,hlk]
   rw [hl2] at hlk
   simp only [shapeR,Bool.and_eq_true] at hlk
   have h0:gs=[]:=List.length_eq_zero_iff.1 (inB_0 hlk.1.2)
   subst h0;rfl
  by_cases k10:kd=10
  ·subst k10
   have hs:kindB k.vars k.chans.length ⟨10,c,v,it,to,e,gs,b⟩=looksB ⟨10,c,v,it,to,e,gs,b⟩:=rfl
   have hl2:looksB ⟨10,c,v,it,to,e,gs,b⟩=shapeR ⟨10,c,v,it,to,e,gs,b⟩ false false 0 0 0 0 0 0 0 16:=rfl
   rw [hs,hlk]
   rw [hl2] at hlk
   simp only [shapeR,Bool.and_eq_true] at hlk
   have h0:gs=[]:=List.length_eq_zero_iff.1 (inB_0 hlk.1.2)
   subst h0;rfl
  by_cases k11:kd=11
  ·subst k11
   have hs:kindB k.vars k.chans.length ⟨11,c,v,it,to,e,gs,b⟩=looksB ⟨11,c,v,it,to,e,gs,b⟩:=rfl
   have hl2:looksB ⟨11,c,v,it,to,e,gs,b⟩=shapeR ⟨11,c,v,it,to,e,gs,b⟩ false false 0 0 0 0 0 0 2 2:=rfl
   rw [hs,hlk]
   rw [hl2] at hlk
   simp only [shapeR,Bool.and_eq_true] at hlk
   have h0:gs=[]:=List.length_eq_zero_iff.1 (inB_0 hlk.1.2)
   subst h0;rfl
  by_cases kc:kd=12∨kd=14∨kd=15
  ·have hs:kindB k.vars k.chans.length ⟨kd,c,v,it,to,e,gs,b⟩=(looksB ⟨kd,c,v,it,to,e,gs,b⟩&&gs.all fun g=>guardB k.vars k.chans.length g (kd==12)):=by
    rcases kc with rfl|rfl|rfl<;>rfl
   rw [hs,hlk,Bool.true_and]
  ·have:looksB ⟨kd,c,v,it,to,e,gs,b⟩=false:=by
    simp only [looksB,PR.kind,formK,if_neg k12,if_neg k3,if_neg k4,if_neg k5,if_neg k6,if_neg k7,if_neg k8,if_neg k9,if_neg k10,if_neg k11,if_neg kc,if_neg k13]
   rw [this] at hlk;cases hlk
theorem looks_of_kind{l:List KV}{n:Nat}{p:PR}(h:looksB p=false):kindB l n p=false:=by
 cases hk:kindB l n p with
 |false=>rfl
 |true=>
  obtain ⟨kd,c,v,it,to,e,gs,b⟩:=p
  have hr:=kind_bodies hk
  exfalso
  simp only [PR.kind] at hr
  rcases kinds_15 ⟨hr.1,hr.2.1⟩ with rfl|rfl|rfl|rfl|rfl|rfl|rfl|rfl|rfl|rfl|rfl|rfl|rfl|rfl|rfl
  ·have hs:kindB l n ⟨1,c,v,it,to,e,gs,b⟩=(looksB ⟨1,c,v,it,to,e,gs,b⟩):=rfl
   rw [hs,h] at hk;simp at hk
  ·have hs:kindB l n ⟨2,c,v,it,to,e,gs,b⟩=(looksB ⟨2,c,v,it,to,e,gs,b⟩):=rfl
   rw [hs,h] at hk;simp at hk
  ·have hs:kindB l n ⟨3,c,v,it,to,e,gs,b⟩=(looksB ⟨3,c,v,it,to,e,gs,b⟩&&decide (0≤v)&&decide (v<l.length)):=rfl
   rw [hs,h] at hk;simp at hk
  ·have hs:kindB l n ⟨4,c,v,it,to,e,gs,b⟩=(looksB ⟨4,c,v,it,to,e,gs,b⟩&&(to.length==e.length)&&(to.zip e).all fun te=>assignB l te.1 te.2):=rfl
   rw [hs,h] at hk;simp at hk
  ·have hs:kindB l n ⟨5,c,v,it,to,e,gs,b⟩=(looksB ⟨5,c,v,it,to,e,gs,b⟩&&to1 (inputB l n c it) to):=rfl
   rw [hs,h] at hk;simp at hk
  ·have hs:kindB l n ⟨6,c,v,it,to,e,gs,b⟩=(looksB ⟨6,c,v,it,to,e,gs,b⟩&&chanB n c it 0&&fit1 l e it):=rfl
   rw [hs,h] at hk;simp at hk
  ·have hs:kindB l n ⟨7,c,v,it,to,e,gs,b⟩=(looksB ⟨7,c,v,it,to,e,gs,b⟩&&to1 (fun t=>placeB l t 1) to):=rfl
   rw [hs,h] at hk;simp at hk
  ·have hs:kindB l n ⟨8,c,v,it,to,e,gs,b⟩=(looksB ⟨8,c,v,it,to,e,gs,b⟩&&fit1 l e 1):=rfl
   rw [hs,h] at hk;simp at hk
  ·have hs:kindB l n ⟨9,c,v,it,to,e,gs,b⟩=(looksB ⟨9,c,v,it,to,e,gs,b⟩):=rfl
   rw [hs,h] at hk;simp at hk
  ·have hs:kindB l n ⟨10,c,v,it,to,e,gs,b⟩=(looksB ⟨10,c,v,it,to,e,gs,b⟩):=rfl
   rw [hs,h] at hk;simp at hk
  ·have hs:kindB l n ⟨11,c,v,it,to,e,gs,b⟩=(looksB ⟨11,c,v,it,to,e,gs,b⟩):=rfl
   rw [hs,h] at hk;simp at hk
  ·have hs:kindB l n ⟨12,c,v,it,to,e,gs,b⟩=(looksB ⟨12,c,v,it,to,e,gs,b⟩&&gs.all fun g=>guardB l n g ((12:Int)==12)):=rfl
   rw [hs,h] at hk;simp at hk
  ·have hs:kindB l n ⟨13,c,v,it,to,e,gs,b⟩=(looksB ⟨13,c,v,it,to,e,gs,b⟩&&fit1 l e 3):=rfl
   rw [hs,h] at hk;simp at hk
  ·have hs:kindB l n ⟨14,c,v,it,to,e,gs,b⟩=(looksB ⟨14,c,v,it,to,e,gs,b⟩&&gs.all fun g=>guardB l n g ((14:Int)==12)):=rfl
   rw [hs,h] at hk;simp at hk
  ·have hs:kindB l n ⟨15,c,v,it,to,e,gs,b⟩=(looksB ⟨15,c,v,it,to,e,gs,b⟩&&gs.all fun g=>guardB l n g ((15:Int)==12)):=rfl
   rw [hs,h] at hk;simp at hk
abbrev innA(k:KN)(deep:Int)(high:Bool):AV:= .ag [varsA k.vars,chsA k.chans,AU8 k.root.kind,AI k.root.c,AI k.root.v,AU8 k.root.item,plsA k.root.to,kesA k.root.e,gsA k.root.gs,rsA k.root.l,intsA k.procs,AI deep,AB high]
theorem innA_eq(k:KN){d d':Int}{h h':Bool}(h1:d=d')(h2:h=h'):innA k d h=innA k d' h':=by rw [h1,h2]
def leftI(k:KN)(high:Bool)(deep:Int)(p:PR)(n:Int):Int:=if fitsR k.vars k.chans.length high p n (32-deep) then n-szR p else-1
abbrev leftE(k:KN)(p:PR)(deep:Int)(high:Bool)(n:Int):Prop:=Pure Tryz.prog gs0 67 [innA k deep high,cellsR p,AI n] (AI (leftI k high deep p n))
theorem left_a(k:KN)(p:PR)(deep:Int)(high:Bool)(n:Int)(hz:n=0∨deep=32)(r0:0≤n)(d1:deep≤32):leftE k p deep high n:=by
 have hnf: ¬fitsR k.vars k.chans.length high p n (32-deep):=fitsR_no (by omega)
 unfold leftE
 refine p_ tt_ok Tryz.func67 104 fun w0 h0 F hgs=>?_
 (refine gb_ fun bx=>?_;refine gb_ fun bx=>?_;refine g_ ?_)
 refine A.valE 16 rfl (x':=AB true) (ab_eq (by simp;omega)) ?_
 (refine y_ ?_;refine R_ ?_;exact Sb.eq (ai_eq (if_neg hnf).symm))
theorem left_b(k:KN)(p:PR)(deep:Int)(high:Bool)(n:Int)(hlk:looksB p=false):leftE k p deep high n:=by
 have hnf: ¬fitsR k.vars k.chans.length high p n (32-deep):=fitsR_no (.inr (.inr (.inl (looks_of_kind hlk))))
 have h1:=looks_p p
 rw [hlk] at h1
 unfold leftE
 refine p_ tt_ok Tryz.func67 104 fun w0 h0 F hgs=>?_
 (repeat' first|first|refine A.s rfl ?_|refine A.r rfl rfl ?_|refine A.w rfl rfl ?_|refine A.p rfl ?_|refine A.b rfl fun bx=>?_|refine A.t rfl fun bl=>?_|refine A.c rfl h1 .refl ?_|((fail_if_success (refine A.lit? rfl ?_));refine A.gS rfl (fun hc=>?_) (fun hc=>?_))|((fail_if_success (refine A.litP? rfl ?_));refine A.gSP rfl (fun hc=>?_) (fun hc=>?_)))
 all_goals (refine R_ ?_;exact Sb.eq (ai_eq (if_neg hnf).symm))
theorem left_c(k:KN)(p:PR)(hw:wfR p)(deep:Int)(high:Bool)(n:Int)(hlk:looksB p=true)(hk:kindB k.vars k.chans.length p=false):leftE k p deep high n:=by
 have hnf: ¬fitsR k.vars k.chans.length high p n (32-deep):=fitsR_no (.inr (.inr (.inl hk)))
 have h1:=looks_p p
 have h2:=typed_p k p (wfR_all hw) hlk
 rw [hlk] at h1
 rw [hk] at h2
 unfold leftE
 refine p_ tt_ok Tryz.func67 104 fun w0 h0 F hgs=>?_
 (repeat' first|first|refine A.s rfl ?_|refine A.r rfl rfl ?_|refine A.w rfl rfl ?_|refine A.p rfl ?_|refine A.b rfl fun bx=>?_|refine A.t rfl fun bl=>?_|refine A.c rfl h1 .refl ?_|refine A.c rfl h2 .refl ?_|((fail_if_success (refine A.lit? rfl ?_));refine A.gS rfl (fun hc=>?_) (fun hc=>?_))|((fail_if_success (refine A.litP? rfl ?_));refine A.gSP rfl (fun hc=>?_) (fun hc=>?_)))
 all_goals (refine R_ ?_;exact Sb.eq (ai_eq (if_neg hnf).symm))
theorem left_d(k:KN)(p:PR)(hw:wfR p)(deep:Int)(n:Int)(hlk:looksB p=true)(hk:kindB k.vars k.chans.length p=true)(h11:p.kind=11):leftE k p deep true n:=by
 have hnf: ¬fitsR k.vars k.chans.length true p n (32-deep):=fitsR_no (.inr (.inr (.inr (by rw [h11];rfl))))
 have h1:=looks_p p
 have h2:=typed_p k p (wfR_all hw) hlk
 rw [hlk] at h1
 rw [hk] at h2
 unfold leftE
 have hkk:(p.kind==11)=true:=by rw [h11];rfl
 refine p_ tt_ok Tryz.func67 104 fun w0 h0 F hgs=>?_
 (repeat' first|first|refine A.s rfl ?_|refine A.r rfl rfl ?_|refine A.w rfl rfl ?_|refine A.p rfl ?_|refine A.b rfl fun bx=>?_|refine A.t rfl fun bl=>?_|refine A.c rfl h1 .refl ?_|refine A.c rfl h2 .refl ?_|((fail_if_success (refine A.lit? rfl ?_));refine A.gS rfl (fun hc=>?_) (fun hc=>?_))|((fail_if_success (refine A.litP? rfl ?_));refine A.gSP rfl (fun hc=>?_) (fun hc=>?_)))
 all_goals first|(refine R_ ?_;exact Sb.eq (ai_eq (if_neg hnf).symm))|(exact absurd hkk (by simp_all))
theorem left_e(k:KN)(p:PR)(hw:wfR p)(deep:Int)(high:Bool)(n:Int)(r0:1≤n)(r1:n≤2048)(d0:0≤deep)(d1:deep<32)(hlk:looksB p=true)(hk:kindB k.vars k.chans.length p=true)(hh:(high&&p.kind==11)=false)
 (ih0: ∀(y:PR) (hi:Bool) (lf:Int),wfR y→szR y<szR p→0≤lf→lf≤2048→leftE k y (deep+1) hi lf):leftE k p deep high n:=by
 have hw1:IntKind.i64.wrap (n-1)=n-1:=wr64 _ (by omega)
 have hw2:IntKind.i64.wrap (deep+1)=deep+1:=wr64 _ (by omega)
 have hwa:=wfR_all hw
 have h1:=looks_p p
 have h2:=typed_p k p hwa hlk
 rw [hlk] at h1
 rw [hk] at h2
 have hbod:=(kind_bodies hk).2.2
 have hfl:=fitsR_l (high:=high) (p:=p) (room:=n) (deep:=32-deep) r0 (by omega) hk hh
 rw [show 32-deep-1=32-(deep+1) by omega] at hfl
 have hse:=szR_eq p
 have n1:((encRl p.l).length:Int)=p.l.length:=by rw [encRl_len]
 have n2:((encGl p.gs).length:Int)=p.gs.length:=by rw [encGl_len]
 unfold leftE
 refine p_ tt_ok Tryz.func67 104 fun w0 h0 F hgs=>?_
 (refine gb_ fun bx=>?_;refine gb_ fun bx=>?_;refine g_ ?_)
 refine A.valE 16 rfl (x':=AB false) (ab_eq (by rw [Bool.eq_iff_iff];simp;omega)) ?_
 refine c_ h1 ?_
 refine n_ h2 ?_
 refine g_ ?_
 refine e_ 36 rfl (x':=AB false) (ab_eq (by revert hh;generalize (p.kind==11)=b11;cases high<;>cases b11<;>simp)) ?_
 refine A.valE 2 rfl (x':=AI (n-1)) (ai_eq hw1) ?_
 refine A.keep [2,3,4,7] rfl ?_
 refine A.loopP (ι:=Nat×Int) (fun q=>(⟨[(2,AI q.2),(3,ptrA _),(4,ptrA _),(7,AI (q.1:Nat))],[]⟩,[.box _ (cellsR p), .box _ (innA k deep high)]))
  (fun q=>q.1≤p.l.length∧((fitsPs k.vars k.chans.length high (p.kind==11) (p.l.take q.1) (n-1) (32-(deep+1))∧q.2=n-1-(szL (p.l.take q.1):Nat))∨(q.2= -1∧ ¬fitsR k.vars k.chans.length high p n (32-deep)))) (fun q=>p.l.length-q.1) (0,n-1) ⟨Nat.zero_le _, .inl ⟨⟨by simp [okL],by simp [szL];omega,by simp [htL];omega⟩,by simp [szL]⟩⟩ rfl fun q hi ih=>?_
 obtain ⟨i,lf⟩:=q
 obtain ⟨hi1,hi2⟩:=hi
 simp only at hi1 hi2
 by_cases hlf:lf<0
 ·have hneg:lf= -1∧ ¬fitsR k.vars k.chans.length high p n (32-deep):=by
   rcases hi2 with ⟨hf,he⟩|h
   ·have:=hf.2.1;omega
   ·exact h
  have hnf:=hneg.2
  have hlf1:=hneg.1
  subst hlf1
  refine g_ ?_
  refine e_ 47 rfl (x':=AB false) (ab_eq (by simp)) ?_
  refine A.loop1 ?_
  refine g_ ?_
  refine e_ 82 rfl (x':=AB false) (ab_eq (by simp)) ?_;refine R_ ?_;exact Sb.eq (ai_eq (if_neg hnf).symm)
 have hpos:fitsPs k.vars k.chans.length high (p.kind==11) (p.l.take i) (n-1) (32-(deep+1))∧lf=n-1-(szL (p.l.take i):Nat):=by
  rcases hi2 with h|h
  ·exact h
  ·omega
 clear hi2
 obtain ⟨hi2,hi3⟩:=hpos
 have hsz2:=hi2.2.1
 refine g_ ?_
 refine A.valE 47 rfl (x':=AB (decide (i<p.l.length))) (ab_eq (by rw [n1,Bool.eq_iff_iff];simp;omega)) ?_
 refine k_ (fun hc=>?_) fun hc=>?_
 ·have hc:i<p.l.length:=by simpa using hc
  refine Exists.elim (at_exN (l:=p.l) (i:=i) (by omega)) fun y hy=>?_
  have hym:=List.mem_of_getElem? hy
  have htk:p.l.take (i+1)=p.l.take i++[y]:=by rw [List.take_add_one,hy];rfl
  have hsn:=fitsPs_snoc (x:=y) hi2
  rw [←htk,←hi3,take_empty (by omega)] at hsn
  have ihy:=ih0 y (high||((p.kind==11)&&decide (i=0))) lf (hwa.l y hym) (by have:=szL_le hym;omega) (by omega) (by omega)
  unfold leftE at ihy
  have e0:(((i:Nat):Int)==0)=decide (i=0):=by rw [Bool.eq_iff_iff];simp
  refine y_ ?_
  refine A.draw 23 [0,1,2,3,4,5,6,7,8,9,10,11,12,13,14,15,16,17,18,19,20,21,22] noPubs [] (by kernel_rfl) (by kernel_rfl) ?_
  refine v_ ?_
  refine WA.valE 66 rfl (x':=innA k (deep+1) (high||((p.kind==11)&&decide (i=0)))) (innA_eq k hw2 (by rw [e0];clear ih ihy hsn;generalize (p.kind==11)=b11;cases high<;>cases b11<;>simp)) ?_
  refine iw_ rfl (encRl_at hy) (encR_eq y) ?_
  refine WA.nil (l:=[]) rfl ?_
  refine c_ ihy ?_
  refine A.valE 7 rfl (x':=AI ((i+1:Nat):Int)) (inc_eq i (by have:=hwa.ll;omega)) ?_
  refine u_ (ih (i+1,leftI k (high||((p.kind==11)&&decide (i=0))) (deep+1) y lf) ⟨by show i+1≤_;omega,?_⟩ (by show _-(i+1)<_-i;omega))
  by_cases hfx:fitsR k.vars k.chans.length (high||((p.kind==11)&&decide (i=0))) y lf (32-(deep+1))
  ·refine .inl ⟨hsn.2 hfx,?_⟩
   show leftI k (high||((p.kind==11)&&decide (i=0))) (deep+1) y lf=n-1-(szL (p.l.take (i+1)):Nat)
   rw [leftI,if_pos hfx,htk,szL_append,hi3];simp [szL];omega
  ·exact .inr ⟨if_neg hfx,fun hf=>hfx (hsn.1 (fitsPs_take (hfl.1 hf).1 (i+1)))⟩
 have hc: ¬i<p.l.length:=by simpa using hc
 have hil:i=p.l.length:=by omega
 rw [hil,List.take_length] at hi2 hi3
 have hszl:=hi2.2.1
 refine y_ ?_
 refine A.keep [2,3,4,8] rfl ?_
 refine A.loopP (ι:=Nat×Int) (fun q=>(⟨[(2,AI q.2),(3,ptrA _),(4,ptrA _),(8,AI (q.1:Nat))],[]⟩,[.box _ (cellsR p), .box _ (innA k deep high)]))
  (fun q=>q.1≤p.gs.length∧((fitsGs k.vars k.chans.length high (p.gs.take q.1) (n-1-(szL p.l:Nat)) (32-(deep+1))∧q.2=n-1-(szL p.l:Nat)-(szGs (p.gs.take q.1):Nat))∨(q.2= -1∧ ¬fitsR k.vars k.chans.length high p n (32-deep)))) (fun q=>p.gs.length-q.1) (0,lf) ⟨Nat.zero_le _, .inl ⟨⟨by simp [okGs],by simp [szGs];omega,by simp [htGs];omega⟩,by simp [szGs];omega⟩⟩ rfl fun q hj jh=>?_
 obtain ⟨j,lg⟩:=q
 obtain ⟨hj1,hj2⟩:=hj
 simp only at hj1 hj2
 by_cases hlg:lg<0
 ·have hneg:lg= -1∧ ¬fitsR k.vars k.chans.length high p n (32-deep):=by
   rcases hj2 with ⟨hf,he⟩|h
   ·have:=hf.2.1;omega
   ·exact h
  have hnf:=hneg.2
  have hlg1:=hneg.1
  subst hlg1
  refine g_ ?_
  refine e_ 82 rfl (x':=AB false) (ab_eq (by simp)) ?_;refine R_ ?_;exact Sb.eq (ai_eq (if_neg hnf).symm)
 have hpos:fitsGs k.vars k.chans.length high (p.gs.take j) (n-1-(szL p.l:Nat)) (32-(deep+1))∧lg=n-1-(szL p.l:Nat)-(szGs (p.gs.take j):Nat):=by
  rcases hj2 with h|h
  ·exact h
  ·omega
 clear hj2
 obtain ⟨hj2,hj3⟩:=hpos
 have hsz3:=hj2.2.1
 refine g_ ?_
 refine A.valE 82 rfl (x':=AB (decide (j<p.gs.length))) (ab_eq (by rw [n2,Bool.eq_iff_iff];simp;omega)) ?_
 refine k_ (fun hc=>?_) fun hc=>?_
 ·have hc:j<p.gs.length:=by simpa using hc
  refine Exists.elim (at_exN (l:=p.gs) (i:=j) (by omega)) fun g hg=>?_
  have hgm:=List.mem_of_getElem? hg
  refine Exists.elim (hbod g hgm) fun y hy=>?_
  have htk:p.gs.take (j+1)=p.gs.take j++[g]:=by rw [List.take_add_one,hg];rfl
  have hsn:=fitsGs_snoc hy hj2
  rw [←htk,←hj3] at hsn
  have hszy:szR y≤szGs p.gs:=by have:=szGs_le hgm;rw [szG_eq,hy,szL,szL] at this;omega
  have ihy:=ih0 y high lg ((wfG_all (hwa.g g hgm)).body y (by rw [hy];exact List.mem_cons_self ..)) (by omega) (by omega) (by omega)
  unfold leftE at ihy
  refine y_ ?_
  refine d_ 17 [0,1,2,3,4,5,6,7,8,9,10,11,12,13,14,15,16] [] ?_
  refine WA.valE 92 rfl (x':=innA k (deep+1) high) (innA_eq k hw2 rfl) ?_
  refine iw_ rfl (encGl_at hg) (encG_eq g) ?_
  refine iw_ rfl (show (encRl g.body)[(0:Int).toNat]? =some (encR y) from encRl_at (by rw [hy];rfl)) (encR_eq y) ?_
  refine WA.nil (l:=[]) rfl ?_
  refine c_ ihy ?_
  refine A.valE 8 rfl (x':=AI ((j+1:Nat):Int)) (inc_eq j (by have:=hwa.gl;omega)) ?_
  refine u_ (jh (j+1,leftI k high (deep+1) y lg) ⟨by show j+1≤_;omega,?_⟩ (by show _-(j+1)<_-j;omega))
  by_cases hfx:fitsR k.vars k.chans.length high y lg (32-(deep+1))
  ·refine .inl ⟨hsn.2 hfx,?_⟩
   show leftI k high (deep+1) y lg=n-1-(szL p.l:Nat)-(szGs (p.gs.take (j+1)):Nat)
   have e2:szGs [g]=szR y:=by rw [szGs,szGs,szG_eq,hy,szL,szL];omega
   rw [leftI,if_pos hfx,htk,szGs_append,hj3,e2];omega
  ·exact .inr ⟨if_neg hfx,fun hf=>hfx (hsn.1 (fitsGs_take (hfl.1 hf).2 (j+1)))⟩
 have hc: ¬j<p.gs.length:=by simpa using hc
 have hjl:j=p.gs.length:=by omega
 rw [hjl,List.take_length] at hj2 hj3
 refine y_ ?_;refine R_ ?_
 refine Sb.eq (ai_eq ?_)
 rw [leftI,if_pos (hfl.2 ⟨hi2,hj2⟩)];omega
theorem left_p(k:KN): ∀(N:Nat) (p:PR) (deep:Int) (high:Bool) (n:Int),szR p≤N→wfR p→0≤n→n≤2048→0≤deep→deep≤32→leftE k p deep high n
 |0,p,_,_,_,hn,_,_,_,_,_=>by have:=szR_pos p;omega
 |N+1,p,deep,high,n,hn,hw,r0,r1,d0,d1=>by
  by_cases hz:n=0∨deep=32
  ·exact left_a k p deep high n hz r0 d1
  cases hlk:looksB p with
  |false=>exact left_b k p deep high n hlk
  |true=>
   cases hkb:kindB k.vars k.chans.length p with
   |false=>exact left_c k p hw deep high n hlk hkb
   |true=>
    cases hh:(high&&p.kind==11) with
    |true=>
     simp only [Bool.and_eq_true,beq_iff_eq] at hh
     rw [hh.1]
     exact left_d k p hw deep n hlk hkb hh.2
    |false=>exact left_e k p hw deep high n (by omega) r1 d0 (by omega) hlk hkb hh fun y hi lf hwy hsz l0 l1=>left_p k N y (deep+1) hi lf (by omega) hwy l0 l1 (by omega) (by omega)
def finK(k:KN):Bool:=k.root.kind==10&&k.root.l.length==k.procs.length
def placedK(k:KN):Bool:=k.procs.length==0||(okPr [] k.procs&&finK k)
theorem placed_a(k:KN)(h:k.procs.length=0):Pure Tryz.prog gs0 65 [encN k] (AB true):=by
 have n3:((k.procs.map AI).length:Int)=k.procs.length:=by rw [List.length_map]
 refine p_ tt_ok Tryz.func65 60 fun w0 h0 F hgs=>?_
 (refine b_ fun bx=>?_;refine y_ ?_)
 refine e_ 8 rfl (x':=AB true) (ab_eq (by rw [n3,h];rfl)) ?_;exact r_
theorem placed_b(k:KN)(hw:WfN k)(h:k.procs.length≠0)(R:Bool)(hR:(okPr [] k.procs&&finK k)=R):Pure Tryz.prog gs0 65 [encN k] (AB R):=by
 have n3:((k.procs.map AI).length:Int)=k.procs.length:=by rw [List.length_map]
 have n4:((encRl k.root.l).length:Int)=k.root.l.length:=by rw [encRl_len]
 have hpl:=hw.procs
 refine p_ tt_ok Tryz.func65 60 fun w0 h0 F hgs=>?_
 (refine b_ fun bx=>?_;refine y_ ?_)
 refine e_ 8 rfl (x':=AB false) (ab_eq (by rw [n3];exact beq_eq_false_iff_ne.2 (by omega))) ?_
 refine A.keep [1,3] rfl ?_
 refine A.loopP (ι:=Nat) (fun i=>(⟨[(1,ptrA _),(3,AI (i:Nat))],[]⟩,[.box _ (encN k)])) (fun i=>i≤k.procs.length∧(okPr (k.procs.take i) (k.procs.drop i)&&finK k)=R) (fun i=>k.procs.length-i) 0 ⟨by omega,hR⟩ rfl fun i hi ih=>?_
 refine y_ ?_
 refine A.valE 13 rfl (x':=AB (decide (i<k.procs.length))) (ab_eq (by rw [n3,Bool.eq_iff_iff];simp)) ?_
 refine k_ (fun hc=>?_) fun hc=>?_
 ·have hc:i<k.procs.length:=by simpa using hc
  refine Exists.elim (at_exN (l:=k.procs) (i:=i) hc) fun v hv=>?_
  have h1:=hi.2
  rw [drop_at hv,okPr] at h1
  have htk:k.procs.take (i+1)=k.procs.take i++[v]:=by rw [List.take_add_one,hv];rfl
  rw [←htk] at h1
  refine Exists.elim (show∃R2,R2=(okPr (k.procs.take (i+1)) (k.procs.drop (i+1))&&finK k) from ⟨_,rfl⟩) fun R2 hR2=>?_
  have h2:(decide (0≤v)&&decide (v<8)&& !(k.procs.take i).contains v&&R2)=R:=by rw [hR2,←h1];simp only [Bool.and_assoc]
  refine y_ ?_
  refine A.keep [1,3,4] rfl ?_
  refine A.loopP (ι:=Nat) (fun j=>(⟨[(1,ptrA _),(3,AI (i:Nat)),(4,AI (j:Nat))],[]⟩,[.box _ (encN k)])) (fun j=>j≤i∧(k.procs.take i).contains v=((k.procs.take i).drop j).contains v) (fun j=>i-j) 0 ⟨by omega,rfl⟩ rfl fun j hj jh=>?_
  refine y_ ?_
  refine A.valE 18 rfl (x':=AB (decide (j<i))) (ab_eq (by rw [Bool.eq_iff_iff];simp)) ?_
  refine k_ (fun hc=>?_) fun hc=>?_
  ·have hd:j<i:=by simpa using hc
   refine Exists.elim (at_exN (l:=k.procs) (i:=j) (by omega)) fun u hu=>?_
   have hut:(k.procs.take i)[j]? =some u:=by rw [List.getElem?_take,if_pos hd,hu]
   have h3:=hj.2
   rw [drop_at hut,List.contains_cons] at h3
   refine y_ ?_
   refine d_ 10 [0,1,2,3,4,5,6,7,8,9] [] ?_
   refine iw_ rfl (map_at hu) rfl ?_
   refine iw_ rfl (map_at hv) rfl ?_
   refine z_ ?_
   refine k_ (fun hc=>?_) fun hc=>?_
   ·have he:u=v:=by simpa using hc
    rw [he] at h3
    simp only [BEq.rfl,Bool.true_or] at h3
    rw [h3] at h2
    simp only [Bool.not_true,Bool.and_false,Bool.false_and] at h2
    refine y_ ?_;refine R_ ?_;rw [←h2];exact .refl
   ·have he:(v==u)=false:=by have:(u==v)=false:=hc;rw [beq_eq_false_iff_ne] at this⊢;exact fun h=>this h.symm
    rw [he,Bool.false_or] at h3
    refine y_ ?_
    refine A.valE 4 rfl (x':=AI ((j+1:Nat):Int)) (inc_eq j (by omega)) ?_
    refine u_ (jh (j+1) ⟨by omega,h3⟩ (by omega))
  have hd: ¬j<i:=by simpa using hc
  have hji:j=i:=by omega
  have h3:=hj.2
  rw [hji,List.drop_eq_nil_of_le (by rw [List.length_take];omega),List.contains_nil] at h3
  rw [h3,Bool.not_false,Bool.and_true] at h2
  refine y_ ?_
  refine i_ rfl (map_at hv) rfl ?_
  ((fail_if_success (refine A.lit? rfl ?_));refine A.gS rfl (fun hc=>?_) (fun hc=>?_))
  ·have hc0:v<0:=by simpa using hc
   rw [decide_eq_false (by omega)] at h2
   simp only [Bool.false_and] at h2
   refine y_ ?_;refine R_ ?_;rw [←h2];exact .refl
  have hc0:0≤v:=by simpa using hc
  refine y_ ?_
  refine i_ rfl (map_at hv) rfl ?_
  refine k_ (fun hc=>?_) fun hc=>?_
  ·have hc1:8≤v:=by simpa using hc
   rw [decide_eq_false (p:=v<8) (by omega)] at h2
   simp only [Bool.false_and,Bool.and_false] at h2
   refine y_ ?_;refine R_ ?_;rw [←h2];exact .refl
  have hc1:v<8:=by simpa using hc
  rw [decide_eq_true hc0,decide_eq_true hc1,Bool.true_and,Bool.true_and,hR2] at h2
  refine y_ ?_
  refine A.valE 3 rfl (x':=AI ((i+1:Nat):Int)) (inc_eq i (by omega)) ?_
  refine u_ (ih (i+1) ⟨by omega,h2⟩ (by omega))
 have hc: ¬i<k.procs.length:=by simpa using hc
 have hil:i=k.procs.length:=by omega
 have h1:=hi.2
 rw [hil,List.drop_length,okPr,Bool.true_and,finK] at h1
 refine g_ ?_;refine R_ ?_
 refine Sb.eq (ab_eq ?_)
 rw [←h1,n3,n4]
 generalize (k.root.kind==10)=b10
 cases b10 with
 |false=>rfl
 |true=>clear ih hi h1;rw [Bool.eq_iff_iff];simp;omega
theorem placed_p(k:KN)(hw:WfN k):Pure Tryz.prog gs0 65 [encN k] (AB (placedK k)):=by
 unfold placedK
 by_cases h:k.procs.length=0
 ·rw [show (k.procs.length==0)=true from beq_iff_eq.2 h,Bool.true_or];exact placed_a k h
 ·rw [show (k.procs.length==0)=false from beq_eq_false_iff_ne.2 h,Bool.false_or];exact placed_b k hw h _ rfl
theorem mayK_eq(k:KN):mayK k=(lensK k&&placedK k&&k.vars.all varOk&&okCh 0 k.chans&&decide (fitsR k.vars k.chans.length false k.root 2048 32)):=by
 unfold mayK
 have:(rootK k&&okPr [] k.procs)=placedK k:=by
  unfold rootK placedK finK
  by_cases h:k.procs.length=0
  ·rw [show (k.procs.length==0)=true from beq_iff_eq.2 h,List.length_eq_zero_iff.1 h];rfl
  ·rw [show (k.procs.length==0)=false from beq_eq_false_iff_ne.2 h,Bool.false_or,Bool.false_or,Bool.and_comm]
 rw [←this]
 simp only [Bool.and_assoc]
theorem rmay_a(k:KN)(hw:WfN k)(h:(lensK k&&placedK k)=false):Pure Tryz.prog gs0 37 [encN k] (AB false):=by
 have n1:((k.vars.map encV).length:Int)=k.vars.length:=by rw [List.length_map]
 have n2:((k.chans.map AU8).length:Int)=k.chans.length:=by rw [List.length_map]
 have hpc:=placed_p k hw
 refine p_ tt_ok Tryz.func37 86 fun w0 h0 F hgs=>?_
 (refine gb_ fun bx=>?_;refine g_ ?_)
 refine A.valE 22 rfl (x':=AB (!lensK k)) (ab_eq ?_) ?_
 ·rw [n1,n2,lensK,Bool.eq_iff_iff];simp;omega
 cases hlk:lensK k with
 |false=>exact yr_
 |true=>
  rw [hlk,Bool.true_and] at h
  rw [h] at hpc
  exact cr_ hpc
theorem rmay_b(k:KN)(hw:WfN k)(h:(lensK k&&placedK k)=true)(R:Bool)(hR:(k.vars.all varOk&&(okCh 0 k.chans&&decide (fitsR k.vars k.chans.length false k.root 2048 32)))=R):Pure Tryz.prog gs0 37 [encN k] (AB R):=by
 have n1:((k.vars.map encV).length:Int)=k.vars.length:=by rw [List.length_map]
 have n2:((k.chans.map AU8).length:Int)=k.chans.length:=by rw [List.length_map]
 rw [Bool.and_eq_true] at h
 have hlk:k.vars.length≤256∧2≤k.chans.length∧k.chans.length≤64:=by have:=h.1;simp only [lensK,Bool.and_eq_true,decide_eq_true_eq] at this;omega
 have hpc:=placed_p k hw
 rw [h.2] at hpc
 refine Exists.elim (show∃R2,R2=(okCh 0 k.chans&&decide (fitsR k.vars k.chans.length false k.root 2048 32)) from ⟨_,rfl⟩) fun R2 hR2=>?_
 rw [←hR2] at hR
 refine p_ tt_ok Tryz.func37 86 fun w0 h0 F hgs=>?_
 (refine gb_ fun bx=>?_;refine g_ ?_)
 refine A.valE 22 rfl (x':=AB false) (ab_eq ?_) ?_
 ·rw [n1,n2,Bool.eq_iff_iff];simp;omega
 refine c_ hpc ?_
 refine A.keep [1,3] rfl ?_
 refine A.loopP (ι:=Nat) (fun i=>(⟨[(1,ptrA _),(3,AI (i:Nat))],[]⟩,[.box _ (encN k)])) (fun i=>i≤k.vars.length∧((k.vars.drop i).all varOk&&R2)=R) (fun i=>k.vars.length-i) 0 ⟨by omega,hR⟩ rfl fun j hi ih=>?_
 refine y_ ?_
 refine A.valE 31 rfl (x':=AB (decide (j<k.vars.length))) (ab_eq (by rw [n1,Bool.eq_iff_iff];simp)) ?_
 refine k_ (fun hc=>?_) fun hc=>?_
 ·have hc:j<k.vars.length:=by simpa using hc
  refine Exists.elim (at_exN (l:=k.vars) (i:=j) (by omega)) fun v hv=>?_
  have h2:=hi.2
  rw [drop_at hv,List.all_cons,varOk] at h2
  refine y_ ?_
  refine i_ rfl (map_at hv) rfl ?_
  refine c_ (rprim_p v.kind) ?_
  ((fail_if_success (refine A.lit? rfl ?_));refine A.gS rfl (fun hc=>?_) (fun hc=>?_))
  ·have hc0:primB v.kind=false:=by simpa using hc
   rw [hc0] at h2
   refine y_ ?_;refine R_ ?_;rw [←h2];exact .refl
  have hc0:primB v.kind=true:=by simpa using hc
  refine y_ ?_
  refine i_ rfl (map_at hv) rfl ?_
  ((fail_if_success (refine A.lit? rfl ?_));refine A.gS rfl (fun hc=>?_) (fun hc=>?_))
  ·have hc1:v.dim<0:=by simpa using hc
   rw [decide_eq_false (p:=0≤v.dim) (by omega),Bool.and_false] at h2
   refine y_ ?_;refine R_ ?_;rw [←h2];exact .refl
  have hc1:0≤v.dim:=by simpa using hc
  refine y_ ?_
  refine i_ rfl (map_at hv) rfl ?_
  refine k_ (fun hc=>?_) fun hc=>?_
  ·have hc2:64<v.dim:=by simpa using hc
   rw [decide_eq_false (p:=v.dim≤64) (by omega),Bool.and_false] at h2
   refine y_ ?_;refine R_ ?_;rw [←h2];exact .refl
  ·have hc2:v.dim≤64:=by simpa using hc
   rw [hc0,decide_eq_true hc1,decide_eq_true hc2] at h2
   simp only [Bool.true_and] at h2
   refine y_ ?_
   refine A.valE 3 rfl (x':=AI ((j+1:Nat):Int)) (inc_eq j (by omega)) ?_
   refine u_ (ih (j+1) ⟨by omega,h2⟩ (by omega))
 have hc: ¬j<k.vars.length:=by simpa using hc
 have hjl:j=k.vars.length:=by omega
 have h2:=hi.2
 rw [hjl,List.drop_length,List.all_nil,Bool.true_and,hR2] at h2
 clear ih hi
 generalize hR3:decide (fitsR k.vars k.chans.length false k.root 2048 32)=R3 at h2
 have hpr:=left_p k (szR k.root) k.root 0 false 2048 (Nat.le_refl _) hw.root (by decide) (by decide) (by decide) (by decide)
 unfold leftE at hpr
 refine y_ ?_
 refine A.keep [1,4] rfl ?_
 refine A.loopP (ι:=Nat) (fun i=>(⟨[(1,ptrA _),(4,AI (i:Nat))],[]⟩,[.box _ (encN k)])) (fun i=>i≤k.chans.length∧(okCh i (k.chans.drop i)&&R3)=R) (fun i=>k.chans.length-i) 0 ⟨by omega,h2⟩ rfl fun m hi ih=>?_
 refine y_ ?_
 refine A.valE 64 rfl (x':=AB (decide (m<k.chans.length))) (ab_eq (by rw [n2,Bool.eq_iff_iff];simp)) ?_
 refine k_ (fun hc=>?_) fun hc=>?_
 ·have hc:m<k.chans.length:=by simpa using hc
  refine Exists.elim (at_exN (l:=k.chans) (i:=m) (by omega)) fun v hv=>?_
  have h3:=hi.2
  rw [drop_at hv,okCh] at h3
  by_cases m0:m=0
  ·subst m0
   rw [show wantH 0=1 from rfl] at h3
   (refine t_ fun bl=>?_;refine y_ ?_)
   refine i_ rfl rfl rfl ?_
   refine i_ rfl (map_at hv) rfl ?_
   refine k_ (fun hc=>?_) fun hc=>?_
   ·have hc:(v !=1)=true:=hc
    have hv1:(v==1)=false:=by simpa using hc
    rw [hv1] at h3
    refine y_ ?_;refine R_ ?_;rw [←h3];exact .refl
   ·have hc:(v !=1)=false:=hc
    have hv1:(v==1)=true:=by simpa using hc
    rw [hv1,Bool.true_and] at h3
    refine y_ ?_
    refine u_ (ih 1 ⟨by omega,h3⟩ (by omega))
  by_cases m1:m=1
  ·subst m1
   rw [show wantH 1=2 from rfl] at h3
   (refine t_ fun bl=>?_;refine y_ ?_)
   refine i_ rfl rfl rfl ?_
   refine i_ rfl (map_at hv) rfl ?_
   refine k_ (fun hc=>?_) fun hc=>?_
   ·have hc:(v !=2)=true:=hc
    have hv1:(v==2)=false:=by simpa using hc
    rw [hv1] at h3
    refine y_ ?_;refine R_ ?_;rw [←h3];exact .refl
   ·have hc:(v !=2)=false:=hc
    have hv1:(v==2)=true:=by simpa using hc
    rw [hv1,Bool.true_and] at h3
    refine y_ ?_
    refine u_ (ih 2 ⟨by omega,h3⟩ (by omega))
  ·rw [show wantH m=0 by simp [wantH,m0,m1]] at h3
   refine y_ ?_
   refine e_ 68 rfl (x':=AB false) (ab_eq (by simp;omega)) ?_
   refine i_ rfl (map_at hv) rfl ?_
   refine k_ (fun hc=>?_) fun hc=>?_
   ·have hc:(v !=0)=true:=hc
    have hv1:(v==0)=false:=by simpa using hc
    rw [hv1] at h3
    refine y_ ?_;refine R_ ?_;rw [←h3];exact .refl
   ·have hc:(v !=0)=false:=hc
    have hv1:(v==0)=true:=by simpa using hc
    rw [hv1,Bool.true_and] at h3
    refine y_ ?_
    refine A.valE 4 rfl (x':=AI ((m+1:Nat):Int)) (inc_eq m (by omega)) ?_
    refine u_ (ih (m+1) ⟨by omega,h3⟩ (by omega))
 have hc: ¬m<k.chans.length:=by simpa using hc
 have hml:m=k.chans.length:=by omega
 have h3:=hi.2
 rw [hml,List.drop_length,okCh,Bool.true_and] at h3
 clear ih hi
 refine y_ ?_
 refine c_ hpr ?_;refine R_ ?_;refine Sb.eq (ab_eq ?_);rw [←h3,←hR3,leftI,show (32:Int)-0=32 from rfl]
 by_cases hf:fitsR k.vars k.chans.length false k.root 2048 32
 ·rw [if_pos hf,decide_eq_true hf];have:=hf.2.1;simp;omega
 ·rw [if_neg hf,decide_eq_false hf];rfl
theorem rmay16_p(k:KN)(hw:WfN k):Pure Tryz.prog gs0 37 [encN k] (AB (mayK k)):=by
 rw [mayK_eq]
 by_cases h:(lensK k&&placedK k)=true
 ·rw [h,Bool.true_and,Bool.and_assoc];exact rmay_b k hw h _ rfl
 ·have h:(lensK k&&placedK k)=false:=by simpa using h
  rw [h,Bool.false_and,Bool.false_and,Bool.false_and];exact rmay_a k hw h
end Go.Proofs.YtafcodjilcljeaaGreat
namespace Go.Proofs.YtafcodjilcljeaaGreat
structure Ord{α:Type}(lt:α→α→Bool):Prop where
 irrefl: ∀x,lt x x=false
 trans: ∀x y z,lt x y=true→lt y z=true→lt x z=true
 tri: ∀x y,lt x y=false→lt y x=false→x=y
abbrev AscL{α:Type}(lt:α→α→Bool)(l:List α):Prop:=l.Pairwise fun x y=>lt x y=true
section
variable{α:Type}{lt:α→α→Bool}
theorem asc_eq(o:Ord lt): ∀{l m:List α},AscL lt l→AscL lt m→(∀z,z∈l↔z∈m)→l=m
 | [],[],_,_,_=>rfl
 | [],y::m,_,_,h=>by have:=(h y).2 (List.mem_cons_self ..);cases this
 |x::l,[],_,_,h=>by have:=(h x).1 (List.mem_cons_self ..);cases this
 |x::l,y::m,a,b,h=>by
  rw [AscL,List.pairwise_cons] at a b
  have hxy:x=y:=by
   rcases List.mem_cons.1 ((h x).1 (List.mem_cons_self ..)) with e|hx
   ·exact e
   ·rcases List.mem_cons.1 ((h y).2 (List.mem_cons_self ..)) with e|hy
    ·exact e.symm
    ·have h1:=b.1 x hx;have h2:=a.1 y hy
     have:=o.trans _ _ _ h1 h2
     rw [o.irrefl] at this;cases this
  subst hxy
  congr 1
  refine asc_eq o a.2 b.2 fun z=>⟨fun hz=>?_,fun hz=>?_⟩
  ·rcases List.mem_cons.1 ((h z).1 (List.mem_cons_of_mem _ hz)) with e|hz'
   ·subst e;have:=a.1 z hz;rw [o.irrefl] at this;cases this
   ·exact hz'
  ·rcases List.mem_cons.1 ((h z).2 (List.mem_cons_of_mem _ hz)) with e|hz'
   ·subst e;have:=b.1 z hz;rw [o.irrefl] at this;cases this
   ·exact hz'
def insS [DecidableEq α](lt:α→α→Bool):List α→α→List α
 | [],x=>[x]
 |y::r,x=>if lt y x=true then y::insS lt r x else if y=x then y::r else x::y::r
theorem mem_insS [DecidableEq α]{l:List α}{x z:α}:z∈insS lt l x↔z=x∨z∈l:=by
 induction l with
 |nil=>simp [insS]
 |cons y r ih=>
  simp only [insS]
  split
  ·simp [ih];constructor
   ·rintro (h|h|h)<;>simp [h]
   ·rintro (h|h|h)<;>simp [h]
  ·split
   ·rename_i _ e;subst e;simp
   ·simp
theorem asc_insS [DecidableEq α](o:Ord lt){l:List α}{x:α}(a:AscL lt l):AscL lt (insS lt l x):=by
 induction l with
 |nil=>simp [insS,AscL]
 |cons y r ih=>
  rw [AscL,List.pairwise_cons] at a
  simp only [insS]
  split
  ·rename_i h
   rw [AscL,List.pairwise_cons]
   refine ⟨fun z hz=>?_,ih a.2⟩
   rcases mem_insS.1 hz with rfl|hz
   ·exact h
   ·exact a.1 z hz
  ·rename_i h1
   split
   ·exact List.pairwise_cons.2 a
   ·rename_i h2
    have hxy:lt x y=true:=by
     cases hb:lt x y with
     |true=>rfl
     |false=>exact (h2 (o.tri _ _ (by simpa using h1) hb)).elim
    rw [AscL,List.pairwise_cons]
    refine ⟨fun z hz=>?_,List.pairwise_cons.2 a⟩
    rcases List.mem_cons.1 hz with rfl|hz
    ·exact hxy
    ·exact o.trans _ _ _ hxy (a.1 z hz)
def insAll [DecidableEq α](lt:α→α→Bool)(l m:List α):List α:=m.foldl (insS lt) l
theorem mem_insAll [DecidableEq α]{z:α}{m:List α}: ∀{l:List α},z∈insAll lt l m↔z∈l∨z∈m:=by
 induction m with
 |nil=>intro l;simp [insAll]
 |cons x m ih=>
  intro l
  have:=ih (l:=insS lt l x)
  simp only [insAll,List.foldl_cons] at this⊢
  rw [this,mem_insS]
  simp only [List.mem_cons]
  constructor
  ·rintro ((h|h)|h)<;>simp [h]
  ·rintro (h|h|h)<;>simp [h]
theorem asc_insAll [DecidableEq α](o:Ord lt): ∀{m l:List α},AscL lt l→AscL lt (insAll lt l m)
 | [],l,a=>a
 |x::m,l,a=>asc_insAll o (m:=m) (l:=insS lt l x) (asc_insS o a)
def compD [DecidableEq α]:List α→List α
 | []=>[]
 | [x]=>[x]
 |x::y::r=>if x=y then compD (y::r) else x::compD (y::r)
theorem mem_compD [DecidableEq α]{z:α}: ∀{l:List α},z∈compD l↔z∈l
 | []=>by simp [compD]
 | [x]=>by simp [compD]
 |x::y::r=>by
  have ih:=mem_compD (z:=z) (l:=y::r)
  simp only [compD]
  split
  ·rename_i e;subst e;rw [ih];simp
  ·rw [List.mem_cons,ih];exact List.mem_cons.symm
theorem asc_compD [DecidableEq α](o:Ord lt): ∀{l:List α},l.Pairwise (fun x y=>lt y x=false)→AscL lt (compD l)
 | [],_=>by simp [compD,AscL]
 | [x],_=>by simp [compD,AscL]
 |x::y::r,a=>by
  rw [List.pairwise_cons] at a
  have ih:=asc_compD o (l:=y::r) a.2
  simp only [compD]
  split
  ·exact ih
  ·rename_i hne
   rw [AscL,List.pairwise_cons]
   refine ⟨fun z hz=>?_,ih⟩
   have hz:=mem_compD.1 hz
   have hle:=a.1 z hz
   cases hb:lt x z with
   |true=>rfl
   |false=>
    have e:=o.tri _ _ hb hle
    subst e
    have h1:=(List.pairwise_cons.1 a.2).1
    rcases List.mem_cons.1 hz with e|hz
    ·exact (hne e).elim
    ·exact (hne (o.tri _ _ (by
      cases hb2:lt x y with
      |false=>rfl
      |true=>have:=h1 x hz;rw [hb2] at this;cases this) (a.1 y (List.mem_cons_self ..)))).elim
theorem comp_ins [DecidableEq α](o:Ord lt){l m:List α}(p:l.Perm m)(s:l.Pairwise fun x y=>lt y x=false):compD l=insAll lt [] m:=
 asc_eq o (asc_compD o s) (asc_insAll o (List.Pairwise.nil)) fun z=>by rw [mem_compD,mem_insAll,p.mem_iff];simp
end
theorem ord_int:Ord (fun x y:Int=>decide (x<y)) where
 irrefl x:=by simp
 trans x y z h1 h2:=by simp at*;omega
 tri x y h1 h2:=by simp at*;omega
abbrev EL:=Int×Int
def ltE(a b:EL):Bool:=decide (a.1<b.1)||decide (a.1=b.1)&&decide (a.2<b.2)
theorem ord_el:Ord ltE where
 irrefl x:=by simp [ltE]
 trans x y z h1 h2:=by simp [ltE] at*;omega
 tri x y h1 h2:=by
  obtain ⟨a,b⟩:=x;obtain ⟨c,d⟩:=y
  simp [ltE] at*
  omega
theorem take_two{α:Type}(l:List α)(m:Nat)(h0:0<m){x y:α}(hx:l[m-1]? =some x)(hy:l[m]? =some y):l.take (m+1)=l.take (m-1)++[x,y]∧l.take m=l.take (m-1)++[x]:=by
 have hxl:m-1<l.length:=(List.getElem?_eq_some_iff.1 hx).1
 have hyl:m<l.length:=(List.getElem?_eq_some_iff.1 hy).1
 have e1:l.take m=l.take (m-1)++[x]:=by
  have:=List.take_add_one (l:=l) (i:=m-1)
  rw [show m-1+1=m by omega] at this
  rw [this,hx];rfl
 refine ⟨?_,e1⟩
 rw [List.take_add_one,hy,e1]
 simp
section
variable{α:Type} [DecidableEq α]
theorem compD_snoc(x y:α): ∀l:List α,compD (l++[x,y])=if x=y then compD (l++[x]) else compD (l++[x])++[y]
 | []=>by
   simp only [List.nil_append,compD]
   split
   ·rename_i e;rw [e]
   ·rfl
 | [a]=>by
   have ih:=compD_snoc x y []
   simp only [List.nil_append,List.cons_append] at ih⊢
   rw [compD,ih]
   conv=>rhs;rw [compD]
   split<;>split<;>simp_all
 |a::b::l=>by
  have ih:=compD_snoc x y (b::l)
  simp only [List.cons_append] at ih⊢
  rw [compD,ih]
  conv=>rhs;rw [compD]
  split<;>split<;>simp_all
theorem comp_step(l:List α)(m:Nat)(h0:0<m){x y:α}(hx:l[m-1]? =some x)(hy:l[m]? =some y):
 compD (l.take (m+1))=if x=y then compD (l.take m) else compD (l.take m)++[y]:=by
 obtain ⟨e1,e2⟩:=take_two l m h0 hx hy
 rw [e1,e2,compD_snoc]
theorem comp_pos: ∀l:List α,l≠[]→compD l≠[]
 | [],h=>(h rfl).elim
 | [x],_=>by simp [compD]
 |x::y::r,_=>by
  have:=comp_pos (y::r) (by simp)
  simp only [compD]
  split
  ·exact this
  ·simp
structure CompI(l r:List α)(m k:Nat):Prop where
 len:r.length=l.length
 kl:(compD (l.take m)).length=k
 lt:k<m
 out:r.take k=compD (l.take m)
 rest: ∀i,m-1≤i→r[i]? =l[i]?
theorem CompI.start{l:List α}{m:Nat}{x:α}(h0:0<m)(hx:l[m-1]? =some x)(hy:l[m]? =some x)(hd:compD (l.take m)=l.take m):CompI l l (m+1) m:=by
 have hyl:m<l.length:=(List.getElem?_eq_some_iff.1 hy).1
 have e:=comp_step l m h0 hx hy
 rw [if_pos rfl,hd] at e
 exact ⟨rfl,by rw [e,List.length_take];omega,by omega,e.symm,fun _ _=>rfl⟩
theorem CompI.same{l r:List α}{m k:Nat}(c:CompI l r m k)(h0:0<m){x:α}(hx:l[m-1]? =some x)(hy:l[m]? =some x):CompI l r (m+1) k:=by
 have e:=comp_step l m h0 hx hy
 rw [if_pos rfl] at e
 exact ⟨c.len,by rw [e,c.kl],by have:=c.lt;omega,by rw [e,c.out],fun i hi=>c.rest i (by omega)⟩
theorem CompI.put{l r:List α}{m k:Nat}(c:CompI l r m k)(h0:0<m){x y:α}(hx:l[m-1]? =some x)(hy:l[m]? =some y)(hne:x≠y):CompI l (r.set k y) (m+1) (k+1):=by
 have hyl:m<l.length:=(List.getElem?_eq_some_iff.1 hy).1
 have e:=comp_step l m h0 hx hy
 rw [if_neg hne] at e
 have hk:=c.lt
 have hl:=c.len
 refine ⟨by simp [c.len],by rw [e,List.length_append,c.kl];rfl,by omega,?_,fun i hi=>?_⟩
 ·rw [e,List.take_add_one,List.take_set_of_le (Nat.le_refl _),c.out,List.getElem?_set_self (by omega)];rfl
 ·rw [List.getElem?_set_ne (by omega)];exact c.rest i (by omega)
theorem comp_dis{l:List α}{m:Nat}{x y:α}(h0:0<m)(hx:l[m-1]? =some x)(hy:l[m]? =some y)(hne:x≠y)(hd:compD (l.take m)=l.take m):compD (l.take (m+1))=l.take (m+1):=by
 rw [comp_step l m h0 hx hy,if_neg hne,hd,List.take_add_one,hy];rfl
end
end Go.Proofs.YtafcodjilcljeaaGreat
namespace Go.Proofs.YtafcodjilcljeaaGreat
open Go Go.Tp
structure RU where
 r:List EL
 w:List EL
 i:List Int
 o:List Int
def RU.add(a b:RU):RU:=⟨a.r++b.r,a.w++b.w,a.i++b.i,a.o++b.o⟩
def RU.nil:RU:=⟨[],[],[],[]⟩
def dimOf(vs:List KV)(v:Int):Int:=match vs[v.toNat]? with
 |some x=>x.dim
 |none=>0
def elemM(vs:List KV)(v:Int)(e:KE):EL:=if e.kind=1∧0≤e.n∧e.n<dimOf vs v then (v,e.n) else (v,-1)
def el1(vs:List KV)(v:Int):List KE→List EL
 |x::_=>[elemM vs v x]
 | []=>[]
def ownK(vs:List KV)(e:KE):List EL:=if e.kind=2 then [(e.v,0)] else if e.kind=3 then el1 vs e.v e.l else []
mutual
def rdK(vs:List KV):KE→List EL
 |⟨k,o,t,n,v,l⟩=>ownK vs ⟨k,o,t,n,v,l⟩++rdKl vs l
def rdKl(vs:List KV):List KE→List EL
 | []=>[]
 |e::r=>rdK vs e++rdKl vs r
end
def plE(vs:List KV)(p:PL):EL:=match p.ix with
 |x::_=>elemM vs p.v x
 | []=>(p.v,0)
def plU(vs:List KV)(p:PL):RU:=⟨rdKl vs p.ix,[plE vs p],[],[]⟩
def plsU(vs:List KV):List PL→RU
 | []=> .nil
 |p::r=>(plU vs p).add (plsU vs r)
def ownU(vs:List KV)(k c v:Int):RU:=
 if k=3 then ⟨[],[(v,if 0<dimOf vs v then-1 else 0)],[],[]⟩ else if k=5 then ⟨[],[],[c],[]⟩ else if k=6 then ⟨[],[],[],[c]⟩ else .nil
def gdU(vs:List KV)(k:Int)(e:KE)(c:Int)(to:PL)(t:KE):RU:=
 (RU.mk (rdK vs e) [] [] []).add (if k=4 then ⟨rdK vs t,[],[],[]⟩ else if k=3 then (RU.mk [] [] [c] []).add (plU vs to) else .nil)
mutual
def rawR(vs:List KV):PR→RU
 |⟨k,c,v,_,to,e,gs,l⟩=>(((ownU vs k c v).add (plsU vs to)).add ⟨rdKl vs e,[],[],[]⟩).add ((rawRl vs l).add (rawGl vs gs))
def rawRl(vs:List KV):List PR→RU
 | []=> .nil
 |p::r=>(rawR vs p).add (rawRl vs r)
def rawG(vs:List KV):GD→RU
 |⟨k,e,c,_,to,t,b⟩=>(gdU vs k e c to t).add (rawB vs b)
def rawGl(vs:List KV):List GD→RU
 | []=> .nil
 |g::r=>(rawG vs g).add (rawGl vs r)
def rawB(vs:List KV):List PR→RU
 | []=> .nil
 |p::_=>rawR vs p
end
def ltI(x y:Int):Bool:=decide (x<y)
def canE(l:List EL):List EL:=insAll ltE [] l
def canI(l:List Int):List Int:=insAll ltI [] l
def canU(u:RU):RU:=⟨canE u.r,canE u.w,canI u.i,canI u.o⟩
def usesM(vs:List KV)(p:PR):RU:=canU (rawR vs p)
def meetE(x y:EL):Bool:=decide (x.1=y.1)&&(decide (x.2=y.2)||decide (x.2<0)||decide (y.2<0))
def overM(a b:List EL):List EL:=a.flatMap fun x=>(b.filter (meetE x)).map fun y=>(x.1,max x.2 y.2)
def comM(a b:List Int):List Int:=a.filter fun x=>b.contains x
structure CL where
 path:List Int
 a:Int
 b:Int
 kind:Int
 el:EL
 c:Int
def betM(u v:RU)(path:List Int)(a b:Int):List CL:=
 ((canE (overM u.w v.w)).map fun x=>⟨path,a,b,1,x,0⟩)++((canE (overM u.w v.r++overM u.r v.w)).map fun x=>⟨path,a,b,2,x,0⟩)++
   ((comM u.i v.i).map fun x=>⟨path,a,b,3,(0,0),x⟩)++((comM u.o v.o).map fun x=>⟨path,a,b,4,(0,0),x⟩)
def bodsM:List GD→List PR
 | []=>[]
 |g::r=>(match g.body with|x::_=>[x]| []=>[])++bodsM r
mutual
def parsM(path:List Int):PR→List (List Int×PR)
 |⟨k,c,v,it,to,e,gs,l⟩=>(if k=10∨k=11 then [(path,⟨k,c,v,it,to,e,gs,l⟩)] else [])++(parsL path 0 l++parsG path l.length gs)
def parsL(path:List Int)(i:Nat):List PR→List (List Int×PR)
 | []=>[]
 |p::r=>parsM (path++[(i:Int)]) p++parsL path (i+1) r
def parsG(path:List Int)(i:Nat):List GD→List (List Int×PR)
 | []=>[]
 |⟨_,_,_,_,_,_,b⟩::r=>parsB (path++[(i:Int)]) b++parsG path (i+1) r
def parsB(path:List Int):List PR→List (List Int×PR)
 | []=>[]
 |p::_=>parsM path p
end
def rowM2(path:List Int)(u:RU)(a:Int):Int→List RU→List CL
 |_,[]=>[]
 |b,v::r=>betM u v path a b++rowM2 path u a (b+1) r
def pairsM(path:List Int):Int→List RU→List CL
 |_,[]=>[]
 |a,u::r=>rowM2 path u a (a+1) r++pairsM path (a+1) r
abbrev encE(x:EL):AV:= .ag [AI x.1,AI x.2]
theorem elSt(x y:EL):EqSt Tryz.prog 49 [.int .i64 x.1, .int .i64 x.2] [.int .i64 y.1, .int .i64 y.2] (decide (x=y)) where
 guard:=by kernel_rfl
 run:=fun w=>by
  obtain ⟨a,b⟩:=x
  obtain ⟨c,d⟩:=y
  have hS:Tryz.prog.underlying 49=some (.struct (Tryz.prog.fieldsOf 49)):=by kernel_rfl
  have hF:(Tryz.prog.fieldsOf 49).toList=(#[⟨"V",3,0,false, "", "",0⟩,⟨"I",3,1,false, "", "",8⟩]:Array Field).toList:=by kernel_rfl
  have hp:Tryz.prog.stoodInHeld 49=false:=by kernel_rfl
  have u1:Tryz.prog.underlying 3=some (.int .i64):=by kernel_rfl
  have k1:=TT.Ok.get tt_ok (show tt.get 3=some _ from rfl)
  have p1: ∀(x y:Int),(part 3 ⟨[.int .i64 x, .int .i64 y]⟩ 0).run Tryz.prog w= .ok (.int .i64 x) w:=fun x y=>run_part k1 rfl
  have p2: ∀(x y:Int),(part 3 ⟨[.int .i64 x, .int .i64 y]⟩ 1).run Tryz.prog w= .ok (.int .i64 y) w:=fun x y=>run_part k1 rfl
  have q1:=run_equalIn_int (P:=Tryz.prog) w 9998 3 .i64 .i64 a c u1
  have q2:=run_equalIn_int (P:=Tryz.prog) w 9998 3 .i64 .i64 b d u1
  rw [show (10000:Nat)=9999+1 from rfl,run_equalIn_agg w 9999 _ _ _ hS hp,hF]
  simp only [Op.eqFields,ne_eq,Sem.run_bind,Sem.run_ite,p1,p2,q1,q2,Result.andThen_ok,Sem.run_pure]
  have hd:decide ((a,b)=(c,d))=(a==c&&b==d):=by
   simp only [Prod.mk.injEq]
   cases h1:(a==c)<;>cases h2:(b==d)<;>simp_all
  rw [hd]
  cases h1:(a==c)<;>cases h2:(b==d)<;>simp
def cmpI(x y:Int):Int:=if x<y then-1 else if y<x then 1 else 0
theorem isNaN_p(x:Int):Pure Tryz.prog gs0 93 [AI x] (AB false):=by
 refine p_ tt_ok Tryz.func93 6 fun w0 h0 F hgs=>?_
 refine y_ ?_
 refine R_ ?_
 refine Sb.eq (ab_eq ?_)
 simp
theorem cmp_p(x y:Int):Pure Tryz.prog gs0 64 [AI x,AI y] (AI (cmpI x y)):=by
 have h1:=isNaN_p x
 have h2:=isNaN_p y
 refine Exists.elim (show∃R,R=cmpI x y from ⟨_,rfl⟩) fun R hR=>?_
 rw [←hR]
 unfold cmpI at hR
 refine p_ tt_ok Tryz.func64 20 fun w0 h0 F hgs=>?_
 refine y_ ?_
 refine c_ h1 ?_
 refine n_ h2 ?_
 (repeat' first|refine A.s rfl ?_|refine A.r rfl rfl ?_|refine A.w rfl rfl ?_|refine A.p rfl ?_|refine A.b rfl fun bx=>?_|refine A.t rfl fun bl=>?_|((fail_if_success (refine A.lit? rfl ?_));refine A.gS rfl (fun hc=>?_) (fun hc=>?_))|((fail_if_success (refine A.litP? rfl ?_));refine A.gSP rfl (fun hc=>?_) (fun hc=>?_)))
 all_goals (refine R_ ?_;refine Sb.eq (ai_eq ?_);rw [hR];simp at*;omega)
def orI(x y:Int):Int:=if x=0 then y else x
theorem or_p(x y:Int):Pure Tryz.prog gs0 90 [.sl 1 [AI x,AI y] none] (AI (orI x y)):=by
 refine Exists.elim (show∃R,R=orI x y from ⟨_,rfl⟩) fun R hR=>?_
 rw [←hR]
 unfold orI at hR
 refine p_ tt_ok Tryz.func90 18 fun w0 h0 F hgs=>?_
 refine y_ ?_
 refine A.loop1 ?_
 refine y_ ?_
 refine i_ rfl rfl rfl ?_
 refine k_ (fun hc=>?_) fun hc=>?_
 ·refine y_ ?_
  refine R_ ?_
  refine Sb.eq (ai_eq ?_)
  rw [hR];simp at hc;rw [if_neg hc]
 have hx:x=0:=by simpa using hc
 rw [if_pos hx] at hR
 clear hc
 refine y_ ?_
 refine A.again ?_
 refine y_ ?_
 refine i_ rfl rfl rfl ?_
 refine k_ (fun hc=>?_) fun hc=>?_
 ·refine y_ ?_
  refine R_ ?_
  rw [hR]
  exact .refl
 have hy:y=0:=by simpa using hc
 clear hc
 refine y_ ?_
 refine A.again ?_
 refine y_ ?_
 refine R_ ?_
 rw [hR,hy]
 exact .refl
def cmpE(x y:EL):Int:=orI (cmpI x.1 y.1) (cmpI x.2 y.2)
theorem byElem_p(x y:EL):Pure Tryz.prog gs0 62 [encE x,encE y] (AI (cmpE x y)):=by
 have h1:=cmp_p x.1 y.1
 have h2:=cmp_p x.2 y.2
 have h3:=or_p (cmpI x.1 y.1) (cmpI x.2 y.2)
 refine p_ tt_ok Tryz.func62 17 fun w0 h0 F hgs=>?_
 (refine b_ fun bx=>?_;refine b_ fun bx=>?_;refine y_ ?_)
 refine d_ 9 [0,1,2,3,5,6,7,8,4] [(4,AI (cmpI x.1 y.1))] ?_
 refine WA.c rfl rfl h1 (.sub .refl) ?_
 refine WA.nil (l:=[]) rfl ?_
 refine n_ h2 ?_
 refine t_ fun bl=>?_
 exact cr_ h3
theorem compE_0(z:Value)(n:Nat):Fun Tryz.prog gs0 89 [.ms z 2 n] [.row 2 z []] fun y Λ'=> ∃z':Value,Sb y (.ms z' 2 0)∧Λ'=[.row 2 z' []]∧True:=by
 by_cases hn:n=0
 ·subst hn
  refine Fun.of (S:=tt) (fn:=Tryz.f89) (n:=61) tt_ok Tryz.func89 rfl rfl rfl rfl fun w0 h0 F hgs=>?_
  refine y_ ?_
  refine A.ret1 (Λ':=[.row 2 _ _]) rfl rfl rfl sl_ ⟨_, .refl,rfl,trivial⟩
 ·intro w0 h vs L F g r q
  exfalso
  rw [RpC_cons] at r
  obtain ⟨u,us,rfl,r1,r2⟩:=r
  rw [Rp_ms] at r1
  obtain ⟨rfl,a',cap',rfl⟩:=r1
  obtain ⟨M,L2,rfl,⟨p,⟨a,cap,zs,e1,e2,e3,e4,e5⟩,rfl⟩,q2⟩:=q
  injection e1 with e1 e1' e1''
  exact hn e1'
theorem compE_p(z:Value)(n:Nat)(l:List EL)(hb:l.length≤1099511627776):FunE Tryz.prog gs0 89 [.ms z 2 n] [.row 2 z (l.map encE)] (fun z':Value=> .ms z' 2 (compD l).length) (fun z'=>[.row 2 z' ((compD l).map encE)]) (fun _=>True):=by
 unfold FunE
 cases l with
 |nil=>exact compE_0 z n
 |cons x0 l0=>
 generalize hl:x0::l0=l at hb⊢
 have hne:l.map encE≠[]:=by rw [←hl];simp
 refine Fun.row1 hne fun b o c hcap=>?_
 rw [List.length_map] at hcap⊢
 have hlm:((l.map encE).length:Int)=l.length:=by rw [List.length_map]
 have hlmN:(l.map encE).length=l.length:=List.length_map ..
 by_cases h2:l.length<2
 ·have hd:compD l=l:=by
   rw [←hl] at h2⊢
   cases l0 with
   |nil=>rfl
   |cons y r=>simp only [List.length_cons] at h2;omega
  rw [hd]
  refine Fun.of (S:=tt) (fn:=Tryz.f89) (n:=61) tt_ok Tryz.func89 rfl rfl rfl rfl fun w0 h0 F hgs=>?_
  refine y_ ?_
  refine e_ 8 rfl (x':=AB true) (ab_eq (decide_eq_true (by omega))) ?_
  refine A.ret1 (Λ':=[.row 2 _ _]) rfl rfl rfl sl_ ⟨_, .refl,rfl,trivial⟩
 refine Fun.of (S:=tt) (fn:=Tryz.f89) (n:=61) tt_ok Tryz.func89 rfl rfl rfl rfl fun w0 h0 F hgs=>?_
 refine y_ ?_
 refine e_ 8 rfl (x':=AB false) (ab_eq (decide_eq_false (by omega))) ?_
 refine A.keep [0,3] rfl ?_
 refine A.loopP (ι:=Nat) (fun i=>(⟨[(0, .ms (.slice (some ⟨b,o,none⟩) l.length c) 2 l.length),(3,AI (i:Nat))],[]⟩,[.row 2 (.slice (some ⟨b,o,none⟩) l.length c) (l.map encE)])) (fun i=>1≤i∧i≤l.length∧compD (l.take i)=l.take i) (fun i=>l.length-i) 1 ⟨Nat.le_refl _,by omega,?_⟩ rfl fun i hi ih=>?_
 ·rw [←hl];rfl
 obtain ⟨hi1,hi2,hi3⟩:=hi
 refine y_ ?_
 refine k_ (fun hc=>?_) fun hc=>?_
 case refine_2.refine_2=>
  have hc':i=l.length:=by have: ¬((i:Int)<l.length):=by simpa using hc
                          omega
  rw [hc',List.take_length] at hi3
  rw [hi3]
  refine y_ ?_
  refine A.ret1 (Λ':=[.row 2 _ _]) rfl rfl rfl sl_ ⟨_, .refl,rfl,trivial⟩
 have hc':i<l.length:=by have:((i:Int)<l.length):=by simpa using hc
                         omega
 clear hc
 refine Exists.elim (at_exN (l:=l) (i:=i) hc') fun y hy=>?_
 refine Exists.elim (at_exN (l:=l) (i:=i-1) (by omega)) fun x hx=>?_
 have hsub:IntKind.i64.wrap ((i:Int)-1)=((i-1:Nat):Int):=by rw [w64_id (by unfold i64;omega)];omega
 refine y_ ?_
 refine d_ 9 [0,1,2,3,4,5,6,7,8] [] ?_
 refine WA.indexRow rfl rfl rfl rfl rfl rfl rfl rfl rfl (by omega) (by rw [List.length_map];omega) rfl ?_
 refine WA.loadRow rfl rfl rfl rfl rfl rfl rfl (y':=encE y) rfl (map_at hy) rfl rfl ?_
 refine w_ ?_
 refine WA.valE 22 rfl (x':=AI ((i-1:Nat):Int)) (ai_eq hsub) ?_
 refine WA.indexRow rfl rfl rfl rfl rfl rfl rfl rfl rfl (by omega) (by rw [List.length_map];omega) rfl ?_
 refine WA.loadRow rfl rfl rfl rfl rfl rfl rfl (y':=encE x) rfl (map_at hx) rfl rfl ?_
 refine WA.nil (l:=[]) rfl ?_
 refine A.eqSt rfl rfl rfl rfl rfl rfl rfl rfl (elSt y x) ?_
 refine y_ ?_
 refine k_ (fun hc=>?_) fun hc=>?_
 case refine_2=>
  have hne':x≠y:=by intro e;subst e;simp [eqV] at hc
  clear hc
  refine y_ ?_
  refine A.valE 3 rfl (x':=AI ((i+1:Nat):Int)) (inc_eq i (by omega)) ?_
  refine u_ (ih (i+1) ⟨by omega,by omega,comp_dis (by omega) hx hy hne' hi3⟩ (by omega))
 have he:y=x:=by simpa [eqV] using hc
 subst he
 clear hc ih
 refine y_ ?_
 refine A.msV 26 rfl rfl ?_
 refine A.sliceV rfl rfl rfl rfl rfl rfl rfl rfl (by omega) (by omega) (by omega) (fun _=>hcap) rfl rfl ?_
 refine y_ ?_
 refine A.valE 4 rfl (x':= .v (.slice (some ⟨b,o+i*2,none⟩) (l.length-i) (c-i))) (congrArg AV.v (by simp only [partV];rw [Int.toNat_natCast,Int.toNat_natCast,if_neg (by omega)];simp only [Option.map_some];rw [add_norm];rfl)) ?_
 refine A.keep [0,3,4,5] rfl ?_
 refine A.loopP (ι:=Nat×Nat×List EL) (fun j=>(⟨[(0, .ms (.slice (some ⟨b,o,none⟩) l.length c) 2 l.length),(3,AI (j.2.1:Nat)),(4, .v (.slice (some ⟨b,o+i*2,none⟩) (l.length-i) (c-i))),(5,AI (j.1:Nat))],[]⟩,[.row 2 (.slice (some ⟨b,o,none⟩) l.length c) (j.2.2.map encE)])) (fun j=>1≤j.1∧i+j.1≤l.length∧CompI l j.2.2 (i+j.1) j.2.1) (fun j=>l.length-j.1) (1,i,l) ⟨Nat.le_refl _,by show i+1≤_;omega, .start (by omega) hx hy hi3⟩ rfl fun j hj ih=>?_
 obtain ⟨m,k,r⟩:=j
 obtain ⟨hj1,hj2,hj3⟩:=hj
 simp only at hj1 hj2 hj3 ih⊢
 have hrl:=hj3.len
 have hkm:=hj3.lt
 have hlr:((r.map encE).length:Int)=l.length:=by rw [List.length_map,hrl]
 refine y_ ?_
 refine k_ (fun hc=>?_) fun hc=>?_
 case refine_2=>
  have hc':i+m=l.length:=by have: ¬((m:Int)<((l.length-i:Nat):Int)):=by simpa using hc
                            omega
  clear hc ih
  rw [hc'] at hj3
  have hout:=hj3.out
  rw [List.take_length] at hout
  have hkl:=hj3.kl
  rw [List.take_length] at hkl
  have hk0:0<k:=by
   rcases Nat.eq_zero_or_pos k with h|h
   ·exact (comp_pos l (by intro e;rw [e] at hc';simp at hc';omega) (List.eq_nil_of_length_eq_zero (hkl.trans h))).elim
   ·exact h
  refine y_ ?_
  refine A.msV 54 rfl rfl ?_
  refine A.sliceV rfl rfl rfl rfl rfl rfl rfl rfl (by omega) (by omega) (by omega) (fun _=>hcap) rfl rfl ?_
  refine A.valE 56 rfl (x':= .v (.slice (some ⟨b,o+k*2,none⟩) (l.length-k) (c-k))) (congrArg AV.v (by simp only [partV];rw [Int.toNat_natCast,Int.toNat_natCast,if_neg (by omega)];simp only [Option.map_some];rw [add_norm];rfl)) ?_
  refine A.clearRow (off:=o) (n:=l.length) (c:=c) k rfl rfl rfl rfl rfl rfl (xs':=(compD l).map encE++List.replicate (l.length-k) (encE (0,0))) rfl rfl rfl (by rw [List.length_map];omega) (by omega) rfl (fun h=>⟨.agg ⟨[.int .i64 0, .int .i64 0]⟩,Rp_ag.2 ⟨_,rfl,RpC_cons.2 ⟨_,_,rfl,Rp_v.2 ⟨rfl,rfl⟩,RpC_cons.2 ⟨_,_,rfl,Rp_v.2 ⟨rfl,rfl⟩,RpC_nil.2 rfl⟩⟩⟩,rfl⟩) (by rw [←List.map_take,hout]) rfl ?_
  refine y_ ?_
  refine A.msV 57 rfl rfl ?_
  refine A.sliceV rfl rfl rfl rfl rfl rfl rfl rfl (by decide) (by omega) (by omega) (fun h=>by cases h) rfl rfl ?_
  refine A.valE 59 rfl (x':= .v (.slice (some ⟨b,o,none⟩) k c)) (congrArg AV.v (by simp only [partV];rw [Int.toNat_natCast];simp [add_norm])) ?_
  refine A.vMs 59 2 rfl ?_
  refine A.rowCut (sz:=2) (a:=some ⟨b,o,none⟩) (n:=l.length) (c:=c) k (l1:=(compD l).map encE) (l2:=List.replicate (l.length-k) (encE (0,0))) rfl (by rw [List.length_map,hkl]) (by simp [comp_pos l (by intro e;rw [e] at hc';simp at hc';omega)]) ?_
  refine y_ ?_
  rw [hkl]
  refine A.ret1 (Λ':=[.row 2 _ _]) rfl rfl rfl sl_ ⟨_, .refl,rfl,trivial⟩
 have hc':i+m<l.length:=by have:((m:Int)<((l.length-i:Nat):Int)):=by simpa using hc
                           omega
 clear hc
 refine Exists.elim (at_exN (l:=l) (i:=i+m) hc') fun v hv=>?_
 refine Exists.elim (at_exN (l:=l) (i:=i+m-1) (by omega)) fun u hu=>?_
 have hrv:r[i+m]? =some v:=(hj3.rest _ (by omega)).trans hv
 have hru:r[i+(m-1)]? =some u:=by rw [show i+(m-1)=i+m-1 by omega];exact (hj3.rest _ (by omega)).trans hu
 have hsub':IntKind.i64.wrap ((m:Int)-1)=((m-1:Nat):Int):=by rw [w64_id (by unfold i64;omega)];omega
 refine y_ ?_
 refine d_ 9 [0,1,2,3,4,5,6,7,8] [] ?_
 refine WA.indexPart (off:=o) (n:=l.length) (c:=c) i rfl rfl rfl rfl rfl rfl rfl rfl rfl rfl (by omega) (by omega) (by omega) rfl ?_
 refine WA.loadRow rfl rfl rfl rfl rfl rfl rfl (y':=encE v) rfl (map_at hrv) rfl rfl ?_
 refine w_ ?_
 refine WA.valE 41 rfl (x':=AI ((m-1:Nat):Int)) (ai_eq hsub') ?_
 refine WA.indexPart (off:=o) (n:=l.length) (c:=c) i rfl rfl rfl rfl rfl rfl rfl rfl rfl rfl (by omega) (by omega) (by omega) rfl ?_
 refine WA.loadRow rfl rfl rfl rfl rfl rfl rfl (y':=encE u) rfl (map_at hru) rfl rfl ?_
 refine WA.nil (l:=[]) rfl ?_
 refine A.eqSt rfl rfl rfl rfl rfl rfl rfl rfl (elSt v u) ?_
 refine y_ ?_
 refine k_ (fun hc=>?_) fun hc=>?_
 case refine_2=>
  have he':v=u:=by simpa [eqV] using hc
  subst he'
  clear hc
  refine y_ ?_
  refine A.valE 5 rfl (x':=AI ((m+1:Nat):Int)) (inc_eq m (by omega)) ?_
  refine u_ (ih (m+1,k,r) ⟨by omega,by show i+(m+1)≤_;omega,by show CompI l r (i+(m+1)) k;exact hj3.same (by omega) hu hv⟩ (by show l.length-(m+1)<l.length-m;omega))
 have hne':u≠v:=by intro e;subst e;simp [eqV] at hc
 clear hc
 refine y_ ?_
 refine A.indexPart (off:=o) (n:=l.length) (c:=c) i rfl rfl rfl rfl rfl rfl rfl rfl rfl (by omega) (by omega) (by omega) rfl ?_
 refine A.loadRow rfl rfl rfl rfl rfl rfl (y':=encE v) rfl (map_at hrv) rfl rfl ?_
 refine A.indexRow rfl rfl rfl rfl rfl rfl rfl rfl (by omega) (by rw [List.length_map];omega) rfl ?_
 refine A.storeRow rfl rfl rfl rfl rfl rfl rfl rfl rfl (by rw [List.length_map];omega) (xs':=(r.set k v).map encE) List.map_set.symm ?_
 refine y_ ?_
 refine A.valE 3 rfl (x':=AI ((k+1:Nat):Int)) (inc_eq k (by omega)) ?_
 refine A.valE 5 rfl (x':=AI ((m+1:Nat):Int)) (inc_eq m (by omega)) ?_
 refine u_ (ih (m+1,k+1,r.set k v) ⟨by omega,by show i+(m+1)≤_;omega,by show CompI l (r.set k v) (i+(m+1)) (k+1);exact hj3.put (by omega) hu hv hne'⟩ (by show l.length-(m+1)<l.length-m;omega))
theorem compI_0(z:Value)(n:Nat):Fun Tryz.prog gs0 92 [.ms z 1 n] [.row 1 z []] fun y Λ'=> ∃z':Value,Sb y (.ms z' 1 0)∧Λ'=[.row 1 z' []]∧True:=by
 by_cases hn:n=0
 ·subst hn
  refine Fun.of (S:=tt) (fn:=Tryz.f92) (n:=61) tt_ok Tryz.func92 rfl rfl rfl rfl fun w0 h0 F hgs=>?_
  refine y_ ?_
  refine A.ret1 (Λ':=[.row 1 _ _]) rfl rfl rfl sl_ ⟨_, .refl,rfl,trivial⟩
 ·intro w0 h vs L F g r q
  exfalso
  rw [RpC_cons] at r
  obtain ⟨u,us,rfl,r1,r2⟩:=r
  rw [Rp_ms] at r1
  obtain ⟨rfl,a',cap',rfl⟩:=r1
  obtain ⟨M,L2,rfl,⟨p,⟨a,cap,zs,e1,e2,e3,e4,e5⟩,rfl⟩,q2⟩:=q
  injection e1 with e1 e1' e1''
  exact hn e1'
theorem compI_p(z:Value)(n:Nat)(l:List Int)(hb:l.length≤1099511627776):FunE Tryz.prog gs0 92 [.ms z 1 n] [.row 1 z (l.map AI)] (fun z':Value=> .ms z' 1 (compD l).length) (fun z'=>[.row 1 z' ((compD l).map AI)]) (fun _=>True):=by
 unfold FunE
 cases l with
 |nil=>exact compI_0 z n
 |cons x0 l0=>
 generalize hl:x0::l0=l at hb⊢
 have hne:l.map AI≠[]:=by rw [←hl];simp
 refine Fun.row1 hne fun b o c hcap=>?_
 rw [List.length_map] at hcap⊢
 have hlm:((l.map AI).length:Int)=l.length:=by rw [List.length_map]
 have hlmN:(l.map AI).length=l.length:=List.length_map ..
 by_cases h2:l.length<2
 ·have hd:compD l=l:=by
   rw [←hl] at h2⊢
   cases l0 with
   |nil=>rfl
   |cons y r=>simp only [List.length_cons] at h2;omega
  rw [hd]
  refine Fun.of (S:=tt) (fn:=Tryz.f92) (n:=61) tt_ok Tryz.func92 rfl rfl rfl rfl fun w0 h0 F hgs=>?_
  refine y_ ?_
  refine e_ 8 rfl (x':=AB true) (ab_eq (decide_eq_true (by omega))) ?_
  refine A.ret1 (Λ':=[.row 1 _ _]) rfl rfl rfl sl_ ⟨_, .refl,rfl,trivial⟩
 refine Fun.of (S:=tt) (fn:=Tryz.f92) (n:=61) tt_ok Tryz.func92 rfl rfl rfl rfl fun w0 h0 F hgs=>?_
 refine y_ ?_
 refine e_ 8 rfl (x':=AB false) (ab_eq (decide_eq_false (by omega))) ?_
 refine A.keep [0,3] rfl ?_
 refine A.loopP (ι:=Nat) (fun i=>(⟨[(0, .ms (.slice (some ⟨b,o,none⟩) l.length c) 1 l.length),(3,AI (i:Nat))],[]⟩,[.row 1 (.slice (some ⟨b,o,none⟩) l.length c) (l.map AI)])) (fun i=>1≤i∧i≤l.length∧compD (l.take i)=l.take i) (fun i=>l.length-i) 1 ⟨Nat.le_refl _,by omega,?_⟩ rfl fun i hi ih=>?_
 ·rw [←hl];rfl
 obtain ⟨hi1,hi2,hi3⟩:=hi
 refine y_ ?_
 refine k_ (fun hc=>?_) fun hc=>?_
 case refine_2.refine_2=>
  have hc':i=l.length:=by have: ¬((i:Int)<l.length):=by simpa using hc
                          omega
  rw [hc',List.take_length] at hi3
  rw [hi3]
  refine y_ ?_
  refine A.ret1 (Λ':=[.row 1 _ _]) rfl rfl rfl sl_ ⟨_, .refl,rfl,trivial⟩
 have hc':i<l.length:=by have:((i:Int)<l.length):=by simpa using hc
                         omega
 clear hc
 refine Exists.elim (at_exN (l:=l) (i:=i) hc') fun y hy=>?_
 refine Exists.elim (at_exN (l:=l) (i:=i-1) (by omega)) fun x hx=>?_
 have hsub:IntKind.i64.wrap ((i:Int)-1)=((i-1:Nat):Int):=by rw [w64_id (by unfold i64;omega)];omega
 refine y_ ?_
 refine d_ 9 [0,1,2,3,4,5,6,7,8] [] ?_
 refine WA.indexRow rfl rfl rfl rfl rfl rfl rfl rfl rfl (by omega) (by rw [List.length_map];omega) rfl ?_
 refine WA.loadRow rfl rfl rfl rfl rfl rfl rfl (y':=AI y) rfl (map_at hy) rfl rfl ?_
 refine w_ ?_
 refine WA.valE 22 rfl (x':=AI ((i-1:Nat):Int)) (ai_eq hsub) ?_
 refine WA.indexRow rfl rfl rfl rfl rfl rfl rfl rfl rfl (by omega) (by rw [List.length_map];omega) rfl ?_
 refine WA.loadRow rfl rfl rfl rfl rfl rfl rfl (y':=AI x) rfl (map_at hx) rfl rfl ?_
 refine WA.nil (l:=[]) rfl ?_
 refine y_ ?_
 refine k_ (fun hc=>?_) fun hc=>?_
 case refine_2=>
  have hne':x≠y:=by intro e;subst e;simp at hc
  clear hc
  refine y_ ?_
  refine A.valE 3 rfl (x':=AI ((i+1:Nat):Int)) (inc_eq i (by omega)) ?_
  refine u_ (ih (i+1) ⟨by omega,by omega,comp_dis (by omega) hx hy hne' hi3⟩ (by omega))
 have he:y=x:=by simpa using hc
 subst he
 clear hc ih
 refine y_ ?_
 refine A.msV 26 rfl rfl ?_
 refine A.sliceV rfl rfl rfl rfl rfl rfl rfl rfl (by omega) (by omega) (by omega) (fun _=>hcap) rfl rfl ?_
 refine y_ ?_
 refine A.valE 4 rfl (x':= .v (.slice (some ⟨b,o+i*1,none⟩) (l.length-i) (c-i))) (congrArg AV.v (by simp only [partV];rw [Int.toNat_natCast,Int.toNat_natCast,if_neg (by omega)];simp only [Option.map_some];rw [add_norm];rfl)) ?_
 refine A.keep [0,3,4,5] rfl ?_
 refine A.loopP (ι:=Nat×Nat×List Int) (fun j=>(⟨[(0, .ms (.slice (some ⟨b,o,none⟩) l.length c) 1 l.length),(3,AI (j.2.1:Nat)),(4, .v (.slice (some ⟨b,o+i*1,none⟩) (l.length-i) (c-i))),(5,AI (j.1:Nat))],[]⟩,[.row 1 (.slice (some ⟨b,o,none⟩) l.length c) (j.2.2.map AI)])) (fun j=>1≤j.1∧i+j.1≤l.length∧CompI l j.2.2 (i+j.1) j.2.1) (fun j=>l.length-j.1) (1,i,l) ⟨Nat.le_refl _,by show i+1≤_;omega, .start (by omega) hx hy hi3⟩ rfl fun j hj ih=>?_
 obtain ⟨m,k,r⟩:=j
 obtain ⟨hj1,hj2,hj3⟩:=hj
 simp only at hj1 hj2 hj3 ih⊢
 have hrl:=hj3.len
 have hkm:=hj3.lt
 have hlr:((r.map AI).length:Int)=l.length:=by rw [List.length_map,hrl]
 refine y_ ?_
 refine k_ (fun hc=>?_) fun hc=>?_
 case refine_2=>
  have hc':i+m=l.length:=by have: ¬((m:Int)<((l.length-i:Nat):Int)):=by simpa using hc
                            omega
  clear hc ih
  rw [hc'] at hj3
  have hout:=hj3.out
  rw [List.take_length] at hout
  have hkl:=hj3.kl
  rw [List.take_length] at hkl
  have hk0:0<k:=by
   rcases Nat.eq_zero_or_pos k with h|h
   ·exact (comp_pos l (by intro e;rw [e] at hc';simp at hc';omega) (List.eq_nil_of_length_eq_zero (hkl.trans h))).elim
   ·exact h
  refine y_ ?_
  refine A.msV 54 rfl rfl ?_
  refine A.sliceV rfl rfl rfl rfl rfl rfl rfl rfl (by omega) (by omega) (by omega) (fun _=>hcap) rfl rfl ?_
  refine A.valE 56 rfl (x':= .v (.slice (some ⟨b,o+k*1,none⟩) (l.length-k) (c-k))) (congrArg AV.v (by simp only [partV];rw [Int.toNat_natCast,Int.toNat_natCast,if_neg (by omega)];simp only [Option.map_some];rw [add_norm];rfl)) ?_
  refine A.clearRow (off:=o) (n:=l.length) (c:=c) k rfl rfl rfl rfl rfl rfl (xs':=(compD l).map AI++List.replicate (l.length-k) (AI 0)) rfl rfl rfl (by rw [List.length_map];omega) (by omega) rfl (fun h=>⟨.int .i64 0,Rp_v.2 ⟨rfl,rfl⟩,rfl⟩) (by rw [←List.map_take,hout]) rfl ?_
  refine y_ ?_
  refine A.msV 57 rfl rfl ?_
  refine A.sliceV rfl rfl rfl rfl rfl rfl rfl rfl (by decide) (by omega) (by omega) (fun h=>by cases h) rfl rfl ?_
  refine A.valE 59 rfl (x':= .v (.slice (some ⟨b,o,none⟩) k c)) (congrArg AV.v (by simp only [partV];rw [Int.toNat_natCast];simp [add_norm])) ?_
  refine A.vMs 59 1 rfl ?_
  refine A.rowCut (sz:=1) (a:=some ⟨b,o,none⟩) (n:=l.length) (c:=c) k (l1:=(compD l).map AI) (l2:=List.replicate (l.length-k) (AI 0)) rfl (by rw [List.length_map,hkl]) (by simp [comp_pos l (by intro e;rw [e] at hc';simp at hc';omega)]) ?_
  refine y_ ?_
  rw [hkl]
  refine A.ret1 (Λ':=[.row 1 _ _]) rfl rfl rfl sl_ ⟨_, .refl,rfl,trivial⟩
 have hc':i+m<l.length:=by have:((m:Int)<((l.length-i:Nat):Int)):=by simpa using hc
                           omega
 clear hc
 refine Exists.elim (at_exN (l:=l) (i:=i+m) hc') fun v hv=>?_
 refine Exists.elim (at_exN (l:=l) (i:=i+m-1) (by omega)) fun u hu=>?_
 have hrv:r[i+m]? =some v:=(hj3.rest _ (by omega)).trans hv
 have hru:r[i+(m-1)]? =some u:=by rw [show i+(m-1)=i+m-1 by omega];exact (hj3.rest _ (by omega)).trans hu
 have hsub':IntKind.i64.wrap ((m:Int)-1)=((m-1:Nat):Int):=by rw [w64_id (by unfold i64;omega)];omega
 refine y_ ?_
 refine d_ 9 [0,1,2,3,4,5,6,7,8] [] ?_
 refine WA.indexPart (off:=o) (n:=l.length) (c:=c) i rfl rfl rfl rfl rfl rfl rfl rfl rfl rfl (by omega) (by omega) (by omega) rfl ?_
 refine WA.loadRow rfl rfl rfl rfl rfl rfl rfl (y':=AI v) rfl (map_at hrv) rfl rfl ?_
 refine w_ ?_
 refine WA.valE 41 rfl (x':=AI ((m-1:Nat):Int)) (ai_eq hsub') ?_
 refine WA.indexPart (off:=o) (n:=l.length) (c:=c) i rfl rfl rfl rfl rfl rfl rfl rfl rfl rfl (by omega) (by omega) (by omega) rfl ?_
 refine WA.loadRow rfl rfl rfl rfl rfl rfl rfl (y':=AI u) rfl (map_at hru) rfl rfl ?_
 refine WA.nil (l:=[]) rfl ?_
 refine y_ ?_
 refine k_ (fun hc=>?_) fun hc=>?_
 case refine_2=>
  have he':v=u:=by simpa using hc
  subst he'
  clear hc
  refine y_ ?_
  refine A.valE 5 rfl (x':=AI ((m+1:Nat):Int)) (inc_eq m (by omega)) ?_
  refine u_ (ih (m+1,k,r) ⟨by omega,by show i+(m+1)≤_;omega,by show CompI l r (i+(m+1)) k;exact hj3.same (by omega) hu hv⟩ (by show l.length-(m+1)<l.length-m;omega))
 have hne':u≠v:=by intro e;subst e;simp at hc
 clear hc
 refine y_ ?_
 refine A.indexPart (off:=o) (n:=l.length) (c:=c) i rfl rfl rfl rfl rfl rfl rfl rfl rfl (by omega) (by omega) (by omega) rfl ?_
 refine A.loadRow rfl rfl rfl rfl rfl rfl (y':=AI v) rfl (map_at hrv) rfl rfl ?_
 refine A.indexRow rfl rfl rfl rfl rfl rfl rfl rfl (by omega) (by rw [List.length_map];omega) rfl ?_
 refine A.storeRow rfl rfl rfl rfl rfl rfl rfl rfl rfl (by rw [List.length_map];omega) (xs':=(r.set k v).map AI) List.map_set.symm ?_
 refine y_ ?_
 refine A.valE 3 rfl (x':=AI ((k+1:Nat):Int)) (inc_eq k (by omega)) ?_
 refine A.valE 5 rfl (x':=AI ((m+1:Nat):Int)) (inc_eq m (by omega)) ?_
 refine u_ (ih (m+1,k+1,r.set k v) ⟨by omega,by show i+(m+1)≤_;omega,by show CompI l (r.set k v) (i+(m+1)) (k+1);exact hj3.put (by omega) hu hv hne'⟩ (by show l.length-(m+1)<l.length-m;omega))
end Go.Proofs.YtafcodjilcljeaaGreat
namespace Go.Tp
open Go Go.RowKit
theorem flat_at{k:Nat}(hk:0<k): ∀(zs:List Value) (hz: ∀z,z∈zs→(cellsL z).length=k) (j:Nat),j<zs.length*k→(catL zs)[j]? =(zs[j / k]?).bind fun z=>(cellsL z)[j % k]?
 | [],_,j,hj=>by simp at hj
 |z::zs,hz,j,hj=>by
  have h0:=hz z (List.mem_cons_self ..)
  show (cellsL z++catL zs)[j]? =_
  rcases Nat.lt_or_ge j k with h|h
  ·rw [List.getElem?_append_left (by omega),Nat.div_eq_of_lt h,Nat.mod_eq_of_lt h];rfl
  ·rw [List.getElem?_append_right (by omega),h0,flat_at hk zs (fun z hz'=>hz z (List.mem_cons_of_mem _ hz')) (j-k) (by simp only [List.length_cons,Nat.succ_mul] at hj;omega)]
   have e1:j / k=(j-k) / k+1:=by rw [Nat.div_eq j k,if_pos ⟨hk,h⟩]
   have e2:j % k=(j-k) % k:=by rw [Nat.mod_eq_sub_mod h]
   rw [e1,e2,List.getElem?_cons_succ]
def atW{α:Type}(l:List α)(h:0<l.length)(i:Nat):α:=l[i % l.length]'(Nat.mod_lt _ h)
theorem atW_lt{α:Type}{l:List α}(h:0<l.length){i:Nat}(hi:i<l.length):l[i]? =some (atW l h i):=by
 unfold atW
 have:i % l.length=i:=Nat.mod_eq_of_lt hi
 simp [this,hi]
theorem atW_mem{α:Type}{l:List α}(h:0<l.length)(i:Nat):atW l h i∈l:=List.getElem_mem ..
theorem map_atW{α:Type}{l:List α}(h:0<l.length):(List.range l.length).map (atW l h)=l:=by
 apply List.ext_getElem?
 intro i
 rcases Nat.lt_or_ge i l.length with hi|hi
 ·rw [List.getElem?_map,List.getElem?_range hi,Option.map_some,atW_lt h hi]
 ·rw [List.getElem?_eq_none (by simpa using hi),List.getElem?_eq_none hi]
theorem RpC.atW{h:GH}{l:List AV}{zs:List Value}(r:RpC h l zs)(h1:0<l.length)(h2:0<zs.length)(i:Nat):Rp h (atW l h1 i) (atW zs h2 i):=by
 have hl:=r.len
 obtain ⟨v,e,q⟩:=r.at (i:=i % l.length) (x:=Go.Tp.atW l h1 i) (by simp [Go.Tp.atW])
 have:Go.Tp.atW zs h2 i=v:=by
  unfold Go.Tp.atW
  have e':zs[i % zs.length]? =some v:=by rw [hl];exact e
  rw [List.getElem?_eq_getElem (Nat.mod_lt _ h2)] at e'
  exact Option.some.inj e'
 rw [this];exact q
theorem RpC_map{h:GH}{ι:Type}{f:ι→AV}{z:ι→Value}(r: ∀i,Rp h (f i) (z i)): ∀l:List ι,RpC h (l.map f) (l.map z)
 | []=>RpC_nil.2 rfl
 |x::l=>RpC_cons.2 ⟨_,_,rfl,r x,RpC_map r l⟩
section
variable{κ:Type}{P:Program}{gs:Ua}{ρ:Shelf.Ren}
theorem mono_swo{α β:Type}{lt:α→α→Bool}(f:β→α)(h:Sort.SWO lt):Sort.SWO fun x y=>lt (f x) (f y):=
 ⟨fun x=>h.irrefl _,fun x y z=>h.trans _ _ _,fun x y z=>h.ntrans _ _ _⟩
theorem perm_of_in{n:Nat}{d d':Array Nat}(hd:d.size=n)(h:Sort.PermIn 0 n d d'):d'.toList.Perm d.toList:=by
 obtain ⟨h1,_,h3⟩:=h
 have e1:d'.extract 0 n=d':=by rw [←hd,←h1];simp
 have e2:d.extract 0 n=d:=by rw [←hd];simp
 rwa [e1,e2] at h3
theorem sorted_of_in{lt:Nat→Nat→Bool}{n:Nat}{d:Array Nat}(hd:d.size=n)(h:Sort.SortedIn lt 0 n d):d.toList.Pairwise fun x y=>lt y x=false:=by
 rw [List.pairwise_iff_getElem]
 intro i j hi hj hij
 have hi':i<d.size:=by simpa using hi
 have hj':j<d.size:=by simpa using hj
 have:=h i j (Nat.zero_le _) hij (by omega)
 rw [getElem!_pos d i hi',getElem!_pos d j hj'] at this
 simpa using this
theorem sortK_fun(L:Go.Proofs.SlLaysF0.n6 P ρ)(hfn: ∃g c,P.funcs[ρ.f 6]? =some g∧g.body=some c∧(g.name== "runtime.NumGoroutine")=false)(k:Nat)(hk:0<k)(aE: ∀w,(isAgg (ρ.t 24)).run P w= .ok true w)(zE: ∀w,(Go.sizeOf (ρ.t 24)).run P w= .ok k w)
 (enc:κ→AV) (hag: ∀x,∃l,enc x= .ag l) (cf:κ→κ→Int) (hO:Sort.SWO fun x y=>decide (cf x y<0)) (g:FuncId) (eg: ∀args w,(callFunc g args).run P w= .ok (.enter g args) w) (z:Value) (n:Nat) (ks:List κ)
 (hc: ∀x,x∈ks→ ∀y,y∈ks→Pure P gs g [enc x,enc y] (.v (.int .i64 (cf x y)))) (hsz:ks.length<4611686018427387904):
 Fun P gs (ρ.f 6) [.ms z k n, .fn g [] []] [.row k z (ks.map enc)] fun y Λ'=> ∃ks':List κ,ks'.Perm ks∧ks'.Pairwise (fun a b=>0≤cf b a)∧y= .tp []∧Λ'=[.row k z (ks'.map enc)]:=by
 intro w0 h vs LL F hg r q
 rw [RpC_cons] at r
 obtain ⟨u,us,rfl,r1,r2⟩:=r
 rw [RpC_cons] at r2
 obtain ⟨u2,us2,rfl,r2,r3⟩:=r2
 rw [RpC_nil] at r3;subst r3
 rw [Rp_ms] at r1
 obtain ⟨rfl,_⟩:=r1
 rw [Rp_fn] at r2
 obtain ⟨c1,c2,rfl,r4,r5⟩:=r2
 rw [RpC_nil] at r4 r5;subst r4;subst r5
 obtain ⟨M,L2,rfl,⟨p,hrow,rfl⟩,q2⟩:=q
 have q2:L2=[]:=q2
 subst q2
 refine ⟨hfn,fun w s=>?_⟩
 have hrow':=hrow
 obtain ⟨a,cap,zs,e1,e2,e3,e4,e5⟩:=hrow
 rw [List.length_map] at e1 e2
 subst e1
 by_cases hn:0<ks.length
 ·rcases e5 with ⟨e5,_⟩|⟨b,o,sp,rfl,rfl,e6⟩
  ·simp at e5;subst e5;simp at hn
  have hzl:zs.length=ks.length:=by rw [e3.rp.len,List.length_map]
  have hz:0<zs.length:=by omega
  have hel: ∀i,Rp h (enc (atW ks hn i)) (atW zs hz i):=fun i=>by
   have:=e3.rp.atW (by rw [List.length_map];exact hn) hz i
   have e:atW (ks.map enc) (by rw [List.length_map];exact hn) i=enc (atW ks hn i):=by simp [atW]
   rwa [e] at this
  have hcl: ∀i,(cellsL (atW zs hz i)).length=k:=fun i=>e3.sz _ (atW_mem hz i)
  have hon: ∀i,allOne (cellsL (atW zs hz i))=true:=fun i=>e3.one _ (atW_mem hz i)
  have hval: ∀i,Value.agg (cellsL (atW zs hz i)).toArray=atW zs hz i:=fun i=>by
   obtain ⟨l,hl⟩:=hag (atW ks hn i)
   have:=hel i
   rw [hl,Rp_ag] at this
   obtain ⟨cs,e,_⟩:=this
   rw [e];rfl
  have hfl: ∀dk:Array Nat,(Sort.flatK (fun i=>cellsL (atW zs hz i)) k dk).toList=catL (dk.toList.map (atW zs hz)):=fun dk=>by
   apply List.ext_getElem?
   intro j
   rcases Nat.lt_or_ge j (dk.size*k) with hj|hj
   ·have hq:j / k<dk.size:=Nat.div_lt_of_lt_mul (by rw [Nat.mul_comm];exact hj)
    rw [flat_at hk _ (fun z hz'=>by obtain ⟨i,_,rfl⟩:=List.mem_map.1 hz';exact hcl i) j (by simpa using hj)]
    have h1:(Sort.flatK (fun i=>cellsL (atW zs hz i)) k dk).toList[j]? =some (Sort.flatK (fun i=>cellsL (atW zs hz i)) k dk)[j]! :=by
     rw [getElem!_pos _ j (by rw [Sort.size_flatK];exact hj)]
     simp [hj]
    rw [h1,Sort.get_flatK _ _ _ _ hj,getElem!_pos dk (j / k) hq,List.getElem?_map,List.getElem?_eq_getElem (by simpa using hq)]
    have hm:=Nat.mod_lt j hk
    have hm':j % k<(cellsL (atW zs hz dk[j / k])).length:=by rw [hcl];exact hm
    simp only [Array.getElem_toList,Option.map_some,Option.bind_some]
    rw [List.getElem?_eq_getElem hm',getElem!_pos (cellsL (atW zs hz dk[j / k])) (j % k) hm']
   ·rw [List.getElem?_eq_none (by simpa using hj),List.getElem?_eq_none]
    have: ∀l:List Nat,(catL (l.map (atW zs hz))).length=l.length*k:=fun l=>by
     induction l with
     |nil=>simp [catL]
     |cons x l ih=>show (cellsL _++catL (l.map _)).length=_;rw [List.length_append,hcl,ih,List.length_cons,Nat.succ_mul];omega
    rw [this];simpa using hj
  let d:Array Nat:=(List.range ks.length).toArray
  have hds:d.size=ks.length:=by simp [d]
  have hzz:(List.range ks.length).map (atW zs hz)=zs:=by rw [←hzl];exact map_atW hz
  have hfd:(Sort.flatK (fun i=>cellsL (atW zs hz i)) k d).toList=catL zs:=by rw [hfl];show catL ((List.range ks.length).map (atW zs hz))=_;rw [hzz]
  have hcz:(catL zs).length=ks.length*k:=by
   rw [←hfd];simp [hds]
  have hH:Sort.HoldsK (fun i=>cellsL (atW zs hz i)) k w b o d:=by
   intro j hj
   rw [Sort.size_flatK,hds] at hj
   have kk:=s.own _ (List.mem_cons_self ..)
   have hv:(Sort.flatK (fun i=>cellsL (atW zs hz i)) k d).toList[j]? =some (Sort.flatK (fun i=>cellsL (atW zs hz i)) k d)[j]! :=by
    rw [getElem!_pos _ j (by rw [Sort.size_flatK,hds];exact hj)]
    simp [hds,hj]
   rw [hfd] at hv
   exact ⟨kk.cell j _ (by show (catL zs++sp)[j]? =_;rw [List.getElem?_append_left (by omega)];exact hv),kk.warm j (by show j<(catL zs++sp).length;rw [List.length_append];omega)⟩
  have hst: ∀(m:Nat) (os:Array Obj) (dk:Array Nat),dk.size=d.size→St w0 h (⟨b,o,catL (dk.toList.map (atW zs hz))++sp,none⟩::([]++F)) (Go.Proofs.sortWorldK (fun i=>cellsL (atW zs hz i)) k w b o m dk os):=fun m os dk hdk=>by
   have:=s.sorted (enc:=id) (d:=Sort.flatK (fun i=>cellsL (atW zs hz i)) k d) (d':=Sort.flatK (fun i=>cellsL (atW zs hz i)) k dk) (n:=m) (os:=os)
    (by rw [Sort.size_flatK,hds,List.length_append];omega) (by rw [Sort.size_flatK,hds];exact Nat.mul_pos hn hk) hH (by simp [hdk]) (fun j hj=>by
      rw [Sort.size_flatK] at hj
      show oneC (Sort.flatK _ k dk)[j]! =true
      have hv:(Sort.flatK (fun i=>cellsL (atW zs hz i)) k dk).toList[j]? =some (Sort.flatK (fun i=>cellsL (atW zs hz i)) k dk)[j]! :=by
       rw [getElem!_pos _ j (by rw [Sort.size_flatK,hdk];exact hj)]
       simp [hdk,hj]
      rw [hfl] at hv
      have hm:=List.mem_of_getElem? hv
      simp only [catL,List.mem_flatMap] at hm
      obtain ⟨y,hy,hm⟩:=hm
      obtain ⟨i,_,rfl⟩:=List.mem_map.1 hy
      exact allOne_mem (hon i) _ hm)
   rw [List.map_id,hfl,Sort.size_flatK,hds,←hcz,List.drop_left] at this
   exact this
  have hcmp:Go.Proofs.CmpLays P g #[] (fun i=>cellsL (atW zs hz i)) k (fun i j=>cf (atW ks hn i) (atW ks hn j)) b o d.size w:=by
   intro m os dk hdk x y
   have:=pure_grown (hc _ (atW_mem hn x) _ (atW_mem hn y)) (hst m os dk hdk).self hg (RpC_cons.2 ⟨_,_,rfl,hel x,RpC_cons.2 ⟨_,_,rfl,hel y,RpC_nil.2 rfl⟩⟩)
   simp only [hval]
   exact this
  have hcall:=Go.Proofs.AnyQ.slices_SortFunc L k aE zE (fun i=>cellsL (atW zs hz i)) hcl (fun i v hv=>by rw [←oneC_eq];exact allOne_mem (hon i) v hv) (fun i j=>cf (atW ks hn i) (atW ks hn j)) (mono_swo (atW ks hn) hO) g #[] b o cap d w eg hcmp hH (lt_of_cell (hH 0 (by rw [Sort.size_flatK,hds];exact Nat.mul_pos hn hk)).1) (by rw [hds];exact hsz)
  rw [hds] at hcall
  refine hcall.mono fun e w' ⟨he,d',m,os,h1,h2,h3⟩=>?_
  subst h3
  have hd':d'.size=d.size:=h1.1
  have hperm:=perm_of_in hds h1
  have hsort:=sorted_of_in (hd'.trans hds) h2
  have hdl:d'.toList.length=ks.length:=by rw [←hds,←hd'];simp
  refine ⟨_,h,_,he,⟨.tp [],_,_,⟨d'.toList.map (atW ks hn),?_,?_,rfl,rfl⟩,?_,GH.le_refl _,⟨[_],[],rfl,⟨_,⟨some ⟨b,o,none⟩,cap,d'.toList.map (atW zs hz),?_,?_,⟨?_,?_,?_⟩,rfl, .inr ⟨b,o,sp,rfl,rfl,?_⟩⟩,rfl⟩,rfl⟩,rfl⟩,hst m os d' hd'⟩
  ·have:=hperm.map (atW ks hn)
   rwa [show d.toList.map (atW ks hn)=ks from map_atW hn] at this
  ·rw [List.pairwise_map]
   refine hsort.imp fun {x y} hxy=>?_
   have hxy:decide (cf (atW ks hn y) (atW ks hn x)<0)=false:=hxy
   simpa using hxy
  ·rw [Rp_tp];exact ⟨[],rfl,RpC_nil.2 rfl⟩
  ·rw [List.length_map,List.length_map,hdl]
  ·rw [List.length_map,List.length_map,hdl];exact e2
  ·rw [List.map_map];exact RpC_map hel _
  ·intro z hz';obtain ⟨i,_,rfl⟩:=List.mem_map.1 hz';exact hcl i
  ·intro z hz';obtain ⟨i,_,rfl⟩:=List.mem_map.1 hz';exact hon i
  ·rw [e6,List.length_map,List.length_map,List.length_map,hdl]
 ·have hk0:ks=[]:=List.eq_nil_of_length_eq_zero (by omega)
  subst hk0
  refine (Go.Proofs.AnyF.slices_SortFunc_none L a cap (.func (.func g) #[] #[]) w).mono fun e w' ⟨he,hw⟩=>?_
  subst hw
  exact ⟨_,h,_,he,⟨.tp [],_,_,⟨[], .refl _,List.Pairwise.nil,rfl,rfl⟩,Rp_tp.2 ⟨[],rfl,RpC_nil.2 rfl⟩,GH.le_refl _,⟨[p],[],rfl,⟨p,hrow',rfl⟩,rfl⟩,rfl⟩,s⟩
theorem sort1_fun(L:Go.Proofs.SlLaysF.n6 P ρ)(hfn: ∃g c,P.funcs[ρ.f 6]? =some g∧g.body=some c∧(g.name== "runtime.NumGoroutine")=false)
 (enc:κ→AV) (cf:κ→κ→Int) (hO:Sort.SWO fun x y=>decide (cf x y<0)) (g:FuncId) (eg: ∀args w,(callFunc g args).run P w= .ok (.enter g args) w) (z:Value) (n:Nat) (ks:List κ) (h1: ∀x,x∈ks→(enc x).one=true)
 (hc: ∀x,x∈ks→ ∀y,y∈ks→Pure P gs g [enc x,enc y] (.v (.int .i64 (cf x y)))) (hsz:ks.length<4611686018427387904):
 Fun P gs (ρ.f 6) [.ms z 1 n, .fn g [] []] [.row 1 z (ks.map enc)] fun y Λ'=> ∃ks':List κ,ks'.Perm ks∧ks'.Pairwise (fun a b=>0≤cf b a)∧y= .tp []∧Λ'=[.row 1 z (ks'.map enc)]:=by
 intro w0 h vs LL F hg r q
 rw [RpC_cons] at r
 obtain ⟨u,us,rfl,r1,r2⟩:=r
 rw [RpC_cons] at r2
 obtain ⟨u2,us2,rfl,r2,r3⟩:=r2
 rw [RpC_nil] at r3;subst r3
 rw [Rp_ms] at r1
 obtain ⟨rfl,_⟩:=r1
 rw [Rp_fn] at r2
 obtain ⟨c1,c2,rfl,r4,r5⟩:=r2
 rw [RpC_nil] at r4 r5;subst r4;subst r5
 obtain ⟨M,L2,rfl,⟨p,hrow,rfl⟩,q2⟩:=q
 have q2:L2=[]:=q2
 subst q2
 refine ⟨hfn,fun w s=>?_⟩
 have hrow':=hrow
 obtain ⟨a,cap,zs,e1,e2,e3,e4,e5⟩:=hrow
 rw [List.length_map] at e1 e2
 subst e1
 by_cases hn:0<ks.length
 ·rcases e5 with ⟨e5,_⟩|⟨b,o,sp,rfl,rfl,e6⟩
  ·simp at e5;subst e5;simp at hn
  have hzl:zs.length=ks.length:=by rw [e3.rp.len,List.length_map]
  have hz:0<zs.length:=by omega
  have hel: ∀i,Rp h (enc (atW ks hn i)) (atW zs hz i):=fun i=>by
   have:=e3.rp.atW (by rw [List.length_map];exact hn) hz i
   have e:atW (ks.map enc) (by rw [List.length_map];exact hn) i=enc (atW ks hn i):=by simp [atW]
   rwa [e] at this
  have hon: ∀i,oneC (atW zs hz i)=true:=fun i=>(hel i).one (h1 _ (atW_mem hn i))
  have hcat: ∀l:List Nat,catL (l.map (atW zs hz))=l.map (atW zs hz):=fun l=>by
   induction l with
   |nil=>rfl
   |cons x l ih=>show cellsL _++catL (l.map _)=_;rw [cellsL_one (hon x),ih];rfl
  have hzz:(List.range ks.length).map (atW zs hz)=zs:=by rw [←hzl];exact map_atW hz
  let d:Array Nat:=(List.range ks.length).toArray
  have hds:d.size=ks.length:=by simp [d]
  have hcz:catL zs=zs:=by rw [←hzz];exact hcat _
  have hH:Sort.Holds (atW zs hz) w b o d:=by
   intro j hj
   rw [hds] at hj
   have kk:=s.own _ (List.mem_cons_self ..)
   have hv:zs[j]? =some (atW zs hz d[j]!):=by
    rw [getElem!_pos d j (by rw [hds];exact hj)]
    have:d[j]'(by rw [hds];exact hj)=j:=by simp [d]
    rw [this];exact atW_lt hz (by omega)
   exact ⟨kk.cell j _ (by show (catL zs++sp)[j]? =_;rw [hcz,List.getElem?_append_left (by omega)];exact hv),kk.warm j (by show j<(catL zs++sp).length;rw [hcz,List.length_append];omega)⟩
  have hst: ∀(m:Nat) (os:Array Obj) (dk:Array Nat),dk.size=d.size→St w0 h (⟨b,o,catL (dk.toList.map (atW zs hz))++sp,none⟩::([]++F)) (Go.Proofs.sortWorld (atW zs hz) w b o m dk os):=fun m os dk hdk=>by
   have:=s.sorted (enc:=atW zs hz) (d:=d) (d':=dk) (n:=m) (os:=os) (by rw [hds,hcz,List.length_append];omega) (by rw [hds];exact hn) hH hdk (fun j hj=>hon _)
   rw [hds,hcz,←hzl,List.drop_left] at this
   rw [hcat];exact this
  have hcmp:Go.Proofs.CmpLays1 P g #[] (atW zs hz) (fun i j=>cf (atW ks hn i) (atW ks hn j)) b o d.size w:=by
   intro m os dk hdk x y
   exact pure_grown (hc _ (atW_mem hn x) _ (atW_mem hn y)) (hst m os dk hdk).self hg (RpC_cons.2 ⟨_,_,rfl,hel x,RpC_cons.2 ⟨_,_,rfl,hel y,RpC_nil.2 rfl⟩⟩)
  have hcall:=Go.Proofs.Any.slices_SortFunc L (atW zs hz) (fun i=>by rw [←oneC_eq];exact hon i) (fun i j=>cf (atW ks hn i) (atW ks hn j)) (mono_swo (atW ks hn) hO) g #[] b o cap d w eg hcmp hH (lt_of_cell (hH 0 (by rw [hds];exact hn)).1) (by rw [hds];exact hsz)
  rw [hds] at hcall
  refine hcall.mono fun e w' ⟨he,d',m,os,h1,h2,h3⟩=>?_
  subst h3
  have hd':d'.size=d.size:=h1.1
  have hperm:=perm_of_in hds h1
  have hsort:=sorted_of_in (hd'.trans hds) h2
  have hdl:d'.toList.length=ks.length:=by rw [←hds,←hd'];simp
  refine ⟨_,h,_,he,⟨.tp [],_,_,⟨d'.toList.map (atW ks hn),?_,?_,rfl,rfl⟩,?_,GH.le_refl _,⟨[_],[],rfl,⟨_,⟨some ⟨b,o,none⟩,cap,d'.toList.map (atW zs hz),?_,?_,⟨?_,?_,?_⟩,rfl, .inr ⟨b,o,sp,rfl,rfl,?_⟩⟩,rfl⟩,rfl⟩,rfl⟩,hst m os d' hd'⟩
  ·have:=hperm.map (atW ks hn)
   rwa [show d.toList.map (atW ks hn)=ks from map_atW hn] at this
  ·rw [List.pairwise_map]
   refine hsort.imp fun {x y} hxy=>?_
   have hxy:decide (cf (atW ks hn y) (atW ks hn x)<0)=false:=hxy
   simpa using hxy
  ·rw [Rp_tp];exact ⟨[],rfl,RpC_nil.2 rfl⟩
  ·rw [List.length_map,List.length_map,hdl]
  ·rw [List.length_map,List.length_map,hdl];exact e2
  ·rw [List.map_map];exact RpC_map hel _
  ·intro z hz';obtain ⟨i,_,rfl⟩:=List.mem_map.1 hz';rw [cellsL_one (hon i)];rfl
  ·intro z hz';obtain ⟨i,_,rfl⟩:=List.mem_map.1 hz';rw [cellsL_one (hon i)];exact allOne_of fun v hv=>by rw [List.mem_singleton.1 hv];exact hon i
  ·rw [e6,List.length_map,List.length_map,List.length_map,hdl]
 ·have hk0:ks=[]:=List.eq_nil_of_length_eq_zero (by omega)
  subst hk0
  refine (Go.Proofs.AnyF.slices_SortFunc_none {L with} a cap (.func (.func g) #[] #[]) w).mono fun e w' ⟨he,hw⟩=>?_
  subst hw
  exact ⟨_,h,_,he,⟨.tp [],_,_,⟨[], .refl _,List.Pairwise.nil,rfl,rfl⟩,Rp_tp.2 ⟨[],rfl,RpC_nil.2 rfl⟩,GH.le_refl _,⟨[p],[],rfl,⟨p,hrow',rfl⟩,rfl⟩,rfl⟩,s⟩
end
end Go.Tp
