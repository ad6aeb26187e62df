/-
  Texts T18f. Conditions: as each theorem says.
-/
import Derived.Test.YthdgpbgjmbkleaaGreatU3
import Derived.Test.YthdgpbgjmbkleaaGreatU7
set_option linter.unusedVariables false
set_option linter.unusedSimpArgs false
set_option maxRecDepth 100000
set_option maxHeartbeats 4000000
namespace Go.Proofs.YthdgpbgjmbkleaaGreat
open Go Go.Tp
theorem words_self(l:List Int):wordsB l l=true:=alike_self (fun x=>by simp) _
theorem start_plain(k:KN)(inn:List Int)(hin:inn.length≤60)(s:ST)(er:Int)(hs0:s.inn=[])(hsm:SmS s)(hl:Pure Tryz.prog gs0 9 [encN k,encST (inS inn)] (AB false))(h1:Pure Tryz.prog gs0 11 [encN k,rowA inn] (.tp [encST s,AI er]))(h2:Pure Tryz.prog gs0 12 [encN k,rowA inn] (.tp [encST s,AI er])):
 Pure Tryz.prog gs0 3 [encN k,rowA inn] (AB true):=by
 have h3:=rsame_p s s hsm
 rw [sameSt_refl] at h3
 have h4:=rwords_p inn inn (by omega)
 rw [show wordsB inn inn=true from words_self inn] at h4
 have n0:((s.inn.map AI32).length:Int)=0:=by rw [hs0];rfl
 refine p_ tt_ok Tryz.func3 63 fun w0 h0 F hgs=>?_
 (refine b_ fun bx=>?_;refine y_ ?_)
 refine c_ hl ?_
 refine A.lit0 rfl rfl rfl rfl rfl rfl rfl fun bl=>?_;refine y_ ?_;refine A.appendNewW rfl rfl rfl rfl rfl rfl rfl rfl rfl rfl rfl rfl rfl (by show (List.map AI32 _).length*1≤_;rw [List.length_map];omega) (by show (List.map AI32 _).length*1*4≤_;rw [List.length_map];omega) (fun x hx=>by injection hx with hx;subst hx;rfl) (row_one _) fun z=>?_
 refine A.freezeRowS 18 z (y':=rowA inn) rfl fz_ ?_
 refine y_ ?_
 refine n_ h1 ?_
 (refine b_ fun bx=>?_;refine y_ ?_)
 refine n_ h2 ?_
 (refine b_ fun bx=>?_;refine y_ ?_)
 refine c_ h3 ?_
 refine F_ rfl (show (er !=er)=false by simp) ?_
 refine A.loopP (ι:=Unit) (fun _=>(_,_)) (fun _=>True) (fun _=>0) () trivial rfl fun _ _ _=>?_
 refine y_ ?_
 refine k_ (fun hc=>?_) fun hc=>?_
 ·exfalso;have:=hc;simp only [n0] at this;simp at this
 refine y_ ?_
 refine n_ h4 ?_
 (refine y_ ?_;exact cr_ head_p)
theorem start_large(k:KN)(inn:List Int)(hl:Pure Tryz.prog gs0 9 [encN k,encST (inS inn)] (AB true)):Pure Tryz.prog gs0 3 [encN k,rowA inn] (AB true):=by
 refine p_ tt_ok Tryz.func3 63 fun w0 h0 F hgs=>?_
 (refine b_ fun bx=>?_;refine y_ ?_)
 refine n_ hl ?_
 (refine y_ ?_;exact cr_ head_p)
theorem startS_sm(k:KN)(hk:SmN k)(hm:mayK k=true)(inn:List Int)(hi:inn.length≤60):SmS (startS k inn) where
 inn:=by show inn.length≤_;omega
 store:=by
  have:=(store_ok (may_sounds hm)).small
  show short (storeS k.vars)
  rw [storeS_eq hm]
  exact ⟨by have:=this.1;omega,fun r hr=>by have:=this.2 r hr;omega⟩
 root:=norm_sm hk.root
theorem start_fresh(k:KN)(hk:SmN k)(hm:mayK k=true)(x:Int)(r:List Int)(hin:(x::r).length≤60)(hl:Pure Tryz.prog gs0 9 [encN k,encST (inS (x::r))] (AB false)):
 Pure Tryz.prog gs0 3 [encN k,rowA (x::r)] (AB true):=by
 have h1:=start_own k hk hm x r (by omega)
 have h2:=rstart_yes k hk hm (x::r) (by omega)
 have h3:=rsame_p (startS k (x::r)) (startS k (x::r)) (startS_sm k hk hm _ hin)
 rw [sameSt_refl] at h3
 have h3':=fun z=>Pure.lend (Λ:=[.row 1 z ((x::r).map AI32)]) (args':=[stOwn k z (x::r).length,encST (startS k (x::r))]) Tryz.func13 rfl rfl h3 rfl (by repeat (first|exact LtL.nil|refine LtL.cons ?_ ?_|exact Lt.sub .refl|exact Lt.row (.head _)|apply Lt.ag))
 have h4:=rwords_p (x::r) (x::r) (by omega)
 rw [show wordsB (x::r) (x::r)=true from words_self (x::r)] at h4
 generalize hn:(x::r)=inn at*
 have n0:((inn.map AI32).length:Int)=inn.length:=by rw [List.length_map]
 unfold FunE at h1
 refine p_ tt_ok Tryz.func3 63 fun w0 h0 F hgs=>?_
 (refine b_ fun bx=>?_;refine y_ ?_)
 refine c_ hl ?_
 refine A.lit0 rfl rfl rfl rfl rfl rfl rfl fun bl=>?_;refine y_ ?_;refine A.appendNewW rfl rfl rfl rfl rfl rfl rfl rfl rfl rfl rfl rfl rfl (by show (List.map AI32 _).length*1≤_;rw [List.length_map];omega) (by show (List.map AI32 _).length*1*4≤_;rw [List.length_map];omega) (fun x hx=>by injection hx with hx;subst hx;rfl) (row_one _) fun z=>?_
 refine A.freezeRowS 18 z (y':=rowA inn) rfl fz_ ?_
 refine y_ ?_
 refine A.e rfl h1 s_ (.refl _) fun z6 _=>?_
 (refine b_ fun bx=>?_;refine y_ ?_)
 refine n_ h2 ?_
 (refine b_ fun bx=>?_;refine y_ ?_)
 refine A.d rfl (h3' z6) .refl (List.perm_middle (l₁:=[_,_])) ?_
 refine y_ ?_
 refine A.keep [1,5,6,10] rfl ?_
 refine A.loopP (ι:=Nat×List Int) (fun s=>(⟨[(1,_),(5,_),(6,_),(10,AI (s.1:Nat))],[]⟩,[.row 1 z6 (s.2.map AI32),_,_,_])) (fun s=>s.1≤inn.length∧s.2.length=inn.length) (fun s=>inn.length-s.1) (0,inn) ⟨Nat.zero_le _,rfl⟩ rfl fun s hs ih=>?_
 obtain ⟨i,u⟩:=s
 obtain ⟨hi,hu⟩:=hs
 simp only at hi hu
 have nu:(u.map AI32).length=inn.length:=by rw [List.length_map,hu]
 refine y_ ?_
 refine A.valE 43 rfl (x':=AI (inn.length:Nat)) (ai_eq (by rfl)) ?_
 refine k_ (fun hc=>?_) fun hc=>?_
 ·have hci:i<inn.length:=by simpa using hc
  clear hc
  refine Exists.elim (at_exN (l:=u) (i:=i) (by omega)) fun c hcc=>?_
  refine y_ ?_
  refine d_ 9 [0,1,2,3,4,5,6,7,8] [] ?_
  refine WA.indexRow rfl rfl rfl rfl rfl rfl rfl rfl rfl (by omega) (by rw [nu];omega) rfl ?_
  refine WA.loadRow rfl rfl rfl rfl rfl rfl rfl (y':=AI32 c) rfl (map_at hcc) rfl rfl ?_
  refine w_ ?_
  refine WA.nil (l:=[]) rfl ?_
  refine A.indexRow rfl rfl rfl rfl rfl rfl rfl rfl (by omega) (by rw [nu];omega) rfl ?_
  refine A.storeRow rfl rfl rfl rfl rfl rfl rfl rfl rfl (by rw [nu];omega) (xs':=(u.set i (IntKind.i32.wrap (c+1))).map AI32) List.map_set.symm ?_
  refine y_ ?_
  refine A.valE 10 rfl (x':=AI ((i+1:Nat):Int)) (inc_eq i (by omega)) ?_
  refine u_ (ih (i+1,u.set i (IntKind.i32.wrap (c+1))) ⟨by show i+1≤_;omega,by show (u.set _ _).length=_;rw [List.length_set];exact hu⟩ (by show _-(i+1)<_-i;omega))
 clear hc ih
 refine y_ ?_
 refine n_ h4 ?_
 (refine y_ ?_;exact cr_ head_p)
theorem start_law(k:KN)(hk:SmN k)(inn:List Int)(hi:inn.length≤35184372088832):Pure Tryz.prog gs0 3 [encN k,rowA inn] (AB true):=by
 obtain ⟨b0,hl,hf⟩:=large_p k (inS inn) hk (inS_sm (by show inn.length≤_;omega))
 cases b0 with
 |true=>exact start_large k inn hl
 |false=>
  have h60:inn.length≤60:=(hf rfl).inn
  cases hm:mayK k with
  |false=>exact start_plain k inn h60 zeroS 2 rfl zeroS_sm hl (start_no k hk hm inn) (rstart_no k hk hm inn)
  |true=>
   cases inn with
   |nil=>exact start_plain k [] h60 _ 0 rfl (startS_sm k hk hm [] h60) hl (start_yes k hk hm [] hi) (rstart_yes k hk hm [] (by simp))
   |cons x r=>exact start_fresh k hk hm x r h60 hl
end Go.Proofs.YthdgpbgjmbkleaaGreat
