/-
  Texts Q14i Q17c Q17d Q18s Q18h P18a P18b Q18i Q18j Q18k P18c Q17h Q17j Q17k Q18l P18d Q18m Q18q Q18r. Conditions: as each theorem says.
-/
import Derived.Test.YtpcloejpklkieaaGreatV3
import Derived.Test.YtpcloejpklkieaaGreatV4
import Derived.Test.YtpcloejpklkieaaGreatV5
import Derived.Test.YtpcloejpklkieaaGreatV2
set_option linter.unusedVariables false
set_option linter.unusedSimpArgs false
set_option maxRecDepth 100000
set_option maxHeartbeats 4000000
namespace Go.Proofs.YtpcloejpklkieaaGreat
open Go Go.Tp
def okI(x:Option Int):Prop:= ∀r,x=some r→i32 r
theorem ok_ite{p:Prop} [Decidable p]{x y:Option Int}(hx:okI x)(hy:okI y):okI (if p then x else y):=by split<;>assumption
theorem ok_none:okI none:=fun r h=>by cases h
theorem ok_some{x:Int}(h:i32 x):okI (some x):=fun r e=>by injection e with e;subst e;exact h
theorem ok_wrap(n:Int):okI (some (w32 n)):=ok_some (w32_in n)
theorem ok_fit(n:Int):okI (fit32 n):=by
 unfold fit32;split
 ·rename_i h;simp [fitB] at h;exact ok_some (by unfold i32;omega)
 ·exact ok_none
theorem i32_0:i32 0:=by unfold i32;decide
theorem ok_truth(b:Bool):okI (some (truthI b)):=ok_some (by cases b<;>simp [truthI,i32])
theorem tmod_in{a b:Int}(ha:i32 a)(hb:i32 b)(h: ¬b=0):i32 (a.tmod b):=by
 have h1:=Int.natAbs_tmod a b
 have h2:a.natAbs % b.natAbs<b.natAbs:=Nat.mod_lt _ (by omega)
 unfold i32 at*;omega
theorem applyC_in{o a b:Int}(ha:i32 a)(hb:i32 b):okI (applyC o a b):=by
 unfold applyC
 refine ok_ite (ok_fit _)<|ok_ite (ok_fit _)<|ok_ite (ok_fit _)<|ok_ite ?_<|ok_ite ?_<|ok_ite (ok_wrap _)<|ok_ite (ok_wrap _)<|ok_ite (ok_wrap _)<|
  ok_ite (ok_some (w32_in _))<|ok_ite (ok_some (w32_in _))<|ok_ite (ok_some (w32_in _))<|ok_ite (ok_some ?_)<|ok_ite (ok_some ?_)<|ok_ite (ok_truth _)<|ok_ite (ok_truth _)<|ok_ite (ok_truth _)<|
  ok_ite (ok_truth _)<|ok_ite (ok_truth _)<|ok_ite (ok_truth _)<|ok_ite (ok_ite (ok_truth _) ok_none)<|ok_ite (ok_ite (ok_truth _) ok_none)<|ok_ite (ok_truth _)<|ok_ite (ok_fit _)<|ok_ite (ok_wrap _)<|ok_ite (ok_some (w32_in _))<|ok_ite (ok_ite (ok_truth _) ok_none) ok_none
 ·split
  ·exact ok_none
  ·rename_i h;exact ok_some (tdiv_in ha (by simpa using h))
 ·split
  ·exact ok_none
  ·rename_i h;exact ok_some (tmod_in ha hb h)
 ·unfold shlM;split
  ·exact i32_0
  ·exact w32_in _
 ·unfold shrM;split
  ·exact i32_0
  ·exact w32_in _
def wfS(s:List (List Int)):Prop:= ∀r,r∈s→ ∀x,x∈r→i32 x
theorem atM_in{s:List (List Int)}(hs:wfS s)(v i:Int):okI (atM s v i):=by
 unfold atM;split
 ·exact ok_none
 ·intro r h
  cases h1:s[v.toNat]? with
  |none=>rw [h1] at h;cases h
  |some l=>rw [h1] at h;exact hs l (List.mem_of_getElem? h1) r (List.mem_of_getElem? h)
theorem convC_in{t v:Int}(h:i32 v):okI (convC t v):=by
 unfold convC;split
 ·exact ok_some h
 ·exact ok_none
def isSh(o a:Int):Bool:=(o==20&&a==0)||(o==21&&a==1)
def combM(s:List (List Int))(k o t n v:Int)(vs:List (Option Int)):Option Int:=
 if k=1 then some n else if k=2 then atM s v 0 else match vs with
 |some a::r=>if k=3 then atM s v a else if k=4 then applyC o a 0 else if k=6 then convC t a else if isSh o a then some a else match r with
  |some b::_=>applyC o a b
  |_=>none
 |_=>none
theorem isSh_eq(o a:Int):(bif bif o==20 then a==0 else false then true else bif o==21 then a==1 else false)=isSh o a:=by unfold isSh;cases (o==20)<;>cases (a==0)<;>cases (o==21)<;>rfl
mutual
def valM(s:List (List Int)):KE→Option Int
 |⟨k,o,t,n,v,l⟩=>combM s k o t n v (valMl s l)
def valMl(s:List (List Int)):List KE→List (Option Int)
 | []=>[]
 |e::r=>valM s e::valMl s r
end
theorem valM_in{s:List (List Int)}(hs:wfS s): ∀(N:Nat) (e:KE),sz e≤N→wfK e→fine e=true→okI (valM s e)
 |0,e,hn,_,_=>by have:=sz_pos e;omega
 |N+1,e,hn,hw,hf=>by
  have hb0:=i32_0
  rcases fine_cases hf with ⟨n,rfl⟩|⟨v,h1,h2,rfl⟩|⟨v,a,h1,h2,h3,rfl⟩|⟨o,a,h1,h2,h3,rfl⟩|⟨o,a,b,h1,h2,h3,h4,rfl⟩|⟨t,a,h1,h2,h3,rfl⟩
  ·simp [valM,valMl,combM];simp only [wfK] at hw;exact ok_some hw.1.2.2.2.1
  ·simp [valM,valMl,combM];exact atM_in hs _ _
  ·cases ha:valM s a<;>simp [valM,valMl,combM,ha]
   ·exact ok_none
   ·exact atM_in hs _ _
  ·simp only [sz,szl] at hn
   have ih:=valM_in hs N a (by omega) (wfK1 hw) h3
   cases ha:valM s a<;>simp [valM,valMl,combM,ha]
   ·exact ok_none
   ·exact applyC_in (ih _ ha) hb0
  ·simp only [sz,szl] at hn
   have:=sz_pos a
   have:=sz_pos b
   have ih:=valM_in hs N a (by omega) (wfK2 hw).1 h3
   have ih2:=valM_in hs N b (by omega) (wfK2 hw).2 h4
   cases ha:valM s a<;>simp [valM,valMl,combM,ha]
   ·exact ok_none
   ·split
    ·exact ok_some (ih _ ha)
    ·cases hb:valM s b
     ·exact ok_none
     ·exact applyC_in (ih _ ha) (ih2 _ hb)
  ·simp only [sz,szl] at hn
   have ih:=valM_in hs N a (by omega) (wfK1 hw) h3
   cases ha:valM s a<;>simp [valM,valMl,combM,ha]
   ·exact ok_none
   ·exact convC_in (ih _ ha)
def valueM(s:List (List Int))(e:KE):Option Int:=if valid e then valM s e else none
theorem valueM_in{s:List (List Int)}(hs:wfS s){e:KE}(hw:wfK e):okI (valueM s e):=by
 unfold valueM;split
 ·rename_i h;exact valM_in hs _ e (Nat.le_refl _) hw h.1
 ·exact ok_none
theorem value_p(s:List (List Int))(hs:wfS s): ∀(N:Nat) (e:KE),sz e≤N→wfK e→fine e=true→Pure Tryz.prog gs0 156 [rowsA s,encK e] (optA (valM s e))
 |0,e,hn,_,_=>by have:=sz_pos e;omega
 |N+1,e,hn,hw,hf=>by
  have hb0:=i32_0
  rcases fine_cases hf with ⟨n,rfl⟩|⟨v,h1,h2,rfl⟩|⟨v,a,h1,h2,h3,rfl⟩|⟨o,a,h1,h2,h3,rfl⟩|⟨o,a,b,h1,h2,h3,h4,rfl⟩|⟨t,a,h1,h2,h3,rfl⟩
  ·simp only [encK,encKl]
   refine p_ tt_ok Tryz.func156 105 fun w0 h0 F hgs=>?_
   (refine b_ fun bx=>?_;refine y_ ?_);refine q_ ?_;exact .refl
  ·simp only [encK,encKl]
   refine p_ tt_ok Tryz.func156 105 fun w0 h0 F hgs=>?_
   (refine b_ fun bx=>?_;refine y_ ?_);refine c_ (at_p _ _ _) ?_;refine q_ ?_;exact .refl
  ·simp only [sz,szl] at hn
   have ih:=value_p s hs N a (by omega) (wfK1 hw) h3
   have hi:=valM_in hs N a (by omega) (wfK1 hw) h3
   rw [encK_eq] at ih
   simp only [encK,encKl]
   cases ha:valM s a with
   |none=>
    rw [ha] at ih
    have e:valM s ⟨3,0,0,0,v,[a]⟩=none:=by simp [valM,valMl,combM,ha]
    rw [e]
    refine p_ tt_ok Tryz.func156 105 fun w0 h0 F hgs=>?_
    (refine b_ fun bx=>?_;refine y_ ?_)
    refine j_ rfl rfl rfl ?_
    refine e_ 27 rfl (pe_enc a) ?_
    refine c_ (ih) ?_;refine q_ ?_;exact .refl
   |some x=>
    rw [ha] at ih
    have hx:=hi x ha
    have e:valM s ⟨3,0,0,0,v,[a]⟩=atM s v x:=by simp [valM,valMl,combM,ha]
    rw [e]
    refine p_ tt_ok Tryz.func156 105 fun w0 h0 F hgs=>?_
    (refine b_ fun bx=>?_;refine y_ ?_)
    refine j_ rfl rfl rfl ?_
    refine e_ 27 rfl (pe_enc a) ?_
    refine c_ (ih) ?_
    refine A.valE 42 rfl (x':=AI x) (ai_eq (w64_32 hx)) ?_
    refine c_ (at_p _ _ _) ?_;refine q_ ?_;exact .refl
  ·simp only [sz,szl] at hn
   have ih:=value_p s hs N a (by omega) (wfK1 hw) h3
   have hi:=valM_in hs N a (by omega) (wfK1 hw) h3
   rw [encK_eq] at ih
   simp only [encK,encKl]
   cases ha:valM s a with
   |none=>
    rw [ha] at ih
    have e:valM s ⟨4,o,0,0,0,[a]⟩=none:=by simp [valM,valMl,combM,ha]
    rw [e]
    refine p_ tt_ok Tryz.func156 105 fun w0 h0 F hgs=>?_
    (refine b_ fun bx=>?_;refine y_ ?_)
    refine j_ rfl rfl rfl ?_
    refine e_ 27 rfl (pe_enc a) ?_
    refine c_ (ih) ?_;refine q_ ?_;exact .refl
   |some x=>
    rw [ha] at ih
    have hx:=hi x ha
    have e:valM s ⟨4,o,0,0,0,[a]⟩=applyC o x 0:=by simp [valM,valMl,combM,ha]
    rw [e]
    refine p_ tt_ok Tryz.func156 105 fun w0 h0 F hgs=>?_
    (refine b_ fun bx=>?_;refine y_ ?_)
    refine j_ rfl rfl rfl ?_
    refine e_ 27 rfl (pe_enc a) ?_
    refine c_ (ih) ?_
    refine c_ (apply_p o x 0 hx hb0) ?_
    refine c_ (some_p _ _) ?_;refine q_ ?_;cases applyC o x 0<;>exact .refl
  ·simp only [sz,szl] at hn
   have:=sz_pos a
   have:=sz_pos b
   have ih:=value_p s hs N a (by omega) (wfK2 hw).1 h3
   have ih2:=value_p s hs N b (by omega) (wfK2 hw).2 h4
   have hi:=valM_in hs N a (by omega) (wfK2 hw).1 h3
   have hi2:=valM_in hs N b (by omega) (wfK2 hw).2 h4
   rw [encK_eq] at ih ih2
   simp only [encK,encKl]
   cases ha:valM s a with
   |none=>
    rw [ha] at ih
    have e:valM s ⟨5,o,0,0,0,[a,b]⟩=none:=by simp [valM,valMl,combM,ha]
    rw [e]
    refine p_ tt_ok Tryz.func156 105 fun w0 h0 F hgs=>?_
    (refine b_ fun bx=>?_;refine y_ ?_)
    refine j_ rfl rfl rfl ?_
    refine e_ 27 rfl (pe_enc a) ?_
    refine c_ (ih) ?_;refine q_ ?_;exact .refl
   |some x=>
    rw [ha] at ih
    have hx:=hi x ha
    by_cases hsh:isSh o x=true
    ·have e:valM s ⟨5,o,0,0,0,[a,b]⟩=some x:=by simp [valM,valMl,combM,ha,hsh]
     rw [e]
     refine p_ tt_ok Tryz.func156 105 fun w0 h0 F hgs=>?_
     (refine b_ fun bx=>?_;refine y_ ?_)
     refine j_ rfl rfl rfl ?_
     refine e_ 27 rfl (pe_enc a) ?_
     refine n_ (ih) ?_
     refine g_ ?_
     refine e_ 82 rfl (x':=AB true) (ab_eq ((isSh_eq o x).trans hsh)) ?_;refine q_ ?_;exact .refl
    ·have hsf:isSh o x=false:=by simpa using hsh
     cases hb:valM s b with
     |none=>
      rw [hb] at ih2
      have e:valM s ⟨5,o,0,0,0,[a,b]⟩=none:=by simp [valM,valMl,combM,ha,hb,hsf]
      rw [e]
      refine p_ tt_ok Tryz.func156 105 fun w0 h0 F hgs=>?_
      (refine b_ fun bx=>?_;refine y_ ?_)
      refine j_ rfl rfl rfl ?_
      refine e_ 27 rfl (pe_enc a) ?_
      refine n_ (ih) ?_
      refine g_ ?_
      refine e_ 82 rfl (x':=AB false) (ab_eq ((isSh_eq o x).trans hsf)) ?_
      refine j_ rfl rfl rfl ?_
      refine e_ 88 rfl (pe_enc b) ?_
      refine c_ (ih2) ?_;refine q_ ?_;exact .refl
     |some y=>
      rw [hb] at ih2
      have hy:=hi2 y hb
      have e:valM s ⟨5,o,0,0,0,[a,b]⟩=applyC o x y:=by simp [valM,valMl,combM,ha,hb,hsf]
      rw [e]
      refine p_ tt_ok Tryz.func156 105 fun w0 h0 F hgs=>?_
      (refine b_ fun bx=>?_;refine y_ ?_)
      refine j_ rfl rfl rfl ?_
      refine e_ 27 rfl (pe_enc a) ?_
      refine n_ (ih) ?_
      refine g_ ?_
      refine e_ 82 rfl (x':=AB false) (ab_eq ((isSh_eq o x).trans hsf)) ?_
      refine j_ rfl rfl rfl ?_
      refine e_ 88 rfl (pe_enc b) ?_
      refine c_ (ih2) ?_
      refine c_ (apply_p o x y hx hy) ?_
      refine c_ (some_p _ _) ?_;refine q_ ?_;cases applyC o x y<;>exact .refl
  ·simp only [sz,szl] at hn
   have ih:=value_p s hs N a (by omega) (wfK1 hw) h3
   rw [encK_eq] at ih
   simp only [encK,encKl]
   cases ha:valM s a with
   |none=>
    rw [ha] at ih
    have e:valM s ⟨6,0,t,0,0,[a]⟩=none:=by simp [valM,valMl,combM,ha]
    rw [e]
    refine p_ tt_ok Tryz.func156 105 fun w0 h0 F hgs=>?_
    (refine b_ fun bx=>?_;refine y_ ?_)
    refine j_ rfl rfl rfl ?_
    refine e_ 27 rfl (pe_enc a) ?_
    refine c_ (ih) ?_;refine q_ ?_;exact .refl
   |some x=>
    rw [ha] at ih
    have e:valM s ⟨6,0,t,0,0,[a]⟩=convC t x:=by simp [valM,valMl,combM,ha]
    rw [e,conv_fits]
    refine p_ tt_ok Tryz.func156 105 fun w0 h0 F hgs=>?_
    (refine b_ fun bx=>?_;refine y_ ?_)
    refine j_ rfl rfl rfl ?_
    refine e_ 27 rfl (pe_enc a) ?_
    refine c_ (ih) ?_
    refine n_ (fits_p _ _) ?_
    refine c_ (some_p _ _) ?_;refine q_ ?_;exact .refl
theorem Value_p(s:List (List Int))(hs:wfS s)(e:KE)(hw:wfK e):Pure Tryz.prog gs0 138 [rowsA s,encK e] (optA (valueM s e)):=by
 have hp:=evalid_p e hw
 have hv:=fun h=>value_p s hs _ e (Nat.le_refl _) hw h
 rw [encK_eq] at hp⊢
 simp only [encK_eq] at hv
 by_cases h:valid e
 ·have hv:=hv h.1
  rw [valueM,if_pos h];rw [decide_eq_true h] at hp
  refine p_ tt_ok Tryz.func138 14 fun w0 h0 F hgs=>?_
  (refine b_ fun bx=>?_;refine y_ ?_);refine c_ (hp) ?_;refine c_ (hv) ?_;refine q_ ?_;exact .refl
 ·rw [valueM,if_neg h];rw [decide_eq_false h] at hp
  refine p_ tt_ok Tryz.func138 14 fun w0 h0 F hgs=>?_
  (refine b_ fun bx=>?_;refine y_ ?_);refine c_ (hp) ?_;refine q_ ?_;exact .refl
abbrev numE(n:Int):KE:=⟨1,0,0,n,0,[]⟩
def lens(s:List (List Int)):Nat:=(s.map List.length).sum
abbrev encP(v:Int)(l:List KE):AV:= .ag [AI v, .sl 6 (encKl l) none]
def placeM(s:List (List Int))(v:Int):List KE→Option (Int×Int)
 | []=>if (atM s v 0).isSome then some (v,0) else none
 | [e]=>match valueM s e with
   |some x=>if (atM s v x).isSome then some (v,x) else none
   |none=>none
 |_=>none
abbrev optP(x:Option (Int×Int)):AV:= .tp [AI (x.getD (0,0)).1,AI (x.getD (0,0)).2,AB x.isSome]
theorem Place_p(s:List (List Int))(hs:wfS s)(v:Int)(l:List KE)(hw:wfKl l)(hn:l.length≤281474976710656):Pure Tryz.prog gs0 116 [rowsA s,encP v l] (optP (placeM s v l)):=by
 have hl:=encKl_len l
 match l,hw,hn,hl with
 | [],hw,hn,hl=>
   unfold placeM
   cases h:atM s v 0 with
   |none=>
    have hp:=at_p s v 0
    rw [h] at hp
    refine p_ tt_ok Tryz.func116 42 fun w0 h0 F hgs=>?_
    (refine b_ fun bx=>?_;refine y_ ?_);refine c_ (hp) ?_;refine A.ret3 (Λ':=[]) rfl rfl rfl rfl rfl (List.nil_sublist _) ⟨?_,rfl⟩;exact .refl
   |some y=>
    have hp:=at_p s v 0
    rw [h] at hp
    refine p_ tt_ok Tryz.func116 42 fun w0 h0 F hgs=>?_
    (refine b_ fun bx=>?_;refine y_ ?_);refine c_ (hp) ?_;refine A.ret3 (Λ':=[]) rfl rfl rfl rfl rfl (List.nil_sublist _) ⟨?_,rfl⟩;exact .refl
 | [e],hw,hn,hl=>
   unfold placeM
   simp only [wfKl] at hw
   have hv:=Value_p s hs e hw.1
   rw [encK_eq] at hv
   simp only [encP,encKl]
   cases hx:valueM s e with
   |none=>
    rw [hx] at hv
    refine p_ tt_ok Tryz.func116 42 fun w0 h0 F hgs=>?_
    (refine b_ fun bx=>?_;refine y_ ?_)
    refine j_ rfl rfl rfl ?_
    refine e_ 20 rfl (pe_enc e) ?_;refine c_ (hv) ?_;refine A.ret3 (Λ':=[]) rfl rfl rfl rfl rfl (List.nil_sublist _) ⟨?_,rfl⟩;exact .refl
   |some x=>
    rw [hx] at hv
    have hxi:=valueM_in hs hw.1 x hx
    cases h:atM s v x with
    |none=>
     have hp:=at_p s v x
     rw [h] at hp
     simp only [h]
     refine p_ tt_ok Tryz.func116 42 fun w0 h0 F hgs=>?_
     (refine b_ fun bx=>?_;refine y_ ?_)
     refine j_ rfl rfl rfl ?_
     refine e_ 20 rfl (pe_enc e) ?_;refine c_ (hv) ?_
     refine A.valE 33 rfl (x':=AI x) (ai_eq (w64_32 hxi)) ?_
     refine c_ (hp) ?_;refine A.ret3 (Λ':=[]) rfl rfl rfl rfl rfl (List.nil_sublist _) ⟨?_,rfl⟩;exact .refl
    |some y=>
     have hp:=at_p s v x
     rw [h] at hp
     simp only [h]
     refine p_ tt_ok Tryz.func116 42 fun w0 h0 F hgs=>?_
     (refine b_ fun bx=>?_;refine y_ ?_)
     refine j_ rfl rfl rfl ?_
     refine e_ 20 rfl (pe_enc e) ?_;refine c_ (hv) ?_
     refine A.valE 33 rfl (x':=AI x) (ai_eq (w64_32 hxi)) ?_
     refine A.valE 5 rfl (x':=AI x) (ai_eq (w64_32 hxi)) ?_
     refine c_ (hp) ?_;refine A.ret3 (Λ':=[]) rfl rfl rfl rfl rfl (List.nil_sublist _) ⟨?_,rfl⟩;exact .refl
 |e::b::r,hw,hn,hl=>
  unfold placeM
  refine p_ tt_ok Tryz.func116 42 fun w0 h0 F hgs=>?_
  (refine b_ fun bx=>?_;refine y_ ?_);refine A.ret3 (Λ':=[]) rfl rfl rfl rfl rfl (List.nil_sublist _) ⟨?_,rfl⟩;exact .refl
abbrev growV(s:Nat×Nat):Value:= .slice (some ⟨s.1,0,none⟩) 0 s.2
theorem grow_p(n:Nat)(hn0:0<n)(hn1:n≤1073741824):FunE Tryz.prog gs0 129 [.v (.slice none 0 0),AI (n:Nat)] [] (fun s:Nat×Nat=> .sl ty31.size [] (some (growV s))) (fun s=>[.tail ty31.size (growV s)]) (fun _=>True):=by
 refine Fun.of (S:=tt) (fn:=Tryz.f129) (n:=27) tt_ok Tryz.func129 rfl rfl rfl rfl fun w0 h0 F hgs=>?_
 refine y_ ?_
 refine A.valE 6 rfl (x':=AB false) (ab_eq (by rw [decide_eq_false_iff_not];omega)) ?_
 refine A.cap rfl rfl rfl rfl rfl rfl ?_
 refine y_ ?_
 refine A.valE 15 rfl (x':=AI (n:Nat)) (ai_eq (by rw [show IntKind.i64.wrap (((0:Nat):Int)-((0:Nat):Int))=0 from by decide,Int.sub_zero];exact wr64 _ (by omega))) ?_
 refine A.valE 16 rfl (x':=AB true) (ab_eq (by rw [show IntKind.i64.wrap (((0:Nat):Int)-((0:Nat):Int))=0 from by decide,Int.sub_zero,wr64 _ (by omega),decide_eq_true_iff];omega)) ?_
 refine e_ 1 rfl (x':=AI (n:Nat)) (ai_eq (by rw [show IntKind.i64.wrap (((0:Nat):Int)-((0:Nat):Int))=0 from by decide,Int.sub_zero];exact wr64 _ (by omega))) ?_
 refine A.cap rfl rfl rfl rfl rfl rfl ?_
 refine A.sliceV rfl rfl rfl rfl rfl rfl rfl rfl (by decide) (by decide) (by decide) (by simp) rfl rfl ?_
 refine y_ ?_
 refine A.appendZ rfl rfl rfl rfl rfl rfl rfl rfl rfl rfl rfl rfl rfl rfl hn0 hn1 fun b cp hcp=>?_
 refine y_ ?_
 refine A.sliceV rfl rfl rfl rfl rfl rfl rfl rfl (by decide) (by decide) (by show (0:Int)≤(cp:Nat);omega) (by simp) rfl rfl ?_
 refine y_ ?_
 refine A.valE 4 rfl (x':= .v (growV (b,cp))) (by congr 1;show Value.slice (if cp=0 then _ else _) _ _=_;by_cases hc0:cp=0<;>simp [hc0,growV,Go.Addr.add]) ?_
 refine A.rawEmpty 4 ty31.size rfl ?_
 refine A.ret1 (Λ':=[.tail _ _]) rfl rfl rfl sl_ ⟨(b,cp), .refl,rfl,trivial⟩
theorem concat_p(a b:List AV)(h0:0<a.length)(hab:a.length+b.length≤134217728):Pure Tryz.prog gs0 82 [.sl 1 [.sl 8 a none, .sl 8 b none] none] (.sl 8 (a++b) none):=by
 have hg:=grow_p (a.length+b.length) (by omega) (by omega)
 refine p_ tt_ok Tryz.func82 36 fun w0 h0 F hgs=>?_
 refine y_ ?_
 refine A.loop1 ?_
 refine y_ ?_
 refine i_ rfl rfl rfl ?_
 refine A.valE 18 rfl (x':=AI (a.length:Nat)) (ai_eq (by rw [Int.zero_add];exact wr64 _ (by omega))) ?_
 refine A.valE 3 rfl (x':=AI (a.length:Nat)) (ai_eq (by rw [Int.zero_add];exact wr64 _ (by omega))) ?_
 refine e_ 20 rfl (x':=AB false) (ab_eq (by rw [Int.zero_add,wr64 _ (by omega),decide_eq_false_iff_not];omega)) ?_
 refine A.again ?_
 refine y_ ?_
 refine i_ rfl rfl rfl ?_
 refine A.valE 18 rfl (x':=AI ((a.length+b.length:Nat):Int)) (ai_eq (by rw [Int.natCast_add];exact wr64 _ (by omega))) ?_
 refine A.valE 3 rfl (x':=AI ((a.length+b.length:Nat):Int)) (ai_eq (by rw [Int.natCast_add];exact wr64 _ (by omega))) ?_
 refine e_ 20 rfl (x':=AB false) (ab_eq (by rw [wr64 _ (by omega),decide_eq_false_iff_not];omega)) ?_
 refine A.again ?_
 refine y_ ?_
 refine A.e rfl hg .refl (List.Perm.refl _) fun s _=>?_
 refine y_ ?_
 refine A.loop1 ?_
 refine y_ ?_
 refine i_ rfl rfl rfl ?_
 refine A.append rfl rfl rfl rfl rfl rfl rfl rfl rfl rfl rfl rfl rfl rfl (by show (0+a.length)*8≤_;omega) fun z1=>?_
 refine y_ ?_
 refine A.again ?_
 refine y_ ?_
 refine i_ rfl rfl rfl ?_
 refine A.append rfl rfl rfl rfl rfl rfl rfl rfl rfl rfl rfl rfl rfl rfl (by show (([]++a).length+b.length)*8≤_;rw [List.nil_append];omega) fun z2=>?_
 refine y_ ?_
 refine A.again ?_
 refine y_ ?_
 refine R_ ?_
 exact .own1
abbrev AUL(n:Int):AV:= .v (.int .u64 n)
theorem wrU(n:Nat)(hn:n<18446744073709551616):IntKind.u64.wrap (n:Nat)=(n:Nat):=by
 show ((n:Int) % 18446744073709551616)=_
 omega
theorem low32(n:Nat)(hn:n<4294967296):bitsOf .and .u64 (n:Nat) 4294967295=(n:Nat):=by
 have h1:BitVec.ofInt 64 ((n:Nat):Int)=BitVec.ofNat 64 n:=by rw [BitVec.ofInt_natCast]
 have h2:BitVec.ofInt 64 4294967295=BitVec.ofNat 64 4294967295:=rfl
 show IntKind.u64.wrap ((BitVec.ofInt 64 ((n:Nat):Int)&&&BitVec.ofInt 64 4294967295).toNat:Int)=_
 rw [h1,h2,BitVec.toNat_and,BitVec.toNat_ofNat,BitVec.toNat_ofNat,Nat.mod_eq_of_lt (by omega),Nat.mod_eq_of_lt (by omega),show (4294967295:Nat)=2^32-1 from rfl,Nat.and_two_pow_sub_one_eq_mod,Nat.mod_eq_of_lt (by omega)]
 exact wrU n (by omega)
theorem high32(n:Nat)(hn:n<4294967296):arV .shr .u64 (n:Nat) 32=0:=by
 show ((n:Nat):Int).fdiv 4294967296=0
 rw [Int.fdiv_eq_ediv_of_nonneg _ (by decide)]
 omega
theorem aul_eq{a b:Int}(h:a=b):AUL a=AUL b:=by rw [h]
theorem mul64_p(n:Nat)(hn:n<4294967296):Pure Tryz.prog gs0 166 [AUL 1,AUL (n:Nat)] (.tp [AUL 0,AUL (n:Nat)]):=by
 refine p_ tt_ok Tryz.func166 51 fun w0 h0 F hgs=>?_
 refine y_ ?_
 refine A.valE 6 rfl (x':=AUL 1) (aul_eq (low32 1 (by omega))) ?_
 refine A.shift rfl rfl rfl rfl rfl rfl (by decide) ?_
 refine e_ 17 rfl (x':=AUL 0) (aul_eq (high32 1 (by omega))) ?_
 refine A.valE 8 rfl (x':=AUL (n:Nat)) (aul_eq (low32 n hn)) ?_
 refine A.shift rfl rfl rfl rfl rfl rfl (by decide) ?_
 refine e_ 21 rfl (x':=AUL 0) (aul_eq (high32 n hn)) ?_
 refine A.valE 10 rfl (x':=AUL (n:Nat)) (aul_eq (by rw [Int.one_mul];exact wrU n (by omega))) ?_
 refine A.shift rfl rfl rfl rfl rfl rfl (by decide) ?_
 refine A.valE 29 rfl (x':=AUL 0) (aul_eq (by rw [Int.one_mul,wrU n (by omega)];exact high32 n hn)) ?_
 refine e_ 27 rfl (x':=AUL 0) (aul_eq (by rw [Int.zero_mul];rfl)) ?_
 refine A.valE 11 rfl (x':=AUL 0) (aul_eq rfl) ?_
 refine A.valE 12 rfl (x':=AUL 0) (aul_eq (low32 0 (by omega))) ?_
 refine A.shift rfl rfl rfl rfl rfl rfl (by decide) ?_
 refine e_ 34 rfl (x':=AUL 0) (aul_eq (high32 0 (by omega))) ?_
 refine A.valE 12 rfl (x':=AUL 0) (aul_eq rfl) ?_
 refine A.shift rfl rfl rfl rfl rfl rfl (by decide) ?_
 refine e_ 46 rfl (x':=AUL 0) (aul_eq (high32 0 (by omega))) ?_
 refine q_ ?_
 refine Sb.eq ?_
 rw [Int.one_mul,wrU n (by omega)];rfl
theorem mul_p(n:Nat)(hn:n<4294967296):Pure Tryz.prog gs0 154 [AUL 1,AUL (n:Nat)] (.tp [AUL 0,AUL (n:Nat)]):=by
 refine p_ tt_ok Tryz.func154 30 fun w0 h0 F hgs=>?_
 refine y_ ?_
 refine c_ (mul64_p n hn) ?_
 refine q_ ?_
 exact .refl
abbrev skA:AV:= .ag [AU8 1,AI 0,AI 0,AU8 0, .sl 2 [] none, .sl 6 [] none, .sl 18 [] none, .sl 8 [] none]
abbrev zrA:AV:= .ag [AU8 0,AI 0,AI 0,AU8 0, .v (.slice none 0 0), .v (.slice none 0 0), .v (.slice none 0 0), .v (.slice none 0 0)]
theorem rep_step(n k:Nat)(hk:k≤n):(List.replicate k skA++List.replicate (n-k) zrA).take k++(((List.replicate k skA++List.replicate (n-k) zrA).drop 0).take (min k (n-k))++(List.replicate k skA++List.replicate (n-k) zrA).drop (k+min k (n-k)))=List.replicate (k+min k (n-k)) skA++List.replicate (n-(k+min k (n-k))) zrA:=by
 have h1:(List.replicate k skA++List.replicate (n-k) zrA).take k=List.replicate k skA:=by rw [List.take_append_of_le_length (by rw [List.length_replicate];omega),List.take_of_length_le (by rw [List.length_replicate];omega)]
 have h2:(List.replicate k skA++List.replicate (n-k) zrA).take (min k (n-k))=List.replicate (min k (n-k)) skA:=by rw [List.take_append_of_le_length (by rw [List.length_replicate];omega),List.take_replicate,Nat.min_eq_left (by omega)]
 have h3:(List.replicate k skA++List.replicate (n-k) zrA).drop (k+min k (n-k))=List.replicate (n-(k+min k (n-k))) zrA:=by rw [List.drop_append,List.length_replicate,List.drop_eq_nil_of_le (by rw [List.length_replicate];omega),List.nil_append,List.drop_replicate];congr 1;omega
 rw [List.drop_zero,h1,h2,h3,←List.append_assoc,List.replicate_append_replicate]
theorem repeat_p(n:Nat)(hn:n<134217728):Pure Tryz.prog gs0 136 [.sl 8 [skA] none,AI (n:Nat)] (.sl 8 (List.replicate n skA) none):=by
 refine p_ tt_ok Tryz.func136 48 fun w0 h0 F hgs=>?_
 refine y_ ?_
 refine A.valE 10 rfl (x':=AB false) (ab_eq (by rw [decide_eq_false_iff_not];omega)) ?_
 refine A.valE 17 rfl (x':=AUL (n:Nat)) (aul_eq (wrU n (by omega))) ?_
 refine A.valE 15 rfl (x':=AUL 1) (aul_eq rfl) ?_
 refine c_ (mul_p n (by omega)) ?_
 refine e_ 26 rfl (x':=AB false) (ab_eq (by show decide (9223372036854775807<(n:Int))=false;rw [decide_eq_false_iff_not];omega)) ?_
 refine A.valE 29 rfl (x':=AI (n:Nat)) (ai_eq (wr64 _ (by omega))) ?_
 refine A.makeV rfl rfl rfl rfl rfl rfl rfl rfl rfl rfl rfl rfl (by omega) (by show (128:Int)*_≤_;omega) (by omega) fun a cp hcp=>?_
 have hcp:n≤cp:=by simpa using hcp
 refine A.valE 30 rfl (x':= .ms (.slice a n cp) 8 n) (by rw [Int.toNat_natCast];rfl) ?_
 refine A.entsEq (Λ':=[.row 8 (.slice a n cp) (List.replicate n zrA)]) (by rw [Int.toNat_natCast];rfl) ?_
 refine y_ ?_
 by_cases hn0:n=0
 ·subst hn0
  refine A.copy0 rfl rfl rfl rfl rfl rfl rfl rfl rfl ?_
  refine y_ ?_
  refine A.loop1 ?_
  refine y_ ?_
  refine A.freezeRow 4 rfl ?_
  exact r_
 refine A.rowSome (a:=a) (n:=n) (c:=cp) (sz:=8) (l:=List.replicate n zrA) (by intro h;have:=congrArg List.length h;rw [List.length_replicate] at this;exact hn0 this) fun b o ha=>?_
 subst ha
 refine A.copyRow (l1:=List.replicate n zrA) rfl rfl rfl rfl rfl rfl rfl rfl rfl rfl rfl rfl (by intro h;have:=congrArg List.length h;rw [List.length_replicate] at this;exact hn0 this) (by rw [List.length_replicate];show 1≤n;omega) ?_
 refine y_ ?_
 refine A.msV 7 rfl rfl ?_
 have e0:[skA]++(List.replicate n zrA).drop [skA].length=List.replicate 1 skA++List.replicate (n-1) zrA:=by rw [List.drop_replicate];rfl
 refine A.entsEq (Λ':=[.row 8 (.slice (some ⟨b,o,none⟩) n cp) (List.replicate 1 skA++List.replicate (n-1) zrA)]) (by rw [e0]) ?_
 refine A.valE 8 rfl (x':=AI ((1:Nat):Int)) (ai_eq rfl) ?_
 refine A.keep [7,8] rfl ?_
 refine A.loopP (ι:=Nat) (fun k=>(⟨[(7, .v (.slice (some ⟨b,o,none⟩) n cp)),(8,AI (k:Nat))],[]⟩,[.row 8 (.slice (some ⟨b,o,none⟩) n cp) (List.replicate k skA++List.replicate (n-k) zrA)])) (fun k=>1≤k∧k≤n) (fun k=>n-k) 1 (by omega) rfl fun k hk ih=>?_
 obtain ⟨hk1,hk2⟩:=hk
 refine y_ ?_
 refine k_ (fun hc=>?_) fun hc=>?_
 ·have hc:k<n:=by simpa using hc
  have hlen:(List.replicate k skA++List.replicate (n-k) zrA).length=n:=by rw [List.length_append,List.length_replicate,List.length_replicate];omega
  refine y_ ?_
  refine A.drawR 7 8 (.slice (some ⟨b,o,none⟩) n cp) 9 [0,1,2,3,4,5,6,7,8] noPubs [] (by decide) (by kernel_rfl) (by kernel_rfl) ?_
  refine w_ ?_
  refine WA.sliceV rfl rfl rfl rfl rfl rfl rfl rfl rfl (by omega) (by omega) (by omega) (fun _=>hcp) (y:= .slice (some ⟨b,o+k*8,none⟩) (n-k) (cp-k)) ?_ rfl ?_
  ·show Value.slice (if cp=k then _ else _) _ _=_
   rw [if_neg (by omega)]
   simp only [Int.toNat_natCast,Option.map_some,Go.Addr.add]
   rw [if_neg (by show¬k*8=0;omega)]
   rfl
  refine w_ ?_
  refine WA.sliceV rfl rfl rfl rfl rfl rfl rfl rfl rfl (by omega) (by omega) (by omega) (fun h=>by cases h) (y:= .slice (some ⟨b,o+0*8,none⟩) k cp) ?_ rfl ?_
  ·show Value.slice (if cp=0 then _ else _) _ _=_
   rw [if_neg (by omega)]
   simp [Go.Addr.add]
  refine WA.copy (l':=List.replicate (k+Nat.min k (n-k)) skA++List.replicate (n-(k+Nat.min k (n-k))) zrA) k 0 (Nat.min k (n-k)) rfl rfl rfl rfl rfl rfl rfl rfl rfl rfl rfl rfl rfl rfl rfl rfl rfl rfl rfl rfl rfl ?_ ?_ (by intro h;have:=congrArg List.length h;rw [hlen] at this;exact hn0 this) ?_ ?_
  ·rw [hlen];have:=Nat.min_le_right k (n-k);show k+min k (n-k)≤n;omega
  ·rw [hlen];have:=Nat.min_le_right k (n-k);show 0+min k (n-k)≤n;omega
  ·exact rep_step n k hk2
  refine w_ ?_
  refine WA.valE 46 rfl (x':=AI ((k+min k (n-k):Nat):Int)) (ai_eq (by rw [Int.natCast_add];exact wr64 _ (by have h:Nat.min k (n-k)≤n-k:=Nat.min_le_right _ _;omega))) ?_
  refine WA.nil (l:=[_]) rfl ?_
  refine y_ ?_
  refine l_ (Λ':=[.row 8 (.slice (some ⟨b,o,none⟩) n cp) (List.replicate (k+min k (n-k)) skA++List.replicate (n-(k+min k (n-k))) zrA)]) ?_
  refine u_ (ih (k+min k (n-k)) (by have:=Nat.min_le_right k (n-k);omega) (by have h1:1≤min k (n-k):=(by omega);have h2:=Nat.min_le_right k (n-k);show n-(k+min k (n-k))<n-k;omega))
 have hc: ¬k<n:=by simpa using hc
 have hkn:k=n:=by omega
 subst hkn
 refine A.entsEq (Λ':=[.row 8 (.slice (some ⟨b,o,none⟩) k cp) (List.replicate k skA)]) (by rw [Nat.sub_self,List.replicate_zero,List.append_nil]) ?_
 refine y_ ?_
 refine A.vMs 4 8 rfl ?_
 refine A.freezeRow 4 rfl ?_
 exact r_
theorem rowE_at{α:Type}{enc:α→AV}{Z:AV}{l:List α}{i:Nat}{x:α}(hx:l[i]? =some x):(rowE enc Z l (i+1))[i]? =some (enc x):=by
 have hi:i<l.length:=by
  rcases Nat.lt_or_ge i l.length with h|h
  ·exact h
  ·rw [List.getElem?_eq_none h] at hx;cases hx
 rw [rowE,List.getElem?_append_left (by rw [List.length_map,List.length_take];omega),List.getElem?_map,List.getElem?_take_of_lt (by omega),hx];rfl
theorem pnormP_a(p:PR)(hk:bothB p=true)(hs:smR p)(hrec: ∀x,x∈p.l→Pure Tryz.prog gs0 45 [cellsR x] (cellsR (normR x))):Pure Tryz.prog gs0 45 [cellsR p] (cellsR (normR p)):=by
 have h1:=branches_p p
 rw [hk] at h1
 have hlen:((encRl p.l).length:Int)=p.l.length:=by rw [encRl_len]
 have hS:=smR_all hs
 have hlb:=hS.lb
 refine Exists.elim (show∃R,R=normR p from ⟨_,rfl⟩) fun R hR=>?_
 rw [←hR]
 rw [normR_par hk] at hR
 refine p_ tt_ok Tryz.func45 74 fun w0 h0 F hgs=>?_
 (repeat refine A.s rfl ?_)
 refine A.b rfl fun b1=>?_
 refine A.b rfl fun b2=>?_
 refine y_ ?_
 refine c_ h1 ?_
 refine A.valE 14 rfl (x':=AI (p.l.length:Nat)) (ai_eq hlen) ?_
 refine A.makeV rfl rfl rfl rfl rfl rfl rfl rfl rfl rfl rfl rfl (by omega) (by show (128:Int)*_≤_;omega) (by omega) fun a cp hcp=>?_
 refine e_ 15 rfl (x':= .ms (.slice a p.l.length cp) 8 p.l.length) (by rw [Int.toNat_natCast];rfl) ?_
 refine A.valE 18 rfl (x':=AI (p.l.length:Nat)) (ai_eq hlen) ?_
 refine A.keep [1,2,3,4,17,18,19] rfl ?_
 refine Exists.elim (show∃Z,Z=AV.ag [AU8 0,AI 0,AI 0,AU8 0, .v (.slice none 0 0), .v (.slice none 0 0), .v (.slice none 0 0), .v (.slice none 0 0)] from ⟨_,rfl⟩) fun Z hZ=>?_
 refine A.entsEq (Λ':=[.row 8 (.slice a p.l.length cp) (rowE (fun x=>cellsR (normR x)) Z p.l 0), .box b2 Z, .box b1 (cellsR p)]) (by rw [hZ,rowE,Int.toNat_natCast];rfl) ?_
 refine A.loopP (ι:=Nat) (fun i=>(⟨[(1, .v (.pointer (some ⟨b1,0,none⟩))),(2, .v (.pointer (some ⟨b2,0,none⟩))),(3, .ms (.slice a p.l.length cp) 8 p.l.length),(4,AB (((p.l.take i).map normR).all doneR)),(17,rsA p.l),(18,AI (p.l.length:Nat)),(19,AI (i:Nat))],[]⟩,[.row 8 (.slice a p.l.length cp) (rowE (fun x=>cellsR (normR x)) Z p.l i), .box b2 Z, .box b1 (cellsR p)]))
  (fun i=>i≤p.l.length) (fun i=>p.l.length-i) 0 (Nat.zero_le _) rfl fun i hi ih=>?_
 refine y_ ?_
 refine k_ (fun hc=>?_) fun hc=>?_
 ·have hci:i<p.l.length:=by simpa using hc
  clear hc
  refine Exists.elim (at_exN (l:=p.l) (i:=i) hci) fun x hx=>?_
  have hx1:=hrec x (List.mem_of_getElem? hx)
  have hx2:=done_p (normR x) (norm_sm (hS.l x (List.mem_of_getElem? hx)))
  have hta:=all_take hx
  have hat:=rowE_at (enc:=fun x=>cellsR (normR x)) (Z:=Z) hx
  have hln:(rowE (fun x=>cellsR (normR x)) Z p.l i).length=p.l.length:=rowE_len hi
  have hln':(rowE (fun x=>cellsR (normR x)) Z p.l (i+1)).length=p.l.length:=rowE_len (by omega)
  refine y_ ?_
  refine j_ rfl (encRl_at hx) (encR_eq x) ?_
  (refine b_ fun bx=>?_;refine y_ ?_)
  refine n_ hx1 ?_
  refine A.indexRow rfl rfl rfl rfl rfl rfl rfl rfl (by show (0:Int)≤(i:Nat);omega) (by rw [hln];omega) rfl ?_
  refine A.storeRow rfl rfl rfl rfl rfl rfl rfl rfl rfl (by rw [hln];show i<_;omega) (xs':=rowE (fun x=>cellsR (normR x)) Z p.l (i+1)) (rowE_set (enc:=fun x=>cellsR (normR x)) (i:=i) hx) ?_
  refine y_ ?_
  ((fail_if_success (refine A.lit? rfl ?_));refine A.gS rfl (fun hc=>?_) (fun hc=>?_))
  ·have hc1:((p.l.take i).map normR).all doneR=true:=hc
   rw [hc1,Bool.true_and] at hta
   refine y_ ?_
   refine A.indexRow rfl rfl rfl rfl rfl rfl rfl rfl (by show (0:Int)≤(i:Nat);omega) (by rw [hln'];omega) rfl ?_
   refine A.loadRow rfl rfl rfl rfl rfl rfl (y':=cellsR (normR x)) rfl hat rfl rfl ?_
   refine c_ hx2 ?_
   refine A.valE 4 rfl (x':=AB (((p.l.take (i+1)).map normR).all doneR)) (ab_eq hta.symm) ?_
   refine A.valE 19 rfl (x':=AI ((i+1:Nat):Int)) (inc_eq i (by omega)) ?_
   refine l_ (Λ':=[.row 8 (.slice a p.l.length cp) (rowE (fun x=>cellsR (normR x)) Z p.l (i+1)), .box b2 Z, .box b1 (cellsR p)]) ?_
   refine u_ (ih (i+1) (by omega) (by omega))
  ·have hc1:((p.l.take i).map normR).all doneR=false:=hc
   rw [hc1,Bool.false_and] at hta
   refine y_ ?_
   refine A.valE 4 rfl (x':=AB (((p.l.take (i+1)).map normR).all doneR)) (ab_eq (by rw [hta])) ?_
   refine A.valE 19 rfl (x':=AI ((i+1:Nat):Int)) (inc_eq i (by omega)) ?_
   refine l_ (Λ':=[.row 8 (.slice a p.l.length cp) (rowE (fun x=>cellsR (normR x)) Z p.l (i+1)), .box b2 Z, .box b1 (cellsR p)]) ?_
   refine u_ (ih (i+1) (by omega) (by omega))
 have hci: ¬i<p.l.length:=by simpa using hc
 have hil:i=p.l.length:=by omega
 clear hc
 refine A.entsEq (Λ':=[.row 8 (.slice a p.l.length cp) (encRl (p.l.map normR)), .box b2 (.ag [AU8 0,AI 0,AI 0,AU8 0, .v (.slice none 0 0), .v (.slice none 0 0), .v (.slice none 0 0), .v (.slice none 0 0)]), .box b1 (cellsR p)]) (by rw [hil,rowE_full,encRl_cells,List.map_map,hZ];rfl) ?_
 refine y_ ?_
 ((fail_if_success (refine A.lit? rfl ?_));refine A.gS rfl (fun hc=>?_) (fun hc=>?_))
 ·have hc1:((p.l.take i).map normR).all doneR=true:=hc
  rw [hil,List.take_length] at hc1
  rw [if_pos hc1] at hR
  rw [hR]
  refine y_ ?_
  refine c_ skip_p ?_;refine A.retC (Λ':=[]) rfl rfl rfl rfl rfl (List.nil_sublist _) ⟨?_,rfl⟩;exact .refl
 ·have hc1:((p.l.take i).map normR).all doneR=false:=hc
  rw [hil,List.take_length] at hc1
  rw [if_neg (by rw [hc1];decide)] at hR
  rw [hR]
  refine A.freezeRow 3 rfl ?_
  refine y_ ?_;refine A.retC (Λ':=[]) rfl rfl rfl rfl rfl (List.nil_sublist _) ⟨?_,rfl⟩;exact .refl
theorem pnormE{p:PR}(h:bothB p=false)(h':p.kind≠9):Pure Tryz.prog gs0 45 [cellsR p] (cellsR p):=by
 have h1:=branches_p p
 rw [h] at h1
 refine p_ tt_ok Tryz.func45 74 fun w0 h0 F hgs=>?_
 (refine b_ fun bx=>?_;refine b_ fun bx=>?_;refine y_ ?_)
 refine c_ h1 ?_
 refine e_ 42 rfl (x':=AB false) (ab_eq (beq_eq_false_iff_ne.2 h')) ?_;refine A.retC (Λ':=[]) rfl rfl rfl rfl rfl (List.nil_sublist _) ⟨?_,rfl⟩;exact .refl
theorem pnormS(p:PR)(h9:p.kind=9)(hs:smR p)(hl:p.l.length≤134217728)(hrec: ∀x,x∈p.l→Pure Tryz.prog gs0 45 [cellsR x] (cellsR (normR x))):Pure Tryz.prog gs0 45 [cellsR p] (cellsR (normR p)):=by
 have h1:=branches_p p
 have hb:bothB p=false:=by unfold bothB;rw [h9];rfl
 rw [hb] at h1
 have hS:=smR_all hs
 obtain ⟨k,c,v,it,to,e,gs,l⟩:=p
 have h9:k=9:=h9
 subst h9
 refine Exists.elim (show∃R,R=normR ⟨9,c,v,it,to,e,gs,l⟩ from ⟨_,rfl⟩) fun R hR=>?_
 rw [←hR]
 rw [normR_seq (p:=⟨9,c,v,it,to,e,gs,l⟩) rfl] at hR
 generalize hf:(fun l':List PR=>(⟨9,c,v,it,to,e,gs,l'⟩:PR))=f at hR
 refine p_ tt_ok Tryz.func45 74 fun w0 h0 F hgs=>?_
 (repeat refine A.s rfl ?_)
 refine A.b rfl fun b1=>?_
 refine A.b rfl fun b2=>?_
 refine y_ ?_
 refine c_ h1 ?_
 refine A.keep [1,2,7] rfl ?_
 refine Exists.elim (show∃Z,Z=AV.ag [AU8 0,AI 0,AI 0,AU8 0, .v (.slice none 0 0), .v (.slice none 0 0), .v (.slice none 0 0), .v (.slice none 0 0)] from ⟨_,rfl⟩) fun Z hZ=>?_
 refine A.entsEq (Λ':=[.box b2 Z, .box b1 (cellsR ⟨9,c,v,it,to,e,gs,l⟩)]) (by rw [hZ];rfl) ?_
 refine A.loopP (ι:=List PR) (fun r=>(⟨[(1, .v (.pointer (some ⟨b1,0,none⟩))),(2, .v (.pointer (some ⟨b2,0,none⟩))),(7,rsA r)],[]⟩,[.box b2 Z, .box b1 (cellsR ⟨9,c,v,it,to,e,gs,l⟩)]))
  (fun r=>R=normSq f r∧(∀x,x∈r→x∈l)∧r.length≤l.length) (fun r=>r.length) l ⟨hR,fun x hx=>hx,Nat.le_refl _⟩ rfl fun r hr ih=>?_
 obtain ⟨hr1,hr2,hr3⟩:=hr
 have hl:l.length≤134217728:=hl
 cases r with
 |nil=>
  refine y_ ?_
  refine A.valE 50 rfl (x':=AB false) (ab_eq (by rw [encRl];rfl)) ?_
  refine n_ skip_p ?_
  rw [hr1,normSq_0]
  rw [hZ]
  refine y_ ?_;refine A.retC (Λ':=[]) rfl rfl rfl rfl rfl (List.nil_sublist _) ⟨?_,rfl⟩;exact .refl
 |cons x s=>
  have hx1:=hrec x (hr2 x (.head _))
  have hx2:=done_p (normR x) (norm_sm (hS.l x (hr2 x (.head _))))
  have hlen:((encRl (x::s)).length:Int)=s.length+1:=by rw [encRl_len,List.length_cons];rfl
  have hl2:s.length+1≤l.length:=hr3
  have hat:(encRl (x::s))[(0:Int).toNat]? =some (encR x):=encRl_at rfl
  rw [hZ]
  refine y_ ?_
  refine e_ 50 rfl (x':=AB true) (ab_eq (by rw [decide_eq_true_iff,hlen];omega)) ?_
  refine i_ rfl hat (encR_eq x) ?_
  refine n_ hx1 ?_
  cases s with
  |nil=>
   (refine b_ fun bx=>?_;refine y_ ?_)
   refine A.valE 59 rfl (x':=AB true) (ab_eq (by rw [hlen];rfl)) ?_
   rw [hr1,normSq_1]
   refine A.retC (Λ':=[]) rfl rfl rfl rfl rfl (List.nil_sublist _) ⟨?_,rfl⟩;exact .refl
  |cons y s=>
   have hl3:s.length+2≤l.length:=hl2
   rw [normSq_2] at hr1
   by_cases hd:doneR (normR x)=true
   ·rw [hd] at hx2
    rw [if_pos hd] at hr1
    (refine b_ fun bx=>?_;refine y_ ?_)
    refine A.valE 59 rfl (x':=AB false) (ab_eq (by rw [hlen,List.length_cons,beq_eq_false_iff_ne];omega)) ?_
    refine c_ hx2 ?_
    refine A.slice (ys:=encRl (y::s)) rfl rfl rfl rfl rfl rfl rfl rfl rfl (by decide) (by rw [hlen];omega) (by omega) (by rw [encRl_cons x];simp) rfl ?_
    refine y_ ?_
    refine A.less (Λ':=[.box b2 Z, .box b1 (cellsR ⟨9,c,v,it,to,e,gs,l⟩)]) (by rw [hZ];exact sl_) ?_
    refine u_ (ih (y::s) ⟨hr1,fun z hz=>hr2 z (.tail _ hz),by rw [List.length_cons];omega⟩ (by simp))
   ·have hd':doneR (normR x)=false:=by simpa using hd
    have hc1:=concat_p [cellsR (normR x)] (encRl (y::s)) Nat.one_pos (by rw [encRl_len,List.length_cons];show 1+_≤_;omega)
    rw [hd'] at hx2
    rw [if_neg hd,←hf] at hr1
    rw [hr1]
    (refine b_ fun bx=>?_;refine y_ ?_)
    refine A.valE 59 rfl (x':=AB false) (ab_eq (by rw [hlen,List.length_cons,beq_eq_false_iff_ne];omega)) ?_
    refine c_ hx2 ?_
    refine A.draw 6 [0,1,2,3,4,5] (fun i=>if i=5 then [1,4] else []) [(5, .sl 8 ([cellsR (normR x)]++encRl (y::s)) none)] (by kernel_rfl) (by kernel_rfl) ?_
    refine w_ ?_
    refine WA.lit rfl rfl rfl rfl rfl rfl rfl fun bw=>?_
    refine w_ ?_
    refine WA.slice (ys:=encRl (y::s)) rfl rfl rfl rfl rfl rfl rfl rfl rfl rfl (by decide) (by rw [hlen];omega) (by omega) (by rw [encRl_cons x];simp) rfl ?_
    refine WA.lit rfl rfl rfl rfl rfl rfl rfl fun bw=>?_
    refine WA.c rfl rfl hc1 (by repeat (first|exact SbPL.sub SbL.refl|refine SbPL.cons ?_ ?_|exact SbP.sub Sb.refl|refine SbP.pub (j:=1) rfl rfl ?_|refine SbP.pub (j:=4) rfl rfl ?_|exact SbP.sub Sb.own1|exact SbP.sub Sb.nil|focus (refine SbP.sub ?_;(repeat (first|exact Sb.refl|exact SbL.refl|refine SbL.cons ?_ ?_|exact Sb.nil|exact Sb.own1|refine Sb.own ?_|refine Sb.ag ?_|refine Sb.tp ?_));done))) ?_
    refine z_ ?_
    refine A.retC (Λ':=[]) rfl rfl rfl rfl rfl (List.nil_sublist _) ⟨?_,rfl⟩
    show Sb _ (.ag [AU8 9,AI c,AI v,AU8 it,plsA to,kesA e,gsA gs, .sl 8 (encRl (normR x::y::s)) none])
    rw [encRl_cons (normR x)]
    exact .refl
theorem norm_p_n: ∀(m:Nat) (p:PR),SizeOf.sizeOf p≤m→smR p→tgR p→Pure Tryz.prog gs0 45 [cellsR p] (cellsR (normR p))
 |0,p,h,_,_=>by
  obtain ⟨k,c,v,i,to,e,gs,l⟩:=p
  simp only [PR.mk.sizeOf_spec] at h;omega
 |m+1,p,h,hs,ht=>by
  have hS:=smR_all hs
  have hT:=tgR_l ht
  have hrec: ∀x,x∈p.l→Pure Tryz.prog gs0 45 [cellsR x] (cellsR (normR x)):=fun x hx=>norm_p_n m x (by have:=pr_lt hx;omega) (hS.l x hx) (hT.2 x hx)
  cases hb:bothB p with
  |true=>exact pnormP_a p hb hs hrec
  |false=>
   by_cases h9:p.kind=9
   ·exact pnormS p h9 hs hT.1 hrec
   ·rw [normR_else hb h9];exact pnormE hb h9
theorem norm_p(p:PR)(hs:smR p)(ht:tgR p):Pure Tryz.prog gs0 45 [cellsR p] (cellsR (normR p)):=norm_p_n _ p (Nat.le_refl _) hs ht
theorem skip_nf:normR skipR=skipR:=by rw [normR_else rfl (by decide)]
theorem normSq_nf(f:List PR→PR)(hf: ∀l,normR (f l)=normSq f l): ∀l:List PR,(∀x,x∈l→normR (normR x)=normR x)→normR (normSq f l)=normSq f l
 | [],_=>by rw [normSq_0];exact skip_nf
 | [x],h=>by rw [normSq_1];exact h x (.head _)
 |x::y::s,h=>by
  rw [normSq_2]
  split
  ·exact normSq_nf f hf (y::s) fun z hz=>h z (.tail _ hz)
  ·rename_i hd
   rw [hf,normSq_2,h x (.head _),if_neg hd]
theorem norm_nf_n: ∀(m:Nat) (p:PR),SizeOf.sizeOf p≤m→normR (normR p)=normR p
 |0,p,h=>by
  obtain ⟨k,c,v,i,to,e,gs,l⟩:=p
  simp only [PR.mk.sizeOf_spec] at h;omega
 |m+1,p,h=>by
  have hL: ∀x,x∈p.l→normR (normR x)=normR x:=fun x hx=>norm_nf_n m x (by have:=pr_lt hx;omega)
  cases hb:bothB p with
  |true=>
   rw [normR_par hb]
   split
   ·exact skip_nf
   ·rename_i hd
    have e:(p.l.map normR).map normR=p.l.map normR:=by rw [List.map_map];exact List.map_congr_left hL
    rw [normR_par (p:=⟨p.kind,p.c,p.v,p.item,p.to,p.e,p.gs,p.l.map normR⟩) hb]
    show (if ((p.l.map normR).map normR).all doneR=true then skipR else ⟨p.kind,p.c,p.v,p.item,p.to,p.e,p.gs,(p.l.map normR).map normR⟩)=_
    rw [e,if_neg hd]
  |false=>
   by_cases h9:p.kind=9
   ·rw [normR_seq h9]
    exact normSq_nf _ (fun l=>normR_seq (p:=⟨p.kind,p.c,p.v,p.item,p.to,p.e,p.gs,l⟩) h9) p.l hL
   ·rw [normR_else hb h9,normR_else hb h9]
theorem norm_nf(p:PR):normR (normR p)=normR p:=norm_nf_n _ p (Nat.le_refl _)
mutual
def nfR:PR→Prop
 |⟨k,_,_,_,_,_,_,l⟩=>if k=9 then nfS l else if k=10∨k=11 then l.all doneR=false∧nfL l else True
def nfS:List PR→Prop
 | []=>False
 |x::r=>match r with
  | []=>False
  |_::_=>doneR x=false∧nfR x
def nfL:List PR→Prop
 | []=>True
 |x::r=>nfR x∧nfL r
end
theorem nfR_eq(p:PR):nfR p↔if p.kind=9 then nfS p.l else if p.kind=10∨p.kind=11 then p.l.all doneR=false∧nfL p.l else True:=by
 obtain ⟨k,c,v,i,to,e,gs,l⟩:=p
 rw [nfR]
theorem nfL_mem: ∀{l:List PR},nfL l→ ∀x,x∈l→nfR x
 | [],_,x,h=>by cases h
 |y::r,hw,x,h=>by
  rw [nfL] at hw
  rcases List.mem_cons.1 h with rfl|h
  ·exact hw.1
  ·exact nfL_mem hw.2 x h
theorem nfL_of: ∀{l:List PR},(∀x,x∈l→nfR x)→nfL l
 | [],_=>by rw [nfL];trivial
 |y::r,h=>by rw [nfL];exact ⟨h y (.head _),nfL_of fun x hx=>h x (.tail _ hx)⟩
theorem nfS_2{x y:PR}{s:List PR}:nfS (x::y::s)↔doneR x=false∧nfR x:=by rw [nfS]
theorem nf_skip:nfR skipR:=by
 rw [nfR_eq,if_neg (show¬skipR.kind=9 from by show¬(1:Int)=9;decide),if_neg (show¬(skipR.kind=10∨skipR.kind=11) from by show¬((1:Int)=10∨(1:Int)=11);decide)]
 trivial
theorem normSq_is(f:List PR→PR)(hf: ∀l,nfS l→nfR (f l)): ∀l:List PR,(∀x,x∈l→nfR (normR x))→nfR (normSq f l)
 | [],_=>by rw [normSq_0];exact nf_skip
 | [x],h=>by rw [normSq_1];exact h x (.head _)
 |x::y::s,h=>by
  rw [normSq_2]
  split
  ·exact normSq_is f hf (y::s) fun z hz=>h z (.tail _ hz)
  ·rename_i hd
   exact hf _ (nfS_2.2 ⟨by simpa using hd,h x (.head _)⟩)
theorem norm_is_n: ∀(m:Nat) (p:PR),SizeOf.sizeOf p≤m→nfR (normR p)
 |0,p,h=>by
  obtain ⟨k,c,v,i,to,e,gs,l⟩:=p
  simp only [PR.mk.sizeOf_spec] at h;omega
 |m+1,p,h=>by
  have hL: ∀x,x∈p.l→nfR (normR x):=fun x hx=>norm_is_n m x (by have:=pr_lt hx;omega)
  cases hb:bothB p with
  |true=>
   rw [normR_par hb]
   split
   ·exact nf_skip
   ·rename_i hd
    have hb':p.kind=10∨p.kind=11:=by simpa [bothB] using hb
    rw [nfR_eq]
    show if p.kind=9 then _ else if p.kind=10∨p.kind=11 then (p.l.map normR).all doneR=false∧nfL (p.l.map normR) else True
    rw [if_neg (by omega),if_pos hb']
    refine ⟨by simpa using hd,nfL_of fun x hx=>?_⟩
    rw [List.mem_map] at hx
    obtain ⟨y,hy,rfl⟩:=hx
    exact hL y hy
  |false=>
   by_cases h9:p.kind=9
   ·rw [normR_seq h9]
    refine normSq_is _ (fun l hl=>?_) p.l hL
    rw [nfR_eq]
    show if p.kind=9 then nfS l else _
    rw [if_pos h9];exact hl
   ·have hb': ¬(p.kind=10∨p.kind=11):=by simpa [bothB] using hb
    rw [normR_else hb h9,nfR_eq,if_neg h9,if_neg hb'];trivial
theorem norm_is(p:PR):nfR (normR p):=norm_is_n _ p (Nat.le_refl _)
mutual
def wtR:PR→Nat
 |⟨k,_,_,_,_,_,gs,l⟩=>if k=9 then szGs gs+wtS l else if k=10∨k=11 then 2+szGs gs+wtL l else 2+szL l+szGs gs+wtL l+wtGs gs
def wtS:List PR→Nat
 | []=>2
 |x::r=>match r with
  | []=>wtR x
  |y::s=>max (1+wtR x+szL (y::s)) (wtS r)
def wtL:List PR→Nat
 | []=>0
 |x::r=>wtR x+wtL r
def wtG:GD→Nat
 |⟨_,_,_,_,_,_,b⟩=>wtL b
def wtGs:List GD→Nat
 | []=>0
 |g::r=>wtG g+wtGs r
end
mutual
def dwR:PR→Nat
 |⟨k,_,_,_,_,_,gs,l⟩=>if k=9 then max (1+htGs gs) (dwS l) else if k=10∨k=11 then 1+max (max 1 (htGs gs)) (dwL l) else 1+max (1+max (htL l) (htGs gs)) (max (dwL l) (dwGs gs))
def dwS:List PR→Nat
 | []=>2
 |x::r=>match r with
  | []=>dwR x
  |y::s=>max (1+max (dwR x) (htL (y::s))) (dwS r)
def dwL:List PR→Nat
 | []=>0
 |x::r=>max (dwR x) (dwL r)
def dwG:GD→Nat
 |⟨_,_,_,_,_,_,b⟩=>dwL b
def dwGs:List GD→Nat
 | []=>0
 |g::r=>max (dwG g) (dwGs r)
end
theorem wtR_eq(p:PR):wtR p=if p.kind=9 then szGs p.gs+wtS p.l else if p.kind=10∨p.kind=11 then 2+szGs p.gs+wtL p.l else 2+szL p.l+szGs p.gs+wtL p.l+wtGs p.gs:=by
 obtain ⟨k,c,v,i,to,e,gs,l⟩:=p
 rw [wtR]
theorem dwR_eq(p:PR):dwR p=if p.kind=9 then max (1+htGs p.gs) (dwS p.l) else if p.kind=10∨p.kind=11 then 1+max (max 1 (htGs p.gs)) (dwL p.l) else 1+max (1+max (htL p.l) (htGs p.gs)) (max (dwL p.l) (dwGs p.gs)):=by
 obtain ⟨k,c,v,i,to,e,gs,l⟩:=p
 rw [dwR]
theorem wtS_1(x:PR):wtS [x]=wtR x:=by rw [wtS]
theorem wtS_2(x y:PR)(s:List PR):wtS (x::y::s)=max (1+wtR x+szL (y::s)) (wtS (y::s)):=by rw [wtS]
theorem dwS_1(x:PR):dwS [x]=dwR x:=by rw [dwS]
theorem dwS_2(x y:PR)(s:List PR):dwS (x::y::s)=max (1+max (dwR x) (htL (y::s))) (dwS (y::s)):=by rw [dwS]
theorem wtG_eq(g:GD):wtG g=wtL g.body:=by obtain ⟨k,e,c,i,to,t,b⟩:=g;rw [wtG]
theorem dwG_eq(g:GD):dwG g=dwL g.body:=by obtain ⟨k,e,c,i,to,t,b⟩:=g;rw [dwG]
theorem wt_skip:wtR skipR=2:=by
 rw [wtR_eq,if_neg (show¬skipR.kind=9 from by show¬(1:Int)=9;decide),if_neg (show¬(skipR.kind=10∨skipR.kind=11) from by show¬((1:Int)=10∨(1:Int)=11);decide)]
 simp [skipR,szL,szGs,wtL,wtGs]
theorem dw_skip:dwR skipR=2:=by
 rw [dwR_eq,if_neg (show¬skipR.kind=9 from by show¬(1:Int)=9;decide),if_neg (show¬(skipR.kind=10∨skipR.kind=11) from by show¬((1:Int)=10∨(1:Int)=11);decide)]
 simp [skipR,htL,htGs,dwL,dwGs]
theorem wt_stop:wtR stopR=2:=by
 rw [wtR_eq,if_neg (show¬stopR.kind=9 from by show¬(2:Int)=9;decide),if_neg (show¬(stopR.kind=10∨stopR.kind=11) from by show¬((2:Int)=10∨(2:Int)=11);decide)]
 simp [stopR,szL,szGs,wtL,wtGs]
theorem dw_stop:dwR stopR=2:=by
 rw [dwR_eq,if_neg (show¬stopR.kind=9 from by show¬(2:Int)=9;decide),if_neg (show¬(stopR.kind=10∨stopR.kind=11) from by show¬((2:Int)=10∨(2:Int)=11);decide)]
 simp [stopR,htL,htGs,dwL,dwGs]
theorem wtL_mono{f:PR→PR}: ∀{l:List PR},(∀x,x∈l→wtR (f x)≤wtR x)→wtL (l.map f)≤wtL l
 | [],_=>Nat.le_refl _
 |x::r,h=>by
  rw [List.map_cons,wtL,wtL]
  have:=h x (.head _)
  have:=wtL_mono (l:=r) fun y hy=>h y (.tail _ hy)
  omega
theorem dwL_mono{f:PR→PR}: ∀{l:List PR},(∀x,x∈l→dwR (f x)≤dwR x)→dwL (l.map f)≤dwL l
 | [],_=>Nat.le_refl _
 |x::r,h=>by
  rw [List.map_cons,dwL,dwL]
  have:=h x (.head _)
  have:=dwL_mono (l:=r) fun y hy=>h y (.tail _ hy)
  omega
theorem normSq_wt(f:List PR→PR)(c:Nat)(hf: ∀l,wtR (f l)=c+wtS l): ∀l:List PR,(∀x,x∈l→wtR (normR x)≤wtR x)→wtR (normSq f l)≤c+wtS l
 | [],_=>by rw [normSq_0,wt_skip,wtS];omega
 | [x],h=>by rw [normSq_1,wtS_1];have:=h x (.head _);omega
 |x::y::s,h=>by
  rw [normSq_2,wtS_2]
  split
  ·have:=normSq_wt f c hf (y::s) fun z hz=>h z (.tail _ hz)
   omega
  ·rw [hf,wtS_2]
   have:=h x (.head _)
   omega
theorem normSq_dw(f:List PR→PR)(c:Nat)(hf: ∀l,dwR (f l)=max c (dwS l)): ∀l:List PR,(∀x,x∈l→dwR (normR x)≤dwR x)→dwR (normSq f l)≤max c (dwS l)
 | [],_=>by rw [normSq_0,dw_skip,dwS];omega
 | [x],h=>by rw [normSq_1,dwS_1];have:=h x (.head _);omega
 |x::y::s,h=>by
  rw [normSq_2,dwS_2]
  split
  ·have:=normSq_dw f c hf (y::s) fun z hz=>h z (.tail _ hz)
   omega
  ·rw [hf,dwS_2]
   have:=h x (.head _)
   omega
theorem norm_wt_n: ∀(m:Nat) (p:PR),SizeOf.sizeOf p≤m→wtR (normR p)≤wtR p∧dwR (normR p)≤dwR p
 |0,p,h=>by
  obtain ⟨k,c,v,i,to,e,gs,l⟩:=p
  simp only [PR.mk.sizeOf_spec] at h;omega
 |m+1,p,h=>by
  have hL: ∀x,x∈p.l→wtR (normR x)≤wtR x∧dwR (normR x)≤dwR x:=fun x hx=>norm_wt_n m x (by have:=pr_lt hx;omega)
  cases hb:bothB p with
  |true=>
   have hb':p.kind=10∨p.kind=11:=by simpa [bothB] using hb
   have e1:=wtR_eq p
   have e2:=dwR_eq p
   rw [if_neg (by omega),if_pos hb'] at e1 e2
   rw [normR_par hb,e1,e2]
   split
   ·rw [wt_skip,dw_skip];omega
   ·have a1:=wtL_mono fun x hx=>(hL x hx).1
    have a2:=dwL_mono fun x hx=>(hL x hx).2
    rw [wtR_eq,dwR_eq]
    show (if p.kind=9 then _ else if p.kind=10∨p.kind=11 then 2+szGs p.gs+wtL (p.l.map normR) else _)≤_∧(if p.kind=9 then _ else if p.kind=10∨p.kind=11 then 1+max (max 1 (htGs p.gs)) (dwL (p.l.map normR)) else _)≤_
    rw [if_neg (by omega),if_pos hb',if_neg (by omega),if_pos hb']
    omega
  |false=>
   by_cases h9:p.kind=9
   ·rw [normR_seq h9,wtR_eq p,dwR_eq p,if_pos h9,if_pos h9]
    refine ⟨normSq_wt _ (szGs p.gs) (fun l=>?_) p.l fun x hx=>(hL x hx).1,normSq_dw _ (1+htGs p.gs) (fun l=>?_) p.l fun x hx=>(hL x hx).2⟩
    ·rw [wtR_eq];show (if p.kind=9 then szGs p.gs+wtS l else _)=_;rw [if_pos h9]
    ·rw [dwR_eq];show (if p.kind=9 then max (1+htGs p.gs) (dwS l) else _)=_;rw [if_pos h9]
   ·rw [normR_else hb h9];exact ⟨Nat.le_refl _,Nat.le_refl _⟩
theorem norm_wt(p:PR):wtR (normR p)≤wtR p:=(norm_wt_n _ p (Nat.le_refl _)).1
theorem norm_dw(p:PR):dwR (normR p)≤dwR p:=(norm_wt_n _ p (Nat.le_refl _)).2
theorem nfL_sz: ∀{l:List PR},(∀x,x∈l→szR x≤wtR x∧htR x≤dwR x)→szL l≤wtL l∧htL l≤dwL l
 | [],_=>by rw [szL,wtL,htL,dwL];omega
 |x::r,h=>by
  have h1:=h x (.head _)
  have h2:=nfL_sz (l:=r) fun y hy=>h y (.tail _ hy)
  rw [szL,wtL,htL,dwL];omega
theorem nf_sz_n: ∀(m:Nat) (p:PR),SizeOf.sizeOf p≤m→nfR p→szR p≤wtR p∧htR p≤dwR p
 |0,p,h,_=>by
  obtain ⟨k,c,v,i,to,e,gs,l⟩:=p
  simp only [PR.mk.sizeOf_spec] at h;omega
 |m+1,p,h,hn=>by
  have hL: ∀x,x∈p.l→nfR x→szR x≤wtR x∧htR x≤dwR x:=fun x hx hn=>nf_sz_n m x (by have:=pr_lt hx;omega) hn
  rw [nfR_eq] at hn
  rw [szR_eq,htR_eq,wtR_eq,dwR_eq]
  by_cases h9:p.kind=9
  ·rw [if_pos h9] at hn
   rw [if_pos h9,if_pos h9]
   match hl:p.l,hn with
   |x::y::s,hn=>
    rw [nfS_2] at hn
    have:=hL x (by rw [hl];exact .head _) hn.2
    rw [wtS_2,dwS_2,szL,htL];omega
  ·rw [if_neg h9] at hn
   rw [if_neg h9,if_neg h9]
   by_cases hb:p.kind=10∨p.kind=11
   ·rw [if_pos hb] at hn
    rw [if_pos hb,if_pos hb]
    have:=nfL_sz fun x hx=>hL x hx (nfL_mem hn.2 x hx)
    omega
   ·rw [if_neg hb,if_neg hb];omega
theorem nf_sz{p:PR}(h:nfR p):szR p≤wtR p:=(nf_sz_n _ p (Nat.le_refl _) h).1
theorem nf_ht{p:PR}(h:nfR p):htR p≤dwR p:=(nf_sz_n _ p (Nat.le_refl _) h).2
theorem gg_lt{p:PR}{g:GD}(h:g∈p.gs):SizeOf.sizeOf g<SizeOf.sizeOf p:=by
 obtain ⟨k,c,v,i,to,e,gs,l⟩:=p
 have:=List.sizeOf_lt_of_mem h
 simp only [PR.mk.sizeOf_spec,PR.gs] at this⊢
 omega
theorem bd_lt{g:GD}{x:PR}(h:x∈g.body):SizeOf.sizeOf x<SizeOf.sizeOf g:=by
 obtain ⟨k,e,c,i,to,t,b⟩:=g
 have:=List.sizeOf_lt_of_mem h
 simp only [GD.mk.sizeOf_spec,GD.body] at this⊢
 omega
theorem wtL_le: ∀{l:List PR} {H:Nat},(∀x,x∈l→wtR x≤(htR x+2)*szR x∧dwR x≤2*htR x)→htL l≤H→wtL l≤(H+2)*szL l∧dwL l≤2*htL l
 | [],H,_,_=>by rw [wtL,szL,dwL,htL];omega
 |x::r,H,h,hh=>by
  rw [htL] at hh
  have h1:=h x (.head _)
  have h2:=wtL_le (l:=r) (H:=H) (fun y hy=>h y (.tail _ hy)) (by omega)
  have h3:(htR x+2)*szR x≤(H+2)*szR x:=Nat.mul_le_mul_right _ (by omega)
  rw [wtL,szL,dwL,htL,Nat.mul_add];omega
theorem wtGs_le: ∀{l:List GD} {H:Nat},(∀g,g∈l→ ∀x,x∈g.body→wtR x≤(htR x+2)*szR x∧dwR x≤2*htR x)→htGs l≤H→wtGs l≤(H+2)*szGs l∧dwGs l≤2*htGs l
 | [],H,_,_=>by rw [wtGs,szGs,dwGs,htGs];omega
 |g::r,H,h,hh=>by
  rw [htGs,htG_eq] at hh
  have h1:=wtL_le (l:=g.body) (H:=H) (h g (.head _)) (by omega)
  have h2:=wtGs_le (l:=r) (H:=H) (fun y hy=>h y (.tail _ hy)) (by omega)
  rw [wtGs,szGs,dwGs,htGs,Nat.mul_add,wtG_eq,szG_eq,dwG_eq,htG_eq];omega
theorem wtS_le: ∀{l:List PR} {H:Nat},(∀x,x∈l→wtR x≤(htR x+2)*szR x∧dwR x≤2*htR x)→htL l≤H→wtS l≤(H+3)*(1+szL l)∧dwS l≤2*(1+htL l)
 | [],H,_,_=>by rw [wtS,szL,dwS,htL];omega
 | [x],H,h,hh=>by
   rw [htL,htL] at hh
   have h1:=h x (.head _)
   have h3:(htR x+2)*szR x≤(H+3)*(1+szR x):=Nat.mul_le_mul (by omega) (by omega)
   rw [wtS_1,szL,szL,dwS_1,htL,htL,show 1+(szR x+0)=1+szR x from rfl];omega
 |x::y::s,H,h,hh=>by
  have hh':=hh
  rw [htL] at hh
  have h1:=h x (.head _)
  have h2:=wtS_le (l:=y::s) (H:=H) (fun z hz=>h z (.tail _ hz)) (by omega)
  have h3:(htR x+2)*szR x≤(H+3)*szR x:=Nat.mul_le_mul_right _ (by omega)
  have h4:1*szL (y::s)≤(H+3)*szL (y::s):=Nat.mul_le_mul_right _ (by omega)
  have e1:(H+3)*(1+szL (y::s))=(H+3)+(H+3)*szL (y::s):=by rw [Nat.mul_add,Nat.mul_one]
  have e2:(H+3)*(1+szL (x::y::s))=(H+3)+(H+3)*szR x+(H+3)*szL (y::s):=by rw [szL,Nat.mul_add,Nat.mul_add,Nat.mul_one];omega
  rw [wtS_2,dwS_2,e2]
  rw [e1] at h2
  rw [show htL (x::y::s)=max (htR x) (htL (y::s)) by rw [htL]]
  omega
theorem wt_le_n: ∀(m:Nat) (p:PR),SizeOf.sizeOf p≤m→wtR p≤(htR p+2)*szR p∧dwR p≤2*htR p
 |0,p,h=>by
  obtain ⟨k,c,v,i,to,e,gs,l⟩:=p
  simp only [PR.mk.sizeOf_spec] at h;omega
 |m+1,p,h=>by
  have hL: ∀x,x∈p.l→wtR x≤(htR x+2)*szR x∧dwR x≤2*htR x:=fun x hx=>wt_le_n m x (by have:=pr_lt hx;omega)
  have hG: ∀g,g∈p.gs→ ∀x,x∈g.body→wtR x≤(htR x+2)*szR x∧dwR x≤2*htR x:=fun g hg x hx=>wt_le_n m x (by have:=gg_lt hg;have:=bd_lt hx;omega)
  have eh:=htR_eq p
  have es:=szR_eq p
  generalize hH:max (htL p.l) (htGs p.gs)=H at eh
  have a1:=wtL_le hL (H:=H) (by omega)
  have a2:=wtGs_le hG (H:=H) (by omega)
  have a3:=wtS_le hL (H:=H) (by omega)
  have e1:(htR p+2)*szR p=(H+3)+(H+3)*szL p.l+(H+3)*szGs p.gs:=by rw [eh,es,Nat.mul_add,Nat.mul_add,Nat.mul_one,show 1+H+2=H+3 by omega]
  have e2:(H+3)*szL p.l=(H+2)*szL p.l+szL p.l:=by rw [←Nat.succ_mul]
  have e3:(H+3)*szGs p.gs=(H+2)*szGs p.gs+szGs p.gs:=by rw [←Nat.succ_mul]
  have e4:(H+3)*(1+szL p.l)=(H+3)+(H+3)*szL p.l:=by rw [Nat.mul_add,Nat.mul_one]
  rw [e4] at a3
  rw [wtR_eq,dwR_eq,e1,eh]
  split
  ·omega
  ·split<;>omega
theorem wt_le(p:PR):wtR p≤(htR p+2)*szR p:=(wt_le_n _ p (Nat.le_refl _)).1
theorem dw_le(p:PR):dwR p≤2*htR p:=(wt_le_n _ p (Nat.le_refl _)).2
mutual
def okF(I:PR→Prop)(next high:Bool):PR→Prop
 |⟨k,c,v,i,to,e,gs,l⟩=>(I ⟨k,c,v,i,to,e,gs,l⟩∧(k=16→next=true)∧(k=11→high=false))∧okFl I (next&&(k==9||k==10||k==11)) (next&&(k==10||k==11)) (high||k==11) high l∧okFs I high gs
def okFl(I:PR→Prop)(n0 n1 h0 h1:Bool):List PR→Prop
 | []=>True
 |p::r=>okF I n0 h0 p∧okFl I n1 n1 h1 h1 r
def okFg(I:PR→Prop)(high:Bool):GD→Prop
 |⟨_,_,_,_,_,_,b⟩=>okFl I false false high high b
def okFs(I:PR→Prop)(high:Bool):List GD→Prop
 | []=>True
 |g::r=>okFg I high g∧okFs I high r
end
section
variable{I:PR→Prop}
theorem okF_eq{next high:Bool}(p:PR):okF I next high p↔(I p∧(p.kind=16→next=true)∧(p.kind=11→high=false))∧okFl I (next&&(p.kind==9||p.kind==10||p.kind==11)) (next&&(p.kind==10||p.kind==11)) (high||p.kind==11) high p.l∧okFs I high p.gs:=by
 obtain ⟨k,c,v,i,to,e,gs,l⟩:=p
 rw [okF]
theorem okFg_eq{high:Bool}(g:GD):okFg I high g↔okFl I false false high high g.body:=by
 obtain ⟨k,e,c,i,to,t,b⟩:=g
 rw [okFg]
theorem okFl_1{n0 n1 h0 h1:Bool}{p:PR}{r:List PR}:okFl I n0 n1 h0 h1 (p::r)↔okF I n0 h0 p∧okFl I n1 n1 h1 h1 r:=by rw [okFl]
theorem okFl_0{n0 n1 h0 h1:Bool}:okFl I n0 n1 h0 h1 []:=by rw [okFl];trivial
theorem okFs_mem{high:Bool}: ∀{l:List GD},okFs I high l→ ∀g,g∈l→okFg I high g
 | [],_,g,h=>by cases h
 |y::r,hw,g,h=>by
  rw [okFs] at hw
  rcases List.mem_cons.1 h with rfl|h
  ·exact hw.1
  ·exact okFs_mem hw.2 g h
theorem okFs_of{high:Bool}: ∀{l:List GD},(∀g,g∈l→okFg I high g)→okFs I high l
 | [],_=>by rw [okFs];trivial
 |y::r,h=>by rw [okFs];exact ⟨h y (.head _),okFs_of fun x hx=>h x (.tail _ hx)⟩
theorem okFl_mem{n1 h1:Bool}: ∀{l:List PR},okFl I n1 n1 h1 h1 l→ ∀x,x∈l→okF I n1 h1 x
 | [],_,x,h=>by cases h
 |y::r,hw,x,h=>by
  rw [okFl] at hw
  rcases List.mem_cons.1 h with rfl|h
  ·exact hw.1
  ·exact okFl_mem hw.2 x h
theorem okFl_some{n0 n1 h0 h1:Bool}{l:List PR}(hw:okFl I n0 n1 h0 h1 l){x:PR}(hx:x∈l): ∃n h,okF I n h x:=by
 cases l with
 |nil=>cases hx
 |cons y r=>
  rw [okFl] at hw
  rcases List.mem_cons.1 hx with rfl|h
  ·exact ⟨_,_,hw.1⟩
  ·exact ⟨_,_,okFl_mem hw.2 x h⟩
theorem okFl_mono{h0 h1:Bool}: ∀{l:List PR} {n0 n1 n0' n1':Bool},(∀x,x∈l→ ∀n n' h:Bool,(n=true→n'=true)→okF I n h x→okF I n' h x)→(n0=true→n0'=true)→(n1=true→n1'=true)→okFl I n0 n1 h0 h1 l→okFl I n0' n1' h0 h1 l
 | [],_,_,_,_,_,_,_,_=>okFl_0
 |x::r,n0,n1,n0',n1',hx,h,h',w=>by
  rw [okFl] at w⊢
  exact ⟨hx x (.head _) _ _ _ h w.1,go hx h' w.2⟩
where
 go {x:PR} {n1 n1' h1:Bool}: ∀{r:List PR},(∀y,y∈x::r→ ∀n n' h:Bool,(n=true→n'=true)→okF I n h y→okF I n' h y)→(n1=true→n1'=true)→okFl I n1 n1 h1 h1 r→okFl I n1' n1' h1 h1 r
 | [],_,_,_=>okFl_0
 |y::s,hx,h',w=>by
  rw [okFl] at w⊢
  refine ⟨hx y (.tail _ (.head _)) _ _ _ h' w.1,go (x:=x) (fun z hz=>hx z ?_) h' w.2⟩
  rcases List.mem_cons.1 hz with rfl|hz
  ·exact .head _
  ·exact .tail _ (.tail _ hz)
theorem okF_mono_n: ∀(m:Nat) (p:PR) (n n' h:Bool),SizeOf.sizeOf p≤m→(n=true→n'=true)→okF I n h p→okF I n' h p
 |0,p,_,_,_,h,_,_=>by
  obtain ⟨k,c,v,i,to,e,gs,l⟩:=p
  simp only [PR.mk.sizeOf_spec] at h;omega
 |m+1,p,n,n',h,hm,hn,w=>by
  rw [okF_eq] at w⊢
  obtain ⟨⟨w1,w2,w3⟩,w4,w5⟩:=w
  refine ⟨⟨w1,fun h=>hn (w2 h),w3⟩,okFl_mono (fun x hx n n' h hn w=>okF_mono_n m x n n' h (by have:=pr_lt hx;omega) hn w) (fun h=>?_) (fun h=>?_) w4,w5⟩
  ·rw [Bool.and_eq_true] at h⊢;exact ⟨hn h.1,h.2⟩
  ·rw [Bool.and_eq_true] at h⊢;exact ⟨hn h.1,h.2⟩
theorem okF_mono{p:PR}{n n' h:Bool}(hn:n=true→n'=true)(w:okF I n h p):okF I n' h p:=okF_mono_n _ p n n' h (Nat.le_refl _) hn w
structure Lax(I:PR→Prop):Prop where
 skip:I skipR
 stop:I stopR
 seq: ∀(p:PR) (l':List PR),p.kind=9→l'.length≤p.l.length→I p→I ⟨p.kind,p.c,p.v,p.item,p.to,p.e,p.gs,l'⟩
 par: ∀(p:PR) (l':List PR),l'.length=p.l.length→I p→I ⟨p.kind,p.c,p.v,p.item,p.to,p.e,p.gs,l'⟩
theorem ok_skip(L:Lax I)(n h:Bool):okF I n h skipR:=by
 rw [okF_eq]
 exact ⟨⟨L.skip,(by intro h;cases h),(by intro h;cases h)⟩,okFl_0,by show okFs I h [];rw [okFs];trivial⟩
theorem ok_stop(L:Lax I)(n h:Bool):okF I n h stopR:=by
 rw [okF_eq]
 exact ⟨⟨L.stop,(by intro h;cases h),(by intro h;cases h)⟩,okFl_0,by show okFs I h [];rw [okFs];trivial⟩
theorem normSq_ok(L:Lax I)(n h:Bool)(f:List PR→PR): ∀l:List PR,(∀l',l'.length≤l.length→okFl I n false h h l'→okF I n h (f l'))→(∀x,x∈l→ ∀n h,okF I n h x→okF I n h (normR x))→okFl I n false h h l→okF I n h (normSq f l)
 | [],_,_,_=>by rw [normSq_0];exact ok_skip L n h
 | [x],_,hx,w=>by
   rw [normSq_1]
   rw [okFl] at w
   exact hx x (.head _) _ _ w.1
 |x::y::s,hf,hx,w=>by
  have w0:=w
  rw [okFl] at w
  rw [normSq_2]
  split
  ·refine normSq_ok L n h f (y::s) (fun l' hl=>hf l' (by rw [List.length_cons];omega)) (fun z hz=>hx z (.tail _ hz)) ?_
   exact okFl_mono (fun x hx n n' h hn w=>okF_mono hn w) (by intro h;cases h) (by intro h;cases h) w.2
  ·refine hf _ (Nat.le_refl _) ?_
   rw [okFl]
   exact ⟨hx x (.head _) _ _ w.1,w.2⟩
theorem okFl_map{f:PR→PR}: ∀{l:List PR} {n0 n1 h0 h1:Bool},(∀x,x∈l→ ∀n h,okF I n h x→okF I n h (f x))→okFl I n0 n1 h0 h1 l→okFl I n0 n1 h0 h1 (l.map f)
 | [],_,_,_,_,_,_=>okFl_0
 |x::r,n0,n1,h0,h1,hx,w=>by
  rw [List.map_cons,okFl] at*
  refine ⟨hx x (.head _) _ _ w.1,?_⟩
  have:=w.2
  clear w
  induction r with
  |nil=>exact okFl_0
  |cons y s ih=>
   rw [List.map_cons,okFl] at*
   exact ⟨hx y (.tail _ (.head _)) _ _ this.1,ih (fun z hz=>hx z (by rcases List.mem_cons.1 hz with rfl|hz;exact .head _;exact .tail _ (.tail _ hz))) this.2⟩
theorem norm_ok_n(L:Lax I): ∀(m:Nat) (p:PR) (n h:Bool),SizeOf.sizeOf p≤m→okF I n h p→okF I n h (normR p)
 |0,p,_,_,h,_=>by
  obtain ⟨k,c,v,i,to,e,gs,l⟩:=p
  simp only [PR.mk.sizeOf_spec] at h;omega
 |m+1,p,n,h,hm,w=>by
  have hL: ∀x,x∈p.l→ ∀n h,okF I n h x→okF I n h (normR x):=fun x hx n h w=>norm_ok_n L m x n h (by have:=pr_lt hx;omega) w
  have w0:=w
  rw [okF_eq] at w
  obtain ⟨⟨w1,w2,w3⟩,w4,w5⟩:=w
  cases hb:bothB p with
  |true=>
   rw [normR_par hb]
   split
   ·exact ok_skip L n h
   ·rw [okF_eq]
    exact ⟨⟨L.par p _ (by rw [List.length_map]) w1,w2,w3⟩,okFl_map hL w4,w5⟩
  |false=>
   by_cases h9:p.kind=9
   ·rw [normR_seq h9]
    have e1:(n&&(p.kind==9||p.kind==10||p.kind==11))=n:=by rw [h9];cases n<;>rfl
    have e2:(n&&(p.kind==10||p.kind==11))=false:=by rw [h9];cases n<;>rfl
    have e3:(h||p.kind==11)=h:=by rw [h9];cases h<;>rfl
    rw [e1,e2,e3] at w4
    refine normSq_ok L n h _ p.l (fun l' hl hw=>?_) hL w4
    rw [okF_eq]
    refine ⟨⟨L.seq p l' h9 hl w1,w2,w3⟩,?_,w5⟩
    show okFl I (n&&(p.kind==9||p.kind==10||p.kind==11)) (n&&(p.kind==10||p.kind==11)) (h||p.kind==11) h l'
    rw [e1,e2,e3];exact hw
   ·rw [normR_else hb h9];exact w0
theorem norm_ok(L:Lax I){p:PR}{n h:Bool}(w:okF I n h p):okF I n h (normR p):=norm_ok_n L _ p n h (Nat.le_refl _) w
end
mutual
def compR(path:List Nat):PR→List (PR×List Nat)
 |⟨k,c,v,i,to,e,gs,l⟩=>if k=9 then compS path l else if k=10∨k=11 then compL path 0 l else [(⟨k,c,v,i,to,e,gs,l⟩,path)]
def compS(path:List Nat):List PR→List (PR×List Nat)
 | []=>[]
 |x::_=>compR path x
def compL(path:List Nat)(j:Nat):List PR→List (PR×List Nat)
 | []=>[]
 |x::r=>compR (path++[j]) x++compL path (j+1) r
end
mutual
def atR:PR→List Nat→Option PR
 |⟨k,c,v,i,to,e,gs,l⟩,path=>if k=9 then atS l path else if k=10∨k=11 then (match path with
  | []=>none
  |j::rest=>atL l j rest) else (match path with
  | []=>some ⟨k,c,v,i,to,e,gs,l⟩
  |_::_=>none)
def atS:List PR→List Nat→Option PR
 | [],_=>none
 |x::_,path=>atR x path
def atL:List PR→Nat→List Nat→Option PR
 | [],_,_=>none
 |x::_,0,path=>atR x path
 |_::r,j+1,path=>atL r j path
end
mutual
def repR(q:PR):PR→List Nat→PR
 |⟨k,c,v,i,to,e,gs,l⟩,path=>if k=9 then ⟨k,c,v,i,to,e,gs,repS q l path⟩ else if k=10∨k=11 then ⟨k,c,v,i,to,e,gs,match path with
  | []=>l
  |j::rest=>repL q l j rest⟩ else q
def repS(q:PR):List PR→List Nat→List PR
 | [],_=>[]
 |x::r,path=>repR q x path::r
def repL(q:PR):List PR→Nat→List Nat→List PR
 | [],_,_=>[]
 |x::r,0,path=>repR q x path::r
 |x::r,j+1,path=>x::repL q r j path
end
theorem compR_eq(path:List Nat)(p:PR):compR path p=if p.kind=9 then compS path p.l else if p.kind=10∨p.kind=11 then compL path 0 p.l else [(p,path)]:=by
 obtain ⟨k,c,v,i,to,e,gs,l⟩:=p
 rw [compR]
theorem atR_eq(p:PR)(path:List Nat):atR p path=if p.kind=9 then atS p.l path else if p.kind=10∨p.kind=11 then (match path with
 | []=>none
 |j::rest=>atL p.l j rest) else (match path with
 | []=>some p
 |_::_=>none):=by
 obtain ⟨k,c,v,i,to,e,gs,l⟩:=p
 rw [atR.eq_def]
theorem repR_eq(q p:PR)(path:List Nat):repR q p path=if p.kind=9 then ⟨p.kind,p.c,p.v,p.item,p.to,p.e,p.gs,repS q p.l path⟩ else if p.kind=10∨p.kind=11 then ⟨p.kind,p.c,p.v,p.item,p.to,p.e,p.gs,match path with
 | []=>p.l
 |j::rest=>repL q p.l j rest⟩ else q:=by
 obtain ⟨k,c,v,i,to,e,gs,l⟩:=p
 rw [repR.eq_def]
theorem repL_len(q:PR): ∀(l:List PR) (j:Nat) (path:List Nat),(repL q l j path).length=l.length
 | [],_,_=>by rw [repL]
 |x::r,0,path=>by rw [repL,List.length_cons,List.length_cons]
 |x::r,j+1,path=>by rw [repL,List.length_cons,List.length_cons,repL_len q r j path]
theorem atL_get: ∀{l:List PR} {j:Nat} {path:List Nat} {c:PR},atL l j path=some c→ ∃x,l[j]? =some x∧atR x path=some c
 | [],_,_,_,h=>by rw [atL] at h;cases h
 |x::r,0,path,c,h=>by rw [atL] at h;exact ⟨x,rfl,h⟩
 |x::r,j+1,path,c,h=>by
  rw [atL] at h
  obtain ⟨y,h1,h2⟩:=atL_get h
  exact ⟨y,by simpa using h1,h2⟩
theorem atL_of: ∀{l:List PR} {j:Nat} {path:List Nat} {x:PR},l[j]? =some x→atL l j path=atR x path
 | [],_,_,_,h=>by cases h
 |x::r,0,path,c,h=>by
  rw [atL];injection h with h;rw [h]
 |x::r,j+1,path,c,h=>by
  rw [atL];exact atL_of (by simpa using h)
theorem repL_set(q:PR): ∀{l:List PR} {j:Nat} {path:List Nat} {x:PR},l[j]? =some x→repL q l j path=l.set j (repR q x path)
 | [],_,_,_,h=>by cases h
 |x::r,0,path,c,h=>by
  rw [repL];injection h with h;rw [h];rfl
 |x::r,j+1,path,c,h=>by
  rw [repL,repL_set q (l:=r) (j:=j) (by simpa using h)];rfl
theorem at_kind_n: ∀(m:Nat) (p:PR) (s:List Nat) (c:PR),SizeOf.sizeOf p≤m→atR p s=some c→c.kind≠9∧c.kind≠10∧c.kind≠11
 |0,p,_,_,h,_=>by
  obtain ⟨k,c,v,i,to,e,gs,l⟩:=p
  simp only [PR.mk.sizeOf_spec] at h;omega
 |m+1,p,s,c,hm,h=>by
  rw [atR_eq] at h
  by_cases h9:p.kind=9
  ·rw [if_pos h9] at h
   match hl:p.l,h with
   |x::r,h=>
    rw [atS] at h
    have hx:x∈p.l:=by rw [hl];exact .head _
    exact at_kind_n m x s c (by have:=pr_lt hx;omega) h
  ·rw [if_neg h9] at h
   by_cases hb:p.kind=10∨p.kind=11
   ·rw [if_pos hb] at h
    match s,h with
    |j::rest,h=>
     obtain ⟨x,h1,h2⟩:=atL_get h
     exact at_kind_n m x rest c (by have:=pr_lt (List.mem_of_getElem? h1);omega) h2
   ·rw [if_neg hb] at h
    match s,h with
    | [],h=>injection h with h;rw [←h];omega
theorem at_kind{p c:PR}{s:List Nat}(h:atR p s=some c):c.kind≠9∧c.kind≠10∧c.kind≠11:=at_kind_n _ p s c (Nat.le_refl _) h
theorem compL_at{path:List Nat}{c:PR}{s:List Nat}: ∀{l:List PR} {j:Nat},(∀x,x∈l→ ∀pre,(c,s)∈compR pre x→ ∃u,s=pre++u∧atR x u=some c)→(c,s)∈compL path j l→ ∃i u,s=path++(j+i)::u∧atL l i u=some c
 | [],_,_,h=>by rw [compL] at h;cases h
 |x::r,j,hx,h=>by
  rw [compL] at h
  rcases List.mem_append.1 h with h|h
  ·obtain ⟨u,h1,h2⟩:=hx x (.head _) _ h
   exact ⟨0,u,by rw [h1];simp,by rw [atL];exact h2⟩
  ·obtain ⟨i,u,h1,h2⟩:=compL_at (fun y hy=>hx y (.tail _ hy)) h
   exact ⟨i+1,u,by rw [h1];congr 2;omega,by rw [atL];exact h2⟩
theorem comp_at_n: ∀(m:Nat) (p:PR) (pre s:List Nat) (c:PR),SizeOf.sizeOf p≤m→(c,s)∈compR pre p→ ∃u,s=pre++u∧atR p u=some c
 |0,p,_,_,_,h,_=>by
  obtain ⟨k,c,v,i,to,e,gs,l⟩:=p
  simp only [PR.mk.sizeOf_spec] at h;omega
 |m+1,p,pre,s,c,hm,h=>by
  have hL: ∀x,x∈p.l→ ∀pre,(c,s)∈compR pre x→ ∃u,s=pre++u∧atR x u=some c:=fun x hx pre h=>comp_at_n m x pre s c (by have:=pr_lt hx;omega) h
  rw [compR_eq] at h
  by_cases h9:p.kind=9
  ·rw [if_pos h9] at h
   match hl:p.l,h with
   | [],h=>rw [compS] at h;cases h
   |x::r,h=>
    rw [compS] at h
    obtain ⟨u,h1,h2⟩:=hL x (by rw [hl];exact .head _) _ h
    exact ⟨u,h1,by rw [atR_eq,if_pos h9,hl,atS];exact h2⟩
  ·rw [if_neg h9] at h
   by_cases hb:p.kind=10∨p.kind=11
   ·rw [if_pos hb] at h
    obtain ⟨i,u,h1,h2⟩:=compL_at hL h
    rw [Nat.zero_add] at h1
    exact ⟨i::u,h1,by rw [atR_eq,if_neg h9,if_pos hb];exact h2⟩
   ·rw [if_neg hb] at h
    have h:=List.mem_singleton.1 h
    injection h with h1 h2
    subst h1;subst h2
    exact ⟨[],by simp,by rw [atR_eq,if_neg h9,if_neg hb]⟩
theorem comp_at{p c:PR}{s:List Nat}(h:(c,s)∈compR [] p):atR p s=some c:=by
 obtain ⟨u,h1,h2⟩:=comp_at_n _ p [] s c (Nat.le_refl _) h
 rw [h1];exact h2
section
variable{I:PR→Prop}
theorem okFl_at{h0 h1:Bool}: ∀{l:List PR} {j:Nat} {x:PR},l[j]? =some x→okFl I true true h0 h1 l→ ∃h,okF I true h x
 | [],_,_,h,_=>by cases h
 |z::r,0,x,h,w=>by
  injection h with h;subst h
  rw [okFl] at w
  exact ⟨_,w.1⟩
 |z::r,j+1,x,h,w=>by
  rw [okFl] at w
  exact okFl_at (by simpa using h) w.2
theorem okFl_seth{h1:Bool}{x y:PR}(hy: ∀h,okF I true h x→okF I true h y): ∀{l:List PR} {j:Nat} {h0:Bool},l[j]? =some x→okFl I true true h0 h1 l→okFl I true true h0 h1 (l.set j y)
 | [],_,_,h,_=>by cases h
 |z::r,0,_,h,w=>by
  injection h with h;subst h
  rw [List.set_cons_zero,okFl]
  rw [okFl] at w
  exact ⟨hy _ w.1,w.2⟩
 |z::r,j+1,_,h,w=>by
  rw [List.set_cons_succ,okFl]
  rw [okFl] at w
  exact ⟨w.1,okFl_seth hy (by simpa using h) w.2⟩
theorem at_ok_n: ∀(m:Nat) (p:PR) (s:List Nat) (c:PR) (h:Bool),SizeOf.sizeOf p≤m→atR p s=some c→okF I true h p→ ∃h',okF I true h' c
 |0,p,_,_,_,h,_,_=>by
  obtain ⟨k,c,v,i,to,e,gs,l⟩:=p
  simp only [PR.mk.sizeOf_spec] at h;omega
 |m+1,p,s,c,h,hm,ha,w=>by
  have w0:=w
  rw [okF_eq] at w
  obtain ⟨⟨w1,w2,w3⟩,w4,w5⟩:=w
  rw [atR_eq] at ha
  by_cases h9:p.kind=9
  ·rw [if_pos h9] at ha
   match hl:p.l,ha with
   |x::r,ha=>
    rw [atS] at ha
    rw [hl,okFl,h9] at w4
    have hx:x∈p.l:=by rw [hl];exact .head _
    exact at_ok_n m x s c _ (by have:=pr_lt hx;omega) ha w4.1
  ·rw [if_neg h9] at ha
   by_cases hb:p.kind=10∨p.kind=11
   ·rw [if_pos hb] at ha
    have e1:(true&&(p.kind==9||p.kind==10||p.kind==11))=true:=by rcases hb with h|h<;>rw [h]<;>rfl
    have e2:(true&&(p.kind==10||p.kind==11))=true:=by rcases hb with h|h<;>rw [h]<;>rfl
    rw [e1,e2] at w4
    match s,ha with
    |j::rest,ha=>
     obtain ⟨x,h1,h2⟩:=atL_get ha
     obtain ⟨h',w'⟩:=okFl_at h1 w4
     exact at_ok_n m x rest c h' (by have:=pr_lt (List.mem_of_getElem? h1);omega) h2 w'
   ·rw [if_neg hb] at ha
    match s,ha with
    | [],ha=>injection ha with ha;subst ha;exact ⟨h,w0⟩
theorem at_ok{p c:PR}{s:List Nat}{h:Bool}(ha:atR p s=some c)(w:okF I true h p): ∃h',okF I true h' c:=at_ok_n _ p s c h (Nat.le_refl _) ha w
theorem rep_ok_n(L:Lax I)(q c:PR)(hq: ∀h,okF I true h c→okF I true h q): ∀(m:Nat) (p:PR) (s:List Nat) (h:Bool),SizeOf.sizeOf p≤m→atR p s=some c→okF I true h p→okF I true h (repR q p s)
 |0,p,_,_,h,_,_=>by
  obtain ⟨k,c,v,i,to,e,gs,l⟩:=p
  simp only [PR.mk.sizeOf_spec] at h;omega
 |m+1,p,s,h,hm,ha,w=>by
  have w0:=w
  rw [okF_eq] at w
  obtain ⟨⟨w1,w2,w3⟩,w4,w5⟩:=w
  rw [atR_eq] at ha
  rw [repR_eq]
  by_cases h9:p.kind=9
  ·rw [if_pos h9] at ha⊢
   match hl:p.l,ha with
   |x::r,ha=>
    rw [atS] at ha
    rw [repS]
    have hx:x∈p.l:=by rw [hl];exact .head _
    have ih:=fun h w=>rep_ok_n L q c hq m x s h (by have:=pr_lt hx;omega) ha w
    rw [okF_eq]
    refine ⟨⟨L.par p _ (by rw [hl];rfl) w1,w2,w3⟩,?_,w5⟩
    show okFl I (true&&(p.kind==9||p.kind==10||p.kind==11)) (true&&(p.kind==10||p.kind==11)) (h||p.kind==11) h (repR q x s::r)
    rw [hl] at w4
    have e1:(true&&(p.kind==9||p.kind==10||p.kind==11))=true:=by rw [h9];rfl
    rw [e1] at w4⊢
    rw [okFl] at w4⊢
    exact ⟨ih _ w4.1,w4.2⟩
  ·rw [if_neg h9] at ha⊢
   by_cases hb:p.kind=10∨p.kind=11
   ·rw [if_pos hb] at ha⊢
    have e1:(true&&(p.kind==9||p.kind==10||p.kind==11))=true:=by rcases hb with h|h<;>rw [h]<;>rfl
    have e2:(true&&(p.kind==10||p.kind==11))=true:=by rcases hb with h|h<;>rw [h]<;>rfl
    match s,ha with
    |j::rest,ha=>
     obtain ⟨x,h1,h2⟩:=atL_get ha
     have ih:=fun h w=>rep_ok_n L q c hq m x rest h (by have:=pr_lt (List.mem_of_getElem? h1);omega) h2 w
     rw [okF_eq]
     refine ⟨⟨L.par p _ (repL_len q _ _ _) w1,w2,w3⟩,?_,w5⟩
     show okFl I (true&&(p.kind==9||p.kind==10||p.kind==11)) (true&&(p.kind==10||p.kind==11)) (h||p.kind==11) h (repL q p.l j rest)
     rw [e1,e2] at w4⊢
     rw [repL_set q h1]
     exact okFl_seth ih h1 w4
   ·rw [if_neg hb] at ha⊢
    match s,ha with
    | [],ha=>injection ha with ha;rw [ha] at w0;exact hq _ w0
theorem rep_ok(L:Lax I){q c p:PR}{s:List Nat}{h:Bool}(hq: ∀h,okF I true h c→okF I true h q)(ha:atR p s=some c)(w:okF I true h p):okF I true h (repR q p s):=rep_ok_n L q c hq _ p s h (Nat.le_refl _) ha w
end
theorem wtL_set{y x:PR}(h:wtR y≤wtR x): ∀{l:List PR} {j:Nat},l[j]? =some x→wtL (l.set j y)≤wtL l
 | [],_,h=>by cases h
 |z::r,0,h=>by injection h with h;subst h;rw [List.set_cons_zero,wtL,wtL];omega
 |z::r,j+1,hx=>by
  have:=wtL_set h (l:=r) (j:=j) (by simpa using hx)
  rw [List.set_cons_succ,wtL,wtL];omega
theorem dwL_set{y x:PR}(h:dwR y≤dwR x): ∀{l:List PR} {j:Nat},l[j]? =some x→dwL (l.set j y)≤dwL l
 | [],_,h=>by cases h
 |z::r,0,h=>by injection h with h;subst h;rw [List.set_cons_zero,dwL,dwL];omega
 |z::r,j+1,hx=>by
  have:=dwL_set h (l:=r) (j:=j) (by simpa using hx)
  rw [List.set_cons_succ,dwL,dwL];omega
theorem wtS_head{x y:PR}{r:List PR}(h:wtR y≤wtR x):wtS (y::r)≤wtS (x::r):=by
 cases r with
 |nil=>rw [wtS_1,wtS_1];exact h
 |cons z s=>rw [wtS_2,wtS_2];omega
theorem dwS_head{x y:PR}{r:List PR}(h:dwR y≤dwR x):dwS (y::r)≤dwS (x::r):=by
 cases r with
 |nil=>rw [dwS_1,dwS_1];exact h
 |cons z s=>rw [dwS_2,dwS_2];omega
theorem rep_wt_n(q c:PR)(hq:wtR q≤wtR c)(hd:dwR q≤dwR c): ∀(m:Nat) (p:PR) (s:List Nat),SizeOf.sizeOf p≤m→atR p s=some c→wtR (repR q p s)≤wtR p∧dwR (repR q p s)≤dwR p
 |0,p,_,h,_=>by
  obtain ⟨k,c,v,i,to,e,gs,l⟩:=p
  simp only [PR.mk.sizeOf_spec] at h;omega
 |m+1,p,s,hm,ha=>by
  rw [atR_eq] at ha
  rw [repR_eq]
  by_cases h9:p.kind=9
  ·rw [if_pos h9] at ha⊢
   match hl:p.l,ha with
   |x::r,ha=>
    rw [atS] at ha
    rw [repS]
    have hx:x∈p.l:=by rw [hl];exact .head _
    have ih:=rep_wt_n q c hq hd m x s (by have:=pr_lt hx;omega) ha
    rw [wtR_eq p,dwR_eq p,wtR_eq,dwR_eq]
    show (if p.kind=9 then szGs p.gs+wtS (repR q x s::r) else _)≤_∧(if p.kind=9 then max (1+htGs p.gs) (dwS (repR q x s::r)) else _)≤_
    rw [if_pos h9,if_pos h9,if_pos h9,if_pos h9,hl]
    have:=wtS_head (r:=r) ih.1
    have:=dwS_head (r:=r) ih.2
    omega
  ·rw [if_neg h9] at ha⊢
   by_cases hb:p.kind=10∨p.kind=11
   ·rw [if_pos hb] at ha⊢
    match s,ha with
    |j::rest,ha=>
     obtain ⟨x,h1,h2⟩:=atL_get ha
     have ih:=rep_wt_n q c hq hd m x rest (by have:=pr_lt (List.mem_of_getElem? h1);omega) h2
     rw [wtR_eq p,dwR_eq p,wtR_eq,dwR_eq]
     show (if p.kind=9 then _ else if p.kind=10∨p.kind=11 then 2+szGs p.gs+wtL (repL q p.l j rest) else _)≤_∧(if p.kind=9 then _ else if p.kind=10∨p.kind=11 then 1+max (max 1 (htGs p.gs)) (dwL (repL q p.l j rest)) else _)≤_
     rw [if_neg h9,if_neg h9,if_neg h9,if_neg h9,if_pos hb,if_pos hb,if_pos hb,if_pos hb,repL_set q h1]
     have:=wtL_set ih.1 h1
     have:=dwL_set ih.2 h1
     omega
   ·rw [if_neg hb] at ha⊢
    match s,ha with
    | [],ha=>injection ha with ha;rw [ha];exact ⟨hq,hd⟩
theorem rep_wt{q c p:PR}{s:List Nat}(hq:wtR q≤wtR c)(hd:dwR q≤dwR c)(ha:atR p s=some c):wtR (repR q p s)≤wtR p:=(rep_wt_n q c hq hd _ p s (Nat.le_refl _) ha).1
theorem rep_dw{q c p:PR}{s:List Nat}(hq:wtR q≤wtR c)(hd:dwR q≤dwR c)(ha:atR p s=some c):dwR (repR q p s)≤dwR p:=(rep_wt_n q c hq hd _ p s (Nat.le_refl _) ha).2
theorem rep_at_n(q c:PR): ∀(m:Nat) (p:PR) (s t:List Nat) (d:PR),SizeOf.sizeOf p≤m→atR p s=some c→atR p t=some d→s≠t→atR (repR q p s) t=some d
 |0,p,_,_,_,h,_,_,_=>by
  obtain ⟨k,c,v,i,to,e,gs,l⟩:=p
  simp only [PR.mk.sizeOf_spec] at h;omega
 |m+1,p,s,t,d,hm,ha,hb',hne=>by
  rw [atR_eq] at ha hb'
  rw [repR_eq]
  by_cases h9:p.kind=9
  ·rw [if_pos h9] at ha hb'⊢
   match hl:p.l,ha,hb' with
   |x::r,ha,hb'=>
    rw [atS] at ha hb'
    rw [repS,atR_eq]
    have hx:x∈p.l:=by rw [hl];exact .head _
    show (if p.kind=9 then atS (repR q x s::r) t else _)=_
    rw [if_pos h9,atS]
    exact rep_at_n q c m x s t d (by have:=pr_lt hx;omega) ha hb' hne
  ·rw [if_neg h9] at ha hb'⊢
   by_cases hb:p.kind=10∨p.kind=11
   ·rw [if_pos hb] at ha hb'⊢
    match s,t,ha,hb',hne with
    |j::u,i::v,ha,hb',hne=>
     obtain ⟨x,h1,h2⟩:=atL_get ha
     obtain ⟨y,g1,g2⟩:=atL_get hb'
     rw [atR_eq]
     show (if p.kind=9 then _ else if p.kind=10∨p.kind=11 then atL (repL q p.l j u) i v else _)=_
     rw [if_neg h9,if_pos hb,repL_set q h1]
     by_cases hji:j=i
     ·subst hji
      rw [h1] at g1;injection g1 with g1;subst g1
      have hj:j<p.l.length:=by
       rcases Nat.lt_or_ge j p.l.length with h|h
       ·exact h
       ·rw [List.getElem?_eq_none h] at h1;cases h1
      rw [atL_of (x:=repR q x u) (by rw [List.getElem?_set_self hj])]
      exact rep_at_n q c m x u v d (by have:=pr_lt (List.mem_of_getElem? h1);omega) h2 g2 (fun e=>hne (by rw [e]))
     ·rw [atL_of (x:=y) (by rw [List.getElem?_set_ne hji];exact g1)];exact g2
   ·rw [if_neg hb] at ha hb'
    match s,t,ha,hb',hne with
    | [],[],ha,hb',hne=>exact (hne rfl).elim
theorem rep_at{q c d p:PR}{s t:List Nat}(ha:atR p s=some c)(hb:atR p t=some d)(hne:s≠t):atR (repR q p s) t=some d:=rep_at_n q c _ p s t d (Nat.le_refl _) ha hb hne
theorem row_oneA(L:List AV)(hL: ∀x,x∈L→ ∃cs,x= .ag cs∧oneA cs=true)(h:GH)(zs:List Value)(q:RpC h L zs): ∀z,z∈zs→allOne (cellsL z)=true:=by
 induction L generalizing zs with
 |nil=>rw [RpC_nil] at q;subst q;intro z hz;cases hz
 |cons x r ih=>
  rw [RpC_cons] at q
  obtain ⟨v,vs,rfl,q1,q2⟩:=q
  intro z hz
  rcases List.mem_cons.1 hz with rfl|hz
  ·obtain ⟨cs,rfl,ho⟩:=hL x (.head _)
   rw [Rp_ag] at q1
   obtain ⟨ds,rfl,q1⟩:=q1
   exact q1.one ho
  ·exact ih (fun y hy=>hL y (.tail _ hy)) vs q2 z hz
theorem oneG(l:List GD): ∀x,x∈encGl l→ ∃cs,x= .ag cs∧oneA cs=true:=by
 intro x hx
 rw [encGl_cells,List.mem_map] at hx
 obtain ⟨g,_,rfl⟩:=hx
 exact ⟨_,rfl,rfl⟩
theorem oneR(l:List PR): ∀x,x∈encRl l→ ∃cs,x= .ag cs∧oneA cs=true:=by
 intro x hx
 rw [encRl_cells,List.mem_map] at hx
 obtain ⟨g,_,rfl⟩:=hx
 exact ⟨_,rfl,rfl⟩
theorem cloneG_p(l:List GD)(hb:l.length≤16777216):FunE Tryz.prog gs0 137 [gsA l] [] (fun z:Value=> .ms z 18 l.length) (fun z=>[.row 18 z (encGl l)]) (fun _=>True):=by
 unfold FunE
 have hlen:=encGl_len l
 have hone:=oneG l
 show Fun _ _ _ [.sl 18 (encGl l) none] _ _
 generalize encGl l=L at hlen hone
 rw [←hlen] at hb⊢
 cases L with
 |nil=>
  refine Fun.of (S:=tt) (fn:=Tryz.f137) (n:=8) tt_ok Tryz.func137 rfl rfl rfl rfl fun w0 h0 F hgs=>?_
  refine y_ ?_
  refine A.eqNil rfl rfl rfl rfl rfl rfl rfl rfl fun b hb=>?_
  cases b
  ·refine y_ ?_
   refine A.lit0 rfl rfl rfl rfl rfl rfl rfl fun bl=>?_;refine y_ ?_;refine A.appendNewW rfl rfl rfl rfl rfl rfl rfl rfl rfl rfl rfl rfl rfl (by simp) (by simp) (fun x hx=>by injection hx with hx;subst hx;rfl) (row_oneA _ hone) fun z=>?_
   refine y_ ?_
   refine A.ret1 (Λ':=[.row 18 z _]) rfl rfl rfl sl_ ⟨z, .refl,rfl,trivial⟩
  ·refine y_ ?_
   refine A.emptyRow 2 18 rfl fun z=>?_
   refine A.ret1 (Λ':=[.row 18 z []]) rfl rfl rfl sl_ ⟨z, .refl,rfl,trivial⟩
 |cons x r=>
  refine Fun.of (S:=tt) (fn:=Tryz.f137) (n:=8) tt_ok Tryz.func137 rfl rfl rfl rfl fun w0 h0 F hgs=>?_
  refine y_ ?_
  refine A.eqNil rfl rfl rfl rfl rfl rfl rfl rfl fun b hb=>?_
  cases b
  case true=>cases hb rfl
  refine y_ ?_
  refine A.lit0 rfl rfl rfl rfl rfl rfl rfl fun bl=>?_;refine y_ ?_;refine A.appendNewW rfl rfl rfl rfl rfl rfl rfl rfl rfl rfl rfl rfl rfl (by show (x::r).length*18≤_;omega) (by show (x::r).length*18*160≤_;omega) (fun x hx=>by injection hx with hx;subst hx;rfl) (row_oneA _ hone) fun z=>?_
  refine y_ ?_
  refine A.ret1 (Λ':=[.row 18 z _]) rfl rfl rfl sl_ ⟨z, .refl,rfl,trivial⟩
theorem cloneR_p(l:List PR)(hb:l.length≤16777216):FunE Tryz.prog gs0 123 [rsA l] [] (fun z:Value=> .ms z 8 l.length) (fun z=>[.row 8 z (encRl l)]) (fun _=>True):=by
 unfold FunE
 have hlen:=encRl_len l
 have hone:=oneR l
 show Fun _ _ _ [.sl 8 (encRl l) none] _ _
 generalize encRl l=L at hlen hone
 rw [←hlen] at hb⊢
 cases L with
 |nil=>
  refine Fun.of (S:=tt) (fn:=Tryz.f123) (n:=8) tt_ok Tryz.func123 rfl rfl rfl rfl fun w0 h0 F hgs=>?_
  refine y_ ?_
  refine A.eqNil rfl rfl rfl rfl rfl rfl rfl rfl fun b hb=>?_
  cases b
  ·refine y_ ?_
   refine A.lit0 rfl rfl rfl rfl rfl rfl rfl fun bl=>?_;refine y_ ?_;refine A.appendNewW rfl rfl rfl rfl rfl rfl rfl rfl rfl rfl rfl rfl rfl (by simp) (by simp) (fun x hx=>by injection hx with hx;subst hx;rfl) (row_oneA _ hone) fun z=>?_
   refine y_ ?_
   refine A.ret1 (Λ':=[.row 8 z _]) rfl rfl rfl sl_ ⟨z, .refl,rfl,trivial⟩
  ·refine y_ ?_
   refine A.emptyRow 2 8 rfl fun z=>?_
   refine A.ret1 (Λ':=[.row 8 z []]) rfl rfl rfl sl_ ⟨z, .refl,rfl,trivial⟩
 |cons x r=>
  refine Fun.of (S:=tt) (fn:=Tryz.f123) (n:=8) tt_ok Tryz.func123 rfl rfl rfl rfl fun w0 h0 F hgs=>?_
  refine y_ ?_
  refine A.eqNil rfl rfl rfl rfl rfl rfl rfl rfl fun b hb=>?_
  cases b
  case true=>cases hb rfl
  refine y_ ?_
  refine A.lit0 rfl rfl rfl rfl rfl rfl rfl fun bl=>?_;refine y_ ?_;refine A.appendNewW rfl rfl rfl rfl rfl rfl rfl rfl rfl rfl rfl rfl rfl (by show (x::r).length*8≤_;omega) (by show (x::r).length*8*128≤_;omega) (fun x hx=>by injection hx with hx;subst hx;rfl) (row_oneA _ hone) fun z=>?_
  refine y_ ?_
  refine A.ret1 (Λ':=[.row 8 z _]) rfl rfl rfl sl_ ⟨z, .refl,rfl,trivial⟩
def ownG(g:GD):GD:=⟨g.kind,g.cond,g.c,g.item,g.to,g.time,g.body.map fun _=>skipR⟩
def ownR(p:PR):PR:=⟨if p.kind=16 then 14 else p.kind,p.c,p.v,p.item,p.to,p.e,p.gs.map ownG,p.l.map fun _=>skipR⟩
def waitsG(g:GD):Bool:=g.cond.kind==1&&(g.kind !=4||g.time.kind==1)
abbrev ckS(V:List KV)(C:List Int)(q:PR)(left:Int):AV:= .ag [varsA V,chsA C,AU8 q.kind,AI q.c,AI q.v,AU8 q.item,plsA q.to,kesA q.e,gsA q.gs,rsA q.l, .v (.slice none 0 0),AI left]
def rowM{α:Type}(f g:α→AV)(l:List α)(i:Nat):List AV:=(l.take i).map f++(l.drop i).map g
theorem rowM_len{α:Type}{f g:α→AV}{l:List α}{i:Nat}:(rowM f g l i).length=l.length:=by
 rw [rowM,List.length_append,List.length_map,List.length_map,List.length_take,List.length_drop];omega
theorem at_lt{α:Type}{l:List α}{i:Nat}{x:α}(hx:l[i]? =some x):i<l.length:=by
 rcases Nat.lt_or_ge i l.length with h|h
 ·exact h
 ·rw [List.getElem?_eq_none h] at hx;cases hx
theorem rowM_at{α:Type}{f g:α→AV}{l:List α}{i:Nat}{x:α}(hx:l[i]? =some x):(rowM f g l i)[i]? =some (g x):=by
 have hi:=at_lt hx
 rw [rowM,List.getElem?_append_right (by rw [List.length_map,List.length_take];omega),List.length_map,List.length_take,show i-min i l.length=0 by omega,List.getElem?_map,List.getElem?_drop,Nat.add_zero,hx];rfl
theorem rowM_set{α:Type}{f g:α→AV}{l:List α}{i:Nat}{x:α}(hx:l[i]? =some x):(rowM f g l i).set i (f x)=rowM f g l (i+1):=by
 have hi:=at_lt hx
 unfold rowM
 rw [List.set_append_right _ _ (by rw [List.length_map,List.length_take];omega),List.length_map,List.length_take,show i-min i l.length=0 by omega,drop_at hx,List.map_cons,List.set_cons_zero,List.take_add_one,hx]
 simp
theorem rowM_0{α:Type}{f g:α→AV}{l:List α}:rowM f g l 0=l.map g:=by rw [rowM];simp
theorem rowM_full{α:Type}{f g:α→AV}{l:List α}:rowM f g l l.length=l.map f:=by rw [rowM];simp
theorem skA_eq:cellsR skipR=skA:=plain_eq 1
theorem skip_A:Pure Tryz.prog gs0 62 [] skA:=by rw [←skA_eq];exact skip_p
theorem reps_eq{α:Type}(l:List α):encRl (l.map fun _=>skipR)=List.replicate l.length skA:=by
 rw [encRl_cells,List.map_map]
 induction l with
 |nil=>rfl
 |cons x r ih=>rw [List.map_cons,ih,List.length_cons,List.replicate_succ];show _::_=_;rw [←skA_eq];rfl
theorem ownG_A(g:GD):cellsG (ownG g)= .ag [AU8 g.kind,AU8 g.cond.kind,AU8 g.cond.oper,AU8 g.cond.to,AI32 g.cond.n,AI g.cond.v,kesA g.cond.l,AI g.c,AU8 g.item,AI g.to.v,kesA g.to.ix,AU8 g.time.kind,AU8 g.time.oper,AU8 g.time.to,AI32 g.time.n,AI g.time.v,kesA g.time.l, .sl 8 (List.replicate g.body.length skA) none]:=by
 rw [←reps_eq];rfl
theorem ownG_st(g:GD):stA ty29 (cellsG g) 17 (.sl 8 (List.replicate g.body.length skA) none)=some (cellsG (ownG g)):=by
 rw [ownG_A];rfl
theorem ckS_own(V:List KV)(C:List Int)(left:Int){p:PR}{k:Int}(h:(ownR p).kind=k):ckS V C (ownR p) left= .ag [varsA V,chsA C,AU8 k,AI p.c,AI p.v,AU8 p.item,plsA p.to,kesA p.e,gsA (p.gs.map ownG),rsA (p.l.map fun _=>skipR), .v (.slice none 0 0),AI left]:=by
 subst h;rfl
theorem itself_p(V:List KV)(C:List Int)(b:Nat)(q p:PR)(left:Int)(hwait:p.kind=16→ ∀g,g∈p.gs→waitsG g=true)(hgl:p.gs.length≤16)(hll:p.l.length≤2048)(hbl: ∀g,g∈p.gs→g.body.length≤2048)
 (hwf:WfN ⟨V,C,ownR p,[]⟩) (hm:mayK ⟨V,C,ownR p,[]⟩=true):
 FunE Tryz.prog gs0 112 [ptrA b,cellsR p] [.box b (ckS V C q left)] (fun _:Unit=>AB true) (fun _=>[.box b (ckS V C (ownR p) left)]) (fun _=>True):=by
 unfold FunE
 have hlen:((encRl p.l).length:Int)=p.l.length:=by rw [encRl_len]
 have hgn:p.gs.length≤16777216:=by omega
 have hrp:=repeat_p p.l.length (by omega)
 have hcl:=cloneG_p p.gs hgn
 have hk:=kmay_p _ hwf
 rw [hm] at hk
 refine Fun.of (S:=tt) (fn:=Tryz.f112) (n:=72) tt_ok Tryz.func112 rfl rfl rfl rfl fun w0 h0 F hgs=>?_
 (repeat refine A.s rfl ?_)
 refine A.b rfl fun b1=>?_
 refine y_ ?_
 refine A.draw 6 [2,3,4,0,1,5] (fun i=>if i=5 then [1] else []) [(0,skA),(5, .sl 8 (List.replicate p.l.length skA) none)] (by kernel_rfl) (by kernel_rfl) ?_
 refine w_ ?_
 refine WA.valE 11 rfl (x':=AI (p.l.length:Nat)) (ai_eq hlen) ?_
 refine cw_ skip_A ?_
 refine WA.lit rfl rfl rfl rfl rfl rfl rfl fun bw=>?_
 refine WA.c rfl rfl hrp (by repeat (first|exact SbPL.sub SbL.refl|refine SbPL.cons ?_ ?_|exact SbP.sub Sb.refl|refine SbP.pub (j:=1) rfl rfl ?_|exact SbP.sub Sb.own1|exact SbP.sub Sb.nil|focus (refine SbP.sub ?_;(repeat (first|exact Sb.refl|exact SbL.refl|refine SbL.cons ?_ ?_|exact Sb.nil|exact Sb.own1|refine Sb.own ?_|refine Sb.ag ?_|refine Sb.tp ?_));done))) ?_
 refine z_ ?_
 refine A.e rfl hcl .refl (List.Perm.refl _) fun z _=>?_
 refine A.rowRaw (List.mem_cons_self ..) fun a cp hz hcp=>?_
 rw [encGl_len] at hz hcp
 subst hz
 refine y_ ?_
 refine A.keep [0,3,4,19,20,21] rfl ?_
 refine A.entsEq (Λ':=[.row 18 (.slice a p.gs.length cp) (rowM (fun g=>cellsG (ownG g)) cellsG p.gs 0), .box b1 (.ag [AU8 p.kind,AI p.c,AI p.v,AU8 p.item,plsA p.to,kesA p.e, .ms (.slice a p.gs.length cp) 18 p.gs.length, .sl 8 (List.replicate p.l.length skA) none]), .box b (ckS V C q left)]) (by rw [rowM_0,encGl_cells]) ?_
 refine A.loopP (ι:=Nat) (fun i=>(⟨[(0,ptrA b),(3,ptrA b1),(4,AB false),(19, .ms (.slice a p.gs.length cp) 18 p.gs.length),(20,AI (p.gs.length:Nat)),(21,AI (i:Nat))],[]⟩,[.row 18 (.slice a p.gs.length cp) (rowM (fun g=>cellsG (ownG g)) cellsG p.gs i), .box b1 (.ag [AU8 p.kind,AI p.c,AI p.v,AU8 p.item,plsA p.to,kesA p.e, .ms (.slice a p.gs.length cp) 18 p.gs.length, .sl 8 (List.replicate p.l.length skA) none]), .box b (ckS V C q left)]))
  (fun i=>i≤p.gs.length) (fun i=>p.gs.length-i) 0 (Nat.zero_le _) rfl fun i hi ih=>?_
 refine y_ ?_
 refine k_ (fun hc=>?_) fun hc=>?_
 ·have hci:i<p.gs.length:=by simpa using hc
  clear hc
  refine Exists.elim (at_exN (l:=p.gs) (i:=i) hci) fun g hg=>?_
  have hgm:=List.mem_of_getElem? hg
  have hgb:=hbl g hgm
  have hln:(rowM (fun g=>cellsG (ownG g)) cellsG p.gs i).length=p.gs.length:=rowM_len
  have hat:=rowM_at (f:=fun g=>cellsG (ownG g)) (g:=cellsG) hg
  have hne:rowM (fun g=>cellsG (ownG g)) cellsG p.gs i≠[]:=by intro h;rw [h] at hln;simp at hln;omega
  have hbn:((encRl g.body).length:Int)=g.body.length:=by rw [encRl_len]
  have hrb:=repeat_p g.body.length (by omega)
  refine A.rowSome (a:=a) (n:=p.gs.length) (c:=cp) (sz:=18) (l:=rowM (fun g=>cellsG (ownG g)) cellsG p.gs i) hne fun bb o ha=>?_
  subst ha
  refine y_ ?_
  refine A.indexRow rfl rfl rfl rfl rfl rfl rfl rfl (by show (0:Int)≤(i:Nat);omega) (by rw [hln];omega) rfl ?_
  refine A.loadRow rfl rfl rfl rfl rfl rfl (y':=cellsG g) rfl hat rfl rfl ?_
  (refine b_ fun bx=>?_;refine y_ ?_)
  refine A.draw 9 [0,1,2,5,6,7,3,4,8] (fun i=>if i=8 then [4] else []) [(3,skA),(8, .sl 8 (List.replicate g.body.length skA) none)] (by kernel_rfl) (by kernel_rfl) ?_
  refine w_ ?_
  refine WA.valE 33 rfl (x':=AI (g.body.length:Nat)) (ai_eq hbn) ?_
  refine cw_ skip_A ?_
  refine WA.lit rfl rfl rfl rfl rfl rfl rfl fun bw=>?_
  refine WA.c rfl rfl hrb (by repeat (first|exact SbPL.sub SbL.refl|refine SbPL.cons ?_ ?_|exact SbP.sub Sb.refl|refine SbP.pub (j:=4) rfl rfl ?_|exact SbP.sub Sb.own1|exact SbP.sub Sb.nil|focus (refine SbP.sub ?_;(repeat (first|exact Sb.refl|exact SbL.refl|refine SbL.cons ?_ ?_|exact Sb.nil|exact Sb.own1|refine Sb.own ?_|refine Sb.ag ?_|refine Sb.tp ?_));done))) ?_
  refine WA.nil (l:=[]) rfl ?_
  refine A.indexRow rfl rfl rfl rfl rfl rfl rfl rfl (by show (0:Int)≤(i:Nat);omega) (by rw [hln];omega) rfl ?_
  refine A.epV 35 rfl ?_
  refine y_ ?_
  refine A.storeRowF i 17 ty153 rfl rfl rfl rfl rfl p.gs.length cp o ?_ hat (x':=cellsG (ownG g)) ?_ rfl rfl rfl (rowM_set (f:=fun g=>cellsG (ownG g)) (g:=cellsG) hg) ?_
  ·simp
  ·exact ownG_st g
  refine y_ ?_
  ((fail_if_success (refine A.lit? rfl ?_));refine A.gS rfl (fun hc=>?_) (fun hc=>?_))
  ·have hk16:p.kind=16:=by have h:(p.kind==16)=true:=hc;simpa using h
   have hw:=hwait hk16 g hgm
   unfold waitsG at hw
   rw [Bool.and_eq_true] at hw
   have hw1:g.cond.kind=1:=by simpa using hw.1
   refine y_ ?_
   refine F_ rfl (show (g.cond.kind !=1)=false by rw [hw1];rfl) ?_
   clear hc
   ((fail_if_success (refine A.lit? rfl ?_));refine A.gS rfl (fun hc=>?_) (fun hc=>?_))
   ·have hk4:g.kind=4:=by have h:(g.kind==4)=true:=hc;simpa using h
    have hw2:g.time.kind=1:=by have h:=hw.2;rw [hk4] at h;simpa using h
    refine y_ ?_
    refine e_ 56 rfl (x':=AB false) (ab_eq (by show (g.time.kind !=1)=false;rw [hw2];rfl)) ?_
    refine A.valE 21 rfl (x':=AI ((i+1:Nat):Int)) (inc_eq i (by omega)) ?_
    refine l_ (Λ':=[.row 18 (.slice (some ⟨bb,o,none⟩) p.gs.length cp) (rowM (fun g=>cellsG (ownG g)) cellsG p.gs (i+1)), .box b1 (.ag [AU8 p.kind,AI p.c,AI p.v,AU8 p.item,plsA p.to,kesA p.e, .ms (.slice (some ⟨bb,o,none⟩) p.gs.length cp) 18 p.gs.length, .sl 8 (List.replicate p.l.length skA) none]), .box b (ckS V C q left)]) ?_
    refine u_ (ih (i+1) (by omega) (by omega))
   ·refine y_ ?_
    refine A.valE 21 rfl (x':=AI ((i+1:Nat):Int)) (inc_eq i (by omega)) ?_
    refine l_ (Λ':=[.row 18 (.slice (some ⟨bb,o,none⟩) p.gs.length cp) (rowM (fun g=>cellsG (ownG g)) cellsG p.gs (i+1)), .box b1 (.ag [AU8 p.kind,AI p.c,AI p.v,AU8 p.item,plsA p.to,kesA p.e, .ms (.slice (some ⟨bb,o,none⟩) p.gs.length cp) 18 p.gs.length, .sl 8 (List.replicate p.l.length skA) none]), .box b (ckS V C q left)]) ?_
    refine u_ (ih (i+1) (by omega) (by omega))
  ·refine y_ ?_
   refine A.valE 21 rfl (x':=AI ((i+1:Nat):Int)) (inc_eq i (by omega)) ?_
   refine l_ (Λ':=[.row 18 (.slice (some ⟨bb,o,none⟩) p.gs.length cp) (rowM (fun g=>cellsG (ownG g)) cellsG p.gs (i+1)), .box b1 (.ag [AU8 p.kind,AI p.c,AI p.v,AU8 p.item,plsA p.to,kesA p.e, .ms (.slice (some ⟨bb,o,none⟩) p.gs.length cp) 18 p.gs.length, .sl 8 (List.replicate p.l.length skA) none]), .box b (ckS V C q left)]) ?_
   refine u_ (ih (i+1) (by omega) (by omega))
 have hci: ¬i<p.gs.length:=by simpa using hc
 have hil:i=p.gs.length:=by omega
 clear hc
 subst hil
 refine A.freezeRowV 3 (.slice a p.gs.length cp) (x':= .ag [AU8 p.kind,AI p.c,AI p.v,AU8 p.item,plsA p.to,kesA p.e, .sl 18 (p.gs.map fun g=>cellsG (ownG g)) none, .sl 8 (List.replicate p.l.length skA) none]) rfl (by rw [rowM_full];exact fz_) ?_
 refine A.entsEq (Λ':=[.box b1 (.ag [AU8 p.kind,AI p.c,AI p.v,AU8 p.item,plsA p.to,kesA p.e,gsA (p.gs.map ownG),rsA (p.l.map fun _=>skipR)]), .box b (ckS V C q left)]) (by rw [show gsA (p.gs.map ownG)= .sl 18 (p.gs.map fun g=>cellsG (ownG g)) none from by show AV.sl 18 (encGl _) none=_;rw [encGl_cells,List.map_map];rfl,show rsA (p.l.map fun _=>skipR)= .sl 8 (List.replicate p.l.length skA) none from by show AV.sl 8 (encRl _) none=_;rw [reps_eq]]) ?_
 clear ih
 refine y_ ?_
 refine k_ (fun hc=>?_) fun hc=>?_
 ·have hk16:p.kind=16:=by have h:(p.kind==16)=true:=hc;simpa using h
  have hko:(ownR p).kind=14:=by show (if p.kind=16 then (14:Int) else p.kind)=14;rw [if_pos hk16]
  rw [show encN ⟨V,C,ownR p,[]⟩= .ag [varsA V,chsA C,AU8 14,AI p.c,AI p.v,AU8 p.item,plsA p.to,kesA p.e,gsA (p.gs.map ownG),rsA (p.l.map fun _=>skipR),intsA []] from by rw [←hko];rfl] at hk
  rw [ckS_own V C left hko]
  refine y_ ?_
  refine c_ hk ?_
  refine A.ret1 (Λ':=[.box b _]) rfl rfl rfl sl_ ⟨(), .refl,rfl,trivial⟩
 ·have hk16:p.kind≠16:=by have h:(p.kind==16)=false:=hc;simpa using h
  have hko:(ownR p).kind=p.kind:=by show (if p.kind=16 then (14:Int) else p.kind)=p.kind;rw [if_neg hk16]
  rw [show encN ⟨V,C,ownR p,[]⟩= .ag [varsA V,chsA C,AU8 p.kind,AI p.c,AI p.v,AU8 p.item,plsA p.to,kesA p.e,gsA (p.gs.map ownG),rsA (p.l.map fun _=>skipR),intsA []] from by rw [←hko];rfl] at hk
  rw [ckS_own V C left hko]
  refine y_ ?_
  refine c_ hk ?_
  refine A.ret1 (Λ':=[.box b _]) rfl rfl rfl sl_ ⟨(), .refl,rfl,trivial⟩
structure ItsOk(V:List KV)(C:List Int)(p:PR):Prop where
 wait:p.kind=16→ ∀g,g∈p.gs→waitsG g=true
 gl:p.gs.length≤16
 ll:p.l.length≤2048
 body: ∀g,g∈p.gs→ ∃y,g.body=[y]
 wf:WfN ⟨V,C,ownR p,[]⟩
 may:mayK ⟨V,C,ownR p,[]⟩=true
abbrev fineE(V:List KV)(C:List Int)(b:Nat)(q p:PR)(left inside:Int)(next high:Bool):Prop:=
 FunE Tryz.prog gs0 64 [ptrA b,cellsR p,AI inside,AB next,AB high] [.box b (ckS V C q left)] (fun _:PR=>AB true) (fun q'=>[.box b (ckS V C q' (left-szR p))]) (fun _=>True)
theorem nowait{k:Int}{next high:Bool}(h16:k=16→next=true)(h11:k=11→high=false):(bif bif k==16 then !next else false then true else bif k==11 then high else false)=false:=by
 by_cases a:k=16
 ·rw [h16 a,a];rfl
 ·by_cases c:k=11
  ·rw [h11 c,c];rfl
  ·rw [show (k==16)=false from beq_eq_false_iff_ne.2 a,show (k==11)=false from beq_eq_false_iff_ne.2 c];rfl
theorem htL_le: ∀{ps:List PR} {x:PR},x∈ps→htR x≤htL ps
 | [],_,h=>by cases h
 |y::r,x,h=>by
  rw [htL]
  rcases List.mem_cons.1 h with rfl|h
  ·omega
  ·have:=htL_le h;omega
theorem htGs_le: ∀{gs:List GD} {x:GD},x∈gs→htG x≤htGs gs
 | [],_,h=>by cases h
 |y::r,x,h=>by
  rw [htGs]
  rcases List.mem_cons.1 h with rfl|h
  ·omega
  ·have:=htGs_le h;omega
theorem okFl_idx{I:PR→Prop}{n1 h1:Bool}: ∀{l:List PR} {i:Nat} {y:PR} {n0 h0:Bool},l[i]? =some y→okFl I n0 n1 h0 h1 l→okF I (if i=0 then n0 else n1) (if i=0 then h0 else h1) y
 | [],_,_,_,_,h,_=>by cases h
 |z::r,0,y,n0,h0,h,w=>by
  injection h with h;subst h
  rw [okFl] at w
  exact w.1
 |z::r,i+1,y,n0,h0,h,w=>by
  rw [okFl] at w
  have:=okFl_idx (i:=i) (by simpa using h) w.2
  rw [if_neg (by omega),if_neg (by omega)]
  by_cases hi:i=0
  ·rw [if_pos hi,if_pos hi] at this;exact this
  ·rw [if_neg hi,if_neg hi] at this;exact this
theorem fine_a(V:List KV)(C:List Int)(b:Nat)(q p:PR)(left inside:Int)(next high:Bool)(hok:okF (ItsOk V C) next high p)(hsz:(szR p:Int)≤left)(hl1:left≤81920)(hht:(htR p:Int)+inside≤96)(hin:0≤inside)
 (ih0: ∀(y q':PR) (lf:Int) (n h:Bool),szR y<szR p→okF (ItsOk V C) n h y→(szR y:Int)≤lf→lf≤81920→(htR y:Int)+(inside+1)≤96→fineE V C b q' y lf (inside+1) n h):fineE V C b q p left inside next high:=by
 have hok0:=hok
 rw [okF_eq] at hok
 obtain ⟨⟨hi,h16,h11⟩,hokl,hoks⟩:=hok
 have hpos:=szR_pos p
 have hhpos:=htR_pos p
 have hits:=itself_p V C b q p left hi.wait hi.gl hi.ll (fun g hg=>by obtain ⟨y,hy⟩:=hi.body g hg;rw [hy];show 1≤2048;omega) hi.wf hi.may
 have hgl:=hi.gl
 have hll:=hi.ll
 have n1:((encRl p.l).length:Int)=p.l.length:=by rw [encRl_len]
 have n2:((encGl p.gs).length:Int)=p.gs.length:=by rw [encGl_len]
 unfold fineE FunE
 refine Fun.of (S:=tt) (fn:=Tryz.f64) (n:=121) tt_ok Tryz.func64 rfl rfl rfl rfl fun w0 h0 F hgs=>?_
 (repeat refine A.s rfl ?_)
 refine A.b rfl fun b1=>?_
 refine y_ ?_
 refine F_ rfl (show (inside==96)=false by rw [beq_eq_false_iff_ne];omega) ?_
 refine F_ rfl (show (left==0)=false by rw [beq_eq_false_iff_ne];omega) ?_
 refine F_ rfl (show decide (2048<((encRl p.l).length:Int))=false by rw [decide_eq_false_iff_not,n1];omega) ?_
 refine A.valE 35 rfl (x':=AB false) (ab_eq (by show decide (16<((encGl p.gs).length:Int))=false;rw [decide_eq_false_iff_not,n2];omega)) ?_
 refine g_ ?_
 refine A.valE 51 rfl (x':=AB false) (ab_eq (nowait h16 h11)) ?_
 refine A.e rfl hits .refl (List.Perm.swap _ _ _) fun _ _=>?_
 refine y_ ?_
 refine A.entsEq (Λ':=[.box b (ckS V C (ownR p) (left-1)), .box b1 (cellsR p)]) (by rw [wr64 _ (by omega)];rfl) ?_
 refine A.valE 66 rfl (x':=AI (p.l.length:Nat)) (ai_eq n1) ?_
 refine A.keep [0,2,3,4,6,65,66,67] rfl ?_
 refine A.loopP (ι:=Nat×PR) (fun s=>(⟨[(0,ptrA b),(2,AI inside),(3,AB next),(4,AB high),(6,ptrA b1),(65,rsA p.l),(66,AI (p.l.length:Nat)),(67,AI (s.1:Nat))],[]⟩,[.box b (ckS V C s.2 (left-1-(szL (p.l.take s.1):Nat))), .box b1 (cellsR p)]))
  (fun s=>s.1≤p.l.length) (fun s=>p.l.length-s.1) (0,ownR p) (Nat.zero_le _) (by simp [szL]) fun s hs ih=>?_
 obtain ⟨i,q1⟩:=s
 simp only at hs
 refine y_ ?_
 refine k_ (fun hc=>?_) fun hc=>?_
 ·have hci:i<p.l.length:=by simpa using hc
  clear hc
  refine Exists.elim (at_exN (l:=p.l) (i:=i) hci) fun y hy=>?_
  have hym:=List.mem_of_getElem? hy
  have hbr:=branches_p p
  have htk:szL (p.l.take (i+1))=szL (p.l.take i)+szR y:=by rw [List.take_add_one,hy,szL_append];simp [szL]
  have hsy:szL (p.l.take (i+1))≤szL p.l:=by
   have:=szL_append (p.l.take (i+1)) (p.l.drop (i+1))
   rw [List.take_append_drop] at this;omega
  have hse:=szR_eq p
  have hhe:=htR_eq p
  have hhy:=htL_le hym
  have hfl:=okFl_idx hy hokl
  have hnx:(if i=0 then (next&&(p.kind==9||p.kind==10||p.kind==11)) else (next&&(p.kind==10||p.kind==11)))=(next&&(bothB p||(p.kind==9&&decide (i=0)))):=by
   unfold bothB
   by_cases h0:i=0
   ·rw [if_pos h0,decide_eq_true h0];cases next<;>cases (p.kind==9)<;>cases (p.kind==10)<;>cases (p.kind==11)<;>rfl
   ·rw [if_neg h0,decide_eq_false h0];cases next<;>cases (p.kind==9)<;>cases (p.kind==10)<;>cases (p.kind==11)<;>rfl
  have hhx:(if i=0 then (high||p.kind==11) else high)=(high||(p.kind==11&&decide (i=0))):=by
   by_cases h0:i=0
   ·rw [if_pos h0,decide_eq_true h0];cases high<;>cases (p.kind==11)<;>rfl
   ·rw [if_neg h0,decide_eq_false h0];cases high<;>cases (p.kind==11)<;>rfl
  rw [hnx,hhx] at hfl
  have ihy:=ih0 y q1 (left-1-(szL (p.l.take i):Nat)) _ _ (by omega) hfl (by omega) (by omega) (by omega)
  unfold fineE at ihy
  have e0:(((i:Nat):Int)==0)=decide (i=0):=by rw [Bool.eq_iff_iff];simp
  refine y_ ?_
  refine j_ rfl (encRl_at hy) (encR_eq y) ?_
  (refine b_ fun bx=>?_;refine y_ ?_)
  cases next with
  |true=>
   refine d_ 28 [0,1,2,3,4,5,6,18,7,8,9,10,11,12,13,14,15,16,17,19,20,21,22,23,24,25,26,27] [(7,AB (bothB p))] ?_
   refine WA.c rfl rfl hbr (.sub .refl) ?_
   refine v_ ?_
   refine WA.valE 89 rfl (x':=AB (true&&(bothB p||(p.kind==9&&decide (i=0))))) (ab_eq (by show (bif true then bif bothB p then true else bif p.kind==9 then (((i:Nat):Int)==0) else false else false)=_;rw [e0];cases bothB p<;>cases (p.kind==9)<;>rfl)) ?_
   refine WA.valE 99 rfl (x':=AB (high||(p.kind==11&&decide (i=0)))) (ab_eq (by show (bif high then true else bif p.kind==11 then (((i:Nat):Int)==0) else false)=_;rw [e0];cases high<;>cases (p.kind==11)<;>rfl)) ?_
   refine WA.valE 75 rfl (x':=AI (inside+1)) (ai_eq (wr64 _ (by omega))) ?_
   refine WA.nil (l:=[]) rfl ?_
   refine A.e rfl ihy .refl (List.Perm.swap _ _ _) fun q2 _=>?_
   refine y_ ?_
   refine A.valE 67 rfl (x':=AI ((i+1:Nat):Int)) (inc_eq i (by omega)) ?_
   refine A.less (Λ':=[.box b (ckS V C q2 (left-1-(szL (p.l.take (i+1)):Nat))), .box b1 (cellsR p)]) (by rw [show left-1-(szL (p.l.take (i+1)):Nat)=left-1-(szL (p.l.take i):Nat)-szR y by rw [htk];omega];exact sl_) ?_
   refine u_ (ih (i+1,q2) (by show i+1≤_;omega) (by show _-(i+1)<_-i;omega))
  |false=>
   refine A.draw 28 [0,1,2,3,4,5,6,18,7,8,9,10,11,12,13,14,15,16,17,19,20,21,22,23,24,25,26,27] noPubs [(7,AB (bothB p))] (by kernel_rfl) (by kernel_rfl) ?_
   refine v_ ?_
   refine WA.valE 89 rfl (x':=AB (false&&(bothB p||(p.kind==9&&decide (i=0))))) (ab_eq rfl) ?_
   refine WA.valE 99 rfl (x':=AB (high||(p.kind==11&&decide (i=0)))) (ab_eq (by show (bif high then true else bif p.kind==11 then (((i:Nat):Int)==0) else false)=_;rw [e0];cases high<;>cases (p.kind==11)<;>rfl)) ?_
   refine WA.valE 75 rfl (x':=AI (inside+1)) (ai_eq (wr64 _ (by omega))) ?_
   refine WA.nil (l:=[]) rfl ?_
   refine A.e rfl ihy .refl (List.Perm.swap _ _ _) fun q2 _=>?_
   refine y_ ?_
   refine A.valE 67 rfl (x':=AI ((i+1:Nat):Int)) (inc_eq i (by omega)) ?_
   refine A.less (Λ':=[.box b (ckS V C q2 (left-1-(szL (p.l.take (i+1)):Nat))), .box b1 (cellsR p)]) (by rw [show left-1-(szL (p.l.take (i+1)):Nat)=left-1-(szL (p.l.take i):Nat)-szR y by rw [htk];omega];exact sl_) ?_
   refine u_ (ih (i+1,q2) (by show i+1≤_;omega) (by show _-(i+1)<_-i;omega))
 have hci: ¬i<p.l.length:=by simpa using hc
 have hil:i=p.l.length:=by omega
 clear hc ih
 subst hil
 rw [List.take_length]
 refine y_ ?_
 refine A.valE 105 rfl (x':=AI (p.gs.length:Nat)) (ai_eq n2) ?_
 refine A.keep [0,2,3,4,6,104,105,106] rfl ?_
 refine A.loopP (ι:=Nat×PR) (fun s=>(⟨[(0,ptrA b),(2,AI inside),(3,AB next),(4,AB high),(6,ptrA b1),(104,gsA p.gs),(105,AI (p.gs.length:Nat)),(106,AI (s.1:Nat))],[]⟩,[.box b (ckS V C s.2 (left-1-(szL p.l:Nat)-(szGs (p.gs.take s.1):Nat))), .box b1 (cellsR p)]))
  (fun s=>s.1≤p.gs.length) (fun s=>p.gs.length-s.1) (0,q1) (Nat.zero_le _) (by simp [szGs]) fun s hs ih=>?_
 obtain ⟨j,q2⟩:=s
 simp only at hs
 have hse:=szR_eq p
 have hhe:=htR_eq p
 refine y_ ?_
 refine k_ (fun hc=>?_) fun hc=>?_
 ·have hcj:j<p.gs.length:=by simpa using hc
  clear hc
  refine Exists.elim (at_exN (l:=p.gs) (i:=j) hcj) fun g hg=>?_
  have hgm:=List.mem_of_getElem? hg
  refine Exists.elim (hi.body g hgm) fun y hy=>?_
  have hgs1:szG g=szR y:=by rw [szG_eq,hy,szL,szL];omega
  have hgh1:htG g=htR y:=by rw [htG_eq,hy,htL,htL];omega
  have htk:szGs (p.gs.take (j+1))=szGs (p.gs.take j)+szR y:=by rw [List.take_add_one,hg,szGs_append];show _+szGs [g]=_;rw [szGs,szGs,hgs1];omega
  have hsy:szGs (p.gs.take (j+1))≤szGs p.gs:=by
   have:=szGs_append (p.gs.take (j+1)) (p.gs.drop (j+1))
   rw [List.take_append_drop] at this;omega
  have hhy:=htGs_le hgm
  have hok1:=okFs_mem hoks g hgm
  rw [okFg_eq,hy,okFl] at hok1
  have ihy:=ih0 y q2 (left-1-(szL p.l:Nat)-(szGs (p.gs.take j):Nat)) false high (by omega) hok1.1 (by omega) (by omega) (by omega)
  unfold fineE at ihy
  refine y_ ?_
  refine j_ rfl (encGl_at hg) (encG_eq g) ?_
  (refine b_ fun bx=>?_;refine y_ ?_)
  refine i_ rfl (show (encRl g.body)[(0:Int).toNat]? =some (encR y) from encRl_at (by rw [hy];rfl)) (encR_eq y) ?_
  refine A.valE 116 rfl (x':=AI (inside+1)) (ai_eq (wr64 _ (by omega))) ?_
  refine A.e rfl ihy .refl (List.Perm.swap _ _ _) fun q3 _=>?_
  refine y_ ?_
  refine A.valE 106 rfl (x':=AI ((j+1:Nat):Int)) (inc_eq j (by omega)) ?_
  refine A.less (Λ':=[.box b (ckS V C q3 (left-1-(szL p.l:Nat)-(szGs (p.gs.take (j+1)):Nat))), .box b1 (cellsR p)]) (by rw [show left-1-(szL p.l:Nat)-(szGs (p.gs.take (j+1)):Nat)=left-1-(szL p.l:Nat)-(szGs (p.gs.take j):Nat)-szR y by rw [htk];omega];exact sl_) ?_
  refine u_ (ih (j+1,q3) (by show j+1≤_;omega) (by show _-(j+1)<_-j;omega))
 have hcj: ¬j<p.gs.length:=by simpa using hc
 have hjl:j=p.gs.length:=by omega
 clear hc ih
 subst hjl
 rw [List.take_length]
 refine y_ ?_
 refine A.entsEq (Λ':=[.box b (ckS V C q2 (left-szR p)), .box b1 (cellsR p)]) (by rw [show left-1-(szL p.l:Nat)-(szGs p.gs:Nat)=left-szR p by omega]) ?_
 refine A.ret1 (Λ':=[.box b _]) rfl rfl rfl sl_ ⟨q2, .refl,rfl,trivial⟩
theorem fine_n(V:List KV)(C:List Int)(b:Nat): ∀(N:Nat) (q p:PR) (left inside:Int) (next high:Bool),szR p≤N→okF (ItsOk V C) next high p→(szR p:Int)≤left→left≤81920→(htR p:Int)+inside≤96→0≤inside→fineE V C b q p left inside next high
 |0,q,p,_,_,_,_,h,_,_,_,_,_=>by have:=szR_pos p;omega
 |N+1,q,p,left,inside,next,high,h,hok,h1,h2,h3,h4=>fine_a V C b q p left inside next high hok h1 h2 h3 h4 fun y q' lf n hi hs hk a1 a2 a3=>fine_n V C b N q' y lf (inside+1) n hi (by omega) hk a1 a2 a3 (by omega)
theorem fine_p(V:List KV)(C:List Int)(b:Nat)(q p:PR)(left inside:Int)(next high:Bool)(hok:okF (ItsOk V C) next high p)(h1:(szR p:Int)≤left)(h2:left≤81920)(h3:(htR p:Int)+inside≤96)(h4:0≤inside):fineE V C b q p left inside next high:=fine_n V C b _ q p left inside next high (Nat.le_refl _) hok h1 h2 h3 h4
structure KOk(V:List KV)(C:List Int):Prop where
 vl:V.length≤256
 cl:2≤C.length
 cu:C.length≤64
 var:V.all varOk=true
 ch:okCh 0 C=true
abbrev asAlt(p:PR):PR:=⟨if p.kind=16 then 14 else p.kind,p.c,p.v,p.item,p.to,p.e,p.gs,p.l⟩
structure Loc(V:List KV)(C:List Int)(p:PR):Prop where
 kind:kindB V C.length (asAlt p)=true
 wait:p.kind=16→ ∀g,g∈p.gs→waitsG g=true
 room:1+p.l.length+p.gs.length≤2048
 to: ∀t,t∈p.to→wfPl t∧smP t
 e: ∀x,x∈p.e→wfK x∧smK x
 gs: ∀g,g∈p.gs→(wfK g.cond∧smK g.cond)∧(wfK g.time∧smK g.time)∧(wfPl g.to∧smP g.to)
theorem guardB_own(V:List KV)(n:Nat)(c:Bool)(g:GD):guardB V n (ownG g) c=guardB V n g c:=by
 obtain ⟨k,e,c',i,to,t,b⟩:=g
 unfold guardB
 show ((List.length (b.map fun _=>skipR)==1)&&_&&_&&_)=_
 rw [List.length_map];rfl
theorem kindB_len(V:List KV)(n:Nat){k c v i:Int}{to:List PL}{e:List KE}{gs:List GD}{l l':List PR}(h:l'.length=l.length):kindB V n ⟨k,c,v,i,to,e,gs,l'⟩=kindB V n ⟨k,c,v,i,to,e,gs,l⟩:=by
 simp only [kindB,shapeR,PR.l,h]
theorem kindB_gs(V:List KV)(n:Nat){k c v i:Int}{to:List PL}{e:List KE}{gs:List GD}{l:List PR}:kindB V n ⟨k,c,v,i,to,e,gs.map ownG,l⟩=kindB V n ⟨k,c,v,i,to,e,gs,l⟩:=by
 have h: ∀b,((fun g=>guardB V n g b)∘ownG)=fun g=>guardB V n g b:=fun b=>funext fun g=>guardB_own V n b g
 simp only [kindB,shapeR,PR.gs,PR.kind,List.length_map,List.all_map,h]
theorem kindB_own(V:List KV)(n:Nat)(p:PR):kindB V n (ownR p)=kindB V n (asAlt p):=by
 unfold ownR
 rw [kindB_gs,kindB_len (l:=p.l) V n (by rw [List.length_map])]
theorem kind_lens{V:List KV}{n:Nat}{p:PR}(h:kindB V n p=true):p.to.length≤8∧p.e.length≤8∧p.gs.length≤16∧p.l.length≤2048:=by
 have h0: ∀{ch v:Bool} {t1 t2 e1 e2 g1 g2 l1 l2:Int},shapeR p ch v t1 t2 e1 e2 g1 g2 l1 l2=true→t2≤8→e2≤8→g2≤16→l2≤2048→p.to.length≤8∧p.e.length≤8∧p.gs.length≤16∧p.l.length≤2048:=fun hs a b c d=>by
  simp only [shapeR,inB,Bool.and_eq_true,decide_eq_true_eq] at hs
  omega
 unfold kindB at h
 by_cases k0:p.kind=1∨p.kind=2
 ·rw [if_pos k0] at h;exact h0 h (by decide) (by decide) (by decide) (by decide)
 rw [if_neg k0] at h
 by_cases k1:p.kind=3
 ·rw [if_pos k1,Bool.and_eq_true,Bool.and_eq_true] at h;exact h0 h.1.1 (by decide) (by decide) (by decide) (by decide)
 rw [if_neg k1] at h
 by_cases k2:p.kind=4
 ·rw [if_pos k2,Bool.and_eq_true,Bool.and_eq_true] at h;exact h0 h.1.1 (by decide) (by decide) (by decide) (by decide)
 rw [if_neg k2] at h
 by_cases k3:p.kind=5
 ·rw [if_pos k3,Bool.and_eq_true] at h;exact h0 h.1 (by decide) (by decide) (by decide) (by decide)
 rw [if_neg k3] at h
 by_cases k4:p.kind=6
 ·rw [if_pos k4,Bool.and_eq_true,Bool.and_eq_true] at h;exact h0 h.1.1 (by decide) (by decide) (by decide) (by decide)
 rw [if_neg k4] at h
 by_cases k5:p.kind=7
 ·rw [if_pos k5,Bool.and_eq_true] at h;exact h0 h.1 (by decide) (by decide) (by decide) (by decide)
 rw [if_neg k5] at h
 by_cases k6:p.kind=8
 ·rw [if_pos k6,Bool.and_eq_true] at h;exact h0 h.1 (by decide) (by decide) (by decide) (by decide)
 rw [if_neg k6] at h
 by_cases k7:p.kind=9
 ·rw [if_pos k7] at h;exact h0 h (by decide) (by decide) (by decide) (by decide)
 rw [if_neg k7] at h
 by_cases k8:p.kind=10
 ·rw [if_pos k8] at h;exact h0 h (by decide) (by decide) (by decide) (by decide)
 rw [if_neg k8] at h
 by_cases k9:p.kind=11
 ·rw [if_pos k9] at h;exact h0 h (by decide) (by decide) (by decide) (by decide)
 rw [if_neg k9] at h
 by_cases k10:p.kind=12∨p.kind=14∨p.kind=15
 ·rw [if_pos k10,Bool.and_eq_true] at h;exact h0 h.1 (by decide) (by decide) (by decide) (by decide)
 rw [if_neg k10] at h
 by_cases k11:p.kind=13
 ·rw [if_pos k11,Bool.and_eq_true] at h;exact h0 h.1 (by decide) (by decide) (by decide) (by decide)
 rw [if_neg k11] at h
 cases h
section
variable{V:List KV}{C:List Int}
theorem Loc.lens{p:PR}(h:Loc V C p):p.to.length≤8∧p.e.length≤8∧p.gs.length≤16∧p.l.length≤2048:=kind_lens (p:=asAlt p) h.kind
theorem Loc.body{p:PR}(h:Loc V C p): ∀g,g∈p.gs→ ∃y,g.body=[y]:=(kind_bodies (p:=asAlt p) h.kind).2.2
theorem skip_kind(n:Nat):kindB V n skipR=true:=rfl
theorem stop_kind(n:Nat):kindB V n stopR=true:=rfl
theorem wf_skip:wfR skipR:=by
 rw [skipR,wfR,wfGl,wfRl,wfKl]
 exact ⟨⟨(by intro t h;cases h),trivial,by decide,by decide,by decide⟩,trivial,trivial⟩
theorem skips_wf{α:Type}(l:List α):wfRl (l.map fun _=>skipR):=by
 induction l with
 |nil=>rw [List.map_nil,wfRl];trivial
 |cons x r ih=>rw [List.map_cons,wfRl];exact ⟨wf_skip,ih⟩
theorem skip_okR(n:Nat)(h:Bool):okR V n h skipR=true:=by
 rw [okR_eq,skip_kind]
 show (true&& !(h&&false)&&okL V n h false []&&okGs V n h [])=true
 rw [okL,okGs,Bool.and_false];rfl
theorem skips_ok{α:Type}(n:Nat)(h:Bool)(l:List α): ∀f,okL V n h f (l.map fun _=>skipR)=true:=by
 induction l with
 |nil=>intro f;rw [List.map_nil,okL]
 |cons x r ih=>intro f;rw [List.map_cons,okL,skip_okR,ih];rfl
theorem sz_skip:szR skipR=1:=by rw [szR_eq];show 1+szL []+szGs []=1;rw [szL,szGs]
theorem ht_skip:htR skipR=1:=by rw [htR_eq];show 1+max (htL []) (htGs [])=1;rw [htL,htGs];rfl
theorem skips_sz{α:Type}(l:List α):szL (l.map fun _=>skipR)=l.length∧htL (l.map fun _=>skipR)≤1:=by
 induction l with
 |nil=>rw [List.map_nil,szL,htL];exact ⟨rfl,by omega⟩
 |cons x r ih=>rw [List.map_cons,szL,htL,ih.1,sz_skip,ht_skip,List.length_cons];omega
theorem owns_ok(n:Nat)(h:Bool)(l:List GD):okGs V n h (l.map ownG)=true:=by
 induction l with
 |nil=>rw [List.map_nil,okGs]
 |cons x r ih=>
  rw [List.map_cons,okGs,ih,okG_eq]
  show (okL V n h false (x.body.map fun _=>skipR)&&true)=true
  rw [skips_ok];rfl
theorem owns_sz{l:List GD}(hb: ∀g,g∈l→ ∃y,g.body=[y]):szGs (l.map ownG)=l.length∧htGs (l.map ownG)≤1:=by
 induction l with
 |nil=>rw [List.map_nil,szGs,htGs];exact ⟨rfl,by omega⟩
 |cons x r ih=>
  obtain ⟨i1,i2⟩:=ih fun g hg=>hb g (.tail _ hg)
  obtain ⟨y,hy⟩:=hb x (.head _)
  rw [List.map_cons,szGs,htGs,i1,szG_eq,htG_eq]
  show szL (x.body.map fun _=>skipR)+_=_∧max (htL (x.body.map fun _=>skipR)) _≤1
  have h1:=skips_sz x.body
  rw [h1.1,hy]
  rw [hy] at h1
  have:=h1.2
  constructor
  ·show 1+r.length=r.length+1;omega
  ·omega
theorem owns_wf{l:List GD}(h: ∀g,g∈l→wfK g.cond∧wfK g.time∧wfPl g.to):wfGl (l.map ownG):=by
 induction l with
 |nil=>rw [List.map_nil,wfGl];trivial
 |cons x r ih=>
  rw [List.map_cons,wfGl]
  refine ⟨?_,ih fun g hg=>h g (.tail _ hg)⟩
  have:=h x (.head _)
  unfold ownG
  rw [wfG]
  exact ⟨⟨this.1,this.2.1,this.2.2⟩,skips_wf _⟩
theorem wfKl_of: ∀{l:List KE},(∀x,x∈l→wfK x)→wfKl l
 | [],_=>by rw [wfKl];trivial
 |y::r,h=>by rw [wfKl];exact ⟨h y (.head _),wfKl_of fun x hx=>h x (.tail _ hx)⟩
theorem Loc.its(K:KOk V C){p:PR}(h:Loc V C p):ItsOk V C p:=by
 obtain ⟨l1,l2,l3,l4⟩:=h.lens
 refine ⟨h.wait,l3,l4,h.body,⟨by have:=K.vl;show V.length≤_;omega,by have:=K.cu;show C.length≤_;omega,by show 0≤_;omega,?_⟩,?_⟩
 ·show wfR (ownR p)
  unfold ownR
  rw [wfR]
  exact ⟨⟨fun t ht=>(h.to t ht).1,wfKl_of fun x hx=>(h.e x hx).1,by omega,by rw [List.length_map];omega,by rw [List.length_map];omega⟩,owns_wf fun g hg=>⟨(h.gs g hg).1.1,(h.gs g hg).2.1.1,(h.gs g hg).2.2.1⟩,skips_wf _⟩
 ·have h1:okR V C.length false (ownR p)=true:=by
   rw [okR_eq,kindB_own,h.kind]
   show (true&& !(false&&_)&&okL V C.length false _ (p.l.map fun _=>skipR)&&okGs V C.length false (p.gs.map ownG))=true
   rw [skips_ok,owns_ok];rfl
  have h2:=skips_sz p.l
  have h3:=owns_sz h.body
  have h4:szR (ownR p)=1+p.l.length+p.gs.length:=by
   rw [szR_eq]
   show 1+szL (p.l.map fun _=>skipR)+szGs (p.gs.map ownG)=_
   rw [h2.1,h3.1]
  have h5:htR (ownR p)≤2:=by
   rw [htR_eq]
   show 1+max (htL (p.l.map fun _=>skipR)) (htGs (p.gs.map ownG))≤2
   omega
  have h6:fitsR V C.length false (ownR p) 2048 32:=⟨h1,by rw [h4];have:=h.room;omega,by omega⟩
  have h7:lensK ⟨V,C,ownR p,[]⟩=true:=by
   unfold lensK
   simp only [Bool.and_eq_true,decide_eq_true_eq]
   exact ⟨⟨K.vl,K.cl⟩,K.cu⟩
  unfold mayK
  rw [h7,decide_eq_true h6]
  show (true&&rootK ⟨V,C,ownR p,[]⟩&&okPr [] []&&V.all varOk&&okCh 0 C&&true)=true
  rw [K.var,K.ch];rfl
theorem loc_lax:Lax (Loc V C) where
 skip:=⟨skip_kind _,(by intro h;cases h),(by show 1+0+0≤2048;omega),(by intro t h;cases h),(by intro t h;cases h),(by intro t h;cases h)⟩
 stop:=⟨stop_kind _,(by intro h;cases h),(by show 1+0+0≤2048;omega),(by intro t h;cases h),(by intro t h;cases h),(by intro t h;cases h)⟩
 seq:=fun p l' h9 hl h=>by
  obtain ⟨k,c,v,i,to,e,gs,l⟩:=p
  have hl:l'.length≤l.length:=hl
  refine ⟨?_,h.wait,by have:=h.room;show 1+l'.length+gs.length≤2048;have h5:1+l.length+gs.length≤2048:=this;omega,h.to,h.e,h.gs⟩
  have h1:=h.kind
  unfold asAlt at h1⊢
  have h9:k=9:=h9
  subst h9
  have h2:shapeR ⟨9,c,v,i,to,e,gs,l⟩ false false 0 0 0 0 0 0 0 2048=true:=h1
  show shapeR ⟨9,c,v,i,to,e,gs,l'⟩ false false 0 0 0 0 0 0 0 2048=true
  simp only [shapeR,Bool.and_eq_true,inB,decide_eq_true_eq,PR.l,PR.gs,PR.to,PR.e,PR.c,PR.v,PR.item] at h2⊢
  refine ⟨h2.1,?_,?_⟩
  ·omega
  ·have:=h2.2.2;omega
 par:=fun p l' hl h=>by
  refine ⟨?_,h.wait,by have:=h.room;show 1+l'.length+p.gs.length≤2048;omega,h.to,h.e,h.gs⟩
  have h1:=h.kind
  unfold asAlt at h1⊢
  show kindB V C.length ⟨if p.kind=16 then 14 else p.kind,p.c,p.v,p.item,p.to,p.e,p.gs,l'⟩=true
  rw [kindB_len (l:=p.l) V C.length hl];exact h1
theorem okF_imp{I J:PR→Prop}(h: ∀p,I p→J p): ∀(m:Nat) (p:PR) (n hi:Bool),SizeOf.sizeOf p≤m→okF I n hi p→okF J n hi p
 |0,p,_,_,h,_=>by
  obtain ⟨k,c,v,i,to,e,gs,l⟩:=p
  simp only [PR.mk.sizeOf_spec] at h;omega
 |m+1,p,n,hi,hm,w=>by
  rw [okF_eq] at w⊢
  obtain ⟨⟨w1,w2,w3⟩,w4,w5⟩:=w
  have hl: ∀(l:List PR),(∀x,x∈l→SizeOf.sizeOf x≤m)→ ∀n0 n1 h0 h1,okFl I n0 n1 h0 h1 l→okFl J n0 n1 h0 h1 l:=by
   intro l
   induction l with
   |nil=>intro _ n0 n1 h0 h1 _;exact okFl_0
   |cons x r ih=>
    intro hx n0 n1 h0 h1 w
    rw [okFl] at w⊢
    exact ⟨okF_imp h m x n0 h0 (hx x (.head _)) w.1,ih (fun y hy=>hx y (.tail _ hy)) _ _ _ _ w.2⟩
  refine ⟨⟨h _ w1,w2,w3⟩,hl p.l (fun x hx=>by have:=pr_lt hx;omega) _ _ _ _ w4,okFs_of fun g hg=>?_⟩
  have:=okFs_mem w5 g hg
  rw [okFg_eq] at this⊢
  exact hl g.body (fun x hx=>by have:=gg_lt hg;have:=bd_lt hx;omega) _ _ _ _ this
theorem okF_its(K:KOk V C){p:PR}{n hi:Bool}(w:okF (Loc V C) n hi p):okF (ItsOk V C) n hi p:=okF_imp (fun p h=>h.its K) _ p n hi (Nat.le_refl _) w
theorem ok_kernel_n: ∀(m:Nat) (p:PR) (n hi:Bool),SizeOf.sizeOf p≤m→okR V C.length hi p=true→szR p≤2048→wfR p→smR p→okF (Loc V C) n hi p
 |0,p,_,_,h,_,_,_,_=>by
  obtain ⟨k,c,v,i,to,e,gs,l⟩:=p
  simp only [PR.mk.sizeOf_spec] at h;omega
 |m+1,p,n,hi,hm,hok,hsz,hwf,hsm=>by
  rw [okR_eq] at hok
  simp only [Bool.and_eq_true,Bool.not_eq_true'] at hok
  obtain ⟨⟨⟨o1,o2⟩,o3⟩,o4⟩:=hok
  have hw:=wfR_all hwf
  have hs:=smR_all hsm
  have hb:=kind_bodies o1
  have hse:=szR_eq p
  have hl: ∀(l:List PR),(∀x,x∈l→SizeOf.sizeOf x≤m∧wfR x∧smR x)→szL l≤2048→ ∀n0 n1 f,okL V C.length hi f l=true→okFl (Loc V C) n0 n1 (hi||f) hi l:=by
   intro l
   induction l with
   |nil=>intro _ _ n0 n1 f _;exact okFl_0
   |cons x r ih=>
    intro hx hz n0 n1 f w
    rw [okL,Bool.and_eq_true] at w
    rw [szL] at hz
    rw [okFl]
    have h1:=hx x (.head _)
    refine ⟨ok_kernel_n m x n0 (hi||f) h1.1 w.1 (by omega) h1.2.1 h1.2.2,?_⟩
    have:=ih (fun y hy=>hx y (.tail _ hy)) (by omega) n1 n1 false w.2
    rw [Bool.or_false] at this;exact this
  have hroom:1+p.l.length+p.gs.length≤2048:=by
   have h1: ∀l:List PR,l.length≤szL l:=by
    intro l
    induction l with
    |nil=>exact Nat.zero_le _
    |cons x r ih=>rw [szL,List.length_cons];have:=szR_pos x;omega
   have h2: ∀l:List GD,(∀g,g∈l→ ∃y,g.body=[y])→l.length≤szGs l:=by
    intro l
    induction l with
    |nil=>intro _;exact Nat.zero_le _
    |cons x r ih=>
     intro hb
     obtain ⟨y,hy⟩:=hb x (.head _)
     have:=ih fun g hg=>hb g (.tail _ hg)
     have:=szR_pos y
     rw [szGs,List.length_cons,szG_eq,hy,szL,szL];omega
   have:=h1 p.l
   have:=h2 p.gs hb.2.2
   omega
  rw [okF_eq]
  refine ⟨⟨⟨?_,fun h=>by omega,hroom,fun t ht=>⟨hw.to t ht,hs.to t ht⟩,fun x hx=>⟨hw.e x hx,hs.e x hx⟩,fun g hg=>?_⟩,fun h=>by omega,fun h=>?_⟩,hl p.l (fun x hx=>⟨by have:=pr_lt hx;omega,hw.l x hx,hs.l x hx⟩) (by omega) _ _ _ o3,okFs_of fun g hg=>?_⟩
  ·unfold asAlt
   rw [if_neg (by omega)]
   obtain ⟨k,c,v,i,to,e,gs,l⟩:=p
   exact o1
  ·have h1:=wfG_all (hw.g g hg)
   have h2:=smG_all (hs.g g hg)
   exact ⟨⟨h1.cond,h2.cond⟩,⟨h1.time,h2.time⟩,h1.to,h2.to⟩
  ·rw [h] at o2
   revert o2
   cases hi<;>simp
  ·rw [okFg_eq]
   have h1:=wfG_all (hw.g g hg)
   have h2:=smG_all (hs.g g hg)
   have h3: ∀(l:List GD),okGs V C.length hi l=true→ ∀g,g∈l→okG V C.length hi g=true:=by
    intro l
    induction l with
    |nil=>intro _ g hg;cases hg
    |cons x r ih=>
     intro h g hg
     rw [okGs,Bool.and_eq_true] at h
     rcases List.mem_cons.1 hg with rfl|hg
     ·exact h.1
     ·exact ih h.2 g hg
   have h4:=h3 p.gs o4 g hg
   rw [okG_eq] at h4
   have h5:=hl g.body (fun x hx=>⟨by have:=gg_lt hg;have:=bd_lt hx;omega,h1.body x hx,h2.body x hx⟩) (by have:=szGs_le hg;rw [szG_eq] at this;omega) false false false h4
   rw [Bool.or_false] at h5;exact h5
theorem ok_kernel{p:PR}{n hi:Bool}(hok:okR V C.length hi p=true)(hsz:szR p≤2048)(hwf:wfR p)(hsm:smR p):okF (Loc V C) n hi p:=ok_kernel_n _ p n hi (Nat.le_refl _) hok hsz hwf hsm
end
abbrev s0:List (List Int):=[[7],[1,2,3]]
theorem sl_rows(hs:List (Value×List Int)):slL 1 (rowsH hs)=(hs.map Prod.snd).map rowA:=by simp [slL,rowsH]
abbrev s1:List (List Int):=[[5,6,7]]
abbrev v0:List KV:=[⟨1,0⟩,⟨3,3⟩]
theorem rows_pure{f:FuncId}{a:List AV}{n:Nat}{s:List (List Int)}(hf:FunE Tryz.prog gs0 f a [] (fun p:Value×List (Value×List Int)=> .ms p.1 1 n) (fun p=>[.rows 1 (rowsH p.2), .row 1 p.1 (msL 1 (rowsH p.2))]) (fun p=>p.2.map Prod.snd=s)):
 Pure Tryz.prog gs0 f a (rowsA s):=
 Fun.rows (Fun.mono hf fun x Λ' ⟨p,h1,h2,h3⟩=>⟨p.1,rowsH p.2,n,h1,h2,by rw [sl_rows,h3]⟩)
def storeS(l:List KV):List (List Int):=if soundsB l then storeM l else []
theorem Put_p(s:List (List Int))(v i x:Int)(h1:s.length≤1073741824)(h2: ∀r,r∈s→r.length≤35184372088832):Pure Tryz.prog gs0 40 [rowsA s,AI v,AI i,AI32 x] (rowsA (putM s v i x)):=
 rows_pure (put_p s v i x h1 h2)
theorem rSame_p(a b:List (List Int))(ha:short a):Pure Tryz.prog gs0 48 [rowsA a,rowsA b] (AB (sameB a b)):=by
 have ha1:=ha.1
 by_cases hlen:a.length=b.length
 case neg=>
  refine p_ tt_ok Tryz.func48 53 fun w0 h0 F hgs=>?_
  refine y_ ?_
  refine e_ 11 rfl (x':=AB true) (ab_eq (by simp;omega)) ?_;refine R_ ?_;refine Sb.eq (ab_eq ?_);simp [sameB,alikeB,hlen]
 refine p_ tt_ok Tryz.func48 53 fun w0 h0 F hgs=>?_
 refine y_ ?_
 refine e_ 11 rfl (x':=AB false) (ab_eq (by simp;omega)) ?_
 refine A.keep [0,1,5] rfl ?_
 refine A.loopP (ι:=Nat) (fun i=>(⟨[(0,rowsA a),(1,rowsA b),(5,AI (i:Int))],[]⟩,[])) (fun i=>i≤a.length∧allEq (alikeB (· == ·)) a b i=true) (fun i=>a.length-i) 0 ⟨by omega,rfl⟩ rfl fun i hi ih=>?_
 refine y_ ?_
 refine k_ (fun hc=>?_) fun hc=>?_
 ·simp at hc
  refine Exists.elim (at_exN (l:=a) (i:=i) (by omega)) fun x hx=>Exists.elim (at_exN (l:=b) (i:=i) (by omega)) fun y hy=>?_
  have hxl:=ha.2 x (List.mem_of_getElem? hx)
  have h1:=allEq_succ (alikeB (· == ·)) hx hy
  refine y_ ?_
  refine d_ 10 [0,1,2,3,4,5,6,7,8,9] [] ?_;refine iw_ rfl (map_at hx) rfl ?_;refine iw_ rfl (map_at hy) rfl ?_;refine WA.nil (l:=[]) rfl ?_
  refine A.entsEq (Λ':=[]) rfl ?_
  refine y_ ?_
  refine k_ (fun hc=>?_) fun hc=>?_
  ·simp at hc
   refine y_ ?_;refine R_ ?_;refine Sb.eq (ab_eq ?_)
   have h2:=allEq_le (f:=alikeB (· == ·)) (a:=a) (b:=b) (j:=i+1) (by rw [h1,alikeB,decide_eq_false (by omega)];simp) a.length (by omega)
   rw [sameB,alikeB,h2];simp
  ·simp at hc
   have hxy:x.length=y.length:=by omega
   refine y_ ?_
   refine A.keep [0,1,5,6] rfl ?_
   refine A.loopP (ι:=Nat) (fun j=>(⟨[(0,rowsA a),(1,rowsA b),(5,AI (i:Int)),(6,AI (j:Int))],[]⟩,[])) (fun j=>j≤x.length∧allEq (· == ·) x y j=true) (fun j=>x.length-j) 0 ⟨by omega,rfl⟩ rfl fun j hj jh=>?_
   refine y_ ?_
   refine i_ rfl (map_at hx) rfl ?_
   refine k_ (fun hc=>?_) fun hc=>?_
   ·rename_i hc0
    simp at hc
    refine Exists.elim (at_exN (l:=x) (i:=j) (by omega)) fun u hu=>Exists.elim (at_exN (l:=y) (i:=j) (by omega)) fun w hw=>?_
    have h3:=allEq_succ (· == ·) hu hw
    refine y_ ?_
    refine d_ 14 [0,1,2,3,4,5,6,7,8,9,10,11,12,13] [] ?_;refine iw_ rfl (map_at hx) rfl ?_;refine iw_ rfl (map_at hu) rfl ?_;refine iw_ rfl (map_at hy) rfl ?_;refine iw_ rfl (map_at hw) rfl ?_;refine WA.nil (l:=[]) rfl ?_
    refine A.entsEq (Λ':=[]) rfl ?_
    refine y_ ?_
    refine k_ (fun he=>?_) fun he=>?_
    ·simp at he
     refine y_ ?_;refine R_ ?_;refine Sb.eq (ab_eq ?_)
     have h4:=allEq_le (f:=(· == ·)) (a:=x) (b:=y) (j:=j+1) (by rw [h3];simp [he]) x.length (by omega)
     have h2:=allEq_le (f:=alikeB (· == ·)) (a:=a) (b:=b) (j:=i+1) (by rw [h1];simp [alikeB,h4]) a.length (by omega)
     rw [sameB,alikeB,h2];simp
    ·simp at he
     refine y_ ?_
     refine A.valE 6 rfl (x':=AI ((j+1:Nat):Int)) (inc_eq j (by omega)) ?_
     refine u_ (jh (j+1) ⟨by omega,by rw [h3];simp [hj.2,he]⟩ (by omega))
   ·simp at hc
    have hjl:j=x.length:=by omega
    have h4:=hj.2
    rw [hjl] at h4
    refine y_ ?_
    refine A.valE 5 rfl (x':=AI ((i+1:Nat):Int)) (inc_eq i (by omega)) ?_
    refine u_ (ih (i+1) ⟨by omega,by rw [h1,hi.2,alikeB,h4,decide_eq_true hxy];rfl⟩ (by omega))
 ·simp at hc
  have:i=a.length:=by omega
  subst this
  have h2:=hi.2
  refine y_ ?_;refine R_ ?_;refine Sb.eq (ab_eq ?_);rw [sameB,alikeB,h2,decide_eq_true hlen];rfl
theorem may_pN(l:List KV)(ch:List Int)(q:PR)(pr:List Int)(s:List (List Int))(hb:l.length≤281474976710656)(hs:short s):Pure Tryz.prog gs0 63 [encN ⟨l,ch,q,pr⟩,rowsA s] (AB (mayB l s)):=by
 have hl:((l.map encV).length:Int)=l.length:=by rw [List.length_map]
 have hsl:((s.map rowA).length:Int)=s.length:=by rw [List.length_map]
 have hp:=sounds_p l hb
 by_cases hlen:s.length=l.length
 case neg=>
  refine p_ tt_ok Tryz.func63 45 fun w0 h0 F hgs=>?_
  (refine gb_ fun bx=>?_;refine g_ ?_)
  refine e_ 13 rfl (x':=AB true) (ab_eq (by simp;omega)) ?_;refine R_ ?_;refine Sb.eq (ab_eq ?_);simp [mayB,hlen]
 cases hso:soundsB l with
 |false=>
  rw [hso] at hp
  refine p_ tt_ok Tryz.func63 45 fun w0 h0 F hgs=>?_
  (refine gb_ fun bx=>?_;refine g_ ?_)
  refine A.valE 13 rfl (x':=AB false) (ab_eq (by simp;omega)) ?_
  refine c_ (hp) ?_;refine R_ ?_;refine Sb.eq (ab_eq ?_);simp [mayB,hso]
 |true=>
  rw [hso] at hp
  refine p_ tt_ok Tryz.func63 45 fun w0 h0 F hgs=>?_
  (refine gb_ fun bx=>?_;refine g_ ?_)
  refine A.valE 13 rfl (x':=AB false) (ab_eq (by simp;omega)) ?_
  refine c_ (hp) ?_
  refine A.valE 21 rfl (x':=AI (l.length:Nat)) (ai_eq hl) ?_
  refine A.keep [1,20,21,22] rfl ?_
  refine l_ (Λ':=[]) ?_
  refine A.loopP (ι:=Nat) (fun i=>(⟨[(1,rowsA s),(20,varsA l),(21,AI (l.length:Nat)),(22,AI (i:Int))],[]⟩,[])) (fun i=>i≤l.length∧allEq mayRow l s i=true) (fun i=>l.length-i) 0 ⟨by omega,rfl⟩ rfl fun i hi ih=>?_
  refine y_ ?_
  refine k_ (fun hc=>?_) fun hc=>?_
  ·simp at hc
   refine Exists.elim (at_exN (l:=l) (i:=i) hc) fun v hv=>Exists.elim (at_exN (l:=s) (i:=i) (by omega)) fun r hr=>?_
   have hrl:=hs.2 r (List.mem_of_getElem? hr)
   have h1:=allEq_succ mayRow hv hr
   refine y_ ?_
   refine j_ rfl (map_at hv) rfl ?_
   (refine b_ fun bx=>?_;refine y_ ?_)
   refine A.freeze 6 rfl (sz:=2) rfl rfl ?_
   by_cases hlr:(r.length:Int)=longI v
   ·refine d_ 15 [0,1,2,3,4,5,6,7,8,9,10,11,12,13,14] [] ?_;refine WA.x rfl (by omega) (map_at hr) rfl rfl ?_
    refine v_ ?_
    refine WA.valE 36 rfl (x':=AB false) (ab_eq ?_) ?_
    ·rw [List.length_map,bne_eq_false_iff_eq,hlr,longI];split<;>split<;>omega
    refine iw_ rfl (map_at hr) rfl ?_
    refine WA.nil rfl ?_
    have hm:=has32_p 110 [.pe 2 (encV v)] (fun x=> !fitsB v.kind x) (may1_p v) r hrl
    refine c_ (hm) ?_
    refine k_ (fun hr2=>?_) fun hr2=>?_
    ·have hr2:(r.any fun x=> !fitsB v.kind x)=true:=hr2
     refine y_ ?_;refine R_ ?_;refine Sb.eq (ab_eq ?_)
     have h2:=allEq_le (f:=mayRow) (a:=l) (b:=s) (j:=i+1) (by rw [h1,mayRow,hr2];simp) l.length (by omega)
     rw [mayB,h2];simp
    ·have hr2:(r.any fun x=> !fitsB v.kind x)=false:=hr2
     refine y_ ?_
     refine A.valE 22 rfl (x':=AI ((i+1:Nat):Int)) (inc_eq i (by omega)) ?_
     refine u_ (ih (i+1) ⟨by omega,by rw [h1,hi.2,mayRow,hr2,hlr];simp⟩ (by omega))
   ·refine d_ 15 [0,1,2,3,4,5,6,7,8,9,10,11,12,13,14] [] ?_;refine WA.x rfl (by omega) (map_at hr) rfl rfl ?_
    refine v_ ?_
    refine WA.valE 36 rfl (x':=AB true) (ab_eq ?_) ?_
    ·rw [List.length_map,bne_iff_ne];unfold longI at hlr;split at hlr<;>split<;>omega
    refine w_ ?_
    refine WA.nil rfl ?_
    refine y_ ?_;refine R_ ?_;refine Sb.eq (ab_eq ?_)
    have h2:=allEq_le (f:=mayRow) (a:=l) (b:=s) (j:=i+1) (by rw [h1,mayRow,beq_eq_false_iff_ne.2 hlr];simp) l.length (by omega)
    rw [mayB,h2];simp
  ·simp at hc
   have:i=l.length:=by omega
   subst this
   refine y_ ?_;refine R_ ?_;refine Sb.eq (ab_eq ?_);rw [mayB,hso,hi.2,decide_eq_true hlen];rfl
theorem store_noN(l:List KV)(ch:List Int)(q:PR)(pr:List Int)(hb:l.length≤281474976710656)(hs:soundsB l=false):Pure Tryz.prog gs0 43 [encN ⟨l,ch,q,pr⟩] nilV:=by
 have hp:=sounds_p l hb
 rw [hs] at hp
 refine p_ tt_ok Tryz.func43 31 fun w0 h0 F hgs=>?_
 (refine b_ fun bx=>?_;refine y_ ?_);exact cr_ (hp)
theorem store_pN(l:List KV)(ch:List Int)(q:PR)(pr:List Int)(hs:soundsB l=true):
 FunE Tryz.prog gs0 43 [encN ⟨l,ch,q,pr⟩] [] (fun p:Value×List (Value×List Int)=> .ms p.1 1 l.length) (fun p=>[.rows 1 (rowsH p.2), .row 1 p.1 (msL 1 (rowsH p.2))]) (fun p=>p.2.map Prod.snd=storeM l):=by
 have hs0:=hs
 unfold soundsB at hs0
 simp at hs0
 have hp:=sounds_p l (by omega)
 rw [hs] at hp
 have hl:((l.map encV).length:Int)=l.length:=by rw [List.length_map]
 unfold FunE
 refine Fun.of (S:=tt) (fn:=Tryz.f43) (n:=31) tt_ok Tryz.func43 rfl rfl rfl rfl fun w0 h0 F hgs=>?_
 (refine b_ fun bx=>?_;refine y_ ?_);refine c_ (hp) ?_
 refine A.valE 12 rfl (x':=AI (l.length:Nat)) (ai_eq hl) ?_
 refine A.make rfl rfl rfl rfl rfl rfl rfl rfl rfl rfl rfl rfl (by omega) ?_ (by omega) fun zo=>?_
 ·show ((24:Nat):Int)*_≤_
  omega
 refine y_ ?_
 refine A.valE 3 rfl (x':= .ms zo 1 l.length) (by rw [Int.toNat_natCast];rfl) ?_
 refine A.valE 16 rfl (x':=AI (l.length:Nat)) (ai_eq hl) ?_
 refine A.keep [3,15,16,17] rfl ?_
 refine l_ (Λ':=[.row 1 zo (List.replicate (l.length:Int).toNat nilV)]) ?_
 refine A.entsEq (Λ':=[.row 1 zo (List.replicate l.length nilV)]) (by rw [Int.toNat_natCast]) ?_
 refine A.rows0 1 ?_
 refine A.loopP (ι:=List (Value×List Int)) (fun hs=>(⟨[(3, .ms zo 1 l.length),(15,varsA l),(16,AI (l.length:Nat)),(17,AI (hs.length:Nat))],[]⟩,[.rows 1 (rowsH hs), .row 1 zo (msL 1 (rowsH hs)++List.replicate (l.length-hs.length) nilV)]))
  (fun hs=>hs.map Prod.snd=(storeM l).take hs.length∧hs.length≤l.length) (fun hs=>l.length-hs.length) [] ⟨rfl,Nat.zero_le _⟩ rfl fun hs hi ih=>?_
 refine y_ ?_
 refine k_ (fun hc=>?_) fun hc=>?_
 ·simp at hc
  refine Exists.elim (at_exN (l:=l) (i:=hs.length) hc) fun v hv=>?_
  have hvm:=hs0.2 v (List.mem_of_getElem? hv)
  simp [soundB] at hvm
  have hlo:1≤longI v∧longI v≤64:=by unfold longI;split<;>omega
  refine y_ ?_
  refine j_ rfl (map_at hv) rfl ?_
  (refine b_ fun bx=>?_;refine y_ ?_)
  refine A.valE 26 rfl (x':=AI (longI v)) (ai_eq (by unfold longI;split<;>split<;>omega)) ?_
  refine A.make rfl rfl rfl rfl rfl rfl rfl rfl rfl rfl rfl rfl (by omega) ?_ (by omega) fun z=>?_
  ·show ((4:Nat):Int)*_≤_
   omega
  refine A.indexRow rfl rfl rfl rfl rfl rfl rfl rfl (by omega) (by rw [List.length_append,rowsH_len,List.length_replicate];omega) rfl ?_
  have hrl:(List.replicate (longI v).toNat (0:Int)).length=(longI v).toNat:=List.length_replicate
  refine A.valE 27 rfl (x':= .ms z 1 (List.replicate (longI v).toNat (0:Int)).length) (by rw [hrl];rfl) ?_
  refine l_ (Λ':=[.row 1 z (List.replicate (longI v).toNat (AI32 0)), .rows 1 (rowsH hs), .row 1 zo (msL 1 (rowsH hs)++List.replicate (l.length-hs.length) nilV)]) ?_
  refine A.entsEq (Λ':=[.row 1 z ((List.replicate (longI v).toNat (0:Int)).map AI32), .rows 1 (rowsH hs), .row 1 zo (msL 1 (rowsH hs)++List.replicate (l.length-hs.length) nilV)]) (by rw [List.map_replicate]) ?_
  refine A.storeRow rfl rfl rfl rfl rfl rfl rfl rfl rfl ?_ (xs':=msL 1 (rowsH (hs++[(z,List.replicate (longI v).toNat 0)]))++List.replicate (l.length-(hs++[(z,List.replicate (longI v).toNat (0:Int))]).length) nilV) ?_ ?_
  ·rw [List.length_append,rowsH_len,List.length_replicate];omega
  ·have:=out_set hs z (List.replicate (longI v).toNat 0) (l.length-(hs++[(z,List.replicate (longI v).toNat (0:Int))]).length)
   rw [show l.length-hs.length=l.length-(hs++[(z,List.replicate (longI v).toNat (0:Int))]).length+1 by simp;omega]
   exact this
  refine A.rowsIn (.refl _) ?_
  refine y_ ?_
  refine A.valE 17 rfl (x':=AI (((hs++[(z,List.replicate (longI v).toNat (0:Int))]).length:Nat):Int)) ?_ ?_
  ·rw [inc_eq hs.length (by omega)];simp
  refine A.entsEq (Λ':=[.rows 1 (rowsH (hs++[(z,List.replicate (longI v).toNat (0:Int))])), .row 1 zo (msL 1 (rowsH (hs++[(z,List.replicate (longI v).toNat (0:Int))]))++List.replicate (l.length-(hs++[(z,List.replicate (longI v).toNat (0:Int))]).length) nilV)]) (by simp [rowsH]) ?_
  refine u_ (ih (hs++[(z,List.replicate (longI v).toNat 0)]) ⟨?_,by simp;omega⟩ (by simp;omega))
  simp [hi.1,storeM,List.take_add_one,hv]
 ·simp at hc
  have hlen:hs.length=l.length:=by omega
  have hsnd:hs.map Prod.snd=storeM l:=by rw [hi.1,hlen];exact List.take_of_length_le (by rw [storeM,List.length_map];exact Nat.le_refl _)
  refine A.entsEq (Λ':=[.rows 1 (rowsH hs), .row 1 zo (msL 1 (rowsH hs))]) (by rw [hlen,Nat.sub_self];simp) ?_
  refine y_ ?_
  refine A.ret1 (Λ':=[.rows 1 (rowsH hs), .row 1 zo (msL 1 (rowsH hs))]) rfl rfl rfl sl_ ⟨(zo,hs), .refl,rfl,hsnd⟩
theorem storeS_pN(l:List KV)(ch:List Int)(q:PR)(pr:List Int)(hb:l.length≤281474976710656):Pure Tryz.prog gs0 43 [encN ⟨l,ch,q,pr⟩] (rowsA (storeS l)):=by
 cases h:soundsB l with
 |true=>rw [storeS,h,if_pos rfl];exact rows_pure (store_pN l ch q pr h)
 |false=>
  have:=store_noN l ch q pr hb h
  rw [storeS,h]
  exact fun w0 h vs L F g r q=>(this w0 h vs L F g r q).mono fun _ _ _ ⟨x,Λ',L1,⟨e1,e1'⟩,e2,e3⟩=>⟨rowsA [],Λ',L1,⟨rfl,e1'⟩,by subst e1;exact Sb.nil.rp e2,e3⟩
section
variable{V:List KV}{C:List Int}
theorem smGl_of: ∀{l:List GD},(∀g,g∈l→smG g)→smGl l
 | [],_=>by rw [smGl];trivial
 |y::r,h=>by rw [smGl];exact ⟨h y (.head _),smGl_of fun x hx=>h x (.tail _ hx)⟩
theorem wfGl_of: ∀{l:List GD},(∀g,g∈l→wfG g)→wfGl l
 | [],_=>by rw [wfGl];trivial
 |y::r,h=>by rw [wfGl];exact ⟨h y (.head _),wfGl_of fun x hx=>h x (.tail _ hx)⟩
theorem wfRl_of: ∀{l:List PR},(∀x,x∈l→wfR x)→wfRl l
 | [],_=>by rw [wfRl];trivial
 |y::r,h=>by rw [wfRl];exact ⟨h y (.head _),wfRl_of fun x hx=>h x (.tail _ hx)⟩
theorem tgRl_of: ∀{l:List PR},(∀x,x∈l→tgR x)→tgRl l
 | [],_=>by rw [tgRl];trivial
 |y::r,h=>by rw [tgRl];exact ⟨h y (.head _),tgRl_of fun x hx=>h x (.tail _ hx)⟩
theorem okF_sm_n: ∀(m:Nat) (p:PR) (n hi:Bool),SizeOf.sizeOf p≤m→okF (Loc V C) n hi p→wfR p∧smR p∧tgR p
 |0,p,_,_,h,_=>by
  obtain ⟨k,c,v,i,to,e,gs,l⟩:=p
  simp only [PR.mk.sizeOf_spec] at h;omega
 |m+1,p,n,hi,hm,w=>by
  rw [okF_eq] at w
  obtain ⟨⟨w1,w2,w3⟩,w4,w5⟩:=w
  obtain ⟨l1,l2,l3,l4⟩:=w1.lens
  have hb:=w1.body
  have hL: ∀x,x∈p.l→wfR x∧smR x∧tgR x:=fun x hx=>by
   obtain ⟨a,b,hw⟩:=okFl_some w4 hx
   exact okF_sm_n m x a b (by have:=pr_lt hx;omega) hw
  have hG: ∀g,g∈p.gs→ ∀x,x∈g.body→wfR x∧smR x∧tgR x:=fun g hg x hx=>by
   have h1:=okFs_mem w5 g hg
   rw [okFg_eq] at h1
   obtain ⟨a,b,hw⟩:=okFl_some h1 hx
   exact okF_sm_n m x a b (by have:=gg_lt hg;have:=bd_lt hx;omega) hw
  have hgl: ∀g,g∈p.gs→g.body.length=1:=fun g hg=>by obtain ⟨y,hy⟩:=hb g hg;rw [hy];rfl
  have hto:=w1.to
  have he:=w1.e
  have hgs:=w1.gs
  obtain ⟨k,c,v,i,to,e,gs,l⟩:=p
  have l1:to.length≤8:=l1
  have l2:e.length≤8:=l2
  have l3:gs.length≤16:=l3
  have l4:l.length≤2048:=l4
  rw [wfR,smR,tgR]
  refine ⟨⟨⟨fun t ht=>(hto t ht).1,wfKl_of fun x hx=>(he x hx).1,by omega,by omega,by omega⟩,wfGl_of fun g hg=>?_,wfRl_of fun x hx=>(hL x hx).1⟩,
   ⟨⟨fun t ht=>(hto t ht).2,fun x hx=>(he x hx).2,by omega,by omega,by omega,by omega⟩,smGl_of fun g hg=>?_,smRl_of fun x hx=>(hL x hx).2.1⟩,by omega,tgRl_of fun x hx=>(hL x hx).2.2⟩
  ·have h1:=hgs g hg
   have h2:=hG g hg
   obtain ⟨k',e',c',i',to',t',b'⟩:=g
   rw [wfG]
   exact ⟨⟨h1.1.1,h1.2.1.1,h1.2.2.1⟩,wfRl_of fun x hx=>(h2 x hx).1⟩
  ·have h1:=hgs g hg
   have h2:=hG g hg
   have h3:=hgl g hg
   obtain ⟨k',e',c',i',to',t',b'⟩:=g
   have h3:b'.length=1:=h3
   rw [smG]
   exact ⟨⟨h1.1.2,h1.2.1.2,h1.2.2.2,by omega⟩,smRl_of fun x hx=>(h2 x hx).2.1⟩
theorem okF_sm{p:PR}{n hi:Bool}(w:okF (Loc V C) n hi p):wfR p∧smR p∧tgR p:=okF_sm_n _ p n hi (Nat.le_refl _) w
end
structure ST where
 store:List (List Int)
 root:PR
 inn:List Int
 time:Int
abbrev encST(s:ST):AV:= .ag [rowsA s.store,AU8 s.root.kind,AI s.root.c,AI s.root.v,AU8 s.root.item,plsA s.root.to,kesA s.root.e,gsA s.root.gs,rsA s.root.l,rowA s.inn,AI32 s.time]
structure MV where
 kind:Int
 ec:Int
 ev:Int
 next:ST
abbrev encMV(m:MV):AV:= .ag [AU8 m.kind,AI m.ec,AI32 m.ev,rowsA m.next.store,AU8 m.next.root.kind,AI m.next.root.c,AI m.next.root.v,AU8 m.next.root.item,plsA m.next.root.to,kesA m.next.root.e,gsA m.next.root.gs,rsA m.next.root.l,rowA m.next.inn,AI32 m.next.time]
structure GoodK(k:KN)(s:ST):Prop where
 may:mayK k=true
 wf:WfN k
 store:mayB k.vars s.store=true
 ws:wfS s.store
 root:okF (Loc k.vars k.chans) true false s.root
 wt:wtR s.root≤81920
 dw:dwR s.root≤96
 nf:normR s.root=s.root
 inn: ∀x,x∈s.inn→i32 x
 innl:s.inn.length≤35184372088832
 time:i32 s.time
theorem may_kok{k:KN}(h:mayK k=true):KOk k.vars k.chans:=by
 unfold mayK lensK at h
 simp only [Bool.and_eq_true,decide_eq_true_eq] at h
 obtain ⟨⟨⟨⟨⟨⟨⟨a,b⟩,c⟩,_⟩,_⟩,d⟩,e⟩,_⟩:=h
 exact ⟨a,b,c,d,e⟩
theorem may_fits{k:KN}(h:mayK k=true):fitsR k.vars k.chans.length false k.root 2048 32:=by
 unfold mayK at h
 simp only [Bool.and_eq_true,decide_eq_true_eq] at h
 exact h.2
theorem KOk.sounds{V:List KV}{C:List Int}(h:KOk V C):soundsB V=true:=by
 unfold soundsB
 have h1:=h.var
 have h2:=h.vl
 rw [List.all_eq_true] at h1
 simp only [Bool.and_eq_true,decide_eq_true_eq,Bool.not_eq_true',List.any_eq_false]
 refine ⟨h2,fun v hv=>?_⟩
 have:=h1 v hv
 simp only [varOk,primB,Bool.and_eq_true,decide_eq_true_eq] at this
 have h3:soundB v=true:=by
  simp only [soundB,Bool.and_eq_true,Bool.or_eq_true,beq_iff_eq,decide_eq_true_eq]
  omega
 rw [h3];decide
theorem mayB_short{l:List KV}{s:List (List Int)}(h:mayB l s=true):s.length≤256∧ ∀r,r∈s→r.length≤64:=by
 unfold mayB soundsB at h
 simp only [Bool.and_eq_true,decide_eq_true_eq,Bool.not_eq_true',List.any_eq_false] at h
 obtain ⟨⟨h1,h2,h3⟩,h4⟩:=h
 refine ⟨by omega,fun r hr=>?_⟩
 obtain ⟨i,hi,rfl⟩:=List.getElem_of_mem hr
 have hi':i<l.length:=by omega
 have h5:=(List.all_eq_true.1 h4) i (List.mem_range.2 hi')
 rw [List.getElem?_eq_getElem hi',List.getElem?_eq_getElem hi] at h5
 have h6:soundB l[i]=true:=by have:=h3 l[i] (List.getElem_mem hi');simpa using this
 simp only [soundB,mayRow,longI,Bool.and_eq_true,decide_eq_true_eq,beq_iff_eq] at h5 h6
 have h7:=h5.1
 split at h7<;>omega
theorem GoodK.short{k:KN}{s:ST}(h:GoodK k s):short s.store:=by
 obtain ⟨a,b⟩:=mayB_short h.store
 exact ⟨by omega,fun r hr=>by have:=b r hr;omega⟩
theorem nf_of{p:PR}(h:normR p=p):nfR p:=by rw [←h];exact norm_is p
structure ACT where
 kind:Int
 store:List (List Int)
 c:Int
 v:Int
 i:Int
 item:Int
 value:Int
 next:PR
def tauM(st:List (List Int))(next:PR):List ACT:=[⟨116,st,0,0,0,0,0,next⟩]
def inputM(s:ST)(c item:Int)(to:PL)(next:PR):List ACT:=match placeM s.store to.v to.ix with
 |none=>tauM s.store stopR
 |some (v,i)=>[⟨105,[],c,v,i,item,0,next⟩]
def afterM(s:ST)(t:Int):Bool:=decide (0<IntKind.i32.wrap (s.time-t))
def valsM(st:List (List Int)):List KE→Option (List Int)
 | []=>some []
 |e::r=>match valueM st e with
  |none=>none
  |some x=>(valsM st r).map (x:: ·)
def putsM(st0:List (List Int)):List PL→List Int→List (List Int)→Option (List (List Int))
 | [],_,st=>some st
 |to::r,xs,st=>match placeM st0 to.v to.ix with
  |none=>none
  |some (v,j)=>match xs with
   | []=>none
   |x::xr=>putsM st0 r xr (putM st v j x)
def assignM(s:ST)(p:PR):List ACT:=match valsM s.store p.e with
 |none=>tauM s.store stopR
 |some xs=>match putsM s.store p.to xs s.store with
  |none=>tauM s.store stopR
  |some st=>tauM st skipR
def headR(l:List PR):PR:=match l with
 | []=>skipR
 |x::_=>x
def chooseM(s:ST):List GD→List ACT
 | []=>tauM s.store stopR
 |g::r=>match valueM s.store g.cond with
  |none=>tauM s.store stopR
  |some x=>if x=1 then tauM s.store (headR g.body) else chooseM s r
def enterG(st:List (List Int))(g:GD):Option GD:=match valueM st g.cond with
 |none=>none
 |some x=>if g.kind=4 then (match valueM st g.time with
  |none=>none
  |some t=>some ⟨g.kind,numE x,g.c,g.item,g.to,numE t,g.body⟩) else some ⟨g.kind,numE x,g.c,g.item,g.to,g.time,g.body⟩
def enterM(st:List (List Int)):List GD→Option (List GD)
 | []=>some []
 |g::r=>match enterG st g with
  |none=>none
  |some y=>(enterM st r).map (y:: ·)
def enteredM(s:ST)(p:PR):List ACT:=match enterM s.store p.gs with
 |none=>tauM s.store stopR
 |some gs=>tauM s.store ⟨16,0,0,0,[],[],gs,[]⟩
def waitG(s:ST)(g:GD):List ACT:=if g.cond.n≠1 then [] else if g.kind=3 then inputM s g.c g.item g.to (headR g.body) else if g.kind=2∨afterM s g.time.n=true then tauM s.store (headR g.body) else []
def clearM(st:List (List Int))(v:Int)(n:Nat):List (List Int):=(List.range n).foldl (fun st i=>putM st v (i:Nat) 0) st
def rowOf(st:List (List Int))(v:Int):List Int:=match st[v.toNat]? with
 |some r=>r
 |none=>[]
def valuedM(s:ST)(p:PR):List ACT:=match p.e with
 | []=>[]
 |e::_=>match valueM s.store e with
  |none=>tauM s.store stopR
  |some x=>if p.kind=6 then [⟨111,[],p.c,0,0,0,x,skipR⟩] else if p.kind=13∧x=1 then tauM s.store ⟨9,0,0,0,[],[],[],[headR p.l,p]⟩ else if p.kind=13∨afterM s x=true then tauM s.store skipR else []
def timeM(s:ST)(p:PR):List ACT:=match p.to with
 | []=>[]
 |to::_=>match placeM s.store to.v to.ix with
  |none=>tauM s.store stopR
  |some (v,i)=>tauM (putM s.store v i s.time) skipR
def inM(s:ST)(p:PR):List ACT:=match p.to with
 | []=>[]
 |to::_=>inputM s p.c p.item to skipR
def doesM(s:ST)(p:PR):List ACT:=
 if p.kind=3 then tauM (clearM s.store p.v (rowOf s.store p.v).length) skipR
 else if p.kind=4 then assignM s p
 else if p.kind=7 then timeM s p
 else if p.kind=12 then chooseM s p.gs
 else if p.kind=14∨p.kind=15 then enteredM s p
 else if p.kind=16 then p.gs.flatMap (waitG s)
 else if p.kind=5 then inM s p
 else if p.kind=8∨p.kind=13∨p.kind=6 then valuedM s p
 else []
def actsM(s:ST):List (ACT×List Nat):=(compR [] s.root).flatMap fun cp=>(doesM s cp.1).map fun a=>(a,cp.2)
def moveM(s:ST)(kind ec ev:Int)(st:List (List Int))(root:PR)(inn:List Int):MV:=⟨kind,ec,ev,⟨st,normR root,inn,s.time⟩⟩
def commM(s:ST)(a:ACT×List Nat)(b:ACT×List Nat):List MV:=
 if b.1.kind=105∧b.1.c=a.1.c∧fitsB b.1.item a.1.value=true then [moveM s 2 a.1.c a.1.value (putM s.store b.1.v b.1.i a.1.value) (repR b.1.next (repR a.1.next s.root a.2) b.2) s.inn] else []
def stepA(s:ST)(acts:List (ACT×List Nat))(a:ACT×List Nat):List MV:=
 if a.1.kind=116 then [moveM s 1 0 0 a.1.store (repR a.1.next s.root a.2) s.inn]
 else if a.1.kind=105∧a.1.c=0∧0<s.inn.length then [moveM s 2 0 (s.inn.headD 0) (putM s.store a.1.v a.1.i (s.inn.headD 0)) (repR a.1.next s.root a.2) s.inn.tail]
 else if a.1.kind=111∧a.1.c=1 then [moveM s 2 1 a.1.value s.store (repR a.1.next s.root a.2) s.inn]
 else if a.1.kind=111 then acts.flatMap (commM s a)
 else []
def tickM(s:ST):MV:=⟨3,0,0,⟨s.store,s.root,s.inn,IntKind.i32.wrap (s.time+1)⟩⟩
def movesM(s:ST):List MV:=(actsM s).flatMap (stepA s (actsM s))++[tickM s]
theorem eqLB_refl{α:Type}{p:α→α→Bool}: ∀{l:List α},(∀x,x∈l→p x x=true)→eqLB p l l=true
 | [],_=>by rw [eqLB]
 |x::r,h=>by rw [eqLB,h x (.head _),eqLB_refl fun y hy=>h y (.tail _ hy)];rfl
theorem eqK_refl_n: ∀(m:Nat) (e:KE),SizeOf.sizeOf e≤m→eqK e e=true
 |0,e,h=>by
  obtain ⟨k,o,t,n,v,l⟩:=e
  simp only [KE.mk.sizeOf_spec] at h;omega
 |m+1,e,h=>by
  rw [eqK_eq,eqKl_eq,eqLB_refl fun x hx=>eqK_refl_n m x ?_]
  ·simp
  ·obtain ⟨k,o,t,n,v,l⟩:=e
   have:=List.sizeOf_lt_of_mem hx
   simp only [KE.mk.sizeOf_spec,KE.l] at this h
   omega
theorem eqK_refl(e:KE):eqK e e=true:=eqK_refl_n _ e (Nat.le_refl _)
theorem eqP_refl(p:PL):eqP p p=true:=by unfold eqP;rw [eqKl_eq,eqLB_refl fun x _=>eqK_refl x];simp
theorem eqR_refl_n: ∀(m:Nat) (p:PR),SizeOf.sizeOf p≤m→eqR p p=true
 |0,p,h=>by
  obtain ⟨k,c,v,i,to,e,gs,l⟩:=p
  simp only [PR.mk.sizeOf_spec] at h;omega
 |m+1,p,h=>by
  rw [eqR_eq,eqLB_refl fun x _=>eqP_refl x,eqKl_eq,eqLB_refl fun x _=>eqK_refl x,eqGl_eq,eqRl_eq,eqLB_refl fun x hx=>eqR_refl_n m x (by have:=pr_lt hx;omega),eqLB_refl fun g hg=>?_]
  ·simp
  ·rw [eqG_eq,eqK_refl,eqK_refl,eqP_refl,eqRl_eq,eqLB_refl fun x hx=>eqR_refl_n m x (by have:=gg_lt hg;have:=bd_lt hx;omega)]
   simp
theorem eqR_refl(p:PR):eqR p p=true:=eqR_refl_n _ p (Nat.le_refl _)
theorem smay_p(k:KN)(s:ST)(h:GoodK k s):Pure Tryz.prog gs0 37 [encN k,encST s] (AB true):=by
 have K:=may_kok h.may
 have hk:=kmay_p k h.wf
 rw [h.may] at hk
 have he:=may_pN k.vars k.chans k.root k.procs s.store (by have:=K.vl;omega) h.short
 rw [h.store] at he
 obtain ⟨w1,w2,w3⟩:=okF_sm h.root
 have hn:=norm_p s.root w2 w3
 rw [h.nf] at hn
 have hsm:=psame_p s.root s.root w2
 rw [eqR_refl] at hsm
 have hnf:=nf_of h.nf
 have hsz:=nf_sz hnf
 have hht:=nf_ht hnf
 have hwt:=h.wt
 have hdw:=h.dw
 refine p_ tt_ok Tryz.func37 31 fun w0 h0 F hgs=>?_
 (repeat refine A.s rfl ?_)
 refine A.b rfl fun b1=>?_
 refine A.b rfl fun b2=>?_
 refine y_ ?_
 refine c_ hk ?_
 refine n_ he ?_
 (refine b_ fun bx=>?_;refine y_ ?_)
 have hfi:=fun b=>fine_p k.vars k.chans b k.root s.root 81920 0 true false (okF_its K h.root) (by omega) (by decide) (by omega) (by decide)
 refine A.entsEq (Λ':=[.box bx (ckS k.vars k.chans k.root 81920), .box b2 (encST s), .box b1 (encN k)]) rfl ?_
 refine A.drawB 2 bx (x:=ckS k.vars k.chans k.root 81920) 9 [0,1,2,3,4,5,6,7,8] (fun i=>if i=2 then [2] else []) [(2,AB true),(8,cellsR s.root)] (by decide) (by kernel_rfl) (by kernel_rfl) ?_
 refine w_ ?_
 refine WA.callT rfl rfl rfl rfl rfl rfl rfl rfl rfl rfl rfl (hfi _) (fun y' Λ' h=>h.choose_spec.1) .refl ?_
 refine w_ ?_
 refine WA.c rfl rfl hn (.sub .refl) ?_
 refine WA.nil (l:=[]) rfl ?_
 exact cr_ hsm
abbrev pathA(path:List Nat):AV:=match path with
 | []=> .v (.slice none 0 0)
 |i::r=> .sl 1 ((i::r).map fun i=>AI (i:Nat)) none
theorem pathA_snoc(path:List Nat)(i:Nat):pathA (path++[i])= .sl 1 ((path.map fun i=>AI (i:Nat))++[AI (i:Nat)]) none:=by
 cases path with
 |nil=>rfl
 |cons j r=>show AV.sl 1 (((j::r)++[i]).map fun i=>AI (i:Nat)) none=_;rw [List.map_append];rfl
theorem comps_p(p:PR)(path:List Nat):Pure Tryz.prog gs0 65 [cellsR p,pathA path] (.fn 113 [] [.pe 8 (cellsR p), .pe 1 (pathA path)]):=by
 cases path with
 |nil=>
  refine p_ tt_ok Tryz.func65 6 fun w0 h0 F hgs=>?_
  (repeat refine A.s rfl ?_)
  refine A.b rfl fun b1=>?_
  refine A.b rfl fun b2=>?_
  refine y_ ?_
  refine A.freezeS 4 b1 (y':= .fn 113 [] [.pe 8 (cellsR p),ptrA b2]) rfl rfl rfl (.fn (.cons .ptr (.sub .refl))) ?_
  refine A.freezeS 4 b2 (y':= .fn 113 [] [.pe 8 (cellsR p), .pe 1 _]) rfl rfl rfl (.fn (.cons (.sub .refl) (.cons .ptr (.sub .refl)))) ?_
  exact r_
 |cons i r=>
  refine p_ tt_ok Tryz.func65 6 fun w0 h0 F hgs=>?_
  (repeat refine A.s rfl ?_)
  refine A.b rfl fun b1=>?_
  refine A.b rfl fun b2=>?_
  refine y_ ?_
  refine A.freezeS 4 b1 (y':= .fn 113 [] [.pe 8 (cellsR p),ptrA b2]) rfl rfl rfl (.fn (.cons .ptr (.sub .refl))) ?_
  refine A.freezeS 4 b2 (y':= .fn 113 [] [.pe 8 (cellsR p), .pe 1 _]) rfl rfl rfl (.fn (.cons (.sub .refl) (.cons .ptr (.sub .refl)))) ?_
  exact r_
theorem compL_append(path:List Nat): ∀(a b:List PR) (j:Nat),compL path j (a++b)=compL path j a++compL path (j+a.length) b
 | [],b,j=>by rw [List.nil_append,compL,List.nil_append];rfl
 |x::r,b,j=>by
  rw [List.cons_append,compL,compL,compL_append path r b (j+1),List.append_assoc,List.length_cons,show j+1+r.length=j+(r.length+1) by omega]
theorem compL_get(path:List Nat){l:List PR}{i:Nat}{x:PR}(hx:l[i]? =some x):compL path 0 l=compL path 0 (l.take i)++(compR (path++[i]) x++compL path (i+1) (l.drop (i+1))):=by
 have hi:=at_lt hx
 have h:=compL_append path (l.take i) (l.drop i) 0
 rw [List.take_append_drop,drop_at hx,compL,List.length_take,Nat.zero_add,Nat.min_eq_left (by omega)] at h
 exact h
theorem compL_take(path:List Nat){l:List PR}{i:Nat}{x:PR}(hx:l[i]? =some x):compL path 0 (l.take (i+1))=compL path 0 (l.take i)++compR (path++[i]) x:=by
 have hi:=at_lt hx
 rw [List.take_add_one,hx]
 show compL path 0 (l.take i++[x])=_
 rw [compL_append,List.length_take,Nat.min_eq_left (by omega),compL,compL,List.append_nil,Nat.zero_add]
theorem A.peDis{K:AC}{k:List It}{E:AEnv}{Λ:List AEnt}(t:Nat){sz n:Nat}{l:List AV}{o:Option Value}(hx:lookA E.us t=some (.pe n (.sl sz l o)))(next:A K k ⟨(t, .pe n (.sl sz l none))::E.us,E.cs⟩ Λ):A K k E Λ:=by
 refine ⟨fun h e L hl r q=>?_⟩
 rcases r.1.look t with ⟨y,v,e1,e2,e3⟩|⟨e1,e2⟩
 ·rw [hx] at e1;injection e1 with e1;subst e1
  rw [Rp_pe] at e3
  obtain ⟨b,o',z,rfl,f1,f2,f3⟩:=e3
  exact V.val t e2 rfl (next.run _ ⟨(t,_)::e.us,e.cs⟩ L hl ⟨r.1.put (Rp_pe.2 ⟨b,o',z,rfl,Sb.rp .own1 f1,f2,f3⟩),r.2⟩ q)
 ·rw [hx] at e1;cases e1
abbrev cpA(cp:PR×List Nat):List AV:=[cellsR cp.1,pathA cp.2]
abbrev IterC(p:PR)(path:List Nat):Prop:=Iter Tryz.prog tt tt_ok gs0 113 [.pe 8 (cellsR p), .pe 1 (pathA path)] ((compR path p).map cpA)
theorem iter_leaf(p:PR)(path:List Nat)(h9:p.kind≠9)(hb:bothB p=false):IterC p path:=by
 have hbr:=branches_p p
 rw [hb] at hbr
 have hb': ¬(p.kind=10∨p.kind=11):=by simpa [bothB] using hb
 unfold IterC
 rw [compR_eq,if_neg h9,if_neg hb']
 cases path with
 |nil=>
  refine ⟨Tryz.f113,_,Tryz.func113,rfl,rfl,rfl,rfl,fun w0 h0 c hfn h1 hg1 F Q Λ0 hl hi hlen hround hfin hstop=>?_⟩
  (repeat refine A.s rfl ?_)
  refine A.b rfl fun b3=>?_
  refine y_ ?_
  refine e_ 12 rfl (x':=AB false) (ab_eq (beq_eq_false_iff_ne.2 h9)) ?_
  refine c_ hbr ?_
  refine A.yieldC c rfl rfl rfl rfl rfl rfl (hlen _ (.head _)) .refl hl (List.perm_append_singleton _ _).symm hi (hround 0 _ rfl) (fun Λ'' hi'=>?_) (fun st pd Λ'' hst hs=>?_)
  ·refine y_ ?_
   exact A.ret0 rfl rfl (List.sublist_append_left _ _) (hfin _ hi') rfl
  ·refine y_ ?_
   exact A.ret0 rfl rfl (List.sublist_append_left _ _) (hstop _ _ _ hst hs) rfl
 |cons i r=>
  refine ⟨Tryz.f113,_,Tryz.func113,rfl,rfl,rfl,rfl,fun w0 h0 c hfn h1 hg1 F Q Λ0 hl hi hlen hround hfin hstop=>?_⟩
  (repeat refine A.s rfl ?_)
  refine A.b rfl fun b3=>?_
  refine y_ ?_
  refine e_ 12 rfl (x':=AB false) (ab_eq (beq_eq_false_iff_ne.2 h9)) ?_
  refine c_ hbr ?_
  refine A.yieldC c rfl rfl rfl rfl rfl rfl (hlen _ (.head _)) .refl hl (List.perm_append_singleton _ _).symm hi (hround 0 _ rfl) (fun Λ'' hi'=>?_) (fun st pd Λ'' hst hs=>?_)
  ·refine y_ ?_
   exact A.ret0 rfl rfl (List.sublist_append_left _ _) (hfin _ hi') rfl
  ·refine y_ ?_
   exact A.ret0 rfl rfl (List.sublist_append_left _ _) (hstop _ _ _ hst hs) rfl
theorem iter_seq(p x:PR)(r:List PR)(path:List Nat)(h9:p.kind=9)(hl':p.l=x::r)(ih:IterC x path):IterC p path:=by
 have hcp:=comps_p x path
 have hat:(encRl p.l)[(0:Int).toNat]? =some (encR x):=by rw [hl',encRl];rfl
 unfold IterC at ih⊢
 rw [compR_eq path p,if_pos h9,hl',compS]
 cases path with
 |nil=>
  refine ⟨Tryz.f113,_,Tryz.func113,rfl,rfl,rfl,rfl,fun w0 h0 c hfn h1 hg1 F Q Λ0 hl hi hlen hround hfin hstop=>?_⟩
  (repeat refine A.s rfl ?_)
  refine A.b rfl fun b3=>?_
  refine y_ ?_
  refine e_ 12 rfl (x':=AB true) (ab_eq (by rw [h9];rfl)) ?_
  refine d_ 7 [0,1,2,3,4,6,5] [(5, .fn 113 [] [.pe 8 (cellsR x), .pe 1 (pathA [])])] ?_
  refine iw_ rfl hat (encR_eq x) ?_
  refine WA.c rfl rfl hcp (.sub .refl) ?_
  refine WA.nil (l:=[]) rfl ?_
  refine A.callIter c 0 rfl rfl rfl rfl rfl rfl ih .refl hl (List.perm_append_singleton _ _).symm hi hlen (fun i xs h=>by rw [Nat.zero_add];exact hround i xs h) (fun Λ'' hi'=>?_) (fun st pd Λ'' hst hs=>?_)
  ·refine y_ ?_
   exact A.ret0 rfl rfl (List.sublist_append_left _ _) (hfin _ (by rw [Nat.zero_add] at hi';exact hi')) rfl
  ·refine y_ ?_
   exact A.ret0 rfl rfl (List.sublist_append_left _ _) (hstop _ _ _ hst hs) rfl
 |cons i r=>
  refine ⟨Tryz.f113,_,Tryz.func113,rfl,rfl,rfl,rfl,fun w0 h0 c hfn h1 hg1 F Q Λ0 hl hi hlen hround hfin hstop=>?_⟩
  (repeat refine A.s rfl ?_)
  refine A.b rfl fun b3=>?_
  refine y_ ?_
  refine e_ 12 rfl (x':=AB true) (ab_eq (by rw [h9];rfl)) ?_
  refine d_ 7 [0,1,2,3,4,6,5] [(5, .fn 113 [] [.pe 8 (cellsR x), .pe 1 (pathA (i::r))])] ?_
  refine iw_ rfl hat (encR_eq x) ?_
  refine WA.c rfl rfl hcp (.sub .refl) ?_
  refine WA.nil (l:=[]) rfl ?_
  refine A.callIter c 0 rfl rfl rfl rfl rfl rfl ih .refl hl (List.perm_append_singleton _ _).symm hi hlen (fun i xs h=>by rw [Nat.zero_add];exact hround i xs h) (fun Λ'' hi'=>?_) (fun st pd Λ'' hst hs=>?_)
  ·refine y_ ?_
   exact A.ret0 rfl rfl (List.sublist_append_left _ _) (hfin _ (by rw [Nat.zero_add] at hi';exact hi')) rfl
  ·refine y_ ?_
   exact A.ret0 rfl rfl (List.sublist_append_left _ _) (hstop _ _ _ hst hs) rfl
abbrev yvA(lp:Nat):AV:= .v (.func (.yield lp) #[] #[])
theorem iter_par(p:PR)(path:List Nat)(hb:bothB p=true)(hll:p.l.length≤16777216)(hpl:path.length≤1000)(hrec: ∀x,x∈p.l→ ∀i:Nat,IterC x (path++[i])):IterC p path:=by
 have hbr:=branches_p p
 rw [hb] at hbr
 have hb':p.kind=10∨p.kind=11:=by simpa [bothB] using hb
 have h9:p.kind≠9:=by omega
 have n1:((encRl p.l).length:Int)=p.l.length:=by rw [encRl_len]
 unfold IterC
 rw [compR_eq path p,if_neg h9,if_pos hb']
 cases path with
 |nil=>
  refine ⟨Tryz.f113,_,Tryz.func113,rfl,rfl,rfl,rfl,fun w0 h0 c hfn h1 hg1 F Q Λ0 hl hi hlen hround hfin hstop=>?_⟩
  (repeat refine A.s rfl ?_)
  refine A.b rfl fun b3=>?_
  refine y_ ?_
  refine e_ 12 rfl (x':=AB false) (ab_eq (beq_eq_false_iff_ne.2 h9)) ?_
  refine c_ hbr ?_
  refine A.valE 29 rfl (x':=AI (p.l.length:Nat)) (ai_eq n1) ?_
  refine A.keep [1,2,3,28,29,30] rfl ?_
  refine A.loopK (ι:=Nat×List AEnt) (fun s=>(⟨[(1, .pe 8 (cellsR p)),(2, .pe 1 (pathA [])),(3,ptrA b3),(28,rsA p.l),(29,AI (p.l.length:Nat)),(30,AI (s.1:Nat))],[]⟩, .box b3 (yvA c.lp):: .loop c.lp c.r0 .ready none::s.2))
   (fun s=>s.1≤p.l.length∧c.Inv (compL [] 0 (p.l.take s.1)).length s.2) (fun s=>p.l.length-s.1) (0,Λ0) ⟨Nat.zero_le _,by rw [List.take_zero,compL];exact hi⟩ rfl fun h2 hg2 D1 s hl2 hs ih=>?_
  obtain ⟨i,Λ1⟩:=s
  obtain ⟨hs1,hs2⟩:=hs
  simp only at hs1 hs2
  refine y_ ?_
  refine k_ (fun hc=>?_) fun hc=>?_
  ·have hci:i<p.l.length:=by simpa using hc
   clear hc
   refine Exists.elim (at_exN (l:=p.l) (i:=i) hci) fun x hx=>?_
   have hcp:=comps_p x ([]++[i])
   have hit:=hrec x (List.mem_of_getElem? hx) i
   rw [pathA_snoc] at hcp
   unfold IterC at hit
   rw [pathA_snoc] at hit
   have hget:=compL_get [] hx
   have htake:=compL_take [] hx
   refine y_ ?_
   refine j_ rfl (encRl_at hx) (encR_eq x) ?_
   (refine b_ fun bx=>?_;refine y_ ?_)
   refine A.fullTail ty3.size 0 none (fun _=>rfl) (fun x h=>by cases h) ?_
   refine A.drawT 9 ty3.size (.slice none 0 0) 10 [0,1,2,3,4,5,6,7,8,9] (fun i=>if i=9 then [8] else []) [] (by decide) rfl (by kernel_rfl) ?_
   refine w_ ?_
   refine WA.slice3V rfl rfl rfl rfl rfl rfl rfl rfl rfl (Nat.le_refl 0) (Nat.le_refl 0) rfl ?_
   refine w_ ?_
   refine WA.lit rfl rfl rfl rfl rfl rfl rfl fun bw=>?_
   refine WA.append rfl rfl rfl rfl rfl rfl rfl rfl rfl rfl rfl rfl rfl rfl rfl rfl rfl rfl (.pub (j:=8) rfl rfl (.sub .refl)) (by show (0+1)*1≤1073741824;omega) fun z'=>?_
   refine WA.nil (l:=[_]) rfl ?_
   refine n_ hcp ?_
   refine A.keep [1,2,3,28,29,30,45] rfl ?_
   refine l_ (Λ':= .box b3 (yvA c.lp):: .loop c.lp c.r0 .ready none::Λ1) ?_
   refine y_ ?_
   refine A.rangeIter (xss:=(compR ([]++[i]) x).map cpA) rfl .refl hit rfl rfl (fun xs hxs=>?_) (fun j Λ=> ∃Λ'',Λ= .box b3 (yvA c.lp):: .loop c.lp c.r0 .ready none::Λ''∧c.Inv ((compL [] 0 (p.l.take i)).length+j) Λ'')
    (fun st pd Λ=>st= .done∧pd=some .ret∧ ∃st' pd' Λ'',st'≠ .busy∧Λ= .box b3 (yvA c.lp):: .loop c.lp c.r0 st' pd'::Λ''∧c.Stop st' pd' Λ'') ⟨Λ1,rfl,hs2⟩ (fun h3 lp tm hl3 j xs Λi h4 hg4 F4 hxs hinv hl4=>?_) (fun h3 hg3 r Λ' hl3 hinv=>?_) (fun h3 hg3 r st pd Λ' hl3 hst hs=>?_)
   ·rw [List.mem_map] at hxs
    obtain ⟨cp,_,rfl⟩:=hxs
    rfl
   ·obtain ⟨Λ3,rfl,hi3⟩:=hinv
    obtain ⟨cp,hcp1,rfl⟩: ∃cp,(compR ([]++[i]) x)[j]? =some cp∧cpA cp=xs:=by
     rw [List.getElem?_map] at hxs
     cases hq:(compR ([]++[i]) x)[j]? with
     |none=>rw [hq] at hxs;cases hxs
     |some cp=>rw [hq] at hxs;injection hxs with hxs;exact ⟨cp,rfl,hxs⟩
    have hg:((compL [] 0 p.l).map cpA)[(compL [] 0 (p.l.take i)).length+j]? =some (cpA cp):=by
     rw [List.getElem?_map,hget,List.getElem?_append_right (by omega),Nat.add_sub_cancel_left,List.getElem?_append_left (at_lt hcp1),hcp1];rfl
    have hr:=hround _ _ hg
    have hln:=hlen _ (List.mem_of_getElem? hg)
    have hle:h0.le h4:=GH.le_trans hl (GH.le_trans hl2 (GH.le_trans hl3 hl4))
    (refine b_ fun bx=>?_;refine y_ ?_)
    refine A.begin rfl rfl rfl ?_
    refine y_ ?_
    refine A.yieldC c (Λi:=Λ3) rfl rfl rfl rfl rfl rfl hln .refl hle (List.perm_append_comm (l₁:=[_,_,_])) hi3 hr (fun Λ4 hi4=>?_) (fun st pd Λ4 hst4 hs4=>?_)
    ·refine A.perm List.perm_append_comm ?_
     refine l_ (Λ':=_:: .box b3 (yvA c.lp):: .loop c.lp c.r0 .ready none::Λ4) ?_
     refine y_ ?_
     exact A.roundEnd rfl rfl (.inl ⟨rfl,_,rfl,Λ4,rfl,by rw [←Nat.add_assoc];exact hi4⟩)
    ·refine A.perm List.perm_append_comm ?_
     refine l_ (Λ':=_:: .box b3 (yvA c.lp):: .loop c.lp c.r0 st pd::Λ4) ?_
     refine y_ ?_
     exact A.roundRet rfl rfl (.inr ⟨rfl, .done,some .ret,_,(by intro h;cases h),rfl,rfl,rfl,st,pd,Λ4,hst4,rfl,hs4⟩)
   ·obtain ⟨Λ3,rfl,hi3⟩:=hinv
    have hi4:c.Inv (compL [] 0 (p.l.take (i+1))).length Λ3:=by rw [htake,List.length_append];rw [List.length_map] at hi3;exact hi3
    refine y_ ?_
    refine A.valE 30 rfl (x':=AI ((i+1:Nat):Int)) (inc_eq i (by omega)) ?_
    refine u_ (ih h3 hg3 _ (i+1,Λ3) hl3 ⟨by show i+1≤_;omega,hi4⟩ (by show _-(i+1)<_-i;omega))
   ·obtain ⟨rfl,rfl,st',pd',Λ3,hst',rfl,hs'⟩:=hs
    exact A.ret0 rfl rfl (List.sublist_cons_self _ _) (hstop _ _ _ hst' hs') rfl
  have hci: ¬i<p.l.length:=by simpa using hc
  clear hc ih
  have hil:i=p.l.length:=by omega
  rw [hil,List.take_length] at hs2
  refine y_ ?_
  exact A.ret0 rfl rfl (List.sublist_cons_self _ _) (hfin _ (by rw [List.length_map];exact hs2)) rfl
 |cons i0 r0=>
  refine ⟨Tryz.f113,_,Tryz.func113,rfl,rfl,rfl,rfl,fun w0 h0 c hfn h1 hg1 F Q Λ0 hl hi hlen hround hfin hstop=>?_⟩
  (repeat refine A.s rfl ?_)
  refine A.b rfl fun b3=>?_
  refine y_ ?_
  refine e_ 12 rfl (x':=AB false) (ab_eq (beq_eq_false_iff_ne.2 h9)) ?_
  refine c_ hbr ?_
  refine A.valE 29 rfl (x':=AI (p.l.length:Nat)) (ai_eq n1) ?_
  refine A.keep [1,2,3,28,29,30] rfl ?_
  refine A.loopK (ι:=Nat×List AEnt) (fun s=>(⟨[(1, .pe 8 (cellsR p)),(2, .pe 1 (pathA (i0::r0))),(3,ptrA b3),(28,rsA p.l),(29,AI (p.l.length:Nat)),(30,AI (s.1:Nat))],[]⟩, .box b3 (yvA c.lp):: .loop c.lp c.r0 .ready none::s.2))
   (fun s=>s.1≤p.l.length∧c.Inv (compL (i0::r0) 0 (p.l.take s.1)).length s.2) (fun s=>p.l.length-s.1) (0,Λ0) ⟨Nat.zero_le _,by rw [List.take_zero,compL];exact hi⟩ rfl fun h2 hg2 D1 s hl2 hs ih=>?_
  obtain ⟨i,Λ1⟩:=s
  obtain ⟨hs1,hs2⟩:=hs
  simp only at hs1 hs2
  refine y_ ?_
  refine k_ (fun hc=>?_) fun hc=>?_
  ·have hci:i<p.l.length:=by simpa using hc
   clear hc
   refine Exists.elim (at_exN (l:=p.l) (i:=i) hci) fun x hx=>?_
   have hcp:=comps_p x ((i0::r0)++[i])
   have hit:=hrec x (List.mem_of_getElem? hx) i
   rw [pathA_snoc] at hcp
   unfold IterC at hit
   rw [pathA_snoc] at hit
   have hget:=compL_get (i0::r0) hx
   have htake:=compL_take (i0::r0) hx
   refine y_ ?_
   refine j_ rfl (encRl_at hx) (encR_eq x) ?_
   (refine b_ fun bx=>?_;refine y_ ?_)
   refine A.peOwn 2 rfl (by intro h;cases h) fun bb oo cc=>?_
   refine A.fullTail ty3.size ((i0::r0).map fun i=>AI (i:Nat)).length (some ⟨bb,oo,none⟩) (fun h=>by cases h) (fun x h=>by injection h with h;rw [←h]) ?_
   refine A.drawT 9 ty3.size (.slice (some ⟨bb,oo,none⟩) ((i0::r0).map fun i=>AI (i:Nat)).length ((i0::r0).map fun i=>AI (i:Nat)).length) 10 [0,1,2,3,4,5,6,7,8,9] (fun i=>if i=9 then [8] else []) [] (by decide) rfl (by kernel_rfl) ?_
   refine w_ ?_
   refine WA.slice3 rfl rfl rfl rfl rfl rfl rfl rfl rfl rfl rfl rfl ?_
   refine w_ ?_
   refine WA.lit rfl rfl rfl rfl rfl rfl rfl fun bw=>?_
   refine WA.append rfl rfl rfl rfl rfl rfl rfl rfl rfl rfl rfl rfl rfl rfl rfl rfl rfl rfl (.pub (j:=8) rfl rfl (.sub .refl)) (by show (((i0::r0).map fun i=>AI (i:Nat)).length+1)*1≤_;rw [List.length_map];omega) fun z'=>?_
   refine WA.nil (l:=[_]) rfl ?_
   refine n_ hcp ?_
   refine A.keep [1,2,3,28,29,30,45] rfl ?_
   refine l_ (Λ':= .box b3 (yvA c.lp):: .loop c.lp c.r0 .ready none::Λ1) ?_
   refine y_ ?_
   refine A.rangeIter (xss:=(compR ((i0::r0)++[i]) x).map cpA) rfl .refl hit rfl rfl (fun xs hxs=>?_) (fun j Λ=> ∃Λ'',Λ= .box b3 (yvA c.lp):: .loop c.lp c.r0 .ready none::Λ''∧c.Inv ((compL (i0::r0) 0 (p.l.take i)).length+j) Λ'')
    (fun st pd Λ=>st= .done∧pd=some .ret∧ ∃st' pd' Λ'',st'≠ .busy∧Λ= .box b3 (yvA c.lp):: .loop c.lp c.r0 st' pd'::Λ''∧c.Stop st' pd' Λ'') ⟨Λ1,rfl,hs2⟩ (fun h3 lp tm hl3 j xs Λi h4 hg4 F4 hxs hinv hl4=>?_) (fun h3 hg3 r Λ' hl3 hinv=>?_) (fun h3 hg3 r st pd Λ' hl3 hst hs=>?_)
   ·rw [List.mem_map] at hxs
    obtain ⟨cp,_,rfl⟩:=hxs
    rfl
   ·obtain ⟨Λ3,rfl,hi3⟩:=hinv
    obtain ⟨cp,hcp1,rfl⟩: ∃cp,(compR ((i0::r0)++[i]) x)[j]? =some cp∧cpA cp=xs:=by
     rw [List.getElem?_map] at hxs
     cases hq:(compR ((i0::r0)++[i]) x)[j]? with
     |none=>rw [hq] at hxs;cases hxs
     |some cp=>rw [hq] at hxs;injection hxs with hxs;exact ⟨cp,rfl,hxs⟩
    have hg:((compL (i0::r0) 0 p.l).map cpA)[(compL (i0::r0) 0 (p.l.take i)).length+j]? =some (cpA cp):=by
     rw [List.getElem?_map,hget,List.getElem?_append_right (by omega),Nat.add_sub_cancel_left,List.getElem?_append_left (at_lt hcp1),hcp1];rfl
    have hr:=hround _ _ hg
    have hln:=hlen _ (List.mem_of_getElem? hg)
    have hle:h0.le h4:=GH.le_trans hl (GH.le_trans hl2 (GH.le_trans hl3 hl4))
    (refine b_ fun bx=>?_;refine y_ ?_)
    refine A.begin rfl rfl rfl ?_
    refine y_ ?_
    refine A.yieldC c (Λi:=Λ3) rfl rfl rfl rfl rfl rfl hln .refl hle (List.perm_append_comm (l₁:=[_,_,_])) hi3 hr (fun Λ4 hi4=>?_) (fun st pd Λ4 hst4 hs4=>?_)
    ·refine A.perm List.perm_append_comm ?_
     refine l_ (Λ':=_:: .box b3 (yvA c.lp):: .loop c.lp c.r0 .ready none::Λ4) ?_
     refine y_ ?_
     exact A.roundEnd rfl rfl (.inl ⟨rfl,_,rfl,Λ4,rfl,by rw [←Nat.add_assoc];exact hi4⟩)
    ·refine A.perm List.perm_append_comm ?_
     refine l_ (Λ':=_:: .box b3 (yvA c.lp):: .loop c.lp c.r0 st pd::Λ4) ?_
     refine y_ ?_
     exact A.roundRet rfl rfl (.inr ⟨rfl, .done,some .ret,_,(by intro h;cases h),rfl,rfl,rfl,st,pd,Λ4,hst4,rfl,hs4⟩)
   ·obtain ⟨Λ3,rfl,hi3⟩:=hinv
    have hi4:c.Inv (compL (i0::r0) 0 (p.l.take (i+1))).length Λ3:=by rw [htake,List.length_append];rw [List.length_map] at hi3;exact hi3
    refine y_ ?_
    refine A.valE 30 rfl (x':=AI ((i+1:Nat):Int)) (inc_eq i (by omega)) ?_
    refine A.peDis 2 rfl ?_
    refine u_ (ih h3 hg3 _ (i+1,Λ3) hl3 ⟨by show i+1≤_;omega,hi4⟩ (by show _-(i+1)<_-i;omega))
   ·obtain ⟨rfl,rfl,st',pd',Λ3,hst',rfl,hs'⟩:=hs
    exact A.ret0 rfl rfl (List.sublist_cons_self _ _) (hstop _ _ _ hst' hs') rfl
  have hci: ¬i<p.l.length:=by simpa using hc
  clear hc ih
  have hil:i=p.l.length:=by omega
  rw [hil,List.take_length] at hs2
  refine y_ ?_
  exact A.ret0 rfl rfl (List.sublist_cons_self _ _) (hfin _ (by rw [List.length_map];exact hs2)) rfl
theorem iter_n{V:List KV}{C:List Int}: ∀(m:Nat) (p:PR) (path:List Nat) (h:Bool),SizeOf.sizeOf p≤m→okF (Loc V C) true h p→nfR p→path.length+htR p≤1000→IterC p path
 |0,p,_,_,h,_,_,_=>by
  obtain ⟨k,c,v,i,to,e,gs,l⟩:=p
  simp only [PR.mk.sizeOf_spec] at h;omega
 |m+1,p,path,h,hm,hok,hnf,hpl=>by
  have hok0:=hok
  rw [okF_eq] at hok
  obtain ⟨⟨w1,w2,w3⟩,w4,w5⟩:=hok
  rw [nfR_eq] at hnf
  have hht:=htR_eq p
  by_cases h9:p.kind=9
  ·rw [if_pos h9] at hnf
   match hl:p.l,hnf with
   |x::y::s,hnf=>
    rw [nfS_2] at hnf
    have hx:x∈p.l:=by rw [hl];exact .head _
    rw [hl,h9,okFl] at w4
    have:=htL_le hx
    exact iter_seq p x (y::s) path h9 hl (iter_n m x path _ (by have:=pr_lt hx;omega) w4.1 hnf.2 (by omega))
  ·rw [if_neg h9] at hnf
   cases hb:bothB p with
   |false=>exact iter_leaf p path h9 hb
   |true=>
    have hb':p.kind=10∨p.kind=11:=by simpa [bothB] using hb
    rw [if_pos hb'] at hnf
    have hlens:=w1.lens
    have e1:(true&&(p.kind==9||p.kind==10||p.kind==11))=true:=by rcases hb' with h|h<;>rw [h]<;>rfl
    have e2:(true&&(p.kind==10||p.kind==11))=true:=by rcases hb' with h|h<;>rw [h]<;>rfl
    rw [e1,e2] at w4
    refine iter_par p path hb (by omega) (by have:=htR_pos p;omega) fun x hx i=>?_
    obtain ⟨j,hj,hjx⟩:=List.getElem_of_mem hx
    obtain ⟨h',hw⟩:=okFl_at (j:=j) (x:=x) (by rw [List.getElem?_eq_getElem hj,hjx]) w4
    have:=htL_le hx
    refine iter_n m x (path++[i]) h' (by have:=pr_lt hx;omega) hw (nfL_mem hnf.2 x hx) ?_
    rw [List.length_append,List.length_singleton];omega
abbrev pathL(path:List Nat):AV:= .sl 1 (path.map fun i=>AI (i:Nat)) none
theorem encRl_set(l:List PR)(j:Nat)(y:PR):(encRl l).set j (cellsR y)=encRl (l.set j y):=by rw [encRl_cells,encRl_cells,List.map_set]
theorem repS_p(p q x Y:PR)(r:List PR)(path:List Nat)(h9:p.kind=9)(hl:p.l=x::r)(hb:p.l.length≤16777216)(hrec:Pure Tryz.prog gs0 68 [cellsR x,pathL path,cellsR q] (cellsR Y)):Pure Tryz.prog gs0 68 [cellsR p,pathL path,cellsR q] (cellsR ⟨p.kind,p.c,p.v,p.item,p.to,p.e,p.gs,p.l.set 0 Y⟩):=by
 have hcl:=cloneR_p p.l hb
 have hlen:=encRl_len p.l
 have hat:(encRl p.l)[0]? =some (cellsR x):=by rw [hl,encRl_cons];rfl
 have hj:0<p.l.length:=by rw [hl];simp
 refine p_ tt_ok Tryz.func68 38 fun w0 h0 F hgs=>?_
 (refine b_ fun bx=>?_;refine b_ fun bx=>?_;refine b_ fun bx=>?_;refine y_ ?_)
 refine A.valE 12 rfl (x':=AB true) (ab_eq (by rw [h9];rfl)) ?_
 refine e_ 9 rfl (x':=AB true) (ab_eq (by rw [h9];rfl)) ?_
 refine A.valE 7 rfl (x':=AI ((0:Nat):Int)) rfl ?_
 refine A.e rfl hcl .refl (List.Perm.refl _) fun z _=>?_
 refine y_ ?_
 refine d_ 11 [0,1,2,3,4,5,6,7,8,9,10] [(10,cellsR Y)] ?_
 refine WA.indexRow rfl rfl rfl rfl rfl rfl rfl rfl rfl (by first|omega|decide) (by rw [hlen];omega) rfl ?_
 refine WA.loadRow rfl rfl rfl rfl rfl rfl rfl (y':=cellsR x) rfl hat rfl rfl ?_
 refine w_ ?_
 refine WA.c rfl rfl hrec (.sub s_) ?_
 refine WA.nil (l:=[]) rfl ?_
 refine A.indexRow rfl rfl rfl rfl rfl rfl rfl rfl (by first|omega|decide) (by rw [hlen];omega) rfl ?_
 refine A.storeRow rfl rfl rfl rfl rfl rfl rfl rfl rfl (by rw [hlen];first|exact hj|(show (0:Nat)<_;omega)) (xs':=encRl (p.l.set 0 Y)) (encRl_set p.l 0 Y) ?_
 refine A.freezeRowV 3 z (x':=cellsR ⟨p.kind,p.c,p.v,p.item,p.to,p.e,p.gs,p.l.set 0 Y⟩) rfl fz_ ?_
 refine y_ ?_;refine A.retC (Λ':=[]) rfl rfl rfl rfl rfl (List.nil_sublist _) ⟨?_,rfl⟩;exact .refl
theorem repL_p(p q x Y:PR)(j:Nat)(path:List Nat)(hk:p.kind=10∨p.kind=11)(hx:p.l[j]? =some x)(hb:p.l.length≤16777216)(hrec:Pure Tryz.prog gs0 68 [cellsR x,pathL path,cellsR q] (cellsR Y)):Pure Tryz.prog gs0 68 [cellsR p,pathL (j::path),cellsR q] (cellsR ⟨p.kind,p.c,p.v,p.item,p.to,p.e,p.gs,p.l.set j Y⟩):=by
 have hcl:=cloneR_p p.l hb
 have hlen:=encRl_len p.l
 have hat:(encRl p.l)[j]? =some (cellsR x):=by rw [encRl_at hx,encR_eq]
 have hj:j<p.l.length:=at_lt hx
 have hbr:=branches_p p
 rw [show bothB p=true by simpa [bothB] using hk] at hbr
 have h9:p.kind≠9:=by rcases hk with h|h<;>rw [h]<;>decide
 refine p_ tt_ok Tryz.func68 38 fun w0 h0 F hgs=>?_
 (refine b_ fun bx=>?_;refine b_ fun bx=>?_;refine b_ fun bx=>?_;refine y_ ?_)
 refine A.valE 12 rfl (x':=AB false) (ab_eq (beq_eq_false_iff_ne.2 h9)) ?_
 refine e_ 9 rfl (x':=AB false) (ab_eq (beq_eq_false_iff_ne.2 h9)) ?_
 refine c_ hbr ?_
 refine d_ 6 [0,1,2,3,4,5] [] ?_
 refine WA.x rfl (by show (0:Int)≤((0:Nat):Int);omega) rfl rfl rfl ?_
 refine w_ ?_
 refine WA.slice (ys:=path.map fun i=>AI (i:Nat)) rfl rfl rfl rfl rfl rfl rfl rfl rfl rfl (by decide) (by rw [List.length_map,List.length_cons];omega) (by omega) (by rw [List.length_map,List.length_cons];simp [List.take_of_length_le]) rfl ?_
 refine w_ ?_
 refine z_ ?_
 refine A.e rfl hcl .refl (List.Perm.refl _) fun z _=>?_
 refine y_ ?_
 refine d_ 11 [0,1,2,3,4,5,6,7,8,9,10] [(10,cellsR Y)] ?_
 refine WA.indexRow rfl rfl rfl rfl rfl rfl rfl rfl rfl (by first|omega|decide) (by rw [hlen];omega) rfl ?_
 refine WA.loadRow rfl rfl rfl rfl rfl rfl rfl (y':=cellsR x) rfl hat rfl rfl ?_
 refine w_ ?_
 refine WA.c rfl rfl hrec (.sub s_) ?_
 refine WA.nil (l:=[]) rfl ?_
 refine A.indexRow rfl rfl rfl rfl rfl rfl rfl rfl (by first|omega|decide) (by rw [hlen];omega) rfl ?_
 refine A.storeRow rfl rfl rfl rfl rfl rfl rfl rfl rfl (by rw [hlen];first|exact hj|(show (0:Nat)<_;omega)) (xs':=encRl (p.l.set j Y)) (encRl_set p.l j Y) ?_
 refine A.freezeRowV 3 z (x':=cellsR ⟨p.kind,p.c,p.v,p.item,p.to,p.e,p.gs,p.l.set j Y⟩) rfl fz_ ?_
 refine y_ ?_;refine A.retC (Λ':=[]) rfl rfl rfl rfl rfl (List.nil_sublist _) ⟨?_,rfl⟩;exact .refl
theorem repN_p(p q:PR)(h9:p.kind≠9)(hk: ¬(p.kind=10∨p.kind=11)):Pure Tryz.prog gs0 68 [cellsR p,pathL [],cellsR q] (cellsR q):=by
 have hbr:=branches_p p
 rw [show bothB p=false by simpa [bothB] using hk] at hbr
 refine p_ tt_ok Tryz.func68 38 fun w0 h0 F hgs=>?_
 (refine b_ fun bx=>?_;refine b_ fun bx=>?_;refine b_ fun bx=>?_;refine y_ ?_)
 refine A.valE 12 rfl (x':=AB false) (ab_eq (beq_eq_false_iff_ne.2 h9)) ?_
 refine e_ 9 rfl (x':=AB false) (ab_eq (beq_eq_false_iff_ne.2 h9)) ?_
 refine c_ hbr ?_;refine A.retC (Λ':=[]) rfl rfl rfl rfl rfl (List.nil_sublist _) ⟨?_,rfl⟩;exact .refl
theorem replaced_n{V:List KV}{C:List Int}(q c:PR): ∀(m:Nat) (p:PR) (path:List Nat) (h:Bool),SizeOf.sizeOf p≤m→okF (Loc V C) true h p→atR p path=some c→Pure Tryz.prog gs0 68 [cellsR p,pathL path,cellsR q] (cellsR (repR q p path))
 |0,p,_,_,h,_,_=>by
  obtain ⟨k,c,v,i,to,e,gs,l⟩:=p
  simp only [PR.mk.sizeOf_spec] at h;omega
 |m+1,p,path,h,hm,hok,ha=>by
  rw [okF_eq] at hok
  obtain ⟨⟨w1,w2,w3⟩,w4,w5⟩:=hok
  have hb:p.l.length≤16777216:=by have:=w1.lens;omega
  rw [repR_eq]
  rw [atR_eq] at ha
  by_cases h9:p.kind=9
  ·rw [if_pos h9] at ha⊢
   match hl:p.l,ha with
   | [],ha=>rw [atS] at ha;cases ha
   |x::r,ha=>
    rw [atS] at ha
    have hx:x∈p.l:=by rw [hl];exact .head _
    rw [hl,h9,okFl] at w4
    have e:=repS_p p q x _ r path h9 hl hb (replaced_n q c m x path _ (by have:=pr_lt hx;omega) w4.1 ha)
    rw [hl] at e
    rw [repS]
    exact e
  ·rw [if_neg h9] at ha⊢
   by_cases hk:p.kind=10∨p.kind=11
   ·rw [if_pos hk] at ha⊢
    match path,ha with
    |j::rest,ha=>
     obtain ⟨x,hx,ha⟩:=atL_get ha
     have hxm:=List.mem_of_getElem? hx
     show Pure _ _ _ _ (cellsR ⟨_,_,_,_,_,_,_,repL q p.l j rest⟩)
     rw [repL_set q hx]
     have e1:(true&&(p.kind==9||p.kind==10||p.kind==11))=true:=by rcases hk with h|h<;>rw [h]<;>rfl
     have e2:(true&&(p.kind==10||p.kind==11))=true:=by rcases hk with h|h<;>rw [h]<;>rfl
     rw [e1,e2] at w4
     obtain ⟨h',hw⟩:=okFl_at (j:=j) (x:=x) hx w4
     exact repL_p p q x _ j rest hk hx hb (replaced_n q c m x rest h' (by have:=pr_lt hxm;omega) hw ha)
   ·rw [if_neg hk] at ha⊢
    match path,ha with
    | [],ha=>exact repN_p p q h9 hk
theorem replaced_p{V:List KV}{C:List Int}{q c p:PR}{path:List Nat}{h:Bool}(hok:okF (Loc V C) true h p)(ha:atR p path=some c):Pure Tryz.prog gs0 68 [cellsR p,pathL path,cellsR q] (cellsR (repR q p path)):=replaced_n q c _ p path h (Nat.le_refl _) hok ha
end Go.Proofs.YtpcloejpklkieaaGreat
