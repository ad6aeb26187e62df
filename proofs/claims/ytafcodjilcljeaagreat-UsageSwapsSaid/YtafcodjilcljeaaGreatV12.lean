/-
  Texts Q14i Q17c Q17d Q17h Q17j Q17n Q17k Q17l Q17p Q18l Q21am Q21ap. Conditions: as each theorem says.
-/
import Derived.Test.YtafcodjilcljeaaGreatV3
import Derived.Test.YtafcodjilcljeaaGreatV5
import Derived.Test.YtafcodjilcljeaaGreatV2
import Derived.Test.YtafcodjilcljeaaGreatV6
import Derived.Test.YtafcodjilcljeaaGreatV8
import Derived.Test.YtafcodjilcljeaaGreatV9
set_option linter.unusedVariables false
set_option linter.unusedSimpArgs false
set_option maxRecDepth 100000
set_option maxHeartbeats 4000000
namespace Go.Proofs.YtafcodjilcljeaaGreat
open Go Go.Tp
def okI(x:Option Int):Prop:= ∀r,x=some r→i32 r
theorem ok_ite{p:Prop} [Decidable p]{x y:Option Int}(hx:okI x)(hy:okI y):okI (if p then x else y):=by split<;>assumption
theorem ok_none:okI none:=fun r h=>by cases h
theorem ok_some{x:Int}(h:i32 x):okI (some x):=fun r e=>by injection e with e;subst e;exact h
theorem ok_wrap(n:Int):okI (some (w32 n)):=ok_some (w32_in n)
theorem ok_fit(n:Int):okI (fit32 n):=by
 unfold fit32;split
 ·rename_i h;simp [fitB] at h;exact ok_some (by unfold i32;omega)
 ·exact ok_none
theorem i32_0:i32 0:=by unfold i32;decide
theorem ok_truth(b:Bool):okI (some (truthI b)):=ok_some (by cases b<;>simp [truthI,i32])
theorem tmod_in{a b:Int}(ha:i32 a)(hb:i32 b)(h: ¬b=0):i32 (a.tmod b):=by
 have h1:=Int.natAbs_tmod a b
 have h2:a.natAbs % b.natAbs<b.natAbs:=Nat.mod_lt _ (by omega)
 unfold i32 at*;omega
theorem applyC_in{o a b:Int}(ha:i32 a)(hb:i32 b):okI (applyC o a b):=by
 unfold applyC
 refine ok_ite (ok_fit _)<|ok_ite (ok_fit _)<|ok_ite (ok_fit _)<|ok_ite ?_<|ok_ite ?_<|ok_ite (ok_wrap _)<|ok_ite (ok_wrap _)<|ok_ite (ok_wrap _)<|
  ok_ite (ok_some (w32_in _))<|ok_ite (ok_some (w32_in _))<|ok_ite (ok_some (w32_in _))<|ok_ite (ok_some ?_)<|ok_ite (ok_some ?_)<|ok_ite (ok_truth _)<|ok_ite (ok_truth _)<|ok_ite (ok_truth _)<|
  ok_ite (ok_truth _)<|ok_ite (ok_truth _)<|ok_ite (ok_truth _)<|ok_ite (ok_ite (ok_truth _) ok_none)<|ok_ite (ok_ite (ok_truth _) ok_none)<|ok_ite (ok_truth _)<|ok_ite (ok_fit _)<|ok_ite (ok_wrap _)<|ok_ite (ok_some (w32_in _))<|ok_ite (ok_ite (ok_truth _) ok_none) ok_none
 ·split
  ·exact ok_none
  ·rename_i h;exact ok_some (tdiv_in ha (by simpa using h))
 ·split
  ·exact ok_none
  ·rename_i h;exact ok_some (tmod_in ha hb h)
 ·unfold shlM;split
  ·exact i32_0
  ·exact w32_in _
 ·unfold shrM;split
  ·exact i32_0
  ·exact w32_in _
def wfS(s:List (List Int)):Prop:= ∀r,r∈s→ ∀x,x∈r→i32 x
theorem atM_in{s:List (List Int)}(hs:wfS s)(v i:Int):okI (atM s v i):=by
 unfold atM;split
 ·exact ok_none
 ·intro r h
  cases h1:s[v.toNat]? with
  |none=>rw [h1] at h;cases h
  |some l=>rw [h1] at h;exact hs l (List.mem_of_getElem? h1) r (List.mem_of_getElem? h)
theorem convC_in{t v:Int}(h:i32 v):okI (convC t v):=by
 unfold convC;split
 ·exact ok_some h
 ·exact ok_none
def isSh(o a:Int):Bool:=(o==20&&a==0)||(o==21&&a==1)
def combM(s:List (List Int))(k o t n v:Int)(vs:List (Option Int)):Option Int:=
 if k=1 then some n else if k=2 then atM s v 0 else match vs with
 |some a::r=>if k=3 then atM s v a else if k=4 then applyC o a 0 else if k=6 then convC t a else if isSh o a then some a else match r with
  |some b::_=>applyC o a b
  |_=>none
 |_=>none
theorem isSh_eq(o a:Int):(bif bif o==20 then a==0 else false then true else bif o==21 then a==1 else false)=isSh o a:=by unfold isSh;cases (o==20)<;>cases (a==0)<;>cases (o==21)<;>rfl
mutual
def valM(s:List (List Int)):KE→Option Int
 |⟨k,o,t,n,v,l⟩=>combM s k o t n v (valMl s l)
def valMl(s:List (List Int)):List KE→List (Option Int)
 | []=>[]
 |e::r=>valM s e::valMl s r
end
theorem valM_in{s:List (List Int)}(hs:wfS s): ∀(N:Nat) (e:KE),sz e≤N→wfK e→fine e=true→okI (valM s e)
 |0,e,hn,_,_=>by have:=sz_pos e;omega
 |N+1,e,hn,hw,hf=>by
  have hb0:=i32_0
  rcases fine_cases hf with ⟨n,rfl⟩|⟨v,h1,h2,rfl⟩|⟨v,a,h1,h2,h3,rfl⟩|⟨o,a,h1,h2,h3,rfl⟩|⟨o,a,b,h1,h2,h3,h4,rfl⟩|⟨t,a,h1,h2,h3,rfl⟩
  ·simp [valM,valMl,combM];simp only [wfK] at hw;exact ok_some hw.1.2.2.2.1
  ·simp [valM,valMl,combM];exact atM_in hs _ _
  ·cases ha:valM s a<;>simp [valM,valMl,combM,ha]
   ·exact ok_none
   ·exact atM_in hs _ _
  ·simp only [sz,szl] at hn
   have ih:=valM_in hs N a (by omega) (wfK1 hw) h3
   cases ha:valM s a<;>simp [valM,valMl,combM,ha]
   ·exact ok_none
   ·exact applyC_in (ih _ ha) hb0
  ·simp only [sz,szl] at hn
   have:=sz_pos a
   have:=sz_pos b
   have ih:=valM_in hs N a (by omega) (wfK2 hw).1 h3
   have ih2:=valM_in hs N b (by omega) (wfK2 hw).2 h4
   cases ha:valM s a<;>simp [valM,valMl,combM,ha]
   ·exact ok_none
   ·split
    ·exact ok_some (ih _ ha)
    ·cases hb:valM s b
     ·exact ok_none
     ·exact applyC_in (ih _ ha) (ih2 _ hb)
  ·simp only [sz,szl] at hn
   have ih:=valM_in hs N a (by omega) (wfK1 hw) h3
   cases ha:valM s a<;>simp [valM,valMl,combM,ha]
   ·exact ok_none
   ·exact convC_in (ih _ ha)
def valueM(s:List (List Int))(e:KE):Option Int:=if valid e then valM s e else none
theorem valueM_in{s:List (List Int)}(hs:wfS s){e:KE}(hw:wfK e):okI (valueM s e):=by
 unfold valueM;split
 ·rename_i h;exact valM_in hs _ e (Nat.le_refl _) hw h.1
 ·exact ok_none
theorem value_p(s:List (List Int))(hs:wfS s): ∀(N:Nat) (e:KE),sz e≤N→wfK e→fine e=true→Pure Tryz.prog gs0 52 [rowsA s,encK e] (optA (valM s e))
 |0,e,hn,_,_=>by have:=sz_pos e;omega
 |N+1,e,hn,hw,hf=>by
  have hb0:=i32_0
  rcases fine_cases hf with ⟨n,rfl⟩|⟨v,h1,h2,rfl⟩|⟨v,a,h1,h2,h3,rfl⟩|⟨o,a,h1,h2,h3,rfl⟩|⟨o,a,b,h1,h2,h3,h4,rfl⟩|⟨t,a,h1,h2,h3,rfl⟩
  ·simp only [encK,encKl]
   refine p_ tt_ok Tryz.func52 105 fun w0 h0 F hgs=>?_
   (refine b_ fun bx=>?_;refine y_ ?_);refine q_ ?_;exact .refl
  ·simp only [encK,encKl]
   refine p_ tt_ok Tryz.func52 105 fun w0 h0 F hgs=>?_
   (refine b_ fun bx=>?_;refine y_ ?_);refine c_ (at_p _ _ _) ?_;refine q_ ?_;exact .refl
  ·simp only [sz,szl] at hn
   have ih:=value_p s hs N a (by omega) (wfK1 hw) h3
   have hi:=valM_in hs N a (by omega) (wfK1 hw) h3
   rw [encK_eq] at ih
   simp only [encK,encKl]
   cases ha:valM s a with
   |none=>
    rw [ha] at ih
    have e:valM s ⟨3,0,0,0,v,[a]⟩=none:=by simp [valM,valMl,combM,ha]
    rw [e]
    refine p_ tt_ok Tryz.func52 105 fun w0 h0 F hgs=>?_
    (refine b_ fun bx=>?_;refine y_ ?_)
    refine j_ rfl rfl rfl ?_
    refine e_ 27 rfl (pe_enc a) ?_
    refine c_ (ih) ?_;refine q_ ?_;exact .refl
   |some x=>
    rw [ha] at ih
    have hx:=hi x ha
    have e:valM s ⟨3,0,0,0,v,[a]⟩=atM s v x:=by simp [valM,valMl,combM,ha]
    rw [e]
    refine p_ tt_ok Tryz.func52 105 fun w0 h0 F hgs=>?_
    (refine b_ fun bx=>?_;refine y_ ?_)
    refine j_ rfl rfl rfl ?_
    refine e_ 27 rfl (pe_enc a) ?_
    refine c_ (ih) ?_
    refine A.valE 42 rfl (x':=AI x) (ai_eq (w64_32 hx)) ?_
    refine c_ (at_p _ _ _) ?_;refine q_ ?_;exact .refl
  ·simp only [sz,szl] at hn
   have ih:=value_p s hs N a (by omega) (wfK1 hw) h3
   have hi:=valM_in hs N a (by omega) (wfK1 hw) h3
   rw [encK_eq] at ih
   simp only [encK,encKl]
   cases ha:valM s a with
   |none=>
    rw [ha] at ih
    have e:valM s ⟨4,o,0,0,0,[a]⟩=none:=by simp [valM,valMl,combM,ha]
    rw [e]
    refine p_ tt_ok Tryz.func52 105 fun w0 h0 F hgs=>?_
    (refine b_ fun bx=>?_;refine y_ ?_)
    refine j_ rfl rfl rfl ?_
    refine e_ 27 rfl (pe_enc a) ?_
    refine c_ (ih) ?_;refine q_ ?_;exact .refl
   |some x=>
    rw [ha] at ih
    have hx:=hi x ha
    have e:valM s ⟨4,o,0,0,0,[a]⟩=applyC o x 0:=by simp [valM,valMl,combM,ha]
    rw [e]
    refine p_ tt_ok Tryz.func52 105 fun w0 h0 F hgs=>?_
    (refine b_ fun bx=>?_;refine y_ ?_)
    refine j_ rfl rfl rfl ?_
    refine e_ 27 rfl (pe_enc a) ?_
    refine c_ (ih) ?_
    refine c_ (apply_p o x 0 hx hb0) ?_
    refine c_ (some_p _ _) ?_;refine q_ ?_;cases applyC o x 0<;>exact .refl
  ·simp only [sz,szl] at hn
   have:=sz_pos a
   have:=sz_pos b
   have ih:=value_p s hs N a (by omega) (wfK2 hw).1 h3
   have ih2:=value_p s hs N b (by omega) (wfK2 hw).2 h4
   have hi:=valM_in hs N a (by omega) (wfK2 hw).1 h3
   have hi2:=valM_in hs N b (by omega) (wfK2 hw).2 h4
   rw [encK_eq] at ih ih2
   simp only [encK,encKl]
   cases ha:valM s a with
   |none=>
    rw [ha] at ih
    have e:valM s ⟨5,o,0,0,0,[a,b]⟩=none:=by simp [valM,valMl,combM,ha]
    rw [e]
    refine p_ tt_ok Tryz.func52 105 fun w0 h0 F hgs=>?_
    (refine b_ fun bx=>?_;refine y_ ?_)
    refine j_ rfl rfl rfl ?_
    refine e_ 27 rfl (pe_enc a) ?_
    refine c_ (ih) ?_;refine q_ ?_;exact .refl
   |some x=>
    rw [ha] at ih
    have hx:=hi x ha
    by_cases hsh:isSh o x=true
    ·have e:valM s ⟨5,o,0,0,0,[a,b]⟩=some x:=by simp [valM,valMl,combM,ha,hsh]
     rw [e]
     refine p_ tt_ok Tryz.func52 105 fun w0 h0 F hgs=>?_
     (refine b_ fun bx=>?_;refine y_ ?_)
     refine j_ rfl rfl rfl ?_
     refine e_ 27 rfl (pe_enc a) ?_
     refine n_ (ih) ?_
     refine g_ ?_
     refine e_ 82 rfl (x':=AB true) (ab_eq ((isSh_eq o x).trans hsh)) ?_;refine q_ ?_;exact .refl
    ·have hsf:isSh o x=false:=by simpa using hsh
     cases hb:valM s b with
     |none=>
      rw [hb] at ih2
      have e:valM s ⟨5,o,0,0,0,[a,b]⟩=none:=by simp [valM,valMl,combM,ha,hb,hsf]
      rw [e]
      refine p_ tt_ok Tryz.func52 105 fun w0 h0 F hgs=>?_
      (refine b_ fun bx=>?_;refine y_ ?_)
      refine j_ rfl rfl rfl ?_
      refine e_ 27 rfl (pe_enc a) ?_
      refine n_ (ih) ?_
      refine g_ ?_
      refine e_ 82 rfl (x':=AB false) (ab_eq ((isSh_eq o x).trans hsf)) ?_
      refine j_ rfl rfl rfl ?_
      refine e_ 88 rfl (pe_enc b) ?_
      refine c_ (ih2) ?_;refine q_ ?_;exact .refl
     |some y=>
      rw [hb] at ih2
      have hy:=hi2 y hb
      have e:valM s ⟨5,o,0,0,0,[a,b]⟩=applyC o x y:=by simp [valM,valMl,combM,ha,hb,hsf]
      rw [e]
      refine p_ tt_ok Tryz.func52 105 fun w0 h0 F hgs=>?_
      (refine b_ fun bx=>?_;refine y_ ?_)
      refine j_ rfl rfl rfl ?_
      refine e_ 27 rfl (pe_enc a) ?_
      refine n_ (ih) ?_
      refine g_ ?_
      refine e_ 82 rfl (x':=AB false) (ab_eq ((isSh_eq o x).trans hsf)) ?_
      refine j_ rfl rfl rfl ?_
      refine e_ 88 rfl (pe_enc b) ?_
      refine c_ (ih2) ?_
      refine c_ (apply_p o x y hx hy) ?_
      refine c_ (some_p _ _) ?_;refine q_ ?_;cases applyC o x y<;>exact .refl
  ·simp only [sz,szl] at hn
   have ih:=value_p s hs N a (by omega) (wfK1 hw) h3
   rw [encK_eq] at ih
   simp only [encK,encKl]
   cases ha:valM s a with
   |none=>
    rw [ha] at ih
    have e:valM s ⟨6,0,t,0,0,[a]⟩=none:=by simp [valM,valMl,combM,ha]
    rw [e]
    refine p_ tt_ok Tryz.func52 105 fun w0 h0 F hgs=>?_
    (refine b_ fun bx=>?_;refine y_ ?_)
    refine j_ rfl rfl rfl ?_
    refine e_ 27 rfl (pe_enc a) ?_
    refine c_ (ih) ?_;refine q_ ?_;exact .refl
   |some x=>
    rw [ha] at ih
    have e:valM s ⟨6,0,t,0,0,[a]⟩=convC t x:=by simp [valM,valMl,combM,ha]
    rw [e,conv_fits]
    refine p_ tt_ok Tryz.func52 105 fun w0 h0 F hgs=>?_
    (refine b_ fun bx=>?_;refine y_ ?_)
    refine j_ rfl rfl rfl ?_
    refine e_ 27 rfl (pe_enc a) ?_
    refine c_ (ih) ?_
    refine n_ (fits_p _ _) ?_
    refine c_ (some_p _ _) ?_;refine q_ ?_;exact .refl
theorem Value_p(s:List (List Int))(hs:wfS s)(e:KE)(hw:wfK e):Pure Tryz.prog gs0 28 [rowsA s,encK e] (optA (valueM s e)):=by
 have hp:=evalid_p e hw
 have hv:=fun h=>value_p s hs _ e (Nat.le_refl _) hw h
 rw [encK_eq] at hp⊢
 simp only [encK_eq] at hv
 by_cases h:valid e
 ·have hv:=hv h.1
  rw [valueM,if_pos h];rw [decide_eq_true h] at hp
  refine p_ tt_ok Tryz.func28 14 fun w0 h0 F hgs=>?_
  (refine b_ fun bx=>?_;refine y_ ?_);refine c_ (hp) ?_;refine c_ (hv) ?_;refine q_ ?_;exact .refl
 ·rw [valueM,if_neg h];rw [decide_eq_false h] at hp
  refine p_ tt_ok Tryz.func28 14 fun w0 h0 F hgs=>?_
  (refine b_ fun bx=>?_;refine y_ ?_);refine c_ (hp) ?_;refine q_ ?_;exact .refl
def lens(s:List (List Int)):Nat:=(s.map List.length).sum
abbrev encP(v:Int)(l:List KE):AV:= .ag [AI v, .sl 6 (encKl l) none]
def placeM(s:List (List Int))(v:Int):List KE→Option (Int×Int)
 | []=>if (atM s v 0).isSome then some (v,0) else none
 | [e]=>match valueM s e with
   |some x=>if (atM s v x).isSome then some (v,x) else none
   |none=>none
 |_=>none
abbrev optP(x:Option (Int×Int)):AV:= .tp [AI (x.getD (0,0)).1,AI (x.getD (0,0)).2,AB x.isSome]
theorem Place_p(s:List (List Int))(hs:wfS s)(v:Int)(l:List KE)(hw:wfKl l)(hn:l.length≤281474976710656):Pure Tryz.prog gs0 56 [rowsA s,encP v l] (optP (placeM s v l)):=by
 have hl:=encKl_len l
 match l,hw,hn,hl with
 | [],hw,hn,hl=>
   unfold placeM
   cases h:atM s v 0 with
   |none=>
    have hp:=at_p s v 0
    rw [h] at hp
    refine p_ tt_ok Tryz.func56 42 fun w0 h0 F hgs=>?_
    (refine b_ fun bx=>?_;refine y_ ?_);refine c_ (hp) ?_;refine A.ret3 (Λ':=[]) rfl rfl rfl rfl rfl (List.nil_sublist _) ⟨?_,rfl⟩;exact .refl
   |some y=>
    have hp:=at_p s v 0
    rw [h] at hp
    refine p_ tt_ok Tryz.func56 42 fun w0 h0 F hgs=>?_
    (refine b_ fun bx=>?_;refine y_ ?_);refine c_ (hp) ?_;refine A.ret3 (Λ':=[]) rfl rfl rfl rfl rfl (List.nil_sublist _) ⟨?_,rfl⟩;exact .refl
 | [e],hw,hn,hl=>
   unfold placeM
   simp only [wfKl] at hw
   have hv:=Value_p s hs e hw.1
   rw [encK_eq] at hv
   simp only [encP,encKl]
   cases hx:valueM s e with
   |none=>
    rw [hx] at hv
    refine p_ tt_ok Tryz.func56 42 fun w0 h0 F hgs=>?_
    (refine b_ fun bx=>?_;refine y_ ?_)
    refine j_ rfl rfl rfl ?_
    refine e_ 20 rfl (pe_enc e) ?_;refine c_ (hv) ?_;refine A.ret3 (Λ':=[]) rfl rfl rfl rfl rfl (List.nil_sublist _) ⟨?_,rfl⟩;exact .refl
   |some x=>
    rw [hx] at hv
    have hxi:=valueM_in hs hw.1 x hx
    cases h:atM s v x with
    |none=>
     have hp:=at_p s v x
     rw [h] at hp
     simp only [h]
     refine p_ tt_ok Tryz.func56 42 fun w0 h0 F hgs=>?_
     (refine b_ fun bx=>?_;refine y_ ?_)
     refine j_ rfl rfl rfl ?_
     refine e_ 20 rfl (pe_enc e) ?_;refine c_ (hv) ?_
     refine A.valE 33 rfl (x':=AI x) (ai_eq (w64_32 hxi)) ?_
     refine c_ (hp) ?_;refine A.ret3 (Λ':=[]) rfl rfl rfl rfl rfl (List.nil_sublist _) ⟨?_,rfl⟩;exact .refl
    |some y=>
     have hp:=at_p s v x
     rw [h] at hp
     simp only [h]
     refine p_ tt_ok Tryz.func56 42 fun w0 h0 F hgs=>?_
     (refine b_ fun bx=>?_;refine y_ ?_)
     refine j_ rfl rfl rfl ?_
     refine e_ 20 rfl (pe_enc e) ?_;refine c_ (hv) ?_
     refine A.valE 33 rfl (x':=AI x) (ai_eq (w64_32 hxi)) ?_
     refine A.valE 5 rfl (x':=AI x) (ai_eq (w64_32 hxi)) ?_
     refine c_ (hp) ?_;refine A.ret3 (Λ':=[]) rfl rfl rfl rfl rfl (List.nil_sublist _) ⟨?_,rfl⟩;exact .refl
 |e::b::r,hw,hn,hl=>
  unfold placeM
  refine p_ tt_ok Tryz.func56 42 fun w0 h0 F hgs=>?_
  (refine b_ fun bx=>?_;refine y_ ?_);refine A.ret3 (Λ':=[]) rfl rfl rfl rfl rfl (List.nil_sublist _) ⟨?_,rfl⟩;exact .refl
abbrev s0:List (List Int):=[[7],[1,2,3]]
theorem sl_rows(hs:List (Value×List Int)):slL 1 (rowsH hs)=(hs.map Prod.snd).map rowA:=by simp [slL,rowsH]
abbrev s1:List (List Int):=[[5,6,7]]
abbrev v0:List KV:=[⟨1,0⟩,⟨3,3⟩]
theorem rows_pure{f:FuncId}{a:List AV}{n:Nat}{s:List (List Int)}(hf:FunE Tryz.prog gs0 f a [] (fun p:Value×List (Value×List Int)=> .ms p.1 1 n) (fun p=>[.rows 1 (rowsH p.2), .row 1 p.1 (msL 1 (rowsH p.2))]) (fun p=>p.2.map Prod.snd=s)):
 Pure Tryz.prog gs0 f a (rowsA s):=
 Fun.rows (Fun.mono hf fun x Λ' ⟨p,h1,h2,h3⟩=>⟨p.1,rowsH p.2,n,h1,h2,by rw [sl_rows,h3]⟩)
def storeS(l:List KV):List (List Int):=if soundsB l then storeM l else []
theorem Put_p(s:List (List Int))(v i x:Int)(h1:s.length≤1073741824)(h2: ∀r,r∈s→r.length≤35184372088832):Pure Tryz.prog gs0 29 [rowsA s,AI v,AI i,AI32 x] (rowsA (putM s v i x)):=
 rows_pure (put_p s v i x h1 h2)
def goodN(l:List KV)(i:Nat):Bool:=(l.take i).all soundB
theorem good_succ{l:List KV}{i:Nat}{v:KV}(h:l[i]? =some v):goodN l (i+1)=(goodN l i&&soundB v):=by
 rw [goodN,List.take_add_one,h,List.all_append];simp [goodN]
theorem good_all(l:List KV):goodN l l.length= !l.any (fun v=> !soundB v):=by
 rw [goodN,List.take_length];induction l with
 |nil=>rfl
 |cons x r ih=>rw [List.all_cons,List.any_cons,ih];cases soundB x<;>simp
theorem bad_sound{l:List KV}{i:Nat}{v:KV}(hv:l[i]? =some v)(h:soundB v=false):soundsB l=false:=by
 have:(l.any fun v=> !soundB v)=true:=List.any_eq_true.2 ⟨v,List.mem_of_getElem? hv,by rw [h];rfl⟩
 rw [soundsB,this];simp
theorem rsound_p(l:List KV)(hb:l.length≤281474976710656):Pure Tryz.prog gs0 49 [varsA l] (AB (soundsB l)):=by
 have hl:((l.map encV).length:Int)=l.length:=by rw [List.length_map]
 by_cases h:l.length≤256
 case neg=>
  refine p_ tt_ok Tryz.func49 51 fun w0 h0 F hgs=>?_
  refine y_ ?_
  refine e_ 6 rfl (x':=AB true) (ab_eq (by simp;omega)) ?_;refine R_ ?_;refine Sb.eq (ab_eq ?_);simp [soundsB,h]
 refine p_ tt_ok Tryz.func49 51 fun w0 h0 F hgs=>?_
 refine y_ ?_
 refine e_ 6 rfl (x':=AB false) (ab_eq (by simp;omega)) ?_
 refine A.keep [0,3] rfl ?_
 refine A.loopP (ι:=Nat) (fun i=>(⟨[(0,varsA l),(3,AI (i:Int))],[]⟩,[])) (fun i=>i≤l.length∧goodN l i=true) (fun i=>l.length-i) 0 ⟨by omega,rfl⟩ rfl fun i hi ih=>?_
 refine y_ ?_
 refine k_ (fun hc=>?_) fun hc=>?_
 ·simp at hc
  refine Exists.elim (at_exN (l:=l) (i:=i) (by omega)) fun v hv=>?_
  refine y_ ?_
  refine j_ rfl (map_at hv) rfl ?_
  refine g_ ?_
  by_cases k1:v.kind=1
  ·refine e_ 19 rfl (x':=AB false) (ab_eq (by simp [k1])) ?_;(refine j_ rfl (map_at hv) rfl ?_;refine g_ ?_;refine A.split 43 rfl (fun hd=>?_) (fun hd=>?_);(simp at hd;(refine y_ ?_;refine R_ ?_;exact Sb.eq (ab_eq (bad_sound hv (by simp [soundB];omega)).symm)));simp at hd;refine i_ rfl (map_at hv) rfl ?_;refine k_ (fun he=>?_) fun he=>?_;(simp at he;(refine y_ ?_;refine R_ ?_;exact Sb.eq (ab_eq (bad_sound hv (by simp [soundB];omega)).symm)));simp at he;refine y_ ?_;refine A.valE 3 rfl (x':=AI ((i+1:Nat):Int)) (inc_eq i (by omega)) ?_;refine u_ (ih (i+1) ⟨by omega,?_⟩ (by omega));rw [good_succ hv,hi.2];simp [soundB];omega)
  refine A.valE 19 rfl (x':=AB true) (ab_eq (by simp [k1])) ?_
  refine j_ rfl (map_at hv) rfl ?_
  refine g_ ?_
  by_cases k2:v.kind=2
  ·refine e_ 27 rfl (x':=AB false) (ab_eq (by simp [k2])) ?_;(refine j_ rfl (map_at hv) rfl ?_;refine g_ ?_;refine A.split 43 rfl (fun hd=>?_) (fun hd=>?_);(simp at hd;(refine y_ ?_;refine R_ ?_;exact Sb.eq (ab_eq (bad_sound hv (by simp [soundB];omega)).symm)));simp at hd;refine i_ rfl (map_at hv) rfl ?_;refine k_ (fun he=>?_) fun he=>?_;(simp at he;(refine y_ ?_;refine R_ ?_;exact Sb.eq (ab_eq (bad_sound hv (by simp [soundB];omega)).symm)));simp at he;refine y_ ?_;refine A.valE 3 rfl (x':=AI ((i+1:Nat):Int)) (inc_eq i (by omega)) ?_;refine u_ (ih (i+1) ⟨by omega,?_⟩ (by omega));rw [good_succ hv,hi.2];simp [soundB];omega)
  refine A.valE 27 rfl (x':=AB true) (ab_eq (by simp [k2])) ?_
  refine j_ rfl (map_at hv) rfl ?_
  refine g_ ?_
  by_cases k3:v.kind=3
  ·refine A.valE 35 rfl (x':=AB false) (ab_eq (by simp [k3])) ?_
   (refine j_ rfl (map_at hv) rfl ?_;refine g_ ?_;refine A.split 43 rfl (fun hd=>?_) (fun hd=>?_);(simp at hd;(refine y_ ?_;refine R_ ?_;exact Sb.eq (ab_eq (bad_sound hv (by simp [soundB];omega)).symm)));simp at hd;refine i_ rfl (map_at hv) rfl ?_;refine k_ (fun he=>?_) fun he=>?_;(simp at he;(refine y_ ?_;refine R_ ?_;exact Sb.eq (ab_eq (bad_sound hv (by simp [soundB];omega)).symm)));simp at he;refine y_ ?_;refine A.valE 3 rfl (x':=AI ((i+1:Nat):Int)) (inc_eq i (by omega)) ?_;refine u_ (ih (i+1) ⟨by omega,?_⟩ (by omega));rw [good_succ hv,hi.2];simp [soundB];omega)
  refine A.valE 35 rfl (x':=AB true) (ab_eq (by simp [k3])) ?_
  (refine y_ ?_;refine R_ ?_;exact Sb.eq (ab_eq (bad_sound hv (by simp [soundB];omega)).symm))
 ·simp at hc
  have:i=l.length:=by omega
  subst this
  have h2:=hi.2
  rw [good_all] at h2
  refine y_ ?_;refine R_ ?_;refine Sb.eq (ab_eq ?_);rw [soundsB,h2,decide_eq_true h];rfl
theorem long_p(v:KV):Pure Tryz.prog gs0 50 [encV v] (AI (if v.dim=0 then 1 else v.dim)):=by
 refine p_ tt_ok Tryz.func50 8 fun w0 h0 F hgs=>?_
 (refine b_ fun bx=>?_;refine y_ ?_)
 refine k_ (fun hc=>?_) fun hc=>?_
 ·simp at hc;refine y_ ?_;refine R_ ?_;refine Sb.eq (ai_eq ?_);rw [if_pos hc]
 ·simp at hc;refine y_ ?_;refine R_ ?_;refine Sb.eq (ai_eq ?_);rw [if_neg hc]
theorem storeM_at{l:List KV}{i:Nat}{v:KV}(h:l[i]? =some v):((storeM l).take i).map rowA++[rowA (List.replicate (longI v).toNat 0)]=((storeM l).take (i+1)).map rowA:=by
 rw [List.take_add_one,storeM,List.getElem?_map,h];simp
theorem rSame_p(a b:List (List Int))(ha:short a):Pure Tryz.prog gs0 33 [rowsA a,rowsA b] (AB (sameB a b)):=by
 have ha1:=ha.1
 by_cases hlen:a.length=b.length
 case neg=>
  refine p_ tt_ok Tryz.func33 53 fun w0 h0 F hgs=>?_
  refine y_ ?_
  refine e_ 11 rfl (x':=AB true) (ab_eq (by simp;omega)) ?_;refine R_ ?_;refine Sb.eq (ab_eq ?_);simp [sameB,alikeB,hlen]
 refine p_ tt_ok Tryz.func33 53 fun w0 h0 F hgs=>?_
 refine y_ ?_
 refine e_ 11 rfl (x':=AB false) (ab_eq (by simp;omega)) ?_
 refine A.keep [0,1,5] rfl ?_
 refine A.loopP (ι:=Nat) (fun i=>(⟨[(0,rowsA a),(1,rowsA b),(5,AI (i:Int))],[]⟩,[])) (fun i=>i≤a.length∧allEq (alikeB (· == ·)) a b i=true) (fun i=>a.length-i) 0 ⟨by omega,rfl⟩ rfl fun i hi ih=>?_
 refine y_ ?_
 refine k_ (fun hc=>?_) fun hc=>?_
 ·simp at hc
  refine Exists.elim (at_exN (l:=a) (i:=i) (by omega)) fun x hx=>Exists.elim (at_exN (l:=b) (i:=i) (by omega)) fun y hy=>?_
  have hxl:=ha.2 x (List.mem_of_getElem? hx)
  have h1:=allEq_succ (alikeB (· == ·)) hx hy
  refine y_ ?_
  refine d_ 10 [0,1,2,3,4,5,6,7,8,9] [] ?_;refine iw_ rfl (map_at hx) rfl ?_;refine iw_ rfl (map_at hy) rfl ?_;refine WA.nil (l:=[]) rfl ?_
  refine A.entsEq (Λ':=[]) rfl ?_
  refine y_ ?_
  refine k_ (fun hc=>?_) fun hc=>?_
  ·simp at hc
   refine y_ ?_;refine R_ ?_;refine Sb.eq (ab_eq ?_)
   have h2:=allEq_le (f:=alikeB (· == ·)) (a:=a) (b:=b) (j:=i+1) (by rw [h1,alikeB,decide_eq_false (by omega)];simp) a.length (by omega)
   rw [sameB,alikeB,h2];simp
  ·simp at hc
   have hxy:x.length=y.length:=by omega
   refine y_ ?_
   refine A.keep [0,1,5,6] rfl ?_
   refine A.loopP (ι:=Nat) (fun j=>(⟨[(0,rowsA a),(1,rowsA b),(5,AI (i:Int)),(6,AI (j:Int))],[]⟩,[])) (fun j=>j≤x.length∧allEq (· == ·) x y j=true) (fun j=>x.length-j) 0 ⟨by omega,rfl⟩ rfl fun j hj jh=>?_
   refine y_ ?_
   refine i_ rfl (map_at hx) rfl ?_
   refine k_ (fun hc=>?_) fun hc=>?_
   ·rename_i hc0
    simp at hc
    refine Exists.elim (at_exN (l:=x) (i:=j) (by omega)) fun u hu=>Exists.elim (at_exN (l:=y) (i:=j) (by omega)) fun w hw=>?_
    have h3:=allEq_succ (· == ·) hu hw
    refine y_ ?_
    refine d_ 14 [0,1,2,3,4,5,6,7,8,9,10,11,12,13] [] ?_;refine iw_ rfl (map_at hx) rfl ?_;refine iw_ rfl (map_at hu) rfl ?_;refine iw_ rfl (map_at hy) rfl ?_;refine iw_ rfl (map_at hw) rfl ?_;refine WA.nil (l:=[]) rfl ?_
    refine A.entsEq (Λ':=[]) rfl ?_
    refine y_ ?_
    refine k_ (fun he=>?_) fun he=>?_
    ·simp at he
     refine y_ ?_;refine R_ ?_;refine Sb.eq (ab_eq ?_)
     have h4:=allEq_le (f:=(· == ·)) (a:=x) (b:=y) (j:=j+1) (by rw [h3];simp [he]) x.length (by omega)
     have h2:=allEq_le (f:=alikeB (· == ·)) (a:=a) (b:=b) (j:=i+1) (by rw [h1];simp [alikeB,h4]) a.length (by omega)
     rw [sameB,alikeB,h2];simp
    ·simp at he
     refine y_ ?_
     refine A.valE 6 rfl (x':=AI ((j+1:Nat):Int)) (inc_eq j (by omega)) ?_
     refine u_ (jh (j+1) ⟨by omega,by rw [h3];simp [hj.2,he]⟩ (by omega))
   ·simp at hc
    have hjl:j=x.length:=by omega
    have h4:=hj.2
    rw [hjl] at h4
    refine y_ ?_
    refine A.valE 5 rfl (x':=AI ((i+1:Nat):Int)) (inc_eq i (by omega)) ?_
    refine u_ (ih (i+1) ⟨by omega,by rw [h1,hi.2,alikeB,h4,decide_eq_true hxy];rfl⟩ (by omega))
 ·simp at hc
  have:i=a.length:=by omega
  subst this
  have h2:=hi.2
  refine y_ ?_;refine R_ ?_;refine Sb.eq (ab_eq ?_);rw [sameB,alikeB,h2,decide_eq_true hlen];rfl
theorem len_inc(hs:List (Value×List Int))(p:Value×List Int)(h:hs.length≤1073741824):AV.v (.int .i64 (IntKind.i64.wrap ((hs.length:Nat)+1:Int)))=AI ((hs++[p]).length:Nat):=by
 rw [inc_eq hs.length (by omega)];simp
theorem rows_snoc(hs:List (Value×List Int))(z:Value)(r:List Int):rowsH (hs++[(z,r)])=rowsH hs++[(z,r.map AI32)]:=by simp [rowsH]
theorem msL_snoc(sz:Nat)(hs:List (Value×List AV))(z:Value)(l:List AV):msL sz (hs++[(z,l)])=msL sz hs++[.ms z sz l.length]:=by simp [msL]
theorem rput_p(s:List (List Int))(v i x:Int)(h1:s.length≤1073741823)(h2: ∀r,r∈s→r.length≤35184372088832):
 FunE Tryz.prog gs0 32 [rowsA s,AI v,AI i,AI32 x] [] (fun p:Value×List (Value×List Int)=> .ms p.1 1 s.length) (fun p=>[.rows 1 (rowsH p.2), .row 1 p.1 (msL 1 (rowsH p.2))]) (fun p=>p.2.map Prod.snd=putM s v i x):=by
 unfold FunE
 have hl:((s.map rowA).length:Int)=s.length:=by rw [List.length_map]
 have hat:=rat_p s v i
 refine Fun.of (S:=tt) (fn:=Tryz.f32) (n:=45) tt_ok Tryz.func32 rfl rfl rfl rfl fun w0 h0 F hgs=>?_
 refine y_ ?_
 refine A.emptyRow 9 1 rfl fun z0=>?_
 refine A.rows0 1 ?_
 refine A.keep [0,1,2,3,9,10] rfl ?_
 refine A.loopP (ι:=Value×List (Value×List Int)) (fun p=>(⟨[(0,rowsA s),(1,AI v),(2,AI i),(3,AI32 x),(9, .ms p.1 1 p.2.length),(10,AI (p.2.length:Nat))],[]⟩,[.rows 1 (rowsH p.2), .row 1 p.1 (msL 1 (rowsH p.2))]))
  (fun p=>p.2.map Prod.snd=s.take p.2.length∧p.2.length≤s.length) (fun p=>s.length-p.2.length) (z0,[]) ⟨rfl,Nat.zero_le _⟩ rfl fun p hi ih=>?_
 obtain ⟨z,hs⟩:=p
 simp only at hi
 refine y_ ?_
 refine k_ (fun hc=>?_) fun hc=>?_
 ·simp at hc
  refine Exists.elim (at_exN (l:=s) (i:=hs.length) hc) fun r hr=>?_
  have hrl:=h2 r (List.mem_of_getElem? hr)
  have eNx:=len_inc hs
  refine y_ ?_
  refine i_ rfl (map_at hr) rfl ?_
  refine A.appendNewW rfl rfl rfl rfl rfl rfl rfl rfl rfl rfl rfl rfl rfl (by show (List.map AI32 _).length*1≤_;rw [List.length_map];omega) (by show (List.map AI32 _).length*1*4≤_;rw [List.length_map];omega) (fun x hx=>by cases hx) (row_one _) fun z2=>?_
  refine t_ fun bl=>?_
  have hm:=rowsH_len hs
  refine A.appendRowE rfl rfl rfl rfl rfl rfl rfl rfl rfl rfl rfl rfl rfl rfl (by show ((msL 1 (rowsH hs)).length+1)*1≤_;rw [hm];omega) (by show ((msL 1 (rowsH hs)).length+1)*1*24≤_;rw [hm];omega) fun z3=>?_
  refine A.rowsIn ((List.Perm.swap _ _ _).trans ((List.Perm.swap _ _ _).cons _)) ?_
  refine y_ ?_
  refine A.valE 9 rfl (x':= .ms z3 1 (hs++[(z2,r)]).length) ?_ ?_
  ·simp [msL,rowsH];rfl
  refine A.valE 10 rfl (x':=AI (((hs++[(z2,r)]).length:Nat):Int)) (eNx (z2,r) (by omega)) ?_
  refine A.entsEq (Λ':=[.rows 1 (rowsH (hs++[(z2,r)])), .row 1 z3 (msL 1 (rowsH (hs++[(z2,r)])))]) (by rw [rows_snoc,msL_snoc];rfl) ?_
  refine u_ (ih (z3,hs++[(z2,r)]) ⟨?_,by simp;omega⟩ (by simp;omega))
  simp [hi.1,List.take_add_one,hr]
 ·simp at hc
  have hlen:hs.length=s.length:=by omega
  have hsnd:hs.map Prod.snd=s:=by rw [hi.1,hlen,List.take_length]
  cases hv:atM s v i with
  |none=>
   rw [hv] at hat
   refine y_ ?_;refine c_ (hat) ?_
   refine A.valE 8 rfl (x':= .ms z 1 s.length) (by rw [←hlen]) ?_
   refine A.ret1 (Λ':=[.rows 1 (rowsH hs), .row 1 z (msL 1 (rowsH hs))]) rfl rfl rfl sl_ ⟨(z,hs), .refl,rfl,?_⟩
   show hs.map Prod.snd=_
   rw [hsnd,putM,hv];rfl
  |some y=>
   rw [hv] at hat
   have hneg: ¬(v<0∨i<0):=fun hh=>by rw [atM,if_pos hh] at hv;cases hv
   rw [atM,if_neg hneg] at hv
   refine Exists.elim (Option.bind_eq_some_iff.1 hv) fun r hr=>?_
   have hv2:(hs.map Prod.snd)[v.toNat]? =some r:=by rw [hsnd];exact hr.1
   rw [List.getElem?_map] at hv2
   refine Exists.elim (Option.map_eq_some_iff.1 hv2) fun p hp=>?_
   have hpl:(rowsH hs)[v.toNat]? =some (p.1,r.map AI32):=by rw [rowsH,List.getElem?_map,hp.1,←hp.2];rfl
   have hvl:v.toNat<hs.length:=(List.getElem?_eq_some_iff.1 hp.1).1
   have hrl:i.toNat<r.length:=(List.getElem?_eq_some_iff.1 hr.2).1
   refine y_ ?_;refine c_ (hat) ?_
   refine A.indexRow rfl rfl rfl rfl rfl rfl rfl rfl (by omega) (by rw [rowsH_len];show v<(hs.length:Int);omega) rfl ?_
   refine A.loadRow rfl rfl rfl rfl rfl rfl (y':= .ms p.1 1 (r.map AI32).length) rfl (by rw [msL,List.getElem?_map,hpl];rfl) rfl rfl ?_
   refine A.rowsOut v.toNat hpl (.refl _) ?_
   refine y_ ?_
   refine A.indexRow rfl rfl rfl rfl rfl rfl rfl rfl (by omega) (by rw [List.length_map];omega) rfl ?_
   refine A.storeRow rfl rfl rfl rfl rfl rfl rfl rfl rfl (by rw [List.length_map];omega) (xs':=(r.set i.toNat x).map AI32) List.map_set.symm ?_
   refine A.rowsBack (.refl _) ?_
   have hp2:p.2=r:=hp.2
   refine A.entsEq (Λ':=[.rows 1 (rowsH (hs.set v.toNat (p.1,r.set i.toNat x))), .row 1 z (msL 1 (rowsH (hs.set v.toNat (p.1,r.set i.toNat x))))]) (by rw [set_ms hp.1 _ (by rw [List.length_set,hp2]),set_rows hvl]) ?_
   refine y_ ?_
   refine A.valE 8 rfl (x':= .ms z 1 s.length) (by rw [←hlen]) ?_
   refine A.ret1 (Λ':=[.rows 1 (rowsH (hs.set v.toNat (p.1,r.set i.toNat x))), .row 1 z _]) rfl rfl rfl sl_ ⟨(z,hs.set v.toNat (p.1,r.set i.toNat x)), .refl,rfl,?_⟩
   show (hs.set v.toNat (p.1,r.set i.toNat x)).map Prod.snd=putM s v i x
   rw [List.map_set,hsnd,putM,atM,if_neg hneg,hv,hr.1];rfl
theorem rPut_p(s:List (List Int))(v i x:Int)(h1:s.length≤1073741823)(h2: ∀r,r∈s→r.length≤35184372088832):Pure Tryz.prog gs0 32 [rowsA s,AI v,AI i,AI32 x] (rowsA (putM s v i x)):=
 rows_pure (rput_p s v i x h1 h2)
theorem alike_refl{α:Type}{f:α→α→Bool}(hf: ∀x,f x x=true)(a:List α):alikeB f a a=true:=by
 unfold alikeB allEq
 simp only [decide_true,Bool.true_and,List.all_eq_true]
 intro k _
 cases a[k]? with
 |none=>rfl
 |some x=>exact hf x
theorem same_refl(a:List (List Int)):sameB a a=true:=alike_refl (fun x=>alike_refl (fun y=>by simp) x) a
theorem tmod_nat{v:Int}(n:Nat)(h:0≤v):v.tmod n=((v.toNat % n:Nat):Int):=by
 rw [Int.tmod_eq_emod_of_nonneg h,Int.natCast_emod,Int.toNat_of_nonneg h]
theorem atM_nat(s:List (List Int))(k j:Nat):atM s k j=(s[k]?).bind (·[j]?):=by
 unfold atM;rw [if_neg (by omega)];simp
theorem putM_at{s:List (List Int)}{k j:Nat}{r:List Int}{y:Int}(hr:s[k]? =some r)(hy:r[j]? =some y)(x:Int):putM s k j x=s.set k (r.set j x):=by
 rw [putM,atM_nat,hr];simp [hy,hr]
theorem putM_no{s:List (List Int)}{k j:Int}(h:atM s k j=none)(x:Int):putM s k j x=s:=by
 rw [putM,h];simp
theorem set_at{s:List (List Int)}{k j:Nat}{r:List Int}(hr:s[k]? =some r)(hj:j<r.length)(x:Int)(a b:Nat):atM (s.set k (r.set j x)) a b=if a=k∧b=j then some x else atM s a b:=by
 have hk:=(List.getElem?_eq_some_iff.1 hr).1
 rw [atM_nat,atM_nat,List.getElem?_set]
 by_cases h1:k=a
 ·subst h1
  rw [if_pos rfl,if_pos hk,hr]
  simp only [Option.bind_some,List.getElem?_set]
  by_cases h2:j=b
  ·subst h2;simp [hj]
  ·simp [h2,Ne.symm h2]
 ·simp [h1,Ne.symm h1]
theorem putM_len(s:List (List Int))(v i x:Int):(putM s v i x).length=s.length:=by
 unfold putM
 split
 ·split
  ·rw [List.length_set]
  ·rfl
 ·rfl
theorem rStore_pN(l:List KV)(ch:List Int)(q:PR)(pr:List Int)(hb:l.length≤281474976710656):Pure Tryz.prog gs0 26 [encN ⟨l,ch,q,pr⟩] (rowsA (storeS l)):=by
 have hp:=rsound_p l hb
 have hl:((l.map encV).length:Int)=l.length:=by rw [List.length_map]
 cases hs:soundsB l with
 |false=>
  rw [storeS,hs]
  rw [hs] at hp
  refine p_ tt_ok Tryz.func26 27 fun w0 h0 F hgs=>?_
  (refine b_ fun bx=>?_;refine y_ ?_);refine c_ (hp) ?_;refine R_ ?_;exact .nil
 |true=>
  have hs0:=hs
  unfold soundsB at hs0
  simp at hs0
  rw [hs] at hp
  have hst:storeS l=storeM l:=by rw [storeS,hs,if_pos rfl]
  rw [hst]
  refine p_ tt_ok Tryz.func26 27 fun w0 h0 F hgs=>?_
  (refine b_ fun bx=>?_;refine y_ ?_);refine n_ (hp) ?_
  refine A.freeze 1 rfl (sz:=11) rfl rfl ?_
  refine y_ ?_
  refine A.nilTail 3 1 rfl ?_
  refine A.keep [1,3,4] rfl ?_
  refine A.loopP (ι:=Nat×Value) (fun p=>(⟨[(1, .pe 11 (encN ⟨l,ch,q,pr⟩)),(3, .sl 1 (((storeM l).take p.1).map rowA) (some p.2)),(4,AI (p.1:Nat))],[]⟩,[.tail 1 p.2])) (fun p=>p.1≤l.length) (fun p=>l.length-p.1) (0, .slice none 0 0) (Nat.zero_le _) rfl fun p hi ih=>?_
  refine y_ ?_
  refine k_ (fun hc=>?_) fun hc=>?_
  ·simp at hc
   refine Exists.elim (at_exN (l:=l) (i:=p.1) (by omega)) fun v hv=>?_
   have hvm:=hs0.2 v (List.mem_of_getElem? hv)
   simp [soundB] at hvm
   have hlo:1≤longI v∧longI v≤64:=by unfold longI;split<;>omega
   refine y_ ?_
   refine i_ rfl (map_at hv) rfl ?_
   refine n_ (long_p v) ?_
   refine A.valE 22 rfl (x':=AI (longI v)) (ai_eq (by unfold longI;split<;>split<;>omega)) ?_
   refine A.make rfl rfl rfl rfl rfl rfl rfl rfl rfl rfl rfl rfl (by omega) ?_ (by omega) fun z=>?_
   ·show ((4:Nat):Int)*_≤_
    omega
   refine A.freezeRow 23 rfl ?_
   refine A.valE 23 rfl (x':=rowA (List.replicate (longI v).toNat 0)) (by rw [rowA,List.map_replicate];rfl) ?_
   refine t_ fun bl=>?_
   have hln:(((storeM l).take p.1).map rowA).length≤256:=by rw [List.length_map,List.length_take,storeM,List.length_map];omega
   refine A.entsEq (Λ':=[.tail ty72.size p.2]) rfl ?_
   refine A.append rfl rfl rfl rfl rfl rfl rfl rfl rfl rfl rfl rfl rfl rfl (by show ((List.map rowA _).length+1)*1≤_;omega) fun z'=>?_
   refine e_ 25 rfl (x':= .sl 1 (((storeM l).take (p.1+1)).map rowA) (some z')) (by rw [←storeM_at hv];rfl) ?_
   refine A.valE 4 rfl (x':=AI ((p.1+1:Nat):Int)) (inc_eq p.1 (by omega)) ?_
   refine u_ (ih (p.1+1,z') (by show p.1+1≤_;omega) (by show l.length-(p.1+1)<_;omega))
  ·simp at hc
   have:p.1=l.length:=by omega
   refine y_ ?_;refine R_ ?_
   refine Sb.own ?_
   rw [this,List.take_of_length_le (by rw [storeM,List.length_map];exact Nat.le_refl _)]
   exact .refl
abbrev hasG(v i:Int)(x:EL):Bool:=decide (x.1=v)&&(decide (x.2=i)||decide (x.2= -1))
def hasM(l:List EL)(v i:Int):Bool:=l.any (hasG v i)
def Cov(z:EL)(v i:Int):Prop:=z.1=v∧(z.2=i∨z.2= -1)
theorem rd_sameS{s t:List (List Int)}{vs:List KV}{S:Int→Int→Prop}(hk: ∀v i,¬S v i→atM s v i=atM t v i): ∀(N:Nat) (e:KE),ht e≤N→fine e=true→(∀z,z∈rdK vs e→ ∀v i,Cov z v i→ ¬S v i)→valM s e=valM t e
 |0,e,hn,_,_=>by rw [ht_eq] at hn;omega
 |N+1,e,hn,hf,hu=>by
  rcases fine_cases hf with ⟨n,rfl⟩|⟨v,h1,h2,rfl⟩|⟨v,c,h1,h2,h3,rfl⟩|⟨o,c,h1,h2,h3,rfl⟩|⟨o,c,d,h1,h2,h3,h4,rfl⟩|⟨t',c,h1,h2,h3,rfl⟩
  ·simp [valM,valMl,combM]
  ·have:=hu (v,0) (by simp [rdK,ownK,KE.kind,KE.v,rdKl])
   simp [valM,valMl,combM];exact hk v 0 (this v 0 ⟨rfl, .inl rfl⟩)
  ·rw [ht,htl,htl] at hn
   have ih:=rd_sameS hk N c (by omega) h3 (fun z hz=>hu z (by rw [rdK,rdKl,rdKl,List.append_nil];exact List.mem_append_right _ hz))
   have hel:=hu (elemM vs v c) (by rw [rdK];exact List.mem_append_left _ (by rw [own_3];exact List.mem_singleton.2 rfl))
   simp only [valM,valMl,ih]
   unfold combM
   cases hc:valM t c with
   |none=>rfl
   |some x=>
    have key:atM s v x=atM t v x:=hk v x (hel v x (by
     unfold elemM
     split
     ·rename_i hn2
      refine ⟨rfl, .inl ?_⟩
      show c.n=x
      obtain ⟨k',o',t',n',v',l'⟩:=c
      have h1':k'=1:=hn2.1
      subst h1'
      simp only [valM,combM,if_true] at hc
      injection hc
     ·exact ⟨rfl, .inr rfl⟩))
    simp [key]
  ·rw [ht,htl,htl] at hn
   have ih:=rd_sameS hk N c (by omega) h3 (fun z hz=>hu z (by rw [rdK,rdKl,rdKl,List.append_nil];exact List.mem_append_right _ hz))
   simp only [valM,valMl,ih]
   unfold combM
   cases valM t c with
   |none=>rfl
   |some x=>simp
  ·rw [ht,htl,htl,htl] at hn
   have iha:=rd_sameS hk N c (by omega) h3 (fun z hz=>hu z (by rw [rdK,rdKl,rdKl,rdKl,List.append_nil];exact List.mem_append_right _ (List.mem_append_left _ hz)))
   have ihb:=rd_sameS hk N d (by omega) h4 (fun z hz=>hu z (by rw [rdK,rdKl,rdKl,rdKl,List.append_nil];exact List.mem_append_right _ (List.mem_append_right _ hz)))
   simp only [valM,valMl,iha,ihb]
   unfold combM
   cases valM t c with
   |none=>rfl
   |some x=>simp
  ·rw [ht,htl,htl] at hn
   have ih:=rd_sameS hk N c (by omega) h3 (fun z hz=>hu z (by rw [rdK,rdKl,rdKl,List.append_nil];exact List.mem_append_right _ hz))
   simp only [valM,valMl,ih]
   unfold combM
   cases valM t c with
   |none=>rfl
   |some x=>simp
theorem rd_same{s t:List (List Int)}{vs:List KV}{a b:Int}(hk: ∀v i,¬(v=a∧i=b)→atM s v i=atM t v i)(N:Nat)(e:KE)(h1:ht e≤N)(h2:fine e=true)(h3: ∀z,z∈rdK vs e→ ¬(z.1=a∧(z.2=b∨z.2= -1))):valM s e=valM t e:=
 rd_sameS (S:=fun v i=>v=a∧i=b) hk N e h1 h2 fun z hz v i hc ⟨e1,e2⟩=>h3 z hz (by subst e1;subst e2;exact hc)
theorem put_other{s:List (List Int)}{a b:Nat}{r:List Int}(hr:s[a]? =some r)(hb:b<r.length)(x:Int)(v i:Int)(h: ¬(v=a∧i=b)):atM s v i=atM (putM s a b x) v i:=by
 rw [putM_at hr (List.getElem?_eq_getElem hb)]
 by_cases h0:v<0∨i<0
 ·unfold atM;rw [if_pos h0,if_pos h0]
 ·have e1:v=(v.toNat:Nat):=by omega
  have e2:i=(i.toNat:Nat):=by omega
  rw [e1,e2,set_at hr hb,if_neg (by intro h';exact h (by omega))]
theorem store_row{l:List KV}{r:List Int}(h:r∈storeS l):1≤r.length∧r.length≤64∧ ∀x,x∈r→x=0:=by
 unfold storeS at h
 split at h
 ·rename_i hs
  obtain ⟨v,hv,rfl⟩:=List.mem_map.1 h
  have:soundB v=true:=by
   simp only [soundsB,Bool.and_eq_true,Bool.not_eq_true',List.any_eq_false,Bool.not_eq_true,Bool.not_eq_false'] at hs
   simpa using hs.2 v hv
  simp only [soundB,Bool.and_eq_true,decide_eq_true_eq] at this
  rw [List.length_replicate]
  refine ⟨?_,?_,fun x hx=>List.eq_of_mem_replicate hx⟩<;>(unfold longI;split<;>omega)
 ·cases h
theorem store_len(l:List KV):(storeS l).length≤256:=by
 unfold storeS
 split
 ·rename_i hs
  simp only [soundsB,Bool.and_eq_true,decide_eq_true_eq] at hs
  rw [storeM,List.length_map];exact hs.1
 ·simp
theorem store_wf(l:List KV):wfS (storeS l):=fun r hr x hx=>by rw [(store_row hr).2.2 x hx];unfold i32;omega
abbrev aftR(e:KE):PR:=⟨8,0,0,0,[],[e],[],[]⟩
theorem aft_uses(vs:List KV)(e:KE):usesM vs (aftR e)=⟨canE (rdK vs e),[],[],[]⟩:=by
 simp [usesM,canU,rawR,ownU,plsU,RU.add,RU.nil,rdKl,rawRl,rawGl,canE,canI,insAll]
theorem aft_wf{e:KE}(h:wfK e):wfR (aftR e):=by
 rw [wfR,wfGl,wfRl,wfKl,wfKl];exact ⟨⟨(fun t ht=>by cases ht),⟨h,trivial⟩,by simp,by simp,by simp⟩,trivial,trivial⟩
theorem aft_valid{k:KN}{e:KE}(h:ofOk k (aftR e)=true):valid e:=by
 rw [ofOk,Bool.and_eq_true] at h
 have h1:=(may_wf h.2).1
 rw [okR_eq,Bool.and_eq_true,Bool.and_eq_true,Bool.and_eq_true] at h1
 obtain ⟨kd,hk⟩:=(kind_node h1.1.1.1).e e (List.mem_singleton.2 rfl)
 simp only [fitV,Bool.and_eq_true,decide_eq_true_eq] at hk
 exact hk.1
theorem put_in{s:List (List Int)}(hs:wfS s){x:Int}(hx:i32 x)(v i:Int):wfS (putM s v i x):=by
 intro q hq y hy
 unfold putM at hq
 split at hq
 ·split at hq
  ·rename_i r hr
   rcases List.mem_or_eq_of_mem_set hq with hq|rfl
   ·exact hs q hq y hy
   ·rcases List.mem_or_eq_of_mem_set hy with hy|rfl
    ·exact hs r (List.mem_of_getElem? hr) y hy
    ·exact hx
  ·exact hs q hq y hy
 ·exact hs q hq y hy
theorem lhas_p(l:List EL)(v w:Int)(hl:l.length≤1000000):Pure Tryz.prog gs0 27 [elL l,AI v,AI w] (AB (hasM l v w)):=by
 have n1:((l.map encE).length:Int)=l.length:=by rw [List.length_map]
 refine p_ tt_ok Tryz.func27 31 fun w0 h0 F hgs=>?_
 refine y_ ?_
 refine A.valE 10 rfl (x':=AI (l.length:Nat)) (ai_eq n1) ?_
 refine A.keep [1,2,9,10,11] rfl ?_
 refine A.loopP (ι:=Nat) (fun i=>(⟨[(1,AI v),(2,AI w),(9,elL l),(10,AI (l.length:Nat)),(11,AI (i:Nat))],[]⟩,[])) (fun i=>i≤l.length∧((l.take i).any (hasG v w))=false) (fun i=>l.length-i) 0 ⟨Nat.zero_le _,by simp⟩ rfl fun i hs ih=>?_
 obtain ⟨hs1,h1⟩:=hs
 simp only at ih⊢
 refine y_ ?_
 refine k_ (fun hc=>?_) fun hc=>?_
 rotate_left
 ·have hil:i=l.length:=by
   have: ¬((i:Int)<(l.length:Nat)):=of_decide_eq_false hc
   omega
  rw [hil,List.take_length] at h1
  clear hc ih
  refine y_ ?_
  refine R_ ?_
  rw [show hasM l v w=false from h1]
  exact .refl
 have hci:i<l.length:=Int.ofNat_lt.1 (of_decide_eq_true hc)
 clear hc
 refine Exists.elim (at_exN (l:=l) (i:=i) hci) fun x hx=>?_
 have hxa:(l.map encE)[i]? =some (encE x):=by rw [List.getElem?_map,hx];rfl
 refine y_ ?_
 refine i_ rfl hxa rfl ?_
 refine A.b rfl fun b8=>?_
 refine y_ ?_
 by_cases c1:x.1=v
 case neg=>
  refine A.valE 19 rfl (x':=AB false) (ab_eq (by simpa using c1)) ?_
  (refine y_ ?_;refine A.less (Λ':=[]) (List.nil_sublist _) ?_;refine A.valE 11 rfl (x':=AI ((i+1:Nat):Int)) (inc_eq i (by omega)) ?_;refine u_ (ih (i+1) ⟨by show i+1≤_;omega,any_take hx h1 (by simp [hasG, *])⟩ (by show l.length-(i+1)<l.length-i;omega)))
 refine e_ 19 rfl (x':=AB true) (ab_eq (by simpa using c1)) ?_
 by_cases c2:x.2=w
 ·refine A.valE 24 rfl (x':=AB true) (ab_eq (by simpa using c2)) ?_
  (refine y_ ?_;refine R_ ?_;rw [show hasM l v w=true from List.any_eq_true.2 ⟨x,List.mem_of_getElem? hx,by simp [*]⟩];exact .refl)
 refine e_ 24 rfl (x':=AB false) (ab_eq (by simpa using c2)) ?_
 by_cases c3:x.2= -1
 ·refine A.valE 29 rfl (x':=AB true) (ab_eq (by simpa using c3)) ?_
  (refine y_ ?_;refine R_ ?_;rw [show hasM l v w=true from List.any_eq_true.2 ⟨x,List.mem_of_getElem? hx,by simp [*]⟩];exact .refl)
 refine A.valE 29 rfl (x':=AB false) (ab_eq (by simpa using c3)) ?_
 (refine y_ ?_;refine A.less (Λ':=[]) (List.nil_sublist _) ?_;refine A.valE 11 rfl (x':=AI ((i+1:Nat):Int)) (inc_eq i (by omega)) ?_;refine u_ (ih (i+1) ⟨by show i+1≤_;omega,any_take hx h1 (by simp [hasG, *])⟩ (by show l.length-(i+1)<l.length-i;omega)))
theorem reads21_law(k:KN)(e:KE)(v i x:Int)(hk:WfN k)(hw:wfK e)(hv:u8 v)(hi:u8 i)(hx:i32 x):Pure Tryz.prog gs0 8 [encN k,encK e,AU8 v,AU8 i,AI32 x] (AB true):=by
 have ha:=awake21
 have h1:=uOf_p k (aftR e) hk (aft_wf hw)
 have h2:=rStore_pN k.vars k.chans k.root k.procs hk.vars
 have hsl0:=store_len k.vars
 have hs:=store_wf k.vars
 have hrow: ∀r,r∈storeS k.vars→1≤r.length∧r.length≤64∧ ∀x,x∈r→x=0:=fun r hr=>store_row hr
 generalize storeS k.vars=s at h2 hsl0 hs hrow
 have hsl:((s.map rowA).length:Int)=s.length:=by rw [List.length_map]
 rw [encK_eq]
 by_cases c1:ofOk k (aftR e)=true
 case neg=>
  rw [of_no (by simpa using c1)] at h1
  refine p_ tt_ok Tryz.func8 98 fun w0 h0 F hgs=>?_
  refine y_ ?_
  refine A.b rfl fun b5=>?_
  refine A.b rfl fun b6=>?_
  (refine t_ fun bl=>?_;refine y_ ?_)
  refine A.c rfl h1 (.cons .refl (.cons (by show Sb _ (.ag [AU8 8,AI 0,AI 0,AU8 0, .sl 2 [] none, .sl 6 [encK e] none, .sl 18 [] none, .sl 8 [] none]);rw [encK_eq e];exact s_) .refl)) ?_
  (refine b_ fun bx=>?_;refine y_ ?_)
  refine c_ h2 ?_
  exact cr_ ha
 have hval:=aft_valid c1
 rw [of_yes c1,aft_uses] at h1
 by_cases c2:s.length=0
 ·refine p_ tt_ok Tryz.func8 98 fun w0 h0 F hgs=>?_
  refine y_ ?_
  refine A.b rfl fun b5=>?_
  refine A.b rfl fun b6=>?_
  (refine t_ fun bl=>?_;refine y_ ?_)
  refine A.c rfl h1 (.cons .refl (.cons (by show Sb _ (.ag [AU8 8,AI 0,AI 0,AU8 0, .sl 2 [] none, .sl 6 [encK e] none, .sl 18 [] none, .sl 8 [] none]);rw [encK_eq e];exact s_) .refl)) ?_
  (refine b_ fun bx=>?_;refine y_ ?_)
  refine c_ h2 ?_
  refine e_ 36 rfl (x':=AB true) (ab_eq (by rw [hsl,c2];rfl)) ?_
  exact cr_ ha
 have hka:v.toNat % s.length<s.length:=Nat.mod_lt _ (by omega)
 have eka:v.tmod s.length=((v.toNat % s.length:Nat):Int):=tmod_nat _ hv.1
 generalize v.toNat % s.length=a at hka eka
 have eA:arV BinOp.rem IntKind.i64 (IntKind.i64.wrap v) ((s.map rowA).length:Nat)=(a:Int):=by
  rw [hsl,wr64 v (by unfold u8 at hv;omega)];exact eka
 refine Exists.elim (at_exN (l:=s) (i:=a) hka) fun r hr=>?_
 have hra:(s.map rowA)[a]? =some (rowA r):=by rw [List.getElem?_map,hr];rfl
 have hrl:((r.map AI32).length:Int)=r.length:=by rw [List.length_map]
 obtain ⟨hr1,hr2,_⟩:=hrow r (List.mem_of_getElem? hr)
 have hkb:i.toNat % r.length<r.length:=Nat.mod_lt _ (by omega)
 have ekb:i.tmod r.length=((i.toNat % r.length:Nat):Int):=tmod_nat _ hi.1
 generalize i.toNat % r.length=b at hkb ekb
 have eB:arV BinOp.rem IntKind.i64 (IntKind.i64.wrap i) ((r.map AI32).length:Nat)=(b:Int):=by
  rw [hrl,wr64 i (by unfold u8 at hi;omega)];exact ekb
 have u1:=of_ok hk (aft_wf hw) c1
 rw [aft_uses] at u1
 have hrd:=u1.lens.1
 have h3:=lhas_p (canE (rdK k.vars e)) a b (by have:(canE (rdK k.vars e)).length≤16640:=hrd;omega)
 have h4:=Value_p s hs e hw
 have h5:=Put_p s a b x (by omega) (fun r hr=>by have:=(hrow r hr).2.1;omega)
 have h6:=Value_p (putM s a b x) (put_in hs hx a b) e hw
 rw [encK_eq] at h4 h6
 by_cases c3:hasM (canE (rdK k.vars e)) a b=true
 ·rw [c3] at h3
  refine p_ tt_ok Tryz.func8 98 fun w0 h0 F hgs=>?_
  refine y_ ?_
  refine A.b rfl fun b5=>?_
  refine A.b rfl fun b6=>?_
  (refine t_ fun bl=>?_;refine y_ ?_)
  refine A.c rfl h1 (.cons .refl (.cons (by show Sb _ (.ag [AU8 8,AI 0,AI 0,AU8 0, .sl 2 [] none, .sl 6 [encK e] none, .sl 18 [] none, .sl 8 [] none]);rw [encK_eq e];exact s_) .refl)) ?_
  (refine b_ fun bx=>?_;refine y_ ?_)
  refine c_ h2 ?_
  refine e_ 36 rfl (x':=AB false) (ab_eq (by rw [hsl];exact beq_eq_false_iff_ne.2 (by omega))) ?_
  refine A.divrem rfl rfl rfl rfl rfl rfl rfl (by rw [hsl];omega) ?_
  refine e_ 42 rfl (x':=AI (a:Nat)) (ai_eq eA) ?_
  refine i_ rfl hra rfl ?_
  refine A.divrem rfl rfl rfl rfl rfl rfl rfl (by rw [hrl];omega) ?_
  refine e_ 50 rfl (x':=AI (b:Nat)) (ai_eq eB) ?_
  refine c_ h3 ?_
  exact cr_ ha
 have c3:hasM (canE (rdK k.vars e)) a b=false:=by simpa using c3
 rw [c3] at h3
 have hsame:valueM (putM s a b x) e=valueM s e:=by
  unfold valueM
  rw [rd_same (vs:=k.vars) (a:=a) (b:=b) (put_other hr hkb x) _ e (Nat.le_refl _) hval.1 (fun z hz h=>by
   have:=List.any_eq_false.1 c3 z (mem_canE.2 hz)
   simp only [hasG,Bool.and_eq_true,Bool.or_eq_true,decide_eq_true_eq] at this
   exact this h)]
 rw [hsame] at h6
 generalize valueM s e=y at h4 h6
 refine p_ tt_ok Tryz.func8 98 fun w0 h0 F hgs=>?_
 refine y_ ?_
 refine A.b rfl fun b5=>?_
 refine A.b rfl fun b6=>?_
 (refine t_ fun bl=>?_;refine y_ ?_)
 refine A.c rfl h1 (.cons .refl (.cons (by show Sb _ (.ag [AU8 8,AI 0,AI 0,AU8 0, .sl 2 [] none, .sl 6 [encK e] none, .sl 18 [] none, .sl 8 [] none]);rw [encK_eq e];exact s_) .refl)) ?_
 (refine b_ fun bx=>?_;refine y_ ?_)
 refine c_ h2 ?_
 refine e_ 36 rfl (x':=AB false) (ab_eq (by rw [hsl];exact beq_eq_false_iff_ne.2 (by omega))) ?_
 refine A.divrem rfl rfl rfl rfl rfl rfl rfl (by rw [hsl];omega) ?_
 refine e_ 42 rfl (x':=AI (a:Nat)) (ai_eq eA) ?_
 refine i_ rfl hra rfl ?_
 refine A.divrem rfl rfl rfl rfl rfl rfl rfl (by rw [hrl];omega) ?_
 refine e_ 50 rfl (x':=AI (b:Nat)) (ai_eq eB) ?_
 refine c_ h3 ?_
 refine c_ h4 ?_
 refine d_ 11 [0,1,2,3,5,4,6,7,8,9,10] [(4,rowsA (putM s a b x)),(6,optA y)] ?_
 refine cw_ h5 ?_
 refine cw_ h6 ?_
 refine z_ ?_
 refine e_ 76 rfl (x':=AB true) (ab_eq (by simp)) ?_
 refine e_ 81 rfl (x':=AB true) (ab_eq (by simp)) ?_
 refine A.valE 95 rfl (x':=AB true) (ab_eq (by rfl)) ?_
 exact cr_ ha
end Go.Proofs.YtafcodjilcljeaaGreat
namespace Go.Proofs.YtafcodjilcljeaaGreat
open Go Go.Tp Go.ChangeShapes Go.WideShapes Go.ChangeAt Go.RowKit
section
variable{H:Type}{enc:TypeId×Value→H}{W:World}{base:Nat}
theorem argKE{v:Value}{d:DataW H}{p:List MemPlace}(hval:Value.okWide Tryz.prog W .any base 69 v)(h:DataW.Trod enc Tryz.prog W 0 (fun _=>true) true 69 v d p)(hw:Wt Tryz.prog 69 d):
 ∃e:KE,wfK e∧Rp (hOf W) (encK e) v:=by
 obtain ⟨k,h1,h2⟩:=arg_struct (fs:= #[⟨"Kind",66,0,false, "", "",0⟩,⟨"Oper",67,1,false, "", "",1⟩,⟨"To",25,2,false, "", "",2⟩,⟨"N",21,3,false, "", "",4⟩,⟨"V",3,4,false, "", "",8⟩,⟨"L",27,5,false, "", "",16⟩]) (by kernel_rfl) op_ke hval h hw
 exact ⟨k,h1,by rw [encK_eq];exact h2⟩
theorem argU8{v:Value}{d:DataW H}{p:List MemPlace}(hval:Value.okWide Tryz.prog W .any base 5 v)(h:DataW.Trod enc Tryz.prog W 0 (fun _=>true) true 5 v d p)(hw:Wt Tryz.prog 5 d): ∃n,u8 n∧Rp (hOf W) (AU8 n) v:=
 arg_int (by kernel_rfl) (fun n=>Opn.u8 (by kernel_rfl) n) hval h hw
theorem argI32{v:Value}{d:DataW H}{p:List MemPlace}(hval:Value.okWide Tryz.prog W .any base 21 v)(h:DataW.Trod enc Tryz.prog W 0 (fun _=>true) true 21 v d p)(hw:Wt Tryz.prog 21 d): ∃n,i32 n∧Rp (hOf W) (AI32 n) v:=
 arg_int (by kernel_rfl) (fun n=>Opn.i32 (by kernel_rfl) n) hval h hw
theorem op_row21(n:Nat){sp:Nat→Bool}{hd:Bool}:Opn enc Tryz.prog W base sp hd (n+1) 72 (fun l=>[rowA l]) (fun l:List Int=>(∀x,x∈l→i32 x)∧l.length*4≤reachBytes):=
 Opn.slice1 (bt:=4) (by kernel_rfl) (by kernel_rfl) (by kernel_rfl) (Opn.i32 (t:=21) (by kernel_rfl) n)
theorem argI32s{v:Value}{d:DataW H}{p:List MemPlace}(hval:Value.okWide Tryz.prog W .any base 72 v)(h:DataW.Trod enc Tryz.prog W 0 (fun _=>true) true 72 v d p)(hw:Wt Tryz.prog 72 d):
 ∃l:List Int,((∀x,x∈l→i32 x)∧l.length≤35184372088832)∧Rp (hOf W) (rowA l) v:=by
 obtain ⟨l,⟨h1,h2⟩,h3⟩:=arg_slice (e:=21) (t:=72) (en:=fun l:List Int=>rowA l) (by kernel_rfl) (fun n=>(op_row21 n).mono (Nat.le_succ n)) hval h hw
 unfold reachBytes at h2
 exact ⟨l,⟨h1,by omega⟩,h3⟩
theorem argVars{v:Value}{d:DataW H}{p:List MemPlace}(hval:Value.okWide Tryz.prog W .any base 22 v)(h:DataW.Trod enc Tryz.prog W 0 (fun _=>true) true 22 v d p)(hw:Wt Tryz.prog 22 d):
 ∃l:List KV,l.length≤281474976710656∧Rp (hOf W) (varsA l) v:=
 arg_slice (e:=81) (t:=22) (en:=fun l:List KV=>varsA l) (by kernel_rfl) op_vars hval h hw
theorem argProcs{v:Value}{d:DataW H}{p:List MemPlace}(hval:Value.okWide Tryz.prog W .any base 29 v)(h:DataW.Trod enc Tryz.prog W 0 (fun _=>true) true 29 v d p)(hw:Wt Tryz.prog 29 d):
 ∃l:List PR,((∀t,t∈l→wfR t)∧l.length≤281474976710656)∧Rp (hOf W) (rsA l) v:=
 arg_slice (e:=31) (t:=29) (en:=fun l:List PR=>rsA l) (by kernel_rfl) (fun n=>op_prs (op_pr n)) hval h hw
end
theorem trodAll_five{H:Type}{enc:TypeId×Value→H}{P:Program}{w:World}{base:Nat}{spare:Nat→Bool}{held:Bool}{t0 t1 t2 t3 t4:TypeId}{args:Array Value}{ds:List (DataW H)}{ps:List MemPlace}(h:DataW.TrodAll enc P w base spare held [t0,t1,t2,t3,t4] args.toList ds ps):
 ∃v0 v1 v2 v3 v4 d0 d1 d2 d3 d4 p0 p1 p2 p3 p4,args= #[v0,v1,v2,v3,v4]∧ds=[d0,d1,d2,d3,d4]∧ps=p0++p1++p2++p3++p4∧DataW.Trod enc P w base spare held t0 v0 d0 p0∧DataW.Trod enc P w base spare held t1 v1 d1 p1∧DataW.Trod enc P w base spare held t2 v2 d2 p2∧DataW.Trod enc P w base spare held t3 v3 d3 p3∧DataW.Trod enc P w base spare held t4 v4 d4 p4:=by
 obtain ⟨v,vs,d,ds1,p,q,hargs,rfl,rfl,hd,hrest⟩:=trodAll_cons h
 obtain ⟨v1,vs1,d1,ds2,p1,q1,rfl,rfl,rfl,hd1,hrest1⟩:=trodAll_cons hrest
 obtain ⟨v2,vs2,d2,ds3,p2,q2,rfl,rfl,rfl,hd2,hrest2⟩:=trodAll_cons hrest1
 obtain ⟨v3,vs3,d3,ds4,p3,q3,rfl,rfl,rfl,hd3,hrest3⟩:=trodAll_cons hrest2
 obtain ⟨v4,vs4,d4,ds5,p4,q4,rfl,rfl,rfl,hd4,hrest4⟩:=trodAll_cons hrest3
 obtain ⟨rfl,rfl,rfl⟩:=trodAll_nil hrest4
 exact ⟨v,v1,v2,v3,v4,d,d1,d2,d3,d4,p,p1,p2,p3,p4,by cases args;simp_all,rfl,by simp,hd,hd1,hd2,hd3,hd4⟩
end Go.Proofs.YtafcodjilcljeaaGreat
