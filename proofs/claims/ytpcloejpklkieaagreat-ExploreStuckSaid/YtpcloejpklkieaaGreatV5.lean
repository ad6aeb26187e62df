/-
  Texts Q16e Q16f Q16g Q16h Q16i Q16j Q16k Q16l Q16m Q16n Q16o Q16p Q16q Q16r Q16s Q16t Q16u Q18a Q18b Q18c Q18d Q18e Q18f Q18g. Conditions: as each theorem says.
-/
import Derived.Test.YtpcloejpklkieaaGreatV3
import Derived.Test.YtpcloejpklkieaaGreatV4
set_option linter.unusedVariables false
set_option linter.unusedSimpArgs false
set_option maxRecDepth 100000
set_option maxHeartbeats 4000000
namespace Go.Proofs.YtpcloejpklkieaaGreat
open Go Go.Tp
abbrev chsA(ch:List Int):AV:= .sl 1 (ch.map AU8) none
abbrev ckA(l:List KV)(ch:List Int)(x:Nat→AV)(lf:Int):AV:= .ag [varsA l,chsA ch,x 0,x 1,x 2,x 3,x 4,x 5,x 6,x 7,x 8,AI lf]
abbrev ckP(l:List KV)(ch:List Int)(x:Nat→AV)(lf:Int):AV:= .pe 12 (ckA l ch x lf)
def VarsOk(l:List KV):Prop:= ∀y,y∈l→1≤y.kind∧y.kind≤3
theorem kF_eq{f g:FK}(h: ∀k,f k=g k):kF f=kF g:=by rw [show f=g from funext h]
theorem kF_none:kF (fun _=>false)=0:=rfl
theorem beq_c(a b:Int):(a==b)=(b==a):=by rw [Bool.eq_iff_iff];simp;exact eq_comm
theorem of12:ofI [1,2]=6:=by kernel_rfl
theorem kinds_p(l:List KV)(ch:List Int)(x:Nat→AV)(lf:Int)(hl:l.length≤281474976710656)(hv:VarsOk l): ∀(N:Nat) (e:KE),ht e≤N→fine e=true→Pure Tryz.prog gs0 173 [ckP l ch x lf,encK e] (AU64 (kF (fitsM l e)))
 |0,e,hn,_=>by rw [ht_eq] at hn;omega
 |N+1,e,hn,hf=>by
  have hlen:((l.map encV).length:Int)=l.length:=by rw [List.length_map]
  rcases fine_cases hf with ⟨n,rfl⟩|⟨v,h1,h2,rfl⟩|⟨v,a,h1,h2,h3,rfl⟩|⟨o,a,h1,h2,h3,rfl⟩|⟨o,a,b,h1,h2,h3,h4,rfl⟩|⟨t,a,h1,h2,h3,rfl⟩
  ·have hk:=knumber_p n
   simp only [encK,encKl]
   refine p_ tt_ok Tryz.func173 160 fun w0 h0 F hgs=>?_
   (refine b_ fun bx=>?_;refine y_ ?_)
   refine A.loop1 ?_
   refine y_ ?_;refine c_ hk ?_;refine R_ ?_
   refine Sb.eq (au64_eq (kF_eq fun k=>?_))
   simp [numF,fitsM,fitsL,fitC]
  ·simp only [encK,encKl]
   by_cases hvl:v<l.length
   ·refine Exists.elim (at_ex h1 hvl) fun y hy=>?_
    have hyk:=hv y (List.mem_of_getElem? hy)
    have hw:=when_p (y.dim==0) y.kind hyk
    refine p_ tt_ok Tryz.func173 160 fun w0 h0 F hgs=>?_
    (refine b_ fun bx=>?_;refine y_ ?_)
    refine A.loop1 ?_
    refine y_ ?_
    refine d_ 8 [0,1,2,3,4,5,6,7] [] ?_
    refine z_ ?_
    refine e_ 49 rfl (x':=AB true) (ab_eq (by rw [hlen];simp [hvl])) ?_
    refine d_ 22 [0,1,2,3,4,5,6,7,8,9,10,11,12,13,14,15,16,17,18,19,20,21] [] ?_
    refine WA.x rfl h1 (map_at hy) rfl rfl ?_
    refine w_ ?_
    refine WA.x rfl h1 (map_at hy) rfl rfl ?_
    refine w_ ?_
    refine WA.nil (l:=[]) rfl ?_
    refine c_ hw ?_;refine R_ ?_;refine Sb.eq (au64_eq (kF_eq fun k=>?_));simp [isF,fitsM,fitsL,fitC,hy,beq_c k]
   ·refine p_ tt_ok Tryz.func173 160 fun w0 h0 F hgs=>?_
    (refine b_ fun bx=>?_;refine y_ ?_)
    refine A.loop1 ?_
    refine y_ ?_
    refine d_ 8 [0,1,2,3,4,5,6,7] [] ?_
    refine z_ ?_
    refine e_ 49 rfl (x':=AB false) (ab_eq (by rw [hlen];simp;omega)) ?_;refine R_ ?_;refine Sb.eq (au64_eq ?_);rw [←kF_none];exact kF_eq fun k=>by simp [fitsM,fitsL,fitC,at_none (l:=l) (i:=v) (by omega)]
  ·rw [ht,htl,htl] at hn
   have ea:=encK_eq a
   have iha:=kinds_p l ch x lf hl hv N a (by omega) h3
   rw [ea] at iha
   simp only [encK,encKl]
   by_cases hvl:v<l.length
   ·refine Exists.elim (at_ex h1 hvl) fun y hy=>?_
    have hyk:=hv y (List.mem_of_getElem? hy)
    by_cases hd:0<y.dim
    ·have hw:=when_p (fitsM l a 1) y.kind hyk
     have hh:=has_p (kF (fitsM l a)) 1 (by decide)
     rw [has_1] at hh
     refine p_ tt_ok Tryz.func173 160 fun w0 h0 F hgs=>?_
     (refine b_ fun bx=>?_;refine y_ ?_)
     refine A.loop1 ?_
     refine y_ ?_
     refine j_ rfl rfl ea ?_
     (refine b_ fun bx=>?_;refine y_ ?_)
     refine n_ iha ?_
     refine t_ fun bl=>?_
     refine A.append0 rfl rfl rfl rfl rfl rfl rfl rfl rfl rfl rfl rfl rfl rfl (by show (0+1)*1≤_;decide) fun z=>?_
     refine y_ ?_
     refine A.valE 27 rfl (x':=AI 0) rfl ?_
     refine i_ rfl rfl rfl ?_
     refine A.valE 6 rfl (x':=AU64 (kF (fitsM l a))) (au64_eq (kS_ones _ _ _)) ?_
     refine A.again ?_
     refine y_ ?_
     refine d_ 8 [0,1,2,3,4,5,6,7] [] ?_
     refine z_ ?_
     refine e_ 83 rfl (x':=AB true) (ab_eq (by rw [hlen];simp [hvl])) ?_
     refine d_ 26 [0,1,2,3,4,5,6,7,8,9,10,11,12,13,16,17,18,19,20,21,22,23,24,25,14,15] [(14,AB (fitsM l a 1))] ?_
     refine WA.x rfl h1 (map_at hy) rfl rfl ?_
     refine w_ ?_
     refine ew_ 96 rfl (x':=AB true) (ab_eq (by simpa using hd)) ?_
     refine WA.x rfl h1 (map_at hy) rfl rfl ?_
     refine w_ ?_
     refine cw_ hh ?_
     refine WA.nil (l:=[]) rfl ?_
     refine c_ hw ?_;refine R_ ?_;refine Sb.eq (au64_eq (kF_eq fun k=>?_));simp [isF,fitsM,fitsL,fitC,hy,beq_c k,hd];exact Bool.and_comm _ _
    ·have hw:=when_p false y.kind hyk
     refine p_ tt_ok Tryz.func173 160 fun w0 h0 F hgs=>?_
     (refine b_ fun bx=>?_;refine y_ ?_)
     refine A.loop1 ?_
     refine y_ ?_
     refine j_ rfl rfl ea ?_
     (refine b_ fun bx=>?_;refine y_ ?_)
     refine n_ iha ?_
     refine t_ fun bl=>?_
     refine A.append0 rfl rfl rfl rfl rfl rfl rfl rfl rfl rfl rfl rfl rfl rfl (by show (0+1)*1≤_;decide) fun z=>?_
     refine y_ ?_
     refine A.valE 27 rfl (x':=AI 0) rfl ?_
     refine i_ rfl rfl rfl ?_
     refine A.valE 6 rfl (x':=AU64 (kF (fitsM l a))) (au64_eq (kS_ones _ _ _)) ?_
     refine A.again ?_
     refine y_ ?_
     refine d_ 8 [0,1,2,3,4,5,6,7] [] ?_
     refine z_ ?_
     refine e_ 83 rfl (x':=AB true) (ab_eq (by rw [hlen];simp [hvl])) ?_
     refine d_ 26 [0,1,2,3,4,5,6,7,8,9,10,11,12,13,16,17,18,19,20,21,22,23,24,25,14,15] [(14,AB false)] ?_
     refine WA.x rfl h1 (map_at hy) rfl rfl ?_
     refine w_ ?_
     refine ew_ 96 rfl (x':=AB false) (ab_eq (by simpa using hd)) ?_
     refine WA.x rfl h1 (map_at hy) rfl rfl ?_
     refine w_ ?_
     refine WA.nil (l:=[]) rfl ?_
     refine c_ hw ?_;refine R_ ?_;refine Sb.eq (au64_eq (kF_eq fun k=>?_));simp [isF,fitsM,fitsL,fitC,hy,hd]
   ·refine p_ tt_ok Tryz.func173 160 fun w0 h0 F hgs=>?_
    (refine b_ fun bx=>?_;refine y_ ?_)
    refine A.loop1 ?_
    refine y_ ?_
    refine j_ rfl rfl ea ?_
    (refine b_ fun bx=>?_;refine y_ ?_)
    refine n_ iha ?_
    refine t_ fun bl=>?_
    refine A.append0 rfl rfl rfl rfl rfl rfl rfl rfl rfl rfl rfl rfl rfl rfl (by show (0+1)*1≤_;decide) fun z=>?_
    refine y_ ?_
    refine A.valE 27 rfl (x':=AI 0) rfl ?_
    refine i_ rfl rfl rfl ?_
    refine A.valE 6 rfl (x':=AU64 (kF (fitsM l a))) (au64_eq (kS_ones _ _ _)) ?_
    refine A.again ?_
    refine y_ ?_
    refine d_ 8 [0,1,2,3,4,5,6,7] [] ?_
    refine z_ ?_
    refine e_ 83 rfl (x':=AB false) (ab_eq (by rw [hlen];simp;omega)) ?_;refine R_ ?_;refine Sb.eq (au64_eq ?_);rw [←kF_none];exact kF_eq fun k=>by simp [fitsM,fitsL,fitC,at_none (l:=l) (i:=v) (by omega)]
  ·rw [ht,htl,htl] at hn
   have ea:=encK_eq a
   have iha:=kinds_p l ch x lf hl hv N a (by omega) h3
   rw [ea] at iha
   simp only [encK,encKl]
   by_cases ho:o=26
   ·subst ho
    have hw:=when_p (fitsM l a 3) 3 (by decide)
    have hh:=has_p (kF (fitsM l a)) 3 (by decide)
    rw [has_3] at hh
    refine p_ tt_ok Tryz.func173 160 fun w0 h0 F hgs=>?_
    (refine b_ fun bx=>?_;refine y_ ?_)
    refine A.loop1 ?_
    refine y_ ?_
    refine j_ rfl rfl ea ?_
    (refine b_ fun bx=>?_;refine y_ ?_)
    refine n_ iha ?_
    refine t_ fun bl=>?_
    refine A.append0 rfl rfl rfl rfl rfl rfl rfl rfl rfl rfl rfl rfl rfl rfl (by show (0+1)*1≤_;decide) fun z=>?_
    refine y_ ?_
    refine A.valE 27 rfl (x':=AI 0) rfl ?_
    refine i_ rfl rfl rfl ?_
    refine A.valE 6 rfl (x':=AU64 (kF (fitsM l a))) (au64_eq (kS_ones _ _ _)) ?_
    refine A.again ?_
    refine y_ ?_;refine n_ hh ?_
    refine c_ hw ?_;refine R_ ?_;refine Sb.eq (au64_eq (kF_eq fun k=>?_));simp [isF,fitsM,fitsL,fitC];exact Bool.and_comm _ _
   ·have hw:=when_p (fitsM l a 1) 1 (by decide)
    have hh:=has_p (kF (fitsM l a)) 1 (by decide)
    rw [has_1] at hh
    refine p_ tt_ok Tryz.func173 160 fun w0 h0 F hgs=>?_
    (refine b_ fun bx=>?_;refine y_ ?_)
    refine A.loop1 ?_
    refine y_ ?_
    refine j_ rfl rfl ea ?_
    (refine b_ fun bx=>?_;refine y_ ?_)
    refine n_ iha ?_
    refine t_ fun bl=>?_
    refine A.append0 rfl rfl rfl rfl rfl rfl rfl rfl rfl rfl rfl rfl rfl rfl (by show (0+1)*1≤_;decide) fun z=>?_
    refine y_ ?_
    refine A.valE 27 rfl (x':=AI 0) rfl ?_
    refine i_ rfl rfl rfl ?_
    refine A.valE 6 rfl (x':=AU64 (kF (fitsM l a))) (au64_eq (kS_ones _ _ _)) ?_
    refine A.again ?_
    (repeat (first|first|refine A.s rfl ?_|refine A.r rfl rfl ?_|refine A.w rfl rfl ?_|refine A.p rfl ?_|refine A.b rfl fun bx=>?_|refine A.t rfl fun bl=>?_|refine A.cond rfl (fun h=>(by simp at h;omega)) (fun _=>?_)|first|refine A.step rfl ?_|refine A.v rfl rfl ?_))
    refine n_ hh ?_
    refine c_ hw ?_;refine R_ ?_;refine Sb.eq (au64_eq (kF_eq fun k=>?_));simp [isF,fitsM,fitsL,fitC,ho];exact Bool.and_comm _ _
  ·rw [ht,htl,htl,htl] at hn
   have ea:=encK_eq a
   have eb:=encK_eq b
   have iha:=kinds_p l ch x lf hl hv N a (by omega) h3
   have ihb:=kinds_p l ch x lf hl hv N b (by omega) h4
   rw [ea] at iha
   rw [eb] at ihb
   simp only [encK,encKl]
   by_cases o14:o=14
   ·subst o14
    have hw:=when_p ((fitsM l a 1&&fitsM l b 1)||(fitsM l a 2&&fitsM l b 2)||(fitsM l a 3&&fitsM l b 3)) 3 (by decide)
    refine p_ tt_ok Tryz.func173 160 fun w0 h0 F hgs=>?_
    (refine b_ fun bx=>?_;refine y_ ?_)
    refine A.loop1 ?_
    refine y_ ?_
    refine j_ rfl rfl ea ?_
    (refine b_ fun bx=>?_;refine y_ ?_)
    refine n_ iha ?_
    refine t_ fun bl=>?_
    refine A.append0 rfl rfl rfl rfl rfl rfl rfl rfl rfl rfl rfl rfl rfl rfl (by show (0+1)*1≤_;decide) fun z=>?_
    refine y_ ?_
    refine A.valE 27 rfl (x':=AI 0) rfl ?_
    refine i_ rfl rfl rfl ?_
    refine A.valE 6 rfl (x':=AU64 (kF (fitsM l a))) (au64_eq (kS_ones _ _ _)) ?_
    refine A.again ?_
    refine y_ ?_
    refine j_ rfl rfl eb ?_
    (refine b_ fun bx=>?_;refine y_ ?_)
    refine n_ ihb ?_
    refine t_ fun bl=>?_
    refine A.append rfl rfl rfl rfl rfl rfl rfl rfl rfl rfl rfl rfl rfl rfl (by show (1+1)*1≤_;decide) fun z'=>?_
    refine y_ ?_
    refine A.valE 27 rfl (x':=AI 1) rfl ?_
    refine i_ rfl rfl rfl ?_
    refine A.valE 6 rfl (x':=AU64 (kS (fitsM l a 1&&fitsM l b 1) (fitsM l a 2&&fitsM l b 2) (fitsM l a 3&&fitsM l b 3))) (au64_eq (kS_and _ _ _ _ _ _)) ?_
    refine A.again ?_
    refine y_ ?_
    refine A.valE 128 rfl (x':=AB ((fitsM l a 1&&fitsM l b 1)||(fitsM l a 2&&fitsM l b 2)||(fitsM l a 3&&fitsM l b 3))) (ab_eq (kS_ne _ _ _)) ?_
    refine c_ hw ?_;refine R_ ?_;refine Sb.eq (au64_eq (kF_eq fun k=>?_));simp only [isF,fitsM,fitsL,fitC];by_cases hk:k=3<;>simp [hk]
   by_cases o15:o=15
   ·subst o15
    have hw:=when_p ((fitsM l a 1&&fitsM l b 1)||(fitsM l a 2&&fitsM l b 2)||(fitsM l a 3&&fitsM l b 3)) 3 (by decide)
    refine p_ tt_ok Tryz.func173 160 fun w0 h0 F hgs=>?_
    (refine b_ fun bx=>?_;refine y_ ?_)
    refine A.loop1 ?_
    refine y_ ?_
    refine j_ rfl rfl ea ?_
    (refine b_ fun bx=>?_;refine y_ ?_)
    refine n_ iha ?_
    refine t_ fun bl=>?_
    refine A.append0 rfl rfl rfl rfl rfl rfl rfl rfl rfl rfl rfl rfl rfl rfl (by show (0+1)*1≤_;decide) fun z=>?_
    refine y_ ?_
    refine A.valE 27 rfl (x':=AI 0) rfl ?_
    refine i_ rfl rfl rfl ?_
    refine A.valE 6 rfl (x':=AU64 (kF (fitsM l a))) (au64_eq (kS_ones _ _ _)) ?_
    refine A.again ?_
    refine y_ ?_
    refine j_ rfl rfl eb ?_
    (refine b_ fun bx=>?_;refine y_ ?_)
    refine n_ ihb ?_
    refine t_ fun bl=>?_
    refine A.append rfl rfl rfl rfl rfl rfl rfl rfl rfl rfl rfl rfl rfl rfl (by show (1+1)*1≤_;decide) fun z'=>?_
    refine y_ ?_
    refine A.valE 27 rfl (x':=AI 1) rfl ?_
    refine i_ rfl rfl rfl ?_
    refine A.valE 6 rfl (x':=AU64 (kS (fitsM l a 1&&fitsM l b 1) (fitsM l a 2&&fitsM l b 2) (fitsM l a 3&&fitsM l b 3))) (au64_eq (kS_and _ _ _ _ _ _)) ?_
    refine A.again ?_
    refine y_ ?_
    refine A.valE 128 rfl (x':=AB ((fitsM l a 1&&fitsM l b 1)||(fitsM l a 2&&fitsM l b 2)||(fitsM l a 3&&fitsM l b 3))) (ab_eq (kS_ne _ _ _)) ?_
    refine c_ hw ?_;refine R_ ?_;refine Sb.eq (au64_eq (kF_eq fun k=>?_));simp only [isF,fitsM,fitsL,fitC];by_cases hk:k=3<;>simp [hk]
   by_cases o16:o=16
   ·subst o16
    have hw:=when_p ((fitsM l a 1&&fitsM l b 1)||(fitsM l a 2&&fitsM l b 2)) 3 (by decide)
    have ho2:=of_p [1,2] (by decide) (by decide)
    rw [of12] at ho2
    refine p_ tt_ok Tryz.func173 160 fun w0 h0 F hgs=>?_
    (refine b_ fun bx=>?_;refine y_ ?_)
    refine A.loop1 ?_
    refine y_ ?_
    refine j_ rfl rfl ea ?_
    (refine b_ fun bx=>?_;refine y_ ?_)
    refine n_ iha ?_
    refine t_ fun bl=>?_
    refine A.append0 rfl rfl rfl rfl rfl rfl rfl rfl rfl rfl rfl rfl rfl rfl (by show (0+1)*1≤_;decide) fun z=>?_
    refine y_ ?_
    refine A.valE 27 rfl (x':=AI 0) rfl ?_
    refine i_ rfl rfl rfl ?_
    refine A.valE 6 rfl (x':=AU64 (kF (fitsM l a))) (au64_eq (kS_ones _ _ _)) ?_
    refine A.again ?_
    refine y_ ?_
    refine j_ rfl rfl eb ?_
    (refine b_ fun bx=>?_;refine y_ ?_)
    refine n_ ihb ?_
    refine t_ fun bl=>?_
    refine A.append rfl rfl rfl rfl rfl rfl rfl rfl rfl rfl rfl rfl rfl rfl (by show (1+1)*1≤_;decide) fun z'=>?_
    refine y_ ?_
    refine A.valE 27 rfl (x':=AI 1) rfl ?_
    refine i_ rfl rfl rfl ?_
    refine A.valE 6 rfl (x':=AU64 (kS (fitsM l a 1&&fitsM l b 1) (fitsM l a 2&&fitsM l b 2) (fitsM l a 3&&fitsM l b 3))) (au64_eq (kS_and _ _ _ _ _ _)) ?_
    refine A.again ?_
    refine t_ fun bl=>?_
    refine c_ ho2 ?_
    refine A.valE 140 rfl (x':=AB ((fitsM l a 1&&fitsM l b 1)||(fitsM l a 2&&fitsM l b 2))) (ab_eq (kS_6 _ _ _)) ?_
    refine c_ hw ?_;refine R_ ?_;refine Sb.eq (au64_eq (kF_eq fun k=>?_));simp only [isF,fitsM,fitsL,fitC];by_cases hk:k=3<;>simp [hk]
   by_cases o17:o=17
   ·subst o17
    have hw:=when_p ((fitsM l a 1&&fitsM l b 1)||(fitsM l a 2&&fitsM l b 2)) 3 (by decide)
    have ho2:=of_p [1,2] (by decide) (by decide)
    rw [of12] at ho2
    refine p_ tt_ok Tryz.func173 160 fun w0 h0 F hgs=>?_
    (refine b_ fun bx=>?_;refine y_ ?_)
    refine A.loop1 ?_
    refine y_ ?_
    refine j_ rfl rfl ea ?_
    (refine b_ fun bx=>?_;refine y_ ?_)
    refine n_ iha ?_
    refine t_ fun bl=>?_
    refine A.append0 rfl rfl rfl rfl rfl rfl rfl rfl rfl rfl rfl rfl rfl rfl (by show (0+1)*1≤_;decide) fun z=>?_
    refine y_ ?_
    refine A.valE 27 rfl (x':=AI 0) rfl ?_
    refine i_ rfl rfl rfl ?_
    refine A.valE 6 rfl (x':=AU64 (kF (fitsM l a))) (au64_eq (kS_ones _ _ _)) ?_
    refine A.again ?_
    refine y_ ?_
    refine j_ rfl rfl eb ?_
    (refine b_ fun bx=>?_;refine y_ ?_)
    refine n_ ihb ?_
    refine t_ fun bl=>?_
    refine A.append rfl rfl rfl rfl rfl rfl rfl rfl rfl rfl rfl rfl rfl rfl (by show (1+1)*1≤_;decide) fun z'=>?_
    refine y_ ?_
    refine A.valE 27 rfl (x':=AI 1) rfl ?_
    refine i_ rfl rfl rfl ?_
    refine A.valE 6 rfl (x':=AU64 (kS (fitsM l a 1&&fitsM l b 1) (fitsM l a 2&&fitsM l b 2) (fitsM l a 3&&fitsM l b 3))) (au64_eq (kS_and _ _ _ _ _ _)) ?_
    refine A.again ?_
    refine t_ fun bl=>?_
    refine c_ ho2 ?_
    refine A.valE 140 rfl (x':=AB ((fitsM l a 1&&fitsM l b 1)||(fitsM l a 2&&fitsM l b 2))) (ab_eq (kS_6 _ _ _)) ?_
    refine c_ hw ?_;refine R_ ?_;refine Sb.eq (au64_eq (kF_eq fun k=>?_));simp only [isF,fitsM,fitsL,fitC];by_cases hk:k=3<;>simp [hk]
   by_cases o18:o=18
   ·subst o18
    have hw:=when_p ((fitsM l a 1&&fitsM l b 1)||(fitsM l a 2&&fitsM l b 2)) 3 (by decide)
    have ho2:=of_p [1,2] (by decide) (by decide)
    rw [of12] at ho2
    refine p_ tt_ok Tryz.func173 160 fun w0 h0 F hgs=>?_
    (refine b_ fun bx=>?_;refine y_ ?_)
    refine A.loop1 ?_
    refine y_ ?_
    refine j_ rfl rfl ea ?_
    (refine b_ fun bx=>?_;refine y_ ?_)
    refine n_ iha ?_
    refine t_ fun bl=>?_
    refine A.append0 rfl rfl rfl rfl rfl rfl rfl rfl rfl rfl rfl rfl rfl rfl (by show (0+1)*1≤_;decide) fun z=>?_
    refine y_ ?_
    refine A.valE 27 rfl (x':=AI 0) rfl ?_
    refine i_ rfl rfl rfl ?_
    refine A.valE 6 rfl (x':=AU64 (kF (fitsM l a))) (au64_eq (kS_ones _ _ _)) ?_
    refine A.again ?_
    refine y_ ?_
    refine j_ rfl rfl eb ?_
    (refine b_ fun bx=>?_;refine y_ ?_)
    refine n_ ihb ?_
    refine t_ fun bl=>?_
    refine A.append rfl rfl rfl rfl rfl rfl rfl rfl rfl rfl rfl rfl rfl rfl (by show (1+1)*1≤_;decide) fun z'=>?_
    refine y_ ?_
    refine A.valE 27 rfl (x':=AI 1) rfl ?_
    refine i_ rfl rfl rfl ?_
    refine A.valE 6 rfl (x':=AU64 (kS (fitsM l a 1&&fitsM l b 1) (fitsM l a 2&&fitsM l b 2) (fitsM l a 3&&fitsM l b 3))) (au64_eq (kS_and _ _ _ _ _ _)) ?_
    refine A.again ?_
    refine t_ fun bl=>?_
    refine c_ ho2 ?_
    refine A.valE 140 rfl (x':=AB ((fitsM l a 1&&fitsM l b 1)||(fitsM l a 2&&fitsM l b 2))) (ab_eq (kS_6 _ _ _)) ?_
    refine c_ hw ?_;refine R_ ?_;refine Sb.eq (au64_eq (kF_eq fun k=>?_));simp only [isF,fitsM,fitsL,fitC];by_cases hk:k=3<;>simp [hk]
   by_cases o19:o=19
   ·subst o19
    have hw:=when_p ((fitsM l a 1&&fitsM l b 1)||(fitsM l a 2&&fitsM l b 2)) 3 (by decide)
    have ho2:=of_p [1,2] (by decide) (by decide)
    rw [of12] at ho2
    refine p_ tt_ok Tryz.func173 160 fun w0 h0 F hgs=>?_
    (refine b_ fun bx=>?_;refine y_ ?_)
    refine A.loop1 ?_
    refine y_ ?_
    refine j_ rfl rfl ea ?_
    (refine b_ fun bx=>?_;refine y_ ?_)
    refine n_ iha ?_
    refine t_ fun bl=>?_
    refine A.append0 rfl rfl rfl rfl rfl rfl rfl rfl rfl rfl rfl rfl rfl rfl (by show (0+1)*1≤_;decide) fun z=>?_
    refine y_ ?_
    refine A.valE 27 rfl (x':=AI 0) rfl ?_
    refine i_ rfl rfl rfl ?_
    refine A.valE 6 rfl (x':=AU64 (kF (fitsM l a))) (au64_eq (kS_ones _ _ _)) ?_
    refine A.again ?_
    refine y_ ?_
    refine j_ rfl rfl eb ?_
    (refine b_ fun bx=>?_;refine y_ ?_)
    refine n_ ihb ?_
    refine t_ fun bl=>?_
    refine A.append rfl rfl rfl rfl rfl rfl rfl rfl rfl rfl rfl rfl rfl rfl (by show (1+1)*1≤_;decide) fun z'=>?_
    refine y_ ?_
    refine A.valE 27 rfl (x':=AI 1) rfl ?_
    refine i_ rfl rfl rfl ?_
    refine A.valE 6 rfl (x':=AU64 (kS (fitsM l a 1&&fitsM l b 1) (fitsM l a 2&&fitsM l b 2) (fitsM l a 3&&fitsM l b 3))) (au64_eq (kS_and _ _ _ _ _ _)) ?_
    refine A.again ?_
    refine t_ fun bl=>?_
    refine c_ ho2 ?_
    refine A.valE 140 rfl (x':=AB ((fitsM l a 1&&fitsM l b 1)||(fitsM l a 2&&fitsM l b 2))) (ab_eq (kS_6 _ _ _)) ?_
    refine c_ hw ?_;refine R_ ?_;refine Sb.eq (au64_eq (kF_eq fun k=>?_));simp only [isF,fitsM,fitsL,fitC];by_cases hk:k=3<;>simp [hk]
   by_cases o20:o=20
   ·subst o20
    have hw:=when_p (fitsM l a 3&&fitsM l b 3) 3 (by decide)
    have hh:=has_p (kS (fitsM l a 1&&fitsM l b 1) (fitsM l a 2&&fitsM l b 2) (fitsM l a 3&&fitsM l b 3)) 3 (by decide)
    rw [has_3] at hh
    refine p_ tt_ok Tryz.func173 160 fun w0 h0 F hgs=>?_
    (refine b_ fun bx=>?_;refine y_ ?_)
    refine A.loop1 ?_
    refine y_ ?_
    refine j_ rfl rfl ea ?_
    (refine b_ fun bx=>?_;refine y_ ?_)
    refine n_ iha ?_
    refine t_ fun bl=>?_
    refine A.append0 rfl rfl rfl rfl rfl rfl rfl rfl rfl rfl rfl rfl rfl rfl (by show (0+1)*1≤_;decide) fun z=>?_
    refine y_ ?_
    refine A.valE 27 rfl (x':=AI 0) rfl ?_
    refine i_ rfl rfl rfl ?_
    refine A.valE 6 rfl (x':=AU64 (kF (fitsM l a))) (au64_eq (kS_ones _ _ _)) ?_
    refine A.again ?_
    refine y_ ?_
    refine j_ rfl rfl eb ?_
    (refine b_ fun bx=>?_;refine y_ ?_)
    refine n_ ihb ?_
    refine t_ fun bl=>?_
    refine A.append rfl rfl rfl rfl rfl rfl rfl rfl rfl rfl rfl rfl rfl rfl (by show (1+1)*1≤_;decide) fun z'=>?_
    refine y_ ?_
    refine A.valE 27 rfl (x':=AI 1) rfl ?_
    refine i_ rfl rfl rfl ?_
    refine A.valE 6 rfl (x':=AU64 (kS (fitsM l a 1&&fitsM l b 1) (fitsM l a 2&&fitsM l b 2) (fitsM l a 3&&fitsM l b 3))) (au64_eq (kS_and _ _ _ _ _ _)) ?_
    refine A.again ?_
    refine y_ ?_
    refine n_ hh ?_
    refine c_ hw ?_;refine R_ ?_;refine Sb.eq (au64_eq (kF_eq fun k=>?_));simp only [isF,fitsM,fitsL,fitC];by_cases hk:k=3<;>simp [hk]
   by_cases o21:o=21
   ·subst o21
    have hw:=when_p (fitsM l a 3&&fitsM l b 3) 3 (by decide)
    have hh:=has_p (kS (fitsM l a 1&&fitsM l b 1) (fitsM l a 2&&fitsM l b 2) (fitsM l a 3&&fitsM l b 3)) 3 (by decide)
    rw [has_3] at hh
    refine p_ tt_ok Tryz.func173 160 fun w0 h0 F hgs=>?_
    (refine b_ fun bx=>?_;refine y_ ?_)
    refine A.loop1 ?_
    refine y_ ?_
    refine j_ rfl rfl ea ?_
    (refine b_ fun bx=>?_;refine y_ ?_)
    refine n_ iha ?_
    refine t_ fun bl=>?_
    refine A.append0 rfl rfl rfl rfl rfl rfl rfl rfl rfl rfl rfl rfl rfl rfl (by show (0+1)*1≤_;decide) fun z=>?_
    refine y_ ?_
    refine A.valE 27 rfl (x':=AI 0) rfl ?_
    refine i_ rfl rfl rfl ?_
    refine A.valE 6 rfl (x':=AU64 (kF (fitsM l a))) (au64_eq (kS_ones _ _ _)) ?_
    refine A.again ?_
    refine y_ ?_
    refine j_ rfl rfl eb ?_
    (refine b_ fun bx=>?_;refine y_ ?_)
    refine n_ ihb ?_
    refine t_ fun bl=>?_
    refine A.append rfl rfl rfl rfl rfl rfl rfl rfl rfl rfl rfl rfl rfl rfl (by show (1+1)*1≤_;decide) fun z'=>?_
    refine y_ ?_
    refine A.valE 27 rfl (x':=AI 1) rfl ?_
    refine i_ rfl rfl rfl ?_
    refine A.valE 6 rfl (x':=AU64 (kS (fitsM l a 1&&fitsM l b 1) (fitsM l a 2&&fitsM l b 2) (fitsM l a 3&&fitsM l b 3))) (au64_eq (kS_and _ _ _ _ _ _)) ?_
    refine A.again ?_
    refine y_ ?_
    refine n_ hh ?_
    refine c_ hw ?_;refine R_ ?_;refine Sb.eq (au64_eq (kF_eq fun k=>?_));simp only [isF,fitsM,fitsL,fitC];by_cases hk:k=3<;>simp [hk]
   by_cases o22:o=22
   ·subst o22
    have hw:=when_p (fitsM l a 1&&fitsM l b 1) 3 (by decide)
    have hh:=has_p (kS (fitsM l a 1&&fitsM l b 1) (fitsM l a 2&&fitsM l b 2) (fitsM l a 3&&fitsM l b 3)) 1 (by decide)
    rw [has_1] at hh
    refine p_ tt_ok Tryz.func173 160 fun w0 h0 F hgs=>?_
    (refine b_ fun bx=>?_;refine y_ ?_)
    refine A.loop1 ?_
    refine y_ ?_
    refine j_ rfl rfl ea ?_
    (refine b_ fun bx=>?_;refine y_ ?_)
    refine n_ iha ?_
    refine t_ fun bl=>?_
    refine A.append0 rfl rfl rfl rfl rfl rfl rfl rfl rfl rfl rfl rfl rfl rfl (by show (0+1)*1≤_;decide) fun z=>?_
    refine y_ ?_
    refine A.valE 27 rfl (x':=AI 0) rfl ?_
    refine i_ rfl rfl rfl ?_
    refine A.valE 6 rfl (x':=AU64 (kF (fitsM l a))) (au64_eq (kS_ones _ _ _)) ?_
    refine A.again ?_
    refine y_ ?_
    refine j_ rfl rfl eb ?_
    (refine b_ fun bx=>?_;refine y_ ?_)
    refine n_ ihb ?_
    refine t_ fun bl=>?_
    refine A.append rfl rfl rfl rfl rfl rfl rfl rfl rfl rfl rfl rfl rfl rfl (by show (1+1)*1≤_;decide) fun z'=>?_
    refine y_ ?_
    refine A.valE 27 rfl (x':=AI 1) rfl ?_
    refine i_ rfl rfl rfl ?_
    refine A.valE 6 rfl (x':=AU64 (kS (fitsM l a 1&&fitsM l b 1) (fitsM l a 2&&fitsM l b 2) (fitsM l a 3&&fitsM l b 3))) (au64_eq (kS_and _ _ _ _ _ _)) ?_
    refine A.again ?_
    refine y_ ?_
    refine n_ hh ?_
    refine c_ hw ?_;refine R_ ?_;refine Sb.eq (au64_eq (kF_eq fun k=>?_));simp only [isF,fitsM,fitsL,fitC];by_cases hk:k=3<;>simp [hk]
   have hw:=when_p (fitsM l a 1&&fitsM l b 1) 1 (by decide)
   have hh:=has_p (kS (fitsM l a 1&&fitsM l b 1) (fitsM l a 2&&fitsM l b 2) (fitsM l a 3&&fitsM l b 3)) 1 (by decide)
   rw [has_1] at hh
   have ho13:o≤13:=by omega
   refine p_ tt_ok Tryz.func173 160 fun w0 h0 F hgs=>?_
   (refine b_ fun bx=>?_;refine y_ ?_)
   refine A.loop1 ?_
   refine y_ ?_
   refine j_ rfl rfl ea ?_
   (refine b_ fun bx=>?_;refine y_ ?_)
   refine n_ iha ?_
   refine t_ fun bl=>?_
   refine A.append0 rfl rfl rfl rfl rfl rfl rfl rfl rfl rfl rfl rfl rfl rfl (by show (0+1)*1≤_;decide) fun z=>?_
   refine y_ ?_
   refine A.valE 27 rfl (x':=AI 0) rfl ?_
   refine i_ rfl rfl rfl ?_
   refine A.valE 6 rfl (x':=AU64 (kF (fitsM l a))) (au64_eq (kS_ones _ _ _)) ?_
   refine A.again ?_
   refine y_ ?_
   refine j_ rfl rfl eb ?_
   (refine b_ fun bx=>?_;refine y_ ?_)
   refine n_ ihb ?_
   refine t_ fun bl=>?_
   refine A.append rfl rfl rfl rfl rfl rfl rfl rfl rfl rfl rfl rfl rfl rfl (by show (1+1)*1≤_;decide) fun z'=>?_
   refine y_ ?_
   refine A.valE 27 rfl (x':=AI 1) rfl ?_
   refine i_ rfl rfl rfl ?_
   refine A.valE 6 rfl (x':=AU64 (kS (fitsM l a 1&&fitsM l b 1) (fitsM l a 2&&fitsM l b 2) (fitsM l a 3&&fitsM l b 3))) (au64_eq (kS_and _ _ _ _ _ _)) ?_
   refine A.again ?_
   (repeat (first|first|refine A.s rfl ?_|refine A.r rfl rfl ?_|refine A.w rfl rfl ?_|refine A.p rfl ?_|refine A.b rfl fun bx=>?_|refine A.t rfl fun bl=>?_|refine A.cond rfl (fun h=>(by simp at h;omega)) (fun _=>?_)|first|refine A.step rfl ?_|refine A.v rfl rfl ?_))
   refine n_ hh ?_
   refine c_ hw ?_;refine R_ ?_;refine Sb.eq (au64_eq (kF_eq fun k=>?_));simp only [isF,fitsM,fitsL,fitC,if_pos ho13];simp;exact Bool.and_comm _ _
  ·rw [ht,htl,htl] at hn
   have ea:=encK_eq a
   have iha:=kinds_p l ch x lf hl hv N a (by omega) h3
   rw [ea] at iha
   simp only [encK,encKl]
   have hw:=when_p (fitsM l a 1||fitsM l a 2||fitsM l a 3) t ⟨h1,h2⟩
   refine p_ tt_ok Tryz.func173 160 fun w0 h0 F hgs=>?_
   (refine b_ fun bx=>?_;refine y_ ?_)
   refine A.loop1 ?_
   refine y_ ?_
   refine j_ rfl rfl ea ?_
   (refine b_ fun bx=>?_;refine y_ ?_)
   refine n_ iha ?_
   refine t_ fun bl=>?_
   refine A.append0 rfl rfl rfl rfl rfl rfl rfl rfl rfl rfl rfl rfl rfl rfl (by show (0+1)*1≤_;decide) fun z=>?_
   refine y_ ?_
   refine A.valE 27 rfl (x':=AI 0) rfl ?_
   refine i_ rfl rfl rfl ?_
   refine A.valE 6 rfl (x':=AU64 (kF (fitsM l a))) (au64_eq (kS_ones _ _ _)) ?_
   refine A.again ?_
   refine y_ ?_
   refine d_ 7 [0,1,2,3,4,5,6] [] ?_
   refine iw_ rfl rfl rfl ?_
   refine WA.valE 117 rfl (x':=AB (fitsM l a 1||fitsM l a 2||fitsM l a 3)) (ab_eq (kS_ne _ _ _)) ?_
   refine WA.nil (l:=[]) rfl ?_
   refine c_ hw ?_;refine R_ ?_;refine Sb.eq (au64_eq (kF_eq fun k=>?_));simp [isF,fitsM,fitsL,fitC,beq_c k];exact Bool.and_comm _ _
theorem kfits_p(l:List KV)(ch:List Int)(x:Nat→AV)(lf:Int)(hl:l.length≤281474976710656)(hv:VarsOk l)(e:KE)(hw:wfK e)(kind:Int)(hk:1≤kind∧kind≤3):Pure Tryz.prog gs0 159 [ckP l ch x lf,encK e,AU8 kind] (AB (decide (valid e)&&fitsM l e kind)):=by
 have hva:=kvalid_p e hw
 rw [encK_eq] at hva⊢
 by_cases hve:valid e
 ·have hkd:=kinds_p l ch x lf hl hv (ht e) e (Nat.le_refl _) hve.1
  have hh:=has_p (kF (fitsM l e)) kind (by omega)
  have he:hasB (kF (fitsM l e)) kind=fitsM l e kind:=by
   have:kind=1∨kind=2∨kind=3:=by omega
   rcases this with rfl|rfl|rfl
   ·exact has_1 _ _ _
   ·exact has_2 _ _ _
   ·exact has_3 _ _ _
  rw [he] at hh
  rw [encK_eq] at hkd
  rw [decide_eq_true hve] at hva⊢
  refine p_ tt_ok Tryz.func159 16 fun w0 h0 F hgs=>?_
  (refine b_ fun bx=>?_;refine y_ ?_)
  refine c_ hva ?_
  refine c_ hkd ?_
  exact cr_ hh
 ·rw [decide_eq_false hve] at hva⊢
  refine p_ tt_ok Tryz.func159 16 fun w0 h0 F hgs=>?_
  (refine b_ fun bx=>?_;refine y_ ?_)
  exact cr_ hva
structure PL where
 v:Int
 ix:List KE
mutual
inductive PR where
 |mk (kind c v item:Int) (to:List PL) (e:List KE) (gs:List GD) (l:List PR)
inductive GD where
 |mk (kind:Int) (cond:KE) (c item:Int) (to:PL) (time:KE) (body:List PR)
end
abbrev PR.kind:PR→Int|⟨k,_,_,_,_,_,_,_⟩=>k
abbrev PR.c:PR→Int|⟨_,c,_,_,_,_,_,_⟩=>c
abbrev PR.v:PR→Int|⟨_,_,v,_,_,_,_,_⟩=>v
abbrev PR.item:PR→Int|⟨_,_,_,i,_,_,_,_⟩=>i
abbrev PR.to:PR→List PL|⟨_,_,_,_,t,_,_,_⟩=>t
abbrev PR.e:PR→List KE|⟨_,_,_,_,_,e,_,_⟩=>e
abbrev PR.gs:PR→List GD|⟨_,_,_,_,_,_,g,_⟩=>g
abbrev PR.l:PR→List PR|⟨_,_,_,_,_,_,_,l⟩=>l
abbrev GD.kind:GD→Int|⟨k,_,_,_,_,_,_⟩=>k
abbrev GD.cond:GD→KE|⟨_,e,_,_,_,_,_⟩=>e
abbrev GD.c:GD→Int|⟨_,_,c,_,_,_,_⟩=>c
abbrev GD.item:GD→Int|⟨_,_,_,i,_,_,_⟩=>i
abbrev GD.to:GD→PL|⟨_,_,_,_,t,_,_⟩=>t
abbrev GD.time:GD→KE|⟨_,_,_,_,_,t,_⟩=>t
abbrev GD.body:GD→List PR|⟨_,_,_,_,_,_,b⟩=>b
abbrev encPl(p:PL):AV:= .ag [AI p.v, .sl 6 (encKl p.ix) none]
abbrev plsA(l:List PL):AV:= .sl 2 (l.map encPl) none
abbrev kesA(l:List KE):AV:= .sl 6 (encKl l) none
mutual
def encR:PR→AV
 |⟨k,c,v,i,to,e,gs,l⟩=> .ag [AU8 k,AI c,AI v,AU8 i,plsA to,kesA e, .sl 18 (encGl gs) none, .sl 8 (encRl l) none]
def encRl:List PR→List AV
 | []=>[]
 |p::r=>encR p::encRl r
def encG:GD→AV
 |⟨k,e,c,i,to,t,b⟩=> .ag [AU8 k,AU8 e.kind,AU8 e.oper,AU8 e.to,AI32 e.n,AI e.v,kesA e.l,AI c,AU8 i,AI to.v,kesA to.ix,AU8 t.kind,AU8 t.oper,AU8 t.to,AI32 t.n,AI t.v,kesA t.l, .sl 8 (encRl b) none]
def encGl:List GD→List AV
 | []=>[]
 |g::r=>encG g::encGl r
end
abbrev rsA(l:List PR):AV:= .sl 8 (encRl l) none
abbrev gsA(l:List GD):AV:= .sl 18 (encGl l) none
abbrev cellsR(p:PR):AV:= .ag [AU8 p.kind,AI p.c,AI p.v,AU8 p.item,plsA p.to,kesA p.e,gsA p.gs,rsA p.l]
abbrev cellsG(g:GD):AV:= .ag [AU8 g.kind,AU8 g.cond.kind,AU8 g.cond.oper,AU8 g.cond.to,AI32 g.cond.n,AI g.cond.v,kesA g.cond.l,AI g.c,AU8 g.item,AI g.to.v,kesA g.to.ix,AU8 g.time.kind,AU8 g.time.oper,AU8 g.time.to,AI32 g.time.n,AI g.time.v,kesA g.time.l,rsA g.body]
theorem encR_eq(p:PR):encR p=cellsR p:=by obtain ⟨k,c,v,i,to,e,gs,l⟩:=p;rw [encR]
theorem encG_eq(g:GD):encG g=cellsG g:=by obtain ⟨k,e,c,i,to,t,b⟩:=g;rw [encG]
theorem encRl_map(l:List PR):encRl l=l.map encR:=by
 induction l with
 |nil=>rw [encRl];rfl
 |cons x r ih=>rw [encRl,ih];rfl
theorem encGl_map(l:List GD):encGl l=l.map encG:=by
 induction l with
 |nil=>rw [encGl];rfl
 |cons x r ih=>rw [encGl,ih];rfl
theorem encRl_len(l:List PR):(encRl l).length=l.length:=by rw [encRl_map,List.length_map]
theorem encGl_len(l:List GD):(encGl l).length=l.length:=by rw [encGl_map,List.length_map]
theorem encRl_at{l:List PR}{i:Nat}{x:PR}(h:l[i]? =some x):(encRl l)[i]? =some (encR x):=by rw [encRl_map];exact map_at h
theorem encGl_at{l:List GD}{i:Nat}{x:GD}(h:l[i]? =some x):(encGl l)[i]? =some (encG x):=by rw [encGl_map];exact map_at h
def wfPl(p:PL):Prop:=wfKl p.ix
mutual
def wfR:PR→Prop
 |⟨k,c,v,i,to,e,gs,l⟩=>((∀t,t∈to→wfPl t)∧wfKl e∧to.length≤281474976710656∧gs.length≤281474976710656∧l.length≤281474976710656)∧wfGl gs∧wfRl l
def wfRl:List PR→Prop
 | []=>True
 |p::r=>wfR p∧wfRl r
def wfG:GD→Prop
 |⟨k,e,c,i,to,t,b⟩=>(wfK e∧wfK t∧wfPl to)∧wfRl b
def wfGl:List GD→Prop
 | []=>True
 |g::r=>wfG g∧wfGl r
end
theorem wfRl_mem: ∀{l:List PR},wfRl l→ ∀x,x∈l→wfR x
 | [],_,x,h=>by cases h
 |y::r,hw,x,h=>by
  rw [wfRl] at hw
  rcases List.mem_cons.1 h with rfl|h
  ·exact hw.1
  ·exact wfRl_mem hw.2 x h
theorem wfGl_mem: ∀{l:List GD},wfGl l→ ∀x,x∈l→wfG x
 | [],_,x,h=>by cases h
 |y::r,hw,x,h=>by
  rw [wfGl] at hw
  rcases List.mem_cons.1 h with rfl|h
  ·exact hw.1
  ·exact wfGl_mem hw.2 x h
structure WfR(p:PR):Prop where
 to: ∀t,t∈p.to→wfPl t
 e: ∀x,x∈p.e→wfK x
 tol:p.to.length≤281474976710656
 gl:p.gs.length≤281474976710656
 ll:p.l.length≤281474976710656
 g: ∀g,g∈p.gs→wfG g
 l: ∀x,x∈p.l→wfR x
theorem wfR_all{p:PR}(h:wfR p):WfR p:=by
 obtain ⟨k,c,v,i,to,e,gs,l⟩:=p
 rw [wfR] at h
 exact ⟨h.1.1,wfKl_mem h.1.2.1,h.1.2.2.1,h.1.2.2.2.1,h.1.2.2.2.2,wfGl_mem h.2.1,wfRl_mem h.2.2⟩
structure WfG(g:GD):Prop where
 cond:wfK g.cond
 time:wfK g.time
 to:wfPl g.to
 body: ∀x,x∈g.body→wfR x
theorem wfG_all{g:GD}(h:wfG g):WfG g:=by
 obtain ⟨k,e,c,i,to,t,b⟩:=g
 rw [wfG] at h
 exact ⟨h.1.1,h.1.2.1,h.1.2.2,wfRl_mem h.2⟩
def fitV(l:List KV)(e:KE)(k:Int):Bool:=decide (valid e)&&fitsM l e k
def fit1(l:List KV)(es:List KE)(k:Int):Bool:=match es with
 |e::_=>fitV l e k
 | []=>false
def placeB(l:List KV)(p:PL)(k:Int):Bool:=if p.v<0∨(l.length:Int)≤p.v then false else match l[p.v.toNat]? with
 |some x=>x.kind==k&&(if x.dim=0 then p.ix.length==0 else p.ix.length==1&&fit1 l p.ix 1)
 |none=>false
def chanB(n:Nat)(ch item no:Int):Bool:=decide (0≤ch)&&decide (ch<n)&&(ch !=no)&&primB item&&(decide (1<ch)||item==1)
def inputB(l:List KV)(n:Nat)(ch item:Int)(to:PL):Bool:=chanB n ch item 1&&placeB l to item
def zeroE(e:KE):Bool:=e.kind==0&&e.oper==0&&e.to==0&&e.n==0&&e.v==0&&decide (e.l.length≤0)
def plainGB(g:GD)(input timed:Bool):Bool:=(input||(g.c==0&&g.item==0&&g.to.v==0&&g.to.ix.length==0))&&(timed||zeroE g.time)
def guardB(l:List KV)(n:Nat)(g:GD)(choice:Bool):Bool:=(g.body.length==1)&&fitV l g.cond 3&&((g.kind==1)==choice)&&
 (if g.kind=1∨g.kind=2 then plainGB g false false else if g.kind=3 then plainGB g true false&&inputB l n g.c g.item g.to
  else if g.kind=4 then plainGB g false true&&fitV l g.time 1 else false)
def inB(n:Nat)(a b:Int):Bool:=decide (a≤(n:Int))&&decide ((n:Int)≤b)
def shapeR(p:PR)(ch v:Bool)(t1 t2 e1 e2 g1 g2 l1 l2:Int):Bool:=(ch||(p.c==0&&p.item==0))&&(v||p.v==0)&&inB p.to.length t1 t2&&inB p.e.length e1 e2&&inB p.gs.length g1 g2&&inB p.l.length l1 l2
def assignB(l:List KV)(t:PL)(e:KE):Bool:=if t.v<0∨(l.length:Int)≤t.v then false else match l[t.v.toNat]? with
 |some x=>placeB l t x.kind&&fitV l e x.kind
 |none=>false
def to1(f:PL→Bool)(ts:List PL):Bool:=match ts with
 |t::_=>f t
 | []=>false
def kindB(l:List KV)(n:Nat)(p:PR):Bool:=
 if p.kind=1∨p.kind=2 then shapeR p false false 0 0 0 0 0 0 0 0
 else if p.kind=3 then shapeR p false true 0 0 0 0 0 0 0 0&&decide (0≤p.v)&&decide (p.v<l.length)
 else if p.kind=4 then shapeR p false false 1 8 1 8 0 0 0 0&&(p.to.length==p.e.length)&&(p.to.zip p.e).all fun te=>assignB l te.1 te.2
 else if p.kind=5 then shapeR p true false 1 1 0 0 0 0 0 0&&to1 (inputB l n p.c p.item) p.to
 else if p.kind=6 then shapeR p true false 0 0 1 1 0 0 0 0&&chanB n p.c p.item 0&&fit1 l p.e p.item
 else if p.kind=7 then shapeR p false false 1 1 0 0 0 0 0 0&&to1 (fun t=>placeB l t 1) p.to
 else if p.kind=8 then shapeR p false false 0 0 1 1 0 0 0 0&&fit1 l p.e 1
 else if p.kind=9 then shapeR p false false 0 0 0 0 0 0 0 2048
 else if p.kind=10 then shapeR p false false 0 0 0 0 0 0 0 16
 else if p.kind=11 then shapeR p false false 0 0 0 0 0 0 2 2
 else if p.kind=12∨p.kind=14∨p.kind=15 then shapeR p false false 0 0 0 0 0 16 0 0&&p.gs.all fun g=>guardB l n g (p.kind==12)
 else if p.kind=13 then shapeR p false false 0 0 1 1 0 0 1 1&&fit1 l p.e 3
 else false
abbrev twoA(a b:Int):AV:= .ag [AI a,AI b]
theorem shape1_p(n:Nat)(a b:Int):Pure Tryz.prog gs0 171 [AI (n:Int),twoA a b] (AB (inB n a b)):=by
 refine p_ tt_ok Tryz.func171 15 fun w0 h0 F hgs=>?_
 (refine b_ fun bx=>?_;refine y_ ?_)
 refine A.indexArr rfl rfl rfl rfl rfl rfl rfl rfl (by decide) (by decide) ?_
 refine y_ ?_
 ((fail_if_success (refine A.lit? rfl ?_));refine A.gS rfl (fun hc=>?_) (fun hc=>?_))
 ·refine y_ ?_
  refine A.indexArr rfl rfl rfl rfl rfl rfl rfl rfl (by decide) (by decide) ?_
  refine y_ ?_;refine R_ ?_;refine Sb.eq (ab_eq ?_);rw [inB,hc];rfl
 ·refine y_ ?_;refine R_ ?_;refine Sb.eq (ab_eq ?_);rw [inB,hc];rfl
theorem shape_p(p:PR)(ch v:Bool)(t1 t2 e1 e2 g1 g2 l1 l2:Int):Pure Tryz.prog gs0 157 [cellsR p,AB ch,AB v,twoA t1 t2,twoA e1 e2,twoA g1 g2,twoA l1 l2] (AB (shapeR p ch v t1 t2 e1 e2 g1 g2 l1 l2)):=by
 have s1:=shape1_p p.to.length t1 t2
 have s2:=shape1_p p.e.length e1 e2
 have s3:=shape1_p p.gs.length g1 g2
 have s4:=shape1_p p.l.length l1 l2
 have n1:((p.to.map encPl).length:Int)=p.to.length:=by rw [List.length_map]
 have n2:((encKl p.e).length:Int)=p.e.length:=by rw [encKl_len]
 have n3:((encGl p.gs).length:Int)=p.gs.length:=by rw [encGl_len]
 have n4:((encRl p.l).length:Int)=p.l.length:=by rw [encRl_len]
 rw [←n1] at s1
 rw [←n2] at s2
 rw [←n3] at s3
 rw [←n4] at s4
 unfold shapeR
 generalize inB p.to.length t1 t2=b1 at s1⊢
 generalize inB p.e.length e1 e2=b2 at s2⊢
 generalize inB p.gs.length g1 g2=b3 at s3⊢
 generalize inB p.l.length l1 l2=b4 at s4⊢
 cases ch<;>cases v
 all_goals refine p_ tt_ok Tryz.func157 67 fun w0 h0 F hgs=>?_
 all_goals (repeat' first|first|refine A.s rfl ?_|refine A.r rfl rfl ?_|refine A.w rfl rfl ?_|refine A.p rfl ?_|refine A.b rfl fun bx=>?_|refine A.t rfl fun bl=>?_|refine A.c rfl s1 .refl ?_|refine A.c rfl s2 .refl ?_|refine A.c rfl s3 .refl ?_|refine A.c rfl s4 .refl ?_|((fail_if_success (refine A.lit? rfl ?_));refine A.gS rfl (fun hc=>?_) (fun hc=>?_))|((fail_if_success (refine A.litP? rfl ?_));refine A.gSP rfl (fun hc=>?_) (fun hc=>?_)))
 (all_goals (refine R_ ?_;refine Sb.eq (ab_eq ?_)))
 all_goals simp_all
theorem chan_p(l:List KV)(ch:List Int)(x:Nat→AV)(lf:Int)(c item no:Int):Pure Tryz.prog gs0 161 [ckP l ch x lf,AI c,AU8 item,AI no] (AB (chanB ch.length c item no)):=by
 have hp:=kprim_p item
 have hn:((ch.map AU8).length:Int)=ch.length:=by rw [List.length_map]
 unfold chanB
 generalize primB item=b at hp⊢
 refine p_ tt_ok Tryz.func161 38 fun w0 h0 F hgs=>?_
 (repeat' first|first|refine A.s rfl ?_|refine A.r rfl rfl ?_|refine A.w rfl rfl ?_|refine A.p rfl ?_|refine A.b rfl fun bx=>?_|refine A.t rfl fun bl=>?_|refine A.c rfl hp .refl ?_|((fail_if_success (refine A.lit? rfl ?_));refine A.gS rfl (fun hc=>?_) (fun hc=>?_))|((fail_if_success (refine A.litP? rfl ?_));refine A.gSP rfl (fun hc=>?_) (fun hc=>?_)))
 (all_goals (refine R_ ?_;refine Sb.eq (ab_eq ?_)))
 all_goals (rw [Bool.eq_iff_iff];simp_all)
 all_goals (try intros)
 all_goals omega
theorem place_p(l:List KV)(ch:List Int)(x:Nat→AV)(lf:Int)(hl:l.length≤281474976710656)(hv:VarsOk l)(p:PL)(hw:wfPl p)(k:Int):Pure Tryz.prog gs0 158 [ckP l ch x lf,encPl p,AU8 k] (AB (placeB l p k)):=by
 have hlen:((l.map encV).length:Int)=l.length:=by rw [List.length_map]
 have hxl:((encKl p.ix).length:Int)=p.ix.length:=by rw [encKl_len]
 by_cases hneg:p.v<0
 ·refine p_ tt_ok Tryz.func158 62 fun w0 h0 F hgs=>?_
  (refine b_ fun bx=>?_;refine y_ ?_)
  refine d_ 26 [0,1,2,3,4,5,6,7,8,9,10,11,12,13,14,15,16,17,18,19,20,21,22,23,24,25] [] ?_
  refine ew_ 10 rfl (x':=AB true) (ab_eq (by simpa using hneg)) ?_
  refine z_ ?_;refine R_ ?_;refine Sb.eq (ab_eq ?_);rw [placeB,if_pos (.inl hneg)]
 by_cases h1:(l.length:Int)≤p.v
 ·refine p_ tt_ok Tryz.func158 62 fun w0 h0 F hgs=>?_
  (refine b_ fun bx=>?_;refine y_ ?_)
  refine d_ 26 [0,1,2,3,4,5,6,7,8,9,10,11,12,13,14,15,16,17,18,19,20,21,22,23,24,25] [] ?_
  refine ew_ 10 rfl (x':=AB false) (ab_eq (by simp;omega)) ?_
  refine ew_ 21 rfl (x':=AB true) (ab_eq (by rw [hlen];simpa using h1)) ?_
  refine z_ ?_;refine R_ ?_;refine Sb.eq (ab_eq ?_);rw [placeB,if_pos (.inr h1)]
 refine Exists.elim (at_ex (l:=l) (i:=p.v) (by omega) (by omega)) fun y hy=>?_
 have hyk:=hv y (List.mem_of_getElem? hy)
 have hpb:placeB l p k=(y.kind==k&&(if y.dim=0 then p.ix.length==0 else p.ix.length==1&&fit1 l p.ix 1)):=by rw [placeB,if_neg (by omega),hy]
 rw [hpb]
 clear hpb
 have hv0:(0:Int)≤p.v:=by omega
 by_cases hk:y.kind=k
 case neg=>
  refine p_ tt_ok Tryz.func158 62 fun w0 h0 F hgs=>?_
  (refine b_ fun bx=>?_;refine y_ ?_)
  refine d_ 26 [0,1,2,3,4,5,6,7,8,9,10,11,12,13,14,15,16,17,18,19,20,21,22,23,24,25] [] ?_
  refine ew_ 10 rfl (x':=AB false) (ab_eq (by simp;omega)) ?_
  refine ew_ 21 rfl (x':=AB false) (ab_eq (by rw [hlen];simp;omega)) ?_
  refine WA.x rfl hv0 (map_at hy) rfl rfl ?_
  refine w_ ?_
  refine z_ ?_
  refine e_ 34 rfl (x':=AB true) (ab_eq (by simpa using hk)) ?_;refine R_ ?_;refine Sb.eq (ab_eq ?_);simp [hk]
 subst hk
 by_cases hd:y.dim=0
 ·refine p_ tt_ok Tryz.func158 62 fun w0 h0 F hgs=>?_
  (refine b_ fun bx=>?_;refine y_ ?_)
  refine d_ 26 [0,1,2,3,4,5,6,7,8,9,10,11,12,13,14,15,16,17,18,19,20,21,22,23,24,25] [] ?_
  refine ew_ 10 rfl (x':=AB false) (ab_eq (by simp;omega)) ?_
  refine ew_ 21 rfl (x':=AB false) (ab_eq (by rw [hlen];simp;omega)) ?_
  refine WA.x rfl hv0 (map_at hy) rfl rfl ?_
  refine w_ ?_
  refine z_ ?_
  refine e_ 34 rfl (x':=AB false) (ab_eq (by simp)) ?_
  refine d_ 7 [0,1,2,3,4,5,6] [] ?_
  refine WA.nil (l:=[]) rfl ?_
  refine A.x rfl hv0 (map_at hy) rfl rfl ?_
  refine y_ ?_
  refine e_ 45 rfl (x':=AB true) (ab_eq (by simpa using hd)) ?_;refine R_ ?_;refine Sb.eq (ab_eq ?_);rw [hxl,if_pos hd,Bool.eq_iff_iff];simp
 ·have hfin: ∀e,p.ix=[e]→Pure Tryz.prog gs0 159 [ckP l ch x lf,encK e,AU8 1] (AB (fit1 l p.ix 1)):=fun e he=>by
   have:=kfits_p l ch x lf hl hv e (wfKl_mem hw e (by rw [he];exact List.mem_cons_self ..)) 1 (by decide)
   rw [he];exact this
  by_cases hx1:p.ix.length=1
  ·obtain ⟨e,he⟩: ∃e,p.ix=[e]:=by
    match h:p.ix,hx1 with
    | [e],_=>exact ⟨e,rfl⟩
   have hf:=hfin e he
   rw [encK_eq] at hf
   generalize hfb:fit1 l p.ix 1=fb at hf⊢
   refine p_ tt_ok Tryz.func158 62 fun w0 h0 F hgs=>?_
   (refine b_ fun bx=>?_;refine y_ ?_)
   refine d_ 26 [0,1,2,3,4,5,6,7,8,9,10,11,12,13,14,15,16,17,18,19,20,21,22,23,24,25] [] ?_
   refine ew_ 10 rfl (x':=AB false) (ab_eq (by simp;omega)) ?_
   refine ew_ 21 rfl (x':=AB false) (ab_eq (by rw [hlen];simp;omega)) ?_
   refine WA.x rfl hv0 (map_at hy) rfl rfl ?_
   refine w_ ?_
   refine z_ ?_
   refine e_ 34 rfl (x':=AB false) (ab_eq (by simp)) ?_
   refine d_ 7 [0,1,2,3,4,5,6] [] ?_
   refine WA.nil (l:=[]) rfl ?_
   refine A.x rfl hv0 (map_at hy) rfl rfl ?_
   refine y_ ?_
   refine e_ 45 rfl (x':=AB false) (ab_eq (by simpa using hd)) ?_
   refine e_ 54 rfl (x':=AB true) (ab_eq (by rw [hxl];simp [hx1])) ?_
   refine i_ rfl (show (encKl p.ix)[(0:Int).toNat]? =some (encK e) from encKl_at (by rw [he];rfl)) (encK_eq e) ?_
   refine c_ hf ?_;refine R_ ?_;refine Sb.eq (ab_eq ?_);rw [if_neg hd,hx1];simp
  ·refine p_ tt_ok Tryz.func158 62 fun w0 h0 F hgs=>?_
   (refine b_ fun bx=>?_;refine y_ ?_)
   refine d_ 26 [0,1,2,3,4,5,6,7,8,9,10,11,12,13,14,15,16,17,18,19,20,21,22,23,24,25] [] ?_
   refine ew_ 10 rfl (x':=AB false) (ab_eq (by simp;omega)) ?_
   refine ew_ 21 rfl (x':=AB false) (ab_eq (by rw [hlen];simp;omega)) ?_
   refine WA.x rfl hv0 (map_at hy) rfl rfl ?_
   refine w_ ?_
   refine z_ ?_
   refine e_ 34 rfl (x':=AB false) (ab_eq (by simp)) ?_
   refine d_ 7 [0,1,2,3,4,5,6] [] ?_
   refine WA.nil (l:=[]) rfl ?_
   refine A.x rfl hv0 (map_at hy) rfl rfl ?_
   refine y_ ?_
   refine e_ 45 rfl (x':=AB false) (ab_eq (by simpa using hd)) ?_
   refine e_ 54 rfl (x':=AB false) (ab_eq (by rw [hxl];simp;omega)) ?_;refine R_ ?_;refine Sb.eq (ab_eq ?_);rw [if_neg hd];simp [hx1]
theorem input_p(l:List KV)(ch:List Int)(x:Nat→AV)(lf:Int)(hl:l.length≤281474976710656)(hv:VarsOk l)(c item:Int)(to:PL)(hw:wfPl to):Pure Tryz.prog gs0 160 [ckP l ch x lf,AI c,AU8 item,encPl to] (AB (inputB l ch.length c item to)):=by
 have hc:=chan_p l ch x lf c item 1
 have hp:=place_p l ch x lf hl hv to hw item
 unfold inputB
 generalize chanB ch.length c item 1=b1 at hc⊢
 generalize placeB l to item=b2 at hp⊢
 cases b1
 all_goals refine p_ tt_ok Tryz.func160 19 fun w0 h0 F hgs=>?_
 all_goals (repeat' first|first|refine A.s rfl ?_|refine A.r rfl rfl ?_|refine A.w rfl rfl ?_|refine A.p rfl ?_|refine A.b rfl fun bx=>?_|refine A.t rfl fun bl=>?_|refine A.c rfl hc .refl ?_|refine A.c rfl hp .refl ?_)
 (all_goals (refine R_ ?_;refine Sb.eq (ab_eq ?_)))
 all_goals simp_all
theorem plain16_p(g:GD)(input timed:Bool):Pure Tryz.prog gs0 176 [cellsG g,AB input,AB timed] (AB (plainGB g input timed)):=by
 have n1:((encKl g.time.l).length:Int)=g.time.l.length:=by rw [encKl_len]
 have n2:((encKl g.to.ix).length:Int)=g.to.ix.length:=by rw [encKl_len]
 have hn:decide (g.time.l.length≤0)= !decide (0<((encKl g.time.l).length:Int)):=by rw [n1,Bool.eq_iff_iff];simp
 have hm:(g.to.ix.length==0)=(((encKl g.to.ix).length:Int)==0):=by rw [n2,Bool.eq_iff_iff];simp
 unfold plainGB zeroE
 rw [hn,hm]
 cases input<;>cases timed
 all_goals refine p_ tt_ok Tryz.func176 71 fun w0 h0 F hgs=>?_
 all_goals (repeat' first|first|refine A.s rfl ?_|refine A.r rfl rfl ?_|refine A.w rfl rfl ?_|refine A.p rfl ?_|refine A.b rfl fun bx=>?_|refine A.t rfl fun bl=>?_|((fail_if_success (refine A.lit? rfl ?_));refine A.gS rfl (fun hc=>?_) (fun hc=>?_))|((fail_if_success (refine A.litP? rfl ?_));refine A.gSP rfl (fun hc=>?_) (fun hc=>?_)))
 (all_goals (refine R_ ?_;refine Sb.eq (ab_eq ?_)))
 all_goals simp_all
theorem idxG_p(f:FuncId)(c:List AV)(p:GD→Bool)(l:List GD)(hcb: ∀g,g∈l→Pure Tryz.prog gs0 f (cellsG g::c) (AB (p g)))(hb:l.length≤281474976710656):
 Pure Tryz.prog gs0 175 [gsA l, .fn f [] c] (AI (idxF p l 0)):=by
 refine p_ tt_ok Tryz.func175 19 fun w0 h0 F hgs=>?_
 refine y_ ?_
 refine A.valE 7 rfl (x':=AI (l.length:Nat)) (ai_eq (by rw [encGl_len])) ?_
 refine A.keep [0,1,7,8] rfl ?_
 refine A.loopP (ι:=Nat) (fun i=>(⟨[(0,gsA l),(1, .fn f [] c),(7,AI (l.length:Nat)),(8,AI (i:Int))],[]⟩,[])) (fun i=>i≤l.length∧idxF p l 0=idxF p (l.drop i) i) (fun i=>l.length-i) 0 ⟨by omega,rfl⟩ rfl fun i hi ih=>?_
 refine y_ ?_
 refine k_ (fun hc=>?_) fun hc=>?_
 ·simp at hc
  refine Exists.elim (at_exN (l:=l) (i:=i) hc) fun x hx=>?_
  have hx1:=hcb x (List.mem_of_getElem? hx)
  refine y_ ?_
  refine i_ rfl (encGl_at hx) (encG_eq x) ?_
  refine A.c rfl hx1 SbL.refl ?_
  have h1:=hi.2
  rw [drop_at hx,idxF] at h1
  cases hp:p x with
  |true=>
   rw [hp] at h1
   refine y_ ?_;refine R_ ?_;rw [h1];exact .refl
  |false=>
   rw [hp] at h1
   refine y_ ?_
   refine A.valE 8 rfl (x':=AI ((i+1:Nat):Int)) (inc_eq i (by omega)) ?_
   refine u_ (ih (i+1) ⟨by omega,h1⟩ (by omega))
 ·simp at hc
  have:i=l.length:=by omega
  subst this
  refine y_ ?_;refine R_ ?_;rw [hi.2,List.drop_length];exact .refl
theorem hasG_p(f:FuncId)(c:List AV)(p:GD→Bool)(l:List GD)(hcb: ∀g,g∈l→Pure Tryz.prog gs0 f (cellsG g::c) (AB (p g)))(hb:l.length≤281474976710656):
 Pure Tryz.prog gs0 162 [gsA l, .fn f [] c] (AB (l.any p)):=by
 refine p_ tt_ok Tryz.func162 9 fun w0 h0 F hgs=>?_
 refine y_ ?_
 refine c_ (idxG_p f c p l hcb hb) ?_;refine R_ ?_;refine Sb.eq (ab_eq ?_);exact idxF_any p l 0
theorem kfit_p(l:List KV)(ch:List Int)(x:Nat→AV)(lf:Int)(hl:l.length≤281474976710656)(hv:VarsOk l)(e:KE)(hw:wfK e)(kind:Int)(hk:1≤kind∧kind≤3):Pure Tryz.prog gs0 159 [ckP l ch x lf,cellsK e,AU8 kind] (AB (fitV l e kind)):=by
 have:=kfits_p l ch x lf hl hv e hw kind hk
 rw [encK_eq] at this
 exact this
theorem guard_p(l:List KV)(ch:List Int)(x:Nat→AV)(lf:Int)(hl:l.length≤281474976710656)(hv:VarsOk l)(g:GD)(hw:WfG g)(choice:Bool):Pure Tryz.prog gs0 164 [ckP l ch x lf,cellsG g,AB choice] (AB (guardB l ch.length g choice)):=by
 have hfc:=kfit_p l ch x lf hl hv g.cond hw.cond 3 (by decide)
 have hft:=kfit_p l ch x lf hl hv g.time hw.time 1 (by decide)
 have hin:=input_p l ch x lf hl hv g.c g.item g.to hw.to
 have p1:=plain16_p g false false
 have p2:=plain16_p g true false
 have p3:=plain16_p g false true
 have hbl:(g.body.length==1)= !(((encRl g.body).length:Int) !=1):=by rw [encRl_len,Bool.eq_iff_iff];simp;omega
 unfold guardB
 rw [hbl]
 generalize fitV l g.cond 3=b1 at hfc⊢
 generalize fitV l g.time 1=b2 at hft⊢
 generalize inputB l ch.length g.c g.item g.to=b3 at hin⊢
 generalize plainGB g false false=q1 at p1⊢
 generalize plainGB g true false=q2 at p2⊢
 generalize plainGB g false true=q3 at p3⊢
 clear hw hl hv
 obtain ⟨k,e,c,i,to,t,b⟩:=g
 by_cases k1:k=1
 ·subst k1
  clear hft hin p2 p3
  simp only [true_or,if_true]
  cases choice
  all_goals refine p_ tt_ok Tryz.func164 56 fun w0 h0 F hgs=>?_
  all_goals (repeat' first|first|refine A.s rfl ?_|refine A.r rfl rfl ?_|refine A.w rfl rfl ?_|refine A.p rfl ?_|refine A.b rfl fun bx=>?_|refine A.t rfl fun bl=>?_|refine A.c rfl hfc .refl ?_|refine A.c rfl p1 .refl ?_|((fail_if_success (refine A.lit? rfl ?_));refine A.gS rfl (fun hc=>?_) (fun hc=>?_))|((fail_if_success (refine A.litP? rfl ?_));refine A.gSP rfl (fun hc=>?_) (fun hc=>?_)))
  (all_goals (refine R_ ?_;refine Sb.eq (ab_eq ?_)))
  all_goals simp_all [GD.kind]
 by_cases k2:k=2
 ·subst k2
  clear hft hin p2 p3
  simp only [or_true,if_true]
  cases choice
  all_goals refine p_ tt_ok Tryz.func164 56 fun w0 h0 F hgs=>?_
  all_goals (repeat' first|first|refine A.s rfl ?_|refine A.r rfl rfl ?_|refine A.w rfl rfl ?_|refine A.p rfl ?_|refine A.b rfl fun bx=>?_|refine A.t rfl fun bl=>?_|refine A.c rfl hfc .refl ?_|refine A.c rfl p1 .refl ?_|((fail_if_success (refine A.lit? rfl ?_));refine A.gS rfl (fun hc=>?_) (fun hc=>?_))|((fail_if_success (refine A.litP? rfl ?_));refine A.gSP rfl (fun hc=>?_) (fun hc=>?_)))
  (all_goals (refine R_ ?_;refine Sb.eq (ab_eq ?_)))
  all_goals simp_all [GD.kind]
 rw [if_neg (fun h=>h.elim k1 k2)]
 by_cases k3:k=3
 ·subst k3
  clear hft p1 p3
  rw [if_pos rfl]
  cases choice
  all_goals refine p_ tt_ok Tryz.func164 56 fun w0 h0 F hgs=>?_
  all_goals (repeat' first|first|refine A.s rfl ?_|refine A.r rfl rfl ?_|refine A.w rfl rfl ?_|refine A.p rfl ?_|refine A.b rfl fun bx=>?_|refine A.t rfl fun bl=>?_|refine A.c rfl hfc .refl ?_|refine A.c rfl hin .refl ?_|refine A.c rfl p2 .refl ?_|((fail_if_success (refine A.lit? rfl ?_));refine A.gS rfl (fun hc=>?_) (fun hc=>?_))|((fail_if_success (refine A.litP? rfl ?_));refine A.gSP rfl (fun hc=>?_) (fun hc=>?_)))
  (all_goals (refine R_ ?_;refine Sb.eq (ab_eq ?_)))
  all_goals simp_all [GD.kind]
 rw [if_neg k3]
 by_cases k4:k=4
 ·subst k4
  clear hin p1 p2
  rw [if_pos rfl]
  cases choice
  all_goals refine p_ tt_ok Tryz.func164 56 fun w0 h0 F hgs=>?_
  all_goals (repeat' first|first|refine A.s rfl ?_|refine A.r rfl rfl ?_|refine A.w rfl rfl ?_|refine A.p rfl ?_|refine A.b rfl fun bx=>?_|refine A.t rfl fun bl=>?_|refine A.c rfl hfc .refl ?_|refine A.c rfl hft .refl ?_|refine A.c rfl p3 .refl ?_|((fail_if_success (refine A.lit? rfl ?_));refine A.gS rfl (fun hc=>?_) (fun hc=>?_))|((fail_if_success (refine A.litP? rfl ?_));refine A.gSP rfl (fun hc=>?_) (fun hc=>?_)))
  (all_goals (refine R_ ?_;refine Sb.eq (ab_eq ?_)))
  all_goals simp_all [GD.kind]
 rw [if_neg k4,Bool.and_false]
 clear hft hin p1 p2 p3
 refine p_ tt_ok Tryz.func164 56 fun w0 h0 F hgs=>?_
 (repeat' first|first|refine A.s rfl ?_|refine A.r rfl rfl ?_|refine A.w rfl rfl ?_|refine A.p rfl ?_|refine A.b rfl fun bx=>?_|refine A.t rfl fun bl=>?_|refine A.c rfl hfc .refl ?_|refine A.cond rfl (fun h=>(by simp [GD.kind] at h;omega)) (fun _=>?_)|((fail_if_success (refine A.lit? rfl ?_));refine A.gS rfl (fun hc=>?_) (fun hc=>?_))|((fail_if_success (refine A.litP? rfl ?_));refine A.gSP rfl (fun hc=>?_) (fun hc=>?_)))
 (all_goals (refine R_ ?_;refine Sb.eq (ab_eq ?_)))
 all_goals rfl
section
variable(l:List KV)(ch:List Int)
variable(hl:l.length≤281474976710656)(hv:VarsOk l)
def IsCheck(f:FuncId)(p:PR):Prop:= ∀(x:Nat→AV) (lf:Int),Pure Tryz.prog gs0 f [ckP l ch x lf,cellsR p] (AB (kindB l ch.length p))
theorem nothing_p(p:PR)(hk:p.kind=1∨p.kind=2):IsCheck l ch 140 p:=fun x lf=>by
 have hs:=shape_p p false false 0 0 0 0 0 0 0 0
 have he:kindB l ch.length p=shapeR p false false 0 0 0 0 0 0 0 0:=by rw [kindB,if_pos hk]
 rw [he]
 refine p_ tt_ok Tryz.func140 11 fun w0 h0 F hgs=>?_
 (refine b_ fun bx=>?_;refine y_ ?_);exact cr_ hs
theorem seq_p(p:PR)(hk:p.kind=9):IsCheck l ch 147 p:=fun x lf=>by
 have hs:=shape_p p false false 0 0 0 0 0 0 0 2048
 have he:kindB l ch.length p=shapeR p false false 0 0 0 0 0 0 0 2048:=by simp [kindB,hk]
 rw [he]
 refine p_ tt_ok Tryz.func147 11 fun w0 h0 F hgs=>?_
 (refine b_ fun bx=>?_;refine y_ ?_);exact cr_ hs
theorem par_p(p:PR)(hk:p.kind=10):IsCheck l ch 148 p:=fun x lf=>by
 have hs:=shape_p p false false 0 0 0 0 0 0 0 16
 have he:kindB l ch.length p=shapeR p false false 0 0 0 0 0 0 0 16:=by simp [kindB,hk]
 rw [he]
 refine p_ tt_ok Tryz.func148 11 fun w0 h0 F hgs=>?_
 (refine b_ fun bx=>?_;refine y_ ?_);exact cr_ hs
theorem pri_p(p:PR)(hk:p.kind=11):IsCheck l ch 149 p:=fun x lf=>by
 have hs:=shape_p p false false 0 0 0 0 0 0 2 2
 have he:kindB l ch.length p=shapeR p false false 0 0 0 0 0 0 2 2:=by simp [kindB,hk]
 rw [he]
 refine p_ tt_ok Tryz.func149 11 fun w0 h0 F hgs=>?_
 (refine b_ fun bx=>?_;refine y_ ?_);exact cr_ hs
theorem clear_p(p:PR)(hk:p.kind=3):IsCheck l ch 141 p:=fun x lf=>by
 have hs:=shape_p p false true 0 0 0 0 0 0 0 0
 have hlen:((l.map encV).length:Int)=l.length:=by rw [List.length_map]
 have he:kindB l ch.length p=(shapeR p false true 0 0 0 0 0 0 0 0&&decide (0≤p.v)&&decide (p.v<((l.map encV).length:Int))):=by rw [hlen];simp [kindB,hk]
 rw [he]
 generalize shapeR p false true 0 0 0 0 0 0 0 0=b at hs⊢
 refine p_ tt_ok Tryz.func141 27 fun w0 h0 F hgs=>?_
 (refine b_ fun bx=>?_;refine y_ ?_)
 refine d_ 20 [0,1,2,3,4,5,6,7,8,9,10,11,12,13,14,15,16,17,18,19] [(5,AB b)] ?_
 refine cw_ hs ?_
 refine WA.gS rfl (fun hc=>?_) (fun hc=>?_)
 ·refine w_ ?_
  refine WA.gS rfl (fun hd=>?_) (fun hd=>?_)
  ·refine w_ ?_
   refine z_ ?_;refine R_ ?_;refine Sb.eq (ab_eq ?_);have hd:decide (0≤p.v)=true:=hd;rw [hc,hd];rfl
  ·refine w_ ?_
   refine z_ ?_;refine R_ ?_;refine Sb.eq (ab_eq ?_);have hd:decide (0≤p.v)=false:=hd;rw [hc,hd];rfl
 ·refine w_ ?_
  refine z_ ?_;refine R_ ?_;refine Sb.eq (ab_eq ?_);rw [hc];rfl
theorem rng11{n:Nat}(h:inB n 1 1=true):n=1:=by
 simp only [inB,Bool.and_eq_true,decide_eq_true_eq] at h;omega
theorem shape_to{p:PR}{c v:Bool}{e1 e2 g1 g2 l1 l2:Int}(h:shapeR p c v 1 1 e1 e2 g1 g2 l1 l2=true): ∃t,p.to=[t]:=by
 simp only [shapeR,Bool.and_eq_true] at h
 have:=rng11 h.1.1.1.2
 match hh:p.to,this with
 | [t],_=>exact ⟨t,rfl⟩
theorem shape_e{p:PR}{c v:Bool}{t1 t2 g1 g2 l1 l2:Int}(h:shapeR p c v t1 t2 1 1 g1 g2 l1 l2=true): ∃t,p.e=[t]:=by
 simp only [shapeR,Bool.and_eq_true] at h
 have:=rng11 h.1.1.2
 match hh:p.e,this with
 | [t],_=>exact ⟨t,rfl⟩
include hl hv
theorem in16_p(p:PR)(hw:WfR p)(hk:p.kind=5):IsCheck l ch 143 p:=fun x lf=>by
 have hs:=shape_p p true false 1 1 0 0 0 0 0 0
 have he:kindB l ch.length p=(shapeR p true false 1 1 0 0 0 0 0 0&&to1 (inputB l ch.length p.c p.item) p.to):=by simp [kindB,hk]
 rw [he]
 cases hb:shapeR p true false 1 1 0 0 0 0 0 0 with
 |false=>
  rw [hb] at hs
  refine p_ tt_ok Tryz.func143 23 fun w0 h0 F hgs=>?_
  (refine b_ fun bx=>?_;refine y_ ?_)
  refine d_ 16 [0,1,2,3,4,5,6,7,8,9,10,11,12,13,14,15] [(5,AB false)] ?_
  refine cw_ hs ?_
  refine z_ ?_;exact r_
 |true=>
  rw [hb] at hs
  obtain ⟨t,ht⟩:=shape_to hb
  have hin:=input_p l ch x lf hl hv p.c p.item t (hw.to t (by rw [ht];exact List.mem_cons_self ..))
  have h1:to1 (inputB l ch.length p.c p.item) p.to=inputB l ch.length p.c p.item t:=by rw [ht];rfl
  rw [h1]
  refine p_ tt_ok Tryz.func143 23 fun w0 h0 F hgs=>?_
  (refine b_ fun bx=>?_;refine y_ ?_)
  refine d_ 16 [0,1,2,3,4,5,6,7,8,9,10,11,12,13,14,15] [(5,AB true)] ?_
  refine cw_ hs ?_
  refine iw_ rfl (show (p.to.map encPl)[(0:Int).toNat]? =some (encPl t) from map_at (by rw [ht];rfl)) rfl ?_
  refine WA.nil (l:=[]) rfl ?_
  exact cr_ hin
omit hl hv in
theorem out_a(p:PR)(x:Nat→AV)(lf:Int)(hs:Pure Tryz.prog gs0 157 [cellsR p,AB true,AB false,twoA 0 0,twoA 1 1,twoA 0 0,twoA 0 0] (AB false)):Pure Tryz.prog gs0 144 [ckP l ch x lf,cellsR p] (AB false):=by
 refine p_ tt_ok Tryz.func144 29 fun w0 h0 F hgs=>?_
 (refine b_ fun bx=>?_;refine y_ ?_)
 refine d_ 22 [0,1,2,3,4,5,6,7,8,9,10,11,12,13,14,15,16,17,18,19,20,21] [(5,AB false),(12,AB false)] ?_
 refine cw_ hs ?_
 refine z_ ?_;exact r_
omit hl hv in
theorem out_b(p:PR)(x:Nat→AV)(lf:Int)(hs:Pure Tryz.prog gs0 157 [cellsR p,AB true,AB false,twoA 0 0,twoA 1 1,twoA 0 0,twoA 0 0] (AB true))(hch:Pure Tryz.prog gs0 161 [ckP l ch x lf,AI p.c,AU8 p.item,AI 0] (AB false)):
 Pure Tryz.prog gs0 144 [ckP l ch x lf,cellsR p] (AB false):=by
 refine p_ tt_ok Tryz.func144 29 fun w0 h0 F hgs=>?_
 (refine b_ fun bx=>?_;refine y_ ?_)
 refine d_ 22 [0,1,2,3,4,5,6,7,8,9,10,11,12,13,14,15,16,17,18,19,20,21] [(5,AB true),(12,AB false)] ?_
 refine cw_ hs ?_
 refine cw_ hch ?_
 refine z_ ?_;exact r_
omit hl hv in
theorem out_c(p:PR)(x:Nat→AV)(lf:Int)(e:KE)(bf:Bool)(he:(encKl p.e)[(0:Int).toNat]? =some (encK e))(hs:Pure Tryz.prog gs0 157 [cellsR p,AB true,AB false,twoA 0 0,twoA 1 1,twoA 0 0,twoA 0 0] (AB true))(hch:Pure Tryz.prog gs0 161 [ckP l ch x lf,AI p.c,AU8 p.item,AI 0] (AB true))
 (hf:Pure Tryz.prog gs0 159 [ckP l ch x lf,cellsK e,AU8 p.item] (AB bf)):Pure Tryz.prog gs0 144 [ckP l ch x lf,cellsR p] (AB bf):=by
 refine p_ tt_ok Tryz.func144 29 fun w0 h0 F hgs=>?_
 (refine b_ fun bx=>?_;refine y_ ?_)
 refine d_ 22 [0,1,2,3,4,5,6,7,8,9,10,11,12,13,14,15,16,17,18,19,20,21] [(5,AB true),(12,AB true)] ?_
 refine cw_ hs ?_
 refine cw_ hch ?_
 refine iw_ rfl he (encK_eq e) ?_
 refine WA.nil (l:=[]) rfl ?_
 exact cr_ hf
theorem out16_p(p:PR)(hw:WfR p)(hk:p.kind=6):IsCheck l ch 144 p:=fun x lf=>by
 have hs:=shape_p p true false 0 0 1 1 0 0 0 0
 have he:kindB l ch.length p=(shapeR p true false 0 0 1 1 0 0 0 0&&chanB ch.length p.c p.item 0&&fit1 l p.e p.item):=by simp [kindB,hk]
 rw [he]
 cases hb:shapeR p true false 0 0 1 1 0 0 0 0 with
 |false=>rw [hb] at hs;exact out_a l ch p x lf hs
 |true=>
 rw [hb] at hs
 obtain ⟨e,ht⟩:=shape_e hb
 have hch:=chan_p l ch x lf p.c p.item 0
 have h1:fit1 l p.e p.item=fitV l e p.item:=by rw [ht];rfl
 rw [h1]
 cases hc:chanB ch.length p.c p.item 0 with
 |false=>rw [hc] at hch;exact out_b l ch p x lf hs hch
 |true=>
  rw [hc] at hch
  have hpi:1≤p.item∧p.item≤3:=by simp only [chanB,primB,Bool.and_eq_true,decide_eq_true_eq] at hc;omega
  have hf:=kfit_p l ch x lf hl hv e (hw.e e (by rw [ht];exact List.mem_cons_self ..)) p.item hpi
  rw [Bool.and_self,Bool.true_and]
  exact out_c l ch p x lf e _ (encKl_at (by rw [ht];rfl)) hs hch hf
theorem time16_p(p:PR)(hw:WfR p)(hk:p.kind=7):IsCheck l ch 145 p:=fun x lf=>by
 have hs:=shape_p p false false 1 1 0 0 0 0 0 0
 have he:kindB l ch.length p=(shapeR p false false 1 1 0 0 0 0 0 0&&to1 (fun t=>placeB l t 1) p.to):=by simp [kindB,hk]
 rw [he]
 cases hb:shapeR p false false 1 1 0 0 0 0 0 0 with
 |false=>
  rw [hb] at hs
  refine p_ tt_ok Tryz.func145 19 fun w0 h0 F hgs=>?_
  (refine b_ fun bx=>?_;refine y_ ?_);exact cr_ hs
 |true=>
  rw [hb] at hs
  obtain ⟨t,ht⟩:=shape_to hb
  have hin:=place_p l ch x lf hl hv t (hw.to t (by rw [ht];exact List.mem_cons_self ..)) 1
  have h1:to1 (fun t=>placeB l t 1) p.to=placeB l t 1:=by rw [ht];rfl
  rw [h1]
  refine p_ tt_ok Tryz.func145 19 fun w0 h0 F hgs=>?_
  (refine b_ fun bx=>?_;refine y_ ?_);refine c_ hs ?_
  refine i_ rfl (show (p.to.map encPl)[(0:Int).toNat]? =some (encPl t) from map_at (by rw [ht];rfl)) rfl ?_;exact cr_ hin
theorem after16_p(p:PR)(hw:WfR p)(hk:p.kind=8):IsCheck l ch 146 p:=fun x lf=>by
 have hs:=shape_p p false false 0 0 1 1 0 0 0 0
 have he:kindB l ch.length p=(shapeR p false false 0 0 1 1 0 0 0 0&&fit1 l p.e 1):=by simp [kindB,hk]
 rw [he]
 cases hb:shapeR p false false 0 0 1 1 0 0 0 0 with
 |false=>
  rw [hb] at hs
  refine p_ tt_ok Tryz.func146 19 fun w0 h0 F hgs=>?_
  (refine b_ fun bx=>?_;refine y_ ?_);exact cr_ hs
 |true=>
  rw [hb] at hs
  obtain ⟨e,ht⟩:=shape_e hb
  have hin:=kfit_p l ch x lf hl hv e (hw.e e (by rw [ht];exact List.mem_cons_self ..)) 1 (by decide)
  have h1:fit1 l p.e 1=fitV l e 1:=by rw [ht];rfl
  rw [h1]
  refine p_ tt_ok Tryz.func146 19 fun w0 h0 F hgs=>?_
  (refine b_ fun bx=>?_;refine y_ ?_);refine c_ hs ?_
  refine i_ rfl (show (encKl p.e)[(0:Int).toNat]? =some (encK e) from encKl_at (by rw [ht];rfl)) (encK_eq e) ?_;exact cr_ hin
theorem loop16_p(p:PR)(hw:WfR p)(hk:p.kind=13):IsCheck l ch 151 p:=fun x lf=>by
 have hs:=shape_p p false false 0 0 1 1 0 0 1 1
 have he:kindB l ch.length p=(shapeR p false false 0 0 1 1 0 0 1 1&&fit1 l p.e 3):=by simp [kindB,hk]
 rw [he]
 cases hb:shapeR p false false 0 0 1 1 0 0 1 1 with
 |false=>
  rw [hb] at hs
  refine p_ tt_ok Tryz.func151 19 fun w0 h0 F hgs=>?_
  (refine b_ fun bx=>?_;refine y_ ?_);exact cr_ hs
 |true=>
  rw [hb] at hs
  obtain ⟨e,ht⟩:=shape_e hb
  have hin:=kfit_p l ch x lf hl hv e (hw.e e (by rw [ht];exact List.mem_cons_self ..)) 3 (by decide)
  have h1:fit1 l p.e 3=fitV l e 3:=by rw [ht];rfl
  rw [h1]
  refine p_ tt_ok Tryz.func151 19 fun w0 h0 F hgs=>?_
  (refine b_ fun bx=>?_;refine y_ ?_);refine c_ hs ?_
  refine i_ rfl (show (encKl p.e)[(0:Int).toNat]? =some (encK e) from encKl_at (by rw [ht];rfl)) (encK_eq e) ?_;exact cr_ hin
theorem choice1_p(x:Nat→AV)(lf:Int)(p:PR)(g:GD)(hw:WfG g):Pure Tryz.prog gs0 163 [cellsG g, .pe 1 (ckP l ch x lf), .pe 8 (cellsR p)] (AB (!guardB l ch.length g (p.kind==12))):=by
 have hg:=guard_p l ch x lf hl hv g hw (p.kind==12)
 refine p_ tt_ok Tryz.func163 12 fun w0 h0 F hgs=>?_
 (refine b_ fun bx=>?_;refine y_ ?_);exact cr_ hg
theorem choice16_p(p:PR)(hw:WfR p)(hk:p.kind=12∨p.kind=14∨p.kind=15):IsCheck l ch 150 p:=fun x lf=>by
 have hs:=shape_p p false false 0 0 0 0 0 16 0 0
 have he:kindB l ch.length p=(shapeR p false false 0 0 0 0 0 16 0 0&& !p.gs.any fun g=> !guardB l ch.length g (p.kind==12)):=by
  rw [List.not_any_eq_all_not];rcases hk with hk|hk|hk<;>simp [kindB,hk]
 rw [he]
 have hg:=hasG_p 163 [.pe 1 (ckP l ch x lf), .pe 8 (cellsR p)] (fun g=> !guardB l ch.length g (p.kind==12)) p.gs (fun g hgm=>choice1_p l ch hl hv x lf p g (wfG_all (hw.g g hgm))) hw.gl
 cases hb:shapeR p false false 0 0 0 0 0 16 0 0 with
 |false=>
  rw [hb] at hs
  refine p_ tt_ok Tryz.func150 17 fun w0 h0 F hgs=>?_
  (refine b_ fun bx=>?_;refine b_ fun bx=>?_;refine y_ ?_);exact cr_ hs
 |true=>
  rw [hb] at hs
  refine p_ tt_ok Tryz.func150 17 fun w0 h0 F hgs=>?_
  (refine b_ fun bx=>?_;refine b_ fun bx=>?_;refine y_ ?_);refine n_ hs ?_
  refine A.freeze 2 (sz:=1) rfl rfl rfl ?_
  refine A.freeze 3 (sz:=8) rfl rfl rfl ?_
  refine y_ ?_;exact cr_ hg
end
theorem zip_len{α β:Type}{a:List α}{b:List β}(h:a.length=b.length):(a.zip b).length=a.length:=by rw [List.length_zip,h,Nat.min_self]
theorem zip_both{α β:Type}{a:List α}{b:List β}{i:Nat}{x:α}{y:β}(h1:a[i]? =some x)(h2:b[i]? =some y):(a.zip b)[i]? =some (x,y):=List.getElem?_zip_eq_some.2 ⟨h1,h2⟩
theorem assign_no{l:List KV}{t:PL}{e:KE}{r:List (PL×KE)}(h:assignB l t e=false):((t,e)::r).all (fun te=>assignB l te.1 te.2)=false:=by rw [List.all_cons,h];rfl
theorem assign_a(l:List KV)(ch:List Int)(p:PR)(x:Nat→AV)(lf:Int)(hs:Pure Tryz.prog gs0 157 [cellsR p,AB false,AB false,twoA 1 8,twoA 1 8,twoA 0 0,twoA 0 0] (AB false)):Pure Tryz.prog gs0 142 [ckP l ch x lf,cellsR p] (AB false):=by
 refine p_ tt_ok Tryz.func142 84 fun w0 h0 F hgs=>?_
 (refine b_ fun bx=>?_;refine b_ fun bx=>?_;refine y_ ?_);exact cr_ hs
theorem assign_b(l:List KV)(ch:List Int)(p:PR)(x:Nat→AV)(lf:Int)(hs:Pure Tryz.prog gs0 157 [cellsR p,AB false,AB false,twoA 1 8,twoA 1 8,twoA 0 0,twoA 0 0] (AB true))(hle:p.to.length≠p.e.length):Pure Tryz.prog gs0 142 [ckP l ch x lf,cellsR p] (AB false):=by
 have n1:((p.to.map encPl).length:Int)=p.to.length:=by rw [List.length_map]
 have n2:((encKl p.e).length:Int)=p.e.length:=by rw [encKl_len]
 refine p_ tt_ok Tryz.func142 84 fun w0 h0 F hgs=>?_
 (refine b_ fun bx=>?_;refine b_ fun bx=>?_;refine y_ ?_);refine c_ hs ?_
 refine e_ 24 rfl (x':=AB true) (ab_eq (by rw [n1,n2];simp;omega)) ?_;exact r_
theorem assign_c(l:List KV)(ch:List Int)(hl:l.length≤281474976710656)(hv:VarsOk l)(p:PR)(hw:WfR p)(x:Nat→AV)(lf:Int)(hs:Pure Tryz.prog gs0 157 [cellsR p,AB false,AB false,twoA 1 8,twoA 1 8,twoA 0 0,twoA 0 0] (AB true))(hle:p.to.length=p.e.length)(hto8:p.to.length≤8)(R:Bool)(hR:(p.to.zip p.e).all (fun te=>assignB l te.1 te.2)=R):
 Pure Tryz.prog gs0 142 [ckP l ch x lf,cellsR p] (AB R):=by
 have hlen:((l.map encV).length:Int)=l.length:=by rw [List.length_map]
 have n1:((p.to.map encPl).length:Int)=p.to.length:=by rw [List.length_map]
 have n2:((encKl p.e).length:Int)=p.e.length:=by rw [encKl_len]
 refine p_ tt_ok Tryz.func142 84 fun w0 h0 F hgs=>?_
 (refine b_ fun bx=>?_;refine b_ fun bx=>?_;refine y_ ?_);refine c_ hs ?_
 refine e_ 24 rfl (x':=AB false) (ab_eq (by rw [n1,n2];simp;omega)) ?_
 refine A.valE 27 rfl (x':=AI (p.to.length:Nat)) (ai_eq n1) ?_
 refine l_ (Λ':=[.box _ (cellsR p)]) ?_
 refine A.keep [0,3,26,27,28] rfl ?_
 refine A.loopP (ι:=Nat) (fun i=>(⟨[(0,ckP l ch x lf),(3, .v (.pointer (some ⟨_,0,none⟩))),(26,plsA p.to),(27,AI (p.to.length:Nat)),(28,AI (i:Nat))],[]⟩,[.box _ (cellsR p)]))
  (fun i=>i≤p.to.length∧((p.to.zip p.e).drop i).all (fun te=>assignB l te.1 te.2)=R) (fun i=>p.to.length-i) 0 ⟨by omega,hR⟩ rfl fun i hi ih=>?_
 refine y_ ?_
 refine k_ (fun hc=>?_) fun hc=>?_
 ·simp at hc
  refine Exists.elim (at_exN (l:=p.to) (i:=i) (by omega)) fun t ht=>?_
  refine Exists.elim (at_exN (l:=p.e) (i:=i) (by omega)) fun e hee=>?_
  have hwt:=hw.to t (List.mem_of_getElem? ht)
  have hwe:=hw.e e (List.mem_of_getElem? hee)
  have h1:=hi.2
  rw [drop_at (zip_both ht hee)] at h1
  by_cases hneg:t.v<0
  ·rw [assign_no (by rw [assignB,if_pos (.inl hneg)])] at h1
   refine y_ ?_
   refine j_ rfl (map_at ht) rfl ?_
   (refine b_ fun bx=>?_;refine y_ ?_)
   refine d_ 47 [0,1,2,3,4,5,6,7,8,9,10,11,12,13,14,15,16,17,18,19,20,21,22,23,24,25,26,27,28,29,30,31,32,33,34,35,36,37,38,39,40,41,42,43,44,45,46] [(27,AB false)] ?_
   refine ew_ 36 rfl (x':=AB true) (ab_eq (by simpa using hneg)) ?_
   refine z_ ?_;refine R_ ?_;rw [←h1];exact .refl
  by_cases hout:(l.length:Int)≤t.v
  ·rw [assign_no (by rw [assignB,if_pos (.inr hout)])] at h1
   refine y_ ?_
   refine j_ rfl (map_at ht) rfl ?_
   (refine b_ fun bx=>?_;refine y_ ?_)
   refine d_ 47 [0,1,2,3,4,5,6,7,8,9,10,11,12,13,14,15,16,17,18,19,20,21,22,23,24,25,26,27,28,29,30,31,32,33,34,35,36,37,38,39,40,41,42,43,44,45,46] [(27,AB false)] ?_
   refine ew_ 36 rfl (x':=AB false) (ab_eq (by simp;omega)) ?_
   refine ew_ 47 rfl (x':=AB true) (ab_eq (by rw [hlen];simpa using hout)) ?_
   refine z_ ?_;refine R_ ?_;rw [←h1];exact .refl
  refine Exists.elim (at_ex (l:=l) (i:=t.v) (by omega) (by omega)) fun y hy=>?_
  have hyk:=hv y (List.mem_of_getElem? hy)
  have hv0:(0:Int)≤t.v:=by omega
  have hab:assignB l t e=(placeB l t y.kind&&fitV l e y.kind):=by rw [assignB,if_neg (by omega),hy]
  have hpl:=place_p l ch x lf hl hv t hwt y.kind
  have hft:=kfit_p l ch x lf hl hv e hwe y.kind hyk
  generalize placeB l t y.kind=b1 at hpl hab
  generalize fitV l e y.kind=b2 at hft hab
  cases b1 with
  |false=>
   rw [assign_no (by rw [hab];rfl)] at h1
   refine y_ ?_
   refine j_ rfl (map_at ht) rfl ?_
   (refine b_ fun bx=>?_;refine y_ ?_)
   refine d_ 47 [0,1,2,3,4,5,6,7,8,9,10,11,12,13,14,15,16,17,18,19,20,21,22,23,24,25,26,27,28,29,30,31,32,33,34,35,36,37,38,39,40,41,42,43,44,45,46] [(27,AB false)] ?_
   refine ew_ 36 rfl (x':=AB false) (ab_eq (by simp;omega)) ?_
   refine ew_ 47 rfl (x':=AB false) (ab_eq (by rw [hlen];simp;omega)) ?_
   refine WA.x rfl hv0 (map_at hy) rfl rfl ?_
   refine w_ ?_
   refine cw_ hpl ?_
   refine z_ ?_;refine R_ ?_;rw [←h1];exact .refl
  |true=>
   refine y_ ?_
   refine j_ rfl (map_at ht) rfl ?_
   (refine b_ fun bx=>?_;refine y_ ?_)
   refine d_ 47 [0,1,2,3,4,5,6,7,8,9,10,11,12,13,14,15,16,17,18,19,20,21,22,23,24,25,26,27,28,29,30,31,32,33,34,35,36,37,38,39,40,41,42,43,44,45,46] [(27,AB true)] ?_
   refine ew_ 36 rfl (x':=AB false) (ab_eq (by simp;omega)) ?_
   refine ew_ 47 rfl (x':=AB false) (ab_eq (by rw [hlen];simp;omega)) ?_
   refine WA.x rfl hv0 (map_at hy) rfl rfl ?_
   refine w_ ?_
   refine cw_ hpl ?_
   refine iw_ rfl (encKl_at hee) (encK_eq e) ?_
   refine WA.x rfl hv0 (map_at hy) rfl rfl ?_
   refine w_ ?_
   refine WA.nil (l:=[]) rfl ?_
   refine c_ hft ?_
   refine A.valE 82 rfl (x':=AB (!b2)) (ab_eq (by cases b2<;>rfl)) ?_
   refine k_ (fun hc=>?_) fun hc=>?_
   ·have hf:b2=false:=by simpa using hc
    rw [assign_no (by rw [hab,hf,Bool.and_false])] at h1
    refine y_ ?_;refine R_ ?_;rw [←h1];exact .refl
   ·have hf:b2=true:=by simpa using hc
    rw [List.all_cons] at h1
    have hat:assignB l t e=true:=by rw [hab,hf];rfl
    simp only [hat,Bool.true_and] at h1
    refine y_ ?_
    refine A.valE 28 rfl (x':=AI ((i+1:Nat):Int)) (inc_eq i (by omega)) ?_
    refine l_ (Λ':=[.box _ (cellsR p)]) ?_
    refine u_ (ih (i+1) ⟨by omega,h1⟩ (by omega))
 ·simp at hc
  have hil:i=p.to.length:=by omega
  have h1:=hi.2
  rw [List.drop_eq_nil_of_le (by rw [zip_len hle];omega),List.all_nil] at h1
  refine y_ ?_;refine R_ ?_;rw [←h1];exact .refl
theorem assign16_p(l:List KV)(ch:List Int)(hl:l.length≤281474976710656)(hv:VarsOk l)(p:PR)(hw:WfR p)(hk:p.kind=4):IsCheck l ch 142 p:=fun x lf=>by
 have hs:=shape_p p false false 1 8 1 8 0 0 0 0
 have he:kindB l ch.length p=(shapeR p false false 1 8 1 8 0 0 0 0&&(p.to.length==p.e.length)&&(p.to.zip p.e).all fun te=>assignB l te.1 te.2):=by simp [kindB,hk]
 rw [he]
 cases hb:shapeR p false false 1 8 1 8 0 0 0 0 with
 |false=>rw [hb] at hs;rw [Bool.false_and,Bool.false_and];exact assign_a l ch p x lf hs
 |true=>
 rw [hb] at hs
 by_cases hle:p.to.length=p.e.length
 ·have e0:(p.to.length==p.e.length)=true:=by simpa using hle
  rw [e0,Bool.true_and,Bool.true_and]
  have hto8:p.to.length≤8:=by
   simp only [shapeR,inB,Bool.and_eq_true,decide_eq_true_eq] at hb;omega
  exact assign_c l ch hl hv p hw x lf hs hle hto8 _ rfl
 ·have e0:(p.to.length==p.e.length)=false:=by simpa using hle
  rw [e0,Bool.true_and,Bool.false_and]
  exact assign_b l ch p x lf hs hle
def checkF(k:Int):FuncId:=if k=1∨k=2 then 140 else if k=3 then 141 else if k=4 then 142 else if k=5 then 143 else if k=6 then 144
 else if k=7 then 145 else if k=8 then 146 else if k=9 then 147 else if k=10 then 148 else if k=11 then 149 else if k=13 then 151 else 150
theorem kinds15{k:Int}(h:1≤k∧k≤15):k=1∨k=2∨k=3∨k=4∨k=5∨k=6∨k=7∨k=8∨k=9∨k=10∨k=11∨k=12∨k=13∨k=14∨k=15:=by omega
theorem check_some(b:Nat)(k:Int)(h:1≤k∧k≤15):Pure Tryz.prog gs0 125 [ptrA b,AU8 k] (.fn (checkF k) [ptrA b] []):=by
 rcases kinds15 h with rfl|rfl|rfl|rfl|rfl|rfl|rfl|rfl|rfl|rfl|rfl|rfl|rfl|rfl|rfl
 all_goals refine p_ tt_ok Tryz.func125 39 fun w0 h0 F hgs=>?_
 all_goals refine y_ ?_
 all_goals refine A.makeMap rfl rfl rfl rfl fun bm=>?_
 all_goals (repeat first|first|refine A.s rfl ?_|refine A.r rfl rfl ?_|refine A.w rfl rfl ?_|refine A.p rfl ?_|refine A.b rfl fun bx=>?_|refine A.t rfl fun bl=>?_|refine A.insert rfl rfl rfl rfl rfl rfl rfl rfl rfl rfl rfl ?_)
 all_goals refine A.lookup rfl rfl rfl rfl rfl rfl rfl rfl rfl rfl rfl rfl ?_
 all_goals (exact yr_)
theorem posK_not{k:Int}(h: ¬(1≤k∧k≤15)):posK .u8 k [.int .u8 1, .int .u8 2, .int .u8 3, .int .u8 4, .int .u8 5, .int .u8 6, .int .u8 7, .int .u8 8, .int .u8 9, .int .u8 10, .int .u8 11, .int .u8 12, .int .u8 13, .int .u8 14, .int .u8 15]=some none:=by
 have e: ∀m:Int,1≤m→m≤15→(k==m)=false:=fun m h1 h2=>by
  rw [beq_eq_false_iff_ne];rintro rfl;exact h ⟨h1,h2⟩
 simp only [posK,decide_true,e 1 (by decide) (by decide),e 2 (by decide) (by decide),e 3 (by decide) (by decide),e 4 (by decide) (by decide),e 5 (by decide) (by decide),e 6 (by decide) (by decide),e 7 (by decide) (by decide),e 8 (by decide) (by decide),
  e 9 (by decide) (by decide),e 10 (by decide) (by decide),e 11 (by decide) (by decide),e 12 (by decide) (by decide),e 13 (by decide) (by decide),e 14 (by decide) (by decide),e 15 (by decide) (by decide)]
theorem check_none(b:Nat)(k:Int)(h: ¬(1≤k∧k≤15)):Pure Tryz.prog gs0 125 [ptrA b,AU8 k] (.v .nilFunc):=by
 refine p_ tt_ok Tryz.func125 39 fun w0 h0 F hgs=>?_
 refine y_ ?_
 refine A.makeMap rfl rfl rfl rfl fun bm=>?_
 (repeat first|first|refine A.s rfl ?_|refine A.r rfl rfl ?_|refine A.w rfl rfl ?_|refine A.p rfl ?_|refine A.b rfl fun bx=>?_|refine A.t rfl fun bl=>?_|refine A.insert rfl rfl rfl rfl rfl rfl rfl rfl rfl rfl rfl ?_)
 refine A.lookupNil (v:= .nilFunc) rfl rfl rfl rfl rfl rfl rfl rfl (by kernel_rfl) rfl (posK_not h) rfl rfl ?_
 exact yr_
section
variable(l:List KV)(n:Nat)
mutual
def okR(high:Bool):PR→Bool
 |⟨k,c,v,i,to,e,gs,b⟩=>kindB l n ⟨k,c,v,i,to,e,gs,b⟩&& !(high&&k==11)&&okL high (k==11) b&&okGs high gs
def okL(high first:Bool):List PR→Bool
 | []=>true
 |p::r=>okR (high||first) p&&okL high false r
def okG(high:Bool):GD→Bool
 |⟨_,_,_,_,_,_,b⟩=>okL high false b
def okGs(high:Bool):List GD→Bool
 | []=>true
 |g::r=>okG high g&&okGs high r
end
end
mutual
def szR:PR→Nat
 |⟨_,_,_,_,_,_,gs,b⟩=>1+szL b+szGs gs
def szL:List PR→Nat
 | []=>0
 |p::r=>szR p+szL r
def szG:GD→Nat
 |⟨_,_,_,_,_,_,b⟩=>szL b
def szGs:List GD→Nat
 | []=>0
 |g::r=>szG g+szGs r
end
mutual
def htR:PR→Nat
 |⟨_,_,_,_,_,_,gs,b⟩=>1+max (htL b) (htGs gs)
def htL:List PR→Nat
 | []=>0
 |p::r=>max (htR p) (htL r)
def htG:GD→Nat
 |⟨_,_,_,_,_,_,b⟩=>htL b
def htGs:List GD→Nat
 | []=>0
 |g::r=>max (htG g) (htGs r)
end
theorem okR_eq(l:List KV)(n:Nat)(high:Bool)(p:PR):okR l n high p=(kindB l n p&& !(high&&p.kind==11)&&okL l n high (p.kind==11) p.l&&okGs l n high p.gs):=by obtain ⟨k,c,v,i,to,e,gs,b⟩:=p;rw [okR]
theorem szR_eq(p:PR):szR p=1+szL p.l+szGs p.gs:=by obtain ⟨k,c,v,i,to,e,gs,b⟩:=p;rw [szR]
theorem htR_eq(p:PR):htR p=1+max (htL p.l) (htGs p.gs):=by obtain ⟨k,c,v,i,to,e,gs,b⟩:=p;rw [htR]
theorem okG_eq(l:List KV)(n:Nat)(high:Bool)(g:GD):okG l n high g=okL l n high false g.body:=by obtain ⟨k,e,c,i,to,t,b⟩:=g;rw [okG]
theorem szG_eq(g:GD):szG g=szL g.body:=by obtain ⟨k,e,c,i,to,t,b⟩:=g;rw [szG]
theorem htG_eq(g:GD):htG g=htL g.body:=by obtain ⟨k,e,c,i,to,t,b⟩:=g;rw [htG]
theorem szR_pos(p:PR):1≤szR p:=by rw [szR_eq];omega
theorem htR_pos(p:PR):1≤htR p:=by rw [htR_eq];omega
theorem szL_append(a b:List PR):szL (a++b)=szL a+szL b:=by
 induction a with
 |nil=>simp [szL]
 |cons x r ih=>rw [List.cons_append,szL,szL,ih];omega
theorem htL_append(a b:List PR):htL (a++b)=max (htL a) (htL b):=by
 induction a with
 |nil=>simp [htL]
 |cons x r ih=>rw [List.cons_append,htL,htL,ih];omega
theorem szGs_append(a b:List GD):szGs (a++b)=szGs a+szGs b:=by
 induction a with
 |nil=>simp [szGs]
 |cons x r ih=>rw [List.cons_append,szGs,szGs,ih];omega
theorem htGs_append(a b:List GD):htGs (a++b)=max (htGs a) (htGs b):=by
 induction a with
 |nil=>simp [htGs]
 |cons x r ih=>rw [List.cons_append,htGs,htGs,ih];omega
section
variable{l:List KV}{n:Nat}{high:Bool}
theorem okL_append{first:Bool}{a b:List PR}:okL l n high first (a++b)=(okL l n high first a&&okL l n high (first&&a.isEmpty) b):=by
 induction a generalizing first with
 |nil=>simp [okL]
 |cons x r ih=>rw [List.cons_append,okL,okL,ih];simp [Bool.and_assoc]
theorem okGs_append{a b:List GD}:okGs l n high (a++b)=(okGs l n high a&&okGs l n high b):=by
 induction a with
 |nil=>simp [okGs]
 |cons x r ih=>rw [List.cons_append,okGs,okGs,ih,Bool.and_assoc]
def fitsR(l:List KV)(n:Nat)(high:Bool)(p:PR)(room deep:Int):Prop:=okR l n high p=true∧(szR p:Int)≤room∧(htR p:Int)≤deep
instance (l:List KV) (n:Nat) (high:Bool) (p:PR) (room deep:Int):Decidable (fitsR l n high p room deep):=by unfold fitsR;infer_instance
def fitsPs(l:List KV)(n:Nat)(high first:Bool)(ps:List PR)(room deep:Int):Prop:=okL l n high first ps=true∧(szL ps:Int)≤room∧(htL ps:Int)≤deep
def fitsGs(l:List KV)(n:Nat)(high:Bool)(gs:List GD)(room deep:Int):Prop:=okGs l n high gs=true∧(szGs gs:Int)≤room∧(htGs gs:Int)≤deep
theorem fitsR_l{p:PR}{room deep:Int}(hr:1≤room)(hd:1≤deep)(hk:kindB l n p=true)(hh:(high&&p.kind==11)=false):
 fitsR l n high p room deep↔fitsPs l n high (p.kind==11) p.l (room-1) (deep-1)∧fitsGs l n high p.gs (room-1-szL p.l) (deep-1):=by
 unfold fitsR fitsPs fitsGs
 rw [okR_eq,hk,hh,szR_eq,htR_eq,Bool.not_false,Bool.true_and,Bool.true_and,Bool.and_eq_true]
 constructor
 ·rintro ⟨⟨h1,h2⟩,h3,h4⟩;exact ⟨⟨h1,by omega,by omega⟩,h2,by omega,by omega⟩
 ·rintro ⟨⟨h1,h3,h4⟩,h2,h5,h6⟩;exact ⟨⟨h1,h2⟩,by omega,by omega⟩
theorem fitsR_no{p:PR}{r d:Int}(h:r<1∨d<1∨kindB l n p=false∨(high&&p.kind==11)=true): ¬fitsR l n high p r d:=by
 rintro ⟨h1,h2,h3⟩
 have:=szR_pos p
 have:=htR_pos p
 rw [okR_eq] at h1
 simp only [Bool.and_eq_true,Bool.not_eq_true'] at h1
 rcases h with h|h|h|h
 ·omega
 ·omega
 ·rw [h1.1.1.1] at h;cases h
 ·rw [h1.1.1.2] at h;cases h
theorem fitsPs_snoc{first:Bool}{a:List PR}{x:PR}{room deep:Int}(ha:fitsPs l n high first a room deep):fitsPs l n high first (a++[x]) room deep↔fitsR l n (high||(first&&a.isEmpty)) x (room-szL a) deep:=by
 obtain ⟨h1,h2,h3⟩:=ha
 unfold fitsPs fitsR
 rw [okL_append,szL_append,htL_append,h1,Bool.true_and]
 simp only [okL,szL,htL,Bool.and_true]
 constructor
 ·rintro ⟨g1,g2,g3⟩;exact ⟨g1,by omega,by omega⟩
 ·rintro ⟨g1,g2,g3⟩;exact ⟨g1,by omega,by omega⟩
theorem fitsPs_take{first:Bool}{ps:List PR}{room deep:Int}(h:fitsPs l n high first ps room deep)(i:Nat):fitsPs l n high first (ps.take i) room deep:=by
 obtain ⟨h1,h2,h3⟩:=h
 rw [←List.take_append_drop i ps] at h1 h2 h3
 rw [okL_append,Bool.and_eq_true] at h1
 rw [szL_append] at h2
 rw [htL_append] at h3
 exact ⟨h1.1,by omega,by omega⟩
theorem fitsGs_snoc{a:List GD}{x:GD}{y:PR}(hx:x.body=[y]){room deep:Int}(ha:fitsGs l n high a room deep):fitsGs l n high (a++[x]) room deep↔fitsR l n high y (room-szGs a) deep:=by
 obtain ⟨h1,h2,h3⟩:=ha
 have e1:okGs l n high [x]=okR l n high y:=by rw [okGs,okGs,Bool.and_true,okG_eq,hx,okL,okL,Bool.and_true,Bool.or_false]
 have e2:szGs [x]=szR y:=by rw [szGs,szGs,szG_eq,hx,szL,szL];omega
 have e3:htGs [x]=htR y:=by rw [htGs,htGs,htG_eq,hx,htL,htL];omega
 unfold fitsGs fitsR
 rw [okGs_append,szGs_append,htGs_append,h1,Bool.true_and,e1,e2,e3]
 constructor
 ·rintro ⟨g1,g2,g3⟩;exact ⟨g1,by omega,by omega⟩
 ·rintro ⟨g1,g2,g3⟩;exact ⟨g1,by omega,by omega⟩
theorem fitsGs_take{gs:List GD}{room deep:Int}(h:fitsGs l n high gs room deep)(i:Nat):fitsGs l n high (gs.take i) room deep:=by
 obtain ⟨h1,h2,h3⟩:=h
 rw [←List.take_append_drop i gs] at h1 h2 h3
 rw [okGs_append,Bool.and_eq_true] at h1
 rw [szGs_append] at h2
 rw [htGs_append] at h3
 exact ⟨h1.1,by omega,by omega⟩
theorem szL_le: ∀{ps:List PR} {x:PR},x∈ps→szR x≤szL ps
 | [],_,h=>by cases h
 |y::r,x,h=>by
  rw [szL]
  rcases List.mem_cons.1 h with rfl|h
  ·omega
  ·have:=szL_le h;omega
theorem szGs_le: ∀{gs:List GD} {x:GD},x∈gs→szG x≤szGs gs
 | [],_,h=>by cases h
 |y::r,x,h=>by
  rw [szGs]
  rcases List.mem_cons.1 h with rfl|h
  ·omega
  ·have:=szGs_le h;omega
theorem inB_0{m:Nat}(h:inB m 0 0=true):m=0:=by simp only [inB,Bool.and_eq_true,decide_eq_true_eq] at h;omega
theorem kind_bodies{p:PR}(h:kindB l n p=true):1≤p.kind∧p.kind≤15∧ ∀g,g∈p.gs→ ∃y,g.body=[y]:=by
 have h0: ∀{ch v:Bool} {t1 t2 e1 e2 l1 l2:Int},shapeR p ch v t1 t2 e1 e2 0 0 l1 l2=true→ ∀g,g∈p.gs→ ∃y,g.body=[y]:=fun hs g hg=>by
  simp only [shapeR,Bool.and_eq_true] at hs
  have:=inB_0 hs.1.2
  rw [List.length_eq_zero_iff] at this
  rw [this] at hg;cases hg
 unfold kindB at h
 by_cases k0:p.kind=1∨p.kind=2
 ·rw [if_pos k0] at h;exact ⟨by omega,by omega,h0 h⟩
 rw [if_neg k0] at h
 by_cases k1:p.kind=3
 ·rw [if_pos k1,Bool.and_eq_true,Bool.and_eq_true] at h;exact ⟨by omega,by omega,h0 h.1.1⟩
 rw [if_neg k1] at h
 by_cases k2:p.kind=4
 ·rw [if_pos k2,Bool.and_eq_true,Bool.and_eq_true] at h;exact ⟨by omega,by omega,h0 h.1.1⟩
 rw [if_neg k2] at h
 by_cases k3:p.kind=5
 ·rw [if_pos k3,Bool.and_eq_true] at h;exact ⟨by omega,by omega,h0 h.1⟩
 rw [if_neg k3] at h
 by_cases k4:p.kind=6
 ·rw [if_pos k4,Bool.and_eq_true,Bool.and_eq_true] at h;exact ⟨by omega,by omega,h0 h.1.1⟩
 rw [if_neg k4] at h
 by_cases k5:p.kind=7
 ·rw [if_pos k5,Bool.and_eq_true] at h;exact ⟨by omega,by omega,h0 h.1⟩
 rw [if_neg k5] at h
 by_cases k6:p.kind=8
 ·rw [if_pos k6,Bool.and_eq_true] at h;exact ⟨by omega,by omega,h0 h.1⟩
 rw [if_neg k6] at h
 by_cases k7:p.kind=9
 ·rw [if_pos k7] at h;exact ⟨by omega,by omega,h0 h⟩
 rw [if_neg k7] at h
 by_cases k8:p.kind=10
 ·rw [if_pos k8] at h;exact ⟨by omega,by omega,h0 h⟩
 rw [if_neg k8] at h
 by_cases k9:p.kind=11
 ·rw [if_pos k9] at h;exact ⟨by omega,by omega,h0 h⟩
 rw [if_neg k9] at h
 by_cases k10:p.kind=12∨p.kind=14∨p.kind=15
 ·rw [if_pos k10,Bool.and_eq_true,List.all_eq_true] at h
  refine ⟨by omega,by omega,fun g hg=>?_⟩
  have:=h.2 g hg
  simp only [guardB,Bool.and_eq_true,beq_iff_eq] at this
  have h1:=this.1.1.1
  match hb:g.body,h1 with
  | [y],_=>exact ⟨y,rfl⟩
 rw [if_neg k10] at h
 by_cases k11:p.kind=13
 ·rw [if_pos k11,Bool.and_eq_true] at h;exact ⟨by omega,by omega,h0 h.1⟩
 rw [if_neg k11] at h
 cases h
end
section
variable(l:List KV)(ch:List Int)(hl:l.length≤281474976710656)(hv:VarsOk l)
def Lent(f:FuncId)(p:PR):Prop:= ∀(b:Nat) (x:Nat→AV) (lf:Int),Fun Tryz.prog gs0 f [ptrA b,cellsR p] [.box b (ckA l ch x lf)] fun z Λ'=>z=AB (kindB l ch.length p)∧Λ'=[.box b (ckA l ch x lf)]
include hl hv
theorem kind_lent(p:PR)(hw:WfR p)(hk:1≤p.kind∧p.kind≤15):Lent l ch (checkF p.kind) p:=fun b x lf=>by
 by_cases h1:p.kind=1∨p.kind=2
 ·have h:=nothing_p l ch p h1
  rw [checkF,if_pos h1];exact Pure.lend Tryz.func140 rfl rfl (h x lf) rfl (LtL.cons (Lt.box (List.mem_singleton.2 rfl) rfl) (LtL.cons (Lt.sub .refl) LtL.nil))
 rw [checkF,if_neg h1]
 by_cases h3:p.kind=3
 ·have h:=clear_p l ch p h3
  rw [if_pos h3];exact Pure.lend Tryz.func141 rfl rfl (h x lf) rfl (LtL.cons (Lt.box (List.mem_singleton.2 rfl) rfl) (LtL.cons (Lt.sub .refl) LtL.nil))
 rw [if_neg h3]
 by_cases h4:p.kind=4
 ·have h:=assign16_p l ch hl hv p hw h4
  rw [if_pos h4];exact Pure.lend Tryz.func142 rfl rfl (h x lf) rfl (LtL.cons (Lt.box (List.mem_singleton.2 rfl) rfl) (LtL.cons (Lt.sub .refl) LtL.nil))
 rw [if_neg h4]
 by_cases h5:p.kind=5
 ·have h:=in16_p l ch hl hv p hw h5
  rw [if_pos h5];exact Pure.lend Tryz.func143 rfl rfl (h x lf) rfl (LtL.cons (Lt.box (List.mem_singleton.2 rfl) rfl) (LtL.cons (Lt.sub .refl) LtL.nil))
 rw [if_neg h5]
 by_cases h6:p.kind=6
 ·have h:=out16_p l ch hl hv p hw h6
  rw [if_pos h6];exact Pure.lend Tryz.func144 rfl rfl (h x lf) rfl (LtL.cons (Lt.box (List.mem_singleton.2 rfl) rfl) (LtL.cons (Lt.sub .refl) LtL.nil))
 rw [if_neg h6]
 by_cases h7:p.kind=7
 ·have h:=time16_p l ch hl hv p hw h7
  rw [if_pos h7];exact Pure.lend Tryz.func145 rfl rfl (h x lf) rfl (LtL.cons (Lt.box (List.mem_singleton.2 rfl) rfl) (LtL.cons (Lt.sub .refl) LtL.nil))
 rw [if_neg h7]
 by_cases h8:p.kind=8
 ·have h:=after16_p l ch hl hv p hw h8
  rw [if_pos h8];exact Pure.lend Tryz.func146 rfl rfl (h x lf) rfl (LtL.cons (Lt.box (List.mem_singleton.2 rfl) rfl) (LtL.cons (Lt.sub .refl) LtL.nil))
 rw [if_neg h8]
 by_cases h9:p.kind=9
 ·have h:=seq_p l ch p h9
  rw [if_pos h9];exact Pure.lend Tryz.func147 rfl rfl (h x lf) rfl (LtL.cons (Lt.box (List.mem_singleton.2 rfl) rfl) (LtL.cons (Lt.sub .refl) LtL.nil))
 rw [if_neg h9]
 by_cases h10:p.kind=10
 ·have h:=par_p l ch p h10
  rw [if_pos h10];exact Pure.lend Tryz.func148 rfl rfl (h x lf) rfl (LtL.cons (Lt.box (List.mem_singleton.2 rfl) rfl) (LtL.cons (Lt.sub .refl) LtL.nil))
 rw [if_neg h10]
 by_cases h11:p.kind=11
 ·have h:=pri_p l ch p h11
  rw [if_pos h11];exact Pure.lend Tryz.func149 rfl rfl (h x lf) rfl (LtL.cons (Lt.box (List.mem_singleton.2 rfl) rfl) (LtL.cons (Lt.sub .refl) LtL.nil))
 rw [if_neg h11]
 by_cases h13:p.kind=13
 ·have h:=loop16_p l ch hl hv p hw h13
  rw [if_pos h13];exact Pure.lend Tryz.func151 rfl rfl (h x lf) rfl (LtL.cons (Lt.box (List.mem_singleton.2 rfl) rfl) (LtL.cons (Lt.sub .refl) LtL.nil))
 rw [if_neg h13]
 have h:=choice16_p l ch hl hv p hw (by omega)
 exact Pure.lend Tryz.func150 rfl rfl (h x lf) rfl (LtL.cons (Lt.box (List.mem_singleton.2 rfl) rfl) (LtL.cons (Lt.sub .refl) LtL.nil))
end
abbrev procE(l:List KV)(ch:List Int)(x:Nat→AV)(b:Nat)(p:PR)(deep:Int)(high:Bool)(left:Int):Prop:=
 FunE Tryz.prog gs0 72 [ptrA b,cellsR p,AI deep,AB high] [.box b (ckA l ch x left)] (fun _:Int=>AB (decide (fitsR l ch.length high p left (33-deep)))) (fun i=>[.box b (ckA l ch x i)]) (fun i=>fitsR l ch.length high p left (33-deep)→i=left-szR p)
theorem proc_a(l:List KV)(ch:List Int)(x:Nat→AV)(b:Nat)(p:PR)(deep:Int)(high:Bool)(left:Int)(h:left=0∨deep=33)(r0:0≤left)(r1:left≤2048)(f:AV)(hck:Pure Tryz.prog gs0 125 [ptrA b,AU8 p.kind] f):procE l ch x b p deep high left:=by
 have hw1:IntKind.i64.wrap (left-1)=left-1:=wr64 _ (by omega)
 have hnf: ¬fitsR l ch.length high p left (33-deep):=fitsR_no (by omega)
 unfold procE FunE
 refine Fun.of (S:=tt) (fn:=Tryz.f72) (n:=95) tt_ok Tryz.func72 rfl rfl rfl rfl fun w0 h0 F hgs=>?_
 (refine b_ fun bx=>?_;refine y_ ?_)
 refine c_ hck ?_
 refine A.valE 30 rfl (x':=AB (decide (left=0))) (ab_eq (by rw [hw1,Bool.eq_iff_iff];simp;omega)) ?_
 by_cases hz:left=0
 ·refine e_ 30 rfl (x':=AB true) (ab_eq (by simpa using hz)) ?_
  (refine A.ret1 (Λ':=[.box b _]) rfl rfl rfl sl_ ⟨_,Sb.eq (ab_eq ?_),rfl,?_⟩;exact (decide_eq_false hnf).symm;exact fun h=>absurd h hnf)
 ·refine e_ 30 rfl (x':=AB false) (ab_eq (by simpa using hz)) ?_
  refine e_ 34 rfl (x':=AB true) (ab_eq (by simp;omega)) ?_
  (refine A.ret1 (Λ':=[.box b _]) rfl rfl rfl sl_ ⟨_,Sb.eq (ab_eq ?_),rfl,?_⟩;exact (decide_eq_false hnf).symm;exact fun h=>absurd h hnf)
theorem proc_b(l:List KV)(ch:List Int)(x:Nat→AV)(b:Nat)(p:PR)(deep:Int)(high:Bool)(left:Int)(r0:1≤left)(r1:left≤2048)(d0:1≤deep)(d1:deep≤32)(hck:Pure Tryz.prog gs0 125 [ptrA b,AU8 p.kind] (.v .nilFunc))(hno:kindB l ch.length p=false):procE l ch x b p deep high left:=by
 have hw1:IntKind.i64.wrap (left-1)=left-1:=wr64 _ (by omega)
 have hnf: ¬fitsR l ch.length high p left (33-deep):=fitsR_no (.inr (.inr (.inl hno)))
 unfold procE FunE
 refine Fun.of (S:=tt) (fn:=Tryz.f72) (n:=95) tt_ok Tryz.func72 rfl rfl rfl rfl fun w0 h0 F hgs=>?_
 (refine b_ fun bx=>?_;refine y_ ?_)
 refine c_ hck ?_
 refine e_ 30 rfl (x':=AB false) (ab_eq (by rw [hw1];simp;omega)) ?_
 refine e_ 34 rfl (x':=AB false) (ab_eq (by simp;omega)) ?_
 (refine A.ret1 (Λ':=[.box b _]) rfl rfl rfl sl_ ⟨_,Sb.eq (ab_eq ?_),rfl,?_⟩;exact (decide_eq_false hnf).symm;exact fun h=>absurd h hnf)
theorem proc_c(l:List KV)(ch:List Int)(x:Nat→AV)(b:Nat)(p:PR)(deep:Int)(high:Bool)(left:Int)(r0:1≤left)(r1:left≤2048)(d0:1≤deep)(d1:deep≤32)(f:FuncId)(hck:Pure Tryz.prog gs0 125 [ptrA b,AU8 p.kind] (.fn f [ptrA b] []))(hle:Lent l ch f p)(hno:kindB l ch.length p=false):procE l ch x b p deep high left:=by
 have hw1:IntKind.i64.wrap (left-1)=left-1:=wr64 _ (by omega)
 have hnf: ¬fitsR l ch.length high p left (33-deep):=fitsR_no (.inr (.inr (.inl hno)))
 have hl1:=hle b x (IntKind.i64.wrap (left-1))
 rw [hno] at hl1
 unfold procE FunE
 refine Fun.of (S:=tt) (fn:=Tryz.f72) (n:=95) tt_ok Tryz.func72 rfl rfl rfl rfl fun w0 h0 F hgs=>?_
 (refine b_ fun bx=>?_;refine y_ ?_)
 refine c_ hck ?_
 refine e_ 30 rfl (x':=AB false) (ab_eq (by rw [hw1];simp;omega)) ?_
 refine e_ 34 rfl (x':=AB false) (ab_eq (by simp;omega)) ?_
 refine A.d rfl hl1 .refl (List.Perm.swap _ _ _) ?_
 refine y_ ?_
 (refine A.ret1 (Λ':=[.box b _]) rfl rfl rfl sl_ ⟨_,Sb.eq (ab_eq ?_),rfl,?_⟩;exact (decide_eq_false hnf).symm;exact fun h=>absurd h hnf)
theorem proc_d(l:List KV)(ch:List Int)(x:Nat→AV)(b:Nat)(p:PR)(deep:Int)(left:Int)(r0:1≤left)(r1:left≤2048)(d0:1≤deep)(d1:deep≤32)(f:FuncId)(hck:Pure Tryz.prog gs0 125 [ptrA b,AU8 p.kind] (.fn f [ptrA b] []))(hle:Lent l ch f p)(hyes:kindB l ch.length p=true)(hk:p.kind=11):procE l ch x b p deep true left:=by
 have hw1:IntKind.i64.wrap (left-1)=left-1:=wr64 _ (by omega)
 have hnf: ¬fitsR l ch.length true p left (33-deep):=fitsR_no (.inr (.inr (.inr (by simpa using hk))))
 have hl1:=hle b x (IntKind.i64.wrap (left-1))
 rw [hyes] at hl1
 unfold procE FunE
 refine Fun.of (S:=tt) (fn:=Tryz.f72) (n:=95) tt_ok Tryz.func72 rfl rfl rfl rfl fun w0 h0 F hgs=>?_
 (refine b_ fun bx=>?_;refine y_ ?_)
 refine c_ hck ?_
 refine e_ 30 rfl (x':=AB false) (ab_eq (by rw [hw1];simp;omega)) ?_
 refine e_ 34 rfl (x':=AB false) (ab_eq (by simp;omega)) ?_
 refine A.d rfl hl1 .refl (List.Perm.swap _ _ _) ?_
 refine y_ ?_
 refine e_ 51 rfl (x':=AB true) (ab_eq (by simpa using hk)) ?_
 (refine A.ret1 (Λ':=[.box b _]) rfl rfl rfl sl_ ⟨_,Sb.eq (ab_eq ?_),rfl,?_⟩;exact (decide_eq_false hnf).symm;exact fun h=>absurd h hnf)
theorem take_empty{α:Type}{a:List α}{i:Nat}(h:i<a.length):(a.take i).isEmpty=decide (i=0):=by
 rw [Bool.eq_iff_iff,List.isEmpty_iff,List.take_eq_nil_iff];simp
 rintro rfl;simp at h
theorem proc_e(l:List KV)(ch:List Int)(x:Nat→AV)(b:Nat)(p:PR)(hwf:wfR p)(deep:Int)(high:Bool)(left:Int)(r0:1≤left)(r1:left≤2048)(d0:1≤deep)(d1:deep≤32)(f:FuncId)(hck:Pure Tryz.prog gs0 125 [ptrA b,AU8 p.kind] (.fn f [ptrA b] []))(hle:Lent l ch f p)(hyes:kindB l ch.length p=true)(hh:(high&&p.kind==11)=false)
 (ih0: ∀(y:PR) (hi:Bool) (lf:Int),wfR y→szR y<szR p→0≤lf→lf≤2048→procE l ch x b y (deep+1) hi lf):procE l ch x b p deep high left:=by
 have hw1:IntKind.i64.wrap (left-1)=left-1:=wr64 _ (by omega)
 have hw2:IntKind.i64.wrap (deep+1)=deep+1:=wr64 _ (by omega)
 have hwa:=wfR_all hwf
 have hl1:=hle b x (left-1)
 rw [hyes] at hl1
 have hbod:=(kind_bodies hyes).2.2
 have hfl:=fitsR_l (high:=high) (p:=p) (room:=left) (deep:=33-deep) r0 (by omega) hyes hh
 rw [show 33-deep-1=33-(deep+1) by omega] at hfl
 have hse:=szR_eq p
 have n1:((encRl p.l).length:Int)=p.l.length:=by rw [encRl_len]
 have n2:((encGl p.gs).length:Int)=p.gs.length:=by rw [encGl_len]
 unfold procE FunE
 refine Fun.of (S:=tt) (fn:=Tryz.f72) (n:=95) tt_ok Tryz.func72 rfl rfl rfl rfl fun w0 h0 F hgs=>?_
 (refine b_ fun bx=>?_;refine y_ ?_)
 refine c_ hck ?_
 refine e_ 30 rfl (x':=AB false) (ab_eq (by rw [hw1];simp;omega)) ?_
 refine e_ 34 rfl (x':=AB false) (ab_eq (by simp;omega)) ?_
 refine A.entsEq (Λ':=[.box _ (cellsR p), .box b (ckA l ch x (left-1))]) (by rw [hw1]) ?_
 refine A.d rfl hl1 .refl (List.Perm.swap _ _ _) ?_
 refine g_ ?_
 refine e_ 51 rfl (x':=AB false) (ab_eq (by revert hh;cases high<;>simp)) ?_
 refine A.valE 54 rfl (x':=AI (p.l.length:Nat)) (ai_eq n1) ?_
 refine A.keep [0,2,3,5,53,54,55] rfl ?_
 refine A.loopP (ι:=Nat×Int) (fun q=>(⟨[(0,ptrA b),(2,AI deep),(3,AB high),(5,ptrA _),(53,rsA p.l),(54,AI (p.l.length:Nat)),(55,AI (q.1:Nat))],[]⟩,[.box b (ckA l ch x q.2), .box _ (cellsR p)]))
  (fun q=>q.1≤p.l.length∧fitsPs l ch.length high (p.kind==11) (p.l.take q.1) (left-1) (33-(deep+1))∧q.2=left-1-(szL (p.l.take q.1):Nat)) (fun q=>p.l.length-q.1) (0,left-1) ⟨Nat.zero_le _,⟨by simp [okL],by simp [szL];omega,by simp [htL];omega⟩,by simp [szL]⟩ rfl fun q hi ih=>?_
 obtain ⟨i,lf⟩:=q
 obtain ⟨hi1,hi2,hi3⟩:=hi
 simp only at hi1 hi2 hi3
 have hsz2:=hi2.2.1
 refine y_ ?_
 refine k_ (fun hc=>?_) fun hc=>?_
 ·simp at hc
  refine Exists.elim (at_exN (l:=p.l) (i:=i) (by omega)) fun y hy=>?_
  have hym:=List.mem_of_getElem? hy
  have htk:p.l.take (i+1)=p.l.take i++[y]:=by rw [List.take_add_one,hy];rfl
  have hsn:=fitsPs_snoc (x:=y) hi2
  rw [←htk,←hi3,take_empty (by omega)] at hsn
  have ihy:=ih0 y (high||((p.kind==11)&&decide (i=0))) lf ((wfR_all (by exact hwf)).l y hym) (by have:=szL_le hym;omega) (by omega) (by omega)
  unfold procE at ihy
  have e0:(((i:Nat):Int)==0)=decide (i=0):=by rw [Bool.eq_iff_iff];simp
  refine y_ ?_
  refine j_ rfl (encRl_at hy) (encR_eq y) ?_
  (refine gb_ fun bx=>?_;refine g_ ?_)
  refine A.valE 63 rfl (x':=AI (deep+1)) (ai_eq hw2) ?_
  refine A.valE 73 rfl (x':=AB (high||((p.kind==11)&&decide (i=0)))) (ab_eq (by rw [e0];clear ih ihy hsn;generalize (p.kind==11)=b11;cases high<;>cases b11<;>simp)) ?_
  refine A.e rfl ihy .refl (List.Perm.swap _ _ _) fun lf2 hlf2=>?_
  by_cases hfx:fitsR l ch.length (high||((p.kind==11)&&decide (i=0))) y lf (33-(deep+1))
  ·refine e_ 74 rfl (x':=AB true) (ab_eq (decide_eq_true hfx)) ?_
   refine l_ (Λ':=[.box b (ckA l ch x lf2), .box _ (cellsR p)]) ?_
   refine A.valE 55 rfl (x':=AI ((i+1:Nat):Int)) (inc_eq i (by have:=hwa.ll;omega)) ?_
   refine u_ (ih (i+1,lf2) ⟨by show i+1≤_;omega,hsn.2 hfx,?_⟩ (by show _-(i+1)<_-i;omega))
   show lf2=left-1-(szL (p.l.take (i+1)):Nat)
   rw [hlf2 hfx,htk,szL_append,hi3];simp [szL];omega
  ·have hnf: ¬fitsR l ch.length high p left (33-deep):=fun hf=>hfx (hsn.1 (fitsPs_take (hfl.1 hf).1 (i+1)))
   refine e_ 74 rfl (x':=AB false) (ab_eq (decide_eq_false hfx)) ?_
   (refine A.ret1 (Λ':=[.box b _]) rfl rfl rfl sl_ ⟨_,Sb.eq (ab_eq ?_),rfl,?_⟩;exact (decide_eq_false hnf).symm;exact fun h=>absurd h hnf)
 simp at hc
 have hil:i=p.l.length:=by omega
 rw [hil,List.take_length] at hi2 hi3
 have hszl:=hi2.2.1
 refine y_ ?_
 refine A.valE 79 rfl (x':=AI (p.gs.length:Nat)) (ai_eq n2) ?_
 refine A.keep [0,2,3,5,78,79,80] rfl ?_
 refine A.loopP (ι:=Nat×Int) (fun q=>(⟨[(0,ptrA b),(2,AI deep),(3,AB high),(5,ptrA _),(78,gsA p.gs),(79,AI (p.gs.length:Nat)),(80,AI (q.1:Nat))],[]⟩,[.box b (ckA l ch x q.2), .box _ (cellsR p)]))
  (fun q=>q.1≤p.gs.length∧fitsGs l ch.length high (p.gs.take q.1) (left-1-(szL p.l:Nat)) (33-(deep+1))∧q.2=left-1-(szL p.l:Nat)-(szGs (p.gs.take q.1):Nat)) (fun q=>p.gs.length-q.1) (0,lf) ⟨Nat.zero_le _,⟨by simp [okGs],by simp [szGs];omega,by simp [htGs];omega⟩,by simp [szGs];omega⟩ rfl fun q hj jh=>?_
 obtain ⟨j,lg⟩:=q
 obtain ⟨hj1,hj2,hj3⟩:=hj
 simp only at hj1 hj2 hj3
 have hsz3:=hj2.2.1
 refine y_ ?_
 refine k_ (fun hc=>?_) fun hc=>?_
 ·simp at hc
  refine Exists.elim (at_exN (l:=p.gs) (i:=j) (by omega)) fun g hg=>?_
  have hgm:=List.mem_of_getElem? hg
  refine Exists.elim (hbod g hgm) fun y hy=>?_
  have htk:p.gs.take (j+1)=p.gs.take j++[g]:=by rw [List.take_add_one,hg];rfl
  have hsn:=fitsGs_snoc hy hj2
  rw [←htk,←hj3] at hsn
  have hszy:szR y≤szGs p.gs:=by have:=szGs_le hgm;rw [szG_eq,hy,szL,szL] at this;omega
  have ihy:=ih0 y high lg ((wfG_all (hwa.g g hgm)).body y (by rw [hy];exact List.mem_cons_self ..)) (by omega) (by omega) (by omega)
  unfold procE at ihy
  refine y_ ?_
  refine j_ rfl (encGl_at hg) (encG_eq g) ?_
  (refine b_ fun bx=>?_;refine y_ ?_)
  refine i_ rfl (show (encRl g.body)[(0:Int).toNat]? =some (encR y) from encRl_at (by rw [hy];rfl)) (encR_eq y) ?_
  refine A.valE 90 rfl (x':=AI (deep+1)) (ai_eq hw2) ?_
  refine A.e rfl ihy .refl (List.Perm.swap _ _ _) fun lf2 hlf2=>?_
  by_cases hfx:fitsR l ch.length high y lg (33-(deep+1))
  ·refine e_ 92 rfl (x':=AB true) (ab_eq (decide_eq_true hfx)) ?_
   refine l_ (Λ':=[.box b (ckA l ch x lf2), .box _ (cellsR p)]) ?_
   refine A.valE 80 rfl (x':=AI ((j+1:Nat):Int)) (inc_eq j (by have:=hwa.gl;omega)) ?_
   refine u_ (jh (j+1,lf2) ⟨by show j+1≤_;omega,hsn.2 hfx,?_⟩ (by show _-(j+1)<_-j;omega))
   show lf2=left-1-(szL p.l:Nat)-(szGs (p.gs.take (j+1)):Nat)
   have e2:szGs [g]=szR y:=by rw [szGs,szGs,szG_eq,hy,szL,szL];omega
   rw [hlf2 hfx,htk,szGs_append,hj3,e2];omega
  ·have hnf: ¬fitsR l ch.length high p left (33-deep):=fun hf=>hfx (hsn.1 (fitsGs_take (hfl.1 hf).2 (j+1)))
   refine e_ 92 rfl (x':=AB false) (ab_eq (decide_eq_false hfx)) ?_
   (refine A.ret1 (Λ':=[.box b _]) rfl rfl rfl sl_ ⟨_,Sb.eq (ab_eq ?_),rfl,?_⟩;exact (decide_eq_false hnf).symm;exact fun h=>absurd h hnf)
 simp at hc
 have hjl:j=p.gs.length:=by omega
 rw [hjl,List.take_length] at hj2 hj3
 refine y_ ?_
 refine A.ret1 (Λ':=[.box b _]) rfl rfl rfl sl_ ⟨_,Sb.eq (ab_eq ?_),rfl,?_⟩
 ·exact (decide_eq_true (hfl.2 ⟨hi2,hj2⟩)).symm
 ·intro _;show lg=left-szR p;omega
theorem process_p(l:List KV)(ch:List Int)(hl:l.length≤281474976710656)(hv:VarsOk l)(x:Nat→AV)(b:Nat): ∀(N:Nat) (p:PR) (deep:Int) (high:Bool) (left:Int),szR p≤N→wfR p→0≤left→left≤2048→1≤deep→deep≤33→procE l ch x b p deep high left
 |0,p,_,_,_,hn,_,_,_,_,_=>by have:=szR_pos p;omega
 |N+1,p,deep,high,left,hn,hw,r0,r1,d0,d1=>by
  by_cases hk:1≤p.kind∧p.kind≤15
  ·have hck:=check_some b p.kind hk
   by_cases hz:left=0∨deep=33
   ·exact proc_a l ch x b p deep high left hz r0 r1 _ hck
   have hle:=kind_lent l ch hl hv p (wfR_all hw) hk
   cases hkb:kindB l ch.length p with
   |false=>exact proc_c l ch x b p deep high left (by omega) r1 d0 (by omega) _ hck hle hkb
   |true=>
    cases hh:(high&&p.kind==11) with
    |true=>
     simp only [Bool.and_eq_true,beq_iff_eq] at hh
     rw [hh.1]
     exact proc_d l ch x b p deep left (by omega) r1 d0 (by omega) _ hck hle hkb hh.2
    |false=>exact proc_e l ch x b p hw deep high left (by omega) r1 d0 (by omega) _ hck hle hkb hh fun y hi lf hwy hsz l0 l1=>process_p l ch hl hv x b N y (deep+1) hi lf (by omega) hwy l0 l1 (by omega) (by omega)
  ·have hck:=check_none b p.kind hk
   have hno:kindB l ch.length p=false:=by
    cases h:kindB l ch.length p with
    |false=>rfl
    |true=>have:=kind_bodies h;exact (hk ⟨this.1,this.2.1⟩).elim
   by_cases hz:left=0∨deep=33
   ·exact proc_a l ch x b p deep high left hz r0 r1 _ hck
   ·exact proc_b l ch x b p deep high left (by omega) r1 d0 (by omega) hck hno
abbrev intsA(l:List Int):AV:= .sl 1 (l.map AI) none
def idxI(v:Int)(l:List Int)(i:Nat):Int:=idxF (fun x=>v==x) l i
theorem index_p(l:List Int)(v:Int)(hb:l.length≤281474976710656):Pure Tryz.prog gs0 124 [intsA l,AI v] (AI (idxI v l 0)):=by
 refine p_ tt_ok Tryz.func124 19 fun w0 h0 F hgs=>?_
 refine y_ ?_
 refine A.valE 7 rfl (x':=AI (l.length:Nat)) (ai_eq (by rw [List.length_map])) ?_
 refine A.keep [0,1,7,8] rfl ?_
 refine A.loopP (ι:=Nat) (fun i=>(⟨[(0,intsA l),(1,AI v),(7,AI (l.length:Nat)),(8,AI (i:Int))],[]⟩,[])) (fun i=>i≤l.length∧idxI v l 0=idxI v (l.drop i) i) (fun i=>l.length-i) 0 ⟨by omega,rfl⟩ rfl fun i hi ih=>?_
 refine y_ ?_
 refine k_ (fun hc=>?_) fun hc=>?_
 ·simp at hc
  refine Exists.elim (at_exN (l:=l) (i:=i) hc) fun x hx=>?_
  have h1:idxI v l 0=if (v==x)=true then (i:Int) else idxI v (l.drop (i+1)) (i+1):=by rw [hi.2,drop_at hx];rfl
  refine y_ ?_
  refine i_ rfl (map_at hx) rfl ?_
  refine k_ (fun hc=>?_) fun hc=>?_
  ·rw [hc,if_pos rfl] at h1
   refine y_ ?_;refine R_ ?_;rw [h1];exact .refl
  ·rw [hc,if_neg (by simp)] at h1
   refine y_ ?_
   refine A.valE 8 rfl (x':=AI ((i+1:Nat):Int)) (inc_eq i (by omega)) ?_
   refine u_ (ih (i+1) ⟨by omega,h1⟩ (by omega))
 ·simp at hc
  have:i=l.length:=by omega
  subst this
  refine y_ ?_;refine R_ ?_;rw [hi.2,List.drop_length];exact .refl
theorem contains_p(l:List Int)(v:Int)(hb:l.length≤281474976710656):Pure Tryz.prog gs0 70 [intsA l,AI v] (AB (l.contains v)):=by
 refine p_ tt_ok Tryz.func70 9 fun w0 h0 F hgs=>?_
 refine y_ ?_
 refine c_ (index_p l v hb) ?_;refine R_ ?_;refine Sb.eq (ab_eq ?_)
 rw [idxI,idxF_any,List.contains_eq_any_beq]
structure KN where
 vars:List KV
 chans:List Int
 root:PR
 procs:List Int
abbrev encN(k:KN):AV:= .ag [varsA k.vars,chsA k.chans,AU8 k.root.kind,AI k.root.c,AI k.root.v,AU8 k.root.item,plsA k.root.to,kesA k.root.e,gsA k.root.gs,rsA k.root.l,intsA k.procs]
structure WfN(k:KN):Prop where
 vars:k.vars.length≤281474976710656
 chans:k.chans.length≤281474976710656
 procs:k.procs.length≤281474976710656
 root:wfR k.root
def okPr:List Int→List Int→Bool
 |_,[]=>true
 |seen,n::r=>decide (0≤n)&&decide (n<8)&& !seen.contains n&&okPr (seen++[n]) r
def varOk(v:KV):Bool:=primB v.kind&&decide (0≤v.dim)&&decide (v.dim≤64)
def wantH(i:Nat):Int:=if i=0 then 1 else if i=1 then 2 else 0
def okCh:Nat→List Int→Bool
 |_,[]=>true
 |i,h::r=>h==wantH i&&okCh (i+1) r
def lensK(k:KN):Bool:=decide (k.vars.length≤256)&&decide (2≤k.chans.length)&&decide (k.chans.length≤64)
def rootK(k:KN):Bool:=k.procs.length==0||(k.root.kind==10&&k.root.l.length==k.procs.length)
def mayK(k:KN):Bool:=lensK k&&rootK k&&okPr [] k.procs&&k.vars.all varOk&&okCh 0 k.chans&&decide (fitsR k.vars k.chans.length false k.root 2048 32)
theorem varsOk_of{l:List KV}(h:l.all varOk=true):VarsOk l:=fun y hy=>by
 have:=List.all_eq_true.1 h y hy
 simp only [varOk,primB,Bool.and_eq_true,decide_eq_true_eq] at this
 omega
def xN(k:KN):Nat→AV:=fun i=>([AU8 k.root.kind,AI k.root.c,AI k.root.v,AU8 k.root.item,plsA k.root.to,kesA k.root.e,gsA k.root.gs,rsA k.root.l,intsA k.procs]:List AV).getD i (AI 0)
theorem kmay_a(k:KN)(h:(lensK k&&rootK k)=false):Pure Tryz.prog gs0 42 [encN k] (AB false):=by
 have n1:((k.vars.map encV).length:Int)=k.vars.length:=by rw [List.length_map]
 have n2:((k.chans.map AU8).length:Int)=k.chans.length:=by rw [List.length_map]
 have n3:((k.procs.map AI).length:Int)=k.procs.length:=by rw [List.length_map]
 have n4:((encRl k.root.l).length:Int)=k.root.l.length:=by rw [encRl_len]
 refine p_ tt_ok Tryz.func42 116 fun w0 h0 F hgs=>?_
 (refine gb_ fun bx=>?_;refine g_ ?_)
 refine A.valE 26 rfl (x':=AB (!lensK k)) (ab_eq ?_) ?_
 ·rw [n1,n2,lensK,Bool.eq_iff_iff];simp;omega
 cases hlk:lensK k with
 |false=>exact yr_
 |true=>
  rw [hlk,Bool.true_and] at h
  refine g_ ?_
  refine A.valE 46 rfl (x':=AB true) (ab_eq ?_) ?_
  ·rw [n3,n4]
   have h': ¬k.procs.length=0∧ ¬(k.root.kind=10∧k.root.l.length=k.procs.length):=by simpa [rootK] using h
   by_cases hk:k.root.kind=10
   ·rw [Bool.eq_iff_iff];simp [hk];omega
   ·rw [Bool.eq_iff_iff];simp [hk];omega
  exact yr_
theorem kmay_b(k:KN)(hw:WfN k)(h:(lensK k&&rootK k)=true)(R:Bool)(hR:(okPr [] k.procs&&k.vars.all varOk&&okCh 0 k.chans&&decide (fitsR k.vars k.chans.length false k.root 2048 32))=R):Pure Tryz.prog gs0 42 [encN k] (AB R):=by
 have n1:((k.vars.map encV).length:Int)=k.vars.length:=by rw [List.length_map]
 have n2:((k.chans.map AU8).length:Int)=k.chans.length:=by rw [List.length_map]
 have n3:((k.procs.map AI).length:Int)=k.procs.length:=by rw [List.length_map]
 have n4:((encRl k.root.l).length:Int)=k.root.l.length:=by rw [encRl_len]
 rw [Bool.and_eq_true] at h
 have hlk:k.vars.length≤256∧2≤k.chans.length∧k.chans.length≤64:=by have:=h.1;simp only [lensK,Bool.and_eq_true,decide_eq_true_eq] at this;omega
 have hrk:k.procs.length=0∨(k.root.kind=10∧k.root.l.length=k.procs.length):=by simpa [rootK] using h.2
 have hpl:=hw.procs
 generalize hR1:(k.vars.all varOk&&okCh 0 k.chans&&decide (fitsR k.vars k.chans.length false k.root 2048 32))=R1
 rw [Bool.and_assoc,Bool.and_assoc,←Bool.and_assoc (k.vars.all varOk),hR1] at hR
 refine p_ tt_ok Tryz.func42 116 fun w0 h0 F hgs=>?_
 (refine gb_ fun bx=>?_;refine g_ ?_)
 refine A.valE 26 rfl (x':=AB false) (ab_eq ?_) ?_
 ·rw [n1,n2,Bool.eq_iff_iff];simp;omega
 refine g_ ?_
 refine A.valE 46 rfl (x':=AB false) (ab_eq ?_) ?_
 ·rw [n3,n4]
  rcases hrk with hp0|⟨hk,hl2⟩
  ·simp [hp0]
  ·simp [hk,hl2]
 refine y_ ?_
 refine A.valE 49 rfl (x':=AI (k.procs.length:Nat)) (ai_eq n3) ?_
 refine A.keep [1,48,49,50] rfl ?_
 refine A.loopP (ι:=Nat) (fun i=>(⟨[(1,ptrA _),(48,intsA k.procs),(49,AI (k.procs.length:Nat)),(50,AI (i:Nat))],[]⟩,[.box _ (encN k)])) (fun i=>i≤k.procs.length∧(okPr (k.procs.take i) (k.procs.drop i)&&R1)=R) (fun i=>k.procs.length-i) 0 ⟨by omega,hR⟩ rfl fun i hi ih=>?_
 refine y_ ?_
 refine k_ (fun hc=>?_) fun hc=>?_
 ·simp at hc
  refine Exists.elim (at_exN (l:=k.procs) (i:=i) (by omega)) fun v hv=>?_
  have h1:=hi.2
  rw [drop_at hv,okPr] at h1
  have htk:k.procs.take (i+1)=k.procs.take i++[v]:=by rw [List.take_add_one,hv];rfl
  have hcn:=contains_p (k.procs.take i) v (by rw [List.length_take];omega)
  refine y_ ?_
  refine i_ rfl (map_at hv) rfl ?_
  ((fail_if_success (refine A.lit? rfl ?_));refine A.gS rfl (fun hc=>?_) (fun hc=>?_))
  ·have hc0:v<0:=by simpa using hc
   rw [decide_eq_false (by omega)] at h1
   refine y_ ?_;refine R_ ?_;rw [←h1];exact .refl
  have hc0:0≤v:=by simpa using hc
  refine y_ ?_
  ((fail_if_success (refine A.lit? rfl ?_));refine A.gS rfl (fun hc=>?_) (fun hc=>?_))
  ·have hc1:8≤v:=by simpa using hc
   rw [decide_eq_false (p:=v<8) (by omega),Bool.and_false] at h1
   refine y_ ?_;refine R_ ?_;rw [←h1];exact .refl
  have hc1:v<8:=by simpa using hc
  rw [decide_eq_true hc0,decide_eq_true hc1,Bool.true_and,Bool.true_and] at h1
  refine y_ ?_
  refine A.slice (ys:=(k.procs.take i).map AI) rfl rfl rfl rfl rfl rfl rfl rfl rfl (by decide) (by omega) (by rw [List.length_map];omega) (by simp [List.map_take]) rfl ?_
  refine y_ ?_
  refine c_ hcn ?_
  refine k_ (fun hc=>?_) fun hc=>?_
  ·have hc:(k.procs.take i).contains v=true:=hc
   rw [hc,Bool.not_true,Bool.false_and,Bool.false_and] at h1
   refine y_ ?_;refine R_ ?_;rw [←h1];exact .refl
  ·have hc:(k.procs.take i).contains v=false:=hc
   rw [hc,Bool.not_false,Bool.true_and,←htk] at h1
   refine y_ ?_
   refine A.valE 50 rfl (x':=AI ((i+1:Nat):Int)) (inc_eq i (by omega)) ?_
   refine u_ (ih (i+1) ⟨by omega,h1⟩ (by omega))
 simp at hc
 have hil:i=k.procs.length:=by omega
 have h1:=hi.2
 rw [hil,List.drop_length,okPr,Bool.true_and] at h1
 rw [←hR1,Bool.and_assoc] at h1
 generalize hR2:(okCh 0 k.chans&&decide (fitsR k.vars k.chans.length false k.root 2048 32))=R2 at h1
 clear ih hi hR hR1
 refine y_ ?_
 refine A.valE 72 rfl (x':=AI (k.vars.length:Nat)) (ai_eq n1) ?_
 refine A.keep [1,71,72,73] rfl ?_
 refine A.loopP (ι:=Nat) (fun i=>(⟨[(1,ptrA _),(71,varsA k.vars),(72,AI (k.vars.length:Nat)),(73,AI (i:Nat))],[]⟩,[.box _ (encN k)])) (fun i=>i≤k.vars.length∧((k.vars.drop i).all varOk&&R2)=R∧(k.vars.take i).all varOk=true) (fun i=>k.vars.length-i) 0 ⟨by omega,h1,rfl⟩ rfl fun j hi ih=>?_
 refine y_ ?_
 refine k_ (fun hc=>?_) fun hc=>?_
 ·simp at hc
  refine Exists.elim (at_exN (l:=k.vars) (i:=j) (by omega)) fun v hv=>?_
  have h2:=hi.2.1
  have htv:k.vars.take (j+1)=k.vars.take j++[v]:=by rw [List.take_add_one,hv];rfl
  rw [drop_at hv,List.all_cons,varOk] at h2
  refine y_ ?_
  refine j_ rfl (map_at hv) rfl ?_
  (refine b_ fun bx=>?_;refine y_ ?_)
  refine c_ (kprim_p v.kind) ?_
  ((fail_if_success (refine A.lit? rfl ?_));refine A.gS rfl (fun hc=>?_) (fun hc=>?_))
  ·have hc0:primB v.kind=false:=by simpa using hc
   rw [hc0] at h2
   refine y_ ?_;refine R_ ?_;rw [←h2];exact .refl
  have hc0:primB v.kind=true:=by simpa using hc
  refine y_ ?_
  ((fail_if_success (refine A.lit? rfl ?_));refine A.gS rfl (fun hc=>?_) (fun hc=>?_))
  ·have hc1:v.dim<0:=by simpa using hc
   rw [decide_eq_false (p:=0≤v.dim) (by omega),Bool.and_false] at h2
   refine y_ ?_;refine R_ ?_;rw [←h2];exact .refl
  have hc1:0≤v.dim:=by simpa using hc
  refine y_ ?_
  refine k_ (fun hc=>?_) fun hc=>?_
  ·have hc2:64<v.dim:=by simpa using hc
   rw [decide_eq_false (p:=v.dim≤64) (by omega),Bool.and_false] at h2
   refine y_ ?_;refine R_ ?_;rw [←h2];exact .refl
  ·have hc2:v.dim≤64:=by simpa using hc
   rw [hc0,decide_eq_true hc1,decide_eq_true hc2] at h2
   simp only [Bool.true_and] at h2
   refine y_ ?_
   refine l_ (Λ':=[.box _ (encN k)]) ?_
   refine A.valE 73 rfl (x':=AI ((j+1:Nat):Int)) (inc_eq j (by omega)) ?_
   refine u_ (ih (j+1) ⟨by omega,h2,by rw [htv,List.all_append,hi.2.2];simp [varOk,hc0,hc1,hc2]⟩ (by omega))
 simp at hc
 have hjl:j=k.vars.length:=by omega
 have h2:=hi.2.1
 have hvo:=hi.2.2
 rw [hjl,List.take_length] at hvo
 rw [hjl,List.drop_length,List.all_nil,Bool.true_and] at h2
 clear ih hi
 rw [←hR2] at h2
 generalize hR3:decide (fitsR k.vars k.chans.length false k.root 2048 32)=R3 at h2
 have hpr:=fun b=>process_p k.vars k.chans hw.vars (varsOk_of hvo) (xN k) b (szR k.root) k.root 1 false 2048 (Nat.le_refl _) hw.root (by decide) (by decide) (by decide) (by decide)
 simp only [procE,show (33:Int)-1=32 from rfl] at hpr
 refine y_ ?_
 refine A.valE 94 rfl (x':=AI (k.chans.length:Nat)) (ai_eq n2) ?_
 refine A.keep [1,93,94,95] rfl ?_
 refine A.loopP (ι:=Nat) (fun i=>(⟨[(1,ptrA _),(93,chsA k.chans),(94,AI (k.chans.length:Nat)),(95,AI (i:Nat))],[]⟩,[.box _ (encN k)])) (fun i=>i≤k.chans.length∧(okCh i (k.chans.drop i)&&R3)=R) (fun i=>k.chans.length-i) 0 ⟨by omega,h2⟩ rfl fun m hi ih=>?_
 refine y_ ?_
 refine k_ (fun hc=>?_) fun hc=>?_
 ·simp at hc
  refine Exists.elim (at_exN (l:=k.chans) (i:=m) (by omega)) fun v hv=>?_
  have h3:=hi.2
  rw [drop_at hv,okCh] at h3
  refine y_ ?_
  refine j_ rfl (map_at hv) rfl ?_
  by_cases m0:m=0
  ·subst m0
   rw [show wantH 0=1 from rfl] at h3
   refine y_ ?_
   refine k_ (fun hc=>?_) fun hc=>?_
   ·have hc:(v !=1)=true:=hc
    have hv1:(v==1)=false:=by simpa using hc
    rw [hv1] at h3
    refine y_ ?_;refine R_ ?_;rw [←h3];exact .refl
   ·have hc:(v !=1)=false:=hc
    have hv1:(v==1)=true:=by simpa using hc
    rw [hv1,Bool.true_and] at h3
    refine y_ ?_
    refine u_ (ih 1 ⟨by omega,h3⟩ (by omega))
  by_cases m1:m=1
  ·subst m1
   rw [show wantH 1=2 from rfl] at h3
   refine y_ ?_
   refine k_ (fun hc=>?_) fun hc=>?_
   ·have hc:(v !=2)=true:=hc
    have hv1:(v==2)=false:=by simpa using hc
    rw [hv1] at h3
    refine y_ ?_;refine R_ ?_;rw [←h3];exact .refl
   ·have hc:(v !=2)=false:=hc
    have hv1:(v==2)=true:=by simpa using hc
    rw [hv1,Bool.true_and] at h3
    refine y_ ?_
    refine u_ (ih 2 ⟨by omega,h3⟩ (by omega))
  ·rw [show wantH m=0 by simp [wantH,m0,m1]] at h3
   refine y_ ?_
   refine e_ 101 rfl (x':=AB false) (ab_eq (by simp;omega)) ?_
   refine e_ 103 rfl (x':=AB false) (ab_eq (by simp;omega)) ?_
   refine k_ (fun hc=>?_) fun hc=>?_
   ·have hc:(v !=0)=true:=hc
    have hv1:(v==0)=false:=by simpa using hc
    rw [hv1] at h3
    refine y_ ?_;refine R_ ?_;rw [←h3];exact .refl
   ·have hc:(v !=0)=false:=hc
    have hv1:(v==0)=true:=by simpa using hc
    rw [hv1,Bool.true_and] at h3
    refine y_ ?_
    refine A.valE 95 rfl (x':=AI ((m+1:Nat):Int)) (inc_eq m (by omega)) ?_
    refine u_ (ih (m+1) ⟨by omega,h3⟩ (by omega))
 simp at hc
 have hml:m=k.chans.length:=by omega
 have h3:=hi.2
 rw [hml,List.drop_length,okCh,Bool.true_and] at h3
 clear ih hi
 (refine b_ fun bx=>?_;refine y_ ?_)
 refine A.entsEq (Λ':=[.box _ (ckA k.vars k.chans (xN k) 2048), .box _ (encN k)]) rfl ?_
 refine A.e rfl (hpr _) .refl (List.Perm.refl _) fun lf _=>?_
 refine y_ ?_;refine R_ ?_;refine Sb.eq (ab_eq ?_);rw [←h3,←hR3]
theorem kmay_p(k:KN)(hw:WfN k):Pure Tryz.prog gs0 42 [encN k] (AB (mayK k)):=by
 by_cases h:(lensK k&&rootK k)=true
 ·have:=kmay_b k hw h _ rfl
  unfold mayK
  rw [h,Bool.true_and]
  exact this
 ·have h:(lensK k&&rootK k)=false:=by simpa using h
  have:=kmay_a k h
  unfold mayK
  rw [h,Bool.false_and,Bool.false_and,Bool.false_and,Bool.false_and]
  exact this
structure FM where
 c:Bool
 v:Bool
 t1:Int
 t2:Int
 e1:Int
 e2:Int
 g1:Int
 g2:Int
 l1:Int
 l2:Int
mutual
def smK:KE→Prop
 |⟨_,_,_,_,_,l⟩=>l.length*40≤140737488355328∧smKl l
def smKl:List KE→Prop
 | []=>True
 |e::r=>smK e∧smKl r
end
theorem smKl_mem: ∀{l:List KE},smKl l→ ∀x,x∈l→smK x
 | [],_,x,h=>by cases h
 |y::r,hw,x,h=>by
  rw [smKl] at hw
  rcases List.mem_cons.1 h with rfl|h
  ·exact hw.1
  ·exact smKl_mem hw.2 x h
theorem smK_l{e:KE}(h:smK e):e.l.length≤281474976710656∧ ∀x,x∈e.l→smK x:=by
 obtain ⟨k,o,t,n,v,l⟩:=e
 rw [smK] at h
 have:=h.1
 exact ⟨by show l.length≤_;omega,smKl_mem h.2⟩
theorem smK_b{e:KE}(h:smK e):e.l.length*40≤140737488355328:=by
 obtain ⟨k,o,t,n,v,l⟩:=e
 rw [smK] at h
 exact h.1
def smP(p:PL):Prop:=p.ix.length*40≤140737488355328∧ ∀x,x∈p.ix→smK x
theorem smP_l{p:PL}(h:smP p):p.ix.length≤281474976710656:=by have:=h.1;omega
mutual
def smR:PR→Prop
 |⟨_,_,_,_,to,e,gs,l⟩=>((∀t,t∈to→smP t)∧(∀x,x∈e→smK x)∧to.length*32≤140737488355328∧e.length*40≤140737488355328∧gs.length*160≤140737488355328∧l.length*128≤140737488355328)∧smGl gs∧smRl l
def smRl:List PR→Prop
 | []=>True
 |p::r=>smR p∧smRl r
def smG:GD→Prop
 |⟨_,e,_,_,to,t,b⟩=>(smK e∧smK t∧smP to∧b.length*128≤140737488355328)∧smRl b
def smGl:List GD→Prop
 | []=>True
 |g::r=>smG g∧smGl r
end
theorem smRl_mem: ∀{l:List PR},smRl l→ ∀x,x∈l→smR x
 | [],_,x,h=>by cases h
 |y::r,hw,x,h=>by
  rw [smRl] at hw
  rcases List.mem_cons.1 h with rfl|h
  ·exact hw.1
  ·exact smRl_mem hw.2 x h
theorem smGl_mem: ∀{l:List GD},smGl l→ ∀x,x∈l→smG x
 | [],_,x,h=>by cases h
 |y::r,hw,x,h=>by
  rw [smGl] at hw
  rcases List.mem_cons.1 h with rfl|h
  ·exact hw.1
  ·exact smGl_mem hw.2 x h
structure SmR(p:PR):Prop where
 to: ∀t,t∈p.to→smP t
 e: ∀x,x∈p.e→smK x
 tol:p.to.length≤281474976710656
 el:p.e.length≤281474976710656
 gl:p.gs.length≤281474976710656
 ll:p.l.length≤281474976710656
 g: ∀g,g∈p.gs→smG g
 l: ∀x,x∈p.l→smR x
 tb:p.to.length*32≤140737488355328
 eb:p.e.length*40≤140737488355328
 gb:p.gs.length*160≤140737488355328
 lb:p.l.length*128≤140737488355328
theorem smR_all{p:PR}(h:smR p):SmR p:=by
 obtain ⟨k,c,v,i,to,e,gs,l⟩:=p
 rw [smR] at h
 obtain ⟨⟨h1,h2,h3,h4,h5,h6⟩,h7,h8⟩:=h
 exact ⟨h1,h2,by show to.length≤_;omega,by show e.length≤_;omega,by show gs.length≤_;omega,by show l.length≤_;omega,smGl_mem h7,smRl_mem h8,h3,h4,h5,h6⟩
structure SmG(g:GD):Prop where
 cond:smK g.cond
 time:smK g.time
 to:smP g.to
 bl:g.body.length≤281474976710656
 body: ∀x,x∈g.body→smR x
 bb:g.body.length*128≤140737488355328
theorem smG_all{g:GD}(h:smG g):SmG g:=by
 obtain ⟨k,e,c,i,to,t,b⟩:=g
 rw [smG] at h
 obtain ⟨⟨h1,h2,h3,h4⟩,h5⟩:=h
 exact ⟨h1,h2,h3,by show b.length≤_;omega,smRl_mem h5,h4⟩
def eqLB{α:Type}(p:α→α→Bool):List α→List α→Bool
 | [],[]=>true
 |a::r,b::s=>p a b&&eqLB p r s
 |_,_=>false
theorem eqLB_len{α:Type}{p:α→α→Bool}: ∀{a b:List α},a.length≠b.length→eqLB p a b=false
 | [],[],h=>(h rfl).elim
 | [],_::_,_=>rfl
 |_::_,[],_=>rfl
 |a::r,b::s,h=>by rw [eqLB,eqLB_len (a:=r) (b:=s) (by simpa using h),Bool.and_false]
theorem eqLB_at{α:Type}{p:α→α→Bool}{a b:List α}{i:Nat}{x y:α}(hx:a[i]? =some x)(hy:b[i]? =some y):eqLB p (a.drop i) (b.drop i)=(p x y&&eqLB p (a.drop (i+1)) (b.drop (i+1))):=by
 rw [drop_at hx,drop_at hy,eqLB]
mutual
def eqK:KE→KE→Bool
 |⟨k,o,t,n,v,l⟩,⟨k',o',t',n',v',l'⟩=>(k==k')&&((o==o')&&((t==t')&&((n==n')&&((v==v')&&eqKl l l'))))
def eqKl:List KE→List KE→Bool
 | [],[]=>true
 |a::r,b::s=>eqK a b&&eqKl r s
 |_,_=>false
end
theorem eqK_eq(a b:KE):eqK a b=((a.kind==b.kind)&&((a.oper==b.oper)&&((a.to==b.to)&&((a.n==b.n)&&((a.v==b.v)&&eqKl a.l b.l))))):=by
 obtain ⟨k,o,t,n,v,l⟩:=a
 obtain ⟨k',o',t',n',v',l'⟩:=b
 rw [eqK]
theorem eqKl_eq: ∀(a b:List KE),eqKl a b=eqLB eqK a b
 | [],[]=>by rw [eqKl,eqLB]
 | [],_::_=>by rw [eqKl,eqLB]<;>simp
 |_::_,[]=>by rw [eqKl,eqLB]<;>simp
 |a::r,b::s=>by rw [eqKl,eqLB,eqKl_eq r s]
def eqP(a b:PL):Bool:=(a.v==b.v)&&eqKl a.ix b.ix
mutual
def eqR:PR→PR→Bool
 |⟨k,c,v,i,to,e,gs,l⟩,⟨k',c',v',i',to',e',gs',l'⟩=>(k==k')&&((c==c')&&((v==v')&&((i==i')&&(eqLB eqP to to'&&(eqKl e e'&&(eqGl gs gs'&&eqRl l l'))))))
def eqRl:List PR→List PR→Bool
 | [],[]=>true
 |a::r,b::s=>eqR a b&&eqRl r s
 |_,_=>false
def eqG:GD→GD→Bool
 |⟨k,e,c,i,to,t,b⟩,⟨k',e',c',i',to',t',b'⟩=>(k==k')&&((c==c')&&((i==i')&&(eqK e e'&&(eqK t t'&&(eqP to to'&&eqRl b b')))))
def eqGl:List GD→List GD→Bool
 | [],[]=>true
 |a::r,b::s=>eqG a b&&eqGl r s
 |_,_=>false
end
theorem eqR_eq(a b:PR):eqR a b=((a.kind==b.kind)&&((a.c==b.c)&&((a.v==b.v)&&((a.item==b.item)&&(eqLB eqP a.to b.to&&(eqKl a.e b.e&&(eqGl a.gs b.gs&&eqRl a.l b.l))))))):=by
 obtain ⟨k,c,v,i,to,e,gs,l⟩:=a
 obtain ⟨k',c',v',i',to',e',gs',l'⟩:=b
 rw [eqR]
theorem eqG_eq(a b:GD):eqG a b=((a.kind==b.kind)&&((a.c==b.c)&&((a.item==b.item)&&(eqK a.cond b.cond&&(eqK a.time b.time&&(eqP a.to b.to&&eqRl a.body b.body)))))):=by
 obtain ⟨k,e,c,i,to,t,bd⟩:=a
 obtain ⟨k',e',c',i',to',t',bd'⟩:=b
 rw [eqG]
theorem eqRl_eq: ∀(a b:List PR),eqRl a b=eqLB eqR a b
 | [],[]=>by rw [eqRl,eqLB]
 | [],_::_=>by rw [eqRl,eqLB]<;>simp
 |_::_,[]=>by rw [eqRl,eqLB]<;>simp
 |a::r,b::s=>by rw [eqRl,eqLB,eqRl_eq r s]
theorem eqGl_eq: ∀(a b:List GD),eqGl a b=eqLB eqG a b
 | [],[]=>by rw [eqGl,eqLB]
 | [],_::_=>by rw [eqGl,eqLB]<;>simp
 |_::_,[]=>by rw [eqGl,eqLB]<;>simp
 |a::r,b::s=>by rw [eqGl,eqLB,eqGl_eq r s]
theorem eqfP_p{gs:Ua}(f:FuncId)(p:PL→PL→Bool)(a b:List PL)(hcb: ∀x,x∈a→ ∀y,Pure Tryz.prog gs f [encPl x,encPl y] (AB (p x y)))(hb:a.length≤281474976710656):
 Pure Tryz.prog gs 92 [plsA a,plsA b, .fn f [] []] (AB (eqLB p a b)):=by
 by_cases hl:a.length=b.length
 case neg=>
  rw [eqLB_len hl]
  refine p_ tt_ok Tryz.func92 32 fun w0 h0 F hgs=>?_
  refine y_ ?_
  refine e_ 14 rfl (x':=AB true) (ab_eq (by rw [List.length_map,List.length_map];show (!((a.length:Int)==(b.length:Int)))=true;rw [beq_eq_false_iff_ne.2 (by omega)];rfl)) ?_;exact r_
 refine p_ tt_ok Tryz.func92 32 fun w0 h0 F hgs=>?_
 refine y_ ?_
 refine e_ 14 rfl (x':=AB false) (ab_eq (by rw [List.length_map,List.length_map];show (!((a.length:Int)==(b.length:Int)))=false;rw [beq_iff_eq.2 (by omega)];rfl)) ?_
 refine A.valE 16 rfl (x':=AI (a.length:Nat)) (ai_eq (by rw [List.length_map])) ?_
 refine A.keep [1,2,15,16,17] rfl ?_
 refine A.loopP (ι:=Nat) (fun i=>(⟨[(1,plsA b),(2, .fn f [] []),(15,plsA a),(16,AI (a.length:Nat)),(17,AI (i:Nat))],[]⟩,[])) (fun i=>i≤a.length∧eqLB p a b=eqLB p (a.drop i) (b.drop i)) (fun i=>a.length-i) 0 ⟨Nat.zero_le _,rfl⟩ rfl fun i hi ih=>?_
 obtain ⟨hi1,hi2⟩:=hi
 refine y_ ?_
 refine k_ (fun hc=>?_) fun hc=>?_
 ·have hc':i<a.length:=by simpa using hc
  refine Exists.elim (at_exN (l:=a) (i:=i) hc') fun x hx=>?_
  refine Exists.elim (at_exN (l:=b) (i:=i) (by omega)) fun y hy=>?_
  have hxy:=hcb x (List.mem_of_getElem? hx) y
  rw [eqLB_at hx hy] at hi2
  refine y_ ?_
  refine j_ rfl (map_at hx) rfl ?_
  (refine b_ fun bx=>?_;refine y_ ?_)
  refine j_ rfl (map_at hy) rfl ?_
  (refine b_ fun bx=>?_;refine y_ ?_)
  refine n_ hxy ?_
  cases hp:p x y with
  |false=>
   rw [hp,Bool.false_and] at hi2
   rw [hi2]
   exact yr_
  |true=>
   rw [hp,Bool.true_and] at hi2
   refine y_ ?_
   refine A.valE 17 rfl (x':=AI ((i+1:Nat):Int)) (inc_eq i (by omega)) ?_
   refine A.less (Λ':=[]) (List.nil_sublist _) ?_
   refine u_ (ih (i+1) ⟨by omega,hi2⟩ (by omega))
 have hc': ¬i<a.length:=by simpa using hc
 have hil:i=a.length:=by omega
 have:eqLB p a b=true:=by rw [hi2,hil,List.drop_length,hl,List.drop_length];rfl
 rw [this]
 exact yr_
theorem eqfK_p{gs:Ua}(f:FuncId)(p:KE→KE→Bool)(a b:List KE)(hcb: ∀x,x∈a→ ∀y,Pure Tryz.prog gs f [.ag [AU8 x.kind,AU8 x.oper,AU8 x.to,AI32 x.n,AI x.v, .sl 6 (encKl x.l) none], .ag [AU8 y.kind,AU8 y.oper,AU8 y.to,AI32 y.n,AI y.v, .sl 6 (encKl y.l) none]] (AB (p x y)))(hb:a.length≤281474976710656):
 Pure Tryz.prog gs 94 [kesA a,kesA b, .fn f [] []] (AB (eqLB p a b)):=by
 by_cases hl:a.length=b.length
 case neg=>
  rw [eqLB_len hl]
  refine p_ tt_ok Tryz.func94 32 fun w0 h0 F hgs=>?_
  refine y_ ?_
  refine e_ 14 rfl (x':=AB true) (ab_eq (by rw [encKl_len,encKl_len];show (!((a.length:Int)==(b.length:Int)))=true;rw [beq_eq_false_iff_ne.2 (by omega)];rfl)) ?_;exact r_
 refine p_ tt_ok Tryz.func94 32 fun w0 h0 F hgs=>?_
 refine y_ ?_
 refine e_ 14 rfl (x':=AB false) (ab_eq (by rw [encKl_len,encKl_len];show (!((a.length:Int)==(b.length:Int)))=false;rw [beq_iff_eq.2 (by omega)];rfl)) ?_
 refine A.valE 16 rfl (x':=AI (a.length:Nat)) (ai_eq (by rw [encKl_len])) ?_
 refine A.keep [1,2,15,16,17] rfl ?_
 refine A.loopP (ι:=Nat) (fun i=>(⟨[(1,kesA b),(2, .fn f [] []),(15,kesA a),(16,AI (a.length:Nat)),(17,AI (i:Nat))],[]⟩,[])) (fun i=>i≤a.length∧eqLB p a b=eqLB p (a.drop i) (b.drop i)) (fun i=>a.length-i) 0 ⟨Nat.zero_le _,rfl⟩ rfl fun i hi ih=>?_
 obtain ⟨hi1,hi2⟩:=hi
 refine y_ ?_
 refine k_ (fun hc=>?_) fun hc=>?_
 ·have hc':i<a.length:=by simpa using hc
  refine Exists.elim (at_exN (l:=a) (i:=i) hc') fun x hx=>?_
  refine Exists.elim (at_exN (l:=b) (i:=i) (by omega)) fun y hy=>?_
  have hxy:=hcb x (List.mem_of_getElem? hx) y
  rw [eqLB_at hx hy] at hi2
  refine y_ ?_
  refine j_ rfl (encKl_at hx) (encK_eq x) ?_
  (refine b_ fun bx=>?_;refine y_ ?_)
  refine j_ rfl (encKl_at hy) (encK_eq y) ?_
  (refine b_ fun bx=>?_;refine y_ ?_)
  refine n_ hxy ?_
  cases hp:p x y with
  |false=>
   rw [hp,Bool.false_and] at hi2
   rw [hi2]
   exact yr_
  |true=>
   rw [hp,Bool.true_and] at hi2
   refine y_ ?_
   refine A.valE 17 rfl (x':=AI ((i+1:Nat):Int)) (inc_eq i (by omega)) ?_
   refine A.less (Λ':=[]) (List.nil_sublist _) ?_
   refine u_ (ih (i+1) ⟨by omega,hi2⟩ (by omega))
 have hc': ¬i<a.length:=by simpa using hc
 have hil:i=a.length:=by omega
 have:eqLB p a b=true:=by rw [hi2,hil,List.drop_length,hl,List.drop_length];rfl
 rw [this]
 exact yr_
theorem eqfG_p{gs:Ua}(f:FuncId)(p:GD→GD→Bool)(a b:List GD)(hcb: ∀x,x∈a→ ∀y,Pure Tryz.prog gs f [cellsG x,cellsG y] (AB (p x y)))(hb:a.length≤281474976710656):
 Pure Tryz.prog gs 96 [gsA a,gsA b, .fn f [] []] (AB (eqLB p a b)):=by
 by_cases hl:a.length=b.length
 case neg=>
  rw [eqLB_len hl]
  refine p_ tt_ok Tryz.func96 32 fun w0 h0 F hgs=>?_
  refine y_ ?_
  refine e_ 14 rfl (x':=AB true) (ab_eq (by rw [encGl_len,encGl_len];show (!((a.length:Int)==(b.length:Int)))=true;rw [beq_eq_false_iff_ne.2 (by omega)];rfl)) ?_;exact r_
 refine p_ tt_ok Tryz.func96 32 fun w0 h0 F hgs=>?_
 refine y_ ?_
 refine e_ 14 rfl (x':=AB false) (ab_eq (by rw [encGl_len,encGl_len];show (!((a.length:Int)==(b.length:Int)))=false;rw [beq_iff_eq.2 (by omega)];rfl)) ?_
 refine A.valE 16 rfl (x':=AI (a.length:Nat)) (ai_eq (by rw [encGl_len])) ?_
 refine A.keep [1,2,15,16,17] rfl ?_
 refine A.loopP (ι:=Nat) (fun i=>(⟨[(1,gsA b),(2, .fn f [] []),(15,gsA a),(16,AI (a.length:Nat)),(17,AI (i:Nat))],[]⟩,[])) (fun i=>i≤a.length∧eqLB p a b=eqLB p (a.drop i) (b.drop i)) (fun i=>a.length-i) 0 ⟨Nat.zero_le _,rfl⟩ rfl fun i hi ih=>?_
 obtain ⟨hi1,hi2⟩:=hi
 refine y_ ?_
 refine k_ (fun hc=>?_) fun hc=>?_
 ·have hc':i<a.length:=by simpa using hc
  refine Exists.elim (at_exN (l:=a) (i:=i) hc') fun x hx=>?_
  refine Exists.elim (at_exN (l:=b) (i:=i) (by omega)) fun y hy=>?_
  have hxy:=hcb x (List.mem_of_getElem? hx) y
  rw [eqLB_at hx hy] at hi2
  refine y_ ?_
  refine j_ rfl (encGl_at hx) (encG_eq x) ?_
  (refine b_ fun bx=>?_;refine y_ ?_)
  refine j_ rfl (encGl_at hy) (encG_eq y) ?_
  (refine b_ fun bx=>?_;refine y_ ?_)
  refine n_ hxy ?_
  cases hp:p x y with
  |false=>
   rw [hp,Bool.false_and] at hi2
   rw [hi2]
   exact yr_
  |true=>
   rw [hp,Bool.true_and] at hi2
   refine y_ ?_
   refine A.valE 17 rfl (x':=AI ((i+1:Nat):Int)) (inc_eq i (by omega)) ?_
   refine A.less (Λ':=[]) (List.nil_sublist _) ?_
   refine u_ (ih (i+1) ⟨by omega,hi2⟩ (by omega))
 have hc': ¬i<a.length:=by simpa using hc
 have hil:i=a.length:=by omega
 have:eqLB p a b=true:=by rw [hi2,hil,List.drop_length,hl,List.drop_length];rfl
 rw [this]
 exact yr_
theorem eqfR_p{gs:Ua}(f:FuncId)(p:PR→PR→Bool)(a b:List PR)(hcb: ∀x,x∈a→ ∀y,Pure Tryz.prog gs f [cellsR x,cellsR y] (AB (p x y)))(hb:a.length≤281474976710656):
 Pure Tryz.prog gs 98 [rsA a,rsA b, .fn f [] []] (AB (eqLB p a b)):=by
 by_cases hl:a.length=b.length
 case neg=>
  rw [eqLB_len hl]
  refine p_ tt_ok Tryz.func98 32 fun w0 h0 F hgs=>?_
  refine y_ ?_
  refine e_ 14 rfl (x':=AB true) (ab_eq (by rw [encRl_len,encRl_len];show (!((a.length:Int)==(b.length:Int)))=true;rw [beq_eq_false_iff_ne.2 (by omega)];rfl)) ?_;exact r_
 refine p_ tt_ok Tryz.func98 32 fun w0 h0 F hgs=>?_
 refine y_ ?_
 refine e_ 14 rfl (x':=AB false) (ab_eq (by rw [encRl_len,encRl_len];show (!((a.length:Int)==(b.length:Int)))=false;rw [beq_iff_eq.2 (by omega)];rfl)) ?_
 refine A.valE 16 rfl (x':=AI (a.length:Nat)) (ai_eq (by rw [encRl_len])) ?_
 refine A.keep [1,2,15,16,17] rfl ?_
 refine A.loopP (ι:=Nat) (fun i=>(⟨[(1,rsA b),(2, .fn f [] []),(15,rsA a),(16,AI (a.length:Nat)),(17,AI (i:Nat))],[]⟩,[])) (fun i=>i≤a.length∧eqLB p a b=eqLB p (a.drop i) (b.drop i)) (fun i=>a.length-i) 0 ⟨Nat.zero_le _,rfl⟩ rfl fun i hi ih=>?_
 obtain ⟨hi1,hi2⟩:=hi
 refine y_ ?_
 refine k_ (fun hc=>?_) fun hc=>?_
 ·have hc':i<a.length:=by simpa using hc
  refine Exists.elim (at_exN (l:=a) (i:=i) hc') fun x hx=>?_
  refine Exists.elim (at_exN (l:=b) (i:=i) (by omega)) fun y hy=>?_
  have hxy:=hcb x (List.mem_of_getElem? hx) y
  rw [eqLB_at hx hy] at hi2
  refine y_ ?_
  refine j_ rfl (encRl_at hx) (encR_eq x) ?_
  (refine b_ fun bx=>?_;refine y_ ?_)
  refine j_ rfl (encRl_at hy) (encR_eq y) ?_
  (refine b_ fun bx=>?_;refine y_ ?_)
  refine n_ hxy ?_
  cases hp:p x y with
  |false=>
   rw [hp,Bool.false_and] at hi2
   rw [hi2]
   exact yr_
  |true=>
   rw [hp,Bool.true_and] at hi2
   refine y_ ?_
   refine A.valE 17 rfl (x':=AI ((i+1:Nat):Int)) (inc_eq i (by omega)) ?_
   refine A.less (Λ':=[]) (List.nil_sublist _) ?_
   refine u_ (ih (i+1) ⟨by omega,hi2⟩ (by omega))
 have hc': ¬i<a.length:=by simpa using hc
 have hil:i=a.length:=by omega
 have:eqLB p a b=true:=by rw [hi2,hil,List.drop_length,hl,List.drop_length];rfl
 rw [this]
 exact yr_
theorem equal_n: ∀(m:Nat) (a b:KE),SizeOf.sizeOf a≤m→smK a→Pure Tryz.prog gs0 95 [encK a,encK b] (AB (eqK a b))
 |0,a,b,h,_=>by
  obtain ⟨k,o,t,n,v,l⟩:=a
  simp only [KE.mk.sizeOf_spec] at h;omega
 |m+1,a,b,h,hs=>by
  have hl:=smK_l hs
  have h1:Pure Tryz.prog gs0 94 [kesA a.l,kesA b.l, .fn 95 [] []] (AB (eqKl a.l b.l)):=by
   rw [eqKl_eq]
   refine eqfK_p _ eqK a.l b.l (fun x hx y=>?_) hl.1
   have hsz:SizeOf.sizeOf x≤m:=by
    obtain ⟨k,o,t,n,v,l⟩:=a
    have:=List.sizeOf_lt_of_mem hx
    simp only [KE.mk.sizeOf_spec,KE.l] at this h
    omega
   have:=equal_n m x y hsz (hl.2 x hx)
   rw [encK_eq,encK_eq] at this
   exact this
  rw [eqK_eq,encK_eq a,encK_eq b]
  generalize eqKl a.l b.l=r at h1⊢
  have h2:=h1;have h3:=h1;have h4:=h1
  refine p_ tt_ok Tryz.func95 45 fun w0 h0 F hgs=>?_
  (repeat' first|first|refine A.s rfl ?_|refine A.r rfl rfl ?_|refine A.w rfl rfl ?_|refine A.p rfl ?_|refine A.b rfl fun bx=>?_|refine A.t rfl fun bl=>?_|refine A.c rfl h1 .refl ?_|refine A.c rfl h2 .refl ?_|refine A.c rfl h3 .refl ?_|refine A.c rfl h4 .refl ?_|((fail_if_success (refine A.lit? rfl ?_));refine A.gS rfl (fun hc=>?_) (fun hc=>?_))|((fail_if_success (refine A.litP? rfl ?_));refine A.gSP rfl (fun hc=>?_) (fun hc=>?_)))
  all_goals (refine R_ ?_;refine Sb.eq (ab_eq ?_))
  all_goals simp_all
theorem equal_p(a b:KE)(hs:smK a):Pure Tryz.prog gs0 95 [encK a,encK b] (AB (eqK a b)):=equal_n _ a b (Nat.le_refl _) hs
theorem eqKs_p(a b:List KE)(hb:a.length≤281474976710656)(hs: ∀x,x∈a→smK x):Pure Tryz.prog gs0 94 [kesA a,kesA b, .fn 95 [] []] (AB (eqKl a b)):=by
 rw [eqKl_eq]
 refine eqfK_p _ eqK a b (fun x hx y=>?_) hb
 have:=equal_p x y (hs x hx)
 rw [encK_eq,encK_eq] at this
 exact this
theorem samePlace_p(a b:PL)(hs:smP a):Pure Tryz.prog gs0 93 [encPl a,encPl b] (AB (eqP a b)):=by
 have h1:=eqKs_p a.ix b.ix (smP_l hs) hs.2
 unfold eqP
 generalize eqKl a.ix b.ix=r at h1⊢
 have h2:=h1;have h3:=h1;have h4:=h1
 refine p_ tt_ok Tryz.func93 17 fun w0 h0 F hgs=>?_
 (repeat' first|first|refine A.s rfl ?_|refine A.r rfl rfl ?_|refine A.w rfl rfl ?_|refine A.p rfl ?_|refine A.b rfl fun bx=>?_|refine A.t rfl fun bl=>?_|refine A.c rfl h1 .refl ?_|refine A.c rfl h2 .refl ?_|refine A.c rfl h3 .refl ?_|refine A.c rfl h4 .refl ?_|((fail_if_success (refine A.lit? rfl ?_));refine A.gS rfl (fun hc=>?_) (fun hc=>?_))|((fail_if_success (refine A.litP? rfl ?_));refine A.gSP rfl (fun hc=>?_) (fun hc=>?_)))
 all_goals (refine R_ ?_;refine Sb.eq (ab_eq ?_))
 all_goals simp_all
theorem gd_lt{p x:PR}{g:GD}(hg:g∈p.gs)(h:x∈g.body):SizeOf.sizeOf x<SizeOf.sizeOf p:=by
 obtain ⟨k,c,v,i,to,e,gs,l⟩:=p
 have h1:=List.sizeOf_lt_of_mem hg
 obtain ⟨k,e,c,i,to,t,b⟩:=g
 have h2:=List.sizeOf_lt_of_mem h
 simp only [PR.mk.sizeOf_spec,GD.mk.sizeOf_spec,PR.gs,GD.body] at h1 h2⊢
 omega
theorem pr_lt{p x:PR}(h:x∈p.l):SizeOf.sizeOf x<SizeOf.sizeOf p:=by
 obtain ⟨k,c,v,i,to,e,gs,l⟩:=p
 have:=List.sizeOf_lt_of_mem h
 simp only [PR.mk.sizeOf_spec,PR.l] at this⊢
 omega
theorem sameGuard_a(a b:GD)(hs:SmG a)(h4:Pure Tryz.prog gs0 98 [rsA a.body,rsA b.body, .fn 58 [] []] (AB (eqRl a.body b.body))):
 Pure Tryz.prog gs0 97 [cellsG a,cellsG b] (AB (eqG a b)):=by
 have h1:=equal_p a.cond b.cond hs.cond
 have h2:=equal_p a.time b.time hs.time
 have h3:=samePlace_p a.to b.to hs.to
 rw [encK_eq,encK_eq] at h1 h2
 rw [eqG_eq]
 generalize eqK a.cond b.cond=r1 at h1⊢
 generalize eqK a.time b.time=r2 at h2⊢
 generalize eqP a.to b.to=r3 at h3⊢
 generalize eqRl a.body b.body=r4 at h4⊢
 refine p_ tt_ok Tryz.func97 52 fun w0 h0 F hgs=>?_
 (repeat' first|first|refine A.s rfl ?_|refine A.r rfl rfl ?_|refine A.w rfl rfl ?_|refine A.p rfl ?_|refine A.b rfl fun bx=>?_|refine A.t rfl fun bl=>?_|refine A.c rfl h1 .refl ?_|refine A.c rfl h2 .refl ?_|refine A.c rfl h3 .refl ?_|refine A.c rfl h4 .refl ?_|((fail_if_success (refine A.lit? rfl ?_));refine A.gS rfl (fun hc=>?_) (fun hc=>?_))|((fail_if_success (refine A.litP? rfl ?_));refine A.gSP rfl (fun hc=>?_) (fun hc=>?_)))
 all_goals (refine R_ ?_;refine Sb.eq (ab_eq ?_))
 all_goals simp_all
theorem same_a(a b:PR)(hs:SmR a)(h3:Pure Tryz.prog gs0 96 [gsA a.gs,gsA b.gs, .fn 97 [] []] (AB (eqGl a.gs b.gs)))
 (h4:Pure Tryz.prog gs0 98 [rsA a.l,rsA b.l, .fn 58 [] []] (AB (eqRl a.l b.l))):
 Pure Tryz.prog gs0 58 [cellsR a,cellsR b] (AB (eqR a b)):=by
 have h1:=eqfP_p (gs:=gs0) 93 eqP a.to b.to (fun x hx y=>samePlace_p x y (hs.to x hx)) hs.tol
 have h2:=eqKs_p a.e b.e hs.el hs.e
 rw [eqR_eq]
 generalize eqLB eqP a.to b.to=r1 at h1⊢
 generalize eqKl a.e b.e=r2 at h2⊢
 generalize eqGl a.gs b.gs=r3 at h3⊢
 generalize eqRl a.l b.l=r4 at h4⊢
 refine p_ tt_ok Tryz.func58 59 fun w0 h0 F hgs=>?_
 (repeat' first|first|refine A.s rfl ?_|refine A.r rfl rfl ?_|refine A.w rfl rfl ?_|refine A.p rfl ?_|refine A.b rfl fun bx=>?_|refine A.t rfl fun bl=>?_|refine A.c rfl h1 .refl ?_|refine A.c rfl h2 .refl ?_|refine A.c rfl h3 .refl ?_|refine A.c rfl h4 .refl ?_|((fail_if_success (refine A.lit? rfl ?_));refine A.gS rfl (fun hc=>?_) (fun hc=>?_))|((fail_if_success (refine A.litP? rfl ?_));refine A.gSP rfl (fun hc=>?_) (fun hc=>?_)))
 all_goals (refine R_ ?_;refine Sb.eq (ab_eq ?_))
 all_goals simp_all
theorem psame_n: ∀(m:Nat) (a b:PR),SizeOf.sizeOf a≤m→smR a→Pure Tryz.prog gs0 58 [cellsR a,cellsR b] (AB (eqR a b))
 |0,a,b,h,_=>by
  obtain ⟨k,c,v,i,to,e,gs,l⟩:=a
  simp only [PR.mk.sizeOf_spec] at h;omega
 |m+1,a,b,h,hs=>by
  have hS:=smR_all hs
  refine same_a a b hS ?_ ?_
  ·rw [eqGl_eq]
   refine eqfG_p _ eqG a.gs b.gs (fun x hx y=>?_) hS.gl
   have hG:=smG_all (hS.g x hx)
   refine sameGuard_a x y hG ?_
   rw [eqRl_eq]
   exact eqfR_p _ eqR x.body y.body (fun u hu w=>psame_n m u w (by have:=gd_lt hx hu;omega) (hG.body u hu)) hG.bl
  ·rw [eqRl_eq]
   exact eqfR_p _ eqR a.l b.l (fun u hu w=>psame_n m u w (by have:=pr_lt hu;omega) (hS.l u hu)) hS.ll
theorem psame_p(a b:PR)(hs:smR a):Pure Tryz.prog gs0 58 [cellsR a,cellsR b] (AB (eqR a b)):=psame_n _ a b (Nat.le_refl _) hs
theorem exprs_n: ∀(m:Nat) (a b:List KE),SizeOf.sizeOf a≤m→a.length≤281474976710656→(∀x,x∈a→smK x)→Pure Tryz.prog gs0 84 [kesA a,kesA b] (AB (eqKl a b))
 |0,a,b,h,_,_=>by
  cases a with
  |nil=>simp at h
  |cons x r=>simp at h
 |m+1,a,b,h,hb,hs=>by
  by_cases hl:a.length=b.length
  case neg=>
   rw [eqKl_eq,eqLB_len hl]
   refine p_ tt_ok Tryz.func84 94 fun w0 h0 F hgs=>?_
   refine y_ ?_
   refine e_ 10 rfl (x':=AB true) (ab_eq (by rw [encKl_len,encKl_len];show (!((a.length:Int)==(b.length:Int)))=true;rw [beq_eq_false_iff_ne.2 (by omega)];rfl)) ?_;exact r_
  have hrec: ∀x,x∈a→ ∀y:KE,Pure Tryz.prog gs0 84 [kesA x.l,kesA y.l] (AB (eqKl x.l y.l)):=fun x hx y=>by
   have h1:=List.sizeOf_lt_of_mem hx
   have h2:=smK_l (hs x hx)
   refine exprs_n m x.l y.l ?_ h2.1 h2.2
   obtain ⟨k,o,t,n,v,l⟩:=x
   simp only [KE.mk.sizeOf_spec,KE.l] at h1⊢
   omega
  refine Exists.elim (show∃R,R=eqKl a b from ⟨_,rfl⟩) fun R hR=>?_
  rw [←hR]
  refine p_ tt_ok Tryz.func84 94 fun w0 h0 F hgs=>?_
  refine y_ ?_
  refine e_ 10 rfl (x':=AB false) (ab_eq (by rw [encKl_len,encKl_len];show (!((a.length:Int)==(b.length:Int)))=false;rw [beq_iff_eq.2 (by omega)];rfl)) ?_
  refine A.keep [0,1,5] rfl ?_
  refine A.loopP (ι:=Nat) (fun i=>(⟨[(0,kesA a),(1,kesA b),(5,AI (i:Nat))],[]⟩,[])) (fun i=>i≤a.length∧R=eqLB eqK (a.drop i) (b.drop i)) (fun i=>a.length-i) 0 ⟨Nat.zero_le _,by rw [hR,eqKl_eq];rfl⟩ rfl fun i hi ih=>?_
  obtain ⟨hi1,hi2⟩:=hi
  refine y_ ?_
  refine k_ (fun hc=>?_) fun hc=>?_
  ·have hc':i<a.length:=by have:=hc;rw [encKl_len] at this;simpa using this
   clear hc
   refine Exists.elim (at_exN (l:=a) (i:=i) hc') fun x hx=>?_
   refine Exists.elim (at_exN (l:=b) (i:=i) (by omega)) fun y hy=>?_
   have h1:=hrec x (List.mem_of_getElem? hx) y
   rw [eqLB_at hx hy,eqK_eq] at hi2
   refine Exists.elim (show∃r,r=eqKl x.l y.l from ⟨_,rfl⟩) fun r hr=>?_
   rw [←hr] at h1 hi2
   clear hr hrec hR
   refine y_ ?_
   refine A.draw 74 [0,1,2,3,4,5,6,7,8,9,10,11,12,13,14,15,16,17,18,19,20,21,22,23,24,25,26,27,28,29,30,31,32,33,34,35,36,37,38,39,40,41,42,43,44,45,46,47,48,49,50,51,52,53,54,55,56,57,58,59,60,61,62,63,64,65,66,67,68,69,70,71,72,73] noPubs [] (by kernel_rfl) (by kernel_rfl) ?_
   (repeat' first|refine WA.s rfl ?_|refine WA.r rfl rfl ?_|refine WA.p rfl ?_|refine WA.x rfl (by show (0:Int)≤(i:Nat);omega) (encKl_at hx) (encK_eq x) rfl ?_|refine WA.x rfl (by show (0:Int)≤(i:Nat);omega) (encKl_at hy) (encK_eq y) rfl ?_|((fail_if_success (refine WA.lit? rfl ?_));refine WA.gS rfl (fun hc=>?_) (fun hc=>?_))|refine WA.nil (l:=[]) rfl ?_)
   all_goals (repeat' first|first|refine A.s rfl ?_|refine A.r rfl rfl ?_|refine A.w rfl rfl ?_|refine A.p rfl ?_|refine A.b rfl fun bx=>?_|refine A.t rfl fun bl=>?_|refine A.c rfl h1 .refl ?_|((fail_if_success (refine A.lit? rfl ?_));refine A.gS rfl (fun hc=>?_) (fun hc=>?_))|((fail_if_success (refine A.litP? rfl ?_));refine A.gSP rfl (fun hc=>?_) (fun hc=>?_)))
   all_goals first
    |(refine R_ ?_;refine Sb.eq (ab_eq ?_);rw [hi2];simp_all)
    |(refine A.valE 5 rfl (x':=AI ((i+1:Nat):Int)) (inc_eq i (by omega)) ?_
      refine u_ (ih (i+1) ⟨by omega,by rw [hi2];simp_all⟩ (by omega)))
  have hc': ¬i<a.length:=by have:=hc;rw [encKl_len] at this;simpa using this
  have hil:i=a.length:=by omega
  have:R=true:=by rw [hi2,hil,List.drop_length,hl,List.drop_length];rfl
  rw [this]
  exact yr_
theorem exprs_p(a b:List KE)(hb:a.length≤281474976710656)(hs: ∀x,x∈a→smK x):Pure Tryz.prog gs0 84 [kesA a,kesA b] (AB (eqKl a b)):=exprs_n _ a b (Nat.le_refl _) hb hs
theorem places_p(a b:List PL)(hb:a.length≤281474976710656)(hs: ∀x,x∈a→smP x):Pure Tryz.prog gs0 83 [plsA a,plsA b] (AB (eqLB eqP a b)):=by
 by_cases hl:a.length=b.length
 case neg=>
  rw [eqLB_len hl]
  refine p_ tt_ok Tryz.func83 42 fun w0 h0 F hgs=>?_
  refine y_ ?_
  refine e_ 10 rfl (x':=AB true) (ab_eq (by rw [List.length_map,List.length_map];show (!((a.length:Int)==(b.length:Int)))=true;rw [beq_eq_false_iff_ne.2 (by omega)];rfl)) ?_;exact r_
 refine Exists.elim (show∃R,R=eqLB eqP a b from ⟨_,rfl⟩) fun R hR=>?_
 rw [←hR]
 refine p_ tt_ok Tryz.func83 42 fun w0 h0 F hgs=>?_
 refine y_ ?_
 refine e_ 10 rfl (x':=AB false) (ab_eq (by rw [List.length_map,List.length_map];show (!((a.length:Int)==(b.length:Int)))=false;rw [beq_iff_eq.2 (by omega)];rfl)) ?_
 refine A.keep [0,1,5] rfl ?_
 refine A.loopP (ι:=Nat) (fun i=>(⟨[(0,plsA a),(1,plsA b),(5,AI (i:Nat))],[]⟩,[])) (fun i=>i≤a.length∧R=eqLB eqP (a.drop i) (b.drop i)) (fun i=>a.length-i) 0 ⟨Nat.zero_le _,hR⟩ rfl fun i hi ih=>?_
 obtain ⟨hi1,hi2⟩:=hi
 refine y_ ?_
 refine k_ (fun hc=>?_) fun hc=>?_
 ·have hc':i<a.length:=by have:=hc;rw [List.length_map] at this;simpa using this
  clear hc
  refine Exists.elim (at_exN (l:=a) (i:=i) hc') fun x hx=>?_
  refine Exists.elim (at_exN (l:=b) (i:=i) (by omega)) fun y hy=>?_
  have hsx:=hs x (List.mem_of_getElem? hx)
  have h1:=exprs_p x.ix y.ix (smP_l hsx) hsx.2
  rw [eqLB_at hx hy,eqP] at hi2
  refine Exists.elim (show∃r,r=eqKl x.ix y.ix from ⟨_,rfl⟩) fun r hr=>?_
  rw [←hr] at h1 hi2
  clear hr hR
  refine y_ ?_
  refine A.draw 22 [0,1,2,3,4,5,6,7,8,9,10,11,12,13,14,15,16,17,18,19,20,21] noPubs [] (by kernel_rfl) (by kernel_rfl) ?_
  (repeat' first|refine WA.s rfl ?_|refine WA.r rfl rfl ?_|refine WA.p rfl ?_|refine WA.x rfl (by show (0:Int)≤(i:Nat);omega) (map_at hx) rfl rfl ?_|refine WA.x rfl (by show (0:Int)≤(i:Nat);omega) (map_at hy) rfl rfl ?_|((fail_if_success (refine WA.lit? rfl ?_));refine WA.gS rfl (fun hc=>?_) (fun hc=>?_))|refine WA.nil (l:=[]) rfl ?_)
  all_goals (repeat' first|first|refine A.s rfl ?_|refine A.r rfl rfl ?_|refine A.w rfl rfl ?_|refine A.p rfl ?_|refine A.b rfl fun bx=>?_|refine A.t rfl fun bl=>?_|refine A.c rfl h1 .refl ?_|((fail_if_success (refine A.lit? rfl ?_));refine A.gS rfl (fun hc=>?_) (fun hc=>?_))|((fail_if_success (refine A.litP? rfl ?_));refine A.gSP rfl (fun hc=>?_) (fun hc=>?_)))
  all_goals first
   |(refine R_ ?_;refine Sb.eq (ab_eq ?_);rw [hi2];simp_all)
   |(refine A.valE 5 rfl (x':=AI ((i+1:Nat):Int)) (inc_eq i (by omega)) ?_
     refine u_ (ih (i+1) ⟨by omega,by rw [hi2];simp_all⟩ (by omega)))
 have hc': ¬i<a.length:=by have:=hc;rw [List.length_map] at this;simpa using this
 have hil:i=a.length:=by omega
 have:R=true:=by rw [hi2,hil,List.drop_length,hl,List.drop_length];rfl
 rw [this]
 exact yr_
theorem eqG_eq2(x y:GD):eqG x y=((x.kind==y.kind)&&((x.c==y.c)&&((x.item==y.item)&&(eqKl [x.cond,x.time] [y.cond,y.time]&&(eqLB eqP [x.to] [y.to]&&eqRl x.body y.body))))):=by
 rw [eqG_eq,eqKl,eqKl,eqKl,eqLB,eqLB,Bool.and_true,Bool.and_true]
 simp only [Bool.and_assoc]
theorem two_kes(a b:KE):kesA [a,b]= .sl 6 [.ag [AU8 a.kind,AU8 a.oper,AU8 a.to,AI32 a.n,AI a.v, .sl 6 (encKl a.l) none], .ag [AU8 b.kind,AU8 b.oper,AU8 b.to,AI32 b.n,AI b.v, .sl 6 (encKl b.l) none]] none:=by
 show AV.sl 6 (encKl _) none=_
 rw [encKl,encKl,encKl,encK_eq,encK_eq]
theorem guards_a(a b:List GD)(hb:a.length≤281474976710656)(hs: ∀x,x∈a→smG x)(hrec: ∀x,x∈a→ ∀y:GD,Pure Tryz.prog gs0 49 [rsA x.body,rsA y.body] (AB (eqRl x.body y.body))):Pure Tryz.prog gs0 85 [gsA a,gsA b] (AB (eqGl a b)):=by
 by_cases hl:a.length=b.length
 case neg=>
  rw [eqGl_eq,eqLB_len hl]
  refine p_ tt_ok Tryz.func85 117 fun w0 h0 F hgs=>?_
  refine y_ ?_
  refine e_ 13 rfl (x':=AB true) (ab_eq (by rw [encGl_len,encGl_len];show (!((a.length:Int)==(b.length:Int)))=true;rw [beq_eq_false_iff_ne.2 (by omega)];rfl)) ?_;exact r_
 refine Exists.elim (show∃R,R=eqGl a b from ⟨_,rfl⟩) fun R hR=>?_
 rw [←hR]
 refine p_ tt_ok Tryz.func85 117 fun w0 h0 F hgs=>?_
 refine y_ ?_
 refine e_ 13 rfl (x':=AB false) (ab_eq (by rw [encGl_len,encGl_len];show (!((a.length:Int)==(b.length:Int)))=false;rw [beq_iff_eq.2 (by omega)];rfl)) ?_
 refine A.keep [0,1,5] rfl ?_
 refine A.loopP (ι:=Nat) (fun i=>(⟨[(0,gsA a),(1,gsA b),(5,AI (i:Nat))],[]⟩,[])) (fun i=>i≤a.length∧R=eqLB eqG (a.drop i) (b.drop i)) (fun i=>a.length-i) 0 ⟨Nat.zero_le _,by rw [hR,eqGl_eq];rfl⟩ rfl fun i hi ih=>?_
 obtain ⟨hi1,hi2⟩:=hi
 refine y_ ?_
 refine k_ (fun hc=>?_) fun hc=>?_
 ·have hc':i<a.length:=by have:=hc;rw [encGl_len] at this;simpa using this
  clear hc
  refine Exists.elim (at_exN (l:=a) (i:=i) hc') fun x hx=>?_
  refine Exists.elim (at_exN (l:=b) (i:=i) (by omega)) fun y hy=>?_
  have hS:=smG_all (hs x (List.mem_of_getElem? hx))
  have h3:=hrec x (List.mem_of_getElem? hx) y
  have h1:=exprs_p [x.cond,x.time] [y.cond,y.time] (by simp) (fun z hz=>by
   rcases List.mem_cons.1 hz with rfl|hz
   ·exact hS.cond
   ·rw [List.mem_singleton] at hz;subst hz;exact hS.time)
  have h2:=places_p [x.to] [y.to] (by simp) (fun z hz=>by rw [List.mem_singleton] at hz;subst hz;exact hS.to)
  rw [eqLB_at hx hy,eqG_eq2] at hi2
  rw [two_kes,two_kes] at h1
  refine Exists.elim (show∃r,r=eqKl [x.cond,x.time] [y.cond,y.time] from ⟨_,rfl⟩) fun r1 hr=>?_
  rw [←hr] at h1 hi2
  clear hr
  refine Exists.elim (show∃r,r=eqLB eqP [x.to] [y.to] from ⟨_,rfl⟩) fun r2 hr=>?_
  rw [←hr] at h2 hi2
  clear hr
  refine Exists.elim (show∃r,r=eqRl x.body y.body from ⟨_,rfl⟩) fun r3 hr=>?_
  rw [←hr] at h3 hi2
  clear hr hrec hR hS
  refine Exists.elim (show∃one,one=((x.kind==y.kind)&&((x.c==y.c)&&(x.item==y.item))) from ⟨_,rfl⟩) fun one hone=>?_
  have hi2:R=((one&&(r1&&(r2&&r3)))&&eqLB eqG (a.drop (i+1)) (b.drop (i+1))):=by rw [hi2,hone];simp only [Bool.and_assoc]
  refine y_ ?_
  refine A.draw 35 [0,1,2,3,4,5,6,7,8,9,10,11,12,13,14,15,16,17,18,19,20,21,22,23,24,25,26,27,28,29,30,31,32,33,34] noPubs [] (by kernel_rfl) (by kernel_rfl) ?_
  (repeat' first|refine WA.s rfl ?_|refine WA.r rfl rfl ?_|refine WA.p rfl ?_|refine WA.x rfl (by show (0:Int)≤(i:Nat);omega) (encGl_at hx) (encG_eq x) rfl ?_|refine WA.x rfl (by show (0:Int)≤(i:Nat);omega) (encGl_at hy) (encG_eq y) rfl ?_|((fail_if_success (refine WA.lit? rfl ?_));refine WA.gS rfl (fun hc=>?_) (fun hc=>?_))|refine WA.nil (l:=[]) rfl ?_)
  all_goals (refine y_ ?_;refine A.valE 6 rfl (x':=AB one) (ab_eq (by rw [hone];simp_all)) ?_)
  all_goals (refine A.draw 10 [0,1,2,3,4,5,6,7,8,9] noPubs [] (by kernel_rfl) (by kernel_rfl) ?_)
  all_goals (repeat' first|refine WA.s rfl ?_|refine WA.r rfl rfl ?_|refine WA.p rfl ?_|refine WA.x rfl (by show (0:Int)≤(i:Nat);omega) (encGl_at hx) (encG_eq x) rfl ?_|refine WA.x rfl (by show (0:Int)≤(i:Nat);omega) (encGl_at hy) (encG_eq y) rfl ?_|refine WA.nil (l:=[]) rfl ?_)
  all_goals (refine t_ fun bl=>?_;refine y_ ?_)
  all_goals (refine A.draw 10 [0,1,2,3,4,5,6,7,8,9] noPubs [] (by kernel_rfl) (by kernel_rfl) ?_)
  all_goals (repeat' first|refine WA.s rfl ?_|refine WA.r rfl rfl ?_|refine WA.p rfl ?_|refine WA.x rfl (by show (0:Int)≤(i:Nat);omega) (encGl_at hx) (encG_eq x) rfl ?_|refine WA.x rfl (by show (0:Int)≤(i:Nat);omega) (encGl_at hy) (encG_eq y) rfl ?_|refine WA.nil (l:=[]) rfl ?_)
  all_goals (refine t_ fun bl=>?_;refine y_ ?_)
  all_goals (refine A.val 7 rfl .own1 ?_;refine A.val 8 rfl .own1 ?_)
  all_goals (refine A.keep [0,1,5,6,7,8] rfl ?_)
  all_goals clear hone
  all_goals (cases one with
   |false=>
    refine A.draw 35 [0,1,2,3,4,5,6,7,8,9,10,11,12,13,14,15,16,17,18,19,20,21,22,23,24,25,26,27,28,29,30,31,32,33,34] (fun i=>if i=21 then [14,20] else []) [(5,AB r1),(21,AB r2)] (by kernel_rfl) (by kernel_rfl) ?_
    (repeat' refine WA.s rfl ?_)
    refine z_ ?_;refine R_ ?_;refine Sb.eq (ab_eq ?_);rw [hi2];rfl
   |true=>
    refine A.draw 35 [0,1,2,3,4,5,6,7,8,9,10,11,12,13,14,15,16,17,18,19,20,21,22,23,24,25,26,27,28,29,30,31,32,33,34] (fun i=>if i=21 then [14,20] else []) [(5,AB r1),(21,AB r2)] (by kernel_rfl) (by kernel_rfl) ?_
    (repeat' refine WA.s rfl ?_)
    refine WA.c rfl rfl h1 (.sub .refl) ?_
    (repeat' refine WA.s rfl ?_)
    cases r1 with
    |false=>
     (repeat' refine WA.s rfl ?_)
     refine z_ ?_;refine R_ ?_;refine Sb.eq (ab_eq ?_);rw [hi2];rfl
    |true=>
     (repeat' first|refine WA.s rfl ?_|refine WA.r rfl rfl ?_|refine WA.p rfl ?_|refine WA.x rfl (by show (0:Int)≤(i:Nat);omega) (encGl_at hx) (encG_eq x) rfl ?_|refine WA.x rfl (by show (0:Int)≤(i:Nat);omega) (encGl_at hy) (encG_eq y) rfl ?_)
     refine WA.lit rfl rfl rfl rfl rfl rfl rfl fun bw=>?_
     (repeat' first|refine WA.s rfl ?_|refine WA.r rfl rfl ?_|refine WA.p rfl ?_|refine WA.x rfl (by show (0:Int)≤(i:Nat);omega) (encGl_at hx) (encG_eq x) rfl ?_|refine WA.x rfl (by show (0:Int)≤(i:Nat);omega) (encGl_at hy) (encG_eq y) rfl ?_)
     refine WA.lit rfl rfl rfl rfl rfl rfl rfl fun bw=>?_
     refine WA.c rfl rfl h2 (.cons (.pub (j:=14) rfl rfl (.sub .refl)) (.cons (.pub (j:=20) rfl rfl (.sub .refl)) (.sub .refl))) ?_
     (repeat' refine WA.s rfl ?_)
     cases r2 with
     |false=>
      (repeat' refine WA.s rfl ?_)
      refine z_ ?_;refine R_ ?_;refine Sb.eq (ab_eq ?_);rw [hi2];rfl
     |true=>
      (repeat' first|refine WA.s rfl ?_|refine WA.r rfl rfl ?_|refine WA.p rfl ?_|refine WA.x rfl (by show (0:Int)≤(i:Nat);omega) (encGl_at hx) (encG_eq x) rfl ?_|refine WA.x rfl (by show (0:Int)≤(i:Nat);omega) (encGl_at hy) (encG_eq y) rfl ?_)
      refine WA.nil (l:=[]) rfl ?_
      refine n_ h3 ?_
      cases r3 with
      |false=>refine y_ ?_;refine R_ ?_;refine Sb.eq (ab_eq ?_);rw [hi2];rfl
      |true=>
       refine y_ ?_
       refine A.valE 5 rfl (x':=AI ((i+1:Nat):Int)) (inc_eq i (by omega)) ?_
       refine u_ (ih (i+1) ⟨by omega,by rw [hi2];rfl⟩ (by omega)))
 have hc': ¬i<a.length:=by have:=hc;rw [encGl_len] at this;simpa using this
 have hil:i=a.length:=by omega
 have:R=true:=by rw [hi2,hil,List.drop_length,hl,List.drop_length];rfl
 rw [this]
 exact yr_
theorem procs_a(a b:List PR)(hb:a.length≤281474976710656)(hs: ∀x,x∈a→smR x)(hg: ∀x,x∈a→ ∀y:PR,Pure Tryz.prog gs0 85 [gsA x.gs,gsA y.gs] (AB (eqGl x.gs y.gs)))(hrec: ∀x,x∈a→ ∀y:PR,Pure Tryz.prog gs0 49 [rsA x.l,rsA y.l] (AB (eqRl x.l y.l))):
 Pure Tryz.prog gs0 49 [rsA a,rsA b] (AB (eqRl a b)):=by
 by_cases hl:a.length=b.length
 case neg=>
  rw [eqRl_eq,eqLB_len hl]
  refine p_ tt_ok Tryz.func49 126 fun w0 h0 F hgs=>?_
  refine y_ ?_
  refine e_ 11 rfl (x':=AB true) (ab_eq (by rw [encRl_len,encRl_len];show (!((a.length:Int)==(b.length:Int)))=true;rw [beq_eq_false_iff_ne.2 (by omega)];rfl)) ?_;exact r_
 refine Exists.elim (show∃R,R=eqRl a b from ⟨_,rfl⟩) fun R hR=>?_
 rw [←hR]
 refine p_ tt_ok Tryz.func49 126 fun w0 h0 F hgs=>?_
 refine y_ ?_
 refine e_ 11 rfl (x':=AB false) (ab_eq (by rw [encRl_len,encRl_len];show (!((a.length:Int)==(b.length:Int)))=false;rw [beq_iff_eq.2 (by omega)];rfl)) ?_
 refine A.keep [0,1,5] rfl ?_
 refine A.loopP (ι:=Nat) (fun i=>(⟨[(0,rsA a),(1,rsA b),(5,AI (i:Nat))],[]⟩,[])) (fun i=>i≤a.length∧R=eqLB eqR (a.drop i) (b.drop i)) (fun i=>a.length-i) 0 ⟨Nat.zero_le _,by rw [hR,eqRl_eq];rfl⟩ rfl fun i hi ih=>?_
 obtain ⟨hi1,hi2⟩:=hi
 refine y_ ?_
 refine k_ (fun hc=>?_) fun hc=>?_
 ·have hc':i<a.length:=by have:=hc;rw [encRl_len] at this;simpa using this
  clear hc
  refine Exists.elim (at_exN (l:=a) (i:=i) hc') fun x hx=>?_
  refine Exists.elim (at_exN (l:=b) (i:=i) (by omega)) fun y hy=>?_
  have hS:=smR_all (hs x (List.mem_of_getElem? hx))
  have h1:=places_p x.to y.to hS.tol hS.to
  have h2:=exprs_p x.e y.e hS.el hS.e
  have h3:=hg x (List.mem_of_getElem? hx) y
  have h4:=hrec x (List.mem_of_getElem? hx) y
  rw [eqLB_at hx hy,eqR_eq] at hi2
  refine Exists.elim (show∃r,r=eqLB eqP x.to y.to from ⟨_,rfl⟩) fun r1 hr=>?_
  rw [←hr] at h1 hi2
  clear hr
  refine Exists.elim (show∃r,r=eqKl x.e y.e from ⟨_,rfl⟩) fun r2 hr=>?_
  rw [←hr] at h2 hi2
  clear hr
  refine Exists.elim (show∃r,r=eqGl x.gs y.gs from ⟨_,rfl⟩) fun r3 hr=>?_
  rw [←hr] at h3 hi2
  clear hr
  refine Exists.elim (show∃r,r=eqRl x.l y.l from ⟨_,rfl⟩) fun r4 hr=>?_
  rw [←hr] at h4 hi2
  clear hr hrec hg hR hS
  refine Exists.elim (show∃one,one=((x.kind==y.kind)&&((x.c==y.c)&&((x.v==y.v)&&(x.item==y.item)))) from ⟨_,rfl⟩) fun one hone=>?_
  have hi2:R=((one&&(r1&&(r2&&(r3&&r4))))&&eqLB eqR (a.drop (i+1)) (b.drop (i+1))):=by rw [hi2,hone];simp only [Bool.and_assoc]
  refine y_ ?_
  refine A.draw 48 [0,1,2,3,4,5,6,7,8,9,10,11,12,13,14,15,16,17,18,19,20,21,22,23,24,25,26,27,28,29,30,31,32,33,34,35,36,37,38,39,40,41,42,43,44,45,46,47] noPubs [] (by kernel_rfl) (by kernel_rfl) ?_
  (repeat' first|refine WA.s rfl ?_|refine WA.r rfl rfl ?_|refine WA.p rfl ?_|refine WA.x rfl (by show (0:Int)≤(i:Nat);omega) (encRl_at hx) (encR_eq x) rfl ?_|refine WA.x rfl (by show (0:Int)≤(i:Nat);omega) (encRl_at hy) (encR_eq y) rfl ?_|((fail_if_success (refine WA.lit? rfl ?_));refine WA.gS rfl (fun hc=>?_) (fun hc=>?_))|refine WA.nil (l:=[]) rfl ?_)
  all_goals (refine y_ ?_;(repeat' first|((fail_if_success (refine A.lit? rfl ?_));refine A.gS rfl (fun hc=>?_) (fun hc=>?_))|first|refine A.s rfl ?_|refine A.r rfl rfl ?_|refine A.w rfl rfl ?_|refine A.p rfl ?_|refine A.b rfl fun bx=>?_|refine A.t rfl fun bl=>?_|((fail_if_success (refine A.litP? rfl ?_));refine A.gSP rfl (fun hc=>?_) (fun hc=>?_)));refine A.valE 6 rfl (x':=AB one) (ab_eq (by rw [hone];simp_all)) ?_)
  all_goals (refine A.keep [0,1,5,6] rfl ?_)
  all_goals clear hone
  all_goals (cases one with
   |false=>
    refine A.draw 55 [0,1,2,3,4,5,6,7,8,9,10,11,12,13,14,15,16,17,18,19,20,21,22,23,24,25,26,27,28,29,30,31,32,33,34,35,36,37,38,39,40,41,42,43,44,45,46,47,48,49,50,51,52,53,54] noPubs [(13,AB r1),(27,AB r2),(41,AB r3)] (by kernel_rfl) (by kernel_rfl) ?_
    (repeat' refine WA.s rfl ?_);refine z_ ?_;refine R_ ?_;refine Sb.eq (ab_eq ?_);rw [hi2];rfl
   |true=>
    refine A.draw 55 [0,1,2,3,4,5,6,7,8,9,10,11,12,13,14,15,16,17,18,19,20,21,22,23,24,25,26,27,28,29,30,31,32,33,34,35,36,37,38,39,40,41,42,43,44,45,46,47,48,49,50,51,52,53,54] noPubs [(13,AB r1),(27,AB r2),(41,AB r3)] (by kernel_rfl) (by kernel_rfl) ?_
    (repeat' first|refine WA.s rfl ?_|refine WA.r rfl rfl ?_|refine WA.p rfl ?_|refine WA.x rfl (by show (0:Int)≤(i:Nat);omega) (encRl_at hx) (encR_eq x) rfl ?_|refine WA.x rfl (by show (0:Int)≤(i:Nat);omega) (encRl_at hy) (encR_eq y) rfl ?_)
    refine WA.c rfl rfl h1 (.sub .refl) ?_
    (repeat' refine WA.s rfl ?_)
    cases r1 with
    |false=>(repeat' refine WA.s rfl ?_);refine z_ ?_;refine R_ ?_;refine Sb.eq (ab_eq ?_);rw [hi2];rfl
    |true=>
    (repeat' first|refine WA.s rfl ?_|refine WA.r rfl rfl ?_|refine WA.p rfl ?_|refine WA.x rfl (by show (0:Int)≤(i:Nat);omega) (encRl_at hx) (encR_eq x) rfl ?_|refine WA.x rfl (by show (0:Int)≤(i:Nat);omega) (encRl_at hy) (encR_eq y) rfl ?_)
    refine WA.c rfl rfl h2 (.sub .refl) ?_
    (repeat' refine WA.s rfl ?_)
    cases r2 with
    |false=>(repeat' refine WA.s rfl ?_);refine z_ ?_;refine R_ ?_;refine Sb.eq (ab_eq ?_);rw [hi2];rfl
    |true=>
    (repeat' first|refine WA.s rfl ?_|refine WA.r rfl rfl ?_|refine WA.p rfl ?_|refine WA.x rfl (by show (0:Int)≤(i:Nat);omega) (encRl_at hx) (encR_eq x) rfl ?_|refine WA.x rfl (by show (0:Int)≤(i:Nat);omega) (encRl_at hy) (encR_eq y) rfl ?_)
    refine WA.c rfl rfl h3 (.sub .refl) ?_
    (repeat' refine WA.s rfl ?_)
    cases r3 with
    |false=>(repeat' refine WA.s rfl ?_);refine z_ ?_;refine R_ ?_;refine Sb.eq (ab_eq ?_);rw [hi2];rfl
    |true=>
    (repeat' first|refine WA.s rfl ?_|refine WA.r rfl rfl ?_|refine WA.p rfl ?_|refine WA.x rfl (by show (0:Int)≤(i:Nat);omega) (encRl_at hx) (encR_eq x) rfl ?_|refine WA.x rfl (by show (0:Int)≤(i:Nat);omega) (encRl_at hy) (encR_eq y) rfl ?_)
    refine WA.nil (l:=[]) rfl ?_
    refine n_ h4 ?_
    cases r4 with
    |false=>refine y_ ?_;refine R_ ?_;refine Sb.eq (ab_eq ?_);rw [hi2];rfl
    |true=>
     refine y_ ?_
     refine A.valE 5 rfl (x':=AI ((i+1:Nat):Int)) (inc_eq i (by omega)) ?_
     refine u_ (ih (i+1) ⟨by omega,by rw [hi2];rfl⟩ (by omega)))
 have hc': ¬i<a.length:=by have:=hc;rw [encRl_len] at this;simpa using this
 have hil:i=a.length:=by omega
 have:R=true:=by rw [hi2,hil,List.drop_length,hl,List.drop_length];rfl
 rw [this]
 exact yr_
theorem procs_n: ∀(m:Nat),(∀a b:List PR,SizeOf.sizeOf a≤m→a.length≤281474976710656→(∀x,x∈a→smR x)→Pure Tryz.prog gs0 49 [rsA a,rsA b] (AB (eqRl a b)))∧
 (∀a b:List GD,SizeOf.sizeOf a≤m→a.length≤281474976710656→(∀x,x∈a→smG x)→Pure Tryz.prog gs0 85 [gsA a,gsA b] (AB (eqGl a b)))
 |0=>⟨fun a b h _ _=>by cases a<;>simp at h,fun a b h _ _=>by cases a<;>simp at h⟩
 |m+1=>by
  obtain ⟨i1,i2⟩:=procs_n m
  refine ⟨fun a b h hb hs=>procs_a a b hb hs (fun x hx y=>?_) (fun x hx y=>?_),fun a b h hb hs=>guards_a a b hb hs fun x hx y=>?_⟩
  ·have h1:=List.sizeOf_lt_of_mem hx
   have hS:=smR_all (hs x hx)
   refine i2 x.gs y.gs ?_ hS.gl hS.g
   obtain ⟨k,c,v,i,to,e,gs,l⟩:=x
   simp only [PR.mk.sizeOf_spec,PR.gs] at h1⊢
   omega
  ·have h1:=List.sizeOf_lt_of_mem hx
   have hS:=smR_all (hs x hx)
   refine i1 x.l y.l ?_ hS.ll hS.l
   obtain ⟨k,c,v,i,to,e,gs,l⟩:=x
   simp only [PR.mk.sizeOf_spec,PR.l] at h1⊢
   omega
  ·have h1:=List.sizeOf_lt_of_mem hx
   have hS:=smG_all (hs x hx)
   refine i1 x.body y.body ?_ hS.bl hS.body
   obtain ⟨k,e,c,i,to,t,bd⟩:=x
   simp only [GD.mk.sizeOf_spec,GD.body] at h1⊢
   omega
theorem procs_p(a b:List PR)(hb:a.length≤281474976710656)(hs: ∀x,x∈a→smR x):Pure Tryz.prog gs0 49 [rsA a,rsA b] (AB (eqRl a b)):=(procs_n _).1 a b (Nat.le_refl _) hb hs
theorem encKl_cells(l:List KE):encKl l=l.map cellsK:=by rw [encKl_map];exact List.map_congr_left fun x _=>encK_eq x
theorem encRl_cells(l:List PR):encRl l=l.map cellsR:=by rw [encRl_map];exact List.map_congr_left fun x _=>encR_eq x
theorem encGl_cells(l:List GD):encGl l=l.map cellsG:=by rw [encGl_map];exact List.map_congr_left fun x _=>encG_eq x
def rowE{α:Type}(enc:α→AV)(Z:AV)(l:List α)(i:Nat):List AV:=(l.take i).map enc++List.replicate (l.length-i) Z
theorem rowE_len{α:Type}{enc:α→AV}{Z:AV}{l:List α}{i:Nat}(h:i≤l.length):(rowE enc Z l i).length=l.length:=by
 rw [rowE,List.length_append,List.length_map,List.length_take,List.length_replicate];omega
theorem rowE_set{α:Type}{enc:α→AV}{Z:AV}{l:List α}{i:Nat}{x:α}(hx:l[i]? =some x):(rowE enc Z l i).set i (enc x)=rowE enc Z l (i+1):=by
 have hi:i<l.length:=by
  rcases Nat.lt_or_ge i l.length with h|h
  ·exact h
  ·rw [List.getElem?_eq_none h] at hx;cases hx
 unfold rowE
 rw [List.take_add_one,hx,List.set_append_right _ _ (by rw [List.length_map,List.length_take];omega),List.length_map,List.length_take,show i-min i l.length=0 by omega,show l.length-i=(l.length-(i+1))+1 by omega,List.replicate_succ,List.set_cons_zero]
 simp
theorem rowE_full{α:Type}{enc:α→AV}{Z:AV}{l:List α}:rowE enc Z l l.length=l.map enc:=by
 rw [rowE,List.take_length,Nat.sub_self];simp
theorem eachKExpr_p{gs:Ua}(f:FuncId)(l:List KE)(hcb: ∀x,x∈l→Pure Tryz.prog gs f [cellsK x] (cellsK x))(hb:l.length*40≤140737488355328):Pure Tryz.prog gs 76 [kesA l, .fn f [] []] (kesA l):=by
 have hsl:kesA l= .sl 6 (l.map cellsK) none:=by show AV.sl 6 _ none=_;rw [encKl_cells]
 rw [hsl]
 by_cases h0:l=[]
 ·subst h0
  refine p_ tt_ok Tryz.func76 29 fun w0 h0 F hgs=>?_
  refine y_ ?_;refine R_ ?_;exact .nil
 have hlp:0<l.length:=List.length_pos_iff.2 h0
 refine p_ tt_ok Tryz.func76 29 fun w0 h0 F hgs=>?_
 refine y_ ?_
 refine e_ 10 rfl (x':=AB false) (ab_eq (by rw [List.length_map];show ((l.length:Int)==0)=false;rw [beq_eq_false_iff_ne];omega)) ?_
 refine A.valE 12 rfl (x':=AI (l.length:Nat)) (ai_eq (by rw [List.length_map])) ?_
 refine A.makeV rfl rfl rfl rfl rfl rfl rfl rfl rfl rfl rfl rfl (by omega) (by show (40:Int)*_≤_;omega) (by omega) fun a cp hcp=>?_
 refine y_ ?_
 refine A.valE 15 rfl (x':=AI (l.length:Nat)) (ai_eq (by rw [List.length_map])) ?_
 refine A.keep [1,5,14,15,16] rfl ?_
 refine A.entsEq (Λ':=[.row 6 (.slice a l.length cp) (rowE cellsK (.ag [AU8 0,AU8 0,AU8 0,AI32 0,AI 0, .v (.slice none 0 0)]) l 0)]) (by rw [rowE];rfl) ?_
 refine A.loopP (ι:=Nat) (fun i=>(⟨[(1, .fn f [] []),(5, .ms (.slice a l.length cp) 6 l.length),(14, .sl 6 (l.map cellsK) none),(15,AI (l.length:Nat)),(16,AI (i:Nat))],[]⟩,[.row 6 (.slice a l.length cp) (rowE cellsK (.ag [AU8 0,AU8 0,AU8 0,AI32 0,AI 0, .v (.slice none 0 0)]) l i)])) (fun i=>i≤l.length) (fun i=>l.length-i) 0 (Nat.zero_le _) rfl fun i hi ih=>?_
 refine y_ ?_
 refine k_ (fun hc=>?_) fun hc=>?_
 ·have hc':i<l.length:=by simpa using hc
  refine Exists.elim (at_exN (l:=l) (i:=i) hc') fun x hx=>?_
  have hx1:=hcb x (List.mem_of_getElem? hx)
  refine y_ ?_
  refine j_ rfl (map_at hx) rfl ?_
  (refine b_ fun bx=>?_;refine y_ ?_)
  refine n_ hx1 ?_
  refine A.indexRow rfl rfl rfl rfl rfl rfl rfl rfl (by show (0:Int)≤(i:Nat);omega) (by rw [rowE_len hi];omega) rfl ?_
  refine A.storeRow rfl rfl rfl rfl rfl rfl rfl rfl rfl (by show i<(rowE cellsK (.ag [AU8 0,AU8 0,AU8 0,AI32 0,AI 0, .v (.slice none 0 0)]) l i).length;rw [rowE_len hi];omega) (xs':=rowE cellsK (.ag [AU8 0,AU8 0,AU8 0,AI32 0,AI 0, .v (.slice none 0 0)]) l (i+1)) (rowE_set (i:=i) hx) ?_
  refine y_ ?_
  refine A.valE 16 rfl (x':=AI ((i+1:Nat):Int)) (inc_eq i (by omega)) ?_
  refine l_ (Λ':=[.row 6 (.slice a l.length cp) (rowE cellsK (.ag [AU8 0,AU8 0,AU8 0,AI32 0,AI 0, .v (.slice none 0 0)]) l (i+1))]) ?_
  refine u_ (ih (i+1) (by omega) (by omega))
 have hc': ¬i<l.length:=by simpa using hc
 have hil:i=l.length:=by omega
 refine A.entsEq (Λ':=[.row 6 (.slice a l.length cp) (l.map cellsK)]) (by rw [hil,rowE_full]) ?_
 refine A.freezeRow 5 rfl ?_
 exact yr_
theorem eachKPlace_p{gs:Ua}(f:FuncId)(l:List PL)(hcb: ∀x,x∈l→Pure Tryz.prog gs f [encPl x] (encPl x))(hb:l.length*32≤140737488355328):Pure Tryz.prog gs 74 [plsA l, .fn f [] []] (plsA l):=by
 have hsl:plsA l= .sl 2 (l.map encPl) none:=rfl
 rw [hsl]
 by_cases h0:l=[]
 ·subst h0
  refine p_ tt_ok Tryz.func74 29 fun w0 h0 F hgs=>?_
  refine y_ ?_;refine R_ ?_;exact .nil
 have hlp:0<l.length:=List.length_pos_iff.2 h0
 refine p_ tt_ok Tryz.func74 29 fun w0 h0 F hgs=>?_
 refine y_ ?_
 refine e_ 10 rfl (x':=AB false) (ab_eq (by rw [List.length_map];show ((l.length:Int)==0)=false;rw [beq_eq_false_iff_ne];omega)) ?_
 refine A.valE 12 rfl (x':=AI (l.length:Nat)) (ai_eq (by rw [List.length_map])) ?_
 refine A.makeV rfl rfl rfl rfl rfl rfl rfl rfl rfl rfl rfl rfl (by omega) (by show (32:Int)*_≤_;omega) (by omega) fun a cp hcp=>?_
 refine y_ ?_
 refine A.valE 15 rfl (x':=AI (l.length:Nat)) (ai_eq (by rw [List.length_map])) ?_
 refine A.keep [1,5,14,15,16] rfl ?_
 refine A.entsEq (Λ':=[.row 2 (.slice a l.length cp) (rowE encPl (.ag [AI 0, .v (.slice none 0 0)]) l 0)]) (by rw [rowE];rfl) ?_
 refine A.loopP (ι:=Nat) (fun i=>(⟨[(1, .fn f [] []),(5, .ms (.slice a l.length cp) 2 l.length),(14, .sl 2 (l.map encPl) none),(15,AI (l.length:Nat)),(16,AI (i:Nat))],[]⟩,[.row 2 (.slice a l.length cp) (rowE encPl (.ag [AI 0, .v (.slice none 0 0)]) l i)])) (fun i=>i≤l.length) (fun i=>l.length-i) 0 (Nat.zero_le _) rfl fun i hi ih=>?_
 refine y_ ?_
 refine k_ (fun hc=>?_) fun hc=>?_
 ·have hc':i<l.length:=by simpa using hc
  refine Exists.elim (at_exN (l:=l) (i:=i) hc') fun x hx=>?_
  have hx1:=hcb x (List.mem_of_getElem? hx)
  refine y_ ?_
  refine j_ rfl (map_at hx) rfl ?_
  (refine b_ fun bx=>?_;refine y_ ?_)
  refine n_ hx1 ?_
  refine A.indexRow rfl rfl rfl rfl rfl rfl rfl rfl (by show (0:Int)≤(i:Nat);omega) (by rw [rowE_len hi];omega) rfl ?_
  refine A.storeRow rfl rfl rfl rfl rfl rfl rfl rfl rfl (by show i<(rowE encPl (.ag [AI 0, .v (.slice none 0 0)]) l i).length;rw [rowE_len hi];omega) (xs':=rowE encPl (.ag [AI 0, .v (.slice none 0 0)]) l (i+1)) (rowE_set (i:=i) hx) ?_
  refine y_ ?_
  refine A.valE 16 rfl (x':=AI ((i+1:Nat):Int)) (inc_eq i (by omega)) ?_
  refine l_ (Λ':=[.row 2 (.slice a l.length cp) (rowE encPl (.ag [AI 0, .v (.slice none 0 0)]) l (i+1))]) ?_
  refine u_ (ih (i+1) (by omega) (by omega))
 have hc': ¬i<l.length:=by simpa using hc
 have hil:i=l.length:=by omega
 refine A.entsEq (Λ':=[.row 2 (.slice a l.length cp) (l.map encPl)]) (by rw [hil,rowE_full]) ?_
 refine A.freezeRow 5 rfl ?_
 exact yr_
theorem eachKGuard_p{gs:Ua}(f:FuncId)(l:List GD)(hcb: ∀x,x∈l→Pure Tryz.prog gs f [cellsG x] (cellsG x))(hb:l.length*160≤140737488355328):Pure Tryz.prog gs 79 [gsA l, .fn f [] []] (gsA l):=by
 have hsl:gsA l= .sl 18 (l.map cellsG) none:=by show AV.sl 18 _ none=_;rw [encGl_cells]
 rw [hsl]
 by_cases h0:l=[]
 ·subst h0
  refine p_ tt_ok Tryz.func79 29 fun w0 h0 F hgs=>?_
  refine y_ ?_;refine R_ ?_;exact .nil
 have hlp:0<l.length:=List.length_pos_iff.2 h0
 refine p_ tt_ok Tryz.func79 29 fun w0 h0 F hgs=>?_
 refine y_ ?_
 refine e_ 10 rfl (x':=AB false) (ab_eq (by rw [List.length_map];show ((l.length:Int)==0)=false;rw [beq_eq_false_iff_ne];omega)) ?_
 refine A.valE 12 rfl (x':=AI (l.length:Nat)) (ai_eq (by rw [List.length_map])) ?_
 refine A.makeV rfl rfl rfl rfl rfl rfl rfl rfl rfl rfl rfl rfl (by omega) (by show (160:Int)*_≤_;omega) (by omega) fun a cp hcp=>?_
 refine y_ ?_
 refine A.valE 15 rfl (x':=AI (l.length:Nat)) (ai_eq (by rw [List.length_map])) ?_
 refine A.keep [1,5,14,15,16] rfl ?_
 refine A.entsEq (Λ':=[.row 18 (.slice a l.length cp) (rowE cellsG (.ag [AU8 0,AU8 0,AU8 0,AU8 0,AI32 0,AI 0, .v (.slice none 0 0),AI 0,AU8 0,AI 0, .v (.slice none 0 0),AU8 0,AU8 0,AU8 0,AI32 0,AI 0, .v (.slice none 0 0), .v (.slice none 0 0)]) l 0)]) (by rw [rowE];rfl) ?_
 refine A.loopP (ι:=Nat) (fun i=>(⟨[(1, .fn f [] []),(5, .ms (.slice a l.length cp) 18 l.length),(14, .sl 18 (l.map cellsG) none),(15,AI (l.length:Nat)),(16,AI (i:Nat))],[]⟩,[.row 18 (.slice a l.length cp) (rowE cellsG (.ag [AU8 0,AU8 0,AU8 0,AU8 0,AI32 0,AI 0, .v (.slice none 0 0),AI 0,AU8 0,AI 0, .v (.slice none 0 0),AU8 0,AU8 0,AU8 0,AI32 0,AI 0, .v (.slice none 0 0), .v (.slice none 0 0)]) l i)])) (fun i=>i≤l.length) (fun i=>l.length-i) 0 (Nat.zero_le _) rfl fun i hi ih=>?_
 refine y_ ?_
 refine k_ (fun hc=>?_) fun hc=>?_
 ·have hc':i<l.length:=by simpa using hc
  refine Exists.elim (at_exN (l:=l) (i:=i) hc') fun x hx=>?_
  have hx1:=hcb x (List.mem_of_getElem? hx)
  refine y_ ?_
  refine j_ rfl (map_at hx) rfl ?_
  (refine b_ fun bx=>?_;refine y_ ?_)
  refine n_ hx1 ?_
  refine A.indexRow rfl rfl rfl rfl rfl rfl rfl rfl (by show (0:Int)≤(i:Nat);omega) (by rw [rowE_len hi];omega) rfl ?_
  refine A.storeRow rfl rfl rfl rfl rfl rfl rfl rfl rfl (by show i<(rowE cellsG (.ag [AU8 0,AU8 0,AU8 0,AU8 0,AI32 0,AI 0, .v (.slice none 0 0),AI 0,AU8 0,AI 0, .v (.slice none 0 0),AU8 0,AU8 0,AU8 0,AI32 0,AI 0, .v (.slice none 0 0), .v (.slice none 0 0)]) l i).length;rw [rowE_len hi];omega) (xs':=rowE cellsG (.ag [AU8 0,AU8 0,AU8 0,AU8 0,AI32 0,AI 0, .v (.slice none 0 0),AI 0,AU8 0,AI 0, .v (.slice none 0 0),AU8 0,AU8 0,AU8 0,AI32 0,AI 0, .v (.slice none 0 0), .v (.slice none 0 0)]) l (i+1)) (rowE_set (i:=i) hx) ?_
  refine y_ ?_
  refine A.valE 16 rfl (x':=AI ((i+1:Nat):Int)) (inc_eq i (by omega)) ?_
  refine l_ (Λ':=[.row 18 (.slice a l.length cp) (rowE cellsG (.ag [AU8 0,AU8 0,AU8 0,AU8 0,AI32 0,AI 0, .v (.slice none 0 0),AI 0,AU8 0,AI 0, .v (.slice none 0 0),AU8 0,AU8 0,AU8 0,AI32 0,AI 0, .v (.slice none 0 0), .v (.slice none 0 0)]) l (i+1))]) ?_
  refine u_ (ih (i+1) (by omega) (by omega))
 have hc': ¬i<l.length:=by simpa using hc
 have hil:i=l.length:=by omega
 refine A.entsEq (Λ':=[.row 18 (.slice a l.length cp) (l.map cellsG)]) (by rw [hil,rowE_full]) ?_
 refine A.freezeRow 5 rfl ?_
 exact yr_
theorem eachKProc_p{gs:Ua}(f:FuncId)(l:List PR)(hcb: ∀x,x∈l→Pure Tryz.prog gs f [cellsR x] (cellsR x))(hb:l.length*128≤140737488355328):Pure Tryz.prog gs 78 [rsA l, .fn f [] []] (rsA l):=by
 have hsl:rsA l= .sl 8 (l.map cellsR) none:=by show AV.sl 8 _ none=_;rw [encRl_cells]
 rw [hsl]
 by_cases h0:l=[]
 ·subst h0
  refine p_ tt_ok Tryz.func78 29 fun w0 h0 F hgs=>?_
  refine y_ ?_;refine R_ ?_;exact .nil
 have hlp:0<l.length:=List.length_pos_iff.2 h0
 refine p_ tt_ok Tryz.func78 29 fun w0 h0 F hgs=>?_
 refine y_ ?_
 refine e_ 10 rfl (x':=AB false) (ab_eq (by rw [List.length_map];show ((l.length:Int)==0)=false;rw [beq_eq_false_iff_ne];omega)) ?_
 refine A.valE 12 rfl (x':=AI (l.length:Nat)) (ai_eq (by rw [List.length_map])) ?_
 refine A.makeV rfl rfl rfl rfl rfl rfl rfl rfl rfl rfl rfl rfl (by omega) (by show (128:Int)*_≤_;omega) (by omega) fun a cp hcp=>?_
 refine y_ ?_
 refine A.valE 15 rfl (x':=AI (l.length:Nat)) (ai_eq (by rw [List.length_map])) ?_
 refine A.keep [1,5,14,15,16] rfl ?_
 refine A.entsEq (Λ':=[.row 8 (.slice a l.length cp) (rowE cellsR (.ag [AU8 0,AI 0,AI 0,AU8 0, .v (.slice none 0 0), .v (.slice none 0 0), .v (.slice none 0 0), .v (.slice none 0 0)]) l 0)]) (by rw [rowE];rfl) ?_
 refine A.loopP (ι:=Nat) (fun i=>(⟨[(1, .fn f [] []),(5, .ms (.slice a l.length cp) 8 l.length),(14, .sl 8 (l.map cellsR) none),(15,AI (l.length:Nat)),(16,AI (i:Nat))],[]⟩,[.row 8 (.slice a l.length cp) (rowE cellsR (.ag [AU8 0,AI 0,AI 0,AU8 0, .v (.slice none 0 0), .v (.slice none 0 0), .v (.slice none 0 0), .v (.slice none 0 0)]) l i)])) (fun i=>i≤l.length) (fun i=>l.length-i) 0 (Nat.zero_le _) rfl fun i hi ih=>?_
 refine y_ ?_
 refine k_ (fun hc=>?_) fun hc=>?_
 ·have hc':i<l.length:=by simpa using hc
  refine Exists.elim (at_exN (l:=l) (i:=i) hc') fun x hx=>?_
  have hx1:=hcb x (List.mem_of_getElem? hx)
  refine y_ ?_
  refine j_ rfl (map_at hx) rfl ?_
  (refine b_ fun bx=>?_;refine y_ ?_)
  refine n_ hx1 ?_
  refine A.indexRow rfl rfl rfl rfl rfl rfl rfl rfl (by show (0:Int)≤(i:Nat);omega) (by rw [rowE_len hi];omega) rfl ?_
  refine A.storeRow rfl rfl rfl rfl rfl rfl rfl rfl rfl (by show i<(rowE cellsR (.ag [AU8 0,AI 0,AI 0,AU8 0, .v (.slice none 0 0), .v (.slice none 0 0), .v (.slice none 0 0), .v (.slice none 0 0)]) l i).length;rw [rowE_len hi];omega) (xs':=rowE cellsR (.ag [AU8 0,AI 0,AI 0,AU8 0, .v (.slice none 0 0), .v (.slice none 0 0), .v (.slice none 0 0), .v (.slice none 0 0)]) l (i+1)) (rowE_set (i:=i) hx) ?_
  refine y_ ?_
  refine A.valE 16 rfl (x':=AI ((i+1:Nat):Int)) (inc_eq i (by omega)) ?_
  refine l_ (Λ':=[.row 8 (.slice a l.length cp) (rowE cellsR (.ag [AU8 0,AI 0,AI 0,AU8 0, .v (.slice none 0 0), .v (.slice none 0 0), .v (.slice none 0 0), .v (.slice none 0 0)]) l (i+1))]) ?_
  refine u_ (ih (i+1) (by omega) (by omega))
 have hc': ¬i<l.length:=by simpa using hc
 have hil:i=l.length:=by omega
 refine A.entsEq (Λ':=[.row 8 (.slice a l.length cp) (l.map cellsR)]) (by rw [hil,rowE_full]) ?_
 refine A.freezeRow 5 rfl ?_
 exact yr_
theorem copE_n: ∀(m:Nat) (a:KE),SizeOf.sizeOf a≤m→smK a→Pure Tryz.prog gs0 77 [cellsK a] (cellsK a)
 |0,a,h,_=>by
  obtain ⟨k,o,t,n,v,l⟩:=a
  simp only [KE.mk.sizeOf_spec] at h;omega
 |m+1,a,h,hs=>by
  have h1:Pure Tryz.prog gs0 76 [kesA a.l, .fn 77 [] []] (kesA a.l):=by
   refine eachKExpr_p _ a.l (fun x hx=>copE_n m x ?_ ((smK_l hs).2 x hx)) (smK_b hs)
   obtain ⟨k,o,t,n,v,l⟩:=a
   have:=List.sizeOf_lt_of_mem hx
   simp only [KE.mk.sizeOf_spec,KE.l] at this h
   omega
  refine p_ tt_ok Tryz.func77 8 fun w0 h0 F hgs=>?_
  (refine b_ fun bx=>?_;refine b_ fun bx=>?_;refine y_ ?_)
  refine c_ h1 ?_;refine A.retC (Λ':=[]) rfl rfl rfl rfl rfl (List.nil_sublist _) ⟨?_,rfl⟩;exact .refl
theorem copE_p(a:KE)(hs:smK a):Pure Tryz.prog gs0 77 [cellsK a] (cellsK a):=copE_n _ a (Nat.le_refl _) hs
theorem copP_p(a:PL)(hs:smP a):Pure Tryz.prog gs0 75 [encPl a] (encPl a):=by
 have h1:Pure Tryz.prog gs0 76 [kesA a.ix, .fn 77 [] []] (kesA a.ix):=eachKExpr_p _ a.ix (fun x hx=>copE_p x (hs.2 x hx)) hs.1
 refine p_ tt_ok Tryz.func75 8 fun w0 h0 F hgs=>?_
 (refine b_ fun bx=>?_;refine b_ fun bx=>?_;refine y_ ?_)
 refine c_ h1 ?_;refine A.retC (Λ':=[]) rfl rfl rfl rfl rfl (List.nil_sublist _) ⟨?_,rfl⟩;exact .refl
theorem copG_a(a:GD)(hs:SmG a)(h4:Pure Tryz.prog gs0 78 [rsA a.body, .fn 44 [] []] (rsA a.body)):Pure Tryz.prog gs0 80 [cellsG a] (cellsG a):=by
 have h1:=copE_p a.cond hs.cond
 have h2:=copE_p a.time hs.time
 have h3:=copP_p a.to hs.to
 refine p_ tt_ok Tryz.func80 20 fun w0 h0 F hgs=>?_
 (refine b_ fun bx=>?_;refine b_ fun bx=>?_;refine y_ ?_)
 refine d_ 13 [0,1,3,4,6,7,9,10,2,12,5,8,11] [(2,cellsK a.cond),(5,cellsK a.time),(8,encPl a.to),(11,rsA a.body)] ?_
 refine cw_ h1 ?_
 refine cw_ h2 ?_
 refine cw_ h3 ?_
 refine cw_ h4 ?_
 refine z_ ?_;refine A.retC (Λ':=[]) rfl rfl rfl rfl rfl (List.nil_sublist _) ⟨?_,rfl⟩;exact .refl
theorem copR_a(a:PR)(hs:SmR a)(h3:Pure Tryz.prog gs0 78 [rsA a.l, .fn 44 [] []] (rsA a.l))(h4:Pure Tryz.prog gs0 79 [gsA a.gs, .fn 80 [] []] (gsA a.gs)):Pure Tryz.prog gs0 44 [cellsR a] (cellsR a):=by
 have h1:=eachKPlace_p (gs:=gs0) 75 a.to (fun x hx=>copP_p x (hs.to x hx)) hs.tb
 have h2:=eachKExpr_p (gs:=gs0) 77 a.e (fun x hx=>copE_p x (hs.e x hx)) hs.eb
 refine p_ tt_ok Tryz.func44 20 fun w0 h0 F hgs=>?_
 (refine b_ fun bx=>?_;refine b_ fun bx=>?_;refine y_ ?_)
 refine c_ h1 ?_
 refine c_ h2 ?_
 refine c_ h3 ?_
 refine c_ h4 ?_;refine A.retC (Λ':=[]) rfl rfl rfl rfl rfl (List.nil_sublist _) ⟨?_,rfl⟩;exact .refl
theorem copR_n: ∀(m:Nat) (a:PR),SizeOf.sizeOf a≤m→smR a→Pure Tryz.prog gs0 44 [cellsR a] (cellsR a)
 |0,a,h,_=>by
  obtain ⟨k,c,v,i,to,e,gs,l⟩:=a
  simp only [PR.mk.sizeOf_spec] at h;omega
 |m+1,a,h,hs=>by
  have hS:=smR_all hs
  refine copR_a a hS (eachKProc_p _ a.l (fun x hx=>copR_n m x (by have:=pr_lt hx;omega) (hS.l x hx)) hS.lb) (eachKGuard_p _ a.gs (fun g hg=>?_) hS.gb)
  have hG:=smG_all (hS.g g hg)
  exact copG_a g hG (eachKProc_p _ g.body (fun x hx=>copR_n m x (by have:=gd_lt hg hx;omega) (hG.body x hx)) hG.bb)
theorem copied_p(a:PR)(hs:smR a):Pure Tryz.prog gs0 44 [cellsR a] (cellsR a):=copR_n _ a (Nat.le_refl _) hs
def skipR:PR:=⟨1,0,0,0,[],[],[],[]⟩
def stopR:PR:=⟨2,0,0,0,[],[],[],[]⟩
abbrev plainA(k:Int):AV:= .ag [AU8 k,AI 0,AI 0,AU8 0,plsA [],kesA [],gsA [],rsA []]
theorem plain_eq(k:Int):plainA k= .ag [AU8 k,AI 0,AI 0,AU8 0, .sl 2 [] none, .sl 6 [] none, .sl 18 [] none, .sl 8 [] none]:=by
 show AV.ag [_,_,_,_,AV.sl 2 _ none,AV.sl 6 (encKl []) none,AV.sl 18 (encGl []) none,AV.sl 8 (encRl []) none]=_
 rw [encKl,encGl,encRl];rfl
theorem skip_p:Pure Tryz.prog gs0 62 [] (cellsR skipR):=by
 show Pure Tryz.prog gs0 62 [] (plainA 1)
 rw [plain_eq]
 refine p_ tt_ok Tryz.func62 2 fun w0 h0 F hgs=>?_
 (refine b_ fun bx=>?_;refine y_ ?_);refine A.retC (Λ':=[]) rfl rfl rfl rfl rfl (List.nil_sublist _) ⟨?_,rfl⟩;exact .ag (.cons .refl (.cons .refl (.cons .refl (.cons .refl (.cons .nil (.cons .nil (.cons .nil (.cons .nil .refl))))))))
theorem stop_p:Pure Tryz.prog gs0 117 [] (cellsR stopR):=by
 show Pure Tryz.prog gs0 117 [] (plainA 2)
 rw [plain_eq]
 refine p_ tt_ok Tryz.func117 2 fun w0 h0 F hgs=>?_
 (refine b_ fun bx=>?_;refine y_ ?_);refine A.retC (Λ':=[]) rfl rfl rfl rfl rfl (List.nil_sublist _) ⟨?_,rfl⟩;exact .ag (.cons .refl (.cons .refl (.cons .refl (.cons .refl (.cons .nil (.cons .nil (.cons .nil (.cons .nil .refl))))))))
def bothB(p:PR):Bool:=p.kind==10||p.kind==11
theorem branches_p(p:PR):Pure Tryz.prog gs0 81 [cellsR p] (AB (bothB p)):=by
 unfold bothB
 refine p_ tt_ok Tryz.func81 11 fun w0 h0 F hgs=>?_
 (refine b_ fun bx=>?_;refine y_ ?_)
 ((fail_if_success (refine A.lit? rfl ?_));refine A.gS rfl (fun hc=>?_) (fun hc=>?_))
 ·have hc:(p.kind==10)=true:=hc
  refine y_ ?_;refine R_ ?_;rw [hc];exact .refl
 ·have hc:(p.kind==10)=false:=hc
  refine y_ ?_;refine R_ ?_;rw [hc];exact .refl
def doneR(p:PR):Bool:=eqR p skipR
theorem done_p(p:PR)(hs:smR p):Pure Tryz.prog gs0 36 [cellsR p] (AB (doneR p)):=by
 have h1:=psame_p p skipR hs
 refine p_ tt_ok Tryz.func36 6 fun w0 h0 F hgs=>?_
 (refine b_ fun bx=>?_;refine y_ ?_)
 refine d_ 2 [0,1] [(1,cellsR skipR)] ?_
 refine WA.c rfl rfl skip_p (.sub .refl) ?_
 refine WA.nil (l:=[]) rfl ?_
 exact cr_ h1
mutual
def normR:PR→PR
 |⟨k,c,v,i,to,e,gs,l⟩=>if k=10∨k=11 then (if (normRl l).all doneR=true then skipR else ⟨k,c,v,i,to,e,gs,normRl l⟩) else if k=9 then normSq (fun l'=>⟨k,c,v,i,to,e,gs,l'⟩) l else ⟨k,c,v,i,to,e,gs,l⟩
def normRl:List PR→List PR
 | []=>[]
 |p::r=>normR p::normRl r
def normSq(f:List PR→PR):List PR→PR
 | []=>skipR
 |x::r=>match r with
  | []=>normR x
  |y::s=>if doneR (normR x)=true then normSq f r else f (normR x::y::s)
end
theorem normRl_map: ∀l:List PR,normRl l=l.map normR
 | []=>by rw [normRl];rfl
 |p::r=>by rw [normRl,normRl_map r];rfl
mutual
def tgR:PR→Prop
 |⟨_,_,_,_,_,_,_,l⟩=>l.length≤134217728∧tgRl l
def tgRl:List PR→Prop
 | []=>True
 |p::r=>tgR p∧tgRl r
end
theorem tgRl_mem: ∀{l:List PR},tgRl l→ ∀x,x∈l→tgR x
 | [],_,x,h=>by cases h
 |y::r,hw,x,h=>by
  rw [tgRl] at hw
  rcases List.mem_cons.1 h with rfl|h
  ·exact hw.1
  ·exact tgRl_mem hw.2 x h
theorem tgR_l{p:PR}(h:tgR p):p.l.length≤134217728∧ ∀x,x∈p.l→tgR x:=by
 obtain ⟨k,c,v,i,to,e,gs,l⟩:=p
 rw [tgR] at h
 exact ⟨h.1,tgRl_mem h.2⟩
theorem smRl_of: ∀{l:List PR},(∀x,x∈l→smR x)→smRl l
 | [],_=>by rw [smRl];trivial
 |y::r,h=>by rw [smRl];exact ⟨h y (.head _),smRl_of fun x hx=>h x (.tail _ hx)⟩
theorem skip_sm:smR skipR:=by
 rw [skipR,smR,smRl,smGl]
 exact ⟨⟨(by intro t h;cases h),(by intro t h;cases h),by decide,by decide,by decide,by decide⟩,trivial,trivial⟩
theorem normSq_sm(f:List PR→PR): ∀l:List PR,(∀x,x∈l→smR x)→(∀x,x∈l→smR (normR x))→(∀x r,(smR x)→(∀y,y∈r→smR y)→r.length+1≤l.length→smR (f (x::r)))→smR (normSq f l)
 | [],_,_,_=>by rw [normSq];exact skip_sm
 | [x],_,h,_=>by rw [normSq];exact h x (.head _)
 |x::y::s,h0,h,hf=>by
  rw [normSq]
  split
  ·exact normSq_sm f (y::s) (fun z hz=>h0 z (.tail _ hz)) (fun z hz=>h z (.tail _ hz)) fun z r hz hr hl=>hf z r hz hr (by rw [List.length_cons];omega)
  ·exact hf _ _ (h x (.head _)) (fun z hz=>h0 z (.tail _ hz)) (by simp)
theorem normR_sm: ∀(m:Nat) (p:PR),SizeOf.sizeOf p≤m→smR p→smR (normR p)
 |0,p,h,_=>by
  obtain ⟨k,c,v,i,to,e,gs,l⟩:=p
  simp only [PR.mk.sizeOf_spec] at h;omega
 |m+1,p,h,hs=>by
  have hS:=smR_all hs
  have hL: ∀x,x∈p.l→smR (normR x):=fun x hx=>normR_sm m x (by have:=pr_lt hx;omega) (hS.l x hx)
  obtain ⟨k,c,v,i,to,e,gs,l⟩:=p
  rw [smR] at hs
  obtain ⟨⟨h1,h2,h3,h4,h5,h6⟩,h7,h8⟩:=hs
  rw [normR]
  split
  ·split
   ·exact skip_sm
   ·rw [smR,normRl_map,List.length_map]
    exact ⟨⟨h1,h2,h3,h4,h5,h6⟩,h7,smRl_of fun x hx=>by
     rw [List.mem_map] at hx
     obtain ⟨y,hy,rfl⟩:=hx
     exact hL y hy⟩
  ·split
   ·refine normSq_sm _ l hS.l hL fun x r hx hr hl=>?_
    have:=List.length_cons (a:=x) («as» :=r)
    rw [smR,smRl]
    exact ⟨⟨h1,h2,h3,h4,h5,by rw [this];omega⟩,h7,hx,smRl_of hr⟩
   ·rw [smR];exact ⟨⟨h1,h2,h3,h4,h5,h6⟩,h7,h8⟩
theorem norm_sm{p:PR}(h:smR p):smR (normR p):=normR_sm _ p (Nat.le_refl _) h
theorem normR_par{p:PR}(h:bothB p=true):normR p=if ((p.l.map normR).all doneR)=true then skipR else ⟨p.kind,p.c,p.v,p.item,p.to,p.e,p.gs,p.l.map normR⟩:=by
 obtain ⟨k,c,v,i,to,e,gs,l⟩:=p
 have:k=10∨k=11:=by simpa [bothB] using h
 rw [normR,if_pos this,normRl_map]
theorem normR_seq{p:PR}(h:p.kind=9):normR p=normSq (fun l'=>⟨p.kind,p.c,p.v,p.item,p.to,p.e,p.gs,l'⟩) p.l:=by
 obtain ⟨k,c,v,i,to,e,gs,l⟩:=p
 have h:k=9:=h
 rw [normR,if_neg (by omega),if_pos h]
theorem normR_else{p:PR}(h:bothB p=false)(h':p.kind≠9):normR p=p:=by
 obtain ⟨k,c,v,i,to,e,gs,l⟩:=p
 have h':k≠9:=h'
 have: ¬(k=10∨k=11):=by simpa [bothB] using h
 rw [normR,if_neg this,if_neg h']
theorem all_take{l:List PR}{i:Nat}{x:PR}(h:l[i]? =some x):((l.take (i+1)).map normR).all doneR=(((l.take i).map normR).all doneR&&doneR (normR x)):=by
 rw [List.take_add_one,h];simp
theorem encRl_cons(x:PR)(r:List PR):encRl (x::r)=cellsR x::encRl r:=by rw [encRl,encR_eq]
theorem normSq_0(f:List PR→PR):normSq f []=skipR:=by rw [normSq]
theorem normSq_1(f:List PR→PR)(x:PR):normSq f [x]=normR x:=by rw [normSq]
theorem normSq_2(f:List PR→PR)(x y:PR)(s:List PR):normSq f (x::y::s)=if doneR (normR x)=true then normSq f (y::s) else f (normR x::y::s):=by rw [normSq]
end Go.Proofs.YtpcloejpklkieaaGreat
