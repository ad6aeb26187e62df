/-
  Texts Q16e Q16f P21a P21b P21c Q14i Q17c Q17d P20a P19a P19b P19c P19d P19e P19f P20b P20c Q16g Q16h Q16i Q16j Q16k. Conditions: as each theorem says.
-/
import Derived.Test.YtenkjmjejhhdjaaGreatWc3
import Derived.Test.YtenkjmjejhhdjaaGreatWc4
set_option linter.unusedVariables false
set_option linter.unusedSimpArgs false
set_option maxRecDepth 100000
set_option maxHeartbeats 4000000
open Go.Tp(T eX dT dF iF iT)
open Go.Proofs.Tryz
open List renaming length_map→aa0,length_append→aa1,mem_of_getElem?→aa2,mem_cons_self→aa5,getElem?_eq_getElem→aa7,getElem?_eq_some_iff→aa8,mem_singleton→ab0,getElem?_map→ab5,mem_cons→ab6,length_cons→ab7,mem_cons_of_mem→ab9,length_take→ac1,take_add_one→ac9,take_zero→ad1,cons_append→ad4,length_drop→ad7,mem_append→ad8,pairwise_cons→ad9,getElem?_zipWith→ae1,nil_sublist→ae0,foldl_cons→ae2,getElem?_cons_succ→af4,length_nil→af5,map_cons→af6,nil_append→ag2,filter_append→ag5,getElem_of_mem→ah7,length_zipWith→ai6,mem_filter→aj0,nodup_cons→aj1,filter_cons→aj2,all_cons→aj8,sizeOf_lt_of_mem→al7,nodup_nil→an4,zipWith_cons_cons→ar4,map_congr_left→as4,zip_cons_cons→as8,any_eq_true→at2
open Bool renaming and_eq_true→aa3,true_and→ac2,eq_iff_iff→ac8,false_and→af3,and_false→ak4,and_comm→ap5
open Nat renaming zero_le→aa4,le_refl→ab3,le_trans→ae9,mul_le_mul_right→af7,zero_add→ag9,le_add_right→aj4,mul_le_mul→al2,succ_mul→am0,mul_le_mul_left→as5,zero_lt_one→au2,min_self→av1
open Exists renaming elim→ab4
namespace Go.Proofs.YtenkjmjejhhdjaaGreat
open Go Go.Tp
abbrev RJ(ch:List Int):AV:= .sl 1 (ch.map cC) none
abbrev U3(l:List KV)(ch:List Int)(x:Nat->AV)(lf:Int):AV:= .ag [jA l,RJ ch,x 0,x 1,x 2,x 3,x 4,x 5,x 6,x 7,x 8,AI lf]
abbrev EK(l:List KV)(ch:List Int)(x:Nat->AV)(lf:Int):AV:= .pe 12 (U3 l ch x lf)
def mJ(l:List KV):Prop:= ∀y,y∈l->1<=y.kind/\y.kind<=3
theorem kZ{f g:FK}(h: ∀k,f k=g k):kF f=kF g:=by rw [show f=g from funext h]
theorem PB:kF (fun _=>false)=0:=rfl
theorem UQ(a b:Int):(a==b)=(b==a):=by rw [ac8];simp;exact eq_comm
theorem a0x:TV [1,2]=6:=by kernel_rfl
theorem tH(l:List KV)(ch:List Int)(x:Nat->AV)(lf:Int)(hl:l.length<=281474976710656)(hv:mJ l): ∀(N:Nat) (e:KE),ht e<=N->mM e=true->Pure prog aU 178 [EK l ch x lf,dK e] (jC (kF (aD l e)))
 |0,e,hn,_=>by rw [V4] at hn;omega |N+1,e,hn,hf=>by
  have hlen:((l.map mY).length:Int)=l.length:=by rw [aa0]
  rcases lR hf with ⟨n,rfl⟩|⟨v,h1,h2,rfl⟩|⟨v,a,h1,h2,h3,rfl⟩|⟨o,a,h1,h2,h3,rfl⟩|⟨o,a,b,h1,h2,h3,h4,rfl⟩|⟨t,a,h1,h2,h3,rfl⟩
  ·have hk:=SB n;simp only [dK,bK];refine P_ func178 160 fun _ _ _ _=>?_
   (refine b_ fun bx=>?_;refine y_ ?_)
   refine A.ao ?_;refine y_ ?_;refine c_ hk ?_;refine R_ ?_;refine Sb.eq (bO (kZ fun k=>?_));simp [pM,aD,cN,eI]
  ·simp only [dK,bK]
   by_cases hvl:v<l.length
   ·refine ab4 (pU h1 hvl) fun y hy=>?_;have hyk:=hv y (aa2 hy);have hw:=jN (y.dim==0) y.kind hyk;refine P_ func178 160 fun _ _ _ _=>?_
    (refine b_ fun bx=>?_;refine y_ ?_)
    refine A.ao ?_;refine y_ ?_;refine d_ 8 [0,1,2,3,4,5,6,7] [] ?_;refine z_ ?_;refine e_ 49 T (x':=AB true) (aA (by rw [hlen];simp [hvl])) ?_;refine d_ 22 [0,1,2,3,4,5,6,7,8,9,10,11,12,13,14,15,16,17,18,19,20,21] [] ?_;refine WA.x T h1 (aC hy) T T ?_;refine w_ ?_;refine WA.x T h1 (aC hy) T T ?_;refine w_ ?_;refine WA.nil (l:=[]) T ?_;refine c_ hw ?_;refine R_ ?_;refine Sb.eq (bO (kZ fun k=>?_));simp [EN,aD,cN,eI,hy,UQ k]
   ·refine P_ func178 160 fun _ _ _ _=>?_
    (refine b_ fun bx=>?_;refine y_ ?_)
    refine A.ao ?_;refine y_ ?_;refine d_ 8 [0,1,2,3,4,5,6,7] [] ?_;refine z_ ?_;refine e_ 49 T (x':=AB false) (aA (by rw [hlen];simp;omega)) ?_;refine R_ ?_;refine Sb.eq (bO ?_);rw [<-PB];exact kZ fun k=>by simp [aD,cN,eI,oQ (l:=l) (i:=v) (by omega)]
  ·rw [ht,fN,fN] at hn;have ea:=aK a;have iha:=tH l ch x lf hl hv N a (by omega) h3;rw [ea] at iha;simp only [dK,bK]
   by_cases hvl:v<l.length
   ·refine ab4 (pU h1 hvl) fun y hy=>?_;have hyk:=hv y (aa2 hy)
    by_cases hd:0<y.dim
    ·have hw:=jN (aD l a 1) y.kind hyk;have hh:=zV (kF (aD l a)) 1 (by decide);rw [JU] at hh;refine P_ func178 160 fun _ _ _ _=>?_
     (refine b_ fun bx=>?_;refine y_ ?_)
     refine A.ao ?_;refine y_ ?_;refine j_ T T ea ?_
     (refine b_ fun bx=>?_;refine y_ ?_)
     refine n_ iha ?_;refine t_ fun bl=>?_;refine A.aq T T T T T T T T T T T T T T (by show (0+1)*1<=_;decide) fun z=>?_;refine y_ ?_;refine A.aa 27 T (x':=AI 0) T ?_;refine i_ T T T ?_;refine A.aa 6 T (x':=jC (kF (aD l a))) (bO (gK _ _ _)) ?_;refine A.again ?_;refine y_ ?_;refine d_ 8 [0,1,2,3,4,5,6,7] [] ?_;refine z_ ?_;refine e_ 83 T (x':=AB true) (aA (by rw [hlen];simp [hvl])) ?_;refine d_ 26 [0,1,2,3,4,5,6,7,8,9,10,11,12,13,16,17,18,19,20,21,22,23,24,25,14,15] [(14,AB (aD l a 1))] ?_;refine WA.x T h1 (aC hy) T T ?_;refine w_ ?_;refine oH 96 T (x':=AB true) (aA (by simpa using hd)) ?_;refine WA.x T h1 (aC hy) T T ?_;refine w_ ?_;refine rL hh ?_;refine WA.nil (l:=[]) T ?_;refine c_ hw ?_;refine R_ ?_;refine Sb.eq (bO (kZ fun k=>?_));simp [EN,aD,cN,eI,hy,UQ k,hd];exact ap5 _ _
    ·have hw:=jN false y.kind hyk;refine P_ func178 160 fun _ _ _ _=>?_
     (refine b_ fun bx=>?_;refine y_ ?_)
     refine A.ao ?_;refine y_ ?_;refine j_ T T ea ?_
     (refine b_ fun bx=>?_;refine y_ ?_)
     refine n_ iha ?_;refine t_ fun bl=>?_;refine A.aq T T T T T T T T T T T T T T (by show (0+1)*1<=_;decide) fun z=>?_;refine y_ ?_;refine A.aa 27 T (x':=AI 0) T ?_;refine i_ T T T ?_;refine A.aa 6 T (x':=jC (kF (aD l a))) (bO (gK _ _ _)) ?_;refine A.again ?_;refine y_ ?_;refine d_ 8 [0,1,2,3,4,5,6,7] [] ?_;refine z_ ?_;refine e_ 83 T (x':=AB true) (aA (by rw [hlen];simp [hvl])) ?_;refine d_ 26 [0,1,2,3,4,5,6,7,8,9,10,11,12,13,16,17,18,19,20,21,22,23,24,25,14,15] [(14,AB false)] ?_;refine WA.x T h1 (aC hy) T T ?_;refine w_ ?_;refine oH 96 T (x':=AB false) (aA (by simpa using hd)) ?_;refine WA.x T h1 (aC hy) T T ?_;refine w_ ?_;refine WA.nil (l:=[]) T ?_;refine c_ hw ?_;refine R_ ?_;refine Sb.eq (bO (kZ fun k=>?_));simp [EN,aD,cN,eI,hy,hd]
   ·refine P_ func178 160 fun _ _ _ _=>?_
    (refine b_ fun bx=>?_;refine y_ ?_)
    refine A.ao ?_;refine y_ ?_;refine j_ T T ea ?_
    (refine b_ fun bx=>?_;refine y_ ?_)
    refine n_ iha ?_;refine t_ fun bl=>?_;refine A.aq T T T T T T T T T T T T T T (by show (0+1)*1<=_;decide) fun z=>?_;refine y_ ?_;refine A.aa 27 T (x':=AI 0) T ?_;refine i_ T T T ?_;refine A.aa 6 T (x':=jC (kF (aD l a))) (bO (gK _ _ _)) ?_;refine A.again ?_;refine y_ ?_;refine d_ 8 [0,1,2,3,4,5,6,7] [] ?_;refine z_ ?_;refine e_ 83 T (x':=AB false) (aA (by rw [hlen];simp;omega)) ?_;refine R_ ?_;refine Sb.eq (bO ?_);rw [<-PB];exact kZ fun k=>by simp [aD,cN,eI,oQ (l:=l) (i:=v) (by omega)]
  ·rw [ht,fN,fN] at hn;have ea:=aK a;have iha:=tH l ch x lf hl hv N a (by omega) h3;rw [ea] at iha;simp only [dK,bK]
   by_cases ho:o=26
   ·subst ho;have hw:=jN (aD l a 3) 3 (by decide);have hh:=zV (kF (aD l a)) 3 (by decide);rw [O3] at hh;refine P_ func178 160 fun _ _ _ _=>?_
    (refine b_ fun bx=>?_;refine y_ ?_)
    refine A.ao ?_;refine y_ ?_;refine j_ T T ea ?_
    (refine b_ fun bx=>?_;refine y_ ?_)
    refine n_ iha ?_;refine t_ fun bl=>?_;refine A.aq T T T T T T T T T T T T T T (by show (0+1)*1<=_;decide) fun z=>?_;refine y_ ?_;refine A.aa 27 T (x':=AI 0) T ?_;refine i_ T T T ?_;refine A.aa 6 T (x':=jC (kF (aD l a))) (bO (gK _ _ _)) ?_;refine A.again ?_;refine y_ ?_;refine n_ hh ?_;refine c_ hw ?_;refine R_ ?_;refine Sb.eq (bO (kZ fun k=>?_));simp [EN,aD,cN,eI];exact ap5 _ _
   ·have hw:=jN (aD l a 1) 1 (by decide);have hh:=zV (kF (aD l a)) 1 (by decide);rw [JU] at hh;refine P_ func178 160 fun _ _ _ _=>?_
    (refine b_ fun bx=>?_;refine y_ ?_)
    refine A.ao ?_;refine y_ ?_;refine j_ T T ea ?_
    (refine b_ fun bx=>?_;refine y_ ?_)
    refine n_ iha ?_;refine t_ fun bl=>?_;refine A.aq T T T T T T T T T T T T T T (by show (0+1)*1<=_;decide) fun z=>?_;refine y_ ?_;refine A.aa 27 T (x':=AI 0) T ?_;refine i_ T T T ?_;refine A.aa 6 T (x':=jC (kF (aD l a))) (bO (gK _ _ _)) ?_;refine A.again ?_;(repeat (first|first|refine A.s T ?_|refine A.r T T ?_|refine A.w T T ?_|refine A.p T ?_|refine A.b T fun bx=>?_|refine A.t T fun bl=>?_|refine A.cond T (fun h=>(by simp at h;omega)) (fun _=>?_)|first|refine A.step T ?_|refine A.v T T ?_));refine n_ hh ?_;refine c_ hw ?_;refine R_ ?_;refine Sb.eq (bO (kZ fun k=>?_));simp [EN,aD,cN,eI,ho];exact ap5 _ _
  ·rw [ht,fN,fN,fN] at hn;have ea:=aK a;have eb:=aK b;have iha:=tH l ch x lf hl hv N a (by omega) h3;have ihb:=tH l ch x lf hl hv N b (by omega) h4;rw [ea] at iha;rw [eb] at ihb;simp only [dK,bK]
   by_cases o14:o=14
   ·subst o14;have hw:=jN ((aD l a 1&&aD l b 1)||(aD l a 2&&aD l b 2)||(aD l a 3&&aD l b 3)) 3 (by decide);refine P_ func178 160 fun _ _ _ _=>?_
    (refine b_ fun bx=>?_;refine y_ ?_)
    refine A.ao ?_;refine y_ ?_;refine j_ T T ea ?_
    (refine b_ fun bx=>?_;refine y_ ?_)
    refine n_ iha ?_;refine t_ fun bl=>?_;refine A.aq T T T T T T T T T T T T T T (by show (0+1)*1<=_;decide) fun z=>?_;refine y_ ?_;refine A.aa 27 T (x':=AI 0) T ?_;refine i_ T T T ?_;refine A.aa 6 T (x':=jC (kF (aD l a))) (bO (gK _ _ _)) ?_;refine A.again ?_;refine y_ ?_;refine j_ T T eb ?_
    (refine b_ fun bx=>?_;refine y_ ?_)
    refine n_ ihb ?_;refine t_ fun bl=>?_;refine A.append T T T T T T T T T T T T T T (by show (1+1)*1<=_;decide) fun z'=>?_;refine y_ ?_;refine A.aa 27 T (x':=AI 1) T ?_;refine i_ T T T ?_;refine A.aa 6 T (x':=jC (kS (aD l a 1&&aD l b 1) (aD l a 2&&aD l b 2) (aD l a 3&&aD l b 3))) (bO (pK _ _ _ _ _ _)) ?_;refine A.again ?_;refine y_ ?_;refine A.aa 128 T (x':=AB ((aD l a 1&&aD l b 1)||(aD l a 2&&aD l b 2)||(aD l a 3&&aD l b 3))) (aA (WI _ _ _)) ?_;refine c_ hw ?_;refine R_ ?_;refine Sb.eq (bO (kZ fun k=>?_));simp only [EN,aD,cN,eI];by_cases hk:k=3<;>simp [hk]
   by_cases o15:o=15
   ·subst o15;have hw:=jN ((aD l a 1&&aD l b 1)||(aD l a 2&&aD l b 2)||(aD l a 3&&aD l b 3)) 3 (by decide);refine P_ func178 160 fun _ _ _ _=>?_
    (refine b_ fun bx=>?_;refine y_ ?_)
    refine A.ao ?_;refine y_ ?_;refine j_ T T ea ?_
    (refine b_ fun bx=>?_;refine y_ ?_)
    refine n_ iha ?_;refine t_ fun bl=>?_;refine A.aq T T T T T T T T T T T T T T (by show (0+1)*1<=_;decide) fun z=>?_;refine y_ ?_;refine A.aa 27 T (x':=AI 0) T ?_;refine i_ T T T ?_;refine A.aa 6 T (x':=jC (kF (aD l a))) (bO (gK _ _ _)) ?_;refine A.again ?_;refine y_ ?_;refine j_ T T eb ?_
    (refine b_ fun bx=>?_;refine y_ ?_)
    refine n_ ihb ?_;refine t_ fun bl=>?_;refine A.append T T T T T T T T T T T T T T (by show (1+1)*1<=_;decide) fun z'=>?_;refine y_ ?_;refine A.aa 27 T (x':=AI 1) T ?_;refine i_ T T T ?_;refine A.aa 6 T (x':=jC (kS (aD l a 1&&aD l b 1) (aD l a 2&&aD l b 2) (aD l a 3&&aD l b 3))) (bO (pK _ _ _ _ _ _)) ?_;refine A.again ?_;refine y_ ?_;refine A.aa 128 T (x':=AB ((aD l a 1&&aD l b 1)||(aD l a 2&&aD l b 2)||(aD l a 3&&aD l b 3))) (aA (WI _ _ _)) ?_;refine c_ hw ?_;refine R_ ?_;refine Sb.eq (bO (kZ fun k=>?_));simp only [EN,aD,cN,eI];by_cases hk:k=3<;>simp [hk]
   by_cases o16:o=16
   ·subst o16;have hw:=jN ((aD l a 1&&aD l b 1)||(aD l a 2&&aD l b 2)) 3 (by decide);have ho2:=KF [1,2] (by decide) (by decide);rw [a0x] at ho2;refine P_ func178 160 fun _ _ _ _=>?_
    (refine b_ fun bx=>?_;refine y_ ?_)
    refine A.ao ?_;refine y_ ?_;refine j_ T T ea ?_
    (refine b_ fun bx=>?_;refine y_ ?_)
    refine n_ iha ?_;refine t_ fun bl=>?_;refine A.aq T T T T T T T T T T T T T T (by show (0+1)*1<=_;decide) fun z=>?_;refine y_ ?_;refine A.aa 27 T (x':=AI 0) T ?_;refine i_ T T T ?_;refine A.aa 6 T (x':=jC (kF (aD l a))) (bO (gK _ _ _)) ?_;refine A.again ?_;refine y_ ?_;refine j_ T T eb ?_
    (refine b_ fun bx=>?_;refine y_ ?_)
    refine n_ ihb ?_;refine t_ fun bl=>?_;refine A.append T T T T T T T T T T T T T T (by show (1+1)*1<=_;decide) fun z'=>?_;refine y_ ?_;refine A.aa 27 T (x':=AI 1) T ?_;refine i_ T T T ?_;refine A.aa 6 T (x':=jC (kS (aD l a 1&&aD l b 1) (aD l a 2&&aD l b 2) (aD l a 3&&aD l b 3))) (bO (pK _ _ _ _ _ _)) ?_;refine A.again ?_;refine t_ fun bl=>?_;refine c_ ho2 ?_;refine A.aa 140 T (x':=AB ((aD l a 1&&aD l b 1)||(aD l a 2&&aD l b 2))) (aA (a0o _ _ _)) ?_;refine c_ hw ?_;refine R_ ?_;refine Sb.eq (bO (kZ fun k=>?_));simp only [EN,aD,cN,eI];by_cases hk:k=3<;>simp [hk]
   by_cases o17:o=17
   ·subst o17;have hw:=jN ((aD l a 1&&aD l b 1)||(aD l a 2&&aD l b 2)) 3 (by decide);have ho2:=KF [1,2] (by decide) (by decide);rw [a0x] at ho2;refine P_ func178 160 fun _ _ _ _=>?_
    (refine b_ fun bx=>?_;refine y_ ?_)
    refine A.ao ?_;refine y_ ?_;refine j_ T T ea ?_
    (refine b_ fun bx=>?_;refine y_ ?_)
    refine n_ iha ?_;refine t_ fun bl=>?_;refine A.aq T T T T T T T T T T T T T T (by show (0+1)*1<=_;decide) fun z=>?_;refine y_ ?_;refine A.aa 27 T (x':=AI 0) T ?_;refine i_ T T T ?_;refine A.aa 6 T (x':=jC (kF (aD l a))) (bO (gK _ _ _)) ?_;refine A.again ?_;refine y_ ?_;refine j_ T T eb ?_
    (refine b_ fun bx=>?_;refine y_ ?_)
    refine n_ ihb ?_;refine t_ fun bl=>?_;refine A.append T T T T T T T T T T T T T T (by show (1+1)*1<=_;decide) fun z'=>?_;refine y_ ?_;refine A.aa 27 T (x':=AI 1) T ?_;refine i_ T T T ?_;refine A.aa 6 T (x':=jC (kS (aD l a 1&&aD l b 1) (aD l a 2&&aD l b 2) (aD l a 3&&aD l b 3))) (bO (pK _ _ _ _ _ _)) ?_;refine A.again ?_;refine t_ fun bl=>?_;refine c_ ho2 ?_;refine A.aa 140 T (x':=AB ((aD l a 1&&aD l b 1)||(aD l a 2&&aD l b 2))) (aA (a0o _ _ _)) ?_;refine c_ hw ?_;refine R_ ?_;refine Sb.eq (bO (kZ fun k=>?_));simp only [EN,aD,cN,eI];by_cases hk:k=3<;>simp [hk]
   by_cases o18:o=18
   ·subst o18;have hw:=jN ((aD l a 1&&aD l b 1)||(aD l a 2&&aD l b 2)) 3 (by decide);have ho2:=KF [1,2] (by decide) (by decide);rw [a0x] at ho2;refine P_ func178 160 fun _ _ _ _=>?_
    (refine b_ fun bx=>?_;refine y_ ?_)
    refine A.ao ?_;refine y_ ?_;refine j_ T T ea ?_
    (refine b_ fun bx=>?_;refine y_ ?_)
    refine n_ iha ?_;refine t_ fun bl=>?_;refine A.aq T T T T T T T T T T T T T T (by show (0+1)*1<=_;decide) fun z=>?_;refine y_ ?_;refine A.aa 27 T (x':=AI 0) T ?_;refine i_ T T T ?_;refine A.aa 6 T (x':=jC (kF (aD l a))) (bO (gK _ _ _)) ?_;refine A.again ?_;refine y_ ?_;refine j_ T T eb ?_
    (refine b_ fun bx=>?_;refine y_ ?_)
    refine n_ ihb ?_;refine t_ fun bl=>?_;refine A.append T T T T T T T T T T T T T T (by show (1+1)*1<=_;decide) fun z'=>?_;refine y_ ?_;refine A.aa 27 T (x':=AI 1) T ?_;refine i_ T T T ?_;refine A.aa 6 T (x':=jC (kS (aD l a 1&&aD l b 1) (aD l a 2&&aD l b 2) (aD l a 3&&aD l b 3))) (bO (pK _ _ _ _ _ _)) ?_;refine A.again ?_;refine t_ fun bl=>?_;refine c_ ho2 ?_;refine A.aa 140 T (x':=AB ((aD l a 1&&aD l b 1)||(aD l a 2&&aD l b 2))) (aA (a0o _ _ _)) ?_;refine c_ hw ?_;refine R_ ?_;refine Sb.eq (bO (kZ fun k=>?_));simp only [EN,aD,cN,eI];by_cases hk:k=3<;>simp [hk]
   by_cases o19:o=19
   ·subst o19;have hw:=jN ((aD l a 1&&aD l b 1)||(aD l a 2&&aD l b 2)) 3 (by decide);have ho2:=KF [1,2] (by decide) (by decide);rw [a0x] at ho2;refine P_ func178 160 fun _ _ _ _=>?_
    (refine b_ fun bx=>?_;refine y_ ?_)
    refine A.ao ?_;refine y_ ?_;refine j_ T T ea ?_
    (refine b_ fun bx=>?_;refine y_ ?_)
    refine n_ iha ?_;refine t_ fun bl=>?_;refine A.aq T T T T T T T T T T T T T T (by show (0+1)*1<=_;decide) fun z=>?_;refine y_ ?_;refine A.aa 27 T (x':=AI 0) T ?_;refine i_ T T T ?_;refine A.aa 6 T (x':=jC (kF (aD l a))) (bO (gK _ _ _)) ?_;refine A.again ?_;refine y_ ?_;refine j_ T T eb ?_
    (refine b_ fun bx=>?_;refine y_ ?_)
    refine n_ ihb ?_;refine t_ fun bl=>?_;refine A.append T T T T T T T T T T T T T T (by show (1+1)*1<=_;decide) fun z'=>?_;refine y_ ?_;refine A.aa 27 T (x':=AI 1) T ?_;refine i_ T T T ?_;refine A.aa 6 T (x':=jC (kS (aD l a 1&&aD l b 1) (aD l a 2&&aD l b 2) (aD l a 3&&aD l b 3))) (bO (pK _ _ _ _ _ _)) ?_;refine A.again ?_;refine t_ fun bl=>?_;refine c_ ho2 ?_;refine A.aa 140 T (x':=AB ((aD l a 1&&aD l b 1)||(aD l a 2&&aD l b 2))) (aA (a0o _ _ _)) ?_;refine c_ hw ?_;refine R_ ?_;refine Sb.eq (bO (kZ fun k=>?_));simp only [EN,aD,cN,eI];by_cases hk:k=3<;>simp [hk]
   by_cases o20:o=20
   ·subst o20;have hw:=jN (aD l a 3&&aD l b 3) 3 (by decide);have hh:=zV (kS (aD l a 1&&aD l b 1) (aD l a 2&&aD l b 2) (aD l a 3&&aD l b 3)) 3 (by decide);rw [O3] at hh;refine P_ func178 160 fun _ _ _ _=>?_
    (refine b_ fun bx=>?_;refine y_ ?_)
    refine A.ao ?_;refine y_ ?_;refine j_ T T ea ?_
    (refine b_ fun bx=>?_;refine y_ ?_)
    refine n_ iha ?_;refine t_ fun bl=>?_;refine A.aq T T T T T T T T T T T T T T (by show (0+1)*1<=_;decide) fun z=>?_;refine y_ ?_;refine A.aa 27 T (x':=AI 0) T ?_;refine i_ T T T ?_;refine A.aa 6 T (x':=jC (kF (aD l a))) (bO (gK _ _ _)) ?_;refine A.again ?_;refine y_ ?_;refine j_ T T eb ?_
    (refine b_ fun bx=>?_;refine y_ ?_)
    refine n_ ihb ?_;refine t_ fun bl=>?_;refine A.append T T T T T T T T T T T T T T (by show (1+1)*1<=_;decide) fun z'=>?_;refine y_ ?_;refine A.aa 27 T (x':=AI 1) T ?_;refine i_ T T T ?_;refine A.aa 6 T (x':=jC (kS (aD l a 1&&aD l b 1) (aD l a 2&&aD l b 2) (aD l a 3&&aD l b 3))) (bO (pK _ _ _ _ _ _)) ?_;refine A.again ?_;refine y_ ?_;refine n_ hh ?_;refine c_ hw ?_;refine R_ ?_;refine Sb.eq (bO (kZ fun k=>?_));simp only [EN,aD,cN,eI];by_cases hk:k=3<;>simp [hk]
   by_cases o21:o=21
   ·subst o21;have hw:=jN (aD l a 3&&aD l b 3) 3 (by decide);have hh:=zV (kS (aD l a 1&&aD l b 1) (aD l a 2&&aD l b 2) (aD l a 3&&aD l b 3)) 3 (by decide);rw [O3] at hh;refine P_ func178 160 fun _ _ _ _=>?_
    (refine b_ fun bx=>?_;refine y_ ?_)
    refine A.ao ?_;refine y_ ?_;refine j_ T T ea ?_
    (refine b_ fun bx=>?_;refine y_ ?_)
    refine n_ iha ?_;refine t_ fun bl=>?_;refine A.aq T T T T T T T T T T T T T T (by show (0+1)*1<=_;decide) fun z=>?_;refine y_ ?_;refine A.aa 27 T (x':=AI 0) T ?_;refine i_ T T T ?_;refine A.aa 6 T (x':=jC (kF (aD l a))) (bO (gK _ _ _)) ?_;refine A.again ?_;refine y_ ?_;refine j_ T T eb ?_
    (refine b_ fun bx=>?_;refine y_ ?_)
    refine n_ ihb ?_;refine t_ fun bl=>?_;refine A.append T T T T T T T T T T T T T T (by show (1+1)*1<=_;decide) fun z'=>?_;refine y_ ?_;refine A.aa 27 T (x':=AI 1) T ?_;refine i_ T T T ?_;refine A.aa 6 T (x':=jC (kS (aD l a 1&&aD l b 1) (aD l a 2&&aD l b 2) (aD l a 3&&aD l b 3))) (bO (pK _ _ _ _ _ _)) ?_;refine A.again ?_;refine y_ ?_;refine n_ hh ?_;refine c_ hw ?_;refine R_ ?_;refine Sb.eq (bO (kZ fun k=>?_));simp only [EN,aD,cN,eI];by_cases hk:k=3<;>simp [hk]
   by_cases o22:o=22
   ·subst o22;have hw:=jN (aD l a 1&&aD l b 1) 3 (by decide);have hh:=zV (kS (aD l a 1&&aD l b 1) (aD l a 2&&aD l b 2) (aD l a 3&&aD l b 3)) 1 (by decide);rw [JU] at hh;refine P_ func178 160 fun _ _ _ _=>?_
    (refine b_ fun bx=>?_;refine y_ ?_)
    refine A.ao ?_;refine y_ ?_;refine j_ T T ea ?_
    (refine b_ fun bx=>?_;refine y_ ?_)
    refine n_ iha ?_;refine t_ fun bl=>?_;refine A.aq T T T T T T T T T T T T T T (by show (0+1)*1<=_;decide) fun z=>?_;refine y_ ?_;refine A.aa 27 T (x':=AI 0) T ?_;refine i_ T T T ?_;refine A.aa 6 T (x':=jC (kF (aD l a))) (bO (gK _ _ _)) ?_;refine A.again ?_;refine y_ ?_;refine j_ T T eb ?_
    (refine b_ fun bx=>?_;refine y_ ?_)
    refine n_ ihb ?_;refine t_ fun bl=>?_;refine A.append T T T T T T T T T T T T T T (by show (1+1)*1<=_;decide) fun z'=>?_;refine y_ ?_;refine A.aa 27 T (x':=AI 1) T ?_;refine i_ T T T ?_;refine A.aa 6 T (x':=jC (kS (aD l a 1&&aD l b 1) (aD l a 2&&aD l b 2) (aD l a 3&&aD l b 3))) (bO (pK _ _ _ _ _ _)) ?_;refine A.again ?_;refine y_ ?_;refine n_ hh ?_;refine c_ hw ?_;refine R_ ?_;refine Sb.eq (bO (kZ fun k=>?_));simp only [EN,aD,cN,eI];by_cases hk:k=3<;>simp [hk]
   have hw:=jN (aD l a 1&&aD l b 1) 1 (by decide);have hh:=zV (kS (aD l a 1&&aD l b 1) (aD l a 2&&aD l b 2) (aD l a 3&&aD l b 3)) 1 (by decide);rw [JU] at hh;have ho13:o<=13:=by omega
   refine P_ func178 160 fun _ _ _ _=>?_
   (refine b_ fun bx=>?_;refine y_ ?_)
   refine A.ao ?_;refine y_ ?_;refine j_ T T ea ?_
   (refine b_ fun bx=>?_;refine y_ ?_)
   refine n_ iha ?_;refine t_ fun bl=>?_;refine A.aq T T T T T T T T T T T T T T (by show (0+1)*1<=_;decide) fun z=>?_;refine y_ ?_;refine A.aa 27 T (x':=AI 0) T ?_;refine i_ T T T ?_;refine A.aa 6 T (x':=jC (kF (aD l a))) (bO (gK _ _ _)) ?_;refine A.again ?_;refine y_ ?_;refine j_ T T eb ?_
   (refine b_ fun bx=>?_;refine y_ ?_)
   refine n_ ihb ?_;refine t_ fun bl=>?_;refine A.append T T T T T T T T T T T T T T (by show (1+1)*1<=_;decide) fun z'=>?_;refine y_ ?_;refine A.aa 27 T (x':=AI 1) T ?_;refine i_ T T T ?_;refine A.aa 6 T (x':=jC (kS (aD l a 1&&aD l b 1) (aD l a 2&&aD l b 2) (aD l a 3&&aD l b 3))) (bO (pK _ _ _ _ _ _)) ?_;refine A.again ?_;(repeat (first|first|refine A.s T ?_|refine A.r T T ?_|refine A.w T T ?_|refine A.p T ?_|refine A.b T fun bx=>?_|refine A.t T fun bl=>?_|refine A.cond T (fun h=>(by simp at h;omega)) (fun _=>?_)|first|refine A.step T ?_|refine A.v T T ?_));refine n_ hh ?_;refine c_ hw ?_;refine R_ ?_;refine Sb.eq (bO (kZ fun k=>?_));simp only [EN,aD,cN,eI,iT ho13];simp;exact ap5 _ _
  ·rw [ht,fN,fN] at hn;have ea:=aK a;have iha:=tH l ch x lf hl hv N a (by omega) h3;rw [ea] at iha;simp only [dK,bK];have hw:=jN (aD l a 1||aD l a 2||aD l a 3) t ⟨h1,h2⟩;refine P_ func178 160 fun _ _ _ _=>?_
   (refine b_ fun bx=>?_;refine y_ ?_)
   refine A.ao ?_;refine y_ ?_;refine j_ T T ea ?_
   (refine b_ fun bx=>?_;refine y_ ?_)
   refine n_ iha ?_;refine t_ fun bl=>?_;refine A.aq T T T T T T T T T T T T T T (by show (0+1)*1<=_;decide) fun z=>?_;refine y_ ?_;refine A.aa 27 T (x':=AI 0) T ?_;refine i_ T T T ?_;refine A.aa 6 T (x':=jC (kF (aD l a))) (bO (gK _ _ _)) ?_;refine A.again ?_;refine y_ ?_;refine d_ 7 [0,1,2,3,4,5,6] [] ?_;refine gX T T T ?_;refine WA.aa 117 T (x':=AB (aD l a 1||aD l a 2||aD l a 3)) (aA (WI _ _ _)) ?_;refine WA.nil (l:=[]) T ?_;refine c_ hw ?_;refine R_ ?_;refine Sb.eq (bO (kZ fun k=>?_));simp [EN,aD,cN,eI,UQ k];exact ap5 _ _
theorem PF(l:List KV)(ch:List Int)(x:Nat->AV)(lf:Int)(hl:l.length<=281474976710656)(hv:mJ l)(e:KE)(hw:l5 e)(kind:Int)(hk:1<=kind/\kind<=3):Pure prog aU 154 [EK l ch x lf,dK e,cC kind] (AB (decide (valid e)&&aD l e kind)):=by
 have hva:=WM e hw;rw [aK] at hva⊢
 by_cases hve:valid e
 ·have hkd:=tH l ch x lf hl hv (ht e) e (ab3 _) hve.1;have hh:=zV (kF (aD l e)) kind (by omega);have he:hasB (kF (aD l e)) kind=aD l e kind:=by
   have:kind=1\/kind=2\/kind=3:=by omega
   rcases this with rfl|rfl|rfl
   ·exact JU _ _ _
   ·exact has_2 _ _ _
   ·exact O3 _ _ _
  rw [he] at hh;rw [aK] at hkd;rw [decide_eq_true hve] at hva⊢;refine P_ func154 16 fun _ _ _ _=>?_
  (refine b_ fun bx=>?_;refine y_ ?_)
  refine c_ hva ?_;refine c_ hkd ?_;exact oR hh
 ·rw [decide_eq_false hve] at hva⊢;refine P_ func154 16 fun _ _ _ _=>?_
  (refine b_ fun bx=>?_;refine y_ ?_)
  exact oR hva
structure PL where
 v:Int
 ix:List KE
mutual
inductive PR where
 |mk (kind c v item:Int) (to:List PL) (e:List KE) (gs:List GD) (l:List PR)
inductive GD where
 |mk (kind:Int) (cond:KE) (c item:Int) (to:PL) (time:KE) (body:List PR)
end
abbrev PR.kind:PR->Int|⟨k,_,_,_,_,_,_,_⟩=>k
abbrev PR.c:PR->Int|⟨_,c,_,_,_,_,_,_⟩=>c
abbrev PR.v:PR->Int|⟨_,_,v,_,_,_,_,_⟩=>v
abbrev PR.item:PR->Int|⟨_,_,_,i,_,_,_,_⟩=>i
abbrev PR.to:PR->List PL|⟨_,_,_,_,t,_,_,_⟩=>t
abbrev PR.e:PR->List KE|⟨_,_,_,_,_,e,_,_⟩=>e
abbrev PR.gs:PR->List GD|⟨_,_,_,_,_,_,g,_⟩=>g
abbrev PR.l:PR->List PR|⟨_,_,_,_,_,_,_,l⟩=>l
abbrev GD.kind:GD->Int|⟨k,_,_,_,_,_,_⟩=>k
abbrev GD.cond:GD->KE|⟨_,e,_,_,_,_,_⟩=>e
abbrev GD.c:GD->Int|⟨_,_,c,_,_,_,_⟩=>c
abbrev GD.item:GD->Int|⟨_,_,_,i,_,_,_⟩=>i
abbrev GD.to:GD->PL|⟨_,_,_,_,t,_,_⟩=>t
abbrev GD.time:GD->KE|⟨_,_,_,_,_,t,_⟩=>t
abbrev GD.body:GD->List PR|⟨_,_,_,_,_,_,b⟩=>b
abbrev gZ(p:PL):AV:= .ag [AI p.v, .sl 6 (bK p.ix) none]
abbrev DF(l:List PL):AV:= .sl 2 (l.map gZ) none
abbrev qS(l:List KE):AV:= .sl 6 (bK l) none
mutual
def pC:PR->AV
 |⟨k,c,v,i,to,e,gs,l⟩=> .ag [cC k,AI c,AI v,cC i,DF to,qS e, .sl 18 (cA gs) none, .sl 8 (aS l) none]
def aS:List PR->List AV
 | []=>[] |p::r=>pC p::aS r
def VF:GD->AV
 |⟨k,e,c,i,to,t,b⟩=> .ag [cC k,cC e.kind,cC e.oper,cC e.to,aN e.n,AI e.v,qS e.l,AI c,cC i,AI to.v,qS to.ix,cC t.kind,cC t.oper,cC t.to,aN t.n,AI t.v,qS t.l, .sl 8 (aS b) none]
def cA:List GD->List AV
 | []=>[] |g::r=>VF g::cA r
end
abbrev pN(l:List PR):AV:= .sl 8 (aS l) none
abbrev zS(l:List GD):AV:= .sl 18 (cA l) none
abbrev aE(p:PR):AV:= .ag [cC p.kind,AI p.c,AI p.v,cC p.item,DF p.to,qS p.e,zS p.gs,pN p.l]
abbrev fG(g:GD):AV:= .ag [cC g.kind,cC g.cond.kind,cC g.cond.oper,cC g.cond.to,aN g.cond.n,AI g.cond.v,qS g.cond.l,AI g.c,cC g.item,AI g.to.v,qS g.to.ix,cC g.time.kind,cC g.time.oper,cC g.time.to,aN g.time.n,AI g.time.v,qS g.time.l,pN g.body]
theorem bC(p:PR):pC p=aE p:=by obtain ⟨k,c,v,i,to,e,gs,l⟩:=p;rw [pC]
theorem cK(g:GD):VF g=fG g:=by obtain ⟨k,e,c,i,to,t,b⟩:=g;rw [VF]
theorem yA(l:List PR):aS l=l.map pC:=by
 induction l with
 |nil=>rw [aS];rfl |cons x r ih=>rw [aS,ih];rfl
theorem pY(l:List GD):cA l=l.map VF:=by
 induction l with
 |nil=>rw [cA];rfl |cons x r ih=>rw [cA,ih];rfl
theorem bP(l:List PR):(aS l).length=l.length:=by rw [yA,aa0]
theorem cL(l:List GD):(cA l).length=l.length:=by rw [pY,aa0]
theorem aV{l:List PR}{i:Nat}{x:PR}(h:l[i]? =some x):(aS l)[i]? =some (pC x):=by rw [yA];exact aC h
theorem bZ{l:List GD}{i:Nat}{x:GD}(h:l[i]? =some x):(cA l)[i]? =some (VF x):=by rw [pY];exact aC h
def tU(p:PL):Prop:=nJ p.ix
mutual
def xQ:PR->Prop
 |⟨k,c,v,i,to,e,gs,l⟩=>((∀t,t∈to->tU t)/\nJ e/\to.length<=281474976710656/\gs.length<=281474976710656/\l.length<=281474976710656)/\AY gs/\zE l
def zE:List PR->Prop
 | []=>True |p::r=>xQ p/\zE r
def ZG:GD->Prop
 |⟨k,e,c,i,to,t,b⟩=>(l5 e/\l5 t/\tU to)/\zE b
def AY:List GD->Prop
 | []=>True |g::r=>ZG g/\AY r
end
theorem EH: ∀{l:List PR},zE l-> ∀x,x∈l->xQ x
 | [],_,x,h=>by cases h |y::r,hw,x,h=>by
  rw [zE] at hw;rcases ab6.1 h with rfl|h
  ·exact hw.1
  ·exact EH hw.2 x h
theorem LQ: ∀{l:List GD},AY l-> ∀x,x∈l->ZG x
 | [],_,x,h=>by cases h |y::r,hw,x,h=>by
  rw [AY] at hw;rcases ab6.1 h with rfl|h
  ·exact hw.1
  ·exact LQ hw.2 x h
structure T6(p:PR):Prop where
 to: ∀t,t∈p.to->tU t
 e: ∀x,x∈p.e->l5 x
 tol:p.to.length<=281474976710656
 gl:p.gs.length<=281474976710656
 ll:p.l.length<=281474976710656
 g: ∀g,g∈p.gs->ZG g
 l: ∀x,x∈p.l->xQ x
theorem q9{p:PR}(h:xQ p):T6 p:=by obtain ⟨k,c,v,i,to,e,gs,l⟩:=p;rw [xQ] at h;exact ⟨h.1.1,sV h.1.2.1,h.1.2.2.1,h.1.2.2.2.1,h.1.2.2.2.2,LQ h.2.1,EH h.2.2⟩
structure WfG(g:GD):Prop where
 cond:l5 g.cond
 time:l5 g.time
 to:tU g.to
 body: ∀x,x∈g.body->xQ x
theorem tP{g:GD}(h:ZG g):WfG g:=by obtain ⟨k,e,c,i,to,t,b⟩:=g;rw [ZG] at h;exact ⟨h.1.1,h.1.2.1,h.1.2.2,EH h.2⟩
def kP(l:List KV)(e:KE)(k:Int):Bool:=decide (valid e)&&aD l e k
def pE(l:List KV)(es:List KE)(k:Int):Bool:=match es with
 |e::_=>kP l e k | []=>false
def eD(l:List KV)(p:PL)(k:Int):Bool:=if p.v<0\/(l.length:Int)<=p.v then false else match l[p.v.toNat]? with
 |some x=>x.kind==k&&(if x.dim=0 then p.ix.length==0 else p.ix.length==1&&pE l p.ix 1) |none=>false
def nR(n:Nat)(ch item no:Int):Bool:=decide (0<=ch)&&decide (ch<n)&&(ch !=no)&&lD item&&(decide (1<ch)||item==1)
def fO(l:List KV)(n:Nat)(ch item:Int)(to:PL):Bool:=nR n ch item 1&&eD l to item
def EJ(e:KE):Bool:=e.kind==0&&e.oper==0&&e.to==0&&e.n==0&&e.v==0&&decide (e.l.length<=0)
def nE(g:GD)(input timed:Bool):Bool:=(input||(g.c==0&&g.item==0&&g.to.v==0&&g.to.ix.length==0))&&(timed||EJ g.time)
def fH(l:List KV)(n:Nat)(g:GD)(choice:Bool):Bool:=(g.body.length==1)&&kP l g.cond 3&&((g.kind==1)==choice)&&
 (if g.kind=1\/g.kind=2 then nE g false false else if g.kind=3 then nE g true false&&fO l n g.c g.item g.to
  else if g.kind=4 then nE g false true&&kP l g.time 1 else false)
def wL(n:Nat)(a b:Int):Bool:=decide (a<=(n:Int))&&decide ((n:Int)<=b)
def aY(p:PR)(ch v:Bool)(t1 t2 e1 e2 g1 g2 l1 l2:Int):Bool:=(ch||(p.c==0&&p.item==0))&&(v||p.v==0)&&wL p.to.length t1 t2&&wL p.e.length e1 e2&&wL p.gs.length g1 g2&&wL p.l.length l1 l2
def dG(l:List KV)(t:PL)(e:KE):Bool:=if t.v<0\/(l.length:Int)<=t.v then false else match l[t.v.toNat]? with
 |some x=>eD l t x.kind&&kP l e x.kind |none=>false
def ZF(f:PL->Bool)(ts:List PL):Bool:=match ts with
 |t::_=>f t | []=>false
def bE(l:List KV)(n:Nat)(p:PR):Bool:=
 if p.kind=1\/p.kind=2 then aY p false false 0 0 0 0 0 0 0 0
 else if p.kind=3 then aY p false true 0 0 0 0 0 0 0 0&&decide (0<=p.v)&&decide (p.v<l.length)
 else if p.kind=4 then aY p false false 1 8 1 8 0 0 0 0&&(p.to.length==p.e.length)&&(p.to.zip p.e).all fun te=>dG l te.1 te.2
 else if p.kind=5 then aY p true false 1 1 0 0 0 0 0 0&&ZF (fO l n p.c p.item) p.to
 else if p.kind=6 then aY p true false 0 0 1 1 0 0 0 0&&nR n p.c p.item 0&&pE l p.e p.item
 else if p.kind=7 then aY p false false 1 1 0 0 0 0 0 0&&ZF (fun t=>eD l t 1) p.to
 else if p.kind=8 then aY p false false 0 0 1 1 0 0 0 0&&pE l p.e 1
 else if p.kind=9 then aY p false false 0 0 0 0 0 0 0 2048
 else if p.kind=10 then aY p false false 0 0 0 0 0 0 0 16
 else if p.kind=11 then aY p false false 0 0 0 0 0 0 2 2
 else if p.kind=12\/p.kind=14\/p.kind=15 then aY p false false 0 0 0 0 0 16 0 0&&p.gs.all fun g=>fH l n g (p.kind==12)
 else if p.kind=13 then aY p false false 0 0 1 1 0 0 1 1&&pE l p.e 3
 else false
end Go.Proofs.YtenkjmjejhhdjaaGreat
namespace Go.Proofs.YtenkjmjejhhdjaaGreat
structure Ord{α:Type}(lt:α->α->Bool):Prop where
 irrefl: ∀x,lt x x=false
 trans: ∀x y z,lt x y=true->lt y z=true->lt x z=true
 tri: ∀x y,lt x y=false->lt y x=false->x=y
abbrev tQ{α:Type}(lt:α->α->Bool)(l:List α):Prop:=l.Pairwise fun x y=>lt x y=true
section
variable{α:Type}{lt:α->α->Bool}
theorem G2(o:Ord lt): ∀{l m:List α},tQ lt l->tQ lt m->(∀z,z∈l↔z∈m)->l=m
 | [],[],_,_,_=>rfl | [],y::m,_,_,h=>by have:=(h y).2 (aa5 ..);cases this
 |x::l,[],_,_,h=>by have:=(h x).1 (aa5 ..);cases this |x::l,y::m,a,b,h=>by
  rw [tQ,ad9] at a b;have hxy:x=y:=by
   rcases ab6.1 ((h x).1 (aa5 ..)) with e|hx
   ·exact e
   ·rcases ab6.1 ((h y).2 (aa5 ..)) with e|hy
    ·exact e.symm
    ·have h1:=b.1 x hx;have h2:=a.1 y hy;have:=o.trans _ _ _ h1 h2;rw [o.irrefl] at this;cases this
  subst hxy;congr 1;refine G2 o a.2 b.2 fun z=>⟨fun hz=>?_,fun hz=>?_⟩
  ·rcases ab6.1 ((h z).1 (ab9 _ hz)) with e|hz'
   ·subst e;have:=a.1 z hz;rw [o.irrefl] at this;cases this
   ·exact hz'
  ·rcases ab6.1 ((h z).2 (ab9 _ hz)) with e|hz'
   ·subst e;have:=b.1 z hz;rw [o.irrefl] at this;cases this
   ·exact hz'
def kG [DecidableEq α](lt:α->α->Bool):List α->α->List α
 | [],x=>[x] |y::r,x=>if lt y x=true then y::kG lt r x else if y=x then y::r else x::y::r
theorem KA [DecidableEq α]{l:List α}{x z:α}:z∈kG lt l x↔z=x\/z∈l:=by
 induction l with
 |nil=>simp [kG] |cons y r ih=>
  simp only [kG];split
  ·simp [ih];constructor
   ·rintro (h|h|h)<;>simp [h]
   ·rintro (h|h|h)<;>simp [h]
  ·split
   ·rename_i _ e;subst e;simp
   ·simp
theorem UF [DecidableEq α](o:Ord lt){l:List α}{x:α}(a:tQ lt l):tQ lt (kG lt l x):=by
 induction l with
 |nil=>simp [kG,tQ] |cons y r ih=>
  rw [tQ,ad9] at a;simp only [kG];split
  ·rename_i h;rw [tQ,ad9];refine ⟨fun z hz=>?_,ih a.2⟩;rcases KA.1 hz with rfl|hz
   ·exact h
   ·exact a.1 z hz
  ·rename_i h1;split
   ·exact ad9.2 a
   ·rename_i h2;have hxy:lt x y=true:=by
     cases hb:lt x y with
     |true=>rfl |false=>exact (h2 (o.tri _ _ (by simpa using h1) hb)).elim
    rw [tQ,ad9];refine ⟨fun z hz=>?_,ad9.2 a⟩;rcases ab6.1 hz with rfl|hz
    ·exact hxy
    ·exact o.trans _ _ _ hxy (a.1 z hz)
def bW [DecidableEq α](lt:α->α->Bool)(l m:List α):List α:=m.foldl (kG lt) l
theorem lV [DecidableEq α]{z:α}{m:List α}: ∀{l:List α},z∈bW lt l m↔z∈l\/z∈m:=by
 induction m with
 |nil=>intro l;simp [bW] |cons x m ih=>
  intro l;have:=ih (l:=kG lt l x);simp only [bW,ae2] at this⊢;rw [this,KA];simp only [ab6];constructor
  ·rintro ((h|h)|h)<;>simp [h]
  ·rintro (h|h|h)<;>simp [h]
theorem nO [DecidableEq α](o:Ord lt): ∀{m l:List α},tQ lt l->tQ lt (bW lt l m)
 | [],l,a=>a |x::m,l,a=>nO o (m:=m) (l:=kG lt l x) (UF o a)
theorem pI [DecidableEq α]{l m n:List α}:bW lt l (m++n)=bW lt (bW lt l m) n:=List.foldl_append ..
def eO [DecidableEq α]:List α->List α
 | []=>[] | [x]=>[x]
 |x::y::r=>if x=y then eO (y::r) else x::eO (y::r)
theorem yM [DecidableEq α]{z:α}: ∀{l:List α},z∈eO l↔z∈l
 | []=>by simp [eO] | [x]=>by simp [eO]
 |x::y::r=>by
  have ih:=yM (z:=z) (l:=y::r);simp only [eO];split
  ·rename_i e;subst e;rw [ih];simp
  ·rw [ab6,ih];exact ab6.symm
theorem E5 [DecidableEq α](o:Ord lt): ∀{l:List α},l.Pairwise (fun x y=>lt y x=false)->tQ lt (eO l)
 | [],_=>by simp [eO,tQ] | [x],_=>by simp [eO,tQ]
 |x::y::r,a=>by
  rw [ad9] at a;have ih:=E5 o (l:=y::r) a.2;simp only [eO];split
  ·exact ih
  ·rename_i hne;rw [tQ,ad9];refine ⟨fun z hz=>?_,ih⟩;have hz:=yM.1 hz;have hle:=a.1 z hz;cases hb:lt x z with
   |true=>rfl |false=>
    have e:=o.tri _ _ hb hle;subst e;have h1:=(ad9.1 a.2).1;rcases ab6.1 hz with e|hz
    ·exact (hne e).elim
    ·exact (hne (o.tri _ _ (by
      cases hb2:lt x y with
      |false=>rfl |true=>have:=h1 x hz;rw [hb2] at this;cases this) (a.1 y (aa5 ..)))).elim
theorem VA [DecidableEq α](o:Ord lt){l m:List α}(p:l.Perm m)(s:l.Pairwise fun x y=>lt y x=false):eO l=bW lt [] m:=
 G2 o (E5 o s) (nO o (List.Pairwise.nil)) fun z=>by rw [yM,lV,p.mem_iff];simp
end
theorem wT:Ord (fun x y:Int=>decide (x<y)) where
 irrefl x:=by simp
 trans x y z h1 h2:=by simp at*;omega
 tri x y h1 h2:=by simp at*;omega
abbrev EL:=Int×Int
theorem YQ{α:Type}(l:List α)(m:Nat)(h0:0<m){x y:α}(hx:l[m-1]? =some x)(hy:l[m]? =some y):l.take (m+1)=l.take (m-1)++[x,y]/\l.take m=l.take (m-1)++[x]:=by
 have hxl:m-1<l.length:=(aa8.1 hx).1;have hyl:m<l.length:=(aa8.1 hy).1;have e1:l.take m=l.take (m-1)++[x]:=by have:=ac9 (l:=l) (i:=m-1);rw [show m-1+1=m by omega] at this;rw [this,hx];rfl
 refine ⟨?_,e1⟩;rw [ac9,hy,e1];simp
section
variable{α:Type} [DecidableEq α]
theorem uS(x y:α): ∀l:List α,eO (l++[x,y])=if x=y then eO (l++[x]) else eO (l++[x])++[y]
 | []=>by
   simp only [ag2,eO];split
   ·rename_i e;rw [e]
   ·rfl
 | [a]=>by
   have ih:=uS x y [];simp only [ag2,ad4] at ih⊢;rw [eO,ih]
   conv=>rhs;rw [eO]
   split<;>split<;>simp_all
 |a::b::l=>by
  have ih:=uS x y (b::l);simp only [ad4] at ih⊢;rw [eO,ih]
  conv=>rhs;rw [eO]
  split<;>split<;>simp_all
theorem s8(l:List α)(m:Nat)(h0:0<m){x y:α}(hx:l[m-1]? =some x)(hy:l[m]? =some y):
 eO (l.take (m+1))=if x=y then eO (l.take m) else eO (l.take m)++[y]:=by
 obtain ⟨e1,e2⟩:=YQ l m h0 hx hy;rw [e1,e2,uS]
theorem B4: ∀l:List α,l≠[]->eO l≠[]
 | [],h=>(h T).elim | [x],_=>by simp [eO]
 |x::y::r,_=>by
  have:=B4 (y::r) (by simp);simp only [eO];split
  ·exact this
  ·simp
structure rM(l r:List α)(m k:Nat):Prop where
 len:r.length=l.length
 kl:(eO (l.take m)).length=k
 lt:k<m
 out:r.take k=eO (l.take m)
 rest: ∀i,m-1<=i->r[i]? =l[i]?
theorem rM.start{l:List α}{m:Nat}{x:α}(h0:0<m)(hx:l[m-1]? =some x)(hy:l[m]? =some x)(hd:eO (l.take m)=l.take m):rM l l (m+1) m:=by have hyl:m<l.length:=(aa8.1 hy).1;have e:=s8 l m h0 hx hy;rw [iT T,hd] at e;exact ⟨rfl,by rw [e,ac1];omega,by omega,e.symm,fun _ _=>rfl⟩
theorem rM.same{l r:List α}{m k:Nat}(c:rM l r m k)(h0:0<m){x:α}(hx:l[m-1]? =some x)(hy:l[m]? =some x):rM l r (m+1) k:=by have e:=s8 l m h0 hx hy;rw [iT T] at e;exact ⟨c.len,by rw [e,c.kl],by have:=c.lt;omega,by rw [e,c.out],fun i hi=>c.rest i (by omega)⟩
theorem rM.put{l r:List α}{m k:Nat}(c:rM l r m k)(h0:0<m){x y:α}(hx:l[m-1]? =some x)(hy:l[m]? =some y)(hne:x≠y):rM l (r.set k y) (m+1) (k+1):=by
 have hyl:m<l.length:=(aa8.1 hy).1;have e:=s8 l m h0 hx hy;rw [iF hne] at e;have hk:=c.lt;have hl:=c.len;refine ⟨by simp [c.len],by rw [e,aa1,c.kl];rfl,by omega,?_,fun i hi=>?_⟩
 ·rw [e,ac9,List.take_set_of_le (ab3 _),c.out,List.getElem?_set_self (by omega)];rfl
 ·rw [List.getElem?_set_ne (by omega)];exact c.rest i (by omega)
theorem U9{l:List α}{m:Nat}{x y:α}(h0:0<m)(hx:l[m-1]? =some x)(hy:l[m]? =some y)(hne:x≠y)(hd:eO (l.take m)=l.take m):eO (l.take (m+1))=l.take (m+1):=by rw [s8 l m h0 hx hy,iF hne,hd,ac9,hy];rfl
end
end Go.Proofs.YtenkjmjejhhdjaaGreat
namespace Go.Proofs.YtenkjmjejhhdjaaGreat
open Go Go.Tp
def j8(x y:Int):Bool:=decide (x<y)
def bS(l:List Int):List Int:=bW j8 [] l
def SI(x:Option Int):Prop:= ∀r,x=some r->i32 r
theorem eC{p:Prop} [Decidable p]{x y:Option Int}(hx:SI x)(hy:SI y):SI (if p then x else y):=by split<;>assumption
theorem ok_none:SI none:=fun r h=>by cases h
theorem iQ{x:Int}(h:i32 x):SI (some x):=fun r e=>by injection e with e;subst e;exact h
theorem BC(n:Int):SI (some (kD n)):=iQ (pO n)
theorem HV(n:Int):SI (rX n):=by
 unfold rX;split
 ·rename_i h;simp [pF] at h;exact iQ (by unfold i32;omega)
 ·exact ok_none
theorem JW:i32 0:=by unfold i32;decide
theorem jS(b:Bool):SI (some (fA b)):=iQ (by cases b<;>simp [fA,i32])
theorem tmod_in{a b:Int}(ha:i32 a)(hb:i32 b)(h: ¬b=0):i32 (a.tmod b):=by have h1:=Int.natAbs_tmod a b;have h2:a.natAbs % b.natAbs<b.natAbs:=Nat.mod_lt _ (by omega);unfold i32 at*;omega
theorem E4{o a b:Int}(ha:i32 a)(hb:i32 b):SI (gN o a b):=by
 unfold gN
 refine eC (HV _)<|eC (HV _)<|eC (HV _)<|eC ?_<|eC ?_<|eC (BC _)<|eC (BC _)<|eC (BC _)<|
  eC (iQ (pO _))<|eC (iQ (pO _))<|eC (iQ (pO _))<|eC (iQ ?_)<|eC (iQ ?_)<|eC (jS _)<|eC (jS _)<|eC (jS _)<|
  eC (jS _)<|eC (jS _)<|eC (jS _)<|eC (eC (jS _) ok_none)<|eC (eC (jS _) ok_none)<|eC (jS _)<|eC (HV _)<|eC (BC _)<|eC (iQ (pO _))<|eC (eC (jS _) ok_none) ok_none
 ·split
  ·exact ok_none
  ·rename_i h;exact iQ (IF ha (by simpa using h))
 ·split
  ·exact ok_none
  ·rename_i h;exact iQ (tmod_in ha hb h)
 ·unfold NY;split
  ·exact JW
  ·exact pO _
 ·unfold TD;split
  ·exact JW
  ·exact pO _
def TX(s:List (List Int)):Prop:= ∀r,r∈s-> ∀x,x∈r->i32 x
theorem UJ{s:List (List Int)}(hs:TX s)(v i:Int):SI (mT s v i):=by
 unfold mT;split
 ·exact ok_none
 ·intro r h;cases h1:s[v.toNat]? with
  |none=>rw [h1] at h;cases h |some l=>rw [h1] at h;exact hs l (aa2 h1) r (aa2 h)
theorem VC{t v:Int}(h:i32 v):SI (uC t v):=by
 unfold uC;split
 ·exact iQ h
 ·exact ok_none
def JZ(o a:Int):Bool:=(o==20&&a==0)||(o==21&&a==1)
def fJ(s:List (List Int))(k o t n v:Int)(vs:List (Option Int)):Option Int:=
 if k=1 then some n else if k=2 then mT s v 0 else match vs with
 |some a::r=>if k=3 then mT s v a else if k=4 then gN o a 0 else if k=6 then uC t a else if JZ o a then some a else match r with
  |some b::_=>gN o a b |_=>none
 |_=>none
theorem tD(o a:Int):(bif bif o==20 then a==0 else false then true else bif o==21 then a==1 else false)=JZ o a:=by unfold JZ;cases (o==20)<;>cases (a==0)<;>cases (o==21)<;>rfl
mutual
def cS(s:List (List Int)):KE->Option Int
 |⟨k,o,t,n,v,l⟩=>fJ s k o t n v (fD s l)
def fD(s:List (List Int)):List KE->List (Option Int)
 | []=>[] |e::r=>cS s e::fD s r
end
theorem jJ{s:List (List Int)}(hs:TX s): ∀(N:Nat) (e:KE),sz e<=N->l5 e->mM e=true->SI (cS s e)
 |0,e,hn,_,_=>by have:=iL e;omega |N+1,e,hn,hw,hf=>by
  have hb0:=JW;rcases lR hf with ⟨n,rfl⟩|⟨v,h1,h2,rfl⟩|⟨v,a,h1,h2,h3,rfl⟩|⟨o,a,h1,h2,h3,rfl⟩|⟨o,a,b,h1,h2,h3,h4,rfl⟩|⟨t,a,h1,h2,h3,rfl⟩
  ·simp [cS,fD,fJ];simp only [l5] at hw;exact iQ hw.1.2.2.2.1
  ·simp [cS,fD,fJ];exact UJ hs _ _
  ·cases ha:cS s a<;>simp [cS,fD,fJ,ha]
   ·exact ok_none
   ·exact UJ hs _ _
  ·simp only [sz,oJ] at hn;have ih:=jJ hs N a (by omega) (xM hw) h3;cases ha:cS s a<;>simp [cS,fD,fJ,ha]
   ·exact ok_none
   ·exact E4 (ih _ ha) hb0
  ·simp only [sz,oJ] at hn;have:=iL a;have:=iL b;have ih:=jJ hs N a (by omega) (xO hw).1 h3;have ih2:=jJ hs N b (by omega) (xO hw).2 h4;cases ha:cS s a<;>simp [cS,fD,fJ,ha]
   ·exact ok_none
   ·split
    ·exact iQ (ih _ ha)
    ·cases hb:cS s b
     ·exact ok_none
     ·exact E4 (ih _ ha) (ih2 _ hb)
  ·simp only [sz,oJ] at hn;have ih:=jJ hs N a (by omega) (xM hw) h3;cases ha:cS s a<;>simp [cS,fD,fJ,ha]
   ·exact ok_none
   ·exact VC (ih _ ha)
def bH(s:List (List Int))(e:KE):Option Int:=if valid e then cS s e else none
theorem zA{s:List (List Int)}(hs:TX s){e:KE}(hw:l5 e):SI (bH s e):=by
 unfold bH;split
 ·rename_i h;exact jJ hs _ e (ab3 _) hw h.1
 ·exact ok_none
theorem tO(s:List (List Int))(hs:TX s): ∀(N:Nat) (e:KE),sz e<=N->l5 e->mM e=true->Pure prog aU 85 [aF s,dK e] (jT (cS s e))
 |0,e,hn,_,_=>by have:=iL e;omega |N+1,e,hn,hw,hf=>by
  have hb0:=JW;rcases lR hf with ⟨n,rfl⟩|⟨v,h1,h2,rfl⟩|⟨v,a,h1,h2,h3,rfl⟩|⟨o,a,h1,h2,h3,rfl⟩|⟨o,a,b,h1,h2,h3,h4,rfl⟩|⟨t,a,h1,h2,h3,rfl⟩
  ·simp only [dK,bK];refine P_ func85 105 fun _ _ _ _=>?_
   (refine b_ fun bx=>?_;refine y_ ?_);refine q_ ?_;exact .refl
  ·simp only [dK,bK];refine P_ func85 105 fun _ _ _ _=>?_
   (refine b_ fun bx=>?_;refine y_ ?_);refine c_ (MB _ _ _) ?_;refine q_ ?_;exact .refl
  ·simp only [sz,oJ] at hn;have ih:=tO s hs N a (by omega) (xM hw) h3;have hi:=jJ hs N a (by omega) (xM hw) h3;rw [aK] at ih;simp only [dK,bK];cases ha:cS s a with
   |none=>
    rw [ha] at ih;have e:cS s ⟨3,0,0,0,v,[a]⟩=none:=by simp [cS,fD,fJ,ha]
    rw [e];refine P_ func85 105 fun _ _ _ _=>?_
    (refine b_ fun bx=>?_;refine y_ ?_)
    refine j_ T T T ?_;refine e_ 27 T (c8 a) ?_;refine c_ (ih) ?_;refine q_ ?_;exact .refl
   |some x=>
    rw [ha] at ih;have hx:=hi x ha;have e:cS s ⟨3,0,0,0,v,[a]⟩=mT s v x:=by simp [cS,fD,fJ,ha]
    rw [e];refine P_ func85 105 fun _ _ _ _=>?_
    (refine b_ fun bx=>?_;refine y_ ?_)
    refine j_ T T T ?_;refine e_ 27 T (c8 a) ?_;refine c_ (ih) ?_;refine A.aa 42 T (x':=AI x) (aL (dR hx)) ?_;refine c_ (MB _ _ _) ?_;refine q_ ?_;exact .refl
  ·simp only [sz,oJ] at hn;have ih:=tO s hs N a (by omega) (xM hw) h3;have hi:=jJ hs N a (by omega) (xM hw) h3;rw [aK] at ih;simp only [dK,bK];cases ha:cS s a with
   |none=>
    rw [ha] at ih;have e:cS s ⟨4,o,0,0,0,[a]⟩=none:=by simp [cS,fD,fJ,ha]
    rw [e];refine P_ func85 105 fun _ _ _ _=>?_
    (refine b_ fun bx=>?_;refine y_ ?_)
    refine j_ T T T ?_;refine e_ 27 T (c8 a) ?_;refine c_ (ih) ?_;refine q_ ?_;exact .refl
   |some x=>
    rw [ha] at ih;have hx:=hi x ha;have e:cS s ⟨4,o,0,0,0,[a]⟩=gN o x 0:=by simp [cS,fD,fJ,ha]
    rw [e];refine P_ func85 105 fun _ _ _ _=>?_
    (refine b_ fun bx=>?_;refine y_ ?_)
    refine j_ T T T ?_;refine e_ 27 T (c8 a) ?_;refine c_ (ih) ?_;refine c_ (OI o x 0 hx hb0) ?_;refine c_ (N2 _ _) ?_;refine q_ ?_;cases gN o x 0<;>exact .refl
  ·simp only [sz,oJ] at hn;have:=iL a;have:=iL b;have ih:=tO s hs N a (by omega) (xO hw).1 h3;have ih2:=tO s hs N b (by omega) (xO hw).2 h4;have hi:=jJ hs N a (by omega) (xO hw).1 h3;have hi2:=jJ hs N b (by omega) (xO hw).2 h4;rw [aK] at ih ih2;simp only [dK,bK];cases ha:cS s a with
   |none=>
    rw [ha] at ih;have e:cS s ⟨5,o,0,0,0,[a,b]⟩=none:=by simp [cS,fD,fJ,ha]
    rw [e];refine P_ func85 105 fun _ _ _ _=>?_
    (refine b_ fun bx=>?_;refine y_ ?_)
    refine j_ T T T ?_;refine e_ 27 T (c8 a) ?_;refine c_ (ih) ?_;refine q_ ?_;exact .refl
   |some x=>
    rw [ha] at ih;have hx:=hi x ha
    by_cases hsh:JZ o x=true
    ·have e:cS s ⟨5,o,0,0,0,[a,b]⟩=some x:=by simp [cS,fD,fJ,ha,hsh]
     rw [e];refine P_ func85 105 fun _ _ _ _=>?_
     (refine b_ fun bx=>?_;refine y_ ?_)
     refine j_ T T T ?_;refine e_ 27 T (c8 a) ?_;refine n_ (ih) ?_;refine g_ ?_;refine e_ 82 T (x':=AB true) (aA ((tD o x).trans hsh)) ?_;refine q_ ?_;exact .refl
    ·have hsf:JZ o x=false:=by simpa using hsh
     cases hb:cS s b with
     |none=>
      rw [hb] at ih2;have e:cS s ⟨5,o,0,0,0,[a,b]⟩=none:=by simp [cS,fD,fJ,ha,hb,hsf]
      rw [e];refine P_ func85 105 fun _ _ _ _=>?_
      (refine b_ fun bx=>?_;refine y_ ?_)
      refine j_ T T T ?_;refine e_ 27 T (c8 a) ?_;refine n_ (ih) ?_;refine g_ ?_;refine e_ 82 T (x':=AB false) (aA ((tD o x).trans hsf)) ?_;refine j_ T T T ?_;refine e_ 88 T (c8 b) ?_;refine c_ (ih2) ?_;refine q_ ?_;exact .refl
     |some y=>
      rw [hb] at ih2;have hy:=hi2 y hb;have e:cS s ⟨5,o,0,0,0,[a,b]⟩=gN o x y:=by simp [cS,fD,fJ,ha,hb,hsf]
      rw [e];refine P_ func85 105 fun _ _ _ _=>?_
      (refine b_ fun bx=>?_;refine y_ ?_)
      refine j_ T T T ?_;refine e_ 27 T (c8 a) ?_;refine n_ (ih) ?_;refine g_ ?_;refine e_ 82 T (x':=AB false) (aA ((tD o x).trans hsf)) ?_;refine j_ T T T ?_;refine e_ 88 T (c8 b) ?_;refine c_ (ih2) ?_;refine c_ (OI o x y hx hy) ?_;refine c_ (N2 _ _) ?_;refine q_ ?_;cases gN o x y<;>exact .refl
  ·simp only [sz,oJ] at hn;have ih:=tO s hs N a (by omega) (xM hw) h3;rw [aK] at ih;simp only [dK,bK];cases ha:cS s a with
   |none=>
    rw [ha] at ih;have e:cS s ⟨6,0,t,0,0,[a]⟩=none:=by simp [cS,fD,fJ,ha]
    rw [e];refine P_ func85 105 fun _ _ _ _=>?_
    (refine b_ fun bx=>?_;refine y_ ?_)
    refine j_ T T T ?_;refine e_ 27 T (c8 a) ?_;refine c_ (ih) ?_;refine q_ ?_;exact .refl
   |some x=>
    rw [ha] at ih;have e:cS s ⟨6,0,t,0,0,[a]⟩=uC t x:=by simp [cS,fD,fJ,ha]
    rw [e,FC];refine P_ func85 105 fun _ _ _ _=>?_
    (refine b_ fun bx=>?_;refine y_ ?_)
    refine j_ T T T ?_;refine e_ 27 T (c8 a) ?_;refine c_ (ih) ?_;refine n_ (fits_p _ _) ?_;refine c_ (N2 _ _) ?_;refine q_ ?_;exact .refl
theorem qH(s:List (List Int))(hs:TX s): ∀(N:Nat) (e:KE),sz e<=N->l5 e->mM e=true->Pure prog aU 99 [aF s,dK e] (jT (cS s e))
 |0,e,hn,_,_=>by have:=iL e;omega |N+1,e,hn,hw,hf=>by
  have hb0:=JW;rcases lR hf with ⟨n,rfl⟩|⟨v,h1,h2,rfl⟩|⟨v,a,h1,h2,h3,rfl⟩|⟨o,a,h1,h2,h3,rfl⟩|⟨o,a,b,h1,h2,h3,h4,rfl⟩|⟨t,a,h1,h2,h3,rfl⟩
  ·simp only [dK,bK];refine P_ func99 97 fun _ _ _ _=>?_
   (refine b_ fun bx=>?_;refine y_ ?_);refine q_ ?_;exact .refl
  ·simp only [dK,bK];refine P_ func99 97 fun _ _ _ _=>?_
   (refine b_ fun bx=>?_;refine y_ ?_);refine c_ (DI _ _ _) ?_;refine q_ ?_;exact .refl
  ·simp only [sz,oJ] at hn;have ih:=qH s hs N a (by omega) (xM hw) h3;have hi:=jJ hs N a (by omega) (xM hw) h3;rw [aK] at ih;simp only [dK,bK];cases ha:cS s a with
   |none=>
    rw [ha] at ih;have e:cS s ⟨3,0,0,0,v,[a]⟩=none:=by simp [cS,fD,fJ,ha]
    rw [e];refine P_ func99 97 fun _ _ _ _=>?_
    (refine b_ fun bx=>?_;refine y_ ?_)
    refine j_ T T T ?_;refine e_ 27 T (c8 a) ?_;refine c_ (ih) ?_;refine q_ ?_;exact .refl
   |some x=>
    rw [ha] at ih;have hx:=hi x ha;have e:cS s ⟨3,0,0,0,v,[a]⟩=mT s v x:=by simp [cS,fD,fJ,ha]
    rw [e];refine P_ func99 97 fun _ _ _ _=>?_
    (refine b_ fun bx=>?_;refine y_ ?_)
    refine j_ T T T ?_;refine e_ 27 T (c8 a) ?_;refine c_ (ih) ?_;refine A.aa 42 T (x':=AI x) (aL (dR hx)) ?_;refine c_ (DI _ _ _) ?_;refine q_ ?_;exact .refl
  ·simp only [sz,oJ] at hn;have ih:=qH s hs N a (by omega) (xM hw) h3;have hi:=jJ hs N a (by omega) (xM hw) h3;rw [aK] at ih;simp only [dK,bK];cases ha:cS s a with
   |none=>
    rw [ha] at ih;have e:cS s ⟨4,o,0,0,0,[a]⟩=none:=by simp [cS,fD,fJ,ha]
    rw [e];refine P_ func99 97 fun _ _ _ _=>?_
    (refine b_ fun bx=>?_;refine y_ ?_)
    refine j_ T T T ?_;refine e_ 27 T (c8 a) ?_;refine c_ (ih) ?_;refine q_ ?_;exact .refl
   |some x=>
    rw [ha] at ih;have hx:=hi x ha;have e:cS s ⟨4,o,0,0,0,[a]⟩=gN o x 0:=by simp [cS,fD,fJ,ha]
    rw [e];refine P_ func99 97 fun _ _ _ _=>?_
    (refine b_ fun bx=>?_;refine y_ ?_)
    refine j_ T T T ?_;refine e_ 27 T (c8 a) ?_;refine c_ (ih) ?_;refine c_ (KX o x 0 hx hb0) ?_;refine q_ ?_;exact .refl
  ·simp only [sz,oJ] at hn;have:=iL a;have:=iL b;have ih:=qH s hs N a (by omega) (xO hw).1 h3;have ih2:=qH s hs N b (by omega) (xO hw).2 h4;have hi:=jJ hs N a (by omega) (xO hw).1 h3;have hi2:=jJ hs N b (by omega) (xO hw).2 h4;rw [aK] at ih ih2;simp only [dK,bK];cases ha:cS s a with
   |none=>
    rw [ha] at ih;have e:cS s ⟨5,o,0,0,0,[a,b]⟩=none:=by simp [cS,fD,fJ,ha]
    rw [e];refine P_ func99 97 fun _ _ _ _=>?_
    (refine b_ fun bx=>?_;refine y_ ?_)
    refine j_ T T T ?_;refine e_ 27 T (c8 a) ?_;refine c_ (ih) ?_;refine q_ ?_;exact .refl
   |some x=>
    rw [ha] at ih;have hx:=hi x ha
    by_cases hsh:JZ o x=true
    ·have e:cS s ⟨5,o,0,0,0,[a,b]⟩=some x:=by simp [cS,fD,fJ,ha,hsh]
     rw [e];refine P_ func99 97 fun _ _ _ _=>?_
     (refine b_ fun bx=>?_;refine y_ ?_)
     refine j_ T T T ?_;refine e_ 27 T (c8 a) ?_;refine n_ (ih) ?_;refine g_ ?_;refine e_ 77 T (x':=AB true) (aA ((tD o x).trans hsh)) ?_;refine q_ ?_;exact .refl
    ·have hsf:JZ o x=false:=by simpa using hsh
     cases hb:cS s b with
     |none=>
      rw [hb] at ih2;have e:cS s ⟨5,o,0,0,0,[a,b]⟩=none:=by simp [cS,fD,fJ,ha,hb,hsf]
      rw [e];refine P_ func99 97 fun _ _ _ _=>?_
      (refine b_ fun bx=>?_;refine y_ ?_)
      refine j_ T T T ?_;refine e_ 27 T (c8 a) ?_;refine n_ (ih) ?_;refine g_ ?_;refine e_ 77 T (x':=AB false) (aA ((tD o x).trans hsf)) ?_;refine j_ T T T ?_;refine e_ 83 T (c8 b) ?_;refine c_ (ih2) ?_;refine q_ ?_;exact .refl
     |some y=>
      rw [hb] at ih2;have hy:=hi2 y hb;have e:cS s ⟨5,o,0,0,0,[a,b]⟩=gN o x y:=by simp [cS,fD,fJ,ha,hb,hsf]
      rw [e];refine P_ func99 97 fun _ _ _ _=>?_
      (refine b_ fun bx=>?_;refine y_ ?_)
      refine j_ T T T ?_;refine e_ 27 T (c8 a) ?_;refine n_ (ih) ?_;refine g_ ?_;refine e_ 77 T (x':=AB false) (aA ((tD o x).trans hsf)) ?_;refine j_ T T T ?_;refine e_ 83 T (c8 b) ?_;refine c_ (ih2) ?_;refine c_ (KX o x y hx hy) ?_;refine q_ ?_;exact .refl
  ·simp only [sz,oJ] at hn;have ih:=qH s hs N a (by omega) (xM hw) h3;rw [aK] at ih;simp only [dK,bK];cases ha:cS s a with
   |none=>
    rw [ha] at ih;have e:cS s ⟨6,0,t,0,0,[a]⟩=none:=by simp [cS,fD,fJ,ha]
    rw [e];refine P_ func99 97 fun _ _ _ _=>?_
    (refine b_ fun bx=>?_;refine y_ ?_)
    refine j_ T T T ?_;refine e_ 27 T (c8 a) ?_;refine c_ (ih) ?_;refine q_ ?_;exact .refl
   |some x=>
    rw [ha] at ih;have e:cS s ⟨6,0,t,0,0,[a]⟩=uC t x:=by simp [cS,fD,fJ,ha]
    rw [e];refine P_ func99 97 fun _ _ _ _=>?_
    (refine b_ fun bx=>?_;refine y_ ?_)
    refine j_ T T T ?_;refine e_ 27 T (c8 a) ?_;refine c_ (ih) ?_;refine c_ (conv_p _ _) ?_;refine q_ ?_;exact .refl
theorem sX(s:List (List Int))(hs:TX s)(e:KE)(hw:l5 e):Pure prog aU 43 [aF s,dK e] (jT (bH s e)):=by
 have hp:=VK e hw;have hv:=fun h=>tO s hs _ e (ab3 _) hw h;rw [aK] at hp⊢;simp only [aK] at hv
 by_cases h:valid e
 ·have hv:=hv h.1;rw [bH,iT h];rw [decide_eq_true h] at hp;refine P_ func43 14 fun _ _ _ _=>?_
  (refine b_ fun bx=>?_;refine y_ ?_);refine c_ (hp) ?_;refine c_ (hv) ?_;refine q_ ?_;exact .refl
 ·rw [bH,iF h];rw [decide_eq_false h] at hp;refine P_ func43 14 fun _ _ _ _=>?_
  (refine b_ fun bx=>?_;refine y_ ?_);refine c_ (hp) ?_;refine q_ ?_;exact .refl
theorem qF(s:List (List Int))(hs:TX s)(e:KE)(hw:l5 e):Pure prog aU 55 [aF s,dK e] (jT (bH s e)):=by
 have hp:=K8 e hw;have hv:=fun h=>qH s hs _ e (ab3 _) hw h;rw [aK] at hp⊢;simp only [aK] at hv
 by_cases h:valid e
 ·have hv:=hv h.1;rw [bH,iT h];rw [decide_eq_true h] at hp;refine P_ func55 14 fun _ _ _ _=>?_
  (refine b_ fun bx=>?_;refine y_ ?_);refine c_ (hp) ?_;refine c_ (hv) ?_;refine q_ ?_;exact .refl
 ·rw [bH,iF h];rw [decide_eq_false h] at hp;refine P_ func55 14 fun _ _ _ _=>?_
  (refine b_ fun bx=>?_;refine y_ ?_);refine c_ (hp) ?_;refine q_ ?_;exact .refl
def lens(s:List (List Int)):Nat:=(s.map List.length).sum
abbrev a0c(v:Int)(l:List KE):AV:= .ag [AI v, .sl 6 (bK l) none]
def fU(s:List (List Int))(v:Int):List KE->Option (Int×Int)
 | []=>if (mT s v 0).isSome then some (v,0) else none | [e]=>match bH s e with
   |some x=>if (mT s v x).isSome then some (v,x) else none |none=>none
 |_=>none
abbrev SO(x:Option (Int×Int)):AV:= .tp [AI (x.getD (0,0)).1,AI (x.getD (0,0)).2,AB x.isSome]
theorem OC(s:List (List Int))(hs:TX s)(v:Int)(l:List KE)(hw:nJ l)(hn:l.length<=281474976710656):Pure prog aU 82 [aF s,a0c v l] (SO (fU s v l)):=by
 have hl:=bG l
 match l,hw,hn,hl with
 | [],hw,hn,hl=>
   unfold fU;cases h:mT s v 0 with
   |none=>
    have hp:=MB s v 0;rw [h] at hp;refine P_ func82 42 fun _ _ _ _=>?_
    (refine b_ fun bx=>?_;refine y_ ?_);refine c_ (hp) ?_;refine A.dn (Λ':=[]) T T T T T (ae0 _) ⟨?_,rfl⟩;exact .refl
   |some y=>
    have hp:=MB s v 0;rw [h] at hp;refine P_ func82 42 fun _ _ _ _=>?_
    (refine b_ fun bx=>?_;refine y_ ?_);refine c_ (hp) ?_;refine A.dn (Λ':=[]) T T T T T (ae0 _) ⟨?_,rfl⟩;exact .refl
 | [e],hw,hn,hl=>
   unfold fU;simp only [nJ] at hw;have hv:=sX s hs e hw.1;rw [aK] at hv;simp only [a0c,bK];cases hx:bH s e with
   |none=>
    rw [hx] at hv;refine P_ func82 42 fun _ _ _ _=>?_
    (refine b_ fun bx=>?_;refine y_ ?_)
    refine j_ T T T ?_;refine e_ 20 T (c8 e) ?_;refine c_ (hv) ?_;refine A.dn (Λ':=[]) T T T T T (ae0 _) ⟨?_,rfl⟩;exact .refl
   |some x=>
    rw [hx] at hv;have hxi:=zA hs hw.1 x hx;cases h:mT s v x with
    |none=>
     have hp:=MB s v x;rw [h] at hp;simp only [h];refine P_ func82 42 fun _ _ _ _=>?_
     (refine b_ fun bx=>?_;refine y_ ?_)
     refine j_ T T T ?_;refine e_ 20 T (c8 e) ?_;refine c_ (hv) ?_;refine A.aa 33 T (x':=AI x) (aL (dR hxi)) ?_;refine c_ (hp) ?_;refine A.dn (Λ':=[]) T T T T T (ae0 _) ⟨?_,rfl⟩;exact .refl
    |some y=>
     have hp:=MB s v x;rw [h] at hp;simp only [h];refine P_ func82 42 fun _ _ _ _=>?_
     (refine b_ fun bx=>?_;refine y_ ?_)
     refine j_ T T T ?_;refine e_ 20 T (c8 e) ?_;refine c_ (hv) ?_;refine A.aa 33 T (x':=AI x) (aL (dR hxi)) ?_;refine A.aa 5 T (x':=AI x) (aL (dR hxi)) ?_;refine c_ (hp) ?_;refine A.dn (Λ':=[]) T T T T T (ae0 _) ⟨?_,rfl⟩;exact .refl
 |e::b::r,hw,hn,hl=>
  unfold fU;refine P_ func82 42 fun _ _ _ _=>?_
  (refine b_ fun bx=>?_;refine y_ ?_);refine A.dn (Λ':=[]) T T T T T (ae0 _) ⟨?_,rfl⟩;exact .refl
theorem KW(s:List (List Int))(hs:TX s)(v:Int)(l:List KE)(hw:nJ l)(hn:l.length<=281474976710656):Pure prog aU 96 [aF s,a0c v l] (SO (fU s v l)):=by
 have hl:=bG l
 match l,hw,hn,hl with
 | [],hw,hn,hl=>
   unfold fU;cases h:mT s v 0 with
   |none=>
    have hp:=DI s v 0;rw [h] at hp;refine P_ func96 47 fun _ _ _ _=>?_
    (refine b_ fun bx=>?_;refine y_ ?_);refine c_ (hp) ?_;refine A.dn (Λ':=[]) T T T T T (ae0 _) ⟨?_,rfl⟩;exact .refl
   |some y=>
    have hp:=DI s v 0;rw [h] at hp;refine P_ func96 47 fun _ _ _ _=>?_
    (refine b_ fun bx=>?_;refine y_ ?_);refine c_ (hp) ?_;refine A.dn (Λ':=[]) T T T T T (ae0 _) ⟨?_,rfl⟩;exact .refl
 | [e],hw,hn,hl=>
   unfold fU;simp only [nJ] at hw;have hv:=qF s hs e hw.1;rw [aK] at hv;simp only [a0c,bK];cases hx:bH s e with
   |none=>
    rw [hx] at hv;refine P_ func96 47 fun _ _ _ _=>?_
    (refine b_ fun bx=>?_;refine y_ ?_)
    refine j_ T T T ?_;refine e_ 24 T (c8 e) ?_;refine c_ (hv) ?_;refine A.dn (Λ':=[]) T T T T T (ae0 _) ⟨?_,rfl⟩;exact .refl
   |some x=>
    rw [hx] at hv;have hxi:=zA hs hw.1 x hx;cases h:mT s v x with
    |none=>
     have hp:=DI s v x;rw [h] at hp;simp only [h];refine P_ func96 47 fun _ _ _ _=>?_
     (refine b_ fun bx=>?_;refine y_ ?_)
     refine j_ T T T ?_;refine e_ 24 T (c8 e) ?_;refine c_ (hv) ?_;refine A.aa 37 T (x':=AI x) (aL (dR hxi)) ?_;refine c_ (hp) ?_;refine A.dn (Λ':=[]) T T T T T (ae0 _) ⟨?_,rfl⟩;exact .refl
    |some y=>
     have hp:=DI s v x;rw [h] at hp;simp only [h];refine P_ func96 47 fun _ _ _ _=>?_
     (refine b_ fun bx=>?_;refine y_ ?_)
     refine j_ T T T ?_;refine e_ 24 T (c8 e) ?_;refine c_ (hv) ?_;refine A.aa 37 T (x':=AI x) (aL (dR hxi)) ?_;refine c_ (hp) ?_;refine A.aa 5 T (x':=AI x) (aL (dR hxi)) ?_;refine A.dn (Λ':=[]) T T T T T (ae0 _) ⟨?_,rfl⟩;exact .refl
 |e::b::r,hw,hn,hl=>
  unfold fU;refine P_ func96 47 fun _ _ _ _=>?_
  (refine b_ fun bx=>?_;refine y_ ?_)
  refine e_ 15 T (x':=AB true) (aA (by rw [hl];simp;omega)) ?_;refine A.dn (Λ':=[]) T T T T T (ae0 _) ⟨?_,rfl⟩;exact .refl
end Go.Proofs.YtenkjmjejhhdjaaGreat
namespace Go.Proofs.YtenkjmjejhhdjaaGreat
abbrev TR:=List EL
section
variable{S:Type}
end
end Go.Proofs.YtenkjmjejhhdjaaGreat
namespace Go.Proofs.YtenkjmjejhhdjaaGreat
open Go Go.Tp
abbrev bA:=List (List Int)
abbrev fK:=Nat×bA
structure RN where
 reach:Nat
 ends:List fK
 miss:Bool
def fF(l:List fK)(x:fK):List fK:=if x∈l then l else l++[x]
def cM(r:RN)(n:Nat)(q:RN):RN:=⟨max r.reach (n+q.reach),q.ends.foldl (fun l e=>fF l (n+e.1,e.2)) r.ends,r.miss||q.miss⟩
def fM(s:bA):RN:=⟨0,[(0,s)],false⟩
def a7:RN:=⟨0,[],false⟩
def iN(s:bA):List PL->List KE->bA->Option bA
 | [],_,out=>some out |_::_,[],_=>none
 |to::r,e::es,out=>match bH s e with
  |none=>none |some x=>match fU s to.v to.ix with
   |none=>none |some q=>iN s r es (iK out q.1 q.2 x)
def fW(first:RN)(k:Nat->bA->RN):RN:=first.ends.foldl (fun r e=>cM r e.1 (k e.1 e.2)) ⟨first.reach,[],first.miss⟩
def cU(op:List Int)(t:TR)(c item:Int)(to:PL)(s:bA):Option bA:=match fU s to.v to.ix with
 |none=>none |some q=>match t with
  | []=>none |e::_=>if c∈op/\e.1=c/\gO item e.2=true then some (iK s q.1 q.2 e.2) else none
def fT(op:List Int)(t:TR)(c:Int)(e:KE)(s:bA):Bool:=match bH s e with
 |none=>false |some x=>decide (c∈op)&&decide (t.head? =some (c,x))
def G8(s:bA)(v:Int):bA:=(List.range (match s[v.toNat]? with|some r=>r.length|none=>0)).foldl (fun s i=>iK s v (i:Nat) 0) s
def bX(t:TR)(ch:List Int):TR:=t.filter fun e=>ch.contains e.1
mutual
def dW:PR->List Int
 |⟨k,c,_,_,_,_,gs,l⟩=>(if k=5\/k=6 then [c] else [])++(aI l++aZ gs)
def aI:List PR->List Int
 | []=>[] |p::r=>dW p++aI r
def aZ:List GD->List Int
 | []=>[] |⟨k,_,c,_,_,_,b⟩::r=>(if k=3 then [c] else [])++(aI b++aZ r)
end
def aB(p:PR):List Int:=bS (dW p)
def fQ(cond:bA->Option Int)(body:Nat->TR->bA->RN):Nat->TR->bA->RN
 |f,t,s=>match cond s with
  |none=>a7 |some v=>if v=0 then fM s else match f with
   |0=>⟨0,[],true⟩ |f+1=>fW (body f t s) fun n s'=>fW (fQ cond body f (t.drop n) s') fun _ s''=>fM s''
def fX(s out x:bA):bA:=(List.range x.length).foldl (fun out (v:Nat)=>(List.range (match x[v]? with|some r=>r.length|none=>0)).foldl (fun out (i:Nat)=>if mT x v i=mT s v i then out else iK out v i ((mT x v i).getD 0)) out) out
def dD(s:bA):List (List bA)->bA->List bA
 | [],out=>[out] |b::r,out=>b.flatMap fun x=>dD s r (fX s out x)
def cI(r:RN)(n:Nat):List bA:=(r.ends.filter fun e=>decide (e.1=n)).map (·.2)
def fC(s:bA)(rs:List RN)(cn:List Nat)(n:Nat)(r:RN):RN:=⟨n,(dD s (rs.zipWith cI cn) s).foldl (fun l x=>fF l (n,x)) r.ends,r.miss⟩
def gA(chs:List (List Int))(cn:List Nat)(c:Int):List Nat:=chs.zipWith (fun ch n=>if ch.contains c then n+1 else n) cn
def eE(chs:List (List Int))(rs:List RN)(cn:List Nat)(c:Int):Bool:=chs.any (fun ch=>ch.contains c)&&((gA chs cn c).zip rs).all fun x=>decide (x.1<=x.2.reach)
def gC(chs:List (List Int))(rs:List RN)(s:bA):TR->Nat->List Nat->RN->RN
 | [],n,cn,r=>fC s rs cn n r |e::t,n,cn,r=>if eE chs rs cn e.1=true then gC chs rs s t (n+1) (gA chs cn e.1) (fC s rs cn n r) else fC s rs cn n r
def qW(chs:List (List Int))(rs:List RN)(t:TR)(s:bA):RN:=gC chs rs s t 0 (chs.map fun _=>0) ⟨0,[],rs.any (·.miss)⟩
def gB(op:List Int)(all:List (List Int))(i:Nat):List Int:=op++((all.take i).flatten++(all.drop (i+1)).flatten)
def jQ(s:bA)(gs:List GD):Bool:=gs.all fun g=>(bH s g.cond).isSome
mutual
def cG(f:Nat)(op:List Int)(t:TR)(s:bA):PR->RN
 |⟨k,c,v,it,to,e,gs,l⟩=>
  if k=1 then fM s
  else if k=3 then fM (G8 s v)
  else if k=4 then (match iN s to e s with|some s'=>fM s'|none=>a7)
  else if k=5 then (match to with|q::_=>(match cU op t c it q s with|some s'=>cM a7 1 (fM s')|none=>a7)| []=>a7)
  else if k=6 then (match e with|x::_=>if fT op t c x s=true then cM a7 1 (fM s) else a7| []=>a7)
  else if k=9 then bB f op t s l
  else if k=13 then (match e with|x::_=>fQ (fun s=>bH s x) (fun f' t' s'=>bD f' op t' s' l) f t s| []=>a7)
  else if k=12 then rJ f op t s gs
  else if k=14\/k=15 then (if jQ s gs=true then iW f op t s gs a7 else a7)
  else if k=10\/k=11 then qW (l.map aB) (hJ f op (l.map aB) 0 t s l) t s
  else a7
def bD(f:Nat)(op:List Int)(t:TR)(s:bA):List PR->RN
 | []=>a7 |p::_=>cG f op t s p
def bB(f:Nat)(op:List Int)(t:TR)(s:bA):List PR->RN
 | []=>fM s |p::r=>fW (cG f op t s p) fun n s'=>bB f op (t.drop n) s' r
def rJ(f:Nat)(op:List Int)(t:TR)(s:bA):List GD->RN
 | []=>a7 |⟨_,cd,_,_,_,_,b⟩::r=>match bH s cd with
  |none=>a7 |some v=>if v=0 then rJ f op t s r else cM a7 0 (bD f op t s b)
def iW(f:Nat)(op:List Int)(t:TR)(s:bA):List GD->RN->RN
 | [],acc=>acc
 |⟨k,cd,c,it,to,_,b⟩::r,acc=>if bH s cd=some 0 then iW f op t s r acc
  else if k=3 then (match cU op t c it to s with
   |some s'=>iW f op t s r (cM acc 1 (bD f op (t.drop 1) s' b)) |none=>iW f op t s r acc)
  else iW f op t s r (cM acc 0 (bD f op t s b))
def hJ(f:Nat)(op:List Int)(all:List (List Int))(i:Nat)(t:TR)(s:bA):List PR->List RN
 | []=>[] |p::r=>cG f (gB op all i) (bX t ((all[i]?).getD [])) s p::hJ f op all (i+1) t s r
end
structure lJ(r:RN)(n:Nat):Prop where
 len:r.reach<=n
 le: ∀e,e∈r.ends->e.1<=r.reach
 nod:r.ends.Nodup
theorem sG{l:List fK}{x y:fK}:y∈fF l x↔y∈l\/y=x:=by
 unfold fF;split
 ·rename_i h;exact ⟨.inl,fun h'=>h'.elim id fun e=>e▸h⟩
 ·simp
theorem KD{l:List fK}(h:l.Nodup)(x:fK):(fF l x).Nodup:=by
 unfold fF;split
 ·exact h
 ·rename_i hn;refine List.nodup_append.2 ⟨h,aj1.2 ⟨by simp,an4⟩,fun a ha b hb=>?_⟩;rw [ab0.1 hb];intro e;rw [e] at ha;exact hn ha
theorem nY{n:Nat}{y:fK}: ∀(q:List fK) (l:List fK),y∈q.foldl (fun l e=>fF l (n+e.1,e.2)) l↔y∈l\/ ∃e,e∈q/\y=(n+e.1,e.2)
 | [],l=>by simp |e::r,l=>by
  rw [ae2,nY r,sG];constructor
  ·rintro ((h|h)|⟨x,hx,h⟩)
   ·exact .inl h
   ·exact .inr ⟨e,aa5 ..,h⟩
   ·exact .inr ⟨x,ab9 _ hx,h⟩
  ·rintro (h|⟨x,hx,h⟩)
   ·exact .inl (.inl h)
   ·rcases ab6.1 hx with rfl|hx
    ·exact .inl (.inr h)
    ·exact .inr ⟨x,hx,h⟩
theorem C4{n:Nat}: ∀(q:List fK) (l:List fK),l.Nodup->(q.foldl (fun l e=>fF l (n+e.1,e.2)) l).Nodup
 | [],l,h=>h |e::r,l,h=>C4 r _ (KD h _)
theorem lJ.join{r q:RN}{n m:Nat}(h:lJ r m)(hq:lJ q (m-n))(hn:n<=m):lJ (cM r n q) m:=by
 have h1:=h.len;have h2:=hq.len;refine ⟨by show max _ _<=m;omega,fun e he=>?_,C4 _ _ h.nod⟩;show e.1<=max _ _;rcases (nY _ _).1 he with he|⟨x,hx,rfl⟩
 ·have:=h.le e he;omega
 ·have:=hq.le x hx;show n+x.1<=_;omega
theorem rA(s:bA)(n:Nat):lJ (fM s) n:=⟨aa4 _,fun e he=>by rw [ab0.1 he];exact ab3 _,aj1.2 ⟨by simp,an4⟩⟩
theorem iM(n:Nat):lJ a7 n:=⟨aa4 _,fun e he=>(by cases he),an4⟩
theorem lJ.andThen{first:RN}{k:Nat->bA->RN}{m:Nat}(h:lJ first m)(hk: ∀e,e∈first.ends->lJ (k e.1 e.2) (m-e.1)):lJ (fW first k) m:=by
 have key: ∀(q:List fK) (r:RN),(∀e,e∈q->e∈first.ends)->lJ r m->lJ (q.foldl (fun r e=>cM r e.1 (k e.1 e.2)) r) m:=by
  intro q
  induction q with
  |nil=>intro r _ h;exact h |cons e q ih=>
   intro r hq hr;have he:=hq e (aa5 ..);exact ih _ (fun x hx=>hq x (ab9 _ hx)) (hr.join (hk e he) (ae9 (h.le e he) h.len))
 exact key first.ends _ (fun e he=>he) ⟨h.len,fun e he=>(by cases he),an4⟩
structure Cut(n:Nat)(r r':RN):Prop where
 reach:r'.reach=min n r.reach
 ends:r'.ends=r.ends.filter fun e=>decide (e.1<=n)
 miss:r'.miss=true->r.miss=true
theorem mX(n:Nat)(s:bA):Cut n (fM s) (fM s):=⟨by simp [fM],by simp [fM],id⟩
theorem eS(n:Nat):Cut n a7 a7:=⟨by simp [a7],by simp [a7],id⟩
theorem rW(n:Nat)(l:List fK)(x:fK):(fF l x).filter (fun e=>decide (e.1<=n))=if x.1<=n then fF (l.filter fun e=>decide (e.1<=n)) x else l.filter fun e=>decide (e.1<=n):=by
 unfold fF
 by_cases hx:x.1<=n
 ·rw [iT hx]
  by_cases h:x∈l
  ·rw [iT h,iT (aj0.2 ⟨h,by simpa using hx⟩)]
  ·rw [iF h,iF (fun h'=>h (aj0.1 h').1),ag5];simp [hx]
 ·rw [iF hx];split
  ·rfl
  ·rw [ag5];simp [hx]
theorem uD{n m:Nat}(hm:m<=n): ∀(q l:List fK),(q.foldl (fun l e=>fF l (m+e.1,e.2)) l).filter (fun e=>decide (e.1<=n))=(q.filter fun e=>decide (e.1<=n-m)).foldl (fun l e=>fF l (m+e.1,e.2)) (l.filter fun e=>decide (e.1<=n))
 | [],l=>rfl |e::q,l=>by
  rw [ae2,uD hm q,rW,aj2]
  by_cases h:e.1<=n-m
  ·rw [iT (show m+e.1<=n by omega),iT (by simpa using h),ae2]
  ·rw [iF (show¬m+e.1<=n by omega),iF (by simpa using h)]
theorem uE{n m:Nat}(hm:n<m): ∀(q l:List fK),(q.foldl (fun l e=>fF l (m+e.1,e.2)) l).filter (fun e=>decide (e.1<=n))=l.filter fun e=>decide (e.1<=n)
 | [],l=>rfl |e::q,l=>by rw [ae2,uE hm q,rW,iF (show¬m+e.1<=n by omega)]
theorem Cut.join{n m:Nat}{r r' q q':RN}(h:Cut n r r')(hq:Cut (n-m) q q')(hm:m<=n):Cut n (cM r m q) (cM r' m q'):=by
 refine ⟨?_,?_,fun he=>?_⟩
 ·show max r'.reach (m+q'.reach)=min n (max r.reach (m+q.reach));rw [h.reach,hq.reach];omega
 ·show q'.ends.foldl _ r'.ends=(q.ends.foldl _ r.ends).filter _;rw [uD hm,h.ends,hq.ends]
 ·have he:(r'.miss||q'.miss)=true:=he;show (r.miss||q.miss)=true;rw [Bool.or_eq_true] at he⊢;exact he.imp h.miss hq.miss
theorem Cut.dx{n m:Nat}{r r':RN}(h:Cut n r r')(q:RN)(hm:n<m)(hr:n<=r.reach):Cut n (cM r m q) r':=by
 refine ⟨?_,?_,fun he=>?_⟩
 ·show r'.reach=min n (max r.reach (m+q.reach));rw [h.reach];omega
 ·show r'.ends=(q.ends.foldl _ r.ends).filter _;rw [uE hm,h.ends]
 ·show (r.miss||q.miss)=true;rw [h.miss he];rfl
theorem Cut.andThen{n m:Nat}{first first':RN}{k k':Nat->bA->RN}(h:Cut n first first')(hw:lJ first m)(hk: ∀e,e∈first.ends->e.1<=n->Cut (n-e.1) (k e.1 e.2) (k' e.1 e.2)):Cut n (fW first k) (fW first' k'):=by
 have key: ∀(q:List fK) (r r':RN),(∀e,e∈q->e∈first.ends)->first.reach<=r.reach->Cut n r r'->Cut n (q.foldl (fun r e=>cM r e.1 (k e.1 e.2)) r) ((q.filter fun e=>decide (e.1<=n)).foldl (fun r e=>cM r e.1 (k' e.1 e.2)) r'):=by
  intro q
  induction q with
  |nil=>intro r r' _ _ h;exact h |cons e q ih=>
   intro r r' hq hr hc;have he:=hq e (aa5 ..);have hle:=hw.le e he;have hr2:first.reach<=(cM r e.1 (k e.1 e.2)).reach:=ae9 hr (Nat.le_max_left _ _)
   rw [ae2,aj2]
   by_cases hen:e.1<=n
   ·rw [iT (by simpa using hen),ae2];exact ih _ _ (fun x hx=>hq x (ab9 _ hx)) hr2 (hc.join (hk e he hen) hen)
   ·rw [iF (by simpa using hen)];exact ih _ _ (fun x hx=>hq x (ab9 _ hx)) hr2 (hc.dx _ (by omega) (by omega))
 have hk2:=key first.ends ⟨first.reach,[],first.miss⟩ ⟨first'.reach,[],first'.miss⟩ (fun e he=>he) (ab3 _) ⟨h.reach,rfl,h.miss⟩
 unfold fW;rw [h.ends];exact hk2
theorem EI{cond:bA->Option Int}{body:Nat->TR->bA->RN}(hb: ∀f t s,lJ (body f t s) t.length): ∀(f:Nat) (t:TR) (s:bA),lJ (fQ cond body f t s) t.length
 |0,t,s=>by
  rw [fQ];split
  ·exact iM _
  ·split
   ·exact rA _ _
   ·exact ⟨aa4 _,fun e he=>(by cases he),an4⟩
 |f+1,t,s=>by
  rw [fQ];split
  ·exact iM _
  ·split
   ·exact rA _ _
   ·refine (hb f t s).andThen fun e _=>?_;have:=EI (cond:=cond) hb f (t.drop e.1) e.2;rw [ad7] at this;exact this.andThen fun _ _=>rA _ _
theorem FD{cond:bA->Option Int}{body:Nat->TR->bA->RN}(hb: ∀f t s,lJ (body f t s) t.length)(hc: ∀f t s n,Cut n (body f t s) (body f (t.take n) s)): ∀(f:Nat) (t:TR) (s:bA) (n:Nat),Cut n (fQ cond body f t s) (fQ cond body f (t.take n) s)
 |0,t,s,n=>by
  rw [fQ,fQ];split
  ·exact eS _
  ·split
   ·exact mX _ _
   ·exact ⟨by simp,by simp,id⟩
 |f+1,t,s,n=>by
  rw [fQ,fQ];split
  ·exact eS _
  ·split
   ·exact mX _ _
   ·refine (hc f t s n).andThen (hb f t s) fun e _ hen=>?_;have h1:=FD (cond:=cond) hb hc f (t.drop e.1) e.2 (n-e.1);rw [<-List.drop_take] at h1;have h2:=EI (cond:=cond) hb f (t.drop e.1) e.2;exact h1.andThen h2 fun _ _ _=>mX _ _
theorem JJ{m c:Nat}{r r':RN}(h:Cut m r r')(hc:c<=m):cI r' c=cI r c:=by
 unfold cI;rw [h.ends,List.filter_filter];congr 2;funext e
 by_cases he:e.1=c
 ·simp [he,hc]
 ·simp [he]
def iH(n:Nat)(xs:List bA)(l:List fK):List fK:=xs.foldl (fun l x=>fF l (n,x)) l
theorem iY{n m:Nat}: ∀(xs:List bA) (l:List fK),(iH m xs l).filter (fun e=>decide (e.1<=n))=if m<=n then iH m xs (l.filter fun e=>decide (e.1<=n)) else l.filter fun e=>decide (e.1<=n)
 | [],l=>by simp [iH] |x::xs,l=>by
  have ih:=iY (n:=n) (m:=m) xs (fF l (m,x));unfold iH at ih⊢;rw [ae2,ih,rW]
  by_cases h:m<=n
  ·rw [iT h,iT h,iT h,ae2]
  ·rw [iF h,iF h,iF h]
theorem sH{m:Nat}{e:fK}: ∀(xs:List bA) (l:List fK),e∈iH m xs l↔e∈l\/ ∃x,x∈xs/\e=(m,x)
 | [],l=>by simp [iH] |x::xs,l=>by
  have ih:=sH (m:=m) (e:=e) xs (fF l (m,x));unfold iH at ih⊢;rw [ae2,ih,sG];constructor
  ·rintro ((h|h)|⟨y,hy,h⟩)
   ·exact .inl h
   ·exact .inr ⟨x,aa5 ..,h⟩
   ·exact .inr ⟨y,ab9 _ hy,h⟩
  ·rintro (h|⟨y,hy,h⟩)
   ·exact .inl (.inl h)
   ·rcases ab6.1 hy with rfl|hy
    ·exact .inl (.inr h)
    ·exact .inr ⟨y,hy,h⟩
theorem C5{m:Nat}: ∀(xs:List bA) (l:List fK),l.Nodup->(iH m xs l).Nodup
 | [],l,h=>h |x::xs,l,h=>by have ih:=C5 (m:=m) xs _ (KD h (m,x));unfold iH at ih⊢;exact ih
theorem dV(s:bA)(rs:List RN)(cn:List Nat)(n:Nat)(r:RN):(fC s rs cn n r).ends=iH n (dD s (rs.zipWith cI cn) s) r.ends:=rfl
theorem VU{chs:List (List Int)}{rs:List RN}{s:bA}{n:Nat}: ∀(t:TR) (j:Nat) (cn:List Nat) (r:RN),n<j->(gC chs rs s t j cn r).ends.filter (fun e=>decide (e.1<=n))=r.ends.filter (fun e=>decide (e.1<=n))/\j<=(gC chs rs s t j cn r).reach/\(gC chs rs s t j cn r).miss=r.miss
 | [],j,cn,r,h=>by rw [gC];refine ⟨?_,ab3 _,rfl⟩;rw [dV,iY,iF (by omega)]
 |e::t,j,cn,r,h=>by
  rw [gC];split
  ·obtain ⟨h1,h2,h3⟩:=VU (chs:=chs) (rs:=rs) (s:=s) (n:=n) t (j+1) (gA chs cn e.1) (fC s rs cn j r) (by omega);refine ⟨?_,by omega,h3⟩;rw [h1,dV,iY,iF (by omega)]
  ·refine ⟨?_,ab3 _,rfl⟩;rw [dV,iY,iF (by omega)]
structure ZH(chs:List (List Int))(t:TR)(cn:List Nat)(rs rs':List RN):Prop where
 l1:rs.length=chs.length
 l2:rs'.length=chs.length
 l3:cn.length=chs.length
 cut: ∀(i:Nat) ch c r r',chs[i]? =some ch->cn[i]? =some c->rs[i]? =some r->rs'[i]? =some r'->Cut (c+(bX t ch).length) r r'
theorem LV{α:Type}{f g:RN->Nat->List α}: ∀{rs rs':List RN} {cn:List Nat},rs.length=cn.length->rs'.length=cn.length->(∀(i:Nat) r r' c,rs[i]? =some r->rs'[i]? =some r'->cn[i]? =some c->f r c=g r' c)->rs.zipWith f cn=rs'.zipWith g cn
 | [],[],[],_,_,_=>rfl |r::rs,r'::rs',c::cn,h1,h2,h=>by rw [ar4,ar4,h 0 r r' c T T T,LV (by simpa using h1) (by simpa using h2) fun i a b d x y z=>h (i+1) a b d x y z]
 | [],_::_,c::cn,h,_,_=>by simp at h | [],_::_,[],_,h,_=>by simp at h
 |_::_,_,[],h,_,_=>by simp at h |_::_,[],_::_,_,h,_=>by simp at h
 | [],[],_::_,h,_,_=>by simp at h
theorem ZH.meet{chs:List (List Int)}{t:TR}{cn:List Nat}{rs rs':List RN}(h:ZH chs t cn rs rs'):rs'.zipWith cI cn=rs.zipWith cI cn:=by
 refine LV (by rw [h.l2,h.l3]) (by rw [h.l1,h.l3]) fun i r' r c hr' hr hc=>?_;have hi:i<chs.length:=by rw [<-h.l1];exact (aa8.1 hr).1
 exact JJ (h.cut i _ c r r' (aa7 hi) hc hr hr') (by omega)
theorem B3{chs:List (List Int)}{cn:List Nat}{c:Int}{i:Nat}{ch:List Int}{n:Nat}(h1:chs[i]? =some ch)(h2:cn[i]? =some n):(gA chs cn c)[i]? =some (if ch.contains c then n+1 else n):=by unfold gA;rw [ae1,h1,h2]
theorem vZ{chs:List (List Int)}{cn:List Nat}{c:Int}(h:cn.length=chs.length):(gA chs cn c).length=chs.length:=by unfold gA;rw [ai6,h,av1]
theorem ZH.next{chs:List (List Int)}{e:EL}{t:TR}{cn:List Nat}{rs rs':List RN}(h:ZH chs (e::t) cn rs rs'):ZH chs t (gA chs cn e.1) rs rs':=by
 refine ⟨h.l1,h.l2,vZ h.l3,fun i ch c r r' g1 g2 g3 g4=>?_⟩;have hi:i<cn.length:=by rw [h.l3];exact (aa8.1 g1).1
 have hc:=aa7 hi;have:=h.cut i ch _ r r' g1 hc g3 g4;rw [B3 g1 hc] at g2;injection g2 with g2;have e1:(bX (e::t) ch).length=(if ch.contains e.1 then 1 else 0)+(bX t ch).length:=by
  unfold bX;rw [aj2];split
  ·rw [ab7];omega
  ·omega
 have e2:cn[i]+(bX (e::t) ch).length=c+(bX t ch).length:=by rw [e1,<-g2];split<;>omega
 rw [e2] at this;exact this
theorem Q7{f:Nat×RN->Bool}{g:Nat×RN->Bool}: ∀{cn:List Nat} {rs rs':List RN},rs.length=cn.length->rs'.length=cn.length->(∀(i:Nat) c r r',cn[i]? =some c->rs[i]? =some r->rs'[i]? =some r'->f (c,r)=g (c,r'))->(cn.zip rs).all f=(cn.zip rs').all g
 | [],[],[],_,_,_=>rfl |c::cn,r::rs,r'::rs',h1,h2,h=>by rw [as8,as8,aj8,aj8,h 0 c r r' T T T,Q7 (by simpa using h1) (by simpa using h2) fun i a b d x y z=>h (i+1) a b d x y z]
 | [],_::_,_,h,_,_=>by simp at h | [],[],_::_,_,h,_=>by simp at h
 |_::_,[],_,h,_,_=>by simp at h |_::_,_::_,[],_,h,_=>by simp at h
theorem ZH.step{chs:List (List Int)}{e:EL}{t:TR}{cn:List Nat}{rs rs':List RN}(h:ZH chs (e::t) cn rs rs'):eE chs rs' cn e.1=eE chs rs cn e.1:=by
 have h':=h.next;unfold eE;congr 1;refine Q7 (by rw [h'.l2,h'.l3]) (by rw [h'.l1,h'.l3]) fun i c r' r g2 g4 g3=>?_;have hi:i<chs.length:=by rw [<-h'.l1];exact (aa8.1 g3).1
 have:=(h'.cut i _ c r r' (aa7 hi) g2 g3 g4).reach;rw [ac8,dT,dT];show c<=r'.reach↔c<=r.reach;omega
theorem VE{chs:List (List Int)}{rs rs':List RN}{s:bA}: ∀(t:TR) (n j:Nat) (cn:List Nat) (r r':RN),ZH chs (t.take n) cn rs rs'->r'.ends=r.ends.filter (fun e=>decide (e.1<=j+n))->(r'.miss=true->r.miss=true)->
 Cut (j+n) (gC chs rs s t j cn r) (gC chs rs' s (t.take n) j cn r')
 | [],n,j,cn,r,r',h,he,hm=>by rw [List.take_nil,gC,gC];rw [List.take_nil] at h;refine ⟨by show j=min (j+n) j;omega,?_,hm⟩;rw [dV,dV,iY,iT (by omega),he,h.meet]
 |e::t,0,j,cn,r,r',h,he,hm=>by
  rw [ad1] at h⊢;rw [gC,gC];have hme:(fC s rs' cn j r').ends=(fC s rs cn j r).ends.filter fun e=>decide (e.1<=j+0):=by rw [dV,dV,iY,iT (by omega),he,h.meet]
  split
  ·obtain ⟨h1,h2,h3⟩:=VU (chs:=chs) (rs:=rs) (s:=s) (n:=j) t (j+1) (gA chs cn e.1) (fC s rs cn j r) (by omega);refine ⟨by show j=min (j+0) _;omega,?_,fun hx=>?_⟩
   ·rw [hme];exact h1.symm
   ·rw [h3];exact hm hx
  ·exact ⟨by show j=min (j+0) j;omega,hme,hm⟩
 |e::t,n+1,j,cn,r,r',h,he,hm=>by
  rw [List.take_succ_cons] at h⊢;rw [gC,gC,h.step];have hme:(fC s rs' cn j r').ends=(fC s rs cn j r).ends.filter fun e=>decide (e.1<=j+(n+1)):=by rw [dV,dV,iY,iT (by omega),he,h.meet]
  split
  ·have:=VE (s:=s) t n (j+1) (gA chs cn e.1) (fC s rs cn j r) (fC s rs' cn j r') h.next (by rw [hme,show j+1+n=j+(n+1) by omega]) hm;rw [show j+1+n=j+(n+1) by omega] at this;exact this
  ·exact ⟨by show j=min (j+(n+1)) j;omega,hme,hm⟩
theorem wf_go{chs:List (List Int)}{rs:List RN}{s:bA}: ∀(t:TR) (j:Nat) (cn:List Nat) (r:RN),r.ends.Nodup->(∀e,e∈r.ends->e.1<=j)->lJ (gC chs rs s t j cn r) (j+t.length)/\j<=(gC chs rs s t j cn r).reach
 | [],j,cn,r,h,he=>by
   rw [gC];refine ⟨⟨ab3 _,fun e hx=>?_,?_⟩,ab3 _⟩
   ·rw [dV,sH] at hx;show e.1<=j;rcases hx with hx|⟨x,_,rfl⟩
    ·exact he e hx
    ·exact ab3 _
   ·rw [dV];exact C5 _ _ h
 |e::t,j,cn,r,h,he=>by
  have h1:(fC s rs cn j r).ends.Nodup:=by rw [dV];exact C5 _ _ h
  have h2: ∀e,e∈(fC s rs cn j r).ends->e.1<=j:=fun e hx=>by
   rw [dV,sH] at hx;rcases hx with hx|⟨x,_,rfl⟩
   ·exact he e hx
   ·exact ab3 _
  rw [gC];split
  ·obtain ⟨h3,h4⟩:=wf_go (chs:=chs) (rs:=rs) (s:=s) t (j+1) (gA chs cn e.1) (fC s rs cn j r) h1 fun e hx=>by have:=h2 e hx;omega
   refine ⟨⟨?_,h3.le,h3.nod⟩,by omega⟩;have:=h3.len;rw [ab7];omega
  ·exact ⟨⟨by show j<=_;omega,h2,h1⟩,ab3 _⟩
theorem mO{p x:PR}(h:x∈p.l):SizeOf.sizeOf x<SizeOf.sizeOf p:=by obtain ⟨k,c,v,i,to,e,gs,l⟩:=p;have:=al7 (show x∈l from h);simp only [PR.mk.sizeOf_spec];omega
theorem nX{p x:PR}{g:GD}(hg:g∈p.gs)(h:x∈g.body):SizeOf.sizeOf x<SizeOf.sizeOf p:=by obtain ⟨k,c,v,i,to,e,gs,l⟩:=p;have h1:=al7 (show g∈gs from hg);obtain ⟨k2,cd,c2,it2,to2,tm,b⟩:=g;have h2:=al7 (show x∈b from h);simp only [GD.mk.sizeOf_spec] at h1;simp only [PR.mk.sizeOf_spec];omega
theorem cX(f:Nat)(op:List Int)(t:TR)(s:bA)(k c v it:Int)(to:List PL)(e:List KE)(gs:List GD)(l:List PR):cG f op t s ⟨k,c,v,it,to,e,gs,l⟩=
 if k=1 then fM s
 else if k=3 then fM (G8 s v)
 else if k=4 then (match iN s to e s with|some s'=>fM s'|none=>a7)
 else if k=5 then (match to with|q::_=>(match cU op t c it q s with|some s'=>cM a7 1 (fM s')|none=>a7)| []=>a7)
 else if k=6 then (match e with|x::_=>if fT op t c x s=true then cM a7 1 (fM s) else a7| []=>a7)
 else if k=9 then bB f op t s l
 else if k=13 then (match e with|x::_=>fQ (fun s=>bH s x) (fun f' t' s'=>bD f' op t' s' l) f t s| []=>a7)
 else if k=12 then rJ f op t s gs
 else if k=14\/k=15 then (if jQ s gs=true then iW f op t s gs a7 else a7)
 else if k=10\/k=11 then qW (l.map aB) (hJ f op (l.map aB) 0 t s l) t s
 else a7:=rfl
structure tZ(p:PR):Prop where
 wf: ∀f op t s,lJ (cG f op t s p) t.length
 cut: ∀f op t s n,Cut n (cG f op t s p) (cG f op (t.take n) s p)
theorem seq19{l:List PR}(h: ∀x,x∈l->tZ x):(∀f op t s,lJ (bB f op t s l) t.length)/\(∀f op t s n,Cut n (bB f op t s l) (bB f op (t.take n) s l)):=by
 induction l with
 |nil=>exact ⟨fun f op t s=>by rw [bB];exact rA _ _,fun f op t s n=>by rw [bB,bB];exact mX _ _⟩ |cons p r ih=>
  have hp:=h p (.head _);obtain ⟨i1,i2⟩:=ih fun x hx=>h x (.tail _ hx);refine ⟨fun f op t s=>?_,fun f op t s n=>?_⟩
  ·rw [bB];refine (hp.wf f op t s).andThen fun e _=>?_;have:=i1 f op (t.drop e.1) e.2;rw [ad7] at this;exact this
  ·rw [bB,bB];refine (hp.cut f op t s n).andThen (hp.wf f op t s) fun e _ hen=>?_;have h1:=i2 f op (t.drop e.1) e.2 (n-e.1);rw [<-List.drop_take] at h1;exact h1
theorem US{l:List PR}(h: ∀x,x∈l->tZ x):(∀f op t s,lJ (bD f op t s l) t.length)/\(∀f op t s n,Cut n (bD f op t s l) (bD f op (t.take n) s l)):=by
 cases l with
 |nil=>exact ⟨fun f op t s=>by rw [bD];exact iM _,fun f op t s n=>by rw [bD,bD];exact eS _⟩ |cons p r=>
  have hp:=h p (.head _);exact ⟨fun f op t s=>by rw [bD];exact hp.wf f op t s,fun f op t s n=>by rw [bD,bD];exact hp.cut f op t s n⟩
theorem if19{gs:List GD}(h: ∀g,g∈gs-> ∀x,x∈g.body->tZ x):(∀f op t s,lJ (rJ f op t s gs) t.length)/\(∀f op t s n,Cut n (rJ f op t s gs) (rJ f op (t.take n) s gs)):=by
 induction gs with
 |nil=>exact ⟨fun f op t s=>by rw [rJ];exact iM _,fun f op t s n=>by rw [rJ,rJ];exact eS _⟩ |cons g r ih=>
  obtain ⟨b1,b2⟩:=US (h g (.head _));obtain ⟨i1,i2⟩:=ih fun x hx=>h x (.tail _ hx);obtain ⟨k,cd,c,it,to,tm,b⟩:=g;refine ⟨fun f op t s=>?_,fun f op t s n=>?_⟩
  ·rw [rJ];cases bH s cd with
   |none=>exact iM _ |some v=>
    simp only;split
    ·exact i1 f op t s
    ·exact (iM _).join (b1 f op t s) (aa4 _)
  ·rw [rJ,rJ];cases bH s cd with
   |none=>exact eS _ |some v=>
    simp only;split
    ·exact i2 f op t s n
    ·exact (eS n).join (b2 f op t s n) (aa4 _)
theorem HI{op:List Int}{c it:Int}{to:PL}{s:bA}:cU op [] c it to s=none:=by unfold cU;split<;>rfl
theorem JX{op:List Int}{t:TR}{c it:Int}{to:PL}{s:bA}(n:Nat):cU op (t.take (n+1)) c it to s=cU op t c it to s:=by
 cases t with
 |nil=>rfl |cons e r=>rfl
theorem p8{op:List Int}{t:TR}{c it:Int}{to:PL}{s s':bA}(h:cU op t c it to s=some s'):1<=t.length:=by
 cases t with
 |nil=>rw [HI] at h;cases h |cons e r=>simp
theorem P5{op:List Int}{c:Int}{e:KE}{s:bA}:fT op [] c e s=false:=by unfold fT;split<;>simp
theorem XJ{op:List Int}{t:TR}{c:Int}{e:KE}{s:bA}(n:Nat):fT op (t.take (n+1)) c e s=fT op t c e s:=by
 cases t with
 |nil=>rfl |cons e r=>rfl
theorem XI{op:List Int}{t:TR}{c:Int}{e:KE}{s:bA}(h:fT op t c e s=true):1<=t.length:=by
 cases t with
 |nil=>rw [P5] at h;cases h |cons e r=>simp
theorem MQ{α:Type}(t:List α)(n:Nat):(t.take (n+1)).drop 1=(t.drop 1).take n:=by
 cases t with
 |nil=>simp |cons e r=>rfl
theorem alt19{gs:List GD}(h: ∀g,g∈gs-> ∀x,x∈g.body->tZ x):(∀f op t s acc,lJ acc t.length->lJ (iW f op t s gs acc) t.length)/\(∀f op t s n acc acc',Cut n acc acc'->Cut n (iW f op t s gs acc) (iW f op (t.take n) s gs acc')):=by
 induction gs with
 |nil=>exact ⟨fun f op t s acc ha=>by rw [iW];exact ha,fun f op t s n acc acc' ha=>by rw [iW,iW];exact ha⟩ |cons g r ih=>
  obtain ⟨b1,b2⟩:=US (h g (.head _));obtain ⟨i1,i2⟩:=ih fun x hx=>h x (.tail _ hx);obtain ⟨k,cd,c,it,to,tm,b⟩:=g;refine ⟨fun f op t s acc ha=>?_,fun f op t s n acc acc' ha=>?_⟩
  ·rw [iW];split
   ·exact i1 f op t s acc ha
   ·split
    ·cases hin:cU op t c it to s with
     |none=>exact i1 f op t s acc ha |some s'=>
      refine i1 f op t s _ (ha.join ?_ (p8 hin));have:=b1 f op (t.drop 1) s';rw [ad7] at this;exact this
    ·exact i1 f op t s _ (ha.join (b1 f op t s) (aa4 _))
  ·rw [iW,iW];split
   ·exact i2 f op t s n acc acc' ha
   ·split
    ·cases n with
     |zero=>
      rw [ad1,HI];have hr:=i2 f op t s 0;rw [ad1] at hr;cases hin:cU op t c it to s with
      |none=>exact hr acc acc' ha |some s'=>exact hr _ acc' (ha.dx _ (au2) (aa4 _))
     |succ n=>
      rw [JX];cases hin:cU op t c it to s with
      |none=>exact i2 f op t s (n+1) acc acc' ha |some s'=>
       refine i2 f op t s (n+1) _ _ (ha.join ?_ (by omega));rw [MQ];exact b2 f op (t.drop 1) s' n
    ·exact i2 f op t s n _ _ (ha.join (b2 f op t s n) (aa4 _))
theorem mW{f:Nat}{op:List Int}{all:List (List Int)}{t:TR}{s:bA}: ∀(l:List PR) (i:Nat),(hJ f op all i t s l).length=l.length
 | [],i=>by rw [hJ];rfl |p::r,i=>by rw [hJ,ab7,ab7,mW r]
theorem rP{f:Nat}{op:List Int}{all:List (List Int)}{t:TR}{s:bA}: ∀(l:List PR) (i j:Nat),(hJ f op all i t s l)[j]? =(l[j]?).map fun p=>cG f (gB op all (i+j)) (bX t ((all[i+j]?).getD [])) s p
 | [],i,j=>by rw [hJ];rfl |p::r,i,0=>by rw [hJ];rfl
 |p::r,i,j+1=>by rw [hJ,af4,af4,rP r,show i+1+j=i+(j+1) by omega]
theorem SL(t:TR)(ch:List Int)(n:Nat):bX (t.take n) ch=(bX t ch).take (bX (t.take n) ch).length:=by
 have h:bX t ch=bX (t.take n) ch++bX (t.drop n) ch:=by unfold bX;rw [<-ag5,List.take_append_drop]
 rw [h,List.take_append_of_le_length (ab3 _),List.take_length]
theorem a0F{l:List PR}(h: ∀x,x∈l->tZ x)(f:Nat)(op:List Int)(t:TR)(s:bA)(n:Nat):ZH (l.map aB) (t.take n) ((l.map aB).map fun _=>0) (hJ f op (l.map aB) 0 t s l) (hJ f op (l.map aB) 0 (t.take n) s l):=by
 refine ⟨by rw [mW,aa0],by rw [mW,aa0],by rw [aa0],fun i ch c r r' h1 h2 h3 h4=>?_⟩;rw [ab5,h1] at h2;injection h2 with h2;subst h2;rw [rP,ag9,h1] at h3 h4;rw [Option.getD_some] at h3 h4;rw [ab5] at h1;cases hp:l[i]? with
 |none=>rw [hp] at h1;cases h1 |some p=>
  rw [hp] at h3 h4;injection h3 with h3;injection h4 with h4;subst h3;subst h4;have:=(h p (aa2 hp)).cut f (gB op (l.map aB) i) (bX t ch) s (bX (t.take n) ch).length;rw [<-SL] at this;rw [ag9];exact this
theorem UD{rs rs':List RN}(hl:rs.length=rs'.length)(h: ∀(i:Nat) r r',rs[i]? =some r->rs'[i]? =some r'->r'.miss=true->r.miss=true)(hm:rs'.any (·.miss)=true):rs.any (·.miss)=true:=by
 rw [at2] at hm⊢;obtain ⟨r',hr',hm⟩:=hm;obtain ⟨i,hi,rfl⟩:=ah7 hr';have hi2:i<rs.length:=by omega
 exact ⟨rs[i],List.getElem_mem _,h i _ _ (aa7 hi2) (aa7 hi) hm⟩
theorem par19{l:List PR}(h: ∀x,x∈l->tZ x):(∀f op t s,lJ (qW (l.map aB) (hJ f op (l.map aB) 0 t s l) t s) t.length)/\(∀f op t s n,Cut n (qW (l.map aB) (hJ f op (l.map aB) 0 t s l) t s) (qW (l.map aB) (hJ f op (l.map aB) 0 (t.take n) s l) (t.take n) s)):=by
 refine ⟨fun f op t s=>?_,fun f op t s n=>?_⟩
 ·have:=(wf_go (chs:=l.map aB) (rs:=hJ f op (l.map aB) 0 t s l) (s:=s) t 0 ((l.map aB).map fun _=>0) ⟨0,[],(hJ f op (l.map aB) 0 t s l).any (·.miss)⟩ an4 (fun e he=>by cases he)).1;rw [ag9] at this;exact this
 ·have hb:=a0F h f op t s n;have:=VE (s:=s) t n 0 _ ⟨0,[],(hJ f op (l.map aB) 0 t s l).any (·.miss)⟩ ⟨0,[],(hJ f op (l.map aB) 0 (t.take n) s l).any (·.miss)⟩ hb T (UD (by rw [hb.l1,hb.l2]) fun i r r' h3 h4 hm=>by
   have hi:i<(l.map aB).length:=by rw [<-hb.l1];exact (aa8.1 h3).1
   have h2:((l.map aB).map fun _=>0)[i]? =some 0:=by rw [ab5,aa7 hi];rfl
   exact (hb.cut i _ 0 r r' (aa7 hi) h2 h3 h4).miss hm)
  rw [ag9] at this;exact this
theorem H7: ∀(m:Nat) (p:PR),SizeOf.sizeOf p<=m->tZ p
 |0,p,h=>by obtain ⟨k,c,v,i,to,e,gs,l⟩:=p;simp only [PR.mk.sizeOf_spec] at h;omega
 |m+1,p,hm=>by
  have hl: ∀x,x∈p.l->tZ x:=fun x hx=>H7 m x (by have:=mO hx;omega);have hg: ∀g,g∈p.gs-> ∀x,x∈g.body->tZ x:=fun g hg x hx=>H7 m x (by have:=nX hg hx;omega);obtain ⟨s1,s2⟩:=seq19 hl;obtain ⟨b1,b2⟩:=US hl;obtain ⟨i1,i2⟩:=if19 hg;obtain ⟨a1,a2⟩:=alt19 hg;obtain ⟨p1,p2⟩:=par19 hl;obtain ⟨k,c,v,it,to,e,gs,l⟩:=p;refine ⟨fun f op t s=>?_,fun f op t s n=>?_⟩
  ·rw [cX]
   by_cases k1:k=1
   ·rw [iT k1];exact rA _ _
   rw [iF k1]
   by_cases k3:k=3
   ·rw [iT k3];exact rA _ _
   rw [iF k3]
   by_cases k4:k=4
   ·rw [iT k4];cases iN s to e s with
    |none=>exact iM _ |some s'=>exact rA _ _
   rw [iF k4]
   by_cases k5:k=5
   ·rw [iT k5];cases to with
    |nil=>exact iM _ |cons q r=>
     simp only;cases hin:cU op t c it q s with
     |none=>exact iM _ |some s'=>exact (iM _).join (rA _ _) (p8 hin)
   rw [iF k5]
   by_cases k6:k=6
   ·rw [iT k6];cases e with
    |nil=>exact iM _ |cons x r=>
     simp only
     by_cases ho:fT op t c x s=true
     ·rw [iT ho];exact (iM _).join (rA _ _) (XI ho)
     ·rw [iF ho];exact iM _
   rw [iF k6]
   by_cases k9:k=9
   ·rw [iT k9];exact s1 f op t s
   rw [iF k9]
   by_cases k13:k=13
   ·rw [iT k13];cases e with
    |nil=>exact iM _ |cons x r=>exact EI (fun f t s=>b1 f op t s) f t s
   rw [iF k13]
   by_cases k12:k=12
   ·rw [iT k12];exact i1 f op t s
   rw [iF k12]
   by_cases k14:k=14\/k=15
   ·rw [iT k14]
    by_cases ho:jQ s gs=true
    ·rw [iT ho];exact a1 f op t s a7 (iM _)
    ·rw [iF ho];exact iM _
   rw [iF k14]
   by_cases k10:k=10\/k=11
   ·rw [iT k10];exact p1 f op t s
   rw [iF k10];exact iM _
  ·rw [cX,cX]
   by_cases k1:k=1
   ·rw [iT k1,iT k1];exact mX _ _
   rw [iF k1,iF k1]
   by_cases k3:k=3
   ·rw [iT k3,iT k3];exact mX _ _
   rw [iF k3,iF k3]
   by_cases k4:k=4
   ·rw [iT k4,iT k4];cases iN s to e s with
    |none=>exact eS _ |some s'=>exact mX _ _
   rw [iF k4,iF k4]
   by_cases k5:k=5
   ·rw [iT k5,iT k5];cases to with
    |nil=>exact eS _ |cons q r=>
     simp only;cases n with
     |zero=>
      rw [ad1,HI];cases cU op t c it q s with
      |none=>exact eS _ |some s'=>exact (eS 0).dx _ (au2) (aa4 _)
     |succ n=>
      rw [JX];cases cU op t c it q s with
      |none=>exact eS _ |some s'=>exact (eS (n+1)).join (mX _ _) (by omega)
   rw [iF k5,iF k5]
   by_cases k6:k=6
   ·rw [iT k6,iT k6];cases e with
    |nil=>exact eS _ |cons x r=>
     simp only;cases n with
     |zero=>
      rw [ad1,P5,iF Bool.false_ne_true]
      by_cases ho:fT op t c x s=true
      ·rw [iT ho];exact (eS 0).dx _ (au2) (aa4 _)
      ·rw [iF ho];exact eS _
     |succ n=>
      rw [XJ]
      by_cases ho:fT op t c x s=true
      ·rw [iT ho];exact (eS (n+1)).join (mX _ _) (by omega)
      ·rw [iF ho];exact eS _
   rw [iF k6,iF k6]
   by_cases k9:k=9
   ·rw [iT k9,iT k9];exact s2 f op t s n
   rw [iF k9,iF k9]
   by_cases k13:k=13
   ·rw [iT k13,iT k13];cases e with
    |nil=>exact eS _ |cons x r=>exact FD (fun f t s=>b1 f op t s) (fun f t s n=>b2 f op t s n) f t s n
   rw [iF k13,iF k13]
   by_cases k12:k=12
   ·rw [iT k12,iT k12];exact i2 f op t s n
   rw [iF k12,iF k12]
   by_cases k14:k=14\/k=15
   ·rw [iT k14,iT k14]
    by_cases ho:jQ s gs=true
    ·rw [iT ho,iT ho];exact a2 f op t s n a7 a7 (eS _)
    ·rw [iF ho,iF ho];exact eS _
   rw [iF k14,iF k14]
   by_cases k10:k=10\/k=11
   ·rw [iT k10,iT k10];exact p2 f op t s n
   rw [iF k10,iF k10];exact eS _
theorem QG(p:PR):tZ p:=H7 _ p (ab3 _)
abbrev FL(k:Nat->bA->RN)(q:List fK)(r:RN):RN:=q.foldl (fun r e=>cM r e.1 (k e.1 e.2)) r
theorem FN{k:Nat->bA->RN}{y:fK}: ∀(q:List fK) (r:RN),y∈(FL k q r).ends↔y∈r.ends\/ ∃e,e∈q/\ ∃z,z∈(k e.1 e.2).ends/\y=(e.1+z.1,z.2)
 | [],r=>by simp |x::q,r=>by
  rw [FL,ae2,FN q _];have:y∈(cM r x.1 (k x.1 x.2)).ends↔y∈r.ends\/ ∃z,z∈(k x.1 x.2).ends/\y=(x.1+z.1,z.2):=nY _ _;rw [this];constructor
  ·rintro ((h|h)|⟨e,he,h⟩)
   ·exact .inl h
   ·exact .inr ⟨x,aa5 ..,h⟩
   ·exact .inr ⟨e,ab9 _ he,h⟩
  ·rintro (h|⟨e,he,h⟩)
   ·exact .inl (.inl h)
   ·rcases ab6.1 he with rfl|he
    ·exact .inl (.inr h)
    ·exact .inr ⟨e,he,h⟩
theorem then_eq(first:RN)(k:Nat->bA->RN):fW first k=FL k first.ends ⟨first.reach,[],first.miss⟩:=rfl
theorem kE{r:RN}{n:Nat}{x:bA}:x∈cI r n↔(n,x)∈r.ends:=by
 unfold cI;simp only [List.mem_map,aj0,dT];constructor
 ·rintro ⟨⟨a,b⟩,⟨h1,h2⟩,rfl⟩;simp only at h2;subst h2;exact h1
 ·intro h;exact ⟨_,⟨h,rfl⟩,rfl⟩
def jO(b:Nat->Nat):Nat->Nat
 |0=>1 |f+1=>1+jO b f*b f
mutual
def bF:PR->Nat->Nat
 |⟨k,_,_,_,_,_,gs,l⟩,f=>if k=9\/k=10\/k=11 then cW l f else if k=12\/k=14\/k=15 then 1+dO gs f else if k=13 then jO (fun f'=>IL l f') f else 1
def cW:List PR->Nat->Nat
 | [],_=>1 |p::r,f=>bF p f*cW r f
def IL:List PR->Nat->Nat
 | [],_=>1 |p::_,f=>bF p f
def gW:List PR->Nat->Nat
 | [],_=>0 |p::r,f=>bF p f+gW r f
def dO:List GD->Nat->Nat
 | [],_=>0 |⟨_,_,_,_,_,_,b⟩::r,f=>gW b f+dO r f
end
theorem gL(k c v it:Int)(to:List PL)(e:List KE)(gs:List GD)(l:List PR)(f:Nat):bF ⟨k,c,v,it,to,e,gs,l⟩ f=if k=9\/k=10\/k=11 then cW l f else if k=12\/k=14\/k=15 then 1+dO gs f else if k=13 then jO (fun f'=>IL l f') f else 1:=by rw [bF]
theorem vU(l:List fK)(x:fK):(fF l x).length<=l.length+1:=by
 unfold fF;split
 ·omega
 ·rw [aa1];exact ab3 _
theorem qL{n:Nat}: ∀(q l:List fK),(q.foldl (fun l e=>fF l (n+e.1,e.2)) l).length<=l.length+q.length
 | [],l=>ab3 _ |e::q,l=>by rw [ae2,ab7];have:=qL (n:=n) q (fF l (n+e.1,e.2));have:=vU l (n+e.1,e.2);omega
theorem qA(r:RN)(n:Nat)(q:RN):(cM r n q).ends.length<=r.ends.length+q.ends.length:=qL _ _
theorem JQ{k:Nat->bA->RN}{b:Nat}: ∀(q:List fK) (r:RN),(∀e,e∈q->(k e.1 e.2).ends.length<=b)->(FL k q r).ends.length<=r.ends.length+q.length*b
 | [],r,_=>by simp |e::q,r,h=>by rw [FL,ae2,ab7,am0];have h1:=JQ (k:=k) (b:=b) q (cM r e.1 (k e.1 e.2)) fun x hx=>h x (.tail _ hx);have h2:=qA r e.1 (k e.1 e.2);have h3:=h e (.head _);unfold FL at h1;omega
theorem xI{first:RN}{k:Nat->bA->RN}{a b:Nat}(h:first.ends.length<=a)(hk: ∀e,e∈first.ends->(k e.1 e.2).ends.length<=b):(fW first k).ends.length<=a*b:=by
 have:=JQ (k:=k) (b:=b) first.ends ⟨first.reach,[],first.miss⟩ hk
 rw [then_eq];have h2:first.ends.length*b<=a*b:=af7 _ h
 simp only [af5] at this;omega
theorem GY{cond:bA->Option Int}{body:Nat->TR->bA->RN}{b:Nat->Nat}(hb: ∀f t s,(body f t s).ends.length<=b f): ∀(f:Nat) (t:TR) (s:bA),(fQ cond body f t s).ends.length<=jO b f
 |0,t,s=>by
  rw [fQ,jO];cases cond s with
  |none=>exact aa4 _ |some v=>
   simp only;split
   ·exact ab3 _
   ·exact aa4 _
 |f+1,t,s=>by
  rw [fQ,jO];cases cond s with
  |none=>exact aa4 _ |some v=>
   simp only;split
   ·exact aj4 _ _
   ·have:=xI (first:=body f t s) (k:=fun n s'=>fW (fQ cond body f (t.drop n) s') fun _ s''=>fM s'') (b:=jO b f*1) (hb f t s) fun e _=>xI (GY hb f (t.drop e.1) e.2) fun _ _=>ab3 _;rw [Nat.mul_one,Nat.mul_comm] at this;omega
def dA:List Nat->Nat
 | []=>1 |x::r=>x*dA r
theorem qX: ∀{a b:List Nat},a.length=b.length->(∀(i:Nat) x y,a[i]? =some x->b[i]? =some y->x<=y)->dA a<=dA b
 | [],[],_,_=>ab3 _ |x::a,y::b,hl,h=>al2 (h 0 x y T T) (qX (by simpa using hl) fun i u v hu hv=>h (i+1) u v hu hv)
 | [],_::_,h,_=>by simp at h |_::_,[],h,_=>by simp at h
theorem KS: ∀{a b c:List Nat},a.length=c.length->b.length=c.length->(∀(i:Nat) x y z,a[i]? =some x->b[i]? =some y->c[i]? =some z->x<=z/\y<=z)->(∃(i:Nat) (x y z:Nat),a[i]? =some x/\b[i]? =some y/\c[i]? =some z/\x+y<=z)->dA a+dA b<=dA c
 | [],[],[],_,_,_,⟨i,_,_,_,h,_⟩=>by simp at h |x::a,y::b,z::c,h1,h2,h,⟨0,x',y',z',e1,e2,e3,e4⟩=>by
  injection e1 with e1;injection e2 with e2;injection e3 with e3;subst e1;subst e2;subst e3;have ha:dA a<=dA c:=qX (by simpa using h1) fun i u w hu hw=>by
   have hi:i<b.length:=by simp at h1 h2;have:=(aa8.1 hu).1;omega
   exact (h (i+1) u b[i] w hu (aa7 hi) hw).1
  have hb:dA b<=dA c:=qX (by simpa using h2) fun i u w hu hw=>by
   have hi:i<a.length:=by simp at h1 h2;have:=(aa8.1 hu).1;omega
   exact (h (i+1) a[i] u w (aa7 hi) hu hw).2
  show x*dA a+y*dA b<=z*dA c;have h5:x*dA a<=x*dA c:=as5 _ ha;have h6:y*dA b<=y*dA c:=as5 _ hb;have h7:(x+y)*dA c<=z*dA c:=af7 _ e4;rw [Nat.add_mul] at h7;omega
 |x::a,y::b,z::c,h1,h2,h,⟨i+1,x',y',z',e1,e2,e3,e4⟩=>by have ih:=KS (a:=a) (b:=b) (c:=c) (by simpa using h1) (by simpa using h2) (fun j u v w hu hv hw=>h (j+1) u v w hu hv hw) ⟨i,x',y',z',e1,e2,e3,e4⟩;obtain ⟨k1,k2⟩:=h 0 x y z rfl rfl rfl;show x*dA a+y*dA b<=z*dA c;have h5:x*dA a<=z*dA a:=af7 _ k1;have h6:y*dA b<=z*dA b:=af7 _ k2;have h7:z*(dA a+dA b)<=z*dA c:=as5 _ ih;rw [Nat.mul_add] at h7;omega
 | [],_::_,_,h1,h2,_,_=>by simp at h1 h2;omega |_::_,[],_,h1,h2,_,_=>by simp at h1 h2;omega
 | [],[],_::_,h1,_,_,_=>by simp at h1 |_::_,_::_,[],h1,_,_,_=>by simp at h1
theorem mA{m:Nat}: ∀(xs:List bA) (l:List fK),(iH m xs l).length<=l.length+xs.length
 | [],l=>ab3 _ |x::xs,l=>by have h1:=mA (m:=m) xs (fF l (m,x));have h2:=vU l (m,x);unfold iH at h1⊢;rw [ae2,ab7];omega
theorem qD{s:bA}: ∀(bs:List (List bA)) (out:bA),(dD s bs out).length=dA (bs.map List.length)
 | [],out=>rfl |b::r,out=>by
  rw [dD,List.length_flatMap,af6];show _=b.length*dA _;have:(b.map fun x=>(dD s r (fX s out x)).length)=b.map fun _=>dA (r.map List.length):=as4 fun x _=>qD r _;rw [this]
  induction b with
  |nil=>simp |cons y b ih=>
   rw [af6,List.sum_cons,ab7,am0];have:=ih (as4 fun x _=>qD r _);rw [this];omega
def kX(r:RN)(n:Nat):Nat:=(r.ends.filter fun e=>decide (n<=e.1)).length
theorem CF(r:RN)(n:Nat):(cI r n).length+kX r (n+1)=kX r n:=by
 unfold cI kX;rw [aa0]
 induction r.ends with
 |nil=>rfl |cons e l ih=>
  simp only [aj2]
  by_cases h1:e.1=n
  ·rw [iT (by simpa using h1),iF (by simp;omega),iT (by simp;omega),ab7,ab7];omega
  ·by_cases h2:n<=e.1
   ·rw [iF (by simpa using h1),iT (by simp;omega),iT (by simpa using h2),ab7,ab7];omega
   ·rw [iF (by simpa using h1),iF (by simp;omega),iF (by simpa using h2)];omega
theorem a0i(r:RN)(n:Nat):kX r n<=r.ends.length:=List.length_filter_le ..
theorem VT{chs:List (List Int)}{rs:List RN}{s:bA}(hl:rs.length=chs.length): ∀(t:TR) (j:Nat) (cn:List Nat) (r:RN),cn.length=chs.length->(gC chs rs s t j cn r).ends.length<=r.ends.length+dA (rs.zipWith kX cn)
 | [],j,cn,r,hc=>by
   rw [gC,dV];have h1:=mA (m:=j) (dD s (rs.zipWith cI cn) s) r.ends;rw [qD] at h1;have h2:dA ((rs.zipWith cI cn).map List.length)<=dA (rs.zipWith kX cn):=by
    refine qX (by simp) fun i x y hx hy=>?_;rw [ab5,ae1] at hx;rw [ae1] at hy;cases hr:rs[i]? with
    |none=>rw [hr] at hx;cases hx |some a=>
     cases hn:cn[i]? with
     |none=>rw [hr,hn] at hx;cases hx |some c=>
      rw [hr,hn] at hx hy;injection hx with hx;injection hy with hy;subst hx;subst hy;have:=CF a c;omega
   omega
 |e::t,j,cn,r,hc=>by
  have h1:=mA (m:=j) (dD s (rs.zipWith cI cn) s) r.ends;rw [qD] at h1;have hpt: ∀(i:Nat) x y z,((rs.zipWith cI cn).map List.length)[i]? =some x->(rs.zipWith kX (gA chs cn e.1))[i]? =some y->(rs.zipWith kX cn)[i]? =some z->x<=z/\y<=z/\((chs[i]?).map (fun (ch:List Int)=>ch.contains e.1)=some true->x+y<=z):=fun i x y z hx hy hz=>by
   rw [ab5,ae1] at hx;rw [ae1] at hy hz;cases hr:rs[i]? with
   |none=>rw [hr] at hx;cases hx |some a=>
    cases hn:cn[i]? with
    |none=>rw [hr,hn] at hx;cases hx |some c=>
     have hi:i<chs.length:=by have:=(aa8.1 hr).1;omega
     have hch:=aa7 hi;rw [hr,hn] at hx hz;rw [hr,B3 hch hn] at hy;injection hx with hx;injection hy with hy;injection hz with hz;subst hx;subst hy;subst hz;have hsp:=CF a c;rw [hch];simp only [Option.map_some,Option.some.injEq];split
     ·exact ⟨by omega,by omega,fun _=>by omega⟩
     ·rename_i hne;exact ⟨by omega,ab3 _,fun h=>absurd h hne⟩
  have hl1:((rs.zipWith cI cn).map List.length).length=(rs.zipWith kX cn).length:=by simp
  have hl2:(rs.zipWith kX (gA chs cn e.1)).length=(rs.zipWith kX cn).length:=by rw [ai6,ai6,vZ hc,hc]
  rw [gC];split
  ·rename_i hs;have ih:=VT (s:=s) hl t (j+1) (gA chs cn e.1) (fC s rs cn j r) (vZ hc);rw [dV] at ih;have hsome: ∃(i:Nat) (ch:List Int),chs[i]? =some ch/\ch.contains e.1=true:=by
    unfold eE at hs;rw [aa3,at2] at hs;obtain ⟨⟨ch,hch,hce⟩,_⟩:=hs;obtain ⟨i,hi,rfl⟩:=ah7 hch;exact ⟨i,_,aa7 hi,hce⟩
   obtain ⟨i,ch,hch,hce⟩:=hsome;have hi:i<chs.length:=(aa8.1 hch).1;have h2:dA ((rs.zipWith cI cn).map List.length)+dA (rs.zipWith kX (gA chs cn e.1))<=dA (rs.zipWith kX cn):=by
    refine KS hl1 hl2 (fun i x y z hx hy hz=>⟨(hpt i x y z hx hy hz).1,(hpt i x y z hx hy hz).2.1⟩) ?_;have hr:i<rs.length:=by omega
    have hn:i<cn.length:=by omega
    have ex:((rs.zipWith cI cn).map List.length)[i]? =some (cI rs[i] cn[i]).length:=by rw [ab5,ae1,aa7 hr,aa7 hn];rfl
    have ey:(rs.zipWith kX (gA chs cn e.1))[i]? =some (kX rs[i] (if ch.contains e.1 then cn[i]+1 else cn[i])):=by rw [ae1,aa7 hr,B3 hch (aa7 hn)]
    have ez:(rs.zipWith kX cn)[i]? =some (kX rs[i] cn[i]):=by rw [ae1,aa7 hr,aa7 hn]
    exact ⟨i,_,_,_,ex,ey,ez,(hpt i _ _ _ ex ey ez).2.2 (by rw [hch];simpa using hce)⟩
   omega
  ·rw [dV];have h2:dA ((rs.zipWith cI cn).map List.length)<=dA (rs.zipWith kX cn):=by
    refine qX hl1 fun i x z hx hz=>?_;have hi:i<(rs.zipWith kX (gA chs cn e.1)).length:=by rw [hl2];exact (aa8.1 hz).1
    exact (hpt i x _ z hx (aa7 hi) hz).1
   omega
theorem a0G{chs:List (List Int)}{rs:List RN}{t:TR}{s:bA}(hl:rs.length=chs.length):(qW chs rs t s).ends.length<=dA (rs.map fun r=>r.ends.length):=by
 have h1:=VT (s:=s) hl t 0 (chs.map fun _=>0) ⟨0,[],rs.any (·.miss)⟩ (by rw [aa0]);refine ae9 h1 ?_;simp only [af5,ag9];refine qX (by simp [hl]) fun i x y hx hy=>?_;rw [ae1] at hx;rw [ab5] at hy;cases hr:rs[i]? with
 |none=>rw [hr] at hx;cases hx |some a=>
  cases hn:(chs.map fun _=>0)[i]? with
  |none=>rw [hr,hn] at hx;cases hx |some c=>
   rw [hr,hn] at hx;rw [hr] at hy;injection hx with hx;injection hy with hy;subst hx;subst hy;exact a0i _ _
abbrev GZ(p:PR):Prop:= ∀f op t s,(cG f op t s p).ends.length<=bF p f
theorem uJ{b:Nat->Nat}: ∀f,1<=jO b f
 |0=>ab3 _ |f+1=>aj4 _ _
theorem a0t{l:List PR}(h: ∀x,x∈l->GZ x): ∀f op t s,(bD f op t s l).ends.length<=IL l f:=by
 intro f op t s;cases l with
 |nil=>rw [bD];exact aa4 _ |cons p r=>rw [bD,IL];exact h p (.head _) f op t s
theorem PH{l:List PR}(h: ∀x,x∈l->GZ x): ∀f op t s,(bB f op t s l).ends.length<=cW l f:=by
 induction l with
 |nil=>intro f op t s;rw [bB,cW];exact ab3 _ |cons p r ih=>
  intro f op t s;rw [bB,cW];exact xI (h p (.head _) f op t s) fun e _=>ih (fun x hx=>h x (.tail _ hx)) f op (t.drop e.1) e.2
theorem OM(f:Nat): ∀(l:List PR) {op:List Int} {t:TR} {s:bA},(∀x,x∈l->GZ x)->(bD f op t s l).ends.length<=gW l f
 | [],op,t,s,_=>by rw [bD];exact aa4 _ |p::r,op,t,s,h=>by rw [bD,gW];have:=h p (.head _) f op t s;omega
theorem len_if{gs:List GD}(h: ∀g,g∈gs-> ∀x,x∈g.body->GZ x): ∀f op t s,(rJ f op t s gs).ends.length<=dO gs f:=by
 induction gs with
 |nil=>intro f op t s;rw [rJ];exact aa4 _ |cons g r ih=>
  intro f op t s;have hb:=OM f g.body (op:=op) (t:=t) (s:=s) (h g (.head _));have hi:=ih (fun x hx=>h x (.tail _ hx)) f op t s;obtain ⟨k,cd,c,it,to,tm,b⟩:=g;rw [rJ,dO];cases bH s cd with
  |none=>exact aa4 _ |some v=>
   simp only;split
   ·omega
   ·have:=qA a7 0 (bD f op t s b);have e:a7.ends.length=0:=rfl;have hb:(bD f op t s b).ends.length<=gW b f:=hb;omega
theorem a0s{gs:List GD}(h: ∀g,g∈gs-> ∀x,x∈g.body->GZ x): ∀f op t s acc,(iW f op t s gs acc).ends.length<=acc.ends.length+dO gs f:=by
 induction gs with
 |nil=>intro f op t s acc;rw [iW];exact aj4 _ _ |cons g r ih=>
  intro f op t s acc;have hb:=fun t s=>OM f g.body (op:=op) (t:=t) (s:=s) (h g (.head _));have hi:=ih (fun x hx=>h x (.tail _ hx)) f op t s;obtain ⟨k,cd,c,it,to,tm,b⟩:=g;have hb: ∀t s,(bD f op t s b).ends.length<=gW b f:=hb;rw [iW,dO];split
  ·have:=hi acc;omega
  ·split
   ·cases cU op t c it to s with
    |none=>have:=hi acc;simp only;omega |some s'=>
     have h1:=hi (cM acc 1 (bD f op (t.drop 1) s' b));have h2:=qA acc 1 (bD f op (t.drop 1) s' b);have h3:=hb (t.drop 1) s';simp only;omega
   ·have h1:=hi (cM acc 0 (bD f op t s b));have h2:=qA acc 0 (bD f op t s b);have h3:=hb t s;omega
theorem wX{f:Nat}: ∀{l:List PR} {rs:List RN},rs.length=l.length->(∀(i:Nat) p r,l[i]? =some p->rs[i]? =some r->r.ends.length<=bF p f)->dA (rs.map fun r=>r.ends.length)<=cW l f
 | [],[],_,_=>by rw [cW];exact ab3 _ |p::l,r::rs,hl,h=>by rw [cW];exact al2 (h 0 p r T T) (wX (by simpa using hl) fun i a b ha hb=>h (i+1) a b ha hb)
 | [],_::_,h,_=>by simp at h |_::_,[],h,_=>by simp at h
theorem yK: ∀(m:Nat) (p:PR),SizeOf.sizeOf p<=m->GZ p
 |0,p,h=>by obtain ⟨k,c,v,i,to,e,gs,l⟩:=p;simp only [PR.mk.sizeOf_spec] at h;omega
 |m+1,p,hm=>by
  have hl: ∀x,x∈p.l->GZ x:=fun x hx=>yK m x (by have:=mO hx;omega);have hg: ∀g,g∈p.gs-> ∀x,x∈g.body->GZ x:=fun g hg x hx=>yK m x (by have:=nX hg hx;omega);have s1:=PH hl;have b1:=a0t hl;have i1:=len_if hg;have a1:=a0s hg;obtain ⟨k,c,v,it,to,e,gs,l⟩:=p;intro f op t s;have s1: ∀f op t s,(bB f op t s l).ends.length<=cW l f:=s1;have b1: ∀f op t s,(bD f op t s l).ends.length<=IL l f:=b1;have i1: ∀f op t s,(rJ f op t s gs).ends.length<=dO gs f:=i1;have a1: ∀f op t s acc,(iW f op t s gs acc).ends.length<=acc.ends.length+dO gs f:=a1;have one: ∀s':bA,(fM s').ends.length=1:=fun _=>rfl;have oneJ: ∀s':bA,(cM a7 1 (fM s')).ends.length<=1:=fun s'=>qA a7 1 (fM s');have none':a7.ends.length=0:=rfl;rw [cX,gL]
  by_cases k1:k=1
  ·rw [iT k1,iF (by omega),iF (by omega),iF (by omega)];exact ab3 _
  rw [iF k1]
  by_cases k3:k=3
  ·rw [iT k3,iF (by omega),iF (by omega),iF (by omega)];exact ab3 _
  rw [iF k3]
  by_cases k4:k=4
  ·rw [iT k4,iF (by omega),iF (by omega),iF (by omega)];cases iN s to e s with
   |none=>exact aa4 _ |some s'=>exact ab3 _
  rw [iF k4]
  by_cases k5:k=5
  ·rw [iT k5,iF (by omega),iF (by omega),iF (by omega)];cases to with
   |nil=>exact aa4 _ |cons q r=>
    simp only;cases cU op t c it q s with
    |none=>exact aa4 _ |some s'=>exact oneJ s'
  rw [iF k5]
  by_cases k6:k=6
  ·rw [iT k6,iF (by omega),iF (by omega),iF (by omega)];cases e with
   |nil=>exact aa4 _ |cons x r=>
    simp only
    by_cases ho:fT op t c x s=true
    ·rw [iT ho];exact oneJ s
    ·rw [iF ho];exact aa4 _
  rw [iF k6]
  by_cases k9:k=9
  ·rw [iT k9,iT (.inl k9)];exact s1 f op t s
  rw [iF k9]
  by_cases k13:k=13
  ·rw [iT k13,iF (by omega),iF (by omega),iT k13];cases e with
   |nil=>exact aa4 _ |cons x r=>exact GY (fun f t s=>b1 f op t s) f t s
  rw [iF k13]
  by_cases k12:k=12
  ·rw [iT k12,iF (by omega),iT (.inl k12)];have:=i1 f op t s;omega
  rw [iF k12]
  by_cases k14:k=14\/k=15
  ·rw [iT k14,show (if k=9\/k=10\/k=11 then cW l f else if k=12\/k=14\/k=15 then 1+dO gs f else if k=13 then jO (fun f'=>IL l f') f else 1)=1+dO gs f by rw [iF (by omega),iT (.inr k14)]]
   by_cases ho:jQ s gs=true
   ·rw [iT ho];have:=a1 f op t s a7;omega
   ·rw [iF ho];exact aa4 _
  rw [iF k14]
  by_cases k10:k=10\/k=11
  ·rw [iT k10,iT (.inr k10)];refine ae9 (a0G (by rw [mW,aa0])) (wX (by rw [mW]) fun i p r hp hr=>?_);rw [rP,hp] at hr;injection hr with hr;subst hr;exact hl p (aa2 hp) f _ _ s
  rw [iF k10];exact aa4 _
theorem tI(p:PR):GZ p:=yK _ p (ab3 _)
abbrev vS(a b:List Int):Prop:= ∀c,c∈a↔c∈b
theorem V8{a b:List Int}(h:vS a b)(t:TR)(c it:Int)(to:PL)(s:bA):cU a t c it to s=cU b t c it to s:=by
 unfold cU;cases fU s to.v to.ix with
 |none=>rfl |some q=>
  cases t with
  |nil=>rfl |cons e r=>simp only [h c]
theorem out_op{a b:List Int}(h:vS a b)(t:TR)(c:Int)(e:KE)(s:bA):fT a t c e s=fT b t c e s:=by
 unfold fT;cases bH s e with
 |none=>rfl |some x=>simp only [h c]
theorem KB{op:List Int}{all:List (List Int)}{i:Nat}{c:Int}:c∈gB op all i↔c∈op\/ ∃(j:Nat) (ch:List Int),j≠i/\all[j]? =some ch/\c∈ch:=by
 unfold gB;simp only [ad8,List.mem_flatten];constructor
 ·rintro (h|⟨ch,hch,hc⟩|⟨ch,hch,hc⟩)
  ·exact .inl h
  ·obtain ⟨j,hj,rfl⟩:=ah7 hch;rw [ac1] at hj;exact .inr ⟨j,_,by omega,by rw [List.getElem_take];exact aa7 (by omega),hc⟩
  ·obtain ⟨j,hj,rfl⟩:=ah7 hch;rw [ad7] at hj;exact .inr ⟨i+1+j,_,by omega,by rw [List.getElem_drop];exact aa7 (by omega),hc⟩
 ·rintro (h|⟨j,ch,hj,hch,hc⟩)
  ·exact .inl h
  ·rcases Nat.lt_or_ge j i with hji|hji
   ·refine .inr (.inl ⟨ch,?_,hc⟩);refine aa2 (i:=j) ?_;rw [List.getElem?_take,iT hji];exact hch
   ·refine .inr (.inr ⟨ch,?_,hc⟩);refine aa2 (i:=j-(i+1)) ?_;rw [List.getElem?_drop,show i+1+(j-(i+1))=j by omega];exact hch
theorem SN{a b:List Int}(h:vS a b)(all:List (List Int))(i:Nat):vS (gB a all i) (gB b all i):=fun c=>by rw [KB,KB,h c]
abbrev OpP(p:PR):Prop:= ∀f a b t s,vS a b->cG f a t s p=cG f b t s p
theorem NI{l:List PR}(h: ∀x,x∈l->OpP x): ∀f a b t s,vS a b->bD f a t s l=bD f b t s l:=by
 intro f a b t s ho;cases l with
 |nil=>rw [bD,bD] |cons p r=>rw [bD,bD];exact h p (.head _) f a b t s ho
theorem op_seq{l:List PR}(h: ∀x,x∈l->OpP x): ∀f a b t s,vS a b->bB f a t s l=bB f b t s l:=by
 induction l with
 |nil=>intro f a b t s _;rw [bB,bB] |cons p r ih=>
  intro f a b t s ho;rw [bB,bB,h p (.head _) f a b t s ho];congr 1;funext n s';exact ih (fun x hx=>h x (.tail _ hx)) f a b (t.drop n) s' ho
theorem op_if{gs:List GD}(h: ∀g,g∈gs-> ∀x,x∈g.body->OpP x): ∀f a b t s,vS a b->rJ f a t s gs=rJ f b t s gs:=by
 induction gs with
 |nil=>intro f a b t s _;rw [rJ,rJ] |cons g r ih=>
  intro f a b t s ho;have hb:=NI (h g (.head _)) f a b t s ho;have hi:=ih (fun x hx=>h x (.tail _ hx)) f a b t s ho;obtain ⟨k,cd,c,it,to,tm,bd⟩:=g;have hb:bD f a t s bd=bD f b t s bd:=hb;rw [rJ,rJ,hi,hb]
theorem op_alt{gs:List GD}(h: ∀g,g∈gs-> ∀x,x∈g.body->OpP x): ∀f a b t s acc,vS a b->iW f a t s gs acc=iW f b t s gs acc:=by
 induction gs with
 |nil=>intro f a b t s acc _;rw [iW,iW] |cons g r ih=>
  intro f a b t s acc ho;have hb:=fun t s=>NI (h g (.head _)) f a b t s ho;have hi:=fun acc=>ih (fun x hx=>h x (.tail _ hx)) f a b t s acc ho;obtain ⟨k,cd,c,it,to,tm,bd⟩:=g;have hb: ∀t s,bD f a t s bd=bD f b t s bd:=hb;rw [iW,iW,V8 ho,hi,hb];split
  ·rfl
  ·split
   ·cases cU b t c it to s with
    |none=>rfl |some s'=>simp only [hb,hi]
   ·rw [hi]
theorem E8{f:Nat}{a b:List Int}{all all':List (List Int)}{t:TR}{s:bA}: ∀(l:List PR) (i:Nat),(∀(j:Nat) p,l[j]? =some p->cG f (gB a all (i+j)) (bX t ((all[i+j]?).getD [])) s p=cG f (gB b all' (i+j)) (bX t ((all'[i+j]?).getD [])) s p)->hJ f a all i t s l=hJ f b all' i t s l
 | [],i,_=>by rw [hJ,hJ] |p::r,i,h=>by
  have h0:=h 0 p T;rw [Nat.add_zero] at h0;have e:=E8 (f:=f) (a:=a) (b:=b) (all:=all) (all':=all') (t:=t) (s:=s) r (i+1) fun j q hq=>by have:=h (j+1) q hq;rw [show i+(j+1)=i+1+j by omega] at this;exact this
  rw [hJ,hJ,h0,e]
theorem DA: ∀(m:Nat) (p:PR),SizeOf.sizeOf p<=m->OpP p
 |0,p,h=>by obtain ⟨k,c,v,i,to,e,gs,l⟩:=p;simp only [PR.mk.sizeOf_spec] at h;omega
 |m+1,p,hm=>by
  have hl: ∀x,x∈p.l->OpP x:=fun x hx=>DA m x (by have:=mO hx;omega);have hg: ∀g,g∈p.gs-> ∀x,x∈g.body->OpP x:=fun g hg x hx=>DA m x (by have:=nX hg hx;omega);have s1:=op_seq hl;have b1:=NI hl;have i1:=op_if hg;have a1:=op_alt hg;obtain ⟨k,c,v,it,to,e,gs,l⟩:=p;intro f a b t s ho;have s1:bB f a t s l=bB f b t s l:=s1 f a b t s ho;have b1: ∀f t s,bD f a t s l=bD f b t s l:=fun f t s=>b1 f a b t s ho;have i1:rJ f a t s gs=rJ f b t s gs:=i1 f a b t s ho;have a1:iW f a t s gs a7=iW f b t s gs a7:=a1 f a b t s a7 ho;have p1:hJ f a (l.map aB) 0 t s l=hJ f b (l.map aB) 0 t s l:=E8 l 0 fun j q hq=>hl q (aa2 hq) f _ _ _ s (SN ho _ _);rw [cX,cX,s1,i1,a1,p1];have hin: ∀q:PL,cU a t c it q s=cU b t c it q s:=fun q=>V8 ho t c it q s;have hout: ∀x:KE,fT a t c x s=fT b t c x s:=fun x=>out_op ho t c x s;have hbod:(fun f' t' s'=>bD f' a t' s' l)=fun f' t' s'=>bD f' b t' s' l:=by funext f' t' s';exact b1 f' t' s'
  simp only [hin,hout,hbod]
theorem NJ(p:PR):OpP p:=DA _ p (ab3 _)
theorem zH: ∀(q l:List fK),(∀e,e∈q->e∉l)->q.Nodup->q.foldl (fun l e=>fF l (0+e.1,e.2)) l=l++q
 | [],l,_,_=>by simp |e::q,l,h,hn=>by
  obtain ⟨h1,h2⟩:=aj1.1 hn;have e0:(0+e.1,e.2)=e:=by rw [ag9]
  have e1:fF l e=l++[e]:=by unfold fF;rw [iF (h e (.head _))]
  rw [ae2,e0,e1,zH q (l++[e]) (fun x hx=>by
   rw [ad8,ab0];rintro (hl|rfl)
   ·exact h x (.tail _ hx) hl
   ·exact h1 hx) h2,List.append_assoc];rfl
theorem join_self{q:RN}{m:Nat}(h:lJ q m):cM a7 0 q=q:=by obtain ⟨r,l,ms⟩:=q;unfold cM;have:=zH l [] (fun e _=>List.not_mem_nil) h.nod;show RN.mk (max 0 (0+r)) (l.foldl _ []) (false||ms)=_;rw [this];simp
end Go.Proofs.YtenkjmjejhhdjaaGreat
namespace Go.Proofs.YtenkjmjejhhdjaaGreat
section
variable{S:Type}
end
section
variable{S:Type}
end
end Go.Proofs.YtenkjmjejhhdjaaGreat
namespace Go.Proofs.YtenkjmjejhhdjaaGreat
open Go Go.Tp
abbrev kQ(a b:Int):AV:= .ag [AI a,AI b]
theorem xD(n:Nat)(a b:Int):Pure prog aU 176 [AI (n:Int),kQ a b] (AB (wL n a b)):=by
 refine P_ func176 15 fun _ _ _ _=>?_
 (refine b_ fun bx=>?_;refine y_ ?_)
 refine A.df T T T T T T T T (by decide) (by decide) ?_;refine y_ ?_
 ((fail_if_success (refine A.lit? T ?_));refine A.gS T (fun hc=>?_) (fun hc=>?_))
 ·refine y_ ?_;refine A.df T T T T T T T T (by decide) (by decide) ?_;refine y_ ?_;refine R_ ?_;refine Sb.eq (aA ?_);rw [wL,hc];rfl
 ·refine y_ ?_;refine R_ ?_;refine Sb.eq (aA ?_);rw [wL,hc];rfl
theorem kB(p:PR)(ch v:Bool)(t1 t2 e1 e2 g1 g2 l1 l2:Int):Pure prog aU 152 [aE p,AB ch,AB v,kQ t1 t2,kQ e1 e2,kQ g1 g2,kQ l1 l2] (AB (aY p ch v t1 t2 e1 e2 g1 g2 l1 l2)):=by
 have s1:=xD p.to.length t1 t2;have s2:=xD p.e.length e1 e2;have s3:=xD p.gs.length g1 g2;have s4:=xD p.l.length l1 l2;have n1:((p.to.map gZ).length:Int)=p.to.length:=by rw [aa0]
 have n2:((bK p.e).length:Int)=p.e.length:=by rw [bG]
 have n3:((cA p.gs).length:Int)=p.gs.length:=by rw [cL]
 have n4:((aS p.l).length:Int)=p.l.length:=by rw [bP]
 rw [<-n1] at s1;rw [<-n2] at s2;rw [<-n3] at s3;rw [<-n4] at s4;unfold aY;generalize wL p.to.length t1 t2=b1 at s1⊢;generalize wL p.e.length e1 e2=b2 at s2⊢;generalize wL p.gs.length g1 g2=b3 at s3⊢;generalize wL p.l.length l1 l2=b4 at s4⊢;cases ch<;>cases v
 all_goals refine P_ func152 67 fun _ _ _ _=>?_
 all_goals (repeat' first|first|refine A.s T ?_|refine A.r T T ?_|refine A.w T T ?_|refine A.p T ?_|refine A.b T fun bx=>?_|refine A.t T fun bl=>?_|refine A.c T s1 .refl ?_|refine A.c T s2 .refl ?_|refine A.c T s3 .refl ?_|refine A.c T s4 .refl ?_|((fail_if_success (refine A.lit? T ?_));refine A.gS T (fun hc=>?_) (fun hc=>?_))|((fail_if_success (refine A.bu? T ?_));refine A.eo T (fun hc=>?_) (fun hc=>?_)))
 (all_goals (refine R_ ?_;refine Sb.eq (aA ?_)))
 all_goals simp_all
theorem U1(l:List KV)(ch:List Int)(x:Nat->AV)(lf:Int)(c item no:Int):Pure prog aU 156 [EK l ch x lf,AI c,cC item,AI no] (AB (nR ch.length c item no)):=by
 have hp:=HM item;have hn:((ch.map cC).length:Int)=ch.length:=by rw [aa0]
 unfold nR;generalize lD item=b at hp⊢;refine P_ func156 38 fun _ _ _ _=>?_;(repeat' first|first|refine A.s T ?_|refine A.r T T ?_|refine A.w T T ?_|refine A.p T ?_|refine A.b T fun bx=>?_|refine A.t T fun bl=>?_|refine A.c T hp .refl ?_|((fail_if_success (refine A.lit? T ?_));refine A.gS T (fun hc=>?_) (fun hc=>?_))|((fail_if_success (refine A.bu? T ?_));refine A.eo T (fun hc=>?_) (fun hc=>?_)))
 (all_goals (refine R_ ?_;refine Sb.eq (aA ?_)))
 all_goals (rw [ac8];simp_all)
 all_goals (try intros)
 all_goals omega
theorem HY(l:List KV)(ch:List Int)(x:Nat->AV)(lf:Int)(hl:l.length<=281474976710656)(hv:mJ l)(p:PL)(hw:tU p)(k:Int):Pure prog aU 153 [EK l ch x lf,gZ p,cC k] (AB (eD l p k)):=by
 have hlen:((l.map mY).length:Int)=l.length:=by rw [aa0]
 have hxl:((bK p.ix).length:Int)=p.ix.length:=by rw [bG]
 by_cases hneg:p.v<0
 ·refine P_ func153 62 fun _ _ _ _=>?_
  (refine b_ fun bx=>?_;refine y_ ?_)
  refine d_ 26 [0,1,2,3,4,5,6,7,8,9,10,11,12,13,14,15,16,17,18,19,20,21,22,23,24,25] [] ?_;refine oH 10 T (x':=AB true) (aA (by simpa using hneg)) ?_;refine z_ ?_;refine R_ ?_;refine Sb.eq (aA ?_);rw [eD,iT (.inl hneg)]
 by_cases h1:(l.length:Int)<=p.v
 ·refine P_ func153 62 fun _ _ _ _=>?_
  (refine b_ fun bx=>?_;refine y_ ?_)
  refine d_ 26 [0,1,2,3,4,5,6,7,8,9,10,11,12,13,14,15,16,17,18,19,20,21,22,23,24,25] [] ?_;refine oH 10 T (x':=AB false) (aA (by simp;omega)) ?_;refine oH 21 T (x':=AB true) (aA (by rw [hlen];simpa using h1)) ?_;refine z_ ?_;refine R_ ?_;refine Sb.eq (aA ?_);rw [eD,iT (.inr h1)]
 refine ab4 (pU (l:=l) (i:=p.v) (by omega) (by omega)) fun y hy=>?_;have hyk:=hv y (aa2 hy);have hpb:eD l p k=(y.kind==k&&(if y.dim=0 then p.ix.length==0 else p.ix.length==1&&pE l p.ix 1)):=by rw [eD,iF (by omega),hy]
 rw [hpb];clear hpb;have hv0:(0:Int)<=p.v:=by omega
 by_cases hk:y.kind=k
 case neg=>
  refine P_ func153 62 fun _ _ _ _=>?_
  (refine b_ fun bx=>?_;refine y_ ?_)
  refine d_ 26 [0,1,2,3,4,5,6,7,8,9,10,11,12,13,14,15,16,17,18,19,20,21,22,23,24,25] [] ?_;refine oH 10 T (x':=AB false) (aA (by simp;omega)) ?_;refine oH 21 T (x':=AB false) (aA (by rw [hlen];simp;omega)) ?_;refine WA.x T hv0 (aC hy) T T ?_;refine w_ ?_;refine z_ ?_;refine e_ 34 T (x':=AB true) (aA (by simpa using hk)) ?_;refine R_ ?_;refine Sb.eq (aA ?_);simp [hk]
 subst hk
 by_cases hd:y.dim=0
 ·refine P_ func153 62 fun _ _ _ _=>?_
  (refine b_ fun bx=>?_;refine y_ ?_)
  refine d_ 26 [0,1,2,3,4,5,6,7,8,9,10,11,12,13,14,15,16,17,18,19,20,21,22,23,24,25] [] ?_;refine oH 10 T (x':=AB false) (aA (by simp;omega)) ?_;refine oH 21 T (x':=AB false) (aA (by rw [hlen];simp;omega)) ?_;refine WA.x T hv0 (aC hy) T T ?_;refine w_ ?_;refine z_ ?_;refine e_ 34 T (x':=AB false) (aA (by simp)) ?_;refine d_ 7 [0,1,2,3,4,5,6] [] ?_;refine WA.nil (l:=[]) T ?_;refine A.x T hv0 (aC hy) T T ?_;refine y_ ?_;refine e_ 45 T (x':=AB true) (aA (by simpa using hd)) ?_;refine R_ ?_;refine Sb.eq (aA ?_);rw [hxl,iT hd,ac8];simp
 ·have hfin: ∀e,p.ix=[e]->Pure prog aU 154 [EK l ch x lf,dK e,cC 1] (AB (pE l p.ix 1)):=fun e he=>by
   have:=PF l ch x lf hl hv e (sV hw e (by rw [he];exact aa5 ..)) 1 (by decide);rw [he];exact this
  by_cases hx1:p.ix.length=1
  ·obtain ⟨e,he⟩: ∃e,p.ix=[e]:=by
    match h:p.ix,hx1 with
    | [e],_=>exact ⟨e,rfl⟩
   have hf:=hfin e he;rw [aK] at hf;generalize hfb:pE l p.ix 1=fb at hf⊢;refine P_ func153 62 fun _ _ _ _=>?_
   (refine b_ fun bx=>?_;refine y_ ?_)
   refine d_ 26 [0,1,2,3,4,5,6,7,8,9,10,11,12,13,14,15,16,17,18,19,20,21,22,23,24,25] [] ?_;refine oH 10 T (x':=AB false) (aA (by simp;omega)) ?_;refine oH 21 T (x':=AB false) (aA (by rw [hlen];simp;omega)) ?_;refine WA.x T hv0 (aC hy) T T ?_;refine w_ ?_;refine z_ ?_;refine e_ 34 T (x':=AB false) (aA (by simp)) ?_;refine d_ 7 [0,1,2,3,4,5,6] [] ?_;refine WA.nil (l:=[]) T ?_;refine A.x T hv0 (aC hy) T T ?_;refine y_ ?_;refine e_ 45 T (x':=AB false) (aA (by simpa using hd)) ?_;refine e_ 54 T (x':=AB true) (aA (by rw [hxl];simp [hx1])) ?_;refine i_ T (show (bK p.ix)[(0:Int).toNat]? =some (dK e) from eW (by rw [he];rfl)) (aK e) ?_;refine c_ hf ?_;refine R_ ?_;refine Sb.eq (aA ?_);rw [iF hd,hx1];simp
  ·refine P_ func153 62 fun _ _ _ _=>?_
   (refine b_ fun bx=>?_;refine y_ ?_)
   refine d_ 26 [0,1,2,3,4,5,6,7,8,9,10,11,12,13,14,15,16,17,18,19,20,21,22,23,24,25] [] ?_;refine oH 10 T (x':=AB false) (aA (by simp;omega)) ?_;refine oH 21 T (x':=AB false) (aA (by rw [hlen];simp;omega)) ?_;refine WA.x T hv0 (aC hy) T T ?_;refine w_ ?_;refine z_ ?_;refine e_ 34 T (x':=AB false) (aA (by simp)) ?_;refine d_ 7 [0,1,2,3,4,5,6] [] ?_;refine WA.nil (l:=[]) T ?_;refine A.x T hv0 (aC hy) T T ?_;refine y_ ?_;refine e_ 45 T (x':=AB false) (aA (by simpa using hd)) ?_;refine e_ 54 T (x':=AB false) (aA (by rw [hxl];simp;omega)) ?_;refine R_ ?_;refine Sb.eq (aA ?_);rw [iF hd];simp [hx1]
theorem O7(l:List KV)(ch:List Int)(x:Nat->AV)(lf:Int)(hl:l.length<=281474976710656)(hv:mJ l)(c item:Int)(to:PL)(hw:tU to):Pure prog aU 155 [EK l ch x lf,AI c,cC item,gZ to] (AB (fO l ch.length c item to)):=by
 have hc:=U1 l ch x lf c item 1;have hp:=HY l ch x lf hl hv to hw item;unfold fO;generalize nR ch.length c item 1=b1 at hc⊢;generalize eD l to item=b2 at hp⊢;cases b1
 all_goals refine P_ func155 19 fun _ _ _ _=>?_
 all_goals (repeat' first|first|refine A.s T ?_|refine A.r T T ?_|refine A.w T T ?_|refine A.p T ?_|refine A.b T fun bx=>?_|refine A.t T fun bl=>?_|refine A.c T hc .refl ?_|refine A.c T hp .refl ?_)
 (all_goals (refine R_ ?_;refine Sb.eq (aA ?_)))
 all_goals simp_all
theorem yR(g:GD)(input timed:Bool):Pure prog aU 181 [fG g,AB input,AB timed] (AB (nE g input timed)):=by
 have n1:((bK g.time.l).length:Int)=g.time.l.length:=by rw [bG]
 have n2:((bK g.to.ix).length:Int)=g.to.ix.length:=by rw [bG]
 have hn:decide (g.time.l.length<=0)= !decide (0<((bK g.time.l).length:Int)):=by rw [n1,ac8];simp
 have hm:(g.to.ix.length==0)=(((bK g.to.ix).length:Int)==0):=by rw [n2,ac8];simp
 unfold nE EJ;rw [hn,hm];cases input<;>cases timed
 all_goals refine P_ func181 71 fun _ _ _ _=>?_
 all_goals (repeat' first|first|refine A.s T ?_|refine A.r T T ?_|refine A.w T T ?_|refine A.p T ?_|refine A.b T fun bx=>?_|refine A.t T fun bl=>?_|((fail_if_success (refine A.lit? T ?_));refine A.gS T (fun hc=>?_) (fun hc=>?_))|((fail_if_success (refine A.bu? T ?_));refine A.eo T (fun hc=>?_) (fun hc=>?_)))
 (all_goals (refine R_ ?_;refine Sb.eq (aA ?_)))
 all_goals simp_all
theorem idxG_p(f:FuncId)(c:List AV)(p:GD->Bool)(l:List GD)(hcb: ∀g,g∈l->Pure prog aU f (fG g::c) (AB (p g)))(hb:l.length<=281474976710656):
 Pure prog aU 180 [zS l, .fn f [] c] (AI (AP p l 0)):=by
 refine P_ func180 19 fun _ _ _ _=>?_;refine y_ ?_;refine A.aa 7 T (x':=AI (l.length:Nat)) (aL (by rw [cL])) ?_;refine A.af [0,1,7,8] T ?_;refine A.ae (ι:=Nat) (fun i=>(⟨[(0,zS l),(1, .fn f [] c),(7,AI (l.length:Nat)),(8,AI (i:Int))],[]⟩,[])) (fun i=>i<=l.length/\AP p l 0=AP p (l.drop i) i) (fun i=>l.length-i) 0 ⟨by omega,rfl⟩ T fun i hi ih=>?_;refine y_ ?_;refine k_ (fun hc=>?_) fun hc=>?_
 ·simp at hc;refine aX hc fun x hx=>?_;have hx1:=hcb x (aa2 hx);refine y_ ?_;refine i_ T (bZ hx) (cK x) ?_;refine A.c T hx1 oO.refl ?_;have h1:=hi.2;rw [cB hx,AP] at h1;cases hp:p x with
  |true=>
   rw [hp] at h1;refine y_ ?_;refine R_ ?_;rw [h1];exact .refl
  |false=>
   rw [hp] at h1;refine y_ ?_;refine vI 8 i ?_;refine u_ (ih (i+1) ⟨by omega,h1⟩ (by omega))
 ·simp at hc;have:i=l.length:=by omega
  subst this;refine y_ ?_;refine R_ ?_;rw [hi.2,List.drop_length];exact .refl
theorem hasG_p(f:FuncId)(c:List AV)(p:GD->Bool)(l:List GD)(hcb: ∀g,g∈l->Pure prog aU f (fG g::c) (AB (p g)))(hb:l.length<=281474976710656):
 Pure prog aU 157 [zS l, .fn f [] c] (AB (l.any p)):=by
 refine P_ func157 9 fun _ _ _ _=>?_;refine y_ ?_;refine c_ (idxG_p f c p l hcb hb) ?_;refine R_ ?_;refine Sb.eq (aA ?_);exact wK p l 0
theorem yI(l:List KV)(ch:List Int)(x:Nat->AV)(lf:Int)(hl:l.length<=281474976710656)(hv:mJ l)(e:KE)(hw:l5 e)(kind:Int)(hk:1<=kind/\kind<=3):Pure prog aU 154 [EK l ch x lf,nQ e,cC kind] (AB (kP l e kind)):=by have:=PF l ch x lf hl hv e hw kind hk;rw [aK] at this;exact this
theorem a0k(l:List KV)(ch:List Int)(x:Nat->AV)(lf:Int)(hl:l.length<=281474976710656)(hv:mJ l)(g:GD)(hw:WfG g)(choice:Bool):Pure prog aU 159 [EK l ch x lf,fG g,AB choice] (AB (fH l ch.length g choice)):=by
 have hfc:=yI l ch x lf hl hv g.cond hw.cond 3 (by decide);have hft:=yI l ch x lf hl hv g.time hw.time 1 (by decide);have hin:=O7 l ch x lf hl hv g.c g.item g.to hw.to;have p1:=yR g false false;have p2:=yR g true false;have p3:=yR g false true;have hbl:(g.body.length==1)= !(((aS g.body).length:Int) !=1):=by rw [bP,ac8];simp;omega
 unfold fH;rw [hbl];generalize kP l g.cond 3=b1 at hfc⊢;generalize kP l g.time 1=b2 at hft⊢;generalize fO l ch.length g.c g.item g.to=b3 at hin⊢;generalize nE g false false=q1 at p1⊢;generalize nE g true false=q2 at p2⊢;generalize nE g false true=q3 at p3⊢;clear hw hl hv;obtain ⟨k,e,c,i,to,t,b⟩:=g
 by_cases k1:k=1
 ·subst k1;clear hft hin p2 p3;simp only [true_or,if_true];cases choice
  all_goals refine P_ func159 56 fun _ _ _ _=>?_
  all_goals (repeat' first|first|refine A.s T ?_|refine A.r T T ?_|refine A.w T T ?_|refine A.p T ?_|refine A.b T fun bx=>?_|refine A.t T fun bl=>?_|refine A.c T hfc .refl ?_|refine A.c T p1 .refl ?_|((fail_if_success (refine A.lit? T ?_));refine A.gS T (fun hc=>?_) (fun hc=>?_))|((fail_if_success (refine A.bu? T ?_));refine A.eo T (fun hc=>?_) (fun hc=>?_)))
  (all_goals (refine R_ ?_;refine Sb.eq (aA ?_)))
  all_goals simp_all [GD.kind]
 by_cases k2:k=2
 ·subst k2;clear hft hin p2 p3;simp only [or_true,if_true];cases choice
  all_goals refine P_ func159 56 fun _ _ _ _=>?_
  all_goals (repeat' first|first|refine A.s T ?_|refine A.r T T ?_|refine A.w T T ?_|refine A.p T ?_|refine A.b T fun bx=>?_|refine A.t T fun bl=>?_|refine A.c T hfc .refl ?_|refine A.c T p1 .refl ?_|((fail_if_success (refine A.lit? T ?_));refine A.gS T (fun hc=>?_) (fun hc=>?_))|((fail_if_success (refine A.bu? T ?_));refine A.eo T (fun hc=>?_) (fun hc=>?_)))
  (all_goals (refine R_ ?_;refine Sb.eq (aA ?_)))
  all_goals simp_all [GD.kind]
 rw [iF (fun h=>h.elim k1 k2)]
 by_cases k3:k=3
 ·subst k3;clear hft p1 p3;rw [iT T];cases choice
  all_goals refine P_ func159 56 fun _ _ _ _=>?_
  all_goals (repeat' first|first|refine A.s T ?_|refine A.r T T ?_|refine A.w T T ?_|refine A.p T ?_|refine A.b T fun bx=>?_|refine A.t T fun bl=>?_|refine A.c T hfc .refl ?_|refine A.c T hin .refl ?_|refine A.c T p2 .refl ?_|((fail_if_success (refine A.lit? T ?_));refine A.gS T (fun hc=>?_) (fun hc=>?_))|((fail_if_success (refine A.bu? T ?_));refine A.eo T (fun hc=>?_) (fun hc=>?_)))
  (all_goals (refine R_ ?_;refine Sb.eq (aA ?_)))
  all_goals simp_all [GD.kind]
 rw [iF k3]
 by_cases k4:k=4
 ·subst k4;clear hin p1 p2;rw [iT T];cases choice
  all_goals refine P_ func159 56 fun _ _ _ _=>?_
  all_goals (repeat' first|first|refine A.s T ?_|refine A.r T T ?_|refine A.w T T ?_|refine A.p T ?_|refine A.b T fun bx=>?_|refine A.t T fun bl=>?_|refine A.c T hfc .refl ?_|refine A.c T hft .refl ?_|refine A.c T p3 .refl ?_|((fail_if_success (refine A.lit? T ?_));refine A.gS T (fun hc=>?_) (fun hc=>?_))|((fail_if_success (refine A.bu? T ?_));refine A.eo T (fun hc=>?_) (fun hc=>?_)))
  (all_goals (refine R_ ?_;refine Sb.eq (aA ?_)))
  all_goals simp_all [GD.kind]
 rw [iF k4,ak4];clear hft hin p1 p2 p3;refine P_ func159 56 fun _ _ _ _=>?_;(repeat' first|first|refine A.s T ?_|refine A.r T T ?_|refine A.w T T ?_|refine A.p T ?_|refine A.b T fun bx=>?_|refine A.t T fun bl=>?_|refine A.c T hfc .refl ?_|refine A.cond T (fun h=>(by simp [GD.kind] at h;omega)) (fun _=>?_)|((fail_if_success (refine A.lit? T ?_));refine A.gS T (fun hc=>?_) (fun hc=>?_))|((fail_if_success (refine A.bu? T ?_));refine A.eo T (fun hc=>?_) (fun hc=>?_)))
 (all_goals (refine R_ ?_;refine Sb.eq (aA ?_)))
 all_goals rfl
section
variable(l:List KV)(ch:List Int)
variable(hl:l.length<=281474976710656)(hv:mJ l)
def jX(f:FuncId)(p:PR):Prop:= ∀(x:Nat->AV) (lf:Int),Pure prog aU f [EK l ch x lf,aE p] (AB (bE l ch.length p))
theorem SH(p:PR)(hk:p.kind=1\/p.kind=2):jX l ch 114 p:=fun x lf=>by
 have hs:=kB p false false 0 0 0 0 0 0 0 0;have he:bE l ch.length p=aY p false false 0 0 0 0 0 0 0 0:=by rw [bE,iT hk]
 rw [he];refine P_ func114 11 fun _ _ _ _=>?_
 (refine b_ fun bx=>?_;refine y_ ?_);exact oR hs
theorem seq_p(p:PR)(hk:p.kind=9):jX l ch 121 p:=fun x lf=>by
 have hs:=kB p false false 0 0 0 0 0 0 0 2048;have he:bE l ch.length p=aY p false false 0 0 0 0 0 0 0 2048:=by simp [bE,hk]
 rw [he];refine P_ func121 11 fun _ _ _ _=>?_
 (refine b_ fun bx=>?_;refine y_ ?_);exact oR hs
theorem par_p(p:PR)(hk:p.kind=10):jX l ch 122 p:=fun x lf=>by
 have hs:=kB p false false 0 0 0 0 0 0 0 16;have he:bE l ch.length p=aY p false false 0 0 0 0 0 0 0 16:=by simp [bE,hk]
 rw [he];refine P_ func122 11 fun _ _ _ _=>?_
 (refine b_ fun bx=>?_;refine y_ ?_);exact oR hs
theorem pri_p(p:PR)(hk:p.kind=11):jX l ch 123 p:=fun x lf=>by
 have hs:=kB p false false 0 0 0 0 0 0 2 2;have he:bE l ch.length p=aY p false false 0 0 0 0 0 0 2 2:=by simp [bE,hk]
 rw [he];refine P_ func123 11 fun _ _ _ _=>?_
 (refine b_ fun bx=>?_;refine y_ ?_);exact oR hs
theorem Z0(p:PR)(hk:p.kind=3):jX l ch 115 p:=fun x lf=>by
 have hs:=kB p false true 0 0 0 0 0 0 0 0;have hlen:((l.map mY).length:Int)=l.length:=by rw [aa0]
 have he:bE l ch.length p=(aY p false true 0 0 0 0 0 0 0 0&&decide (0<=p.v)&&decide (p.v<((l.map mY).length:Int))):=by rw [hlen];simp [bE,hk]
 rw [he];generalize aY p false true 0 0 0 0 0 0 0 0=b at hs⊢;refine P_ func115 27 fun _ _ _ _=>?_
 (refine b_ fun bx=>?_;refine y_ ?_)
 refine d_ 20 [0,1,2,3,4,5,6,7,8,9,10,11,12,13,14,15,16,17,18,19] [(5,AB b)] ?_;refine rL hs ?_;refine WA.gS T (fun hc=>?_) (fun hc=>?_)
 ·refine w_ ?_;refine WA.gS T (fun hd=>?_) (fun hd=>?_)
  ·refine w_ ?_;refine z_ ?_;refine R_ ?_;refine Sb.eq (aA ?_);have hd:decide (0<=p.v)=true:=hd;rw [hc,hd];rfl
  ·refine w_ ?_;refine z_ ?_;refine R_ ?_;refine Sb.eq (aA ?_);have hd:decide (0<=p.v)=false:=hd;rw [hc,hd];rfl
 ·refine w_ ?_;refine z_ ?_;refine R_ ?_;refine Sb.eq (aA ?_);rw [hc];rfl
theorem rng11{n:Nat}(h:wL n 1 1=true):n=1:=by simp only [wL,aa3,dT] at h;omega
theorem LC{p:PR}{c v:Bool}{e1 e2 g1 g2 l1 l2:Int}(h:aY p c v 1 1 e1 e2 g1 g2 l1 l2=true): ∃t,p.to=[t]:=by
 simp only [aY,aa3] at h;have:=rng11 h.1.1.1.2
 match hh:p.to,this with
 | [t],_=>exact ⟨t,rfl⟩
theorem IB{p:PR}{c v:Bool}{t1 t2 g1 g2 l1 l2:Int}(h:aY p c v t1 t2 1 1 g1 g2 l1 l2=true): ∃t,p.e=[t]:=by
 simp only [aY,aa3] at h;have:=rng11 h.1.1.2
 match hh:p.e,this with
 | [t],_=>exact ⟨t,rfl⟩
include hl hv
theorem in16_p(p:PR)(hw:T6 p)(hk:p.kind=5):jX l ch 117 p:=fun x lf=>by
 have hs:=kB p true false 1 1 0 0 0 0 0 0;have he:bE l ch.length p=(aY p true false 1 1 0 0 0 0 0 0&&ZF (fO l ch.length p.c p.item) p.to):=by simp [bE,hk]
 rw [he];cases hb:aY p true false 1 1 0 0 0 0 0 0 with
 |false=>
  rw [hb] at hs;refine P_ func117 23 fun _ _ _ _=>?_
  (refine b_ fun bx=>?_;refine y_ ?_)
  refine d_ 16 [0,1,2,3,4,5,6,7,8,9,10,11,12,13,14,15] [(5,AB false)] ?_;refine rL hs ?_;refine z_ ?_;exact r_
 |true=>
  rw [hb] at hs;obtain ⟨t,ht⟩:=LC hb;have hin:=O7 l ch x lf hl hv p.c p.item t (hw.to t (by rw [ht];exact aa5 ..));have h1:ZF (fO l ch.length p.c p.item) p.to=fO l ch.length p.c p.item t:=by rw [ht];rfl
  rw [h1];refine P_ func117 23 fun _ _ _ _=>?_
  (refine b_ fun bx=>?_;refine y_ ?_)
  refine d_ 16 [0,1,2,3,4,5,6,7,8,9,10,11,12,13,14,15] [(5,AB true)] ?_;refine rL hs ?_;refine gX T (show (p.to.map gZ)[(0:Int).toNat]? =some (gZ t) from aC (by rw [ht];rfl)) T ?_;refine WA.nil (l:=[]) T ?_;exact oR hin
omit hl hv in
theorem out_a(p:PR)(x:Nat->AV)(lf:Int)(hs:Pure prog aU 152 [aE p,AB true,AB false,kQ 0 0,kQ 1 1,kQ 0 0,kQ 0 0] (AB false)):Pure prog aU 118 [EK l ch x lf,aE p] (AB false):=by
 refine P_ func118 29 fun _ _ _ _=>?_
 (refine b_ fun bx=>?_;refine y_ ?_)
 refine d_ 22 [0,1,2,3,4,5,6,7,8,9,10,11,12,13,14,15,16,17,18,19,20,21] [(5,AB false),(12,AB false)] ?_;refine rL hs ?_;refine z_ ?_;exact r_
omit hl hv in
theorem out_b(p:PR)(x:Nat->AV)(lf:Int)(hs:Pure prog aU 152 [aE p,AB true,AB false,kQ 0 0,kQ 1 1,kQ 0 0,kQ 0 0] (AB true))(hch:Pure prog aU 156 [EK l ch x lf,AI p.c,cC p.item,AI 0] (AB false)):
 Pure prog aU 118 [EK l ch x lf,aE p] (AB false):=by
 refine P_ func118 29 fun _ _ _ _=>?_
 (refine b_ fun bx=>?_;refine y_ ?_)
 refine d_ 22 [0,1,2,3,4,5,6,7,8,9,10,11,12,13,14,15,16,17,18,19,20,21] [(5,AB true),(12,AB false)] ?_;refine rL hs ?_;refine rL hch ?_;refine z_ ?_;exact r_
omit hl hv in
theorem out_c(p:PR)(x:Nat->AV)(lf:Int)(e:KE)(bf:Bool)(he:(bK p.e)[(0:Int).toNat]? =some (dK e))(hs:Pure prog aU 152 [aE p,AB true,AB false,kQ 0 0,kQ 1 1,kQ 0 0,kQ 0 0] (AB true))(hch:Pure prog aU 156 [EK l ch x lf,AI p.c,cC p.item,AI 0] (AB true))
 (hf:Pure prog aU 154 [EK l ch x lf,nQ e,cC p.item] (AB bf)):Pure prog aU 118 [EK l ch x lf,aE p] (AB bf):=by
 refine P_ func118 29 fun _ _ _ _=>?_
 (refine b_ fun bx=>?_;refine y_ ?_)
 refine d_ 22 [0,1,2,3,4,5,6,7,8,9,10,11,12,13,14,15,16,17,18,19,20,21] [(5,AB true),(12,AB true)] ?_;refine rL hs ?_;refine rL hch ?_;refine gX T he (aK e) ?_;refine WA.nil (l:=[]) T ?_;exact oR hf
theorem a0D(p:PR)(hw:T6 p)(hk:p.kind=6):jX l ch 118 p:=fun x lf=>by
 have hs:=kB p true false 0 0 1 1 0 0 0 0;have he:bE l ch.length p=(aY p true false 0 0 1 1 0 0 0 0&&nR ch.length p.c p.item 0&&pE l p.e p.item):=by simp [bE,hk]
 rw [he];cases hb:aY p true false 0 0 1 1 0 0 0 0 with
 |false=>rw [hb] at hs;exact out_a l ch p x lf hs |true=>
 rw [hb] at hs;obtain ⟨e,ht⟩:=IB hb;have hch:=U1 l ch x lf p.c p.item 0;have h1:pE l p.e p.item=kP l e p.item:=by rw [ht];rfl
 rw [h1];cases hc:nR ch.length p.c p.item 0 with
 |false=>rw [hc] at hch;exact out_b l ch p x lf hs hch |true=>
  rw [hc] at hch;have hpi:1<=p.item/\p.item<=3:=by simp only [nR,lD,aa3,dT] at hc;omega
  have hf:=yI l ch x lf hl hv e (hw.e e (by rw [ht];exact aa5 ..)) p.item hpi;rw [Bool.and_self,ac2];exact out_c l ch p x lf e _ (eW (by rw [ht];rfl)) hs hch hf
theorem YT(p:PR)(hw:T6 p)(hk:p.kind=7):jX l ch 119 p:=fun x lf=>by
 have hs:=kB p false false 1 1 0 0 0 0 0 0;have he:bE l ch.length p=(aY p false false 1 1 0 0 0 0 0 0&&ZF (fun t=>eD l t 1) p.to):=by simp [bE,hk]
 rw [he];cases hb:aY p false false 1 1 0 0 0 0 0 0 with
 |false=>
  rw [hb] at hs;refine P_ func119 19 fun _ _ _ _=>?_
  (refine b_ fun bx=>?_;refine y_ ?_);exact oR hs
 |true=>
  rw [hb] at hs;obtain ⟨t,ht⟩:=LC hb;have hin:=HY l ch x lf hl hv t (hw.to t (by rw [ht];exact aa5 ..)) 1;have h1:ZF (fun t=>eD l t 1) p.to=eD l t 1:=by rw [ht];rfl
  rw [h1];refine P_ func119 19 fun _ _ _ _=>?_
  (refine b_ fun bx=>?_;refine y_ ?_);refine c_ hs ?_
  refine i_ T (show (p.to.map gZ)[(0:Int).toNat]? =some (gZ t) from aC (by rw [ht];rfl)) T ?_;exact oR hin
theorem RA(p:PR)(hw:T6 p)(hk:p.kind=8):jX l ch 120 p:=fun x lf=>by
 have hs:=kB p false false 0 0 1 1 0 0 0 0;have he:bE l ch.length p=(aY p false false 0 0 1 1 0 0 0 0&&pE l p.e 1):=by simp [bE,hk]
 rw [he];cases hb:aY p false false 0 0 1 1 0 0 0 0 with
 |false=>
  rw [hb] at hs;refine P_ func120 19 fun _ _ _ _=>?_
  (refine b_ fun bx=>?_;refine y_ ?_);exact oR hs
 |true=>
  rw [hb] at hs;obtain ⟨e,ht⟩:=IB hb;have hin:=yI l ch x lf hl hv e (hw.e e (by rw [ht];exact aa5 ..)) 1 (by decide);have h1:pE l p.e 1=kP l e 1:=by rw [ht];rfl
  rw [h1];refine P_ func120 19 fun _ _ _ _=>?_
  (refine b_ fun bx=>?_;refine y_ ?_);refine c_ hs ?_
  refine i_ T (show (bK p.e)[(0:Int).toNat]? =some (dK e) from eW (by rw [ht];rfl)) (aK e) ?_;exact oR hin
theorem WV(p:PR)(hw:T6 p)(hk:p.kind=13):jX l ch 125 p:=fun x lf=>by
 have hs:=kB p false false 0 0 1 1 0 0 1 1;have he:bE l ch.length p=(aY p false false 0 0 1 1 0 0 1 1&&pE l p.e 3):=by simp [bE,hk]
 rw [he];cases hb:aY p false false 0 0 1 1 0 0 1 1 with
 |false=>
  rw [hb] at hs;refine P_ func125 19 fun _ _ _ _=>?_
  (refine b_ fun bx=>?_;refine y_ ?_);exact oR hs
 |true=>
  rw [hb] at hs;obtain ⟨e,ht⟩:=IB hb;have hin:=yI l ch x lf hl hv e (hw.e e (by rw [ht];exact aa5 ..)) 3 (by decide);have h1:pE l p.e 3=kP l e 3:=by rw [ht];rfl
  rw [h1];refine P_ func125 19 fun _ _ _ _=>?_
  (refine b_ fun bx=>?_;refine y_ ?_);refine c_ hs ?_
  refine i_ T (show (bK p.e)[(0:Int).toNat]? =some (dK e) from eW (by rw [ht];rfl)) (aK e) ?_;exact oR hin
theorem RI(x:Nat->AV)(lf:Int)(p:PR)(g:GD)(hw:WfG g):Pure prog aU 158 [fG g, .pe 1 (EK l ch x lf), .pe 8 (aE p)] (AB (!fH l ch.length g (p.kind==12))):=by
 have hg:=a0k l ch x lf hl hv g hw (p.kind==12);refine P_ func158 12 fun _ _ _ _=>?_
 (refine b_ fun bx=>?_;refine y_ ?_);exact oR hg
theorem MM(p:PR)(hw:T6 p)(hk:p.kind=12\/p.kind=14\/p.kind=15):jX l ch 124 p:=fun x lf=>by
 have hs:=kB p false false 0 0 0 0 0 16 0 0;have he:bE l ch.length p=(aY p false false 0 0 0 0 0 16 0 0&& !p.gs.any fun g=> !fH l ch.length g (p.kind==12)):=by rw [List.not_any_eq_all_not];rcases hk with hk|hk|hk<;>simp [bE,hk]
 rw [he];have hg:=hasG_p 158 [.pe 1 (EK l ch x lf), .pe 8 (aE p)] (fun g=> !fH l ch.length g (p.kind==12)) p.gs (fun g hgm=>RI l ch hl hv x lf p g (tP (hw.g g hgm))) hw.gl;cases hb:aY p false false 0 0 0 0 0 16 0 0 with
 |false=>
  rw [hb] at hs;refine P_ func124 17 fun _ _ _ _=>?_
  (refine b_ fun bx=>?_;refine b_ fun bx=>?_;refine y_ ?_);exact oR hs
 |true=>
  rw [hb] at hs;refine P_ func124 17 fun _ _ _ _=>?_
  (refine b_ fun bx=>?_;refine b_ fun bx=>?_;refine y_ ?_);refine n_ hs ?_
  refine A.freeze 2 (sz:=1) T T T ?_;refine A.freeze 3 (sz:=8) T T T ?_;refine y_ ?_;exact oR hg
end
theorem Q8{α β:Type}{a:List α}{b:List β}(h:a.length=b.length):(a.zip b).length=a.length:=by rw [List.length_zip,h,av1]
theorem LS{α β:Type}{a:List α}{b:List β}{i:Nat}{x:α}{y:β}(h1:a[i]? =some x)(h2:b[i]? =some y):(a.zip b)[i]? =some (x,y):=List.getElem?_zip_eq_some.2 ⟨h1,h2⟩
theorem kL{l:List KV}{t:PL}{e:KE}{r:List (PL×KE)}(h:dG l t e=false):((t,e)::r).all (fun te=>dG l te.1 te.2)=false:=by rw [aj8,h];rfl
theorem UG(l:List KV)(ch:List Int)(p:PR)(x:Nat->AV)(lf:Int)(hs:Pure prog aU 152 [aE p,AB false,AB false,kQ 1 8,kQ 1 8,kQ 0 0,kQ 0 0] (AB false)):Pure prog aU 116 [EK l ch x lf,aE p] (AB false):=by
 refine P_ func116 84 fun _ _ _ _=>?_
 (refine b_ fun bx=>?_;refine b_ fun bx=>?_;refine y_ ?_);exact oR hs
theorem UH(l:List KV)(ch:List Int)(p:PR)(x:Nat->AV)(lf:Int)(hs:Pure prog aU 152 [aE p,AB false,AB false,kQ 1 8,kQ 1 8,kQ 0 0,kQ 0 0] (AB true))(hle:p.to.length≠p.e.length):Pure prog aU 116 [EK l ch x lf,aE p] (AB false):=by
 have n1:((p.to.map gZ).length:Int)=p.to.length:=by rw [aa0]
 have n2:((bK p.e).length:Int)=p.e.length:=by rw [bG]
 refine P_ func116 84 fun _ _ _ _=>?_
 (refine b_ fun bx=>?_;refine b_ fun bx=>?_;refine y_ ?_);refine c_ hs ?_
 refine e_ 24 T (x':=AB true) (aA (by rw [n1,n2];simp;omega)) ?_;exact r_
theorem UI(l:List KV)(ch:List Int)(hl:l.length<=281474976710656)(hv:mJ l)(p:PR)(hw:T6 p)(x:Nat->AV)(lf:Int)(hs:Pure prog aU 152 [aE p,AB false,AB false,kQ 1 8,kQ 1 8,kQ 0 0,kQ 0 0] (AB true))(hle:p.to.length=p.e.length)(hto8:p.to.length<=8)(R:Bool)(hR:(p.to.zip p.e).all (fun te=>dG l te.1 te.2)=R):
 Pure prog aU 116 [EK l ch x lf,aE p] (AB R):=by
 have hlen:((l.map mY).length:Int)=l.length:=by rw [aa0]
 have n1:((p.to.map gZ).length:Int)=p.to.length:=by rw [aa0]
 have n2:((bK p.e).length:Int)=p.e.length:=by rw [bG]
 refine P_ func116 84 fun _ _ _ _=>?_
 (refine b_ fun bx=>?_;refine b_ fun bx=>?_;refine y_ ?_);refine c_ hs ?_
 refine e_ 24 T (x':=AB false) (aA (by rw [n1,n2];simp;omega)) ?_;refine A.aa 27 T (x':=AI (p.to.length:Nat)) (aL n1) ?_;refine l_ (Λ':=[.box _ (aE p)]) ?_;refine A.af [0,3,26,27,28] T ?_
 refine A.ae (ι:=Nat) (fun i=>(⟨[(0,EK l ch x lf),(3, .v (.pointer (some ⟨_,0,none⟩))),(26,DF p.to),(27,AI (p.to.length:Nat)),(28,AI (i:Nat))],[]⟩,[.box _ (aE p)]))
  (fun i=>i<=p.to.length/\((p.to.zip p.e).drop i).all (fun te=>dG l te.1 te.2)=R) (fun i=>p.to.length-i) 0 ⟨by omega,hR⟩ T fun i hi ih=>?_
 refine y_ ?_;refine k_ (fun hc=>?_) fun hc=>?_
 ·simp at hc;refine ab4 (bT (l:=p.to) (i:=i) (by omega)) fun t ht=>?_;refine ab4 (bT (l:=p.e) (i:=i) (by omega)) fun e hee=>?_;have hwt:=hw.to t (aa2 ht);have hwe:=hw.e e (aa2 hee);have h1:=hi.2;rw [cB (LS ht hee)] at h1
  by_cases hneg:t.v<0
  ·rw [kL (by rw [dG,iT (.inl hneg)])] at h1;refine y_ ?_;refine j_ T (aC ht) T ?_
   (refine b_ fun bx=>?_;refine y_ ?_)
   refine d_ 47 [0,1,2,3,4,5,6,7,8,9,10,11,12,13,14,15,16,17,18,19,20,21,22,23,24,25,26,27,28,29,30,31,32,33,34,35,36,37,38,39,40,41,42,43,44,45,46] [(27,AB false)] ?_;refine oH 36 T (x':=AB true) (aA (by simpa using hneg)) ?_;refine z_ ?_;refine R_ ?_;rw [<-h1];exact .refl
  by_cases hout:(l.length:Int)<=t.v
  ·rw [kL (by rw [dG,iT (.inr hout)])] at h1;refine y_ ?_;refine j_ T (aC ht) T ?_
   (refine b_ fun bx=>?_;refine y_ ?_)
   refine d_ 47 [0,1,2,3,4,5,6,7,8,9,10,11,12,13,14,15,16,17,18,19,20,21,22,23,24,25,26,27,28,29,30,31,32,33,34,35,36,37,38,39,40,41,42,43,44,45,46] [(27,AB false)] ?_;refine oH 36 T (x':=AB false) (aA (by simp;omega)) ?_;refine oH 47 T (x':=AB true) (aA (by rw [hlen];simpa using hout)) ?_;refine z_ ?_;refine R_ ?_;rw [<-h1];exact .refl
  refine ab4 (pU (l:=l) (i:=t.v) (by omega) (by omega)) fun y hy=>?_;have hyk:=hv y (aa2 hy);have hv0:(0:Int)<=t.v:=by omega
  have hab:dG l t e=(eD l t y.kind&&kP l e y.kind):=by rw [dG,iF (by omega),hy]
  have hpl:=HY l ch x lf hl hv t hwt y.kind;have hft:=yI l ch x lf hl hv e hwe y.kind hyk;generalize eD l t y.kind=b1 at hpl hab;generalize kP l e y.kind=b2 at hft hab;cases b1 with
  |false=>
   rw [kL (by rw [hab];rfl)] at h1;refine y_ ?_;refine j_ T (aC ht) T ?_
   (refine b_ fun bx=>?_;refine y_ ?_)
   refine d_ 47 [0,1,2,3,4,5,6,7,8,9,10,11,12,13,14,15,16,17,18,19,20,21,22,23,24,25,26,27,28,29,30,31,32,33,34,35,36,37,38,39,40,41,42,43,44,45,46] [(27,AB false)] ?_;refine oH 36 T (x':=AB false) (aA (by simp;omega)) ?_;refine oH 47 T (x':=AB false) (aA (by rw [hlen];simp;omega)) ?_;refine WA.x T hv0 (aC hy) T T ?_;refine w_ ?_;refine rL hpl ?_;refine z_ ?_;refine R_ ?_;rw [<-h1];exact .refl
  |true=>
   refine y_ ?_;refine j_ T (aC ht) T ?_
   (refine b_ fun bx=>?_;refine y_ ?_)
   refine d_ 47 [0,1,2,3,4,5,6,7,8,9,10,11,12,13,14,15,16,17,18,19,20,21,22,23,24,25,26,27,28,29,30,31,32,33,34,35,36,37,38,39,40,41,42,43,44,45,46] [(27,AB true)] ?_;refine oH 36 T (x':=AB false) (aA (by simp;omega)) ?_;refine oH 47 T (x':=AB false) (aA (by rw [hlen];simp;omega)) ?_;refine WA.x T hv0 (aC hy) T T ?_;refine w_ ?_;refine rL hpl ?_;refine gX T (eW hee) (aK e) ?_;refine WA.x T hv0 (aC hy) T T ?_;refine w_ ?_;refine WA.nil (l:=[]) T ?_;refine c_ hft ?_;refine A.aa 82 T (x':=AB (!b2)) (aA (by cases b2<;>rfl)) ?_;refine k_ (fun hc=>?_) fun hc=>?_
   ·have hf:b2=false:=by simpa using hc
    rw [kL (by rw [hab,hf,ak4])] at h1;refine y_ ?_;refine R_ ?_;rw [<-h1];exact .refl
   ·have hf:b2=true:=by simpa using hc
    rw [aj8] at h1;have hat:dG l t e=true:=by rw [hab,hf];rfl
    simp only [hat,ac2] at h1;refine y_ ?_;refine vI 28 i ?_;refine l_ (Λ':=[.box _ (aE p)]) ?_;refine u_ (ih (i+1) ⟨by omega,h1⟩ (by omega))
 ·simp at hc;have hil:i=p.to.length:=by omega
  have h1:=hi.2;rw [List.drop_eq_nil_of_le (by rw [Q8 hle];omega),List.all_nil] at h1;refine y_ ?_;refine R_ ?_;rw [<-h1];exact .refl
theorem L9(l:List KV)(ch:List Int)(hl:l.length<=281474976710656)(hv:mJ l)(p:PR)(hw:T6 p)(hk:p.kind=4):jX l ch 116 p:=fun x lf=>by
 have hs:=kB p false false 1 8 1 8 0 0 0 0;have he:bE l ch.length p=(aY p false false 1 8 1 8 0 0 0 0&&(p.to.length==p.e.length)&&(p.to.zip p.e).all fun te=>dG l te.1 te.2):=by simp [bE,hk]
 rw [he];cases hb:aY p false false 1 8 1 8 0 0 0 0 with
 |false=>rw [hb] at hs;rw [af3,af3];exact UG l ch p x lf hs |true=>
 rw [hb] at hs
 by_cases hle:p.to.length=p.e.length
 ·have e0:(p.to.length==p.e.length)=true:=by simpa using hle
  rw [e0,ac2,ac2];have hto8:p.to.length<=8:=by simp only [aY,wL,aa3,dT] at hb;omega
  exact UI l ch hl hv p hw x lf hs hle hto8 _ T
 ·have e0:(p.to.length==p.e.length)=false:=by simpa using hle
  rw [e0,ac2,af3];exact UH l ch p x lf hs hle
def G7(k:Int):FuncId:=if k=1\/k=2 then 114 else if k=3 then 115 else if k=4 then 116 else if k=5 then 117 else if k=6 then 118
 else if k=7 then 119 else if k=8 then 120 else if k=9 then 121 else if k=10 then 122 else if k=11 then 123 else if k=13 then 125 else 124
theorem a0q{k:Int}(h:1<=k/\k<=15):k=1\/k=2\/k=3\/k=4\/k=5\/k=6\/k=7\/k=8\/k=9\/k=10\/k=11\/k=12\/k=13\/k=14\/k=15:=by omega
theorem ML(b:Nat)(k:Int)(h:1<=k/\k<=15):Pure prog aU 80 [aT b,cC k] (.fn (G7 k) [aT b] []):=by
 rcases a0q h with rfl|rfl|rfl|rfl|rfl|rfl|rfl|rfl|rfl|rfl|rfl|rfl|rfl|rfl|rfl
 all_goals refine P_ func80 39 fun _ _ _ _=>?_
 all_goals refine y_ ?_
 all_goals refine A.makeMap T T T T fun bm=>?_
 all_goals (repeat first|first|refine A.s T ?_|refine A.r T T ?_|refine A.w T T ?_|refine A.p T ?_|refine A.b T fun bx=>?_|refine A.t T fun bl=>?_|refine A.insert T T T T T T T T T T T ?_)
 all_goals refine A.lookup T T T T T T T T T T T T ?_
 all_goals (exact tV)
theorem XP{k:Int}(h: ¬(1<=k/\k<=15)):H0 .u8 k [.int .u8 1, .int .u8 2, .int .u8 3, .int .u8 4, .int .u8 5, .int .u8 6, .int .u8 7, .int .u8 8, .int .u8 9, .int .u8 10, .int .u8 11, .int .u8 12, .int .u8 13, .int .u8 14, .int .u8 15]=some none:=by
 have e: ∀m:Int,1<=m->m<=15->(k==m)=false:=fun m h1 h2=>by rw [beq_eq_false_iff_ne];rintro rfl;exact h ⟨h1,h2⟩
 simp only [H0,decide_true,e 1 (by decide) (by decide),e 2 (by decide) (by decide),e 3 (by decide) (by decide),e 4 (by decide) (by decide),e 5 (by decide) (by decide),e 6 (by decide) (by decide),e 7 (by decide) (by decide),e 8 (by decide) (by decide),
  e 9 (by decide) (by decide),e 10 (by decide) (by decide),e 11 (by decide) (by decide),e 12 (by decide) (by decide),e 13 (by decide) (by decide),e 14 (by decide) (by decide),e 15 (by decide) (by decide)]
theorem MK(b:Nat)(k:Int)(h: ¬(1<=k/\k<=15)):Pure prog aU 80 [aT b,cC k] (.v .nilFunc):=by refine P_ func80 39 fun _ _ _ _=>?_;refine y_ ?_;refine A.makeMap T T T T fun bm=>?_;(repeat first|first|refine A.s T ?_|refine A.r T T ?_|refine A.w T T ?_|refine A.p T ?_|refine A.b T fun bx=>?_|refine A.t T fun bl=>?_|refine A.insert T T T T T T T T T T T ?_);refine A.dt (v:= .nilFunc) T T T T T T T T (by kernel_rfl) T (XP h) T T ?_;exact tV
end Go.Proofs.YtenkjmjejhhdjaaGreat
