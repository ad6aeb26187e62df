/-
  Texts Q21aj. Conditions: as each theorem says.
-/
import Derived.Test.YtafcodjilcljeaaGreatV3
import Derived.Test.YtafcodjilcljeaaGreatV9
import Derived.Test.YtafcodjilcljeaaGreatV10
set_option linter.unusedVariables false
set_option linter.unusedSimpArgs false
set_option maxRecDepth 100000
set_option maxHeartbeats 4000000
namespace Go.Proofs.YtafcodjilcljeaaGreat
open Go Go.Tp
theorem two_wf{k:KN}{p q:PR}(hk:WfN k)(hp:wfR p)(hq:wfR q):WfN (subN k (two p q)):=
 sub_wf hk (by rw [wfR,wfGl,wfRl,wfRl,wfRl,wfKl];exact ⟨⟨(fun t ht=>by cases ht),trivial,by simp⟩,trivial,hp,hq,trivial⟩)
theorem two_mem{vs:List KV}{p q:PR}{c:CL}(h:c∈clR vs [] (two p q)):c.path≠[]∨(c.path=[]∧c.a=0∧c.b=1∧1≤c.kind∧c.kind≤4):=by
 rw [clR_two] at h
 rcases List.mem_append.1 h with h|h
 ·exact .inr (bet_nil h)
 ·rcases List.mem_append.1 h with h|h
  ·exact .inl (pre_path (by simp) h)
  ·exact .inl (pre_path (by simp) h)
theorem met_step{l:List CL}{i:Nat}{x:CL}(h:l[i]? =some x)(kd:Int):metM (l.take (i+1)) kd=(metM (l.take i) kd||(x.path.isEmpty&&decide (x.kind=kd))):=by
 unfold metM
 rw [take_at h,List.any_append,List.any_cons,List.any_nil,Bool.or_false]
abbrev metL(l:List CL):List AV:=[AB false,AB (metM l 1),AB (metM l 2),AB (metM l 3),AB (metM l 4)]
theorem met_set{l:List CL}{i:Nat}{x:CL}(h:l[i]? =some x)(hp:x.path=[])(h1:1≤x.kind)(h4:x.kind≤4):(metL (l.take i)).set x.kind.toNat (AB true)=metL (l.take (i+1)):=by
 simp only [metL,met_step h,hp]
 have:x.kind=1∨x.kind=2∨x.kind=3∨x.kind=4:=by omega
 rcases this with e|e|e|e<;>rw [e]<;>simp [List.set]
theorem met_keep{l:List CL}{i:Nat}{x:CL}(h:l[i]? =some x)(hp:x.path≠[]):metL (l.take i)=metL (l.take (i+1)):=by
 have:x.path.isEmpty=false:=by cases hx:x.path with
  |nil=>exact absurd hx hp
  |cons _ _=>rfl
 simp only [metL,met_step h,this,Bool.false_and,Bool.or_false]
theorem exact_law(k:KN)(p q:PR)(hk:WfN k)(hp:wfR p)(hq:wfR q):Pure Tryz.prog gs0 6 [encN k,cellsR p,cellsR q] (AB true):=by
 have ha:=awake21
 have h1:=uOf_p k p hk hp
 have h2:=uOf_p k q hk hq
 have hm:=lmany_p 10 [p,q]
 have hw2:=two_wf hk hp hq
 have h3:=uAll_p (subN k (two p q)) hw2
 have hlen:=all_len hw2
 by_cases c1:ofOk k p=true
 case neg=>
  rw [of_no (by simpa using c1)] at h1
  refine p_ tt_ok Tryz.func6 134 fun w0 h0 F hgs=>?_
  (refine y_ ?_;refine A.b rfl fun b3=>?_;refine A.b rfl fun b4=>?_;refine A.b rfl fun b5=>?_;refine y_ ?_;refine c_ h1 ?_;refine A.b rfl fun b7=>?_;refine y_ ?_;refine c_ h2 ?_;refine A.b rfl fun b9=>?_;refine t_ fun bl=>?_;refine A.c rfl hm (.cons .refl (.cons (by rw [enc_two];exact s_) .refl)) ?_;refine e_ 32 rfl (x':=cellsR (two p q)) (encR_eq _) ?_;refine c_ h3 ?_)
  exact cr_ ha
 rw [of_yes c1] at h1
 have u1:=of_ok hk hp c1
 by_cases c2:ofOk k q=true
 case neg=>
  rw [of_no (by simpa using c2)] at h2
  refine p_ tt_ok Tryz.func6 134 fun w0 h0 F hgs=>?_
  (refine y_ ?_;refine A.b rfl fun b3=>?_;refine A.b rfl fun b4=>?_;refine A.b rfl fun b5=>?_;refine y_ ?_;refine c_ h1 ?_;refine A.b rfl fun b7=>?_;refine y_ ?_;refine c_ h2 ?_;refine A.b rfl fun b9=>?_;refine t_ fun bl=>?_;refine A.c rfl hm (.cons .refl (.cons (by rw [enc_two];exact s_) .refl)) ?_;refine e_ 32 rfl (x':=cellsR (two p q)) (encR_eq _) ?_;refine c_ h3 ?_)
  exact cr_ ha
 rw [of_yes c2] at h2
 have u2:=of_ok hk hq c2
 by_cases c3:mayK (subN k (two p q))=true
 case neg=>
  rw [show errM (subN k (two p q))=2 by unfold errM;rw [if_neg c3]] at h3
  refine p_ tt_ok Tryz.func6 134 fun w0 h0 F hgs=>?_
  (refine y_ ?_;refine A.b rfl fun b3=>?_;refine A.b rfl fun b4=>?_;refine A.b rfl fun b5=>?_;refine y_ ?_;refine c_ h1 ?_;refine A.b rfl fun b7=>?_;refine y_ ?_;refine c_ h2 ?_;refine A.b rfl fun b9=>?_;refine t_ fun bl=>?_;refine A.c rfl hm (.cons .refl (.cons (by rw [enc_two];exact s_) .refl)) ?_;refine e_ 32 rfl (x':=cellsR (two p q)) (encR_eq _) ?_;refine c_ h3 ?_)
  exact cr_ ha
 rw [show errM (subN k (two p q))=0 by unfold errM;rw [if_pos c3]] at h3
 have hA:allM (subN k (two p q))=clR k.vars [] (two p q):=by unfold allM;rw [if_pos c3]
 refine Exists.elim (show∃u,u=usesM k.vars p from ⟨_,rfl⟩) fun u hu=>?_
 refine Exists.elim (show∃v,v=usesM k.vars q from ⟨_,rfl⟩) fun v hv=>?_
 rw [←hu] at h1 u1
 rw [←hv] at h2 u2
 obtain ⟨ur,uw,ui,uo⟩:=u1.lens
 obtain ⟨vr,vw,vi,vo⟩:=u2.lens
 have hmem: ∀c,c∈allM (subN k (two p q))→c.path≠[]∨(c.path=[]∧c.a=0∧c.b=1∧1≤c.kind∧c.kind≤4):=fun c hc=>by rw [hA] at hc;exact two_mem hc
 have hmet:metL (allM (subN k (two p q)))=[AB false,AB (shareM u.w v.w),AB (shareM u.w v.r||shareM u.r v.w),AB (shareM (chL u.i) (chL v.i)),AB (shareM (chL u.o) (chL v.o))]:=by
  obtain ⟨m1,m2,m3,m4⟩:=met_bet u1 u2 0 1
  have ho:ownC (allM (subN k (two p q)))=betM u v [] 0 1:=by rw [hA,own_two,hu,hv]
  simp only [metL,met_own,ho,m1,m2,m3,m4]
 have s1:=lshare_p u.w v.w (by omega) (by omega)
 have s2:=lshare_p u.w v.r (by omega) (by omega)
 have s2':=lshare_p u.r v.w (by omega) (by omega)
 have s3:=lshare_p (chL u.i) (chL v.i) (by rw [List.length_map];omega) (by rw [List.length_map];omega)
 have s4:=lshare_p (chL u.o) (chL v.o) (by rw [List.length_map];omega) (by rw [List.length_map];omega)
 have d1:=lchans_p u.i (by omega)
 have d2:=lchans_p v.i (by omega)
 have d3:=lchans_p u.o (by omega)
 have d4:=lchans_p v.o (by omega)
 generalize allM (subN k (two p q))=l at h3 hlen hmem hmet
 have n1:((l.map encC).length:Int)=l.length:=by rw [List.length_map]
 generalize shareM u.w v.w=x1 at s1 hmet
 generalize shareM u.w v.r=x2 at s2 hmet
 generalize shareM u.r v.w=x2' at s2' hmet
 generalize shareM (chL u.i) (chL v.i)=x3 at s3 hmet
 generalize shareM (chL u.o) (chL v.o)=x4 at s4 hmet
 clear hA hu hv
 refine p_ tt_ok Tryz.func6 134 fun w0 h0 F hgs=>?_
 (refine y_ ?_;refine A.b rfl fun b3=>?_;refine A.b rfl fun b4=>?_;refine A.b rfl fun b5=>?_;refine y_ ?_;refine c_ h1 ?_;refine A.b rfl fun b7=>?_;refine y_ ?_;refine c_ h2 ?_;refine A.b rfl fun b9=>?_;refine t_ fun bl=>?_;refine A.c rfl hm (.cons .refl (.cons (by rw [enc_two];exact s_) .refl)) ?_;refine e_ 32 rfl (x':=cellsR (two p q)) (encR_eq _) ?_;refine n_ h3 ?_;(refine b_ fun bx=>?_;refine y_ ?_))
 refine A.valE 51 rfl (x':=AI (l.length:Nat)) (ai_eq n1) ?_
 refine A.keep [7,9,13,50,51,52] rfl ?_
 refine l_ (Λ':=[.box bx (.ag [AB false,AB false,AB false,AB false,AB false]), .box b9 (uA v), .box b7 (uA u)]) ?_
 refine A.loopP (ι:=Nat) (fun i=>(⟨[(7,PT b7),(9,PT b9),(13,PT bx),(50,csA l),(51,AI (l.length:Nat)),(52,AI (i:Nat))],[]⟩,[.box bx (.ag (metL (l.take i))), .box b9 (uA v), .box b7 (uA u)])) (fun i=>i≤l.length) (fun i=>l.length-i) 0 (Nat.zero_le _) rfl fun i hi ih=>?_
 simp only at ih⊢
 refine y_ ?_
 refine k_ (fun hc=>?_) fun hc=>?_
 ·have hci:i<l.length:=Int.ofNat_lt.1 (of_decide_eq_true hc)
  clear hc hmet
  refine Exists.elim (at_exN (l:=l) (i:=i) hci) fun x hx=>?_
  have hxa:(l.map encC)[i]? =some (encC x):=by rw [List.getElem?_map,hx];rfl
  have hxm:=hmem x (List.mem_of_getElem? hx)
  refine y_ ?_
  refine i_ rfl hxa rfl ?_
  refine A.b rfl fun b15=>?_
  refine y_ ?_
  by_cases hp0:x.path=[]
  case neg=>
   have hpl:0<x.path.length:=List.length_pos_iff.2 hp0
   refine e_ 59 rfl (x':=AB true) (ab_eq (by rw [List.length_map];simpa using hpl)) ?_
   refine l_ (Λ':=[.box bx (.ag (metL (l.take i))), .box b9 (uA v), .box b7 (uA u)]) ?_
   refine A.entsEq (Λ':=[.box bx (.ag (metL (l.take (i+1)))), .box b9 (uA v), .box b7 (uA u)]) (by rw [met_keep hx hp0]) ?_
   refine A.valE 52 rfl (x':=AI ((i+1:Nat):Int)) (inc_eq i (by omega)) ?_
   refine u_ (ih (i+1) (by show i+1≤_;omega) (by show l.length-(i+1)<l.length-i;omega))
  obtain ⟨_,g1,g2,g3,g4⟩:=hxm.resolve_left (fun h=>h hp0)
  refine e_ 59 rfl (x':=AB false) (ab_eq (by rw [hp0];rfl)) ?_
  refine e_ 63 rfl (x':=AB false) (ab_eq (by simp [g1])) ?_
  refine e_ 68 rfl (x':=AB false) (ab_eq (by simp [g2])) ?_
  refine e_ 73 rfl (x':=AB false) (ab_eq (by simp;omega)) ?_
  refine e_ 77 rfl (x':=AB false) (ab_eq (by simp;omega)) ?_
  refine A.xa rfl (p:=x.kind.toNat) (by omega) (by omega) (by show 0+x.kind.toNat*1=_;omega) rfl ?_
  refine A.wa rfl rfl (by simp;omega) (met_set hx hp0 g3 g4) ?_
  refine y_ ?_
  refine l_ (Λ':=[.box bx (.ag (metL (l.take (i+1)))), .box b9 (uA v), .box b7 (uA u)]) ?_
  refine A.valE 52 rfl (x':=AI ((i+1:Nat):Int)) (inc_eq i (by omega)) ?_
  refine u_ (ih (i+1) (by show i+1≤_;omega) (by show l.length-(i+1)<l.length-i;omega))
 have hil:i=l.length:=by
  have: ¬((i:Int)<(l.length:Nat)):=of_decide_eq_false hc
  omega
 clear hc ih hi
 refine A.entsEq (Λ':=[.box bx (.ag [AB false,AB x1,AB (x2||x2'),AB x3,AB x4]), .box b9 (uA v), .box b7 (uA u)]) (by rw [hil,List.take_length,hmet]) ?_
 clear hil hmet
 cases x2
 ·refine y_ ?_
  refine A.draw 47 [0,1,2,3,4,5,6,7,8,9,10,11,12,13,14,15,16,17,18,19,20,21,22,23,24,25,26,27,28,29,31,32,30,33,34,35,36,37,38,39,40,41,43,44,42,45,46] noPubs [(6,AB x1),(15,AB false),(21,AB x2'),(30,elL (chL u.i)),(33,elL (chL v.i)),(34,AB x3),(42,elL (chL u.o)),(45,elL (chL v.o)),(46,AB x4)] (by kernel_rfl) (by kernel_rfl) ?_
  refine WA.xa rfl (p:=1) (by decide) (by decide) rfl rfl ?_
  refine WA.ra rfl rfl rfl ?_
  refine w_ ?_
  refine cw_ s1 ?_
  refine WA.valE 90 rfl (x':=AB true) (ab_eq (by simp)) ?_
  refine WA.xa rfl (p:=2) (by decide) (by decide) rfl rfl ?_
  refine WA.ra rfl rfl rfl ?_
  refine w_ ?_
  refine cw_ s2 ?_
  refine cw_ s2' ?_
  refine WA.valE 107 rfl (x':=AB true) (ab_eq (by simp)) ?_
  refine WA.xa rfl (p:=3) (by decide) (by decide) rfl rfl ?_
  refine WA.ra rfl rfl rfl ?_
  refine w_ ?_
  refine WA.c rfl rfl d1 (.sub .refl) ?_
  refine WA.c rfl rfl d2 (.sub .refl) ?_
  refine cw_ s3 ?_
  refine WA.valE 119 rfl (x':=AB true) (ab_eq (by simp)) ?_
  refine WA.xa rfl (p:=4) (by decide) (by decide) rfl rfl ?_
  refine WA.ra rfl rfl rfl ?_
  refine w_ ?_
  refine WA.c rfl rfl d3 (.sub .refl) ?_
  refine WA.c rfl rfl d4 (.sub .refl) ?_
  refine WA.c rfl rfl s4 (.sub .refl) ?_
  refine z_ ?_
  refine A.valE 131 rfl (x':=AB true) (ab_eq (by simp)) ?_
  exact cr_ ha
 ·refine y_ ?_
  refine A.draw 47 [0,1,2,3,4,5,6,7,8,9,10,11,12,13,14,15,16,17,18,19,20,21,22,23,24,25,26,27,28,29,31,32,30,33,34,35,36,37,38,39,40,41,43,44,42,45,46] noPubs [(6,AB x1),(15,AB true),(21,AB x2'),(30,elL (chL u.i)),(33,elL (chL v.i)),(34,AB x3),(42,elL (chL u.o)),(45,elL (chL v.o)),(46,AB x4)] (by kernel_rfl) (by kernel_rfl) ?_
  refine WA.xa rfl (p:=1) (by decide) (by decide) rfl rfl ?_
  refine WA.ra rfl rfl rfl ?_
  refine w_ ?_
  refine cw_ s1 ?_
  refine WA.valE 90 rfl (x':=AB true) (ab_eq (by simp)) ?_
  refine WA.xa rfl (p:=2) (by decide) (by decide) rfl rfl ?_
  refine WA.ra rfl rfl rfl ?_
  refine w_ ?_
  refine cw_ s2 ?_
  refine WA.valE 107 rfl (x':=AB true) (ab_eq (by simp)) ?_
  refine WA.xa rfl (p:=3) (by decide) (by decide) rfl rfl ?_
  refine WA.ra rfl rfl rfl ?_
  refine w_ ?_
  refine WA.c rfl rfl d1 (.sub .refl) ?_
  refine WA.c rfl rfl d2 (.sub .refl) ?_
  refine cw_ s3 ?_
  refine WA.valE 119 rfl (x':=AB true) (ab_eq (by simp)) ?_
  refine WA.xa rfl (p:=4) (by decide) (by decide) rfl rfl ?_
  refine WA.ra rfl rfl rfl ?_
  refine w_ ?_
  refine WA.c rfl rfl d3 (.sub .refl) ?_
  refine WA.c rfl rfl d4 (.sub .refl) ?_
  refine WA.c rfl rfl s4 (.sub .refl) ?_
  refine z_ ?_
  refine A.valE 131 rfl (x':=AB true) (ab_eq (by simp)) ?_
  exact cr_ ha
end Go.Proofs.YtafcodjilcljeaaGreat
