/-
  Texts Q18n Q18o Q18p Q18t Q18v Q18w Q17z P18e Q18x P18f P18g P20d Lt Q18y P18h P18i P18j T18a T18b T18c. Conditions: as each theorem says.
-/
import Derived.Test.YtpcloejpklkieaaGreatV3
import Derived.Test.YtpcloejpklkieaaGreatV6
import Derived.Test.YtpcloejpklkieaaGreatV4
set_option linter.unusedVariables false
set_option linter.unusedSimpArgs false
set_option maxRecDepth 100000
set_option maxHeartbeats 4000000
namespace Go.Proofs.YtpcloejpklkieaaGreat
open Go Go.Tp
abbrev rnA(s:ST):AV:= .pe 11 (encST s)
abbrev actA(a:ACT):AV:= .ag [AU8 a.kind,rowsA a.store,AI a.c,AI a.v,AI a.i,AU8 a.item,AI32 a.value,AU8 a.next.kind,AI a.next.c,AI a.next.v,AU8 a.next.item,plsA a.next.to,kesA a.next.e,gsA a.next.gs,rsA a.next.l, .v .nilFunc, .sl 1 [] none]
abbrev actsA(l:List ACT):AV:= .sl 17 (l.map actA) none
theorem tau_p(s:ST)(st:List (List Int))(q:PR):Pure Tryz.prog gs0 114 [rnA s,rowsA st,cellsR q] (actsA (tauM st q)):=by
 refine p_ tt_ok Tryz.func114 11 fun w0 h0 F hgs=>?_
 (refine b_ fun bx=>?_;refine t_ fun bl=>?_;refine y_ ?_)
 refine R_ ?_
 exact s_
theorem after_p(s:ST)(t:Int):Pure Tryz.prog gs0 139 [rnA s,AI32 t] (AB (afterM s t)):=by
 refine p_ tt_ok Tryz.func139 13 fun w0 h0 F hgs=>?_
 exact yr_
theorem ninput_p(s:ST)(c item:Int)(to:PL)(next:PR)(hs:wfS s.store)(hw:wfPl to)(hn:to.ix.length≤281474976710656):Pure Tryz.prog gs0 121 [rnA s,AI c,AU8 item,encPl to,cellsR next] (actsA (inputM s c item to next)):=by
 have hp:=Place_p s.store hs to.v to.ix hw hn
 refine Exists.elim (show∃R,R=inputM s c item to next from ⟨_,rfl⟩) fun R hR=>?_
 rw [←hR]
 unfold inputM at hR
 cases hpl:placeM s.store to.v to.ix with
 |none=>
  rw [hpl] at hp hR
  have hRR:R=tauM s.store stopR:=hR
  refine p_ tt_ok Tryz.func121 42 fun w0 h0 F hgs=>?_
  (refine b_ fun bx=>?_;refine b_ fun bx=>?_;refine y_ ?_)
  refine d_ 13 [0,1,2,3,4,5,6,7,8,9,10,11,12] [(6,optP none)] ?_
  refine cw_ hp ?_
  refine z_ ?_
  refine d_ 7 [0,1,2,3,4,5,6] [(6,cellsR stopR)] ?_
  refine WA.c rfl rfl stop_p (.sub .refl) ?_
  refine WA.nil (l:=[]) rfl ?_
  refine c_ (tau_p s s.store stopR) ?_;refine R_ ?_;rw [hRR];exact .refl
 |some vi=>
  rw [hpl] at hp hR
  obtain ⟨v,i⟩:=vi
  refine p_ tt_ok Tryz.func121 42 fun w0 h0 F hgs=>?_
  (refine b_ fun bx=>?_;refine b_ fun bx=>?_;refine y_ ?_)
  refine d_ 13 [0,1,2,3,4,5,6,7,8,9,10,11,12] [(6,optP (some (v,i)))] ?_
  refine cw_ hp ?_
  refine WA.nil (l:=[]) rfl ?_
  (refine t_ fun bl=>?_;refine y_ ?_)
  refine R_ ?_
  rw [hR]
  exact s_
theorem valued_p(s:ST)(p:PR)(e:KE)(r:List KE)(he:p.e=e::r)(hs:wfS s.store)(hw:wfK e)(b:PR)(hb:p.kind=13→ ∃r,p.l=b::r):Pure Tryz.prog gs0 122 [rnA s,cellsR p] (actsA (valuedM s p)):=by
 have hv:=Value_p s.store hs e hw
 rw [encK_eq] at hv
 have hat:(encKl p.e)[(0:Int).toNat]? =some (encK e):=by rw [he,encKl];rfl
 have hbt:p.kind=13→(encRl p.l)[(0:Int).toNat]? =some (encR b):=fun h=>by obtain ⟨r,hl⟩:=hb h;rw [hl,encRl];rfl
 have hbh:p.kind=13→headR p.l=b:=fun h=>by obtain ⟨r,hl⟩:=hb h;rw [hl];rfl
 refine Exists.elim (show∃R,R=valuedM s p from ⟨_,rfl⟩) fun R hR=>?_
 rw [←hR]
 unfold valuedM at hR
 rw [he] at hR
 simp only at hR
 cases hx:valueM s.store e with
 |none=>
  rw [hx] at hv hR
  have hRR:R=tauM s.store stopR:=hR
  refine p_ tt_ok Tryz.func122 80 fun w0 h0 F hgs=>?_
  (refine b_ fun bx=>?_;refine y_ ?_)
  refine d_ 14 [0,1,2,3,4,5,6,7,8,9,10,11,12,13] [(9,optA none)] ?_
  refine iw_ rfl hat (encK_eq e) ?_
  refine cw_ hv ?_
  refine z_ ?_
  refine d_ 7 [0,1,2,3,4,5,6] [(6,cellsR stopR)] ?_
  refine WA.c rfl rfl stop_p (.sub .refl) ?_
  refine WA.nil (l:=[]) rfl ?_
  refine c_ (tau_p s s.store stopR) ?_;refine R_ ?_;rw [hRR];exact .refl
 |some x=>
  rw [hx] at hv hR
  simp only at hR
  refine p_ tt_ok Tryz.func122 80 fun w0 h0 F hgs=>?_
  (refine b_ fun bx=>?_;refine y_ ?_)
  refine d_ 14 [0,1,2,3,4,5,6,7,8,9,10,11,12,13] [(9,optA (some x))] ?_
  refine iw_ rfl hat (encK_eq e) ?_
  refine cw_ hv ?_
  refine z_ ?_
  refine k_ (fun hc=>?_) fun hc=>?_
  ·have h6:p.kind=6:=by have h:(p.kind==6)=true:=hc;simpa using h
   rw [if_pos h6] at hR
   clear hc
   refine y_ ?_
   refine d_ 4 [0,1,2,3] [(3,cellsR skipR)] ?_
   refine WA.c rfl rfl skip_p (.sub .refl) ?_
   refine WA.nil (l:=[]) rfl ?_
   (refine t_ fun bl=>?_;refine y_ ?_)
   refine R_ ?_
   rw [hR]
   exact s_
  have h6:p.kind≠6:=by have h:(p.kind==6)=false:=hc;simpa using h
  rw [if_neg h6] at hR
  clear hc
  refine y_ ?_
  ((fail_if_success (refine A.lit? rfl ?_));refine A.gS rfl (fun hc=>?_) (fun hc=>?_))
  ·have h13:p.kind=13:=by have h:(p.kind==13)=true:=hc;simpa using h
   clear hc
   refine y_ ?_
   refine k_ (fun hc=>?_) fun hc=>?_
   ·have hx1:x=1:=by have h:(x==1)=true:=hc;simpa using h
    clear hc
    rw [if_pos ⟨h13,hx1⟩,hbh h13] at hR
    refine y_ ?_
    refine d_ 13 [0,1,2,3,4,5,6,7,8,9,10,11,12] [] ?_
    refine iw_ rfl (hbt h13) (encR_eq b) ?_
    refine WA.lit rfl rfl rfl rfl rfl rfl rfl fun bw=>?_
    refine w_ ?_
    refine WA.nil (l:=[_]) rfl ?_
    refine A.freezeRowS 61 (.slice (some ⟨bw,0,none⟩) 2 2) (y':= .ag [AU8 9,AI 0,AI 0,AU8 0, .v (.slice none 0 0), .v (.slice none 0 0), .v (.slice none 0 0), .sl 8 [cellsR b,cellsR p] none]) rfl fz_ ?_
    have hta:=tau_p s s.store ⟨9,0,0,0,[],[],[],[b,p]⟩
    have e9:cellsR ⟨9,0,0,0,[],[],[],[b,p]⟩= .ag [AU8 9,AI 0,AI 0,AU8 0, .sl 2 [] none, .sl 6 [] none, .sl 18 [] none, .sl 8 [cellsR b,cellsR p] none]:=by
     show AV.ag [_,_,_,_,AV.sl 2 _ none,AV.sl 6 (encKl []) none,AV.sl 18 (encGl []) none,AV.sl 8 (encRl [b,p]) none]=_
     rw [encKl,encGl,encRl_cons,encRl_cons,encRl];rfl
    rw [e9] at hta
    refine c_ hta ?_;refine R_ ?_;rw [hR];exact .refl
   ·have hx1:x≠1:=by have h:(x==1)=false:=hc;simpa using h
    rw [if_neg (fun h=>hx1 h.2),if_pos (.inl h13)] at hR
    clear hc
    refine y_ ?_
    refine T_ rfl (show (p.kind==13)=true by rw [h13];rfl) ?_
    refine d_ 7 [0,1,2,3,4,5,6] [(6,cellsR skipR)] ?_
    refine WA.c rfl rfl skip_p (.sub .refl) ?_
    refine WA.nil (l:=[]) rfl ?_
    refine c_ (tau_p s s.store skipR) ?_;refine R_ ?_;rw [hR];exact .refl
  ·have h13:p.kind≠13:=by have h:(p.kind==13)=false:=hc;simpa using h
   rw [if_neg (fun h=>h13 h.1)] at hR
   clear hc
   refine y_ ?_
   refine F_ rfl (show (p.kind==13)=false by rw [beq_eq_false_iff_ne];exact h13) ?_
   refine n_ (after_p s x) ?_
   by_cases haf:afterM s x=true
   ·rw [if_pos (.inr haf)] at hR
    refine e_ 70 rfl (x':=AB true) (ab_eq haf) ?_
    refine d_ 7 [0,1,2,3,4,5,6] [(6,cellsR skipR)] ?_
    refine WA.c rfl rfl skip_p (.sub .refl) ?_
    refine WA.nil (l:=[]) rfl ?_
    refine c_ (tau_p s s.store skipR) ?_;refine R_ ?_;rw [hR];exact .refl
   ·rw [if_neg (by rintro (h|h);exact h13 h;exact haf h)] at hR
    refine e_ 70 rfl (x':=AB false) (ab_eq (by simpa using haf)) ?_;refine R_ ?_;rw [hR];exact .nil
theorem chooseM_cons(s:ST)(g:GD)(r:List GD):chooseM s (g::r)=match valueM s.store g.cond with
 |none=>tauM s.store stopR
 |some x=>if x=1 then tauM s.store (headR g.body) else chooseM s r:=rfl
theorem choose_p(s:ST)(p:PR)(hs:wfS s.store)(hg: ∀g,g∈p.gs→wfK g.cond∧ ∃y,g.body=[y])(hb:p.gs.length≤281474976710656):Pure Tryz.prog gs0 118 [rnA s,cellsR p] (actsA (chooseM s p.gs)):=by
 have n2:((encGl p.gs).length:Int)=p.gs.length:=by rw [encGl_len]
 refine Exists.elim (show∃R,R=chooseM s p.gs from ⟨_,rfl⟩) fun R hR=>?_
 rw [←hR]
 refine p_ tt_ok Tryz.func118 51 fun w0 h0 F hgs=>?_
 (refine b_ fun bx=>?_;refine y_ ?_)
 refine A.valE 11 rfl (x':=AI (p.gs.length:Nat)) (ai_eq n2) ?_
 refine A.keep [0,10,11,12] rfl ?_
 refine l_ (Λ':=[]) ?_
 refine A.loopP (ι:=Nat) (fun i=>(⟨[(0,rnA s),(10,gsA p.gs),(11,AI (p.gs.length:Nat)),(12,AI (i:Nat))],[]⟩,[])) (fun i=>i≤p.gs.length∧R=chooseM s (p.gs.drop i)) (fun i=>p.gs.length-i) 0 ⟨Nat.zero_le _,hR⟩ rfl fun i hi ih=>?_
 obtain ⟨hi1,hi2⟩:=hi
 refine y_ ?_
 refine k_ (fun hc=>?_) fun hc=>?_
 ·have hci:i<p.gs.length:=by simpa using hc
  clear hc
  refine Exists.elim (at_exN (l:=p.gs) (i:=i) hci) fun g hgi=>?_
  obtain ⟨hwf,y,hy⟩:=hg g (List.mem_of_getElem? hgi)
  have hv:=Value_p s.store hs g.cond hwf
  rw [encK_eq] at hv
  rw [drop_at hgi,chooseM_cons] at hi2
  have hby:(encRl g.body)[(0:Int).toNat]? =some (encR y):=encRl_at (by rw [hy];rfl)
  have hhd:headR g.body=y:=by rw [hy];rfl
  refine y_ ?_
  refine j_ rfl (encGl_at hgi) (encG_eq g) ?_
  (refine b_ fun bx=>?_;refine y_ ?_)
  cases hx:valueM s.store g.cond with
  |none=>
   rw [hx] at hv hi2
   refine d_ 12 [0,1,2,3,4,5,6,7,8,9,10,11] [(7,optA none)] ?_
   refine cw_ hv ?_
   refine z_ ?_
   have hRR:R=tauM s.store stopR:=hi2
   refine d_ 7 [0,1,2,3,4,5,6] [(6,cellsR stopR)] ?_
   refine WA.c rfl rfl stop_p (.sub .refl) ?_
   refine WA.nil (l:=[]) rfl ?_
   refine c_ (tau_p s s.store stopR) ?_;refine R_ ?_;rw [hRR];exact .refl
  |some v=>
   rw [hx] at hv hi2
   simp only at hi2
   refine d_ 12 [0,1,2,3,4,5,6,7,8,9,10,11] [(7,optA (some v))] ?_
   refine cw_ hv ?_
   refine z_ ?_
   refine k_ (fun hc=>?_) fun hc=>?_
   ·have hv1:v=1:=by have h:(v==1)=true:=hc;simpa using h
    rw [if_pos hv1,hhd] at hi2
    refine y_ ?_
    refine d_ 10 [0,1,2,3,4,5,6,7,8,9] [] ?_
    refine iw_ rfl hby (encR_eq y) ?_
    refine WA.nil (l:=[]) rfl ?_
    refine c_ (tau_p s s.store y) ?_;refine R_ ?_;rw [hi2];exact .refl
   ·have hv1:v≠1:=by have h:(v==1)=false:=hc;simpa using h
    rw [if_neg hv1] at hi2
    refine y_ ?_
    refine A.valE 12 rfl (x':=AI ((i+1:Nat):Int)) (inc_eq i (by omega)) ?_
    refine l_ (Λ':=[]) ?_
    refine u_ (ih (i+1) ⟨by omega,hi2⟩ (by omega))
 have hci: ¬i<p.gs.length:=by simpa using hc
 rw [List.drop_eq_nil_of_le (by omega)] at hi2
 have hRR:R=tauM s.store stopR:=hi2
 refine y_ ?_
 refine d_ 7 [0,1,2,3,4,5,6] [(6,cellsR stopR)] ?_
 refine WA.c rfl rfl stop_p (.sub .refl) ?_
 refine WA.nil (l:=[]) rfl ?_
 refine c_ (tau_p s s.store stopR) ?_;refine R_ ?_;rw [hRR];exact .refl
def Small(st:List (List Int)):Prop:=st.length≤256∧ ∀r,r∈st→r.length≤64
theorem Small.put{st:List (List Int)}(h:Small st)(v i x:Int):Small (putM st v i x):=by
 unfold putM
 split
 ·split
  ·rename_i r hr
   refine ⟨by rw [List.length_set];exact h.1,fun q hq=>?_⟩
   rcases List.mem_or_eq_of_mem_set hq with hq|hq
   ·exact h.2 q hq
   ·rw [hq,List.length_set];exact h.2 r (List.mem_of_getElem? hr)
  ·exact h
 ·exact h
theorem Small.put_p{st:List (List Int)}(h:Small st)(v i x:Int):Pure Tryz.prog gs0 40 [rowsA st,AI v,AI i,AI32 x] (rowsA (putM st v i x)):=Put_p st v i x (by have:=h.1;omega) fun r hr=>by have:=h.2 r hr;omega
theorem valsM_cons(st:List (List Int))(e:KE)(r:List KE):valsM st (e::r)=match valueM st e with
 |none=>none
 |some x=>(valsM st r).map (x:: ·):=rfl
def rowV(vs:List Int)(n:Nat):List AV:=vs.map AI32++List.replicate (n-vs.length) (AI32 0)
theorem rowV_len{vs:List Int}{n:Nat}(h:vs.length≤n):(rowV vs n).length=n:=by rw [rowV,List.length_append,List.length_map,List.length_replicate];omega
theorem rowV_set{vs:List Int}{n:Nat}(h:vs.length<n)(x:Int):(rowV vs n).set vs.length (AI32 x)=rowV (vs++[x]) n:=by
 unfold rowV
 rw [List.set_append_right _ _ (by rw [List.length_map];exact Nat.le_refl _),List.length_map,Nat.sub_self,show n-vs.length=(n-(vs++[x]).length)+1 by rw [List.length_append,List.length_singleton];omega,List.replicate_succ,List.set_cons_zero]
 simp
theorem rowV_at{vs:List Int}{i:Nat}{x:Int}(n:Nat)(h:vs[i]? =some x):(rowV vs n)[i]? =some (AI32 x):=by
 rw [rowV,List.getElem?_append_left (by rw [List.length_map];exact at_lt h),List.getElem?_map,h];rfl
theorem assign_p(s:ST)(p:PR)(hs:wfS s.store)(hsm:Small s.store)(he: ∀x,x∈p.e→wfK x)(ht: ∀t,t∈p.to→wfPl t∧t.ix.length≤281474976710656)(hl:p.to.length=p.e.length)(hb:p.e.length≤8):Pure Tryz.prog gs0 115 [rnA s,cellsR p] (actsA (assignM s p)):=by
 have n1:((encKl p.e).length:Int)=p.e.length:=by rw [encKl_len]
 have n2:((p.to.map encPl).length:Int)=p.to.length:=by rw [List.length_map]
 refine Exists.elim (show∃R,R=assignM s p from ⟨_,rfl⟩) fun R hR=>?_
 rw [←hR]
 unfold assignM at hR
 refine p_ tt_ok Tryz.func115 100 fun w0 h0 F hgs=>?_
 (repeat refine A.s rfl ?_)
 refine A.b rfl fun b1=>?_
 refine y_ ?_
 refine A.valE 18 rfl (x':=AI (p.e.length:Nat)) (ai_eq n1) ?_
 refine A.makeV rfl rfl rfl rfl rfl rfl rfl rfl rfl rfl rfl rfl (by omega) (by show (4:Int)*_≤_;omega) (by omega) fun a cp hcp=>?_
 refine e_ 19 rfl (x':= .ms (.slice a p.e.length cp) 1 p.e.length) (by rw [Int.toNat_natCast];rfl) ?_
 refine A.valE 22 rfl (x':=AI (p.e.length:Nat)) (ai_eq n1) ?_
 refine A.keep [0,3,5,21,22,23] rfl ?_
 refine A.entsEq (Λ':=[.row 1 (.slice a p.e.length cp) (rowV [] p.e.length), .box b1 (cellsR p)]) (by rw [rowV,Int.toNat_natCast];rfl) ?_
 refine A.loopP (ι:=List Int) (fun vs=>(⟨[(0,rnA s),(3,ptrA b1),(5, .ms (.slice a p.e.length cp) 1 p.e.length),(21,kesA p.e),(22,AI (p.e.length:Nat)),(23,AI (vs.length:Nat))],[]⟩,[.row 1 (.slice a p.e.length cp) (rowV vs p.e.length), .box b1 (cellsR p)]))
  (fun vs=>vs.length≤p.e.length∧valsM s.store p.e=(valsM s.store (p.e.drop vs.length)).map (vs++ ·)) (fun vs=>p.e.length-vs.length) [] ⟨Nat.zero_le _,by rw [List.length_nil,List.drop_zero];cases valsM s.store p.e<;>rfl⟩ rfl fun vs hv ih=>?_
 obtain ⟨hv1,hv2⟩:=hv
 refine y_ ?_
 refine k_ (fun hc=>?_) fun hc=>?_
 ·have hci:vs.length<p.e.length:=by simpa using hc
  clear hc
  refine Exists.elim (at_exN (l:=p.e) (i:=vs.length) hci) fun e hei=>?_
  have hvp:=Value_p s.store hs e (he e (List.mem_of_getElem? hei))
  rw [encK_eq] at hvp
  rw [drop_at hei,valsM_cons] at hv2
  refine y_ ?_
  refine j_ rfl (encKl_at hei) (encK_eq e) ?_
  (refine b_ fun bx=>?_;refine y_ ?_)
  cases hx:valueM s.store e with
  |none=>
   rw [hx] at hvp hv2
   have hv3:valsM s.store p.e=none:=hv2
   rw [hv3] at hR
   have hRR:R=tauM s.store stopR:=hR
   refine d_ 11 [0,1,2,3,4,5,6,7,8,9,10] [(6,optA none)] ?_
   refine cw_ hvp ?_
   refine z_ ?_
   refine d_ 7 [0,1,2,3,4,5,6] [(6,cellsR stopR)] ?_
   refine WA.c rfl rfl stop_p (.sub .refl) ?_
   refine WA.nil (l:=[]) rfl ?_
   refine c_ (tau_p s s.store stopR) ?_;refine R_ ?_;rw [hRR];exact .refl
  |some x=>
   rw [hx] at hvp hv2
   have hv3:valsM s.store p.e=(valsM s.store (p.e.drop (vs++[x]).length)).map ((vs++[x])++ ·):=by
    rw [hv2,List.length_append,List.length_singleton]
    show ((valsM s.store (p.e.drop (vs.length+1))).map (x:: ·)).map (vs++ ·)=_
    cases valsM s.store (p.e.drop (vs.length+1)) with
    |none=>rfl
    |some l=>simp
   refine d_ 11 [0,1,2,3,4,5,6,7,8,9,10] [(6,optA (some x))] ?_
   refine cw_ hvp ?_
   refine z_ ?_
   refine A.indexRow rfl rfl rfl rfl rfl rfl rfl rfl (by show (0:Int)≤(vs.length:Nat);omega) (by rw [rowV_len hv1];omega) rfl ?_
   refine A.storeRow rfl rfl rfl rfl rfl rfl rfl rfl rfl (by rw [rowV_len hv1];show vs.length<_;omega) (xs':=rowV (vs++[x]) p.e.length) (rowV_set hci x) ?_
   refine y_ ?_
   refine A.valE 23 rfl (x':=AI ((vs++[x]).length:Nat)) (by rw [List.length_append,List.length_singleton];exact inc_eq vs.length (by omega)) ?_
   refine l_ (Λ':=[.row 1 (.slice a p.e.length cp) (rowV (vs++[x]) p.e.length), .box b1 (cellsR p)]) ?_
   refine u_ (ih (vs++[x]) ⟨by rw [List.length_append,List.length_singleton];omega,hv3⟩ (by rw [List.length_append,List.length_singleton];omega))
 have hci: ¬vs.length<p.e.length:=by simpa using hc
 have hvl:vs.length=p.e.length:=by omega
 clear hc ih
 rw [List.drop_eq_nil_of_le (by omega)] at hv2
 have hv3:valsM s.store p.e=some vs:=by rw [hv2];show some (vs++[])=_;rw [List.append_nil]
 rw [hv3] at hR
 simp only at hR
 refine y_ ?_
 refine A.valE 60 rfl (x':=AI (p.to.length:Nat)) (ai_eq n2) ?_
 refine A.keep [0,3,5,10,59,60,61] rfl ?_
 refine A.loopP (ι:=Nat×List (List Int)) (fun q=>(⟨[(0,rnA s),(3,ptrA b1),(5, .ms (.slice a p.e.length cp) 1 p.e.length),(10,rowsA q.2),(59,plsA p.to),(60,AI (p.to.length:Nat)),(61,AI (q.1:Nat))],[]⟩,[.row 1 (.slice a p.e.length cp) (rowV vs p.e.length), .box b1 (cellsR p)]))
  (fun q=>q.1≤p.to.length∧putsM s.store p.to vs s.store=putsM s.store (p.to.drop q.1) (vs.drop q.1) q.2∧Small q.2) (fun q=>p.to.length-q.1) (0,s.store) ⟨Nat.zero_le _,rfl,hsm⟩ rfl fun q hq ih=>?_
 obtain ⟨i,st⟩:=q
 obtain ⟨hq1,hq2,hq3⟩:=hq
 simp only at hq1 hq2 hq3
 refine y_ ?_
 refine k_ (fun hc=>?_) fun hc=>?_
 ·have hci:i<p.to.length:=by simpa using hc
  clear hc
  refine Exists.elim (at_exN (l:=p.to) (i:=i) hci) fun t hti=>?_
  refine Exists.elim (at_exN (l:=vs) (i:=i) (by omega)) fun x hxi=>?_
  obtain ⟨ht1,ht2⟩:=ht t (List.mem_of_getElem? hti)
  have hpp:=Place_p s.store hs t.v t.ix ht1 ht2
  have hrl:(rowV vs p.e.length).length=p.e.length:=rowV_len (by omega)
  rw [drop_at hti,drop_at hxi] at hq2
  refine y_ ?_
  refine j_ rfl (map_at hti) rfl ?_
  (refine b_ fun bx=>?_;refine y_ ?_)
  cases hx:placeM s.store t.v t.ix with
  |none=>
   rw [hx] at hpp
   have hq4:putsM s.store p.to vs s.store=none:=by rw [hq2,putsM,hx]
   rw [hq4] at hR
   have hRR:R=tauM s.store stopR:=hR
   refine d_ 13 [0,1,2,3,4,5,6,7,8,9,10,11,12] [(6,optP none)] ?_
   refine cw_ hpp ?_
   refine z_ ?_
   refine d_ 7 [0,1,2,3,4,5,6] [(6,cellsR stopR)] ?_
   refine WA.c rfl rfl stop_p (.sub .refl) ?_
   refine WA.nil (l:=[]) rfl ?_
   refine c_ (tau_p s s.store stopR) ?_;refine R_ ?_;rw [hRR];exact .refl
  |some vj=>
   obtain ⟨v,j⟩:=vj
   rw [hx] at hpp
   have hq4:putsM s.store p.to vs s.store=putsM s.store (p.to.drop (i+1)) (vs.drop (i+1)) (putM st v j x):=by rw [hq2,putsM,hx]
   refine d_ 13 [0,1,2,3,4,5,6,7,8,9,10,11,12] [(6,optP (some (v,j)))] ?_
   refine cw_ hpp ?_
   refine z_ ?_
   refine A.indexRow rfl rfl rfl rfl rfl rfl rfl rfl (by show (0:Int)≤(i:Nat);omega) (by rw [hrl];omega) rfl ?_
   refine A.loadRow rfl rfl rfl rfl rfl rfl (y':=AI32 x) rfl (rowV_at _ hxi) rfl rfl ?_
   refine c_ (hq3.put_p v j x) ?_
   refine A.valE 61 rfl (x':=AI ((i+1:Nat):Int)) (inc_eq i (by omega)) ?_
   refine l_ (Λ':=[.row 1 (.slice a p.e.length cp) (rowV vs p.e.length), .box b1 (cellsR p)]) ?_
   refine u_ (ih (i+1,putM st v j x) ⟨by show i+1≤_;omega,hq4,hq3.put v j x⟩ (by show _-(i+1)<_-i;omega))
 have hci: ¬i<p.to.length:=by simpa using hc
 clear hc ih
 rw [List.drop_eq_nil_of_le (by omega),putsM] at hq2
 rw [hq2] at hR
 have hRR:R=tauM st skipR:=hR
 refine y_ ?_
 refine n_ skip_p ?_
 refine c_ (tau_p s st skipR) ?_;refine R_ ?_;rw [hRR];exact .refl
theorem waitG_len(s:ST)(g:GD):(waitG s g).length≤1:=by
 unfold waitG inputM tauM
 split
 ·exact Nat.zero_le _
 ·split
  ·split<;>exact Nat.le_refl _
  ·split
   ·exact Nat.le_refl _
   ·exact Nat.zero_le _
theorem flat_len{α β:Type}(f:α→List β)(h: ∀a,(f a).length≤1): ∀l:List α,(l.flatMap f).length≤l.length
 | []=>Nat.le_refl _
 |a::r=>by
  rw [List.flatMap_cons,List.length_append,List.length_cons]
  have:=h a
  have:=flat_len f h r
  omega
theorem waiting_p(s:ST)(p:PR)(hs:wfS s.store)(hg: ∀g,g∈p.gs→(wfPl g.to∧g.to.ix.length≤281474976710656)∧ ∃y,g.body=[y])(hb:p.gs.length≤16):Pure Tryz.prog gs0 120 [rnA s,cellsR p] (actsA (p.gs.flatMap (waitG s))):=by
 have n2:((encGl p.gs).length:Int)=p.gs.length:=by rw [encGl_len]
 refine p_ tt_ok Tryz.func120 63 fun w0 h0 F hgs=>?_
 (repeat refine A.s rfl ?_)
 refine A.b rfl fun b1=>?_
 refine y_ ?_
 refine A.valE 9 rfl (x':=AI (p.gs.length:Nat)) (ai_eq n2) ?_
 refine A.nilTail 4 ty102.size rfl ?_
 refine A.keep [0,4,8,9,10] rfl ?_
 refine l_ (Λ':=[.tail ty102.size (.slice none 0 0)]) ?_
 refine A.loopP (ι:=Nat×Value) (fun q=>(⟨[(0,rnA s),(4, .sl 17 (((p.gs.take q.1).flatMap (waitG s)).map actA) (some q.2)),(8,gsA p.gs),(9,AI (p.gs.length:Nat)),(10,AI (q.1:Nat))],[]⟩,[.tail ty102.size q.2])) (fun q=>q.1≤p.gs.length) (fun q=>p.gs.length-q.1) (0, .slice none 0 0) (Nat.zero_le _) rfl fun q hi ih=>?_
 obtain ⟨i,z⟩:=q
 simp only at hi
 have hfl:=flat_len (waitG s) (waitG_len s) (p.gs.take i)
 rw [List.length_take] at hfl
 refine y_ ?_
 refine k_ (fun hc=>?_) fun hc=>?_
 ·have hci:i<p.gs.length:=by simpa using hc
  clear hc
  refine Exists.elim (at_exN (l:=p.gs) (i:=i) hci) fun g hgi=>?_
  obtain ⟨⟨hw1,hw2⟩,y,hy⟩:=hg g (List.mem_of_getElem? hgi)
  have hby:(encRl g.body)[(0:Int).toNat]? =some (encR y):=encRl_at (by rw [hy];rfl)
  have hhd:headR g.body=y:=by rw [hy];rfl
  have htk:(p.gs.take (i+1)).flatMap (waitG s)=(p.gs.take i).flatMap (waitG s)++waitG s g:=by rw [List.take_add_one,hgi,List.flatMap_append];show _++[g].flatMap _=_;simp
  refine y_ ?_
  refine j_ rfl (encGl_at hgi) (encG_eq g) ?_
  (refine b_ fun bx=>?_;refine y_ ?_)
  refine k_ (fun hc=>?_) fun hc=>?_
  ·have hn:g.cond.n≠1:=by have h:(g.cond.n !=1)=true:=hc;simpa using h
   have hwg:waitG s g=[]:=by unfold waitG;rw [if_pos hn]
   rw [hwg,List.append_nil] at htk
   refine y_ ?_
   refine A.valE 4 rfl (x':= .sl 17 (((p.gs.take (i+1)).flatMap (waitG s)).map actA) (some z)) (by rw [htk]) ?_
   refine A.valE 10 rfl (x':=AI ((i+1:Nat):Int)) (inc_eq i (by omega)) ?_
   refine l_ (Λ':=[.tail ty102.size z]) ?_
   refine u_ (ih (i+1,z) (by show i+1≤_;omega) (by show _-(i+1)<_-i;omega))
  have hn:g.cond.n=1:=by have h:(g.cond.n !=1)=false:=hc;simpa using h
  clear hc
  refine y_ ?_
  refine k_ (fun hc=>?_) fun hc=>?_
  ·have h3:g.kind=3:=by have h:(g.kind==3)=true:=hc;simpa using h
   have hwg:waitG s g=inputM s g.c g.item g.to y:=by unfold waitG;rw [if_neg (by rw [hn];decide),if_pos h3,hhd]
   have hin:=ninput_p s g.c g.item g.to y hs hw1 hw2
   rw [←hwg] at hin
   refine d_ 13 [0,1,2,3,4,5,6,7,8,9,10,11,12] [(12,actsA (waitG s g))] ?_
   refine iw_ rfl hby (encR_eq y) ?_
   refine WA.c rfl rfl hin (.sub .refl) ?_
   refine WA.nil (l:=[]) rfl ?_
   refine A.append rfl rfl rfl rfl rfl rfl rfl rfl rfl rfl rfl rfl rfl rfl (by show ((((p.gs.take i).flatMap (waitG s)).map actA).length+((waitG s g).map actA).length)*17≤_;have:=waitG_len s g;rw [List.length_map,List.length_map];omega) fun z'=>?_
   refine y_ ?_
   refine A.valE 4 rfl (x':= .sl 17 (((p.gs.take (i+1)).flatMap (waitG s)).map actA) (some z')) (by rw [htk,List.map_append];rfl) ?_
   refine A.valE 10 rfl (x':=AI ((i+1:Nat):Int)) (inc_eq i (by omega)) ?_
   refine l_ (Λ':=[.tail ty102.size z']) ?_
   refine u_ (ih (i+1,z') (by show i+1≤_;omega) (by show _-(i+1)<_-i;omega))
  have h3:g.kind≠3:=by have h:(g.kind==3)=false:=hc;simpa using h
  clear hc
  have hta:=tau_p s s.store y
  refine y_ ?_
  ((fail_if_success (refine A.lit? rfl ?_));refine A.gS rfl (fun hc=>?_) (fun hc=>?_))
  ·have h2:g.kind=2:=by have h:(g.kind==2)=true:=hc;simpa using h
   clear hc
   have hwg:waitG s g=tauM s.store y:=by unfold waitG;rw [if_neg (by rw [hn];decide),if_neg h3,if_pos (.inl h2),hhd]
   rw [←hwg] at hta
   refine y_ ?_
   refine d_ 12 [0,1,2,3,4,5,6,7,8,9,10,11] [(11,actsA (waitG s g))] ?_
   refine iw_ rfl hby (encR_eq y) ?_
   refine WA.c rfl rfl hta (.sub s_) ?_
   refine WA.nil (l:=[]) rfl ?_
   refine A.append rfl rfl rfl rfl rfl rfl rfl rfl rfl rfl rfl rfl rfl rfl (by show ((((p.gs.take i).flatMap (waitG s)).map actA).length+((waitG s g).map actA).length)*17≤_;have:=waitG_len s g;rw [List.length_map,List.length_map];omega) fun z'=>?_
   refine y_ ?_
   refine A.valE 4 rfl (x':= .sl 17 (((p.gs.take (i+1)).flatMap (waitG s)).map actA) (some z')) (by rw [htk,List.map_append];rfl) ?_
   refine A.valE 10 rfl (x':=AI ((i+1:Nat):Int)) (inc_eq i (by omega)) ?_
   refine l_ (Λ':=[.tail ty102.size z']) ?_
   refine u_ (ih (i+1,z') (by show i+1≤_;omega) (by show _-(i+1)<_-i;omega))
  ·have h2:g.kind≠2:=by have h:(g.kind==2)=false:=hc;simpa using h
   clear hc
   have haf:=after_p s g.time.n
   refine y_ ?_
   refine n_ haf ?_
   by_cases ha:afterM s g.time.n=true
   ·have hwg:waitG s g=tauM s.store y:=by unfold waitG;rw [if_neg (by rw [hn];decide),if_neg h3,if_pos (.inr ha),hhd]
    rw [←hwg] at hta
    refine e_ 46 rfl (x':=AB true) (ab_eq ha) ?_
    refine d_ 12 [0,1,2,3,4,5,6,7,8,9,10,11] [(11,actsA (waitG s g))] ?_
    refine iw_ rfl hby (encR_eq y) ?_
    refine WA.c rfl rfl hta (.sub s_) ?_
    refine WA.nil (l:=[]) rfl ?_
    refine A.append rfl rfl rfl rfl rfl rfl rfl rfl rfl rfl rfl rfl rfl rfl (by show ((((p.gs.take i).flatMap (waitG s)).map actA).length+((waitG s g).map actA).length)*17≤_;have:=waitG_len s g;rw [List.length_map,List.length_map];omega) fun z'=>?_
    refine y_ ?_
    refine A.valE 4 rfl (x':= .sl 17 (((p.gs.take (i+1)).flatMap (waitG s)).map actA) (some z')) (by rw [htk,List.map_append];rfl) ?_
    refine A.valE 10 rfl (x':=AI ((i+1:Nat):Int)) (inc_eq i (by omega)) ?_
    refine l_ (Λ':=[.tail ty102.size z']) ?_
    refine u_ (ih (i+1,z') (by show i+1≤_;omega) (by show _-(i+1)<_-i;omega))
   ·have hwg:waitG s g=[]:=by unfold waitG;rw [if_neg (by rw [hn];decide),if_neg h3,if_neg (by rintro (h|h);exact h2 h;exact ha h)]
    rw [hwg,List.append_nil] at htk
    refine e_ 46 rfl (x':=AB false) (ab_eq (by simpa using ha)) ?_
    refine A.valE 4 rfl (x':= .sl 17 (((p.gs.take (i+1)).flatMap (waitG s)).map actA) (some z)) (by rw [htk]) ?_
    refine A.valE 10 rfl (x':=AI ((i+1:Nat):Int)) (inc_eq i (by omega)) ?_
    refine l_ (Λ':=[.tail ty102.size z]) ?_
    refine u_ (ih (i+1,z) (by show i+1≤_;omega) (by show _-(i+1)<_-i;omega))
 have hci: ¬i<p.gs.length:=by simpa using hc
 clear hc
 have hil:i=p.gs.length:=by omega
 refine y_ ?_;refine R_ ?_
 rw [hil,List.take_length]
 exact .own1
theorem enterM_cons(st:List (List Int))(g:GD)(r:List GD):enterM st (g::r)=match enterG st g with
 |none=>none
 |some y=>(enterM st r).map (y:: ·):=rfl
abbrev numA(x:Int):List AV:=[AU8 1,AU8 0,AU8 0,AI32 x,AI 0, .sl 6 [] none]
abbrev G1(g:GD)(x:Int):AV:= .ag [AU8 g.kind,AU8 1,AU8 0,AU8 0,AI32 x,AI 0, .sl 6 [] none,AI g.c,AU8 g.item,AI g.to.v,kesA g.to.ix,AU8 g.time.kind,AU8 g.time.oper,AU8 g.time.to,AI32 g.time.n,AI g.time.v,kesA g.time.l,rsA g.body]
abbrev G2(g:GD)(x t:Int):AV:= .ag [AU8 g.kind,AU8 1,AU8 0,AU8 0,AI32 x,AI 0, .sl 6 [] none,AI g.c,AU8 g.item,AI g.to.v,kesA g.to.ix,AU8 1,AU8 0,AU8 0,AI32 t,AI 0, .sl 6 [] none,rsA g.body]
theorem G1_eq(g:GD)(x:Int):cellsG ⟨g.kind,numE x,g.c,g.item,g.to,g.time,g.body⟩=G1 g x:=by
 show AV.ag [_,_,_,_,_,_,AV.sl 6 (encKl []) none,_,_,_,_,_,_,_,_,_,_,_]=_
 rw [encKl]
theorem G2_eq(g:GD)(x t:Int):cellsG ⟨g.kind,numE x,g.c,g.item,g.to,numE t,g.body⟩=G2 g x t:=by
 show AV.ag [_,_,_,_,_,_,AV.sl 6 (encKl []) none,_,_,_,_,_,_,_,_,_,AV.sl 6 (encKl []) none,_]=_
 rw [encKl]
def rowD(d l:List GD):List AV:=d.map cellsG++(l.drop d.length).map cellsG
theorem rowD_len{d l:List GD}(h:d.length≤l.length):(rowD d l).length=l.length:=by
 rw [rowD,List.length_append,List.length_map,List.length_map,List.length_drop];omega
theorem rowD_at{d l:List GD}{g:GD}(h:l[d.length]? =some g):(rowD d l)[d.length]? =some (cellsG g):=by
 rw [rowD,List.getElem?_append_right (by rw [List.length_map];exact Nat.le_refl _),List.length_map,Nat.sub_self,drop_at h];rfl
theorem rowD_set{d l:List GD}{g:GD}(h:l[d.length]? =some g)(y:GD):(rowD d l).set d.length (cellsG y)=rowD (d++[y]) l:=by
 unfold rowD
 rw [List.set_append_right _ _ (by rw [List.length_map];exact Nat.le_refl _),List.length_map,Nat.sub_self,drop_at h,List.map_cons,List.set_cons_zero,List.length_append,List.length_singleton,List.map_append]
 simp
theorem enter_p(s:ST)(p:PR)(hs:wfS s.store)(hg: ∀g,g∈p.gs→wfK g.cond∧wfK g.time)(hb:p.gs.length≤16):Pure Tryz.prog gs0 119 [rnA s,cellsR p] (actsA (enteredM s p)):=by
 have hcl:=cloneG_p p.gs (by omega)
 refine Exists.elim (show∃R,R=enteredM s p from ⟨_,rfl⟩) fun R hR=>?_
 rw [←hR]
 unfold enteredM at hR
 refine p_ tt_ok Tryz.func119 89 fun w0 h0 F hgs=>?_
 (repeat refine A.s rfl ?_)
 refine A.b rfl fun b1=>?_
 refine y_ ?_
 refine A.e rfl hcl .refl (List.Perm.refl _) fun z _=>?_
 refine A.rowRaw (List.mem_cons_self ..) fun a cp hz hcp=>?_
 rw [encGl_len] at hz hcp
 subst hz
 refine y_ ?_
 refine A.keep [0,5,15,16,17] rfl ?_
 refine A.entsEq (Λ':=[.row 18 (.slice a p.gs.length cp) (rowD [] p.gs), .box b1 (cellsR p)]) (by rw [rowD,List.map_nil,List.nil_append,List.length_nil,List.drop_zero,encGl_cells];rfl) ?_
 refine l_ (Λ':=[.row 18 (.slice a p.gs.length cp) (rowD [] p.gs)]) ?_
 refine A.loopP (ι:=List GD) (fun d=>(⟨[(0,rnA s),(5, .ms (.slice a p.gs.length cp) 18 p.gs.length),(15, .ms (.slice a p.gs.length cp) 18 p.gs.length),(16,AI (p.gs.length:Nat)),(17,AI (d.length:Nat))],[]⟩,[.row 18 (.slice a p.gs.length cp) (rowD d p.gs)]))
  (fun d=>d.length≤p.gs.length∧enterM s.store p.gs=(enterM s.store (p.gs.drop d.length)).map (d++ ·)) (fun d=>p.gs.length-d.length) [] ⟨Nat.zero_le _,by rw [List.length_nil,List.drop_zero];cases enterM s.store p.gs<;>rfl⟩ rfl fun d hd ih=>?_
 obtain ⟨hd1,hd2⟩:=hd
 have hln:=rowD_len hd1
 refine y_ ?_
 refine k_ (fun hc=>?_) fun hc=>?_
 ·have hci:d.length<p.gs.length:=by simpa using hc
  clear hc
  refine Exists.elim (at_exN (l:=p.gs) (i:=d.length) hci) fun g hgi=>?_
  obtain ⟨hw1,hw2⟩:=hg g (List.mem_of_getElem? hgi)
  have hat:=rowD_at hgi
  have hv:=Value_p s.store hs g.cond hw1
  rw [encK_eq] at hv
  have hvt:=Value_p s.store hs g.time hw2
  rw [encK_eq] at hvt
  rw [drop_at hgi,enterM_cons] at hd2
  refine Exists.elim (show∃o,valueM s.store g.time=o from ⟨_,rfl⟩) fun oy hy=>?_
  refine Exists.elim (show∃o,valueM s.store g.cond=o from ⟨_,rfl⟩) fun ox hx=>?_
  rw [hy] at hvt
  rw [hx] at hv
  have hne:rowD d p.gs≠[]:=by intro h;rw [h] at hln;simp at hln;omega
  refine A.rowSome (a:=a) (n:=p.gs.length) (c:=cp) (sz:=18) (l:=rowD d p.gs) hne fun bb o ha=>?_
  subst ha
  refine y_ ?_
  refine A.indexRow rfl rfl rfl rfl rfl rfl rfl rfl (by show (0:Int)≤(d.length:Nat);omega) (by rw [hln];omega) rfl ?_
  refine A.loadRow rfl rfl rfl rfl rfl rfl (y':=cellsG g) rfl hat rfl rfl ?_
  (refine b_ fun bx=>?_;refine y_ ?_)
  cases ox with
  |none=>
   have hRR:R=tauM s.store stopR:=by
    have h1:enterG s.store g=none:=by unfold enterG;rw [hx]
    rw [h1] at hd2
    rw [show enterM s.store p.gs=none from hd2] at hR
    exact hR
   refine d_ 12 [0,1,2,3,4,5,6,7,8,9,10,11] [(7,optA none)] ?_
   refine cw_ hv ?_
   refine WA.nil (l:=[]) rfl ?_
   refine g_ ?_
   refine e_ 38 rfl (x':=AB false) (ab_eq (by show (bif (g.kind==4) then false else false)=false;cases (g.kind==4)<;>rfl)) ?_
   refine d_ 7 [0,1,2,3,4,5,6] [(6,cellsR stopR)] ?_
   refine WA.c rfl rfl stop_p (.sub .refl) ?_
   refine WA.nil (l:=[]) rfl ?_
   refine c_ (tau_p s s.store stopR) ?_;refine R_ ?_;rw [hRR];exact .refl
  |some x=>
   refine d_ 12 [0,1,2,3,4,5,6,7,8,9,10,11] [(7,optA (some x))] ?_
   refine cw_ hv ?_
   refine z_ ?_
   ((fail_if_success (refine A.lit? rfl ?_));refine A.gS rfl (fun hc=>?_) (fun hc=>?_))
   ·have h4:g.kind=4:=by have h:(g.kind==4)=true:=hc;simpa using h
    clear hc
    refine y_ ?_
    cases oy with
    |none=>
     have hRR:R=tauM s.store stopR:=by
      have h1:enterG s.store g=none:=by unfold enterG;rw [hx];simp only;rw [if_pos h4,hy]
      rw [h1] at hd2
      rw [show enterM s.store p.gs=none from hd2] at hR
      exact hR
     refine d_ 12 [0,1,2,3,4,5,6,7,8,9,10,11] [(7,optA none)] ?_
     refine cw_ hvt ?_
     refine z_ ?_
     refine d_ 7 [0,1,2,3,4,5,6] [(6,cellsR stopR)] ?_
     refine WA.c rfl rfl stop_p (.sub .refl) ?_
     refine WA.nil (l:=[]) rfl ?_
     refine c_ (tau_p s s.store stopR) ?_;refine R_ ?_;rw [hRR];exact .refl
    |some t=>
     refine d_ 12 [0,1,2,3,4,5,6,7,8,9,10,11] [(7,optA (some t))] ?_
     refine cw_ hvt ?_
     refine WA.nil (l:=[]) rfl ?_
     have h1:enterG s.store g=some ⟨g.kind,numE x,g.c,g.item,g.to,numE t,g.body⟩:=by unfold enterG;rw [hx];simp only;rw [if_pos h4,hy]
     refine Exists.elim (show∃Y:GD,Y=⟨g.kind,numE x,g.c,g.item,g.to,numE t,g.body⟩ from ⟨_,rfl⟩) fun Y hY=>?_
     have hd3:enterM s.store p.gs=(enterM s.store (p.gs.drop (d++[Y]).length)).map ((d++[Y])++ ·):=by
      rw [hd2,h1,←hY,List.length_append,List.length_singleton]
      show ((enterM s.store (p.gs.drop (d.length+1))).map (Y:: ·)).map (d++ ·)=_
      cases enterM s.store (p.gs.drop (d.length+1)) with
      |none=>rfl
      |some l=>simp
     refine y_ ?_
     refine A.val 67 rfl (x':= .ag (numA x)) s_ ?_
     refine A.indexRow rfl rfl rfl rfl rfl rfl rfl rfl (by show (0:Int)≤(d.length:Nat);omega) (by rw [hln];omega) rfl ?_
     refine A.epV 68 rfl ?_
     refine y_ ?_
     refine A.storeRowF d.length 1 ty153 rfl rfl rfl rfl rfl p.gs.length cp o ?_ hat (x':=G1 g x) rfl rfl rfl rfl rfl ?_
     ·simp
     refine y_ ?_
     refine e_ 72 rfl (x':=AB true) (ab_eq (by rw [h4];rfl)) ?_
     refine A.val 76 rfl (x':= .ag (numA t)) s_ ?_
     refine A.indexRow rfl rfl rfl rfl rfl rfl rfl rfl (by show (0:Int)≤(d.length:Nat);omega) (by rw [List.length_set,hln];omega) rfl ?_
     refine A.epV 77 rfl ?_
     refine y_ ?_
     refine A.storeRowF d.length 11 ty153 rfl rfl rfl rfl rfl p.gs.length cp o ?_ (x:=G1 g x) (by rw [List.getElem?_set_self (by rw [hln];exact hci)]) (x':=G2 g x t) rfl rfl rfl rfl (xs':=rowD (d++[Y]) p.gs) (by rw [List.set_set,←G2_eq,←hY];exact rowD_set hgi Y) ?_
     ·simp
     refine y_ ?_
     refine A.valE 17 rfl (x':=AI ((d++[Y]).length:Nat)) (by rw [List.length_append,List.length_singleton];exact inc_eq d.length (by omega)) ?_
     refine l_ (Λ':=[.row 18 (.slice (some ⟨bb,o,none⟩) p.gs.length cp) (rowD (d++[Y]) p.gs)]) ?_
     refine u_ (ih (d++[Y]) ⟨by rw [List.length_append,List.length_singleton];omega,hd3⟩ (by rw [List.length_append,List.length_singleton];omega))
   ·have h4:g.kind≠4:=by have h:(g.kind==4)=false:=hc;simpa using h
    clear hc
    have h1:enterG s.store g=some ⟨g.kind,numE x,g.c,g.item,g.to,g.time,g.body⟩:=by unfold enterG;rw [hx];simp only;rw [if_neg h4]
    refine Exists.elim (show∃Y:GD,Y=⟨g.kind,numE x,g.c,g.item,g.to,g.time,g.body⟩ from ⟨_,rfl⟩) fun Y hY=>?_
    have hd3:enterM s.store p.gs=(enterM s.store (p.gs.drop (d++[Y]).length)).map ((d++[Y])++ ·):=by
     rw [hd2,h1,←hY,List.length_append,List.length_singleton]
     show ((enterM s.store (p.gs.drop (d.length+1))).map (Y:: ·)).map (d++ ·)=_
     cases enterM s.store (p.gs.drop (d.length+1)) with
     |none=>rfl
     |some l=>simp
    refine y_ ?_
    refine A.val 67 rfl (x':= .ag (numA x)) s_ ?_
    refine A.indexRow rfl rfl rfl rfl rfl rfl rfl rfl (by show (0:Int)≤(d.length:Nat);omega) (by rw [hln];omega) rfl ?_
    refine A.epV 68 rfl ?_
    refine y_ ?_
    refine A.storeRowF d.length 1 ty153 rfl rfl rfl rfl rfl p.gs.length cp o ?_ hat (x':=G1 g x) rfl rfl rfl rfl (xs':=rowD (d++[Y]) p.gs) (by rw [←G1_eq,←hY];exact rowD_set hgi Y) ?_
    ·simp
    refine y_ ?_
    refine e_ 72 rfl (x':=AB false) (ab_eq (by rw [beq_eq_false_iff_ne];exact h4)) ?_
    refine A.valE 17 rfl (x':=AI ((d++[Y]).length:Nat)) (by rw [List.length_append,List.length_singleton];exact inc_eq d.length (by omega)) ?_
    refine l_ (Λ':=[.row 18 (.slice (some ⟨bb,o,none⟩) p.gs.length cp) (rowD (d++[Y]) p.gs)]) ?_
    refine u_ (ih (d++[Y]) ⟨by rw [List.length_append,List.length_singleton];omega,hd3⟩ (by rw [List.length_append,List.length_singleton];omega))
 have hci: ¬d.length<p.gs.length:=by simpa using hc
 clear hc ih
 have hdl:d.length=p.gs.length:=by omega
 rw [List.drop_eq_nil_of_le (by omega)] at hd2
 have hd3:enterM s.store p.gs=some d:=by rw [hd2];show some (d++[])=_;rw [List.append_nil]
 rw [hd3] at hR
 have hRR:R=tauM s.store ⟨16,0,0,0,[],[],d,[]⟩:=hR
 have hta:=tau_p s s.store ⟨16,0,0,0,[],[],d,[]⟩
 have e9:cellsR ⟨16,0,0,0,[],[],d,[]⟩= .ag [AU8 16,AI 0,AI 0,AU8 0, .sl 2 [] none, .sl 6 [] none, .sl 18 (rowD d p.gs) none, .sl 8 [] none]:=by
  show AV.ag [_,_,_,_,AV.sl 2 _ none,AV.sl 6 (encKl []) none,AV.sl 18 (encGl d) none,AV.sl 8 (encRl []) none]=_
  rw [encKl,encRl,encGl_cells,rowD,List.drop_eq_nil_of_le (by omega)];simp
 rw [e9] at hta
 refine A.freezeRow 5 rfl ?_
 refine y_ ?_
 refine c_ hta ?_;refine R_ ?_;rw [hRR];exact .refl
section
variable{V:List KV}{C:List Int}
theorem shape_lens{p:PR}{ch v:Bool}{t1 t2 e1 e2 g1 g2 l1 l2:Int}(h:shapeR p ch v t1 t2 e1 e2 g1 g2 l1 l2=true):(t1≤p.to.length∧(p.to.length:Int)≤t2)∧(e1≤p.e.length∧(p.e.length:Int)≤e2)∧(g1≤p.gs.length∧(p.gs.length:Int)≤g2)∧(l1≤p.l.length∧(p.l.length:Int)≤l2):=by
 simp only [shapeR,inB,Bool.and_eq_true,decide_eq_true_eq] at h
 omega
theorem Loc.k3{p:PR}(h:Loc V C p)(hk:p.kind=3):0≤p.v∧p.v<V.length:=by
 have h1:=h.kind
 obtain ⟨k,c,v,i,to,e,gs,l⟩:=p
 have hk:k=3:=hk
 subst hk
 have h2:(shapeR ⟨3,c,v,i,to,e,gs,l⟩ false true 0 0 0 0 0 0 0 0&&decide (0≤v)&&decide (v<V.length))=true:=h1
 simp only [Bool.and_eq_true,decide_eq_true_eq] at h2
 exact ⟨h2.1.2,h2.2⟩
theorem Loc.k4{p:PR}(h:Loc V C p)(hk:p.kind=4):p.to.length=p.e.length∧(p.to.zip p.e).all (fun te=>assignB V te.1 te.2)=true:=by
 have h1:=h.kind
 obtain ⟨k,c,v,i,to,e,gs,l⟩:=p
 have hk:k=4:=hk
 subst hk
 have h2:(shapeR ⟨4,c,v,i,to,e,gs,l⟩ false false 1 8 1 8 0 0 0 0&&(to.length==e.length)&&(to.zip e).all fun te=>assignB V te.1 te.2)=true:=h1
 simp only [Bool.and_eq_true,beq_iff_eq] at h2
 exact ⟨h2.1.2,h2.2⟩
theorem one_ofR{α:Type}{l:List α}(h:l.length=1): ∃x,l=[x]:=by
 match l,h with
 | [x],_=>exact ⟨x,rfl⟩
theorem Loc.k5{p:PR}(h:Loc V C p)(hk:p.kind=5): ∃t,p.to=[t]∧inputB V C.length p.c p.item t=true:=by
 have h1:=h.kind
 obtain ⟨k,c,v,i,to,e,gs,l⟩:=p
 have hk:k=5:=hk
 subst hk
 have h2:(shapeR ⟨5,c,v,i,to,e,gs,l⟩ true false 1 1 0 0 0 0 0 0&&to1 (inputB V C.length c i) to)=true:=h1
 rw [Bool.and_eq_true] at h2
 have h3:=(shape_lens h2.1).1
 obtain ⟨t,ht⟩:=one_ofR (l:=to) (by have:(to.length:Int)=to.length:=rfl;have h4:(1:Int)≤to.length:=h3.1;have h5:(to.length:Int)≤1:=h3.2;omega)
 subst ht
 exact ⟨t,rfl,h2.2⟩
theorem Loc.k6{p:PR}(h:Loc V C p)(hk:p.kind=6): ∃e,p.e=[e]∧chanB C.length p.c p.item 0=true∧fitV V e p.item=true:=by
 have h1:=h.kind
 obtain ⟨k,c,v,i,to,e,gs,l⟩:=p
 have hk:k=6:=hk
 subst hk
 have h2:(shapeR ⟨6,c,v,i,to,e,gs,l⟩ true false 0 0 1 1 0 0 0 0&&chanB C.length c i 0&&fit1 V e i)=true:=h1
 rw [Bool.and_eq_true,Bool.and_eq_true] at h2
 have h3:=(shape_lens h2.1.1).2.1
 obtain ⟨t,ht⟩:=one_ofR (l:=e) (by have h4:(1:Int)≤e.length:=h3.1;have h5:(e.length:Int)≤1:=h3.2;omega)
 subst ht
 exact ⟨t,rfl,h2.1.2,h2.2⟩
theorem Loc.k7{p:PR}(h:Loc V C p)(hk:p.kind=7): ∃t,p.to=[t]∧placeB V t 1=true:=by
 have h1:=h.kind
 obtain ⟨k,c,v,i,to,e,gs,l⟩:=p
 have hk:k=7:=hk
 subst hk
 have h2:(shapeR ⟨7,c,v,i,to,e,gs,l⟩ false false 1 1 0 0 0 0 0 0&&to1 (fun t=>placeB V t 1) to)=true:=h1
 rw [Bool.and_eq_true] at h2
 have h3:=(shape_lens h2.1).1
 obtain ⟨t,ht⟩:=one_ofR (l:=to) (by have h4:(1:Int)≤to.length:=h3.1;have h5:(to.length:Int)≤1:=h3.2;omega)
 subst ht
 exact ⟨t,rfl,h2.2⟩
theorem Loc.k8{p:PR}(h:Loc V C p)(hk:p.kind=8): ∃e,p.e=[e]∧fitV V e 1=true:=by
 have h1:=h.kind
 obtain ⟨k,c,v,i,to,e,gs,l⟩:=p
 have hk:k=8:=hk
 subst hk
 have h2:(shapeR ⟨8,c,v,i,to,e,gs,l⟩ false false 0 0 1 1 0 0 0 0&&fit1 V e 1)=true:=h1
 rw [Bool.and_eq_true] at h2
 have h3:=(shape_lens h2.1).2.1
 obtain ⟨t,ht⟩:=one_ofR (l:=e) (by have h4:(1:Int)≤e.length:=h3.1;have h5:(e.length:Int)≤1:=h3.2;omega)
 subst ht
 exact ⟨t,rfl,h2.2⟩
theorem Loc.k13{p:PR}(h:Loc V C p)(hk:p.kind=13): ∃e b,p.e=[e]∧p.l=[b]∧fitV V e 3=true:=by
 have h1:=h.kind
 obtain ⟨k,c,v,i,to,e,gs,l⟩:=p
 have hk:k=13:=hk
 subst hk
 have h2:(shapeR ⟨13,c,v,i,to,e,gs,l⟩ false false 0 0 1 1 0 0 1 1&&fit1 V e 3)=true:=h1
 rw [Bool.and_eq_true] at h2
 have h3:=shape_lens h2.1
 obtain ⟨t,ht⟩:=one_ofR (l:=e) (by have h4:(1:Int)≤e.length:=h3.2.1.1;have h5:(e.length:Int)≤1:=h3.2.1.2;omega)
 obtain ⟨b,hb⟩:=one_ofR (l:=l) (by have h4:(1:Int)≤l.length:=h3.2.2.2.1;have h5:(l.length:Int)≤1:=h3.2.2.2.2;omega)
 subst ht;subst hb
 exact ⟨t,b,rfl,rfl,h2.2⟩
end
theorem GoodK.small{k:KN}{s:ST}(h:GoodK k s):Small s.store:=mayB_short h.store
theorem clearM_succ(st:List (List Int))(v:Int)(n:Nat):clearM st v (n+1)=putM (clearM st v n) v (n:Nat) 0:=by
 unfold clearM
 rw [List.range_succ,List.foldl_append];rfl
theorem clear_small{st:List (List Int)}(h:Small st)(v:Int): ∀n,Small (clearM st v n)
 |0=>h
 |n+1=>by rw [clearM_succ];exact (clear_small h v n).put _ _ _
theorem does_3(s:ST)(p:PR)(hsm:Small s.store)(r:List Int)(hr:s.store[p.v.toNat]? =some r)(hv0:0≤p.v)(hk:p.kind=3):Pure Tryz.prog gs0 66 [rnA s,cellsR p] (actsA (tauM (clearM s.store p.v r.length) skipR)):=by
 have hrl:((r.map AI32).length:Int)=r.length:=by rw [List.length_map]
 have hr64:=hsm.2 r (List.mem_of_getElem? hr)
 refine p_ tt_ok Tryz.func66 120 fun w0 h0 F hgs=>?_
 (repeat refine A.s rfl ?_)
 refine A.b rfl fun b1=>?_
 refine y_ ?_
 refine e_ 12 rfl (x':=AB true) (ab_eq (by rw [hk];rfl)) ?_
 refine A.x rfl hv0 (map_at hr) rfl rfl ?_
 refine y_ ?_
 refine A.valE 24 rfl (x':=AI (r.length:Nat)) (ai_eq hrl) ?_
 refine A.keep [0,3,5,24,25] rfl ?_
 refine A.loopP (ι:=Nat) (fun i=>(⟨[(0,rnA s),(3,ptrA b1),(5,rowsA (clearM s.store p.v i)),(24,AI (r.length:Nat)),(25,AI (i:Nat))],[]⟩,[.box b1 (cellsR p)])) (fun i=>i≤r.length) (fun i=>r.length-i) 0 (Nat.zero_le _) rfl fun i hi ih=>?_
 refine y_ ?_
 refine k_ (fun hc=>?_) fun hc=>?_
 ·have hci:i<r.length:=by simpa using hc
  clear hc
  have hpp:=(clear_small hsm p.v i).put_p p.v (i:Nat) 0
  rw [←clearM_succ] at hpp
  refine y_ ?_
  refine c_ hpp ?_
  refine A.valE 25 rfl (x':=AI ((i+1:Nat):Int)) (inc_eq i (by omega)) ?_
  refine l_ (Λ':=[.box b1 (cellsR p)]) ?_
  refine u_ (ih (i+1) (by omega) (by omega))
 have hci: ¬i<r.length:=by simpa using hc
 clear hc ih
 have hil:i=r.length:=by omega
 refine y_ ?_
 refine n_ skip_p ?_
 refine c_ (tau_p s (clearM s.store p.v i) skipR) ?_;refine R_ ?_;rw [hil];exact .refl
theorem does_7(s:ST)(p:PR)(hs:wfS s.store)(hsm:Small s.store)(t:PL)(r:List PL)(ht:p.to=t::r)(hw:wfPl t)(hn:t.ix.length≤281474976710656)(hk:p.kind=7):Pure Tryz.prog gs0 66 [rnA s,cellsR p] (actsA (timeM s p)):=by
 have hp:=Place_p s.store hs t.v t.ix hw hn
 have hat:(p.to.map encPl)[(0:Int).toNat]? =some (encPl t):=by rw [ht];rfl
 refine Exists.elim (show∃R,R=timeM s p from ⟨_,rfl⟩) fun R hR=>?_
 rw [←hR]
 unfold timeM at hR
 rw [ht] at hR
 simp only at hR
 cases hx:placeM s.store t.v t.ix with
 |none=>
  rw [hx] at hp hR
  have hRR:R=tauM s.store stopR:=hR
  refine p_ tt_ok Tryz.func66 120 fun w0 h0 F hgs=>?_
  (refine b_ fun bx=>?_;refine y_ ?_)
  refine e_ 12 rfl (x':=AB false) (ab_eq (by rw [hk];rfl)) ?_
  refine e_ 38 rfl (x':=AB false) (ab_eq (by rw [hk];rfl)) ?_
  refine e_ 43 rfl (x':=AB true) (ab_eq (by rw [hk];rfl)) ?_
  refine d_ 16 [0,1,2,3,4,5,6,7,8,9,10,11,12,13,14,15] [(9,optP none)] ?_
  refine iw_ rfl hat rfl ?_
  refine cw_ hp ?_
  refine z_ ?_
  refine d_ 7 [0,1,2,3,4,5,6] [(6,cellsR stopR)] ?_
  refine WA.c rfl rfl stop_p (.sub .refl) ?_
  refine WA.nil (l:=[]) rfl ?_
  refine c_ (tau_p s s.store stopR) ?_;refine R_ ?_;rw [hRR];exact .refl
 |some vi=>
  rw [hx] at hp hR
  obtain ⟨v,i⟩:=vi
  have hRR:R=tauM (putM s.store v i s.time) skipR:=hR
  have hpp:=hsm.put_p v i s.time
  refine p_ tt_ok Tryz.func66 120 fun w0 h0 F hgs=>?_
  (refine b_ fun bx=>?_;refine y_ ?_)
  refine e_ 12 rfl (x':=AB false) (ab_eq (by rw [hk];rfl)) ?_
  refine e_ 38 rfl (x':=AB false) (ab_eq (by rw [hk];rfl)) ?_
  refine e_ 43 rfl (x':=AB true) (ab_eq (by rw [hk];rfl)) ?_
  refine d_ 16 [0,1,2,3,4,5,6,7,8,9,10,11,12,13,14,15] [(9,optP (some (v,i)))] ?_
  refine iw_ rfl hat rfl ?_
  refine cw_ hp ?_
  refine z_ ?_
  refine d_ 15 [0,1,2,3,4,5,6,7,8,9,10,11,12,13,14] [(13,rowsA (putM s.store v i s.time)),(14,cellsR skipR)] ?_
  refine cw_ hpp ?_
  refine WA.c rfl rfl skip_p (.sub .refl) ?_
  refine WA.nil (l:=[]) rfl ?_
  refine c_ (tau_p s (putM s.store v i s.time) skipR) ?_;refine R_ ?_;rw [hRR];exact .refl
theorem fits_wf{k:KN}{c:PR}(h:Loc k.vars k.chans c):(∀x,x∈c.e→wfK x)∧(∀t,t∈c.to→wfPl t∧t.ix.length≤281474976710656)∧(∀g,g∈c.gs→(wfK g.cond∧wfK g.time)∧(wfPl g.to∧g.to.ix.length≤281474976710656)∧ ∃y,g.body=[y]):=
 ⟨fun x hx=>(h.e x hx).1,fun t ht=>⟨(h.to t ht).1,smP_l (h.to t ht).2⟩,fun g hg=>⟨⟨(h.gs g hg).1.1,(h.gs g hg).2.1.1⟩,⟨(h.gs g hg).2.2.1,smP_l (h.gs g hg).2.2.2⟩,h.body g hg⟩⟩
theorem does_p(k:KN)(s:ST)(hg:GoodK k s)(p:PR)(h:Loc k.vars k.chans p):Pure Tryz.prog gs0 66 [rnA s,cellsR p] (actsA (doesM s p)):=by
 have hs:=hg.ws
 have hsm:=hg.small
 obtain ⟨f1,f2,f3⟩:=fits_wf h
 obtain ⟨l1,l2,l3,l4⟩:=h.lens
 by_cases k3:p.kind=3
 ·obtain ⟨h0,h1⟩:=h.k3 k3
  have hlen:s.store.length=k.vars.length:=by
   have:=hg.store
   unfold mayB at this
   simp only [Bool.and_eq_true,decide_eq_true_eq] at this
   exact this.1.1
  obtain ⟨r,hr⟩:=at_exN (l:=s.store) (i:=p.v.toNat) (by omega)
  have hd:doesM s p=tauM (clearM s.store p.v r.length) skipR:=by unfold doesM rowOf;rw [if_pos k3,hr]
  rw [hd]
  exact does_3 s p hsm r hr h0 k3
 by_cases k7:p.kind=7
 ·obtain ⟨t,ht,_⟩:=h.k7 k7
  have ht':=f2 t (by rw [ht];exact .head _)
  have hd:doesM s p=timeM s p:=by unfold doesM;rw [if_neg k3,if_neg (by omega),if_pos k7]
  rw [hd]
  exact does_7 s p hs hsm t [] ht ht'.1 ht'.2 k7
 by_cases k4:p.kind=4
 ·have hd:doesM s p=assignM s p:=by unfold doesM;rw [if_neg k3,if_pos k4]
  rw [hd]
  have ha:=assign_p s p hs hsm f1 f2 (h.k4 k4).1 l2
  obtain ⟨kk,c,v,i,to,e,gs,l⟩:=p
  have k4:kk=4:=k4
  subst k4
  refine p_ tt_ok Tryz.func66 120 fun w0 h0 F hgs=>?_
  (refine b_ fun bx=>?_;refine y_ ?_)
  exact cr_ ha
 by_cases k12:p.kind=12
 ·have hd:doesM s p=chooseM s p.gs:=by unfold doesM;rw [if_neg k3,if_neg k4,if_neg k7,if_pos k12]
  rw [hd]
  have ha:=choose_p s p hs (fun g hg=>⟨(f3 g hg).1.1,(f3 g hg).2.2⟩) (by omega)
  obtain ⟨kk,c,v,i,to,e,gs,l⟩:=p
  have k12:kk=12:=k12
  subst k12
  refine p_ tt_ok Tryz.func66 120 fun w0 h0 F hgs=>?_
  (refine b_ fun bx=>?_;refine y_ ?_)
  exact cr_ ha
 by_cases k14:p.kind=14
 ·have hd:doesM s p=enteredM s p:=by unfold doesM;rw [if_neg k3,if_neg k4,if_neg k7,if_neg k12,if_pos (.inl k14)]
  rw [hd]
  have ha:=enter_p s p hs (fun g hg=>(f3 g hg).1) l3
  obtain ⟨kk,c,v,i,to,e,gs,l⟩:=p
  have k14:kk=14:=k14
  subst k14
  refine p_ tt_ok Tryz.func66 120 fun w0 h0 F hgs=>?_
  (refine b_ fun bx=>?_;refine y_ ?_)
  exact cr_ ha
 by_cases k15:p.kind=15
 ·have hd:doesM s p=enteredM s p:=by unfold doesM;rw [if_neg k3,if_neg k4,if_neg k7,if_neg k12,if_pos (.inr k15)]
  rw [hd]
  have ha:=enter_p s p hs (fun g hg=>(f3 g hg).1) l3
  obtain ⟨kk,c,v,i,to,e,gs,l⟩:=p
  have k15:kk=15:=k15
  subst k15
  refine p_ tt_ok Tryz.func66 120 fun w0 h0 F hgs=>?_
  (refine b_ fun bx=>?_;refine y_ ?_)
  exact cr_ ha
 by_cases k16:p.kind=16
 ·have hd:doesM s p=p.gs.flatMap (waitG s):=by unfold doesM;rw [if_neg k3,if_neg k4,if_neg k7,if_neg k12,if_neg (by omega),if_pos k16]
  rw [hd]
  have ha:=waiting_p s p hs (fun g hg=>(f3 g hg).2) l3
  obtain ⟨kk,c,v,i,to,e,gs,l⟩:=p
  have k16:kk=16:=k16
  subst k16
  refine p_ tt_ok Tryz.func66 120 fun w0 h0 F hgs=>?_
  (refine b_ fun bx=>?_;refine y_ ?_)
  exact cr_ ha
 by_cases k5:p.kind=5
 ·obtain ⟨t,ht,_⟩:=h.k5 k5
  have ht':=f2 t (by rw [ht];exact .head _)
  have hd:doesM s p=inputM s p.c p.item t skipR:=by unfold doesM inM;rw [if_neg k3,if_neg k4,if_neg k7,if_neg k12,if_neg (by omega),if_neg k16,if_pos k5,ht]
  rw [hd]
  have ha:=ninput_p s p.c p.item t skipR hs ht'.1 ht'.2
  have hat:(p.to.map encPl)[(0:Int).toNat]? =some (encPl t):=by rw [ht];rfl
  obtain ⟨kk,c,v,i,to,e,gs,l⟩:=p
  have k5:kk=5:=k5
  subst k5
  refine p_ tt_ok Tryz.func66 120 fun w0 h0 F hgs=>?_
  (refine b_ fun bx=>?_;refine y_ ?_)
  refine d_ 10 [0,1,2,3,4,5,6,7,8,9] [(9,cellsR skipR)] ?_
  refine iw_ rfl hat rfl ?_
  refine WA.c rfl rfl skip_p (.sub .refl) ?_
  refine WA.nil (l:=[]) rfl ?_
  exact cr_ ha
 by_cases k8:p.kind=8
 ·obtain ⟨e0,he,_⟩:=h.k8 k8
  have hd:doesM s p=valuedM s p:=by unfold doesM;rw [if_neg k3,if_neg k4,if_neg k7,if_neg k12,if_neg (by omega),if_neg k16,if_neg k5,if_pos (.inl k8)]
  rw [hd]
  have ha:=valued_p s p e0 [] he hs (f1 e0 (by rw [he];exact .head _)) skipR (fun h=>by omega)
  obtain ⟨kk,c,v,i,to,e,gs,l⟩:=p
  have k8:kk=8:=k8
  subst k8
  refine p_ tt_ok Tryz.func66 120 fun w0 h0 F hgs=>?_
  (refine b_ fun bx=>?_;refine y_ ?_)
  exact cr_ ha
 by_cases k13:p.kind=13
 ·obtain ⟨e0,b,he,hb,_⟩:=h.k13 k13
  have hd:doesM s p=valuedM s p:=by unfold doesM;rw [if_neg k3,if_neg k4,if_neg k7,if_neg k12,if_neg (by omega),if_neg k16,if_neg k5,if_pos (.inr (.inl k13))]
  rw [hd]
  have ha:=valued_p s p e0 [] he hs (f1 e0 (by rw [he];exact .head _)) b (fun _=>⟨[],hb⟩)
  obtain ⟨kk,c,v,i,to,e,gs,l⟩:=p
  have k13:kk=13:=k13
  subst k13
  refine p_ tt_ok Tryz.func66 120 fun w0 h0 F hgs=>?_
  (refine b_ fun bx=>?_;refine y_ ?_)
  exact cr_ ha
 by_cases k6:p.kind=6
 ·obtain ⟨e0,he,_⟩:=h.k6 k6
  have hd:doesM s p=valuedM s p:=by unfold doesM;rw [if_neg k3,if_neg k4,if_neg k7,if_neg k12,if_neg (by omega),if_neg k16,if_neg k5,if_pos (.inr (.inr k6))]
  rw [hd]
  have ha:=valued_p s p e0 [] he hs (f1 e0 (by rw [he];exact .head _)) skipR (fun h=>by omega)
  obtain ⟨kk,c,v,i,to,e,gs,l⟩:=p
  have k6:kk=6:=k6
  subst k6
  refine p_ tt_ok Tryz.func66 120 fun w0 h0 F hgs=>?_
  (refine b_ fun bx=>?_;refine y_ ?_)
  exact cr_ ha
 have hd:doesM s p=[]:=by unfold doesM;rw [if_neg k3,if_neg k4,if_neg k7,if_neg k12,if_neg (by omega),if_neg k16,if_neg k5,if_neg (by omega)]
 rw [hd]
 have n: ∀{j:Int},p.kind≠j→(p.kind==j)=false:=fun h=>beq_eq_false_iff_ne.2 h
 refine p_ tt_ok Tryz.func66 120 fun w0 h0 F hgs=>?_
 (refine b_ fun bx=>?_;refine y_ ?_)
 refine e_ 12 rfl (x':=AB false) (ab_eq (n k3)) ?_
 refine e_ 38 rfl (x':=AB false) (ab_eq (n k4)) ?_
 refine e_ 43 rfl (x':=AB false) (ab_eq (n k7)) ?_
 refine e_ 84 rfl (x':=AB false) (ab_eq (n k12)) ?_
 refine e_ 89 rfl (x':=AB false) (ab_eq (n k14)) ?_
 refine e_ 89 rfl (x':=AB false) (ab_eq (n k15)) ?_
 refine e_ 95 rfl (x':=AB false) (ab_eq (n k16)) ?_
 refine e_ 100 rfl (x':=AB false) (ab_eq (n k5)) ?_
 refine e_ 113 rfl (x':=AB false) (ab_eq (n k8)) ?_
 refine e_ 113 rfl (x':=AB false) (ab_eq (n k13)) ?_
 refine e_ 113 rfl (x':=AB false) (ab_eq (n k6)) ?_;refine R_ ?_;exact .nil
section
variable{K:AC}{k:List It}{E:AEnv}{Λ:List AEnt}
theorem A.rangeIterN{x:Operand}{ps:Array Tmp}{assign body:Code}{g:FuncId}{cap cap':List AV}{xss:List (List AV)}(hx:E.ev K.gs [] x=some (.fn g [] cap'))(hs:SbL cap' cap)(it:Iter K.P K.S K.ok K.gs g cap xss)(hrd:K.rd=none)
 (hb:allBelow K.n ps.toList=true) (hlen: ∀xs,xs∈xss→Nat.beq (lenN xs) ps.toList.length=true) (Inv:Nat→List AEnt→Prop) (Stop:LoopState→Option Code→List AEnt→Prop) (h0:Inv 0 Λ)
 (rounds: ∀(h0':GH) (lp:Nat) (LR:Loop),K.h0.le h0'→ ∀i xs Λi (h1:GH) (hg1:GsOk h1 K.gs) (F:List Ent),xss[i]? =some xs→Inv i Λi→h0'.le h1→
   A ⟨K.P,K.S,K.w0,K.f,K.fn,K.n,K.ok,K.hfn,h1,F,K.gs,hg1,fun y Λ'=>
       (y= .v (.bool true)∧ ∃Λ'',Λ'= .loop lp LR .ready none::Λ''∧Inv (i+1) Λ'')∨(y= .v (.bool false)∧ ∃st pd Λ'',st≠ .busy∧Λ'= .loop lp LR st pd::Λ''∧Stop st pd Λ''),[],some lp⟩
     [.code assign, .begin, .code body] ⟨setsA ps.toList xs E.us,[]⟩ (.loop lp LR .ready none::Λi))
 (fin: ∀(h1:GH) (hg1:GsOk h1 K.gs) (r:Nat) Λ',K.h0.le h1→Inv xss.length Λ'→A ⟨K.P,K.S,K.w0,K.f,K.fn,K.n,K.ok,K.hfn,h1,K.F,K.gs,hg1,K.Q,r::K.D,none⟩ k E Λ')
 (stop: ∀(h1:GH) (hg1:GsOk h1 K.gs) (r:Nat) st pd Λ',K.h0.le h1→st≠ .busy→Stop st pd Λ'→A ⟨K.P,K.S,K.w0,K.f,K.fn,K.n,K.ok,K.hfn,h1,K.F,K.gs,hg1,K.Q,r::K.D,none⟩ (jumpIts pd++k) E Λ'):
 A K (.code (.rangeFunc x ps assign body)::k) E Λ:=
 A.rangeIter hx hs it hrd hb hlen Inv Stop h0 (fun h0' lp tm hl i xs Λi h1 hg1 F hxs hi hl1=>rounds h0' lp _ hl i xs Λi h1 hg1 F hxs hi hl1) fin stop
end
abbrev actW(a:ACT)(f path:AV):AV:= .ag [AU8 a.kind,rowsA a.store,AI a.c,AI a.v,AI a.i,AU8 a.item,AI32 a.value,AU8 a.next.kind,AI a.next.c,AI a.next.v,AU8 a.next.item,plsA a.next.to,kesA a.next.e,gsA a.next.gs,rsA a.next.l,f,path]
abbrev rawF(path:List Nat)(b:Nat):AV:= .fn 67 [] [.pe 1 (pathL path),ptrA b]
abbrev putF(a:ACT)(path:List Nat)(b:Nat):AV:= .fn 67 [] [.pe 1 (pathL path), .pe 17 (actW a (rawF path b) (pathL path))]
abbrev actF(a:ACT×List Nat)(b:Nat):AV:=actW a.1 (putF a.1 a.2 b) (pathL a.2)
theorem put_closure{V:List KV}{C:List Int}{c p:PR}{h:Bool}(a:ACT)(path:List Nat)(b:Nat)(hok:okF (Loc V C) true h p)(ha:atR p path=some c):Pure Tryz.prog gs0 67 [cellsR p, .pe 1 (pathL path), .pe 17 (actW a (rawF path b) (pathL path))] (cellsR (repR a.next p path)):=by
 have hr:=replaced_p (q:=a.next) hok ha
 refine p_ tt_ok Tryz.func67 10 fun w0 h0 F hgs=>?_
 (refine b_ fun bx=>?_;refine b_ fun bx=>?_;refine y_ ?_)
 refine c_ hr ?_;refine A.retC (Λ':=[]) rfl rfl rfl rfl rfl (List.nil_sublist _) ⟨?_,rfl⟩;exact .refl
theorem pathA_sb(path:List Nat):Sb (pathA path) (pathL path):=by
 cases path with
 |nil=>exact .nil
 |cons i r=>exact .refl
theorem tau_len(st:List (List Int))(q:PR):(tauM st q).length=1:=rfl
theorem input_len(s:ST)(c item:Int)(to:PL)(q:PR):(inputM s c item to q).length=1:=by
 unfold inputM;split<;>rfl
theorem choose_len(s:ST): ∀l:List GD,(chooseM s l).length=1
 | []=>rfl
 |g::r=>by
  rw [chooseM]
  split
  ·rfl
  ·split
   ·rfl
   ·exact choose_len s r
theorem does_len{V:List KV}{C:List Int}(s:ST){p:PR}(h:Loc V C p):(doesM s p).length≤16:=by
 obtain ⟨l1,l2,l3,l4⟩:=h.lens
 unfold doesM
 split
 ·rw [tau_len];omega
 split
 ·unfold assignM
  split
  ·rw [tau_len];omega
  ·split<;>(rw [tau_len];omega)
 split
 ·unfold timeM
  split
  ·simp
  ·split<;>(rw [tau_len];omega)
 split
 ·rw [choose_len];omega
 split
 ·unfold enteredM
  split<;>(rw [tau_len];omega)
 split
 ·have:=flat_len (waitG s) (waitG_len s) p.gs
  omega
 split
 ·unfold inM
  split
  ·simp
  ·rw [input_len];omega
 split
 ·unfold valuedM
  split
  ·simp
  ·split
   ·rw [tau_len];omega
   ·repeat (first|(rw [tau_len];omega)|simp|split)
 ·simp
abbrev actsI(l:List ((ACT×List Nat)×Nat)):List AV:=l.map fun x=>actF x.1 x.2
abbrev compI(s:ST)(l:List (PR×List Nat)):List (ACT×List Nat):=l.flatMap fun cp=>(doesM s cp.1).map fun a=>(a,cp.2)
theorem compI_len{V:List KV}{C:List Int}(s:ST): ∀{l:List (PR×List Nat)},(∀cp,cp∈l→Loc V C cp.1)→(compI s l).length≤16*l.length
 | [],_=>Nat.le_refl _
 |cp::r,h=>by
  show (List.flatMap _ (cp::r)).length≤_
  rw [List.flatMap_cons,List.length_append,List.length_map,List.length_cons]
  have h1:=does_len s (h cp (.head _))
  have h2:=compI_len s (l:=r) fun x hx=>h x (.tail _ hx)
  unfold compI at h2
  omega
theorem comp_loc{V:List KV}{C:List Int}{p:PR}(hok:okF (Loc V C) true false p): ∀cp,cp∈compR [] p→Loc V C cp.1:=fun cp hcp=>by
 obtain ⟨h',hw⟩:=at_ok (comp_at (c:=cp.1) (s:=cp.2) hcp) hok
 rw [okF_eq] at hw
 exact hw.1.1
theorem acts_p(k:KN)(s:ST)(hg:GoodK k s)(hcl:(compR [] s.root).length≤100000):FunE Tryz.prog gs0 38 [rnA s] [] (fun l:List ((ACT×List Nat)×Nat)=> .sl 17 (actsI l) none) (fun _=>[]) (fun l=>l.map Prod.fst=actsM s):=by
 have hloc:=comp_loc hg.root
 have hht:([]:List Nat).length+htR s.root≤1000:=by
  have h1:=nf_ht (nf_of hg.nf)
  have h2:=hg.dw
  show 0+_≤_
  omega
 have hit:=iter_n _ s.root [] false (Nat.le_refl _) hg.root (nf_of hg.nf) hht
 unfold FunE
 refine Fun.of (S:=tt) (fn:=Tryz.f38) (n:=33) tt_ok Tryz.func38 rfl rfl rfl rfl fun w0 h0 F hgs=>?_
 (repeat refine A.s rfl ?_)
 refine A.b rfl fun b1=>?_
 refine A.b rfl fun b2=>?_
 refine y_ ?_
 refine n_ (comps_p s.root []) ?_
 refine A.boxAs (b:=b2) (x':= .sl 17 (actsI []) (some (.slice none 0 0))) (.refl _) (fun h y r=>nil_own 17 r) ?_
 refine A.fullTail ty102.size 0 none (fun _=>rfl) (fun x h=>by cases h) ?_
 refine y_ ?_
 refine A.keep [1,2,12] rfl ?_
 refine A.rangeIterN (xss:=(compR [] s.root).map cpA) rfl .refl hit rfl rfl (fun xs hxs=>?_) (fun j Λ=> ∃(l:List ((ACT×List Nat)×Nat)) (z:Value),l.map Prod.fst=compI s ((compR [] s.root).take j)∧Λ=[.tail ty102.size z, .box b2 (.sl 17 (actsI l) (some z)), .box b1 (rnA s)])
  (fun st pd Λ=>False) ⟨[], .slice none 0 0,rfl,rfl⟩ (fun h1 lp LR hl1 j xs Λi h2 hg2 F2 hxs hinv hl2=>?_) (fun h1 hg1 r Λ' hl1 hinv=>?_) (fun h1 hg1 r st pd Λ' hl1 hst hs=>hs.elim)
 ·rw [List.mem_map] at hxs
  obtain ⟨cp,_,rfl⟩:=hxs
  rfl
 ·obtain ⟨l,z,hl,rfl⟩:=hinv
  obtain ⟨cp,hcp,rfl⟩: ∃cp,(compR [] s.root)[j]? =some cp∧cpA cp=xs:=by
   rw [List.getElem?_map] at hxs
   cases hq:(compR [] s.root)[j]? with
   |none=>rw [hq] at hxs;cases hxs
   |some cp=>rw [hq] at hxs;injection hxs with hxs;exact ⟨cp,rfl,hxs⟩
  have hlc:=hloc cp (List.mem_of_getElem? hcp)
  have hdo:=does_p k s hg cp.1 hlc
  have hd16:=does_len s hlc
  refine A.val 14 rfl (pathA_sb cp.2) ?_
  (repeat refine A.s rfl ?_)
  refine A.b rfl fun b3=>?_
  refine y_ ?_
  refine A.b rfl fun b4=>?_
  refine y_ ?_
  refine A.freezeS 4 b4 (y':= .pe 1 (pathL cp.2)) rfl rfl rfl .ptr ?_
  refine A.begin rfl rfl rfl ?_
  refine y_ ?_
  refine c_ hdo ?_
  refine A.valE 18 rfl (x':=AI ((doesM s cp.1).length:Nat)) (ai_eq (by rw [List.length_map])) ?_
  refine A.keep [1,2,4,17,18,19] rfl ?_
  refine A.perm (List.perm_middle (l₁:=[_,_])) ?_
  refine A.loopP (ι:=Nat×List ((ACT×List Nat)×Nat)×Value) (fun q=>(⟨[(1,ptrA b1),(2,ptrA b2),(4, .pe 1 (pathL cp.2)),(17,actsA (doesM s cp.1)),(18,AI ((doesM s cp.1).length:Nat)),(19,AI (q.1:Nat))],[]⟩,[.tail ty102.size q.2.2, .loop lp LR .busy none, .box b3 (cellsR cp.1), .box b2 (.sl 17 (actsI q.2.1) (some q.2.2)), .box b1 (rnA s)]))
   (fun q=>q.1≤(doesM s cp.1).length∧q.2.1.map Prod.fst=compI s ((compR [] s.root).take j)++((doesM s cp.1).take q.1).map fun a=>(a,cp.2)) (fun q=>(doesM s cp.1).length-q.1) (0,l,z) ⟨Nat.zero_le _,by rw [hl];simp⟩ rfl fun q hi ih=>?_
  obtain ⟨i,l',z'⟩:=q
  obtain ⟨hi1,hi2⟩:=hi
  simp only at hi1 hi2
  refine y_ ?_
  refine k_ (fun hc=>?_) fun hc=>?_
  ·have hci:i<(doesM s cp.1).length:=by simpa using hc
   clear hc
   refine Exists.elim (at_exN (l:=doesM s cp.1) (i:=i) hci) fun a ha=>?_
   refine y_ ?_
   refine j_ rfl (map_at ha) rfl ?_
   (repeat refine A.s rfl ?_)
   refine A.b rfl fun b6=>?_
   refine y_ ?_
   refine A.freezeS 28 b6 (y':=actF (a,cp.2) b6) rfl rfl rfl (.ag (.cons (.sub .refl) (.cons (.sub .refl) (.cons (.sub .refl) (.cons (.sub .refl) (.cons (.sub .refl) (.cons (.sub .refl) (.cons (.sub .refl) (.cons (.sub .refl) (.cons (.sub .refl) (.cons (.sub .refl) (.cons (.sub .refl) (.cons (.sub .refl) (.cons (.sub .refl) (.cons (.sub .refl) (.cons (.sub .refl) (.cons (.fn (.cons (.sub .refl) (.cons .ptr (.sub .refl)))) (.sub .refl)))))))))))))))))) ?_
   refine t_ fun bl=>?_
   refine A.append rfl rfl rfl rfl rfl rfl rfl rfl rfl rfl rfl rfl rfl rfl (by show ((actsI l').length+1)*17≤_;rw [List.length_map];have h1:=congrArg List.length hi2;rw [List.length_map,List.length_append,List.length_map,List.length_take] at h1;have h2:=compI_len s (l:=(compR [] s.root).take j) (fun cp h=>hloc cp (List.mem_of_mem_take h));rw [List.length_take] at h2;omega) fun z2=>?_
   refine e_ 30 rfl (x':= .sl 17 (actsI (l'++[((a,cp.2),b6)])) (some z2)) (by show AV.sl 17 (actsI l'++[actF (a,cp.2) b6]) _=_;unfold actsI;rw [List.map_append];rfl) ?_
   refine A.valE 19 rfl (x':=AI ((i+1:Nat):Int)) (inc_eq i (by omega)) ?_
   refine l_ (Λ':=[.tail ty102.size z2, .loop lp LR .busy none, .box b3 (cellsR cp.1), .box b2 (.sl 17 (actsI (l'++[((a,cp.2),b6)])) (some z2)), .box b1 (rnA s)]) ?_
   refine u_ (ih (i+1,l'++[((a,cp.2),b6)],z2) ⟨by show i+1≤_;omega,?_⟩ (by show _-(i+1)<_-i;omega))
   show (l'++[((a,cp.2),b6)]).map Prod.fst=_
   rw [List.map_append,hi2]
   show _=compI s _++(List.take (i+1) _).map _
   rw [List.take_add_one,ha]
   simp
  have hci: ¬i<(doesM s cp.1).length:=by simpa using hc
  clear hc ih
  have hil:i=(doesM s cp.1).length:=by omega
  refine y_ ?_
  refine A.perm (.swap _ _ _) ?_
  refine l_ (Λ':=[.loop lp LR .busy none, .tail ty102.size z', .box b2 (.sl 17 (actsI l') (some z')), .box b1 (rnA s)]) ?_
  refine A.roundEnd rfl rfl (.inl ⟨rfl,_,rfl,l',z',?_,rfl⟩)
  rw [hi2,hil,List.take_length,List.take_add_one,hcp]
  unfold compI
  rw [List.flatMap_append]
  simp
 ·obtain ⟨l,z,hl,rfl⟩:=hinv
  rw [List.length_map,List.take_length] at hl
  refine y_ ?_
  refine A.retC (Λ':=[]) rfl rfl rfl rfl rfl (List.nil_sublist _) ⟨l, .own1,rfl,hl⟩
def kindOk(kind x:Int):Prop:=(kind=2→0≤x∧x≤255)∧(kind=3→x=0∨x=1)
theorem kindOk_fits{k x:Int}(h:fitsB k x=true):kindOk k x:=by
 unfold fitsB at h
 constructor
 ·intro hk;subst hk;simp at h;exact h
 ·intro hk;subst hk;simp at h;exact h
theorem kindOk_truth(k:Int)(b:Bool)(hk:k=3):kindOk k (truthI b):=⟨fun h=>by omega,fun _=>by cases b<;>simp [truthI]⟩
theorem kindOk_one(x:Int):kindOk 1 x:=⟨fun h=>by omega,fun h=>by omega⟩
def goodS(l:List KV)(s:List (List Int)):Prop:= ∀(i:Nat) (v:KV) (r:List Int),l[i]? =some v→s[i]? =some r→ ∀x,x∈r→fitsB v.kind x=true
theorem atM_kind{l:List KV}{s:List (List Int)}(hg:goodS l s){v i x:Int}{y:KV}(hy:l[v.toNat]? =some y)(hx:atM s v i=some x):fitsB y.kind x=true:=by
 unfold atM at hx
 split at hx
 ·cases hx
 ·cases hr:s[v.toNat]? with
  |none=>rw [hr] at hx;cases hx
  |some r=>rw [hr] at hx;exact hg _ y r hy hr x (List.mem_of_getElem? hx)
theorem fits_value{l:List KV}{s:List (List Int)}(hg:goodS l s){e:KE}(hf:fine e=true){kind x:Int}(hk:fitsM l e kind=true)(hx:valM s e=some x):kindOk kind x:=by
 rcases fine_cases hf with ⟨n,rfl⟩|⟨v,h1,h2,rfl⟩|⟨v,a,h1,h2,h3,rfl⟩|⟨o,a,h1,h2,h3,rfl⟩|⟨o,a,b,h1,h2,h3,h4,rfl⟩|⟨t,a,h1,h2,h3,rfl⟩
 ·simp [fitsM,fitsL,fitC] at hk
  simp [valM,valMl,combM] at hx
  subst hx
  exact ⟨fun h=>by omega,fun h=>by omega⟩
 ·simp only [fitsM,fitsL,fitC] at hk
  simp [valM,valMl,combM] at hx
  rw [if_neg (by decide),if_pos trivial] at hk
  split at hk
  ·rename_i y hy
   simp at hk
   rw [←hk.2];exact kindOk_fits (atM_kind hg hy hx)
  ·cases hk
 ·simp only [fitsM,fitsL,fitC] at hk
  rw [if_neg (by decide),if_neg (by decide),if_pos trivial] at hk
  split at hk
  ·rename_i y _ _ hy _
   simp at hk
   simp only [valM,valMl,combM] at hx
   cases ha:valM s a with
   |none=>rw [ha] at hx;simp at hx
   |some z=>
    rw [ha] at hx;simp at hx
    rw [←hk.1.2];exact kindOk_fits (atM_kind hg hy hx)
  ·cases hk
 ·simp only [fitsM,fitsL,fitC] at hk
  rw [if_neg (by decide),if_neg (by decide),if_neg (by decide)] at hk
  simp at hk
  simp only [valM,valMl,combM] at hx
  cases ha:valM s a with
  |none=>rw [ha] at hx;simp at hx
  |some z=>
   rw [ha] at hx;simp at hx
   split at hk
   ·rename_i ho
    subst ho
    simp [applyC] at hx
    rw [←hx.2];exact kindOk_truth _ _ hk.1
   ·rw [hk.1];exact kindOk_one x
 ·simp only [fitsM,fitsL,fitC] at hk
  rw [if_neg (by decide),if_neg (by decide),if_neg (by decide)] at hk
  simp only [valM,valMl,combM] at hx
  cases ha:valM s a with
  |none=>rw [ha] at hx;simp at hx
  |some z=>
   rw [ha] at hx;simp at hx
   simp at hk
   split at hk
   ·rw [hk.1];exact kindOk_one x
   ·rename_i ho
    have hk3:kind=3:=by
     by_cases h:kind=3
     ·exact h
     ·simp [h] at hk
    subst hk3
    refine ⟨fun h=>by omega,fun _=>?_⟩
    split at hx
    ·rename_i hsh
     simp at hx
     subst hx
     simp [isSh] at hsh;omega
    ·cases hb:valM s b with
     |none=>rw [hb] at hx;simp at hx
     |some w=>
      rw [hb] at hx;simp at hx
      have ho':o=14∨o=15∨o=16∨o=17∨o=18∨o=19∨o=20∨o=21∨o=22:=by omega
      have ht: ∀c:Bool,truthI c=0∨truthI c=1:=fun c=>by cases c<;>simp [truthI]
      rcases ho' with rfl|rfl|rfl|rfl|rfl|rfl|rfl|rfl|rfl<;>simp [applyC] at hx
      ·rw [←hx];exact ht _
      ·rw [←hx];exact ht _
      ·rw [←hx];exact ht _
      ·rw [←hx];exact ht _
      ·rw [←hx];exact ht _
      ·rw [←hx];exact ht _
      ·rw [←hx.2];exact ht _
      ·rw [←hx.2];exact ht _
      ·rw [←hx];exact ht _
 ·simp only [fitsM,fitsL,fitC] at hk
  rw [if_neg (by decide),if_neg (by decide),if_neg (by decide)] at hk
  simp at hk
  simp only [valM,valMl,combM] at hx
  cases ha:valM s a with
  |none=>rw [ha] at hx;simp at hx
  |some z=>
   rw [ha] at hx;simp at hx
   rw [conv_fits] at hx
   split at hx
   ·rename_i hz
    injection hx with hx
    subst hx
    rw [←hk.1];exact kindOk_fits hz
   ·cases hx
theorem may_good{l:List KV}{s:List (List Int)}(hs:soundsB l=true)(hlen:s.length=l.length)(hr: ∀(i:Nat) (v:KV) (r:List Int),l[i]? =some v→s[i]? =some r→(r.length:Int)=longI v)(hg:goodS l s):mayB l s=true:=by
 simp only [mayB,hs,hlen,decide_true,Bool.true_and,allEq,List.all_eq_true,List.mem_range]
 intro i hi
 have h2:i<s.length:=by omega
 rw [List.getElem?_eq_getElem hi,List.getElem?_eq_getElem h2]
 simp only [mayRow,Bool.and_eq_true,beq_iff_eq]
 refine ⟨hr i _ _ (List.getElem?_eq_getElem hi) (List.getElem?_eq_getElem h2),?_⟩
 simp only [Bool.not_eq_true',List.any_eq_false]
 intro x hx
 rw [hg i _ _ (List.getElem?_eq_getElem hi) (List.getElem?_eq_getElem h2) x hx];simp
theorem long_pos(v:KV):0<longI v:=by unfold longI;split<;>omega
theorem store_len(l:List KV):(storeM l).length=l.length:=by rw [storeM,List.length_map]
theorem store_at{l:List KV}{i:Nat}{v:KV}{r:List Int}(hv:l[i]? =some v)(hr:(storeM l)[i]? =some r):r=List.replicate (longI v).toNat 0:=by
 rw [storeM,List.getElem?_map,hv] at hr;injection hr with hr;exact hr.symm
theorem fits_zero{v:KV}(h:soundB v=true):fitsB v.kind 0=true:=by
 simp [soundB] at h
 rcases h.1.1 with (h|h)|h<;>simp [fitsB,h]
theorem sounds_at{l:List KV}(h:soundsB l=true){v:KV}(hv:v∈l):soundB v=true:=by
 simp [soundsB] at h;exact h.2 v hv
theorem store_good{l:List KV}(h:soundsB l=true):goodS l (storeM l):=fun i v r hv hr x hx=>by
 rw [store_at hv hr] at hx
 rw [(List.mem_replicate.1 hx).2]
 exact fits_zero (sounds_at h (List.mem_of_getElem? hv))
theorem may_store{l:List KV}(h:soundsB l=true):mayB l (storeM l)=true:=may_good h (store_len l) (fun i v r hv hr=>by rw [store_at hv hr,List.length_replicate];have:=long_pos v;omega) (store_good h)
structure StOk(V:List KV)(st:List (List Int)):Prop where
 may:mayB V st=true
 ws:wfS st
theorem may_parts{V:List KV}{st:List (List Int)}(h:mayB V st=true):soundsB V=true∧st.length=V.length∧(∀(i:Nat) (v:KV) (r:List Int),V[i]? =some v→st[i]? =some r→(r.length:Int)=longI v)∧goodS V st:=by
 simp only [mayB,Bool.and_eq_true,decide_eq_true_eq,allEq,List.all_eq_true,List.mem_range] at h
 obtain ⟨⟨h1,h2⟩,h3⟩:=h
 have hm: ∀(i:Nat) (v:KV) (r:List Int),V[i]? =some v→st[i]? =some r→mayRow v r=true:=fun i v r hv hr=>by
  have:=h3 i (at_lt hv)
  rw [hv,hr] at this;exact this
 refine ⟨h2,h1,fun i v r hv hr=>?_,fun i v r hv hr x hx=>?_⟩
 ·have:=hm i v r hv hr
  simp only [mayRow,Bool.and_eq_true,beq_iff_eq] at this
  exact this.1
 ·have:=hm i v r hv hr
  simp only [mayRow,Bool.and_eq_true,Bool.not_eq_true',List.any_eq_false] at this
  have:=this.2 x hx
  simpa using this
theorem StOk.put{V:List KV}{st:List (List Int)}(h:StOk V st){v i x:Int}(hx:i32 x)(hk: ∀y,V[v.toNat]? =some y→fitsB y.kind x=true):StOk V (putM st v i x):=by
 obtain ⟨h1,h2,h3,h4⟩:=may_parts h.may
 unfold putM
 by_cases ha:(atM st v i).isSome=true
 ·rw [if_pos ha]
  cases hr:st[v.toNat]? with
  |none=>exact h
  |some r=>
   show StOk V (st.set v.toNat (r.set i.toNat x))
   have hin: ∀z,z∈r.set i.toNat x→z∈r∨z=x:=fun z hz=>List.mem_or_eq_of_mem_set hz
   refine ⟨may_good h1 (by show (st.set _ _).length=_;rw [List.length_set];exact h2) (fun j y q hy hq=>?_) (fun j y q hy hq z hz=>?_),fun q hq z hz=>?_⟩
   ·replace hq:(st.set v.toNat (r.set i.toNat x))[j]? =some q:=hq
    rw [List.getElem?_set] at hq
    split at hq
    ·rename_i hj
     subst hj
     split at hq
     ·injection hq with hq
      rw [←hq,List.length_set];exact h3 _ y r hy hr
     ·cases hq
    ·exact h3 j y q hy hq
   ·replace hq:(st.set v.toNat (r.set i.toNat x))[j]? =some q:=hq
    rw [List.getElem?_set] at hq
    split at hq
    ·rename_i hj
     subst hj
     split at hq
     ·injection hq with hq
      rw [←hq] at hz
      rcases hin z hz with hz|rfl
      ·exact h4 _ y r hy hr z hz
      ·exact hk y hy
     ·cases hq
    ·exact h4 j y q hy hq z hz
   ·replace hq:q∈st.set v.toNat (r.set i.toNat x):=hq
    rcases List.mem_or_eq_of_mem_set hq with hq|hq
    ·exact h.ws q hq z hz
    ·rw [hq] at hz
     rcases hin z hz with hz|rfl
     ·exact h.ws r (List.mem_of_getElem? hr) z hz
     ·exact hx
 ·rw [if_neg ha];exact h
theorem StOk.small{V:List KV}{st:List (List Int)}(h:StOk V st):Small st:=mayB_short h.may
theorem prim_fits{k x:Int}(hk:k=1∨k=2∨k=3)(h:kindOk k x):fitsB k x=true:=by
 obtain ⟨h2,h3⟩:=h
 rcases hk with rfl|rfl|rfl
 ·rfl
 ·have:=h2 rfl;simp [fitsB];omega
 ·have:=h3 rfl;simpa [fitsB] using this
theorem sound_prim{v:KV}(h:soundB v=true):v.kind=1∨v.kind=2∨v.kind=3:=by
 simp [soundB] at h
 rcases h.1.1 with (h|h)|h
 ·exact .inl h
 ·exact .inr (.inl h)
 ·exact .inr (.inr h)
theorem place_v{st:List (List Int)}{v:Int}{ix:List KE}{p:Int×Int}(h:placeM st v ix=some p):p.1=v:=by
 match ix,h with
 | [],h=>
   rw [placeM] at h
   split at h
   ·injection h with h;rw [←h]
   ·cases h
 | [e],h=>
   rw [placeM] at h
   split at h
   ·split at h
    ·injection h with h;rw [←h]
    ·cases h
   ·cases h
theorem placeB_at{V:List KV}{t:PL}{k:Int}(h:placeB V t k=true): ∀y,V[t.v.toNat]? =some y→y.kind=k:=fun y hy=>by
 unfold placeB at h
 split at h
 ·cases h
 ·rw [hy] at h
  simp only [Bool.and_eq_true,beq_iff_eq] at h
  exact h.1
theorem value_fits{V:List KV}{st:List (List Int)}(hs:StOk V st){e:KE}{k x:Int}(hf:fitV V e k=true)(hv:valueM st e=some x):kindOk k x:=by
 obtain ⟨h1,h2,h3,h4⟩:=may_parts hs.may
 unfold fitV at hf
 simp only [Bool.and_eq_true,decide_eq_true_eq] at hf
 unfold valueM at hv
 rw [if_pos hf.1] at hv
 exact fits_value h4 hf.1.1 hf.2 hv
theorem value_in{V:List KV}{st:List (List Int)}(hs:StOk V st){e:KE}{x:Int}(hw:wfK e)(hv:valueM st e=some x):i32 x:=valueM_in hs.ws hw x hv
theorem valid_num(n:Int):valid (numE n):=by
 refine ⟨?_,?_,?_⟩
 ·simp [numE,fine,finel,shapeB]
 ·simp [numE,sz,szl]
 ·simp [numE,ht,htl]
theorem fit_num1(V:List KV)(n:Int):fitV V (numE n) 1=true:=by
 unfold fitV
 rw [decide_eq_true (valid_num n)]
 simp [numE,fitsM,fitsL,fitC]
theorem fit_num3(V:List KV){n:Int}(h:n=0∨n=1):fitV V (numE n) 3=true:=by
 unfold fitV
 rw [decide_eq_true (valid_num n)]
 rcases h with rfl|rfl<;>simp [numE,fitsM,fitsL,fitC]
theorem wf_num{n:Int}(h:i32 n):wfK (numE n)∧smK (numE n):=by
 unfold i32 at h
 constructor
 ·simp only [numE,wfK,wfKl,u8,i32,i64];exact ⟨⟨by omega,by omega,by omega,h,by omega⟩,trivial⟩
 ·simp [numE,smK,smKl]
structure ActOk(V:List KV)(C:List Int)(c:PR)(a:ACT):Prop where
 ok: ∀h,okF (Loc V C) true h c→okF (Loc V C) true h a.next
 wt:wtR a.next≤wtR c
 dw:dwR a.next≤dwR c
 kinds:a.kind=116∨a.kind=105∨a.kind=111
 tau:a.kind=116→StOk V a.store
 inp:a.kind=105→(c.kind=5∨c.kind=16)∧(∀y,V[a.v.toNat]? =some y→y.kind=a.item)∧(a.c=0→a.item=1)
 out:a.kind=111→c.kind=6∧i32 a.value
structure Leaf(c:PR):Prop where
 k9:c.kind≠9
 kb: ¬(c.kind=10∨c.kind=11)
theorem Leaf.wt{c:PR}(h:Leaf c):wtR c=2+szL c.l+szGs c.gs+wtL c.l+wtGs c.gs:=by rw [wtR_eq,if_neg h.k9,if_neg h.kb]
theorem Leaf.dw{c:PR}(h:Leaf c):dwR c=1+max (1+max (htL c.l) (htGs c.gs)) (max (dwL c.l) (dwGs c.gs)):=by rw [dwR_eq,if_neg h.k9,if_neg h.kb]
theorem wtGs_mem: ∀{l:List GD} {g:GD},g∈l→wtG g≤wtGs l∧dwG g≤dwGs l
 |x::r,g,h=>by
  rw [wtGs,dwGs]
  rcases List.mem_cons.1 h with rfl|h
  ·omega
  ·have:=wtGs_mem h;omega
section
variable{V:List KV}{C:List Int}
structure NextOk(V:List KV)(C:List Int)(c q:PR):Prop where
 ok: ∀h,okF (Loc V C) true h c→okF (Loc V C) true h q
 wt:wtR q≤wtR c
 dw:dwR q≤dwR c
theorem next_skip{c:PR}(h:Leaf c):NextOk V C c skipR:=⟨fun _ _=>ok_skip loc_lax _ _,by rw [wt_skip,h.wt];omega,by rw [dw_skip,h.dw];omega⟩
theorem next_stop{c:PR}(h:Leaf c):NextOk V C c stopR:=⟨fun _ _=>ok_stop loc_lax _ _,by rw [wt_stop,h.wt];omega,by rw [dw_stop,h.dw];omega⟩
theorem next_body{c:PR}(h:Leaf c){g:GD}(hg:g∈c.gs){y:PR}(hy:g.body=[y]):NextOk V C c y:=by
 have h1:=wtGs_mem hg
 rw [wtG_eq,dwG_eq,hy,wtL,wtL,dwL,dwL] at h1
 refine ⟨fun hh hw=>?_,by rw [h.wt];omega,by rw [h.dw];omega⟩
 rw [okF_eq] at hw
 have h2:=okFs_mem hw.2.2 g hg
 rw [okFg_eq,hy,okFl_1] at h2
 exact okF_mono (fun _=>rfl) h2.1
theorem tau_ok{c q:PR}{st:List (List Int)}(hs:StOk V st)(hn:NextOk V C c q): ∀a,a∈tauM st q→ActOk V C c a:=fun a ha=>by
 rw [List.mem_singleton.1 ha]
 exact ⟨hn.ok,hn.wt,hn.dw, .inl rfl,fun _=>hs,(fun h=>by cases h),(fun h=>by cases h)⟩
theorem input_ok{c q:PR}{s:ST}(hs:StOk V s.store)(hl:Leaf c)(hn:NextOk V C c q)(hk:c.kind=5∨c.kind=16){ch item:Int}{to:PL}(hi:inputB V C.length ch item to=true): ∀a,a∈inputM s ch item to q→ActOk V C c a:=fun a ha=>by
 unfold inputB chanB at hi
 simp only [Bool.and_eq_true,Bool.or_eq_true,decide_eq_true_eq,beq_iff_eq] at hi
 unfold inputM at ha
 split at ha
 ·exact tau_ok hs (next_stop hl) a ha
 ·rename_i v i hp
  have hv:=place_v hp
  rw [List.mem_singleton.1 ha]
  refine ⟨hn.ok,hn.wt,hn.dw, .inr (.inl rfl),(fun h=>by cases h),fun _=>⟨hk,?_,?_⟩,(fun h=>by cases h)⟩
  ·have hv:v=to.v:=hv
   show∀y,V[v.toNat]? =some y→_
   rw [hv];exact placeB_at hi.2
  ·intro h0
   have h0:ch=0:=h0
   have:=hi.1.2
   show item=1
   omega
theorem goods{st:List (List Int)}(h:StOk V st){v:KV}{i:Nat}(hv:V[i]? =some v):soundB v=true:=sounds_at (may_parts h.may).1 (List.mem_of_getElem? hv)
theorem clear_ok{st:List (List Int)}(h:StOk V st)(v:Int): ∀n,StOk V (clearM st v n)
 |0=>h
 |n+1=>by
  rw [clearM_succ]
  exact (clear_ok h v n).put (by unfold i32;omega) fun y hy=>fits_zero (goods h hy)
theorem puts_ok{st0:List (List Int)}(h0:StOk V st0): ∀(tos:List PL) (es:List KE) (xs:List Int) (st st':List (List Int)),StOk V st→tos.length=es.length→(∀e,e∈es→wfK e)→(tos.zip es).all (fun te=>assignB V te.1 te.2)=true→valsM st0 es=some xs→putsM st0 tos xs st=some st'→StOk V st'
 | [],es,xs,st,st',h,_,_,_,_,hp=>by
   rw [putsM] at hp;injection hp with hp;rw [←hp];exact h
 |to::tos,[],xs,st,st',h,hl,_,_,_,_=>by cases hl
 |to::tos,e::es,xs,st,st',h,hl,hw,ha,hx,hp=>by
  rw [List.zip_cons_cons,List.all_cons,Bool.and_eq_true] at ha
  rw [valsM] at hx
  cases hv:valueM st0 e with
  |none=>rw [hv] at hx;cases hx
  |some x=>
   rw [hv] at hx
   simp only [Option.map_eq_some_iff] at hx
   obtain ⟨xr,hxr,rfl⟩:=hx
   rw [putsM] at hp
   cases hpl:placeM st0 to.v to.ix with
   |none=>rw [hpl] at hp;cases hp
   |some vj=>
    obtain ⟨v,j⟩:=vj
    rw [hpl] at hp
    simp only at hp
    refine puts_ok h0 tos es xr _ st' (h.put (value_in h0 (hw e (.head _)) hv) fun y hy=>?_) (by simpa using hl) (fun e' he'=>hw e' (.tail _ he')) ha.2 hxr hp
    have hvv:v=to.v:=place_v hpl
    rw [hvv] at hy
    have h1:=ha.1
    unfold assignB at h1
    split at h1
    ·cases h1
    ·simp only [hy,Bool.and_eq_true] at h1
     exact prim_fits (sound_prim (goods h hy)) (value_fits h0 h1.2 hv)
theorem assign_ok{c:PR}{s:ST}(hs:StOk V s.store)(hl:Leaf c)(hw: ∀x,x∈c.e→wfK x)(h1:c.to.length=c.e.length)(h2:(c.to.zip c.e).all (fun te=>assignB V te.1 te.2)=true): ∀a,a∈assignM s c→ActOk V C c a:=fun a ha=>by
 unfold assignM at ha
 split at ha
 ·exact tau_ok hs (next_stop hl) a ha
 ·rename_i xs hxs
  split at ha
  ·exact tau_ok hs (next_stop hl) a ha
  ·rename_i st hst
   exact tau_ok (puts_ok hs _ _ _ _ _ hs h1 hw h2 hxs hst) (next_skip hl) a ha
theorem time_ok{c:PR}{s:ST}(hs:StOk V s.store)(ht:i32 s.time)(hl:Leaf c){t:PL}{r:List PL}(hto:c.to=t::r)(hp:placeB V t 1=true): ∀a,a∈timeM s c→ActOk V C c a:=fun a ha=>by
 unfold timeM at ha
 rw [hto] at ha
 simp only at ha
 split at ha
 ·exact tau_ok hs (next_stop hl) a ha
 ·rename_i v i hpl
  have hv:v=t.v:=place_v hpl
  refine tau_ok (hs.put ht fun y hy=>?_) (next_skip hl) a ha
  rw [hv] at hy
  rw [placeB_at hp y hy];rfl
theorem choose_ok{c:PR}{s:ST}(hs:StOk V s.store)(hl:Leaf c)(hb: ∀g,g∈c.gs→ ∃y,g.body=[y]): ∀(l:List GD),(∀g,g∈l→g∈c.gs)→ ∀a,a∈chooseM s l→ActOk V C c a
 | [],_,a,ha=>tau_ok hs (next_stop hl) a (by rw [chooseM] at ha;exact ha)
 |g::r,hg,a,ha=>by
  rw [chooseM] at ha
  split at ha
  ·exact tau_ok hs (next_stop hl) a ha
  ·split at ha
   ·obtain ⟨y,hy⟩:=hb g (hg g (.head _))
    rw [hy] at ha
    exact tau_ok hs (next_body hl (hg g (.head _)) hy) a ha
   ·exact choose_ok hs hl hb r (fun g' h'=>hg g' (.tail _ h')) a ha
theorem guard_in{g:GD}{b:Bool}(h:guardB V C.length g b=true)(h3:g.kind=3):inputB V C.length g.c g.item g.to=true:=by
 unfold guardB at h
 rw [if_neg (by omega),if_pos h3] at h
 simp only [Bool.and_eq_true] at h
 exact h.2.2
theorem wait_ok{c:PR}{s:ST}(hs:StOk V s.store)(hl:Leaf c)(hk:c.kind=16)(hb: ∀g,g∈c.gs→ ∃y,g.body=[y])(hG: ∀g,g∈c.gs→guardB V C.length g false=true): ∀a,a∈c.gs.flatMap (waitG s)→ActOk V C c a:=fun a ha=>by
 rw [List.mem_flatMap] at ha
 obtain ⟨g,hg,ha⟩:=ha
 obtain ⟨y,hy⟩:=hb g hg
 unfold waitG at ha
 rw [hy] at ha
 split at ha
 ·cases ha
 ·split at ha
  ·rename_i h3
   exact input_ok hs hl (next_body hl hg hy) (.inr hk) (guard_in (hG g hg) h3) a ha
  ·split at ha
   ·exact tau_ok hs (next_body hl hg hy) a ha
   ·cases ha
theorem next_loop{c b:PR}(hl:Leaf c)(hk:c.kind=13)(hb:c.l=[b]):NextOk V C c ⟨9,0,0,0,[],[],[],[headR c.l,c]⟩:=by
 have hh:headR c.l=b:=by rw [hb];rfl
 have hs1:szR c=1+szL c.l+szGs c.gs:=szR_eq c
 have hh1:=htR_eq c
 have hw:=hl.wt
 have hd:=hl.dw
 rw [hb] at hs1 hh1 hw hd
 rw [szL,szL] at hs1
 rw [htL,htL] at hh1
 rw [wtL,wtL,szL,szL] at hw
 rw [dwL,dwL,htL,htL] at hd
 refine ⟨fun h w=>?_,?_,?_⟩
 ·rw [hh,okF_eq]
  have w0:=w
  rw [okF_eq] at w
  obtain ⟨⟨w1,w2,w3⟩,w4,w5⟩:=w
  refine ⟨⟨⟨?_,(by intro h;cases h),(by show 1+2+0≤2048;omega),(by intro t h;cases h),(by intro t h;cases h),(by intro t h;cases h)⟩,(by intro h;cases h),(by intro h;cases h)⟩,?_,by show okFs _ _ [];rw [okFs];trivial⟩
  ·show shapeR ⟨9,0,0,0,[],[],[],[b,c]⟩ false false 0 0 0 0 0 0 0 2048=true
   rfl
  ·show okFl (Loc V C) true false (h||false) h [b,c]
   rw [hb,hk] at w4
   have w4:okFl (Loc V C) (true&&false) (true&&false) (h||false) h [b]:=w4
   rw [okFl_1] at w4
   rw [okFl_1,okFl_1]
   refine ⟨okF_mono (fun _=>rfl) w4.1,?_,okFl_0⟩
   rw [okF_eq]
   refine ⟨⟨w1,fun h=>by omega,w3⟩,?_,w5⟩
   rw [hb,hk]
   show okFl (Loc V C) false false (h||false) h [b]
   rw [okFl_1]
   exact ⟨w4.1,okFl_0⟩
 ·rw [wtR_eq,if_pos rfl]
  show szGs []+wtS [headR c.l,c]≤_
  rw [hh,wtS_2,wtS_1,szL,szL,szGs]
  omega
 ·rw [dwR_eq,if_pos rfl]
  show max (1+htGs []) (dwS [headR c.l,c])≤_
  rw [hh,dwS_2,dwS_1,htL,htL,htGs]
  omega
theorem valued_ok{c:PR}{s:ST}(hs:StOk V s.store)(hl:Leaf c)(hw: ∀x,x∈c.e→wfK x)(hk:c.kind=6∨c.kind=8∨c.kind=13)(hb:c.kind=13→ ∃b,c.l=[b]): ∀a,a∈valuedM s c→ActOk V C c a:=fun a ha=>by
 unfold valuedM at ha
 split at ha
 ·cases ha
 ·rename_i e r he
  split at ha
  ·exact tau_ok hs (next_stop hl) a ha
  ·rename_i x hx
   have hxi:=value_in hs (hw e (by rw [he];exact .head _)) hx
   split at ha
   ·rename_i h6
    have hn:=next_skip (V:=V) (C:=C) hl
    rw [List.mem_singleton.1 ha]
    exact ⟨hn.ok,hn.wt,hn.dw, .inr (.inr rfl),(fun h=>by cases h),(fun h=>by cases h),fun _=>⟨h6,hxi⟩⟩
   ·split at ha
    ·rename_i h13
     obtain ⟨b,hb⟩:=hb h13.1
     exact tau_ok hs (next_loop hl h13.1 hb) a ha
    ·split at ha
     ·exact tau_ok hs (next_skip hl) a ha
     ·cases ha
theorem enter_g{st:List (List Int)}(hs:StOk V st){g g':GD}(hw:wfK g.cond∧wfK g.time)(hwp:wfPl g.to∧smP g.to)(hsm:smK g.cond∧smK g.time)(hG:guardB V C.length g false=true)(h:enterG st g=some g'):
 g'.body=g.body∧guardB V C.length g' false=true∧waitsG g'=true∧(wfK g'.cond∧smK g'.cond)∧(wfK g'.time∧smK g'.time)∧(wfPl g'.to∧smP g'.to):=by
 unfold enterG at h
 cases hx:valueM st g.cond with
 |none=>rw [hx] at h;cases h
 |some x=>
  rw [hx] at h
  simp only at h
  have hG0:=hG
  unfold guardB at hG
  simp only [Bool.and_eq_true] at hG
  obtain ⟨⟨⟨g1,g2⟩,g3⟩,g4⟩:=hG
  have hx3:x=0∨x=1:=(value_fits hs g2 hx).2 rfl
  have hxi:=value_in hs hw.1 hx
  have hn:=wf_num hxi
  split at h
  ·rename_i h4
   cases ht:valueM st g.time with
   |none=>rw [ht] at h;cases h
   |some t=>
    rw [ht] at h
    injection h with h
    have hti:=value_in hs hw.2 ht
    rw [←h]
    refine ⟨rfl,?_,?_,hn,wf_num hti,hwp⟩
    ·unfold guardB
     simp only [Bool.and_eq_true]
     refine ⟨⟨⟨g1,fit_num3 V hx3⟩,g3⟩,?_⟩
     have e1: ¬(g.kind=1∨g.kind=2):=by omega
     have e2: ¬g.kind=3:=by omega
     show (if g.kind=1∨g.kind=2 then _ else if g.kind=3 then _ else if g.kind=4 then _ else false)=true
     rw [if_neg e1,if_neg e2,if_pos h4] at g4⊢
     rw [Bool.and_eq_true] at g4⊢
     exact ⟨g4.1,fit_num1 V t⟩
    ·unfold waitsG;simp [numE]
  ·rename_i h4
   injection h with h
   rw [←h]
   refine ⟨rfl,?_,?_,hn,⟨hw.2,hsm.2⟩,hwp⟩
   ·unfold guardB
    simp only [Bool.and_eq_true]
    exact ⟨⟨⟨g1,fit_num3 V hx3⟩,g3⟩,g4⟩
   ·unfold waitsG
    simp [numE,h4]
theorem enter_all{st:List (List Int)}: ∀{l l':List GD},enterM st l=some l'→l'.length=l.length∧ ∀g',g'∈l'→ ∃g,g∈l∧enterG st g=some g'
 | [],l',h=>by rw [enterM] at h;injection h with h;rw [←h];exact ⟨rfl,(by intro g h;cases h)⟩
 |g::r,l',h=>by
  rw [enterM] at h
  cases hg:enterG st g with
  |none=>rw [hg] at h;cases h
  |some y=>
   rw [hg] at h
   simp only [Option.map_eq_some_iff] at h
   obtain ⟨r',hr,rfl⟩:=h
   obtain ⟨h1,h2⟩:=enter_all hr
   refine ⟨by rw [List.length_cons,List.length_cons,h1],fun g' hg'=>?_⟩
   rcases List.mem_cons.1 hg' with rfl|hg'
   ·exact ⟨g, .head _,hg⟩
   ·obtain ⟨q,q1,q2⟩:=h2 g' hg'
    exact ⟨q, .tail _ q1,q2⟩
theorem enter_body{st:List (List Int)}{g g':GD}(h:enterG st g=some g'):g'.body=g.body:=by
 unfold enterG at h
 split at h
 ·cases h
 ·split at h
  ·split at h
   ·cases h
   ·injection h with h;rw [←h]
  ·injection h with h;rw [←h]
theorem enter_sz{st:List (List Int)}: ∀{l l':List GD},enterM st l=some l'→szGs l'=szGs l∧wtGs l'=wtGs l∧htGs l'=htGs l∧dwGs l'=dwGs l∧ ∀h,okFs (Loc V C) h l→okFs (Loc V C) h l'
 | [],l',h=>by rw [enterM] at h;injection h with h;rw [←h];exact ⟨rfl,rfl,rfl,rfl,fun _ w=>w⟩
 |g::r,l',h=>by
  rw [enterM] at h
  cases hg:enterG st g with
  |none=>rw [hg] at h;cases h
  |some y=>
   rw [hg] at h
   simp only [Option.map_eq_some_iff] at h
   obtain ⟨r',hr,rfl⟩:=h
   obtain ⟨h1,h2,h3,h4,h5⟩:=enter_sz hr
   have hb:=enter_body hg
   refine ⟨by rw [szGs,szGs,szG_eq,szG_eq,hb,h1],by rw [wtGs,wtGs,wtG_eq,wtG_eq,hb,h2],by rw [htGs,htGs,htG_eq,htG_eq,hb,h3],by rw [dwGs,dwGs,dwG_eq,dwG_eq,hb,h4],fun h w=>?_⟩
   rw [okFs,okFg_eq] at w⊢
   rw [hb];exact ⟨w.1,h5 h w.2⟩
theorem next_enter{c:PR}{s:ST}(hs:StOk V s.store)(hl:Leaf c)(hc:Loc V C c)(hG: ∀g,g∈c.gs→guardB V C.length g false=true){gs':List GD}(h:enterM s.store c.gs=some gs'):NextOk V C c ⟨16,0,0,0,[],[],gs',[]⟩:=by
 obtain ⟨e1,e2⟩:=enter_all h
 obtain ⟨s1,s2,s3,s4,s5⟩:=enter_sz (V:=V) (C:=C) h
 have hg: ∀g',g'∈gs'→guardB V C.length g' false=true∧waitsG g'=true∧(wfK g'.cond∧smK g'.cond)∧(wfK g'.time∧smK g'.time)∧(wfPl g'.to∧smP g'.to):=fun g' hg'=>by
  obtain ⟨g,hgm,hge⟩:=e2 g' hg'
  have h1:=hc.gs g hgm
  exact (enter_g hs ⟨h1.1.1,h1.2.1.1⟩ h1.2.2 ⟨h1.1.2,h1.2.1.2⟩ (hG g hgm) hge).2
 obtain ⟨l1,l2,l3,l4⟩:=hc.lens
 refine ⟨fun h w=>?_,?_,?_⟩
 ·rw [okF_eq] at w⊢
  obtain ⟨⟨w1,w2,w3⟩,w4,w5⟩:=w
  refine ⟨⟨⟨?_,fun _ g' hg'=>(hg g' hg').2.1,?_,(by intro t h;cases h),(by intro t h;cases h),fun g' hg'=>(hg g' hg').2.2⟩,(fun _=>rfl),(by intro h;cases h)⟩,okFl_0,s5 h w5⟩
  ·show (shapeR ⟨14,0,0,0,[],[],gs',[]⟩ false false 0 0 0 0 0 16 0 0&&gs'.all fun g=>guardB V C.length g false)=true
   rw [Bool.and_eq_true]
   refine ⟨?_,List.all_eq_true.2 fun g' hg'=>(hg g' hg').1⟩
   have:gs'.length≤16:=by omega
   simp [shapeR,inB]
   have h2:(gs'.length:Int)≤16:=by omega
   exact h2
  ·show 1+0+gs'.length≤2048;omega
 ·rw [wtR_eq,if_neg (by show¬(16:Int)=9;decide),if_neg (by show¬((16:Int)=10∨(16:Int)=11);decide),hl.wt]
  show 2+szL []+szGs gs'+wtL []+wtGs gs'≤_
  rw [szL,wtL,s1,s2];omega
 ·rw [dwR_eq,if_neg (by show¬(16:Int)=9;decide),if_neg (by show¬((16:Int)=10∨(16:Int)=11);decide),hl.dw]
  show 1+max (1+max (htL []) (htGs gs')) (max (dwL []) (dwGs gs'))≤_
  rw [htL,dwL,s3,s4];omega
theorem entered_ok{c:PR}{s:ST}(hs:StOk V s.store)(hl:Leaf c)(hc:Loc V C c)(hG: ∀g,g∈c.gs→guardB V C.length g false=true): ∀a,a∈enteredM s c→ActOk V C c a:=fun a ha=>by
 unfold enteredM at ha
 split at ha
 ·exact tau_ok hs (next_stop hl) a ha
 ·rename_i gs' hg
  exact tau_ok hs (next_enter hs hl hc hG hg) a ha
theorem Loc.guards{c:PR}(h:Loc V C c)(hk:c.kind=14∨c.kind=15∨c.kind=16): ∀g,g∈c.gs→guardB V C.length g false=true:=by
 have h1:=h.kind
 obtain ⟨k,c,v,i,to,e,gs,l⟩:=c
 have hk:k=14∨k=15∨k=16:=hk
 have h3: ∀kk:Int,kk=14∨kk=15→kindB V C.length ⟨kk,c,v,i,to,e,gs,l⟩=true→ ∀g,g∈gs→guardB V C.length g false=true:=by
  intro kk hkk h2 g hg
  rcases hkk with rfl|rfl
  ·have h4:(shapeR ⟨14,c,v,i,to,e,gs,l⟩ false false 0 0 0 0 0 16 0 0&&gs.all fun g=>guardB V C.length g false)=true:=h2
   rw [Bool.and_eq_true] at h4
   exact List.all_eq_true.1 h4.2 g hg
  ·have h4:(shapeR ⟨15,c,v,i,to,e,gs,l⟩ false false 0 0 0 0 0 16 0 0&&gs.all fun g=>guardB V C.length g false)=true:=h2
   rw [Bool.and_eq_true] at h4
   exact List.all_eq_true.1 h4.2 g hg
 refine h3 (if k=16 then 14 else k) ?_ h1
 split
 ·exact .inl rfl
 ·omega
theorem does_ok{c:PR}{s:ST}(hs:StOk V s.store)(ht:i32 s.time)(hl:Leaf c)(hc:Loc V C c): ∀a,a∈doesM s c→ActOk V C c a:=by
 have hwe: ∀x,x∈c.e→wfK x:=fun x hx=>(hc.e x hx).1
 unfold doesM
 split
 ·exact tau_ok (clear_ok hs _ _) (next_skip hl)
 split
 ·rename_i k4
  obtain ⟨h1,h2⟩:=hc.k4 k4
  exact assign_ok hs hl hwe h1 h2
 split
 ·rename_i k7
  obtain ⟨t,h1,h2⟩:=hc.k7 k7
  exact time_ok hs ht hl h1 h2
 split
 ·exact choose_ok hs hl hc.body c.gs fun g hg=>hg
 split
 ·rename_i k14
  exact entered_ok hs hl hc (hc.guards (by omega))
 split
 ·rename_i k16
  exact wait_ok hs hl k16 hc.body (hc.guards (by omega))
 split
 ·rename_i k5
  obtain ⟨t,h1,h2⟩:=hc.k5 k5
  unfold inM
  rw [h1]
  exact input_ok hs hl (next_skip hl) (.inl k5) h2
 split
 ·rename_i k8
  refine valued_ok hs hl hwe (by omega) fun k13=>?_
  obtain ⟨e,b,h1,h2,h3⟩:=hc.k13 k13
  exact ⟨b,h2⟩
 ·intro a ha;cases ha
theorem does_wt{c:PR}{s:ST}(hl:Leaf c)(hc:Loc V C c):(doesM s c).length≤wtR c:=by
 have hw:=hl.wt
 have h2: ∀l:List GD,(∀g,g∈l→ ∃y,g.body=[y])→l.length≤szGs l:=by
  intro l
  induction l with
  |nil=>intro _;exact Nat.zero_le _
  |cons x r ih=>
   intro hb
   obtain ⟨y,hy⟩:=hb x (.head _)
   have:=ih fun g hg=>hb g (.tail _ hg)
   have:=szR_pos y
   rw [szGs,List.length_cons,szG_eq,hy,szL,szL];omega
 have h3:=h2 c.gs hc.body
 unfold doesM
 split
 ·rw [tau_len];omega
 split
 ·unfold assignM
  split
  ·rw [tau_len];omega
  ·split<;>(rw [tau_len];omega)
 split
 ·unfold timeM
  split
  ·simp
  ·split<;>(rw [tau_len];omega)
 split
 ·rw [choose_len];omega
 split
 ·unfold enteredM
  split<;>(rw [tau_len];omega)
 split
 ·have:=flat_len (waitG s) (waitG_len s) c.gs
  omega
 split
 ·unfold inM
  split
  ·simp
  ·rw [input_len];omega
 split
 ·unfold valuedM
  split
  ·simp
  ·split
   ·rw [tau_len];omega
   ·repeat (first|(rw [tau_len];omega)|(show 1≤_;omega)|(show 0≤_;omega)|split)
 ·exact Nat.zero_le _
end
theorem cloned_p(r:List Int)(hr:r.length≤35184372088832):Pure Tryz.prog gs0 46 [rowA r] (rowA r):=by
 cases r with
 |nil=>
  refine p_ tt_ok Tryz.func46 8 fun w0 h0 F hgs=>?_
  refine y_ ?_
  refine A.eqNil rfl rfl rfl rfl rfl rfl rfl rfl fun b hb=>?_
  cases b
  ·refine y_ ?_
   refine A.lit0 rfl rfl rfl rfl rfl rfl rfl fun bl=>?_;refine y_ ?_;refine A.appendNewW rfl rfl rfl rfl rfl rfl rfl rfl rfl rfl rfl rfl rfl (by show (List.map AI32 _).length*1≤_;rw [List.length_map];omega) (by show (List.map AI32 _).length*1*4≤_;rw [List.length_map];omega) (fun x hx=>by injection hx with hx;subst hx;rfl) (row_one _) fun z=>?_;refine y_ ?_
   refine A.freezeRowS 2 z (y':=rowA []) rfl fz_ ?_
   exact r_
  ·refine y_ ?_
   refine R_ ?_;exact .nil
 |cons x r=>
  refine p_ tt_ok Tryz.func46 8 fun w0 h0 F hgs=>?_
  refine y_ ?_
  refine A.eqNil rfl rfl rfl rfl rfl rfl rfl rfl fun b hb=>?_
  cases b
  case true=>cases hb rfl
  refine y_ ?_
  refine A.lit0 rfl rfl rfl rfl rfl rfl rfl fun bl=>?_;refine y_ ?_;refine A.appendNewW rfl rfl rfl rfl rfl rfl rfl rfl rfl rfl rfl rfl rfl (by show (List.map AI32 _).length*1≤_;rw [List.length_map];omega) (by show (List.map AI32 _).length*1*4≤_;rw [List.length_map];omega) (fun x hx=>by injection hx with hx;subst hx;rfl) (row_one _) fun z=>?_;refine y_ ?_
  refine A.freezeRowS 2 z (y':=rowA (x::r)) rfl fz_ ?_
  exact r_
theorem put_none(st:List (List Int)):putM st (-1) 0 0=st:=by
 unfold putM
 rw [if_neg (by unfold atM;simp)]
theorem move_p{V:List KV}{C:List Int}(s:ST)(kind ec ev:Int)(st:List (List Int))(root:PR)(inn:List Int)(hst:Small st)(hr:okF (Loc V C) true false root)(hi:inn.length≤35184372088832):
 Pure Tryz.prog gs0 39 [rnA s,AU8 kind, .ag [AI ec,AI32 ev],rowsA st,cellsR root,rowA inn] (encMV (moveM s kind ec ev st root inn)):=by
 obtain ⟨_,h1,h2⟩:=okF_sm hr
 have hn:=norm_p root h1 h2
 have hc:=copied_p (normR root) (norm_sm h1)
 have hp:=hst.put_p (-1) 0 0
 rw [put_none] at hp
 have hcl:=cloned_p inn (by omega)
 refine p_ tt_ok Tryz.func39 31 fun w0 h0 F hgs=>?_
 (refine b_ fun bx=>?_;refine b_ fun bx=>?_;refine b_ fun bx=>?_;refine y_ ?_)
 refine d_ 14 [0,2,5,7,8,9,10,11,13,1,3,4,6,12] [(1,rowsA st),(3,cellsR (normR root)),(4,cellsR (normR root)),(6,rowA inn)] ?_
 refine WA.alloc rfl rfl rfl rfl rfl rfl rfl rfl fun b13=>?_
 refine cw_ hp ?_
 refine cw_ hn ?_
 refine cw_ hc ?_
 refine cw_ hcl ?_
 refine WA.nil (l:=[.box b13 _]) rfl ?_
 refine y_ ?_;refine A.retC (Λ':=[]) rfl rfl rfl rfl rfl (List.nil_sublist _) ⟨?_,rfl⟩;exact .refl
theorem fitb8{v:Int}(hv:i32 v):(v==IntKind.i32.wrap (IntKind.u8.wrap v))=(decide (0≤v)&&decide (v≤255)):=by
 unfold i32 at hv
 have h8:IntKind.u8.wrap v=v % 256:=by
  unfold IntKind.wrap;rfl
 rw [h8,w32_eq,Bool.eq_iff_iff]
 simp only [beq_iff_eq,Bool.and_eq_true,decide_eq_true_eq]
 omega
theorem fitb1{v:Int}(hv:i32 v):(bitsOf BinOp.or IntKind.i32 v 1==1)=(v==0||v==1):=by
 unfold i32 at hv
 rw [Bool.eq_iff_iff]
 simp only [beq_iff_eq,Bool.or_eq_true]
 show IntKind.i32.wrap ((BitVec.ofInt 32 v|||BitVec.ofInt 32 1).toNat:Int)=1↔_
 have h1:(BitVec.ofInt 32 1).toNat=1:=by decide
 have h2:((BitVec.ofInt 32 v).toNat:Int)=v % 4294967296:=by
  rw [BitVec.toNat_ofInt]
  have:(0:Int)≤v % 4294967296:=by omega
  show (((v % ((2^32:Nat):Int)).toNat:Nat):Int)=_
  rw [show ((2^32:Nat):Int)=4294967296 by decide,Int.toNat_of_nonneg this]
 have h3:(BitVec.ofInt 32 v|||BitVec.ofInt 32 1).toNat=(BitVec.ofInt 32 v).toNat|||1:=by rw [BitVec.toNat_or,h1]
 have h4:=(BitVec.ofInt 32 v|||BitVec.ofInt 32 1).isLt
 have h5:(BitVec.ofInt 32 v).toNat≤(BitVec.ofInt 32 v).toNat|||1:=Nat.left_le_or
 rw [h3] at h4⊢
 constructor
 ·intro h
  rw [w32_eq] at h
  have h6:(BitVec.ofInt 32 v).toNat|||1=1:=by omega
  rw [h6] at h5
  omega
 ·rintro (h|h)<;>subst h<;>decide
theorem fitsq_p(t v:Int)(hv:i32 v):Pure Tryz.prog gs0 41 [AU8 t,AI32 v] (AB (fitsB t v)):=by
 refine p_ tt_ok Tryz.func41 20 fun w0 h0 F hgs=>?_
 refine y_ ?_
 refine k_ (fun hc=>?_) fun hc=>?_
 ·refine y_ ?_;refine R_ ?_;refine Sb.eq ?_;simp at hc;subst hc;rw [fitb8 hv];rfl
 ·refine y_ ?_
  refine k_ (fun hd=>?_) fun hd=>?_
  ·refine y_ ?_;refine R_ ?_;refine Sb.eq ?_;simp at hc hd;subst hd;rw [fitb1 hv];rfl
  ·refine y_ ?_;refine R_ ?_;refine Sb.eq ?_;simp at hc hd;simp [fitsB,hc,hd]
abbrev sumW(l:List (PR×List Nat)):Nat:=(l.map fun cp=>wtR cp.1).sum
theorem sumW_app(a b:List (PR×List Nat)):sumW (a++b)=sumW a+sumW b:=by unfold sumW;rw [List.map_append,List.sum_append]
theorem compL_wt{path:List Nat}: ∀{l:List PR} {j:Nat},(∀x,x∈l→ ∀pre,sumW (compR pre x)≤wtR x)→sumW (compL path j l)≤wtL l
 | [],_,_=>Nat.le_refl _
 |x::r,j,h=>by
  rw [compL,sumW_app,wtL]
  have h1:=h x (.head _) (path++[j])
  have h2:=compL_wt (path:=path) (l:=r) (j:=j+1) fun y hy=>h y (.tail _ hy)
  omega
theorem comp_wt_n: ∀(m:Nat) (p:PR) (path:List Nat),SizeOf.sizeOf p≤m→sumW (compR path p)≤wtR p
 |0,p,_,h=>by
  obtain ⟨k,c,v,i,to,e,gs,l⟩:=p
  simp only [PR.mk.sizeOf_spec] at h;omega
 |m+1,p,path,hm=>by
  rw [compR_eq,wtR_eq]
  split
  ·match hl:p.l with
   | []=>rw [compS];exact Nat.zero_le _
   | [x]=>
     have hx:x∈p.l:=by rw [hl];exact .head _
     have h1:=comp_wt_n m x path (by have:=pr_lt hx;omega)
     rw [compS,wtS_1];omega
   |x::y::r=>
    have hx:x∈p.l:=by rw [hl];exact .head _
    have h1:=comp_wt_n m x path (by have:=pr_lt hx;omega)
    rw [compS,wtS_2];omega
  ·split
   ·have h1:=compL_wt (path:=path) (l:=p.l) (j:=0) fun x hx pre=>comp_wt_n m x pre (by have:=pr_lt hx;omega)
    omega
   ·rename_i k9 kb
    have hl:Leaf p:=⟨k9,kb⟩
    have:=hl.wt
    show ([(p,path)].map fun cp=>wtR cp.1).sum≤_
    rw [←this];simp
theorem comp_wt(p:PR)(path:List Nat):sumW (compR path p)≤wtR p:=comp_wt_n _ p path (Nat.le_refl _)
structure InActs(k:KN)(s:ST)(x:ACT×List Nat)(c:PR):Prop where
 cm:(c,x.2)∈compR [] s.root
 ac:x.1∈doesM s c
 at':atR s.root x.2=some c
 leaf:Leaf c
 loc:Loc k.vars k.chans c
 ok:ActOk k.vars k.chans c x.1
theorem GoodK.st{k:KN}{s:ST}(h:GoodK k s):StOk k.vars s.store:=⟨h.store,h.ws⟩
theorem comp_leaf{k:KN}{s:ST}(hg:GoodK k s){c:PR}{path:List Nat}(hc:(c,path)∈compR [] s.root):Leaf c∧Loc k.vars k.chans c:=by
 have ha:=comp_at hc
 obtain ⟨h1,h2,h3⟩:=at_kind ha
 exact ⟨⟨h1,by omega⟩,comp_loc hg.root (c,path) hc⟩
theorem acts_in{k:KN}{s:ST}(hg:GoodK k s){x:ACT×List Nat}(hx:x∈actsM s): ∃c,InActs k s x c:=by
 unfold actsM at hx
 rw [List.mem_flatMap] at hx
 obtain ⟨⟨c,path⟩,hc,hx⟩:=hx
 rw [List.mem_map] at hx
 obtain ⟨a,ha,rfl⟩:=hx
 obtain ⟨h1,h2⟩:=comp_leaf hg hc
 exact ⟨c,hc,ha,comp_at hc,h1,h2,does_ok hg.st hg.time h1 h2 a ha⟩
theorem flat_le{α β:Type}(f:α→List β)(w:α→Nat): ∀l:List α,(∀a,a∈l→(f a).length≤w a)→(l.flatMap f).length≤(l.map w).sum
 | [],_=>Nat.le_refl _
 |a::r,h=>by
  rw [List.flatMap_cons,List.length_append,List.map_cons,List.sum_cons]
  have:=h a (.head _)
  have:=flat_le f w r fun b hb=>h b (.tail _ hb)
  omega
theorem acts_len{k:KN}{s:ST}(hg:GoodK k s):(actsM s).length≤wtR s.root:=by
 have h1:=flat_le (fun cp:PR×List Nat=>(doesM s cp.1).map fun a=>(a,cp.2)) (fun cp=>wtR cp.1) (compR [] s.root) fun cp hcp=>by
  obtain ⟨h1,h2⟩:=comp_leaf hg (c:=cp.1) (path:=cp.2) hcp
  rw [List.length_map]
  exact does_wt h1 h2
 have h2:=comp_wt s.root []
 exact Nat.le_trans h1 h2
theorem comps_len{k:KN}{s:ST}(hg:GoodK k s):(compR [] s.root).length≤wtR s.root:=by
 have h1:=flat_le (fun cp:PR×List Nat=>[cp]) (fun cp=>wtR cp.1) (compR [] s.root) fun cp hcp=>by
  obtain ⟨h1,h2⟩:=comp_leaf hg (c:=cp.1) (path:=cp.2) hcp
  have:=h1.wt
  show 1≤wtR cp.1
  omega
 have h2:=comp_wt s.root []
 rw [List.flatMap_singleton'] at h1
 exact Nat.le_trans h1 h2
structure RootOk(k:KN)(s:ST)(r:PR):Prop where
 ok:okF (Loc k.vars k.chans) true false r
 wt:wtR r≤wtR s.root
 dw:dwR r≤dwR s.root
theorem root_one{k:KN}{s:ST}(hg:GoodK k s){x:ACT×List Nat}{c:PR}(h:InActs k s x c):RootOk k s (repR x.1.next s.root x.2):=
 ⟨rep_ok loc_lax h.ok.ok h.at' hg.root,rep_wt h.ok.wt h.ok.dw h.at',rep_dw h.ok.wt h.ok.dw h.at'⟩
theorem path_ne{k:KN}{s:ST}{x y:ACT×List Nat}{c d:PR}(h:InActs k s x c)(h':InActs k s y d)(hx:x.1.kind=111)(hy:y.1.kind=105):x.2≠y.2:=fun e=>by
 have h1:=h.at'
 rw [e,h'.at'] at h1
 injection h1 with h1
 have h2:=(h.ok.out hx).1
 have h3:=(h'.ok.inp hy).1
 rw [h1] at h3
 omega
theorem at_two{k:KN}{s:ST}{x y:ACT×List Nat}{c d:PR}(h:InActs k s x c)(h':InActs k s y d)(hne:x.2≠y.2):atR (repR x.1.next s.root x.2) y.2=some d:=rep_at h.at' h'.at' hne
theorem root_two{k:KN}{s:ST}(hg:GoodK k s){x y:ACT×List Nat}{c d:PR}(h:InActs k s x c)(h':InActs k s y d)(hne:x.2≠y.2):RootOk k s (repR y.1.next (repR x.1.next s.root x.2) y.2):=by
 have h1:=root_one hg h
 have h2:=at_two h h' hne
 refine ⟨rep_ok loc_lax h'.ok.ok h2 h1.ok,Nat.le_trans (rep_wt h'.ok.wt h'.ok.dw h2) h1.wt,Nat.le_trans (rep_dw h'.ok.wt h'.ok.dw h2) h1.dw⟩
theorem good_move{k:KN}{s:ST}(hg:GoodK k s){st:List (List Int)}(hst:StOk k.vars st){r:PR}(hr:RootOk k s r){inn:List Int}(hi: ∀x,x∈inn→i32 x)(hil:inn.length≤35184372088832):GoodK k ⟨st,normR r,inn,s.time⟩:=
 ⟨hg.may,hg.wf,hst.may,hst.ws,norm_ok loc_lax hr.ok,Nat.le_trans (norm_wt r) (Nat.le_trans hr.wt hg.wt),Nat.le_trans (norm_dw r) (Nat.le_trans hr.dw hg.dw),norm_nf r,hi,hil,hg.time⟩
abbrev NextK(k:KN)(s:ST)(m:MV):Prop:=GoodK k m.next∧wtR m.next.root≤wtR s.root
theorem next_move{k:KN}{s:ST}(hg:GoodK k s){st:List (List Int)}(hst:StOk k.vars st){r:PR}(hr:RootOk k s r){inn:List Int}(hi: ∀x,x∈inn→i32 x)(hil:inn.length≤35184372088832)(kind ec ev:Int):NextK k s (moveM s kind ec ev st r inn):=
 ⟨good_move hg hst hr hi hil,Nat.le_trans (norm_wt r) hr.wt⟩
theorem put_in{k:KN}{s:ST}(hg:GoodK k s){x:ACT×List Nat}{c:PR}(h:InActs k s x c)(hk:x.1.kind=105){v:Int}(hv:i32 v)(hf:fitsB x.1.item v=true):StOk k.vars (putM s.store x.1.v x.1.i v):=
 hg.st.put hv fun y hy=>by rw [(h.ok.inp hk).2.1 y hy];exact hf
theorem head_in{s:ST}(hi: ∀x,x∈s.inn→i32 x)(h:0<s.inn.length):i32 (s.inn.headD 0):=by
 cases hs:s.inn with
 |nil=>rw [hs] at h;simp at h
 |cons y r=>exact hi y (by rw [hs];exact .head _)
theorem comm_good{k:KN}{s:ST}(hg:GoodK k s){x:ACT×List Nat}(hx:x∈actsM s)(h1:x.1.kind=111){y:ACT×List Nat}(hy:y∈actsM s): ∀m,m∈commM s x y→NextK k s m:=fun m hm=>by
 obtain ⟨c,hc⟩:=acts_in hg hx
 obtain ⟨d,hd⟩:=acts_in hg hy
 unfold commM at hm
 split at hm
 ·rename_i h
  rw [List.mem_singleton.1 hm]
  exact next_move hg (put_in hg hd h.1 (hc.ok.out h1).2 h.2.2) (root_two hg hc hd (path_ne hc hd h1 h.1)) hg.inn hg.innl 2 x.1.c x.1.value
 ·cases hm
theorem step_good{k:KN}{s:ST}(hg:GoodK k s){x:ACT×List Nat}(hx:x∈actsM s): ∀m,m∈stepA s (actsM s) x→NextK k s m:=fun m hm=>by
 obtain ⟨c,hc⟩:=acts_in hg hx
 unfold stepA at hm
 split at hm
 ·rename_i h
  rw [List.mem_singleton.1 hm]
  exact next_move hg (hc.ok.tau h) (root_one hg hc) hg.inn hg.innl 1 0 0
 ·split at hm
  ·rename_i h
   rw [List.mem_singleton.1 hm]
   refine next_move hg (put_in hg hc h.1 (head_in hg.inn h.2.2) ?_) (root_one hg hc) (fun z hz=>hg.inn z (List.mem_of_mem_tail hz)) (by have:=hg.innl;rw [List.length_tail];omega) 2 0 (s.inn.headD 0)
   rw [(hc.ok.inp h.1).2.2 h.2.1];rfl
  ·split at hm
   ·rw [List.mem_singleton.1 hm]
    exact next_move hg hg.st (root_one hg hc) hg.inn hg.innl 2 1 x.1.value
   ·split at hm
    ·rename_i h
     rw [List.mem_flatMap] at hm
     obtain ⟨y,hy,hm⟩:=hm
     exact comm_good hg hx h hy m hm
    ·cases hm
theorem tick_good{k:KN}{s:ST}(hg:GoodK k s):NextK k s (tickM s):=⟨⟨hg.may,hg.wf,hg.store,hg.ws,hg.root,hg.wt,hg.dw,hg.nf,hg.inn,hg.innl,w32_in _⟩,Nat.le_refl _⟩
theorem moves_good{k:KN}{s:ST}(hg:GoodK k s): ∀m,m∈movesM s→NextK k s m:=fun m hm=>by
 unfold movesM at hm
 rw [List.mem_append] at hm
 rcases hm with hm|hm
 ·rw [List.mem_flatMap] at hm
  obtain ⟨x,hx,hm⟩:=hm
  exact step_good hg hx m hm
 ·rw [List.mem_singleton.1 hm];exact tick_good hg
theorem flat_bound{α β:Type}(f:α→List β)(n:Nat): ∀l:List α,(∀a,a∈l→(f a).length≤n)→(l.flatMap f).length≤n*l.length
 | [],_=>Nat.le_refl _
 |a::r,h=>by
  rw [List.flatMap_cons,List.length_append,List.length_cons,Nat.mul_succ]
  have:=h a (.head _)
  have:=flat_bound f n r fun b hb=>h b (.tail _ hb)
  omega
theorem comm_len(s:ST)(a b:ACT×List Nat):(commM s a b).length≤1:=by unfold commM;split<;>simp
theorem step_len(s:ST)(l:List (ACT×List Nat))(a:ACT×List Nat):(stepA s l a).length≤1+l.length:=by
 unfold stepA
 split
 ·simp
 ·split
  ·simp
  ·split
   ·simp
   ·split
    ·have:=flat_len (commM s a) (comm_len s a) l
     omega
    ·simp
theorem eqLB_iff{α:Type}{p:α→α→Bool}: ∀{a b:List α},(∀x,x∈a→ ∀y,p x y=true↔x=y)→(eqLB p a b=true↔a=b)
 | [],[],_=>by simp [eqLB]
 | [],_::_,_=>by simp [eqLB]
 |_::_,[],_=>by simp [eqLB]
 |x::r,y::s,h=>by
  rw [eqLB,Bool.and_eq_true,h x (.head _) y,eqLB_iff (a:=r) (b:=s) fun z hz=>h z (.tail _ hz),List.cons.injEq]
theorem eqK_iff_n: ∀(m:Nat) (a:KE),SizeOf.sizeOf a≤m→ ∀b,(eqK a b=true↔a=b)
 |0,e,h=>by
  obtain ⟨k,o,t,n,v,l⟩:=e
  simp only [KE.mk.sizeOf_spec] at h;omega
 |m+1,a,h=>fun b=>by
  obtain ⟨k,o,t,n,v,l⟩:=a
  obtain ⟨k',o',t',n',v',l'⟩:=b
  have hl: ∀x,x∈l→ ∀y,(eqK x y=true↔x=y):=fun x hx=>eqK_iff_n m x (by
   have:=List.sizeOf_lt_of_mem hx
   simp only [KE.mk.sizeOf_spec] at h;omega)
  rw [eqK,eqKl_eq]
  simp only [Bool.and_eq_true,beq_iff_eq,eqLB_iff hl,KE.mk.injEq]
theorem eqK_iff{a b:KE}:eqK a b=true↔a=b:=eqK_iff_n _ a (Nat.le_refl _) b
theorem eqP_iff{a b:PL}:eqP a b=true↔a=b:=by
 obtain ⟨v,ix⟩:=a
 obtain ⟨v',ix'⟩:=b
 unfold eqP
 rw [eqKl_eq,Bool.and_eq_true,beq_iff_eq,eqLB_iff fun x _ y=>eqK_iff,PL.mk.injEq]
theorem eqR_iff_n: ∀(m:Nat) (a:PR),SizeOf.sizeOf a≤m→ ∀b,(eqR a b=true↔a=b)
 |0,p,h=>by
  obtain ⟨k,c,v,i,to,e,gs,l⟩:=p
  simp only [PR.mk.sizeOf_spec] at h;omega
 |m+1,a,h=>fun b=>by
  have hl: ∀x,x∈a.l→ ∀y,(eqR x y=true↔x=y):=fun x hx=>eqR_iff_n m x (by have:=pr_lt hx;omega)
  have hg: ∀g,g∈a.gs→ ∀g',(eqG g g'=true↔g=g'):=fun g hg g'=>by
   have hb: ∀x,x∈g.body→ ∀y,(eqR x y=true↔x=y):=fun x hx=>eqR_iff_n m x (by have:=gg_lt hg;have:=bd_lt hx;omega)
   rw [eqG_eq,eqRl_eq]
   obtain ⟨k,e,c,i,to,t,bd⟩:=g
   obtain ⟨k',e',c',i',to',t',bd'⟩:=g'
   simp only [Bool.and_eq_true,beq_iff_eq,eqLB_iff hb,eqK_iff,eqP_iff,GD.mk.injEq]
   constructor
   ·rintro ⟨h1,h2,h3,h4,h5,h6,h7⟩;exact ⟨h1,h4,h2,h3,h6,h5,h7⟩
   ·rintro ⟨h1,h4,h2,h3,h6,h5,h7⟩;exact ⟨h1,h2,h3,h4,h5,h6,h7⟩
  rw [eqR_eq,eqRl_eq,eqGl_eq,eqKl_eq]
  obtain ⟨k,c,v,i,to,e,gs,l⟩:=a
  obtain ⟨k',c',v',i',to',e',gs',l'⟩:=b
  simp only [Bool.and_eq_true,beq_iff_eq,eqLB_iff hl,eqLB_iff hg,eqLB_iff (p:=eqK) fun x _ y=>eqK_iff,eqLB_iff (p:=eqP) fun x _ y=>eqP_iff,PR.mk.injEq]
theorem eqR_iff{a b:PR}:eqR a b=true↔a=b:=eqR_iff_n _ a (Nat.le_refl _) b
def startS(k:KN)(inn:List Int):ST:=⟨storeS k.vars,normR k.root,inn,0⟩
theorem may_sounds{k:KN}(h:mayK k=true):soundsB k.vars=true:=KOk.sounds (C:=k.chans) (may_kok h)
theorem storeS_eq{k:KN}(h:mayK k=true):storeS k.vars=storeM k.vars:=by unfold storeS;rw [if_pos (may_sounds h)]
theorem store_ok{V:List KV}(h:soundsB V=true):StOk V (storeM V):=⟨may_store h,fun r hr x hx=>by
 unfold storeM at hr
 rw [List.mem_map] at hr
 obtain ⟨v,_,rfl⟩:=hr
 rw [List.eq_of_mem_replicate hx];unfold i32;omega⟩
theorem start_root{k:KN}(h:mayK k=true)(hw:WfN k)(hs:smR k.root):okF (Loc k.vars k.chans) true false k.root:=by
 obtain ⟨h1,h2,h3⟩:=may_fits h
 exact ok_kernel h1 (by omega) hw.root hs
theorem start_good{k:KN}(h:mayK k=true)(hw:WfN k)(hs:smR k.root){inn:List Int}(hi: ∀x,x∈inn→i32 x)(hl:inn.length≤35184372088832):GoodK k (startS k inn):=by
 have hf:=may_fits h
 obtain ⟨f1,f2,f3⟩:=hf
 have hst:=store_ok (may_sounds h)
 have hwt:=wt_le k.root
 have hdw:=dw_le k.root
 have hm:(htR k.root+2)*szR k.root≤34*2048:=Nat.mul_le_mul (by omega) (by omega)
 have e:=storeS_eq h
 refine ⟨h,hw,?_,?_,norm_ok loc_lax (start_root h hw hs),Nat.le_trans (norm_wt _) (by omega),Nat.le_trans (norm_dw _) (by omega),norm_nf _,hi,hl,by show i32 0;unfold i32;omega⟩
 ·show mayB k.vars (storeS k.vars)=true;rw [e];exact hst.may
 ·show wfS (storeS k.vars);rw [e];exact hst.ws
structure StepK(s:ST)(m:MV):Prop where
 kind:(m.kind=1∧m.ec=0∧m.ev=0)∨m.kind=2
 time:m.next.time=s.time
abbrev realM(s:ST):List MV:=(actsM s).flatMap (stepA s (actsM s))
theorem moves_eq(s:ST):movesM s=realM s++[tickM s]:=rfl
theorem moves_pos(s:ST):(movesM s).length=(realM s).length+1:=by rw [moves_eq,List.length_append];rfl
inductive HostK(s:ST)(m:MV):Prop
 |quiet (hk:m.kind≠2) (hi:m.next.inn=s.inn)
 |heard (hk:m.kind=2) (hc:m.ec=0) (hi:s.inn=m.ev::m.next.inn) (v i:Int) (hs:m.next.store=putM s.store v i m.ev)
 |told (hk:m.kind=2) (hc:m.ec=1) (hi:m.next.inn=s.inn) (hs:m.next.store=s.store)
 |inside (hk:m.kind=2) (h0:m.ec≠0) (h1:m.ec≠1) (hi:m.next.inn=s.inn) (v i:Int) (hs:m.next.store=putM s.store v i m.ev)
end Go.Proofs.YtpcloejpklkieaaGreat
namespace Go.Proofs.YtpcloejpklkieaaGreat
theorem fm_congr{α β:Type}{f g:α→List β}: ∀{l:List α},(∀a,a∈l→f a=g a)→l.flatMap f=l.flatMap g
 | [],_=>rfl
 |x::r,h=>by rw [List.flatMap_cons,List.flatMap_cons,h x (.head _),fm_congr fun a ha=>h a (.tail _ ha)]
mutual
def untR:PR→Bool
 |⟨k,_,_,_,_,_,gs,l⟩=> !(k==7||k==8)&&(untL l&&untGs gs)
def untL:List PR→Bool
 | []=>true
 |p::r=>untR p&&untL r
def untG:GD→Bool
 |⟨k,_,_,_,_,_,b⟩=> !(k==4)&&untL b
def untGs:List GD→Bool
 | []=>true
 |g::r=>untG g&&untGs r
end
theorem untR_eq(p:PR):untR p=(!(p.kind==7||p.kind==8)&&(untL p.l&&untGs p.gs)):=by obtain ⟨k,c,v,i,to,e,gs,l⟩:=p;rw [untR]
theorem untG_eq(g:GD):untG g=(!(g.kind==4)&&untL g.body):=by obtain ⟨k,e,c,i,to,t,b⟩:=g;rw [untG]
theorem untL_all: ∀{l:List PR},untL l=true↔ ∀x,x∈l→untR x=true
 | []=>by simp [untL]
 |p::r=>by rw [untL,Bool.and_eq_true,untL_all];simp
theorem untGs_all: ∀{l:List GD},untGs l=true↔ ∀g,g∈l→untG g=true
 | []=>by simp [untGs]
 |p::r=>by rw [untGs,Bool.and_eq_true,untGs_all];simp
structure UT(p:PR):Prop where
 k7:p.kind≠7
 k8:p.kind≠8
 gs: ∀g,g∈p.gs→g.kind≠4
theorem unt_iff{p:PR}:untR p=true↔UT p∧(∀x,x∈p.l→untR x=true)∧ ∀g,g∈p.gs→untL g.body=true:=by
 rw [untR_eq]
 simp only [Bool.and_eq_true,Bool.not_eq_true',Bool.or_eq_false_iff,beq_eq_false_iff_ne,untL_all,untGs_all]
 constructor
 ·rintro ⟨⟨h1,h2⟩,h3,h4⟩
  refine ⟨⟨h1,h2,fun g hg=>?_⟩,h3,fun g hg=>?_⟩
  ·have:=h4 g hg;rw [untG_eq] at this;simp at this;exact this.1
  ·have:=h4 g hg;rw [untG_eq] at this;simp at this;exact untL_all.1 this.2
 ·rintro ⟨⟨h1,h2,h3⟩,h4,h5⟩
  refine ⟨⟨h1,h2⟩,h4,fun g hg=>?_⟩
  rw [untG_eq]
  have:=h5 g hg
  simp [h3 g hg];exact untL_all.2 this
section
variable{V:List KV}{C:List Int}
def LU(V:List KV)(C:List Int)(p:PR):Prop:=Loc V C p∧UT p
theorem lu_lax:Lax (LU V C) where
 skip:=⟨loc_lax.skip,⟨by decide,by decide,fun g h=>by cases h⟩⟩
 stop:=⟨loc_lax.stop,⟨by decide,by decide,fun g h=>by cases h⟩⟩
 seq p l' h1 h2 h:=⟨loc_lax.seq p l' h1 h2 h.1,⟨h.2.k7,h.2.k8,h.2.gs⟩⟩
 par p l' h1 h:=⟨loc_lax.par p l' h1 h.1,⟨h.2.k7,h.2.k8,h.2.gs⟩⟩
theorem lu_loc{p:PR}{n hi:Bool}(w:okF (LU V C) n hi p):okF (Loc V C) n hi p:=okF_imp (fun _ h=>h.1) _ p n hi (Nat.le_refl _) w
theorem lu_of_n: ∀(m:Nat) (p:PR) (n hi:Bool),SizeOf.sizeOf p≤m→untR p=true→okF (Loc V C) n hi p→okF (LU V C) n hi p
 |0,p,_,_,h,_,_=>by
  obtain ⟨k,c,v,i,to,e,gs,l⟩:=p
  simp only [PR.mk.sizeOf_spec] at h;omega
 |m+1,p,n,hi,hm,hu,w=>by
  obtain ⟨u1,u2,u3⟩:=unt_iff.1 hu
  rw [okF_eq] at w⊢
  obtain ⟨⟨w1,w2,w3⟩,w4,w5⟩:=w
  have hl: ∀(l:List PR),(∀x,x∈l→SizeOf.sizeOf x≤m∧untR x=true)→ ∀n0 n1 h0 h1,okFl (Loc V C) n0 n1 h0 h1 l→okFl (LU V C) n0 n1 h0 h1 l:=by
   intro l
   induction l with
   |nil=>intro _ n0 n1 h0 h1 _;exact okFl_0
   |cons x r ih=>
    intro hx n0 n1 h0 h1 w
    rw [okFl] at w⊢
    exact ⟨lu_of_n m x n0 h0 (hx x (.head _)).1 (hx x (.head _)).2 w.1,ih (fun y hy=>hx y (.tail _ hy)) _ _ _ _ w.2⟩
  refine ⟨⟨⟨w1,u1⟩,w2,w3⟩,hl p.l (fun x hx=>⟨by have:=pr_lt hx;omega,u2 x hx⟩) _ _ _ _ w4,okFs_of fun g hg=>?_⟩
  have:=okFs_mem w5 g hg
  rw [okFg_eq] at this⊢
  exact hl g.body (fun x hx=>⟨by have:=gg_lt hg;have:=bd_lt hx;omega,untL_all.1 (u3 g hg) x hx⟩) _ _ _ _ this
theorem lu_of{p:PR}{n hi:Bool}(hu:untR p=true)(w:okF (Loc V C) n hi p):okF (LU V C) n hi p:=lu_of_n _ p n hi (Nat.le_refl _) hu w
theorem unt_of_n: ∀(m:Nat) (p:PR) (n hi:Bool),SizeOf.sizeOf p≤m→okF (LU V C) n hi p→untR p=true
 |0,p,_,_,h,_=>by
  obtain ⟨k,c,v,i,to,e,gs,l⟩:=p
  simp only [PR.mk.sizeOf_spec] at h;omega
 |m+1,p,n,hi,hm,w=>by
  rw [okF_eq] at w
  obtain ⟨⟨w1,w2,w3⟩,w4,w5⟩:=w
  refine unt_iff.2 ⟨w1.2,fun x hx=>?_,fun g hg=>untL_all.2 fun x hx=>?_⟩
  ·obtain ⟨n',h',hw⟩:=okFl_some w4 hx
   exact unt_of_n m x n' h' (by have:=pr_lt hx;omega) hw
  ·have:=okFs_mem w5 g hg
   rw [okFg_eq] at this
   obtain ⟨n',h',hw⟩:=okFl_some this hx
   exact unt_of_n m x n' h' (by have:=gg_lt hg;have:=bd_lt hx;omega) hw
theorem unt_of{p:PR}{n hi:Bool}(w:okF (LU V C) n hi p):untR p=true:=unt_of_n _ p n hi (Nat.le_refl _) w
theorem unt_skip:untR skipR=true:=by decide
theorem unt_stop:untR stopR=true:=by decide
theorem unt_head{l:List PR}(h:untL l=true):untR (headR l)=true:=by
 cases l with
 |nil=>exact unt_skip
 |cons x r=>exact untL_all.1 h x (.head _)
theorem unt_tau{st:List (List Int)}{q:PR}(hq:untR q=true): ∀a,a∈tauM st q→untR a.next=true:=fun a ha=>by
 rw [List.mem_singleton.1 ha];exact hq
theorem unt_input{s:ST}{c it:Int}{to:PL}{q:PR}(hq:untR q=true): ∀a,a∈inputM s c it to q→untR a.next=true:=fun a ha=>by
 unfold inputM at ha
 split at ha
 ·exact unt_tau unt_stop a ha
 ·rw [List.mem_singleton.1 ha];exact hq
theorem unt_enter{st:List (List Int)}{g g':GD}(h:enterG st g=some g'):untG g'=untG g:=by
 have h1:=enter_body h
 have h2:g'.kind=g.kind:=by
  unfold enterG at h
  split at h
  ·cases h
  ·split at h
   ·split at h
    ·cases h
    ·injection h with h;rw [←h]
   ·injection h with h;rw [←h]
 rw [untG_eq,untG_eq,h1,h2]
theorem does_unt{s:ST}{c:PR}(hu:untR c=true): ∀a,a∈doesM s c→untR a.next=true:=by
 obtain ⟨u1,u2,u3⟩:=unt_iff.1 hu
 have cho: ∀l:List GD,(∀g,g∈l→untL g.body=true)→ ∀a,a∈chooseM s l→untR a.next=true:=by
  intro l
  induction l with
  |nil=>intro _ a ha;exact unt_tau unt_stop a ha
  |cons g r ih=>
   intro hl a ha
   rw [chooseM] at ha
   split at ha
   ·exact unt_tau unt_stop a ha
   ·split at ha
    ·exact unt_tau (unt_head (hl g (.head _))) a ha
    ·exact ih (fun g hg=>hl g (.tail _ hg)) a ha
 intro a ha
 unfold doesM at ha
 split at ha
 ·exact unt_tau unt_skip a ha
 split at ha
 ·unfold assignM at ha
  split at ha
  ·exact unt_tau unt_stop a ha
  ·split at ha
   ·exact unt_tau unt_stop a ha
   ·exact unt_tau unt_skip a ha
 split at ha
 ·rename_i k7;exact absurd k7 u1.k7
 split at ha
 ·exact cho _ u3 a ha
 split at ha
 ·unfold enteredM at ha
  split at ha
  ·exact unt_tau unt_stop a ha
  ·rename_i gs' he
   refine unt_tau ?_ a ha
   rw [untR_eq]
   show (true&&(untL []&&untGs gs'))=true
   rw [untL,Bool.true_and,Bool.true_and,untGs_all]
   intro g' hg'
   obtain ⟨g,hg,hge⟩:=(enter_all he).2 g' hg'
   rw [unt_enter hge,untG_eq]
   simp only [Bool.and_eq_true,Bool.not_eq_true',beq_eq_false_iff_ne]
   exact ⟨u1.gs g hg,u3 g hg⟩
 split at ha
 ·rw [List.mem_flatMap] at ha
  obtain ⟨g,hg,ha⟩:=ha
  unfold waitG at ha
  split at ha
  ·cases ha
  ·split at ha
   ·exact unt_input (unt_head (u3 g hg)) a ha
   ·split at ha
    ·exact unt_tau (unt_head (u3 g hg)) a ha
    ·cases ha
 split at ha
 ·unfold inM at ha
  split at ha
  ·cases ha
  ·exact unt_input unt_skip a ha
 split at ha
 ·unfold valuedM at ha
  split at ha
  ·cases ha
  ·split at ha
   ·exact unt_tau unt_stop a ha
   ·split at ha
    ·rw [List.mem_singleton.1 ha];exact unt_skip
    ·split at ha
     ·refine unt_tau ?_ a ha
      rw [untR_eq]
      show (true&&(untL [headR c.l,c]&&untGs []))=true
      rw [untGs,untL,untL,untL,hu,unt_head (untL_all.2 u2)];rfl
     ·split at ha
      ·exact unt_tau unt_skip a ha
      ·cases ha
 ·cases ha
abbrev tmS(t:Int)(s:ST):ST:=⟨s.store,s.root,s.inn,t⟩
theorem does_time{c:PR}(hc:Loc V C c)(hu:untR c=true)(s:ST)(t:Int):doesM (tmS t s) c=doesM s c:=by
 obtain ⟨u1,u2,u3⟩:=unt_iff.1 hu
 have cho: ∀l:List GD,chooseM (tmS t s) l=chooseM s l:=by
  intro l
  induction l with
  |nil=>rfl
  |cons g r ih=>rw [chooseM,chooseM,ih]
 unfold doesM
 split
 ·rfl
 split
 ·rfl
 split
 ·rename_i k7;exact absurd k7 u1.k7
 split
 ·exact cho _
 split
 ·rfl
 split
 ·rename_i k16
  refine fm_congr fun g hg=>?_
  have h1:=hc.guards (.inr (.inr k16)) g hg
  have h4:=u1.gs g hg
  unfold waitG
  split
  ·rfl
  ·split
   ·rfl
   ·rename_i h3
    by_cases h2:g.kind=2
    ·rw [if_pos (.inl h2),if_pos (.inl h2)]
    ·exfalso
     unfold guardB at h1
     by_cases h5:g.kind=1
     ·simp [h5] at h1
     ·rw [if_neg (by omega),if_neg h3,if_neg h4] at h1
      simp at h1
 split
 ·rfl
 split
 ·rename_i k8
  have h13:c.kind≠6→c.kind=13:=fun h6=>by have:=u1.k8;omega
  unfold valuedM
  cases c.e with
  |nil=>rfl
  |cons e r=>
   dsimp only [tmS]
   generalize valueM s.store e=v
   cases v with
   |none=>rfl
   |some x=>
    dsimp only
    by_cases h6:c.kind=6
    ·rw [if_pos h6,if_pos h6]
    ·have h13:=h13 h6
     rw [if_neg h6,if_neg h6]
     split
     ·rfl
     ·rw [if_pos (.inl h13),if_pos (.inl h13)]
 ·rfl
end
theorem comp_unt{k:KN}{s:ST}(hg:GoodK k s)(hu:untR s.root=true){c:PR}{path:List Nat}(hc:(c,path)∈compR [] s.root):untR c=true:=by
 obtain ⟨h',w⟩:=at_ok (comp_at hc) (lu_of hu hg.root)
 exact unt_of w
theorem acts_time{k:KN}{s:ST}(hg:GoodK k s)(hu:untR s.root=true)(t:Int):actsM (tmS t s)=actsM s:=by
 unfold actsM
 refine fm_congr fun cp hcp=>?_
 rw [does_time (comp_leaf hg hcp).2 (comp_unt hg hu hcp) s t]
abbrev tmM(t:Int)(m:MV):MV:=⟨m.kind,m.ec,m.ev,tmS t m.next⟩
theorem comm_time(s:ST)(t:Int)(x y:ACT×List Nat):commM (tmS t s) x y=(commM s x y).map (tmM t):=by
 unfold commM
 split<;>rfl
theorem step_time(s:ST)(t:Int)(l:List (ACT×List Nat))(x:ACT×List Nat):stepA (tmS t s) l x=(stepA s l x).map (tmM t):=by
 unfold stepA
 split
 ·rfl
 ·split
  ·rfl
  ·split
   ·rfl
   ·split
    ·rw [List.map_flatMap]
     exact fm_congr fun y _=>comm_time s t x y
    ·rfl
theorem real_time{k:KN}{s:ST}(hg:GoodK k s)(hu:untR s.root=true)(t:Int):realM (tmS t s)=(realM s).map (tmM t):=by
 unfold realM
 rw [acts_time hg hu t,List.map_flatMap]
 exact fm_congr fun x _=>step_time s t _ x
theorem move_unt{k:KN}{s:ST}(hg:GoodK k s){st:List (List Int)}{r:PR}(hr:okF (LU k.vars k.chans) true false r)(kind ec ev:Int)(inn:List Int):untR (moveM s kind ec ev st r inn).next.root=true:=unt_of (norm_ok lu_lax hr)
theorem next_unt{k:KN}{s:ST}{x:ACT×List Nat}{c:PR}(h:InActs k s x c)(hh:Bool)(w:okF (LU k.vars k.chans) true hh c):okF (LU k.vars k.chans) true hh x.1.next:=
 lu_of (does_unt (unt_of w) x.1 h.ac) (h.ok.ok hh (lu_loc w))
theorem step_unt{k:KN}{s:ST}(hg:GoodK k s)(hu:untR s.root=true): ∀m,m∈realM s→untR m.next.root=true:=fun m hm=>by
 rw [List.mem_flatMap] at hm
 obtain ⟨x,hx,hm⟩:=hm
 obtain ⟨c,hc⟩:=acts_in hg hx
 have h1:okF (LU k.vars k.chans) true false (repR x.1.next s.root x.2):=rep_ok lu_lax (next_unt hc) hc.at' (lu_of hu hg.root)
 unfold stepA at hm
 split at hm
 ·rw [List.mem_singleton.1 hm];exact move_unt hg h1 _ _ _ _
 ·split at hm
  ·rw [List.mem_singleton.1 hm];exact move_unt hg h1 _ _ _ _
  ·split at hm
   ·rw [List.mem_singleton.1 hm];exact move_unt hg h1 _ _ _ _
   ·split at hm
    ·rename_i ho
     rw [List.mem_flatMap] at hm
     obtain ⟨y,hy,hm⟩:=hm
     obtain ⟨d,hd⟩:=acts_in hg hy
     unfold commM at hm
     split at hm
     ·rename_i hi
      rw [List.mem_singleton.1 hm]
      exact move_unt hg (rep_ok lu_lax (next_unt hd) (at_two hc hd (path_ne hc hd ho hi.1)) h1) _ _ _ _
     ·cases hm
    ·cases hm
abbrev evM(m:MV):Option EL:=if m.kind=2 then some (m.ec,m.ev) else none
def stepsM(s:ST):List (Mv ST):=(realM s).map fun m=>(evM m,m.next)
structure SrchK(k:KN)(s:ST):Prop where
 good:GoodK k s
 unt:untR s.root=true
theorem SrchK.step{k:KN}{s:ST}(h:SrchK k s){m:MV}(hm:m∈realM s):SrchK k m.next:=
 ⟨(moves_good h.good m (by rw [moves_eq];exact List.mem_append_left _ hm)).1,step_unt h.good h.unt m hm⟩
theorem SrchK.wlk{k:KN}{s0:ST}(h:SrchK k s0){t:TR}{s:ST}(hw:Wlk stepsM s0 t s):SrchK k s:=by
 induction hw with
 |nil=>exact h
 |step hw hm ih=>
  obtain ⟨m,hm',rfl⟩:=List.mem_map.1 hm
  exact ih.step hm'
def walkM:TR→ST→List Nat→TR×ST
 |t,s,[]=>(t,s)
 |t,s,p::r=>match (movesM s)[p % (movesM s).length]? with
  |none=>(t,s)
  |some m=>walkM (withM t (evM m,m.next)) m.next r
theorem walk_wlk{k:KN}{s0:ST}: ∀(r:List Nat) (t:TR) (s:ST),SrchK k s→Wlk stepsM s0 t (tmS 0 s)→SrchK k (walkM t s r).2∧Wlk stepsM s0 (walkM t s r).1 (tmS 0 (walkM t s r).2)
 | [],t,s,h,hw=>⟨h,hw⟩
 |p::r,t,s,h,hw=>by
  rw [walkM]
  cases hm:(movesM s)[p % (movesM s).length]? with
  |none=>exact ⟨h,hw⟩
  |some m=>
   simp only
   have hin:=List.mem_of_getElem? hm
   rw [moves_eq,List.mem_append] at hin
   rcases hin with hin|hin
   ·refine walk_wlk r _ _ (h.step hin) (.step (m:=(evM m,tmS 0 m.next)) hw ?_)
    unfold stepsM
    rw [real_time h.good h.unt 0,List.map_map]
    exact List.mem_map.2 ⟨m,hin,rfl⟩
   ·have hg:=(moves_good h.good m (by rw [moves_eq];exact List.mem_append_right _ hin)).1
    rw [List.mem_singleton.1 hin] at hg⊢
    exact walk_wlk r _ _ ⟨hg,h.unt⟩ hw
end Go.Proofs.YtpcloejpklkieaaGreat
namespace Go.Tp
open Go Go.RowKit
theorem run_appendWd{P:Program}{S:TT}(hS:S.Ok P){w0 w:World}{h:GH}{L:List Ent}{x:Ent}{t el ty:TypeId}{ti ei:TI}{v1 v2:Value}{c1 c2:List Value}
 (ht:S.get t=some ti) (hd:ti.d= .slice el) (he:S.get el=some ei) (hsz:0<ei.size) (hz1:allOne ei.zero=true)
 (s:St w0 h (x::L) w) (a1:Sl h ei.size v1 c1) (tl:Tl ei.size v1 x) (a2:Sl h ei.size v2 c2) (hb:c1.length+c2.length≤281474976710656) (hby:(c1.length+c2.length)*ei.bytes≤140737488355328):
 ∃v' w' h' x',(Builtin.append_ #[t,t] ty #[v1,v2]).run P w= .ok v' w'∧h.le h'∧Sl h' ei.size v' (c1++c2)∧Tl ei.size v' x'∧St w0 h' (x'::L) w':=by
 have ok:=TT.Ok.get hS ht
 have oke:=TT.Ok.get hS he
 obtain ⟨xi,zv,hxi,hxs,hxb,hxz,hzl⟩:=oke.info
 have hund:P.underlying t=some (.slice el):=by rw [ok.und,hd]
 have one2:=Sl.one s hsz a2
 have one1:=Sl.one s hsz a1
 have a1':=a1
 have tl':=tl
 obtain ⟨a,n1,cap,e1,hle,hn1,hat⟩:=a1
 obtain ⟨b2,n2,cap2,e2,hle2,hn2,hat2⟩:=a2
 obtain ⟨hobj,ta,tn,tc,e3,htl⟩:=tl
 subst e1;subst e2
 injection e3 with e3 e4 e5
 subst e3;subst e4;subst e5
 have hl1:n1≤c1.length:=by rw [hn1];exact Nat.le_mul_of_pos_right _ hsz
 have hl2:n2≤c2.length:=by rw [hn2];exact Nat.le_mul_of_pos_right _ hsz
 have hz:Builtin.zeroCells zv.cells=fun n=>⟨(List.replicate n ei.zero).flatten⟩:=by
  funext n
  rw [show zv.cells=⟨ei.zero⟩ from by rw [←hzl]]
  refine zeroCells_eq _ _ ?_
  intro e
  have:=oke.len
  rw [e] at this;simp at this;omega
 have hlen:(c1++c2).length=(n1+n2)*ei.size:=by rw [List.length_append,hn1,hn2,Nat.add_mul]
 rcases Nat.eq_zero_or_pos n2 with h20|h2p
 · --nothing to lay
   subst h20
   have hc2:c2=[]:=List.length_eq_zero_iff.1 (by simpa using hn2)
   subst hc2
   refine ⟨.slice a n1 cap,w,h,x,?_,GH.le_refl _,by simpa using a1',tl',s⟩
   have hf: ∀w':World,(Builtin.firstCells xi.size 0 (.slice b2 0 cap2)).run P w'= .ok #[] w':=fun w'=>by cases b2<;>simp [Builtin.firstCells,loadCells,loadCellsFrom]
   cases a with
   |none=>simp [Builtin.append_,Go.run_underlying hund,sizeOf,typeInfo,hxi,Builtin.lenOf,hle,hf]
   |some a=>simp [Builtin.append_,Go.run_underlying hund,sizeOf,typeInfo,hxi,Builtin.lenOf,hle,hf,storeCells]
 ·obtain ⟨b,o2,rfl,y2⟩:=hat2 h2p
  have hnews: ∀j u,c2[j]? =some u→w.cell? ((⟨b,o2,none⟩:Addr).add j)=some u:=fun j u hu=>by rw [add_norm];exact s.imm _ _ _ (y2 j u hu)
  have h63:((n1+n2:Nat):Int)≤9223372036854775807:=by omega
  have hfits: ∀old,old<n1+n2→Builtin.nextslicecap (n1+n2) old*xi.bytes≤281474976710656:=fun old ho=>growslice_fits ho (by
   rw [hxb]
   exact Nat.le_trans (Nat.mul_le_mul_right _ (by omega)) hby)
  rcases htl with ⟨rfl,h0,h1,h2⟩|⟨bb,o,rfl,h0,h1,h2,h3⟩
  · --from nothing
    subst h0;subst h1
    have hc1:c1=[]:=List.length_eq_zero_iff.1 (by simpa using hn1)
    subst hc1
    have hr:=run_append_nil (P:=P) w t ty el xi zv hund hxi hxz ⟨b,o2,none⟩ n2 cap2 c2 (by rw [hxs];exact hn2) hnews h2p (by omega) (by
     rw [hxb]
     have:n2*ei.bytes≤([]++c2:List Value).length*ei.bytes:=Nat.mul_le_mul_right _ (by simpa using hl2)
     simp at this hby
     omega)
    obtain ⟨h',x',g1,g2,g3,g4⟩:=tl_grow (w:=w) (el:=el) (nc:=grownCap w n2 0 el) (need:=n2) s one2 hz1 oke.len hn2 (grownCap_ge ..) (arr:=c2.toArray++Builtin.zeroCells zv.cells (grownCap w n2 0 el-n2)) (by rw [hz];apply Array.ext';simp)
    exact ⟨_,_,h',x',hr,g1,by simpa using g2,g3,g4⟩
  ·by_cases hcap:n1+n2≤cap
   ·obtain ⟨bx,lox,csx,obx⟩:=x
    simp only at hobj h1 h2 h3
    subst hobj;subst h1;subst h2
    obtain ⟨r,hr⟩:=updL_ex csx c2 (by rw [h3,hn2];exact Nat.mul_le_mul_right _ (by omega))
    obtain ⟨u1,u2,u3⟩:=updL_spec _ _ _ hr
    obtain ⟨w',hw',s'⟩:=run_storeCells (P:=P) c2 bx (o+n1*ei.size) 0 w (L1:=[]) s rfl (by simpa using u1) one2 hr
    have hre:r=c2++csx.drop c2.length:=by
     apply List.ext_getElem?
     intro i
     rw [u3 i]
     by_cases hi:i<c2.length
     ·rw [if_pos (by omega),List.getElem?_append_left hi];rfl
     ·rw [if_neg (by omega),List.getElem?_append_right (by omega),List.getElem?_drop];congr 1;omega
    subst hre
    have s2:=St.part s'
    have s3:=s2.publish
    have hle':=s2.le_add
    have hf:=run_firstCells_some (P:=P) w ei.size n2 ⟨b,o2,none⟩ n2 cap2 c2 hn2 hnews
    refine ⟨.slice (some ⟨bx,o,none⟩) (n1+n2) cap,w',_,_,?_,hle',?_,?_,s3⟩
    ·simp [Builtin.append_,Go.run_underlying hund,sizeOf,typeInfo,hxi,Builtin.lenOf,hcap,hxs,hf,add_norm,hw']
    ·refine ⟨_,_,_,rfl,hcap,hlen,fun hpos=>⟨bx,o,rfl,fun i u hu=>?_⟩⟩
     by_cases hi:i<c1.length
     ·rw [List.getElem?_append_left hi] at hu
      have hp:0<n1:=by
       rcases Nat.eq_zero_or_pos n1 with e|e
       ·subst e;simp at hn1;subst hn1;simp at hi
       ·exact e
      obtain ⟨b',o',e,y⟩:=hat hp
      injection e with e;injection e with e1 e2;subst e1;subst e2
      exact hle' _ _ _ (y i u hu)
     ·rw [List.getElem?_append_right (by omega)] at hu
      have:=GH.add_at h bx (o+n1*ei.size) c2 hu
      rwa [show o+n1*ei.size+(i-c1.length)=o+i by rw [←hn1];omega] at this
    ·refine ⟨rfl,_,_,_,rfl, .inr ⟨bx,o,rfl,hcap,rfl,?_,?_⟩⟩
     ·simp only [hn2,Nat.add_mul];omega
     ·simp only [List.length_drop,h3,hn2]
      rw [←Nat.sub_mul];congr 1;omega
   ·have hlt:cap<n1+n2:=by omega
    have holds: ∀j u,c1[j]? =some u→w.cell? ((⟨bb,o,none⟩:Addr).add j)=some u:=fun j u hu=>by
     have hp:0<n1:=by
      rcases Nat.eq_zero_or_pos n1 with e|e
      ·subst e;simp at hn1;subst hn1;simp at hu
      ·exact e
     obtain ⟨b',o',e,y⟩:=hat hp
     injection e with e;injection e with e1 e2;subst e1;subst e2
     rw [add_norm];exact s.imm _ _ _ (y j u hu)
    have hr:=run_append_grow (P:=P) w t ty el xi zv hund hxi hxz ⟨bb,o,none⟩ n1 cap c1 (by rw [hxs];exact hn1) holds ⟨b,o2,none⟩ n2 cap2 c2 (by rw [hxs];exact hn2) hnews hlt h63 (hfits cap hlt)
    obtain ⟨h',x',g1,g2,g3,g4⟩:=tl_grow (w:=w) (el:=el) (nc:=grownCap w (n1+n2) cap el) (need:=n1+n2) s (allOne_append one1 one2) hz1 oke.len hlen (grownCap_ge ..)
     (arr:=c1.toArray++c2.toArray++Builtin.zeroCells zv.cells (grownCap w (n1+n2) cap el-(n1+n2))) (by rw [hz];apply Array.ext';simp)
    exact ⟨_,_,h',x',hr,g1,g2,g3,g4⟩
theorem V.appendWd{C:Cfg}{k:List It}{e:Env}{h:GH}{L:List Ent}{all:Array Oper}{o:Oper}{l:List Oper}{ks:List (Nat×Bool)}{y1 y2:Operand}{t el:TypeId}{ti ei:TI}{v1 v2:Value}{x:Ent}{c1 c2:List Value}{d:Nat}
 (hg:gyes e all o.guard=some ks) (ho:o.op= .call ⟨.builtin .append, #[y1,y2], #[t,t]⟩) (h1:e.ev ks y1=some v1) (h2:e.ev ks y2=some v2)
 (ht:C.S.get t=some ti) (hd:ti.d= .slice el) (he:C.S.get el=some ei) (hsz:Nat.blt 0 ei.size=true) (hz1:allOne ei.zero=true)
 (hdst:o.dst=some d) (hc:okPut C.n e d=true)
 (a1:Sl h ei.size v1 c1) (tl:Tl ei.size v1 x) (a2:Sl h ei.size v2 c2) (hb:c1.length+c2.length≤281474976710656) (hby:(c1.length+c2.length)*ei.bytes≤140737488355328)
 (next: ∀v' h' x',h.le h'→Sl h' ei.size v' (c1++c2)→Tl ei.size v' x'→V C (.ops all l::k) ⟨(d,v')::e.us,e.cs⟩ h' (x'::L)):V C (.ops all (o::l)::k) e h (x::L):=
 V.gives hg hdst hc fun a w g s hk=>by
  obtain ⟨v',w',h',x',r1,r2,r3,r4,r5⟩:=run_appendWd (ty:=o.type) C.ok ht hd he (by simpa [Nat.blt_eq] using hsz) hz1 s a1 tl a2 hb hby
  refine ⟨v',w',h',_,?_,r5,next v' h' x' r2 r3 r4⟩
  unfold execOp
  rw [ho]
  simp [resolve,invoke,builtin,g.ev hk h1,g.ev hk h2,r1]
section
variable{K:AC}{k:List It}{E:AEnv}{Λ:List AEnt}
theorem A.appendWd{all:Array Oper}{o:Oper}{l:List Oper}{ks:List (Nat×Bool)}{y1 y2:Operand}{t el:TypeId}{ti ei:TI}{x1 x2:AV}{l1 l2:List AV}{z:Value}{own2:Option Value}{d:Nat}{Λ':List AEnt}
 (hg:gyesA E all o.guard=some ks) (ho:o.op= .call ⟨.builtin .append, #[y1,y2], #[t,t]⟩) (h1:E.ev K.gs ks y1=some x1) (h2:E.ev K.gs ks y2=some x2)
 (ht:K.S.get t=some ti) (hdd:ti.d= .slice el) (he:K.S.get el=some ei) (s1:slOf ei.size x1=some (l1,some z)) (s2:slOf ei.size x2=some (l2,own2)) [i:ATl Λ ei.size z Λ']
 (hsz:Nat.blt 0 ei.size=true) (hz1:allOne ei.zero=true) (hd:o.dst=some d) (hc:okPutA K.n E d=true)
 (hb:(l1.length+l2.length)*ei.size≤281474976710656) (hby:(l1.length+l2.length)*ei.size*ei.bytes≤140737488355328)
 (next: ∀z',A K (.ops all l::k) ⟨(d, .sl ei.size (l1++l2) (some z'))::E.us,E.cs⟩ (.tail ei.size z'::Λ')):A K (.ops all (o::l)::k) E Λ:=by
 refine ⟨fun h e L hl r q=>?_⟩
 obtain ⟨v1,e1,f1⟩:=r.ev (K.hgs.mono hl) _ h1
 obtain ⟨v2,e2,f2⟩:=r.ev (K.hgs.mono hl) _ h2
 have f1:=slOf_rp s1 f1
 have f2:=slOf_rp s2 f2
 have hown:v1=z:=by rw [Rp_sl] at f1;obtain ⟨_,_,_,_,h3,_⟩:=f1;exact h3
 subst hown
 obtain ⟨zs1,a1,a2,a3⟩:=sl_Sl f1
 obtain ⟨zs2,b1,b2,b3⟩:=sl_Sl f2
 obtain ⟨L',q1,q2⟩:=q.perm i.perm
 obtain ⟨_,L2,rfl,⟨p,q3,rfl⟩,q4⟩:=q1
 have hsz':0<ei.size:=by simpa [Nat.blt_eq] using hsz
 have hlen:(catL zs1).length+(catL zs2).length=(l1.length+l2.length)*ei.size:=by rw [cat_len a2,cat_len b2,a1.len,b1.len,Nat.add_mul]
 refine V.perm (q2.append_right _) ?_
 refine V.appendWd (C:=K.cfg) (gyesA_eq r hg) ho e1 e2 ht hdd he hsz hz1 hd (okPutA_eq r hc) a3 q3 b3 (by rw [hlen];exact hb) (by rw [hlen];exact hby) ?_
 intro v' h' x' g1 g2 g3
 have hl':=GH.le_trans hl g1
 have hcat:catL zs1++catL zs2=catL (zs1++zs2):=by simp [catL]
 rw [hcat] at g2
 have hrp:Rp h' (.sl ei.size (l1++l2) (some v')) v':=Sl_sl hsz' ((a1.append b1).mono g1) (fun z hz=>by
  rcases List.mem_append.1 hz with hz|hz
  ·exact a2 z hz
  ·exact b2 z hz) g2
 exact (next v').run h' ⟨(d,v')::e.us,e.cs⟩ (x'::L2) hl' ⟨(r.1.mono g1).put hrp,r.2.mono g1⟩ (.one ⟨x',g3,rfl⟩ (q4.mono g1))
end
end Go.Tp
namespace Go.Proofs.YtpcloejpklkieaaGreat
open Go Go.Tp
abbrev movsA(l:List MV):List AV:=l.map encMV
abbrev partM(s:ST)(i:Nat):List MV:=((actsM s).take i).flatMap (stepA s (actsM s))
theorem part_succ{s:ST}{i:Nat}{x:ACT×List Nat}(hx:(actsM s)[i]? =some x):partM s (i+1)=partM s i++stepA s (actsM s) x:=by
 unfold partM
 rw [List.take_add_one,hx,List.flatMap_append];simp
theorem part_len{s:ST}(h:(actsM s).length≤81920)(i:Nat):(partM s i).length≤6710968320:=by
 have h1:=flat_bound (stepA s (actsM s)) 81921 ((actsM s).take i) fun a _=>by have:=step_len s (actsM s) a;omega
 rw [List.length_take] at h1
 unfold partM
 omega
theorem in_no{n:Nat}(h: ¬0<n):(bif true then decide ((0:Int)<(n:Int)) else false)=false:=by
 cases n with
 |zero=>rfl
 |succ n=>omega
theorem in_eq{a:Int}(h:true=(a==0)):a=0:=by
 have h:=h.symm
 rw [beq_iff_eq] at h;exact h
theorem head_at{l:List Int}(h:0<l.length):(l.map AI32)[(0:Int).toNat]? =some (AI32 (l.headD 0)):=by
 cases l with
 |nil=>simp at h
 |cons x r=>rfl
theorem tail_at(l:List Int):((l.map AI32).drop (1:Int).toNat).take (((l.map AI32).length:Int).toNat-(1:Int).toNat)=l.tail.map AI32:=by
 cases l with
 |nil=>rfl
 |cons x r=>simp [List.take_of_length_le]
abbrev innM(s:ST)(i:Nat)(x:ACT×List Nat)(j:Nat):List MV:=partM s i++((actsM s).take j).flatMap (commM s x)
theorem innM_0{s:ST}{i:Nat}{x:ACT×List Nat}:innM s i x 0=partM s i:=by unfold innM;rw [List.take_zero,List.flatMap_nil,List.append_nil]
theorem innM_succ{s:ST}(i:Nat)(x:ACT×List Nat){j:Nat}{y:ACT×List Nat}(hy:(actsM s)[j]? =some y):innM s i x (j+1)=innM s i x j++commM s x y:=by
 unfold innM
 rw [List.take_add_one,hy,List.flatMap_append,List.append_assoc];simp
theorem innM_all{s:ST}{i:Nat}{x:ACT×List Nat}:innM s i x (actsM s).length=partM s i++(actsM s).flatMap (commM s x):=by unfold innM;rw [List.take_length]
theorem innM_len{s:ST}(h:(actsM s).length≤81920)(i:Nat)(x:ACT×List Nat)(j:Nat):(innM s i x j).length≤6711050240:=by
 have h1:=part_len h i
 have h2:=flat_len (commM s x) (comm_len s x) ((actsM s).take j)
 rw [List.length_take] at h2
 unfold innM
 rw [List.length_append]
 omega
theorem and_self_eq(a:Int):(bif true then a==a else false)=true:=by simp
theorem and_ne_eq{a b:Int}(h:a≠b):(bif true then a==b else false)=false:=by simpa using h
theorem movs_snoc(l:List MV)(m:MV)(z:Option Value):AV.sl 14 (movsA l++[encMV m]) z=AV.sl 14 (movsA (l++[m])) z:=by unfold movsA;rw [List.map_append];rfl
theorem movesG_p(k:KN)(s:ST)(hg:GoodK k s):Pure Tryz.prog gs0 13 [encN k,encST s] (.sl 14 (movsA (movesM s)) none):=by
 have hmay:=smay_p k s hg
 have hacts:=acts_p k s hg (by have:=comps_len hg;have:=hg.wt;omega)
 have hal:(actsM s).length≤81920:=Nat.le_trans (acts_len hg) hg.wt
 refine p_ tt_ok Tryz.func13 194 fun w0 h0 F hgs=>?_
 (repeat refine A.s rfl ?_)
 refine A.b rfl fun b2=>?_
 refine A.b rfl fun b3=>?_
 refine y_ ?_
 refine c_ hmay ?_
 refine A.b rfl fun b19=>?_
 refine A.freezeS 19 b19 (y':=rnA s) rfl rfl rfl .ptr ?_
 refine y_ ?_
 refine A.e rfl hacts .refl (List.Perm.refl _) fun l hl=>?_
 refine y_ ?_
 have hll:l.length=(actsM s).length:=by rw [←hl,List.length_map]
 refine A.valE 23 rfl (x':=AI ((actsM s).length:Nat)) (ai_eq (by rw [List.length_map,hll])) ?_
 refine A.nilTail 6 ty75.size rfl ?_
 refine A.keep [3,5,6,7,22,23,24] rfl ?_
 refine l_ (Λ':=[.tail ty75.size (.slice none 0 0), .box b3 (encST s)]) ?_
 refine A.loopP (ι:=Nat×Value) (fun q=>(⟨[(3,ptrA b3),(5,rnA s),(6, .sl 14 (movsA (partM s q.1)) (some q.2)),(7, .sl 17 (actsI l) none),(22, .sl 17 (actsI l) none),(23,AI ((actsM s).length:Nat)),(24,AI (q.1:Nat))],[]⟩,[.tail ty75.size q.2, .box b3 (encST s)])) (fun q=>q.1≤(actsM s).length) (fun q=>(actsM s).length-q.1) (0, .slice none 0 0) (Nat.zero_le _) rfl fun q hi ih=>?_
 obtain ⟨i,z⟩:=q
 simp only at hi
 refine y_ ?_
 refine k_ (fun hc=>?_) fun hc=>?_
 ·have hci:i<(actsM s).length:=by simpa using hc
  clear hc
  refine Exists.elim (at_exN (l:=l) (i:=i) (by omega)) fun xb hxb=>?_
  have hx:(actsM s)[i]? =some xb.1:=by rw [←hl,List.getElem?_map,hxb];rfl
  have hpart:=part_succ hx
  have hplen:=part_len hal i
  refine Exists.elim (acts_in hg (List.mem_of_getElem? hx)) fun c hin=>?_
  refine y_ ?_
  refine j_ rfl (map_at hxb) rfl ?_
  (repeat refine A.s rfl ?_)
  refine A.b rfl fun b9=>?_
  refine y_ ?_
  refine k_ (fun hc=>?_) fun hc=>?_
  ·have h116:xb.1.1.kind=116:=by have h:(xb.1.1.kind==116)=true:=hc;simpa using h
   clear hc
   have hst:stepA s (actsM s) xb.1=[moveM s 1 0 0 xb.1.1.store (repR xb.1.1.next s.root xb.1.2) s.inn]:=by unfold stepA;rw [if_pos h116]
   have hr:=root_one hg hin
   have hmv:=move_p s 1 0 0 xb.1.1.store _ s.inn (hin.ok.tau h116).small hr.ok hg.innl
   refine d_ 14 [0,1,2,3,4,5,6,7,8,10,11,9,12,13] [(9,cellsR (repR xb.1.1.next s.root xb.1.2)),(12,encMV (moveM s 1 0 0 xb.1.1.store (repR xb.1.1.next s.root xb.1.2) s.inn))] ?_
   refine cw_ (put_closure xb.1.1 xb.1.2 xb.2 hg.root hin.at') ?_
   refine cw_ hmv ?_
   refine WA.lit rfl rfl rfl rfl rfl rfl rfl fun bw=>?_
   refine WA.nil (l:=[_]) rfl ?_
   refine A.freezeRowS 45 (.slice (some ⟨bw,0,none⟩) 1 1) (y':= .sl 14 [encMV (moveM s 1 0 0 xb.1.1.store (repR xb.1.1.next s.root xb.1.2) s.inn)] none) rfl fz_ ?_
   refine A.appendWd rfl rfl rfl rfl rfl rfl rfl rfl rfl rfl rfl rfl rfl (by show ((movsA (partM s i)).length+1)*14≤_;rw [List.length_map];omega) (by show ((movsA (partM s i)).length+1)*14*208≤_;rw [List.length_map];omega) fun z'=>?_
   refine y_ ?_
   refine A.valE 6 rfl (x':= .sl 14 (movsA (partM s (i+1))) (some z')) (by rw [hpart,hst];show AV.sl 14 (movsA (partM s i)++[encMV (moveM s 1 0 0 xb.1.1.store (repR xb.1.1.next s.root xb.1.2) s.inn)]) _=_;exact movs_snoc _ _ _) ?_
   refine A.valE 24 rfl (x':=AI ((i+1:Nat):Int)) (inc_eq i (by omega)) ?_
   refine l_ (Λ':=[.tail ty75.size z', .box b3 (encST s)]) ?_
   exact A.sub su_ (ih (i+1,z') (by show i+1≤_;omega) (by show _-(i+1)<_-i;omega))
  have n116:xb.1.1.kind≠116:=by have h:(xb.1.1.kind==116)=false:=hc;simpa using h
  clear hc
  refine y_ ?_
  by_cases h105:xb.1.1.kind=105
  ·refine e_ 51 rfl (x':=AB true) (ab_eq (by rw [h105];rfl)) ?_
   by_cases h0:xb.1.1.c=0∧0<s.inn.length
   ·have hst:stepA s (actsM s) xb.1=[moveM s 2 0 (s.inn.headD 0) (putM s.store xb.1.1.v xb.1.1.i (s.inn.headD 0)) (repR xb.1.1.next s.root xb.1.2) s.inn.tail]:=by unfold stepA;rw [if_neg n116,if_pos ⟨h105,h0⟩]
    refine e_ 56 rfl (x':=AB true) (ab_eq (by rw [h0.1];rfl)) ?_
    refine A.valE 47 rfl (x':=AB true) (ab_eq (by rw [List.length_map];simpa using h0.2)) ?_
    have hat0:=head_at h0.2
    have htl:=tail_at s.inn
    have hr:=root_one hg hin
    have hpi:StOk k.vars (putM s.store xb.1.1.v xb.1.1.i (s.inn.headD 0)):=put_in hg hin h105 (head_in hg.inn h0.2) (by rw [(hin.ok.inp h105).2.2 h0.1];rfl)
    have hmv:=move_p s 2 0 (s.inn.headD 0) _ _ s.inn.tail hpi.small hr.ok (by have:=hg.innl;rw [List.length_tail];omega)
    have hpp:=hg.small.put_p xb.1.1.v xb.1.1.i (s.inn.headD 0)
    have hlp:=h0.2
    refine y_ ?_
    refine d_ 28 [0,1,2,3,4,5,6,7,8,9,10,11,12,13,14,15,16,18,19,20,21,23,24,25,17,22,26,27] [(17,rowsA (putM s.store xb.1.1.v xb.1.1.i (s.inn.headD 0))),(22,cellsR (repR xb.1.1.next s.root xb.1.2)),(26,encMV (moveM s 2 0 (s.inn.headD 0) (putM s.store xb.1.1.v xb.1.1.i (s.inn.headD 0)) (repR xb.1.1.next s.root xb.1.2) s.inn.tail))] ?_
    refine iw_ rfl hat0 rfl ?_
    refine iw_ rfl hat0 rfl ?_
    refine WA.slice (ys:=s.inn.tail.map AI32) rfl rfl rfl rfl rfl rfl rfl rfl rfl rfl (by decide) (by rw [List.length_map];omega) (Int.le_refl _) htl rfl ?_
    refine cw_ hpp ?_
    refine cw_ (put_closure xb.1.1 xb.1.2 xb.2 hg.root hin.at') ?_
    refine cw_ hmv ?_
    refine WA.lit rfl rfl rfl rfl rfl rfl rfl fun bw=>?_
    refine WA.nil (l:=[_]) rfl ?_
    refine A.freezeRowS 89 (.slice (some ⟨bw,0,none⟩) 1 1) (y':= .sl 14 [encMV (moveM s 2 0 (s.inn.headD 0) (putM s.store xb.1.1.v xb.1.1.i (s.inn.headD 0)) (repR xb.1.1.next s.root xb.1.2) s.inn.tail)] none) rfl fz_ ?_
    refine A.appendWd rfl rfl rfl rfl rfl rfl rfl rfl rfl rfl rfl rfl rfl (by show ((movsA (partM s i)).length+1)*14≤_;rw [List.length_map];omega) (by show ((movsA (partM s i)).length+1)*14*208≤_;rw [List.length_map];omega) fun z'=>?_
    refine y_ ?_
    refine A.valE 6 rfl (x':= .sl 14 (movsA (partM s (i+1))) (some z')) (by rw [hpart,hst];show AV.sl 14 (movsA (partM s i)++[encMV (moveM s 2 0 (s.inn.headD 0) (putM s.store xb.1.1.v xb.1.1.i (s.inn.headD 0)) (repR xb.1.1.next s.root xb.1.2) s.inn.tail)]) _=_;exact movs_snoc _ _ _) ?_
    refine A.valE 24 rfl (x':=AI ((i+1:Nat):Int)) (inc_eq i (by omega)) ?_
    refine l_ (Λ':=[.tail ty75.size z', .box b3 (encST s)]) ?_
    exact A.sub su_ (ih (i+1,z') (by show i+1≤_;omega) (by show _-(i+1)<_-i;omega))
   ·have hst:stepA s (actsM s) xb.1=[]:=by unfold stepA;rw [if_neg n116,if_neg (fun h=>h0 h.2),if_neg (by omega),if_neg (by omega)]
    refine Exists.elim (show∃b,b=(xb.1.1.c==0) from ⟨_,rfl⟩) fun b hb=>?_
    refine A.valE 56 rfl (x':=AB b) (ab_eq (by rw [hb];rfl)) ?_
    cases b
    ·refine y_ ?_
     refine e_ 95 rfl (x':=AB false) (ab_eq (by rw [h105];rfl)) ?_
     refine e_ 117 rfl (x':=AB false) (ab_eq (by rw [h105];rfl)) ?_
     refine A.valE 6 rfl (x':= .sl 14 (movsA (partM s (i+1))) (some z)) (by rw [hpart,hst,List.append_nil]) ?_
     refine A.valE 24 rfl (x':=AI ((i+1:Nat):Int)) (inc_eq i (by omega)) ?_
     refine l_ (Λ':=[.tail ty75.size z, .box b3 (encST s)]) ?_
     exact A.sub su_ (ih (i+1,z) (by show i+1≤_;omega) (by show _-(i+1)<_-i;omega))
    ·refine y_ ?_
     refine e_ 47 rfl (x':=AB false) (ab_eq (by rw [List.length_map];exact in_no fun h=>h0 ⟨in_eq hb,h⟩)) ?_
     refine e_ 95 rfl (x':=AB false) (ab_eq (by rw [h105];rfl)) ?_
     refine e_ 117 rfl (x':=AB false) (ab_eq (by rw [h105];rfl)) ?_
     refine A.valE 6 rfl (x':= .sl 14 (movsA (partM s (i+1))) (some z)) (by rw [hpart,hst,List.append_nil]) ?_
     refine A.valE 24 rfl (x':=AI ((i+1:Nat):Int)) (inc_eq i (by omega)) ?_
     refine l_ (Λ':=[.tail ty75.size z, .box b3 (encST s)]) ?_
     exact A.sub su_ (ih (i+1,z) (by show i+1≤_;omega) (by show _-(i+1)<_-i;omega))
  ·refine e_ 51 rfl (x':=AB false) (ab_eq (beq_eq_false_iff_ne.2 h105)) ?_
   by_cases h111:xb.1.1.kind=111
   ·refine e_ 95 rfl (x':=AB true) (ab_eq (by rw [h111];rfl)) ?_
    by_cases h1:xb.1.1.c=1
    ·have hst:stepA s (actsM s) xb.1=[moveM s 2 1 xb.1.1.value s.store (repR xb.1.1.next s.root xb.1.2) s.inn]:=by unfold stepA;rw [if_neg n116,if_neg (fun h=>h105 h.1),if_pos ⟨h111,h1⟩]
     refine A.valE 91 rfl (x':=AB true) (ab_eq (by rw [h1];rfl)) ?_
     have hr:=root_one hg hin
     have hmv:=move_p s 2 1 xb.1.1.value _ _ s.inn hg.small hr.ok hg.innl
     refine y_ ?_
     refine d_ 16 [0,1,2,3,4,5,6,7,8,9,10,12,13,11,14,15] [(11,cellsR (repR xb.1.1.next s.root xb.1.2)),(14,encMV (moveM s 2 1 xb.1.1.value s.store (repR xb.1.1.next s.root xb.1.2) s.inn))] ?_
     refine cw_ (put_closure xb.1.1 xb.1.2 xb.2 hg.root hin.at') ?_
     refine cw_ hmv ?_
     refine WA.lit rfl rfl rfl rfl rfl rfl rfl fun bw=>?_
     refine WA.nil (l:=[_]) rfl ?_
     refine A.freezeRowS 115 (.slice (some ⟨bw,0,none⟩) 1 1) (y':= .sl 14 [encMV (moveM s 2 1 xb.1.1.value s.store (repR xb.1.1.next s.root xb.1.2) s.inn)] none) rfl fz_ ?_
     refine A.appendWd rfl rfl rfl rfl rfl rfl rfl rfl rfl rfl rfl rfl rfl (by show ((movsA (partM s i)).length+1)*14≤_;rw [List.length_map];omega) (by show ((movsA (partM s i)).length+1)*14*208≤_;rw [List.length_map];omega) fun z'=>?_
     refine y_ ?_
     refine A.valE 6 rfl (x':= .sl 14 (movsA (partM s (i+1))) (some z')) (by rw [hpart,hst];show AV.sl 14 (movsA (partM s i)++[encMV (moveM s 2 1 xb.1.1.value s.store (repR xb.1.1.next s.root xb.1.2) s.inn)]) _=_;exact movs_snoc _ _ _) ?_
     refine A.valE 24 rfl (x':=AI ((i+1:Nat):Int)) (inc_eq i (by omega)) ?_
     refine l_ (Λ':=[.tail ty75.size z', .box b3 (encST s)]) ?_
     exact A.sub su_ (ih (i+1,z') (by show i+1≤_;omega) (by show _-(i+1)<_-i;omega))
    ·have hst:stepA s (actsM s) xb.1=(actsM s).flatMap (commM s xb.1):=by unfold stepA;rw [if_neg n116,if_neg (fun h=>h105 h.1),if_neg (fun h=>h1 h.2),if_pos h111]
     refine e_ 91 rfl (x':=AB false) (ab_eq (beq_eq_false_iff_ne.2 h1)) ?_
     refine e_ 117 rfl (x':=AB true) (ab_eq (by rw [h111];rfl)) ?_
     refine A.valE 122 rfl (x':=AI ((actsM s).length:Nat)) (ai_eq (by rw [List.length_map,hll])) ?_
     refine A.valE 6 rfl (x':= .sl 14 (movsA (innM s i xb.1 0)) (some z)) (by rw [innM_0]) ?_
     refine A.keep [3,5,6,7,9,22,23,24,121,122,123] rfl ?_
     refine A.perm (.swap _ _ _) ?_
     refine l_ (Λ':=[.tail ty75.size z, .box b9 (actF xb.1 xb.2), .box b3 (encST s)]) ?_
     refine A.loopP (ι:=Nat×Value) (fun q=>(⟨[(3,ptrA b3),(5,rnA s),(6, .sl 14 (movsA (innM s i xb.1 q.1)) (some q.2)),(7, .sl 17 (actsI l) none),(9,ptrA b9),(22, .sl 17 (actsI l) none),(23,AI ((actsM s).length:Nat)),(24,AI (i:Nat)),(121, .sl 17 (actsI l) none),(122,AI ((actsM s).length:Nat)),(123,AI (q.1:Nat))],[]⟩,[.tail ty75.size q.2, .box b9 (actF xb.1 xb.2), .box b3 (encST s)])) (fun q=>q.1≤(actsM s).length) (fun q=>(actsM s).length-q.1) (0,z) (Nat.zero_le _) rfl fun q hj ih2=>?_
     obtain ⟨j,z2⟩:=q
     simp only at hj
     have hilen:=innM_len hal i xb.1 j
     refine y_ ?_
     refine k_ (fun hc=>?_) fun hc=>?_
     ·have hcj:j<(actsM s).length:=by simpa using hc
      clear hc
      refine Exists.elim (at_exN (l:=l) (i:=j) (by omega)) fun yb hyb=>?_
      have hy:(actsM s)[j]? =some yb.1:=by rw [←hl,List.getElem?_map,hyb];rfl
      have hin2:=innM_succ i xb.1 hy
      refine Exists.elim (acts_in hg (List.mem_of_getElem? hy)) fun d hind=>?_
      refine y_ ?_
      refine j_ rfl (map_at hyb) rfl ?_
      (repeat refine A.s rfl ?_)
      refine A.b rfl fun b11=>?_
      refine y_ ?_
      by_cases hy105:yb.1.1.kind=105
      ·refine e_ 130 rfl (x':=AB true) (ab_eq (by rw [hy105];rfl)) ?_
       by_cases hcc:yb.1.1.c=xb.1.1.c
       ·refine e_ 137 rfl (x':=AB true) (ab_eq (by rw [hcc];exact and_self_eq _)) ?_
        refine n_ (fitsq_p yb.1.1.item xb.1.1.value (hin.ok.out h111).2) ?_
        by_cases hf:fitsB yb.1.1.item xb.1.1.value=true
        ·refine A.valE 142 rfl (x':=AB true) (ab_eq hf) ?_
         have hcm:commM s xb.1 yb.1=[moveM s 2 xb.1.1.c xb.1.1.value (putM s.store yb.1.1.v yb.1.1.i xb.1.1.value) (repR yb.1.1.next (repR xb.1.1.next s.root xb.1.2) yb.1.2) s.inn]:=by unfold commM;rw [if_pos ⟨hy105,hcc,hf⟩]
         have hne:=path_ne hin hind h111 hy105
         have hr1:=root_one hg hin
         have hr2:=root_two hg hin hind hne
         have hpi:=put_in hg hind hy105 (hin.ok.out h111).2 hf
         have hmv:=move_p s 2 xb.1.1.c xb.1.1.value _ _ s.inn hpi.small hr2.ok hg.innl
         have hpp:=hg.small.put_p yb.1.1.v yb.1.1.i xb.1.1.value
         have hc1:=put_closure xb.1.1 xb.1.2 xb.2 hg.root hin.at'
         have hc2:=put_closure yb.1.1 yb.1.2 yb.2 hr1.ok (at_two hin hind hne)
         refine y_ ?_
         refine d_ 28 [0,1,2,3,4,5,6,7,8,9,10,11,12,13,14,16,17,18,19,20,21,24,25,15,22,23,26,27] [(15,rowsA (putM s.store yb.1.1.v yb.1.1.i xb.1.1.value)),(22,cellsR (repR xb.1.1.next s.root xb.1.2)),(23,cellsR (repR yb.1.1.next (repR xb.1.1.next s.root xb.1.2) yb.1.2)),(26,encMV (moveM s 2 xb.1.1.c xb.1.1.value (putM s.store yb.1.1.v yb.1.1.i xb.1.1.value) (repR yb.1.1.next (repR xb.1.1.next s.root xb.1.2) yb.1.2) s.inn))] ?_
         refine cw_ hpp ?_
         refine cw_ hc1 ?_
         refine cw_ hc2 ?_
         refine cw_ hmv ?_
         refine WA.lit rfl rfl rfl rfl rfl rfl rfl fun bw=>?_
         refine WA.nil (l:=[_]) rfl ?_
         refine A.freezeRowS 171 (.slice (some ⟨bw,0,none⟩) 1 1) (y':= .sl 14 [encMV (moveM s 2 xb.1.1.c xb.1.1.value (putM s.store yb.1.1.v yb.1.1.i xb.1.1.value) (repR yb.1.1.next (repR xb.1.1.next s.root xb.1.2) yb.1.2) s.inn)] none) rfl fz_ ?_
         refine A.appendWd rfl rfl rfl rfl rfl rfl rfl rfl rfl rfl rfl rfl rfl (by show ((movsA (innM s i xb.1 j)).length+1)*14≤_;rw [List.length_map];omega) (by show ((movsA (innM s i xb.1 j)).length+1)*14*208≤_;rw [List.length_map];omega) fun z'=>?_
         refine y_ ?_
         refine A.valE 6 rfl (x':= .sl 14 (movsA (innM s i xb.1 (j+1))) (some z')) (by rw [hin2,hcm];show AV.sl 14 (movsA (innM s i xb.1 j)++[encMV (moveM s 2 xb.1.1.c xb.1.1.value (putM s.store yb.1.1.v yb.1.1.i xb.1.1.value) (repR yb.1.1.next (repR xb.1.1.next s.root xb.1.2) yb.1.2) s.inn)]) _=_;exact movs_snoc _ _ _) ?_
         refine A.valE 123 rfl (x':=AI ((j+1:Nat):Int)) (inc_eq j (by omega)) ?_
         refine l_ (Λ':=[.tail ty75.size z', .box b9 (actF xb.1 xb.2), .box b3 (encST s)]) ?_
         exact A.sub su_ (ih2 (j+1,z') (by show j+1≤_;omega) (by show _-(j+1)<_-j;omega))
        ·refine A.valE 142 rfl (x':=AB false) (ab_eq (by simpa using hf)) ?_
         have hcm:commM s xb.1 yb.1=[]:=by unfold commM;rw [if_neg (fun h=>hf h.2.2)]
         refine y_ ?_
         refine A.valE 6 rfl (x':= .sl 14 (movsA (innM s i xb.1 (j+1))) (some z2)) (by rw [hin2,hcm,List.append_nil]) ?_
         refine A.valE 123 rfl (x':=AI ((j+1:Nat):Int)) (inc_eq j (by omega)) ?_
         refine l_ (Λ':=[.tail ty75.size z2, .box b9 (actF xb.1 xb.2), .box b3 (encST s)]) ?_
         exact A.sub su_ (ih2 (j+1,z2) (by show j+1≤_;omega) (by show _-(j+1)<_-j;omega))
       ·refine A.valE 137 rfl (x':=AB false) (ab_eq (and_ne_eq hcc)) ?_
        have hcm:commM s xb.1 yb.1=[]:=by unfold commM;rw [if_neg (fun h=>hcc h.2.1)]
        refine y_ ?_
        refine A.valE 6 rfl (x':= .sl 14 (movsA (innM s i xb.1 (j+1))) (some z2)) (by rw [hin2,hcm,List.append_nil]) ?_
        refine A.valE 123 rfl (x':=AI ((j+1:Nat):Int)) (inc_eq j (by omega)) ?_
        refine l_ (Λ':=[.tail ty75.size z2, .box b9 (actF xb.1 xb.2), .box b3 (encST s)]) ?_
        exact A.sub su_ (ih2 (j+1,z2) (by show j+1≤_;omega) (by show _-(j+1)<_-j;omega))
      ·refine A.valE 130 rfl (x':=AB false) (ab_eq (beq_eq_false_iff_ne.2 hy105)) ?_
       have hcm:commM s xb.1 yb.1=[]:=by unfold commM;rw [if_neg (fun h=>hy105 h.1)]
       refine y_ ?_
       refine A.valE 6 rfl (x':= .sl 14 (movsA (innM s i xb.1 (j+1))) (some z2)) (by rw [hin2,hcm,List.append_nil]) ?_
       refine A.valE 123 rfl (x':=AI ((j+1:Nat):Int)) (inc_eq j (by omega)) ?_
       refine l_ (Λ':=[.tail ty75.size z2, .box b9 (actF xb.1 xb.2), .box b3 (encST s)]) ?_
       exact A.sub su_ (ih2 (j+1,z2) (by show j+1≤_;omega) (by show _-(j+1)<_-j;omega))
     have hcj: ¬j<(actsM s).length:=by simpa using hc
     clear hc ih2
     have hjl:j=(actsM s).length:=by omega
     refine y_ ?_
     refine A.valE 6 rfl (x':= .sl 14 (movsA (partM s (i+1))) (some z2)) (by rw [hpart,hst,hjl,innM_all]) ?_
     refine A.valE 24 rfl (x':=AI ((i+1:Nat):Int)) (inc_eq i (by omega)) ?_
     refine l_ (Λ':=[.tail ty75.size z2, .box b3 (encST s)]) ?_
     exact A.sub su_ (ih (i+1,z2) (by show i+1≤_;omega) (by show _-(i+1)<_-i;omega))
   ·have hst:stepA s (actsM s) xb.1=[]:=by unfold stepA;rw [if_neg n116,if_neg (fun h=>h105 h.1),if_neg (fun h=>h111 h.1),if_neg h111]
    refine e_ 95 rfl (x':=AB false) (ab_eq (beq_eq_false_iff_ne.2 h111)) ?_
    refine e_ 117 rfl (x':=AB false) (ab_eq (beq_eq_false_iff_ne.2 h111)) ?_
    refine A.valE 6 rfl (x':= .sl 14 (movsA (partM s (i+1))) (some z)) (by rw [hpart,hst,List.append_nil]) ?_
    refine A.valE 24 rfl (x':=AI ((i+1:Nat):Int)) (inc_eq i (by omega)) ?_
    refine l_ (Λ':=[.tail ty75.size z, .box b3 (encST s)]) ?_
    exact A.sub su_ (ih (i+1,z) (by show i+1≤_;omega) (by show _-(i+1)<_-i;omega))
 have hci: ¬i<(actsM s).length:=by simpa using hc
 clear hc ih
 have hil:i=(actsM s).length:=by omega
 have hmv:=move_p s 3 0 0 s.store s.root s.inn hg.small hg.root hg.innl
 have hplen:=part_len hal i
 have hall:movesM s=partM s i++[tickM s]:=by unfold movesM partM;rw [hil,List.take_length]
 have htick:encMV ⟨3,0,0,⟨s.store,normR s.root,s.inn,IntKind.i32.wrap (s.time+1)⟩⟩=encMV (tickM s):=by rw [hg.nf];rfl
 refine y_ ?_
 refine n_ hmv ?_
 (refine b_ fun bx=>?_;refine t_ fun bl=>?_)
 refine A.appendWd rfl rfl rfl rfl rfl rfl rfl rfl rfl rfl rfl rfl rfl (by show ((movsA (partM s i)).length+1)*14≤_;rw [List.length_map];omega) (by show ((movsA (partM s i)).length+1)*14*208≤_;rw [List.length_map];omega) fun z'=>?_
 refine e_ 193 rfl (x':= .sl 14 (movsA (movesM s)) (some z')) (by rw [hall];show AV.sl 14 (movsA (partM s i)++[encMV ⟨3,0,0,⟨s.store,normR s.root,s.inn,IntKind.i32.wrap (s.time+1)⟩⟩]) _=_;rw [htick];exact movs_snoc _ _ _) ?_
 refine R_ ?_;exact .own1
structure WD where
 store:List (List Int)
 inn:List Int
 out:List Int
 steps:Nat
abbrev WD.st(w:WD):ST:=⟨w.store,skipR,w.inn,0⟩
def plainI(k:Int):Bool:= !(k==10||(k==11||(k==14||(k==15||k==8))))
mutual
def plainR:PR→Bool
 |⟨k,_,_,_,_,_,gs,l⟩=>plainI k&&plainRl l&&plainGl gs
def plainRl:List PR→Bool
 | []=>true
 |p::r=>plainR p&&plainRl r
def plainG:GD→Bool
 |⟨_,_,_,_,_,_,b⟩=>plainRl b
def plainGl:List GD→Bool
 | []=>true
 |g::r=>plainG g&&plainGl r
end
structure FR where
 c:Int
 v:Int
 i:Int
 to:List PL
 e:List KE
 gs:List GD
 rest:List PR
structure Sgl(x c:PR)(N:PR→PR):Prop where
 no:doneR x=false
 comp:compR [] x=[(c,[])]
 rep: ∀q,normR (repR q x [])=N q
abbrev toldO(m:MV):List Int:=if m.kind=2∧m.ec=1 then [m.ev] else []
inductive Goes:ST→Nat→List Int→ST→Prop
 |zero (s:ST):Goes s 0 [] s
 |step {s s':ST} {m:MV} {n:Nat} {o:List Int} (hm:movesM s=[m,tickM s]) (hk:m.kind≠3) (h:Goes m.next n o s'):Goes s (n+1) (toldO m++o) s'
section
variable{w:WD}{p:PR}{fs:List FR}
end
structure PlO(V:List KV)(n:Nat)(p:PR):Prop where
 pl:plainR p=true
 ok: ∃h,okR V n h p=true
section
variable{V:List KV}{n:Nat}{p:PR}
end
section
variable{k:KN}{w:WD}{p q:PR}{fs:List FR}
end
abbrev wordsB(a b:List Int):Bool:=alikeB (· == ·) a b
theorem rwords_p(a b:List Int)(hb:a.length≤281474976710656):Pure Tryz.prog gs0 47 [rowA a,rowA b] (AB (wordsB a b)):=by
 by_cases hlen:a.length=b.length
 case neg=>
  refine p_ tt_ok Tryz.func47 26 fun w0 h0 F hgs=>?_
  refine y_ ?_
  refine e_ 10 rfl (x':=AB true) (ab_eq (by simp;omega)) ?_;refine R_ ?_;refine Sb.eq (ab_eq ?_);simp [alikeB,hlen]
 refine p_ tt_ok Tryz.func47 26 fun w0 h0 F hgs=>?_
 refine y_ ?_
 refine e_ 10 rfl (x':=AB false) (ab_eq (by simp;omega)) ?_
 refine A.keep [0,1,5] rfl ?_
 refine A.loopP (ι:=Nat) (fun i=>(⟨[(0,rowA a),(1,rowA b),(5,AI (i:Int))],[]⟩,[])) (fun i=>i≤a.length∧allEq (· == ·) a b i=true) (fun i=>a.length-i) 0 ⟨by omega,rfl⟩ rfl fun i hi ih=>?_
 refine y_ ?_
 refine k_ (fun hc=>?_) fun hc=>?_
 ·simp at hc
  refine Exists.elim (at_exN (l:=a) (i:=i) (by omega)) fun u hu=>Exists.elim (at_exN (l:=b) (i:=i) (by omega)) fun w hw=>?_
  have h3:=allEq_succ (· == ·) hu hw
  refine y_ ?_
  refine d_ 9 [0,1,2,3,4,5,6,7,8] [] ?_;refine iw_ rfl (map_at hu) rfl ?_;refine iw_ rfl (map_at hw) rfl ?_;refine WA.nil (l:=[]) rfl ?_
  refine A.entsEq (Λ':=[]) rfl ?_
  refine y_ ?_
  refine k_ (fun he=>?_) fun he=>?_
  ·simp at he
   refine y_ ?_;refine R_ ?_;refine Sb.eq (ab_eq ?_)
   have h4:=allEq_le (f:=(· == ·)) (a:=a) (b:=b) (j:=i+1) (by rw [h3];simp [he]) a.length (by omega)
   simp [alikeB,h4]
  ·simp at he
   refine y_ ?_
   refine A.valE 5 rfl (x':=AI ((i+1:Nat):Int)) (inc_eq i (by omega)) ?_
   refine u_ (ih (i+1) ⟨by omega,by rw [h3];simp [hi.2,he]⟩ (by omega))
 ·simp at hc
  have:i=a.length:=by omega
  subst this
  refine y_ ?_;refine R_ ?_;refine Sb.eq (ab_eq ?_);show true=alikeB (· == ·) a b;unfold alikeB;rw [hi.2,decide_eq_true hlen];rfl
theorem ewords_p(a b:List Int)(hb:a.length≤281474976710656):Pure Tryz.prog gs0 56 [rowA a,rowA b] (AB (wordsB a b)):=by
 by_cases hlen:a.length=b.length
 case neg=>
  refine p_ tt_ok Tryz.func56 26 fun w0 h0 F hgs=>?_
  refine y_ ?_
  refine e_ 10 rfl (x':=AB true) (ab_eq (by simp;omega)) ?_;refine R_ ?_;refine Sb.eq (ab_eq ?_);simp [alikeB,hlen]
 refine p_ tt_ok Tryz.func56 26 fun w0 h0 F hgs=>?_
 refine y_ ?_
 refine e_ 10 rfl (x':=AB false) (ab_eq (by simp;omega)) ?_
 refine A.valE 12 rfl (x':=AI (a.length:Nat)) (ai_eq (by simp)) ?_
 refine A.keep [0,1,12,13] rfl ?_
 refine A.loopP (ι:=Nat) (fun i=>(⟨[(0,rowA a),(1,rowA b),(12,AI (a.length:Nat)),(13,AI (i:Int))],[]⟩,[])) (fun i=>i≤a.length∧allEq (· == ·) a b i=true) (fun i=>a.length-i) 0 ⟨by omega,rfl⟩ rfl fun i hi ih=>?_
 refine y_ ?_
 refine k_ (fun hc=>?_) fun hc=>?_
 ·simp at hc
  refine Exists.elim (at_exN (l:=a) (i:=i) (by omega)) fun u hu=>Exists.elim (at_exN (l:=b) (i:=i) (by omega)) fun w hw=>?_
  have h3:=allEq_succ (· == ·) hu hw
  refine y_ ?_
  refine d_ 9 [0,1,2,3,4,5,6,7,8] [] ?_;refine iw_ rfl (map_at hu) rfl ?_;refine iw_ rfl (map_at hw) rfl ?_;refine WA.nil (l:=[]) rfl ?_
  refine A.entsEq (Λ':=[]) rfl ?_
  refine y_ ?_
  refine k_ (fun he=>?_) fun he=>?_
  ·simp at he
   refine y_ ?_;refine R_ ?_;refine Sb.eq (ab_eq ?_)
   have h4:=allEq_le (f:=(· == ·)) (a:=a) (b:=b) (j:=i+1) (by rw [h3];simp [he]) a.length (by omega)
   simp [alikeB,h4]
  ·simp at he
   refine y_ ?_
   refine A.valE 13 rfl (x':=AI ((i+1:Nat):Int)) (inc_eq i (by omega)) ?_
   refine u_ (ih (i+1) ⟨by omega,by rw [h3];simp [hi.2,he]⟩ (by omega))
 ·simp at hc
  have:i=a.length:=by omega
  subst this
  refine y_ ?_;refine R_ ?_;refine Sb.eq (ab_eq ?_);show true=alikeB (· == ·) a b;unfold alikeB;rw [hi.2,decide_eq_true hlen];rfl
def sameStB(a b:ST):Bool:=(a.time==b.time)&&(wordsB a.inn b.inn&&(sameB a.store b.store&&eqR a.root b.root))
structure SmS(a:ST):Prop where
 inn:a.inn.length≤281474976710656
 store:short a.store
 root:smR a.root
theorem ssame_p(a b:ST)(h:SmS a):Pure Tryz.prog gs0 25 [encST a,encST b] (AB (sameStB a b)):=by
 have h1:=ewords_p a.inn b.inn h.inn
 have h2:=Same_p a.store b.store h.store
 have h3:=psame_p a.root b.root h.root
 unfold sameStB
 generalize hq0:(a.time==b.time)=q0
 generalize wordsB a.inn b.inn=q1 at h1⊢
 generalize sameB a.store b.store=q2 at h2⊢
 generalize eqR a.root b.root=q3 at h3⊢
 cases q0 with
 |false=>refine p_ tt_ok Tryz.func25 31 fun w0 h0 F hgs=>?_;(refine b_ fun bx=>?_;refine b_ fun bx=>?_;refine y_ ?_);refine F_ rfl hq0 ?_;exact r_
 |true=>
  cases q1 with
  |false=>refine p_ tt_ok Tryz.func25 31 fun w0 h0 F hgs=>?_;(refine b_ fun bx=>?_;refine b_ fun bx=>?_;refine y_ ?_);refine T_ rfl hq0 ?_;exact cr_ h1
  |true=>
   cases q2 with
   |false=>refine p_ tt_ok Tryz.func25 31 fun w0 h0 F hgs=>?_;(refine b_ fun bx=>?_;refine b_ fun bx=>?_;refine y_ ?_);refine T_ rfl hq0 ?_;refine c_ h1 ?_;exact cr_ h2
   |true=>refine p_ tt_ok Tryz.func25 31 fun w0 h0 F hgs=>?_;(refine b_ fun bx=>?_;refine b_ fun bx=>?_;refine y_ ?_);refine T_ rfl hq0 ?_;refine c_ h1 ?_;refine c_ h2 ?_;exact cr_ h3
theorem rsame_p(a b:ST)(h:SmS a):Pure Tryz.prog gs0 21 [encST a,encST b] (AB (sameStB a b)):=by
 have h1:=rwords_p a.inn b.inn h.inn
 have h2:=rSame_p a.store b.store h.store
 have h3:=procs_p [a.root] [b.root] (by simp) (fun x hx=>by rw [List.mem_singleton] at hx;subst hx;exact h.root)
 have h4:eqRl [a.root] [b.root]=eqR a.root b.root:=by rw [eqRl,eqRl,Bool.and_true]
 rw [h4] at h3
 have e1: ∀q:PR,rsA [q]= .sl 8 [cellsR q] none:=fun q=>by show AV.sl 8 (encRl [q]) none=_;rw [encRl_cells];rfl
 rw [e1,e1] at h3
 unfold sameStB
 generalize hq0:(a.time==b.time)=q0
 generalize wordsB a.inn b.inn=q1 at h1⊢
 generalize sameB a.store b.store=q2 at h2⊢
 generalize eqR a.root b.root=q3 at h3⊢
 cases q0 with
 |false=>refine p_ tt_ok Tryz.func21 33 fun w0 h0 F hgs=>?_;(refine b_ fun bx=>?_;refine b_ fun bx=>?_;refine y_ ?_);refine F_ rfl hq0 ?_;exact r_
 |true=>
  cases q1 with
  |false=>refine p_ tt_ok Tryz.func21 33 fun w0 h0 F hgs=>?_;(refine b_ fun bx=>?_;refine b_ fun bx=>?_;refine y_ ?_);refine T_ rfl hq0 ?_;exact cr_ h1
  |true=>
   cases q2 with
   |false=>refine p_ tt_ok Tryz.func21 33 fun w0 h0 F hgs=>?_;(refine b_ fun bx=>?_;refine b_ fun bx=>?_;refine y_ ?_);refine T_ rfl hq0 ?_;refine c_ h1 ?_;exact cr_ h2
   |true=>refine p_ tt_ok Tryz.func21 33 fun w0 h0 F hgs=>?_;(refine b_ fun bx=>?_;refine b_ fun bx=>?_;refine y_ ?_);refine T_ rfl hq0 ?_;refine c_ h1 ?_;refine n_ h2 ?_;(refine t_ fun bl=>?_;refine t_ fun bl=>?_);exact cr_ h3
theorem sdone_p(a:ST)(h:smR a.root):Pure Tryz.prog gs0 12 [encST a] (AB (doneR a.root)):=by
 have h1:=done_p a.root h
 refine p_ tt_ok Tryz.func12 6 fun w0 h0 F hgs=>?_;(refine b_ fun bx=>?_;refine y_ ?_);exact cr_ h1
structure SmN(k:KN):Prop where
 wf:WfN k
 root:smR k.root
structure Fit(k:KN)(s:ST):Prop where
 vars:k.vars.length≤60
 chans:k.chans.length≤70
 procs:k.procs.length≤20
 store:s.store.length≤60
 inn:s.inn.length≤60
 rows: ∀r,r∈s.store→r.length≤70
 size:szR k.root≤1000000→szR k.root≤100
 sizeS:szR s.root≤1000000→szR s.root≤250
def zeroS:ST:=⟨[],⟨0,0,0,0,[],[],[],[]⟩,[],0⟩
theorem start_no(k:KN)(hk:SmN k)(hm:mayK k=false)(inn:List Int):Pure Tryz.prog gs0 20 [encN k,rowA inn] (.tp [encST zeroS,AI 2]):=by
 have h1:=kmay_p k hk.wf
 rw [hm] at h1
 refine p_ tt_ok Tryz.func20 19 fun w0 h0 F hgs=>?_
 (refine b_ fun bx=>?_;refine b_ fun bx=>?_;refine y_ ?_)
 refine c_ h1 ?_
 refine m_ (ResA.cell rfl rfl rfl (ResA.tmp rfl ResA.nil)) ?_;exact s_
theorem start_yes(k:KN)(hk:SmN k)(hm:mayK k=true)(inn:List Int)(hi:inn.length≤35184372088832):Pure Tryz.prog gs0 20 [encN k,rowA inn] (.tp [encST (startS k inn),AI 0]):=by
 have h1:=kmay_p k hk.wf
 rw [hm] at h1
 have h2:=storeS_pN k.vars k.chans k.root k.procs hk.wf.vars
 obtain ⟨w1,w2,w3⟩:=okF_sm (start_root hm hk.wf hk.root)
 have h3:=norm_p k.root w2 w3
 have h4:=copied_p (normR k.root) (norm_sm w2)
 have h5:=cloned_p inn hi
 refine p_ tt_ok Tryz.func20 19 fun w0 h0 F hgs=>?_
 (refine b_ fun bx=>?_;refine b_ fun bx=>?_;refine y_ ?_)
 refine c_ h1 ?_
 refine d_ 9 [0,2,3,6,1,4,5,7,8] [(1,rowsA (storeS k.vars)),(4,cellsR (normR k.root)),(5,cellsR (normR k.root)),(7,rowA inn)] ?_
 refine cw_ h2 ?_
 refine cw_ h3 ?_
 refine cw_ h4 ?_
 refine cw_ h5 ?_
 refine z_ ?_
 refine m_ (ResA.cell rfl rfl rfl (ResA.tmp rfl ResA.nil)) ?_;exact s_
end Go.Proofs.YtpcloejpklkieaaGreat
