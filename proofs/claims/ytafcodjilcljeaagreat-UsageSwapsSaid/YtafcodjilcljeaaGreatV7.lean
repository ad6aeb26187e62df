/-
  Texts Q21c Q21d Q21e Q21f Q21g Q21h Q21p Q21i Q21j Q21k Q21l Q21m Q21n Q21o Q21q. Conditions: as each theorem says.
-/
import Derived.Shelf.SlLaysF
import Derived.Shelf.SlLaysF0
import Derived.Test.YtafcodjilcljeaaGreatV3
import Derived.Test.YtafcodjilcljeaaGreatV6
import Derived.Test.YtafcodjilcljeaaGreatV4
import Derived.Test.YtafcodjilcljeaaGreatV5
set_option linter.unusedVariables false
set_option linter.unusedSimpArgs false
set_option maxRecDepth 100000
set_option maxHeartbeats 4000000
namespace Go.Proofs
open Go.Shelf
def Tryz.sortE_ren:Go.Shelf.Ren:=⟨fun|6=>88|15=>122|14=>121|28=>165|29=>166|20=>157|21=>158|22=>159|23=>160|24=>161|25=>162|26=>163|27=>164|46=>192|47=>193|48=>194|49=>195|50=>196|57=>209|n=>n,fun|22=>35|24=>49|25=>123|3=>3|39=>173|0=>0|53=>206|55=>208|4=>4|46=>199|45=>198|50=>203|5=>5|9=>9|66=>220|70=>224|76=>234|77=>235|n=>n,fun|n=>n⟩
theorem Tryz.sortE:Go.Proofs.SlLaysF0.n6 Tryz.prog Tryz.sortE_ren:={
 mixed:=by kernel_rfl
 f6:=⟨Tryz.f88.name,by decide,Tryz.func88.trans (congrArg some (by kernel_rfl))⟩
 f14:=⟨Tryz.f121.name,by decide,Tryz.func121.trans (congrArg some (by kernel_rfl))⟩
 f15:=Tryz.func122.trans (congrArg some (by kernel_rfl))
 f20:=⟨Tryz.f157.name,by decide,Tryz.func157.trans (congrArg some (by kernel_rfl))⟩
 f21:=⟨Tryz.f158.name,by decide,Tryz.func158.trans (congrArg some (by kernel_rfl))⟩
 f22:=⟨Tryz.f159.name,by decide,Tryz.func159.trans (congrArg some (by kernel_rfl))⟩
 f23:=⟨Tryz.f160.name,by decide,Tryz.func160.trans (congrArg some (by kernel_rfl))⟩
 f24:=⟨Tryz.f161.name,by decide,Tryz.func161.trans (congrArg some (by kernel_rfl))⟩
 f25:=⟨Tryz.f162.name,by decide,Tryz.func162.trans (congrArg some (by kernel_rfl))⟩
 f26:=⟨Tryz.f163.name,by decide,Tryz.func163.trans (congrArg some (by kernel_rfl))⟩
 f27:=⟨Tryz.f164.name,by decide,Tryz.func164.trans (congrArg some (by kernel_rfl))⟩
 f28:=Tryz.func165.trans (congrArg some (by kernel_rfl))
 f29:=Tryz.func166.trans (congrArg some (by kernel_rfl))
 f46:=⟨Tryz.f192.name,by decide,Tryz.func192.trans (congrArg some (by kernel_rfl))⟩
 f47:=Tryz.func193.trans (congrArg some (by kernel_rfl))
 f48:=Tryz.func194.trans (congrArg some (by kernel_rfl))
 f49:=⟨Tryz.f195.name,by decide,Tryz.func195.trans (congrArg some (by kernel_rfl))⟩
 f50:=⟨Tryz.f196.name,by decide,Tryz.func196.trans (congrArg some (by kernel_rfl))⟩
 f57:=⟨Tryz.f209.name,by decide,Tryz.func209.trans (congrArg some (by kernel_rfl))⟩
 t0:=Tryz.underlying0
 a0:=Tryz.isAgg0
 z0:=Tryz.sizeOf0
 v0:=Tryz.zeroValue0
 t3:=Tryz.underlying3
 a3:=Tryz.isAgg3
 z3:=Tryz.sizeOf3
 v3:=Tryz.zeroValue3
 t4:=Tryz.underlying4
 a4:=Tryz.isAgg4
 z4:=Tryz.sizeOf4
 v4:=Tryz.zeroValue4
 t5:=Tryz.underlying5
 a5:=Tryz.isAgg5
 z5:=Tryz.sizeOf5
 v5:=Tryz.zeroValue5
 t9:=Tryz.underlying9
 a9:=Tryz.isAgg9
 z9:=Tryz.sizeOf9
 v9:=Tryz.zeroValue9
 t22:=Tryz.underlying35
 a22:=Tryz.isAgg35
 z22:=Tryz.sizeOf35
 v22:=Tryz.zeroValue35
 t25:=Tryz.underlying123
 a25:=Tryz.isAgg123
 z25:=Tryz.sizeOf123
 v25:=Tryz.zeroValue123
 t39:=Tryz.underlying173
 a39:=Tryz.isAgg173
 z39:=Tryz.sizeOf173
 v39:=Tryz.zeroValue173
 t45:=Tryz.underlying198
 a45:=Tryz.isAgg198
 z45:=Tryz.sizeOf198
 v45:=Tryz.zeroValue198
 t46:=Tryz.underlying199
 a46:=Tryz.isAgg199
 z46:=Tryz.sizeOf199
 v46:=Tryz.zeroValue199
 t50:=Tryz.underlying203
 a50:=Tryz.isAgg203
 z50:=Tryz.sizeOf203
 v50:=Tryz.zeroValue203
 t53:=Tryz.underlying206
 a53:=Tryz.isAgg206
 z53:=Tryz.sizeOf206
 v53:=Tryz.zeroValue206
 t55:=Tryz.underlying208
 a55:=Tryz.isAgg208
 z55:=Tryz.sizeOf208
 v55:=Tryz.zeroValue208
 t66:=Tryz.underlying220
 a66:=Tryz.isAgg220
 z66:=Tryz.sizeOf220
 v66:=Tryz.zeroValue220
 t70:=Tryz.underlying224
 a70:=Tryz.isAgg224
 z70:=Tryz.sizeOf224
 v70:=Tryz.zeroValue224
 t76:=Tryz.underlying234
 a76:=Tryz.isAgg234
 z76:=Tryz.sizeOf234
 v76:=Tryz.zeroValue234
 t77:=Tryz.underlying235
 a77:=Tryz.isAgg235
 z77:=Tryz.sizeOf235
 v77:=Tryz.zeroValue235}
def Tryz.sortI_ren:Go.Shelf.Ren:=⟨fun|6=>91|15=>122|14=>123|28=>165|29=>166|20=>167|21=>168|22=>169|23=>170|24=>171|25=>172|26=>173|27=>174|46=>197|47=>193|48=>194|49=>198|50=>199|57=>210|n=>n,fun|22=>32|24=>3|25=>125|3=>3|39=>173|0=>0|53=>206|55=>208|4=>4|46=>199|45=>198|50=>203|5=>5|9=>9|66=>220|70=>224|76=>234|77=>235|n=>n,fun|n=>n⟩
theorem Tryz.sortI:Go.Proofs.SlLaysF.n6 Tryz.prog Tryz.sortI_ren:={
 mixed:=by kernel_rfl
 f6:=⟨Tryz.f91.name,by decide,Tryz.func91.trans (congrArg some (by kernel_rfl))⟩
 f14:=⟨Tryz.f123.name,by decide,Tryz.func123.trans (congrArg some (by kernel_rfl))⟩
 f15:=Tryz.func122.trans (congrArg some (by kernel_rfl))
 f20:=⟨Tryz.f167.name,by decide,Tryz.func167.trans (congrArg some (by kernel_rfl))⟩
 f21:=⟨Tryz.f168.name,by decide,Tryz.func168.trans (congrArg some (by kernel_rfl))⟩
 f22:=⟨Tryz.f169.name,by decide,Tryz.func169.trans (congrArg some (by kernel_rfl))⟩
 f23:=⟨Tryz.f170.name,by decide,Tryz.func170.trans (congrArg some (by kernel_rfl))⟩
 f24:=⟨Tryz.f171.name,by decide,Tryz.func171.trans (congrArg some (by kernel_rfl))⟩
 f25:=⟨Tryz.f172.name,by decide,Tryz.func172.trans (congrArg some (by kernel_rfl))⟩
 f26:=⟨Tryz.f173.name,by decide,Tryz.func173.trans (congrArg some (by kernel_rfl))⟩
 f27:=⟨Tryz.f174.name,by decide,Tryz.func174.trans (congrArg some (by kernel_rfl))⟩
 f28:=Tryz.func165.trans (congrArg some (by kernel_rfl))
 f29:=Tryz.func166.trans (congrArg some (by kernel_rfl))
 f46:=⟨Tryz.f197.name,by decide,Tryz.func197.trans (congrArg some (by kernel_rfl))⟩
 f47:=Tryz.func193.trans (congrArg some (by kernel_rfl))
 f48:=Tryz.func194.trans (congrArg some (by kernel_rfl))
 f49:=⟨Tryz.f198.name,by decide,Tryz.func198.trans (congrArg some (by kernel_rfl))⟩
 f50:=⟨Tryz.f199.name,by decide,Tryz.func199.trans (congrArg some (by kernel_rfl))⟩
 f57:=⟨Tryz.f210.name,by decide,Tryz.func210.trans (congrArg some (by kernel_rfl))⟩
 t0:=Tryz.underlying0
 a0:=Tryz.isAgg0
 z0:=Tryz.sizeOf0
 v0:=Tryz.zeroValue0
 t3:=Tryz.underlying3
 a3:=Tryz.isAgg3
 z3:=Tryz.sizeOf3
 v3:=Tryz.zeroValue3
 t4:=Tryz.underlying4
 a4:=Tryz.isAgg4
 z4:=Tryz.sizeOf4
 v4:=Tryz.zeroValue4
 t5:=Tryz.underlying5
 a5:=Tryz.isAgg5
 z5:=Tryz.sizeOf5
 v5:=Tryz.zeroValue5
 t9:=Tryz.underlying9
 a9:=Tryz.isAgg9
 z9:=Tryz.sizeOf9
 v9:=Tryz.zeroValue9
 t22:=Tryz.underlying32
 a22:=Tryz.isAgg32
 z22:=Tryz.sizeOf32
 v22:=Tryz.zeroValue32
 a24:=Tryz.isAgg3
 z24:=Tryz.sizeOf3
 t25:=Tryz.underlying125
 a25:=Tryz.isAgg125
 z25:=Tryz.sizeOf125
 v25:=Tryz.zeroValue125
 t39:=Tryz.underlying173
 a39:=Tryz.isAgg173
 z39:=Tryz.sizeOf173
 v39:=Tryz.zeroValue173
 t45:=Tryz.underlying198
 a45:=Tryz.isAgg198
 z45:=Tryz.sizeOf198
 v45:=Tryz.zeroValue198
 t46:=Tryz.underlying199
 a46:=Tryz.isAgg199
 z46:=Tryz.sizeOf199
 v46:=Tryz.zeroValue199
 t50:=Tryz.underlying203
 a50:=Tryz.isAgg203
 z50:=Tryz.sizeOf203
 v50:=Tryz.zeroValue203
 t53:=Tryz.underlying206
 a53:=Tryz.isAgg206
 z53:=Tryz.sizeOf206
 v53:=Tryz.zeroValue206
 t55:=Tryz.underlying208
 a55:=Tryz.isAgg208
 z55:=Tryz.sizeOf208
 v55:=Tryz.zeroValue208
 t66:=Tryz.underlying220
 a66:=Tryz.isAgg220
 z66:=Tryz.sizeOf220
 v66:=Tryz.zeroValue220
 t70:=Tryz.underlying224
 a70:=Tryz.isAgg224
 z70:=Tryz.sizeOf224
 v70:=Tryz.zeroValue224
 t76:=Tryz.underlying234
 a76:=Tryz.isAgg234
 z76:=Tryz.sizeOf234
 v76:=Tryz.zeroValue234
 t77:=Tryz.underlying235
 a77:=Tryz.isAgg235
 z77:=Tryz.sizeOf235
 v77:=Tryz.zeroValue235}
end Go.Proofs
namespace Go.Proofs.YtafcodjilcljeaaGreat
open Go Go.Tp
theorem swo_of{α:Type}{lt:α→α→Bool}(o:Ord lt):Sort.SWO lt where
 irrefl:=o.irrefl
 trans:=o.trans
 ntrans x y z h1 h2:=by
  cases h:lt x z with
  |false=>rfl
  |true=>
   cases h3:lt y x with
   |true=>rw [o.trans _ _ _ h3 h] at h2;cases h2
   |false=>rw [o.tri _ _ h1 h3] at h;rw [h] at h2;cases h2
theorem cmpI_lt(a b:Int):decide (cmpI a b<0)=ltI a b:=by
 unfold cmpI ltI
 by_cases h1:a<b
 ·simp [h1]
 ·by_cases h2:b<a<;>simp [h1,h2]
theorem cmpE_lt(x y:EL):decide (cmpE x y<0)=ltE x y:=by
 obtain ⟨a,b⟩:=x
 obtain ⟨c,d⟩:=y
 unfold cmpE orI cmpI ltE
 simp only
 by_cases h1:a<c
 ·simp [h1]
 ·by_cases h2:c<a
  ·simp [h1,h2];omega
  ·have h3:a=c:=by omega
   subst h3
   by_cases h4:b<d
   ·simp [h4]
   ·by_cases h5:d<b<;>simp [h4,h5]
theorem sortE_p(z:Value)(n:Nat)(l:List EL)(hb:l.length≤1099511627776):FunE Tryz.prog gs0 88 [.ms z 2 n, .fn 62 [] []] [.row 2 z (l.map encE)] (fun _:List EL=> .tp []) (fun l'=>[.row 2 z (l'.map encE)]) (fun l'=>l'.Perm l∧l'.Pairwise fun x y=>ltE y x=false):=by
 refine (sortK_fun (ρ:=Tryz.sortE_ren) Tryz.sortE ⟨_,_,Tryz.func88,rfl,rfl⟩ 2 (by decide) (fun w=>Go.Tp.run_isAgg (TT.Ok.get tt_ok (show tt.get 49=some _ from rfl))) (fun w=>Go.Tp.run_sizeOf (TT.Ok.get tt_ok (show tt.get 49=some _ from rfl)))
  encE (fun x=>⟨_,rfl⟩) cmpE ?_ 62 (enters_of Tryz.func62 (by kernel_rfl) rfl) z n l (fun x _ y _=>byElem_p x y) (by omega)).mono fun y Λ' ⟨l',h1,h2,h3,h4⟩=>⟨l',by rw [h3];exact .refl,h4,h1,h2.imp fun {a b} h=>?_⟩
 ·have:=swo_of ord_el
  simp only [cmpE_lt]
  exact this
 ·rw [←cmpE_lt];simpa using h
theorem sortI_p(z:Value)(n:Nat)(l:List Int)(hb:l.length≤1099511627776):FunE Tryz.prog gs0 91 [.ms z 1 n, .fn 64 [] []] [.row 1 z (l.map AI)] (fun _:List Int=> .tp []) (fun l'=>[.row 1 z (l'.map AI)]) (fun l'=>l'.Perm l∧l'.Pairwise fun x y=>ltI y x=false):=by
 refine (sort1_fun (ρ:=Tryz.sortI_ren) Tryz.sortI ⟨_,_,Tryz.func91,rfl,rfl⟩
  AI cmpI ?_ 64 (enters_of Tryz.func64 (by kernel_rfl) rfl) z n l (fun x _=>rfl) (fun x _ y _=>cmp_p x y) (by omega)).mono fun y Λ' ⟨l',h1,h2,h3,h4⟩=>⟨l',by rw [h3];exact .refl,h4,h1,h2.imp fun {a b} h=>?_⟩
 ·have:=swo_of ord_int
  simp only [cmpI_lt]
  exact this
 ·rw [←cmpI_lt];simpa using h
theorem sortedE_p(z:Value)(n:Nat)(l:List EL)(hb:l.length≤1099511627776):FunE Tryz.prog gs0 61 [.ms z 2 n, .fn 62 [] []] [.row 2 z (l.map encE)] (fun z':Value=> .ms z' 2 (canE l).length) (fun z'=>[.row 2 z' ((canE l).map encE)]) (fun _=>True):=by
 have hso:=sortE_p z n l hb
 unfold FunE
 refine Fun.of (S:=tt) (fn:=Tryz.f61) (n:=10) tt_ok Tryz.func61 rfl rfl rfl rfl fun w0 h0 F hgs=>?_
 refine y_ ?_
 refine A.e rfl hso .refl (List.Perm.refl _) fun l' hl'=>?_
 have hc:=compE_p z n l' (by rw [hl'.1.length_eq];exact hb)
 rw [comp_ins ord_el hl'.1 hl'.2] at hc
 refine y_ ?_
 refine A.e rfl hc .refl (List.Perm.refl _) fun z' _=>?_
 refine y_ ?_
 refine A.ret1 (Λ':=[.row 2 _ _]) rfl rfl rfl sl_ ⟨_, .refl,rfl,trivial⟩
theorem sortedI_p(z:Value)(n:Nat)(l:List Int)(hb:l.length≤1099511627776):FunE Tryz.prog gs0 63 [.ms z 1 n, .fn 64 [] []] [.row 1 z (l.map AI)] (fun z':Value=> .ms z' 1 (canI l).length) (fun z'=>[.row 1 z' ((canI l).map AI)]) (fun _=>True):=by
 have hso:=sortI_p z n l hb
 unfold FunE
 refine Fun.of (S:=tt) (fn:=Tryz.f63) (n:=10) tt_ok Tryz.func63 rfl rfl rfl rfl fun w0 h0 F hgs=>?_
 refine y_ ?_
 refine A.e rfl hso .refl (List.Perm.refl _) fun l' hl'=>?_
 have hc:=compI_p z n l' (by rw [hl'.1.length_eq];exact hb)
 rw [comp_ins ord_int hl'.1 hl'.2] at hc
 refine y_ ?_
 refine A.e rfl hc .refl (List.Perm.refl _) fun z' _=>?_
 refine y_ ?_
 refine A.ret1 (Λ':=[.row 1 _ _]) rfl rfl rfl sl_ ⟨_, .refl,rfl,trivial⟩
end Go.Proofs.YtafcodjilcljeaaGreat
namespace Go.Proofs.YtafcodjilcljeaaGreat
open Go Go.Tp
abbrev PT(b:Nat):AV:= .v (.pointer (some ⟨b,0,none⟩))
abbrev vsA(vs:List KV):AV:= .sl 2 (vs.map encV) none
structure Z4 where
 r:Value
 w:Value
 i:Value
 o:Value
abbrev colC(vs:List KV)(z:Z4)(u:RU):List AV:=[vsA vs, .ms z.r 2 u.r.length, .ms z.w 2 u.w.length, .ms z.i 1 u.i.length, .ms z.o 1 u.o.length]
abbrev colB(b:Nat)(vs:List KV)(z:Z4)(u:RU):AEnt:= .box b (.ag (colC vs z u))
abbrev colE(b:Nat)(vs:List KV)(z:Z4)(u:RU):List AEnt:=[colB b vs z u, .row 2 z.r (u.r.map encE), .row 2 z.w (u.w.map encE), .row 1 z.i (u.i.map AI), .row 1 z.o (u.o.map AI)]
theorem elem_p(vs:List KV)(z:Z4)(u:RU)(v:Int)(e:KE)(hv:0≤v)(hl:v<vs.length)(hn:i32 e.n):Pure Tryz.prog gs0 120 [.pe 5 (.ag (colC vs z u)),AI v,encK e] (encE (elemM vs v e)):=by
 have hcv:AV.v (.int .i64 (IntKind.i64.wrap e.n))=AI e.n:=ai_eq (w64_32 hn)
 rw [encK_eq]
 refine Exists.elim (at_ex (l:=vs) hv hl) fun x hx=>?_
 have hdim:dimOf vs v=x.dim:=by unfold dimOf;rw [hx]
 refine Exists.elim (show∃R,R=elemM vs v e from ⟨_,rfl⟩) fun R hR=>?_
 rw [←hR]
 unfold elemM at hR
 rw [hdim] at hR
 by_cases h1:e.kind=1
 case neg=>
  rw [if_neg (fun h=>h1 h.1)] at hR
  refine p_ tt_ok Tryz.func120 36 fun w0 h0 F hgs=>?_
  (refine b_ fun bx=>?_;refine b_ fun bx=>?_;refine y_ ?_)
  refine d_ 20 [0,1,2,3,4,5,6,7,8,9,10,11,12,13,14,15,16,17,18,19] [] ?_
  refine ew_ 10 rfl (x':=AB false) (ab_eq (beq_eq_false_iff_ne.2 h1)) ?_
  refine z_ ?_
  refine A.retC (Λ':=[]) rfl rfl rfl rfl rfl (List.nil_sublist _) ⟨?_,rfl⟩
  rw [hR]
  exact s_
 by_cases h2:0≤e.n
 case neg=>
  rw [if_neg (fun h=>h2 h.2.1)] at hR
  refine p_ tt_ok Tryz.func120 36 fun w0 h0 F hgs=>?_
  (refine b_ fun bx=>?_;refine b_ fun bx=>?_;refine y_ ?_)
  refine d_ 20 [0,1,2,3,4,5,6,7,8,9,10,11,12,13,14,15,16,17,18,19] [] ?_
  refine ew_ 10 rfl (x':=AB true) (ab_eq (beq_iff_eq.2 h1)) ?_
  refine ew_ 15 rfl (x':=AB false) (ab_eq (decide_eq_false h2)) ?_
  refine z_ ?_
  refine A.retC (Λ':=[]) rfl rfl rfl rfl rfl (List.nil_sublist _) ⟨?_,rfl⟩
  rw [hR]
  exact s_
 refine p_ tt_ok Tryz.func120 36 fun w0 h0 F hgs=>?_
 (refine b_ fun bx=>?_;refine b_ fun bx=>?_;refine y_ ?_)
 refine d_ 20 [0,1,2,3,4,5,6,7,8,9,10,11,12,13,14,15,16,17,18,19] [] ?_
 refine ew_ 10 rfl (x':=AB true) (ab_eq (beq_iff_eq.2 h1)) ?_
 refine ew_ 15 rfl (x':=AB true) (ab_eq (decide_eq_true h2)) ?_
 refine WA.valE 18 rfl (x':=AI e.n) hcv ?_
 refine WA.x rfl hv (map_at hx) rfl rfl ?_
 refine w_ ?_
 refine z_ ?_
 refine k_ (fun hc=>?_) fun hc=>?_
 ·rw [if_pos ⟨h1,h2,by simpa using hc⟩] at hR
  clear hc
  have hR':R=(v,IntKind.i64.wrap e.n):=by rw [hR,w64_32 hn]
  refine y_ ?_
  refine A.retC (Λ':=[]) rfl rfl rfl rfl rfl (List.nil_sublist _) ⟨?_,rfl⟩
  rw [hR']
  exact s_
 ·rw [if_neg (fun h=>by have:=h.2.2;simp at hc;omega)] at hR
  clear hc
  refine y_ ?_
  refine A.retC (Λ':=[]) rfl rfl rfl rfl rfl (List.nil_sublist _) ⟨?_,rfl⟩
  rw [hR]
  exact s_
mutual
def okK(vs:List KV):KE→Prop
 |⟨k,_,_,n,v,l⟩=>((k=3→0≤v∧v<vs.length∧l≠[])∧l.length≤2∧i32 n)∧okKl vs l
def okKl(vs:List KV):List KE→Prop
 | []=>True
 |e::r=>okK vs e∧okKl vs r
end
theorem okKl_mem{vs:List KV}: ∀{l:List KE},okKl vs l→ ∀x,x∈l→okK vs x
 | [],_,x,h=>by cases h
 |y::r,hw,x,h=>by
  rw [okKl] at hw
  rcases List.mem_cons.1 h with rfl|h
  ·exact hw.1
  ·exact okKl_mem hw.2 x h
theorem okK_e{vs:List KV}{e:KE}(h:okK vs e):(e.kind=3→0≤e.v∧e.v<vs.length∧e.l≠[])∧e.l.length≤2∧i32 e.n∧ ∀x,x∈e.l→okK vs x:=by
 obtain ⟨k,o,t,n,v,l⟩:=e
 rw [okK] at h
 exact ⟨h.1.1,h.1.2.1,h.1.2.2,okKl_mem h.2⟩
theorem rdK_eq(vs:List KV)(e:KE):rdK vs e=ownK vs e++rdKl vs e.l:=by obtain ⟨k,o,t,n,v,l⟩:=e;rw [rdK]
theorem rdKl_take{vs:List KV}: ∀{l:List KE} {i:Nat} {x:KE},l[i]? =some x→rdKl vs (l.take (i+1))=rdKl vs (l.take i)++rdK vs x
 | [],i,x,h=>by simp at h
 |y::r,0,x,h=>by
  injection h with h;subst h
  show rdKl vs [y]=rdKl vs []++rdK vs y
  simp [rdKl]
 |y::r,i+1,x,h=>by
  have h:r[i]? =some x:=by simpa using h
  rw [List.take_succ_cons,List.take_succ_cons,rdKl,rdKl,rdKl_take h,List.append_assoc]
theorem rdKl_le{vs:List KV}{l:List KE}{i:Nat}{x:KE}(h:l[i]? =some x):(rdKl vs (l.take i)).length+(rdK vs x).length≤(rdKl vs l).length:=by
 have h1:=rdKl_take (vs:=vs) h
 have h2:rdKl vs l=rdKl vs (l.take (i+1))++rdKl vs (l.drop (i+1)):=by
  have: ∀a b:List KE,rdKl vs (a++b)=rdKl vs a++rdKl vs b:=fun a b=>by
   induction a with
   |nil=>simp [rdKl]
   |cons x a ih=>rw [List.cons_append,rdKl,rdKl,ih,List.append_assoc]
  rw [←this,List.take_append_drop]
 rw [h2,h1];simp only [List.length_append];omega
abbrev Z4.setR(z:Z4)(v:Value):Z4:=⟨v,z.w,z.i,z.o⟩
abbrev RU.addR(u:RU)(l:List EL):RU:=⟨u.r++l,u.w,u.i,u.o⟩
theorem perm6{α:Type}(a X B w i o:α):[a,X,B,w,i,o].Perm ([B,a,w,i,o]++[X]):=
 ((List.Perm.swap B X _).cons a).trans ((List.Perm.swap B a _).trans (((List.perm_append_comm (l₁:=[X]) (l₂:=[w,i,o])).cons a).cons B))
theorem colE_r{b:Nat}{vs:List KV}{z:Z4}{u:RU}{v:Value}{l l':List EL}{X:AEnt}(h:l'=l):[.row 2 v (u.r.map encE++l.map encE),X, .box b (.ag [vsA vs, .ms v 2 ((u.r.map encE).length+(l.map encE).length), .ms z.w 2 u.w.length, .ms z.i 1 u.i.length, .ms z.o 1 u.o.length]), .row 2 z.w (u.w.map encE), .row 1 z.i (u.i.map AI), .row 1 z.o (u.o.map AI)].Perm (colE b vs (z.setR v) (u.addR l')++[X]):=by
 subst h
 have e1:u.r.map encE++l'.map encE=(u.r++l').map encE:=List.map_append.symm
 have e2:(u.r.map encE).length+(l'.map encE).length=(u.r++l').length:=by rw [List.length_map,List.length_map,List.length_append]
 rw [e1,e2]
 exact perm6 _ _ _ _ _ _
theorem expr_n(b:Nat)(vs:List KV): ∀(m:Nat) (e:KE),SizeOf.sizeOf e≤m→okK vs e→ ∀(z:Z4) (u:RU),u.r.length+(rdK vs e).length≤1099511627776→
 FunE Tryz.prog gs0 87 [PT b,encK e] (colE b vs z u) (fun _:Value=> .tp []) (fun v=>colE b vs (z.setR v) (u.addR (rdK vs e))) (fun _=>True)
 |0,e,h,_,_,_,_=>by obtain ⟨k,o,t,n,v,l⟩:=e;simp at h
 |m+1,e,h,ok,z,u,hb=>by
  obtain ⟨ok3,okl,okn,oks⟩:=okK_e ok
  have hrec: ∀x,x∈e.l→ ∀(z:Z4) (u:RU),u.r.length+(rdK vs x).length≤1099511627776→
   FunE Tryz.prog gs0 87 [PT b,encK x] (colE b vs z u) (fun _:Value=> .tp []) (fun v=>colE b vs (z.setR v) (u.addR (rdK vs x))) (fun _=>True):=fun x hx=>by
   refine expr_n b vs m x ?_ (oks x hx)
   have h1:=List.sizeOf_lt_of_mem hx
   obtain ⟨k,o,t,n,v,l⟩:=e
   simp only [KE.mk.sizeOf_spec,KE.l] at h h1
   omega
  clear h
  rw [rdK_eq,List.length_append] at hb
  have hlen:=encKl_len e.l
  unfold FunE
  rw [encK_eq]
  by_cases h2:e.kind=2
  ·have hown:ownK vs e=[(e.v,0)]:=by unfold ownK;rw [if_pos h2]
   refine Fun.of (S:=tt) (fn:=Tryz.f87) (n:=56) tt_ok Tryz.func87 rfl rfl rfl rfl fun w0 h0 F hgs=>?_
   (refine b_ fun bx=>?_;refine y_ ?_)
   refine e_ 8 rfl (x':=AB true) (ab_eq (beq_iff_eq.2 h2)) ?_
   refine A.drawL [(10, .row 2 z.r (u.r.map encE))] 11 [0,1,2,3,4,5,6,7,8,9,10] (fun i=>if i=10 then [10,9] else []) [] (AOut.perm (x:= .row 2 z.r (u.r.map encE))) rfl rfl (by rfl) (by kernel_rfl) (by kernel_rfl) ?_
   refine w_ ?_
   refine WA.lit rfl rfl rfl rfl rfl rfl rfl fun bw=>?_
   refine WA.appendR rfl rfl rfl rfl rfl rfl rfl rfl rfl rfl rfl rfl rfl rfl rfl rfl rfl rfl rfl rfl (.pub (j:=9) rfl rfl (.sub .refl)) (by show ((u.r.map encE).length+1)*2≤_;rw [List.length_map];omega) (by show ((u.r.map encE).length+1)*2*16≤_;rw [List.length_map];omega) fun z1=>?_
   refine WA.nil (l:=[_]) rfl ?_
   refine y_ ?_
   refine A.perm (colE_r (z:=z) (u:=u) (l:=[(e.v,0)]) hown) ?_
   refine A.valE 47 rfl (x':=AI (e.l.length:Nat)) (ai_eq (by rw [hlen])) ?_
   refine A.keep [0,46,47,48] rfl ?_
   refine A.less (List.sublist_append_left _ _) ?_
   refine A.loopP (ι:=Nat×Value) (fun j=>(⟨[(0,PT b),(46,kesA e.l),(47,AI (e.l.length:Nat)),(48,AI (j.1:Nat))],[]⟩,colE b vs (z.setR j.2) (u.addR (ownK vs e++rdKl vs (e.l.take j.1))))) (fun j=>j.1≤e.l.length) (fun j=>e.l.length-j.1) (0,z1) (Nat.zero_le _) (by simp [rdKl]) fun j hj ih=>?_
   obtain ⟨i,zi⟩:=j
   simp only at hj ih⊢
   refine y_ ?_
   refine k_ (fun hc=>?_) fun hc=>?_
   ·have hc':i<e.l.length:=by have:((i:Int)<e.l.length):=by simpa using hc
                              omega
    clear hc
    refine Exists.elim (at_exN (l:=e.l) (i:=i) hc') fun x hx=>?_
    have hle:=rdKl_le (vs:=vs) hx
    have hr:=hrec x (List.mem_of_getElem? hx) (z.setR zi) (u.addR (ownK vs e++rdKl vs (e.l.take i))) (by simp only [List.length_append];omega)
    have hu:(u.addR (ownK vs e++rdKl vs (e.l.take i))).addR (rdK vs x)=u.addR (ownK vs e++rdKl vs (e.l.take (i+1))):=by
     simp only [RU.addR,rdKl_take hx,List.append_assoc]
    rw [encK_eq,hu] at hr
    clear hle hu
    refine y_ ?_
    refine j_ rfl (encKl_at hx) (encK_eq x) ?_
    (refine b_ fun bx=>?_;refine y_ ?_)
    refine A.e rfl hr .refl (List.perm_append_singleton _ _).symm fun zr _=>?_
    refine A.less (List.sublist_append_left _ _) ?_
    refine y_ ?_
    refine A.valE 48 rfl (x':=AI ((i+1:Nat):Int)) (inc_eq i (by omega)) ?_
    refine u_ (ih (i+1,zr) (by show i+1≤_;omega) (by show e.l.length-(i+1)<e.l.length-i;omega))
   ·have hil:i=e.l.length:=by have: ¬((i:Int)<e.l.length):=by simpa using hc
                              omega
    clear hc ih
    refine A.entsEq (Λ':=colE b vs (z.setR zi) (u.addR (rdK vs e))) (by rw [hil,List.take_length,←rdK_eq]) ?_
    refine y_ ?_
    refine A.ret0 rfl rfl (List.Sublist.refl _) ⟨zi, .refl,rfl,trivial⟩
  by_cases h3:e.kind=3
  ·obtain ⟨hv0,hv1,hne⟩:=ok3 h3
   obtain ⟨x0,l0,hl0⟩:=List.exists_cons_of_ne_nil hne
   have hx0:e.l[(0:Int).toNat]? =some x0:=by rw [hl0];rfl
   have hown:ownK vs e=[elemM vs e.v x0]:=by unfold ownK;rw [if_neg h2,if_pos h3,hl0];rfl
   have hel:=elem_p vs z u e.v x0 hv0 hv1 (okK_e (oks x0 (by rw [hl0];exact List.mem_cons_self ..))).2.2.1
   rw [encK_eq] at hel
   have hlent:=Pure.lent (Λ:=[colB b vs z u]) Tryz.func120 rfl rfl hel rfl (LtL.cons (Lt.box (List.mem_singleton.2 rfl) rfl) (LtL.cons (Lt.sub .refl) (LtL.cons (Lt.sub .refl) LtL.nil)))
   clear hel
   refine Fun.of (S:=tt) (fn:=Tryz.f87) (n:=56) tt_ok Tryz.func87 rfl rfl rfl rfl fun w0 h0 F hgs=>?_
   (refine b_ fun bx=>?_;refine y_ ?_)
   refine e_ 8 rfl (x':=AB false) (ab_eq (beq_eq_false_iff_ne.2 h2)) ?_
   refine e_ 24 rfl (x':=AB true) (ab_eq (beq_iff_eq.2 h3)) ?_
   refine A.drawL [(15, .row 2 z.r (u.r.map encE))] 16 [0,1,2,3,4,5,6,7,8,9,10,11,12,13,14,15] (fun i=>if i=15 then [15,14] else []) [(13,encE (elemM vs e.v x0))] (AOut.perm (x:= .row 2 z.r (u.r.map encE))) rfl rfl (by rfl) (by kernel_rfl) (by kernel_rfl) ?_
   refine w_ ?_
   refine iw_ rfl (encKl_at hx0) (encK_eq x0) ?_
   refine WA.callF rfl rfl rfl rfl rfl rfl rfl rfl rfl rfl hlent (.sub .refl) (AOut.perm (x:=colB b vs z u)) ?_
   refine WA.lit rfl rfl rfl rfl rfl rfl rfl fun bw=>?_
   refine WA.appendR rfl rfl rfl rfl rfl rfl rfl rfl rfl rfl rfl rfl rfl rfl rfl rfl rfl rfl rfl rfl (.pub (j:=14) rfl rfl (.sub .refl)) (by show ((u.r.map encE).length+1)*2≤_;rw [List.length_map];omega) (by show ((u.r.map encE).length+1)*2*16≤_;rw [List.length_map];omega) fun z1=>?_
   refine WA.nil (l:=[_]) rfl ?_
   refine y_ ?_
   refine A.perm (colE_r (z:=z) (u:=u) (l:=[elemM vs e.v x0]) hown) ?_
   refine A.valE 47 rfl (x':=AI (e.l.length:Nat)) (ai_eq (by rw [hlen])) ?_
   refine A.keep [0,46,47,48] rfl ?_
   refine A.less (List.sublist_append_left _ _) ?_
   refine A.loopP (ι:=Nat×Value) (fun j=>(⟨[(0,PT b),(46,kesA e.l),(47,AI (e.l.length:Nat)),(48,AI (j.1:Nat))],[]⟩,colE b vs (z.setR j.2) (u.addR (ownK vs e++rdKl vs (e.l.take j.1))))) (fun j=>j.1≤e.l.length) (fun j=>e.l.length-j.1) (0,z1) (Nat.zero_le _) (by simp [rdKl]) fun j hj ih=>?_
   obtain ⟨i,zi⟩:=j
   simp only at hj ih⊢
   refine y_ ?_
   refine k_ (fun hc=>?_) fun hc=>?_
   ·have hc':i<e.l.length:=by have:((i:Int)<e.l.length):=by simpa using hc
                              omega
    clear hc
    refine Exists.elim (at_exN (l:=e.l) (i:=i) hc') fun x hx=>?_
    have hle:=rdKl_le (vs:=vs) hx
    have hr:=hrec x (List.mem_of_getElem? hx) (z.setR zi) (u.addR (ownK vs e++rdKl vs (e.l.take i))) (by simp only [List.length_append];omega)
    have hu:(u.addR (ownK vs e++rdKl vs (e.l.take i))).addR (rdK vs x)=u.addR (ownK vs e++rdKl vs (e.l.take (i+1))):=by
     simp only [RU.addR,rdKl_take hx,List.append_assoc]
    rw [encK_eq,hu] at hr
    clear hle hu
    refine y_ ?_
    refine j_ rfl (encKl_at hx) (encK_eq x) ?_
    (refine b_ fun bx=>?_;refine y_ ?_)
    refine A.e rfl hr .refl (List.perm_append_singleton _ _).symm fun zr _=>?_
    refine A.less (List.sublist_append_left _ _) ?_
    refine y_ ?_
    refine A.valE 48 rfl (x':=AI ((i+1:Nat):Int)) (inc_eq i (by omega)) ?_
    refine u_ (ih (i+1,zr) (by show i+1≤_;omega) (by show e.l.length-(i+1)<e.l.length-i;omega))
   ·have hil:i=e.l.length:=by have: ¬((i:Int)<e.l.length):=by simpa using hc
                              omega
    clear hc ih
    refine A.entsEq (Λ':=colE b vs (z.setR zi) (u.addR (rdK vs e))) (by rw [hil,List.take_length,←rdK_eq]) ?_
    refine y_ ?_
    refine A.ret0 rfl rfl (List.Sublist.refl _) ⟨zi, .refl,rfl,trivial⟩
  have hown:ownK vs e=[]:=by unfold ownK;rw [if_neg h2,if_neg h3]
  refine Exists.elim (show∃z1,z1=z.r from ⟨_,rfl⟩) fun z1 hz1=>?_
  refine Fun.of (S:=tt) (fn:=Tryz.f87) (n:=56) tt_ok Tryz.func87 rfl rfl rfl rfl fun w0 h0 F hgs=>?_
  (refine b_ fun bx=>?_;refine y_ ?_)
  refine e_ 8 rfl (x':=AB false) (ab_eq (beq_eq_false_iff_ne.2 h2)) ?_
  refine e_ 24 rfl (x':=AB false) (ab_eq (beq_eq_false_iff_ne.2 h3)) ?_
  refine A.perm (List.perm_append_singleton _ _).symm ?_
  refine A.entsEq (Λ':=colE b vs (z.setR z1) (u.addR (ownK vs e))++[_]) (by rw [hown,hz1];simp only [RU.addR,List.append_nil];rfl) ?_
  refine A.valE 47 rfl (x':=AI (e.l.length:Nat)) (ai_eq (by rw [hlen])) ?_
  refine A.keep [0,46,47,48] rfl ?_
  refine A.less (List.sublist_append_left _ _) ?_
  refine A.loopP (ι:=Nat×Value) (fun j=>(⟨[(0,PT b),(46,kesA e.l),(47,AI (e.l.length:Nat)),(48,AI (j.1:Nat))],[]⟩,colE b vs (z.setR j.2) (u.addR (ownK vs e++rdKl vs (e.l.take j.1))))) (fun j=>j.1≤e.l.length) (fun j=>e.l.length-j.1) (0,z1) (Nat.zero_le _) (by simp [rdKl]) fun j hj ih=>?_
  obtain ⟨i,zi⟩:=j
  simp only at hj ih⊢
  refine y_ ?_
  refine k_ (fun hc=>?_) fun hc=>?_
  ·have hc':i<e.l.length:=by have:((i:Int)<e.l.length):=by simpa using hc
                             omega
   clear hc
   refine Exists.elim (at_exN (l:=e.l) (i:=i) hc') fun x hx=>?_
   have hle:=rdKl_le (vs:=vs) hx
   have hr:=hrec x (List.mem_of_getElem? hx) (z.setR zi) (u.addR (ownK vs e++rdKl vs (e.l.take i))) (by simp only [List.length_append];omega)
   have hu:(u.addR (ownK vs e++rdKl vs (e.l.take i))).addR (rdK vs x)=u.addR (ownK vs e++rdKl vs (e.l.take (i+1))):=by
    simp only [RU.addR,rdKl_take hx,List.append_assoc]
   rw [encK_eq,hu] at hr
   clear hle hu
   refine y_ ?_
   refine j_ rfl (encKl_at hx) (encK_eq x) ?_
   (refine b_ fun bx=>?_;refine y_ ?_)
   refine A.e rfl hr .refl (List.perm_append_singleton _ _).symm fun zr _=>?_
   refine A.less (List.sublist_append_left _ _) ?_
   refine y_ ?_
   refine A.valE 48 rfl (x':=AI ((i+1:Nat):Int)) (inc_eq i (by omega)) ?_
   refine u_ (ih (i+1,zr) (by show i+1≤_;omega) (by show e.l.length-(i+1)<e.l.length-i;omega))
  ·have hil:i=e.l.length:=by have: ¬((i:Int)<e.l.length):=by simpa using hc
                             omega
   clear hc ih
   refine A.entsEq (Λ':=colE b vs (z.setR zi) (u.addR (rdK vs e))) (by rw [hil,List.take_length,←rdK_eq]) ?_
   refine y_ ?_
   refine A.ret0 rfl rfl (List.Sublist.refl _) ⟨zi, .refl,rfl,trivial⟩
structure OkP(vs:List KV)(p:PL):Prop where
 len:p.ix.length≤1
 v:p.ix≠[]→0≤p.v∧p.v<vs.length
 ix: ∀x,x∈p.ix→okK vs x
abbrev Z4.setW(z:Z4)(v:Value):Z4:=⟨z.r,v,z.i,z.o⟩
theorem expr_p(b:Nat)(vs:List KV)(e:KE)(ok:okK vs e)(z:Z4)(u:RU)(hb:u.r.length+(rdK vs e).length≤1099511627776):
 FunE Tryz.prog gs0 87 [PT b, .ag [AU8 e.kind,AU8 e.oper,AU8 e.to,AI32 e.n,AI e.v, .sl 6 (encKl e.l) none]] (colE b vs z u) (fun _:Value=> .tp []) (fun v=>colE b vs (z.setR v) (u.addR (rdK vs e))) (fun _=>True):=by
 have:=expr_n b vs _ e (Nat.le_refl _) ok z u hb
 rwa [encK_eq] at this
theorem elemL_p(b:Nat)(vs:List KV)(z:Z4)(u:RU)(v:Int)(e:KE)(hv:0≤v)(hl:v<vs.length)(hn:i32 e.n):
 Fun Tryz.prog gs0 120 [PT b,AI v, .ag [AU8 e.kind,AU8 e.oper,AU8 e.to,AI32 e.n,AI e.v, .sl 6 (encKl e.l) none]] [colB b vs z u] fun y Λ'=>y=encE (elemM vs v e)∧Λ'=[colB b vs z u]:=by
 have hel:=elem_p vs z u v e hv hl hn
 rw [encK_eq] at hel
 exact Pure.lend Tryz.func120 rfl rfl hel rfl (LtL.cons (Lt.box (List.mem_singleton.2 rfl) rfl) (LtL.cons (Lt.sub .refl) (LtL.cons (Lt.sub .refl) LtL.nil)))
theorem colE_w{b:Nat}{vs:List KV}{z:Z4}{u:RU}{v:Value}{l:List EL}:[.box b (.ag [vsA vs, .ms z.r 2 u.r.length, .ms v 2 ((u.w.map encE).length+(l.map encE).length), .ms z.i 1 u.i.length, .ms z.o 1 u.o.length]), .row 2 z.r (u.r.map encE), .row 2 v (u.w.map encE++l.map encE), .row 1 z.i (u.i.map AI), .row 1 z.o (u.o.map AI)]=colE b vs (z.setW v) ⟨u.r,u.w++l,u.i,u.o⟩:=by
 have e1:u.w.map encE++l.map encE=(u.w++l).map encE:=List.map_append.symm
 have e2:(u.w.map encE).length+(l.map encE).length=(u.w++l).length:=by rw [List.length_map,List.length_map,List.length_append]
 rw [e1,e2]
theorem uplace_p(b:Nat)(vs:List KV)(p:PL)(ok:OkP vs p)(z:Z4)(u:RU)(hr:u.r.length+(rdKl vs p.ix).length≤1099511627776)(hw:u.w.length+1≤1099511627776):
 FunE Tryz.prog gs0 86 [PT b,encPl p] (colE b vs z u) (fun _:Value×Value=> .tp []) (fun q=>colE b vs ((z.setR q.1).setW q.2) (u.add (plU vs p))) (fun _=>True):=by
 obtain ⟨v,ix⟩:=p
 obtain ⟨okl,okv,okx⟩:=ok
 simp only at okl okv okx hr
 unfold FunE
 cases ix with
 |nil=>
  have hu:u.add (plU vs ⟨v,[]⟩)=⟨u.r,u.w++[(v,0)],u.i,u.o⟩:=by simp [RU.add,plU,rdKl,plE]
  rw [hu]
  refine Fun.of (S:=tt) (fn:=Tryz.f86) (n:=38) tt_ok Tryz.func86 rfl rfl rfl rfl fun w0 h0 F hgs=>?_
  (refine b_ fun bx=>?_;refine b_ fun bx=>?_;refine y_ ?_)
  refine A.loop1 ?_
  refine y_ ?_
  refine A.less (Λ':=[.box _ _]++([.box _ _]++colE b vs z u)) (List.Sublist.refl _) ?_
  refine A.drawL [(8, .row 2 z.w (u.w.map encE))] 9 [0,1,2,3,4,5,6,7,8] (fun i=>if i=8 then [8,7] else []) [] (AOut.perm (x:= .row 2 z.w (u.w.map encE))) rfl rfl (by rfl) (by kernel_rfl) (by kernel_rfl) ?_
  refine w_ ?_
  refine WA.lit rfl rfl rfl rfl rfl rfl rfl fun bw=>?_
  refine WA.appendR rfl rfl rfl rfl rfl rfl rfl rfl rfl rfl rfl rfl rfl rfl rfl rfl rfl rfl rfl rfl (.pub (j:=7) rfl rfl (.sub .refl)) (by show ((u.w.map encE).length+1)*2≤_;rw [List.length_map];omega) (by show ((u.w.map encE).length+1)*2*16≤_;rw [List.length_map];omega) fun z1=>?_
  refine WA.nil (l:=[_]) rfl ?_
  refine y_ ?_
  refine A.perm (perm_pick [3,4,0,5,6,1,2] rfl rfl rfl rfl) ?_
  refine A.less (List.sublist_append_left [_,_,_,_,_] [_,_]) ?_
  refine A.entsEq (colE_w (z:=z) (u:=u) (l:=[(v,0)])) ?_
  refine A.ret0 rfl rfl (List.Sublist.refl _) ⟨(z.r,z1), .refl,rfl,trivial⟩
 |cons x l=>
  have hl:l=[]:=by
   cases l with
   |nil=>rfl
   |cons y r=>simp at okl
  subst hl
  obtain ⟨hv0,hv1⟩:=okv (by simp)
  have okx:=okx x (List.mem_singleton.2 rfl)
  have hu:u.add (plU vs ⟨v,[x]⟩)=⟨u.r++rdK vs x,u.w++[elemM vs v x],u.i,u.o⟩:=by simp [RU.add,plU,rdKl,plE]
  have hrx:u.r.length+(rdK vs x).length≤1099511627776:=by simpa [rdKl] using hr
  have hel:=elemL_p b vs z u v x hv0 hv1 (okK_e okx).2.2.1
  have hex:=expr_p b vs x okx z u hrx
  rw [hu]
  refine Fun.of (S:=tt) (fn:=Tryz.f86) (n:=38) tt_ok Tryz.func86 rfl rfl rfl rfl fun w0 h0 F hgs=>?_
  (refine b_ fun bx=>?_;refine b_ fun bx=>?_;refine y_ ?_)
  refine A.loop1 ?_
  refine y_ ?_
  refine j_ rfl (encKl_at (l:=[x]) (i:=0) rfl) (encK_eq x) ?_
  (refine b_ fun bx=>?_;refine y_ ?_)
  refine A.d rfl hel .refl (AOut.perm (x:=colB b vs z u)) ?_
  refine y_ ?_
  refine A.perm (perm_pick [0,4,5,6,7,1,2,3] rfl rfl rfl rfl) ?_
  refine A.e rfl hex .refl (Λ2:=[_,_,_]) (List.Perm.refl _) fun zr _=>?_
  refine A.entsEq (Λ':=[.box b (.ag [vsA vs, .ms zr 2 (u.r++rdK vs x).length, .ms z.w 2 u.w.length, .ms z.i 1 u.i.length, .ms z.o 1 u.o.length]), .row 2 zr ((u.r++rdK vs x).map encE), .row 2 z.w (u.w.map encE), .row 1 z.i (u.i.map AI), .row 1 z.o (u.o.map AI),_,_,_]) rfl ?_
  refine y_ ?_
  refine A.again ?_
  refine y_ ?_
  refine A.drawL [(8, .row 2 z.w (u.w.map encE))] 9 [0,1,2,3,4,5,6,7,8] (fun i=>if i=8 then [8,7] else []) [] (AOut.perm (x:= .row 2 z.w (u.w.map encE))) rfl rfl (by rfl) (by kernel_rfl) (by kernel_rfl) ?_
  refine w_ ?_
  refine WA.lit rfl rfl rfl rfl rfl rfl rfl fun bw=>?_
  refine WA.appendR rfl rfl rfl rfl rfl rfl rfl rfl rfl rfl rfl rfl rfl rfl rfl rfl rfl rfl rfl rfl (.pub (j:=7) rfl rfl (.sub .refl)) (by show ((u.w.map encE).length+1)*2≤_;rw [List.length_map];omega) (by show ((u.w.map encE).length+1)*2*16≤_;rw [List.length_map];omega) fun z1=>?_
  refine WA.nil (l:=[_]) rfl ?_
  refine y_ ?_
  refine A.perm (perm_pick [1,2,0,3,4,5,6,7] rfl rfl rfl rfl) ?_
  refine A.less (List.sublist_append_left [_,_,_,_,_] [_,_,_]) ?_
  refine A.entsEq (colE_w (z:=z.setR zr) (u:=u.addR (rdK vs x)) (l:=[elemM vs v x])) ?_
  refine A.ret0 rfl rfl (List.Sublist.refl _) ⟨(zr,z1), .refl,rfl,trivial⟩
mutual
def useR(vs:List KV):PR→Prop
 |⟨k,_,v,_,to,e,gs,l⟩=>((k=3→0≤v∧v<vs.length)∧(∀t,t∈to→OkP vs t)∧(∀x,x∈e→okK vs x)∧to.length≤1099511627776∧e.length≤1099511627776∧gs.length≤1099511627776∧l.length≤1099511627776)∧useGl vs gs∧useRl vs l
def useRl(vs:List KV):List PR→Prop
 | []=>True
 |p::r=>useR vs p∧useRl vs r
def useG(vs:List KV):GD→Prop
 |⟨k,e,_,_,to,t,b⟩=>(okK vs e∧(k=4→okK vs t)∧(k=3→OkP vs to)∧b≠[])∧useRl vs b
def useGl(vs:List KV):List GD→Prop
 | []=>True
 |g::r=>useG vs g∧useGl vs r
end
theorem useRl_mem{vs:List KV}: ∀{l:List PR},useRl vs l→ ∀x,x∈l→useR vs x
 | [],_,x,h=>by cases h
 |y::r,hw,x,h=>by
  rw [useRl] at hw
  rcases List.mem_cons.1 h with rfl|h
  ·exact hw.1
  ·exact useRl_mem hw.2 x h
theorem useGl_mem{vs:List KV}: ∀{l:List GD},useGl vs l→ ∀x,x∈l→useG vs x
 | [],_,x,h=>by cases h
 |y::r,hw,x,h=>by
  rw [useGl] at hw
  rcases List.mem_cons.1 h with rfl|h
  ·exact hw.1
  ·exact useGl_mem hw.2 x h
structure UseR(vs:List KV)(p:PR):Prop where
 v:p.kind=3→0≤p.v∧p.v<vs.length
 to: ∀t,t∈p.to→OkP vs t
 e: ∀x,x∈p.e→okK vs x
 tl:p.to.length≤1099511627776
 el:p.e.length≤1099511627776
 gl:p.gs.length≤1099511627776
 ll:p.l.length≤1099511627776
 g: ∀g,g∈p.gs→useG vs g
 l: ∀x,x∈p.l→useR vs x
theorem useR_all{vs:List KV}{p:PR}(h:useR vs p):UseR vs p:=by
 obtain ⟨k,c,v,i,to,e,gs,l⟩:=p
 rw [useR] at h
 exact ⟨h.1.1,h.1.2.1,h.1.2.2.1,h.1.2.2.2.1,h.1.2.2.2.2.1,h.1.2.2.2.2.2.1,h.1.2.2.2.2.2.2,useGl_mem h.2.1,useRl_mem h.2.2⟩
structure UseG(vs:List KV)(g:GD):Prop where
 cond:okK vs g.cond
 time:g.kind=4→okK vs g.time
 to:g.kind=3→OkP vs g.to
 ne:g.body≠[]
 body: ∀x,x∈g.body→useR vs x
theorem useG_all{vs:List KV}{g:GD}(h:useG vs g):UseG vs g:=by
 obtain ⟨k,e,c,i,to,t,b⟩:=g
 rw [useG] at h
 exact ⟨h.1.1,h.1.2.1,h.1.2.2.1,h.1.2.2.2,useRl_mem h.2⟩
structure RU.fit(u v:RU):Prop where
 r:u.r.length+v.r.length≤1099511627776
 w:u.w.length+v.w.length≤1099511627776
 i:u.i.length+v.i.length≤1099511627776
 o:u.o.length+v.o.length≤1099511627776
theorem RU.add_nil(u:RU):u.add .nil=u:=by simp [RU.add,RU.nil]
theorem RU.nil_add(u:RU):RU.nil.add u=u:=by simp [RU.add,RU.nil]
theorem RU.add_assoc(u v w:RU):(u.add v).add w=u.add (v.add w):=by simp [RU.add]
theorem RU.fit_add{u v w:RU}:(u.add v).fit w↔u.fit (v.add w):=by
 constructor
 ·rintro ⟨h1,h2,h3,h4⟩;exact ⟨by simp only [RU.add,List.length_append] at*;omega,by simp only [RU.add,List.length_append] at*;omega,by simp only [RU.add,List.length_append] at*;omega,by simp only [RU.add,List.length_append] at*;omega⟩
 ·rintro ⟨h1,h2,h3,h4⟩;exact ⟨by simp only [RU.add,List.length_append] at*;omega,by simp only [RU.add,List.length_append] at*;omega,by simp only [RU.add,List.length_append] at*;omega,by simp only [RU.add,List.length_append] at*;omega⟩
theorem RU.fit_l{u v w:RU}(h:u.fit (v.add w)):u.fit v:=by
 obtain ⟨h1,h2,h3,h4⟩:=h
 exact ⟨by simp only [RU.add,List.length_append] at*;omega,by simp only [RU.add,List.length_append] at*;omega,by simp only [RU.add,List.length_append] at*;omega,by simp only [RU.add,List.length_append] at*;omega⟩
theorem rawR_eq(vs:List KV)(p:PR):rawR vs p=(((ownU vs p.kind p.c p.v).add (plsU vs p.to)).add ⟨rdKl vs p.e,[],[],[]⟩).add ((rawRl vs p.l).add (rawGl vs p.gs)):=by obtain ⟨k,c,v,i,to,e,gs,l⟩:=p;rw [rawR]
theorem rawG_eq(vs:List KV)(g:GD):rawG vs g=(gdU vs g.kind g.cond g.c g.to g.time).add (rawB vs g.body):=by obtain ⟨k,e,c,i,to,t,b⟩:=g;rw [rawG]
theorem plsU_app{vs:List KV}: ∀a b:List PL,plsU vs (a++b)=(plsU vs a).add (plsU vs b)
 | [],b=>by rw [List.nil_append,plsU,RU.nil_add]
 |x::a,b=>by rw [List.cons_append,plsU,plsU,plsU_app a b,RU.add_assoc]
theorem rawRl_app{vs:List KV}: ∀a b:List PR,rawRl vs (a++b)=(rawRl vs a).add (rawRl vs b)
 | [],b=>by rw [List.nil_append,rawRl,RU.nil_add]
 |x::a,b=>by rw [List.cons_append,rawRl,rawRl,rawRl_app a b,RU.add_assoc]
theorem rawGl_app{vs:List KV}: ∀a b:List GD,rawGl vs (a++b)=(rawGl vs a).add (rawGl vs b)
 | [],b=>by rw [List.nil_append,rawGl,RU.nil_add]
 |x::a,b=>by rw [List.cons_append,rawGl,rawGl,rawGl_app a b,RU.add_assoc]
theorem take_step{α:Type}{l:List α}{i:Nat}{x:α}(h:l[i]? =some x):l.take (i+1)=l.take i++[x]:=by rw [List.take_add_one,h];rfl
theorem cut_at{α:Type}{l:List α}{i:Nat}{x:α}(h:l[i]? =some x):l=l.take i++([x]++l.drop (i+1)):=by
 have:=(List.take_append_drop (i+1) l).symm
 rw [take_step h,List.append_assoc] at this
 exact this
section
variable{K:AC}{k:List It}{E:AEnv}{Λ:List AEnt}
theorem A.atB{id:Nat}(n:A K (.inBlock id::k) E Λ):A K (.inBlock id::k) E Λ:=n
theorem A.join{ι:Type}{X:Code}(E':AEnv)(Λf:ι→List AEnt)(tail: ∀i,A K k E' (Λf i))(main:(∀i,A K k E' (Λf i))→A K (.code X::k) E Λ):A K (.code X::k) E Λ:=main tail
end
theorem colE_i{b:Nat}{vs:List KV}{z:Z4}{u:RU}{v:Value}{l:List Int}:[.box b (.ag [vsA vs, .ms z.r 2 u.r.length, .ms z.w 2 u.w.length, .ms v 1 ((u.i.map AI).length+(l.map AI).length), .ms z.o 1 u.o.length]), .row 2 z.r (u.r.map encE), .row 2 z.w (u.w.map encE), .row 1 v (u.i.map AI++l.map AI), .row 1 z.o (u.o.map AI)]=colE b vs ⟨z.r,z.w,v,z.o⟩ ⟨u.r,u.w,u.i++l,u.o⟩:=by
 have e1:u.i.map AI++l.map AI=(u.i++l).map AI:=List.map_append.symm
 have e2:(u.i.map AI).length+(l.map AI).length=(u.i++l).length:=by rw [List.length_map,List.length_map,List.length_append]
 rw [e1,e2]
theorem colE_o{b:Nat}{vs:List KV}{z:Z4}{u:RU}{v:Value}{l:List Int}:[.box b (.ag [vsA vs, .ms z.r 2 u.r.length, .ms z.w 2 u.w.length, .ms z.i 1 u.i.length, .ms v 1 ((u.o.map AI).length+(l.map AI).length)]), .row 2 z.r (u.r.map encE), .row 2 z.w (u.w.map encE), .row 1 z.i (u.i.map AI), .row 1 v (u.o.map AI++l.map AI)]=colE b vs ⟨z.r,z.w,z.i,v⟩ ⟨u.r,u.w,u.i,u.o++l⟩:=by
 have e1:u.o.map AI++l.map AI=(u.o++l).map AI:=List.map_append.symm
 have e2:(u.o.map AI).length+(l.map AI).length=(u.o++l).length:=by rw [List.length_map,List.length_map,List.length_append]
 rw [e1,e2]
theorem ownU_3{vs:List KV}{c v:Int}:ownU vs 3 c v=⟨[],[(v,if 0<dimOf vs v then-1 else 0)],[],[]⟩:=rfl
theorem uproc_a(b:Nat)(vs:List KV)(p:PR)(ok:UseR vs p)(hL: ∀x,x∈p.l→ ∀(z:Z4) (u:RU),u.fit (rawR vs x)→FunE Tryz.prog gs0 60 [PT b,cellsR x] (colE b vs z u) (fun _:Z4=> .tp []) (fun z'=>colE b vs z' (u.add (rawR vs x))) (fun _=>True))
 (hG: ∀g,g∈p.gs→ ∀x,x∈g.body→ ∀(z:Z4) (u:RU),u.fit (rawR vs x)→FunE Tryz.prog gs0 60 [PT b,cellsR x] (colE b vs z u) (fun _:Z4=> .tp []) (fun z'=>colE b vs z' (u.add (rawR vs x))) (fun _=>True))
 (z:Z4) (u:RU) (hf:u.fit (rawR vs p)):
 FunE Tryz.prog gs0 60 [PT b,cellsR p] (colE b vs z u) (fun _:Z4=> .tp []) (fun z'=>colE b vs z' (u.add (rawR vs p))) (fun _=>True):=by
 unfold FunE
 rw [rawR_eq] at hf⊢
 have hfo:u.fit (ownU vs p.kind p.c p.v):=RU.fit_l (RU.fit_l (RU.fit_l hf))
 rw [RU.add_assoc,RU.add_assoc] at hf⊢
 rw [←RU.add_assoc u]
 have hf:=RU.fit_add.2 hf
 refine Exists.elim (show∃u1,u1=u.add (ownU vs p.kind p.c p.v) from ⟨_,rfl⟩) fun u1 hu1=>?_
 rw [←hu1] at hf⊢
 refine Fun.of (S:=tt) (fn:=Tryz.f60) (n:=150) tt_ok Tryz.func60 rfl rfl rfl rfl fun w0 h0 F hgs=>?_
 (refine b_ fun bx=>?_;refine y_ ?_)
 revert bx
 intro b0
 refine A.join (ι:=Z4) ⟨[(0,PT b),(3,PT b0)],[]⟩ (fun z1=>colE b vs z1 u1++[.box b0 (cellsR p)]) (fun z1=>?_) (fun tail=>?_)
 case refine_2=>
  by_cases h3:p.kind=3
  ·obtain ⟨hv0,hv1⟩:=ok.v h3
   refine Exists.elim (at_ex (l:=vs) hv0 hv1) fun x hx=>?_
   have hdim:dimOf vs p.v=x.dim:=by unfold dimOf;rw [hx]
   rw [h3,ownU_3,hdim] at hfo
   have hw:=hfo.w
   simp only [List.length_cons,List.length_nil] at hw
   refine e_ 15 rfl (x':=AB true) (ab_eq (beq_iff_eq.2 h3)) ?_
   refine d_ 6 [0,1,2,3,4,5] [] ?_
   refine WA.nil (l:=[]) rfl ?_
   refine A.x rfl hv0 (map_at hx) rfl rfl ?_
   refine y_ ?_
   refine k_ (fun hc=>?_) fun hc=>?_
   ·have hd:0<x.dim:=by simpa using hc
    have ho:u1=⟨u.r,u.w++[(p.v,-1)],u.i,u.o⟩:=by rw [hu1,h3,ownU_3,hdim,if_pos hd];simp [RU.add]
    clear hc
    refine y_ ?_
    refine A.drawL [(11, .row 2 z.w (u.w.map encE))] 12 [0,1,2,3,4,5,6,7,8,9,10,11] (fun i=>if i=11 then [11,10] else []) [] (AOut.perm (x:= .row 2 z.w (u.w.map encE))) rfl rfl (by rfl) (by kernel_rfl) (by kernel_rfl) ?_
    refine w_ ?_
    refine WA.lit rfl rfl rfl rfl rfl rfl rfl fun bw=>?_
    refine WA.appendR rfl rfl rfl rfl rfl rfl rfl rfl rfl rfl rfl rfl rfl rfl rfl rfl rfl rfl rfl rfl (.pub (j:=10) rfl rfl (.sub .refl)) (by show ((u.w.map encE).length+1)*2≤_;rw [List.length_map];omega) (by show ((u.w.map encE).length+1)*2*16≤_;rw [List.length_map];omega) fun z1=>?_
    refine WA.nil (l:=[_]) rfl ?_
    (repeat ((fail_if_success refine A.atB ?_);first|refine A.s rfl ?_|refine A.r rfl rfl ?_|refine A.w rfl rfl ?_|refine A.p rfl ?_|refine A.b rfl fun bx=>?_|refine A.t rfl fun bl=>?_))
    refine A.perm (perm_pick [2,3,0,4,5,1] rfl rfl rfl rfl) ?_
    refine A.entsEq (Λ':=colE b vs (z.setW z1) u1++[.box b0 (cellsR p)]) (by rw [ho];exact congrArg (· ++[_]) (colE_w (z:=z) (u:=u) (l:=[(p.v,-1)]))) ?_
    exact A.sub su_ (tail _)
   ·have hd: ¬0<x.dim:=by simpa using hc
    have ho:u1=⟨u.r,u.w++[(p.v,0)],u.i,u.o⟩:=by rw [hu1,h3,ownU_3,hdim,if_neg hd];simp [RU.add]
    clear hc
    refine y_ ?_
    refine A.drawL [(11, .row 2 z.w (u.w.map encE))] 12 [0,1,2,3,4,5,6,7,8,9,10,11] (fun i=>if i=11 then [11,10] else []) [] (AOut.perm (x:= .row 2 z.w (u.w.map encE))) rfl rfl (by rfl) (by kernel_rfl) (by kernel_rfl) ?_
    refine w_ ?_
    refine WA.lit rfl rfl rfl rfl rfl rfl rfl fun bw=>?_
    refine WA.appendR rfl rfl rfl rfl rfl rfl rfl rfl rfl rfl rfl rfl rfl rfl rfl rfl rfl rfl rfl rfl (.pub (j:=10) rfl rfl (.sub .refl)) (by show ((u.w.map encE).length+1)*2≤_;rw [List.length_map];omega) (by show ((u.w.map encE).length+1)*2*16≤_;rw [List.length_map];omega) fun z1=>?_
    refine WA.nil (l:=[_]) rfl ?_
    (repeat ((fail_if_success refine A.atB ?_);first|refine A.s rfl ?_|refine A.r rfl rfl ?_|refine A.w rfl rfl ?_|refine A.p rfl ?_|refine A.b rfl fun bx=>?_|refine A.t rfl fun bl=>?_))
    refine A.perm (perm_pick [2,3,0,4,5,1] rfl rfl rfl rfl) ?_
    refine A.entsEq (Λ':=colE b vs (z.setW z1) u1++[.box b0 (cellsR p)]) (by rw [ho];exact congrArg (· ++[_]) (colE_w (z:=z) (u:=u) (l:=[(p.v,0)]))) ?_
    exact A.sub su_ (tail _)
  by_cases h5:p.kind=5
  ·have how:ownU vs p.kind p.c p.v=⟨[],[],[p.c],[]⟩:=by rw [h5];rfl
   rw [how] at hfo
   have hw:=hfo.i
   simp only [List.length_cons,List.length_nil] at hw
   have ho:u1=⟨u.r,u.w,u.i++[p.c],u.o⟩:=by rw [hu1,how];simp [RU.add]
   refine e_ 15 rfl (x':=AB false) (ab_eq (beq_eq_false_iff_ne.2 h3)) ?_
   refine e_ 42 rfl (x':=AB true) (ab_eq (beq_iff_eq.2 h5)) ?_
   refine A.drawL [(9, .row 1 z.i (u.i.map AI))] 10 [0,1,2,3,4,5,6,7,8,9] (fun i=>if i=9 then [9,8] else []) [] (AOut.perm (x:= .row 1 z.i (u.i.map AI))) rfl rfl (by rfl) (by kernel_rfl) (by kernel_rfl) ?_
   refine w_ ?_
   refine WA.lit rfl rfl rfl rfl rfl rfl rfl fun bw=>?_
   refine WA.appendR rfl rfl rfl rfl rfl rfl rfl rfl rfl rfl rfl rfl rfl rfl rfl rfl rfl rfl rfl rfl (.pub (j:=8) rfl rfl (.sub .refl)) (by show ((u.i.map AI).length+1)*1≤_;rw [List.length_map];omega) (by show ((u.i.map AI).length+1)*1*8≤_;rw [List.length_map];omega) fun z1=>?_
   refine WA.nil (l:=[_]) rfl ?_
   (repeat ((fail_if_success refine A.atB ?_);first|refine A.s rfl ?_|refine A.r rfl rfl ?_|refine A.w rfl rfl ?_|refine A.p rfl ?_|refine A.b rfl fun bx=>?_|refine A.t rfl fun bl=>?_))
   refine A.perm (perm_pick [2,3,4,0,5,1] rfl rfl rfl rfl) ?_
   refine A.entsEq (Λ':=colE b vs ⟨z.r,z.w,z1,z.o⟩ u1++[.box b0 (cellsR p)]) (by rw [ho];exact congrArg (· ++[_]) (colE_i (z:=z) (u:=u) (l:=[p.c]))) ?_
   exact A.sub su_ (tail _)
  by_cases h6:p.kind=6
  ·have how:ownU vs p.kind p.c p.v=⟨[],[],[],[p.c]⟩:=by rw [h6];rfl
   rw [how] at hfo
   have hw:=hfo.o
   simp only [List.length_cons,List.length_nil] at hw
   have ho:u1=⟨u.r,u.w,u.i,u.o++[p.c]⟩:=by rw [hu1,how];simp [RU.add]
   refine e_ 15 rfl (x':=AB false) (ab_eq (beq_eq_false_iff_ne.2 h3)) ?_
   refine e_ 42 rfl (x':=AB false) (ab_eq (beq_eq_false_iff_ne.2 h5)) ?_
   refine e_ 57 rfl (x':=AB true) (ab_eq (beq_iff_eq.2 h6)) ?_
   refine A.drawL [(9, .row 1 z.o (u.o.map AI))] 10 [0,1,2,3,4,5,6,7,8,9] (fun i=>if i=9 then [9,8] else []) [] (AOut.perm (x:= .row 1 z.o (u.o.map AI))) rfl rfl (by rfl) (by kernel_rfl) (by kernel_rfl) ?_
   refine w_ ?_
   refine WA.lit rfl rfl rfl rfl rfl rfl rfl fun bw=>?_
   refine WA.appendR rfl rfl rfl rfl rfl rfl rfl rfl rfl rfl rfl rfl rfl rfl rfl rfl rfl rfl rfl rfl (.pub (j:=8) rfl rfl (.sub .refl)) (by show ((u.o.map AI).length+1)*1≤_;rw [List.length_map];omega) (by show ((u.o.map AI).length+1)*1*8≤_;rw [List.length_map];omega) fun z1=>?_
   refine WA.nil (l:=[_]) rfl ?_
   (repeat ((fail_if_success refine A.atB ?_);first|refine A.s rfl ?_|refine A.r rfl rfl ?_|refine A.w rfl rfl ?_|refine A.p rfl ?_|refine A.b rfl fun bx=>?_|refine A.t rfl fun bl=>?_))
   refine A.perm (perm_pick [2,3,4,5,0,1] rfl rfl rfl rfl) ?_
   refine A.entsEq (Λ':=colE b vs ⟨z.r,z.w,z.i,z1⟩ u1++[.box b0 (cellsR p)]) (by rw [ho];exact congrArg (· ++[_]) (colE_o (z:=z) (u:=u) (l:=[p.c]))) ?_
   exact A.sub su_ (tail _)
  have how:ownU vs p.kind p.c p.v= .nil:=by unfold ownU;rw [if_neg h3,if_neg h5,if_neg h6]
  refine e_ 15 rfl (x':=AB false) (ab_eq (beq_eq_false_iff_ne.2 h3)) ?_
  refine e_ 42 rfl (x':=AB false) (ab_eq (beq_eq_false_iff_ne.2 h5)) ?_
  refine A.valE 57 rfl (x':=AB false) (ab_eq (beq_eq_false_iff_ne.2 h6)) ?_
  (repeat ((fail_if_success refine A.atB ?_);first|refine A.s rfl ?_|refine A.r rfl rfl ?_|refine A.w rfl rfl ?_|refine A.p rfl ?_|refine A.b rfl fun bx=>?_|refine A.t rfl fun bl=>?_))
  refine A.perm (List.perm_append_singleton _ _).symm ?_
  refine A.entsEq (Λ':=colE b vs z u1++[.box b0 (cellsR p)]) (by rw [hu1,how,RU.add_nil]) ?_
  exact A.sub su_ (tail _)
 clear hfo hu1
 have hfp:=RU.fit_l hf
 refine y_ ?_
 refine A.valE 74 rfl (x':=AI (p.to.length:Nat)) (ai_eq (by rw [List.length_map])) ?_
 refine A.keep [0,3,73,74,75] rfl ?_
 refine A.loopP (ι:=Nat×Z4) (fun j=>(⟨[(0,PT b),(3,PT b0),(73,plsA p.to),(74,AI (p.to.length:Nat)),(75,AI (j.1:Nat))],[]⟩,colE b vs j.2 (u1.add (plsU vs (p.to.take j.1)))++[.box b0 (cellsR p)])) (fun j=>j.1≤p.to.length) (fun j=>p.to.length-j.1) (0,z1) (Nat.zero_le _) (by simp [plsU,RU.add_nil]) fun j hj ih=>?_
 obtain ⟨i,zi⟩:=j
 have htl:=ok.tl
 simp only at hj ih⊢
 refine y_ ?_
 refine k_ (fun hc=>?_) fun hc=>?_
 ·have hc':i<p.to.length:=by have:((i:Int)<p.to.length):=by simpa using hc
                             omega
  clear hc
  refine Exists.elim (at_exN (l:=p.to) (i:=i) hc') fun x hx=>?_
  have hcut:=cut_at hx
  have hfx:(u1.add (plsU vs (p.to.take i))).fit (plU vs x):=by
   have h1:=hfp
   rw [hcut,plsU_app,plsU_app] at h1
   have h2:=RU.fit_l (RU.fit_add.2 h1)
   rwa [plsU,plsU,RU.add_nil] at h2
  have hpl:=uplace_p b vs x (ok.to x (List.mem_of_getElem? hx)) zi (u1.add (plsU vs (p.to.take i))) hfx.r hfx.w
  rw [RU.add_assoc,show (plsU vs (p.to.take i)).add (plU vs x)=plsU vs (p.to.take (i+1)) by rw [take_step hx,plsU_app,plsU,plsU,RU.add_nil]] at hpl
  clear hcut hfx
  refine y_ ?_
  refine j_ rfl (map_at hx) rfl ?_
  (refine b_ fun bx=>?_;refine y_ ?_)
  refine A.perm (perm_pick [1,2,3,4,5,6,0] rfl rfl rfl rfl) ?_
  refine A.e rfl hpl .refl (Λ2:=[_,_]) (List.Perm.refl _) fun q _=>?_
  refine A.less (Λ':=colE b vs ((zi.setR q.1).setW q.2) (u1.add (plsU vs (p.to.take (i+1))))++[.box b0 (cellsR p)]) (by exact List.sublist_append_left _ [_]) ?_
  refine y_ ?_
  refine A.valE 75 rfl (x':=AI ((i+1:Nat):Int)) (inc_eq i (by omega)) ?_
  refine u_ (ih (i+1,(zi.setR q.1).setW q.2) (by show i+1≤_;omega) (by show p.to.length-(i+1)<p.to.length-i;omega))
 have hil:i=p.to.length:=by have: ¬((i:Int)<p.to.length):=by simpa using hc
                            omega
 clear hc ih hj htl hfp
 have hf:=RU.fit_add.2 hf
 refine Exists.elim (show∃u2,u2=u1.add (plsU vs p.to) from ⟨_,rfl⟩) fun u2 hu2=>?_
 refine A.entsEq (Λ':=colE b vs zi u2++[.box b0 (cellsR p)]) (by rw [hil,List.take_length,hu2]) ?_
 rw [←hu2] at hf
 clear hil
 have hfe:=(RU.fit_l hf).r
 simp only at hfe
 have hel:=ok.el
 refine y_ ?_
 refine A.valE 85 rfl (x':=AI (p.e.length:Nat)) (ai_eq (by rw [encKl_len])) ?_
 refine A.keep [0,3,84,85,86] rfl ?_
 refine A.loopP (ι:=Nat×Z4) (fun j=>(⟨[(0,PT b),(3,PT b0),(84,kesA p.e),(85,AI (p.e.length:Nat)),(86,AI (j.1:Nat))],[]⟩,colE b vs j.2 (u2.addR (rdKl vs (p.e.take j.1)))++[.box b0 (cellsR p)])) (fun j=>j.1≤p.e.length) (fun j=>p.e.length-j.1) (0,zi) (Nat.zero_le _) (by simp [rdKl]) fun j hj ih=>?_
 obtain ⟨i,zj⟩:=j
 simp only at hj ih⊢
 refine y_ ?_
 refine k_ (fun hc=>?_) fun hc=>?_
 ·have hc':i<p.e.length:=by have:((i:Int)<p.e.length):=by simpa using hc
                            omega
  clear hc
  refine Exists.elim (at_exN (l:=p.e) (i:=i) hc') fun x hx=>?_
  have hle:=rdKl_le (vs:=vs) hx
  have hpl:=expr_p b vs x (ok.e x (List.mem_of_getElem? hx)) zj (u2.addR (rdKl vs (p.e.take i))) (by simp only [List.length_append];omega)
  rw [show (u2.addR (rdKl vs (p.e.take i))).addR (rdK vs x)=u2.addR (rdKl vs (p.e.take (i+1))) by simp only [RU.addR,rdKl_take hx,List.append_assoc]] at hpl
  clear hle
  refine y_ ?_
  refine j_ rfl (encKl_at hx) (encK_eq x) ?_
  (refine b_ fun bx=>?_;refine y_ ?_)
  refine A.perm (perm_pick [1,2,3,4,5,6,0] rfl rfl rfl rfl) ?_
  refine A.e rfl hpl .refl (Λ2:=[_,_]) (List.Perm.refl _) fun q _=>?_
  refine A.less (Λ':=colE b vs (zj.setR q) (u2.addR (rdKl vs (p.e.take (i+1))))++[.box b0 (cellsR p)]) (by exact List.sublist_append_left _ [_]) ?_
  refine y_ ?_
  refine A.valE 86 rfl (x':=AI ((i+1:Nat):Int)) (inc_eq i (by omega)) ?_
  refine u_ (ih (i+1,zj.setR q) (by show i+1≤_;omega) (by show p.e.length-(i+1)<p.e.length-i;omega))
 have hil:i=p.e.length:=by have: ¬((i:Int)<p.e.length):=by simpa using hc
                           omega
 clear hc ih hj hel hfe
 have hf:=RU.fit_add.2 hf
 refine Exists.elim (show∃u3,u3=u2.add ⟨rdKl vs p.e,[],[],[]⟩ from ⟨_,rfl⟩) fun u3 hu3=>?_
 refine A.entsEq (Λ':=colE b vs zj u3++[.box b0 (cellsR p)]) (by rw [hil,List.take_length,hu3];simp only [RU.add,List.append_nil]) ?_
 rw [←hu3] at hf
 clear hil
 have hfl:=RU.fit_l hf
 have hll:=ok.ll
 refine y_ ?_
 refine A.valE 96 rfl (x':=AI (p.l.length:Nat)) (ai_eq (by rw [encRl_len])) ?_
 refine A.keep [0,3,95,96,97] rfl ?_
 refine A.loopP (ι:=Nat×Z4) (fun j=>(⟨[(0,PT b),(3,PT b0),(95,rsA p.l),(96,AI (p.l.length:Nat)),(97,AI (j.1:Nat))],[]⟩,colE b vs j.2 (u3.add (rawRl vs (p.l.take j.1)))++[.box b0 (cellsR p)])) (fun j=>j.1≤p.l.length) (fun j=>p.l.length-j.1) (0,zj) (Nat.zero_le _) (by simp [rawRl,RU.add_nil]) fun j hj ih=>?_
 obtain ⟨i,zk⟩:=j
 simp only at hj ih⊢
 refine y_ ?_
 refine k_ (fun hc=>?_) fun hc=>?_
 ·have hc':i<p.l.length:=by have:((i:Int)<p.l.length):=by simpa using hc
                            omega
  clear hc
  refine Exists.elim (at_exN (l:=p.l) (i:=i) hc') fun x hx=>?_
  have hfx:(u3.add (rawRl vs (p.l.take i))).fit (rawR vs x):=by
   have h1:=hfl
   rw [cut_at hx,rawRl_app,rawRl_app] at h1
   have h2:=RU.fit_l (RU.fit_add.2 h1)
   rwa [rawRl,rawRl,RU.add_nil] at h2
  have hpl:=hL x (List.mem_of_getElem? hx) zk (u3.add (rawRl vs (p.l.take i))) hfx
  rw [RU.add_assoc,show (rawRl vs (p.l.take i)).add (rawR vs x)=rawRl vs (p.l.take (i+1)) by rw [take_step hx,rawRl_app,rawRl,rawRl,RU.add_nil]] at hpl
  clear hfx
  refine y_ ?_
  refine j_ rfl (encRl_at hx) (encR_eq x) ?_
  (refine b_ fun bx=>?_;refine y_ ?_)
  refine A.perm (perm_pick [1,2,3,4,5,6,0] rfl rfl rfl rfl) ?_
  refine A.e rfl hpl .refl (Λ2:=[_,_]) (List.Perm.refl _) fun q _=>?_
  refine A.less (Λ':=colE b vs q (u3.add (rawRl vs (p.l.take (i+1))))++[.box b0 (cellsR p)]) (by exact List.sublist_append_left _ [_]) ?_
  refine y_ ?_
  refine A.valE 97 rfl (x':=AI ((i+1:Nat):Int)) (inc_eq i (by omega)) ?_
  refine u_ (ih (i+1,q) (by show i+1≤_;omega) (by show p.l.length-(i+1)<p.l.length-i;omega))
 have hil:i=p.l.length:=by have: ¬((i:Int)<p.l.length):=by simpa using hc
                           omega
 clear hc ih hj hll hfl
 have hf:=RU.fit_add.2 hf
 refine Exists.elim (show∃u4,u4=u3.add (rawRl vs p.l) from ⟨_,rfl⟩) fun u4 hu4=>?_
 refine A.entsEq (Λ':=colE b vs zk u4++[.box b0 (cellsR p)]) (by rw [hil,List.take_length,hu4]) ?_
 rw [←hu4] at hf
 clear hil
 have hgl:=ok.gl
 refine y_ ?_
 refine A.valE 107 rfl (x':=AI (p.gs.length:Nat)) (ai_eq (by rw [encGl_len])) ?_
 refine A.keep [0,106,107,108] rfl ?_
 refine A.less (Λ':=colE b vs zk u4) (by exact List.sublist_append_left _ [_]) ?_
 refine A.loopP (ι:=Nat×Z4) (fun j=>(⟨[(0,PT b),(106,gsA p.gs),(107,AI (p.gs.length:Nat)),(108,AI (j.1:Nat))],[]⟩,colE b vs j.2 (u4.add (rawGl vs (p.gs.take j.1))))) (fun j=>j.1≤p.gs.length) (fun j=>p.gs.length-j.1) (0,zk) (Nat.zero_le _) (by simp [rawGl,RU.add_nil]) fun j hj ih=>?_
 obtain ⟨i,zl⟩:=j
 simp only at hj ih⊢
 refine y_ ?_
 refine k_ (fun hc=>?_) fun hc=>?_
 rotate_left
 ·have hil:i=p.gs.length:=by have: ¬((i:Int)<p.gs.length):=by simpa using hc
                             omega
  clear hc ih hj hgl
  refine A.entsEq (Λ':=colE b vs zl (u1.add ((plsU vs p.to).add ((RU.mk (rdKl vs p.e) [] [] []).add ((rawRl vs p.l).add (rawGl vs p.gs)))))) (by rw [hil,List.take_length,hu4,hu3,hu2];simp only [RU.add_assoc]) ?_
  refine y_ ?_
  refine A.ret0 rfl rfl (List.Sublist.refl _) ⟨zl, .refl,rfl,trivial⟩
 have hc':i<p.gs.length:=by have:((i:Int)<p.gs.length):=by simpa using hc
                            omega
 clear hc
 refine Exists.elim (at_exN (l:=p.gs) (i:=i) hc') fun g hx=>?_
 have hgm:=List.mem_of_getElem? hx
 have hgk:=useG_all (ok.g g hgm)
 obtain ⟨y,yr,hyb⟩:=List.exists_cons_of_ne_nil hgk.ne
 have hy0:g.body[(0:Int).toNat]? =some y:=by rw [hyb];rfl
 have hfx:(u4.add (rawGl vs (p.gs.take i))).fit (rawG vs g):=by
  have h1:=hf
  rw [cut_at hx,rawGl_app,rawGl_app] at h1
  have h2:=RU.fit_l (RU.fit_add.2 h1)
  rwa [rawGl,rawGl,RU.add_nil] at h2
 have hend:(u4.add (rawGl vs (p.gs.take i))).add (rawG vs g)=u4.add (rawGl vs (p.gs.take (i+1))):=by
  rw [RU.add_assoc,take_step hx,rawGl_app,rawGl,rawGl,RU.add_nil]
 have hrb:rawB vs g.body=rawR vs y:=by rw [hyb,rawB]
 rw [rawG_eq,hrb,gdU] at hfx hend
 refine Exists.elim (show∃v0,v0=u4.add (rawGl vs (p.gs.take i)) from ⟨_,rfl⟩) fun v0 hv0=>?_
 refine A.entsEq (Λ':=colE b vs zl v0) (by rw [hv0]) ?_
 rw [←hv0] at hfx hend
 rw [RU.add_assoc,←RU.add_assoc v0] at hend
 rw [RU.add_assoc] at hfx
 have hfc:=(RU.fit_l hfx).r
 simp only at hfc
 have hfx:=RU.fit_add.2 hfx
 refine Exists.elim (show∃v1,v1=v0.add ⟨rdK vs g.cond,[],[],[]⟩ from ⟨_,rfl⟩) fun v1 hv1=>?_
 rw [←hv1] at hfx hend
 clear hv0 hj
 have hpl:=expr_p b vs g.cond hgk.cond zl v0 hfc
 rw [show v0.addR (rdK vs g.cond)=v1 by rw [hv1];simp only [RU.addR,RU.add,List.append_nil]] at hpl
 clear hv1 hfc
 refine y_ ?_
 refine j_ rfl (encGl_at hx) (encG_eq g) ?_
 (refine b_ fun bx=>?_;refine y_ ?_)
 refine A.perm (List.perm_append_singleton _ _).symm ?_
 refine A.e rfl hpl .refl (Λ2:=[_]) (List.Perm.refl _) fun q _=>?_
 clear hpl
 refine y_ ?_
 revert bx
 intro bg
 rw [←RU.add_assoc v1] at hend
 have hf2:=RU.fit_add.2 hfx
 have hfx:=RU.fit_l hfx
 refine Exists.elim (show∃v2,v2=v1.add (if g.kind=4 then ⟨rdK vs g.time,[],[],[]⟩ else if g.kind=3 then (RU.mk [] [] [g.c] []).add (plU vs g.to) else .nil) from ⟨_,rfl⟩) fun v2 hv2=>?_
 rw [←hv2] at hend hf2
 refine A.join (ι:=Z4) ⟨[(0,PT b),(12,PT bg),(106,gsA p.gs),(107,AI (p.gs.length:Nat)),(108,AI (i:Nat))],[]⟩ (fun z2=>colE b vs z2 v2++[.box bg (cellsG g)]) (fun z2=>?_) (fun tail=>?_)
 ·have hpl:=hG g hgm y (by rw [hyb];exact List.mem_cons_self ..) z2 v2 hf2
  rw [hend] at hpl
  clear hend hf2 hfx hv2
  refine y_ ?_
  refine i_ rfl (encRl_at hy0) (encR_eq y) ?_
  refine A.e rfl hpl .refl (Λ2:=[_]) (List.Perm.refl _) fun q2 _=>?_
  refine A.less (List.sublist_append_left _ _) ?_
  refine y_ ?_
  refine A.valE 108 rfl (x':=AI ((i+1:Nat):Int)) (inc_eq i (by omega)) ?_
  refine u_ (ih (i+1,q2) (by show i+1≤_;omega) (by show p.gs.length-(i+1)<p.gs.length-i;omega))
 clear hend hf2 ih
 by_cases h4:g.kind=4
 ·rw [if_pos h4] at hfx hv2
  have hpl:=expr_p b vs g.time (hgk.time h4) (zl.setR q) v1 hfx.r
  rw [show v1.addR (rdK vs g.time)=v2 by rw [hv2];simp only [RU.addR,RU.add,List.append_nil]] at hpl
  refine e_ 118 rfl (x':=AB true) (ab_eq (beq_iff_eq.2 h4)) ?_
  refine A.e rfl hpl .refl (Λ2:=[_]) (List.Perm.refl _) fun q2 _=>?_
  (repeat ((fail_if_success refine A.atB ?_);first|refine A.s rfl ?_|refine A.r rfl rfl ?_|refine A.w rfl rfl ?_|refine A.p rfl ?_|refine A.b rfl fun bx=>?_|refine A.t rfl fun bl=>?_))
  exact A.sub su_ (tail _)
 by_cases h3:g.kind=3
 ·rw [if_neg h4,if_pos h3] at hfx hv2
  rw [←RU.add_assoc] at hv2
  have hf3:=RU.fit_add.2 hfx
  have hfi:=(RU.fit_l hfx).i
  simp only [List.length_cons,List.length_nil] at hfi
  have ho:v1.add ⟨[],[],[g.c],[]⟩=⟨v1.r,v1.w,v1.i++[g.c],v1.o⟩:=by simp [RU.add]
  rw [ho] at hv2 hf3
  refine e_ 118 rfl (x':=AB false) (ab_eq (beq_eq_false_iff_ne.2 h4)) ?_
  refine e_ 124 rfl (x':=AB true) (ab_eq (beq_iff_eq.2 h3)) ?_
  refine A.drawL [(9, .row 1 zl.i (v1.i.map AI))] 10 [0,1,2,3,4,5,6,7,8,9] (fun i=>if i=9 then [9,8] else []) [] (AOut.perm (x:= .row 1 zl.i (v1.i.map AI))) rfl rfl (by rfl) (by kernel_rfl) (by kernel_rfl) ?_
  refine w_ ?_
  refine WA.lit rfl rfl rfl rfl rfl rfl rfl fun bw=>?_
  refine WA.appendR rfl rfl rfl rfl rfl rfl rfl rfl rfl rfl rfl rfl rfl rfl rfl rfl rfl rfl rfl rfl (.pub (j:=8) rfl rfl (.sub .refl)) (by show ((v1.i.map AI).length+1)*1≤_;rw [List.length_map];omega) (by show ((v1.i.map AI).length+1)*1*8≤_;rw [List.length_map];omega) fun z3=>?_
  refine WA.nil (l:=[_]) rfl ?_
  refine y_ ?_
  refine A.perm (perm_pick [1,2,3,0,4,5] rfl rfl rfl rfl) ?_
  refine A.entsEq (Λ':=colE b vs ⟨q,zl.w,z3,zl.o⟩ ⟨v1.r,v1.w,v1.i++[g.c],v1.o⟩++[.box bg (cellsG g)]) (by exact congrArg (· ++[AEnt.box bg (cellsG g)]) (colE_i (z:=zl.setR q) (u:=v1) (l:=[g.c]))) ?_
  have hpl:=uplace_p b vs g.to (hgk.to h3) ⟨q,zl.w,z3,zl.o⟩ ⟨v1.r,v1.w,v1.i++[g.c],v1.o⟩ hf3.r hf3.w
  rw [←hv2] at hpl
  refine A.e rfl hpl .refl (Λ2:=[_]) (List.Perm.refl _) fun q2 _=>?_
  (repeat ((fail_if_success refine A.atB ?_);first|refine A.s rfl ?_|refine A.r rfl rfl ?_|refine A.w rfl rfl ?_|refine A.p rfl ?_|refine A.b rfl fun bx=>?_|refine A.t rfl fun bl=>?_))
  exact A.sub su_ (tail _)
 rw [if_neg h4,if_neg h3,RU.add_nil] at hv2
 refine e_ 118 rfl (x':=AB false) (ab_eq (beq_eq_false_iff_ne.2 h4)) ?_
 refine A.valE 124 rfl (x':=AB false) (ab_eq (beq_eq_false_iff_ne.2 h3)) ?_
 (repeat ((fail_if_success refine A.atB ?_);first|refine A.s rfl ?_|refine A.r rfl rfl ?_|refine A.w rfl rfl ?_|refine A.p rfl ?_|refine A.b rfl fun bx=>?_|refine A.t rfl fun bl=>?_))
 refine A.entsEq (Λ':=colE b vs (zl.setR q) v2++[.box bg (cellsG g)]) (by rw [hv2];rfl) ?_
 exact A.sub su_ (tail _)
theorem uproc_n(b:Nat)(vs:List KV): ∀(m:Nat) (p:PR),SizeOf.sizeOf p≤m→useR vs p→ ∀(z:Z4) (u:RU),u.fit (rawR vs p)→
 FunE Tryz.prog gs0 60 [PT b,cellsR p] (colE b vs z u) (fun _:Z4=> .tp []) (fun z'=>colE b vs z' (u.add (rawR vs p))) (fun _=>True)
 |0,p,h,_,_,_,_=>by obtain ⟨k,c,v,i,to,e,gs,l⟩:=p;simp at h
 |m+1,p,h,ok,z,u,hf=>by
  have okp:=useR_all ok
  refine uproc_a b vs p okp (fun x hx z u hf=>?_) (fun g hg x hx z u hf=>?_) z u hf
  ·refine uproc_n b vs m x ?_ (okp.l x hx) z u hf
   have h1:=List.sizeOf_lt_of_mem hx
   obtain ⟨k,c,v,i,to,e,gs,l⟩:=p
   simp only [PR.mk.sizeOf_spec,PR.l] at h h1
   omega
  ·refine uproc_n b vs m x ?_ ((useG_all (okp.g g hg)).body x hx) z u hf
   have h1:=List.sizeOf_lt_of_mem hx
   have h2:=List.sizeOf_lt_of_mem hg
   obtain ⟨k,c,v,i,to,e,gs,l⟩:=p
   obtain ⟨k',e',c',i',to',t',b'⟩:=g
   simp only [PR.mk.sizeOf_spec,PR.gs,GD.mk.sizeOf_spec,GD.body] at h h1 h2
   omega
abbrev elsA(l:List EL):AV:= .sl 2 (l.map encE) none
abbrev uA(u:RU):AV:= .ag [elsA u.r,elsA u.w,intsA u.i,intsA u.o]
section
variable{K:AC}{k:List It}{E:AEnv}{Λ:List AEnt}
theorem A.nilRow(sz:Nat)(next:A K k E (.row sz (.slice none 0 0) []::Λ)):A K k E Λ:=by
 refine ⟨fun h e L hl r q=>?_⟩
 have hr0: ∃p,RpRow h sz (.slice none 0 0) [] p∧[(⟨0,0,[],none⟩:Ent)]=[p]:=⟨⟨0,0,[],none⟩,⟨none,0,[],rfl,Nat.zero_le _,⟨(by rw [RpC_nil]),(fun z hz=>by cases hz),(fun z hz=>by cases hz)⟩,rfl, .inl ⟨rfl,rfl,rfl,fun y hy=>by cases hy⟩⟩,rfl⟩
 exact V.empty (next.run h e (⟨0,0,[],none⟩::L) hl r (.one hr0 q))
theorem nil_ms{h:GH}(sz:Nat){y:Value}(r:Rp h (.v (.slice none 0 0)) y):Rp h (.ms (.slice none 0 0) sz 0) y:=by
 rw [Rp_v] at r;rw [r.1,Rp_ms]
 exact ⟨rfl,none,0,rfl⟩
theorem Rp_ag_imp'{h:GH}{l l':List AV}(hi: ∀vs,RpC h l vs→RpC h l' vs){y:Value}(r:Rp h (.ag l) y):Rp h (.ag l') y:=by
 rw [Rp_ag] at r⊢
 obtain ⟨cs,e,q⟩:=r
 exact ⟨cs,e,hi _ q⟩
end
abbrev nilZ:Z4:=⟨.slice none 0 0, .slice none 0 0, .slice none 0 0, .slice none 0 0⟩
theorem col_nil{h:GH}(vs:List KV)(y:Value)(r:Rp h (.ag (vsA vs::[Value.slice none 0 0,Value.slice none 0 0,Value.slice none 0 0,Value.slice none 0 0].map AV.v)) y):Rp h (.ag (colC vs nilZ .nil)) y:=
 Rp_ag_imp' (RpC_imp (fun _ q=>q) (RpC_imp (fun _ q=>nil_ms 2 q) (RpC_imp (fun _ q=>nil_ms 2 q) (RpC_imp (fun _ q=>nil_ms 1 q) (RpC_imp (fun _ q=>nil_ms 1 q) fun _ q=>q))))) r
theorem uof_p(vs:List KV)(p:PR)(ok:useR vs p)(hf:RU.nil.fit (rawR vs p)):Pure Tryz.prog gs0 36 [vsA vs,cellsR p] (uA (usesM vs p)):=by
 refine Exists.elim (show∃u,u=rawR vs p from ⟨_,rfl⟩) fun u hu=>?_
 have hp: ∀b,FunE Tryz.prog gs0 60 [PT b,cellsR p] (colE b vs nilZ .nil) (fun _:Z4=> .tp []) (fun z'=>colE b vs z' u) (fun _=>True):=fun b=>by
  have:=uproc_n b vs _ p (Nat.le_refl _) ok nilZ .nil hf
  rwa [RU.nil_add,←hu] at this
 have hM:usesM vs p=canU u:=by rw [hu];rfl
 rw [hM]
 obtain ⟨fr,fw,fi,fo⟩:=hf
 rw [←hu] at fr fw fi fo
 simp only [RU.nil,List.length_nil,Nat.zero_add] at fr fw fi fo
 clear hu hM
 refine p_ tt_ok Tryz.func36 56 fun w0 h0 F hgs=>?_
 (refine b_ fun bx=>?_;refine b_ fun bx=>?_;refine b_ fun bx=>?_;refine y_ ?_)
 refine A.boxAs (List.Perm.refl _) (fun h y r=>col_nil vs y r) ?_
 refine A.nilRow 1 ?_
 refine A.nilRow 1 ?_
 refine A.nilRow 2 ?_
 refine A.nilRow 2 ?_
 refine A.perm (perm_pick [4,0,1,2,3,5,6] rfl rfl rfl rfl) ?_
 refine A.e rfl (hp _) .refl (Λ2:=[_,_]) (List.Perm.refl _) fun z _=>?_
 refine y_ ?_
 refine A.drawL [(14,colB bx vs z u),(7, .row 2 z.r (u.r.map encE)),(13, .row 2 z.w (u.w.map encE))] 18 [0,1,2,3,4,5,6,8,9,10,11,12,7,13,14,15,16,17] (fun i=>if i=7 then [7] else if i=13 then [13] else if i=6 then [14] else if i=12 then [14] else if i=17 then [14] else []) [] (List.Perm.refl _) rfl rfl (by rfl) (by kernel_rfl) (by kernel_rfl) ?_
 refine w_ ?_
 refine WA.loadD rfl rfl rfl rfl rfl rfl rfl rfl rfl ?_
 refine w_ ?_
 refine WA.loadD rfl rfl rfl rfl rfl rfl rfl rfl rfl ?_
 refine WA.callR rfl rfl rfl rfl rfl rfl rfl rfl rfl (sortedE_p z.r u.r.length u.r fr) .refl fun z1 _=>?_
 refine WA.callR rfl rfl rfl rfl rfl rfl rfl rfl rfl (sortedE_p z.w u.w.length u.w fw) .refl fun z2 _=>?_
 refine w_ ?_
 refine WA.store rfl rfl rfl rfl rfl rfl rfl rfl rfl rfl ?_
 refine WA.nil (l:=[_,_,_]) rfl ?_
 refine y_ ?_
 refine A.drawL [(14, .box bx (.ag [vsA vs, .ms z1 2 (canE u.r).length, .ms z2 2 (canE u.w).length, .ms z.i 1 u.i.length, .ms z.o 1 u.o.length])),(7, .row 1 z.i (u.i.map AI)),(13, .row 1 z.o (u.o.map AI))] 18 [0,1,2,3,4,5,6,8,9,10,11,12,7,13,14,15,16,17] (fun i=>if i=7 then [7] else if i=13 then [13] else if i=6 then [14] else if i=12 then [14] else if i=17 then [14] else []) [] (perm_pick [2,3,4,0,1,5,6] rfl rfl rfl rfl) rfl rfl (by rfl) (by kernel_rfl) (by kernel_rfl) ?_
 refine w_ ?_
 refine WA.loadD rfl rfl rfl rfl rfl rfl rfl rfl rfl ?_
 refine w_ ?_
 refine WA.loadD rfl rfl rfl rfl rfl rfl rfl rfl rfl ?_
 refine WA.callR rfl rfl rfl rfl rfl rfl rfl rfl rfl (sortedI_p z.i u.i.length u.i fi) .refl fun z3 _=>?_
 refine WA.callR rfl rfl rfl rfl rfl rfl rfl rfl rfl (sortedI_p z.o u.o.length u.o fo) .refl fun z4 _=>?_
 refine w_ ?_
 refine WA.store rfl rfl rfl rfl rfl rfl rfl rfl rfl rfl ?_
 refine WA.nil (l:=[_,_,_]) rfl ?_
 refine y_ ?_
 refine A.freezeRowV 4 z1 (x':= .ag [elsA (canE u.r), .ms z2 2 _, .ms z3 1 _, .ms z4 1 _]) rfl fz_ ?_
 refine A.freezeRowV 4 z2 (x':= .ag [elsA (canE u.r),elsA (canE u.w), .ms z3 1 _, .ms z4 1 _]) rfl fz_ ?_
 refine A.freezeRowV 4 z3 (x':= .ag [elsA (canE u.r),elsA (canE u.w),intsA (canI u.i), .ms z4 1 _]) rfl fz_ ?_
 refine A.freezeRowV 4 z4 (x':= .ag [elsA (canE u.r),elsA (canE u.w),intsA (canI u.i),intsA (canI u.o)]) rfl fz_ ?_
 refine A.retC (Λ':=[]) rfl rfl rfl rfl rfl (List.nil_sublist _) ⟨?_,rfl⟩
 exact s_
theorem rdKl_cons1(vs:List KV)(a:KE):rdKl vs [a]=rdK vs a:=by simp [rdKl]
theorem rdKl_cons2(vs:List KV)(a b:KE):rdKl vs [a,b]=rdK vs a++rdK vs b:=by simp [rdKl]
theorem own_1(vs:List KV)(n:Int):ownK vs ⟨1,0,0,n,0,[]⟩=[]:=rfl
theorem own_2(vs:List KV)(v:Int):ownK vs ⟨2,0,0,0,v,[]⟩=[(v,0)]:=rfl
theorem own_3(vs:List KV)(v:Int)(a:KE):ownK vs ⟨3,0,0,0,v,[a]⟩=[elemM vs v a]:=rfl
theorem own_4(vs:List KV)(o:Int)(a:KE):ownK vs ⟨4,o,0,0,0,[a]⟩=[]:=rfl
theorem own_5(vs:List KV)(o:Int)(a b:KE):ownK vs ⟨5,o,0,0,0,[a,b]⟩=[]:=rfl
theorem own_6(vs:List KV)(t:Int)(a:KE):ownK vs ⟨6,0,t,0,0,[a]⟩=[]:=rfl
theorem fits_ok(vs:List KV): ∀(N:Nat) (e:KE) (kind:Int),ht e≤N→fine e=true→wfK e→fitsM vs e kind=true→okK vs e∧(rdK vs e).length≤sz e
 |0,e,_,h,_,_,_=>by obtain ⟨k,o,t,n,v,l⟩:=e;simp [ht] at h
 |N+1,e,kind,h,hf,hw,hm=>by
  rcases fine_cases hf with ⟨n,rfl⟩|⟨v,h1,h2,rfl⟩|⟨v,a,h1,h2,ha,rfl⟩|⟨o,a,h1,h2,ha,rfl⟩|⟨o,a,b,h1,h2,ha,hb,rfl⟩|⟨t,a,h1,h2,ha,rfl⟩
  ·simp only [wfK,wfKl] at hw
   exact ⟨by simp [okK,okKl];exact hw.1.2.2.2.1,by rw [rdK_eq,own_1];simp [rdKl,sz,szl,KE.l]⟩
  ·simp only [wfK,wfKl] at hw
   exact ⟨by simp [okK,okKl];exact hw.1.2.2.2.1,by rw [rdK_eq,own_2];simp [rdKl,sz,szl,KE.l]⟩
  ·simp only [wfK,wfKl] at hw
   have hx: ∃x,vs[v.toNat]? =some x∧fitsM vs a 1=true:=by
    simp only [fitsM,fitsL,fitC] at hm
    cases hv:vs[v.toNat]? with
    |none=>rw [hv] at hm;simp at hm
    |some x=>rw [hv] at hm;simp at hm;exact ⟨x,rfl,hm.2⟩
   obtain ⟨x,hx,hj⟩:=hx
   have hlt:v.toNat<vs.length:=(List.getElem?_eq_some_iff.1 hx).1
   obtain ⟨r1,r2⟩:=fits_ok vs N a 1 (by simp only [ht,htl] at h;omega) ha hw.2.1 hj
   refine ⟨?_,?_⟩
   ·simp only [okK,okKl,List.length_cons,List.length_nil]
    exact ⟨⟨fun _=>⟨h1,by omega,by simp⟩,by omega,hw.1.2.2.2.1⟩,r1,trivial⟩
   ·rw [rdK_eq,own_3]
    simp only [rdKl_cons1,List.length_append,sz,szl,KE.l,List.length_cons,List.length_nil]
    omega
  ·simp only [wfK,wfKl] at hw
   have hk: ∃j,fitsM vs a j=true:=by
    simp only [fitsM,fitsL,fitC] at hm
    by_cases c:o=26
    ·simp [c] at hm;exact ⟨3,hm.2⟩
    ·simp [c] at hm;exact ⟨1,hm.2⟩
   obtain ⟨j,hj⟩:=hk
   obtain ⟨r1,r2⟩:=fits_ok vs N a j (by simp only [ht,htl] at h;omega) ha hw.2.1 hj
   refine ⟨?_,?_⟩
   ·simp only [okK,okKl,List.length_cons,List.length_nil]
    exact ⟨⟨fun h=>by omega,by omega,hw.1.2.2.2.1⟩,r1,trivial⟩
   ·rw [rdK_eq,own_4]
    simp only [rdKl_cons1,List.length_append,sz,szl,KE.l,List.length_cons,List.length_nil]
    omega
  ·simp only [wfK,wfKl] at hw
   have hk: ∃j,fitsM vs a j=true∧fitsM vs b j=true:=by
    simp only [fitsM,fitsL,fitC] at hm
    by_cases c1:o≤13
    ·simp [c1] at hm;exact ⟨1,hm.2⟩
    ·by_cases c2:kind=3
     ·by_cases c3:o=14∨o=15
      ·simp [c1,c2,c3] at hm
       rcases hm with (hm|hm)|hm
       ·exact ⟨1,hm⟩
       ·exact ⟨2,hm⟩
       ·exact ⟨3,hm⟩
      ·by_cases c4:o≤19
       ·simp [c1,c2,c3,c4] at hm
        rcases hm with hm|hm
        ·exact ⟨1,hm⟩
        ·exact ⟨2,hm⟩
       ·by_cases c5:o=22
        ·simp [c1,c2,c3,c4,c5] at hm;exact ⟨1,hm⟩
        ·simp [c1,c2,c3,c4,c5] at hm;exact ⟨3,hm⟩
     ·simp [c1,c2] at hm
   obtain ⟨j,hj1,hj2⟩:=hk
   obtain ⟨r1,r2⟩:=fits_ok vs N a j (by simp only [ht,htl] at h;omega) ha hw.2.1 hj1
   obtain ⟨s1,s2⟩:=fits_ok vs N b j (by simp only [ht,htl] at h;omega) hb hw.2.2.1 hj2
   refine ⟨?_,?_⟩
   ·simp only [okK,okKl,List.length_cons,List.length_nil]
    exact ⟨⟨fun h=>by omega,by omega,hw.1.2.2.2.1⟩,r1,s1,trivial⟩
   ·rw [rdK_eq,own_5]
    simp only [rdKl_cons2,List.length_append,sz,szl,KE.l,List.length_cons,List.length_nil]
    omega
  ·simp only [wfK,wfKl] at hw
   have hk: ∃j,fitsM vs a j=true:=by
    simp only [fitsM,fitsL,fitC] at hm
    simp at hm
    rcases hm.2 with (hm|hm)|hm
    ·exact ⟨1,hm⟩
    ·exact ⟨2,hm⟩
    ·exact ⟨3,hm⟩
   obtain ⟨j,hj⟩:=hk
   obtain ⟨r1,r2⟩:=fits_ok vs N a j (by simp only [ht,htl] at h;omega) ha hw.2.1 hj
   refine ⟨?_,?_⟩
   ·simp only [okK,okKl,List.length_cons,List.length_nil]
    exact ⟨⟨fun h=>by omega,by omega,hw.1.2.2.2.1⟩,r1,trivial⟩
   ·rw [rdK_eq,own_6]
    simp only [rdKl_cons1,List.length_append,sz,szl,KE.l,List.length_cons,List.length_nil]
    omega
theorem fitV_ok{vs:List KV}{e:KE}{k:Int}(h:fitV vs e k=true)(hw:wfK e):okK vs e∧(rdK vs e).length≤256:=by
 simp only [fitV,Bool.and_eq_true,decide_eq_true_eq] at h
 obtain ⟨h1,h4⟩:=h
 obtain ⟨h3,h1,h2⟩:fits e 256 32:=by first|exact h1|simpa using h1
 obtain ⟨r1,r2⟩:=fits_ok vs _ e k (Nat.le_refl _) h3 hw h4
 exact ⟨r1,by omega⟩
theorem placeB_ok{vs:List KV}{p:PL}{k:Int}(h:placeB vs p k=true)(hw:wfPl p):OkP vs p∧(rdKl vs p.ix).length≤256:=by
 obtain ⟨v,ix⟩:=p
 unfold placeB at h
 simp only at h
 split at h
 ·cases h
 ·rename_i hv
  split at h
  ·rename_i x hx
   simp only [Bool.and_eq_true] at h
   have hi:=h.2
   split at hi
   ·have:ix=[]:=List.length_eq_zero_iff.1 (by simpa using hi)
    subst this
    exact ⟨⟨by simp,fun h=>(h rfl).elim,fun x hx=>by cases hx⟩,by simp [rdKl]⟩
   ·simp only [Bool.and_eq_true,beq_iff_eq] at hi
    match ix,hi with
    | [a],hi=>
      simp only [fit1] at hi
      simp only [wfPl,wfKl] at hw
      obtain ⟨r1,r2⟩:=fitV_ok hi.2 hw.1
      exact ⟨⟨by simp,fun _=>by simp only;omega,fun x hx=>by rw [List.mem_singleton.1 hx];exact r1⟩,by rw [rdKl_cons1];exact r2⟩
  ·cases h
structure RU.le(u:RU)(n:Nat):Prop where
 r:u.r.length≤n
 w:u.w.length≤n
 i:u.i.length≤n
 o:u.o.length≤n
theorem RU.le_add{u v:RU}{a b c:Nat}(h:u.le a)(k:v.le b)(hc:a+b≤c):(u.add v).le c:=by
 obtain ⟨h1,h2,h3,h4⟩:=h
 obtain ⟨k1,k2,k3,k4⟩:=k
 exact ⟨by simp only [RU.add,List.length_append];omega,by simp only [RU.add,List.length_append];omega,by simp only [RU.add,List.length_append];omega,by simp only [RU.add,List.length_append];omega⟩
theorem RU.le_nil{n:Nat}:RU.nil.le n:=⟨by simp [RU.nil],by simp [RU.nil],by simp [RU.nil],by simp [RU.nil]⟩
theorem RU.le_rd{l:List EL}{n:Nat}(h:l.length≤n):(RU.mk l [] [] []).le n:=⟨h,by simp,by simp,by simp⟩
theorem plsU_le{vs:List KV}: ∀{l:List PL},(∀t,t∈l→(rdKl vs t.ix).length≤256)→(plsU vs l).le (256*l.length)
 | [],_=>RU.le_nil
 |x::r,h=>by
  rw [plsU]
  refine RU.le_add (a:=256) (b:=256*r.length) ⟨h x (List.mem_cons_self ..),by simp [plU],by simp [plU],by simp [plU]⟩ (plsU_le fun t ht=>h t (List.mem_cons_of_mem _ ht)) ?_
  simp only [List.length_cons];omega
theorem rdKl_len{vs:List KV}: ∀{l:List KE},(∀t,t∈l→(rdK vs t).length≤256)→(rdKl vs l).length≤256*l.length
 | [],_=>by simp [rdKl]
 |x::r,h=>by
  rw [rdKl,List.length_append]
  have:=h x (List.mem_cons_self ..)
  have:=rdKl_len fun t ht=>h t (List.mem_cons_of_mem _ ht)
  simp only [List.length_cons];omega
structure NodeK(vs:List KV)(n:Nat)(p:PR):Prop where
 v:p.kind=3→0≤p.v∧p.v<vs.length
 to: ∀t,t∈p.to→ ∃k,placeB vs t k=true
 e: ∀x,x∈p.e→ ∃k,fitV vs x k=true
 tl:p.to.length≤8
 el:p.e.length≤8
 gl:p.gs.length≤16
 ll:p.l.length≤2048
 g: ∀g,g∈p.gs→ ∃c,guardB vs n g c=true
 one:p.gs=[]∨p.l=[]
theorem inB_iff{n:Nat}{a b:Int}:inB n a b=true↔a≤n∧(n:Int)≤b:=by simp [inB]
theorem shape_len{p:PR}{ch v:Bool}{t1 t2 e1 e2 g1 g2 l1 l2:Int}(h:shapeR p ch v t1 t2 e1 e2 g1 g2 l1 l2=true):(p.to.length:Int)≤t2∧(p.e.length:Int)≤e2∧(p.gs.length:Int)≤g2∧(p.l.length:Int)≤l2:=by
 simp only [shapeR,Bool.and_eq_true,inB_iff] at h
 exact ⟨h.1.1.1.2.2,h.1.1.2.2,h.1.2.2,h.2.2⟩
theorem nil_of{α:Type}{l:List α}(h:(l.length:Int)≤0):l=[]:=List.length_eq_zero_iff.1 (by omega)
theorem zip_l{α β:Type}: ∀{a:List α} {b:List β},a.length=b.length→ ∀x,x∈a→ ∃y,(x,y)∈a.zip b
 | [],_,_,x,h=>by cases h
 |y::a,[],h,_,_=>by simp at h
 |y::a,z::b,h,x,hx=>by
  rcases List.mem_cons.1 hx with rfl|hx
  ·exact ⟨z,by simp⟩
  ·obtain ⟨w,hw⟩:=zip_l (a:=a) (b:=b) (by simpa using h) x hx
   exact ⟨w,by simp [hw]⟩
theorem zip_r{α β:Type}: ∀{a:List α} {b:List β},a.length=b.length→ ∀y,y∈b→ ∃x,(x,y)∈a.zip b
 | [],[],_,x,h=>by cases h
 | [],z::b,h,_,_=>by simp at h
 |y::a,[],h,_,hx=>by cases hx
 |y::a,z::b,h,x,hx=>by
  rcases List.mem_cons.1 hx with rfl|hx
  ·exact ⟨y,by simp⟩
  ·obtain ⟨w,hw⟩:=zip_r (a:=a) (b:=b) (by simpa using h) x hx
   exact ⟨w,by simp [hw]⟩
theorem fit1_all{vs:List KV}{l:List KE}{k:Int}(h:fit1 vs l k=true)(hl:(l.length:Int)≤1): ∀x,x∈l→ ∃k,fitV vs x k=true:=by
 match l,h,hl with
 | [a],h,_=>exact fun x hx=>⟨k,by rw [List.mem_singleton.1 hx];exact h⟩
 |a::b::r,_,hl=>simp only [List.length_cons] at hl;omega
theorem to1_all{f:PL→Bool}{l:List PL}(h:to1 f l=true)(hl:(l.length:Int)≤1): ∀x,x∈l→f x=true:=by
 match l,h,hl with
 | [a],h,_=>exact fun x hx=>by rw [List.mem_singleton.1 hx];exact h
 |a::b::r,_,hl=>simp only [List.length_cons] at hl;omega
theorem kind_node{vs:List KV}{n:Nat}{p:PR}(h:kindB vs n p=true):NodeK vs n p:=by
 have mt: ∀{k:Nat} {l:List PL},(l.length:Int)≤0→ ∀t,t∈l→ ∃k,placeB vs t k=true:=fun h t ht=>by rw [nil_of h] at ht;cases ht
 have me: ∀{l:List KE},(l.length:Int)≤0→ ∀t,t∈l→ ∃k,fitV vs t k=true:=fun h t ht=>by rw [nil_of h] at ht;cases ht
 have mg: ∀{l:List GD},(l.length:Int)≤0→ ∀t,t∈l→ ∃c,guardB vs n t c=true:=fun h t ht=>by rw [nil_of h] at ht;cases ht
 unfold kindB at h
 by_cases c0:p.kind=1∨p.kind=2
 ·rw [if_pos c0] at h
  obtain ⟨h1,h2,h3,h4⟩:=shape_len h
  exact ⟨fun hk=>by omega,mt (k:=0) h1,me h2,by omega,by omega,by omega,by omega,mg h3, .inl (nil_of h3)⟩
 rw [if_neg c0] at h
 by_cases c1:p.kind=3
 ·rw [if_pos c1] at h
  simp only [Bool.and_eq_true,decide_eq_true_eq] at h
  obtain ⟨h1,h2,h3,h4⟩:=shape_len h.1.1
  exact ⟨fun hk=>⟨h.1.2,h.2⟩,mt (k:=0) h1,me h2,by omega,by omega,by omega,by omega,mg h3, .inl (nil_of h3)⟩
 rw [if_neg c1] at h
 by_cases c2:p.kind=4
 ·rw [if_pos c2] at h
  simp only [Bool.and_eq_true,beq_iff_eq,List.all_eq_true] at h
  obtain ⟨⟨h0,hl⟩,ha⟩:=h
  obtain ⟨h1,h2,h3,h4⟩:=shape_len h0
  have hat: ∀t x,(t,x)∈p.to.zip p.e→(∃k,placeB vs t k=true)∧ ∃k,fitV vs x k=true:=fun t x hx=>by
   have:=ha _ hx
   unfold assignB at this
   simp only at this
   split at this
   ·cases this
   ·split at this
    ·simp only [Bool.and_eq_true] at this
     exact ⟨⟨_,this.1⟩,⟨_,this.2⟩⟩
    ·cases this
  exact ⟨fun hk=>by omega,fun t ht=>by obtain ⟨y,hy⟩:=zip_l hl t ht;exact (hat _ _ hy).1,fun x hx=>by obtain ⟨y,hy⟩:=zip_r hl x hx;exact (hat _ _ hy).2,
   by omega,by omega,by omega,by omega,mg h3, .inl (nil_of h3)⟩
 rw [if_neg c2] at h
 by_cases c3:p.kind=5
 ·rw [if_pos c3] at h
  simp only [Bool.and_eq_true] at h
  obtain ⟨h1,h2,h3,h4⟩:=shape_len h.1
  refine ⟨fun hk=>by omega,fun t ht=>?_,me h2,by omega,by omega,by omega,by omega,mg h3, .inl (nil_of h3)⟩
  have:=to1_all h.2 h1 t ht
  simp only [inputB,Bool.and_eq_true] at this
  exact ⟨_,this.2⟩
 rw [if_neg c3] at h
 by_cases c4:p.kind=6
 ·rw [if_pos c4] at h
  simp only [Bool.and_eq_true] at h
  obtain ⟨h1,h2,h3,h4⟩:=shape_len h.1.1
  exact ⟨fun hk=>by omega,mt (k:=0) h1,fit1_all h.2 h2,by omega,by omega,by omega,by omega,mg h3, .inl (nil_of h3)⟩
 rw [if_neg c4] at h
 by_cases c5:p.kind=7
 ·rw [if_pos c5] at h
  simp only [Bool.and_eq_true] at h
  obtain ⟨h1,h2,h3,h4⟩:=shape_len h.1
  exact ⟨fun hk=>by omega,fun t ht=>⟨_,to1_all h.2 h1 t ht⟩,me h2,by omega,by omega,by omega,by omega,mg h3, .inl (nil_of h3)⟩
 rw [if_neg c5] at h
 by_cases c6:p.kind=8
 ·rw [if_pos c6] at h
  simp only [Bool.and_eq_true] at h
  obtain ⟨h1,h2,h3,h4⟩:=shape_len h.1
  exact ⟨fun hk=>by omega,mt (k:=0) h1,fit1_all h.2 h2,by omega,by omega,by omega,by omega,mg h3, .inl (nil_of h3)⟩
 rw [if_neg c6] at h
 by_cases c7:p.kind=9
 ·rw [if_pos c7] at h
  obtain ⟨h1,h2,h3,h4⟩:=shape_len h
  exact ⟨fun hk=>by omega,mt (k:=0) h1,me h2,by omega,by omega,by omega,by omega,mg h3, .inl (nil_of h3)⟩
 rw [if_neg c7] at h
 by_cases c8:p.kind=10
 ·rw [if_pos c8] at h
  obtain ⟨h1,h2,h3,h4⟩:=shape_len h
  exact ⟨fun hk=>by omega,mt (k:=0) h1,me h2,by omega,by omega,by omega,by omega,mg h3, .inl (nil_of h3)⟩
 rw [if_neg c8] at h
 by_cases c9:p.kind=11
 ·rw [if_pos c9] at h
  obtain ⟨h1,h2,h3,h4⟩:=shape_len h
  exact ⟨fun hk=>by omega,mt (k:=0) h1,me h2,by omega,by omega,by omega,by omega,mg h3, .inl (nil_of h3)⟩
 rw [if_neg c9] at h
 by_cases c10:p.kind=12∨p.kind=14∨p.kind=15
 ·rw [if_pos c10] at h
  simp only [Bool.and_eq_true,List.all_eq_true] at h
  obtain ⟨h1,h2,h3,h4⟩:=shape_len h.1
  exact ⟨fun hk=>by omega,mt (k:=0) h1,me h2,by omega,by omega,by omega,by omega,fun g hg=>⟨_,h.2 g hg⟩, .inr (nil_of h4)⟩
 rw [if_neg c10] at h
 by_cases c11:p.kind=13
 ·rw [if_pos c11] at h
  simp only [Bool.and_eq_true] at h
  obtain ⟨h1,h2,h3,h4⟩:=shape_len h.1
  exact ⟨fun hk=>by omega,mt (k:=0) h1,fit1_all h.2 h2,by omega,by omega,by omega,by omega,mg h3, .inl (nil_of h3)⟩
 ·rw [if_neg c11] at h;cases h
theorem guard_ok{vs:List KV}{n:Nat}{g:GD}{c:Bool}(h:guardB vs n g c=true)(hw:WfG g):(okK vs g.cond∧(g.kind=4→okK vs g.time)∧(g.kind=3→OkP vs g.to)∧g.body.length=1)∧(gdU vs g.kind g.cond g.c g.to g.time).le 600:=by
 unfold guardB at h
 rw [Bool.and_eq_true,Bool.and_eq_true,Bool.and_eq_true] at h
 obtain ⟨⟨⟨h1,h2⟩,-⟩,h3⟩:=h
 have h1:g.body.length=1:=by simpa using h1
 obtain ⟨a1,a2⟩:=fitV_ok h2 hw.cond
 by_cases c3:g.kind=3
 ·rw [if_neg (by omega),if_pos c3] at h3
  simp only [inputB,Bool.and_eq_true] at h3
  obtain ⟨b1,b2⟩:=placeB_ok h3.2.2 hw.to
  refine ⟨⟨a1,fun hk=>by omega,fun _=>b1,h1⟩,?_⟩
  unfold gdU
  rw [if_neg (by omega),if_pos c3]
  refine RU.le_add (a:=256) (b:=300) (RU.le_rd a2) (RU.le_add (a:=1) (b:=256) ⟨by simp,by simp,by simp,by simp⟩ ⟨b2,by simp [plU],by simp [plU],by simp [plU]⟩ (by omega)) (by omega)
 ·by_cases c4:g.kind=4
  ·rw [if_neg (by omega),if_neg c3,if_pos c4] at h3
   simp only [Bool.and_eq_true] at h3
   obtain ⟨b1,b2⟩:=fitV_ok h3.2 hw.time
   refine ⟨⟨a1,fun _=>b1,fun hk=>by omega,h1⟩,?_⟩
   unfold gdU
   rw [if_pos c4]
   exact RU.le_add (a:=256) (b:=256) (RU.le_rd a2) (RU.le_rd b2) (by omega)
  ·refine ⟨⟨a1,fun hk=>by omega,fun hk=>by omega,h1⟩,?_⟩
   unfold gdU
   rw [if_neg c4,if_neg c3]
   exact RU.le_add (a:=256) (b:=0) (RU.le_rd a2) RU.le_nil (by omega)
theorem ownU_le{vs:List KV}{k c v:Int}:(ownU vs k c v).le 1:=by
 unfold ownU
 split
 ·exact ⟨by simp,by simp,by simp,by simp⟩
 split
 ·exact ⟨by simp,by simp,by simp,by simp⟩
 split
 ·exact ⟨by simp,by simp,by simp,by simp⟩
 ·exact RU.le_nil
abbrev UseN(vs:List KV)(n N:Nat):Prop:= ∀(p:PR) (high:Bool),htR p≤N→okR vs n high p=true→wfR p→useR vs p∧(rawR vs p).le (14000*szR p)
theorem use_l{vs:List KV}{n N:Nat}(ih:UseN vs n N): ∀(l:List PR) (high first:Bool),htL l≤N→okL vs n high first l=true→(∀x,x∈l→wfR x)→useRl vs l∧(rawRl vs l).le (14000*szL l)
 | [],_,_,_,_,_=>⟨by rw [useRl];trivial,by rw [rawRl];exact RU.le_nil⟩
 |p::r,high,first,h,ho,hw=>by
  rw [okL,Bool.and_eq_true] at ho
  rw [htL] at h
  obtain ⟨a1,a2⟩:=ih p _ (by omega) ho.1 (hw p (List.mem_cons_self ..))
  obtain ⟨b1,b2⟩:=use_l ih r _ _ (by omega) ho.2 fun x hx=>hw x (List.mem_cons_of_mem _ hx)
  rw [useRl,rawRl,szL]
  exact ⟨⟨a1,b1⟩,RU.le_add a2 b2 (by omega)⟩
theorem use_g{vs:List KV}{n N:Nat}(ih:UseN vs n N): ∀(l:List GD) (high:Bool),htGs l≤N→okGs vs n high l=true→(∀g,g∈l→wfG g)→(∀g,g∈l→ ∃c,guardB vs n g c=true)→useGl vs l∧(rawGl vs l).le (14000*szGs l+600*l.length)
 | [],_,_,_,_,_=>⟨by rw [useGl];trivial,by rw [rawGl];exact RU.le_nil⟩
 |g::r,high,h,ho,hw,hg=>by
  rw [okGs,Bool.and_eq_true] at ho
  rw [htGs] at h
  obtain ⟨b1,b2⟩:=use_g ih r high (by omega) ho.2 (fun x hx=>hw x (List.mem_cons_of_mem _ hx)) (fun x hx=>hg x (List.mem_cons_of_mem _ hx))
  obtain ⟨c,hc⟩:=hg g (List.mem_cons_self ..)
  have hW:=wfG_all (hw g (List.mem_cons_self ..))
  obtain ⟨⟨k1,k2,k3,k4⟩,k5⟩:=guard_ok hc hW
  obtain ⟨a1,a2⟩:=use_l ih g.body high false (by rw [←htG_eq];omega) (by rw [←okG_eq];exact ho.1) hW.body
  have a3:(rawB vs g.body).le (14000*szG g):=by
   rw [szG_eq]
   match hb:g.body,k4 with
   | [x],_=>
     rw [hb,rawRl,rawRl,RU.add_nil] at a2
     rw [rawB]
     exact a2
  rw [useGl,rawGl,szGs,rawG_eq]
  refine ⟨⟨?_,b1⟩,RU.le_add (RU.le_add k5 a3 (Nat.le_refl _)) b2 (by simp only [List.length_cons];omega)⟩
  obtain ⟨gk,gc,gh,gi,gt,gm,gb⟩:=g
  rw [useG]
  exact ⟨⟨k1,k2,k3,fun hn=>by rw [show gb=[] from hn] at k4;cases k4⟩,a1⟩
theorem use_ok(vs:List KV)(n:Nat): ∀N,UseN vs n N
 |0,p,_,h,_,_=>by have:=htR_pos p;omega
 |N+1,p,high,h,ho,hw=>by
  rw [okR_eq,Bool.and_eq_true,Bool.and_eq_true,Bool.and_eq_true] at ho
  rw [htR_eq] at h
  have hk:=kind_node ho.1.1.1
  have hW:=wfR_all hw
  obtain ⟨a1,a2⟩:=use_l (use_ok vs n N) p.l high _ (by omega) ho.1.2 hW.l
  obtain ⟨b1,b2⟩:=use_g (use_ok vs n N) p.gs high (by omega) ho.2 hW.g hk.g
  have ht: ∀t,t∈p.to→OkP vs t∧(rdKl vs t.ix).length≤256:=fun t ht=>by obtain ⟨k,q⟩:=hk.to t ht;exact placeB_ok q (hW.to t ht)
  have he: ∀x,x∈p.e→okK vs x∧(rdK vs x).length≤256:=fun x hx=>by obtain ⟨k,q⟩:=hk.e x hx;exact fitV_ok q (hW.e x hx)
  have c1:=plsU_le (vs:=vs) (l:=p.to) fun t h=>(ht t h).2
  have c2:=RU.le_rd (rdKl_len (vs:=vs) (l:=p.e) fun t h=>(he t h).2)
  have h8:=hk.tl
  have h9:=hk.el
  have h10:=hk.gl
  have h11:=hk.ll
  have hle:(rawR vs p).le (14000*szR p):=by
   rw [rawR_eq,szR_eq]
   exact RU.le_add (RU.le_add (RU.le_add ownU_le c1 (Nat.le_refl _)) c2 (Nat.le_refl _)) (RU.le_add a2 b2 (Nat.le_refl _)) (by omega)
  refine ⟨?_,hle⟩
  have h3:=hk.v
  clear hle c1 c2 a2 b2 hk hW ho
  obtain ⟨k,c,v,i,to,e,gs,l⟩:=p
  rw [useR]
  exact ⟨⟨h3,fun t q=>(ht t q).1,fun x q=>(he x q).1,Nat.le_trans h8 (by omega),Nat.le_trans h9 (by omega),Nat.le_trans h10 (by omega),Nat.le_trans h11 (by omega)⟩,b1,a1⟩
theorem le_fit{u:RU}{n:Nat}(h:u.le n)(hn:n≤1099511627776):RU.nil.fit u:=by
 obtain ⟨h1,h2,h3,h4⟩:=h
 exact ⟨by simp only [RU.nil,List.length_nil];omega,by simp only [RU.nil,List.length_nil];omega,by simp only [RU.nil,List.length_nil];omega,by simp only [RU.nil,List.length_nil];omega⟩
theorem fits_use{vs:List KV}{n:Nat}{high:Bool}{p:PR}{d:Int}(h:fitsR vs n high p 2048 d)(hw:wfR p):useR vs p∧RU.nil.fit (rawR vs p):=by
 obtain ⟨h1,h2,h3⟩:=h
 obtain ⟨a1,a2⟩:=use_ok vs n _ p high (Nat.le_refl _) h1 hw
 exact ⟨a1,le_fit a2 (by omega)⟩
abbrev subN(k:KN)(p:PR):KN:=⟨k.vars,k.chans,p,[]⟩
def ofOk(k:KN)(p:PR):Bool:=mayK k&&mayK (subN k p)
def ofM(k:KN)(p:PR):AV:= .tp [uA (if ofOk k p then usesM k.vars p else .nil),AI (if ofOk k p then 0 else 2)]
theorem may_wf{k:KN}(h:mayK k=true):fitsR k.vars k.chans.length false k.root 2048 32:=by
 simp only [mayK,Bool.and_eq_true,decide_eq_true_eq] at h
 exact h.2
theorem sub_wf{k:KN}{p:PR}(hk:WfN k)(hp:wfR p):WfN (subN k p):=⟨hk.vars,hk.chans,Nat.zero_le _,hp⟩
theorem uOf_p(k:KN)(p:PR)(hk:WfN k)(hp:wfR p):Pure Tryz.prog gs0 10 [encN k,cellsR p] (ofM k p):=by
 have h1:=kmay_p k hk
 have h2:=kmay_p (subN k p) (sub_wf hk hp)
 by_cases c1:mayK k=true
 ·rw [c1] at h1
  by_cases c2:mayK (subN k p)=true
  ·rw [c2] at h2
   have h3:=uof_p k.vars p (fits_use (may_wf c2) hp).1 (fits_use (may_wf c2) hp).2
   rw [show ofM k p= .tp [uA (usesM k.vars p),AI 0] by simp only [ofM,ofOk,c1,c2];rfl]
   refine p_ tt_ok Tryz.func10 24 fun w0 h0 F hgs=>?_
   (refine b_ fun bx=>?_;refine b_ fun bx=>?_;refine b_ fun bx=>?_;refine y_ ?_)
   refine c_ h1 ?_
   refine c_ h2 ?_
   refine c_ h3 ?_
   refine m_ (ResA.cell rfl rfl rfl (ResA.tmp rfl ResA.nil)) ?_;exact s_
  ·have c2:mayK (subN k p)=false:=by simpa using c2
   rw [c2] at h2
   rw [show ofM k p= .tp [uA .nil,AI 2] by simp only [ofM,ofOk,c1,c2];rfl]
   refine p_ tt_ok Tryz.func10 24 fun w0 h0 F hgs=>?_
   (refine b_ fun bx=>?_;refine b_ fun bx=>?_;refine b_ fun bx=>?_;refine y_ ?_)
   refine c_ h1 ?_
   refine c_ h2 ?_
   refine m_ (ResA.cell rfl rfl rfl (ResA.tmp rfl ResA.nil)) ?_;exact s_
 ·have c1:mayK k=false:=by simpa using c1
  rw [c1] at h1
  rw [show ofM k p= .tp [uA .nil,AI 2] by simp only [ofM,ofOk,c1];rfl]
  refine p_ tt_ok Tryz.func10 24 fun w0 h0 F hgs=>?_
  (refine b_ fun bx=>?_;refine b_ fun bx=>?_;refine b_ fun bx=>?_;refine y_ ?_)
  refine c_ h1 ?_
  refine m_ (ResA.cell rfl rfl rfl (ResA.tmp rfl ResA.nil)) ?_;exact s_
theorem insS_at{α:Type} [DecidableEq α]{lt:α→α→Bool}{x:α}: ∀{l:List α} {i:Nat},i≤l.length→(∀j y,j<i→l[j]? =some y→lt y x=true)→(∀y,l[i]? =some y→lt y x=false)→
 insS lt l x=if l[i]? =some x then l else l.take i++[x]++l.drop i
 | [],0,_,_,_=>by simp [insS]
 | [],i+1,h,_,_=>by simp at h
 |y::r,0,_,_,h=>by
  have:=h y rfl
  rw [insS,this]
  by_cases e:y=x
  ·simp [e]
  ·simp [e]
 |y::r,i+1,hl,ha,h=>by
  have h1:=ha 0 y (by omega) rfl
  have ih:=insS_at (l:=r) (i:=i) (by simpa using hl) (fun j z hj hz=>ha (j+1) z (by omega) (by simpa using hz)) (fun z hz=>h z (by simpa using hz))
  rw [insS,if_pos h1,ih]
  by_cases e:r[i]? =some x
  ·simp [e]
  ·simp [e]
abbrev Below{α:Type}(lt:α→α→Bool)(l:List α)(x:α)(i:Nat):Prop:=i≤l.length∧ ∀j y,j<i→l[j]? =some y→lt y x=true
theorem below_next{α:Type}{lt:α→α→Bool}{l:List α}{x y:α}{i:Nat}(h:Below lt l x i)(hy:l[i]? =some y)(hl:lt y x=true):Below lt l x (i+1):=by
 have hi:i<l.length:=(List.getElem?_eq_some_iff.1 hy).1
 refine ⟨hi,fun j z hj hz=>?_⟩
 by_cases e:j=i
 ·subst e;rw [hy] at hz;injection hz with hz;subst hz;exact hl
 ·exact h.2 j z (by omega) hz
theorem below_yes{α:Type} [DecidableEq α]{lt:α→α→Bool}{l:List α}{x:α}{i:Nat}(h:Below lt l x i)(hy:l[i]? =some x)(hl:lt x x=false):insS lt l x=l:=by
 rw [insS_at h.1 h.2 (fun y h1=>by rw [hy] at h1;injection h1 with h1;subst h1;exact hl),if_pos hy]
theorem below_no{α:Type} [DecidableEq α]{lt:α→α→Bool}{l:List α}{x:α}{i:Nat}(h:Below lt l x i)(hy: ∀y,l[i]? =some y→lt y x=false∧y≠x):insS lt l x=l.take i++[x]++l.drop i:=by
 rw [insS_at h.1 h.2 (fun y h1=>(hy y h1).1),if_neg (fun h1=>(hy x h1).2 rfl)]
theorem own_eq{n:Nat}{xs ys:List AV}{z:Value}(h:xs=ys):Sb (.sl n xs (some z)) (.sl n ys none):=by subst h;exact .own1
theorem below_z{α:Type}{lt:α→α→Bool}{l:List α}{x:α}:Below lt l x 0:=⟨Nat.zero_le _,fun j y hj=>by omega⟩
theorem addI_p(l:List Int)(x:Int)(hl:l.length≤400000000):Pure Tryz.prog gs0 69 [intsA l,AI x] (intsA (insS ltI l x)):=by
 have hr: ∀i,(([]++(l.take i).map AI)++[AI x])++(l.drop i).map AI=(l.take i++[x]++l.drop i).map AI:=fun i=>by simp
 refine p_ tt_ok Tryz.func69 48 fun w0 h0 F hgs=>?_
 refine y_ ?_
 refine A.keep [0,1,5] rfl ?_
 refine A.loopP (ι:=Nat) (fun i=>(⟨[(0,intsA l),(1,AI x),(5,AI (i:Nat))],[]⟩,[])) (fun i=>Below ltI l x i) (fun i=>l.length-i) 0 below_z rfl fun i hi ih=>?_
 refine y_ ?_
 by_cases c:i<l.length
 ·refine Exists.elim (at_exN (l:=l) (i:=i) c) fun y hy=>?_
  refine T_ rfl (by simpa using c) ?_
  refine i_ rfl (map_at hy) rfl ?_
  refine k_ (fun hc=>?_) fun hc=>?_
  ·have hc:y<x:=by simpa using hc
   refine y_ ?_
   refine A.valE 5 rfl (x':=AI ((i+1:Nat):Int)) (inc_eq i (by omega)) ?_
   refine u_ (ih (i+1) (below_next hi hy (by simpa [ltI] using hc)) (by omega))
  ·have hlt: ¬y<x:=by simpa using hc
   clear ih
   refine y_ ?_
   refine T_ rfl (by simpa using c) ?_
   refine i_ rfl (map_at hy) rfl ?_
   refine k_ (fun hc=>?_) fun hc=>?_
   ·have he:y=x:=by simpa using hc
    subst he
    refine y_ ?_
    refine R_ ?_
    rw [below_yes hi hy (by simp [ltI])]
    exact .refl
   ·have he: ¬y=x:=by simpa using hc
    refine y_ ?_;refine A.slice (ys:=(l.take i).map AI) rfl rfl rfl rfl rfl rfl rfl rfl rfl (by decide) (by omega) (by rw [List.length_map];omega) (by simp [List.map_take]) rfl ?_;refine A.append0 rfl rfl rfl rfl rfl rfl rfl rfl rfl rfl rfl rfl rfl rfl (by show (0+((l.take i).map AI).length)*1≤_;rw [List.length_map,List.length_take];omega) fun z1=>?_;refine t_ fun bl=>?_;refine A.append rfl rfl rfl rfl rfl rfl rfl rfl rfl rfl rfl rfl rfl rfl (by show (([]++(l.take i).map AI).length+1)*1≤_;rw [List.nil_append,List.length_map,List.length_take];omega) fun z2=>?_;refine y_ ?_;refine A.slice (ys:=(l.drop i).map AI) rfl rfl rfl rfl rfl rfl rfl rfl rfl (by omega) (by rw [List.length_map];omega) (Int.le_refl _) (by rw [List.take_of_length_le (by simp),List.map_drop];rfl) rfl ?_;refine A.append rfl rfl rfl rfl rfl rfl rfl rfl rfl rfl rfl rfl rfl rfl (by show (([]++(l.take i).map AI++[AI x]).length+((l.drop i).map AI).length)*1≤_;simp;omega) fun z3=>?_;refine y_ ?_
    refine R_ ?_
    rw [below_no hi (fun z hz=>by rw [hy] at hz;injection hz with hz;subst hz;exact ⟨by simpa [ltI] using hlt,he⟩)]
    exact own_eq (hr i)
 ·clear ih
  refine F_ rfl (by simpa using c) ?_
  refine F_ rfl (by simpa using c) ?_;refine A.slice (ys:=(l.take i).map AI) rfl rfl rfl rfl rfl rfl rfl rfl rfl (by decide) (by omega) (by rw [List.length_map];omega) (by simp [List.map_take]) rfl ?_;refine A.append0 rfl rfl rfl rfl rfl rfl rfl rfl rfl rfl rfl rfl rfl rfl (by show (0+((l.take i).map AI).length)*1≤_;rw [List.length_map,List.length_take];omega) fun z1=>?_;refine t_ fun bl=>?_;refine A.append rfl rfl rfl rfl rfl rfl rfl rfl rfl rfl rfl rfl rfl rfl (by show (([]++(l.take i).map AI).length+1)*1≤_;rw [List.nil_append,List.length_map,List.length_take];omega) fun z2=>?_;refine y_ ?_;refine A.slice (ys:=(l.drop i).map AI) rfl rfl rfl rfl rfl rfl rfl rfl rfl (by omega) (by rw [List.length_map];omega) (Int.le_refl _) (by rw [List.take_of_length_le (by simp),List.map_drop];rfl) rfl ?_;refine A.append rfl rfl rfl rfl rfl rfl rfl rfl rfl rfl rfl rfl rfl rfl (by show (([]++(l.take i).map AI++[AI x]).length+((l.drop i).map AI).length)*1≤_;simp;omega) fun z3=>?_;refine y_ ?_
  refine R_ ?_
  rw [below_no hi (fun z hz=>by rw [List.getElem?_eq_none (by omega)] at hz;cases hz)]
  exact own_eq (hr i)
theorem ab_sb{a b:Bool}(h:a=b):Sb (AB a) (AB b):=by subst h;exact .refl
theorem below_p(a b:EL):Pure Tryz.prog gs0 96 [encE a,encE b] (AB (ltE a b)):=by
 refine p_ tt_ok Tryz.func96 24 fun w0 h0 F hgs=>?_
 (repeat' first|refine A.s rfl ?_|refine A.r rfl rfl ?_|refine A.w rfl rfl ?_|refine A.p rfl ?_|refine A.b rfl fun bx=>?_|refine A.t rfl fun bl=>?_|((fail_if_success (refine A.lit? rfl ?_));refine A.gS rfl (fun hc=>?_) (fun hc=>?_))|((fail_if_success (refine A.litP? rfl ?_));refine A.gSP rfl (fun hc=>?_) (fun hc=>?_)))
 all_goals (refine R_ ?_;refine ab_sb ?_;(try simp only [decide_eq_true_eq,decide_eq_false_iff_not,beq_iff_eq,Bool.not_eq_true] at*);simp_all [ltE])
theorem map_atE{l:List EL}{i:Nat}{y:EL}(h:l[i]? =some y):(l.map encE)[i]? =some (encE y):=by rw [List.getElem?_map,h];rfl
theorem addE_p(l:List EL)(x:EL)(hl:l.length≤400000000):Pure Tryz.prog gs0 68 [elsA l,encE x] (elsA (insS ltE l x)):=by
 have hr: ∀i,(([]++(l.take i).map encE)++[encE x])++(l.drop i).map encE=(l.take i++[x]++l.drop i).map encE:=fun i=>by simp
 have hn:((l.map encE).length:Int)=l.length:=by rw [List.length_map]
 refine p_ tt_ok Tryz.func68 48 fun w0 h0 F hgs=>?_
 (refine b_ fun bx=>?_;refine y_ ?_)
 revert bx;intro b0
 refine A.keep [0,3,5] rfl ?_
 refine A.loopP (ι:=Nat) (fun i=>(⟨[(0,elsA l),(3,PT b0),(5,AI (i:Nat))],[]⟩,[.box b0 (encE x)])) (fun i=>Below ltE l x i) (fun i=>l.length-i) 0 below_z rfl fun i hi ih=>?_
 by_cases c:i<l.length
 ·refine Exists.elim (at_exN (l:=l) (i:=i) c) fun y hy=>?_
  have hb:=below_p y x
  refine y_ ?_
  refine d_ 10 [0,1,2,3,4,5,6,7,8,9] [] ?_
  refine Tw_ rfl (by simpa using c) ?_
  refine iw_ rfl (map_atE hy) rfl ?_
  refine WA.nil (l:=[]) rfl ?_
  refine c_ hb ?_
  refine k_ (fun hc=>?_) fun hc=>?_
  ·have hc:ltE y x=true:=hc
   refine y_ ?_
   refine A.valE 5 rfl (x':=AI ((i+1:Nat):Int)) (inc_eq i (by omega)) ?_
   refine u_ (ih (i+1) (below_next hi hy hc) (by omega))
  ·have hlt:ltE y x=false:=hc
   clear ih
   refine y_ ?_
   refine d_ 10 [0,1,2,3,4,5,6,7,8,9] [] ?_
   refine Tw_ rfl (by simpa using c) ?_
   refine iw_ rfl (map_atE hy) rfl ?_
   refine WA.nil (l:=[]) rfl ?_
   refine A.eqSt rfl rfl rfl rfl rfl rfl rfl rfl (elSt y x) ?_
   refine y_ ?_
   refine k_ (fun hc=>?_) fun hc=>?_
   ·have he:y=x:=by simpa [eqV] using hc
    subst he
    refine y_ ?_
    refine R_ ?_
    rw [below_yes hi hy hlt]
    exact .refl
   ·have he: ¬y=x:=by simpa [eqV] using hc
    refine y_ ?_;refine A.slice (ys:=(l.take i).map encE) rfl rfl rfl rfl rfl rfl rfl rfl rfl (by decide) (by omega) (by rw [List.length_map];omega) (by simp [List.map_take]) rfl ?_;refine A.append0 rfl rfl rfl rfl rfl rfl rfl rfl rfl rfl rfl rfl rfl rfl (by show (0+((l.take i).map encE).length)*2≤_;rw [List.length_map,List.length_take];omega) fun z1=>?_;refine t_ fun bl=>?_;refine A.append rfl rfl rfl rfl rfl rfl rfl rfl rfl rfl rfl rfl rfl rfl (by show (([]++(l.take i).map encE).length+1)*2≤_;rw [List.nil_append,List.length_map,List.length_take];omega) fun z2=>?_;refine y_ ?_;refine A.slice (ys:=(l.drop i).map encE) rfl rfl rfl rfl rfl rfl rfl rfl rfl (by omega) (by rw [List.length_map];omega) (Int.le_refl _) (by rw [List.take_of_length_le (by simp),List.map_drop];rfl) rfl ?_;refine A.append rfl rfl rfl rfl rfl rfl rfl rfl rfl rfl rfl rfl rfl rfl (by show (([]++(l.take i).map encE++[encE x]).length+((l.drop i).map encE).length)*2≤_;simp;omega) fun z3=>?_;refine y_ ?_
    refine R_ ?_
    rw [below_no hi (fun z hz=>by rw [hy] at hz;injection hz with hz;subst hz;exact ⟨hlt,he⟩)]
    exact own_eq (hr i)
 ·clear ih
  refine y_ ?_
  refine d_ 10 [0,1,2,3,4,5,6,7,8,9] [] ?_
  refine Fw_ rfl (by simpa using c) ?_
  refine z_ ?_
  refine d_ 10 [0,1,2,3,4,5,6,7,8,9] [] ?_
  refine Fw_ rfl (by simpa using c) ?_
  refine z_ ?_;refine A.slice (ys:=(l.take i).map encE) rfl rfl rfl rfl rfl rfl rfl rfl rfl (by decide) (by omega) (by rw [List.length_map];omega) (by simp [List.map_take]) rfl ?_;refine A.append0 rfl rfl rfl rfl rfl rfl rfl rfl rfl rfl rfl rfl rfl rfl (by show (0+((l.take i).map encE).length)*2≤_;rw [List.length_map,List.length_take];omega) fun z1=>?_;refine t_ fun bl=>?_;refine A.append rfl rfl rfl rfl rfl rfl rfl rfl rfl rfl rfl rfl rfl rfl (by show (([]++(l.take i).map encE).length+1)*2≤_;rw [List.nil_append,List.length_map,List.length_take];omega) fun z2=>?_;refine y_ ?_;refine A.slice (ys:=(l.drop i).map encE) rfl rfl rfl rfl rfl rfl rfl rfl rfl (by omega) (by rw [List.length_map];omega) (Int.le_refl _) (by rw [List.take_of_length_le (by simp),List.map_drop];rfl) rfl ?_;refine A.append rfl rfl rfl rfl rfl rfl rfl rfl rfl rfl rfl rfl rfl rfl (by show (([]++(l.take i).map encE++[encE x]).length+((l.drop i).map encE).length)*2≤_;simp;omega) fun z3=>?_;refine y_ ?_
  refine R_ ?_
  rw [below_no hi (fun z hz=>by rw [List.getElem?_eq_none (by omega)] at hz;cases hz)]
  exact own_eq (hr i)
theorem insS_len{α:Type} [DecidableEq α]{lt:α→α→Bool}{x:α}: ∀{l:List α},(insS lt l x).length≤l.length+1
 | []=>by simp [insS]
 |y::r=>by
  have:=insS_len (lt:=lt) (x:=x) (l:=r)
  rw [insS]
  split
  ·simp only [List.length_cons];omega
  ·split
   ·simp only [List.length_cons];omega
   ·simp only [List.length_cons];omega
theorem insAll_len{α:Type} [DecidableEq α]{lt:α→α→Bool}: ∀{m l:List α},(insAll lt l m).length≤l.length+m.length
 | [],l=>by simp [insAll]
 |x::m,l=>by
  have h1:=insAll_len (lt:=lt) (m:=m) (l:=insS lt l x)
  have h2:=insS_len (lt:=lt) (l:=l) (x:=x)
  show (insAll lt (insS lt l x) m).length≤_
  simp only [List.length_cons];omega
theorem canE_len(l:List EL):(canE l).length≤l.length:=by have:=insAll_len (lt:=ltE) (m:=l) (l:=[]);simpa [canE] using this
theorem canI_len(l:List Int):(canI l).length≤l.length:=by have:=insAll_len (lt:=ltI) (m:=l) (l:=[]);simpa [canI] using this
theorem canE_add(a:List EL)(x:EL):insS ltE (canE a) x=canE (a++[x]):=by simp [canE,insAll,List.foldl_append]
theorem canI_add(a:List Int)(x:Int):insS ltI (canI a) x=canI (a++[x]):=by simp [canI,insAll,List.foldl_append]
theorem mem_canE{l:List EL}{z:EL}:z∈canE l↔z∈l:=by simp [canE,mem_insAll]
theorem mem_canI{l:List Int}{z:Int}:z∈canI l↔z∈l:=by simp [canI,mem_insAll]
theorem asc_canE(l:List EL):AscL ltE (canE l):=asc_insAll ord_el (by simp [AscL])
theorem asc_canI(l:List Int):AscL ltI (canI l):=asc_insAll ord_int (by simp [AscL])
theorem canE_eq{a b:List EL}(h: ∀z,z∈a↔z∈b):canE a=canE b:=asc_eq ord_el (asc_canE _) (asc_canE _) fun z=>by rw [mem_canE,mem_canE];exact h z
theorem relem_p(vs:List KV)(v:Int)(e:KE)(hv:0≤v)(hl:v<vs.length)(hn:i32 e.n):Pure Tryz.prog gs0 97 [vsA vs,AI v,encK e] (encE (elemM vs v e)):=by
 have hcv:AV.v (.int .i64 (IntKind.i64.wrap e.n))=AI e.n:=ai_eq (w64_32 hn)
 rw [encK_eq]
 refine Exists.elim (at_ex (l:=vs) hv hl) fun x hx=>?_
 have hdim:dimOf vs v=x.dim:=by unfold dimOf;rw [hx]
 refine Exists.elim (show∃R,R=elemM vs v e from ⟨_,rfl⟩) fun R hR=>?_
 rw [←hR]
 unfold elemM at hR
 rw [hdim] at hR
 by_cases h1:e.kind=1
 case neg=>
  rw [if_neg (fun h=>h1 h.1)] at hR
  refine p_ tt_ok Tryz.func97 33 fun w0 h0 F hgs=>?_
  (refine b_ fun bx=>?_;refine b_ fun bx=>?_;refine y_ ?_)
  refine d_ 17 [0,1,2,3,4,5,6,7,8,9,10,11,12,13,14,15,16] [] ?_
  refine ew_ 10 rfl (x':=AB false) (ab_eq (beq_eq_false_iff_ne.2 h1)) ?_
  refine z_ ?_
  refine A.retC (Λ':=[]) rfl rfl rfl rfl rfl (List.nil_sublist _) ⟨?_,rfl⟩
  rw [hR]
  exact s_
 by_cases h2:0≤e.n
 case neg=>
  rw [if_neg (fun h=>h2 h.2.1)] at hR
  refine p_ tt_ok Tryz.func97 33 fun w0 h0 F hgs=>?_
  (refine b_ fun bx=>?_;refine b_ fun bx=>?_;refine y_ ?_)
  refine d_ 17 [0,1,2,3,4,5,6,7,8,9,10,11,12,13,14,15,16] [] ?_
  refine ew_ 10 rfl (x':=AB true) (ab_eq (beq_iff_eq.2 h1)) ?_
  refine ew_ 15 rfl (x':=AB false) (ab_eq (decide_eq_false h2)) ?_
  refine z_ ?_
  refine A.retC (Λ':=[]) rfl rfl rfl rfl rfl (List.nil_sublist _) ⟨?_,rfl⟩
  rw [hR]
  exact s_
 refine p_ tt_ok Tryz.func97 33 fun w0 h0 F hgs=>?_
 (refine b_ fun bx=>?_;refine b_ fun bx=>?_;refine y_ ?_)
 refine d_ 17 [0,1,2,3,4,5,6,7,8,9,10,11,12,13,14,15,16] [] ?_
 refine ew_ 10 rfl (x':=AB true) (ab_eq (beq_iff_eq.2 h1)) ?_
 refine ew_ 15 rfl (x':=AB true) (ab_eq (decide_eq_true h2)) ?_
 refine WA.valE 18 rfl (x':=AI e.n) hcv ?_
 refine WA.x rfl hv (map_at hx) rfl rfl ?_
 refine w_ ?_
 refine z_ ?_
 refine k_ (fun hc=>?_) fun hc=>?_
 ·rw [if_pos ⟨h1,h2,by simpa using hc⟩] at hR
  clear hc
  have hR':R=(v,IntKind.i64.wrap e.n):=by rw [hR,w64_32 hn]
  refine y_ ?_
  refine A.retC (Λ':=[]) rfl rfl rfl rfl rfl (List.nil_sublist _) ⟨?_,rfl⟩
  rw [hR']
  exact s_
 ·rw [if_neg (fun h=>by have:=h.2.2;simp at hc;omega)] at hR
  clear hc
  refine y_ ?_
  refine A.retC (Λ':=[]) rfl rfl rfl rfl rfl (List.nil_sublist _) ⟨?_,rfl⟩
  rw [hR]
  exact s_
theorem reads_n(vs:List KV): ∀(m:Nat) (e:KE),SizeOf.sizeOf e≤m→okK vs e→ ∀(a:List EL),a.length+(rdK vs e).length≤400000000→
 Pure Tryz.prog gs0 71 [vsA vs,elsA (canE a),encK e] (elsA (canE (a++rdK vs e)))
 |0,e,h,_,_,_=>by obtain ⟨k,o,t,n,v,l⟩:=e;simp at h
 |m+1,e,h,ok,a,hb=>by
  obtain ⟨ok3,okl,okn,oks⟩:=okK_e ok
  have hrec: ∀x,x∈e.l→ ∀(a:List EL),a.length+(rdK vs x).length≤400000000→Pure Tryz.prog gs0 71 [vsA vs,elsA (canE a),encK x] (elsA (canE (a++rdK vs x))):=fun x hx=>by
   refine reads_n vs m x ?_ (oks x hx)
   have h1:=List.sizeOf_lt_of_mem hx
   obtain ⟨k,o,t,n,v,l⟩:=e
   simp only [KE.mk.sizeOf_spec,KE.l] at h h1
   omega
  clear h
  have hE:canE (a++rdK vs e)=canE ((a++rdKl vs e.l)++ownK vs e):=canE_eq fun z=>by rw [rdK_eq];simp only [List.mem_append];rw [or_assoc,or_comm (a:=z∈ownK vs e)]
  rw [rdK_eq,List.length_append] at hb
  have hlen:=encKl_len e.l
  refine Exists.elim (show∃R,R=canE (a++rdK vs e) from ⟨_,rfl⟩) fun R hR=>?_
  rw [←hR]
  rw [hE] at hR
  have hcl:(canE (a++rdKl vs e.l)).length≤400000000:=Nat.le_trans (canE_len _) (by rw [List.length_append];omega)
  rw [encK_eq]
  by_cases h2:e.kind=2
  ·have hown:ownK vs e=[(e.v,0)]:=by unfold ownK;rw [if_pos h2]
   have had:=addE_p (canE (a++rdKl vs e.l)) (e.v,0) hcl
   rw [canE_add,←hown,←hR] at had
   refine p_ tt_ok Tryz.func71 45 fun w0 h0 F hgs=>?_
   (refine b_ fun bx=>?_;refine y_ ?_)
   revert bx;intro b0
   refine A.keep [0,1,5,7] rfl ?_
   refine A.loopP (ι:=Nat) (fun j=>(⟨[(0,vsA vs),(1,elsA (canE (a++rdKl vs (e.l.take j)))),(5,PT b0),(7,AI (j:Nat))],[]⟩,[.box b0 (.ag [AU8 e.kind,AU8 e.oper,AU8 e.to,AI32 e.n,AI e.v, .sl 6 (encKl e.l) none])])) (fun j=>j≤e.l.length) (fun j=>e.l.length-j) 0 (Nat.zero_le _) (by simp [rdKl]) fun i hi ih=>?_
   refine y_ ?_
   refine k_ (fun hc=>?_) fun hc=>?_
   ·have hc':i<e.l.length:=by have:((i:Int)<(encKl e.l).length):=by simpa using hc
                              omega
    clear hc
    refine Exists.elim (at_exN (l:=e.l) (i:=i) hc') fun x hx=>?_
    have hle:=rdKl_le (vs:=vs) hx
    have hr:=hrec x (List.mem_of_getElem? hx) (a++rdKl vs (e.l.take i)) (by simp only [List.length_append];omega)
    have hu:(a++rdKl vs (e.l.take i))++rdK vs x=a++rdKl vs (e.l.take (i+1)):=by rw [rdKl_take hx,List.append_assoc]
    rw [encK_eq,hu] at hr
    clear hle hu
    refine y_ ?_
    refine i_ rfl (encKl_at hx) (encK_eq x) ?_
    refine c_ hr ?_
    refine A.valE 7 rfl (x':=AI ((i+1:Nat):Int)) (inc_eq i (by omega)) ?_
    refine u_ (ih (i+1) (by omega) (by omega))
   clear ih
   have hil:i=e.l.length:=by have: ¬((i:Int)<(encKl e.l).length):=by simpa using hc
                             omega
   clear hc
   subst hil
   refine y_ ?_
   refine e_ 25 rfl (x':=AB true) (ab_eq (beq_iff_eq.2 h2)) ?_
   refine A.valE 27 rfl (x':=elsA (canE (a++rdKl vs e.l))) (by rw [List.take_length]) ?_
   exact cr_ had
  by_cases h3:e.kind=3
  ·obtain ⟨hv0,hv1,hne⟩:=ok3 h3
   obtain ⟨x0,l0,hl0⟩:=List.exists_cons_of_ne_nil hne
   have hx0:e.l[(0:Int).toNat]? =some x0:=by rw [hl0];rfl
   have hown:ownK vs e=[elemM vs e.v x0]:=by unfold ownK;rw [if_neg h2,if_pos h3,hl0];rfl
   have hel:=relem_p vs e.v x0 hv0 hv1 (okK_e (oks x0 (by rw [hl0];exact List.mem_cons_self ..))).2.2.1
   rw [encK_eq] at hel
   have had:=addE_p (canE (a++rdKl vs e.l)) (elemM vs e.v x0) hcl
   rw [canE_add,←hown,←hR] at had
   refine p_ tt_ok Tryz.func71 45 fun w0 h0 F hgs=>?_
   (refine b_ fun bx=>?_;refine y_ ?_)
   revert bx;intro b0
   refine A.keep [0,1,5,7] rfl ?_
   refine A.loopP (ι:=Nat) (fun j=>(⟨[(0,vsA vs),(1,elsA (canE (a++rdKl vs (e.l.take j)))),(5,PT b0),(7,AI (j:Nat))],[]⟩,[.box b0 (.ag [AU8 e.kind,AU8 e.oper,AU8 e.to,AI32 e.n,AI e.v, .sl 6 (encKl e.l) none])])) (fun j=>j≤e.l.length) (fun j=>e.l.length-j) 0 (Nat.zero_le _) (by simp [rdKl]) fun i hi ih=>?_
   refine y_ ?_
   refine k_ (fun hc=>?_) fun hc=>?_
   ·have hc':i<e.l.length:=by have:((i:Int)<(encKl e.l).length):=by simpa using hc
                              omega
    clear hc
    refine Exists.elim (at_exN (l:=e.l) (i:=i) hc') fun x hx=>?_
    have hle:=rdKl_le (vs:=vs) hx
    have hr:=hrec x (List.mem_of_getElem? hx) (a++rdKl vs (e.l.take i)) (by simp only [List.length_append];omega)
    have hu:(a++rdKl vs (e.l.take i))++rdK vs x=a++rdKl vs (e.l.take (i+1)):=by rw [rdKl_take hx,List.append_assoc]
    rw [encK_eq,hu] at hr
    clear hle hu
    refine y_ ?_
    refine i_ rfl (encKl_at hx) (encK_eq x) ?_
    refine c_ hr ?_
    refine A.valE 7 rfl (x':=AI ((i+1:Nat):Int)) (inc_eq i (by omega)) ?_
    refine u_ (ih (i+1) (by omega) (by omega))
   clear ih
   have hil:i=e.l.length:=by have: ¬((i:Int)<(encKl e.l).length):=by simpa using hc
                             omega
   clear hc
   subst hil
   refine y_ ?_
   refine e_ 25 rfl (x':=AB false) (ab_eq (beq_eq_false_iff_ne.2 h2)) ?_
   refine e_ 32 rfl (x':=AB true) (ab_eq (beq_iff_eq.2 h3)) ?_
   refine A.valE 1 rfl (x':=elsA (canE (a++rdKl vs e.l))) (by rw [List.take_length]) ?_
   refine d_ 9 [0,1,2,3,4,5,6,7,8] [(8,encE (elemM vs e.v x0))] ?_
   refine iw_ rfl (encKl_at hx0) (encK_eq x0) ?_
   refine cw_ hel ?_
   refine WA.nil (l:=[]) rfl ?_
   exact cr_ had
  have hown:ownK vs e=[]:=by unfold ownK;rw [if_neg h2,if_neg h3]
  rw [hown,List.append_nil] at hR
  refine p_ tt_ok Tryz.func71 45 fun w0 h0 F hgs=>?_
  (refine b_ fun bx=>?_;refine y_ ?_)
  revert bx;intro b0
  refine A.keep [0,1,5,7] rfl ?_
  refine A.loopP (ι:=Nat) (fun j=>(⟨[(0,vsA vs),(1,elsA (canE (a++rdKl vs (e.l.take j)))),(5,PT b0),(7,AI (j:Nat))],[]⟩,[.box b0 (.ag [AU8 e.kind,AU8 e.oper,AU8 e.to,AI32 e.n,AI e.v, .sl 6 (encKl e.l) none])])) (fun j=>j≤e.l.length) (fun j=>e.l.length-j) 0 (Nat.zero_le _) (by simp [rdKl]) fun i hi ih=>?_
  refine y_ ?_
  refine k_ (fun hc=>?_) fun hc=>?_
  ·have hc':i<e.l.length:=by have:((i:Int)<(encKl e.l).length):=by simpa using hc
                             omega
   clear hc
   refine Exists.elim (at_exN (l:=e.l) (i:=i) hc') fun x hx=>?_
   have hle:=rdKl_le (vs:=vs) hx
   have hr:=hrec x (List.mem_of_getElem? hx) (a++rdKl vs (e.l.take i)) (by simp only [List.length_append];omega)
   have hu:(a++rdKl vs (e.l.take i))++rdK vs x=a++rdKl vs (e.l.take (i+1)):=by rw [rdKl_take hx,List.append_assoc]
   rw [encK_eq,hu] at hr
   clear hle hu
   refine y_ ?_
   refine i_ rfl (encKl_at hx) (encK_eq x) ?_
   refine c_ hr ?_
   refine A.valE 7 rfl (x':=AI ((i+1:Nat):Int)) (inc_eq i (by omega)) ?_
   refine u_ (ih (i+1) (by omega) (by omega))
  clear ih
  have hil:i=e.l.length:=by have: ¬((i:Int)<(encKl e.l).length):=by simpa using hc
                            omega
  clear hc
  subst hil
  refine y_ ?_
  refine e_ 25 rfl (x':=AB false) (ab_eq (beq_eq_false_iff_ne.2 h2)) ?_
  refine e_ 32 rfl (x':=AB false) (ab_eq (beq_eq_false_iff_ne.2 h3)) ?_
  refine R_ ?_
  rw [List.take_length,hR]
  exact .refl
theorem reads_p(vs:List KV)(e:KE)(ok:okK vs e)(a:List EL)(hb:a.length+(rdK vs e).length≤400000000):
 Pure Tryz.prog gs0 71 [vsA vs,elsA (canE a), .ag [AU8 e.kind,AU8 e.oper,AU8 e.to,AI32 e.n,AI e.v, .sl 6 (encKl e.l) none]] (elsA (canE (a++rdK vs e))):=by
 have:=reads_n vs _ e (Nat.le_refl _) ok a hb
 rwa [encK_eq] at this
structure RU.fit4(u v:RU):Prop where
 r:u.r.length+v.r.length≤400000000
 w:u.w.length+v.w.length≤400000000
 i:u.i.length+v.i.length≤400000000
 o:u.o.length+v.o.length≤400000000
theorem RU.fit4_add{u v w:RU}:(u.add v).fit4 w↔u.fit4 (v.add w):=by
 constructor
 ·rintro ⟨h1,h2,h3,h4⟩;exact ⟨by simp only [RU.add,List.length_append] at*;omega,by simp only [RU.add,List.length_append] at*;omega,by simp only [RU.add,List.length_append] at*;omega,by simp only [RU.add,List.length_append] at*;omega⟩
 ·rintro ⟨h1,h2,h3,h4⟩;exact ⟨by simp only [RU.add,List.length_append] at*;omega,by simp only [RU.add,List.length_append] at*;omega,by simp only [RU.add,List.length_append] at*;omega,by simp only [RU.add,List.length_append] at*;omega⟩
theorem RU.fit4_l{u v w:RU}(h:u.fit4 (v.add w)):u.fit4 v:=by
 obtain ⟨h1,h2,h3,h4⟩:=h
 exact ⟨by simp only [RU.add,List.length_append] at*;omega,by simp only [RU.add,List.length_append] at*;omega,by simp only [RU.add,List.length_append] at*;omega,by simp only [RU.add,List.length_append] at*;omega⟩
theorem rpl21_p(vs:List KV)(p:PL)(ok:OkP vs p)(u:RU)(hf:u.fit4 (plU vs p)):Pure Tryz.prog gs0 70 [vsA vs,uA (canU u),encPl p] (uA (canU (u.add (plU vs p)))):=by
 obtain ⟨v,ix⟩:=p
 obtain ⟨okl,okv,okx⟩:=ok
 obtain ⟨hr,hw,-,-⟩:=hf
 simp only at okl okv okx
 simp only [plU,List.length_cons,List.length_nil] at hr hw
 have hcw:(canE u.w).length≤400000000:=Nat.le_trans (canE_len _) (by omega)
 cases ix with
 |nil=>
  have hu:u.add (plU vs ⟨v,[]⟩)=⟨u.r,u.w++[(v,0)],u.i,u.o⟩:=by simp [RU.add,plU,rdKl,plE]
  have had:=addE_p (canE u.w) (v,0) hcw
  rw [canE_add] at had
  rw [hu]
  refine p_ tt_ok Tryz.func70 41 fun w0 h0 F hgs=>?_
  (refine b_ fun bx=>?_;refine b_ fun bx=>?_;refine b_ fun bx=>?_;refine y_ ?_)
  refine c_ had ?_
  refine A.retC (Λ':=[]) rfl rfl rfl rfl rfl (List.nil_sublist _) ⟨?_,rfl⟩
  exact s_
 |cons x l=>
  have hl:l=[]:=by
   cases l with
   |nil=>rfl
   |cons y r=>simp at okl
  subst hl
  obtain ⟨hv0,hv1⟩:=okv (by simp)
  have okx:=okx x (List.mem_singleton.2 rfl)
  have hu:u.add (plU vs ⟨v,[x]⟩)=⟨u.r++rdK vs x,u.w++[elemM vs v x],u.i,u.o⟩:=by simp [RU.add,plU,rdKl,plE]
  have hel:=relem_p vs v x hv0 hv1 (okK_e okx).2.2.1
  rw [encK_eq] at hel
  have hrd:=reads_p vs x okx u.r (by simpa [rdKl] using hr)
  have had:=addE_p (canE u.w) (elemM vs v x) hcw
  rw [canE_add] at had
  rw [hu]
  refine p_ tt_ok Tryz.func70 41 fun w0 h0 F hgs=>?_
  (refine b_ fun bx=>?_;refine b_ fun bx=>?_;refine b_ fun bx=>?_;refine y_ ?_)
  refine d_ 10 [0,1,2,3,4,5,6,7,8,9] [(9,encE (elemM vs v x))] ?_
  refine iw_ rfl (encKl_at (l:=[x]) (i:=0) rfl) (encK_eq x) ?_
  refine cw_ hel ?_
  refine WA.nil (l:=[]) rfl ?_
  refine c_ had ?_
  refine d_ 7 [0,1,2,3,4,5,6] [] ?_
  refine iw_ rfl (encKl_at (l:=[x]) (i:=0) rfl) (encK_eq x) ?_
  refine WA.nil (l:=[]) rfl ?_
  refine c_ hrd ?_
  refine A.retC (Λ':=[]) rfl rfl rfl rfl rfl (List.nil_sublist _) ⟨?_,rfl⟩
  exact s_
abbrev uZ:AV:= .ag ([Value.slice none 0 0,Value.slice none 0 0,Value.slice none 0 0,Value.slice none 0 0].map .v)
abbrev usE(b4 b5 b6:Nat)(u:RU)(p:PR):List AEnt:=[.box b6 uZ, .box b5 (cellsR p), .box b4 (uA (canU u))]
theorem addR_eq(u:RU)(l:List EL):u.addR l=u.add ⟨l,[],[],[]⟩:=by simp only [RU.addR,RU.add,List.append_nil]
theorem uses_a(vs:List KV)(p:PR)(ok:UseR vs p)(hL: ∀x,x∈p.l→ ∀u:RU,u.fit4 (rawR vs x)→Pure Tryz.prog gs0 38 [vsA vs,uA (canU u),cellsR x] (uA (canU (u.add (rawR vs x)))))
 (hG: ∀g,g∈p.gs→ ∀x,x∈g.body→ ∀u:RU,u.fit4 (rawR vs x)→Pure Tryz.prog gs0 38 [vsA vs,uA (canU u),cellsR x] (uA (canU (u.add (rawR vs x)))))
 (u:RU) (hf:u.fit4 (rawR vs p)):Pure Tryz.prog gs0 38 [vsA vs,uA (canU u),cellsR p] (uA (canU (u.add (rawR vs p)))):=by
 rw [rawR_eq] at hf⊢
 have hfo:u.fit4 (ownU vs p.kind p.c p.v):=RU.fit4_l (RU.fit4_l (RU.fit4_l hf))
 rw [RU.add_assoc,RU.add_assoc] at hf⊢
 rw [←RU.add_assoc u]
 have hf:=RU.fit4_add.2 hf
 refine Exists.elim (show∃u1,u1=u.add (ownU vs p.kind p.c p.v) from ⟨_,rfl⟩) fun u1 hu1=>?_
 rw [←hu1] at hf⊢
 refine p_ tt_ok Tryz.func38 147 fun w0 h0 F hgs=>?_
 refine y_ ?_
 refine A.b rfl fun b4=>?_
 refine A.b rfl fun b5=>?_
 refine A.b rfl fun b6=>?_
 refine y_ ?_
 refine A.join (ι:=Unit) ⟨[(0,vsA vs),(4,PT b4),(5,PT b5),(6,PT b6)],[]⟩ (fun _=>usE b4 b5 b6 u1 p) (fun _=>?_) (fun tail=>?_)
 case refine_2=>
  by_cases h3:p.kind=3
  ·obtain ⟨hv0,hv1⟩:=ok.v h3
   refine Exists.elim (at_ex (l:=vs) hv0 hv1) fun x hx=>?_
   have hdim:dimOf vs p.v=x.dim:=by unfold dimOf;rw [hx]
   rw [h3,ownU_3,hdim] at hfo
   have hw:=hfo.w
   simp only [List.length_cons,List.length_nil] at hw
   have hcw:(canE u.w).length≤400000000:=Nat.le_trans (canE_len _) (by omega)
   refine A.valE 15 rfl (x':=AB true) (ab_eq (beq_iff_eq.2 h3)) ?_
   (refine b_ fun bx=>?_;refine y_ ?_)
   refine A.x rfl hv0 (map_at hx) rfl rfl ?_
   refine y_ ?_
   refine k_ (fun hc=>?_) fun hc=>?_
   ·have hd:0<x.dim:=by simpa using hc
    have ho:u1=⟨u.r,u.w++[(p.v,-1)],u.i,u.o⟩:=by rw [hu1,h3,ownU_3,hdim,if_pos hd];simp [RU.add]
    have had:=addE_p (canE u.w) (p.v,-1) hcw
    rw [canE_add] at had
    clear hc
    refine y_ ?_
    refine n_ had ?_
    (repeat ((fail_if_success refine A.atB ?_);first|refine A.s rfl ?_|refine A.r rfl rfl ?_|refine A.w rfl rfl ?_|refine A.p rfl ?_|refine A.b rfl fun bx=>?_|refine A.t rfl fun bl=>?_))
    refine A.less (Λ':=[_,_,_]) (List.Sublist.cons _ (List.Sublist.refl _)) ?_
    refine A.entsEq (Λ':=usE b4 b5 b6 u1 p) (by rw [ho];rfl) ?_
    exact A.sub su_ (tail ())
   ·have hd: ¬0<x.dim:=by simpa using hc
    have ho:u1=⟨u.r,u.w++[(p.v,0)],u.i,u.o⟩:=by rw [hu1,h3,ownU_3,hdim,if_neg hd];simp [RU.add]
    have had:=addE_p (canE u.w) (p.v,0) hcw
    rw [canE_add] at had
    clear hc
    refine y_ ?_
    refine n_ had ?_
    (repeat ((fail_if_success refine A.atB ?_);first|refine A.s rfl ?_|refine A.r rfl rfl ?_|refine A.w rfl rfl ?_|refine A.p rfl ?_|refine A.b rfl fun bx=>?_|refine A.t rfl fun bl=>?_))
    refine A.less (Λ':=[_,_,_]) (List.Sublist.cons _ (List.Sublist.refl _)) ?_
    refine A.entsEq (Λ':=usE b4 b5 b6 u1 p) (by rw [ho];rfl) ?_
    exact A.sub su_ (tail ())
  by_cases h5:p.kind=5
  ·have how:ownU vs p.kind p.c p.v=⟨[],[],[p.c],[]⟩:=by rw [h5];rfl
   rw [how] at hfo
   have hw:=hfo.i
   simp only [List.length_cons,List.length_nil] at hw
   have ho:u1=⟨u.r,u.w,u.i++[p.c],u.o⟩:=by rw [hu1,how];simp [RU.add]
   have had:=addI_p (canI u.i) p.c (Nat.le_trans (canI_len _) (by omega))
   rw [canI_add] at had
   refine e_ 15 rfl (x':=AB false) (ab_eq (beq_eq_false_iff_ne.2 h3)) ?_
   refine e_ 33 rfl (x':=AB true) (ab_eq (beq_iff_eq.2 h5)) ?_
   refine n_ had ?_
   (repeat ((fail_if_success refine A.atB ?_);first|refine A.s rfl ?_|refine A.r rfl rfl ?_|refine A.w rfl rfl ?_|refine A.p rfl ?_|refine A.b rfl fun bx=>?_|refine A.t rfl fun bl=>?_))
   refine A.entsEq (Λ':=usE b4 b5 b6 u1 p) (by rw [ho];rfl) ?_
   exact A.sub su_ (tail ())
  by_cases h6:p.kind=6
  ·have how:ownU vs p.kind p.c p.v=⟨[],[],[],[p.c]⟩:=by rw [h6];rfl
   rw [how] at hfo
   have hw:=hfo.o
   simp only [List.length_cons,List.length_nil] at hw
   have ho:u1=⟨u.r,u.w,u.i,u.o++[p.c]⟩:=by rw [hu1,how];simp [RU.add]
   have had:=addI_p (canI u.o) p.c (Nat.le_trans (canI_len _) (by omega))
   rw [canI_add] at had
   refine e_ 15 rfl (x':=AB false) (ab_eq (beq_eq_false_iff_ne.2 h3)) ?_
   refine e_ 33 rfl (x':=AB false) (ab_eq (beq_eq_false_iff_ne.2 h5)) ?_
   refine e_ 41 rfl (x':=AB true) (ab_eq (beq_iff_eq.2 h6)) ?_
   refine n_ had ?_
   (repeat ((fail_if_success refine A.atB ?_);first|refine A.s rfl ?_|refine A.r rfl rfl ?_|refine A.w rfl rfl ?_|refine A.p rfl ?_|refine A.b rfl fun bx=>?_|refine A.t rfl fun bl=>?_))
   refine A.entsEq (Λ':=usE b4 b5 b6 u1 p) (by rw [ho];rfl) ?_
   exact A.sub su_ (tail ())
  have how:ownU vs p.kind p.c p.v= .nil:=by unfold ownU;rw [if_neg h3,if_neg h5,if_neg h6]
  refine e_ 15 rfl (x':=AB false) (ab_eq (beq_eq_false_iff_ne.2 h3)) ?_
  refine e_ 33 rfl (x':=AB false) (ab_eq (beq_eq_false_iff_ne.2 h5)) ?_
  refine A.valE 41 rfl (x':=AB false) (ab_eq (beq_eq_false_iff_ne.2 h6)) ?_
  (repeat ((fail_if_success refine A.atB ?_);first|refine A.s rfl ?_|refine A.r rfl rfl ?_|refine A.w rfl rfl ?_|refine A.p rfl ?_|refine A.b rfl fun bx=>?_|refine A.t rfl fun bl=>?_))
  refine A.entsEq (Λ':=usE b4 b5 b6 u1 p) (by rw [hu1,how,RU.add_nil];rfl) ?_
  exact A.sub su_ (tail ())
 clear hfo hu1
 have hfp:=RU.fit4_l hf
 have htl:=ok.tl
 refine y_ ?_
 refine A.keep [0,4,5,6,8] rfl ?_
 refine A.loopP (ι:=Nat) (fun j=>(⟨[(0,vsA vs),(4,PT b4),(5,PT b5),(6,PT b6),(8,AI (j:Nat))],[]⟩,usE b4 b5 b6 (u1.add (plsU vs (p.to.take j))) p)) (fun j=>j≤p.to.length) (fun j=>p.to.length-j) 0 (Nat.zero_le _) (by simp [plsU,RU.add_nil]) fun i hj ih=>?_
 refine y_ ?_
 refine k_ (fun hc=>?_) fun hc=>?_
 ·have hc':i<p.to.length:=by have:((i:Int)<(p.to.map encPl).length):=by simpa using hc
                             rw [List.length_map] at this;omega
  clear hc
  refine Exists.elim (at_exN (l:=p.to) (i:=i) hc') fun x hx=>?_
  have hfx:(u1.add (plsU vs (p.to.take i))).fit4 (plU vs x):=by
   have h1:=hfp
   rw [cut_at hx,plsU_app,plsU_app] at h1
   have h2:=RU.fit4_l (RU.fit4_add.2 h1)
   rwa [plsU,plsU,RU.add_nil] at h2
  have hpl:=rpl21_p vs x (ok.to x (List.mem_of_getElem? hx)) (u1.add (plsU vs (p.to.take i))) hfx
  rw [RU.add_assoc,show (plsU vs (p.to.take i)).add (plU vs x)=plsU vs (p.to.take (i+1)) by rw [take_step hx,plsU_app,plsU,plsU,RU.add_nil]] at hpl
  clear hfx
  refine y_ ?_
  refine d_ 7 [0,1,2,3,4,5,6] [] ?_
  refine iw_ rfl (map_at hx) rfl ?_
  refine WA.nil (l:=[]) rfl ?_
  refine c_ hpl ?_
  refine A.valE 8 rfl (x':=AI ((i+1:Nat):Int)) (inc_eq i (by omega)) ?_
  refine u_ (ih (i+1) (by omega) (by omega))
 have hil:i=p.to.length:=by have: ¬((i:Int)<(p.to.map encPl).length):=by simpa using hc
                            rw [List.length_map] at this;omega
 clear hc ih hj htl hfp
 have hf:=RU.fit4_add.2 hf
 refine Exists.elim (show∃u2,u2=u1.add (plsU vs p.to) from ⟨_,rfl⟩) fun u2 hu2=>?_
 refine A.entsEq (Λ':=usE b4 b5 b6 u2 p) (by rw [hil,List.take_length,hu2]) ?_
 rw [←hu2] at hf
 clear hil
 have hfe:=(RU.fit4_l hf).r
 simp only at hfe
 have hel:=ok.el
 have hlen:=encKl_len p.e
 refine y_ ?_
 refine A.keep [0,4,5,6,9] rfl ?_
 refine A.loopP (ι:=Nat) (fun j=>(⟨[(0,vsA vs),(4,PT b4),(5,PT b5),(6,PT b6),(9,AI (j:Nat))],[]⟩,usE b4 b5 b6 (u2.addR (rdKl vs (p.e.take j))) p)) (fun j=>j≤p.e.length) (fun j=>p.e.length-j) 0 (Nat.zero_le _) (by simp [rdKl,RU.addR]) fun i hj ih=>?_
 refine y_ ?_
 refine k_ (fun hc=>?_) fun hc=>?_
 ·have hc':i<p.e.length:=by have:((i:Int)<(encKl p.e).length):=by simpa using hc
                            omega
  clear hc
  refine Exists.elim (at_exN (l:=p.e) (i:=i) hc') fun x hx=>?_
  have hle:=rdKl_le (vs:=vs) hx
  have hpl:=reads_p vs x (ok.e x (List.mem_of_getElem? hx)) (u2.r++rdKl vs (p.e.take i)) (by simp only [List.length_append];omega)
  rw [show (u2.r++rdKl vs (p.e.take i))++rdK vs x=u2.r++rdKl vs (p.e.take (i+1)) by rw [rdKl_take hx,List.append_assoc]] at hpl
  clear hle
  refine y_ ?_
  refine d_ 8 [0,1,2,3,4,5,6,7] [] ?_
  refine iw_ rfl (encKl_at hx) (encK_eq x) ?_
  refine WA.nil (l:=[]) rfl ?_
  refine c_ hpl ?_
  refine A.valE 9 rfl (x':=AI ((i+1:Nat):Int)) (inc_eq i (by omega)) ?_
  refine u_ (ih (i+1) (by omega) (by omega))
 have hil:i=p.e.length:=by have: ¬((i:Int)<(encKl p.e).length):=by simpa using hc
                           omega
 clear hc ih hj hel hfe hlen
 have hf:=RU.fit4_add.2 hf
 refine Exists.elim (show∃u3,u3=u2.add ⟨rdKl vs p.e,[],[],[]⟩ from ⟨_,rfl⟩) fun u3 hu3=>?_
 refine A.entsEq (Λ':=usE b4 b5 b6 u3 p) (by rw [hil,List.take_length,hu3,addR_eq]) ?_
 rw [←hu3] at hf
 clear hil
 have hfl:=RU.fit4_l hf
 have hll:=ok.ll
 have hlen:=encRl_len p.l
 refine y_ ?_
 refine A.keep [0,4,5,6,10] rfl ?_
 refine A.loopP (ι:=Nat) (fun j=>(⟨[(0,vsA vs),(4,PT b4),(5,PT b5),(6,PT b6),(10,AI (j:Nat))],[]⟩,usE b4 b5 b6 (u3.add (rawRl vs (p.l.take j))) p)) (fun j=>j≤p.l.length) (fun j=>p.l.length-j) 0 (Nat.zero_le _) (by simp [rawRl,RU.add_nil]) fun i hj ih=>?_
 refine y_ ?_
 refine k_ (fun hc=>?_) fun hc=>?_
 ·have hc':i<p.l.length:=by have:((i:Int)<(encRl p.l).length):=by simpa using hc
                            omega
  clear hc
  refine Exists.elim (at_exN (l:=p.l) (i:=i) hc') fun x hx=>?_
  have hfx:(u3.add (rawRl vs (p.l.take i))).fit4 (rawR vs x):=by
   have h1:=hfl
   rw [cut_at hx,rawRl_app,rawRl_app] at h1
   have h2:=RU.fit4_l (RU.fit4_add.2 h1)
   rwa [rawRl,rawRl,RU.add_nil] at h2
  have hpl:=hL x (List.mem_of_getElem? hx) (u3.add (rawRl vs (p.l.take i))) hfx
  rw [RU.add_assoc,show (rawRl vs (p.l.take i)).add (rawR vs x)=rawRl vs (p.l.take (i+1)) by rw [take_step hx,rawRl_app,rawRl,rawRl,RU.add_nil]] at hpl
  clear hfx
  refine y_ ?_
  refine d_ 7 [0,1,2,3,4,5,6] [] ?_
  refine iw_ rfl (encRl_at hx) (encR_eq x) ?_
  refine WA.nil (l:=[]) rfl ?_
  refine c_ hpl ?_
  refine A.valE 10 rfl (x':=AI ((i+1:Nat):Int)) (inc_eq i (by omega)) ?_
  refine u_ (ih (i+1) (by omega) (by omega))
 have hil:i=p.l.length:=by have: ¬((i:Int)<(encRl p.l).length):=by simpa using hc
                           omega
 clear hc ih hj hll hfl hlen
 have hf:=RU.fit4_add.2 hf
 refine Exists.elim (show∃u4,u4=u3.add (rawRl vs p.l) from ⟨_,rfl⟩) fun u4 hu4=>?_
 refine A.entsEq (Λ':=usE b4 b5 b6 u4 p) (by rw [hil,List.take_length,hu4]) ?_
 rw [←hu4] at hf
 clear hil
 have hgl:=ok.gl
 have hlen:=encGl_len p.gs
 refine y_ ?_
 refine A.keep [0,4,5,6,11] rfl ?_
 refine A.loopP (ι:=Nat) (fun j=>(⟨[(0,vsA vs),(4,PT b4),(5,PT b5),(6,PT b6),(11,AI (j:Nat))],[]⟩,usE b4 b5 b6 (u4.add (rawGl vs (p.gs.take j))) p)) (fun j=>j≤p.gs.length) (fun j=>p.gs.length-j) 0 (Nat.zero_le _) (by simp [rawGl,RU.add_nil]) fun i hj ih=>?_
 refine y_ ?_
 refine k_ (fun hc=>?_) fun hc=>?_
 rotate_left
 ·have hil:i=p.gs.length:=by have: ¬((i:Int)<(encGl p.gs).length):=by simpa using hc
                             omega
  clear hc ih hj hgl hlen
  have he:u4.add (rawGl vs (p.gs.take i))=u1.add ((plsU vs p.to).add ((RU.mk (rdKl vs p.e) [] [] []).add ((rawRl vs p.l).add (rawGl vs p.gs)))):=by rw [hil,List.take_length,hu4,hu3,hu2];simp only [RU.add_assoc]
  refine A.entsEq (Λ':=usE b4 b5 b6 (u1.add ((plsU vs p.to).add ((RU.mk (rdKl vs p.e) [] [] []).add ((rawRl vs p.l).add (rawGl vs p.gs))))) p) (by rw [he]) ?_
  refine y_ ?_
  refine A.retC (Λ':=[]) rfl rfl rfl rfl rfl (List.nil_sublist _) ⟨?_,rfl⟩
  exact s_
 have hc':i<p.gs.length:=by have:((i:Int)<(encGl p.gs).length):=by simpa using hc
                            omega
 clear hc
 refine Exists.elim (at_exN (l:=p.gs) (i:=i) hc') fun g hx=>?_
 have hgm:=List.mem_of_getElem? hx
 have hgk:=useG_all (ok.g g hgm)
 obtain ⟨y,yr,hyb⟩:=List.exists_cons_of_ne_nil hgk.ne
 have hy0:g.body[(0:Int).toNat]? =some y:=by rw [hyb];rfl
 have hfx:(u4.add (rawGl vs (p.gs.take i))).fit4 (rawG vs g):=by
  have h1:=hf
  rw [cut_at hx,rawGl_app,rawGl_app] at h1
  have h2:=RU.fit4_l (RU.fit4_add.2 h1)
  rwa [rawGl,rawGl,RU.add_nil] at h2
 have hend:(u4.add (rawGl vs (p.gs.take i))).add (rawG vs g)=u4.add (rawGl vs (p.gs.take (i+1))):=by
  rw [RU.add_assoc,take_step hx,rawGl_app,rawGl,rawGl,RU.add_nil]
 have hrb:rawB vs g.body=rawR vs y:=by rw [hyb,rawB]
 rw [rawG_eq,hrb,gdU] at hfx hend
 refine Exists.elim (show∃v0,v0=u4.add (rawGl vs (p.gs.take i)) from ⟨_,rfl⟩) fun v0 hv0=>?_
 refine A.entsEq (Λ':=usE b4 b5 b6 v0 p) (by rw [hv0]) ?_
 rw [←hv0] at hfx hend
 rw [RU.add_assoc,←RU.add_assoc v0] at hend
 rw [RU.add_assoc] at hfx
 have hfc:=(RU.fit4_l hfx).r
 simp only at hfc
 have hfx:=RU.fit4_add.2 hfx
 refine Exists.elim (show∃v1,v1=v0.add ⟨rdK vs g.cond,[],[],[]⟩ from ⟨_,rfl⟩) fun v1 hv1=>?_
 rw [←hv1] at hfx hend
 clear hv0
 have hpl:=reads_p vs g.cond hgk.cond v0.r hfc
 have hv1':v0.addR (rdK vs g.cond)=v1:=by rw [hv1,addR_eq]
 clear hv1 hfc
 rw [←RU.add_assoc v1] at hend
 have hf2:=RU.fit4_add.2 hfx
 have hfx:=RU.fit4_l hfx
 refine Exists.elim (show∃v2,v2=v1.add (if g.kind=4 then ⟨rdK vs g.time,[],[],[]⟩ else if g.kind=3 then (RU.mk [] [] [g.c] []).add (plU vs g.to) else .nil) from ⟨_,rfl⟩) fun v2 hv2=>?_
 rw [←hv2] at hend hf2
 have hpr:=hG g hgm y (by rw [hyb];exact List.mem_cons_self ..) v2 hf2
 rw [hend] at hpr
 clear hend hf2
 refine y_ ?_
 refine j_ rfl (encGl_at hx) (encG_eq g) ?_
 (refine b_ fun bx=>?_;refine y_ ?_)
 revert bx
 intro bg
 refine n_ hpl ?_
 clear hpl
 refine y_ ?_
 refine A.entsEq (Λ':= .box bg (cellsG g)::usE b4 b5 b6 v1 p) (by rw [←hv1'];rfl) ?_
 clear hv1'
 by_cases h4:g.kind=4
 ·rw [if_pos h4] at hfx hv2
  have hpl:=reads_p vs g.time (hgk.time h4) v1.r hfx.r
  have hv2':v1.addR (rdK vs g.time)=v2:=by rw [hv2,addR_eq]
  have hn3: ¬g.kind=3:=by omega
  refine e_ 117 rfl (x':=AB true) (ab_eq (beq_iff_eq.2 h4)) ?_
  refine c_ hpl ?_
  refine A.valE 127 rfl (x':=AB false) (ab_eq (beq_eq_false_iff_ne.2 hn3)) ?_
  refine A.entsEq (Λ':= .box bg (cellsG g)::usE b4 b5 b6 v2 p) (by rw [←hv2'];rfl) ?_
  refine y_ ?_
  refine d_ 6 [0,1,2,3,4,5] [] ?_
  refine iw_ rfl (encRl_at hy0) (encR_eq y) ?_
  refine WA.nil (l:=[]) rfl ?_
  refine c_ hpr ?_
  refine A.less (Λ':=usE b4 b5 b6 (u4.add (rawGl vs (p.gs.take (i+1)))) p) (List.Sublist.cons _ (List.Sublist.refl _)) ?_
  refine A.valE 11 rfl (x':=AI ((i+1:Nat):Int)) (inc_eq i (by omega)) ?_
  refine u_ (ih (i+1) (by omega) (by omega))
 by_cases h3:g.kind=3
 ·rw [if_neg h4,if_pos h3] at hfx hv2
  rw [←RU.add_assoc] at hv2
  have hf3:=RU.fit4_add.2 hfx
  have hfi:=(RU.fit4_l hfx).i
  simp only [List.length_cons,List.length_nil] at hfi
  have ho:v1.add ⟨[],[],[g.c],[]⟩=⟨v1.r,v1.w,v1.i++[g.c],v1.o⟩:=by simp [RU.add]
  rw [ho] at hv2 hf3
  have had:=addI_p (canI v1.i) g.c (Nat.le_trans (canI_len _) (by omega))
  rw [canI_add] at had
  have hpl:=rpl21_p vs g.to (hgk.to h3) _ hf3
  rw [←hv2] at hpl
  refine e_ 117 rfl (x':=AB false) (ab_eq (beq_eq_false_iff_ne.2 h4)) ?_
  refine e_ 127 rfl (x':=AB true) (ab_eq (beq_iff_eq.2 h3)) ?_
  refine c_ had ?_
  refine c_ hpl ?_
  refine d_ 6 [0,1,2,3,4,5] [] ?_
  refine iw_ rfl (encRl_at hy0) (encR_eq y) ?_
  refine WA.nil (l:=[]) rfl ?_
  refine c_ hpr ?_
  refine A.less (Λ':=usE b4 b5 b6 (u4.add (rawGl vs (p.gs.take (i+1)))) p) (List.Sublist.cons _ (List.Sublist.refl _)) ?_
  refine A.valE 11 rfl (x':=AI ((i+1:Nat):Int)) (inc_eq i (by omega)) ?_
  refine u_ (ih (i+1) (by omega) (by omega))
 rw [if_neg h4,if_neg h3,RU.add_nil] at hv2
 refine e_ 117 rfl (x':=AB false) (ab_eq (beq_eq_false_iff_ne.2 h4)) ?_
 refine A.valE 127 rfl (x':=AB false) (ab_eq (beq_eq_false_iff_ne.2 h3)) ?_
 refine A.entsEq (Λ':= .box bg (cellsG g)::usE b4 b5 b6 v2 p) (by rw [hv2]) ?_
 refine y_ ?_
 refine d_ 6 [0,1,2,3,4,5] [] ?_
 refine iw_ rfl (encRl_at hy0) (encR_eq y) ?_
 refine WA.nil (l:=[]) rfl ?_
 refine c_ hpr ?_
 refine A.less (Λ':=usE b4 b5 b6 (u4.add (rawGl vs (p.gs.take (i+1)))) p) (List.Sublist.cons _ (List.Sublist.refl _)) ?_
 refine A.valE 11 rfl (x':=AI ((i+1:Nat):Int)) (inc_eq i (by omega)) ?_
 refine u_ (ih (i+1) (by omega) (by omega))
theorem uses_n(vs:List KV): ∀(m:Nat) (p:PR),SizeOf.sizeOf p≤m→useR vs p→ ∀(u:RU),u.fit4 (rawR vs p)→Pure Tryz.prog gs0 38 [vsA vs,uA (canU u),cellsR p] (uA (canU (u.add (rawR vs p))))
 |0,p,h,_,_,_=>by obtain ⟨k,c,v,i,to,e,gs,l⟩:=p;simp at h
 |m+1,p,h,ok,u,hf=>by
  have okp:=useR_all ok
  refine uses_a vs p okp (fun x hx u hf=>?_) (fun g hg x hx u hf=>?_) u hf
  ·refine uses_n vs m x ?_ (okp.l x hx) u hf
   have h1:=List.sizeOf_lt_of_mem hx
   obtain ⟨k,c,v,i,to,e,gs,l⟩:=p
   simp only [PR.mk.sizeOf_spec,PR.l] at h h1
   omega
  ·refine uses_n vs m x ?_ ((useG_all (okp.g g hg)).body x hx) u hf
   have h1:=List.sizeOf_lt_of_mem hx
   have h2:=List.sizeOf_lt_of_mem hg
   obtain ⟨k,c,v,i,to,e,gs,l⟩:=p
   obtain ⟨k',e',c',i',to',t',b'⟩:=g
   simp only [PR.mk.sizeOf_spec,PR.gs,GD.mk.sizeOf_spec,GD.body] at h h1 h2
   omega
theorem le_fit4{u:RU}{n:Nat}(h:u.le n)(hn:n≤400000000):RU.nil.fit4 u:=by
 obtain ⟨h1,h2,h3,h4⟩:=h
 exact ⟨by simp only [RU.nil,List.length_nil];omega,by simp only [RU.nil,List.length_nil];omega,by simp only [RU.nil,List.length_nil];omega,by simp only [RU.nil,List.length_nil];omega⟩
theorem fits_use4{vs:List KV}{n:Nat}{high:Bool}{p:PR}{d:Int}(h:fitsR vs n high p 2048 d)(hw:wfR p):useR vs p∧RU.nil.fit4 (rawR vs p):=by
 obtain ⟨h1,h2,h3⟩:=h
 obtain ⟨a1,a2⟩:=use_ok vs n _ p high (Nat.le_refl _) h1 hw
 exact ⟨a1,le_fit4 a2 (by omega)⟩
theorem ruses_p(vs:List KV)(p:PR)(ok:useR vs p)(hf:RU.nil.fit4 (rawR vs p)):Pure Tryz.prog gs0 38 [vsA vs,uA .nil,cellsR p] (uA (usesM vs p)):=by
 have h:=uses_n vs _ p (Nat.le_refl _) ok .nil hf
 rwa [RU.nil_add,show canU .nil= .nil from rfl] at h
theorem rOf_p(k:KN)(p:PR)(hk:WfN k)(hp:wfR p):Pure Tryz.prog gs0 11 [encN k,cellsR p] (ofM k p):=by
 have h1:=rmay16_p k hk
 have h2:=rmay16_p (subN k p) (sub_wf hk hp)
 by_cases c1:mayK k=true
 ·rw [c1] at h1
  by_cases c2:mayK (subN k p)=true
  ·rw [c2] at h2
   have h3:=ruses_p k.vars p (fits_use4 (may_wf c2) hp).1 (fits_use4 (may_wf c2) hp).2
   rw [show ofM k p= .tp [uA (usesM k.vars p),AI 0] by simp only [ofM,ofOk,c1,c2];rfl]
   refine p_ tt_ok Tryz.func11 25 fun w0 h0 F hgs=>?_
   (refine b_ fun bx=>?_;refine b_ fun bx=>?_;refine b_ fun bx=>?_;refine y_ ?_)
   refine c_ h1 ?_
   refine c_ h2 ?_
   refine c_ h3 ?_
   refine m_ (ResA.cell rfl rfl rfl (ResA.tmp rfl ResA.nil)) ?_;exact s_
  ·have c2:mayK (subN k p)=false:=by simpa using c2
   rw [c2] at h2
   rw [show ofM k p= .tp [uA .nil,AI 2] by simp only [ofM,ofOk,c1,c2];rfl]
   refine p_ tt_ok Tryz.func11 25 fun w0 h0 F hgs=>?_
   (refine b_ fun bx=>?_;refine b_ fun bx=>?_;refine b_ fun bx=>?_;refine y_ ?_)
   refine c_ h1 ?_
   refine c_ h2 ?_
   refine m_ (ResA.cell rfl rfl rfl (ResA.tmp rfl ResA.nil)) ?_;exact s_
 ·have c1:mayK k=false:=by simpa using c1
  rw [c1] at h1
  rw [show ofM k p= .tp [uA .nil,AI 2] by simp only [ofM,ofOk,c1];rfl]
  refine p_ tt_ok Tryz.func11 25 fun w0 h0 F hgs=>?_
  (refine b_ fun bx=>?_;refine b_ fun bx=>?_;refine b_ fun bx=>?_;refine y_ ?_)
  refine c_ h1 ?_
  refine m_ (ResA.cell rfl rfl rfl (ResA.tmp rfl ResA.nil)) ?_;exact s_
abbrev EqUp{α:Type}(a b:List α)(i:Nat):Prop:=i≤a.length∧ ∀j,j<i→a[j]? =b[j]?
theorem eqUp_next{α:Type}{a b:List α}{i:Nat}{x:α}(h:EqUp a b i)(ha:a[i]? =some x)(hb:b[i]? =some x):EqUp a b (i+1):=by
 refine ⟨(List.getElem?_eq_some_iff.1 ha).1,fun j hj=>?_⟩
 by_cases e:j=i
 ·subst e;rw [ha,hb]
 ·exact h.2 j (by omega)
theorem eqUp_all{α:Type}{a b:List α}{i:Nat}(h:EqUp a b i)(hl:a.length=b.length)(hi: ¬i<a.length):a=b:=by
 refine List.ext_getElem? fun j=>?_
 by_cases c:j<a.length
 ·exact h.2 j (by omega)
 ·rw [List.getElem?_eq_none (by omega),List.getElem?_eq_none (by omega)]
theorem sameI_p(a b:List Int)(hl:a.length≤1099511627776):Pure Tryz.prog gs0 39 [intsA a,intsA b] (AB (decide (a=b))):=by
 refine Exists.elim (show∃R,R=decide (a=b) from ⟨_,rfl⟩) fun R hR=>?_
 rw [←hR]
 refine p_ tt_ok Tryz.func39 26 fun w0 h0 F hgs=>?_
 refine y_ ?_
 by_cases hn:a.length=b.length
 case neg=>
  refine e_ 10 rfl (x':=AB true) (ab_eq (by simp;omega)) ?_
  refine R_ ?_
  rw [hR,decide_eq_false (fun h=>hn (by rw [h]))]
  exact .refl
 refine e_ 10 rfl (x':=AB false) (ab_eq (by simp;omega)) ?_
 refine A.keep [0,1,5] rfl ?_
 refine A.loopP (ι:=Nat) (fun i=>(⟨[(0,intsA a),(1,intsA b),(5,AI (i:Nat))],[]⟩,[])) (fun i=>EqUp a b i) (fun i=>a.length-i) 0 ⟨Nat.zero_le _,fun j hj=>by omega⟩ rfl fun i hi ih=>?_
 refine y_ ?_
 refine k_ (fun hc=>?_) fun hc=>?_
 ·have hc:i<a.length:=by simpa using hc
  refine Exists.elim (at_exN (l:=a) (i:=i) hc) fun x hx=>?_
  refine Exists.elim (at_exN (l:=b) (i:=i) (by omega)) fun y hy=>?_
  refine y_ ?_
  refine d_ 8 [0,1,2,3,4,5,6,7] [] ?_
  refine iw_ rfl (map_at hx) rfl ?_
  refine iw_ rfl (map_at hy) rfl ?_
  refine z_ ?_
  refine k_ (fun hc=>?_) fun hc=>?_
  ·have he: ¬x=y:=by simpa using hc
   refine y_ ?_
   refine R_ ?_
   rw [hR,decide_eq_false (fun h=>by rw [h,hy] at hx;injection hx with hx;exact he hx.symm)]
   exact .refl
  ·have he:x=y:=by simpa using hc
   subst he
   refine y_ ?_
   refine A.valE 5 rfl (x':=AI ((i+1:Nat):Int)) (inc_eq i (by omega)) ?_
   refine u_ (ih (i+1) (eqUp_next hi hx hy) (by omega))
 ·have hc: ¬i<a.length:=by simpa using hc
  refine y_ ?_
  refine R_ ?_
  rw [hR,decide_eq_true (eqUp_all hi hn hc)]
  exact .refl
theorem sameE_p(a b:List EL)(hl:a.length≤1099511627776):Pure Tryz.prog gs0 21 [elsA a,elsA b] (AB (decide (a=b))):=by
 refine Exists.elim (show∃R,R=decide (a=b) from ⟨_,rfl⟩) fun R hR=>?_
 rw [←hR]
 refine p_ tt_ok Tryz.func21 26 fun w0 h0 F hgs=>?_
 refine y_ ?_
 by_cases hn:a.length=b.length
 case neg=>
  refine e_ 10 rfl (x':=AB true) (ab_eq (by simp;omega)) ?_
  refine R_ ?_
  rw [hR,decide_eq_false (fun h=>hn (by rw [h]))]
  exact .refl
 refine e_ 10 rfl (x':=AB false) (ab_eq (by simp;omega)) ?_
 refine A.keep [0,1,5] rfl ?_
 refine A.loopP (ι:=Nat) (fun i=>(⟨[(0,elsA a),(1,elsA b),(5,AI (i:Nat))],[]⟩,[])) (fun i=>EqUp a b i) (fun i=>a.length-i) 0 ⟨Nat.zero_le _,fun j hj=>by omega⟩ rfl fun i hi ih=>?_
 refine y_ ?_
 refine k_ (fun hc=>?_) fun hc=>?_
 ·have hc:i<a.length:=by simpa using hc
  refine Exists.elim (at_exN (l:=a) (i:=i) hc) fun x hx=>?_
  refine Exists.elim (at_exN (l:=b) (i:=i) (by omega)) fun y hy=>?_
  refine y_ ?_
  refine d_ 8 [0,1,2,3,4,5,6,7] [] ?_
  refine iw_ rfl (map_atE hx) rfl ?_
  refine iw_ rfl (map_atE hy) rfl ?_
  refine WA.nil (l:=[]) rfl ?_
  refine A.eqSt rfl rfl rfl rfl rfl rfl rfl rfl (elSt x y) ?_
  refine y_ ?_
  refine k_ (fun hc=>?_) fun hc=>?_
  ·have he: ¬x=y:=by simpa [eqV] using hc
   refine y_ ?_
   refine R_ ?_
   rw [hR,decide_eq_false (fun h=>by rw [h,hy] at hx;injection hx with hx;exact he hx.symm)]
   exact .refl
  ·have he:x=y:=by simpa [eqV] using hc
   subst he
   refine y_ ?_
   refine A.valE 5 rfl (x':=AI ((i+1:Nat):Int)) (inc_eq i (by omega)) ?_
   refine u_ (ih (i+1) (eqUp_next hi hx hy) (by omega))
 ·have hc: ¬i<a.length:=by simpa using hc
  refine y_ ?_
  refine R_ ?_
  rw [hR,decide_eq_true (eqUp_all hi hn hc)]
  exact .refl
deriving instance DecidableEq for RU
theorem same21_p(a b:RU)(h:RU.nil.fit a):Pure Tryz.prog gs0 12 [uA a,uA b] (AB (decide (a=b))):=by
 obtain ⟨h1,h2,h3,h4⟩:=h
 simp only [RU.nil,List.length_nil,Nat.zero_add] at h1 h2 h3 h4
 have g1:=sameE_p a.r b.r h1
 have g2:=sameE_p a.w b.w h2
 have g3:=sameI_p a.i b.i h3
 have g4:=sameI_p a.o b.o h4
 have hR:decide (a=b)=(decide (a.r=b.r)&&decide (a.w=b.w)&&decide (a.i=b.i)&&decide (a.o=b.o)):=by
  obtain ⟨x1,x2,x3,x4⟩:=a
  obtain ⟨y1,y2,y3,y4⟩:=b
  simp only [RU.mk.injEq,Bool.decide_and,Bool.and_assoc]
 rw [hR]
 by_cases c1:a.r=b.r
 case neg=>
  rw [decide_eq_false c1] at g1⊢
  refine p_ tt_ok Tryz.func12 31 fun w0 h0 F hgs=>?_
  (refine b_ fun bx=>?_;refine b_ fun bx=>?_;refine y_ ?_)
  exact cr_ g1
 rw [decide_eq_true c1] at g1⊢
 by_cases c2:a.w=b.w
 case neg=>
  rw [decide_eq_false c2] at g2⊢
  refine p_ tt_ok Tryz.func12 31 fun w0 h0 F hgs=>?_
  (refine b_ fun bx=>?_;refine b_ fun bx=>?_;refine y_ ?_)
  refine c_ g1 ?_
  exact cr_ g2
 rw [decide_eq_true c2] at g2⊢
 by_cases c3:a.i=b.i
 case neg=>
  rw [decide_eq_false c3] at g3⊢
  refine p_ tt_ok Tryz.func12 31 fun w0 h0 F hgs=>?_
  (refine b_ fun bx=>?_;refine b_ fun bx=>?_;refine y_ ?_)
  refine c_ g1 ?_
  refine c_ g2 ?_
  exact cr_ g3
 rw [decide_eq_true c3] at g3⊢
 refine p_ tt_ok Tryz.func12 31 fun w0 h0 F hgs=>?_
 (refine b_ fun bx=>?_;refine b_ fun bx=>?_;refine y_ ?_)
 refine c_ g1 ?_
 refine c_ g2 ?_
 refine c_ g3 ?_
 exact cr_ g4
theorem com_step{a b:List Int}{i:Nat}{x:Int}(h:a[i]? =some x):comM (a.take (i+1)) b=if b.contains x then comM (a.take i) b++[x] else comM (a.take i) b:=by
 have:a.take (i+1)=a.take i++[x]:=by rw [List.take_add_one,h];rfl
 unfold comM
 rw [this,List.filter_append]
 by_cases c:b.contains x=true
 ·rw [if_pos c];simp only [List.filter_cons,c,if_true,List.filter_nil]
 ·rw [if_neg c];simp only [List.filter_cons,c];simp
theorem com_len(a b:List Int)(i:Nat):(comM (a.take i) b).length≤a.length:=Nat.le_trans (List.length_filter_le _ _) (by rw [List.length_take];omega)
theorem common_p(a b:List Int)(ha:a.length≤1099511627776)(hb:b.length≤1099511627776):FunE Tryz.prog gs0 103 [intsA a,intsA b] [] (fun z:Value=> .ms z 1 (comM a b).length) (fun z=>[.row 1 z ((comM a b).map AI)]) (fun _=>True):=by
 unfold FunE
 refine Fun.of (S:=tt) (fn:=Tryz.f103) (n:=23) tt_ok Tryz.func103 rfl rfl rfl rfl fun w0 h0 F hgs=>?_
 refine y_ ?_
 refine A.emptyRow 5 1 rfl fun z0=>?_
 refine A.valE 9 rfl (x':=AI (a.length:Nat)) (ai_eq (by rw [List.length_map])) ?_
 refine A.keep [1,5,8,9,10] rfl ?_
 refine A.loopP (ι:=Nat×Value) (fun j=>(⟨[(1,intsA b),(5, .ms j.2 1 (comM (a.take j.1) b).length),(8,intsA a),(9,AI (a.length:Nat)),(10,AI (j.1:Nat))],[]⟩,[.row 1 j.2 ((comM (a.take j.1) b).map AI)])) (fun j=>j.1≤a.length) (fun j=>a.length-j.1) (0,z0) (Nat.zero_le _) rfl fun j hj ih=>?_
 obtain ⟨i,z⟩:=j
 simp only at hj ih⊢
 refine y_ ?_
 refine k_ (fun hc=>?_) fun hc=>?_
 ·have hc:i<a.length:=by simpa using hc
  refine Exists.elim (at_exN (l:=a) (i:=i) hc) fun x hx=>?_
  have hcn:=contains_p b x (by omega)
  have hst:=com_step (b:=b) hx
  have hln:=com_len a b i
  refine y_ ?_
  refine i_ rfl (map_at hx) rfl ?_
  refine c_ hcn ?_
  refine k_ (fun hc=>?_) fun hc=>?_
  ·have hc:b.contains x=true:=hc
   rw [if_pos hc] at hst
   refine t_ fun bl=>?_
   refine A.appendRowE rfl rfl rfl rfl rfl rfl rfl rfl rfl rfl rfl rfl rfl rfl (by show (((comM (a.take i) b).map AI).length+1)*1≤_;rw [List.length_map];omega) (by show (((comM (a.take i) b).map AI).length+1)*1*8≤_;rw [List.length_map];omega) fun z'=>?_
   refine y_ ?_
   refine A.valE 5 rfl (x':= .ms z' 1 (comM (a.take (i+1)) b).length) (by rw [hst,List.length_append,List.length_map];rfl) ?_
   refine A.entsEq (Λ':=[.row 1 z' ((comM (a.take (i+1)) b).map AI)]) (by rw [hst,List.map_append];rfl) ?_
   refine A.valE 10 rfl (x':=AI ((i+1:Nat):Int)) (inc_eq i (by omega)) ?_
   refine u_ (ih (i+1,z') (by show i+1≤_;omega) (by show a.length-(i+1)<a.length-i;omega))
  ·have hc: ¬b.contains x=true:=by rw [show b.contains x=false from hc];simp
   rw [if_neg hc] at hst
   refine y_ ?_
   refine A.valE 5 rfl (x':= .ms z 1 (comM (a.take (i+1)) b).length) (by rw [hst]) ?_
   refine A.entsEq (Λ':=[.row 1 z ((comM (a.take (i+1)) b).map AI)]) (by rw [hst]) ?_
   refine A.valE 10 rfl (x':=AI ((i+1:Nat):Int)) (inc_eq i (by omega)) ?_
   refine u_ (ih (i+1,z) (by show i+1≤_;omega) (by show a.length-(i+1)<a.length-i;omega))
 ·have hil:i=a.length:=by have: ¬i<a.length:=by simpa using hc
                          omega
  refine A.valE 5 rfl (x':= .ms z 1 (comM a b).length) (by rw [hil,List.take_length]) ?_
  refine A.entsEq (Λ':=[.row 1 z ((comM a b).map AI)]) (by rw [hil,List.take_length]) ?_
  refine y_ ?_
  refine A.ret1 (Λ':=[.row 1 _ _]) rfl rfl rfl sl_ ⟨z, .refl,rfl,trivial⟩
def over1(x:EL)(b:List EL):List EL:=(b.filter (meetE x)).map fun y=>(x.1,max x.2 y.2)
theorem over_eq(a b:List EL):overM a b=a.flatMap fun x=>over1 x b:=rfl
theorem over_step{a b:List EL}{i:Nat}{x:EL}(h:a[i]? =some x):overM (a.take (i+1)) b=overM (a.take i) b++over1 x b:=by
 have:a.take (i+1)=a.take i++[x]:=by rw [List.take_add_one,h];rfl
 rw [over_eq,this,List.flatMap_append,over_eq];simp
theorem over1_step{x y:EL}{b:List EL}{j:Nat}(h:b[j]? =some y):over1 x (b.take (j+1))=if meetE x y=true then over1 x (b.take j)++[(x.1,max x.2 y.2)] else over1 x (b.take j):=by
 have:b.take (j+1)=b.take j++[y]:=by rw [List.take_add_one,h];rfl
 unfold over1
 rw [this,List.filter_append]
 by_cases c:meetE x y=true
 ·rw [if_pos c];simp only [List.filter_cons,c,if_true,List.filter_nil,List.map_append,List.map_cons,List.map_nil]
 ·rw [if_neg c];simp only [List.filter_cons,c];simp
theorem over1_len(x:EL)(b:List EL):(over1 x b).length≤b.length:=by unfold over1;rw [List.length_map];exact List.length_filter_le _ _
theorem over_len(a b:List EL):(overM a b).length≤a.length*b.length:=by
 induction a with
 |nil=>simp [overM]
 |cons x r ih=>
  have h1:=over1_len x b
  rw [over_eq,List.flatMap_cons,List.length_append,←over_eq,List.length_cons,Nat.succ_mul]
  omega
theorem max_goE(x y:Int):(if y>x then y else x)=max x y:=by omega
theorem om_len{P A B:List EL}{e:EL}(h:B=A++[e]):(P++B).length=((P++A).map encE).length+1:=by subst h;simp only [List.length_append,List.length_map,List.length_cons,List.length_nil];omega
theorem om_map{P A B:List EL}{e:EL}(h:B=A++[e]):(P++B).map encE=(P++A).map encE++[encE e]:=by subst h;simp
theorem overlap_p(a b:List EL)(ha:a.length≤1000000)(hb:b.length≤1000000):FunE Tryz.prog gs0 102 [elsA a,elsA b] [] (fun z:Value=> .ms z 2 (overM a b).length) (fun z=>[.row 2 z ((overM a b).map encE)]) (fun _=>True):=by
 unfold FunE
 have hbig:a.length*b.length≤1000000000000:=by have:=Nat.mul_le_mul ha hb;omega
 refine Fun.of (S:=tt) (fn:=Tryz.f102) (n:=58) tt_ok Tryz.func102 rfl rfl rfl rfl fun w0 h0 F hgs=>?_
 refine y_ ?_
 refine A.emptyRow 5 2 rfl fun z0=>?_
 refine A.valE 11 rfl (x':=AI (a.length:Nat)) (ai_eq (by rw [List.length_map])) ?_
 refine A.keep [1,5,10,11,12] rfl ?_
 refine A.loopP (ι:=Nat×Value) (fun j=>(⟨[(1,elsA b),(5, .ms j.2 2 (overM (a.take j.1) b).length),(10,elsA a),(11,AI (a.length:Nat)),(12,AI (j.1:Nat))],[]⟩,[.row 2 j.2 ((overM (a.take j.1) b).map encE)])) (fun j=>j.1≤a.length) (fun j=>a.length-j.1) (0,z0) (Nat.zero_le _) rfl fun j hj ih=>?_
 obtain ⟨i,z⟩:=j
 simp only at hj ih⊢
 refine y_ ?_
 refine k_ (fun hc=>?_) fun hc=>?_
 rotate_left
 ·have hil:i=a.length:=by have: ¬i<a.length:=by simpa using hc
                          omega
  refine A.valE 5 rfl (x':= .ms z 2 (overM a b).length) (by rw [hil,List.take_length]) ?_
  refine A.entsEq (Λ':=[.row 2 z ((overM a b).map encE)]) (by rw [hil,List.take_length]) ?_
  refine y_ ?_
  refine A.ret1 (Λ':=[.row 2 _ _]) rfl rfl rfl sl_ ⟨z, .refl,rfl,trivial⟩
 have hc:i<a.length:=by simpa using hc
 refine Exists.elim (at_exN (l:=a) (i:=i) hc) fun x hx=>?_
 have hostep:=over_step (b:=b) hx
 have hol:(overM (a.take i) b).length≤1000000000000:=Nat.le_trans (over_len _ _) (Nat.le_trans (Nat.mul_le_mul_right _ (by rw [List.length_take];omega)) hbig)
 refine y_ ?_
 refine i_ rfl (map_atE hx) rfl ?_
 refine A.b rfl fun b7=>?_
 refine y_ ?_
 refine A.valE 17 rfl (x':=AI (b.length:Nat)) (ai_eq (by rw [List.length_map])) ?_
 refine A.keep [1,5,7,10,11,12,16,17,18] rfl ?_
 refine A.perm (perm_pick [1,0] rfl rfl rfl rfl) ?_
 refine A.loopP (ι:=Nat×Value) (fun j=>(⟨[(1,elsA b),(5, .ms j.2 2 (overM (a.take i) b++over1 x (b.take j.1)).length),(7,PT b7),(10,elsA a),(11,AI (a.length:Nat)),(12,AI (i:Nat)),(16,elsA b),(17,AI (b.length:Nat)),(18,AI (j.1:Nat))],[]⟩,[.row 2 j.2 ((overM (a.take i) b++over1 x (b.take j.1)).map encE), .box b7 (encE x)])) (fun j=>j.1≤b.length) (fun j=>b.length-j.1) (0,z) (Nat.zero_le _) (by simp [over1]) fun j hj2 ih2=>?_
 obtain ⟨j,z1⟩:=j
 simp only at hj2 ih2⊢
 have hl1:(overM (a.take i) b++over1 x (b.take j)).length≤1000001000000:=by rw [List.length_append];have:=over1_len x (b.take j);rw [List.length_take] at this;omega
 refine y_ ?_
 refine k_ (fun hc2=>?_) fun hc2=>?_
 rotate_left
 ·have hjl:j=b.length:=by have: ¬j<b.length:=by simpa using hc2
                          omega
  refine A.valE 5 rfl (x':= .ms z1 2 (overM (a.take (i+1)) b).length) (by rw [hjl,List.take_length,hostep]) ?_
  refine A.entsEq (Λ':=[.row 2 z1 ((overM (a.take (i+1)) b).map encE), .box b7 (encE x)]) (by rw [hjl,List.take_length,hostep]) ?_
  refine y_ ?_
  refine l_ (Λ':=[.row 2 z1 ((overM (a.take (i+1)) b).map encE)]) ?_
  refine A.valE 12 rfl (x':=AI ((i+1:Nat):Int)) (inc_eq i (by omega)) ?_
  refine u_ (ih (i+1,z1) (by show i+1≤_;omega) (by show a.length-(i+1)<a.length-i;omega))
 have hc2:j<b.length:=by simpa using hc2
 refine Exists.elim (at_exN (l:=b) (i:=j) hc2) fun y hy=>?_
 refine y_ ?_
 refine i_ rfl (map_atE hy) rfl ?_
 refine A.b rfl fun b9=>?_
 by_cases c1:x.1=y.1
 case neg=>
  have hm: ¬meetE x y=true:=by simp [meetE,c1]
  refine y_ ?_
  refine A.gF rfl (by simpa using c1) ?_
  have hst:=over1_step (x:=x) hy
  rw [if_neg hm] at hst
  refine y_ ?_
  refine A.valE 5 rfl (x':= .ms z1 2 (overM (a.take i) b++over1 x (b.take (j+1))).length) (by rw [hst]) ?_
  refine l_ (Λ':=[.row 2 z1 _, .box b7 (encE x)]) ?_
  refine A.entsEq (Λ':=[.row 2 z1 ((overM (a.take i) b++over1 x (b.take (j+1))).map encE), .box b7 (encE x)]) (by rw [hst]) ?_
  refine A.valE 18 rfl (x':=AI ((j+1:Nat):Int)) (inc_eq j (by omega)) ?_
  refine u_ (ih2 (j+1,z1) (by show j+1≤_;omega) (by show b.length-(j+1)<b.length-j;omega))
 by_cases c2:x.2=y.2
 ·have hm:meetE x y=true:=by simp [meetE,c1,c2]
  refine y_ ?_
  refine T_ rfl (by simpa using c1) ?_
  refine A.gT rfl (by simpa using c2) ?_
  have hst:=over1_step (x:=x) hy
  rw [if_pos hm] at hst
  refine t_ fun bl=>?_
  refine A.appendRowE rfl rfl rfl rfl rfl rfl rfl rfl rfl rfl rfl rfl rfl rfl (by show (((overM (a.take i) b++over1 x (b.take j)).map encE).length+1)*2≤_;rw [List.length_map];omega) (by show (((overM (a.take i) b++over1 x (b.take j)).map encE).length+1)*2*16≤_;rw [List.length_map];omega) fun z'=>?_
  refine y_ ?_
  refine A.valE 5 rfl (x':= .ms z' 2 (overM (a.take i) b++over1 x (b.take (j+1))).length) (by rw [om_len hst];rfl) ?_
  refine l_ (Λ':=[.row 2 z' _, .box b7 (encE x)]) ?_
  refine A.entsEq (Λ':=[.row 2 z' ((overM (a.take i) b++over1 x (b.take (j+1))).map encE), .box b7 (encE x)]) (by rw [om_map hst,←max_goE x.2 y.2];rfl) ?_
  refine A.valE 18 rfl (x':=AI ((j+1:Nat):Int)) (inc_eq j (by omega)) ?_
  refine u_ (ih2 (j+1,z') (by show j+1≤_;omega) (by show b.length-(j+1)<b.length-j;omega))
 by_cases c3:x.2<0
 ·have hm:meetE x y=true:=by simp [meetE,c1,c3]
  refine y_ ?_
  refine T_ rfl (by simpa using c1) ?_
  refine F_ rfl (by simpa using c2) ?_
  refine A.gT rfl (by simpa using c3) ?_
  have hst:=over1_step (x:=x) hy
  rw [if_pos hm] at hst
  refine t_ fun bl=>?_
  refine A.appendRowE rfl rfl rfl rfl rfl rfl rfl rfl rfl rfl rfl rfl rfl rfl (by show (((overM (a.take i) b++over1 x (b.take j)).map encE).length+1)*2≤_;rw [List.length_map];omega) (by show (((overM (a.take i) b++over1 x (b.take j)).map encE).length+1)*2*16≤_;rw [List.length_map];omega) fun z'=>?_
  refine y_ ?_
  refine A.valE 5 rfl (x':= .ms z' 2 (overM (a.take i) b++over1 x (b.take (j+1))).length) (by rw [om_len hst];rfl) ?_
  refine l_ (Λ':=[.row 2 z' _, .box b7 (encE x)]) ?_
  refine A.entsEq (Λ':=[.row 2 z' ((overM (a.take i) b++over1 x (b.take (j+1))).map encE), .box b7 (encE x)]) (by rw [om_map hst,←max_goE x.2 y.2];rfl) ?_
  refine A.valE 18 rfl (x':=AI ((j+1:Nat):Int)) (inc_eq j (by omega)) ?_
  refine u_ (ih2 (j+1,z') (by show j+1≤_;omega) (by show b.length-(j+1)<b.length-j;omega))
 by_cases c4:y.2<0
 ·have hm:meetE x y=true:=by simp [meetE,c1,c4]
  refine y_ ?_
  refine T_ rfl (by simpa using c1) ?_
  refine F_ rfl (by simpa using c2) ?_
  refine F_ rfl (by simpa using c3) ?_
  refine A.valE 43 rfl (x':=AB true) (ab_eq (by simpa using c4)) ?_
  have hst:=over1_step (x:=x) hy
  rw [if_pos hm] at hst
  refine t_ fun bl=>?_
  refine A.appendRowE rfl rfl rfl rfl rfl rfl rfl rfl rfl rfl rfl rfl rfl rfl (by show (((overM (a.take i) b++over1 x (b.take j)).map encE).length+1)*2≤_;rw [List.length_map];omega) (by show (((overM (a.take i) b++over1 x (b.take j)).map encE).length+1)*2*16≤_;rw [List.length_map];omega) fun z'=>?_
  refine y_ ?_
  refine A.valE 5 rfl (x':= .ms z' 2 (overM (a.take i) b++over1 x (b.take (j+1))).length) (by rw [om_len hst];rfl) ?_
  refine l_ (Λ':=[.row 2 z' _, .box b7 (encE x)]) ?_
  refine A.entsEq (Λ':=[.row 2 z' ((overM (a.take i) b++over1 x (b.take (j+1))).map encE), .box b7 (encE x)]) (by rw [om_map hst,←max_goE x.2 y.2];rfl) ?_
  refine A.valE 18 rfl (x':=AI ((j+1:Nat):Int)) (inc_eq j (by omega)) ?_
  refine u_ (ih2 (j+1,z') (by show j+1≤_;omega) (by show b.length-(j+1)<b.length-j;omega))
 ·have hm: ¬meetE x y=true:=by simp [meetE,c1,c2,c3,c4]
  refine y_ ?_
  refine T_ rfl (by simpa using c1) ?_
  refine F_ rfl (by simpa using c2) ?_
  refine F_ rfl (by simpa using c3) ?_
  refine A.valE 43 rfl (x':=AB false) (ab_eq (by simpa using c4)) ?_
  have hst:=over1_step (x:=x) hy
  rw [if_neg hm] at hst
  refine y_ ?_
  refine A.valE 5 rfl (x':= .ms z1 2 (overM (a.take i) b++over1 x (b.take (j+1))).length) (by rw [hst]) ?_
  refine l_ (Λ':=[.row 2 z1 _, .box b7 (encE x)]) ?_
  refine A.entsEq (Λ':=[.row 2 z1 ((overM (a.take i) b++over1 x (b.take (j+1))).map encE), .box b7 (encE x)]) (by rw [hst]) ?_
  refine A.valE 18 rfl (x':=AI ((j+1:Nat):Int)) (inc_eq j (by omega)) ?_
  refine u_ (ih2 (j+1,z1) (by show j+1≤_;omega) (by show b.length-(j+1)<b.length-j;omega))
abbrev encC(x:CL):AV:= .ag [intsA x.path,AI x.a,AI x.b,AU8 x.kind,AI x.el.1,AI x.el.2,AI x.c]
abbrev xE(b5 b7:Nat)(x:CL)(zl:Value)(cs:List CL):List AEnt:=[.box b5 (encC x), .box b7 (.ms zl 7 cs.length), .row 7 zl (cs.map encC)]
theorem take_at{α:Type}{l:List α}{i:Nat}{x:α}(h:l[i]? =some x):l.take (i+1)=l.take i++[x]:=by rw [List.take_add_one,h];rfl
theorem cs_len{α:Type}{cs:List CL}{m:List α}{i:Nat}{y:α}{f:α→CL}(h:m[i]? =some y):(cs++(m.take (i+1)).map f).length=((cs++(m.take i).map f).map encC).length+1:=by
 rw [take_at h];simp only [List.length_append,List.length_map,List.length_cons,List.length_nil,List.map_append];omega
theorem cs_map{α:Type}{cs:List CL}{m:List α}{i:Nat}{y:α}{f:α→CL}(h:m[i]? =some y):(cs++(m.take (i+1)).map f).map encC=(cs++(m.take i).map f).map encC++[encC (f y)]:=by
 rw [take_at h];simp
theorem elems_p(b5 b7:Nat)(x:CL)(k:Int)(z:Value)(n:Nat)(m:List EL)(zl:Value)(cs:List CL)(hm:m.length≤1099511627776)(hc:cs.length+(canE m).length≤10000000):
 FunE Tryz.prog gs0 100 [AU8 k, .ms z 2 n,PT b5,PT b7] (xE b5 b7 x zl cs++[.row 2 z (m.map encE)]) (fun _:Int×Value=> .tp []) (fun q=>xE b5 b7 ⟨x.path,x.a,x.b,q.1,(0,0),x.c⟩ q.2 (cs++(canE m).map fun y=>⟨x.path,x.a,x.b,k,y,x.c⟩)) (fun _=>True):=by
 have hso:=sortedE_p z n m hm
 unfold FunE
 refine Exists.elim (show∃r,r=canE m from ⟨_,rfl⟩) fun r hr=>?_
 rw [←hr] at hso hc⊢
 refine Fun.of (S:=tt) (fn:=Tryz.f100) (n:=26) tt_ok Tryz.func100 rfl rfl rfl rfl fun w0 h0 F hgs=>?_
 refine y_ ?_
 refine A.e rfl hso .refl (Λ2:=xE b5 b7 x zl cs) (AOut.perm (x:= .row 2 z (m.map encE))) fun z' _=>?_
 refine A.entsEq (Λ':=[.row 2 z' (r.map encE), .box b5 (encC x), .box b7 (.ms zl 7 cs.length), .row 7 zl (cs.map encC)]) rfl ?_
 refine A.freezeRow 9 rfl ?_
 refine y_ ?_
 refine A.valE 10 rfl (x':=AI (r.length:Nat)) (ai_eq (by rw [List.length_map])) ?_
 refine A.keep [0,2,3,9,10,11] rfl ?_
 refine A.loopP (ι:=Nat×CL×Value) (fun j=>(⟨[(0,AU8 k),(2,PT b5),(3,PT b7),(9,elsA r),(10,AI (r.length:Nat)),(11,AI (j.1:Nat))],[]⟩,xE b5 b7 j.2.1 j.2.2 (cs++(r.take j.1).map fun y=>⟨x.path,x.a,x.b,k,y,x.c⟩))) (fun j=>j.1≤r.length∧j.2.1.path=x.path∧j.2.1.a=x.a∧j.2.1.b=x.b∧j.2.1.c=x.c) (fun j=>r.length-j.1) (0,x,zl) ⟨Nat.zero_le _,rfl,rfl,rfl,rfl⟩ (by simp) fun j hj ih=>?_
 obtain ⟨i,x1,z1⟩:=j
 obtain ⟨hj,h1,h2,h3,h4⟩:=hj
 simp only at hj h1 h2 h3 h4 ih⊢
 refine y_ ?_
 refine k_ (fun hc=>?_) fun hc=>?_
 rotate_left
 ·have hil:i=r.length:=by have: ¬i<r.length:=by simpa using hc
                          omega
  refine A.entsEq (Λ':=xE b5 b7 x1 z1 (cs++r.map fun y=>⟨x.path,x.a,x.b,k,y,x.c⟩)) (by rw [hil,List.take_length]) ?_
  refine y_ ?_
  refine A.ret0 rfl rfl (List.Sublist.refl _) ⟨(x1.kind,z1), .refl,by rw [←h1,←h2,←h3,←h4],trivial⟩
 have hci:i<r.length:=by simpa using hc
 refine Exists.elim (at_exN (l:=r) (i:=i) hci) fun y hy=>?_
 have hln:(cs++(r.take i).map fun y=>(⟨x.path,x.a,x.b,k,y,x.c⟩:CL)).length≤10000000:=by rw [List.length_append,List.length_map,List.length_take];omega
 have e1:=cs_len (cs:=cs) (f:=fun y=>(⟨x.path,x.a,x.b,k,y,x.c⟩:CL)) hy
 have e2:=cs_map (cs:=cs) (f:=fun y=>(⟨x.path,x.a,x.b,k,y,x.c⟩:CL)) hy
 refine Exists.elim (show∃q,q=cs++(r.take i).map fun y=>(⟨x.path,x.a,x.b,k,y,x.c⟩:CL) from ⟨_,rfl⟩) fun q hq=>?_
 rw [←hq] at hln e1 e2
 refine A.entsEq (Λ':=[.box b5 (encC x1), .box b7 (.ms z1 7 q.length), .row 7 z1 (q.map encC)]) (by rw [hq]) ?_
 clear hq
 refine y_ ?_
 refine i_ rfl (map_atE hy) rfl ?_
 refine A.b rfl fun by1=>?_
 refine y_ ?_
 refine A.drawL [(4, .box by1 (encE y)),(5, .box b5 (encC x1))] 4 [0,1,2,3] (fun i=>if i=3 then [5] else if i=1 then [4] else []) [] (List.Perm.refl _) rfl rfl (by rfl) (by kernel_rfl) (by kernel_rfl) ?_
 refine w_ ?_
 refine WA.loadD rfl rfl rfl rfl rfl rfl rfl rfl rfl ?_
 refine w_ ?_
 refine WA.store rfl rfl rfl rfl rfl rfl rfl rfl rfl rfl ?_
 refine WA.nil (l:=[_,_]) rfl ?_
 refine t_ fun bl=>?_
 refine A.appendRowE rfl rfl rfl rfl rfl rfl rfl rfl rfl rfl rfl rfl rfl rfl (by show ((q.map encC).length+1)*7≤_;rw [List.length_map];omega) (by show ((q.map encC).length+1)*7*72≤_;rw [List.length_map];omega) fun z2=>?_
 refine y_ ?_
 have e3:encC ⟨x.path,x.a,x.b,k,y,x.c⟩=encC ⟨x1.path,x1.a,x1.b,k,y,x1.c⟩:=by rw [h1,h2,h3,h4]
 rw [e3] at e2
 refine l_ (Λ':=[.row 7 z2 _, .box b5 _, .box b7 _]) ?_
 refine A.perm (perm_pick [1,2,0] rfl rfl rfl rfl) ?_
 refine A.entsEq (Λ':=xE b5 b7 ⟨x1.path,x1.a,x1.b,k,y,x1.c⟩ z2 (cs++(r.take (i+1)).map fun y=>⟨x.path,x.a,x.b,k,y,x.c⟩)) (by unfold xE;rw [e1,e2];rfl) ?_
 refine A.valE 11 rfl (x':=AI ((i+1:Nat):Int)) (inc_eq i (by omega)) ?_
 refine u_ (ih (i+1,⟨x1.path,x1.a,x1.b,k,y,x1.c⟩,z2) ⟨by show i+1≤_;omega,h1,h2,h3,h4⟩ (by show r.length-(i+1)<r.length-i;omega))
theorem chans_p(b5 b7:Nat)(x:CL)(k:Int)(z:Value)(n:Nat)(m:List Int)(zl:Value)(cs:List CL)(hm:m.length≤1099511627776)(hc:cs.length+m.length≤10000000):
 FunE Tryz.prog gs0 101 [AU8 k, .ms z 1 m.length,PT b5,PT b7] (xE b5 b7 x zl cs++[.row 1 z (m.map AI)]) (fun _:Int×Int×Value=> .tp []) (fun q=>xE b5 b7 ⟨x.path,x.a,x.b,q.1,x.el,q.2.1⟩ q.2.2 (cs++m.map fun y=>⟨x.path,x.a,x.b,k,x.el,y⟩)) (fun _=>True):=by
 unfold FunE
 refine Fun.of (S:=tt) (fn:=Tryz.f101) (n:=23) tt_ok Tryz.func101 rfl rfl rfl rfl fun w0 h0 F hgs=>?_
 refine y_ ?_
 refine A.entsEq (Λ':=[.box b5 (encC x), .box b7 (.ms zl 7 cs.length), .row 7 zl (cs.map encC), .row 1 z (m.map AI)]) rfl ?_
 refine A.freezeRow 8 rfl ?_
 refine A.valE 9 rfl (x':=AI (m.length:Nat)) (ai_eq rfl) ?_
 refine A.keep [0,2,3,8,9,10] rfl ?_
 refine A.loopP (ι:=Nat×CL×Value) (fun j=>(⟨[(0,AU8 k),(2,PT b5),(3,PT b7),(8,intsA m),(9,AI (m.length:Nat)),(10,AI (j.1:Nat))],[]⟩,xE b5 b7 j.2.1 j.2.2 (cs++(m.take j.1).map fun y=>⟨x.path,x.a,x.b,k,x.el,y⟩))) (fun j=>j.1≤m.length∧j.2.1.path=x.path∧j.2.1.a=x.a∧j.2.1.b=x.b∧j.2.1.el=x.el) (fun j=>m.length-j.1) (0,x,zl) ⟨Nat.zero_le _,rfl,rfl,rfl,rfl⟩ (by simp) fun j hj ih=>?_
 obtain ⟨i,x1,z1⟩:=j
 obtain ⟨hj,h1,h2,h3,h4⟩:=hj
 simp only at hj h1 h2 h3 h4 ih⊢
 refine y_ ?_
 refine k_ (fun hc=>?_) fun hc=>?_
 rotate_left
 ·have hil:i=m.length:=by have: ¬i<m.length:=by simpa using hc
                          omega
  refine A.entsEq (Λ':=xE b5 b7 ⟨x.path,x.a,x.b,x1.kind,x.el,x1.c⟩ z1 (cs++m.map fun y=>⟨x.path,x.a,x.b,k,x.el,y⟩)) (by rw [hil,List.take_length,←h1,←h2,←h3,←h4]) ?_
  refine y_ ?_
  refine A.ret0 rfl rfl (List.Sublist.refl _) ⟨(x1.kind,x1.c,z1), .refl,rfl,trivial⟩
 have hci:i<m.length:=by simpa using hc
 refine Exists.elim (at_exN (l:=m) (i:=i) hci) fun y hy=>?_
 have hln:(cs++(m.take i).map fun y=>(⟨x.path,x.a,x.b,k,x.el,y⟩:CL)).length≤10000000:=by rw [List.length_append,List.length_map,List.length_take];omega
 have e1:=cs_len (cs:=cs) (f:=fun y=>(⟨x.path,x.a,x.b,k,x.el,y⟩:CL)) hy
 have e2:=cs_map (cs:=cs) (f:=fun y=>(⟨x.path,x.a,x.b,k,x.el,y⟩:CL)) hy
 refine Exists.elim (show∃q,q=cs++(m.take i).map fun y=>(⟨x.path,x.a,x.b,k,x.el,y⟩:CL) from ⟨_,rfl⟩) fun q hq=>?_
 rw [←hq] at hln e1 e2
 refine A.entsEq (Λ':=[.box b5 (encC x1), .box b7 (.ms z1 7 q.length), .row 7 z1 (q.map encC)]) (by rw [hq]) ?_
 clear hq
 refine y_ ?_
 refine j_ rfl (map_at hy) rfl ?_
 refine t_ fun bl=>?_
 refine A.appendRowE rfl rfl rfl rfl rfl rfl rfl rfl rfl rfl rfl rfl rfl rfl (by show ((q.map encC).length+1)*7≤_;rw [List.length_map];omega) (by show ((q.map encC).length+1)*7*72≤_;rw [List.length_map];omega) fun z2=>?_
 refine y_ ?_
 have e3:encC ⟨x.path,x.a,x.b,k,x.el,y⟩=encC ⟨x1.path,x1.a,x1.b,k,x1.el,y⟩:=by rw [h1,h2,h3,h4]
 rw [e3] at e2
 refine A.perm (perm_pick [1,2,0] rfl rfl rfl rfl) ?_
 refine A.entsEq (Λ':=xE b5 b7 ⟨x1.path,x1.a,x1.b,k,x1.el,y⟩ z2 (cs++(m.take (i+1)).map fun y=>⟨x.path,x.a,x.b,k,x.el,y⟩)) (by unfold xE;rw [e1,e2];rfl) ?_
 refine A.valE 10 rfl (x':=AI ((i+1:Nat):Int)) (inc_eq i (by omega)) ?_
 refine u_ (ih (i+1,⟨x1.path,x1.a,x1.b,k,x1.el,y⟩,z2) ⟨by show i+1≤_;omega,h1,h2,h3,h4⟩ (by show m.length-(i+1)<m.length-i;omega))
structure BetOk(u v:RU):Prop where
 ur:u.r.length≤100000
 uw:u.w.length≤100000
 vr:v.r.length≤100000
 vw:v.w.length≤100000
 ui:u.i.length≤100000
 uo:u.o.length≤100000
 vi:v.i.length≤100000
 vo:v.o.length≤100000
 ww:(canE (overM u.w v.w)).length≤100000
 wr:(canE (overM u.w v.r++overM u.r v.w)).length≤100000
theorem allE(l:List EL):allElt ty49 (l.map encE)=true:=by
 induction l with
 |nil=>rfl
 |cons x r ih=>
  show (match eltOk ty49 (encE x) with|true=>allElt ty49 (r.map encE)|false=>false)=true
  rw [show eltOk ty49 (encE x)=true from rfl]
  exact ih
theorem bet_eq(u v:RU)(path:List Int)(a b:Int):((([]++(canE (overM u.w v.w)).map fun y=>(⟨path,a,b,1,y,0⟩:CL))++(canE (overM u.w v.r++overM u.r v.w)).map fun y=>⟨path,a,b,2,y,0⟩)++(comM u.i v.i).map fun y=>⟨path,a,b,3,(0,0),y⟩)++((comM u.o v.o).map fun y=>⟨path,a,b,4,(0,0),y⟩)=betM u v path a b:=by
 simp [betM]
theorem between_p(u v:RU)(hb:BetOk u v)(path:List Int)(a b kd:Int)(el:EL):FunE Tryz.prog gs0 75 [uA u,uA v,encC ⟨path,a,b,kd,el,0⟩] [] (fun z:Value=> .ms z 7 (betM u v path a b).length) (fun z=>[.row 7 z ((betM u v path a b).map encC)]) (fun _=>True):=by
 have h1:=overlap_p u.w v.w (Nat.le_trans hb.uw (by omega)) (Nat.le_trans hb.vw (by omega))
 have h2:=overlap_p u.w v.r (Nat.le_trans hb.uw (by omega)) (Nat.le_trans hb.vr (by omega))
 have h3:=overlap_p u.r v.w (Nat.le_trans hb.ur (by omega)) (Nat.le_trans hb.vw (by omega))
 have h4:=common_p u.i v.i (Nat.le_trans hb.ui (by omega)) (Nat.le_trans hb.vi (by omega))
 have h5:=common_p u.o v.o (Nat.le_trans hb.uo (by omega)) (Nat.le_trans hb.vo (by omega))
 have l1:(overM u.w v.w).length≤10000000000:=Nat.le_trans (over_len _ _) (Nat.mul_le_mul hb.uw hb.vw)
 have l2:(overM u.w v.r).length≤10000000000:=Nat.le_trans (over_len _ _) (Nat.mul_le_mul hb.uw hb.vr)
 have l3:(overM u.r v.w).length≤10000000000:=Nat.le_trans (over_len _ _) (Nat.mul_le_mul hb.ur hb.vw)
 have l4:(comM u.i v.i).length≤100000:=Nat.le_trans (List.length_filter_le _ _) hb.ui
 have l5:(comM u.o v.o).length≤100000:=Nat.le_trans (List.length_filter_le _ _) hb.uo
 have lw:=hb.ww
 have lr:=hb.wr
 unfold FunE
 refine Fun.of (S:=tt) (fn:=Tryz.f75) (n:=47) tt_ok Tryz.func75 rfl rfl rfl rfl fun w0 h0 F hgs=>?_
 refine y_ ?_
 refine A.b rfl fun b3=>?_
 refine A.b rfl fun b4=>?_
 refine A.b rfl fun b5=>?_
 refine y_ ?_
 refine A.b rfl fun b7=>?_
 refine A.boxAs (x':= .ms (.slice none 0 0) 7 0) (List.Perm.refl _) (fun h y r=>nil_ms 7 r) ?_
 refine A.nilRow 7 ?_
 refine A.perm (perm_pick [2,1,0,3,4] rfl rfl rfl rfl) ?_
 refine y_ ?_
 refine A.e rfl h1 .refl (Λ2:=xE b5 b7 ⟨path,a,b,kd,el,0⟩ (.slice none 0 0) []++[.box b4 (uA v), .box b3 (uA u)]) (List.Perm.refl _) fun z1 _=>?_
 refine A.e rfl (elems_p b5 b7 ⟨path,a,b,kd,el,0⟩ 1 z1 (overM u.w v.w).length (overM u.w v.w) (.slice none 0 0) [] (by omega) (by simp only [List.length_nil];omega)) .refl (Λ2:=[.box b4 (uA v), .box b3 (uA u)]) (perm_pick [1,2,3,0,4,5] rfl rfl rfl rfl) fun q1 _=>?_
 refine y_ ?_
 refine A.draw 12 [0,1,2,3,4,6,7,8,9,5,10,11] (fun i=>if i=5 then [5] else if i=10 then [10] else if i=11 then [11,10] else []) [] (by kernel_rfl) (by kernel_rfl) ?_
 refine w_ ?_
 refine WA.callG rfl rfl rfl rfl rfl rfl rfl rfl rfl h2 .refl fun z2 _=>?_
 refine WA.callG rfl rfl rfl rfl rfl rfl rfl rfl rfl h3 .refl fun z3 _=>?_
 refine WA.appendM 5 rfl rfl rfl rfl rfl rfl rfl rfl rfl rfl rfl rfl rfl rfl rfl rfl rfl rfl rfl rfl rfl rfl (allE _) (.pub (j:=10) rfl rfl (.sub .refl)) (by show ((List.map encE _).length+(List.map encE _).length)*2≤_;rw [List.length_map,List.length_map];omega) (by show ((List.map encE _).length+(List.map encE _).length)*2*16≤_;rw [List.length_map,List.length_map];omega) fun z4=>?_
 refine WA.nil (l:=[_]) rfl ?_
 refine Exists.elim (show∃c1,c1=[]++(canE (overM u.w v.w)).map fun y=>(⟨path,a,b,1,y,0⟩:CL) from ⟨_,rfl⟩) fun c1 hc1=>?_
 have n1:c1.length≤1000000:=by rw [hc1,List.nil_append,List.length_map];omega
 refine A.entsEq (Λ':=[.row 2 z4 ((overM u.w v.r++overM u.r v.w).map encE)]++(xE b5 b7 ⟨path,a,b,q1.1,(0,0),0⟩ q1.2 c1++[.box b4 (uA v), .box b3 (uA u)])) (by rw [List.map_append,hc1]) ?_
 refine A.e rfl (elems_p b5 b7 ⟨path,a,b,q1.1,(0,0),0⟩ 2 z4 ((List.map encE (overM u.w v.r)).length+(List.map encE (overM u.r v.w)).length) (overM u.w v.r++overM u.r v.w) q1.2 c1 (by rw [List.length_append];omega) (by omega)) .refl (Λ2:=[.box b4 (uA v), .box b3 (uA u)]) (perm_pick [1,2,3,0,4,5] rfl rfl rfl rfl) fun q2 _=>?_
 refine Exists.elim (show∃c2,c2=c1++(canE (overM u.w v.r++overM u.r v.w)).map fun y=>(⟨path,a,b,2,y,0⟩:CL) from ⟨_,rfl⟩) fun c2 hc2=>?_
 have n2:c2.length≤2000000:=by rw [hc2,List.length_append,List.length_map];omega
 refine A.entsEq (Λ':=xE b5 b7 ⟨path,a,b,q2.1,(0,0),0⟩ q2.2 c2++[.box b4 (uA v), .box b3 (uA u)]) (by rw [hc2]) ?_
 refine y_ ?_
 refine A.e rfl h4 .refl (Λ2:=xE b5 b7 ⟨path,a,b,q2.1,(0,0),0⟩ q2.2 c2++[.box b4 (uA v), .box b3 (uA u)]) (List.Perm.refl _) fun z5 _=>?_
 refine A.e rfl (chans_p b5 b7 ⟨path,a,b,q2.1,(0,0),0⟩ 3 z5 0 (comM u.i v.i) q2.2 c2 (by omega) (by omega)) .refl (Λ2:=[.box b4 (uA v), .box b3 (uA u)]) (perm_pick [1,2,3,0,4,5] rfl rfl rfl rfl) fun q3 _=>?_
 refine Exists.elim (show∃c3,c3=c2++(comM u.i v.i).map fun y=>(⟨path,a,b,3,(0,0),y⟩:CL) from ⟨_,rfl⟩) fun c3 hc3=>?_
 have n3:c3.length≤3000000:=by rw [hc3,List.length_append,List.length_map];omega
 refine A.entsEq (Λ':=xE b5 b7 ⟨path,a,b,q3.1,(0,0),q3.2.1⟩ q3.2.2 c3++[.box b4 (uA v), .box b3 (uA u)]) (by rw [hc3]) ?_
 refine y_ ?_
 refine A.e rfl h5 .refl (Λ2:=xE b5 b7 ⟨path,a,b,q3.1,(0,0),q3.2.1⟩ q3.2.2 c3++[.box b4 (uA v), .box b3 (uA u)]) (List.Perm.refl _) fun z6 _=>?_
 refine A.e rfl (chans_p b5 b7 ⟨path,a,b,q3.1,(0,0),q3.2.1⟩ 4 z6 0 (comM u.o v.o) q3.2.2 c3 (by omega) (by omega)) .refl (Λ2:=[.box b4 (uA v), .box b3 (uA u)]) (perm_pick [1,2,3,0,4,5] rfl rfl rfl rfl) fun q4 _=>?_
 have hE:c3++(comM u.o v.o).map (fun y=>(⟨path,a,b,4,(0,0),y⟩:CL))=betM u v path a b:=by rw [hc3,hc2,hc1];exact bet_eq u v path a b
 refine A.entsEq (Λ':=xE b5 b7 ⟨path,a,b,q4.1,(0,0),q4.2.1⟩ q4.2.2 (betM u v path a b)++[.box b4 (uA v), .box b3 (uA u)]) (by rw [←hE]) ?_
 refine y_ ?_
 refine A.less (Λ':=[.row 7 q4.2.2 ((betM u v path a b).map encC)]) (((List.sublist_append_left [_] _).cons _).cons _) ?_
 refine A.ret1 (Λ':=[.row 7 _ _]) rfl rfl rfl sl_ ⟨q4.2.2, .refl,rfl,trivial⟩
end Go.Proofs.YtafcodjilcljeaaGreat
