/-
  Texts Q21r Q21s Q21t Q21u Q21v Q21w Q21x Q21aa Q21y Q21ab Q21ac Q21ad Q21z Q21ae Q21af Q21ag. Conditions: as each theorem says.
-/
import Derived.Test.YtafcodjilcljeaaGreatV3
import Derived.Test.YtafcodjilcljeaaGreatV7
import Derived.Test.YtafcodjilcljeaaGreatV6
set_option linter.unusedVariables false
set_option linter.unusedSimpArgs false
set_option maxRecDepth 100000
set_option maxHeartbeats 4000000
namespace Go.Proofs.YtafcodjilcljeaaGreat
open Go Go.Tp
theorem pw_short: ∀{l:List Int} {lo:Int} {n:Nat},l.Pairwise (· < ·)→(∀z,z∈l→lo≤z∧z<lo+n)→l.length≤n
 | [],_,_,_,_=>Nat.zero_le _
 |x::r,lo,n,hp,h=>by
  rw [List.pairwise_cons] at hp
  have hx:=h x (List.mem_cons_self ..)
  have:=pw_short (l:=r) (lo:=x+1) (n:=(lo+n-x-1).toNat) hp.2 fun z hz=>by
   have h1:=hp.1 z hz
   have h2:=h z (List.mem_cons_of_mem _ hz)
   omega
  rw [List.length_cons];omega
abbrev inR(x:EL):Prop:=0≤x.1∧x.1<256∧ -1≤x.2∧x.2<64
abbrev codeE(x:EL):Int:=x.1*65+x.2+1
theorem asc_short{l:List EL}(a:AscL ltE l)(h: ∀z,z∈l→inR z):l.length≤16640:=by
 have h1:(l.map codeE).Pairwise (· < ·):=by
  rw [List.pairwise_map]
  refine (List.Pairwise.and_mem.1 a).imp fun {x y} hxy=>?_
  obtain ⟨hx,hy,hxy⟩:=hxy
  have:=h x hx
  have:=h y hy
  simp only [ltE,Bool.or_eq_true,Bool.and_eq_true,decide_eq_true_eq] at hxy
  show x.1*65+x.2+1<y.1*65+y.2+1
  omega
 have:=pw_short (lo:=0) (n:=16640) h1 fun z hz=>by
  obtain ⟨x,hx,rfl⟩:=List.mem_map.1 hz
  have:=h x hx
  show 0≤x.1*65+x.2+1∧x.1*65+x.2+1<0+(16640:Nat)
  omega
 simpa using this
theorem ascI_short{l:List Int}(a:AscL ltI l)(h: ∀z,z∈l→0≤z∧z<64):l.length≤64:=by
 refine pw_short (lo:=0) (a.imp fun {x y} h=>by simpa [ltI] using h) fun z hz=>?_
 have:=h z hz;omega
theorem canE_short{l:List EL}(h: ∀z,z∈l→inR z):(canE l).length≤16640:=asc_short (asc_canE l) fun z hz=>h z (mem_canE.1 hz)
theorem canI_short{l:List Int}(h: ∀z,z∈l→0≤z∧z<64):(canI l).length≤64:=ascI_short (asc_canI l) fun z hz=>h z (mem_canI.1 hz)
theorem over1_in{x:EL}{b:List EL}(hx:inR x)(hb: ∀z,z∈b→inR z): ∀z,z∈over1 x b→inR z:=fun z hz=>by
 unfold over1 at hz
 obtain ⟨y,hy,rfl⟩:=List.mem_map.1 hz
 have:=hb y (List.mem_filter.1 hy).1
 show 0≤x.1∧x.1<256∧ -1≤max x.2 y.2∧max x.2 y.2<64
 omega
theorem over_in{a b:List EL}(ha: ∀z,z∈a→inR z)(hb: ∀z,z∈b→inR z): ∀z,z∈overM a b→inR z:=fun z hz=>by
 rw [over_eq] at hz
 obtain ⟨x,hx,hz⟩:=List.mem_flatMap.1 hz
 exact over1_in (ha x hx) hb z hz
def rcom1(x:Int)(b:List Int):List Int:=(b.filter fun y=>x==y).map fun _=>x
def rcomM(a b:List Int):List Int:=a.flatMap fun x=>rcom1 x b
theorem rcom_step{a b:List Int}{i:Nat}{x:Int}(h:a[i]? =some x):rcomM (a.take (i+1)) b=rcomM (a.take i) b++rcom1 x b:=by
 unfold rcomM
 rw [take_at h,List.flatMap_append];simp
theorem rcom1_step{x y:Int}{b:List Int}{j:Nat}(h:b[j]? =some y):rcom1 x (b.take (j+1))=if x=y then rcom1 x (b.take j)++[x] else rcom1 x (b.take j):=by
 unfold rcom1
 rw [take_at h,List.filter_append]
 by_cases c:x=y
 ·rw [if_pos c];simp [c]
 ·rw [if_neg c];simp [c]
theorem mem_rcom{a b:List Int}{z:Int}:z∈rcomM a b↔z∈a∧z∈b:=by
 unfold rcomM rcom1
 simp only [List.mem_flatMap,List.mem_map,List.mem_filter,beq_iff_eq]
 constructor
 ·rintro ⟨x,hx,y,⟨hy,e⟩,rfl⟩;exact ⟨hx,by rw [e];exact hy⟩
 ·rintro ⟨h1,h2⟩;exact ⟨z,h1,z,⟨h2,rfl⟩,rfl⟩
theorem rcom_com{a b:List Int}(ha:AscL ltI a):canI (rcomM a b)=comM a b:=by
 refine asc_eq ord_int (asc_canI _) ?_ fun z=>?_
 ·exact List.Pairwise.sublist List.filter_sublist ha
 ·rw [mem_canI,mem_rcom];unfold comM;simp
theorem rcommon_p(a b:List Int)(ha:AscL ltI a)(hr: ∀z,z∈a→0≤z∧z<64)(hb:b.length≤1099511627776):Pure Tryz.prog gs0 105 [intsA a,intsA b] (intsA (comM a b)):=by
 have hal:a.length≤64:=ascI_short ha hr
 have hsh: ∀i q,(∀z,z∈q→z∈a)→(canI (rcomM (a.take i) b++q)).length≤64:=fun i q hq=>canI_short fun z hz=>hr z (by
  rcases List.mem_append.1 hz with h|h
  ·exact List.mem_of_mem_take (mem_rcom.1 h).1
  ·exact hq z h)
 refine Exists.elim (show∃R,R=comM a b from ⟨_,rfl⟩) fun R hR=>?_
 rw [←hR]
 rw [←rcom_com ha] at hR
 refine p_ tt_ok Tryz.func105 36 fun w0 h0 F hgs=>?_
 refine y_ ?_
 refine A.sub (U:=[(0,intsA a),(1,intsA b),(5,intsA []),(6,AI ((0:Nat):Int))]) (by repeat (first|exact trivial|refine ⟨⟨_,rfl,s_⟩,?_⟩)) ?_
 refine A.loopP (ι:=Nat) (fun i=>(⟨[(0,intsA a),(1,intsA b),(5,intsA (canI (rcomM (a.take i) b))),(6,AI (i:Nat))],[]⟩,[])) (fun i=>i≤a.length) (fun i=>a.length-i) 0 (Nat.zero_le _) rfl fun i hi ih=>?_
 refine y_ ?_
 refine k_ (fun hc=>?_) fun hc=>?_
 rotate_left
 ·have hil:i=a.length:=by have: ¬i<a.length:=by simpa using hc
                          omega
  refine y_ ?_
  refine R_ ?_
  rw [hil,List.take_length,←hR]
  exact .refl
 have hci:i<a.length:=by simpa using hc
 clear hc
 refine Exists.elim (at_exN (l:=a) (i:=i) hci) fun x hx=>?_
 have hst:=rcom_step (b:=b) hx
 refine y_ ?_
 refine A.valE 5 rfl (x':=intsA (canI (rcomM (a.take i) b++rcom1 x (b.take 0)))) (by simp [rcom1]) ?_
 refine A.keep [0,1,5,6,7] rfl ?_
 refine A.loopP (ι:=Nat) (fun j=>(⟨[(0,intsA a),(1,intsA b),(5,intsA (canI (rcomM (a.take i) b++rcom1 x (b.take j)))),(6,AI (i:Nat)),(7,AI (j:Nat))],[]⟩,[])) (fun j=>j≤b.length) (fun j=>b.length-j) 0 (Nat.zero_le _) rfl fun j hj ih2=>?_
 refine y_ ?_
 refine k_ (fun hc=>?_) fun hc=>?_
 rotate_left
 ·have hjl:j=b.length:=by have: ¬j<b.length:=by simpa using hc
                          omega
  refine y_ ?_
  refine A.valE 5 rfl (x':=intsA (canI (rcomM (a.take (i+1)) b))) (by rw [hjl,List.take_length,hst]) ?_
  refine A.valE 6 rfl (x':=AI ((i+1:Nat):Int)) (inc_eq i (by omega)) ?_
  refine u_ (ih (i+1) (by omega) (by omega))
 have hcj:j<b.length:=by simpa using hc
 clear hc ih
 refine Exists.elim (at_exN (l:=b) (i:=j) hcj) fun y hy=>?_
 have hs1:=rcom1_step (x:=x) hy
 have hlen:=hsh i (rcom1 x (b.take j)) (fun z hz=>by unfold rcom1 at hz;obtain ⟨_,_,rfl⟩:=List.mem_map.1 hz;exact List.mem_of_getElem? hx)
 have had:=addI_p (canI (rcomM (a.take i) b++rcom1 x (b.take j))) x (by omega)
 rw [canI_add,List.append_assoc] at had
 refine y_ ?_
 refine d_ 8 [0,1,2,3,4,5,6,7] [] ?_
 refine iw_ rfl (map_at hx) rfl ?_
 refine iw_ rfl (map_at hy) rfl ?_
 refine z_ ?_
 refine k_ (fun hc=>?_) fun hc=>?_
 ·have he:x=y:=by simpa using hc
  rw [if_pos he] at hs1
  rw [←hs1] at had
  refine y_ ?_
  refine i_ rfl (map_at hx) rfl ?_
  refine c_ had ?_
  refine A.valE 7 rfl (x':=AI ((j+1:Nat):Int)) (inc_eq j (by omega)) ?_
  refine u_ (ih2 (j+1) (by omega) (by omega))
 ·have he: ¬x=y:=by simpa using hc
  rw [if_neg he] at hs1
  refine y_ ?_
  refine A.valE 5 rfl (x':=intsA (canI (rcomM (a.take i) b++rcom1 x (b.take (j+1))))) (by rw [hs1]) ?_
  refine A.valE 7 rfl (x':=AI ((j+1:Nat):Int)) (inc_eq j (by omega)) ?_
  refine u_ (ih2 (j+1) (by omega) (by omega))
theorem roverlaps_p(g a b:List EL)(hg: ∀z,z∈g→inR z)(ha: ∀z,z∈a→inR z)(hb: ∀z,z∈b→inR z)(hal:a.length≤1099511627776)(hbl:b.length≤1099511627776):
 Pure Tryz.prog gs0 104 [elsA (canE g),elsA a,elsA b] (elsA (canE (g++overM a b))):=by
 have hsh: ∀i j (x:EL),x∈a→(canE (g++overM (a.take i) b++over1 x (b.take j))).length≤16640:=fun i j x hx=>canE_short fun z hz=>by
  rcases List.mem_append.1 hz with h|h
  ·rcases List.mem_append.1 h with h|h
   ·exact hg z h
   ·exact over_in (fun y hy=>ha y (List.mem_of_mem_take hy)) hb z h
  ·exact over1_in (ha x hx) (fun y hy=>hb y (List.mem_of_mem_take hy)) z h
 refine Exists.elim (show∃R,R=canE (g++overM a b) from ⟨_,rfl⟩) fun R hR=>?_
 rw [←hR]
 refine p_ tt_ok Tryz.func104 84 fun w0 h0 F hgs=>?_
 refine y_ ?_
 refine A.valE 0 rfl (x':=elsA (canE (g++overM (a.take 0) b))) (by simp [overM]) ?_
 refine A.keep [0,1,2,7] rfl ?_
 refine A.loopP (ι:=Nat) (fun i=>(⟨[(0,elsA (canE (g++overM (a.take i) b))),(1,elsA a),(2,elsA b),(7,AI (i:Nat))],[]⟩,[])) (fun i=>i≤a.length) (fun i=>a.length-i) 0 (Nat.zero_le _) rfl fun i hi ih=>?_
 refine y_ ?_
 refine k_ (fun hc=>?_) fun hc=>?_
 rotate_left
 ·have hil:i=a.length:=by have: ¬i<a.length:=by simpa using hc
                          omega
  refine y_ ?_
  refine R_ ?_
  rw [hil,List.take_length,←hR]
  exact .refl
 have hci:i<a.length:=by simpa using hc
 clear hc
 refine Exists.elim (at_exN (l:=a) (i:=i) hci) fun x hx=>?_
 have hst:=over_step (b:=b) hx
 refine y_ ?_
 refine A.valE 0 rfl (x':=elsA (canE (g++overM (a.take i) b++over1 x (b.take 0)))) (by simp [over1]) ?_
 refine A.keep [0,1,2,7,8] rfl ?_
 refine A.loopP (ι:=Nat) (fun j=>(⟨[(0,elsA (canE (g++overM (a.take i) b++over1 x (b.take j)))),(1,elsA a),(2,elsA b),(7,AI (i:Nat)),(8,AI (j:Nat))],[]⟩,[])) (fun j=>j≤b.length) (fun j=>b.length-j) 0 (Nat.zero_le _) rfl fun j hj ih2=>?_
 refine y_ ?_
 refine k_ (fun hc=>?_) fun hc=>?_
 rotate_left
 ·have hjl:j=b.length:=by have: ¬j<b.length:=by simpa using hc
                          omega
  refine y_ ?_
  refine A.valE 0 rfl (x':=elsA (canE (g++overM (a.take (i+1)) b))) (by rw [hjl,List.take_length,hst,List.append_assoc]) ?_
  refine A.valE 7 rfl (x':=AI ((i+1:Nat):Int)) (inc_eq i (by omega)) ?_
  refine u_ (ih (i+1) (by omega) (by omega))
 have hcj:j<b.length:=by simpa using hc
 clear hc ih
 refine Exists.elim (at_exN (l:=b) (i:=j) hcj) fun y hy=>?_
 have hs1:=over1_step (x:=x) hy
 have hlen:=hsh i j x (List.mem_of_getElem? hx)
 have had:=addE_p (canE (g++overM (a.take i) b++over1 x (b.take j))) (x.1,max x.2 y.2) (by omega)
 rw [canE_add,List.append_assoc (g++overM (a.take i) b)] at had
 have rx:=ha x (List.mem_of_getElem? hx)
 have ry:=hb y (List.mem_of_getElem? hy)
 refine y_ ?_
 refine d_ 34 [0,1,2,3,4,5,6,7,8,9,10,11,12,13,14,15,16,17,18,19,20,21,22,23,24,25,26,27,28,29,30,31,32,33] [] ?_
 refine iw_ rfl (map_atE hx) rfl ?_
 refine iw_ rfl (map_atE hy) rfl ?_
 by_cases c1:x.1=y.1
 case neg=>
  have hm: ¬meetE x y=true:=by simp [meetE,c1]
  refine Tw_ rfl (by simpa using c1) ?_
  refine WA.nil (l:=[]) rfl ?_
  rw [if_neg hm] at hs1
  refine y_ ?_
  refine A.valE 0 rfl (x':=elsA (canE (g++overM (a.take i) b++over1 x (b.take (j+1))))) (by rw [hs1]) ?_
  refine A.valE 8 rfl (x':=AI ((j+1:Nat):Int)) (inc_eq j (by omega)) ?_
  refine u_ (ih2 (j+1) (by omega) (by omega))
 refine Fw_ rfl (by simpa using c1) ?_
 refine iw_ rfl (map_atE hx) rfl ?_
 refine iw_ rfl (map_atE hy) rfl ?_
 by_cases c2:x.2=y.2
 ·have hm:meetE x y=true:=by simp [meetE,c1,c2]
  refine Fw_ rfl (by simpa using c2) ?_
  refine WA.nil (l:=[]) rfl ?_
  refine A.less (Λ':=[]) (List.nil_sublist _) ?_
  rw [if_pos hm] at hs1
  rw [←hs1] at had
  refine y_ ?_
  refine i_ rfl (map_atE hx) rfl ?_
  refine A.b rfl fun b9=>?_
  refine y_ ?_
  refine d_ 7 [0,1,2,3,4,5,6] [] ?_
  refine iw_ rfl (map_atE hy) rfl ?_
  refine z_ ?_
  refine k_ (fun hc=>?_) fun hc=>?_
  ·have hgt:x.2<y.2:=by simpa using hc
   rw [show max x.2 y.2=y.2 by omega] at had
   refine y_ ?_
   refine i_ rfl (map_atE hy) rfl ?_
   refine n_ had ?_
   refine A.less (Λ':=[]) (List.nil_sublist _) ?_
   refine y_ ?_
   refine A.valE 8 rfl (x':=AI ((j+1:Nat):Int)) (inc_eq j (by omega)) ?_
   refine u_ (ih2 (j+1) (by omega) (by omega))
  ·have hgt: ¬x.2<y.2:=by simpa using hc
   rw [show max x.2 y.2=x.2 by omega] at had
   refine y_ ?_
   refine n_ had ?_
   refine A.less (Λ':=[]) (List.nil_sublist _) ?_
   refine y_ ?_
   refine A.valE 8 rfl (x':=AI ((j+1:Nat):Int)) (inc_eq j (by omega)) ?_
   refine u_ (ih2 (j+1) (by omega) (by omega))
 refine Tw_ rfl (by simpa using c2) ?_
 refine iw_ rfl (map_atE hx) rfl ?_
 by_cases c3:x.2= -1
 ·have hm:meetE x y=true:=by simp [meetE,c1];omega
  refine Fw_ rfl (by simpa using c3) ?_
  refine WA.nil (l:=[]) rfl ?_
  refine A.less (Λ':=[]) (List.nil_sublist _) ?_
  rw [if_pos hm] at hs1
  rw [←hs1] at had
  refine y_ ?_
  refine i_ rfl (map_atE hx) rfl ?_
  refine A.b rfl fun b9=>?_
  refine y_ ?_
  refine d_ 7 [0,1,2,3,4,5,6] [] ?_
  refine iw_ rfl (map_atE hy) rfl ?_
  refine z_ ?_
  refine k_ (fun hc=>?_) fun hc=>?_
  ·have hgt:x.2<y.2:=by simpa using hc
   rw [show max x.2 y.2=y.2 by omega] at had
   refine y_ ?_
   refine i_ rfl (map_atE hy) rfl ?_
   refine n_ had ?_
   refine A.less (Λ':=[]) (List.nil_sublist _) ?_
   refine y_ ?_
   refine A.valE 8 rfl (x':=AI ((j+1:Nat):Int)) (inc_eq j (by omega)) ?_
   refine u_ (ih2 (j+1) (by omega) (by omega))
  ·have hgt: ¬x.2<y.2:=by simpa using hc
   rw [show max x.2 y.2=x.2 by omega] at had
   refine y_ ?_
   refine n_ had ?_
   refine A.less (Λ':=[]) (List.nil_sublist _) ?_
   refine y_ ?_
   refine A.valE 8 rfl (x':=AI ((j+1:Nat):Int)) (inc_eq j (by omega)) ?_
   refine u_ (ih2 (j+1) (by omega) (by omega))
 refine Tw_ rfl (by simpa using c3) ?_
 refine WA.nil (l:=[]) rfl ?_
 refine i_ rfl (map_atE hy) rfl ?_
 refine k_ (fun hc=>?_) fun hc=>?_
 ·have c4: ¬y.2= -1:=by simpa using hc
  have hm: ¬meetE x y=true:=by simp [meetE,c1,c2];omega
  rw [if_neg hm] at hs1
  refine y_ ?_
  refine A.valE 0 rfl (x':=elsA (canE (g++overM (a.take i) b++over1 x (b.take (j+1))))) (by rw [hs1]) ?_
  refine A.valE 8 rfl (x':=AI ((j+1:Nat):Int)) (inc_eq j (by omega)) ?_
  refine u_ (ih2 (j+1) (by omega) (by omega))
 ·have c4:y.2= -1:=by simpa using hc
  have hm:meetE x y=true:=by simp [meetE,c1];omega
  refine A.less (Λ':=[]) (List.nil_sublist _) ?_
  rw [if_pos hm] at hs1
  rw [←hs1] at had
  refine y_ ?_
  refine i_ rfl (map_atE hx) rfl ?_
  refine A.b rfl fun b9=>?_
  refine y_ ?_
  refine d_ 7 [0,1,2,3,4,5,6] [] ?_
  refine iw_ rfl (map_atE hy) rfl ?_
  refine z_ ?_
  refine k_ (fun hc=>?_) fun hc=>?_
  ·have hgt:x.2<y.2:=by simpa using hc
   rw [show max x.2 y.2=y.2 by omega] at had
   refine y_ ?_
   refine i_ rfl (map_atE hy) rfl ?_
   refine n_ had ?_
   refine A.less (Λ':=[]) (List.nil_sublist _) ?_
   refine y_ ?_
   refine A.valE 8 rfl (x':=AI ((j+1:Nat):Int)) (inc_eq j (by omega)) ?_
   refine u_ (ih2 (j+1) (by omega) (by omega))
  ·have hgt: ¬x.2<y.2:=by simpa using hc
   rw [show max x.2 y.2=x.2 by omega] at had
   refine y_ ?_
   refine n_ had ?_
   refine A.less (Λ':=[]) (List.nil_sublist _) ?_
   refine y_ ?_
   refine A.valE 8 rfl (x':=AI ((j+1:Nat):Int)) (inc_eq j (by omega)) ?_
   refine u_ (ih2 (j+1) (by omega) (by omega))
abbrev csA(l:List CL):AV:= .sl 7 (l.map encC) none
structure UseOk(u:RU):Prop where
 r: ∀z,z∈u.r→inR z
 w: ∀z,z∈u.w→inR z
 i: ∀z,z∈u.i→0≤z∧z<64
 o: ∀z,z∈u.o→0≤z∧z<64
 ar:AscL ltE u.r
 aw:AscL ltE u.w
 ai:AscL ltI u.i
 ao:AscL ltI u.o
theorem rBetween_p(u v:RU)(hu:UseOk u)(hv:UseOk v)(path:List Int)(a b kd:Int):Pure Tryz.prog gs0 77 [uA u,uA v,encC ⟨path,a,b,kd,(0,0),0⟩] (csA (betM u v path a b)):=by
 have sr:=asc_short hu.ar hu.r
 have sw:=asc_short hu.aw hu.w
 have tr:=asc_short hv.ar hv.r
 have tw:=asc_short hv.aw hv.w
 have si:=ascI_short hu.ai hu.i
 have so:=ascI_short hu.ao hu.o
 have ti:=ascI_short hv.ai hv.i
 have to:=ascI_short hv.ao hv.o
 have h1:=roverlaps_p [] u.w v.w (fun z h=>by cases h) hu.w hv.w (by omega) (by omega)
 have h2:=roverlaps_p [] u.w v.r (fun z h=>by cases h) hu.w hv.r (by omega) (by omega)
 have h3:=roverlaps_p (overM u.w v.r) u.r v.w (over_in hu.w hv.r) hu.r hv.w (by omega) (by omega)
 have h4:=rcommon_p u.i v.i hu.ai hu.i (by omega)
 have h5:=rcommon_p u.o v.o hu.ao hu.o (by omega)
 have l1:=canE_short (over_in hu.w hv.w)
 have l2:(canE (overM u.w v.r++overM u.r v.w)).length≤16640:=canE_short fun z h=>by
  rcases List.mem_append.1 h with h|h
  ·exact over_in hu.w hv.r z h
  ·exact over_in hu.r hv.w z h
 have l3:(comM u.i v.i).length≤64:=Nat.le_trans (List.length_filter_le _ _) si
 have l4:(comM u.o v.o).length≤64:=Nat.le_trans (List.length_filter_le _ _) so
 have hbet:=bet_eq u v path a b
 rw [List.nil_append] at h1 h2
 refine Exists.elim (show∃M1,M1=canE (overM u.w v.w) from ⟨_,rfl⟩) fun M1 e1=>?_
 refine Exists.elim (show∃M2,M2=canE (overM u.w v.r++overM u.r v.w) from ⟨_,rfl⟩) fun M2 e2=>?_
 refine Exists.elim (show∃M3,M3=comM u.i v.i from ⟨_,rfl⟩) fun M3 e3=>?_
 refine Exists.elim (show∃M4,M4=comM u.o v.o from ⟨_,rfl⟩) fun M4 e4=>?_
 refine Exists.elim (show∃R,R=betM u v path a b from ⟨_,rfl⟩) fun R hR=>?_
 rw [←e1] at h1 l1 hbet
 rw [←e2] at h3 l2 hbet
 rw [←e3] at h4 l3 hbet
 rw [←e4] at h5 l4 hbet
 rw [←hR] at hbet⊢
 refine Exists.elim (show∃C0:List CL,C0=[] from ⟨_,rfl⟩) fun C0 d0=>?_
 refine Exists.elim (show∃C1,C1=C0++M1.map (fun y=>(⟨path,a,b,1,y,0⟩:CL)) from ⟨_,rfl⟩) fun C1 d1=>?_
 refine Exists.elim (show∃C2,C2=C1++M2.map (fun y=>(⟨path,a,b,2,y,0⟩:CL)) from ⟨_,rfl⟩) fun C2 d2=>?_
 refine Exists.elim (show∃C3,C3=C2++M3.map (fun y=>(⟨path,a,b,3,(0,0),y⟩:CL)) from ⟨_,rfl⟩) fun C3 d3=>?_
 refine Exists.elim (show∃C4,C4=C3++M4.map (fun y=>(⟨path,a,b,4,(0,0),y⟩:CL)) from ⟨_,rfl⟩) fun C4 d4=>?_
 have hE:C4=R:=by rw [d4,d3,d2,d1,d0,←hbet]
 have n0:C0.length=0:=by rw [d0];rfl
 have n1:C1.length≤20000:=by rw [d1,List.length_append,List.length_map];omega
 have n2:C2.length≤40000:=by rw [d2,List.length_append,List.length_map];omega
 have n3:C3.length≤41000:=by rw [d3,List.length_append,List.length_map];omega
 clear e1 e2 e3 e4 hbet hR
 refine Pure.of (S:=tt) (fn:=Tryz.f77) (n:=106) tt_ok Tryz.func77 rfl rfl rfl rfl fun w0 h0 F hgs=>?_
 (repeat refine A.s rfl ?_)
 refine A.b rfl fun b3=>?_
 refine A.b rfl fun b4=>?_
 refine A.b rfl fun b5=>?_
 (repeat first|refine A.s rfl ?_|refine A.r rfl rfl ?_|refine A.w rfl rfl ?_|refine A.p rfl ?_|refine A.b rfl fun bx=>?_|refine A.t rfl fun bl=>?_)
 refine A.draw 14 [0,1,2,3,5,6,7,8,10,11,12,13,4,9] noPubs [(4,elsA M1),(9,elsA (canE (overM u.w v.r)))] (by kernel_rfl) (by kernel_rfl) ?_
 (repeat first|refine WA.s rfl ?_|refine WA.r rfl rfl ?_|refine WA.p rfl ?_)
 refine WA.c rfl rfl h1 (.sub (by repeat (first|exact Sb.refl|exact SbL.refl|refine SbL.cons ?_ ?_|exact Sb.nil|exact Sb.own1|refine Sb.own ?_|refine Sb.ag ?_|refine Sb.tp ?_))) ?_
 (repeat first|refine WA.s rfl ?_|refine WA.r rfl rfl ?_|refine WA.p rfl ?_)
 refine WA.c rfl rfl h2 (.sub (by repeat (first|exact Sb.refl|exact SbL.refl|refine SbL.cons ?_ ?_|exact Sb.nil|exact Sb.own1|refine Sb.own ?_|refine Sb.ag ?_|refine Sb.tp ?_))) ?_
 (repeat first|refine WA.s rfl ?_|refine WA.r rfl rfl ?_|refine WA.p rfl ?_)
 refine WA.nil (l:=[]) rfl ?_
 (repeat first|refine A.s rfl ?_|refine A.r rfl rfl ?_|refine A.w rfl rfl ?_|refine A.p rfl ?_|refine A.b rfl fun bx=>?_|refine A.t rfl fun bl=>?_)
 refine A.c rfl h3 (by repeat (first|exact Sb.refl|exact SbL.refl|refine SbL.cons ?_ ?_|exact Sb.nil|exact Sb.own1|refine Sb.own ?_|refine Sb.ag ?_|refine Sb.tp ?_)) ?_
 (repeat first|refine A.s rfl ?_|refine A.r rfl rfl ?_|refine A.w rfl rfl ?_|refine A.p rfl ?_|refine A.b rfl fun bx=>?_|refine A.t rfl fun bl=>?_)
 refine A.emptyRow 7 7 rfl fun z0=>?_
 refine A.valE 7 rfl (x':= .ms z0 7 C0.length) (by rw [d0];rfl) ?_
 refine A.sub (U:=[(3,PT b3),(4,PT b4),(5,PT b5),(7, .ms z0 7 C0.length),(8, .sl 1 [elsA M1,elsA M2] none),(9,AI 0)]) (by repeat (first|exact trivial|refine ⟨⟨_,rfl,(by repeat (first|exact Sb.refl|exact SbL.refl|refine SbL.cons ?_ ?_|exact Sb.nil|exact Sb.own1|refine Sb.own ?_|refine Sb.ag ?_|refine Sb.tp ?_))⟩,?_⟩)) ?_
 refine A.entsEq (Λ':=[.row 7 z0 (C0.map encC), .box b5 (encC ⟨path,a,b,kd,(0,0),0⟩), .box b4 (uA v), .box b3 (uA u)]) (by rw [d0];rfl) ?_
 refine A.loop1 ?_
 (repeat first|refine A.s rfl ?_|refine A.r rfl rfl ?_|refine A.w rfl rfl ?_|refine A.p rfl ?_|refine A.b rfl fun bx=>?_|refine A.t rfl fun bl=>?_)
 refine A.keep [3,4,5,7,8,9,10] rfl ?_
 refine A.loopP (ι:=Nat×Value) (fun j=>(⟨[(3,PT b3),(4,PT b4),(5,PT b5),(7, .ms j.2 7 (C0++(M1.take j.1).map (fun y=>(⟨path,a,b,1,y,0⟩:CL))).length),(8, .sl 1 [elsA M1,elsA M2] none),(9,AI 0),(10,AI (j.1:Nat))],[]⟩,[.row 7 j.2 ((C0++(M1.take j.1).map (fun y=>(⟨path,a,b,1,y,0⟩:CL))).map encC), .box b5 (encC ⟨path,a,b,kd,(0,0),0⟩), .box b4 (uA v), .box b3 (uA u)])) (fun j=>j.1≤M1.length) (fun j=>M1.length-j.1) (0,z0) (Nat.zero_le _) (by simp) fun j hj ih=>?_
 obtain ⟨j,z1⟩:=j
 simp only at hj ih⊢
 (repeat first|refine A.s rfl ?_|refine A.r rfl rfl ?_|refine A.w rfl rfl ?_|refine A.p rfl ?_|refine A.b rfl fun bx=>?_|refine A.t rfl fun bl=>?_)
 refine A.x rfl (by decide) rfl rfl rfl ?_
 (repeat first|refine A.s rfl ?_|refine A.r rfl rfl ?_|refine A.w rfl rfl ?_|refine A.p rfl ?_|refine A.b rfl fun bx=>?_|refine A.t rfl fun bl=>?_)
 refine A.cond rfl (fun hc=>?_) (fun hc=>?_)
 ·have hcj:j<M1.length:=by simpa using hc
  clear hc
  refine Exists.elim (at_exN (l:=M1) (i:=j) hcj) fun y hy=>?_
  have q1:=cs_len (cs:=C0) (f:=fun y=>(⟨path,a,b,1,y,0⟩:CL)) hy
  have q2:=cs_map (cs:=C0) (f:=fun y=>(⟨path,a,b,1,y,0⟩:CL)) hy
  refine Exists.elim (show∃q,q=C0++(M1.take j).map (fun y=>(⟨path,a,b,1,y,0⟩:CL)) from ⟨_,rfl⟩) fun q hq=>?_
  have hql:q.length≤100000:=by rw [hq,List.length_append,List.length_map,List.length_take];omega
  rw [←hq] at q1 q2
  refine A.entsEq (Λ':=[.row 7 z1 (q.map encC), .box b5 (encC ⟨path,a,b,kd,(0,0),0⟩), .box b4 (uA v), .box b3 (uA u)]) (by rw [hq]) ?_
  clear hq
  (repeat refine A.s rfl ?_)
  refine A.r rfl rfl ?_
  refine A.b rfl fun b11=>?_
  (repeat first|refine A.s rfl ?_|refine A.r rfl rfl ?_|refine A.w rfl rfl ?_|refine A.p rfl ?_|refine A.b rfl fun bx=>?_|refine A.t rfl fun bl=>?_)
  refine A.x rfl (by decide) rfl rfl rfl ?_
  (repeat first|refine A.s rfl ?_|refine A.r rfl rfl ?_|refine A.w rfl rfl ?_|refine A.p rfl ?_|refine A.b rfl fun bx=>?_|refine A.t rfl fun bl=>?_)
  refine A.x rfl (by decide) rfl rfl rfl ?_
  (repeat first|refine A.s rfl ?_|refine A.r rfl rfl ?_|refine A.w rfl rfl ?_|refine A.p rfl ?_|refine A.b rfl fun bx=>?_|refine A.t rfl fun bl=>?_)
  refine A.x rfl (by omega) (map_atE hy) rfl rfl ?_
  (repeat first|refine A.s rfl ?_|refine A.r rfl rfl ?_|refine A.w rfl rfl ?_|refine A.p rfl ?_|refine A.b rfl fun bx=>?_|refine A.t rfl fun bl=>?_)
  refine A.appendRowE rfl rfl rfl rfl rfl rfl rfl rfl rfl rfl rfl rfl rfl rfl (by show ((q.map encC).length+1)*7≤_;rw [List.length_map];omega) (by show ((q.map encC).length+1)*7*72≤_;rw [List.length_map];omega) fun z2=>?_
  (repeat first|refine A.s rfl ?_|refine A.r rfl rfl ?_|refine A.w rfl rfl ?_|refine A.p rfl ?_|refine A.b rfl fun bx=>?_|refine A.t rfl fun bl=>?_)
  refine A.less (Λ':=[.row 7 z2 _, .box b5 _, .box b4 _, .box b3 _]) (by repeat (first|exact List.Sublist.refl _|apply List.Sublist.cons_cons|apply List.Sublist.cons)) ?_
  refine A.valE 7 rfl (x':= .ms z2 7 (C0++(M1.take (j+1)).map (fun y=>(⟨path,a,b,1,y,0⟩:CL))).length) (by rw [q1];rfl) ?_
  refine A.entsEq (Λ':=[.row 7 z2 ((C0++(M1.take (j+1)).map (fun y=>(⟨path,a,b,1,y,0⟩:CL))).map encC), .box b5 (encC ⟨path,a,b,kd,(0,0),0⟩), .box b4 (uA v), .box b3 (uA u)]) (by rw [q2];rfl) ?_
  refine A.valE 10 rfl (x':=AI ((j+1:Nat):Int)) (inc_eq j (by omega)) ?_
  refine A.sub (by repeat (first|exact trivial|refine ⟨⟨_,rfl, .refl⟩,?_⟩)) (ih (j+1,z2) (by show j+1≤_;omega) (by show M1.length-(j+1)<M1.length-j;omega))
 have hjl:j=M1.length:=by
  have: ¬j<M1.length:=by simpa using hc
  omega
 clear hc ih hj
 refine A.valE 7 rfl (x':= .ms z1 7 C1.length) (by rw [hjl,List.take_length,←d1]) ?_
 refine A.entsEq (Λ':=[.row 7 z1 (C1.map encC), .box b5 (encC ⟨path,a,b,kd,(0,0),0⟩), .box b4 (uA v), .box b3 (uA u)]) (by rw [hjl,List.take_length,←d1]) ?_
 clear hjl
 (repeat first|refine A.s rfl ?_|refine A.r rfl rfl ?_|refine A.w rfl rfl ?_|refine A.p rfl ?_|refine A.b rfl fun bx=>?_|refine A.t rfl fun bl=>?_)
 refine A.valE 9 rfl (x':=AI 1) rfl ?_
 refine A.keep [3,4,5,7,8,9] rfl ?_
 refine A.again ?_
 (repeat first|refine A.s rfl ?_|refine A.r rfl rfl ?_|refine A.w rfl rfl ?_|refine A.p rfl ?_|refine A.b rfl fun bx=>?_|refine A.t rfl fun bl=>?_)
 refine A.keep [3,4,5,7,8,9,10] rfl ?_
 refine A.loopP (ι:=Nat×Value) (fun j=>(⟨[(3,PT b3),(4,PT b4),(5,PT b5),(7, .ms j.2 7 (C1++(M2.take j.1).map (fun y=>(⟨path,a,b,2,y,0⟩:CL))).length),(8, .sl 1 [elsA M1,elsA M2] none),(9,AI 1),(10,AI (j.1:Nat))],[]⟩,[.row 7 j.2 ((C1++(M2.take j.1).map (fun y=>(⟨path,a,b,2,y,0⟩:CL))).map encC), .box b5 (encC ⟨path,a,b,kd,(0,0),0⟩), .box b4 (uA v), .box b3 (uA u)])) (fun j=>j.1≤M2.length) (fun j=>M2.length-j.1) (0,z1) (Nat.zero_le _) (by simp) fun j hj ih=>?_
 obtain ⟨j,z1⟩:=j
 simp only at hj ih⊢
 (repeat first|refine A.s rfl ?_|refine A.r rfl rfl ?_|refine A.w rfl rfl ?_|refine A.p rfl ?_|refine A.b rfl fun bx=>?_|refine A.t rfl fun bl=>?_)
 refine A.x rfl (by decide) rfl rfl rfl ?_
 (repeat first|refine A.s rfl ?_|refine A.r rfl rfl ?_|refine A.w rfl rfl ?_|refine A.p rfl ?_|refine A.b rfl fun bx=>?_|refine A.t rfl fun bl=>?_)
 refine A.cond rfl (fun hc=>?_) (fun hc=>?_)
 ·have hcj:j<M2.length:=by simpa using hc
  clear hc
  refine Exists.elim (at_exN (l:=M2) (i:=j) hcj) fun y hy=>?_
  have q1:=cs_len (cs:=C1) (f:=fun y=>(⟨path,a,b,2,y,0⟩:CL)) hy
  have q2:=cs_map (cs:=C1) (f:=fun y=>(⟨path,a,b,2,y,0⟩:CL)) hy
  refine Exists.elim (show∃q,q=C1++(M2.take j).map (fun y=>(⟨path,a,b,2,y,0⟩:CL)) from ⟨_,rfl⟩) fun q hq=>?_
  have hql:q.length≤100000:=by rw [hq,List.length_append,List.length_map,List.length_take];omega
  rw [←hq] at q1 q2
  refine A.entsEq (Λ':=[.row 7 z1 (q.map encC), .box b5 (encC ⟨path,a,b,kd,(0,0),0⟩), .box b4 (uA v), .box b3 (uA u)]) (by rw [hq]) ?_
  clear hq
  (repeat refine A.s rfl ?_)
  refine A.r rfl rfl ?_
  refine A.b rfl fun b11=>?_
  (repeat first|refine A.s rfl ?_|refine A.r rfl rfl ?_|refine A.w rfl rfl ?_|refine A.p rfl ?_|refine A.b rfl fun bx=>?_|refine A.t rfl fun bl=>?_)
  refine A.x rfl (by decide) rfl rfl rfl ?_
  (repeat first|refine A.s rfl ?_|refine A.r rfl rfl ?_|refine A.w rfl rfl ?_|refine A.p rfl ?_|refine A.b rfl fun bx=>?_|refine A.t rfl fun bl=>?_)
  refine A.x rfl (by decide) rfl rfl rfl ?_
  (repeat first|refine A.s rfl ?_|refine A.r rfl rfl ?_|refine A.w rfl rfl ?_|refine A.p rfl ?_|refine A.b rfl fun bx=>?_|refine A.t rfl fun bl=>?_)
  refine A.x rfl (by omega) (map_atE hy) rfl rfl ?_
  (repeat first|refine A.s rfl ?_|refine A.r rfl rfl ?_|refine A.w rfl rfl ?_|refine A.p rfl ?_|refine A.b rfl fun bx=>?_|refine A.t rfl fun bl=>?_)
  refine A.appendRowE rfl rfl rfl rfl rfl rfl rfl rfl rfl rfl rfl rfl rfl rfl (by show ((q.map encC).length+1)*7≤_;rw [List.length_map];omega) (by show ((q.map encC).length+1)*7*72≤_;rw [List.length_map];omega) fun z2=>?_
  (repeat first|refine A.s rfl ?_|refine A.r rfl rfl ?_|refine A.w rfl rfl ?_|refine A.p rfl ?_|refine A.b rfl fun bx=>?_|refine A.t rfl fun bl=>?_)
  refine A.less (Λ':=[.row 7 z2 _, .box b5 _, .box b4 _, .box b3 _]) (by repeat (first|exact List.Sublist.refl _|apply List.Sublist.cons_cons|apply List.Sublist.cons)) ?_
  refine A.valE 7 rfl (x':= .ms z2 7 (C1++(M2.take (j+1)).map (fun y=>(⟨path,a,b,2,y,0⟩:CL))).length) (by rw [q1];rfl) ?_
  refine A.entsEq (Λ':=[.row 7 z2 ((C1++(M2.take (j+1)).map (fun y=>(⟨path,a,b,2,y,0⟩:CL))).map encC), .box b5 (encC ⟨path,a,b,kd,(0,0),0⟩), .box b4 (uA v), .box b3 (uA u)]) (by rw [q2];rfl) ?_
  refine A.valE 10 rfl (x':=AI ((j+1:Nat):Int)) (inc_eq j (by omega)) ?_
  refine A.sub (by repeat (first|exact trivial|refine ⟨⟨_,rfl, .refl⟩,?_⟩)) (ih (j+1,z2) (by show j+1≤_;omega) (by show M2.length-(j+1)<M2.length-j;omega))
 have hjl:j=M2.length:=by
  have: ¬j<M2.length:=by simpa using hc
  omega
 clear hc ih hj
 refine A.valE 7 rfl (x':= .ms z1 7 C2.length) (by rw [hjl,List.take_length,←d2]) ?_
 refine A.entsEq (Λ':=[.row 7 z1 (C2.map encC), .box b5 (encC ⟨path,a,b,kd,(0,0),0⟩), .box b4 (uA v), .box b3 (uA u)]) (by rw [hjl,List.take_length,←d2]) ?_
 clear hjl
 (repeat first|refine A.s rfl ?_|refine A.r rfl rfl ?_|refine A.w rfl rfl ?_|refine A.p rfl ?_|refine A.b rfl fun bx=>?_|refine A.t rfl fun bl=>?_)
 refine A.valE 9 rfl (x':=AI 2) rfl ?_
 refine A.keep [3,4,5,7,8,9] rfl ?_
 refine A.again ?_
 (repeat first|refine A.s rfl ?_|refine A.r rfl rfl ?_|refine A.w rfl rfl ?_|refine A.p rfl ?_|refine A.b rfl fun bx=>?_|refine A.t rfl fun bl=>?_)
 refine A.draw 9 [0,1,2,3,5,6,7,8,4] noPubs [(4,intsA M3)] (by kernel_rfl) (by kernel_rfl) ?_
 (repeat first|refine WA.s rfl ?_|refine WA.r rfl rfl ?_|refine WA.p rfl ?_)
 refine WA.c rfl rfl h4 (.sub (by repeat (first|exact Sb.refl|exact SbL.refl|refine SbL.cons ?_ ?_|exact Sb.nil|exact Sb.own1|refine Sb.own ?_|refine Sb.ag ?_|refine Sb.tp ?_))) ?_
 (repeat first|refine WA.s rfl ?_|refine WA.r rfl rfl ?_|refine WA.p rfl ?_)
 refine WA.nil (l:=[]) rfl ?_
 (repeat first|refine A.s rfl ?_|refine A.r rfl rfl ?_|refine A.w rfl rfl ?_|refine A.p rfl ?_|refine A.b rfl fun bx=>?_|refine A.t rfl fun bl=>?_)
 refine A.c rfl h5 (by repeat (first|exact Sb.refl|exact SbL.refl|refine SbL.cons ?_ ?_|exact Sb.nil|exact Sb.own1|refine Sb.own ?_|refine Sb.ag ?_|refine Sb.tp ?_)) ?_
 (repeat first|refine A.s rfl ?_|refine A.r rfl rfl ?_|refine A.w rfl rfl ?_|refine A.p rfl ?_|refine A.b rfl fun bx=>?_|refine A.t rfl fun bl=>?_)
 refine A.sub (U:=[(3,PT b3),(4,PT b4),(5,PT b5),(7, .ms z1 7 C2.length),(12, .sl 1 [intsA M3,intsA M4] none),(13,AI 0)]) (by repeat (first|exact trivial|refine ⟨⟨_,rfl,(by repeat (first|exact Sb.refl|exact SbL.refl|refine SbL.cons ?_ ?_|exact Sb.nil|exact Sb.own1|refine Sb.own ?_|refine Sb.ag ?_|refine Sb.tp ?_))⟩,?_⟩)) ?_
 refine A.loop1 ?_
 (repeat first|refine A.s rfl ?_|refine A.r rfl rfl ?_|refine A.w rfl rfl ?_|refine A.p rfl ?_|refine A.b rfl fun bx=>?_|refine A.t rfl fun bl=>?_)
 refine A.keep [3,4,5,7,12,13,14] rfl ?_
 refine A.loopP (ι:=Nat×Value) (fun j=>(⟨[(3,PT b3),(4,PT b4),(5,PT b5),(7, .ms j.2 7 (C2++(M3.take j.1).map (fun y=>(⟨path,a,b,3,(0,0),y⟩:CL))).length),(12, .sl 1 [intsA M3,intsA M4] none),(13,AI 0),(14,AI (j.1:Nat))],[]⟩,[.row 7 j.2 ((C2++(M3.take j.1).map (fun y=>(⟨path,a,b,3,(0,0),y⟩:CL))).map encC), .box b5 (encC ⟨path,a,b,kd,(0,0),0⟩), .box b4 (uA v), .box b3 (uA u)])) (fun j=>j.1≤M3.length) (fun j=>M3.length-j.1) (0,z1) (Nat.zero_le _) (by simp) fun j hj ih=>?_
 obtain ⟨j,z1⟩:=j
 simp only at hj ih⊢
 (repeat first|refine A.s rfl ?_|refine A.r rfl rfl ?_|refine A.w rfl rfl ?_|refine A.p rfl ?_|refine A.b rfl fun bx=>?_|refine A.t rfl fun bl=>?_)
 refine A.x rfl (by decide) rfl rfl rfl ?_
 (repeat first|refine A.s rfl ?_|refine A.r rfl rfl ?_|refine A.w rfl rfl ?_|refine A.p rfl ?_|refine A.b rfl fun bx=>?_|refine A.t rfl fun bl=>?_)
 refine A.cond rfl (fun hc=>?_) (fun hc=>?_)
 ·have hcj:j<M3.length:=by simpa using hc
  clear hc
  refine Exists.elim (at_exN (l:=M3) (i:=j) hcj) fun y hy=>?_
  have q1:=cs_len (cs:=C2) (f:=fun y=>(⟨path,a,b,3,(0,0),y⟩:CL)) hy
  have q2:=cs_map (cs:=C2) (f:=fun y=>(⟨path,a,b,3,(0,0),y⟩:CL)) hy
  refine Exists.elim (show∃q,q=C2++(M3.take j).map (fun y=>(⟨path,a,b,3,(0,0),y⟩:CL)) from ⟨_,rfl⟩) fun q hq=>?_
  have hql:q.length≤100000:=by rw [hq,List.length_append,List.length_map,List.length_take];omega
  rw [←hq] at q1 q2
  refine A.entsEq (Λ':=[.row 7 z1 (q.map encC), .box b5 (encC ⟨path,a,b,kd,(0,0),0⟩), .box b4 (uA v), .box b3 (uA u)]) (by rw [hq]) ?_
  clear hq
  (repeat refine A.s rfl ?_)
  refine A.r rfl rfl ?_
  refine A.b rfl fun b11=>?_
  (repeat first|refine A.s rfl ?_|refine A.r rfl rfl ?_|refine A.w rfl rfl ?_|refine A.p rfl ?_|refine A.b rfl fun bx=>?_|refine A.t rfl fun bl=>?_)
  refine A.x rfl (by decide) rfl rfl rfl ?_
  (repeat first|refine A.s rfl ?_|refine A.r rfl rfl ?_|refine A.w rfl rfl ?_|refine A.p rfl ?_|refine A.b rfl fun bx=>?_|refine A.t rfl fun bl=>?_)
  refine A.x rfl (by decide) rfl rfl rfl ?_
  (repeat first|refine A.s rfl ?_|refine A.r rfl rfl ?_|refine A.w rfl rfl ?_|refine A.p rfl ?_|refine A.b rfl fun bx=>?_|refine A.t rfl fun bl=>?_)
  refine A.x rfl (by omega) (map_at hy) rfl rfl ?_
  (repeat first|refine A.s rfl ?_|refine A.r rfl rfl ?_|refine A.w rfl rfl ?_|refine A.p rfl ?_|refine A.b rfl fun bx=>?_|refine A.t rfl fun bl=>?_)
  refine A.appendRowE rfl rfl rfl rfl rfl rfl rfl rfl rfl rfl rfl rfl rfl rfl (by show ((q.map encC).length+1)*7≤_;rw [List.length_map];omega) (by show ((q.map encC).length+1)*7*72≤_;rw [List.length_map];omega) fun z2=>?_
  (repeat first|refine A.s rfl ?_|refine A.r rfl rfl ?_|refine A.w rfl rfl ?_|refine A.p rfl ?_|refine A.b rfl fun bx=>?_|refine A.t rfl fun bl=>?_)
  refine A.less (Λ':=[.row 7 z2 _, .box b5 _, .box b4 _, .box b3 _]) (by repeat (first|exact List.Sublist.refl _|apply List.Sublist.cons_cons|apply List.Sublist.cons)) ?_
  refine A.valE 7 rfl (x':= .ms z2 7 (C2++(M3.take (j+1)).map (fun y=>(⟨path,a,b,3,(0,0),y⟩:CL))).length) (by rw [q1];rfl) ?_
  refine A.entsEq (Λ':=[.row 7 z2 ((C2++(M3.take (j+1)).map (fun y=>(⟨path,a,b,3,(0,0),y⟩:CL))).map encC), .box b5 (encC ⟨path,a,b,kd,(0,0),0⟩), .box b4 (uA v), .box b3 (uA u)]) (by rw [q2];rfl) ?_
  refine A.valE 14 rfl (x':=AI ((j+1:Nat):Int)) (inc_eq j (by omega)) ?_
  refine A.sub (by repeat (first|exact trivial|refine ⟨⟨_,rfl, .refl⟩,?_⟩)) (ih (j+1,z2) (by show j+1≤_;omega) (by show M3.length-(j+1)<M3.length-j;omega))
 have hjl:j=M3.length:=by
  have: ¬j<M3.length:=by simpa using hc
  omega
 clear hc ih hj
 refine A.valE 7 rfl (x':= .ms z1 7 C3.length) (by rw [hjl,List.take_length,←d3]) ?_
 refine A.entsEq (Λ':=[.row 7 z1 (C3.map encC), .box b5 (encC ⟨path,a,b,kd,(0,0),0⟩), .box b4 (uA v), .box b3 (uA u)]) (by rw [hjl,List.take_length,←d3]) ?_
 clear hjl
 (repeat first|refine A.s rfl ?_|refine A.r rfl rfl ?_|refine A.w rfl rfl ?_|refine A.p rfl ?_|refine A.b rfl fun bx=>?_|refine A.t rfl fun bl=>?_)
 refine A.valE 13 rfl (x':=AI 1) rfl ?_
 refine A.keep [3,4,5,7,12,13] rfl ?_
 refine A.again ?_
 (repeat first|refine A.s rfl ?_|refine A.r rfl rfl ?_|refine A.w rfl rfl ?_|refine A.p rfl ?_|refine A.b rfl fun bx=>?_|refine A.t rfl fun bl=>?_)
 refine A.keep [3,4,5,7,12,13,14] rfl ?_
 refine A.loopP (ι:=Nat×Value) (fun j=>(⟨[(3,PT b3),(4,PT b4),(5,PT b5),(7, .ms j.2 7 (C3++(M4.take j.1).map (fun y=>(⟨path,a,b,4,(0,0),y⟩:CL))).length),(12, .sl 1 [intsA M3,intsA M4] none),(13,AI 1),(14,AI (j.1:Nat))],[]⟩,[.row 7 j.2 ((C3++(M4.take j.1).map (fun y=>(⟨path,a,b,4,(0,0),y⟩:CL))).map encC), .box b5 (encC ⟨path,a,b,kd,(0,0),0⟩), .box b4 (uA v), .box b3 (uA u)])) (fun j=>j.1≤M4.length) (fun j=>M4.length-j.1) (0,z1) (Nat.zero_le _) (by simp) fun j hj ih=>?_
 obtain ⟨j,z1⟩:=j
 simp only at hj ih⊢
 (repeat first|refine A.s rfl ?_|refine A.r rfl rfl ?_|refine A.w rfl rfl ?_|refine A.p rfl ?_|refine A.b rfl fun bx=>?_|refine A.t rfl fun bl=>?_)
 refine A.x rfl (by decide) rfl rfl rfl ?_
 (repeat first|refine A.s rfl ?_|refine A.r rfl rfl ?_|refine A.w rfl rfl ?_|refine A.p rfl ?_|refine A.b rfl fun bx=>?_|refine A.t rfl fun bl=>?_)
 refine A.cond rfl (fun hc=>?_) (fun hc=>?_)
 ·have hcj:j<M4.length:=by simpa using hc
  clear hc
  refine Exists.elim (at_exN (l:=M4) (i:=j) hcj) fun y hy=>?_
  have q1:=cs_len (cs:=C3) (f:=fun y=>(⟨path,a,b,4,(0,0),y⟩:CL)) hy
  have q2:=cs_map (cs:=C3) (f:=fun y=>(⟨path,a,b,4,(0,0),y⟩:CL)) hy
  refine Exists.elim (show∃q,q=C3++(M4.take j).map (fun y=>(⟨path,a,b,4,(0,0),y⟩:CL)) from ⟨_,rfl⟩) fun q hq=>?_
  have hql:q.length≤100000:=by rw [hq,List.length_append,List.length_map,List.length_take];omega
  rw [←hq] at q1 q2
  refine A.entsEq (Λ':=[.row 7 z1 (q.map encC), .box b5 (encC ⟨path,a,b,kd,(0,0),0⟩), .box b4 (uA v), .box b3 (uA u)]) (by rw [hq]) ?_
  clear hq
  (repeat refine A.s rfl ?_)
  refine A.r rfl rfl ?_
  refine A.b rfl fun b11=>?_
  (repeat first|refine A.s rfl ?_|refine A.r rfl rfl ?_|refine A.w rfl rfl ?_|refine A.p rfl ?_|refine A.b rfl fun bx=>?_|refine A.t rfl fun bl=>?_)
  refine A.x rfl (by decide) rfl rfl rfl ?_
  (repeat first|refine A.s rfl ?_|refine A.r rfl rfl ?_|refine A.w rfl rfl ?_|refine A.p rfl ?_|refine A.b rfl fun bx=>?_|refine A.t rfl fun bl=>?_)
  refine A.x rfl (by decide) rfl rfl rfl ?_
  (repeat first|refine A.s rfl ?_|refine A.r rfl rfl ?_|refine A.w rfl rfl ?_|refine A.p rfl ?_|refine A.b rfl fun bx=>?_|refine A.t rfl fun bl=>?_)
  refine A.x rfl (by omega) (map_at hy) rfl rfl ?_
  (repeat first|refine A.s rfl ?_|refine A.r rfl rfl ?_|refine A.w rfl rfl ?_|refine A.p rfl ?_|refine A.b rfl fun bx=>?_|refine A.t rfl fun bl=>?_)
  refine A.appendRowE rfl rfl rfl rfl rfl rfl rfl rfl rfl rfl rfl rfl rfl rfl (by show ((q.map encC).length+1)*7≤_;rw [List.length_map];omega) (by show ((q.map encC).length+1)*7*72≤_;rw [List.length_map];omega) fun z2=>?_
  (repeat first|refine A.s rfl ?_|refine A.r rfl rfl ?_|refine A.w rfl rfl ?_|refine A.p rfl ?_|refine A.b rfl fun bx=>?_|refine A.t rfl fun bl=>?_)
  refine A.less (Λ':=[.row 7 z2 _, .box b5 _, .box b4 _, .box b3 _]) (by repeat (first|exact List.Sublist.refl _|apply List.Sublist.cons_cons|apply List.Sublist.cons)) ?_
  refine A.valE 7 rfl (x':= .ms z2 7 (C3++(M4.take (j+1)).map (fun y=>(⟨path,a,b,4,(0,0),y⟩:CL))).length) (by rw [q1];rfl) ?_
  refine A.entsEq (Λ':=[.row 7 z2 ((C3++(M4.take (j+1)).map (fun y=>(⟨path,a,b,4,(0,0),y⟩:CL))).map encC), .box b5 (encC ⟨path,a,b,kd,(0,0),0⟩), .box b4 (uA v), .box b3 (uA u)]) (by rw [q2];rfl) ?_
  refine A.valE 14 rfl (x':=AI ((j+1:Nat):Int)) (inc_eq j (by omega)) ?_
  refine A.sub (by repeat (first|exact trivial|refine ⟨⟨_,rfl, .refl⟩,?_⟩)) (ih (j+1,z2) (by show j+1≤_;omega) (by show M4.length-(j+1)<M4.length-j;omega))
 have hjl:j=M4.length:=by
  have: ¬j<M4.length:=by simpa using hc
  omega
 clear hc ih hj
 refine A.valE 7 rfl (x':= .ms z1 7 C4.length) (by rw [hjl,List.take_length,←d4]) ?_
 refine A.entsEq (Λ':=[.row 7 z1 (C4.map encC), .box b5 (encC ⟨path,a,b,kd,(0,0),0⟩), .box b4 (uA v), .box b3 (uA u)]) (by rw [hjl,List.take_length,←d4]) ?_
 clear hjl
 (repeat first|refine A.s rfl ?_|refine A.r rfl rfl ?_|refine A.w rfl rfl ?_|refine A.p rfl ?_|refine A.b rfl fun bx=>?_|refine A.t rfl fun bl=>?_)
 refine A.valE 13 rfl (x':=AI 2) rfl ?_
 refine A.keep [3,4,5,7,12,13] rfl ?_
 refine A.again ?_
 (repeat first|refine A.s rfl ?_|refine A.r rfl rfl ?_|refine A.w rfl rfl ?_|refine A.p rfl ?_|refine A.b rfl fun bx=>?_|refine A.t rfl fun bl=>?_)
 refine A.freezeRow 6 rfl ?_
 refine A.ret1 (Λ':=[]) rfl rfl rfl (List.nil_sublist _) ⟨?_,rfl⟩
 rw [hE]
 exact .refl
structure VIn(vs:List KV):Prop where
 len:vs.length≤256
 dim: ∀x,x∈vs→x.dim≤64
theorem dim_le{vs:List KV}(h:VIn vs)(v:Int):dimOf vs v≤64:=by
 unfold dimOf
 cases hv:vs[v.toNat]? with
 |none=>simp
 |some x=>exact h.dim x (List.mem_of_getElem? hv)
theorem elem_in{vs:List KV}(h:VIn vs){v:Int}{e:KE}(h0:0≤v)(h1:v<256):inR (elemM vs v e):=by
 have:=dim_le h v
 unfold elemM
 by_cases c:e.kind=1∧0≤e.n∧e.n<dimOf vs v
 ·rw [if_pos c];show 0≤v∧v<256∧ -1≤e.n∧e.n<64;omega
 ·rw [if_neg c];show 0≤v∧v<256∧(-1:Int)≤ -1∧(-1:Int)<64;omega
theorem rd_in{vs:List KV}(h:VIn vs): ∀(N:Nat) (e:KE),ht e≤N→fine e=true→ ∀z,z∈rdK vs e→inR z
 |0,e,hh,_=>by have:=ht_pos e;omega
 |N+1,e,hh,hf=>fun z hz=>by
  rcases fine_cases hf with ⟨n,rfl⟩|⟨v,h1,h2,rfl⟩|⟨v,a,h1,h2,ha,rfl⟩|⟨o,a,h1,h2,ha,rfl⟩|⟨o,a,b,h1,h2,ha,hb,rfl⟩|⟨t,a,h1,h2,ha,rfl⟩
  ·rw [rdK_eq,own_1] at hz;simp [rdKl,KE.l] at hz
  ·rw [rdK_eq,own_2] at hz
   have hz:z=(v,0):=by simpa [rdKl,KE.l] using hz
   subst hz
   show 0≤v∧v<256∧(-1:Int)≤0∧(0:Int)<64
   omega
  ·rw [rdK_eq,own_3] at hz
   simp only [rdKl_cons1,List.mem_append,List.mem_singleton] at hz
   rcases hz with rfl|hz
   ·exact elem_in h h1 (by omega)
   ·exact rd_in h N a (by simp only [ht,htl] at hh;omega) ha z hz
  ·rw [rdK_eq,own_4] at hz
   simp only [rdKl_cons1,List.nil_append] at hz
   exact rd_in h N a (by simp only [ht,htl] at hh;omega) ha z hz
  ·rw [rdK_eq,own_5] at hz
   simp only [rdKl_cons2,List.nil_append,List.mem_append] at hz
   rcases hz with hz|hz
   ·exact rd_in h N a (by simp only [ht,htl] at hh;omega) ha z hz
   ·exact rd_in h N b (by simp only [ht,htl] at hh;omega) hb z hz
  ·rw [rdK_eq,own_6] at hz
   simp only [rdKl_cons1,List.nil_append] at hz
   exact rd_in h N a (by simp only [ht,htl] at hh;omega) ha z hz
theorem fitV_in{vs:List KV}(h:VIn vs){e:KE}{k:Int}(hf:fitV vs e k=true): ∀z,z∈rdK vs e→inR z:=by
 simp only [fitV,Bool.and_eq_true,decide_eq_true_eq] at hf
 obtain ⟨h1,-⟩:=hf
 obtain ⟨h3,-,-⟩:fits e 256 32:=h1
 exact rd_in h _ e (Nat.le_refl _) h3
structure RU.inr(u:RU):Prop where
 r: ∀z,z∈u.r→inR z
 w: ∀z,z∈u.w→inR z
 i: ∀z,z∈u.i→0≤z∧z<64
 o: ∀z,z∈u.o→0≤z∧z<64
theorem RU.inr_add{u v:RU}(h:u.inr)(k:v.inr):(u.add v).inr:=
 ⟨fun z hz=>(List.mem_append.1 hz).elim (h.r z) (k.r z),fun z hz=>(List.mem_append.1 hz).elim (h.w z) (k.w z),fun z hz=>(List.mem_append.1 hz).elim (h.i z) (k.i z),fun z hz=>(List.mem_append.1 hz).elim (h.o z) (k.o z)⟩
theorem RU.inr_nil:RU.nil.inr:=⟨(fun z h=>by cases h),(fun z h=>by cases h),(fun z h=>by cases h),(fun z h=>by cases h)⟩
theorem RU.inr_rd{l:List EL}(h: ∀z,z∈l→inR z):(RU.mk l [] [] []).inr:=⟨h,(fun z h=>by cases h),(fun z h=>by cases h),(fun z h=>by cases h)⟩
theorem plU_in{vs:List KV}(h:VIn vs){p:PL}{k:Int}(hp:placeB vs p k=true):(plU vs p).inr:=by
 obtain ⟨v,ix⟩:=p
 unfold placeB at hp
 simp only at hp
 have hl:=h.len
 split at hp
 ·cases hp
 ·rename_i hv
  split at hp
  ·rename_i x hx
   simp only [Bool.and_eq_true] at hp
   have hi:=hp.2
   split at hi
   ·have:ix=[]:=List.length_eq_zero_iff.1 (by simpa using hi)
    subst this
    exact ⟨fun z hz=>by simp [plU,rdKl] at hz,fun z hz=>by
     have:z=(v,0):=by simpa [plU,plE] using hz
     subst this
     show 0≤v∧v<256∧(-1:Int)≤0∧(0:Int)<64
     omega,(fun z h=>by cases h),(fun z h=>by cases h)⟩
   ·simp only [Bool.and_eq_true,beq_iff_eq] at hi
    match ix,hi with
    | [a],hi=>
      simp only [fit1] at hi
      exact ⟨fun z hz=>fitV_in h hi.2 z (by simpa [plU,rdKl] using hz),fun z hz=>by
       have:z=elemM vs v a:=by simpa [plU,plE] using hz
       subst this
       exact elem_in h (by omega) (by omega),(fun z h=>by cases h),(fun z h=>by cases h)⟩
  ·cases hp
theorem plsU_in{vs:List KV}: ∀{l:List PL},(∀t,t∈l→(plU vs t).inr)→(plsU vs l).inr
 | [],_=>RU.inr_nil
 |x::r,h=>by
  rw [plsU]
  exact RU.inr_add (h x (List.mem_cons_self ..)) (plsU_in fun t ht=>h t (List.mem_cons_of_mem _ ht))
theorem rdKl_in{vs:List KV}: ∀{l:List KE},(∀t,t∈l→ ∀z,z∈rdK vs t→inR z)→ ∀z,z∈rdKl vs l→inR z
 | [],_,z,hz=>by simp [rdKl] at hz
 |x::r,h,z,hz=>by
  rw [rdKl] at hz
  rcases List.mem_append.1 hz with hz|hz
  ·exact h x (List.mem_cons_self ..) z hz
  ·exact rdKl_in (fun t ht=>h t (List.mem_cons_of_mem _ ht)) z hz
theorem chan_in{n:Nat}{c item no:Int}(hn:n≤64)(h:chanB n c item no=true):0≤c∧c<64:=by
 simp only [chanB,Bool.and_eq_true,decide_eq_true_eq] at h
 omega
theorem own_in{vs:List KV}(h:VIn vs){n:Nat}(hn:n≤64){p:PR}(hk:kindB vs n p=true):(ownU vs p.kind p.c p.v).inr:=by
 have hl:=h.len
 unfold ownU
 by_cases c3:p.kind=3
 ·have hv:=(kind_node hk).v c3
  rw [if_pos c3]
  refine ⟨(fun z h=>by cases h),fun z hz=>?_,(fun z h=>by cases h),(fun z h=>by cases h)⟩
  have hz:=List.mem_singleton.1 hz
  subst hz
  by_cases d:0<dimOf vs p.v
  ·rw [if_pos d];show 0≤p.v∧p.v<256∧(-1:Int)≤ -1∧(-1:Int)<64;omega
  ·rw [if_neg d];show 0≤p.v∧p.v<256∧(-1:Int)≤0∧(0:Int)<64;omega
 rw [if_neg c3]
 by_cases c5:p.kind=5
 ·rw [if_pos c5]
  unfold kindB at hk
  rw [if_neg (by omega),if_neg (by omega),if_neg (by omega),if_pos c5] at hk
  simp only [Bool.and_eq_true] at hk
  refine ⟨(fun z h=>by cases h),(fun z h=>by cases h),fun z hz=>?_,(fun z h=>by cases h)⟩
  have hz:=List.mem_singleton.1 hz
  subst hz
  have ht:=hk.2
  unfold to1 at ht
  split at ht
  ·simp only [inputB,Bool.and_eq_true] at ht
   exact chan_in hn ht.1
  ·cases ht
 rw [if_neg c5]
 by_cases c6:p.kind=6
 ·rw [if_pos c6]
  unfold kindB at hk
  rw [if_neg (by omega),if_neg (by omega),if_neg (by omega),if_neg c5,if_pos c6] at hk
  simp only [Bool.and_eq_true] at hk
  refine ⟨(fun z h=>by cases h),(fun z h=>by cases h),(fun z h=>by cases h),fun z hz=>?_⟩
  have hz:=List.mem_singleton.1 hz
  subst hz
  exact chan_in hn hk.1.2
 rw [if_neg c6]
 exact RU.inr_nil
theorem guard_in{vs:List KV}(hV:VIn vs){n:Nat}(hn:n≤64){g:GD}{c:Bool}(h:guardB vs n g c=true):(gdU vs g.kind g.cond g.c g.to g.time).inr:=by
 unfold guardB at h
 rw [Bool.and_eq_true,Bool.and_eq_true,Bool.and_eq_true] at h
 obtain ⟨⟨⟨h1,h2⟩,-⟩,h3⟩:=h
 have a1:=RU.inr_rd (fitV_in hV h2)
 unfold gdU
 by_cases c3:g.kind=3
 ·rw [if_neg (by omega),if_pos c3] at h3
  simp only [inputB,Bool.and_eq_true] at h3
  rw [if_neg (by omega),if_pos c3]
  refine RU.inr_add a1 (RU.inr_add ⟨(fun z h=>by cases h),(fun z h=>by cases h),fun z hz=>?_,(fun z h=>by cases h)⟩ (plU_in hV h3.2.2))
  have hz:=List.mem_singleton.1 hz
  subst hz
  exact chan_in hn h3.2.1
 ·by_cases c4:g.kind=4
  ·rw [if_neg (by omega),if_neg c3,if_pos c4] at h3
   simp only [Bool.and_eq_true] at h3
   rw [if_pos c4]
   exact RU.inr_add a1 (RU.inr_rd (fitV_in hV h3.2))
  ·rw [if_neg c4,if_neg c3]
   exact RU.inr_add a1 RU.inr_nil
abbrev InN(vs:List KV)(n N:Nat):Prop:= ∀(p:PR) (high:Bool),htR p≤N→okR vs n high p=true→(rawR vs p).inr
theorem in_l{vs:List KV}{n N:Nat}(ih:InN vs n N): ∀(l:List PR) (high first:Bool),htL l≤N→okL vs n high first l=true→(rawRl vs l).inr
 | [],_,_,_,_=>by rw [rawRl];exact RU.inr_nil
 |p::r,high,first,h,ho=>by
  rw [okL,Bool.and_eq_true] at ho
  rw [htL] at h
  rw [rawRl]
  exact RU.inr_add (ih p _ (by omega) ho.1) (in_l ih r _ _ (by omega) ho.2)
theorem in_g{vs:List KV}(hV:VIn vs){n N:Nat}(hn:n≤64)(ih:InN vs n N): ∀(l:List GD) (high:Bool),htGs l≤N→okGs vs n high l=true→(∀g,g∈l→ ∃c,guardB vs n g c=true)→(rawGl vs l).inr
 | [],_,_,_,_=>by rw [rawGl];exact RU.inr_nil
 |g::r,high,h,ho,hg=>by
  rw [okGs,Bool.and_eq_true] at ho
  rw [htGs] at h
  obtain ⟨c,hc⟩:=hg g (List.mem_cons_self ..)
  have b1:=in_g hV hn ih r high (by omega) ho.2 (fun x hx=>hg x (List.mem_cons_of_mem _ hx))
  have a2:=in_l ih g.body high false (by rw [←htG_eq];omega) (by rw [←okG_eq];exact ho.1)
  rw [rawGl,rawG_eq]
  refine RU.inr_add (RU.inr_add (guard_in hV hn hc) ?_) b1
  cases hb:g.body with
  |nil=>rw [rawB];exact RU.inr_nil
  |cons x s=>
   rw [hb,rawRl] at a2
   rw [rawB]
   exact ⟨fun z hz=>a2.r z (List.mem_append_left _ hz),fun z hz=>a2.w z (List.mem_append_left _ hz),fun z hz=>a2.i z (List.mem_append_left _ hz),fun z hz=>a2.o z (List.mem_append_left _ hz)⟩
theorem use_in{vs:List KV}(hV:VIn vs){n:Nat}(hn:n≤64): ∀N,InN vs n N
 |0,p,_,h,_=>by have:=htR_pos p;omega
 |N+1,p,high,h,ho=>by
  rw [okR_eq,Bool.and_eq_true,Bool.and_eq_true,Bool.and_eq_true] at ho
  rw [htR_eq] at h
  have hk:=kind_node ho.1.1.1
  have a2:=in_l (use_in hV hn N) p.l high _ (by omega) ho.1.2
  have b2:=in_g hV hn (use_in hV hn N) p.gs high (by omega) ho.2 hk.g
  have c1:=plsU_in (vs:=vs) (l:=p.to) fun t ht=>by obtain ⟨k,q⟩:=hk.to t ht;exact plU_in hV q
  have c2:=RU.inr_rd (rdKl_in (vs:=vs) (l:=p.e) fun x hx=>by obtain ⟨k,q⟩:=hk.e x hx;exact fitV_in hV q)
  rw [rawR_eq]
  exact RU.inr_add (RU.inr_add (RU.inr_add (own_in hV hn ho.1.1.1) c1) c2) (RU.inr_add a2 b2)
theorem can_ok{u:RU}(h:u.inr):UseOk (canU u):=⟨fun z hz=>h.r z (mem_canE.1 hz),fun z hz=>h.w z (mem_canE.1 hz),fun z hz=>h.i z (mem_canI.1 hz),fun z hz=>h.o z (mem_canI.1 hz),asc_canE _,asc_canE _,asc_canI _,asc_canI _⟩
theorem bet_ok{u v:RU}(hu:UseOk u)(hv:UseOk v):BetOk u v:=by
 have sr:=asc_short hu.ar hu.r
 have sw:=asc_short hu.aw hu.w
 have tr:=asc_short hv.ar hv.r
 have tw:=asc_short hv.aw hv.w
 have si:=ascI_short hu.ai hu.i
 have so:=ascI_short hu.ao hu.o
 have ti:=ascI_short hv.ai hv.i
 have to:=ascI_short hv.ao hv.o
 have l1:=canE_short (over_in hu.w hv.w)
 have l2:(canE (overM u.w v.r++overM u.r v.w)).length≤16640:=canE_short fun z h=>by
  rcases List.mem_append.1 h with h|h
  ·exact over_in hu.w hv.r z h
  ·exact over_in hu.r hv.w z h
 exact ⟨by omega,by omega,by omega,by omega,by omega,by omega,by omega,by omega,by omega,by omega⟩
theorem vin_of{k:KN}(h:mayK k=true):VIn k.vars∧k.chans.length≤64:=by
 simp only [mayK,lensK,Bool.and_eq_true,decide_eq_true_eq] at h
 obtain ⟨⟨⟨⟨⟨⟨⟨h1,h2⟩,h3⟩,-⟩,-⟩,h4⟩,-⟩,-⟩:=h
 refine ⟨⟨h1,fun x hx=>?_⟩,h3⟩
 have:=List.all_eq_true.1 h4 x hx
 simp only [varOk,Bool.and_eq_true,decide_eq_true_eq] at this
 exact this.2
abbrev pairF(vs:List KV)(x:List Int×PR):List CL:=pairsM x.1 0 (x.2.l.map (usesM vs))
def clR(vs:List KV)(path:List Int)(p:PR):List CL:=(parsM path p).flatMap (pairF vs)
def clL(vs:List KV)(path:List Int)(i:Nat)(l:List PR):List CL:=(parsL path i l).flatMap (pairF vs)
def clG(vs:List KV)(path:List Int)(i:Nat)(l:List GD):List CL:=(parsG path i l).flatMap (pairF vs)
theorem clL_nil(vs:List KV)(path:List Int)(i:Nat):clL vs path i []=[]:=by unfold clL;rw [parsL];rfl
theorem clL_cons(vs:List KV)(path:List Int)(i:Nat)(x:PR)(r:List PR):clL vs path i (x::r)=clR vs (path++[(i:Int)]) x++clL vs path (i+1) r:=by unfold clL clR;rw [parsL,List.flatMap_append]
theorem clG_nil(vs:List KV)(path:List Int)(i:Nat):clG vs path i []=[]:=by unfold clG;rw [parsG];rfl
theorem clG_cons(vs:List KV)(path:List Int)(i:Nat)(g:GD)(r:List GD){x:PR}(h:g.body=[x]):clG vs path i (g::r)=clR vs (path++[(i:Int)]) x++clG vs path (i+1) r:=by
 obtain ⟨gk,gc,gh,gi,gt,gm,gb⟩:=g
 have h:gb=[x]:=h
 subst h
 unfold clG clR;rw [parsG,List.flatMap_append,parsB]
abbrev bothP(p:PR):Prop:=p.kind=10∨p.kind=11
theorem clR_eq(vs:List KV)(path:List Int)(p:PR):clR vs path p=(if bothP p then pairsM path 0 (p.l.map (usesM vs)) else [])++(clL vs path 0 p.l++clG vs path p.l.length p.gs):=by
 obtain ⟨k,c,v,it,to,e,gs,l⟩:=p
 unfold clR clL clG
 rw [parsM,List.flatMap_append,List.flatMap_append]
 congr 1
 by_cases h:k=10∨k=11
 ·rw [if_pos h]
  exact Eq.trans (by rw [List.flatMap_cons,List.flatMap_nil,List.append_nil]) (if_pos (show bothP (PR.mk k c v it to e gs l) from h)).symm
 ·rw [if_neg h]
  exact Eq.trans (by rw [List.flatMap_nil]) (if_neg (show¬bothP (PR.mk k c v it to e gs l) from h)).symm
abbrev mostB:Nat:=33408
theorem bet_len{u v:RU}(hu:UseOk u)(hv:UseOk v)(path:List Int)(a b:Int):(betM u v path a b).length≤mostB:=by
 have si:=ascI_short hu.ai hu.i
 have so:=ascI_short hu.ao hu.o
 have l1:=canE_short (over_in hu.w hv.w)
 have l2:(canE (overM u.w v.r++overM u.r v.w)).length≤16640:=canE_short fun z h=>by
  rcases List.mem_append.1 h with h|h
  ·exact over_in hu.w hv.r z h
  ·exact over_in hu.r hv.w z h
 have l3:(comM u.i v.i).length≤64:=Nat.le_trans (List.length_filter_le _ _) si
 have l4:(comM u.o v.o).length≤64:=Nat.le_trans (List.length_filter_le _ _) so
 unfold betM
 simp only [List.length_append,List.length_map]
 show _≤33408
 omega
theorem row_len{u:RU}(hu:UseOk u)(path:List Int)(a:Int): ∀{us:List RU} {b:Int},(∀v,v∈us→UseOk v)→(rowM2 path u a b us).length≤mostB*us.length
 | [],b,_=>by rw [rowM2];exact Nat.zero_le _
 |v::r,b,h=>by
  have h1:=bet_len hu (h v (List.mem_cons_self ..)) path a b
  have h2:=row_len hu path a (us:=r) (b:=b+1) fun x hx=>h x (List.mem_cons_of_mem _ hx)
  rw [rowM2,List.length_append,List.length_cons,Nat.mul_succ]
  omega
theorem down_p(path:List Int)(i:Int)(h:path.length≤100000):Pure Tryz.prog gs0 78 [intsA path,AI i] (intsA (path++[i])):=by
 have hr:([]++path.map AI)++[AI i]=(path++[i]).map AI:=by simp
 refine p_ tt_ok Tryz.func78 13 fun w0 h0 F hgs=>?_
 refine y_ ?_
 refine A.append0 rfl rfl rfl rfl rfl rfl rfl rfl rfl rfl rfl rfl rfl rfl (by show (0+(path.map AI).length)*1≤_;rw [List.length_map];omega) fun z1=>?_
 refine t_ fun bl=>?_
 refine A.append rfl rfl rfl rfl rfl rfl rfl rfl rfl rfl rfl rfl rfl rfl (by show (([]++path.map AI).length+1)*1≤_;rw [List.nil_append,List.length_map];omega) fun z2=>?_
 refine y_ ?_
 refine R_ ?_
 exact own_eq hr
theorem allC(l:List CL):allElt ty51 (l.map encC)=true:=by
 induction l with
 |nil=>rfl
 |cons x r ih=>
  show (match eltOk ty51 (encC x) with|true=>allElt ty51 (r.map encC)|false=>false)=true
  rw [show eltOk ty51 (encC x)=true from rfl]
  exact ih
structure ClOk(vs:List KV)(n:Nat)(p:PR):Prop where
 ok: ∃high,okR vs n high p=true
 wf:wfR p
 sz:szR p≤2048
theorem ClOk.uses{vs:List KV}{n:Nat}{p:PR}(hV:VIn vs)(hn:n≤64)(h:ClOk vs n p):(useR vs p∧RU.nil.fit4 (rawR vs p)∧RU.nil.fit (rawR vs p))∧UseOk (usesM vs p):=by
 obtain ⟨high,ho⟩:=h.ok
 obtain ⟨a1,a2⟩:=use_ok vs n _ p high (Nat.le_refl _) ho h.wf
 have:=h.sz
 exact ⟨⟨a1,le_fit4 a2 (by omega),le_fit a2 (by omega)⟩,can_ok (use_in hV hn _ p high (Nat.le_refl _) ho)⟩
theorem okL_all{l:List KV}{n:Nat}{high:Bool}: ∀{ps:List PR} {first:Bool},okL l n high first ps=true→ ∀x,x∈ps→ ∃h,okR l n h x=true
 | [],_,_,x,h=>by cases h
 |y::r,first,ho,x,h=>by
  rw [okL,Bool.and_eq_true] at ho
  rcases List.mem_cons.1 h with rfl|h
  ·exact ⟨_,ho.1⟩
  ·exact okL_all ho.2 x h
theorem okGs_all{l:List KV}{n:Nat}{high:Bool}: ∀{gs:List GD},okGs l n high gs=true→ ∀g,g∈gs→okG l n high g=true
 | [],_,g,h=>by cases h
 |y::r,ho,x,h=>by
  rw [okGs,Bool.and_eq_true] at ho
  rcases List.mem_cons.1 h with rfl|h
  ·exact ho.1
  ·exact okGs_all ho.2 x h
theorem ClOk.l{vs:List KV}{n:Nat}{p:PR}(h:ClOk vs n p): ∀x,x∈p.l→ClOk vs n x:=fun x hx=>by
 obtain ⟨high,ho⟩:=h.ok
 rw [okR_eq,Bool.and_eq_true,Bool.and_eq_true,Bool.and_eq_true] at ho
 have h1:=szL_le hx
 have h2:=h.sz
 rw [szR_eq] at h2
 exact ⟨okL_all ho.1.2 x hx,(wfR_all h.wf).l x hx,by omega⟩
theorem ClOk.g{vs:List KV}{n:Nat}{p:PR}(h:ClOk vs n p): ∀g,g∈p.gs→ ∃x,g.body=[x]∧ClOk vs n x:=fun g hg=>by
 obtain ⟨high,ho⟩:=h.ok
 rw [okR_eq,Bool.and_eq_true,Bool.and_eq_true,Bool.and_eq_true] at ho
 obtain ⟨c,hc⟩:=(kind_node ho.1.1.1).g g hg
 have hW:=wfG_all ((wfR_all h.wf).g g hg)
 have hb:=(guard_ok hc hW).1.2.2.2
 match hx:g.body,hb with
 | [x],_=>
   have h1:=szGs_le hg
   rw [szG_eq,hx,szL] at h1
   have h2:=h.sz
   rw [szR_eq] at h2
   have h3:=okGs_all ho.2 g hg
   rw [okG_eq,hx] at h3
   exact ⟨x,rfl,okL_all h3 x (List.mem_singleton.2 rfl),hW.body x (by rw [hx];exact List.mem_singleton.2 rfl),by omega⟩
theorem ClOk.node{vs:List KV}{n:Nat}{p:PR}(h:ClOk vs n p):NodeK vs n p:=by
 obtain ⟨high,ho⟩:=h.ok
 rw [okR_eq,Bool.and_eq_true,Bool.and_eq_true,Bool.and_eq_true] at ho
 exact kind_node ho.1.1.1
theorem clG_0{vs:List KV}{path:List Int}{p:PR}(h:p.gs=[]∨p.l=[]):clG vs path p.l.length p.gs=clG vs path 0 p.gs:=by
 rcases h with h|h
 ·rw [h,clG_nil,clG_nil]
 ·rw [h];rfl
theorem sq_le(a b:Nat)(ha:1≤a):b+a*a+b*b≤(a+b)*(a+b):=by
 rw [Nat.add_mul,Nat.mul_add,Nat.mul_add]
 have:b≤a*b:=Nat.le_mul_of_pos_left _ ha
 have:a*b=b*a:=Nat.mul_comm _ _
 omega
abbrev LenN(vs:List KV)(n N:Nat):Prop:= ∀(p:PR) (path:List Int),htR p≤N→ClOk vs n p→(clR vs path p).length≤mostB*(szR p*szR p)
theorem len_l{vs:List KV}(hV:VIn vs){n N:Nat}(hn:n≤64)(ih:LenN vs n N)(path:List Int): ∀(l:List PR) (i:Nat) (a:Int),htL l≤N→(∀x,x∈l→ClOk vs n x)→(pairsM path a (l.map (usesM vs))).length+(clL vs path i l).length≤mostB*(szL l*szL l)
 | [],i,a,_,_=>by rw [clL_nil,List.map_nil,pairsM];exact Nat.zero_le _
 |x::r,i,a,h,hok=>by
  rw [htL] at h
  have h1:=ih x (path++[(i:Int)]) (by omega) (hok x (List.mem_cons_self ..))
  have h2:=len_l hV hn ih path r (i+1) (a+1) (by omega) fun y hy=>hok y (List.mem_cons_of_mem _ hy)
  have h3:=row_len ((hok x (List.mem_cons_self ..)).uses hV hn).2 path a (us:=r.map (usesM vs)) (b:=a+1) fun v hv=>by
   obtain ⟨y,hy,rfl⟩:=List.mem_map.1 hv
   exact ((hok y (List.mem_cons_of_mem _ hy)).uses hV hn).2
  have h4:r.length≤szL r:=by
   clear h1 h2 h3 h hok
   induction r with
   |nil=>exact Nat.zero_le _
   |cons y r ih=>rw [szL,List.length_cons];have:=szR_pos y;omega
  have h5:=sq_le (szR x) (szL r) (szR_pos x)
  have h6:=Nat.mul_le_mul_left mostB h5
  have h7:=Nat.mul_le_mul_left mostB h4
  rw [Nat.mul_add,Nat.mul_add] at h6
  rw [List.length_map] at h3
  rw [clL_cons,List.map_cons,pairsM,List.length_append,List.length_append,szL]
  omega
theorem len_g{vs:List KV}{n N:Nat}(ih:LenN vs n N)(path:List Int): ∀(l:List GD) (i:Nat),htGs l≤N→(∀g,g∈l→ ∃x,g.body=[x]∧ClOk vs n x)→(clG vs path i l).length≤mostB*(szGs l*szGs l)
 | [],i,_,_=>by rw [clG_nil];exact Nat.zero_le _
 |g::r,i,h,hok=>by
  rw [htGs] at h
  obtain ⟨x,hx,hxo⟩:=hok g (List.mem_cons_self ..)
  have hgx:htG g=htR x:=by rw [htG_eq,hx,htL,htL];omega
  have hsx:szG g=szR x:=by rw [szG_eq,hx,szL,szL];omega
  have h1:=ih x (path++[(i:Int)]) (by omega) hxo
  have h2:=len_g ih path r (i+1) (by omega) fun y hy=>hok y (List.mem_cons_of_mem _ hy)
  have h5:=sq_le (szR x) (szGs r) (szR_pos x)
  have h6:=Nat.mul_le_mul_left mostB h5
  rw [Nat.mul_add,Nat.mul_add] at h6
  rw [clG_cons vs path i g r hx,List.length_append,szGs,hsx]
  omega
theorem cl_len{vs:List KV}(hV:VIn vs){n:Nat}(hn:n≤64): ∀N,LenN vs n N
 |0,p,_,h,_=>by have:=htR_pos p;omega
 |N+1,p,path,h,hok=>by
  rw [htR_eq] at h
  have h1:=len_l hV hn (cl_len hV hn N) path p.l 0 0 (by omega) hok.l
  have h2:=len_g (cl_len hV hn N) path p.gs p.l.length (by omega) hok.g
  have h3:(if bothP p then pairsM path 0 (p.l.map (usesM vs)) else []).length≤(pairsM path 0 (p.l.map (usesM vs))).length:=by
   split
   ·exact Nat.le_refl _
   ·exact Nat.zero_le _
  have h4:szL p.l*szL p.l+szGs p.gs*szGs p.gs≤szR p*szR p:=by
   have h5:=sq_le (1+szL p.l) (szGs p.gs) (by omega)
   rw [szR_eq]
   have h6:szL p.l*szL p.l≤(1+szL p.l)*(1+szL p.l):=Nat.mul_le_mul (by omega) (by omega)
   omega
  have h5:=Nat.mul_le_mul_left mostB h4
  rw [Nat.mul_add] at h5
  rw [clR_eq,List.length_append,List.length_append]
  omega
theorem A.joinE{K:AC}{k:List It}{E:AEnv}{Λ:List AEnt}{ι:Type}{X:Code}(Ef:ι→AEnv)(Λf:ι→List AEnt)(tail: ∀i,A K k (Ef i) (Λf i))(main:(∀i,A K k (Ef i) (Λf i))→A K (.code X::k) E Λ):A K (.code X::k) E Λ:=main tail
theorem pairs_drop{path:List Int}{us:List RU}{i:Nat}{u:RU}(h:us[i]? =some u):pairsM path (i:Int) (us.drop i)=rowM2 path u i ((i+1:Nat):Int) (us.drop (i+1))++pairsM path ((i+1:Nat):Int) (us.drop (i+1)):=by
 have hi:i<us.length:=(List.getElem?_eq_some_iff.1 h).1
 have:us.drop i=u::us.drop (i+1):=by rw [List.drop_eq_getElem_cons hi];rw [(List.getElem?_eq_some_iff.1 h).2]
 rw [this,pairsM];rfl
theorem row_drop{path:List Int}{us:List RU}{u v:RU}{a:Int}{j:Nat}(h:us[j]? =some v):rowM2 path u a (j:Int) (us.drop j)=betM u v path a j++rowM2 path u a ((j+1:Nat):Int) (us.drop (j+1)):=by
 have hi:j<us.length:=(List.getElem?_eq_some_iff.1 h).1
 have:us.drop j=v::us.drop (j+1):=by rw [List.drop_eq_getElem_cons hi];rw [(List.getElem?_eq_some_iff.1 h).2]
 rw [this,rowM2];rfl
theorem clL_drop{vs:List KV}{path:List Int}{l:List PR}{i:Nat}{x:PR}(h:l[i]? =some x):clL vs path i (l.drop i)=clR vs (path++[(i:Int)]) x++clL vs path (i+1) (l.drop (i+1)):=by
 have hi:i<l.length:=(List.getElem?_eq_some_iff.1 h).1
 have:l.drop i=x::l.drop (i+1):=by rw [List.drop_eq_getElem_cons hi];rw [(List.getElem?_eq_some_iff.1 h).2]
 rw [this,clL_cons]
theorem clG_drop{vs:List KV}{path:List Int}{l:List GD}{i:Nat}{g:GD}{x:PR}(h:l[i]? =some g)(hx:g.body=[x]):clG vs path i (l.drop i)=clR vs (path++[(i:Int)]) x++clG vs path (i+1) (l.drop (i+1)):=by
 have hi:i<l.length:=(List.getElem?_eq_some_iff.1 h).1
 have:l.drop i=g::l.drop (i+1):=by rw [List.drop_eq_getElem_cons hi];rw [(List.getElem?_eq_some_iff.1 h).2]
 rw [this,clG_cons vs path i g _ hx]
theorem rcl_a(vs:List KV)(n:Nat)(hV:VIn vs)(hn:n≤64)(p:PR)(path:List Int)(ok:ClOk vs n p)(hpl:path.length≤1000)
 (hL: ∀x,x∈p.l→ ∀i:Int,Pure Tryz.prog gs0 48 [vsA vs,cellsR x,intsA (path++[i])] (csA (clR vs (path++[i]) x)))
 (hG: ∀g,g∈p.gs→ ∀x,g.body=[x]→ ∀i:Int,Pure Tryz.prog gs0 48 [vsA vs,cellsR x,intsA (path++[i])] (csA (clR vs (path++[i]) x))):
 Pure Tryz.prog gs0 48 [vsA vs,cellsR p,intsA path] (csA (clR vs path p)):=by
 have hlen:=cl_len hV hn _ p path (Nat.le_refl _) ok
 have hsz:mostB*(szR p*szR p)≤33408*(2048*2048):=Nat.mul_le_mul_left _ (Nat.mul_le_mul ok.sz ok.sz)
 have hll:=ok.node.ll
 have hgl:=ok.node.gl
 have nl:=encRl_len p.l
 have ng:=encGl_len p.gs
 refine Exists.elim (show∃T,T=clR vs path p from ⟨_,rfl⟩) fun T hT=>?_
 rw [←hT] at hlen⊢
 rw [clR_eq,clG_0 ok.node.one] at hT
 have hTl:T.length≤150000000000:=by omega
 clear hlen hsz
 refine p_ tt_ok Tryz.func48 103 fun w0 h0 F hgs=>?_
 refine y_ ?_
 refine A.b rfl fun b4=>?_
 refine g_ ?_
 refine A.emptyRow 7 7 rfl fun z0=>?_
 refine Exists.elim (show∃C1,C1=if bothP p then pairsM path 0 (p.l.map (usesM vs)) else [] from ⟨_,rfl⟩) fun C1 hC1=>?_
 rw [←hC1] at hT
 have hC1l:C1.length≤150000000000:=by rw [hT,List.length_append] at hTl;omega
 refine A.joinE (ι:=Value) (fun z=>⟨[(0,vsA vs),(2,intsA path),(4,PT b4),(7, .ms z 7 C1.length)],[]⟩) (fun z=>[.row 7 z (C1.map encC), .box b4 (cellsR p)]) (fun z1=>?_) (fun tail=>?_)
 case refine_2=>
  clear hT hTl
  by_cases hb:bothP p
  case neg=>
   rw [if_neg hb] at hC1
   subst hC1
   refine A.valE 20 rfl (x':=AB false) (ab_eq (by simpa using hb)) ?_
   repeat first|exact A.sub su_ (tail z0)|refine A.s rfl ?_
  rw [if_pos hb] at hC1
  refine A.valE 20 rfl (x':=AB true) (ab_eq (by simpa using hb)) ?_
  refine Exists.elim (show∃us,us=p.l.map (usesM vs) from ⟨_,rfl⟩) fun us hus=>?_
  rw [←hus] at hC1
  have hul:us.length=p.l.length:=by rw [hus,List.length_map]
  refine y_ ?_
  refine A.keep [0,2,4,7,8] rfl ?_
  refine A.loopP (ι:=Nat×List CL×Value) (fun j=>(⟨[(0,vsA vs),(2,intsA path),(4,PT b4),(7, .ms j.2.2 7 j.2.1.length),(8,AI (j.1:Nat))],[]⟩,[.row 7 j.2.2 (j.2.1.map encC), .box b4 (cellsR p)])) (fun j=>j.1≤us.length∧j.2.1++pairsM path (j.1:Nat) (us.drop j.1)=C1) (fun j=>us.length-j.1) (0,[],z0) ⟨Nat.zero_le _,hC1.symm⟩ rfl fun j hj ih=>?_
  obtain ⟨i,q,z⟩:=j
  obtain ⟨hj1,hj2⟩:=hj
  simp only at hj1 hj2 ih⊢
  refine y_ ?_
  refine k_ (fun hc=>?_) fun hc=>?_
  rotate_left
  ·have hil:i=us.length:=by
    have: ¬i<(encRl p.l).length:=by simpa using hc
    omega
   have hq:q=C1:=by rw [←hj2,hil,List.drop_length,pairsM,List.append_nil]
   subst hq
   repeat first|exact A.sub su_ (tail z)|refine A.s rfl ?_
  have hci:i<p.l.length:=by
   have:i<(encRl p.l).length:=by simpa using hc
   omega
  clear hc tail
  refine Exists.elim (at_exN (l:=p.l) (i:=i) hci) fun x hx=>?_
  have hux:us[i]? =some (usesM vs x):=by rw [hus,List.getElem?_map,hx];rfl
  have okx:=ClOk.uses hV hn (ok.l x (List.mem_of_getElem? hx))
  have hcx:=ruses_p vs x okx.1.1 okx.1.2.1
  rw [pairs_drop hux] at hj2
  refine y_ ?_
  refine A.valE 9 rfl (x':=AI ((i+1:Nat):Int)) (inc_eq i (by omega)) ?_
  refine A.keep [0,2,4,7,8,9] rfl ?_
  refine A.loopP (ι:=Nat×List CL×Value) (fun j=>(⟨[(0,vsA vs),(2,intsA path),(4,PT b4),(7, .ms j.2.2 7 j.2.1.length),(8,AI (i:Nat)),(9,AI (j.1:Nat))],[]⟩,[.row 7 j.2.2 (j.2.1.map encC), .box b4 (cellsR p)])) (fun j=>j.1≤us.length∧j.2.1++(rowM2 path (usesM vs x) i (j.1:Nat) (us.drop j.1)++pairsM path ((i+1:Nat):Int) (us.drop (i+1)))=C1) (fun j=>us.length-j.1) (i+1,q,z) ⟨by show i+1≤_;omega,hj2⟩ rfl fun j hj ih2=>?_
  obtain ⟨j,q2,z2⟩:=j
  obtain ⟨hj3,hj4⟩:=hj
  simp only at hj3 hj4 ih2⊢
  refine y_ ?_
  refine k_ (fun hc=>?_) fun hc=>?_
  rotate_left
  ·have hjl:j=us.length:=by
    have: ¬j<(encRl p.l).length:=by simpa using hc
    omega
   rw [hjl,List.drop_length,rowM2,List.nil_append] at hj4
   refine y_ ?_
   refine A.valE 8 rfl (x':=AI ((i+1:Nat):Int)) (inc_eq i (by omega)) ?_
   refine u_ (ih (i+1,q2,z2) ⟨by show i+1≤_;omega,hj4⟩ (by show us.length-(i+1)<us.length-i;omega))
  have hcj:j<p.l.length:=by
   have:j<(encRl p.l).length:=by simpa using hc
   omega
  clear hc ih
  refine Exists.elim (at_exN (l:=p.l) (i:=j) hcj) fun y hy=>?_
  have huy:us[j]? =some (usesM vs y):=by rw [hus,List.getElem?_map,hy];rfl
  have oky:=ClOk.uses hV hn (ok.l y (List.mem_of_getElem? hy))
  have hcy:=ruses_p vs y oky.1.1 oky.1.2.1
  have hbt:=rBetween_p (usesM vs x) (usesM vs y) okx.2 oky.2 path i j 0
  rw [row_drop huy,List.append_assoc,←List.append_assoc q2] at hj4
  refine Exists.elim (show∃B,B=betM (usesM vs x) (usesM vs y) path i j from ⟨_,rfl⟩) fun B hB=>?_
  rw [←hB] at hbt hj4
  have hql:q2.length+B.length≤150000000000:=by rw [←hj4,List.length_append,List.length_append] at hC1l;omega
  clear hB
  refine y_ ?_
  refine A.b rfl fun b10=>?_
  refine y_ ?_
  refine d_ 19 [0,1,2,3,4,5,6,7,9,10,11,12,13,14,15,17,8,16,18] [(8,uA (usesM vs x)),(16,uA (usesM vs y)),(18,csA B)] ?_
  refine iw_ rfl (encRl_at hx) (encR_eq x) ?_
  refine iw_ rfl (encRl_at hy) (encR_eq y) ?_
  refine cw_ hcx ?_
  refine cw_ hcy ?_
  refine WA.c rfl rfl hbt (.sub s_) ?_
  refine WA.nil (l:=[]) rfl ?_
  refine A.appendRowE rfl rfl rfl rfl rfl rfl rfl rfl rfl rfl rfl rfl rfl (allC _) (by show ((List.map encC _).length+(List.map encC _).length)*7≤_;rw [List.length_map,List.length_map];omega) (by show ((List.map encC _).length+(List.map encC _).length)*7*72≤_;rw [List.length_map,List.length_map];omega) fun z3=>?_
  refine y_ ?_
  refine A.valE 7 rfl (x':= .ms z3 7 (q2++B).length) (by rw [List.length_append,List.length_map,List.length_map]) ?_
  refine l_ (Λ':=[.row 7 z3 _, .box b4 _]) ?_
  refine A.entsEq (Λ':=[.row 7 z3 ((q2++B).map encC), .box b4 (cellsR p)]) (by rw [List.map_append]) ?_
  refine A.valE 9 rfl (x':=AI ((j+1:Nat):Int)) (inc_eq j (by omega)) ?_
  refine u_ (ih2 (j+1,q2++B,z3) ⟨by show j+1≤_;omega,hj4⟩ (by show us.length-(j+1)<us.length-j;omega))
 clear hC1
 refine Exists.elim (show∃G,G=clG vs path 0 p.gs from ⟨_,rfl⟩) fun G hGG=>?_
 rw [←hGG] at hT
 refine y_ ?_
 refine A.keep [0,2,4,7,11] rfl ?_
 refine A.loopP (ι:=Nat×List CL×Value) (fun j=>(⟨[(0,vsA vs),(2,intsA path),(4,PT b4),(7, .ms j.2.2 7 j.2.1.length),(11,AI (j.1:Nat))],[]⟩,[.row 7 j.2.2 (j.2.1.map encC), .box b4 (cellsR p)])) (fun j=>j.1≤p.l.length∧j.2.1++(clL vs path j.1 (p.l.drop j.1)++G)=T) (fun j=>p.l.length-j.1) (0,C1,z1) ⟨Nat.zero_le _,hT.symm⟩ rfl fun j hj ih=>?_
 obtain ⟨i,q,z⟩:=j
 obtain ⟨hj1,hj2⟩:=hj
 simp only at hj1 hj2 ih⊢
 refine y_ ?_
 refine k_ (fun hc=>?_) fun hc=>?_
 ·have hci:i<p.l.length:=by
   have:i<(encRl p.l).length:=by simpa using hc
   omega
  clear hc
  refine Exists.elim (at_exN (l:=p.l) (i:=i) hci) fun x hx=>?_
  have hdn:=down_p path i (by omega)
  have hcl:=hL x (List.mem_of_getElem? hx) i
  rw [clL_drop hx,List.append_assoc,←List.append_assoc q] at hj2
  refine Exists.elim (show∃B,B=clR vs (path++[(i:Int)]) x from ⟨_,rfl⟩) fun B hB=>?_
  rw [←hB] at hcl hj2
  have hql:q.length+B.length≤150000000000:=by rw [←hj2,List.length_append,List.length_append] at hTl;omega
  clear hB
  refine y_ ?_
  refine d_ 11 [0,1,2,3,4,5,6,7,8,9,10] [(9,intsA (path++[(i:Int)])),(10,csA B)] ?_
  refine iw_ rfl (encRl_at hx) (encR_eq x) ?_
  refine cw_ hdn ?_
  refine WA.c rfl rfl hcl (.sub .refl) ?_
  refine WA.nil (l:=[]) rfl ?_
  refine A.appendRowE rfl rfl rfl rfl rfl rfl rfl rfl rfl rfl rfl rfl rfl (allC _) (by show ((List.map encC _).length+(List.map encC _).length)*7≤_;rw [List.length_map,List.length_map];omega) (by show ((List.map encC _).length+(List.map encC _).length)*7*72≤_;rw [List.length_map,List.length_map];omega) fun z3=>?_
  refine y_ ?_
  refine A.valE 7 rfl (x':= .ms z3 7 (q++B).length) (by rw [List.length_append,List.length_map,List.length_map]) ?_
  refine A.entsEq (Λ':=[.row 7 z3 ((q++B).map encC), .box b4 (cellsR p)]) (by rw [List.map_append]) ?_
  refine A.valE 11 rfl (x':=AI ((i+1:Nat):Int)) (inc_eq i (by omega)) ?_
  refine u_ (ih (i+1,q++B,z3) ⟨by show i+1≤_;omega,hj2⟩ (by show p.l.length-(i+1)<p.l.length-i;omega))
 have hil:i=p.l.length:=by
  have: ¬i<(encRl p.l).length:=by simpa using hc
  omega
 rw [hil,List.drop_length,clL_nil,List.nil_append,hGG] at hj2
 clear hc ih hT hil hGG
 refine y_ ?_
 refine A.keep [0,2,4,7,12] rfl ?_
 refine A.loopP (ι:=Nat×List CL×Value) (fun j=>(⟨[(0,vsA vs),(2,intsA path),(4,PT b4),(7, .ms j.2.2 7 j.2.1.length),(12,AI (j.1:Nat))],[]⟩,[.row 7 j.2.2 (j.2.1.map encC), .box b4 (cellsR p)])) (fun j=>j.1≤p.gs.length∧j.2.1++clG vs path j.1 (p.gs.drop j.1)=T) (fun j=>p.gs.length-j.1) (0,q,z) ⟨Nat.zero_le _,hj2⟩ rfl fun j hj ih=>?_
 obtain ⟨j,q2,z2⟩:=j
 obtain ⟨hj3,hj4⟩:=hj
 simp only at hj3 hj4 ih⊢
 refine y_ ?_
 refine k_ (fun hc=>?_) fun hc=>?_
 ·have hci:j<p.gs.length:=by
   have:j<(encGl p.gs).length:=by simpa using hc
   omega
  clear hc
  refine Exists.elim (at_exN (l:=p.gs) (i:=j) hci) fun g hx=>?_
  refine Exists.elim (ok.g g (List.mem_of_getElem? hx)) fun y hyy=>?_
  have hyb:=hyy.1
  have hy0:g.body[(0:Int).toNat]? =some y:=by rw [hyb];rfl
  have hdn:=down_p path j (by omega)
  have hcl:=hG g (List.mem_of_getElem? hx) y hyb j
  rw [clG_drop hx hyb,←List.append_assoc q2] at hj4
  refine Exists.elim (show∃B,B=clR vs (path++[(j:Int)]) y from ⟨_,rfl⟩) fun B hB=>?_
  rw [←hB] at hcl hj4
  have hql:q2.length+B.length≤150000000000:=by rw [←hj4,List.length_append,List.length_append] at hTl;omega
  clear hB
  refine y_ ?_
  refine d_ 14 [0,1,2,3,4,5,6,7,8,9,10,11,12,13] [(12,intsA (path++[(j:Int)])),(13,csA B)] ?_
  refine iw_ rfl (encGl_at hx) (encG_eq g) ?_
  refine iw_ rfl (encRl_at hy0) (encR_eq y) ?_
  refine cw_ hdn ?_
  refine WA.c rfl rfl hcl (.sub .refl) ?_
  refine WA.nil (l:=[]) rfl ?_
  refine A.appendRowE rfl rfl rfl rfl rfl rfl rfl rfl rfl rfl rfl rfl rfl (allC _) (by show ((List.map encC _).length+(List.map encC _).length)*7≤_;rw [List.length_map,List.length_map];omega) (by show ((List.map encC _).length+(List.map encC _).length)*7*72≤_;rw [List.length_map,List.length_map];omega) fun z3=>?_
  refine y_ ?_
  refine A.valE 7 rfl (x':= .ms z3 7 (q2++B).length) (by rw [List.length_append,List.length_map,List.length_map]) ?_
  refine A.entsEq (Λ':=[.row 7 z3 ((q2++B).map encC), .box b4 (cellsR p)]) (by rw [List.map_append]) ?_
  refine A.valE 12 rfl (x':=AI ((j+1:Nat):Int)) (inc_eq j (by omega)) ?_
  refine u_ (ih (j+1,q2++B,z3) ⟨by show j+1≤_;omega,hj4⟩ (by show p.gs.length-(j+1)<p.gs.length-j;omega))
 have hil:j=p.gs.length:=by
  have: ¬j<(encGl p.gs).length:=by simpa using hc
  omega
 have hq:q2=T:=by rw [←hj4,hil,List.drop_length,clG_nil,List.append_nil]
 clear hc ih
 refine y_ ?_
 refine A.freezeRow 6 rfl ?_
 refine R_ ?_
 rw [hq]
 exact .refl
theorem htL_le21: ∀{ps:List PR} {x:PR},x∈ps→htR x≤htL ps
 | [],_,h=>by cases h
 |y::r,x,h=>by
  rw [htL]
  rcases List.mem_cons.1 h with rfl|h
  ·omega
  ·have:=htL_le21 h;omega
theorem htGs_le21: ∀{gs:List GD} {x:GD},x∈gs→htG x≤htGs gs
 | [],_,h=>by cases h
 |y::r,x,h=>by
  rw [htGs]
  rcases List.mem_cons.1 h with rfl|h
  ·omega
  ·have:=htGs_le21 h;omega
theorem rcl_n(vs:List KV)(n:Nat)(hV:VIn vs)(hn:n≤64): ∀(m:Nat) (p:PR) (path:List Int),htR p≤m→ClOk vs n p→path.length+htR p≤1000→Pure Tryz.prog gs0 48 [vsA vs,cellsR p,intsA path] (csA (clR vs path p))
 |0,p,_,h,_,_=>by have:=htR_pos p;omega
 |m+1,p,path,h,ok,hp=>by
  rw [htR_eq] at h hp
  refine rcl_a vs n hV hn p path ok (by omega) (fun x hx i=>?_) (fun g hg x hx i=>?_)
  ·have h1:=htL_le21 hx
   exact rcl_n vs n hV hn m x _ (by omega) (ok.l x hx) (by rw [List.length_append];simp only [List.length_cons,List.length_nil];omega)
  ·have h1:=htGs_le21 hg
   rw [htG_eq,hx,htL,htL] at h1
   obtain ⟨y,hy,hyo⟩:=ok.g g hg
   rw [hx] at hy
   injection hy with hy _
   subst hy
   exact rcl_n vs n hV hn m x _ (by omega) hyo (by rw [List.length_append];simp only [List.length_cons,List.length_nil];omega)
theorem row_oneV(L:List AV)(hL: ∀x,x∈L→(∃cs,x= .ag cs∧oneA cs=true)∨ ∃n,x=AI n)(h:GH)(zs:List Value)(q:RpC h L zs): ∀z,z∈zs→allOne (cellsL z)=true:=by
 induction L generalizing zs with
 |nil=>rw [RpC_nil] at q;subst q;intro z hz;cases hz
 |cons x r ih=>
  rw [RpC_cons] at q
  obtain ⟨v,vs,rfl,q1,q2⟩:=q
  intro z hz
  rcases List.mem_cons.1 hz with rfl|hz
  ·rcases hL x (.head _) with ⟨cs,rfl,ho⟩|⟨n,rfl⟩
   ·rw [Rp_ag] at q1
    obtain ⟨ds,rfl,q1⟩:=q1
    exact q1.one ho
   ·rw [Rp_v] at q1
    rw [q1.1];rfl
  ·exact ih (fun y hy=>hL y (.tail _ hy)) vs q2 z hz
theorem oneR21(l:List PR): ∀x,x∈encRl l→(∃cs,x= .ag cs∧oneA cs=true)∨ ∃n,x=AI n:=by
 intro x hx
 obtain ⟨i,hi,he⟩:=List.getElem_of_mem hx
 rw [encRl_len] at hi
 have h1:=encRl_at (List.getElem?_eq_getElem hi)
 rw [List.getElem?_eq_getElem (by rw [encRl_len];exact hi),he,encR_eq] at h1
 injection h1 with h1
 exact .inl ⟨_,h1,rfl⟩
theorem oneI21(l:List Int): ∀x,x∈l.map AI→(∃cs,x= .ag cs∧oneA cs=true)∨ ∃n,x=AI n:=by
 intro x hx
 obtain ⟨n,_,rfl⟩:=List.mem_map.1 hx
 exact .inr ⟨n,rfl⟩
theorem cloneR21_p(l:List PR)(hb:l.length≤16777216):FunE Tryz.prog gs0 99 [rsA l] [] (fun z:Value=> .ms z 8 l.length) (fun z=>[.row 8 z (encRl l)]) (fun _=>True):=by
 unfold FunE
 have hlen:=encRl_len l
 have hone:=oneR21 l
 show Fun _ _ _ [.sl 8 (encRl l) none] _ _
 generalize encRl l=L at hlen hone
 rw [←hlen] at hb⊢
 cases L with
 |nil=>
  refine Fun.of (S:=tt) (fn:=Tryz.f99) (n:=8) tt_ok Tryz.func99 rfl rfl rfl rfl fun w0 h0 F hgs=>?_
  refine y_ ?_
  refine A.eqNil rfl rfl rfl rfl rfl rfl rfl rfl fun b hb=>?_
  cases b
  ·refine y_ ?_
   refine A.lit0 rfl rfl rfl rfl rfl rfl rfl fun bl=>?_;refine y_ ?_;refine A.appendNewW rfl rfl rfl rfl rfl rfl rfl rfl rfl rfl rfl rfl rfl (by simp) (by simp) (fun x hx=>by injection hx with hx;subst hx;rfl) (row_oneV _ hone) fun z=>?_
   refine y_ ?_
   refine A.ret1 (Λ':=[.row 8 z _]) rfl rfl rfl sl_ ⟨z, .refl,rfl,trivial⟩
  ·refine y_ ?_
   refine A.emptyRow 2 8 rfl fun z=>?_
   refine A.ret1 (Λ':=[.row 8 z []]) rfl rfl rfl sl_ ⟨z, .refl,rfl,trivial⟩
 |cons x r=>
  refine Fun.of (S:=tt) (fn:=Tryz.f99) (n:=8) tt_ok Tryz.func99 rfl rfl rfl rfl fun w0 h0 F hgs=>?_
  refine y_ ?_
  refine A.eqNil rfl rfl rfl rfl rfl rfl rfl rfl fun b hb=>?_
  cases b
  case true=>cases hb rfl
  refine y_ ?_
  refine A.lit0 rfl rfl rfl rfl rfl rfl rfl fun bl=>?_;refine y_ ?_;refine A.appendNewW rfl rfl rfl rfl rfl rfl rfl rfl rfl rfl rfl rfl rfl (by show (x::r).length*8≤_;omega) (by show (x::r).length*8*128≤_;omega) (fun x hx=>by injection hx with hx;subst hx;rfl) (row_oneV _ hone) fun z=>?_
  refine y_ ?_
  refine A.ret1 (Λ':=[.row 8 z _]) rfl rfl rfl sl_ ⟨z, .refl,rfl,trivial⟩
theorem cloneI21_p(l:List Int)(hb:l.length≤16777216):FunE Tryz.prog gs0 76 [intsA l] [] (fun z:Value=> .ms z 1 l.length) (fun z=>[.row 1 z (l.map AI)]) (fun _=>True):=by
 unfold FunE
 have hlen:(l.map AI).length=l.length:=List.length_map ..
 have hone:=oneI21 l
 show Fun _ _ _ [.sl 1 (l.map AI) none] _ _
 generalize l.map AI=L at hlen hone
 rw [←hlen] at hb⊢
 cases L with
 |nil=>
  refine Fun.of (S:=tt) (fn:=Tryz.f76) (n:=8) tt_ok Tryz.func76 rfl rfl rfl rfl fun w0 h0 F hgs=>?_
  refine y_ ?_
  refine A.eqNil rfl rfl rfl rfl rfl rfl rfl rfl fun b hb=>?_
  cases b
  ·refine y_ ?_
   refine A.lit0 rfl rfl rfl rfl rfl rfl rfl fun bl=>?_;refine y_ ?_;refine A.appendNewW rfl rfl rfl rfl rfl rfl rfl rfl rfl rfl rfl rfl rfl (by simp) (by simp) (fun x hx=>by injection hx with hx;subst hx;rfl) (row_oneV _ hone) fun z=>?_
   refine y_ ?_
   refine A.ret1 (Λ':=[.row 1 z _]) rfl rfl rfl sl_ ⟨z, .refl,rfl,trivial⟩
  ·refine y_ ?_
   refine A.emptyRow 2 1 rfl fun z=>?_
   refine A.ret1 (Λ':=[.row 1 z []]) rfl rfl rfl sl_ ⟨z, .refl,rfl,trivial⟩
 |cons x r=>
  refine Fun.of (S:=tt) (fn:=Tryz.f76) (n:=8) tt_ok Tryz.func76 rfl rfl rfl rfl fun w0 h0 F hgs=>?_
  refine y_ ?_
  refine A.eqNil rfl rfl rfl rfl rfl rfl rfl rfl fun b hb=>?_
  cases b
  case true=>cases hb rfl
  refine y_ ?_
  refine A.lit0 rfl rfl rfl rfl rfl rfl rfl fun bl=>?_;refine y_ ?_;refine A.appendNewW rfl rfl rfl rfl rfl rfl rfl rfl rfl rfl rfl rfl rfl (by show (x::r).length*1≤_;omega) (by show (x::r).length*1*8≤_;omega) (fun x hx=>by injection hx with hx;subst hx;rfl) (row_oneV _ hone) fun z=>?_
  refine y_ ?_
  refine A.ret1 (Λ':=[.row 1 z _]) rfl rfl rfl sl_ ⟨z, .refl,rfl,trivial⟩
abbrev kidsM(p:PR):List PR:=p.l++bodsM p.gs
theorem parsL_app(path:List Int): ∀(a b:List PR) (i:Nat),parsL path i (a++b)=parsL path i a++parsL path (i+a.length) b
 | [],b,i=>by rw [List.nil_append,parsL,List.nil_append];rfl
 |x::r,b,i=>by
  rw [List.cons_append,parsL,parsL,parsL_app path r b (i+1),List.append_assoc,List.length_cons,show i+1+r.length=i+(r.length+1) by omega]
theorem parsG_bods(path:List Int): ∀(l:List GD) (i:Nat),(∀g,g∈l→ ∃x,g.body=[x])→parsG path i l=parsL path i (bodsM l)
 | [],i,_=>by rw [parsG,bodsM,parsL]
 |g::r,i,h=>by
  obtain ⟨x,hx⟩:=h g (List.mem_cons_self ..)
  have ih:=parsG_bods path r (i+1) fun y hy=>h y (List.mem_cons_of_mem _ hy)
  obtain ⟨gk,gc,gh,gi,gt,gm,gb⟩:=g
  have hx:gb=[x]:=hx
  subst hx
  rw [parsG,parsB,ih]
  show _=parsL path i ([x]++bodsM r)
  rw [List.singleton_append,parsL]
theorem parsM_eq(path:List Int)(p:PR)(h: ∀g,g∈p.gs→ ∃x,g.body=[x]):parsM path p=(if bothP p then [(path,p)] else [])++parsL path 0 (kidsM p):=by
 rw [parsL_app,Nat.zero_add,←parsG_bods path p.gs _ h]
 obtain ⟨k,c,v,it,to,e,gs,l⟩:=p
 rw [parsM]
theorem pars_p(p:PR)(path:List Int):Pure Tryz.prog gs0 74 [cellsR p,intsA path] (.fn 98 [] [.pe 8 (cellsR p), .pe 1 (intsA path)]):=by
 refine p_ tt_ok Tryz.func74 6 fun w0 h0 F hgs=>?_
 refine y_ ?_
 refine A.b rfl fun b1=>?_
 refine A.b rfl fun b2=>?_
 refine y_ ?_
 refine A.freezeS 4 b1 (y':= .fn 98 [] [.pe 8 (cellsR p),PT b2]) rfl rfl rfl (.fn (.cons .ptr (.sub .refl))) ?_
 refine A.freezeS 4 b2 (y':= .fn 98 [] [.pe 8 (cellsR p), .pe 1 (intsA path)]) rfl rfl rfl (.fn (.cons (.sub .refl) (.cons .ptr (.sub .refl)))) ?_
 exact r_
abbrev ppA(x:List Int×PR):List AV:=[intsA x.1,cellsR x.2]
abbrev IterP(p:PR)(path:List Int):Prop:=Iter Tryz.prog tt tt_ok gs0 98 [.pe 8 (cellsR p), .pe 1 (intsA path)] ((parsM path p).map ppA)
abbrev yvA(lp:Nat):AV:= .v (.func (.yield lp) #[] #[])
theorem bods_take{l:List GD}{i:Nat}{g:GD}{x:PR}(h:l[i]? =some g)(hx:g.body=[x]):bodsM (l.take (i+1))=bodsM (l.take i)++[x]:=by
 have happ: ∀a b:List GD,bodsM (a++b)=bodsM a++bodsM b:=fun a b=>by
  induction a with
  |nil=>rfl
  |cons y r ih=>rw [List.cons_append,bodsM,bodsM,ih,List.append_assoc]
 rw [take_at h,happ]
 congr 1
 rw [bodsM,bodsM,hx];rfl
theorem bods_len: ∀(l:List GD),(bodsM l).length≤l.length
 | []=>Nat.le_refl _
 |g::r=>by
  have:=bods_len r
  rw [bodsM,List.length_append,List.length_cons]
  cases g.body with
  |nil=>simp only [List.length_nil];omega
  |cons x s=>simp only [List.length_cons,List.length_nil];omega
theorem encRl_snoc(a:List PR)(x:PR):encRl (a++[x])=encRl a++[cellsR x]:=by rw [encRl_map,encRl_map,List.map_append,←encR_eq];rfl
theorem parsL_take(path:List Int){l:List PR}{i:Nat}{x:PR}(hx:l[i]? =some x):parsL path 0 (l.take (i+1))=parsL path 0 (l.take i)++parsM (path++[(i:Int)]) x:=by
 have hi:i<l.length:=(List.getElem?_eq_some_iff.1 hx).1
 rw [take_at hx,parsL_app,List.length_take,Nat.min_eq_left (by omega),parsL,parsL,List.append_nil,Nat.zero_add]
theorem parsL_get(path:List Int){l:List PR}{i:Nat}{x:PR}(hx:l[i]? =some x):parsL path 0 l=parsL path 0 (l.take i)++(parsM (path++[(i:Int)]) x++parsL path (i+1) (l.drop (i+1))):=by
 have hi:i<l.length:=(List.getElem?_eq_some_iff.1 hx).1
 have hd:l.drop i=x::l.drop (i+1):=by rw [List.drop_eq_getElem_cons hi];rw [(List.getElem?_eq_some_iff.1 hx).2]
 have h:=parsL_app path (l.take i) (l.drop i) 0
 rw [List.take_append_drop,hd,parsL,List.length_take,Nat.zero_add,Nat.min_eq_left (by omega)] at h
 exact h
theorem iterP_a(p:PR)(path:List Int)(hg: ∀g,g∈p.gs→ ∃x,g.body=[x])(hll:p.l.length≤2048)(hgl:p.gs.length≤16)(hpl:path.length≤1000)(hrec: ∀x,x∈kidsM p→ ∀i:Nat,IterP x (path++[(i:Int)])):IterP p path:=by
 have n1:((encRl p.l).length:Int)=p.l.length:=by rw [encRl_len]
 have n2:((encGl p.gs).length:Int)=p.gs.length:=by rw [encGl_len]
 have hcl:=cloneR21_p p.l (by omega)
 have hkl:(kidsM p).length≤3000:=by have:=bods_len p.gs;rw [List.length_append];omega
 unfold IterP
 rw [parsM_eq path p hg]
 by_cases hb:bothP p
 ·rw [if_pos hb]
  refine ⟨Tryz.f98,_,Tryz.func98,rfl,rfl,rfl,rfl,fun w0 h0 c hfn h1 hg1 F Q Λ0 hl hi hlen hround hfin hstop=>?_⟩
  refine y_ ?_
  refine A.b rfl fun b3=>?_
  repeat ((fail_if_success (refine A.valE 19 rfl (x':=AB true) (ab_eq (by simpa using hb)) ?_));first|refine A.s rfl ?_|refine A.r rfl rfl ?_|refine A.p rfl ?_|refine A.step rfl ?_|refine A.v rfl rfl ?_)
  refine e_ 19 rfl (x':=AB true) (ab_eq (by simpa using hb)) ?_
  refine A.yieldC c (xs:=ppA (path,p)) rfl rfl rfl rfl rfl rfl (hlen _ (.head _)) .refl hl (List.perm_append_singleton _ _).symm hi (hround 0 _ rfl) (fun Λ'' hi'=>?_) (fun st pd Λ'' hst hs=>?_)
  ·refine Exists.elim (show∃Λb,Λb=Λ'' from ⟨_,rfl⟩) fun Λb hΛb=>?_
   rw [←hΛb] at hi'
   rw [←hΛb]
   refine A.perm List.perm_append_comm ?_
   refine y_ ?_
   refine A.e rfl hcl .refl (List.Perm.refl _) fun zk _=>?_
   refine y_ ?_
   refine A.valE 31 rfl (x':=AI (p.gs.length:Nat)) (ai_eq n2) ?_
   refine A.keep [1,2,3,4,30,31,32] rfl ?_
   refine A.loopP (ι:=Nat×Value) (fun j=>(⟨[(1, .pe 8 (cellsR p)),(2, .pe 1 (intsA path)),(3,PT b3),(4, .ms j.2 8 (p.l++bodsM (p.gs.take j.1)).length),(30,gsA p.gs),(31,AI (p.gs.length:Nat)),(32,AI (j.1:Nat))],[]⟩, .row 8 j.2 (encRl (p.l++bodsM (p.gs.take j.1))):: .box b3 (yvA c.lp):: .loop c.lp c.r0 .ready none::Λb)) (fun j=>j.1≤p.gs.length) (fun j=>p.gs.length-j.1) (0,zk) (Nat.zero_le _) (by simp [bodsM]) fun j hj ih=>?_
   obtain ⟨i,z⟩:=j
   simp only at hj ih⊢
   refine y_ ?_
   refine k_ (fun hc=>?_) fun hc=>?_
   ·have hci:i<p.gs.length:=by simpa using hc
    clear hc
    refine Exists.elim (at_exN (l:=p.gs) (i:=i) hci) fun g hx=>?_
    refine Exists.elim (hg g (List.mem_of_getElem? hx)) fun y hyb=>?_
    have hy0:g.body[(0:Int).toNat]? =some y:=by rw [hyb];rfl
    have hbt:=bods_take hx hyb
    have hbl:=bods_len (p.gs.take i)
    rw [List.length_take] at hbl
    have e1:p.l++bodsM (p.gs.take (i+1))=(p.l++bodsM (p.gs.take i))++[y]:=by rw [hbt,List.append_assoc]
    have e2:(p.l++bodsM (p.gs.take i)).length≤3000:=by rw [List.length_append];omega
    refine y_ ?_
    refine i_ rfl (encGl_at hx) (encG_eq g) ?_
    refine A.b rfl fun bg=>?_
    refine y_ ?_
    refine j_ rfl (encRl_at hy0) (encR_eq y) ?_
    refine t_ fun bl=>?_
    refine A.appendRowE rfl rfl rfl rfl rfl rfl rfl rfl rfl rfl rfl rfl rfl rfl (by show ((encRl (p.l++bodsM (p.gs.take i))).length+1)*8≤_;rw [encRl_len];omega) (by show ((encRl (p.l++bodsM (p.gs.take i))).length+1)*8*128≤_;rw [encRl_len];omega) fun z2=>?_
    refine y_ ?_
    refine l_ (Λ':= .row 8 z2 _:: .box b3 (yvA c.lp):: .loop c.lp c.r0 .ready none::Λb) ?_
    refine A.valE 4 rfl (x':= .ms z2 8 (p.l++bodsM (p.gs.take (i+1))).length) (by rw [e1,List.length_append (bs:=[y]),encRl_len];rfl) ?_
    refine A.entsEq (Λ':= .row 8 z2 (encRl (p.l++bodsM (p.gs.take (i+1)))):: .box b3 (yvA c.lp):: .loop c.lp c.r0 .ready none::Λb) (by rw [e1,encRl_snoc];rfl) ?_
    refine A.valE 32 rfl (x':=AI ((i+1:Nat):Int)) (inc_eq i (by omega)) ?_
    refine u_ (ih (i+1,z2) (by show i+1≤_;omega) (by show p.gs.length-(i+1)<p.gs.length-i;omega))
   have hil:i=p.gs.length:=by
    have: ¬i<p.gs.length:=by simpa using hc
    omega
   clear hc ih
   refine A.valE 4 rfl (x':= .ms z 8 (kidsM p).length) (by rw [hil,List.take_length]) ?_
   refine A.entsEq (Λ':= .row 8 z (encRl (kidsM p)):: .box b3 (yvA c.lp):: .loop c.lp c.r0 .ready none::Λb) (by rw [hil,List.take_length]) ?_
   clear hil
   refine A.freezeRow 4 rfl ?_
   refine y_ ?_
   refine A.valE 45 rfl (x':=AI ((kidsM p).length:Nat)) (ai_eq (by rw [encRl_len])) ?_
   refine A.keep [1,2,3,44,45,46] rfl ?_
   refine A.loopK (ι:=Nat×List AEnt) (fun s=>(⟨[(1, .pe 8 (cellsR p)),(2, .pe 1 (intsA path)),(3,PT b3),(44,rsA (kidsM p)),(45,AI ((kidsM p).length:Nat)),(46,AI (s.1:Nat))],[]⟩, .box b3 (yvA c.lp):: .loop c.lp c.r0 .ready none::s.2))
    (fun s=>s.1≤(kidsM p).length∧c.Inv (1+(parsL path 0 ((kidsM p).take s.1)).length) s.2) (fun s=>(kidsM p).length-s.1) (0,Λb) ⟨Nat.zero_le _,by rw [List.take_zero,parsL];exact hi'⟩ rfl fun h2 hg2 D1 s hl2 hs ih=>?_
   obtain ⟨i,Λ1⟩:=s
   obtain ⟨hs1,hs2⟩:=hs
   simp only at hs1 hs2
   refine y_ ?_
   refine k_ (fun hc=>?_) fun hc=>?_
   ·have hci:i<(kidsM p).length:=Int.ofNat_lt.1 (of_decide_eq_true hc)
    clear hc
    refine Exists.elim (at_exN (l:=kidsM p) (i:=i) hci) fun x hx=>?_
    have hcp:=pars_p x (path++[(i:Int)])
    have hit:=hrec x (List.mem_of_getElem? hx) i
    unfold IterP at hit
    have hget:=parsL_get path hx
    have htake:=parsL_take path hx
    have hcl2:=cloneI21_p path (by omega)
    refine y_ ?_
    refine i_ rfl (encRl_at hx) (encR_eq x) ?_
    refine A.b rfl fun b8=>?_
    refine y_ ?_
    refine A.draw 6 [0,1,3,2,4,5] (fun i=>if i=2 then [2,1] else if i=5 then [5,4] else []) [] (by kernel_rfl) (by kernel_rfl) ?_
    refine w_ ?_
    refine WA.callG rfl rfl rfl rfl rfl rfl rfl rfl rfl hcl2 .refl fun z2 _=>?_
    refine WA.lit rfl rfl rfl rfl rfl rfl rfl fun bw=>?_
    refine WA.appendM 2 rfl rfl rfl rfl rfl rfl rfl rfl rfl rfl rfl rfl rfl rfl rfl rfl rfl rfl rfl rfl rfl rfl rfl (.pub (j:=4) rfl rfl (.sub .refl)) (by show ((path.map AI).length+1)*1≤_;rw [List.length_map];omega) (by show ((path.map AI).length+1)*1*8≤_;rw [List.length_map];omega) fun z3=>?_
    refine WA.nil (l:=[_]) rfl ?_
    refine A.freezeRow 56 rfl ?_
    refine A.valE 56 rfl (x':=intsA (path++[(i:Int)])) (by show AV.sl 1 (path.map AI++[AI (i:Nat)]) none= .sl 1 ((path++[(i:Int)]).map AI) none;rw [List.map_append];rfl) ?_
    refine n_ hcp ?_
    refine A.keep [1,2,3,44,45,46,57] rfl ?_
    refine l_ (Λ':= .box b3 (yvA c.lp):: .loop c.lp c.r0 .ready none::Λ1) ?_
    refine y_ ?_
    refine A.rangeIter (xss:=(parsM (path++[(i:Int)]) x).map ppA) rfl .refl hit rfl rfl (fun xs hxs=>?_) (fun j Λ=> ∃Λ'',Λ= .box b3 (yvA c.lp):: .loop c.lp c.r0 .ready none::Λ''∧c.Inv (1+(parsL path 0 ((kidsM p).take i)).length+j) Λ'')
     (fun st pd Λ=>st= .done∧pd=some .ret∧ ∃st' pd' Λ'',st'≠ .busy∧Λ= .box b3 (yvA c.lp):: .loop c.lp c.r0 st' pd'::Λ''∧c.Stop st' pd' Λ'') ⟨Λ1,rfl,hs2⟩ (fun h3 lp tm hl3 j xs Λi h4 hg4 F4 hxs hinv hl4=>?_) (fun h3 hg3 r Λ' hl3 hinv=>?_) (fun h3 hg3 r st pd Λ' hl3 hst hs=>?_)
    ·rw [List.mem_map] at hxs
     obtain ⟨cp,_,rfl⟩:=hxs
     rfl
    ·obtain ⟨Λ3,rfl,hi3⟩:=hinv
     obtain ⟨cp,hcp1,rfl⟩: ∃cp,(parsM (path++[(i:Int)]) x)[j]? =some cp∧ppA cp=xs:=by
      rw [List.getElem?_map] at hxs
      cases hq:(parsM (path++[(i:Int)]) x)[j]? with
      |none=>rw [hq] at hxs;cases hxs
      |some cp=>rw [hq] at hxs;injection hxs with hxs;exact ⟨cp,rfl,hxs⟩
     have hjl:j<(parsM (path++[(i:Int)]) x).length:=(List.getElem?_eq_some_iff.1 hcp1).1
     have hgx:(([(path,p)]++parsL path 0 (kidsM p)).map ppA)[1+(parsL path 0 ((kidsM p).take i)).length+j]? =some (ppA cp):=by
      rw [List.getElem?_map,hget,List.getElem?_append_right (by simp only [List.length_cons,List.length_nil];omega),List.getElem?_append_right (by simp only [List.length_cons,List.length_nil];omega),List.getElem?_append_left (by simp only [List.length_cons,List.length_nil];omega),
       show 1+(parsL path 0 ((kidsM p).take i)).length+j-([(path,p)]:List (List Int×PR)).length-(parsL path 0 ((kidsM p).take i)).length=j by simp only [List.length_cons,List.length_nil];omega,hcp1]
      rfl
     have hr:=hround _ _ hgx
     have hln:=hlen _ (List.mem_of_getElem? hgx)
     have hle:h0.le h4:=GH.le_trans hl (GH.le_trans (GH.le_refl _) (GH.le_trans hl2 (GH.le_trans hl3 hl4)))
     (refine b_ fun bx=>?_;refine y_ ?_)
     refine A.begin rfl rfl rfl ?_
     refine y_ ?_
     refine A.yieldC c (Λi:=Λ3) rfl rfl rfl rfl rfl rfl hln .refl hle (List.perm_append_comm (l₁:=[_,_,_])) hi3 hr (fun Λ4 hi4=>?_) (fun st pd Λ4 hst4 hs4=>?_)
     ·refine A.perm List.perm_append_comm ?_
      refine l_ (Λ':=_:: .box b3 (yvA c.lp):: .loop c.lp c.r0 .ready none::Λ4) ?_
      refine y_ ?_
      exact A.roundEnd rfl rfl (.inl ⟨rfl,_,rfl,Λ4,rfl,by rw [←Nat.add_assoc];exact hi4⟩)
     ·refine A.perm List.perm_append_comm ?_
      refine l_ (Λ':=_:: .box b3 (yvA c.lp):: .loop c.lp c.r0 st pd::Λ4) ?_
      refine y_ ?_
      exact A.roundRet rfl rfl (.inr ⟨rfl, .done,some .ret,_,(by intro h;cases h),rfl,rfl,rfl,st,pd,Λ4,hst4,rfl,hs4⟩)
    ·obtain ⟨Λ3,rfl,hi3⟩:=hinv
     have hi4:c.Inv (1+(parsL path 0 ((kidsM p).take (i+1))).length) Λ3:=by rw [htake,List.length_append,←Nat.add_assoc];rw [List.length_map] at hi3;exact hi3
     refine y_ ?_
     refine A.valE 46 rfl (x':=AI ((i+1:Nat):Int)) (inc_eq i (by omega)) ?_
     refine u_ (ih h3 hg3 _ (i+1,Λ3) hl3 ⟨by show i+1≤_;omega,hi4⟩ (by show _-(i+1)<_-i;omega))
    ·obtain ⟨rfl,rfl,st',pd',Λ3,hst',rfl,hs'⟩:=hs
     exact A.ret0 rfl rfl (List.sublist_cons_self _ _) (hstop _ _ _ hst' hs') rfl
   have hil:i=(kidsM p).length:=by
    have: ¬((i:Int)<((kidsM p).length:Nat)):=of_decide_eq_false hc
    omega
   clear hc ih
   rw [hil,List.take_length] at hs2
   refine y_ ?_
   exact A.ret0 rfl rfl (List.sublist_cons_self _ _) (hfin _ (by rw [List.length_map,List.length_append];exact hs2)) rfl
  ·refine y_ ?_
   exact A.ret0 rfl rfl (List.sublist_append_left _ _) (hstop _ _ _ hst hs) rfl
 ·rw [if_neg hb]
  refine ⟨Tryz.f98,_,Tryz.func98,rfl,rfl,rfl,rfl,fun w0 h0 c hfn h1 hg1 F Q Λ0 hl hi hlen hround hfin hstop=>?_⟩
  refine y_ ?_
  refine A.b rfl fun b3=>?_
  repeat ((fail_if_success (refine A.valE 19 rfl (x':=AB false) (ab_eq (by simpa using hb)) ?_));first|refine A.s rfl ?_|refine A.r rfl rfl ?_|refine A.p rfl ?_|refine A.step rfl ?_|refine A.v rfl rfl ?_)
  refine A.valE 19 rfl (x':=AB false) (ab_eq (by simpa using hb)) ?_
  refine Exists.elim (show∃Λb,Λb=Λ0 from ⟨_,rfl⟩) fun Λb hΛb=>?_
  refine A.entsEq (Λ':= .box b3 (yvA c.lp):: .loop c.lp c.r0 .ready none::Λb) (by rw [hΛb]) ?_
  refine y_ ?_
  refine A.e rfl hcl .refl (List.Perm.refl _) fun zk _=>?_
  refine y_ ?_
  refine A.valE 31 rfl (x':=AI (p.gs.length:Nat)) (ai_eq n2) ?_
  refine A.keep [1,2,3,4,30,31,32] rfl ?_
  refine A.loopP (ι:=Nat×Value) (fun j=>(⟨[(1, .pe 8 (cellsR p)),(2, .pe 1 (intsA path)),(3,PT b3),(4, .ms j.2 8 (p.l++bodsM (p.gs.take j.1)).length),(30,gsA p.gs),(31,AI (p.gs.length:Nat)),(32,AI (j.1:Nat))],[]⟩, .row 8 j.2 (encRl (p.l++bodsM (p.gs.take j.1))):: .box b3 (yvA c.lp):: .loop c.lp c.r0 .ready none::Λb)) (fun j=>j.1≤p.gs.length) (fun j=>p.gs.length-j.1) (0,zk) (Nat.zero_le _) (by simp [bodsM]) fun j hj ih=>?_
  obtain ⟨i,z⟩:=j
  simp only at hj ih⊢
  refine y_ ?_
  refine k_ (fun hc=>?_) fun hc=>?_
  ·have hci:i<p.gs.length:=by simpa using hc
   clear hc
   refine Exists.elim (at_exN (l:=p.gs) (i:=i) hci) fun g hx=>?_
   refine Exists.elim (hg g (List.mem_of_getElem? hx)) fun y hyb=>?_
   have hy0:g.body[(0:Int).toNat]? =some y:=by rw [hyb];rfl
   have hbt:=bods_take hx hyb
   have hbl:=bods_len (p.gs.take i)
   rw [List.length_take] at hbl
   have e1:p.l++bodsM (p.gs.take (i+1))=(p.l++bodsM (p.gs.take i))++[y]:=by rw [hbt,List.append_assoc]
   have e2:(p.l++bodsM (p.gs.take i)).length≤3000:=by rw [List.length_append];omega
   refine y_ ?_
   refine i_ rfl (encGl_at hx) (encG_eq g) ?_
   refine A.b rfl fun bg=>?_
   refine y_ ?_
   refine j_ rfl (encRl_at hy0) (encR_eq y) ?_
   refine t_ fun bl=>?_
   refine A.appendRowE rfl rfl rfl rfl rfl rfl rfl rfl rfl rfl rfl rfl rfl rfl (by show ((encRl (p.l++bodsM (p.gs.take i))).length+1)*8≤_;rw [encRl_len];omega) (by show ((encRl (p.l++bodsM (p.gs.take i))).length+1)*8*128≤_;rw [encRl_len];omega) fun z2=>?_
   refine y_ ?_
   refine l_ (Λ':= .row 8 z2 _:: .box b3 (yvA c.lp):: .loop c.lp c.r0 .ready none::Λb) ?_
   refine A.valE 4 rfl (x':= .ms z2 8 (p.l++bodsM (p.gs.take (i+1))).length) (by rw [e1,List.length_append (bs:=[y]),encRl_len];rfl) ?_
   refine A.entsEq (Λ':= .row 8 z2 (encRl (p.l++bodsM (p.gs.take (i+1)))):: .box b3 (yvA c.lp):: .loop c.lp c.r0 .ready none::Λb) (by rw [e1,encRl_snoc];rfl) ?_
   refine A.valE 32 rfl (x':=AI ((i+1:Nat):Int)) (inc_eq i (by omega)) ?_
   refine u_ (ih (i+1,z2) (by show i+1≤_;omega) (by show p.gs.length-(i+1)<p.gs.length-i;omega))
  have hil:i=p.gs.length:=by
   have: ¬i<p.gs.length:=by simpa using hc
   omega
  clear hc ih
  refine A.valE 4 rfl (x':= .ms z 8 (kidsM p).length) (by rw [hil,List.take_length]) ?_
  refine A.entsEq (Λ':= .row 8 z (encRl (kidsM p)):: .box b3 (yvA c.lp):: .loop c.lp c.r0 .ready none::Λb) (by rw [hil,List.take_length]) ?_
  clear hil
  refine A.freezeRow 4 rfl ?_
  refine y_ ?_
  refine A.valE 45 rfl (x':=AI ((kidsM p).length:Nat)) (ai_eq (by rw [encRl_len])) ?_
  refine A.keep [1,2,3,44,45,46] rfl ?_
  refine A.loopK (ι:=Nat×List AEnt) (fun s=>(⟨[(1, .pe 8 (cellsR p)),(2, .pe 1 (intsA path)),(3,PT b3),(44,rsA (kidsM p)),(45,AI ((kidsM p).length:Nat)),(46,AI (s.1:Nat))],[]⟩, .box b3 (yvA c.lp):: .loop c.lp c.r0 .ready none::s.2))
   (fun s=>s.1≤(kidsM p).length∧c.Inv (0+(parsL path 0 ((kidsM p).take s.1)).length) s.2) (fun s=>(kidsM p).length-s.1) (0,Λb) ⟨Nat.zero_le _,by rw [List.take_zero,parsL];exact (hΛb▸hi)⟩ rfl fun h2 hg2 D1 s hl2 hs ih=>?_
  obtain ⟨i,Λ1⟩:=s
  obtain ⟨hs1,hs2⟩:=hs
  simp only at hs1 hs2
  refine y_ ?_
  refine k_ (fun hc=>?_) fun hc=>?_
  ·have hci:i<(kidsM p).length:=Int.ofNat_lt.1 (of_decide_eq_true hc)
   clear hc
   refine Exists.elim (at_exN (l:=kidsM p) (i:=i) hci) fun x hx=>?_
   have hcp:=pars_p x (path++[(i:Int)])
   have hit:=hrec x (List.mem_of_getElem? hx) i
   unfold IterP at hit
   have hget:=parsL_get path hx
   have htake:=parsL_take path hx
   have hcl2:=cloneI21_p path (by omega)
   refine y_ ?_
   refine i_ rfl (encRl_at hx) (encR_eq x) ?_
   refine A.b rfl fun b8=>?_
   refine y_ ?_
   refine A.draw 6 [0,1,3,2,4,5] (fun i=>if i=2 then [2,1] else if i=5 then [5,4] else []) [] (by kernel_rfl) (by kernel_rfl) ?_
   refine w_ ?_
   refine WA.callG rfl rfl rfl rfl rfl rfl rfl rfl rfl hcl2 .refl fun z2 _=>?_
   refine WA.lit rfl rfl rfl rfl rfl rfl rfl fun bw=>?_
   refine WA.appendM 2 rfl rfl rfl rfl rfl rfl rfl rfl rfl rfl rfl rfl rfl rfl rfl rfl rfl rfl rfl rfl rfl rfl rfl (.pub (j:=4) rfl rfl (.sub .refl)) (by show ((path.map AI).length+1)*1≤_;rw [List.length_map];omega) (by show ((path.map AI).length+1)*1*8≤_;rw [List.length_map];omega) fun z3=>?_
   refine WA.nil (l:=[_]) rfl ?_
   refine A.freezeRow 56 rfl ?_
   refine A.valE 56 rfl (x':=intsA (path++[(i:Int)])) (by show AV.sl 1 (path.map AI++[AI (i:Nat)]) none= .sl 1 ((path++[(i:Int)]).map AI) none;rw [List.map_append];rfl) ?_
   refine n_ hcp ?_
   refine A.keep [1,2,3,44,45,46,57] rfl ?_
   refine l_ (Λ':= .box b3 (yvA c.lp):: .loop c.lp c.r0 .ready none::Λ1) ?_
   refine y_ ?_
   refine A.rangeIter (xss:=(parsM (path++[(i:Int)]) x).map ppA) rfl .refl hit rfl rfl (fun xs hxs=>?_) (fun j Λ=> ∃Λ'',Λ= .box b3 (yvA c.lp):: .loop c.lp c.r0 .ready none::Λ''∧c.Inv (0+(parsL path 0 ((kidsM p).take i)).length+j) Λ'')
    (fun st pd Λ=>st= .done∧pd=some .ret∧ ∃st' pd' Λ'',st'≠ .busy∧Λ= .box b3 (yvA c.lp):: .loop c.lp c.r0 st' pd'::Λ''∧c.Stop st' pd' Λ'') ⟨Λ1,rfl,hs2⟩ (fun h3 lp tm hl3 j xs Λi h4 hg4 F4 hxs hinv hl4=>?_) (fun h3 hg3 r Λ' hl3 hinv=>?_) (fun h3 hg3 r st pd Λ' hl3 hst hs=>?_)
   ·rw [List.mem_map] at hxs
    obtain ⟨cp,_,rfl⟩:=hxs
    rfl
   ·obtain ⟨Λ3,rfl,hi3⟩:=hinv
    obtain ⟨cp,hcp1,rfl⟩: ∃cp,(parsM (path++[(i:Int)]) x)[j]? =some cp∧ppA cp=xs:=by
     rw [List.getElem?_map] at hxs
     cases hq:(parsM (path++[(i:Int)]) x)[j]? with
     |none=>rw [hq] at hxs;cases hxs
     |some cp=>rw [hq] at hxs;injection hxs with hxs;exact ⟨cp,rfl,hxs⟩
    have hjl:j<(parsM (path++[(i:Int)]) x).length:=(List.getElem?_eq_some_iff.1 hcp1).1
    have hgx:(([]++parsL path 0 (kidsM p)).map ppA)[0+(parsL path 0 ((kidsM p).take i)).length+j]? =some (ppA cp):=by
     rw [List.getElem?_map,hget,List.getElem?_append_right (by simp only [List.length_cons,List.length_nil];omega),List.getElem?_append_right (by simp only [List.length_cons,List.length_nil];omega),List.getElem?_append_left (by simp only [List.length_cons,List.length_nil];omega),
      show 0+(parsL path 0 ((kidsM p).take i)).length+j-([]:List (List Int×PR)).length-(parsL path 0 ((kidsM p).take i)).length=j by simp only [List.length_cons,List.length_nil];omega,hcp1]
     rfl
    have hr:=hround _ _ hgx
    have hln:=hlen _ (List.mem_of_getElem? hgx)
    have hle:h0.le h4:=GH.le_trans hl (GH.le_trans (GH.le_refl _) (GH.le_trans hl2 (GH.le_trans hl3 hl4)))
    (refine b_ fun bx=>?_;refine y_ ?_)
    refine A.begin rfl rfl rfl ?_
    refine y_ ?_
    refine A.yieldC c (Λi:=Λ3) rfl rfl rfl rfl rfl rfl hln .refl hle (List.perm_append_comm (l₁:=[_,_,_])) hi3 hr (fun Λ4 hi4=>?_) (fun st pd Λ4 hst4 hs4=>?_)
    ·refine A.perm List.perm_append_comm ?_
     refine l_ (Λ':=_:: .box b3 (yvA c.lp):: .loop c.lp c.r0 .ready none::Λ4) ?_
     refine y_ ?_
     exact A.roundEnd rfl rfl (.inl ⟨rfl,_,rfl,Λ4,rfl,by rw [←Nat.add_assoc];exact hi4⟩)
    ·refine A.perm List.perm_append_comm ?_
     refine l_ (Λ':=_:: .box b3 (yvA c.lp):: .loop c.lp c.r0 st pd::Λ4) ?_
     refine y_ ?_
     exact A.roundRet rfl rfl (.inr ⟨rfl, .done,some .ret,_,(by intro h;cases h),rfl,rfl,rfl,st,pd,Λ4,hst4,rfl,hs4⟩)
   ·obtain ⟨Λ3,rfl,hi3⟩:=hinv
    have hi4:c.Inv (0+(parsL path 0 ((kidsM p).take (i+1))).length) Λ3:=by rw [htake,List.length_append,←Nat.add_assoc];rw [List.length_map] at hi3;exact hi3
    refine y_ ?_
    refine A.valE 46 rfl (x':=AI ((i+1:Nat):Int)) (inc_eq i (by omega)) ?_
    refine u_ (ih h3 hg3 _ (i+1,Λ3) hl3 ⟨by show i+1≤_;omega,hi4⟩ (by show _-(i+1)<_-i;omega))
   ·obtain ⟨rfl,rfl,st',pd',Λ3,hst',rfl,hs'⟩:=hs
    exact A.ret0 rfl rfl (List.sublist_cons_self _ _) (hstop _ _ _ hst' hs') rfl
  have hil:i=(kidsM p).length:=by
   have: ¬((i:Int)<((kidsM p).length:Nat)):=of_decide_eq_false hc
   omega
  clear hc ih
  rw [hil,List.take_length] at hs2
  refine y_ ?_
  exact A.ret0 rfl rfl (List.sublist_cons_self _ _) (hfin _ (by rw [List.length_map,List.length_append];exact hs2)) rfl
abbrev IterCl(g:FuncId)(cap:List AV)(cs:List CL):Prop:=Iter Tryz.prog tt tt_ok gs0 g cap (cs.map fun x=>[encC x])
theorem appSeq_p(g:FuncId)(cap:List AV)(cs:List CL)(it:IterCl g cap cs)(hl:cs.length≤150000000000):FunE Tryz.prog gs0 72 [.v (.slice none 0 0), .fn g [] cap] [] (fun z:Value=> .ms z 7 cs.length) (fun z=>[.row 7 z (cs.map encC)]) (fun _=>True):=by
 unfold FunE
 refine Fun.of (S:=tt) (fn:=Tryz.f72) (n:=13) tt_ok Tryz.func72 rfl rfl rfl rfl fun w0 h0 F hgs=>?_
 refine y_ ?_
 refine A.b rfl fun b2=>?_
 refine A.boxAs (x':= .ms (.slice none 0 0) 7 0) (List.Perm.refl _) (fun h y r=>nil_ms 7 r) ?_
 refine A.nilRow 7 ?_
 refine A.perm (perm_pick [1,0] rfl rfl rfl rfl) ?_
 refine y_ ?_
 refine A.rangeIter (xss:=cs.map fun x=>[encC x]) rfl .refl it rfl rfl (fun xs hxs=>?_) (fun j Λ=> ∃z,Λ=[.box b2 (.ms z 7 (cs.take j).length), .row 7 z ((cs.take j).map encC)])
  (fun st pd Λ=>False) ⟨_,rfl⟩ (fun h3 lp tm hl3 j xs Λi h4 hg4 F4 hxs hinv hl4=>?_) (fun h3 hg3 r Λ' hl3 hinv=>?_) (fun h3 hg3 r st pd Λ' hl3 hst hs=>hs.elim)
 ·rw [List.mem_map] at hxs
  obtain ⟨cp,_,rfl⟩:=hxs
  rfl
 ·obtain ⟨z,rfl⟩:=hinv
  obtain ⟨x,hx,rfl⟩: ∃x,cs[j]? =some x∧[encC x]=xs:=by
   rw [List.getElem?_map] at hxs
   cases hq:cs[j]? with
   |none=>rw [hq] at hxs;cases hxs
   |some x=>rw [hq] at hxs;injection hxs with hxs;exact ⟨x,rfl,hxs⟩
  have htk:=take_at hx
  have hjl:j<cs.length:=(List.getElem?_eq_some_iff.1 hx).1
  have hn:(cs.take j).length≤150000000000:=by rw [List.length_take];omega
  (refine b_ fun bx=>?_;refine y_ ?_)
  refine A.begin rfl rfl rfl ?_
  refine t_ fun bl=>?_
  refine A.appendRowE rfl rfl rfl rfl rfl rfl rfl rfl rfl rfl rfl rfl rfl rfl (by show (((cs.take j).map encC).length+1)*7≤_;rw [List.length_map];omega) (by show (((cs.take j).map encC).length+1)*7*72≤_;rw [List.length_map];omega) fun z2=>?_
  refine y_ ?_
  have e1:(cs.take (j+1)).length=((cs.take j).map encC).length+1:=by rw [htk,List.length_append,List.length_map];rfl
  have e2:(cs.take (j+1)).map encC=(cs.take j).map encC++[encC x]:=by rw [htk,List.map_append];rfl
  refine A.perm (perm_pick [1,3,0,2] rfl rfl rfl rfl) ?_
  refine l_ (Λ':=[_, .box b2 _, .row 7 z2 _]) ?_
  exact A.roundEnd rfl rfl (.inl ⟨rfl,_,rfl,z2,by rw [e1,e2];rfl⟩)
 ·obtain ⟨z,rfl⟩:=hinv
  refine A.entsEq (Λ':=[.box b2 (.ms z 7 cs.length), .row 7 z (cs.map encC)]) (by rw [List.length_map,List.take_length]) ?_
  refine y_ ?_
  refine l_ (Λ':=[.row 7 z (cs.map encC)]) ?_
  refine A.ret1 (Λ':=[.row 7 _ _]) rfl rfl rfl sl_ ⟨z, .refl,rfl,trivial⟩
theorem collect_p(g:FuncId)(cap:List AV)(cs:List CL)(it:IterCl g cap cs)(hl:cs.length≤150000000000):Pure Tryz.prog gs0 46 [.fn g [] cap] (csA cs):=by
 have h:=appSeq_p g cap cs it hl
 refine p_ tt_ok Tryz.func46 5 fun w0 h0 F hgs=>?_
 refine y_ ?_
 refine A.e rfl h .refl (List.Perm.refl _) fun z _=>?_
 refine y_ ?_
 refine A.freezeRow 2 rfl ?_
 exact r_
def allM(k:KN):List CL:=if mayK k=true then clR k.vars [] k.root else []
def errM(k:KN):Int:=if mayK k=true then 0 else 2
def zeroC:CL:=⟨[],0,0,0,(0,0),0⟩
theorem root_ok{k:KN}(hk:WfN k)(h:mayK k=true):ClOk k.vars k.chans.length k.root:=by
 have:=may_wf h
 obtain ⟨h1,h2,h3⟩:=this
 exact ⟨⟨false,h1⟩,hk.root,by omega⟩
theorem rAll_p(k:KN)(hk:WfN k):Pure Tryz.prog gs0 15 [encN k] (.tp [csA (allM k),AI (errM k)]):=by
 have h1:=rmay16_p k hk
 by_cases c:mayK k=true
 ·rw [c] at h1
  obtain ⟨hV,hn⟩:=vin_of c
  have hht:htR k.root≤32:=by have:=(may_wf c).2.2;omega
  have h2:=rcl_n k.vars k.chans.length hV hn _ k.root [] (Nat.le_refl _) (root_ok hk c) (by rw [List.length_nil];omega)
  rw [show allM k=clR k.vars [] k.root by unfold allM;rw [if_pos c],show errM k=0 by unfold errM;rw [if_pos c]]
  refine p_ tt_ok Tryz.func15 12 fun w0 h0 F hgs=>?_
  (refine b_ fun bx=>?_;refine y_ ?_)
  refine c_ h1 ?_
  refine c_ h2 ?_
  refine m_ (ResA.tmp rfl (ResA.tmp rfl ResA.nil)) ?_
  exact s_
 ·have c':mayK k=false:=by simpa using c
  rw [c'] at h1
  rw [show allM k=[] by unfold allM;rw [if_neg c],show errM k=2 by unfold errM;rw [if_neg c]]
  refine p_ tt_ok Tryz.func15 12 fun w0 h0 F hgs=>?_
  (refine b_ fun bx=>?_;refine y_ ?_)
  refine c_ h1 ?_
  refine m_ (ResA.tmp rfl (ResA.tmp rfl ResA.nil)) ?_
  exact s_
def checkM(k:KN):AV:=match allM k with
 | []=> .tp [encC zeroC,AB false,AI (errM k)]
 |x::_=> .tp [encC x,AB true,AI 0]
theorem rCheck_p(k:KN)(hk:WfN k):Pure Tryz.prog gs0 17 [encN k] (checkM k):=by
 have h:=rAll_p k hk
 unfold checkM
 cases hl:allM k with
 |nil=>
  rw [hl] at h
  refine p_ tt_ok Tryz.func17 20 fun w0 h0 F hgs=>?_
  (refine b_ fun bx=>?_;refine b_ fun bx=>?_;refine y_ ?_)
  refine c_ h ?_
  refine m_ (ResA.cell rfl rfl rfl (ResA.tmp rfl (ResA.tmp rfl ResA.nil))) ?_
  exact s_
 |cons x r=>
  rw [hl] at h
  refine p_ tt_ok Tryz.func17 20 fun w0 h0 F hgs=>?_
  (refine b_ fun bx=>?_;refine b_ fun bx=>?_;refine y_ ?_)
  refine c_ h ?_
  refine A.valE 14 rfl (x':=AB false) (ab_eq (by simp;omega)) ?_
  refine i_ rfl (show ((x::r).map encC)[(0:Int).toNat]? =some (encC x) from rfl) rfl ?_
  refine m_ (ResA.cell rfl rfl rfl (ResA.tmp rfl (ResA.tmp rfl ResA.nil))) ?_
  exact s_
theorem clash_p(k:KN):Pure Tryz.prog gs0 47 [encN k] (.fn 73 [] [.pe 11 (encN k)]):=by
 refine p_ tt_ok Tryz.func47 4 fun w0 h0 F hgs=>?_
 refine y_ ?_
 refine A.b rfl fun b1=>?_
 refine y_ ?_
 refine A.freezeS 2 b1 (y':= .fn 73 [] [.pe 11 (encN k)]) rfl rfl rfl (.fn (.cons .ptr (.sub .refl))) ?_
 exact r_
theorem all_len{k:KN}(hk:WfN k):(allM k).length≤150000000000:=by
 unfold allM
 split
 ·rename_i c
  obtain ⟨hV,hn⟩:=vin_of c
  have h1:=cl_len hV hn _ k.root [] (Nat.le_refl _) (root_ok hk c)
  have hsz:mostB*(szR k.root*szR k.root)≤33408*(2048*2048):=Nat.mul_le_mul_left _ (Nat.mul_le_mul (root_ok hk c).sz (root_ok hk c).sz)
  omega
 ·exact Nat.zero_le _
theorem uAll_of(k:KN)(hk:WfN k)(it:mayK k=true→IterCl 73 [.pe 11 (encN k)] (allM k)):Pure Tryz.prog gs0 14 [encN k] (.tp [csA (allM k),AI (errM k)]):=by
 have h1:=kmay_p k hk
 have hl:=all_len hk
 have h3:=clash_p k
 by_cases c:mayK k=true
 ·rw [c] at h1
  have h2:=collect_p _ _ _ (it c) hl
  rw [show errM k=0 by unfold errM;rw [if_pos c]]
  refine p_ tt_ok Tryz.func14 10 fun w0 h0 F hgs=>?_
  (refine b_ fun bx=>?_;refine y_ ?_)
  refine c_ h1 ?_
  refine n_ h3 ?_
  refine c_ h2 ?_
  refine m_ (ResA.tmp rfl (ResA.tmp rfl ResA.nil)) ?_
  exact s_
 ·have c':mayK k=false:=by simpa using c
  rw [c'] at h1
  rw [show allM k=[] by unfold allM;rw [if_neg c],show errM k=2 by unfold errM;rw [if_neg c]]
  refine p_ tt_ok Tryz.func14 10 fun w0 h0 F hgs=>?_
  (refine b_ fun bx=>?_;refine y_ ?_)
  refine c_ h1 ?_
  refine m_ (ResA.tmp rfl (ResA.tmp rfl ResA.nil)) ?_
  exact s_
theorem uCheck_of(k:KN)(hk:WfN k)(it:mayK k=true→IterCl 73 [.pe 11 (encN k)] (allM k)):Pure Tryz.prog gs0 16 [encN k] (checkM k):=by
 have h1:=kmay_p k hk
 have h3:=clash_p k
 by_cases c:mayK k=true
 case neg=>
  have c':mayK k=false:=by simpa using c
  rw [c'] at h1
  rw [show checkM k= .tp [encC zeroC,AB false,AI 2] by unfold checkM allM errM;rw [if_neg c,if_neg c]]
  refine p_ tt_ok Tryz.func16 15 fun w0 h0 F hgs=>?_
  (refine b_ fun bx=>?_;refine b_ fun bx=>?_;refine b_ fun bx=>?_;refine b_ fun bx=>?_;refine y_ ?_)
  refine c_ h1 ?_
  refine m_ (ResA.cell rfl rfl rfl (ResA.cell rfl rfl rfl (ResA.cell rfl rfl rfl ResA.nil))) ?_
  exact s_
 rw [c] at h1
 have it:=it c
 refine Exists.elim (show∃R,R=checkM k from ⟨_,rfl⟩) fun R hR=>?_
 rw [←hR]
 unfold checkM errM at hR
 rw [if_pos c] at hR
 generalize allM k=cs at it hR
 refine p_ tt_ok Tryz.func16 15 fun w0 h0 F hgs=>?_
 refine y_ ?_
 refine A.b rfl fun b1=>?_
 refine A.b rfl fun b2=>?_
 refine A.b rfl fun b3=>?_
 refine A.b rfl fun b4=>?_
 refine y_ ?_
 refine c_ h1 ?_
 refine c_ h3 ?_
 refine A.rangeIter (xss:=cs.map fun x=>[encC x]) rfl .refl it rfl rfl (fun xs hxs=>?_) (fun j Λ=>j=0∧Λ=_)
  (fun st pd Λ=>st= .done∧pd=some .ret∧ ∃x r,cs=x::r∧Λ=[.box b4 (AI 0), .box b3 (AB true), .box b2 (encC x)]) ⟨rfl,rfl⟩ (fun h3 lp tm hl3 j xs Λi h4 hg4 F4 hxs hinv hl4=>?_) (fun h3 hg3 r Λ' hl3 hinv=>?_) (fun h3 hg3 r st pd Λ' hl3 hst hs=>?_)
 ·rw [List.mem_map] at hxs
  obtain ⟨cp,_,rfl⟩:=hxs
  rfl
 ·obtain ⟨rfl,rfl⟩:=hinv
  cases cs with
  |nil=>cases hxs
  |cons x s=>
   have hxs:[encC x]=xs:=by injection hxs
   subst hxs
   (refine b_ fun bx=>?_;refine y_ ?_)
   refine A.begin rfl rfl rfl ?_
   refine y_ ?_
   refine l_ (Λ':=[_, .box b4 _, .box b3 _, .box b2 _]) ?_
   exact A.roundRet rfl rfl (.inr ⟨rfl, .done,some .ret,_,(by intro h;cases h),rfl,rfl,rfl,x,s,rfl,rfl⟩)
 ·obtain ⟨hz,rfl⟩:=hinv
  rw [List.length_map] at hz
  have:cs=[]:=List.length_eq_zero_iff.1 hz
  subst this
  refine y_ ?_
  refine m_ (ResA.cell rfl rfl rfl (ResA.cell rfl rfl rfl (ResA.cell rfl rfl rfl ResA.nil))) ?_
  rw [hR]
  exact s_
 ·obtain ⟨rfl,rfl,x,s,rfl,rfl⟩:=hs
  refine m_ (ResA.cell rfl rfl rfl (ResA.cell rfl rfl rfl (ResA.cell rfl rfl rfl ResA.nil))) ?_
  rw [hR]
  exact s_
theorem kid_ok{vs:List KV}{n:Nat}{p x:PR}(ok:ClOk vs n p)(hx:x∈kidsM p):ClOk vs n x∧htR x+1≤htR p:=by
 have h:=htR_eq p
 rcases List.mem_append.1 hx with hx|hx
 ·have h1:=htL_le21 hx
  exact ⟨ok.l x hx,by omega⟩
 ·obtain ⟨g,hg,hgx⟩: ∃g,g∈p.gs∧g.body=[x]:=by
   have hall: ∀(l:List GD),(∀g,g∈l→ ∃y,g.body=[y])→x∈bodsM l→ ∃g,g∈l∧g.body=[x]:=by
    intro l
    induction l with
    |nil=>intro _ h;cases h
    |cons g r ih=>
     intro ha h
     rw [bodsM] at h
     obtain ⟨y,hy⟩:=ha g (List.mem_cons_self ..)
     rw [hy] at h
     rcases List.mem_append.1 h with h|h
     ·have:=List.mem_singleton.1 h;subst this;exact ⟨g,List.mem_cons_self ..,hy⟩
     ·obtain ⟨g',h1,h2⟩:=ih (fun z hz=>ha z (List.mem_cons_of_mem _ hz)) h
      exact ⟨g',List.mem_cons_of_mem _ h1,h2⟩
   exact hall p.gs (fun g hg=>let ⟨y,hy,_⟩:=ok.g g hg;⟨y,hy⟩) hx
  have h1:=htGs_le21 hg
  rw [htG_eq,hgx,htL,htL] at h1
  obtain ⟨y,hy,hyo⟩:=ok.g g hg
  rw [hgx] at hy
  injection hy with hy _
  subst hy
  exact ⟨hyo,by omega⟩
theorem iterP_n(vs:List KV)(n:Nat): ∀(m:Nat) (p:PR) (path:List Int),htR p≤m→ClOk vs n p→path.length+htR p≤1000→IterP p path
 |0,p,_,h,_,_=>by have:=htR_pos p;omega
 |m+1,p,path,h,ok,hp=>by
  refine iterP_a p path (fun g hg=>let ⟨x,hx,_⟩:=ok.g g hg;⟨x,hx⟩) ok.node.ll ok.node.gl (by omega) (fun x hx i=>?_)
  obtain ⟨hxo,h1⟩:=kid_ok ok hx
  exact iterP_n vs n m x _ (by omega) hxo (by rw [List.length_append];simp only [List.length_cons,List.length_nil];omega)
theorem parsL_mem(path:List Int){x:List Int×PR}: ∀{l:List PR} {i:Nat},x∈parsL path i l→ ∃(j:Nat) (y:PR),y∈l∧x∈parsM (path++[(j:Int)]) y
 | [],i,h=>by rw [parsL] at h;cases h
 |y::r,i,h=>by
  rw [parsL] at h
  rcases List.mem_append.1 h with h|h
  ·exact ⟨i,y,List.mem_cons_self ..,h⟩
  ·obtain ⟨j,z,h1,h2⟩:=parsL_mem path h
   exact ⟨j,z,List.mem_cons_of_mem _ h1,h2⟩
theorem pars_ok(vs:List KV)(n:Nat): ∀(m:Nat) (p:PR) (path:List Int),htR p≤m→ClOk vs n p→path.length+htR p≤1000→ ∀x,x∈parsM path p→x.1.length≤1000∧ClOk vs n x.2
 |0,p,_,h,_,_=>by have:=htR_pos p;omega
 |m+1,p,path,h,ok,hp=>fun x hx=>by
  rw [parsM_eq path p (fun g hg=>let ⟨y,hy,_⟩:=ok.g g hg;⟨y,hy⟩)] at hx
  rcases List.mem_append.1 hx with hx|hx
  ·split at hx
   ·have:=List.mem_singleton.1 hx
    subst this
    exact ⟨by show path.length≤1000;omega,ok⟩
   ·cases hx
  ·obtain ⟨j,y,hy,h2⟩:=parsL_mem path hx
   obtain ⟨hyo,h1⟩:=kid_ok ok hy
   exact pars_ok vs n m y _ (by omega) hyo (by rw [List.length_append];simp only [List.length_cons,List.length_nil];omega) x h2
theorem A.loopX{K:AC}{k:List It}{E:AEnv}{Λ:List AEnt}{c:Code}{ι:Type}(Ef:ι→AEnv)(Λf:AEnt→ι→List AEnt)(Pr:ι→Prop)(μ:ι→Nat)(i:ι)(hp:Pr i){X:AEnt}(he:(Ef i,Λf X i)=(E,Λ))
 (round: ∀i,Pr i→(∀j,Pr j→μ j<μ i→A K (.inLoop c::k) (Ef j) (Λf X j))→A K (.code c:: .inLoop c::k) (Ef i) (Λf X i)):A K (.code (.loop c)::k) E Λ:=
 A.loopP (fun s=>(Ef s,Λf X s)) Pr μ i hp he round
def setP(path:List Int)(x:CL):CL:=⟨path,x.a,x.b,x.kind,x.el,x.c⟩
theorem bet_map(u v:RU)(path:List Int)(a b:Int):betM u v path a b=(betM u v [] a b).map (setP path):=by
 simp only [betM,List.map_append,List.map_map];rfl
def At(T:List CL)(n:Nat)(R:List CL):Prop:=n≤T.length∧T.drop n=R
theorem At.step{T:List CL}{n:Nat}{x:CL}{R:List CL}(h:At T n (x::R)):T[n]? =some x∧At T (n+1) R:=by
 obtain ⟨h1,h2⟩:=h
 have hx:T[n]? =some x:=by
  have:=List.getElem?_drop (xs:=T) (i:=n) (j:=0)
  rw [h2] at this
  exact this.symm
 refine ⟨hx,(List.getElem?_eq_some_iff.1 hx).1,?_⟩
 rw [←List.drop_drop,h2];rfl
theorem At.nil{T:List CL}{n:Nat}(h:At T n []):n=T.length:=by
 have:=congrArg List.length h.2
 rw [List.length_drop,List.length_nil] at this
 have:=h.1
 omega
theorem fm_drop{α β:Type}{f:α→List β}{l:List α}{j:Nat}{x:α}(h:l[j]? =some x):(l.drop j).flatMap f=f x++(l.drop (j+1)).flatMap f:=by
 have hi:=(List.getElem?_eq_some_iff.1 h).1
 rw [List.drop_eq_getElem_cons hi,(List.getElem?_eq_some_iff.1 h).2,List.flatMap_cons]
theorem iterCl_p(k:KN)(hk:WfN k)(hm:mayK k=true):IterCl 73 [.pe 11 (encN k)] (allM k):=by
 obtain ⟨hV,hn⟩:=vin_of hm
 have hht:htR k.root≤32:=by have:=(may_wf hm).2.2;omega
 have hro:=root_ok hk hm
 have hit:=iterP_n k.vars k.chans.length _ k.root [] (Nat.le_refl _) hro (by rw [List.length_nil];omega)
 have hcp:=pars_p k.root []
 rw [show allM k=clR k.vars [] k.root by unfold allM;rw [if_pos hm]]
 have hin: ∀x,x∈parsM [] k.root→x.1.length≤1000∧ClOk k.vars k.chans.length x.2:=pars_ok k.vars k.chans.length _ k.root [] (Nat.le_refl _) hro (by rw [List.length_nil];omega)
 refine Exists.elim (show∃P,P=parsM [] k.root from ⟨_,rfl⟩) fun P hP=>?_
 refine Exists.elim (show∃T,T=clR k.vars [] k.root from ⟨_,rfl⟩) fun T hT=>?_
 rw [←hT]
 unfold clR at hT
 unfold IterP at hit
 rw [←hP] at hit hT hin
 have hT0:At T 0 ((P.drop 0).flatMap (pairF k.vars)):=⟨Nat.zero_le _,by rw [hT];rfl⟩
 unfold IterCl
 refine ⟨Tryz.f73,_,Tryz.func73,rfl,rfl,rfl,rfl,fun w0 h0 c hfn h1 hg1 F Q Λ0 hl hi hlen hround hfin hstop=>?_⟩
 have hget: ∀{i:Nat} {x:CL},T[i]? =some x→c.round i [encC x]:=fun {i x} h=>hround i _ (by rw [List.getElem?_map,h];rfl)
 refine y_ ?_
 refine A.b rfl fun b2=>?_
 refine y_ ?_
 refine c_ hcp ?_
 refine A.rangeIter (xss:=P.map ppA) rfl .refl hit rfl rfl (fun xs hxs=>?_) (fun j Λ=> ∃n Λ'',Λ= .box b2 (yvA c.lp):: .loop c.lp c.r0 .ready none::Λ''∧At T n ((P.drop j).flatMap (pairF k.vars))∧c.Inv n Λ'')
  (fun st pd Λ=>st= .done∧pd=some .ret∧ ∃st' pd' Λ'',st'≠ .busy∧Λ= .box b2 (yvA c.lp):: .loop c.lp c.r0 st' pd'::Λ''∧c.Stop st' pd' Λ'') ⟨0,Λ0,rfl,hT0,hi⟩ (fun h3 lp tm hl3 j xs Λi h4 hg4 F4 hxs hinv hl4=>?_) (fun h3 hg3 r Λ' hl3 hinv=>?_) (fun h3 hg3 r st pd Λ' hl3 hst hs=>?_)
 ·rw [List.mem_map] at hxs
  obtain ⟨cp,_,rfl⟩:=hxs
  rfl
 ·obtain ⟨n,Λ3,rfl,hat,hi3⟩:=hinv
  obtain ⟨⟨path,p⟩,hcp1,rfl⟩: ∃cp,P[j]? =some cp∧ppA cp=xs:=by
   rw [List.getElem?_map] at hxs
   cases hq:P[j]? with
   |none=>rw [hq] at hxs;cases hxs
   |some cp=>rw [hq] at hxs;injection hxs with hxs;exact ⟨cp,rfl,hxs⟩
  obtain ⟨hpl,ok⟩:=hin _ (List.mem_of_getElem? hcp1)
  simp only at hpl ok
  rw [fm_drop hcp1] at hat
  refine Exists.elim (show∃R0,R0=(P.drop (j+1)).flatMap (pairF k.vars) from ⟨_,rfl⟩) fun R0 hR0=>?_
  rw [←hR0] at hat
  have hle:h0.le h4:=GH.le_trans hl (GH.le_trans hl3 hl4)
  have hll:=ok.node.ll
  have n1:((encRl p.l).length:Int)=p.l.length:=by rw [encRl_len]
  refine Exists.elim (show∃us,us=p.l.map (usesM k.vars) from ⟨_,rfl⟩) fun us hus=>?_
  have hat:At T n (pairsM path 0 us++R0):=by rw [hus];exact hat
  have hul:us.length=p.l.length:=by rw [hus,List.length_map]
  have huse: ∀u,u∈us→UseOk u:=fun u hu=>by
   rw [hus] at hu
   obtain ⟨y,hy,rfl⟩:=List.mem_map.1 hu
   exact ((ok.l y hy).uses hV hn).2
  (refine b_ fun bx=>?_;refine y_ ?_)
  refine A.begin rfl rfl rfl ?_
  refine y_ ?_
  refine A.emptyRow 5 4 rfl fun z0=>?_
  refine A.valE 19 rfl (x':=AI (p.l.length:Nat)) (ai_eq n1) ?_
  refine A.keep [1,2,3,5,18,19,20] rfl ?_
  refine l_ (Λ':= .row 4 z0 []:: .loop _ _ _ _::(.box b2 (yvA c.lp):: .loop c.lp c.r0 .ready none::Λ3)) ?_
  refine A.loopX (ι:=Nat×Value) (fun j=>⟨[(1, .pe 11 (encN k)),(2,PT b2),(3,intsA path),(5, .ms j.2 4 (us.take j.1).length),(18,rsA p.l),(19,AI (p.l.length:Nat)),(20,AI (j.1:Nat))],[]⟩) (fun X j=> .row 4 j.2 ((us.take j.1).map uA)::X:: .box b2 (yvA c.lp):: .loop c.lp c.r0 .ready none::Λ3) (fun j=>j.1≤p.l.length) (fun j=>p.l.length-j.1) (0,z0) (Nat.zero_le _) rfl fun s hs ih=>?_
  obtain ⟨i,z⟩:=s
  simp only at hs ih⊢
  refine y_ ?_
  refine k_ (fun hc=>?_) fun hc=>?_
  ·have hci:i<p.l.length:=Int.ofNat_lt.1 (of_decide_eq_true hc)
   clear hc
   refine Exists.elim (at_exN (l:=p.l) (i:=i) hci) fun x hx=>?_
   have hux:us[i]? =some (usesM k.vars x):=by rw [hus,List.getElem?_map,hx];rfl
   have okx:=ClOk.uses hV hn (ok.l x (List.mem_of_getElem? hx))
   have hux2:=uof_p k.vars x okx.1.1 okx.1.2.2
   have e1:(us.take (i+1)).length=((us.take i).map uA).length+1:=by rw [take_at hux,List.length_append,List.length_map];rfl
   have e2:(us.take (i+1)).map uA=(us.take i).map uA++[uA (usesM k.vars x)]:=by rw [take_at hux,List.map_append];rfl
   have e3:(us.take i).length≤2048:=by rw [List.length_take];omega
   refine y_ ?_
   refine i_ rfl (encRl_at hx) (encR_eq x) ?_
   refine A.b rfl fun b7=>?_
   refine y_ ?_
   refine n_ hux2 ?_
   refine t_ fun bl=>?_
   refine A.appendRowE rfl rfl rfl rfl rfl rfl rfl rfl rfl rfl rfl rfl rfl rfl (by show (((us.take i).map uA).length+1)*4≤_;rw [List.length_map];omega) (by show (((us.take i).map uA).length+1)*4*96≤_;rw [List.length_map];omega) fun z2=>?_
   refine y_ ?_
   refine l_ (Λ':= .row 4 z2 _:: .loop _ _ _ _::(.box b2 (yvA c.lp):: .loop c.lp c.r0 .ready none::Λ3)) ?_
   refine A.valE 5 rfl (x':= .ms z2 4 (us.take (i+1)).length) (by rw [e1];rfl) ?_
   refine A.entsEq (Λ':= .row 4 z2 ((us.take (i+1)).map uA):: .loop _ _ _ _::(.box b2 (yvA c.lp):: .loop c.lp c.r0 .ready none::Λ3)) (by rw [e2];rfl) ?_
   refine A.valE 20 rfl (x':=AI ((i+1:Nat):Int)) (inc_eq i (by omega)) ?_
   refine u_ (ih (i+1,z2) (by show i+1≤_;omega) (by show p.l.length-(i+1)<p.l.length-i;omega))
  have hil:i=us.length:=by
   have: ¬((i:Int)<(p.l.length:Nat)):=of_decide_eq_false hc
   omega
  clear hc ih hs
  refine A.valE 5 rfl (x':= .ms z 4 us.length) (by rw [hil,List.take_length]) ?_
  refine A.entsEq (Λ':= .row 4 z (us.map uA):: .loop _ _ _ _::(.box b2 (yvA c.lp):: .loop c.lp c.r0 .ready none::Λ3)) (by rw [hil,List.take_length]) ?_
  clear hil
  refine A.freezeRow 5 rfl ?_
  refine y_ ?_
  refine A.valE 33 rfl (x':=AI (us.length:Nat)) (ai_eq (by rw [List.length_map])) ?_
  refine A.keep [2,3,5,33,34] rfl ?_
  refine A.loopX (ι:=Nat×Nat×List AEnt) (fun s=>⟨[(2,PT b2),(3,intsA path),(5, .sl 4 (us.map uA) none),(33,AI (us.length:Nat)),(34,AI (s.1:Nat))],[]⟩) (fun X s=>X:: .box b2 (yvA c.lp):: .loop c.lp c.r0 .ready none::s.2.2)
   (fun s=>s.1≤us.length∧At T s.2.1 (pairsM path (s.1:Int) (us.drop s.1)++R0)∧c.Inv s.2.1 s.2.2) (fun s=>us.length-s.1) (0,n,Λ3) ⟨Nat.zero_le _,hat,hi3⟩ rfl fun s hs ih=>?_
  clear hat hi3
  obtain ⟨a,n,Λ3⟩:=s
  obtain ⟨hs1,hat,hi3⟩:=hs
  simp only at hs1 hat hi3 ih⊢
  refine y_ ?_
  refine k_ (fun hc=>?_) fun hc=>?_
  rotate_left
  ·have hil:a=us.length:=by
    have: ¬((a:Int)<(us.length:Nat)):=of_decide_eq_false hc
    omega
   rw [hil,List.drop_length,pairsM,List.nil_append] at hat
   clear hc ih hil
   refine y_ ?_
   exact A.roundEnd rfl rfl (.inl ⟨rfl,_,rfl,n,Λ3,rfl,by rw [←hR0];exact hat,hi3⟩)
  have hca:a<us.length:=Int.ofNat_lt.1 (of_decide_eq_true hc)
  clear hc
  refine Exists.elim (at_exN (l:=us) (i:=a) hca) fun u hu=>?_
  rw [pairs_drop hu,List.append_assoc] at hat
  have hua:(us.map uA)[a]? =some (uA u):=by rw [List.getElem?_map,hu];rfl
  have huo:UseOk u:=huse u (List.mem_of_getElem? hu)
  refine Exists.elim (show∃R1,R1=pairsM path ((a+1:Nat):Int) (us.drop (a+1))++R0 from ⟨_,rfl⟩) fun R1 hR1=>?_
  rw [←hR1] at hat
  refine y_ ?_
  refine A.valE 9 rfl (x':=AI ((a+1:Nat):Int)) (inc_eq a (by omega)) ?_
  refine A.keep [2,3,5,8,9,33,34] rfl ?_
  refine A.loopX (ι:=Nat×Nat×List AEnt) (fun s=>⟨[(2,PT b2),(3,intsA path),(5, .sl 4 (us.map uA) none),(8,AI (a:Nat)),(9,AI (s.1:Nat)),(33,AI (us.length:Nat)),(34,AI (a:Nat))],[]⟩) (fun X s=>X:: .box b2 (yvA c.lp):: .loop c.lp c.r0 .ready none::s.2.2)
   (fun s=>s.1≤us.length∧At T s.2.1 (rowM2 path u (a:Int) (s.1:Int) (us.drop s.1)++R1)∧c.Inv s.2.1 s.2.2) (fun s=>us.length-s.1) (a+1,n,Λ3) ⟨hca,hat,hi3⟩ rfl fun s hs ih3=>?_
  clear hat hi3
  obtain ⟨b,n,Λ3⟩:=s
  obtain ⟨hs3,hat,hi3⟩:=hs
  simp only at hs3 hat hi3 ih3⊢
  refine y_ ?_
  refine k_ (fun hc=>?_) fun hc=>?_
  rotate_left
  ·have hil:b=us.length:=by
    have: ¬b<us.length:=by simpa using hc
    omega
   rw [hil,List.drop_length,rowM2,List.nil_append,hR1] at hat
   clear hc hil
   refine y_ ?_
   refine A.valE 34 rfl (x':=AI ((a+1:Nat):Int)) (inc_eq a (by omega)) ?_
   refine u_ (ih (a+1,n,Λ3) ⟨by show a+1≤_;omega,hat,hi3⟩ (by show us.length-(a+1)<us.length-a;omega))
  have hcb:b<us.length:=by simpa using hc
  clear hc ih
  refine Exists.elim (at_exN (l:=us) (i:=b) hcb) fun v hv=>?_
  rw [row_drop hv,bet_map,List.append_assoc] at hat
  have hva:(us.map uA)[b]? =some (uA v):=by rw [List.getElem?_map,hv];rfl
  have hvo:UseOk v:=huse v (List.mem_of_getElem? hv)
  have hbt:=between_p u v (bet_ok huo hvo) [] a b 0 (0,0)
  have hbl:(betM u v [] (a:Int) (b:Int)).length≤33408:=bet_len huo hvo [] a b
  refine Exists.elim (show∃R2,R2=rowM2 path u (a:Int) ((b+1:Nat):Int) (us.drop (b+1))++R1 from ⟨_,rfl⟩) fun R2 hR2=>?_
  rw [←hR2] at hat
  refine Exists.elim (show∃B,B=betM u v [] (a:Int) (b:Int) from ⟨_,rfl⟩) fun B hB=>?_
  rw [←hB] at hat hbt hbl
  clear hB
  refine y_ ?_
  refine A.draw 14 [0,1,2,3,4,5,6,7,8,9,10,13,11,12] (fun i=>if i=11 then [11] else []) [] (by kernel_rfl) (by kernel_rfl) ?_
  refine w_ ?_
  refine iw_ rfl hua rfl ?_
  refine iw_ rfl hva rfl ?_
  refine WA.callG rfl rfl rfl rfl rfl rfl rfl rfl rfl hbt s_ fun zb _=>?_
  refine w_ ?_
  refine WA.nil (l:=[_]) rfl ?_
  refine A.freezeRow 56 rfl ?_
  refine y_ ?_
  refine A.keep [2,3,5,8,9,33,34,56,57,58] rfl ?_
  refine A.loopX (ι:=Nat×Nat×List AEnt) (fun s=>⟨[(2,PT b2),(3,intsA path),(5, .sl 4 (us.map uA) none),(8,AI (a:Nat)),(9,AI (b:Nat)),(33,AI (us.length:Nat)),(34,AI (a:Nat)),(56,csA B),(57,AI (B.length:Nat)),(58,AI (s.1:Nat))],[]⟩) (fun X s=>X:: .box b2 (yvA c.lp):: .loop c.lp c.r0 .ready none::s.2.2)
   (fun s=>s.1≤B.length∧At T s.2.1 ((B.drop s.1).map (setP path)++R2)∧c.Inv s.2.1 s.2.2) (fun s=>B.length-s.1) (0,n,Λ3) ⟨Nat.zero_le _,hat,hi3⟩ rfl fun s hs ih4=>?_
  clear hat hi3
  obtain ⟨i,n,Λ3⟩:=s
  obtain ⟨hs4,hat,hi3⟩:=hs
  simp only at hs4 hat hi3 ih4⊢
  refine y_ ?_
  refine k_ (fun hc=>?_) fun hc=>?_
  rotate_left
  ·have hil:i=B.length:=by
    have: ¬((i:Int)<(B.length:Nat)):=of_decide_eq_false hc
    omega
   rw [hil,List.drop_length,List.map_nil,List.nil_append,hR2] at hat
   clear hc hil ih4
   refine y_ ?_
   refine A.valE 9 rfl (x':=AI ((b+1:Nat):Int)) (inc_eq b (by omega)) ?_
   refine u_ (ih3 (b+1,n,Λ3) ⟨by show b+1≤_;omega,hat,hi3⟩ (by show us.length-(b+1)<us.length-b;omega))
  have hci:i<B.length:=Int.ofNat_lt.1 (of_decide_eq_true hc)
  clear hc ih3
  refine Exists.elim (at_exN (l:=B) (i:=i) hci) fun x hx=>?_
  have hxa:(B.map encC)[i]? =some (encC x):=by rw [List.getElem?_map,hx];rfl
  have hd:B.drop i=x::B.drop (i+1):=by rw [List.drop_eq_getElem_cons hci];rw [(List.getElem?_eq_some_iff.1 hx).2]
  rw [hd,List.map_cons,List.cons_append] at hat
  obtain ⟨hTn,hat⟩:=hat.step
  have hr:=hget hTn
  have hln:=hlen [encC (setP path x)] (List.mem_map.2 ⟨_,List.mem_of_getElem? hTn,rfl⟩)
  have hcl:=cloneI21_p path (by omega)
  refine y_ ?_
  refine i_ rfl hxa rfl ?_
  refine A.b rfl fun b11=>?_
  refine y_ ?_
  refine A.e rfl hcl .refl (List.Perm.refl _) fun zk _=>?_
  first|refine A.s rfl ?_|refine A.r rfl rfl ?_|refine A.w rfl rfl ?_|refine A.p rfl ?_|refine A.b rfl fun bx=>?_|refine A.t rfl fun bl=>?_
  first|refine A.s rfl ?_|refine A.r rfl rfl ?_|refine A.w rfl rfl ?_|refine A.p rfl ?_|refine A.b rfl fun bx=>?_|refine A.t rfl fun bl=>?_
  refine A.freezeRowV 11 zk (x':=encC (setP path x)) rfl fz_ ?_
  refine y_ ?_
  refine A.yieldC c (xs:=[encC (setP path x)]) (Λi:=Λ3) rfl rfl rfl rfl rfl rfl hln .refl hle (List.perm_append_comm (l₁:=[_,_,_])) hi3 hr (fun Λ4 hi4=>?_) (fun st pd Λ4 hst4 hs4=>?_)
  ·refine A.perm List.perm_append_comm ?_
   refine l_ (Λ':= .loop _ _ _ _:: .box b2 (yvA c.lp):: .loop c.lp c.r0 .ready none::Λ4) ?_
   refine y_ ?_
   refine A.valE 58 rfl (x':=AI ((i+1:Nat):Int)) (inc_eq i (by omega)) ?_
   refine u_ (ih4 (i+1,n+1,Λ4) ⟨by show i+1≤_;omega,hat,hi4⟩ (by show B.length-(i+1)<B.length-i;omega))
  ·refine A.perm List.perm_append_comm ?_
   refine l_ (Λ':= .loop _ _ _ _:: .box b2 (yvA c.lp):: .loop c.lp c.r0 st pd::Λ4) ?_
   refine y_ ?_
   exact A.roundRet rfl rfl (.inr ⟨rfl, .done,some .ret,_,(by intro h;cases h),rfl,rfl,rfl,st,pd,Λ4,hst4,rfl,hs4⟩)
 ·obtain ⟨n,Λ3,rfl,hat,hi3⟩:=hinv
  rw [List.length_map,List.drop_length,List.flatMap_nil] at hat
  have hnn:=hat.nil
  subst hnn
  refine y_ ?_
  exact A.ret0 rfl rfl (List.sublist_cons_self _ _) (hfin _ (by rw [List.length_map];exact hi3)) rfl
 ·obtain ⟨rfl,rfl,st',pd',Λ3,hst',rfl,hs'⟩:=hs
  exact A.ret0 rfl rfl (List.sublist_cons_self _ _) (hstop _ _ _ hst' hs') rfl
theorem uAll_p(k:KN)(hk:WfN k):Pure Tryz.prog gs0 14 [encN k] (.tp [csA (allM k),AI (errM k)]):=uAll_of k hk (iterCl_p k hk)
theorem uCheck_p(k:KN)(hk:WfN k):Pure Tryz.prog gs0 16 [encN k] (checkM k):=uCheck_of k hk (iterCl_p k hk)
end Go.Proofs.YtafcodjilcljeaaGreat
namespace Go.Proofs.YtafcodjilcljeaaGreat
open Go Go.Tp
set_option maxHeartbeats 4000000
deriving instance DecidableEq for CL
theorem sameC_p(a b:CL)(h:a.path.length≤1099511627776):Pure Tryz.prog gs0 19 [encC a,encC b] (AB (decide (a=b))):=by
 have g1:=sameI_p a.path b.path h
 have hR:decide (a=b)=(decide (a.path=b.path)&&(decide (a.a=b.a)&&(decide (a.b=b.b)&&(decide (a.kind=b.kind)&&(decide (a.el=b.el)&&decide (a.c=b.c)))))):=by
  obtain ⟨x1,x2,x3,x4,x5,x6⟩:=a
  obtain ⟨y1,y2,y3,y4,y5,y6⟩:=b
  simp only [CL.mk.injEq,Bool.decide_and]
 rw [hR]
 by_cases c1:a.path=b.path
 case neg=>
  rw [decide_eq_false c1] at g1⊢
  refine p_ tt_ok Tryz.func19 45 fun w0 h0 F hgs=>?_
  (refine b_ fun bx=>?_;refine b_ fun bx=>?_;refine y_ ?_)
  exact cr_ g1
 rw [decide_eq_true c1] at g1⊢
 by_cases c2:a.a=b.a
 case neg=>
  rw [decide_eq_false c2]
  refine p_ tt_ok Tryz.func19 45 fun w0 h0 F hgs=>?_
  (refine b_ fun bx=>?_;refine b_ fun bx=>?_;refine y_ ?_)
  refine c_ g1 ?_
  refine e_ 17 rfl (x':=AB false) (ab_eq (by simpa using c2)) ?_
  exact r_
 rw [decide_eq_true c2]
 by_cases c3:a.b=b.b
 case neg=>
  rw [decide_eq_false c3]
  refine p_ tt_ok Tryz.func19 45 fun w0 h0 F hgs=>?_
  (refine b_ fun bx=>?_;refine b_ fun bx=>?_;refine y_ ?_)
  refine c_ g1 ?_
  refine e_ 17 rfl (x':=AB true) (ab_eq (by simpa using c2)) ?_
  refine e_ 24 rfl (x':=AB false) (ab_eq (by simpa using c3)) ?_
  exact r_
 rw [decide_eq_true c3]
 by_cases c4:a.kind=b.kind
 case neg=>
  rw [decide_eq_false c4]
  refine p_ tt_ok Tryz.func19 45 fun w0 h0 F hgs=>?_
  (refine b_ fun bx=>?_;refine b_ fun bx=>?_;refine y_ ?_)
  refine c_ g1 ?_
  refine e_ 17 rfl (x':=AB true) (ab_eq (by simpa using c2)) ?_
  refine e_ 24 rfl (x':=AB true) (ab_eq (by simpa using c3)) ?_
  refine e_ 31 rfl (x':=AB false) (ab_eq (by simpa using c4)) ?_
  exact r_
 rw [decide_eq_true c4]
 by_cases c5:a.el=b.el
 case neg=>
  rw [decide_eq_false c5]
  refine p_ tt_ok Tryz.func19 45 fun w0 h0 F hgs=>?_
  (refine b_ fun bx=>?_;refine b_ fun bx=>?_;refine y_ ?_)
  refine c_ g1 ?_
  refine e_ 17 rfl (x':=AB true) (ab_eq (by simpa using c2)) ?_
  refine e_ 24 rfl (x':=AB true) (ab_eq (by simpa using c3)) ?_
  refine e_ 31 rfl (x':=AB true) (ab_eq (by simpa using c4)) ?_
  refine A.eqSt rfl rfl rfl rfl rfl rfl rfl rfl (elSt a.el b.el) ?_
  refine y_ ?_
  refine e_ 38 rfl (x':=AB false) (ab_eq (by simpa [eqV] using c5)) ?_
  exact r_
 rw [decide_eq_true c5]
 refine p_ tt_ok Tryz.func19 45 fun w0 h0 F hgs=>?_
 (refine b_ fun bx=>?_;refine b_ fun bx=>?_;refine y_ ?_)
 refine c_ g1 ?_
 refine e_ 17 rfl (x':=AB true) (ab_eq (by simpa using c2)) ?_
 refine e_ 24 rfl (x':=AB true) (ab_eq (by simpa using c3)) ?_
 refine e_ 31 rfl (x':=AB true) (ab_eq (by simpa using c4)) ?_
 refine A.eqSt rfl rfl rfl rfl rfl rfl rfl rfl (elSt a.el b.el) ?_
 refine y_ ?_
 refine e_ 38 rfl (x':=AB true) (ab_eq (by simpa [eqV] using c5)) ?_
 refine R_ ?_
 exact ab_sb (by simp;rfl)
theorem map_atC{l:List CL}{i:Nat}{y:CL}(h:l[i]? =some y):(l.map encC)[i]? =some (encC y):=by rw [List.getElem?_map,h];rfl
theorem sameCs_p(a b:List CL)(hl:a.length≤1099511627776)(hp: ∀x,x∈a→x.path.length≤1099511627776):Pure Tryz.prog gs0 18 [csA a,csA b] (AB (decide (a=b))):=by
 refine Exists.elim (show∃R,R=decide (a=b) from ⟨_,rfl⟩) fun R hR=>?_
 rw [←hR]
 refine p_ tt_ok Tryz.func18 27 fun w0 h0 F hgs=>?_
 refine y_ ?_
 by_cases hn:a.length=b.length
 case neg=>
  refine e_ 10 rfl (x':=AB true) (ab_eq (by simp;omega)) ?_
  refine R_ ?_
  rw [hR,decide_eq_false (fun h=>hn (by rw [h]))]
  exact .refl
 refine e_ 10 rfl (x':=AB false) (ab_eq (by simp;omega)) ?_
 refine A.keep [0,1,5] rfl ?_
 refine A.loopP (ι:=Nat) (fun i=>(⟨[(0,csA a),(1,csA b),(5,AI (i:Nat))],[]⟩,[])) (fun i=>EqUp a b i) (fun i=>a.length-i) 0 ⟨Nat.zero_le _,fun j hj=>by omega⟩ rfl fun i hi ih=>?_
 refine y_ ?_
 refine k_ (fun hc=>?_) fun hc=>?_
 ·have hc:i<a.length:=by simpa using hc
  refine Exists.elim (at_exN (l:=a) (i:=i) hc) fun x hx=>?_
  refine Exists.elim (at_exN (l:=b) (i:=i) (by omega)) fun y hy=>?_
  have hs:=sameC_p x y (hp x (List.mem_of_getElem? hx))
  refine y_ ?_
  refine d_ 8 [0,1,2,3,4,5,6,7] [] ?_
  refine iw_ rfl (map_atC hx) rfl ?_
  refine iw_ rfl (map_atC hy) rfl ?_
  refine WA.nil (l:=[]) rfl ?_
  refine c_ hs ?_
  refine k_ (fun hc=>?_) fun hc=>?_
  ·have he: ¬x=y:=by simpa using hc
   refine y_ ?_
   refine R_ ?_
   rw [hR,decide_eq_false (fun h=>by rw [h,hy] at hx;injection hx with hx;exact he hx.symm)]
   exact .refl
  ·have he:x=y:=by simpa using hc
   subst he
   refine y_ ?_
   refine A.valE 5 rfl (x':=AI ((i+1:Nat):Int)) (inc_eq i (by omega)) ?_
   refine u_ (ih (i+1) (eqUp_next hi hx hy) (by omega))
 ·have hc: ¬i<a.length:=by simpa using hc
  refine y_ ?_
  refine R_ ?_
  rw [hR,decide_eq_true (eqUp_all hi hn hc)]
  exact .refl
end Go.Proofs.YtafcodjilcljeaaGreat
namespace Go.Proofs.YtafcodjilcljeaaGreat
open Go Go.Tp
abbrev kn(n:Int):KE:=⟨1,0,0,n,0,[]⟩
abbrev kv(v:Int):KE:=⟨2,0,0,0,v,[]⟩
abbrev kel(v:Int)(e:KE):KE:=⟨3,0,0,0,v,[e]⟩
abbrev setR(v:Int)(e:KE)(ix:List KE):PR:=⟨4,0,0,0,[⟨v,ix⟩],[e],[],[]⟩
abbrev outR(c:Int)(e:KE):PR:=⟨6,c,0,1,[],[e],[],[]⟩
abbrev manyR(k:Int)(l:List PR):PR:=⟨k,0,0,0,[],[],[],l⟩
abbrev kerN(vs:List KV)(r:PR):KN:=⟨vs,[1,2,0],r,[]⟩
theorem lnum_p(n:Int):Pure Tryz.prog gs0 42 [AI32 n] (encK (kn n)):=by
 refine p_ tt_ok Tryz.func42 5 fun w0 h0 F hgs=>?_
 (refine b_ fun bx=>?_;refine y_ ?_);refine A.retC (Λ':=[]) rfl rfl rfl rfl rfl (List.nil_sublist _) ⟨?_,rfl⟩;exact s_
theorem lvar_p(n:Int):Pure Tryz.prog gs0 40 [AI n] (encK (kv n)):=by
 refine p_ tt_ok Tryz.func40 5 fun w0 h0 F hgs=>?_
 (refine b_ fun bx=>?_;refine y_ ?_);refine A.retC (Λ':=[]) rfl rfl rfl rfl rfl (List.nil_sublist _) ⟨?_,rfl⟩;exact s_
theorem lel_p(v:Int)(e:KE):Pure Tryz.prog gs0 43 [AI v,encK e] (encK (kel v e)):=by
 rw [encK_eq e]
 refine p_ tt_ok Tryz.func43 9 fun w0 h0 F hgs=>?_
 (refine b_ fun bx=>?_;refine b_ fun bx=>?_;refine t_ fun bl=>?_;refine y_ ?_);refine A.retC (Λ':=[]) rfl rfl rfl rfl rfl (List.nil_sublist _) ⟨?_,rfl⟩
 show Sb _ (.ag [AU8 3,AU8 0,AU8 0,AI32 0,AI v, .sl 6 [encK e] none])
 rw [encK_eq e]
 exact s_
theorem lset_p(v:Int)(e:KE)(ix:List KE):Pure Tryz.prog gs0 41 [AI v,encK e,kesA ix] (encR (setR v e ix)):=by
 rw [encK_eq e]
 refine p_ tt_ok Tryz.func41 14 fun w0 h0 F hgs=>?_
 (refine b_ fun bx=>?_;refine b_ fun bx=>?_;refine t_ fun bl=>?_;refine t_ fun bl=>?_;refine y_ ?_);refine A.retC (Λ':=[]) rfl rfl rfl rfl rfl (List.nil_sublist _) ⟨?_,rfl⟩
 rw [encR_eq]
 show Sb _ (.ag [AU8 4,AI 0,AI 0,AU8 0, .sl 2 [.ag [AI v,kesA ix]] none, .sl 6 [encK e] none, .sl 18 [] none, .sl 8 [] none])
 rw [encK_eq e]
 exact s_
theorem lout_p(v:Int)(e:KE):Pure Tryz.prog gs0 45 [AI v,encK e] (encR (outR v e)):=by
 rw [encK_eq e]
 refine p_ tt_ok Tryz.func45 9 fun w0 h0 F hgs=>?_
 (refine b_ fun bx=>?_;refine b_ fun bx=>?_;refine t_ fun bl=>?_;refine y_ ?_);refine A.retC (Λ':=[]) rfl rfl rfl rfl rfl (List.nil_sublist _) ⟨?_,rfl⟩
 rw [encR_eq]
 show Sb _ (.ag [AU8 6,AI v,AI 0,AU8 1, .sl 2 [] none, .sl 6 [encK e] none, .sl 18 [] none, .sl 8 [] none])
 rw [encK_eq e]
 exact s_
theorem lmany_p(k:Int)(l:List PR):Pure Tryz.prog gs0 20 [AU8 k,rsA l] (encR (manyR k l)):=by
 refine p_ tt_ok Tryz.func20 8 fun w0 h0 F hgs=>?_
 (refine b_ fun bx=>?_;refine y_ ?_);refine A.retC (Λ':=[]) rfl rfl rfl rfl rfl (List.nil_sublist _) ⟨?_,rfl⟩
 rw [encR_eq]
 exact s_
theorem lker_p(vs:List KV)(r:PR):Pure Tryz.prog gs0 31 [varsA vs,cellsR r] (encN (kerN vs r)):=by
 refine p_ tt_ok Tryz.func31 9 fun w0 h0 F hgs=>?_
 (refine b_ fun bx=>?_;refine b_ fun bx=>?_;refine t_ fun bl=>?_;refine y_ ?_);refine A.retC (Λ':=[]) rfl rfl rfl rfl rfl (List.nil_sublist _) ⟨?_,rfl⟩;exact s_
abbrev vs2:List KV:=[⟨1,0⟩,⟨1,3⟩]
abbrev kk(l:List PR):KN:=kerN vs2 (manyR 10 l)
theorem lclash_p(w:CL)(l:List PR)(hw:w.path.length≤1000)(hk:WfN (kk l))(hm:mayK (kk l)=true)(ha:allM (kk l)=[w]):Pure Tryz.prog gs0 44 [encC w,rsA l] (AB true):=by
 have h1:=lmany_p 10 l
 have h2:=lker_p vs2 (manyR 10 l)
 have h3:=uAll_p (kk l) hk
 have h4:=uCheck_p (kk l) hk
 have h5:=sameC_p w w (by omega)
 rw [decide_eq_true rfl] at h5
 have he:errM (kk l)=0:=by unfold errM;rw [if_pos hm]
 rw [ha,he] at h3
 rw [show checkM (kk l)= .tp [encC w,AB true,AI 0] by unfold checkM;rw [ha]] at h4
 refine p_ tt_ok Tryz.func44 54 fun w0 h0 F hgs=>?_
 (refine b_ fun bx=>?_;refine t_ fun bl=>?_;refine y_ ?_)
 refine n_ h1 ?_
 refine n_ h2 ?_
 (refine b_ fun bx=>?_;refine y_ ?_)
 refine c_ h3 ?_
 refine n_ h4 ?_
 (refine b_ fun bx=>?_;refine y_ ?_)
 refine d_ 24 [0,1,2,3,4,5,6,7,8,9,10,11,12,13,14,15,16,17,18,19,20,21,22,23] [(19,AB true)] ?_
 refine iw_ rfl rfl rfl ?_
 refine cw_ h5 ?_
 refine WA.nil (l:=[]) rfl ?_
 exact cr_ h5
abbrev l1:List PR:=[setR 0 (kn 1) [],setR 1 (kv 0) [kn 0]]
abbrev l2:List PR:=[setR 1 (kn 1) [kn 0],⟨3,0,1,0,[],[],[],[]⟩]
abbrev l3:List PR:=[outR 1 (kn 1),⟨1,0,0,0,[],[],[],[]⟩,outR 1 (kn 2)]
abbrev lN:List PR:=[setR 1 (kn 1) [kn 0],setR 1 (kel 1 (kn 2)) [kn 1]]
theorem wf1:WfN (kk l1):=⟨by decide,by decide,by decide,by simp [wfR,wfRl,wfGl,wfKl,wfK,wfPl,i32,i64,Go.Tp.u8]⟩
theorem wf2:WfN (kk l2):=⟨by decide,by decide,by decide,by simp [wfR,wfRl,wfGl,wfKl,wfK,wfPl,i32,i64,Go.Tp.u8]⟩
theorem wf3:WfN (kk l3):=⟨by decide,by decide,by decide,by simp [wfR,wfRl,wfGl,wfKl,wfK,wfPl,i32,i64,Go.Tp.u8]⟩
theorem wfN:WfN (kk lN):=⟨by decide,by decide,by decide,by simp [wfR,wfRl,wfGl,wfKl,wfK,wfPl,i32,i64,Go.Tp.u8]⟩
theorem may1:mayK (kk l1)=true:=by kernel_rfl
theorem may2:mayK (kk l2)=true:=by kernel_rfl
theorem may3:mayK (kk l3)=true:=by kernel_rfl
theorem mayN:mayK (kk lN)=true:=by kernel_rfl
abbrev w1:CL:=⟨[],0,1,2,(0,0),0⟩
abbrev w2:CL:=⟨[],0,1,1,(1,0),0⟩
abbrev w3:CL:=⟨[],0,2,4,(0,0),1⟩
theorem all1:allM (kk l1)=[w1]:=by kernel_rfl
theorem all2:allM (kk l2)=[w2]:=by kernel_rfl
theorem all3:allM (kk l3)=[w3]:=by kernel_rfl
theorem allN:allM (kk lN)=[]:=by kernel_rfl
abbrev pS:PR:=setR 1 (kel 1 (kv 0)) [kn 2]
abbrev pC:PR:=⟨3,0,9,0,[],[],[],[]⟩
theorem wfPS:wfR pS:=by simp [wfR,wfRl,wfGl,wfKl,wfK,wfPl,i32,i64,Go.Tp.u8]
theorem wfPC:wfR pC:=by simp [wfR,wfRl,wfGl,wfKl,wfK,wfPl,i32,i64,Go.Tp.u8]
abbrev uS:RU:=⟨[(0,0),(1,-1)],[(1,2)],[],[]⟩
theorem ofS:ofM (kk lN) pS= .tp [uA uS,AI 0]:=by kernel_rfl
theorem ofC:ofM (kk lN) pC= .tp [uA .nil,AI 2]:=by kernel_rfl
theorem awake21:Pure Tryz.prog gs0 13 [] (AB true):=by
 have n0:=lnum_p 0
 have n1:=lnum_p 1
 have n2:=lnum_p 2
 have v0:=lvar_p 0
 have a1:=lset_p 1 (kn 1) [kn 0]
 have a2:=lel_p 1 (kn 2)
 have a3:=lset_p 1 (kel 1 (kn 2)) [kn 1]
 have a4:=lmany_p 10 lN
 have a5:=lker_p vs2 (manyR 10 lN)
 have a6:=uCheck_p (kk lN) wfN
 have eN:errM (kk lN)=0:=by unfold errM;rw [if_pos mayN]
 rw [show checkM (kk lN)= .tp [encC zeroC,AB false,AI 0] by unfold checkM;rw [allN,eN]] at a6
 have b1:=lel_p 1 (kv 0)
 have b2:=lset_p 1 (kel 1 (kv 0)) [kn 2]
 have b3:=uOf_p (kk lN) pS wfN wfPS
 rw [ofS] at b3
 have b4:=uOf_p (kk lN) pC wfN wfPC
 rw [ofC] at b4
 have c1:=lset_p 0 (kn 1) []
 have c2:=lset_p 1 (kv 0) [kn 0]
 have c3:=lclash_p w1 l1 (by decide) wf1 may1 all1
 have c4:=lclash_p w2 l2 (by decide) wf2 may2 all2
 have c5:=lclash_p w3 l3 (by decide) wf3 may3 all3
 have c6:=lout_p 1 (kn 1)
 have c7:=lout_p 1 (kn 2)
 have d1:=same21_p uS uS ⟨by decide,by decide,by decide,by decide⟩
 rw [decide_eq_true rfl] at d1
 refine p_ tt_ok Tryz.func13 108 fun w0 h0 F hgs=>?_
 refine y_ ?_
 refine n_ v0 ?_
 (refine b_ fun bx=>?_;refine t_ fun bl=>?_)
 refine n_ n1 ?_
 refine n_ n0 ?_
 refine t_ fun bl=>?_
 refine n_ a1 ?_
 refine n_ n2 ?_
 refine n_ a2 ?_
 refine n_ n1 ?_
 refine t_ fun bl=>?_
 refine n_ a3 ?_
 refine t_ fun bl=>?_
 refine n_ a4 ?_
 refine n_ a5 ?_
 (refine b_ fun bx=>?_;refine y_ ?_)
 refine n_ a6 ?_
 (refine b_ fun bx=>?_;refine y_ ?_)
 refine A.draw 12 [0,1,10,2,3,4,5,6,7,8,9,11] (fun i=>if i=5 then [4] else if i=11 then [10] else []) [(2,encK (kel 1 (kv 0))),(3,encK (kn 2)),(5,encR pS),(6, .tp [uA uS,AI 0])] (by kernel_rfl) (by kernel_rfl) ?_
 refine w_ ?_
 refine WA.alloc rfl rfl rfl rfl rfl rfl rfl rfl fun b6=>?_
 refine WA.c rfl rfl b1 (.sub s_) ?_
 refine WA.c rfl rfl n2 (.sub s_) ?_
 refine WA.lit rfl rfl rfl rfl rfl rfl rfl fun bw=>?_
 refine WA.c rfl rfl b2 (.cons (.sub .refl) (.cons (.sub .refl) (.cons (.pub (j:=4) rfl rfl (.sub .refl)) (.sub .refl)))) ?_
 refine cw_ b3 ?_
 refine WA.store rfl rfl rfl rfl rfl rfl rfl rfl rfl rfl ?_
 refine WA.nil (l:=[_]) rfl ?_
 refine y_ ?_
 refine n_ b4 ?_
 (refine b_ fun bx=>?_;refine y_ ?_)
 refine A.draw 28 [0,3,1,2,4,5,6,7,8,9,10,11,16,12,13,14,15,17,18,19,20,21,24,22,23,25,26,27] (fun i=>if i=6 then [5] else if i=8 then [7] else if i=15 then [14] else if i=18 then [17] else []) [(1,encK (kn 1)),(2,encR (setR 0 (kn 1) [])),(4,encK (kn 0)),(6,encR (setR 1 (kv 0) [kn 0])),(8,AB true),(12,encK (kn 1)),(13,encK (kn 0)),(15,encR (setR 1 (kn 1) [kn 0])),(18,AB true),(22,encK (kn 1)),(23,encR (outR 1 (kn 1))),(25,encK (kn 2)),(26,encR (outR 1 (kn 2)))] (by kernel_rfl) (by kernel_rfl) ?_
 refine w_ ?_
 refine WA.c rfl rfl n1 (.sub s_) ?_
 refine WA.c rfl rfl c1 (.sub s_) ?_
 refine WA.c rfl rfl n0 (.sub s_) ?_
 refine WA.lit rfl rfl rfl rfl rfl rfl rfl fun bw=>?_
 refine WA.c rfl rfl c2 (.cons (.sub .refl) (.cons (.sub .refl) (.cons (.pub (j:=5) rfl rfl (.sub .refl)) (.sub .refl)))) ?_
 refine WA.lit rfl rfl rfl rfl rfl rfl rfl fun bw=>?_
 refine WA.c rfl rfl c3 (.cons (.sub s_) (.cons (.pub (j:=7) rfl rfl (.sub .refl)) (.sub .refl))) ?_
 refine w_ ?_
 refine WA.c rfl rfl n1 (.sub s_) ?_
 refine WA.c rfl rfl n0 (.sub s_) ?_
 refine WA.lit rfl rfl rfl rfl rfl rfl rfl fun bw=>?_
 refine WA.c rfl rfl a1 (.cons (.sub .refl) (.cons (.sub .refl) (.cons (.pub (j:=14) rfl rfl (.sub .refl)) (.sub .refl)))) ?_
 refine WA.lit rfl rfl rfl rfl rfl rfl rfl fun bw=>?_
 refine WA.c rfl rfl c4 (.cons (.sub s_) (.cons (.pub (j:=17) rfl rfl (.sub s_)) (.sub .refl))) ?_
 refine w_ ?_
 refine WA.c rfl rfl n1 (.sub s_) ?_
 refine WA.c rfl rfl c6 (.sub s_) ?_
 refine WA.c rfl rfl n2 (.sub s_) ?_
 refine WA.c rfl rfl c7 (.sub s_) ?_
 refine WA.lit rfl rfl rfl rfl rfl rfl rfl fun bw=>?_
 refine WA.nil (l:=[_]) rfl ?_
 refine A.freezeRow 77 rfl ?_
 refine n_ c5 ?_
 (refine t_ fun bl=>?_;refine t_ fun bl=>?_;refine y_ ?_)
 exact cr_ d1
theorem enc_two(p q:PR):rsA [p,q]= .sl 8 [cellsR p,cellsR q] none:=by rw [←encR_eq p,←encR_eq q];rfl
theorem ofM_fit{k:KN}{p:PR}(hk:WfN k)(hp:wfR p):RU.nil.fit (if ofOk k p then usesM k.vars p else .nil):=by
 split
 ·rename_i h
  rw [ofOk,Bool.and_eq_true] at h
  obtain ⟨hV,hn⟩:=vin_of h.2
  have u:UseOk (usesM k.vars p):=((root_ok (sub_wf hk hp) h.2).uses hV hn).2
  have a1:=asc_short u.ar u.r
  have a2:=asc_short u.aw u.w
  have a3:=ascI_short u.ai u.i
  have a4:=ascI_short u.ao u.o
  exact ⟨by simp only [RU.nil,List.length_nil];omega,by simp only [RU.nil,List.length_nil];omega,by simp only [RU.nil,List.length_nil];omega,by simp only [RU.nil,List.length_nil];omega⟩
 ·exact ⟨by simp [RU.nil],by simp [RU.nil],by simp [RU.nil],by simp [RU.nil]⟩
theorem pairs_path{path:List Int}{us:List RU}{c:CL}: ∀{a:Int},c∈pairsM path a us→c.path=path:=by
 induction us with
 |nil=>intro a h;rw [pairsM] at h;cases h
 |cons u r ih=>
  intro a h
  rw [pairsM] at h
  rcases List.mem_append.1 h with h|h
  ·have key: ∀(us:List RU) (b:Int),c∈rowM2 path u a b us→c.path=path:=by
    intro us
    induction us with
    |nil=>intro b h;rw [rowM2] at h;cases h
    |cons v s ih2=>
     intro b h
     rw [rowM2,bet_map] at h
     rcases List.mem_append.1 h with h|h
     ·obtain ⟨d,_,rfl⟩:=List.mem_map.1 h;rfl
     ·exact ih2 _ h
   exact key _ _ h
  ·exact ih h
theorem all_paths{k:KN}(hk:WfN k): ∀c,c∈allM k→c.path.length≤1000:=by
 intro c hc
 unfold allM at hc
 split at hc
 ·rename_i hm
  have hht:htR k.root≤32:=by have:=(may_wf hm).2.2;omega
  obtain ⟨x,hx,hcx⟩:=List.mem_flatMap.1 hc
  have:=(pars_ok k.vars k.chans.length _ k.root [] (Nat.le_refl _) (root_ok hk hm) (by rw [List.length_nil];omega) x hx).1
  rw [pairs_path hcx];exact this
 ·cases hc
theorem of_law(k:KN)(p:PR)(hk:WfN k)(hp:wfR p):Pure Tryz.prog gs0 3 [encN k,cellsR p] (AB true):=by
 have ha:=awake21
 refine p_ tt_ok Tryz.func3 43 fun w0 h0 F hgs=>?_
 refine y_ ?_
 refine A.b rfl fun b2=>?_
 refine A.b rfl fun b3=>?_
 (refine t_ fun bl=>?_;refine y_ ?_)
 refine A.val 14 rfl (x':=rsA [p,k.root]) (by rw [enc_two];exact s_) ?_
 refine A.valE 15 rfl (x':=AI 2) rfl ?_
 refine A.keep [2,3,14,15,16] rfl ?_
 refine A.loopP (ι:=Nat) (fun j=>(⟨[(2,PT b2),(3,PT b3),(14,rsA [p,k.root]),(15,AI 2),(16,AI (j:Nat))],[]⟩,[.box b3 (cellsR p), .box b2 (encN k)])) (fun j=>j≤2) (fun j=>2-j) 0 (Nat.zero_le _) rfl fun i hi ih=>?_
 simp only at ih⊢
 refine y_ ?_
 refine k_ (fun hc=>?_) fun hc=>?_
 ·have hci:i<([p,k.root]:List PR).length:=Int.ofNat_lt.1 (of_decide_eq_true hc)
  clear hc
  have hi2:i<2:=hci
  refine Exists.elim (at_exN (l:=[p,k.root]) (i:=i) hci) fun x hx=>?_
  have hxw:wfR x:=by
   rcases List.mem_cons.1 (List.mem_of_getElem? hx) with rfl|hx
   ·exact hp
   ·have:=List.mem_singleton.1 hx;subst this;exact hk.root
  have h1:=uOf_p k x hk hxw
  have h2:=rOf_p k x hk hxw
  have h3:=same21_p (if ofOk k x then usesM k.vars x else .nil) (if ofOk k x then usesM k.vars x else .nil) (ofM_fit hk hxw)
  rw [decide_eq_true rfl] at h3
  refine Exists.elim (show∃u,u=(if ofOk k x then usesM k.vars x else RU.nil) from ⟨_,rfl⟩) fun u hu=>?_
  refine Exists.elim (show∃e:Int,e=(if ofOk k x then (0:Int) else 2) from ⟨_,rfl⟩) fun e he=>?_
  rw [show ofM k x= .tp [uA u,AI e] by rw [hu,he];rfl] at h1 h2
  rw [←hu] at h3
  refine y_ ?_
  refine i_ rfl (encRl_at hx) (encR_eq x) ?_
  refine A.b rfl fun b6=>?_
  refine y_ ?_
  refine c_ h1 ?_
  refine A.b rfl fun b7=>?_
  refine y_ ?_
  refine c_ h2 ?_
  refine A.b rfl fun b9=>?_
  refine y_ ?_
  refine c_ h3 ?_
  refine e_ 40 rfl (x':=AB false) (ab_eq (by simp)) ?_
  refine l_ (Λ':=[.box b3 (cellsR p), .box b2 (encN k)]) ?_
  refine A.valE 16 rfl (x':=AI ((i+1:Nat):Int)) (inc_eq i (by omega)) ?_
  refine u_ (ih (i+1) (by show i+1≤2;omega) (by show 2-(i+1)<2-i;omega))
 ·have hil:i=2:=by
   have: ¬((i:Int)<2):=of_decide_eq_false hc
   omega
  clear hc
  refine y_ ?_
  exact cr_ ha
theorem all_law(k:KN)(hk:WfN k):Pure Tryz.prog gs0 4 [encN k] (AB true):=by
 have ha:=awake21
 have h1:=uAll_p k hk
 have h2:=rAll_p k hk
 have h3:=uCheck_p k hk
 have h4:=rCheck_p k hk
 have hl:=all_len hk
 have hp:=all_paths hk
 have h5:=sameCs_p (allM k) (allM k) (by omega) (fun x hx=>Nat.le_trans (hp x hx) (by omega))
 rw [decide_eq_true rfl] at h5
 obtain ⟨c,b,e,he,hc⟩: ∃(c:CL) (b:Bool) (e:Int),checkM k= .tp [encC c,AB b,AI e]∧c.path.length≤1000:=by
  unfold checkM
  cases hl:allM k with
  |nil=>exact ⟨zeroC,false,errM k,rfl,by simp [zeroC]⟩
  |cons x r=>exact ⟨x,true,0,rfl,hp x (by rw [hl];exact .head _)⟩
 rw [he] at h3 h4
 have h6:=sameC_p c c (by omega)
 rw [decide_eq_true rfl] at h6
 generalize errM k=er at h1 h2
 refine p_ tt_ok Tryz.func4 61 fun w0 h0 F hgs=>?_
 (refine b_ fun bx=>?_;refine y_ ?_)
 refine c_ h1 ?_
 refine c_ h2 ?_
 refine n_ h3 ?_
 (refine b_ fun bx=>?_;refine y_ ?_)
 refine n_ h4 ?_
 (refine b_ fun bx=>?_;refine y_ ?_)
 refine c_ h5 ?_
 refine e_ 43 rfl (x':=AB true) (ab_eq (by simp)) ?_
 refine c_ h6 ?_
 refine e_ 53 rfl (x':=AB true) (ab_eq (by cases b<;>rfl)) ?_
 refine A.valE 58 rfl (x':=AB true) (ab_eq (by simp)) ?_
 exact cr_ ha
end Go.Proofs.YtafcodjilcljeaaGreat
namespace Go.Proofs.YtafcodjilcljeaaGreat
open Go Go.Tp Go.ChangeShapes Go.WideShapes Go.ChangeAt Go.RowKit
theorem own:ownKnob Tryz.prog.godebug=none:=by kernel_rfl
theorem laidOut:laidOutB Tryz.prog=true:=by kernel_rfl
section
variable{H:Type}{enc:TypeId×Value→H}{W:World}{base:Nat}{sp:Nat→Bool}{hd:Bool}
abbrev cellsKl(e:KE):List AV:=[AU8 e.kind,AU8 e.oper,AU8 e.to,AI32 e.n,AI e.v, .sl 6 (encKl e.l) none]
abbrev cellsRl(p:PR):List AV:=[AU8 p.kind,AI p.c,AI p.v,AU8 p.item,plsA p.to,kesA p.e,gsA p.gs,rsA p.l]
abbrev cellsGl(g:GD):List AV:=[AU8 g.kind,AU8 g.cond.kind,AU8 g.cond.oper,AU8 g.cond.to,AI32 g.cond.n,AI g.cond.v,kesA g.cond.l,AI g.c,AU8 g.item,AI g.to.v,kesA g.to.ix,AU8 g.time.kind,AU8 g.time.oper,AU8 g.time.to,AI32 g.time.n,AI g.time.v,kesA g.time.l,rsA g.body]
theorem encKl_ag(l:List KE):encKl l=l.map fun e=> .ag (cellsKl e):=by rw [encKl_map];congr 1;funext e;exact encK_eq e
theorem encRl_ag(l:List PR):encRl l=l.map fun e=> .ag (cellsRl e):=by rw [encRl_map];congr 1;funext e;exact encR_eq e
theorem encGl_ag(l:List GD):encGl l=l.map fun e=> .ag (cellsGl e):=by rw [encGl_map];congr 1;funext e;exact encG_eq e
theorem wfKl_of: ∀{l:List KE},(∀a,a∈l→wfK a)→wfKl l
 | [],_=>by rw [wfKl];trivial
 |x::r,h=>by rw [wfKl];exact ⟨h x (List.mem_cons_self ..),wfKl_of fun a ha=>h a (List.mem_cons_of_mem _ ha)⟩
theorem wfRl_of: ∀{l:List PR},(∀a,a∈l→wfR a)→wfRl l
 | [],_=>by rw [wfRl];trivial
 |x::r,h=>by rw [wfRl];exact ⟨h x (List.mem_cons_self ..),wfRl_of fun a ha=>h a (List.mem_cons_of_mem _ ha)⟩
theorem wfGl_of: ∀{l:List GD},(∀a,a∈l→wfG a)→wfGl l
 | [],_=>by rw [wfGl];trivial
 |x::r,h=>by rw [wfGl];exact ⟨h x (List.mem_cons_self ..),wfGl_of fun a ha=>h a (List.mem_cons_of_mem _ ha)⟩
theorem op_ke: ∀n,Opn enc Tryz.prog W base sp hd n 69 cellsKl wfK
 |0=>Opn.zero
 |n+1=>by
  have ih:=op_ke n
  have hl:=(Opn.sliceA (t:=27) (sz:=6) (bt:=40) (by kernel_rfl) (by kernel_rfl) (by kernel_rfl) (by decide) ih).mono (Nat.le_succ n)
  have hf:=OpnF.cons (f:=⟨"Kind",66,0,false, "", "",0⟩) (Opn.u8 (by kernel_rfl) n) rfl 1 (by kernel_rfl) (OpnF.cons (f:=⟨"Oper",67,1,false, "", "",1⟩) (Opn.u8 (by kernel_rfl) n) rfl 1 (by kernel_rfl)
   (OpnF.cons (f:=⟨"To",25,2,false, "", "",2⟩) (Opn.u8 (by kernel_rfl) n) rfl 1 (by kernel_rfl) (OpnF.cons (f:=⟨"N",21,3,false, "", "",4⟩) (Opn.i32 (by kernel_rfl) n) rfl 1 (by kernel_rfl)
   (OpnF.cons (f:=⟨"V",3,4,false, "", "",8⟩) (Opn.i64 (by kernel_rfl) n) rfl 1 (by kernel_rfl) (OpnF.cons (f:=⟨"L",27,5,false, "", "",16⟩) hl rfl 1 (by kernel_rfl) OpnF.nil)))))
  refine (Opn.struct (t:=69) (sz:=6) (fs:= #[⟨"Kind",66,0,false, "", "",0⟩,⟨"Oper",67,1,false, "", "",1⟩,⟨"To",25,2,false, "", "",2⟩,⟨"N",21,3,false, "", "",4⟩,⟨"V",3,4,false, "", "",8⟩,⟨"L",27,5,false, "", "",16⟩]) (by kernel_rfl) (by kernel_rfl) hf (by kernel_rfl)).map (fun p=>⟨p.1,p.2.1,p.2.2.1,p.2.2.2.1,p.2.2.2.2.1,p.2.2.2.2.2.1⟩) (fun p=>?_) (fun p hp=>?_)
  ·show cellsKl _=[_]++([_]++([_]++([_]++([_]++([AV.sl 6 _ none]++[])))))
   rw [←encKl_ag];rfl
  ·obtain ⟨k,o,t,n,s,l,u⟩:=p
   obtain ⟨h1,h2,h3,h4,h5,⟨h6,h7⟩,_⟩:=hp
   rw [wfK]
   exact ⟨⟨h1,h2,h3,h4,h5⟩,wfKl_of h6⟩
theorem op_kes(n:Nat):Opn enc Tryz.prog W base sp hd n 27 (fun l:List KE=>[kesA l]) wfKl:=by
 refine ((Opn.sliceA (t:=27) (sz:=6) (bt:=40) (by kernel_rfl) (by kernel_rfl) (by kernel_rfl) (by decide) (op_ke n)).mono (Nat.le_succ n)).map (fun l=>l) (fun l=>?_) (fun l h=>wfKl_of h.1)
 show [AV.sl 6 (encKl l) none]=_
 rw [encKl_ag]
theorem op_pl(n:Nat):Opn enc Tryz.prog W base sp hd n 108 (fun p:PL=>[AI p.v,kesA p.ix]) wfPl:=by
 have hf:=OpnF.cons (f:=⟨"V",3,0,false, "", "",0⟩) (Opn.i64 (enc:=enc) (P:=Tryz.prog) (W:=W) (base:=base) (sp:=sp) (hd:=hd) (by kernel_rfl) n) rfl 1 (by kernel_rfl) (OpnF.cons (f:=⟨"Index",27,1,false, "", "",8⟩) (op_kes n) rfl 1 (by kernel_rfl) OpnF.nil)
 exact ((Opn.struct (t:=108) (sz:=2) (fs:= #[⟨"V",3,0,false, "", "",0⟩,⟨"Index",27,1,false, "", "",8⟩]) (by kernel_rfl) (by kernel_rfl) hf (by kernel_rfl)).mono (Nat.le_succ n)).map (fun p=>⟨p.1,p.2.1⟩) (fun p=>rfl) (fun p hp=>hp.2.1)
theorem op_pls(n:Nat):Opn enc Tryz.prog W base sp hd n 26 (fun l:List PL=>[plsA l]) (fun l=>(∀t,t∈l→wfPl t)∧l.length≤281474976710656):=
 ((Opn.sliceA (t:=26) (sz:=2) (bt:=32) (by kernel_rfl) (by kernel_rfl) (by kernel_rfl) (by decide) (op_pl n)).mono (Nat.le_succ n)).map (fun l=>l) (fun l=>rfl) (fun l h=>⟨h.1,by have:=h.2;unfold reachBytes at this;omega⟩)
abbrev OkR(p:PR):Prop:=wfR p
abbrev OkG(g:GD):Prop:=wfG g
theorem op_prs{n:Nat}(ih:Opn enc Tryz.prog W base sp hd n 31 cellsRl OkR):Opn enc Tryz.prog W base sp hd n 29 (fun l:List PR=>[rsA l]) (fun l=>(∀t,t∈l→OkR t)∧l.length≤281474976710656):=by
 refine ((Opn.sliceA (t:=29) (sz:=8) (bt:=128) (by kernel_rfl) (by kernel_rfl) (by kernel_rfl) (by decide) ih).mono (Nat.le_succ n)).map (fun l=>l) (fun l=>?_) (fun l h=>⟨h.1,by have:=h.2;unfold reachBytes at this;omega⟩)
 show [AV.sl 8 (encRl l) none]=_
 rw [encRl_ag]
theorem op_gd{n:Nat}(ih:Opn enc Tryz.prog W base sp hd n 31 cellsRl OkR):Opn enc Tryz.prog W base sp hd n 135 cellsGl OkG:=by
 have hf:=OpnF.cons (f:=⟨"Kind",133,0,false, "", "",0⟩) (Opn.u8 (enc:=enc) (P:=Tryz.prog) (W:=W) (base:=base) (sp:=sp) (hd:=hd) (by kernel_rfl) n) rfl 1 (by kernel_rfl) (OpnF.cons (f:=⟨"Cond",69,1,false, "", "",8⟩) (op_ke n) rfl 6 (by kernel_rfl)
  (OpnF.cons (f:=⟨"C",3,7,false, "", "",48⟩) (Opn.i64 (by kernel_rfl) n) rfl 1 (by kernel_rfl) (OpnF.cons (f:=⟨"Item",25,8,false, "", "",56⟩) (Opn.u8 (by kernel_rfl) n) rfl 1 (by kernel_rfl)
  (OpnF.cons (f:=⟨"To",108,9,false, "", "",64⟩) (op_pl n) rfl 2 (by kernel_rfl) (OpnF.cons (f:=⟨"Time",69,11,false, "", "",96⟩) (op_ke n) rfl 6 (by kernel_rfl)
  (OpnF.cons (f:=⟨"Body",29,17,false, "", "",136⟩) (op_prs ih) rfl 1 (by kernel_rfl) OpnF.nil))))))
 refine ((Opn.struct (t:=135) (sz:=18) (fs:= #[⟨"Kind",133,0,false, "", "",0⟩,⟨"Cond",69,1,false, "", "",8⟩,⟨"C",3,7,false, "", "",48⟩,⟨"Item",25,8,false, "", "",56⟩,⟨"To",108,9,false, "", "",64⟩,⟨"Time",69,11,false, "", "",96⟩,⟨"Body",29,17,false, "", "",136⟩]) (by kernel_rfl) (by kernel_rfl) hf (by kernel_rfl)).mono (Nat.le_succ n)).map (fun p=>⟨p.1,p.2.1,p.2.2.1,p.2.2.2.1,p.2.2.2.2.1,p.2.2.2.2.2.1,p.2.2.2.2.2.2.1⟩) (fun p=>rfl) (fun p hp=>?_)
 obtain ⟨h1,h2,h3,h4,h5,h6,⟨h7,h8⟩,_⟩:=hp
 have h9:=wfRl_of h7
 show wfG _
 rw [wfG];exact ⟨⟨h2,h6,h5⟩,h9⟩
theorem op_gds{n:Nat}(ih:Opn enc Tryz.prog W base sp hd n 31 cellsRl OkR):Opn enc Tryz.prog W base sp hd n 28 (fun l:List GD=>[gsA l]) (fun l=>(∀t,t∈l→OkG t)∧l.length≤281474976710656):=by
 refine ((Opn.sliceA (t:=28) (sz:=18) (bt:=160) (by kernel_rfl) (by kernel_rfl) (by kernel_rfl) (by decide) (op_gd ih)).mono (Nat.le_succ n)).map (fun l=>l) (fun l=>?_) (fun l h=>⟨h.1,by have:=h.2;unfold reachBytes at this;omega⟩)
 show [AV.sl 18 (encGl l) none]=_
 rw [encGl_ag]
theorem op_pr: ∀n,Opn enc Tryz.prog W base sp hd n 31 cellsRl OkR
 |0=>Opn.zero
 |n+1=>by
  have ih:=op_pr n
  have hf:=OpnF.cons (f:=⟨"Kind",24,0,false, "", "",0⟩) (Opn.u8 (enc:=enc) (P:=Tryz.prog) (W:=W) (base:=base) (sp:=sp) (hd:=hd) (by kernel_rfl) n) rfl 1 (by kernel_rfl) (OpnF.cons (f:=⟨"C",3,1,false, "", "",8⟩) (Opn.i64 (by kernel_rfl) n) rfl 1 (by kernel_rfl)
   (OpnF.cons (f:=⟨"V",3,2,false, "", "",16⟩) (Opn.i64 (by kernel_rfl) n) rfl 1 (by kernel_rfl) (OpnF.cons (f:=⟨"Item",25,3,false, "", "",24⟩) (Opn.u8 (by kernel_rfl) n) rfl 1 (by kernel_rfl)
   (OpnF.cons (f:=⟨"To",26,4,false, "", "",32⟩) (op_pls n) rfl 1 (by kernel_rfl) (OpnF.cons (f:=⟨"E",27,5,false, "", "",56⟩) (op_kes n) rfl 1 (by kernel_rfl)
   (OpnF.cons (f:=⟨"Guards",28,6,false, "", "",80⟩) (op_gds ih) rfl 1 (by kernel_rfl) (OpnF.cons (f:=⟨"L",29,7,false, "", "",104⟩) (op_prs ih) rfl 1 (by kernel_rfl) OpnF.nil)))))))
  refine (Opn.struct (t:=31) (sz:=8) (fs:= #[⟨"Kind",24,0,false, "", "",0⟩,⟨"C",3,1,false, "", "",8⟩,⟨"V",3,2,false, "", "",16⟩,⟨"Item",25,3,false, "", "",24⟩,⟨"To",26,4,false, "", "",32⟩,⟨"E",27,5,false, "", "",56⟩,⟨"Guards",28,6,false, "", "",80⟩,⟨"L",29,7,false, "", "",104⟩]) (by kernel_rfl) (by kernel_rfl) hf (by kernel_rfl)).map (fun p=>⟨p.1,p.2.1,p.2.2.1,p.2.2.2.1,p.2.2.2.2.1,p.2.2.2.2.2.1,p.2.2.2.2.2.2.1,p.2.2.2.2.2.2.2.1⟩) (fun p=>rfl) (fun p hp=>?_)
  obtain ⟨h1,h2,h3,h4,⟨h5,h5'⟩,h6,⟨h7,h7'⟩,⟨h8,h8'⟩,_⟩:=hp
  have h9:=wfRl_of h8
  have h10:=wfGl_of h7
  show wfR _
  rw [wfR];exact ⟨⟨h5,h6,h5',h7',h8'⟩,h10,h9⟩
theorem op_vars(n:Nat):Opn enc Tryz.prog W base sp hd n 22 (fun l:List KV=>[varsA l]) (fun l=>l.length≤281474976710656):=by
 have hf:=OpnF.cons (f:=⟨"Kind",25,0,false, "", "",0⟩) (Opn.u8 (enc:=enc) (P:=Tryz.prog) (W:=W) (base:=base) (sp:=sp) (hd:=hd) (by kernel_rfl) n) rfl 1 (by kernel_rfl) (OpnF.cons (f:=⟨"Dim",3,1,false, "", "",8⟩) (Opn.i64 (by kernel_rfl) n) rfl 1 (by kernel_rfl) OpnF.nil)
 have hv:Opn enc Tryz.prog W base sp hd n 81 (fun v:KV=>[AU8 v.kind,AI v.dim]) (fun _=>True):=((Opn.struct (t:=81) (sz:=2) (fs:= #[⟨"Kind",25,0,false, "", "",0⟩,⟨"Dim",3,1,false, "", "",8⟩]) (by kernel_rfl) (by kernel_rfl) hf (by kernel_rfl)).mono (Nat.le_succ n)).map (fun p=>⟨p.1,p.2.1⟩) (fun p=>rfl) (fun p hp=>trivial)
 exact ((Opn.sliceA (t:=22) (sz:=2) (bt:=16) (by kernel_rfl) (by kernel_rfl) (by kernel_rfl) (by decide) hv).mono (Nat.le_succ n)).map (fun l=>l) (fun l=>rfl) (fun l h=>by have:=h.2;unfold reachBytes at this;omega)
theorem op_chans(n:Nat):Opn enc Tryz.prog W base sp hd n 23 (fun l:List Int=>[chsA l]) (fun l=>l.length≤281474976710656):=
 ((Opn.slice1 (t:=23) (e:=104) (bt:=1) (by kernel_rfl) (by kernel_rfl) (by kernel_rfl) (Opn.u8 (by kernel_rfl) n)).mono (Nat.le_succ n)).map (fun l=>l) (fun l=>rfl) (fun l h=>by have:=h.2;unfold reachBytes at this;omega)
theorem op_ints(n:Nat):Opn enc Tryz.prog W base sp hd n 32 (fun l:List Int=>[intsA l]) (fun l=>l.length≤281474976710656):=
 ((Opn.slice1 (t:=32) (e:=3) (bt:=8) (by kernel_rfl) (by kernel_rfl) (by kernel_rfl) (Opn.i64 (by kernel_rfl) n)).mono (Nat.le_succ n)).map (fun l=>l) (fun l=>rfl) (fun l h=>by have:=h.2;unfold reachBytes at this;omega)
abbrev cellsN(k:KN):List AV:=[varsA k.vars,chsA k.chans,AU8 k.root.kind,AI k.root.c,AI k.root.v,AU8 k.root.item,plsA k.root.to,kesA k.root.e,gsA k.root.gs,rsA k.root.l,intsA k.procs]
theorem op_kernel(n:Nat):Opn enc Tryz.prog W base sp hd n 34 cellsN WfN:=by
 have hf:=OpnF.cons (f:=⟨"Vars",22,0,false, "", "",0⟩) (op_vars (enc:=enc) (W:=W) (base:=base) (sp:=sp) (hd:=hd) n) rfl 1 (by kernel_rfl) (OpnF.cons (f:=⟨"Chans",23,1,false, "", "",24⟩) (op_chans n) rfl 1 (by kernel_rfl)
  (OpnF.cons (f:=⟨"Root",31,2,false, "", "",48⟩) (op_pr n) rfl 8 (by kernel_rfl) (OpnF.cons (f:=⟨"Procs",32,10,false, "", "",176⟩) (op_ints n) rfl 1 (by kernel_rfl) OpnF.nil)))
 refine ((Opn.struct (t:=34) (sz:=11) (fs:= #[⟨"Vars",22,0,false, "", "",0⟩,⟨"Chans",23,1,false, "", "",24⟩,⟨"Root",31,2,false, "", "",48⟩,⟨"Procs",32,10,false, "", "",176⟩]) (by kernel_rfl) (by kernel_rfl) hf (by kernel_rfl)).mono (Nat.le_succ n)).map (fun p=>⟨p.1,p.2.1,p.2.2.1,p.2.2.2.1⟩) (fun p=>rfl) (fun p hp=>?_)
 obtain ⟨h1,h2,h3,h4,_⟩:=hp
 exact ⟨h1,h2,h4,h3⟩
theorem argKern{v:Value}{d:DataW H}{p:List MemPlace}(hval:Value.okWide Tryz.prog W .any base 34 v)(h:DataW.Trod enc Tryz.prog W 0 (fun _=>true) true 34 v d p)(hw:Wt Tryz.prog 34 d):
 ∃k:KN,WfN k∧Rp (hOf W) (encN k) v:=by
 obtain ⟨k,h1,h2⟩:=arg_struct (fs:= #[⟨"Vars",22,0,false, "", "",0⟩,⟨"Chans",23,1,false, "", "",24⟩,⟨"Root",31,2,false, "", "",48⟩,⟨"Procs",32,10,false, "", "",176⟩]) (by kernel_rfl) op_kernel hval h hw
 exact ⟨k,h1,h2⟩
theorem argProc{v:Value}{d:DataW H}{p:List MemPlace}(hval:Value.okWide Tryz.prog W .any base 31 v)(h:DataW.Trod enc Tryz.prog W 0 (fun _=>true) true 31 v d p)(hw:Wt Tryz.prog 31 d):
 ∃p:PR,wfR p∧Rp (hOf W) (.ag (cellsRl p)) v:=by
 obtain ⟨k,h1,h2⟩:=arg_struct (fs:= #[⟨"Kind",24,0,false, "", "",0⟩,⟨"C",3,1,false, "", "",8⟩,⟨"V",3,2,false, "", "",16⟩,⟨"Item",25,3,false, "", "",24⟩,⟨"To",26,4,false, "", "",32⟩,⟨"E",27,5,false, "", "",56⟩,⟨"Guards",28,6,false, "", "",80⟩,⟨"L",29,7,false, "", "",104⟩]) (by kernel_rfl) op_pr hval h hw
 exact ⟨k,h1,h2⟩
end
end Go.Proofs.YtafcodjilcljeaaGreat
