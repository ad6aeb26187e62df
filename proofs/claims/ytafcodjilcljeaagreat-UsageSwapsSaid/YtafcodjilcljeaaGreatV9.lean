/-
  Texts P21d Q21ah Q21ai. Conditions: as each theorem says.
-/
import Derived.Test.YtafcodjilcljeaaGreatV3
import Derived.Test.YtafcodjilcljeaaGreatV6
import Derived.Test.YtafcodjilcljeaaGreatV8
set_option linter.unusedVariables false
set_option linter.unusedSimpArgs false
set_option maxRecDepth 100000
set_option maxHeartbeats 4000000
namespace Go.Proofs.YtafcodjilcljeaaGreat
open Go Go.Tp
def mergedM:List EL→List EL→List EL
 | [],b=>b
 |x::a,[]=>x::a
 |x::a,y::b=>if ltE x y=true then x::mergedM a (y::b) else if x=y then mergedM a (y::b) else y::mergedM (x::a) b
termination_by a b=>a.length+b.length
theorem merged_nil(a:List EL):mergedM a []=a:=by
 cases a with
 |nil=>rw [mergedM]
 |cons x r=>rw [mergedM]
theorem merged_cons(x y:EL)(a b:List EL):mergedM (x::a) (y::b)=if ltE x y=true then x::mergedM a (y::b) else if x=y then mergedM a (y::b) else y::mergedM (x::a) b:=by rw [mergedM]
theorem mem_merged{z:EL}: ∀(n:Nat) (a b:List EL),a.length+b.length≤n→(z∈mergedM a b↔z∈a∨z∈b)
 |_,[],b,_=>by rw [mergedM];simp
 |_,x::a,[],_=>by rw [mergedM];simp
 |0,x::a,y::b,h=>by simp at h
 |n+1,x::a,y::b,h=>by
  simp only [List.length_cons] at h
  have i1:=mem_merged (z:=z) n a (y::b) (by simp only [List.length_cons];omega)
  have i2:=mem_merged (z:=z) n (x::a) b (by simp only [List.length_cons];omega)
  rw [merged_cons]
  split
  ·simp only [List.mem_cons] at i1⊢
   rw [i1,or_assoc]
  ·split
   ·rename_i h1
    subst h1
    simp only [List.mem_cons] at i1⊢
    rw [i1]
    constructor
    ·rintro (h|h|h)
     ·exact .inl (.inr h)
     ·exact .inr (.inl h)
     ·exact .inr (.inr h)
    ·rintro ((h|h)|h|h)
     ·exact .inr (.inl h)
     ·exact .inl h
     ·exact .inr (.inl h)
     ·exact .inr (.inr h)
   ·simp only [List.mem_cons] at i2⊢
    rw [i2]
    constructor
    ·rintro (h|(h|h)|h)
     ·exact .inr (.inl h)
     ·exact .inl (.inl h)
     ·exact .inl (.inr h)
     ·exact .inr (.inr h)
    ·rintro ((h|h)|h|h)
     ·exact .inr (.inl (.inl h))
     ·exact .inr (.inl (.inr h))
     ·exact .inl h
     ·exact .inr (.inr h)
theorem asc_merged: ∀(n:Nat) (a b:List EL),a.length+b.length≤n→AscL ltE a→AscL ltE b→AscL ltE (mergedM a b)
 |_,[],b,_,_,hb=>by rw [mergedM];exact hb
 |_,x::a,[],_,ha,_=>by rw [mergedM];exact ha
 |0,x::a,y::b,h,_,_=>by simp at h
 |n+1,x::a,y::b,h,ha,hb=>by
  simp only [List.length_cons] at h
  have ha':=List.pairwise_cons.1 ha
  have hb':=List.pairwise_cons.1 hb
  rw [merged_cons]
  split
  ·rename_i h1
   refine List.pairwise_cons.2 ⟨fun z hz=>?_,asc_merged n a (y::b) (by simp only [List.length_cons];omega) ha'.2 hb⟩
   rcases (mem_merged _ a (y::b) (Nat.le_refl _)).1 hz with hz|hz
   ·exact ha'.1 z hz
   ·rcases List.mem_cons.1 hz with rfl|hz
    ·exact h1
    ·exact ord_el.trans _ _ _ h1 (hb'.1 z hz)
  ·rename_i h1
   split
   ·exact asc_merged n a (y::b) (by simp only [List.length_cons];omega) ha'.2 hb
   ·rename_i h2
    have h3:ltE y x=true:=by
     cases hq:ltE y x with
     |true=>rfl
     |false=>exact absurd (ord_el.tri x y (by simpa using h1) hq) h2
    refine List.pairwise_cons.2 ⟨fun z hz=>?_,asc_merged n (x::a) b (by simp only [List.length_cons];omega) ha hb'.2⟩
    rcases (mem_merged _ (x::a) b (Nat.le_refl _)).1 hz with hz|hz
    ·rcases List.mem_cons.1 hz with rfl|hz
     ·exact h3
     ·exact ord_el.trans _ _ _ h3 (ha'.1 z hz)
    ·exact hb'.1 z hz
theorem merged_len: ∀(n:Nat) (a b:List EL),a.length+b.length≤n→(mergedM a b).length≤a.length+b.length
 |_,[],b,_=>by rw [mergedM];simp
 |_,x::a,[],_=>by rw [mergedM];simp
 |0,x::a,y::b,h=>by simp at h
 |n+1,x::a,y::b,h=>by
  simp only [List.length_cons] at h
  have i1:=merged_len n a (y::b) (by simp only [List.length_cons];omega)
  have i2:=merged_len n (x::a) b (by simp only [List.length_cons];omega)
  simp only [List.length_cons] at i1 i2
  rw [merged_cons]
  split
  ·simp only [List.length_cons];omega
  ·split
   ·simp only [List.length_cons];omega
   ·simp only [List.length_cons];omega
theorem asc_nil{α:Type}{lt:α→α→Bool}:AscL lt ([]:List α):=List.Pairwise.nil
theorem canE_asc(l:List EL):AscL ltE (canE l):=asc_insAll ord_el asc_nil
theorem canI_asc(l:List Int):AscL ltI (canI l):=asc_insAll ord_int asc_nil
theorem canE_mem{l:List EL}{z:EL}:z∈canE l↔z∈l:=by unfold canE;rw [mem_insAll];simp
theorem canI_mem{l:List Int}{z:Int}:z∈canI l↔z∈l:=by unfold canI;rw [mem_insAll];simp
theorem canE_union(a b:List EL):canE (a++b)=mergedM (canE a) (canE b):=
 asc_eq ord_el (canE_asc _) (asc_merged _ _ _ (Nat.le_refl _) (canE_asc _) (canE_asc _)) fun z=>by
  rw [mem_merged _ _ _ (Nat.le_refl _),canE_mem,canE_mem,canE_mem,List.mem_append]
def chE(c:Int):EL:=(c,0)
theorem asc_chE{l:List Int}(h:AscL ltI l):AscL ltE (l.map chE):=by
 refine List.pairwise_map.2 (h.imp fun {a b} h=>?_)
 simp only [ltI,decide_eq_true_eq] at h
 simp [ltE,chE,h]
theorem canI_union(a b:List Int):(canI (a++b)).map chE=mergedM ((canI a).map chE) ((canI b).map chE):=
 asc_eq ord_el (asc_chE (canI_asc _)) (asc_merged _ _ _ (Nat.le_refl _) (asc_chE (canI_asc _)) (asc_chE (canI_asc _))) fun z=>by
  rw [mem_merged _ _ _ (Nat.le_refl _)]
  simp only [List.mem_map,canI_mem,List.mem_append]
  constructor
  ·rintro ⟨c,h|h,rfl⟩
   ·exact .inl ⟨c,h,rfl⟩
   ·exact .inr ⟨c,h,rfl⟩
  ·rintro (⟨c,h,rfl⟩|⟨c,h,rfl⟩)
   ·exact ⟨c, .inl h,rfl⟩
   ·exact ⟨c, .inr h,rfl⟩
theorem raw_two(vs:List KV)(k:Int)(hk:k=9∨k=10)(p q:PR):rawR vs ⟨k,0,0,0,[],[],[],[p,q]⟩=(rawR vs p).add (rawR vs q):=by
 have h3:k≠3:=by omega
 have h5:k≠5:=by omega
 have h6:k≠6:=by omega
 rw [rawR,rawRl,rawRl,rawRl,rawGl,ownU,if_neg h3,if_neg h5,if_neg h6]
 simp [plsU,RU.add,RU.nil,rdKl]
theorem uses_two(vs:List KV)(k:Int)(hk:k=9∨k=10)(p q:PR):let u:=usesM vs p;let v:=usesM vs q;let w:=usesM vs ⟨k,0,0,0,[],[],[],[p,q]⟩
 w.r=mergedM u.r v.r∧w.w=mergedM u.w v.w∧w.i.map chE=mergedM (u.i.map chE) (v.i.map chE)∧w.o.map chE=mergedM (u.o.map chE) (v.o.map chE):=by
 simp only [usesM,raw_two vs k hk,canU,RU.add]
 exact ⟨canE_union _ _,canE_union _ _,canI_union _ _,canI_union _ _⟩
def shareM(a b:List EL):Bool:=a.any fun x=>b.any fun y=>decide (x.1=y.1)&&(decide (x.2=y.2)||decide (x.2= -1)||decide (y.2= -1))
theorem evEl(a b c d:Int):EqSt Tryz.prog 49 [.int .i64 a, .int .i64 b] [.int .i64 c, .int .i64 d] (a==c&&b==d) where
 guard:=by kernel_rfl
 run:=fun w=>by
  have hS:Tryz.prog.underlying 49=some (.struct (Tryz.prog.fieldsOf 49)):=by kernel_rfl
  have hF:(Tryz.prog.fieldsOf 49).toList=(#[⟨"V",3,0,false, "", "",0⟩,⟨"I",3,1,false, "", "",8⟩]:Array Field).toList:=by kernel_rfl
  have hp:Tryz.prog.stoodInHeld 49=false:=by kernel_rfl
  have u1:Tryz.prog.underlying 3=some (.int .i64):=by kernel_rfl
  have k1:=TT.Ok.get tt_ok (show tt.get 3=some _ from rfl)
  have p1: ∀(x y:Int),(part 3 ⟨[.int .i64 x, .int .i64 y]⟩ 0).run Tryz.prog w= .ok (.int .i64 x) w:=fun x y=>run_part k1 rfl
  have p2: ∀(x y:Int),(part 3 ⟨[.int .i64 x, .int .i64 y]⟩ 1).run Tryz.prog w= .ok (.int .i64 y) w:=fun x y=>run_part k1 rfl
  have q1:=run_equalIn_int (P:=Tryz.prog) w 9998 3 .i64 .i64 a c u1
  have q2:=run_equalIn_int (P:=Tryz.prog) w 9998 3 .i64 .i64 b d u1
  rw [show (10000:Nat)=9999+1 from rfl,run_equalIn_agg w 9999 _ _ _ hS hp,hF]
  simp only [Op.eqFields,ne_eq,Sem.run_bind,Sem.run_ite,p1,p2,q1,q2,Result.andThen_ok,Sem.run_pure]
  cases h1:(a==c)<;>cases h2:(b==d)<;>simp
abbrev elL(a:List EL):AV:= .sl 2 (a.map encE) none
abbrev MgE(s:List EL×List EL×List EL×Value):AEnv:=⟨[(0,elL s.1),(1,elL s.2.1),(5, .ms s.2.2.2 2 s.2.2.1.length)],[]⟩
abbrev MgL(s:List EL×List EL×List EL×Value):List AEnt:=[.row 2 s.2.2.2 (s.2.2.1.map encE)]
theorem lmerged_p(a b:List EL)(hab:a.length+b.length≤1000000):Pure Tryz.prog gs0 22 [elL a,elL b] (elL (mergedM a b)):=by
 have hlen:=merged_len _ a b (Nat.le_refl _)
 refine Exists.elim (show∃T,T=mergedM a b from ⟨_,rfl⟩) fun T hT=>?_
 rw [←hT] at hlen⊢
 refine p_ tt_ok Tryz.func22 88 fun w0 h0 F hgs=>?_
 refine y_ ?_
 refine A.emptyRow 5 2 rfl fun z0=>?_
 refine A.keep [0,1,5] rfl ?_
 refine A.loopP (ι:=List EL×List EL×List EL×Value) (fun s=>(MgE s,MgL s)) (fun s=>s.2.2.1++mergedM s.1 s.2.1=T) (fun s=>s.1.length+s.2.1.length) (a,b,[],z0) (by rw [hT];rfl) rfl fun s hs ih=>?_
 clear hT
 obtain ⟨a,b,o,z⟩:=s
 simp only at hs ih
 show A _ _ (MgE (a,b,o,z)) (MgL (a,b,o,z))
 simp only [MgE,MgL]
 have hol:o.length≤1000000:=by rw [←hs,List.length_append] at hlen;omega
 cases a with
 |nil=>
  cases b with
  |nil=>
   rw [mergedM,List.append_nil] at hs
   subst hs
   clear ih
   refine y_ ?_
   refine A.valE 9 rfl (x':=AB false) (ab_eq (by simp)) ?_
   refine A.valE 13 rfl (x':=AB false) (ab_eq (by simp)) ?_
   refine A.freezeRow 4 rfl ?_
   exact r_
  |cons y b=>
   rw [mergedM,show o++y::b=(o++[y])++mergedM [] b by rw [mergedM,List.append_assoc];rfl] at hs
   refine y_ ?_
   refine A.valE 9 rfl (x':=AB false) (ab_eq (by simp)) ?_
   refine e_ 13 rfl (x':=AB true) (ab_eq (by simp)) ?_
   (refine d_ 36 [0,1,2,3,4,5,6,7,8,9,10,11,12,13,14,15,16,17,18,19,20,21,22,23,24,25,26,27,28,29,30,31,32,33,34,35] [] ?_)
   refine WA.valE 26 rfl (x':=AB false) (ab_eq (by simp;omega)) ?_
   refine WA.valE 30 rfl (x':=AB false) (ab_eq (by simp)) ?_
   refine z_ ?_
   refine d_ 10 [0,1,2,3,4,5,6,7,8,9] [] ?_
   refine WA.valE 76 rfl (x':=AB false) (ab_eq (by simp)) ?_
   refine z_ ?_
   (refine A.drawL [(5, .row 2 z (o.map encE))] 9 [0,1,2,3,6,7,4,5,8] (fun i=>if i=5 then [5,4] else []) [] (List.Perm.refl _) rfl rfl (by rfl) (by kernel_rfl) (by kernel_rfl) ?_;refine w_ ?_;refine iw_ rfl rfl rfl ?_;refine WA.slice (ys:=b.map encE) rfl rfl rfl rfl rfl rfl rfl rfl rfl rfl (by decide) (by rw [List.length_map,List.length_cons];omega) (by omega) (by simp [List.take_of_length_le]) rfl ?_;refine WA.lit rfl rfl rfl rfl rfl rfl rfl fun bw=>?_;refine WA.appendR rfl rfl rfl rfl rfl rfl rfl rfl rfl rfl rfl rfl rfl rfl rfl rfl rfl rfl rfl rfl (.pub (j:=4) rfl rfl (.sub .refl)) (by show ((o.map encE).length+1)*2≤_;rw [List.length_map];omega) (by show ((o.map encE).length+1)*2*16≤_;rw [List.length_map];omega) fun z1=>?_;refine w_ ?_;refine WA.nil (l:=[_]) rfl ?_;refine y_ ?_;refine A.valE 5 rfl (x':= .ms z1 2 (o++[y]).length) (by rw [List.length_append,List.length_map];rfl) ?_;refine A.entsEq (Λ':=[.row 2 z1 ((o++[y]).map encE)]) (by rw [List.map_append];rfl) ?_)
   refine u_ (ih ([],b,o++[y],z1) hs (by show 0+b.length<0+(b.length+1);omega))
 |cons x a=>
  cases b with
  |nil=>
   rw [mergedM,show o++x::a=(o++[x])++mergedM a [] by rw [merged_nil,List.append_assoc];rfl] at hs
   refine y_ ?_
   refine e_ 9 rfl (x':=AB true) (ab_eq (by simp)) ?_
   (refine d_ 36 [0,1,2,3,4,5,6,7,8,9,10,11,12,13,14,15,16,17,18,19,20,21,22,23,24,25,26,27,28,29,30,31,32,33,34,35] [] ?_)
   refine WA.valE 26 rfl (x':=AB true) (ab_eq (by simp)) ?_
   refine z_ ?_
   (refine A.drawL [(5, .row 2 z (o.map encE))] 9 [0,1,2,3,6,7,4,5,8] (fun i=>if i=5 then [5,4] else []) [] (List.Perm.refl _) rfl rfl (by rfl) (by kernel_rfl) (by kernel_rfl) ?_;refine w_ ?_;refine iw_ rfl rfl rfl ?_;refine WA.slice (ys:=a.map encE) rfl rfl rfl rfl rfl rfl rfl rfl rfl rfl (by decide) (by rw [List.length_map,List.length_cons];omega) (by omega) (by simp [List.take_of_length_le]) rfl ?_;refine WA.lit rfl rfl rfl rfl rfl rfl rfl fun bw=>?_;refine WA.appendR rfl rfl rfl rfl rfl rfl rfl rfl rfl rfl rfl rfl rfl rfl rfl rfl rfl rfl rfl rfl (.pub (j:=4) rfl rfl (.sub .refl)) (by show ((o.map encE).length+1)*2≤_;rw [List.length_map];omega) (by show ((o.map encE).length+1)*2*16≤_;rw [List.length_map];omega) fun z1=>?_;refine w_ ?_;refine WA.nil (l:=[_]) rfl ?_;refine y_ ?_;refine A.valE 5 rfl (x':= .ms z1 2 (o++[x]).length) (by rw [List.length_append,List.length_map];rfl) ?_;refine A.entsEq (Λ':=[.row 2 z1 ((o++[x]).map encE)]) (by rw [List.map_append];rfl) ?_)
   refine u_ (ih (a,[],o++[x],z1) hs (by show a.length+0<(a.length+1)+0;omega))
  |cons y b=>
   rw [merged_cons] at hs
   obtain ⟨x1,x2⟩:=x
   obtain ⟨y1,y2⟩:=y
   refine y_ ?_
   refine e_ 9 rfl (x':=AB true) (ab_eq (by simp)) ?_
   (refine d_ 36 [0,1,2,3,4,5,6,7,8,9,10,11,12,13,14,15,16,17,18,19,20,21,22,23,24,25,26,27,28,29,30,31,32,33,34,35] [] ?_)
   refine WA.valE 26 rfl (x':=AB false) (ab_eq (by simp;omega)) ?_
   refine ew_ 30 rfl (x':=AB true) (ab_eq (by simp)) ?_
   refine iw_ rfl rfl rfl ?_
   refine iw_ rfl rfl rfl ?_
   by_cases c1:x1<y1
   ·rw [if_pos (show ltE (x1,x2) (y1,y2)=true by simp [ltE,c1]),show o++(x1,x2)::mergedM a ((y1,y2)::b)=(o++[(x1,x2)])++mergedM a ((y1,y2)::b) by rw [List.append_assoc];rfl] at hs
    refine ew_ 40 rfl (x':=AB true) (ab_eq (by simpa using c1)) ?_
    refine z_ ?_
    (refine A.drawL [(5, .row 2 z (o.map encE))] 9 [0,1,2,3,6,7,4,5,8] (fun i=>if i=5 then [5,4] else []) [] (List.Perm.refl _) rfl rfl (by rfl) (by kernel_rfl) (by kernel_rfl) ?_;refine w_ ?_;refine iw_ rfl rfl rfl ?_;refine WA.slice (ys:=a.map encE) rfl rfl rfl rfl rfl rfl rfl rfl rfl rfl (by decide) (by rw [List.length_map,List.length_cons];omega) (by omega) (by simp [List.take_of_length_le]) rfl ?_;refine WA.lit rfl rfl rfl rfl rfl rfl rfl fun bw=>?_;refine WA.appendR rfl rfl rfl rfl rfl rfl rfl rfl rfl rfl rfl rfl rfl rfl rfl rfl rfl rfl rfl rfl (.pub (j:=4) rfl rfl (.sub .refl)) (by show ((o.map encE).length+1)*2≤_;rw [List.length_map];omega) (by show ((o.map encE).length+1)*2*16≤_;rw [List.length_map];omega) fun z1=>?_;refine w_ ?_;refine WA.nil (l:=[_]) rfl ?_;refine y_ ?_;refine A.valE 5 rfl (x':= .ms z1 2 (o++[(x1,x2)]).length) (by rw [List.length_append,List.length_map];rfl) ?_;refine A.entsEq (Λ':=[.row 2 z1 ((o++[(x1,x2)]).map encE)]) (by rw [List.map_append];rfl) ?_)
    refine u_ (ih (a,(y1,y2)::b,o++[(x1,x2)],z1) hs (by show a.length+(b.length+1)<(a.length+1)+(b.length+1);omega))
   refine ew_ 40 rfl (x':=AB false) (ab_eq (by simpa using c1)) ?_
   refine iw_ rfl rfl rfl ?_
   refine iw_ rfl rfl rfl ?_
   by_cases c2:x1=y1
   ·refine ew_ 50 rfl (x':=AB true) (ab_eq (by simpa using c2)) ?_
    refine iw_ rfl rfl rfl ?_
    refine iw_ rfl rfl rfl ?_
    refine z_ ?_
    by_cases c3:x2<y2
    ·rw [if_pos (show ltE (x1,x2) (y1,y2)=true by simp [ltE,c2,c3]),show o++(x1,x2)::mergedM a ((y1,y2)::b)=(o++[(x1,x2)])++mergedM a ((y1,y2)::b) by rw [List.append_assoc];rfl] at hs
     refine e_ 22 rfl (x':=AB true) (ab_eq (by simpa using c3)) ?_
     (refine A.drawL [(5, .row 2 z (o.map encE))] 9 [0,1,2,3,6,7,4,5,8] (fun i=>if i=5 then [5,4] else []) [] (List.Perm.refl _) rfl rfl (by rfl) (by kernel_rfl) (by kernel_rfl) ?_;refine w_ ?_;refine iw_ rfl rfl rfl ?_;refine WA.slice (ys:=a.map encE) rfl rfl rfl rfl rfl rfl rfl rfl rfl rfl (by decide) (by rw [List.length_map,List.length_cons];omega) (by omega) (by simp [List.take_of_length_le]) rfl ?_;refine WA.lit rfl rfl rfl rfl rfl rfl rfl fun bw=>?_;refine WA.appendR rfl rfl rfl rfl rfl rfl rfl rfl rfl rfl rfl rfl rfl rfl rfl rfl rfl rfl rfl rfl (.pub (j:=4) rfl rfl (.sub .refl)) (by show ((o.map encE).length+1)*2≤_;rw [List.length_map];omega) (by show ((o.map encE).length+1)*2*16≤_;rw [List.length_map];omega) fun z1=>?_;refine w_ ?_;refine WA.nil (l:=[_]) rfl ?_;refine y_ ?_;refine A.valE 5 rfl (x':= .ms z1 2 (o++[(x1,x2)]).length) (by rw [List.length_append,List.length_map];rfl) ?_;refine A.entsEq (Λ':=[.row 2 z1 ((o++[(x1,x2)]).map encE)]) (by rw [List.map_append];rfl) ?_)
     refine u_ (ih (a,(y1,y2)::b,o++[(x1,x2)],z1) hs (by show a.length+(b.length+1)<(a.length+1)+(b.length+1);omega))
    rw [if_neg (show¬ltE (x1,x2) (y1,y2)=true by simp [ltE];omega)] at hs
    refine e_ 22 rfl (x':=AB false) (ab_eq (by simpa using c3)) ?_
    refine d_ 10 [0,1,2,3,4,5,6,7,8,9] [] ?_
    refine ew_ 76 rfl (x':=AB true) (ab_eq (by simp)) ?_
    refine iw_ rfl rfl rfl ?_
    refine iw_ rfl rfl rfl ?_
    refine WA.nil (l:=[]) rfl ?_
    refine A.eqSt rfl rfl rfl rfl rfl rfl rfl rfl (evEl x1 x2 y1 y2) ?_
    by_cases c4:x2=y2
    ·rw [if_pos (show (x1,x2)=(y1,y2) by rw [c2,c4])] at hs
     refine e_ 83 rfl (x':=AB true) (ab_eq (by show eqV .eql (x1==y1&&x2==y2)=true;rw [show (x1==y1&&x2==y2)=true by simp [c2,c4]];rfl)) ?_
     refine A.slice (ys:=a.map encE) rfl rfl rfl rfl rfl rfl rfl rfl rfl (by decide) (by rw [List.length_map,List.length_cons];omega) (by omega) (by simp [List.take_of_length_le]) rfl ?_
     refine y_ ?_
     refine u_ (ih (a,(y1,y2)::b,o,z) hs (by show a.length+(b.length+1)<(a.length+1)+(b.length+1);omega))
    rw [if_neg (show¬(x1,x2)=(y1,y2) by intro h;injection h with _ h;exact c4 h),show o++(y1,y2)::mergedM ((x1,x2)::a) b=(o++[(y1,y2)])++mergedM ((x1,x2)::a) b by rw [List.append_assoc];rfl] at hs
    refine e_ 83 rfl (x':=AB false) (ab_eq (by show eqV .eql (x1==y1&&x2==y2)=false;rw [show (x1==y1&&x2==y2)=false by simp [c4]];rfl)) ?_
    (refine A.drawL [(5, .row 2 z (o.map encE))] 9 [0,1,2,3,6,7,4,5,8] (fun i=>if i=5 then [5,4] else []) [] (List.Perm.refl _) rfl rfl (by rfl) (by kernel_rfl) (by kernel_rfl) ?_;refine w_ ?_;refine iw_ rfl rfl rfl ?_;refine WA.slice (ys:=b.map encE) rfl rfl rfl rfl rfl rfl rfl rfl rfl rfl (by decide) (by rw [List.length_map,List.length_cons];omega) (by omega) (by simp [List.take_of_length_le]) rfl ?_;refine WA.lit rfl rfl rfl rfl rfl rfl rfl fun bw=>?_;refine WA.appendR rfl rfl rfl rfl rfl rfl rfl rfl rfl rfl rfl rfl rfl rfl rfl rfl rfl rfl rfl rfl (.pub (j:=4) rfl rfl (.sub .refl)) (by show ((o.map encE).length+1)*2≤_;rw [List.length_map];omega) (by show ((o.map encE).length+1)*2*16≤_;rw [List.length_map];omega) fun z1=>?_;refine w_ ?_;refine WA.nil (l:=[_]) rfl ?_;refine y_ ?_;refine A.valE 5 rfl (x':= .ms z1 2 (o++[(y1,y2)]).length) (by rw [List.length_append,List.length_map];rfl) ?_;refine A.entsEq (Λ':=[.row 2 z1 ((o++[(y1,y2)]).map encE)]) (by rw [List.map_append];rfl) ?_)
    refine u_ (ih ((x1,x2)::a,b,o++[(y1,y2)],z1) hs (by show (a.length+1)+b.length<(a.length+1)+(b.length+1);omega))
   rw [if_neg (show¬ltE (x1,x2) (y1,y2)=true by simp [ltE];omega),if_neg (show¬(x1,x2)=(y1,y2) by intro h;injection h with h _;exact c2 h),show o++(y1,y2)::mergedM ((x1,x2)::a) b=(o++[(y1,y2)])++mergedM ((x1,x2)::a) b by rw [List.append_assoc];rfl] at hs
   refine ew_ 50 rfl (x':=AB false) (ab_eq (by simpa using c2)) ?_
   refine z_ ?_
   refine d_ 10 [0,1,2,3,4,5,6,7,8,9] [] ?_
   refine ew_ 76 rfl (x':=AB true) (ab_eq (by simp)) ?_
   refine iw_ rfl rfl rfl ?_
   refine iw_ rfl rfl rfl ?_
   refine WA.nil (l:=[]) rfl ?_
   refine A.eqSt rfl rfl rfl rfl rfl rfl rfl rfl (evEl x1 x2 y1 y2) ?_
   refine e_ 83 rfl (x':=AB false) (ab_eq (by show eqV .eql (x1==y1&&x2==y2)=false;rw [show (x1==y1&&x2==y2)=false by simp [c2]];rfl)) ?_
   (refine A.drawL [(5, .row 2 z (o.map encE))] 9 [0,1,2,3,6,7,4,5,8] (fun i=>if i=5 then [5,4] else []) [] (List.Perm.refl _) rfl rfl (by rfl) (by kernel_rfl) (by kernel_rfl) ?_;refine w_ ?_;refine iw_ rfl rfl rfl ?_;refine WA.slice (ys:=b.map encE) rfl rfl rfl rfl rfl rfl rfl rfl rfl rfl (by decide) (by rw [List.length_map,List.length_cons];omega) (by omega) (by simp [List.take_of_length_le]) rfl ?_;refine WA.lit rfl rfl rfl rfl rfl rfl rfl fun bw=>?_;refine WA.appendR rfl rfl rfl rfl rfl rfl rfl rfl rfl rfl rfl rfl rfl rfl rfl rfl rfl rfl rfl rfl (.pub (j:=4) rfl rfl (.sub .refl)) (by show ((o.map encE).length+1)*2≤_;rw [List.length_map];omega) (by show ((o.map encE).length+1)*2*16≤_;rw [List.length_map];omega) fun z1=>?_;refine w_ ?_;refine WA.nil (l:=[_]) rfl ?_;refine y_ ?_;refine A.valE 5 rfl (x':= .ms z1 2 (o++[(y1,y2)]).length) (by rw [List.length_append,List.length_map];rfl) ?_;refine A.entsEq (Λ':=[.row 2 z1 ((o++[(y1,y2)]).map encE)]) (by rw [List.map_append];rfl) ?_)
   refine u_ (ih ((x1,x2)::a,b,o++[(y1,y2)],z1) hs (by show (a.length+1)+b.length<(a.length+1)+(b.length+1);omega))
abbrev chL(l:List Int):List EL:=l.map chE
theorem lchans_p(l:List Int)(hl:l.length≤1000000):Pure Tryz.prog gs0 23 [intsA l] (elL (chL l)):=by
 have n1:((l.map AI).length:Int)=l.length:=by rw [List.length_map]
 refine p_ tt_ok Tryz.func23 19 fun w0 h0 F hgs=>?_
 refine y_ ?_
 refine A.emptyRow 3 2 rfl fun z0=>?_
 refine A.valE 7 rfl (x':=AI (l.length:Nat)) (ai_eq n1) ?_
 refine A.keep [3,6,7,8] rfl ?_
 refine A.loopP (ι:=Nat×Value) (fun s=>(⟨[(3, .ms s.2 2 (l.take s.1).length),(6,intsA l),(7,AI (l.length:Nat)),(8,AI (s.1:Nat))],[]⟩,[.row 2 s.2 ((chL (l.take s.1)).map encE)])) (fun s=>s.1≤l.length) (fun s=>l.length-s.1) (0,z0) (Nat.zero_le _) rfl fun s hs ih=>?_
 obtain ⟨i,z⟩:=s
 simp only at hs ih⊢
 refine y_ ?_
 refine k_ (fun hc=>?_) fun hc=>?_
 ·have hci:i<l.length:=Int.ofNat_lt.1 (of_decide_eq_true hc)
  clear hc
  refine Exists.elim (at_exN (l:=l) (i:=i) hci) fun x hx=>?_
  have hxa:(l.map AI)[i]? =some (AI x):=by rw [List.getElem?_map,hx];rfl
  have e1:(l.take (i+1)).length=((chL (l.take i)).map encE).length+1:=by rw [take_at hx,List.length_append,List.length_map,List.length_map];rfl
  have e2:(chL (l.take (i+1))).map encE=(chL (l.take i)).map encE++[encE (chE x)]:=by rw [take_at hx];simp only [chL,List.map_append];rfl
  have e3:(l.take i).length≤1000000:=by rw [List.length_take];omega
  refine y_ ?_
  refine j_ rfl hxa rfl ?_
  refine t_ fun bl=>?_
  refine A.appendRowE rfl rfl rfl rfl rfl rfl rfl rfl rfl rfl rfl rfl rfl rfl (by show (((chL (l.take i)).map encE).length+1)*2≤_;rw [List.length_map,List.length_map];omega) (by show (((chL (l.take i)).map encE).length+1)*2*16≤_;rw [List.length_map,List.length_map];omega) fun z2=>?_
  refine y_ ?_
  refine l_ (Λ':=[.row 2 z2 _]) ?_
  refine A.valE 3 rfl (x':= .ms z2 2 (l.take (i+1)).length) (by rw [e1];rfl) ?_
  refine A.entsEq (Λ':=[.row 2 z2 ((chL (l.take (i+1))).map encE)]) (by rw [e2];rfl) ?_
  refine A.valE 8 rfl (x':=AI ((i+1:Nat):Int)) (inc_eq i (by omega)) ?_
  refine u_ (ih (i+1,z2) (by show i+1≤_;omega) (by show l.length-(i+1)<l.length-i;omega))
 ·have hil:i=l.length:=by
   have: ¬((i:Int)<(l.length:Nat)):=of_decide_eq_false hc
   omega
  clear hc ih hs
  refine A.valE 3 rfl (x':= .ms z 2 l.length) (by rw [hil,List.take_length]) ?_
  refine A.entsEq (Λ':=[.row 2 z ((chL l).map encE)]) (by rw [hil,List.take_length]) ?_
  clear hil
  refine y_ ?_
  refine A.freezeRow 2 rfl ?_
  exact r_
abbrev shG(x y:EL):Bool:=decide (x.1=y.1)&&(decide (x.2=y.2)||decide (x.2= -1)||decide (y.2= -1))
theorem any_take{α:Type}{l:List α}{f:α→Bool}{i:Nat}{x:α}(h:l[i]? =some x)(h0:(l.take i).any f=false)(hx:f x=false):(l.take (i+1)).any f=false:=by
 rw [take_at h,List.any_append,h0,List.any_cons,List.any_nil,hx];rfl
theorem lshare_p(a b:List EL)(ha:a.length≤1000000)(hb:b.length≤1000000):Pure Tryz.prog gs0 24 [elL a,elL b] (AB (shareM a b)):=by
 have n1:((a.map encE).length:Int)=a.length:=by rw [List.length_map]
 have n2:((b.map encE).length:Int)=b.length:=by rw [List.length_map]
 refine p_ tt_ok Tryz.func24 45 fun w0 h0 F hgs=>?_
 refine y_ ?_
 refine A.valE 10 rfl (x':=AI (a.length:Nat)) (ai_eq n1) ?_
 refine A.keep [1,9,10,11] rfl ?_
 refine A.loopP (ι:=Nat) (fun i=>(⟨[(1,elL b),(9,elL a),(10,AI (a.length:Nat)),(11,AI (i:Nat))],[]⟩,[])) (fun i=>i≤a.length∧((a.take i).any fun x=>b.any (shG x))=false) (fun i=>a.length-i) 0 ⟨Nat.zero_le _,by simp⟩ rfl fun i hs ih=>?_
 obtain ⟨hs1,h1⟩:=hs
 simp only at ih⊢
 refine y_ ?_
 refine k_ (fun hc=>?_) fun hc=>?_
 rotate_left
 ·have hil:i=a.length:=by
   have: ¬((i:Int)<(a.length:Nat)):=of_decide_eq_false hc
   omega
  rw [hil,List.take_length] at h1
  clear hc ih
  refine y_ ?_
  refine R_ ?_
  rw [show shareM a b=false from h1]
  exact .refl
 have hci:i<a.length:=Int.ofNat_lt.1 (of_decide_eq_true hc)
 clear hc
 refine Exists.elim (at_exN (l:=a) (i:=i) hci) fun x hx=>?_
 have hxa:(a.map encE)[i]? =some (encE x):=by rw [List.getElem?_map,hx];rfl
 refine y_ ?_
 refine i_ rfl hxa rfl ?_
 refine A.b rfl fun b6=>?_
 refine y_ ?_
 refine A.valE 16 rfl (x':=AI (b.length:Nat)) (ai_eq n2) ?_
 refine A.keep [1,6,9,10,11,15,16,17] rfl ?_
 refine A.loopP (ι:=Nat) (fun j=>(⟨[(1,elL b),(6,PT b6),(9,elL a),(10,AI (a.length:Nat)),(11,AI (i:Nat)),(15,elL b),(16,AI (b.length:Nat)),(17,AI (j:Nat))],[]⟩,[.box b6 (encE x)])) (fun j=>j≤b.length∧((b.take j).any (shG x))=false) (fun j=>b.length-j) 0 ⟨Nat.zero_le _,by simp⟩ rfl fun j hs ih2=>?_
 obtain ⟨hs2,h2⟩:=hs
 simp only at ih2⊢
 refine y_ ?_
 refine k_ (fun hc=>?_) fun hc=>?_
 rotate_left
 ·have hil:j=b.length:=by
   have: ¬((j:Int)<(b.length:Nat)):=of_decide_eq_false hc
   omega
  rw [hil,List.take_length] at h2
  clear hc ih2
  refine y_ ?_
  refine l_ (Λ':=[]) ?_
  refine A.valE 11 rfl (x':=AI ((i+1:Nat):Int)) (inc_eq i (by omega)) ?_
  refine u_ (ih (i+1) ⟨by show i+1≤_;omega,any_take hx h1 h2⟩ (by show a.length-(i+1)<a.length-i;omega))
 have hcj:j<b.length:=Int.ofNat_lt.1 (of_decide_eq_true hc)
 clear hc ih
 refine Exists.elim (at_exN (l:=b) (i:=j) hcj) fun y hy=>?_
 have hya:(b.map encE)[j]? =some (encE y):=by rw [List.getElem?_map,hy];rfl
 refine y_ ?_
 refine i_ rfl hya rfl ?_
 refine A.b rfl fun b8=>?_
 refine y_ ?_
 by_cases c1:x.1=y.1
 case neg=>
  refine A.valE 26 rfl (x':=AB false) (ab_eq (by simpa using c1)) ?_
  (refine y_ ?_;refine l_ (Λ':=[.box b6 (encE x)]) ?_;refine A.valE 17 rfl (x':=AI ((j+1:Nat):Int)) (inc_eq j (by omega)) ?_;refine u_ (ih2 (j+1) ⟨by show j+1≤_;omega,any_take hy h2 (by simp [shG, *])⟩ (by show b.length-(j+1)<b.length-j;omega)))
 refine e_ 26 rfl (x':=AB true) (ab_eq (by simpa using c1)) ?_
 by_cases c2:x.2=y.2
 ·refine A.valE 32 rfl (x':=AB true) (ab_eq (by simpa using c2)) ?_
  (refine y_ ?_;refine R_ ?_;rw [show shareM a b=true from List.any_eq_true.2 ⟨x,List.mem_of_getElem? hx,List.any_eq_true.2 ⟨y,List.mem_of_getElem? hy,by simp [*]⟩⟩];exact .refl)
 refine e_ 32 rfl (x':=AB false) (ab_eq (by simpa using c2)) ?_
 by_cases c3:x.2= -1
 ·refine A.valE 37 rfl (x':=AB true) (ab_eq (by simpa using c3)) ?_
  (refine y_ ?_;refine R_ ?_;rw [show shareM a b=true from List.any_eq_true.2 ⟨x,List.mem_of_getElem? hx,List.any_eq_true.2 ⟨y,List.mem_of_getElem? hy,by simp [*]⟩⟩];exact .refl)
 refine e_ 37 rfl (x':=AB false) (ab_eq (by simpa using c3)) ?_
 by_cases c4:y.2= -1
 ·refine A.valE 42 rfl (x':=AB true) (ab_eq (by simpa using c4)) ?_
  (refine y_ ?_;refine R_ ?_;rw [show shareM a b=true from List.any_eq_true.2 ⟨x,List.mem_of_getElem? hx,List.any_eq_true.2 ⟨y,List.mem_of_getElem? hy,by simp [*]⟩⟩];exact .refl)
 refine A.valE 42 rfl (x':=AB false) (ab_eq (by simpa using c4)) ?_
 (refine y_ ?_;refine l_ (Λ':=[.box b6 (encE x)]) ?_;refine A.valE 17 rfl (x':=AI ((j+1:Nat):Int)) (inc_eq j (by omega)) ?_;refine u_ (ih2 (j+1) ⟨by show j+1≤_;omega,any_take hy h2 (by simp [shG, *])⟩ (by show b.length-(j+1)<b.length-j;omega)))
theorem dec_eq21(i:Nat)(h:i<4611686018427387904):AV.v (.int .i64 (IntKind.i64.wrap (((i+1:Nat):Int)-1)))=AI (i:Nat):=by
 rw [wr64 _ (by omega)];exact ai_eq (by omega)
theorem of_no{k:KN}{p:PR}(h:ofOk k p=false):ofM k p= .tp [uA .nil,AI 2]:=by simp only [ofM,h];rfl
theorem of_yes{k:KN}{p:PR}(h:ofOk k p=true):ofM k p= .tp [uA (usesM k.vars p),AI 0]:=by simp only [ofM,h];rfl
theorem of_ok{k:KN}{p:PR}(hk:WfN k)(hp:wfR p)(h:ofOk k p=true):UseOk (usesM k.vars p):=by
 rw [ofOk,Bool.and_eq_true] at h
 obtain ⟨hV,hn⟩:=vin_of h.2
 exact ((root_ok (sub_wf hk hp) h.2).uses hV hn).2
theorem UseOk.lens{u:RU}(h:UseOk u):u.r.length≤16640∧u.w.length≤16640∧u.i.length≤64∧u.o.length≤64:=by
 exact ⟨asc_short h.ar h.r,asc_short h.aw h.w,ascI_short h.ai h.i,ascI_short h.ao h.o⟩
theorem wf_many{kd:Int}{l:List PR}(h: ∀x,x∈l→wfR x)(hl:l.length≤281474976710656):wfR (manyR kd l):=by
 have: ∀l:List PR,(∀x,x∈l→wfR x)→wfRl l:=fun l=>by
  induction l with
  |nil=>intro _;rw [wfRl];trivial
  |cons x r ih=>intro h;rw [wfRl];exact ⟨h x (List.mem_cons_self ..),ih fun y hy=>h y (List.mem_cons_of_mem _ hy)⟩
 rw [wfR,wfGl,wfKl];exact ⟨⟨(fun t ht=>by cases ht),trivial,by simp,by simp,hl⟩,trivial,this l h⟩
theorem enc_two'(p q:PR):encRl [p,q]=[cellsR p,cellsR q]:=by rw [←encR_eq p,←encR_eq q];rfl
theorem union_law(k:KN)(p q:PR)(hk:WfN k)(hp:wfR p)(hq:wfR q):Pure Tryz.prog gs0 5 [encN k,cellsR p,cellsR q] (AB true):=by
 have ha:=awake21
 have h1:=uOf_p k p hk hp
 have h2:=uOf_p k q hk hq
 by_cases c1:ofOk k p=true
 case neg=>
  rw [of_no (by simpa using c1)] at h1
  refine p_ tt_ok Tryz.func5 172 fun w0 h0 F hgs=>?_
  (refine b_ fun bx=>?_;refine b_ fun bx=>?_;refine b_ fun bx=>?_;refine y_ ?_)
  refine n_ h1 ?_
  (refine b_ fun bx=>?_;refine y_ ?_)
  refine n_ h2 ?_
  (refine b_ fun bx=>?_;refine y_ ?_)
  exact cr_ ha
 rw [of_yes c1] at h1
 have u1:=of_ok hk hp c1
 by_cases c2:ofOk k q=true
 case neg=>
  rw [of_no (by simpa using c2)] at h2
  refine p_ tt_ok Tryz.func5 172 fun w0 h0 F hgs=>?_
  (refine b_ fun bx=>?_;refine b_ fun bx=>?_;refine b_ fun bx=>?_;refine y_ ?_)
  refine n_ h1 ?_
  (refine b_ fun bx=>?_;refine y_ ?_)
  refine n_ h2 ?_
  (refine b_ fun bx=>?_;refine y_ ?_)
  exact cr_ ha
 rw [of_yes c2] at h2
 have u2:=of_ok hk hq c2
 have hs9:=uses_two k.vars 9 (.inl rfl) p q
 have hs10:=uses_two k.vars 10 (.inr rfl) p q
 refine Exists.elim (show∃u,u=usesM k.vars p from ⟨_,rfl⟩) fun u hu=>?_
 refine Exists.elim (show∃v,v=usesM k.vars q from ⟨_,rfl⟩) fun v hv=>?_
 rw [←hu,←hv] at hs9 hs10
 rw [←hu] at h1 u1
 rw [←hv] at h2 u2
 obtain ⟨ur,uw,ui,uo⟩:=u1.lens
 obtain ⟨vr,vw,vi,vo⟩:=u2.lens
 refine p_ tt_ok Tryz.func5 172 fun w0 h0 F hgs=>?_
 refine y_ ?_
 refine A.b rfl fun b3=>?_
 refine A.b rfl fun b4=>?_
 refine A.b rfl fun b5=>?_
 refine y_ ?_
 refine c_ h1 ?_
 refine A.b rfl fun b7=>?_
 refine y_ ?_
 refine c_ h2 ?_
 refine A.b rfl fun b9=>?_
 (refine t_ fun bl=>?_;refine y_ ?_)
 refine A.val 37 rfl (x':= .sl 1 [AU8 9,AU8 10] none) s_ ?_
 refine A.valE 38 rfl (x':=AI 2) rfl ?_
 refine A.keep [3,4,5,7,9,37,38,39] rfl ?_
 refine l_ (Λ':=[.box b9 (uA v), .box b7 (uA u), .box b5 (cellsR q), .box b4 (cellsR p), .box b3 (encN k)]) ?_
 refine A.loopP (ι:=Nat) (fun i=>(⟨[(3,PT b3),(4,PT b4),(5,PT b5),(7,PT b7),(9,PT b9),(37, .sl 1 [AU8 9,AU8 10] none),(38,AI 2),(39,AI (i:Nat))],[]⟩,[.box b9 (uA v), .box b7 (uA u), .box b5 (cellsR q), .box b4 (cellsR p), .box b3 (encN k)])) (fun i=>i≤2) (fun i=>2-i) 0 (Nat.zero_le _) rfl fun i hi ih=>?_
 simp only at ih⊢
 refine y_ ?_
 refine k_ (fun hc=>?_) fun hc=>?_
 ·have hci:i<2:=by
   have:((i:Nat):Int)<2:=of_decide_eq_true hc
   omega
  clear hc
  refine Exists.elim (show∃kd:Int,([AU8 9,AU8 10]:List AV)[i]? =some (AU8 kd)∧(kd=9∨kd=10) from ?_) fun kd hkd=>?_
  ·match i,hci with
   |0,_=>exact ⟨9,rfl, .inl rfl⟩
   |1,_=>exact ⟨10,rfl, .inr rfl⟩
  obtain ⟨hke,hkd⟩:=hkd
  have hsw:let w:=usesM k.vars (manyR kd [p,q]);w.r=mergedM u.r v.r∧w.w=mergedM u.w v.w∧w.i.map chE=mergedM (u.i.map chE) (v.i.map chE)∧w.o.map chE=mergedM (u.o.map chE) (v.o.map chE):=by
   rcases hkd with rfl|rfl
   ·exact hs9
   ·exact hs10
  have hm:=lmany_p kd [p,q]
  have hwm:wfR (manyR kd [p,q]):=wf_many (fun x hx=>by
   rcases List.mem_cons.1 hx with rfl|hx
   ·exact hp
   ·have:=List.mem_singleton.1 hx;subst this;exact hq) (by simp)
  have h3:=uOf_p k (manyR kd [p,q]) hk hwm
  by_cases c3:ofOk k (manyR kd [p,q])=true
  case neg=>
   rw [of_no (by simpa using c3)] at h3
   refine y_ ?_
   refine i_ rfl hke rfl ?_
   refine A.draw 12 [0,1,2,3,4,10,5,6,7,8,9,11] (fun i=>if i=5 then [4] else if i=11 then [10] else []) [(5,cellsR (manyR kd [p,q])),(6, .tp [uA .nil,AI 2])] (by kernel_rfl) (by kernel_rfl) ?_
   refine w_ ?_
   refine WA.lit rfl rfl rfl rfl rfl rfl rfl fun bw=>?_
   refine WA.alloc rfl rfl rfl rfl rfl rfl rfl rfl fun b13=>?_
   refine WA.c rfl rfl hm (.cons (.sub .refl) (.cons (.pub (j:=4) rfl rfl (by rw [enc_two'];exact .sub .refl)) (.sub .refl))) ?_
   refine cw_ h3 ?_
   refine WA.store rfl rfl rfl rfl rfl rfl rfl rfl rfl rfl ?_
   refine WA.nil (l:=[_]) rfl ?_
   refine y_ ?_
   refine l_ (Λ':=[.box b9 (uA v), .box b7 (uA u), .box b5 (cellsR q), .box b4 (cellsR p), .box b3 (encN k)]) ?_
   refine A.valE 39 rfl (x':=AI ((i+1:Nat):Int)) (inc_eq i (by omega)) ?_
   refine u_ (ih (i+1) (by show i+1≤2;omega) (by show 2-(i+1)<2-i;omega))
  rw [of_yes c3] at h3
  have u3:=of_ok hk hwm c3
  obtain ⟨wr,ww,wi,wo⟩:=u3.lens
  refine Exists.elim (show∃w,w=usesM k.vars (manyR kd [p,q]) from ⟨_,rfl⟩) fun w hw=>?_
  rw [←hw] at hsw h3 wr ww wi wo
  obtain ⟨e1,e2,e3,e4⟩:=hsw
  have m1:=lmerged_p u.r v.r (by omega)
  have m2:=lmerged_p u.w v.w (by omega)
  have m3:=lmerged_p (chL u.i) (chL v.i) (by rw [List.length_map,List.length_map];omega)
  have m4:=lmerged_p (chL u.o) (chL v.o) (by rw [List.length_map,List.length_map];omega)
  have s1:=sameE_p w.r (mergedM u.r v.r) (by omega)
  have s2:=sameE_p w.w (mergedM u.w v.w) (by omega)
  have s3:=sameE_p (chL w.i) (mergedM (chL u.i) (chL v.i)) (by rw [List.length_map];omega)
  have s4:=sameE_p (chL w.o) (mergedM (chL u.o) (chL v.o)) (by rw [List.length_map];omega)
  rw [decide_eq_true e1] at s1
  rw [decide_eq_true e2] at s2
  rw [decide_eq_true e3] at s3
  rw [decide_eq_true e4] at s4
  have d1:=lchans_p u.i (by omega)
  have d2:=lchans_p v.i (by omega)
  have d3:=lchans_p w.i (by omega)
  have d4:=lchans_p u.o (by omega)
  have d5:=lchans_p v.o (by omega)
  have d6:=lchans_p w.o (by omega)
  refine y_ ?_
  refine i_ rfl hke rfl ?_
  refine A.draw 12 [0,1,2,3,4,10,5,6,7,8,9,11] (fun i=>if i=5 then [4] else if i=11 then [10] else []) [(5,cellsR (manyR kd [p,q])),(6, .tp [uA w,AI 0])] (by kernel_rfl) (by kernel_rfl) ?_
  refine w_ ?_
  refine WA.lit rfl rfl rfl rfl rfl rfl rfl fun bw=>?_
  refine WA.alloc rfl rfl rfl rfl rfl rfl rfl rfl fun b13=>?_
  refine WA.c rfl rfl hm (.cons (.sub .refl) (.cons (.pub (j:=4) rfl rfl (by rw [enc_two'];exact .sub .refl)) (.sub .refl))) ?_
  refine cw_ h3 ?_
  refine WA.store rfl rfl rfl rfl rfl rfl rfl rfl rfl rfl ?_
  refine WA.nil (l:=[_]) rfl ?_
  refine y_ ?_
  refine d_ 47 [0,1,2,3,4,5,6,7,8,9,10,11,12,13,14,15,16,17,18,19,20,21,22,23,24,25,26,28,29,31,32,27,30,33,34,35,36,37,38,39,40,42,43,45,46,41,44] [(9,elL (mergedM u.r v.r)),(10,AB true),(20,elL (mergedM u.w v.w)),(21,AB true),(27,elL (chL w.i)),(30,elL (chL u.i)),(33,elL (chL v.i)),(34,elL (mergedM (chL u.i) (chL v.i))),(35,AB true),(41,elL (chL w.o)),(44,elL (chL u.o))] ?_
  refine WA.c rfl rfl m1 (.sub .refl) ?_
  refine cw_ s1 ?_
  refine WA.c rfl rfl m2 (.sub .refl) ?_
  refine cw_ s2 ?_
  refine WA.c rfl rfl d3 (.sub .refl) ?_
  refine WA.c rfl rfl d1 (.sub .refl) ?_
  refine WA.c rfl rfl d2 (.sub .refl) ?_
  refine WA.c rfl rfl m3 (.sub .refl) ?_
  refine cw_ s3 ?_
  refine WA.c rfl rfl d6 (.sub .refl) ?_
  refine WA.c rfl rfl d4 (.sub .refl) ?_
  refine WA.nil (l:=[]) rfl ?_
  refine n_ d5 ?_
  refine n_ m4 ?_
  refine c_ s4 ?_
  refine l_ (Λ':=[.box b9 (uA v), .box b7 (uA u), .box b5 (cellsR q), .box b4 (cellsR p), .box b3 (encN k)]) ?_
  refine A.valE 39 rfl (x':=AI ((i+1:Nat):Int)) (inc_eq i (by omega)) ?_
  refine u_ (ih (i+1) (by show i+1≤2;omega) (by show 2-(i+1)<2-i;omega))
 clear hc ih hi
 have d1:=lchans_p u.i (by omega)
 have d4:=lchans_p u.o (by omega)
 have hasc: ∀L,L∈[u.r,u.w,chL u.i,chL u.o]→AscL ltE L∧L.length≤16640:=fun L hL=>by
  simp only [List.mem_cons,List.not_mem_nil,or_false] at hL
  rcases hL with rfl|rfl|rfl|rfl
  ·exact ⟨u1.ar,by omega⟩
  ·exact ⟨u1.aw,by omega⟩
  ·exact ⟨asc_chE u1.ai,by rw [List.length_map];omega⟩
  ·exact ⟨asc_chE u1.ao,by rw [List.length_map];omega⟩
 refine Exists.elim (show∃Ls,Ls=[u.r,u.w,chL u.i,chL u.o] from ⟨_,rfl⟩) fun Ls hLs=>?_
 rw [←hLs] at hasc
 refine y_ ?_
 refine d_ 13 [0,1,2,3,4,5,7,8,12,6,9,10,11] [(6,elL (chL u.i)),(9,elL (chL u.o))] ?_
 refine WA.c rfl rfl d1 (.sub .refl) ?_
 refine WA.c rfl rfl d4 (.sub .refl) ?_
 refine WA.lit rfl rfl rfl rfl rfl rfl rfl fun bw=>?_
 refine w_ ?_
 refine WA.nil (l:=[_]) rfl ?_
 refine A.freezeRow 118 rfl ?_
 refine y_ ?_
 refine A.valE 118 rfl (x':= .sl 1 (Ls.map elL) none) (by rw [hLs];rfl) ?_
 refine A.valE 119 rfl (x':=AI 4) rfl ?_
 refine A.keep [118,119,120] rfl ?_
 refine A.less (Λ':=[]) (List.nil_sublist _) ?_
 have hL4:Ls.length=4:=by rw [hLs];rfl
 clear hLs
 refine A.loopP (ι:=Nat) (fun i=>(⟨[(118, .sl 1 (Ls.map elL) none),(119,AI 4),(120,AI (i:Nat))],[]⟩,[])) (fun i=>i≤4) (fun i=>4-i) 0 (Nat.zero_le _) rfl fun i hi ih=>?_
 simp only at ih⊢
 refine y_ ?_
 refine k_ (fun hc=>?_) fun hc=>?_
 rotate_left
 ·clear hc ih
  refine y_ ?_
  exact cr_ ha
 have hci:i<4:=by
  have:((i:Nat):Int)<4:=of_decide_eq_true hc
  omega
 clear hc
 refine Exists.elim (at_exN (l:=Ls) (i:=i) (by omega)) fun L hL=>?_
 have hLa:(Ls.map elL)[i]? =some (elL L):=by rw [List.getElem?_map,hL];rfl
 obtain ⟨hAs,hLl⟩:=hasc L (List.mem_of_getElem? hL)
 refine y_ ?_
 refine i_ rfl hLa rfl ?_
 refine A.keep [16,17,118,119,120] rfl ?_
 refine A.loopP (ι:=Nat) (fun j=>(⟨[(16,elL L),(17,AI ((j+1:Nat):Int)),(118, .sl 1 (Ls.map elL) none),(119,AI 4),(120,AI (i:Nat))],[]⟩,[])) (fun j=>j≤L.length) (fun j=>L.length-j) 0 (Nat.zero_le _) rfl fun j hj ih2=>?_
 simp only at ih2⊢
 refine y_ ?_
 refine k_ (fun hc=>?_) fun hc=>?_
 rotate_left
 ·clear hc ih2
  refine y_ ?_
  refine A.valE 120 rfl (x':=AI ((i+1:Nat):Int)) (inc_eq i (by omega)) ?_
  refine u_ (ih (i+1) (by show i+1≤4;omega) (by show 4-(i+1)<4-i;omega))
 have hcj:j+1<L.length:=by
  have:((j+1:Nat):Int)<((L.map encE).length:Nat):=of_decide_eq_true hc
  rw [List.length_map] at this
  omega
 clear hc ih
 refine Exists.elim (at_exN (l:=L) (i:=j) (by omega)) fun x hx=>?_
 refine Exists.elim (at_exN (l:=L) (i:=j+1) hcj) fun y hy=>?_
 have hxa:(L.map encE)[j]? =some (encE x):=by rw [List.getElem?_map,hx];rfl
 have hya:(L.map encE)[j+1]? =some (encE y):=by rw [List.getElem?_map,hy];rfl
 have hlt:ltE x y=true:=by
  have:=List.pairwise_iff_getElem.1 hAs j (j+1) (by omega) hcj (by omega)
  rwa [(List.getElem?_eq_some_iff.1 hx).2,(List.getElem?_eq_some_iff.1 hy).2] at this
 simp only [ltE,Bool.or_eq_true,Bool.and_eq_true,decide_eq_true_eq] at hlt
 refine y_ ?_
 refine d_ 37 [0,1,2,3,4,5,6,7,8,9,10,11,12,13,14,15,16,17,18,19,20,21,22,23,24,25,26,27,28,29,30,31,32,33,34,35,36] [] ?_
 refine WA.valE 132 rfl (x':=AI (j:Nat)) (dec_eq21 j (by omega)) ?_
 refine iw_ rfl hxa rfl ?_
 refine WA.x rfl (by show (0:Int)≤((j+1:Nat):Int);omega) hya rfl rfl ?_
 refine w_ ?_
 refine ew_ 142 rfl (x':=AB false) (ab_eq (by simp;omega)) ?_
 refine WA.valE 145 rfl (x':=AI (j:Nat)) (dec_eq21 j (by omega)) ?_
 refine iw_ rfl hxa rfl ?_
 refine WA.x rfl (by show (0:Int)≤((j+1:Nat):Int);omega) hya rfl rfl ?_
 refine w_ ?_
 by_cases c4:x.1=y.1
 ·refine ew_ 155 rfl (x':=AB true) (ab_eq (by simpa using c4)) ?_
  refine WA.valE 158 rfl (x':=AI (j:Nat)) (dec_eq21 j (by omega)) ?_
  refine iw_ rfl hxa rfl ?_
  refine WA.x rfl (by show (0:Int)≤((j+1:Nat):Int);omega) hya rfl rfl ?_
  refine w_ ?_
  refine z_ ?_
  refine A.valE 169 rfl (x':=AB false) (ab_eq (by simp;omega)) ?_
  (refine y_ ?_;refine A.valE 17 rfl (x':=AI ((j+1+1:Nat):Int)) (inc_eq (j+1) (by omega)) ?_;refine u_ (ih2 (j+1) (by show j+1≤_;omega) (by show L.length-(j+1)<L.length-j;omega)))
 ·refine ew_ 155 rfl (x':=AB false) (ab_eq (by simpa using c4)) ?_
  refine WA.nil (l:=[]) rfl ?_
  (refine y_ ?_;refine A.valE 17 rfl (x':=AI ((j+1+1:Nat):Int)) (inc_eq (j+1) (by omega)) ?_;refine u_ (ih2 (j+1) (by show j+1≤_;omega) (by show L.length-(j+1)<L.length-j;omega)))
end Go.Proofs.YtafcodjilcljeaaGreat
