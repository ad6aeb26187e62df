/-
  Texts P21e. Conditions: as each theorem says.
-/
import Derived.Test.YtafcodjilcljeaaGreatV3
import Derived.Test.YtafcodjilcljeaaGreatV8
import Derived.Test.YtafcodjilcljeaaGreatV9
set_option linter.unusedVariables false
set_option linter.unusedSimpArgs false
set_option maxRecDepth 100000
set_option maxHeartbeats 4000000
namespace Go.Proofs.YtafcodjilcljeaaGreat
open Go Go.Tp
def preP(a:List Int)(c:CL):CL:=⟨a++c.path,c.a,c.b,c.kind,c.el,c.c⟩
abbrev preX(a:List Int)(x:List Int×PR):List Int×PR:=(a++x.1,x.2)
mutual
theorem parsM_pre(a:List Int): ∀(p:PR) (path:List Int),parsM (a++path) p=(parsM path p).map (preX a)
 |⟨k,c,v,it,to,e,gs,l⟩,path=>by
  rw [parsM,parsM,parsL_pre a l path 0,parsG_pre a gs path l.length,List.map_append,List.map_append]
  congr 1
  split<;>simp
theorem parsL_pre(a:List Int): ∀(l:List PR) (path:List Int) (i:Nat),parsL (a++path) i l=(parsL path i l).map (preX a)
 | [],path,i=>by rw [parsL,parsL];rfl
 |p::r,path,i=>by rw [parsL,parsL,List.append_assoc,parsM_pre a p _,parsL_pre a r path (i+1),List.map_append]
theorem parsG_pre(a:List Int): ∀(l:List GD) (path:List Int) (i:Nat),parsG (a++path) i l=(parsG path i l).map (preX a)
 | [],path,i=>by rw [parsG,parsG];rfl
 |⟨x1,x2,x3,x4,x5,x6,b⟩::r,path,i=>by rw [parsG,parsG,List.append_assoc,parsB_pre a b _,parsG_pre a r path (i+1),List.map_append]
theorem parsB_pre(a:List Int): ∀(l:List PR) (path:List Int),parsB (a++path) l=(parsB path l).map (preX a)
 | [],path=>by rw [parsB,parsB];rfl
 |p::r,path=>by rw [parsB,parsB,parsM_pre a p path]
end
theorem bet_pre(u v:RU)(a path:List Int)(x y:Int):betM u v (a++path) x y=(betM u v path x y).map (preP a):=by
 simp only [betM,List.map_append,List.map_map];rfl
theorem row_pre(u:RU)(a path:List Int)(x:Int): ∀(us:List RU) (y:Int),rowM2 (a++path) u x y us=(rowM2 path u x y us).map (preP a)
 | [],y=>by rw [rowM2,rowM2];rfl
 |v::r,y=>by rw [rowM2,rowM2,bet_pre,row_pre u a path x r,List.map_append]
theorem pairs_pre(a path:List Int): ∀(us:List RU) (x:Int),pairsM (a++path) x us=(pairsM path x us).map (preP a)
 | [],x=>by rw [pairsM,pairsM];rfl
 |u::r,x=>by rw [pairsM,pairsM,row_pre,pairs_pre a path r,List.map_append]
theorem clR_pre(vs:List KV)(a path:List Int)(p:PR):clR vs (a++path) p=(clR vs path p).map (preP a):=by
 unfold clR
 rw [parsM_pre,List.flatMap_map,List.map_flatMap]
 congr 1
 funext x
 exact pairs_pre a x.1 _ _
theorem clR_at(vs:List KV)(a:List Int)(p:PR):clR vs a p=(clR vs [] p).map (preP a):=by
 have:=clR_pre vs a [] p
 rwa [List.append_nil] at this
theorem pre_path{a:List Int}(ha:a≠[]){l:List CL}{c:CL}(h:c∈l.map (preP a)):c.path≠[]:=by
 obtain ⟨d,_,rfl⟩:=List.mem_map.1 h
 intro e
 exact ha (List.append_eq_nil_iff.1 e).1
abbrev two(p q:PR):PR:=⟨10,0,0,0,[],[],[],[p,q]⟩
theorem clR_two(vs:List KV)(p q:PR):clR vs [] (two p q)=betM (usesM vs p) (usesM vs q) [] 0 1++((clR vs [] p).map (preP [0])++(clR vs [] q).map (preP [1])):=by
 rw [clR_eq,if_pos (.inl rfl)]
 show pairsM [] 0 [usesM vs p,usesM vs q]++(clL vs [] 0 [p,q]++clG vs [] 2 [])=_
 rw [clL_cons,clL_cons,clL_nil,clG_nil,pairsM,pairsM,pairsM,rowM2,rowM2,rowM2,clR_at vs ([]++[((0:Nat):Int)]),clR_at vs ([]++[((0+1:Nat):Int)])]
 simp
theorem clR_seq(vs:List KV)(p:PR):clR vs [] ⟨9,0,0,0,[],[],[],[p]⟩=(clR vs [] p).map (preP [0]):=by
 rw [clR_eq,if_neg (by simp [bothP,PR.kind])]
 show []++(clL vs [] 0 [p]++clG vs [] 1 [])=_
 rw [clL_cons,clL_nil,clG_nil,clR_at vs ([]++[((0:Nat):Int)])]
 simp
theorem bet_nil{u v:RU}{a b:Int}{c:CL}(h:c∈betM u v [] a b):c.path=[]∧c.a=a∧c.b=b∧1≤c.kind∧c.kind≤4:=by
 simp only [betM,List.mem_append,List.mem_map] at h
 rcases h with ((⟨y,_,rfl⟩|⟨y,_,rfl⟩)|⟨y,_,rfl⟩)|⟨y,_,rfl⟩<;>simp
theorem meet_sym(x y:EL):meetE x y=meetE y x:=by
 rw [Bool.eq_iff_iff]
 simp only [meetE,Bool.and_eq_true,Bool.or_eq_true,decide_eq_true_eq]
 omega
theorem over_mem{a b:List EL}{z:EL}:z∈overM a b↔ ∃x,x∈a∧ ∃y,y∈b∧meetE x y=true∧(x.1,max x.2 y.2)=z:=by
 simp only [overM,List.mem_flatMap,List.mem_map,List.mem_filter]
 constructor
 ·rintro ⟨x,hx,y,⟨hy,hm⟩,e⟩;exact ⟨x,hx,y,hy,hm,e⟩
 ·rintro ⟨x,hx,y,hy,hm,e⟩;exact ⟨x,hx,y,⟨hy,hm⟩,e⟩
theorem over_sym(a b:List EL)(z:EL):z∈overM a b↔z∈overM b a:=by
 have key: ∀a b:List EL,z∈overM a b→z∈overM b a:=fun a b h=>by
  obtain ⟨x,hx,y,hy,hm,e⟩:=over_mem.1 h
  refine over_mem.2 ⟨y,hy,x,hx,by rw [meet_sym];exact hm,?_⟩
  simp only [meetE,Bool.and_eq_true,decide_eq_true_eq] at hm
  rw [←e,hm.1,Int.max_comm]
 exact ⟨key a b,key b a⟩
theorem com_sym{a b:List Int}(ha:AscL ltI a)(hb:AscL ltI b):comM a b=comM b a:=by
 refine asc_eq ord_int (ha.sublist (List.filter_sublist)) (hb.sublist (List.filter_sublist)) fun z=>?_
 simp only [comM,List.mem_filter,List.contains_iff_mem]
 exact And.comm
theorem bet_sym{u v:RU}(hu:UseOk u)(hv:UseOk v)(path:List Int)(a b:Int):betM u v path a b=betM v u path a b:=by
 unfold betM
 rw [com_sym hu.ai hv.ai,com_sym hu.ao hv.ao,canE_eq (over_sym u.w v.w),canE_eq (a:=overM u.w v.r++overM u.r v.w) (b:=overM v.w u.r++overM v.r u.w) fun z=>by
  rw [List.mem_append,List.mem_append,over_sym u.w,over_sym u.r];exact Or.comm]
theorem may_two(k:KN)(p q:PR):mayK (subN k (two p q))=mayK (subN k (two q p)):=by
 have h:fitsR k.vars k.chans.length false (two p q) 2048 32↔fitsR k.vars k.chans.length false (two q p) 2048 32:=by
  unfold fitsR
  rw [okR,okR,okL,okL,okL,okL,okL,okL,szR,szR,szL,szL,szL,szL,szL,szL,htR_eq,htR_eq]
  show _∧_∧_↔_
  have g1:htGs (two p q).gs=htGs []:=rfl
  have g2:htGs (two q p).gs=htGs []:=rfl
  rw [show (two p q).l=[p,q] from rfl,show (two q p).l=[q,p] from rfl,htL,htL,htL,htL,htL,htL]
  have hk:kindB k.vars k.chans.length (two p q)=kindB k.vars k.chans.length (two q p):=rfl
  rw [hk]
  simp only [Bool.and_eq_true,Bool.and_true]
  constructor
  ·rintro ⟨⟨⟨h1,h2,h3⟩,h4⟩,h5,h6⟩
   exact ⟨⟨⟨h1,h3,h2⟩,h4⟩,by omega,by omega⟩
  ·rintro ⟨⟨⟨h1,h2,h3⟩,h4⟩,h5,h6⟩
   exact ⟨⟨⟨h1,h3,h2⟩,h4⟩,by omega,by omega⟩
 unfold mayK
 congr 1
 exact decide_eq_decide.2 h
theorem two_ok{k:KN}{p q:PR}(hk:WfN k)(hp:wfR p)(hq:wfR q)(h:mayK (subN k (two p q))=true):(UseOk (usesM k.vars p)∧UseOk (usesM k.vars q))∧WfN (subN k (two p q)):=by
 have hw:WfN (subN k (two p q)):=sub_wf hk (by rw [wfR,wfGl,wfRl,wfRl,wfRl,wfKl];exact ⟨⟨(fun t ht=>by cases ht),trivial,by simp⟩,trivial,hp,hq,trivial⟩)
 obtain ⟨hV,hn⟩:=vin_of h
 have hr:=root_ok hw h
 exact ⟨⟨((hr.l p (List.mem_cons_self ..)).uses hV hn).2,((hr.l q (List.mem_cons_of_mem _ (List.mem_cons_self ..))).uses hV hn).2⟩,hw⟩
def ownC(l:List CL):List CL:=l.filter fun c=>c.path.isEmpty
theorem own_two(vs:List KV)(p q:PR):ownC (clR vs [] (two p q))=betM (usesM vs p) (usesM vs q) [] 0 1:=by
 rw [clR_two,ownC,List.filter_append,List.filter_append,List.filter_eq_self.2 (fun c hc=>by rw [(bet_nil hc).1];rfl),List.filter_eq_nil_iff.2 (fun c hc=>by simpa using pre_path (by simp) hc),List.filter_eq_nil_iff.2 (fun c hc=>by simpa using pre_path (by simp) hc)]
 simp
theorem turned_plain{k:KN}{p q:PR}(hk:WfN k)(hp:wfR p)(hq:wfR q)(h:mayK (subN k (two p q))=true):
 (allM (subN k (two p q))).length=(allM (subN k (two q p))).length∧ownC (allM (subN k (two p q)))=ownC (allM (subN k (two q p))):=by
 obtain ⟨⟨hu,hv⟩,_⟩:=two_ok hk hp hq h
 have h':=may_two k p q▸h
 unfold allM
 rw [if_pos h,if_pos h']
 show (clR k.vars [] (two p q)).length=(clR k.vars [] (two q p)).length∧ownC (clR k.vars [] (two p q))=ownC (clR k.vars [] (two q p))
 rw [own_two,own_two,bet_sym hu hv]
 refine ⟨?_,rfl⟩
 rw [clR_two,clR_two,bet_sym hu hv]
 simp only [List.length_append,List.length_map]
 omega
def metM(l:List CL)(kd:Int):Bool:=l.any fun c=>c.path.isEmpty&&decide (c.kind=kd)
theorem met_own(l:List CL)(kd:Int):metM l kd=(ownC l).any fun c=>decide (c.kind=kd):=by
 rw [Bool.eq_iff_iff]
 simp only [metM,ownC,List.any_eq_true,List.mem_filter,Bool.and_eq_true]
 constructor
 ·rintro ⟨c,h1,h2,h3⟩;exact ⟨c,⟨h1,h2⟩,h3⟩
 ·rintro ⟨c,⟨h1,h2⟩,h3⟩;exact ⟨c,h1,h2,h3⟩
theorem share_over{a b:List EL}(ha: ∀z,z∈a→inR z)(hb: ∀z,z∈b→inR z):shareM a b=true↔overM a b≠[]:=by
 simp only [shareM,List.any_eq_true,Bool.and_eq_true,Bool.or_eq_true,decide_eq_true_eq]
 constructor
 ·rintro ⟨x,hx,y,hy,h1,h2⟩ h
  have:(x.1,max x.2 y.2)∈overM a b:=over_mem.2 ⟨x,hx,y,hy,by simp only [meetE,Bool.and_eq_true,Bool.or_eq_true,decide_eq_true_eq];omega,rfl⟩
  rw [h] at this;cases this
 ·intro h
  obtain ⟨z,hz⟩:=List.exists_mem_of_ne_nil _ h
  obtain ⟨x,hx,y,hy,hm,_⟩:=over_mem.1 hz
  have h1:=ha x hx
  have h2:=hb y hy
  simp only [meetE,Bool.and_eq_true,Bool.or_eq_true,decide_eq_true_eq] at hm
  exact ⟨x,hx,y,hy,hm.1,by omega⟩
theorem share_com{a b:List Int}:shareM (a.map chE) (b.map chE)=true↔comM a b≠[]:=by
 simp only [shareM,List.any_eq_true,Bool.and_eq_true,Bool.or_eq_true,decide_eq_true_eq,List.mem_map]
 constructor
 ·rintro ⟨_,⟨x,hx,rfl⟩,_,⟨y,hy,rfl⟩,h1,_⟩ h
  have h1:x=y:=h1
  subst h1
  have:x∈comM a b:=List.mem_filter.2 ⟨hx,by simpa using hy⟩
  rw [h] at this;cases this
 ·intro h
  obtain ⟨z,hz⟩:=List.exists_mem_of_ne_nil _ h
  obtain ⟨h1,h2⟩:=List.mem_filter.1 hz
  exact ⟨_,⟨z,h1,rfl⟩,_,⟨z,by simpa using h2,rfl⟩,rfl, .inl (.inl rfl)⟩
theorem canE_ne{l:List EL}:canE l≠[]↔l≠[]:=by
 constructor
 ·intro h e;subst e;exact h rfl
 ·intro h e
  obtain ⟨z,hz⟩:=List.exists_mem_of_ne_nil _ h
  have:=mem_canE.2 hz
  rw [e] at this;cases this
theorem any_map_const{α β:Type}{l:List α}{f:α→β}{g:β→Bool}{b:Bool}(h: ∀x,x∈l→g (f x)=b):(l.map f).any g=(b&& !l.isEmpty):=by
 induction l with
 |nil=>simp
 |cons x r ih=>
  rw [List.map_cons,List.any_cons,h x (List.mem_cons_self ..),ih fun y hy=>h y (List.mem_cons_of_mem _ hy)]
  cases b<;>simp
theorem ne_emp{α:Type}{l:List α}{b:Bool}(h:b=true↔l≠[]):(!l.isEmpty)=b:=by
 rw [Bool.eq_iff_iff,h];simp
theorem met_bet{u v:RU}(hu:UseOk u)(hv:UseOk v)(a b:Int):
 ((betM u v [] a b).any fun c=>decide (c.kind=1))=shareM u.w v.w∧((betM u v [] a b).any fun c=>decide (c.kind=2))=(shareM u.w v.r||shareM u.r v.w)∧
   ((betM u v [] a b).any fun c=>decide (c.kind=3))=shareM (u.i.map chE) (v.i.map chE)∧((betM u v [] a b).any fun c=>decide (c.kind=4))=shareM (u.o.map chE) (v.o.map chE):=by
 have h1:(!(canE (overM u.w v.w)).isEmpty)=shareM u.w v.w:=ne_emp ((share_over hu.w hv.w).trans canE_ne.symm)
 have h2:(!(canE (overM u.w v.r++overM u.r v.w)).isEmpty)=(shareM u.w v.r||shareM u.r v.w):=ne_emp (by
  rw [canE_ne,Bool.or_eq_true,share_over hu.w hv.r,share_over hu.r hv.w]
  simp only [ne_eq,List.append_eq_nil_iff]
  constructor
  ·rintro (h|h) ⟨e1,e2⟩
   ·exact h e1
   ·exact h e2
  ·intro h
   by_cases e:overM u.w v.r=[]
   ·exact .inr fun e2=>h ⟨e,e2⟩
   ·exact .inl e)
 have h3:(!(comM u.i v.i).isEmpty)=shareM (u.i.map chE) (v.i.map chE):=ne_emp share_com
 have h4:(!(comM u.o v.o).isEmpty)=shareM (u.o.map chE) (v.o.map chE):=ne_emp share_com
 unfold betM
 simp only [List.any_append]
 refine ⟨?_,?_,?_,?_⟩
 ·rw [any_map_const (b:=true) (fun _ _=>rfl),any_map_const (b:=false) (fun _ _=>rfl),any_map_const (b:=false) (fun _ _=>rfl),any_map_const (b:=false) (fun _ _=>rfl),h1];simp
 ·rw [any_map_const (b:=false) (fun _ _=>rfl),any_map_const (b:=true) (fun _ _=>rfl),any_map_const (b:=false) (fun _ _=>rfl),any_map_const (b:=false) (fun _ _=>rfl),h2];simp
 ·rw [any_map_const (b:=false) (fun _ _=>rfl),any_map_const (b:=false) (fun _ _=>rfl),any_map_const (b:=true) (fun _ _=>rfl),any_map_const (b:=false) (fun _ _=>rfl),h3];simp
 ·rw [any_map_const (b:=false) (fun _ _=>rfl),any_map_const (b:=false) (fun _ _=>rfl),any_map_const (b:=false) (fun _ _=>rfl),any_map_const (b:=true) (fun _ _=>rfl),h4];simp
end Go.Proofs.YtafcodjilcljeaaGreat
