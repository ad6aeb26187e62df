/-
  Texts P18b Q18i Q18j Q18k P18c Q17h Q17j Q17k Q18l P18d Q18m Q18q Q18r Q18n Q18o Q18p Q18t Q18v Q18w Q17z P18e Q18x P18f P18g. Conditions: as each theorem says.
-/
import Derived.Test.YthdgpbgjmbkleaaGreatU3
import Derived.Test.YthdgpbgjmbkleaaGreatU5
import Derived.Test.YthdgpbgjmbkleaaGreatU4
import Derived.Test.YthdgpbgjmbkleaaGreatU2
set_option linter.unusedVariables false
set_option linter.unusedSimpArgs false
set_option maxRecDepth 100000
set_option maxHeartbeats 4000000
namespace Go.Proofs.YthdgpbgjmbkleaaGreat
open Go Go.Tp
mutual
def okF(I:PR→Prop)(next high:Bool):PR→Prop
 |⟨k,c,v,i,to,e,gs,l⟩=>(I ⟨k,c,v,i,to,e,gs,l⟩∧(k=16→next=true)∧(k=11→high=false))∧okFl I (next&&(k==9||k==10||k==11)) (next&&(k==10||k==11)) (high||k==11) high l∧okFs I high gs
def okFl(I:PR→Prop)(n0 n1 h0 h1:Bool):List PR→Prop
 | []=>True
 |p::r=>okF I n0 h0 p∧okFl I n1 n1 h1 h1 r
def okFg(I:PR→Prop)(high:Bool):GD→Prop
 |⟨_,_,_,_,_,_,b⟩=>okFl I false false high high b
def okFs(I:PR→Prop)(high:Bool):List GD→Prop
 | []=>True
 |g::r=>okFg I high g∧okFs I high r
end
section
variable{I:PR→Prop}
theorem okF_eq{next high:Bool}(p:PR):okF I next high p↔(I p∧(p.kind=16→next=true)∧(p.kind=11→high=false))∧okFl I (next&&(p.kind==9||p.kind==10||p.kind==11)) (next&&(p.kind==10||p.kind==11)) (high||p.kind==11) high p.l∧okFs I high p.gs:=by
 obtain ⟨k,c,v,i,to,e,gs,l⟩:=p
 rw [okF]
theorem okFg_eq{high:Bool}(g:GD):okFg I high g↔okFl I false false high high g.body:=by
 obtain ⟨k,e,c,i,to,t,b⟩:=g
 rw [okFg]
theorem okFl_1{n0 n1 h0 h1:Bool}{p:PR}{r:List PR}:okFl I n0 n1 h0 h1 (p::r)↔okF I n0 h0 p∧okFl I n1 n1 h1 h1 r:=by rw [okFl]
theorem okFl_0{n0 n1 h0 h1:Bool}:okFl I n0 n1 h0 h1 []:=by rw [okFl];trivial
theorem okFs_mem{high:Bool}: ∀{l:List GD},okFs I high l→ ∀g,g∈l→okFg I high g
 | [],_,g,h=>by cases h
 |y::r,hw,g,h=>by
  rw [okFs] at hw
  rcases List.mem_cons.1 h with rfl|h
  ·exact hw.1
  ·exact okFs_mem hw.2 g h
theorem okFs_of{high:Bool}: ∀{l:List GD},(∀g,g∈l→okFg I high g)→okFs I high l
 | [],_=>by rw [okFs];trivial
 |y::r,h=>by rw [okFs];exact ⟨h y (.head _),okFs_of fun x hx=>h x (.tail _ hx)⟩
theorem okFl_mem{n1 h1:Bool}: ∀{l:List PR},okFl I n1 n1 h1 h1 l→ ∀x,x∈l→okF I n1 h1 x
 | [],_,x,h=>by cases h
 |y::r,hw,x,h=>by
  rw [okFl] at hw
  rcases List.mem_cons.1 h with rfl|h
  ·exact hw.1
  ·exact okFl_mem hw.2 x h
theorem okFl_some{n0 n1 h0 h1:Bool}{l:List PR}(hw:okFl I n0 n1 h0 h1 l){x:PR}(hx:x∈l): ∃n h,okF I n h x:=by
 cases l with
 |nil=>cases hx
 |cons y r=>
  rw [okFl] at hw
  rcases List.mem_cons.1 hx with rfl|h
  ·exact ⟨_,_,hw.1⟩
  ·exact ⟨_,_,okFl_mem hw.2 x h⟩
theorem okFl_mono{h0 h1:Bool}: ∀{l:List PR} {n0 n1 n0' n1':Bool},(∀x,x∈l→ ∀n n' h:Bool,(n=true→n'=true)→okF I n h x→okF I n' h x)→(n0=true→n0'=true)→(n1=true→n1'=true)→okFl I n0 n1 h0 h1 l→okFl I n0' n1' h0 h1 l
 | [],_,_,_,_,_,_,_,_=>okFl_0
 |x::r,n0,n1,n0',n1',hx,h,h',w=>by
  rw [okFl] at w⊢
  exact ⟨hx x (.head _) _ _ _ h w.1,go hx h' w.2⟩
where
 go {x:PR} {n1 n1' h1:Bool}: ∀{r:List PR},(∀y,y∈x::r→ ∀n n' h:Bool,(n=true→n'=true)→okF I n h y→okF I n' h y)→(n1=true→n1'=true)→okFl I n1 n1 h1 h1 r→okFl I n1' n1' h1 h1 r
 | [],_,_,_=>okFl_0
 |y::s,hx,h',w=>by
  rw [okFl] at w⊢
  refine ⟨hx y (.tail _ (.head _)) _ _ _ h' w.1,go (x:=x) (fun z hz=>hx z ?_) h' w.2⟩
  rcases List.mem_cons.1 hz with rfl|hz
  ·exact .head _
  ·exact .tail _ (.tail _ hz)
theorem okF_mono_n: ∀(m:Nat) (p:PR) (n n' h:Bool),SizeOf.sizeOf p≤m→(n=true→n'=true)→okF I n h p→okF I n' h p
 |0,p,_,_,_,h,_,_=>by
  obtain ⟨k,c,v,i,to,e,gs,l⟩:=p
  simp only [PR.mk.sizeOf_spec] at h;omega
 |m+1,p,n,n',h,hm,hn,w=>by
  rw [okF_eq] at w⊢
  obtain ⟨⟨w1,w2,w3⟩,w4,w5⟩:=w
  refine ⟨⟨w1,fun h=>hn (w2 h),w3⟩,okFl_mono (fun x hx n n' h hn w=>okF_mono_n m x n n' h (by have:=pr_lt hx;omega) hn w) (fun h=>?_) (fun h=>?_) w4,w5⟩
  ·rw [Bool.and_eq_true] at h⊢;exact ⟨hn h.1,h.2⟩
  ·rw [Bool.and_eq_true] at h⊢;exact ⟨hn h.1,h.2⟩
theorem okF_mono{p:PR}{n n' h:Bool}(hn:n=true→n'=true)(w:okF I n h p):okF I n' h p:=okF_mono_n _ p n n' h (Nat.le_refl _) hn w
structure Lax(I:PR→Prop):Prop where
 skip:I skipR
 stop:I stopR
 seq: ∀(p:PR) (l':List PR),p.kind=9→l'.length≤p.l.length→I p→I ⟨p.kind,p.c,p.v,p.item,p.to,p.e,p.gs,l'⟩
 par: ∀(p:PR) (l':List PR),l'.length=p.l.length→I p→I ⟨p.kind,p.c,p.v,p.item,p.to,p.e,p.gs,l'⟩
theorem ok_skip(L:Lax I)(n h:Bool):okF I n h skipR:=by
 rw [okF_eq]
 exact ⟨⟨L.skip,(by intro h;cases h),(by intro h;cases h)⟩,okFl_0,by show okFs I h [];rw [okFs];trivial⟩
theorem ok_stop(L:Lax I)(n h:Bool):okF I n h stopR:=by
 rw [okF_eq]
 exact ⟨⟨L.stop,(by intro h;cases h),(by intro h;cases h)⟩,okFl_0,by show okFs I h [];rw [okFs];trivial⟩
theorem normSq_ok(L:Lax I)(n h:Bool)(f:List PR→PR): ∀l:List PR,(∀l',l'.length≤l.length→okFl I n false h h l'→okF I n h (f l'))→(∀x,x∈l→ ∀n h,okF I n h x→okF I n h (normR x))→okFl I n false h h l→okF I n h (normSq f l)
 | [],_,_,_=>by rw [normSq_0];exact ok_skip L n h
 | [x],_,hx,w=>by
   rw [normSq_1]
   rw [okFl] at w
   exact hx x (.head _) _ _ w.1
 |x::y::s,hf,hx,w=>by
  have w0:=w
  rw [okFl] at w
  rw [normSq_2]
  split
  ·refine normSq_ok L n h f (y::s) (fun l' hl=>hf l' (by rw [List.length_cons];omega)) (fun z hz=>hx z (.tail _ hz)) ?_
   exact okFl_mono (fun x hx n n' h hn w=>okF_mono hn w) (by intro h;cases h) (by intro h;cases h) w.2
  ·refine hf _ (Nat.le_refl _) ?_
   rw [okFl]
   exact ⟨hx x (.head _) _ _ w.1,w.2⟩
theorem okFl_map{f:PR→PR}: ∀{l:List PR} {n0 n1 h0 h1:Bool},(∀x,x∈l→ ∀n h,okF I n h x→okF I n h (f x))→okFl I n0 n1 h0 h1 l→okFl I n0 n1 h0 h1 (l.map f)
 | [],_,_,_,_,_,_=>okFl_0
 |x::r,n0,n1,h0,h1,hx,w=>by
  rw [List.map_cons,okFl] at*
  refine ⟨hx x (.head _) _ _ w.1,?_⟩
  have:=w.2
  clear w
  induction r with
  |nil=>exact okFl_0
  |cons y s ih=>
   rw [List.map_cons,okFl] at*
   exact ⟨hx y (.tail _ (.head _)) _ _ this.1,ih (fun z hz=>hx z (by rcases List.mem_cons.1 hz with rfl|hz;exact .head _;exact .tail _ (.tail _ hz))) this.2⟩
theorem norm_ok_n(L:Lax I): ∀(m:Nat) (p:PR) (n h:Bool),SizeOf.sizeOf p≤m→okF I n h p→okF I n h (normR p)
 |0,p,_,_,h,_=>by
  obtain ⟨k,c,v,i,to,e,gs,l⟩:=p
  simp only [PR.mk.sizeOf_spec] at h;omega
 |m+1,p,n,h,hm,w=>by
  have hL: ∀x,x∈p.l→ ∀n h,okF I n h x→okF I n h (normR x):=fun x hx n h w=>norm_ok_n L m x n h (by have:=pr_lt hx;omega) w
  have w0:=w
  rw [okF_eq] at w
  obtain ⟨⟨w1,w2,w3⟩,w4,w5⟩:=w
  cases hb:bothB p with
  |true=>
   rw [normR_par hb]
   split
   ·exact ok_skip L n h
   ·rw [okF_eq]
    exact ⟨⟨L.par p _ (by rw [List.length_map]) w1,w2,w3⟩,okFl_map hL w4,w5⟩
  |false=>
   by_cases h9:p.kind=9
   ·rw [normR_seq h9]
    have e1:(n&&(p.kind==9||p.kind==10||p.kind==11))=n:=by rw [h9];cases n<;>rfl
    have e2:(n&&(p.kind==10||p.kind==11))=false:=by rw [h9];cases n<;>rfl
    have e3:(h||p.kind==11)=h:=by rw [h9];cases h<;>rfl
    rw [e1,e2,e3] at w4
    refine normSq_ok L n h _ p.l (fun l' hl hw=>?_) hL w4
    rw [okF_eq]
    refine ⟨⟨L.seq p l' h9 hl w1,w2,w3⟩,?_,w5⟩
    show okFl I (n&&(p.kind==9||p.kind==10||p.kind==11)) (n&&(p.kind==10||p.kind==11)) (h||p.kind==11) h l'
    rw [e1,e2,e3];exact hw
   ·rw [normR_else hb h9];exact w0
theorem norm_ok(L:Lax I){p:PR}{n h:Bool}(w:okF I n h p):okF I n h (normR p):=norm_ok_n L _ p n h (Nat.le_refl _) w
end
mutual
def compR(path:List Nat):PR→List (PR×List Nat)
 |⟨k,c,v,i,to,e,gs,l⟩=>if k=9 then compS path l else if k=10∨k=11 then compL path 0 l else [(⟨k,c,v,i,to,e,gs,l⟩,path)]
def compS(path:List Nat):List PR→List (PR×List Nat)
 | []=>[]
 |x::_=>compR path x
def compL(path:List Nat)(j:Nat):List PR→List (PR×List Nat)
 | []=>[]
 |x::r=>compR (path++[j]) x++compL path (j+1) r
end
mutual
def atR:PR→List Nat→Option PR
 |⟨k,c,v,i,to,e,gs,l⟩,path=>if k=9 then atS l path else if k=10∨k=11 then (match path with
  | []=>none
  |j::rest=>atL l j rest) else (match path with
  | []=>some ⟨k,c,v,i,to,e,gs,l⟩
  |_::_=>none)
def atS:List PR→List Nat→Option PR
 | [],_=>none
 |x::_,path=>atR x path
def atL:List PR→Nat→List Nat→Option PR
 | [],_,_=>none
 |x::_,0,path=>atR x path
 |_::r,j+1,path=>atL r j path
end
mutual
def repR(q:PR):PR→List Nat→PR
 |⟨k,c,v,i,to,e,gs,l⟩,path=>if k=9 then ⟨k,c,v,i,to,e,gs,repS q l path⟩ else if k=10∨k=11 then ⟨k,c,v,i,to,e,gs,match path with
  | []=>l
  |j::rest=>repL q l j rest⟩ else q
def repS(q:PR):List PR→List Nat→List PR
 | [],_=>[]
 |x::r,path=>repR q x path::r
def repL(q:PR):List PR→Nat→List Nat→List PR
 | [],_,_=>[]
 |x::r,0,path=>repR q x path::r
 |x::r,j+1,path=>x::repL q r j path
end
theorem compR_eq(path:List Nat)(p:PR):compR path p=if p.kind=9 then compS path p.l else if p.kind=10∨p.kind=11 then compL path 0 p.l else [(p,path)]:=by
 obtain ⟨k,c,v,i,to,e,gs,l⟩:=p
 rw [compR]
theorem atR_eq(p:PR)(path:List Nat):atR p path=if p.kind=9 then atS p.l path else if p.kind=10∨p.kind=11 then (match path with
 | []=>none
 |j::rest=>atL p.l j rest) else (match path with
 | []=>some p
 |_::_=>none):=by
 obtain ⟨k,c,v,i,to,e,gs,l⟩:=p
 rw [atR.eq_def]
theorem repR_eq(q p:PR)(path:List Nat):repR q p path=if p.kind=9 then ⟨p.kind,p.c,p.v,p.item,p.to,p.e,p.gs,repS q p.l path⟩ else if p.kind=10∨p.kind=11 then ⟨p.kind,p.c,p.v,p.item,p.to,p.e,p.gs,match path with
 | []=>p.l
 |j::rest=>repL q p.l j rest⟩ else q:=by
 obtain ⟨k,c,v,i,to,e,gs,l⟩:=p
 rw [repR.eq_def]
theorem repL_len(q:PR): ∀(l:List PR) (j:Nat) (path:List Nat),(repL q l j path).length=l.length
 | [],_,_=>by rw [repL]
 |x::r,0,path=>by rw [repL,List.length_cons,List.length_cons]
 |x::r,j+1,path=>by rw [repL,List.length_cons,List.length_cons,repL_len q r j path]
theorem atL_get: ∀{l:List PR} {j:Nat} {path:List Nat} {c:PR},atL l j path=some c→ ∃x,l[j]? =some x∧atR x path=some c
 | [],_,_,_,h=>by rw [atL] at h;cases h
 |x::r,0,path,c,h=>by rw [atL] at h;exact ⟨x,rfl,h⟩
 |x::r,j+1,path,c,h=>by
  rw [atL] at h
  obtain ⟨y,h1,h2⟩:=atL_get h
  exact ⟨y,by simpa using h1,h2⟩
theorem atL_of: ∀{l:List PR} {j:Nat} {path:List Nat} {x:PR},l[j]? =some x→atL l j path=atR x path
 | [],_,_,_,h=>by cases h
 |x::r,0,path,c,h=>by
  rw [atL];injection h with h;rw [h]
 |x::r,j+1,path,c,h=>by
  rw [atL];exact atL_of (by simpa using h)
theorem repL_set(q:PR): ∀{l:List PR} {j:Nat} {path:List Nat} {x:PR},l[j]? =some x→repL q l j path=l.set j (repR q x path)
 | [],_,_,_,h=>by cases h
 |x::r,0,path,c,h=>by
  rw [repL];injection h with h;rw [h];rfl
 |x::r,j+1,path,c,h=>by
  rw [repL,repL_set q (l:=r) (j:=j) (by simpa using h)];rfl
theorem at_kind_n: ∀(m:Nat) (p:PR) (s:List Nat) (c:PR),SizeOf.sizeOf p≤m→atR p s=some c→c.kind≠9∧c.kind≠10∧c.kind≠11
 |0,p,_,_,h,_=>by
  obtain ⟨k,c,v,i,to,e,gs,l⟩:=p
  simp only [PR.mk.sizeOf_spec] at h;omega
 |m+1,p,s,c,hm,h=>by
  rw [atR_eq] at h
  by_cases h9:p.kind=9
  ·rw [if_pos h9] at h
   match hl:p.l,h with
   |x::r,h=>
    rw [atS] at h
    have hx:x∈p.l:=by rw [hl];exact .head _
    exact at_kind_n m x s c (by have:=pr_lt hx;omega) h
  ·rw [if_neg h9] at h
   by_cases hb:p.kind=10∨p.kind=11
   ·rw [if_pos hb] at h
    match s,h with
    |j::rest,h=>
     obtain ⟨x,h1,h2⟩:=atL_get h
     exact at_kind_n m x rest c (by have:=pr_lt (List.mem_of_getElem? h1);omega) h2
   ·rw [if_neg hb] at h
    match s,h with
    | [],h=>injection h with h;rw [←h];omega
theorem at_kind{p c:PR}{s:List Nat}(h:atR p s=some c):c.kind≠9∧c.kind≠10∧c.kind≠11:=at_kind_n _ p s c (Nat.le_refl _) h
theorem compL_at{path:List Nat}{c:PR}{s:List Nat}: ∀{l:List PR} {j:Nat},(∀x,x∈l→ ∀pre,(c,s)∈compR pre x→ ∃u,s=pre++u∧atR x u=some c)→(c,s)∈compL path j l→ ∃i u,s=path++(j+i)::u∧atL l i u=some c
 | [],_,_,h=>by rw [compL] at h;cases h
 |x::r,j,hx,h=>by
  rw [compL] at h
  rcases List.mem_append.1 h with h|h
  ·obtain ⟨u,h1,h2⟩:=hx x (.head _) _ h
   exact ⟨0,u,by rw [h1];simp,by rw [atL];exact h2⟩
  ·obtain ⟨i,u,h1,h2⟩:=compL_at (fun y hy=>hx y (.tail _ hy)) h
   exact ⟨i+1,u,by rw [h1];congr 2;omega,by rw [atL];exact h2⟩
theorem comp_at_n: ∀(m:Nat) (p:PR) (pre s:List Nat) (c:PR),SizeOf.sizeOf p≤m→(c,s)∈compR pre p→ ∃u,s=pre++u∧atR p u=some c
 |0,p,_,_,_,h,_=>by
  obtain ⟨k,c,v,i,to,e,gs,l⟩:=p
  simp only [PR.mk.sizeOf_spec] at h;omega
 |m+1,p,pre,s,c,hm,h=>by
  have hL: ∀x,x∈p.l→ ∀pre,(c,s)∈compR pre x→ ∃u,s=pre++u∧atR x u=some c:=fun x hx pre h=>comp_at_n m x pre s c (by have:=pr_lt hx;omega) h
  rw [compR_eq] at h
  by_cases h9:p.kind=9
  ·rw [if_pos h9] at h
   match hl:p.l,h with
   | [],h=>rw [compS] at h;cases h
   |x::r,h=>
    rw [compS] at h
    obtain ⟨u,h1,h2⟩:=hL x (by rw [hl];exact .head _) _ h
    exact ⟨u,h1,by rw [atR_eq,if_pos h9,hl,atS];exact h2⟩
  ·rw [if_neg h9] at h
   by_cases hb:p.kind=10∨p.kind=11
   ·rw [if_pos hb] at h
    obtain ⟨i,u,h1,h2⟩:=compL_at hL h
    rw [Nat.zero_add] at h1
    exact ⟨i::u,h1,by rw [atR_eq,if_neg h9,if_pos hb];exact h2⟩
   ·rw [if_neg hb] at h
    have h:=List.mem_singleton.1 h
    injection h with h1 h2
    subst h1;subst h2
    exact ⟨[],by simp,by rw [atR_eq,if_neg h9,if_neg hb]⟩
theorem comp_at{p c:PR}{s:List Nat}(h:(c,s)∈compR [] p):atR p s=some c:=by
 obtain ⟨u,h1,h2⟩:=comp_at_n _ p [] s c (Nat.le_refl _) h
 rw [h1];exact h2
section
variable{I:PR→Prop}
theorem okFl_at{h0 h1:Bool}: ∀{l:List PR} {j:Nat} {x:PR},l[j]? =some x→okFl I true true h0 h1 l→ ∃h,okF I true h x
 | [],_,_,h,_=>by cases h
 |z::r,0,x,h,w=>by
  injection h with h;subst h
  rw [okFl] at w
  exact ⟨_,w.1⟩
 |z::r,j+1,x,h,w=>by
  rw [okFl] at w
  exact okFl_at (by simpa using h) w.2
theorem okFl_seth{h1:Bool}{x y:PR}(hy: ∀h,okF I true h x→okF I true h y): ∀{l:List PR} {j:Nat} {h0:Bool},l[j]? =some x→okFl I true true h0 h1 l→okFl I true true h0 h1 (l.set j y)
 | [],_,_,h,_=>by cases h
 |z::r,0,_,h,w=>by
  injection h with h;subst h
  rw [List.set_cons_zero,okFl]
  rw [okFl] at w
  exact ⟨hy _ w.1,w.2⟩
 |z::r,j+1,_,h,w=>by
  rw [List.set_cons_succ,okFl]
  rw [okFl] at w
  exact ⟨w.1,okFl_seth hy (by simpa using h) w.2⟩
theorem at_ok_n: ∀(m:Nat) (p:PR) (s:List Nat) (c:PR) (h:Bool),SizeOf.sizeOf p≤m→atR p s=some c→okF I true h p→ ∃h',okF I true h' c
 |0,p,_,_,_,h,_,_=>by
  obtain ⟨k,c,v,i,to,e,gs,l⟩:=p
  simp only [PR.mk.sizeOf_spec] at h;omega
 |m+1,p,s,c,h,hm,ha,w=>by
  have w0:=w
  rw [okF_eq] at w
  obtain ⟨⟨w1,w2,w3⟩,w4,w5⟩:=w
  rw [atR_eq] at ha
  by_cases h9:p.kind=9
  ·rw [if_pos h9] at ha
   match hl:p.l,ha with
   |x::r,ha=>
    rw [atS] at ha
    rw [hl,okFl,h9] at w4
    have hx:x∈p.l:=by rw [hl];exact .head _
    exact at_ok_n m x s c _ (by have:=pr_lt hx;omega) ha w4.1
  ·rw [if_neg h9] at ha
   by_cases hb:p.kind=10∨p.kind=11
   ·rw [if_pos hb] at ha
    have e1:(true&&(p.kind==9||p.kind==10||p.kind==11))=true:=by rcases hb with h|h<;>rw [h]<;>rfl
    have e2:(true&&(p.kind==10||p.kind==11))=true:=by rcases hb with h|h<;>rw [h]<;>rfl
    rw [e1,e2] at w4
    match s,ha with
    |j::rest,ha=>
     obtain ⟨x,h1,h2⟩:=atL_get ha
     obtain ⟨h',w'⟩:=okFl_at h1 w4
     exact at_ok_n m x rest c h' (by have:=pr_lt (List.mem_of_getElem? h1);omega) h2 w'
   ·rw [if_neg hb] at ha
    match s,ha with
    | [],ha=>injection ha with ha;subst ha;exact ⟨h,w0⟩
theorem at_ok{p c:PR}{s:List Nat}{h:Bool}(ha:atR p s=some c)(w:okF I true h p): ∃h',okF I true h' c:=at_ok_n _ p s c h (Nat.le_refl _) ha w
theorem rep_ok_n(L:Lax I)(q c:PR)(hq: ∀h,okF I true h c→okF I true h q): ∀(m:Nat) (p:PR) (s:List Nat) (h:Bool),SizeOf.sizeOf p≤m→atR p s=some c→okF I true h p→okF I true h (repR q p s)
 |0,p,_,_,h,_,_=>by
  obtain ⟨k,c,v,i,to,e,gs,l⟩:=p
  simp only [PR.mk.sizeOf_spec] at h;omega
 |m+1,p,s,h,hm,ha,w=>by
  have w0:=w
  rw [okF_eq] at w
  obtain ⟨⟨w1,w2,w3⟩,w4,w5⟩:=w
  rw [atR_eq] at ha
  rw [repR_eq]
  by_cases h9:p.kind=9
  ·rw [if_pos h9] at ha⊢
   match hl:p.l,ha with
   |x::r,ha=>
    rw [atS] at ha
    rw [repS]
    have hx:x∈p.l:=by rw [hl];exact .head _
    have ih:=fun h w=>rep_ok_n L q c hq m x s h (by have:=pr_lt hx;omega) ha w
    rw [okF_eq]
    refine ⟨⟨L.par p _ (by rw [hl];rfl) w1,w2,w3⟩,?_,w5⟩
    show okFl I (true&&(p.kind==9||p.kind==10||p.kind==11)) (true&&(p.kind==10||p.kind==11)) (h||p.kind==11) h (repR q x s::r)
    rw [hl] at w4
    have e1:(true&&(p.kind==9||p.kind==10||p.kind==11))=true:=by rw [h9];rfl
    rw [e1] at w4⊢
    rw [okFl] at w4⊢
    exact ⟨ih _ w4.1,w4.2⟩
  ·rw [if_neg h9] at ha⊢
   by_cases hb:p.kind=10∨p.kind=11
   ·rw [if_pos hb] at ha⊢
    have e1:(true&&(p.kind==9||p.kind==10||p.kind==11))=true:=by rcases hb with h|h<;>rw [h]<;>rfl
    have e2:(true&&(p.kind==10||p.kind==11))=true:=by rcases hb with h|h<;>rw [h]<;>rfl
    match s,ha with
    |j::rest,ha=>
     obtain ⟨x,h1,h2⟩:=atL_get ha
     have ih:=fun h w=>rep_ok_n L q c hq m x rest h (by have:=pr_lt (List.mem_of_getElem? h1);omega) h2 w
     rw [okF_eq]
     refine ⟨⟨L.par p _ (repL_len q _ _ _) w1,w2,w3⟩,?_,w5⟩
     show okFl I (true&&(p.kind==9||p.kind==10||p.kind==11)) (true&&(p.kind==10||p.kind==11)) (h||p.kind==11) h (repL q p.l j rest)
     rw [e1,e2] at w4⊢
     rw [repL_set q h1]
     exact okFl_seth ih h1 w4
   ·rw [if_neg hb] at ha⊢
    match s,ha with
    | [],ha=>injection ha with ha;rw [ha] at w0;exact hq _ w0
theorem rep_ok(L:Lax I){q c p:PR}{s:List Nat}{h:Bool}(hq: ∀h,okF I true h c→okF I true h q)(ha:atR p s=some c)(w:okF I true h p):okF I true h (repR q p s):=rep_ok_n L q c hq _ p s h (Nat.le_refl _) ha w
end
theorem wtL_set{y x:PR}(h:wtR y≤wtR x): ∀{l:List PR} {j:Nat},l[j]? =some x→wtL (l.set j y)≤wtL l
 | [],_,h=>by cases h
 |z::r,0,h=>by injection h with h;subst h;rw [List.set_cons_zero,wtL,wtL];omega
 |z::r,j+1,hx=>by
  have:=wtL_set h (l:=r) (j:=j) (by simpa using hx)
  rw [List.set_cons_succ,wtL,wtL];omega
theorem dwL_set{y x:PR}(h:dwR y≤dwR x): ∀{l:List PR} {j:Nat},l[j]? =some x→dwL (l.set j y)≤dwL l
 | [],_,h=>by cases h
 |z::r,0,h=>by injection h with h;subst h;rw [List.set_cons_zero,dwL,dwL];omega
 |z::r,j+1,hx=>by
  have:=dwL_set h (l:=r) (j:=j) (by simpa using hx)
  rw [List.set_cons_succ,dwL,dwL];omega
theorem wtS_head{x y:PR}{r:List PR}(h:wtR y≤wtR x):wtS (y::r)≤wtS (x::r):=by
 cases r with
 |nil=>rw [wtS_1,wtS_1];exact h
 |cons z s=>rw [wtS_2,wtS_2];omega
theorem dwS_head{x y:PR}{r:List PR}(h:dwR y≤dwR x):dwS (y::r)≤dwS (x::r):=by
 cases r with
 |nil=>rw [dwS_1,dwS_1];exact h
 |cons z s=>rw [dwS_2,dwS_2];omega
theorem rep_wt_n(q c:PR)(hq:wtR q≤wtR c)(hd:dwR q≤dwR c): ∀(m:Nat) (p:PR) (s:List Nat),SizeOf.sizeOf p≤m→atR p s=some c→wtR (repR q p s)≤wtR p∧dwR (repR q p s)≤dwR p
 |0,p,_,h,_=>by
  obtain ⟨k,c,v,i,to,e,gs,l⟩:=p
  simp only [PR.mk.sizeOf_spec] at h;omega
 |m+1,p,s,hm,ha=>by
  rw [atR_eq] at ha
  rw [repR_eq]
  by_cases h9:p.kind=9
  ·rw [if_pos h9] at ha⊢
   match hl:p.l,ha with
   |x::r,ha=>
    rw [atS] at ha
    rw [repS]
    have hx:x∈p.l:=by rw [hl];exact .head _
    have ih:=rep_wt_n q c hq hd m x s (by have:=pr_lt hx;omega) ha
    rw [wtR_eq p,dwR_eq p,wtR_eq,dwR_eq]
    show (if p.kind=9 then szGs p.gs+wtS (repR q x s::r) else _)≤_∧(if p.kind=9 then max (1+htGs p.gs) (dwS (repR q x s::r)) else _)≤_
    rw [if_pos h9,if_pos h9,if_pos h9,if_pos h9,hl]
    have:=wtS_head (r:=r) ih.1
    have:=dwS_head (r:=r) ih.2
    omega
  ·rw [if_neg h9] at ha⊢
   by_cases hb:p.kind=10∨p.kind=11
   ·rw [if_pos hb] at ha⊢
    match s,ha with
    |j::rest,ha=>
     obtain ⟨x,h1,h2⟩:=atL_get ha
     have ih:=rep_wt_n q c hq hd m x rest (by have:=pr_lt (List.mem_of_getElem? h1);omega) h2
     rw [wtR_eq p,dwR_eq p,wtR_eq,dwR_eq]
     show (if p.kind=9 then _ else if p.kind=10∨p.kind=11 then 2+szGs p.gs+wtL (repL q p.l j rest) else _)≤_∧(if p.kind=9 then _ else if p.kind=10∨p.kind=11 then 1+max (max 1 (htGs p.gs)) (dwL (repL q p.l j rest)) else _)≤_
     rw [if_neg h9,if_neg h9,if_neg h9,if_neg h9,if_pos hb,if_pos hb,if_pos hb,if_pos hb,repL_set q h1]
     have:=wtL_set ih.1 h1
     have:=dwL_set ih.2 h1
     omega
   ·rw [if_neg hb] at ha⊢
    match s,ha with
    | [],ha=>injection ha with ha;rw [ha];exact ⟨hq,hd⟩
theorem rep_wt{q c p:PR}{s:List Nat}(hq:wtR q≤wtR c)(hd:dwR q≤dwR c)(ha:atR p s=some c):wtR (repR q p s)≤wtR p:=(rep_wt_n q c hq hd _ p s (Nat.le_refl _) ha).1
theorem rep_dw{q c p:PR}{s:List Nat}(hq:wtR q≤wtR c)(hd:dwR q≤dwR c)(ha:atR p s=some c):dwR (repR q p s)≤dwR p:=(rep_wt_n q c hq hd _ p s (Nat.le_refl _) ha).2
theorem rep_at_n(q c:PR): ∀(m:Nat) (p:PR) (s t:List Nat) (d:PR),SizeOf.sizeOf p≤m→atR p s=some c→atR p t=some d→s≠t→atR (repR q p s) t=some d
 |0,p,_,_,_,h,_,_,_=>by
  obtain ⟨k,c,v,i,to,e,gs,l⟩:=p
  simp only [PR.mk.sizeOf_spec] at h;omega
 |m+1,p,s,t,d,hm,ha,hb',hne=>by
  rw [atR_eq] at ha hb'
  rw [repR_eq]
  by_cases h9:p.kind=9
  ·rw [if_pos h9] at ha hb'⊢
   match hl:p.l,ha,hb' with
   |x::r,ha,hb'=>
    rw [atS] at ha hb'
    rw [repS,atR_eq]
    have hx:x∈p.l:=by rw [hl];exact .head _
    show (if p.kind=9 then atS (repR q x s::r) t else _)=_
    rw [if_pos h9,atS]
    exact rep_at_n q c m x s t d (by have:=pr_lt hx;omega) ha hb' hne
  ·rw [if_neg h9] at ha hb'⊢
   by_cases hb:p.kind=10∨p.kind=11
   ·rw [if_pos hb] at ha hb'⊢
    match s,t,ha,hb',hne with
    |j::u,i::v,ha,hb',hne=>
     obtain ⟨x,h1,h2⟩:=atL_get ha
     obtain ⟨y,g1,g2⟩:=atL_get hb'
     rw [atR_eq]
     show (if p.kind=9 then _ else if p.kind=10∨p.kind=11 then atL (repL q p.l j u) i v else _)=_
     rw [if_neg h9,if_pos hb,repL_set q h1]
     by_cases hji:j=i
     ·subst hji
      rw [h1] at g1;injection g1 with g1;subst g1
      have hj:j<p.l.length:=by
       rcases Nat.lt_or_ge j p.l.length with h|h
       ·exact h
       ·rw [List.getElem?_eq_none h] at h1;cases h1
      rw [atL_of (x:=repR q x u) (by rw [List.getElem?_set_self hj])]
      exact rep_at_n q c m x u v d (by have:=pr_lt (List.mem_of_getElem? h1);omega) h2 g2 (fun e=>hne (by rw [e]))
     ·rw [atL_of (x:=y) (by rw [List.getElem?_set_ne hji];exact g1)];exact g2
   ·rw [if_neg hb] at ha hb'
    match s,t,ha,hb',hne with
    | [],[],ha,hb',hne=>exact (hne rfl).elim
theorem rep_at{q c d p:PR}{s t:List Nat}(ha:atR p s=some c)(hb:atR p t=some d)(hne:s≠t):atR (repR q p s) t=some d:=rep_at_n q c _ p s t d (Nat.le_refl _) ha hb hne
theorem row_oneA(L:List AV)(hL: ∀x,x∈L→ ∃cs,x= .ag cs∧oneA cs=true)(h:GH)(zs:List Value)(q:RpC h L zs): ∀z,z∈zs→allOne (cellsL z)=true:=by
 induction L generalizing zs with
 |nil=>rw [RpC_nil] at q;subst q;intro z hz;cases hz
 |cons x r ih=>
  rw [RpC_cons] at q
  obtain ⟨v,vs,rfl,q1,q2⟩:=q
  intro z hz
  rcases List.mem_cons.1 hz with rfl|hz
  ·obtain ⟨cs,rfl,ho⟩:=hL x (.head _)
   rw [Rp_ag] at q1
   obtain ⟨ds,rfl,q1⟩:=q1
   exact q1.one ho
  ·exact ih (fun y hy=>hL y (.tail _ hy)) vs q2 z hz
theorem oneG(l:List GD): ∀x,x∈encGl l→ ∃cs,x= .ag cs∧oneA cs=true:=by
 intro x hx
 rw [encGl_cells,List.mem_map] at hx
 obtain ⟨g,_,rfl⟩:=hx
 exact ⟨_,rfl,rfl⟩
theorem oneR(l:List PR): ∀x,x∈encRl l→ ∃cs,x= .ag cs∧oneA cs=true:=by
 intro x hx
 rw [encRl_cells,List.mem_map] at hx
 obtain ⟨g,_,rfl⟩:=hx
 exact ⟨_,rfl,rfl⟩
theorem cloneG_p(l:List GD)(hb:l.length≤16777216):FunE Tryz.prog gs0 127 [gsA l] [] (fun z:Value=> .ms z 18 l.length) (fun z=>[.row 18 z (encGl l)]) (fun _=>True):=by
 unfold FunE
 have hlen:=encGl_len l
 have hone:=oneG l
 show Fun _ _ _ [.sl 18 (encGl l) none] _ _
 generalize encGl l=L at hlen hone
 rw [←hlen] at hb⊢
 cases L with
 |nil=>
  refine Fun.of (S:=tt) (fn:=Tryz.f127) (n:=8) tt_ok Tryz.func127 rfl rfl rfl rfl fun w0 h0 F hgs=>?_
  refine y_ ?_
  refine A.eqNil rfl rfl rfl rfl rfl rfl rfl rfl fun b hb=>?_
  cases b
  ·refine y_ ?_
   refine A.lit0 rfl rfl rfl rfl rfl rfl rfl fun bl=>?_;refine y_ ?_;refine A.appendNewW rfl rfl rfl rfl rfl rfl rfl rfl rfl rfl rfl rfl rfl (by simp) (by simp) (fun x hx=>by injection hx with hx;subst hx;rfl) (row_oneA _ hone) fun z=>?_
   refine y_ ?_
   refine A.ret1 (Λ':=[.row 18 z _]) rfl rfl rfl sl_ ⟨z, .refl,rfl,trivial⟩
  ·refine y_ ?_
   refine A.emptyRow 2 18 rfl fun z=>?_
   refine A.ret1 (Λ':=[.row 18 z []]) rfl rfl rfl sl_ ⟨z, .refl,rfl,trivial⟩
 |cons x r=>
  refine Fun.of (S:=tt) (fn:=Tryz.f127) (n:=8) tt_ok Tryz.func127 rfl rfl rfl rfl fun w0 h0 F hgs=>?_
  refine y_ ?_
  refine A.eqNil rfl rfl rfl rfl rfl rfl rfl rfl fun b hb=>?_
  cases b
  case true=>cases hb rfl
  refine y_ ?_
  refine A.lit0 rfl rfl rfl rfl rfl rfl rfl fun bl=>?_;refine y_ ?_;refine A.appendNewW rfl rfl rfl rfl rfl rfl rfl rfl rfl rfl rfl rfl rfl (by show (x::r).length*18≤_;omega) (by show (x::r).length*18*160≤_;omega) (fun x hx=>by injection hx with hx;subst hx;rfl) (row_oneA _ hone) fun z=>?_
  refine y_ ?_
  refine A.ret1 (Λ':=[.row 18 z _]) rfl rfl rfl sl_ ⟨z, .refl,rfl,trivial⟩
theorem cloneR_p(l:List PR)(hb:l.length≤16777216):FunE Tryz.prog gs0 124 [rsA l] [] (fun z:Value=> .ms z 8 l.length) (fun z=>[.row 8 z (encRl l)]) (fun _=>True):=by
 unfold FunE
 have hlen:=encRl_len l
 have hone:=oneR l
 show Fun _ _ _ [.sl 8 (encRl l) none] _ _
 generalize encRl l=L at hlen hone
 rw [←hlen] at hb⊢
 cases L with
 |nil=>
  refine Fun.of (S:=tt) (fn:=Tryz.f124) (n:=8) tt_ok Tryz.func124 rfl rfl rfl rfl fun w0 h0 F hgs=>?_
  refine y_ ?_
  refine A.eqNil rfl rfl rfl rfl rfl rfl rfl rfl fun b hb=>?_
  cases b
  ·refine y_ ?_
   refine A.lit0 rfl rfl rfl rfl rfl rfl rfl fun bl=>?_;refine y_ ?_;refine A.appendNewW rfl rfl rfl rfl rfl rfl rfl rfl rfl rfl rfl rfl rfl (by simp) (by simp) (fun x hx=>by injection hx with hx;subst hx;rfl) (row_oneA _ hone) fun z=>?_
   refine y_ ?_
   refine A.ret1 (Λ':=[.row 8 z _]) rfl rfl rfl sl_ ⟨z, .refl,rfl,trivial⟩
  ·refine y_ ?_
   refine A.emptyRow 2 8 rfl fun z=>?_
   refine A.ret1 (Λ':=[.row 8 z []]) rfl rfl rfl sl_ ⟨z, .refl,rfl,trivial⟩
 |cons x r=>
  refine Fun.of (S:=tt) (fn:=Tryz.f124) (n:=8) tt_ok Tryz.func124 rfl rfl rfl rfl fun w0 h0 F hgs=>?_
  refine y_ ?_
  refine A.eqNil rfl rfl rfl rfl rfl rfl rfl rfl fun b hb=>?_
  cases b
  case true=>cases hb rfl
  refine y_ ?_
  refine A.lit0 rfl rfl rfl rfl rfl rfl rfl fun bl=>?_;refine y_ ?_;refine A.appendNewW rfl rfl rfl rfl rfl rfl rfl rfl rfl rfl rfl rfl rfl (by show (x::r).length*8≤_;omega) (by show (x::r).length*8*128≤_;omega) (fun x hx=>by injection hx with hx;subst hx;rfl) (row_oneA _ hone) fun z=>?_
  refine y_ ?_
  refine A.ret1 (Λ':=[.row 8 z _]) rfl rfl rfl sl_ ⟨z, .refl,rfl,trivial⟩
def ownG(g:GD):GD:=⟨g.kind,g.cond,g.c,g.item,g.to,g.time,g.body.map fun _=>skipR⟩
def ownR(p:PR):PR:=⟨if p.kind=16 then 14 else p.kind,p.c,p.v,p.item,p.to,p.e,p.gs.map ownG,p.l.map fun _=>skipR⟩
def waitsG(g:GD):Bool:=g.cond.kind==1&&(g.kind !=4||g.time.kind==1)
abbrev ckS(V:List KV)(C:List Int)(q:PR)(left:Int):AV:= .ag [varsA V,chsA C,AU8 q.kind,AI q.c,AI q.v,AU8 q.item,plsA q.to,kesA q.e,gsA q.gs,rsA q.l, .v (.slice none 0 0),AI left]
def rowM{α:Type}(f g:α→AV)(l:List α)(i:Nat):List AV:=(l.take i).map f++(l.drop i).map g
theorem rowM_len{α:Type}{f g:α→AV}{l:List α}{i:Nat}:(rowM f g l i).length=l.length:=by
 rw [rowM,List.length_append,List.length_map,List.length_map,List.length_take,List.length_drop];omega
theorem at_lt{α:Type}{l:List α}{i:Nat}{x:α}(hx:l[i]? =some x):i<l.length:=by
 rcases Nat.lt_or_ge i l.length with h|h
 ·exact h
 ·rw [List.getElem?_eq_none h] at hx;cases hx
theorem rowM_at{α:Type}{f g:α→AV}{l:List α}{i:Nat}{x:α}(hx:l[i]? =some x):(rowM f g l i)[i]? =some (g x):=by
 have hi:=at_lt hx
 rw [rowM,List.getElem?_append_right (by rw [List.length_map,List.length_take];omega),List.length_map,List.length_take,show i-min i l.length=0 by omega,List.getElem?_map,List.getElem?_drop,Nat.add_zero,hx];rfl
theorem rowM_set{α:Type}{f g:α→AV}{l:List α}{i:Nat}{x:α}(hx:l[i]? =some x):(rowM f g l i).set i (f x)=rowM f g l (i+1):=by
 have hi:=at_lt hx
 unfold rowM
 rw [List.set_append_right _ _ (by rw [List.length_map,List.length_take];omega),List.length_map,List.length_take,show i-min i l.length=0 by omega,drop_at hx,List.map_cons,List.set_cons_zero,List.take_add_one,hx]
 simp
theorem rowM_0{α:Type}{f g:α→AV}{l:List α}:rowM f g l 0=l.map g:=by rw [rowM];simp
theorem rowM_full{α:Type}{f g:α→AV}{l:List α}:rowM f g l l.length=l.map f:=by rw [rowM];simp
theorem skA_eq:cellsR skipR=skA:=plain_eq 1
theorem skip_A:Pure Tryz.prog gs0 69 [] skA:=by rw [←skA_eq];exact skip_p
theorem reps_eq{α:Type}(l:List α):encRl (l.map fun _=>skipR)=List.replicate l.length skA:=by
 rw [encRl_cells,List.map_map]
 induction l with
 |nil=>rfl
 |cons x r ih=>rw [List.map_cons,ih,List.length_cons,List.replicate_succ];show _::_=_;rw [←skA_eq];rfl
theorem ownG_A(g:GD):cellsG (ownG g)= .ag [AU8 g.kind,AU8 g.cond.kind,AU8 g.cond.oper,AU8 g.cond.to,AI32 g.cond.n,AI g.cond.v,kesA g.cond.l,AI g.c,AU8 g.item,AI g.to.v,kesA g.to.ix,AU8 g.time.kind,AU8 g.time.oper,AU8 g.time.to,AI32 g.time.n,AI g.time.v,kesA g.time.l, .sl 8 (List.replicate g.body.length skA) none]:=by
 rw [←reps_eq];rfl
theorem ownG_st(g:GD):stA ty29 (cellsG g) 17 (.sl 8 (List.replicate g.body.length skA) none)=some (cellsG (ownG g)):=by
 rw [ownG_A];rfl
theorem ckS_own(V:List KV)(C:List Int)(left:Int){p:PR}{k:Int}(h:(ownR p).kind=k):ckS V C (ownR p) left= .ag [varsA V,chsA C,AU8 k,AI p.c,AI p.v,AU8 p.item,plsA p.to,kesA p.e,gsA (p.gs.map ownG),rsA (p.l.map fun _=>skipR), .v (.slice none 0 0),AI left]:=by
 subst h;rfl
theorem itself_p(V:List KV)(C:List Int)(b:Nat)(q p:PR)(left:Int)(hwait:p.kind=16→ ∀g,g∈p.gs→waitsG g=true)(hgl:p.gs.length≤16)(hll:p.l.length≤2048)(hbl: ∀g,g∈p.gs→g.body.length≤2048)
 (hwf:WfN ⟨V,C,ownR p,[]⟩) (hm:mayK ⟨V,C,ownR p,[]⟩=true):
 FunE Tryz.prog gs0 98 [ptrA b,cellsR p] [.box b (ckS V C q left)] (fun _:Unit=>AB true) (fun _=>[.box b (ckS V C (ownR p) left)]) (fun _=>True):=by
 unfold FunE
 have hlen:((encRl p.l).length:Int)=p.l.length:=by rw [encRl_len]
 have hgn:p.gs.length≤16777216:=by omega
 have hrp:=repeat_p p.l.length (by omega)
 have hcl:=cloneG_p p.gs hgn
 have hk:=kmay_p _ hwf
 rw [hm] at hk
 refine Fun.of (S:=tt) (fn:=Tryz.f98) (n:=72) tt_ok Tryz.func98 rfl rfl rfl rfl fun w0 h0 F hgs=>?_
 refine y_ ?_
 refine A.b rfl fun b1=>?_
 refine y_ ?_
 refine A.draw 6 [2,3,4,0,1,5] (fun i=>if i=5 then [1] else []) [(0,skA),(5, .sl 8 (List.replicate p.l.length skA) none)] (by kernel_rfl) (by kernel_rfl) ?_
 refine w_ ?_
 refine WA.valE 11 rfl (x':=AI (p.l.length:Nat)) (ai_eq hlen) ?_
 refine cw_ skip_A ?_
 refine WA.lit rfl rfl rfl rfl rfl rfl rfl fun bw=>?_
 refine WA.c rfl rfl hrp (by repeat (first|exact SbPL.sub SbL.refl|refine SbPL.cons ?_ ?_|exact SbP.sub Sb.refl|refine SbP.pub (j:=1) rfl rfl ?_|exact SbP.sub Sb.own1|exact SbP.sub Sb.nil|focus (refine SbP.sub ?_;(repeat (first|exact Sb.refl|exact SbL.refl|refine SbL.cons ?_ ?_|exact Sb.nil|exact Sb.own1|refine Sb.own ?_|refine Sb.ag ?_|refine Sb.tp ?_));done))) ?_
 refine z_ ?_
 refine A.e rfl hcl .refl (List.Perm.refl _) fun z _=>?_
 refine A.rowRaw (List.mem_cons_self ..) fun a cp hz hcp=>?_
 rw [encGl_len] at hz hcp
 subst hz
 refine y_ ?_
 refine A.keep [0,3,4,19,20,21] rfl ?_
 refine A.entsEq (Λ':=[.row 18 (.slice a p.gs.length cp) (rowM (fun g=>cellsG (ownG g)) cellsG p.gs 0), .box b1 (.ag [AU8 p.kind,AI p.c,AI p.v,AU8 p.item,plsA p.to,kesA p.e, .ms (.slice a p.gs.length cp) 18 p.gs.length, .sl 8 (List.replicate p.l.length skA) none]), .box b (ckS V C q left)]) (by rw [rowM_0,encGl_cells]) ?_
 refine A.loopP (ι:=Nat) (fun i=>(⟨[(0,ptrA b),(3,ptrA b1),(4,AB false),(19, .ms (.slice a p.gs.length cp) 18 p.gs.length),(20,AI (p.gs.length:Nat)),(21,AI (i:Nat))],[]⟩,[.row 18 (.slice a p.gs.length cp) (rowM (fun g=>cellsG (ownG g)) cellsG p.gs i), .box b1 (.ag [AU8 p.kind,AI p.c,AI p.v,AU8 p.item,plsA p.to,kesA p.e, .ms (.slice a p.gs.length cp) 18 p.gs.length, .sl 8 (List.replicate p.l.length skA) none]), .box b (ckS V C q left)]))
  (fun i=>i≤p.gs.length) (fun i=>p.gs.length-i) 0 (Nat.zero_le _) rfl fun i hi ih=>?_
 refine y_ ?_
 refine k_ (fun hc=>?_) fun hc=>?_
 ·have hci:i<p.gs.length:=by simpa using hc
  clear hc
  refine Exists.elim (at_exN (l:=p.gs) (i:=i) hci) fun g hg=>?_
  have hgm:=List.mem_of_getElem? hg
  have hgb:=hbl g hgm
  have hln:(rowM (fun g=>cellsG (ownG g)) cellsG p.gs i).length=p.gs.length:=rowM_len
  have hat:=rowM_at (f:=fun g=>cellsG (ownG g)) (g:=cellsG) hg
  have hne:rowM (fun g=>cellsG (ownG g)) cellsG p.gs i≠[]:=by intro h;rw [h] at hln;simp at hln;omega
  have hbn:((encRl g.body).length:Int)=g.body.length:=by rw [encRl_len]
  have hrb:=repeat_p g.body.length (by omega)
  refine A.rowSome (a:=a) (n:=p.gs.length) (c:=cp) (sz:=18) (l:=rowM (fun g=>cellsG (ownG g)) cellsG p.gs i) hne fun bb o ha=>?_
  subst ha
  refine y_ ?_
  refine A.indexRow rfl rfl rfl rfl rfl rfl rfl rfl (by show (0:Int)≤(i:Nat);omega) (by rw [hln];omega) rfl ?_
  refine A.loadRow rfl rfl rfl rfl rfl rfl (y':=cellsG g) rfl hat rfl rfl ?_
  (refine b_ fun bx=>?_;refine y_ ?_)
  refine A.draw 9 [0,1,2,5,6,7,3,4,8] (fun i=>if i=8 then [4] else []) [(3,skA),(8, .sl 8 (List.replicate g.body.length skA) none)] (by kernel_rfl) (by kernel_rfl) ?_
  refine w_ ?_
  refine WA.valE 33 rfl (x':=AI (g.body.length:Nat)) (ai_eq hbn) ?_
  refine cw_ skip_A ?_
  refine WA.lit rfl rfl rfl rfl rfl rfl rfl fun bw=>?_
  refine WA.c rfl rfl hrb (by repeat (first|exact SbPL.sub SbL.refl|refine SbPL.cons ?_ ?_|exact SbP.sub Sb.refl|refine SbP.pub (j:=4) rfl rfl ?_|exact SbP.sub Sb.own1|exact SbP.sub Sb.nil|focus (refine SbP.sub ?_;(repeat (first|exact Sb.refl|exact SbL.refl|refine SbL.cons ?_ ?_|exact Sb.nil|exact Sb.own1|refine Sb.own ?_|refine Sb.ag ?_|refine Sb.tp ?_));done))) ?_
  refine WA.nil (l:=[]) rfl ?_
  refine A.indexRow rfl rfl rfl rfl rfl rfl rfl rfl (by show (0:Int)≤(i:Nat);omega) (by rw [hln];omega) rfl ?_
  refine A.epV 35 rfl ?_
  refine y_ ?_
  refine A.storeRowF i 17 ty98 rfl rfl rfl rfl rfl p.gs.length cp o ?_ hat (x':=cellsG (ownG g)) ?_ rfl rfl rfl (rowM_set (f:=fun g=>cellsG (ownG g)) (g:=cellsG) hg) ?_
  ·simp
  ·exact ownG_st g
  refine y_ ?_
  ((fail_if_success (refine A.lit? rfl ?_));refine A.gS rfl (fun hc=>?_) (fun hc=>?_))
  ·have hk16:p.kind=16:=by have h:(p.kind==16)=true:=hc;simpa using h
   have hw:=hwait hk16 g hgm
   unfold waitsG at hw
   rw [Bool.and_eq_true] at hw
   have hw1:g.cond.kind=1:=by simpa using hw.1
   refine y_ ?_
   refine F_ rfl (show (g.cond.kind !=1)=false by rw [hw1];rfl) ?_
   clear hc
   ((fail_if_success (refine A.lit? rfl ?_));refine A.gS rfl (fun hc=>?_) (fun hc=>?_))
   ·have hk4:g.kind=4:=by have h:(g.kind==4)=true:=hc;simpa using h
    have hw2:g.time.kind=1:=by have h:=hw.2;rw [hk4] at h;simpa using h
    refine y_ ?_
    refine e_ 56 rfl (x':=AB false) (ab_eq (by show (g.time.kind !=1)=false;rw [hw2];rfl)) ?_
    refine A.valE 21 rfl (x':=AI ((i+1:Nat):Int)) (inc_eq i (by omega)) ?_
    refine l_ (Λ':=[.row 18 (.slice (some ⟨bb,o,none⟩) p.gs.length cp) (rowM (fun g=>cellsG (ownG g)) cellsG p.gs (i+1)), .box b1 (.ag [AU8 p.kind,AI p.c,AI p.v,AU8 p.item,plsA p.to,kesA p.e, .ms (.slice (some ⟨bb,o,none⟩) p.gs.length cp) 18 p.gs.length, .sl 8 (List.replicate p.l.length skA) none]), .box b (ckS V C q left)]) ?_
    refine u_ (ih (i+1) (by omega) (by omega))
   ·refine y_ ?_
    refine A.valE 21 rfl (x':=AI ((i+1:Nat):Int)) (inc_eq i (by omega)) ?_
    refine l_ (Λ':=[.row 18 (.slice (some ⟨bb,o,none⟩) p.gs.length cp) (rowM (fun g=>cellsG (ownG g)) cellsG p.gs (i+1)), .box b1 (.ag [AU8 p.kind,AI p.c,AI p.v,AU8 p.item,plsA p.to,kesA p.e, .ms (.slice (some ⟨bb,o,none⟩) p.gs.length cp) 18 p.gs.length, .sl 8 (List.replicate p.l.length skA) none]), .box b (ckS V C q left)]) ?_
    refine u_ (ih (i+1) (by omega) (by omega))
  ·refine y_ ?_
   refine A.valE 21 rfl (x':=AI ((i+1:Nat):Int)) (inc_eq i (by omega)) ?_
   refine l_ (Λ':=[.row 18 (.slice (some ⟨bb,o,none⟩) p.gs.length cp) (rowM (fun g=>cellsG (ownG g)) cellsG p.gs (i+1)), .box b1 (.ag [AU8 p.kind,AI p.c,AI p.v,AU8 p.item,plsA p.to,kesA p.e, .ms (.slice (some ⟨bb,o,none⟩) p.gs.length cp) 18 p.gs.length, .sl 8 (List.replicate p.l.length skA) none]), .box b (ckS V C q left)]) ?_
   refine u_ (ih (i+1) (by omega) (by omega))
 have hci: ¬i<p.gs.length:=by simpa using hc
 have hil:i=p.gs.length:=by omega
 clear hc
 subst hil
 refine A.freezeRowV 3 (.slice a p.gs.length cp) (x':= .ag [AU8 p.kind,AI p.c,AI p.v,AU8 p.item,plsA p.to,kesA p.e, .sl 18 (p.gs.map fun g=>cellsG (ownG g)) none, .sl 8 (List.replicate p.l.length skA) none]) rfl (by rw [rowM_full];exact fz_) ?_
 refine A.entsEq (Λ':=[.box b1 (.ag [AU8 p.kind,AI p.c,AI p.v,AU8 p.item,plsA p.to,kesA p.e,gsA (p.gs.map ownG),rsA (p.l.map fun _=>skipR)]), .box b (ckS V C q left)]) (by rw [show gsA (p.gs.map ownG)= .sl 18 (p.gs.map fun g=>cellsG (ownG g)) none from by show AV.sl 18 (encGl _) none=_;rw [encGl_cells,List.map_map];rfl,show rsA (p.l.map fun _=>skipR)= .sl 8 (List.replicate p.l.length skA) none from by show AV.sl 8 (encRl _) none=_;rw [reps_eq]]) ?_
 clear ih
 refine y_ ?_
 refine k_ (fun hc=>?_) fun hc=>?_
 ·have hk16:p.kind=16:=by have h:(p.kind==16)=true:=hc;simpa using h
  have hko:(ownR p).kind=14:=by show (if p.kind=16 then (14:Int) else p.kind)=14;rw [if_pos hk16]
  rw [show encN ⟨V,C,ownR p,[]⟩= .ag [varsA V,chsA C,AU8 14,AI p.c,AI p.v,AU8 p.item,plsA p.to,kesA p.e,gsA (p.gs.map ownG),rsA (p.l.map fun _=>skipR),intsA []] from by rw [←hko];rfl] at hk
  rw [ckS_own V C left hko]
  refine y_ ?_
  refine c_ hk ?_
  refine A.ret1 (Λ':=[.box b _]) rfl rfl rfl sl_ ⟨(), .refl,rfl,trivial⟩
 ·have hk16:p.kind≠16:=by have h:(p.kind==16)=false:=hc;simpa using h
  have hko:(ownR p).kind=p.kind:=by show (if p.kind=16 then (14:Int) else p.kind)=p.kind;rw [if_neg hk16]
  rw [show encN ⟨V,C,ownR p,[]⟩= .ag [varsA V,chsA C,AU8 p.kind,AI p.c,AI p.v,AU8 p.item,plsA p.to,kesA p.e,gsA (p.gs.map ownG),rsA (p.l.map fun _=>skipR),intsA []] from by rw [←hko];rfl] at hk
  rw [ckS_own V C left hko]
  refine y_ ?_
  refine c_ hk ?_
  refine A.ret1 (Λ':=[.box b _]) rfl rfl rfl sl_ ⟨(), .refl,rfl,trivial⟩
structure ItsOk(V:List KV)(C:List Int)(p:PR):Prop where
 wait:p.kind=16→ ∀g,g∈p.gs→waitsG g=true
 gl:p.gs.length≤16
 ll:p.l.length≤2048
 body: ∀g,g∈p.gs→ ∃y,g.body=[y]
 wf:WfN ⟨V,C,ownR p,[]⟩
 may:mayK ⟨V,C,ownR p,[]⟩=true
abbrev fineE(V:List KV)(C:List Int)(b:Nat)(q p:PR)(left inside:Int)(next high:Bool):Prop:=
 FunE Tryz.prog gs0 49 [ptrA b,cellsR p,AI inside,AB next,AB high] [.box b (ckS V C q left)] (fun _:PR=>AB true) (fun q'=>[.box b (ckS V C q' (left-szR p))]) (fun _=>True)
theorem nowait{k:Int}{next high:Bool}(h16:k=16→next=true)(h11:k=11→high=false):(bif bif k==16 then !next else false then true else bif k==11 then high else false)=false:=by
 by_cases a:k=16
 ·rw [h16 a,a];rfl
 ·by_cases c:k=11
  ·rw [h11 c,c];rfl
  ·rw [show (k==16)=false from beq_eq_false_iff_ne.2 a,show (k==11)=false from beq_eq_false_iff_ne.2 c];rfl
theorem htL_le: ∀{ps:List PR} {x:PR},x∈ps→htR x≤htL ps
 | [],_,h=>by cases h
 |y::r,x,h=>by
  rw [htL]
  rcases List.mem_cons.1 h with rfl|h
  ·omega
  ·have:=htL_le h;omega
theorem htGs_le: ∀{gs:List GD} {x:GD},x∈gs→htG x≤htGs gs
 | [],_,h=>by cases h
 |y::r,x,h=>by
  rw [htGs]
  rcases List.mem_cons.1 h with rfl|h
  ·omega
  ·have:=htGs_le h;omega
theorem okFl_idx{I:PR→Prop}{n1 h1:Bool}: ∀{l:List PR} {i:Nat} {y:PR} {n0 h0:Bool},l[i]? =some y→okFl I n0 n1 h0 h1 l→okF I (if i=0 then n0 else n1) (if i=0 then h0 else h1) y
 | [],_,_,_,_,h,_=>by cases h
 |z::r,0,y,n0,h0,h,w=>by
  injection h with h;subst h
  rw [okFl] at w
  exact w.1
 |z::r,i+1,y,n0,h0,h,w=>by
  rw [okFl] at w
  have:=okFl_idx (i:=i) (by simpa using h) w.2
  rw [if_neg (by omega),if_neg (by omega)]
  by_cases hi:i=0
  ·rw [if_pos hi,if_pos hi] at this;exact this
  ·rw [if_neg hi,if_neg hi] at this;exact this
theorem fine_a(V:List KV)(C:List Int)(b:Nat)(q p:PR)(left inside:Int)(next high:Bool)(hok:okF (ItsOk V C) next high p)(hsz:(szR p:Int)≤left)(hl1:left≤81920)(hht:(htR p:Int)+inside≤96)(hin:0≤inside)
 (ih0: ∀(y q':PR) (lf:Int) (n h:Bool),szR y<szR p→okF (ItsOk V C) n h y→(szR y:Int)≤lf→lf≤81920→(htR y:Int)+(inside+1)≤96→fineE V C b q' y lf (inside+1) n h):fineE V C b q p left inside next high:=by
 have hok0:=hok
 rw [okF_eq] at hok
 obtain ⟨⟨hi,h16,h11⟩,hokl,hoks⟩:=hok
 have hpos:=szR_pos p
 have hhpos:=htR_pos p
 have hits:=itself_p V C b q p left hi.wait hi.gl hi.ll (fun g hg=>by obtain ⟨y,hy⟩:=hi.body g hg;rw [hy];show 1≤2048;omega) hi.wf hi.may
 have hgl:=hi.gl
 have hll:=hi.ll
 have n1:((encRl p.l).length:Int)=p.l.length:=by rw [encRl_len]
 have n2:((encGl p.gs).length:Int)=p.gs.length:=by rw [encGl_len]
 unfold fineE FunE
 refine Fun.of (S:=tt) (fn:=Tryz.f49) (n:=121) tt_ok Tryz.func49 rfl rfl rfl rfl fun w0 h0 F hgs=>?_
 refine y_ ?_
 refine A.b rfl fun b1=>?_
 refine y_ ?_
 refine F_ rfl (show (inside==96)=false by rw [beq_eq_false_iff_ne];omega) ?_
 refine F_ rfl (show (left==0)=false by rw [beq_eq_false_iff_ne];omega) ?_
 refine F_ rfl (show decide (2048<((encRl p.l).length:Int))=false by rw [decide_eq_false_iff_not,n1];omega) ?_
 refine A.valE 35 rfl (x':=AB false) (ab_eq (by show decide (16<((encGl p.gs).length:Int))=false;rw [decide_eq_false_iff_not,n2];omega)) ?_
 refine g_ ?_
 refine A.valE 51 rfl (x':=AB false) (ab_eq (nowait h16 h11)) ?_
 refine A.e rfl hits .refl (List.Perm.swap _ _ _) fun _ _=>?_
 refine y_ ?_
 refine A.entsEq (Λ':=[.box b (ckS V C (ownR p) (left-1)), .box b1 (cellsR p)]) (by rw [wr64 _ (by omega)];rfl) ?_
 refine A.valE 66 rfl (x':=AI (p.l.length:Nat)) (ai_eq n1) ?_
 refine A.keep [0,2,3,4,6,65,66,67] rfl ?_
 refine A.loopP (ι:=Nat×PR) (fun s=>(⟨[(0,ptrA b),(2,AI inside),(3,AB next),(4,AB high),(6,ptrA b1),(65,rsA p.l),(66,AI (p.l.length:Nat)),(67,AI (s.1:Nat))],[]⟩,[.box b (ckS V C s.2 (left-1-(szL (p.l.take s.1):Nat))), .box b1 (cellsR p)]))
  (fun s=>s.1≤p.l.length) (fun s=>p.l.length-s.1) (0,ownR p) (Nat.zero_le _) (by simp [szL]) fun s hs ih=>?_
 obtain ⟨i,q1⟩:=s
 simp only at hs
 refine y_ ?_
 refine k_ (fun hc=>?_) fun hc=>?_
 ·have hci:i<p.l.length:=by simpa using hc
  clear hc
  refine Exists.elim (at_exN (l:=p.l) (i:=i) hci) fun y hy=>?_
  have hym:=List.mem_of_getElem? hy
  have hbr:=branches_p p
  have htk:szL (p.l.take (i+1))=szL (p.l.take i)+szR y:=by rw [List.take_add_one,hy,szL_append];simp [szL]
  have hsy:szL (p.l.take (i+1))≤szL p.l:=by
   have:=szL_append (p.l.take (i+1)) (p.l.drop (i+1))
   rw [List.take_append_drop] at this;omega
  have hse:=szR_eq p
  have hhe:=htR_eq p
  have hhy:=htL_le hym
  have hfl:=okFl_idx hy hokl
  have hnx:(if i=0 then (next&&(p.kind==9||p.kind==10||p.kind==11)) else (next&&(p.kind==10||p.kind==11)))=(next&&(bothB p||(p.kind==9&&decide (i=0)))):=by
   unfold bothB
   by_cases h0:i=0
   ·rw [if_pos h0,decide_eq_true h0];cases next<;>cases (p.kind==9)<;>cases (p.kind==10)<;>cases (p.kind==11)<;>rfl
   ·rw [if_neg h0,decide_eq_false h0];cases next<;>cases (p.kind==9)<;>cases (p.kind==10)<;>cases (p.kind==11)<;>rfl
  have hhx:(if i=0 then (high||p.kind==11) else high)=(high||(p.kind==11&&decide (i=0))):=by
   by_cases h0:i=0
   ·rw [if_pos h0,decide_eq_true h0];cases high<;>cases (p.kind==11)<;>rfl
   ·rw [if_neg h0,decide_eq_false h0];cases high<;>cases (p.kind==11)<;>rfl
  rw [hnx,hhx] at hfl
  have ihy:=ih0 y q1 (left-1-(szL (p.l.take i):Nat)) _ _ (by omega) hfl (by omega) (by omega) (by omega)
  unfold fineE at ihy
  have e0:(((i:Nat):Int)==0)=decide (i=0):=by rw [Bool.eq_iff_iff];simp
  refine y_ ?_
  refine j_ rfl (encRl_at hy) (encR_eq y) ?_
  (refine b_ fun bx=>?_;refine y_ ?_)
  cases next with
  |true=>
   refine d_ 28 [0,1,2,3,4,5,6,18,7,8,9,10,11,12,13,14,15,16,17,19,20,21,22,23,24,25,26,27] [(7,AB (bothB p))] ?_
   refine WA.c rfl rfl hbr (.sub .refl) ?_
   refine v_ ?_
   refine WA.valE 89 rfl (x':=AB (true&&(bothB p||(p.kind==9&&decide (i=0))))) (ab_eq (by show (bif true then bif bothB p then true else bif p.kind==9 then (((i:Nat):Int)==0) else false else false)=_;rw [e0];cases bothB p<;>cases (p.kind==9)<;>rfl)) ?_
   refine WA.valE 99 rfl (x':=AB (high||(p.kind==11&&decide (i=0)))) (ab_eq (by show (bif high then true else bif p.kind==11 then (((i:Nat):Int)==0) else false)=_;rw [e0];cases high<;>cases (p.kind==11)<;>rfl)) ?_
   refine WA.valE 75 rfl (x':=AI (inside+1)) (ai_eq (wr64 _ (by omega))) ?_
   refine WA.nil (l:=[]) rfl ?_
   refine A.e rfl ihy .refl (List.Perm.swap _ _ _) fun q2 _=>?_
   refine y_ ?_
   refine A.valE 67 rfl (x':=AI ((i+1:Nat):Int)) (inc_eq i (by omega)) ?_
   refine A.less (Λ':=[.box b (ckS V C q2 (left-1-(szL (p.l.take (i+1)):Nat))), .box b1 (cellsR p)]) (by rw [show left-1-(szL (p.l.take (i+1)):Nat)=left-1-(szL (p.l.take i):Nat)-szR y by rw [htk];omega];exact sl_) ?_
   refine u_ (ih (i+1,q2) (by show i+1≤_;omega) (by show _-(i+1)<_-i;omega))
  |false=>
   refine A.draw 28 [0,1,2,3,4,5,6,18,7,8,9,10,11,12,13,14,15,16,17,19,20,21,22,23,24,25,26,27] noPubs [(7,AB (bothB p))] (by kernel_rfl) (by kernel_rfl) ?_
   refine v_ ?_
   refine WA.valE 89 rfl (x':=AB (false&&(bothB p||(p.kind==9&&decide (i=0))))) (ab_eq rfl) ?_
   refine WA.valE 99 rfl (x':=AB (high||(p.kind==11&&decide (i=0)))) (ab_eq (by show (bif high then true else bif p.kind==11 then (((i:Nat):Int)==0) else false)=_;rw [e0];cases high<;>cases (p.kind==11)<;>rfl)) ?_
   refine WA.valE 75 rfl (x':=AI (inside+1)) (ai_eq (wr64 _ (by omega))) ?_
   refine WA.nil (l:=[]) rfl ?_
   refine A.e rfl ihy .refl (List.Perm.swap _ _ _) fun q2 _=>?_
   refine y_ ?_
   refine A.valE 67 rfl (x':=AI ((i+1:Nat):Int)) (inc_eq i (by omega)) ?_
   refine A.less (Λ':=[.box b (ckS V C q2 (left-1-(szL (p.l.take (i+1)):Nat))), .box b1 (cellsR p)]) (by rw [show left-1-(szL (p.l.take (i+1)):Nat)=left-1-(szL (p.l.take i):Nat)-szR y by rw [htk];omega];exact sl_) ?_
   refine u_ (ih (i+1,q2) (by show i+1≤_;omega) (by show _-(i+1)<_-i;omega))
 have hci: ¬i<p.l.length:=by simpa using hc
 have hil:i=p.l.length:=by omega
 clear hc ih
 subst hil
 rw [List.take_length]
 refine y_ ?_
 refine A.valE 105 rfl (x':=AI (p.gs.length:Nat)) (ai_eq n2) ?_
 refine A.keep [0,2,3,4,6,104,105,106] rfl ?_
 refine A.loopP (ι:=Nat×PR) (fun s=>(⟨[(0,ptrA b),(2,AI inside),(3,AB next),(4,AB high),(6,ptrA b1),(104,gsA p.gs),(105,AI (p.gs.length:Nat)),(106,AI (s.1:Nat))],[]⟩,[.box b (ckS V C s.2 (left-1-(szL p.l:Nat)-(szGs (p.gs.take s.1):Nat))), .box b1 (cellsR p)]))
  (fun s=>s.1≤p.gs.length) (fun s=>p.gs.length-s.1) (0,q1) (Nat.zero_le _) (by simp [szGs]) fun s hs ih=>?_
 obtain ⟨j,q2⟩:=s
 simp only at hs
 have hse:=szR_eq p
 have hhe:=htR_eq p
 refine y_ ?_
 refine k_ (fun hc=>?_) fun hc=>?_
 ·have hcj:j<p.gs.length:=by simpa using hc
  clear hc
  refine Exists.elim (at_exN (l:=p.gs) (i:=j) hcj) fun g hg=>?_
  have hgm:=List.mem_of_getElem? hg
  refine Exists.elim (hi.body g hgm) fun y hy=>?_
  have hgs1:szG g=szR y:=by rw [szG_eq,hy,szL,szL];omega
  have hgh1:htG g=htR y:=by rw [htG_eq,hy,htL,htL];omega
  have htk:szGs (p.gs.take (j+1))=szGs (p.gs.take j)+szR y:=by rw [List.take_add_one,hg,szGs_append];show _+szGs [g]=_;rw [szGs,szGs,hgs1];omega
  have hsy:szGs (p.gs.take (j+1))≤szGs p.gs:=by
   have:=szGs_append (p.gs.take (j+1)) (p.gs.drop (j+1))
   rw [List.take_append_drop] at this;omega
  have hhy:=htGs_le hgm
  have hok1:=okFs_mem hoks g hgm
  rw [okFg_eq,hy,okFl] at hok1
  have ihy:=ih0 y q2 (left-1-(szL p.l:Nat)-(szGs (p.gs.take j):Nat)) false high (by omega) hok1.1 (by omega) (by omega) (by omega)
  unfold fineE at ihy
  refine y_ ?_
  refine j_ rfl (encGl_at hg) (encG_eq g) ?_
  (refine b_ fun bx=>?_;refine y_ ?_)
  refine i_ rfl (show (encRl g.body)[(0:Int).toNat]? =some (encR y) from encRl_at (by rw [hy];rfl)) (encR_eq y) ?_
  refine A.valE 116 rfl (x':=AI (inside+1)) (ai_eq (wr64 _ (by omega))) ?_
  refine A.e rfl ihy .refl (List.Perm.swap _ _ _) fun q3 _=>?_
  refine y_ ?_
  refine A.valE 106 rfl (x':=AI ((j+1:Nat):Int)) (inc_eq j (by omega)) ?_
  refine A.less (Λ':=[.box b (ckS V C q3 (left-1-(szL p.l:Nat)-(szGs (p.gs.take (j+1)):Nat))), .box b1 (cellsR p)]) (by rw [show left-1-(szL p.l:Nat)-(szGs (p.gs.take (j+1)):Nat)=left-1-(szL p.l:Nat)-(szGs (p.gs.take j):Nat)-szR y by rw [htk];omega];exact sl_) ?_
  refine u_ (ih (j+1,q3) (by show j+1≤_;omega) (by show _-(j+1)<_-j;omega))
 have hcj: ¬j<p.gs.length:=by simpa using hc
 have hjl:j=p.gs.length:=by omega
 clear hc ih
 subst hjl
 rw [List.take_length]
 refine y_ ?_
 refine A.entsEq (Λ':=[.box b (ckS V C q2 (left-szR p)), .box b1 (cellsR p)]) (by rw [show left-1-(szL p.l:Nat)-(szGs p.gs:Nat)=left-szR p by omega]) ?_
 refine A.ret1 (Λ':=[.box b _]) rfl rfl rfl sl_ ⟨q2, .refl,rfl,trivial⟩
theorem fine_n(V:List KV)(C:List Int)(b:Nat): ∀(N:Nat) (q p:PR) (left inside:Int) (next high:Bool),szR p≤N→okF (ItsOk V C) next high p→(szR p:Int)≤left→left≤81920→(htR p:Int)+inside≤96→0≤inside→fineE V C b q p left inside next high
 |0,q,p,_,_,_,_,h,_,_,_,_,_=>by have:=szR_pos p;omega
 |N+1,q,p,left,inside,next,high,h,hok,h1,h2,h3,h4=>fine_a V C b q p left inside next high hok h1 h2 h3 h4 fun y q' lf n hi hs hk a1 a2 a3=>fine_n V C b N q' y lf (inside+1) n hi (by omega) hk a1 a2 a3 (by omega)
theorem fine_p(V:List KV)(C:List Int)(b:Nat)(q p:PR)(left inside:Int)(next high:Bool)(hok:okF (ItsOk V C) next high p)(h1:(szR p:Int)≤left)(h2:left≤81920)(h3:(htR p:Int)+inside≤96)(h4:0≤inside):fineE V C b q p left inside next high:=fine_n V C b _ q p left inside next high (Nat.le_refl _) hok h1 h2 h3 h4
structure KOk(V:List KV)(C:List Int):Prop where
 vl:V.length≤256
 cl:2≤C.length
 cu:C.length≤64
 var:V.all varOk=true
 ch:okCh 0 C=true
abbrev asAlt(p:PR):PR:=⟨if p.kind=16 then 14 else p.kind,p.c,p.v,p.item,p.to,p.e,p.gs,p.l⟩
structure Loc(V:List KV)(C:List Int)(p:PR):Prop where
 kind:kindB V C.length (asAlt p)=true
 wait:p.kind=16→ ∀g,g∈p.gs→waitsG g=true
 room:1+p.l.length+p.gs.length≤2048
 to: ∀t,t∈p.to→wfPl t∧smP t
 e: ∀x,x∈p.e→wfK x∧smK x
 gs: ∀g,g∈p.gs→(wfK g.cond∧smK g.cond)∧(wfK g.time∧smK g.time)∧(wfPl g.to∧smP g.to)
theorem guardB_own(V:List KV)(n:Nat)(c:Bool)(g:GD):guardB V n (ownG g) c=guardB V n g c:=by
 obtain ⟨k,e,c',i,to,t,b⟩:=g
 unfold guardB
 show ((List.length (b.map fun _=>skipR)==1)&&_&&_&&_)=_
 rw [List.length_map];rfl
theorem kindB_len(V:List KV)(n:Nat){k c v i:Int}{to:List PL}{e:List KE}{gs:List GD}{l l':List PR}(h:l'.length=l.length):kindB V n ⟨k,c,v,i,to,e,gs,l'⟩=kindB V n ⟨k,c,v,i,to,e,gs,l⟩:=by
 simp only [kindB,shapeR,PR.l,h]
theorem kindB_gs(V:List KV)(n:Nat){k c v i:Int}{to:List PL}{e:List KE}{gs:List GD}{l:List PR}:kindB V n ⟨k,c,v,i,to,e,gs.map ownG,l⟩=kindB V n ⟨k,c,v,i,to,e,gs,l⟩:=by
 have h: ∀b,((fun g=>guardB V n g b)∘ownG)=fun g=>guardB V n g b:=fun b=>funext fun g=>guardB_own V n b g
 simp only [kindB,shapeR,PR.gs,PR.kind,List.length_map,List.all_map,h]
theorem kindB_own(V:List KV)(n:Nat)(p:PR):kindB V n (ownR p)=kindB V n (asAlt p):=by
 unfold ownR
 rw [kindB_gs,kindB_len (l:=p.l) V n (by rw [List.length_map])]
theorem kind_lens{V:List KV}{n:Nat}{p:PR}(h:kindB V n p=true):p.to.length≤8∧p.e.length≤8∧p.gs.length≤16∧p.l.length≤2048:=by
 have h0: ∀{ch v:Bool} {t1 t2 e1 e2 g1 g2 l1 l2:Int},shapeR p ch v t1 t2 e1 e2 g1 g2 l1 l2=true→t2≤8→e2≤8→g2≤16→l2≤2048→p.to.length≤8∧p.e.length≤8∧p.gs.length≤16∧p.l.length≤2048:=fun hs a b c d=>by
  simp only [shapeR,inB,Bool.and_eq_true,decide_eq_true_eq] at hs
  omega
 unfold kindB at h
 by_cases k0:p.kind=1∨p.kind=2
 ·rw [if_pos k0] at h;exact h0 h (by decide) (by decide) (by decide) (by decide)
 rw [if_neg k0] at h
 by_cases k1:p.kind=3
 ·rw [if_pos k1,Bool.and_eq_true,Bool.and_eq_true] at h;exact h0 h.1.1 (by decide) (by decide) (by decide) (by decide)
 rw [if_neg k1] at h
 by_cases k2:p.kind=4
 ·rw [if_pos k2,Bool.and_eq_true,Bool.and_eq_true] at h;exact h0 h.1.1 (by decide) (by decide) (by decide) (by decide)
 rw [if_neg k2] at h
 by_cases k3:p.kind=5
 ·rw [if_pos k3,Bool.and_eq_true] at h;exact h0 h.1 (by decide) (by decide) (by decide) (by decide)
 rw [if_neg k3] at h
 by_cases k4:p.kind=6
 ·rw [if_pos k4,Bool.and_eq_true,Bool.and_eq_true] at h;exact h0 h.1.1 (by decide) (by decide) (by decide) (by decide)
 rw [if_neg k4] at h
 by_cases k5:p.kind=7
 ·rw [if_pos k5,Bool.and_eq_true] at h;exact h0 h.1 (by decide) (by decide) (by decide) (by decide)
 rw [if_neg k5] at h
 by_cases k6:p.kind=8
 ·rw [if_pos k6,Bool.and_eq_true] at h;exact h0 h.1 (by decide) (by decide) (by decide) (by decide)
 rw [if_neg k6] at h
 by_cases k7:p.kind=9
 ·rw [if_pos k7] at h;exact h0 h (by decide) (by decide) (by decide) (by decide)
 rw [if_neg k7] at h
 by_cases k8:p.kind=10
 ·rw [if_pos k8] at h;exact h0 h (by decide) (by decide) (by decide) (by decide)
 rw [if_neg k8] at h
 by_cases k9:p.kind=11
 ·rw [if_pos k9] at h;exact h0 h (by decide) (by decide) (by decide) (by decide)
 rw [if_neg k9] at h
 by_cases k10:p.kind=12∨p.kind=14∨p.kind=15
 ·rw [if_pos k10,Bool.and_eq_true] at h;exact h0 h.1 (by decide) (by decide) (by decide) (by decide)
 rw [if_neg k10] at h
 by_cases k11:p.kind=13
 ·rw [if_pos k11,Bool.and_eq_true] at h;exact h0 h.1 (by decide) (by decide) (by decide) (by decide)
 rw [if_neg k11] at h
 cases h
section
variable{V:List KV}{C:List Int}
theorem Loc.lens{p:PR}(h:Loc V C p):p.to.length≤8∧p.e.length≤8∧p.gs.length≤16∧p.l.length≤2048:=kind_lens (p:=asAlt p) h.kind
theorem Loc.body{p:PR}(h:Loc V C p): ∀g,g∈p.gs→ ∃y,g.body=[y]:=(kind_bodies (p:=asAlt p) h.kind).2.2
theorem skip_kind(n:Nat):kindB V n skipR=true:=rfl
theorem stop_kind(n:Nat):kindB V n stopR=true:=rfl
theorem wf_skip:wfR skipR:=by
 rw [skipR,wfR,wfGl,wfRl,wfKl]
 exact ⟨⟨(by intro t h;cases h),trivial,by decide,by decide,by decide⟩,trivial,trivial⟩
theorem skips_wf{α:Type}(l:List α):wfRl (l.map fun _=>skipR):=by
 induction l with
 |nil=>rw [List.map_nil,wfRl];trivial
 |cons x r ih=>rw [List.map_cons,wfRl];exact ⟨wf_skip,ih⟩
theorem skip_okR(n:Nat)(h:Bool):okR V n h skipR=true:=by
 rw [okR_eq,skip_kind]
 show (true&& !(h&&false)&&okL V n h false []&&okGs V n h [])=true
 rw [okL,okGs,Bool.and_false];rfl
theorem skips_ok{α:Type}(n:Nat)(h:Bool)(l:List α): ∀f,okL V n h f (l.map fun _=>skipR)=true:=by
 induction l with
 |nil=>intro f;rw [List.map_nil,okL]
 |cons x r ih=>intro f;rw [List.map_cons,okL,skip_okR,ih];rfl
theorem sz_skip:szR skipR=1:=by rw [szR_eq];show 1+szL []+szGs []=1;rw [szL,szGs]
theorem ht_skip:htR skipR=1:=by rw [htR_eq];show 1+max (htL []) (htGs [])=1;rw [htL,htGs];rfl
theorem skips_sz{α:Type}(l:List α):szL (l.map fun _=>skipR)=l.length∧htL (l.map fun _=>skipR)≤1:=by
 induction l with
 |nil=>rw [List.map_nil,szL,htL];exact ⟨rfl,by omega⟩
 |cons x r ih=>rw [List.map_cons,szL,htL,ih.1,sz_skip,ht_skip,List.length_cons];omega
theorem owns_ok(n:Nat)(h:Bool)(l:List GD):okGs V n h (l.map ownG)=true:=by
 induction l with
 |nil=>rw [List.map_nil,okGs]
 |cons x r ih=>
  rw [List.map_cons,okGs,ih,okG_eq]
  show (okL V n h false (x.body.map fun _=>skipR)&&true)=true
  rw [skips_ok];rfl
theorem owns_sz{l:List GD}(hb: ∀g,g∈l→ ∃y,g.body=[y]):szGs (l.map ownG)=l.length∧htGs (l.map ownG)≤1:=by
 induction l with
 |nil=>rw [List.map_nil,szGs,htGs];exact ⟨rfl,by omega⟩
 |cons x r ih=>
  obtain ⟨i1,i2⟩:=ih fun g hg=>hb g (.tail _ hg)
  obtain ⟨y,hy⟩:=hb x (.head _)
  rw [List.map_cons,szGs,htGs,i1,szG_eq,htG_eq]
  show szL (x.body.map fun _=>skipR)+_=_∧max (htL (x.body.map fun _=>skipR)) _≤1
  have h1:=skips_sz x.body
  rw [h1.1,hy]
  rw [hy] at h1
  have:=h1.2
  constructor
  ·show 1+r.length=r.length+1;omega
  ·omega
theorem owns_wf{l:List GD}(h: ∀g,g∈l→wfK g.cond∧wfK g.time∧wfPl g.to):wfGl (l.map ownG):=by
 induction l with
 |nil=>rw [List.map_nil,wfGl];trivial
 |cons x r ih=>
  rw [List.map_cons,wfGl]
  refine ⟨?_,ih fun g hg=>h g (.tail _ hg)⟩
  have:=h x (.head _)
  unfold ownG
  rw [wfG]
  exact ⟨⟨this.1,this.2.1,this.2.2⟩,skips_wf _⟩
theorem wfKl_of: ∀{l:List KE},(∀x,x∈l→wfK x)→wfKl l
 | [],_=>by rw [wfKl];trivial
 |y::r,h=>by rw [wfKl];exact ⟨h y (.head _),wfKl_of fun x hx=>h x (.tail _ hx)⟩
theorem Loc.its(K:KOk V C){p:PR}(h:Loc V C p):ItsOk V C p:=by
 obtain ⟨l1,l2,l3,l4⟩:=h.lens
 refine ⟨h.wait,l3,l4,h.body,⟨by have:=K.vl;show V.length≤_;omega,by have:=K.cu;show C.length≤_;omega,by show 0≤_;omega,?_⟩,?_⟩
 ·show wfR (ownR p)
  unfold ownR
  rw [wfR]
  exact ⟨⟨fun t ht=>(h.to t ht).1,wfKl_of fun x hx=>(h.e x hx).1,by omega,by rw [List.length_map];omega,by rw [List.length_map];omega⟩,owns_wf fun g hg=>⟨(h.gs g hg).1.1,(h.gs g hg).2.1.1,(h.gs g hg).2.2.1⟩,skips_wf _⟩
 ·have h1:okR V C.length false (ownR p)=true:=by
   rw [okR_eq,kindB_own,h.kind]
   show (true&& !(false&&_)&&okL V C.length false _ (p.l.map fun _=>skipR)&&okGs V C.length false (p.gs.map ownG))=true
   rw [skips_ok,owns_ok];rfl
  have h2:=skips_sz p.l
  have h3:=owns_sz h.body
  have h4:szR (ownR p)=1+p.l.length+p.gs.length:=by
   rw [szR_eq]
   show 1+szL (p.l.map fun _=>skipR)+szGs (p.gs.map ownG)=_
   rw [h2.1,h3.1]
  have h5:htR (ownR p)≤2:=by
   rw [htR_eq]
   show 1+max (htL (p.l.map fun _=>skipR)) (htGs (p.gs.map ownG))≤2
   omega
  have h6:fitsR V C.length false (ownR p) 2048 32:=⟨h1,by rw [h4];have:=h.room;omega,by omega⟩
  have h7:lensK ⟨V,C,ownR p,[]⟩=true:=by
   unfold lensK
   simp only [Bool.and_eq_true,decide_eq_true_eq]
   exact ⟨⟨K.vl,K.cl⟩,K.cu⟩
  unfold mayK
  rw [h7,decide_eq_true h6]
  show (true&&rootK ⟨V,C,ownR p,[]⟩&&okPr [] []&&V.all varOk&&okCh 0 C&&true)=true
  rw [K.var,K.ch];rfl
theorem loc_lax:Lax (Loc V C) where
 skip:=⟨skip_kind _,(by intro h;cases h),(by show 1+0+0≤2048;omega),(by intro t h;cases h),(by intro t h;cases h),(by intro t h;cases h)⟩
 stop:=⟨stop_kind _,(by intro h;cases h),(by show 1+0+0≤2048;omega),(by intro t h;cases h),(by intro t h;cases h),(by intro t h;cases h)⟩
 seq:=fun p l' h9 hl h=>by
  obtain ⟨k,c,v,i,to,e,gs,l⟩:=p
  have hl:l'.length≤l.length:=hl
  refine ⟨?_,h.wait,by have:=h.room;show 1+l'.length+gs.length≤2048;have h5:1+l.length+gs.length≤2048:=this;omega,h.to,h.e,h.gs⟩
  have h1:=h.kind
  unfold asAlt at h1⊢
  have h9:k=9:=h9
  subst h9
  have h2:shapeR ⟨9,c,v,i,to,e,gs,l⟩ false false 0 0 0 0 0 0 0 2048=true:=h1
  show shapeR ⟨9,c,v,i,to,e,gs,l'⟩ false false 0 0 0 0 0 0 0 2048=true
  simp only [shapeR,Bool.and_eq_true,inB,decide_eq_true_eq,PR.l,PR.gs,PR.to,PR.e,PR.c,PR.v,PR.item] at h2⊢
  refine ⟨h2.1,?_,?_⟩
  ·omega
  ·have:=h2.2.2;omega
 par:=fun p l' hl h=>by
  refine ⟨?_,h.wait,by have:=h.room;show 1+l'.length+p.gs.length≤2048;omega,h.to,h.e,h.gs⟩
  have h1:=h.kind
  unfold asAlt at h1⊢
  show kindB V C.length ⟨if p.kind=16 then 14 else p.kind,p.c,p.v,p.item,p.to,p.e,p.gs,l'⟩=true
  rw [kindB_len (l:=p.l) V C.length hl];exact h1
theorem okF_imp{I J:PR→Prop}(h: ∀p,I p→J p): ∀(m:Nat) (p:PR) (n hi:Bool),SizeOf.sizeOf p≤m→okF I n hi p→okF J n hi p
 |0,p,_,_,h,_=>by
  obtain ⟨k,c,v,i,to,e,gs,l⟩:=p
  simp only [PR.mk.sizeOf_spec] at h;omega
 |m+1,p,n,hi,hm,w=>by
  rw [okF_eq] at w⊢
  obtain ⟨⟨w1,w2,w3⟩,w4,w5⟩:=w
  have hl: ∀(l:List PR),(∀x,x∈l→SizeOf.sizeOf x≤m)→ ∀n0 n1 h0 h1,okFl I n0 n1 h0 h1 l→okFl J n0 n1 h0 h1 l:=by
   intro l
   induction l with
   |nil=>intro _ n0 n1 h0 h1 _;exact okFl_0
   |cons x r ih=>
    intro hx n0 n1 h0 h1 w
    rw [okFl] at w⊢
    exact ⟨okF_imp h m x n0 h0 (hx x (.head _)) w.1,ih (fun y hy=>hx y (.tail _ hy)) _ _ _ _ w.2⟩
  refine ⟨⟨h _ w1,w2,w3⟩,hl p.l (fun x hx=>by have:=pr_lt hx;omega) _ _ _ _ w4,okFs_of fun g hg=>?_⟩
  have:=okFs_mem w5 g hg
  rw [okFg_eq] at this⊢
  exact hl g.body (fun x hx=>by have:=gg_lt hg;have:=bd_lt hx;omega) _ _ _ _ this
theorem okF_its(K:KOk V C){p:PR}{n hi:Bool}(w:okF (Loc V C) n hi p):okF (ItsOk V C) n hi p:=okF_imp (fun p h=>h.its K) _ p n hi (Nat.le_refl _) w
theorem ok_kernel_n: ∀(m:Nat) (p:PR) (n hi:Bool),SizeOf.sizeOf p≤m→okR V C.length hi p=true→szR p≤2048→wfR p→smR p→okF (Loc V C) n hi p
 |0,p,_,_,h,_,_,_,_=>by
  obtain ⟨k,c,v,i,to,e,gs,l⟩:=p
  simp only [PR.mk.sizeOf_spec] at h;omega
 |m+1,p,n,hi,hm,hok,hsz,hwf,hsm=>by
  rw [okR_eq] at hok
  simp only [Bool.and_eq_true,Bool.not_eq_true'] at hok
  obtain ⟨⟨⟨o1,o2⟩,o3⟩,o4⟩:=hok
  have hw:=wfR_all hwf
  have hs:=smR_all hsm
  have hb:=kind_bodies o1
  have hse:=szR_eq p
  have hl: ∀(l:List PR),(∀x,x∈l→SizeOf.sizeOf x≤m∧wfR x∧smR x)→szL l≤2048→ ∀n0 n1 f,okL V C.length hi f l=true→okFl (Loc V C) n0 n1 (hi||f) hi l:=by
   intro l
   induction l with
   |nil=>intro _ _ n0 n1 f _;exact okFl_0
   |cons x r ih=>
    intro hx hz n0 n1 f w
    rw [okL,Bool.and_eq_true] at w
    rw [szL] at hz
    rw [okFl]
    have h1:=hx x (.head _)
    refine ⟨ok_kernel_n m x n0 (hi||f) h1.1 w.1 (by omega) h1.2.1 h1.2.2,?_⟩
    have:=ih (fun y hy=>hx y (.tail _ hy)) (by omega) n1 n1 false w.2
    rw [Bool.or_false] at this;exact this
  have hroom:1+p.l.length+p.gs.length≤2048:=by
   have h1: ∀l:List PR,l.length≤szL l:=by
    intro l
    induction l with
    |nil=>exact Nat.zero_le _
    |cons x r ih=>rw [szL,List.length_cons];have:=szR_pos x;omega
   have h2: ∀l:List GD,(∀g,g∈l→ ∃y,g.body=[y])→l.length≤szGs l:=by
    intro l
    induction l with
    |nil=>intro _;exact Nat.zero_le _
    |cons x r ih=>
     intro hb
     obtain ⟨y,hy⟩:=hb x (.head _)
     have:=ih fun g hg=>hb g (.tail _ hg)
     have:=szR_pos y
     rw [szGs,List.length_cons,szG_eq,hy,szL,szL];omega
   have:=h1 p.l
   have:=h2 p.gs hb.2.2
   omega
  rw [okF_eq]
  refine ⟨⟨⟨?_,fun h=>by omega,hroom,fun t ht=>⟨hw.to t ht,hs.to t ht⟩,fun x hx=>⟨hw.e x hx,hs.e x hx⟩,fun g hg=>?_⟩,fun h=>by omega,fun h=>?_⟩,hl p.l (fun x hx=>⟨by have:=pr_lt hx;omega,hw.l x hx,hs.l x hx⟩) (by omega) _ _ _ o3,okFs_of fun g hg=>?_⟩
  ·unfold asAlt
   rw [if_neg (by omega)]
   obtain ⟨k,c,v,i,to,e,gs,l⟩:=p
   exact o1
  ·have h1:=wfG_all (hw.g g hg)
   have h2:=smG_all (hs.g g hg)
   exact ⟨⟨h1.cond,h2.cond⟩,⟨h1.time,h2.time⟩,h1.to,h2.to⟩
  ·rw [h] at o2
   revert o2
   cases hi<;>simp
  ·rw [okFg_eq]
   have h1:=wfG_all (hw.g g hg)
   have h2:=smG_all (hs.g g hg)
   have h3: ∀(l:List GD),okGs V C.length hi l=true→ ∀g,g∈l→okG V C.length hi g=true:=by
    intro l
    induction l with
    |nil=>intro _ g hg;cases hg
    |cons x r ih=>
     intro h g hg
     rw [okGs,Bool.and_eq_true] at h
     rcases List.mem_cons.1 hg with rfl|hg
     ·exact h.1
     ·exact ih h.2 g hg
   have h4:=h3 p.gs o4 g hg
   rw [okG_eq] at h4
   have h5:=hl g.body (fun x hx=>⟨by have:=gg_lt hg;have:=bd_lt hx;omega,h1.body x hx,h2.body x hx⟩) (by have:=szGs_le hg;rw [szG_eq] at this;omega) false false false h4
   rw [Bool.or_false] at h5;exact h5
theorem ok_kernel{p:PR}{n hi:Bool}(hok:okR V C.length hi p=true)(hsz:szR p≤2048)(hwf:wfR p)(hsm:smR p):okF (Loc V C) n hi p:=ok_kernel_n _ p n hi (Nat.le_refl _) hok hsz hwf hsm
end
theorem sl_rows(hs:List (Value×List Int)):slL 1 (rowsH hs)=(hs.map Prod.snd).map rowA:=by simp [slL,rowsH]
abbrev s1:List (List Int):=[[5,6,7]]
abbrev v0:List KV:=[⟨1,0⟩,⟨3,3⟩]
theorem rows_pure{f:FuncId}{a:List AV}{n:Nat}{s:List (List Int)}(hf:FunE Tryz.prog gs0 f a [] (fun p:Value×List (Value×List Int)=> .ms p.1 1 n) (fun p=>[.rows 1 (rowsH p.2), .row 1 p.1 (msL 1 (rowsH p.2))]) (fun p=>p.2.map Prod.snd=s)):
 Pure Tryz.prog gs0 f a (rowsA s):=
 Fun.rows (Fun.mono hf fun x Λ' ⟨p,h1,h2,h3⟩=>⟨p.1,rowsH p.2,n,h1,h2,by rw [sl_rows,h3]⟩)
def storeS(l:List KV):List (List Int):=if soundsB l then storeM l else []
theorem Put_p(s:List (List Int))(v i x:Int)(h1:s.length≤1073741824)(h2: ∀r,r∈s→r.length≤35184372088832):Pure Tryz.prog gs0 46 [rowsA s,AI v,AI i,AI32 x] (rowsA (putM s v i x)):=
 rows_pure (put_p s v i x h1 h2)
def goodN(l:List KV)(i:Nat):Bool:=(l.take i).all soundB
theorem good_succ{l:List KV}{i:Nat}{v:KV}(h:l[i]? =some v):goodN l (i+1)=(goodN l i&&soundB v):=by
 rw [goodN,List.take_add_one,h,List.all_append];simp [goodN]
theorem good_all(l:List KV):goodN l l.length= !l.any (fun v=> !soundB v):=by
 rw [goodN,List.take_length];induction l with
 |nil=>rfl
 |cons x r ih=>rw [List.all_cons,List.any_cons,ih];cases soundB x<;>simp
theorem bad_sound{l:List KV}{i:Nat}{v:KV}(hv:l[i]? =some v)(h:soundB v=false):soundsB l=false:=by
 have:(l.any fun v=> !soundB v)=true:=List.any_eq_true.2 ⟨v,List.mem_of_getElem? hv,by rw [h];rfl⟩
 rw [soundsB,this];simp
theorem rsound_p(l:List KV)(hb:l.length≤281474976710656):Pure Tryz.prog gs0 50 [varsA l] (AB (soundsB l)):=by
 have hl:((l.map encV).length:Int)=l.length:=by rw [List.length_map]
 by_cases h:l.length≤256
 case neg=>
  refine p_ tt_ok Tryz.func50 51 fun w0 h0 F hgs=>?_
  refine y_ ?_
  refine e_ 6 rfl (x':=AB true) (ab_eq (by simp;omega)) ?_;refine R_ ?_;refine Sb.eq (ab_eq ?_);simp [soundsB,h]
 refine p_ tt_ok Tryz.func50 51 fun w0 h0 F hgs=>?_
 refine y_ ?_
 refine e_ 6 rfl (x':=AB false) (ab_eq (by simp;omega)) ?_
 refine A.keep [0,3] rfl ?_
 refine A.loopP (ι:=Nat) (fun i=>(⟨[(0,varsA l),(3,AI (i:Int))],[]⟩,[])) (fun i=>i≤l.length∧goodN l i=true) (fun i=>l.length-i) 0 ⟨by omega,rfl⟩ rfl fun i hi ih=>?_
 refine y_ ?_
 refine k_ (fun hc=>?_) fun hc=>?_
 ·simp at hc
  refine Exists.elim (at_exN (l:=l) (i:=i) (by omega)) fun v hv=>?_
  refine y_ ?_
  refine j_ rfl (map_at hv) rfl ?_
  refine g_ ?_
  by_cases k1:v.kind=1
  ·refine e_ 19 rfl (x':=AB false) (ab_eq (by simp [k1])) ?_;(refine j_ rfl (map_at hv) rfl ?_;refine g_ ?_;refine A.split 43 rfl (fun hd=>?_) (fun hd=>?_);(simp at hd;(refine y_ ?_;refine R_ ?_;exact Sb.eq (ab_eq (bad_sound hv (by simp [soundB];omega)).symm)));simp at hd;refine i_ rfl (map_at hv) rfl ?_;refine k_ (fun he=>?_) fun he=>?_;(simp at he;(refine y_ ?_;refine R_ ?_;exact Sb.eq (ab_eq (bad_sound hv (by simp [soundB];omega)).symm)));simp at he;refine y_ ?_;refine A.valE 3 rfl (x':=AI ((i+1:Nat):Int)) (inc_eq i (by omega)) ?_;refine u_ (ih (i+1) ⟨by omega,?_⟩ (by omega));rw [good_succ hv,hi.2];simp [soundB];omega)
  refine A.valE 19 rfl (x':=AB true) (ab_eq (by simp [k1])) ?_
  refine j_ rfl (map_at hv) rfl ?_
  refine g_ ?_
  by_cases k2:v.kind=2
  ·refine e_ 27 rfl (x':=AB false) (ab_eq (by simp [k2])) ?_;(refine j_ rfl (map_at hv) rfl ?_;refine g_ ?_;refine A.split 43 rfl (fun hd=>?_) (fun hd=>?_);(simp at hd;(refine y_ ?_;refine R_ ?_;exact Sb.eq (ab_eq (bad_sound hv (by simp [soundB];omega)).symm)));simp at hd;refine i_ rfl (map_at hv) rfl ?_;refine k_ (fun he=>?_) fun he=>?_;(simp at he;(refine y_ ?_;refine R_ ?_;exact Sb.eq (ab_eq (bad_sound hv (by simp [soundB];omega)).symm)));simp at he;refine y_ ?_;refine A.valE 3 rfl (x':=AI ((i+1:Nat):Int)) (inc_eq i (by omega)) ?_;refine u_ (ih (i+1) ⟨by omega,?_⟩ (by omega));rw [good_succ hv,hi.2];simp [soundB];omega)
  refine A.valE 27 rfl (x':=AB true) (ab_eq (by simp [k2])) ?_
  refine j_ rfl (map_at hv) rfl ?_
  refine g_ ?_
  by_cases k3:v.kind=3
  ·refine A.valE 35 rfl (x':=AB false) (ab_eq (by simp [k3])) ?_
   (refine j_ rfl (map_at hv) rfl ?_;refine g_ ?_;refine A.split 43 rfl (fun hd=>?_) (fun hd=>?_);(simp at hd;(refine y_ ?_;refine R_ ?_;exact Sb.eq (ab_eq (bad_sound hv (by simp [soundB];omega)).symm)));simp at hd;refine i_ rfl (map_at hv) rfl ?_;refine k_ (fun he=>?_) fun he=>?_;(simp at he;(refine y_ ?_;refine R_ ?_;exact Sb.eq (ab_eq (bad_sound hv (by simp [soundB];omega)).symm)));simp at he;refine y_ ?_;refine A.valE 3 rfl (x':=AI ((i+1:Nat):Int)) (inc_eq i (by omega)) ?_;refine u_ (ih (i+1) ⟨by omega,?_⟩ (by omega));rw [good_succ hv,hi.2];simp [soundB];omega)
  refine A.valE 35 rfl (x':=AB true) (ab_eq (by simp [k3])) ?_
  (refine y_ ?_;refine R_ ?_;exact Sb.eq (ab_eq (bad_sound hv (by simp [soundB];omega)).symm))
 ·simp at hc
  have:i=l.length:=by omega
  subst this
  have h2:=hi.2
  rw [good_all] at h2
  refine y_ ?_;refine R_ ?_;refine Sb.eq (ab_eq ?_);rw [soundsB,h2,decide_eq_true h];rfl
theorem long_p(v:KV):Pure Tryz.prog gs0 51 [encV v] (AI (if v.dim=0 then 1 else v.dim)):=by
 refine p_ tt_ok Tryz.func51 8 fun w0 h0 F hgs=>?_
 (refine b_ fun bx=>?_;refine y_ ?_)
 refine k_ (fun hc=>?_) fun hc=>?_
 ·simp at hc;refine y_ ?_;refine R_ ?_;refine Sb.eq (ai_eq ?_);rw [if_pos hc]
 ·simp at hc;refine y_ ?_;refine R_ ?_;refine Sb.eq (ai_eq ?_);rw [if_neg hc]
theorem storeM_at{l:List KV}{i:Nat}{v:KV}(h:l[i]? =some v):((storeM l).take i).map rowA++[rowA (List.replicate (longI v).toNat 0)]=((storeM l).take (i+1)).map rowA:=by
 rw [List.take_add_one,storeM,List.getElem?_map,h];simp
theorem rSame_p(a b:List (List Int))(ha:short a):Pure Tryz.prog gs0 25 [rowsA a,rowsA b] (AB (sameB a b)):=by
 have ha1:=ha.1
 by_cases hlen:a.length=b.length
 case neg=>
  refine p_ tt_ok Tryz.func25 53 fun w0 h0 F hgs=>?_
  refine y_ ?_
  refine e_ 11 rfl (x':=AB true) (ab_eq (by simp;omega)) ?_;refine R_ ?_;refine Sb.eq (ab_eq ?_);simp [sameB,alikeB,hlen]
 refine p_ tt_ok Tryz.func25 53 fun w0 h0 F hgs=>?_
 refine y_ ?_
 refine e_ 11 rfl (x':=AB false) (ab_eq (by simp;omega)) ?_
 refine A.keep [0,1,5] rfl ?_
 refine A.loopP (ι:=Nat) (fun i=>(⟨[(0,rowsA a),(1,rowsA b),(5,AI (i:Int))],[]⟩,[])) (fun i=>i≤a.length∧allEq (alikeB (· == ·)) a b i=true) (fun i=>a.length-i) 0 ⟨by omega,rfl⟩ rfl fun i hi ih=>?_
 refine y_ ?_
 refine k_ (fun hc=>?_) fun hc=>?_
 ·simp at hc
  refine Exists.elim (at_exN (l:=a) (i:=i) (by omega)) fun x hx=>Exists.elim (at_exN (l:=b) (i:=i) (by omega)) fun y hy=>?_
  have hxl:=ha.2 x (List.mem_of_getElem? hx)
  have h1:=allEq_succ (alikeB (· == ·)) hx hy
  refine y_ ?_
  refine d_ 10 [0,1,2,3,4,5,6,7,8,9] [] ?_;refine iw_ rfl (map_at hx) rfl ?_;refine iw_ rfl (map_at hy) rfl ?_;refine WA.nil (l:=[]) rfl ?_
  refine A.entsEq (Λ':=[]) rfl ?_
  refine y_ ?_
  refine k_ (fun hc=>?_) fun hc=>?_
  ·simp at hc
   refine y_ ?_;refine R_ ?_;refine Sb.eq (ab_eq ?_)
   have h2:=allEq_le (f:=alikeB (· == ·)) (a:=a) (b:=b) (j:=i+1) (by rw [h1,alikeB,decide_eq_false (by omega)];simp) a.length (by omega)
   rw [sameB,alikeB,h2];simp
  ·simp at hc
   have hxy:x.length=y.length:=by omega
   refine y_ ?_
   refine A.keep [0,1,5,6] rfl ?_
   refine A.loopP (ι:=Nat) (fun j=>(⟨[(0,rowsA a),(1,rowsA b),(5,AI (i:Int)),(6,AI (j:Int))],[]⟩,[])) (fun j=>j≤x.length∧allEq (· == ·) x y j=true) (fun j=>x.length-j) 0 ⟨by omega,rfl⟩ rfl fun j hj jh=>?_
   refine y_ ?_
   refine i_ rfl (map_at hx) rfl ?_
   refine k_ (fun hc=>?_) fun hc=>?_
   ·rename_i hc0
    simp at hc
    refine Exists.elim (at_exN (l:=x) (i:=j) (by omega)) fun u hu=>Exists.elim (at_exN (l:=y) (i:=j) (by omega)) fun w hw=>?_
    have h3:=allEq_succ (· == ·) hu hw
    refine y_ ?_
    refine d_ 14 [0,1,2,3,4,5,6,7,8,9,10,11,12,13] [] ?_;refine iw_ rfl (map_at hx) rfl ?_;refine iw_ rfl (map_at hu) rfl ?_;refine iw_ rfl (map_at hy) rfl ?_;refine iw_ rfl (map_at hw) rfl ?_;refine WA.nil (l:=[]) rfl ?_
    refine A.entsEq (Λ':=[]) rfl ?_
    refine y_ ?_
    refine k_ (fun he=>?_) fun he=>?_
    ·simp at he
     refine y_ ?_;refine R_ ?_;refine Sb.eq (ab_eq ?_)
     have h4:=allEq_le (f:=(· == ·)) (a:=x) (b:=y) (j:=j+1) (by rw [h3];simp [he]) x.length (by omega)
     have h2:=allEq_le (f:=alikeB (· == ·)) (a:=a) (b:=b) (j:=i+1) (by rw [h1];simp [alikeB,h4]) a.length (by omega)
     rw [sameB,alikeB,h2];simp
    ·simp at he
     refine y_ ?_
     refine A.valE 6 rfl (x':=AI ((j+1:Nat):Int)) (inc_eq j (by omega)) ?_
     refine u_ (jh (j+1) ⟨by omega,by rw [h3];simp [hj.2,he]⟩ (by omega))
   ·simp at hc
    have hjl:j=x.length:=by omega
    have h4:=hj.2
    rw [hjl] at h4
    refine y_ ?_
    refine A.valE 5 rfl (x':=AI ((i+1:Nat):Int)) (inc_eq i (by omega)) ?_
    refine u_ (ih (i+1) ⟨by omega,by rw [h1,hi.2,alikeB,h4,decide_eq_true hxy];rfl⟩ (by omega))
 ·simp at hc
  have:i=a.length:=by omega
  subst this
  have h2:=hi.2
  refine y_ ?_;refine R_ ?_;refine Sb.eq (ab_eq ?_);rw [sameB,alikeB,h2,decide_eq_true hlen];rfl
theorem may_pN(l:List KV)(ch:List Int)(q:PR)(pr:List Int)(s:List (List Int))(hb:l.length≤281474976710656)(hs:short s):Pure Tryz.prog gs0 48 [encN ⟨l,ch,q,pr⟩,rowsA s] (AB (mayB l s)):=by
 have hl:((l.map encV).length:Int)=l.length:=by rw [List.length_map]
 have hsl:((s.map rowA).length:Int)=s.length:=by rw [List.length_map]
 have hp:=sounds_p l hb
 by_cases hlen:s.length=l.length
 case neg=>
  refine p_ tt_ok Tryz.func48 45 fun w0 h0 F hgs=>?_
  (refine gb_ fun bx=>?_;refine g_ ?_)
  refine e_ 13 rfl (x':=AB true) (ab_eq (by simp;omega)) ?_;refine R_ ?_;refine Sb.eq (ab_eq ?_);simp [mayB,hlen]
 cases hso:soundsB l with
 |false=>
  rw [hso] at hp
  refine p_ tt_ok Tryz.func48 45 fun w0 h0 F hgs=>?_
  (refine gb_ fun bx=>?_;refine g_ ?_)
  refine A.valE 13 rfl (x':=AB false) (ab_eq (by simp;omega)) ?_
  refine c_ (hp) ?_;refine R_ ?_;refine Sb.eq (ab_eq ?_);simp [mayB,hso]
 |true=>
  rw [hso] at hp
  refine p_ tt_ok Tryz.func48 45 fun w0 h0 F hgs=>?_
  (refine gb_ fun bx=>?_;refine g_ ?_)
  refine A.valE 13 rfl (x':=AB false) (ab_eq (by simp;omega)) ?_
  refine c_ (hp) ?_
  refine A.valE 21 rfl (x':=AI (l.length:Nat)) (ai_eq hl) ?_
  refine A.keep [1,20,21,22] rfl ?_
  refine l_ (Λ':=[]) ?_
  refine A.loopP (ι:=Nat) (fun i=>(⟨[(1,rowsA s),(20,varsA l),(21,AI (l.length:Nat)),(22,AI (i:Int))],[]⟩,[])) (fun i=>i≤l.length∧allEq mayRow l s i=true) (fun i=>l.length-i) 0 ⟨by omega,rfl⟩ rfl fun i hi ih=>?_
  refine y_ ?_
  refine k_ (fun hc=>?_) fun hc=>?_
  ·simp at hc
   refine Exists.elim (at_exN (l:=l) (i:=i) hc) fun v hv=>Exists.elim (at_exN (l:=s) (i:=i) (by omega)) fun r hr=>?_
   have hrl:=hs.2 r (List.mem_of_getElem? hr)
   have h1:=allEq_succ mayRow hv hr
   refine y_ ?_
   refine j_ rfl (map_at hv) rfl ?_
   (refine b_ fun bx=>?_;refine y_ ?_)
   refine A.freeze 6 rfl (sz:=2) rfl rfl ?_
   by_cases hlr:(r.length:Int)=longI v
   ·refine d_ 15 [0,1,2,3,4,5,6,7,8,9,10,11,12,13,14] [] ?_;refine WA.x rfl (by omega) (map_at hr) rfl rfl ?_
    refine v_ ?_
    refine WA.valE 36 rfl (x':=AB false) (ab_eq ?_) ?_
    ·rw [List.length_map,bne_eq_false_iff_eq,hlr,longI];split<;>split<;>omega
    refine iw_ rfl (map_at hr) rfl ?_
    refine WA.nil rfl ?_
    have hm:=has32_p 96 [.pe 2 (encV v)] (fun x=> !fitsB v.kind x) (may1_p v) r hrl
    refine c_ (hm) ?_
    refine k_ (fun hr2=>?_) fun hr2=>?_
    ·have hr2:(r.any fun x=> !fitsB v.kind x)=true:=hr2
     refine y_ ?_;refine R_ ?_;refine Sb.eq (ab_eq ?_)
     have h2:=allEq_le (f:=mayRow) (a:=l) (b:=s) (j:=i+1) (by rw [h1,mayRow,hr2];simp) l.length (by omega)
     rw [mayB,h2];simp
    ·have hr2:(r.any fun x=> !fitsB v.kind x)=false:=hr2
     refine y_ ?_
     refine A.valE 22 rfl (x':=AI ((i+1:Nat):Int)) (inc_eq i (by omega)) ?_
     refine u_ (ih (i+1) ⟨by omega,by rw [h1,hi.2,mayRow,hr2,hlr];simp⟩ (by omega))
   ·refine d_ 15 [0,1,2,3,4,5,6,7,8,9,10,11,12,13,14] [] ?_;refine WA.x rfl (by omega) (map_at hr) rfl rfl ?_
    refine v_ ?_
    refine WA.valE 36 rfl (x':=AB true) (ab_eq ?_) ?_
    ·rw [List.length_map,bne_iff_ne];unfold longI at hlr;split at hlr<;>split<;>omega
    refine w_ ?_
    refine WA.nil rfl ?_
    refine y_ ?_;refine R_ ?_;refine Sb.eq (ab_eq ?_)
    have h2:=allEq_le (f:=mayRow) (a:=l) (b:=s) (j:=i+1) (by rw [h1,mayRow,beq_eq_false_iff_ne.2 hlr];simp) l.length (by omega)
    rw [mayB,h2];simp
  ·simp at hc
   have:i=l.length:=by omega
   subst this
   refine y_ ?_;refine R_ ?_;refine Sb.eq (ab_eq ?_);rw [mayB,hso,hi.2,decide_eq_true hlen];rfl
theorem store_noN(l:List KV)(ch:List Int)(q:PR)(pr:List Int)(hb:l.length≤281474976710656)(hs:soundsB l=false):Pure Tryz.prog gs0 32 [encN ⟨l,ch,q,pr⟩] nilV:=by
 have hp:=sounds_p l hb
 rw [hs] at hp
 refine p_ tt_ok Tryz.func32 31 fun w0 h0 F hgs=>?_
 (refine b_ fun bx=>?_;refine y_ ?_);exact cr_ (hp)
theorem store_pN(l:List KV)(ch:List Int)(q:PR)(pr:List Int)(hs:soundsB l=true):
 FunE Tryz.prog gs0 32 [encN ⟨l,ch,q,pr⟩] [] (fun p:Value×List (Value×List Int)=> .ms p.1 1 l.length) (fun p=>[.rows 1 (rowsH p.2), .row 1 p.1 (msL 1 (rowsH p.2))]) (fun p=>p.2.map Prod.snd=storeM l):=by
 have hs0:=hs
 unfold soundsB at hs0
 simp at hs0
 have hp:=sounds_p l (by omega)
 rw [hs] at hp
 have hl:((l.map encV).length:Int)=l.length:=by rw [List.length_map]
 unfold FunE
 refine Fun.of (S:=tt) (fn:=Tryz.f32) (n:=31) tt_ok Tryz.func32 rfl rfl rfl rfl fun w0 h0 F hgs=>?_
 (refine b_ fun bx=>?_;refine y_ ?_);refine c_ (hp) ?_
 refine A.valE 12 rfl (x':=AI (l.length:Nat)) (ai_eq hl) ?_
 refine A.make rfl rfl rfl rfl rfl rfl rfl rfl rfl rfl rfl rfl (by omega) ?_ (by omega) fun zo=>?_
 ·show ((24:Nat):Int)*_≤_
  omega
 refine y_ ?_
 refine A.valE 3 rfl (x':= .ms zo 1 l.length) (by rw [Int.toNat_natCast];rfl) ?_
 refine A.valE 16 rfl (x':=AI (l.length:Nat)) (ai_eq hl) ?_
 refine A.keep [3,15,16,17] rfl ?_
 refine l_ (Λ':=[.row 1 zo (List.replicate (l.length:Int).toNat nilV)]) ?_
 refine A.entsEq (Λ':=[.row 1 zo (List.replicate l.length nilV)]) (by rw [Int.toNat_natCast]) ?_
 refine A.rows0 1 ?_
 refine A.loopP (ι:=List (Value×List Int)) (fun hs=>(⟨[(3, .ms zo 1 l.length),(15,varsA l),(16,AI (l.length:Nat)),(17,AI (hs.length:Nat))],[]⟩,[.rows 1 (rowsH hs), .row 1 zo (msL 1 (rowsH hs)++List.replicate (l.length-hs.length) nilV)]))
  (fun hs=>hs.map Prod.snd=(storeM l).take hs.length∧hs.length≤l.length) (fun hs=>l.length-hs.length) [] ⟨rfl,Nat.zero_le _⟩ rfl fun hs hi ih=>?_
 refine y_ ?_
 refine k_ (fun hc=>?_) fun hc=>?_
 ·simp at hc
  refine Exists.elim (at_exN (l:=l) (i:=hs.length) hc) fun v hv=>?_
  have hvm:=hs0.2 v (List.mem_of_getElem? hv)
  simp [soundB] at hvm
  have hlo:1≤longI v∧longI v≤64:=by unfold longI;split<;>omega
  refine y_ ?_
  refine j_ rfl (map_at hv) rfl ?_
  (refine b_ fun bx=>?_;refine y_ ?_)
  refine A.valE 26 rfl (x':=AI (longI v)) (ai_eq (by unfold longI;split<;>split<;>omega)) ?_
  refine A.make rfl rfl rfl rfl rfl rfl rfl rfl rfl rfl rfl rfl (by omega) ?_ (by omega) fun z=>?_
  ·show ((4:Nat):Int)*_≤_
   omega
  refine A.indexRow rfl rfl rfl rfl rfl rfl rfl rfl (by omega) (by rw [List.length_append,rowsH_len,List.length_replicate];omega) rfl ?_
  have hrl:(List.replicate (longI v).toNat (0:Int)).length=(longI v).toNat:=List.length_replicate
  refine A.valE 27 rfl (x':= .ms z 1 (List.replicate (longI v).toNat (0:Int)).length) (by rw [hrl];rfl) ?_
  refine l_ (Λ':=[.row 1 z (List.replicate (longI v).toNat (AI32 0)), .rows 1 (rowsH hs), .row 1 zo (msL 1 (rowsH hs)++List.replicate (l.length-hs.length) nilV)]) ?_
  refine A.entsEq (Λ':=[.row 1 z ((List.replicate (longI v).toNat (0:Int)).map AI32), .rows 1 (rowsH hs), .row 1 zo (msL 1 (rowsH hs)++List.replicate (l.length-hs.length) nilV)]) (by rw [List.map_replicate]) ?_
  refine A.storeRow rfl rfl rfl rfl rfl rfl rfl rfl rfl ?_ (xs':=msL 1 (rowsH (hs++[(z,List.replicate (longI v).toNat 0)]))++List.replicate (l.length-(hs++[(z,List.replicate (longI v).toNat (0:Int))]).length) nilV) ?_ ?_
  ·rw [List.length_append,rowsH_len,List.length_replicate];omega
  ·have:=out_set hs z (List.replicate (longI v).toNat 0) (l.length-(hs++[(z,List.replicate (longI v).toNat (0:Int))]).length)
   rw [show l.length-hs.length=l.length-(hs++[(z,List.replicate (longI v).toNat (0:Int))]).length+1 by simp;omega]
   exact this
  refine A.rowsIn (.refl _) ?_
  refine y_ ?_
  refine A.valE 17 rfl (x':=AI (((hs++[(z,List.replicate (longI v).toNat (0:Int))]).length:Nat):Int)) ?_ ?_
  ·rw [inc_eq hs.length (by omega)];simp
  refine A.entsEq (Λ':=[.rows 1 (rowsH (hs++[(z,List.replicate (longI v).toNat (0:Int))])), .row 1 zo (msL 1 (rowsH (hs++[(z,List.replicate (longI v).toNat (0:Int))]))++List.replicate (l.length-(hs++[(z,List.replicate (longI v).toNat (0:Int))]).length) nilV)]) (by simp [rowsH]) ?_
  refine u_ (ih (hs++[(z,List.replicate (longI v).toNat 0)]) ⟨?_,by simp;omega⟩ (by simp;omega))
  simp [hi.1,storeM,List.take_add_one,hv]
 ·simp at hc
  have hlen:hs.length=l.length:=by omega
  have hsnd:hs.map Prod.snd=storeM l:=by rw [hi.1,hlen];exact List.take_of_length_le (by rw [storeM,List.length_map];exact Nat.le_refl _)
  refine A.entsEq (Λ':=[.rows 1 (rowsH hs), .row 1 zo (msL 1 (rowsH hs))]) (by rw [hlen,Nat.sub_self];simp) ?_
  refine y_ ?_
  refine A.ret1 (Λ':=[.rows 1 (rowsH hs), .row 1 zo (msL 1 (rowsH hs))]) rfl rfl rfl sl_ ⟨(zo,hs), .refl,rfl,hsnd⟩
theorem storeS_pN(l:List KV)(ch:List Int)(q:PR)(pr:List Int)(hb:l.length≤281474976710656):Pure Tryz.prog gs0 32 [encN ⟨l,ch,q,pr⟩] (rowsA (storeS l)):=by
 cases h:soundsB l with
 |true=>rw [storeS,h,if_pos rfl];exact rows_pure (store_pN l ch q pr h)
 |false=>
  have:=store_noN l ch q pr hb h
  rw [storeS,h]
  exact fun w0 h vs L F g r q=>(this w0 h vs L F g r q).mono fun _ _ _ ⟨x,Λ',L1,⟨e1,e1'⟩,e2,e3⟩=>⟨rowsA [],Λ',L1,⟨rfl,e1'⟩,by subst e1;exact Sb.nil.rp e2,e3⟩
theorem rStore_pN(l:List KV)(ch:List Int)(q:PR)(pr:List Int)(hb:l.length≤281474976710656):Pure Tryz.prog gs0 23 [encN ⟨l,ch,q,pr⟩] (rowsA (storeS l)):=by
 have hp:=rsound_p l hb
 have hl:((l.map encV).length:Int)=l.length:=by rw [List.length_map]
 cases hs:soundsB l with
 |false=>
  rw [storeS,hs]
  rw [hs] at hp
  refine p_ tt_ok Tryz.func23 27 fun w0 h0 F hgs=>?_
  (refine b_ fun bx=>?_;refine y_ ?_);refine c_ (hp) ?_;refine R_ ?_;exact .nil
 |true=>
  have hs0:=hs
  unfold soundsB at hs0
  simp at hs0
  rw [hs] at hp
  have hst:storeS l=storeM l:=by rw [storeS,hs,if_pos rfl]
  rw [hst]
  refine p_ tt_ok Tryz.func23 27 fun w0 h0 F hgs=>?_
  (refine b_ fun bx=>?_;refine y_ ?_);refine n_ (hp) ?_
  refine A.freeze 1 rfl (sz:=11) rfl rfl ?_
  refine y_ ?_
  refine A.nilTail 3 1 rfl ?_
  refine A.keep [1,3,4] rfl ?_
  refine A.loopP (ι:=Nat×Value) (fun p=>(⟨[(1, .pe 11 (encN ⟨l,ch,q,pr⟩)),(3, .sl 1 (((storeM l).take p.1).map rowA) (some p.2)),(4,AI (p.1:Nat))],[]⟩,[.tail 1 p.2])) (fun p=>p.1≤l.length) (fun p=>l.length-p.1) (0, .slice none 0 0) (Nat.zero_le _) rfl fun p hi ih=>?_
  refine y_ ?_
  refine k_ (fun hc=>?_) fun hc=>?_
  ·simp at hc
   refine Exists.elim (at_exN (l:=l) (i:=p.1) (by omega)) fun v hv=>?_
   have hvm:=hs0.2 v (List.mem_of_getElem? hv)
   simp [soundB] at hvm
   have hlo:1≤longI v∧longI v≤64:=by unfold longI;split<;>omega
   refine y_ ?_
   refine i_ rfl (map_at hv) rfl ?_
   refine n_ (long_p v) ?_
   refine A.valE 22 rfl (x':=AI (longI v)) (ai_eq (by unfold longI;split<;>split<;>omega)) ?_
   refine A.make rfl rfl rfl rfl rfl rfl rfl rfl rfl rfl rfl rfl (by omega) ?_ (by omega) fun z=>?_
   ·show ((4:Nat):Int)*_≤_
    omega
   refine A.freezeRow 23 rfl ?_
   refine A.valE 23 rfl (x':=rowA (List.replicate (longI v).toNat 0)) (by rw [rowA,List.map_replicate];rfl) ?_
   refine t_ fun bl=>?_
   have hln:(((storeM l).take p.1).map rowA).length≤256:=by rw [List.length_map,List.length_take,storeM,List.length_map];omega
   refine A.entsEq (Λ':=[.tail ty35.size p.2]) rfl ?_
   refine A.append rfl rfl rfl rfl rfl rfl rfl rfl rfl rfl rfl rfl rfl rfl (by show ((List.map rowA _).length+1)*1≤_;omega) fun z'=>?_
   refine e_ 25 rfl (x':= .sl 1 (((storeM l).take (p.1+1)).map rowA) (some z')) (by rw [←storeM_at hv];rfl) ?_
   refine A.valE 4 rfl (x':=AI ((p.1+1:Nat):Int)) (inc_eq p.1 (by omega)) ?_
   refine u_ (ih (p.1+1,z') (by show p.1+1≤_;omega) (by show l.length-(p.1+1)<_;omega))
  ·simp at hc
   have:p.1=l.length:=by omega
   refine y_ ?_;refine R_ ?_
   refine Sb.own ?_
   rw [this,List.take_of_length_le (by rw [storeM,List.length_map];exact Nat.le_refl _)]
   exact .refl
theorem rMay_pN(l:List KV)(ch:List Int)(q:PR)(pr:List Int)(s:List (List Int))(hb:l.length≤281474976710656)(hs:short s):Pure Tryz.prog gs0 27 [encN ⟨l,ch,q,pr⟩,rowsA s] (AB (mayB l s)):=by
 have hl:((l.map encV).length:Int)=l.length:=by rw [List.length_map]
 have hsl:((s.map rowA).length:Int)=s.length:=by rw [List.length_map]
 have hp:=rsound_p l hb
 cases hso:soundsB l with
 |false=>
  rw [hso] at hp
  refine p_ tt_ok Tryz.func27 67 fun w0 h0 F hgs=>?_
  (refine b_ fun bx=>?_;refine y_ ?_);refine c_ (hp) ?_;refine R_ ?_;refine Sb.eq (ab_eq ?_);simp [mayB,hso]
 |true=>
 rw [hso] at hp
 by_cases hlen:s.length=l.length
 case neg=>
  refine p_ tt_ok Tryz.func27 67 fun w0 h0 F hgs=>?_
  (refine b_ fun bx=>?_;refine y_ ?_);refine c_ (hp) ?_
  refine e_ 20 rfl (x':=AB true) (ab_eq (by simp;omega)) ?_;refine R_ ?_;refine Sb.eq (ab_eq ?_);simp [mayB,hlen]
 have hs0:=hso
 unfold soundsB at hs0
 simp at hs0
 refine p_ tt_ok Tryz.func27 67 fun w0 h0 F hgs=>?_
 (refine b_ fun bx=>?_;refine y_ ?_);refine n_ (hp) ?_
 refine A.freeze 2 rfl (sz:=11) rfl rfl ?_
 refine y_ ?_
 refine e_ 20 rfl (x':=AB false) (ab_eq (by simp;omega)) ?_
 refine A.keep [1,2,5] rfl ?_
 refine A.loopP (ι:=Nat) (fun i=>(⟨[(1,rowsA s),(2, .pe 11 (encN ⟨l,ch,q,pr⟩)),(5,AI (i:Int))],[]⟩,[])) (fun i=>i≤l.length∧allEq mayRow l s i=true) (fun i=>l.length-i) 0 ⟨by omega,rfl⟩ rfl fun i hi ih=>?_
 refine y_ ?_
 refine k_ (fun hc=>?_) fun hc=>?_
 ·simp at hc
  refine Exists.elim (at_exN (l:=l) (i:=i) (by omega)) fun v hv=>Exists.elim (at_exN (l:=s) (i:=i) (by omega)) fun x hx=>?_
  have hvm:=hs0.2 v (List.mem_of_getElem? hv)
  simp [soundB] at hvm
  have hlo:longI v=if v.dim=0 then 1 else v.dim:=by unfold longI;split<;>split<;>omega
  have hxl:=hs.2 x (List.mem_of_getElem? hx)
  have h1:=allEq_succ mayRow hv hx
  refine y_ ?_
  refine d_ 11 [0,1,2,3,4,5,6,7,8,9,10] [(10,AI (if v.dim=0 then 1 else v.dim))] ?_;refine iw_ rfl (map_at hx) rfl ?_;refine iw_ rfl (map_at hv) rfl ?_;refine WA.c rfl rfl (long_p v) (.sub .refl) ?_
  refine WA.nil (l:=[]) rfl ?_
  refine A.entsEq (Λ':=[]) rfl ?_
  refine y_ ?_
  refine k_ (fun hc=>?_) fun hc=>?_
  ·have hne:((x.length:Int)==longI v)=false:=by simp at hc;rw [hlo];simpa using hc
   refine y_ ?_;refine R_ ?_;refine Sb.eq (ab_eq ?_)
   have h2:=allEq_le (f:=mayRow) (a:=l) (b:=s) (j:=i+1) (by rw [h1,mayRow,hne];simp) l.length (by omega)
   rw [mayB,h2];simp
  ·have heq:((x.length:Int)==longI v)=true:=by simp at hc;rw [hlo];simpa using hc
   refine y_ ?_
   refine A.keep [1,2,5,6] rfl ?_
   refine A.loopP (ι:=Nat) (fun j=>(⟨[(1,rowsA s),(2, .pe 11 (encN ⟨l,ch,q,pr⟩)),(5,AI (i:Int)),(6,AI (j:Int))],[]⟩,[])) (fun j=>j≤x.length∧x.any (fun u=> !fitsB v.kind u)=(x.drop j).any (fun u=> !fitsB v.kind u)) (fun j=>x.length-j) 0 ⟨by omega,rfl⟩ rfl fun j hj jh=>?_
   refine y_ ?_
   refine i_ rfl (map_at hx) rfl ?_
   refine k_ (fun hc=>?_) fun hc=>?_
   ·rename_i hc0
    simp at hc
    refine Exists.elim (at_exN (l:=x) (i:=j) (by omega)) fun u hu=>?_
    have hj2:=hj.2
    rw [drop_at hu,List.any_cons] at hj2
    refine y_ ?_
    refine d_ 18 [0,1,2,3,4,5,6,7,8,9,10,11,12,13,14,15,16,17] [(13,optA (convC v.kind u))] ?_;refine iw_ rfl (map_at hv) rfl ?_;refine iw_ rfl (map_at hx) rfl ?_;refine iw_ rfl (map_at hu) rfl ?_;refine cw_ (conv_p _ _) ?_
    refine WA.nil (l:=[]) rfl ?_
    refine A.entsEq (Λ':=[]) rfl ?_
    refine y_ ?_
    refine k_ (fun he=>?_) fun he=>?_
    ·rw [conv_fits] at he
     have hf:fitsB v.kind u=false:=by revert he;cases fitsB v.kind u<;>simp
     rw [hf] at hj2
     refine y_ ?_;refine R_ ?_;refine Sb.eq (ab_eq ?_)
     have h2:=allEq_le (f:=mayRow) (a:=l) (b:=s) (j:=i+1) (by rw [h1,mayRow,hj2];simp) l.length (by omega)
     rw [mayB,h2];simp
    ·rw [conv_fits] at he
     have hf:fitsB v.kind u=true:=by revert he;cases fitsB v.kind u<;>simp
     rw [hf] at hj2
     refine y_ ?_
     refine A.valE 6 rfl (x':=AI ((j+1:Nat):Int)) (inc_eq j (by omega)) ?_
     refine u_ (jh (j+1) ⟨by omega,by simpa using hj2⟩ (by omega))
   ·simp at hc
    have hjl:j=x.length:=by omega
    have h4:=hj.2
    rw [hjl,List.drop_length] at h4
    refine y_ ?_
    refine A.valE 5 rfl (x':=AI ((i+1:Nat):Int)) (inc_eq i (by omega)) ?_
    refine u_ (ih (i+1) ⟨by omega,by rw [h1,hi.2,mayRow,heq,h4];rfl⟩ (by omega))
 ·simp at hc
  have:i=l.length:=by omega
  subst this
  refine y_ ?_;refine R_ ?_;refine Sb.eq (ab_eq ?_);rw [mayB,hso,hi.2,decide_eq_true hlen];rfl
section
variable{V:List KV}{C:List Int}
theorem smGl_of: ∀{l:List GD},(∀g,g∈l→smG g)→smGl l
 | [],_=>by rw [smGl];trivial
 |y::r,h=>by rw [smGl];exact ⟨h y (.head _),smGl_of fun x hx=>h x (.tail _ hx)⟩
theorem wfGl_of: ∀{l:List GD},(∀g,g∈l→wfG g)→wfGl l
 | [],_=>by rw [wfGl];trivial
 |y::r,h=>by rw [wfGl];exact ⟨h y (.head _),wfGl_of fun x hx=>h x (.tail _ hx)⟩
theorem wfRl_of: ∀{l:List PR},(∀x,x∈l→wfR x)→wfRl l
 | [],_=>by rw [wfRl];trivial
 |y::r,h=>by rw [wfRl];exact ⟨h y (.head _),wfRl_of fun x hx=>h x (.tail _ hx)⟩
theorem tgRl_of: ∀{l:List PR},(∀x,x∈l→tgR x)→tgRl l
 | [],_=>by rw [tgRl];trivial
 |y::r,h=>by rw [tgRl];exact ⟨h y (.head _),tgRl_of fun x hx=>h x (.tail _ hx)⟩
theorem okF_sm_n: ∀(m:Nat) (p:PR) (n hi:Bool),SizeOf.sizeOf p≤m→okF (Loc V C) n hi p→wfR p∧smR p∧tgR p
 |0,p,_,_,h,_=>by
  obtain ⟨k,c,v,i,to,e,gs,l⟩:=p
  simp only [PR.mk.sizeOf_spec] at h;omega
 |m+1,p,n,hi,hm,w=>by
  rw [okF_eq] at w
  obtain ⟨⟨w1,w2,w3⟩,w4,w5⟩:=w
  obtain ⟨l1,l2,l3,l4⟩:=w1.lens
  have hb:=w1.body
  have hL: ∀x,x∈p.l→wfR x∧smR x∧tgR x:=fun x hx=>by
   obtain ⟨a,b,hw⟩:=okFl_some w4 hx
   exact okF_sm_n m x a b (by have:=pr_lt hx;omega) hw
  have hG: ∀g,g∈p.gs→ ∀x,x∈g.body→wfR x∧smR x∧tgR x:=fun g hg x hx=>by
   have h1:=okFs_mem w5 g hg
   rw [okFg_eq] at h1
   obtain ⟨a,b,hw⟩:=okFl_some h1 hx
   exact okF_sm_n m x a b (by have:=gg_lt hg;have:=bd_lt hx;omega) hw
  have hgl: ∀g,g∈p.gs→g.body.length=1:=fun g hg=>by obtain ⟨y,hy⟩:=hb g hg;rw [hy];rfl
  have hto:=w1.to
  have he:=w1.e
  have hgs:=w1.gs
  obtain ⟨k,c,v,i,to,e,gs,l⟩:=p
  have l1:to.length≤8:=l1
  have l2:e.length≤8:=l2
  have l3:gs.length≤16:=l3
  have l4:l.length≤2048:=l4
  rw [wfR,smR,tgR]
  refine ⟨⟨⟨fun t ht=>(hto t ht).1,wfKl_of fun x hx=>(he x hx).1,by omega,by omega,by omega⟩,wfGl_of fun g hg=>?_,wfRl_of fun x hx=>(hL x hx).1⟩,
   ⟨⟨fun t ht=>(hto t ht).2,fun x hx=>(he x hx).2,by omega,by omega,by omega,by omega⟩,smGl_of fun g hg=>?_,smRl_of fun x hx=>(hL x hx).2.1⟩,by omega,tgRl_of fun x hx=>(hL x hx).2.2⟩
  ·have h1:=hgs g hg
   have h2:=hG g hg
   obtain ⟨k',e',c',i',to',t',b'⟩:=g
   rw [wfG]
   exact ⟨⟨h1.1.1,h1.2.1.1,h1.2.2.1⟩,wfRl_of fun x hx=>(h2 x hx).1⟩
  ·have h1:=hgs g hg
   have h2:=hG g hg
   have h3:=hgl g hg
   obtain ⟨k',e',c',i',to',t',b'⟩:=g
   have h3:b'.length=1:=h3
   rw [smG]
   exact ⟨⟨h1.1.2,h1.2.1.2,h1.2.2.2,by omega⟩,smRl_of fun x hx=>(h2 x hx).2.1⟩
theorem okF_sm{p:PR}{n hi:Bool}(w:okF (Loc V C) n hi p):wfR p∧smR p∧tgR p:=okF_sm_n _ p n hi (Nat.le_refl _) w
end
structure ST where
 store:List (List Int)
 root:PR
 inn:List Int
 time:Int
abbrev encST(s:ST):AV:= .ag [rowsA s.store,AU8 s.root.kind,AI s.root.c,AI s.root.v,AU8 s.root.item,plsA s.root.to,kesA s.root.e,gsA s.root.gs,rsA s.root.l,rowA s.inn,AI32 s.time]
structure MV where
 kind:Int
 ec:Int
 ev:Int
 next:ST
abbrev encMV(m:MV):AV:= .ag [AU8 m.kind,AI m.ec,AI32 m.ev,rowsA m.next.store,AU8 m.next.root.kind,AI m.next.root.c,AI m.next.root.v,AU8 m.next.root.item,plsA m.next.root.to,kesA m.next.root.e,gsA m.next.root.gs,rsA m.next.root.l,rowA m.next.inn,AI32 m.next.time]
structure GoodK(k:KN)(s:ST):Prop where
 may:mayK k=true
 wf:WfN k
 store:mayB k.vars s.store=true
 ws:wfS s.store
 root:okF (Loc k.vars k.chans) true false s.root
 wt:wtR s.root≤81920
 dw:dwR s.root≤96
 nf:normR s.root=s.root
 inn: ∀x,x∈s.inn→i32 x
 innl:s.inn.length≤1073741824
 time:i32 s.time
theorem may_kok{k:KN}(h:mayK k=true):KOk k.vars k.chans:=by
 unfold mayK lensK at h
 simp only [Bool.and_eq_true,decide_eq_true_eq] at h
 obtain ⟨⟨⟨⟨⟨⟨⟨a,b⟩,c⟩,_⟩,_⟩,d⟩,e⟩,_⟩:=h
 exact ⟨a,b,c,d,e⟩
theorem may_fits{k:KN}(h:mayK k=true):fitsR k.vars k.chans.length false k.root 2048 32:=by
 unfold mayK at h
 simp only [Bool.and_eq_true,decide_eq_true_eq] at h
 exact h.2
theorem KOk.sounds{V:List KV}{C:List Int}(h:KOk V C):soundsB V=true:=by
 unfold soundsB
 have h1:=h.var
 have h2:=h.vl
 rw [List.all_eq_true] at h1
 simp only [Bool.and_eq_true,decide_eq_true_eq,Bool.not_eq_true',List.any_eq_false]
 refine ⟨h2,fun v hv=>?_⟩
 have:=h1 v hv
 simp only [varOk,primB,Bool.and_eq_true,decide_eq_true_eq] at this
 have h3:soundB v=true:=by
  simp only [soundB,Bool.and_eq_true,Bool.or_eq_true,beq_iff_eq,decide_eq_true_eq]
  omega
 rw [h3];decide
theorem mayB_short{l:List KV}{s:List (List Int)}(h:mayB l s=true):s.length≤256∧ ∀r,r∈s→r.length≤64:=by
 unfold mayB soundsB at h
 simp only [Bool.and_eq_true,decide_eq_true_eq,Bool.not_eq_true',List.any_eq_false] at h
 obtain ⟨⟨h1,h2,h3⟩,h4⟩:=h
 refine ⟨by omega,fun r hr=>?_⟩
 obtain ⟨i,hi,rfl⟩:=List.getElem_of_mem hr
 have hi':i<l.length:=by omega
 have h5:=(List.all_eq_true.1 h4) i (List.mem_range.2 hi')
 rw [List.getElem?_eq_getElem hi',List.getElem?_eq_getElem hi] at h5
 have h6:soundB l[i]=true:=by have:=h3 l[i] (List.getElem_mem hi');simpa using this
 simp only [soundB,mayRow,longI,Bool.and_eq_true,decide_eq_true_eq,beq_iff_eq] at h5 h6
 have h7:=h5.1
 split at h7<;>omega
theorem GoodK.short{k:KN}{s:ST}(h:GoodK k s):short s.store:=by
 obtain ⟨a,b⟩:=mayB_short h.store
 exact ⟨by omega,fun r hr=>by have:=b r hr;omega⟩
theorem nf_of{p:PR}(h:normR p=p):nfR p:=by rw [←h];exact norm_is p
structure ACT where
 kind:Int
 store:List (List Int)
 c:Int
 v:Int
 i:Int
 item:Int
 value:Int
 next:PR
def tauM(st:List (List Int))(next:PR):List ACT:=[⟨116,st,0,0,0,0,0,next⟩]
def inputM(s:ST)(c item:Int)(to:PL)(next:PR):List ACT:=match placeM s.store to.v to.ix with
 |none=>tauM s.store stopR
 |some (v,i)=>[⟨105,[],c,v,i,item,0,next⟩]
def afterM(s:ST)(t:Int):Bool:=decide (0<IntKind.i32.wrap (s.time-t))
def valsM(st:List (List Int)):List KE→Option (List Int)
 | []=>some []
 |e::r=>match valueM st e with
  |none=>none
  |some x=>(valsM st r).map (x:: ·)
def putsM(st0:List (List Int)):List PL→List Int→List (List Int)→Option (List (List Int))
 | [],_,st=>some st
 |to::r,xs,st=>match placeM st0 to.v to.ix with
  |none=>none
  |some (v,j)=>match xs with
   | []=>none
   |x::xr=>putsM st0 r xr (putM st v j x)
def assignM(s:ST)(p:PR):List ACT:=match valsM s.store p.e with
 |none=>tauM s.store stopR
 |some xs=>match putsM s.store p.to xs s.store with
  |none=>tauM s.store stopR
  |some st=>tauM st skipR
def headR(l:List PR):PR:=match l with
 | []=>skipR
 |x::_=>x
def chooseM(s:ST):List GD→List ACT
 | []=>tauM s.store stopR
 |g::r=>match valueM s.store g.cond with
  |none=>tauM s.store stopR
  |some x=>if x=1 then tauM s.store (headR g.body) else chooseM s r
def enterG(st:List (List Int))(g:GD):Option GD:=match valueM st g.cond with
 |none=>none
 |some x=>if g.kind=4 then (match valueM st g.time with
  |none=>none
  |some t=>some ⟨g.kind,numE x,g.c,g.item,g.to,numE t,g.body⟩) else some ⟨g.kind,numE x,g.c,g.item,g.to,g.time,g.body⟩
def enterM(st:List (List Int)):List GD→Option (List GD)
 | []=>some []
 |g::r=>match enterG st g with
  |none=>none
  |some y=>(enterM st r).map (y:: ·)
def enteredM(s:ST)(p:PR):List ACT:=match enterM s.store p.gs with
 |none=>tauM s.store stopR
 |some gs=>tauM s.store ⟨16,0,0,0,[],[],gs,[]⟩
def waitG(s:ST)(g:GD):List ACT:=if g.cond.n≠1 then [] else if g.kind=3 then inputM s g.c g.item g.to (headR g.body) else if g.kind=2∨afterM s g.time.n=true then tauM s.store (headR g.body) else []
def clearM(st:List (List Int))(v:Int)(n:Nat):List (List Int):=(List.range n).foldl (fun st i=>putM st v (i:Nat) 0) st
def rowOf(st:List (List Int))(v:Int):List Int:=match st[v.toNat]? with
 |some r=>r
 |none=>[]
def valuedM(s:ST)(p:PR):List ACT:=match p.e with
 | []=>[]
 |e::_=>match valueM s.store e with
  |none=>tauM s.store stopR
  |some x=>if p.kind=6 then [⟨111,[],p.c,0,0,0,x,skipR⟩] else if p.kind=13∧x=1 then tauM s.store ⟨9,0,0,0,[],[],[],[headR p.l,p]⟩ else if p.kind=13∨afterM s x=true then tauM s.store skipR else []
def timeM(s:ST)(p:PR):List ACT:=match p.to with
 | []=>[]
 |to::_=>match placeM s.store to.v to.ix with
  |none=>tauM s.store stopR
  |some (v,i)=>tauM (putM s.store v i s.time) skipR
def inM(s:ST)(p:PR):List ACT:=match p.to with
 | []=>[]
 |to::_=>inputM s p.c p.item to skipR
def doesM(s:ST)(p:PR):List ACT:=
 if p.kind=3 then tauM (clearM s.store p.v (rowOf s.store p.v).length) skipR
 else if p.kind=4 then assignM s p
 else if p.kind=7 then timeM s p
 else if p.kind=12 then chooseM s p.gs
 else if p.kind=14∨p.kind=15 then enteredM s p
 else if p.kind=16 then p.gs.flatMap (waitG s)
 else if p.kind=5 then inM s p
 else if p.kind=8∨p.kind=13∨p.kind=6 then valuedM s p
 else []
def actsM(s:ST):List (ACT×List Nat):=(compR [] s.root).flatMap fun cp=>(doesM s cp.1).map fun a=>(a,cp.2)
def moveM(s:ST)(kind ec ev:Int)(st:List (List Int))(root:PR)(inn:List Int):MV:=⟨kind,ec,ev,⟨st,normR root,inn,s.time⟩⟩
def commM(s:ST)(a:ACT×List Nat)(b:ACT×List Nat):List MV:=
 if b.1.kind=105∧b.1.c=a.1.c∧fitsB b.1.item a.1.value=true then [moveM s 2 a.1.c a.1.value (putM s.store b.1.v b.1.i a.1.value) (repR b.1.next (repR a.1.next s.root a.2) b.2) s.inn] else []
def stepA(s:ST)(acts:List (ACT×List Nat))(a:ACT×List Nat):List MV:=
 if a.1.kind=116 then [moveM s 1 0 0 a.1.store (repR a.1.next s.root a.2) s.inn]
 else if a.1.kind=105∧a.1.c=0∧0<s.inn.length then [moveM s 2 0 (s.inn.headD 0) (putM s.store a.1.v a.1.i (s.inn.headD 0)) (repR a.1.next s.root a.2) s.inn.tail]
 else if a.1.kind=111∧a.1.c=1 then [moveM s 2 1 a.1.value s.store (repR a.1.next s.root a.2) s.inn]
 else if a.1.kind=111 then acts.flatMap (commM s a)
 else []
def tickM(s:ST):MV:=⟨3,0,0,⟨s.store,s.root,s.inn,IntKind.i32.wrap (s.time+1)⟩⟩
def movesM(s:ST):List MV:=(actsM s).flatMap (stepA s (actsM s))++[tickM s]
theorem eqLB_refl{α:Type}{p:α→α→Bool}: ∀{l:List α},(∀x,x∈l→p x x=true)→eqLB p l l=true
 | [],_=>by rw [eqLB]
 |x::r,h=>by rw [eqLB,h x (.head _),eqLB_refl fun y hy=>h y (.tail _ hy)];rfl
theorem eqK_refl_n: ∀(m:Nat) (e:KE),SizeOf.sizeOf e≤m→eqK e e=true
 |0,e,h=>by
  obtain ⟨k,o,t,n,v,l⟩:=e
  simp only [KE.mk.sizeOf_spec] at h;omega
 |m+1,e,h=>by
  rw [eqK_eq,eqKl_eq,eqLB_refl fun x hx=>eqK_refl_n m x ?_]
  ·simp
  ·obtain ⟨k,o,t,n,v,l⟩:=e
   have:=List.sizeOf_lt_of_mem hx
   simp only [KE.mk.sizeOf_spec,KE.l] at this h
   omega
theorem eqK_refl(e:KE):eqK e e=true:=eqK_refl_n _ e (Nat.le_refl _)
theorem eqP_refl(p:PL):eqP p p=true:=by unfold eqP;rw [eqKl_eq,eqLB_refl fun x _=>eqK_refl x];simp
theorem eqR_refl_n: ∀(m:Nat) (p:PR),SizeOf.sizeOf p≤m→eqR p p=true
 |0,p,h=>by
  obtain ⟨k,c,v,i,to,e,gs,l⟩:=p
  simp only [PR.mk.sizeOf_spec] at h;omega
 |m+1,p,h=>by
  rw [eqR_eq,eqLB_refl fun x _=>eqP_refl x,eqKl_eq,eqLB_refl fun x _=>eqK_refl x,eqGl_eq,eqRl_eq,eqLB_refl fun x hx=>eqR_refl_n m x (by have:=pr_lt hx;omega),eqLB_refl fun g hg=>?_]
  ·simp
  ·rw [eqG_eq,eqK_refl,eqK_refl,eqP_refl,eqRl_eq,eqLB_refl fun x hx=>eqR_refl_n m x (by have:=gg_lt hg;have:=bd_lt hx;omega)]
   simp
theorem eqR_refl(p:PR):eqR p p=true:=eqR_refl_n _ p (Nat.le_refl _)
theorem smay_p(k:KN)(s:ST)(h:GoodK k s):Pure Tryz.prog gs0 20 [encN k,encST s] (AB true):=by
 have K:=may_kok h.may
 have hk:=kmay_p k h.wf
 rw [h.may] at hk
 have he:=may_pN k.vars k.chans k.root k.procs s.store (by have:=K.vl;omega) h.short
 rw [h.store] at he
 obtain ⟨w1,w2,w3⟩:=okF_sm h.root
 have hn:=norm_p s.root w2 w3
 rw [h.nf] at hn
 have hsm:=psame_p s.root s.root w2
 rw [eqR_refl] at hsm
 have hnf:=nf_of h.nf
 have hsz:=nf_sz hnf
 have hht:=nf_ht hnf
 have hwt:=h.wt
 have hdw:=h.dw
 refine p_ tt_ok Tryz.func20 31 fun w0 h0 F hgs=>?_
 refine y_ ?_
 refine A.b rfl fun b1=>?_
 refine A.b rfl fun b2=>?_
 refine y_ ?_
 refine c_ hk ?_
 refine n_ he ?_
 (refine b_ fun bx=>?_;refine y_ ?_)
 have hfi:=fun b=>fine_p k.vars k.chans b k.root s.root 81920 0 true false (okF_its K h.root) (by omega) (by decide) (by omega) (by decide)
 refine A.entsEq (Λ':=[.box bx (ckS k.vars k.chans k.root 81920), .box b2 (encST s), .box b1 (encN k)]) rfl ?_
 refine A.drawB 2 bx (x:=ckS k.vars k.chans k.root 81920) 9 [0,1,2,3,4,5,6,7,8] (fun i=>if i=2 then [2] else []) [(2,AB true),(8,cellsR s.root)] (by decide) (by kernel_rfl) (by kernel_rfl) ?_
 refine w_ ?_
 refine WA.callT rfl rfl rfl rfl rfl rfl rfl rfl rfl rfl rfl (hfi _) (fun y' Λ' h=>h.choose_spec.1) .refl ?_
 refine w_ ?_
 refine WA.c rfl rfl hn (.sub .refl) ?_
 refine WA.nil (l:=[]) rfl ?_
 exact cr_ hsm
abbrev pathA(path:List Nat):AV:=match path with
 | []=> .v (.slice none 0 0)
 |i::r=> .sl 1 ((i::r).map fun i=>AI (i:Nat)) none
theorem pathA_snoc(path:List Nat)(i:Nat):pathA (path++[i])= .sl 1 ((path.map fun i=>AI (i:Nat))++[AI (i:Nat)]) none:=by
 cases path with
 |nil=>rfl
 |cons j r=>show AV.sl 1 (((j::r)++[i]).map fun i=>AI (i:Nat)) none=_;rw [List.map_append];rfl
theorem comps_p(p:PR)(path:List Nat):Pure Tryz.prog gs0 90 [cellsR p,pathA path] (.fn 114 [] [.pe 8 (cellsR p), .pe 1 (pathA path)]):=by
 cases path with
 |nil=>
  refine p_ tt_ok Tryz.func90 6 fun w0 h0 F hgs=>?_
  refine y_ ?_
  refine A.b rfl fun b1=>?_
  refine A.b rfl fun b2=>?_
  refine y_ ?_
  refine A.freezeS 4 b1 (y':= .fn 114 [] [.pe 8 (cellsR p),ptrA b2]) rfl rfl rfl (.fn (.cons .ptr (.sub .refl))) ?_
  refine A.freezeS 4 b2 (y':= .fn 114 [] [.pe 8 (cellsR p), .pe 1 _]) rfl rfl rfl (.fn (.cons (.sub .refl) (.cons .ptr (.sub .refl)))) ?_
  exact r_
 |cons i r=>
  refine p_ tt_ok Tryz.func90 6 fun w0 h0 F hgs=>?_
  refine y_ ?_
  refine A.b rfl fun b1=>?_
  refine A.b rfl fun b2=>?_
  refine y_ ?_
  refine A.freezeS 4 b1 (y':= .fn 114 [] [.pe 8 (cellsR p),ptrA b2]) rfl rfl rfl (.fn (.cons .ptr (.sub .refl))) ?_
  refine A.freezeS 4 b2 (y':= .fn 114 [] [.pe 8 (cellsR p), .pe 1 _]) rfl rfl rfl (.fn (.cons (.sub .refl) (.cons .ptr (.sub .refl)))) ?_
  exact r_
theorem compL_append(path:List Nat): ∀(a b:List PR) (j:Nat),compL path j (a++b)=compL path j a++compL path (j+a.length) b
 | [],b,j=>by rw [List.nil_append,compL,List.nil_append];rfl
 |x::r,b,j=>by
  rw [List.cons_append,compL,compL,compL_append path r b (j+1),List.append_assoc,List.length_cons,show j+1+r.length=j+(r.length+1) by omega]
theorem compL_get(path:List Nat){l:List PR}{i:Nat}{x:PR}(hx:l[i]? =some x):compL path 0 l=compL path 0 (l.take i)++(compR (path++[i]) x++compL path (i+1) (l.drop (i+1))):=by
 have hi:=at_lt hx
 have h:=compL_append path (l.take i) (l.drop i) 0
 rw [List.take_append_drop,drop_at hx,compL,List.length_take,Nat.zero_add,Nat.min_eq_left (by omega)] at h
 exact h
theorem compL_take(path:List Nat){l:List PR}{i:Nat}{x:PR}(hx:l[i]? =some x):compL path 0 (l.take (i+1))=compL path 0 (l.take i)++compR (path++[i]) x:=by
 have hi:=at_lt hx
 rw [List.take_add_one,hx]
 show compL path 0 (l.take i++[x])=_
 rw [compL_append,List.length_take,Nat.min_eq_left (by omega),compL,compL,List.append_nil,Nat.zero_add]
theorem A.peDis{K:AC}{k:List It}{E:AEnv}{Λ:List AEnt}(t:Nat){sz n:Nat}{l:List AV}{o:Option Value}(hx:lookA E.us t=some (.pe n (.sl sz l o)))(next:A K k ⟨(t, .pe n (.sl sz l none))::E.us,E.cs⟩ Λ):A K k E Λ:=by
 refine ⟨fun h e L hl r q=>?_⟩
 rcases r.1.look t with ⟨y,v,e1,e2,e3⟩|⟨e1,e2⟩
 ·rw [hx] at e1;injection e1 with e1;subst e1
  rw [Rp_pe] at e3
  obtain ⟨b,o',z,rfl,f1,f2,f3⟩:=e3
  exact V.val t e2 rfl (next.run _ ⟨(t,_)::e.us,e.cs⟩ L hl ⟨r.1.put (Rp_pe.2 ⟨b,o',z,rfl,Sb.rp .own1 f1,f2,f3⟩),r.2⟩ q)
 ·rw [hx] at e1;cases e1
abbrev cpA(cp:PR×List Nat):List AV:=[cellsR cp.1,pathA cp.2]
abbrev IterC(p:PR)(path:List Nat):Prop:=Iter Tryz.prog tt tt_ok gs0 114 [.pe 8 (cellsR p), .pe 1 (pathA path)] ((compR path p).map cpA)
theorem iter_leaf(p:PR)(path:List Nat)(h9:p.kind≠9)(hb:bothB p=false):IterC p path:=by
 have hbr:=branches_p p
 rw [hb] at hbr
 have hb': ¬(p.kind=10∨p.kind=11):=by simpa [bothB] using hb
 unfold IterC
 rw [compR_eq,if_neg h9,if_neg hb']
 cases path with
 |nil=>
  refine ⟨Tryz.f114,_,Tryz.func114,rfl,rfl,rfl,rfl,fun w0 h0 c hfn h1 hg1 F Q Λ0 hl hi hlen hround hfin hstop=>?_⟩
  refine y_ ?_
  refine A.b rfl fun b3=>?_
  refine y_ ?_
  refine e_ 12 rfl (x':=AB false) (ab_eq (beq_eq_false_iff_ne.2 h9)) ?_
  refine c_ hbr ?_
  refine A.yieldC c rfl rfl rfl rfl rfl rfl (hlen _ (.head _)) .refl hl (List.perm_append_singleton _ _).symm hi (hround 0 _ rfl) (fun Λ'' hi'=>?_) (fun st pd Λ'' hst hs=>?_)
  ·refine y_ ?_
   exact A.ret0 rfl rfl (List.sublist_append_left _ _) (hfin _ hi') rfl
  ·refine y_ ?_
   exact A.ret0 rfl rfl (List.sublist_append_left _ _) (hstop _ _ _ hst hs) rfl
 |cons i r=>
  refine ⟨Tryz.f114,_,Tryz.func114,rfl,rfl,rfl,rfl,fun w0 h0 c hfn h1 hg1 F Q Λ0 hl hi hlen hround hfin hstop=>?_⟩
  refine y_ ?_
  refine A.b rfl fun b3=>?_
  refine y_ ?_
  refine e_ 12 rfl (x':=AB false) (ab_eq (beq_eq_false_iff_ne.2 h9)) ?_
  refine c_ hbr ?_
  refine A.yieldC c rfl rfl rfl rfl rfl rfl (hlen _ (.head _)) .refl hl (List.perm_append_singleton _ _).symm hi (hround 0 _ rfl) (fun Λ'' hi'=>?_) (fun st pd Λ'' hst hs=>?_)
  ·refine y_ ?_
   exact A.ret0 rfl rfl (List.sublist_append_left _ _) (hfin _ hi') rfl
  ·refine y_ ?_
   exact A.ret0 rfl rfl (List.sublist_append_left _ _) (hstop _ _ _ hst hs) rfl
theorem iter_seq(p x:PR)(r:List PR)(path:List Nat)(h9:p.kind=9)(hl':p.l=x::r)(ih:IterC x path):IterC p path:=by
 have hcp:=comps_p x path
 have hat:(encRl p.l)[(0:Int).toNat]? =some (encR x):=by rw [hl',encRl];rfl
 unfold IterC at ih⊢
 rw [compR_eq path p,if_pos h9,hl',compS]
 cases path with
 |nil=>
  refine ⟨Tryz.f114,_,Tryz.func114,rfl,rfl,rfl,rfl,fun w0 h0 c hfn h1 hg1 F Q Λ0 hl hi hlen hround hfin hstop=>?_⟩
  refine y_ ?_
  refine A.b rfl fun b3=>?_
  refine y_ ?_
  refine e_ 12 rfl (x':=AB true) (ab_eq (by rw [h9];rfl)) ?_
  refine d_ 7 [0,1,2,3,4,6,5] [(5, .fn 114 [] [.pe 8 (cellsR x), .pe 1 (pathA [])])] ?_
  refine iw_ rfl hat (encR_eq x) ?_
  refine WA.c rfl rfl hcp (.sub .refl) ?_
  refine WA.nil (l:=[]) rfl ?_
  refine A.callIter c 0 rfl rfl rfl rfl rfl rfl ih .refl hl (List.perm_append_singleton _ _).symm hi hlen (fun i xs h=>by rw [Nat.zero_add];exact hround i xs h) (fun Λ'' hi'=>?_) (fun st pd Λ'' hst hs=>?_)
  ·refine y_ ?_
   exact A.ret0 rfl rfl (List.sublist_append_left _ _) (hfin _ (by rw [Nat.zero_add] at hi';exact hi')) rfl
  ·refine y_ ?_
   exact A.ret0 rfl rfl (List.sublist_append_left _ _) (hstop _ _ _ hst hs) rfl
 |cons i r=>
  refine ⟨Tryz.f114,_,Tryz.func114,rfl,rfl,rfl,rfl,fun w0 h0 c hfn h1 hg1 F Q Λ0 hl hi hlen hround hfin hstop=>?_⟩
  refine y_ ?_
  refine A.b rfl fun b3=>?_
  refine y_ ?_
  refine e_ 12 rfl (x':=AB true) (ab_eq (by rw [h9];rfl)) ?_
  refine d_ 7 [0,1,2,3,4,6,5] [(5, .fn 114 [] [.pe 8 (cellsR x), .pe 1 (pathA (i::r))])] ?_
  refine iw_ rfl hat (encR_eq x) ?_
  refine WA.c rfl rfl hcp (.sub .refl) ?_
  refine WA.nil (l:=[]) rfl ?_
  refine A.callIter c 0 rfl rfl rfl rfl rfl rfl ih .refl hl (List.perm_append_singleton _ _).symm hi hlen (fun i xs h=>by rw [Nat.zero_add];exact hround i xs h) (fun Λ'' hi'=>?_) (fun st pd Λ'' hst hs=>?_)
  ·refine y_ ?_
   exact A.ret0 rfl rfl (List.sublist_append_left _ _) (hfin _ (by rw [Nat.zero_add] at hi';exact hi')) rfl
  ·refine y_ ?_
   exact A.ret0 rfl rfl (List.sublist_append_left _ _) (hstop _ _ _ hst hs) rfl
abbrev yvA(lp:Nat):AV:= .v (.func (.yield lp) #[] #[])
theorem iter_par(p:PR)(path:List Nat)(hb:bothB p=true)(hll:p.l.length≤16777216)(hpl:path.length≤1000)(hrec: ∀x,x∈p.l→ ∀i:Nat,IterC x (path++[i])):IterC p path:=by
 have hbr:=branches_p p
 rw [hb] at hbr
 have hb':p.kind=10∨p.kind=11:=by simpa [bothB] using hb
 have h9:p.kind≠9:=by omega
 have n1:((encRl p.l).length:Int)=p.l.length:=by rw [encRl_len]
 unfold IterC
 rw [compR_eq path p,if_neg h9,if_pos hb']
 cases path with
 |nil=>
  refine ⟨Tryz.f114,_,Tryz.func114,rfl,rfl,rfl,rfl,fun w0 h0 c hfn h1 hg1 F Q Λ0 hl hi hlen hround hfin hstop=>?_⟩
  refine y_ ?_
  refine A.b rfl fun b3=>?_
  refine y_ ?_
  refine e_ 12 rfl (x':=AB false) (ab_eq (beq_eq_false_iff_ne.2 h9)) ?_
  refine c_ hbr ?_
  refine A.valE 29 rfl (x':=AI (p.l.length:Nat)) (ai_eq n1) ?_
  refine A.keep [1,2,3,28,29,30] rfl ?_
  refine A.loopK (ι:=Nat×List AEnt) (fun s=>(⟨[(1, .pe 8 (cellsR p)),(2, .pe 1 (pathA [])),(3,ptrA b3),(28,rsA p.l),(29,AI (p.l.length:Nat)),(30,AI (s.1:Nat))],[]⟩, .box b3 (yvA c.lp):: .loop c.lp c.r0 .ready none::s.2))
   (fun s=>s.1≤p.l.length∧c.Inv (compL [] 0 (p.l.take s.1)).length s.2) (fun s=>p.l.length-s.1) (0,Λ0) ⟨Nat.zero_le _,by rw [List.take_zero,compL];exact hi⟩ rfl fun h2 hg2 D1 s hl2 hs ih=>?_
  obtain ⟨i,Λ1⟩:=s
  obtain ⟨hs1,hs2⟩:=hs
  simp only at hs1 hs2
  refine y_ ?_
  refine k_ (fun hc=>?_) fun hc=>?_
  ·have hci:i<p.l.length:=by simpa using hc
   clear hc
   refine Exists.elim (at_exN (l:=p.l) (i:=i) hci) fun x hx=>?_
   have hcp:=comps_p x ([]++[i])
   have hit:=hrec x (List.mem_of_getElem? hx) i
   rw [pathA_snoc] at hcp
   unfold IterC at hit
   rw [pathA_snoc] at hit
   have hget:=compL_get [] hx
   have htake:=compL_take [] hx
   refine y_ ?_
   refine j_ rfl (encRl_at hx) (encR_eq x) ?_
   (refine b_ fun bx=>?_;refine y_ ?_)
   refine A.fullTail ty3.size 0 none (fun _=>rfl) (fun x h=>by cases h) ?_
   refine A.drawT 9 ty3.size (.slice none 0 0) 10 [0,1,2,3,4,5,6,7,8,9] (fun i=>if i=9 then [8] else []) [] (by decide) rfl (by kernel_rfl) ?_
   refine w_ ?_
   refine WA.slice3V rfl rfl rfl rfl rfl rfl rfl rfl rfl (Nat.le_refl 0) (Nat.le_refl 0) rfl ?_
   refine w_ ?_
   refine WA.lit rfl rfl rfl rfl rfl rfl rfl fun bw=>?_
   refine WA.append rfl rfl rfl rfl rfl rfl rfl rfl rfl rfl rfl rfl rfl rfl rfl rfl rfl rfl (.pub (j:=8) rfl rfl (.sub .refl)) (by show (0+1)*1≤1073741824;omega) fun z'=>?_
   refine WA.nil (l:=[_]) rfl ?_
   refine n_ hcp ?_
   refine A.keep [1,2,3,28,29,30,45] rfl ?_
   refine l_ (Λ':= .box b3 (yvA c.lp):: .loop c.lp c.r0 .ready none::Λ1) ?_
   refine y_ ?_
   refine A.rangeIter (xss:=(compR ([]++[i]) x).map cpA) rfl .refl hit rfl rfl (fun xs hxs=>?_) (fun j Λ=> ∃Λ'',Λ= .box b3 (yvA c.lp):: .loop c.lp c.r0 .ready none::Λ''∧c.Inv ((compL [] 0 (p.l.take i)).length+j) Λ'')
    (fun st pd Λ=>st= .done∧pd=some .ret∧ ∃st' pd' Λ'',st'≠ .busy∧Λ= .box b3 (yvA c.lp):: .loop c.lp c.r0 st' pd'::Λ''∧c.Stop st' pd' Λ'') ⟨Λ1,rfl,hs2⟩ (fun h3 lp tm hl3 j xs Λi h4 hg4 F4 hxs hinv hl4=>?_) (fun h3 hg3 r Λ' hl3 hinv=>?_) (fun h3 hg3 r st pd Λ' hl3 hst hs=>?_)
   ·rw [List.mem_map] at hxs
    obtain ⟨cp,_,rfl⟩:=hxs
    rfl
   ·obtain ⟨Λ3,rfl,hi3⟩:=hinv
    obtain ⟨cp,hcp1,rfl⟩: ∃cp,(compR ([]++[i]) x)[j]? =some cp∧cpA cp=xs:=by
     rw [List.getElem?_map] at hxs
     cases hq:(compR ([]++[i]) x)[j]? with
     |none=>rw [hq] at hxs;cases hxs
     |some cp=>rw [hq] at hxs;injection hxs with hxs;exact ⟨cp,rfl,hxs⟩
    have hg:((compL [] 0 p.l).map cpA)[(compL [] 0 (p.l.take i)).length+j]? =some (cpA cp):=by
     rw [List.getElem?_map,hget,List.getElem?_append_right (by omega),Nat.add_sub_cancel_left,List.getElem?_append_left (at_lt hcp1),hcp1];rfl
    have hr:=hround _ _ hg
    have hln:=hlen _ (List.mem_of_getElem? hg)
    have hle:h0.le h4:=GH.le_trans hl (GH.le_trans hl2 (GH.le_trans hl3 hl4))
    (refine b_ fun bx=>?_;refine y_ ?_)
    refine A.begin rfl rfl rfl ?_
    refine y_ ?_
    refine A.yieldC c (Λi:=Λ3) rfl rfl rfl rfl rfl rfl hln .refl hle (List.perm_append_comm (l₁:=[_,_,_])) hi3 hr (fun Λ4 hi4=>?_) (fun st pd Λ4 hst4 hs4=>?_)
    ·refine A.perm List.perm_append_comm ?_
     refine l_ (Λ':=_:: .box b3 (yvA c.lp):: .loop c.lp c.r0 .ready none::Λ4) ?_
     refine y_ ?_
     exact A.roundEnd rfl rfl (.inl ⟨rfl,_,rfl,Λ4,rfl,by rw [←Nat.add_assoc];exact hi4⟩)
    ·refine A.perm List.perm_append_comm ?_
     refine l_ (Λ':=_:: .box b3 (yvA c.lp):: .loop c.lp c.r0 st pd::Λ4) ?_
     refine y_ ?_
     exact A.roundRet rfl rfl (.inr ⟨rfl, .done,some .ret,_,(by intro h;cases h),rfl,rfl,rfl,st,pd,Λ4,hst4,rfl,hs4⟩)
   ·obtain ⟨Λ3,rfl,hi3⟩:=hinv
    have hi4:c.Inv (compL [] 0 (p.l.take (i+1))).length Λ3:=by rw [htake,List.length_append];rw [List.length_map] at hi3;exact hi3
    refine y_ ?_
    refine A.valE 30 rfl (x':=AI ((i+1:Nat):Int)) (inc_eq i (by omega)) ?_
    refine u_ (ih h3 hg3 _ (i+1,Λ3) hl3 ⟨by show i+1≤_;omega,hi4⟩ (by show _-(i+1)<_-i;omega))
   ·obtain ⟨rfl,rfl,st',pd',Λ3,hst',rfl,hs'⟩:=hs
    exact A.ret0 rfl rfl (List.sublist_cons_self _ _) (hstop _ _ _ hst' hs') rfl
  have hci: ¬i<p.l.length:=by simpa using hc
  clear hc ih
  have hil:i=p.l.length:=by omega
  rw [hil,List.take_length] at hs2
  refine y_ ?_
  exact A.ret0 rfl rfl (List.sublist_cons_self _ _) (hfin _ (by rw [List.length_map];exact hs2)) rfl
 |cons i0 r0=>
  refine ⟨Tryz.f114,_,Tryz.func114,rfl,rfl,rfl,rfl,fun w0 h0 c hfn h1 hg1 F Q Λ0 hl hi hlen hround hfin hstop=>?_⟩
  refine y_ ?_
  refine A.b rfl fun b3=>?_
  refine y_ ?_
  refine e_ 12 rfl (x':=AB false) (ab_eq (beq_eq_false_iff_ne.2 h9)) ?_
  refine c_ hbr ?_
  refine A.valE 29 rfl (x':=AI (p.l.length:Nat)) (ai_eq n1) ?_
  refine A.keep [1,2,3,28,29,30] rfl ?_
  refine A.loopK (ι:=Nat×List AEnt) (fun s=>(⟨[(1, .pe 8 (cellsR p)),(2, .pe 1 (pathA (i0::r0))),(3,ptrA b3),(28,rsA p.l),(29,AI (p.l.length:Nat)),(30,AI (s.1:Nat))],[]⟩, .box b3 (yvA c.lp):: .loop c.lp c.r0 .ready none::s.2))
   (fun s=>s.1≤p.l.length∧c.Inv (compL (i0::r0) 0 (p.l.take s.1)).length s.2) (fun s=>p.l.length-s.1) (0,Λ0) ⟨Nat.zero_le _,by rw [List.take_zero,compL];exact hi⟩ rfl fun h2 hg2 D1 s hl2 hs ih=>?_
  obtain ⟨i,Λ1⟩:=s
  obtain ⟨hs1,hs2⟩:=hs
  simp only at hs1 hs2
  refine y_ ?_
  refine k_ (fun hc=>?_) fun hc=>?_
  ·have hci:i<p.l.length:=by simpa using hc
   clear hc
   refine Exists.elim (at_exN (l:=p.l) (i:=i) hci) fun x hx=>?_
   have hcp:=comps_p x ((i0::r0)++[i])
   have hit:=hrec x (List.mem_of_getElem? hx) i
   rw [pathA_snoc] at hcp
   unfold IterC at hit
   rw [pathA_snoc] at hit
   have hget:=compL_get (i0::r0) hx
   have htake:=compL_take (i0::r0) hx
   refine y_ ?_
   refine j_ rfl (encRl_at hx) (encR_eq x) ?_
   (refine b_ fun bx=>?_;refine y_ ?_)
   refine A.peOwn 2 rfl (by intro h;cases h) fun bb oo cc=>?_
   refine A.fullTail ty3.size ((i0::r0).map fun i=>AI (i:Nat)).length (some ⟨bb,oo,none⟩) (fun h=>by cases h) (fun x h=>by injection h with h;rw [←h]) ?_
   refine A.drawT 9 ty3.size (.slice (some ⟨bb,oo,none⟩) ((i0::r0).map fun i=>AI (i:Nat)).length ((i0::r0).map fun i=>AI (i:Nat)).length) 10 [0,1,2,3,4,5,6,7,8,9] (fun i=>if i=9 then [8] else []) [] (by decide) rfl (by kernel_rfl) ?_
   refine w_ ?_
   refine WA.slice3 rfl rfl rfl rfl rfl rfl rfl rfl rfl rfl rfl rfl ?_
   refine w_ ?_
   refine WA.lit rfl rfl rfl rfl rfl rfl rfl fun bw=>?_
   refine WA.append rfl rfl rfl rfl rfl rfl rfl rfl rfl rfl rfl rfl rfl rfl rfl rfl rfl rfl (.pub (j:=8) rfl rfl (.sub .refl)) (by show (((i0::r0).map fun i=>AI (i:Nat)).length+1)*1≤_;rw [List.length_map];omega) fun z'=>?_
   refine WA.nil (l:=[_]) rfl ?_
   refine n_ hcp ?_
   refine A.keep [1,2,3,28,29,30,45] rfl ?_
   refine l_ (Λ':= .box b3 (yvA c.lp):: .loop c.lp c.r0 .ready none::Λ1) ?_
   refine y_ ?_
   refine A.rangeIter (xss:=(compR ((i0::r0)++[i]) x).map cpA) rfl .refl hit rfl rfl (fun xs hxs=>?_) (fun j Λ=> ∃Λ'',Λ= .box b3 (yvA c.lp):: .loop c.lp c.r0 .ready none::Λ''∧c.Inv ((compL (i0::r0) 0 (p.l.take i)).length+j) Λ'')
    (fun st pd Λ=>st= .done∧pd=some .ret∧ ∃st' pd' Λ'',st'≠ .busy∧Λ= .box b3 (yvA c.lp):: .loop c.lp c.r0 st' pd'::Λ''∧c.Stop st' pd' Λ'') ⟨Λ1,rfl,hs2⟩ (fun h3 lp tm hl3 j xs Λi h4 hg4 F4 hxs hinv hl4=>?_) (fun h3 hg3 r Λ' hl3 hinv=>?_) (fun h3 hg3 r st pd Λ' hl3 hst hs=>?_)
   ·rw [List.mem_map] at hxs
    obtain ⟨cp,_,rfl⟩:=hxs
    rfl
   ·obtain ⟨Λ3,rfl,hi3⟩:=hinv
    obtain ⟨cp,hcp1,rfl⟩: ∃cp,(compR ((i0::r0)++[i]) x)[j]? =some cp∧cpA cp=xs:=by
     rw [List.getElem?_map] at hxs
     cases hq:(compR ((i0::r0)++[i]) x)[j]? with
     |none=>rw [hq] at hxs;cases hxs
     |some cp=>rw [hq] at hxs;injection hxs with hxs;exact ⟨cp,rfl,hxs⟩
    have hg:((compL (i0::r0) 0 p.l).map cpA)[(compL (i0::r0) 0 (p.l.take i)).length+j]? =some (cpA cp):=by
     rw [List.getElem?_map,hget,List.getElem?_append_right (by omega),Nat.add_sub_cancel_left,List.getElem?_append_left (at_lt hcp1),hcp1];rfl
    have hr:=hround _ _ hg
    have hln:=hlen _ (List.mem_of_getElem? hg)
    have hle:h0.le h4:=GH.le_trans hl (GH.le_trans hl2 (GH.le_trans hl3 hl4))
    (refine b_ fun bx=>?_;refine y_ ?_)
    refine A.begin rfl rfl rfl ?_
    refine y_ ?_
    refine A.yieldC c (Λi:=Λ3) rfl rfl rfl rfl rfl rfl hln .refl hle (List.perm_append_comm (l₁:=[_,_,_])) hi3 hr (fun Λ4 hi4=>?_) (fun st pd Λ4 hst4 hs4=>?_)
    ·refine A.perm List.perm_append_comm ?_
     refine l_ (Λ':=_:: .box b3 (yvA c.lp):: .loop c.lp c.r0 .ready none::Λ4) ?_
     refine y_ ?_
     exact A.roundEnd rfl rfl (.inl ⟨rfl,_,rfl,Λ4,rfl,by rw [←Nat.add_assoc];exact hi4⟩)
    ·refine A.perm List.perm_append_comm ?_
     refine l_ (Λ':=_:: .box b3 (yvA c.lp):: .loop c.lp c.r0 st pd::Λ4) ?_
     refine y_ ?_
     exact A.roundRet rfl rfl (.inr ⟨rfl, .done,some .ret,_,(by intro h;cases h),rfl,rfl,rfl,st,pd,Λ4,hst4,rfl,hs4⟩)
   ·obtain ⟨Λ3,rfl,hi3⟩:=hinv
    have hi4:c.Inv (compL (i0::r0) 0 (p.l.take (i+1))).length Λ3:=by rw [htake,List.length_append];rw [List.length_map] at hi3;exact hi3
    refine y_ ?_
    refine A.valE 30 rfl (x':=AI ((i+1:Nat):Int)) (inc_eq i (by omega)) ?_
    refine A.peDis 2 rfl ?_
    refine u_ (ih h3 hg3 _ (i+1,Λ3) hl3 ⟨by show i+1≤_;omega,hi4⟩ (by show _-(i+1)<_-i;omega))
   ·obtain ⟨rfl,rfl,st',pd',Λ3,hst',rfl,hs'⟩:=hs
    exact A.ret0 rfl rfl (List.sublist_cons_self _ _) (hstop _ _ _ hst' hs') rfl
  have hci: ¬i<p.l.length:=by simpa using hc
  clear hc ih
  have hil:i=p.l.length:=by omega
  rw [hil,List.take_length] at hs2
  refine y_ ?_
  exact A.ret0 rfl rfl (List.sublist_cons_self _ _) (hfin _ (by rw [List.length_map];exact hs2)) rfl
theorem iter_n{V:List KV}{C:List Int}: ∀(m:Nat) (p:PR) (path:List Nat) (h:Bool),SizeOf.sizeOf p≤m→okF (Loc V C) true h p→nfR p→path.length+htR p≤1000→IterC p path
 |0,p,_,_,h,_,_,_=>by
  obtain ⟨k,c,v,i,to,e,gs,l⟩:=p
  simp only [PR.mk.sizeOf_spec] at h;omega
 |m+1,p,path,h,hm,hok,hnf,hpl=>by
  have hok0:=hok
  rw [okF_eq] at hok
  obtain ⟨⟨w1,w2,w3⟩,w4,w5⟩:=hok
  rw [nfR_eq] at hnf
  have hht:=htR_eq p
  by_cases h9:p.kind=9
  ·rw [if_pos h9] at hnf
   match hl:p.l,hnf with
   |x::y::s,hnf=>
    rw [nfS_2] at hnf
    have hx:x∈p.l:=by rw [hl];exact .head _
    rw [hl,h9,okFl] at w4
    have:=htL_le hx
    exact iter_seq p x (y::s) path h9 hl (iter_n m x path _ (by have:=pr_lt hx;omega) w4.1 hnf.2 (by omega))
  ·rw [if_neg h9] at hnf
   cases hb:bothB p with
   |false=>exact iter_leaf p path h9 hb
   |true=>
    have hb':p.kind=10∨p.kind=11:=by simpa [bothB] using hb
    rw [if_pos hb'] at hnf
    have hlens:=w1.lens
    have e1:(true&&(p.kind==9||p.kind==10||p.kind==11))=true:=by rcases hb' with h|h<;>rw [h]<;>rfl
    have e2:(true&&(p.kind==10||p.kind==11))=true:=by rcases hb' with h|h<;>rw [h]<;>rfl
    rw [e1,e2] at w4
    refine iter_par p path hb (by omega) (by have:=htR_pos p;omega) fun x hx i=>?_
    obtain ⟨j,hj,hjx⟩:=List.getElem_of_mem hx
    obtain ⟨h',hw⟩:=okFl_at (j:=j) (x:=x) (by rw [List.getElem?_eq_getElem hj,hjx]) w4
    have:=htL_le hx
    refine iter_n m x (path++[i]) h' (by have:=pr_lt hx;omega) hw (nfL_mem hnf.2 x hx) ?_
    rw [List.length_append,List.length_singleton];omega
abbrev pathL(path:List Nat):AV:= .sl 1 (path.map fun i=>AI (i:Nat)) none
theorem encRl_set(l:List PR)(j:Nat)(y:PR):(encRl l).set j (cellsR y)=encRl (l.set j y):=by rw [encRl_cells,encRl_cells,List.map_set]
theorem repS_p(p q x Y:PR)(r:List PR)(path:List Nat)(h9:p.kind=9)(hl:p.l=x::r)(hb:p.l.length≤16777216)(hrec:Pure Tryz.prog gs0 93 [cellsR x,pathL path,cellsR q] (cellsR Y)):Pure Tryz.prog gs0 93 [cellsR p,pathL path,cellsR q] (cellsR ⟨p.kind,p.c,p.v,p.item,p.to,p.e,p.gs,p.l.set 0 Y⟩):=by
 have hcl:=cloneR_p p.l hb
 have hlen:=encRl_len p.l
 have hat:(encRl p.l)[0]? =some (cellsR x):=by rw [hl,encRl_cons];rfl
 have hj:0<p.l.length:=by rw [hl];simp
 refine p_ tt_ok Tryz.func93 38 fun w0 h0 F hgs=>?_
 (refine b_ fun bx=>?_;refine b_ fun bx=>?_;refine b_ fun bx=>?_;refine y_ ?_)
 refine A.valE 12 rfl (x':=AB true) (ab_eq (by rw [h9];rfl)) ?_
 refine e_ 9 rfl (x':=AB true) (ab_eq (by rw [h9];rfl)) ?_
 refine A.valE 7 rfl (x':=AI ((0:Nat):Int)) rfl ?_
 refine A.e rfl hcl .refl (List.Perm.refl _) fun z _=>?_
 refine y_ ?_
 refine d_ 11 [0,1,2,3,4,5,6,7,8,9,10] [(10,cellsR Y)] ?_
 refine WA.indexRow rfl rfl rfl rfl rfl rfl rfl rfl rfl (by first|omega|decide) (by rw [hlen];omega) rfl ?_
 refine WA.loadRow rfl rfl rfl rfl rfl rfl rfl (y':=cellsR x) rfl hat rfl rfl ?_
 refine w_ ?_
 refine WA.c rfl rfl hrec (.sub s_) ?_
 refine WA.nil (l:=[]) rfl ?_
 refine A.indexRow rfl rfl rfl rfl rfl rfl rfl rfl (by first|omega|decide) (by rw [hlen];omega) rfl ?_
 refine A.storeRow rfl rfl rfl rfl rfl rfl rfl rfl rfl (by rw [hlen];first|exact hj|(show (0:Nat)<_;omega)) (xs':=encRl (p.l.set 0 Y)) (encRl_set p.l 0 Y) ?_
 refine A.freezeRowV 3 z (x':=cellsR ⟨p.kind,p.c,p.v,p.item,p.to,p.e,p.gs,p.l.set 0 Y⟩) rfl fz_ ?_
 refine y_ ?_;refine A.retC (Λ':=[]) rfl rfl rfl rfl rfl (List.nil_sublist _) ⟨?_,rfl⟩;exact .refl
theorem repL_p(p q x Y:PR)(j:Nat)(path:List Nat)(hk:p.kind=10∨p.kind=11)(hx:p.l[j]? =some x)(hb:p.l.length≤16777216)(hrec:Pure Tryz.prog gs0 93 [cellsR x,pathL path,cellsR q] (cellsR Y)):Pure Tryz.prog gs0 93 [cellsR p,pathL (j::path),cellsR q] (cellsR ⟨p.kind,p.c,p.v,p.item,p.to,p.e,p.gs,p.l.set j Y⟩):=by
 have hcl:=cloneR_p p.l hb
 have hlen:=encRl_len p.l
 have hat:(encRl p.l)[j]? =some (cellsR x):=by rw [encRl_at hx,encR_eq]
 have hj:j<p.l.length:=at_lt hx
 have hbr:=branches_p p
 rw [show bothB p=true by simpa [bothB] using hk] at hbr
 have h9:p.kind≠9:=by rcases hk with h|h<;>rw [h]<;>decide
 refine p_ tt_ok Tryz.func93 38 fun w0 h0 F hgs=>?_
 (refine b_ fun bx=>?_;refine b_ fun bx=>?_;refine b_ fun bx=>?_;refine y_ ?_)
 refine A.valE 12 rfl (x':=AB false) (ab_eq (beq_eq_false_iff_ne.2 h9)) ?_
 refine e_ 9 rfl (x':=AB false) (ab_eq (beq_eq_false_iff_ne.2 h9)) ?_
 refine c_ hbr ?_
 refine d_ 6 [0,1,2,3,4,5] [] ?_
 refine WA.x rfl (by show (0:Int)≤((0:Nat):Int);omega) rfl rfl rfl ?_
 refine w_ ?_
 refine WA.slice (ys:=path.map fun i=>AI (i:Nat)) rfl rfl rfl rfl rfl rfl rfl rfl rfl rfl (by decide) (by rw [List.length_map,List.length_cons];omega) (by omega) (by rw [List.length_map,List.length_cons];simp [List.take_of_length_le]) rfl ?_
 refine w_ ?_
 refine z_ ?_
 refine A.e rfl hcl .refl (List.Perm.refl _) fun z _=>?_
 refine y_ ?_
 refine d_ 11 [0,1,2,3,4,5,6,7,8,9,10] [(10,cellsR Y)] ?_
 refine WA.indexRow rfl rfl rfl rfl rfl rfl rfl rfl rfl (by first|omega|decide) (by rw [hlen];omega) rfl ?_
 refine WA.loadRow rfl rfl rfl rfl rfl rfl rfl (y':=cellsR x) rfl hat rfl rfl ?_
 refine w_ ?_
 refine WA.c rfl rfl hrec (.sub s_) ?_
 refine WA.nil (l:=[]) rfl ?_
 refine A.indexRow rfl rfl rfl rfl rfl rfl rfl rfl (by first|omega|decide) (by rw [hlen];omega) rfl ?_
 refine A.storeRow rfl rfl rfl rfl rfl rfl rfl rfl rfl (by rw [hlen];first|exact hj|(show (0:Nat)<_;omega)) (xs':=encRl (p.l.set j Y)) (encRl_set p.l j Y) ?_
 refine A.freezeRowV 3 z (x':=cellsR ⟨p.kind,p.c,p.v,p.item,p.to,p.e,p.gs,p.l.set j Y⟩) rfl fz_ ?_
 refine y_ ?_;refine A.retC (Λ':=[]) rfl rfl rfl rfl rfl (List.nil_sublist _) ⟨?_,rfl⟩;exact .refl
theorem repN_p(p q:PR)(h9:p.kind≠9)(hk: ¬(p.kind=10∨p.kind=11)):Pure Tryz.prog gs0 93 [cellsR p,pathL [],cellsR q] (cellsR q):=by
 have hbr:=branches_p p
 rw [show bothB p=false by simpa [bothB] using hk] at hbr
 refine p_ tt_ok Tryz.func93 38 fun w0 h0 F hgs=>?_
 (refine b_ fun bx=>?_;refine b_ fun bx=>?_;refine b_ fun bx=>?_;refine y_ ?_)
 refine A.valE 12 rfl (x':=AB false) (ab_eq (beq_eq_false_iff_ne.2 h9)) ?_
 refine e_ 9 rfl (x':=AB false) (ab_eq (beq_eq_false_iff_ne.2 h9)) ?_
 refine c_ hbr ?_;refine A.retC (Λ':=[]) rfl rfl rfl rfl rfl (List.nil_sublist _) ⟨?_,rfl⟩;exact .refl
theorem replaced_n{V:List KV}{C:List Int}(q c:PR): ∀(m:Nat) (p:PR) (path:List Nat) (h:Bool),SizeOf.sizeOf p≤m→okF (Loc V C) true h p→atR p path=some c→Pure Tryz.prog gs0 93 [cellsR p,pathL path,cellsR q] (cellsR (repR q p path))
 |0,p,_,_,h,_,_=>by
  obtain ⟨k,c,v,i,to,e,gs,l⟩:=p
  simp only [PR.mk.sizeOf_spec] at h;omega
 |m+1,p,path,h,hm,hok,ha=>by
  rw [okF_eq] at hok
  obtain ⟨⟨w1,w2,w3⟩,w4,w5⟩:=hok
  have hb:p.l.length≤16777216:=by have:=w1.lens;omega
  rw [repR_eq]
  rw [atR_eq] at ha
  by_cases h9:p.kind=9
  ·rw [if_pos h9] at ha⊢
   match hl:p.l,ha with
   | [],ha=>rw [atS] at ha;cases ha
   |x::r,ha=>
    rw [atS] at ha
    have hx:x∈p.l:=by rw [hl];exact .head _
    rw [hl,h9,okFl] at w4
    have e:=repS_p p q x _ r path h9 hl hb (replaced_n q c m x path _ (by have:=pr_lt hx;omega) w4.1 ha)
    rw [hl] at e
    rw [repS]
    exact e
  ·rw [if_neg h9] at ha⊢
   by_cases hk:p.kind=10∨p.kind=11
   ·rw [if_pos hk] at ha⊢
    match path,ha with
    |j::rest,ha=>
     obtain ⟨x,hx,ha⟩:=atL_get ha
     have hxm:=List.mem_of_getElem? hx
     show Pure _ _ _ _ (cellsR ⟨_,_,_,_,_,_,_,repL q p.l j rest⟩)
     rw [repL_set q hx]
     have e1:(true&&(p.kind==9||p.kind==10||p.kind==11))=true:=by rcases hk with h|h<;>rw [h]<;>rfl
     have e2:(true&&(p.kind==10||p.kind==11))=true:=by rcases hk with h|h<;>rw [h]<;>rfl
     rw [e1,e2] at w4
     obtain ⟨h',hw⟩:=okFl_at (j:=j) (x:=x) hx w4
     exact repL_p p q x _ j rest hk hx hb (replaced_n q c m x rest h' (by have:=pr_lt hxm;omega) hw ha)
   ·rw [if_neg hk] at ha⊢
    match path,ha with
    | [],ha=>exact repN_p p q h9 hk
theorem replaced_p{V:List KV}{C:List Int}{q c p:PR}{path:List Nat}{h:Bool}(hok:okF (Loc V C) true h p)(ha:atR p path=some c):Pure Tryz.prog gs0 93 [cellsR p,pathL path,cellsR q] (cellsR (repR q p path)):=replaced_n q c _ p path h (Nat.le_refl _) hok ha
abbrev rnA(s:ST):AV:= .pe 11 (encST s)
abbrev actA(a:ACT):AV:= .ag [AU8 a.kind,rowsA a.store,AI a.c,AI a.v,AI a.i,AU8 a.item,AI32 a.value,AU8 a.next.kind,AI a.next.c,AI a.next.v,AU8 a.next.item,plsA a.next.to,kesA a.next.e,gsA a.next.gs,rsA a.next.l, .v .nilFunc, .sl 1 [] none]
abbrev actsA(l:List ACT):AV:= .sl 17 (l.map actA) none
theorem tau_p(s:ST)(st:List (List Int))(q:PR):Pure Tryz.prog gs0 115 [rnA s,rowsA st,cellsR q] (actsA (tauM st q)):=by
 refine p_ tt_ok Tryz.func115 11 fun w0 h0 F hgs=>?_
 (refine b_ fun bx=>?_;refine t_ fun bl=>?_;refine y_ ?_)
 refine R_ ?_
 exact s_
theorem after_p(s:ST)(t:Int):Pure Tryz.prog gs0 152 [rnA s,AI32 t] (AB (afterM s t)):=by
 refine p_ tt_ok Tryz.func152 13 fun w0 h0 F hgs=>?_
 exact yr_
theorem ninput_p(s:ST)(c item:Int)(to:PL)(next:PR)(hs:wfS s.store)(hw:wfPl to)(hn:to.ix.length≤281474976710656):Pure Tryz.prog gs0 122 [rnA s,AI c,AU8 item,encPl to,cellsR next] (actsA (inputM s c item to next)):=by
 have hp:=Place_p s.store hs to.v to.ix hw hn
 refine Exists.elim (show∃R,R=inputM s c item to next from ⟨_,rfl⟩) fun R hR=>?_
 rw [←hR]
 unfold inputM at hR
 cases hpl:placeM s.store to.v to.ix with
 |none=>
  rw [hpl] at hp hR
  have hRR:R=tauM s.store stopR:=hR
  refine p_ tt_ok Tryz.func122 42 fun w0 h0 F hgs=>?_
  (refine b_ fun bx=>?_;refine b_ fun bx=>?_;refine y_ ?_)
  refine d_ 13 [0,1,2,3,4,5,6,7,8,9,10,11,12] [(6,optP none)] ?_
  refine cw_ hp ?_
  refine z_ ?_
  refine d_ 7 [0,1,2,3,4,5,6] [(6,cellsR stopR)] ?_
  refine WA.c rfl rfl stop_p (.sub .refl) ?_
  refine WA.nil (l:=[]) rfl ?_
  refine c_ (tau_p s s.store stopR) ?_;refine R_ ?_;rw [hRR];exact .refl
 |some vi=>
  rw [hpl] at hp hR
  obtain ⟨v,i⟩:=vi
  refine p_ tt_ok Tryz.func122 42 fun w0 h0 F hgs=>?_
  (refine b_ fun bx=>?_;refine b_ fun bx=>?_;refine y_ ?_)
  refine d_ 13 [0,1,2,3,4,5,6,7,8,9,10,11,12] [(6,optP (some (v,i)))] ?_
  refine cw_ hp ?_
  refine WA.nil (l:=[]) rfl ?_
  (refine t_ fun bl=>?_;refine y_ ?_)
  refine R_ ?_
  rw [hR]
  exact s_
theorem valued_p(s:ST)(p:PR)(e:KE)(r:List KE)(he:p.e=e::r)(hs:wfS s.store)(hw:wfK e)(b:PR)(hb:p.kind=13→ ∃r,p.l=b::r):Pure Tryz.prog gs0 123 [rnA s,cellsR p] (actsA (valuedM s p)):=by
 have hv:=Value_p s.store hs e hw
 rw [encK_eq] at hv
 have hat:(encKl p.e)[(0:Int).toNat]? =some (encK e):=by rw [he,encKl];rfl
 have hbt:p.kind=13→(encRl p.l)[(0:Int).toNat]? =some (encR b):=fun h=>by obtain ⟨r,hl⟩:=hb h;rw [hl,encRl];rfl
 have hbh:p.kind=13→headR p.l=b:=fun h=>by obtain ⟨r,hl⟩:=hb h;rw [hl];rfl
 refine Exists.elim (show∃R,R=valuedM s p from ⟨_,rfl⟩) fun R hR=>?_
 rw [←hR]
 unfold valuedM at hR
 rw [he] at hR
 simp only at hR
 cases hx:valueM s.store e with
 |none=>
  rw [hx] at hv hR
  have hRR:R=tauM s.store stopR:=hR
  refine p_ tt_ok Tryz.func123 80 fun w0 h0 F hgs=>?_
  (refine b_ fun bx=>?_;refine y_ ?_)
  refine d_ 14 [0,1,2,3,4,5,6,7,8,9,10,11,12,13] [(9,optA none)] ?_
  refine iw_ rfl hat (encK_eq e) ?_
  refine cw_ hv ?_
  refine z_ ?_
  refine d_ 7 [0,1,2,3,4,5,6] [(6,cellsR stopR)] ?_
  refine WA.c rfl rfl stop_p (.sub .refl) ?_
  refine WA.nil (l:=[]) rfl ?_
  refine c_ (tau_p s s.store stopR) ?_;refine R_ ?_;rw [hRR];exact .refl
 |some x=>
  rw [hx] at hv hR
  simp only at hR
  refine p_ tt_ok Tryz.func123 80 fun w0 h0 F hgs=>?_
  (refine b_ fun bx=>?_;refine y_ ?_)
  refine d_ 14 [0,1,2,3,4,5,6,7,8,9,10,11,12,13] [(9,optA (some x))] ?_
  refine iw_ rfl hat (encK_eq e) ?_
  refine cw_ hv ?_
  refine z_ ?_
  refine k_ (fun hc=>?_) fun hc=>?_
  ·have h6:p.kind=6:=by have h:(p.kind==6)=true:=hc;simpa using h
   rw [if_pos h6] at hR
   clear hc
   refine y_ ?_
   refine d_ 4 [0,1,2,3] [(3,cellsR skipR)] ?_
   refine WA.c rfl rfl skip_p (.sub .refl) ?_
   refine WA.nil (l:=[]) rfl ?_
   (refine t_ fun bl=>?_;refine y_ ?_)
   refine R_ ?_
   rw [hR]
   exact s_
  have h6:p.kind≠6:=by have h:(p.kind==6)=false:=hc;simpa using h
  rw [if_neg h6] at hR
  clear hc
  refine y_ ?_
  ((fail_if_success (refine A.lit? rfl ?_));refine A.gS rfl (fun hc=>?_) (fun hc=>?_))
  ·have h13:p.kind=13:=by have h:(p.kind==13)=true:=hc;simpa using h
   clear hc
   refine y_ ?_
   refine k_ (fun hc=>?_) fun hc=>?_
   ·have hx1:x=1:=by have h:(x==1)=true:=hc;simpa using h
    clear hc
    rw [if_pos ⟨h13,hx1⟩,hbh h13] at hR
    refine y_ ?_
    refine d_ 13 [0,1,2,3,4,5,6,7,8,9,10,11,12] [] ?_
    refine iw_ rfl (hbt h13) (encR_eq b) ?_
    refine WA.lit rfl rfl rfl rfl rfl rfl rfl fun bw=>?_
    refine w_ ?_
    refine WA.nil (l:=[_]) rfl ?_
    refine A.freezeRowS 61 (.slice (some ⟨bw,0,none⟩) 2 2) (y':= .ag [AU8 9,AI 0,AI 0,AU8 0, .v (.slice none 0 0), .v (.slice none 0 0), .v (.slice none 0 0), .sl 8 [cellsR b,cellsR p] none]) rfl fz_ ?_
    have hta:=tau_p s s.store ⟨9,0,0,0,[],[],[],[b,p]⟩
    have e9:cellsR ⟨9,0,0,0,[],[],[],[b,p]⟩= .ag [AU8 9,AI 0,AI 0,AU8 0, .sl 2 [] none, .sl 6 [] none, .sl 18 [] none, .sl 8 [cellsR b,cellsR p] none]:=by
     show AV.ag [_,_,_,_,AV.sl 2 _ none,AV.sl 6 (encKl []) none,AV.sl 18 (encGl []) none,AV.sl 8 (encRl [b,p]) none]=_
     rw [encKl,encGl,encRl_cons,encRl_cons,encRl];rfl
    rw [e9] at hta
    refine c_ hta ?_;refine R_ ?_;rw [hR];exact .refl
   ·have hx1:x≠1:=by have h:(x==1)=false:=hc;simpa using h
    rw [if_neg (fun h=>hx1 h.2),if_pos (.inl h13)] at hR
    clear hc
    refine y_ ?_
    refine T_ rfl (show (p.kind==13)=true by rw [h13];rfl) ?_
    refine d_ 7 [0,1,2,3,4,5,6] [(6,cellsR skipR)] ?_
    refine WA.c rfl rfl skip_p (.sub .refl) ?_
    refine WA.nil (l:=[]) rfl ?_
    refine c_ (tau_p s s.store skipR) ?_;refine R_ ?_;rw [hR];exact .refl
  ·have h13:p.kind≠13:=by have h:(p.kind==13)=false:=hc;simpa using h
   rw [if_neg (fun h=>h13 h.1)] at hR
   clear hc
   refine y_ ?_
   refine F_ rfl (show (p.kind==13)=false by rw [beq_eq_false_iff_ne];exact h13) ?_
   refine n_ (after_p s x) ?_
   by_cases haf:afterM s x=true
   ·rw [if_pos (.inr haf)] at hR
    refine e_ 70 rfl (x':=AB true) (ab_eq haf) ?_
    refine d_ 7 [0,1,2,3,4,5,6] [(6,cellsR skipR)] ?_
    refine WA.c rfl rfl skip_p (.sub .refl) ?_
    refine WA.nil (l:=[]) rfl ?_
    refine c_ (tau_p s s.store skipR) ?_;refine R_ ?_;rw [hR];exact .refl
   ·rw [if_neg (by rintro (h|h);exact h13 h;exact haf h)] at hR
    refine e_ 70 rfl (x':=AB false) (ab_eq (by simpa using haf)) ?_;refine R_ ?_;rw [hR];exact .nil
theorem chooseM_cons(s:ST)(g:GD)(r:List GD):chooseM s (g::r)=match valueM s.store g.cond with
 |none=>tauM s.store stopR
 |some x=>if x=1 then tauM s.store (headR g.body) else chooseM s r:=rfl
theorem choose_p(s:ST)(p:PR)(hs:wfS s.store)(hg: ∀g,g∈p.gs→wfK g.cond∧ ∃y,g.body=[y])(hb:p.gs.length≤281474976710656):Pure Tryz.prog gs0 119 [rnA s,cellsR p] (actsA (chooseM s p.gs)):=by
 have n2:((encGl p.gs).length:Int)=p.gs.length:=by rw [encGl_len]
 refine Exists.elim (show∃R,R=chooseM s p.gs from ⟨_,rfl⟩) fun R hR=>?_
 rw [←hR]
 refine p_ tt_ok Tryz.func119 51 fun w0 h0 F hgs=>?_
 (refine b_ fun bx=>?_;refine y_ ?_)
 refine A.valE 11 rfl (x':=AI (p.gs.length:Nat)) (ai_eq n2) ?_
 refine A.keep [0,10,11,12] rfl ?_
 refine l_ (Λ':=[]) ?_
 refine A.loopP (ι:=Nat) (fun i=>(⟨[(0,rnA s),(10,gsA p.gs),(11,AI (p.gs.length:Nat)),(12,AI (i:Nat))],[]⟩,[])) (fun i=>i≤p.gs.length∧R=chooseM s (p.gs.drop i)) (fun i=>p.gs.length-i) 0 ⟨Nat.zero_le _,hR⟩ rfl fun i hi ih=>?_
 obtain ⟨hi1,hi2⟩:=hi
 refine y_ ?_
 refine k_ (fun hc=>?_) fun hc=>?_
 ·have hci:i<p.gs.length:=by simpa using hc
  clear hc
  refine Exists.elim (at_exN (l:=p.gs) (i:=i) hci) fun g hgi=>?_
  obtain ⟨hwf,y,hy⟩:=hg g (List.mem_of_getElem? hgi)
  have hv:=Value_p s.store hs g.cond hwf
  rw [encK_eq] at hv
  rw [drop_at hgi,chooseM_cons] at hi2
  have hby:(encRl g.body)[(0:Int).toNat]? =some (encR y):=encRl_at (by rw [hy];rfl)
  have hhd:headR g.body=y:=by rw [hy];rfl
  refine y_ ?_
  refine j_ rfl (encGl_at hgi) (encG_eq g) ?_
  (refine b_ fun bx=>?_;refine y_ ?_)
  cases hx:valueM s.store g.cond with
  |none=>
   rw [hx] at hv hi2
   refine d_ 12 [0,1,2,3,4,5,6,7,8,9,10,11] [(7,optA none)] ?_
   refine cw_ hv ?_
   refine z_ ?_
   have hRR:R=tauM s.store stopR:=hi2
   refine d_ 7 [0,1,2,3,4,5,6] [(6,cellsR stopR)] ?_
   refine WA.c rfl rfl stop_p (.sub .refl) ?_
   refine WA.nil (l:=[]) rfl ?_
   refine c_ (tau_p s s.store stopR) ?_;refine R_ ?_;rw [hRR];exact .refl
  |some v=>
   rw [hx] at hv hi2
   simp only at hi2
   refine d_ 12 [0,1,2,3,4,5,6,7,8,9,10,11] [(7,optA (some v))] ?_
   refine cw_ hv ?_
   refine z_ ?_
   refine k_ (fun hc=>?_) fun hc=>?_
   ·have hv1:v=1:=by have h:(v==1)=true:=hc;simpa using h
    rw [if_pos hv1,hhd] at hi2
    refine y_ ?_
    refine d_ 10 [0,1,2,3,4,5,6,7,8,9] [] ?_
    refine iw_ rfl hby (encR_eq y) ?_
    refine WA.nil (l:=[]) rfl ?_
    refine c_ (tau_p s s.store y) ?_;refine R_ ?_;rw [hi2];exact .refl
   ·have hv1:v≠1:=by have h:(v==1)=false:=hc;simpa using h
    rw [if_neg hv1] at hi2
    refine y_ ?_
    refine A.valE 12 rfl (x':=AI ((i+1:Nat):Int)) (inc_eq i (by omega)) ?_
    refine l_ (Λ':=[]) ?_
    refine u_ (ih (i+1) ⟨by omega,hi2⟩ (by omega))
 have hci: ¬i<p.gs.length:=by simpa using hc
 rw [List.drop_eq_nil_of_le (by omega)] at hi2
 have hRR:R=tauM s.store stopR:=hi2
 refine y_ ?_
 refine d_ 7 [0,1,2,3,4,5,6] [(6,cellsR stopR)] ?_
 refine WA.c rfl rfl stop_p (.sub .refl) ?_
 refine WA.nil (l:=[]) rfl ?_
 refine c_ (tau_p s s.store stopR) ?_;refine R_ ?_;rw [hRR];exact .refl
def Small(st:List (List Int)):Prop:=st.length≤256∧ ∀r,r∈st→r.length≤64
theorem Small.put{st:List (List Int)}(h:Small st)(v i x:Int):Small (putM st v i x):=by
 unfold putM
 split
 ·split
  ·rename_i r hr
   refine ⟨by rw [List.length_set];exact h.1,fun q hq=>?_⟩
   rcases List.mem_or_eq_of_mem_set hq with hq|hq
   ·exact h.2 q hq
   ·rw [hq,List.length_set];exact h.2 r (List.mem_of_getElem? hr)
  ·exact h
 ·exact h
theorem Small.put_p{st:List (List Int)}(h:Small st)(v i x:Int):Pure Tryz.prog gs0 46 [rowsA st,AI v,AI i,AI32 x] (rowsA (putM st v i x)):=Put_p st v i x (by have:=h.1;omega) fun r hr=>by have:=h.2 r hr;omega
theorem valsM_cons(st:List (List Int))(e:KE)(r:List KE):valsM st (e::r)=match valueM st e with
 |none=>none
 |some x=>(valsM st r).map (x:: ·):=rfl
def rowV(vs:List Int)(n:Nat):List AV:=vs.map AI32++List.replicate (n-vs.length) (AI32 0)
theorem rowV_len{vs:List Int}{n:Nat}(h:vs.length≤n):(rowV vs n).length=n:=by rw [rowV,List.length_append,List.length_map,List.length_replicate];omega
theorem rowV_set{vs:List Int}{n:Nat}(h:vs.length<n)(x:Int):(rowV vs n).set vs.length (AI32 x)=rowV (vs++[x]) n:=by
 unfold rowV
 rw [List.set_append_right _ _ (by rw [List.length_map];exact Nat.le_refl _),List.length_map,Nat.sub_self,show n-vs.length=(n-(vs++[x]).length)+1 by rw [List.length_append,List.length_singleton];omega,List.replicate_succ,List.set_cons_zero]
 simp
theorem rowV_at{vs:List Int}{i:Nat}{x:Int}(n:Nat)(h:vs[i]? =some x):(rowV vs n)[i]? =some (AI32 x):=by
 rw [rowV,List.getElem?_append_left (by rw [List.length_map];exact at_lt h),List.getElem?_map,h];rfl
theorem assign_p(s:ST)(p:PR)(hs:wfS s.store)(hsm:Small s.store)(he: ∀x,x∈p.e→wfK x)(ht: ∀t,t∈p.to→wfPl t∧t.ix.length≤281474976710656)(hl:p.to.length=p.e.length)(hb:p.e.length≤8):Pure Tryz.prog gs0 116 [rnA s,cellsR p] (actsA (assignM s p)):=by
 have n1:((encKl p.e).length:Int)=p.e.length:=by rw [encKl_len]
 have n2:((p.to.map encPl).length:Int)=p.to.length:=by rw [List.length_map]
 refine Exists.elim (show∃R,R=assignM s p from ⟨_,rfl⟩) fun R hR=>?_
 rw [←hR]
 unfold assignM at hR
 refine p_ tt_ok Tryz.func116 100 fun w0 h0 F hgs=>?_
 refine y_ ?_
 refine A.b rfl fun b1=>?_
 refine y_ ?_
 refine A.valE 18 rfl (x':=AI (p.e.length:Nat)) (ai_eq n1) ?_
 refine A.makeV rfl rfl rfl rfl rfl rfl rfl rfl rfl rfl rfl rfl (by omega) (by show (4:Int)*_≤_;omega) (by omega) fun a cp hcp=>?_
 refine e_ 19 rfl (x':= .ms (.slice a p.e.length cp) 1 p.e.length) (by rw [Int.toNat_natCast];rfl) ?_
 refine A.valE 22 rfl (x':=AI (p.e.length:Nat)) (ai_eq n1) ?_
 refine A.keep [0,3,5,21,22,23] rfl ?_
 refine A.entsEq (Λ':=[.row 1 (.slice a p.e.length cp) (rowV [] p.e.length), .box b1 (cellsR p)]) (by rw [rowV,Int.toNat_natCast];rfl) ?_
 refine A.loopP (ι:=List Int) (fun vs=>(⟨[(0,rnA s),(3,ptrA b1),(5, .ms (.slice a p.e.length cp) 1 p.e.length),(21,kesA p.e),(22,AI (p.e.length:Nat)),(23,AI (vs.length:Nat))],[]⟩,[.row 1 (.slice a p.e.length cp) (rowV vs p.e.length), .box b1 (cellsR p)]))
  (fun vs=>vs.length≤p.e.length∧valsM s.store p.e=(valsM s.store (p.e.drop vs.length)).map (vs++ ·)) (fun vs=>p.e.length-vs.length) [] ⟨Nat.zero_le _,by rw [List.length_nil,List.drop_zero];cases valsM s.store p.e<;>rfl⟩ rfl fun vs hv ih=>?_
 obtain ⟨hv1,hv2⟩:=hv
 refine y_ ?_
 refine k_ (fun hc=>?_) fun hc=>?_
 ·have hci:vs.length<p.e.length:=by simpa using hc
  clear hc
  refine Exists.elim (at_exN (l:=p.e) (i:=vs.length) hci) fun e hei=>?_
  have hvp:=Value_p s.store hs e (he e (List.mem_of_getElem? hei))
  rw [encK_eq] at hvp
  rw [drop_at hei,valsM_cons] at hv2
  refine y_ ?_
  refine j_ rfl (encKl_at hei) (encK_eq e) ?_
  (refine b_ fun bx=>?_;refine y_ ?_)
  cases hx:valueM s.store e with
  |none=>
   rw [hx] at hvp hv2
   have hv3:valsM s.store p.e=none:=hv2
   rw [hv3] at hR
   have hRR:R=tauM s.store stopR:=hR
   refine d_ 11 [0,1,2,3,4,5,6,7,8,9,10] [(6,optA none)] ?_
   refine cw_ hvp ?_
   refine z_ ?_
   refine d_ 7 [0,1,2,3,4,5,6] [(6,cellsR stopR)] ?_
   refine WA.c rfl rfl stop_p (.sub .refl) ?_
   refine WA.nil (l:=[]) rfl ?_
   refine c_ (tau_p s s.store stopR) ?_;refine R_ ?_;rw [hRR];exact .refl
  |some x=>
   rw [hx] at hvp hv2
   have hv3:valsM s.store p.e=(valsM s.store (p.e.drop (vs++[x]).length)).map ((vs++[x])++ ·):=by
    rw [hv2,List.length_append,List.length_singleton]
    show ((valsM s.store (p.e.drop (vs.length+1))).map (x:: ·)).map (vs++ ·)=_
    cases valsM s.store (p.e.drop (vs.length+1)) with
    |none=>rfl
    |some l=>simp
   refine d_ 11 [0,1,2,3,4,5,6,7,8,9,10] [(6,optA (some x))] ?_
   refine cw_ hvp ?_
   refine z_ ?_
   refine A.indexRow rfl rfl rfl rfl rfl rfl rfl rfl (by show (0:Int)≤(vs.length:Nat);omega) (by rw [rowV_len hv1];omega) rfl ?_
   refine A.storeRow rfl rfl rfl rfl rfl rfl rfl rfl rfl (by rw [rowV_len hv1];show vs.length<_;omega) (xs':=rowV (vs++[x]) p.e.length) (rowV_set hci x) ?_
   refine y_ ?_
   refine A.valE 23 rfl (x':=AI ((vs++[x]).length:Nat)) (by rw [List.length_append,List.length_singleton];exact inc_eq vs.length (by omega)) ?_
   refine l_ (Λ':=[.row 1 (.slice a p.e.length cp) (rowV (vs++[x]) p.e.length), .box b1 (cellsR p)]) ?_
   refine u_ (ih (vs++[x]) ⟨by rw [List.length_append,List.length_singleton];omega,hv3⟩ (by rw [List.length_append,List.length_singleton];omega))
 have hci: ¬vs.length<p.e.length:=by simpa using hc
 have hvl:vs.length=p.e.length:=by omega
 clear hc ih
 rw [List.drop_eq_nil_of_le (by omega)] at hv2
 have hv3:valsM s.store p.e=some vs:=by rw [hv2];show some (vs++[])=_;rw [List.append_nil]
 rw [hv3] at hR
 simp only at hR
 refine y_ ?_
 refine A.valE 60 rfl (x':=AI (p.to.length:Nat)) (ai_eq n2) ?_
 refine A.keep [0,3,5,10,59,60,61] rfl ?_
 refine A.loopP (ι:=Nat×List (List Int)) (fun q=>(⟨[(0,rnA s),(3,ptrA b1),(5, .ms (.slice a p.e.length cp) 1 p.e.length),(10,rowsA q.2),(59,plsA p.to),(60,AI (p.to.length:Nat)),(61,AI (q.1:Nat))],[]⟩,[.row 1 (.slice a p.e.length cp) (rowV vs p.e.length), .box b1 (cellsR p)]))
  (fun q=>q.1≤p.to.length∧putsM s.store p.to vs s.store=putsM s.store (p.to.drop q.1) (vs.drop q.1) q.2∧Small q.2) (fun q=>p.to.length-q.1) (0,s.store) ⟨Nat.zero_le _,rfl,hsm⟩ rfl fun q hq ih=>?_
 obtain ⟨i,st⟩:=q
 obtain ⟨hq1,hq2,hq3⟩:=hq
 simp only at hq1 hq2 hq3
 refine y_ ?_
 refine k_ (fun hc=>?_) fun hc=>?_
 ·have hci:i<p.to.length:=by simpa using hc
  clear hc
  refine Exists.elim (at_exN (l:=p.to) (i:=i) hci) fun t hti=>?_
  refine Exists.elim (at_exN (l:=vs) (i:=i) (by omega)) fun x hxi=>?_
  obtain ⟨ht1,ht2⟩:=ht t (List.mem_of_getElem? hti)
  have hpp:=Place_p s.store hs t.v t.ix ht1 ht2
  have hrl:(rowV vs p.e.length).length=p.e.length:=rowV_len (by omega)
  rw [drop_at hti,drop_at hxi] at hq2
  refine y_ ?_
  refine j_ rfl (map_at hti) rfl ?_
  (refine b_ fun bx=>?_;refine y_ ?_)
  cases hx:placeM s.store t.v t.ix with
  |none=>
   rw [hx] at hpp
   have hq4:putsM s.store p.to vs s.store=none:=by rw [hq2,putsM,hx]
   rw [hq4] at hR
   have hRR:R=tauM s.store stopR:=hR
   refine d_ 13 [0,1,2,3,4,5,6,7,8,9,10,11,12] [(6,optP none)] ?_
   refine cw_ hpp ?_
   refine z_ ?_
   refine d_ 7 [0,1,2,3,4,5,6] [(6,cellsR stopR)] ?_
   refine WA.c rfl rfl stop_p (.sub .refl) ?_
   refine WA.nil (l:=[]) rfl ?_
   refine c_ (tau_p s s.store stopR) ?_;refine R_ ?_;rw [hRR];exact .refl
  |some vj=>
   obtain ⟨v,j⟩:=vj
   rw [hx] at hpp
   have hq4:putsM s.store p.to vs s.store=putsM s.store (p.to.drop (i+1)) (vs.drop (i+1)) (putM st v j x):=by rw [hq2,putsM,hx]
   refine d_ 13 [0,1,2,3,4,5,6,7,8,9,10,11,12] [(6,optP (some (v,j)))] ?_
   refine cw_ hpp ?_
   refine z_ ?_
   refine A.indexRow rfl rfl rfl rfl rfl rfl rfl rfl (by show (0:Int)≤(i:Nat);omega) (by rw [hrl];omega) rfl ?_
   refine A.loadRow rfl rfl rfl rfl rfl rfl (y':=AI32 x) rfl (rowV_at _ hxi) rfl rfl ?_
   refine c_ (hq3.put_p v j x) ?_
   refine A.valE 61 rfl (x':=AI ((i+1:Nat):Int)) (inc_eq i (by omega)) ?_
   refine l_ (Λ':=[.row 1 (.slice a p.e.length cp) (rowV vs p.e.length), .box b1 (cellsR p)]) ?_
   refine u_ (ih (i+1,putM st v j x) ⟨by show i+1≤_;omega,hq4,hq3.put v j x⟩ (by show _-(i+1)<_-i;omega))
 have hci: ¬i<p.to.length:=by simpa using hc
 clear hc ih
 rw [List.drop_eq_nil_of_le (by omega),putsM] at hq2
 rw [hq2] at hR
 have hRR:R=tauM st skipR:=hR
 refine y_ ?_
 refine n_ skip_p ?_
 refine c_ (tau_p s st skipR) ?_;refine R_ ?_;rw [hRR];exact .refl
theorem waitG_len(s:ST)(g:GD):(waitG s g).length≤1:=by
 unfold waitG inputM tauM
 split
 ·exact Nat.zero_le _
 ·split
  ·split<;>exact Nat.le_refl _
  ·split
   ·exact Nat.le_refl _
   ·exact Nat.zero_le _
theorem flat_len{α β:Type}(f:α→List β)(h: ∀a,(f a).length≤1): ∀l:List α,(l.flatMap f).length≤l.length
 | []=>Nat.le_refl _
 |a::r=>by
  rw [List.flatMap_cons,List.length_append,List.length_cons]
  have:=h a
  have:=flat_len f h r
  omega
theorem waiting_p(s:ST)(p:PR)(hs:wfS s.store)(hg: ∀g,g∈p.gs→(wfPl g.to∧g.to.ix.length≤281474976710656)∧ ∃y,g.body=[y])(hb:p.gs.length≤16):Pure Tryz.prog gs0 121 [rnA s,cellsR p] (actsA (p.gs.flatMap (waitG s))):=by
 have n2:((encGl p.gs).length:Int)=p.gs.length:=by rw [encGl_len]
 refine p_ tt_ok Tryz.func121 63 fun w0 h0 F hgs=>?_
 refine y_ ?_
 refine A.b rfl fun b1=>?_
 refine y_ ?_
 refine A.valE 9 rfl (x':=AI (p.gs.length:Nat)) (ai_eq n2) ?_
 refine A.nilTail 4 ty83.size rfl ?_
 refine A.keep [0,4,8,9,10] rfl ?_
 refine l_ (Λ':=[.tail ty83.size (.slice none 0 0)]) ?_
 refine A.loopP (ι:=Nat×Value) (fun q=>(⟨[(0,rnA s),(4, .sl 17 (((p.gs.take q.1).flatMap (waitG s)).map actA) (some q.2)),(8,gsA p.gs),(9,AI (p.gs.length:Nat)),(10,AI (q.1:Nat))],[]⟩,[.tail ty83.size q.2])) (fun q=>q.1≤p.gs.length) (fun q=>p.gs.length-q.1) (0, .slice none 0 0) (Nat.zero_le _) rfl fun q hi ih=>?_
 obtain ⟨i,z⟩:=q
 simp only at hi
 have hfl:=flat_len (waitG s) (waitG_len s) (p.gs.take i)
 rw [List.length_take] at hfl
 refine y_ ?_
 refine k_ (fun hc=>?_) fun hc=>?_
 ·have hci:i<p.gs.length:=by simpa using hc
  clear hc
  refine Exists.elim (at_exN (l:=p.gs) (i:=i) hci) fun g hgi=>?_
  obtain ⟨⟨hw1,hw2⟩,y,hy⟩:=hg g (List.mem_of_getElem? hgi)
  have hby:(encRl g.body)[(0:Int).toNat]? =some (encR y):=encRl_at (by rw [hy];rfl)
  have hhd:headR g.body=y:=by rw [hy];rfl
  have htk:(p.gs.take (i+1)).flatMap (waitG s)=(p.gs.take i).flatMap (waitG s)++waitG s g:=by rw [List.take_add_one,hgi,List.flatMap_append];show _++[g].flatMap _=_;simp
  refine y_ ?_
  refine j_ rfl (encGl_at hgi) (encG_eq g) ?_
  (refine b_ fun bx=>?_;refine y_ ?_)
  refine k_ (fun hc=>?_) fun hc=>?_
  ·have hn:g.cond.n≠1:=by have h:(g.cond.n !=1)=true:=hc;simpa using h
   have hwg:waitG s g=[]:=by unfold waitG;rw [if_pos hn]
   rw [hwg,List.append_nil] at htk
   refine y_ ?_
   refine A.valE 4 rfl (x':= .sl 17 (((p.gs.take (i+1)).flatMap (waitG s)).map actA) (some z)) (by rw [htk]) ?_
   refine A.valE 10 rfl (x':=AI ((i+1:Nat):Int)) (inc_eq i (by omega)) ?_
   refine l_ (Λ':=[.tail ty83.size z]) ?_
   refine u_ (ih (i+1,z) (by show i+1≤_;omega) (by show _-(i+1)<_-i;omega))
  have hn:g.cond.n=1:=by have h:(g.cond.n !=1)=false:=hc;simpa using h
  clear hc
  refine y_ ?_
  refine k_ (fun hc=>?_) fun hc=>?_
  ·have h3:g.kind=3:=by have h:(g.kind==3)=true:=hc;simpa using h
   have hwg:waitG s g=inputM s g.c g.item g.to y:=by unfold waitG;rw [if_neg (by rw [hn];decide),if_pos h3,hhd]
   have hin:=ninput_p s g.c g.item g.to y hs hw1 hw2
   rw [←hwg] at hin
   refine d_ 13 [0,1,2,3,4,5,6,7,8,9,10,11,12] [(12,actsA (waitG s g))] ?_
   refine iw_ rfl hby (encR_eq y) ?_
   refine WA.c rfl rfl hin (.sub .refl) ?_
   refine WA.nil (l:=[]) rfl ?_
   refine A.append rfl rfl rfl rfl rfl rfl rfl rfl rfl rfl rfl rfl rfl rfl (by show ((((p.gs.take i).flatMap (waitG s)).map actA).length+((waitG s g).map actA).length)*17≤_;have:=waitG_len s g;rw [List.length_map,List.length_map];omega) fun z'=>?_
   refine y_ ?_
   refine A.valE 4 rfl (x':= .sl 17 (((p.gs.take (i+1)).flatMap (waitG s)).map actA) (some z')) (by rw [htk,List.map_append];rfl) ?_
   refine A.valE 10 rfl (x':=AI ((i+1:Nat):Int)) (inc_eq i (by omega)) ?_
   refine l_ (Λ':=[.tail ty83.size z']) ?_
   refine u_ (ih (i+1,z') (by show i+1≤_;omega) (by show _-(i+1)<_-i;omega))
  have h3:g.kind≠3:=by have h:(g.kind==3)=false:=hc;simpa using h
  clear hc
  have hta:=tau_p s s.store y
  refine y_ ?_
  ((fail_if_success (refine A.lit? rfl ?_));refine A.gS rfl (fun hc=>?_) (fun hc=>?_))
  ·have h2:g.kind=2:=by have h:(g.kind==2)=true:=hc;simpa using h
   clear hc
   have hwg:waitG s g=tauM s.store y:=by unfold waitG;rw [if_neg (by rw [hn];decide),if_neg h3,if_pos (.inl h2),hhd]
   rw [←hwg] at hta
   refine y_ ?_
   refine d_ 12 [0,1,2,3,4,5,6,7,8,9,10,11] [(11,actsA (waitG s g))] ?_
   refine iw_ rfl hby (encR_eq y) ?_
   refine WA.c rfl rfl hta (.sub s_) ?_
   refine WA.nil (l:=[]) rfl ?_
   refine A.append rfl rfl rfl rfl rfl rfl rfl rfl rfl rfl rfl rfl rfl rfl (by show ((((p.gs.take i).flatMap (waitG s)).map actA).length+((waitG s g).map actA).length)*17≤_;have:=waitG_len s g;rw [List.length_map,List.length_map];omega) fun z'=>?_
   refine y_ ?_
   refine A.valE 4 rfl (x':= .sl 17 (((p.gs.take (i+1)).flatMap (waitG s)).map actA) (some z')) (by rw [htk,List.map_append];rfl) ?_
   refine A.valE 10 rfl (x':=AI ((i+1:Nat):Int)) (inc_eq i (by omega)) ?_
   refine l_ (Λ':=[.tail ty83.size z']) ?_
   refine u_ (ih (i+1,z') (by show i+1≤_;omega) (by show _-(i+1)<_-i;omega))
  ·have h2:g.kind≠2:=by have h:(g.kind==2)=false:=hc;simpa using h
   clear hc
   have haf:=after_p s g.time.n
   refine y_ ?_
   refine n_ haf ?_
   by_cases ha:afterM s g.time.n=true
   ·have hwg:waitG s g=tauM s.store y:=by unfold waitG;rw [if_neg (by rw [hn];decide),if_neg h3,if_pos (.inr ha),hhd]
    rw [←hwg] at hta
    refine e_ 46 rfl (x':=AB true) (ab_eq ha) ?_
    refine d_ 12 [0,1,2,3,4,5,6,7,8,9,10,11] [(11,actsA (waitG s g))] ?_
    refine iw_ rfl hby (encR_eq y) ?_
    refine WA.c rfl rfl hta (.sub s_) ?_
    refine WA.nil (l:=[]) rfl ?_
    refine A.append rfl rfl rfl rfl rfl rfl rfl rfl rfl rfl rfl rfl rfl rfl (by show ((((p.gs.take i).flatMap (waitG s)).map actA).length+((waitG s g).map actA).length)*17≤_;have:=waitG_len s g;rw [List.length_map,List.length_map];omega) fun z'=>?_
    refine y_ ?_
    refine A.valE 4 rfl (x':= .sl 17 (((p.gs.take (i+1)).flatMap (waitG s)).map actA) (some z')) (by rw [htk,List.map_append];rfl) ?_
    refine A.valE 10 rfl (x':=AI ((i+1:Nat):Int)) (inc_eq i (by omega)) ?_
    refine l_ (Λ':=[.tail ty83.size z']) ?_
    refine u_ (ih (i+1,z') (by show i+1≤_;omega) (by show _-(i+1)<_-i;omega))
   ·have hwg:waitG s g=[]:=by unfold waitG;rw [if_neg (by rw [hn];decide),if_neg h3,if_neg (by rintro (h|h);exact h2 h;exact ha h)]
    rw [hwg,List.append_nil] at htk
    refine e_ 46 rfl (x':=AB false) (ab_eq (by simpa using ha)) ?_
    refine A.valE 4 rfl (x':= .sl 17 (((p.gs.take (i+1)).flatMap (waitG s)).map actA) (some z)) (by rw [htk]) ?_
    refine A.valE 10 rfl (x':=AI ((i+1:Nat):Int)) (inc_eq i (by omega)) ?_
    refine l_ (Λ':=[.tail ty83.size z]) ?_
    refine u_ (ih (i+1,z) (by show i+1≤_;omega) (by show _-(i+1)<_-i;omega))
 have hci: ¬i<p.gs.length:=by simpa using hc
 clear hc
 have hil:i=p.gs.length:=by omega
 refine y_ ?_;refine R_ ?_
 rw [hil,List.take_length]
 exact .own1
theorem enterM_cons(st:List (List Int))(g:GD)(r:List GD):enterM st (g::r)=match enterG st g with
 |none=>none
 |some y=>(enterM st r).map (y:: ·):=rfl
abbrev numA(x:Int):List AV:=[AU8 1,AU8 0,AU8 0,AI32 x,AI 0, .sl 6 [] none]
abbrev G1(g:GD)(x:Int):AV:= .ag [AU8 g.kind,AU8 1,AU8 0,AU8 0,AI32 x,AI 0, .sl 6 [] none,AI g.c,AU8 g.item,AI g.to.v,kesA g.to.ix,AU8 g.time.kind,AU8 g.time.oper,AU8 g.time.to,AI32 g.time.n,AI g.time.v,kesA g.time.l,rsA g.body]
abbrev G2(g:GD)(x t:Int):AV:= .ag [AU8 g.kind,AU8 1,AU8 0,AU8 0,AI32 x,AI 0, .sl 6 [] none,AI g.c,AU8 g.item,AI g.to.v,kesA g.to.ix,AU8 1,AU8 0,AU8 0,AI32 t,AI 0, .sl 6 [] none,rsA g.body]
theorem G1_eq(g:GD)(x:Int):cellsG ⟨g.kind,numE x,g.c,g.item,g.to,g.time,g.body⟩=G1 g x:=by
 show AV.ag [_,_,_,_,_,_,AV.sl 6 (encKl []) none,_,_,_,_,_,_,_,_,_,_,_]=_
 rw [encKl]
theorem G2_eq(g:GD)(x t:Int):cellsG ⟨g.kind,numE x,g.c,g.item,g.to,numE t,g.body⟩=G2 g x t:=by
 show AV.ag [_,_,_,_,_,_,AV.sl 6 (encKl []) none,_,_,_,_,_,_,_,_,_,AV.sl 6 (encKl []) none,_]=_
 rw [encKl]
def rowD(d l:List GD):List AV:=d.map cellsG++(l.drop d.length).map cellsG
theorem rowD_len{d l:List GD}(h:d.length≤l.length):(rowD d l).length=l.length:=by
 rw [rowD,List.length_append,List.length_map,List.length_map,List.length_drop];omega
theorem rowD_at{d l:List GD}{g:GD}(h:l[d.length]? =some g):(rowD d l)[d.length]? =some (cellsG g):=by
 rw [rowD,List.getElem?_append_right (by rw [List.length_map];exact Nat.le_refl _),List.length_map,Nat.sub_self,drop_at h];rfl
theorem rowD_set{d l:List GD}{g:GD}(h:l[d.length]? =some g)(y:GD):(rowD d l).set d.length (cellsG y)=rowD (d++[y]) l:=by
 unfold rowD
 rw [List.set_append_right _ _ (by rw [List.length_map];exact Nat.le_refl _),List.length_map,Nat.sub_self,drop_at h,List.map_cons,List.set_cons_zero,List.length_append,List.length_singleton,List.map_append]
 simp
theorem enter_p(s:ST)(p:PR)(hs:wfS s.store)(hg: ∀g,g∈p.gs→wfK g.cond∧wfK g.time)(hb:p.gs.length≤16):Pure Tryz.prog gs0 120 [rnA s,cellsR p] (actsA (enteredM s p)):=by
 have hcl:=cloneG_p p.gs (by omega)
 refine Exists.elim (show∃R,R=enteredM s p from ⟨_,rfl⟩) fun R hR=>?_
 rw [←hR]
 unfold enteredM at hR
 refine p_ tt_ok Tryz.func120 89 fun w0 h0 F hgs=>?_
 refine y_ ?_
 refine A.b rfl fun b1=>?_
 refine y_ ?_
 refine A.e rfl hcl .refl (List.Perm.refl _) fun z _=>?_
 refine A.rowRaw (List.mem_cons_self ..) fun a cp hz hcp=>?_
 rw [encGl_len] at hz hcp
 subst hz
 refine y_ ?_
 refine A.keep [0,5,15,16,17] rfl ?_
 refine A.entsEq (Λ':=[.row 18 (.slice a p.gs.length cp) (rowD [] p.gs), .box b1 (cellsR p)]) (by rw [rowD,List.map_nil,List.nil_append,List.length_nil,List.drop_zero,encGl_cells];rfl) ?_
 refine l_ (Λ':=[.row 18 (.slice a p.gs.length cp) (rowD [] p.gs)]) ?_
 refine A.loopP (ι:=List GD) (fun d=>(⟨[(0,rnA s),(5, .ms (.slice a p.gs.length cp) 18 p.gs.length),(15, .ms (.slice a p.gs.length cp) 18 p.gs.length),(16,AI (p.gs.length:Nat)),(17,AI (d.length:Nat))],[]⟩,[.row 18 (.slice a p.gs.length cp) (rowD d p.gs)]))
  (fun d=>d.length≤p.gs.length∧enterM s.store p.gs=(enterM s.store (p.gs.drop d.length)).map (d++ ·)) (fun d=>p.gs.length-d.length) [] ⟨Nat.zero_le _,by rw [List.length_nil,List.drop_zero];cases enterM s.store p.gs<;>rfl⟩ rfl fun d hd ih=>?_
 obtain ⟨hd1,hd2⟩:=hd
 have hln:=rowD_len hd1
 refine y_ ?_
 refine k_ (fun hc=>?_) fun hc=>?_
 ·have hci:d.length<p.gs.length:=by simpa using hc
  clear hc
  refine Exists.elim (at_exN (l:=p.gs) (i:=d.length) hci) fun g hgi=>?_
  obtain ⟨hw1,hw2⟩:=hg g (List.mem_of_getElem? hgi)
  have hat:=rowD_at hgi
  have hv:=Value_p s.store hs g.cond hw1
  rw [encK_eq] at hv
  have hvt:=Value_p s.store hs g.time hw2
  rw [encK_eq] at hvt
  rw [drop_at hgi,enterM_cons] at hd2
  refine Exists.elim (show∃o,valueM s.store g.time=o from ⟨_,rfl⟩) fun oy hy=>?_
  refine Exists.elim (show∃o,valueM s.store g.cond=o from ⟨_,rfl⟩) fun ox hx=>?_
  rw [hy] at hvt
  rw [hx] at hv
  have hne:rowD d p.gs≠[]:=by intro h;rw [h] at hln;simp at hln;omega
  refine A.rowSome (a:=a) (n:=p.gs.length) (c:=cp) (sz:=18) (l:=rowD d p.gs) hne fun bb o ha=>?_
  subst ha
  refine y_ ?_
  refine A.indexRow rfl rfl rfl rfl rfl rfl rfl rfl (by show (0:Int)≤(d.length:Nat);omega) (by rw [hln];omega) rfl ?_
  refine A.loadRow rfl rfl rfl rfl rfl rfl (y':=cellsG g) rfl hat rfl rfl ?_
  (refine b_ fun bx=>?_;refine y_ ?_)
  cases ox with
  |none=>
   have hRR:R=tauM s.store stopR:=by
    have h1:enterG s.store g=none:=by unfold enterG;rw [hx]
    rw [h1] at hd2
    rw [show enterM s.store p.gs=none from hd2] at hR
    exact hR
   refine d_ 12 [0,1,2,3,4,5,6,7,8,9,10,11] [(7,optA none)] ?_
   refine cw_ hv ?_
   refine WA.nil (l:=[]) rfl ?_
   refine g_ ?_
   refine e_ 38 rfl (x':=AB false) (ab_eq (by show (bif (g.kind==4) then false else false)=false;cases (g.kind==4)<;>rfl)) ?_
   refine d_ 7 [0,1,2,3,4,5,6] [(6,cellsR stopR)] ?_
   refine WA.c rfl rfl stop_p (.sub .refl) ?_
   refine WA.nil (l:=[]) rfl ?_
   refine c_ (tau_p s s.store stopR) ?_;refine R_ ?_;rw [hRR];exact .refl
  |some x=>
   refine d_ 12 [0,1,2,3,4,5,6,7,8,9,10,11] [(7,optA (some x))] ?_
   refine cw_ hv ?_
   refine z_ ?_
   ((fail_if_success (refine A.lit? rfl ?_));refine A.gS rfl (fun hc=>?_) (fun hc=>?_))
   ·have h4:g.kind=4:=by have h:(g.kind==4)=true:=hc;simpa using h
    clear hc
    refine y_ ?_
    cases oy with
    |none=>
     have hRR:R=tauM s.store stopR:=by
      have h1:enterG s.store g=none:=by unfold enterG;rw [hx];simp only;rw [if_pos h4,hy]
      rw [h1] at hd2
      rw [show enterM s.store p.gs=none from hd2] at hR
      exact hR
     refine d_ 12 [0,1,2,3,4,5,6,7,8,9,10,11] [(7,optA none)] ?_
     refine cw_ hvt ?_
     refine z_ ?_
     refine d_ 7 [0,1,2,3,4,5,6] [(6,cellsR stopR)] ?_
     refine WA.c rfl rfl stop_p (.sub .refl) ?_
     refine WA.nil (l:=[]) rfl ?_
     refine c_ (tau_p s s.store stopR) ?_;refine R_ ?_;rw [hRR];exact .refl
    |some t=>
     refine d_ 12 [0,1,2,3,4,5,6,7,8,9,10,11] [(7,optA (some t))] ?_
     refine cw_ hvt ?_
     refine WA.nil (l:=[]) rfl ?_
     have h1:enterG s.store g=some ⟨g.kind,numE x,g.c,g.item,g.to,numE t,g.body⟩:=by unfold enterG;rw [hx];simp only;rw [if_pos h4,hy]
     refine Exists.elim (show∃Y:GD,Y=⟨g.kind,numE x,g.c,g.item,g.to,numE t,g.body⟩ from ⟨_,rfl⟩) fun Y hY=>?_
     have hd3:enterM s.store p.gs=(enterM s.store (p.gs.drop (d++[Y]).length)).map ((d++[Y])++ ·):=by
      rw [hd2,h1,←hY,List.length_append,List.length_singleton]
      show ((enterM s.store (p.gs.drop (d.length+1))).map (Y:: ·)).map (d++ ·)=_
      cases enterM s.store (p.gs.drop (d.length+1)) with
      |none=>rfl
      |some l=>simp
     refine y_ ?_
     refine A.val 67 rfl (x':= .ag (numA x)) s_ ?_
     refine A.indexRow rfl rfl rfl rfl rfl rfl rfl rfl (by show (0:Int)≤(d.length:Nat);omega) (by rw [hln];omega) rfl ?_
     refine A.epV 68 rfl ?_
     refine y_ ?_
     refine A.storeRowF d.length 1 ty98 rfl rfl rfl rfl rfl p.gs.length cp o ?_ hat (x':=G1 g x) rfl rfl rfl rfl rfl ?_
     ·simp
     refine y_ ?_
     refine e_ 72 rfl (x':=AB true) (ab_eq (by rw [h4];rfl)) ?_
     refine A.val 76 rfl (x':= .ag (numA t)) s_ ?_
     refine A.indexRow rfl rfl rfl rfl rfl rfl rfl rfl (by show (0:Int)≤(d.length:Nat);omega) (by rw [List.length_set,hln];omega) rfl ?_
     refine A.epV 77 rfl ?_
     refine y_ ?_
     refine A.storeRowF d.length 11 ty98 rfl rfl rfl rfl rfl p.gs.length cp o ?_ (x:=G1 g x) (by rw [List.getElem?_set_self (by rw [hln];exact hci)]) (x':=G2 g x t) rfl rfl rfl rfl (xs':=rowD (d++[Y]) p.gs) (by rw [List.set_set,←G2_eq,←hY];exact rowD_set hgi Y) ?_
     ·simp
     refine y_ ?_
     refine A.valE 17 rfl (x':=AI ((d++[Y]).length:Nat)) (by rw [List.length_append,List.length_singleton];exact inc_eq d.length (by omega)) ?_
     refine l_ (Λ':=[.row 18 (.slice (some ⟨bb,o,none⟩) p.gs.length cp) (rowD (d++[Y]) p.gs)]) ?_
     refine u_ (ih (d++[Y]) ⟨by rw [List.length_append,List.length_singleton];omega,hd3⟩ (by rw [List.length_append,List.length_singleton];omega))
   ·have h4:g.kind≠4:=by have h:(g.kind==4)=false:=hc;simpa using h
    clear hc
    have h1:enterG s.store g=some ⟨g.kind,numE x,g.c,g.item,g.to,g.time,g.body⟩:=by unfold enterG;rw [hx];simp only;rw [if_neg h4]
    refine Exists.elim (show∃Y:GD,Y=⟨g.kind,numE x,g.c,g.item,g.to,g.time,g.body⟩ from ⟨_,rfl⟩) fun Y hY=>?_
    have hd3:enterM s.store p.gs=(enterM s.store (p.gs.drop (d++[Y]).length)).map ((d++[Y])++ ·):=by
     rw [hd2,h1,←hY,List.length_append,List.length_singleton]
     show ((enterM s.store (p.gs.drop (d.length+1))).map (Y:: ·)).map (d++ ·)=_
     cases enterM s.store (p.gs.drop (d.length+1)) with
     |none=>rfl
     |some l=>simp
    refine y_ ?_
    refine A.val 67 rfl (x':= .ag (numA x)) s_ ?_
    refine A.indexRow rfl rfl rfl rfl rfl rfl rfl rfl (by show (0:Int)≤(d.length:Nat);omega) (by rw [hln];omega) rfl ?_
    refine A.epV 68 rfl ?_
    refine y_ ?_
    refine A.storeRowF d.length 1 ty98 rfl rfl rfl rfl rfl p.gs.length cp o ?_ hat (x':=G1 g x) rfl rfl rfl rfl (xs':=rowD (d++[Y]) p.gs) (by rw [←G1_eq,←hY];exact rowD_set hgi Y) ?_
    ·simp
    refine y_ ?_
    refine e_ 72 rfl (x':=AB false) (ab_eq (by rw [beq_eq_false_iff_ne];exact h4)) ?_
    refine A.valE 17 rfl (x':=AI ((d++[Y]).length:Nat)) (by rw [List.length_append,List.length_singleton];exact inc_eq d.length (by omega)) ?_
    refine l_ (Λ':=[.row 18 (.slice (some ⟨bb,o,none⟩) p.gs.length cp) (rowD (d++[Y]) p.gs)]) ?_
    refine u_ (ih (d++[Y]) ⟨by rw [List.length_append,List.length_singleton];omega,hd3⟩ (by rw [List.length_append,List.length_singleton];omega))
 have hci: ¬d.length<p.gs.length:=by simpa using hc
 clear hc ih
 have hdl:d.length=p.gs.length:=by omega
 rw [List.drop_eq_nil_of_le (by omega)] at hd2
 have hd3:enterM s.store p.gs=some d:=by rw [hd2];show some (d++[])=_;rw [List.append_nil]
 rw [hd3] at hR
 have hRR:R=tauM s.store ⟨16,0,0,0,[],[],d,[]⟩:=hR
 have hta:=tau_p s s.store ⟨16,0,0,0,[],[],d,[]⟩
 have e9:cellsR ⟨16,0,0,0,[],[],d,[]⟩= .ag [AU8 16,AI 0,AI 0,AU8 0, .sl 2 [] none, .sl 6 [] none, .sl 18 (rowD d p.gs) none, .sl 8 [] none]:=by
  show AV.ag [_,_,_,_,AV.sl 2 _ none,AV.sl 6 (encKl []) none,AV.sl 18 (encGl d) none,AV.sl 8 (encRl []) none]=_
  rw [encKl,encRl,encGl_cells,rowD,List.drop_eq_nil_of_le (by omega)];simp
 rw [e9] at hta
 refine A.freezeRow 5 rfl ?_
 refine y_ ?_
 refine c_ hta ?_;refine R_ ?_;rw [hRR];exact .refl
section
variable{V:List KV}{C:List Int}
theorem shape_lens{p:PR}{ch v:Bool}{t1 t2 e1 e2 g1 g2 l1 l2:Int}(h:shapeR p ch v t1 t2 e1 e2 g1 g2 l1 l2=true):(t1≤p.to.length∧(p.to.length:Int)≤t2)∧(e1≤p.e.length∧(p.e.length:Int)≤e2)∧(g1≤p.gs.length∧(p.gs.length:Int)≤g2)∧(l1≤p.l.length∧(p.l.length:Int)≤l2):=by
 simp only [shapeR,inB,Bool.and_eq_true,decide_eq_true_eq] at h
 omega
theorem Loc.k3{p:PR}(h:Loc V C p)(hk:p.kind=3):0≤p.v∧p.v<V.length:=by
 have h1:=h.kind
 obtain ⟨k,c,v,i,to,e,gs,l⟩:=p
 have hk:k=3:=hk
 subst hk
 have h2:(shapeR ⟨3,c,v,i,to,e,gs,l⟩ false true 0 0 0 0 0 0 0 0&&decide (0≤v)&&decide (v<V.length))=true:=h1
 simp only [Bool.and_eq_true,decide_eq_true_eq] at h2
 exact ⟨h2.1.2,h2.2⟩
theorem Loc.k4{p:PR}(h:Loc V C p)(hk:p.kind=4):p.to.length=p.e.length∧(p.to.zip p.e).all (fun te=>assignB V te.1 te.2)=true:=by
 have h1:=h.kind
 obtain ⟨k,c,v,i,to,e,gs,l⟩:=p
 have hk:k=4:=hk
 subst hk
 have h2:(shapeR ⟨4,c,v,i,to,e,gs,l⟩ false false 1 8 1 8 0 0 0 0&&(to.length==e.length)&&(to.zip e).all fun te=>assignB V te.1 te.2)=true:=h1
 simp only [Bool.and_eq_true,beq_iff_eq] at h2
 exact ⟨h2.1.2,h2.2⟩
theorem one_ofR{α:Type}{l:List α}(h:l.length=1): ∃x,l=[x]:=by
 match l,h with
 | [x],_=>exact ⟨x,rfl⟩
theorem Loc.k5{p:PR}(h:Loc V C p)(hk:p.kind=5): ∃t,p.to=[t]∧inputB V C.length p.c p.item t=true:=by
 have h1:=h.kind
 obtain ⟨k,c,v,i,to,e,gs,l⟩:=p
 have hk:k=5:=hk
 subst hk
 have h2:(shapeR ⟨5,c,v,i,to,e,gs,l⟩ true false 1 1 0 0 0 0 0 0&&to1 (inputB V C.length c i) to)=true:=h1
 rw [Bool.and_eq_true] at h2
 have h3:=(shape_lens h2.1).1
 obtain ⟨t,ht⟩:=one_ofR (l:=to) (by have:(to.length:Int)=to.length:=rfl;have h4:(1:Int)≤to.length:=h3.1;have h5:(to.length:Int)≤1:=h3.2;omega)
 subst ht
 exact ⟨t,rfl,h2.2⟩
theorem Loc.k6{p:PR}(h:Loc V C p)(hk:p.kind=6): ∃e,p.e=[e]∧chanB C.length p.c p.item 0=true∧fitV V e p.item=true:=by
 have h1:=h.kind
 obtain ⟨k,c,v,i,to,e,gs,l⟩:=p
 have hk:k=6:=hk
 subst hk
 have h2:(shapeR ⟨6,c,v,i,to,e,gs,l⟩ true false 0 0 1 1 0 0 0 0&&chanB C.length c i 0&&fit1 V e i)=true:=h1
 rw [Bool.and_eq_true,Bool.and_eq_true] at h2
 have h3:=(shape_lens h2.1.1).2.1
 obtain ⟨t,ht⟩:=one_ofR (l:=e) (by have h4:(1:Int)≤e.length:=h3.1;have h5:(e.length:Int)≤1:=h3.2;omega)
 subst ht
 exact ⟨t,rfl,h2.1.2,h2.2⟩
theorem Loc.k7{p:PR}(h:Loc V C p)(hk:p.kind=7): ∃t,p.to=[t]∧placeB V t 1=true:=by
 have h1:=h.kind
 obtain ⟨k,c,v,i,to,e,gs,l⟩:=p
 have hk:k=7:=hk
 subst hk
 have h2:(shapeR ⟨7,c,v,i,to,e,gs,l⟩ false false 1 1 0 0 0 0 0 0&&to1 (fun t=>placeB V t 1) to)=true:=h1
 rw [Bool.and_eq_true] at h2
 have h3:=(shape_lens h2.1).1
 obtain ⟨t,ht⟩:=one_ofR (l:=to) (by have h4:(1:Int)≤to.length:=h3.1;have h5:(to.length:Int)≤1:=h3.2;omega)
 subst ht
 exact ⟨t,rfl,h2.2⟩
theorem Loc.k8{p:PR}(h:Loc V C p)(hk:p.kind=8): ∃e,p.e=[e]∧fitV V e 1=true:=by
 have h1:=h.kind
 obtain ⟨k,c,v,i,to,e,gs,l⟩:=p
 have hk:k=8:=hk
 subst hk
 have h2:(shapeR ⟨8,c,v,i,to,e,gs,l⟩ false false 0 0 1 1 0 0 0 0&&fit1 V e 1)=true:=h1
 rw [Bool.and_eq_true] at h2
 have h3:=(shape_lens h2.1).2.1
 obtain ⟨t,ht⟩:=one_ofR (l:=e) (by have h4:(1:Int)≤e.length:=h3.1;have h5:(e.length:Int)≤1:=h3.2;omega)
 subst ht
 exact ⟨t,rfl,h2.2⟩
theorem Loc.k13{p:PR}(h:Loc V C p)(hk:p.kind=13): ∃e b,p.e=[e]∧p.l=[b]∧fitV V e 3=true:=by
 have h1:=h.kind
 obtain ⟨k,c,v,i,to,e,gs,l⟩:=p
 have hk:k=13:=hk
 subst hk
 have h2:(shapeR ⟨13,c,v,i,to,e,gs,l⟩ false false 0 0 1 1 0 0 1 1&&fit1 V e 3)=true:=h1
 rw [Bool.and_eq_true] at h2
 have h3:=shape_lens h2.1
 obtain ⟨t,ht⟩:=one_ofR (l:=e) (by have h4:(1:Int)≤e.length:=h3.2.1.1;have h5:(e.length:Int)≤1:=h3.2.1.2;omega)
 obtain ⟨b,hb⟩:=one_ofR (l:=l) (by have h4:(1:Int)≤l.length:=h3.2.2.2.1;have h5:(l.length:Int)≤1:=h3.2.2.2.2;omega)
 subst ht;subst hb
 exact ⟨t,b,rfl,rfl,h2.2⟩
end
theorem GoodK.small{k:KN}{s:ST}(h:GoodK k s):Small s.store:=mayB_short h.store
theorem clearM_succ(st:List (List Int))(v:Int)(n:Nat):clearM st v (n+1)=putM (clearM st v n) v (n:Nat) 0:=by
 unfold clearM
 rw [List.range_succ,List.foldl_append];rfl
theorem clear_small{st:List (List Int)}(h:Small st)(v:Int): ∀n,Small (clearM st v n)
 |0=>h
 |n+1=>by rw [clearM_succ];exact (clear_small h v n).put _ _ _
theorem does_3(s:ST)(p:PR)(hsm:Small s.store)(r:List Int)(hr:s.store[p.v.toNat]? =some r)(hv0:0≤p.v)(hk:p.kind=3):Pure Tryz.prog gs0 91 [rnA s,cellsR p] (actsA (tauM (clearM s.store p.v r.length) skipR)):=by
 have hrl:((r.map AI32).length:Int)=r.length:=by rw [List.length_map]
 have hr64:=hsm.2 r (List.mem_of_getElem? hr)
 refine p_ tt_ok Tryz.func91 120 fun w0 h0 F hgs=>?_
 refine y_ ?_
 refine A.b rfl fun b1=>?_
 refine y_ ?_
 refine e_ 12 rfl (x':=AB true) (ab_eq (by rw [hk];rfl)) ?_
 refine A.x rfl hv0 (map_at hr) rfl rfl ?_
 refine y_ ?_
 refine A.valE 24 rfl (x':=AI (r.length:Nat)) (ai_eq hrl) ?_
 refine A.keep [0,3,5,24,25] rfl ?_
 refine A.loopP (ι:=Nat) (fun i=>(⟨[(0,rnA s),(3,ptrA b1),(5,rowsA (clearM s.store p.v i)),(24,AI (r.length:Nat)),(25,AI (i:Nat))],[]⟩,[.box b1 (cellsR p)])) (fun i=>i≤r.length) (fun i=>r.length-i) 0 (Nat.zero_le _) rfl fun i hi ih=>?_
 refine y_ ?_
 refine k_ (fun hc=>?_) fun hc=>?_
 ·have hci:i<r.length:=by simpa using hc
  clear hc
  have hpp:=(clear_small hsm p.v i).put_p p.v (i:Nat) 0
  rw [←clearM_succ] at hpp
  refine y_ ?_
  refine c_ hpp ?_
  refine A.valE 25 rfl (x':=AI ((i+1:Nat):Int)) (inc_eq i (by omega)) ?_
  refine l_ (Λ':=[.box b1 (cellsR p)]) ?_
  refine u_ (ih (i+1) (by omega) (by omega))
 have hci: ¬i<r.length:=by simpa using hc
 clear hc ih
 have hil:i=r.length:=by omega
 refine y_ ?_
 refine n_ skip_p ?_
 refine c_ (tau_p s (clearM s.store p.v i) skipR) ?_;refine R_ ?_;rw [hil];exact .refl
theorem does_7(s:ST)(p:PR)(hs:wfS s.store)(hsm:Small s.store)(t:PL)(r:List PL)(ht:p.to=t::r)(hw:wfPl t)(hn:t.ix.length≤281474976710656)(hk:p.kind=7):Pure Tryz.prog gs0 91 [rnA s,cellsR p] (actsA (timeM s p)):=by
 have hp:=Place_p s.store hs t.v t.ix hw hn
 have hat:(p.to.map encPl)[(0:Int).toNat]? =some (encPl t):=by rw [ht];rfl
 refine Exists.elim (show∃R,R=timeM s p from ⟨_,rfl⟩) fun R hR=>?_
 rw [←hR]
 unfold timeM at hR
 rw [ht] at hR
 simp only at hR
 cases hx:placeM s.store t.v t.ix with
 |none=>
  rw [hx] at hp hR
  have hRR:R=tauM s.store stopR:=hR
  refine p_ tt_ok Tryz.func91 120 fun w0 h0 F hgs=>?_
  (refine b_ fun bx=>?_;refine y_ ?_)
  refine e_ 12 rfl (x':=AB false) (ab_eq (by rw [hk];rfl)) ?_
  refine e_ 38 rfl (x':=AB false) (ab_eq (by rw [hk];rfl)) ?_
  refine e_ 43 rfl (x':=AB true) (ab_eq (by rw [hk];rfl)) ?_
  refine d_ 16 [0,1,2,3,4,5,6,7,8,9,10,11,12,13,14,15] [(9,optP none)] ?_
  refine iw_ rfl hat rfl ?_
  refine cw_ hp ?_
  refine z_ ?_
  refine d_ 7 [0,1,2,3,4,5,6] [(6,cellsR stopR)] ?_
  refine WA.c rfl rfl stop_p (.sub .refl) ?_
  refine WA.nil (l:=[]) rfl ?_
  refine c_ (tau_p s s.store stopR) ?_;refine R_ ?_;rw [hRR];exact .refl
 |some vi=>
  rw [hx] at hp hR
  obtain ⟨v,i⟩:=vi
  have hRR:R=tauM (putM s.store v i s.time) skipR:=hR
  have hpp:=hsm.put_p v i s.time
  refine p_ tt_ok Tryz.func91 120 fun w0 h0 F hgs=>?_
  (refine b_ fun bx=>?_;refine y_ ?_)
  refine e_ 12 rfl (x':=AB false) (ab_eq (by rw [hk];rfl)) ?_
  refine e_ 38 rfl (x':=AB false) (ab_eq (by rw [hk];rfl)) ?_
  refine e_ 43 rfl (x':=AB true) (ab_eq (by rw [hk];rfl)) ?_
  refine d_ 16 [0,1,2,3,4,5,6,7,8,9,10,11,12,13,14,15] [(9,optP (some (v,i)))] ?_
  refine iw_ rfl hat rfl ?_
  refine cw_ hp ?_
  refine z_ ?_
  refine d_ 15 [0,1,2,3,4,5,6,7,8,9,10,11,12,13,14] [(13,rowsA (putM s.store v i s.time)),(14,cellsR skipR)] ?_
  refine cw_ hpp ?_
  refine WA.c rfl rfl skip_p (.sub .refl) ?_
  refine WA.nil (l:=[]) rfl ?_
  refine c_ (tau_p s (putM s.store v i s.time) skipR) ?_;refine R_ ?_;rw [hRR];exact .refl
theorem fits_wf{k:KN}{c:PR}(h:Loc k.vars k.chans c):(∀x,x∈c.e→wfK x)∧(∀t,t∈c.to→wfPl t∧t.ix.length≤281474976710656)∧(∀g,g∈c.gs→(wfK g.cond∧wfK g.time)∧(wfPl g.to∧g.to.ix.length≤281474976710656)∧ ∃y,g.body=[y]):=
 ⟨fun x hx=>(h.e x hx).1,fun t ht=>⟨(h.to t ht).1,smP_l (h.to t ht).2⟩,fun g hg=>⟨⟨(h.gs g hg).1.1,(h.gs g hg).2.1.1⟩,⟨(h.gs g hg).2.2.1,smP_l (h.gs g hg).2.2.2⟩,h.body g hg⟩⟩
theorem does_p(k:KN)(s:ST)(hg:GoodK k s)(p:PR)(h:Loc k.vars k.chans p):Pure Tryz.prog gs0 91 [rnA s,cellsR p] (actsA (doesM s p)):=by
 have hs:=hg.ws
 have hsm:=hg.small
 obtain ⟨f1,f2,f3⟩:=fits_wf h
 obtain ⟨l1,l2,l3,l4⟩:=h.lens
 by_cases k3:p.kind=3
 ·obtain ⟨h0,h1⟩:=h.k3 k3
  have hlen:s.store.length=k.vars.length:=by
   have:=hg.store
   unfold mayB at this
   simp only [Bool.and_eq_true,decide_eq_true_eq] at this
   exact this.1.1
  obtain ⟨r,hr⟩:=at_exN (l:=s.store) (i:=p.v.toNat) (by omega)
  have hd:doesM s p=tauM (clearM s.store p.v r.length) skipR:=by unfold doesM rowOf;rw [if_pos k3,hr]
  rw [hd]
  exact does_3 s p hsm r hr h0 k3
 by_cases k7:p.kind=7
 ·obtain ⟨t,ht,_⟩:=h.k7 k7
  have ht':=f2 t (by rw [ht];exact .head _)
  have hd:doesM s p=timeM s p:=by unfold doesM;rw [if_neg k3,if_neg (by omega),if_pos k7]
  rw [hd]
  exact does_7 s p hs hsm t [] ht ht'.1 ht'.2 k7
 by_cases k4:p.kind=4
 ·have hd:doesM s p=assignM s p:=by unfold doesM;rw [if_neg k3,if_pos k4]
  rw [hd]
  have ha:=assign_p s p hs hsm f1 f2 (h.k4 k4).1 l2
  obtain ⟨kk,c,v,i,to,e,gs,l⟩:=p
  have k4:kk=4:=k4
  subst k4
  refine p_ tt_ok Tryz.func91 120 fun w0 h0 F hgs=>?_
  (refine b_ fun bx=>?_;refine y_ ?_)
  exact cr_ ha
 by_cases k12:p.kind=12
 ·have hd:doesM s p=chooseM s p.gs:=by unfold doesM;rw [if_neg k3,if_neg k4,if_neg k7,if_pos k12]
  rw [hd]
  have ha:=choose_p s p hs (fun g hg=>⟨(f3 g hg).1.1,(f3 g hg).2.2⟩) (by omega)
  obtain ⟨kk,c,v,i,to,e,gs,l⟩:=p
  have k12:kk=12:=k12
  subst k12
  refine p_ tt_ok Tryz.func91 120 fun w0 h0 F hgs=>?_
  (refine b_ fun bx=>?_;refine y_ ?_)
  exact cr_ ha
 by_cases k14:p.kind=14
 ·have hd:doesM s p=enteredM s p:=by unfold doesM;rw [if_neg k3,if_neg k4,if_neg k7,if_neg k12,if_pos (.inl k14)]
  rw [hd]
  have ha:=enter_p s p hs (fun g hg=>(f3 g hg).1) l3
  obtain ⟨kk,c,v,i,to,e,gs,l⟩:=p
  have k14:kk=14:=k14
  subst k14
  refine p_ tt_ok Tryz.func91 120 fun w0 h0 F hgs=>?_
  (refine b_ fun bx=>?_;refine y_ ?_)
  exact cr_ ha
 by_cases k15:p.kind=15
 ·have hd:doesM s p=enteredM s p:=by unfold doesM;rw [if_neg k3,if_neg k4,if_neg k7,if_neg k12,if_pos (.inr k15)]
  rw [hd]
  have ha:=enter_p s p hs (fun g hg=>(f3 g hg).1) l3
  obtain ⟨kk,c,v,i,to,e,gs,l⟩:=p
  have k15:kk=15:=k15
  subst k15
  refine p_ tt_ok Tryz.func91 120 fun w0 h0 F hgs=>?_
  (refine b_ fun bx=>?_;refine y_ ?_)
  exact cr_ ha
 by_cases k16:p.kind=16
 ·have hd:doesM s p=p.gs.flatMap (waitG s):=by unfold doesM;rw [if_neg k3,if_neg k4,if_neg k7,if_neg k12,if_neg (by omega),if_pos k16]
  rw [hd]
  have ha:=waiting_p s p hs (fun g hg=>(f3 g hg).2) l3
  obtain ⟨kk,c,v,i,to,e,gs,l⟩:=p
  have k16:kk=16:=k16
  subst k16
  refine p_ tt_ok Tryz.func91 120 fun w0 h0 F hgs=>?_
  (refine b_ fun bx=>?_;refine y_ ?_)
  exact cr_ ha
 by_cases k5:p.kind=5
 ·obtain ⟨t,ht,_⟩:=h.k5 k5
  have ht':=f2 t (by rw [ht];exact .head _)
  have hd:doesM s p=inputM s p.c p.item t skipR:=by unfold doesM inM;rw [if_neg k3,if_neg k4,if_neg k7,if_neg k12,if_neg (by omega),if_neg k16,if_pos k5,ht]
  rw [hd]
  have ha:=ninput_p s p.c p.item t skipR hs ht'.1 ht'.2
  have hat:(p.to.map encPl)[(0:Int).toNat]? =some (encPl t):=by rw [ht];rfl
  obtain ⟨kk,c,v,i,to,e,gs,l⟩:=p
  have k5:kk=5:=k5
  subst k5
  refine p_ tt_ok Tryz.func91 120 fun w0 h0 F hgs=>?_
  (refine b_ fun bx=>?_;refine y_ ?_)
  refine d_ 10 [0,1,2,3,4,5,6,7,8,9] [(9,cellsR skipR)] ?_
  refine iw_ rfl hat rfl ?_
  refine WA.c rfl rfl skip_p (.sub .refl) ?_
  refine WA.nil (l:=[]) rfl ?_
  exact cr_ ha
 by_cases k8:p.kind=8
 ·obtain ⟨e0,he,_⟩:=h.k8 k8
  have hd:doesM s p=valuedM s p:=by unfold doesM;rw [if_neg k3,if_neg k4,if_neg k7,if_neg k12,if_neg (by omega),if_neg k16,if_neg k5,if_pos (.inl k8)]
  rw [hd]
  have ha:=valued_p s p e0 [] he hs (f1 e0 (by rw [he];exact .head _)) skipR (fun h=>by omega)
  obtain ⟨kk,c,v,i,to,e,gs,l⟩:=p
  have k8:kk=8:=k8
  subst k8
  refine p_ tt_ok Tryz.func91 120 fun w0 h0 F hgs=>?_
  (refine b_ fun bx=>?_;refine y_ ?_)
  exact cr_ ha
 by_cases k13:p.kind=13
 ·obtain ⟨e0,b,he,hb,_⟩:=h.k13 k13
  have hd:doesM s p=valuedM s p:=by unfold doesM;rw [if_neg k3,if_neg k4,if_neg k7,if_neg k12,if_neg (by omega),if_neg k16,if_neg k5,if_pos (.inr (.inl k13))]
  rw [hd]
  have ha:=valued_p s p e0 [] he hs (f1 e0 (by rw [he];exact .head _)) b (fun _=>⟨[],hb⟩)
  obtain ⟨kk,c,v,i,to,e,gs,l⟩:=p
  have k13:kk=13:=k13
  subst k13
  refine p_ tt_ok Tryz.func91 120 fun w0 h0 F hgs=>?_
  (refine b_ fun bx=>?_;refine y_ ?_)
  exact cr_ ha
 by_cases k6:p.kind=6
 ·obtain ⟨e0,he,_⟩:=h.k6 k6
  have hd:doesM s p=valuedM s p:=by unfold doesM;rw [if_neg k3,if_neg k4,if_neg k7,if_neg k12,if_neg (by omega),if_neg k16,if_neg k5,if_pos (.inr (.inr k6))]
  rw [hd]
  have ha:=valued_p s p e0 [] he hs (f1 e0 (by rw [he];exact .head _)) skipR (fun h=>by omega)
  obtain ⟨kk,c,v,i,to,e,gs,l⟩:=p
  have k6:kk=6:=k6
  subst k6
  refine p_ tt_ok Tryz.func91 120 fun w0 h0 F hgs=>?_
  (refine b_ fun bx=>?_;refine y_ ?_)
  exact cr_ ha
 have hd:doesM s p=[]:=by unfold doesM;rw [if_neg k3,if_neg k4,if_neg k7,if_neg k12,if_neg (by omega),if_neg k16,if_neg k5,if_neg (by omega)]
 rw [hd]
 have n: ∀{j:Int},p.kind≠j→(p.kind==j)=false:=fun h=>beq_eq_false_iff_ne.2 h
 refine p_ tt_ok Tryz.func91 120 fun w0 h0 F hgs=>?_
 (refine b_ fun bx=>?_;refine y_ ?_)
 refine e_ 12 rfl (x':=AB false) (ab_eq (n k3)) ?_
 refine e_ 38 rfl (x':=AB false) (ab_eq (n k4)) ?_
 refine e_ 43 rfl (x':=AB false) (ab_eq (n k7)) ?_
 refine e_ 84 rfl (x':=AB false) (ab_eq (n k12)) ?_
 refine e_ 89 rfl (x':=AB false) (ab_eq (n k14)) ?_
 refine e_ 89 rfl (x':=AB false) (ab_eq (n k15)) ?_
 refine e_ 95 rfl (x':=AB false) (ab_eq (n k16)) ?_
 refine e_ 100 rfl (x':=AB false) (ab_eq (n k5)) ?_
 refine e_ 113 rfl (x':=AB false) (ab_eq (n k8)) ?_
 refine e_ 113 rfl (x':=AB false) (ab_eq (n k13)) ?_
 refine e_ 113 rfl (x':=AB false) (ab_eq (n k6)) ?_;refine R_ ?_;exact .nil
section
variable{K:AC}{k:List It}{E:AEnv}{Λ:List AEnt}
theorem A.rangeIterN{x:Operand}{ps:Array Tmp}{assign body:Code}{g:FuncId}{cap cap':List AV}{xss:List (List AV)}(hx:E.ev K.gs [] x=some (.fn g [] cap'))(hs:SbL cap' cap)(it:Iter K.P K.S K.ok K.gs g cap xss)(hrd:K.rd=none)
 (hb:allBelow K.n ps.toList=true) (hlen: ∀xs,xs∈xss→Nat.beq (lenN xs) ps.toList.length=true) (Inv:Nat→List AEnt→Prop) (Stop:LoopState→Option Code→List AEnt→Prop) (h0:Inv 0 Λ)
 (rounds: ∀(h0':GH) (lp:Nat) (LR:Loop),K.h0.le h0'→ ∀i xs Λi (h1:GH) (hg1:GsOk h1 K.gs) (F:List Ent),xss[i]? =some xs→Inv i Λi→h0'.le h1→
   A ⟨K.P,K.S,K.w0,K.f,K.fn,K.n,K.ok,K.hfn,h1,F,K.gs,hg1,fun y Λ'=>
       (y= .v (.bool true)∧ ∃Λ'',Λ'= .loop lp LR .ready none::Λ''∧Inv (i+1) Λ'')∨(y= .v (.bool false)∧ ∃st pd Λ'',st≠ .busy∧Λ'= .loop lp LR st pd::Λ''∧Stop st pd Λ''),[],some lp⟩
     [.code assign, .begin, .code body] ⟨setsA ps.toList xs E.us,[]⟩ (.loop lp LR .ready none::Λi))
 (fin: ∀(h1:GH) (hg1:GsOk h1 K.gs) (r:Nat) Λ',K.h0.le h1→Inv xss.length Λ'→A ⟨K.P,K.S,K.w0,K.f,K.fn,K.n,K.ok,K.hfn,h1,K.F,K.gs,hg1,K.Q,r::K.D,none⟩ k E Λ')
 (stop: ∀(h1:GH) (hg1:GsOk h1 K.gs) (r:Nat) st pd Λ',K.h0.le h1→st≠ .busy→Stop st pd Λ'→A ⟨K.P,K.S,K.w0,K.f,K.fn,K.n,K.ok,K.hfn,h1,K.F,K.gs,hg1,K.Q,r::K.D,none⟩ (jumpIts pd++k) E Λ'):
 A K (.code (.rangeFunc x ps assign body)::k) E Λ:=
 A.rangeIter hx hs it hrd hb hlen Inv Stop h0 (fun h0' lp tm hl i xs Λi h1 hg1 F hxs hi hl1=>rounds h0' lp _ hl i xs Λi h1 hg1 F hxs hi hl1) fin stop
end
abbrev actW(a:ACT)(f path:AV):AV:= .ag [AU8 a.kind,rowsA a.store,AI a.c,AI a.v,AI a.i,AU8 a.item,AI32 a.value,AU8 a.next.kind,AI a.next.c,AI a.next.v,AU8 a.next.item,plsA a.next.to,kesA a.next.e,gsA a.next.gs,rsA a.next.l,f,path]
abbrev rawF(path:List Nat)(b:Nat):AV:= .fn 92 [] [.pe 1 (pathL path),ptrA b]
abbrev putF(a:ACT)(path:List Nat)(b:Nat):AV:= .fn 92 [] [.pe 1 (pathL path), .pe 17 (actW a (rawF path b) (pathL path))]
abbrev actF(a:ACT×List Nat)(b:Nat):AV:=actW a.1 (putF a.1 a.2 b) (pathL a.2)
theorem put_closure{V:List KV}{C:List Int}{c p:PR}{h:Bool}(a:ACT)(path:List Nat)(b:Nat)(hok:okF (Loc V C) true h p)(ha:atR p path=some c):Pure Tryz.prog gs0 92 [cellsR p, .pe 1 (pathL path), .pe 17 (actW a (rawF path b) (pathL path))] (cellsR (repR a.next p path)):=by
 have hr:=replaced_p (q:=a.next) hok ha
 refine p_ tt_ok Tryz.func92 10 fun w0 h0 F hgs=>?_
 (refine b_ fun bx=>?_;refine b_ fun bx=>?_;refine y_ ?_)
 refine c_ hr ?_;refine A.retC (Λ':=[]) rfl rfl rfl rfl rfl (List.nil_sublist _) ⟨?_,rfl⟩;exact .refl
theorem pathA_sb(path:List Nat):Sb (pathA path) (pathL path):=by
 cases path with
 |nil=>exact .nil
 |cons i r=>exact .refl
theorem tau_len(st:List (List Int))(q:PR):(tauM st q).length=1:=rfl
theorem input_len(s:ST)(c item:Int)(to:PL)(q:PR):(inputM s c item to q).length=1:=by
 unfold inputM;split<;>rfl
theorem choose_len(s:ST): ∀l:List GD,(chooseM s l).length=1
 | []=>rfl
 |g::r=>by
  rw [chooseM]
  split
  ·rfl
  ·split
   ·rfl
   ·exact choose_len s r
theorem does_len{V:List KV}{C:List Int}(s:ST){p:PR}(h:Loc V C p):(doesM s p).length≤16:=by
 obtain ⟨l1,l2,l3,l4⟩:=h.lens
 unfold doesM
 split
 ·rw [tau_len];omega
 split
 ·unfold assignM
  split
  ·rw [tau_len];omega
  ·split<;>(rw [tau_len];omega)
 split
 ·unfold timeM
  split
  ·simp
  ·split<;>(rw [tau_len];omega)
 split
 ·rw [choose_len];omega
 split
 ·unfold enteredM
  split<;>(rw [tau_len];omega)
 split
 ·have:=flat_len (waitG s) (waitG_len s) p.gs
  omega
 split
 ·unfold inM
  split
  ·simp
  ·rw [input_len];omega
 split
 ·unfold valuedM
  split
  ·simp
  ·split
   ·rw [tau_len];omega
   ·repeat (first|(rw [tau_len];omega)|simp|split)
 ·simp
abbrev actsI(l:List ((ACT×List Nat)×Nat)):List AV:=l.map fun x=>actF x.1 x.2
abbrev compI(s:ST)(l:List (PR×List Nat)):List (ACT×List Nat):=l.flatMap fun cp=>(doesM s cp.1).map fun a=>(a,cp.2)
theorem compI_len{V:List KV}{C:List Int}(s:ST): ∀{l:List (PR×List Nat)},(∀cp,cp∈l→Loc V C cp.1)→(compI s l).length≤16*l.length
 | [],_=>Nat.le_refl _
 |cp::r,h=>by
  show (List.flatMap _ (cp::r)).length≤_
  rw [List.flatMap_cons,List.length_append,List.length_map,List.length_cons]
  have h1:=does_len s (h cp (.head _))
  have h2:=compI_len s (l:=r) fun x hx=>h x (.tail _ hx)
  unfold compI at h2
  omega
theorem comp_loc{V:List KV}{C:List Int}{p:PR}(hok:okF (Loc V C) true false p): ∀cp,cp∈compR [] p→Loc V C cp.1:=fun cp hcp=>by
 obtain ⟨h',hw⟩:=at_ok (comp_at (c:=cp.1) (s:=cp.2) hcp) hok
 rw [okF_eq] at hw
 exact hw.1.1
theorem acts_p(k:KN)(s:ST)(hg:GoodK k s)(hcl:(compR [] s.root).length≤100000):FunE Tryz.prog gs0 44 [rnA s] [] (fun l:List ((ACT×List Nat)×Nat)=> .sl 17 (actsI l) none) (fun _=>[]) (fun l=>l.map Prod.fst=actsM s):=by
 have hloc:=comp_loc hg.root
 have hht:([]:List Nat).length+htR s.root≤1000:=by
  have h1:=nf_ht (nf_of hg.nf)
  have h2:=hg.dw
  show 0+_≤_
  omega
 have hit:=iter_n _ s.root [] false (Nat.le_refl _) hg.root (nf_of hg.nf) hht
 unfold FunE
 refine Fun.of (S:=tt) (fn:=Tryz.f44) (n:=33) tt_ok Tryz.func44 rfl rfl rfl rfl fun w0 h0 F hgs=>?_
 refine y_ ?_
 refine A.b rfl fun b1=>?_
 refine A.b rfl fun b2=>?_
 refine y_ ?_
 refine n_ (comps_p s.root []) ?_
 refine A.boxAs (b:=b2) (x':= .sl 17 (actsI []) (some (.slice none 0 0))) (.refl _) (fun h y r=>nil_own 17 r) ?_
 refine A.fullTail ty83.size 0 none (fun _=>rfl) (fun x h=>by cases h) ?_
 refine y_ ?_
 refine A.keep [1,2,12] rfl ?_
 refine A.rangeIterN (xss:=(compR [] s.root).map cpA) rfl .refl hit rfl rfl (fun xs hxs=>?_) (fun j Λ=> ∃(l:List ((ACT×List Nat)×Nat)) (z:Value),l.map Prod.fst=compI s ((compR [] s.root).take j)∧Λ=[.tail ty83.size z, .box b2 (.sl 17 (actsI l) (some z)), .box b1 (rnA s)])
  (fun st pd Λ=>False) ⟨[], .slice none 0 0,rfl,rfl⟩ (fun h1 lp LR hl1 j xs Λi h2 hg2 F2 hxs hinv hl2=>?_) (fun h1 hg1 r Λ' hl1 hinv=>?_) (fun h1 hg1 r st pd Λ' hl1 hst hs=>hs.elim)
 ·rw [List.mem_map] at hxs
  obtain ⟨cp,_,rfl⟩:=hxs
  rfl
 ·obtain ⟨l,z,hl,rfl⟩:=hinv
  obtain ⟨cp,hcp,rfl⟩: ∃cp,(compR [] s.root)[j]? =some cp∧cpA cp=xs:=by
   rw [List.getElem?_map] at hxs
   cases hq:(compR [] s.root)[j]? with
   |none=>rw [hq] at hxs;cases hxs
   |some cp=>rw [hq] at hxs;injection hxs with hxs;exact ⟨cp,rfl,hxs⟩
  have hlc:=hloc cp (List.mem_of_getElem? hcp)
  have hdo:=does_p k s hg cp.1 hlc
  have hd16:=does_len s hlc
  refine A.val 14 rfl (pathA_sb cp.2) ?_
  refine y_ ?_
  refine A.b rfl fun b3=>?_
  refine y_ ?_
  refine A.b rfl fun b4=>?_
  refine y_ ?_
  refine A.freezeS 4 b4 (y':= .pe 1 (pathL cp.2)) rfl rfl rfl .ptr ?_
  refine A.begin rfl rfl rfl ?_
  refine y_ ?_
  refine c_ hdo ?_
  refine A.valE 18 rfl (x':=AI ((doesM s cp.1).length:Nat)) (ai_eq (by rw [List.length_map])) ?_
  refine A.keep [1,2,4,17,18,19] rfl ?_
  refine A.perm (List.perm_middle (l₁:=[_,_])) ?_
  refine A.loopP (ι:=Nat×List ((ACT×List Nat)×Nat)×Value) (fun q=>(⟨[(1,ptrA b1),(2,ptrA b2),(4, .pe 1 (pathL cp.2)),(17,actsA (doesM s cp.1)),(18,AI ((doesM s cp.1).length:Nat)),(19,AI (q.1:Nat))],[]⟩,[.tail ty83.size q.2.2, .loop lp LR .busy none, .box b3 (cellsR cp.1), .box b2 (.sl 17 (actsI q.2.1) (some q.2.2)), .box b1 (rnA s)]))
   (fun q=>q.1≤(doesM s cp.1).length∧q.2.1.map Prod.fst=compI s ((compR [] s.root).take j)++((doesM s cp.1).take q.1).map fun a=>(a,cp.2)) (fun q=>(doesM s cp.1).length-q.1) (0,l,z) ⟨Nat.zero_le _,by rw [hl];simp⟩ rfl fun q hi ih=>?_
  obtain ⟨i,l',z'⟩:=q
  obtain ⟨hi1,hi2⟩:=hi
  simp only at hi1 hi2
  refine y_ ?_
  refine k_ (fun hc=>?_) fun hc=>?_
  ·have hci:i<(doesM s cp.1).length:=by simpa using hc
   clear hc
   refine Exists.elim (at_exN (l:=doesM s cp.1) (i:=i) hci) fun a ha=>?_
   refine y_ ?_
   refine i_ rfl (map_at ha) rfl ?_
   refine A.b rfl fun b6=>?_
   refine y_ ?_
   refine A.freezeS 28 b6 (y':=actF (a,cp.2) b6) rfl rfl rfl (.ag (.cons (.sub .refl) (.cons (.sub .refl) (.cons (.sub .refl) (.cons (.sub .refl) (.cons (.sub .refl) (.cons (.sub .refl) (.cons (.sub .refl) (.cons (.sub .refl) (.cons (.sub .refl) (.cons (.sub .refl) (.cons (.sub .refl) (.cons (.sub .refl) (.cons (.sub .refl) (.cons (.sub .refl) (.cons (.sub .refl) (.cons (.fn (.cons (.sub .refl) (.cons .ptr (.sub .refl)))) (.sub .refl)))))))))))))))))) ?_
   refine t_ fun bl=>?_
   refine A.append rfl rfl rfl rfl rfl rfl rfl rfl rfl rfl rfl rfl rfl rfl (by show ((actsI l').length+1)*17≤_;rw [List.length_map];have h1:=congrArg List.length hi2;rw [List.length_map,List.length_append,List.length_map,List.length_take] at h1;have h2:=compI_len s (l:=(compR [] s.root).take j) (fun cp h=>hloc cp (List.mem_of_mem_take h));rw [List.length_take] at h2;omega) fun z2=>?_
   refine e_ 30 rfl (x':= .sl 17 (actsI (l'++[((a,cp.2),b6)])) (some z2)) (by show AV.sl 17 (actsI l'++[actF (a,cp.2) b6]) _=_;unfold actsI;rw [List.map_append];rfl) ?_
   refine A.valE 19 rfl (x':=AI ((i+1:Nat):Int)) (inc_eq i (by omega)) ?_
   refine l_ (Λ':=[.tail ty83.size z2, .loop lp LR .busy none, .box b3 (cellsR cp.1), .box b2 (.sl 17 (actsI (l'++[((a,cp.2),b6)])) (some z2)), .box b1 (rnA s)]) ?_
   refine u_ (ih (i+1,l'++[((a,cp.2),b6)],z2) ⟨by show i+1≤_;omega,?_⟩ (by show _-(i+1)<_-i;omega))
   show (l'++[((a,cp.2),b6)]).map Prod.fst=_
   rw [List.map_append,hi2]
   show _=compI s _++(List.take (i+1) _).map _
   rw [List.take_add_one,ha]
   simp
  have hci: ¬i<(doesM s cp.1).length:=by simpa using hc
  clear hc ih
  have hil:i=(doesM s cp.1).length:=by omega
  refine y_ ?_
  refine A.perm (.swap _ _ _) ?_
  refine l_ (Λ':=[.loop lp LR .busy none, .tail ty83.size z', .box b2 (.sl 17 (actsI l') (some z')), .box b1 (rnA s)]) ?_
  refine A.roundEnd rfl rfl (.inl ⟨rfl,_,rfl,l',z',?_,rfl⟩)
  rw [hi2,hil,List.take_length,List.take_add_one,hcp]
  unfold compI
  rw [List.flatMap_append]
  simp
 ·obtain ⟨l,z,hl,rfl⟩:=hinv
  rw [List.length_map,List.take_length] at hl
  refine y_ ?_
  refine A.retC (Λ':=[]) rfl rfl rfl rfl rfl (List.nil_sublist _) ⟨l, .own1,rfl,hl⟩
def kindOk(kind x:Int):Prop:=(kind=2→0≤x∧x≤255)∧(kind=3→x=0∨x=1)
theorem kindOk_fits{k x:Int}(h:fitsB k x=true):kindOk k x:=by
 unfold fitsB at h
 constructor
 ·intro hk;subst hk;simp at h;exact h
 ·intro hk;subst hk;simp at h;exact h
theorem kindOk_truth(k:Int)(b:Bool)(hk:k=3):kindOk k (truthI b):=⟨fun h=>by omega,fun _=>by cases b<;>simp [truthI]⟩
theorem kindOk_one(x:Int):kindOk 1 x:=⟨fun h=>by omega,fun h=>by omega⟩
def goodS(l:List KV)(s:List (List Int)):Prop:= ∀(i:Nat) (v:KV) (r:List Int),l[i]? =some v→s[i]? =some r→ ∀x,x∈r→fitsB v.kind x=true
theorem atM_kind{l:List KV}{s:List (List Int)}(hg:goodS l s){v i x:Int}{y:KV}(hy:l[v.toNat]? =some y)(hx:atM s v i=some x):fitsB y.kind x=true:=by
 unfold atM at hx
 split at hx
 ·cases hx
 ·cases hr:s[v.toNat]? with
  |none=>rw [hr] at hx;cases hx
  |some r=>rw [hr] at hx;exact hg _ y r hy hr x (List.mem_of_getElem? hx)
theorem fits_value{l:List KV}{s:List (List Int)}(hg:goodS l s){e:KE}(hf:fine e=true){kind x:Int}(hk:fitsM l e kind=true)(hx:valM s e=some x):kindOk kind x:=by
 rcases fine_cases hf with ⟨n,rfl⟩|⟨v,h1,h2,rfl⟩|⟨v,a,h1,h2,h3,rfl⟩|⟨o,a,h1,h2,h3,rfl⟩|⟨o,a,b,h1,h2,h3,h4,rfl⟩|⟨t,a,h1,h2,h3,rfl⟩
 ·simp [fitsM,fitsL,fitC] at hk
  simp [valM,valMl,combM] at hx
  subst hx
  exact ⟨fun h=>by omega,fun h=>by omega⟩
 ·simp only [fitsM,fitsL,fitC] at hk
  simp [valM,valMl,combM] at hx
  rw [if_neg (by decide),if_pos trivial] at hk
  split at hk
  ·rename_i y hy
   simp at hk
   rw [←hk.2];exact kindOk_fits (atM_kind hg hy hx)
  ·cases hk
 ·simp only [fitsM,fitsL,fitC] at hk
  rw [if_neg (by decide),if_neg (by decide),if_pos trivial] at hk
  split at hk
  ·rename_i y _ _ hy _
   simp at hk
   simp only [valM,valMl,combM] at hx
   cases ha:valM s a with
   |none=>rw [ha] at hx;simp at hx
   |some z=>
    rw [ha] at hx;simp at hx
    rw [←hk.1.2];exact kindOk_fits (atM_kind hg hy hx)
  ·cases hk
 ·simp only [fitsM,fitsL,fitC] at hk
  rw [if_neg (by decide),if_neg (by decide),if_neg (by decide)] at hk
  simp at hk
  simp only [valM,valMl,combM] at hx
  cases ha:valM s a with
  |none=>rw [ha] at hx;simp at hx
  |some z=>
   rw [ha] at hx;simp at hx
   split at hk
   ·rename_i ho
    subst ho
    simp [applyC] at hx
    rw [←hx.2];exact kindOk_truth _ _ hk.1
   ·rw [hk.1];exact kindOk_one x
 ·simp only [fitsM,fitsL,fitC] at hk
  rw [if_neg (by decide),if_neg (by decide),if_neg (by decide)] at hk
  simp only [valM,valMl,combM] at hx
  cases ha:valM s a with
  |none=>rw [ha] at hx;simp at hx
  |some z=>
   rw [ha] at hx;simp at hx
   simp at hk
   split at hk
   ·rw [hk.1];exact kindOk_one x
   ·rename_i ho
    have hk3:kind=3:=by
     by_cases h:kind=3
     ·exact h
     ·simp [h] at hk
    subst hk3
    refine ⟨fun h=>by omega,fun _=>?_⟩
    split at hx
    ·rename_i hsh
     simp at hx
     subst hx
     simp [isSh] at hsh;omega
    ·cases hb:valM s b with
     |none=>rw [hb] at hx;simp at hx
     |some w=>
      rw [hb] at hx;simp at hx
      have ho':o=14∨o=15∨o=16∨o=17∨o=18∨o=19∨o=20∨o=21∨o=22:=by omega
      have ht: ∀c:Bool,truthI c=0∨truthI c=1:=fun c=>by cases c<;>simp [truthI]
      rcases ho' with rfl|rfl|rfl|rfl|rfl|rfl|rfl|rfl|rfl<;>simp [applyC] at hx
      ·rw [←hx];exact ht _
      ·rw [←hx];exact ht _
      ·rw [←hx];exact ht _
      ·rw [←hx];exact ht _
      ·rw [←hx];exact ht _
      ·rw [←hx];exact ht _
      ·rw [←hx.2];exact ht _
      ·rw [←hx.2];exact ht _
      ·rw [←hx];exact ht _
 ·simp only [fitsM,fitsL,fitC] at hk
  rw [if_neg (by decide),if_neg (by decide),if_neg (by decide)] at hk
  simp at hk
  simp only [valM,valMl,combM] at hx
  cases ha:valM s a with
  |none=>rw [ha] at hx;simp at hx
  |some z=>
   rw [ha] at hx;simp at hx
   rw [conv_fits] at hx
   split at hx
   ·rename_i hz
    injection hx with hx
    subst hx
    rw [←hk.1];exact kindOk_fits hz
   ·cases hx
theorem may_good{l:List KV}{s:List (List Int)}(hs:soundsB l=true)(hlen:s.length=l.length)(hr: ∀(i:Nat) (v:KV) (r:List Int),l[i]? =some v→s[i]? =some r→(r.length:Int)=longI v)(hg:goodS l s):mayB l s=true:=by
 simp only [mayB,hs,hlen,decide_true,Bool.true_and,allEq,List.all_eq_true,List.mem_range]
 intro i hi
 have h2:i<s.length:=by omega
 rw [List.getElem?_eq_getElem hi,List.getElem?_eq_getElem h2]
 simp only [mayRow,Bool.and_eq_true,beq_iff_eq]
 refine ⟨hr i _ _ (List.getElem?_eq_getElem hi) (List.getElem?_eq_getElem h2),?_⟩
 simp only [Bool.not_eq_true',List.any_eq_false]
 intro x hx
 rw [hg i _ _ (List.getElem?_eq_getElem hi) (List.getElem?_eq_getElem h2) x hx];simp
theorem long_pos(v:KV):0<longI v:=by unfold longI;split<;>omega
theorem store_len(l:List KV):(storeM l).length=l.length:=by rw [storeM,List.length_map]
theorem store_at{l:List KV}{i:Nat}{v:KV}{r:List Int}(hv:l[i]? =some v)(hr:(storeM l)[i]? =some r):r=List.replicate (longI v).toNat 0:=by
 rw [storeM,List.getElem?_map,hv] at hr;injection hr with hr;exact hr.symm
theorem fits_zero{v:KV}(h:soundB v=true):fitsB v.kind 0=true:=by
 simp [soundB] at h
 rcases h.1.1 with (h|h)|h<;>simp [fitsB,h]
theorem sounds_at{l:List KV}(h:soundsB l=true){v:KV}(hv:v∈l):soundB v=true:=by
 simp [soundsB] at h;exact h.2 v hv
theorem store_good{l:List KV}(h:soundsB l=true):goodS l (storeM l):=fun i v r hv hr x hx=>by
 rw [store_at hv hr] at hx
 rw [(List.mem_replicate.1 hx).2]
 exact fits_zero (sounds_at h (List.mem_of_getElem? hv))
theorem may_store{l:List KV}(h:soundsB l=true):mayB l (storeM l)=true:=may_good h (store_len l) (fun i v r hv hr=>by rw [store_at hv hr,List.length_replicate];have:=long_pos v;omega) (store_good h)
structure StOk(V:List KV)(st:List (List Int)):Prop where
 may:mayB V st=true
 ws:wfS st
theorem may_parts{V:List KV}{st:List (List Int)}(h:mayB V st=true):soundsB V=true∧st.length=V.length∧(∀(i:Nat) (v:KV) (r:List Int),V[i]? =some v→st[i]? =some r→(r.length:Int)=longI v)∧goodS V st:=by
 simp only [mayB,Bool.and_eq_true,decide_eq_true_eq,allEq,List.all_eq_true,List.mem_range] at h
 obtain ⟨⟨h1,h2⟩,h3⟩:=h
 have hm: ∀(i:Nat) (v:KV) (r:List Int),V[i]? =some v→st[i]? =some r→mayRow v r=true:=fun i v r hv hr=>by
  have:=h3 i (at_lt hv)
  rw [hv,hr] at this;exact this
 refine ⟨h2,h1,fun i v r hv hr=>?_,fun i v r hv hr x hx=>?_⟩
 ·have:=hm i v r hv hr
  simp only [mayRow,Bool.and_eq_true,beq_iff_eq] at this
  exact this.1
 ·have:=hm i v r hv hr
  simp only [mayRow,Bool.and_eq_true,Bool.not_eq_true',List.any_eq_false] at this
  have:=this.2 x hx
  simpa using this
theorem StOk.put{V:List KV}{st:List (List Int)}(h:StOk V st){v i x:Int}(hx:i32 x)(hk: ∀y,V[v.toNat]? =some y→fitsB y.kind x=true):StOk V (putM st v i x):=by
 obtain ⟨h1,h2,h3,h4⟩:=may_parts h.may
 unfold putM
 by_cases ha:(atM st v i).isSome=true
 ·rw [if_pos ha]
  cases hr:st[v.toNat]? with
  |none=>exact h
  |some r=>
   show StOk V (st.set v.toNat (r.set i.toNat x))
   have hin: ∀z,z∈r.set i.toNat x→z∈r∨z=x:=fun z hz=>List.mem_or_eq_of_mem_set hz
   refine ⟨may_good h1 (by show (st.set _ _).length=_;rw [List.length_set];exact h2) (fun j y q hy hq=>?_) (fun j y q hy hq z hz=>?_),fun q hq z hz=>?_⟩
   ·replace hq:(st.set v.toNat (r.set i.toNat x))[j]? =some q:=hq
    rw [List.getElem?_set] at hq
    split at hq
    ·rename_i hj
     subst hj
     split at hq
     ·injection hq with hq
      rw [←hq,List.length_set];exact h3 _ y r hy hr
     ·cases hq
    ·exact h3 j y q hy hq
   ·replace hq:(st.set v.toNat (r.set i.toNat x))[j]? =some q:=hq
    rw [List.getElem?_set] at hq
    split at hq
    ·rename_i hj
     subst hj
     split at hq
     ·injection hq with hq
      rw [←hq] at hz
      rcases hin z hz with hz|rfl
      ·exact h4 _ y r hy hr z hz
      ·exact hk y hy
     ·cases hq
    ·exact h4 j y q hy hq z hz
   ·replace hq:q∈st.set v.toNat (r.set i.toNat x):=hq
    rcases List.mem_or_eq_of_mem_set hq with hq|hq
    ·exact h.ws q hq z hz
    ·rw [hq] at hz
     rcases hin z hz with hz|rfl
     ·exact h.ws r (List.mem_of_getElem? hr) z hz
     ·exact hx
 ·rw [if_neg ha];exact h
theorem StOk.small{V:List KV}{st:List (List Int)}(h:StOk V st):Small st:=mayB_short h.may
theorem prim_fits{k x:Int}(hk:k=1∨k=2∨k=3)(h:kindOk k x):fitsB k x=true:=by
 obtain ⟨h2,h3⟩:=h
 rcases hk with rfl|rfl|rfl
 ·rfl
 ·have:=h2 rfl;simp [fitsB];omega
 ·have:=h3 rfl;simpa [fitsB] using this
theorem sound_prim{v:KV}(h:soundB v=true):v.kind=1∨v.kind=2∨v.kind=3:=by
 simp [soundB] at h
 rcases h.1.1 with (h|h)|h
 ·exact .inl h
 ·exact .inr (.inl h)
 ·exact .inr (.inr h)
theorem place_v{st:List (List Int)}{v:Int}{ix:List KE}{p:Int×Int}(h:placeM st v ix=some p):p.1=v:=by
 match ix,h with
 | [],h=>
   rw [placeM] at h
   split at h
   ·injection h with h;rw [←h]
   ·cases h
 | [e],h=>
   rw [placeM] at h
   split at h
   ·split at h
    ·injection h with h;rw [←h]
    ·cases h
   ·cases h
theorem placeB_at{V:List KV}{t:PL}{k:Int}(h:placeB V t k=true): ∀y,V[t.v.toNat]? =some y→y.kind=k:=fun y hy=>by
 unfold placeB at h
 split at h
 ·cases h
 ·rw [hy] at h
  simp only [Bool.and_eq_true,beq_iff_eq] at h
  exact h.1
theorem value_fits{V:List KV}{st:List (List Int)}(hs:StOk V st){e:KE}{k x:Int}(hf:fitV V e k=true)(hv:valueM st e=some x):kindOk k x:=by
 obtain ⟨h1,h2,h3,h4⟩:=may_parts hs.may
 unfold fitV at hf
 simp only [Bool.and_eq_true,decide_eq_true_eq] at hf
 unfold valueM at hv
 rw [if_pos hf.1] at hv
 exact fits_value h4 hf.1.1 hf.2 hv
theorem value_in{V:List KV}{st:List (List Int)}(hs:StOk V st){e:KE}{x:Int}(hw:wfK e)(hv:valueM st e=some x):i32 x:=valueM_in hs.ws hw x hv
theorem valid_num(n:Int):valid (numE n):=by
 refine ⟨?_,?_,?_⟩
 ·simp [numE,fine,finel,shapeB]
 ·simp [numE,sz,szl]
 ·simp [numE,ht,htl]
theorem fit_num1(V:List KV)(n:Int):fitV V (numE n) 1=true:=by
 unfold fitV
 rw [decide_eq_true (valid_num n)]
 simp [numE,fitsM,fitsL,fitC]
theorem fit_num3(V:List KV){n:Int}(h:n=0∨n=1):fitV V (numE n) 3=true:=by
 unfold fitV
 rw [decide_eq_true (valid_num n)]
 rcases h with rfl|rfl<;>simp [numE,fitsM,fitsL,fitC]
theorem wf_num{n:Int}(h:i32 n):wfK (numE n)∧smK (numE n):=by
 unfold i32 at h
 constructor
 ·simp only [numE,wfK,wfKl,u8,i32,i64];exact ⟨⟨by omega,by omega,by omega,h,by omega⟩,trivial⟩
 ·simp [numE,smK,smKl]
structure ActOk(V:List KV)(C:List Int)(c:PR)(a:ACT):Prop where
 ok: ∀h,okF (Loc V C) true h c→okF (Loc V C) true h a.next
 wt:wtR a.next≤wtR c
 dw:dwR a.next≤dwR c
 kinds:a.kind=116∨a.kind=105∨a.kind=111
 tau:a.kind=116→StOk V a.store
 inp:a.kind=105→(c.kind=5∨c.kind=16)∧(∀y,V[a.v.toNat]? =some y→y.kind=a.item)∧(a.c=0→a.item=1)
 out:a.kind=111→c.kind=6∧i32 a.value
structure Leaf(c:PR):Prop where
 k9:c.kind≠9
 kb: ¬(c.kind=10∨c.kind=11)
theorem Leaf.wt{c:PR}(h:Leaf c):wtR c=2+szL c.l+szGs c.gs+wtL c.l+wtGs c.gs:=by rw [wtR_eq,if_neg h.k9,if_neg h.kb]
theorem Leaf.dw{c:PR}(h:Leaf c):dwR c=1+max (1+max (htL c.l) (htGs c.gs)) (max (dwL c.l) (dwGs c.gs)):=by rw [dwR_eq,if_neg h.k9,if_neg h.kb]
theorem wtGs_mem: ∀{l:List GD} {g:GD},g∈l→wtG g≤wtGs l∧dwG g≤dwGs l
 |x::r,g,h=>by
  rw [wtGs,dwGs]
  rcases List.mem_cons.1 h with rfl|h
  ·omega
  ·have:=wtGs_mem h;omega
section
variable{V:List KV}{C:List Int}
structure NextOk(V:List KV)(C:List Int)(c q:PR):Prop where
 ok: ∀h,okF (Loc V C) true h c→okF (Loc V C) true h q
 wt:wtR q≤wtR c
 dw:dwR q≤dwR c
theorem next_skip{c:PR}(h:Leaf c):NextOk V C c skipR:=⟨fun _ _=>ok_skip loc_lax _ _,by rw [wt_skip,h.wt];omega,by rw [dw_skip,h.dw];omega⟩
theorem next_stop{c:PR}(h:Leaf c):NextOk V C c stopR:=⟨fun _ _=>ok_stop loc_lax _ _,by rw [wt_stop,h.wt];omega,by rw [dw_stop,h.dw];omega⟩
theorem next_body{c:PR}(h:Leaf c){g:GD}(hg:g∈c.gs){y:PR}(hy:g.body=[y]):NextOk V C c y:=by
 have h1:=wtGs_mem hg
 rw [wtG_eq,dwG_eq,hy,wtL,wtL,dwL,dwL] at h1
 refine ⟨fun hh hw=>?_,by rw [h.wt];omega,by rw [h.dw];omega⟩
 rw [okF_eq] at hw
 have h2:=okFs_mem hw.2.2 g hg
 rw [okFg_eq,hy,okFl_1] at h2
 exact okF_mono (fun _=>rfl) h2.1
theorem tau_ok{c q:PR}{st:List (List Int)}(hs:StOk V st)(hn:NextOk V C c q): ∀a,a∈tauM st q→ActOk V C c a:=fun a ha=>by
 rw [List.mem_singleton.1 ha]
 exact ⟨hn.ok,hn.wt,hn.dw, .inl rfl,fun _=>hs,(fun h=>by cases h),(fun h=>by cases h)⟩
theorem input_ok{c q:PR}{s:ST}(hs:StOk V s.store)(hl:Leaf c)(hn:NextOk V C c q)(hk:c.kind=5∨c.kind=16){ch item:Int}{to:PL}(hi:inputB V C.length ch item to=true): ∀a,a∈inputM s ch item to q→ActOk V C c a:=fun a ha=>by
 unfold inputB chanB at hi
 simp only [Bool.and_eq_true,Bool.or_eq_true,decide_eq_true_eq,beq_iff_eq] at hi
 unfold inputM at ha
 split at ha
 ·exact tau_ok hs (next_stop hl) a ha
 ·rename_i v i hp
  have hv:=place_v hp
  rw [List.mem_singleton.1 ha]
  refine ⟨hn.ok,hn.wt,hn.dw, .inr (.inl rfl),(fun h=>by cases h),fun _=>⟨hk,?_,?_⟩,(fun h=>by cases h)⟩
  ·have hv:v=to.v:=hv
   show∀y,V[v.toNat]? =some y→_
   rw [hv];exact placeB_at hi.2
  ·intro h0
   have h0:ch=0:=h0
   have:=hi.1.2
   show item=1
   omega
theorem goods{st:List (List Int)}(h:StOk V st){v:KV}{i:Nat}(hv:V[i]? =some v):soundB v=true:=sounds_at (may_parts h.may).1 (List.mem_of_getElem? hv)
theorem clear_ok{st:List (List Int)}(h:StOk V st)(v:Int): ∀n,StOk V (clearM st v n)
 |0=>h
 |n+1=>by
  rw [clearM_succ]
  exact (clear_ok h v n).put (by unfold i32;omega) fun y hy=>fits_zero (goods h hy)
theorem puts_ok{st0:List (List Int)}(h0:StOk V st0): ∀(tos:List PL) (es:List KE) (xs:List Int) (st st':List (List Int)),StOk V st→tos.length=es.length→(∀e,e∈es→wfK e)→(tos.zip es).all (fun te=>assignB V te.1 te.2)=true→valsM st0 es=some xs→putsM st0 tos xs st=some st'→StOk V st'
 | [],es,xs,st,st',h,_,_,_,_,hp=>by
   rw [putsM] at hp;injection hp with hp;rw [←hp];exact h
 |to::tos,[],xs,st,st',h,hl,_,_,_,_=>by cases hl
 |to::tos,e::es,xs,st,st',h,hl,hw,ha,hx,hp=>by
  rw [List.zip_cons_cons,List.all_cons,Bool.and_eq_true] at ha
  rw [valsM] at hx
  cases hv:valueM st0 e with
  |none=>rw [hv] at hx;cases hx
  |some x=>
   rw [hv] at hx
   simp only [Option.map_eq_some_iff] at hx
   obtain ⟨xr,hxr,rfl⟩:=hx
   rw [putsM] at hp
   cases hpl:placeM st0 to.v to.ix with
   |none=>rw [hpl] at hp;cases hp
   |some vj=>
    obtain ⟨v,j⟩:=vj
    rw [hpl] at hp
    simp only at hp
    refine puts_ok h0 tos es xr _ st' (h.put (value_in h0 (hw e (.head _)) hv) fun y hy=>?_) (by simpa using hl) (fun e' he'=>hw e' (.tail _ he')) ha.2 hxr hp
    have hvv:v=to.v:=place_v hpl
    rw [hvv] at hy
    have h1:=ha.1
    unfold assignB at h1
    split at h1
    ·cases h1
    ·simp only [hy,Bool.and_eq_true] at h1
     exact prim_fits (sound_prim (goods h hy)) (value_fits h0 h1.2 hv)
theorem assign_ok{c:PR}{s:ST}(hs:StOk V s.store)(hl:Leaf c)(hw: ∀x,x∈c.e→wfK x)(h1:c.to.length=c.e.length)(h2:(c.to.zip c.e).all (fun te=>assignB V te.1 te.2)=true): ∀a,a∈assignM s c→ActOk V C c a:=fun a ha=>by
 unfold assignM at ha
 split at ha
 ·exact tau_ok hs (next_stop hl) a ha
 ·rename_i xs hxs
  split at ha
  ·exact tau_ok hs (next_stop hl) a ha
  ·rename_i st hst
   exact tau_ok (puts_ok hs _ _ _ _ _ hs h1 hw h2 hxs hst) (next_skip hl) a ha
theorem time_ok{c:PR}{s:ST}(hs:StOk V s.store)(ht:i32 s.time)(hl:Leaf c){t:PL}{r:List PL}(hto:c.to=t::r)(hp:placeB V t 1=true): ∀a,a∈timeM s c→ActOk V C c a:=fun a ha=>by
 unfold timeM at ha
 rw [hto] at ha
 simp only at ha
 split at ha
 ·exact tau_ok hs (next_stop hl) a ha
 ·rename_i v i hpl
  have hv:v=t.v:=place_v hpl
  refine tau_ok (hs.put ht fun y hy=>?_) (next_skip hl) a ha
  rw [hv] at hy
  rw [placeB_at hp y hy];rfl
theorem choose_ok{c:PR}{s:ST}(hs:StOk V s.store)(hl:Leaf c)(hb: ∀g,g∈c.gs→ ∃y,g.body=[y]): ∀(l:List GD),(∀g,g∈l→g∈c.gs)→ ∀a,a∈chooseM s l→ActOk V C c a
 | [],_,a,ha=>tau_ok hs (next_stop hl) a (by rw [chooseM] at ha;exact ha)
 |g::r,hg,a,ha=>by
  rw [chooseM] at ha
  split at ha
  ·exact tau_ok hs (next_stop hl) a ha
  ·split at ha
   ·obtain ⟨y,hy⟩:=hb g (hg g (.head _))
    rw [hy] at ha
    exact tau_ok hs (next_body hl (hg g (.head _)) hy) a ha
   ·exact choose_ok hs hl hb r (fun g' h'=>hg g' (.tail _ h')) a ha
theorem guard_in{g:GD}{b:Bool}(h:guardB V C.length g b=true)(h3:g.kind=3):inputB V C.length g.c g.item g.to=true:=by
 unfold guardB at h
 rw [if_neg (by omega),if_pos h3] at h
 simp only [Bool.and_eq_true] at h
 exact h.2.2
theorem wait_ok{c:PR}{s:ST}(hs:StOk V s.store)(hl:Leaf c)(hk:c.kind=16)(hb: ∀g,g∈c.gs→ ∃y,g.body=[y])(hG: ∀g,g∈c.gs→guardB V C.length g false=true): ∀a,a∈c.gs.flatMap (waitG s)→ActOk V C c a:=fun a ha=>by
 rw [List.mem_flatMap] at ha
 obtain ⟨g,hg,ha⟩:=ha
 obtain ⟨y,hy⟩:=hb g hg
 unfold waitG at ha
 rw [hy] at ha
 split at ha
 ·cases ha
 ·split at ha
  ·rename_i h3
   exact input_ok hs hl (next_body hl hg hy) (.inr hk) (guard_in (hG g hg) h3) a ha
  ·split at ha
   ·exact tau_ok hs (next_body hl hg hy) a ha
   ·cases ha
theorem next_loop{c b:PR}(hl:Leaf c)(hk:c.kind=13)(hb:c.l=[b]):NextOk V C c ⟨9,0,0,0,[],[],[],[headR c.l,c]⟩:=by
 have hh:headR c.l=b:=by rw [hb];rfl
 have hs1:szR c=1+szL c.l+szGs c.gs:=szR_eq c
 have hh1:=htR_eq c
 have hw:=hl.wt
 have hd:=hl.dw
 rw [hb] at hs1 hh1 hw hd
 rw [szL,szL] at hs1
 rw [htL,htL] at hh1
 rw [wtL,wtL,szL,szL] at hw
 rw [dwL,dwL,htL,htL] at hd
 refine ⟨fun h w=>?_,?_,?_⟩
 ·rw [hh,okF_eq]
  have w0:=w
  rw [okF_eq] at w
  obtain ⟨⟨w1,w2,w3⟩,w4,w5⟩:=w
  refine ⟨⟨⟨?_,(by intro h;cases h),(by show 1+2+0≤2048;omega),(by intro t h;cases h),(by intro t h;cases h),(by intro t h;cases h)⟩,(by intro h;cases h),(by intro h;cases h)⟩,?_,by show okFs _ _ [];rw [okFs];trivial⟩
  ·show shapeR ⟨9,0,0,0,[],[],[],[b,c]⟩ false false 0 0 0 0 0 0 0 2048=true
   rfl
  ·show okFl (Loc V C) true false (h||false) h [b,c]
   rw [hb,hk] at w4
   have w4:okFl (Loc V C) (true&&false) (true&&false) (h||false) h [b]:=w4
   rw [okFl_1] at w4
   rw [okFl_1,okFl_1]
   refine ⟨okF_mono (fun _=>rfl) w4.1,?_,okFl_0⟩
   rw [okF_eq]
   refine ⟨⟨w1,fun h=>by omega,w3⟩,?_,w5⟩
   rw [hb,hk]
   show okFl (Loc V C) false false (h||false) h [b]
   rw [okFl_1]
   exact ⟨w4.1,okFl_0⟩
 ·rw [wtR_eq,if_pos rfl]
  show szGs []+wtS [headR c.l,c]≤_
  rw [hh,wtS_2,wtS_1,szL,szL,szGs]
  omega
 ·rw [dwR_eq,if_pos rfl]
  show max (1+htGs []) (dwS [headR c.l,c])≤_
  rw [hh,dwS_2,dwS_1,htL,htL,htGs]
  omega
theorem valued_ok{c:PR}{s:ST}(hs:StOk V s.store)(hl:Leaf c)(hw: ∀x,x∈c.e→wfK x)(hk:c.kind=6∨c.kind=8∨c.kind=13)(hb:c.kind=13→ ∃b,c.l=[b]): ∀a,a∈valuedM s c→ActOk V C c a:=fun a ha=>by
 unfold valuedM at ha
 split at ha
 ·cases ha
 ·rename_i e r he
  split at ha
  ·exact tau_ok hs (next_stop hl) a ha
  ·rename_i x hx
   have hxi:=value_in hs (hw e (by rw [he];exact .head _)) hx
   split at ha
   ·rename_i h6
    have hn:=next_skip (V:=V) (C:=C) hl
    rw [List.mem_singleton.1 ha]
    exact ⟨hn.ok,hn.wt,hn.dw, .inr (.inr rfl),(fun h=>by cases h),(fun h=>by cases h),fun _=>⟨h6,hxi⟩⟩
   ·split at ha
    ·rename_i h13
     obtain ⟨b,hb⟩:=hb h13.1
     exact tau_ok hs (next_loop hl h13.1 hb) a ha
    ·split at ha
     ·exact tau_ok hs (next_skip hl) a ha
     ·cases ha
theorem enter_g{st:List (List Int)}(hs:StOk V st){g g':GD}(hw:wfK g.cond∧wfK g.time)(hwp:wfPl g.to∧smP g.to)(hsm:smK g.cond∧smK g.time)(hG:guardB V C.length g false=true)(h:enterG st g=some g'):
 g'.body=g.body∧guardB V C.length g' false=true∧waitsG g'=true∧(wfK g'.cond∧smK g'.cond)∧(wfK g'.time∧smK g'.time)∧(wfPl g'.to∧smP g'.to):=by
 unfold enterG at h
 cases hx:valueM st g.cond with
 |none=>rw [hx] at h;cases h
 |some x=>
  rw [hx] at h
  simp only at h
  have hG0:=hG
  unfold guardB at hG
  simp only [Bool.and_eq_true] at hG
  obtain ⟨⟨⟨g1,g2⟩,g3⟩,g4⟩:=hG
  have hx3:x=0∨x=1:=(value_fits hs g2 hx).2 rfl
  have hxi:=value_in hs hw.1 hx
  have hn:=wf_num hxi
  split at h
  ·rename_i h4
   cases ht:valueM st g.time with
   |none=>rw [ht] at h;cases h
   |some t=>
    rw [ht] at h
    injection h with h
    have hti:=value_in hs hw.2 ht
    rw [←h]
    refine ⟨rfl,?_,?_,hn,wf_num hti,hwp⟩
    ·unfold guardB
     simp only [Bool.and_eq_true]
     refine ⟨⟨⟨g1,fit_num3 V hx3⟩,g3⟩,?_⟩
     have e1: ¬(g.kind=1∨g.kind=2):=by omega
     have e2: ¬g.kind=3:=by omega
     show (if g.kind=1∨g.kind=2 then _ else if g.kind=3 then _ else if g.kind=4 then _ else false)=true
     rw [if_neg e1,if_neg e2,if_pos h4] at g4⊢
     rw [Bool.and_eq_true] at g4⊢
     exact ⟨g4.1,fit_num1 V t⟩
    ·unfold waitsG;simp [numE]
  ·rename_i h4
   injection h with h
   rw [←h]
   refine ⟨rfl,?_,?_,hn,⟨hw.2,hsm.2⟩,hwp⟩
   ·unfold guardB
    simp only [Bool.and_eq_true]
    exact ⟨⟨⟨g1,fit_num3 V hx3⟩,g3⟩,g4⟩
   ·unfold waitsG
    simp [numE,h4]
theorem enter_all{st:List (List Int)}: ∀{l l':List GD},enterM st l=some l'→l'.length=l.length∧ ∀g',g'∈l'→ ∃g,g∈l∧enterG st g=some g'
 | [],l',h=>by rw [enterM] at h;injection h with h;rw [←h];exact ⟨rfl,(by intro g h;cases h)⟩
 |g::r,l',h=>by
  rw [enterM] at h
  cases hg:enterG st g with
  |none=>rw [hg] at h;cases h
  |some y=>
   rw [hg] at h
   simp only [Option.map_eq_some_iff] at h
   obtain ⟨r',hr,rfl⟩:=h
   obtain ⟨h1,h2⟩:=enter_all hr
   refine ⟨by rw [List.length_cons,List.length_cons,h1],fun g' hg'=>?_⟩
   rcases List.mem_cons.1 hg' with rfl|hg'
   ·exact ⟨g, .head _,hg⟩
   ·obtain ⟨q,q1,q2⟩:=h2 g' hg'
    exact ⟨q, .tail _ q1,q2⟩
theorem enter_body{st:List (List Int)}{g g':GD}(h:enterG st g=some g'):g'.body=g.body:=by
 unfold enterG at h
 split at h
 ·cases h
 ·split at h
  ·split at h
   ·cases h
   ·injection h with h;rw [←h]
  ·injection h with h;rw [←h]
theorem enter_sz{st:List (List Int)}: ∀{l l':List GD},enterM st l=some l'→szGs l'=szGs l∧wtGs l'=wtGs l∧htGs l'=htGs l∧dwGs l'=dwGs l∧ ∀h,okFs (Loc V C) h l→okFs (Loc V C) h l'
 | [],l',h=>by rw [enterM] at h;injection h with h;rw [←h];exact ⟨rfl,rfl,rfl,rfl,fun _ w=>w⟩
 |g::r,l',h=>by
  rw [enterM] at h
  cases hg:enterG st g with
  |none=>rw [hg] at h;cases h
  |some y=>
   rw [hg] at h
   simp only [Option.map_eq_some_iff] at h
   obtain ⟨r',hr,rfl⟩:=h
   obtain ⟨h1,h2,h3,h4,h5⟩:=enter_sz hr
   have hb:=enter_body hg
   refine ⟨by rw [szGs,szGs,szG_eq,szG_eq,hb,h1],by rw [wtGs,wtGs,wtG_eq,wtG_eq,hb,h2],by rw [htGs,htGs,htG_eq,htG_eq,hb,h3],by rw [dwGs,dwGs,dwG_eq,dwG_eq,hb,h4],fun h w=>?_⟩
   rw [okFs,okFg_eq] at w⊢
   rw [hb];exact ⟨w.1,h5 h w.2⟩
theorem next_enter{c:PR}{s:ST}(hs:StOk V s.store)(hl:Leaf c)(hc:Loc V C c)(hG: ∀g,g∈c.gs→guardB V C.length g false=true){gs':List GD}(h:enterM s.store c.gs=some gs'):NextOk V C c ⟨16,0,0,0,[],[],gs',[]⟩:=by
 obtain ⟨e1,e2⟩:=enter_all h
 obtain ⟨s1,s2,s3,s4,s5⟩:=enter_sz (V:=V) (C:=C) h
 have hg: ∀g',g'∈gs'→guardB V C.length g' false=true∧waitsG g'=true∧(wfK g'.cond∧smK g'.cond)∧(wfK g'.time∧smK g'.time)∧(wfPl g'.to∧smP g'.to):=fun g' hg'=>by
  obtain ⟨g,hgm,hge⟩:=e2 g' hg'
  have h1:=hc.gs g hgm
  exact (enter_g hs ⟨h1.1.1,h1.2.1.1⟩ h1.2.2 ⟨h1.1.2,h1.2.1.2⟩ (hG g hgm) hge).2
 obtain ⟨l1,l2,l3,l4⟩:=hc.lens
 refine ⟨fun h w=>?_,?_,?_⟩
 ·rw [okF_eq] at w⊢
  obtain ⟨⟨w1,w2,w3⟩,w4,w5⟩:=w
  refine ⟨⟨⟨?_,fun _ g' hg'=>(hg g' hg').2.1,?_,(by intro t h;cases h),(by intro t h;cases h),fun g' hg'=>(hg g' hg').2.2⟩,(fun _=>rfl),(by intro h;cases h)⟩,okFl_0,s5 h w5⟩
  ·show (shapeR ⟨14,0,0,0,[],[],gs',[]⟩ false false 0 0 0 0 0 16 0 0&&gs'.all fun g=>guardB V C.length g false)=true
   rw [Bool.and_eq_true]
   refine ⟨?_,List.all_eq_true.2 fun g' hg'=>(hg g' hg').1⟩
   have:gs'.length≤16:=by omega
   simp [shapeR,inB]
   have h2:(gs'.length:Int)≤16:=by omega
   exact h2
  ·show 1+0+gs'.length≤2048;omega
 ·rw [wtR_eq,if_neg (by show¬(16:Int)=9;decide),if_neg (by show¬((16:Int)=10∨(16:Int)=11);decide),hl.wt]
  show 2+szL []+szGs gs'+wtL []+wtGs gs'≤_
  rw [szL,wtL,s1,s2];omega
 ·rw [dwR_eq,if_neg (by show¬(16:Int)=9;decide),if_neg (by show¬((16:Int)=10∨(16:Int)=11);decide),hl.dw]
  show 1+max (1+max (htL []) (htGs gs')) (max (dwL []) (dwGs gs'))≤_
  rw [htL,dwL,s3,s4];omega
theorem entered_ok{c:PR}{s:ST}(hs:StOk V s.store)(hl:Leaf c)(hc:Loc V C c)(hG: ∀g,g∈c.gs→guardB V C.length g false=true): ∀a,a∈enteredM s c→ActOk V C c a:=fun a ha=>by
 unfold enteredM at ha
 split at ha
 ·exact tau_ok hs (next_stop hl) a ha
 ·rename_i gs' hg
  exact tau_ok hs (next_enter hs hl hc hG hg) a ha
theorem Loc.guards{c:PR}(h:Loc V C c)(hk:c.kind=14∨c.kind=15∨c.kind=16): ∀g,g∈c.gs→guardB V C.length g false=true:=by
 have h1:=h.kind
 obtain ⟨k,c,v,i,to,e,gs,l⟩:=c
 have hk:k=14∨k=15∨k=16:=hk
 have h3: ∀kk:Int,kk=14∨kk=15→kindB V C.length ⟨kk,c,v,i,to,e,gs,l⟩=true→ ∀g,g∈gs→guardB V C.length g false=true:=by
  intro kk hkk h2 g hg
  rcases hkk with rfl|rfl
  ·have h4:(shapeR ⟨14,c,v,i,to,e,gs,l⟩ false false 0 0 0 0 0 16 0 0&&gs.all fun g=>guardB V C.length g false)=true:=h2
   rw [Bool.and_eq_true] at h4
   exact List.all_eq_true.1 h4.2 g hg
  ·have h4:(shapeR ⟨15,c,v,i,to,e,gs,l⟩ false false 0 0 0 0 0 16 0 0&&gs.all fun g=>guardB V C.length g false)=true:=h2
   rw [Bool.and_eq_true] at h4
   exact List.all_eq_true.1 h4.2 g hg
 refine h3 (if k=16 then 14 else k) ?_ h1
 split
 ·exact .inl rfl
 ·omega
theorem does_ok{c:PR}{s:ST}(hs:StOk V s.store)(ht:i32 s.time)(hl:Leaf c)(hc:Loc V C c): ∀a,a∈doesM s c→ActOk V C c a:=by
 have hwe: ∀x,x∈c.e→wfK x:=fun x hx=>(hc.e x hx).1
 unfold doesM
 split
 ·exact tau_ok (clear_ok hs _ _) (next_skip hl)
 split
 ·rename_i k4
  obtain ⟨h1,h2⟩:=hc.k4 k4
  exact assign_ok hs hl hwe h1 h2
 split
 ·rename_i k7
  obtain ⟨t,h1,h2⟩:=hc.k7 k7
  exact time_ok hs ht hl h1 h2
 split
 ·exact choose_ok hs hl hc.body c.gs fun g hg=>hg
 split
 ·rename_i k14
  exact entered_ok hs hl hc (hc.guards (by omega))
 split
 ·rename_i k16
  exact wait_ok hs hl k16 hc.body (hc.guards (by omega))
 split
 ·rename_i k5
  obtain ⟨t,h1,h2⟩:=hc.k5 k5
  unfold inM
  rw [h1]
  exact input_ok hs hl (next_skip hl) (.inl k5) h2
 split
 ·rename_i k8
  refine valued_ok hs hl hwe (by omega) fun k13=>?_
  obtain ⟨e,b,h1,h2,h3⟩:=hc.k13 k13
  exact ⟨b,h2⟩
 ·intro a ha;cases ha
theorem does_wt{c:PR}{s:ST}(hl:Leaf c)(hc:Loc V C c):(doesM s c).length≤wtR c:=by
 have hw:=hl.wt
 have h2: ∀l:List GD,(∀g,g∈l→ ∃y,g.body=[y])→l.length≤szGs l:=by
  intro l
  induction l with
  |nil=>intro _;exact Nat.zero_le _
  |cons x r ih=>
   intro hb
   obtain ⟨y,hy⟩:=hb x (.head _)
   have:=ih fun g hg=>hb g (.tail _ hg)
   have:=szR_pos y
   rw [szGs,List.length_cons,szG_eq,hy,szL,szL];omega
 have h3:=h2 c.gs hc.body
 unfold doesM
 split
 ·rw [tau_len];omega
 split
 ·unfold assignM
  split
  ·rw [tau_len];omega
  ·split<;>(rw [tau_len];omega)
 split
 ·unfold timeM
  split
  ·simp
  ·split<;>(rw [tau_len];omega)
 split
 ·rw [choose_len];omega
 split
 ·unfold enteredM
  split<;>(rw [tau_len];omega)
 split
 ·have:=flat_len (waitG s) (waitG_len s) c.gs
  omega
 split
 ·unfold inM
  split
  ·simp
  ·rw [input_len];omega
 split
 ·unfold valuedM
  split
  ·simp
  ·split
   ·rw [tau_len];omega
   ·repeat (first|(rw [tau_len];omega)|(show 1≤_;omega)|(show 0≤_;omega)|split)
 ·exact Nat.zero_le _
end
theorem cloned_p(r:List Int)(hr:r.length≤35184372088832):Pure Tryz.prog gs0 35 [rowA r] (rowA r):=by
 cases r with
 |nil=>
  refine p_ tt_ok Tryz.func35 8 fun w0 h0 F hgs=>?_
  refine y_ ?_
  refine A.eqNil rfl rfl rfl rfl rfl rfl rfl rfl fun b hb=>?_
  cases b
  ·refine y_ ?_
   refine A.lit0 rfl rfl rfl rfl rfl rfl rfl fun bl=>?_;refine y_ ?_;refine A.appendNewW rfl rfl rfl rfl rfl rfl rfl rfl rfl rfl rfl rfl rfl (by show (List.map AI32 _).length*1≤_;rw [List.length_map];omega) (by show (List.map AI32 _).length*1*4≤_;rw [List.length_map];omega) (fun x hx=>by injection hx with hx;subst hx;rfl) (row_one _) fun z=>?_;refine y_ ?_
   refine A.freezeRowS 2 z (y':=rowA []) rfl fz_ ?_
   exact r_
  ·refine y_ ?_
   refine R_ ?_;exact .nil
 |cons x r=>
  refine p_ tt_ok Tryz.func35 8 fun w0 h0 F hgs=>?_
  refine y_ ?_
  refine A.eqNil rfl rfl rfl rfl rfl rfl rfl rfl fun b hb=>?_
  cases b
  case true=>cases hb rfl
  refine y_ ?_
  refine A.lit0 rfl rfl rfl rfl rfl rfl rfl fun bl=>?_;refine y_ ?_;refine A.appendNewW rfl rfl rfl rfl rfl rfl rfl rfl rfl rfl rfl rfl rfl (by show (List.map AI32 _).length*1≤_;rw [List.length_map];omega) (by show (List.map AI32 _).length*1*4≤_;rw [List.length_map];omega) (fun x hx=>by injection hx with hx;subst hx;rfl) (row_one _) fun z=>?_;refine y_ ?_
  refine A.freezeRowS 2 z (y':=rowA (x::r)) rfl fz_ ?_
  exact r_
theorem put_none(st:List (List Int)):putM st (-1) 0 0=st:=by
 unfold putM
 rw [if_neg (by unfold atM;simp)]
theorem move_p{V:List KV}{C:List Int}(s:ST)(kind ec ev:Int)(st:List (List Int))(root:PR)(inn:List Int)(hst:Small st)(hr:okF (Loc V C) true false root)(hi:inn.length≤1073741824):
 Pure Tryz.prog gs0 45 [rnA s,AU8 kind, .ag [AI ec,AI32 ev],rowsA st,cellsR root,rowA inn] (encMV (moveM s kind ec ev st root inn)):=by
 obtain ⟨_,h1,h2⟩:=okF_sm hr
 have hn:=norm_p root h1 h2
 have hc:=copied_p (normR root) (norm_sm h1)
 have hp:=hst.put_p (-1) 0 0
 rw [put_none] at hp
 have hcl:=cloned_p inn (by omega)
 refine p_ tt_ok Tryz.func45 31 fun w0 h0 F hgs=>?_
 (refine b_ fun bx=>?_;refine b_ fun bx=>?_;refine b_ fun bx=>?_;refine y_ ?_)
 refine d_ 14 [0,2,5,7,8,9,10,11,13,1,3,4,6,12] [(1,rowsA st),(3,cellsR (normR root)),(4,cellsR (normR root)),(6,rowA inn)] ?_
 refine WA.alloc rfl rfl rfl rfl rfl rfl rfl rfl fun b13=>?_
 refine cw_ hp ?_
 refine cw_ hn ?_
 refine cw_ hc ?_
 refine cw_ hcl ?_
 refine WA.nil (l:=[.box b13 _]) rfl ?_
 refine y_ ?_;refine A.retC (Λ':=[]) rfl rfl rfl rfl rfl (List.nil_sublist _) ⟨?_,rfl⟩;exact .refl
theorem fitb8{v:Int}(hv:i32 v):(v==IntKind.i32.wrap (IntKind.u8.wrap v))=(decide (0≤v)&&decide (v≤255)):=by
 unfold i32 at hv
 have h8:IntKind.u8.wrap v=v % 256:=by
  unfold IntKind.wrap;rfl
 rw [h8,w32_eq,Bool.eq_iff_iff]
 simp only [beq_iff_eq,Bool.and_eq_true,decide_eq_true_eq]
 omega
theorem fitb1{v:Int}(hv:i32 v):(bitsOf BinOp.or IntKind.i32 v 1==1)=(v==0||v==1):=by
 unfold i32 at hv
 rw [Bool.eq_iff_iff]
 simp only [beq_iff_eq,Bool.or_eq_true]
 show IntKind.i32.wrap ((BitVec.ofInt 32 v|||BitVec.ofInt 32 1).toNat:Int)=1↔_
 have h1:(BitVec.ofInt 32 1).toNat=1:=by decide
 have h2:((BitVec.ofInt 32 v).toNat:Int)=v % 4294967296:=by
  rw [BitVec.toNat_ofInt]
  have:(0:Int)≤v % 4294967296:=by omega
  show (((v % ((2^32:Nat):Int)).toNat:Nat):Int)=_
  rw [show ((2^32:Nat):Int)=4294967296 by decide,Int.toNat_of_nonneg this]
 have h3:(BitVec.ofInt 32 v|||BitVec.ofInt 32 1).toNat=(BitVec.ofInt 32 v).toNat|||1:=by rw [BitVec.toNat_or,h1]
 have h4:=(BitVec.ofInt 32 v|||BitVec.ofInt 32 1).isLt
 have h5:(BitVec.ofInt 32 v).toNat≤(BitVec.ofInt 32 v).toNat|||1:=Nat.left_le_or
 rw [h3] at h4⊢
 constructor
 ·intro h
  rw [w32_eq] at h
  have h6:(BitVec.ofInt 32 v).toNat|||1=1:=by omega
  rw [h6] at h5
  omega
 ·rintro (h|h)<;>subst h<;>decide
theorem fitsq_p(t v:Int)(hv:i32 v):Pure Tryz.prog gs0 47 [AU8 t,AI32 v] (AB (fitsB t v)):=by
 refine p_ tt_ok Tryz.func47 20 fun w0 h0 F hgs=>?_
 refine y_ ?_
 refine k_ (fun hc=>?_) fun hc=>?_
 ·refine y_ ?_;refine R_ ?_;refine Sb.eq ?_;simp at hc;subst hc;rw [fitb8 hv];rfl
 ·refine y_ ?_
  refine k_ (fun hd=>?_) fun hd=>?_
  ·refine y_ ?_;refine R_ ?_;refine Sb.eq ?_;simp at hc hd;subst hd;rw [fitb1 hv];rfl
  ·refine y_ ?_;refine R_ ?_;refine Sb.eq ?_;simp at hc hd;simp [fitsB,hc,hd]
abbrev sumW(l:List (PR×List Nat)):Nat:=(l.map fun cp=>wtR cp.1).sum
theorem sumW_app(a b:List (PR×List Nat)):sumW (a++b)=sumW a+sumW b:=by unfold sumW;rw [List.map_append,List.sum_append]
theorem compL_wt{path:List Nat}: ∀{l:List PR} {j:Nat},(∀x,x∈l→ ∀pre,sumW (compR pre x)≤wtR x)→sumW (compL path j l)≤wtL l
 | [],_,_=>Nat.le_refl _
 |x::r,j,h=>by
  rw [compL,sumW_app,wtL]
  have h1:=h x (.head _) (path++[j])
  have h2:=compL_wt (path:=path) (l:=r) (j:=j+1) fun y hy=>h y (.tail _ hy)
  omega
theorem comp_wt_n: ∀(m:Nat) (p:PR) (path:List Nat),SizeOf.sizeOf p≤m→sumW (compR path p)≤wtR p
 |0,p,_,h=>by
  obtain ⟨k,c,v,i,to,e,gs,l⟩:=p
  simp only [PR.mk.sizeOf_spec] at h;omega
 |m+1,p,path,hm=>by
  rw [compR_eq,wtR_eq]
  split
  ·match hl:p.l with
   | []=>rw [compS];exact Nat.zero_le _
   | [x]=>
     have hx:x∈p.l:=by rw [hl];exact .head _
     have h1:=comp_wt_n m x path (by have:=pr_lt hx;omega)
     rw [compS,wtS_1];omega
   |x::y::r=>
    have hx:x∈p.l:=by rw [hl];exact .head _
    have h1:=comp_wt_n m x path (by have:=pr_lt hx;omega)
    rw [compS,wtS_2];omega
  ·split
   ·have h1:=compL_wt (path:=path) (l:=p.l) (j:=0) fun x hx pre=>comp_wt_n m x pre (by have:=pr_lt hx;omega)
    omega
   ·rename_i k9 kb
    have hl:Leaf p:=⟨k9,kb⟩
    have:=hl.wt
    show ([(p,path)].map fun cp=>wtR cp.1).sum≤_
    rw [←this];simp
theorem comp_wt(p:PR)(path:List Nat):sumW (compR path p)≤wtR p:=comp_wt_n _ p path (Nat.le_refl _)
structure InActs(k:KN)(s:ST)(x:ACT×List Nat)(c:PR):Prop where
 cm:(c,x.2)∈compR [] s.root
 ac:x.1∈doesM s c
 at':atR s.root x.2=some c
 leaf:Leaf c
 loc:Loc k.vars k.chans c
 ok:ActOk k.vars k.chans c x.1
theorem GoodK.st{k:KN}{s:ST}(h:GoodK k s):StOk k.vars s.store:=⟨h.store,h.ws⟩
theorem comp_leaf{k:KN}{s:ST}(hg:GoodK k s){c:PR}{path:List Nat}(hc:(c,path)∈compR [] s.root):Leaf c∧Loc k.vars k.chans c:=by
 have ha:=comp_at hc
 obtain ⟨h1,h2,h3⟩:=at_kind ha
 exact ⟨⟨h1,by omega⟩,comp_loc hg.root (c,path) hc⟩
theorem acts_in{k:KN}{s:ST}(hg:GoodK k s){x:ACT×List Nat}(hx:x∈actsM s): ∃c,InActs k s x c:=by
 unfold actsM at hx
 rw [List.mem_flatMap] at hx
 obtain ⟨⟨c,path⟩,hc,hx⟩:=hx
 rw [List.mem_map] at hx
 obtain ⟨a,ha,rfl⟩:=hx
 obtain ⟨h1,h2⟩:=comp_leaf hg hc
 exact ⟨c,hc,ha,comp_at hc,h1,h2,does_ok hg.st hg.time h1 h2 a ha⟩
theorem flat_le{α β:Type}(f:α→List β)(w:α→Nat): ∀l:List α,(∀a,a∈l→(f a).length≤w a)→(l.flatMap f).length≤(l.map w).sum
 | [],_=>Nat.le_refl _
 |a::r,h=>by
  rw [List.flatMap_cons,List.length_append,List.map_cons,List.sum_cons]
  have:=h a (.head _)
  have:=flat_le f w r fun b hb=>h b (.tail _ hb)
  omega
theorem acts_len{k:KN}{s:ST}(hg:GoodK k s):(actsM s).length≤wtR s.root:=by
 have h1:=flat_le (fun cp:PR×List Nat=>(doesM s cp.1).map fun a=>(a,cp.2)) (fun cp=>wtR cp.1) (compR [] s.root) fun cp hcp=>by
  obtain ⟨h1,h2⟩:=comp_leaf hg (c:=cp.1) (path:=cp.2) hcp
  rw [List.length_map]
  exact does_wt h1 h2
 have h2:=comp_wt s.root []
 exact Nat.le_trans h1 h2
theorem comps_len{k:KN}{s:ST}(hg:GoodK k s):(compR [] s.root).length≤wtR s.root:=by
 have h1:=flat_le (fun cp:PR×List Nat=>[cp]) (fun cp=>wtR cp.1) (compR [] s.root) fun cp hcp=>by
  obtain ⟨h1,h2⟩:=comp_leaf hg (c:=cp.1) (path:=cp.2) hcp
  have:=h1.wt
  show 1≤wtR cp.1
  omega
 have h2:=comp_wt s.root []
 rw [List.flatMap_singleton'] at h1
 exact Nat.le_trans h1 h2
structure RootOk(k:KN)(s:ST)(r:PR):Prop where
 ok:okF (Loc k.vars k.chans) true false r
 wt:wtR r≤wtR s.root
 dw:dwR r≤dwR s.root
theorem root_one{k:KN}{s:ST}(hg:GoodK k s){x:ACT×List Nat}{c:PR}(h:InActs k s x c):RootOk k s (repR x.1.next s.root x.2):=
 ⟨rep_ok loc_lax h.ok.ok h.at' hg.root,rep_wt h.ok.wt h.ok.dw h.at',rep_dw h.ok.wt h.ok.dw h.at'⟩
theorem path_ne{k:KN}{s:ST}{x y:ACT×List Nat}{c d:PR}(h:InActs k s x c)(h':InActs k s y d)(hx:x.1.kind=111)(hy:y.1.kind=105):x.2≠y.2:=fun e=>by
 have h1:=h.at'
 rw [e,h'.at'] at h1
 injection h1 with h1
 have h2:=(h.ok.out hx).1
 have h3:=(h'.ok.inp hy).1
 rw [h1] at h3
 omega
theorem at_two{k:KN}{s:ST}{x y:ACT×List Nat}{c d:PR}(h:InActs k s x c)(h':InActs k s y d)(hne:x.2≠y.2):atR (repR x.1.next s.root x.2) y.2=some d:=rep_at h.at' h'.at' hne
theorem root_two{k:KN}{s:ST}(hg:GoodK k s){x y:ACT×List Nat}{c d:PR}(h:InActs k s x c)(h':InActs k s y d)(hne:x.2≠y.2):RootOk k s (repR y.1.next (repR x.1.next s.root x.2) y.2):=by
 have h1:=root_one hg h
 have h2:=at_two h h' hne
 refine ⟨rep_ok loc_lax h'.ok.ok h2 h1.ok,Nat.le_trans (rep_wt h'.ok.wt h'.ok.dw h2) h1.wt,Nat.le_trans (rep_dw h'.ok.wt h'.ok.dw h2) h1.dw⟩
theorem good_move{k:KN}{s:ST}(hg:GoodK k s){st:List (List Int)}(hst:StOk k.vars st){r:PR}(hr:RootOk k s r){inn:List Int}(hi: ∀x,x∈inn→i32 x)(hil:inn.length≤1073741824):GoodK k ⟨st,normR r,inn,s.time⟩:=
 ⟨hg.may,hg.wf,hst.may,hst.ws,norm_ok loc_lax hr.ok,Nat.le_trans (norm_wt r) (Nat.le_trans hr.wt hg.wt),Nat.le_trans (norm_dw r) (Nat.le_trans hr.dw hg.dw),norm_nf r,hi,hil,hg.time⟩
abbrev NextK(k:KN)(s:ST)(m:MV):Prop:=GoodK k m.next∧wtR m.next.root≤wtR s.root
theorem next_move{k:KN}{s:ST}(hg:GoodK k s){st:List (List Int)}(hst:StOk k.vars st){r:PR}(hr:RootOk k s r){inn:List Int}(hi: ∀x,x∈inn→i32 x)(hil:inn.length≤1073741824)(kind ec ev:Int):NextK k s (moveM s kind ec ev st r inn):=
 ⟨good_move hg hst hr hi hil,Nat.le_trans (norm_wt r) hr.wt⟩
theorem put_in{k:KN}{s:ST}(hg:GoodK k s){x:ACT×List Nat}{c:PR}(h:InActs k s x c)(hk:x.1.kind=105){v:Int}(hv:i32 v)(hf:fitsB x.1.item v=true):StOk k.vars (putM s.store x.1.v x.1.i v):=
 hg.st.put hv fun y hy=>by rw [(h.ok.inp hk).2.1 y hy];exact hf
theorem head_in{s:ST}(hi: ∀x,x∈s.inn→i32 x)(h:0<s.inn.length):i32 (s.inn.headD 0):=by
 cases hs:s.inn with
 |nil=>rw [hs] at h;simp at h
 |cons y r=>exact hi y (by rw [hs];exact .head _)
theorem comm_good{k:KN}{s:ST}(hg:GoodK k s){x:ACT×List Nat}(hx:x∈actsM s)(h1:x.1.kind=111){y:ACT×List Nat}(hy:y∈actsM s): ∀m,m∈commM s x y→NextK k s m:=fun m hm=>by
 obtain ⟨c,hc⟩:=acts_in hg hx
 obtain ⟨d,hd⟩:=acts_in hg hy
 unfold commM at hm
 split at hm
 ·rename_i h
  rw [List.mem_singleton.1 hm]
  exact next_move hg (put_in hg hd h.1 (hc.ok.out h1).2 h.2.2) (root_two hg hc hd (path_ne hc hd h1 h.1)) hg.inn hg.innl 2 x.1.c x.1.value
 ·cases hm
theorem step_good{k:KN}{s:ST}(hg:GoodK k s){x:ACT×List Nat}(hx:x∈actsM s): ∀m,m∈stepA s (actsM s) x→NextK k s m:=fun m hm=>by
 obtain ⟨c,hc⟩:=acts_in hg hx
 unfold stepA at hm
 split at hm
 ·rename_i h
  rw [List.mem_singleton.1 hm]
  exact next_move hg (hc.ok.tau h) (root_one hg hc) hg.inn hg.innl 1 0 0
 ·split at hm
  ·rename_i h
   rw [List.mem_singleton.1 hm]
   refine next_move hg (put_in hg hc h.1 (head_in hg.inn h.2.2) ?_) (root_one hg hc) (fun z hz=>hg.inn z (List.mem_of_mem_tail hz)) (by have:=hg.innl;rw [List.length_tail];omega) 2 0 (s.inn.headD 0)
   rw [(hc.ok.inp h.1).2.2 h.2.1];rfl
  ·split at hm
   ·rw [List.mem_singleton.1 hm]
    exact next_move hg hg.st (root_one hg hc) hg.inn hg.innl 2 1 x.1.value
   ·split at hm
    ·rename_i h
     rw [List.mem_flatMap] at hm
     obtain ⟨y,hy,hm⟩:=hm
     exact comm_good hg hx h hy m hm
    ·cases hm
theorem tick_good{k:KN}{s:ST}(hg:GoodK k s):NextK k s (tickM s):=⟨⟨hg.may,hg.wf,hg.store,hg.ws,hg.root,hg.wt,hg.dw,hg.nf,hg.inn,hg.innl,w32_in _⟩,Nat.le_refl _⟩
theorem moves_good{k:KN}{s:ST}(hg:GoodK k s): ∀m,m∈movesM s→NextK k s m:=fun m hm=>by
 unfold movesM at hm
 rw [List.mem_append] at hm
 rcases hm with hm|hm
 ·rw [List.mem_flatMap] at hm
  obtain ⟨x,hx,hm⟩:=hm
  exact step_good hg hx m hm
 ·rw [List.mem_singleton.1 hm];exact tick_good hg
theorem flat_bound{α β:Type}(f:α→List β)(n:Nat): ∀l:List α,(∀a,a∈l→(f a).length≤n)→(l.flatMap f).length≤n*l.length
 | [],_=>Nat.le_refl _
 |a::r,h=>by
  rw [List.flatMap_cons,List.length_append,List.length_cons,Nat.mul_succ]
  have:=h a (.head _)
  have:=flat_bound f n r fun b hb=>h b (.tail _ hb)
  omega
theorem comm_len(s:ST)(a b:ACT×List Nat):(commM s a b).length≤1:=by unfold commM;split<;>simp
theorem step_len(s:ST)(l:List (ACT×List Nat))(a:ACT×List Nat):(stepA s l a).length≤1+l.length:=by
 unfold stepA
 split
 ·simp
 ·split
  ·simp
  ·split
   ·simp
   ·split
    ·have:=flat_len (commM s a) (comm_len s a) l
     omega
    ·simp
theorem eqLB_iff{α:Type}{p:α→α→Bool}: ∀{a b:List α},(∀x,x∈a→ ∀y,p x y=true↔x=y)→(eqLB p a b=true↔a=b)
 | [],[],_=>by simp [eqLB]
 | [],_::_,_=>by simp [eqLB]
 |_::_,[],_=>by simp [eqLB]
 |x::r,y::s,h=>by
  rw [eqLB,Bool.and_eq_true,h x (.head _) y,eqLB_iff (a:=r) (b:=s) fun z hz=>h z (.tail _ hz),List.cons.injEq]
theorem eqK_iff_n: ∀(m:Nat) (a:KE),SizeOf.sizeOf a≤m→ ∀b,(eqK a b=true↔a=b)
 |0,e,h=>by
  obtain ⟨k,o,t,n,v,l⟩:=e
  simp only [KE.mk.sizeOf_spec] at h;omega
 |m+1,a,h=>fun b=>by
  obtain ⟨k,o,t,n,v,l⟩:=a
  obtain ⟨k',o',t',n',v',l'⟩:=b
  have hl: ∀x,x∈l→ ∀y,(eqK x y=true↔x=y):=fun x hx=>eqK_iff_n m x (by
   have:=List.sizeOf_lt_of_mem hx
   simp only [KE.mk.sizeOf_spec] at h;omega)
  rw [eqK,eqKl_eq]
  simp only [Bool.and_eq_true,beq_iff_eq,eqLB_iff hl,KE.mk.injEq]
theorem eqK_iff{a b:KE}:eqK a b=true↔a=b:=eqK_iff_n _ a (Nat.le_refl _) b
theorem eqP_iff{a b:PL}:eqP a b=true↔a=b:=by
 obtain ⟨v,ix⟩:=a
 obtain ⟨v',ix'⟩:=b
 unfold eqP
 rw [eqKl_eq,Bool.and_eq_true,beq_iff_eq,eqLB_iff fun x _ y=>eqK_iff,PL.mk.injEq]
theorem eqR_iff_n: ∀(m:Nat) (a:PR),SizeOf.sizeOf a≤m→ ∀b,(eqR a b=true↔a=b)
 |0,p,h=>by
  obtain ⟨k,c,v,i,to,e,gs,l⟩:=p
  simp only [PR.mk.sizeOf_spec] at h;omega
 |m+1,a,h=>fun b=>by
  have hl: ∀x,x∈a.l→ ∀y,(eqR x y=true↔x=y):=fun x hx=>eqR_iff_n m x (by have:=pr_lt hx;omega)
  have hg: ∀g,g∈a.gs→ ∀g',(eqG g g'=true↔g=g'):=fun g hg g'=>by
   have hb: ∀x,x∈g.body→ ∀y,(eqR x y=true↔x=y):=fun x hx=>eqR_iff_n m x (by have:=gg_lt hg;have:=bd_lt hx;omega)
   rw [eqG_eq,eqRl_eq]
   obtain ⟨k,e,c,i,to,t,bd⟩:=g
   obtain ⟨k',e',c',i',to',t',bd'⟩:=g'
   simp only [Bool.and_eq_true,beq_iff_eq,eqLB_iff hb,eqK_iff,eqP_iff,GD.mk.injEq]
   constructor
   ·rintro ⟨h1,h2,h3,h4,h5,h6,h7⟩;exact ⟨h1,h4,h2,h3,h6,h5,h7⟩
   ·rintro ⟨h1,h4,h2,h3,h6,h5,h7⟩;exact ⟨h1,h2,h3,h4,h5,h6,h7⟩
  rw [eqR_eq,eqRl_eq,eqGl_eq,eqKl_eq]
  obtain ⟨k,c,v,i,to,e,gs,l⟩:=a
  obtain ⟨k',c',v',i',to',e',gs',l'⟩:=b
  simp only [Bool.and_eq_true,beq_iff_eq,eqLB_iff hl,eqLB_iff hg,eqLB_iff (p:=eqK) fun x _ y=>eqK_iff,eqLB_iff (p:=eqP) fun x _ y=>eqP_iff,PR.mk.injEq]
theorem eqR_iff{a b:PR}:eqR a b=true↔a=b:=eqR_iff_n _ a (Nat.le_refl _) b
def startS(k:KN)(inn:List Int):ST:=⟨storeS k.vars,normR k.root,inn,0⟩
theorem may_sounds{k:KN}(h:mayK k=true):soundsB k.vars=true:=KOk.sounds (C:=k.chans) (may_kok h)
theorem storeS_eq{k:KN}(h:mayK k=true):storeS k.vars=storeM k.vars:=by unfold storeS;rw [if_pos (may_sounds h)]
theorem store_ok{V:List KV}(h:soundsB V=true):StOk V (storeM V):=⟨may_store h,fun r hr x hx=>by
 unfold storeM at hr
 rw [List.mem_map] at hr
 obtain ⟨v,_,rfl⟩:=hr
 rw [List.eq_of_mem_replicate hx];unfold i32;omega⟩
theorem start_root{k:KN}(h:mayK k=true)(hw:WfN k)(hs:smR k.root):okF (Loc k.vars k.chans) true false k.root:=by
 obtain ⟨h1,h2,h3⟩:=may_fits h
 exact ok_kernel h1 (by omega) hw.root hs
theorem start_good{k:KN}(h:mayK k=true)(hw:WfN k)(hs:smR k.root){inn:List Int}(hi: ∀x,x∈inn→i32 x)(hl:inn.length≤1073741824):GoodK k (startS k inn):=by
 have hf:=may_fits h
 obtain ⟨f1,f2,f3⟩:=hf
 have hst:=store_ok (may_sounds h)
 have hwt:=wt_le k.root
 have hdw:=dw_le k.root
 have hm:(htR k.root+2)*szR k.root≤34*2048:=Nat.mul_le_mul (by omega) (by omega)
 have e:=storeS_eq h
 refine ⟨h,hw,?_,?_,norm_ok loc_lax (start_root h hw hs),Nat.le_trans (norm_wt _) (by omega),Nat.le_trans (norm_dw _) (by omega),norm_nf _,hi,hl,by show i32 0;unfold i32;omega⟩
 ·show mayB k.vars (storeS k.vars)=true;rw [e];exact hst.may
 ·show wfS (storeS k.vars);rw [e];exact hst.ws
theorem start_wt{k:KN}(h:mayK k=true)(hz:szR k.root≤100)(inn:List Int):wtR (startS k inn).root≤8000:=by
 obtain ⟨f1,f2,f3⟩:=may_fits h
 have hwt:=wt_le k.root
 have hm:(htR k.root+2)*szR k.root≤34*100:=Nat.mul_le_mul (by omega) hz
 exact Nat.le_trans (norm_wt _) (by omega)
structure StepK(s:ST)(m:MV):Prop where
 kind:(m.kind=1∧m.ec=0∧m.ev=0)∨m.kind=2
 time:m.next.time=s.time
theorem step_kind{s:ST}{l:List (ACT×List Nat)}{x:ACT×List Nat}: ∀m,m∈stepA s l x→StepK s m:=fun m hm=>by
 unfold stepA at hm
 split at hm
 ·rw [List.mem_singleton.1 hm];exact ⟨.inl ⟨rfl,rfl,rfl⟩,rfl⟩
 ·split at hm
  ·rw [List.mem_singleton.1 hm];exact ⟨.inr rfl,rfl⟩
  ·split at hm
   ·rw [List.mem_singleton.1 hm];exact ⟨.inr rfl,rfl⟩
   ·split at hm
    ·rw [List.mem_flatMap] at hm
     obtain ⟨y,hy,hm⟩:=hm
     unfold commM at hm
     split at hm
     ·rw [List.mem_singleton.1 hm];exact ⟨.inr rfl,rfl⟩
     ·cases hm
    ·cases hm
abbrev realM(s:ST):List MV:=(actsM s).flatMap (stepA s (actsM s))
theorem moves_eq(s:ST):movesM s=realM s++[tickM s]:=rfl
theorem real_kind{s:ST}: ∀m,m∈realM s→StepK s m:=fun m hm=>by
 rw [List.mem_flatMap] at hm
 obtain ⟨x,_,hm⟩:=hm
 exact step_kind m hm
theorem moves_pos(s:ST):(movesM s).length=(realM s).length+1:=by rw [moves_eq,List.length_append];rfl
theorem moves_tick(s:ST):(movesM s)[(realM s).length]? =some (tickM s):=by
 rw [moves_eq,List.getElem?_append_right (Nat.le_refl _),Nat.sub_self];rfl
theorem moves_real{s:ST}{i:Nat}(h:i<(realM s).length){m:MV}(hm:(movesM s)[i]? =some m):m∈realM s:=by
 rw [moves_eq,List.getElem?_append_left h] at hm
 exact List.mem_of_getElem? hm
theorem comp_leafs{p:PR}(h9:p.kind≠9)(hb: ¬(p.kind=10∨p.kind=11))(path:List Nat):compR path p=[(p,path)]:=by rw [compR_eq,if_neg h9,if_neg hb]
theorem acts_leaf{s:ST}(h9:s.root.kind≠9)(hb: ¬(s.root.kind=10∨s.root.kind=11)):actsM s=(doesM s s.root).map fun a=>(a,[]):=by
 unfold actsM
 rw [comp_leafs h9 hb,List.flatMap_cons,List.flatMap_nil,List.append_nil]
theorem does_skip(s:ST):doesM s skipR=[]:=by
 unfold doesM
 rw [if_neg (by decide),if_neg (by decide),if_neg (by decide),if_neg (by decide),if_neg (by decide),if_neg (by decide),if_neg (by decide),if_neg (by decide)]
theorem does_stop(s:ST):doesM s stopR=[]:=by
 unfold doesM
 rw [if_neg (by decide),if_neg (by decide),if_neg (by decide),if_neg (by decide),if_neg (by decide),if_neg (by decide),if_neg (by decide),if_neg (by decide)]
theorem moves_done{s:ST}(h:doneR s.root=true):movesM s=[tickM s]:=by
 have h:=(done_iff _).1 h
 have ha:actsM s=[]:=by
  rw [acts_leaf (by rw [h];decide) (by rw [h];decide),h,does_skip];rfl
 rw [moves_eq]
 unfold realM
 rw [ha];rfl
theorem does_chan{k:KN}{s:ST}{c:PR}(h:Loc k.vars k.chans c): ∀a,a∈doesM s c→a.kind=111→a.c≠0:=fun a ha hk=>by
 have tau: ∀st q,a∈tauM st q→False:=fun st q h=>by
  rw [List.mem_singleton.1 h] at hk
  exact absurd (show (116:Int)=111 from hk) (by decide)
 have inp: ∀ch it to q,a∈inputM s ch it to q→False:=fun ch it to q h=>by
  unfold inputM at h
  split at h
  ·exact tau _ _ h
  ·rw [List.mem_singleton.1 h] at hk
   exact absurd (show (105:Int)=111 from hk) (by decide)
 have cho: ∀l,a∈chooseM s l→False:=fun l=>by
  induction l with
  |nil=>intro h;exact tau _ _ h
  |cons g r ih=>
   intro h
   rw [chooseM] at h
   split at h
   ·exact tau _ _ h
   ·split at h
    ·exact tau _ _ h
    ·exact ih h
 unfold doesM at ha
 split at ha
 ·exact (tau _ _ ha).elim
 split at ha
 ·unfold assignM at ha
  split at ha
  ·exact (tau _ _ ha).elim
  ·split at ha<;>exact (tau _ _ ha).elim
 split at ha
 ·unfold timeM at ha
  split at ha
  ·cases ha
  ·split at ha<;>exact (tau _ _ ha).elim
 split at ha
 ·exact (cho _ ha).elim
 split at ha
 ·unfold enteredM at ha
  split at ha<;>exact (tau _ _ ha).elim
 split at ha
 ·rw [List.mem_flatMap] at ha
  obtain ⟨g,_,ha⟩:=ha
  unfold waitG at ha
  split at ha
  ·cases ha
  ·split at ha
   ·exact (inp _ _ _ _ ha).elim
   ·split at ha
    ·exact (tau _ _ ha).elim
    ·cases ha
 split at ha
 ·unfold inM at ha
  split at ha
  ·cases ha
  ·exact (inp _ _ _ _ ha).elim
 split at ha
 ·unfold valuedM at ha
  split at ha
  ·cases ha
  ·split at ha
   ·exact (tau _ _ ha).elim
   ·split at ha
    ·rename_i h6
     rw [List.mem_singleton.1 ha]
     show c.c≠0
     have hkd:=h.kind
     have e16:(asAlt c).kind=6:=by show (if c.kind=16 then 14 else c.kind)=6;rw [h6];rfl
     unfold kindB at hkd
     rw [e16] at hkd
     simp only [chanB,Bool.and_eq_true,decide_eq_true_eq,bne_iff_ne] at hkd
     simp at hkd
     exact hkd.1.2.1.1.2
    ·split at ha
     ·exact (tau _ _ ha).elim
     ·split at ha
      ·exact (tau _ _ ha).elim
      ·cases ha
 ·cases ha
inductive HostK(s:ST)(m:MV):Prop
 |quiet (hk:m.kind≠2) (hi:m.next.inn=s.inn)
 |heard (hk:m.kind=2) (hc:m.ec=0) (hi:s.inn=m.ev::m.next.inn) (v i:Int) (hs:m.next.store=putM s.store v i m.ev)
 |told (hk:m.kind=2) (hc:m.ec=1) (hi:m.next.inn=s.inn) (hs:m.next.store=s.store)
 |inside (hk:m.kind=2) (h0:m.ec≠0) (h1:m.ec≠1) (hi:m.next.inn=s.inn) (v i:Int) (hs:m.next.store=putM s.store v i m.ev)
theorem host_step{k:KN}{s:ST}(hg:GoodK k s){x:ACT×List Nat}(hx:x∈actsM s): ∀m,m∈stepA s (actsM s) x→HostK s m:=fun m hm=>by
 obtain ⟨c,hc⟩:=acts_in hg hx
 unfold stepA at hm
 split at hm
 ·rw [List.mem_singleton.1 hm];exact .quiet (show¬(1:Int)=2 from by decide) rfl
 ·split at hm
  ·rename_i h
   rw [List.mem_singleton.1 hm]
   refine .heard rfl rfl ?_ _ _ rfl
   show s.inn=s.inn.headD 0::s.inn.tail
   have h2:=h.2.2
   cases hs:s.inn with
   |nil=>rw [hs] at h2;simp at h2
   |cons y r=>rfl
  ·split at hm
   ·rw [List.mem_singleton.1 hm];exact .told rfl rfl rfl rfl
   ·rename_i n1
    split at hm
    ·rename_i h
     rw [List.mem_flatMap] at hm
     obtain ⟨y,hy,hm⟩:=hm
     unfold commM at hm
     split at hm
     ·rw [List.mem_singleton.1 hm]
      exact .inside rfl (does_chan hc.loc x.1 hc.ac h) (fun h1=>n1 ⟨h,h1⟩) rfl _ _ rfl
     ·cases hm
    ·cases hm
theorem host_move{k:KN}{s:ST}(hg:GoodK k s): ∀m,m∈movesM s→HostK s m:=fun m hm=>by
 rw [moves_eq,List.mem_append] at hm
 rcases hm with hm|hm
 ·rw [List.mem_flatMap] at hm
  obtain ⟨x,hx,hm⟩:=hm
  exact host_step hg hx m hm
 ·rw [List.mem_singleton.1 hm];exact .quiet (show¬(3:Int)=2 from by decide) rfl
end Go.Proofs.YthdgpbgjmbkleaaGreat
