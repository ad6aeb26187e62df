/-
  Texts P18h P18i P18j Q18y T18a T18b T18c T18d T18e T18g T18o. Conditions: as each theorem says.
-/
import Derived.Test.YthdgpbgjmbkleaaGreatU3
import Derived.Test.YthdgpbgjmbkleaaGreatU6
set_option linter.unusedVariables false
set_option linter.unusedSimpArgs false
set_option maxRecDepth 100000
set_option maxHeartbeats 4000000
namespace Go.Proofs.YthdgpbgjmbkleaaGreat
open Go Go.Tp
abbrev revP(p:PR):PR:=⟨p.kind,p.c,p.v,p.item,p.to,p.e,p.gs,p.l.reverse⟩
abbrev revS(s:ST):ST:=⟨s.store,revP s.root,s.inn,s.time⟩
theorem wtL_app: ∀a b:List PR,wtL (a++b)=wtL a+wtL b
 | [],b=>by rw [List.nil_append,wtL,Nat.zero_add]
 |x::r,b=>by rw [List.cons_append,wtL,wtL,wtL_app r b];omega
theorem dwL_app: ∀a b:List PR,dwL (a++b)=max (dwL a) (dwL b)
 | [],b=>by rw [List.nil_append,dwL];omega
 |x::r,b=>by rw [List.cons_append,dwL,dwL,dwL_app r b];omega
theorem wtL_rev: ∀l:List PR,wtL l.reverse=wtL l
 | []=>rfl
 |x::r=>by rw [List.reverse_cons,wtL_app,wtL_rev r,wtL,wtL,wtL];omega
theorem dwL_rev: ∀l:List PR,dwL l.reverse=dwL l
 | []=>rfl
 |x::r=>by rw [List.reverse_cons,dwL_app,dwL_rev r,dwL,dwL,dwL];omega
theorem okFl_of{I:PR→Prop}{n h:Bool}: ∀{l:List PR},(∀x,x∈l→okF I n h x)→okFl I n n h h l
 | [],_=>okFl_0
 |x::r,w=>okFl_1.2 ⟨w x (.head _),okFl_of fun y hy=>w y (.tail _ hy)⟩
theorem norm_rev{p:PR}(hk:p.kind=10):normR (revP p)=if (p.l.map normR).all doneR=true then skipR else revP (normR p):=by
 have hb:bothB p=true:=by simp [bothB,hk]
 have hb':bothB (revP p)=true:=hb
 rw [normR_par hb',normR_par hb]
 show (if ((p.l.reverse).map normR).all doneR=true then skipR else PR.mk p.kind p.c p.v p.item p.to p.e p.gs ((p.l.reverse).map normR))=_
 rw [List.map_reverse,List.all_reverse]
 split
 ·rfl
 ·rfl
theorem norm_par_no{p:PR}(hk:p.kind=10)(h: ¬(p.l.map normR).all doneR=true):normR p=⟨p.kind,p.c,p.v,p.item,p.to,p.e,p.gs,p.l.map normR⟩:=by
 rw [normR_par (by simp [bothB,hk]),if_neg h]
theorem norm_par_yes{p:PR}(hk:p.kind=10)(h:(p.l.map normR).all doneR=true):normR p=skipR:=by
 rw [normR_par (by simp [bothB,hk]),if_pos h]
theorem rev_good{k:KN}{s:ST}(hg:GoodK k s)(hk:s.root.kind=10):GoodK k (revS s):=by
 have hr:=hg.root
 have hwt:=hg.wt
 have hdw:=hg.dw
 rw [okF_eq] at hr
 obtain ⟨⟨r1,r2,r3⟩,r4,r5⟩:=hr
 rw [wtR_eq,if_neg (by omega),if_pos (.inl hk)] at hwt
 rw [dwR_eq,if_neg (by omega),if_pos (.inl hk)] at hdw
 refine ⟨hg.may,hg.wf,hg.store,hg.ws,?_,?_,?_,?_,hg.inn,hg.innl,hg.time⟩
 ·rw [okF_eq]
  refine ⟨⟨loc_lax.par s.root _ (by rw [List.length_reverse]) r1,r2,r3⟩,?_,r5⟩
  have e1:(true&&(s.root.kind==9||s.root.kind==10||s.root.kind==11))=true:=by rw [hk];rfl
  have e2:(true&&(s.root.kind==10||s.root.kind==11))=true:=by rw [hk];rfl
  have e3:(false||s.root.kind==11)=false:=by rw [hk];rfl
  rw [e1,e2,e3] at r4
  show okFl _ (true&&(s.root.kind==9||s.root.kind==10||s.root.kind==11)) (true&&(s.root.kind==10||s.root.kind==11)) (false||s.root.kind==11) false s.root.l.reverse
  rw [e1,e2,e3]
  exact okFl_of fun x hx=>okFl_mem r4 x (List.mem_reverse.1 hx)
 ·show wtR (revP s.root)≤_
  rw [wtR_eq]
  show (if s.root.kind=9 then _ else if s.root.kind=10∨s.root.kind=11 then 2+szGs s.root.gs+wtL s.root.l.reverse else _)≤_
  rw [if_neg (by omega),if_pos (.inl hk),wtL_rev];exact hwt
 ·show dwR (revP s.root)≤_
  rw [dwR_eq]
  show (if s.root.kind=9 then _ else if s.root.kind=10∨s.root.kind=11 then 1+max (max 1 (htGs s.root.gs)) (dwL s.root.l.reverse) else _)≤_
  rw [if_neg (by omega),if_pos (.inl hk),dwL_rev];exact hdw
 ·show normR (revP s.root)=revP s.root
  have hnf:=hg.nf
  rw [norm_rev hk]
  split
  ·rename_i h
   rw [norm_par_yes hk h] at hnf
   rw [←hnf] at hk
   exact absurd hk (by decide)
  ·rw [hnf]
theorem rev_wt{s:ST}(hk:s.root.kind=10):wtR (revS s).root=wtR s.root:=by
 show wtR (revP s.root)=_
 rw [wtR_eq,wtR_eq s.root]
 show (if s.root.kind=9 then _ else if s.root.kind=10∨s.root.kind=11 then 2+szGs s.root.gs+wtL s.root.l.reverse else _)=_
 rw [if_neg (by omega),if_pos (.inl hk),if_neg (by omega),if_pos (.inl hk),wtL_rev]
theorem compL_pre{pre path:List Nat}: ∀{l:List PR} {j:Nat},(∀x,x∈l→ ∀q,compR (pre++q) x=(compR q x).map fun cp=>(cp.1,pre++cp.2))→compL (pre++path) j l=(compL path j l).map fun cp=>(cp.1,pre++cp.2)
 | [],_,_=>by rw [compL,compL];rfl
 |x::r,j,h=>by
  rw [compL,compL,List.map_append,List.append_assoc,h x (.head _),compL_pre fun y hy=>h y (.tail _ hy)]
theorem compR_pre_n: ∀(m:Nat) (p:PR) (pre q:List Nat),SizeOf.sizeOf p≤m→compR (pre++q) p=(compR q p).map fun cp=>(cp.1,pre++cp.2)
 |0,p,_,_,h=>by
  obtain ⟨k,c,v,i,to,e,gs,l⟩:=p
  simp only [PR.mk.sizeOf_spec] at h;omega
 |m+1,p,pre,q,h=>by
  have hL: ∀x,x∈p.l→ ∀q,compR (pre++q) x=(compR q x).map fun cp=>(cp.1,pre++cp.2):=fun x hx q=>compR_pre_n m x pre q (by have:=pr_lt hx;omega)
  rw [compR_eq,compR_eq q]
  split
  ·match hl:p.l with
   | []=>rw [compS,compS];rfl
   |x::r=>rw [compS,compS];exact hL x (by rw [hl];exact .head _) q
  ·split
   ·exact compL_pre hL
   ·rfl
theorem compR_pre(p:PR)(pre:List Nat):compR pre p=(compR [] p).map fun cp=>(cp.1,pre++cp.2):=by
 have:=compR_pre_n _ p pre [] (Nat.le_refl _)
 rw [List.append_nil] at this;exact this
def compF(f:Nat→Nat):Nat→List PR→List (PR×List Nat)
 |_,[]=>[]
 |j,x::r=>compR [f j] x++compF f (j+1) r
theorem compF_id: ∀(l:List PR) (j:Nat),compL [] j l=compF (fun i=>i) j l
 | [],_=>by rw [compL,compF]
 |x::r,j=>by rw [compL,compF,compF_id r (j+1)];rfl
theorem compF_shift(f:Nat→Nat): ∀(l:List PR) (j:Nat),compF f (j+1) l=compF (fun i=>f (i+1)) j l
 | [],_=>by rw [compF,compF]
 |x::r,j=>by rw [compF,compF,compF_shift f r (j+1)]
theorem compF_cong{f g:Nat→Nat}: ∀(l:List PR) (j:Nat),(∀i,j≤i→i<j+l.length→f i=g i)→compF f j l=compF g j l
 | [],_,_=>by rw [compF,compF]
 |x::r,j,h=>by
  rw [compF,compF,h j (Nat.le_refl _) (by rw [List.length_cons];omega),compF_cong r (j+1) fun i h1 h2=>h i (by omega) (by rw [List.length_cons];omega)]
theorem compF_snoc(f:Nat→Nat)(x:PR): ∀(l:List PR) (j:Nat),compF f j (l++[x])=compF f j l++compR [f (j+l.length)] x
 | [],j=>by rw [List.nil_append,compF,compF,compF,List.append_nil];rfl
 |y::r,j=>by
  rw [List.cons_append,compF,compF,compF_snoc f x r (j+1),List.append_assoc,List.length_cons]
  rw [show j+1+r.length=j+(r.length+1) by omega]
theorem compF_rev: ∀(l:List PR) (f:Nat→Nat),(compF f 0 l.reverse).Perm (compF (fun i=>f (l.length-1-i)) 0 l)
 | [],f=>by rw [List.reverse_nil,compF,compF]
 |x::r,f=>by
  rw [List.reverse_cons,compF_snoc,compF,compF_shift,Nat.zero_add,List.length_reverse,List.length_cons]
  have h:=compF_rev r f
  have e:compF (fun i=>f (r.length+1-1-(i+1))) 0 r=compF (fun i=>f (r.length-1-i)) 0 r:=compF_cong r 0 fun i h1 h2=>by
   show f _=f _
   congr 1;omega
  rw [e]
  show (_++compR [f r.length] x).Perm (compR [f (r.length+1-1-0)] x++_)
  rw [show r.length+1-1-0=r.length by omega]
  exact (List.Perm.append_right _ h).trans List.perm_append_comm
def flP(n:Nat):List Nat→List Nat
 | []=>[]
 |j::r=>(n-1-j)::r
theorem compF_fl(n:Nat): ∀(l:List PR) (j:Nat),compF (fun i=>n-1-i) j l=(compF (fun i=>i) j l).map fun cp=>(cp.1,flP n cp.2)
 | [],_=>by rw [compF,compF];rfl
 |x::r,j=>by
  rw [compF,compF,List.map_append,compF_fl n r (j+1),compR_pre x [n-1-j],compR_pre x [j],List.map_map]
  rfl
theorem comp_rev{p:PR}(hk:p.kind=10):(compR [] (revP p)).Perm ((compR [] p).map fun cp=>(cp.1,flP p.l.length cp.2)):=by
 rw [compR_eq,compR_eq [] p]
 show List.Perm (if p.kind=9 then _ else if p.kind=10∨p.kind=11 then compL [] 0 p.l.reverse else _) _
 rw [if_neg (by omega),if_pos (.inl hk),if_neg (by omega),if_pos (.inl hk),compF_id,compF_id,←compF_fl]
 exact compF_rev p.l _
theorem choose_rev(s t:ST)(h:t.store=s.store): ∀l,chooseM t l=chooseM s l
 | []=>by rw [chooseM,chooseM,h]
 |g::r=>by rw [chooseM,chooseM,h,choose_rev s t h r]
theorem does_rev(s:ST)(c:PR):doesM (revS s) c=doesM s c:=by
 unfold doesM
 rw [choose_rev s (revS s) rfl]
 rfl
abbrev flA(n:Nat)(a:ACT×List Nat):ACT×List Nat:=(a.1,flP n a.2)
theorem acts_rev{s:ST}(hk:s.root.kind=10):(actsM (revS s)).Perm ((actsM s).map (flA s.root.l.length)):=by
 unfold actsM
 have h1:=(comp_rev hk).flatMap_right fun cp=>(doesM (revS s) cp.1).map fun a=>(a,cp.2)
 refine h1.trans (.of_eq ?_)
 rw [List.map_flatMap,List.flatMap_map]
 congr 1
 funext cp
 rw [does_rev,List.map_map];rfl
theorem set_rev{α:Type}{l:List α}{j:Nat}{a:α}(hj:j<l.length):(l.set j a).reverse=l.reverse.set (l.length-1-j) a:=by
 refine List.ext_getElem (by simp) fun n h1 h2=>?_
 rw [List.getElem_reverse,List.getElem_set,List.getElem_set,List.getElem_reverse]
 simp only [List.length_set,List.length_reverse] at h1 h2⊢
 by_cases e:l.length-1-j=n
 ·rw [if_pos (by omega),if_pos e]
 ·rw [if_neg (by omega),if_neg e]
theorem rep_rev{q p c:PR}{path:List Nat}(hk:p.kind=10)(ha:atR p path=some c):repR q (revP p) (flP p.l.length path)=revP (repR q p path):=by
 rw [atR_eq,if_neg (by omega),if_pos (.inl hk)] at ha
 match path,ha with
 |j::rest,ha=>
  obtain ⟨x,hx,_⟩:=atL_get ha
  have hj:=at_lt hx
  have hx':p.l.reverse[p.l.length-1-j]? =some x:=by
   rw [List.getElem?_reverse (by omega),show p.l.length-1-(p.l.length-1-j)=j by omega];exact hx
  rw [repR_eq,repR_eq q p]
  show (if p.kind=9 then _ else if p.kind=10∨p.kind=11 then PR.mk p.kind p.c p.v p.item p.to p.e p.gs (repL q p.l.reverse (p.l.length-1-j) rest) else _)=revP (if p.kind=9 then _ else if p.kind=10∨p.kind=11 then PR.mk p.kind p.c p.v p.item p.to p.e p.gs (repL q p.l j rest) else _)
  rw [if_neg (by omega),if_pos (.inl hk),if_neg (by omega),if_pos (.inl hk),repL_set q hx',repL_set q hx]
  show _=PR.mk _ _ _ _ _ _ _ (List.reverse _)
  rw [set_rev hj]
theorem rep_kind{q p c:PR}{path:List Nat}(hk:p.kind=10)(ha:atR p path=some c):(repR q p path).kind=10∧(repR q p path).l.length=p.l.length:=by
 rw [repR_eq,if_neg (by omega),if_pos (.inl hk)]
 refine ⟨hk,?_⟩
 show (match path with| []=>p.l|j::rest=>repL q p.l j rest).length=_
 split
 ·rfl
 ·rw [repL_len]
def turnP(n:Nat)(p:PR):PR:=if p.kind=10∧p.l.length=n then revP p else p
abbrev turnST(n:Nat)(s:ST):ST:=⟨s.store,turnP n s.root,s.inn,s.time⟩
abbrev turnMV(n:Nat)(m:MV):MV:=⟨m.kind,m.ec,m.ev,turnST n m.next⟩
theorem turn_norm{p:PR}{n:Nat}(hk:p.kind=10)(hn:p.l.length=n):normR (revP p)=turnP n (normR p):=by
 rw [norm_rev hk]
 split
 ·rename_i h
  rw [norm_par_yes hk h]
  unfold turnP
  rw [if_neg (by intro h;exact absurd h.1 (by decide))]
 ·rename_i h
  rw [norm_par_no hk h]
  unfold turnP
  rw [if_pos ⟨hk,by show (List.map _ _).length=_;rw [List.length_map];exact hn⟩]
theorem move_rev(s:ST)(kind ec ev:Int)(st:List (List Int)){r:PR}(hk:r.kind=10){n:Nat}(hn:r.l.length=n)(inn:List Int):moveM (revS s) kind ec ev st (revP r) inn=turnMV n (moveM s kind ec ev st r inn):=by
 unfold moveM
 rw [turn_norm hk hn]
theorem comm_rev{k:KN}{s:ST}(hg:GoodK k s)(hk:s.root.kind=10){x y:ACT×List Nat}(hx:x∈actsM s)(hxk:x.1.kind=111)(hy:y∈actsM s):commM (revS s) (flA s.root.l.length x) (flA s.root.l.length y)=(commM s x y).map (turnMV s.root.l.length):=by
 obtain ⟨c,hc⟩:=acts_in hg hx
 obtain ⟨d,hd⟩:=acts_in hg hy
 unfold commM
 by_cases h:y.1.kind=105∧y.1.c=x.1.c∧fitsB y.1.item x.1.value=true
 ·rw [if_pos h,if_pos h]
  have h1:=rep_rev (q:=x.1.next) hk hc.at'
  have k1:=rep_kind (q:=x.1.next) hk hc.at'
  have a2:=at_two hc hd (path_ne hc hd hxk h.1)
  have h2:=rep_rev (q:=y.1.next) k1.1 a2
  have k2:=rep_kind (q:=y.1.next) k1.1 a2
  rw [k1.2] at h2
  show [moveM (revS s) 2 x.1.c x.1.value (putM s.store y.1.v y.1.i x.1.value) (repR y.1.next (repR x.1.next (revP s.root) (flP s.root.l.length x.2)) (flP s.root.l.length y.2)) s.inn]=_
  rw [h1,h2,move_rev s _ _ _ _ k2.1 (k2.2.trans k1.2)]
  rfl
 ·rw [if_neg h,if_neg h];rfl
theorem step_rev{k:KN}{s:ST}(hg:GoodK k s)(hk:s.root.kind=10){x:ACT×List Nat}(hx:x∈actsM s):(stepA (revS s) (actsM (revS s)) (flA s.root.l.length x)).Perm ((stepA s (actsM s) x).map (turnMV s.root.l.length)):=by
 obtain ⟨c,hc⟩:=acts_in hg hx
 have h1:=rep_rev (q:=x.1.next) hk hc.at'
 have k1:=rep_kind (q:=x.1.next) hk hc.at'
 unfold stepA
 by_cases e1:x.1.kind=116
 ·rw [if_pos e1,if_pos e1]
  refine .of_eq ?_
  show [moveM (revS s) 1 0 0 x.1.store (repR x.1.next (revP s.root) (flP s.root.l.length x.2)) s.inn]=_
  rw [h1,move_rev s _ _ _ _ k1.1 k1.2];rfl
 rw [if_neg e1,if_neg e1]
 by_cases e2:x.1.kind=105∧x.1.c=0∧0<s.inn.length
 ·rw [if_pos e2,if_pos e2]
  refine .of_eq ?_
  show [moveM (revS s) 2 0 (s.inn.headD 0) (putM s.store x.1.v x.1.i (s.inn.headD 0)) (repR x.1.next (revP s.root) (flP s.root.l.length x.2)) s.inn.tail]=_
  rw [h1,move_rev s _ _ _ _ k1.1 k1.2];rfl
 rw [if_neg e2,if_neg e2]
 by_cases e3:x.1.kind=111∧x.1.c=1
 ·rw [if_pos e3,if_pos e3]
  refine .of_eq ?_
  show [moveM (revS s) 2 1 x.1.value s.store (repR x.1.next (revP s.root) (flP s.root.l.length x.2)) s.inn]=_
  rw [h1,move_rev s _ _ _ _ k1.1 k1.2];rfl
 rw [if_neg e3,if_neg e3]
 by_cases e4:x.1.kind=111
 ·rw [if_pos e4,if_pos e4]
  refine ((acts_rev hk).flatMap_right (commM (revS s) (flA s.root.l.length x))).trans (.of_eq ?_)
  rw [List.map_flatMap,List.flatMap_map]
  have: ∀l:List (ACT×List Nat),(∀y,y∈l→y∈actsM s)→l.flatMap (fun y=>commM (revS s) (flA s.root.l.length x) (flA s.root.l.length y))=l.flatMap fun y=>(commM s x y).map (turnMV s.root.l.length):=fun l=>by
   induction l with
   |nil=>intro _;rfl
   |cons y r ih=>
    intro h
    rw [List.flatMap_cons,List.flatMap_cons,ih fun z hz=>h z (.tail _ hz),comm_rev hg hk hx e4 (h y (.head _))]
  exact this _ fun y hy=>hy
 ·rw [if_neg e4,if_neg e4];exact .refl _
theorem perm_flat{α β:Type}{f g:α→List β}: ∀{l:List α},(∀x,x∈l→(f x).Perm (g x))→(l.flatMap f).Perm (l.flatMap g)
 | [],_=> .refl _
 |x::r,h=>by
  rw [List.flatMap_cons,List.flatMap_cons]
  exact (h x (.head _)).append (perm_flat fun y hy=>h y (.tail _ hy))
theorem moves_rev{k:KN}{s:ST}(hg:GoodK k s)(hk:s.root.kind=10):(movesM (revS s)).Perm ((movesM s).map (turnMV s.root.l.length)):=by
 rw [moves_eq,moves_eq,List.map_append]
 refine List.Perm.append ?_ (.of_eq ?_)
 ·refine ((acts_rev hk).flatMap_right (stepA (revS s) (actsM (revS s)))).trans ?_
  rw [List.map_flatMap,List.flatMap_map]
  exact perm_flat fun x hx=>step_rev hg hk hx
 ·show [MV.mk 3 0 0 ⟨s.store,revP s.root,s.inn,IntKind.i32.wrap (s.time+1)⟩]=[MV.mk 3 0 0 ⟨s.store,turnP s.root.l.length s.root,s.inn,IntKind.i32.wrap (s.time+1)⟩]
  unfold turnP
  rw [if_pos ⟨hk,rfl⟩]
def leftL{α:Type}:List α→List Bool→List α
 |x::r,b::s=>if b then leftL r s else x::leftL r s
 |_,_=>[]
theorem left_none{α:Type}: ∀(l:List α),leftL l (List.replicate l.length false)=l
 | []=>rfl
 |x::r=>by
  rw [List.length_cons,List.replicate_succ,leftL,left_none r];rfl
theorem left_take{α:Type}: ∀{l:List α} {u:List Bool} {j:Nat} {x:α},l[j]? =some x→u[j]? =some false→(leftL l u).Perm (x::leftL l (u.set j true))
 |y::r,b::s,0,x,h,hu=>by
  injection h with h;injection hu with hu
  subst h;subst hu
  rw [List.set_cons_zero,leftL,leftL];exact .refl _
 |y::r,b::s,j+1,x,h,hu=>by
  rw [List.set_cons_succ,leftL,leftL]
  have ih:=left_take (l:=r) (u:=s) (j:=j) (x:=x) (by simpa using h) (by simpa using hu)
  cases b with
  |true=>exact ih
  |false=>exact (ih.cons y).trans (.swap _ _ _)
 | [],_,_,_,h,_=>by cases h
 |_::_,[],_,_,_,hu=>by cases hu
theorem left_mem{α:Type}: ∀{l:List α} {u:List Bool} {x:α},x∈leftL l u→ ∃j:Nat,l[j]? =some x∧u[j]? =some false
 |y::r,b::s,x,h=>by
  rw [leftL] at h
  cases b with
  |true=>
   obtain ⟨j,h1,h2⟩:=left_mem (l:=r) (u:=s) h
   exact ⟨j+1,by simpa using h1,by simpa using h2⟩
  |false=>
   rcases List.mem_cons.1 h with rfl|h
   ·exact ⟨0,rfl,rfl⟩
   ·obtain ⟨j,h1,h2⟩:=left_mem (l:=r) (u:=s) h
    exact ⟨j+1,by simpa using h1,by simpa using h2⟩
 | [],_,x,h=>by cases h
 |_::_,[],x,h=>by cases h
structure WD where
 store:List (List Int)
 inn:List Int
 out:List Int
 steps:Nat
abbrev WD.st(w:WD):ST:=⟨w.store,skipR,w.inn,0⟩
def runL(f:WD→PR→Int×WD):WD→List PR→Int×WD
 |w,[]=>(0,w)
 |w,p::r=>if (f w p).1≠0 then f w p else runL f (f w p).2 r
def runG(f:WD→PR→Int×WD)(w:WD):List GD→Int×WD
 | []=>(1,w)
 |g::r=>match valueM w.store g.cond with
  |none=>(1,w)
  |some x=>if x=1 then f w (headR g.body) else runG f w r
def simpleIn(w:WD)(c:Int)(to:PL):Int×WD:=
 if c≠0∨w.inn.length=0 then (match placeM w.store to.v to.ix with
  |none=>(1,w)
  |some _=>(1,⟨w.store,w.inn,w.out,w.steps-1⟩))
 else match placeM w.store to.v to.ix with
  |none=>(1,w)
  |some (v,i)=>(0,⟨putM w.store v i (w.inn.headD 0),w.inn.tail,w.out,w.steps⟩)
def simpleOut(w:WD)(c:Int)(e:KE):Int×WD:=match valueM w.store e with
 |none=>(1,w)
 |some x=>if c≠1 then (1,⟨w.store,w.inn,w.out,w.steps-1⟩) else (0,⟨w.store,w.inn,w.out++[x],w.steps⟩)
def simpleTime(w:WD)(to:PL):Int×WD:=match placeM w.store to.v to.ix with
 |none=>(1,w)
 |some (v,i)=>(0,⟨putM w.store v i 0,w.inn,w.out,w.steps⟩)
def simpleAssign(w:WD)(p:PR):Int×WD:=match valsM w.store p.e with
 |none=>(1,w)
 |some xs=>match putsM w.store p.to xs w.store with
  |none=>(1,w)
  |some st=>(0,⟨st,w.inn,w.out,w.steps⟩)
def headP(l:List PL):PL:=match l with
 | []=>⟨0,[]⟩
 |x::_=>x
def headE(l:List KE):KE:=match l with
 | []=>⟨0,0,0,0,0,[]⟩
 |x::_=>x
def simpleM(w:WD)(p:PR):Int×WD:=
 if p.kind=3 then (0,⟨clearM w.store p.v (rowOf w.store p.v).length,w.inn,w.out,w.steps⟩)
 else if p.kind=4 then simpleAssign w p
 else if p.kind=7 then simpleTime w (headP p.to)
 else if p.kind=5 then simpleIn w p.c (headP p.to)
 else if p.kind=6 then simpleOut w p.c (headE p.e)
 else (0,w)
abbrev tickW(w:WD):WD:=⟨w.store,w.inn,w.out,w.steps+1⟩
def runM:Nat→WD→PR→Int×WD
 |0,w,_=>(2,w)
 |F+1,w,p=>
  if 150<w.steps then (2,w)
  else if p.kind=1 then (0,w)
  else if p.kind=2 then (1,w)
  else if p.kind=9 then runL (runM F) w p.l
  else if p.kind=12 then runG (runM F) (tickW w) p.gs
  else if p.kind=13 then (match valueM w.store (headE p.e) with
   |none=>(1,tickW w)
   |some x=>if x=0 then (0,tickW w) else if (runM F (tickW w) (headR p.l)).1≠0 then runM F (tickW w) (headR p.l) else runM F (runM F (tickW w) (headR p.l)).2 p)
  else simpleM (tickW w) p
def plainI(k:Int):Bool:= !(k==10||(k==11||(k==14||(k==15||k==8))))
mutual
def plainR:PR→Bool
 |⟨k,_,_,_,_,_,gs,l⟩=>plainI k&&plainRl l&&plainGl gs
def plainRl:List PR→Bool
 | []=>true
 |p::r=>plainR p&&plainRl r
def plainG:GD→Bool
 |⟨_,_,_,_,_,_,b⟩=>plainRl b
def plainGl:List GD→Bool
 | []=>true
 |g::r=>plainG g&&plainGl r
end
theorem plainR_eq(p:PR):plainR p=(plainI p.kind&&plainRl p.l&&plainGl p.gs):=by
 obtain ⟨k,c,v,i,to,e,gs,l⟩:=p
 rw [plainR]
theorem plainRl_mem: ∀{l:List PR},plainRl l=true→ ∀x,x∈l→plainR x=true
 | [],_,x,h=>by cases h
 |y::r,hw,x,h=>by
  rw [plainRl,Bool.and_eq_true] at hw
  rcases List.mem_cons.1 h with rfl|h
  ·exact hw.1
  ·exact plainRl_mem hw.2 x h
theorem plainGl_mem: ∀{l:List GD},plainGl l=true→ ∀g,g∈l→ ∀x,x∈g.body→plainR x=true
 | [],_,x,h,_,_=>by cases h
 |y::r,hw,g,h,x,hx=>by
  rw [plainGl,Bool.and_eq_true] at hw
  rcases List.mem_cons.1 h with rfl|h
  ·obtain ⟨k,e,c,i,to,t,b⟩:=g
   have h1:=hw.1
   rw [plainG] at h1
   exact plainRl_mem h1 x hx
  ·exact plainGl_mem hw.2 g h x hx
structure FR where
 c:Int
 v:Int
 i:Int
 to:List PL
 e:List KE
 gs:List GD
 rest:List PR
abbrev plug1(f:FR)(x:PR):PR:=⟨9,f.c,f.v,f.i,f.to,f.e,f.gs,x::f.rest⟩
def plug:List FR→PR→PR
 | [],x=>x
 |f::fs,x=>plug fs (plug1 f x)
theorem norm_plug1(f:FR){x y:PR}(h:normR x=normR y):normR (plug1 f x)=normR (plug1 f y):=by
 rw [normR_seq (p:=plug1 f x) rfl,normR_seq (p:=plug1 f y) rfl]
 show normSq _ (x::f.rest)=normSq _ (y::f.rest)
 cases f.rest with
 |nil=>rw [normSq_1,normSq_1,h]
 |cons z r=>rw [normSq_2,normSq_2,h]
theorem norm_plug: ∀(fs:List FR) {x y:PR},normR x=normR y→normR (plug fs x)=normR (plug fs y)
 | [],_,_,h=>h
 |f::fs,_,_,h=>norm_plug fs (norm_plug1 f h)
theorem plug_next(fs:List FR){c v i:Int}{to:List PL}{e:List KE}{gs:List GD}(rest:List PR):normR (plug fs ⟨9,c,v,i,to,e,gs,skipR::rest⟩)=normR (plug fs ⟨9,c,v,i,to,e,gs,rest⟩):=by
 refine norm_plug fs ?_
 rw [normR_seq (p:=⟨9,c,v,i,to,e,gs,skipR::rest⟩) rfl,normR_seq (p:=⟨9,c,v,i,to,e,gs,rest⟩) rfl]
 show normSq _ (skipR::rest)=normSq _ rest
 cases rest with
 |nil=>rw [normSq_1,normSq_0,skip_nf]
 |cons z r=>rw [normSq_2,skip_nf,if_pos ((done_iff _).2 rfl)]
theorem plug_none(fs:List FR){c v i:Int}{to:List PL}{e:List KE}{gs:List GD}:normR (plug fs ⟨9,c,v,i,to,e,gs,[]⟩)=normR (plug fs skipR):=by
 refine norm_plug fs ?_
 rw [normR_seq (p:=⟨9,c,v,i,to,e,gs,[]⟩) rfl,skip_nf]
 exact normSq_0 _
structure Sgl(x c:PR)(N:PR→PR):Prop where
 no:doneR x=false
 comp:compR [] x=[(c,[])]
 rep: ∀q,normR (repR q x [])=N q
theorem sgl_leaf{p:PR}(h9:p.kind≠9)(hb: ¬(p.kind=10∨p.kind=11))(hd:doneR p=false):Sgl (normR p) p normR:=by
 have e:normR p=p:=normR_else (by simpa [bothB] using hb) h9
 rw [e]
 refine ⟨hd,comp_leafs h9 hb [],fun q=>?_⟩
 rw [repR_eq,if_neg h9,if_neg hb]
theorem sgl_plug1(f:FR){y c:PR}{N:PR→PR}(h:Sgl (normR y) c fun q=>normR (N q)):Sgl (normR (plug1 f y)) c fun q=>normR (plug1 f (N q)):=by
 rw [normR_seq (p:=plug1 f y) rfl]
 show Sgl (normSq _ (y::f.rest)) c _
 cases hr:f.rest with
 |nil=>
  rw [normSq_1]
  refine ⟨h.no,h.comp,fun q=>?_⟩
  rw [h.rep,normR_seq (p:=plug1 f (N q)) rfl]
  show _=normSq _ (N q::f.rest)
  rw [hr,normSq_1]
 |cons z r=>
  rw [normSq_2,if_neg (by rw [h.no];decide)]
  refine ⟨?_,?_,fun q=>?_⟩
  ·cases hd:doneR (PR.mk (plug1 f y).kind (plug1 f y).c (plug1 f y).v (plug1 f y).item (plug1 f y).to (plug1 f y).e (plug1 f y).gs (normR y::z::r)) with
   |false=>rfl
   |true=>
    have h1:=(done_iff _).1 hd
    have h2:=congrArg PR.kind h1
    exact absurd h2 (by show¬(9:Int)=1;decide)
  ·rw [compR_eq]
   show (if (9:Int)=9 then compS [] (normR y::z::r) else _)=_
   rw [if_pos rfl,compS];exact h.comp
  ·rw [repR_eq]
   show normR (if (9:Int)=9 then PR.mk 9 f.c f.v f.i f.to f.e f.gs (repS q (normR y::z::r) []) else _)=_
   rw [if_pos rfl,repS,←hr]
   exact norm_plug1 f (h.rep q)
theorem sgl_plug: ∀(fs:List FR) {y c:PR} {N:PR→PR},(Sgl (normR y) c fun q=>normR (N q))→Sgl (normR (plug fs y)) c fun q=>normR (plug fs (N q))
 | [],_,_,_,h=>h
 |f::fs,_,_,_,h=>sgl_plug fs (sgl_plug1 f h)
theorem sgl{p:PR}(h9:p.kind≠9)(hb: ¬(p.kind=10∨p.kind=11))(hd:doneR p=false)(fs:List FR):Sgl (normR (plug fs p)) p fun q=>normR (plug fs q):=sgl_plug fs (sgl_leaf h9 hb hd)
abbrev toldO(m:MV):List Int:=if m.kind=2∧m.ec=1 then [m.ev] else []
inductive Goes:ST→Nat→List Int→ST→Prop
 |zero (s:ST):Goes s 0 [] s
 |step {s s':ST} {m:MV} {n:Nat} {o:List Int} (hm:movesM s=[m,tickM s]) (hk:m.kind≠3) (h:Goes m.next n o s'):Goes s (n+1) (toldO m++o) s'
theorem Goes.trans{s s' s'':ST}{n n':Nat}{o o':List Int}(h:Goes s n o s')(h':Goes s' n' o' s''):Goes s (n+n') (o++o') s'':=by
 induction h with
 |zero s=>rw [Nat.zero_add];exact h'
 |step hm hk h ih=>
  rw [show∀a b:Nat,a+1+b=(a+b)+1 from fun a b=>by omega,List.append_assoc]
  exact .step hm hk (ih h')
theorem Goes.good{k:KN}{s s':ST}{n:Nat}{o:List Int}(h:Goes s n o s')(hg:GoodK k s):GoodK k s'∧wtR s'.root≤wtR s.root:=by
 induction h with
 |zero s=>exact ⟨hg,Nat.le_refl _⟩
 |step hm hk h ih=>
  have h1:=moves_good hg _ (by rw [hm];exact .head _)
  have h2:=ih h1.1
  exact ⟨h2.1,Nat.le_trans h2.2 h1.2⟩
theorem Goes.one{s:ST}{m:MV}{s':ST}(hm:movesM s=[m,tickM s])(hk:m.kind=1)(hn:m.next=s'):Goes s 1 [] s':=by
 have h:=Goes.step hm (by rw [hk];decide) (.zero m.next)
 have e:toldO m=[]:=by unfold toldO;rw [if_neg (by rw [hk];intro h;exact absurd h.1 (by decide))]
 rw [e,hn] at h;exact h
abbrev stW(w:WD)(r:PR):ST:=⟨w.store,normR r,w.inn,0⟩
section
variable{w:WD}{p:PR}{fs:List FR}
theorem acts_one(hs:Sgl (normR (plug fs p)) p fun q=>normR (plug fs q)):actsM (stW w (plug fs p))=(doesM (stW w (plug fs p)) p).map fun a=>(a,[]):=by
 unfold actsM
 show (compR [] (normR (plug fs p))).flatMap _=_
 rw [hs.comp,List.flatMap_cons,List.flatMap_nil,List.append_nil]
theorem mv_tau(hs:Sgl (normR (plug fs p)) p fun q=>normR (plug fs q)){st:List (List Int)}{q:PR}(hd:doesM (stW w (plug fs p)) p=tauM st q):Goes (stW w (plug fs p)) 1 [] ⟨st,normR (plug fs q),w.inn,0⟩:=by
 have hm:movesM (stW w (plug fs p))=[moveM (stW w (plug fs p)) 1 0 0 st (repR q (normR (plug fs p)) []) w.inn,tickM (stW w (plug fs p))]:=by
  rw [moves_eq]
  unfold realM
  rw [acts_one hs,hd];rfl
 refine Goes.one hm rfl ?_
 show ST.mk _ (normR (repR q (normR (plug fs p)) [])) _ _=_
 rw [hs.rep]
theorem mv_none(hs:Sgl (normR (plug fs p)) p fun q=>normR (plug fs q))(hd:doesM (stW w (plug fs p)) p=[]):movesM (stW w (plug fs p))=[tickM (stW w (plug fs p))]:=by
 rw [moves_eq]
 unfold realM
 rw [acts_one hs,hd];rfl
theorem mv_in(hs:Sgl (normR (plug fs p)) p fun q=>normR (plug fs q)){v i item:Int}{x:Int}{r:List Int}(hi:w.inn=x::r)(hd:doesM (stW w (plug fs p)) p=[⟨105,[],0,v,i,item,0,skipR⟩]):Goes (stW w (plug fs p)) 1 [] ⟨putM w.store v i x,normR (plug fs skipR),r,0⟩:=by
 have hm:movesM (stW w (plug fs p))=[moveM (stW w (plug fs p)) 2 0 x (putM w.store v i x) (repR skipR (normR (plug fs p)) []) r,tickM (stW w (plug fs p))]:=by
  rw [moves_eq]
  unfold realM
  rw [acts_one hs,hd]
  show (stepA (stW w (plug fs p)) _ (⟨105,[],0,v,i,item,0,skipR⟩,[])++[])++_=_
  unfold stepA
  rw [if_neg (show¬(105:Int)=116 from by decide),if_pos ⟨rfl,rfl,by show 0<w.inn.length;rw [hi];simp⟩]
  show [moveM _ 2 0 (w.inn.headD 0) (putM w.store v i (w.inn.headD 0)) _ w.inn.tail]++[]++_=_
  rw [hi];rfl
 have h:=Goes.step hm (show¬(2:Int)=3 from by decide) (.zero _)
 have e:(moveM (stW w (plug fs p)) 2 0 x (putM w.store v i x) (repR skipR (normR (plug fs p)) []) r).next=⟨putM w.store v i x,normR (plug fs skipR),r,0⟩:=by
  show ST.mk _ (normR (repR skipR (normR (plug fs p)) [])) _ _=_
  rw [hs.rep]
 rw [e] at h;exact h
theorem mv_out(hs:Sgl (normR (plug fs p)) p fun q=>normR (plug fs q)){x:Int}(hd:doesM (stW w (plug fs p)) p=[⟨111,[],1,0,0,0,x,skipR⟩]):Goes (stW w (plug fs p)) 1 [x] ⟨w.store,normR (plug fs skipR),w.inn,0⟩:=by
 have hm:movesM (stW w (plug fs p))=[moveM (stW w (plug fs p)) 2 1 x w.store (repR skipR (normR (plug fs p)) []) w.inn,tickM (stW w (plug fs p))]:=by
  rw [moves_eq]
  unfold realM
  rw [acts_one hs,hd];rfl
 have h:=Goes.step hm (show¬(2:Int)=3 from by decide) (.zero _)
 have e:(moveM (stW w (plug fs p)) 2 1 x w.store (repR skipR (normR (plug fs p)) []) w.inn).next=⟨w.store,normR (plug fs skipR),w.inn,0⟩:=by
  show ST.mk _ (normR (repR skipR (normR (plug fs p)) [])) _ _=_
  rw [hs.rep]
 rw [e] at h;exact h
theorem mv_deaf(hs:Sgl (normR (plug fs p)) p fun q=>normR (plug fs q)){a:ACT}(ha:(a.kind=105∧(a.c≠0∨w.inn.length=0))∨(a.kind=111∧a.c≠1))(hd:doesM (stW w (plug fs p)) p=[a]):movesM (stW w (plug fs p))=[tickM (stW w (plug fs p))]:=by
 rw [moves_eq]
 unfold realM
 rw [acts_one hs,hd]
 show (stepA (stW w (plug fs p)) [(a,[])] (a,[])++[])++_=_
 have e:stepA (stW w (plug fs p)) [(a,[])] (a,[])=[]:=by
  unfold stepA
  rcases ha with ⟨h1,h2⟩|⟨h1,h2⟩
  ·rw [if_neg (by show¬a.kind=116;omega),if_neg,if_neg (by show¬(a.kind=111∧_);omega),if_neg (by show¬a.kind=111;omega)]
   show¬(a.kind=105∧a.c=0∧0<w.inn.length)
   omega
  ·rw [if_neg (by show¬a.kind=116;omega),if_neg (by show¬(a.kind=105∧_);omega),if_neg (by show¬(a.kind=111∧a.c=1);omega),if_pos (show a.kind=111 from h1),List.flatMap_cons,List.flatMap_nil,List.append_nil]
   unfold commM
   rw [if_neg (by show¬(a.kind=105∧_);omega)]
 rw [e];rfl
end
def Ran(fs:List FR)(w:WD)(p:PR)(r:Int×WD):Prop:=
 (r.1=0∧ ∃n o,r.2.steps=w.steps+n∧r.2.out=w.out++o∧Goes (stW w (plug fs p)) n o (stW r.2 (plug fs skipR)))
 ∨(r.1=1∧ ∃n o s',r.2.steps=w.steps+n∧r.2.out=w.out++o∧Goes (stW w (plug fs p)) n o s'∧movesM s'=[tickM s']∧doneR s'.root=false∧s'.store=r.2.store∧s'.inn=r.2.inn)
 ∨r.1=2
theorem Ran.cong{fs fs':List FR}{w:WD}{p p':PR}{r:Int×WD}(h1:normR (plug fs p)=normR (plug fs' p'))(h2:normR (plug fs skipR)=normR (plug fs' skipR))(h:Ran fs w p r):Ran fs' w p' r:=by
 unfold Ran at h⊢
 have e1:stW w (plug fs p)=stW w (plug fs' p'):=by show ST.mk _ _ _ _=ST.mk _ _ _ _;rw [h1]
 have e2:stW r.2 (plug fs skipR)=stW r.2 (plug fs' skipR):=by show ST.mk _ _ _ _=ST.mk _ _ _ _;rw [h2]
 rw [e1,e2] at h;exact h
theorem Ran.after{fs:List FR}{w w1:WD}{p q:PR}{r:Int×WD}{n:Nat}{o:List Int}(h0:Goes (stW w (plug fs p)) n o (stW w1 (plug fs q)))(hs:w1.steps=w.steps+n)(ho:w1.out=w.out++o)(h:Ran fs w1 q r):Ran fs w p r:=by
 rcases h with ⟨h1,n',o',h2,h3,h4⟩|⟨h1,n',o',s',h2,h3,h4,h5⟩|h
 ·exact .inl ⟨h1,n+n',o++o',by omega,by rw [h3,ho,List.append_assoc],h0.trans h4⟩
 ·exact .inr (.inl ⟨h1,n+n',o++o',s',by omega,by rw [h3,ho,List.append_assoc],h0.trans h4,h5⟩)
 ·exact .inr (.inr h)
theorem Ran.stop{fs:List FR}(w:WD):Ran fs w stopR (1,w):=by
 have hs:=sgl (p:=stopR) (by decide) (by decide) (by
  cases h:doneR stopR with
  |false=>rfl
  |true=>exact absurd (congrArg PR.kind ((done_iff _).1 h)) (by decide)) fs
 exact .inr (.inl ⟨rfl,0,[],_,rfl,by rw [List.append_nil], .zero _,mv_none hs (does_stop _),hs.no,rfl,rfl⟩)
theorem Ran.skip{fs:List FR}(w:WD):Ran fs w skipR (0,w):= .inl ⟨rfl,0,[],rfl,by rw [List.append_nil], .zero _⟩
theorem okL_in{V:List KV}{n:Nat}{high:Bool}: ∀{ps:List PR} {first:Bool},okL V n high first ps=true→ ∀x,x∈ps→ ∃h,okR V n h x=true
 | [],_,_,x,hx=>by cases hx
 |y::r,f,h,x,hx=>by
  rw [okL,Bool.and_eq_true] at h
  rcases List.mem_cons.1 hx with rfl|hx
  ·exact ⟨_,h.1⟩
  ·exact okL_in h.2 x hx
theorem okGs_in{V:List KV}{n:Nat}{high:Bool}: ∀{gs:List GD},okGs V n high gs=true→ ∀g,g∈gs→ ∀x,x∈g.body→ ∃h,okR V n h x=true
 | [],_,g,hg,_,_=>by cases hg
 |y::r,h,g,hg,x,hx=>by
  rw [okGs,Bool.and_eq_true] at h
  rcases List.mem_cons.1 hg with rfl|hg
  ·rw [okG_eq] at h
   exact okL_in h.1 x hx
  ·exact okGs_in h.2 g hg x hx
structure PlO(V:List KV)(n:Nat)(p:PR):Prop where
 pl:plainR p=true
 ok: ∃h,okR V n h p=true
section
variable{V:List KV}{n:Nat}{p:PR}
theorem PlO.l(h:PlO V n p): ∀x,x∈p.l→PlO V n x:=fun x hx=>by
 obtain ⟨hi,ho⟩:=h.ok
 have hp:=h.pl
 rw [okR_eq,Bool.and_eq_true,Bool.and_eq_true] at ho
 rw [plainR_eq,Bool.and_eq_true,Bool.and_eq_true] at hp
 exact ⟨plainRl_mem hp.1.2 x hx,okL_in ho.1.2 x hx⟩
theorem PlO.g(h:PlO V n p): ∀g,g∈p.gs→ ∀x,x∈g.body→PlO V n x:=fun g hg x hx=>by
 obtain ⟨hi,ho⟩:=h.ok
 have hp:=h.pl
 rw [okR_eq,Bool.and_eq_true,Bool.and_eq_true] at ho
 rw [plainR_eq,Bool.and_eq_true,Bool.and_eq_true] at hp
 exact ⟨plainGl_mem hp.2 g hg x hx,okGs_in ho.2 g hg x hx⟩
theorem PlO.kind(h:PlO V n p):kindB V n p=true:=by
 obtain ⟨hi,ho⟩:=h.ok
 rw [okR_eq,Bool.and_eq_true,Bool.and_eq_true,Bool.and_eq_true] at ho
 exact ho.1.1.1
theorem PlO.kinds(h:PlO V n p):(1≤p.kind∧p.kind≤15)∧p.kind≠10∧p.kind≠11∧p.kind≠14∧p.kind≠15∧p.kind≠8:=by
 have hp:=h.pl
 rw [plainR_eq,Bool.and_eq_true,Bool.and_eq_true] at hp
 have h1:=hp.1.1
 simp only [plainI,Bool.not_eq_true',Bool.or_eq_false_iff,beq_eq_false_iff_ne] at h1
 have h2:=kind_bodies h.kind
 exact ⟨⟨h2.1,h2.2.1⟩,h1.1,h1.2.1,h1.2.2.1,h1.2.2.2.1,h1.2.2.2.2⟩
theorem PlO.skip(h:PlO V n p)(h1:p.kind=1):p=skipR:=by
 have hk:=h.kind
 unfold kindB at hk
 rw [if_pos (.inl h1)] at hk
 obtain ⟨k,c,v,i,to,e,gs,l⟩:=p
 simp only [shapeR,Bool.and_eq_true,Bool.or_eq_true,beq_iff_eq,Bool.false_eq_true,false_or] at hk
 obtain ⟨⟨⟨⟨⟨⟨a1,a2⟩,a3⟩,a4⟩,a5⟩,a6⟩,a7⟩:=hk
 have b1:to=[]:=List.length_eq_zero_iff.1 (inB_0 a4)
 have b2:e=[]:=List.length_eq_zero_iff.1 (inB_0 a5)
 have b3:gs=[]:=List.length_eq_zero_iff.1 (inB_0 a6)
 have b4:l=[]:=List.length_eq_zero_iff.1 (inB_0 a7)
 have h1:k=1:=h1
 have a1:c=0:=a1
 have a2:i=0:=a2
 have a3:v=0:=a3
 rw [h1,a1,a2,a3,b1,b2,b3,b4];rfl
end
theorem not_done{p:PR}(h:p.kind≠1):doneR p=false:=by
 cases hd:doneR p with
 |false=>rfl
 |true=>exact absurd (congrArg PR.kind ((done_iff _).1 hd)) h
section
variable{k:KN}{w:WD}{p q:PR}{fs:List FR}
theorem leaf_in(hg:GoodK k (stW w (plug fs p)))(hs:Sgl (normR (plug fs p)) p fun q=>normR (plug fs q)):Leaf p∧Loc k.vars k.chans p:=
 comp_leaf hg (path:=[]) (by show (p,[])∈compR [] (normR (plug fs p));rw [hs.comp];exact .head _)
theorem Ran.tau{st:List (List Int)}{r:Int×WD}(hs:Sgl (normR (plug fs p)) p fun q=>normR (plug fs q))(hd:doesM (stW w (plug fs p)) p=tauM st q)(h:Ran fs ⟨st,w.inn,w.out,w.steps+1⟩ q r):Ran fs w p r:=
 Ran.after (w1:=⟨st,w.inn,w.out,w.steps+1⟩) (mv_tau hs hd) rfl (List.append_nil _).symm h
theorem good_tau{st:List (List Int)}(hg:GoodK k (stW w (plug fs p)))(hs:Sgl (normR (plug fs p)) p fun q=>normR (plug fs q))(hd:doesM (stW w (plug fs p)) p=tauM st q):GoodK k (stW ⟨st,w.inn,w.out,w.steps+1⟩ (plug fs q)):=
 ((mv_tau hs hd).good hg).1
theorem Ran.fault(hs:Sgl (normR (plug fs p)) p fun q=>normR (plug fs q))(hd:doesM (stW w (plug fs p)) p=tauM w.store stopR):Ran fs w p (1,tickW w):=Ran.tau hs hd (Ran.stop _)
theorem Ran.deaf(hs:Sgl (normR (plug fs p)) p fun q=>normR (plug fs q)){a:ACT}(ha:(a.kind=105∧(a.c≠0∨w.inn.length=0))∨(a.kind=111∧a.c≠1))(hd:doesM (stW w (plug fs p)) p=[a]):Ran fs w p (1,⟨w.store,w.inn,w.out,w.steps+1-1⟩):=
 .inr (.inl ⟨rfl,0,[],_,by show w.steps+1-1=w.steps+0;omega,(List.append_nil _).symm, .zero _,mv_deaf hs ha hd,hs.no,rfl,rfl⟩)
end
theorem ran_list{k:KN}{f:WD→PR→Int×WD}(ih: ∀p w fs,PlO k.vars k.chans.length p→GoodK k (stW w (plug fs p))→Ran fs w p (f w p)){c v i:Int}{to:List PL}{e:List KE}{gs:List GD}(fs:List FR): ∀(l:List PR) (w:WD),(∀x,x∈l→PlO k.vars k.chans.length x)→GoodK k (stW w (plug fs ⟨9,c,v,i,to,e,gs,l⟩))→Ran fs w ⟨9,c,v,i,to,e,gs,l⟩ (runL f w l)
 | [],w,_,_=>by rw [runL];exact Ran.cong (plug_none fs).symm rfl (Ran.skip w)
 |x::rest,w,hl,hg=>by
  have h1:Ran (⟨c,v,i,to,e,gs,rest⟩::fs) w x (f w x):=ih x w _ (hl x (.head _)) hg
  rw [runL]
  by_cases hr:(f w x).1≠0
  ·rw [if_pos hr]
   rcases h1 with ⟨h1,_⟩|h1|h1
   ·exact absurd h1 hr
   ·exact .inr (.inl h1)
   ·exact .inr (.inr h1)
  ·rw [if_neg hr]
   have hr:(f w x).1=0:=by omega
   rcases h1 with ⟨_,n,o,h2,h3,h4⟩|⟨h1,_⟩|h1
   ·have e1:stW (f w x).2 (plug (⟨c,v,i,to,e,gs,rest⟩::fs) skipR)=stW (f w x).2 (plug fs ⟨9,c,v,i,to,e,gs,rest⟩):=by
     show ST.mk _ _ _ _=ST.mk _ _ _ _
     congr 1
     exact plug_next fs rest
    rw [e1] at h4
    exact Ran.after h4 h2 h3 (ran_list ih fs rest _ (fun y hy=>hl y (.tail _ hy)) (h4.good hg).1)
   ·rw [hr] at h1;exact absurd h1 (by decide)
   ·rw [hr] at h1;exact absurd h1 (by decide)
theorem ran_guards{k:KN}{f:WD→PR→Int×WD}(ih: ∀p w fs,PlO k.vars k.chans.length p→GoodK k (stW w (plug fs p))→Ran fs w p (f w p)){p:PR}{w:WD}{fs:List FR}(hg:GoodK k (stW w (plug fs p)))(hs:Sgl (normR (plug fs p)) p fun q=>normR (plug fs q)): ∀l:List GD,(∀g,g∈l→ ∃y,g.body=[y]∧PlO k.vars k.chans.length y)→doesM (stW w (plug fs p)) p=chooseM (stW w (plug fs p)) l→Ran fs w p (runG f (tickW w) l)
 | [],_,hd=>by rw [runG];exact Ran.fault hs hd
 |g::r,hl,hd=>by
  rw [chooseM] at hd
  rw [runG]
  cases hv:valueM w.store g.cond with
  |none=>
   have hv':valueM (stW w (plug fs p)).store g.cond=_:=hv
   rw [hv'] at hd
   exact Ran.fault hs hd
  |some x=>
   have hv':valueM (stW w (plug fs p)).store g.cond=_:=hv
   rw [hv'] at hd
   simp only at hd⊢
   by_cases h1:x=1
   ·rw [if_pos h1] at hd⊢
    obtain ⟨y,hy,hp⟩:=hl g (.head _)
    have e:headR g.body=y:=by rw [hy];rfl
    rw [e] at hd⊢
    exact Ran.tau hs hd (ih y _ fs hp (good_tau hg hs hd))
   ·rw [if_neg h1] at hd⊢
    exact ran_guards ih hg hs r (fun g' hg'=>hl g' (.tail _ hg')) hd
theorem ran(k:KN): ∀(F:Nat) (p:PR) (w:WD) (fs:List FR),PlO k.vars k.chans.length p→GoodK k (stW w (plug fs p))→Ran fs w p (runM F w p)
 |0,p,w,fs,_,_=> .inr (.inr rfl)
 |F+1,p,w,fs,hp,hg=>by
  have ih:=ran k F
  rw [runM]
  by_cases hst:150<w.steps
  ·rw [if_pos hst];exact .inr (.inr rfl)
  rw [if_neg hst]
  by_cases k1:p.kind=1
  ·rw [if_pos k1,hp.skip k1];exact Ran.skip w
  rw [if_neg k1]
  obtain ⟨kk,k10,k11,k14,k15,k8⟩:=hp.kinds
  by_cases k9:p.kind=9
  ·rw [if_neg (by omega),if_pos k9]
   have hl:=hp.l
   obtain ⟨kd,c,v,i,to,e,gs,l⟩:=p
   have k9:kd=9:=k9
   subst k9
   exact ran_list ih fs l w hl hg
  have hs:=sgl k9 (by omega) (not_done k1) fs
  obtain ⟨hleaf,hloc⟩:=leaf_in hg hs
  by_cases k2:p.kind=2
  ·rw [if_pos k2]
   have hd:doesM (stW w (plug fs p)) p=[]:=by
    unfold doesM
    rw [if_neg (by omega),if_neg (by omega),if_neg (by omega),if_neg (by omega),if_neg (by omega),if_neg (by omega),if_neg (by omega),if_neg (by omega)]
   exact .inr (.inl ⟨rfl,0,[],_,rfl,(List.append_nil _).symm, .zero _,mv_none hs hd,hs.no,rfl,rfl⟩)
  rw [if_neg k2,if_neg k9]
  by_cases k12:p.kind=12
  ·rw [if_pos k12]
   refine ran_guards ih hg hs p.gs (fun g hgm=>?_) ?_
   ·obtain ⟨y,hy⟩:=hloc.body g hgm
    exact ⟨y,hy,hp.g g hgm y (by rw [hy];exact .head _)⟩
   ·unfold doesM
    rw [if_neg (by omega),if_neg (by omega),if_neg (by omega),if_pos k12]
  rw [if_neg k12]
  by_cases k13:p.kind=13
  ·rw [if_pos k13]
   obtain ⟨e,b,h1,h2,h3⟩:=hloc.k13 k13
   have e1:headE p.e=e:=by rw [h1];rfl
   have e2:headR p.l=b:=by rw [h2];rfl
   have hd:doesM (stW w (plug fs p)) p=valuedM (stW w (plug fs p)) p:=by
    unfold doesM
    rw [if_neg (by omega),if_neg (by omega),if_neg (by omega),if_neg (by omega),if_neg (by omega),if_neg (by omega),if_neg (by omega),if_pos (by omega)]
   unfold valuedM at hd
   rw [h1] at hd
   simp only at hd
   try rw [show (stW w (plug fs p)).store=w.store from rfl] at hd
   rw [e1]
   cases hv:valueM w.store e with
   |none=>
    rw [hv] at hd
    exact Ran.fault hs hd
   |some x=>
    rw [hv] at hd
    simp only at hd⊢
    rw [if_neg (by omega)] at hd
    have hx:x=0∨x=1:=by
     have:=value_fits hg.st h3 hv
     simpa [kindOk] using this
    by_cases hx0:x=0
    ·rw [if_pos hx0]
     rw [if_neg (by omega),if_pos (.inl k13)] at hd
     exact Ran.tau hs hd (Ran.skip _)
    ·rw [if_neg hx0]
     rw [if_pos ⟨k13,by omega⟩] at hd
     refine Ran.tau hs hd ?_
     have hr:=ran_list (c:=0) (v:=0) (i:=0) (to:=[]) (e:=[]) (gs:=[]) ih fs [headR p.l,p] (tickW w) (fun y hy=>by
      rcases List.mem_cons.1 hy with rfl|hy
      ·rw [e2];exact hp.l b (by rw [h2];exact .head _)
      ·rw [List.mem_singleton.1 hy];exact hp) (good_tau hg hs hd)
     rw [runL] at hr
     by_cases h0:(runM F (tickW w) (headR p.l)).1≠0
     ·rw [if_pos h0] at hr⊢;exact hr
     ·rw [if_neg h0] at hr⊢
      rw [runL] at hr
      by_cases h4:(runM F (runM F (tickW w) (headR p.l)).2 p).1≠0
      ·rw [if_pos h4] at hr;exact hr
      ·rw [if_neg h4,runL] at hr
       have e3:(0,(runM F (runM F (tickW w) (headR p.l)).2 p).2)=runM F (runM F (tickW w) (headR p.l)).2 p:=Prod.ext (by simp only;omega) rfl
       rw [e3] at hr;exact hr
  rw [if_neg k13]
  unfold simpleM
  by_cases k3:p.kind=3
  ·rw [if_pos k3]
   have hd:doesM (stW w (plug fs p)) p=tauM (clearM w.store p.v (rowOf w.store p.v).length) skipR:=by unfold doesM;rw [if_pos k3]
   exact Ran.tau hs hd (Ran.skip _)
  rw [if_neg k3]
  by_cases k4:p.kind=4
  ·rw [if_pos k4]
   have hd:doesM (stW w (plug fs p)) p=assignM (stW w (plug fs p)) p:=by unfold doesM;rw [if_neg k3,if_pos k4]
   unfold assignM at hd
   unfold simpleAssign
   try rw [show (stW w (plug fs p)).store=w.store from rfl] at hd
   try rw [show (tickW w).store=w.store from rfl]
   cases hv:valsM w.store p.e with
   |none=>rw [hv] at hd;exact Ran.fault hs hd
   |some xs=>
    rw [hv] at hd
    simp only at hd⊢
    cases hq:putsM w.store p.to xs w.store with
    |none=>rw [hq] at hd;exact Ran.fault hs hd
    |some st=>rw [hq] at hd;exact Ran.tau hs hd (Ran.skip _)
  rw [if_neg k4]
  by_cases k7:p.kind=7
  ·rw [if_pos k7]
   obtain ⟨t,h1,_⟩:=hloc.k7 k7
   have hd:doesM (stW w (plug fs p)) p=timeM (stW w (plug fs p)) p:=by unfold doesM;rw [if_neg k3,if_neg k4,if_pos k7]
   unfold timeM at hd
   rw [h1] at hd⊢
   unfold simpleTime headP
   simp only at hd⊢
   try rw [show (stW w (plug fs p)).store=w.store from rfl] at hd
   try rw [show (tickW w).store=w.store from rfl]
   cases hq:placeM w.store t.v t.ix with
   |none=>rw [hq] at hd;exact Ran.fault hs hd
   |some vi=>
    rw [hq] at hd
    exact Ran.tau hs hd (Ran.skip _)
  rw [if_neg k7]
  by_cases k5:p.kind=5
  ·rw [if_pos k5]
   obtain ⟨t,h1,_⟩:=hloc.k5 k5
   have hd:doesM (stW w (plug fs p)) p=inM (stW w (plug fs p)) p:=by
    unfold doesM
    rw [if_neg (by omega),if_neg (by omega),if_neg (by omega),if_neg (by omega),if_neg (by omega),if_neg (by omega),if_pos k5]
   unfold inM at hd
   rw [h1] at hd⊢
   unfold simpleIn headP
   simp only at hd⊢
   unfold inputM at hd
   try rw [show (stW w (plug fs p)).store=w.store from rfl] at hd
   try rw [show (tickW w).store=w.store from rfl]
   try rw [show (tickW w).inn=w.inn from rfl]
   cases hq:placeM w.store t.v t.ix with
   |none=>
    rw [hq] at hd
    simp only [ite_self]
    exact Ran.fault hs hd
   |some vi=>
    obtain ⟨v,i⟩:=vi
    rw [hq] at hd
    simp only at hd⊢
    by_cases hc:p.c≠0∨w.inn.length=0
    ·rw [if_pos hc]
     exact Ran.deaf hs (.inl ⟨rfl,hc⟩) hd
    ·rw [if_neg hc]
     have hc0:p.c=0:=by omega
     rw [hc0] at hd
     cases hi:w.inn with
     |nil=>exact absurd (.inr (by rw [hi];rfl)) hc
     |cons x r=>
      have hgo:=mv_in hs hi hd
      exact Ran.after (w1:=⟨putM w.store v i x,r,w.out,w.steps+1⟩) hgo rfl (List.append_nil _).symm (Ran.skip _)
  rw [if_neg k5]
  by_cases k6:p.kind=6
  ·rw [if_pos k6]
   obtain ⟨e,h1,_⟩:=hloc.k6 k6
   have hd:doesM (stW w (plug fs p)) p=valuedM (stW w (plug fs p)) p:=by
    unfold doesM
    rw [if_neg (by omega),if_neg (by omega),if_neg (by omega),if_neg (by omega),if_neg (by omega),if_neg (by omega),if_neg (by omega),if_pos (by omega)]
   unfold valuedM at hd
   rw [h1] at hd⊢
   unfold simpleOut headE
   simp only at hd⊢
   try rw [show (stW w (plug fs p)).store=w.store from rfl] at hd
   try rw [show (tickW w).store=w.store from rfl]
   cases hv:valueM w.store e with
   |none=>rw [hv] at hd;exact Ran.fault hs hd
   |some x=>
    rw [hv] at hd
    simp only at hd⊢
    rw [if_pos k6] at hd
    by_cases hc:p.c≠1
    ·rw [if_pos hc]
     exact Ran.deaf hs (.inr ⟨rfl,hc⟩) hd
    ·rw [if_neg hc]
     have hc1:p.c=1:=by omega
     rw [hc1] at hd
     exact Ran.after (w1:=⟨w.store,w.inn,w.out++[x],w.steps+1⟩) (mv_out hs hd) rfl rfl (Ran.skip _)
  ·omega
abbrev movsA(l:List MV):List AV:=l.map encMV
abbrev partM(s:ST)(i:Nat):List MV:=((actsM s).take i).flatMap (stepA s (actsM s))
theorem part_succ{s:ST}{i:Nat}{x:ACT×List Nat}(hx:(actsM s)[i]? =some x):partM s (i+1)=partM s i++stepA s (actsM s) x:=by
 unfold partM
 rw [List.take_add_one,hx,List.flatMap_append];simp
theorem part_len{s:ST}(h:(actsM s).length≤8000)(i:Nat):(partM s i).length≤64008000:=by
 have h1:=flat_bound (stepA s (actsM s)) 8001 ((actsM s).take i) fun a _=>by have:=step_len s (actsM s) a;omega
 rw [List.length_take] at h1
 unfold partM
 omega
theorem in_no{n:Nat}(h: ¬0<n):(bif true then decide ((0:Int)<(n:Int)) else false)=false:=by
 cases n with
 |zero=>rfl
 |succ n=>omega
theorem in_eq{a:Int}(h:true=(a==0)):a=0:=by
 have h:=h.symm
 rw [beq_iff_eq] at h;exact h
theorem head_at{l:List Int}(h:0<l.length):(l.map AI32)[(0:Int).toNat]? =some (AI32 (l.headD 0)):=by
 cases l with
 |nil=>simp at h
 |cons x r=>rfl
theorem tail_at(l:List Int):((l.map AI32).drop (1:Int).toNat).take (((l.map AI32).length:Int).toNat-(1:Int).toNat)=l.tail.map AI32:=by
 cases l with
 |nil=>rfl
 |cons x r=>simp [List.take_of_length_le]
abbrev innM(s:ST)(i:Nat)(x:ACT×List Nat)(j:Nat):List MV:=partM s i++((actsM s).take j).flatMap (commM s x)
theorem innM_0{s:ST}{i:Nat}{x:ACT×List Nat}:innM s i x 0=partM s i:=by unfold innM;rw [List.take_zero,List.flatMap_nil,List.append_nil]
theorem innM_succ{s:ST}(i:Nat)(x:ACT×List Nat){j:Nat}{y:ACT×List Nat}(hy:(actsM s)[j]? =some y):innM s i x (j+1)=innM s i x j++commM s x y:=by
 unfold innM
 rw [List.take_add_one,hy,List.flatMap_append,List.append_assoc];simp
theorem innM_all{s:ST}{i:Nat}{x:ACT×List Nat}:innM s i x (actsM s).length=partM s i++(actsM s).flatMap (commM s x):=by unfold innM;rw [List.take_length]
theorem innM_len{s:ST}(h:(actsM s).length≤8000)(i:Nat)(x:ACT×List Nat)(j:Nat):(innM s i x j).length≤64016000:=by
 have h1:=part_len h i
 have h2:=flat_len (commM s x) (comm_len s x) ((actsM s).take j)
 rw [List.length_take] at h2
 unfold innM
 rw [List.length_append]
 omega
theorem and_self_eq(a:Int):(bif true then a==a else false)=true:=by simp
theorem and_ne_eq{a b:Int}(h:a≠b):(bif true then a==b else false)=false:=by simpa using h
theorem movs_snoc(l:List MV)(m:MV)(z:Option Value):AV.sl 14 (movsA l++[encMV m]) z=AV.sl 14 (movsA (l++[m])) z:=by unfold movsA;rw [List.map_append];rfl
theorem moves_p(k:KN)(s:ST)(hg:GoodK k s)(hw:wtR s.root≤8000):Pure Tryz.prog gs0 19 [encN k,encST s] (.sl 14 (movsA (movesM s)) none):=by
 have hmay:=smay_p k s hg
 have hacts:=acts_p k s hg (by have:=comps_len hg;omega)
 have hal:(actsM s).length≤8000:=Nat.le_trans (acts_len hg) hw
 refine p_ tt_ok Tryz.func19 194 fun w0 h0 F hgs=>?_
 refine y_ ?_
 refine A.b rfl fun b2=>?_
 refine A.b rfl fun b3=>?_
 refine y_ ?_
 refine c_ hmay ?_
 refine A.b rfl fun b19=>?_
 refine A.freezeS 19 b19 (y':=rnA s) rfl rfl rfl .ptr ?_
 refine y_ ?_
 refine A.e rfl hacts .refl (List.Perm.refl _) fun l hl=>?_
 refine y_ ?_
 have hll:l.length=(actsM s).length:=by rw [←hl,List.length_map]
 refine A.valE 23 rfl (x':=AI ((actsM s).length:Nat)) (ai_eq (by rw [List.length_map,hll])) ?_
 refine A.nilTail 6 ty59.size rfl ?_
 refine A.keep [3,5,6,7,22,23,24] rfl ?_
 refine l_ (Λ':=[.tail ty59.size (.slice none 0 0), .box b3 (encST s)]) ?_
 refine A.loopP (ι:=Nat×Value) (fun q=>(⟨[(3,ptrA b3),(5,rnA s),(6, .sl 14 (movsA (partM s q.1)) (some q.2)),(7, .sl 17 (actsI l) none),(22, .sl 17 (actsI l) none),(23,AI ((actsM s).length:Nat)),(24,AI (q.1:Nat))],[]⟩,[.tail ty59.size q.2, .box b3 (encST s)])) (fun q=>q.1≤(actsM s).length) (fun q=>(actsM s).length-q.1) (0, .slice none 0 0) (Nat.zero_le _) rfl fun q hi ih=>?_
 obtain ⟨i,z⟩:=q
 simp only at hi
 refine y_ ?_
 refine k_ (fun hc=>?_) fun hc=>?_
 ·have hci:i<(actsM s).length:=by simpa using hc
  clear hc
  refine Exists.elim (at_exN (l:=l) (i:=i) (by omega)) fun xb hxb=>?_
  have hx:(actsM s)[i]? =some xb.1:=by rw [←hl,List.getElem?_map,hxb];rfl
  have hpart:=part_succ hx
  have hplen:=part_len hal i
  refine Exists.elim (acts_in hg (List.mem_of_getElem? hx)) fun c hin=>?_
  refine y_ ?_
  refine i_ rfl (map_at hxb) rfl ?_
  refine A.b rfl fun b9=>?_
  refine y_ ?_
  refine k_ (fun hc=>?_) fun hc=>?_
  ·have h116:xb.1.1.kind=116:=by have h:(xb.1.1.kind==116)=true:=hc;simpa using h
   clear hc
   have hst:stepA s (actsM s) xb.1=[moveM s 1 0 0 xb.1.1.store (repR xb.1.1.next s.root xb.1.2) s.inn]:=by unfold stepA;rw [if_pos h116]
   have hr:=root_one hg hin
   have hmv:=move_p s 1 0 0 xb.1.1.store _ s.inn (hin.ok.tau h116).small hr.ok hg.innl
   refine d_ 14 [0,1,2,3,4,5,6,7,8,10,11,9,12,13] [(9,cellsR (repR xb.1.1.next s.root xb.1.2)),(12,encMV (moveM s 1 0 0 xb.1.1.store (repR xb.1.1.next s.root xb.1.2) s.inn))] ?_
   refine cw_ (put_closure xb.1.1 xb.1.2 xb.2 hg.root hin.at') ?_
   refine cw_ hmv ?_
   refine WA.lit rfl rfl rfl rfl rfl rfl rfl fun bw=>?_
   refine WA.nil (l:=[_]) rfl ?_
   refine A.freezeRowS 45 (.slice (some ⟨bw,0,none⟩) 1 1) (y':= .sl 14 [encMV (moveM s 1 0 0 xb.1.1.store (repR xb.1.1.next s.root xb.1.2) s.inn)] none) rfl fz_ ?_
   refine A.append rfl rfl rfl rfl rfl rfl rfl rfl rfl rfl rfl rfl rfl rfl (by show ((movsA (partM s i)).length+1)*14≤_;rw [List.length_map];omega) fun z'=>?_
   refine y_ ?_
   refine A.valE 6 rfl (x':= .sl 14 (movsA (partM s (i+1))) (some z')) (by rw [hpart,hst];show AV.sl 14 (movsA (partM s i)++[encMV (moveM s 1 0 0 xb.1.1.store (repR xb.1.1.next s.root xb.1.2) s.inn)]) _=_;exact movs_snoc _ _ _) ?_
   refine A.valE 24 rfl (x':=AI ((i+1:Nat):Int)) (inc_eq i (by omega)) ?_
   refine l_ (Λ':=[.tail ty59.size z', .box b3 (encST s)]) ?_
   exact A.sub su_ (ih (i+1,z') (by show i+1≤_;omega) (by show _-(i+1)<_-i;omega))
  have n116:xb.1.1.kind≠116:=by have h:(xb.1.1.kind==116)=false:=hc;simpa using h
  clear hc
  refine y_ ?_
  by_cases h105:xb.1.1.kind=105
  ·refine e_ 51 rfl (x':=AB true) (ab_eq (by rw [h105];rfl)) ?_
   by_cases h0:xb.1.1.c=0∧0<s.inn.length
   ·have hst:stepA s (actsM s) xb.1=[moveM s 2 0 (s.inn.headD 0) (putM s.store xb.1.1.v xb.1.1.i (s.inn.headD 0)) (repR xb.1.1.next s.root xb.1.2) s.inn.tail]:=by unfold stepA;rw [if_neg n116,if_pos ⟨h105,h0⟩]
    refine e_ 56 rfl (x':=AB true) (ab_eq (by rw [h0.1];rfl)) ?_
    refine A.valE 47 rfl (x':=AB true) (ab_eq (by rw [List.length_map];simpa using h0.2)) ?_
    have hat0:=head_at h0.2
    have htl:=tail_at s.inn
    have hr:=root_one hg hin
    have hpi:StOk k.vars (putM s.store xb.1.1.v xb.1.1.i (s.inn.headD 0)):=put_in hg hin h105 (head_in hg.inn h0.2) (by rw [(hin.ok.inp h105).2.2 h0.1];rfl)
    have hmv:=move_p s 2 0 (s.inn.headD 0) _ _ s.inn.tail hpi.small hr.ok (by have:=hg.innl;rw [List.length_tail];omega)
    have hpp:=hg.small.put_p xb.1.1.v xb.1.1.i (s.inn.headD 0)
    have hlp:=h0.2
    refine y_ ?_
    refine d_ 28 [0,1,2,3,4,5,6,7,8,9,10,11,12,13,14,15,16,18,19,20,21,23,24,25,17,22,26,27] [(17,rowsA (putM s.store xb.1.1.v xb.1.1.i (s.inn.headD 0))),(22,cellsR (repR xb.1.1.next s.root xb.1.2)),(26,encMV (moveM s 2 0 (s.inn.headD 0) (putM s.store xb.1.1.v xb.1.1.i (s.inn.headD 0)) (repR xb.1.1.next s.root xb.1.2) s.inn.tail))] ?_
    refine iw_ rfl hat0 rfl ?_
    refine iw_ rfl hat0 rfl ?_
    refine WA.slice (ys:=s.inn.tail.map AI32) rfl rfl rfl rfl rfl rfl rfl rfl rfl rfl (by decide) (by rw [List.length_map];omega) (Int.le_refl _) htl rfl ?_
    refine cw_ hpp ?_
    refine cw_ (put_closure xb.1.1 xb.1.2 xb.2 hg.root hin.at') ?_
    refine cw_ hmv ?_
    refine WA.lit rfl rfl rfl rfl rfl rfl rfl fun bw=>?_
    refine WA.nil (l:=[_]) rfl ?_
    refine A.freezeRowS 89 (.slice (some ⟨bw,0,none⟩) 1 1) (y':= .sl 14 [encMV (moveM s 2 0 (s.inn.headD 0) (putM s.store xb.1.1.v xb.1.1.i (s.inn.headD 0)) (repR xb.1.1.next s.root xb.1.2) s.inn.tail)] none) rfl fz_ ?_
    refine A.append rfl rfl rfl rfl rfl rfl rfl rfl rfl rfl rfl rfl rfl rfl (by show ((movsA (partM s i)).length+1)*14≤_;rw [List.length_map];omega) fun z'=>?_
    refine y_ ?_
    refine A.valE 6 rfl (x':= .sl 14 (movsA (partM s (i+1))) (some z')) (by rw [hpart,hst];show AV.sl 14 (movsA (partM s i)++[encMV (moveM s 2 0 (s.inn.headD 0) (putM s.store xb.1.1.v xb.1.1.i (s.inn.headD 0)) (repR xb.1.1.next s.root xb.1.2) s.inn.tail)]) _=_;exact movs_snoc _ _ _) ?_
    refine A.valE 24 rfl (x':=AI ((i+1:Nat):Int)) (inc_eq i (by omega)) ?_
    refine l_ (Λ':=[.tail ty59.size z', .box b3 (encST s)]) ?_
    exact A.sub su_ (ih (i+1,z') (by show i+1≤_;omega) (by show _-(i+1)<_-i;omega))
   ·have hst:stepA s (actsM s) xb.1=[]:=by unfold stepA;rw [if_neg n116,if_neg (fun h=>h0 h.2),if_neg (by omega),if_neg (by omega)]
    refine Exists.elim (show∃b,b=(xb.1.1.c==0) from ⟨_,rfl⟩) fun b hb=>?_
    refine A.valE 56 rfl (x':=AB b) (ab_eq (by rw [hb];rfl)) ?_
    cases b
    ·refine y_ ?_
     refine e_ 95 rfl (x':=AB false) (ab_eq (by rw [h105];rfl)) ?_
     refine e_ 117 rfl (x':=AB false) (ab_eq (by rw [h105];rfl)) ?_
     refine A.valE 6 rfl (x':= .sl 14 (movsA (partM s (i+1))) (some z)) (by rw [hpart,hst,List.append_nil]) ?_
     refine A.valE 24 rfl (x':=AI ((i+1:Nat):Int)) (inc_eq i (by omega)) ?_
     refine l_ (Λ':=[.tail ty59.size z, .box b3 (encST s)]) ?_
     exact A.sub su_ (ih (i+1,z) (by show i+1≤_;omega) (by show _-(i+1)<_-i;omega))
    ·refine y_ ?_
     refine e_ 47 rfl (x':=AB false) (ab_eq (by rw [List.length_map];exact in_no fun h=>h0 ⟨in_eq hb,h⟩)) ?_
     refine e_ 95 rfl (x':=AB false) (ab_eq (by rw [h105];rfl)) ?_
     refine e_ 117 rfl (x':=AB false) (ab_eq (by rw [h105];rfl)) ?_
     refine A.valE 6 rfl (x':= .sl 14 (movsA (partM s (i+1))) (some z)) (by rw [hpart,hst,List.append_nil]) ?_
     refine A.valE 24 rfl (x':=AI ((i+1:Nat):Int)) (inc_eq i (by omega)) ?_
     refine l_ (Λ':=[.tail ty59.size z, .box b3 (encST s)]) ?_
     exact A.sub su_ (ih (i+1,z) (by show i+1≤_;omega) (by show _-(i+1)<_-i;omega))
  ·refine e_ 51 rfl (x':=AB false) (ab_eq (beq_eq_false_iff_ne.2 h105)) ?_
   by_cases h111:xb.1.1.kind=111
   ·refine e_ 95 rfl (x':=AB true) (ab_eq (by rw [h111];rfl)) ?_
    by_cases h1:xb.1.1.c=1
    ·have hst:stepA s (actsM s) xb.1=[moveM s 2 1 xb.1.1.value s.store (repR xb.1.1.next s.root xb.1.2) s.inn]:=by unfold stepA;rw [if_neg n116,if_neg (fun h=>h105 h.1),if_pos ⟨h111,h1⟩]
     refine A.valE 91 rfl (x':=AB true) (ab_eq (by rw [h1];rfl)) ?_
     have hr:=root_one hg hin
     have hmv:=move_p s 2 1 xb.1.1.value _ _ s.inn hg.small hr.ok hg.innl
     refine y_ ?_
     refine d_ 16 [0,1,2,3,4,5,6,7,8,9,10,12,13,11,14,15] [(11,cellsR (repR xb.1.1.next s.root xb.1.2)),(14,encMV (moveM s 2 1 xb.1.1.value s.store (repR xb.1.1.next s.root xb.1.2) s.inn))] ?_
     refine cw_ (put_closure xb.1.1 xb.1.2 xb.2 hg.root hin.at') ?_
     refine cw_ hmv ?_
     refine WA.lit rfl rfl rfl rfl rfl rfl rfl fun bw=>?_
     refine WA.nil (l:=[_]) rfl ?_
     refine A.freezeRowS 115 (.slice (some ⟨bw,0,none⟩) 1 1) (y':= .sl 14 [encMV (moveM s 2 1 xb.1.1.value s.store (repR xb.1.1.next s.root xb.1.2) s.inn)] none) rfl fz_ ?_
     refine A.append rfl rfl rfl rfl rfl rfl rfl rfl rfl rfl rfl rfl rfl rfl (by show ((movsA (partM s i)).length+1)*14≤_;rw [List.length_map];omega) fun z'=>?_
     refine y_ ?_
     refine A.valE 6 rfl (x':= .sl 14 (movsA (partM s (i+1))) (some z')) (by rw [hpart,hst];show AV.sl 14 (movsA (partM s i)++[encMV (moveM s 2 1 xb.1.1.value s.store (repR xb.1.1.next s.root xb.1.2) s.inn)]) _=_;exact movs_snoc _ _ _) ?_
     refine A.valE 24 rfl (x':=AI ((i+1:Nat):Int)) (inc_eq i (by omega)) ?_
     refine l_ (Λ':=[.tail ty59.size z', .box b3 (encST s)]) ?_
     exact A.sub su_ (ih (i+1,z') (by show i+1≤_;omega) (by show _-(i+1)<_-i;omega))
    ·have hst:stepA s (actsM s) xb.1=(actsM s).flatMap (commM s xb.1):=by unfold stepA;rw [if_neg n116,if_neg (fun h=>h105 h.1),if_neg (fun h=>h1 h.2),if_pos h111]
     refine e_ 91 rfl (x':=AB false) (ab_eq (beq_eq_false_iff_ne.2 h1)) ?_
     refine e_ 117 rfl (x':=AB true) (ab_eq (by rw [h111];rfl)) ?_
     refine A.valE 122 rfl (x':=AI ((actsM s).length:Nat)) (ai_eq (by rw [List.length_map,hll])) ?_
     refine A.valE 6 rfl (x':= .sl 14 (movsA (innM s i xb.1 0)) (some z)) (by rw [innM_0]) ?_
     refine A.keep [3,5,6,7,9,22,23,24,121,122,123] rfl ?_
     refine A.perm (.swap _ _ _) ?_
     refine l_ (Λ':=[.tail ty59.size z, .box b9 (actF xb.1 xb.2), .box b3 (encST s)]) ?_
     refine A.loopP (ι:=Nat×Value) (fun q=>(⟨[(3,ptrA b3),(5,rnA s),(6, .sl 14 (movsA (innM s i xb.1 q.1)) (some q.2)),(7, .sl 17 (actsI l) none),(9,ptrA b9),(22, .sl 17 (actsI l) none),(23,AI ((actsM s).length:Nat)),(24,AI (i:Nat)),(121, .sl 17 (actsI l) none),(122,AI ((actsM s).length:Nat)),(123,AI (q.1:Nat))],[]⟩,[.tail ty59.size q.2, .box b9 (actF xb.1 xb.2), .box b3 (encST s)])) (fun q=>q.1≤(actsM s).length) (fun q=>(actsM s).length-q.1) (0,z) (Nat.zero_le _) rfl fun q hj ih2=>?_
     obtain ⟨j,z2⟩:=q
     simp only at hj
     have hilen:=innM_len hal i xb.1 j
     refine y_ ?_
     refine k_ (fun hc=>?_) fun hc=>?_
     ·have hcj:j<(actsM s).length:=by simpa using hc
      clear hc
      refine Exists.elim (at_exN (l:=l) (i:=j) (by omega)) fun yb hyb=>?_
      have hy:(actsM s)[j]? =some yb.1:=by rw [←hl,List.getElem?_map,hyb];rfl
      have hin2:=innM_succ i xb.1 hy
      refine Exists.elim (acts_in hg (List.mem_of_getElem? hy)) fun d hind=>?_
      refine y_ ?_
      refine i_ rfl (map_at hyb) rfl ?_
      refine A.b rfl fun b11=>?_
      refine y_ ?_
      by_cases hy105:yb.1.1.kind=105
      ·refine e_ 130 rfl (x':=AB true) (ab_eq (by rw [hy105];rfl)) ?_
       by_cases hcc:yb.1.1.c=xb.1.1.c
       ·refine e_ 137 rfl (x':=AB true) (ab_eq (by rw [hcc];exact and_self_eq _)) ?_
        refine n_ (fitsq_p yb.1.1.item xb.1.1.value (hin.ok.out h111).2) ?_
        by_cases hf:fitsB yb.1.1.item xb.1.1.value=true
        ·refine A.valE 142 rfl (x':=AB true) (ab_eq hf) ?_
         have hcm:commM s xb.1 yb.1=[moveM s 2 xb.1.1.c xb.1.1.value (putM s.store yb.1.1.v yb.1.1.i xb.1.1.value) (repR yb.1.1.next (repR xb.1.1.next s.root xb.1.2) yb.1.2) s.inn]:=by unfold commM;rw [if_pos ⟨hy105,hcc,hf⟩]
         have hne:=path_ne hin hind h111 hy105
         have hr1:=root_one hg hin
         have hr2:=root_two hg hin hind hne
         have hpi:=put_in hg hind hy105 (hin.ok.out h111).2 hf
         have hmv:=move_p s 2 xb.1.1.c xb.1.1.value _ _ s.inn hpi.small hr2.ok hg.innl
         have hpp:=hg.small.put_p yb.1.1.v yb.1.1.i xb.1.1.value
         have hc1:=put_closure xb.1.1 xb.1.2 xb.2 hg.root hin.at'
         have hc2:=put_closure yb.1.1 yb.1.2 yb.2 hr1.ok (at_two hin hind hne)
         refine y_ ?_
         refine d_ 28 [0,1,2,3,4,5,6,7,8,9,10,11,12,13,14,16,17,18,19,20,21,24,25,15,22,23,26,27] [(15,rowsA (putM s.store yb.1.1.v yb.1.1.i xb.1.1.value)),(22,cellsR (repR xb.1.1.next s.root xb.1.2)),(23,cellsR (repR yb.1.1.next (repR xb.1.1.next s.root xb.1.2) yb.1.2)),(26,encMV (moveM s 2 xb.1.1.c xb.1.1.value (putM s.store yb.1.1.v yb.1.1.i xb.1.1.value) (repR yb.1.1.next (repR xb.1.1.next s.root xb.1.2) yb.1.2) s.inn))] ?_
         refine cw_ hpp ?_
         refine cw_ hc1 ?_
         refine cw_ hc2 ?_
         refine cw_ hmv ?_
         refine WA.lit rfl rfl rfl rfl rfl rfl rfl fun bw=>?_
         refine WA.nil (l:=[_]) rfl ?_
         refine A.freezeRowS 171 (.slice (some ⟨bw,0,none⟩) 1 1) (y':= .sl 14 [encMV (moveM s 2 xb.1.1.c xb.1.1.value (putM s.store yb.1.1.v yb.1.1.i xb.1.1.value) (repR yb.1.1.next (repR xb.1.1.next s.root xb.1.2) yb.1.2) s.inn)] none) rfl fz_ ?_
         refine A.append rfl rfl rfl rfl rfl rfl rfl rfl rfl rfl rfl rfl rfl rfl (by show ((movsA (innM s i xb.1 j)).length+1)*14≤_;rw [List.length_map];omega) fun z'=>?_
         refine y_ ?_
         refine A.valE 6 rfl (x':= .sl 14 (movsA (innM s i xb.1 (j+1))) (some z')) (by rw [hin2,hcm];show AV.sl 14 (movsA (innM s i xb.1 j)++[encMV (moveM s 2 xb.1.1.c xb.1.1.value (putM s.store yb.1.1.v yb.1.1.i xb.1.1.value) (repR yb.1.1.next (repR xb.1.1.next s.root xb.1.2) yb.1.2) s.inn)]) _=_;exact movs_snoc _ _ _) ?_
         refine A.valE 123 rfl (x':=AI ((j+1:Nat):Int)) (inc_eq j (by omega)) ?_
         refine l_ (Λ':=[.tail ty59.size z', .box b9 (actF xb.1 xb.2), .box b3 (encST s)]) ?_
         exact A.sub su_ (ih2 (j+1,z') (by show j+1≤_;omega) (by show _-(j+1)<_-j;omega))
        ·refine A.valE 142 rfl (x':=AB false) (ab_eq (by simpa using hf)) ?_
         have hcm:commM s xb.1 yb.1=[]:=by unfold commM;rw [if_neg (fun h=>hf h.2.2)]
         refine y_ ?_
         refine A.valE 6 rfl (x':= .sl 14 (movsA (innM s i xb.1 (j+1))) (some z2)) (by rw [hin2,hcm,List.append_nil]) ?_
         refine A.valE 123 rfl (x':=AI ((j+1:Nat):Int)) (inc_eq j (by omega)) ?_
         refine l_ (Λ':=[.tail ty59.size z2, .box b9 (actF xb.1 xb.2), .box b3 (encST s)]) ?_
         exact A.sub su_ (ih2 (j+1,z2) (by show j+1≤_;omega) (by show _-(j+1)<_-j;omega))
       ·refine A.valE 137 rfl (x':=AB false) (ab_eq (and_ne_eq hcc)) ?_
        have hcm:commM s xb.1 yb.1=[]:=by unfold commM;rw [if_neg (fun h=>hcc h.2.1)]
        refine y_ ?_
        refine A.valE 6 rfl (x':= .sl 14 (movsA (innM s i xb.1 (j+1))) (some z2)) (by rw [hin2,hcm,List.append_nil]) ?_
        refine A.valE 123 rfl (x':=AI ((j+1:Nat):Int)) (inc_eq j (by omega)) ?_
        refine l_ (Λ':=[.tail ty59.size z2, .box b9 (actF xb.1 xb.2), .box b3 (encST s)]) ?_
        exact A.sub su_ (ih2 (j+1,z2) (by show j+1≤_;omega) (by show _-(j+1)<_-j;omega))
      ·refine A.valE 130 rfl (x':=AB false) (ab_eq (beq_eq_false_iff_ne.2 hy105)) ?_
       have hcm:commM s xb.1 yb.1=[]:=by unfold commM;rw [if_neg (fun h=>hy105 h.1)]
       refine y_ ?_
       refine A.valE 6 rfl (x':= .sl 14 (movsA (innM s i xb.1 (j+1))) (some z2)) (by rw [hin2,hcm,List.append_nil]) ?_
       refine A.valE 123 rfl (x':=AI ((j+1:Nat):Int)) (inc_eq j (by omega)) ?_
       refine l_ (Λ':=[.tail ty59.size z2, .box b9 (actF xb.1 xb.2), .box b3 (encST s)]) ?_
       exact A.sub su_ (ih2 (j+1,z2) (by show j+1≤_;omega) (by show _-(j+1)<_-j;omega))
     have hcj: ¬j<(actsM s).length:=by simpa using hc
     clear hc ih2
     have hjl:j=(actsM s).length:=by omega
     refine y_ ?_
     refine A.valE 6 rfl (x':= .sl 14 (movsA (partM s (i+1))) (some z2)) (by rw [hpart,hst,hjl,innM_all]) ?_
     refine A.valE 24 rfl (x':=AI ((i+1:Nat):Int)) (inc_eq i (by omega)) ?_
     refine l_ (Λ':=[.tail ty59.size z2, .box b3 (encST s)]) ?_
     exact A.sub su_ (ih (i+1,z2) (by show i+1≤_;omega) (by show _-(i+1)<_-i;omega))
   ·have hst:stepA s (actsM s) xb.1=[]:=by unfold stepA;rw [if_neg n116,if_neg (fun h=>h105 h.1),if_neg (fun h=>h111 h.1),if_neg h111]
    refine e_ 95 rfl (x':=AB false) (ab_eq (beq_eq_false_iff_ne.2 h111)) ?_
    refine e_ 117 rfl (x':=AB false) (ab_eq (beq_eq_false_iff_ne.2 h111)) ?_
    refine A.valE 6 rfl (x':= .sl 14 (movsA (partM s (i+1))) (some z)) (by rw [hpart,hst,List.append_nil]) ?_
    refine A.valE 24 rfl (x':=AI ((i+1:Nat):Int)) (inc_eq i (by omega)) ?_
    refine l_ (Λ':=[.tail ty59.size z, .box b3 (encST s)]) ?_
    exact A.sub su_ (ih (i+1,z) (by show i+1≤_;omega) (by show _-(i+1)<_-i;omega))
 have hci: ¬i<(actsM s).length:=by simpa using hc
 clear hc ih
 have hil:i=(actsM s).length:=by omega
 have hmv:=move_p s 3 0 0 s.store s.root s.inn hg.small hg.root hg.innl
 have hplen:=part_len hal i
 have hall:movesM s=partM s i++[tickM s]:=by unfold movesM partM;rw [hil,List.take_length]
 have htick:encMV ⟨3,0,0,⟨s.store,normR s.root,s.inn,IntKind.i32.wrap (s.time+1)⟩⟩=encMV (tickM s):=by rw [hg.nf];rfl
 refine y_ ?_
 refine n_ hmv ?_
 (refine b_ fun bx=>?_;refine t_ fun bl=>?_)
 refine A.append rfl rfl rfl rfl rfl rfl rfl rfl rfl rfl rfl rfl rfl rfl (by show ((movsA (partM s i)).length+1)*14≤_;rw [List.length_map];omega) fun z'=>?_
 refine e_ 193 rfl (x':= .sl 14 (movsA (movesM s)) (some z')) (by rw [hall];show AV.sl 14 (movsA (partM s i)++[encMV ⟨3,0,0,⟨s.store,normR s.root,s.inn,IntKind.i32.wrap (s.time+1)⟩⟩]) _=_;rw [htick];exact movs_snoc _ _ _) ?_
 refine R_ ?_;exact .own1
abbrev wordsB(a b:List Int):Bool:=alikeB (· == ·) a b
theorem lwords_p(a b:List Int)(hb:a.length≤281474976710656):Pure Tryz.prog gs0 26 [rowA a,rowA b] (AB (wordsB a b)):=by
 by_cases hlen:a.length=b.length
 case neg=>
  refine p_ tt_ok Tryz.func26 26 fun w0 h0 F hgs=>?_
  refine y_ ?_
  refine e_ 10 rfl (x':=AB true) (ab_eq (by simp;omega)) ?_;refine R_ ?_;refine Sb.eq (ab_eq ?_);simp [alikeB,hlen]
 refine p_ tt_ok Tryz.func26 26 fun w0 h0 F hgs=>?_
 refine y_ ?_
 refine e_ 10 rfl (x':=AB false) (ab_eq (by simp;omega)) ?_
 refine A.keep [0,1,5] rfl ?_
 refine A.loopP (ι:=Nat) (fun i=>(⟨[(0,rowA a),(1,rowA b),(5,AI (i:Int))],[]⟩,[])) (fun i=>i≤a.length∧allEq (· == ·) a b i=true) (fun i=>a.length-i) 0 ⟨by omega,rfl⟩ rfl fun i hi ih=>?_
 refine y_ ?_
 refine k_ (fun hc=>?_) fun hc=>?_
 ·simp at hc
  refine Exists.elim (at_exN (l:=a) (i:=i) (by omega)) fun u hu=>Exists.elim (at_exN (l:=b) (i:=i) (by omega)) fun w hw=>?_
  have h3:=allEq_succ (· == ·) hu hw
  refine y_ ?_
  refine d_ 9 [0,1,2,3,4,5,6,7,8] [] ?_;refine iw_ rfl (map_at hu) rfl ?_;refine iw_ rfl (map_at hw) rfl ?_;refine WA.nil (l:=[]) rfl ?_
  refine A.entsEq (Λ':=[]) rfl ?_
  refine y_ ?_
  refine k_ (fun he=>?_) fun he=>?_
  ·simp at he
   refine y_ ?_;refine R_ ?_;refine Sb.eq (ab_eq ?_)
   have h4:=allEq_le (f:=(· == ·)) (a:=a) (b:=b) (j:=i+1) (by rw [h3];simp [he]) a.length (by omega)
   simp [alikeB,h4]
  ·simp at he
   refine y_ ?_
   refine A.valE 5 rfl (x':=AI ((i+1:Nat):Int)) (inc_eq i (by omega)) ?_
   refine u_ (ih (i+1) ⟨by omega,by rw [h3];simp [hi.2,he]⟩ (by omega))
 ·simp at hc
  have:i=a.length:=by omega
  subst this
  refine y_ ?_;refine R_ ?_;refine Sb.eq (ab_eq ?_);show true=alikeB (· == ·) a b;unfold alikeB;rw [hi.2,decide_eq_true hlen];rfl
theorem rwords_p(a b:List Int)(hb:a.length≤281474976710656):Pure Tryz.prog gs0 14 [rowA a,rowA b] (AB (wordsB a b)):=by
 by_cases hlen:a.length=b.length
 case neg=>
  refine p_ tt_ok Tryz.func14 26 fun w0 h0 F hgs=>?_
  refine y_ ?_
  refine e_ 10 rfl (x':=AB true) (ab_eq (by simp;omega)) ?_;refine R_ ?_;refine Sb.eq (ab_eq ?_);simp [alikeB,hlen]
 refine p_ tt_ok Tryz.func14 26 fun w0 h0 F hgs=>?_
 refine y_ ?_
 refine e_ 10 rfl (x':=AB false) (ab_eq (by simp;omega)) ?_
 refine A.keep [0,1,5] rfl ?_
 refine A.loopP (ι:=Nat) (fun i=>(⟨[(0,rowA a),(1,rowA b),(5,AI (i:Int))],[]⟩,[])) (fun i=>i≤a.length∧allEq (· == ·) a b i=true) (fun i=>a.length-i) 0 ⟨by omega,rfl⟩ rfl fun i hi ih=>?_
 refine y_ ?_
 refine k_ (fun hc=>?_) fun hc=>?_
 ·simp at hc
  refine Exists.elim (at_exN (l:=a) (i:=i) (by omega)) fun u hu=>Exists.elim (at_exN (l:=b) (i:=i) (by omega)) fun w hw=>?_
  have h3:=allEq_succ (· == ·) hu hw
  refine y_ ?_
  refine d_ 9 [0,1,2,3,4,5,6,7,8] [] ?_;refine iw_ rfl (map_at hu) rfl ?_;refine iw_ rfl (map_at hw) rfl ?_;refine WA.nil (l:=[]) rfl ?_
  refine A.entsEq (Λ':=[]) rfl ?_
  refine y_ ?_
  refine k_ (fun he=>?_) fun he=>?_
  ·simp at he
   refine y_ ?_;refine R_ ?_;refine Sb.eq (ab_eq ?_)
   have h4:=allEq_le (f:=(· == ·)) (a:=a) (b:=b) (j:=i+1) (by rw [h3];simp [he]) a.length (by omega)
   simp [alikeB,h4]
  ·simp at he
   refine y_ ?_
   refine A.valE 5 rfl (x':=AI ((i+1:Nat):Int)) (inc_eq i (by omega)) ?_
   refine u_ (ih (i+1) ⟨by omega,by rw [h3];simp [hi.2,he]⟩ (by omega))
 ·simp at hc
  have:i=a.length:=by omega
  subst this
  refine y_ ?_;refine R_ ?_;refine Sb.eq (ab_eq ?_);show true=alikeB (· == ·) a b;unfold alikeB;rw [hi.2,decide_eq_true hlen];rfl
theorem ewords_p(a b:List Int)(hb:a.length≤281474976710656):Pure Tryz.prog gs0 39 [rowA a,rowA b] (AB (wordsB a b)):=by
 by_cases hlen:a.length=b.length
 case neg=>
  refine p_ tt_ok Tryz.func39 26 fun w0 h0 F hgs=>?_
  refine y_ ?_
  refine e_ 10 rfl (x':=AB true) (ab_eq (by simp;omega)) ?_;refine R_ ?_;refine Sb.eq (ab_eq ?_);simp [alikeB,hlen]
 refine p_ tt_ok Tryz.func39 26 fun w0 h0 F hgs=>?_
 refine y_ ?_
 refine e_ 10 rfl (x':=AB false) (ab_eq (by simp;omega)) ?_
 refine A.valE 12 rfl (x':=AI (a.length:Nat)) (ai_eq (by simp)) ?_
 refine A.keep [0,1,12,13] rfl ?_
 refine A.loopP (ι:=Nat) (fun i=>(⟨[(0,rowA a),(1,rowA b),(12,AI (a.length:Nat)),(13,AI (i:Int))],[]⟩,[])) (fun i=>i≤a.length∧allEq (· == ·) a b i=true) (fun i=>a.length-i) 0 ⟨by omega,rfl⟩ rfl fun i hi ih=>?_
 refine y_ ?_
 refine k_ (fun hc=>?_) fun hc=>?_
 ·simp at hc
  refine Exists.elim (at_exN (l:=a) (i:=i) (by omega)) fun u hu=>Exists.elim (at_exN (l:=b) (i:=i) (by omega)) fun w hw=>?_
  have h3:=allEq_succ (· == ·) hu hw
  refine y_ ?_
  refine d_ 9 [0,1,2,3,4,5,6,7,8] [] ?_;refine iw_ rfl (map_at hu) rfl ?_;refine iw_ rfl (map_at hw) rfl ?_;refine WA.nil (l:=[]) rfl ?_
  refine A.entsEq (Λ':=[]) rfl ?_
  refine y_ ?_
  refine k_ (fun he=>?_) fun he=>?_
  ·simp at he
   refine y_ ?_;refine R_ ?_;refine Sb.eq (ab_eq ?_)
   have h4:=allEq_le (f:=(· == ·)) (a:=a) (b:=b) (j:=i+1) (by rw [h3];simp [he]) a.length (by omega)
   simp [alikeB,h4]
  ·simp at he
   refine y_ ?_
   refine A.valE 13 rfl (x':=AI ((i+1:Nat):Int)) (inc_eq i (by omega)) ?_
   refine u_ (ih (i+1) ⟨by omega,by rw [h3];simp [hi.2,he]⟩ (by omega))
 ·simp at hc
  have:i=a.length:=by omega
  subst this
  refine y_ ?_;refine R_ ?_;refine Sb.eq (ab_eq ?_);show true=alikeB (· == ·) a b;unfold alikeB;rw [hi.2,decide_eq_true hlen];rfl
def sameStB(a b:ST):Bool:=(a.time==b.time)&&(wordsB a.inn b.inn&&(sameB a.store b.store&&eqR a.root b.root))
structure SmS(a:ST):Prop where
 inn:a.inn.length≤281474976710656
 store:short a.store
 root:smR a.root
theorem ssame_p(a b:ST)(h:SmS a):Pure Tryz.prog gs0 15 [encST a,encST b] (AB (sameStB a b)):=by
 have h1:=ewords_p a.inn b.inn h.inn
 have h2:=Same_p a.store b.store h.store
 have h3:=psame_p a.root b.root h.root
 unfold sameStB
 generalize hq0:(a.time==b.time)=q0
 generalize wordsB a.inn b.inn=q1 at h1⊢
 generalize sameB a.store b.store=q2 at h2⊢
 generalize eqR a.root b.root=q3 at h3⊢
 cases q0 with
 |false=>refine p_ tt_ok Tryz.func15 31 fun w0 h0 F hgs=>?_;(refine b_ fun bx=>?_;refine b_ fun bx=>?_;refine y_ ?_);refine F_ rfl hq0 ?_;exact r_
 |true=>
  cases q1 with
  |false=>refine p_ tt_ok Tryz.func15 31 fun w0 h0 F hgs=>?_;(refine b_ fun bx=>?_;refine b_ fun bx=>?_;refine y_ ?_);refine T_ rfl hq0 ?_;exact cr_ h1
  |true=>
   cases q2 with
   |false=>refine p_ tt_ok Tryz.func15 31 fun w0 h0 F hgs=>?_;(refine b_ fun bx=>?_;refine b_ fun bx=>?_;refine y_ ?_);refine T_ rfl hq0 ?_;refine c_ h1 ?_;exact cr_ h2
   |true=>refine p_ tt_ok Tryz.func15 31 fun w0 h0 F hgs=>?_;(refine b_ fun bx=>?_;refine b_ fun bx=>?_;refine y_ ?_);refine T_ rfl hq0 ?_;refine c_ h1 ?_;refine c_ h2 ?_;exact cr_ h3
theorem rsame_p(a b:ST)(h:SmS a):Pure Tryz.prog gs0 13 [encST a,encST b] (AB (sameStB a b)):=by
 have h1:=rwords_p a.inn b.inn h.inn
 have h2:=rSame_p a.store b.store h.store
 have h3:=procs_p [a.root] [b.root] (by simp) (fun x hx=>by rw [List.mem_singleton] at hx;subst hx;exact h.root)
 have h4:eqRl [a.root] [b.root]=eqR a.root b.root:=by rw [eqRl,eqRl,Bool.and_true]
 rw [h4] at h3
 have e1: ∀q:PR,rsA [q]= .sl 8 [cellsR q] none:=fun q=>by show AV.sl 8 (encRl [q]) none=_;rw [encRl_cells];rfl
 rw [e1,e1] at h3
 unfold sameStB
 generalize hq0:(a.time==b.time)=q0
 generalize wordsB a.inn b.inn=q1 at h1⊢
 generalize sameB a.store b.store=q2 at h2⊢
 generalize eqR a.root b.root=q3 at h3⊢
 cases q0 with
 |false=>refine p_ tt_ok Tryz.func13 33 fun w0 h0 F hgs=>?_;(refine b_ fun bx=>?_;refine b_ fun bx=>?_;refine y_ ?_);refine F_ rfl hq0 ?_;exact r_
 |true=>
  cases q1 with
  |false=>refine p_ tt_ok Tryz.func13 33 fun w0 h0 F hgs=>?_;(refine b_ fun bx=>?_;refine b_ fun bx=>?_;refine y_ ?_);refine T_ rfl hq0 ?_;exact cr_ h1
  |true=>
   cases q2 with
   |false=>refine p_ tt_ok Tryz.func13 33 fun w0 h0 F hgs=>?_;(refine b_ fun bx=>?_;refine b_ fun bx=>?_;refine y_ ?_);refine T_ rfl hq0 ?_;refine c_ h1 ?_;exact cr_ h2
   |true=>refine p_ tt_ok Tryz.func13 33 fun w0 h0 F hgs=>?_;(refine b_ fun bx=>?_;refine b_ fun bx=>?_;refine y_ ?_);refine T_ rfl hq0 ?_;refine c_ h1 ?_;refine n_ h2 ?_;(refine t_ fun bl=>?_;refine t_ fun bl=>?_);exact cr_ h3
theorem sdone_p(a:ST)(h:smR a.root):Pure Tryz.prog gs0 16 [encST a] (AB (doneR a.root)):=by
 have h1:=done_p a.root h
 refine p_ tt_ok Tryz.func16 6 fun w0 h0 F hgs=>?_;(refine b_ fun bx=>?_;refine y_ ?_);exact cr_ h1
theorem bl_lt{p x:PR}{g:GD}(hg:g∈p.gs)(h:x∈g.body):SizeOf.sizeOf x<SizeOf.sizeOf p:=by
 have h1:=gg_lt hg
 have h2:=bd_lt h
 omega
theorem skol18{P:PR→Int→Prop}{S:PR→Prop}(h: ∀x,S x→ ∃n,P x n): ∃f:PR→Int,∀x,S x→P x (f x):=by
 classical
 exact ⟨fun x=>if hx:S x then (h x hx).choose else 0,fun x hx=>by simp only [dif_pos hx];exact (h x hx).choose_spec⟩
def addS(f:PR→Int)(n:Int)(x:PR):Int:=IntKind.i64.wrap (n+f x)
def sumS(f:PR→Int)(p:PR):Int:=p.gs.foldl (fun n g=>g.body.foldl (addS f) n) (p.l.foldl (addS f) 1)
theorem rsz_f(p:PR)(hs:smR p)(f:PR→Int)(hl: ∀x,x∈p.l→Pure Tryz.prog gs0 29 [cellsR x] (AI (f x)))(hg: ∀g,g∈p.gs→ ∀x,x∈g.body→Pure Tryz.prog gs0 29 [cellsR x] (AI (f x))):
 Pure Tryz.prog gs0 29 [cellsR p] (AI (sumS f p)):=by
 have hsa:=smR_all hs
 have hll:=hsa.ll
 have hgl:=hsa.gl
 have n1:((encRl p.l).length:Int)=p.l.length:=by rw [encRl_len]
 have n2:((encGl p.gs).length:Int)=p.gs.length:=by rw [encGl_len]
 unfold sumS
 refine p_ tt_ok Tryz.func29 53 fun w0 h0 F hgs=>?_
 (refine b_ fun bx=>?_;refine y_ ?_)
 refine A.freeze 1 (sz:=8) rfl rfl rfl ?_
 refine A.keep [1,3,4] rfl ?_
 refine A.loopP (ι:=Nat) (fun i=>(⟨[(1, .pe 8 (cellsR p)),(3,AI ((p.l.take i).foldl (addS f) 1)),(4,AI (i:Nat))],[]⟩,[])) (fun i=>i≤p.l.length) (fun i=>p.l.length-i) 0 (Nat.zero_le _) rfl fun i hi ih=>?_
 refine y_ ?_
 refine k_ (fun hc=>?_) fun hc=>?_
 ·have hc':i<p.l.length:=by have:=hc;simp only [n1,decide_eq_true_eq] at this;omega
  refine Exists.elim (at_exN (l:=p.l) (i:=i) hc') fun x hx=>?_
  have hsz:=hl x (List.mem_of_getElem? hx)
  have htk:p.l.take (i+1)=p.l.take i++[x]:=by rw [List.take_add_one,hx];rfl
  refine y_ ?_
  refine i_ rfl (encRl_at hx) (encR_eq x) ?_
  refine c_ hsz ?_
  refine A.valE 3 rfl (x':=AI ((p.l.take (i+1)).foldl (addS f) 1)) (by rw [htk,List.foldl_append];rfl) ?_
  refine A.valE 4 rfl (x':=AI ((i+1:Nat):Int)) (inc_eq i (by omega)) ?_
  refine u_ (ih (i+1) (by omega) (by omega))
 have hc': ¬i<p.l.length:=by have:=hc;simp only [n1,decide_eq_false_iff_not] at this;omega
 have hil:i=p.l.length:=by omega
 refine e_ 3 rfl (x':=AI (p.l.foldl (addS f) 1)) (by rw [hil,List.take_length]) ?_
 refine A.keep [1,3,5] rfl ?_
 refine A.loopP (ι:=Nat) (fun j=>(⟨[(1, .pe 8 (cellsR p)),(3,AI ((p.gs.take j).foldl (fun n g=>g.body.foldl (addS f) n) (p.l.foldl (addS f) 1))),(5,AI (j:Nat))],[]⟩,[])) (fun j=>j≤p.gs.length) (fun j=>p.gs.length-j) 0 (Nat.zero_le _) rfl fun j hj jh=>?_
 refine y_ ?_
 refine k_ (fun hc=>?_) fun hc=>?_
 ·have hc':j<p.gs.length:=by have:=hc;simp only [n2,decide_eq_true_eq] at this;omega
  refine Exists.elim (at_exN (l:=p.gs) (i:=j) hc') fun g hgj=>?_
  have hgm:=List.mem_of_getElem? hgj
  have htk:p.gs.take (j+1)=p.gs.take j++[g]:=by rw [List.take_add_one,hgj];rfl
  have n3:((encRl g.body).length:Int)=g.body.length:=by rw [encRl_len]
  have hbl:=(smG_all (hsa.g g hgm)).bl
  refine Exists.elim (show∃n0,n0=(p.gs.take j).foldl (fun n g=>g.body.foldl (addS f) n) (p.l.foldl (addS f) 1) from ⟨_,rfl⟩) fun n0 hn0=>?_
  refine e_ 3 rfl (x':=AI n0) (by rw [hn0]) ?_
  refine A.keep [1,3,5,6] rfl ?_
  refine A.loopP (ι:=Nat) (fun t=>(⟨[(1, .pe 8 (cellsR p)),(3,AI ((g.body.take t).foldl (addS f) n0)),(5,AI (j:Nat)),(6,AI (t:Nat))],[]⟩,[])) (fun t=>t≤g.body.length) (fun t=>g.body.length-t) 0 (Nat.zero_le _) rfl fun t ht th=>?_
  refine y_ ?_
  refine i_ rfl (encGl_at hgj) (encG_eq g) ?_
  refine k_ (fun hc=>?_) fun hc=>?_
  ·have hct:t<g.body.length:=by have:=hc;simp only [n3,decide_eq_true_eq] at this;omega
   refine Exists.elim (at_exN (l:=g.body) (i:=t) hct) fun x hx=>?_
   have hsz:=hg g hgm x (List.mem_of_getElem? hx)
   have htk2:g.body.take (t+1)=g.body.take t++[x]:=by rw [List.take_add_one,hx];rfl
   refine y_ ?_
   refine i_ rfl (encGl_at hgj) (encG_eq g) ?_
   refine i_ rfl (encRl_at hx) (encR_eq x) ?_
   refine c_ hsz ?_
   refine A.valE 3 rfl (x':=AI ((g.body.take (t+1)).foldl (addS f) n0)) (by rw [htk2,List.foldl_append];rfl) ?_
   refine A.valE 6 rfl (x':=AI ((t+1:Nat):Int)) (inc_eq t (by omega)) ?_
   refine u_ (th (t+1) (by omega) (by omega))
  have hct: ¬t<g.body.length:=by have:=hc;simp only [n3,decide_eq_false_iff_not] at this;omega
  have htl:t=g.body.length:=by omega
  refine e_ 3 rfl (x':=AI ((p.gs.take (j+1)).foldl (fun n g=>g.body.foldl (addS f) n) (p.l.foldl (addS f) 1))) (by rw [htl,List.take_length,htk,List.foldl_append,←hn0];rfl) ?_
  refine A.valE 5 rfl (x':=AI ((j+1:Nat):Int)) (inc_eq j (by omega)) ?_
  refine u_ (jh (j+1) (by omega) (by omega))
 have hc': ¬j<p.gs.length:=by have:=hc;simp only [n2,decide_eq_false_iff_not] at this;omega
 have hjl:j=p.gs.length:=by omega
 rw [hjl,List.take_length]
 exact yr_
theorem rsz_ex: ∀(m:Nat) (p:PR),SizeOf.sizeOf p≤m→smR p→ ∃n,Pure Tryz.prog gs0 29 [cellsR p] (AI n)
 |0,p,h,_=>by
  obtain ⟨k,c,v,i,to,e,gs,l⟩:=p
  simp only [PR.mk.sizeOf_spec] at h;omega
 |m+1,p,h,hw=>by
  have hwa:=smR_all hw
  obtain ⟨f,hf⟩:=skol18 (S:=fun x=>SizeOf.sizeOf x≤m∧smR x) (P:=fun x n=>Pure Tryz.prog gs0 29 [cellsR x] (AI n)) fun x hx=>rsz_ex m x hx.1 hx.2
  exact ⟨_,rsz_f p hw f (fun x hx=>hf x ⟨by have:=pr_lt hx;omega,hwa.l x hx⟩) (fun g hg x hx=>hf x ⟨by have:=bl_lt hg hx;omega,(smG_all (hwa.g g hg)).body x hx⟩)⟩
theorem fold_szL: ∀(l:List PR) (n:Int),0≤n→n+(szL l:Nat)≤4294967296→l.foldl (addS fun x=>(szR x:Nat)) n=n+(szL l:Nat)
 | [],n,_,_=>by rw [szL];simp
 |x::r,n,h0,h=>by
  rw [szL] at h⊢
  have e:addS (fun x=>(szR x:Nat)) n x=n+(szR x:Nat):=by
   show IntKind.i64.wrap (n+((szR x:Nat):Int))=_
   exact wr64 _ (by omega)
  rw [List.foldl_cons,e,fold_szL r _ (by omega) (by omega)]
  omega
theorem fold_szGs: ∀(l:List GD) (n:Int),0≤n→n+(szGs l:Nat)≤4294967296→l.foldl (fun n g=>g.body.foldl (addS fun x=>(szR x:Nat)) n) n=n+(szGs l:Nat)
 | [],n,_,_=>by rw [szGs];simp
 |g::r,n,h0,h=>by
  rw [szGs,szG_eq] at h⊢
  rw [List.foldl_cons,fold_szL g.body n h0 (by omega),fold_szGs r _ (by omega) (by omega)]
  omega
theorem rsz_n: ∀(m:Nat) (p:PR),SizeOf.sizeOf p≤m→smR p→szR p≤1000000→Pure Tryz.prog gs0 29 [cellsR p] (AI (szR p:Nat))
 |0,p,h,_,_=>by
  obtain ⟨k,c,v,i,to,e,gs,l⟩:=p
  simp only [PR.mk.sizeOf_spec] at h;omega
 |m+1,p,h,hw,hz=>by
  have hwa:=smR_all hw
  have e:=szR_eq p
  have h1:=rsz_f p hw (fun x=>(szR x:Nat)) (fun x hx=>rsz_n m x (by have:=pr_lt hx;omega) (hwa.l x hx) (by have:=szL_le hx;omega))
   (fun g hg x hx=>rsz_n m x (by have:=bl_lt hg hx;omega) ((smG_all (hwa.g g hg)).body x hx) (by have:=szGs_le hg;have:=szL_le hx;rw [szG_eq] at*;omega))
  have e2:sumS (fun x=>(szR x:Nat)) p=(szR p:Nat):=by
   unfold sumS
   rw [fold_szL p.l 1 (by omega) (by omega),fold_szGs p.gs _ (by omega) (by omega)]
   omega
  rw [e2] at h1;exact h1
theorem rsz_p{p:PR}(hw:smR p)(hz:szR p≤1000000):Pure Tryz.prog gs0 29 [cellsR p] (AI (szR p:Nat)):=rsz_n _ p (Nat.le_refl _) hw hz
theorem rsz_if{p:PR}(hw:smR p): ∃n,Pure Tryz.prog gs0 29 [cellsR p] (AI n)∧(szR p≤1000000→n=(szR p:Nat)):=by
 by_cases hz:szR p≤1000000
 ·exact ⟨_,rsz_p hw hz,fun _=>rfl⟩
 ·obtain ⟨n,hn⟩:=rsz_ex _ p (Nat.le_refl _) hw
  exact ⟨n,hn,fun h=>absurd h hz⟩
structure SmN(k:KN):Prop where
 wf:WfN k
 root:smR k.root
structure Fit(k:KN)(s:ST):Prop where
 vars:k.vars.length≤60
 chans:k.chans.length≤70
 procs:k.procs.length≤20
 store:s.store.length≤60
 inn:s.inn.length≤60
 rows: ∀r,r∈s.store→r.length≤70
 size:szR k.root≤1000000→szR k.root≤100
 sizeS:szR s.root≤1000000→szR s.root≤250
theorem large_p(k:KN)(s:ST)(hk:SmN k)(hs:SmS s): ∃b,Pure Tryz.prog gs0 9 [encN k,encST s] (AB b)∧(b=false→Fit k s):=by
 have n1:((k.vars.map encV).length:Int)=k.vars.length:=by rw [List.length_map]
 have n2:((k.chans.map AU8).length:Int)=k.chans.length:=by rw [List.length_map]
 have n3:((k.procs.map AI).length:Int)=k.procs.length:=by rw [List.length_map]
 have n4:((s.store.map rowA).length:Int)=s.store.length:=by rw [List.length_map]
 have n5:((s.inn.map AI32).length:Int)=s.inn.length:=by rw [List.length_map]
 obtain ⟨z1,hz1,he1⟩:=rsz_if hk.root
 obtain ⟨z2,hz2,he2⟩:=rsz_if hs.root
 have hst:=hs.store
 by_cases c1:60<k.vars.length
 ·refine ⟨true,?_,fun h=>by cases h⟩
  refine p_ tt_ok Tryz.func9 58 fun w0 h0 F hgs=>?_;(refine b_ fun bx=>?_;refine b_ fun bx=>?_;refine y_ ?_);refine T_ rfl (by rw [n1];show decide _=true;rw [decide_eq_true_eq];omega) ?_;exact r_
 by_cases c2:70<k.chans.length
 ·refine ⟨true,?_,fun h=>by cases h⟩
  refine p_ tt_ok Tryz.func9 58 fun w0 h0 F hgs=>?_;(refine b_ fun bx=>?_;refine b_ fun bx=>?_;refine y_ ?_);refine F_ rfl (by rw [n1];show decide _=false;rw [decide_eq_false_iff_not];omega) ?_;refine T_ rfl (by rw [n2];show decide _=true;rw [decide_eq_true_eq];omega) ?_;exact r_
 by_cases c3:20<k.procs.length
 ·refine ⟨true,?_,fun h=>by cases h⟩
  refine p_ tt_ok Tryz.func9 58 fun w0 h0 F hgs=>?_;(refine b_ fun bx=>?_;refine b_ fun bx=>?_;refine y_ ?_);refine F_ rfl (by rw [n1];show decide _=false;rw [decide_eq_false_iff_not];omega) ?_;refine F_ rfl (by rw [n2];show decide _=false;rw [decide_eq_false_iff_not];omega) ?_;refine T_ rfl (by rw [n3];show decide _=true;rw [decide_eq_true_eq];omega) ?_;exact r_
 by_cases c4:60<s.store.length
 ·refine ⟨true,?_,fun h=>by cases h⟩
  refine p_ tt_ok Tryz.func9 58 fun w0 h0 F hgs=>?_;(refine b_ fun bx=>?_;refine b_ fun bx=>?_;refine y_ ?_);refine F_ rfl (by rw [n1];show decide _=false;rw [decide_eq_false_iff_not];omega) ?_;refine F_ rfl (by rw [n2];show decide _=false;rw [decide_eq_false_iff_not];omega) ?_;refine F_ rfl (by rw [n3];show decide _=false;rw [decide_eq_false_iff_not];omega) ?_;refine T_ rfl (by rw [n4];show decide _=true;rw [decide_eq_true_eq];omega) ?_;exact r_
 by_cases c5:60<s.inn.length
 ·refine ⟨true,?_,fun h=>by cases h⟩
  refine p_ tt_ok Tryz.func9 58 fun w0 h0 F hgs=>?_;(refine b_ fun bx=>?_;refine b_ fun bx=>?_;refine y_ ?_);refine F_ rfl (by rw [n1];show decide _=false;rw [decide_eq_false_iff_not];omega) ?_;refine F_ rfl (by rw [n2];show decide _=false;rw [decide_eq_false_iff_not];omega) ?_;refine F_ rfl (by rw [n3];show decide _=false;rw [decide_eq_false_iff_not];omega) ?_;refine F_ rfl (by rw [n4];show decide _=false;rw [decide_eq_false_iff_not];omega) ?_;refine T_ rfl (by rw [n5];show decide _=true;rw [decide_eq_true_eq];omega) ?_;exact r_
 refine ⟨(s.store.any fun r=>decide (70<r.length))||(decide (100<z1)||decide (250<z2)),?_,fun h=>?_⟩
 ·generalize hq2:decide (100<z1)=q2
  generalize hq3:decide (250<z2)=q3
  generalize hq1:(s.store.any fun r=>decide (70<r.length))=q1
  refine p_ tt_ok Tryz.func9 58 fun w0 h0 F hgs=>?_;(refine b_ fun bx=>?_;refine b_ fun bx=>?_;refine y_ ?_);refine F_ rfl (by rw [n1];show decide _=false;rw [decide_eq_false_iff_not];omega) ?_;refine F_ rfl (by rw [n2];show decide _=false;rw [decide_eq_false_iff_not];omega) ?_;refine F_ rfl (by rw [n3];show decide _=false;rw [decide_eq_false_iff_not];omega) ?_;refine F_ rfl (by rw [n4];show decide _=false;rw [decide_eq_false_iff_not];omega) ?_;refine F_ rfl (by rw [n5];show decide _=false;rw [decide_eq_false_iff_not];omega) ?_
  refine A.keep [2,3,5] rfl ?_
  refine A.loopP (ι:=Nat) (fun i=>(⟨[(2,_),(3,_),(5,AI (i:Nat))],[]⟩,_)) (fun i=>i≤s.store.length∧ ∀j r,j<i→s.store[j]? =some r→r.length≤70) (fun i=>s.store.length-i) 0 ⟨Nat.zero_le _,fun j r h=>by omega⟩ rfl fun i hi ih=>?_
  refine y_ ?_
  refine k_ (fun hc=>?_) fun hc=>?_
  ·have hci:i<s.store.length:=by have:=hc;simp only [n4,decide_eq_true_eq] at this;omega
   clear hc
   refine Exists.elim (at_exN (l:=s.store) (i:=i) hci) fun r hr=>?_
   have nr:((r.map AI32).length:Int)=r.length:=by rw [List.length_map]
   refine y_ ?_
   refine i_ rfl (map_at hr) rfl ?_
   refine k_ (fun hc=>?_) fun hc=>?_
   ·have hcr:70<r.length:=by have:=hc;simp only [nr,decide_eq_true_eq] at this;omega
    have e:q1=true:=by
     rw [←hq1,List.any_eq_true]
     exact ⟨r,List.mem_of_getElem? hr,decide_eq_true hcr⟩
    rw [e]
    exact yr_
   have hcr: ¬70<r.length:=by have:=hc;simp only [nr,decide_eq_false_iff_not] at this;omega
   refine y_ ?_
   refine A.valE 5 rfl (x':=AI ((i+1:Nat):Int)) (inc_eq i (by omega)) ?_
   refine u_ (ih (i+1) ⟨by omega,fun j r' hj hr'=>?_⟩ (by omega))
   by_cases hji:j=i
   ·rw [hji,hr] at hr';injection hr' with hr';rw [←hr'];omega
   ·exact hi.2 j r' (by omega) hr'
  have hci: ¬i<s.store.length:=by have:=hc;simp only [n4,decide_eq_false_iff_not] at this;omega
  clear hc ih
  have e:q1=false:=by
   rw [←hq1,List.any_eq_false]
   intro r hr
   obtain ⟨j,hj,rfl⟩:=List.getElem_of_mem hr
   have:=hi.2 j _ (by omega) (List.getElem?_eq_getElem hj)
   simp;omega
  rw [e,Bool.false_or]
  refine y_ ?_
  refine n_ hz1 ?_
  cases q2 with
  |true=>
   refine y_ ?_
   refine T_ rfl hq2 ?_;exact r_
  |false=>
   refine y_ ?_
   refine F_ rfl hq2 ?_
   refine c_ hz2 ?_
   refine R_ ?_;exact Sb.eq (ab_eq hq3)
 ·simp only [Bool.or_eq_false_iff,List.any_eq_false,decide_eq_false_iff_not,decide_eq_true_eq] at h
  obtain ⟨h1,h2,h3⟩:=h
  refine ⟨by omega,by omega,by omega,by omega,by omega,fun r hr=>by have:=h1 r hr;omega,fun hz=>?_,fun hz=>?_⟩
  ·have:=he1 hz;omega
  ·have:=he2 hz;omega
def zeroS:ST:=⟨[],⟨0,0,0,0,[],[],[],[]⟩,[],0⟩
theorem start_no(k:KN)(hk:SmN k)(hm:mayK k=false)(inn:List Int):Pure Tryz.prog gs0 11 [encN k,rowA inn] (.tp [encST zeroS,AI 2]):=by
 have h1:=kmay_p k hk.wf
 rw [hm] at h1
 refine p_ tt_ok Tryz.func11 19 fun w0 h0 F hgs=>?_
 (refine b_ fun bx=>?_;refine b_ fun bx=>?_;refine y_ ?_)
 refine c_ h1 ?_
 refine m_ (ResA.cell rfl rfl rfl (ResA.tmp rfl ResA.nil)) ?_;exact s_
theorem rstart_no(k:KN)(hk:SmN k)(hm:mayK k=false)(inn:List Int):Pure Tryz.prog gs0 12 [encN k,rowA inn] (.tp [encST zeroS,AI 2]):=by
 have h1:=rmay16_p k hk.wf
 rw [hm] at h1
 refine p_ tt_ok Tryz.func12 20 fun w0 h0 F hgs=>?_
 (refine b_ fun bx=>?_;refine b_ fun bx=>?_;refine y_ ?_)
 refine c_ h1 ?_
 refine m_ (ResA.cell rfl rfl rfl (ResA.tmp rfl ResA.nil)) ?_;exact s_
theorem start_yes(k:KN)(hk:SmN k)(hm:mayK k=true)(inn:List Int)(hi:inn.length≤35184372088832):Pure Tryz.prog gs0 11 [encN k,rowA inn] (.tp [encST (startS k inn),AI 0]):=by
 have h1:=kmay_p k hk.wf
 rw [hm] at h1
 have h2:=storeS_pN k.vars k.chans k.root k.procs hk.wf.vars
 obtain ⟨w1,w2,w3⟩:=okF_sm (start_root hm hk.wf hk.root)
 have h3:=norm_p k.root w2 w3
 have h4:=copied_p (normR k.root) (norm_sm w2)
 have h5:=cloned_p inn hi
 refine p_ tt_ok Tryz.func11 19 fun w0 h0 F hgs=>?_
 (refine b_ fun bx=>?_;refine b_ fun bx=>?_;refine y_ ?_)
 refine c_ h1 ?_
 refine d_ 9 [0,2,3,6,1,4,5,7,8] [(1,rowsA (storeS k.vars)),(4,cellsR (normR k.root)),(5,cellsR (normR k.root)),(7,rowA inn)] ?_
 refine cw_ h2 ?_
 refine cw_ h3 ?_
 refine cw_ h4 ?_
 refine cw_ h5 ?_
 refine z_ ?_
 refine m_ (ResA.cell rfl rfl rfl (ResA.tmp rfl ResA.nil)) ?_;exact s_
theorem rstart_yes(k:KN)(hk:SmN k)(hm:mayK k=true)(inn:List Int)(hi:inn.length≤1000000):Pure Tryz.prog gs0 12 [encN k,rowA inn] (.tp [encST (startS k inn),AI 0]):=by
 have h1:=rmay16_p k hk.wf
 rw [hm] at h1
 have h2:=rStore_pN k.vars k.chans k.root k.procs hk.wf.vars
 obtain ⟨w1,w2,w3⟩:=okF_sm (start_root hm hk.wf hk.root)
 have h3:=ref_norm_p k.root w2 w3
 refine p_ tt_ok Tryz.func12 20 fun w0 h0 F hgs=>?_
 (refine b_ fun bx=>?_;refine b_ fun bx=>?_;refine y_ ?_)
 refine c_ h1 ?_
 refine A.nilTail 6 1 rfl ?_
 refine A.drawT 7 1 (.slice none 0 0) 9 [0,2,3,5,6,1,4,7,8] noPubs [(1,rowsA (storeS k.vars)),(4,cellsR (normR k.root))] (by decide) (by kernel_rfl) (by kernel_rfl) ?_
 refine w_ ?_
 refine cw_ h2 ?_
 refine cw_ h3 ?_
 refine WA.append rfl rfl rfl rfl rfl rfl rfl rfl rfl rfl rfl rfl rfl rfl rfl rfl rfl rfl (.sub .refl) (by show (0+(inn.map AI32).length)*1≤_;rw [List.length_map];omega) fun z'=>?_
 refine w_ ?_
 refine WA.nil (l:=[.tail 1 z']) rfl ?_
 refine y_ ?_
 refine m_ (ResA.cell rfl rfl rfl (ResA.tmp rfl ResA.nil)) ?_;exact s_
theorem clone_own(x:Int)(r:List Int)(hr:(x::r).length≤35184372088832):FunE Tryz.prog gs0 35 [rowA (x::r)] [] (fun z:Value=> .ms z 1 (x::r).length) (fun z=>[.row 1 z ((x::r).map AI32)]) (fun _=>True):=by
 unfold FunE
 refine Fun.of (S:=tt) (fn:=Tryz.f35) (n:=8) tt_ok Tryz.func35 rfl rfl rfl rfl fun w0 h0 F hgs=>?_
 refine y_ ?_
 refine A.eqNil rfl rfl rfl rfl rfl rfl rfl rfl fun b hb=>?_
 cases b
 case true=>cases hb rfl
 refine y_ ?_
 refine A.lit0 rfl rfl rfl rfl rfl rfl rfl fun bl=>?_;refine y_ ?_;refine A.appendNewW rfl rfl rfl rfl rfl rfl rfl rfl rfl rfl rfl rfl rfl (by show (List.map AI32 _).length*1≤_;rw [List.length_map];omega) (by show (List.map AI32 _).length*1*4≤_;rw [List.length_map];omega) (fun x hx=>by injection hx with hx;subst hx;rfl) (row_one _) fun z=>?_;refine y_ ?_
 refine A.valE 2 rfl (x':= .ms z 1 (x::r).length) (by show AV.ms z _ _=_;congr 1;simp) ?_
 refine A.ret1 (Λ':=[.row 1 z _]) rfl rfl rfl sl_ ⟨z, .refl,rfl,trivial⟩
abbrev stOwn(k:KN)(z:Value)(n:Nat):AV:= .ag [rowsA (storeS k.vars),AU8 (normR k.root).kind,AI (normR k.root).c,AI (normR k.root).v,AU8 (normR k.root).item,plsA (normR k.root).to,kesA (normR k.root).e,gsA (normR k.root).gs,rsA (normR k.root).l, .ms z 1 n,AI32 0]
theorem start_own(k:KN)(hk:SmN k)(hm:mayK k=true)(x:Int)(r:List Int)(hi:(x::r).length≤35184372088832):
 FunE Tryz.prog gs0 11 [encN k,rowA (x::r)] [] (fun z:Value=> .tp [stOwn k z (x::r).length,AI 0]) (fun z=>[.row 1 z ((x::r).map AI32)]) (fun _=>True):=by
 have h1:=kmay_p k hk.wf
 rw [hm] at h1
 have h2:=storeS_pN k.vars k.chans k.root k.procs hk.wf.vars
 obtain ⟨w1,w2,w3⟩:=okF_sm (start_root hm hk.wf hk.root)
 have h3:=norm_p k.root w2 w3
 have h4:=copied_p (normR k.root) (norm_sm w2)
 have h5:=clone_own x r hi
 unfold FunE
 refine Fun.of (S:=tt) (fn:=Tryz.f11) (n:=19) tt_ok Tryz.func11 rfl rfl rfl rfl fun w0 h0 F hgs=>?_
 (refine b_ fun bx=>?_;refine b_ fun bx=>?_;refine y_ ?_)
 refine c_ h1 ?_
 refine A.draw 9 [0,2,3,6,1,4,5,7,8] (fun i=>if i=7 then [7] else []) [(1,rowsA (storeS k.vars)),(4,cellsR (normR k.root)),(5,cellsR (normR k.root))] (by kernel_rfl) (by kernel_rfl) ?_
 refine w_ ?_
 refine cw_ h2 ?_
 refine cw_ h3 ?_
 refine cw_ h4 ?_
 refine WA.callG rfl rfl rfl rfl rfl rfl rfl rfl rfl h5 s_ fun z _=>?_
 refine w_ ?_
 refine WA.nil (l:=[.row 1 z _]) rfl ?_
 refine y_ ?_
 refine A.retN (Λ':=[.row 1 z _]) rfl rfl (ResA.cell rfl rfl rfl (ResA.tmp rfl ResA.nil)) sl_ ⟨z,s_,rfl,trivial⟩
theorem evSt(a b c d:Int):EqSt Tryz.prog 57 [.int .i64 a, .int .i32 b] [.int .i64 c, .int .i32 d] (a==c&&b==d) where
 guard:=by kernel_rfl
 run:=fun w=>by
  have hS:Tryz.prog.underlying 57=some (.struct (Tryz.prog.fieldsOf 57)):=by kernel_rfl
  have hF:(Tryz.prog.fieldsOf 57).toList=(#[⟨"C",3,0,false, "", "",0⟩,⟨"V",21,1,false, "", "",8⟩]:Array Field).toList:=by kernel_rfl
  have hp:Tryz.prog.stoodInHeld 57=false:=by kernel_rfl
  have u1:Tryz.prog.underlying 3=some (.int .i64):=by kernel_rfl
  have u2:Tryz.prog.underlying 21=some (.int .i32):=by kernel_rfl
  have k1:=TT.Ok.get tt_ok (show tt.get 3=some _ from rfl)
  have k2:=TT.Ok.get tt_ok (show tt.get 21=some _ from rfl)
  have p1: ∀(x y:Int),(part 3 ⟨[.int .i64 x, .int .i32 y]⟩ 0).run Tryz.prog w= .ok (.int .i64 x) w:=fun x y=>run_part k1 rfl
  have p2: ∀(x y:Int),(part 21 ⟨[.int .i64 x, .int .i32 y]⟩ 1).run Tryz.prog w= .ok (.int .i32 y) w:=fun x y=>run_part k2 rfl
  have q1:=run_equalIn_int (P:=Tryz.prog) w 9998 3 .i64 .i64 a c u1
  have q2:=run_equalIn_int (P:=Tryz.prog) w 9998 21 .i32 .i32 b d u2
  rw [show (10000:Nat)=9999+1 from rfl,run_equalIn_agg w 9999 _ _ _ hS hp,hF]
  simp only [Op.eqFields,ne_eq,Sem.run_bind,Sem.run_ite,p1,p2,q1,q2,Result.andThen_ok,Sem.run_pure]
  cases h1:(a==c)<;>cases h2:(b==d)<;>simp
abbrev knum(n:Int):KE:=⟨1,0,0,n,0,[]⟩
abbrev kvar(v:Int):KE:=⟨2,0,0,0,v,[]⟩
theorem lnum_p(n:Int):Pure Tryz.prog gs0 55 [AI32 n] (encK (knum n)):=by
 refine p_ tt_ok Tryz.func55 5 fun w0 h0 F hgs=>?_
 (refine b_ fun bx=>?_;refine y_ ?_);refine A.retC (Λ':=[]) rfl rfl rfl rfl rfl (List.nil_sublist _) ⟨?_,rfl⟩;exact s_
theorem lvar_p(n:Int):Pure Tryz.prog gs0 56 [AI n] (encK (kvar n)):=by
 refine p_ tt_ok Tryz.func56 5 fun w0 h0 F hgs=>?_
 (refine b_ fun bx=>?_;refine y_ ?_);refine A.retC (Λ':=[]) rfl rfl rfl rfl rfl (List.nil_sublist _) ⟨?_,rfl⟩;exact s_
abbrev pOut:PR:=⟨6,2,0,1,[],[knum 5],[],[]⟩
abbrev pIn:PR:=⟨5,2,0,1,[⟨0,[]⟩],[],[],[]⟩
abbrev pTell:PR:=⟨6,1,0,1,[],[kvar 0],[],[]⟩
abbrev pSeq:PR:=⟨9,0,0,0,[],[],[],[pIn,pTell]⟩
abbrev pRoot:PR:=⟨10,0,0,0,[],[],[],[pOut,pSeq]⟩
abbrev sampleK:KN:=⟨[⟨1,0⟩],[1,2,0],pRoot,[]⟩
theorem sample_p:Pure Tryz.prog gs0 30 [] (encN sampleK):=by
 have h1:=lnum_p 5
 have h2:=lvar_p 0
 refine p_ tt_ok Tryz.func30 26 fun w0 h0 F hgs=>?_
 (refine b_ fun bx=>?_;refine y_ ?_)
 refine n_ h1 ?_
 (refine t_ fun bl=>?_;refine b_ fun bx=>?_;refine t_ fun bl=>?_;refine b_ fun bx=>?_;refine y_ ?_)
 refine n_ h2 ?_
 (refine t_ fun bl=>?_;refine b_ fun bx=>?_;refine t_ fun bl=>?_;refine b_ fun bx=>?_;refine t_ fun bl=>?_;refine t_ fun bl=>?_;refine t_ fun bl=>?_;refine y_ ?_)
 refine A.retC (Λ':=[]) rfl rfl rfl rfl rfl (List.nil_sublist _) ⟨?_,rfl⟩;exact s_
theorem sample_may:mayK sampleK=true:=by kernel_rfl
theorem zero_may:mayK ⟨[],[],⟨0,0,0,0,[],[],[],[]⟩,[]⟩=false:=by kernel_rfl
theorem sample_sm:SmN sampleK where
 wf:=⟨by decide,by decide,by decide,by simp [wfR,wfRl,wfGl,wfKl,wfK,wfPl,i32,i64,Go.Tp.u8]⟩
 root:=by simp [smR,smRl,smGl,smK,smKl,smP]
theorem zero_sm:SmN ⟨[],[],⟨0,0,0,0,[],[],[],[]⟩,[]⟩ where
 wf:=⟨by decide,by decide,by decide,by simp [wfR,wfRl,wfGl,wfKl,wfK,wfPl,i32,i64,Go.Tp.u8]⟩
 root:=by simp [smR,smRl,smGl,smK,smKl,smP]
abbrev rt1:PR:=⟨10,0,0,0,[],[],[],[skipR,pTell]⟩
abbrev st0:ST:=⟨[[0]],pRoot,[],0⟩
abbrev st1:ST:=⟨[[5]],rt1,[],0⟩
abbrev st2:ST:=⟨[[5]],skipR,[],0⟩
theorem start0:startS sampleK []=st0:=by kernel_rfl
theorem mv0:movesM st0=[⟨2,2,5,st1⟩,⟨3,0,0,⟨[[0]],pRoot,[],1⟩⟩]:=by kernel_rfl
theorem mv1:movesM st1=[⟨2,1,5,st2⟩,⟨3,0,0,⟨[[5]],rt1,[],1⟩⟩]:=by kernel_rfl
theorem mv2:movesM st2=[⟨3,0,0,⟨[[5]],skipR,[],1⟩⟩]:=by kernel_rfl
theorem good0:GoodK sampleK st0:=by
 have:=start_good sample_may sample_sm.wf sample_sm.root (inn:=[]) (fun x h=>by cases h) (by decide)
 rw [start0] at this;exact this
theorem good1:GoodK sampleK st1:=(moves_good good0 ⟨2,2,5,st1⟩ (by rw [mv0];exact .head _)).1
theorem good2:GoodK sampleK st2:=(moves_good good1 ⟨2,1,5,st2⟩ (by rw [mv1];exact .head _)).1
theorem wt0:wtR st0.root≤8000:=by decide+kernel
theorem wt1:wtR st1.root≤8000:=by decide+kernel
theorem wt2:wtR st2.root≤8000:=by decide+kernel
theorem GoodK.sms{k:KN}{s:ST}(h:GoodK k s):SmS s:=⟨by have:=h.innl;omega,h.short,(okF_sm h.root).2.1⟩
theorem head_p:Pure Tryz.prog gs0 10 [] (AB true):=by
 have h1:=start_yes sampleK sample_sm sample_may [] (by decide)
 rw [start0] at h1
 have h2:=sdone_p st0 good0.sms.root
 have e2:doneR st0.root=false:=by decide+kernel
 rw [e2] at h2
 have h3:=smay_p sampleK st0 good0
 have h4:=moves_p sampleK st0 good0 wt0
 rw [mv0] at h4
 have h5:=moves_p sampleK st1 good1 wt1
 rw [mv1] at h5
 have h6:=moves_p sampleK st2 good2 wt2
 rw [mv2] at h6
 have h7:=start_no ⟨[],[],⟨0,0,0,0,[],[],[],[]⟩,[]⟩ zero_sm zero_may []
 have h8:=sdone_p st2 good2.sms.root
 have e8:doneR st2.root=true:=by decide+kernel
 rw [e8] at h8
 have h9:=ssame_p st0 st2 good0.sms
 have e9:sameStB st0 st2=false:=by decide+kernel
 rw [e9] at h9
 have h10:=ssame_p st0 st0 good0.sms
 have e10:sameStB st0 st0=true:=by decide+kernel
 rw [e10] at h10
 refine p_ tt_ok Tryz.func10 158 fun w0 h0 F hgs=>?_
 refine y_ ?_
 refine n_ sample_p ?_
 (refine b_ fun bx=>?_;refine y_ ?_)
 refine n_ h1 ?_
 (refine b_ fun bx=>?_;refine y_ ?_)
 refine c_ h2 ?_
 refine c_ h3 ?_
 refine c_ h4 ?_
 refine i_ rfl rfl rfl ?_
 refine i_ rfl rfl rfl ?_
 refine A.eqSt rfl rfl rfl rfl rfl rfl rfl rfl (evSt 2 5 2 5) ?_
 refine y_ ?_
 refine i_ rfl rfl rfl ?_
 refine i_ rfl rfl rfl ?_
 refine d_ 6 [0,1,2,3,4,5] [(5, .sl 14 (movsA [⟨2,1,5,st2⟩,⟨3,0,0,⟨[[5]],rt1,[],1⟩⟩]) none)] ?_
 refine iw_ rfl rfl rfl ?_
 refine WA.c rfl rfl h5 (.sub s_) ?_
 refine z_ ?_
 refine i_ rfl rfl rfl ?_
 refine A.eqSt rfl rfl rfl rfl rfl rfl rfl rfl (evSt 1 5 1 5) ?_
 refine y_ ?_
 refine i_ rfl rfl rfl ?_
 refine i_ rfl rfl rfl ?_
 refine i_ rfl rfl rfl ?_
 refine i_ rfl rfl rfl ?_
 refine i_ rfl rfl rfl ?_
 refine i_ rfl rfl rfl ?_
 refine d_ 6 [0,1,2,3,4,5] [(5, .sl 14 (movsA [⟨3,0,0,⟨[[5]],skipR,[],1⟩⟩]) none)] ?_
 refine iw_ rfl rfl rfl ?_
 refine WA.c rfl rfl h6 (.sub s_) ?_
 refine z_ ?_
 refine n_ h7 ?_
 (refine b_ fun bx=>?_;refine y_ ?_)
 refine d_ 35 [0,1,2,3,4,5,6,7,8,9,10,11,12,13,14,15,16,17,18,19,20,21,22,23,24,25,26,27,28,29,30,31,32,33,34] [(4,AB true),(27,AB false),(33,AB true)] ?_
 refine iw_ rfl rfl rfl ?_
 refine cw_ h8 ?_
 refine iw_ rfl rfl rfl ?_
 refine iw_ rfl rfl rfl ?_
 refine cw_ h9 ?_
 refine cw_ h10 ?_
 refine z_ ?_
 exact r_
abbrev inS(inn:List Int):ST:=⟨[],⟨0,0,0,0,[],[],[],[]⟩,inn,0⟩
theorem inS_sm{inn:List Int}(h:inn.length≤281474976710656):SmS (inS inn):=⟨h,⟨Nat.zero_le _,fun r hr=>by cases hr⟩,by simp [smR,smRl,smGl]⟩
theorem zeroS_sm:SmS zeroS:=inS_sm (inn:=[]) (Nat.zero_le _)
structure Good1(k:KN)(inn:List Int):Prop where
 may:mayK k=true
 fit:Fit k (inS inn)
theorem first_p(k:KN)(hk:SmN k)(inn:List Int)(hi:inn.length≤35184372088832): ∃b,Pure Tryz.prog gs0 18 [encN k,rowA inn] (.tp [encST (if b then startS k inn else zeroS),AB b])∧(b=true→Good1 k inn):=by
 obtain ⟨b0,hl,hf⟩:=large_p k (inS inn) hk (inS_sm (by show inn.length≤_;omega))
 cases b0 with
 |true=>
  refine ⟨false,?_,fun h=>by cases h⟩
  refine p_ tt_ok Tryz.func18 33 fun w0 h0 F hgs=>?_
  (refine b_ fun bx=>?_;refine b_ fun bx=>?_;refine y_ ?_)
  refine c_ hl ?_
  refine m_ (ResA.cell rfl rfl rfl (ResA.tmp rfl ResA.nil)) ?_;exact s_
 |false=>
  have hf:=hf rfl
  have hm:=rmay16_p k hk.wf
  cases hmk:mayK k with
  |false=>
   rw [hmk] at hm
   refine ⟨false,?_,fun h=>by cases h⟩
   refine p_ tt_ok Tryz.func18 33 fun w0 h0 F hgs=>?_
   (refine b_ fun bx=>?_;refine b_ fun bx=>?_;refine y_ ?_)
   refine c_ hl ?_
   refine c_ hm ?_
   refine m_ (ResA.cell rfl rfl rfl (ResA.tmp rfl ResA.nil)) ?_;exact s_
  |true=>
   rw [hmk] at hm
   refine ⟨true,?_,fun _=>⟨hmk,hf⟩⟩
   have hs:=start_yes k hk hmk inn hi
   have hst:=store_ok (may_sounds hmk)
   have hmb:=rMay_pN k.vars k.chans k.root k.procs (storeS k.vars) hk.wf.vars (by
    rw [storeS_eq hmk]
    have:=hst.small
    exact ⟨by have:=this.1;omega,fun r hr=>by have:=this.2 r hr;omega⟩)
   rw [show mayB k.vars (storeS k.vars)=true from by rw [storeS_eq hmk];exact hst.may] at hmb
   refine p_ tt_ok Tryz.func18 33 fun w0 h0 F hgs=>?_
   refine y_ ?_
   refine A.b rfl fun b2=>?_
   refine A.b rfl fun b4=>?_
   refine y_ ?_
   refine c_ hl ?_
   refine c_ hm ?_
   refine n_ hs ?_
   (refine b_ fun bx=>?_;refine y_ ?_)
   refine A.drawB 0 b4 (x:= .ag (List.map AV.v ty39.zero)) 10 [0,1,2,3,4,5,6,7,8,9] (fun i=>if i=9 then [0] else []) [(7,AB true)] (by decide) (by kernel_rfl) (by kernel_rfl) ?_
   refine w_ ?_
   refine cw_ hmb ?_
   refine WA.store rfl rfl rfl rfl rfl rfl rfl rfl rfl rfl ?_
   refine WA.nil (l:=[.box b4 _]) rfl ?_
   refine y_ ?_
   refine m_ (ResA.cell rfl rfl rfl (ResA.tmp rfl ResA.nil)) ?_;exact s_
theorem alike_self{α:Type}{f:α→α→Bool}(hf: ∀x,f x x=true)(l:List α):alikeB f l l=true:=by
 have h: ∀n,n≤l.length→allEq f l l n=true:=fun n=>by
  induction n with
  |zero=>intro _;rfl
  |succ n ih=>
   intro hn
   obtain ⟨x,hx⟩:=at_exN (l:=l) (i:=n) (by omega)
   rw [allEq_succ f hx hx,ih (by omega),hf];rfl
 unfold alikeB
 rw [h _ (Nat.le_refl _)];simp
theorem sameSt_refl(a:ST):sameStB a a=true:=by
 unfold sameStB
 have h1:wordsB a.inn a.inn=true:=alike_self (fun x=>by simp) _
 have h2:sameB a.store a.store=true:=alike_self (fun x=>alike_self (fun x=>by simp) _) _
 rw [h1,h2,eqR_refl];simp
theorem pick_p(ms:List MV)(n:Int)(hn:Go.Tp.u8 n)(h0:0<ms.length)(hl:ms.length≤100000000): ∃m,m∈ms∧Pure Tryz.prog gs0 21 [.sl 14 (movsA ms) none,AU8 n] (encMV m):=by
 unfold Go.Tp.u8 at hn
 obtain ⟨q,rfl⟩: ∃q:Nat,n=(q:Int):=⟨n.toNat,by omega⟩
 have hlt:q % ms.length<ms.length:=Nat.mod_lt _ h0
 obtain ⟨m,hm⟩:=at_exN (l:=ms) (i:=q % ms.length) hlt
 refine ⟨m,List.mem_of_getElem? hm,?_⟩
 have n1:((movsA ms).length:Int)=ms.length:=by rw [List.length_map]
 refine p_ tt_ok Tryz.func21 13 fun w0 h0 F hgs=>?_
 (refine b_ fun bx=>?_;refine y_ ?_)
 refine A.valE 7 rfl (x':=AI (q:Int)) (ai_eq (wr64 _ (by omega))) ?_
 refine A.valE 9 rfl (x':=AI (ms.length:Nat)) (ai_eq n1) ?_
 refine A.divrem rfl rfl rfl rfl rfl rfl rfl (by omega) ?_
 refine A.valE 10 rfl (x':=AI ((q % ms.length:Nat):Int)) (ai_eq (by
  show Int.tmod (q:Int) (ms.length:Nat)=_
  rfl)) ?_
 refine i_ rfl (map_at hm) rfl ?_
 refine A.retC (Λ':=[]) rfl rfl rfl rfl rfl (List.nil_sublist _) ⟨?_,rfl⟩;exact .refl
theorem moves_len{k:KN}{s:ST}(hg:GoodK k s)(hw:wtR s.root≤8000):(realM s).length≤64008000:=by
 have h1:=acts_len hg
 have h2:=part_len (s:=s) (by omega) (actsM s).length
 unfold partM at h2
 rw [List.take_length] at h2
 exact h2
structure Walk(k:KN)(s:ST):Prop where
 good:GoodK k s
 wt:wtR s.root≤8000
theorem Walk.step{k:KN}{s:ST}(h:Walk k s){m:MV}(hm:m∈movesM s):Walk k m.next:=by
 have:=moves_good h.good m hm
 exact ⟨this.1,Nat.le_trans this.2 h.wt⟩
theorem Good1.walk{k:KN}{inn:List Int}(h:Good1 k inn)(hk:SmN k)(hi: ∀x,x∈inn→i32 x):Walk k (startS k inn) where
 good:=start_good h.may hk.wf hk.root hi (by have:=h.fit.inn;have e:(inS inn).inn.length=inn.length:=rfl;omega)
 wt:=by
  have h1:=may_fits h.may
  obtain ⟨_,f2,_⟩:=h1
  exact start_wt h.may (h.fit.size (by omega)) inn
theorem Walk.moves{k:KN}{s:ST}(h:Walk k s):Pure Tryz.prog gs0 19 [encN k,encST s] (.sl 14 (movsA (movesM s)) none):=moves_p k s h.good h.wt
abbrev bytA(l:List Int):AV:= .sl 1 (l.map AU8) none
inductive MK(s:ST)(m:MV):Prop
 |tau (h: ∃nx,m=⟨1,0,0,nx⟩∧nx.time=s.time)
 |comm (h: ∃ec ev nx,m=⟨2,ec,ev,nx⟩∧nx.time=s.time)
theorem real_mk{s:ST}{m:MV}(h:m∈realM s):MK s m:=by
 have h1:=real_kind m h
 obtain ⟨kd,ec,ev,nx⟩:=m
 obtain ⟨h2,h3⟩:=h1
 rcases h2 with ⟨rfl,rfl,rfl⟩|rfl
 ·exact .tau ⟨nx,rfl,h3⟩
 ·exact .comm ⟨ec,ev,nx,rfl,h3⟩
theorem reaches_law(k:KN)(hk:SmN k)(inn:List Int)(hi: ∀x,x∈inn→i32 x)(hil:inn.length≤35184372088832)(pk:List Int)(hp: ∀x,x∈pk→Go.Tp.u8 x)(hpl:pk.length≤281474976710656):Pure Tryz.prog gs0 5 [encN k,rowA inn,bytA pk] (AB true):=by
 obtain ⟨b0,hf,hg⟩:=first_p k hk inn hil
 have n1:((pk.map AU8).length:Int)=pk.length:=by rw [List.length_map]
 cases b0 with
 |false=>
  refine p_ tt_ok Tryz.func5 148 fun w0 h0 F hgs=>?_
  (refine b_ fun bx=>?_;refine y_ ?_)
  refine n_ hf ?_
  ((refine b_ fun bx=>?_;refine y_ ?_);exact cr_ head_p)
 |true=>
 have hw:=(hg rfl).walk hk hi
 by_cases h40:40<pk.length
 ·refine p_ tt_ok Tryz.func5 148 fun w0 h0 F hgs=>?_
  (refine b_ fun bx=>?_;refine y_ ?_)
  refine n_ hf ?_
  (refine b_ fun bx=>?_;refine y_ ?_)
  refine A.gT rfl (by rw [n1];show (bif false then true else decide _)=true;simp;omega) ?_
  (refine y_ ?_;exact cr_ head_p)
 refine p_ tt_ok Tryz.func5 148 fun w0 h0 F hgs=>?_
 refine y_ ?_
 refine A.b rfl fun b3=>?_
 refine y_ ?_
 refine c_ hf ?_
 refine A.b rfl fun b7=>?_
 refine y_ ?_
 refine F_ rfl (by rw [n1];show (bif false then true else decide _)=false;simp;omega) ?_
 refine A.keep [2,3,7,9] rfl ?_
 refine A.loopP (ι:=Nat×ST) (fun u=>(⟨[(2,bytA pk),(3,ptrA b3),(7,ptrA b7),(9,AI (u.1:Nat))],[]⟩,[.box b7 (encST u.2), .box b3 (encN k)])) (fun u=>u.1≤pk.length∧Walk k u.2) (fun u=>pk.length-u.1) (0,startS k inn) ⟨Nat.zero_le _,hw⟩ rfl fun u hu ih=>?_
 obtain ⟨i,s⟩:=u
 obtain ⟨hi1,hws⟩:=hu
 simp only at hi1 hws
 have hmay:=smay_p k s hws.good
 have hsm:=hws.good.sms
 refine y_ ?_
 refine k_ (fun hc=>?_) fun hc=>?_
 ·have hci:i<pk.length:=by have:=hc;simp only [n1,decide_eq_true_eq] at this;omega
  clear hc
  refine Exists.elim (at_exN (l:=pk) (i:=i) hci) fun n hn=>?_
  have hml:=moves_len hws.good hws.wt
  have hmp:=moves_pos s
  have hmt:=moves_tick s
  have hmv:=hws.moves
  have hdn:=sdone_p s hsm.root
  have hsame:=ssame_p s s hsm
  rw [sameSt_refl] at hsame
  refine Exists.elim (pick_p (movesM s) n (hp n (List.mem_of_getElem? hn)) (by omega) (by omega)) fun m hm=>?_
  have hws':=hws.step hm.1
  have hpk:=hm.2
  clear hm
  have n2:((movsA (movesM s)).length:Int)=((realM s).length:Nat)+1:=by rw [List.length_map];omega
  refine Exists.elim (show∃d,d=doneR s.root from ⟨_,rfl⟩) fun d hd=>?_
  rw [←hd] at hdn
  have hd1:d=true→(realM s).length=0:=fun h=>by
   have:=moves_done (s:=s) (by rw [←hd];exact h)
   have h2:(movesM s).length=1:=by rw [this];rfl
   omega
  refine y_ ?_
  refine c_ hmv ?_
  refine c_ hmay ?_
  refine F_ rfl (by show (bif false then true else _)=false;rw [n2];simp;omega) ?_
  refine c_ hdn ?_
  have hd2:d=true→(((movsA (movesM s)).length:Int) !=1)=false:=fun h=>by rw [n2,hd1 h];rfl
  clear hd hd1
  have e57:IntKind.i64.wrap (((movsA (movesM s)).length:Int)-1)=((realM s).length:Nat):=by rw [n2,wr64 _ (by omega)];omega
  have et:(IntKind.i32.wrap (s.time+1) !=IntKind.i32.wrap (s.time+1))=false:=by simp
  cases d
  case' true=>refine y_ ?_;refine A.gF rfl (hd2 rfl) ?_
  all_goals
   refine y_ ?_
   refine A.valE 57 rfl (x':=AI ((realM s).length:Nat)) (ai_eq e57) ?_
   refine i_ rfl (map_at hmt) rfl ?_
   refine A.b rfl fun b11=>?_
   refine y_ ?_
   refine F_ rfl (by exact et) ?_
   refine c_ hsame ?_
   refine A.keep [2,3,7,9,10,12] rfl ?_
   refine l_ (Λ':=[.box b7 (encST s), .box b3 (encN k)]) ?_
   refine A.loopP (ι:=Nat) (fun j=>(⟨[(2,bytA pk),(3,ptrA b3),(7,ptrA b7),(9,AI (i:Nat)),(10, .sl 14 (movsA (movesM s)) none),(12,AI (j:Nat))],[]⟩,[.box b7 (encST s), .box b3 (encN k)])) (fun j=>j≤(movesM s).length) (fun j=>(movesM s).length-j) 0 (Nat.zero_le _) rfl fun j hj jh=>?_
   refine y_ ?_
   refine A.valE 83 rfl (x':=AI ((movesM s).length:Nat)) (ai_eq (by rw [List.length_map])) ?_
   refine k_ (fun hc=>?_) fun hc=>?_
   ·have hcj:j<(movesM s).length:=by simpa using hc
    clear hc
    by_cases hjr:j=(realM s).length
    ·have hmj:=hmt
     rw [←hjr] at hmj
     have e97:(((j:Nat):Int)==IntKind.i64.wrap (((movsA (movesM s)).length:Int)-1))=true:=by rw [e57,hjr];simp
     refine y_ ?_
     refine d_ 45 [0,1,2,3,4,5,6,7,8,9,10,11,12,13,14,15,16,17,18,19,20,21,22,23,24,25,26,27,28,29,30,31,32,33,34,35,36,37,38,39,40,41,42,43,44] [] ?_
     refine iw_ rfl (map_at hmj) rfl ?_
     refine Fw_ rfl (by rw [e97];rfl) ?_
     refine iw_ rfl (map_at hmj) rfl ?_
     refine WA.gT rfl rfl ?_
     refine iw_ rfl (map_at hmj) rfl ?_
     refine WA.eqSt rfl rfl rfl rfl rfl rfl rfl rfl rfl (evSt 0 0 0 0) ?_
     refine w_ ?_
     refine WA.gF rfl rfl ?_
     refine iw_ rfl (map_at hmj) rfl ?_
     refine z_ ?_
     refine A.valE 12 rfl (x':=AI ((j+1:Nat):Int)) (inc_eq j (by omega)) ?_
     refine u_ (jh (j+1) (by omega) (by omega))
    ·have hjl:j<(realM s).length:=by omega
     have e97:(((j:Nat):Int)==IntKind.i64.wrap (((movsA (movesM s)).length:Int)-1))=false:=by rw [e57,beq_eq_false_iff_ne];omega
     refine Exists.elim (at_exN (l:=movesM s) (i:=j) hcj) fun mj hmj=>?_
     cases real_mk (moves_real hjl hmj) with
     |tau h=>
      obtain ⟨nx,rfl,htm⟩:=h
      refine y_ ?_
      refine d_ 45 [0,1,2,3,4,5,6,7,8,9,10,11,12,13,14,15,16,17,18,19,20,21,22,23,24,25,26,27,28,29,30,31,32,33,34,35,36,37,38,39,40,41,42,43,44] [] ?_
      refine iw_ rfl (map_at hmj) rfl ?_
      refine Fw_ rfl (by rw [e97];rfl) ?_
      refine iw_ rfl (map_at hmj) rfl ?_
      refine WA.gT rfl rfl ?_
      refine iw_ rfl (map_at hmj) rfl ?_
      refine WA.eqSt rfl rfl rfl rfl rfl rfl rfl rfl rfl (evSt 0 0 0 0) ?_
      refine w_ ?_
      refine WA.gF rfl rfl ?_
      refine iw_ rfl (map_at hmj) rfl ?_
      refine WA.gT rfl rfl ?_
      refine iw_ rfl (map_at hmj) rfl ?_
      refine z_ ?_
      refine F_ rfl (by show (bif false then true else bif true then (nx.time !=s.time) else false)=false;rw [htm];simp) ?_
      refine A.valE 12 rfl (x':=AI ((j+1:Nat):Int)) (inc_eq j (by omega)) ?_
      refine u_ (jh (j+1) (by omega) (by omega))
     |comm h=>
      obtain ⟨ec,ev,nx,rfl,htm⟩:=h
      refine y_ ?_
      refine d_ 45 [0,1,2,3,4,5,6,7,8,9,10,11,12,13,14,15,16,17,18,19,20,21,22,23,24,25,26,27,28,29,30,31,32,33,34,35,36,37,38,39,40,41,42,43,44] [] ?_
      refine iw_ rfl (map_at hmj) rfl ?_
      refine Fw_ rfl (by rw [e97];rfl) ?_
      refine iw_ rfl (map_at hmj) rfl ?_
      refine WA.gF rfl rfl ?_
      refine WA.gF rfl rfl ?_
      refine iw_ rfl (map_at hmj) rfl ?_
      refine WA.gT rfl rfl ?_
      refine iw_ rfl (map_at hmj) rfl ?_
      refine z_ ?_
      refine F_ rfl (by show (bif false then true else bif true then (nx.time !=s.time) else false)=false;rw [htm];simp) ?_
      refine A.valE 12 rfl (x':=AI ((j+1:Nat):Int)) (inc_eq j (by omega)) ?_
      refine u_ (jh (j+1) (by omega) (by omega))
   clear hc jh
   refine y_ ?_
   refine i_ rfl (map_at hn) rfl ?_
   refine c_ hpk ?_
   refine A.valE 9 rfl (x':=AI ((i+1:Nat):Int)) (inc_eq i (by omega)) ?_
   refine u_ (ih (i+1,m.next) ⟨by show i+1≤_;omega,hws'⟩ (by show _-(i+1)<_-i;omega))
 clear hc ih
 refine y_ ?_
 refine n_ hmay ?_
 (refine y_ ?_;exact cr_ head_p)
end Go.Proofs.YthdgpbgjmbkleaaGreat
namespace Go.Proofs.YthdgpbgjmbkleaaGreat
open Go Go.Tp Go.ChangeShapes Go.WideShapes Go.ChangeAt Go.RowKit
theorem own:ownKnob Tryz.prog.godebug=none:=by kernel_rfl
theorem laidOut:laidOutB Tryz.prog=true:=by kernel_rfl
section
variable{H:Type}{enc:TypeId×Value→H}{W:World}{base:Nat}{sp:Nat→Bool}{hd:Bool}
abbrev cellsKl(e:KE):List AV:=[AU8 e.kind,AU8 e.oper,AU8 e.to,AI32 e.n,AI e.v, .sl 6 (encKl e.l) none]
abbrev cellsRl(p:PR):List AV:=[AU8 p.kind,AI p.c,AI p.v,AU8 p.item,plsA p.to,kesA p.e,gsA p.gs,rsA p.l]
abbrev cellsGl(g:GD):List AV:=[AU8 g.kind,AU8 g.cond.kind,AU8 g.cond.oper,AU8 g.cond.to,AI32 g.cond.n,AI g.cond.v,kesA g.cond.l,AI g.c,AU8 g.item,AI g.to.v,kesA g.to.ix,AU8 g.time.kind,AU8 g.time.oper,AU8 g.time.to,AI32 g.time.n,AI g.time.v,kesA g.time.l,rsA g.body]
theorem encKl_ag(l:List KE):encKl l=l.map fun e=> .ag (cellsKl e):=by rw [encKl_map];congr 1;funext e;exact encK_eq e
theorem encRl_ag(l:List PR):encRl l=l.map fun e=> .ag (cellsRl e):=by rw [encRl_map];congr 1;funext e;exact encR_eq e
theorem encGl_ag(l:List GD):encGl l=l.map fun e=> .ag (cellsGl e):=by rw [encGl_map];congr 1;funext e;exact encG_eq e
abbrev OkE(e:KE):Prop:=wfK e∧smK e
abbrev OkP(p:PL):Prop:=wfPl p∧smP p
abbrev OkR(p:PR):Prop:=wfR p∧smR p
abbrev OkG(g:GD):Prop:=wfG g∧smG g
theorem okEl_of: ∀{l:List KE},(∀a,a∈l→OkE a)→wfKl l∧smKl l
 | [],_=>by rw [wfKl,smKl];exact ⟨trivial,trivial⟩
 |x::r,h=>by
  have h1:=h x (List.mem_cons_self ..)
  have h2:=okEl_of (l:=r) fun a ha=>h a (List.mem_cons_of_mem _ ha)
  rw [wfKl,smKl];exact ⟨⟨h1.1,h2.1⟩,⟨h1.2,h2.2⟩⟩
theorem okRl_of: ∀{l:List PR},(∀a,a∈l→OkR a)→wfRl l∧smRl l
 | [],_=>by rw [wfRl,smRl];exact ⟨trivial,trivial⟩
 |x::r,h=>by
  have h1:=h x (List.mem_cons_self ..)
  have h2:=okRl_of (l:=r) fun a ha=>h a (List.mem_cons_of_mem _ ha)
  rw [wfRl,smRl];exact ⟨⟨h1.1,h2.1⟩,⟨h1.2,h2.2⟩⟩
theorem okGl_of: ∀{l:List GD},(∀a,a∈l→OkG a)→wfGl l∧smGl l
 | [],_=>by rw [wfGl,smGl];exact ⟨trivial,trivial⟩
 |x::r,h=>by
  have h1:=h x (List.mem_cons_self ..)
  have h2:=okGl_of (l:=r) fun a ha=>h a (List.mem_cons_of_mem _ ha)
  rw [wfGl,smGl];exact ⟨⟨h1.1,h2.1⟩,⟨h1.2,h2.2⟩⟩
theorem op_ke: ∀n,Opn enc Tryz.prog W base sp hd n 94 cellsKl OkE
 |0=>Opn.zero
 |n+1=>by
  have ih:=op_ke n
  have hl:=(Opn.sliceA (t:=27) (sz:=6) (bt:=40) (by kernel_rfl) (by kernel_rfl) (by kernel_rfl) (by decide) ih).mono (Nat.le_succ n)
  have hf:=OpnF.cons (f:=⟨"Kind",91,0,false, "", "",0⟩) (Opn.u8 (by kernel_rfl) n) rfl 1 (by kernel_rfl) (OpnF.cons (f:=⟨"Oper",92,1,false, "", "",1⟩) (Opn.u8 (by kernel_rfl) n) rfl 1 (by kernel_rfl)
   (OpnF.cons (f:=⟨"To",25,2,false, "", "",2⟩) (Opn.u8 (by kernel_rfl) n) rfl 1 (by kernel_rfl) (OpnF.cons (f:=⟨"N",21,3,false, "", "",4⟩) (Opn.i32 (by kernel_rfl) n) rfl 1 (by kernel_rfl)
   (OpnF.cons (f:=⟨"V",3,4,false, "", "",8⟩) (Opn.i64 (by kernel_rfl) n) rfl 1 (by kernel_rfl) (OpnF.cons (f:=⟨"L",27,5,false, "", "",16⟩) hl rfl 1 (by kernel_rfl) OpnF.nil)))))
  refine (Opn.struct (t:=94) (sz:=6) (fs:= #[⟨"Kind",91,0,false, "", "",0⟩,⟨"Oper",92,1,false, "", "",1⟩,⟨"To",25,2,false, "", "",2⟩,⟨"N",21,3,false, "", "",4⟩,⟨"V",3,4,false, "", "",8⟩,⟨"L",27,5,false, "", "",16⟩]) (by kernel_rfl) (by kernel_rfl) hf (by kernel_rfl)).map (fun p=>⟨p.1,p.2.1,p.2.2.1,p.2.2.2.1,p.2.2.2.2.1,p.2.2.2.2.2.1⟩) (fun p=>?_) (fun p hp=>?_)
  ·show cellsKl _=[_]++([_]++([_]++([_]++([_]++([AV.sl 6 _ none]++[])))))
   rw [←encKl_ag];rfl
  ·obtain ⟨k,o,t,n,s,l,u⟩:=p
   obtain ⟨h1,h2,h3,h4,h5,⟨h6,h7⟩,_⟩:=hp
   have h8:=okEl_of h6
   unfold reachBytes at h7
   refine ⟨?_,?_⟩
   ·rw [wfK];exact ⟨⟨h1,h2,h3,h4,h5⟩,h8.1⟩
   ·rw [smK];exact ⟨Nat.le_trans h7 (by decide),h8.2⟩
theorem op_kes(n:Nat):Opn enc Tryz.prog W base sp hd n 27 (fun l:List KE=>[kesA l]) (fun l=>(∀x,x∈l→OkE x)∧l.length*40≤140737488355328):=by
 refine ((Opn.sliceA (t:=27) (sz:=6) (bt:=40) (by kernel_rfl) (by kernel_rfl) (by kernel_rfl) (by decide) (op_ke n)).mono (Nat.le_succ n)).map (fun l=>l) (fun l=>?_) (fun l h=>⟨h.1,by have:=h.2;unfold reachBytes at this;exact Nat.le_trans this (by decide)⟩)
 show [AV.sl 6 (encKl l) none]=_
 rw [encKl_ag]
theorem op_pl(n:Nat):Opn enc Tryz.prog W base sp hd n 96 (fun p:PL=>[AI p.v,kesA p.ix]) OkP:=by
 have hf:=OpnF.cons (f:=⟨"V",3,0,false, "", "",0⟩) (Opn.i64 (enc:=enc) (P:=Tryz.prog) (W:=W) (base:=base) (sp:=sp) (hd:=hd) (by kernel_rfl) n) rfl 1 (by kernel_rfl) (OpnF.cons (f:=⟨"Index",27,1,false, "", "",8⟩) (op_kes n) rfl 1 (by kernel_rfl) OpnF.nil)
 exact ((Opn.struct (t:=96) (sz:=2) (fs:= #[⟨"V",3,0,false, "", "",0⟩,⟨"Index",27,1,false, "", "",8⟩]) (by kernel_rfl) (by kernel_rfl) hf (by kernel_rfl)).mono (Nat.le_succ n)).map (fun p=>⟨p.1,p.2.1⟩) (fun p=>rfl) (fun p hp=>⟨(okEl_of hp.2.1.1).1,hp.2.1.2,fun x hx=>(hp.2.1.1 x hx).2⟩)
theorem op_pls(n:Nat):Opn enc Tryz.prog W base sp hd n 26 (fun l:List PL=>[plsA l]) (fun l=>(∀t,t∈l→OkP t)∧l.length*32≤140737488355328):=
 ((Opn.sliceA (t:=26) (sz:=2) (bt:=32) (by kernel_rfl) (by kernel_rfl) (by kernel_rfl) (by decide) (op_pl n)).mono (Nat.le_succ n)).map (fun l=>l) (fun l=>rfl) (fun l h=>⟨h.1,by have:=h.2;unfold reachBytes at this;exact Nat.le_trans this (by decide)⟩)
theorem op_prs{n:Nat}(ih:Opn enc Tryz.prog W base sp hd n 31 cellsRl OkR):Opn enc Tryz.prog W base sp hd n 29 (fun l:List PR=>[rsA l]) (fun l=>(∀t,t∈l→OkR t)∧l.length*128≤140737488355328):=by
 refine ((Opn.sliceA (t:=29) (sz:=8) (bt:=128) (by kernel_rfl) (by kernel_rfl) (by kernel_rfl) (by decide) ih).mono (Nat.le_succ n)).map (fun l=>l) (fun l=>?_) (fun l h=>⟨h.1,by have:=h.2;unfold reachBytes at this;exact Nat.le_trans this (by decide)⟩)
 show [AV.sl 8 (encRl l) none]=_
 rw [encRl_ag]
theorem op_gd{n:Nat}(ih:Opn enc Tryz.prog W base sp hd n 31 cellsRl OkR):Opn enc Tryz.prog W base sp hd n 98 cellsGl OkG:=by
 have hf:=OpnF.cons (f:=⟨"Kind",90,0,false, "", "",0⟩) (Opn.u8 (enc:=enc) (P:=Tryz.prog) (W:=W) (base:=base) (sp:=sp) (hd:=hd) (by kernel_rfl) n) rfl 1 (by kernel_rfl) (OpnF.cons (f:=⟨"Cond",94,1,false, "", "",8⟩) (op_ke n) rfl 6 (by kernel_rfl)
  (OpnF.cons (f:=⟨"C",3,7,false, "", "",48⟩) (Opn.i64 (by kernel_rfl) n) rfl 1 (by kernel_rfl) (OpnF.cons (f:=⟨"Item",25,8,false, "", "",56⟩) (Opn.u8 (by kernel_rfl) n) rfl 1 (by kernel_rfl)
  (OpnF.cons (f:=⟨"To",96,9,false, "", "",64⟩) (op_pl n) rfl 2 (by kernel_rfl) (OpnF.cons (f:=⟨"Time",94,11,false, "", "",96⟩) (op_ke n) rfl 6 (by kernel_rfl)
  (OpnF.cons (f:=⟨"Body",29,17,false, "", "",136⟩) (op_prs ih) rfl 1 (by kernel_rfl) OpnF.nil))))))
 refine ((Opn.struct (t:=98) (sz:=18) (fs:= #[⟨"Kind",90,0,false, "", "",0⟩,⟨"Cond",94,1,false, "", "",8⟩,⟨"C",3,7,false, "", "",48⟩,⟨"Item",25,8,false, "", "",56⟩,⟨"To",96,9,false, "", "",64⟩,⟨"Time",94,11,false, "", "",96⟩,⟨"Body",29,17,false, "", "",136⟩]) (by kernel_rfl) (by kernel_rfl) hf (by kernel_rfl)).mono (Nat.le_succ n)).map (fun p=>⟨p.1,p.2.1,p.2.2.1,p.2.2.2.1,p.2.2.2.2.1,p.2.2.2.2.2.1,p.2.2.2.2.2.2.1⟩) (fun p=>rfl) (fun p hp=>?_)
 obtain ⟨h1,h2,h3,h4,h5,h6,⟨h7,h8⟩,_⟩:=hp
 have h9:=okRl_of h7
 refine ⟨?_,?_⟩
 ·rw [wfG];exact ⟨⟨h2.1,h6.1,h5.1⟩,h9.1⟩
 ·rw [smG];exact ⟨⟨h2.2,h6.2,h5.2,h8⟩,h9.2⟩
theorem op_gds{n:Nat}(ih:Opn enc Tryz.prog W base sp hd n 31 cellsRl OkR):Opn enc Tryz.prog W base sp hd n 28 (fun l:List GD=>[gsA l]) (fun l=>(∀t,t∈l→OkG t)∧l.length*160≤140737488355328):=by
 refine ((Opn.sliceA (t:=28) (sz:=18) (bt:=160) (by kernel_rfl) (by kernel_rfl) (by kernel_rfl) (by decide) (op_gd ih)).mono (Nat.le_succ n)).map (fun l=>l) (fun l=>?_) (fun l h=>⟨h.1,by have:=h.2;unfold reachBytes at this;exact Nat.le_trans this (by decide)⟩)
 show [AV.sl 18 (encGl l) none]=_
 rw [encGl_ag]
theorem op_pr: ∀n,Opn enc Tryz.prog W base sp hd n 31 cellsRl OkR
 |0=>Opn.zero
 |n+1=>by
  have ih:=op_pr n
  have hf:=OpnF.cons (f:=⟨"Kind",24,0,false, "", "",0⟩) (Opn.u8 (enc:=enc) (P:=Tryz.prog) (W:=W) (base:=base) (sp:=sp) (hd:=hd) (by kernel_rfl) n) rfl 1 (by kernel_rfl) (OpnF.cons (f:=⟨"C",3,1,false, "", "",8⟩) (Opn.i64 (by kernel_rfl) n) rfl 1 (by kernel_rfl)
   (OpnF.cons (f:=⟨"V",3,2,false, "", "",16⟩) (Opn.i64 (by kernel_rfl) n) rfl 1 (by kernel_rfl) (OpnF.cons (f:=⟨"Item",25,3,false, "", "",24⟩) (Opn.u8 (by kernel_rfl) n) rfl 1 (by kernel_rfl)
   (OpnF.cons (f:=⟨"To",26,4,false, "", "",32⟩) (op_pls n) rfl 1 (by kernel_rfl) (OpnF.cons (f:=⟨"E",27,5,false, "", "",56⟩) (op_kes n) rfl 1 (by kernel_rfl)
   (OpnF.cons (f:=⟨"Guards",28,6,false, "", "",80⟩) (op_gds ih) rfl 1 (by kernel_rfl) (OpnF.cons (f:=⟨"L",29,7,false, "", "",104⟩) (op_prs ih) rfl 1 (by kernel_rfl) OpnF.nil)))))))
  refine (Opn.struct (t:=31) (sz:=8) (fs:= #[⟨"Kind",24,0,false, "", "",0⟩,⟨"C",3,1,false, "", "",8⟩,⟨"V",3,2,false, "", "",16⟩,⟨"Item",25,3,false, "", "",24⟩,⟨"To",26,4,false, "", "",32⟩,⟨"E",27,5,false, "", "",56⟩,⟨"Guards",28,6,false, "", "",80⟩,⟨"L",29,7,false, "", "",104⟩]) (by kernel_rfl) (by kernel_rfl) hf (by kernel_rfl)).map (fun p=>⟨p.1,p.2.1,p.2.2.1,p.2.2.2.1,p.2.2.2.2.1,p.2.2.2.2.2.1,p.2.2.2.2.2.2.1,p.2.2.2.2.2.2.2.1⟩) (fun p=>rfl) (fun p hp=>?_)
  obtain ⟨h1,h2,h3,h4,⟨h5,h5'⟩,⟨h6,h6'⟩,⟨h7,h7'⟩,⟨h8,h8'⟩,_⟩:=hp
  have h9:=okRl_of h8
  have h10:=okGl_of h7
  refine ⟨?_,?_⟩
  ·rw [wfR];exact ⟨⟨fun t ht=>(h5 t ht).1,(okEl_of h6).1,by omega,by omega,by omega⟩,h10.1,h9.1⟩
  ·rw [smR];exact ⟨⟨fun t ht=>(h5 t ht).2,fun x hx=>(h6 x hx).2,h5',h6',h7',h8'⟩,h10.2,h9.2⟩
theorem op_vars(n:Nat):Opn enc Tryz.prog W base sp hd n 22 (fun l:List KV=>[varsA l]) (fun l=>l.length≤281474976710656):=by
 have hf:=OpnF.cons (f:=⟨"Kind",25,0,false, "", "",0⟩) (Opn.u8 (enc:=enc) (P:=Tryz.prog) (W:=W) (base:=base) (sp:=sp) (hd:=hd) (by kernel_rfl) n) rfl 1 (by kernel_rfl) (OpnF.cons (f:=⟨"Dim",3,1,false, "", "",8⟩) (Opn.i64 (by kernel_rfl) n) rfl 1 (by kernel_rfl) OpnF.nil)
 have hv:Opn enc Tryz.prog W base sp hd n 102 (fun v:KV=>[AU8 v.kind,AI v.dim]) (fun _=>True):=((Opn.struct (t:=102) (sz:=2) (fs:= #[⟨"Kind",25,0,false, "", "",0⟩,⟨"Dim",3,1,false, "", "",8⟩]) (by kernel_rfl) (by kernel_rfl) hf (by kernel_rfl)).mono (Nat.le_succ n)).map (fun p=>⟨p.1,p.2.1⟩) (fun p=>rfl) (fun p hp=>trivial)
 exact ((Opn.sliceA (t:=22) (sz:=2) (bt:=16) (by kernel_rfl) (by kernel_rfl) (by kernel_rfl) (by decide) hv).mono (Nat.le_succ n)).map (fun l=>l) (fun l=>rfl) (fun l h=>by have:=h.2;unfold reachBytes at this;omega)
theorem op_chans(n:Nat):Opn enc Tryz.prog W base sp hd n 23 (fun l:List Int=>[chsA l]) (fun l=>l.length≤281474976710656):=
 ((Opn.slice1 (t:=23) (e:=109) (bt:=1) (by kernel_rfl) (by kernel_rfl) (by kernel_rfl) (Opn.u8 (by kernel_rfl) n)).mono (Nat.le_succ n)).map (fun l=>l) (fun l=>rfl) (fun l h=>by have:=h.2;unfold reachBytes at this;omega)
theorem op_ints(n:Nat):Opn enc Tryz.prog W base sp hd n 32 (fun l:List Int=>[intsA l]) (fun l=>l.length≤281474976710656):=
 ((Opn.slice1 (t:=32) (e:=3) (bt:=8) (by kernel_rfl) (by kernel_rfl) (by kernel_rfl) (Opn.i64 (by kernel_rfl) n)).mono (Nat.le_succ n)).map (fun l=>l) (fun l=>rfl) (fun l h=>by have:=h.2;unfold reachBytes at this;omega)
abbrev cellsN(k:KN):List AV:=[varsA k.vars,chsA k.chans,AU8 k.root.kind,AI k.root.c,AI k.root.v,AU8 k.root.item,plsA k.root.to,kesA k.root.e,gsA k.root.gs,rsA k.root.l,intsA k.procs]
theorem op_kernel(n:Nat):Opn enc Tryz.prog W base sp hd n 34 cellsN SmN:=by
 have hf:=OpnF.cons (f:=⟨"Vars",22,0,false, "", "",0⟩) (op_vars (enc:=enc) (W:=W) (base:=base) (sp:=sp) (hd:=hd) n) rfl 1 (by kernel_rfl) (OpnF.cons (f:=⟨"Chans",23,1,false, "", "",24⟩) (op_chans n) rfl 1 (by kernel_rfl)
  (OpnF.cons (f:=⟨"Root",31,2,false, "", "",48⟩) (op_pr n) rfl 8 (by kernel_rfl) (OpnF.cons (f:=⟨"Procs",32,10,false, "", "",176⟩) (op_ints n) rfl 1 (by kernel_rfl) OpnF.nil)))
 refine ((Opn.struct (t:=34) (sz:=11) (fs:= #[⟨"Vars",22,0,false, "", "",0⟩,⟨"Chans",23,1,false, "", "",24⟩,⟨"Root",31,2,false, "", "",48⟩,⟨"Procs",32,10,false, "", "",176⟩]) (by kernel_rfl) (by kernel_rfl) hf (by kernel_rfl)).mono (Nat.le_succ n)).map (fun p=>⟨p.1,p.2.1,p.2.2.1,p.2.2.2.1⟩) (fun p=>rfl) (fun p hp=>?_)
 obtain ⟨h1,h2,h3,h4,_⟩:=hp
 exact ⟨⟨h1,h2,h4,h3.1⟩,h3.2⟩
theorem argKern{v:Value}{d:DataW H}{p:List MemPlace}(hval:Value.okWide Tryz.prog W .any base 34 v)(h:DataW.Trod enc Tryz.prog W 0 (fun _=>true) true 34 v d p)(hw:Wt Tryz.prog 34 d):
 ∃k:KN,SmN k∧Rp (hOf W) (encN k) v:=by
 obtain ⟨k,h1,h2⟩:=arg_struct (fs:= #[⟨"Vars",22,0,false, "", "",0⟩,⟨"Chans",23,1,false, "", "",24⟩,⟨"Root",31,2,false, "", "",48⟩,⟨"Procs",32,10,false, "", "",176⟩]) (by kernel_rfl) op_kernel hval h hw
 exact ⟨k,h1,h2⟩
abbrev QR32(l:List Int):Prop:=(∀x,x∈l→i32 x)∧l.length*4≤reachBytes
theorem op_row(n:Nat):Opn enc Tryz.prog W base sp hd (n+1) 35 (fun l=>[rowA l]) QR32:=
 Opn.slice1 (bt:=4) (by kernel_rfl) (by kernel_rfl) (by kernel_rfl) (Opn.i32 (t:=21) (by kernel_rfl) n)
theorem argRow{v:Value}{d:DataW H}{p:List MemPlace}(hval:Value.okWide Tryz.prog W .any base 35 v)(h:DataW.Trod enc Tryz.prog W 0 (fun _=>true) true 35 v d p)(hw:Wt Tryz.prog 35 d):
 ∃l:List Int,((∀x,x∈l→i32 x)∧l.length≤35184372088832)∧Rp (hOf W) (rowA l) v:=by
 obtain ⟨l,⟨h1,h2⟩,h3⟩:=arg_slice (e:=21) (t:=35) (en:=fun l:List Int=>rowA l) (by kernel_rfl) (fun n=>(op_row n).mono (Nat.le_succ n)) hval h hw
 unfold reachBytes at h2
 exact ⟨l,⟨h1,by omega⟩,h3⟩
theorem argBytes{v:Value}{d:DataW H}{p:List MemPlace}(hval:Value.okWide Tryz.prog W .any base 50 v)(h:DataW.Trod enc Tryz.prog W 0 (fun _=>true) true 50 v d p)(hw:Wt Tryz.prog 50 d):
 ∃l:List Int,((∀x,x∈l→Go.Tp.u8 x)∧l.length≤281474976710656)∧Rp (hOf W) (bytA l) v:=by
 obtain ⟨l,⟨h1,h2⟩,h3⟩:=arg_slice (e:=5) (t:=50) (en:=fun l:List Int=>bytA l) (by kernel_rfl) (fun n=>((Opn.slice1 (bt:=1) (by kernel_rfl) (by kernel_rfl) (by kernel_rfl) (Opn.u8 (t:=5) (by kernel_rfl) n)).mono (Nat.le_succ n))) hval h hw
 unfold reachBytes at h2
 exact ⟨l,⟨h1,by omega⟩,h3⟩
end
end Go.Proofs.YthdgpbgjmbkleaaGreat
