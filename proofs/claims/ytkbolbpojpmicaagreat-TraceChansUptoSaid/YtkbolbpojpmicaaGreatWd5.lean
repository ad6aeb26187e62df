/-
  Texts P19a P19b P19c P19d P19e P19f P20b P20c Q16g Q16h Q16i Q16j Q16k Q16l Q16m Q16n Q16o Q16p Q16q Q16r Q16s Q16t Q16u Q18a Q18b Q18c Q18d Q18e Q18f Q18g Q18s Q18h P18a P18b Q18i Q18j Q18k P18c Q17h Q17j Q17k Q18l P18d Q18m Q18q Q18r Q18n Q18o Q18p Q18t Q18v Q18w. Conditions: as each theorem says.
-/
import Derived.Test.YtkbolbpojpmicaaGreatWd3
import Derived.Test.YtkbolbpojpmicaaGreatWd4
import Derived.Test.YtkbolbpojpmicaaGreatWd2
set_option linter.unusedVariables false
set_option linter.unusedSimpArgs false
set_option maxRecDepth 100000
set_option maxHeartbeats 4000000
namespace Go.Proofs.YtkbolbpojpmicaaGreat
open Go Go.Tp
abbrev Sto:=List (List Int)
abbrev ENd:=Nat×Sto
structure RN where
 reach:Nat
 ends:List ENd
 miss:Bool
def addE(l:List ENd)(x:ENd):List ENd:=if x∈l then l else l++[x]
def joinR(r:RN)(n:Nat)(q:RN):RN:=⟨max r.reach (n+q.reach),q.ends.foldl (fun l e=>addE l (n+e.1,e.2)) r.ends,r.miss||q.miss⟩
def finR(s:Sto):RN:=⟨0,[(0,s)],false⟩
def nilR:RN:=⟨0,[],false⟩
def asg19(s:Sto):List PL->List KE->Sto->Option Sto
 | [],_,out=>some out
 |_::_,[],_=>none
 |to::r,e::es,out=>match valueM s e with
  |none=>none
  |some x=>match placeM s to.v to.ix with
   |none=>none
   |some q=>asg19 s r es (putM out q.1 q.2 x)
def thenM(first:RN)(k:Nat->Sto->RN):RN:=first.ends.foldl (fun r e=>joinR r e.1 (k e.1 e.2)) ⟨first.reach,[],first.miss⟩
def inp19(op:List Int)(t:TR)(c item:Int)(to:PL)(s:Sto):Option Sto:=match placeM s to.v to.ix with
 |none=>none
 |some q=>match t with
  | []=>none
  |e::_=>if c∈op/\e.1=c/\fitsB item e.2=true then some (putM s q.1 q.2 e.2) else none
def out19(op:List Int)(t:TR)(c:Int)(e:KE)(s:Sto):Bool:=match valueM s e with
 |none=>false
 |some x=>decide (c∈op)&&decide (t.head? =some (c,x))
def clrM(s:Sto)(v:Int):Sto:=(List.range (match s[v.toNat]? with|some r=>r.length|none=>0)).foldl (fun s i=>putM s v (i:Nat) 0) s
def onlyT(t:TR)(ch:List Int):TR:=t.filter fun e=>ch.contains e.1
mutual
def rawC:PR->List Int
 |⟨k,c,_,_,_,_,gs,l⟩=>(if k=5\/k=6 then [c] else [])++(rawCl l++rawCg gs)
def rawCl:List PR->List Int
 | []=>[]
 |p::r=>rawC p++rawCl r
def rawCg:List GD->List Int
 | []=>[]
 |⟨k,_,c,_,_,_,b⟩::r=>(if k=3 then [c] else [])++(rawCl b++rawCg r)
end
def chansM(p:PR):List Int:=canI (rawC p)
def whileM(cond:Sto->Option Int)(body:Nat->TR->Sto->RN):Nat->TR->Sto->RN
 |f,t,s=>match cond s with
  |none=>nilR
  |some v=>if v=0 then finR s else match f with
   |0=>⟨0,[],true⟩
   |f+1=>thenM (body f t s) fun n s'=>thenM (whileM cond body f (t.drop n) s') fun _ s''=>finR s''
def mergeM(s out x:Sto):Sto:=(List.range x.length).foldl (fun out (v:Nat)=>(List.range (match x[v]? with|some r=>r.length|none=>0)).foldl (fun out (i:Nat)=>if atM x v i=atM s v i then out else putM out v i ((atM x v i).getD 0)) out) out
def pick19(s:Sto):List (List Sto)->Sto->List Sto
 | [],out=>[out]
 |b::r,out=>b.flatMap fun x=>pick19 s r (mergeM s out x)
def endsAt(r:RN)(n:Nat):List Sto:=(r.ends.filter fun e=>decide (e.1=n)).map (·.2)
def meetR(s:Sto)(rs:List RN)(cn:List Nat)(n:Nat)(r:RN):RN:=⟨n,(pick19 s (rs.zipWith endsAt cn) s).foldl (fun l x=>addE l (n,x)) r.ends,r.miss⟩
def cntM(chs:List (List Int))(cn:List Nat)(c:Int):List Nat:=chs.zipWith (fun ch n=>if ch.contains c then n+1 else n) cn
def canStep(chs:List (List Int))(rs:List RN)(cn:List Nat)(c:Int):Bool:=chs.any (fun ch=>ch.contains c)&&((cntM chs cn c).zip rs).all fun x=>decide (x.1<=x.2.reach)
def parGo(chs:List (List Int))(rs:List RN)(s:Sto):TR->Nat->List Nat->RN->RN
 | [],n,cn,r=>meetR s rs cn n r
 |e::t,n,cn,r=>if canStep chs rs cn e.1=true then parGo chs rs s t (n+1) (cntM chs cn e.1) (meetR s rs cn n r) else meetR s rs cn n r
def parM(chs:List (List Int))(rs:List RN)(t:TR)(s:Sto):RN:=parGo chs rs s t 0 (chs.map fun _=>0) ⟨0,[],rs.any (·.miss)⟩
def openM(op:List Int)(all:List (List Int))(i:Nat):List Int:=op++((all.take i).flatten++(all.drop (i+1)).flatten)
def gdsOk(s:Sto)(gs:List GD):Bool:=gs.all fun g=>(valueM s g.cond).isSome
mutual
def runR(f:Nat)(op:List Int)(t:TR)(s:Sto):PR->RN
 |⟨k,c,v,it,to,e,gs,l⟩=>
  if k=1 then finR s
  else if k=3 then finR (clrM s v)
  else if k=4 then (match asg19 s to e s with|some s'=>finR s'|none=>nilR)
  else if k=5 then (match to with|q::_=>(match inp19 op t c it q s with|some s'=>joinR nilR 1 (finR s')|none=>nilR)| []=>nilR)
  else if k=6 then (match e with|x::_=>if out19 op t c x s=true then joinR nilR 1 (finR s) else nilR| []=>nilR)
  else if k=9 then seqR19 f op t s l
  else if k=13 then (match e with|x::_=>whileM (fun s=>valueM s x) (fun f' t' s'=>bodR19 f' op t' s' l) f t s| []=>nilR)
  else if k=12 then ifR f op t s gs
  else if k=14\/k=15 then (if gdsOk s gs=true then altR f op t s gs nilR else nilR)
  else if k=10\/k=11 then parM (l.map chansM) (brsR f op (l.map chansM) 0 t s l) t s
  else nilR
def bodR19(f:Nat)(op:List Int)(t:TR)(s:Sto):List PR->RN
 | []=>nilR
 |p::_=>runR f op t s p
def seqR19(f:Nat)(op:List Int)(t:TR)(s:Sto):List PR->RN
 | []=>finR s
 |p::r=>thenM (runR f op t s p) fun n s'=>seqR19 f op (t.drop n) s' r
def ifR(f:Nat)(op:List Int)(t:TR)(s:Sto):List GD->RN
 | []=>nilR
 |⟨_,cd,_,_,_,_,b⟩::r=>match valueM s cd with
  |none=>nilR
  |some v=>if v=0 then ifR f op t s r else joinR nilR 0 (bodR19 f op t s b)
def altR(f:Nat)(op:List Int)(t:TR)(s:Sto):List GD->RN->RN
 | [],acc=>acc
 |⟨k,cd,c,it,to,_,b⟩::r,acc=>if valueM s cd=some 0 then altR f op t s r acc
  else if k=3 then (match inp19 op t c it to s with
   |some s'=>altR f op t s r (joinR acc 1 (bodR19 f op (t.drop 1) s' b))
   |none=>altR f op t s r acc)
  else altR f op t s r (joinR acc 0 (bodR19 f op t s b))
def brsR(f:Nat)(op:List Int)(all:List (List Int))(i:Nat)(t:TR)(s:Sto):List PR->List RN
 | []=>[]
 |p::r=>runR f (openM op all i) (onlyT t ((all[i]?).getD [])) s p::brsR f op all (i+1) t s r
end
structure WfRN(r:RN)(n:Nat):Prop where
 len:r.reach<=n
 le: ∀e,e∈r.ends->e.1<=r.reach
 nod:r.ends.Nodup
theorem mem_addE{l:List ENd}{x y:ENd}:y∈addE l x↔y∈l\/y=x:=by
 unfold addE
 split
 ·rename_i h
  exact ⟨.inl,fun h'=>h'.elim id fun e=>e▸h⟩
 ·simp
theorem nod_addE{l:List ENd}(h:l.Nodup)(x:ENd):(addE l x).Nodup:=by
 unfold addE
 split
 ·exact h
 ·rename_i hn
  refine List.nodup_append.2 ⟨h,List.nodup_cons.2 ⟨by simp,List.nodup_nil⟩,fun a ha b hb=>?_⟩
  rw [List.mem_singleton.1 hb];intro e;rw [e] at ha;exact hn ha
theorem mem_addAll{n:Nat}{y:ENd}: ∀(q:List ENd) (l:List ENd),y∈q.foldl (fun l e=>addE l (n+e.1,e.2)) l↔y∈l\/ ∃e,e∈q/\y=(n+e.1,e.2)
 | [],l=>by simp
 |e::r,l=>by
  rw [List.foldl_cons,mem_addAll r,mem_addE]
  constructor
  ·rintro ((h|h)|⟨x,hx,h⟩)
   ·exact .inl h
   ·exact .inr ⟨e,List.mem_cons_self ..,h⟩
   ·exact .inr ⟨x,List.mem_cons_of_mem _ hx,h⟩
  ·rintro (h|⟨x,hx,h⟩)
   ·exact .inl (.inl h)
   ·rcases List.mem_cons.1 hx with rfl|hx
    ·exact .inl (.inr h)
    ·exact .inr ⟨x,hx,h⟩
theorem nod_addAll{n:Nat}: ∀(q:List ENd) (l:List ENd),l.Nodup->(q.foldl (fun l e=>addE l (n+e.1,e.2)) l).Nodup
 | [],l,h=>h
 |e::r,l,h=>nod_addAll r _ (nod_addE h _)
theorem WfRN.join{r q:RN}{n m:Nat}(h:WfRN r m)(hq:WfRN q (m-n))(hn:n<=m):WfRN (joinR r n q) m:=by
 have h1:=h.len
 have h2:=hq.len
 refine ⟨by show max _ _<=m;omega,fun e he=>?_,nod_addAll _ _ h.nod⟩
 show e.1<=max _ _
 rcases (mem_addAll _ _).1 he with he|⟨x,hx,rfl⟩
 ·have:=h.le e he;omega
 ·have:=hq.le x hx;show n+x.1<=_;omega
theorem wf_fin(s:Sto)(n:Nat):WfRN (finR s) n:=⟨Nat.zero_le _,fun e he=>by rw [List.mem_singleton.1 he];exact Nat.le_refl _,List.nodup_cons.2 ⟨by simp,List.nodup_nil⟩⟩
theorem wf_nil(n:Nat):WfRN nilR n:=⟨Nat.zero_le _,fun e he=>(by cases he),List.nodup_nil⟩
theorem WfRN.andThen{first:RN}{k:Nat->Sto->RN}{m:Nat}(h:WfRN first m)(hk: ∀e,e∈first.ends->WfRN (k e.1 e.2) (m-e.1)):WfRN (thenM first k) m:=by
 have key: ∀(q:List ENd) (r:RN),(∀e,e∈q->e∈first.ends)->WfRN r m->WfRN (q.foldl (fun r e=>joinR r e.1 (k e.1 e.2)) r) m:=by
  intro q
  induction q with
  |nil=>intro r _ h;exact h
  |cons e q ih=>
   intro r hq hr
   have he:=hq e (List.mem_cons_self ..)
   exact ih _ (fun x hx=>hq x (List.mem_cons_of_mem _ hx)) (hr.join (hk e he) (Nat.le_trans (h.le e he) h.len))
 exact key first.ends _ (fun e he=>he) ⟨h.len,fun e he=>(by cases he),List.nodup_nil⟩
structure Cut(n:Nat)(r r':RN):Prop where
 reach:r'.reach=min n r.reach
 ends:r'.ends=r.ends.filter fun e=>decide (e.1<=n)
 miss:r'.miss=true->r.miss=true
theorem cut_fin(n:Nat)(s:Sto):Cut n (finR s) (finR s):=⟨by simp [finR],by simp [finR],id⟩
theorem cut_nil(n:Nat):Cut n nilR nilR:=⟨by simp [nilR],by simp [nilR],id⟩
theorem filter_addE(n:Nat)(l:List ENd)(x:ENd):(addE l x).filter (fun e=>decide (e.1<=n))=if x.1<=n then addE (l.filter fun e=>decide (e.1<=n)) x else l.filter fun e=>decide (e.1<=n):=by
 unfold addE
 by_cases hx:x.1<=n
 ·rw [if_pos hx]
  by_cases h:x∈l
  ·rw [if_pos h,if_pos (List.mem_filter.2 ⟨h,by simpa using hx⟩)]
  ·rw [if_neg h,if_neg (fun h'=>h (List.mem_filter.1 h').1),List.filter_append]
   simp [hx]
 ·rw [if_neg hx]
  split
  ·rfl
  ·rw [List.filter_append];simp [hx]
theorem filter_addAll{n m:Nat}(hm:m<=n): ∀(q l:List ENd),(q.foldl (fun l e=>addE l (m+e.1,e.2)) l).filter (fun e=>decide (e.1<=n))=(q.filter fun e=>decide (e.1<=n-m)).foldl (fun l e=>addE l (m+e.1,e.2)) (l.filter fun e=>decide (e.1<=n))
 | [],l=>rfl
 |e::q,l=>by
  rw [List.foldl_cons,filter_addAll hm q,filter_addE,List.filter_cons]
  by_cases h:e.1<=n-m
  ·rw [if_pos (show m+e.1<=n by omega),if_pos (by simpa using h),List.foldl_cons]
  ·rw [if_neg (show¬m+e.1<=n by omega),if_neg (by simpa using h)]
theorem filter_addOut{n m:Nat}(hm:n<m): ∀(q l:List ENd),(q.foldl (fun l e=>addE l (m+e.1,e.2)) l).filter (fun e=>decide (e.1<=n))=l.filter fun e=>decide (e.1<=n)
 | [],l=>rfl
 |e::q,l=>by rw [List.foldl_cons,filter_addOut hm q,filter_addE,if_neg (show¬m+e.1<=n by omega)]
theorem Cut.join{n m:Nat}{r r' q q':RN}(h:Cut n r r')(hq:Cut (n-m) q q')(hm:m<=n):Cut n (joinR r m q) (joinR r' m q'):=by
 refine ⟨?_,?_,fun he=>?_⟩
 ·show max r'.reach (m+q'.reach)=min n (max r.reach (m+q.reach))
  rw [h.reach,hq.reach];omega
 ·show q'.ends.foldl _ r'.ends=(q.ends.foldl _ r.ends).filter _
  rw [filter_addAll hm,h.ends,hq.ends]
 ·have he:(r'.miss||q'.miss)=true:=he
  show (r.miss||q.miss)=true
  rw [Bool.or_eq_true] at he⊢
  exact he.imp h.miss hq.miss
theorem Cut.joinOut{n m:Nat}{r r':RN}(h:Cut n r r')(q:RN)(hm:n<m)(hr:n<=r.reach):Cut n (joinR r m q) r':=by
 refine ⟨?_,?_,fun he=>?_⟩
 ·show r'.reach=min n (max r.reach (m+q.reach))
  rw [h.reach];omega
 ·show r'.ends=(q.ends.foldl _ r.ends).filter _
  rw [filter_addOut hm,h.ends]
 ·show (r.miss||q.miss)=true
  rw [h.miss he];rfl
theorem Cut.andThen{n m:Nat}{first first':RN}{k k':Nat->Sto->RN}(h:Cut n first first')(hw:WfRN first m)(hk: ∀e,e∈first.ends->e.1<=n->Cut (n-e.1) (k e.1 e.2) (k' e.1 e.2)):Cut n (thenM first k) (thenM first' k'):=by
 have key: ∀(q:List ENd) (r r':RN),(∀e,e∈q->e∈first.ends)->first.reach<=r.reach->Cut n r r'->Cut n (q.foldl (fun r e=>joinR r e.1 (k e.1 e.2)) r) ((q.filter fun e=>decide (e.1<=n)).foldl (fun r e=>joinR r e.1 (k' e.1 e.2)) r'):=by
  intro q
  induction q with
  |nil=>intro r r' _ _ h;exact h
  |cons e q ih=>
   intro r r' hq hr hc
   have he:=hq e (List.mem_cons_self ..)
   have hle:=hw.le e he
   have hr2:first.reach<=(joinR r e.1 (k e.1 e.2)).reach:=Nat.le_trans hr (Nat.le_max_left _ _)
   rw [List.foldl_cons,List.filter_cons]
   by_cases hen:e.1<=n
   ·rw [if_pos (by simpa using hen),List.foldl_cons]
    exact ih _ _ (fun x hx=>hq x (List.mem_cons_of_mem _ hx)) hr2 (hc.join (hk e he hen) hen)
   ·rw [if_neg (by simpa using hen)]
    exact ih _ _ (fun x hx=>hq x (List.mem_cons_of_mem _ hx)) hr2 (hc.joinOut _ (by omega) (by omega))
 have hk2:=key first.ends ⟨first.reach,[],first.miss⟩ ⟨first'.reach,[],first'.miss⟩ (fun e he=>he) (Nat.le_refl _) ⟨h.reach,rfl,h.miss⟩
 unfold thenM
 rw [h.ends]
 exact hk2
theorem wf_while{cond:Sto->Option Int}{body:Nat->TR->Sto->RN}(hb: ∀f t s,WfRN (body f t s) t.length): ∀(f:Nat) (t:TR) (s:Sto),WfRN (whileM cond body f t s) t.length
 |0,t,s=>by
  rw [whileM]
  split
  ·exact wf_nil _
  ·split
   ·exact wf_fin _ _
   ·exact ⟨Nat.zero_le _,fun e he=>(by cases he),List.nodup_nil⟩
 |f+1,t,s=>by
  rw [whileM]
  split
  ·exact wf_nil _
  ·split
   ·exact wf_fin _ _
   ·refine (hb f t s).andThen fun e _=>?_
    have:=wf_while (cond:=cond) hb f (t.drop e.1) e.2
    rw [List.length_drop] at this
    exact this.andThen fun _ _=>wf_fin _ _
theorem cut_while{cond:Sto->Option Int}{body:Nat->TR->Sto->RN}(hb: ∀f t s,WfRN (body f t s) t.length)(hc: ∀f t s n,Cut n (body f t s) (body f (t.take n) s)): ∀(f:Nat) (t:TR) (s:Sto) (n:Nat),Cut n (whileM cond body f t s) (whileM cond body f (t.take n) s)
 |0,t,s,n=>by
  rw [whileM,whileM]
  split
  ·exact cut_nil _
  ·split
   ·exact cut_fin _ _
   ·exact ⟨by simp,by simp,id⟩
 |f+1,t,s,n=>by
  rw [whileM,whileM]
  split
  ·exact cut_nil _
  ·split
   ·exact cut_fin _ _
   ·refine (hc f t s n).andThen (hb f t s) fun e _ hen=>?_
    have h1:=cut_while (cond:=cond) hb hc f (t.drop e.1) e.2 (n-e.1)
    rw [<-List.drop_take] at h1
    have h2:=wf_while (cond:=cond) hb f (t.drop e.1) e.2
    exact h1.andThen h2 fun _ _ _=>cut_fin _ _
theorem ends_at_cut{m c:Nat}{r r':RN}(h:Cut m r r')(hc:c<=m):endsAt r' c=endsAt r c:=by
 unfold endsAt
 rw [h.ends,List.filter_filter]
 congr 2
 funext e
 by_cases he:e.1=c
 ·simp [he,hc]
 ·simp [he]
def addN19(n:Nat)(xs:List Sto)(l:List ENd):List ENd:=xs.foldl (fun l x=>addE l (n,x)) l
theorem filter_addN{n m:Nat}: ∀(xs:List Sto) (l:List ENd),(addN19 m xs l).filter (fun e=>decide (e.1<=n))=if m<=n then addN19 m xs (l.filter fun e=>decide (e.1<=n)) else l.filter fun e=>decide (e.1<=n)
 | [],l=>by simp [addN19]
 |x::xs,l=>by
  have ih:=filter_addN (n:=n) (m:=m) xs (addE l (m,x))
  unfold addN19 at ih⊢
  rw [List.foldl_cons,ih,filter_addE]
  by_cases h:m<=n
  ·rw [if_pos h,if_pos h,if_pos h,List.foldl_cons]
  ·rw [if_neg h,if_neg h,if_neg h]
theorem mem_addN{m:Nat}{e:ENd}: ∀(xs:List Sto) (l:List ENd),e∈addN19 m xs l↔e∈l\/ ∃x,x∈xs/\e=(m,x)
 | [],l=>by simp [addN19]
 |x::xs,l=>by
  have ih:=mem_addN (m:=m) (e:=e) xs (addE l (m,x))
  unfold addN19 at ih⊢
  rw [List.foldl_cons,ih,mem_addE]
  constructor
  ·rintro ((h|h)|⟨y,hy,h⟩)
   ·exact .inl h
   ·exact .inr ⟨x,List.mem_cons_self ..,h⟩
   ·exact .inr ⟨y,List.mem_cons_of_mem _ hy,h⟩
  ·rintro (h|⟨y,hy,h⟩)
   ·exact .inl (.inl h)
   ·rcases List.mem_cons.1 hy with rfl|hy
    ·exact .inl (.inr h)
    ·exact .inr ⟨y,hy,h⟩
theorem nod_addN{m:Nat}: ∀(xs:List Sto) (l:List ENd),l.Nodup->(addN19 m xs l).Nodup
 | [],l,h=>h
 |x::xs,l,h=>by
  have ih:=nod_addN (m:=m) xs _ (nod_addE h (m,x))
  unfold addN19 at ih⊢
  exact ih
theorem meet_ends(s:Sto)(rs:List RN)(cn:List Nat)(n:Nat)(r:RN):(meetR s rs cn n r).ends=addN19 n (pick19 s (rs.zipWith endsAt cn) s) r.ends:=rfl
theorem go_out{chs:List (List Int)}{rs:List RN}{s:Sto}{n:Nat}: ∀(t:TR) (j:Nat) (cn:List Nat) (r:RN),n<j->(parGo chs rs s t j cn r).ends.filter (fun e=>decide (e.1<=n))=r.ends.filter (fun e=>decide (e.1<=n))/\j<=(parGo chs rs s t j cn r).reach/\(parGo chs rs s t j cn r).miss=r.miss
 | [],j,cn,r,h=>by
   rw [parGo]
   refine ⟨?_,Nat.le_refl _,rfl⟩
   rw [meet_ends,filter_addN,if_neg (by omega)]
 |e::t,j,cn,r,h=>by
  rw [parGo]
  split
  ·obtain ⟨h1,h2,h3⟩:=go_out (chs:=chs) (rs:=rs) (s:=s) (n:=n) t (j+1) (cntM chs cn e.1) (meetR s rs cn j r) (by omega)
   refine ⟨?_,by omega,h3⟩
   rw [h1,meet_ends,filter_addN,if_neg (by omega)]
  ·refine ⟨?_,Nat.le_refl _,rfl⟩
   rw [meet_ends,filter_addN,if_neg (by omega)]
structure Brs(chs:List (List Int))(t:TR)(cn:List Nat)(rs rs':List RN):Prop where
 l1:rs.length=chs.length
 l2:rs'.length=chs.length
 l3:cn.length=chs.length
 cut: ∀(i:Nat) ch c r r',chs[i]? =some ch->cn[i]? =some c->rs[i]? =some r->rs'[i]? =some r'->Cut (c+(onlyT t ch).length) r r'
theorem zip_ends{α:Type}{f g:RN->Nat->List α}: ∀{rs rs':List RN} {cn:List Nat},rs.length=cn.length->rs'.length=cn.length->(∀(i:Nat) r r' c,rs[i]? =some r->rs'[i]? =some r'->cn[i]? =some c->f r c=g r' c)->rs.zipWith f cn=rs'.zipWith g cn
 | [],[],[],_,_,_=>rfl
 |r::rs,r'::rs',c::cn,h1,h2,h=>by
  rw [List.zipWith_cons_cons,List.zipWith_cons_cons,h 0 r r' c rfl rfl rfl,zip_ends (by simpa using h1) (by simpa using h2) fun i a b d x y z=>h (i+1) a b d x y z]
 | [],_::_,c::cn,h,_,_=>by simp at h
 | [],_::_,[],_,h,_=>by simp at h
 |_::_,_,[],h,_,_=>by simp at h
 |_::_,[],_::_,_,h,_=>by simp at h
 | [],[],_::_,h,_,_=>by simp at h
theorem Brs.meet{chs:List (List Int)}{t:TR}{cn:List Nat}{rs rs':List RN}(h:Brs chs t cn rs rs'):rs'.zipWith endsAt cn=rs.zipWith endsAt cn:=by
 refine zip_ends (by rw [h.l2,h.l3]) (by rw [h.l1,h.l3]) fun i r' r c hr' hr hc=>?_
 have hi:i<chs.length:=by rw [<-h.l1];exact (List.getElem?_eq_some_iff.1 hr).1
 exact ends_at_cut (h.cut i _ c r r' (List.getElem?_eq_getElem hi) hc hr hr') (by omega)
theorem cnt_at{chs:List (List Int)}{cn:List Nat}{c:Int}{i:Nat}{ch:List Int}{n:Nat}(h1:chs[i]? =some ch)(h2:cn[i]? =some n):(cntM chs cn c)[i]? =some (if ch.contains c then n+1 else n):=by
 unfold cntM
 rw [List.getElem?_zipWith,h1,h2]
theorem cnt_len{chs:List (List Int)}{cn:List Nat}{c:Int}(h:cn.length=chs.length):(cntM chs cn c).length=chs.length:=by
 unfold cntM;rw [List.length_zipWith,h,Nat.min_self]
theorem Brs.next{chs:List (List Int)}{e:EL}{t:TR}{cn:List Nat}{rs rs':List RN}(h:Brs chs (e::t) cn rs rs'):Brs chs t (cntM chs cn e.1) rs rs':=by
 refine ⟨h.l1,h.l2,cnt_len h.l3,fun i ch c r r' g1 g2 g3 g4=>?_⟩
 have hi:i<cn.length:=by rw [h.l3];exact (List.getElem?_eq_some_iff.1 g1).1
 have hc:=List.getElem?_eq_getElem hi
 have:=h.cut i ch _ r r' g1 hc g3 g4
 rw [cnt_at g1 hc] at g2
 injection g2 with g2
 have e1:(onlyT (e::t) ch).length=(if ch.contains e.1 then 1 else 0)+(onlyT t ch).length:=by
  unfold onlyT
  rw [List.filter_cons]
  split
  ·rw [List.length_cons];omega
  ·omega
 have e2:cn[i]+(onlyT (e::t) ch).length=c+(onlyT t ch).length:=by
  rw [e1,<-g2];split<;>omega
 rw [e2] at this
 exact this
theorem zip_all{f:Nat×RN->Bool}{g:Nat×RN->Bool}: ∀{cn:List Nat} {rs rs':List RN},rs.length=cn.length->rs'.length=cn.length->(∀(i:Nat) c r r',cn[i]? =some c->rs[i]? =some r->rs'[i]? =some r'->f (c,r)=g (c,r'))->(cn.zip rs).all f=(cn.zip rs').all g
 | [],[],[],_,_,_=>rfl
 |c::cn,r::rs,r'::rs',h1,h2,h=>by
  rw [List.zip_cons_cons,List.zip_cons_cons,List.all_cons,List.all_cons,h 0 c r r' rfl rfl rfl,zip_all (by simpa using h1) (by simpa using h2) fun i a b d x y z=>h (i+1) a b d x y z]
 | [],_::_,_,h,_,_=>by simp at h
 | [],[],_::_,_,h,_=>by simp at h
 |_::_,[],_,h,_,_=>by simp at h
 |_::_,_::_,[],_,h,_=>by simp at h
theorem Brs.step{chs:List (List Int)}{e:EL}{t:TR}{cn:List Nat}{rs rs':List RN}(h:Brs chs (e::t) cn rs rs'):canStep chs rs' cn e.1=canStep chs rs cn e.1:=by
 have h':=h.next
 unfold canStep
 congr 1
 refine zip_all (by rw [h'.l2,h'.l3]) (by rw [h'.l1,h'.l3]) fun i c r' r g2 g4 g3=>?_
 have hi:i<chs.length:=by rw [<-h'.l1];exact (List.getElem?_eq_some_iff.1 g3).1
 have:=(h'.cut i _ c r r' (List.getElem?_eq_getElem hi) g2 g3 g4).reach
 rw [Bool.eq_iff_iff,decide_eq_true_eq,decide_eq_true_eq]
 show c<=r'.reach↔c<=r.reach
 omega
theorem cut_go{chs:List (List Int)}{rs rs':List RN}{s:Sto}: ∀(t:TR) (n j:Nat) (cn:List Nat) (r r':RN),Brs chs (t.take n) cn rs rs'->r'.ends=r.ends.filter (fun e=>decide (e.1<=j+n))->(r'.miss=true->r.miss=true)->
 Cut (j+n) (parGo chs rs s t j cn r) (parGo chs rs' s (t.take n) j cn r')
 | [],n,j,cn,r,r',h,he,hm=>by
   rw [List.take_nil,parGo,parGo]
   rw [List.take_nil] at h
   refine ⟨by show j=min (j+n) j;omega,?_,hm⟩
   rw [meet_ends,meet_ends,filter_addN,if_pos (by omega),he,h.meet]
 |e::t,0,j,cn,r,r',h,he,hm=>by
  rw [List.take_zero] at h⊢
  rw [parGo,parGo]
  have hme:(meetR s rs' cn j r').ends=(meetR s rs cn j r).ends.filter fun e=>decide (e.1<=j+0):=by
   rw [meet_ends,meet_ends,filter_addN,if_pos (by omega),he,h.meet]
  split
  ·obtain ⟨h1,h2,h3⟩:=go_out (chs:=chs) (rs:=rs) (s:=s) (n:=j) t (j+1) (cntM chs cn e.1) (meetR s rs cn j r) (by omega)
   refine ⟨by show j=min (j+0) _;omega,?_,fun hx=>?_⟩
   ·rw [hme];exact h1.symm
   ·rw [h3];exact hm hx
  ·exact ⟨by show j=min (j+0) j;omega,hme,hm⟩
 |e::t,n+1,j,cn,r,r',h,he,hm=>by
  rw [List.take_succ_cons] at h⊢
  rw [parGo,parGo,h.step]
  have hme:(meetR s rs' cn j r').ends=(meetR s rs cn j r).ends.filter fun e=>decide (e.1<=j+(n+1)):=by
   rw [meet_ends,meet_ends,filter_addN,if_pos (by omega),he,h.meet]
  split
  ·have:=cut_go (s:=s) t n (j+1) (cntM chs cn e.1) (meetR s rs cn j r) (meetR s rs' cn j r') h.next (by rw [hme,show j+1+n=j+(n+1) by omega]) hm
   rw [show j+1+n=j+(n+1) by omega] at this
   exact this
  ·exact ⟨by show j=min (j+(n+1)) j;omega,hme,hm⟩
theorem wf_go{chs:List (List Int)}{rs:List RN}{s:Sto}: ∀(t:TR) (j:Nat) (cn:List Nat) (r:RN),r.ends.Nodup->(∀e,e∈r.ends->e.1<=j)->WfRN (parGo chs rs s t j cn r) (j+t.length)/\j<=(parGo chs rs s t j cn r).reach
 | [],j,cn,r,h,he=>by
   rw [parGo]
   refine ⟨⟨Nat.le_refl _,fun e hx=>?_,?_⟩,Nat.le_refl _⟩
   ·rw [meet_ends,mem_addN] at hx
    show e.1<=j
    rcases hx with hx|⟨x,_,rfl⟩
    ·exact he e hx
    ·exact Nat.le_refl _
   ·rw [meet_ends];exact nod_addN _ _ h
 |e::t,j,cn,r,h,he=>by
  have h1:(meetR s rs cn j r).ends.Nodup:=by rw [meet_ends];exact nod_addN _ _ h
  have h2: ∀e,e∈(meetR s rs cn j r).ends->e.1<=j:=fun e hx=>by
   rw [meet_ends,mem_addN] at hx
   rcases hx with hx|⟨x,_,rfl⟩
   ·exact he e hx
   ·exact Nat.le_refl _
  rw [parGo]
  split
  ·obtain ⟨h3,h4⟩:=wf_go (chs:=chs) (rs:=rs) (s:=s) t (j+1) (cntM chs cn e.1) (meetR s rs cn j r) h1 fun e hx=>by have:=h2 e hx;omega
   refine ⟨⟨?_,h3.le,h3.nod⟩,by omega⟩
   have:=h3.len
   rw [List.length_cons];omega
  ·exact ⟨⟨by show j<=_;omega,h2,h1⟩,Nat.le_refl _⟩
theorem lt19_l{p x:PR}(h:x∈p.l):SizeOf.sizeOf x<SizeOf.sizeOf p:=by
 obtain ⟨k,c,v,i,to,e,gs,l⟩:=p
 have:=List.sizeOf_lt_of_mem (show x∈l from h)
 simp only [PR.mk.sizeOf_spec];omega
theorem lt19_g{p x:PR}{g:GD}(hg:g∈p.gs)(h:x∈g.body):SizeOf.sizeOf x<SizeOf.sizeOf p:=by
 obtain ⟨k,c,v,i,to,e,gs,l⟩:=p
 have h1:=List.sizeOf_lt_of_mem (show g∈gs from hg)
 obtain ⟨k2,cd,c2,it2,to2,tm,b⟩:=g
 have h2:=List.sizeOf_lt_of_mem (show x∈b from h)
 simp only [GD.mk.sizeOf_spec] at h1
 simp only [PR.mk.sizeOf_spec];omega
theorem runR_eq(f:Nat)(op:List Int)(t:TR)(s:Sto)(k c v it:Int)(to:List PL)(e:List KE)(gs:List GD)(l:List PR):runR f op t s ⟨k,c,v,it,to,e,gs,l⟩=
 if k=1 then finR s
 else if k=3 then finR (clrM s v)
 else if k=4 then (match asg19 s to e s with|some s'=>finR s'|none=>nilR)
 else if k=5 then (match to with|q::_=>(match inp19 op t c it q s with|some s'=>joinR nilR 1 (finR s')|none=>nilR)| []=>nilR)
 else if k=6 then (match e with|x::_=>if out19 op t c x s=true then joinR nilR 1 (finR s) else nilR| []=>nilR)
 else if k=9 then seqR19 f op t s l
 else if k=13 then (match e with|x::_=>whileM (fun s=>valueM s x) (fun f' t' s'=>bodR19 f' op t' s' l) f t s| []=>nilR)
 else if k=12 then ifR f op t s gs
 else if k=14\/k=15 then (if gdsOk s gs=true then altR f op t s gs nilR else nilR)
 else if k=10\/k=11 then parM (l.map chansM) (brsR f op (l.map chansM) 0 t s l) t s
 else nilR:=rfl
structure Run19(p:PR):Prop where
 wf: ∀f op t s,WfRN (runR f op t s p) t.length
 cut: ∀f op t s n,Cut n (runR f op t s p) (runR f op (t.take n) s p)
theorem seq19{l:List PR}(h: ∀x,x∈l->Run19 x):(∀f op t s,WfRN (seqR19 f op t s l) t.length)/\(∀f op t s n,Cut n (seqR19 f op t s l) (seqR19 f op (t.take n) s l)):=by
 induction l with
 |nil=>exact ⟨fun f op t s=>by rw [seqR19];exact wf_fin _ _,fun f op t s n=>by rw [seqR19,seqR19];exact cut_fin _ _⟩
 |cons p r ih=>
  have hp:=h p (.head _)
  obtain ⟨i1,i2⟩:=ih fun x hx=>h x (.tail _ hx)
  refine ⟨fun f op t s=>?_,fun f op t s n=>?_⟩
  ·rw [seqR19]
   refine (hp.wf f op t s).andThen fun e _=>?_
   have:=i1 f op (t.drop e.1) e.2
   rw [List.length_drop] at this;exact this
  ·rw [seqR19,seqR19]
   refine (hp.cut f op t s n).andThen (hp.wf f op t s) fun e _ hen=>?_
   have h1:=i2 f op (t.drop e.1) e.2 (n-e.1)
   rw [<-List.drop_take] at h1
   exact h1
theorem bod19{l:List PR}(h: ∀x,x∈l->Run19 x):(∀f op t s,WfRN (bodR19 f op t s l) t.length)/\(∀f op t s n,Cut n (bodR19 f op t s l) (bodR19 f op (t.take n) s l)):=by
 cases l with
 |nil=>exact ⟨fun f op t s=>by rw [bodR19];exact wf_nil _,fun f op t s n=>by rw [bodR19,bodR19];exact cut_nil _⟩
 |cons p r=>
  have hp:=h p (.head _)
  exact ⟨fun f op t s=>by rw [bodR19];exact hp.wf f op t s,fun f op t s n=>by rw [bodR19,bodR19];exact hp.cut f op t s n⟩
theorem if19{gs:List GD}(h: ∀g,g∈gs-> ∀x,x∈g.body->Run19 x):(∀f op t s,WfRN (ifR f op t s gs) t.length)/\(∀f op t s n,Cut n (ifR f op t s gs) (ifR f op (t.take n) s gs)):=by
 induction gs with
 |nil=>exact ⟨fun f op t s=>by rw [ifR];exact wf_nil _,fun f op t s n=>by rw [ifR,ifR];exact cut_nil _⟩
 |cons g r ih=>
  obtain ⟨b1,b2⟩:=bod19 (h g (.head _))
  obtain ⟨i1,i2⟩:=ih fun x hx=>h x (.tail _ hx)
  obtain ⟨k,cd,c,it,to,tm,b⟩:=g
  refine ⟨fun f op t s=>?_,fun f op t s n=>?_⟩
  ·rw [ifR]
   cases valueM s cd with
   |none=>exact wf_nil _
   |some v=>
    simp only
    split
    ·exact i1 f op t s
    ·exact (wf_nil _).join (b1 f op t s) (Nat.zero_le _)
  ·rw [ifR,ifR]
   cases valueM s cd with
   |none=>exact cut_nil _
   |some v=>
    simp only
    split
    ·exact i2 f op t s n
    ·exact (cut_nil n).join (b2 f op t s n) (Nat.zero_le _)
theorem inp_nil{op:List Int}{c it:Int}{to:PL}{s:Sto}:inp19 op [] c it to s=none:=by
 unfold inp19;split<;>rfl
theorem inp_take{op:List Int}{t:TR}{c it:Int}{to:PL}{s:Sto}(n:Nat):inp19 op (t.take (n+1)) c it to s=inp19 op t c it to s:=by
 cases t with
 |nil=>rfl
 |cons e r=>rfl
theorem inp_some{op:List Int}{t:TR}{c it:Int}{to:PL}{s s':Sto}(h:inp19 op t c it to s=some s'):1<=t.length:=by
 cases t with
 |nil=>rw [inp_nil] at h;cases h
 |cons e r=>simp
theorem out_nil{op:List Int}{c:Int}{e:KE}{s:Sto}:out19 op [] c e s=false:=by
 unfold out19;split<;>simp
theorem out_take{op:List Int}{t:TR}{c:Int}{e:KE}{s:Sto}(n:Nat):out19 op (t.take (n+1)) c e s=out19 op t c e s:=by
 cases t with
 |nil=>rfl
 |cons e r=>rfl
theorem out_some{op:List Int}{t:TR}{c:Int}{e:KE}{s:Sto}(h:out19 op t c e s=true):1<=t.length:=by
 cases t with
 |nil=>rw [out_nil] at h;cases h
 |cons e r=>simp
theorem drop_take1{α:Type}(t:List α)(n:Nat):(t.take (n+1)).drop 1=(t.drop 1).take n:=by
 cases t with
 |nil=>simp
 |cons e r=>rfl
theorem alt19{gs:List GD}(h: ∀g,g∈gs-> ∀x,x∈g.body->Run19 x):(∀f op t s acc,WfRN acc t.length->WfRN (altR f op t s gs acc) t.length)/\(∀f op t s n acc acc',Cut n acc acc'->Cut n (altR f op t s gs acc) (altR f op (t.take n) s gs acc')):=by
 induction gs with
 |nil=>exact ⟨fun f op t s acc ha=>by rw [altR];exact ha,fun f op t s n acc acc' ha=>by rw [altR,altR];exact ha⟩
 |cons g r ih=>
  obtain ⟨b1,b2⟩:=bod19 (h g (.head _))
  obtain ⟨i1,i2⟩:=ih fun x hx=>h x (.tail _ hx)
  obtain ⟨k,cd,c,it,to,tm,b⟩:=g
  refine ⟨fun f op t s acc ha=>?_,fun f op t s n acc acc' ha=>?_⟩
  ·rw [altR]
   split
   ·exact i1 f op t s acc ha
   ·split
    ·cases hin:inp19 op t c it to s with
     |none=>exact i1 f op t s acc ha
     |some s'=>
      refine i1 f op t s _ (ha.join ?_ (inp_some hin))
      have:=b1 f op (t.drop 1) s'
      rw [List.length_drop] at this;exact this
    ·exact i1 f op t s _ (ha.join (b1 f op t s) (Nat.zero_le _))
  ·rw [altR,altR]
   split
   ·exact i2 f op t s n acc acc' ha
   ·split
    ·cases n with
     |zero=>
      rw [List.take_zero,inp_nil]
      have hr:=i2 f op t s 0
      rw [List.take_zero] at hr
      cases hin:inp19 op t c it to s with
      |none=>exact hr acc acc' ha
      |some s'=>exact hr _ acc' (ha.joinOut _ (Nat.zero_lt_one) (Nat.zero_le _))
     |succ n=>
      rw [inp_take]
      cases hin:inp19 op t c it to s with
      |none=>exact i2 f op t s (n+1) acc acc' ha
      |some s'=>
       refine i2 f op t s (n+1) _ _ (ha.join ?_ (by omega))
       rw [drop_take1]
       exact b2 f op (t.drop 1) s' n
    ·exact i2 f op t s n _ _ (ha.join (b2 f op t s n) (Nat.zero_le _))
theorem brs_len{f:Nat}{op:List Int}{all:List (List Int)}{t:TR}{s:Sto}: ∀(l:List PR) (i:Nat),(brsR f op all i t s l).length=l.length
 | [],i=>by rw [brsR];rfl
 |p::r,i=>by rw [brsR,List.length_cons,List.length_cons,brs_len r]
theorem brs_at{f:Nat}{op:List Int}{all:List (List Int)}{t:TR}{s:Sto}: ∀(l:List PR) (i j:Nat),(brsR f op all i t s l)[j]? =(l[j]?).map fun p=>runR f (openM op all (i+j)) (onlyT t ((all[i+j]?).getD [])) s p
 | [],i,j=>by rw [brsR];rfl
 |p::r,i,0=>by rw [brsR];rfl
 |p::r,i,j+1=>by
  rw [brsR,List.getElem?_cons_succ,List.getElem?_cons_succ,brs_at r,show i+1+j=i+(j+1) by omega]
theorem only_take(t:TR)(ch:List Int)(n:Nat):onlyT (t.take n) ch=(onlyT t ch).take (onlyT (t.take n) ch).length:=by
 have h:onlyT t ch=onlyT (t.take n) ch++onlyT (t.drop n) ch:=by
  unfold onlyT
  rw [<-List.filter_append,List.take_append_drop]
 rw [h,List.take_append_of_le_length (Nat.le_refl _),List.take_length]
theorem par_brs{l:List PR}(h: ∀x,x∈l->Run19 x)(f:Nat)(op:List Int)(t:TR)(s:Sto)(n:Nat):Brs (l.map chansM) (t.take n) ((l.map chansM).map fun _=>0) (brsR f op (l.map chansM) 0 t s l) (brsR f op (l.map chansM) 0 (t.take n) s l):=by
 refine ⟨by rw [brs_len,List.length_map],by rw [brs_len,List.length_map],by rw [List.length_map],fun i ch c r r' h1 h2 h3 h4=>?_⟩
 rw [List.getElem?_map,h1] at h2
 injection h2 with h2
 subst h2
 rw [brs_at,Nat.zero_add,h1] at h3 h4
 rw [Option.getD_some] at h3 h4
 rw [List.getElem?_map] at h1
 cases hp:l[i]? with
 |none=>rw [hp] at h1;cases h1
 |some p=>
  rw [hp] at h3 h4
  injection h3 with h3
  injection h4 with h4
  subst h3;subst h4
  have:=(h p (List.mem_of_getElem? hp)).cut f (openM op (l.map chansM) i) (onlyT t ch) s (onlyT (t.take n) ch).length
  rw [<-only_take] at this
  rw [Nat.zero_add];exact this
theorem any_miss{rs rs':List RN}(hl:rs.length=rs'.length)(h: ∀(i:Nat) r r',rs[i]? =some r->rs'[i]? =some r'->r'.miss=true->r.miss=true)(hm:rs'.any (·.miss)=true):rs.any (·.miss)=true:=by
 rw [List.any_eq_true] at hm⊢
 obtain ⟨r',hr',hm⟩:=hm
 obtain ⟨i,hi,rfl⟩:=List.getElem_of_mem hr'
 have hi2:i<rs.length:=by omega
 exact ⟨rs[i],List.getElem_mem _,h i _ _ (List.getElem?_eq_getElem hi2) (List.getElem?_eq_getElem hi) hm⟩
theorem par19{l:List PR}(h: ∀x,x∈l->Run19 x):(∀f op t s,WfRN (parM (l.map chansM) (brsR f op (l.map chansM) 0 t s l) t s) t.length)/\(∀f op t s n,Cut n (parM (l.map chansM) (brsR f op (l.map chansM) 0 t s l) t s) (parM (l.map chansM) (brsR f op (l.map chansM) 0 (t.take n) s l) (t.take n) s)):=by
 refine ⟨fun f op t s=>?_,fun f op t s n=>?_⟩
 ·have:=(wf_go (chs:=l.map chansM) (rs:=brsR f op (l.map chansM) 0 t s l) (s:=s) t 0 ((l.map chansM).map fun _=>0) ⟨0,[],(brsR f op (l.map chansM) 0 t s l).any (·.miss)⟩ List.nodup_nil (fun e he=>by cases he)).1
  rw [Nat.zero_add] at this
  exact this
 ·have hb:=par_brs h f op t s n
  have:=cut_go (s:=s) t n 0 _ ⟨0,[],(brsR f op (l.map chansM) 0 t s l).any (·.miss)⟩ ⟨0,[],(brsR f op (l.map chansM) 0 (t.take n) s l).any (·.miss)⟩ hb rfl (any_miss (by rw [hb.l1,hb.l2]) fun i r r' h3 h4 hm=>by
   have hi:i<(l.map chansM).length:=by rw [<-hb.l1];exact (List.getElem?_eq_some_iff.1 h3).1
   have h2:((l.map chansM).map fun _=>0)[i]? =some 0:=by rw [List.getElem?_map,List.getElem?_eq_getElem hi];rfl
   exact (hb.cut i _ 0 r r' (List.getElem?_eq_getElem hi) h2 h3 h4).miss hm)
  rw [Nat.zero_add] at this
  exact this
theorem run19_n: ∀(m:Nat) (p:PR),SizeOf.sizeOf p<=m->Run19 p
 |0,p,h=>by
  obtain ⟨k,c,v,i,to,e,gs,l⟩:=p
  simp only [PR.mk.sizeOf_spec] at h;omega
 |m+1,p,hm=>by
  have hl: ∀x,x∈p.l->Run19 x:=fun x hx=>run19_n m x (by have:=lt19_l hx;omega)
  have hg: ∀g,g∈p.gs-> ∀x,x∈g.body->Run19 x:=fun g hg x hx=>run19_n m x (by have:=lt19_g hg hx;omega)
  obtain ⟨s1,s2⟩:=seq19 hl
  obtain ⟨b1,b2⟩:=bod19 hl
  obtain ⟨i1,i2⟩:=if19 hg
  obtain ⟨a1,a2⟩:=alt19 hg
  obtain ⟨p1,p2⟩:=par19 hl
  obtain ⟨k,c,v,it,to,e,gs,l⟩:=p
  refine ⟨fun f op t s=>?_,fun f op t s n=>?_⟩
  ·rw [runR_eq]
   by_cases k1:k=1
   ·rw [if_pos k1];exact wf_fin _ _
   rw [if_neg k1]
   by_cases k3:k=3
   ·rw [if_pos k3];exact wf_fin _ _
   rw [if_neg k3]
   by_cases k4:k=4
   ·rw [if_pos k4]
    cases asg19 s to e s with
    |none=>exact wf_nil _
    |some s'=>exact wf_fin _ _
   rw [if_neg k4]
   by_cases k5:k=5
   ·rw [if_pos k5]
    cases to with
    |nil=>exact wf_nil _
    |cons q r=>
     simp only
     cases hin:inp19 op t c it q s with
     |none=>exact wf_nil _
     |some s'=>exact (wf_nil _).join (wf_fin _ _) (inp_some hin)
   rw [if_neg k5]
   by_cases k6:k=6
   ·rw [if_pos k6]
    cases e with
    |nil=>exact wf_nil _
    |cons x r=>
     simp only
     by_cases ho:out19 op t c x s=true
     ·rw [if_pos ho];exact (wf_nil _).join (wf_fin _ _) (out_some ho)
     ·rw [if_neg ho];exact wf_nil _
   rw [if_neg k6]
   by_cases k9:k=9
   ·rw [if_pos k9];exact s1 f op t s
   rw [if_neg k9]
   by_cases k13:k=13
   ·rw [if_pos k13]
    cases e with
    |nil=>exact wf_nil _
    |cons x r=>exact wf_while (fun f t s=>b1 f op t s) f t s
   rw [if_neg k13]
   by_cases k12:k=12
   ·rw [if_pos k12];exact i1 f op t s
   rw [if_neg k12]
   by_cases k14:k=14\/k=15
   ·rw [if_pos k14]
    by_cases ho:gdsOk s gs=true
    ·rw [if_pos ho];exact a1 f op t s nilR (wf_nil _)
    ·rw [if_neg ho];exact wf_nil _
   rw [if_neg k14]
   by_cases k10:k=10\/k=11
   ·rw [if_pos k10];exact p1 f op t s
   rw [if_neg k10]
   exact wf_nil _
  ·rw [runR_eq,runR_eq]
   by_cases k1:k=1
   ·rw [if_pos k1,if_pos k1];exact cut_fin _ _
   rw [if_neg k1,if_neg k1]
   by_cases k3:k=3
   ·rw [if_pos k3,if_pos k3];exact cut_fin _ _
   rw [if_neg k3,if_neg k3]
   by_cases k4:k=4
   ·rw [if_pos k4,if_pos k4]
    cases asg19 s to e s with
    |none=>exact cut_nil _
    |some s'=>exact cut_fin _ _
   rw [if_neg k4,if_neg k4]
   by_cases k5:k=5
   ·rw [if_pos k5,if_pos k5]
    cases to with
    |nil=>exact cut_nil _
    |cons q r=>
     simp only
     cases n with
     |zero=>
      rw [List.take_zero,inp_nil]
      cases inp19 op t c it q s with
      |none=>exact cut_nil _
      |some s'=>exact (cut_nil 0).joinOut _ (Nat.zero_lt_one) (Nat.zero_le _)
     |succ n=>
      rw [inp_take]
      cases inp19 op t c it q s with
      |none=>exact cut_nil _
      |some s'=>exact (cut_nil (n+1)).join (cut_fin _ _) (by omega)
   rw [if_neg k5,if_neg k5]
   by_cases k6:k=6
   ·rw [if_pos k6,if_pos k6]
    cases e with
    |nil=>exact cut_nil _
    |cons x r=>
     simp only
     cases n with
     |zero=>
      rw [List.take_zero,out_nil,if_neg Bool.false_ne_true]
      by_cases ho:out19 op t c x s=true
      ·rw [if_pos ho];exact (cut_nil 0).joinOut _ (Nat.zero_lt_one) (Nat.zero_le _)
      ·rw [if_neg ho];exact cut_nil _
     |succ n=>
      rw [out_take]
      by_cases ho:out19 op t c x s=true
      ·rw [if_pos ho];exact (cut_nil (n+1)).join (cut_fin _ _) (by omega)
      ·rw [if_neg ho];exact cut_nil _
   rw [if_neg k6,if_neg k6]
   by_cases k9:k=9
   ·rw [if_pos k9,if_pos k9];exact s2 f op t s n
   rw [if_neg k9,if_neg k9]
   by_cases k13:k=13
   ·rw [if_pos k13,if_pos k13]
    cases e with
    |nil=>exact cut_nil _
    |cons x r=>exact cut_while (fun f t s=>b1 f op t s) (fun f t s n=>b2 f op t s n) f t s n
   rw [if_neg k13,if_neg k13]
   by_cases k12:k=12
   ·rw [if_pos k12,if_pos k12];exact i2 f op t s n
   rw [if_neg k12,if_neg k12]
   by_cases k14:k=14\/k=15
   ·rw [if_pos k14,if_pos k14]
    by_cases ho:gdsOk s gs=true
    ·rw [if_pos ho,if_pos ho];exact a2 f op t s n nilR nilR (cut_nil _)
    ·rw [if_neg ho,if_neg ho];exact cut_nil _
   rw [if_neg k14,if_neg k14]
   by_cases k10:k=10\/k=11
   ·rw [if_pos k10,if_pos k10];exact p2 f op t s n
   rw [if_neg k10,if_neg k10]
   exact cut_nil _
theorem run19(p:PR):Run19 p:=run19_n _ p (Nat.le_refl _)
abbrev goesR(k:Nat->Sto->RN)(q:List ENd)(r:RN):RN:=q.foldl (fun r e=>joinR r e.1 (k e.1 e.2)) r
theorem goes_ends{k:Nat->Sto->RN}{y:ENd}: ∀(q:List ENd) (r:RN),y∈(goesR k q r).ends↔y∈r.ends\/ ∃e,e∈q/\ ∃z,z∈(k e.1 e.2).ends/\y=(e.1+z.1,z.2)
 | [],r=>by simp
 |x::q,r=>by
  rw [goesR,List.foldl_cons,goes_ends q _]
  have:y∈(joinR r x.1 (k x.1 x.2)).ends↔y∈r.ends\/ ∃z,z∈(k x.1 x.2).ends/\y=(x.1+z.1,z.2):=mem_addAll _ _
  rw [this]
  constructor
  ·rintro ((h|h)|⟨e,he,h⟩)
   ·exact .inl h
   ·exact .inr ⟨x,List.mem_cons_self ..,h⟩
   ·exact .inr ⟨e,List.mem_cons_of_mem _ he,h⟩
  ·rintro (h|⟨e,he,h⟩)
   ·exact .inl (.inl h)
   ·rcases List.mem_cons.1 he with rfl|he
    ·exact .inl (.inr h)
    ·exact .inr ⟨e,he,h⟩
theorem then_eq(first:RN)(k:Nat->Sto->RN):thenM first k=goesR k first.ends ⟨first.reach,[],first.miss⟩:=rfl
theorem endsAt_mem{r:RN}{n:Nat}{x:Sto}:x∈endsAt r n↔(n,x)∈r.ends:=by
 unfold endsAt
 simp only [List.mem_map,List.mem_filter,decide_eq_true_eq]
 constructor
 ·rintro ⟨⟨a,b⟩,⟨h1,h2⟩,rfl⟩
  simp only at h2;subst h2;exact h1
 ·intro h;exact ⟨_,⟨h,rfl⟩,rfl⟩
def whileW(b:Nat->Nat):Nat->Nat
 |0=>1
 |f+1=>1+whileW b f*b f
mutual
def wayR:PR->Nat->Nat
 |⟨k,_,_,_,_,_,gs,l⟩,f=>if k=9\/k=10\/k=11 then wayL l f else if k=12\/k=14\/k=15 then 1+wayGs gs f else if k=13 then whileW (fun f'=>wayB l f') f else 1
def wayL:List PR->Nat->Nat
 | [],_=>1
 |p::r,f=>wayR p f*wayL r f
def wayB:List PR->Nat->Nat
 | [],_=>1
 |p::_,f=>wayR p f
def waySum:List PR->Nat->Nat
 | [],_=>0
 |p::r,f=>wayR p f+waySum r f
def wayGs:List GD->Nat->Nat
 | [],_=>0
 |⟨_,_,_,_,_,_,b⟩::r,f=>waySum b f+wayGs r f
end
theorem wayR_eq(k c v it:Int)(to:List PL)(e:List KE)(gs:List GD)(l:List PR)(f:Nat):wayR ⟨k,c,v,it,to,e,gs,l⟩ f=if k=9\/k=10\/k=11 then wayL l f else if k=12\/k=14\/k=15 then 1+wayGs gs f else if k=13 then whileW (fun f'=>wayB l f') f else 1:=by rw [wayR]
theorem addE_len(l:List ENd)(x:ENd):(addE l x).length<=l.length+1:=by
 unfold addE
 split
 ·omega
 ·rw [List.length_append];exact Nat.le_refl _
theorem addAll_len{n:Nat}: ∀(q l:List ENd),(q.foldl (fun l e=>addE l (n+e.1,e.2)) l).length<=l.length+q.length
 | [],l=>Nat.le_refl _
 |e::q,l=>by
  rw [List.foldl_cons,List.length_cons]
  have:=addAll_len (n:=n) q (addE l (n+e.1,e.2))
  have:=addE_len l (n+e.1,e.2)
  omega
theorem join_len(r:RN)(n:Nat)(q:RN):(joinR r n q).ends.length<=r.ends.length+q.ends.length:=addAll_len _ _
theorem goes_len{k:Nat->Sto->RN}{b:Nat}: ∀(q:List ENd) (r:RN),(∀e,e∈q->(k e.1 e.2).ends.length<=b)->(goesR k q r).ends.length<=r.ends.length+q.length*b
 | [],r,_=>by simp
 |e::q,r,h=>by
  rw [goesR,List.foldl_cons,List.length_cons,Nat.succ_mul]
  have h1:=goes_len (k:=k) (b:=b) q (joinR r e.1 (k e.1 e.2)) fun x hx=>h x (.tail _ hx)
  have h2:=join_len r e.1 (k e.1 e.2)
  have h3:=h e (.head _)
  unfold goesR at h1
  omega
theorem then_len{first:RN}{k:Nat->Sto->RN}{a b:Nat}(h:first.ends.length<=a)(hk: ∀e,e∈first.ends->(k e.1 e.2).ends.length<=b):(thenM first k).ends.length<=a*b:=by
 have:=goes_len (k:=k) (b:=b) first.ends ⟨first.reach,[],first.miss⟩ hk
 rw [then_eq]
 have h2:first.ends.length*b<=a*b:=Nat.mul_le_mul_right _ h
 simp only [List.length_nil] at this
 omega
theorem while_len{cond:Sto->Option Int}{body:Nat->TR->Sto->RN}{b:Nat->Nat}(hb: ∀f t s,(body f t s).ends.length<=b f): ∀(f:Nat) (t:TR) (s:Sto),(whileM cond body f t s).ends.length<=whileW b f
 |0,t,s=>by
  rw [whileM,whileW]
  cases cond s with
  |none=>exact Nat.zero_le _
  |some v=>
   simp only
   split
   ·exact Nat.le_refl _
   ·exact Nat.zero_le _
 |f+1,t,s=>by
  rw [whileM,whileW]
  cases cond s with
  |none=>exact Nat.zero_le _
  |some v=>
   simp only
   split
   ·exact Nat.le_add_right _ _
   ·have:=then_len (first:=body f t s) (k:=fun n s'=>thenM (whileM cond body f (t.drop n) s') fun _ s''=>finR s'') (b:=whileW b f*1) (hb f t s) fun e _=>then_len (while_len hb f (t.drop e.1) e.2) fun _ _=>Nat.le_refl _
    rw [Nat.mul_one,Nat.mul_comm] at this
    omega
def prodL:List Nat->Nat
 | []=>1
 |x::r=>x*prodL r
theorem prod_le: ∀{a b:List Nat},a.length=b.length->(∀(i:Nat) x y,a[i]? =some x->b[i]? =some y->x<=y)->prodL a<=prodL b
 | [],[],_,_=>Nat.le_refl _
 |x::a,y::b,hl,h=>Nat.mul_le_mul (h 0 x y rfl rfl) (prod_le (by simpa using hl) fun i u v hu hv=>h (i+1) u v hu hv)
 | [],_::_,h,_=>by simp at h
 |_::_,[],h,_=>by simp at h
theorem prod_two: ∀{a b c:List Nat},a.length=c.length->b.length=c.length->(∀(i:Nat) x y z,a[i]? =some x->b[i]? =some y->c[i]? =some z->x<=z/\y<=z)->(∃(i:Nat) (x y z:Nat),a[i]? =some x/\b[i]? =some y/\c[i]? =some z/\x+y<=z)->prodL a+prodL b<=prodL c
 | [],[],[],_,_,_,⟨i,_,_,_,h,_⟩=>by simp at h
 |x::a,y::b,z::c,h1,h2,h,⟨0,x',y',z',e1,e2,e3,e4⟩=>by
  injection e1 with e1;injection e2 with e2;injection e3 with e3
  subst e1;subst e2;subst e3
  have ha:prodL a<=prodL c:=prod_le (by simpa using h1) fun i u w hu hw=>by
   have hi:i<b.length:=by simp at h1 h2;have:=(List.getElem?_eq_some_iff.1 hu).1;omega
   exact (h (i+1) u b[i] w hu (List.getElem?_eq_getElem hi) hw).1
  have hb:prodL b<=prodL c:=prod_le (by simpa using h2) fun i u w hu hw=>by
   have hi:i<a.length:=by simp at h1 h2;have:=(List.getElem?_eq_some_iff.1 hu).1;omega
   exact (h (i+1) a[i] u w (List.getElem?_eq_getElem hi) hu hw).2
  show x*prodL a+y*prodL b<=z*prodL c
  have h5:x*prodL a<=x*prodL c:=Nat.mul_le_mul_left _ ha
  have h6:y*prodL b<=y*prodL c:=Nat.mul_le_mul_left _ hb
  have h7:(x+y)*prodL c<=z*prodL c:=Nat.mul_le_mul_right _ e4
  rw [Nat.add_mul] at h7
  omega
 |x::a,y::b,z::c,h1,h2,h,⟨i+1,x',y',z',e1,e2,e3,e4⟩=>by
  have ih:=prod_two (a:=a) (b:=b) (c:=c) (by simpa using h1) (by simpa using h2) (fun j u v w hu hv hw=>h (j+1) u v w hu hv hw) ⟨i,x',y',z',e1,e2,e3,e4⟩
  obtain ⟨k1,k2⟩:=h 0 x y z rfl rfl rfl
  show x*prodL a+y*prodL b<=z*prodL c
  have h5:x*prodL a<=z*prodL a:=Nat.mul_le_mul_right _ k1
  have h6:y*prodL b<=z*prodL b:=Nat.mul_le_mul_right _ k2
  have h7:z*(prodL a+prodL b)<=z*prodL c:=Nat.mul_le_mul_left _ ih
  rw [Nat.mul_add] at h7
  omega
 | [],_::_,_,h1,h2,_,_=>by simp at h1 h2;omega
 |_::_,[],_,h1,h2,_,_=>by simp at h1 h2;omega
 | [],[],_::_,h1,_,_,_=>by simp at h1
 |_::_,_::_,[],h1,_,_,_=>by simp at h1
theorem addN_len{m:Nat}: ∀(xs:List Sto) (l:List ENd),(addN19 m xs l).length<=l.length+xs.length
 | [],l=>Nat.le_refl _
 |x::xs,l=>by
  have h1:=addN_len (m:=m) xs (addE l (m,x))
  have h2:=addE_len l (m,x)
  unfold addN19 at h1⊢
  rw [List.foldl_cons,List.length_cons]
  omega
theorem pick_len{s:Sto}: ∀(bs:List (List Sto)) (out:Sto),(pick19 s bs out).length=prodL (bs.map List.length)
 | [],out=>rfl
 |b::r,out=>by
  rw [pick19,List.length_flatMap,List.map_cons]
  show _=b.length*prodL _
  have:(b.map fun x=>(pick19 s r (mergeM s out x)).length)=b.map fun _=>prodL (r.map List.length):=List.map_congr_left fun x _=>pick_len r _
  rw [this]
  induction b with
  |nil=>simp
  |cons y b ih=>
   rw [List.map_cons,List.sum_cons,List.length_cons,Nat.succ_mul]
   have:=ih (List.map_congr_left fun x _=>pick_len r _)
   rw [this];omega
def fromN(r:RN)(n:Nat):Nat:=(r.ends.filter fun e=>decide (n<=e.1)).length
theorem from_split(r:RN)(n:Nat):(endsAt r n).length+fromN r (n+1)=fromN r n:=by
 unfold endsAt fromN
 rw [List.length_map]
 induction r.ends with
 |nil=>rfl
 |cons e l ih=>
  simp only [List.filter_cons]
  by_cases h1:e.1=n
  ·rw [if_pos (by simpa using h1),if_neg (by simp;omega),if_pos (by simp;omega),List.length_cons,List.length_cons];omega
  ·by_cases h2:n<=e.1
   ·rw [if_neg (by simpa using h1),if_pos (by simp;omega),if_pos (by simpa using h2),List.length_cons,List.length_cons];omega
   ·rw [if_neg (by simpa using h1),if_neg (by simp;omega),if_neg (by simpa using h2)];omega
theorem from_le(r:RN)(n:Nat):fromN r n<=r.ends.length:=List.length_filter_le ..
theorem go_len{chs:List (List Int)}{rs:List RN}{s:Sto}(hl:rs.length=chs.length): ∀(t:TR) (j:Nat) (cn:List Nat) (r:RN),cn.length=chs.length->(parGo chs rs s t j cn r).ends.length<=r.ends.length+prodL (rs.zipWith fromN cn)
 | [],j,cn,r,hc=>by
   rw [parGo,meet_ends]
   have h1:=addN_len (m:=j) (pick19 s (rs.zipWith endsAt cn) s) r.ends
   rw [pick_len] at h1
   have h2:prodL ((rs.zipWith endsAt cn).map List.length)<=prodL (rs.zipWith fromN cn):=by
    refine prod_le (by simp) fun i x y hx hy=>?_
    rw [List.getElem?_map,List.getElem?_zipWith] at hx
    rw [List.getElem?_zipWith] at hy
    cases hr:rs[i]? with
    |none=>rw [hr] at hx;cases hx
    |some a=>
     cases hn:cn[i]? with
     |none=>rw [hr,hn] at hx;cases hx
     |some c=>
      rw [hr,hn] at hx hy
      injection hx with hx;injection hy with hy
      subst hx;subst hy
      have:=from_split a c
      omega
   omega
 |e::t,j,cn,r,hc=>by
  have h1:=addN_len (m:=j) (pick19 s (rs.zipWith endsAt cn) s) r.ends
  rw [pick_len] at h1
  have hpt: ∀(i:Nat) x y z,((rs.zipWith endsAt cn).map List.length)[i]? =some x->(rs.zipWith fromN (cntM chs cn e.1))[i]? =some y->(rs.zipWith fromN cn)[i]? =some z->x<=z/\y<=z/\((chs[i]?).map (fun (ch:List Int)=>ch.contains e.1)=some true->x+y<=z):=fun i x y z hx hy hz=>by
   rw [List.getElem?_map,List.getElem?_zipWith] at hx
   rw [List.getElem?_zipWith] at hy hz
   cases hr:rs[i]? with
   |none=>rw [hr] at hx;cases hx
   |some a=>
    cases hn:cn[i]? with
    |none=>rw [hr,hn] at hx;cases hx
    |some c=>
     have hi:i<chs.length:=by have:=(List.getElem?_eq_some_iff.1 hr).1;omega
     have hch:=List.getElem?_eq_getElem hi
     rw [hr,hn] at hx hz
     rw [hr,cnt_at hch hn] at hy
     injection hx with hx;injection hy with hy;injection hz with hz
     subst hx;subst hy;subst hz
     have hsp:=from_split a c
     rw [hch]
     simp only [Option.map_some,Option.some.injEq]
     split
     ·exact ⟨by omega,by omega,fun _=>by omega⟩
     ·rename_i hne
      exact ⟨by omega,Nat.le_refl _,fun h=>absurd h hne⟩
  have hl1:((rs.zipWith endsAt cn).map List.length).length=(rs.zipWith fromN cn).length:=by simp
  have hl2:(rs.zipWith fromN (cntM chs cn e.1)).length=(rs.zipWith fromN cn).length:=by
   rw [List.length_zipWith,List.length_zipWith,cnt_len hc,hc]
  rw [parGo]
  split
  ·rename_i hs
   have ih:=go_len (s:=s) hl t (j+1) (cntM chs cn e.1) (meetR s rs cn j r) (cnt_len hc)
   rw [meet_ends] at ih
   have hsome: ∃(i:Nat) (ch:List Int),chs[i]? =some ch/\ch.contains e.1=true:=by
    unfold canStep at hs
    rw [Bool.and_eq_true,List.any_eq_true] at hs
    obtain ⟨⟨ch,hch,hce⟩,_⟩:=hs
    obtain ⟨i,hi,rfl⟩:=List.getElem_of_mem hch
    exact ⟨i,_,List.getElem?_eq_getElem hi,hce⟩
   obtain ⟨i,ch,hch,hce⟩:=hsome
   have hi:i<chs.length:=(List.getElem?_eq_some_iff.1 hch).1
   have h2:prodL ((rs.zipWith endsAt cn).map List.length)+prodL (rs.zipWith fromN (cntM chs cn e.1))<=prodL (rs.zipWith fromN cn):=by
    refine prod_two hl1 hl2 (fun i x y z hx hy hz=>⟨(hpt i x y z hx hy hz).1,(hpt i x y z hx hy hz).2.1⟩) ?_
    have hr:i<rs.length:=by omega
    have hn:i<cn.length:=by omega
    have ex:((rs.zipWith endsAt cn).map List.length)[i]? =some (endsAt rs[i] cn[i]).length:=by
     rw [List.getElem?_map,List.getElem?_zipWith,List.getElem?_eq_getElem hr,List.getElem?_eq_getElem hn];rfl
    have ey:(rs.zipWith fromN (cntM chs cn e.1))[i]? =some (fromN rs[i] (if ch.contains e.1 then cn[i]+1 else cn[i])):=by
     rw [List.getElem?_zipWith,List.getElem?_eq_getElem hr,cnt_at hch (List.getElem?_eq_getElem hn)]
    have ez:(rs.zipWith fromN cn)[i]? =some (fromN rs[i] cn[i]):=by
     rw [List.getElem?_zipWith,List.getElem?_eq_getElem hr,List.getElem?_eq_getElem hn]
    exact ⟨i,_,_,_,ex,ey,ez,(hpt i _ _ _ ex ey ez).2.2 (by rw [hch];simpa using hce)⟩
   omega
  ·rw [meet_ends]
   have h2:prodL ((rs.zipWith endsAt cn).map List.length)<=prodL (rs.zipWith fromN cn):=by
    refine prod_le hl1 fun i x z hx hz=>?_
    have hi:i<(rs.zipWith fromN (cntM chs cn e.1)).length:=by rw [hl2];exact (List.getElem?_eq_some_iff.1 hz).1
    exact (hpt i x _ z hx (List.getElem?_eq_getElem hi) hz).1
   omega
theorem par_len{chs:List (List Int)}{rs:List RN}{t:TR}{s:Sto}(hl:rs.length=chs.length):(parM chs rs t s).ends.length<=prodL (rs.map fun r=>r.ends.length):=by
 have h1:=go_len (s:=s) hl t 0 (chs.map fun _=>0) ⟨0,[],rs.any (·.miss)⟩ (by rw [List.length_map])
 refine Nat.le_trans h1 ?_
 simp only [List.length_nil,Nat.zero_add]
 refine prod_le (by simp [hl]) fun i x y hx hy=>?_
 rw [List.getElem?_zipWith] at hx
 rw [List.getElem?_map] at hy
 cases hr:rs[i]? with
 |none=>rw [hr] at hx;cases hx
 |some a=>
  cases hn:(chs.map fun _=>0)[i]? with
  |none=>rw [hr,hn] at hx;cases hx
  |some c=>
   rw [hr,hn] at hx
   rw [hr] at hy
   injection hx with hx;injection hy with hy
   subst hx;subst hy
   exact from_le _ _
abbrev LenP(p:PR):Prop:= ∀f op t s,(runR f op t s p).ends.length<=wayR p f
theorem way_pos_while{b:Nat->Nat}: ∀f,1<=whileW b f
 |0=>Nat.le_refl _
 |f+1=>Nat.le_add_right _ _
theorem len_bod{l:List PR}(h: ∀x,x∈l->LenP x): ∀f op t s,(bodR19 f op t s l).ends.length<=wayB l f:=by
 intro f op t s
 cases l with
 |nil=>rw [bodR19];exact Nat.zero_le _
 |cons p r=>rw [bodR19,wayB];exact h p (.head _) f op t s
theorem len_seq{l:List PR}(h: ∀x,x∈l->LenP x): ∀f op t s,(seqR19 f op t s l).ends.length<=wayL l f:=by
 induction l with
 |nil=>intro f op t s;rw [seqR19,wayL];exact Nat.le_refl _
 |cons p r ih=>
  intro f op t s
  rw [seqR19,wayL]
  exact then_len (h p (.head _) f op t s) fun e _=>ih (fun x hx=>h x (.tail _ hx)) f op (t.drop e.1) e.2
theorem bod_sum(f:Nat): ∀(l:List PR) {op:List Int} {t:TR} {s:Sto},(∀x,x∈l->LenP x)->(bodR19 f op t s l).ends.length<=waySum l f
 | [],op,t,s,_=>by rw [bodR19];exact Nat.zero_le _
 |p::r,op,t,s,h=>by
  rw [bodR19,waySum]
  have:=h p (.head _) f op t s
  omega
theorem len_if{gs:List GD}(h: ∀g,g∈gs-> ∀x,x∈g.body->LenP x): ∀f op t s,(ifR f op t s gs).ends.length<=wayGs gs f:=by
 induction gs with
 |nil=>intro f op t s;rw [ifR];exact Nat.zero_le _
 |cons g r ih=>
  intro f op t s
  have hb:=bod_sum f g.body (op:=op) (t:=t) (s:=s) (h g (.head _))
  have hi:=ih (fun x hx=>h x (.tail _ hx)) f op t s
  obtain ⟨k,cd,c,it,to,tm,b⟩:=g
  rw [ifR,wayGs]
  cases valueM s cd with
  |none=>exact Nat.zero_le _
  |some v=>
   simp only
   split
   ·omega
   ·have:=join_len nilR 0 (bodR19 f op t s b)
    have e:nilR.ends.length=0:=rfl
    have hb:(bodR19 f op t s b).ends.length<=waySum b f:=hb
    omega
theorem len_alt{gs:List GD}(h: ∀g,g∈gs-> ∀x,x∈g.body->LenP x): ∀f op t s acc,(altR f op t s gs acc).ends.length<=acc.ends.length+wayGs gs f:=by
 induction gs with
 |nil=>intro f op t s acc;rw [altR];exact Nat.le_add_right _ _
 |cons g r ih=>
  intro f op t s acc
  have hb:=fun t s=>bod_sum f g.body (op:=op) (t:=t) (s:=s) (h g (.head _))
  have hi:=ih (fun x hx=>h x (.tail _ hx)) f op t s
  obtain ⟨k,cd,c,it,to,tm,b⟩:=g
  have hb: ∀t s,(bodR19 f op t s b).ends.length<=waySum b f:=hb
  rw [altR,wayGs]
  split
  ·have:=hi acc;omega
  ·split
   ·cases inp19 op t c it to s with
    |none=>have:=hi acc;simp only;omega
    |some s'=>
     have h1:=hi (joinR acc 1 (bodR19 f op (t.drop 1) s' b))
     have h2:=join_len acc 1 (bodR19 f op (t.drop 1) s' b)
     have h3:=hb (t.drop 1) s'
     simp only;omega
   ·have h1:=hi (joinR acc 0 (bodR19 f op t s b))
    have h2:=join_len acc 0 (bodR19 f op t s b)
    have h3:=hb t s
    omega
theorem prod_way{f:Nat}: ∀{l:List PR} {rs:List RN},rs.length=l.length->(∀(i:Nat) p r,l[i]? =some p->rs[i]? =some r->r.ends.length<=wayR p f)->prodL (rs.map fun r=>r.ends.length)<=wayL l f
 | [],[],_,_=>by rw [wayL];exact Nat.le_refl _
 |p::l,r::rs,hl,h=>by
  rw [wayL]
  exact Nat.mul_le_mul (h 0 p r rfl rfl) (prod_way (by simpa using hl) fun i a b ha hb=>h (i+1) a b ha hb)
 | [],_::_,h,_=>by simp at h
 |_::_,[],h,_=>by simp at h
theorem len_run_n: ∀(m:Nat) (p:PR),SizeOf.sizeOf p<=m->LenP p
 |0,p,h=>by
  obtain ⟨k,c,v,i,to,e,gs,l⟩:=p
  simp only [PR.mk.sizeOf_spec] at h;omega
 |m+1,p,hm=>by
  have hl: ∀x,x∈p.l->LenP x:=fun x hx=>len_run_n m x (by have:=lt19_l hx;omega)
  have hg: ∀g,g∈p.gs-> ∀x,x∈g.body->LenP x:=fun g hg x hx=>len_run_n m x (by have:=lt19_g hg hx;omega)
  have s1:=len_seq hl
  have b1:=len_bod hl
  have i1:=len_if hg
  have a1:=len_alt hg
  obtain ⟨k,c,v,it,to,e,gs,l⟩:=p
  intro f op t s
  have s1: ∀f op t s,(seqR19 f op t s l).ends.length<=wayL l f:=s1
  have b1: ∀f op t s,(bodR19 f op t s l).ends.length<=wayB l f:=b1
  have i1: ∀f op t s,(ifR f op t s gs).ends.length<=wayGs gs f:=i1
  have a1: ∀f op t s acc,(altR f op t s gs acc).ends.length<=acc.ends.length+wayGs gs f:=a1
  have one: ∀s':Sto,(finR s').ends.length=1:=fun _=>rfl
  have oneJ: ∀s':Sto,(joinR nilR 1 (finR s')).ends.length<=1:=fun s'=>join_len nilR 1 (finR s')
  have none':nilR.ends.length=0:=rfl
  rw [runR_eq,wayR_eq]
  by_cases k1:k=1
  ·rw [if_pos k1,if_neg (by omega),if_neg (by omega),if_neg (by omega)];exact Nat.le_refl _
  rw [if_neg k1]
  by_cases k3:k=3
  ·rw [if_pos k3,if_neg (by omega),if_neg (by omega),if_neg (by omega)];exact Nat.le_refl _
  rw [if_neg k3]
  by_cases k4:k=4
  ·rw [if_pos k4,if_neg (by omega),if_neg (by omega),if_neg (by omega)]
   cases asg19 s to e s with
   |none=>exact Nat.zero_le _
   |some s'=>exact Nat.le_refl _
  rw [if_neg k4]
  by_cases k5:k=5
  ·rw [if_pos k5,if_neg (by omega),if_neg (by omega),if_neg (by omega)]
   cases to with
   |nil=>exact Nat.zero_le _
   |cons q r=>
    simp only
    cases inp19 op t c it q s with
    |none=>exact Nat.zero_le _
    |some s'=>exact oneJ s'
  rw [if_neg k5]
  by_cases k6:k=6
  ·rw [if_pos k6,if_neg (by omega),if_neg (by omega),if_neg (by omega)]
   cases e with
   |nil=>exact Nat.zero_le _
   |cons x r=>
    simp only
    by_cases ho:out19 op t c x s=true
    ·rw [if_pos ho];exact oneJ s
    ·rw [if_neg ho];exact Nat.zero_le _
  rw [if_neg k6]
  by_cases k9:k=9
  ·rw [if_pos k9,if_pos (.inl k9)];exact s1 f op t s
  rw [if_neg k9]
  by_cases k13:k=13
  ·rw [if_pos k13,if_neg (by omega),if_neg (by omega),if_pos k13]
   cases e with
   |nil=>exact Nat.zero_le _
   |cons x r=>exact while_len (fun f t s=>b1 f op t s) f t s
  rw [if_neg k13]
  by_cases k12:k=12
  ·rw [if_pos k12,if_neg (by omega),if_pos (.inl k12)]
   have:=i1 f op t s
   omega
  rw [if_neg k12]
  by_cases k14:k=14\/k=15
  ·rw [if_pos k14,show (if k=9\/k=10\/k=11 then wayL l f else if k=12\/k=14\/k=15 then 1+wayGs gs f else if k=13 then whileW (fun f'=>wayB l f') f else 1)=1+wayGs gs f by rw [if_neg (by omega),if_pos (.inr k14)]]
   by_cases ho:gdsOk s gs=true
   ·rw [if_pos ho]
    have:=a1 f op t s nilR
    omega
   ·rw [if_neg ho];exact Nat.zero_le _
  rw [if_neg k14]
  by_cases k10:k=10\/k=11
  ·rw [if_pos k10,if_pos (.inr k10)]
   refine Nat.le_trans (par_len (by rw [brs_len,List.length_map])) (prod_way (by rw [brs_len]) fun i p r hp hr=>?_)
   rw [brs_at,hp] at hr
   injection hr with hr
   subst hr
   exact hl p (List.mem_of_getElem? hp) f _ _ s
  rw [if_neg k10]
  exact Nat.zero_le _
theorem len_run(p:PR):LenP p:=len_run_n _ p (Nat.le_refl _)
abbrev SameO(a b:List Int):Prop:= ∀c,c∈a↔c∈b
theorem inp_op{a b:List Int}(h:SameO a b)(t:TR)(c it:Int)(to:PL)(s:Sto):inp19 a t c it to s=inp19 b t c it to s:=by
 unfold inp19
 cases placeM s to.v to.ix with
 |none=>rfl
 |some q=>
  cases t with
  |nil=>rfl
  |cons e r=>simp only [h c]
theorem out_op{a b:List Int}(h:SameO a b)(t:TR)(c:Int)(e:KE)(s:Sto):out19 a t c e s=out19 b t c e s:=by
 unfold out19
 cases valueM s e with
 |none=>rfl
 |some x=>simp only [h c]
theorem mem_open{op:List Int}{all:List (List Int)}{i:Nat}{c:Int}:c∈openM op all i↔c∈op\/ ∃(j:Nat) (ch:List Int),j≠i/\all[j]? =some ch/\c∈ch:=by
 unfold openM
 simp only [List.mem_append,List.mem_flatten]
 constructor
 ·rintro (h|⟨ch,hch,hc⟩|⟨ch,hch,hc⟩)
  ·exact .inl h
  ·obtain ⟨j,hj,rfl⟩:=List.getElem_of_mem hch
   rw [List.length_take] at hj
   exact .inr ⟨j,_,by omega,by rw [List.getElem_take];exact List.getElem?_eq_getElem (by omega),hc⟩
  ·obtain ⟨j,hj,rfl⟩:=List.getElem_of_mem hch
   rw [List.length_drop] at hj
   exact .inr ⟨i+1+j,_,by omega,by rw [List.getElem_drop];exact List.getElem?_eq_getElem (by omega),hc⟩
 ·rintro (h|⟨j,ch,hj,hch,hc⟩)
  ·exact .inl h
  ·rcases Nat.lt_or_ge j i with hji|hji
   ·refine .inr (.inl ⟨ch,?_,hc⟩)
    refine List.mem_of_getElem? (i:=j) ?_
    rw [List.getElem?_take,if_pos hji];exact hch
   ·refine .inr (.inr ⟨ch,?_,hc⟩)
    refine List.mem_of_getElem? (i:=j-(i+1)) ?_
    rw [List.getElem?_drop,show i+1+(j-(i+1))=j by omega];exact hch
theorem open_same{a b:List Int}(h:SameO a b)(all:List (List Int))(i:Nat):SameO (openM a all i) (openM b all i):=fun c=>by
 rw [mem_open,mem_open,h c]
abbrev OpP(p:PR):Prop:= ∀f a b t s,SameO a b->runR f a t s p=runR f b t s p
theorem op_bod{l:List PR}(h: ∀x,x∈l->OpP x): ∀f a b t s,SameO a b->bodR19 f a t s l=bodR19 f b t s l:=by
 intro f a b t s ho
 cases l with
 |nil=>rw [bodR19,bodR19]
 |cons p r=>rw [bodR19,bodR19];exact h p (.head _) f a b t s ho
theorem op_seq{l:List PR}(h: ∀x,x∈l->OpP x): ∀f a b t s,SameO a b->seqR19 f a t s l=seqR19 f b t s l:=by
 induction l with
 |nil=>intro f a b t s _;rw [seqR19,seqR19]
 |cons p r ih=>
  intro f a b t s ho
  rw [seqR19,seqR19,h p (.head _) f a b t s ho]
  congr 1
  funext n s'
  exact ih (fun x hx=>h x (.tail _ hx)) f a b (t.drop n) s' ho
theorem op_if{gs:List GD}(h: ∀g,g∈gs-> ∀x,x∈g.body->OpP x): ∀f a b t s,SameO a b->ifR f a t s gs=ifR f b t s gs:=by
 induction gs with
 |nil=>intro f a b t s _;rw [ifR,ifR]
 |cons g r ih=>
  intro f a b t s ho
  have hb:=op_bod (h g (.head _)) f a b t s ho
  have hi:=ih (fun x hx=>h x (.tail _ hx)) f a b t s ho
  obtain ⟨k,cd,c,it,to,tm,bd⟩:=g
  have hb:bodR19 f a t s bd=bodR19 f b t s bd:=hb
  rw [ifR,ifR,hi,hb]
theorem op_alt{gs:List GD}(h: ∀g,g∈gs-> ∀x,x∈g.body->OpP x): ∀f a b t s acc,SameO a b->altR f a t s gs acc=altR f b t s gs acc:=by
 induction gs with
 |nil=>intro f a b t s acc _;rw [altR,altR]
 |cons g r ih=>
  intro f a b t s acc ho
  have hb:=fun t s=>op_bod (h g (.head _)) f a b t s ho
  have hi:=fun acc=>ih (fun x hx=>h x (.tail _ hx)) f a b t s acc ho
  obtain ⟨k,cd,c,it,to,tm,bd⟩:=g
  have hb: ∀t s,bodR19 f a t s bd=bodR19 f b t s bd:=hb
  rw [altR,altR,inp_op ho,hi,hb]
  split
  ·rfl
  ·split
   ·cases inp19 b t c it to s with
    |none=>rfl
    |some s'=>simp only [hb,hi]
   ·rw [hi]
theorem brs_congr{f:Nat}{a b:List Int}{all all':List (List Int)}{t:TR}{s:Sto}: ∀(l:List PR) (i:Nat),(∀(j:Nat) p,l[j]? =some p->runR f (openM a all (i+j)) (onlyT t ((all[i+j]?).getD [])) s p=runR f (openM b all' (i+j)) (onlyT t ((all'[i+j]?).getD [])) s p)->brsR f a all i t s l=brsR f b all' i t s l
 | [],i,_=>by rw [brsR,brsR]
 |p::r,i,h=>by
  have h0:=h 0 p rfl
  rw [Nat.add_zero] at h0
  have e:=brs_congr (f:=f) (a:=a) (b:=b) (all:=all) (all':=all') (t:=t) (s:=s) r (i+1) fun j q hq=>by
   have:=h (j+1) q hq
   rw [show i+(j+1)=i+1+j by omega] at this
   exact this
  rw [brsR,brsR,h0,e]
theorem op_run_n: ∀(m:Nat) (p:PR),SizeOf.sizeOf p<=m->OpP p
 |0,p,h=>by
  obtain ⟨k,c,v,i,to,e,gs,l⟩:=p
  simp only [PR.mk.sizeOf_spec] at h;omega
 |m+1,p,hm=>by
  have hl: ∀x,x∈p.l->OpP x:=fun x hx=>op_run_n m x (by have:=lt19_l hx;omega)
  have hg: ∀g,g∈p.gs-> ∀x,x∈g.body->OpP x:=fun g hg x hx=>op_run_n m x (by have:=lt19_g hg hx;omega)
  have s1:=op_seq hl
  have b1:=op_bod hl
  have i1:=op_if hg
  have a1:=op_alt hg
  obtain ⟨k,c,v,it,to,e,gs,l⟩:=p
  intro f a b t s ho
  have s1:seqR19 f a t s l=seqR19 f b t s l:=s1 f a b t s ho
  have b1: ∀f t s,bodR19 f a t s l=bodR19 f b t s l:=fun f t s=>b1 f a b t s ho
  have i1:ifR f a t s gs=ifR f b t s gs:=i1 f a b t s ho
  have a1:altR f a t s gs nilR=altR f b t s gs nilR:=a1 f a b t s nilR ho
  have p1:brsR f a (l.map chansM) 0 t s l=brsR f b (l.map chansM) 0 t s l:=brs_congr l 0 fun j q hq=>hl q (List.mem_of_getElem? hq) f _ _ _ s (open_same ho _ _)
  rw [runR_eq,runR_eq,s1,i1,a1,p1]
  have hin: ∀q:PL,inp19 a t c it q s=inp19 b t c it q s:=fun q=>inp_op ho t c it q s
  have hout: ∀x:KE,out19 a t c x s=out19 b t c x s:=fun x=>out_op ho t c x s
  have hbod:(fun f' t' s'=>bodR19 f' a t' s' l)=fun f' t' s'=>bodR19 f' b t' s' l:=by funext f' t' s';exact b1 f' t' s'
  simp only [hin,hout,hbod]
theorem op_run(p:PR):OpP p:=op_run_n _ p (Nat.le_refl _)
end Go.Proofs.YtkbolbpojpmicaaGreat
namespace Go.Proofs.YtkbolbpojpmicaaGreat
section
variable{S:Type}
end
section
variable{S:Type}
end
end Go.Proofs.YtkbolbpojpmicaaGreat
namespace Go.Proofs.YtkbolbpojpmicaaGreat
open Go Go.Tp
abbrev twoA(a b:Int):AV:= .ag [AI a,AI b]
theorem shape1_p(n:Nat)(a b:Int):Pure Tryz.prog gs0 331 [AI (n:Int),twoA a b] (AB (inB n a b)):=by
 refine p_ tt_ok Tryz.func331 15 fun w0 h0 F hgs=>?_
 (refine b_ fun bx=>?_;refine y_ ?_)
 refine A.indexArr rfl rfl rfl rfl rfl rfl rfl rfl (by decide) (by decide) ?_
 refine y_ ?_
 ((fail_if_success (refine A.lit? rfl ?_));refine A.gS rfl (fun hc=>?_) (fun hc=>?_))
 ·refine y_ ?_
  refine A.indexArr rfl rfl rfl rfl rfl rfl rfl rfl (by decide) (by decide) ?_
  refine y_ ?_;refine R_ ?_;refine Sb.eq (ab_eq ?_);rw [inB,hc];rfl
 ·refine y_ ?_;refine R_ ?_;refine Sb.eq (ab_eq ?_);rw [inB,hc];rfl
theorem shape_p(p:PR)(ch v:Bool)(t1 t2 e1 e2 g1 g2 l1 l2:Int):Pure Tryz.prog gs0 306 [cellsR p,AB ch,AB v,twoA t1 t2,twoA e1 e2,twoA g1 g2,twoA l1 l2] (AB (shapeR p ch v t1 t2 e1 e2 g1 g2 l1 l2)):=by
 have s1:=shape1_p p.to.length t1 t2
 have s2:=shape1_p p.e.length e1 e2
 have s3:=shape1_p p.gs.length g1 g2
 have s4:=shape1_p p.l.length l1 l2
 have n1:((p.to.map encPl).length:Int)=p.to.length:=by rw [List.length_map]
 have n2:((encKl p.e).length:Int)=p.e.length:=by rw [encKl_len]
 have n3:((encGl p.gs).length:Int)=p.gs.length:=by rw [encGl_len]
 have n4:((encRl p.l).length:Int)=p.l.length:=by rw [encRl_len]
 rw [<-n1] at s1
 rw [<-n2] at s2
 rw [<-n3] at s3
 rw [<-n4] at s4
 unfold shapeR
 generalize inB p.to.length t1 t2=b1 at s1⊢
 generalize inB p.e.length e1 e2=b2 at s2⊢
 generalize inB p.gs.length g1 g2=b3 at s3⊢
 generalize inB p.l.length l1 l2=b4 at s4⊢
 cases ch<;>cases v
 all_goals refine p_ tt_ok Tryz.func306 67 fun w0 h0 F hgs=>?_
 all_goals (repeat' first|first|refine A.s rfl ?_|refine A.r rfl rfl ?_|refine A.w rfl rfl ?_|refine A.p rfl ?_|refine A.b rfl fun bx=>?_|refine A.t rfl fun bl=>?_|refine A.c rfl s1 .refl ?_|refine A.c rfl s2 .refl ?_|refine A.c rfl s3 .refl ?_|refine A.c rfl s4 .refl ?_|((fail_if_success (refine A.lit? rfl ?_));refine A.gS rfl (fun hc=>?_) (fun hc=>?_))|((fail_if_success (refine A.litP? rfl ?_));refine A.gSP rfl (fun hc=>?_) (fun hc=>?_)))
 (all_goals (refine R_ ?_;refine Sb.eq (ab_eq ?_)))
 all_goals simp_all
theorem chan_p(l:List KV)(ch:List Int)(x:Nat->AV)(lf:Int)(c item no:Int):Pure Tryz.prog gs0 310 [ckP l ch x lf,AI c,AU8 item,AI no] (AB (chanB ch.length c item no)):=by
 have hp:=kprim_p item
 have hn:((ch.map AU8).length:Int)=ch.length:=by rw [List.length_map]
 unfold chanB
 generalize primB item=b at hp⊢
 refine p_ tt_ok Tryz.func310 38 fun w0 h0 F hgs=>?_
 (repeat' first|first|refine A.s rfl ?_|refine A.r rfl rfl ?_|refine A.w rfl rfl ?_|refine A.p rfl ?_|refine A.b rfl fun bx=>?_|refine A.t rfl fun bl=>?_|refine A.c rfl hp .refl ?_|((fail_if_success (refine A.lit? rfl ?_));refine A.gS rfl (fun hc=>?_) (fun hc=>?_))|((fail_if_success (refine A.litP? rfl ?_));refine A.gSP rfl (fun hc=>?_) (fun hc=>?_)))
 (all_goals (refine R_ ?_;refine Sb.eq (ab_eq ?_)))
 all_goals (rw [Bool.eq_iff_iff];simp_all)
 all_goals (try intros)
 all_goals omega
theorem place_p(l:List KV)(ch:List Int)(x:Nat->AV)(lf:Int)(hl:l.length<=281474976710656)(hv:VarsOk l)(p:PL)(hw:wfPl p)(k:Int):Pure Tryz.prog gs0 307 [ckP l ch x lf,encPl p,AU8 k] (AB (placeB l p k)):=by
 have hlen:((l.map encV).length:Int)=l.length:=by rw [List.length_map]
 have hxl:((encKl p.ix).length:Int)=p.ix.length:=by rw [encKl_len]
 by_cases hneg:p.v<0
 ·refine p_ tt_ok Tryz.func307 62 fun w0 h0 F hgs=>?_
  (refine b_ fun bx=>?_;refine y_ ?_)
  refine d_ 26 [0,1,2,3,4,5,6,7,8,9,10,11,12,13,14,15,16,17,18,19,20,21,22,23,24,25] [] ?_
  refine ew_ 10 rfl (x':=AB true) (ab_eq (by simpa using hneg)) ?_
  refine z_ ?_;refine R_ ?_;refine Sb.eq (ab_eq ?_);rw [placeB,if_pos (.inl hneg)]
 by_cases h1:(l.length:Int)<=p.v
 ·refine p_ tt_ok Tryz.func307 62 fun w0 h0 F hgs=>?_
  (refine b_ fun bx=>?_;refine y_ ?_)
  refine d_ 26 [0,1,2,3,4,5,6,7,8,9,10,11,12,13,14,15,16,17,18,19,20,21,22,23,24,25] [] ?_
  refine ew_ 10 rfl (x':=AB false) (ab_eq (by simp;omega)) ?_
  refine ew_ 21 rfl (x':=AB true) (ab_eq (by rw [hlen];simpa using h1)) ?_
  refine z_ ?_;refine R_ ?_;refine Sb.eq (ab_eq ?_);rw [placeB,if_pos (.inr h1)]
 refine Exists.elim (at_ex (l:=l) (i:=p.v) (by omega) (by omega)) fun y hy=>?_
 have hyk:=hv y (List.mem_of_getElem? hy)
 have hpb:placeB l p k=(y.kind==k&&(if y.dim=0 then p.ix.length==0 else p.ix.length==1&&fit1 l p.ix 1)):=by rw [placeB,if_neg (by omega),hy]
 rw [hpb]
 clear hpb
 have hv0:(0:Int)<=p.v:=by omega
 by_cases hk:y.kind=k
 case neg=>
  refine p_ tt_ok Tryz.func307 62 fun w0 h0 F hgs=>?_
  (refine b_ fun bx=>?_;refine y_ ?_)
  refine d_ 26 [0,1,2,3,4,5,6,7,8,9,10,11,12,13,14,15,16,17,18,19,20,21,22,23,24,25] [] ?_
  refine ew_ 10 rfl (x':=AB false) (ab_eq (by simp;omega)) ?_
  refine ew_ 21 rfl (x':=AB false) (ab_eq (by rw [hlen];simp;omega)) ?_
  refine WA.x rfl hv0 (map_at hy) rfl rfl ?_
  refine w_ ?_
  refine z_ ?_
  refine e_ 34 rfl (x':=AB true) (ab_eq (by simpa using hk)) ?_;refine R_ ?_;refine Sb.eq (ab_eq ?_);simp [hk]
 subst hk
 by_cases hd:y.dim=0
 ·refine p_ tt_ok Tryz.func307 62 fun w0 h0 F hgs=>?_
  (refine b_ fun bx=>?_;refine y_ ?_)
  refine d_ 26 [0,1,2,3,4,5,6,7,8,9,10,11,12,13,14,15,16,17,18,19,20,21,22,23,24,25] [] ?_
  refine ew_ 10 rfl (x':=AB false) (ab_eq (by simp;omega)) ?_
  refine ew_ 21 rfl (x':=AB false) (ab_eq (by rw [hlen];simp;omega)) ?_
  refine WA.x rfl hv0 (map_at hy) rfl rfl ?_
  refine w_ ?_
  refine z_ ?_
  refine e_ 34 rfl (x':=AB false) (ab_eq (by simp)) ?_
  refine d_ 7 [0,1,2,3,4,5,6] [] ?_
  refine WA.nil (l:=[]) rfl ?_
  refine A.x rfl hv0 (map_at hy) rfl rfl ?_
  refine y_ ?_
  refine e_ 45 rfl (x':=AB true) (ab_eq (by simpa using hd)) ?_;refine R_ ?_;refine Sb.eq (ab_eq ?_);rw [hxl,if_pos hd,Bool.eq_iff_iff];simp
 ·have hfin: ∀e,p.ix=[e]->Pure Tryz.prog gs0 308 [ckP l ch x lf,encK e,AU8 1] (AB (fit1 l p.ix 1)):=fun e he=>by
   have:=kfits_p l ch x lf hl hv e (wfKl_mem hw e (by rw [he];exact List.mem_cons_self ..)) 1 (by decide)
   rw [he];exact this
  by_cases hx1:p.ix.length=1
  ·obtain ⟨e,he⟩: ∃e,p.ix=[e]:=by
    match h:p.ix,hx1 with
    | [e],_=>exact ⟨e,rfl⟩
   have hf:=hfin e he
   rw [encK_eq] at hf
   generalize hfb:fit1 l p.ix 1=fb at hf⊢
   refine p_ tt_ok Tryz.func307 62 fun w0 h0 F hgs=>?_
   (refine b_ fun bx=>?_;refine y_ ?_)
   refine d_ 26 [0,1,2,3,4,5,6,7,8,9,10,11,12,13,14,15,16,17,18,19,20,21,22,23,24,25] [] ?_
   refine ew_ 10 rfl (x':=AB false) (ab_eq (by simp;omega)) ?_
   refine ew_ 21 rfl (x':=AB false) (ab_eq (by rw [hlen];simp;omega)) ?_
   refine WA.x rfl hv0 (map_at hy) rfl rfl ?_
   refine w_ ?_
   refine z_ ?_
   refine e_ 34 rfl (x':=AB false) (ab_eq (by simp)) ?_
   refine d_ 7 [0,1,2,3,4,5,6] [] ?_
   refine WA.nil (l:=[]) rfl ?_
   refine A.x rfl hv0 (map_at hy) rfl rfl ?_
   refine y_ ?_
   refine e_ 45 rfl (x':=AB false) (ab_eq (by simpa using hd)) ?_
   refine e_ 54 rfl (x':=AB true) (ab_eq (by rw [hxl];simp [hx1])) ?_
   refine i_ rfl (show (encKl p.ix)[(0:Int).toNat]? =some (encK e) from encKl_at (by rw [he];rfl)) (encK_eq e) ?_
   refine c_ hf ?_;refine R_ ?_;refine Sb.eq (ab_eq ?_);rw [if_neg hd,hx1];simp
  ·refine p_ tt_ok Tryz.func307 62 fun w0 h0 F hgs=>?_
   (refine b_ fun bx=>?_;refine y_ ?_)
   refine d_ 26 [0,1,2,3,4,5,6,7,8,9,10,11,12,13,14,15,16,17,18,19,20,21,22,23,24,25] [] ?_
   refine ew_ 10 rfl (x':=AB false) (ab_eq (by simp;omega)) ?_
   refine ew_ 21 rfl (x':=AB false) (ab_eq (by rw [hlen];simp;omega)) ?_
   refine WA.x rfl hv0 (map_at hy) rfl rfl ?_
   refine w_ ?_
   refine z_ ?_
   refine e_ 34 rfl (x':=AB false) (ab_eq (by simp)) ?_
   refine d_ 7 [0,1,2,3,4,5,6] [] ?_
   refine WA.nil (l:=[]) rfl ?_
   refine A.x rfl hv0 (map_at hy) rfl rfl ?_
   refine y_ ?_
   refine e_ 45 rfl (x':=AB false) (ab_eq (by simpa using hd)) ?_
   refine e_ 54 rfl (x':=AB false) (ab_eq (by rw [hxl];simp;omega)) ?_;refine R_ ?_;refine Sb.eq (ab_eq ?_);rw [if_neg hd];simp [hx1]
theorem input_p(l:List KV)(ch:List Int)(x:Nat->AV)(lf:Int)(hl:l.length<=281474976710656)(hv:VarsOk l)(c item:Int)(to:PL)(hw:wfPl to):Pure Tryz.prog gs0 309 [ckP l ch x lf,AI c,AU8 item,encPl to] (AB (inputB l ch.length c item to)):=by
 have hc:=chan_p l ch x lf c item 1
 have hp:=place_p l ch x lf hl hv to hw item
 unfold inputB
 generalize chanB ch.length c item 1=b1 at hc⊢
 generalize placeB l to item=b2 at hp⊢
 cases b1
 all_goals refine p_ tt_ok Tryz.func309 19 fun w0 h0 F hgs=>?_
 all_goals (repeat' first|first|refine A.s rfl ?_|refine A.r rfl rfl ?_|refine A.w rfl rfl ?_|refine A.p rfl ?_|refine A.b rfl fun bx=>?_|refine A.t rfl fun bl=>?_|refine A.c rfl hc .refl ?_|refine A.c rfl hp .refl ?_)
 (all_goals (refine R_ ?_;refine Sb.eq (ab_eq ?_)))
 all_goals simp_all
theorem plain16_p(g:GD)(input timed:Bool):Pure Tryz.prog gs0 336 [cellsG g,AB input,AB timed] (AB (plainGB g input timed)):=by
 have n1:((encKl g.time.l).length:Int)=g.time.l.length:=by rw [encKl_len]
 have n2:((encKl g.to.ix).length:Int)=g.to.ix.length:=by rw [encKl_len]
 have hn:decide (g.time.l.length<=0)= !decide (0<((encKl g.time.l).length:Int)):=by rw [n1,Bool.eq_iff_iff];simp
 have hm:(g.to.ix.length==0)=(((encKl g.to.ix).length:Int)==0):=by rw [n2,Bool.eq_iff_iff];simp
 unfold plainGB zeroE
 rw [hn,hm]
 cases input<;>cases timed
 all_goals refine p_ tt_ok Tryz.func336 71 fun w0 h0 F hgs=>?_
 all_goals (repeat' first|first|refine A.s rfl ?_|refine A.r rfl rfl ?_|refine A.w rfl rfl ?_|refine A.p rfl ?_|refine A.b rfl fun bx=>?_|refine A.t rfl fun bl=>?_|((fail_if_success (refine A.lit? rfl ?_));refine A.gS rfl (fun hc=>?_) (fun hc=>?_))|((fail_if_success (refine A.litP? rfl ?_));refine A.gSP rfl (fun hc=>?_) (fun hc=>?_)))
 (all_goals (refine R_ ?_;refine Sb.eq (ab_eq ?_)))
 all_goals simp_all
theorem idxG_p(f:FuncId)(c:List AV)(p:GD->Bool)(l:List GD)(hcb: ∀g,g∈l->Pure Tryz.prog gs0 f (cellsG g::c) (AB (p g)))(hb:l.length<=281474976710656):
 Pure Tryz.prog gs0 335 [gsA l, .fn f [] c] (AI (idxF p l 0)):=by
 refine p_ tt_ok Tryz.func335 19 fun w0 h0 F hgs=>?_
 refine y_ ?_
 refine A.valE 7 rfl (x':=AI (l.length:Nat)) (ai_eq (by rw [encGl_len])) ?_
 refine A.keep [0,1,7,8] rfl ?_
 refine A.loopP (ι:=Nat) (fun i=>(⟨[(0,gsA l),(1, .fn f [] c),(7,AI (l.length:Nat)),(8,AI (i:Int))],[]⟩,[])) (fun i=>i<=l.length/\idxF p l 0=idxF p (l.drop i) i) (fun i=>l.length-i) 0 ⟨by omega,rfl⟩ rfl fun i hi ih=>?_
 refine y_ ?_
 refine k_ (fun hc=>?_) fun hc=>?_
 ·simp at hc
  refine Exists.elim (at_exN (l:=l) (i:=i) hc) fun x hx=>?_
  have hx1:=hcb x (List.mem_of_getElem? hx)
  refine y_ ?_
  refine i_ rfl (encGl_at hx) (encG_eq x) ?_
  refine A.c rfl hx1 SbL.refl ?_
  have h1:=hi.2
  rw [drop_at hx,idxF] at h1
  cases hp:p x with
  |true=>
   rw [hp] at h1
   refine y_ ?_;refine R_ ?_;rw [h1];exact .refl
  |false=>
   rw [hp] at h1
   refine y_ ?_
   refine A.valE 8 rfl (x':=AI ((i+1:Nat):Int)) (inc_eq i (by omega)) ?_
   refine u_ (ih (i+1) ⟨by omega,h1⟩ (by omega))
 ·simp at hc
  have:i=l.length:=by omega
  subst this
  refine y_ ?_;refine R_ ?_;rw [hi.2,List.drop_length];exact .refl
theorem hasG_p(f:FuncId)(c:List AV)(p:GD->Bool)(l:List GD)(hcb: ∀g,g∈l->Pure Tryz.prog gs0 f (cellsG g::c) (AB (p g)))(hb:l.length<=281474976710656):
 Pure Tryz.prog gs0 311 [gsA l, .fn f [] c] (AB (l.any p)):=by
 refine p_ tt_ok Tryz.func311 9 fun w0 h0 F hgs=>?_
 refine y_ ?_
 refine c_ (idxG_p f c p l hcb hb) ?_;refine R_ ?_;refine Sb.eq (ab_eq ?_);exact idxF_any p l 0
theorem kfit_p(l:List KV)(ch:List Int)(x:Nat->AV)(lf:Int)(hl:l.length<=281474976710656)(hv:VarsOk l)(e:KE)(hw:wfK e)(kind:Int)(hk:1<=kind/\kind<=3):Pure Tryz.prog gs0 308 [ckP l ch x lf,cellsK e,AU8 kind] (AB (fitV l e kind)):=by
 have:=kfits_p l ch x lf hl hv e hw kind hk
 rw [encK_eq] at this
 exact this
theorem guard_p(l:List KV)(ch:List Int)(x:Nat->AV)(lf:Int)(hl:l.length<=281474976710656)(hv:VarsOk l)(g:GD)(hw:WfG g)(choice:Bool):Pure Tryz.prog gs0 313 [ckP l ch x lf,cellsG g,AB choice] (AB (guardB l ch.length g choice)):=by
 have hfc:=kfit_p l ch x lf hl hv g.cond hw.cond 3 (by decide)
 have hft:=kfit_p l ch x lf hl hv g.time hw.time 1 (by decide)
 have hin:=input_p l ch x lf hl hv g.c g.item g.to hw.to
 have p1:=plain16_p g false false
 have p2:=plain16_p g true false
 have p3:=plain16_p g false true
 have hbl:(g.body.length==1)= !(((encRl g.body).length:Int) !=1):=by rw [encRl_len,Bool.eq_iff_iff];simp;omega
 unfold guardB
 rw [hbl]
 generalize fitV l g.cond 3=b1 at hfc⊢
 generalize fitV l g.time 1=b2 at hft⊢
 generalize inputB l ch.length g.c g.item g.to=b3 at hin⊢
 generalize plainGB g false false=q1 at p1⊢
 generalize plainGB g true false=q2 at p2⊢
 generalize plainGB g false true=q3 at p3⊢
 clear hw hl hv
 obtain ⟨k,e,c,i,to,t,b⟩:=g
 by_cases k1:k=1
 ·subst k1
  clear hft hin p2 p3
  simp only [true_or,if_true]
  cases choice
  all_goals refine p_ tt_ok Tryz.func313 56 fun w0 h0 F hgs=>?_
  all_goals (repeat' first|first|refine A.s rfl ?_|refine A.r rfl rfl ?_|refine A.w rfl rfl ?_|refine A.p rfl ?_|refine A.b rfl fun bx=>?_|refine A.t rfl fun bl=>?_|refine A.c rfl hfc .refl ?_|refine A.c rfl p1 .refl ?_|((fail_if_success (refine A.lit? rfl ?_));refine A.gS rfl (fun hc=>?_) (fun hc=>?_))|((fail_if_success (refine A.litP? rfl ?_));refine A.gSP rfl (fun hc=>?_) (fun hc=>?_)))
  (all_goals (refine R_ ?_;refine Sb.eq (ab_eq ?_)))
  all_goals simp_all [GD.kind]
 by_cases k2:k=2
 ·subst k2
  clear hft hin p2 p3
  simp only [or_true,if_true]
  cases choice
  all_goals refine p_ tt_ok Tryz.func313 56 fun w0 h0 F hgs=>?_
  all_goals (repeat' first|first|refine A.s rfl ?_|refine A.r rfl rfl ?_|refine A.w rfl rfl ?_|refine A.p rfl ?_|refine A.b rfl fun bx=>?_|refine A.t rfl fun bl=>?_|refine A.c rfl hfc .refl ?_|refine A.c rfl p1 .refl ?_|((fail_if_success (refine A.lit? rfl ?_));refine A.gS rfl (fun hc=>?_) (fun hc=>?_))|((fail_if_success (refine A.litP? rfl ?_));refine A.gSP rfl (fun hc=>?_) (fun hc=>?_)))
  (all_goals (refine R_ ?_;refine Sb.eq (ab_eq ?_)))
  all_goals simp_all [GD.kind]
 rw [if_neg (fun h=>h.elim k1 k2)]
 by_cases k3:k=3
 ·subst k3
  clear hft p1 p3
  rw [if_pos rfl]
  cases choice
  all_goals refine p_ tt_ok Tryz.func313 56 fun w0 h0 F hgs=>?_
  all_goals (repeat' first|first|refine A.s rfl ?_|refine A.r rfl rfl ?_|refine A.w rfl rfl ?_|refine A.p rfl ?_|refine A.b rfl fun bx=>?_|refine A.t rfl fun bl=>?_|refine A.c rfl hfc .refl ?_|refine A.c rfl hin .refl ?_|refine A.c rfl p2 .refl ?_|((fail_if_success (refine A.lit? rfl ?_));refine A.gS rfl (fun hc=>?_) (fun hc=>?_))|((fail_if_success (refine A.litP? rfl ?_));refine A.gSP rfl (fun hc=>?_) (fun hc=>?_)))
  (all_goals (refine R_ ?_;refine Sb.eq (ab_eq ?_)))
  all_goals simp_all [GD.kind]
 rw [if_neg k3]
 by_cases k4:k=4
 ·subst k4
  clear hin p1 p2
  rw [if_pos rfl]
  cases choice
  all_goals refine p_ tt_ok Tryz.func313 56 fun w0 h0 F hgs=>?_
  all_goals (repeat' first|first|refine A.s rfl ?_|refine A.r rfl rfl ?_|refine A.w rfl rfl ?_|refine A.p rfl ?_|refine A.b rfl fun bx=>?_|refine A.t rfl fun bl=>?_|refine A.c rfl hfc .refl ?_|refine A.c rfl hft .refl ?_|refine A.c rfl p3 .refl ?_|((fail_if_success (refine A.lit? rfl ?_));refine A.gS rfl (fun hc=>?_) (fun hc=>?_))|((fail_if_success (refine A.litP? rfl ?_));refine A.gSP rfl (fun hc=>?_) (fun hc=>?_)))
  (all_goals (refine R_ ?_;refine Sb.eq (ab_eq ?_)))
  all_goals simp_all [GD.kind]
 rw [if_neg k4,Bool.and_false]
 clear hft hin p1 p2 p3
 refine p_ tt_ok Tryz.func313 56 fun w0 h0 F hgs=>?_
 (repeat' first|first|refine A.s rfl ?_|refine A.r rfl rfl ?_|refine A.w rfl rfl ?_|refine A.p rfl ?_|refine A.b rfl fun bx=>?_|refine A.t rfl fun bl=>?_|refine A.c rfl hfc .refl ?_|refine A.cond rfl (fun h=>(by simp [GD.kind] at h;omega)) (fun _=>?_)|((fail_if_success (refine A.lit? rfl ?_));refine A.gS rfl (fun hc=>?_) (fun hc=>?_))|((fail_if_success (refine A.litP? rfl ?_));refine A.gSP rfl (fun hc=>?_) (fun hc=>?_)))
 (all_goals (refine R_ ?_;refine Sb.eq (ab_eq ?_)))
 all_goals rfl
section
variable(l:List KV)(ch:List Int)
variable(hl:l.length<=281474976710656)(hv:VarsOk l)
def IsCheck(f:FuncId)(p:PR):Prop:= ∀(x:Nat->AV) (lf:Int),Pure Tryz.prog gs0 f [ckP l ch x lf,cellsR p] (AB (kindB l ch.length p))
theorem nothing_p(p:PR)(hk:p.kind=1\/p.kind=2):IsCheck l ch 270 p:=fun x lf=>by
 have hs:=shape_p p false false 0 0 0 0 0 0 0 0
 have he:kindB l ch.length p=shapeR p false false 0 0 0 0 0 0 0 0:=by rw [kindB,if_pos hk]
 rw [he]
 refine p_ tt_ok Tryz.func270 11 fun w0 h0 F hgs=>?_
 (refine b_ fun bx=>?_;refine y_ ?_);exact cr_ hs
theorem seq_p(p:PR)(hk:p.kind=9):IsCheck l ch 277 p:=fun x lf=>by
 have hs:=shape_p p false false 0 0 0 0 0 0 0 2048
 have he:kindB l ch.length p=shapeR p false false 0 0 0 0 0 0 0 2048:=by simp [kindB,hk]
 rw [he]
 refine p_ tt_ok Tryz.func277 11 fun w0 h0 F hgs=>?_
 (refine b_ fun bx=>?_;refine y_ ?_);exact cr_ hs
theorem par_p(p:PR)(hk:p.kind=10):IsCheck l ch 278 p:=fun x lf=>by
 have hs:=shape_p p false false 0 0 0 0 0 0 0 16
 have he:kindB l ch.length p=shapeR p false false 0 0 0 0 0 0 0 16:=by simp [kindB,hk]
 rw [he]
 refine p_ tt_ok Tryz.func278 11 fun w0 h0 F hgs=>?_
 (refine b_ fun bx=>?_;refine y_ ?_);exact cr_ hs
theorem pri_p(p:PR)(hk:p.kind=11):IsCheck l ch 279 p:=fun x lf=>by
 have hs:=shape_p p false false 0 0 0 0 0 0 2 2
 have he:kindB l ch.length p=shapeR p false false 0 0 0 0 0 0 2 2:=by simp [kindB,hk]
 rw [he]
 refine p_ tt_ok Tryz.func279 11 fun w0 h0 F hgs=>?_
 (refine b_ fun bx=>?_;refine y_ ?_);exact cr_ hs
theorem clear_p(p:PR)(hk:p.kind=3):IsCheck l ch 271 p:=fun x lf=>by
 have hs:=shape_p p false true 0 0 0 0 0 0 0 0
 have hlen:((l.map encV).length:Int)=l.length:=by rw [List.length_map]
 have he:kindB l ch.length p=(shapeR p false true 0 0 0 0 0 0 0 0&&decide (0<=p.v)&&decide (p.v<((l.map encV).length:Int))):=by rw [hlen];simp [kindB,hk]
 rw [he]
 generalize shapeR p false true 0 0 0 0 0 0 0 0=b at hs⊢
 refine p_ tt_ok Tryz.func271 27 fun w0 h0 F hgs=>?_
 (refine b_ fun bx=>?_;refine y_ ?_)
 refine d_ 20 [0,1,2,3,4,5,6,7,8,9,10,11,12,13,14,15,16,17,18,19] [(5,AB b)] ?_
 refine cw_ hs ?_
 refine WA.gS rfl (fun hc=>?_) (fun hc=>?_)
 ·refine w_ ?_
  refine WA.gS rfl (fun hd=>?_) (fun hd=>?_)
  ·refine w_ ?_
   refine z_ ?_;refine R_ ?_;refine Sb.eq (ab_eq ?_);have hd:decide (0<=p.v)=true:=hd;rw [hc,hd];rfl
  ·refine w_ ?_
   refine z_ ?_;refine R_ ?_;refine Sb.eq (ab_eq ?_);have hd:decide (0<=p.v)=false:=hd;rw [hc,hd];rfl
 ·refine w_ ?_
  refine z_ ?_;refine R_ ?_;refine Sb.eq (ab_eq ?_);rw [hc];rfl
theorem rng11{n:Nat}(h:inB n 1 1=true):n=1:=by
 simp only [inB,Bool.and_eq_true,decide_eq_true_eq] at h;omega
theorem shape_to{p:PR}{c v:Bool}{e1 e2 g1 g2 l1 l2:Int}(h:shapeR p c v 1 1 e1 e2 g1 g2 l1 l2=true): ∃t,p.to=[t]:=by
 simp only [shapeR,Bool.and_eq_true] at h
 have:=rng11 h.1.1.1.2
 match hh:p.to,this with
 | [t],_=>exact ⟨t,rfl⟩
theorem shape_e{p:PR}{c v:Bool}{t1 t2 g1 g2 l1 l2:Int}(h:shapeR p c v t1 t2 1 1 g1 g2 l1 l2=true): ∃t,p.e=[t]:=by
 simp only [shapeR,Bool.and_eq_true] at h
 have:=rng11 h.1.1.2
 match hh:p.e,this with
 | [t],_=>exact ⟨t,rfl⟩
include hl hv
theorem in16_p(p:PR)(hw:WfR p)(hk:p.kind=5):IsCheck l ch 273 p:=fun x lf=>by
 have hs:=shape_p p true false 1 1 0 0 0 0 0 0
 have he:kindB l ch.length p=(shapeR p true false 1 1 0 0 0 0 0 0&&to1 (inputB l ch.length p.c p.item) p.to):=by simp [kindB,hk]
 rw [he]
 cases hb:shapeR p true false 1 1 0 0 0 0 0 0 with
 |false=>
  rw [hb] at hs
  refine p_ tt_ok Tryz.func273 23 fun w0 h0 F hgs=>?_
  (refine b_ fun bx=>?_;refine y_ ?_)
  refine d_ 16 [0,1,2,3,4,5,6,7,8,9,10,11,12,13,14,15] [(5,AB false)] ?_
  refine cw_ hs ?_
  refine z_ ?_;exact r_
 |true=>
  rw [hb] at hs
  obtain ⟨t,ht⟩:=shape_to hb
  have hin:=input_p l ch x lf hl hv p.c p.item t (hw.to t (by rw [ht];exact List.mem_cons_self ..))
  have h1:to1 (inputB l ch.length p.c p.item) p.to=inputB l ch.length p.c p.item t:=by rw [ht];rfl
  rw [h1]
  refine p_ tt_ok Tryz.func273 23 fun w0 h0 F hgs=>?_
  (refine b_ fun bx=>?_;refine y_ ?_)
  refine d_ 16 [0,1,2,3,4,5,6,7,8,9,10,11,12,13,14,15] [(5,AB true)] ?_
  refine cw_ hs ?_
  refine iw_ rfl (show (p.to.map encPl)[(0:Int).toNat]? =some (encPl t) from map_at (by rw [ht];rfl)) rfl ?_
  refine WA.nil (l:=[]) rfl ?_
  exact cr_ hin
omit hl hv in
theorem out_a(p:PR)(x:Nat->AV)(lf:Int)(hs:Pure Tryz.prog gs0 306 [cellsR p,AB true,AB false,twoA 0 0,twoA 1 1,twoA 0 0,twoA 0 0] (AB false)):Pure Tryz.prog gs0 274 [ckP l ch x lf,cellsR p] (AB false):=by
 refine p_ tt_ok Tryz.func274 29 fun w0 h0 F hgs=>?_
 (refine b_ fun bx=>?_;refine y_ ?_)
 refine d_ 22 [0,1,2,3,4,5,6,7,8,9,10,11,12,13,14,15,16,17,18,19,20,21] [(5,AB false),(12,AB false)] ?_
 refine cw_ hs ?_
 refine z_ ?_;exact r_
omit hl hv in
theorem out_b(p:PR)(x:Nat->AV)(lf:Int)(hs:Pure Tryz.prog gs0 306 [cellsR p,AB true,AB false,twoA 0 0,twoA 1 1,twoA 0 0,twoA 0 0] (AB true))(hch:Pure Tryz.prog gs0 310 [ckP l ch x lf,AI p.c,AU8 p.item,AI 0] (AB false)):
 Pure Tryz.prog gs0 274 [ckP l ch x lf,cellsR p] (AB false):=by
 refine p_ tt_ok Tryz.func274 29 fun w0 h0 F hgs=>?_
 (refine b_ fun bx=>?_;refine y_ ?_)
 refine d_ 22 [0,1,2,3,4,5,6,7,8,9,10,11,12,13,14,15,16,17,18,19,20,21] [(5,AB true),(12,AB false)] ?_
 refine cw_ hs ?_
 refine cw_ hch ?_
 refine z_ ?_;exact r_
omit hl hv in
theorem out_c(p:PR)(x:Nat->AV)(lf:Int)(e:KE)(bf:Bool)(he:(encKl p.e)[(0:Int).toNat]? =some (encK e))(hs:Pure Tryz.prog gs0 306 [cellsR p,AB true,AB false,twoA 0 0,twoA 1 1,twoA 0 0,twoA 0 0] (AB true))(hch:Pure Tryz.prog gs0 310 [ckP l ch x lf,AI p.c,AU8 p.item,AI 0] (AB true))
 (hf:Pure Tryz.prog gs0 308 [ckP l ch x lf,cellsK e,AU8 p.item] (AB bf)):Pure Tryz.prog gs0 274 [ckP l ch x lf,cellsR p] (AB bf):=by
 refine p_ tt_ok Tryz.func274 29 fun w0 h0 F hgs=>?_
 (refine b_ fun bx=>?_;refine y_ ?_)
 refine d_ 22 [0,1,2,3,4,5,6,7,8,9,10,11,12,13,14,15,16,17,18,19,20,21] [(5,AB true),(12,AB true)] ?_
 refine cw_ hs ?_
 refine cw_ hch ?_
 refine iw_ rfl he (encK_eq e) ?_
 refine WA.nil (l:=[]) rfl ?_
 exact cr_ hf
theorem out16_p(p:PR)(hw:WfR p)(hk:p.kind=6):IsCheck l ch 274 p:=fun x lf=>by
 have hs:=shape_p p true false 0 0 1 1 0 0 0 0
 have he:kindB l ch.length p=(shapeR p true false 0 0 1 1 0 0 0 0&&chanB ch.length p.c p.item 0&&fit1 l p.e p.item):=by simp [kindB,hk]
 rw [he]
 cases hb:shapeR p true false 0 0 1 1 0 0 0 0 with
 |false=>rw [hb] at hs;exact out_a l ch p x lf hs
 |true=>
 rw [hb] at hs
 obtain ⟨e,ht⟩:=shape_e hb
 have hch:=chan_p l ch x lf p.c p.item 0
 have h1:fit1 l p.e p.item=fitV l e p.item:=by rw [ht];rfl
 rw [h1]
 cases hc:chanB ch.length p.c p.item 0 with
 |false=>rw [hc] at hch;exact out_b l ch p x lf hs hch
 |true=>
  rw [hc] at hch
  have hpi:1<=p.item/\p.item<=3:=by simp only [chanB,primB,Bool.and_eq_true,decide_eq_true_eq] at hc;omega
  have hf:=kfit_p l ch x lf hl hv e (hw.e e (by rw [ht];exact List.mem_cons_self ..)) p.item hpi
  rw [Bool.and_self,Bool.true_and]
  exact out_c l ch p x lf e _ (encKl_at (by rw [ht];rfl)) hs hch hf
theorem time16_p(p:PR)(hw:WfR p)(hk:p.kind=7):IsCheck l ch 275 p:=fun x lf=>by
 have hs:=shape_p p false false 1 1 0 0 0 0 0 0
 have he:kindB l ch.length p=(shapeR p false false 1 1 0 0 0 0 0 0&&to1 (fun t=>placeB l t 1) p.to):=by simp [kindB,hk]
 rw [he]
 cases hb:shapeR p false false 1 1 0 0 0 0 0 0 with
 |false=>
  rw [hb] at hs
  refine p_ tt_ok Tryz.func275 19 fun w0 h0 F hgs=>?_
  (refine b_ fun bx=>?_;refine y_ ?_);exact cr_ hs
 |true=>
  rw [hb] at hs
  obtain ⟨t,ht⟩:=shape_to hb
  have hin:=place_p l ch x lf hl hv t (hw.to t (by rw [ht];exact List.mem_cons_self ..)) 1
  have h1:to1 (fun t=>placeB l t 1) p.to=placeB l t 1:=by rw [ht];rfl
  rw [h1]
  refine p_ tt_ok Tryz.func275 19 fun w0 h0 F hgs=>?_
  (refine b_ fun bx=>?_;refine y_ ?_);refine c_ hs ?_
  refine i_ rfl (show (p.to.map encPl)[(0:Int).toNat]? =some (encPl t) from map_at (by rw [ht];rfl)) rfl ?_;exact cr_ hin
theorem after16_p(p:PR)(hw:WfR p)(hk:p.kind=8):IsCheck l ch 276 p:=fun x lf=>by
 have hs:=shape_p p false false 0 0 1 1 0 0 0 0
 have he:kindB l ch.length p=(shapeR p false false 0 0 1 1 0 0 0 0&&fit1 l p.e 1):=by simp [kindB,hk]
 rw [he]
 cases hb:shapeR p false false 0 0 1 1 0 0 0 0 with
 |false=>
  rw [hb] at hs
  refine p_ tt_ok Tryz.func276 19 fun w0 h0 F hgs=>?_
  (refine b_ fun bx=>?_;refine y_ ?_);exact cr_ hs
 |true=>
  rw [hb] at hs
  obtain ⟨e,ht⟩:=shape_e hb
  have hin:=kfit_p l ch x lf hl hv e (hw.e e (by rw [ht];exact List.mem_cons_self ..)) 1 (by decide)
  have h1:fit1 l p.e 1=fitV l e 1:=by rw [ht];rfl
  rw [h1]
  refine p_ tt_ok Tryz.func276 19 fun w0 h0 F hgs=>?_
  (refine b_ fun bx=>?_;refine y_ ?_);refine c_ hs ?_
  refine i_ rfl (show (encKl p.e)[(0:Int).toNat]? =some (encK e) from encKl_at (by rw [ht];rfl)) (encK_eq e) ?_;exact cr_ hin
theorem loop16_p(p:PR)(hw:WfR p)(hk:p.kind=13):IsCheck l ch 281 p:=fun x lf=>by
 have hs:=shape_p p false false 0 0 1 1 0 0 1 1
 have he:kindB l ch.length p=(shapeR p false false 0 0 1 1 0 0 1 1&&fit1 l p.e 3):=by simp [kindB,hk]
 rw [he]
 cases hb:shapeR p false false 0 0 1 1 0 0 1 1 with
 |false=>
  rw [hb] at hs
  refine p_ tt_ok Tryz.func281 19 fun w0 h0 F hgs=>?_
  (refine b_ fun bx=>?_;refine y_ ?_);exact cr_ hs
 |true=>
  rw [hb] at hs
  obtain ⟨e,ht⟩:=shape_e hb
  have hin:=kfit_p l ch x lf hl hv e (hw.e e (by rw [ht];exact List.mem_cons_self ..)) 3 (by decide)
  have h1:fit1 l p.e 3=fitV l e 3:=by rw [ht];rfl
  rw [h1]
  refine p_ tt_ok Tryz.func281 19 fun w0 h0 F hgs=>?_
  (refine b_ fun bx=>?_;refine y_ ?_);refine c_ hs ?_
  refine i_ rfl (show (encKl p.e)[(0:Int).toNat]? =some (encK e) from encKl_at (by rw [ht];rfl)) (encK_eq e) ?_;exact cr_ hin
theorem choice1_p(x:Nat->AV)(lf:Int)(p:PR)(g:GD)(hw:WfG g):Pure Tryz.prog gs0 312 [cellsG g, .pe 1 (ckP l ch x lf), .pe 8 (cellsR p)] (AB (!guardB l ch.length g (p.kind==12))):=by
 have hg:=guard_p l ch x lf hl hv g hw (p.kind==12)
 refine p_ tt_ok Tryz.func312 12 fun w0 h0 F hgs=>?_
 (refine b_ fun bx=>?_;refine y_ ?_);exact cr_ hg
theorem choice16_p(p:PR)(hw:WfR p)(hk:p.kind=12\/p.kind=14\/p.kind=15):IsCheck l ch 280 p:=fun x lf=>by
 have hs:=shape_p p false false 0 0 0 0 0 16 0 0
 have he:kindB l ch.length p=(shapeR p false false 0 0 0 0 0 16 0 0&& !p.gs.any fun g=> !guardB l ch.length g (p.kind==12)):=by
  rw [List.not_any_eq_all_not];rcases hk with hk|hk|hk<;>simp [kindB,hk]
 rw [he]
 have hg:=hasG_p 312 [.pe 1 (ckP l ch x lf), .pe 8 (cellsR p)] (fun g=> !guardB l ch.length g (p.kind==12)) p.gs (fun g hgm=>choice1_p l ch hl hv x lf p g (wfG_all (hw.g g hgm))) hw.gl
 cases hb:shapeR p false false 0 0 0 0 0 16 0 0 with
 |false=>
  rw [hb] at hs
  refine p_ tt_ok Tryz.func280 17 fun w0 h0 F hgs=>?_
  (refine b_ fun bx=>?_;refine b_ fun bx=>?_;refine y_ ?_);exact cr_ hs
 |true=>
  rw [hb] at hs
  refine p_ tt_ok Tryz.func280 17 fun w0 h0 F hgs=>?_
  (refine b_ fun bx=>?_;refine b_ fun bx=>?_;refine y_ ?_);refine n_ hs ?_
  refine A.freeze 2 (sz:=1) rfl rfl rfl ?_
  refine A.freeze 3 (sz:=8) rfl rfl rfl ?_
  refine y_ ?_;exact cr_ hg
end
theorem zip_len{α β:Type}{a:List α}{b:List β}(h:a.length=b.length):(a.zip b).length=a.length:=by rw [List.length_zip,h,Nat.min_self]
theorem zip_both{α β:Type}{a:List α}{b:List β}{i:Nat}{x:α}{y:β}(h1:a[i]? =some x)(h2:b[i]? =some y):(a.zip b)[i]? =some (x,y):=List.getElem?_zip_eq_some.2 ⟨h1,h2⟩
theorem assign_no{l:List KV}{t:PL}{e:KE}{r:List (PL×KE)}(h:assignB l t e=false):((t,e)::r).all (fun te=>assignB l te.1 te.2)=false:=by rw [List.all_cons,h];rfl
theorem assign_a(l:List KV)(ch:List Int)(p:PR)(x:Nat->AV)(lf:Int)(hs:Pure Tryz.prog gs0 306 [cellsR p,AB false,AB false,twoA 1 8,twoA 1 8,twoA 0 0,twoA 0 0] (AB false)):Pure Tryz.prog gs0 272 [ckP l ch x lf,cellsR p] (AB false):=by
 refine p_ tt_ok Tryz.func272 84 fun w0 h0 F hgs=>?_
 (refine b_ fun bx=>?_;refine b_ fun bx=>?_;refine y_ ?_);exact cr_ hs
theorem assign_b(l:List KV)(ch:List Int)(p:PR)(x:Nat->AV)(lf:Int)(hs:Pure Tryz.prog gs0 306 [cellsR p,AB false,AB false,twoA 1 8,twoA 1 8,twoA 0 0,twoA 0 0] (AB true))(hle:p.to.length≠p.e.length):Pure Tryz.prog gs0 272 [ckP l ch x lf,cellsR p] (AB false):=by
 have n1:((p.to.map encPl).length:Int)=p.to.length:=by rw [List.length_map]
 have n2:((encKl p.e).length:Int)=p.e.length:=by rw [encKl_len]
 refine p_ tt_ok Tryz.func272 84 fun w0 h0 F hgs=>?_
 (refine b_ fun bx=>?_;refine b_ fun bx=>?_;refine y_ ?_);refine c_ hs ?_
 refine e_ 24 rfl (x':=AB true) (ab_eq (by rw [n1,n2];simp;omega)) ?_;exact r_
theorem assign_c(l:List KV)(ch:List Int)(hl:l.length<=281474976710656)(hv:VarsOk l)(p:PR)(hw:WfR p)(x:Nat->AV)(lf:Int)(hs:Pure Tryz.prog gs0 306 [cellsR p,AB false,AB false,twoA 1 8,twoA 1 8,twoA 0 0,twoA 0 0] (AB true))(hle:p.to.length=p.e.length)(hto8:p.to.length<=8)(R:Bool)(hR:(p.to.zip p.e).all (fun te=>assignB l te.1 te.2)=R):
 Pure Tryz.prog gs0 272 [ckP l ch x lf,cellsR p] (AB R):=by
 have hlen:((l.map encV).length:Int)=l.length:=by rw [List.length_map]
 have n1:((p.to.map encPl).length:Int)=p.to.length:=by rw [List.length_map]
 have n2:((encKl p.e).length:Int)=p.e.length:=by rw [encKl_len]
 refine p_ tt_ok Tryz.func272 84 fun w0 h0 F hgs=>?_
 (refine b_ fun bx=>?_;refine b_ fun bx=>?_;refine y_ ?_);refine c_ hs ?_
 refine e_ 24 rfl (x':=AB false) (ab_eq (by rw [n1,n2];simp;omega)) ?_
 refine A.valE 27 rfl (x':=AI (p.to.length:Nat)) (ai_eq n1) ?_
 refine l_ (Λ':=[.box _ (cellsR p)]) ?_
 refine A.keep [0,3,26,27,28] rfl ?_
 refine A.loopP (ι:=Nat) (fun i=>(⟨[(0,ckP l ch x lf),(3, .v (.pointer (some ⟨_,0,none⟩))),(26,plsA p.to),(27,AI (p.to.length:Nat)),(28,AI (i:Nat))],[]⟩,[.box _ (cellsR p)]))
  (fun i=>i<=p.to.length/\((p.to.zip p.e).drop i).all (fun te=>assignB l te.1 te.2)=R) (fun i=>p.to.length-i) 0 ⟨by omega,hR⟩ rfl fun i hi ih=>?_
 refine y_ ?_
 refine k_ (fun hc=>?_) fun hc=>?_
 ·simp at hc
  refine Exists.elim (at_exN (l:=p.to) (i:=i) (by omega)) fun t ht=>?_
  refine Exists.elim (at_exN (l:=p.e) (i:=i) (by omega)) fun e hee=>?_
  have hwt:=hw.to t (List.mem_of_getElem? ht)
  have hwe:=hw.e e (List.mem_of_getElem? hee)
  have h1:=hi.2
  rw [drop_at (zip_both ht hee)] at h1
  by_cases hneg:t.v<0
  ·rw [assign_no (by rw [assignB,if_pos (.inl hneg)])] at h1
   refine y_ ?_
   refine j_ rfl (map_at ht) rfl ?_
   (refine b_ fun bx=>?_;refine y_ ?_)
   refine d_ 47 [0,1,2,3,4,5,6,7,8,9,10,11,12,13,14,15,16,17,18,19,20,21,22,23,24,25,26,27,28,29,30,31,32,33,34,35,36,37,38,39,40,41,42,43,44,45,46] [(27,AB false)] ?_
   refine ew_ 36 rfl (x':=AB true) (ab_eq (by simpa using hneg)) ?_
   refine z_ ?_;refine R_ ?_;rw [<-h1];exact .refl
  by_cases hout:(l.length:Int)<=t.v
  ·rw [assign_no (by rw [assignB,if_pos (.inr hout)])] at h1
   refine y_ ?_
   refine j_ rfl (map_at ht) rfl ?_
   (refine b_ fun bx=>?_;refine y_ ?_)
   refine d_ 47 [0,1,2,3,4,5,6,7,8,9,10,11,12,13,14,15,16,17,18,19,20,21,22,23,24,25,26,27,28,29,30,31,32,33,34,35,36,37,38,39,40,41,42,43,44,45,46] [(27,AB false)] ?_
   refine ew_ 36 rfl (x':=AB false) (ab_eq (by simp;omega)) ?_
   refine ew_ 47 rfl (x':=AB true) (ab_eq (by rw [hlen];simpa using hout)) ?_
   refine z_ ?_;refine R_ ?_;rw [<-h1];exact .refl
  refine Exists.elim (at_ex (l:=l) (i:=t.v) (by omega) (by omega)) fun y hy=>?_
  have hyk:=hv y (List.mem_of_getElem? hy)
  have hv0:(0:Int)<=t.v:=by omega
  have hab:assignB l t e=(placeB l t y.kind&&fitV l e y.kind):=by rw [assignB,if_neg (by omega),hy]
  have hpl:=place_p l ch x lf hl hv t hwt y.kind
  have hft:=kfit_p l ch x lf hl hv e hwe y.kind hyk
  generalize placeB l t y.kind=b1 at hpl hab
  generalize fitV l e y.kind=b2 at hft hab
  cases b1 with
  |false=>
   rw [assign_no (by rw [hab];rfl)] at h1
   refine y_ ?_
   refine j_ rfl (map_at ht) rfl ?_
   (refine b_ fun bx=>?_;refine y_ ?_)
   refine d_ 47 [0,1,2,3,4,5,6,7,8,9,10,11,12,13,14,15,16,17,18,19,20,21,22,23,24,25,26,27,28,29,30,31,32,33,34,35,36,37,38,39,40,41,42,43,44,45,46] [(27,AB false)] ?_
   refine ew_ 36 rfl (x':=AB false) (ab_eq (by simp;omega)) ?_
   refine ew_ 47 rfl (x':=AB false) (ab_eq (by rw [hlen];simp;omega)) ?_
   refine WA.x rfl hv0 (map_at hy) rfl rfl ?_
   refine w_ ?_
   refine cw_ hpl ?_
   refine z_ ?_;refine R_ ?_;rw [<-h1];exact .refl
  |true=>
   refine y_ ?_
   refine j_ rfl (map_at ht) rfl ?_
   (refine b_ fun bx=>?_;refine y_ ?_)
   refine d_ 47 [0,1,2,3,4,5,6,7,8,9,10,11,12,13,14,15,16,17,18,19,20,21,22,23,24,25,26,27,28,29,30,31,32,33,34,35,36,37,38,39,40,41,42,43,44,45,46] [(27,AB true)] ?_
   refine ew_ 36 rfl (x':=AB false) (ab_eq (by simp;omega)) ?_
   refine ew_ 47 rfl (x':=AB false) (ab_eq (by rw [hlen];simp;omega)) ?_
   refine WA.x rfl hv0 (map_at hy) rfl rfl ?_
   refine w_ ?_
   refine cw_ hpl ?_
   refine iw_ rfl (encKl_at hee) (encK_eq e) ?_
   refine WA.x rfl hv0 (map_at hy) rfl rfl ?_
   refine w_ ?_
   refine WA.nil (l:=[]) rfl ?_
   refine c_ hft ?_
   refine A.valE 82 rfl (x':=AB (!b2)) (ab_eq (by cases b2<;>rfl)) ?_
   refine k_ (fun hc=>?_) fun hc=>?_
   ·have hf:b2=false:=by simpa using hc
    rw [assign_no (by rw [hab,hf,Bool.and_false])] at h1
    refine y_ ?_;refine R_ ?_;rw [<-h1];exact .refl
   ·have hf:b2=true:=by simpa using hc
    rw [List.all_cons] at h1
    have hat:assignB l t e=true:=by rw [hab,hf];rfl
    simp only [hat,Bool.true_and] at h1
    refine y_ ?_
    refine A.valE 28 rfl (x':=AI ((i+1:Nat):Int)) (inc_eq i (by omega)) ?_
    refine l_ (Λ':=[.box _ (cellsR p)]) ?_
    refine u_ (ih (i+1) ⟨by omega,h1⟩ (by omega))
 ·simp at hc
  have hil:i=p.to.length:=by omega
  have h1:=hi.2
  rw [List.drop_eq_nil_of_le (by rw [zip_len hle];omega),List.all_nil] at h1
  refine y_ ?_;refine R_ ?_;rw [<-h1];exact .refl
theorem assign16_p(l:List KV)(ch:List Int)(hl:l.length<=281474976710656)(hv:VarsOk l)(p:PR)(hw:WfR p)(hk:p.kind=4):IsCheck l ch 272 p:=fun x lf=>by
 have hs:=shape_p p false false 1 8 1 8 0 0 0 0
 have he:kindB l ch.length p=(shapeR p false false 1 8 1 8 0 0 0 0&&(p.to.length==p.e.length)&&(p.to.zip p.e).all fun te=>assignB l te.1 te.2):=by simp [kindB,hk]
 rw [he]
 cases hb:shapeR p false false 1 8 1 8 0 0 0 0 with
 |false=>rw [hb] at hs;rw [Bool.false_and,Bool.false_and];exact assign_a l ch p x lf hs
 |true=>
 rw [hb] at hs
 by_cases hle:p.to.length=p.e.length
 ·have e0:(p.to.length==p.e.length)=true:=by simpa using hle
  rw [e0,Bool.true_and,Bool.true_and]
  have hto8:p.to.length<=8:=by
   simp only [shapeR,inB,Bool.and_eq_true,decide_eq_true_eq] at hb;omega
  exact assign_c l ch hl hv p hw x lf hs hle hto8 _ rfl
 ·have e0:(p.to.length==p.e.length)=false:=by simpa using hle
  rw [e0,Bool.true_and,Bool.false_and]
  exact assign_b l ch p x lf hs hle
def checkF(k:Int):FuncId:=if k=1\/k=2 then 270 else if k=3 then 271 else if k=4 then 272 else if k=5 then 273 else if k=6 then 274
 else if k=7 then 275 else if k=8 then 276 else if k=9 then 277 else if k=10 then 278 else if k=11 then 279 else if k=13 then 281 else 280
theorem kinds15{k:Int}(h:1<=k/\k<=15):k=1\/k=2\/k=3\/k=4\/k=5\/k=6\/k=7\/k=8\/k=9\/k=10\/k=11\/k=12\/k=13\/k=14\/k=15:=by omega
theorem check_some(b:Nat)(k:Int)(h:1<=k/\k<=15):Pure Tryz.prog gs0 213 [ptrA b,AU8 k] (.fn (checkF k) [ptrA b] []):=by
 rcases kinds15 h with rfl|rfl|rfl|rfl|rfl|rfl|rfl|rfl|rfl|rfl|rfl|rfl|rfl|rfl|rfl
 all_goals refine p_ tt_ok Tryz.func213 39 fun w0 h0 F hgs=>?_
 all_goals refine y_ ?_
 all_goals refine A.makeMap rfl rfl rfl rfl fun bm=>?_
 all_goals (repeat first|first|refine A.s rfl ?_|refine A.r rfl rfl ?_|refine A.w rfl rfl ?_|refine A.p rfl ?_|refine A.b rfl fun bx=>?_|refine A.t rfl fun bl=>?_|refine A.insert rfl rfl rfl rfl rfl rfl rfl rfl rfl rfl rfl ?_)
 all_goals refine A.lookup rfl rfl rfl rfl rfl rfl rfl rfl rfl rfl rfl rfl ?_
 all_goals (exact yr_)
theorem posK_not{k:Int}(h: ¬(1<=k/\k<=15)):posK .u8 k [.int .u8 1, .int .u8 2, .int .u8 3, .int .u8 4, .int .u8 5, .int .u8 6, .int .u8 7, .int .u8 8, .int .u8 9, .int .u8 10, .int .u8 11, .int .u8 12, .int .u8 13, .int .u8 14, .int .u8 15]=some none:=by
 have e: ∀m:Int,1<=m->m<=15->(k==m)=false:=fun m h1 h2=>by
  rw [beq_eq_false_iff_ne];rintro rfl;exact h ⟨h1,h2⟩
 simp only [posK,decide_true,e 1 (by decide) (by decide),e 2 (by decide) (by decide),e 3 (by decide) (by decide),e 4 (by decide) (by decide),e 5 (by decide) (by decide),e 6 (by decide) (by decide),e 7 (by decide) (by decide),e 8 (by decide) (by decide),
  e 9 (by decide) (by decide),e 10 (by decide) (by decide),e 11 (by decide) (by decide),e 12 (by decide) (by decide),e 13 (by decide) (by decide),e 14 (by decide) (by decide),e 15 (by decide) (by decide)]
theorem check_none(b:Nat)(k:Int)(h: ¬(1<=k/\k<=15)):Pure Tryz.prog gs0 213 [ptrA b,AU8 k] (.v .nilFunc):=by
 refine p_ tt_ok Tryz.func213 39 fun w0 h0 F hgs=>?_
 refine y_ ?_
 refine A.makeMap rfl rfl rfl rfl fun bm=>?_
 (repeat first|first|refine A.s rfl ?_|refine A.r rfl rfl ?_|refine A.w rfl rfl ?_|refine A.p rfl ?_|refine A.b rfl fun bx=>?_|refine A.t rfl fun bl=>?_|refine A.insert rfl rfl rfl rfl rfl rfl rfl rfl rfl rfl rfl ?_)
 refine A.lookupNil (v:= .nilFunc) rfl rfl rfl rfl rfl rfl rfl rfl (by kernel_rfl) rfl (posK_not h) rfl rfl ?_
 exact yr_
section
variable(l:List KV)(n:Nat)
mutual
def okR(high:Bool):PR->Bool
 |⟨k,c,v,i,to,e,gs,b⟩=>kindB l n ⟨k,c,v,i,to,e,gs,b⟩&& !(high&&k==11)&&okL high (k==11) b&&okGs high gs
def okL(high first:Bool):List PR->Bool
 | []=>true
 |p::r=>okR (high||first) p&&okL high false r
def okG(high:Bool):GD->Bool
 |⟨_,_,_,_,_,_,b⟩=>okL high false b
def okGs(high:Bool):List GD->Bool
 | []=>true
 |g::r=>okG high g&&okGs high r
end
end
mutual
def szR:PR->Nat
 |⟨_,_,_,_,_,_,gs,b⟩=>1+szL b+szGs gs
def szL:List PR->Nat
 | []=>0
 |p::r=>szR p+szL r
def szG:GD->Nat
 |⟨_,_,_,_,_,_,b⟩=>szL b
def szGs:List GD->Nat
 | []=>0
 |g::r=>szG g+szGs r
end
mutual
def htR:PR->Nat
 |⟨_,_,_,_,_,_,gs,b⟩=>1+max (htL b) (htGs gs)
def htL:List PR->Nat
 | []=>0
 |p::r=>max (htR p) (htL r)
def htG:GD->Nat
 |⟨_,_,_,_,_,_,b⟩=>htL b
def htGs:List GD->Nat
 | []=>0
 |g::r=>max (htG g) (htGs r)
end
theorem okR_eq(l:List KV)(n:Nat)(high:Bool)(p:PR):okR l n high p=(kindB l n p&& !(high&&p.kind==11)&&okL l n high (p.kind==11) p.l&&okGs l n high p.gs):=by obtain ⟨k,c,v,i,to,e,gs,b⟩:=p;rw [okR]
theorem szR_eq(p:PR):szR p=1+szL p.l+szGs p.gs:=by obtain ⟨k,c,v,i,to,e,gs,b⟩:=p;rw [szR]
theorem htR_eq(p:PR):htR p=1+max (htL p.l) (htGs p.gs):=by obtain ⟨k,c,v,i,to,e,gs,b⟩:=p;rw [htR]
theorem okG_eq(l:List KV)(n:Nat)(high:Bool)(g:GD):okG l n high g=okL l n high false g.body:=by obtain ⟨k,e,c,i,to,t,b⟩:=g;rw [okG]
theorem szG_eq(g:GD):szG g=szL g.body:=by obtain ⟨k,e,c,i,to,t,b⟩:=g;rw [szG]
theorem htG_eq(g:GD):htG g=htL g.body:=by obtain ⟨k,e,c,i,to,t,b⟩:=g;rw [htG]
theorem szR_pos(p:PR):1<=szR p:=by rw [szR_eq];omega
theorem htR_pos(p:PR):1<=htR p:=by rw [htR_eq];omega
theorem szL_append(a b:List PR):szL (a++b)=szL a+szL b:=by
 induction a with
 |nil=>simp [szL]
 |cons x r ih=>rw [List.cons_append,szL,szL,ih];omega
theorem htL_append(a b:List PR):htL (a++b)=max (htL a) (htL b):=by
 induction a with
 |nil=>simp [htL]
 |cons x r ih=>rw [List.cons_append,htL,htL,ih];omega
theorem szGs_append(a b:List GD):szGs (a++b)=szGs a+szGs b:=by
 induction a with
 |nil=>simp [szGs]
 |cons x r ih=>rw [List.cons_append,szGs,szGs,ih];omega
theorem htGs_append(a b:List GD):htGs (a++b)=max (htGs a) (htGs b):=by
 induction a with
 |nil=>simp [htGs]
 |cons x r ih=>rw [List.cons_append,htGs,htGs,ih];omega
section
variable{l:List KV}{n:Nat}{high:Bool}
theorem okL_append{first:Bool}{a b:List PR}:okL l n high first (a++b)=(okL l n high first a&&okL l n high (first&&a.isEmpty) b):=by
 induction a generalizing first with
 |nil=>simp [okL]
 |cons x r ih=>rw [List.cons_append,okL,okL,ih];simp [Bool.and_assoc]
theorem okGs_append{a b:List GD}:okGs l n high (a++b)=(okGs l n high a&&okGs l n high b):=by
 induction a with
 |nil=>simp [okGs]
 |cons x r ih=>rw [List.cons_append,okGs,okGs,ih,Bool.and_assoc]
def fitsR(l:List KV)(n:Nat)(high:Bool)(p:PR)(room deep:Int):Prop:=okR l n high p=true/\(szR p:Int)<=room/\(htR p:Int)<=deep
instance (l:List KV) (n:Nat) (high:Bool) (p:PR) (room deep:Int):Decidable (fitsR l n high p room deep):=by unfold fitsR;infer_instance
def fitsPs(l:List KV)(n:Nat)(high first:Bool)(ps:List PR)(room deep:Int):Prop:=okL l n high first ps=true/\(szL ps:Int)<=room/\(htL ps:Int)<=deep
def fitsGs(l:List KV)(n:Nat)(high:Bool)(gs:List GD)(room deep:Int):Prop:=okGs l n high gs=true/\(szGs gs:Int)<=room/\(htGs gs:Int)<=deep
theorem fitsR_l{p:PR}{room deep:Int}(hr:1<=room)(hd:1<=deep)(hk:kindB l n p=true)(hh:(high&&p.kind==11)=false):
 fitsR l n high p room deep↔fitsPs l n high (p.kind==11) p.l (room-1) (deep-1)/\fitsGs l n high p.gs (room-1-szL p.l) (deep-1):=by
 unfold fitsR fitsPs fitsGs
 rw [okR_eq,hk,hh,szR_eq,htR_eq,Bool.not_false,Bool.true_and,Bool.true_and,Bool.and_eq_true]
 constructor
 ·rintro ⟨⟨h1,h2⟩,h3,h4⟩;exact ⟨⟨h1,by omega,by omega⟩,h2,by omega,by omega⟩
 ·rintro ⟨⟨h1,h3,h4⟩,h2,h5,h6⟩;exact ⟨⟨h1,h2⟩,by omega,by omega⟩
theorem fitsR_no{p:PR}{r d:Int}(h:r<1\/d<1\/kindB l n p=false\/(high&&p.kind==11)=true): ¬fitsR l n high p r d:=by
 rintro ⟨h1,h2,h3⟩
 have:=szR_pos p
 have:=htR_pos p
 rw [okR_eq] at h1
 simp only [Bool.and_eq_true,Bool.not_eq_true'] at h1
 rcases h with h|h|h|h
 ·omega
 ·omega
 ·rw [h1.1.1.1] at h;cases h
 ·rw [h1.1.1.2] at h;cases h
theorem fitsPs_snoc{first:Bool}{a:List PR}{x:PR}{room deep:Int}(ha:fitsPs l n high first a room deep):fitsPs l n high first (a++[x]) room deep↔fitsR l n (high||(first&&a.isEmpty)) x (room-szL a) deep:=by
 obtain ⟨h1,h2,h3⟩:=ha
 unfold fitsPs fitsR
 rw [okL_append,szL_append,htL_append,h1,Bool.true_and]
 simp only [okL,szL,htL,Bool.and_true]
 constructor
 ·rintro ⟨g1,g2,g3⟩;exact ⟨g1,by omega,by omega⟩
 ·rintro ⟨g1,g2,g3⟩;exact ⟨g1,by omega,by omega⟩
theorem fitsPs_take{first:Bool}{ps:List PR}{room deep:Int}(h:fitsPs l n high first ps room deep)(i:Nat):fitsPs l n high first (ps.take i) room deep:=by
 obtain ⟨h1,h2,h3⟩:=h
 rw [<-List.take_append_drop i ps] at h1 h2 h3
 rw [okL_append,Bool.and_eq_true] at h1
 rw [szL_append] at h2
 rw [htL_append] at h3
 exact ⟨h1.1,by omega,by omega⟩
theorem fitsGs_snoc{a:List GD}{x:GD}{y:PR}(hx:x.body=[y]){room deep:Int}(ha:fitsGs l n high a room deep):fitsGs l n high (a++[x]) room deep↔fitsR l n high y (room-szGs a) deep:=by
 obtain ⟨h1,h2,h3⟩:=ha
 have e1:okGs l n high [x]=okR l n high y:=by rw [okGs,okGs,Bool.and_true,okG_eq,hx,okL,okL,Bool.and_true,Bool.or_false]
 have e2:szGs [x]=szR y:=by rw [szGs,szGs,szG_eq,hx,szL,szL];omega
 have e3:htGs [x]=htR y:=by rw [htGs,htGs,htG_eq,hx,htL,htL];omega
 unfold fitsGs fitsR
 rw [okGs_append,szGs_append,htGs_append,h1,Bool.true_and,e1,e2,e3]
 constructor
 ·rintro ⟨g1,g2,g3⟩;exact ⟨g1,by omega,by omega⟩
 ·rintro ⟨g1,g2,g3⟩;exact ⟨g1,by omega,by omega⟩
theorem fitsGs_take{gs:List GD}{room deep:Int}(h:fitsGs l n high gs room deep)(i:Nat):fitsGs l n high (gs.take i) room deep:=by
 obtain ⟨h1,h2,h3⟩:=h
 rw [<-List.take_append_drop i gs] at h1 h2 h3
 rw [okGs_append,Bool.and_eq_true] at h1
 rw [szGs_append] at h2
 rw [htGs_append] at h3
 exact ⟨h1.1,by omega,by omega⟩
theorem szL_le: ∀{ps:List PR} {x:PR},x∈ps->szR x<=szL ps
 | [],_,h=>by cases h
 |y::r,x,h=>by
  rw [szL]
  rcases List.mem_cons.1 h with rfl|h
  ·omega
  ·have:=szL_le h;omega
theorem szGs_le: ∀{gs:List GD} {x:GD},x∈gs->szG x<=szGs gs
 | [],_,h=>by cases h
 |y::r,x,h=>by
  rw [szGs]
  rcases List.mem_cons.1 h with rfl|h
  ·omega
  ·have:=szGs_le h;omega
theorem inB_0{m:Nat}(h:inB m 0 0=true):m=0:=by simp only [inB,Bool.and_eq_true,decide_eq_true_eq] at h;omega
theorem kind_bodies{p:PR}(h:kindB l n p=true):1<=p.kind/\p.kind<=15/\ ∀g,g∈p.gs-> ∃y,g.body=[y]:=by
 have h0: ∀{ch v:Bool} {t1 t2 e1 e2 l1 l2:Int},shapeR p ch v t1 t2 e1 e2 0 0 l1 l2=true-> ∀g,g∈p.gs-> ∃y,g.body=[y]:=fun hs g hg=>by
  simp only [shapeR,Bool.and_eq_true] at hs
  have:=inB_0 hs.1.2
  rw [List.length_eq_zero_iff] at this
  rw [this] at hg;cases hg
 unfold kindB at h
 by_cases k0:p.kind=1\/p.kind=2
 ·rw [if_pos k0] at h;exact ⟨by omega,by omega,h0 h⟩
 rw [if_neg k0] at h
 by_cases k1:p.kind=3
 ·rw [if_pos k1,Bool.and_eq_true,Bool.and_eq_true] at h;exact ⟨by omega,by omega,h0 h.1.1⟩
 rw [if_neg k1] at h
 by_cases k2:p.kind=4
 ·rw [if_pos k2,Bool.and_eq_true,Bool.and_eq_true] at h;exact ⟨by omega,by omega,h0 h.1.1⟩
 rw [if_neg k2] at h
 by_cases k3:p.kind=5
 ·rw [if_pos k3,Bool.and_eq_true] at h;exact ⟨by omega,by omega,h0 h.1⟩
 rw [if_neg k3] at h
 by_cases k4:p.kind=6
 ·rw [if_pos k4,Bool.and_eq_true,Bool.and_eq_true] at h;exact ⟨by omega,by omega,h0 h.1.1⟩
 rw [if_neg k4] at h
 by_cases k5:p.kind=7
 ·rw [if_pos k5,Bool.and_eq_true] at h;exact ⟨by omega,by omega,h0 h.1⟩
 rw [if_neg k5] at h
 by_cases k6:p.kind=8
 ·rw [if_pos k6,Bool.and_eq_true] at h;exact ⟨by omega,by omega,h0 h.1⟩
 rw [if_neg k6] at h
 by_cases k7:p.kind=9
 ·rw [if_pos k7] at h;exact ⟨by omega,by omega,h0 h⟩
 rw [if_neg k7] at h
 by_cases k8:p.kind=10
 ·rw [if_pos k8] at h;exact ⟨by omega,by omega,h0 h⟩
 rw [if_neg k8] at h
 by_cases k9:p.kind=11
 ·rw [if_pos k9] at h;exact ⟨by omega,by omega,h0 h⟩
 rw [if_neg k9] at h
 by_cases k10:p.kind=12\/p.kind=14\/p.kind=15
 ·rw [if_pos k10,Bool.and_eq_true,List.all_eq_true] at h
  refine ⟨by omega,by omega,fun g hg=>?_⟩
  have:=h.2 g hg
  simp only [guardB,Bool.and_eq_true,beq_iff_eq] at this
  have h1:=this.1.1.1
  match hb:g.body,h1 with
  | [y],_=>exact ⟨y,rfl⟩
 rw [if_neg k10] at h
 by_cases k11:p.kind=13
 ·rw [if_pos k11,Bool.and_eq_true] at h;exact ⟨by omega,by omega,h0 h.1⟩
 rw [if_neg k11] at h
 cases h
end
section
variable(l:List KV)(ch:List Int)(hl:l.length<=281474976710656)(hv:VarsOk l)
def Lent(f:FuncId)(p:PR):Prop:= ∀(b:Nat) (x:Nat->AV) (lf:Int),Fun Tryz.prog gs0 f [ptrA b,cellsR p] [.box b (ckA l ch x lf)] fun z Λ'=>z=AB (kindB l ch.length p)/\Λ'=[.box b (ckA l ch x lf)]
include hl hv
theorem kind_lent(p:PR)(hw:WfR p)(hk:1<=p.kind/\p.kind<=15):Lent l ch (checkF p.kind) p:=fun b x lf=>by
 by_cases h1:p.kind=1\/p.kind=2
 ·have h:=nothing_p l ch p h1
  rw [checkF,if_pos h1];exact Pure.lend Tryz.func270 rfl rfl (h x lf) rfl (LtL.cons (Lt.box (List.mem_singleton.2 rfl) rfl) (LtL.cons (Lt.sub .refl) LtL.nil))
 rw [checkF,if_neg h1]
 by_cases h3:p.kind=3
 ·have h:=clear_p l ch p h3
  rw [if_pos h3];exact Pure.lend Tryz.func271 rfl rfl (h x lf) rfl (LtL.cons (Lt.box (List.mem_singleton.2 rfl) rfl) (LtL.cons (Lt.sub .refl) LtL.nil))
 rw [if_neg h3]
 by_cases h4:p.kind=4
 ·have h:=assign16_p l ch hl hv p hw h4
  rw [if_pos h4];exact Pure.lend Tryz.func272 rfl rfl (h x lf) rfl (LtL.cons (Lt.box (List.mem_singleton.2 rfl) rfl) (LtL.cons (Lt.sub .refl) LtL.nil))
 rw [if_neg h4]
 by_cases h5:p.kind=5
 ·have h:=in16_p l ch hl hv p hw h5
  rw [if_pos h5];exact Pure.lend Tryz.func273 rfl rfl (h x lf) rfl (LtL.cons (Lt.box (List.mem_singleton.2 rfl) rfl) (LtL.cons (Lt.sub .refl) LtL.nil))
 rw [if_neg h5]
 by_cases h6:p.kind=6
 ·have h:=out16_p l ch hl hv p hw h6
  rw [if_pos h6];exact Pure.lend Tryz.func274 rfl rfl (h x lf) rfl (LtL.cons (Lt.box (List.mem_singleton.2 rfl) rfl) (LtL.cons (Lt.sub .refl) LtL.nil))
 rw [if_neg h6]
 by_cases h7:p.kind=7
 ·have h:=time16_p l ch hl hv p hw h7
  rw [if_pos h7];exact Pure.lend Tryz.func275 rfl rfl (h x lf) rfl (LtL.cons (Lt.box (List.mem_singleton.2 rfl) rfl) (LtL.cons (Lt.sub .refl) LtL.nil))
 rw [if_neg h7]
 by_cases h8:p.kind=8
 ·have h:=after16_p l ch hl hv p hw h8
  rw [if_pos h8];exact Pure.lend Tryz.func276 rfl rfl (h x lf) rfl (LtL.cons (Lt.box (List.mem_singleton.2 rfl) rfl) (LtL.cons (Lt.sub .refl) LtL.nil))
 rw [if_neg h8]
 by_cases h9:p.kind=9
 ·have h:=seq_p l ch p h9
  rw [if_pos h9];exact Pure.lend Tryz.func277 rfl rfl (h x lf) rfl (LtL.cons (Lt.box (List.mem_singleton.2 rfl) rfl) (LtL.cons (Lt.sub .refl) LtL.nil))
 rw [if_neg h9]
 by_cases h10:p.kind=10
 ·have h:=par_p l ch p h10
  rw [if_pos h10];exact Pure.lend Tryz.func278 rfl rfl (h x lf) rfl (LtL.cons (Lt.box (List.mem_singleton.2 rfl) rfl) (LtL.cons (Lt.sub .refl) LtL.nil))
 rw [if_neg h10]
 by_cases h11:p.kind=11
 ·have h:=pri_p l ch p h11
  rw [if_pos h11];exact Pure.lend Tryz.func279 rfl rfl (h x lf) rfl (LtL.cons (Lt.box (List.mem_singleton.2 rfl) rfl) (LtL.cons (Lt.sub .refl) LtL.nil))
 rw [if_neg h11]
 by_cases h13:p.kind=13
 ·have h:=loop16_p l ch hl hv p hw h13
  rw [if_pos h13];exact Pure.lend Tryz.func281 rfl rfl (h x lf) rfl (LtL.cons (Lt.box (List.mem_singleton.2 rfl) rfl) (LtL.cons (Lt.sub .refl) LtL.nil))
 rw [if_neg h13]
 have h:=choice16_p l ch hl hv p hw (by omega)
 exact Pure.lend Tryz.func280 rfl rfl (h x lf) rfl (LtL.cons (Lt.box (List.mem_singleton.2 rfl) rfl) (LtL.cons (Lt.sub .refl) LtL.nil))
end
abbrev procE(l:List KV)(ch:List Int)(x:Nat->AV)(b:Nat)(p:PR)(deep:Int)(high:Bool)(left:Int):Prop:=
 FunE Tryz.prog gs0 132 [ptrA b,cellsR p,AI deep,AB high] [.box b (ckA l ch x left)] (fun _:Int=>AB (decide (fitsR l ch.length high p left (33-deep)))) (fun i=>[.box b (ckA l ch x i)]) (fun i=>fitsR l ch.length high p left (33-deep)->i=left-szR p)
theorem proc_a(l:List KV)(ch:List Int)(x:Nat->AV)(b:Nat)(p:PR)(deep:Int)(high:Bool)(left:Int)(h:left=0\/deep=33)(r0:0<=left)(r1:left<=2048)(f:AV)(hck:Pure Tryz.prog gs0 213 [ptrA b,AU8 p.kind] f):procE l ch x b p deep high left:=by
 have hw1:IntKind.i64.wrap (left-1)=left-1:=wr64 _ (by omega)
 have hnf: ¬fitsR l ch.length high p left (33-deep):=fitsR_no (by omega)
 unfold procE FunE
 refine Fun.of (S:=tt) (fn:=Tryz.f132) (n:=95) tt_ok Tryz.func132 rfl rfl rfl rfl fun w0 h0 F hgs=>?_
 (refine b_ fun bx=>?_;refine y_ ?_)
 refine c_ hck ?_
 refine A.valE 30 rfl (x':=AB (decide (left=0))) (ab_eq (by rw [hw1,Bool.eq_iff_iff];simp;omega)) ?_
 by_cases hz:left=0
 ·refine e_ 30 rfl (x':=AB true) (ab_eq (by simpa using hz)) ?_
  (refine A.ret1 (Λ':=[.box b _]) rfl rfl rfl sl_ ⟨_,Sb.eq (ab_eq ?_),rfl,?_⟩;exact (decide_eq_false hnf).symm;exact fun h=>absurd h hnf)
 ·refine e_ 30 rfl (x':=AB false) (ab_eq (by simpa using hz)) ?_
  refine e_ 34 rfl (x':=AB true) (ab_eq (by simp;omega)) ?_
  (refine A.ret1 (Λ':=[.box b _]) rfl rfl rfl sl_ ⟨_,Sb.eq (ab_eq ?_),rfl,?_⟩;exact (decide_eq_false hnf).symm;exact fun h=>absurd h hnf)
theorem proc_b(l:List KV)(ch:List Int)(x:Nat->AV)(b:Nat)(p:PR)(deep:Int)(high:Bool)(left:Int)(r0:1<=left)(r1:left<=2048)(d0:1<=deep)(d1:deep<=32)(hck:Pure Tryz.prog gs0 213 [ptrA b,AU8 p.kind] (.v .nilFunc))(hno:kindB l ch.length p=false):procE l ch x b p deep high left:=by
 have hw1:IntKind.i64.wrap (left-1)=left-1:=wr64 _ (by omega)
 have hnf: ¬fitsR l ch.length high p left (33-deep):=fitsR_no (.inr (.inr (.inl hno)))
 unfold procE FunE
 refine Fun.of (S:=tt) (fn:=Tryz.f132) (n:=95) tt_ok Tryz.func132 rfl rfl rfl rfl fun w0 h0 F hgs=>?_
 (refine b_ fun bx=>?_;refine y_ ?_)
 refine c_ hck ?_
 refine e_ 30 rfl (x':=AB false) (ab_eq (by rw [hw1];simp;omega)) ?_
 refine e_ 34 rfl (x':=AB false) (ab_eq (by simp;omega)) ?_
 (refine A.ret1 (Λ':=[.box b _]) rfl rfl rfl sl_ ⟨_,Sb.eq (ab_eq ?_),rfl,?_⟩;exact (decide_eq_false hnf).symm;exact fun h=>absurd h hnf)
theorem proc_c(l:List KV)(ch:List Int)(x:Nat->AV)(b:Nat)(p:PR)(deep:Int)(high:Bool)(left:Int)(r0:1<=left)(r1:left<=2048)(d0:1<=deep)(d1:deep<=32)(f:FuncId)(hck:Pure Tryz.prog gs0 213 [ptrA b,AU8 p.kind] (.fn f [ptrA b] []))(hle:Lent l ch f p)(hno:kindB l ch.length p=false):procE l ch x b p deep high left:=by
 have hw1:IntKind.i64.wrap (left-1)=left-1:=wr64 _ (by omega)
 have hnf: ¬fitsR l ch.length high p left (33-deep):=fitsR_no (.inr (.inr (.inl hno)))
 have hl1:=hle b x (IntKind.i64.wrap (left-1))
 rw [hno] at hl1
 unfold procE FunE
 refine Fun.of (S:=tt) (fn:=Tryz.f132) (n:=95) tt_ok Tryz.func132 rfl rfl rfl rfl fun w0 h0 F hgs=>?_
 (refine b_ fun bx=>?_;refine y_ ?_)
 refine c_ hck ?_
 refine e_ 30 rfl (x':=AB false) (ab_eq (by rw [hw1];simp;omega)) ?_
 refine e_ 34 rfl (x':=AB false) (ab_eq (by simp;omega)) ?_
 refine A.d rfl hl1 .refl (List.Perm.swap _ _ _) ?_
 refine y_ ?_
 (refine A.ret1 (Λ':=[.box b _]) rfl rfl rfl sl_ ⟨_,Sb.eq (ab_eq ?_),rfl,?_⟩;exact (decide_eq_false hnf).symm;exact fun h=>absurd h hnf)
theorem proc_d(l:List KV)(ch:List Int)(x:Nat->AV)(b:Nat)(p:PR)(deep:Int)(left:Int)(r0:1<=left)(r1:left<=2048)(d0:1<=deep)(d1:deep<=32)(f:FuncId)(hck:Pure Tryz.prog gs0 213 [ptrA b,AU8 p.kind] (.fn f [ptrA b] []))(hle:Lent l ch f p)(hyes:kindB l ch.length p=true)(hk:p.kind=11):procE l ch x b p deep true left:=by
 have hw1:IntKind.i64.wrap (left-1)=left-1:=wr64 _ (by omega)
 have hnf: ¬fitsR l ch.length true p left (33-deep):=fitsR_no (.inr (.inr (.inr (by simpa using hk))))
 have hl1:=hle b x (IntKind.i64.wrap (left-1))
 rw [hyes] at hl1
 unfold procE FunE
 refine Fun.of (S:=tt) (fn:=Tryz.f132) (n:=95) tt_ok Tryz.func132 rfl rfl rfl rfl fun w0 h0 F hgs=>?_
 (refine b_ fun bx=>?_;refine y_ ?_)
 refine c_ hck ?_
 refine e_ 30 rfl (x':=AB false) (ab_eq (by rw [hw1];simp;omega)) ?_
 refine e_ 34 rfl (x':=AB false) (ab_eq (by simp;omega)) ?_
 refine A.d rfl hl1 .refl (List.Perm.swap _ _ _) ?_
 refine y_ ?_
 refine e_ 51 rfl (x':=AB true) (ab_eq (by simpa using hk)) ?_
 (refine A.ret1 (Λ':=[.box b _]) rfl rfl rfl sl_ ⟨_,Sb.eq (ab_eq ?_),rfl,?_⟩;exact (decide_eq_false hnf).symm;exact fun h=>absurd h hnf)
theorem take_empty{α:Type}{a:List α}{i:Nat}(h:i<a.length):(a.take i).isEmpty=decide (i=0):=by
 rw [Bool.eq_iff_iff,List.isEmpty_iff,List.take_eq_nil_iff];simp
 rintro rfl;simp at h
theorem proc_e(l:List KV)(ch:List Int)(x:Nat->AV)(b:Nat)(p:PR)(hwf:wfR p)(deep:Int)(high:Bool)(left:Int)(r0:1<=left)(r1:left<=2048)(d0:1<=deep)(d1:deep<=32)(f:FuncId)(hck:Pure Tryz.prog gs0 213 [ptrA b,AU8 p.kind] (.fn f [ptrA b] []))(hle:Lent l ch f p)(hyes:kindB l ch.length p=true)(hh:(high&&p.kind==11)=false)
 (ih0: ∀(y:PR) (hi:Bool) (lf:Int),wfR y->szR y<szR p->0<=lf->lf<=2048->procE l ch x b y (deep+1) hi lf):procE l ch x b p deep high left:=by
 have hw1:IntKind.i64.wrap (left-1)=left-1:=wr64 _ (by omega)
 have hw2:IntKind.i64.wrap (deep+1)=deep+1:=wr64 _ (by omega)
 have hwa:=wfR_all hwf
 have hl1:=hle b x (left-1)
 rw [hyes] at hl1
 have hbod:=(kind_bodies hyes).2.2
 have hfl:=fitsR_l (high:=high) (p:=p) (room:=left) (deep:=33-deep) r0 (by omega) hyes hh
 rw [show 33-deep-1=33-(deep+1) by omega] at hfl
 have hse:=szR_eq p
 have n1:((encRl p.l).length:Int)=p.l.length:=by rw [encRl_len]
 have n2:((encGl p.gs).length:Int)=p.gs.length:=by rw [encGl_len]
 unfold procE FunE
 refine Fun.of (S:=tt) (fn:=Tryz.f132) (n:=95) tt_ok Tryz.func132 rfl rfl rfl rfl fun w0 h0 F hgs=>?_
 (refine b_ fun bx=>?_;refine y_ ?_)
 refine c_ hck ?_
 refine e_ 30 rfl (x':=AB false) (ab_eq (by rw [hw1];simp;omega)) ?_
 refine e_ 34 rfl (x':=AB false) (ab_eq (by simp;omega)) ?_
 refine A.entsEq (Λ':=[.box _ (cellsR p), .box b (ckA l ch x (left-1))]) (by rw [hw1]) ?_
 refine A.d rfl hl1 .refl (List.Perm.swap _ _ _) ?_
 refine g_ ?_
 refine e_ 51 rfl (x':=AB false) (ab_eq (by revert hh;cases high<;>simp)) ?_
 refine A.valE 54 rfl (x':=AI (p.l.length:Nat)) (ai_eq n1) ?_
 refine A.keep [0,2,3,5,53,54,55] rfl ?_
 refine A.loopP (ι:=Nat×Int) (fun q=>(⟨[(0,ptrA b),(2,AI deep),(3,AB high),(5,ptrA _),(53,rsA p.l),(54,AI (p.l.length:Nat)),(55,AI (q.1:Nat))],[]⟩,[.box b (ckA l ch x q.2), .box _ (cellsR p)]))
  (fun q=>q.1<=p.l.length/\fitsPs l ch.length high (p.kind==11) (p.l.take q.1) (left-1) (33-(deep+1))/\q.2=left-1-(szL (p.l.take q.1):Nat)) (fun q=>p.l.length-q.1) (0,left-1) ⟨Nat.zero_le _,⟨by simp [okL],by simp [szL];omega,by simp [htL];omega⟩,by simp [szL]⟩ rfl fun q hi ih=>?_
 obtain ⟨i,lf⟩:=q
 obtain ⟨hi1,hi2,hi3⟩:=hi
 simp only at hi1 hi2 hi3
 have hsz2:=hi2.2.1
 refine y_ ?_
 refine k_ (fun hc=>?_) fun hc=>?_
 ·simp at hc
  refine Exists.elim (at_exN (l:=p.l) (i:=i) (by omega)) fun y hy=>?_
  have hym:=List.mem_of_getElem? hy
  have htk:p.l.take (i+1)=p.l.take i++[y]:=by rw [List.take_add_one,hy];rfl
  have hsn:=fitsPs_snoc (x:=y) hi2
  rw [<-htk,<-hi3,take_empty (by omega)] at hsn
  have ihy:=ih0 y (high||((p.kind==11)&&decide (i=0))) lf ((wfR_all (by exact hwf)).l y hym) (by have:=szL_le hym;omega) (by omega) (by omega)
  unfold procE at ihy
  have e0:(((i:Nat):Int)==0)=decide (i=0):=by rw [Bool.eq_iff_iff];simp
  refine y_ ?_
  refine j_ rfl (encRl_at hy) (encR_eq y) ?_
  (refine gb_ fun bx=>?_;refine g_ ?_)
  refine A.valE 63 rfl (x':=AI (deep+1)) (ai_eq hw2) ?_
  refine A.valE 73 rfl (x':=AB (high||((p.kind==11)&&decide (i=0)))) (ab_eq (by rw [e0];clear ih ihy hsn;generalize (p.kind==11)=b11;cases high<;>cases b11<;>simp)) ?_
  refine A.e rfl ihy .refl (List.Perm.swap _ _ _) fun lf2 hlf2=>?_
  by_cases hfx:fitsR l ch.length (high||((p.kind==11)&&decide (i=0))) y lf (33-(deep+1))
  ·refine e_ 74 rfl (x':=AB true) (ab_eq (decide_eq_true hfx)) ?_
   refine l_ (Λ':=[.box b (ckA l ch x lf2), .box _ (cellsR p)]) ?_
   refine A.valE 55 rfl (x':=AI ((i+1:Nat):Int)) (inc_eq i (by have:=hwa.ll;omega)) ?_
   refine u_ (ih (i+1,lf2) ⟨by show i+1<=_;omega,hsn.2 hfx,?_⟩ (by show _-(i+1)<_-i;omega))
   show lf2=left-1-(szL (p.l.take (i+1)):Nat)
   rw [hlf2 hfx,htk,szL_append,hi3];simp [szL];omega
  ·have hnf: ¬fitsR l ch.length high p left (33-deep):=fun hf=>hfx (hsn.1 (fitsPs_take (hfl.1 hf).1 (i+1)))
   refine e_ 74 rfl (x':=AB false) (ab_eq (decide_eq_false hfx)) ?_
   (refine A.ret1 (Λ':=[.box b _]) rfl rfl rfl sl_ ⟨_,Sb.eq (ab_eq ?_),rfl,?_⟩;exact (decide_eq_false hnf).symm;exact fun h=>absurd h hnf)
 simp at hc
 have hil:i=p.l.length:=by omega
 rw [hil,List.take_length] at hi2 hi3
 have hszl:=hi2.2.1
 refine y_ ?_
 refine A.valE 79 rfl (x':=AI (p.gs.length:Nat)) (ai_eq n2) ?_
 refine A.keep [0,2,3,5,78,79,80] rfl ?_
 refine A.loopP (ι:=Nat×Int) (fun q=>(⟨[(0,ptrA b),(2,AI deep),(3,AB high),(5,ptrA _),(78,gsA p.gs),(79,AI (p.gs.length:Nat)),(80,AI (q.1:Nat))],[]⟩,[.box b (ckA l ch x q.2), .box _ (cellsR p)]))
  (fun q=>q.1<=p.gs.length/\fitsGs l ch.length high (p.gs.take q.1) (left-1-(szL p.l:Nat)) (33-(deep+1))/\q.2=left-1-(szL p.l:Nat)-(szGs (p.gs.take q.1):Nat)) (fun q=>p.gs.length-q.1) (0,lf) ⟨Nat.zero_le _,⟨by simp [okGs],by simp [szGs];omega,by simp [htGs];omega⟩,by simp [szGs];omega⟩ rfl fun q hj jh=>?_
 obtain ⟨j,lg⟩:=q
 obtain ⟨hj1,hj2,hj3⟩:=hj
 simp only at hj1 hj2 hj3
 have hsz3:=hj2.2.1
 refine y_ ?_
 refine k_ (fun hc=>?_) fun hc=>?_
 ·simp at hc
  refine Exists.elim (at_exN (l:=p.gs) (i:=j) (by omega)) fun g hg=>?_
  have hgm:=List.mem_of_getElem? hg
  refine Exists.elim (hbod g hgm) fun y hy=>?_
  have htk:p.gs.take (j+1)=p.gs.take j++[g]:=by rw [List.take_add_one,hg];rfl
  have hsn:=fitsGs_snoc hy hj2
  rw [<-htk,<-hj3] at hsn
  have hszy:szR y<=szGs p.gs:=by have:=szGs_le hgm;rw [szG_eq,hy,szL,szL] at this;omega
  have ihy:=ih0 y high lg ((wfG_all (hwa.g g hgm)).body y (by rw [hy];exact List.mem_cons_self ..)) (by omega) (by omega) (by omega)
  unfold procE at ihy
  refine y_ ?_
  refine j_ rfl (encGl_at hg) (encG_eq g) ?_
  (refine b_ fun bx=>?_;refine y_ ?_)
  refine i_ rfl (show (encRl g.body)[(0:Int).toNat]? =some (encR y) from encRl_at (by rw [hy];rfl)) (encR_eq y) ?_
  refine A.valE 90 rfl (x':=AI (deep+1)) (ai_eq hw2) ?_
  refine A.e rfl ihy .refl (List.Perm.swap _ _ _) fun lf2 hlf2=>?_
  by_cases hfx:fitsR l ch.length high y lg (33-(deep+1))
  ·refine e_ 92 rfl (x':=AB true) (ab_eq (decide_eq_true hfx)) ?_
   refine l_ (Λ':=[.box b (ckA l ch x lf2), .box _ (cellsR p)]) ?_
   refine A.valE 80 rfl (x':=AI ((j+1:Nat):Int)) (inc_eq j (by have:=hwa.gl;omega)) ?_
   refine u_ (jh (j+1,lf2) ⟨by show j+1<=_;omega,hsn.2 hfx,?_⟩ (by show _-(j+1)<_-j;omega))
   show lf2=left-1-(szL p.l:Nat)-(szGs (p.gs.take (j+1)):Nat)
   have e2:szGs [g]=szR y:=by rw [szGs,szGs,szG_eq,hy,szL,szL];omega
   rw [hlf2 hfx,htk,szGs_append,hj3,e2];omega
  ·have hnf: ¬fitsR l ch.length high p left (33-deep):=fun hf=>hfx (hsn.1 (fitsGs_take (hfl.1 hf).2 (j+1)))
   refine e_ 92 rfl (x':=AB false) (ab_eq (decide_eq_false hfx)) ?_
   (refine A.ret1 (Λ':=[.box b _]) rfl rfl rfl sl_ ⟨_,Sb.eq (ab_eq ?_),rfl,?_⟩;exact (decide_eq_false hnf).symm;exact fun h=>absurd h hnf)
 simp at hc
 have hjl:j=p.gs.length:=by omega
 rw [hjl,List.take_length] at hj2 hj3
 refine y_ ?_
 refine A.ret1 (Λ':=[.box b _]) rfl rfl rfl sl_ ⟨_,Sb.eq (ab_eq ?_),rfl,?_⟩
 ·exact (decide_eq_true (hfl.2 ⟨hi2,hj2⟩)).symm
 ·intro _;show lg=left-szR p;omega
theorem process_p(l:List KV)(ch:List Int)(hl:l.length<=281474976710656)(hv:VarsOk l)(x:Nat->AV)(b:Nat): ∀(N:Nat) (p:PR) (deep:Int) (high:Bool) (left:Int),szR p<=N->wfR p->0<=left->left<=2048->1<=deep->deep<=33->procE l ch x b p deep high left
 |0,p,_,_,_,hn,_,_,_,_,_=>by have:=szR_pos p;omega
 |N+1,p,deep,high,left,hn,hw,r0,r1,d0,d1=>by
  by_cases hk:1<=p.kind/\p.kind<=15
  ·have hck:=check_some b p.kind hk
   by_cases hz:left=0\/deep=33
   ·exact proc_a l ch x b p deep high left hz r0 r1 _ hck
   have hle:=kind_lent l ch hl hv p (wfR_all hw) hk
   cases hkb:kindB l ch.length p with
   |false=>exact proc_c l ch x b p deep high left (by omega) r1 d0 (by omega) _ hck hle hkb
   |true=>
    cases hh:(high&&p.kind==11) with
    |true=>
     simp only [Bool.and_eq_true,beq_iff_eq] at hh
     rw [hh.1]
     exact proc_d l ch x b p deep left (by omega) r1 d0 (by omega) _ hck hle hkb hh.2
    |false=>exact proc_e l ch x b p hw deep high left (by omega) r1 d0 (by omega) _ hck hle hkb hh fun y hi lf hwy hsz l0 l1=>process_p l ch hl hv x b N y (deep+1) hi lf (by omega) hwy l0 l1 (by omega) (by omega)
  ·have hck:=check_none b p.kind hk
   have hno:kindB l ch.length p=false:=by
    cases h:kindB l ch.length p with
    |false=>rfl
    |true=>have:=kind_bodies h;exact (hk ⟨this.1,this.2.1⟩).elim
   by_cases hz:left=0\/deep=33
   ·exact proc_a l ch x b p deep high left hz r0 r1 _ hck
   ·exact proc_b l ch x b p deep high left (by omega) r1 d0 (by omega) hck hno
abbrev intsA(l:List Int):AV:= .sl 1 (l.map AI) none
def idxI(v:Int)(l:List Int)(i:Nat):Int:=idxF (fun x=>v==x) l i
theorem index_p(l:List Int)(v:Int)(hb:l.length<=281474976710656):Pure Tryz.prog gs0 174 [intsA l,AI v] (AI (idxI v l 0)):=by
 refine p_ tt_ok Tryz.func174 19 fun w0 h0 F hgs=>?_
 refine y_ ?_
 refine A.valE 7 rfl (x':=AI (l.length:Nat)) (ai_eq (by rw [List.length_map])) ?_
 refine A.keep [0,1,7,8] rfl ?_
 refine A.loopP (ι:=Nat) (fun i=>(⟨[(0,intsA l),(1,AI v),(7,AI (l.length:Nat)),(8,AI (i:Int))],[]⟩,[])) (fun i=>i<=l.length/\idxI v l 0=idxI v (l.drop i) i) (fun i=>l.length-i) 0 ⟨by omega,rfl⟩ rfl fun i hi ih=>?_
 refine y_ ?_
 refine k_ (fun hc=>?_) fun hc=>?_
 ·simp at hc
  refine Exists.elim (at_exN (l:=l) (i:=i) hc) fun x hx=>?_
  have h1:idxI v l 0=if (v==x)=true then (i:Int) else idxI v (l.drop (i+1)) (i+1):=by rw [hi.2,drop_at hx];rfl
  refine y_ ?_
  refine i_ rfl (map_at hx) rfl ?_
  refine k_ (fun hc=>?_) fun hc=>?_
  ·rw [hc,if_pos rfl] at h1
   refine y_ ?_;refine R_ ?_;rw [h1];exact .refl
  ·rw [hc,if_neg (by simp)] at h1
   refine y_ ?_
   refine A.valE 8 rfl (x':=AI ((i+1:Nat):Int)) (inc_eq i (by omega)) ?_
   refine u_ (ih (i+1) ⟨by omega,h1⟩ (by omega))
 ·simp at hc
  have:i=l.length:=by omega
  subst this
  refine y_ ?_;refine R_ ?_;rw [hi.2,List.drop_length];exact .refl
theorem contains_p(l:List Int)(v:Int)(hb:l.length<=281474976710656):Pure Tryz.prog gs0 97 [intsA l,AI v] (AB (l.contains v)):=by
 refine p_ tt_ok Tryz.func97 9 fun w0 h0 F hgs=>?_
 refine y_ ?_
 refine c_ (index_p l v hb) ?_;refine R_ ?_;refine Sb.eq (ab_eq ?_)
 rw [idxI,idxF_any,List.contains_eq_any_beq]
structure KN where
 vars:List KV
 chans:List Int
 root:PR
 procs:List Int
abbrev encN(k:KN):AV:= .ag [varsA k.vars,chsA k.chans,AU8 k.root.kind,AI k.root.c,AI k.root.v,AU8 k.root.item,plsA k.root.to,kesA k.root.e,gsA k.root.gs,rsA k.root.l,intsA k.procs]
structure WfN(k:KN):Prop where
 vars:k.vars.length<=281474976710656
 chans:k.chans.length<=281474976710656
 procs:k.procs.length<=281474976710656
 root:wfR k.root
def okPr:List Int->List Int->Bool
 |_,[]=>true
 |seen,n::r=>decide (0<=n)&&decide (n<8)&& !seen.contains n&&okPr (seen++[n]) r
def varOk(v:KV):Bool:=primB v.kind&&decide (0<=v.dim)&&decide (v.dim<=64)
def wantH(i:Nat):Int:=if i=0 then 1 else if i=1 then 2 else 0
def okCh:Nat->List Int->Bool
 |_,[]=>true
 |i,h::r=>h==wantH i&&okCh (i+1) r
def lensK(k:KN):Bool:=decide (k.vars.length<=256)&&decide (2<=k.chans.length)&&decide (k.chans.length<=64)
def rootK(k:KN):Bool:=k.procs.length==0||(k.root.kind==10&&k.root.l.length==k.procs.length)
def mayK(k:KN):Bool:=lensK k&&rootK k&&okPr [] k.procs&&k.vars.all varOk&&okCh 0 k.chans&&decide (fitsR k.vars k.chans.length false k.root 2048 32)
theorem varsOk_of{l:List KV}(h:l.all varOk=true):VarsOk l:=fun y hy=>by
 have:=List.all_eq_true.1 h y hy
 simp only [varOk,primB,Bool.and_eq_true,decide_eq_true_eq] at this
 omega
def xN(k:KN):Nat->AV:=fun i=>([AU8 k.root.kind,AI k.root.c,AI k.root.v,AU8 k.root.item,plsA k.root.to,kesA k.root.e,gsA k.root.gs,rsA k.root.l,intsA k.procs]:List AV).getD i (AI 0)
theorem kmay_a(k:KN)(h:(lensK k&&rootK k)=false):Pure Tryz.prog gs0 85 [encN k] (AB false):=by
 have n1:((k.vars.map encV).length:Int)=k.vars.length:=by rw [List.length_map]
 have n2:((k.chans.map AU8).length:Int)=k.chans.length:=by rw [List.length_map]
 have n3:((k.procs.map AI).length:Int)=k.procs.length:=by rw [List.length_map]
 have n4:((encRl k.root.l).length:Int)=k.root.l.length:=by rw [encRl_len]
 refine p_ tt_ok Tryz.func85 116 fun w0 h0 F hgs=>?_
 (refine gb_ fun bx=>?_;refine g_ ?_)
 refine A.valE 26 rfl (x':=AB (!lensK k)) (ab_eq ?_) ?_
 ·rw [n1,n2,lensK,Bool.eq_iff_iff];simp;omega
 cases hlk:lensK k with
 |false=>exact yr_
 |true=>
  rw [hlk,Bool.true_and] at h
  refine g_ ?_
  refine A.valE 46 rfl (x':=AB true) (ab_eq ?_) ?_
  ·rw [n3,n4]
   have h': ¬k.procs.length=0/\ ¬(k.root.kind=10/\k.root.l.length=k.procs.length):=by simpa [rootK] using h
   by_cases hk:k.root.kind=10
   ·rw [Bool.eq_iff_iff];simp [hk];omega
   ·rw [Bool.eq_iff_iff];simp [hk];omega
  exact yr_
theorem kmay_b(k:KN)(hw:WfN k)(h:(lensK k&&rootK k)=true)(R:Bool)(hR:(okPr [] k.procs&&k.vars.all varOk&&okCh 0 k.chans&&decide (fitsR k.vars k.chans.length false k.root 2048 32))=R):Pure Tryz.prog gs0 85 [encN k] (AB R):=by
 have n1:((k.vars.map encV).length:Int)=k.vars.length:=by rw [List.length_map]
 have n2:((k.chans.map AU8).length:Int)=k.chans.length:=by rw [List.length_map]
 have n3:((k.procs.map AI).length:Int)=k.procs.length:=by rw [List.length_map]
 have n4:((encRl k.root.l).length:Int)=k.root.l.length:=by rw [encRl_len]
 rw [Bool.and_eq_true] at h
 have hlk:k.vars.length<=256/\2<=k.chans.length/\k.chans.length<=64:=by have:=h.1;simp only [lensK,Bool.and_eq_true,decide_eq_true_eq] at this;omega
 have hrk:k.procs.length=0\/(k.root.kind=10/\k.root.l.length=k.procs.length):=by simpa [rootK] using h.2
 have hpl:=hw.procs
 generalize hR1:(k.vars.all varOk&&okCh 0 k.chans&&decide (fitsR k.vars k.chans.length false k.root 2048 32))=R1
 rw [Bool.and_assoc,Bool.and_assoc,<-Bool.and_assoc (k.vars.all varOk),hR1] at hR
 refine p_ tt_ok Tryz.func85 116 fun w0 h0 F hgs=>?_
 (refine gb_ fun bx=>?_;refine g_ ?_)
 refine A.valE 26 rfl (x':=AB false) (ab_eq ?_) ?_
 ·rw [n1,n2,Bool.eq_iff_iff];simp;omega
 refine g_ ?_
 refine A.valE 46 rfl (x':=AB false) (ab_eq ?_) ?_
 ·rw [n3,n4]
  rcases hrk with hp0|⟨hk,hl2⟩
  ·simp [hp0]
  ·simp [hk,hl2]
 refine y_ ?_
 refine A.valE 49 rfl (x':=AI (k.procs.length:Nat)) (ai_eq n3) ?_
 refine A.keep [1,48,49,50] rfl ?_
 refine A.loopP (ι:=Nat) (fun i=>(⟨[(1,ptrA _),(48,intsA k.procs),(49,AI (k.procs.length:Nat)),(50,AI (i:Nat))],[]⟩,[.box _ (encN k)])) (fun i=>i<=k.procs.length/\(okPr (k.procs.take i) (k.procs.drop i)&&R1)=R) (fun i=>k.procs.length-i) 0 ⟨by omega,hR⟩ rfl fun i hi ih=>?_
 refine y_ ?_
 refine k_ (fun hc=>?_) fun hc=>?_
 ·simp at hc
  refine Exists.elim (at_exN (l:=k.procs) (i:=i) (by omega)) fun v hv=>?_
  have h1:=hi.2
  rw [drop_at hv,okPr] at h1
  have htk:k.procs.take (i+1)=k.procs.take i++[v]:=by rw [List.take_add_one,hv];rfl
  have hcn:=contains_p (k.procs.take i) v (by rw [List.length_take];omega)
  refine y_ ?_
  refine i_ rfl (map_at hv) rfl ?_
  ((fail_if_success (refine A.lit? rfl ?_));refine A.gS rfl (fun hc=>?_) (fun hc=>?_))
  ·have hc0:v<0:=by simpa using hc
   rw [decide_eq_false (by omega)] at h1
   refine y_ ?_;refine R_ ?_;rw [<-h1];exact .refl
  have hc0:0<=v:=by simpa using hc
  refine y_ ?_
  ((fail_if_success (refine A.lit? rfl ?_));refine A.gS rfl (fun hc=>?_) (fun hc=>?_))
  ·have hc1:8<=v:=by simpa using hc
   rw [decide_eq_false (p:=v<8) (by omega),Bool.and_false] at h1
   refine y_ ?_;refine R_ ?_;rw [<-h1];exact .refl
  have hc1:v<8:=by simpa using hc
  rw [decide_eq_true hc0,decide_eq_true hc1,Bool.true_and,Bool.true_and] at h1
  refine y_ ?_
  refine A.slice (ys:=(k.procs.take i).map AI) rfl rfl rfl rfl rfl rfl rfl rfl rfl (by decide) (by omega) (by rw [List.length_map];omega) (by simp [List.map_take]) rfl ?_
  refine y_ ?_
  refine c_ hcn ?_
  refine k_ (fun hc=>?_) fun hc=>?_
  ·have hc:(k.procs.take i).contains v=true:=hc
   rw [hc,Bool.not_true,Bool.false_and,Bool.false_and] at h1
   refine y_ ?_;refine R_ ?_;rw [<-h1];exact .refl
  ·have hc:(k.procs.take i).contains v=false:=hc
   rw [hc,Bool.not_false,Bool.true_and,<-htk] at h1
   refine y_ ?_
   refine A.valE 50 rfl (x':=AI ((i+1:Nat):Int)) (inc_eq i (by omega)) ?_
   refine u_ (ih (i+1) ⟨by omega,h1⟩ (by omega))
 simp at hc
 have hil:i=k.procs.length:=by omega
 have h1:=hi.2
 rw [hil,List.drop_length,okPr,Bool.true_and] at h1
 rw [<-hR1,Bool.and_assoc] at h1
 generalize hR2:(okCh 0 k.chans&&decide (fitsR k.vars k.chans.length false k.root 2048 32))=R2 at h1
 clear ih hi hR hR1
 refine y_ ?_
 refine A.valE 72 rfl (x':=AI (k.vars.length:Nat)) (ai_eq n1) ?_
 refine A.keep [1,71,72,73] rfl ?_
 refine A.loopP (ι:=Nat) (fun i=>(⟨[(1,ptrA _),(71,varsA k.vars),(72,AI (k.vars.length:Nat)),(73,AI (i:Nat))],[]⟩,[.box _ (encN k)])) (fun i=>i<=k.vars.length/\((k.vars.drop i).all varOk&&R2)=R/\(k.vars.take i).all varOk=true) (fun i=>k.vars.length-i) 0 ⟨by omega,h1,rfl⟩ rfl fun j hi ih=>?_
 refine y_ ?_
 refine k_ (fun hc=>?_) fun hc=>?_
 ·simp at hc
  refine Exists.elim (at_exN (l:=k.vars) (i:=j) (by omega)) fun v hv=>?_
  have h2:=hi.2.1
  have htv:k.vars.take (j+1)=k.vars.take j++[v]:=by rw [List.take_add_one,hv];rfl
  rw [drop_at hv,List.all_cons,varOk] at h2
  refine y_ ?_
  refine j_ rfl (map_at hv) rfl ?_
  (refine b_ fun bx=>?_;refine y_ ?_)
  refine c_ (kprim_p v.kind) ?_
  ((fail_if_success (refine A.lit? rfl ?_));refine A.gS rfl (fun hc=>?_) (fun hc=>?_))
  ·have hc0:primB v.kind=false:=by simpa using hc
   rw [hc0] at h2
   refine y_ ?_;refine R_ ?_;rw [<-h2];exact .refl
  have hc0:primB v.kind=true:=by simpa using hc
  refine y_ ?_
  ((fail_if_success (refine A.lit? rfl ?_));refine A.gS rfl (fun hc=>?_) (fun hc=>?_))
  ·have hc1:v.dim<0:=by simpa using hc
   rw [decide_eq_false (p:=0<=v.dim) (by omega),Bool.and_false] at h2
   refine y_ ?_;refine R_ ?_;rw [<-h2];exact .refl
  have hc1:0<=v.dim:=by simpa using hc
  refine y_ ?_
  refine k_ (fun hc=>?_) fun hc=>?_
  ·have hc2:64<v.dim:=by simpa using hc
   rw [decide_eq_false (p:=v.dim<=64) (by omega),Bool.and_false] at h2
   refine y_ ?_;refine R_ ?_;rw [<-h2];exact .refl
  ·have hc2:v.dim<=64:=by simpa using hc
   rw [hc0,decide_eq_true hc1,decide_eq_true hc2] at h2
   simp only [Bool.true_and] at h2
   refine y_ ?_
   refine l_ (Λ':=[.box _ (encN k)]) ?_
   refine A.valE 73 rfl (x':=AI ((j+1:Nat):Int)) (inc_eq j (by omega)) ?_
   refine u_ (ih (j+1) ⟨by omega,h2,by rw [htv,List.all_append,hi.2.2];simp [varOk,hc0,hc1,hc2]⟩ (by omega))
 simp at hc
 have hjl:j=k.vars.length:=by omega
 have h2:=hi.2.1
 have hvo:=hi.2.2
 rw [hjl,List.take_length] at hvo
 rw [hjl,List.drop_length,List.all_nil,Bool.true_and] at h2
 clear ih hi
 rw [<-hR2] at h2
 generalize hR3:decide (fitsR k.vars k.chans.length false k.root 2048 32)=R3 at h2
 have hpr:=fun b=>process_p k.vars k.chans hw.vars (varsOk_of hvo) (xN k) b (szR k.root) k.root 1 false 2048 (Nat.le_refl _) hw.root (by decide) (by decide) (by decide) (by decide)
 simp only [procE,show (33:Int)-1=32 from rfl] at hpr
 refine y_ ?_
 refine A.valE 94 rfl (x':=AI (k.chans.length:Nat)) (ai_eq n2) ?_
 refine A.keep [1,93,94,95] rfl ?_
 refine A.loopP (ι:=Nat) (fun i=>(⟨[(1,ptrA _),(93,chsA k.chans),(94,AI (k.chans.length:Nat)),(95,AI (i:Nat))],[]⟩,[.box _ (encN k)])) (fun i=>i<=k.chans.length/\(okCh i (k.chans.drop i)&&R3)=R) (fun i=>k.chans.length-i) 0 ⟨by omega,h2⟩ rfl fun m hi ih=>?_
 refine y_ ?_
 refine k_ (fun hc=>?_) fun hc=>?_
 ·simp at hc
  refine Exists.elim (at_exN (l:=k.chans) (i:=m) (by omega)) fun v hv=>?_
  have h3:=hi.2
  rw [drop_at hv,okCh] at h3
  refine y_ ?_
  refine j_ rfl (map_at hv) rfl ?_
  by_cases m0:m=0
  ·subst m0
   rw [show wantH 0=1 from rfl] at h3
   refine y_ ?_
   refine k_ (fun hc=>?_) fun hc=>?_
   ·have hc:(v !=1)=true:=hc
    have hv1:(v==1)=false:=by simpa using hc
    rw [hv1] at h3
    refine y_ ?_;refine R_ ?_;rw [<-h3];exact .refl
   ·have hc:(v !=1)=false:=hc
    have hv1:(v==1)=true:=by simpa using hc
    rw [hv1,Bool.true_and] at h3
    refine y_ ?_
    refine u_ (ih 1 ⟨by omega,h3⟩ (by omega))
  by_cases m1:m=1
  ·subst m1
   rw [show wantH 1=2 from rfl] at h3
   refine y_ ?_
   refine k_ (fun hc=>?_) fun hc=>?_
   ·have hc:(v !=2)=true:=hc
    have hv1:(v==2)=false:=by simpa using hc
    rw [hv1] at h3
    refine y_ ?_;refine R_ ?_;rw [<-h3];exact .refl
   ·have hc:(v !=2)=false:=hc
    have hv1:(v==2)=true:=by simpa using hc
    rw [hv1,Bool.true_and] at h3
    refine y_ ?_
    refine u_ (ih 2 ⟨by omega,h3⟩ (by omega))
  ·rw [show wantH m=0 by simp [wantH,m0,m1]] at h3
   refine y_ ?_
   refine e_ 101 rfl (x':=AB false) (ab_eq (by simp;omega)) ?_
   refine e_ 103 rfl (x':=AB false) (ab_eq (by simp;omega)) ?_
   refine k_ (fun hc=>?_) fun hc=>?_
   ·have hc:(v !=0)=true:=hc
    have hv1:(v==0)=false:=by simpa using hc
    rw [hv1] at h3
    refine y_ ?_;refine R_ ?_;rw [<-h3];exact .refl
   ·have hc:(v !=0)=false:=hc
    have hv1:(v==0)=true:=by simpa using hc
    rw [hv1,Bool.true_and] at h3
    refine y_ ?_
    refine A.valE 95 rfl (x':=AI ((m+1:Nat):Int)) (inc_eq m (by omega)) ?_
    refine u_ (ih (m+1) ⟨by omega,h3⟩ (by omega))
 simp at hc
 have hml:m=k.chans.length:=by omega
 have h3:=hi.2
 rw [hml,List.drop_length,okCh,Bool.true_and] at h3
 clear ih hi
 (refine b_ fun bx=>?_;refine y_ ?_)
 refine A.entsEq (Λ':=[.box _ (ckA k.vars k.chans (xN k) 2048), .box _ (encN k)]) rfl ?_
 refine A.e rfl (hpr _) .refl (List.Perm.refl _) fun lf _=>?_
 refine y_ ?_;refine R_ ?_;refine Sb.eq (ab_eq ?_);rw [<-h3,<-hR3]
theorem kmay_p(k:KN)(hw:WfN k):Pure Tryz.prog gs0 85 [encN k] (AB (mayK k)):=by
 by_cases h:(lensK k&&rootK k)=true
 ·have:=kmay_b k hw h _ rfl
  unfold mayK
  rw [h,Bool.true_and]
  exact this
 ·have h:(lensK k&&rootK k)=false:=by simpa using h
  have:=kmay_a k h
  unfold mayK
  rw [h,Bool.false_and,Bool.false_and,Bool.false_and,Bool.false_and]
  exact this
mutual
def smK:KE->Prop
 |⟨_,_,_,_,_,l⟩=>l.length*40<=140737488355328/\smKl l
def smKl:List KE->Prop
 | []=>True
 |e::r=>smK e/\smKl r
end
def smP(p:PL):Prop:=p.ix.length*40<=140737488355328/\ ∀x,x∈p.ix->smK x
mutual
def smR:PR->Prop
 |⟨_,_,_,_,to,e,gs,l⟩=>((∀t,t∈to->smP t)/\(∀x,x∈e->smK x)/\to.length*32<=140737488355328/\e.length*40<=140737488355328/\gs.length*160<=140737488355328/\l.length*128<=140737488355328)/\smGl gs/\smRl l
def smRl:List PR->Prop
 | []=>True
 |p::r=>smR p/\smRl r
def smG:GD->Prop
 |⟨_,e,_,_,to,t,b⟩=>(smK e/\smK t/\smP to/\b.length*128<=140737488355328)/\smRl b
def smGl:List GD->Prop
 | []=>True
 |g::r=>smG g/\smGl r
end
theorem smRl_mem: ∀{l:List PR},smRl l-> ∀x,x∈l->smR x
 | [],_,x,h=>by cases h
 |y::r,hw,x,h=>by
  rw [smRl] at hw
  rcases List.mem_cons.1 h with rfl|h
  ·exact hw.1
  ·exact smRl_mem hw.2 x h
theorem smGl_mem: ∀{l:List GD},smGl l-> ∀x,x∈l->smG x
 | [],_,x,h=>by cases h
 |y::r,hw,x,h=>by
  rw [smGl] at hw
  rcases List.mem_cons.1 h with rfl|h
  ·exact hw.1
  ·exact smGl_mem hw.2 x h
structure SmR(p:PR):Prop where
 to: ∀t,t∈p.to->smP t
 e: ∀x,x∈p.e->smK x
 tol:p.to.length<=281474976710656
 el:p.e.length<=281474976710656
 gl:p.gs.length<=281474976710656
 ll:p.l.length<=281474976710656
 g: ∀g,g∈p.gs->smG g
 l: ∀x,x∈p.l->smR x
 tb:p.to.length*32<=140737488355328
 eb:p.e.length*40<=140737488355328
 gb:p.gs.length*160<=140737488355328
 lb:p.l.length*128<=140737488355328
theorem smR_all{p:PR}(h:smR p):SmR p:=by
 obtain ⟨k,c,v,i,to,e,gs,l⟩:=p
 rw [smR] at h
 obtain ⟨⟨h1,h2,h3,h4,h5,h6⟩,h7,h8⟩:=h
 exact ⟨h1,h2,by show to.length<=_;omega,by show e.length<=_;omega,by show gs.length<=_;omega,by show l.length<=_;omega,smGl_mem h7,smRl_mem h8,h3,h4,h5,h6⟩
structure SmG(g:GD):Prop where
 cond:smK g.cond
 time:smK g.time
 to:smP g.to
 bl:g.body.length<=281474976710656
 body: ∀x,x∈g.body->smR x
 bb:g.body.length*128<=140737488355328
theorem smG_all{g:GD}(h:smG g):SmG g:=by
 obtain ⟨k,e,c,i,to,t,b⟩:=g
 rw [smG] at h
 obtain ⟨⟨h1,h2,h3,h4⟩,h5⟩:=h
 exact ⟨h1,h2,h3,by show b.length<=_;omega,smRl_mem h5,h4⟩
theorem pr_lt{p x:PR}(h:x∈p.l):SizeOf.sizeOf x<SizeOf.sizeOf p:=by
 obtain ⟨k,c,v,i,to,e,gs,l⟩:=p
 have:=List.sizeOf_lt_of_mem h
 simp only [PR.mk.sizeOf_spec,PR.l] at this⊢
 omega
def skipR:PR:=⟨1,0,0,0,[],[],[],[]⟩
abbrev plainA(k:Int):AV:= .ag [AU8 k,AI 0,AI 0,AU8 0,plsA [],kesA [],gsA [],rsA []]
mutual
def tgR:PR->Prop
 |⟨_,_,_,_,_,_,_,l⟩=>l.length<=134217728/\tgRl l
def tgRl:List PR->Prop
 | []=>True
 |p::r=>tgR p/\tgRl r
end
theorem smRl_of: ∀{l:List PR},(∀x,x∈l->smR x)->smRl l
 | [],_=>by rw [smRl];trivial
 |y::r,h=>by rw [smRl];exact ⟨h y (.head _),smRl_of fun x hx=>h x (.tail _ hx)⟩
theorem gg_lt{p:PR}{g:GD}(h:g∈p.gs):SizeOf.sizeOf g<SizeOf.sizeOf p:=by
 obtain ⟨k,c,v,i,to,e,gs,l⟩:=p
 have:=List.sizeOf_lt_of_mem h
 simp only [PR.mk.sizeOf_spec,PR.gs] at this⊢
 omega
theorem bd_lt{g:GD}{x:PR}(h:x∈g.body):SizeOf.sizeOf x<SizeOf.sizeOf g:=by
 obtain ⟨k,e,c,i,to,t,b⟩:=g
 have:=List.sizeOf_lt_of_mem h
 simp only [GD.mk.sizeOf_spec,GD.body] at this⊢
 omega
mutual
def okF(I:PR->Prop)(next high:Bool):PR->Prop
 |⟨k,c,v,i,to,e,gs,l⟩=>(I ⟨k,c,v,i,to,e,gs,l⟩/\(k=16->next=true)/\(k=11->high=false))/\okFl I (next&&(k==9||k==10||k==11)) (next&&(k==10||k==11)) (high||k==11) high l/\okFs I high gs
def okFl(I:PR->Prop)(n0 n1 h0 h1:Bool):List PR->Prop
 | []=>True
 |p::r=>okF I n0 h0 p/\okFl I n1 n1 h1 h1 r
def okFg(I:PR->Prop)(high:Bool):GD->Prop
 |⟨_,_,_,_,_,_,b⟩=>okFl I false false high high b
def okFs(I:PR->Prop)(high:Bool):List GD->Prop
 | []=>True
 |g::r=>okFg I high g/\okFs I high r
end
section
variable{I:PR->Prop}
theorem okF_eq{next high:Bool}(p:PR):okF I next high p↔(I p/\(p.kind=16->next=true)/\(p.kind=11->high=false))/\okFl I (next&&(p.kind==9||p.kind==10||p.kind==11)) (next&&(p.kind==10||p.kind==11)) (high||p.kind==11) high p.l/\okFs I high p.gs:=by
 obtain ⟨k,c,v,i,to,e,gs,l⟩:=p
 rw [okF]
theorem okFg_eq{high:Bool}(g:GD):okFg I high g↔okFl I false false high high g.body:=by
 obtain ⟨k,e,c,i,to,t,b⟩:=g
 rw [okFg]
theorem okFl_0{n0 n1 h0 h1:Bool}:okFl I n0 n1 h0 h1 []:=by rw [okFl];trivial
theorem okFs_mem{high:Bool}: ∀{l:List GD},okFs I high l-> ∀g,g∈l->okFg I high g
 | [],_,g,h=>by cases h
 |y::r,hw,g,h=>by
  rw [okFs] at hw
  rcases List.mem_cons.1 h with rfl|h
  ·exact hw.1
  ·exact okFs_mem hw.2 g h
theorem okFs_of{high:Bool}: ∀{l:List GD},(∀g,g∈l->okFg I high g)->okFs I high l
 | [],_=>by rw [okFs];trivial
 |y::r,h=>by rw [okFs];exact ⟨h y (.head _),okFs_of fun x hx=>h x (.tail _ hx)⟩
theorem okFl_mem{n1 h1:Bool}: ∀{l:List PR},okFl I n1 n1 h1 h1 l-> ∀x,x∈l->okF I n1 h1 x
 | [],_,x,h=>by cases h
 |y::r,hw,x,h=>by
  rw [okFl] at hw
  rcases List.mem_cons.1 h with rfl|h
  ·exact hw.1
  ·exact okFl_mem hw.2 x h
theorem okFl_some{n0 n1 h0 h1:Bool}{l:List PR}(hw:okFl I n0 n1 h0 h1 l){x:PR}(hx:x∈l): ∃n h,okF I n h x:=by
 cases l with
 |nil=>cases hx
 |cons y r=>
  rw [okFl] at hw
  rcases List.mem_cons.1 hx with rfl|h
  ·exact ⟨_,_,hw.1⟩
  ·exact ⟨_,_,okFl_mem hw.2 x h⟩
end
mutual
def atR:PR->List Nat->Option PR
 |⟨k,c,v,i,to,e,gs,l⟩,path=>if k=9 then atS l path else if k=10\/k=11 then (match path with
  | []=>none
  |j::rest=>atL l j rest) else (match path with
  | []=>some ⟨k,c,v,i,to,e,gs,l⟩
  |_::_=>none)
def atS:List PR->List Nat->Option PR
 | [],_=>none
 |x::_,path=>atR x path
def atL:List PR->Nat->List Nat->Option PR
 | [],_,_=>none
 |x::_,0,path=>atR x path
 |_::r,j+1,path=>atL r j path
end
section
variable{I:PR->Prop}
end
def waitsG(g:GD):Bool:=g.cond.kind==1&&(g.kind !=4||g.time.kind==1)
theorem at_lt{α:Type}{l:List α}{i:Nat}{x:α}(hx:l[i]? =some x):i<l.length:=by
 rcases Nat.lt_or_ge i l.length with h|h
 ·exact h
 ·rw [List.getElem?_eq_none h] at hx;cases hx
structure KOk(V:List KV)(C:List Int):Prop where
 vl:V.length<=256
 cl:2<=C.length
 cu:C.length<=64
 var:V.all varOk=true
 ch:okCh 0 C=true
abbrev asAlt(p:PR):PR:=⟨if p.kind=16 then 14 else p.kind,p.c,p.v,p.item,p.to,p.e,p.gs,p.l⟩
structure Loc(V:List KV)(C:List Int)(p:PR):Prop where
 kind:kindB V C.length (asAlt p)=true
 wait:p.kind=16-> ∀g,g∈p.gs->waitsG g=true
 room:1+p.l.length+p.gs.length<=2048
 to: ∀t,t∈p.to->wfPl t/\smP t
 e: ∀x,x∈p.e->wfK x/\smK x
 gs: ∀g,g∈p.gs->(wfK g.cond/\smK g.cond)/\(wfK g.time/\smK g.time)/\(wfPl g.to/\smP g.to)
theorem kind_lens{V:List KV}{n:Nat}{p:PR}(h:kindB V n p=true):p.to.length<=8/\p.e.length<=8/\p.gs.length<=16/\p.l.length<=2048:=by
 have h0: ∀{ch v:Bool} {t1 t2 e1 e2 g1 g2 l1 l2:Int},shapeR p ch v t1 t2 e1 e2 g1 g2 l1 l2=true->t2<=8->e2<=8->g2<=16->l2<=2048->p.to.length<=8/\p.e.length<=8/\p.gs.length<=16/\p.l.length<=2048:=fun hs a b c d=>by
  simp only [shapeR,inB,Bool.and_eq_true,decide_eq_true_eq] at hs
  omega
 unfold kindB at h
 by_cases k0:p.kind=1\/p.kind=2
 ·rw [if_pos k0] at h;exact h0 h (by decide) (by decide) (by decide) (by decide)
 rw [if_neg k0] at h
 by_cases k1:p.kind=3
 ·rw [if_pos k1,Bool.and_eq_true,Bool.and_eq_true] at h;exact h0 h.1.1 (by decide) (by decide) (by decide) (by decide)
 rw [if_neg k1] at h
 by_cases k2:p.kind=4
 ·rw [if_pos k2,Bool.and_eq_true,Bool.and_eq_true] at h;exact h0 h.1.1 (by decide) (by decide) (by decide) (by decide)
 rw [if_neg k2] at h
 by_cases k3:p.kind=5
 ·rw [if_pos k3,Bool.and_eq_true] at h;exact h0 h.1 (by decide) (by decide) (by decide) (by decide)
 rw [if_neg k3] at h
 by_cases k4:p.kind=6
 ·rw [if_pos k4,Bool.and_eq_true,Bool.and_eq_true] at h;exact h0 h.1.1 (by decide) (by decide) (by decide) (by decide)
 rw [if_neg k4] at h
 by_cases k5:p.kind=7
 ·rw [if_pos k5,Bool.and_eq_true] at h;exact h0 h.1 (by decide) (by decide) (by decide) (by decide)
 rw [if_neg k5] at h
 by_cases k6:p.kind=8
 ·rw [if_pos k6,Bool.and_eq_true] at h;exact h0 h.1 (by decide) (by decide) (by decide) (by decide)
 rw [if_neg k6] at h
 by_cases k7:p.kind=9
 ·rw [if_pos k7] at h;exact h0 h (by decide) (by decide) (by decide) (by decide)
 rw [if_neg k7] at h
 by_cases k8:p.kind=10
 ·rw [if_pos k8] at h;exact h0 h (by decide) (by decide) (by decide) (by decide)
 rw [if_neg k8] at h
 by_cases k9:p.kind=11
 ·rw [if_pos k9] at h;exact h0 h (by decide) (by decide) (by decide) (by decide)
 rw [if_neg k9] at h
 by_cases k10:p.kind=12\/p.kind=14\/p.kind=15
 ·rw [if_pos k10,Bool.and_eq_true] at h;exact h0 h.1 (by decide) (by decide) (by decide) (by decide)
 rw [if_neg k10] at h
 by_cases k11:p.kind=13
 ·rw [if_pos k11,Bool.and_eq_true] at h;exact h0 h.1 (by decide) (by decide) (by decide) (by decide)
 rw [if_neg k11] at h
 cases h
section
variable{V:List KV}{C:List Int}
theorem Loc.lens{p:PR}(h:Loc V C p):p.to.length<=8/\p.e.length<=8/\p.gs.length<=16/\p.l.length<=2048:=kind_lens (p:=asAlt p) h.kind
theorem Loc.body{p:PR}(h:Loc V C p): ∀g,g∈p.gs-> ∃y,g.body=[y]:=(kind_bodies (p:=asAlt p) h.kind).2.2
theorem wfKl_of: ∀{l:List KE},(∀x,x∈l->wfK x)->wfKl l
 | [],_=>by rw [wfKl];trivial
 |y::r,h=>by rw [wfKl];exact ⟨h y (.head _),wfKl_of fun x hx=>h x (.tail _ hx)⟩
theorem okF_imp{I J:PR->Prop}(h: ∀p,I p->J p): ∀(m:Nat) (p:PR) (n hi:Bool),SizeOf.sizeOf p<=m->okF I n hi p->okF J n hi p
 |0,p,_,_,h,_=>by
  obtain ⟨k,c,v,i,to,e,gs,l⟩:=p
  simp only [PR.mk.sizeOf_spec] at h;omega
 |m+1,p,n,hi,hm,w=>by
  rw [okF_eq] at w⊢
  obtain ⟨⟨w1,w2,w3⟩,w4,w5⟩:=w
  have hl: ∀(l:List PR),(∀x,x∈l->SizeOf.sizeOf x<=m)-> ∀n0 n1 h0 h1,okFl I n0 n1 h0 h1 l->okFl J n0 n1 h0 h1 l:=by
   intro l
   induction l with
   |nil=>intro _ n0 n1 h0 h1 _;exact okFl_0
   |cons x r ih=>
    intro hx n0 n1 h0 h1 w
    rw [okFl] at w⊢
    exact ⟨okF_imp h m x n0 h0 (hx x (.head _)) w.1,ih (fun y hy=>hx y (.tail _ hy)) _ _ _ _ w.2⟩
  refine ⟨⟨h _ w1,w2,w3⟩,hl p.l (fun x hx=>by have:=pr_lt hx;omega) _ _ _ _ w4,okFs_of fun g hg=>?_⟩
  have:=okFs_mem w5 g hg
  rw [okFg_eq] at this⊢
  exact hl g.body (fun x hx=>by have:=gg_lt hg;have:=bd_lt hx;omega) _ _ _ _ this
theorem ok_kernel_n: ∀(m:Nat) (p:PR) (n hi:Bool),SizeOf.sizeOf p<=m->okR V C.length hi p=true->szR p<=2048->wfR p->smR p->okF (Loc V C) n hi p
 |0,p,_,_,h,_,_,_,_=>by
  obtain ⟨k,c,v,i,to,e,gs,l⟩:=p
  simp only [PR.mk.sizeOf_spec] at h;omega
 |m+1,p,n,hi,hm,hok,hsz,hwf,hsm=>by
  rw [okR_eq] at hok
  simp only [Bool.and_eq_true,Bool.not_eq_true'] at hok
  obtain ⟨⟨⟨o1,o2⟩,o3⟩,o4⟩:=hok
  have hw:=wfR_all hwf
  have hs:=smR_all hsm
  have hb:=kind_bodies o1
  have hse:=szR_eq p
  have hl: ∀(l:List PR),(∀x,x∈l->SizeOf.sizeOf x<=m/\wfR x/\smR x)->szL l<=2048-> ∀n0 n1 f,okL V C.length hi f l=true->okFl (Loc V C) n0 n1 (hi||f) hi l:=by
   intro l
   induction l with
   |nil=>intro _ _ n0 n1 f _;exact okFl_0
   |cons x r ih=>
    intro hx hz n0 n1 f w
    rw [okL,Bool.and_eq_true] at w
    rw [szL] at hz
    rw [okFl]
    have h1:=hx x (.head _)
    refine ⟨ok_kernel_n m x n0 (hi||f) h1.1 w.1 (by omega) h1.2.1 h1.2.2,?_⟩
    have:=ih (fun y hy=>hx y (.tail _ hy)) (by omega) n1 n1 false w.2
    rw [Bool.or_false] at this;exact this
  have hroom:1+p.l.length+p.gs.length<=2048:=by
   have h1: ∀l:List PR,l.length<=szL l:=by
    intro l
    induction l with
    |nil=>exact Nat.zero_le _
    |cons x r ih=>rw [szL,List.length_cons];have:=szR_pos x;omega
   have h2: ∀l:List GD,(∀g,g∈l-> ∃y,g.body=[y])->l.length<=szGs l:=by
    intro l
    induction l with
    |nil=>intro _;exact Nat.zero_le _
    |cons x r ih=>
     intro hb
     obtain ⟨y,hy⟩:=hb x (.head _)
     have:=ih fun g hg=>hb g (.tail _ hg)
     have:=szR_pos y
     rw [szGs,List.length_cons,szG_eq,hy,szL,szL];omega
   have:=h1 p.l
   have:=h2 p.gs hb.2.2
   omega
  rw [okF_eq]
  refine ⟨⟨⟨?_,fun h=>by omega,hroom,fun t ht=>⟨hw.to t ht,hs.to t ht⟩,fun x hx=>⟨hw.e x hx,hs.e x hx⟩,fun g hg=>?_⟩,fun h=>by omega,fun h=>?_⟩,hl p.l (fun x hx=>⟨by have:=pr_lt hx;omega,hw.l x hx,hs.l x hx⟩) (by omega) _ _ _ o3,okFs_of fun g hg=>?_⟩
  ·unfold asAlt
   rw [if_neg (by omega)]
   obtain ⟨k,c,v,i,to,e,gs,l⟩:=p
   exact o1
  ·have h1:=wfG_all (hw.g g hg)
   have h2:=smG_all (hs.g g hg)
   exact ⟨⟨h1.cond,h2.cond⟩,⟨h1.time,h2.time⟩,h1.to,h2.to⟩
  ·rw [h] at o2
   revert o2
   cases hi<;>simp
  ·rw [okFg_eq]
   have h1:=wfG_all (hw.g g hg)
   have h2:=smG_all (hs.g g hg)
   have h3: ∀(l:List GD),okGs V C.length hi l=true-> ∀g,g∈l->okG V C.length hi g=true:=by
    intro l
    induction l with
    |nil=>intro _ g hg;cases hg
    |cons x r ih=>
     intro h g hg
     rw [okGs,Bool.and_eq_true] at h
     rcases List.mem_cons.1 hg with rfl|hg
     ·exact h.1
     ·exact ih h.2 g hg
   have h4:=h3 p.gs o4 g hg
   rw [okG_eq] at h4
   have h5:=hl g.body (fun x hx=>⟨by have:=gg_lt hg;have:=bd_lt hx;omega,h1.body x hx,h2.body x hx⟩) (by have:=szGs_le hg;rw [szG_eq] at this;omega) false false false h4
   rw [Bool.or_false] at h5;exact h5
theorem ok_kernel{p:PR}{n hi:Bool}(hok:okR V C.length hi p=true)(hsz:szR p<=2048)(hwf:wfR p)(hsm:smR p):okF (Loc V C) n hi p:=ok_kernel_n _ p n hi (Nat.le_refl _) hok hsz hwf hsm
end
abbrev s0:List (List Int):=[[7],[1,2,3]]
theorem sl_rows(hs:List (Value×List Int)):slL 1 (rowsH hs)=(hs.map Prod.snd).map rowA:=by simp [slL,rowsH]
abbrev s1:List (List Int):=[[5,6,7]]
abbrev v0:List KV:=[⟨1,0⟩,⟨3,3⟩]
theorem rows_pure{f:FuncId}{a:List AV}{n:Nat}{s:List (List Int)}(hf:FunE Tryz.prog gs0 f a [] (fun p:Value×List (Value×List Int)=> .ms p.1 1 n) (fun p=>[.rows 1 (rowsH p.2), .row 1 p.1 (msL 1 (rowsH p.2))]) (fun p=>p.2.map Prod.snd=s)):
 Pure Tryz.prog gs0 f a (rowsA s):=
 Fun.rows (Fun.mono hf fun x Λ' ⟨p,h1,h2,h3⟩=>⟨p.1,rowsH p.2,n,h1,h2,by rw [sl_rows,h3]⟩)
def storeS(l:List KV):List (List Int):=if soundsB l then storeM l else []
theorem Put_p(s:List (List Int))(v i x:Int)(h1:s.length<=1073741824)(h2: ∀r,r∈s->r.length<=35184372088832):Pure Tryz.prog gs0 47 [rowsA s,AI v,AI i,AI32 x] (rowsA (putM s v i x)):=
 rows_pure (put_p s v i x h1 h2)
theorem store_noN(l:List KV)(ch:List Int)(q:PR)(pr:List Int)(hb:l.length<=281474976710656)(hs:soundsB l=false):Pure Tryz.prog gs0 88 [encN ⟨l,ch,q,pr⟩] nilV:=by
 have hp:=sounds_p l hb
 rw [hs] at hp
 refine p_ tt_ok Tryz.func88 31 fun w0 h0 F hgs=>?_
 (refine b_ fun bx=>?_;refine y_ ?_);exact cr_ (hp)
theorem store_pN(l:List KV)(ch:List Int)(q:PR)(pr:List Int)(hs:soundsB l=true):
 FunE Tryz.prog gs0 88 [encN ⟨l,ch,q,pr⟩] [] (fun p:Value×List (Value×List Int)=> .ms p.1 1 l.length) (fun p=>[.rows 1 (rowsH p.2), .row 1 p.1 (msL 1 (rowsH p.2))]) (fun p=>p.2.map Prod.snd=storeM l):=by
 have hs0:=hs
 unfold soundsB at hs0
 simp at hs0
 have hp:=sounds_p l (by omega)
 rw [hs] at hp
 have hl:((l.map encV).length:Int)=l.length:=by rw [List.length_map]
 unfold FunE
 refine Fun.of (S:=tt) (fn:=Tryz.f88) (n:=31) tt_ok Tryz.func88 rfl rfl rfl rfl fun w0 h0 F hgs=>?_
 (refine b_ fun bx=>?_;refine y_ ?_);refine c_ (hp) ?_
 refine A.valE 12 rfl (x':=AI (l.length:Nat)) (ai_eq hl) ?_
 refine A.make rfl rfl rfl rfl rfl rfl rfl rfl rfl rfl rfl rfl (by omega) ?_ (by omega) fun zo=>?_
 ·show ((24:Nat):Int)*_<=_
  omega
 refine y_ ?_
 refine A.valE 3 rfl (x':= .ms zo 1 l.length) (by rw [Int.toNat_natCast];rfl) ?_
 refine A.valE 16 rfl (x':=AI (l.length:Nat)) (ai_eq hl) ?_
 refine A.keep [3,15,16,17] rfl ?_
 refine l_ (Λ':=[.row 1 zo (List.replicate (l.length:Int).toNat nilV)]) ?_
 refine A.entsEq (Λ':=[.row 1 zo (List.replicate l.length nilV)]) (by rw [Int.toNat_natCast]) ?_
 refine A.rows0 1 ?_
 refine A.loopP (ι:=List (Value×List Int)) (fun hs=>(⟨[(3, .ms zo 1 l.length),(15,varsA l),(16,AI (l.length:Nat)),(17,AI (hs.length:Nat))],[]⟩,[.rows 1 (rowsH hs), .row 1 zo (msL 1 (rowsH hs)++List.replicate (l.length-hs.length) nilV)]))
  (fun hs=>hs.map Prod.snd=(storeM l).take hs.length/\hs.length<=l.length) (fun hs=>l.length-hs.length) [] ⟨rfl,Nat.zero_le _⟩ rfl fun hs hi ih=>?_
 refine y_ ?_
 refine k_ (fun hc=>?_) fun hc=>?_
 ·simp at hc
  refine Exists.elim (at_exN (l:=l) (i:=hs.length) hc) fun v hv=>?_
  have hvm:=hs0.2 v (List.mem_of_getElem? hv)
  simp [soundB] at hvm
  have hlo:1<=longI v/\longI v<=64:=by unfold longI;split<;>omega
  refine y_ ?_
  refine j_ rfl (map_at hv) rfl ?_
  (refine b_ fun bx=>?_;refine y_ ?_)
  refine A.valE 26 rfl (x':=AI (longI v)) (ai_eq (by unfold longI;split<;>split<;>omega)) ?_
  refine A.make rfl rfl rfl rfl rfl rfl rfl rfl rfl rfl rfl rfl (by omega) ?_ (by omega) fun z=>?_
  ·show ((4:Nat):Int)*_<=_
   omega
  refine A.indexRow rfl rfl rfl rfl rfl rfl rfl rfl (by omega) (by rw [List.length_append,rowsH_len,List.length_replicate];omega) rfl ?_
  have hrl:(List.replicate (longI v).toNat (0:Int)).length=(longI v).toNat:=List.length_replicate
  refine A.valE 27 rfl (x':= .ms z 1 (List.replicate (longI v).toNat (0:Int)).length) (by rw [hrl];rfl) ?_
  refine l_ (Λ':=[.row 1 z (List.replicate (longI v).toNat (AI32 0)), .rows 1 (rowsH hs), .row 1 zo (msL 1 (rowsH hs)++List.replicate (l.length-hs.length) nilV)]) ?_
  refine A.entsEq (Λ':=[.row 1 z ((List.replicate (longI v).toNat (0:Int)).map AI32), .rows 1 (rowsH hs), .row 1 zo (msL 1 (rowsH hs)++List.replicate (l.length-hs.length) nilV)]) (by rw [List.map_replicate]) ?_
  refine A.storeRow rfl rfl rfl rfl rfl rfl rfl rfl rfl ?_ (xs':=msL 1 (rowsH (hs++[(z,List.replicate (longI v).toNat 0)]))++List.replicate (l.length-(hs++[(z,List.replicate (longI v).toNat (0:Int))]).length) nilV) ?_ ?_
  ·rw [List.length_append,rowsH_len,List.length_replicate];omega
  ·have:=out_set hs z (List.replicate (longI v).toNat 0) (l.length-(hs++[(z,List.replicate (longI v).toNat (0:Int))]).length)
   rw [show l.length-hs.length=l.length-(hs++[(z,List.replicate (longI v).toNat (0:Int))]).length+1 by simp;omega]
   exact this
  refine A.rowsIn (.refl _) ?_
  refine y_ ?_
  refine A.valE 17 rfl (x':=AI (((hs++[(z,List.replicate (longI v).toNat (0:Int))]).length:Nat):Int)) ?_ ?_
  ·rw [inc_eq hs.length (by omega)];simp
  refine A.entsEq (Λ':=[.rows 1 (rowsH (hs++[(z,List.replicate (longI v).toNat (0:Int))])), .row 1 zo (msL 1 (rowsH (hs++[(z,List.replicate (longI v).toNat (0:Int))]))++List.replicate (l.length-(hs++[(z,List.replicate (longI v).toNat (0:Int))]).length) nilV)]) (by simp [rowsH]) ?_
  refine u_ (ih (hs++[(z,List.replicate (longI v).toNat 0)]) ⟨?_,by simp;omega⟩ (by simp;omega))
  simp [hi.1,storeM,List.take_add_one,hv]
 ·simp at hc
  have hlen:hs.length=l.length:=by omega
  have hsnd:hs.map Prod.snd=storeM l:=by rw [hi.1,hlen];exact List.take_of_length_le (by rw [storeM,List.length_map];exact Nat.le_refl _)
  refine A.entsEq (Λ':=[.rows 1 (rowsH hs), .row 1 zo (msL 1 (rowsH hs))]) (by rw [hlen,Nat.sub_self];simp) ?_
  refine y_ ?_
  refine A.ret1 (Λ':=[.rows 1 (rowsH hs), .row 1 zo (msL 1 (rowsH hs))]) rfl rfl rfl sl_ ⟨(zo,hs), .refl,rfl,hsnd⟩
theorem storeS_pN(l:List KV)(ch:List Int)(q:PR)(pr:List Int)(hb:l.length<=281474976710656):Pure Tryz.prog gs0 88 [encN ⟨l,ch,q,pr⟩] (rowsA (storeS l)):=by
 cases h:soundsB l with
 |true=>rw [storeS,h,if_pos rfl];exact rows_pure (store_pN l ch q pr h)
 |false=>
  have:=store_noN l ch q pr hb h
  rw [storeS,h]
  exact fun w0 h vs L F g r q=>(this w0 h vs L F g r q).mono fun _ _ _ ⟨x,Λ',L1,⟨e1,e1'⟩,e2,e3⟩=>⟨rowsA [],Λ',L1,⟨rfl,e1'⟩,by subst e1;exact Sb.nil.rp e2,e3⟩
section
variable{V:List KV}{C:List Int}
theorem smGl_of: ∀{l:List GD},(∀g,g∈l->smG g)->smGl l
 | [],_=>by rw [smGl];trivial
 |y::r,h=>by rw [smGl];exact ⟨h y (.head _),smGl_of fun x hx=>h x (.tail _ hx)⟩
theorem wfGl_of: ∀{l:List GD},(∀g,g∈l->wfG g)->wfGl l
 | [],_=>by rw [wfGl];trivial
 |y::r,h=>by rw [wfGl];exact ⟨h y (.head _),wfGl_of fun x hx=>h x (.tail _ hx)⟩
theorem wfRl_of: ∀{l:List PR},(∀x,x∈l->wfR x)->wfRl l
 | [],_=>by rw [wfRl];trivial
 |y::r,h=>by rw [wfRl];exact ⟨h y (.head _),wfRl_of fun x hx=>h x (.tail _ hx)⟩
theorem tgRl_of: ∀{l:List PR},(∀x,x∈l->tgR x)->tgRl l
 | [],_=>by rw [tgRl];trivial
 |y::r,h=>by rw [tgRl];exact ⟨h y (.head _),tgRl_of fun x hx=>h x (.tail _ hx)⟩
theorem okF_sm_n: ∀(m:Nat) (p:PR) (n hi:Bool),SizeOf.sizeOf p<=m->okF (Loc V C) n hi p->wfR p/\smR p/\tgR p
 |0,p,_,_,h,_=>by
  obtain ⟨k,c,v,i,to,e,gs,l⟩:=p
  simp only [PR.mk.sizeOf_spec] at h;omega
 |m+1,p,n,hi,hm,w=>by
  rw [okF_eq] at w
  obtain ⟨⟨w1,w2,w3⟩,w4,w5⟩:=w
  obtain ⟨l1,l2,l3,l4⟩:=w1.lens
  have hb:=w1.body
  have hL: ∀x,x∈p.l->wfR x/\smR x/\tgR x:=fun x hx=>by
   obtain ⟨a,b,hw⟩:=okFl_some w4 hx
   exact okF_sm_n m x a b (by have:=pr_lt hx;omega) hw
  have hG: ∀g,g∈p.gs-> ∀x,x∈g.body->wfR x/\smR x/\tgR x:=fun g hg x hx=>by
   have h1:=okFs_mem w5 g hg
   rw [okFg_eq] at h1
   obtain ⟨a,b,hw⟩:=okFl_some h1 hx
   exact okF_sm_n m x a b (by have:=gg_lt hg;have:=bd_lt hx;omega) hw
  have hgl: ∀g,g∈p.gs->g.body.length=1:=fun g hg=>by obtain ⟨y,hy⟩:=hb g hg;rw [hy];rfl
  have hto:=w1.to
  have he:=w1.e
  have hgs:=w1.gs
  obtain ⟨k,c,v,i,to,e,gs,l⟩:=p
  have l1:to.length<=8:=l1
  have l2:e.length<=8:=l2
  have l3:gs.length<=16:=l3
  have l4:l.length<=2048:=l4
  rw [wfR,smR,tgR]
  refine ⟨⟨⟨fun t ht=>(hto t ht).1,wfKl_of fun x hx=>(he x hx).1,by omega,by omega,by omega⟩,wfGl_of fun g hg=>?_,wfRl_of fun x hx=>(hL x hx).1⟩,
   ⟨⟨fun t ht=>(hto t ht).2,fun x hx=>(he x hx).2,by omega,by omega,by omega,by omega⟩,smGl_of fun g hg=>?_,smRl_of fun x hx=>(hL x hx).2.1⟩,by omega,tgRl_of fun x hx=>(hL x hx).2.2⟩
  ·have h1:=hgs g hg
   have h2:=hG g hg
   obtain ⟨k',e',c',i',to',t',b'⟩:=g
   rw [wfG]
   exact ⟨⟨h1.1.1,h1.2.1.1,h1.2.2.1⟩,wfRl_of fun x hx=>(h2 x hx).1⟩
  ·have h1:=hgs g hg
   have h2:=hG g hg
   have h3:=hgl g hg
   obtain ⟨k',e',c',i',to',t',b'⟩:=g
   have h3:b'.length=1:=h3
   rw [smG]
   exact ⟨⟨h1.1.2,h1.2.1.2,h1.2.2.2,by omega⟩,smRl_of fun x hx=>(h2 x hx).2.1⟩
theorem okF_sm{p:PR}{n hi:Bool}(w:okF (Loc V C) n hi p):wfR p/\smR p/\tgR p:=okF_sm_n _ p n hi (Nat.le_refl _) w
end
structure ST where
 store:List (List Int)
 root:PR
 inn:List Int
 time:Int
theorem may_kok{k:KN}(h:mayK k=true):KOk k.vars k.chans:=by
 unfold mayK lensK at h
 simp only [Bool.and_eq_true,decide_eq_true_eq] at h
 obtain ⟨⟨⟨⟨⟨⟨⟨a,b⟩,c⟩,_⟩,_⟩,d⟩,e⟩,_⟩:=h
 exact ⟨a,b,c,d,e⟩
theorem may_fits{k:KN}(h:mayK k=true):fitsR k.vars k.chans.length false k.root 2048 32:=by
 unfold mayK at h
 simp only [Bool.and_eq_true,decide_eq_true_eq] at h
 exact h.2
theorem KOk.sounds{V:List KV}{C:List Int}(h:KOk V C):soundsB V=true:=by
 unfold soundsB
 have h1:=h.var
 have h2:=h.vl
 rw [List.all_eq_true] at h1
 simp only [Bool.and_eq_true,decide_eq_true_eq,Bool.not_eq_true',List.any_eq_false]
 refine ⟨h2,fun v hv=>?_⟩
 have:=h1 v hv
 simp only [varOk,primB,Bool.and_eq_true,decide_eq_true_eq] at this
 have h3:soundB v=true:=by
  simp only [soundB,Bool.and_eq_true,Bool.or_eq_true,beq_iff_eq,decide_eq_true_eq]
  omega
 rw [h3];decide
theorem mayB_short{l:List KV}{s:List (List Int)}(h:mayB l s=true):s.length<=256/\ ∀r,r∈s->r.length<=64:=by
 unfold mayB soundsB at h
 simp only [Bool.and_eq_true,decide_eq_true_eq,Bool.not_eq_true',List.any_eq_false] at h
 obtain ⟨⟨h1,h2,h3⟩,h4⟩:=h
 refine ⟨by omega,fun r hr=>?_⟩
 obtain ⟨i,hi,rfl⟩:=List.getElem_of_mem hr
 have hi':i<l.length:=by omega
 have h5:=(List.all_eq_true.1 h4) i (List.mem_range.2 hi')
 rw [List.getElem?_eq_getElem hi',List.getElem?_eq_getElem hi] at h5
 have h6:soundB l[i]=true:=by have:=h3 l[i] (List.getElem_mem hi');simpa using this
 simp only [soundB,mayRow,longI,Bool.and_eq_true,decide_eq_true_eq,beq_iff_eq] at h5 h6
 have h7:=h5.1
 split at h7<;>omega
def clearM(st:List (List Int))(v:Int)(n:Nat):List (List Int):=(List.range n).foldl (fun st i=>putM st v (i:Nat) 0) st
def Small(st:List (List Int)):Prop:=st.length<=256/\ ∀r,r∈st->r.length<=64
theorem Small.put_p{st:List (List Int)}(h:Small st)(v i x:Int):Pure Tryz.prog gs0 47 [rowsA st,AI v,AI i,AI32 x] (rowsA (putM st v i x)):=Put_p st v i x (by have:=h.1;omega) fun r hr=>by have:=h.2 r hr;omega
section
variable{V:List KV}{C:List Int}
end
theorem clearM_succ(st:List (List Int))(v:Int)(n:Nat):clearM st v (n+1)=putM (clearM st v n) v (n:Nat) 0:=by
 unfold clearM
 rw [List.range_succ,List.foldl_append];rfl
section
variable{K:AC}{k:List It}{E:AEnv}{Λ:List AEnt}
theorem A.rangeIterN{x:Operand}{ps:Array Tmp}{assign body:Code}{g:FuncId}{cap cap':List AV}{xss:List (List AV)}(hx:E.ev K.gs [] x=some (.fn g [] cap'))(hs:SbL cap' cap)(it:Iter K.P K.S K.ok K.gs g cap xss)(hrd:K.rd=none)
 (hb:allBelow K.n ps.toList=true) (hlen: ∀xs,xs∈xss->Nat.beq (lenN xs) ps.toList.length=true) (Inv:Nat->List AEnt->Prop) (Stop:LoopState->Option Code->List AEnt->Prop) (h0:Inv 0 Λ)
 (rounds: ∀(h0':GH) (lp:Nat) (LR:Loop),K.h0.le h0'-> ∀i xs Λi (h1:GH) (hg1:GsOk h1 K.gs) (F:List Ent),xss[i]? =some xs->Inv i Λi->h0'.le h1->
   A ⟨K.P,K.S,K.w0,K.f,K.fn,K.n,K.ok,K.hfn,h1,F,K.gs,hg1,fun y Λ'=>
       (y= .v (.bool true)/\ ∃Λ'',Λ'= .loop lp LR .ready none::Λ''/\Inv (i+1) Λ'')\/(y= .v (.bool false)/\ ∃st pd Λ'',st≠ .busy/\Λ'= .loop lp LR st pd::Λ''/\Stop st pd Λ''),[],some lp⟩
     [.code assign, .begin, .code body] ⟨setsA ps.toList xs E.us,[]⟩ (.loop lp LR .ready none::Λi))
 (fin: ∀(h1:GH) (hg1:GsOk h1 K.gs) (r:Nat) Λ',K.h0.le h1->Inv xss.length Λ'->A ⟨K.P,K.S,K.w0,K.f,K.fn,K.n,K.ok,K.hfn,h1,K.F,K.gs,hg1,K.Q,r::K.D,none⟩ k E Λ')
 (stop: ∀(h1:GH) (hg1:GsOk h1 K.gs) (r:Nat) st pd Λ',K.h0.le h1->st≠ .busy->Stop st pd Λ'->A ⟨K.P,K.S,K.w0,K.f,K.fn,K.n,K.ok,K.hfn,h1,K.F,K.gs,hg1,K.Q,r::K.D,none⟩ (jumpIts pd++k) E Λ'):
 A K (.code (.rangeFunc x ps assign body)::k) E Λ:=
 A.rangeIter hx hs it hrd hb hlen Inv Stop h0 (fun h0' lp tm hl i xs Λi h1 hg1 F hxs hi hl1=>rounds h0' lp _ hl i xs Λi h1 hg1 F hxs hi hl1) fin stop
end
end Go.Proofs.YtkbolbpojpmicaaGreat
