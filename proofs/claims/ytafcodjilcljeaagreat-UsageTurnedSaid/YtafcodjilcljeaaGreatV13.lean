/-
  Texts Q21ak Q21al. Conditions: as each theorem says.
-/
import Derived.Test.YtafcodjilcljeaaGreatV3
import Derived.Test.YtafcodjilcljeaaGreatV11
set_option linter.unusedVariables false
set_option linter.unusedSimpArgs false
set_option maxRecDepth 100000
set_option maxHeartbeats 4000000
namespace Go.Proofs.YtafcodjilcljeaaGreat
open Go Go.Tp Go.RowKit
theorem A.loadRowF{K:AC}{k:List It}{E:AEnv}{Λ:List AEnt}{all:Array Oper}{o:Oper}{l:List Oper}{ks:List (Nat×Bool)}{t:TypeId}{p:Operand}{b sz off:Nat}(i k0:Nat){xs:List AV}{ti:TI}{x y:AV}{E':AEnv}
 (hg:gyesA E all o.guard=some ks) (ho:o.op= .load t p) (hp:E.ev K.gs ks p=some (.v (.pointer (some ⟨b,off,none⟩)))) (ht:K.S.get t=some ti) (hag:ti.agg=false) (n c o0:Nat) [j:ARow Λ (.slice (some ⟨b,o0,none⟩) n c) sz xs] (hoff:off=o0+i*sz+k0)
 (hx:xs[i]? =some x) (hld:ldA ti x k0=some y) (hput:E.put K.n none o.dst y=some E') (next:A K (.ops all l::k) E' Λ):A K (.ops all (o::l)::k) E Λ:=by
 subst hoff
 refine ⟨fun h e L hl r q=>?_⟩
 obtain ⟨v1,e1,f1⟩:=r.ev (K.hgs.mono hl) _ hp
 rw [Rp_v] at f1;rw [f1.1] at e1
 obtain ⟨M,m1,pp,⟨a,cap',zs,g1,g2,g3,g4,g5⟩,rfl⟩:=q.mem j.mem
 injection g1 with g1 g1' g1''
 subst g1;subst g1';subst g1''
 have hi:i<xs.length:=by
  rcases Nat.lt_or_ge i xs.length with h|h
  ·exact h
  ·rw [List.getElem?_eq_none h] at hx;cases hx
 rcases g5 with ⟨g5,_⟩|⟨b',off',sp,g6,rfl,g9⟩
 ·subst g5;simp at hi
 ·injection g6 with g6;injection g6 with g6 g7;subst g6;subst g7
  obtain ⟨z0,hz0,hr0⟩:=g3.rp.at hx
  obtain ⟨v,s1,s2⟩:=ldA_rp (b:=b) hr0 hld
  have hzl:zs.length=xs.length:=g3.rp.len
  have hzs:zs=zs.take i++z0::zs.drop (i+1):=by
   have:=List.take_append_drop i zs
   rw [List.drop_eq_getElem_cons (by omega)] at this
   rw [List.getElem?_eq_getElem (by omega)] at hz0
   injection hz0 with hz0
   rw [hz0] at this
   exact this.symm
  have hA:(catL (zs.take i)).length=i*sz:=by
   rw [(g3.takeN i).clen,List.length_take,Nat.min_eq_left (by omega)]
  have e4:catL zs++sp=catL (zs.take i)++(cellsL z0++(catL (zs.drop (i+1))++sp)):=by
   conv=>lhs;rw [hzs]
   rw [catL_app,List.append_assoc]
   congr 1
   show (cellsL z0++catL (zs.drop (i+1)))++sp=_
   rw [List.append_assoc]
  have h0:Nat.ble 0 k0=true:=by cases k0<;>rfl
  have hle:Nat.ble o0 (o0+i*sz+k0)=true:=Nat.ble_eq_true_of_le (by omega)
  have s1:nthL (cellsL z0) k0=some v:=by
   simp only [ldV,h0,Nat.sub_zero,partv,hag] at s1
   exact s1
  have hv:ldV ti ⟨b,o0,catL zs++sp,none⟩ (o0+i*sz+k0)=some v:=by
   simp only [ldV,hle,partv,hag,show o0+i*sz+k0-o0=i*sz+k0 by omega,e4]
   rw [nthL_eq] at s1⊢
   have hk:k0<(cellsL z0).length:=(List.getElem?_eq_some_iff.1 s1).1
   rw [List.getElem?_append_right (by omega),hA,show i*sz+k0-i*sz=k0 by omega,List.getElem?_append_left hk]
   exact s1
  obtain ⟨e',e5,e6⟩:=putA_eq r hput s2
  exact V.loadY (C:=K.cfg) (gyesA_eq r hg) ho e1 ht (i:=⟨List.mem_append_left _ (m1 _ (List.mem_singleton.2 rfl)),rfl⟩) hv e5 (next.run h e' L hl e6 q)
theorem collectO_p(g:FuncId)(cap:List AV)(cs:List CL)(it:IterCl g cap cs)(hl:cs.length≤150000000000):FunE Tryz.prog gs0 46 [.fn g [] cap] [] (fun z:Value=> .ms z 7 cs.length) (fun z=>[.row 7 z (cs.map encC)]) (fun _=>True):=by
 have h:=appSeq_p g cap cs it hl
 unfold FunE
 refine Fun.of (S:=tt) (fn:=Tryz.f46) (n:=5) tt_ok Tryz.func46 rfl rfl rfl rfl fun w0 h0 F hgs=>?_
 refine y_ ?_
 refine A.e rfl h .refl (List.Perm.refl _) fun z _=>?_
 refine y_ ?_
 refine A.ret1 (Λ':=[.row 7 _ _]) rfl rfl rfl sl_ ⟨z, .refl,rfl,trivial⟩
theorem uAllO_p(k:KN)(hk:WfN k)(c:mayK k=true):FunE Tryz.prog gs0 14 [encN k] [] (fun z:Value=> .tp [.ms z 7 (allM k).length,AI 0]) (fun z=>[.row 7 z ((allM k).map encC)]) (fun _=>True):=by
 have h1:=kmay_p k hk
 have hl:=all_len hk
 have h3:=clash_p k
 rw [c] at h1
 have h2:=collectO_p _ _ _ (iterCl_p k hk c) hl
 unfold FunE
 refine Fun.of (S:=tt) (fn:=Tryz.f14) (n:=10) tt_ok Tryz.func14 rfl rfl rfl rfl fun w0 h0 F hgs=>?_
 (refine b_ fun bx=>?_;refine y_ ?_)
 refine c_ h1 ?_
 refine n_ h3 ?_
 refine A.e rfl h2 s_ (List.Perm.refl _) fun z _=>?_
 refine y_ ?_
 refine A.retN (Λ':=[.row 7 z _]) rfl rfl (ResA.tmp rfl (ResA.tmp rfl ResA.nil)) sl_ ⟨z,s_,rfl,trivial⟩
theorem own_take{l:List CL}{i:Nat}{x:CL}(h:l[i]? =some x):ownC (l.take (i+1))=if x.path=[] then ownC (l.take i)++[x] else ownC (l.take i):=by
 unfold ownC
 rw [take_at h,List.filter_append]
 by_cases hp:x.path=[]
 ·rw [if_pos hp,List.filter_cons,if_pos (by rw [hp];rfl)];rfl
 ·rw [if_neg hp,List.filter_cons,if_neg (by simpa using hp)];simp
theorem ownC_p(l:List CL)(hl:l.length≤150000000000):Pure Tryz.prog gs0 25 [csA l] (csA (ownC l)):=by
 have n1:((l.map encC).length:Int)=l.length:=by rw [List.length_map]
 refine p_ tt_ok Tryz.func25 22 fun w0 h0 F hgs=>?_
 refine y_ ?_
 refine A.emptyRow 3 7 rfl fun z0=>?_
 refine A.valE 7 rfl (x':=AI (l.length:Nat)) (ai_eq n1) ?_
 refine A.keep [3,6,7,8] rfl ?_
 refine A.loopP (ι:=Nat×Value) (fun s=>(⟨[(3, .ms s.2 7 (ownC (l.take s.1)).length),(6,csA l),(7,AI (l.length:Nat)),(8,AI (s.1:Nat))],[]⟩,[.row 7 s.2 ((ownC (l.take s.1)).map encC)])) (fun s=>s.1≤l.length) (fun s=>l.length-s.1) (0,z0) (Nat.zero_le _) rfl fun s hs ih=>?_
 obtain ⟨i,z⟩:=s
 simp only at hs ih⊢
 refine y_ ?_
 refine k_ (fun hc=>?_) fun hc=>?_
 ·have hci:i<l.length:=Int.ofNat_lt.1 (of_decide_eq_true hc)
  clear hc
  refine Exists.elim (at_exN (l:=l) (i:=i) hci) fun x hx=>?_
  have hxa:(l.map encC)[i]? =some (encC x):=by rw [List.getElem?_map,hx];rfl
  have hot:=own_take hx
  have e3:(ownC (l.take i)).length≤150000000000:=Nat.le_trans (List.length_filter_le _ _) (by rw [List.length_take];omega)
  refine y_ ?_
  refine i_ rfl hxa rfl ?_
  refine A.b rfl fun b5=>?_
  refine y_ ?_
  by_cases hp0:x.path=[]
  ·rw [if_pos hp0] at hot
   have e1:(ownC (l.take (i+1))).length=((ownC (l.take i)).map encC).length+1:=by rw [hot,List.length_append,List.length_map];rfl
   have e2:(ownC (l.take (i+1))).map encC=(ownC (l.take i)).map encC++[encC x]:=by rw [hot,List.map_append];rfl
   refine A.valE 15 rfl (x':=AB true) (ab_eq (by rw [hp0];rfl)) ?_
   refine t_ fun bl=>?_
   refine A.appendRowE rfl rfl rfl rfl rfl rfl rfl rfl rfl rfl rfl rfl rfl rfl (by show (((ownC (l.take i)).map encC).length+1)*7≤_;rw [List.length_map];omega) (by show (((ownC (l.take i)).map encC).length+1)*7*72≤_;rw [List.length_map];omega) fun z2=>?_
   refine y_ ?_
   refine l_ (Λ':=[.row 7 z2 _]) ?_
   refine A.valE 3 rfl (x':= .ms z2 7 (ownC (l.take (i+1))).length) (by rw [e1];rfl) ?_
   refine A.entsEq (Λ':=[.row 7 z2 ((ownC (l.take (i+1))).map encC)]) (by rw [e2];rfl) ?_
   refine A.valE 8 rfl (x':=AI ((i+1:Nat):Int)) (inc_eq i (by omega)) ?_
   refine u_ (ih (i+1,z2) (by show i+1≤_;omega) (by show l.length-(i+1)<l.length-i;omega))
  ·rw [if_neg hp0] at hot
   have hpl:x.path.length≠0:=fun h=>hp0 (List.length_eq_zero_iff.1 h)
   refine e_ 15 rfl (x':=AB false) (ab_eq (by rw [List.length_map];simp;omega)) ?_
   refine l_ (Λ':=[.row 7 z _]) ?_
   refine A.valE 3 rfl (x':= .ms z 7 (ownC (l.take (i+1))).length) (by rw [hot]) ?_
   refine A.entsEq (Λ':=[.row 7 z ((ownC (l.take (i+1))).map encC)]) (by rw [hot]) ?_
   refine A.valE 8 rfl (x':=AI ((i+1:Nat):Int)) (inc_eq i (by omega)) ?_
   refine u_ (ih (i+1,z) (by show i+1≤_;omega) (by show l.length-(i+1)<l.length-i;omega))
 ·have hil:i=l.length:=by
   have: ¬((i:Int)<(l.length:Nat)):=of_decide_eq_false hc
   omega
  clear hc ih hs
  refine A.valE 3 rfl (x':= .ms z 7 (ownC l).length) (by rw [hil,List.take_length]) ?_
  refine A.entsEq (Λ':=[.row 7 z ((ownC l).map encC)]) (by rw [hil,List.take_length]) ?_
  clear hil
  refine y_ ?_
  refine A.freezeRow 2 rfl ?_
  exact r_
end Go.Proofs.YtafcodjilcljeaaGreat
namespace Go.Proofs.YtafcodjilcljeaaGreat
open Go Go.Tp
abbrev seqR(p:PR):PR:=⟨9,0,0,0,[],[],[],[p]⟩
def rowX(l:List CL)(i:Nat):List AV:=(l.take i).map encC++(l.drop i).map fun c=>encC (preP [0] c)
theorem rowX_0(l:List CL):rowX l 0=(l.map (preP [0])).map encC:=by simp [rowX,List.map_map,Function.comp_def]
theorem rowX_all(l:List CL):rowX l l.length=l.map encC:=by simp [rowX]
theorem rowX_len(l:List CL){i:Nat}(h:i≤l.length):(rowX l i).length=l.length:=by simp [rowX];omega
theorem rowX_at{l:List CL}{i:Nat}{x:CL}(h:l[i]? =some x):(rowX l i)[i]? =some (encC (preP [0] x)):=by
 have hi:=(List.getElem?_eq_some_iff.1 h).1
 unfold rowX
 rw [List.getElem?_append_right (by rw [List.length_map,List.length_take];omega),List.length_map,List.length_take,Nat.min_eq_left (by omega),Nat.sub_self,List.getElem?_map,List.getElem?_drop,Nat.add_zero,h]
 rfl
theorem rowX_set{l:List CL}{i:Nat}{x:CL}(h:l[i]? =some x):(rowX l i).set i (encC x)=rowX l (i+1):=by
 have hi:=(List.getElem?_eq_some_iff.1 h).1
 have hd:l.drop i=x::l.drop (i+1):=by rw [List.drop_eq_getElem_cons hi,(List.getElem?_eq_some_iff.1 h).2]
 unfold rowX
 rw [List.set_append_right _ _ (by rw [List.length_map,List.length_take];omega),List.length_map,List.length_take,Nat.min_eq_left (by omega),Nat.sub_self,hd,List.map_cons,List.set_cons_zero,take_at h,List.map_append,List.append_assoc]
 rfl
theorem enc_one(p:PR):rsA [p]= .sl 8 [cellsR p] none:=by rw [←encR_eq p];rfl
theorem turned_law(k:KN)(p q:PR)(hk:WfN k)(hp:wfR p)(hq:wfR q):Pure Tryz.prog gs0 7 [encN k,cellsR p,cellsR q] (AB true):=by
 have ha:=awake21
 have hm1:=lmany_p 10 [p,q]
 have hm2:=lmany_p 10 [q,p]
 have hm3:=lmany_p 9 [two p q]
 have w1:=two_wf hk hp hq
 have w2:=two_wf hk hq hp
 have w3:WfN (subN k (seqR (two p q))):=sub_wf hk (wf_many (fun x hx=>by rw [List.mem_singleton.1 hx];exact w1.root) (by simp))
 have h1:=uAll_p _ w1
 have h2:=uAll_p _ w2
 have h3:=uAll_p _ w3
 have hmt:=may_two k p q
 by_cases c1:mayK (subN k (two p q))=true
 case neg=>
  rw [show errM (subN k (two p q))=2 by unfold errM;rw [if_neg c1]] at h1
  rw [show errM (subN k (two q p))=2 by unfold errM;rw [if_neg (by rw [←hmt];exact c1)]] at h2
  refine p_ tt_ok Tryz.func7 122 fun w0 h0 F hgs=>?_
  (refine y_ ?_;refine A.b rfl fun b3=>?_;refine A.b rfl fun b4=>?_;refine A.b rfl fun b5=>?_;refine t_ fun bl=>?_;(refine A.c rfl hm1 (.cons .refl (.cons (by rw [enc_two];exact s_) .refl)) ?_;refine e_ 19 rfl (x':=cellsR (two p q)) (encR_eq _) ?_);refine n_ h1 ?_;refine t_ fun bl=>?_;(refine A.c rfl hm2 (.cons .refl (.cons (by rw [enc_two];exact s_) .refl)) ?_;refine e_ 29 rfl (x':=cellsR (two q p)) (encR_eq _) ?_);refine n_ h2 ?_;refine t_ fun bl=>?_;(refine A.c rfl hm1 (.cons .refl (.cons (by rw [enc_two];exact s_) .refl)) ?_;refine A.valE 39 rfl (x':=cellsR (two p q)) (encR_eq _) ?_;refine t_ fun bl=>?_;refine A.c rfl hm3 (.cons .refl (.cons (by rw [enc_one];exact s_) .refl)) ?_;refine e_ 41 rfl (x':=cellsR (seqR (two p q))) (encR_eq _) ?_))
  refine c_ h3 ?_
  exact cr_ ha
 obtain ⟨t1,t2⟩:=turned_plain hk hp hq c1
 have c2:mayK (subN k (two q p))=true:=by rw [←hmt];exact c1
 rw [show errM (subN k (two p q))=0 by unfold errM;rw [if_pos c1]] at h1
 rw [show errM (subN k (two q p))=0 by unfold errM;rw [if_pos c2]] at h2
 have hl1:=all_len w1
 have hl2:=all_len w2
 have hp1:=all_paths w1
 have h4:=ownC_p _ hl1
 have h5:=ownC_p _ hl2
 have h6:=sameCs_p (ownC (allM (subN k (two p q)))) (ownC (allM (subN k (two q p)))) (Nat.le_trans (List.length_filter_le _ _) (by omega)) (fun x hx=>Nat.le_trans (hp1 x (List.mem_filter.1 (show x∈List.filter _ _ from hx)).1) (by omega))
 rw [decide_eq_true t2] at h6
 have h7:=sameCs_p (allM (subN k (two p q))) (allM (subN k (two p q))) (by omega) (fun x hx=>Nat.le_trans (hp1 x hx) (by omega))
 rw [decide_eq_true rfl] at h7
 by_cases c3:mayK (subN k (seqR (two p q)))=true
 case neg=>
  rw [show errM (subN k (seqR (two p q)))=2 by unfold errM;rw [if_neg c3]] at h3
  generalize allM (subN k (two p q))=l at h1 h4 h6 h7 t1
  generalize allM (subN k (two q p))=m at h2 h5 h6 t1
  refine p_ tt_ok Tryz.func7 122 fun w0 h0 F hgs=>?_
  (refine y_ ?_;refine A.b rfl fun b3=>?_;refine A.b rfl fun b4=>?_;refine A.b rfl fun b5=>?_;refine t_ fun bl=>?_;(refine A.c rfl hm1 (.cons .refl (.cons (by rw [enc_two];exact s_) .refl)) ?_;refine e_ 19 rfl (x':=cellsR (two p q)) (encR_eq _) ?_);refine n_ h1 ?_;refine t_ fun bl=>?_;(refine A.c rfl hm2 (.cons .refl (.cons (by rw [enc_two];exact s_) .refl)) ?_;refine e_ 29 rfl (x':=cellsR (two q p)) (encR_eq _) ?_);refine n_ h2 ?_;refine t_ fun bl=>?_;(refine A.c rfl hm1 (.cons .refl (.cons (by rw [enc_two];exact s_) .refl)) ?_;refine A.valE 39 rfl (x':=cellsR (two p q)) (encR_eq _) ?_;refine t_ fun bl=>?_;refine A.c rfl hm3 (.cons .refl (.cons (by rw [enc_one];exact s_) .refl)) ?_;refine e_ 41 rfl (x':=cellsR (seqR (two p q))) (encR_eq _) ?_))
  refine c_ h3 ?_
  refine e_ 59 rfl (x':=AB false) (ab_eq (by simp [t1])) ?_
  refine c_ h4 ?_
  refine n_ h5 ?_
  refine c_ h6 ?_
  exact cr_ ha
 have hO:=uAllO_p _ w3 c3
 have e3:allM (subN k (seqR (two p q)))=(allM (subN k (two p q))).map (preP [0]):=by
  unfold allM
  rw [if_pos c3,if_pos c1]
  exact clR_seq k.vars (two p q)
 rw [e3,List.length_map] at hO
 clear e3
 generalize allM (subN k (two p q))=l at h1 h4 h6 h7 t1 hO hl1
 generalize allM (subN k (two q p))=m at h2 h5 h6 t1
 have n1:((l.map encC).length:Int)=l.length:=by rw [List.length_map]
 refine p_ tt_ok Tryz.func7 122 fun w0 h0 F hgs=>?_
 (refine y_ ?_;refine A.b rfl fun b3=>?_;refine A.b rfl fun b4=>?_;refine A.b rfl fun b5=>?_;refine t_ fun bl=>?_;(refine A.c rfl hm1 (.cons .refl (.cons (by rw [enc_two];exact s_) .refl)) ?_;refine e_ 19 rfl (x':=cellsR (two p q)) (encR_eq _) ?_);refine n_ h1 ?_;refine t_ fun bl=>?_;(refine A.c rfl hm2 (.cons .refl (.cons (by rw [enc_two];exact s_) .refl)) ?_;refine e_ 29 rfl (x':=cellsR (two q p)) (encR_eq _) ?_);refine n_ h2 ?_;refine t_ fun bl=>?_;(refine A.c rfl hm1 (.cons .refl (.cons (by rw [enc_two];exact s_) .refl)) ?_;refine A.valE 39 rfl (x':=cellsR (two p q)) (encR_eq _) ?_;refine t_ fun bl=>?_;refine A.c rfl hm3 (.cons .refl (.cons (by rw [enc_one];exact s_) .refl)) ?_;refine e_ 41 rfl (x':=cellsR (seqR (two p q))) (encR_eq _) ?_))
 refine A.e rfl hO s_ (List.Perm.refl _) fun z _=>?_
 refine y_ ?_
 refine e_ 59 rfl (x':=AB false) (ab_eq (by simp [t1])) ?_
 refine c_ h4 ?_
 refine n_ h5 ?_
 refine c_ h6 ?_
 refine A.rowRaw (List.mem_cons_self ..) fun a cp hz hcp=>?_
 rw [List.length_map,List.length_map] at hz hcp
 subst hz
 refine A.keep [7,11,76,77,78] rfl ?_
 refine l_ (Λ':=[.row 7 _ _]) ?_
 refine A.entsEq (Λ':=[.row 7 (.slice a l.length cp) (rowX l 0)]) (by rw [rowX_0]) ?_
 refine A.loopP (ι:=Nat) (fun i=>(⟨[(7,csA l),(11, .ms (.slice a l.length cp) 7 l.length),(76, .ms (.slice a l.length cp) 7 l.length),(77,AI (l.length:Nat)),(78,AI (i:Nat))],[]⟩,[.row 7 (.slice a l.length cp) (rowX l i)])) (fun i=>i≤l.length) (fun i=>l.length-i) 0 (Nat.zero_le _) rfl fun i hi ih=>?_
 simp only at ih⊢
 refine y_ ?_
 refine k_ (fun hc=>?_) fun hc=>?_
 ·have hci:i<l.length:=Int.ofNat_lt.1 (of_decide_eq_true hc)
  clear hc
  refine Exists.elim (at_exN (l:=l) (i:=i) hci) fun x hx=>?_
  have hat:=rowX_at hx
  have hne:rowX l i≠[]:=fun h=>by have:=rowX_len l hi;rw [h] at this;simp at this;omega
  refine A.rowSome (a:=a) (n:=l.length) (c:=cp) (sz:=7) (l:=rowX l i) hne fun bb o ha=>?_
  subst ha
  refine y_ ?_
  refine e_ 86 rfl (x':=AB false) (ab_eq (by simp)) ?_
  refine A.indexRow rfl rfl rfl rfl rfl rfl rfl rfl (by show (0:Int)≤(i:Nat);omega) (by rw [rowX_len _ hi];omega) rfl ?_
  refine A.epV 89 rfl ?_
  refine y_ ?_
  refine A.loadRowF i 0 rfl rfl rfl rfl rfl l.length cp o (by simp) hat (y:=intsA ([0]++x.path)) rfl rfl ?_
  refine y_ ?_
  refine A.valE 95 rfl (x':=AB false) (ab_eq (by simp;omega)) ?_
  refine A.indexRow rfl rfl rfl rfl rfl rfl rfl rfl (by show (0:Int)≤(i:Nat);omega) (by rw [rowX_len _ hi];omega) rfl ?_
  refine A.epV 98 rfl ?_
  refine y_ ?_
  refine A.loadRowF i 0 rfl rfl rfl rfl rfl l.length cp o (by simp) hat (y:=intsA ([0]++x.path)) rfl rfl ?_
  refine i_ rfl (show (([0]++x.path).map AI)[(0:Int).toNat]? =some (AI 0) from rfl) rfl ?_
  refine A.indexRow rfl rfl rfl rfl rfl rfl rfl rfl (by show (0:Int)≤(i:Nat);omega) (by rw [rowX_len _ hi];omega) rfl ?_
  refine A.epV 109 rfl ?_
  refine y_ ?_
  refine A.loadRowF i 0 rfl rfl rfl rfl rfl l.length cp o (by simp) hat (y:=intsA ([0]++x.path)) rfl rfl ?_
  refine A.slice (ys:=x.path.map AI) rfl rfl rfl rfl rfl rfl rfl rfl rfl (by decide) (by simp;omega) (by simp) (by simp [List.take_of_length_le]) rfl ?_
  refine A.indexRow rfl rfl rfl rfl rfl rfl rfl rfl (by show (0:Int)≤(i:Nat);omega) (by rw [rowX_len _ hi];omega) rfl ?_
  refine A.epV 113 rfl ?_
  refine y_ ?_
  refine A.storeRowF i 0 ty51 rfl rfl rfl rfl rfl l.length cp o (by simp) hat (x':=encC x) rfl rfl rfl rfl (rowX_set hx) ?_
  refine y_ ?_
  refine A.valE 78 rfl (x':=AI ((i+1:Nat):Int)) (inc_eq i (by omega)) ?_
  refine u_ (ih (i+1) (by show i+1≤_;omega) (by show l.length-(i+1)<l.length-i;omega))
 ·have hil:i=l.length:=by
   have: ¬((i:Int)<(l.length:Nat)):=of_decide_eq_false hc
   omega
  clear hc ih
  refine A.entsEq (Λ':=[.row 7 (.slice a l.length cp) (l.map encC)]) (by rw [hil,rowX_all]) ?_
  refine A.freezeRow 11 rfl ?_
  refine y_ ?_
  refine c_ h7 ?_
  exact cr_ ha
end Go.Proofs.YtafcodjilcljeaaGreat
