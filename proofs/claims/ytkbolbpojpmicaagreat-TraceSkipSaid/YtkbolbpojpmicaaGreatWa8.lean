/-
  Texts Q19q Q21b Lv Q19l P19j P19k Q19r Q19t Q20b Q19m Lx Q19aa Q19ad. Conditions: as each theorem says.
-/
import Derived.Test.YtkbolbpojpmicaaGreatWa3
import Derived.Test.YtkbolbpojpmicaaGreatWa7
import Derived.Test.YtkbolbpojpmicaaGreatWa5
import Derived.Test.YtkbolbpojpmicaaGreatWa6
import Derived.Shelf.Sort.Plain
import Derived.Shelf.Slices.In.SortNone
set_option linter.unusedVariables false
set_option linter.unusedSimpArgs false
set_option maxRecDepth 100000
set_option maxHeartbeats 4000000
namespace Go.Proofs.YtkbolbpojpmicaaGreat
open Go Go.Tp
abbrev kyV(n:Nat):Value:= .int .i64 (n:Nat)
abbrev keysV(g:GRP):List Value:=g.map fun x=>kyV x.1
abbrev valV(x:Nat×List Sto)(z:Value):AV:= .sl 1 (x.2.map rowsA) (some z)
abbrev valsV(g:GRP)(zs:List Value):List AV:=g.zipWith valV zs
abbrev mpB(b:BR):AEnt:= .mp b.m (keysV (grpM b.r.ends)) (valsV (grpM b.r.ends) b.zs)
theorem posN: ∀(g:GRP) (n:Nat),(n∉keysG g->posV (.int .i64) (kyV n) (keysV g)=some none)/\(∀(p:Nat) x,(keysG g).Nodup->g[p]? =some x->x.1=n->posV (.int .i64) (kyV n) (keysV g)=some (some p))
 | [],n=>⟨fun _=>rfl,fun p x _ h=>by simp at h⟩
 |y::r,n=>by
  obtain ⟨i1,i2⟩:=posN r n
  have hs:Instr.sameNow (.int .i64) (kyV n) (kyV y.1)=some (decide (n=y.1)):=by
   show some (((n:Nat):Int)==((y.1:Nat):Int))=_
   congr 1
   rw [Bool.eq_iff_iff,decide_eq_true_eq,beq_iff_eq];omega
  refine ⟨fun h=>?_,fun p x hn hx hxn=>?_⟩
  ·have h1:n≠y.1:=fun e=>h (by rw [e];exact List.mem_cons_self ..)
   have h2:=i1 fun hm=>h (.tail _ hm)
   show posV _ _ (kyV y.1::keysV r)=_
   rw [posV,hs,decide_eq_false h1]
   simp only [h2]
  ·have hn:(y.1::keysG r).Nodup:=hn
   rw [List.nodup_cons] at hn
   show posV _ _ (kyV y.1::keysV r)=_
   rw [posV,hs]
   cases p with
   |zero=>
    simp only [List.getElem?_cons_zero,Option.some.injEq] at hx
    subst hx
    rw [decide_eq_true hxn.symm]
   |succ p=>
    simp only [List.getElem?_cons_succ] at hx
    have h1:n≠y.1:=fun e=>hn.1 (by rw [<-e,<-hxn];exact List.mem_map_of_mem (List.mem_of_getElem? hx))
    have h2:=i2 p x hn.2 hx hxn
    rw [decide_eq_false h1]
    simp only [h2]
abbrev capC(zb:Value)(nb br n b8:Nat)(s:Sto):List AV:=[.pe 1 (.ms zb 4 nb), .pe 1 (ptrA br), .pe 1 (AI (n:Nat)),ptrA b8, .pe 1 (rowsA s)]
abbrev chE(zb:Value)(bs:List BR)(cn:List Nat)(br n b8:Nat)(s:Sto)(z:Value)(m:Nat)(r:RN):List AEnt:= .box b8 (.fn 287 [] (capC zb bs.length br n b8 s)):: .row 4 zb (rowB bs cn)::(rnL br z m r++bs.map mpB)
abbrev pickA(r:RN)(n:Nat)(xs:List Sto):RN:=⟨r.reach,xs.foldl (fun l x=>addE l (n,x)) r.ends,r.miss⟩
structure BrsOk(V:List KV)(bs:List BR):Prop where
 wf: ∀b,b∈bs->EOk V b.r/\b.r.reach<=256/\b.ch.length<=1048576/\b.zs.length=(grpM b.r.ends).length/\b.r.ends.length<=2000
 len:bs.length<=2048
abbrev eatB(bs:List BR)(cn:List Nat):List (List Sto):=(rsB bs).zipWith endsAt cn
theorem eatB_at{bs:List BR}{cn:List Nat}{i:Nat}{b:BR}{n:Nat}(h1:bs[i]? =some b)(h2:cn[i]? =some n):(eatB bs cn)[i]? =some (endsAt b.r n):=by
 rw [List.getElem?_zipWith,List.getElem?_map,h1,h2];rfl
theorem eat_len{bs:List BR}{cn:List Nat}(h:cn.length=bs.length):(eatB bs cn).length=bs.length:=by
 rw [List.length_zipWith,List.length_map];omega
theorem pickA_ok{V:List KV}{r:RN}{n:Nat}{xs:List Sto}(h:RnOk V r)(hx: ∀x,x∈xs->StOk V x)(hn:n<=256)(hl:r.ends.length+xs.length<=1048576):RnOk V (pickA r n xs):=by
 refine ⟨⟨fun e he=>?_⟩,?_⟩
 ·have he:e∈addN19 n xs r.ends:=he
  rw [mem_addN] at he
  rcases he with he|⟨x,hx',rfl⟩
  ·exact h.ends.shp e he
  ·exact ⟨hx x hx',hn⟩
 ·have:=addN_len (m:=n) xs r.ends
  show (addN19 n xs r.ends).length<=_
  omega
theorem pickA_app(r:RN)(n:Nat)(a b:List Sto):pickA r n (a++b)=pickA (pickA r n a) n b:=by
 unfold pickA
 rw [List.foldl_append]
theorem ch_perm(zb:Value)(bs:List BR)(cn:List Nat)(br n b8:Nat)(s:Sto)(z:Value)(m:Nat)(r:RN):(chE zb bs cn br n b8 s z m r).Perm (rnL br z m r++(.box b8 (.fn 287 [] (capC zb bs.length br n b8 s)):: .row 4 zb (rowB bs cn)::bs.map mpB)):=
 List.perm_append_comm_assoc [AEnt.box b8 (.fn 287 [] (capC zb bs.length br n b8 s)), .row 4 zb (rowB bs cn)] (rnL br z m r) (bs.map mpB)
theorem flatT{α β:Type}{f:α->List β}{l:List α}{k:Nat}{x:α}(h:l[k]? =some x):(l.take (k+1)).flatMap f=(l.take k).flatMap f++f x:=by
 rw [take19 h,List.flatMap_append,List.flatMap_cons,List.flatMap_nil,List.append_nil]
theorem flatLe{α β:Type}(f:α->List β)(l:List α)(k:Nat):((l.take k).flatMap f).length<=(l.flatMap f).length:=by
 conv=>rhs;rw [<-List.take_append_drop k l]
 rw [List.flatMap_append,List.length_append];omega
theorem choose19_p{V:List KV}(zb:Value)(bs:List BR)(cn:List Nat)(br n b8:Nat)(s:Sto)(hs:StOk V s)(hb:BrsOk V bs)(hc:cn.length=bs.length)(hn:n<=256): ∀(d i:Nat),i+d=bs.length-> ∀(z:Value) (m:Nat) (r:RN) (out:Sto),StOk V out->RnOk V r->r.ends.length+(pick19 s ((eatB bs cn).drop i) out).length<=1048576->
 FunE Tryz.prog gs0 287 ([AI (i:Nat),rowsA out]++capC zb bs.length br n b8 s) (chE zb bs cn br n b8 s z m r) (fun _:Value×Nat=> .tp []) (fun u=>chE zb bs cn br n b8 s u.1 u.2 (pickA r n (pick19 s ((eatB bs cn).drop i) out))) (fun _=>True)
 |0,i,hi,z,m,r,out,ho,hr,hl=>by
  have hil:i=bs.length:=by omega
  have hadd:=add19_p br m z r hr (n,out) ⟨ho,hn⟩
  have hpk:pick19 s ((eatB bs cn).drop i) out=[out]:=by rw [List.drop_eq_nil_of_le (by rw [eat_len hc];omega),pick19]
  rw [hpk]
  unfold FunE
  refine Fun.of (S:=tt) (fn:=Tryz.f287) (n:=45) tt_ok Tryz.func287 rfl rfl rfl rfl fun w0 h0 F hgs=>?_
  refine y_ ?_
  refine e_ 14 rfl (x':=AB true) (ab_eq (by rw [hil];simp)) ?_
  refine A.e rfl hadd s_ (Λ2:= .box b8 (.fn 287 [] (capC zb bs.length br n b8 s)):: .row 4 zb (rowB bs cn)::bs.map mpB) (ch_perm ..) fun v _=>?_
  refine A.perm (Λ':=chE zb bs cn br n b8 s v.1 v.2 (pickA r n [out])) (ch_perm ..).symm ?_
  refine y_ ?_
  exact A.ret0 rfl rfl (.refl _) ⟨v, .refl,rfl,trivial⟩
 |d+1,i,hi,z,m,r,out,ho,hr,hl=>by
  have ih:=choose19_p zb bs cn br n b8 s hs hb hc hn d (i+1) (by omega)
  refine Exists.elim (at_exN (l:=bs) (i:=i) (by omega)) fun b hbi=>?_
  refine Exists.elim (at_exN (l:=cn) (i:=i) (by omega)) fun nI hnI=>?_
  obtain ⟨hbe,hbr,hbc,hbz,hbn⟩:=hb.wf b (List.mem_of_getElem? hbi)
  have hai:=rowB_at hbi hnI
  have hlen:(rowB bs cn).length=bs.length:=rowB_len hc
  have hbl:=hb.len
  have hdr:(eatB bs cn).drop i=endsAt b.r nI::(eatB bs cn).drop (i+1):=drop_at (eatB_at hbi hnI)
  refine Exists.elim (show∃xs,xs=endsAt b.r nI from ⟨_,rfl⟩) fun xs hxs=>?_
  refine Exists.elim (show∃G:Sto->List Sto,G=fun x=>pick19 s ((eatB bs cn).drop (i+1)) (mergeM s out x) from ⟨_,rfl⟩) fun G hG=>?_
  have hpk:pick19 s ((eatB bs cn).drop i) out=xs.flatMap G:=by rw [hdr,pick19,<-hxs,hG]
  have hxok: ∀x,x∈xs->StOk V x:=fun x hx=>by
   rw [hxs] at hx
   exact hbe _ (endsAt_mem.1 hx)
  have hGok: ∀x,x∈xs-> ∀y,y∈G x->StOk V y:=fun x hx y hy=>by
   rw [hG] at hy
   refine pick_ok _ _ (fun l hl' y' hy'=>?_) (merge_ok ho (hxok x hx)) y hy
   have hl':=List.mem_of_mem_drop hl'
   obtain ⟨j,hj,rfl⟩:=List.getElem_of_mem hl'
   rw [List.getElem_zipWith] at hy'
   have hm:=endsAt_mem.1 hy'
   rw [List.getElem_map] at hm
   exact (hb.wf _ (List.getElem_mem _)).1 _ hm
  rw [hpk] at hl⊢
  have hxn:xs.length<=1048576:=by
   rw [hxs]
   unfold endsAt
   rw [List.length_map]
   exact Nat.le_trans (List.length_filter_le ..) (by omega)
  have nxs:((xs.map rowsA).length:Int)=xs.length:=by rw [List.length_map]
  obtain ⟨M1,M2,hM⟩:=List.append_of_mem (List.mem_map_of_mem (f:=mpB) (List.mem_of_getElem? hbi))
  have hmp:AMp (chE zb bs cn br n b8 s z m r) b.m (keysV (grpM b.r.ends)) (valsV (grpM b.r.ends) b.zs) ((.box b8 (.fn 287 [] (capC zb bs.length br n b8 s)):: .row 4 zb (rowB bs cn)::rnL br z m r)++(M1++M2)):=⟨by
   show (((.box b8 (.fn 287 [] (capC zb bs.length br n b8 s)):: .row 4 zb (rowB bs cn)::rnL br z m r)++bs.map mpB:List AEnt)).Perm _
   rw [hM]
   exact (List.Perm.append_left _ List.perm_middle).trans List.perm_middle⟩
  unfold FunE
  refine Fun.of (S:=tt) (fn:=Tryz.f287) (n:=45) tt_ok Tryz.func287 rfl rfl rfl rfl fun w0 h0 F hgs=>?_
  refine y_ ?_
  refine e_ 14 rfl (x':=AB false) (ab_eq (by rw [beq_eq_false_iff_ne];omega)) ?_
  refine A.rowRaw (z:=zb) (sz:=4) (l:=rowB bs cn) (List.mem_cons_of_mem _ (List.mem_cons_self ..)) fun a cp hz hcp=>?_
  have hne:rowB bs cn≠[]:=fun h=>by rw [h] at hlen;simp at hlen;omega
  rw [hlen] at hz hcp
  subst hz
  refine A.rowSome (a:=a) (n:=bs.length) (c:=cp) (sz:=4) (l:=rowB bs cn) hne fun bb o ha=>?_
  subst ha
  refine d_ 13 [0,1,2,3,4,5,6,7,8,9,10,11,12] [] ?_
  refine WA.indexRow rfl rfl rfl rfl rfl rfl rfl rfl rfl (by show (0:Int)<=(i:Nat);omega) (by show ((i:Nat):Int)<_;rw [hlen];omega) rfl ?_
  refine WA.epV 22 rfl ?_
  refine w_ ?_
  refine WA.loadPart i 1 rfl rfl rfl rfl rfl bs.length cp o (by rw [Int.toNat_natCast]) hai (y:= .v (.map (some b.m))) rfl rfl ?_
  refine w_ ?_
  refine WA.indexRow rfl rfl rfl rfl rfl rfl rfl rfl rfl (by show (0:Int)<=(i:Nat);omega) (by show ((i:Nat):Int)<_;rw [hlen];omega) rfl ?_
  refine WA.epV 27 rfl ?_
  refine w_ ?_
  refine WA.loadPart i 3 rfl rfl rfl rfl rfl bs.length cp o (by rw [Int.toNat_natCast]) hai (y:=AI (nI:Nat)) rfl rfl ?_
  by_cases hk:nI∈keysG (grpM b.r.ends)
  ·obtain ⟨p,x,hp,hxn⟩:=keys_at hk
   have hx2:x.2=xs:=by rw [grp_ends hp,hxn,hxs]
   refine Exists.elim (at_exN (l:=b.zs) (i:=p) (by rw [hbz];exact (List.getElem?_eq_some_iff.1 hp).1)) fun zp hzp=>?_
   have hf:=(posN (grpM b.r.ends) nI).2 p x (grpM_ok b.r.ends).nod hp hxn
   have hvx:(valsV (grpM b.r.ends) b.zs)[p]? =some (.sl 1 (xs.map rowsA) (some zp)):=by rw [List.getElem?_zipWith,hp,hzp,<-hx2]
   refine WA.lookupG (im:=hmp) rfl rfl rfl rfl rfl rfl rfl rfl rfl hf hvx rfl ?_
   refine w_ ?_
   refine WA.nil (l:=[]) rfl ?_
   refine A.val 30 rfl (x':= .sl 1 (xs.map rowsA) none) .own1 ?_
   refine y_ ?_
   refine A.valE 31 rfl (x':=AI (xs.length:Nat)) (ai_eq nxs) ?_
   refine A.keep [0,1,2,3,4,5,6,30,31,32] rfl ?_
   refine A.loopP (ι:=Nat×Value×Nat) (fun v=>(⟨[(0,AI (i:Nat)),(1,rowsA out),(2, .pe 1 (.ms (.slice (some ⟨bb,o,none⟩) bs.length cp) 4 bs.length)),(3, .pe 1 (ptrA br)),(4, .pe 1 (AI (n:Nat))),(5,ptrA b8),(6, .pe 1 (rowsA s)),(30, .sl 1 (xs.map rowsA) none),(31,AI (xs.length:Nat)),(32,AI (v.1:Nat))],[]⟩,chE (.slice (some ⟨bb,o,none⟩) bs.length cp) bs cn br n b8 s v.2.1 v.2.2 (pickA r n ((xs.take v.1).flatMap G)))) (fun v=>v.1<=xs.length) (fun v=>xs.length-v.1) (0,z,m) (Nat.zero_le _) rfl fun v hv jh=>?_
   obtain ⟨k,z1,m1⟩:=v
   simp only at hv
   refine y_ ?_
   by_cases hck:k<xs.length
   ·refine Exists.elim (at_exN (l:=xs) (i:=k) hck) fun x hx=>?_
    have hxm:=List.mem_of_getElem? hx
    have hmg:=merge_p s out x hs ho (hxok x hxm)
    have ht:=flatT (f:=G) hx
    have h1:=flatLe G xs (k+1)
    rw [ht,List.length_append] at h1
    have hrk:RnOk V (pickA r n ((xs.take k).flatMap G)):=pickA_ok hr (fun y hy=>by
     obtain ⟨x',hx',hy⟩:=List.mem_flatMap.1 hy
     exact hGok x' (List.mem_of_mem_take hx') y hy) hn (by omega)
    have hrl:(pickA r n ((xs.take k).flatMap G)).ends.length<=r.ends.length+((xs.take k).flatMap G).length:=addN_len (m:=n) _ r.ends
    have hGx:G x=pick19 s ((eatB bs cn).drop (i+1)) (mergeM s out x):=by rw [hG]
    have hcall:=ih z1 m1 (pickA r n ((xs.take k).flatMap G)) (mergeM s out x) (merge_ok ho (hxok x hxm)) hrk (by rw [<-hGx];omega)
    rw [<-hGx,<-pickA_app,<-ht] at hcall
    refine T_ rfl (by show decide ((k:Int)<(xs.length:Nat))=true;rw [decide_eq_true_eq];omega) ?_
    refine i_ rfl (map_at hx) rfl ?_
    refine d_ 7 [0,1,2,3,4,5,6] [(6,rowsA (mergeM s out x))] ?_
    refine WA.c rfl rfl hmg (.sub s_) ?_
    refine WA.nil (l:=[]) rfl ?_
    refine A.valE 38 rfl (x':=AI ((i+1:Nat):Int)) (inc_eq i (by omega)) ?_
    refine A.entsEq (Λ':=chE (.slice (some ⟨bb,o,none⟩) bs.length cp) bs cn br n b8 s z1 m1 (pickA r n ((xs.take k).flatMap G))) rfl ?_
    refine A.e rfl hcall s_ (Λ2:=[]) (by rw [List.append_nil]) fun v _=>?_
    refine A.entsEq (List.append_nil _) ?_
    refine y_ ?_
    refine A.valE 32 rfl (x':=AI ((k+1:Nat):Int)) (inc_eq k (by omega)) ?_
    refine u_ (jh (k+1,v.1,v.2) (by show k+1<=_;omega) (by show _-(k+1)<_-k;omega))
   ·refine A.gF rfl (by show decide ((k:Int)<(xs.length:Nat))=false;rw [decide_eq_false_iff_not];omega) ?_
    have htk:xs.take k=xs:=List.take_of_length_le (by omega)
    refine A.entsEq (Λ':=chE (.slice (some ⟨bb,o,none⟩) bs.length cp) bs cn br n b8 s z1 m1 (pickA r n (xs.flatMap G))) (by show chE _ bs cn br n b8 s z1 m1 (pickA r n ((xs.take k).flatMap G))=_;rw [htk]) ?_
    refine y_ ?_
    exact A.ret0 rfl rfl (.refl _) ⟨(z1,m1), .refl,rfl,trivial⟩
  ·have hx0:xs=[]:=by rw [hxs];exact grp_none hk
   have hf:=(posN (grpM b.r.ends) nI).1 hk
   refine WA.lookupNilG (im:=hmp) rfl rfl rfl rfl rfl rfl rfl rfl rfl rfl rfl hf rfl ?_
   refine w_ ?_
   refine WA.nil (l:=[]) rfl ?_
   refine A.val 30 rfl (x':= .sl 1 [] none) .nil ?_
   refine A.valE 30 rfl (x':= .sl 1 (xs.map rowsA) none) (by rw [hx0];rfl) ?_
   refine e_ 31 rfl (x':=AI ((xs.map rowsA).length:Nat)) (by rw [hx0];rfl) ?_
   refine A.valE 31 rfl (x':=AI (xs.length:Nat)) (ai_eq nxs) ?_
   refine A.keep [0,1,2,3,4,5,6,30,31,32] rfl ?_
   refine A.loopP (ι:=Nat×Value×Nat) (fun v=>(⟨[(0,AI (i:Nat)),(1,rowsA out),(2, .pe 1 (.ms (.slice (some ⟨bb,o,none⟩) bs.length cp) 4 bs.length)),(3, .pe 1 (ptrA br)),(4, .pe 1 (AI (n:Nat))),(5,ptrA b8),(6, .pe 1 (rowsA s)),(30, .sl 1 (xs.map rowsA) none),(31,AI (xs.length:Nat)),(32,AI (v.1:Nat))],[]⟩,chE (.slice (some ⟨bb,o,none⟩) bs.length cp) bs cn br n b8 s v.2.1 v.2.2 (pickA r n ((xs.take v.1).flatMap G)))) (fun v=>v.1<=xs.length) (fun v=>xs.length-v.1) (0,z,m) (Nat.zero_le _) rfl fun v hv jh=>?_
   obtain ⟨k,z1,m1⟩:=v
   simp only at hv
   refine y_ ?_
   by_cases hck:k<xs.length
   ·refine Exists.elim (at_exN (l:=xs) (i:=k) hck) fun x hx=>?_
    have hxm:=List.mem_of_getElem? hx
    have hmg:=merge_p s out x hs ho (hxok x hxm)
    have ht:=flatT (f:=G) hx
    have h1:=flatLe G xs (k+1)
    rw [ht,List.length_append] at h1
    have hrk:RnOk V (pickA r n ((xs.take k).flatMap G)):=pickA_ok hr (fun y hy=>by
     obtain ⟨x',hx',hy⟩:=List.mem_flatMap.1 hy
     exact hGok x' (List.mem_of_mem_take hx') y hy) hn (by omega)
    have hrl:(pickA r n ((xs.take k).flatMap G)).ends.length<=r.ends.length+((xs.take k).flatMap G).length:=addN_len (m:=n) _ r.ends
    have hGx:G x=pick19 s ((eatB bs cn).drop (i+1)) (mergeM s out x):=by rw [hG]
    have hcall:=ih z1 m1 (pickA r n ((xs.take k).flatMap G)) (mergeM s out x) (merge_ok ho (hxok x hxm)) hrk (by rw [<-hGx];omega)
    rw [<-hGx,<-pickA_app,<-ht] at hcall
    refine T_ rfl (by show decide ((k:Int)<(xs.length:Nat))=true;rw [decide_eq_true_eq];omega) ?_
    refine i_ rfl (map_at hx) rfl ?_
    refine d_ 7 [0,1,2,3,4,5,6] [(6,rowsA (mergeM s out x))] ?_
    refine WA.c rfl rfl hmg (.sub s_) ?_
    refine WA.nil (l:=[]) rfl ?_
    refine A.valE 38 rfl (x':=AI ((i+1:Nat):Int)) (inc_eq i (by omega)) ?_
    refine A.entsEq (Λ':=chE (.slice (some ⟨bb,o,none⟩) bs.length cp) bs cn br n b8 s z1 m1 (pickA r n ((xs.take k).flatMap G))) rfl ?_
    refine A.e rfl hcall s_ (Λ2:=[]) (by rw [List.append_nil]) fun v _=>?_
    refine A.entsEq (List.append_nil _) ?_
    refine y_ ?_
    refine A.valE 32 rfl (x':=AI ((k+1:Nat):Int)) (inc_eq k (by omega)) ?_
    refine u_ (jh (k+1,v.1,v.2) (by show k+1<=_;omega) (by show _-(k+1)<_-k;omega))
   ·refine A.gF rfl (by show decide ((k:Int)<(xs.length:Nat))=false;rw [decide_eq_false_iff_not];omega) ?_
    have htk:xs.take k=xs:=List.take_of_length_le (by omega)
    refine A.entsEq (Λ':=chE (.slice (some ⟨bb,o,none⟩) bs.length cp) bs cn br n b8 s z1 m1 (pickA r n (xs.flatMap G))) (by show chE _ bs cn br n b8 s z1 m1 (pickA r n ((xs.take k).flatMap G))=_;rw [htk]) ?_
    refine y_ ?_
    exact A.ret0 rfl rfl (.refl _) ⟨(z1,m1), .refl,rfl,trivial⟩
abbrev bsE(zb:Value)(bs:List BR)(cn:List Nat)(br:Nat)(z:Value)(m:Nat)(r:RN):List AEnt:= .row 4 zb (rowB bs cn)::(rnL br z m r++bs.map mpB)
theorem meet_p{V:List KV}(zb:Value)(bs:List BR)(cn:List Nat)(br n:Nat)(s:Sto)(hs:StOk V s)(hb:BrsOk V bs)(hc:cn.length=bs.length)(hn:n<=256)(z:Value)(m:Nat)(r:RN)(hr:RnOk V r)(hl:r.ends.length+(pick19 s (eatB bs cn) s).length<=1048576):
 FunE Tryz.prog gs0 220 [ptrA br, .ms zb 4 bs.length,AI (n:Nat),rowsA s] (bsE zb bs cn br z m r) (fun _:Value×Nat=> .tp []) (fun u=>bsE zb bs cn br u.1 u.2 (meetR s (rsB bs) cn n r)) (fun _=>True):=by
 obtain ⟨rc,l,ms⟩:=r
 have hch:=fun b8=>choose19_p zb bs cn br n b8 s hs hb hc hn bs.length 0 (by omega) z m ⟨n,l,ms⟩ s hs ⟨hr.ends,hr.len⟩ (by rw [List.drop_zero];exact hl)
 unfold FunE
 refine Fun.of (S:=tt) (fn:=Tryz.f220) (n:=17) tt_ok Tryz.func220 rfl rfl rfl rfl fun w0 h0 F hgs=>?_
 (repeat refine A.s rfl ?_)
 refine A.b rfl fun b4=>?_
 refine A.b rfl fun b5=>?_
 refine A.b rfl fun b6=>?_
 refine A.b rfl fun b7=>?_
 refine A.freeze 4 (sz:=1) rfl rfl rfl ?_
 refine A.freeze 5 (sz:=1) rfl rfl rfl ?_
 refine A.freeze 6 (sz:=1) rfl rfl rfl ?_
 refine A.freeze 7 (sz:=1) rfl rfl rfl ?_
 refine A.entsEq (Λ':= .row 4 zb (rowB bs cn):: .box br (.ag [AI (rc:Nat), .ms z 2 l.length,mapA m l,AB ms]):: .row 2 z (l.map enA)::(mapL m l++bs.map mpB)) rfl ?_
 (repeat refine A.s rfl ?_)
 (repeat first|refine A.s rfl ?_|refine A.w rfl rfl ?_)
 refine A.b rfl fun b8=>?_
 refine y_ ?_
 refine A.entsEq (Λ':=chE zb bs cn br n b8 s z m ⟨n,l,ms⟩) rfl ?_
 refine A.e rfl (hch b8) s_ (Λ2:=[]) (by rw [List.append_nil]) fun v _=>?_
 refine A.entsEq (List.append_nil _) ?_
 refine A.less (Λ':=bsE zb bs cn br v.1 v.2 (meetR s (rsB bs) cn n ⟨rc,l,ms⟩)) (.cons _ (.refl _)) ?_
 refine y_ ?_
 exact A.ret0 rfl rfl (.refl _) ⟨v, .refl,rfl,trivial⟩
theorem compI_0(z:Value)(n:Nat):Fun Tryz.prog gs0 55 [.ms z 1 n] [.row 1 z []] fun y Λ'=> ∃z':Value,Sb y (.ms z' 1 0)/\Λ'=[.row 1 z' []]/\True:=by
 by_cases hn:n=0
 ·subst hn
  refine Fun.of (S:=tt) (fn:=Tryz.f55) (n:=61) tt_ok Tryz.func55 rfl rfl rfl rfl fun w0 h0 F hgs=>?_
  refine y_ ?_
  refine A.ret1 (Λ':=[.row 1 _ _]) rfl rfl rfl sl_ ⟨_, .refl,rfl,trivial⟩
 ·intro w0 h vs L F g r q
  exfalso
  rw [RpC_cons] at r
  obtain ⟨u,us,rfl,r1,r2⟩:=r
  rw [Rp_ms] at r1
  obtain ⟨rfl,a',cap',rfl⟩:=r1
  obtain ⟨M,L2,rfl,⟨p,⟨a,cap,zs,e1,e2,e3,e4,e5⟩,rfl⟩,q2⟩:=q
  injection e1 with e1 e1' e1''
  exact hn e1'
theorem compI_p(z:Value)(n:Nat)(l:List Int)(hb:l.length<=1099511627776):FunE Tryz.prog gs0 55 [.ms z 1 n] [.row 1 z (l.map AI)] (fun z':Value=> .ms z' 1 (compD l).length) (fun z'=>[.row 1 z' ((compD l).map AI)]) (fun _=>True):=by
 unfold FunE
 cases l with
 |nil=>exact compI_0 z n
 |cons x0 l0=>
 generalize hl:x0::l0=l at hb⊢
 have hne:l.map AI≠[]:=by rw [<-hl];simp
 refine Fun.row1 hne fun b o c hcap=>?_
 rw [List.length_map] at hcap⊢
 have hlm:((l.map AI).length:Int)=l.length:=by rw [List.length_map]
 have hlmN:(l.map AI).length=l.length:=List.length_map ..
 by_cases h2:l.length<2
 ·have hd:compD l=l:=by
   rw [<-hl] at h2⊢
   cases l0 with
   |nil=>rfl
   |cons y r=>simp only [List.length_cons] at h2;omega
  rw [hd]
  refine Fun.of (S:=tt) (fn:=Tryz.f55) (n:=61) tt_ok Tryz.func55 rfl rfl rfl rfl fun w0 h0 F hgs=>?_
  refine y_ ?_
  refine e_ 8 rfl (x':=AB true) (ab_eq (decide_eq_true (by omega))) ?_
  refine A.ret1 (Λ':=[.row 1 _ _]) rfl rfl rfl sl_ ⟨_, .refl,rfl,trivial⟩
 refine Fun.of (S:=tt) (fn:=Tryz.f55) (n:=61) tt_ok Tryz.func55 rfl rfl rfl rfl fun w0 h0 F hgs=>?_
 refine y_ ?_
 refine e_ 8 rfl (x':=AB false) (ab_eq (decide_eq_false (by omega))) ?_
 refine A.keep [0,3] rfl ?_
 refine A.loopP (ι:=Nat) (fun i=>(⟨[(0, .ms (.slice (some ⟨b,o,none⟩) l.length c) 1 l.length),(3,AI (i:Nat))],[]⟩,[.row 1 (.slice (some ⟨b,o,none⟩) l.length c) (l.map AI)])) (fun i=>1<=i/\i<=l.length/\compD (l.take i)=l.take i) (fun i=>l.length-i) 1 ⟨Nat.le_refl _,by omega,?_⟩ rfl fun i hi ih=>?_
 ·rw [<-hl];rfl
 obtain ⟨hi1,hi2,hi3⟩:=hi
 refine y_ ?_
 refine k_ (fun hc=>?_) fun hc=>?_
 case refine_2.refine_2=>
  have hc':i=l.length:=by have: ¬((i:Int)<l.length):=by simpa using hc
                          omega
  rw [hc',List.take_length] at hi3
  rw [hi3]
  refine y_ ?_
  refine A.ret1 (Λ':=[.row 1 _ _]) rfl rfl rfl sl_ ⟨_, .refl,rfl,trivial⟩
 have hc':i<l.length:=by have:((i:Int)<l.length):=by simpa using hc
                         omega
 clear hc
 refine Exists.elim (at_exN (l:=l) (i:=i) hc') fun y hy=>?_
 refine Exists.elim (at_exN (l:=l) (i:=i-1) (by omega)) fun x hx=>?_
 have hsub:IntKind.i64.wrap ((i:Int)-1)=((i-1:Nat):Int):=by rw [w64_id (by unfold i64;omega)];omega
 refine y_ ?_
 refine d_ 9 [0,1,2,3,4,5,6,7,8] [] ?_
 refine WA.indexRow rfl rfl rfl rfl rfl rfl rfl rfl rfl (by omega) (by rw [List.length_map];omega) rfl ?_
 refine WA.loadRow rfl rfl rfl rfl rfl rfl rfl (y':=AI y) rfl (map_at hy) rfl rfl ?_
 refine w_ ?_
 refine WA.valE 22 rfl (x':=AI ((i-1:Nat):Int)) (ai_eq hsub) ?_
 refine WA.indexRow rfl rfl rfl rfl rfl rfl rfl rfl rfl (by omega) (by rw [List.length_map];omega) rfl ?_
 refine WA.loadRow rfl rfl rfl rfl rfl rfl rfl (y':=AI x) rfl (map_at hx) rfl rfl ?_
 refine WA.nil (l:=[]) rfl ?_
 refine y_ ?_
 refine k_ (fun hc=>?_) fun hc=>?_
 case refine_2=>
  have hne':x≠y:=by intro e;subst e;simp at hc
  clear hc
  refine y_ ?_
  refine A.valE 3 rfl (x':=AI ((i+1:Nat):Int)) (inc_eq i (by omega)) ?_
  refine u_ (ih (i+1) ⟨by omega,by omega,comp_dis (by omega) hx hy hne' hi3⟩ (by omega))
 have he:y=x:=by simpa using hc
 subst he
 clear hc ih
 refine y_ ?_
 refine A.msV 26 rfl rfl ?_
 refine A.sliceV rfl rfl rfl rfl rfl rfl rfl rfl (by omega) (by omega) (by omega) (fun _=>hcap) rfl rfl ?_
 refine y_ ?_
 refine A.valE 4 rfl (x':= .v (.slice (some ⟨b,o+i*1,none⟩) (l.length-i) (c-i))) (congrArg AV.v (by simp only [partV];rw [Int.toNat_natCast,Int.toNat_natCast,if_neg (by omega)];simp only [Option.map_some];rw [add_norm];rfl)) ?_
 refine A.keep [0,3,4,5] rfl ?_
 refine A.loopP (ι:=Nat×Nat×List Int) (fun j=>(⟨[(0, .ms (.slice (some ⟨b,o,none⟩) l.length c) 1 l.length),(3,AI (j.2.1:Nat)),(4, .v (.slice (some ⟨b,o+i*1,none⟩) (l.length-i) (c-i))),(5,AI (j.1:Nat))],[]⟩,[.row 1 (.slice (some ⟨b,o,none⟩) l.length c) (j.2.2.map AI)])) (fun j=>1<=j.1/\i+j.1<=l.length/\CompI l j.2.2 (i+j.1) j.2.1) (fun j=>l.length-j.1) (1,i,l) ⟨Nat.le_refl _,by show i+1<=_;omega, .start (by omega) hx hy hi3⟩ rfl fun j hj ih=>?_
 obtain ⟨m,k,r⟩:=j
 obtain ⟨hj1,hj2,hj3⟩:=hj
 simp only at hj1 hj2 hj3 ih⊢
 have hrl:=hj3.len
 have hkm:=hj3.lt
 have hlr:((r.map AI).length:Int)=l.length:=by rw [List.length_map,hrl]
 refine y_ ?_
 refine k_ (fun hc=>?_) fun hc=>?_
 case refine_2=>
  have hc':i+m=l.length:=by have: ¬((m:Int)<((l.length-i:Nat):Int)):=by simpa using hc
                            omega
  clear hc ih
  rw [hc'] at hj3
  have hout:=hj3.out
  rw [List.take_length] at hout
  have hkl:=hj3.kl
  rw [List.take_length] at hkl
  have hk0:0<k:=by
   rcases Nat.eq_zero_or_pos k with h|h
   ·exact (comp_pos l (by intro e;rw [e] at hc';simp at hc';omega) (List.eq_nil_of_length_eq_zero (hkl.trans h))).elim
   ·exact h
  refine y_ ?_
  refine A.msV 54 rfl rfl ?_
  refine A.sliceV rfl rfl rfl rfl rfl rfl rfl rfl (by omega) (by omega) (by omega) (fun _=>hcap) rfl rfl ?_
  refine A.valE 56 rfl (x':= .v (.slice (some ⟨b,o+k*1,none⟩) (l.length-k) (c-k))) (congrArg AV.v (by simp only [partV];rw [Int.toNat_natCast,Int.toNat_natCast,if_neg (by omega)];simp only [Option.map_some];rw [add_norm];rfl)) ?_
  refine A.clearRow (off:=o) (n:=l.length) (c:=c) k rfl rfl rfl rfl rfl rfl (xs':=(compD l).map AI++List.replicate (l.length-k) (AI 0)) rfl rfl rfl (by rw [List.length_map];omega) (by omega) rfl (fun h=>⟨.int .i64 0,Rp_v.2 ⟨rfl,rfl⟩,rfl⟩) (by rw [<-List.map_take,hout]) rfl ?_
  refine y_ ?_
  refine A.msV 57 rfl rfl ?_
  refine A.sliceV rfl rfl rfl rfl rfl rfl rfl rfl (by decide) (by omega) (by omega) (fun h=>by cases h) rfl rfl ?_
  refine A.valE 59 rfl (x':= .v (.slice (some ⟨b,o,none⟩) k c)) (congrArg AV.v (by simp only [partV];rw [Int.toNat_natCast];simp [add_norm])) ?_
  refine A.vMs 59 1 rfl ?_
  refine A.rowCut (sz:=1) (a:=some ⟨b,o,none⟩) (n:=l.length) (c:=c) k (l1:=(compD l).map AI) (l2:=List.replicate (l.length-k) (AI 0)) rfl (by rw [List.length_map,hkl]) (by simp [comp_pos l (by intro e;rw [e] at hc';simp at hc';omega)]) ?_
  refine y_ ?_
  rw [hkl]
  refine A.ret1 (Λ':=[.row 1 _ _]) rfl rfl rfl sl_ ⟨_, .refl,rfl,trivial⟩
 have hc':i+m<l.length:=by have:((m:Int)<((l.length-i:Nat):Int)):=by simpa using hc
                           omega
 clear hc
 refine Exists.elim (at_exN (l:=l) (i:=i+m) hc') fun v hv=>?_
 refine Exists.elim (at_exN (l:=l) (i:=i+m-1) (by omega)) fun u hu=>?_
 have hrv:r[i+m]? =some v:=(hj3.rest _ (by omega)).trans hv
 have hru:r[i+(m-1)]? =some u:=by rw [show i+(m-1)=i+m-1 by omega];exact (hj3.rest _ (by omega)).trans hu
 have hsub':IntKind.i64.wrap ((m:Int)-1)=((m-1:Nat):Int):=by rw [w64_id (by unfold i64;omega)];omega
 refine y_ ?_
 refine d_ 9 [0,1,2,3,4,5,6,7,8] [] ?_
 refine WA.indexPart (off:=o) (n:=l.length) (c:=c) i rfl rfl rfl rfl rfl rfl rfl rfl rfl rfl (by omega) (by omega) (by omega) rfl ?_
 refine WA.loadRow rfl rfl rfl rfl rfl rfl rfl (y':=AI v) rfl (map_at hrv) rfl rfl ?_
 refine w_ ?_
 refine WA.valE 41 rfl (x':=AI ((m-1:Nat):Int)) (ai_eq hsub') ?_
 refine WA.indexPart (off:=o) (n:=l.length) (c:=c) i rfl rfl rfl rfl rfl rfl rfl rfl rfl rfl (by omega) (by omega) (by omega) rfl ?_
 refine WA.loadRow rfl rfl rfl rfl rfl rfl rfl (y':=AI u) rfl (map_at hru) rfl rfl ?_
 refine WA.nil (l:=[]) rfl ?_
 refine y_ ?_
 refine k_ (fun hc=>?_) fun hc=>?_
 case refine_2=>
  have he':v=u:=by simpa using hc
  subst he'
  clear hc
  refine y_ ?_
  refine A.valE 5 rfl (x':=AI ((m+1:Nat):Int)) (inc_eq m (by omega)) ?_
  refine u_ (ih (m+1,k,r) ⟨by omega,by show i+(m+1)<=_;omega,by show CompI l r (i+(m+1)) k;exact hj3.same (by omega) hu hv⟩ (by show l.length-(m+1)<l.length-m;omega))
 have hne':u≠v:=by intro e;subst e;simp at hc
 clear hc
 refine y_ ?_
 refine A.indexPart (off:=o) (n:=l.length) (c:=c) i rfl rfl rfl rfl rfl rfl rfl rfl rfl (by omega) (by omega) (by omega) rfl ?_
 refine A.loadRow rfl rfl rfl rfl rfl rfl (y':=AI v) rfl (map_at hrv) rfl rfl ?_
 refine A.indexRow rfl rfl rfl rfl rfl rfl rfl rfl (by omega) (by rw [List.length_map];omega) rfl ?_
 refine A.storeRow rfl rfl rfl rfl rfl rfl rfl rfl rfl (by rw [List.length_map];omega) (xs':=(r.set k v).map AI) List.map_set.symm ?_
 refine y_ ?_
 refine A.valE 3 rfl (x':=AI ((k+1:Nat):Int)) (inc_eq k (by omega)) ?_
 refine A.valE 5 rfl (x':=AI ((m+1:Nat):Int)) (inc_eq m (by omega)) ?_
 refine u_ (ih (m+1,k+1,r.set k v) ⟨by omega,by show i+(m+1)<=_;omega,by show CompI l (r.set k v) (i+(m+1)) (k+1);exact hj3.put (by omega) hu hv hne'⟩ (by show l.length-(m+1)<l.length-m;omega))
end Go.Proofs.YtkbolbpojpmicaaGreat
namespace Go.Tp
open Go Go.RowKit
abbrev aI19(n:Int):AV:= .v (.int .i64 n)
theorem RpC_ints{h:GH}: ∀{l:List Int} {zs:List Value},RpC h (l.map aI19) zs->zs=l.map (Value.int .i64)
 | [],zs,r=>by rw [List.map_nil,RpC_nil] at r;rw [r];rfl
 |x::l,zs,r=>by
  rw [List.map_cons,RpC_cons] at r
  obtain ⟨v,vs,rfl,r1,r2⟩:=r
  rw [Rp_v] at r1
  rw [r1.1,RpC_ints r2];rfl
theorem ints_RpC(h:GH): ∀l:List Int,RpC h (l.map aI19) (l.map (Value.int .i64))
 | []=>RpC_nil.2 rfl
 |x::l=>RpC_cons.2 ⟨_,_,rfl,Rp_v.2 ⟨rfl,rfl⟩,ints_RpC h l⟩
section
variable{P:Program}{gs:Ua}{ρ:Shelf.Ren}
theorem catL_ints: ∀l:List Int,catL (l.map (Value.int .i64))=l.map (Value.int .i64)
 | []=>rfl
 |x::l=>by show cellsL _++catL (l.map _)=_;rw [cellsL_one (show oneC (Value.int .i64 x)=true from rfl),catL_ints l];rfl
theorem sortInts_fun(L:Go.Proofs.Lays.n189 P ρ)(hfn: ∃g c,P.funcs[ρ.f 189]? =some g/\g.body=some c/\(g.name== "runtime.NumGoroutine")=false)(z:Value)(n:Nat)(ks:List Int)(hsz:ks.length<4611686018427387904):
 Fun P gs (ρ.f 189) [.ms z 1 n] [.row 1 z (ks.map aI19)] fun y Λ'=>y= .tp []/\Λ'=[.row 1 z ((ks.mergeSort fun x y=>decide (x<=y)).map aI19)]:=by
 intro w0 h vs LL F hg r q
 rw [RpC_cons] at r
 obtain ⟨u,us,rfl,r1,r3⟩:=r
 rw [RpC_nil] at r3;subst r3
 rw [Rp_ms] at r1
 obtain ⟨rfl,_⟩:=r1
 obtain ⟨M,L2,rfl,⟨p,hrow,rfl⟩,q2⟩:=q
 have q2:L2=[]:=q2
 subst q2
 refine ⟨hfn,fun w s=>?_⟩
 have hrow':=hrow
 obtain ⟨a,cap,zs,e1,e2,e3,e4,e5⟩:=hrow
 rw [List.length_map] at e1 e2
 subst e1
 have hzs:=RpC_ints e3.rp
 subst hzs
 by_cases hn:0<ks.length
 ·rcases e5 with ⟨e5,_⟩|⟨b,o,sp,rfl,rfl,e6⟩
  ·simp at e5;subst e5;simp at hn
  have hcz:=catL_ints ks
  have hH:Sort.Holds (Value.int .i64) w b o ks.toArray:=by
   intro j hj
   have hj:j<ks.length:=by simpa using hj
   have kk:=s.own _ (List.mem_cons_self ..)
   have hv:(ks.map (Value.int .i64))[j]? =some (Value.int .i64 ks.toArray[j]!):=by
    rw [List.getElem?_map,List.getElem?_eq_getElem hj,getElem!_pos ks.toArray j (by simpa using hj)];simp
   exact ⟨kk.cell j _ (by show (catL (ks.map (Value.int .i64))++sp)[j]? =_;rw [hcz,List.getElem?_append_left (by simpa using hj)];exact hv),kk.warm j (by show j<(catL (ks.map (Value.int .i64))++sp).length;rw [hcz,List.length_append,List.length_map];omega)⟩
  have hcall:=Go.Proofs.Any.slices_Sort_int L b o cap ks w hH (lt_of_cell (hH 0 (by simpa using hn)).1) hsz
  refine hcall.mono fun e w' ⟨he,m,os,h3⟩=>?_
  subst h3
  have hml:(ks.mergeSort fun x y=>decide (x<=y)).length=ks.length:=List.length_mergeSort _
  have hst:=s.sorted (enc:=Value.int .i64) (d:=ks.toArray) (d':=(ks.mergeSort fun x y=>decide (x<=y)).toArray) (n:=m) (os:=os) (by rw [hcz,List.length_append,List.length_map];simp) (by simpa using hn) hH (by simp [hml]) (fun j hj=>rfl)
  have e7:(catL (ks.map (Value.int .i64))++sp).drop ks.toArray.size=sp:=by
   rw [hcz,List.drop_left' (by simp)]
  rw [e7] at hst
  refine ⟨_,h,_,he,⟨.tp [],[.row 1 _ ((ks.mergeSort fun x y=>decide (x<=y)).map aI19)],_,⟨rfl,rfl⟩,?_,GH.le_refl _,⟨[_],[],rfl,⟨_,⟨some ⟨b,o,none⟩,cap,(ks.mergeSort fun x y=>decide (x<=y)).map (Value.int .i64),?_,?_,⟨?_,?_,?_⟩,rfl, .inr ⟨b,o,sp,rfl,rfl,?_⟩⟩,rfl⟩,rfl⟩,rfl⟩,?_⟩
  ·rw [Rp_tp];exact ⟨[],rfl,RpC_nil.2 rfl⟩
  ·rw [List.length_map,hml]
  ·rw [List.length_map,hml];exact e2
  ·exact ints_RpC h _
  ·intro z hz';obtain ⟨i,_,rfl⟩:=List.mem_map.1 hz';rfl
  ·intro z hz';obtain ⟨i,_,rfl⟩:=List.mem_map.1 hz';rfl
  ·rw [e6,List.length_map,List.length_map,hml]
  ·rw [catL_ints];exact hst
 ·have hk0:ks=[]:=List.eq_nil_of_length_eq_zero (by omega)
  subst hk0
  refine (Go.Proofs.Any.slices_Sort_int_none L a cap w).mono fun e w' ⟨he,hw⟩=>?_
  subst hw
  exact ⟨_,h,_,he,⟨.tp [],[.row 1 _ []],_,⟨rfl,by rw [List.mergeSort_nil];rfl⟩,Rp_tp.2 ⟨[],rfl,RpC_nil.2 rfl⟩,GH.le_refl _,⟨[p],[],rfl,⟨p,hrow',rfl⟩,rfl⟩,rfl⟩,s⟩
end
end Go.Tp
namespace Go.Proofs
open Go.Shelf
def Tryz.lays189_ren:Go.Shelf.Ren:=⟨fun|189=>54|125=>94|257=>96|128=>163|129=>164|294=>165|295=>166|296=>167|297=>168|298=>169|299=>170|216=>171|300=>172|301=>173|328=>239|329=>235|330=>236|331=>240|332=>241|215=>188|343=>294|n=>n,fun|28=>32|3=>3|46=>167|0=>0|51=>234|53=>236|4=>4|183=>228|182=>227|131=>143|5=>5|9=>9|218=>315|222=>319|228=>354|229=>355|n=>n,fun|n=>n⟩
theorem Tryz.lays189:Go.Proofs.Lays.n189 Tryz.prog Tryz.lays189_ren:={
 mixed:=by kernel_rfl
 f125:=Tryz.func94.trans (congrArg some (by kernel_rfl))
 f128:=Tryz.func163.trans (congrArg some (by kernel_rfl))
 f129:=Tryz.func164.trans (congrArg some (by kernel_rfl))
 f189:=Tryz.func54.trans (congrArg some (by kernel_rfl))
 f215:=Tryz.func188.trans (congrArg some (by kernel_rfl))
 f216:=Tryz.func171.trans (congrArg some (by kernel_rfl))
 f257:=Tryz.func96.trans (congrArg some (by kernel_rfl))
 f294:=Tryz.func165.trans (congrArg some (by kernel_rfl))
 f295:=Tryz.func166.trans (congrArg some (by kernel_rfl))
 f296:=Tryz.func167.trans (congrArg some (by kernel_rfl))
 f297:=Tryz.func168.trans (congrArg some (by kernel_rfl))
 f298:=Tryz.func169.trans (congrArg some (by kernel_rfl))
 f299:=Tryz.func170.trans (congrArg some (by kernel_rfl))
 f300:=Tryz.func172.trans (congrArg some (by kernel_rfl))
 f301:=Tryz.func173.trans (congrArg some (by kernel_rfl))
 f328:=Tryz.func239.trans (congrArg some (by kernel_rfl))
 f329:=Tryz.func235.trans (congrArg some (by kernel_rfl))
 f330:=Tryz.func236.trans (congrArg some (by kernel_rfl))
 f331:=Tryz.func240.trans (congrArg some (by kernel_rfl))
 f332:=Tryz.func241.trans (congrArg some (by kernel_rfl))
 f343:=Tryz.func294.trans (congrArg some (by kernel_rfl))
 t0:=Tryz.underlying0
 a0:=Tryz.isAgg0
 z0:=Tryz.sizeOf0
 v0:=Tryz.zeroValue0
 t3:=Tryz.underlying3
 a3:=Tryz.isAgg3
 z3:=Tryz.sizeOf3
 v3:=Tryz.zeroValue3
 t4:=Tryz.underlying4
 a4:=Tryz.isAgg4
 z4:=Tryz.sizeOf4
 v4:=Tryz.zeroValue4
 t5:=Tryz.underlying5
 a5:=Tryz.isAgg5
 z5:=Tryz.sizeOf5
 v5:=Tryz.zeroValue5
 t9:=Tryz.underlying9
 a9:=Tryz.isAgg9
 z9:=Tryz.sizeOf9
 v9:=Tryz.zeroValue9
 t28:=Tryz.underlying32
 a28:=Tryz.isAgg32
 z28:=Tryz.sizeOf32
 v28:=Tryz.zeroValue32
 t46:=Tryz.underlying167
 a46:=Tryz.isAgg167
 z46:=Tryz.sizeOf167
 v46:=Tryz.zeroValue167
 t51:=Tryz.underlying234
 a51:=Tryz.isAgg234
 z51:=Tryz.sizeOf234
 v51:=Tryz.zeroValue234
 t53:=Tryz.underlying236
 a53:=Tryz.isAgg236
 z53:=Tryz.sizeOf236
 v53:=Tryz.zeroValue236
 t131:=Tryz.underlying143
 a131:=Tryz.isAgg143
 z131:=Tryz.sizeOf143
 v131:=Tryz.zeroValue143
 t182:=Tryz.underlying227
 a182:=Tryz.isAgg227
 z182:=Tryz.sizeOf227
 v182:=Tryz.zeroValue227
 t183:=Tryz.underlying228
 a183:=Tryz.isAgg228
 z183:=Tryz.sizeOf228
 v183:=Tryz.zeroValue228
 t218:=Tryz.underlying315
 a218:=Tryz.isAgg315
 z218:=Tryz.sizeOf315
 v218:=Tryz.zeroValue315
 t222:=Tryz.underlying319
 a222:=Tryz.isAgg319
 z222:=Tryz.sizeOf319
 v222:=Tryz.zeroValue319
 t228:=Tryz.underlying354
 a228:=Tryz.isAgg354
 z228:=Tryz.sizeOf354
 v228:=Tryz.zeroValue354
 t229:=Tryz.underlying355
 a229:=Tryz.isAgg355
 z229:=Tryz.sizeOf355
 v229:=Tryz.zeroValue355}
end Go.Proofs
namespace Go.Proofs.YtkbolbpojpmicaaGreat
open Go Go.Tp
abbrev yC(b:Nat):AV:= .fn 53 [] [ptrA b]
abbrev chL(b:Nat)(z:Value)(l:List Int):List AEnt:=[.box b (.ms z 1 l.length), .row 1 z (l.map AI)]
theorem nil_ms19{h:GH}(sz:Nat){y:Value}(r:Rp h (.v (.slice none 0 0)) y):Rp h (.ms (.slice none 0 0) sz 0) y:=by
 rw [Rp_v] at r;rw [r.1];exact Rp_ms.2 ⟨rfl,none,0,rfl⟩
theorem push_p(b:Nat)(z:Value)(l:List Int)(c:Int)(hl:l.length<=1048576):FunE Tryz.prog gs0 53 [AI c,ptrA b] (chL b z l) (fun _:Value=> .tp []) (fun z'=>chL b z' (l++[c])) (fun _=>True):=by
 unfold FunE
 refine Fun.of (S:=tt) (fn:=Tryz.f53) (n:=7) tt_ok Tryz.func53 rfl rfl rfl rfl fun w0 h0 F hgs=>?_
 refine t_ fun bl=>?_
 refine A.appendRowE rfl rfl rfl rfl rfl rfl rfl rfl rfl rfl rfl rfl rfl rfl (by show ((l.map AI).length+1)*1<=_;rw [List.length_map];omega) (by show ((l.map AI).length+1)*1*8<=_;rw [List.length_map];omega) fun z2=>?_
 refine y_ ?_
 refine A.perm (.swap _ _ _) ?_
 refine A.entsEq (Λ':=chL b z2 (l++[c])) (by
  show [AEnt.box b (.ms z2 1 ((l.map AI).length+1)), .row 1 z2 (l.map AI++[AI c])]=[.box b (.ms z2 1 (l++[c]).length), .row 1 z2 ((l++[c]).map AI)]
  rw [List.length_map,List.length_append,List.map_append];rfl) ?_
 exact A.ret0 rfl rfl (.refl _) ⟨z2, .refl,rfl,trivial⟩
theorem rawCl_app: ∀a b:List PR,rawCl (a++b)=rawCl a++rawCl b
 | [],b=>by rw [rawCl];rfl
 |x::a,b=>by rw [List.cons_append,rawCl,rawCl,rawCl_app a b,List.append_assoc]
theorem rawCg_app: ∀a b:List GD,rawCg (a++b)=rawCg a++rawCg b
 | [],b=>by rw [rawCg];rfl
 |⟨k,cd,c,it,to,tm,bd⟩::a,b=>by rw [List.cons_append,rawCg,rawCg,rawCg_app a b];simp only [List.append_assoc]
theorem rawCg_one(g:GD):rawCg [g]=(if g.kind=3 then [g.c] else [])++rawCl g.body:=by
 obtain ⟨k,cd,c,it,to,tm,bd⟩:=g
 rw [rawCg,rawCg,List.append_nil]
theorem rawCl_take{l:List PR}{i:Nat}{x:PR}(h:l[i]? =some x):rawCl (l.take (i+1))=rawCl (l.take i)++rawC x:=by
 rw [List.take_add_one,h,rawCl_app]
 show _++rawCl [x]=_
 rw [rawCl,rawCl,List.append_nil]
theorem rawCg_take{l:List GD}{i:Nat}{g:GD}(h:l[i]? =some g):rawCg (l.take (i+1))=rawCg (l.take i)++((if g.kind=3 then [g.c] else [])++rawCl g.body):=by
 rw [List.take_add_one,h,rawCg_app]
 show _++rawCg [g]=_
 rw [rawCg_one]
theorem rawCl_pre(l:List PR)(i:Nat):(rawCl (l.take i)).length<=(rawCl l).length:=by
 have:=rawCl_app (l.take i) (l.drop i)
 rw [List.take_append_drop] at this
 rw [this,List.length_append];omega
theorem rawCg_pre(l:List GD)(i:Nat):(rawCg (l.take i)).length<=(rawCg l).length:=by
 have:=rawCg_app (l.take i) (l.drop i)
 rw [List.take_append_drop] at this
 rw [this,List.length_append];omega
abbrev WalkC(p:PR):Prop:= ∀(b:Nat) (z:Value) (l:List Int),l.length+(rawC p).length<=1048576->FunE Tryz.prog gs0 52 [cellsR p,yC b] (chL b z l) (fun _:Value=> .tp []) (fun z'=>chL b z' (l++rawC p)) (fun _=>True)
theorem walk_f(p:PR)(hs:smR p)(hl: ∀x,x∈p.l->WalkC x)(hg': ∀g,g∈p.gs-> ∀x,x∈g.body->WalkC x):WalkC p:=by
 have hsa:=smR_all hs
 have hll:=hsa.ll
 have hgl:=hsa.gl
 have n1:((encRl p.l).length:Int)=p.l.length:=by rw [encRl_len]
 have n2:((encGl p.gs).length:Int)=p.gs.length:=by rw [encGl_len]
 intro b z0 l hbn
 have hrc:=rawC_eq p
 have hbn':=hbn
 rw [hrc,List.length_append,List.length_append] at hbn'
 unfold FunE
 by_cases h5:p.kind=5
 ·rw [if_pos (.inl h5)] at hrc hbn'
  have hpu:=push_p b z0 l p.c (by omega)
  refine Exists.elim (show∃l1,l1=l++[p.c] from ⟨_,rfl⟩) fun l1 hl1=>?_
  have hl1n:l1.length+((rawCl p.l).length+(rawCg p.gs).length)<=1048576:=by rw [hl1,List.length_append];omega
  have hfin:l++rawC p=l1++(rawCl p.l++rawCg p.gs):=by rw [hrc,hl1,List.append_assoc]
  rw [<-hl1] at hpu
  refine Fun.of (S:=tt) (fn:=Tryz.f52) (n:=59) tt_ok Tryz.func52 rfl rfl rfl rfl fun w0 h0 F hgs=>?_
  (repeat refine A.s rfl ?_)
  refine A.b rfl fun bx=>?_
  refine y_ ?_
  refine e_ 13 rfl (x':=AB true) (ab_eq (by rw [h5];rfl)) ?_
  refine A.e rfl hpu s_ (Λ2:=[.box bx (cellsR p)]) (List.perm_append_comm (l₁:=[_])) fun z1 _=>?_
  refine A.perm (Λ':= .box bx (cellsR p)::chL b z1 l1) (List.perm_append_comm (l₂:=[_])) ?_
  refine A.freeze 2 (sz:=8) rfl rfl rfl ?_
  refine l_ (Λ':=chL b z1 l1) ?_
  refine y_ ?_
  refine A.valE 24 rfl (x':=AI (p.l.length:Nat)) (ai_eq n1) ?_
  refine A.keep [1,2,23,24,25] rfl ?_
  refine A.loopP (ι:=Nat×Value) (fun v=>(⟨[(1,yC b),(2, .pe 8 (cellsR p)),(23,rsA p.l),(24,AI (p.l.length:Nat)),(25,AI (v.1:Nat))],[]⟩,chL b v.2 (l1++rawCl (p.l.take v.1)))) (fun v=>v.1<=p.l.length) (fun v=>p.l.length-v.1) (0,z1) (Nat.zero_le _) (by
   show (_,chL b z1 (l1++rawCl (p.l.take 0)))=_
   rw [List.take_zero,rawCl,List.append_nil];rfl) fun v hv ih=>?_
  obtain ⟨i,z⟩:=v
  simp only at hv
  refine y_ ?_
  by_cases hci:i<p.l.length
  ·refine Exists.elim (at_exN (l:=p.l) (i:=i) hci) fun x hx=>?_
   have htk:=rawCl_take hx
   have hpr:=rawCl_pre p.l (i+1)
   rw [htk,List.length_append] at hpr
   have hcall:=hl x (List.mem_of_getElem? hx) b z (l1++rawCl (p.l.take i)) (by rw [List.length_append];omega)
   rw [List.append_assoc,<-htk] at hcall
   refine T_ rfl (by show decide ((i:Int)<(p.l.length:Nat))=true;rw [decide_eq_true_eq];omega) ?_
   refine j_ rfl (encRl_at hx) (encR_eq x) ?_
   (repeat refine A.s rfl ?_)
   refine A.b rfl fun b5=>?_
   refine y_ ?_
   refine A.less (Λ':=chL b z (l1++rawCl (p.l.take i))) (.cons _ (.refl _)) ?_
   refine A.e rfl hcall s_ (Λ2:=[]) (by rw [List.append_nil]) fun z' _=>?_
   refine y_ ?_
   refine A.entsEq (List.append_nil _) ?_
   refine A.valE 25 rfl (x':=AI ((i+1:Nat):Int)) (inc_eq i (by omega)) ?_
   refine u_ (ih (i+1,z') (by show i+1<=_;omega) (by show _-(i+1)<_-i;omega))
  ·refine A.gF rfl (by show decide ((i:Int)<(p.l.length:Nat))=false;rw [decide_eq_false_iff_not];omega) ?_
   have htl:p.l.take i=p.l:=List.take_of_length_le (by omega)
   clear ih
   refine Exists.elim (show∃l2,l2=l1++rawCl p.l from ⟨_,rfl⟩) fun l2 hl2=>?_
   have hl2n:l2.length+(rawCg p.gs).length<=1048576:=by rw [hl2,List.length_append];omega
   refine A.entsEq (Λ':=chL b z l2) (by rw [hl2];show chL b z (l1++rawCl (p.l.take i))=_;rw [htl]) ?_
   refine y_ ?_
   refine A.valE 35 rfl (x':=AI (p.gs.length:Nat)) (ai_eq n2) ?_
   refine A.keep [1,2,34,35,36] rfl ?_
   refine A.loopP (ι:=Nat×Value) (fun v=>(⟨[(1,yC b),(2, .pe 8 (cellsR p)),(34,gsA p.gs),(35,AI (p.gs.length:Nat)),(36,AI (v.1:Nat))],[]⟩,chL b v.2 (l2++rawCg (p.gs.take v.1)))) (fun v=>v.1<=p.gs.length) (fun v=>p.gs.length-v.1) (0,z) (Nat.zero_le _) (by
    show (_,chL b z (l2++rawCg (p.gs.take 0)))=_
    rw [List.take_zero,rawCg,List.append_nil];rfl) fun v hv ih=>?_
   obtain ⟨j,z2⟩:=v
   simp only at hv
   refine y_ ?_
   by_cases hcj:j<p.gs.length
   ·refine Exists.elim (at_exN (l:=p.gs) (i:=j) hcj) fun g hg=>?_
    have hgm:=List.mem_of_getElem? hg
    have hgk:=rawCg_take hg
    have hgp:=rawCg_pre p.gs (j+1)
    rw [hgk,List.length_append,List.length_append] at hgp
    have n3:((encRl g.body).length:Int)=g.body.length:=by rw [encRl_len]
    have hbl:=(smG_all (hsa.g g hgm)).bl
    refine T_ rfl (by show decide ((j:Int)<(p.gs.length:Nat))=true;rw [decide_eq_true_eq];omega) ?_
    refine j_ rfl (encGl_at hg) (encG_eq g) ?_
    (repeat refine A.s rfl ?_)
    refine A.b rfl fun b7=>?_
    refine y_ ?_
    refine A.freeze 7 (sz:=18) rfl rfl rfl ?_
    refine l_ (Λ':=chL b z2 (l2++rawCg (p.gs.take j))) ?_
    by_cases hk3:g.kind=3
    ·rw [if_pos hk3] at hgk hgp
     simp only [List.length_cons,List.length_nil] at hgp
     have hpu:=push_p b z2 (l2++rawCg (p.gs.take j)) g.c (by rw [List.length_append];omega)
     refine Exists.elim (show∃l3,l3=l2++rawCg (p.gs.take j)++[g.c] from ⟨_,rfl⟩) fun l3 hl3=>?_
     have hl3n:l3.length+(rawCl g.body).length<=1048576:=by rw [hl3,List.length_append,List.length_append,List.length_singleton];omega
     have hl3e:l2++rawCg (p.gs.take (j+1))=l3++rawCl g.body:=by rw [hgk,hl3];simp
     rw [<-hl3] at hpu
     refine T_ rfl (by show (g.kind==3)=true;simpa using hk3) ?_
     refine A.e rfl hpu s_ (Λ2:=[]) (by rw [List.append_nil]) fun z3 _=>?_
     refine A.entsEq (List.append_nil _) ?_
     refine y_ ?_
     refine A.valE 49 rfl (x':=AI (g.body.length:Nat)) (ai_eq n3) ?_
     refine A.keep [1,2,34,35,36,48,49,50] rfl ?_
     refine A.loopP (ι:=Nat×Value) (fun v=>(⟨[(1,yC b),(2, .pe 8 (cellsR p)),(34,gsA p.gs),(35,AI (p.gs.length:Nat)),(36,AI (j:Nat)),(48,rsA g.body),(49,AI (g.body.length:Nat)),(50,AI (v.1:Nat))],[]⟩,chL b v.2 (l3++rawCl (g.body.take v.1)))) (fun v=>v.1<=g.body.length) (fun v=>g.body.length-v.1) (0,z3) (Nat.zero_le _) (by
      show (_,chL b z3 (l3++rawCl (g.body.take 0)))=_
      rw [List.take_zero,rawCl,List.append_nil];rfl) fun v hv jh=>?_
     obtain ⟨k,z4⟩:=v
     simp only at hv
     refine y_ ?_
     by_cases hck:k<g.body.length
     ·refine Exists.elim (at_exN (l:=g.body) (i:=k) hck) fun x hx=>?_
      have htk:=rawCl_take hx
      have hpr:=rawCl_pre g.body (k+1)
      rw [htk,List.length_append] at hpr
      have hcall:=hg' g hgm x (List.mem_of_getElem? hx) b z4 (l3++rawCl (g.body.take k)) (by rw [List.length_append];omega)
      rw [List.append_assoc,<-htk] at hcall
      refine T_ rfl (by show decide ((k:Int)<(g.body.length:Nat))=true;rw [decide_eq_true_eq];omega) ?_
      refine j_ rfl (encRl_at hx) (encR_eq x) ?_
      (repeat refine A.s rfl ?_)
      refine A.b rfl fun b9=>?_
      refine y_ ?_
      refine A.less (Λ':=chL b z4 (l3++rawCl (g.body.take k))) (.cons _ (.refl _)) ?_
      refine A.e rfl hcall s_ (Λ2:=[]) (by rw [List.append_nil]) fun z' _=>?_
      refine y_ ?_
      refine A.entsEq (List.append_nil _) ?_
      refine A.valE 50 rfl (x':=AI ((k+1:Nat):Int)) (inc_eq k (by omega)) ?_
      refine u_ (jh (k+1,z') (by show k+1<=_;omega) (by show _-(k+1)<_-k;omega))
     ·refine A.gF rfl (by show decide ((k:Int)<(g.body.length:Nat))=false;rw [decide_eq_false_iff_not];omega) ?_
      have htb:g.body.take k=g.body:=List.take_of_length_le (by omega)
      refine A.entsEq (Λ':=chL b z4 (l2++rawCg (p.gs.take (j+1)))) (by rw [hl3e];show chL b z4 (l3++rawCl (g.body.take k))=_;rw [htb]) ?_
      refine y_ ?_
      refine A.valE 36 rfl (x':=AI ((j+1:Nat):Int)) (inc_eq j (by omega)) ?_
      refine u_ (ih (j+1,z4) (by show j+1<=_;omega) (by show _-(j+1)<_-j;omega))
    ·rw [if_neg hk3] at hgk hgp
     refine Exists.elim (show∃l3,l3=l2++rawCg (p.gs.take j) from ⟨_,rfl⟩) fun l3 hl3=>?_
     refine Exists.elim (show∃z3,z3=z2 from ⟨_,rfl⟩) fun z3 hz3=>?_
     have hl3n:l3.length+(rawCl g.body).length<=1048576:=by rw [hl3,List.length_append];simp only [List.length_nil] at hgp;omega
     have hl3e:l2++rawCg (p.gs.take (j+1))=l3++rawCl g.body:=by rw [hgk,hl3];simp
     refine A.gF rfl (by show (g.kind==3)=false;simpa using hk3) ?_
     refine A.entsEq (Λ':=chL b z3 l3) (by rw [hl3,hz3]) ?_
     refine y_ ?_
     refine A.valE 49 rfl (x':=AI (g.body.length:Nat)) (ai_eq n3) ?_
     refine A.keep [1,2,34,35,36,48,49,50] rfl ?_
     refine A.loopP (ι:=Nat×Value) (fun v=>(⟨[(1,yC b),(2, .pe 8 (cellsR p)),(34,gsA p.gs),(35,AI (p.gs.length:Nat)),(36,AI (j:Nat)),(48,rsA g.body),(49,AI (g.body.length:Nat)),(50,AI (v.1:Nat))],[]⟩,chL b v.2 (l3++rawCl (g.body.take v.1)))) (fun v=>v.1<=g.body.length) (fun v=>g.body.length-v.1) (0,z3) (Nat.zero_le _) (by
      show (_,chL b z3 (l3++rawCl (g.body.take 0)))=_
      rw [List.take_zero,rawCl,List.append_nil];rfl) fun v hv jh=>?_
     obtain ⟨k,z4⟩:=v
     simp only at hv
     refine y_ ?_
     by_cases hck:k<g.body.length
     ·refine Exists.elim (at_exN (l:=g.body) (i:=k) hck) fun x hx=>?_
      have htk:=rawCl_take hx
      have hpr:=rawCl_pre g.body (k+1)
      rw [htk,List.length_append] at hpr
      have hcall:=hg' g hgm x (List.mem_of_getElem? hx) b z4 (l3++rawCl (g.body.take k)) (by rw [List.length_append];omega)
      rw [List.append_assoc,<-htk] at hcall
      refine T_ rfl (by show decide ((k:Int)<(g.body.length:Nat))=true;rw [decide_eq_true_eq];omega) ?_
      refine j_ rfl (encRl_at hx) (encR_eq x) ?_
      (repeat refine A.s rfl ?_)
      refine A.b rfl fun b9=>?_
      refine y_ ?_
      refine A.less (Λ':=chL b z4 (l3++rawCl (g.body.take k))) (.cons _ (.refl _)) ?_
      refine A.e rfl hcall s_ (Λ2:=[]) (by rw [List.append_nil]) fun z' _=>?_
      refine y_ ?_
      refine A.entsEq (List.append_nil _) ?_
      refine A.valE 50 rfl (x':=AI ((k+1:Nat):Int)) (inc_eq k (by omega)) ?_
      refine u_ (jh (k+1,z') (by show k+1<=_;omega) (by show _-(k+1)<_-k;omega))
     ·refine A.gF rfl (by show decide ((k:Int)<(g.body.length:Nat))=false;rw [decide_eq_false_iff_not];omega) ?_
      have htb:g.body.take k=g.body:=List.take_of_length_le (by omega)
      refine A.entsEq (Λ':=chL b z4 (l2++rawCg (p.gs.take (j+1)))) (by rw [hl3e];show chL b z4 (l3++rawCl (g.body.take k))=_;rw [htb]) ?_
      refine y_ ?_
      refine A.valE 36 rfl (x':=AI ((j+1:Nat):Int)) (inc_eq j (by omega)) ?_
      refine u_ (ih (j+1,z4) (by show j+1<=_;omega) (by show _-(j+1)<_-j;omega))
   ·refine A.gF rfl (by show decide ((j:Int)<(p.gs.length:Nat))=false;rw [decide_eq_false_iff_not];omega) ?_
    have htg:p.gs.take j=p.gs:=List.take_of_length_le (by omega)
    refine A.entsEq (Λ':=chL b z2 (l++rawC p)) (by rw [hfin,<-List.append_assoc,<-hl2];show chL b z2 (l2++rawCg (p.gs.take j))=_;rw [htg]) ?_
    refine y_ ?_
    exact A.ret0 rfl rfl (.refl _) ⟨z2, .refl,rfl,trivial⟩
 by_cases h6:p.kind=6
 ·rw [if_pos (.inr h6)] at hrc hbn'
  have hpu:=push_p b z0 l p.c (by omega)
  refine Exists.elim (show∃l1,l1=l++[p.c] from ⟨_,rfl⟩) fun l1 hl1=>?_
  have hl1n:l1.length+((rawCl p.l).length+(rawCg p.gs).length)<=1048576:=by rw [hl1,List.length_append];omega
  have hfin:l++rawC p=l1++(rawCl p.l++rawCg p.gs):=by rw [hrc,hl1,List.append_assoc]
  rw [<-hl1] at hpu
  refine Fun.of (S:=tt) (fn:=Tryz.f52) (n:=59) tt_ok Tryz.func52 rfl rfl rfl rfl fun w0 h0 F hgs=>?_
  (repeat refine A.s rfl ?_)
  refine A.b rfl fun bx=>?_
  refine y_ ?_
  refine e_ 13 rfl (x':=AB false) (ab_eq (beq_eq_false_iff_ne.2 h5)) ?_
  refine T_ rfl (by rw [h6];rfl) ?_
  refine A.e rfl hpu s_ (Λ2:=[.box bx (cellsR p)]) (List.perm_append_comm (l₁:=[_])) fun z1 _=>?_
  refine A.perm (Λ':= .box bx (cellsR p)::chL b z1 l1) (List.perm_append_comm (l₂:=[_])) ?_
  refine A.freeze 2 (sz:=8) rfl rfl rfl ?_
  refine l_ (Λ':=chL b z1 l1) ?_
  refine y_ ?_
  refine A.valE 24 rfl (x':=AI (p.l.length:Nat)) (ai_eq n1) ?_
  refine A.keep [1,2,23,24,25] rfl ?_
  refine A.loopP (ι:=Nat×Value) (fun v=>(⟨[(1,yC b),(2, .pe 8 (cellsR p)),(23,rsA p.l),(24,AI (p.l.length:Nat)),(25,AI (v.1:Nat))],[]⟩,chL b v.2 (l1++rawCl (p.l.take v.1)))) (fun v=>v.1<=p.l.length) (fun v=>p.l.length-v.1) (0,z1) (Nat.zero_le _) (by
   show (_,chL b z1 (l1++rawCl (p.l.take 0)))=_
   rw [List.take_zero,rawCl,List.append_nil];rfl) fun v hv ih=>?_
  obtain ⟨i,z⟩:=v
  simp only at hv
  refine y_ ?_
  by_cases hci:i<p.l.length
  ·refine Exists.elim (at_exN (l:=p.l) (i:=i) hci) fun x hx=>?_
   have htk:=rawCl_take hx
   have hpr:=rawCl_pre p.l (i+1)
   rw [htk,List.length_append] at hpr
   have hcall:=hl x (List.mem_of_getElem? hx) b z (l1++rawCl (p.l.take i)) (by rw [List.length_append];omega)
   rw [List.append_assoc,<-htk] at hcall
   refine T_ rfl (by show decide ((i:Int)<(p.l.length:Nat))=true;rw [decide_eq_true_eq];omega) ?_
   refine j_ rfl (encRl_at hx) (encR_eq x) ?_
   (repeat refine A.s rfl ?_)
   refine A.b rfl fun b5=>?_
   refine y_ ?_
   refine A.less (Λ':=chL b z (l1++rawCl (p.l.take i))) (.cons _ (.refl _)) ?_
   refine A.e rfl hcall s_ (Λ2:=[]) (by rw [List.append_nil]) fun z' _=>?_
   refine y_ ?_
   refine A.entsEq (List.append_nil _) ?_
   refine A.valE 25 rfl (x':=AI ((i+1:Nat):Int)) (inc_eq i (by omega)) ?_
   refine u_ (ih (i+1,z') (by show i+1<=_;omega) (by show _-(i+1)<_-i;omega))
  ·refine A.gF rfl (by show decide ((i:Int)<(p.l.length:Nat))=false;rw [decide_eq_false_iff_not];omega) ?_
   have htl:p.l.take i=p.l:=List.take_of_length_le (by omega)
   clear ih
   refine Exists.elim (show∃l2,l2=l1++rawCl p.l from ⟨_,rfl⟩) fun l2 hl2=>?_
   have hl2n:l2.length+(rawCg p.gs).length<=1048576:=by rw [hl2,List.length_append];omega
   refine A.entsEq (Λ':=chL b z l2) (by rw [hl2];show chL b z (l1++rawCl (p.l.take i))=_;rw [htl]) ?_
   refine y_ ?_
   refine A.valE 35 rfl (x':=AI (p.gs.length:Nat)) (ai_eq n2) ?_
   refine A.keep [1,2,34,35,36] rfl ?_
   refine A.loopP (ι:=Nat×Value) (fun v=>(⟨[(1,yC b),(2, .pe 8 (cellsR p)),(34,gsA p.gs),(35,AI (p.gs.length:Nat)),(36,AI (v.1:Nat))],[]⟩,chL b v.2 (l2++rawCg (p.gs.take v.1)))) (fun v=>v.1<=p.gs.length) (fun v=>p.gs.length-v.1) (0,z) (Nat.zero_le _) (by
    show (_,chL b z (l2++rawCg (p.gs.take 0)))=_
    rw [List.take_zero,rawCg,List.append_nil];rfl) fun v hv ih=>?_
   obtain ⟨j,z2⟩:=v
   simp only at hv
   refine y_ ?_
   by_cases hcj:j<p.gs.length
   ·refine Exists.elim (at_exN (l:=p.gs) (i:=j) hcj) fun g hg=>?_
    have hgm:=List.mem_of_getElem? hg
    have hgk:=rawCg_take hg
    have hgp:=rawCg_pre p.gs (j+1)
    rw [hgk,List.length_append,List.length_append] at hgp
    have n3:((encRl g.body).length:Int)=g.body.length:=by rw [encRl_len]
    have hbl:=(smG_all (hsa.g g hgm)).bl
    refine T_ rfl (by show decide ((j:Int)<(p.gs.length:Nat))=true;rw [decide_eq_true_eq];omega) ?_
    refine j_ rfl (encGl_at hg) (encG_eq g) ?_
    (repeat refine A.s rfl ?_)
    refine A.b rfl fun b7=>?_
    refine y_ ?_
    refine A.freeze 7 (sz:=18) rfl rfl rfl ?_
    refine l_ (Λ':=chL b z2 (l2++rawCg (p.gs.take j))) ?_
    by_cases hk3:g.kind=3
    ·rw [if_pos hk3] at hgk hgp
     simp only [List.length_cons,List.length_nil] at hgp
     have hpu:=push_p b z2 (l2++rawCg (p.gs.take j)) g.c (by rw [List.length_append];omega)
     refine Exists.elim (show∃l3,l3=l2++rawCg (p.gs.take j)++[g.c] from ⟨_,rfl⟩) fun l3 hl3=>?_
     have hl3n:l3.length+(rawCl g.body).length<=1048576:=by rw [hl3,List.length_append,List.length_append,List.length_singleton];omega
     have hl3e:l2++rawCg (p.gs.take (j+1))=l3++rawCl g.body:=by rw [hgk,hl3];simp
     rw [<-hl3] at hpu
     refine T_ rfl (by show (g.kind==3)=true;simpa using hk3) ?_
     refine A.e rfl hpu s_ (Λ2:=[]) (by rw [List.append_nil]) fun z3 _=>?_
     refine A.entsEq (List.append_nil _) ?_
     refine y_ ?_
     refine A.valE 49 rfl (x':=AI (g.body.length:Nat)) (ai_eq n3) ?_
     refine A.keep [1,2,34,35,36,48,49,50] rfl ?_
     refine A.loopP (ι:=Nat×Value) (fun v=>(⟨[(1,yC b),(2, .pe 8 (cellsR p)),(34,gsA p.gs),(35,AI (p.gs.length:Nat)),(36,AI (j:Nat)),(48,rsA g.body),(49,AI (g.body.length:Nat)),(50,AI (v.1:Nat))],[]⟩,chL b v.2 (l3++rawCl (g.body.take v.1)))) (fun v=>v.1<=g.body.length) (fun v=>g.body.length-v.1) (0,z3) (Nat.zero_le _) (by
      show (_,chL b z3 (l3++rawCl (g.body.take 0)))=_
      rw [List.take_zero,rawCl,List.append_nil];rfl) fun v hv jh=>?_
     obtain ⟨k,z4⟩:=v
     simp only at hv
     refine y_ ?_
     by_cases hck:k<g.body.length
     ·refine Exists.elim (at_exN (l:=g.body) (i:=k) hck) fun x hx=>?_
      have htk:=rawCl_take hx
      have hpr:=rawCl_pre g.body (k+1)
      rw [htk,List.length_append] at hpr
      have hcall:=hg' g hgm x (List.mem_of_getElem? hx) b z4 (l3++rawCl (g.body.take k)) (by rw [List.length_append];omega)
      rw [List.append_assoc,<-htk] at hcall
      refine T_ rfl (by show decide ((k:Int)<(g.body.length:Nat))=true;rw [decide_eq_true_eq];omega) ?_
      refine j_ rfl (encRl_at hx) (encR_eq x) ?_
      (repeat refine A.s rfl ?_)
      refine A.b rfl fun b9=>?_
      refine y_ ?_
      refine A.less (Λ':=chL b z4 (l3++rawCl (g.body.take k))) (.cons _ (.refl _)) ?_
      refine A.e rfl hcall s_ (Λ2:=[]) (by rw [List.append_nil]) fun z' _=>?_
      refine y_ ?_
      refine A.entsEq (List.append_nil _) ?_
      refine A.valE 50 rfl (x':=AI ((k+1:Nat):Int)) (inc_eq k (by omega)) ?_
      refine u_ (jh (k+1,z') (by show k+1<=_;omega) (by show _-(k+1)<_-k;omega))
     ·refine A.gF rfl (by show decide ((k:Int)<(g.body.length:Nat))=false;rw [decide_eq_false_iff_not];omega) ?_
      have htb:g.body.take k=g.body:=List.take_of_length_le (by omega)
      refine A.entsEq (Λ':=chL b z4 (l2++rawCg (p.gs.take (j+1)))) (by rw [hl3e];show chL b z4 (l3++rawCl (g.body.take k))=_;rw [htb]) ?_
      refine y_ ?_
      refine A.valE 36 rfl (x':=AI ((j+1:Nat):Int)) (inc_eq j (by omega)) ?_
      refine u_ (ih (j+1,z4) (by show j+1<=_;omega) (by show _-(j+1)<_-j;omega))
    ·rw [if_neg hk3] at hgk hgp
     refine Exists.elim (show∃l3,l3=l2++rawCg (p.gs.take j) from ⟨_,rfl⟩) fun l3 hl3=>?_
     refine Exists.elim (show∃z3,z3=z2 from ⟨_,rfl⟩) fun z3 hz3=>?_
     have hl3n:l3.length+(rawCl g.body).length<=1048576:=by rw [hl3,List.length_append];simp only [List.length_nil] at hgp;omega
     have hl3e:l2++rawCg (p.gs.take (j+1))=l3++rawCl g.body:=by rw [hgk,hl3];simp
     refine A.gF rfl (by show (g.kind==3)=false;simpa using hk3) ?_
     refine A.entsEq (Λ':=chL b z3 l3) (by rw [hl3,hz3]) ?_
     refine y_ ?_
     refine A.valE 49 rfl (x':=AI (g.body.length:Nat)) (ai_eq n3) ?_
     refine A.keep [1,2,34,35,36,48,49,50] rfl ?_
     refine A.loopP (ι:=Nat×Value) (fun v=>(⟨[(1,yC b),(2, .pe 8 (cellsR p)),(34,gsA p.gs),(35,AI (p.gs.length:Nat)),(36,AI (j:Nat)),(48,rsA g.body),(49,AI (g.body.length:Nat)),(50,AI (v.1:Nat))],[]⟩,chL b v.2 (l3++rawCl (g.body.take v.1)))) (fun v=>v.1<=g.body.length) (fun v=>g.body.length-v.1) (0,z3) (Nat.zero_le _) (by
      show (_,chL b z3 (l3++rawCl (g.body.take 0)))=_
      rw [List.take_zero,rawCl,List.append_nil];rfl) fun v hv jh=>?_
     obtain ⟨k,z4⟩:=v
     simp only at hv
     refine y_ ?_
     by_cases hck:k<g.body.length
     ·refine Exists.elim (at_exN (l:=g.body) (i:=k) hck) fun x hx=>?_
      have htk:=rawCl_take hx
      have hpr:=rawCl_pre g.body (k+1)
      rw [htk,List.length_append] at hpr
      have hcall:=hg' g hgm x (List.mem_of_getElem? hx) b z4 (l3++rawCl (g.body.take k)) (by rw [List.length_append];omega)
      rw [List.append_assoc,<-htk] at hcall
      refine T_ rfl (by show decide ((k:Int)<(g.body.length:Nat))=true;rw [decide_eq_true_eq];omega) ?_
      refine j_ rfl (encRl_at hx) (encR_eq x) ?_
      (repeat refine A.s rfl ?_)
      refine A.b rfl fun b9=>?_
      refine y_ ?_
      refine A.less (Λ':=chL b z4 (l3++rawCl (g.body.take k))) (.cons _ (.refl _)) ?_
      refine A.e rfl hcall s_ (Λ2:=[]) (by rw [List.append_nil]) fun z' _=>?_
      refine y_ ?_
      refine A.entsEq (List.append_nil _) ?_
      refine A.valE 50 rfl (x':=AI ((k+1:Nat):Int)) (inc_eq k (by omega)) ?_
      refine u_ (jh (k+1,z') (by show k+1<=_;omega) (by show _-(k+1)<_-k;omega))
     ·refine A.gF rfl (by show decide ((k:Int)<(g.body.length:Nat))=false;rw [decide_eq_false_iff_not];omega) ?_
      have htb:g.body.take k=g.body:=List.take_of_length_le (by omega)
      refine A.entsEq (Λ':=chL b z4 (l2++rawCg (p.gs.take (j+1)))) (by rw [hl3e];show chL b z4 (l3++rawCl (g.body.take k))=_;rw [htb]) ?_
      refine y_ ?_
      refine A.valE 36 rfl (x':=AI ((j+1:Nat):Int)) (inc_eq j (by omega)) ?_
      refine u_ (ih (j+1,z4) (by show j+1<=_;omega) (by show _-(j+1)<_-j;omega))
   ·refine A.gF rfl (by show decide ((j:Int)<(p.gs.length:Nat))=false;rw [decide_eq_false_iff_not];omega) ?_
    have htg:p.gs.take j=p.gs:=List.take_of_length_le (by omega)
    refine A.entsEq (Λ':=chL b z2 (l++rawC p)) (by rw [hfin,<-List.append_assoc,<-hl2];show chL b z2 (l2++rawCg (p.gs.take j))=_;rw [htg]) ?_
    refine y_ ?_
    exact A.ret0 rfl rfl (.refl _) ⟨z2, .refl,rfl,trivial⟩
 ·rw [if_neg (by omega)] at hrc hbn'
  refine Exists.elim (show∃l1,l1=l from ⟨_,rfl⟩) fun l1 hl1=>?_
  refine Exists.elim (show∃z1,z1=z0 from ⟨_,rfl⟩) fun z1 hz1=>?_
  have hl1n:l1.length+((rawCl p.l).length+(rawCg p.gs).length)<=1048576:=by rw [hl1];simp only [List.length_nil] at hbn';omega
  have hfin:l++rawC p=l1++(rawCl p.l++rawCg p.gs):=by rw [hrc,hl1,List.nil_append]
  refine Fun.of (S:=tt) (fn:=Tryz.f52) (n:=59) tt_ok Tryz.func52 rfl rfl rfl rfl fun w0 h0 F hgs=>?_
  (repeat refine A.s rfl ?_)
  refine A.b rfl fun bx=>?_
  refine y_ ?_
  refine e_ 13 rfl (x':=AB false) (ab_eq (beq_eq_false_iff_ne.2 h5)) ?_
  refine A.gF rfl (beq_eq_false_iff_ne.2 h6) ?_
  refine A.entsEq (Λ':= .box bx (cellsR p)::chL b z1 l1) (by rw [hl1,hz1]) ?_
  refine y_ ?_
  refine A.freeze 2 (sz:=8) rfl rfl rfl ?_
  refine l_ (Λ':=chL b z1 l1) ?_
  refine A.valE 24 rfl (x':=AI (p.l.length:Nat)) (ai_eq n1) ?_
  refine A.keep [1,2,23,24,25] rfl ?_
  refine A.loopP (ι:=Nat×Value) (fun v=>(⟨[(1,yC b),(2, .pe 8 (cellsR p)),(23,rsA p.l),(24,AI (p.l.length:Nat)),(25,AI (v.1:Nat))],[]⟩,chL b v.2 (l1++rawCl (p.l.take v.1)))) (fun v=>v.1<=p.l.length) (fun v=>p.l.length-v.1) (0,z1) (Nat.zero_le _) (by
   show (_,chL b z1 (l1++rawCl (p.l.take 0)))=_
   rw [List.take_zero,rawCl,List.append_nil];rfl) fun v hv ih=>?_
  obtain ⟨i,z⟩:=v
  simp only at hv
  refine y_ ?_
  by_cases hci:i<p.l.length
  ·refine Exists.elim (at_exN (l:=p.l) (i:=i) hci) fun x hx=>?_
   have htk:=rawCl_take hx
   have hpr:=rawCl_pre p.l (i+1)
   rw [htk,List.length_append] at hpr
   have hcall:=hl x (List.mem_of_getElem? hx) b z (l1++rawCl (p.l.take i)) (by rw [List.length_append];omega)
   rw [List.append_assoc,<-htk] at hcall
   refine T_ rfl (by show decide ((i:Int)<(p.l.length:Nat))=true;rw [decide_eq_true_eq];omega) ?_
   refine j_ rfl (encRl_at hx) (encR_eq x) ?_
   (repeat refine A.s rfl ?_)
   refine A.b rfl fun b5=>?_
   refine y_ ?_
   refine A.less (Λ':=chL b z (l1++rawCl (p.l.take i))) (.cons _ (.refl _)) ?_
   refine A.e rfl hcall s_ (Λ2:=[]) (by rw [List.append_nil]) fun z' _=>?_
   refine y_ ?_
   refine A.entsEq (List.append_nil _) ?_
   refine A.valE 25 rfl (x':=AI ((i+1:Nat):Int)) (inc_eq i (by omega)) ?_
   refine u_ (ih (i+1,z') (by show i+1<=_;omega) (by show _-(i+1)<_-i;omega))
  ·refine A.gF rfl (by show decide ((i:Int)<(p.l.length:Nat))=false;rw [decide_eq_false_iff_not];omega) ?_
   have htl:p.l.take i=p.l:=List.take_of_length_le (by omega)
   clear ih
   refine Exists.elim (show∃l2,l2=l1++rawCl p.l from ⟨_,rfl⟩) fun l2 hl2=>?_
   have hl2n:l2.length+(rawCg p.gs).length<=1048576:=by rw [hl2,List.length_append];omega
   refine A.entsEq (Λ':=chL b z l2) (by rw [hl2];show chL b z (l1++rawCl (p.l.take i))=_;rw [htl]) ?_
   refine y_ ?_
   refine A.valE 35 rfl (x':=AI (p.gs.length:Nat)) (ai_eq n2) ?_
   refine A.keep [1,2,34,35,36] rfl ?_
   refine A.loopP (ι:=Nat×Value) (fun v=>(⟨[(1,yC b),(2, .pe 8 (cellsR p)),(34,gsA p.gs),(35,AI (p.gs.length:Nat)),(36,AI (v.1:Nat))],[]⟩,chL b v.2 (l2++rawCg (p.gs.take v.1)))) (fun v=>v.1<=p.gs.length) (fun v=>p.gs.length-v.1) (0,z) (Nat.zero_le _) (by
    show (_,chL b z (l2++rawCg (p.gs.take 0)))=_
    rw [List.take_zero,rawCg,List.append_nil];rfl) fun v hv ih=>?_
   obtain ⟨j,z2⟩:=v
   simp only at hv
   refine y_ ?_
   by_cases hcj:j<p.gs.length
   ·refine Exists.elim (at_exN (l:=p.gs) (i:=j) hcj) fun g hg=>?_
    have hgm:=List.mem_of_getElem? hg
    have hgk:=rawCg_take hg
    have hgp:=rawCg_pre p.gs (j+1)
    rw [hgk,List.length_append,List.length_append] at hgp
    have n3:((encRl g.body).length:Int)=g.body.length:=by rw [encRl_len]
    have hbl:=(smG_all (hsa.g g hgm)).bl
    refine T_ rfl (by show decide ((j:Int)<(p.gs.length:Nat))=true;rw [decide_eq_true_eq];omega) ?_
    refine j_ rfl (encGl_at hg) (encG_eq g) ?_
    (repeat refine A.s rfl ?_)
    refine A.b rfl fun b7=>?_
    refine y_ ?_
    refine A.freeze 7 (sz:=18) rfl rfl rfl ?_
    refine l_ (Λ':=chL b z2 (l2++rawCg (p.gs.take j))) ?_
    by_cases hk3:g.kind=3
    ·rw [if_pos hk3] at hgk hgp
     simp only [List.length_cons,List.length_nil] at hgp
     have hpu:=push_p b z2 (l2++rawCg (p.gs.take j)) g.c (by rw [List.length_append];omega)
     refine Exists.elim (show∃l3,l3=l2++rawCg (p.gs.take j)++[g.c] from ⟨_,rfl⟩) fun l3 hl3=>?_
     have hl3n:l3.length+(rawCl g.body).length<=1048576:=by rw [hl3,List.length_append,List.length_append,List.length_singleton];omega
     have hl3e:l2++rawCg (p.gs.take (j+1))=l3++rawCl g.body:=by rw [hgk,hl3];simp
     rw [<-hl3] at hpu
     refine T_ rfl (by show (g.kind==3)=true;simpa using hk3) ?_
     refine A.e rfl hpu s_ (Λ2:=[]) (by rw [List.append_nil]) fun z3 _=>?_
     refine A.entsEq (List.append_nil _) ?_
     refine y_ ?_
     refine A.valE 49 rfl (x':=AI (g.body.length:Nat)) (ai_eq n3) ?_
     refine A.keep [1,2,34,35,36,48,49,50] rfl ?_
     refine A.loopP (ι:=Nat×Value) (fun v=>(⟨[(1,yC b),(2, .pe 8 (cellsR p)),(34,gsA p.gs),(35,AI (p.gs.length:Nat)),(36,AI (j:Nat)),(48,rsA g.body),(49,AI (g.body.length:Nat)),(50,AI (v.1:Nat))],[]⟩,chL b v.2 (l3++rawCl (g.body.take v.1)))) (fun v=>v.1<=g.body.length) (fun v=>g.body.length-v.1) (0,z3) (Nat.zero_le _) (by
      show (_,chL b z3 (l3++rawCl (g.body.take 0)))=_
      rw [List.take_zero,rawCl,List.append_nil];rfl) fun v hv jh=>?_
     obtain ⟨k,z4⟩:=v
     simp only at hv
     refine y_ ?_
     by_cases hck:k<g.body.length
     ·refine Exists.elim (at_exN (l:=g.body) (i:=k) hck) fun x hx=>?_
      have htk:=rawCl_take hx
      have hpr:=rawCl_pre g.body (k+1)
      rw [htk,List.length_append] at hpr
      have hcall:=hg' g hgm x (List.mem_of_getElem? hx) b z4 (l3++rawCl (g.body.take k)) (by rw [List.length_append];omega)
      rw [List.append_assoc,<-htk] at hcall
      refine T_ rfl (by show decide ((k:Int)<(g.body.length:Nat))=true;rw [decide_eq_true_eq];omega) ?_
      refine j_ rfl (encRl_at hx) (encR_eq x) ?_
      (repeat refine A.s rfl ?_)
      refine A.b rfl fun b9=>?_
      refine y_ ?_
      refine A.less (Λ':=chL b z4 (l3++rawCl (g.body.take k))) (.cons _ (.refl _)) ?_
      refine A.e rfl hcall s_ (Λ2:=[]) (by rw [List.append_nil]) fun z' _=>?_
      refine y_ ?_
      refine A.entsEq (List.append_nil _) ?_
      refine A.valE 50 rfl (x':=AI ((k+1:Nat):Int)) (inc_eq k (by omega)) ?_
      refine u_ (jh (k+1,z') (by show k+1<=_;omega) (by show _-(k+1)<_-k;omega))
     ·refine A.gF rfl (by show decide ((k:Int)<(g.body.length:Nat))=false;rw [decide_eq_false_iff_not];omega) ?_
      have htb:g.body.take k=g.body:=List.take_of_length_le (by omega)
      refine A.entsEq (Λ':=chL b z4 (l2++rawCg (p.gs.take (j+1)))) (by rw [hl3e];show chL b z4 (l3++rawCl (g.body.take k))=_;rw [htb]) ?_
      refine y_ ?_
      refine A.valE 36 rfl (x':=AI ((j+1:Nat):Int)) (inc_eq j (by omega)) ?_
      refine u_ (ih (j+1,z4) (by show j+1<=_;omega) (by show _-(j+1)<_-j;omega))
    ·rw [if_neg hk3] at hgk hgp
     refine Exists.elim (show∃l3,l3=l2++rawCg (p.gs.take j) from ⟨_,rfl⟩) fun l3 hl3=>?_
     refine Exists.elim (show∃z3,z3=z2 from ⟨_,rfl⟩) fun z3 hz3=>?_
     have hl3n:l3.length+(rawCl g.body).length<=1048576:=by rw [hl3,List.length_append];simp only [List.length_nil] at hgp;omega
     have hl3e:l2++rawCg (p.gs.take (j+1))=l3++rawCl g.body:=by rw [hgk,hl3];simp
     refine A.gF rfl (by show (g.kind==3)=false;simpa using hk3) ?_
     refine A.entsEq (Λ':=chL b z3 l3) (by rw [hl3,hz3]) ?_
     refine y_ ?_
     refine A.valE 49 rfl (x':=AI (g.body.length:Nat)) (ai_eq n3) ?_
     refine A.keep [1,2,34,35,36,48,49,50] rfl ?_
     refine A.loopP (ι:=Nat×Value) (fun v=>(⟨[(1,yC b),(2, .pe 8 (cellsR p)),(34,gsA p.gs),(35,AI (p.gs.length:Nat)),(36,AI (j:Nat)),(48,rsA g.body),(49,AI (g.body.length:Nat)),(50,AI (v.1:Nat))],[]⟩,chL b v.2 (l3++rawCl (g.body.take v.1)))) (fun v=>v.1<=g.body.length) (fun v=>g.body.length-v.1) (0,z3) (Nat.zero_le _) (by
      show (_,chL b z3 (l3++rawCl (g.body.take 0)))=_
      rw [List.take_zero,rawCl,List.append_nil];rfl) fun v hv jh=>?_
     obtain ⟨k,z4⟩:=v
     simp only at hv
     refine y_ ?_
     by_cases hck:k<g.body.length
     ·refine Exists.elim (at_exN (l:=g.body) (i:=k) hck) fun x hx=>?_
      have htk:=rawCl_take hx
      have hpr:=rawCl_pre g.body (k+1)
      rw [htk,List.length_append] at hpr
      have hcall:=hg' g hgm x (List.mem_of_getElem? hx) b z4 (l3++rawCl (g.body.take k)) (by rw [List.length_append];omega)
      rw [List.append_assoc,<-htk] at hcall
      refine T_ rfl (by show decide ((k:Int)<(g.body.length:Nat))=true;rw [decide_eq_true_eq];omega) ?_
      refine j_ rfl (encRl_at hx) (encR_eq x) ?_
      (repeat refine A.s rfl ?_)
      refine A.b rfl fun b9=>?_
      refine y_ ?_
      refine A.less (Λ':=chL b z4 (l3++rawCl (g.body.take k))) (.cons _ (.refl _)) ?_
      refine A.e rfl hcall s_ (Λ2:=[]) (by rw [List.append_nil]) fun z' _=>?_
      refine y_ ?_
      refine A.entsEq (List.append_nil _) ?_
      refine A.valE 50 rfl (x':=AI ((k+1:Nat):Int)) (inc_eq k (by omega)) ?_
      refine u_ (jh (k+1,z') (by show k+1<=_;omega) (by show _-(k+1)<_-k;omega))
     ·refine A.gF rfl (by show decide ((k:Int)<(g.body.length:Nat))=false;rw [decide_eq_false_iff_not];omega) ?_
      have htb:g.body.take k=g.body:=List.take_of_length_le (by omega)
      refine A.entsEq (Λ':=chL b z4 (l2++rawCg (p.gs.take (j+1)))) (by rw [hl3e];show chL b z4 (l3++rawCl (g.body.take k))=_;rw [htb]) ?_
      refine y_ ?_
      refine A.valE 36 rfl (x':=AI ((j+1:Nat):Int)) (inc_eq j (by omega)) ?_
      refine u_ (ih (j+1,z4) (by show j+1<=_;omega) (by show _-(j+1)<_-j;omega))
   ·refine A.gF rfl (by show decide ((j:Int)<(p.gs.length:Nat))=false;rw [decide_eq_false_iff_not];omega) ?_
    have htg:p.gs.take j=p.gs:=List.take_of_length_le (by omega)
    refine A.entsEq (Λ':=chL b z2 (l++rawC p)) (by rw [hfin,<-List.append_assoc,<-hl2];show chL b z2 (l2++rawCg (p.gs.take j))=_;rw [htg]) ?_
    refine y_ ?_
    exact A.ret0 rfl rfl (.refl _) ⟨z2, .refl,rfl,trivial⟩
theorem walk_n: ∀(n:Nat) (p:PR),SizeOf.sizeOf p<=n->smR p->WalkC p
 |0,p,h,_=>by
  obtain ⟨k,c,v,i,to,e,gs,l⟩:=p
  simp only [PR.mk.sizeOf_spec] at h;omega
 |n+1,p,hn,hs=>walk_f p hs (fun x hx=>walk_n n x (by have:=lt19_l hx;omega) ((smR_all hs).l x hx)) fun g hg x hx=>walk_n n x (by have:=lt19_g hg hx;omega) ((smG_all ((smR_all hs).g g hg)).body x hx)
theorem walk_p(p:PR)(hs:smR p):WalkC p:=walk_n _ p (Nat.le_refl _) hs
theorem le_pair(l:List Int):(l.mergeSort fun x y=>decide (x<=y)).Pairwise fun x y=>ltI y x=false:=by
 have:=List.pairwise_mergeSort (le:=fun x y:Int=>decide (x<=y)) (fun a b c h1 h2=>by simp only [decide_eq_true_eq] at*;omega) (fun a b=>by simp only [Bool.or_eq_true,decide_eq_true_eq];omega) l
 refine this.imp fun {a b} h=>?_
 unfold ltI
 simp only [decide_eq_true_eq] at h
 simp only [decide_eq_false_iff_not];omega
theorem chans_p(p:PR)(hs:smR p)(hb:(rawC p).length<=1048576):Pure Tryz.prog gs0 21 [cellsR p] (intsA (chansM p)):=by
 have hw:=walk_p p hs
 refine p_ tt_ok Tryz.func21 11 fun w0 h0 F hgs=>?_
 (repeat refine A.s rfl ?_)
 refine A.b rfl fun b1=>?_
 (repeat refine A.s rfl ?_)
 refine A.b rfl fun b3=>?_
 have hw:=hw b3 (.slice none 0 0) [] (by simpa using hb)
 refine A.boxAs (b:=b3) (x':= .ms (.slice none 0 0) 1 0) (.refl _) (fun h y r=>nil_ms19 1 r) ?_
 refine A.nilRow 1 ?_
 refine y_ ?_
 refine l_ (Λ':=[.row 1 (.slice none 0 0) [], .box b3 (.ms (.slice none 0 0) 1 0)]) ?_
 refine A.perm (Λ':=chL b3 (.slice none 0 0) []) (perm_pick [1,0] rfl rfl rfl rfl) ?_
 refine A.e rfl hw s_ (Λ2:=[]) (by rw [List.append_nil]) fun z1 _=>?_
 refine A.entsEq (List.append_nil _) ?_
 refine A.entsEq (Λ':=chL b3 z1 (rawC p)) (by rw [List.nil_append]) ?_
 have hso:FunE Tryz.prog gs0 54 [.ms z1 1 (rawC p).length] [.row 1 z1 ((rawC p).map AI)] (fun _:Unit=> .tp []) (fun _=>[.row 1 z1 (((rawC p).mergeSort fun x y=>decide (x<=y)).map AI)]) (fun _=>True):=
  (sortInts_fun (gs:=gs0) (ρ:=Tryz.lays189_ren) Tryz.lays189 ⟨_,_,Tryz.func54,rfl,rfl⟩ z1 (rawC p).length (rawC p) (by omega)).mono fun y Λ' ⟨h1,h2⟩=>⟨(),by rw [h1];exact .refl,h2,trivial⟩
 have hsn:((rawC p).mergeSort fun x y=>decide (x<=y)).length=(rawC p).length:=List.length_mergeSort _
 have hc:=compI_p z1 (rawC p).length ((rawC p).mergeSort fun x y=>decide (x<=y)) (by omega)
 rw [comp_ins ord_int (List.mergeSort_perm ..) (le_pair (rawC p))] at hc
 refine y_ ?_
 refine A.e rfl hso s_ (Λ2:=[.box b3 (.ms z1 1 (rawC p).length)]) (.swap _ _ _) fun _ _=>?_
 refine y_ ?_
 refine A.e rfl hc s_ (Λ2:=[.box b3 (.ms z1 1 (rawC p).length)]) (.refl _) fun z2 _=>?_
 refine y_ ?_
 refine A.freezeRow 2 rfl ?_
 exact r_
end Go.Proofs.YtkbolbpojpmicaaGreat
namespace Go.Proofs.YtkbolbpojpmicaaGreat
open Go Go.Tp
def opJ(op:List Int)(all:List (List Int))(i j:Nat):List Int:=op++(if j<=i then (all.take j).flatten else (all.take i).flatten++((all.take j).drop (i+1)).flatten)
theorem opJ_zero(op:List Int)(all:List (List Int))(i:Nat):opJ op all i 0=op:=by
 unfold opJ;rw [if_pos (Nat.zero_le _)];simp
theorem opJ_next{op:List Int}{all:List (List Int)}{i j:Nat}{c:List Int}(h:all[j]? =some c)(hij:j≠i):opJ op all i (j+1)=opJ op all i j++c:=by
 have hj:j<all.length:=(List.getElem?_eq_some_iff.1 h).1
 unfold opJ
 rw [List.take_add_one,h]
 show op++(if j+1<=i then (all.take j++[c]).flatten else (all.take i).flatten++((all.take j++[c]).drop (i+1)).flatten)=_
 by_cases h1:j<i
 ·rw [if_pos (by omega),if_pos (by omega)];simp
 ·rw [if_neg (by omega),if_neg (by omega),List.drop_append_of_le_length (by rw [List.length_take];omega)];simp
theorem opJ_skip{op:List Int}{all:List (List Int)}{i:Nat}:opJ op all i (i+1)=opJ op all i i:=by
 unfold opJ
 rw [if_neg (by omega),if_pos (Nat.le_refl _),List.drop_eq_nil_of_le (by rw [List.length_take];omega)];simp
theorem opJ_end{op:List Int}{all:List (List Int)}{i:Nat}(h:i<all.length):opJ op all i all.length=openM op all i:=by
 unfold opJ openM
 rw [if_neg (by omega),List.take_length]
theorem flat19_len(all:List (List Int))(i:Nat):((all.take i).flatten).length<=all.flatten.length:=by
 conv=>rhs;rw [<-List.take_append_drop i all]
 rw [List.flatten_append,List.length_append];omega
theorem opJ_len(op:List Int)(all:List (List Int))(i j:Nat):(opJ op all i j).length<=op.length+all.flatten.length:=by
 unfold opJ
 rw [List.length_append]
 split
 ·have:=flat19_len all j;omega
 ·rename_i h
  have h1:=flat19_len all j
  have h2:all.take j=all.take i++(all.take j).drop i:=by
   have:=List.take_append_drop i (all.take j)
   rw [List.take_take,Nat.min_eq_left (by omega)] at this
   exact this.symm
  rw [h2,List.flatten_append,List.length_append] at h1
  have h3:((all.take j).drop (i+1)).flatten.length<=((all.take j).drop i).flatten.length:=by
   have e:(all.take j).drop (i+1)=((all.take j).drop i).drop 1:=by rw [List.drop_drop]
   rw [e]
   cases (all.take j).drop i with
   |nil=>simp
   |cons x r=>simp
  rw [List.length_append];omega
theorem insS19_len{α:Type} [DecidableEq α]{lt:α->α->Bool}: ∀(l:List α) (x:α),(insS lt l x).length<=l.length+1
 | [],x=>by simp [insS]
 |y::r,x=>by
  have:=insS19_len (lt:=lt) r x
  simp only [insS]
  repeat' split
  all_goals simp only [List.length_cons] at*
  all_goals omega
theorem insAll19_len{α:Type} [DecidableEq α]{lt:α->α->Bool}: ∀(m l:List α),(insAll lt l m).length<=l.length+m.length
 | [],l=>by simp [insAll]
 |x::m,l=>by
  have h1:=insAll19_len (lt:=lt) m (insS lt l x)
  have h2:=insS19_len (lt:=lt) l x
  show (insAll lt (insS lt l x) m).length<=_
  rw [List.length_cons];omega
theorem chans_len(p:PR):(chansM p).length<=(rawC p).length:=by
 have:=insAll19_len (lt:=ltI) (rawC p) []
 simpa [chansM,canI] using this
theorem chs_len: ∀l:List PR,(l.map chansM).flatten.length<=(rawCl l).length
 | []=>by simp [rawCl]
 |x::r=>by
  have h1:=chans_len x
  have h2:=chs_len r
  rw [List.map_cons,List.flatten_cons,rawCl,List.length_append,List.length_append];omega
theorem open_len(op:List Int)(l:List PR){i:Nat}{x:PR}(h:l[i]? =some x):(openM op (l.map chansM) i).length+(rawC x).length<=op.length+(rawCl l).length:=by
 have hi:i<l.length:=(List.getElem?_eq_some_iff.1 h).1
 have hs:l=l.take i++(x::l.drop (i+1)):=by
  have:=(List.getElem?_eq_some_iff.1 h).2
  rw [<-this,<-List.drop_eq_getElem_cons hi,List.take_append_drop]
 have happ: ∀a b:List PR,rawCl (a++b)=rawCl a++rawCl b:=fun a b=>by
  induction a with
  |nil=>rw [rawCl];rfl
  |cons y a ih=>rw [List.cons_append,rawCl,rawCl,ih,List.append_assoc]
 have h1:(rawCl l).length=(rawCl (l.take i)).length+((rawC x).length+(rawCl (l.drop (i+1))).length):=by
  conv=>lhs;rw [hs]
  rw [happ,rawCl,List.length_append,List.length_append]
 have h2:=chs_len (l.take i)
 have h3:=chs_len (l.drop (i+1))
 unfold openM
 rw [List.length_append,List.length_append,<-List.map_take,<-List.map_drop,h1]
 omega
def contG(chs:List (List Int))(rs:List RN)(s:Sto):TR->Nat->List Nat->RN->RN
 | [],_,_,r=>r
 |e::t,n,cn,r=>if canStep chs rs cn e.1=true then parGo chs rs s t (n+1) (cntM chs cn e.1) r else r
theorem parGo_cont{chs:List (List Int)}{rs:List RN}{s:Sto}: ∀(t:TR) (n:Nat) (cn:List Nat) (r:RN),parGo chs rs s t n cn r=contG chs rs s t n cn (meetR s rs cn n r)
 | [],n,cn,r=>by rw [parGo,contG]
 |e::t,n,cn,r=>by rw [parGo,contG]
theorem contG_next{chs:List (List Int)}{rs:List RN}{s:Sto}{e:EL}{t:TR}{n:Nat}{cn:List Nat}{r:RN}(h:canStep chs rs cn e.1=true):contG chs rs s (e::t) n cn r=contG chs rs s t (n+1) (cntM chs cn e.1) (meetR s rs (cntM chs cn e.1) (n+1) r):=by
 rw [contG,if_pos h,parGo_cont]
theorem contG_stop{chs:List (List Int)}{rs:List RN}{s:Sto}{e:EL}{t:TR}{n:Nat}{cn:List Nat}{r:RN}(h:canStep chs rs cn e.1=false):contG chs rs s (e::t) n cn r=r:=by
 rw [contG,if_neg (by rw [h];decide)]
theorem eat_prod{rs:List RN}{cn:List Nat}(h:cn.length=rs.length):prodL ((rs.zipWith endsAt cn).map List.length)<=prodL (rs.map fun r=>r.ends.length):=by
 refine prod_le (by simp [h]) fun i x y hx hy=>?_
 rw [List.getElem?_map,List.getElem?_zipWith] at hx
 rw [List.getElem?_map] at hy
 cases hr:rs[i]? with
 |none=>rw [hr] at hy;cases hy
 |some r=>
  rw [hr] at hx hy
  cases hc:cn[i]? with
  |none=>rw [hc] at hx;cases hx
  |some c=>
   rw [hc] at hx
   injection hx with hx;injection hy with hy
   rw [<-hx,<-hy]
   unfold endsAt
   rw [List.length_map]
   exact List.length_filter_le ..
theorem step_below{chs:List (List Int)}{rs:List RN}{cn:List Nat}{c:Int}(h:canStep chs rs cn c=true): ∀(i:Nat) n r,(cntM chs cn c)[i]? =some n->rs[i]? =some r->n<=r.reach:=by
 intro i n r hn hr
 unfold canStep at h
 rw [Bool.and_eq_true,List.all_eq_true] at h
 have hz:((cntM chs cn c).zip rs)[i]? =some (n,r):=by rw [List.getElem?_zip_eq_some];exact ⟨hn,hr⟩
 simpa using h.2 _ (List.mem_of_getElem? hz)
abbrev chA(p:PR):AV:=intsA (chansM p)
abbrev zrB:AV:= .ag (List.map AV.v ty302.zero)
abbrev zrR:AV:= .ag (List.map AV.v ty87.zero)
abbrev msR(ms:Bool):AV:= .ag [AI 0, .v (.slice none 0 0), .v (.map none),AB ms]
abbrev rowP(n:Nat)(bs:List BR):List AV:=bs.map (fun b=>brE b 0)++List.replicate (n-bs.length) zrB
theorem rowP_len{n:Nat}{bs:List BR}(h:bs.length<=n):(rowP n bs).length=n:=by
 rw [List.length_append,List.length_map,List.length_replicate];omega
theorem rowP_set{n:Nat}{bs:List BR}(b:BR)(h:bs.length<n):(rowP n bs).set bs.length (brE b 0)=rowP n (bs++[b]):=by
 unfold rowP
 rw [List.set_append_right _ _ (by rw [List.length_map];exact Nat.le_refl _),List.length_map,Nat.sub_self,List.map_append,List.append_assoc,List.length_append,List.length_singleton]
 congr 1
 rw [show n-bs.length=(n-(bs.length+1))+1 by omega,List.replicate_succ]
 rfl
theorem rowP_all{n:Nat}{bs:List BR}(h:bs.length=n):rowP n bs=rowB bs (bs.map fun _=>0):=by
 unfold rowP
 rw [h,Nat.sub_self,List.replicate_zero,List.append_nil]
 show _=bs.zipWith brE (bs.map fun _=>0)
 rw [List.zipWith_map_right,List.zipWith_self]
theorem keysV_set{g:GRP}{p:Nat}{x y:Nat×List Sto}(h:g[p]? =some x)(hy:y.1=x.1):keysV (g.set p y)=keysV g:=by
 apply List.ext_getElem?
 intro j
 rw [List.getElem?_map,List.getElem?_map,List.getElem?_set]
 by_cases hpj:p=j
 ·subst hpj
  rw [if_pos rfl,if_pos (List.getElem?_eq_some_iff.1 h).1,h,Option.map_some,Option.map_some,hy]
 ·rw [if_neg hpj]
theorem valsV_set(g:GRP)(zs:List Value)(p:Nat)(y:Nat×List Sto)(z:Value):valsV (g.set p y) (zs.set p z)=(valsV g zs).set p (valV y z):=by
 apply List.ext_getElem?
 intro j
 rw [List.getElem?_zipWith,List.getElem?_set,List.getElem?_set,List.getElem?_set,List.getElem?_zipWith,List.length_zipWith]
 by_cases hpj:p=j
 ·subst hpj
  rw [if_pos rfl,if_pos rfl,if_pos rfl]
  by_cases h1:p<g.length
  ·by_cases h2:p<zs.length
   ·rw [if_pos h1,if_pos h2,if_pos (by omega)]
   ·rw [if_pos h1,if_neg h2,if_neg (by omega)]
  ·by_cases h2:p<zs.length
   ·rw [if_neg h1,if_pos h2,if_neg (by omega)]
   ·rw [if_neg h1,if_neg h2,if_neg (by omega)]
 ·rw [if_neg hpj,if_neg hpj,if_neg hpj]
theorem valsV_snoc{g:GRP}{zs:List Value}(h:zs.length=g.length)(y:Nat×List Sto)(z:Value):valsV (g++[y]) (zs++[z])=valsV g zs++[valV y z]:=by
 show List.zipWith valV (g++[y]) (zs++[z])=_
 rw [List.zipWith_append h.symm];rfl
theorem splitL{α:Type}{l:List α}{p:Nat}{x:α}(h:l[p]? =some x): ∃A B,l=A++x::B/\ ∀y,l.set p y=A++y::B:=by
 have hp:=(List.getElem?_eq_some_iff.1 h).1
 refine ⟨l.take p,l.drop (p+1),?_,fun y=>?_⟩
 ·rw [<-(List.getElem?_eq_some_iff.1 h).2,<-List.drop_eq_getElem_cons hp,List.take_append_drop]
 ·rw [List.set_eq_take_append_cons_drop,if_pos hp]
theorem tail_front(P Q:List AEnt)(A B:List Value)(z:Value):(P++((A++z::B).map (AEnt.tail 1)++Q)).Perm (.tail 1 z::(P++((A++B).map (AEnt.tail 1)++Q))):=by
 have e1:P++((A++z::B).map (AEnt.tail 1)++Q)=(P++A.map (AEnt.tail 1))++(.tail 1 z::(B.map (AEnt.tail 1)++Q)):=by simp [List.append_assoc]
 have e2:P++((A++B).map (AEnt.tail 1)++Q)=(P++A.map (AEnt.tail 1))++(B.map (AEnt.tail 1)++Q):=by simp [List.append_assoc]
 rw [e1,e2];exact List.perm_middle
theorem perm4(a b c d:AEnt)(M:List AEnt):(a::b::c::d::M).Perm (c::b::a::(M++[d])):=
 List.Perm.append (show [a,b,c].Perm [c,b,a] from List.reverse_perm [c,b,a]) (List.perm_append_singleton d M).symm
theorem WA.valI{K:AC}{all:Array Oper}{m:Nat}{k:List It}{pubs:Nat->List Nat}{Y:Ua}{π:List Nat}{E:AEnv}{Λ:List AEnt}{D:Da}(t:Nat){x x':AV}(hx:lookA E.us t=some x)(hs: ∀(h:GH) y,Rp h x y->Rp h x' y)(next:WA K all m k pubs Y π ⟨(t,x')::E.us,E.cs⟩ Λ D):WA K all m k pubs Y π E Λ D:=by
 refine ⟨fun h e L Es hl r q d=>?_⟩
 rcases r.1.look t with ⟨y,v,e1,e2,e3⟩|⟨e1,e2⟩
 ·rw [hx] at e1;injection e1 with e1;subst e1
  exact WE.val (G:=drawRg K.cfg all (L++K.G) pubs (YA Y) m k) t e2 rfl (next.run h ⟨(t,v)::e.us,e.cs⟩ L Es hl ⟨r.1.put (hs _ _ e3),r.2⟩ q d)
 ·rw [hx] at e1;cases e1
structure ParIn(V:List KV)(C:List Int)(f:Nat)(op:List Int)(l:List PR):Prop where
 un: ∀x,x∈l->Un V C x
 sm: ∀x,x∈l->smR x
 run: ∀x,x∈l->RunC V f x
 way:wayL l f<=2000
 op:op.length+(rawCl l).length<=1048576
 len:l.length<=2048
theorem par19_p{V:List KV}{C:List Int}(f:Nat)(hf:f<=1048576)(op:List Int)(t:TR)(s:Sto)(l:List PR)(I:ParIn V C f op l)(ht:TrI t)(htl:t.length<=256)(hs:StOk V s):Pure Tryz.prog gs0 141 [whA t op f,rsA l,rowsA s] (rnV (parM (l.map chansM) (brsR f op (l.map chansM) 0 t s l) t s)):=by
 have hln:=I.len
 have n1:((encRl l).length:Int)=l.length:=by rw [encRl_len]
 refine Exists.elim (show∃RS,RS=brsR f op (l.map chansM) 0 t s l from ⟨_,rfl⟩) fun RS hRS=>?_
 refine Exists.elim (show∃PM,PM=parM (l.map chansM) RS t s from ⟨_,rfl⟩) fun PM hPM=>?_
 rw [<-hRS,<-hPM]
 refine p_ tt_ok Tryz.func141 144 fun w0 h0 F hgs=>?_
 (repeat refine A.s rfl ?_)
 refine A.b rfl fun b3=>?_
 refine A.b rfl fun b6=>?_
 refine y_ ?_
 refine A.emptyRow 7 1 rfl fun z0=>?_
 refine A.valE 22 rfl (x':=AI (l.length:Nat)) (ai_eq n1) ?_
 refine A.keep [1,2,3,6,7,21,22,23] rfl ?_
 refine A.loopP (ι:=Nat×Value) (fun v=>(⟨[(1,rsA l),(2,rowsA s),(3,ptrA b3),(6,ptrA b6),(7, .ms v.2 1 (l.take v.1).length),(21,rsA l),(22,AI (l.length:Nat)),(23,AI (v.1:Nat))],[]⟩,[.row 1 v.2 ((l.take v.1).map chA), .box b6 zrR, .box b3 (whA t op f)])) (fun v=>v.1<=l.length) (fun v=>l.length-v.1) (0,z0) (Nat.zero_le _) rfl fun v hv ih=>?_
 obtain ⟨i,z⟩:=v
 simp only at hv
 refine y_ ?_
 by_cases hci:i<l.length
 ·refine Exists.elim (at_exN (l:=l) (i:=i) hci) fun x hx=>?_
  have hxm:=List.mem_of_getElem? hx
  have hch:=chans_p x (I.sm x hxm) (by have:=rawCl_mem hxm;have:=I.op;omega)
  have htk:=take19 hx
  have hml:(l.take i).length<=2048:=by rw [List.length_take];omega
  refine T_ rfl (by show decide ((i:Int)<(l.length:Nat))=true;rw [decide_eq_true_eq];omega) ?_
  refine j_ rfl (encRl_at hx) (encR_eq x) ?_
  (repeat refine A.s rfl ?_)
  refine A.b rfl fun b9=>?_
  refine y_ ?_
  refine n_ hch ?_
  refine t_ fun bl=>?_
  refine A.appendRowE rfl rfl rfl rfl rfl rfl rfl rfl rfl rfl rfl rfl rfl rfl (by show (((l.take i).map chA).length+1)*1<=_;rw [List.length_map];omega) (by show (((l.take i).map chA).length+1)*1*24<=_;rw [List.length_map];omega) fun z2=>?_
  refine y_ ?_
  refine A.valE 23 rfl (x':=AI ((i+1:Nat):Int)) (inc_eq i (by omega)) ?_
  refine A.valE 7 rfl (x':= .ms z2 1 (l.take (i+1)).length) (by rw [htk,List.length_append,List.length_map];rfl) ?_
  refine l_ (Λ':=[.row 1 z2 ((l.take i).map chA++[chA x]), .box b6 zrR, .box b3 (whA t op f)]) ?_
  refine A.entsEq (Λ':=[.row 1 z2 ((l.take (i+1)).map chA), .box b6 zrR, .box b3 (whA t op f)]) (by rw [htk,List.map_append];rfl) ?_
  refine u_ (ih (i+1,z2) (by show i+1<=_;omega) (by show _-(i+1)<_-i;omega))
 refine A.gF rfl (by show decide ((i:Int)<(l.length:Nat))=false;rw [decide_eq_false_iff_not];omega) ?_
 have htl':l.take i=l:=List.take_of_length_le (by omega)
 clear ih
 refine A.valE 7 rfl (x':= .ms z 1 l.length) (by rw [htl']) ?_
 refine A.entsEq (Λ':=[.row 1 z (l.map chA), .box b6 zrR, .box b3 (whA t op f)]) (by show [AEnt.row 1 z ((l.take i).map chA),_,_]=_;rw [htl']) ?_
 refine A.freezeRow 7 rfl ?_
 refine y_ ?_
 refine A.valE 34 rfl (x':=AI (l.length:Nat)) (ai_eq n1) ?_
 refine A.makeV rfl rfl rfl rfl rfl rfl rfl rfl rfl rfl rfl rfl (by omega) (by show (48:Int)*_<=_;omega) (by omega) fun a cp hcp=>?_
 refine y_ ?_
 refine A.valE 37 rfl (x':=AI (l.length:Nat)) (ai_eq n1) ?_
 refine A.keep [1,2,3,6,7,10,36,37,38] rfl ?_
 refine A.loopP (ι:=List BR) (fun bs=>(⟨[(1,rsA l),(2,rowsA s),(3,ptrA b3),(6,ptrA b6),(7, .sl 1 (l.map chA) none),(10, .ms (.slice a l.length cp) 4 l.length),(36,rsA l),(37,AI (l.length:Nat)),(38,AI (bs.length:Nat))],[]⟩, .row 4 (.slice a l.length cp) (rowP l.length bs):: .box b6 (msR ((rsB bs).any (·.miss))):: .box b3 (whA t op f)::bs.map mpB))
  (fun bs=>bs.length<=l.length/\chB bs=(l.take bs.length).map chansM/\rsB bs=RS.take bs.length/\ ∀b,b∈bs->b.zs.length=(grpM b.r.ends).length) (fun bs=>l.length-bs.length) [] ⟨Nat.zero_le _,rfl,rfl,fun b h=>by cases h⟩ rfl fun bs hv ih=>?_
 obtain ⟨hb1,hb2,hb3,hb4⟩:=hv
 refine y_ ?_
 by_cases hci:bs.length<l.length
 ·refine Exists.elim (at_exN (l:=l) (i:=bs.length) hci) fun x hx=>?_
  have hxm:=List.mem_of_getElem? hx
  refine Exists.elim (show∃i,i=bs.length from ⟨_,rfl⟩) fun i hi=>?_
  refine Exists.elim (show∃ALL,ALL=l.map chansM from ⟨_,rfl⟩) fun ALL hALL=>?_
  have hAl:ALL.length=l.length:=by rw [hALL,List.length_map]
  have hol: ∀j,(opJ op ALL i j).length<=1048576:=fun j=>by
   have h1:=opJ_len op ALL i j
   have h2:=chs_len l
   have h3:=I.op
   rw [hALL] at h1
   rw [hALL]
   omega
  refine A.gT rfl (by show decide ((bs.length:Int)<(l.length:Nat))=true;rw [decide_eq_true_eq];omega) ?_
  refine e_ 38 rfl (x':=AI (i:Nat)) (by rw [hi]) ?_
  refine j_ rfl (encRl_at (by rw [hi];exact hx)) (encR_eq x) ?_
  (repeat refine A.s rfl ?_)
  refine A.b rfl fun b12=>?_
  refine y_ ?_
  refine A.lit0 rfl rfl rfl rfl rfl rfl rfl fun bl=>?_
  refine y_ ?_
  refine A.appendF rfl rfl rfl rfl rfl rfl rfl rfl rfl rfl rfl rfl rfl rfl (by show (0+(op.map AI).length)*1<=_;rw [List.length_map];have:=I.op;omega) (fun h=>by cases h) (fun x h=>by injection h with h;rw [<-h]) fun z1=>?_
  refine y_ ?_
  refine Exists.elim (show∃REST,REST=AEnt.row 4 (.slice a l.length cp) (rowP l.length bs):: .box b6 (msR ((rsB bs).any (·.miss))):: .box b3 (whA t op f)::bs.map mpB from ⟨_,rfl⟩) fun REST hREST=>?_
  have n4:((l.map chA).length:Int)=l.length:=by rw [List.length_map]
  refine A.valE 48 rfl (x':=AI (l.length:Nat)) (ai_eq n4) ?_
  refine A.valE 13 rfl (x':= .sl 1 ((opJ op ALL i 0).map AI) (some z1)) (by rw [opJ_zero];rfl) ?_
  refine A.keep [1,2,3,6,7,10,11,12,13,36,37,38,47,48,49] rfl ?_
  refine A.entsEq (Λ':= .tail 1 z1:: .box b12 (cellsR x)::REST) (by rw [hREST];rfl) ?_
  refine A.loopP (ι:=Nat×Value) (fun v=>(⟨[(1,rsA l),(2,rowsA s),(3,ptrA b3),(6,ptrA b6),(7, .sl 1 (l.map chA) none),(10, .ms (.slice a l.length cp) 4 l.length),(11,AI (i:Nat)),(12,ptrA b12),(13, .sl 1 ((opJ op ALL i v.1).map AI) (some v.2)),(36,rsA l),(37,AI (l.length:Nat)),(38,AI (i:Nat)),(47, .sl 1 (l.map chA) none),(48,AI (l.length:Nat)),(49,AI (v.1:Nat))],[]⟩, .tail 1 v.2:: .box b12 (cellsR x)::REST)) (fun v=>v.1<=l.length) (fun v=>l.length-v.1) (0,z1) (Nat.zero_le _) rfl fun v hv jh=>?_
  obtain ⟨j,z⟩:=v
  simp only at hv
  refine y_ ?_
  by_cases hcj:j<l.length
  ·refine Exists.elim (at_exN (l:=l) (i:=j) hcj) fun y hy=>?_
   have hyA:ALL[j]? =some (chansM y):=by rw [hALL];exact map_at hy
   refine T_ rfl (by show decide ((j:Int)<(l.length:Nat))=true;rw [decide_eq_true_eq];omega) ?_
   refine i_ rfl (map_at hy) rfl ?_
   by_cases hji:j=i
   ·refine F_ rfl (by show (((j:Nat):Int) !=((i:Nat):Int))=false;rw [hji];simp) ?_
    refine A.valE 49 rfl (x':=AI ((j+1:Nat):Int)) (inc_eq j (by omega)) ?_
    refine A.valE 13 rfl (x':= .sl 1 ((opJ op ALL i (j+1)).map AI) (some z)) (by rw [hji,opJ_skip]) ?_
    refine u_ (jh (j+1,z) (by show j+1<=_;omega) (by show _-(j+1)<_-j;omega))
   ·have hnx:=opJ_next (op:=op) hyA hji
    have hln2:=hol (j+1)
    rw [hnx,List.length_append] at hln2
    refine T_ rfl (by show (((j:Nat):Int) !=((i:Nat):Int))=true;rw [bne_iff_ne];omega) ?_
    refine A.append (i:=by exact ATl.here) rfl rfl rfl rfl rfl rfl rfl rfl rfl rfl rfl rfl rfl rfl (by show (((opJ op ALL i j).map AI).length+((chansM y).map AI).length)*1<=_;rw [List.length_map,List.length_map];omega) fun z2=>?_
    refine y_ ?_
    refine A.valE 49 rfl (x':=AI ((j+1:Nat):Int)) (inc_eq j (by omega)) ?_
    refine A.valE 13 rfl (x':= .sl 1 ((opJ op ALL i (j+1)).map AI) (some z2)) (by show AV.sl 1 ((opJ op ALL i j).map AI++(chansM y).map AI) (some z2)=_;rw [hnx,List.map_append]) ?_
    refine u_ (jh (j+1,z2) (by show j+1<=_;omega) (by show _-(j+1)<_-j;omega))
  refine A.gF rfl (by show decide ((j:Int)<(l.length:Nat))=false;rw [decide_eq_false_iff_not];omega) ?_
  have hjl:j=ALL.length:=by rw [hAl];have:j<=l.length:=hv;omega
  refine y_ ?_
  refine A.valE 13 rfl (x':= .sl 1 ((openM op ALL i).map AI) (some z)) (by show AV.sl 1 ((opJ op ALL i j).map AI) (some z)=_;rw [hjl,opJ_end (by rw [hAl];omega)]) ?_
  clear jh
  have hix:l[i]? =some x:=by rw [hi];exact hx
  have hqs:RS[i]? =some (runR f (openM op ALL i) (onlyT t (chansM x)) s x):=by
   rw [hRS,brs_at,hix]
   show some (runR f (openM op (l.map chansM) (0+i)) (onlyT t (((l.map chansM)[0+i]?).getD [])) s x)=_
   rw [Nat.zero_add,map_at hix,hALL];rfl
  have hcl:=chans_len x
  have hrl:=rawCl_mem hxm
  have hop:=I.op
  have hon:=only_p t (chansM x) (by omega) (by omega)
  have hrun:=I.run x hxm (openM op ALL i) (onlyT t (chansM x)) s (by rw [hALL];have:=open_len op l hix;omega) (only_i ht _) (by have:=only_len t (chansM x);omega) hs
  refine Exists.elim (show∃q,q=runR f (openM op ALL i) (onlyT t (chansM x)) s x from ⟨_,rfl⟩) fun q hq=>?_
  rw [<-hq] at hqs hrun
  refine A.keep [1,2,3,6,7,10,11,12,13,36,37,38] rfl ?_
  refine A.entsEq (Λ':= .tail 1 z:: .box b12 (cellsR x):: .row 4 (.slice a l.length cp) (rowP l.length bs):: .box b6 (msR ((rsB bs).any (·.miss))):: .box b3 (whA t op f)::bs.map mpB) (by rw [hREST]) ?_
  refine d_ 15 [0,1,2,3,4,5,7,8,9,11,12,14,6,10,13] [(6,trA (onlyT t (chansM x))),(13,rnV q)] ?_
  refine iw_ rfl (map_at hix) rfl ?_
  refine WA.alloc rfl rfl rfl rfl rfl rfl rfl rfl fun b16=>?_
  refine cw_ hon ?_
  refine WA.c rfl rfl hrun (.sub s_) ?_
  refine WA.nil (l:=[_]) rfl ?_
  refine y_ ?_
  refine A.less (Λ':= .box b16 (rnV q):: .row 4 (.slice a l.length cp) (rowP l.length bs):: .box b6 (msR ((rsB bs).any (·.miss))):: .box b3 (whA t op f)::bs.map mpB) (List.Sublist.cons_cons _ (List.Sublist.cons _ (List.Sublist.cons _ (.refl _)))) ?_
  refine d_ 10 [0,1,2,3,4,5,6,7,8,9] [] ?_
  refine iw_ rfl (map_at hix) rfl ?_
  refine WA.makeMap rfl rfl rfl rfl rfl rfl fun bm=>?_
  refine w_ ?_
  refine WA.nil (l:=[_]) rfl ?_
  refine A.entsEq (Λ':= .mp bm [] []:: .box b16 (rnV q):: .row 4 (.slice a l.length cp) (rowP l.length bs):: .box b6 (msR ((rsB bs).any (·.miss))):: .box b3 (whA t op f)::bs.map mpB) rfl ?_
  refine Exists.elim (show∃b0:BR,b0=⟨chansM x,bm,[],q⟩ from ⟨_,rfl⟩) fun b0 hb0=>?_
  have hpl:(rowP l.length bs).length=l.length:=rowP_len (by omega)
  have hset:=rowP_set b0 hci
  have hxs:(rowP l.length bs).set ((i:Nat):Int).toNat (.ag (chA x:: .v (.map (some bm))::AI (q.reach:Nat)::List.map AV.v [Value.int .i64 0]))=rowP l.length (bs++[b0]):=by
   rw [<-hset,Int.toNat_natCast,<-hi]
   congr 1
   rw [hb0];rfl
  refine A.indexRow rfl rfl rfl rfl rfl rfl rfl rfl (by show (0:Int)<=(i:Nat);omega) (by show ((i:Nat):Int)<_;rw [hpl];omega) rfl ?_
  refine A.storeRow rfl rfl rfl rfl rfl rfl rfl rfl rfl (by show ((i:Nat):Int).toNat<_;rw [hpl];omega) (xs':=rowP l.length (bs++[b0])) hxs ?_
  refine Exists.elim (show∃ms1,ms1=((rsB bs).any (·.miss)||q.miss) from ⟨_,rfl⟩) fun ms1 hms1=>?_
  refine Exists.elim (show∃RW,RW=rowP l.length (bs++[b0]) from ⟨_,rfl⟩) fun RW hRW=>?_
  have hRl:RW.length=l.length:=by rw [hRW];exact rowP_len (by rw [List.length_append];show bs.length+1<=_;omega)
  have hai:RW[i]? =some (.ag [chA x, .v (.map (some bm)),AI (q.reach:Nat),AI 0]):=by
   rw [hRW]
   unfold rowP
   rw [List.getElem?_append_left (by rw [List.length_map,List.length_append,hi];show _<_+1;omega),List.getElem?_map,hi,List.getElem?_append_right (Nat.le_refl _),Nat.sub_self,hb0]
   rfl
  have hql:q.ends.length<=2000:=by
   have:=len_run x f (openM op ALL i) (onlyT t (chansM x)) s
   rw [<-hq] at this
   have h2:=wayL_mem I.way hxm
   omega
  have nq:((q.ends.map enA).length:Int)=q.ends.length:=by rw [List.length_map]
  refine A.entsEq (Λ':= .mp bm [] []:: .box b16 (rnV q):: .row 4 (.slice a l.length cp) RW:: .box b6 (msR ((rsB bs).any (·.miss))):: .box b3 (whA t op f)::bs.map mpB) (by rw [hRW]) ?_
  refine A.rowSome (a:=a) (n:=l.length) (c:=cp) (sz:=4) (l:=RW) (fun h=>by rw [h] at hRl;simp at hRl;omega) fun bb o ha=>?_
  subst ha
  by_cases hmb:(rsB bs).any (·.miss)=true
  ·refine A.entsEq (Λ':= .mp bm [] []:: .box b16 (rnV q):: .row 4 (.slice (some ⟨bb,o,none⟩) l.length cp) RW:: .box b6 (msR true):: .box b3 (whA t op f)::bs.map mpB) (by rw [hmb]) ?_
   have hms0:=hms1
   rw [hmb,Bool.true_or] at hms1
   refine y_ ?_
   refine A.perm (Λ':= .mp bm [] []:: .row 4 (.slice (some ⟨bb,o,none⟩) l.length cp) RW:: .box b16 (rnV q):: .box b6 (msR ms1):: .box b3 (whA t op f)::bs.map mpB) (by rw [hms1];exact (List.Perm.cons _ (List.Perm.swap _ _ _))) ?_
   refine A.valE 95 rfl (x':=AI (q.ends.length:Nat)) (ai_eq nq) ?_
   refine A.keep [1,2,3,6,7,10,11,36,37,38,94,95,96] rfl ?_
   refine l_ (Λ':= .mp bm [] []:: .row 4 (.slice (some ⟨bb,o,none⟩) l.length cp) RW:: .box b6 (msR ms1):: .box b3 (whA t op f)::bs.map mpB) ?_
   refine A.loopP (ι:=Nat×List Value) (fun v=>(⟨[(1,rsA l),(2,rowsA s),(3,ptrA b3),(6,ptrA b6),(7, .sl 1 (l.map chA) none),(10, .ms (.slice (some ⟨bb,o,none⟩) l.length cp) 4 l.length),(11,AI (i:Nat)),(36,rsA l),(37,AI (l.length:Nat)),(38,AI (i:Nat)),(94, .sl 2 (q.ends.map enA) none),(95,AI (q.ends.length:Nat)),(96,AI (v.1:Nat))],[]⟩, .mp bm (keysV (grpM (q.ends.take v.1))) (valsV (grpM (q.ends.take v.1)) v.2):: .row 4 (.slice (some ⟨bb,o,none⟩) l.length cp) RW:: .box b6 (msR ms1):: .box b3 (whA t op f)::(v.2.map (AEnt.tail 1)++bs.map mpB))) (fun v=>v.1<=q.ends.length/\v.2.length=(grpM (q.ends.take v.1)).length) (fun v=>q.ends.length-v.1) (0,[]) ⟨Nat.zero_le _,rfl⟩ rfl fun v hv kh=>?_
   obtain ⟨k,zs⟩:=v
   obtain ⟨hk1,hk2⟩:=hv
   simp only at hk1 hk2
   refine y_ ?_
   by_cases hck:k<q.ends.length
   ·refine Exists.elim (at_exN (l:=q.ends) (i:=k) hck) fun e he=>?_
    have hgn:=grpM_next he
    refine Exists.elim (show∃g,g=grpM (q.ends.take k) from ⟨_,rfl⟩) fun g hg=>?_
    have hnod:(keysG g).Nodup:=by rw [hg];exact (grpM_ok _).nod
    rw [<-hg] at hk2 hgn
    refine T_ rfl (by show decide ((k:Int)<(q.ends.length:Nat))=true;rw [decide_eq_true_eq];omega) ?_
    refine j_ rfl (map_at he) rfl ?_
    (repeat refine A.s rfl ?_)
    refine A.b rfl fun b18=>?_
    refine y_ ?_
    refine A.entsEq (Λ':= .box b18 (enA e):: .mp bm (keysV g) (valsV g zs):: .row 4 (.slice (some ⟨bb,o,none⟩) l.length cp) RW:: .box b6 (msR ms1):: .box b3 (whA t op f)::(zs.map (AEnt.tail 1)++bs.map mpB)) (by rw [hg];rfl) ?_
    by_cases hke:e.1∈keysG g
    ·obtain ⟨p,x1,hp,hx1⟩:=keys_at hke
     refine Exists.elim (at_exN (l:=zs) (i:=p) (by rw [hk2];exact (List.getElem?_eq_some_iff.1 hp).1)) fun zp hzp=>?_
     obtain ⟨ZA,ZB,hzs,hzset⟩:=splitL hzp
     have hf:=(posN g e.1).2 p x1 hnod hp hx1
     have hvx:(valsV g zs)[p]? =some (.sl 1 (x1.2.map rowsA) (some zp)):=by rw [List.getElem?_zipWith,hp,hzp]
     have hat:(keysV g)[p]? =some (kyV e.1):=by rw [List.getElem?_map,hp,<-hx1];rfl
     have hxl:(x1.2.map rowsA).length<=2000:=by
      rw [List.length_map,grp_ends (r:=⟨0,q.ends.take k,false⟩) (p:=p) (x:=x1) (by rw [<-hp,hg])]
      unfold endsAt
      rw [List.length_map]
      exact Nat.le_trans (List.length_filter_le ..) (by show (q.ends.take k).length<=_;rw [List.length_take];omega)
     refine A.perm (Λ':= .tail 1 zp:: .box b18 (enA e):: .mp bm (keysV g) (valsV g zs):: .row 4 (.slice (some ⟨bb,o,none⟩) l.length cp) RW:: .box b6 (msR ms1):: .box b3 (whA t op f)::((ZA++ZB).map (AEnt.tail 1)++bs.map mpB)) (by rw [hzs];exact tail_front [_,_,_,_,_] _ _ _ _) ?_
     refine A.drawT 18 1 zp 19 [0,1,2,3,4,5,6,7,8,9,10,11,12,13,14,15,16,17,18] (fun i=>if i=18 then [17] else []) [] (by decide) rfl (by kernel_rfl) ?_
     refine w_ ?_
     refine WA.indexRow rfl rfl rfl rfl rfl rfl rfl rfl rfl (by show (0:Int)<=(i:Nat);omega) (by show ((i:Nat):Int)<_;rw [hRl];omega) rfl ?_
     refine WA.epV 102 rfl ?_
     refine w_ ?_
     refine WA.loadPart i 1 rfl rfl rfl rfl rfl l.length cp o (by rw [Int.toNat_natCast]) hai (y:= .v (.map (some bm))) rfl rfl ?_
     refine w_ ?_
     refine WA.indexRow rfl rfl rfl rfl rfl rfl rfl rfl rfl (by show (0:Int)<=(i:Nat);omega) (by show ((i:Nat):Int)<_;rw [hRl];omega) rfl ?_
     refine WA.epV 109 rfl ?_
     refine w_ ?_
     refine WA.loadPart i 1 rfl rfl rfl rfl rfl l.length cp o (by rw [Int.toNat_natCast]) hai (y:= .v (.map (some bm))) rfl rfl ?_
     refine w_ ?_
     refine WA.lookupG rfl rfl rfl rfl rfl rfl rfl rfl rfl hf hvx rfl ?_
     refine w_ ?_
     refine WA.lit rfl rfl rfl rfl rfl rfl rfl fun bw=>?_
     refine WA.append rfl rfl rfl rfl rfl rfl rfl rfl rfl rfl rfl rfl rfl rfl rfl rfl rfl rfl (.pub (j:=17) rfl rfl (.sub .refl)) (by show ((x1.2.map rowsA).length+1)*1<=_;omega) fun z'=>?_
     refine WA.nil (l:=[.tail 1 z']) rfl ?_
     refine A.entsEq (Λ':= .tail 1 z':: .box b18 (enA e):: .mp bm (keysV g) (valsV g zs):: .row 4 (.slice (some ⟨bb,o,none⟩) l.length cp) RW:: .box b6 (msR ms1):: .box b3 (whA t op f)::((ZA++ZB).map (AEnt.tail 1)++bs.map mpB)) rfl ?_
     refine A.updateS rfl rfl rfl rfl rfl rfl rfl rfl rfl hf hat rfl ?_
     refine y_ ?_
     refine A.valE 96 rfl (x':=AI ((k+1:Nat):Int)) (inc_eq k (by omega)) ?_
     have hgs:grpM (q.ends.take (k+1))=g.set p (x1.1,x1.2++[e.2]):=by rw [hgn,grpA_at hnod hp hx1]
     refine A.entsEq (Λ':= .mp bm (keysV (grpM (q.ends.take (k+1)))) (valsV (grpM (q.ends.take (k+1))) (ZA++z'::ZB)):: .tail 1 z':: .box b18 (enA e):: .row 4 (.slice (some ⟨bb,o,none⟩) l.length cp) RW:: .box b6 (msR ms1):: .box b3 (whA t op f)::((ZA++ZB).map (AEnt.tail 1)++bs.map mpB)) (by
      rw [hgs,keysV_set (y:=(x1.1,x1.2++[e.2])) hp rfl,<-hzset,valsV_set]
      show AEnt.mp bm _ ((valsV g zs).set p (.sl 1 (x1.2.map rowsA++[rowsA e.2]) (some z')))::_=AEnt.mp bm _ ((valsV g zs).set p (.sl 1 ((x1.2++[e.2]).map rowsA) (some z')))::_
      rw [show (x1.2++[e.2]).map rowsA=x1.2.map rowsA++[rowsA e.2] by rw [List.map_append];rfl]) ?_
     refine A.less (Λ':= .mp bm (keysV (grpM (q.ends.take (k+1)))) (valsV (grpM (q.ends.take (k+1))) (ZA++z'::ZB)):: .tail 1 z':: .row 4 (.slice (some ⟨bb,o,none⟩) l.length cp) RW:: .box b6 (msR ms1):: .box b3 (whA t op f)::((ZA++ZB).map (AEnt.tail 1)++bs.map mpB)) (.cons_cons _ (.cons_cons _ (.cons _ (.refl _)))) ?_
     refine A.perm (Λ':= .mp bm (keysV (grpM (q.ends.take (k+1)))) (valsV (grpM (q.ends.take (k+1))) (ZA++z'::ZB)):: .row 4 (.slice (some ⟨bb,o,none⟩) l.length cp) RW:: .box b6 (msR ms1):: .box b3 (whA t op f)::((ZA++z'::ZB).map (AEnt.tail 1)++bs.map mpB)) ((List.Perm.swap _ _ _).trans (tail_front [_,_,_,_] _ _ _ _).symm) ?_
     refine u_ (kh (k+1,ZA++z'::ZB) ⟨by show k+1<=_;omega,by
      show (ZA++z'::ZB).length=(grpM (q.ends.take (k+1))).length
      rw [hgs,List.length_set,<-hk2,hzs,List.length_append,List.length_append];rfl⟩ (by show _-(k+1)<_-k;omega))
    ·have hf:=(posN g e.1).1 hke
     have hgs:grpM (q.ends.take (k+1))=g++[(e.1,[e.2])]:=by rw [hgn,grpA_new hke]
     refine A.fullTail 1 0 none (fun _=>rfl) (fun x hx=>by cases hx) ?_
     refine A.drawT 18 1 (.slice none 0 0) 19 [0,1,2,3,4,5,6,7,8,9,10,11,12,13,14,15,16,17,18] (fun i=>if i=18 then [17] else []) [] (by decide) rfl (by kernel_rfl) ?_
     refine w_ ?_
     refine WA.indexRow rfl rfl rfl rfl rfl rfl rfl rfl rfl (by show (0:Int)<=(i:Nat);omega) (by show ((i:Nat):Int)<_;rw [hRl];omega) rfl ?_
     refine WA.epV 102 rfl ?_
     refine w_ ?_
     refine WA.loadPart i 1 rfl rfl rfl rfl rfl l.length cp o (by rw [Int.toNat_natCast]) hai (y:= .v (.map (some bm))) rfl rfl ?_
     refine w_ ?_
     refine WA.indexRow rfl rfl rfl rfl rfl rfl rfl rfl rfl (by show (0:Int)<=(i:Nat);omega) (by show ((i:Nat):Int)<_;rw [hRl];omega) rfl ?_
     refine WA.epV 109 rfl ?_
     refine w_ ?_
     refine WA.loadPart i 1 rfl rfl rfl rfl rfl l.length cp o (by rw [Int.toNat_natCast]) hai (y:= .v (.map (some bm))) rfl rfl ?_
     refine w_ ?_
     refine WA.lookupNilG rfl rfl rfl rfl rfl rfl rfl rfl rfl rfl rfl hf rfl ?_
     refine WA.valI 114 rfl (x':= .sl 1 [] (some (.slice none 0 0))) (fun h y r=>nil_own 1 r) ?_
     refine w_ ?_
     refine WA.lit rfl rfl rfl rfl rfl rfl rfl fun bw=>?_
     refine WA.append rfl rfl rfl rfl rfl rfl rfl rfl rfl rfl rfl rfl rfl rfl rfl rfl rfl rfl (.pub (j:=17) rfl rfl (.sub .refl)) (by show (0+1)*1<=1073741824;decide) fun z'=>?_
     refine WA.nil (l:=[.tail 1 z']) rfl ?_
     refine A.entsEq (Λ':= .tail 1 z':: .box b18 (enA e):: .mp bm (keysV g) (valsV g zs):: .row 4 (.slice (some ⟨bb,o,none⟩) l.length cp) RW:: .box b6 (msR ms1):: .box b3 (whA t op f)::(zs.map (AEnt.tail 1)++bs.map mpB)) rfl ?_
     refine A.updateG rfl rfl rfl rfl rfl rfl rfl rfl rfl hf rfl ?_
     refine y_ ?_
     refine A.valE 96 rfl (x':=AI ((k+1:Nat):Int)) (inc_eq k (by omega)) ?_
     refine A.entsEq (Λ':= .mp bm (keysV (grpM (q.ends.take (k+1)))) (valsV (grpM (q.ends.take (k+1))) (zs++[z'])):: .tail 1 z':: .box b18 (enA e):: .row 4 (.slice (some ⟨bb,o,none⟩) l.length cp) RW:: .box b6 (msR ms1):: .box b3 (whA t op f)::(zs.map (AEnt.tail 1)++bs.map mpB)) (by
      rw [hgs,valsV_snoc hk2]
      show _=AEnt.mp bm ((g++[(e.1,[e.2])]).map fun x=>kyV x.1) _::_
      rw [List.map_append];rfl) ?_
     refine A.less (Λ':= .mp bm (keysV (grpM (q.ends.take (k+1)))) (valsV (grpM (q.ends.take (k+1))) (zs++[z'])):: .tail 1 z':: .row 4 (.slice (some ⟨bb,o,none⟩) l.length cp) RW:: .box b6 (msR ms1):: .box b3 (whA t op f)::(zs.map (AEnt.tail 1)++bs.map mpB)) (.cons_cons _ (.cons_cons _ (.cons _ (.refl _)))) ?_
     refine A.perm (Λ':= .mp bm (keysV (grpM (q.ends.take (k+1)))) (valsV (grpM (q.ends.take (k+1))) (zs++[z'])):: .row 4 (.slice (some ⟨bb,o,none⟩) l.length cp) RW:: .box b6 (msR ms1):: .box b3 (whA t op f)::((zs++[z']).map (AEnt.tail 1)++bs.map mpB)) ((List.Perm.swap _ _ _).trans (by
      have:=(tail_front [AEnt.mp bm (keysV (grpM (q.ends.take (k+1)))) (valsV (grpM (q.ends.take (k+1))) (zs++[z'])), .row 4 (.slice (some ⟨bb,o,none⟩) l.length cp) RW, .box b6 (msR ms1), .box b3 (whA t op f)] (bs.map mpB) zs [] z').symm
      rw [List.append_nil] at this
      exact this)) ?_
     refine u_ (kh (k+1,zs++[z']) ⟨by show k+1<=_;omega,by
      show (zs++[z']).length=(grpM (q.ends.take (k+1))).length
      rw [hgs,List.length_append,List.length_append,hk2];rfl⟩ (by show _-(k+1)<_-k;omega))
   refine A.gF rfl (by show decide ((k:Int)<(q.ends.length:Nat))=false;rw [decide_eq_false_iff_not];omega) ?_
   have hkt:q.ends.take k=q.ends:=List.take_of_length_le (by omega)
   rw [hkt] at hk2
   clear kh
   refine Exists.elim (show∃bs':List BR,bs'=bs++[⟨chansM x,bm,zs,q⟩] from ⟨_,rfl⟩) fun bs' hbs'=>?_
   have hbl:bs'.length=i+1:=by rw [hbs',List.length_append,hi];rfl
   refine A.entsEq (Λ':= .mp bm (keysV (grpM q.ends)) (valsV (grpM q.ends) zs):: .row 4 (.slice (some ⟨bb,o,none⟩) l.length cp) RW:: .box b6 (msR ms1):: .box b3 (whA t op f)::(zs.map (AEnt.tail 1)++bs.map mpB)) (by show AEnt.mp bm (keysV (grpM (q.ends.take k))) (valsV (grpM (q.ends.take k)) zs)::_=_;rw [hkt]) ?_
   refine A.less (Λ':= .mp bm (keysV (grpM q.ends)) (valsV (grpM q.ends) zs):: .row 4 (.slice (some ⟨bb,o,none⟩) l.length cp) RW:: .box b6 (msR ms1):: .box b3 (whA t op f)::bs.map mpB) (.cons_cons _ (.cons_cons _ (.cons_cons _ (.cons_cons _ (List.sublist_append_right ..))))) ?_
   refine A.perm (Λ':= .row 4 (.slice (some ⟨bb,o,none⟩) l.length cp) (rowP l.length bs'):: .box b6 (msR ((rsB bs').any (·.miss))):: .box b3 (whA t op f)::bs'.map mpB) (by
    have e1:rowP l.length bs'=RW:=by rw [hRW,hbs',hb0];unfold rowP;rw [List.map_append,List.map_append,List.length_append,List.length_append];rfl
    have e2:(rsB bs').any (·.miss)=ms1:=by rw [hms0,hbs'];show ((bs++[_]).map BR.r).any _=_;rw [List.map_append,List.any_append];show ((bs.map BR.r).any _||(q.miss||false))=_;rw [Bool.or_false]
    rw [e1,e2,hbs',List.map_append]
    exact (List.perm_append_singleton _ _).symm) ?_
   refine y_ ?_
   refine A.valE 38 rfl (x':=AI (bs'.length:Nat)) (ai_eq (by rw [hbl];show IntKind.i64.wrap (((i:Nat):Int)+1)=((i+1:Nat):Int);rw [wr64 _ (by omega)];rfl)) ?_
   refine u_ (ih bs' ⟨by omega,?_,?_,?_⟩ (by omega))
   ·rw [hbl,take19 (by rw [hi];exact hx),List.map_append,hbs']
    show (bs++[_]).map _=_
    rw [List.map_append]
    show chB bs++_=_
    rw [hb2,hi];rfl
   ·rw [hbl,take19 hqs,hbs']
    show (bs++[_]).map _=_
    rw [List.map_append]
    show rsB bs++_=_
    rw [hb3,hi];rfl
   ·rw [hbs']
    intro b hb
    rcases List.mem_append.1 hb with hb|hb
    ·exact hb4 b hb
    ·rw [List.mem_singleton.1 hb];exact hk2
  ·have hmb:(rsB bs).any (·.miss)=false:=by simpa using hmb
   refine A.entsEq (Λ':= .mp bm [] []:: .box b16 (rnV q):: .row 4 (.slice (some ⟨bb,o,none⟩) l.length cp) RW:: .box b6 (msR false):: .box b3 (whA t op f)::bs.map mpB) (by rw [hmb]) ?_
   have hms0:=hms1
   rw [hmb,Bool.false_or] at hms1
   refine y_ ?_
   refine A.perm (Λ':= .mp bm [] []:: .row 4 (.slice (some ⟨bb,o,none⟩) l.length cp) RW:: .box b16 (rnV q):: .box b6 (msR ms1):: .box b3 (whA t op f)::bs.map mpB) (by rw [hms1];exact (List.Perm.cons _ (List.Perm.swap _ _ _))) ?_
   refine A.valE 95 rfl (x':=AI (q.ends.length:Nat)) (ai_eq nq) ?_
   refine A.keep [1,2,3,6,7,10,11,36,37,38,94,95,96] rfl ?_
   refine l_ (Λ':= .mp bm [] []:: .row 4 (.slice (some ⟨bb,o,none⟩) l.length cp) RW:: .box b6 (msR ms1):: .box b3 (whA t op f)::bs.map mpB) ?_
   refine A.loopP (ι:=Nat×List Value) (fun v=>(⟨[(1,rsA l),(2,rowsA s),(3,ptrA b3),(6,ptrA b6),(7, .sl 1 (l.map chA) none),(10, .ms (.slice (some ⟨bb,o,none⟩) l.length cp) 4 l.length),(11,AI (i:Nat)),(36,rsA l),(37,AI (l.length:Nat)),(38,AI (i:Nat)),(94, .sl 2 (q.ends.map enA) none),(95,AI (q.ends.length:Nat)),(96,AI (v.1:Nat))],[]⟩, .mp bm (keysV (grpM (q.ends.take v.1))) (valsV (grpM (q.ends.take v.1)) v.2):: .row 4 (.slice (some ⟨bb,o,none⟩) l.length cp) RW:: .box b6 (msR ms1):: .box b3 (whA t op f)::(v.2.map (AEnt.tail 1)++bs.map mpB))) (fun v=>v.1<=q.ends.length/\v.2.length=(grpM (q.ends.take v.1)).length) (fun v=>q.ends.length-v.1) (0,[]) ⟨Nat.zero_le _,rfl⟩ rfl fun v hv kh=>?_
   obtain ⟨k,zs⟩:=v
   obtain ⟨hk1,hk2⟩:=hv
   simp only at hk1 hk2
   refine y_ ?_
   by_cases hck:k<q.ends.length
   ·refine Exists.elim (at_exN (l:=q.ends) (i:=k) hck) fun e he=>?_
    have hgn:=grpM_next he
    refine Exists.elim (show∃g,g=grpM (q.ends.take k) from ⟨_,rfl⟩) fun g hg=>?_
    have hnod:(keysG g).Nodup:=by rw [hg];exact (grpM_ok _).nod
    rw [<-hg] at hk2 hgn
    refine T_ rfl (by show decide ((k:Int)<(q.ends.length:Nat))=true;rw [decide_eq_true_eq];omega) ?_
    refine j_ rfl (map_at he) rfl ?_
    (repeat refine A.s rfl ?_)
    refine A.b rfl fun b18=>?_
    refine y_ ?_
    refine A.entsEq (Λ':= .box b18 (enA e):: .mp bm (keysV g) (valsV g zs):: .row 4 (.slice (some ⟨bb,o,none⟩) l.length cp) RW:: .box b6 (msR ms1):: .box b3 (whA t op f)::(zs.map (AEnt.tail 1)++bs.map mpB)) (by rw [hg];rfl) ?_
    by_cases hke:e.1∈keysG g
    ·obtain ⟨p,x1,hp,hx1⟩:=keys_at hke
     refine Exists.elim (at_exN (l:=zs) (i:=p) (by rw [hk2];exact (List.getElem?_eq_some_iff.1 hp).1)) fun zp hzp=>?_
     obtain ⟨ZA,ZB,hzs,hzset⟩:=splitL hzp
     have hf:=(posN g e.1).2 p x1 hnod hp hx1
     have hvx:(valsV g zs)[p]? =some (.sl 1 (x1.2.map rowsA) (some zp)):=by rw [List.getElem?_zipWith,hp,hzp]
     have hat:(keysV g)[p]? =some (kyV e.1):=by rw [List.getElem?_map,hp,<-hx1];rfl
     have hxl:(x1.2.map rowsA).length<=2000:=by
      rw [List.length_map,grp_ends (r:=⟨0,q.ends.take k,false⟩) (p:=p) (x:=x1) (by rw [<-hp,hg])]
      unfold endsAt
      rw [List.length_map]
      exact Nat.le_trans (List.length_filter_le ..) (by show (q.ends.take k).length<=_;rw [List.length_take];omega)
     refine A.perm (Λ':= .tail 1 zp:: .box b18 (enA e):: .mp bm (keysV g) (valsV g zs):: .row 4 (.slice (some ⟨bb,o,none⟩) l.length cp) RW:: .box b6 (msR ms1):: .box b3 (whA t op f)::((ZA++ZB).map (AEnt.tail 1)++bs.map mpB)) (by rw [hzs];exact tail_front [_,_,_,_,_] _ _ _ _) ?_
     refine A.drawT 18 1 zp 19 [0,1,2,3,4,5,6,7,8,9,10,11,12,13,14,15,16,17,18] (fun i=>if i=18 then [17] else []) [] (by decide) rfl (by kernel_rfl) ?_
     refine w_ ?_
     refine WA.indexRow rfl rfl rfl rfl rfl rfl rfl rfl rfl (by show (0:Int)<=(i:Nat);omega) (by show ((i:Nat):Int)<_;rw [hRl];omega) rfl ?_
     refine WA.epV 102 rfl ?_
     refine w_ ?_
     refine WA.loadPart i 1 rfl rfl rfl rfl rfl l.length cp o (by rw [Int.toNat_natCast]) hai (y:= .v (.map (some bm))) rfl rfl ?_
     refine w_ ?_
     refine WA.indexRow rfl rfl rfl rfl rfl rfl rfl rfl rfl (by show (0:Int)<=(i:Nat);omega) (by show ((i:Nat):Int)<_;rw [hRl];omega) rfl ?_
     refine WA.epV 109 rfl ?_
     refine w_ ?_
     refine WA.loadPart i 1 rfl rfl rfl rfl rfl l.length cp o (by rw [Int.toNat_natCast]) hai (y:= .v (.map (some bm))) rfl rfl ?_
     refine w_ ?_
     refine WA.lookupG rfl rfl rfl rfl rfl rfl rfl rfl rfl hf hvx rfl ?_
     refine w_ ?_
     refine WA.lit rfl rfl rfl rfl rfl rfl rfl fun bw=>?_
     refine WA.append rfl rfl rfl rfl rfl rfl rfl rfl rfl rfl rfl rfl rfl rfl rfl rfl rfl rfl (.pub (j:=17) rfl rfl (.sub .refl)) (by show ((x1.2.map rowsA).length+1)*1<=_;omega) fun z'=>?_
     refine WA.nil (l:=[.tail 1 z']) rfl ?_
     refine A.entsEq (Λ':= .tail 1 z':: .box b18 (enA e):: .mp bm (keysV g) (valsV g zs):: .row 4 (.slice (some ⟨bb,o,none⟩) l.length cp) RW:: .box b6 (msR ms1):: .box b3 (whA t op f)::((ZA++ZB).map (AEnt.tail 1)++bs.map mpB)) rfl ?_
     refine A.updateS rfl rfl rfl rfl rfl rfl rfl rfl rfl hf hat rfl ?_
     refine y_ ?_
     refine A.valE 96 rfl (x':=AI ((k+1:Nat):Int)) (inc_eq k (by omega)) ?_
     have hgs:grpM (q.ends.take (k+1))=g.set p (x1.1,x1.2++[e.2]):=by rw [hgn,grpA_at hnod hp hx1]
     refine A.entsEq (Λ':= .mp bm (keysV (grpM (q.ends.take (k+1)))) (valsV (grpM (q.ends.take (k+1))) (ZA++z'::ZB)):: .tail 1 z':: .box b18 (enA e):: .row 4 (.slice (some ⟨bb,o,none⟩) l.length cp) RW:: .box b6 (msR ms1):: .box b3 (whA t op f)::((ZA++ZB).map (AEnt.tail 1)++bs.map mpB)) (by
      rw [hgs,keysV_set (y:=(x1.1,x1.2++[e.2])) hp rfl,<-hzset,valsV_set]
      show AEnt.mp bm _ ((valsV g zs).set p (.sl 1 (x1.2.map rowsA++[rowsA e.2]) (some z')))::_=AEnt.mp bm _ ((valsV g zs).set p (.sl 1 ((x1.2++[e.2]).map rowsA) (some z')))::_
      rw [show (x1.2++[e.2]).map rowsA=x1.2.map rowsA++[rowsA e.2] by rw [List.map_append];rfl]) ?_
     refine A.less (Λ':= .mp bm (keysV (grpM (q.ends.take (k+1)))) (valsV (grpM (q.ends.take (k+1))) (ZA++z'::ZB)):: .tail 1 z':: .row 4 (.slice (some ⟨bb,o,none⟩) l.length cp) RW:: .box b6 (msR ms1):: .box b3 (whA t op f)::((ZA++ZB).map (AEnt.tail 1)++bs.map mpB)) (.cons_cons _ (.cons_cons _ (.cons _ (.refl _)))) ?_
     refine A.perm (Λ':= .mp bm (keysV (grpM (q.ends.take (k+1)))) (valsV (grpM (q.ends.take (k+1))) (ZA++z'::ZB)):: .row 4 (.slice (some ⟨bb,o,none⟩) l.length cp) RW:: .box b6 (msR ms1):: .box b3 (whA t op f)::((ZA++z'::ZB).map (AEnt.tail 1)++bs.map mpB)) ((List.Perm.swap _ _ _).trans (tail_front [_,_,_,_] _ _ _ _).symm) ?_
     refine u_ (kh (k+1,ZA++z'::ZB) ⟨by show k+1<=_;omega,by
      show (ZA++z'::ZB).length=(grpM (q.ends.take (k+1))).length
      rw [hgs,List.length_set,<-hk2,hzs,List.length_append,List.length_append];rfl⟩ (by show _-(k+1)<_-k;omega))
    ·have hf:=(posN g e.1).1 hke
     have hgs:grpM (q.ends.take (k+1))=g++[(e.1,[e.2])]:=by rw [hgn,grpA_new hke]
     refine A.fullTail 1 0 none (fun _=>rfl) (fun x hx=>by cases hx) ?_
     refine A.drawT 18 1 (.slice none 0 0) 19 [0,1,2,3,4,5,6,7,8,9,10,11,12,13,14,15,16,17,18] (fun i=>if i=18 then [17] else []) [] (by decide) rfl (by kernel_rfl) ?_
     refine w_ ?_
     refine WA.indexRow rfl rfl rfl rfl rfl rfl rfl rfl rfl (by show (0:Int)<=(i:Nat);omega) (by show ((i:Nat):Int)<_;rw [hRl];omega) rfl ?_
     refine WA.epV 102 rfl ?_
     refine w_ ?_
     refine WA.loadPart i 1 rfl rfl rfl rfl rfl l.length cp o (by rw [Int.toNat_natCast]) hai (y:= .v (.map (some bm))) rfl rfl ?_
     refine w_ ?_
     refine WA.indexRow rfl rfl rfl rfl rfl rfl rfl rfl rfl (by show (0:Int)<=(i:Nat);omega) (by show ((i:Nat):Int)<_;rw [hRl];omega) rfl ?_
     refine WA.epV 109 rfl ?_
     refine w_ ?_
     refine WA.loadPart i 1 rfl rfl rfl rfl rfl l.length cp o (by rw [Int.toNat_natCast]) hai (y:= .v (.map (some bm))) rfl rfl ?_
     refine w_ ?_
     refine WA.lookupNilG rfl rfl rfl rfl rfl rfl rfl rfl rfl rfl rfl hf rfl ?_
     refine WA.valI 114 rfl (x':= .sl 1 [] (some (.slice none 0 0))) (fun h y r=>nil_own 1 r) ?_
     refine w_ ?_
     refine WA.lit rfl rfl rfl rfl rfl rfl rfl fun bw=>?_
     refine WA.append rfl rfl rfl rfl rfl rfl rfl rfl rfl rfl rfl rfl rfl rfl rfl rfl rfl rfl (.pub (j:=17) rfl rfl (.sub .refl)) (by show (0+1)*1<=1073741824;decide) fun z'=>?_
     refine WA.nil (l:=[.tail 1 z']) rfl ?_
     refine A.entsEq (Λ':= .tail 1 z':: .box b18 (enA e):: .mp bm (keysV g) (valsV g zs):: .row 4 (.slice (some ⟨bb,o,none⟩) l.length cp) RW:: .box b6 (msR ms1):: .box b3 (whA t op f)::(zs.map (AEnt.tail 1)++bs.map mpB)) rfl ?_
     refine A.updateG rfl rfl rfl rfl rfl rfl rfl rfl rfl hf rfl ?_
     refine y_ ?_
     refine A.valE 96 rfl (x':=AI ((k+1:Nat):Int)) (inc_eq k (by omega)) ?_
     refine A.entsEq (Λ':= .mp bm (keysV (grpM (q.ends.take (k+1)))) (valsV (grpM (q.ends.take (k+1))) (zs++[z'])):: .tail 1 z':: .box b18 (enA e):: .row 4 (.slice (some ⟨bb,o,none⟩) l.length cp) RW:: .box b6 (msR ms1):: .box b3 (whA t op f)::(zs.map (AEnt.tail 1)++bs.map mpB)) (by
      rw [hgs,valsV_snoc hk2]
      show _=AEnt.mp bm ((g++[(e.1,[e.2])]).map fun x=>kyV x.1) _::_
      rw [List.map_append];rfl) ?_
     refine A.less (Λ':= .mp bm (keysV (grpM (q.ends.take (k+1)))) (valsV (grpM (q.ends.take (k+1))) (zs++[z'])):: .tail 1 z':: .row 4 (.slice (some ⟨bb,o,none⟩) l.length cp) RW:: .box b6 (msR ms1):: .box b3 (whA t op f)::(zs.map (AEnt.tail 1)++bs.map mpB)) (.cons_cons _ (.cons_cons _ (.cons _ (.refl _)))) ?_
     refine A.perm (Λ':= .mp bm (keysV (grpM (q.ends.take (k+1)))) (valsV (grpM (q.ends.take (k+1))) (zs++[z'])):: .row 4 (.slice (some ⟨bb,o,none⟩) l.length cp) RW:: .box b6 (msR ms1):: .box b3 (whA t op f)::((zs++[z']).map (AEnt.tail 1)++bs.map mpB)) ((List.Perm.swap _ _ _).trans (by
      have:=(tail_front [AEnt.mp bm (keysV (grpM (q.ends.take (k+1)))) (valsV (grpM (q.ends.take (k+1))) (zs++[z'])), .row 4 (.slice (some ⟨bb,o,none⟩) l.length cp) RW, .box b6 (msR ms1), .box b3 (whA t op f)] (bs.map mpB) zs [] z').symm
      rw [List.append_nil] at this
      exact this)) ?_
     refine u_ (kh (k+1,zs++[z']) ⟨by show k+1<=_;omega,by
      show (zs++[z']).length=(grpM (q.ends.take (k+1))).length
      rw [hgs,List.length_append,List.length_append,hk2];rfl⟩ (by show _-(k+1)<_-k;omega))
   refine A.gF rfl (by show decide ((k:Int)<(q.ends.length:Nat))=false;rw [decide_eq_false_iff_not];omega) ?_
   have hkt:q.ends.take k=q.ends:=List.take_of_length_le (by omega)
   rw [hkt] at hk2
   clear kh
   refine Exists.elim (show∃bs':List BR,bs'=bs++[⟨chansM x,bm,zs,q⟩] from ⟨_,rfl⟩) fun bs' hbs'=>?_
   have hbl:bs'.length=i+1:=by rw [hbs',List.length_append,hi];rfl
   refine A.entsEq (Λ':= .mp bm (keysV (grpM q.ends)) (valsV (grpM q.ends) zs):: .row 4 (.slice (some ⟨bb,o,none⟩) l.length cp) RW:: .box b6 (msR ms1):: .box b3 (whA t op f)::(zs.map (AEnt.tail 1)++bs.map mpB)) (by show AEnt.mp bm (keysV (grpM (q.ends.take k))) (valsV (grpM (q.ends.take k)) zs)::_=_;rw [hkt]) ?_
   refine A.less (Λ':= .mp bm (keysV (grpM q.ends)) (valsV (grpM q.ends) zs):: .row 4 (.slice (some ⟨bb,o,none⟩) l.length cp) RW:: .box b6 (msR ms1):: .box b3 (whA t op f)::bs.map mpB) (.cons_cons _ (.cons_cons _ (.cons_cons _ (.cons_cons _ (List.sublist_append_right ..))))) ?_
   refine A.perm (Λ':= .row 4 (.slice (some ⟨bb,o,none⟩) l.length cp) (rowP l.length bs'):: .box b6 (msR ((rsB bs').any (·.miss))):: .box b3 (whA t op f)::bs'.map mpB) (by
    have e1:rowP l.length bs'=RW:=by rw [hRW,hbs',hb0];unfold rowP;rw [List.map_append,List.map_append,List.length_append,List.length_append];rfl
    have e2:(rsB bs').any (·.miss)=ms1:=by rw [hms0,hbs'];show ((bs++[_]).map BR.r).any _=_;rw [List.map_append,List.any_append];show ((bs.map BR.r).any _||(q.miss||false))=_;rw [Bool.or_false]
    rw [e1,e2,hbs',List.map_append]
    exact (List.perm_append_singleton _ _).symm) ?_
   refine y_ ?_
   refine A.valE 38 rfl (x':=AI (bs'.length:Nat)) (ai_eq (by rw [hbl];show IntKind.i64.wrap (((i:Nat):Int)+1)=((i+1:Nat):Int);rw [wr64 _ (by omega)];rfl)) ?_
   refine u_ (ih bs' ⟨by omega,?_,?_,?_⟩ (by omega))
   ·rw [hbl,take19 (by rw [hi];exact hx),List.map_append,hbs']
    show (bs++[_]).map _=_
    rw [List.map_append]
    show chB bs++_=_
    rw [hb2,hi];rfl
   ·rw [hbl,take19 hqs,hbs']
    show (bs++[_]).map _=_
    rw [List.map_append]
    show rsB bs++_=_
    rw [hb3,hi];rfl
   ·rw [hbs']
    intro b hb
    rcases List.mem_append.1 hb with hb|hb
    ·exact hb4 b hb
    ·rw [List.mem_singleton.1 hb];exact hk2
 refine A.gF rfl (by show decide ((bs.length:Int)<(l.length:Nat))=false;rw [decide_eq_false_iff_not];omega) ?_
 clear ih
 have hbl:bs.length=l.length:=by omega
 have hcB:chB bs=l.map chansM:=by rw [hb2,hbl,List.take_length]
 have hRl:RS.length=l.length:=by rw [hRS,brs_len]
 have hrB:rsB bs=RS:=by rw [hb3,hbl,<-hRl,List.take_length]
 refine Exists.elim (show∃ms,ms=RS.any (·.miss) from ⟨_,rfl⟩) fun ms hms=>?_
 refine Exists.elim (show∃cn0:List Nat,cn0=bs.map fun _=>0 from ⟨_,rfl⟩) fun cn0 hcn0=>?_
 refine Exists.elim (show∃z:Value,z= .slice a l.length cp from ⟨_,rfl⟩) fun zb hzb=>?_
 have hat: ∀(i:Nat) b,bs[i]? =some b-> ∃x,x∈l/\b.ch=chansM x/\b.r=runR f (openM op (l.map chansM) i) (onlyT t (chansM x)) s x:=fun i b hb=>by
  have hi:i<bs.length:=(List.getElem?_eq_some_iff.1 hb).1
  refine Exists.elim (at_exN (l:=l) (i:=i) (by omega)) fun x hx=>⟨x,List.mem_of_getElem? hx,?_,?_⟩
  ·have h1:(chB bs)[i]? =some b.ch:=by rw [List.getElem?_map,hb];rfl
   rw [hcB,List.getElem?_map,hx] at h1
   injection h1 with h1;exact h1.symm
  ·have h1:(rsB bs)[i]? =some b.r:=by rw [List.getElem?_map,hb];rfl
   rw [hrB,hRS,brs_at,hx,Nat.zero_add,List.getElem?_map,hx] at h1
   injection h1 with h1;exact h1.symm
 have hbo:BrsOk V bs:=by
  refine ⟨fun b hb=>?_,by omega⟩
  obtain ⟨i,hi,rfl⟩:=List.getElem_of_mem hb
  obtain ⟨x,hx,h1,h2⟩:=hat i _ (List.getElem?_eq_getElem hi)
  have hol:=only_len t (chansM x)
  refine ⟨?_,?_,?_,hb4 _ hb,?_⟩
  ·rw [h2];exact run_ok (I.un x hx) f _ _ s (only_i ht _) hs
  ·rw [h2];have:=((run19 x).wf f (openM op (l.map chansM) i) (onlyT t (chansM x)) s).len;omega
  ·rw [h1];have:=chans_len x;have:=rawCl_mem hx;have:=I.op;omega
  ·rw [h2];have:=len_run x f (openM op (l.map chansM) i) (onlyT t (chansM x)) s;have:=wayL_mem I.way hx;omega
 have hpw:prodL (RS.map fun r=>r.ends.length)<=wayL l f:=prod_way hRl fun i p r hp hr=>by
  rw [hRS,brs_at,hp] at hr
  injection hr with hr
  rw [<-hr];exact len_run p f _ _ s
 have hpr: ∀cn:List Nat,cn.length=bs.length->(pick19 s (eatB bs cn) s).length<=2000:=fun cn hc=>by
  rw [pick_len]
  have h1:prodL ((eatB bs cn).map List.length)<=prodL ((rsB bs).map fun r=>r.ends.length):=eat_prod (by rw [hc,List.length_map])
  rw [hrB] at h1
  have:=I.way
  omega
 have hpo: ∀cn:List Nat,∀x,x∈pick19 s (eatB bs cn) s->StOk V x:=fun cn=>pick_ok _ s (fun b' hb' y hy=>by
  obtain ⟨j,hj,rfl⟩:=List.getElem_of_mem hb'
  rw [List.getElem_zipWith] at hy
  have hm:=endsAt_mem.1 hy
  rw [List.getElem_map] at hm
  exact (hbo.wf _ (List.getElem_mem _)).1 _ hm) hs
 have hmeet:=fun cn n z m r h1 h2 h3 h4=>meet_p (V:=V) zb bs cn b6 n s hs hbo h1 h2 z m r h3 h4
 refine A.valE 10 rfl (x':= .ms zb 4 bs.length) (by rw [hzb,hbl]) ?_
 refine A.entsEq (Λ':= .row 4 zb (rowB bs cn0):: .box b6 (msR ms):: .box b3 (whA t op f)::bs.map mpB) (by rw [hrB,<-hms,rowP_all hbl,hzb,hcn0]) ?_
 refine A.boxAs (b:=b6) (x':= .ag [AI 0, .ms (.slice none 0 0) 2 0, .v (.map none),AB ms]) (.swap _ _ _) (rn_some _ _) ?_
 refine A.nilRow 2 ?_
 refine A.perm (Λ':=bsE zb bs cn0 b6 (.slice none 0 0) 0 ⟨0,[],ms⟩++[.box b3 (whA t op f)]) (perm4 _ _ _ _ _) ?_
 have hcl0:cn0.length=bs.length:=by rw [hcn0,List.length_map]
 have hp0:=hpr cn0 hcl0
 refine y_ ?_
 refine A.e rfl (hmeet cn0 0 (.slice none 0 0) 0 ⟨0,[],ms⟩ hcl0 (Nat.zero_le _) ⟨⟨fun e he=>by cases he⟩,Nat.zero_le _⟩ (by show 0+(pick19 s (eatB bs cn0) s).length<=_;omega)) s_ (Λ2:=[.box b3 (whA t op f)]) (.refl _) fun v0 _=>?_
 refine Exists.elim (show∃r1,r1=meetR s (rsB bs) cn0 0 ⟨0,[],ms⟩ from ⟨_,rfl⟩) fun r1 hr1=>?_
 refine A.perm (Λ':= .box b3 (whA t op f)::bsE zb bs cn0 b6 v0.1 v0.2 r1) (by rw [hr1];exact List.perm_append_singleton _ _) ?_
 have nt:=trA_len t
 have hPM1:PM=contG (chB bs) (rsB bs) s t 0 cn0 r1:=by
  rw [hPM,hr1,hcB,hrB,hms,hcn0,<-parGo_cont]
  unfold parM
  congr 1
  rw [<-hcB];simp
 have hr1ok:RnOk V r1:=by
  rw [hr1]
  exact pickA_ok (r:=⟨0,[],ms⟩) ⟨⟨fun e he=>by cases he⟩,Nat.zero_le _⟩ (hpo cn0) (Nat.zero_le _) (by show 0+(pick19 s (eatB bs cn0) s).length<=_;omega)
 have hr1l:r1.ends.length<=2000:=by
  rw [hr1]
  have:(addN19 0 (pick19 s (eatB bs cn0) s) []).length<=0+_:=addN_len (m:=0) (pick19 s (eatB bs cn0) s) []
  show (addN19 0 (pick19 s (eatB bs cn0) s) []).length<=_
  omega
 refine y_ ?_
 refine A.valE 126 rfl (x':=AI (t.length:Nat)) (ai_eq nt) ?_
 refine A.keep [2,3,6,10,125,126,127] rfl ?_
 refine A.loopP (ι:=Nat×List Nat×RN×Value×Nat) (fun u=>(⟨[(2,rowsA s),(3,ptrA b3),(6,ptrA b6),(10, .ms zb 4 bs.length),(125,trA t),(126,AI (t.length:Nat)),(127,AI (u.1:Nat))],[]⟩, .box b3 (whA t op f)::bsE zb bs u.2.1 b6 u.2.2.2.1 u.2.2.2.2 u.2.2.1)) (fun u=>u.1<=t.length/\PM=contG (chB bs) (rsB bs) s (t.drop u.1) u.1 u.2.1 u.2.2.1/\u.2.1.length=bs.length/\RnOk V u.2.2.1/\Below bs u.2.1/\u.2.2.1.ends.length<=(u.1+1)*2000) (fun u=>t.length-u.1) (0,cn0,r1,v0.1,v0.2) ⟨Nat.zero_le _,hPM1,hcl0,hr1ok,fun i b n hb hn=>by
  have hn:cn0[i]? =some n:=hn
  rw [hcn0,List.getElem?_map] at hn
  cases hb2:bs[i]? with
  |none=>rw [hb2] at hn;cases hn
  |some b'=>rw [hb2] at hn;injection hn with hn;have hn:(0:Nat)=n:=hn;omega,by show _<=(0+1)*2000;omega⟩ rfl fun u hu uh=>?_
 obtain ⟨j,cn,r,z,m⟩:=u
 obtain ⟨hj,hPj,hcl,hro,hBl,hrl⟩:=hu
 simp only at hj hPj hcl hro hBl hrl
 refine y_ ?_
 by_cases hcj:j<t.length
 ·refine Exists.elim (at_exN (l:=t) (i:=j) hcj) fun e he=>?_
  have hst:=step_p zb bs cn e.1 hcl (by omega) hBl (fun b hb=>by have:=hbo.wf b hb;exact ⟨by omega,this.2.2.1⟩)
  rw [drop_at he] at hPj
  refine T_ rfl (by show decide ((j:Int)<(t.length:Nat))=true;rw [decide_eq_true_eq];omega) ?_
  refine j_ rfl (map_at he) rfl ?_
  (repeat refine A.s rfl ?_)
  refine A.b rfl fun b20=>?_
  refine y_ ?_
  refine A.less (Λ':= .box b3 (whA t op f)::bsE zb bs cn b6 z m r) (.cons _ (.refl _)) ?_
  refine A.e rfl hst s_ (Λ2:= .box b3 (whA t op f)::(rnL b6 z m r++bs.map mpB)) (.swap _ _ _) fun u hu=>?_
  obtain ⟨ub,cn'⟩:=u
  obtain ⟨hu1,hu2,hu3⟩:=hu
  simp only at hu1 hu2 hu3
  cases ub with
  |true=>
   have hcs:=hu1.symm
   have hc':=hu3 rfl
   rw [contG_next hcs,<-hc'] at hPj
   have hp':=hpr cn' hu2
   have hq1:RnOk V (meetR s (rsB bs) cn' (j+1) r):=pickA_ok (r:=⟨j+1,r.ends,r.miss⟩) ⟨hro.ends,hro.len⟩ (hpo cn') (by omega) (by show r.ends.length+(pick19 s (eatB bs cn') s).length<=_;omega)
   have hq2:(meetR s (rsB bs) cn' (j+1) r).ends.length<=(j+1+1)*2000:=by
    have:(addN19 (j+1) (pick19 s (eatB bs cn') s) r.ends).length<=r.ends.length+_:=addN_len (m:=j+1) (pick19 s (eatB bs cn') s) r.ends
    show (addN19 (j+1) (pick19 s (eatB bs cn') s) r.ends).length<=_
    omega
   have hq3:Below bs cn':=fun i b n hb hn=>by
    rw [hc'] at hn
    exact step_below hcs i n b.r hn (by rw [List.getElem?_map,hb];rfl)
   refine e_ 135 rfl (x':=AB true) rfl ?_
   refine A.valE 139 rfl (x':=AI ((j+1:Nat):Int)) (inc_eq j (by omega)) ?_
   refine A.e rfl (hmeet cn' (j+1) z m r hu2 (by omega) hro (by show r.ends.length+(pick19 s (eatB bs cn') s).length<=_;omega)) s_ (Λ2:=[.box b3 (whA t op f)]) (List.Perm.cons _ (List.perm_append_singleton _ _).symm) fun v _=>?_
   refine A.perm (Λ':= .box b3 (whA t op f)::bsE zb bs cn' b6 v.1 v.2 (meetR s (rsB bs) cn' (j+1) r)) (List.perm_append_singleton _ _) ?_
   refine y_ ?_
   refine A.valE 127 rfl (x':=AI ((j+1:Nat):Int)) (inc_eq j (by omega)) ?_
   refine u_ (uh (j+1,cn',meetR s (rsB bs) cn' (j+1) r,v.1,v.2) ⟨by show j+1<=_;omega,hPj,hu2,hq1,hq3,hq2⟩ (by show _-(j+1)<_-j;omega))
  |false=>
   rw [contG_stop hu1.symm] at hPj
   refine A.valE 135 rfl (x':=AB false) rfl ?_
   refine A.entsEq (Λ':= .row 4 zb (rowB bs cn'):: .box b3 (whA t op f):: .box b6 (rnB z m r):: .row 2 z (r.ends.map enA)::(mapL m r.ends++bs.map mpB)) rfl ?_
   refine A.less (Λ':=[.box b6 (rnB z m r), .row 2 z (r.ends.map enA)]) (.cons _ (.cons _ (.cons_cons _ (.cons_cons _ (List.nil_sublist _))))) ?_
   refine A.entsEq (Λ':=[.box b6 (rnB z m PM), .row 2 z (PM.ends.map enA)]) (by rw [hPj]) ?_
   refine A.freezeRowV 6 z (x':=rnV _) rfl (rn_fz z m _) ?_;refine y_ ?_;refine A.retC (Λ':=[]) rfl rfl rfl rfl rfl (List.nil_sublist _) ⟨?_,rfl⟩;exact s_
 ·refine A.gF rfl (by show decide ((j:Int)<(t.length:Nat))=false;rw [decide_eq_false_iff_not];omega) ?_
  rw [List.drop_eq_nil_of_le (by omega:t.length<=j),contG] at hPj
  refine A.entsEq (Λ':= .box b3 (whA t op f):: .row 4 zb (rowB bs cn):: .box b6 (rnB z m r):: .row 2 z (r.ends.map enA)::(mapL m r.ends++bs.map mpB)) rfl ?_
  refine A.less (Λ':=[.box b6 (rnB z m r), .row 2 z (r.ends.map enA)]) (.cons _ (.cons _ (.cons_cons _ (.cons_cons _ (List.nil_sublist _))))) ?_
  refine A.entsEq (Λ':=[.box b6 (rnB z m PM), .row 2 z (PM.ends.map enA)]) (by rw [hPj]) ?_
  refine A.freezeRowV 6 z (x':=rnV _) rfl (rn_fz z m _) ?_;refine y_ ?_;refine A.retC (Λ':=[]) rfl rfl rfl rfl rfl (List.nil_sublist _) ⟨?_,rfl⟩;exact s_
theorem Un.sm{V:List KV}{C:List Int}{p:PR}(u:Un V C p):smR p:=by
 obtain ⟨n,h,w⟩:=u
 exact (okF_sm (okF_imp (fun p (hp:LU V C p)=>hp.1) _ p n h (Nat.le_refl _) w)).2.1
theorem way9{p:PR}{f:Nat}(hk:p.kind=9\/p.kind=10\/p.kind=11):wayR p f=wayL p.l f:=by
 obtain ⟨k,c,v,it,to,e,gs,l⟩:=p
 rw [wayR_eq]
 exact if_pos hk
theorem way12{p:PR}{f:Nat}(hk:p.kind=12\/p.kind=14\/p.kind=15):wayR p f=1+wayGs p.gs f:=by
 obtain ⟨k,c,v,it,to,e,gs,l⟩:=p
 have hk:k=12\/k=14\/k=15:=hk
 rw [wayR_eq,if_neg (show¬(k=9\/k=10\/k=11) by omega)]
 exact if_pos hk
theorem way13{p b:PR}{f:Nat}(hk:p.kind=13)(hl:p.l=[b]):wayR p (f+1)=1+wayR p f*wayR b f:=by
 obtain ⟨k,c,v,it,to,e,gs,l⟩:=p
 have hk:k=13:=hk
 have hl:l=[b]:=hl
 subst hl
 rw [wayR_eq,wayR_eq,if_neg (show¬(k=9\/k=10\/k=11) by omega),if_neg (show¬(k=9\/k=10\/k=11) by omega),if_neg (show¬(k=12\/k=14\/k=15) by omega),if_neg (show¬(k=12\/k=14\/k=15) by omega),if_pos hk,if_pos hk,whileW]
 rw [wayB]
theorem kinds19{V:List KV}{C:List Int}{p:PR}(u:Un V C p):p.kind=1\/p.kind=2\/p.kind=3\/p.kind=4\/p.kind=5\/p.kind=6\/p.kind=9\/p.kind=10\/p.kind=11\/p.kind=12\/p.kind=13\/p.kind=14\/p.kind=15\/p.kind=16:=by
 by_cases h16:p.kind=16
 ·omega
 ·have h1:=kind_bodies (u.kb h16)
  have h7:=u.ut.k7
  have h8:=u.ut.k8
  omega
theorem run19_f{V:List KV}{C:List Int}(p:PR)(u:Un V C p)(f:Nat)(hf:f<=1048576)(hw:wayR p f<=2000)(op:List Int)(t:TR)(s:Sto)(hop:op.length+(rawC p).length<=1048576)(ht:TrI t)(htl:t.length<=256)(hs:StOk V s)(hl: ∀x,x∈p.l->wayR x f<=2000->RunC V f x)(hg: ∀g,g∈p.gs-> ∀x,x∈g.body->wayR x f<=2000->RunC V f x)
 (hprev: ∀f',f=f'+1-> ∀x,Un V C x->wayR x f'<=2000->RunC V f' x):Pure Tryz.prog gs0 87 [whA t op f,cellsR p,rowsA s] (rnV (runR f op t s p)):=by
 have hll:=u.loc.lens.2.2.2
 have hway:p.kind=12\/p.kind=14\/p.kind=15-> ∀g,g∈p.gs-> ∀x,x∈g.body->wayR x f<=2000:=fun hk g hgm x hx=>by
  rw [way12 hk] at hw
  have:=wayGs_mem (f:=f) hgm hx
  omega
 have hbod:p.kind=12\/p.kind=14\/p.kind=15->BodC V f op p:=fun hk g hgm x hx t' s' h1 h2 h3=>hg g hgm x hx (hway hk g hgm x hx) op t' s' (by have:=rawC_g hgm hx;omega) h1 h2 h3
 have P:Parts V C f op t s p:={
  seq:=fun hk=>by
   rw [way9 (.inl hk)] at hw
   exact seq19_p p.l u.l hw (fun x hx=>hl x hx (wayL_mem hw hx)) (by omega) op t s (fun x hx=>by have:=rawC_l hx;omega) ht htl hs
  loop:=fun hk=>loop19_p p u hk f hf op t s hs fun f' b hff hb=>by
   subst hff
   rw [way13 hk hb] at hw
   have hub:Un V C b:=u.l b (by rw [hb];exact .head _)
   have hww:wayL [b,p] f'<=2000:=by
    rw [wayL,wayL,wayL,Nat.mul_one,Nat.mul_comm];omega
   refine seq19_p (C:=C) [b,p] (fun x hx=>?_) hww (fun x hx=>?_) (by simp) op t s (fun x hx=>?_) ht htl hs
   ·rcases List.mem_cons.1 hx with rfl|hx
    ·exact hub
    ·rw [List.mem_singleton.1 hx];exact u
   ·refine hprev f' rfl x ?_ (wayL_mem hww hx)
    rcases List.mem_cons.1 hx with rfl|hx
    ·exact hub
    ·rw [List.mem_singleton.1 hx];exact u
   ·rcases List.mem_cons.1 hx with rfl|hx
    ·have:=rawC_l (p:=p) (x:=x) (by rw [hb];exact .head _);omega
    ·rw [List.mem_singleton.1 hx];exact hop
  gs:=fun hk=>by
   by_cases h12:p.kind=12
   ·exact guards_if p u h12 f op t s ht htl hs (hbod hk)
   ·exact guards_alt p u (by omega) f op t s ht htl (by omega) hs (hbod hk)
  par:=fun hk=>by
   have hw':=hw
   rw [way9 (.inr hk)] at hw'
   exact par19_p f hf op t s p.l ⟨u.l,fun x hx=>(u.l x hx).sm,fun x hx=>hl x hx (wayL_mem hw' hx),hw',by have:=rawC_eq p;rw [this,List.length_append,List.length_append] at hop;omega,hll⟩ ht htl hs
  way:=hway}
 rcases kinds19 u with h|h|h|h|h|h|h|h|h|h|h|h|h|h
 ·exact run_plain p u f op t s ht htl (by omega) hs P (by omega)
 ·exact run_plain p u f op t s ht htl (by omega) hs P (by omega)
 ·exact run_clear p u f op t s hs h
 ·exact run_plain p u f op t s ht htl (by omega) hs P (by omega)
 ·exact run_inp p u f op t s ht htl (by omega) hs h
 ·exact run_out p u f op t s ht htl (by omega) hs h
 ·exact run_plain p u f op t s ht htl (by omega) hs P (by omega)
 ·exact run_plain p u f op t s ht htl (by omega) hs P (by omega)
 ·exact run_plain p u f op t s ht htl (by omega) hs P (by omega)
 ·exact run_guards p u f op t s ht htl hs P 12 h (.inl rfl)
 ·exact run_plain p u f op t s ht htl (by omega) hs P (by omega)
 ·exact run_guards p u f op t s ht htl hs P 14 h (.inr (.inl rfl))
 ·exact run_guards p u f op t s ht htl hs P 15 h (.inr (.inr rfl))
 ·exact run_plain p u f op t s ht htl (by omega) hs P (by omega)
theorem run19_m{V:List KV}{C:List Int}(f:Nat)(hf:f<=1048576)(hprev: ∀f',f=f'+1-> ∀x,Un V C x->wayR x f'<=2000->RunC V f' x): ∀(m:Nat) (p:PR),SizeOf.sizeOf p<=m->Un V C p->wayR p f<=2000->RunC V f p
 |0,p,h,_,_=>by
  obtain ⟨k,c,v,i,to,e,gs,l⟩:=p
  simp only [PR.mk.sizeOf_spec] at h;omega
 |m+1,p,hm,u,hw=>fun op t s hop ht htl hs=>run19_f p u f hf hw op t s hop ht htl hs (fun x hx=>run19_m f hf hprev m x (by have:=lt19_l hx;omega) (u.l x hx)) (fun g hg x hx=>run19_m f hf hprev m x (by have:=lt19_g hg hx;omega) (u.g g hg x hx)) hprev
theorem run19_p{V:List KV}{C:List Int}: ∀(f:Nat),f<=1048576-> ∀p,Un V C p->wayR p f<=2000->RunC V f p
 |0,hf,p,u,hw=>run19_m 0 hf (fun f' h=>by omega) _ p (Nat.le_refl _) u hw
 |f+1,hf,p,u,hw=>run19_m (f+1) hf (fun f' h x ux hx=>by
   have h:f'=f:=by omega
   subst h
   exact run19_p f' (by omega) x ux hx) _ p (Nat.le_refl _) u hw
section
variable{V:List KV}{C:List Int}
theorem unt_no_l{p x:PR}(hx:x∈p.l)(h:untR x=false):untR p=false:=by
 cases hp:untR p with
 |false=>rfl
 |true=>have:=(unt_iff.1 hp).2.1 x hx;rw [h] at this;cases this
theorem unt_no_g{p:PR}{g:GD}(hg:g∈p.gs)(h:g.kind=4):untR p=false:=by
 cases hp:untR p with
 |false=>rfl
 |true=>exact absurd h ((unt_iff.1 hp).1.gs g hg)
theorem unt_no_b{p x:PR}{g:GD}(hg:g∈p.gs)(hb:g.body=[x])(h:untR x=false):untR p=false:=by
 cases hp:untR p with
 |false=>rfl
 |true=>
  have:=(unt_iff.1 hp).2.2 g hg
  rw [hb,untL_all] at this
  have:=this x (.head _)
  rw [h] at this;cases this
theorem unt_yes{p:PR}(h7:p.kind≠7)(h8:p.kind≠8)(hl: ∀x,x∈p.l->untR x=true)(hg: ∀g,g∈p.gs->g.kind≠4/\ ∃y,g.body=[y]/\untR y=true):untR p=true:=by
 refine unt_iff.2 ⟨⟨h7,h8,fun g h=>(hg g h).1⟩,hl,fun g h=>?_⟩
 obtain ⟨_,y,e,hy⟩:=hg g h
 rw [e,untL_all]
 intro x hx
 rw [List.mem_singleton.1 hx];exact hy
end
section
variable{V:List KV}{C:List Int}
theorem tunt_f(p:PR)(hs:smR p)(hbd: ∀g,g∈p.gs-> ∃y,g.body=[y])(hl: ∀x,x∈p.l->Pure Tryz.prog gs0 86 [cellsR x] (AB (untR x)))(hg: ∀g,g∈p.gs-> ∀x,x∈g.body->Pure Tryz.prog gs0 86 [cellsR x] (AB (untR x))):
 Pure Tryz.prog gs0 86 [cellsR p] (AB (untR p)):=by
 have hsa:=smR_all hs
 have hll:=hsa.ll
 have hgl:=hsa.gl
 have n1:((encRl p.l).length:Int)=p.l.length:=by rw [encRl_len]
 have n2:((encGl p.gs).length:Int)=p.gs.length:=by rw [encGl_len]
 by_cases h7:p.kind=7
 ·have hu:untR p=false:=by
   cases hp:untR p with
   |false=>rfl
   |true=>exact absurd h7 (unt_iff.1 hp).1.k7
  rw [hu]
  refine p_ tt_ok Tryz.func86 45 fun w0 h0 F hgs=>?_
  (refine b_ fun bx=>?_;refine y_ ?_)
  refine e_ 10 rfl (x':=AB true) (ab_eq (by rw [h7];rfl)) ?_
  exact r_
 by_cases h8:p.kind=8
 ·have hu:untR p=false:=by
   cases hp:untR p with
   |false=>rfl
   |true=>exact absurd h8 (unt_iff.1 hp).1.k8
  rw [hu]
  refine p_ tt_ok Tryz.func86 45 fun w0 h0 F hgs=>?_
  (refine b_ fun bx=>?_;refine y_ ?_)
  refine e_ 10 rfl (x':=AB false) (ab_eq (by rw [h8];rfl)) ?_
  refine T_ rfl (by rw [h8];rfl) ?_
  exact r_
 refine Exists.elim (show∃R,R=untR p from ⟨_,rfl⟩) fun R hR=>?_
 rw [<-hR]
 refine p_ tt_ok Tryz.func86 45 fun w0 h0 F hgs=>?_
 (refine b_ fun bx=>?_;refine y_ ?_)
 refine e_ 10 rfl (x':=AB false) (ab_eq (beq_eq_false_iff_ne.2 h7)) ?_
 refine F_ rfl (beq_eq_false_iff_ne.2 h8) ?_
 refine A.freeze 1 (sz:=8) rfl rfl rfl ?_
 refine A.valE 17 rfl (x':=AI (p.l.length:Nat)) (ai_eq n1) ?_
 refine A.keep [1,16,17,18] rfl ?_
 refine l_ (Λ':=[]) ?_
 refine A.loopP (ι:=Nat) (fun i=>(⟨[(1, .pe 8 (cellsR p)),(16,rsA p.l),(17,AI (p.l.length:Nat)),(18,AI (i:Nat))],[]⟩,[])) (fun i=>i<=p.l.length/\ ∀x,x∈p.l.take i->untR x=true) (fun i=>p.l.length-i) 0 ⟨Nat.zero_le _,fun x h=>by rw [List.take_zero] at h;cases h⟩ rfl fun i hi ih=>?_
 obtain ⟨hi1,hi2⟩:=hi
 refine y_ ?_
 refine k_ (fun hc=>?_) fun hc=>?_
 ·have hci:i<p.l.length:=by simpa using hc
  clear hc
  refine Exists.elim (at_exN (l:=p.l) (i:=i) hci) fun x hx=>?_
  have hxm:=List.mem_of_getElem? hx
  have hcall:=hl x hxm
  have htk:p.l.take (i+1)=p.l.take i++[x]:=by rw [List.take_add_one,hx];rfl
  refine y_ ?_
  refine j_ rfl (encRl_at hx) (encR_eq x) ?_
  (repeat refine A.s rfl ?_)
  refine A.b rfl fun b4=>?_
  refine y_ ?_
  refine c_ hcall ?_
  refine k_ (fun hc=>?_) fun hc=>?_
  ·have hx0:untR x=false:=by simpa using hc
   refine y_ ?_
   refine R_ ?_
   rw [hR,unt_no_l hxm hx0]
   exact .refl
  ·have hx1:untR x=true:=by simpa using hc
   clear hc
   refine y_ ?_
   refine A.valE 18 rfl (x':=AI ((i+1:Nat):Int)) (inc_eq i (by omega)) ?_
   refine l_ (Λ':=[]) ?_
   refine u_ (ih (i+1) ⟨by omega,fun y hy=>?_⟩ (by omega))
   rw [htk,List.mem_append] at hy
   rcases hy with hy|hy
   ·exact hi2 y hy
   ·rw [List.mem_singleton.1 hy];exact hx1
 have hci: ¬i<p.l.length:=by simpa using hc
 clear hc ih
 have hil:i=p.l.length:=by omega
 rw [hil,List.take_length] at hi2
 refine y_ ?_
 refine A.valE 28 rfl (x':=AI (p.gs.length:Nat)) (ai_eq n2) ?_
 refine A.keep [1,27,28,29] rfl ?_
 refine A.loopP (ι:=Nat) (fun j=>(⟨[(1, .pe 8 (cellsR p)),(27,gsA p.gs),(28,AI (p.gs.length:Nat)),(29,AI (j:Nat))],[]⟩,[])) (fun j=>j<=p.gs.length/\ ∀g,g∈p.gs.take j->g.kind≠4/\ ∃y,g.body=[y]/\untR y=true) (fun j=>p.gs.length-j) 0 ⟨Nat.zero_le _,fun x h=>by rw [List.take_zero] at h;cases h⟩ rfl fun j hj jh=>?_
 obtain ⟨hj1,hj2⟩:=hj
 refine y_ ?_
 refine k_ (fun hc=>?_) fun hc=>?_
 ·have hcj:j<p.gs.length:=by simpa using hc
  clear hc
  refine Exists.elim (at_exN (l:=p.gs) (i:=j) hcj) fun g hgj=>?_
  have hgm:=List.mem_of_getElem? hgj
  have htk:p.gs.take (j+1)=p.gs.take j++[g]:=by rw [List.take_add_one,hgj];rfl
  refine Exists.elim (hbd g hgm) fun y hy=>?_
  have hcall:=hg g hgm y (by rw [hy];exact .head _)
  have hat:(encRl g.body)[(0:Int).toNat]? =some (encR y):=encRl_at (by rw [hy];rfl)
  refine y_ ?_
  refine j_ rfl (encGl_at hgj) (encG_eq g) ?_
  (repeat refine A.s rfl ?_)
  refine A.b rfl fun b6=>?_
  refine y_ ?_
  by_cases h4:g.kind=4
  ·refine e_ 36 rfl (x':=AB true) (ab_eq (by rw [h4];rfl)) ?_
   refine R_ ?_
   rw [hR,unt_no_g hgm h4]
   exact .refl
  ·refine e_ 36 rfl (x':=AB false) (ab_eq (beq_eq_false_iff_ne.2 h4)) ?_
   refine i_ rfl hat (encR_eq y) ?_
   refine c_ hcall ?_
   refine k_ (fun hc=>?_) fun hc=>?_
   ·have hx0:untR y=false:=by simpa using hc
    refine y_ ?_
    refine R_ ?_
    rw [hR,unt_no_b hgm hy hx0]
    exact .refl
   ·have hx1:untR y=true:=by simpa using hc
    clear hc
    refine y_ ?_
    refine A.valE 29 rfl (x':=AI ((j+1:Nat):Int)) (inc_eq j (by omega)) ?_
    refine l_ (Λ':=[]) ?_
    refine u_ (jh (j+1) ⟨by omega,fun g' hg'=>?_⟩ (by omega))
    rw [htk,List.mem_append] at hg'
    rcases hg' with hg'|hg'
    ·exact hj2 g' hg'
    ·rw [List.mem_singleton.1 hg'];exact ⟨h4,y,hy,hx1⟩
 have hcj: ¬j<p.gs.length:=by simpa using hc
 clear hc jh
 have hjl:j=p.gs.length:=by omega
 rw [hjl,List.take_length] at hj2
 refine y_ ?_
 refine R_ ?_
 rw [hR,unt_yes h7 h8 hi2 hj2]
 exact .refl
theorem tunt_n: ∀(m:Nat) (p:PR) (n hi:Bool),SizeOf.sizeOf p<=m->okF (Loc V C) n hi p->Pure Tryz.prog gs0 86 [cellsR p] (AB (untR p))
 |0,p,_,_,h,_=>by
  obtain ⟨k,c,v,i,to,e,gs,l⟩:=p
  simp only [PR.mk.sizeOf_spec] at h;omega
 |m+1,p,n,hi,hm,w=>by
  have hs:=(okF_sm w).2.1
  rw [okF_eq] at w
  obtain ⟨⟨w1,w2,w3⟩,w4,w5⟩:=w
  refine tunt_f p hs w1.body (fun x hx=>?_) (fun g hg x hx=>?_)
  ·obtain ⟨n',h',hw⟩:=okFl_some w4 hx
   exact tunt_n m x n' h' (by have:=pr_lt hx;omega) hw
  ·have:=okFs_mem w5 g hg
   rw [okFg_eq] at this
   obtain ⟨n',h',hw⟩:=okFl_some this hx
   exact tunt_n m x n' h' (by have:=gg_lt hg;have:=bd_lt hx;omega) hw
end
theorem tunt_p{k:KN}(hk:SmN k)(hm:mayK k=true):Pure Tryz.prog gs0 86 [cellsR k.root] (AB (untR k.root)):=tunt_n _ k.root true false (Nat.le_refl _) (start_root hm hk.wf hk.root)
end Go.Proofs.YtkbolbpojpmicaaGreat
namespace Go.Tp
open Go Go.RowKit
def SbQ(D:Da)(ps:List Nat)(zs args':List AV):Prop:= ∀(h h':GH) (Es:Slots),RpD h D Es->h.le h'->(∀j,j∈ps-> ∀x,Es j=some x->atH h' x.b x.lo x.cs)-> ∀v,RpC h zs v->RpC h' args' v
theorem SbQ.ag{D:Da}{ps:List Nat}{l r zs bs:List AV}(h1:SbPL D ps l r)(h2:SbPL D ps zs bs):SbQ D ps (.ag l::zs) (.ag r::bs):=fun h h' Es dd hl hp v q=>by
 rw [RpC_cons] at q⊢
 obtain ⟨u,us,rfl,q1,q2⟩:=q
 refine ⟨u,us,rfl,?_,h2.rp dd hl hp q2⟩
 rw [Rp_ag] at q1⊢
 obtain ⟨z,rfl,q3⟩:=q1
 exact ⟨z,rfl,h1.rp dd hl hp q3⟩
theorem WA.callQ{K:AC}{all:Array Oper}{m:Nat}{k:List It}{pubs:Nat->List Nat}{Y:Ua}{π:List Nat}{E:AEnv}{Λ:List AEnt}{D:Da}{i:Nat}{o:Oper}{ks:List (Nat×Bool)}{x:Operand}{args:Array Operand}{ts:Array TypeId}{f:FuncId}{fst cap vs args':List AV}{y:AV}{d:Nat}{ps:List Nat}{D':Da}(hi:nthL all.toList i=some o)
 (hg:gyesA E all o.guard=some ks) (ho:o.op= .call ⟨.value x,args,ts⟩) (hx:E.ev K.gs ks x=some (.fn f fst cap)) (ha:evsA (E.ev K.gs ks) args.toList=some vs)
 (hd:o.dst=some d) (hc:okPutA K.n E d=true) (hp:pubs i=ps) (hii:memB i ps=false) (hD:dropD ps D=D') (hY:lookA Y i=some y) (hf:Pure K.P K.gs f args' y) (hs:SbQ D ps (fst++(vs++cap)) args')
 (next:WA K all m k pubs Y π ⟨(d,y)::E.us,E.cs⟩ Λ D'):WA K all m k pubs Y (i::π) E Λ D:=by
 subst hD;subst hp
 refine ⟨fun h e L Es hl r q dd=>?_⟩
 obtain ⟨v1,e1,f1⟩:=r.ev (K.hgs.mono hl) _ hx
 rw [Rp_fn] at f1
 obtain ⟨u,w,rfl,f2,f3⟩:=f1
 obtain ⟨us,e2,f4⟩:=evsA_rp (σ:=e.ev ks) (fun z x hz=>r.ev (K.hgs.mono hl) ks hz) ha
 refine WE.callL (G:=drawRg K.cfg all (L++K.G) pubs (YA Y) m k) hi (gyesA_eq r hg) ho e1 e2 hd (okPutA_eq r hc) (fun pk L'=>?_) (fun v h' y1 y2 y3=>?_) hii
 ·have hargs:=hs _ _ _ dd pk.1 pk.2 _ (f2.append (f4.append f3))
  refine (hf K.w0 _ _ [] _ (K.hgs.mono (GH.le_trans hl pk.1)) hargs rfl).mono ?_
  rintro v h' L'' ⟨z,Λ',L1,⟨rfl,rfl⟩,g2,g3,g4,rfl⟩
  have g4:L1=[]:=g4
  subst g4
  exact ⟨rfl,g3,by simp only [YA,hY];exact g2⟩
 ·have y3:Rp h' y v:=by simp only [YA,hY] at y3;exact y3
  exact next.run h' ⟨(d,v)::e.us,e.cs⟩ L _ (GH.le_trans hl y2) ⟨(r.1.mono y2).put y3,r.2.mono y2⟩ (q.mono y2) ((dd.mono y2).pub _)
end Go.Tp
namespace Go.Proofs.YtkbolbpojpmicaaGreat
open Go Go.Tp
theorem raw_lenl: ∀{l:List PR},(∀x,x∈l->(rawC x).length<=17*szR x)->(rawCl l).length<=17*szL l
 | [],_=>by rw [rawCl,szL];exact Nat.le_refl _
 |p::r,h=>by
  have h1:=h p (.head _)
  have h2:=raw_lenl (l:=r) fun x hx=>h x (.tail _ hx)
  rw [rawCl,szL,List.length_append];omega
theorem raw_leng: ∀{l:List GD},(∀g,g∈l-> ∀x,x∈g.body->(rawC x).length<=17*szR x)->(rawCg l).length<=l.length+17*szGs l
 | [],_=>by rw [rawCg,szGs];exact Nat.le_refl _
 |⟨k,cd,c,it,to,tm,b⟩::r,h=>by
  have h1:=raw_lenl (l:=b) (h _ (.head _))
  have h2:=raw_leng (l:=r) fun x hx=>h x (.tail _ hx)
  rw [rawCg,szGs,szG]
  simp only [List.length_append,List.length_cons]
  split
  ·simp only [List.length_cons,List.length_nil];omega
  ·simp only [List.length_nil];omega
theorem raw_len_n{V:List KV}{C:List Int}: ∀(m:Nat) (p:PR),SizeOf.sizeOf p<=m->Un V C p->(rawC p).length<=17*szR p
 |0,p,h,_=>by
  obtain ⟨k,c,v,i,to,e,gs,l⟩:=p
  simp only [PR.mk.sizeOf_spec] at h;omega
 |m+1,p,hm,u=>by
  have h1:=raw_lenl (l:=p.l) fun x hx=>raw_len_n m x (by have:=lt19_l hx;omega) (u.l x hx)
  have h2:=raw_leng (l:=p.gs) fun g hg x hx=>raw_len_n m x (by have:=lt19_g hg hx;omega) (u.g g hg x hx)
  have h3:=u.loc.lens.2.2.1
  obtain ⟨k,c,v,i,to,e,gs,l⟩:=p
  rw [rawC,szR]
  have h1:(rawCl l).length<=17*szL l:=h1
  have h2:(rawCg gs).length<=gs.length+17*szGs gs:=h2
  have h3:gs.length<=16:=h3
  simp only [List.length_append]
  split
  ·simp only [List.length_cons,List.length_nil];omega
  ·simp only [List.length_nil];omega
theorem raw_len{V:List KV}{C:List Int}{p:PR}(u:Un V C p):(rawC p).length<=17*szR p:=raw_len_n _ p (Nat.le_refl _) u
def errX(k:KN)(t:TR)(f:Int):Int:=if mayK k=false\/untR k.root=false\/f<0\/1024<f then 2 else if 256<t.length then 3 else 0
abbrev runX(k:KN)(t:TR)(f:Int):RN:=runR f.toNat [0,1] t (storeS k.vars) k.root
def ofX(k:KN)(t:TR)(f:Int):RN:=if errX k t f=0 then runX k t f else nilR
structure XOk(k:KN)(t:TR)(f:Int):Prop where
 may:mayK k=true
 unt:untR k.root=true
 f0:0<=f
 f1:f<=1024
 len:t.length<=256
theorem errX_ok{k:KN}{t:TR}{f:Int}(h:errX k t f=0):XOk k t f:=by
 unfold errX at h
 split at h
 ·omega
 ·rename_i h1
  split at h
  ·omega
  ·rename_i h2
   simp only [not_or,Bool.not_eq_false,Int.not_lt] at h1
   exact ⟨h1.1,h1.2.1,h1.2.2.1,h1.2.2.2,by omega⟩
theorem errX_zero{k:KN}{t:TR}{f:Int}(h:XOk k t f):errX k t f=0:=by
 unfold errX
 rw [if_neg (by rintro (h1|h1|h1|h1);rw [h.may] at h1;cases h1;rw [h.unt] at h1;cases h1;exact absurd h.f0 (by omega);exact absurd h.f1 (by omega)),if_neg (by have:=h.len;omega)]
theorem un_root{k:KN}(hk:SmN k)(hm:mayK k=true)(hu:untR k.root=true):Un k.vars k.chans k.root:=⟨_,_,lu_of hu (start_root hm hk.wf hk.root)⟩
theorem stX{k:KN}(hm:mayK k=true):StOk k.vars (storeS k.vars):=by rw [storeS_eq hm];exact store_ok (may_sounds hm)
theorem runX_p(k:KN)(hk:SmN k)(t:TR)(ht:TrI t)(f:Int)(h:XOk k t f)(hw:wayR k.root f.toNat<=2000):Pure Tryz.prog gs0 87 [whA t [0,1] f.toNat,cellsR k.root,rowsA (storeS k.vars)] (rnV (runX k t f)):=by
 have hu:=un_root hk h.may h.unt
 have hsz:=(may_fits h.may).2.1
 have hr:=raw_len hu
 have:=h.f1
 exact run19_p f.toNat (by omega) k.root hu hw [0,1] t _ (by show 2+_<=_;omega) ht h.len (stX h.may)
theorem tof_p(k:KN)(hk:SmN k)(t:TR)(ht:TrI t)(f:Int)(hw:errX k t f=0->wayR k.root f.toNat<=2000):Pure Tryz.prog gs0 45 [encN k,trA t,AI f] (.tp [rnV (ofX k t f),AI (errX k t f)]):=by
 have h1:=kmay_p k hk.wf
 have nt:=trA_len t
 refine Exists.elim (show∃R,R=errX k t f from ⟨_,rfl⟩) fun R hR=>?_
 refine Exists.elim (show∃O,O=ofX k t f from ⟨_,rfl⟩) fun O hO=>?_
 rw [<-hR,<-hO]
 by_cases hm:mayK k=true
 case neg=>
  have hm:mayK k=false:=by simpa using hm
  have e:errX k t f=2:=by unfold errX;rw [if_pos (.inl hm)]
  unfold ofX at hO
  rw [e] at hR hO
  rw [if_neg (by decide)] at hO
  rw [hm] at h1
  refine p_ tt_ok Tryz.func45 39 fun w0 h0 F hgs=>?_
  (repeat refine A.s rfl ?_)
  refine A.b rfl fun b3=>?_
  refine A.b rfl fun b6=>?_
  refine y_ ?_
  refine c_ h1 ?_
  refine m_ (ResA.cell rfl rfl rfl (ResA.tmp rfl ResA.nil)) ?_
  rw [hR,hO]
  exact s_
 have h2:=tunt_p hk hm
 rw [hm] at h1
 by_cases hu:untR k.root=true
 case neg=>
  have hu:untR k.root=false:=by simpa using hu
  have e:errX k t f=2:=by unfold errX;rw [if_pos (.inr (.inl hu))]
  unfold ofX at hO
  rw [e] at hR hO
  rw [if_neg (by decide)] at hO
  rw [hu] at h2
  refine p_ tt_ok Tryz.func45 39 fun w0 h0 F hgs=>?_
  (repeat refine A.s rfl ?_)
  refine A.b rfl fun b3=>?_
  refine A.b rfl fun b6=>?_
  refine y_ ?_
  refine c_ h1 ?_
  refine c_ h2 ?_
  refine m_ (ResA.cell rfl rfl rfl (ResA.tmp rfl ResA.nil)) ?_
  rw [hR,hO]
  exact s_
 rw [hu] at h2
 by_cases c1:f<0
 ·have e:errX k t f=2:=by unfold errX;rw [if_pos (.inr (.inr (.inl c1)))]
  unfold ofX at hO
  rw [e] at hR hO
  rw [if_neg (by decide)] at hO
  refine p_ tt_ok Tryz.func45 39 fun w0 h0 F hgs=>?_
  (repeat refine A.s rfl ?_)
  refine A.b rfl fun b3=>?_
  refine A.b rfl fun b6=>?_
  refine y_ ?_
  refine c_ h1 ?_
  refine c_ h2 ?_
  refine T_ rfl (by show decide (f<0)=true;rw [decide_eq_true_eq];exact c1) ?_
  refine m_ (ResA.cell rfl rfl rfl (ResA.tmp rfl ResA.nil)) ?_
  rw [hR,hO]
  exact s_
 by_cases c2:1024<f
 ·have e:errX k t f=2:=by unfold errX;rw [if_pos (.inr (.inr (.inr c2)))]
  unfold ofX at hO
  rw [e] at hR hO
  rw [if_neg (by decide)] at hO
  refine p_ tt_ok Tryz.func45 39 fun w0 h0 F hgs=>?_
  (repeat refine A.s rfl ?_)
  refine A.b rfl fun b3=>?_
  refine A.b rfl fun b6=>?_
  refine y_ ?_
  refine c_ h1 ?_
  refine c_ h2 ?_
  refine F_ rfl (by show decide (f<0)=false;rw [decide_eq_false_iff_not];exact c1) ?_
  refine T_ rfl (by show (bif false then true else decide (1024<f))=true;rw [decide_eq_true c2];rfl) ?_
  refine m_ (ResA.cell rfl rfl rfl (ResA.tmp rfl ResA.nil)) ?_
  rw [hR,hO]
  exact s_
 have hno: ¬(mayK k=false\/untR k.root=false\/f<0\/1024<f):=by
  rintro (h|h|h|h)
  ·rw [hm] at h;cases h
  ·rw [hu] at h;cases h
  ·exact c1 h
  ·exact c2 h
 by_cases c3:256<t.length
 ·have e:errX k t f=3:=by unfold errX;rw [if_neg hno,if_pos c3]
  unfold ofX at hO
  rw [e] at hR hO
  rw [if_neg (by decide)] at hO
  refine p_ tt_ok Tryz.func45 39 fun w0 h0 F hgs=>?_
  (repeat refine A.s rfl ?_)
  refine A.b rfl fun b3=>?_
  refine A.b rfl fun b6=>?_
  refine y_ ?_
  refine c_ h1 ?_
  refine c_ h2 ?_
  refine F_ rfl (by show decide (f<0)=false;rw [decide_eq_false_iff_not];exact c1) ?_
  refine F_ rfl (by show (bif false then true else decide (1024<f))=false;rw [decide_eq_false c2];rfl) ?_
  refine T_ rfl (by show decide ((256:Int)<((t.map evA).length:Int))=true;rw [nt,decide_eq_true_eq];omega) ?_
  refine m_ (ResA.cell rfl rfl rfl (ResA.tmp rfl ResA.nil)) ?_
  rw [hR,hO]
  exact s_
 have hx:XOk k t f:=⟨hm,hu,by omega,by omega,by omega⟩
 have e:=errX_zero hx
 have hrun:=runX_p k hk t ht f hx (hw e)
 have hst:=storeS_pN k.vars k.chans k.root k.procs hk.wf.vars
 rw [show ((⟨k.vars,k.chans,k.root,k.procs⟩:KN))=k from rfl] at hst
 unfold ofX at hO
 rw [if_pos e] at hO
 rw [e] at hR
 have hfn:((f.toNat:Nat):Int)=f:=by omega
 rw [show whA t [0,1] f.toNat= .ag [trA t,intsA [0,1],AI f] by show AV.ag [_,_,AI _]=_;rw [hfn]] at hrun
 refine p_ tt_ok Tryz.func45 39 fun w0 h0 F hgs=>?_
 (repeat refine A.s rfl ?_)
 refine A.b rfl fun b3=>?_
 refine A.b rfl fun b6=>?_
 refine y_ ?_
 refine c_ h1 ?_
 refine c_ h2 ?_
 refine F_ rfl (by show decide (f<0)=false;rw [decide_eq_false_iff_not];exact c1) ?_
 refine F_ rfl (by show (bif false then true else decide (1024<f))=false;rw [decide_eq_false c2];rfl) ?_
 refine F_ rfl (by show decide ((256:Int)<((t.map evA).length:Int))=false;rw [nt,decide_eq_false_iff_not];omega) ?_
 refine A.draw 9 [0,1,2,3,4,5,6,7,8] (fun i=>if i=8 then [1] else []) [(7,rowsA (storeS k.vars)),(8,rnV (runX k t f))] (by kernel_rfl) (by kernel_rfl) ?_
 refine w_ ?_
 refine WA.lit rfl rfl rfl rfl rfl rfl rfl fun bw=>?_
 refine w_ ?_
 refine cw_ hst ?_
 refine WA.callQ rfl rfl rfl rfl rfl rfl rfl rfl rfl rfl rfl hrun (.ag (.cons (.sub .refl) (.cons (.pub (j:=1) rfl rfl (.sub .refl)) (.sub .refl))) (.sub .refl)) ?_
 refine z_ ?_
 refine m_ (ResA.cell rfl rfl rfl (ResA.tmp rfl ResA.nil)) ?_
 rw [hR,hO]
 exact s_
def hasX(k:KN)(t:TR)(f:Int):Bool:=errX k t f==0&&(runX k t f).reach==t.length
def hasE(k:KN)(t:TR)(f:Int):Int:=if errX k t f=0 then (if (runX k t f).reach≠t.length/\(runX k t f).miss=true then 190 else 0) else errX k t f
theorem thas_p(k:KN)(hk:SmN k)(t:TR)(ht:TrI t)(f:Int)(hw:errX k t f=0->wayR k.root f.toNat<=2000):Pure Tryz.prog gs0 15 [encN k,trA t,AI f] (.tp [AB (hasX k t f),AI (hasE k t f)]):=by
 have h1:=tof_p k hk t ht f hw
 have nt:=trA_len t
 by_cases he:errX k t f=0
 case neg=>
  have e1:hasX k t f=false:=by unfold hasX;rw [beq_eq_false_iff_ne.2 he,Bool.false_and]
  have e2:hasE k t f=errX k t f:=by unfold hasE;rw [if_neg he]
  rw [e1,e2]
  refine p_ tt_ok Tryz.func15 30 fun w0 h0 F hgs=>?_
  (repeat refine A.s rfl ?_)
  refine A.b rfl fun b3=>?_
  refine y_ ?_
  refine n_ h1 ?_
  (refine b_ fun bx=>?_;refine y_ ?_)
  refine T_ rfl (by show (errX k t f !=0)=true;exact bne_iff_ne.2 he) ?_
  refine q_ ?_
  exact .refl
 have hO:ofX k t f=runX k t f:=by unfold ofX;rw [if_pos he]
 rw [he,hO] at h1
 unfold hasX hasE
 rw [he,if_pos rfl]
 refine Exists.elim (show∃q,q=runX k t f from ⟨_,rfl⟩) fun q hq=>?_
 rw [<-hq] at h1⊢
 rw [show ((0:Int)==0)=true from rfl,Bool.true_and]
 by_cases hr:q.reach=t.length
 ·rw [beq_iff_eq.2 hr,if_neg (fun h=>h.1 hr)]
  refine p_ tt_ok Tryz.func15 30 fun w0 h0 F hgs=>?_
  (repeat refine A.s rfl ?_)
  refine A.b rfl fun b3=>?_
  refine y_ ?_
  refine n_ h1 ?_
  (refine b_ fun bx=>?_;refine y_ ?_)
  refine T_ rfl (by show ((q.reach:Int)==((t.map evA).length:Int))=true;rw [nt,hr];exact beq_self_eq_true _) ?_
  refine q_ ?_
  exact .refl
 rw [beq_eq_false_iff_ne.2 hr]
 cases hmi:q.miss with
 |true=>
  rw [if_pos ⟨hr,rfl⟩]
  refine p_ tt_ok Tryz.func15 30 fun w0 h0 F hgs=>?_
  (repeat refine A.s rfl ?_)
  refine A.b rfl fun b3=>?_
  refine y_ ?_
  refine n_ h1 ?_
  (refine b_ fun bx=>?_;refine y_ ?_)
  refine F_ rfl (by show ((q.reach:Int)==((t.map evA).length:Int))=false;rw [nt,beq_eq_false_iff_ne];omega) ?_
  refine T_ rfl hmi ?_
  refine q_ ?_
  exact .refl
 |false=>
  rw [if_neg (fun h=>by cases h.2)]
  refine p_ tt_ok Tryz.func15 30 fun w0 h0 F hgs=>?_
  (repeat refine A.s rfl ?_)
  refine A.b rfl fun b3=>?_
  refine y_ ?_
  refine n_ h1 ?_
  (refine b_ fun bx=>?_;refine y_ ?_)
  refine F_ rfl (by show ((q.reach:Int)==((t.map evA).length:Int))=false;rw [nt,beq_eq_false_iff_ne];omega) ?_
  refine F_ rfl hmi ?_
  refine q_ ?_
  exact .refl
section
variable{V:List KV}{C:List Int}
theorem runt_f(p:PR)(hs:smR p)(hbd: ∀g,g∈p.gs-> ∃y,g.body=[y])(hl: ∀x,x∈p.l->Pure Tryz.prog gs0 102 [cellsR x] (AB (untR x)))(hg: ∀g,g∈p.gs-> ∀x,x∈g.body->Pure Tryz.prog gs0 102 [cellsR x] (AB (untR x))):
 Pure Tryz.prog gs0 102 [cellsR p] (AB (untR p)):=by
 have hsa:=smR_all hs
 have hll:=hsa.ll
 have hgl:=hsa.gl
 have n1:((encRl p.l).length:Int)=p.l.length:=by rw [encRl_len]
 have n2:((encGl p.gs).length:Int)=p.gs.length:=by rw [encGl_len]
 by_cases h7:p.kind=7
 ·have hu:untR p=false:=by
   cases hp:untR p with
   |false=>rfl
   |true=>exact absurd h7 (unt_iff.1 hp).1.k7
  rw [hu]
  refine p_ tt_ok Tryz.func102 53 fun w0 h0 F hgs=>?_
  (refine b_ fun bx=>?_;refine y_ ?_)
  refine e_ 8 rfl (x':=AB true) (ab_eq (by rw [h7];rfl)) ?_
  exact r_
 by_cases h8:p.kind=8
 ·have hu:untR p=false:=by
   cases hp:untR p with
   |false=>rfl
   |true=>exact absurd h8 (unt_iff.1 hp).1.k8
  rw [hu]
  refine p_ tt_ok Tryz.func102 53 fun w0 h0 F hgs=>?_
  (refine b_ fun bx=>?_;refine y_ ?_)
  refine e_ 8 rfl (x':=AB false) (ab_eq (by rw [h8];rfl)) ?_
  refine T_ rfl (by rw [h8];rfl) ?_
  exact r_
 refine Exists.elim (show∃R,R=untR p from ⟨_,rfl⟩) fun R hR=>?_
 rw [<-hR]
 refine p_ tt_ok Tryz.func102 53 fun w0 h0 F hgs=>?_
 (refine b_ fun bx=>?_;refine y_ ?_)
 refine e_ 8 rfl (x':=AB false) (ab_eq (beq_eq_false_iff_ne.2 h7)) ?_
 refine F_ rfl (beq_eq_false_iff_ne.2 h8) ?_
 refine A.freeze 1 (sz:=8) rfl rfl rfl ?_
 refine A.keep [1,3] rfl ?_
 refine l_ (Λ':=[]) ?_
 refine A.loopP (ι:=Nat) (fun i=>(⟨[(1, .pe 8 (cellsR p)),(3,AI (i:Nat))],[]⟩,[])) (fun i=>i<=p.l.length/\ ∀x,x∈p.l.take i->untR x=true) (fun i=>p.l.length-i) 0 ⟨Nat.zero_le _,fun x h=>by rw [List.take_zero] at h;cases h⟩ rfl fun i hi ih=>?_
 obtain ⟨hi1,hi2⟩:=hi
 refine y_ ?_
 by_cases hci:i<p.l.length
 ·refine Exists.elim (at_exN (l:=p.l) (i:=i) hci) fun x hx=>?_
  have hxm:=List.mem_of_getElem? hx
  have hcall:=hl x hxm
  have htk:p.l.take (i+1)=p.l.take i++[x]:=by rw [List.take_add_one,hx];rfl
  refine T_ rfl (by show decide ((i:Int)<((encRl p.l).length:Int))=true;rw [n1,decide_eq_true_eq];omega) ?_
  refine i_ rfl (encRl_at hx) (encR_eq x) ?_
  refine c_ hcall ?_
  refine k_ (fun hc=>?_) fun hc=>?_
  ·have hx0:untR x=false:=by simpa using hc
   refine y_ ?_
   refine R_ ?_
   rw [hR,unt_no_l hxm hx0]
   exact .refl
  ·have hx1:untR x=true:=by simpa using hc
   clear hc
   refine y_ ?_
   refine A.valE 3 rfl (x':=AI ((i+1:Nat):Int)) (inc_eq i (by omega)) ?_
   refine u_ (ih (i+1) ⟨by omega,fun y hy=>?_⟩ (by omega))
   rw [htk,List.mem_append] at hy
   rcases hy with hy|hy
   ·exact hi2 y hy
   ·rw [List.mem_singleton.1 hy];exact hx1
 refine A.gF rfl (by show decide ((i:Int)<((encRl p.l).length:Int))=false;rw [n1,decide_eq_false_iff_not];omega) ?_
 clear ih
 have hil:i=p.l.length:=by omega
 rw [hil,List.take_length] at hi2
 refine y_ ?_
 refine A.keep [1,4] rfl ?_
 refine A.loopP (ι:=Nat) (fun j=>(⟨[(1, .pe 8 (cellsR p)),(4,AI (j:Nat))],[]⟩,[])) (fun j=>j<=p.gs.length/\ ∀g,g∈p.gs.take j->g.kind≠4/\ ∃y,g.body=[y]/\untR y=true) (fun j=>p.gs.length-j) 0 ⟨Nat.zero_le _,fun x h=>by rw [List.take_zero] at h;cases h⟩ rfl fun j hj jh=>?_
 obtain ⟨hj1,hj2⟩:=hj
 refine y_ ?_
 by_cases hcj:j<p.gs.length
 ·refine Exists.elim (at_exN (l:=p.gs) (i:=j) hcj) fun g hgj=>?_
  have hgm:=List.mem_of_getElem? hgj
  have htk:p.gs.take (j+1)=p.gs.take j++[g]:=by rw [List.take_add_one,hgj];rfl
  refine Exists.elim (hbd g hgm) fun y hy=>?_
  have hcall:=hg g hgm y (by rw [hy];exact .head _)
  have hat:(encRl g.body)[(0:Int).toNat]? =some (encR y):=encRl_at (by rw [hy];rfl)
  refine T_ rfl (by show decide ((j:Int)<((encGl p.gs).length:Int))=true;rw [n2,decide_eq_true_eq];omega) ?_
  refine i_ rfl (encGl_at hgj) (encG_eq g) ?_
  by_cases h4:g.kind=4
  ·refine e_ 41 rfl (x':=AB true) (ab_eq (by rw [h4];rfl)) ?_
   refine R_ ?_
   rw [hR,unt_no_g hgm h4]
   exact .refl
  ·refine e_ 41 rfl (x':=AB false) (ab_eq (beq_eq_false_iff_ne.2 h4)) ?_
   refine i_ rfl (encGl_at hgj) (encG_eq g) ?_
   refine i_ rfl hat (encR_eq y) ?_
   refine c_ hcall ?_
   refine k_ (fun hc=>?_) fun hc=>?_
   ·have hx0:untR y=false:=by simpa using hc
    refine y_ ?_
    refine R_ ?_
    rw [hR,unt_no_b hgm hy hx0]
    exact .refl
   ·have hx1:untR y=true:=by simpa using hc
    clear hc
    refine y_ ?_
    refine A.valE 4 rfl (x':=AI ((j+1:Nat):Int)) (inc_eq j (by omega)) ?_
    refine u_ (jh (j+1) ⟨by omega,fun g' hg'=>?_⟩ (by omega))
    rw [htk,List.mem_append] at hg'
    rcases hg' with hg'|hg'
    ·exact hj2 g' hg'
    ·rw [List.mem_singleton.1 hg'];exact ⟨h4,y,hy,hx1⟩
 refine A.gF rfl (by show decide ((j:Int)<((encGl p.gs).length:Int))=false;rw [n2,decide_eq_false_iff_not];omega) ?_
 clear jh
 have hjl:j=p.gs.length:=by omega
 rw [hjl,List.take_length] at hj2
 refine y_ ?_
 refine R_ ?_
 rw [hR,unt_yes h7 h8 hi2 hj2]
 exact .refl
theorem runt_n: ∀(m:Nat) (p:PR) (n hi:Bool),SizeOf.sizeOf p<=m->okF (Loc V C) n hi p->Pure Tryz.prog gs0 102 [cellsR p] (AB (untR p))
 |0,p,_,_,h,_=>by
  obtain ⟨k,c,v,i,to,e,gs,l⟩:=p
  simp only [PR.mk.sizeOf_spec] at h;omega
 |m+1,p,n,hi,hm,w=>by
  have hs:=(okF_sm w).2.1
  rw [okF_eq] at w
  obtain ⟨⟨w1,w2,w3⟩,w4,w5⟩:=w
  refine runt_f p hs w1.body (fun x hx=>?_) (fun g hg x hx=>?_)
  ·obtain ⟨n',h',hw⟩:=okFl_some w4 hx
   exact runt_n m x n' h' (by have:=pr_lt hx;omega) hw
  ·have:=okFs_mem w5 g hg
   rw [okFg_eq] at this
   obtain ⟨n',h',hw⟩:=okFl_some this hx
   exact runt_n m x n' h' (by have:=gg_lt hg;have:=bd_lt hx;omega) hw
end
theorem runtK_p(k:KN)(hk:SmN k):Pure Tryz.prog gs0 66 [encN k] (AB (mayK k&&untR k.root)):=by
 have h1:=rmay16_p k hk.wf
 by_cases hm:mayK k=true
 case neg=>
  have hm:mayK k=false:=by simpa using hm
  rw [hm] at h1⊢
  refine p_ tt_ok Tryz.func66 10 fun w0 h0 F hgs=>?_
  (refine b_ fun bx=>?_;refine y_ ?_)
  exact cr_ h1
 have h2:=runt_n (V:=k.vars) (C:=k.chans) _ k.root true false (Nat.le_refl _) (start_root hm hk.wf hk.root)
 rw [hm] at h1⊢
 refine p_ tt_ok Tryz.func66 10 fun w0 h0 F hgs=>?_
 (refine b_ fun bx=>?_;refine y_ ?_)
 refine c_ h1 ?_
 exact cr_ h2
theorem fault_p(k:KN)(hk:SmN k)(t:TR)(f:Int):Pure Tryz.prog gs0 42 [encN k,trA t,AI f] (AI (errX k t f)):=by
 have h1:=runtK_p k hk
 have nt:=trA_len t
 by_cases hm:(mayK k&&untR k.root)=true
 case neg=>
  have hm:(mayK k&&untR k.root)=false:=by simpa using hm
  have e:errX k t f=2:=by
   unfold errX
   rw [if_pos]
   rcases Bool.and_eq_false_iff.1 hm with h|h
   ·exact .inl h
   ·exact .inr (.inl h)
  rw [e]
  rw [hm] at h1
  refine p_ tt_ok Tryz.func42 21 fun w0 h0 F hgs=>?_
  (refine b_ fun bx=>?_;refine y_ ?_)
  exact cr_ h1
 have hm2:=Bool.and_eq_true_iff.1 hm
 rw [hm] at h1
 by_cases c1:f<0
 ·have e:errX k t f=2:=by unfold errX;rw [if_pos (.inr (.inr (.inl c1)))]
  rw [e]
  refine p_ tt_ok Tryz.func42 21 fun w0 h0 F hgs=>?_
  (refine b_ fun bx=>?_;refine y_ ?_)
  refine c_ h1 ?_
  refine T_ rfl (by show decide (f<0)=true;rw [decide_eq_true_eq];exact c1) ?_
  exact r_
 by_cases c2:1024<f
 ·have e:errX k t f=2:=by unfold errX;rw [if_pos (.inr (.inr (.inr c2)))]
  rw [e]
  refine p_ tt_ok Tryz.func42 21 fun w0 h0 F hgs=>?_
  (refine b_ fun bx=>?_;refine y_ ?_)
  refine c_ h1 ?_
  refine F_ rfl (by show decide (f<0)=false;rw [decide_eq_false_iff_not];exact c1) ?_
  refine T_ rfl (by show (bif false then true else decide (1024<f))=true;rw [decide_eq_true c2];rfl) ?_
  exact r_
 have hno: ¬(mayK k=false\/untR k.root=false\/f<0\/1024<f):=by
  rintro (h|h|h|h)
  ·rw [hm2.1] at h;cases h
  ·rw [hm2.2] at h;cases h
  ·exact c1 h
  ·exact c2 h
 by_cases c3:256<t.length
 ·have e:errX k t f=3:=by unfold errX;rw [if_neg hno,if_pos c3]
  rw [e]
  refine p_ tt_ok Tryz.func42 21 fun w0 h0 F hgs=>?_
  (refine b_ fun bx=>?_;refine y_ ?_)
  refine c_ h1 ?_
  refine F_ rfl (by show decide (f<0)=false;rw [decide_eq_false_iff_not];exact c1) ?_
  refine F_ rfl (by show (bif false then true else decide (1024<f))=false;rw [decide_eq_false c2];rfl) ?_
  refine T_ rfl (by show decide ((256:Int)<((t.map evA).length:Int))=true;rw [nt,decide_eq_true_eq];omega) ?_
  exact r_
 ·have e:errX k t f=0:=by unfold errX;rw [if_neg hno,if_neg c3]
  rw [e]
  refine p_ tt_ok Tryz.func42 21 fun w0 h0 F hgs=>?_
  (refine b_ fun bx=>?_;refine y_ ?_)
  refine c_ h1 ?_
  refine F_ rfl (by show decide (f<0)=false;rw [decide_eq_false_iff_not];exact c1) ?_
  refine F_ rfl (by show (bif false then true else decide (1024<f))=false;rw [decide_eq_false c2];rfl) ?_
  refine F_ rfl (by show decide ((256:Int)<((t.map evA).length:Int))=false;rw [nt,decide_eq_false_iff_not];omega) ?_
  exact r_
end Go.Proofs.YtkbolbpojpmicaaGreat
