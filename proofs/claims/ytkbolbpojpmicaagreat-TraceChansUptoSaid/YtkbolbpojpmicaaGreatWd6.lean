/-
  Texts Q17z P18e Q18x P18f P18g P20d P19g P19h P19i P19j P19k P19l P19m P19n Lt Q18y P18h P18i P18j T18a T18b T18c Lp Lr Q20a Lu Ls Q19a Q21b Lv Q19l. Conditions: as each theorem says.
-/
import Derived.Test.YtkbolbpojpmicaaGreatWd3
import Derived.Test.YtkbolbpojpmicaaGreatWd4
import Derived.Test.YtkbolbpojpmicaaGreatWd5
import Derived.Sort.Row
import Derived.Sort.Grow
import Derived.Deep.Draws
import Derived.WalkSpells
import Derived.Shelf.Sort.Plain
import Derived.Shelf.Slices.In.SortNone
set_option linter.unusedVariables false
set_option linter.unusedSimpArgs false
set_option maxRecDepth 100000
set_option maxHeartbeats 4000000
namespace Go.Proofs.YtkbolbpojpmicaaGreat
open Go Go.Tp
def kindOk(kind x:Int):Prop:=(kind=2->0<=x/\x<=255)/\(kind=3->x=0\/x=1)
theorem kindOk_fits{k x:Int}(h:fitsB k x=true):kindOk k x:=by
 unfold fitsB at h
 constructor
 ·intro hk;subst hk;simp at h;exact h
 ·intro hk;subst hk;simp at h;exact h
theorem kindOk_truth(k:Int)(b:Bool)(hk:k=3):kindOk k (truthI b):=⟨fun h=>by omega,fun _=>by cases b<;>simp [truthI]⟩
theorem kindOk_one(x:Int):kindOk 1 x:=⟨fun h=>by omega,fun h=>by omega⟩
def goodS(l:List KV)(s:List (List Int)):Prop:= ∀(i:Nat) (v:KV) (r:List Int),l[i]? =some v->s[i]? =some r-> ∀x,x∈r->fitsB v.kind x=true
theorem atM_kind{l:List KV}{s:List (List Int)}(hg:goodS l s){v i x:Int}{y:KV}(hy:l[v.toNat]? =some y)(hx:atM s v i=some x):fitsB y.kind x=true:=by
 unfold atM at hx
 split at hx
 ·cases hx
 ·cases hr:s[v.toNat]? with
  |none=>rw [hr] at hx;cases hx
  |some r=>rw [hr] at hx;exact hg _ y r hy hr x (List.mem_of_getElem? hx)
theorem fits_value{l:List KV}{s:List (List Int)}(hg:goodS l s){e:KE}(hf:fine e=true){kind x:Int}(hk:fitsM l e kind=true)(hx:valM s e=some x):kindOk kind x:=by
 rcases fine_cases hf with ⟨n,rfl⟩|⟨v,h1,h2,rfl⟩|⟨v,a,h1,h2,h3,rfl⟩|⟨o,a,h1,h2,h3,rfl⟩|⟨o,a,b,h1,h2,h3,h4,rfl⟩|⟨t,a,h1,h2,h3,rfl⟩
 ·simp [fitsM,fitsL,fitC] at hk
  simp [valM,valMl,combM] at hx
  subst hx
  exact ⟨fun h=>by omega,fun h=>by omega⟩
 ·simp only [fitsM,fitsL,fitC] at hk
  simp [valM,valMl,combM] at hx
  rw [if_neg (by decide),if_pos trivial] at hk
  split at hk
  ·rename_i y hy
   simp at hk
   rw [<-hk.2];exact kindOk_fits (atM_kind hg hy hx)
  ·cases hk
 ·simp only [fitsM,fitsL,fitC] at hk
  rw [if_neg (by decide),if_neg (by decide),if_pos trivial] at hk
  split at hk
  ·rename_i y _ _ hy _
   simp at hk
   simp only [valM,valMl,combM] at hx
   cases ha:valM s a with
   |none=>rw [ha] at hx;simp at hx
   |some z=>
    rw [ha] at hx;simp at hx
    rw [<-hk.1.2];exact kindOk_fits (atM_kind hg hy hx)
  ·cases hk
 ·simp only [fitsM,fitsL,fitC] at hk
  rw [if_neg (by decide),if_neg (by decide),if_neg (by decide)] at hk
  simp at hk
  simp only [valM,valMl,combM] at hx
  cases ha:valM s a with
  |none=>rw [ha] at hx;simp at hx
  |some z=>
   rw [ha] at hx;simp at hx
   split at hk
   ·rename_i ho
    subst ho
    simp [applyC] at hx
    rw [<-hx.2];exact kindOk_truth _ _ hk.1
   ·rw [hk.1];exact kindOk_one x
 ·simp only [fitsM,fitsL,fitC] at hk
  rw [if_neg (by decide),if_neg (by decide),if_neg (by decide)] at hk
  simp only [valM,valMl,combM] at hx
  cases ha:valM s a with
  |none=>rw [ha] at hx;simp at hx
  |some z=>
   rw [ha] at hx;simp at hx
   simp at hk
   split at hk
   ·rw [hk.1];exact kindOk_one x
   ·rename_i ho
    have hk3:kind=3:=by
     by_cases h:kind=3
     ·exact h
     ·simp [h] at hk
    subst hk3
    refine ⟨fun h=>by omega,fun _=>?_⟩
    split at hx
    ·rename_i hsh
     simp at hx
     subst hx
     simp [isSh] at hsh;omega
    ·cases hb:valM s b with
     |none=>rw [hb] at hx;simp at hx
     |some w=>
      rw [hb] at hx;simp at hx
      have ho':o=14\/o=15\/o=16\/o=17\/o=18\/o=19\/o=20\/o=21\/o=22:=by omega
      have ht: ∀c:Bool,truthI c=0\/truthI c=1:=fun c=>by cases c<;>simp [truthI]
      rcases ho' with rfl|rfl|rfl|rfl|rfl|rfl|rfl|rfl|rfl<;>simp [applyC] at hx
      ·rw [<-hx];exact ht _
      ·rw [<-hx];exact ht _
      ·rw [<-hx];exact ht _
      ·rw [<-hx];exact ht _
      ·rw [<-hx];exact ht _
      ·rw [<-hx];exact ht _
      ·rw [<-hx.2];exact ht _
      ·rw [<-hx.2];exact ht _
      ·rw [<-hx];exact ht _
 ·simp only [fitsM,fitsL,fitC] at hk
  rw [if_neg (by decide),if_neg (by decide),if_neg (by decide)] at hk
  simp at hk
  simp only [valM,valMl,combM] at hx
  cases ha:valM s a with
  |none=>rw [ha] at hx;simp at hx
  |some z=>
   rw [ha] at hx;simp at hx
   rw [conv_fits] at hx
   split at hx
   ·rename_i hz
    injection hx with hx
    subst hx
    rw [<-hk.1];exact kindOk_fits hz
   ·cases hx
theorem may_good{l:List KV}{s:List (List Int)}(hs:soundsB l=true)(hlen:s.length=l.length)(hr: ∀(i:Nat) (v:KV) (r:List Int),l[i]? =some v->s[i]? =some r->(r.length:Int)=longI v)(hg:goodS l s):mayB l s=true:=by
 simp only [mayB,hs,hlen,decide_true,Bool.true_and,allEq,List.all_eq_true,List.mem_range]
 intro i hi
 have h2:i<s.length:=by omega
 rw [List.getElem?_eq_getElem hi,List.getElem?_eq_getElem h2]
 simp only [mayRow,Bool.and_eq_true,beq_iff_eq]
 refine ⟨hr i _ _ (List.getElem?_eq_getElem hi) (List.getElem?_eq_getElem h2),?_⟩
 simp only [Bool.not_eq_true',List.any_eq_false]
 intro x hx
 rw [hg i _ _ (List.getElem?_eq_getElem hi) (List.getElem?_eq_getElem h2) x hx];simp
theorem long_pos(v:KV):0<longI v:=by unfold longI;split<;>omega
theorem store_len(l:List KV):(storeM l).length=l.length:=by rw [storeM,List.length_map]
theorem store_at{l:List KV}{i:Nat}{v:KV}{r:List Int}(hv:l[i]? =some v)(hr:(storeM l)[i]? =some r):r=List.replicate (longI v).toNat 0:=by
 rw [storeM,List.getElem?_map,hv] at hr;injection hr with hr;exact hr.symm
theorem fits_zero{v:KV}(h:soundB v=true):fitsB v.kind 0=true:=by
 simp [soundB] at h
 rcases h.1.1 with (h|h)|h<;>simp [fitsB,h]
theorem sounds_at{l:List KV}(h:soundsB l=true){v:KV}(hv:v∈l):soundB v=true:=by
 simp [soundsB] at h;exact h.2 v hv
theorem store_good{l:List KV}(h:soundsB l=true):goodS l (storeM l):=fun i v r hv hr x hx=>by
 rw [store_at hv hr] at hx
 rw [(List.mem_replicate.1 hx).2]
 exact fits_zero (sounds_at h (List.mem_of_getElem? hv))
theorem may_store{l:List KV}(h:soundsB l=true):mayB l (storeM l)=true:=may_good h (store_len l) (fun i v r hv hr=>by rw [store_at hv hr,List.length_replicate];have:=long_pos v;omega) (store_good h)
structure StOk(V:List KV)(st:List (List Int)):Prop where
 may:mayB V st=true
 ws:wfS st
theorem may_parts{V:List KV}{st:List (List Int)}(h:mayB V st=true):soundsB V=true/\st.length=V.length/\(∀(i:Nat) (v:KV) (r:List Int),V[i]? =some v->st[i]? =some r->(r.length:Int)=longI v)/\goodS V st:=by
 simp only [mayB,Bool.and_eq_true,decide_eq_true_eq,allEq,List.all_eq_true,List.mem_range] at h
 obtain ⟨⟨h1,h2⟩,h3⟩:=h
 have hm: ∀(i:Nat) (v:KV) (r:List Int),V[i]? =some v->st[i]? =some r->mayRow v r=true:=fun i v r hv hr=>by
  have:=h3 i (at_lt hv)
  rw [hv,hr] at this;exact this
 refine ⟨h2,h1,fun i v r hv hr=>?_,fun i v r hv hr x hx=>?_⟩
 ·have:=hm i v r hv hr
  simp only [mayRow,Bool.and_eq_true,beq_iff_eq] at this
  exact this.1
 ·have:=hm i v r hv hr
  simp only [mayRow,Bool.and_eq_true,Bool.not_eq_true',List.any_eq_false] at this
  have:=this.2 x hx
  simpa using this
theorem StOk.put{V:List KV}{st:List (List Int)}(h:StOk V st){v i x:Int}(hx:i32 x)(hk: ∀y,V[v.toNat]? =some y->fitsB y.kind x=true):StOk V (putM st v i x):=by
 obtain ⟨h1,h2,h3,h4⟩:=may_parts h.may
 unfold putM
 by_cases ha:(atM st v i).isSome=true
 ·rw [if_pos ha]
  cases hr:st[v.toNat]? with
  |none=>exact h
  |some r=>
   show StOk V (st.set v.toNat (r.set i.toNat x))
   have hin: ∀z,z∈r.set i.toNat x->z∈r\/z=x:=fun z hz=>List.mem_or_eq_of_mem_set hz
   refine ⟨may_good h1 (by show (st.set _ _).length=_;rw [List.length_set];exact h2) (fun j y q hy hq=>?_) (fun j y q hy hq z hz=>?_),fun q hq z hz=>?_⟩
   ·replace hq:(st.set v.toNat (r.set i.toNat x))[j]? =some q:=hq
    rw [List.getElem?_set] at hq
    split at hq
    ·rename_i hj
     subst hj
     split at hq
     ·injection hq with hq
      rw [<-hq,List.length_set];exact h3 _ y r hy hr
     ·cases hq
    ·exact h3 j y q hy hq
   ·replace hq:(st.set v.toNat (r.set i.toNat x))[j]? =some q:=hq
    rw [List.getElem?_set] at hq
    split at hq
    ·rename_i hj
     subst hj
     split at hq
     ·injection hq with hq
      rw [<-hq] at hz
      rcases hin z hz with hz|rfl
      ·exact h4 _ y r hy hr z hz
      ·exact hk y hy
     ·cases hq
    ·exact h4 j y q hy hq z hz
   ·replace hq:q∈st.set v.toNat (r.set i.toNat x):=hq
    rcases List.mem_or_eq_of_mem_set hq with hq|hq
    ·exact h.ws q hq z hz
    ·rw [hq] at hz
     rcases hin z hz with hz|rfl
     ·exact h.ws r (List.mem_of_getElem? hr) z hz
     ·exact hx
 ·rw [if_neg ha];exact h
theorem StOk.small{V:List KV}{st:List (List Int)}(h:StOk V st):Small st:=mayB_short h.may
theorem prim_fits{k x:Int}(hk:k=1\/k=2\/k=3)(h:kindOk k x):fitsB k x=true:=by
 obtain ⟨h2,h3⟩:=h
 rcases hk with rfl|rfl|rfl
 ·rfl
 ·have:=h2 rfl;simp [fitsB];omega
 ·have:=h3 rfl;simpa [fitsB] using this
theorem sound_prim{v:KV}(h:soundB v=true):v.kind=1\/v.kind=2\/v.kind=3:=by
 simp [soundB] at h
 rcases h.1.1 with (h|h)|h
 ·exact .inl h
 ·exact .inr (.inl h)
 ·exact .inr (.inr h)
theorem place_v{st:List (List Int)}{v:Int}{ix:List KE}{p:Int×Int}(h:placeM st v ix=some p):p.1=v:=by
 match ix,h with
 | [],h=>
   rw [placeM] at h
   split at h
   ·injection h with h;rw [<-h]
   ·cases h
 | [e],h=>
   rw [placeM] at h
   split at h
   ·split at h
    ·injection h with h;rw [<-h]
    ·cases h
   ·cases h
theorem placeB_at{V:List KV}{t:PL}{k:Int}(h:placeB V t k=true): ∀y,V[t.v.toNat]? =some y->y.kind=k:=fun y hy=>by
 unfold placeB at h
 split at h
 ·cases h
 ·rw [hy] at h
  simp only [Bool.and_eq_true,beq_iff_eq] at h
  exact h.1
theorem value_fits{V:List KV}{st:List (List Int)}(hs:StOk V st){e:KE}{k x:Int}(hf:fitV V e k=true)(hv:valueM st e=some x):kindOk k x:=by
 obtain ⟨h1,h2,h3,h4⟩:=may_parts hs.may
 unfold fitV at hf
 simp only [Bool.and_eq_true,decide_eq_true_eq] at hf
 unfold valueM at hv
 rw [if_pos hf.1] at hv
 exact fits_value h4 hf.1.1 hf.2 hv
theorem value_in{V:List KV}{st:List (List Int)}(hs:StOk V st){e:KE}{x:Int}(hw:wfK e)(hv:valueM st e=some x):i32 x:=valueM_in hs.ws hw x hv
section
variable{V:List KV}{C:List Int}
theorem goods{st:List (List Int)}(h:StOk V st){v:KV}{i:Nat}(hv:V[i]? =some v):soundB v=true:=sounds_at (may_parts h.may).1 (List.mem_of_getElem? hv)
theorem clear_ok{st:List (List Int)}(h:StOk V st)(v:Int): ∀n,StOk V (clearM st v n)
 |0=>h
 |n+1=>by
  rw [clearM_succ]
  exact (clear_ok h v n).put (by unfold i32;omega) fun y hy=>fits_zero (goods h hy)
theorem guard_in{g:GD}{b:Bool}(h:guardB V C.length g b=true)(h3:g.kind=3):inputB V C.length g.c g.item g.to=true:=by
 unfold guardB at h
 rw [if_neg (by omega),if_pos h3] at h
 simp only [Bool.and_eq_true] at h
 exact h.2.2
end
theorem fitb8{v:Int}(hv:i32 v):(v==IntKind.i32.wrap (IntKind.u8.wrap v))=(decide (0<=v)&&decide (v<=255)):=by
 unfold i32 at hv
 have h8:IntKind.u8.wrap v=v % 256:=by
  unfold IntKind.wrap;rfl
 rw [h8,w32_eq,Bool.eq_iff_iff]
 simp only [beq_iff_eq,Bool.and_eq_true,decide_eq_true_eq]
 omega
theorem fitb1{v:Int}(hv:i32 v):(bitsOf BinOp.or IntKind.i32 v 1==1)=(v==0||v==1):=by
 unfold i32 at hv
 rw [Bool.eq_iff_iff]
 simp only [beq_iff_eq,Bool.or_eq_true]
 show IntKind.i32.wrap ((BitVec.ofInt 32 v|||BitVec.ofInt 32 1).toNat:Int)=1↔_
 have h1:(BitVec.ofInt 32 1).toNat=1:=by decide
 have h2:((BitVec.ofInt 32 v).toNat:Int)=v % 4294967296:=by
  rw [BitVec.toNat_ofInt]
  have:(0:Int)<=v % 4294967296:=by omega
  show (((v % ((2^32:Nat):Int)).toNat:Nat):Int)=_
  rw [show ((2^32:Nat):Int)=4294967296 by decide,Int.toNat_of_nonneg this]
 have h3:(BitVec.ofInt 32 v|||BitVec.ofInt 32 1).toNat=(BitVec.ofInt 32 v).toNat|||1:=by rw [BitVec.toNat_or,h1]
 have h4:=(BitVec.ofInt 32 v|||BitVec.ofInt 32 1).isLt
 have h5:(BitVec.ofInt 32 v).toNat<=(BitVec.ofInt 32 v).toNat|||1:=Nat.left_le_or
 rw [h3] at h4⊢
 constructor
 ·intro h
  rw [w32_eq] at h
  have h6:(BitVec.ofInt 32 v).toNat|||1=1:=by omega
  rw [h6] at h5
  omega
 ·rintro (h|h)<;>subst h<;>decide
theorem fitsq_p(t v:Int)(hv:i32 v):Pure Tryz.prog gs0 119 [AU8 t,AI32 v] (AB (fitsB t v)):=by
 refine p_ tt_ok Tryz.func119 20 fun w0 h0 F hgs=>?_
 refine y_ ?_
 refine k_ (fun hc=>?_) fun hc=>?_
 ·refine y_ ?_;refine R_ ?_;refine Sb.eq ?_;simp at hc;subst hc;rw [fitb8 hv];rfl
 ·refine y_ ?_
  refine k_ (fun hd=>?_) fun hd=>?_
  ·refine y_ ?_;refine R_ ?_;refine Sb.eq ?_;simp at hc hd;subst hd;rw [fitb1 hv];rfl
  ·refine y_ ?_;refine R_ ?_;refine Sb.eq ?_;simp at hc hd;simp [fitsB,hc,hd]
theorem may_sounds{k:KN}(h:mayK k=true):soundsB k.vars=true:=KOk.sounds (C:=k.chans) (may_kok h)
theorem storeS_eq{k:KN}(h:mayK k=true):storeS k.vars=storeM k.vars:=by unfold storeS;rw [if_pos (may_sounds h)]
theorem store_ok{V:List KV}(h:soundsB V=true):StOk V (storeM V):=⟨may_store h,fun r hr x hx=>by
 unfold storeM at hr
 rw [List.mem_map] at hr
 obtain ⟨v,_,rfl⟩:=hr
 rw [List.eq_of_mem_replicate hx];unfold i32;omega⟩
theorem start_root{k:KN}(h:mayK k=true)(hw:WfN k)(hs:smR k.root):okF (Loc k.vars k.chans) true false k.root:=by
 obtain ⟨h1,h2,h3⟩:=may_fits h
 exact ok_kernel h1 (by omega) hw.root hs
end Go.Proofs.YtkbolbpojpmicaaGreat
namespace Go.Proofs.YtkbolbpojpmicaaGreat
mutual
def untR:PR->Bool
 |⟨k,_,_,_,_,_,gs,l⟩=> !(k==7||k==8)&&(untL l&&untGs gs)
def untL:List PR->Bool
 | []=>true
 |p::r=>untR p&&untL r
def untG:GD->Bool
 |⟨k,_,_,_,_,_,b⟩=> !(k==4)&&untL b
def untGs:List GD->Bool
 | []=>true
 |g::r=>untG g&&untGs r
end
theorem untR_eq(p:PR):untR p=(!(p.kind==7||p.kind==8)&&(untL p.l&&untGs p.gs)):=by obtain ⟨k,c,v,i,to,e,gs,l⟩:=p;rw [untR]
theorem untG_eq(g:GD):untG g=(!(g.kind==4)&&untL g.body):=by obtain ⟨k,e,c,i,to,t,b⟩:=g;rw [untG]
theorem untL_all: ∀{l:List PR},untL l=true↔ ∀x,x∈l->untR x=true
 | []=>by simp [untL]
 |p::r=>by rw [untL,Bool.and_eq_true,untL_all];simp
theorem untGs_all: ∀{l:List GD},untGs l=true↔ ∀g,g∈l->untG g=true
 | []=>by simp [untGs]
 |p::r=>by rw [untGs,Bool.and_eq_true,untGs_all];simp
structure UT(p:PR):Prop where
 k7:p.kind≠7
 k8:p.kind≠8
 gs: ∀g,g∈p.gs->g.kind≠4
theorem unt_iff{p:PR}:untR p=true↔UT p/\(∀x,x∈p.l->untR x=true)/\ ∀g,g∈p.gs->untL g.body=true:=by
 rw [untR_eq]
 simp only [Bool.and_eq_true,Bool.not_eq_true',Bool.or_eq_false_iff,beq_eq_false_iff_ne,untL_all,untGs_all]
 constructor
 ·rintro ⟨⟨h1,h2⟩,h3,h4⟩
  refine ⟨⟨h1,h2,fun g hg=>?_⟩,h3,fun g hg=>?_⟩
  ·have:=h4 g hg;rw [untG_eq] at this;simp at this;exact this.1
  ·have:=h4 g hg;rw [untG_eq] at this;simp at this;exact untL_all.1 this.2
 ·rintro ⟨⟨h1,h2,h3⟩,h4,h5⟩
  refine ⟨⟨h1,h2⟩,h4,fun g hg=>?_⟩
  rw [untG_eq]
  have:=h5 g hg
  simp [h3 g hg];exact untL_all.2 this
section
variable{V:List KV}{C:List Int}
def LU(V:List KV)(C:List Int)(p:PR):Prop:=Loc V C p/\UT p
theorem lu_of_n: ∀(m:Nat) (p:PR) (n hi:Bool),SizeOf.sizeOf p<=m->untR p=true->okF (Loc V C) n hi p->okF (LU V C) n hi p
 |0,p,_,_,h,_,_=>by
  obtain ⟨k,c,v,i,to,e,gs,l⟩:=p
  simp only [PR.mk.sizeOf_spec] at h;omega
 |m+1,p,n,hi,hm,hu,w=>by
  obtain ⟨u1,u2,u3⟩:=unt_iff.1 hu
  rw [okF_eq] at w⊢
  obtain ⟨⟨w1,w2,w3⟩,w4,w5⟩:=w
  have hl: ∀(l:List PR),(∀x,x∈l->SizeOf.sizeOf x<=m/\untR x=true)-> ∀n0 n1 h0 h1,okFl (Loc V C) n0 n1 h0 h1 l->okFl (LU V C) n0 n1 h0 h1 l:=by
   intro l
   induction l with
   |nil=>intro _ n0 n1 h0 h1 _;exact okFl_0
   |cons x r ih=>
    intro hx n0 n1 h0 h1 w
    rw [okFl] at w⊢
    exact ⟨lu_of_n m x n0 h0 (hx x (.head _)).1 (hx x (.head _)).2 w.1,ih (fun y hy=>hx y (.tail _ hy)) _ _ _ _ w.2⟩
  refine ⟨⟨⟨w1,u1⟩,w2,w3⟩,hl p.l (fun x hx=>⟨by have:=pr_lt hx;omega,u2 x hx⟩) _ _ _ _ w4,okFs_of fun g hg=>?_⟩
  have:=okFs_mem w5 g hg
  rw [okFg_eq] at this⊢
  exact hl g.body (fun x hx=>⟨by have:=gg_lt hg;have:=bd_lt hx;omega,untL_all.1 (u3 g hg) x hx⟩) _ _ _ _ this
theorem lu_of{p:PR}{n hi:Bool}(hu:untR p=true)(w:okF (Loc V C) n hi p):okF (LU V C) n hi p:=lu_of_n _ p n hi (Nat.le_refl _) hu w
end
end Go.Proofs.YtkbolbpojpmicaaGreat
namespace Go.Proofs.YtkbolbpojpmicaaGreat
open Go Go.Tp
section
variable{V:List KV}{C:List Int}
def Un(V:List KV)(C:List Int)(p:PR):Prop:= ∃n h,okF (LU V C) n h p
theorem Un.loc{p:PR}(u:Un V C p):Loc V C p:=by
 obtain ⟨n,h,w⟩:=u
 exact ((okF_eq p).1 w).1.1.1
theorem Un.ut{p:PR}(u:Un V C p):UT p:=by
 obtain ⟨n,h,w⟩:=u
 exact ((okF_eq p).1 w).1.1.2
theorem Un.l{p:PR}(u:Un V C p): ∀x,x∈p.l->Un V C x:=fun x hx=>by
 obtain ⟨n,h,w⟩:=u
 obtain ⟨n',h',w'⟩:=okFl_some ((okF_eq p).1 w).2.1 hx
 exact ⟨n',h',w'⟩
theorem Un.g{p:PR}(u:Un V C p): ∀g,g∈p.gs-> ∀x,x∈g.body->Un V C x:=fun g hg x hx=>by
 obtain ⟨n,h,w⟩:=u
 have:=okFs_mem ((okF_eq p).1 w).2.2 g hg
 rw [okFg_eq] at this
 obtain ⟨n',h',w'⟩:=okFl_some this hx
 exact ⟨n',h',w'⟩
theorem Un.kb{p:PR}(u:Un V C p)(h:p.kind≠16):kindB V C.length p=true:=by
 have:=u.loc.kind
 obtain ⟨k,c,v,i,to,e,gs,l⟩:=p
 unfold asAlt at this
 have h:k≠16:=h
 simp only [PR.kind] at this
 rw [if_neg h] at this
 exact this
theorem Un.wfE{p:PR}(u:Un V C p): ∀x,x∈p.e->wfK x:=fun x hx=>(u.loc.e x hx).1
theorem inB1{α:Type}{l:List α}(h:inB l.length 1 1=true): ∃x,l=[x]:=by
 unfold inB at h
 simp only [Bool.and_eq_true,decide_eq_true_eq] at h
 cases l with
 |nil=>simp at h
 |cons x r=>cases r with
  |nil=>exact ⟨x,rfl⟩
  |cons y r=>simp only [List.length_cons] at h;omega
theorem shp19_to{p:PR}{a b:Bool}{e1 e2 g1 g2 l1 l2:Int}(h:shapeR p a b 1 1 e1 e2 g1 g2 l1 l2=true): ∃x,p.to=[x]:=by
 unfold shapeR at h
 simp only [Bool.and_eq_true] at h
 exact inB1 (by simp only [h])
theorem shp19_e{p:PR}{a b:Bool}{t1 t2 g1 g2 l1 l2:Int}(h:shapeR p a b t1 t2 1 1 g1 g2 l1 l2=true): ∃x,p.e=[x]:=by
 unfold shapeR at h
 simp only [Bool.and_eq_true] at h
 exact inB1 (by simp only [h])
theorem shp19_l{p:PR}{a b:Bool}{t1 t2 e1 e2 g1 g2:Int}(h:shapeR p a b t1 t2 e1 e2 g1 g2 1 1=true): ∃x,p.l=[x]:=by
 unfold shapeR at h
 simp only [Bool.and_eq_true] at h
 exact inB1 (by simp only [h])
theorem Un.k3{p:PR}(u:Un V C p)(hk:p.kind=3):0<=p.v/\p.v<V.length:=by
 have h:=u.kb (by omega)
 unfold kindB at h
 rw [if_neg (by omega),if_pos hk] at h
 simp only [Bool.and_eq_true,decide_eq_true_eq] at h
 exact ⟨h.1.2,h.2⟩
theorem Un.k4{p:PR}(u:Un V C p)(hk:p.kind=4):p.to.length=p.e.length/\(p.to.zip p.e).all (fun te=>assignB V te.1 te.2)=true:=by
 have h:=u.kb (by omega)
 unfold kindB at h
 rw [if_neg (by omega),if_neg (by omega),if_pos hk] at h
 simp only [Bool.and_eq_true,beq_iff_eq] at h
 exact ⟨h.1.2,h.2⟩
theorem Un.k5{p:PR}(u:Un V C p)(hk:p.kind=5): ∃q,p.to=[q]/\inputB V C.length p.c p.item q=true:=by
 have h:=u.kb (by omega)
 unfold kindB at h
 rw [if_neg (by omega),if_neg (by omega),if_neg (by omega),if_pos hk] at h
 simp only [Bool.and_eq_true] at h
 obtain ⟨q,hq⟩:=shp19_to h.1
 refine ⟨q,hq,?_⟩
 have h2:=h.2
 rw [hq] at h2;exact h2
theorem Un.k6{p:PR}(u:Un V C p)(hk:p.kind=6): ∃x,p.e=[x]:=by
 have h:=u.kb (by omega)
 unfold kindB at h
 rw [if_neg (by omega),if_neg (by omega),if_neg (by omega),if_neg (by omega),if_pos hk] at h
 simp only [Bool.and_eq_true] at h
 exact shp19_e h.1.1
theorem Un.k13{p:PR}(u:Un V C p)(hk:p.kind=13): ∃x b,p.e=[x]/\p.l=[b]/\fitV V x 3=true:=by
 have h:=u.kb (by omega)
 unfold kindB at h
 rw [if_neg (by omega),if_neg (by omega),if_neg (by omega),if_neg (by omega),if_neg (by omega),if_neg (by omega),if_neg (by omega),if_neg (by omega),if_neg (by omega),if_neg (by omega),if_neg (by omega),if_pos hk] at h
 simp only [Bool.and_eq_true] at h
 obtain ⟨x,hx⟩:=shp19_e h.1
 obtain ⟨b,hb⟩:=shp19_l h.1
 have h2:=h.2
 rw [hx] at h2
 exact ⟨x,b,hx,hb,h2⟩
theorem Un.kg{p:PR}(u:Un V C p)(hk:p.kind=12\/p.kind=14\/p.kind=15): ∀g,g∈p.gs->guardB V C.length g (p.kind==12)=true:=by
 have h:=u.kb (by omega)
 unfold kindB at h
 rw [if_neg (by omega),if_neg (by omega),if_neg (by omega),if_neg (by omega),if_neg (by omega),if_neg (by omega),if_neg (by omega),if_neg (by omega),if_neg (by omega),if_neg (by omega),if_pos hk] at h
 simp only [Bool.and_eq_true,List.all_eq_true] at h
 exact h.2
theorem asg_ok{st0:Sto}(h0:StOk V st0): ∀(tos:List PL) (es:List KE) (st st':Sto),StOk V st->(∀e,e∈es->wfK e)->(tos.zip es).all (fun te=>assignB V te.1 te.2)=true->asg19 st0 tos es st=some st'->StOk V st'
 | [],es,st,st',h,_,_,hp=>by
   rw [asg19] at hp;injection hp with hp;rw [<-hp];exact h
 |to::tos,[],st,st',h,_,_,hp=>by rw [asg19] at hp;cases hp
 |to::tos,e::es,st,st',h,hw,ha,hp=>by
  rw [List.zip_cons_cons,List.all_cons,Bool.and_eq_true] at ha
  rw [asg19] at hp
  cases hv:valueM st0 e with
  |none=>rw [hv] at hp;cases hp
  |some x=>
   rw [hv] at hp
   simp only at hp
   cases hpl:placeM st0 to.v to.ix with
   |none=>rw [hpl] at hp;cases hp
   |some vj=>
    obtain ⟨v,j⟩:=vj
    rw [hpl] at hp
    simp only at hp
    refine asg_ok h0 tos es _ st' (h.put (value_in h0 (hw e (.head _)) hv) fun y hy=>?_) (fun e' he'=>hw e' (.tail _ he')) ha.2 hp
    have hvv:v=to.v:=place_v hpl
    rw [hvv] at hy
    have h1:=ha.1
    unfold assignB at h1
    split at h1
    ·cases h1
    ·simp only [hy,Bool.and_eq_true] at h1
     exact prim_fits (sound_prim (goods h hy)) (value_fits h0 h1.2 hv)
abbrev TrI(t:TR):Prop:= ∀e,e∈t->i32 e.2
theorem inp_ok{s s':Sto}(hs:StOk V s){op:List Int}{t:TR}(ht:TrI t){c it:Int}{to:PL}(hi:inputB V C.length c it to=true)(h:inp19 op t c it to s=some s'):StOk V s':=by
 unfold inputB at hi
 rw [Bool.and_eq_true] at hi
 unfold inp19 at h
 cases hp:placeM s to.v to.ix with
 |none=>rw [hp] at h;cases h
 |some q=>
  rw [hp] at h
  cases t with
  |nil=>cases h
  |cons e r=>
   simp only at h
   split at h
   ·rename_i hc
    injection h with h
    rw [<-h]
    refine hs.put (ht e (.head _)) fun y hy=>?_
    have hv:q.1=to.v:=place_v hp
    rw [hv] at hy
    rw [placeB_at hi.2 y hy]
    exact hc.2.2
   ·cases h
theorem clr_ok{s:Sto}(h:StOk V s)(v:Int):StOk V (clrM s v):=clear_ok h v _
theorem at_get{s:Sto}{v i:Nat}{r:List Int}{x:Int}(hr:s[v]? =some r)(hx:r[i]? =some x):atM s (v:Nat) (i:Nat)=some x:=by
 unfold atM
 rw [if_neg (by omega),Int.toNat_natCast,Int.toNat_natCast,hr];exact hx
theorem merge_ok{s out x:Sto}(ho:StOk V out)(hx:StOk V x):StOk V (mergeM s out x):=by
 obtain ⟨_,hxl,hxr,hxg⟩:=may_parts hx.may
 have inner: ∀(v:Nat) (r:List Int),x[v]? =some r-> ∀(l:List Nat),(∀i,i∈l->i<r.length)-> ∀o,StOk V o->StOk V (l.foldl (fun out (i:Nat)=>if atM x v i=atM s v i then out else putM out v i ((atM x v i).getD 0)) o):=by
  intro v r hr l
  induction l with
  |nil=>intro _ o ho;exact ho
  |cons i l ih=>
   intro hl o ho
   rw [List.foldl_cons]
   refine ih (fun j hj=>hl j (.tail _ hj)) _ ?_
   split
   ·exact ho
   ·have hi:=hl i (.head _)
    have hat:=at_get hr (List.getElem?_eq_getElem hi)
    rw [hat]
    refine ho.put (hx.ws r (List.mem_of_getElem? hr) _ (List.getElem_mem hi)) fun y hy=>?_
    rw [Int.toNat_natCast] at hy
    exact hxg v y r hy hr _ (List.getElem_mem hi)
 have outer: ∀(l:List Nat),(∀v,v∈l->v<x.length)-> ∀o,StOk V o->StOk V (l.foldl (fun out (v:Nat)=>(List.range (match x[v]? with|some r=>r.length|none=>0)).foldl (fun out (i:Nat)=>if atM x v i=atM s v i then out else putM out v i ((atM x v i).getD 0)) out) o):=by
  intro l
  induction l with
  |nil=>intro _ o ho;exact ho
  |cons v l ih=>
   intro hl o ho
   rw [List.foldl_cons]
   refine ih (fun j hj=>hl j (.tail _ hj)) _ ?_
   have hv:=hl v (.head _)
   rw [List.getElem?_eq_getElem hv]
   exact inner v _ (List.getElem?_eq_getElem hv) _ (fun i hi=>List.mem_range.1 hi) o ho
 exact outer _ (fun v hv=>List.mem_range.1 hv) out ho
theorem pick_ok{s:Sto}: ∀(bs:List (List Sto)) (out:Sto),(∀b,b∈bs-> ∀x,x∈b->StOk V x)->StOk V out-> ∀x,x∈pick19 s bs out->StOk V x
 | [],out,_,ho,x,hx=>by rw [pick19,List.mem_singleton] at hx;rw [hx];exact ho
 |b::r,out,h,ho,x,hx=>by
  rw [pick19,List.mem_flatMap] at hx
  obtain ⟨y,hy,hx⟩:=hx
  exact pick_ok r _ (fun b' hb'=>h b' (.tail _ hb')) (merge_ok ho (h b (.head _) y hy)) x hx
abbrev EOk(V:List KV)(r:RN):Prop:= ∀e,e∈r.ends->StOk V e.2
theorem EOk.join{r q:RN}{n:Nat}(h:EOk V r)(hq:EOk V q):EOk V (joinR r n q):=fun e he=>by
 rcases (mem_addAll _ _).1 he with he|⟨x,hx,rfl⟩
 ·exact h e he
 ·exact hq x hx
theorem EOk.fin{s:Sto}(h:StOk V s):EOk V (finR s):=fun e he=>by rw [List.mem_singleton.1 he];exact h
theorem EOk.nil:EOk V nilR:=fun e he=>by cases he
theorem EOk.andThen{first:RN}{k:Nat->Sto->RN}(h:EOk V first)(hk: ∀e,e∈first.ends->EOk V (k e.1 e.2)):EOk V (thenM first k):=fun y hy=>by
 rw [then_eq] at hy
 rcases (goes_ends _ _).1 hy with hy|⟨e,he,z,hz,rfl⟩
 ·cases hy
 ·exact hk e he z hz
theorem eok_while{cond:Sto->Option Int}{body:Nat->TR->Sto->RN}(hb: ∀f t s,TrI t->StOk V s->EOk V (body f t s)): ∀(f:Nat) (t:TR) (s:Sto),TrI t->StOk V s->EOk V (whileM cond body f t s)
 |0,t,s,ht,hs=>by
  rw [whileM]
  cases cond s with
  |none=>exact .nil
  |some v=>
   simp only
   split
   ·exact .fin hs
   ·intro e he;cases he
 |f+1,t,s,ht,hs=>by
  rw [whileM]
  cases cond s with
  |none=>exact .nil
  |some v=>
   simp only
   split
   ·exact .fin hs
   ·exact (hb f t s ht hs).andThen fun e he=>(eok_while hb f (t.drop e.1) e.2 (fun x hx=>ht x (List.mem_of_mem_drop hx)) (hb f t s ht hs e he)).andThen fun x hx=> .fin (eok_while hb f (t.drop e.1) e.2 (fun x hx=>ht x (List.mem_of_mem_drop hx)) (hb f t s ht hs e he) x hx)
theorem eok_go{chs:List (List Int)}{rs:List RN}{s:Sto}(hs:StOk V s)(hr: ∀r,r∈rs->EOk V r): ∀(t:TR) (j:Nat) (cn:List Nat) (r:RN),EOk V r->EOk V (parGo chs rs s t j cn r):=by
 have meet: ∀(j:Nat) (cn:List Nat) (r:RN),EOk V r->EOk V (meetR s rs cn j r):=fun j cn r h e he=>by
  rw [meet_ends,mem_addN] at he
  rcases he with he|⟨x,hx,rfl⟩
  ·exact h e he
  ·refine pick_ok _ s (fun b hb y hy=>?_) hs x hx
   obtain ⟨i,hi,rfl⟩:=List.getElem_of_mem hb
   rw [List.getElem_zipWith] at hy
   exact hr _ (List.getElem_mem _) _ (endsAt_mem.1 hy)
 intro t
 induction t with
 |nil=>intro j cn r h;rw [parGo];exact meet j cn r h
 |cons e t ih=>
  intro j cn r h
  rw [parGo]
  split
  ·exact ih _ _ _ (meet j cn r h)
  ·exact meet j cn r h
abbrev RunOk19(V:List KV)(p:PR):Prop:= ∀f op t s,TrI t->StOk V s->EOk V (runR f op t s p)
theorem only_i{t:TR}(h:TrI t)(ch:List Int):TrI (onlyT t ch):=fun e he=>h e (List.mem_filter.1 he).1
theorem ok_bod{l:List PR}(h: ∀x,x∈l->RunOk19 V x): ∀f op t s,TrI t->StOk V s->EOk V (bodR19 f op t s l):=by
 intro f op t s ht hs
 cases l with
 |nil=>rw [bodR19];exact .nil
 |cons p r=>rw [bodR19];exact h p (.head _) f op t s ht hs
theorem ok_seq{l:List PR}(h: ∀x,x∈l->RunOk19 V x): ∀f op t s,TrI t->StOk V s->EOk V (seqR19 f op t s l):=by
 induction l with
 |nil=>intro f op t s _ hs;rw [seqR19];exact .fin hs
 |cons p r ih=>
  intro f op t s ht hs
  rw [seqR19]
  have h1:=h p (.head _) f op t s ht hs
  exact h1.andThen fun e he=>ih (fun x hx=>h x (.tail _ hx)) f op (t.drop e.1) e.2 (fun x hx=>ht x (List.mem_of_mem_drop hx)) (h1 e he)
theorem ok_if{gs:List GD}(h: ∀g,g∈gs-> ∀x,x∈g.body->RunOk19 V x): ∀f op t s,TrI t->StOk V s->EOk V (ifR f op t s gs):=by
 induction gs with
 |nil=>intro f op t s _ _;rw [ifR];exact .nil
 |cons g r ih=>
  intro f op t s ht hs
  have hb:=ok_bod (h g (.head _)) f op t s ht hs
  have hi:=ih (fun x hx=>h x (.tail _ hx)) f op t s ht hs
  obtain ⟨k,cd,c,it,to,tm,b⟩:=g
  rw [ifR]
  cases valueM s cd with
  |none=>exact .nil
  |some v=>
   simp only
   split
   ·exact hi
   ·exact EOk.nil.join hb
theorem ok_alt{gs:List GD}(hG: ∀g,g∈gs->g.kind=3->inputB V C.length g.c g.item g.to=true)(h: ∀g,g∈gs-> ∀x,x∈g.body->RunOk19 V x): ∀f op t s acc,TrI t->StOk V s->EOk V acc->EOk V (altR f op t s gs acc):=by
 induction gs with
 |nil=>intro f op t s acc _ _ ha;rw [altR];exact ha
 |cons g r ih=>
  intro f op t s acc ht hs ha
  have hb:=ok_bod (h g (.head _)) f op
  have hi:=fun acc=>ih (fun x hx=>hG x (.tail _ hx)) (fun x hx=>h x (.tail _ hx)) f op t s acc ht hs
  have hg:=hG g (.head _)
  obtain ⟨k,cd,c,it,to,tm,b⟩:=g
  have hg:k=3->inputB V C.length c it to=true:=hg
  have hb: ∀t s,TrI t->StOk V s->EOk V (bodR19 f op t s b):=hb
  rw [altR]
  split
  ·exact hi _ ha
  ·split
   ·rename_i hk
    cases hin:inp19 op t c it to s with
    |none=>exact hi _ ha
    |some s'=>exact hi _ (ha.join (hb (t.drop 1) s' (fun x hx=>ht x (List.mem_of_mem_drop hx)) (inp_ok hs ht (hg hk) hin)))
   ·exact hi _ (ha.join (hb t s ht hs))
theorem run_ok_n: ∀(m:Nat) (p:PR),SizeOf.sizeOf p<=m->Un V C p->RunOk19 V p
 |0,p,h,_=>by
  obtain ⟨k,c,v,i,to,e,gs,l⟩:=p
  simp only [PR.mk.sizeOf_spec] at h;omega
 |m+1,p,hm,u=>by
  have hl: ∀x,x∈p.l->RunOk19 V x:=fun x hx=>run_ok_n m x (by have:=lt19_l hx;omega) (u.l x hx)
  have hg: ∀g,g∈p.gs-> ∀x,x∈g.body->RunOk19 V x:=fun g hg x hx=>run_ok_n m x (by have:=lt19_g hg hx;omega) (u.g g hg x hx)
  have s1:=ok_seq hl
  have b1:=ok_bod hl
  have i1:=ok_if hg
  have q4:=u.k4
  have q5:=u.k5
  have qg:=u.kg
  have wfe:=u.wfE
  obtain ⟨k,c,v,it,to,e,gs,l⟩:=p
  intro f op t s ht hs
  rw [runR_eq]
  by_cases k1:k=1
  ·rw [if_pos k1];exact .fin hs
  rw [if_neg k1]
  by_cases k3:k=3
  ·rw [if_pos k3];exact .fin (clr_ok hs v)
  rw [if_neg k3]
  by_cases k4:k=4
  ·rw [if_pos k4]
   obtain ⟨h1,h2⟩:=q4 k4
   cases ha:asg19 s to e s with
   |none=>exact .nil
   |some s'=>exact .fin (asg_ok hs to e s s' hs wfe h2 ha)
  rw [if_neg k4]
  by_cases k5:k=5
  ·rw [if_pos k5]
   obtain ⟨q,h1,h2⟩:=q5 k5
   have h1:to=[q]:=h1
   have h2:inputB V C.length c it q=true:=h2
   subst h1
   simp only
   cases hin:inp19 op t c it q s with
   |none=>exact .nil
   |some s'=>exact EOk.nil.join (.fin (inp_ok hs ht h2 hin))
  rw [if_neg k5]
  by_cases k6:k=6
  ·rw [if_pos k6]
   cases e with
   |nil=>exact .nil
   |cons x r=>
    simp only
    by_cases ho:out19 op t c x s=true
    ·rw [if_pos ho];exact EOk.nil.join (.fin hs)
    ·rw [if_neg ho];exact .nil
  rw [if_neg k6]
  by_cases k9:k=9
  ·rw [if_pos k9];exact s1 f op t s ht hs
  rw [if_neg k9]
  by_cases k13:k=13
  ·rw [if_pos k13]
   cases e with
   |nil=>exact .nil
   |cons x r=>exact eok_while (fun f t s ht hs=>b1 f op t s ht hs) f t s ht hs
  rw [if_neg k13]
  by_cases k12:k=12
  ·rw [if_pos k12];exact i1 f op t s ht hs
  rw [if_neg k12]
  by_cases k14:k=14\/k=15
  ·rw [if_pos k14]
   by_cases ho:gdsOk s gs=true
   ·rw [if_pos ho]
    refine ok_alt (C:=C) (fun g hgm h3=>?_) hg f op t s nilR ht hs .nil
    have:=qg (.inr k14) g hgm
    exact guard_in this h3
   ·rw [if_neg ho];exact .nil
  rw [if_neg k14]
  by_cases k10:k=10\/k=11
  ·rw [if_pos k10]
   refine eok_go hs (fun r hr=>?_) t 0 _ _ (fun e he=>by cases he)
   obtain ⟨i,hi,rfl⟩:=List.getElem_of_mem hr
   have h1:=List.getElem?_eq_getElem hi
   rw [brs_at] at h1
   cases hp:l[i]? with
   |none=>rw [hp] at h1;cases h1
   |some p=>
    rw [hp] at h1
    injection h1 with h1
    rw [<-h1]
    exact hl p (List.mem_of_getElem? hp) f _ _ s (only_i ht _) hs
  rw [if_neg k10]
  exact .nil
theorem run_ok{p:PR}(u:Un V C p):RunOk19 V p:=run_ok_n _ p (Nat.le_refl _) u
end
def cutF(first:RN)(i:Nat):RN:=⟨first.reach,first.ends.take i,first.miss⟩
theorem cutF_all{first:RN}{i:Nat}(h:first.ends.length<=i):cutF first i=first:=by
 unfold cutF;rw [List.take_of_length_le h]
theorem then_next{first:RN}{k:Nat->Sto->RN}{i:Nat}{e:ENd}(h:first.ends[i]? =some e):thenM (cutF first (i+1)) k=joinR (thenM (cutF first i) k) e.1 (k e.1 e.2):=by
 unfold thenM cutF
 rw [List.take_add_one,h]
 show List.foldl _ _ (List.take i first.ends++[e])=_
 rw [List.foldl_append];rfl
theorem cutF_mem{first:RN}{i:Nat}{e:ENd}(h:e∈(cutF first i).ends):e∈first.ends:=List.mem_of_mem_take h
theorem cutF_wf{first:RN}{m:Nat}(h:WfRN first m)(i:Nat):WfRN (cutF first i) m:=⟨h.len,fun e he=>h.le e (cutF_mem he),h.nod.sublist (List.take_sublist ..)⟩
theorem cutF_ok{V:List KV}{first:RN}(h:EOk V first)(i:Nat):EOk V (cutF first i):=fun e he=>h e (cutF_mem he)
theorem wayL_of: ∀(l:List PR) (f:Nat),(∀x,x∈l->1<=wayR x f)->1<=wayL l f
 | [],f,_=>by rw [wayL];exact Nat.le_refl _
 |x::r,f,h=>by rw [wayL];exact Nat.mul_pos (h x (.head _)) (wayL_of r f fun y hy=>h y (.tail _ hy))
theorem way_pos_n: ∀(m:Nat) (p:PR),SizeOf.sizeOf p<=m-> ∀f,1<=wayR p f
 |0,p,h=>by
  obtain ⟨k,c,v,i,to,e,gs,l⟩:=p
  simp only [PR.mk.sizeOf_spec] at h;omega
 |m+1,p,hm=>by
  intro f
  have hl: ∀x,x∈p.l->1<=wayR x f:=fun x hx=>way_pos_n m x (by have:=lt19_l hx;omega) f
  obtain ⟨k,c,v,it,to,e,gs,l⟩:=p
  have hl: ∀x,x∈l->1<=wayR x f:=hl
  have h1:1<=wayL l f:=wayL_of l f hl
  rw [wayR_eq]
  split
  ·exact h1
  split
  ·omega
  split
  ·exact way_pos_while f
  ·exact Nat.le_refl _
theorem way_pos(p:PR)(f:Nat):1<=wayR p f:=way_pos_n _ p (Nat.le_refl _) f
theorem wayL_pos: ∀(l:List PR) (f:Nat),1<=wayL l f
 | [],f=>by rw [wayL];exact Nat.le_refl _
 |x::r,f=>by rw [wayL];exact Nat.mul_pos (way_pos x f) (wayL_pos r f)
theorem wayL_head{x:PR}{r:List PR}{f n:Nat}(h:wayL (x::r) f<=n):wayR x f<=n/\wayL r f<=n:=by
 rw [wayL] at h
 have h1:=Nat.le_mul_of_pos_right (wayR x f) (wayL_pos r f)
 have h2:=Nat.le_mul_of_pos_left (wayL r f) (way_pos x f)
 omega
theorem wayL_mem{x:PR}: ∀{l:List PR} {f n:Nat},wayL l f<=n->x∈l->wayR x f<=n
 |y::r,f,n,h,hx=>by
  have h1:=wayL_head h
  rcases List.mem_cons.1 hx with rfl|hx
  ·exact h1.1
  ·exact wayL_mem h1.2 hx
theorem waySum_mem{x:PR}: ∀{l:List PR} {f:Nat},x∈l->wayR x f<=waySum l f
 |y::r,f,hx=>by
  rw [waySum]
  rcases List.mem_cons.1 hx with rfl|hx
  ·exact Nat.le_add_right _ _
  ·have:=waySum_mem (f:=f) hx;omega
theorem wayGs_mem{x:PR}: ∀{gs:List GD} {g:GD} {f:Nat},g∈gs->x∈g.body->wayR x f<=wayGs gs f
 |y::r,g,f,hg,hx=>by
  obtain ⟨k,cd,c,it,to,tm,b⟩:=y
  rw [wayGs]
  rcases List.mem_cons.1 hg with rfl|hg
  ·have:=waySum_mem (f:=f) hx
   have hb:waySum b f=waySum b f:=rfl
   have:wayR x f<=waySum b f:=this
   omega
  ·have:=wayGs_mem (f:=f) hg hx;omega
theorem rawCl_mem{x:PR}: ∀{l:List PR},x∈l->(rawC x).length<=(rawCl l).length
 |y::r,hx=>by
  rw [rawCl,List.length_append]
  rcases List.mem_cons.1 hx with rfl|hx
  ·exact Nat.le_add_right _ _
  ·have:=rawCl_mem hx;omega
theorem rawCg_mem{x:PR}: ∀{gs:List GD} {g:GD},g∈gs->x∈g.body->(rawC x).length<=(rawCg gs).length
 |y::r,g,hg,hx=>by
  obtain ⟨k,cd,c,it,to,tm,b⟩:=y
  rw [rawCg,List.length_append,List.length_append]
  rcases List.mem_cons.1 hg with rfl|hg
  ·have:(rawC x).length<=(rawCl b).length:=rawCl_mem hx
   omega
  ·have:=rawCg_mem hg hx;omega
theorem rawC_eq(p:PR):rawC p=(if p.kind=5\/p.kind=6 then [p.c] else [])++(rawCl p.l++rawCg p.gs):=by
 obtain ⟨k,c,v,it,to,e,gs,l⟩:=p
 rw [rawC]
theorem rawC_l{p x:PR}(h:x∈p.l):(rawC x).length<=(rawC p).length:=by
 rw [rawC_eq p,List.length_append,List.length_append]
 have:=rawCl_mem h;omega
theorem rawC_g{p x:PR}{g:GD}(hg:g∈p.gs)(h:x∈g.body):(rawC x).length<=(rawC p).length:=by
 rw [rawC_eq p,List.length_append,List.length_append]
 have:=rawCg_mem hg h;omega
abbrev GRP:=List (Nat×List Sto)
def grpA:GRP->ENd->GRP
 | [],e=>[(e.1,[e.2])]
 |x::r,e=>if x.1=e.1 then (x.1,x.2++[e.2])::r else x::grpA r e
def grpM(l:List ENd):GRP:=l.foldl grpA []
abbrev keysG(g:GRP):List Nat:=g.map (·.1)
theorem grpA_new: ∀{g:GRP} {e:ENd},e.1∉keysG g->grpA g e=g++[(e.1,[e.2])]
 | [],e,_=>rfl
 |x::r,e,h=>by
  rw [grpA,if_neg (fun h'=>h (by rw [<-h'];exact List.mem_cons_self ..)),grpA_new (fun h'=>h (.tail _ h'))];rfl
theorem grpA_at: ∀{g:GRP} {e:ENd} {p:Nat} {x:Nat×List Sto},(keysG g).Nodup->g[p]? =some x->x.1=e.1->grpA g e=g.set p (x.1,x.2++[e.2])
 | [],e,p,x,_,h,_=>by simp at h
 |y::r,e,0,x,hn,h,hx=>by
  simp only [List.getElem?_cons_zero,Option.some.injEq] at h
  subst h
  rw [grpA,if_pos hx];rfl
 |y::r,e,p+1,x,hn,h,hx=>by
  simp only [List.getElem?_cons_succ] at h
  have hn:(y.1::keysG r).Nodup:=hn
  rw [List.nodup_cons] at hn
  have hne:y.1≠e.1:=fun h'=>hn.1 (by rw [h',<-hx];exact List.mem_map_of_mem (List.mem_of_getElem? h))
  rw [grpA,if_neg hne,grpA_at hn.2 h hx];rfl
theorem keys_at: ∀{g:GRP} {n:Nat},n∈keysG g-> ∃(p:Nat) (x:Nat×List Sto),g[p]? =some x/\x.1=n
 |y::r,n,h=>by
  rcases List.mem_cons.1 h with h|h
  ·exact ⟨0,y,rfl,h.symm⟩
  ·obtain ⟨p,x,h1,h2⟩:=keys_at (g:=r) h
   exact ⟨p+1,x,h1,h2⟩
theorem keys_grpA{g:GRP}{e:ENd}(hn:(keysG g).Nodup):(keysG (grpA g e)).Nodup/\(∀n,n∈keysG (grpA g e)↔n∈keysG g\/n=e.1):=by
 by_cases h:e.1∈keysG g
 ·obtain ⟨p,x,h1,h2⟩:=keys_at h
  have hp:p<g.length:=(List.getElem?_eq_some_iff.1 h1).1
  have he:keysG (grpA g e)=keysG g:=by
   rw [grpA_at hn h1 h2]
   show (g.set p _).map _=_
   rw [List.map_set]
   apply List.ext_getElem?
   intro j
   rw [List.getElem?_set]
   by_cases hj:p=j
   ·subst hj
    rw [if_pos rfl,if_pos (by rw [List.length_map];exact hp),List.getElem?_map,h1];rfl
   ·rw [if_neg hj]
  rw [he]
  exact ⟨hn,fun n=>⟨.inl,fun h'=>h'.elim id fun e'=>e'▸h⟩⟩
 ·rw [grpA_new h]
  show ((g++[(e.1,[e.2])]).map _).Nodup/\ ∀n,n∈(g++[(e.1,[e.2])]).map _↔_
  rw [List.map_append]
  refine ⟨List.nodup_append.2 ⟨hn,by simp,fun a ha b hb=>?_⟩,fun n=>by simp [keysG]⟩
  simp only [List.map_cons,List.map_nil,List.mem_singleton] at hb
  subst hb
  intro h';subst h';exact h ha
structure GrpOk(g:GRP)(l:List ENd):Prop where
 nod:(keysG g).Nodup
 mem: ∀n,n∈keysG g↔ ∃e,e∈l/\e.1=n
 val: ∀(p:Nat) x,g[p]? =some x->x.2=(l.filter fun e=>decide (e.1=x.1)).map (·.2)
theorem grp_nil:GrpOk [] []:=⟨List.nodup_nil,fun n=>by simp,fun p x h=>by simp at h⟩
theorem fil_ne{e:ENd}{n:Nat}(h:e.1≠n)(l:List ENd):((l++[e]).filter fun e=>decide (e.1=n)).map (·.2)=(l.filter fun e=>decide (e.1=n)).map (·.2):=by
 rw [List.filter_append,List.filter_cons,if_neg (by simpa using h),List.filter_nil,List.append_nil]
theorem fil_eq{e:ENd}{n:Nat}(h:e.1=n)(l:List ENd):((l++[e]).filter fun e=>decide (e.1=n)).map (·.2)=(l.filter fun e=>decide (e.1=n)).map (·.2)++[e.2]:=by
 rw [List.filter_append,List.filter_cons,if_pos (by simpa using h),List.filter_nil,List.map_append];rfl
theorem nod_at{g:GRP}(hn:(keysG g).Nodup){i j:Nat}{x y:Nat×List Sto}(h1:g[i]? =some x)(h2:g[j]? =some y)(h:x.1=y.1):i=j:=by
 have hi:i<(keysG g).length:=by rw [List.length_map];exact (List.getElem?_eq_some_iff.1 h1).1
 refine (List.getElem?_inj hi hn).1 ?_
 rw [List.getElem?_map,List.getElem?_map,h1,h2,Option.map_some,Option.map_some,h]
theorem GrpOk.next{g:GRP}{l:List ENd}(h:GrpOk g l)(e:ENd):GrpOk (grpA g e) (l++[e]):=by
 obtain ⟨k1,k2⟩:=keys_grpA (e:=e) h.nod
 refine ⟨k1,fun n=>?_,fun j x hx=>?_⟩
 ·rw [k2,h.mem]
  constructor
  ·rintro (⟨y,hy,rfl⟩|rfl)
   ·exact ⟨y,List.mem_append_left _ hy,rfl⟩
   ·exact ⟨e,by simp,rfl⟩
  ·rintro ⟨y,hy,rfl⟩
   rcases List.mem_append.1 hy with hy|hy
   ·exact .inl ⟨y,hy,rfl⟩
   ·rw [List.mem_singleton.1 hy];exact .inr rfl
 ·by_cases hk:e.1∈keysG g
  ·obtain ⟨p,y,h1,h2⟩:=keys_at hk
   rw [grpA_at h.nod h1 h2,List.getElem?_set] at hx
   by_cases hpj:p=j
   ·subst hpj
    rw [if_pos rfl,if_pos (List.getElem?_eq_some_iff.1 h1).1] at hx
    injection hx with hx
    rw [<-hx]
    show y.2++[e.2]=_
    rw [fil_eq h2.symm,h.val p y h1]
   ·rw [if_neg hpj] at hx
    rw [fil_ne (fun h'=>hpj (nod_at h.nod h1 hx (by rw [h2,h']))),h.val j x hx]
  ·rw [grpA_new hk] at hx
   rcases Nat.lt_or_ge j g.length with hj|hj
   ·rw [List.getElem?_append_left hj] at hx
    rw [fil_ne (fun h'=>hk (by rw [h'];exact List.mem_map_of_mem (List.mem_of_getElem? hx))),h.val j x hx]
   ·rw [List.getElem?_append_right hj] at hx
    have hj0:j-g.length=0:=by
     have:=(List.getElem?_eq_some_iff.1 hx).1
     simp only [List.length_cons,List.length_nil] at this
     omega
    rw [hj0] at hx
    injection hx with hx
    rw [<-hx]
    show [e.2]=_
    rw [fil_eq rfl]
    have:(l.filter fun e'=>decide (e'.1=e.1))=[]:=by
     rw [List.filter_eq_nil_iff]
     intro a ha h'
     exact hk ((h.mem e.1).2 ⟨a,ha,by simpa using h'⟩)
    rw [this];rfl
theorem grp_ok: ∀(l:List ENd) {g:GRP} {m:List ENd},GrpOk g m->GrpOk (l.foldl grpA g) (m++l)
 | [],g,m,h=>by rw [List.append_nil];exact h
 |e::l,g,m,h=>by
  have:=grp_ok l (h.next e)
  rw [List.append_assoc] at this
  exact this
theorem grpM_ok(l:List ENd):GrpOk (grpM l) l:=grp_ok l grp_nil
theorem grpM_next{l:List ENd}{i:Nat}{e:ENd}(h:l[i]? =some e):grpM (l.take (i+1))=grpA (grpM (l.take i)) e:=by
 unfold grpM
 rw [List.take_add_one,h]
 show List.foldl _ _ (List.take i l++[e])=_
 rw [List.foldl_append];rfl
theorem grp_ends{r:RN}{p:Nat}{x:Nat×List Sto}(h:(grpM r.ends)[p]? =some x):x.2=endsAt r x.1:=(grpM_ok r.ends).val p x h
theorem grp_none{r:RN}{n:Nat}(h:n∉keysG (grpM r.ends)):endsAt r n=[]:=by
 unfold endsAt
 have:(r.ends.filter fun e=>decide (e.1=n))=[]:=by
  rw [List.filter_eq_nil_iff]
  intro a ha h'
  exact h (((grpM_ok r.ends).mem n).2 ⟨a,ha,by simpa using h'⟩)
 rw [this];rfl
def opJ(op:List Int)(all:List (List Int))(i j:Nat):List Int:=op++(if j<=i then (all.take j).flatten else (all.take i).flatten++((all.take j).drop (i+1)).flatten)
theorem opJ_zero(op:List Int)(all:List (List Int))(i:Nat):opJ op all i 0=op:=by
 unfold opJ;rw [if_pos (Nat.zero_le _)];simp
theorem opJ_next{op:List Int}{all:List (List Int)}{i j:Nat}{c:List Int}(h:all[j]? =some c)(hij:j≠i):opJ op all i (j+1)=opJ op all i j++c:=by
 have hj:j<all.length:=(List.getElem?_eq_some_iff.1 h).1
 unfold opJ
 rw [List.take_add_one,h]
 show op++(if j+1<=i then (all.take j++[c]).flatten else (all.take i).flatten++((all.take j++[c]).drop (i+1)).flatten)=_
 by_cases h1:j<i
 ·rw [if_pos (by omega),if_pos (by omega)];simp
 ·rw [if_neg (by omega),if_neg (by omega),List.drop_append_of_le_length (by rw [List.length_take];omega)];simp
theorem opJ_skip{op:List Int}{all:List (List Int)}{i:Nat}:opJ op all i (i+1)=opJ op all i i:=by
 unfold opJ
 rw [if_neg (by omega),if_pos (Nat.le_refl _),List.drop_eq_nil_of_le (by rw [List.length_take];omega)];simp
theorem opJ_end{op:List Int}{all:List (List Int)}{i:Nat}(h:i<all.length):opJ op all i all.length=openM op all i:=by
 unfold opJ openM
 rw [if_neg (by omega),List.take_length]
theorem flat19_len(all:List (List Int))(i:Nat):((all.take i).flatten).length<=all.flatten.length:=by
 conv=>rhs;rw [<-List.take_append_drop i all]
 rw [List.flatten_append,List.length_append];omega
theorem opJ_len(op:List Int)(all:List (List Int))(i j:Nat):(opJ op all i j).length<=op.length+all.flatten.length:=by
 unfold opJ
 rw [List.length_append]
 split
 ·have:=flat19_len all j;omega
 ·rename_i h
  have h1:=flat19_len all j
  have h2:all.take j=all.take i++(all.take j).drop i:=by
   have:=List.take_append_drop i (all.take j)
   rw [List.take_take,Nat.min_eq_left (by omega)] at this
   exact this.symm
  rw [h2,List.flatten_append,List.length_append] at h1
  have h3:((all.take j).drop (i+1)).flatten.length<=((all.take j).drop i).flatten.length:=by
   have e:(all.take j).drop (i+1)=((all.take j).drop i).drop 1:=by rw [List.drop_drop]
   rw [e]
   cases (all.take j).drop i with
   |nil=>simp
   |cons x r=>simp
  rw [List.length_append];omega
theorem insS19_len{α:Type} [DecidableEq α]{lt:α->α->Bool}: ∀(l:List α) (x:α),(insS lt l x).length<=l.length+1
 | [],x=>by simp [insS]
 |y::r,x=>by
  have:=insS19_len (lt:=lt) r x
  simp only [insS]
  repeat' split
  all_goals simp only [List.length_cons] at*
  all_goals omega
theorem insAll19_len{α:Type} [DecidableEq α]{lt:α->α->Bool}: ∀(m l:List α),(insAll lt l m).length<=l.length+m.length
 | [],l=>by simp [insAll]
 |x::m,l=>by
  have h1:=insAll19_len (lt:=lt) m (insS lt l x)
  have h2:=insS19_len (lt:=lt) l x
  show (insAll lt (insS lt l x) m).length<=_
  rw [List.length_cons];omega
theorem chans_len(p:PR):(chansM p).length<=(rawC p).length:=by
 have:=insAll19_len (lt:=ltI) (rawC p) []
 simpa [chansM,canI] using this
theorem chs_len: ∀l:List PR,(l.map chansM).flatten.length<=(rawCl l).length
 | []=>by simp [rawCl]
 |x::r=>by
  have h1:=chans_len x
  have h2:=chs_len r
  rw [List.map_cons,List.flatten_cons,rawCl,List.length_append,List.length_append];omega
theorem open_len(op:List Int)(l:List PR){i:Nat}{x:PR}(h:l[i]? =some x):(openM op (l.map chansM) i).length+(rawC x).length<=op.length+(rawCl l).length:=by
 have hi:i<l.length:=(List.getElem?_eq_some_iff.1 h).1
 have hs:l=l.take i++(x::l.drop (i+1)):=by
  have:=(List.getElem?_eq_some_iff.1 h).2
  rw [<-this,<-List.drop_eq_getElem_cons hi,List.take_append_drop]
 have happ: ∀a b:List PR,rawCl (a++b)=rawCl a++rawCl b:=fun a b=>by
  induction a with
  |nil=>rw [rawCl];rfl
  |cons y a ih=>rw [List.cons_append,rawCl,rawCl,ih,List.append_assoc]
 have h1:(rawCl l).length=(rawCl (l.take i)).length+((rawC x).length+(rawCl (l.drop (i+1))).length):=by
  conv=>lhs;rw [hs]
  rw [happ,rawCl,List.length_append,List.length_append]
 have h2:=chs_len (l.take i)
 have h3:=chs_len (l.drop (i+1))
 unfold openM
 rw [List.length_append,List.length_append,<-List.map_take,<-List.map_drop,h1]
 omega
def contG(chs:List (List Int))(rs:List RN)(s:Sto):TR->Nat->List Nat->RN->RN
 | [],_,_,r=>r
 |e::t,n,cn,r=>if canStep chs rs cn e.1=true then parGo chs rs s t (n+1) (cntM chs cn e.1) r else r
theorem parGo_cont{chs:List (List Int)}{rs:List RN}{s:Sto}: ∀(t:TR) (n:Nat) (cn:List Nat) (r:RN),parGo chs rs s t n cn r=contG chs rs s t n cn (meetR s rs cn n r)
 | [],n,cn,r=>by rw [parGo,contG]
 |e::t,n,cn,r=>by rw [parGo,contG]
theorem contG_next{chs:List (List Int)}{rs:List RN}{s:Sto}{e:EL}{t:TR}{n:Nat}{cn:List Nat}{r:RN}(h:canStep chs rs cn e.1=true):contG chs rs s (e::t) n cn r=contG chs rs s t (n+1) (cntM chs cn e.1) (meetR s rs (cntM chs cn e.1) (n+1) r):=by
 rw [contG,if_pos h,parGo_cont]
theorem contG_stop{chs:List (List Int)}{rs:List RN}{s:Sto}{e:EL}{t:TR}{n:Nat}{cn:List Nat}{r:RN}(h:canStep chs rs cn e.1=false):contG chs rs s (e::t) n cn r=r:=by
 rw [contG,if_neg (by rw [h];decide)]
theorem eat_prod{rs:List RN}{cn:List Nat}(h:cn.length=rs.length):prodL ((rs.zipWith endsAt cn).map List.length)<=prodL (rs.map fun r=>r.ends.length):=by
 refine prod_le (by simp [h]) fun i x y hx hy=>?_
 rw [List.getElem?_map,List.getElem?_zipWith] at hx
 rw [List.getElem?_map] at hy
 cases hr:rs[i]? with
 |none=>rw [hr] at hy;cases hy
 |some r=>
  rw [hr] at hx hy
  cases hc:cn[i]? with
  |none=>rw [hc] at hx;cases hx
  |some c=>
   rw [hc] at hx
   injection hx with hx;injection hy with hy
   rw [<-hx,<-hy]
   unfold endsAt
   rw [List.length_map]
   exact List.length_filter_le ..
theorem step_below{chs:List (List Int)}{rs:List RN}{cn:List Nat}{c:Int}(h:canStep chs rs cn c=true): ∀(i:Nat) n r,(cntM chs cn c)[i]? =some n->rs[i]? =some r->n<=r.reach:=by
 intro i n r hn hr
 unfold canStep at h
 rw [Bool.and_eq_true,List.all_eq_true] at h
 have hz:((cntM chs cn c).zip rs)[i]? =some (n,r):=by rw [List.getElem?_zip_eq_some];exact ⟨hn,hr⟩
 simpa using h.2 _ (List.mem_of_getElem? hz)
section
variable{α:Type} [DecidableEq α]{lt:α->α->Bool}{cmp:α->α->Int}
def lexB(lt:α->α->Bool):List α->List α->Bool
 | [],[]=>false
 | [],_::_=>true
 |_::_,[]=>false
 |x::a,y::b=>if x=y then lexB lt a b else lt x y
theorem lexB_irrefl: ∀a:List α,lexB lt a a=false
 | []=>rfl
 |x::a=>by rw [lexB,if_pos rfl,lexB_irrefl a]
theorem lexB_trans(o:Ord lt): ∀a b c:List α,lexB lt a b=true->lexB lt b c=true->lexB lt a c=true
 | [],[],_,h,_=>by rw [lexB] at h;cases h
 | [],_::_,[],_,h=>by rw [lexB] at h;cases h
 | [],_::_,_::_,_,_=>by rw [lexB]
 |_::_,[],_,h,_=>by rw [lexB] at h;cases h
 |_::_,_::_,[],_,h=>by rw [lexB] at h;cases h
 |x::a,y::b,z::c,h1,h2=>by
  rw [lexB] at h1 h2⊢
  by_cases e1:x=y
  ·subst e1
   rw [if_pos rfl] at h1
   by_cases e2:x=z
   ·subst e2;rw [if_pos rfl] at h2⊢;exact lexB_trans o a b c h1 h2
   ·rw [if_neg e2] at h2⊢;exact h2
  ·rw [if_neg e1] at h1
   by_cases e2:y=z
   ·subst e2;rw [if_neg e1];exact h1
   ·rw [if_neg e2] at h2
    have h3:=o.trans _ _ _ h1 h2
    rw [if_neg (fun e=>by subst e;rw [o.irrefl] at h3;cases h3)]
    exact h3
theorem lexB_tri(o:Ord lt): ∀a b:List α,lexB lt a b=false->lexB lt b a=false->a=b
 | [],[],_,_=>rfl
 | [],_::_,h,_=>by rw [lexB] at h;cases h
 |_::_,[],_,h=>by rw [lexB] at h;cases h
 |x::a,y::b,h1,h2=>by
  rw [lexB] at h1 h2
  by_cases e:x=y
  ·subst e
   rw [if_pos rfl] at h1 h2
   rw [lexB_tri o a b h1 h2]
  ·rw [if_neg e] at h1
   rw [if_neg (Ne.symm e)] at h2
   exact absurd (o.tri _ _ h1 h2) e
theorem ord_lex(o:Ord lt):Ord (lexB lt):=⟨lexB_irrefl,lexB_trans o,lexB_tri o⟩
def lexC(cmp:α->α->Int):List α->List α->Int
 | [],[]=>0
 | [],_::_=> -1
 |_::_,[]=>1
 |x::a,y::b=>if cmp x y=0 then lexC cmp a b else cmp x y
theorem lexC_zero{β:Type}{cmp:β->β->Int}(h: ∀x y,cmp x y=0↔x=y): ∀a b:List β,lexC cmp a b=0↔a=b
 | [],[]=>by simp [lexC]
 | [],_::_=>by simp [lexC]
 |_::_,[]=>by simp [lexC]
 |x::a,y::b=>by
  rw [lexC]
  by_cases h0:cmp x y=0
  ·rw [if_pos h0,lexC_zero h a b]
   have:=(h x y).1 h0
   subst this;simp
  ·rw [if_neg h0]
   exact ⟨fun h1=>absurd h1 h0,fun h1=>by injection h1 with h1 _;exact absurd ((h x y).2 h1) h0⟩
theorem lexC_lt(h: ∀x y,cmp x y=0↔x=y)(hl: ∀x y,cmp x y<0↔lt x y=true): ∀a b:List α,lexC cmp a b<0↔lexB lt a b=true
 | [],[]=>by simp [lexC,lexB]
 | [],_::_=>by simp [lexC,lexB]
 |_::_,[]=>by simp [lexC,lexB]
 |x::a,y::b=>by
  rw [lexC,lexB]
  by_cases h0:cmp x y=0
  ·rw [if_pos h0,if_pos ((h x y).1 h0)];exact lexC_lt h hl a b
  ·rw [if_neg h0,if_neg (fun e=>h0 ((h x y).2 e))];exact hl x y
end
abbrev ltRw:List Int->List Int->Bool:=lexB ltI
abbrev ltSt:Sto->Sto->Bool:=lexB ltRw
theorem ord_st:Ord ltSt:=ord_lex (ord_lex ord_int)
def cmpN(x y:Int):Int:=if x<y then-1 else if y<x then 1 else 0
theorem cmpN_zero(x y:Int):cmpN x y=0↔x=y:=by unfold cmpN;repeat' split;all_goals omega
theorem cmpN_lt(x y:Int):cmpN x y<0↔ltI x y=true:=by
 unfold cmpN ltI
 rw [decide_eq_true_eq]
 repeat' split
 all_goals omega
abbrev cmpRw:List Int->List Int->Int:=lexC cmpN
abbrev cmpSt:Sto->Sto->Int:=lexC cmpRw
theorem cmpRw_zero(a b:List Int):cmpRw a b=0↔a=b:=lexC_zero cmpN_zero a b
theorem cmpSt_lt(a b:Sto):cmpSt a b<0↔ltSt a b=true:=lexC_lt cmpRw_zero (lexC_lt cmpN_zero cmpN_lt) a b
def endsM(r:RN)(n:Nat):List Sto:=insAll ltSt [] (endsAt r n)
theorem nod_ends{r:RN}(h:r.ends.Nodup)(n:Nat):(endsAt r n).Nodup:=by
 unfold endsAt
 have h1:(r.ends.filter fun e=>decide (e.1=n)).Nodup:=h.sublist (List.filter_sublist ..)
 show (List.map _ _).Pairwise _
 rw [List.pairwise_map]
 refine h1.imp_of_mem fun {x y} hx hy hne e=>hne ?_
 have h2:=(List.mem_filter.1 hx).2
 have h3:=(List.mem_filter.1 hy).2
 simp only [decide_eq_true_eq] at h2 h3
 exact Prod.ext (h2.trans h3.symm) e
theorem sort_ends{l m:List Sto}(hn:m.Nodup)(hp:l.Perm m)(hs:l.Pairwise fun x y=>ltSt y x=false):l=insAll ltSt [] m:=by
 have hl:l.Nodup:=hp.nodup_iff.2 hn
 refine asc_eq ord_st ?_ (asc_insAll ord_st List.Pairwise.nil) fun z=>?_
 ·refine (hs.and hl).imp fun {a b} hab=>?_
  cases h:ltSt a b with
  |true=>rfl
  |false=>exact absurd (ord_st.tri a b h hab.1) hab.2
 ·rw [mem_insAll,hp.mem_iff];simp
theorem takeN{α:Type}{l:List α}{i:Nat}{x:α}(h:l[i]? =some x):l.take (i+1)=l.take i++[x]:=by rw [List.take_add_one,h];rfl
mutual
def lzR:PR->Nat
 |⟨_,_,_,_,_,_,gs,l⟩=>lzG gs (lzL l 1)
def lzL:List PR->Nat->Nat
 | [],n=>n
 |p::r,n=>if n<500 then lzL r (n+lzR p) else n
def lzG:List GD->Nat->Nat
 | [],n=>n
 |⟨_,_,_,_,_,_,b⟩::r,n=>if n<500 then lzG r (lzL b n+1) else n
end
mutual
def cntR:PR->Nat
 |⟨_,_,_,_,_,_,gs,l⟩=>1+cntL l+cntG gs
def cntL:List PR->Nat
 | []=>0
 |p::r=>cntR p+cntL r
def cntG:List GD->Nat
 | []=>0
 |⟨_,_,_,_,_,_,b⟩::r=>1+cntL b+cntG r
end
theorem lzR_eq(p:PR):lzR p=lzG p.gs (lzL p.l 1):=by
 obtain ⟨k,c,v,it,to,e,gs,l⟩:=p
 rw [lzR]
theorem cntR_eq(p:PR):cntR p=1+cntL p.l+cntG p.gs:=by
 obtain ⟨k,c,v,it,to,e,gs,l⟩:=p
 rw [cntR]
theorem lzG_cons(g:GD)(r:List GD)(n:Nat):lzG (g::r) n=if n<500 then lzG r (lzL g.body n+1) else n:=by
 obtain ⟨k,cd,c,it,to,tm,b⟩:=g
 rw [lzG]
theorem cntG_cons(g:GD)(r:List GD):cntG (g::r)=1+cntL g.body+cntG r:=by
 obtain ⟨k,cd,c,it,to,tm,b⟩:=g
 rw [cntG]
mutual
theorem lzR_le: ∀p:PR,lzR p<=cntR p
 |⟨_,_,_,_,_,_,gs,l⟩=>by
  rw [lzR,cntR]
  have h1:=lzL_le l 1
  have h2:=lzG_le gs (lzL l 1)
  omega
theorem lzL_le: ∀(l:List PR) (n:Nat),lzL l n<=n+cntL l
 | [],n=>by rw [lzL,cntL];omega
 |p::r,n=>by
  rw [lzL,cntL]
  have h1:=lzR_le p
  have h2:=lzL_le r (n+lzR p)
  split<;>omega
theorem lzG_le: ∀(l:List GD) (n:Nat),lzG l n<=n+cntG l
 | [],n=>by rw [lzG,cntG];omega
 |⟨_,_,_,_,_,_,b⟩::r,n=>by
  rw [lzG,cntG]
  have h1:=lzL_le b n
  have h2:=lzG_le r (lzL b n+1)
  split<;>omega
end
theorem lzL_ge: ∀(l:List PR) (n:Nat),n<=lzL l n
 | [],n=>by rw [lzL];omega
 |p::r,n=>by
  rw [lzL]
  have h2:=lzL_ge r (n+lzR p)
  split<;>omega
theorem lzG_ge: ∀(l:List GD) (n:Nat),n<=lzG l n
 | [],n=>by rw [lzG];omega
 |g::r,n=>by
  rw [lzG_cons]
  have h1:=lzL_ge g.body n
  have h2:=lzG_ge r (lzL g.body n+1)
  split<;>omega
theorem lzL_stop{l:List PR}{n:Nat}(h:500<=n):lzL l n=n:=by
 cases l with
 |nil=>rw [lzL]
 |cons p r=>rw [lzL,if_neg (by omega)]
theorem lzG_stop{l:List GD}{n:Nat}(h:500<=n):lzG l n=n:=by
 cases l with
 |nil=>rw [lzG]
 |cons p r=>rw [lzG_cons,if_neg (by omega)]
theorem lzL_app: ∀(a b:List PR) (n:Nat),lzL (a++b) n=lzL b (lzL a n)
 | [],b,n=>by rw [lzL];rfl
 |p::a,b,n=>by
  rw [List.cons_append,lzL,lzL]
  split
  ·exact lzL_app a b _
  ·rw [lzL_stop (by omega)]
theorem lzG_app: ∀(a b:List GD) (n:Nat),lzG (a++b) n=lzG b (lzG a n)
 | [],b,n=>by rw [lzG];rfl
 |p::a,b,n=>by
  rw [List.cons_append,lzG_cons,lzG_cons]
  split
  ·exact lzG_app a b _
  ·rw [lzG_stop (by omega)]
theorem lzL_take{l:List PR}{n i:Nat}{x:PR}(h:l[i]? =some x)(hn:lzL (l.take i) n<500):lzL (l.take (i+1)) n=lzL (l.take i) n+lzR x:=by
 rw [takeN h,lzL_app,lzL,if_pos hn,lzL]
theorem lzG_take{l:List GD}{n i:Nat}{x:GD}(h:l[i]? =some x)(hn:lzG (l.take i) n<500):lzG (l.take (i+1)) n=lzL x.body (lzG (l.take i) n)+1:=by
 rw [takeN h,lzG_app,lzG_cons,if_pos hn,lzG]
theorem lzL_end{l:List PR}{n i:Nat}(h:l.length<=i\/500<=lzL (l.take i) n):lzL (l.take i) n=lzL l n:=by
 rcases h with h|h
 ·rw [List.take_of_length_le h]
 ·have:=lzL_app (l.take i) (l.drop i) n
  rw [List.take_append_drop,lzL_stop h] at this
  exact this.symm
theorem lzG_end{l:List GD}{n i:Nat}(h:l.length<=i\/500<=lzG (l.take i) n):lzG (l.take i) n=lzG l n:=by
 rcases h with h|h
 ·rw [List.take_of_length_le h]
 ·have:=lzG_app (l.take i) (l.drop i) n
  rw [List.take_append_drop,lzG_stop h] at this
  exact this.symm
theorem cntL_mem{x:PR}: ∀{l:List PR},x∈l->cntR x<=cntL l
 |p::r,h=>by
  rw [cntL]
  rcases List.mem_cons.1 h with rfl|h
  ·omega
  ·have:=cntL_mem h;omega
theorem cntG_mem{g:GD}: ∀{l:List GD},g∈l->1+cntL g.body<=cntG l
 |p::r,h=>by
  rw [cntG_cons]
  rcases List.mem_cons.1 h with rfl|h
  ·omega
  ·have:=cntG_mem h;omega
theorem cntL_len: ∀l:List PR,l.length<=cntL l
 | []=>Nat.zero_le _
 |p::r=>by rw [cntL,cntR_eq,List.length_cons];have:=cntL_len r;omega
theorem cntG_len: ∀l:List GD,l.length<=cntG l
 | []=>Nat.zero_le _
 |p::r=>by rw [cntG_cons,List.length_cons];have:=cntG_len r;omega
mutual
theorem raw_cnt: ∀p:PR,(rawC p).length<=cntR p
 |⟨k,c,_,_,_,_,gs,l⟩=>by
  rw [rawC,cntR,List.length_append,List.length_append]
  have h1:=rawL_cnt l
  have h2:=rawG_cnt gs
  have h3:(if k=5\/k=6 then [c] else []).length<=1:=by split<;>simp
  omega
theorem rawL_cnt: ∀l:List PR,(rawCl l).length<=cntL l
 | []=>by rw [rawCl,cntL];exact Nat.le_refl _
 |p::r=>by
  rw [rawCl,cntL,List.length_append]
  have h1:=raw_cnt p
  have h2:=rawL_cnt r
  omega
theorem rawG_cnt: ∀l:List GD,(rawCg l).length<=cntG l
 | []=>by rw [rawCg,cntG];exact Nat.le_refl _
 |⟨k,_,c,_,_,_,b⟩::r=>by
  rw [rawCg,cntG,List.length_append,List.length_append]
  have h1:=rawL_cnt b
  have h2:=rawG_cnt r
  have h3:(if k=3 then [c] else []).length<=1:=by split<;>simp
  omega
end
end Go.Proofs.YtkbolbpojpmicaaGreat
namespace Go.Tp
open Go Go.RowKit
section
variable{K:AC}{k:List It}{E:AEnv}{Λ:List AEnt}
end
end Go.Tp
namespace Go.Proofs.YtkbolbpojpmicaaGreat
open Go Go.Tp
structure WD where
 store:List (List Int)
 inn:List Int
 out:List Int
 steps:Nat
structure FR where
 c:Int
 v:Int
 i:Int
 to:List PL
 e:List KE
 gs:List GD
 rest:List PR
section
variable{w:WD}{p:PR}{fs:List FR}
end
section
variable{V:List KV}{n:Nat}{p:PR}
end
section
variable{k:KN}{w:WD}{p q:PR}{fs:List FR}
end
structure SmN(k:KN):Prop where
 wf:WfN k
 root:smR k.root
end Go.Proofs.YtkbolbpojpmicaaGreat
namespace Go.Tp
open Go Go.RowKit
section
variable{K:AC}{k:List It}{E:AEnv}{Λ:List AEnt}
theorem A.indexPart{all:Array Oper}{o:Oper}{l:List Oper}{ks:List (Nat×Bool)}{t el:TypeId}{ti ei:TI}{x ix:Operand}{b off p m c' n c sz:Nat}{xs:List AV}{kk:IntKind}{i:Int}{E':AEnv}(j0:Nat)
 (hg:gyesA E all o.guard=some ks) (ho:o.op= .indexAddr t x ix) (hx:E.ev K.gs ks x=some (.v (.slice (some ⟨b,p,none⟩) m c'))) (hi:E.ev K.gs ks ix=some (.v (.int kk i))) (ht:K.S.get t=some ti) (hdd:ti.d= .slice el) (he:K.S.get el=some ei) [j:ARow Λ (.slice (some ⟨b,off,none⟩) n c) sz xs]
 (hs:Nat.beq ei.size sz=true) (hp:p=off+j0*sz) (h0:0<=i) (h1:i<m) (h2:j0+i.toNat<n) (hput:E.put K.n none o.dst (.ep (.slice (some ⟨b,off,none⟩) n c) sz (j0+i.toNat))=some E') (next:A K (.ops all l::k) E' Λ):A K (.ops all (o::l)::k) E Λ:=by
 refine ⟨fun h e L hl r q=>?_⟩
 have hs:=Nat.eq_of_beq_eq_true hs
 obtain ⟨v1,e1,f1⟩:=r.ev (K.hgs.mono hl) _ hx
 obtain ⟨v2,e2,f2⟩:=r.ev (K.hgs.mono hl) _ hi
 rw [Rp_v] at f1 f2;rw [f1.1] at e1;rw [f2.1] at e2
 obtain ⟨e',e4,e5⟩:=putA_eq (y:= .pointer (some ⟨b,p+i.toNat*sz,none⟩)) r hput (Rp_ep.2 ⟨b,off,n,c,rfl,h2,by rw [hp,Nat.add_mul,Nat.add_assoc]⟩)
 have hiv:idxv K.S t (.slice (some ⟨b,p,none⟩) m c') i=some (.pointer (some ⟨b,p+i.toNat*sz,none⟩),m):=by simp only [idxv,ht,hdd,he,hs]
 exact V.indexY (C:=K.cfg) (gyesA_eq r hg) ho e1 e2 hiv e4 h0 h1 (next.run h e' L hl e5 q)
theorem Fun.row1{P:Program}{gs:Ua}{f:FuncId}{args:List AV}{Q:AV->List AEnt->Prop}{Λ:List AEnt}{z:Value}{sz n:Nat}{l:List AV}(hl:l≠[])
 (hv: ∀b o c,l.length<=c->Fun P gs f (.ms (.slice (some ⟨b,o,none⟩) l.length c) sz l.length::args) (.row sz (.slice (some ⟨b,o,none⟩) l.length c) l::Λ) Q):Fun P gs f (.ms z sz n::args) (.row sz z l::Λ) Q:=by
 intro w0 h vs L F g r q
 have r0:=r
 have q0:=q
 rw [RpC_cons] at r
 obtain ⟨u,us,rfl,r1,r2⟩:=r
 rw [Rp_ms] at r1
 obtain ⟨rfl,a',cap',rfl⟩:=r1
 obtain ⟨M,L2,rfl,⟨p,⟨a,cap,zs,e1,e2,e3,e4,e5⟩,rfl⟩,q2⟩:=q
 injection e1 with e1 e1' e1''
 subst e1;subst e1';subst e1''
 rcases e5 with ⟨e5,_⟩|⟨b,o,sp,rfl,rfl,e6⟩
 ·exact (hl e5).elim
 ·exact hv b o cap' e2 w0 h _ _ F g r0 q0
theorem A.rowCut{a:Option Addr}{n c sz:Nat}{l l1 l2:List AV}(m:Nat){Λ':List AEnt} [i:ARow Λ (.slice a n c) sz l] [j:AOut Λ (.row sz (.slice a n c) l) Λ'](hl:l=l1++l2)(hm:l1.length=m)(h0:l1≠[])
 (next:A K k E (.row sz (.slice a m c) l1::Λ')):A K k E Λ:=by
 subst hl;subst hm
 refine A.perm j.perm (A.ents (fun h L q=>?_) next)
 obtain ⟨M,L2,rfl,⟨p,⟨a',cap,zs,g1,g2,g3,g4,g5⟩,rfl⟩,q4⟩:=q
 injection g1 with g1 g1' g1''
 subst g1;subst g1';subst g1''
 rw [List.length_append] at g2
 refine ⟨[p]++L2,⟨[p],L2,rfl,⟨p,⟨a,c,zs.take l1.length,rfl,by omega,?_,g4,?_⟩,rfl⟩,q4⟩, .refl _⟩
 ·have:=g3.takeN l1.length
  rwa [List.take_left' rfl] at this
 ·rcases g5 with ⟨g5,_⟩|⟨b,o,sp,g6,g7,g8⟩
  ·simp at g5;exact (h0 g5.1).elim
  ·refine .inr ⟨b,o,catL (zs.drop l1.length)++sp,g6,?_,?_⟩
   ·rw [g7,<-List.append_assoc,<-catL_app,List.take_append_drop]
   ·rw [List.length_append,(g3.dropN l1.length).clen,List.drop_left' rfl,g8,List.length_append,<-Nat.add_mul]
    congr 1;omega
theorem catL_rep(v:Value): ∀m:Nat,(List.replicate m (cellsL v)).flatten=catL (List.replicate m v)
 |0=>rfl
 |m+1=>by rw [List.replicate_succ,List.flatten_cons,catL_rep v m];rfl
theorem RpC.rep{h:GH}{y:AV}{v:Value}(r:Rp h y v): ∀m:Nat,RpC h (List.replicate m y) (List.replicate m v)
 |0=>RpC_nil.2 rfl
 |m+1=>RpC_cons.2 ⟨_,_,rfl,r,RpC.rep r m⟩
theorem A.clearRow{all:Array Oper}{o:Oper}{l:List Oper}{ks:List (Nat×Bool)}{x:Operand}{t el:TypeId}{ti ei:TI}{b off p m c' n c sz:Nat}{xs xs':List AV}{y:AV}{Λ':List AEnt}(j0:Nat)
 (hg:gyesA E all o.guard=some ks) (ho:o.op= .call ⟨.builtin .clear, #[x], #[t]⟩) (hx:E.ev K.gs ks x=some (.v (.slice (some ⟨b,p,none⟩) m c'))) (ht:K.S.get t=some ti) (hdd:ti.d= .slice el) (he:K.S.get el=some ei)
 [i:ARow Λ (.slice (some ⟨b,off,none⟩) n c) sz xs] [u:ARowUp Λ (.slice (some ⟨b,off,none⟩) n c) sz xs xs' Λ'] (hs:Nat.beq ei.size sz=true) (hsz:Nat.blt 0 ei.size=true) (hp:p=off+j0*sz) (hm:j0+m=xs.length) (h0:0<m)
 (hz1:allOne ei.zero=true) (hy: ∀h,∃v,Rp h y v/\cellsL v=ei.zero) (hxs:xs'=xs.take j0++List.replicate m y) (hd:o.dst=none)
 (next:A K (.ops all l::k) E Λ'):A K (.ops all (o::l)::k) E Λ:=by
 subst hxs
 have hs:=Nat.eq_of_beq_eq_true hs
 subst hs
 refine ⟨fun h e L hl r q=>?_⟩
 obtain ⟨v1,e1,f1⟩:=r.ev (K.hgs.mono hl) _ hx
 rw [Rp_v] at f1;rw [f1.1] at e1
 obtain ⟨Λ1,Λ2,d1,d2⟩:=u.split
 subst d1;subst d2
 obtain ⟨L1,M,L2,rfl,q1,⟨pp,⟨a,cap',zs,g1,g2,g3,g4,g5⟩,rfl⟩,q3⟩:=q.mid
 injection g1 with g1 g1' g1''
 subst g1;subst g1';subst g1''
 rcases g5 with ⟨g5,_⟩|⟨b',o',sp,g6,rfl,g8⟩
 ·rw [g5] at hm;simp at hm;omega
 injection g6 with g6;injection g6 with g6 g7;subst g6;subst g7
 refine V.sure (C:=K.cfg) (gyesA_eq r hg) fun ac w g s hk=>?_
 obtain ⟨yv,y1,y2⟩:=hy h
 have ok:=TT.Ok.get K.ok ht
 have oke:=TT.Ok.get K.ok he
 have hund:K.P.underlying t=some (.slice el):=by rw [ok.und,hdd]
 obtain ⟨zv,hz,hzl⟩:=run_zeroCells (w:=w) oke
 have hsz':0<ei.size:=by simpa [Nat.blt_eq] using hsz
 have hzc:(Builtin.zeroCells zv.cells m).toList=(List.replicate m ei.zero).flatten:=by
  rw [show zv.cells=⟨ei.zero⟩ from by rw [<-hzl]]
  rw [zeroCells_eq]
  intro e
  have:=oke.len
  rw [e] at this;simp at this;omega
 have hcat:(List.replicate m ei.zero).flatten=catL (List.replicate m yv):=by
  rw [<-y2];exact catL_rep yv m
 have hzs:zs.length=xs.length:=g3.rp.len
 have c1:=(g3.takeN j0).clen
 rw [List.length_take,Nat.min_eq_left (by omega)] at c1
 have c2:=(g3.dropN j0).clen
 have hel:Els h ei.size (List.replicate m y) (List.replicate m yv):=by
  refine ⟨RpC.rep y1 m,fun z hz=>?_,fun z hz=>?_⟩
  ·rw [List.eq_of_mem_replicate hz,y2,oke.len]
  ·rw [List.eq_of_mem_replicate hz,y2];exact hz1
 have hone: ∀u,u∈(List.replicate m ei.zero).flatten->oneC u=true:=by
  intro u hu
  rw [hcat] at hu
  obtain ⟨z,h1,h2⟩:=List.mem_flatMap.1 hu
  exact allOne_mem (hel.one z h1) u h2
 have hr:updL (catL zs++sp) (j0*ei.size) (catL (List.replicate m yv))=some (catL (zs.take j0++List.replicate m yv)++sp):=by
  have hzd:zs=zs.take j0++zs.drop j0:=(List.take_append_drop _ _).symm
  conv=>lhs;rw [hzd]
  have h1:updL (catL (zs.drop j0)++sp) 0 (catL (List.replicate m yv))=some (catL (List.replicate m yv)++sp):=by
   refine updL_head _ _ _ ?_
   rw [c2,hel.clen,List.length_drop,List.length_replicate];congr 1;omega
  have h2:=updL_app (catL (List.replicate m yv)) (catL (zs.take j0)) _ _ h1
  rw [c1,Nat.add_zero] at h2
  rw [catL_app,List.append_assoc,h2,catL_app,List.append_assoc]
 rw [<-hcat] at hr
 obtain ⟨w',r1,r2⟩:=run_storeCells (P:=K.P) (List.replicate m ei.zero).flatten b p 0 w (L1:=L1) (k:=j0*ei.size) (by simpa [AC.G] using s) (by omega) (updL_spec _ _ _ hr).1 hone hr
 have hnext:=next.run h e ((L1++([⟨b,off,catL (zs.take j0++List.replicate m yv)++sp,none⟩]++L2))) hl r (RpL.mid_of q1 ⟨_,⟨some ⟨b,off,none⟩,c,zs.take j0++List.replicate m yv,?_,?_,(g3.takeN j0).app hel,rfl, .inr ⟨b,off,sp,rfl,rfl,?_⟩⟩,rfl⟩ q3)
 ·have hex:(execOp ac.eval o).run K.cfg.P w= .ok (.value (.tuple #[])) w':=by
   unfold execOp
   rw [ho]
   obtain ⟨m',rfl⟩: ∃m',m=m'+1:=⟨m-1,by omega⟩
   have r1':Sem.run K.cfg.P (storeCells ⟨b,p,none⟩ (Builtin.zeroCells zv.cells (m'+1)).toList) w= .ok () w':=by rw [hzc];exact r1
   have hund':K.cfg.P.underlying t=some (.slice el):=hund
   have hz':Sem.run K.cfg.P (zeroValue el) w= .ok zv w:=hz
   simp [resolve,invoke,builtin,Builtin.clear_,g.ev hk e1,Go.run_underlying hund',hz',r1']
  unfold Oper.wp
  rw [hex]
  exact ⟨e,h,_,by rw [hd];exact g,(by simpa [AC.G] using r2),hnext⟩
 all_goals rw [List.length_append,List.length_take,List.length_replicate,Nat.min_eq_left (by omega),hm]
 ·exact g2
 ·exact g8
end
section
variable{K:AC}{all:Array Oper}{m:Nat}{k:List It}{pubs:Nat->List Nat}{Y:Ua}{π:List Nat}{E:AEnv}{Λ:List AEnt}{D:Da}
theorem WA.indexPart{i0:Nat}{o:Oper}{ks:List (Nat×Bool)}{t el:TypeId}{ti ei:TI}{x ix:Operand}{b off p q c' n c sz:Nat}{xs:List AV}{kk:IntKind}{i:Int}{E':AEnv}(j0:Nat)(hi0:nthL all.toList i0=some o)
 (hg:gyesA E all o.guard=some ks) (ho:o.op= .indexAddr t x ix) (hx:E.ev K.gs ks x=some (.v (.slice (some ⟨b,p,none⟩) q c'))) (hi:E.ev K.gs ks ix=some (.v (.int kk i))) (ht:K.S.get t=some ti) (hdd:ti.d= .slice el) (he:K.S.get el=some ei) [j:ARow Λ (.slice (some ⟨b,off,none⟩) n c) sz xs]
 (hs:Nat.beq ei.size sz=true) (hp:p=off+j0*sz) (h0:0<=i) (h1:i<q) (h2:j0+i.toNat<n) (hput:E.put K.n none o.dst (.ep (.slice (some ⟨b,off,none⟩) n c) sz (j0+i.toNat))=some E') (next:WA K all m k pubs Y π E' Λ D):WA K all m k pubs Y (i0::π) E Λ D:=by
 refine ⟨fun h e L Es hl r q' d=>?_⟩
 have hs:=Nat.eq_of_beq_eq_true hs
 obtain ⟨v1,e1,f1⟩:=r.ev (K.hgs.mono hl) _ hx
 obtain ⟨v2,e2,f2⟩:=r.ev (K.hgs.mono hl) _ hi
 rw [Rp_v] at f1 f2;rw [f1.1] at e1;rw [f2.1] at e2
 obtain ⟨e',e4,e5⟩:=putA_eq (y:= .pointer (some ⟨b,p+i.toNat*sz,none⟩)) r hput (Rp_ep.2 ⟨b,off,n,c,rfl,h2,by rw [hp,Nat.add_mul,Nat.add_assoc]⟩)
 have hiv:idxv K.S t (.slice (some ⟨b,p,none⟩) q c') i=some (.pointer (some ⟨b,p+i.toNat*sz,none⟩),q):=by simp only [idxv,ht,hdd,he,hs]
 exact WE.valueY (G:=drawRg K.cfg all (L++K.G) pubs (YA Y) m k) hi0 (kd_index ho) (gyesA_eq r hg) (fun a w E0 g s hk=>by
  have:=run_idxv (P:=K.cfg.P) (w:=w) (kk:=kk) K.ok hiv h0 h1
  unfold execOp
  rw [ho]
  simp only [g.ev hk e1,g.ev hk e2,Sem.run_bind,this,Result.andThen_ok,Sem.run_pure]) e4 (next.run h e' L Es hl e5 q' d)
end
end Go.Tp
namespace Go.Tp
open Go Go.RowKit
theorem St.self{w0 w:World}{h:GH}{L:List Ent}(s:St w0 h L w):St w h [] w:=
 ⟨Below.refl _ _,s.imm,s.imm1,fun p hp=>(by cases hp),List.Pairwise.nil,fun _ _ _ _=>rfl,Nat.le_refl _⟩
theorem putRow_heap_other{α:Type} [Inhabited α](enc:α->Value)(w:World)(b lo:Nat)(d:Array α){j:Nat}(hj:j≠b):(Sort.putRow enc w b lo d).heap[j]? =w.heap[j]? :=by
 unfold Sort.putRow Sort.mapBlock
 simp only [Array.getElem?_modify]
 rw [if_neg (fun e=>hj e.symm)]
theorem St.sorted{α:Type} [Inhabited α]{w0 w:World}{h:GH}{L:List Ent}{b lo:Nat}{cs:List Value}{enc:α->Value}{d d':Array α}{n:Nat}{os:Array Obj}
 (s:St w0 h (⟨b,lo,cs,none⟩::L) w) (hd:d.size<=cs.length) (hp:0<d.size) (hH:Sort.Holds enc w b lo d) (hs:d'.size=d.size) (h1: ∀j,j<d.size->oneC (enc d'[j]!)=true):
 St w0 h (⟨b,lo,d'.toList.map enc++cs.drop d.size,none⟩::L) (Sort.grow (Sort.putRow enc (Sort.ahead w n) b lo d') os):=by
 have k:=s.own _ (List.mem_cons_self ..)
 have hdis:=List.pairwise_cons.1 s.dis
 have hnew:=k.new 0 (by simp only;omega)
 simp only at hnew
 have hsz:(Sort.putRow enc (Sort.ahead w n) b lo d').heap.size=w.heap.size:=by rw [Sort.size_putRow];rfl
 have hlen:(d'.toList.map enc++cs.drop d.size).length=cs.length:=by simp [hs];omega
 have hcell: ∀a:Addr,(a.block≠b\/a.off<lo\/lo+d.size<=a.off)->a.block<w.heap.size->(Sort.grow (Sort.putRow enc (Sort.ahead w n) b lo d') os).cell? a=w.cell? a:=fun a ha hl=>by
  rw [Sort.cell?_grow _ _ _ (by rw [hsz];exact hl),Sort.cell?_putRow_other _ _ _ _ _ _ (by rw [hs];exact ha),Sort.cell?_ahead]
 have hfr: ∀a:Addr,a.block<w.heap.size->(Sort.grow (Sort.putRow enc (Sort.ahead w n) b lo d') os).frozen? a=w.frozen? a:=fun a hl=>by
  rw [Sort.frozen?_grow _ _ _ (by rw [hsz];exact hl),Sort.frozen?_putRow,Sort.frozen?_ahead]
 have hb:b<w.heap.size:=lt_of_cell (hH 0 hp).1
 refine ⟨⟨s.below.os,s.below.tape,s.below.output,?_,fun j hj=>?_⟩,fun b' o v hv=>?_,s.imm1,fun p hp'=>?_,?_,fun b' o v hv=>?_,?_⟩
 ·rw [Sort.size_grow,hsz];exact Nat.le_trans s.below.size (Nat.le_add_right _ _)
 ·have hjw:j<w.heap.size:=Nat.lt_of_lt_of_le hj s.below.size
  rw [Sort.heap_grow_old _ _ (by rw [hsz];exact hjw),putRow_heap_other _ _ _ _ _ (by omega)]
  exact s.below.block j hj
 ·have hc:=s.imm _ _ _ hv
  rw [hcell _ ?_ (lt_of_cell hc)]
  ·exact hc
  ·by_cases e1:b'=b
   ·refine .inr ?_
    by_cases e2:o<lo
    ·exact .inl e2
    ·refine .inr ?_
     simp only
     rcases Nat.lt_or_ge o (lo+d.size) with h2|h2
     ·have:=k.fresh (o-lo) (by simp only;omega)
      simp only at this
      rw [show lo+(o-lo)=o by omega,<-e1,hv] at this;cases this
     ·exact h2
   ·exact .inl e1
 ·rcases List.mem_cons.1 hp' with rfl|hp'
  ·refine ⟨fun v hv=>?_,fun i v hv=>?_,fun i hi=>hnew,fun i hi=>?_,fun i hi=>k.fresh i (by rw [<-hlen];exact hi),fun o ho=>by cases ho⟩
   ·rcases List.mem_append.1 hv with hv|hv
    ·obtain ⟨x,hx,rfl⟩:=List.mem_map.1 hv
     obtain ⟨j,hj,rfl⟩:=List.mem_iff_getElem.1 hx
     have hj':j<d'.size:=by simpa using hj
     have:=h1 j (by omega)
     rw [getElem!_pos d' j hj'] at this
     simpa using this
    ·exact k.one v (List.mem_of_mem_drop hv)
   ·simp only at hv⊢
    rcases Nat.lt_or_ge i d.size with hi|hi
    ·rw [Sort.cell?_grow _ _ _ (by rw [hsz];exact hb),Sort.cell?_putRow enc (Sort.ahead w n) b lo d d' hH hs i (by omega)]
     rw [List.getElem?_append_left (by simp;omega)] at hv
     have hj':i<d'.size:=by omega
     rw [getElem!_pos d' i hj']
     rw [List.getElem?_eq_getElem (by simpa using hj')] at hv
     simpa using hv
    ·rw [hcell _ (.inr (.inr (by simp only;omega))) hb]
     rw [List.getElem?_append_right (by simp;omega)] at hv
     refine k.cell i v ?_
     simp only [List.getElem?_drop,List.length_map,Array.length_toList] at hv⊢
     rwa [show d.size+(i-d'.size)=i by omega] at hv
   ·rw [hfr _ hb];exact k.warm i (by rw [<-hlen];exact hi)
  ·have q:=s.own p (List.mem_cons_of_mem _ hp')
   have ha:=hdis.1 p hp'
   refine ⟨q.one,fun i v hv=>?_,q.new,fun i hi=>?_,q.fresh,fun o ho=>?_⟩
   ·have hc:=q.cell i v hv
    have hi:i<p.cs.length:=by
     rcases Nat.lt_or_ge i p.cs.length with h|h
     ·exact h
     ·rw [List.getElem?_eq_none h] at hv;cases hv
    rw [hcell _ ?_ (lt_of_cell hc)]
    ·exact hc
    ·by_cases e1:p.b=b
     ·refine .inr ?_
      by_cases e2:p.lo+i<lo
      ·exact .inl e2
      ·refine .inr ?_
       simp only
       rcases Nat.lt_or_ge (p.lo+i) (lo+d.size) with h2|h2
       ·exact (ha.1 (p.lo+i-lo) i (by simp only;omega) hi e1.symm (by simp only;omega)).elim
       ·exact h2
     ·exact .inl e1
   ·obtain ⟨v,hv⟩:=getElem?_some_of_lt hi
    rw [hfr _ (lt_of_cell (q.cell i v hv))];exact q.warm i hi
   ·obtain ⟨h2,h3,h4⟩:=q.obj o ho
    refine ⟨h2,?_,h4⟩
    have hlt:p.b<w.heap.size:=(Array.getElem?_eq_some_iff.1 h3).1
    have hne:p.b≠b:=by
     intro e
     obtain ⟨c,t,fr,hc,_⟩:=Sort.cells_of_cell? (hH 0 hp).1
     rw [<-e,h3] at hc
     injection hc with hc
     exact h4 _ _ _ hc
    rw [Sort.heap_grow_old _ _ (by rw [hsz];exact hlt),putRow_heap_other _ _ _ _ _ hne]
    exact h3
 ·refine List.pairwise_cons.2 ⟨fun q hq=>⟨fun i j hi hj=>(hdis.1 q hq).1 i j (by simp only [hlen] at hi;exact hi) hj,(hdis.1 q hq).2⟩,hdis.2⟩
 ·rw [hfr _ (lt_of_cell (s.imm _ _ _ hv))];exact s.frz _ _ _ hv
 ·show w0.drawn<=w.drawn+n
  exact Nat.le_trans s.drn (Nat.le_add_right _ _)
theorem St.grown{h:GH}{L:List Ent}{W w':World}(s:St W h L w'): ∃q os,w'=Sort.grow (W.drewN q) os:=by
 refine ⟨w'.drawn-W.drawn,w'.heap.extract W.heap.size w'.heap.size,?_⟩
 obtain ⟨hp,tp,dr,os,ou⟩:=w'
 have b:=s.below
 obtain ⟨b1,b2,b3,b4,b5⟩:=b
 have hd:=s.drn
 simp only at b1 b2 b3 b4 b5 hd⊢
 unfold Sort.grow World.drewN
 simp only [World.mk.injEq]
 refine ⟨?_,b2,by omega,b1,b3⟩
 apply Array.ext_getElem?
 intro i
 rcases Nat.lt_or_ge i W.heap.size with hi|hi
 ·rw [b5 i hi,Array.getElem?_append_left hi]
 ·rw [Array.getElem?_append_right hi,Array.getElem?_extract]
  split
  ·rw [show W.heap.size+(i-W.heap.size)=i by omega]
  ·rename_i hn
   rw [Array.getElem?_eq_none (by omega)]
theorem pure_grown{P:Program}{gs:Ua}{f:FuncId}{args:List AV}{c:Int}{vs:List Value}{W:World}{h:GH}(hf:Pure P gs f args (.v (.int .i64 c)))(s:St W h [] W)(g:GsOk h gs)(r:RpC h args vs):
 Calls P f ⟨vs⟩ W fun e w'=>e= .returned (.int .i64 c)/\ ∃q os,w'=Sort.grow (W.drewN q) os:=by
 refine ((hf W h vs [] [] g r rfl).2 W s).mono fun e w' ⟨v,h',L',e1,⟨x,Λ',L1,⟨q1,q2⟩,q3,_⟩,e3⟩=>?_
 subst q1
 rw [Rp_v] at q3
 exact ⟨by rw [e1,q3.1],e3.grown⟩
end Go.Tp
namespace Go.Tp
open Go Go.RowKit
def pickL{α:Type}(l:List α):List Nat->Option (List α)
 | []=>some []
 |i::π=>match nthL l i with
  |some x=>match pickL l π with
   |some r=>some (x::r)
   |none=>none
  |none=>none
theorem pickL_eq{α:Type}{l:List α}: ∀{π:List Nat} {r:List α},pickL l π=some r->r=π.filterMap fun i=>l[i]?
 | [],r,h=>by injection h with h;subst h;rfl
 |i::π,r,h=>by
  simp only [pickL] at h
  split at h
  ·rename_i x hx
   split at h
   ·rename_i r' hr
    injection h with h;subst h
    rw [nthL_eq] at hx
    rw [List.filterMap_cons,hx,pickL_eq hr]
   ·cases h
  ·cases h
theorem range_pick{α:Type}(l:List α):(List.range l.length).filterMap (fun i=>l[i]?)=l:=by
 induction l with
 |nil=>rfl
 |cons x l ih=>
  rw [List.length_cons,List.range_succ_eq_map,List.filterMap_cons]
  simp only [List.getElem?_cons_zero,List.filterMap_map]
  congr 1
theorem perm_pick{α:Type}(π:List Nat){l r:List α}(h:pickL l π=some r)(h1:nodupB π=true)(h2:(π.all fun i=>Nat.blt i l.length)=true)(h3:((List.range l.length).all fun i=>memB i π)=true):l.Perm r:=by
 rw [pickL_eq h]
 have:(List.range l.length).Perm π:=by
  refine (List.perm_ext_iff_of_nodup List.nodup_range (nodupB_spec h1)).2 fun a=>⟨fun ha=>?_,fun ha=>?_⟩
  ·exact memB_iff.1 ((List.all_eq_true.1 h3) a ha)
  ·have:=(List.all_eq_true.1 h2) a ha
   rw [Nat.blt_eq] at this
   exact List.mem_range.2 this
 have:=this.filterMap fun i=>l[i]?
 rwa [range_pick] at this
def Slots.ofL:List (Nat×Ent)->Slots
 | []=>Slots.none
 |(j,x)::r=>(Slots.ofL r).set j (some x)
theorem Slots.ofL_none: ∀{l:List (Nat×Ent)} {j:Nat},j∉l.map (·.1)->Slots.ofL l j=Option.none
 | [],_,_=>rfl
 |(i,x)::r,j,h=>by
  simp only [List.map_cons,List.mem_cons,not_or] at h
  rw [Slots.ofL,Slots.set_ne _ h.1]
  exact Slots.ofL_none h.2
theorem Slots.ofL_perm{n:Nat}: ∀{l:List (Nat×Ent)},(l.map (·.1)).Nodup->(∀j,j∈l.map (·.1)->j<n)->(Slots.list n (Slots.ofL l)).Perm (l.map (·.2))
 | [],_,_=>by rw [show Slots.ofL []=Slots.none from rfl,Slots.list_none];exact .refl _
 |(j,x)::r,h,hn=>by
  simp only [List.map_cons,List.nodup_cons] at h
  have h1:=Slots.list_put (hn j (List.mem_cons_self ..)) (Slots.ofL r) x
  have h2:(Slots.ofL r).set j Option.none=Slots.ofL r:=by rw [<-Slots.ofL_none h.1];exact Slots.set_same _ _
  rw [h2] at h1
  exact h1.trans ((Slots.ofL_perm h.2 fun i hi=>hn i (List.mem_cons_of_mem _ hi)).cons x)
section
variable{C:Cfg}{k:List It}{e:Env}{h:GH}{L:List Ent}
theorem V.drawL{all:Array Oper}{id:Nat}(l:List (Nat×Ent))(m:Nat)(π:List Nat)(pubs:Nat->List Nat)(Y:Nat->List Value->Value->GH->Prop)(hn:(l.map (·.1)).Nodup)(hj: ∀j,j∈l.map (·.1)->j<all.size)(hm:C.P.follows .mixedOrders=true)(hok:drawOkN all m π pubs=true)
 (hv:WE (drawRg C all L pubs Y m k) π e h (Slots.ofL l)):V C (.code (.region id all true)::k) e h (l.map (·.2)++L):=by
 intro ho a w b cs g s hf hk
 have hok1:=drawOkN_spec hok
 have hnd:=hok1.2
 have ok:DrawOk (drawRg C all L pubs Y m k) m π:=drawOk_spec hok1.1
 have hW:=hv a g
 have hp:=Slots.ofL_perm (n:=all.size) hn hj
 have s':(drawRg C all L pubs Y m k).live h (Slots.ofL l) {w with drawn:=w.drawn+1}:=by
  show St C.w0 h (Slots.list all.size (Slots.ofL l)++L) _
  exact s.drew.perm (hp.append_right L).symm
 have hd:Done all m π (Array.replicate all.size false):=by
  refine ⟨by simp,fun i hi=>⟨fun _=>?_,fun _=>by simp [hi]⟩,fun i o ho hi=>?_⟩
  rotate_left
  ·have:(Array.replicate all.size false).getD i false=false:=by
    simp only [Array.getD_eq_getD_getElem?,Array.getElem?_replicate];split<;>rfl
   have hi':(Array.replicate all.size false).getD i false=true:=hi
   rw [this] at hi';cases hi'
  by_cases him:i<m
  ·left;exact ok.full i him
  ·right;omega
 have hr:=Rg.run (drawRg C all L pubs Y m k) ok (itsOk_tail ho) (cs:=cs) hnd hf hk (fun a h E x=>x) m π ok.len (List.Sublist.refl _) (Array.replicate all.size false) (w.tape w.drawn (.order b.fn id)) a h (Slots.ofL l) _ hd hW s'
 obtain ⟨v,w'',fr,h'',L'',q1,q2,q3,q4,q5⟩:=hr
 refine ⟨v,w'',fr,h'',L'',q1,q2,?_,q4,q5⟩
 have hstep:=stepR_region_draw (P:=C.P) (b:=b) (a:=a) (k:=items k) (cs:=cs) (w:=w) (ops:=all) (id:=id)
 have hsch:Region.schedule (C.P.follows .mixedOrders) all (w.tape w.drawn (.order b.fn id))=Region.linearise.go .any all (m+(all.size-m)) (w.tape w.drawn (.order b.fn id)) (Array.replicate all.size false) []:=by
  rw [show m+(all.size-m)=all.size by have:m<=all.size:=ok.le;omega]
  simp only [Region.schedule,hm,Bool.true_or,if_true]
  rfl
 rw [hsch] at hstep
 exact .head hstep q3
end
def oneEnt:AEnt->Bool
 | .box _ _=>true
 | .row _ _ _=>true
 | .tail _ _=>true
 |_=>false
theorem oneEnt_rp{h:GH}{x:AEnt}{M:List Ent}(ho:oneEnt x=true)(r:RpEnt h x M): ∃p,M=[p]:=by
 cases x with
 |box b y=>obtain ⟨z,_,e⟩:=r;exact ⟨_,e⟩
 |row sz z l=>obtain ⟨p,_,e⟩:=r;exact ⟨_,e⟩
 |tail sz z=>obtain ⟨p,_,e⟩:=r;exact ⟨_,e⟩
 |_=>cases ho
theorem RpL.ofD{h:GH}: ∀{D:Da} {L:List Ent},(D.all fun x=>oneEnt x.2)=true->RpL h (D.map (·.2)) L-> ∃l:List (Nat×Ent),l.map (·.1)=D.map (·.1)/\L=l.map (·.2)/\RpD h D (Slots.ofL l)
 | [],L,_,r=>by
   have r:L=[]:=r
   exact ⟨[],rfl,r,fun i=>rfl⟩
 |(j,x)::D,L,ho,r=>by
  simp only [List.all_cons,Bool.and_eq_true] at ho
  obtain ⟨M,L2,rfl,r1,r2⟩:=r
  obtain ⟨p,rfl⟩:=oneEnt_rp ho.1 r1
  obtain ⟨l,e1,e2,e3⟩:=RpL.ofD ho.2 r2
  exact ⟨(j,p)::l,by simp [e1],by simp [e2],e3.set r1⟩
section
variable{K:AC}{all:Array Oper}{k:List It}{E:AEnv}{Λ:List AEnt}
theorem A.drawL{id:Nat}(D:Da)(m:Nat)(π:List Nat)(pubs:Nat->List Nat)(Y:Ua){Λ':List AEnt}(hp:Λ.Perm (D.map (·.2)++Λ'))(ho:(D.all fun x=>oneEnt x.2)=true)(hn:nodupB (D.map (·.1))=true)(hj:((D.map (·.1)).all fun j=>Nat.blt j (lenO all.toList))=true)
 (hm:K.P.follows .mixedOrders=true) (hok:drawOkN all m π pubs=true) (hv:WA K all m k pubs Y π E Λ' D):A K (.code (.region id all true)::k) E Λ:=
 ⟨fun h e L hl r q=>by
   obtain ⟨L',q1,q2⟩:=q.perm hp
   obtain ⟨M,L2,rfl,q3,q4⟩:=q1.split
   obtain ⟨l,e1,rfl,e3⟩:=RpL.ofD ho q3
   refine V.perm (q2.append_right _) ?_
   rw [List.append_assoc]
   refine V.drawL (C:=K.cfg) l m π pubs (YA Y) (by rw [e1];exact nodupB_spec hn) (fun j hj'=>?_) hm hok (hv.run h e L2 _ hl r q4 e3)
   rw [e1] at hj'
   have:=(List.all_eq_true.1 hj) j hj'
   rw [lenO_eq] at this
   simpa [Nat.blt_eq] using this⟩
end
section
variable{K:AC}{all:Array Oper}{m:Nat}{k:List It}{pubs:Nat->List Nat}{Y:Ua}{π:List Nat}{E:AEnv}{Λ:List AEnt}{D:Da}
theorem WA.appendR{i:Nat}{o:Oper}{ks:List (Nat×Bool)}{y1 y2:Operand}{t el:TypeId}{ti ei:TI}{x2:AV}{l1 l2:List AV}{z:Value}{sz sz' n d:Nat}{ps:List Nat}{D':Da}(hi:nthL all.toList i=some o)
 (hg:gyesA E all o.guard=some ks) (ho:o.op= .call ⟨.builtin .append, #[y1,y2], #[t,t]⟩) (h1:E.ev K.gs ks y1=some (.ms z sz' n)) (h2:E.ev K.gs ks y2=some x2)
 (ht:K.S.get t=some ti) (hdd:ti.d= .slice el) (he:K.S.get el=some ei) (hD:lookD D i=some (.row sz z l1)) (hp:pubs i=i::ps) (hpi:memB i ps=false) (hDD:dropD ps D=D') (hse:Nat.beq ei.size sz=true)
 (hsz:Nat.blt 0 ei.size=true) (hz1:allOne ei.zero=true) (hd:o.dst=some d) (hc:okPutA K.n E d=true) (hnd:nodupB ps=true) (hlt:((i::ps).all fun j=>Nat.blt j (lenO all.toList))=true) (hel:allElt ei l2=true)
 (hs:SbP D ps x2 (.sl ei.size l2 none)) (hb:(l1.length+l2.length)*ei.size<=281474976710656) (hby:(l1.length+l2.length)*ei.size*ei.bytes<=140737488355328)
 (next: ∀z',WA K all m k pubs Y π ⟨(d, .ms z' sz (l1.length+l2.length))::E.us,E.cs⟩ Λ ((i, .row sz z' (l1++l2))::D')):WA K all m k pubs Y (i::π) E Λ D:=by
 subst hDD
 have hse:=Nat.eq_of_beq_eq_true hse
 subst hse
 refine ⟨fun h e L Es hl r q dd=>?_⟩
 obtain ⟨v1,e1,f1⟩:=r.ev (K.hgs.mono hl) _ h1
 obtain ⟨v2,e2,f2⟩:=r.ev (K.hgs.mono hl) _ h2
 rw [Rp_ms] at f1
 obtain ⟨rfl,_⟩:=f1
 have hEi:=dd i
 rw [hD] at hEi
 obtain ⟨p0,hp1,p,⟨a,cap,zs,rfl,g2,g3,g4,g5⟩,hpe⟩:=hEi
 injection hpe with hpe;subst hpe
 have hsz':0<ei.size:=by simpa [Nat.blt_eq] using hsz
 have hni:i∉ps:=fun hm=>by rw [memB_iff.2 hm] at hpi;cases hpi
 have hlt': ∀j,j∈i::ps->j<all.size:=fun j hj=>by
  have:=(List.all_eq_true.1 hlt) j hj
  rw [lenO_eq] at this
  simpa [Nat.blt_eq] using this
 have hkap:kd o= .ap:=by unfold kd;rw [ho]
 refine WE.apAny (G:=drawRg K.cfg all (L++K.G) pubs (YA Y) m k) hi (gyesA_eq r hg) hkap hd (okPutA_eq r hc) (by show memB i (pubs i)=true;rw [hp];simp [memB]) fun ac w g s hk=>?_
 obtain ⟨s1,pk⟩:=live_pub (C:=K.cfg) (n:=all.size) ps Es h (nodupB_spec hnd) (fun j hj=>hlt' j (List.mem_cons_of_mem _ hj)) s
 have f2':=SbP.rp dd pk.1 pk.2 hs f2
 obtain ⟨zs2,b1,b2,b3⟩:=sl_Sl f2'
 have hEi':pubE ps Es i=some p0:=by rw [pubE_at,if_neg hni,hp1]
 have hl':=Slots.list_take (hlt' i (List.mem_cons_self ..)) hEi'
 have s2:St K.w0 (pubH Es ps h) (p0::(Slots.list all.size ((pubE ps Es).set i none)++(L++K.G))) w:=St.perm s1 (hl'.append_right _)
 have hlen1:(catL zs).length=l1.length*ei.size:=by rw [cat_len g3.sz,g3.rp.len]
 have hlen2:(catL zs2).length=l2.length*ei.size:=by rw [cat_len b2,b1.len]
 have how:Ow ei.size a l1.length cap (catL zs) p0:=⟨g4,g2,hlen1,g5.elim (fun ⟨_,k2,k3,k4⟩=> .inl ⟨k2,k3,k4⟩) .inr⟩
 obtain ⟨w',x',a',n',cap',r1,r2,r3⟩:=run_appendOwn (ty:=o.type) K.ok ht hdd he hsz' hz1 (allOne_mem g3.oneAll) s2 how b3 (by rw [hlen1,hlen2,<-Nat.add_mul];exact hb) (by rw [hlen1,hlen2,<-Nat.add_mul];exact hby)
 have hn':n'=l1.length+l2.length:=by
  have:=r3.2.2.1
  rw [List.length_append,hlen1,hlen2,<-Nat.add_mul] at this
  exact (Nat.eq_of_mul_eq_mul_right hsz' this).symm
 subst hn'
 have g3':=g3.mono pk.1
 have hrow:RpRow (pubH Es ps h) ei.size (.slice a' (l1.length+l2.length) cap') (l1++l2) x':=by
  refine ⟨a',cap',zs++zs2,by rw [List.length_append],by rw [List.length_append];exact r3.2.1,⟨g3'.rp.append b1,fun z hz=>?_,fun z hz=>?_⟩,r3.1,?_⟩
  ·rcases List.mem_append.1 hz with hz|hz
   ·exact g3.sz z hz
   ·exact b2 z hz
  ·rcases List.mem_append.1 hz with hz|hz
   ·exact g3.one z hz
   ·exact allElt_one hel _ zs2 b1 z hz
  ·have hcat:catL (zs++zs2)=catL zs++catL zs2:=by simp [catL]
   rcases r3.2.2.2 with ⟨k2,k3,k4⟩|k5
   ·refine .inl ⟨?_,k2,k3,k4⟩
    have:=r3.2.1
    exact List.length_eq_zero_iff.1 (by rw [List.length_append];omega)
   ·rw [hcat,List.length_append];exact .inr k5
 refine ⟨_,w',pubH Es ps h,(pubE ps Es).set i (some x'),?_,?_,pk.1,(next (.slice a' (l1.length+l2.length) cap')).run _ ⟨_::e.us,e.cs⟩ L _ (GH.le_trans hl pk.1) ⟨(r.1.mono pk.1).put (Rp_ms.2 ⟨rfl,_,_,rfl⟩),r.2.mono pk.1⟩ (q.mono pk.1) (((dd.mono pk.1).pub _).set ⟨x',hrow,rfl⟩)⟩
 ·unfold execOp
  rw [ho]
  have r1':Sem.run K.cfg.P (Builtin.append_ #[t,t] o.type #[Value.slice a l1.length cap,v2]) w=Result.ok (Value.slice a' (l1.length+l2.length) cap') w':=r1
  simp [resolve,invoke,builtin,g.ev hk e1,g.ev hk e2,r1']
 ·have hq:=Slots.list_put (hlt' i (List.mem_cons_self ..)) (pubE ps Es) x'
  exact St.perm r2 (hq.append_right _).symm
end
end Go.Tp
namespace Go.Tp
open Go Go.RowKit
section
variable{K:AC}{all:Array Oper}{m:Nat}{k:List It}{pubs:Nat->List Nat}{Y:Ua}{π:List Nat}{E:AEnv}{Λ:List AEnt}{D:Da}
end
end Go.Tp
namespace Go.Proofs.YtkbolbpojpmicaaGreat
open Go Go.Tp
abbrev evA(x:EL):AV:= .ag [AI x.1,AI32 x.2]
abbrev trA(t:TR):AV:= .sl 2 (t.map evA) none
theorem trA_len(t:TR):((t.map evA).length:Int)=t.length:=by rw [List.length_map]
def cmpJ(x y:Int):Int:=if x<y then-1 else if y<x then 1 else 0
theorem nan32_p(x:Int):Pure Tryz.prog gs0 189 [AI32 x] (AB false):=by
 refine p_ tt_ok Tryz.func189 6 fun w0 h0 F hgs=>?_
 refine y_ ?_
 refine R_ ?_
 refine Sb.eq (ab_eq ?_)
 simp
theorem cmp32_p(x y:Int):Pure Tryz.prog gs0 112 [AI32 x,AI32 y] (AI (cmpJ x y)):=by
 have h1:=nan32_p x
 have h2:=nan32_p y
 refine Exists.elim (show∃R,R=cmpJ x y from ⟨_,rfl⟩) fun R hR=>?_
 rw [<-hR]
 unfold cmpJ at hR
 refine p_ tt_ok Tryz.func112 20 fun w0 h0 F hgs=>?_
 refine y_ ?_
 refine c_ h1 ?_
 refine n_ h2 ?_
 (repeat' first|refine A.s rfl ?_|refine A.r rfl rfl ?_|refine A.w rfl rfl ?_|refine A.p rfl ?_|refine A.b rfl fun bx=>?_|refine A.t rfl fun bl=>?_|((fail_if_success (refine A.lit? rfl ?_));refine A.gS rfl (fun hc=>?_) (fun hc=>?_))|((fail_if_success (refine A.litP? rfl ?_));refine A.gSP rfl (fun hc=>?_) (fun hc=>?_)))
 all_goals (refine R_ ?_;refine Sb.eq (ai_eq ?_);rw [hR];simp at*;omega)
end Go.Proofs.YtkbolbpojpmicaaGreat
namespace Go.Tp
open Go Go.RowKit
def keyD:TypeDesc->Bool
 | .int _=>true
 | .string=>true
 |_=>false
section
variable{P:Program}{w:World}{t kt:TypeId}{ti ki:TI}
theorem run_checkKeyD{em:Bool}{v:Value}(hk:TI.Ok P kt ki)(hd:keyD ki.d=true):(Instr.checkKey em 10000 kt v).run P w= .ok () w:=by
 unfold Instr.checkKey
 simp only [Sem.run_bind,run_underlying hk,Result.andThen_ok]
 cases hx:ki.d<;>rw [hx] at hd<;>first|(cases hd;done)|(cases v<;>rfl)
theorem run_findKeyD{v:Value}{es:List MapEntry}{r:Option (Nat×Value)}(hk:TI.Ok P kt ki)(hf:Instr.findNow ki.d v es 0=some r):(Instr.findKey kt v es).run P w= .ok r w:=by
 unfold Instr.findKey
 simp only [Sem.run_bind,run_underlying hk,Result.andThen_ok,hf]
 rfl
end
def posV(d:TypeDesc)(k:Value):List Value->Option (Option Nat)
 | []=>some none
 |m::r=>match Instr.sameNow d k m with
  |some true=>some (some 0)
  |some false=>match posV d k r with
   |some (some p)=>some (some (p+1))
   |some none=>some none
   |none=>none
  |none=>none
theorem findNow_posV{d:TypeDesc}{k:Value}: ∀{ks vs:List Value} {b i:Nat} {r:Option Nat},ks.length=vs.length->posV d k ks=some r->
 Instr.findNow d k (mapEs ks vs b) i=some (match r with
  |some p=>(vs[p]?).map fun v=>(i+p,v)
  |none=>none)
 | [],vs,b,i,r,hl,h=>by
   simp only [posV] at h
   injection h with h;subst h
   cases vs<;>rfl
 |m::ks,[],b,i,r,hl,h=>by simp at hl
 |m::ks,v::vs,b,i,r,hl,h=>by
  rw [posV] at h
  rw [mapEs,Instr.findNow]
  cases hs:Instr.sameNow d k m with
  |none=>rw [hs] at h;cases h
  |some q=>
   rw [hs] at h
   simp only
   cases q with
   |true=>
    simp only at h⊢
    injection h with h;subst h
    simp
   |false=>
    simp only at h⊢
    cases hp:posV d k ks with
    |none=>rw [hp] at h;cases h
    |some r'=>
     have ih:=findNow_posV (vs:=vs) (b:=b+1) (i:=i+1) (by simpa using hl) hp
     rw [ih]
     rw [hp] at h
     cases r' with
     |none=>simp only at h;injection h with h;subst h;rfl
     |some p=>
      simp only at h;injection h with h;subst h
      simp only [List.getElem?_cons_succ]
      cases vs[p]? with
      |none=>rfl
      |some u=>simp;omega
section
variable{C:Cfg}{k:List It}{e:Env}{h:GH}{L:List Ent}
theorem V.updateG{all:Array Oper}{o:Oper}{l:List Oper}{ks:List (Nat×Bool)}{t kt et:TypeId}{ti ki:TI}{m ky y:Operand}{b n:Nat}{es:Array MapEntry}{kv v:Value}{L2:List Ent}
 (hg:gyes e all o.guard=some ks) (ho:o.op= .mapUpdate t m ky y) (hm:e.ev ks m=some (.map (some b))) (hkv:e.ev ks ky=some kv) (hv:e.ev ks y=some v) (ht:C.S.get t=some ti) (htd:ti.d= .map kt et) (hkt:C.S.get kt=some ki) (hkd:keyD ki.d=true)
 (hf:Instr.findNow ki.d kv es.toList 0=some none) (hd:o.dst=none) (hL:L=⟨b,0,[],some (.map es n)⟩::L2)
 (next:V C (.ops all l::k) e h (⟨b,0,[],some (.map (es.push ⟨kv,v,n⟩) (n+1))⟩::L2)):V C (.ops all (o::l)::k) e h L:=
 V.sure hg fun a w g s hk=>by
  subst hL
  have hob:=((s.own _ (List.mem_cons_self ..)).obj _ rfl).2.1
  simp only at hob
  have s2:=s.setObj rfl (.map (es.push ⟨kv,v,n⟩) (n+1)) (fun _ _ _ x=>by cases x)
  unfold Oper.wp execOp
  rw [ho]
  simp only [g.ev hk hm,g.ev hk hkv,g.ev hk hv,Instr.mapUpdate,Sem.run_bind,run_underlying (TT.Ok.get C.ok ht),htd,Result.andThen_ok,run_getMap hob,run_checkKeyD (TT.Ok.get C.ok hkt) hkd,run_findKeyD (TT.Ok.get C.ok hkt) hf,run_setMap _ hob,Sem.run_pure]
  exact ⟨e,h,_,by rw [hd];exact g,s2,next⟩
theorem V.lookupG{all:Array Oper}{o:Oper}{l:List Oper}{ks:List (Nat×Bool)}{t kt et:TypeId}{ti ki:TI}{m ky:Operand}{b n d i:Nat}{c:Bool}{es:Array MapEntry}{kv v:Value}{L2:List Ent}
 (hg:gyes e all o.guard=some ks) (ho:o.op= .lookup t m ky c) (hm:e.ev ks m=some (.map (some b))) (hkv:e.ev ks ky=some kv) (ht:C.S.get t=some ti) (htd:ti.d= .map kt et) (hkt:C.S.get kt=some ki) (hkd:keyD ki.d=true)
 (hf:Instr.findNow ki.d kv es.toList 0=some (some (i,v))) (hd:o.dst=some d) (hc:okPut C.n e d=true) (hL:L=⟨b,0,[],some (.map es n)⟩::L2)
 (next:V C (.ops all l::k) ⟨(d,if c then .tuple #[v, .bool true] else v)::e.us,e.cs⟩ h L):V C (.ops all (o::l)::k) e h L:=
 V.gives hg hd hc fun a w g s hk=>by
  have hob:=((s.own ⟨b,0,[],some (.map es n)⟩ (by rw [hL];exact List.mem_cons_self ..)).obj _ rfl).2.1
  simp only at hob
  refine ⟨_,w,h,L,?_,s,next⟩
  unfold execOp
  rw [ho]
  simp only [g.ev hk hm,g.ev hk hkv,Instr.lookup,Sem.run_bind,run_underlying (TT.Ok.get C.ok ht),htd,Result.andThen_ok,run_getMap hob,run_checkKeyD (TT.Ok.get C.ok hkt) hkd,run_findKeyD (TT.Ok.get C.ok hkt) hf,Sem.run_pure]
theorem V.lookupNilG{all:Array Oper}{o:Oper}{l:List Oper}{ks:List (Nat×Bool)}{t kt et:TypeId}{ti ki:TI}{m ky:Operand}{b n d:Nat}{c:Bool}{es:Array MapEntry}{kv v:Value}{L2:List Ent}
 (hg:gyes e all o.guard=some ks) (ho:o.op= .lookup t m ky c) (hm:e.ev ks m=some (.map (some b))) (hkv:e.ev ks ky=some kv) (ht:C.S.get t=some ti) (htd:ti.d= .map kt et) (hkt:C.S.get kt=some ki) (hkd:keyD ki.d=true)
 (hz:(C.P.info? et).bind (fun x=>x.zero)=some v)
 (hf:Instr.findNow ki.d kv es.toList 0=some none) (hd:o.dst=some d) (hc:okPut C.n e d=true) (hL:L=⟨b,0,[],some (.map es n)⟩::L2)
 (next:V C (.ops all l::k) ⟨(d,if c then .tuple #[v, .bool false] else v)::e.us,e.cs⟩ h L):V C (.ops all (o::l)::k) e h L:=
 V.gives hg hd hc fun a w g s hk=>by
  have hob:=((s.own ⟨b,0,[],some (.map es n)⟩ (by rw [hL];exact List.mem_cons_self ..)).obj _ rfl).2.1
  simp only at hob
  refine ⟨_,w,h,L,?_,s,next⟩
  obtain ⟨xi,hx1,hx2⟩: ∃xi,C.P.info? et=some xi/\xi.zero=some v:=by
   cases hi:C.P.info? et with
   |none=>rw [hi] at hz;cases hz
   |some xi=>rw [hi] at hz;exact ⟨xi,rfl,hz⟩
  have hz1:(zeroValue et).run C.P w= .ok v w:=by simp [zeroValue,run_typeInfo hx1,hx2]
  unfold execOp
  rw [ho]
  simp only [g.ev hk hm,g.ev hk hkv,Instr.lookup,Sem.run_bind,run_underlying (TT.Ok.get C.ok ht),htd,Result.andThen_ok,run_getMap hob,run_checkKeyD (TT.Ok.get C.ok hkt) hkd,run_findKeyD (TT.Ok.get C.ok hkt) hf,hz1,Sem.run_pure]
end
section
variable{K:AC}{k:List It}{E:AEnv}{Λ:List AEnt}
theorem A.updateG{all:Array Oper}{o:Oper}{l:List Oper}{ks:List (Nat×Bool)}{t kt et:TypeId}{ti ki:TI}{m ky y:Operand}{b:Nat}{kv:Value}{nks:List Value}{xs:List AV}{x:AV}{Λ':List AEnt}
 (hg:gyesA E all o.guard=some ks) (ho:o.op= .mapUpdate t m ky y) (hm:E.ev K.gs ks m=some (.v (.map (some b)))) (hkv:E.ev K.gs ks ky=some (.v kv)) (hv:E.ev K.gs ks y=some x) (ht:K.S.get t=some ti) (htd:ti.d= .map kt et) (hkt:K.S.get kt=some ki) (hkd:keyD ki.d=true)
 [i:AMp Λ b nks xs Λ'] (hf:posV ki.d kv nks=some none) (hd:o.dst=none) (next:A K (.ops all l::k) E (.mp b (nks++[kv]) (xs++[x])::Λ')):A K (.ops all (o::l)::k) E Λ:=by
 refine ⟨fun h e L hl r q=>?_⟩
 obtain ⟨v1,e1,f1⟩:=r.ev (K.hgs.mono hl) _ hm
 obtain ⟨v2,e2,f2⟩:=r.ev (K.hgs.mono hl) _ hkv
 obtain ⟨v3,e3,f3⟩:=r.ev (K.hgs.mono hl) _ hv
 rw [Rp_v] at f1 f2
 rw [f1.1] at e1
 rw [f2.1] at e2
 obtain ⟨L',q1,q2⟩:=q.perm i.perm
 obtain ⟨M,L2,rfl,⟨hlen,vs,hvs,rfl⟩,q4⟩:=q1
 have hl2:nks.length=vs.length:=by rw [hlen,hvs.len]
 refine V.perm (q2.append_right _) ?_
 refine V.updateG (C:=K.cfg) (n:=nks.length) (es:=⟨mapEs nks vs 0⟩) (L2:=L2++K.G) (gyesA_eq r hg) ho e1 e2 e3 ht htd hkt hkd (findNow_posV hl2 hf) hd rfl ?_
 have:=next.run h e (⟨b,0,[],some (.map ⟨mapEs (nks++[kv]) (vs++[v3]) 0⟩ (nks++[kv]).length)⟩::L2) hl r (.one ⟨by simp [hlen],_,hvs.append (RpC_cons.2 ⟨_,_,rfl,f3,RpC_nil.2 rfl⟩),rfl⟩ q4)
 rw [mapEs_snoc hl2] at this
 simpa using this
theorem A.lookupG{all:Array Oper}{o:Oper}{l:List Oper}{ks:List (Nat×Bool)}{t kt et:TypeId}{ti ki:TI}{m ky:Operand}{b d p:Nat}{c:Bool}{kv:Value}{nks:List Value}{xs:List AV}{x:AV}{Λ':List AEnt}
 (hg:gyesA E all o.guard=some ks) (ho:o.op= .lookup t m ky c) (hm:E.ev K.gs ks m=some (.v (.map (some b)))) (hkv:E.ev K.gs ks ky=some (.v kv)) (ht:K.S.get t=some ti) (htd:ti.d= .map kt et) (hkt:K.S.get kt=some ki) (hkd:keyD ki.d=true)
 [i:AMp Λ b nks xs Λ'] (hf:posV ki.d kv nks=some (some p)) (hx:xs[p]? =some x) (hd:o.dst=some d) (hc:okPutA K.n E d=true) (next:A K (.ops all l::k) ⟨(d,if c then .tp [x, .v (.bool true)] else x)::E.us,E.cs⟩ Λ):A K (.ops all (o::l)::k) E Λ:=by
 refine ⟨fun h e L hl r q=>?_⟩
 obtain ⟨v1,e1,f1⟩:=r.ev (K.hgs.mono hl) _ hm
 obtain ⟨v2,e2,f2⟩:=r.ev (K.hgs.mono hl) _ hkv
 rw [Rp_v] at f1 f2
 rw [f1.1] at e1
 rw [f2.1] at e2
 obtain ⟨L',q1,q2⟩:=q.perm i.perm
 have q1':=q1
 obtain ⟨M,L2,rfl,⟨hlen,vs,hvs,rfl⟩,q4⟩:=q1
 have hl2:nks.length=vs.length:=by rw [hlen,hvs.len]
 obtain ⟨u,hu,hux⟩:=hvs.at hx
 have hfn:=findNow_posV (b:=0) (i:=0) hl2 hf
 simp only [hu,Option.map_some] at hfn
 refine V.perm (q2.append_right _) ?_
 refine V.lookupG (C:=K.cfg) (n:=nks.length) (es:=⟨mapEs nks vs 0⟩) (L2:=L2++K.G) (gyesA_eq r hg) ho e1 e2 ht htd hkt hkd hfn hd (okPutA_eq r hc) rfl ?_
 refine V.perm (q2.symm.append_right _) ?_
 refine next.run h _ L hl ⟨r.1.put ?_,r.2⟩ q
 cases c with
 |false=>exact hux
 |true=>exact Rp_tp.2 ⟨_,rfl,RpC_cons.2 ⟨_,_,rfl,hux,RpC_cons.2 ⟨_,_,rfl,Rp_v.2 ⟨rfl,rfl⟩,RpC_nil.2 rfl⟩⟩⟩
theorem A.lookupNilG{all:Array Oper}{o:Oper}{l:List Oper}{ks:List (Nat×Bool)}{t kt et:TypeId}{ti ki:TI}{m ky:Operand}{b d:Nat}{c:Bool}{kv:Value}{nks:List Value}{xs:List AV}{v:Value}{Λ':List AEnt}
 (hg:gyesA E all o.guard=some ks) (ho:o.op= .lookup t m ky c) (hm:E.ev K.gs ks m=some (.v (.map (some b)))) (hkv:E.ev K.gs ks ky=some (.v kv)) (ht:K.S.get t=some ti) (htd:ti.d= .map kt et) (hkt:K.S.get kt=some ki) (hkd:keyD ki.d=true) (hz:(K.P.info? et).bind (fun x=>x.zero)=some v) (hone:oneC v=true)
 [i:AMp Λ b nks xs Λ'] (hf:posV ki.d kv nks=some none) (hd:o.dst=some d) (hc:okPutA K.n E d=true) (next:A K (.ops all l::k) ⟨(d,if c then .tp [.v v, .v (.bool false)] else .v v)::E.us,E.cs⟩ Λ):A K (.ops all (o::l)::k) E Λ:=by
 refine ⟨fun h e L hl r q=>?_⟩
 obtain ⟨v1,e1,f1⟩:=r.ev (K.hgs.mono hl) _ hm
 obtain ⟨v2,e2,f2⟩:=r.ev (K.hgs.mono hl) _ hkv
 rw [Rp_v] at f1 f2
 rw [f1.1] at e1
 rw [f2.1] at e2
 obtain ⟨L',q1,q2⟩:=q.perm i.perm
 obtain ⟨M,L2,rfl,⟨hlen,vs,hvs,rfl⟩,q4⟩:=q1
 have hl2:nks.length=vs.length:=by rw [hlen,hvs.len]
 have hfn:=findNow_posV (b:=0) (i:=0) hl2 hf
 refine V.perm (q2.append_right _) ?_
 refine V.lookupNilG (C:=K.cfg) (n:=nks.length) (es:=⟨mapEs nks vs 0⟩) (L2:=L2++K.G) (gyesA_eq r hg) ho e1 e2 ht htd hkt hkd hz hfn hd (okPutA_eq r hc) rfl ?_
 refine V.perm (q2.symm.append_right _) ?_
 refine next.run h _ L hl ⟨r.1.put ?_,r.2⟩ q
 cases c with
 |false=>exact Rp_v.2 ⟨rfl,hone⟩
 |true=>exact Rp_tp.2 ⟨_,rfl,RpC_cons.2 ⟨_,_,rfl,Rp_v.2 ⟨rfl,hone⟩,RpC_cons.2 ⟨_,_,rfl,Rp_v.2 ⟨rfl,rfl⟩,RpC_nil.2 rfl⟩⟩⟩
theorem A.eqMap{all:Array Oper}{o:Oper}{l:List Oper}{ks:List (Nat×Bool)}{op:BinOp}{t ty kt et:TypeId}{ti:TI}{x:Operand}{p:Option Nat}{d:Nat}
 (hg:gyesA E all o.guard=some ks) (ho:o.op= .binOp op t x (.const (.map none)) ty) (hop:op= .eql) (hx:E.ev K.gs ks x=some (.v (.map p))) (ht:K.S.get t=some ti) (hdd:ti.d= .map kt et) (hd:o.dst=some d) (hc:okPutA K.n E d=true)
 (next:A K (.ops all l::k) ⟨(d, .v (.bool p.isNone))::E.us,E.cs⟩ Λ):A K (.ops all (o::l)::k) E Λ:=by
 refine ⟨fun h e L hl r q=>?_⟩
 obtain ⟨v1,e1,f1⟩:=r.ev (K.hgs.mono hl) _ hx
 rw [Rp_v] at f1
 rw [f1.1] at e1
 subst hop
 refine V.valueY (C:=K.cfg) (v:= .bool p.isNone) (gyesA_eq r hg) (fun ac w g s hk=>?_) (by rw [hd];exact okPut_put (okPutA_eq r hc))
  (next.run h ⟨(d, .bool p.isNone)::e.us,e.cs⟩ L hl ⟨r.1.put (Rp_v.2 ⟨rfl,rfl⟩),r.2⟩ q)
 have ok:=TT.Ok.get K.ok ht
 have:=run_eql_map_nil (P:=K.P) w t kt et p (by rw [ok.und,hdd])
 unfold execOp;rw [ho]
 have e3:ac.eval (.const (.map none))= .map none:=rfl
 have hgd:(eqGuard .eql t x (.const (.map none)) (.map p) (.map none)).run K.P w= .ok () w:=run_eqGuard rfl
 show Sem.run K.P _ w=_
 simp only [g.ev hk e1,e3,Sem.run_bind,hgd,this,Result.andThen_ok,Sem.run_pure]
end
theorem subL_ext{B:List Value}: ∀(cs:List Value) (k n:Nat) {r:List Value},subL cs k n=some r->subL (cs++B) k n=some r
 | [],0,0,r,h=>by cases B<;>exact h
 |_::_,0,0,r,h=>h
 | [],k+1,0,r,h=>by simp [subL] at h
 | [],0,n+1,r,h=>by simp [subL] at h
 | [],k+1,n+1,r,h=>by simp [subL] at h
 |c::cs,0,n+1,r,h=>by
  rw [List.cons_append]
  simp only [subL] at h⊢
  split at h
  ·rename_i r' hr
   rw [subL_ext cs 0 n hr];exact h
  ·cases h
 |_::cs,k+1,0,r,h=>by
  rw [List.cons_append]
  simp only [subL] at h⊢
  exact subL_ext cs k 0 h
 |_::cs,k+1,n+1,r,h=>by
  rw [List.cons_append]
  simp only [subL] at h⊢
  exact subL_ext cs k (n+1) h
theorem subL_in{cs B:List Value}{k n:Nat}{r:List Value}(h:subL cs k n=some r): ∀A:List Value,subL (A++(cs++B)) (A.length+k) n=some r
 | []=>by rw [List.nil_append,List.length_nil,Nat.zero_add];exact subL_ext cs k n h
 |a::A=>by
  rw [List.cons_append,List.length_cons,show A.length+1+k=(A.length+k)+1 by omega]
  have e:subL (a::(A++(cs++B))) ((A.length+k)+1) n=subL (A++(cs++B)) (A.length+k) n:=by
   cases n<;>simp only [subL]
  rw [e];exact subL_in h A
theorem ldV_in{ti:TI}{A B cs:List Value}{b b' o0 k0:Nat}{v:Value}(h:ldV ti ⟨b',0,cs,none⟩ k0=some v):ldV ti ⟨b,o0,A++(cs++B),none⟩ (o0+A.length+k0)=some v:=by
 have h0:Nat.ble 0 k0=true:=by cases k0<;>rfl
 have hle:Nat.ble o0 (o0+A.length+k0)=true:=Nat.ble_eq_true_of_le (by omega)
 simp only [ldV,h0,hle,Nat.sub_zero,show o0+A.length+k0-o0=A.length+k0 by omega] at h⊢
 unfold partv at h⊢
 split at h
 ·split at h
  ·rename_i r hr
   rw [subL_in hr A];exact h
  ·cases h
 ·rw [nthL_eq] at h⊢
  have hk:k0<cs.length:=(List.getElem?_eq_some_iff.1 h).1
  rw [List.getElem?_append_right (by omega),show A.length+k0-A.length=k0 by omega,List.getElem?_append_left hk]
  exact h
theorem row_split{zs:List Value}{i:Nat}{z0:Value}(sp:List Value)(hz0:zs[i]? =some z0):catL zs++sp=catL (zs.take i)++(cellsL z0++(catL (zs.drop (i+1))++sp)):=by
 have hi:i<zs.length:=(List.getElem?_eq_some_iff.1 hz0).1
 have hzs:zs=zs.take i++z0::zs.drop (i+1):=by
  have:=List.take_append_drop i zs
  rw [List.drop_eq_getElem_cons hi] at this
  rw [List.getElem?_eq_getElem hi] at hz0
  injection hz0 with hz0
  rw [hz0] at this
  exact this.symm
 conv=>lhs;rw [hzs]
 rw [catL_app,List.append_assoc]
 congr 1
 show (cellsL z0++catL (zs.drop (i+1)))++sp=_
 rw [List.append_assoc]
section
variable{K:AC}{k:List It}{E:AEnv}{Λ:List AEnt}
theorem A.loadPart{all:Array Oper}{o:Oper}{l:List Oper}{ks:List (Nat×Bool)}{t:TypeId}{p:Operand}{b sz off:Nat}(i k0:Nat){xs:List AV}{ti:TI}{x y:AV}{E':AEnv}
 (hg:gyesA E all o.guard=some ks) (ho:o.op= .load t p) (hp:E.ev K.gs ks p=some (.v (.pointer (some ⟨b,off,none⟩)))) (ht:K.S.get t=some ti) (n c o0:Nat) [j:ARow Λ (.slice (some ⟨b,o0,none⟩) n c) sz xs] (hoff:off=o0+i*sz+k0)
 (hx:xs[i]? =some x) (hld:ldA ti x k0=some y) (hput:E.put K.n none o.dst y=some E') (next:A K (.ops all l::k) E' Λ):A K (.ops all (o::l)::k) E Λ:=by
 subst hoff
 refine ⟨fun h e L hl r q=>?_⟩
 obtain ⟨v1,e1,f1⟩:=r.ev (K.hgs.mono hl) _ hp
 rw [Rp_v] at f1;rw [f1.1] at e1
 obtain ⟨M,m1,pp,⟨a,cap',zs,g1,g2,g3,g4,g5⟩,rfl⟩:=q.mem j.mem
 injection g1 with g1 g1' g1''
 subst g1;subst g1';subst g1''
 rcases g5 with ⟨g5,_⟩|⟨b',off',sp,g6,rfl,g9⟩
 ·subst g5;cases hx
 ·injection g6 with g6;injection g6 with g6 g7;subst g6;subst g7
  obtain ⟨z0,hz0,hr0⟩:=g3.rp.at hx
  obtain ⟨v,s1,s2⟩:=ldA_rp (b:=b) hr0 hld
  have hzl:zs.length=xs.length:=g3.rp.len
  have hi:i<xs.length:=(List.getElem?_eq_some_iff.1 hx).1
  have hA:(catL (zs.take i)).length=i*sz:=by
   rw [(g3.takeN i).clen,List.length_take,Nat.min_eq_left (by omega)]
  have hv:ldV ti ⟨b,o0,catL zs++sp,none⟩ (o0+i*sz+k0)=some v:=by
   rw [row_split sp hz0,<-hA];exact ldV_in s1
  obtain ⟨e',e5,e6⟩:=putA_eq r hput s2
  exact V.loadY (C:=K.cfg) (gyesA_eq r hg) ho e1 ht (i:=⟨List.mem_append_left _ (m1 _ (List.mem_singleton.2 rfl)),rfl⟩) hv e5 (next.run h e' L hl e6 q)
end
section
variable{K:AC}{all:Array Oper}{m:Nat}{k:List It}{pubs:Nat->List Nat}{Y:Ua}{π:List Nat}{E:AEnv}{Λ:List AEnt}{D:Da}
theorem WA.epV(t:Nat){b o0 n c sz i:Nat}(hx:lookA E.us t=some (.ep (.slice (some ⟨b,o0,none⟩) n c) sz i))(next:WA K all m k pubs Y π ⟨(t, .v (.pointer (some ⟨b,o0+i*sz,none⟩)))::E.us,E.cs⟩ Λ D):WA K all m k pubs Y π E Λ D:=by
 refine ⟨fun h e L Es hl r q d=>?_⟩
 rcases r.1.look t with ⟨y,v,e1,e2,e3⟩|⟨e1,e2⟩
 ·rw [hx] at e1;injection e1 with e1;subst e1
  rw [Rp_ep] at e3
  obtain ⟨b',o',n',c',e4,_,e5⟩:=e3
  injection e4 with e4;injection e4 with e4;injection e4 with e6 e7
  subst e6;subst e7;subst e5
  exact WE.val (G:=drawRg K.cfg all (L++K.G) pubs (YA Y) m k) t e2 rfl (next.run h ⟨(t,_)::e.us,e.cs⟩ L Es hl ⟨r.1.put (Rp_v.2 ⟨rfl,rfl⟩),r.2⟩ q d)
 ·rw [hx] at e1;cases e1
theorem WA.loadPart{i0:Nat}{o:Oper}{ks:List (Nat×Bool)}{t:TypeId}{p:Operand}{b sz off:Nat}(i k0:Nat){xs:List AV}{ti:TI}{x y:AV}{E':AEnv}(hi0:nthL all.toList i0=some o)
 (hg:gyesA E all o.guard=some ks) (ho:o.op= .load t p) (hp:E.ev K.gs ks p=some (.v (.pointer (some ⟨b,off,none⟩)))) (ht:K.S.get t=some ti) (n c o0:Nat) [j:ARow Λ (.slice (some ⟨b,o0,none⟩) n c) sz xs] (hoff:off=o0+i*sz+k0)
 (hx:xs[i]? =some x) (hld:ldA ti x k0=some y) (hput:E.put K.n none o.dst y=some E') (next:WA K all m k pubs Y π E' Λ D):WA K all m k pubs Y (i0::π) E Λ D:=by
 subst hoff
 refine ⟨fun h e L Es hl r q d=>?_⟩
 obtain ⟨v1,e1,f1⟩:=r.ev (K.hgs.mono hl) _ hp
 rw [Rp_v] at f1;rw [f1.1] at e1
 obtain ⟨M,m1,pp,⟨a,cap',zs,g1,g2,g3,g4,g5⟩,rfl⟩:=q.mem j.mem
 injection g1 with g1 g1' g1''
 subst g1;subst g1';subst g1''
 rcases g5 with ⟨g5,_⟩|⟨b',off',sp,g6,rfl,g9⟩
 ·subst g5;cases hx
 ·injection g6 with g6;injection g6 with g6 g7;subst g6;subst g7
  obtain ⟨z0,hz0,hr0⟩:=g3.rp.at hx
  obtain ⟨v,s1,s2⟩:=ldA_rp (b:=b) hr0 hld
  have hzl:zs.length=xs.length:=g3.rp.len
  have hi:i<xs.length:=(List.getElem?_eq_some_iff.1 hx).1
  have hA:(catL (zs.take i)).length=i*sz:=by
   rw [(g3.takeN i).clen,List.length_take,Nat.min_eq_left (by omega)]
  have hv:ldV ti ⟨b,o0,catL zs++sp,none⟩ (o0+i*sz+k0)=some v:=by
   rw [row_split sp hz0,<-hA];exact ldV_in s1
  obtain ⟨e',e4,e5⟩:=putA_eq r hput s2
  exact WE.valueY (G:=drawRg K.cfg all (L++K.G) pubs (YA Y) m k) hi0 (kd_load ho) (gyesA_eq r hg) (fun a w E0 g s hk=>by
   have:=run_ldV (TT.Ok.get K.ok ht) (s.own ⟨b,o0,catL zs++sp,none⟩ (List.mem_append_right _ (List.mem_append_left _ (m1 _ (List.mem_singleton.2 rfl))))) rfl hv
   unfold execOp
   rw [ho]
   have this:Sem.run K.cfg.P (Instr.loadAt t (Value.pointer (some ⟨b,o0+i*sz+k0,none⟩))) w= .ok v w:=this
   simp only [g.ev hk e1,Sem.run_bind,this,Result.andThen_ok,Sem.run_pure]) e4 (next.run h e' L Es hl e5 q d)
end
end Go.Tp
namespace Go.Tp
open Go Go.RowKit
section
variable{K:AC}{k:List It}{E:AEnv}{Λ:List AEnt}
theorem A.nilRow(sz:Nat)(next:A K k E (.row sz (.slice none 0 0) []::Λ)):A K k E Λ:=by
 refine ⟨fun h e L hl r q=>?_⟩
 have hr0: ∃p,RpRow h sz (.slice none 0 0) [] p/\[(⟨0,0,[],none⟩:Ent)]=[p]:=⟨⟨0,0,[],none⟩,⟨none,0,[],rfl,Nat.zero_le _,⟨(by rw [RpC_nil]),(fun z hz=>by cases hz),(fun z hz=>by cases hz)⟩,rfl, .inl ⟨rfl,rfl,rfl,fun y hy=>by cases hy⟩⟩,rfl⟩
 exact V.empty (next.run h e (_::L) hl r (.one hr0 q))
theorem A.valR(t:Nat){x x':AV}(hx:lookA E.us t=some x)(hr: ∀(h:GH) z,Rp h x z->Rp h x' z)(next:A K k ⟨(t,x')::E.us,E.cs⟩ Λ):A K k E Λ:=by
 refine ⟨fun h e L hl r q=>?_⟩
 rcases r.1.look t with ⟨y,v,e1,e2,e3⟩|⟨e1,e2⟩
 ·rw [hx] at e1;injection e1 with e1;subst e1
  exact V.val t e2 rfl (next.run _ ⟨(t,v)::e.us,e.cs⟩ L hl ⟨r.1.put (hr _ _ e3),r.2⟩ q)
 ·rw [hx] at e1;cases e1
end
end Go.Tp
namespace Go.Proofs.YtkbolbpojpmicaaGreat
open Go Go.Tp
theorem has19_p(l:List Int)(v:Int)(hb:l.length<=281474976710656):Pure Tryz.prog gs0 57 [intsA l,AI v] (AB (l.contains v)):=by
 have h1:=contains_p l v hb
 refine p_ tt_ok Tryz.func57 8 fun w0 h0 F hgs=>?_
 refine y_ ?_
 exact cr_ h1
theorem in19_p(l:List Int)(v:Int)(hb:l.length<=281474976710656):Pure Tryz.prog gs0 58 [intsA l,AI v] (AB (l.contains v)):=by
 have nl:((l.map AI).length:Int)=l.length:=by rw [List.length_map]
 refine Exists.elim (show∃R,R=l.contains v from ⟨_,rfl⟩) fun R hR=>?_
 rw [<-hR]
 refine p_ tt_ok Tryz.func58 18 fun w0 h0 F hgs=>?_
 refine y_ ?_
 refine A.keep [0,1,5] rfl ?_
 refine A.loopP (ι:=Nat) (fun i=>(⟨[(0,intsA l),(1,AI v),(5,AI (i:Nat))],[]⟩,[])) (fun i=>i<=l.length/\R=(l.drop i).contains v) (fun i=>l.length-i) 0 ⟨Nat.zero_le _,hR⟩ rfl fun i hi ih=>?_
 obtain ⟨hi1,hi2⟩:=hi
 refine y_ ?_
 by_cases hci:i<l.length
 ·refine Exists.elim (at_exN (l:=l) (i:=i) hci) fun x hx=>?_
  have hdx:l.drop i=x::l.drop (i+1):=by
   obtain ⟨h1,h2⟩:=List.getElem?_eq_some_iff.1 hx
   rw [List.drop_eq_getElem_cons h1,h2]
  rw [hdx,List.contains_cons] at hi2
  refine T_ rfl (by show decide ((i:Int)<((l.map AI).length:Int))=true;rw [nl,decide_eq_true_eq];omega) ?_
  refine i_ rfl (map_at hx) rfl ?_
  by_cases hxv:x=v
  ·refine T_ rfl (by show (x==v)=true;rw [hxv];simp) ?_
   refine R_ ?_
   rw [hi2,hxv]
   refine Sb.eq (ab_eq ?_)
   simp
  ·refine F_ rfl (by show (x==v)=false;simpa using hxv) ?_
   refine A.valE 5 rfl (x':=AI ((i+1:Nat):Int)) (inc_eq i (by omega)) ?_
   refine u_ (ih (i+1) ⟨by omega,by rw [hi2,show (v==x)=false by simpa using fun e=>hxv e.symm];rfl⟩ (by omega))
 ·refine F_ rfl (by show decide ((i:Int)<((l.map AI).length:Int))=false;rw [nl,decide_eq_false_iff_not];omega) ?_
  refine R_ ?_
  rw [hi2,List.drop_eq_nil_of_le (by omega)]
  exact .refl
abbrev whA(t:TR)(op:List Int)(f:Nat):AV:= .ag [trA t,intsA op,AI (f:Nat)]
theorem from_p(t:TR)(op:List Int)(f n:Nat)(hn:n<=t.length):Pure Tryz.prog gs0 218 [whA t op f,AI (n:Nat)] (whA (t.drop n) op f):=by
 have nt:=trA_len t
 refine p_ tt_ok Tryz.func218 14 fun w0 h0 F hgs=>?_
 (repeat refine A.s rfl ?_)
 refine A.b rfl fun b2=>?_
 refine A.b rfl fun b4=>?_
 (repeat refine A.s rfl ?_)
 refine d_ 9 [0,1,2,3,4,5,6,7,8] [] ?_
 refine WA.slice (ys:=(t.drop n).map evA) rfl rfl rfl rfl rfl rfl rfl rfl rfl rfl (by show (0:Int)<=(n:Nat);omega) (by show ((n:Nat):Int)<=((t.map evA).length:Int);rw [nt];omega) (Int.le_refl _) (by
  show ((t.map evA).drop ((n:Nat):Int).toNat).take (((t.map evA).length:Int).toNat-((n:Nat):Int).toNat)=_
  rw [Int.toNat_natCast,Int.toNat_natCast,List.map_drop,List.take_of_length_le (by rw [List.length_drop];exact Nat.le_refl _)]) rfl ?_
 refine w_ ?_
 refine z_ ?_
 refine A.retC (Λ':=[]) rfl rfl rfl rfl rfl (List.nil_sublist _) ⟨?_,rfl⟩
 exact .refl
theorem only_snoc(t:TR)(ch:List Int){i:Nat}{e:EL}(h:t[i]? =some e):onlyT (t.take (i+1)) ch=if ch.contains e.1 then onlyT (t.take i) ch++[e] else onlyT (t.take i) ch:=by
 unfold onlyT
 rw [List.take_add_one,h,List.filter_append]
 show List.filter _ (t.take i)++List.filter _ [e]=_
 rw [List.filter_cons]
 split<;>simp
theorem only_len(t:TR)(ch:List Int):(onlyT t ch).length<=t.length:=List.length_filter_le ..
theorem only_p(t:TR)(ch:List Int)(ht:t.length<=1048576)(hc:ch.length<=281474976710656):Pure Tryz.prog gs0 23 [trA t,intsA ch] (trA (onlyT t ch)):=by
 have nt:=trA_len t
 refine p_ tt_ok Tryz.func23 24 fun w0 h0 F hgs=>?_
 refine y_ ?_
 refine A.emptyRow 5 2 rfl fun z0=>?_
 refine A.valE 9 rfl (x':=AI (t.length:Nat)) (ai_eq nt) ?_
 refine A.keep [1,5,8,9,10] rfl ?_
 refine A.loopP (ι:=Nat×Value) (fun u=>(⟨[(1,intsA ch),(5, .ms u.2 2 (onlyT (t.take u.1) ch).length),(8,trA t),(9,AI (t.length:Nat)),(10,AI (u.1:Nat))],[]⟩,[.row 2 u.2 ((onlyT (t.take u.1) ch).map evA)])) (fun u=>u.1<=t.length) (fun u=>t.length-u.1) (0,z0) (Nat.zero_le _) rfl fun u hu ih=>?_
 obtain ⟨i,z⟩:=u
 simp only at hu
 have hol:(onlyT (t.take i) ch).length<=t.length:=Nat.le_trans (only_len _ _) (by rw [List.length_take];omega)
 refine y_ ?_
 by_cases hci:i<t.length
 ·refine Exists.elim (at_exN (l:=t) (i:=i) hci) fun e he=>?_
  have hs:=only_snoc t ch he
  have hh:=has19_p ch e.1 hc
  refine T_ rfl (by show decide ((i:Int)<(t.length:Nat))=true;rw [decide_eq_true_eq];omega) ?_
  refine j_ rfl (map_at he) rfl ?_
  (repeat refine A.s rfl ?_)
  refine A.b rfl fun b7=>?_
  refine y_ ?_
  refine c_ hh ?_
  by_cases hce:ch.contains e.1=true
  ·rw [if_pos hce] at hs
   refine A.gT rfl hce ?_
   refine t_ fun bl=>?_
   refine A.appendRowE rfl rfl rfl rfl rfl rfl rfl rfl rfl rfl rfl rfl rfl rfl (by show (((onlyT (t.take i) ch).map evA).length+1)*2<=_;rw [List.length_map];omega) (by show (((onlyT (t.take i) ch).map evA).length+1)*2*16<=_;rw [List.length_map];omega) fun z2=>?_
   refine y_ ?_
   refine A.valE 10 rfl (x':=AI ((i+1:Nat):Int)) (inc_eq i (by omega)) ?_
   refine A.valE 5 rfl (x':= .ms z2 2 (onlyT (t.take (i+1)) ch).length) (by rw [hs,List.length_append,List.length_map];rfl) ?_
   refine l_ (Λ':=[.row 2 z2 ((onlyT (t.take i) ch).map evA++[evA e])]) ?_
   refine A.entsEq (Λ':=[.row 2 z2 ((onlyT (t.take (i+1)) ch).map evA)]) (by rw [hs,List.map_append];rfl) ?_
   refine u_ (ih (i+1,z2) (by show i+1<=_;omega) (by show _-(i+1)<_-i;omega))
  ·rw [if_neg hce] at hs
   refine F_ rfl (by simpa using hce) ?_
   refine A.valE 10 rfl (x':=AI ((i+1:Nat):Int)) (inc_eq i (by omega)) ?_
   refine A.valE 5 rfl (x':= .ms z 2 (onlyT (t.take (i+1)) ch).length) (by rw [hs]) ?_
   refine l_ (Λ':=[.row 2 z ((onlyT (t.take i) ch).map evA)]) ?_
   refine A.entsEq (Λ':=[.row 2 z ((onlyT (t.take (i+1)) ch).map evA)]) (by rw [hs]) ?_
   refine u_ (ih (i+1,z) (by show i+1<=_;omega) (by show _-(i+1)<_-i;omega))
 ·refine A.gF rfl (by show decide ((i:Int)<(t.length:Nat))=false;rw [decide_eq_false_iff_not];omega) ?_
  clear ih
  have hie:i=t.length:=by omega
  subst hie
  refine A.valE 5 rfl (x':= .ms z 2 (onlyT t ch).length) (by rw [List.take_length]) ?_
  refine A.entsEq (Λ':=[.row 2 z ((onlyT t ch).map evA)]) (by rw [List.take_length]) ?_
  refine A.freezeRow 5 rfl ?_
  exact yr_
theorem ronly_p(t:TR)(ch:List Int)(ht:t.length<=1048576)(hc:ch.length<=281474976710656):Pure Tryz.prog gs0 25 [trA t,intsA ch] (trA (onlyT t ch)):=by
 have nt:=trA_len t
 refine p_ tt_ok Tryz.func25 28 fun w0 h0 F hgs=>?_
 refine y_ ?_
 refine A.emptyRow 5 2 rfl fun z0=>?_
 refine A.keep [0,1,5,6] rfl ?_
 refine A.loopP (ι:=Nat×Value) (fun u=>(⟨[(0,trA t),(1,intsA ch),(5, .ms u.2 2 (onlyT (t.take u.1) ch).length),(6,AI (u.1:Nat))],[]⟩,[.row 2 u.2 ((onlyT (t.take u.1) ch).map evA)])) (fun u=>u.1<=t.length) (fun u=>t.length-u.1) (0,z0) (Nat.zero_le _) rfl fun u hu ih=>?_
 obtain ⟨i,z⟩:=u
 simp only at hu
 have hol:(onlyT (t.take i) ch).length<=t.length:=Nat.le_trans (only_len _ _) (by rw [List.length_take];omega)
 refine y_ ?_
 by_cases hci:i<t.length
 ·refine Exists.elim (at_exN (l:=t) (i:=i) hci) fun e he=>?_
  have hs:=only_snoc t ch he
  have hh:=in19_p ch e.1 hc
  refine T_ rfl (by show decide ((i:Int)<((t.map evA).length:Int))=true;rw [nt,decide_eq_true_eq];omega) ?_
  refine i_ rfl (map_at he) rfl ?_
  refine c_ hh ?_
  by_cases hce:ch.contains e.1=true
  ·rw [if_pos hce] at hs
   refine T_ rfl hce ?_
   refine j_ rfl (map_at he) rfl ?_
   refine t_ fun bl=>?_
   refine A.appendRowE rfl rfl rfl rfl rfl rfl rfl rfl rfl rfl rfl rfl rfl rfl (by show (((onlyT (t.take i) ch).map evA).length+1)*2<=_;rw [List.length_map];omega) (by show (((onlyT (t.take i) ch).map evA).length+1)*2*16<=_;rw [List.length_map];omega) fun z2=>?_
   refine y_ ?_
   refine A.valE 6 rfl (x':=AI ((i+1:Nat):Int)) (inc_eq i (by omega)) ?_
   refine A.valE 5 rfl (x':= .ms z2 2 (onlyT (t.take (i+1)) ch).length) (by rw [hs,List.length_append,List.length_map];rfl) ?_
   refine A.entsEq (Λ':=[.row 2 z2 ((onlyT (t.take (i+1)) ch).map evA)]) (by rw [hs,List.map_append];rfl) ?_
   refine u_ (ih (i+1,z2) (by show i+1<=_;omega) (by show _-(i+1)<_-i;omega))
  ·rw [if_neg hce] at hs
   refine F_ rfl (by simpa using hce) ?_
   refine A.valE 6 rfl (x':=AI ((i+1:Nat):Int)) (inc_eq i (by omega)) ?_
   refine A.valE 5 rfl (x':= .ms z 2 (onlyT (t.take (i+1)) ch).length) (by rw [hs]) ?_
   refine A.entsEq (Λ':=[.row 2 z ((onlyT (t.take (i+1)) ch).map evA)]) (by rw [hs]) ?_
   refine u_ (ih (i+1,z) (by show i+1<=_;omega) (by show _-(i+1)<_-i;omega))
 ·refine A.gF rfl (by show decide ((i:Int)<((t.map evA).length:Int))=false;rw [nt,decide_eq_false_iff_not];omega) ?_
  clear ih
  have hie:i=t.length:=by omega
  subst hie
  refine A.valE 5 rfl (x':= .ms z 2 (onlyT t ch).length) (by rw [List.take_length]) ?_
  refine A.entsEq (Λ':=[.row 2 z ((onlyT t ch).map evA)]) (by rw [List.take_length]) ?_
  refine A.freezeRow 5 rfl ?_
  exact yr_
theorem compI_0(z:Value)(n:Nat):Fun Tryz.prog gs0 55 [.ms z 1 n] [.row 1 z []] fun y Λ'=> ∃z':Value,Sb y (.ms z' 1 0)/\Λ'=[.row 1 z' []]/\True:=by
 by_cases hn:n=0
 ·subst hn
  refine Fun.of (S:=tt) (fn:=Tryz.f55) (n:=61) tt_ok Tryz.func55 rfl rfl rfl rfl fun w0 h0 F hgs=>?_
  refine y_ ?_
  refine A.ret1 (Λ':=[.row 1 _ _]) rfl rfl rfl sl_ ⟨_, .refl,rfl,trivial⟩
 ·intro w0 h vs L F g r q
  exfalso
  rw [RpC_cons] at r
  obtain ⟨u,us,rfl,r1,r2⟩:=r
  rw [Rp_ms] at r1
  obtain ⟨rfl,a',cap',rfl⟩:=r1
  obtain ⟨M,L2,rfl,⟨p,⟨a,cap,zs,e1,e2,e3,e4,e5⟩,rfl⟩,q2⟩:=q
  injection e1 with e1 e1' e1''
  exact hn e1'
theorem compI_p(z:Value)(n:Nat)(l:List Int)(hb:l.length<=1099511627776):FunE Tryz.prog gs0 55 [.ms z 1 n] [.row 1 z (l.map AI)] (fun z':Value=> .ms z' 1 (compD l).length) (fun z'=>[.row 1 z' ((compD l).map AI)]) (fun _=>True):=by
 unfold FunE
 cases l with
 |nil=>exact compI_0 z n
 |cons x0 l0=>
 generalize hl:x0::l0=l at hb⊢
 have hne:l.map AI≠[]:=by rw [<-hl];simp
 refine Fun.row1 hne fun b o c hcap=>?_
 rw [List.length_map] at hcap⊢
 have hlm:((l.map AI).length:Int)=l.length:=by rw [List.length_map]
 have hlmN:(l.map AI).length=l.length:=List.length_map ..
 by_cases h2:l.length<2
 ·have hd:compD l=l:=by
   rw [<-hl] at h2⊢
   cases l0 with
   |nil=>rfl
   |cons y r=>simp only [List.length_cons] at h2;omega
  rw [hd]
  refine Fun.of (S:=tt) (fn:=Tryz.f55) (n:=61) tt_ok Tryz.func55 rfl rfl rfl rfl fun w0 h0 F hgs=>?_
  refine y_ ?_
  refine e_ 8 rfl (x':=AB true) (ab_eq (decide_eq_true (by omega))) ?_
  refine A.ret1 (Λ':=[.row 1 _ _]) rfl rfl rfl sl_ ⟨_, .refl,rfl,trivial⟩
 refine Fun.of (S:=tt) (fn:=Tryz.f55) (n:=61) tt_ok Tryz.func55 rfl rfl rfl rfl fun w0 h0 F hgs=>?_
 refine y_ ?_
 refine e_ 8 rfl (x':=AB false) (ab_eq (decide_eq_false (by omega))) ?_
 refine A.keep [0,3] rfl ?_
 refine A.loopP (ι:=Nat) (fun i=>(⟨[(0, .ms (.slice (some ⟨b,o,none⟩) l.length c) 1 l.length),(3,AI (i:Nat))],[]⟩,[.row 1 (.slice (some ⟨b,o,none⟩) l.length c) (l.map AI)])) (fun i=>1<=i/\i<=l.length/\compD (l.take i)=l.take i) (fun i=>l.length-i) 1 ⟨Nat.le_refl _,by omega,?_⟩ rfl fun i hi ih=>?_
 ·rw [<-hl];rfl
 obtain ⟨hi1,hi2,hi3⟩:=hi
 refine y_ ?_
 refine k_ (fun hc=>?_) fun hc=>?_
 case refine_2.refine_2=>
  have hc':i=l.length:=by have: ¬((i:Int)<l.length):=by simpa using hc
                          omega
  rw [hc',List.take_length] at hi3
  rw [hi3]
  refine y_ ?_
  refine A.ret1 (Λ':=[.row 1 _ _]) rfl rfl rfl sl_ ⟨_, .refl,rfl,trivial⟩
 have hc':i<l.length:=by have:((i:Int)<l.length):=by simpa using hc
                         omega
 clear hc
 refine Exists.elim (at_exN (l:=l) (i:=i) hc') fun y hy=>?_
 refine Exists.elim (at_exN (l:=l) (i:=i-1) (by omega)) fun x hx=>?_
 have hsub:IntKind.i64.wrap ((i:Int)-1)=((i-1:Nat):Int):=by rw [w64_id (by unfold i64;omega)];omega
 refine y_ ?_
 refine d_ 9 [0,1,2,3,4,5,6,7,8] [] ?_
 refine WA.indexRow rfl rfl rfl rfl rfl rfl rfl rfl rfl (by omega) (by rw [List.length_map];omega) rfl ?_
 refine WA.loadRow rfl rfl rfl rfl rfl rfl rfl (y':=AI y) rfl (map_at hy) rfl rfl ?_
 refine w_ ?_
 refine WA.valE 22 rfl (x':=AI ((i-1:Nat):Int)) (ai_eq hsub) ?_
 refine WA.indexRow rfl rfl rfl rfl rfl rfl rfl rfl rfl (by omega) (by rw [List.length_map];omega) rfl ?_
 refine WA.loadRow rfl rfl rfl rfl rfl rfl rfl (y':=AI x) rfl (map_at hx) rfl rfl ?_
 refine WA.nil (l:=[]) rfl ?_
 refine y_ ?_
 refine k_ (fun hc=>?_) fun hc=>?_
 case refine_2=>
  have hne':x≠y:=by intro e;subst e;simp at hc
  clear hc
  refine y_ ?_
  refine A.valE 3 rfl (x':=AI ((i+1:Nat):Int)) (inc_eq i (by omega)) ?_
  refine u_ (ih (i+1) ⟨by omega,by omega,comp_dis (by omega) hx hy hne' hi3⟩ (by omega))
 have he:y=x:=by simpa using hc
 subst he
 clear hc ih
 refine y_ ?_
 refine A.msV 26 rfl rfl ?_
 refine A.sliceV rfl rfl rfl rfl rfl rfl rfl rfl (by omega) (by omega) (by omega) (fun _=>hcap) rfl rfl ?_
 refine y_ ?_
 refine A.valE 4 rfl (x':= .v (.slice (some ⟨b,o+i*1,none⟩) (l.length-i) (c-i))) (congrArg AV.v (by simp only [partV];rw [Int.toNat_natCast,Int.toNat_natCast,if_neg (by omega)];simp only [Option.map_some];rw [add_norm];rfl)) ?_
 refine A.keep [0,3,4,5] rfl ?_
 refine A.loopP (ι:=Nat×Nat×List Int) (fun j=>(⟨[(0, .ms (.slice (some ⟨b,o,none⟩) l.length c) 1 l.length),(3,AI (j.2.1:Nat)),(4, .v (.slice (some ⟨b,o+i*1,none⟩) (l.length-i) (c-i))),(5,AI (j.1:Nat))],[]⟩,[.row 1 (.slice (some ⟨b,o,none⟩) l.length c) (j.2.2.map AI)])) (fun j=>1<=j.1/\i+j.1<=l.length/\CompI l j.2.2 (i+j.1) j.2.1) (fun j=>l.length-j.1) (1,i,l) ⟨Nat.le_refl _,by show i+1<=_;omega, .start (by omega) hx hy hi3⟩ rfl fun j hj ih=>?_
 obtain ⟨m,k,r⟩:=j
 obtain ⟨hj1,hj2,hj3⟩:=hj
 simp only at hj1 hj2 hj3 ih⊢
 have hrl:=hj3.len
 have hkm:=hj3.lt
 have hlr:((r.map AI).length:Int)=l.length:=by rw [List.length_map,hrl]
 refine y_ ?_
 refine k_ (fun hc=>?_) fun hc=>?_
 case refine_2=>
  have hc':i+m=l.length:=by have: ¬((m:Int)<((l.length-i:Nat):Int)):=by simpa using hc
                            omega
  clear hc ih
  rw [hc'] at hj3
  have hout:=hj3.out
  rw [List.take_length] at hout
  have hkl:=hj3.kl
  rw [List.take_length] at hkl
  have hk0:0<k:=by
   rcases Nat.eq_zero_or_pos k with h|h
   ·exact (comp_pos l (by intro e;rw [e] at hc';simp at hc';omega) (List.eq_nil_of_length_eq_zero (hkl.trans h))).elim
   ·exact h
  refine y_ ?_
  refine A.msV 54 rfl rfl ?_
  refine A.sliceV rfl rfl rfl rfl rfl rfl rfl rfl (by omega) (by omega) (by omega) (fun _=>hcap) rfl rfl ?_
  refine A.valE 56 rfl (x':= .v (.slice (some ⟨b,o+k*1,none⟩) (l.length-k) (c-k))) (congrArg AV.v (by simp only [partV];rw [Int.toNat_natCast,Int.toNat_natCast,if_neg (by omega)];simp only [Option.map_some];rw [add_norm];rfl)) ?_
  refine A.clearRow (off:=o) (n:=l.length) (c:=c) k rfl rfl rfl rfl rfl rfl (xs':=(compD l).map AI++List.replicate (l.length-k) (AI 0)) rfl rfl rfl (by rw [List.length_map];omega) (by omega) rfl (fun h=>⟨.int .i64 0,Rp_v.2 ⟨rfl,rfl⟩,rfl⟩) (by rw [<-List.map_take,hout]) rfl ?_
  refine y_ ?_
  refine A.msV 57 rfl rfl ?_
  refine A.sliceV rfl rfl rfl rfl rfl rfl rfl rfl (by decide) (by omega) (by omega) (fun h=>by cases h) rfl rfl ?_
  refine A.valE 59 rfl (x':= .v (.slice (some ⟨b,o,none⟩) k c)) (congrArg AV.v (by simp only [partV];rw [Int.toNat_natCast];simp [add_norm])) ?_
  refine A.vMs 59 1 rfl ?_
  refine A.rowCut (sz:=1) (a:=some ⟨b,o,none⟩) (n:=l.length) (c:=c) k (l1:=(compD l).map AI) (l2:=List.replicate (l.length-k) (AI 0)) rfl (by rw [List.length_map,hkl]) (by simp [comp_pos l (by intro e;rw [e] at hc';simp at hc';omega)]) ?_
  refine y_ ?_
  rw [hkl]
  refine A.ret1 (Λ':=[.row 1 _ _]) rfl rfl rfl sl_ ⟨_, .refl,rfl,trivial⟩
 have hc':i+m<l.length:=by have:((m:Int)<((l.length-i:Nat):Int)):=by simpa using hc
                           omega
 clear hc
 refine Exists.elim (at_exN (l:=l) (i:=i+m) hc') fun v hv=>?_
 refine Exists.elim (at_exN (l:=l) (i:=i+m-1) (by omega)) fun u hu=>?_
 have hrv:r[i+m]? =some v:=(hj3.rest _ (by omega)).trans hv
 have hru:r[i+(m-1)]? =some u:=by rw [show i+(m-1)=i+m-1 by omega];exact (hj3.rest _ (by omega)).trans hu
 have hsub':IntKind.i64.wrap ((m:Int)-1)=((m-1:Nat):Int):=by rw [w64_id (by unfold i64;omega)];omega
 refine y_ ?_
 refine d_ 9 [0,1,2,3,4,5,6,7,8] [] ?_
 refine WA.indexPart (off:=o) (n:=l.length) (c:=c) i rfl rfl rfl rfl rfl rfl rfl rfl rfl rfl (by omega) (by omega) (by omega) rfl ?_
 refine WA.loadRow rfl rfl rfl rfl rfl rfl rfl (y':=AI v) rfl (map_at hrv) rfl rfl ?_
 refine w_ ?_
 refine WA.valE 41 rfl (x':=AI ((m-1:Nat):Int)) (ai_eq hsub') ?_
 refine WA.indexPart (off:=o) (n:=l.length) (c:=c) i rfl rfl rfl rfl rfl rfl rfl rfl rfl rfl (by omega) (by omega) (by omega) rfl ?_
 refine WA.loadRow rfl rfl rfl rfl rfl rfl rfl (y':=AI u) rfl (map_at hru) rfl rfl ?_
 refine WA.nil (l:=[]) rfl ?_
 refine y_ ?_
 refine k_ (fun hc=>?_) fun hc=>?_
 case refine_2=>
  have he':v=u:=by simpa using hc
  subst he'
  clear hc
  refine y_ ?_
  refine A.valE 5 rfl (x':=AI ((m+1:Nat):Int)) (inc_eq m (by omega)) ?_
  refine u_ (ih (m+1,k,r) ⟨by omega,by show i+(m+1)<=_;omega,by show CompI l r (i+(m+1)) k;exact hj3.same (by omega) hu hv⟩ (by show l.length-(m+1)<l.length-m;omega))
 have hne':u≠v:=by intro e;subst e;simp at hc
 clear hc
 refine y_ ?_
 refine A.indexPart (off:=o) (n:=l.length) (c:=c) i rfl rfl rfl rfl rfl rfl rfl rfl rfl (by omega) (by omega) (by omega) rfl ?_
 refine A.loadRow rfl rfl rfl rfl rfl rfl (y':=AI v) rfl (map_at hrv) rfl rfl ?_
 refine A.indexRow rfl rfl rfl rfl rfl rfl rfl rfl (by omega) (by rw [List.length_map];omega) rfl ?_
 refine A.storeRow rfl rfl rfl rfl rfl rfl rfl rfl rfl (by rw [List.length_map];omega) (xs':=(r.set k v).map AI) List.map_set.symm ?_
 refine y_ ?_
 refine A.valE 3 rfl (x':=AI ((k+1:Nat):Int)) (inc_eq k (by omega)) ?_
 refine A.valE 5 rfl (x':=AI ((m+1:Nat):Int)) (inc_eq m (by omega)) ?_
 refine u_ (ih (m+1,k+1,r.set k v) ⟨by omega,by show i+(m+1)<=_;omega,by show CompI l (r.set k v) (i+(m+1)) (k+1);exact hj3.put (by omega) hu hv hne'⟩ (by show l.length-(m+1)<l.length-m;omega))
end Go.Proofs.YtkbolbpojpmicaaGreat
namespace Go.Tp
open Go Go.RowKit
abbrev aI19(n:Int):AV:= .v (.int .i64 n)
theorem RpC_ints{h:GH}: ∀{l:List Int} {zs:List Value},RpC h (l.map aI19) zs->zs=l.map (Value.int .i64)
 | [],zs,r=>by rw [List.map_nil,RpC_nil] at r;rw [r];rfl
 |x::l,zs,r=>by
  rw [List.map_cons,RpC_cons] at r
  obtain ⟨v,vs,rfl,r1,r2⟩:=r
  rw [Rp_v] at r1
  rw [r1.1,RpC_ints r2];rfl
theorem ints_RpC(h:GH): ∀l:List Int,RpC h (l.map aI19) (l.map (Value.int .i64))
 | []=>RpC_nil.2 rfl
 |x::l=>RpC_cons.2 ⟨_,_,rfl,Rp_v.2 ⟨rfl,rfl⟩,ints_RpC h l⟩
section
variable{P:Program}{gs:Ua}{ρ:Shelf.Ren}
theorem catL_ints: ∀l:List Int,catL (l.map (Value.int .i64))=l.map (Value.int .i64)
 | []=>rfl
 |x::l=>by show cellsL _++catL (l.map _)=_;rw [cellsL_one (show oneC (Value.int .i64 x)=true from rfl),catL_ints l];rfl
theorem sortInts_fun(L:Go.Proofs.Lays.n189 P ρ)(hfn: ∃g c,P.funcs[ρ.f 189]? =some g/\g.body=some c/\(g.name== "runtime.NumGoroutine")=false)(z:Value)(n:Nat)(ks:List Int)(hsz:ks.length<4611686018427387904):
 Fun P gs (ρ.f 189) [.ms z 1 n] [.row 1 z (ks.map aI19)] fun y Λ'=>y= .tp []/\Λ'=[.row 1 z ((ks.mergeSort fun x y=>decide (x<=y)).map aI19)]:=by
 intro w0 h vs LL F hg r q
 rw [RpC_cons] at r
 obtain ⟨u,us,rfl,r1,r3⟩:=r
 rw [RpC_nil] at r3;subst r3
 rw [Rp_ms] at r1
 obtain ⟨rfl,_⟩:=r1
 obtain ⟨M,L2,rfl,⟨p,hrow,rfl⟩,q2⟩:=q
 have q2:L2=[]:=q2
 subst q2
 refine ⟨hfn,fun w s=>?_⟩
 have hrow':=hrow
 obtain ⟨a,cap,zs,e1,e2,e3,e4,e5⟩:=hrow
 rw [List.length_map] at e1 e2
 subst e1
 have hzs:=RpC_ints e3.rp
 subst hzs
 by_cases hn:0<ks.length
 ·rcases e5 with ⟨e5,_⟩|⟨b,o,sp,rfl,rfl,e6⟩
  ·simp at e5;subst e5;simp at hn
  have hcz:=catL_ints ks
  have hH:Sort.Holds (Value.int .i64) w b o ks.toArray:=by
   intro j hj
   have hj:j<ks.length:=by simpa using hj
   have kk:=s.own _ (List.mem_cons_self ..)
   have hv:(ks.map (Value.int .i64))[j]? =some (Value.int .i64 ks.toArray[j]!):=by
    rw [List.getElem?_map,List.getElem?_eq_getElem hj,getElem!_pos ks.toArray j (by simpa using hj)];simp
   exact ⟨kk.cell j _ (by show (catL (ks.map (Value.int .i64))++sp)[j]? =_;rw [hcz,List.getElem?_append_left (by simpa using hj)];exact hv),kk.warm j (by show j<(catL (ks.map (Value.int .i64))++sp).length;rw [hcz,List.length_append,List.length_map];omega)⟩
  have hcall:=Go.Proofs.Any.slices_Sort_int L b o cap ks w hH (lt_of_cell (hH 0 (by simpa using hn)).1) hsz
  refine hcall.mono fun e w' ⟨he,m,os,h3⟩=>?_
  subst h3
  have hml:(ks.mergeSort fun x y=>decide (x<=y)).length=ks.length:=List.length_mergeSort _
  have hst:=s.sorted (enc:=Value.int .i64) (d:=ks.toArray) (d':=(ks.mergeSort fun x y=>decide (x<=y)).toArray) (n:=m) (os:=os) (by rw [hcz,List.length_append,List.length_map];simp) (by simpa using hn) hH (by simp [hml]) (fun j hj=>rfl)
  have e7:(catL (ks.map (Value.int .i64))++sp).drop ks.toArray.size=sp:=by
   rw [hcz,List.drop_left' (by simp)]
  rw [e7] at hst
  refine ⟨_,h,_,he,⟨.tp [],[.row 1 _ ((ks.mergeSort fun x y=>decide (x<=y)).map aI19)],_,⟨rfl,rfl⟩,?_,GH.le_refl _,⟨[_],[],rfl,⟨_,⟨some ⟨b,o,none⟩,cap,(ks.mergeSort fun x y=>decide (x<=y)).map (Value.int .i64),?_,?_,⟨?_,?_,?_⟩,rfl, .inr ⟨b,o,sp,rfl,rfl,?_⟩⟩,rfl⟩,rfl⟩,rfl⟩,?_⟩
  ·rw [Rp_tp];exact ⟨[],rfl,RpC_nil.2 rfl⟩
  ·rw [List.length_map,hml]
  ·rw [List.length_map,hml];exact e2
  ·exact ints_RpC h _
  ·intro z hz';obtain ⟨i,_,rfl⟩:=List.mem_map.1 hz';rfl
  ·intro z hz';obtain ⟨i,_,rfl⟩:=List.mem_map.1 hz';rfl
  ·rw [e6,List.length_map,List.length_map,hml]
  ·rw [catL_ints];exact hst
 ·have hk0:ks=[]:=List.eq_nil_of_length_eq_zero (by omega)
  subst hk0
  refine (Go.Proofs.Any.slices_Sort_int_none L a cap w).mono fun e w' ⟨he,hw⟩=>?_
  subst hw
  exact ⟨_,h,_,he,⟨.tp [],[.row 1 _ []],_,⟨rfl,by rw [List.mergeSort_nil];rfl⟩,Rp_tp.2 ⟨[],rfl,RpC_nil.2 rfl⟩,GH.le_refl _,⟨[p],[],rfl,⟨p,hrow',rfl⟩,rfl⟩,rfl⟩,s⟩
end
end Go.Tp
namespace Go.Proofs
open Go.Shelf
def Tryz.lays189_ren:Go.Shelf.Ren:=⟨fun|189=>54|125=>94|257=>96|128=>163|129=>164|294=>165|295=>166|296=>167|297=>168|298=>169|299=>170|216=>171|300=>172|301=>173|328=>239|329=>235|330=>236|331=>240|332=>241|215=>188|343=>294|n=>n,fun|28=>32|3=>3|46=>167|0=>0|51=>234|53=>236|4=>4|183=>228|182=>227|131=>143|5=>5|9=>9|218=>315|222=>319|228=>354|229=>355|n=>n,fun|n=>n⟩
theorem Tryz.lays189:Go.Proofs.Lays.n189 Tryz.prog Tryz.lays189_ren:={
 mixed:=by kernel_rfl
 f125:=Tryz.func94.trans (congrArg some (by kernel_rfl))
 f128:=Tryz.func163.trans (congrArg some (by kernel_rfl))
 f129:=Tryz.func164.trans (congrArg some (by kernel_rfl))
 f189:=Tryz.func54.trans (congrArg some (by kernel_rfl))
 f215:=Tryz.func188.trans (congrArg some (by kernel_rfl))
 f216:=Tryz.func171.trans (congrArg some (by kernel_rfl))
 f257:=Tryz.func96.trans (congrArg some (by kernel_rfl))
 f294:=Tryz.func165.trans (congrArg some (by kernel_rfl))
 f295:=Tryz.func166.trans (congrArg some (by kernel_rfl))
 f296:=Tryz.func167.trans (congrArg some (by kernel_rfl))
 f297:=Tryz.func168.trans (congrArg some (by kernel_rfl))
 f298:=Tryz.func169.trans (congrArg some (by kernel_rfl))
 f299:=Tryz.func170.trans (congrArg some (by kernel_rfl))
 f300:=Tryz.func172.trans (congrArg some (by kernel_rfl))
 f301:=Tryz.func173.trans (congrArg some (by kernel_rfl))
 f328:=Tryz.func239.trans (congrArg some (by kernel_rfl))
 f329:=Tryz.func235.trans (congrArg some (by kernel_rfl))
 f330:=Tryz.func236.trans (congrArg some (by kernel_rfl))
 f331:=Tryz.func240.trans (congrArg some (by kernel_rfl))
 f332:=Tryz.func241.trans (congrArg some (by kernel_rfl))
 f343:=Tryz.func294.trans (congrArg some (by kernel_rfl))
 t0:=Tryz.underlying0
 a0:=Tryz.isAgg0
 z0:=Tryz.sizeOf0
 v0:=Tryz.zeroValue0
 t3:=Tryz.underlying3
 a3:=Tryz.isAgg3
 z3:=Tryz.sizeOf3
 v3:=Tryz.zeroValue3
 t4:=Tryz.underlying4
 a4:=Tryz.isAgg4
 z4:=Tryz.sizeOf4
 v4:=Tryz.zeroValue4
 t5:=Tryz.underlying5
 a5:=Tryz.isAgg5
 z5:=Tryz.sizeOf5
 v5:=Tryz.zeroValue5
 t9:=Tryz.underlying9
 a9:=Tryz.isAgg9
 z9:=Tryz.sizeOf9
 v9:=Tryz.zeroValue9
 t28:=Tryz.underlying32
 a28:=Tryz.isAgg32
 z28:=Tryz.sizeOf32
 v28:=Tryz.zeroValue32
 t46:=Tryz.underlying167
 a46:=Tryz.isAgg167
 z46:=Tryz.sizeOf167
 v46:=Tryz.zeroValue167
 t51:=Tryz.underlying234
 a51:=Tryz.isAgg234
 z51:=Tryz.sizeOf234
 v51:=Tryz.zeroValue234
 t53:=Tryz.underlying236
 a53:=Tryz.isAgg236
 z53:=Tryz.sizeOf236
 v53:=Tryz.zeroValue236
 t131:=Tryz.underlying143
 a131:=Tryz.isAgg143
 z131:=Tryz.sizeOf143
 v131:=Tryz.zeroValue143
 t182:=Tryz.underlying227
 a182:=Tryz.isAgg227
 z182:=Tryz.sizeOf227
 v182:=Tryz.zeroValue227
 t183:=Tryz.underlying228
 a183:=Tryz.isAgg228
 z183:=Tryz.sizeOf228
 v183:=Tryz.zeroValue228
 t218:=Tryz.underlying315
 a218:=Tryz.isAgg315
 z218:=Tryz.sizeOf315
 v218:=Tryz.zeroValue315
 t222:=Tryz.underlying319
 a222:=Tryz.isAgg319
 z222:=Tryz.sizeOf319
 v222:=Tryz.zeroValue319
 t228:=Tryz.underlying354
 a228:=Tryz.isAgg354
 z228:=Tryz.sizeOf354
 v228:=Tryz.zeroValue354
 t229:=Tryz.underlying355
 a229:=Tryz.isAgg355
 z229:=Tryz.sizeOf355
 v229:=Tryz.zeroValue355}
end Go.Proofs
namespace Go.Proofs.YtkbolbpojpmicaaGreat
open Go Go.Tp
abbrev yC(b:Nat):AV:= .fn 53 [] [ptrA b]
abbrev chL(b:Nat)(z:Value)(l:List Int):List AEnt:=[.box b (.ms z 1 l.length), .row 1 z (l.map AI)]
theorem nil_ms19{h:GH}(sz:Nat){y:Value}(r:Rp h (.v (.slice none 0 0)) y):Rp h (.ms (.slice none 0 0) sz 0) y:=by
 rw [Rp_v] at r;rw [r.1];exact Rp_ms.2 ⟨rfl,none,0,rfl⟩
theorem push_p(b:Nat)(z:Value)(l:List Int)(c:Int)(hl:l.length<=1048576):FunE Tryz.prog gs0 53 [AI c,ptrA b] (chL b z l) (fun _:Value=> .tp []) (fun z'=>chL b z' (l++[c])) (fun _=>True):=by
 unfold FunE
 refine Fun.of (S:=tt) (fn:=Tryz.f53) (n:=7) tt_ok Tryz.func53 rfl rfl rfl rfl fun w0 h0 F hgs=>?_
 refine t_ fun bl=>?_
 refine A.appendRowE rfl rfl rfl rfl rfl rfl rfl rfl rfl rfl rfl rfl rfl rfl (by show ((l.map AI).length+1)*1<=_;rw [List.length_map];omega) (by show ((l.map AI).length+1)*1*8<=_;rw [List.length_map];omega) fun z2=>?_
 refine y_ ?_
 refine A.perm (.swap _ _ _) ?_
 refine A.entsEq (Λ':=chL b z2 (l++[c])) (by
  show [AEnt.box b (.ms z2 1 ((l.map AI).length+1)), .row 1 z2 (l.map AI++[AI c])]=[.box b (.ms z2 1 (l++[c]).length), .row 1 z2 ((l++[c]).map AI)]
  rw [List.length_map,List.length_append,List.map_append];rfl) ?_
 exact A.ret0 rfl rfl (.refl _) ⟨z2, .refl,rfl,trivial⟩
theorem rawCl_app: ∀a b:List PR,rawCl (a++b)=rawCl a++rawCl b
 | [],b=>by rw [rawCl];rfl
 |x::a,b=>by rw [List.cons_append,rawCl,rawCl,rawCl_app a b,List.append_assoc]
theorem rawCg_app: ∀a b:List GD,rawCg (a++b)=rawCg a++rawCg b
 | [],b=>by rw [rawCg];rfl
 |⟨k,cd,c,it,to,tm,bd⟩::a,b=>by rw [List.cons_append,rawCg,rawCg,rawCg_app a b];simp only [List.append_assoc]
theorem rawCg_one(g:GD):rawCg [g]=(if g.kind=3 then [g.c] else [])++rawCl g.body:=by
 obtain ⟨k,cd,c,it,to,tm,bd⟩:=g
 rw [rawCg,rawCg,List.append_nil]
theorem rawCl_take{l:List PR}{i:Nat}{x:PR}(h:l[i]? =some x):rawCl (l.take (i+1))=rawCl (l.take i)++rawC x:=by
 rw [List.take_add_one,h,rawCl_app]
 show _++rawCl [x]=_
 rw [rawCl,rawCl,List.append_nil]
theorem rawCg_take{l:List GD}{i:Nat}{g:GD}(h:l[i]? =some g):rawCg (l.take (i+1))=rawCg (l.take i)++((if g.kind=3 then [g.c] else [])++rawCl g.body):=by
 rw [List.take_add_one,h,rawCg_app]
 show _++rawCg [g]=_
 rw [rawCg_one]
theorem rawCl_pre(l:List PR)(i:Nat):(rawCl (l.take i)).length<=(rawCl l).length:=by
 have:=rawCl_app (l.take i) (l.drop i)
 rw [List.take_append_drop] at this
 rw [this,List.length_append];omega
theorem rawCg_pre(l:List GD)(i:Nat):(rawCg (l.take i)).length<=(rawCg l).length:=by
 have:=rawCg_app (l.take i) (l.drop i)
 rw [List.take_append_drop] at this
 rw [this,List.length_append];omega
abbrev WalkC(p:PR):Prop:= ∀(b:Nat) (z:Value) (l:List Int),l.length+(rawC p).length<=1048576->FunE Tryz.prog gs0 52 [cellsR p,yC b] (chL b z l) (fun _:Value=> .tp []) (fun z'=>chL b z' (l++rawC p)) (fun _=>True)
theorem walk_f(p:PR)(hs:smR p)(hl: ∀x,x∈p.l->WalkC x)(hg': ∀g,g∈p.gs-> ∀x,x∈g.body->WalkC x):WalkC p:=by
 have hsa:=smR_all hs
 have hll:=hsa.ll
 have hgl:=hsa.gl
 have n1:((encRl p.l).length:Int)=p.l.length:=by rw [encRl_len]
 have n2:((encGl p.gs).length:Int)=p.gs.length:=by rw [encGl_len]
 intro b z0 l hbn
 have hrc:=rawC_eq p
 have hbn':=hbn
 rw [hrc,List.length_append,List.length_append] at hbn'
 unfold FunE
 by_cases h5:p.kind=5
 ·rw [if_pos (.inl h5)] at hrc hbn'
  have hpu:=push_p b z0 l p.c (by omega)
  refine Exists.elim (show∃l1,l1=l++[p.c] from ⟨_,rfl⟩) fun l1 hl1=>?_
  have hl1n:l1.length+((rawCl p.l).length+(rawCg p.gs).length)<=1048576:=by rw [hl1,List.length_append];omega
  have hfin:l++rawC p=l1++(rawCl p.l++rawCg p.gs):=by rw [hrc,hl1,List.append_assoc]
  rw [<-hl1] at hpu
  refine Fun.of (S:=tt) (fn:=Tryz.f52) (n:=59) tt_ok Tryz.func52 rfl rfl rfl rfl fun w0 h0 F hgs=>?_
  (repeat refine A.s rfl ?_)
  refine A.b rfl fun bx=>?_
  refine y_ ?_
  refine e_ 13 rfl (x':=AB true) (ab_eq (by rw [h5];rfl)) ?_
  refine A.e rfl hpu s_ (Λ2:=[.box bx (cellsR p)]) (List.perm_append_comm (l₁:=[_])) fun z1 _=>?_
  refine A.perm (Λ':= .box bx (cellsR p)::chL b z1 l1) (List.perm_append_comm (l₂:=[_])) ?_
  refine A.freeze 2 (sz:=8) rfl rfl rfl ?_
  refine l_ (Λ':=chL b z1 l1) ?_
  refine y_ ?_
  refine A.valE 24 rfl (x':=AI (p.l.length:Nat)) (ai_eq n1) ?_
  refine A.keep [1,2,23,24,25] rfl ?_
  refine A.loopP (ι:=Nat×Value) (fun v=>(⟨[(1,yC b),(2, .pe 8 (cellsR p)),(23,rsA p.l),(24,AI (p.l.length:Nat)),(25,AI (v.1:Nat))],[]⟩,chL b v.2 (l1++rawCl (p.l.take v.1)))) (fun v=>v.1<=p.l.length) (fun v=>p.l.length-v.1) (0,z1) (Nat.zero_le _) (by
   show (_,chL b z1 (l1++rawCl (p.l.take 0)))=_
   rw [List.take_zero,rawCl,List.append_nil];rfl) fun v hv ih=>?_
  obtain ⟨i,z⟩:=v
  simp only at hv
  refine y_ ?_
  by_cases hci:i<p.l.length
  ·refine Exists.elim (at_exN (l:=p.l) (i:=i) hci) fun x hx=>?_
   have htk:=rawCl_take hx
   have hpr:=rawCl_pre p.l (i+1)
   rw [htk,List.length_append] at hpr
   have hcall:=hl x (List.mem_of_getElem? hx) b z (l1++rawCl (p.l.take i)) (by rw [List.length_append];omega)
   rw [List.append_assoc,<-htk] at hcall
   refine T_ rfl (by show decide ((i:Int)<(p.l.length:Nat))=true;rw [decide_eq_true_eq];omega) ?_
   refine j_ rfl (encRl_at hx) (encR_eq x) ?_
   (repeat refine A.s rfl ?_)
   refine A.b rfl fun b5=>?_
   refine y_ ?_
   refine A.less (Λ':=chL b z (l1++rawCl (p.l.take i))) (.cons _ (.refl _)) ?_
   refine A.e rfl hcall s_ (Λ2:=[]) (by rw [List.append_nil]) fun z' _=>?_
   refine y_ ?_
   refine A.entsEq (List.append_nil _) ?_
   refine A.valE 25 rfl (x':=AI ((i+1:Nat):Int)) (inc_eq i (by omega)) ?_
   refine u_ (ih (i+1,z') (by show i+1<=_;omega) (by show _-(i+1)<_-i;omega))
  ·refine A.gF rfl (by show decide ((i:Int)<(p.l.length:Nat))=false;rw [decide_eq_false_iff_not];omega) ?_
   have htl:p.l.take i=p.l:=List.take_of_length_le (by omega)
   clear ih
   refine Exists.elim (show∃l2,l2=l1++rawCl p.l from ⟨_,rfl⟩) fun l2 hl2=>?_
   have hl2n:l2.length+(rawCg p.gs).length<=1048576:=by rw [hl2,List.length_append];omega
   refine A.entsEq (Λ':=chL b z l2) (by rw [hl2];show chL b z (l1++rawCl (p.l.take i))=_;rw [htl]) ?_
   refine y_ ?_
   refine A.valE 35 rfl (x':=AI (p.gs.length:Nat)) (ai_eq n2) ?_
   refine A.keep [1,2,34,35,36] rfl ?_
   refine A.loopP (ι:=Nat×Value) (fun v=>(⟨[(1,yC b),(2, .pe 8 (cellsR p)),(34,gsA p.gs),(35,AI (p.gs.length:Nat)),(36,AI (v.1:Nat))],[]⟩,chL b v.2 (l2++rawCg (p.gs.take v.1)))) (fun v=>v.1<=p.gs.length) (fun v=>p.gs.length-v.1) (0,z) (Nat.zero_le _) (by
    show (_,chL b z (l2++rawCg (p.gs.take 0)))=_
    rw [List.take_zero,rawCg,List.append_nil];rfl) fun v hv ih=>?_
   obtain ⟨j,z2⟩:=v
   simp only at hv
   refine y_ ?_
   by_cases hcj:j<p.gs.length
   ·refine Exists.elim (at_exN (l:=p.gs) (i:=j) hcj) fun g hg=>?_
    have hgm:=List.mem_of_getElem? hg
    have hgk:=rawCg_take hg
    have hgp:=rawCg_pre p.gs (j+1)
    rw [hgk,List.length_append,List.length_append] at hgp
    have n3:((encRl g.body).length:Int)=g.body.length:=by rw [encRl_len]
    have hbl:=(smG_all (hsa.g g hgm)).bl
    refine T_ rfl (by show decide ((j:Int)<(p.gs.length:Nat))=true;rw [decide_eq_true_eq];omega) ?_
    refine j_ rfl (encGl_at hg) (encG_eq g) ?_
    (repeat refine A.s rfl ?_)
    refine A.b rfl fun b7=>?_
    refine y_ ?_
    refine A.freeze 7 (sz:=18) rfl rfl rfl ?_
    refine l_ (Λ':=chL b z2 (l2++rawCg (p.gs.take j))) ?_
    by_cases hk3:g.kind=3
    ·rw [if_pos hk3] at hgk hgp
     simp only [List.length_cons,List.length_nil] at hgp
     have hpu:=push_p b z2 (l2++rawCg (p.gs.take j)) g.c (by rw [List.length_append];omega)
     refine Exists.elim (show∃l3,l3=l2++rawCg (p.gs.take j)++[g.c] from ⟨_,rfl⟩) fun l3 hl3=>?_
     have hl3n:l3.length+(rawCl g.body).length<=1048576:=by rw [hl3,List.length_append,List.length_append,List.length_singleton];omega
     have hl3e:l2++rawCg (p.gs.take (j+1))=l3++rawCl g.body:=by rw [hgk,hl3];simp
     rw [<-hl3] at hpu
     refine T_ rfl (by show (g.kind==3)=true;simpa using hk3) ?_
     refine A.e rfl hpu s_ (Λ2:=[]) (by rw [List.append_nil]) fun z3 _=>?_
     refine A.entsEq (List.append_nil _) ?_
     refine y_ ?_
     refine A.valE 49 rfl (x':=AI (g.body.length:Nat)) (ai_eq n3) ?_
     refine A.keep [1,2,34,35,36,48,49,50] rfl ?_
     refine A.loopP (ι:=Nat×Value) (fun v=>(⟨[(1,yC b),(2, .pe 8 (cellsR p)),(34,gsA p.gs),(35,AI (p.gs.length:Nat)),(36,AI (j:Nat)),(48,rsA g.body),(49,AI (g.body.length:Nat)),(50,AI (v.1:Nat))],[]⟩,chL b v.2 (l3++rawCl (g.body.take v.1)))) (fun v=>v.1<=g.body.length) (fun v=>g.body.length-v.1) (0,z3) (Nat.zero_le _) (by
      show (_,chL b z3 (l3++rawCl (g.body.take 0)))=_
      rw [List.take_zero,rawCl,List.append_nil];rfl) fun v hv jh=>?_
     obtain ⟨k,z4⟩:=v
     simp only at hv
     refine y_ ?_
     by_cases hck:k<g.body.length
     ·refine Exists.elim (at_exN (l:=g.body) (i:=k) hck) fun x hx=>?_
      have htk:=rawCl_take hx
      have hpr:=rawCl_pre g.body (k+1)
      rw [htk,List.length_append] at hpr
      have hcall:=hg' g hgm x (List.mem_of_getElem? hx) b z4 (l3++rawCl (g.body.take k)) (by rw [List.length_append];omega)
      rw [List.append_assoc,<-htk] at hcall
      refine T_ rfl (by show decide ((k:Int)<(g.body.length:Nat))=true;rw [decide_eq_true_eq];omega) ?_
      refine j_ rfl (encRl_at hx) (encR_eq x) ?_
      (repeat refine A.s rfl ?_)
      refine A.b rfl fun b9=>?_
      refine y_ ?_
      refine A.less (Λ':=chL b z4 (l3++rawCl (g.body.take k))) (.cons _ (.refl _)) ?_
      refine A.e rfl hcall s_ (Λ2:=[]) (by rw [List.append_nil]) fun z' _=>?_
      refine y_ ?_
      refine A.entsEq (List.append_nil _) ?_
      refine A.valE 50 rfl (x':=AI ((k+1:Nat):Int)) (inc_eq k (by omega)) ?_
      refine u_ (jh (k+1,z') (by show k+1<=_;omega) (by show _-(k+1)<_-k;omega))
     ·refine A.gF rfl (by show decide ((k:Int)<(g.body.length:Nat))=false;rw [decide_eq_false_iff_not];omega) ?_
      have htb:g.body.take k=g.body:=List.take_of_length_le (by omega)
      refine A.entsEq (Λ':=chL b z4 (l2++rawCg (p.gs.take (j+1)))) (by rw [hl3e];show chL b z4 (l3++rawCl (g.body.take k))=_;rw [htb]) ?_
      refine y_ ?_
      refine A.valE 36 rfl (x':=AI ((j+1:Nat):Int)) (inc_eq j (by omega)) ?_
      refine u_ (ih (j+1,z4) (by show j+1<=_;omega) (by show _-(j+1)<_-j;omega))
    ·rw [if_neg hk3] at hgk hgp
     refine Exists.elim (show∃l3,l3=l2++rawCg (p.gs.take j) from ⟨_,rfl⟩) fun l3 hl3=>?_
     refine Exists.elim (show∃z3,z3=z2 from ⟨_,rfl⟩) fun z3 hz3=>?_
     have hl3n:l3.length+(rawCl g.body).length<=1048576:=by rw [hl3,List.length_append];simp only [List.length_nil] at hgp;omega
     have hl3e:l2++rawCg (p.gs.take (j+1))=l3++rawCl g.body:=by rw [hgk,hl3];simp
     refine A.gF rfl (by show (g.kind==3)=false;simpa using hk3) ?_
     refine A.entsEq (Λ':=chL b z3 l3) (by rw [hl3,hz3]) ?_
     refine y_ ?_
     refine A.valE 49 rfl (x':=AI (g.body.length:Nat)) (ai_eq n3) ?_
     refine A.keep [1,2,34,35,36,48,49,50] rfl ?_
     refine A.loopP (ι:=Nat×Value) (fun v=>(⟨[(1,yC b),(2, .pe 8 (cellsR p)),(34,gsA p.gs),(35,AI (p.gs.length:Nat)),(36,AI (j:Nat)),(48,rsA g.body),(49,AI (g.body.length:Nat)),(50,AI (v.1:Nat))],[]⟩,chL b v.2 (l3++rawCl (g.body.take v.1)))) (fun v=>v.1<=g.body.length) (fun v=>g.body.length-v.1) (0,z3) (Nat.zero_le _) (by
      show (_,chL b z3 (l3++rawCl (g.body.take 0)))=_
      rw [List.take_zero,rawCl,List.append_nil];rfl) fun v hv jh=>?_
     obtain ⟨k,z4⟩:=v
     simp only at hv
     refine y_ ?_
     by_cases hck:k<g.body.length
     ·refine Exists.elim (at_exN (l:=g.body) (i:=k) hck) fun x hx=>?_
      have htk:=rawCl_take hx
      have hpr:=rawCl_pre g.body (k+1)
      rw [htk,List.length_append] at hpr
      have hcall:=hg' g hgm x (List.mem_of_getElem? hx) b z4 (l3++rawCl (g.body.take k)) (by rw [List.length_append];omega)
      rw [List.append_assoc,<-htk] at hcall
      refine T_ rfl (by show decide ((k:Int)<(g.body.length:Nat))=true;rw [decide_eq_true_eq];omega) ?_
      refine j_ rfl (encRl_at hx) (encR_eq x) ?_
      (repeat refine A.s rfl ?_)
      refine A.b rfl fun b9=>?_
      refine y_ ?_
      refine A.less (Λ':=chL b z4 (l3++rawCl (g.body.take k))) (.cons _ (.refl _)) ?_
      refine A.e rfl hcall s_ (Λ2:=[]) (by rw [List.append_nil]) fun z' _=>?_
      refine y_ ?_
      refine A.entsEq (List.append_nil _) ?_
      refine A.valE 50 rfl (x':=AI ((k+1:Nat):Int)) (inc_eq k (by omega)) ?_
      refine u_ (jh (k+1,z') (by show k+1<=_;omega) (by show _-(k+1)<_-k;omega))
     ·refine A.gF rfl (by show decide ((k:Int)<(g.body.length:Nat))=false;rw [decide_eq_false_iff_not];omega) ?_
      have htb:g.body.take k=g.body:=List.take_of_length_le (by omega)
      refine A.entsEq (Λ':=chL b z4 (l2++rawCg (p.gs.take (j+1)))) (by rw [hl3e];show chL b z4 (l3++rawCl (g.body.take k))=_;rw [htb]) ?_
      refine y_ ?_
      refine A.valE 36 rfl (x':=AI ((j+1:Nat):Int)) (inc_eq j (by omega)) ?_
      refine u_ (ih (j+1,z4) (by show j+1<=_;omega) (by show _-(j+1)<_-j;omega))
   ·refine A.gF rfl (by show decide ((j:Int)<(p.gs.length:Nat))=false;rw [decide_eq_false_iff_not];omega) ?_
    have htg:p.gs.take j=p.gs:=List.take_of_length_le (by omega)
    refine A.entsEq (Λ':=chL b z2 (l++rawC p)) (by rw [hfin,<-List.append_assoc,<-hl2];show chL b z2 (l2++rawCg (p.gs.take j))=_;rw [htg]) ?_
    refine y_ ?_
    exact A.ret0 rfl rfl (.refl _) ⟨z2, .refl,rfl,trivial⟩
 by_cases h6:p.kind=6
 ·rw [if_pos (.inr h6)] at hrc hbn'
  have hpu:=push_p b z0 l p.c (by omega)
  refine Exists.elim (show∃l1,l1=l++[p.c] from ⟨_,rfl⟩) fun l1 hl1=>?_
  have hl1n:l1.length+((rawCl p.l).length+(rawCg p.gs).length)<=1048576:=by rw [hl1,List.length_append];omega
  have hfin:l++rawC p=l1++(rawCl p.l++rawCg p.gs):=by rw [hrc,hl1,List.append_assoc]
  rw [<-hl1] at hpu
  refine Fun.of (S:=tt) (fn:=Tryz.f52) (n:=59) tt_ok Tryz.func52 rfl rfl rfl rfl fun w0 h0 F hgs=>?_
  (repeat refine A.s rfl ?_)
  refine A.b rfl fun bx=>?_
  refine y_ ?_
  refine e_ 13 rfl (x':=AB false) (ab_eq (beq_eq_false_iff_ne.2 h5)) ?_
  refine T_ rfl (by rw [h6];rfl) ?_
  refine A.e rfl hpu s_ (Λ2:=[.box bx (cellsR p)]) (List.perm_append_comm (l₁:=[_])) fun z1 _=>?_
  refine A.perm (Λ':= .box bx (cellsR p)::chL b z1 l1) (List.perm_append_comm (l₂:=[_])) ?_
  refine A.freeze 2 (sz:=8) rfl rfl rfl ?_
  refine l_ (Λ':=chL b z1 l1) ?_
  refine y_ ?_
  refine A.valE 24 rfl (x':=AI (p.l.length:Nat)) (ai_eq n1) ?_
  refine A.keep [1,2,23,24,25] rfl ?_
  refine A.loopP (ι:=Nat×Value) (fun v=>(⟨[(1,yC b),(2, .pe 8 (cellsR p)),(23,rsA p.l),(24,AI (p.l.length:Nat)),(25,AI (v.1:Nat))],[]⟩,chL b v.2 (l1++rawCl (p.l.take v.1)))) (fun v=>v.1<=p.l.length) (fun v=>p.l.length-v.1) (0,z1) (Nat.zero_le _) (by
   show (_,chL b z1 (l1++rawCl (p.l.take 0)))=_
   rw [List.take_zero,rawCl,List.append_nil];rfl) fun v hv ih=>?_
  obtain ⟨i,z⟩:=v
  simp only at hv
  refine y_ ?_
  by_cases hci:i<p.l.length
  ·refine Exists.elim (at_exN (l:=p.l) (i:=i) hci) fun x hx=>?_
   have htk:=rawCl_take hx
   have hpr:=rawCl_pre p.l (i+1)
   rw [htk,List.length_append] at hpr
   have hcall:=hl x (List.mem_of_getElem? hx) b z (l1++rawCl (p.l.take i)) (by rw [List.length_append];omega)
   rw [List.append_assoc,<-htk] at hcall
   refine T_ rfl (by show decide ((i:Int)<(p.l.length:Nat))=true;rw [decide_eq_true_eq];omega) ?_
   refine j_ rfl (encRl_at hx) (encR_eq x) ?_
   (repeat refine A.s rfl ?_)
   refine A.b rfl fun b5=>?_
   refine y_ ?_
   refine A.less (Λ':=chL b z (l1++rawCl (p.l.take i))) (.cons _ (.refl _)) ?_
   refine A.e rfl hcall s_ (Λ2:=[]) (by rw [List.append_nil]) fun z' _=>?_
   refine y_ ?_
   refine A.entsEq (List.append_nil _) ?_
   refine A.valE 25 rfl (x':=AI ((i+1:Nat):Int)) (inc_eq i (by omega)) ?_
   refine u_ (ih (i+1,z') (by show i+1<=_;omega) (by show _-(i+1)<_-i;omega))
  ·refine A.gF rfl (by show decide ((i:Int)<(p.l.length:Nat))=false;rw [decide_eq_false_iff_not];omega) ?_
   have htl:p.l.take i=p.l:=List.take_of_length_le (by omega)
   clear ih
   refine Exists.elim (show∃l2,l2=l1++rawCl p.l from ⟨_,rfl⟩) fun l2 hl2=>?_
   have hl2n:l2.length+(rawCg p.gs).length<=1048576:=by rw [hl2,List.length_append];omega
   refine A.entsEq (Λ':=chL b z l2) (by rw [hl2];show chL b z (l1++rawCl (p.l.take i))=_;rw [htl]) ?_
   refine y_ ?_
   refine A.valE 35 rfl (x':=AI (p.gs.length:Nat)) (ai_eq n2) ?_
   refine A.keep [1,2,34,35,36] rfl ?_
   refine A.loopP (ι:=Nat×Value) (fun v=>(⟨[(1,yC b),(2, .pe 8 (cellsR p)),(34,gsA p.gs),(35,AI (p.gs.length:Nat)),(36,AI (v.1:Nat))],[]⟩,chL b v.2 (l2++rawCg (p.gs.take v.1)))) (fun v=>v.1<=p.gs.length) (fun v=>p.gs.length-v.1) (0,z) (Nat.zero_le _) (by
    show (_,chL b z (l2++rawCg (p.gs.take 0)))=_
    rw [List.take_zero,rawCg,List.append_nil];rfl) fun v hv ih=>?_
   obtain ⟨j,z2⟩:=v
   simp only at hv
   refine y_ ?_
   by_cases hcj:j<p.gs.length
   ·refine Exists.elim (at_exN (l:=p.gs) (i:=j) hcj) fun g hg=>?_
    have hgm:=List.mem_of_getElem? hg
    have hgk:=rawCg_take hg
    have hgp:=rawCg_pre p.gs (j+1)
    rw [hgk,List.length_append,List.length_append] at hgp
    have n3:((encRl g.body).length:Int)=g.body.length:=by rw [encRl_len]
    have hbl:=(smG_all (hsa.g g hgm)).bl
    refine T_ rfl (by show decide ((j:Int)<(p.gs.length:Nat))=true;rw [decide_eq_true_eq];omega) ?_
    refine j_ rfl (encGl_at hg) (encG_eq g) ?_
    (repeat refine A.s rfl ?_)
    refine A.b rfl fun b7=>?_
    refine y_ ?_
    refine A.freeze 7 (sz:=18) rfl rfl rfl ?_
    refine l_ (Λ':=chL b z2 (l2++rawCg (p.gs.take j))) ?_
    by_cases hk3:g.kind=3
    ·rw [if_pos hk3] at hgk hgp
     simp only [List.length_cons,List.length_nil] at hgp
     have hpu:=push_p b z2 (l2++rawCg (p.gs.take j)) g.c (by rw [List.length_append];omega)
     refine Exists.elim (show∃l3,l3=l2++rawCg (p.gs.take j)++[g.c] from ⟨_,rfl⟩) fun l3 hl3=>?_
     have hl3n:l3.length+(rawCl g.body).length<=1048576:=by rw [hl3,List.length_append,List.length_append,List.length_singleton];omega
     have hl3e:l2++rawCg (p.gs.take (j+1))=l3++rawCl g.body:=by rw [hgk,hl3];simp
     rw [<-hl3] at hpu
     refine T_ rfl (by show (g.kind==3)=true;simpa using hk3) ?_
     refine A.e rfl hpu s_ (Λ2:=[]) (by rw [List.append_nil]) fun z3 _=>?_
     refine A.entsEq (List.append_nil _) ?_
     refine y_ ?_
     refine A.valE 49 rfl (x':=AI (g.body.length:Nat)) (ai_eq n3) ?_
     refine A.keep [1,2,34,35,36,48,49,50] rfl ?_
     refine A.loopP (ι:=Nat×Value) (fun v=>(⟨[(1,yC b),(2, .pe 8 (cellsR p)),(34,gsA p.gs),(35,AI (p.gs.length:Nat)),(36,AI (j:Nat)),(48,rsA g.body),(49,AI (g.body.length:Nat)),(50,AI (v.1:Nat))],[]⟩,chL b v.2 (l3++rawCl (g.body.take v.1)))) (fun v=>v.1<=g.body.length) (fun v=>g.body.length-v.1) (0,z3) (Nat.zero_le _) (by
      show (_,chL b z3 (l3++rawCl (g.body.take 0)))=_
      rw [List.take_zero,rawCl,List.append_nil];rfl) fun v hv jh=>?_
     obtain ⟨k,z4⟩:=v
     simp only at hv
     refine y_ ?_
     by_cases hck:k<g.body.length
     ·refine Exists.elim (at_exN (l:=g.body) (i:=k) hck) fun x hx=>?_
      have htk:=rawCl_take hx
      have hpr:=rawCl_pre g.body (k+1)
      rw [htk,List.length_append] at hpr
      have hcall:=hg' g hgm x (List.mem_of_getElem? hx) b z4 (l3++rawCl (g.body.take k)) (by rw [List.length_append];omega)
      rw [List.append_assoc,<-htk] at hcall
      refine T_ rfl (by show decide ((k:Int)<(g.body.length:Nat))=true;rw [decide_eq_true_eq];omega) ?_
      refine j_ rfl (encRl_at hx) (encR_eq x) ?_
      (repeat refine A.s rfl ?_)
      refine A.b rfl fun b9=>?_
      refine y_ ?_
      refine A.less (Λ':=chL b z4 (l3++rawCl (g.body.take k))) (.cons _ (.refl _)) ?_
      refine A.e rfl hcall s_ (Λ2:=[]) (by rw [List.append_nil]) fun z' _=>?_
      refine y_ ?_
      refine A.entsEq (List.append_nil _) ?_
      refine A.valE 50 rfl (x':=AI ((k+1:Nat):Int)) (inc_eq k (by omega)) ?_
      refine u_ (jh (k+1,z') (by show k+1<=_;omega) (by show _-(k+1)<_-k;omega))
     ·refine A.gF rfl (by show decide ((k:Int)<(g.body.length:Nat))=false;rw [decide_eq_false_iff_not];omega) ?_
      have htb:g.body.take k=g.body:=List.take_of_length_le (by omega)
      refine A.entsEq (Λ':=chL b z4 (l2++rawCg (p.gs.take (j+1)))) (by rw [hl3e];show chL b z4 (l3++rawCl (g.body.take k))=_;rw [htb]) ?_
      refine y_ ?_
      refine A.valE 36 rfl (x':=AI ((j+1:Nat):Int)) (inc_eq j (by omega)) ?_
      refine u_ (ih (j+1,z4) (by show j+1<=_;omega) (by show _-(j+1)<_-j;omega))
    ·rw [if_neg hk3] at hgk hgp
     refine Exists.elim (show∃l3,l3=l2++rawCg (p.gs.take j) from ⟨_,rfl⟩) fun l3 hl3=>?_
     refine Exists.elim (show∃z3,z3=z2 from ⟨_,rfl⟩) fun z3 hz3=>?_
     have hl3n:l3.length+(rawCl g.body).length<=1048576:=by rw [hl3,List.length_append];simp only [List.length_nil] at hgp;omega
     have hl3e:l2++rawCg (p.gs.take (j+1))=l3++rawCl g.body:=by rw [hgk,hl3];simp
     refine A.gF rfl (by show (g.kind==3)=false;simpa using hk3) ?_
     refine A.entsEq (Λ':=chL b z3 l3) (by rw [hl3,hz3]) ?_
     refine y_ ?_
     refine A.valE 49 rfl (x':=AI (g.body.length:Nat)) (ai_eq n3) ?_
     refine A.keep [1,2,34,35,36,48,49,50] rfl ?_
     refine A.loopP (ι:=Nat×Value) (fun v=>(⟨[(1,yC b),(2, .pe 8 (cellsR p)),(34,gsA p.gs),(35,AI (p.gs.length:Nat)),(36,AI (j:Nat)),(48,rsA g.body),(49,AI (g.body.length:Nat)),(50,AI (v.1:Nat))],[]⟩,chL b v.2 (l3++rawCl (g.body.take v.1)))) (fun v=>v.1<=g.body.length) (fun v=>g.body.length-v.1) (0,z3) (Nat.zero_le _) (by
      show (_,chL b z3 (l3++rawCl (g.body.take 0)))=_
      rw [List.take_zero,rawCl,List.append_nil];rfl) fun v hv jh=>?_
     obtain ⟨k,z4⟩:=v
     simp only at hv
     refine y_ ?_
     by_cases hck:k<g.body.length
     ·refine Exists.elim (at_exN (l:=g.body) (i:=k) hck) fun x hx=>?_
      have htk:=rawCl_take hx
      have hpr:=rawCl_pre g.body (k+1)
      rw [htk,List.length_append] at hpr
      have hcall:=hg' g hgm x (List.mem_of_getElem? hx) b z4 (l3++rawCl (g.body.take k)) (by rw [List.length_append];omega)
      rw [List.append_assoc,<-htk] at hcall
      refine T_ rfl (by show decide ((k:Int)<(g.body.length:Nat))=true;rw [decide_eq_true_eq];omega) ?_
      refine j_ rfl (encRl_at hx) (encR_eq x) ?_
      (repeat refine A.s rfl ?_)
      refine A.b rfl fun b9=>?_
      refine y_ ?_
      refine A.less (Λ':=chL b z4 (l3++rawCl (g.body.take k))) (.cons _ (.refl _)) ?_
      refine A.e rfl hcall s_ (Λ2:=[]) (by rw [List.append_nil]) fun z' _=>?_
      refine y_ ?_
      refine A.entsEq (List.append_nil _) ?_
      refine A.valE 50 rfl (x':=AI ((k+1:Nat):Int)) (inc_eq k (by omega)) ?_
      refine u_ (jh (k+1,z') (by show k+1<=_;omega) (by show _-(k+1)<_-k;omega))
     ·refine A.gF rfl (by show decide ((k:Int)<(g.body.length:Nat))=false;rw [decide_eq_false_iff_not];omega) ?_
      have htb:g.body.take k=g.body:=List.take_of_length_le (by omega)
      refine A.entsEq (Λ':=chL b z4 (l2++rawCg (p.gs.take (j+1)))) (by rw [hl3e];show chL b z4 (l3++rawCl (g.body.take k))=_;rw [htb]) ?_
      refine y_ ?_
      refine A.valE 36 rfl (x':=AI ((j+1:Nat):Int)) (inc_eq j (by omega)) ?_
      refine u_ (ih (j+1,z4) (by show j+1<=_;omega) (by show _-(j+1)<_-j;omega))
   ·refine A.gF rfl (by show decide ((j:Int)<(p.gs.length:Nat))=false;rw [decide_eq_false_iff_not];omega) ?_
    have htg:p.gs.take j=p.gs:=List.take_of_length_le (by omega)
    refine A.entsEq (Λ':=chL b z2 (l++rawC p)) (by rw [hfin,<-List.append_assoc,<-hl2];show chL b z2 (l2++rawCg (p.gs.take j))=_;rw [htg]) ?_
    refine y_ ?_
    exact A.ret0 rfl rfl (.refl _) ⟨z2, .refl,rfl,trivial⟩
 ·rw [if_neg (by omega)] at hrc hbn'
  refine Exists.elim (show∃l1,l1=l from ⟨_,rfl⟩) fun l1 hl1=>?_
  refine Exists.elim (show∃z1,z1=z0 from ⟨_,rfl⟩) fun z1 hz1=>?_
  have hl1n:l1.length+((rawCl p.l).length+(rawCg p.gs).length)<=1048576:=by rw [hl1];simp only [List.length_nil] at hbn';omega
  have hfin:l++rawC p=l1++(rawCl p.l++rawCg p.gs):=by rw [hrc,hl1,List.nil_append]
  refine Fun.of (S:=tt) (fn:=Tryz.f52) (n:=59) tt_ok Tryz.func52 rfl rfl rfl rfl fun w0 h0 F hgs=>?_
  (repeat refine A.s rfl ?_)
  refine A.b rfl fun bx=>?_
  refine y_ ?_
  refine e_ 13 rfl (x':=AB false) (ab_eq (beq_eq_false_iff_ne.2 h5)) ?_
  refine A.gF rfl (beq_eq_false_iff_ne.2 h6) ?_
  refine A.entsEq (Λ':= .box bx (cellsR p)::chL b z1 l1) (by rw [hl1,hz1]) ?_
  refine y_ ?_
  refine A.freeze 2 (sz:=8) rfl rfl rfl ?_
  refine l_ (Λ':=chL b z1 l1) ?_
  refine A.valE 24 rfl (x':=AI (p.l.length:Nat)) (ai_eq n1) ?_
  refine A.keep [1,2,23,24,25] rfl ?_
  refine A.loopP (ι:=Nat×Value) (fun v=>(⟨[(1,yC b),(2, .pe 8 (cellsR p)),(23,rsA p.l),(24,AI (p.l.length:Nat)),(25,AI (v.1:Nat))],[]⟩,chL b v.2 (l1++rawCl (p.l.take v.1)))) (fun v=>v.1<=p.l.length) (fun v=>p.l.length-v.1) (0,z1) (Nat.zero_le _) (by
   show (_,chL b z1 (l1++rawCl (p.l.take 0)))=_
   rw [List.take_zero,rawCl,List.append_nil];rfl) fun v hv ih=>?_
  obtain ⟨i,z⟩:=v
  simp only at hv
  refine y_ ?_
  by_cases hci:i<p.l.length
  ·refine Exists.elim (at_exN (l:=p.l) (i:=i) hci) fun x hx=>?_
   have htk:=rawCl_take hx
   have hpr:=rawCl_pre p.l (i+1)
   rw [htk,List.length_append] at hpr
   have hcall:=hl x (List.mem_of_getElem? hx) b z (l1++rawCl (p.l.take i)) (by rw [List.length_append];omega)
   rw [List.append_assoc,<-htk] at hcall
   refine T_ rfl (by show decide ((i:Int)<(p.l.length:Nat))=true;rw [decide_eq_true_eq];omega) ?_
   refine j_ rfl (encRl_at hx) (encR_eq x) ?_
   (repeat refine A.s rfl ?_)
   refine A.b rfl fun b5=>?_
   refine y_ ?_
   refine A.less (Λ':=chL b z (l1++rawCl (p.l.take i))) (.cons _ (.refl _)) ?_
   refine A.e rfl hcall s_ (Λ2:=[]) (by rw [List.append_nil]) fun z' _=>?_
   refine y_ ?_
   refine A.entsEq (List.append_nil _) ?_
   refine A.valE 25 rfl (x':=AI ((i+1:Nat):Int)) (inc_eq i (by omega)) ?_
   refine u_ (ih (i+1,z') (by show i+1<=_;omega) (by show _-(i+1)<_-i;omega))
  ·refine A.gF rfl (by show decide ((i:Int)<(p.l.length:Nat))=false;rw [decide_eq_false_iff_not];omega) ?_
   have htl:p.l.take i=p.l:=List.take_of_length_le (by omega)
   clear ih
   refine Exists.elim (show∃l2,l2=l1++rawCl p.l from ⟨_,rfl⟩) fun l2 hl2=>?_
   have hl2n:l2.length+(rawCg p.gs).length<=1048576:=by rw [hl2,List.length_append];omega
   refine A.entsEq (Λ':=chL b z l2) (by rw [hl2];show chL b z (l1++rawCl (p.l.take i))=_;rw [htl]) ?_
   refine y_ ?_
   refine A.valE 35 rfl (x':=AI (p.gs.length:Nat)) (ai_eq n2) ?_
   refine A.keep [1,2,34,35,36] rfl ?_
   refine A.loopP (ι:=Nat×Value) (fun v=>(⟨[(1,yC b),(2, .pe 8 (cellsR p)),(34,gsA p.gs),(35,AI (p.gs.length:Nat)),(36,AI (v.1:Nat))],[]⟩,chL b v.2 (l2++rawCg (p.gs.take v.1)))) (fun v=>v.1<=p.gs.length) (fun v=>p.gs.length-v.1) (0,z) (Nat.zero_le _) (by
    show (_,chL b z (l2++rawCg (p.gs.take 0)))=_
    rw [List.take_zero,rawCg,List.append_nil];rfl) fun v hv ih=>?_
   obtain ⟨j,z2⟩:=v
   simp only at hv
   refine y_ ?_
   by_cases hcj:j<p.gs.length
   ·refine Exists.elim (at_exN (l:=p.gs) (i:=j) hcj) fun g hg=>?_
    have hgm:=List.mem_of_getElem? hg
    have hgk:=rawCg_take hg
    have hgp:=rawCg_pre p.gs (j+1)
    rw [hgk,List.length_append,List.length_append] at hgp
    have n3:((encRl g.body).length:Int)=g.body.length:=by rw [encRl_len]
    have hbl:=(smG_all (hsa.g g hgm)).bl
    refine T_ rfl (by show decide ((j:Int)<(p.gs.length:Nat))=true;rw [decide_eq_true_eq];omega) ?_
    refine j_ rfl (encGl_at hg) (encG_eq g) ?_
    (repeat refine A.s rfl ?_)
    refine A.b rfl fun b7=>?_
    refine y_ ?_
    refine A.freeze 7 (sz:=18) rfl rfl rfl ?_
    refine l_ (Λ':=chL b z2 (l2++rawCg (p.gs.take j))) ?_
    by_cases hk3:g.kind=3
    ·rw [if_pos hk3] at hgk hgp
     simp only [List.length_cons,List.length_nil] at hgp
     have hpu:=push_p b z2 (l2++rawCg (p.gs.take j)) g.c (by rw [List.length_append];omega)
     refine Exists.elim (show∃l3,l3=l2++rawCg (p.gs.take j)++[g.c] from ⟨_,rfl⟩) fun l3 hl3=>?_
     have hl3n:l3.length+(rawCl g.body).length<=1048576:=by rw [hl3,List.length_append,List.length_append,List.length_singleton];omega
     have hl3e:l2++rawCg (p.gs.take (j+1))=l3++rawCl g.body:=by rw [hgk,hl3];simp
     rw [<-hl3] at hpu
     refine T_ rfl (by show (g.kind==3)=true;simpa using hk3) ?_
     refine A.e rfl hpu s_ (Λ2:=[]) (by rw [List.append_nil]) fun z3 _=>?_
     refine A.entsEq (List.append_nil _) ?_
     refine y_ ?_
     refine A.valE 49 rfl (x':=AI (g.body.length:Nat)) (ai_eq n3) ?_
     refine A.keep [1,2,34,35,36,48,49,50] rfl ?_
     refine A.loopP (ι:=Nat×Value) (fun v=>(⟨[(1,yC b),(2, .pe 8 (cellsR p)),(34,gsA p.gs),(35,AI (p.gs.length:Nat)),(36,AI (j:Nat)),(48,rsA g.body),(49,AI (g.body.length:Nat)),(50,AI (v.1:Nat))],[]⟩,chL b v.2 (l3++rawCl (g.body.take v.1)))) (fun v=>v.1<=g.body.length) (fun v=>g.body.length-v.1) (0,z3) (Nat.zero_le _) (by
      show (_,chL b z3 (l3++rawCl (g.body.take 0)))=_
      rw [List.take_zero,rawCl,List.append_nil];rfl) fun v hv jh=>?_
     obtain ⟨k,z4⟩:=v
     simp only at hv
     refine y_ ?_
     by_cases hck:k<g.body.length
     ·refine Exists.elim (at_exN (l:=g.body) (i:=k) hck) fun x hx=>?_
      have htk:=rawCl_take hx
      have hpr:=rawCl_pre g.body (k+1)
      rw [htk,List.length_append] at hpr
      have hcall:=hg' g hgm x (List.mem_of_getElem? hx) b z4 (l3++rawCl (g.body.take k)) (by rw [List.length_append];omega)
      rw [List.append_assoc,<-htk] at hcall
      refine T_ rfl (by show decide ((k:Int)<(g.body.length:Nat))=true;rw [decide_eq_true_eq];omega) ?_
      refine j_ rfl (encRl_at hx) (encR_eq x) ?_
      (repeat refine A.s rfl ?_)
      refine A.b rfl fun b9=>?_
      refine y_ ?_
      refine A.less (Λ':=chL b z4 (l3++rawCl (g.body.take k))) (.cons _ (.refl _)) ?_
      refine A.e rfl hcall s_ (Λ2:=[]) (by rw [List.append_nil]) fun z' _=>?_
      refine y_ ?_
      refine A.entsEq (List.append_nil _) ?_
      refine A.valE 50 rfl (x':=AI ((k+1:Nat):Int)) (inc_eq k (by omega)) ?_
      refine u_ (jh (k+1,z') (by show k+1<=_;omega) (by show _-(k+1)<_-k;omega))
     ·refine A.gF rfl (by show decide ((k:Int)<(g.body.length:Nat))=false;rw [decide_eq_false_iff_not];omega) ?_
      have htb:g.body.take k=g.body:=List.take_of_length_le (by omega)
      refine A.entsEq (Λ':=chL b z4 (l2++rawCg (p.gs.take (j+1)))) (by rw [hl3e];show chL b z4 (l3++rawCl (g.body.take k))=_;rw [htb]) ?_
      refine y_ ?_
      refine A.valE 36 rfl (x':=AI ((j+1:Nat):Int)) (inc_eq j (by omega)) ?_
      refine u_ (ih (j+1,z4) (by show j+1<=_;omega) (by show _-(j+1)<_-j;omega))
    ·rw [if_neg hk3] at hgk hgp
     refine Exists.elim (show∃l3,l3=l2++rawCg (p.gs.take j) from ⟨_,rfl⟩) fun l3 hl3=>?_
     refine Exists.elim (show∃z3,z3=z2 from ⟨_,rfl⟩) fun z3 hz3=>?_
     have hl3n:l3.length+(rawCl g.body).length<=1048576:=by rw [hl3,List.length_append];simp only [List.length_nil] at hgp;omega
     have hl3e:l2++rawCg (p.gs.take (j+1))=l3++rawCl g.body:=by rw [hgk,hl3];simp
     refine A.gF rfl (by show (g.kind==3)=false;simpa using hk3) ?_
     refine A.entsEq (Λ':=chL b z3 l3) (by rw [hl3,hz3]) ?_
     refine y_ ?_
     refine A.valE 49 rfl (x':=AI (g.body.length:Nat)) (ai_eq n3) ?_
     refine A.keep [1,2,34,35,36,48,49,50] rfl ?_
     refine A.loopP (ι:=Nat×Value) (fun v=>(⟨[(1,yC b),(2, .pe 8 (cellsR p)),(34,gsA p.gs),(35,AI (p.gs.length:Nat)),(36,AI (j:Nat)),(48,rsA g.body),(49,AI (g.body.length:Nat)),(50,AI (v.1:Nat))],[]⟩,chL b v.2 (l3++rawCl (g.body.take v.1)))) (fun v=>v.1<=g.body.length) (fun v=>g.body.length-v.1) (0,z3) (Nat.zero_le _) (by
      show (_,chL b z3 (l3++rawCl (g.body.take 0)))=_
      rw [List.take_zero,rawCl,List.append_nil];rfl) fun v hv jh=>?_
     obtain ⟨k,z4⟩:=v
     simp only at hv
     refine y_ ?_
     by_cases hck:k<g.body.length
     ·refine Exists.elim (at_exN (l:=g.body) (i:=k) hck) fun x hx=>?_
      have htk:=rawCl_take hx
      have hpr:=rawCl_pre g.body (k+1)
      rw [htk,List.length_append] at hpr
      have hcall:=hg' g hgm x (List.mem_of_getElem? hx) b z4 (l3++rawCl (g.body.take k)) (by rw [List.length_append];omega)
      rw [List.append_assoc,<-htk] at hcall
      refine T_ rfl (by show decide ((k:Int)<(g.body.length:Nat))=true;rw [decide_eq_true_eq];omega) ?_
      refine j_ rfl (encRl_at hx) (encR_eq x) ?_
      (repeat refine A.s rfl ?_)
      refine A.b rfl fun b9=>?_
      refine y_ ?_
      refine A.less (Λ':=chL b z4 (l3++rawCl (g.body.take k))) (.cons _ (.refl _)) ?_
      refine A.e rfl hcall s_ (Λ2:=[]) (by rw [List.append_nil]) fun z' _=>?_
      refine y_ ?_
      refine A.entsEq (List.append_nil _) ?_
      refine A.valE 50 rfl (x':=AI ((k+1:Nat):Int)) (inc_eq k (by omega)) ?_
      refine u_ (jh (k+1,z') (by show k+1<=_;omega) (by show _-(k+1)<_-k;omega))
     ·refine A.gF rfl (by show decide ((k:Int)<(g.body.length:Nat))=false;rw [decide_eq_false_iff_not];omega) ?_
      have htb:g.body.take k=g.body:=List.take_of_length_le (by omega)
      refine A.entsEq (Λ':=chL b z4 (l2++rawCg (p.gs.take (j+1)))) (by rw [hl3e];show chL b z4 (l3++rawCl (g.body.take k))=_;rw [htb]) ?_
      refine y_ ?_
      refine A.valE 36 rfl (x':=AI ((j+1:Nat):Int)) (inc_eq j (by omega)) ?_
      refine u_ (ih (j+1,z4) (by show j+1<=_;omega) (by show _-(j+1)<_-j;omega))
   ·refine A.gF rfl (by show decide ((j:Int)<(p.gs.length:Nat))=false;rw [decide_eq_false_iff_not];omega) ?_
    have htg:p.gs.take j=p.gs:=List.take_of_length_le (by omega)
    refine A.entsEq (Λ':=chL b z2 (l++rawC p)) (by rw [hfin,<-List.append_assoc,<-hl2];show chL b z2 (l2++rawCg (p.gs.take j))=_;rw [htg]) ?_
    refine y_ ?_
    exact A.ret0 rfl rfl (.refl _) ⟨z2, .refl,rfl,trivial⟩
theorem walk_n: ∀(n:Nat) (p:PR),SizeOf.sizeOf p<=n->smR p->WalkC p
 |0,p,h,_=>by
  obtain ⟨k,c,v,i,to,e,gs,l⟩:=p
  simp only [PR.mk.sizeOf_spec] at h;omega
 |n+1,p,hn,hs=>walk_f p hs (fun x hx=>walk_n n x (by have:=lt19_l hx;omega) ((smR_all hs).l x hx)) fun g hg x hx=>walk_n n x (by have:=lt19_g hg hx;omega) ((smG_all ((smR_all hs).g g hg)).body x hx)
theorem walk_p(p:PR)(hs:smR p):WalkC p:=walk_n _ p (Nat.le_refl _) hs
theorem le_pair(l:List Int):(l.mergeSort fun x y=>decide (x<=y)).Pairwise fun x y=>ltI y x=false:=by
 have:=List.pairwise_mergeSort (le:=fun x y:Int=>decide (x<=y)) (fun a b c h1 h2=>by simp only [decide_eq_true_eq] at*;omega) (fun a b=>by simp only [Bool.or_eq_true,decide_eq_true_eq];omega) l
 refine this.imp fun {a b} h=>?_
 unfold ltI
 simp only [decide_eq_true_eq] at h
 simp only [decide_eq_false_iff_not];omega
theorem chans_p(p:PR)(hs:smR p)(hb:(rawC p).length<=1048576):Pure Tryz.prog gs0 21 [cellsR p] (intsA (chansM p)):=by
 have hw:=walk_p p hs
 refine p_ tt_ok Tryz.func21 11 fun w0 h0 F hgs=>?_
 (repeat refine A.s rfl ?_)
 refine A.b rfl fun b1=>?_
 (repeat refine A.s rfl ?_)
 refine A.b rfl fun b3=>?_
 have hw:=hw b3 (.slice none 0 0) [] (by simpa using hb)
 refine A.boxAs (b:=b3) (x':= .ms (.slice none 0 0) 1 0) (.refl _) (fun h y r=>nil_ms19 1 r) ?_
 refine A.nilRow 1 ?_
 refine y_ ?_
 refine l_ (Λ':=[.row 1 (.slice none 0 0) [], .box b3 (.ms (.slice none 0 0) 1 0)]) ?_
 refine A.perm (Λ':=chL b3 (.slice none 0 0) []) (perm_pick [1,0] rfl rfl rfl rfl) ?_
 refine A.e rfl hw s_ (Λ2:=[]) (by rw [List.append_nil]) fun z1 _=>?_
 refine A.entsEq (List.append_nil _) ?_
 refine A.entsEq (Λ':=chL b3 z1 (rawC p)) (by rw [List.nil_append]) ?_
 have hso:FunE Tryz.prog gs0 54 [.ms z1 1 (rawC p).length] [.row 1 z1 ((rawC p).map AI)] (fun _:Unit=> .tp []) (fun _=>[.row 1 z1 (((rawC p).mergeSort fun x y=>decide (x<=y)).map AI)]) (fun _=>True):=
  (sortInts_fun (gs:=gs0) (ρ:=Tryz.lays189_ren) Tryz.lays189 ⟨_,_,Tryz.func54,rfl,rfl⟩ z1 (rawC p).length (rawC p) (by omega)).mono fun y Λ' ⟨h1,h2⟩=>⟨(),by rw [h1];exact .refl,h2,trivial⟩
 have hsn:((rawC p).mergeSort fun x y=>decide (x<=y)).length=(rawC p).length:=List.length_mergeSort _
 have hc:=compI_p z1 (rawC p).length ((rawC p).mergeSort fun x y=>decide (x<=y)) (by omega)
 rw [comp_ins ord_int (List.mergeSort_perm ..) (le_pair (rawC p))] at hc
 refine y_ ?_
 refine A.e rfl hso s_ (Λ2:=[.box b3 (.ms z1 1 (rawC p).length)]) (.swap _ _ _) fun _ _=>?_
 refine y_ ?_
 refine A.e rfl hc s_ (Λ2:=[.box b3 (.ms z1 1 (rawC p).length)]) (.refl _) fun z2 _=>?_
 refine y_ ?_
 refine A.freezeRow 2 rfl ?_
 exact r_
end Go.Proofs.YtkbolbpojpmicaaGreat
