/-
  Texts P26g P26h P25x R23h Q23j Q23f Q23k R23i R23g Q23g Q23h Q23i R23j Lt Q18y T18a T18b P26i T18c Q26a S22w T18d T20o. Conditions: as each theorem says.
-/
import Derived.Test.YtkbolbpojpmicaaGreatDoorWe4
import Derived.Test.YtkbolbpojpmicaaGreatDoorWe9
import Derived.Test.YtkbolbpojpmicaaGreatDoorWe6
import Derived.Test.YtkbolbpojpmicaaGreatDoorWe8
import Derived.Test.YtkbolbpojpmicaaGreatDoorCards
import Derived.Test.YtkbolbpojpmicaaGreatDoorTie
import Derived.Test.YtkbolbpojpmicaaGreatDoorWe3
set_option linter.unusedVariables false
set_option linter.unusedSimpArgs false
set_option maxRecDepth 100000
set_option maxHeartbeats 4000000
open Go.Proofs.Tryz
open List renaming length_map→aa0,mem_of_getElem?→aa2,mem_cons_self→aa4,mem_singleton→aa3,length_append→aa7,mem_cons_of_mem→aa8,mem_cons→ab0,length_cons→ab1,getElem?_eq_none→ab4,getElem?_eq_getElem→ab6,append_assoc→ab7,getElem?_map→ab9,mem_map→ac1,length_take→ac3,take_length→ac4,all_eq_true→ac5,take_add_one→ac6,map_cons→ac8,length_eq_zero_iff→ad0,getElem?_append_right→ad1,drop_length→ad2,length_singleton→ad5,getElem?_append_left→ad6,nil_sublist→ae1,map_append→ae2,append_nil→ae3,mem_range→ae9,mem_append→af0,ext_getElem?→af2,getElem?_cons_succ→af8,flatMap_cons→ag2,map_nil→ag7,map_congr_left→ag8,foldl_cons→ah1,nil_append→ah8,map_map→ai1,all_cons→ai4,length_range→ai6,eq_nil_of_length_eq_zero→ai8,foldl_append→aj2,mem_flatten→aj5,getElem?_drop→aj6,flatten_cons→aj9,flatMap_append→ak2,any_eq_true→al8,countP_cons→an4,mem_filter→ao3,all_nil→ao6,nodup_append→ap4,contains_iff_mem→ap9,sum_cons→ar8,filter_cons→as1,not_mem_nil→as3
open Bool renaming and_eq_true→aa1,true_and→ab3,eq_iff_iff→ab8,false_and→ae4,and_eq_true_iff→ae5
open Nat renaming le_refl→aa6,zero_le→ac0,lt_or_ge→ad7,le_trans→af4,mul_le_mul_right→af5,zero_add→ag9,eq_zero_or_pos→ah0,blt_eq→ah3,le_succ→aj1,le_mul_of_pos_right→ak1,add_mul→ak6,mul_one→ao1
open Exists renaming elim→ac7
open Int renaming toNat_natCast→ad9,le_refl→an9
open Array renaming ext'→ag4
namespace Go.Proofs.YtkbolbpojpmicaaGreatDoor
open Go Go.Tp
theorem uO{p:PR}(h:iI p=true):p.kind=9/\ ∃cs,p.l=cs++[bK p]/\ ∀x,x∈cs->x.kind=3:=by
 obtain ⟨y,hy⟩:=C8 h;have hl:=yY h hy;unfold iI at h;simp only [aa1,beq_iff_eq,dT] at h;obtain ⟨h9,h0,ha⟩:=h;refine ⟨h9,p.l.take (p.l.length-1),?_,fun x hx=>?_⟩
 ·rw [hl];apply af2;intro i
  by_cases hi:i<p.l.length-1
  ·rw [ad6 (by rw [ac3];omega),List.getElem?_take,iT hi]
  ·rw [ad1 (by rw [ac3];omega),ac3,Nat.min_eq_left (by omega)]
   by_cases e:i=p.l.length-1
   ·rw [e,hy,Nat.sub_self];rfl
   ·rw [ab4 (by omega),ab4 (by rw [ad5];omega)]
 ·cases hu:oK x with
  |false=>simpa [oK] using hu |true=>
   have:(p.l.take (p.l.length-1)).any oK=true:=al8.2 ⟨x,hx,hu⟩;rw [this] at ha;cases ha
def mP(p:PR):BD:=⟨bK p,fE (bK p).l,eU (bK p)⟩
theorem oI{s:PR}(h:bO s≠[]):bO s=aO s/\(nN s).any yK=false:=by
 unfold bO at h⊢;split
 ·rename_i hb;rw [iT hb] at h;exact absurd T h
 ·rename_i hb;exact ⟨rfl,by simpa using hb⟩
section
variable{k:KN}{p:PR}
theorem pB(h:jD k p≠[]):(bK p).kind=13/\VW (bK p)=true/\(eU (bK p)).all (cI k)=true/\jD k p=(eU (bK p)).map aO:=by
 unfold jD CK at h⊢;split at h
 ·rename_i hc;rw [iT hc];refine ⟨hc.1,hc.2.1,hc.2.2,ag8 fun s hs=>?_⟩;have hg:=ac5.1 hc.2.2 s hs;unfold cI at hg;rw [aa1] at hg;exact (oI (by intro e;rw [e] at hg;simp at hg)).1
 ·exact absurd T h
theorem qM(h:jD k p≠[]):gZ k p=(mP p).steps.map (fun s=>(aO s).map PR.c):=by unfold gZ;rw [(pB h).2.2.2,ai1];rfl
theorem PH(ss:List PR):(ss.map (fun s=>(aO s).map PR.c)).flatten=(ss.flatMap aO).map PR.c:=by
 induction ss with
 |nil=>rfl |cons s r ih=>rw [ac8,aj9,ih,ag2,ae2]
theorem K9{l:List Int}(h: ∀x,x∈l->l.count x<=1):l.Nodup:=by
 rw [List.nodup_iff_count];intro x
 by_cases hx:x∈l
 ·exact h x hx
 ·rw [List.count_eq_zero.2 hx];omega
theorem steps_eq(g:Good k p)(h:jD k p≠[]): ∃y,(bK p).l=[y]/\(mP p).body=y/\(mP p).steps=if y.kind=9 then y.l else [y]:=by obtain ⟨h13,_⟩:=pB h;obtain ⟨x,y,hx,hy⟩:=BF g.last.kind h13;refine ⟨y,hy,by show fE (bK p).l=y;rw [hy];rfl,?_⟩;show eU (bK p)=_;unfold eU;rw [hy]
theorem bd_ok(g:Good k p){n:Int}(hf:B2 n (gZ k p)):yE k.vars (mP p):=by
 have h:jD k p≠[]:=fun e=>hf.ne (by unfold gZ;rw [e];rfl);obtain ⟨h13,h1,ha,_⟩:=pB h;obtain ⟨y,hy,hb,hst⟩:=steps_eq g h;have hnod:(((mP p).steps.flatMap aO).map PR.c).Nodup:=by rw [<-PH,<-qM h];exact K9 hf.nd
 refine ⟨fun s hs=>?_,fun e=>hf.ne ?_,?_,h13,?_,?_,hnod⟩
 ·have hg:=ac5.1 ha s hs;have gs:=(qS g.last).1 s hs;unfold cI at hg;rw [aa1] at hg;have hne:bO s≠[]:=by intro e;rw [e] at hg;simp at hg
  obtain ⟨e1,e2⟩:=oI hne;refine ⟨fun q hq=>?_,by rw [<-e1];exact hne,?_⟩
  ·rw [<-e1] at hq;have hm:=lC hq;exact comm_of (qR gs hm.1) (vX hm.2).1 (ac5.1 hg.2 q hq)
  ·obtain ⟨pre,post,e⟩:=List.append_of_mem hs;rw [e,ak2,ae2,ag2,ae2,ap4,ap4] at hnod;exact hnod.2.1.1
 ·rw [qM h,e];rfl
 ·rw [hst,hb]
 ·obtain ⟨x,y',hx,_⟩:=BF g.last.kind h13;refine ⟨x,[],hx,fun st=>?_⟩;have how:(x.kind==1&&x.n==1)=true:=by unfold VW at h1;rw [hx] at h1;exact h1
  simp only [aa1,beq_iff_eq] at how;have hk:=g.last.kind;unfold aS at hk;rw [iF (by omega),iF (by omega),iF (by omega),iF (by omega),iF (by omega),iF (by omega),iF (by omega),iF (by omega),iF (by omega),iF (by omega),iF (by omega),iT h13,hx,aa1] at hk;have hf:kM k.vars x 3=true:=hk.2;unfold kM at hf;simp only [aa1,dT] at hf;unfold bV;rw [iT hf.1];rcases dQ hf.1.1 with ⟨n,rfl⟩|⟨v,_,_,rfl⟩|⟨v,a,_,_,_,rfl⟩|⟨o,a,_,_,_,rfl⟩|⟨o,a,b,_,_,_,_,rfl⟩|⟨t,a,_,_,_,rfl⟩
  ·have:n=1:=how.2;subst this;simp [cM,dX,d7]
  ·cases how.1
  ·cases how.1
  ·cases how.1
  ·cases how.1
  ·cases how.1
 ·show (bK p).l=[(mP p).body];rw [hy,hb]
theorem C5(g:Good k p)(h:jD k p≠[]){q:PR}(hq:kR (mP p).steps q):(q.kind=5\/q.kind=6)/\2<=q.c/\q.c<k.chans.length:=by
 obtain ⟨s,hs,hq⟩:=hq;obtain ⟨_,_,ha,_⟩:=pB h;have hg:=ac5.1 ha s hs;have gs:=(qS g.last).1 s hs;unfold cI at hg;rw [aa1] at hg;obtain ⟨e1,e2⟩:=oI (s:=s) (by intro e;rw [e] at hg;simp at hg);rw [<-e1] at hq;have hm:=lC hq;obtain ⟨h56,h2⟩:=vX hm.2;have hk:=(qR gs hm.1).kind;refine ⟨h56,h2,?_⟩;rcases h56 with h5|h6
 ·obtain ⟨t,_,ht⟩:=I1 hk h5;exact (A7 (n9 ht).1).2
 ·obtain ⟨t,_,ht⟩:=I2 hk h6;exact (A7 ht).2
theorem XT(h:yE k.vars (mP p)):mM (mP p) (fun _=>0) (aD p):=by
 have htop:mM (mP p) (fun _=>0) (mP p).W:= .top fun _ _=>rfl;cases hc:iI p with
 |false=>
  have e:bK p=p:=sH hc;have e2:aD p=(mP p).W:=by have:=h.ft;show _=bK p;have h2:aD (bK p)=bK p:=this;rw [e] at h2⊢;exact h2
  rw [e2];exact htop
 |true=>
  obtain ⟨h9,cs,hl,hk⟩:=uO hc;have e:aD p=lA p (cs++[(mP p).W]):=by have h:=tM h9 p.l;rw [l5] at h;rw [h,hl];rfl
  rw [e];cases cs with
  |nil=>
   have e3:lA p ([]++[(mP p).W])=(mP p).W:=by show bY _ _=_;rw [ah8,eC,h.ft]
   rw [e3];exact htop
  |cons c r=>exact .clr h9 hk fun _ _=>rfl
end
theorem LN{k:KN}{i:Nat}{p:PR}(h:jD k p≠[]){e:EN}:e∈t7 k i p↔ ∃q,kR (mP p).steps q/\e=lT i q:=by
 unfold t7;rw [(pB h).2.2.2,ai1,aj5];constructor
 ·rintro ⟨l,hl,he⟩;obtain ⟨s,hs,rfl⟩:=ac1.1 hl;obtain ⟨q,hq,rfl⟩:=ac1.1 he;exact ⟨q,⟨s,hs,hq⟩,rfl⟩
 ·rintro ⟨q,⟨s,hs,hq⟩,rfl⟩;exact ⟨_,ac1.2 ⟨s,hs,rfl⟩,ac1.2 ⟨q,hq,rfl⟩⟩
theorem D6{k:KN}{e:EN}: ∀{l:List PR} {i:Nat},e∈eP k i l↔ ∃j p,l[j]? =some p/\e∈t7 k (i+j) p
 | [],i=>by rw [eP];exact ⟨fun h=>(by cases h),fun ⟨j,p,h,_⟩=>(by simp at h)⟩
 |p::r,i=>by
  rw [eP,af0,D6 (l:=r) (i:=i+1)];constructor
  ·rintro (h|⟨j,q,h1,h2⟩)
   ·exact ⟨0,p,rfl,h⟩
   ·exact ⟨j+1,q,by rw [af8];exact h1,by rw [show i+(j+1)=i+1+j by omega];exact h2⟩
  ·rintro ⟨j,q,h1,h2⟩;cases j with
   |zero=>rw [List.getElem?_cons_zero] at h1;injection h1 with h1;rw [h1];exact .inl h2 |succ j=>rw [af8] at h1;exact .inr ⟨j,q,h1,by rw [show i+1+j=i+(j+1) by omega];exact h2⟩
theorem BN{E:List EN}(h:mH E=true){c:Nat}(hc:c<64){e:EN}(he:e∈E)(hec:e.c=c): ∃x y,o5 E c=[x,y]/\nU x y=true/\e∈[x,y]:=by
 have hp:=ac5.1 h c (ae9.2 hc);have hm:e∈o5 E c:=ao3.2 ⟨he,by rw [hec];simp⟩
 match hO:o5 E c with
 | []=>rw [hO] at hm;cases hm | [x]=>rw [hO] at hp;cases hp
 | [x,y]=>rw [hO] at hp hm;exact ⟨x,y,rfl,hp,hm⟩ |x::y::z::r=>rw [hO] at hp;cases hp
section
variable{k:KN}{q:PR}
def oQ(q:PR):List BD:=q.l.map mP
theorem KR{i:Nat}{b:BD}(h:(oQ q)[i]? =some b): ∃p,q.l[i]? =some p/\b=mP p:=by
 unfold oQ at h;rw [ab9] at h;cases hp:q.l[i]? with
 |none=>rw [hp] at h;cases h |some p=>rw [hp] at h;injection h with h;exact ⟨p,rfl,h.symm⟩
theorem IF(hne: ∀p,p∈q.l->jD k p≠[]){i:Nat}{p x:PR}(hp:q.l[i]? =some p)(hx:kR (mP p).steps x):lT i x∈eP k 0 q.l:=by refine D6.2 ⟨i,p,hp,?_⟩;rw [ag9];exact (LN (hne p (aa2 hp))).2 ⟨x,hx,rfl⟩
theorem YM(hne: ∀p,p∈q.l->jD k p≠[]){e:EN}(h:e∈eP k 0 q.l): ∃(i:Nat) (p x:PR),q.l[i]? =some p/\kR (mP p).steps x/\e=lT i x:=by obtain ⟨j,p,hp,he⟩:=D6.1 h;rw [ag9] at he;obtain ⟨x,hx,e⟩:=(LN (hne p (aa2 hp))).1 he;exact ⟨j,p,x,hp,hx,e⟩
theorem net_of(g:Good k q)(h64:k.chans.length<=64)(hp:mH (eP k 0 q.l)=true)(hv:Valid k.chans.length (fA k q)):yG k.vars (oQ q):=by
 have hfine: ∀p,p∈q.l->B2 k.chans.length (gZ k p):=fun p hp=>hv.fine _ (ac1.2 ⟨p,hp,rfl⟩);have hne: ∀p,p∈q.l->jD k p≠[]:=fun p hp e=>(hfine p hp).ne (by unfold gZ;rw [e];rfl);have hok: ∀p,p∈q.l->yE k.vars (mP p):=fun p hp=>bd_ok (g.l hp) (hfine p hp);have hch: ∀(i:Nat) (p x:PR),q.l[i]? =some p->kR (mP p).steps x-> ∃c:Nat,x.c=c/\c<64:=fun i p x hp hx=>by have:=C5 (g.l (aa2 hp)) (hne p (aa2 hp)) hx;exact ⟨x.c.toNat,by omega,by omega⟩
 refine ⟨fun b hb=>?_,?_,?_,fun b hb x hx=>?_,fun e=>?_⟩
 ·obtain ⟨p,hp,rfl⟩:=ac1.1 hb;exact hok p hp
 ·intro i j l b1 b2 b3 q1 q2 q3 h1 h2 h3 i1 i2 i3 e1 e2;obtain ⟨p1,hp1,rfl⟩:=KR h1;obtain ⟨p2,hp2,rfl⟩:=KR h2;obtain ⟨p3,hp3,rfl⟩:=KR h3;obtain ⟨c,hc,hc64⟩:=hch i p1 q1 hp1 i1;obtain ⟨x,y,hO,_,m1⟩:=BN hp hc64 (IF hne hp1 i1) hc;obtain ⟨x2,y2,hO2,_,m2⟩:=BN hp hc64 (IF hne hp2 i2) (show q2.c=c by rw [<-e1,hc]);obtain ⟨x3,y3,hO3,_,m3⟩:=BN hp hc64 (IF hne hp3 i3) (show q3.c=c by rw [<-e2,<-e1,hc]);rw [hO] at hO2 hO3;rw [<-hO2] at m2;rw [<-hO3] at m3;have key: ∀{a b:Nat} {u w:PR} {z:EN},lT a u=z->lT b w=z->a=b:=fun h1 h2=>by
   rw [<-h2] at h1;have h3:=congrArg EN.b h1;exact Int.ofNat.inj h3
  simp only [ab0,as3,or_false] at m1 m2 m3;rcases m1 with m1|m1
  ·rcases m2 with m2|m2
   ·exact .inl (key m1 m2)
   ·rcases m3 with m3|m3
    ·exact .inr (.inr (key m1 m3))
    ·exact .inr (.inl (key m2 m3))
  ·rcases m2 with m2|m2
   ·rcases m3 with m3|m3
    ·exact .inr (.inl (key m2 m3))
    ·exact .inr (.inr (key m1 m3))
   ·exact .inl (key m1 m2)
 ·intro i b x hb hx;obtain ⟨p,hpp,rfl⟩:=KR hb;obtain ⟨c,hc,hc64⟩:=hch i p x hpp hx;obtain ⟨u,w,hO,hf,hm⟩:=BN hp hc64 (IF hne hpp hx) hc;have other: ∀z:EN,z∈o5 (eP k 0 q.l) c->z.b≠i->z.out≠(x.kind==6)->z.item=x.item-> ∃(j:Nat) (b':BD) (q':PR),j≠i/\(oQ q)[j]? =some b'/\kR b'.steps q'/\q'.c=x.c/\q'.item=x.item/\(x.kind=5->q'.kind=6)/\(x.kind=6->q'.kind=5):=fun z hz h1 h2 h3=>by
   obtain ⟨hz1,hz2⟩:=ao3.1 hz;obtain ⟨j,p',x',hp',hx',rfl⟩:=YM hne hz1;have h2:(x'.kind==6)≠(x.kind==6):=h2;have h56:=(C5 (g.l (aa2 hp')) (hne p' (aa2 hp')) hx').1;refine ⟨j,mP p',x',fun e=>h1 (by rw [e];rfl),by unfold oQ;rw [ab9,hp'];rfl,hx',?_,h3,fun k5=>?_,fun k6=>?_⟩
   ·have hz2:(x'.c==(c:Int))=true:=hz2;rw [beq_iff_eq] at hz2;rw [hz2,hc]
   ·rcases h56 with h|h
    ·rw [h,k5] at h2;exact absurd T h2
    ·exact h
   ·rcases h56 with h|h
    ·exact h
    ·rw [h,k6] at h2;exact absurd T h2
  unfold nU at hf;simp only [aa1,bne_iff_ne,beq_iff_eq] at hf;obtain ⟨⟨f1,f2⟩,f3⟩:=hf;simp only [ab0,as3,or_false] at hm;rcases hm with hm|hm
  ·subst hm;exact other w (by rw [hO];exact .tail _ (.head _)) (fun e=>f1 e.symm) (fun e=>f2 e.symm) f3.symm
  ·subst hm;exact other u (by rw [hO];exact .head _) f1 f2 f3
 ·obtain ⟨p,hp,rfl⟩:=ac1.1 hb;exact (C5 (g.l hp) (hne p hp) hx).2.1
 ·have h1:=hv.g;unfold t0 at h1;simp only [aa1,dT] at h1;have hl:(fA k q).length=(oQ q).length:=by unfold fA oQ;rw [aa0,aa0]
  rw [e] at hl;rw [hl] at h1;simp at h1
theorem vA(h:yG k.vars (oQ q))(h10:q.kind=10):yF q (oQ q):=by
 have hb: ∀(i:Nat) z b,(q.l.map aD)[i]? =some z->(oQ q)[i]? =some b->mM b (fun _=>0) z:=fun i z b hz hb=>by obtain ⟨p,hp,rfl⟩:=KR hb;rw [ab9,hp] at hz;injection hz with hz;rw [<-hz];exact XT (h.ok _ (aa2 hb))
 have hl:(q.l.map aD).length=(oQ q).length:=by unfold oQ;rw [aa0,aa0]
 refine ⟨q.l.map aD,?_,hl,hb⟩;have:=DJ h h10 hl hb;rw [<-this];have e:aD (iL q q.l)=aD (iL q (q.l.map aD)):=w9 (.inl h10) (by rw [ai1];exact ag8 fun x _=>(kA x).symm);rw [<-e,l5]
theorem VQ{root:PR}(hq:q=bK root)(hB:yF q (oQ q)):qZ q (oQ q) (fun _=>0) (aD root):=by
 obtain ⟨L,g1,g2,g3⟩:=hB;cases hc:iI root with
 |false=>
  have e:bK root=root:=sH hc;rw [e] at hq;rw [<-hq,g1];exact .net g2 g3
 |true=>
  obtain ⟨h9,cs,hl,hk⟩:=uO hc;rw [<-hq] at hl;have e:aD root=lA root (cs++[q]):=by rw [<-l5 root,tM h9,hl]
  rw [e];cases cs with
  |nil=>
   have e3:lA root ([]++[q])=aD q:=by show bY _ _=_;rw [ah8,eC]
   rw [e3,g1];exact .net g2 g3
  |cons c r=>exact .clr h9 hk T
end
theorem yD{α:Type}{a b:α}: ∀{l:List α},(a,b)∈l.zip l.tail↔ ∃pre rest,l=pre++a::b::rest
 | []=>⟨fun h=>(by cases h),fun ⟨pre,rest,h⟩=>(by cases pre<;>cases h)⟩ | [x]=>⟨fun h=>(by cases h),fun ⟨pre,rest,h⟩=>by have:=congrArg List.length h;simp at this<;>omega⟩
 |x::y::r=>by
  rw [List.tail_cons,List.zip_cons_cons,ab0];constructor
  ·rintro (h|h)
   ·injection h with h1 h2;exact ⟨[],r,by rw [h1,h2];rfl⟩
   ·obtain ⟨pre,rest,e⟩:=(yD (l:=y::r)).1 h;exact ⟨x::pre,rest,by rw [e];rfl⟩
  ·rintro ⟨pre,rest,e⟩;cases pre with
   |nil=>
    injection e with e1 e2;injection e2 with e2 e3;exact .inl (by rw [e1,e2])
   |cons z pre=>
    injection e with e1 e2;exact .inr ((yD (l:=y::r)).2 ⟨pre,rest,e2⟩)
section
variable{k:KN}{q:PR}
theorem TM(hne: ∀p,p∈q.l->jD k p≠[]){d c:Int}:preB (fA k q) d c=true↔Prec (oQ q) d c:=by
 unfold preB;rw [al8];constructor
 ·rintro ⟨p',hp',h⟩;obtain ⟨p,hp,rfl⟩:=ac1.1 hp';rw [al8] at h;obtain ⟨⟨a,b⟩,hab,h⟩:=h;rw [qM (hne p hp)] at hab;simp only [aa1,ap9] at h;obtain ⟨pre,rest,e⟩:=yD.1 hab;obtain ⟨l1,l2,e1,e2,e3⟩:=List.map_eq_append_iff.1 e;obtain ⟨s,l3,e4,e5,e6⟩:=List.map_eq_cons_iff.1 e3;obtain ⟨s2,l4,e7,e8,e9⟩:=List.map_eq_cons_iff.1 e6;rw [<-e5] at h;rw [<-e8] at h;obtain ⟨q1,h1,h2⟩:=ac1.1 h.1;obtain ⟨q2,h3,h4⟩:=ac1.1 h.2;exact ⟨mP p,ac1.2 ⟨p,hp,rfl⟩,l1,s,s2,l4,q1,q2,by rw [e1,e4,e7],h1,h3,h2,h4⟩
 ·rintro ⟨b,hb,pre,s,s2,rest,q1,q2,e,h1,h2,rfl,rfl⟩;obtain ⟨p,hp,rfl⟩:=ac1.1 hb;refine ⟨gZ k p,ac1.2 ⟨p,hp,rfl⟩,al8.2 ⟨((aO s).map PR.c,(aO s2).map PR.c),?_,?_⟩⟩
  ·rw [qM (hne p hp),e,ae2,ac8,ac8];exact yD.2 ⟨_,_,rfl⟩
  ·simp only [aa1,ap9];exact ⟨ac1.2 ⟨q1,h1,rfl⟩,ac1.2 ⟨q2,h2,rfl⟩⟩
end
theorem K8{α:Type}{p q:α->Bool}: ∀{l:List α},(∀x,p x=true->q x=true)->(∃x,x∈l/\q x=true/\p x=false)->l.countP p<l.countP q
 | [],_,⟨x,hx,_⟩=>by cases hx |y::r,h,⟨x,hx,h1,h2⟩=>by
  rw [an4,an4];have hle:r.countP p<=r.countP q:=List.countP_mono_left fun z _ hz=>h z hz;rcases ab0.1 hx with rfl|hx
  ·rw [iT h1,iF (by rw [h2];decide)];omega
  ·have:=K8 h ⟨x,hx,h1,h2⟩;cases hp:p y with
   |true=>rw [h y hp,iT T];omega |false=>rw [iF (by decide)];omega
open Classical in
noncomputable def rkW (s:Nat->cV) (c:Int):Nat:=(List.range 64).countP fun y=>decide (∃m,Way s y c.toNat m)
theorem rkW_le(s:Nat->cV)(c:Int):rkW s c<=64:=by unfold rkW;have:=List.countP_le_length (p:=fun y=> @decide (∃m,Way s y c.toNat m) (Classical.propDecidable _)) (l:=List.range 64);rw [ai6] at this;exact this
open Classical in
theorem rkW_lt{s:Nat->cV}(hn: ∀x m,x<64-> ¬Way s x x m){d c:Int}(h:(s c.toNat).getLsbD d.toNat=true):rkW s d<rkW s c:=by
 have hd:=BitVec.lt_of_getLsbD h;unfold rkW;refine K8 (fun y hy=>?_) ⟨d.toNat,ae9.2 hd,?_,?_⟩
 ·rw [dT] at hy⊢;obtain ⟨m,hm⟩:=hy;exact ⟨_, .more h hm⟩
 ·rw [dT];exact ⟨1, .one h⟩
 ·rw [dF];rintro ⟨m,hm⟩;exact hn _ m hd hm
theorem YF{s:Nat->cV}{n:Nat}(hS: ∀x d,(s x).getLsbD d=true->d<n)(h:r7 s n=none): ∀x m,x<64-> ¬Way s x x m:=by
 intro x m hx hw;have hxn:x<n:=by
  cases hw with
  |one h1=>exact hS _ _ h1 |more h1 h2=>
   clear h1
   induction h2 with
   |one h1=>exact hS _ _ h1 |more _ _ ih=>exact ih
 have hb:(cA s n).1<0:=by
  unfold r7 at h;split at h
  ·assumption
  ·cases h
 rcases p9 s n with ⟨_,h2⟩|⟨f,h1,_⟩
 ·apply h2 x hxn;rcases pE (s:=s) hx hx with ⟨_,hno⟩|⟨m',e,l,_⟩
  ·exact absurd hw (hno m)
  ·rw [e];have:=l.pos;omega
 ·omega
theorem FU{s:Nat->cV}{n to:Nat}(ht:to<64)(hS: ∀x d,(s x).getLsbD d=true->d<n){best:Int}: ∀(f:Nat) (at1:Nat) (len:Int),at1<64->1<=len->len<=best->best-len<=f->eI s to at1=best+1-len->
 ∀c,c∈at1::rE s n (eI s to) best f at1 len-> ∃d,(d=to\/d∈rE s n (eI s to) best f at1 len)/\(s c).getLsbD d=true
 |f,at1,len,h1,h2,h3,h4,h5,c,hc=>by
  by_cases hl:len<best
  ·match f,h4 with
   |f+1,h4=>
    obtain ⟨y,hy,hf⟩:=Y2 (s:=s) ht h1 (by omega);have hfind: ∃d,(List.range n).find? (A0 s (eI s to) at1 (best-len))=some d:=by
     cases hd:(List.range n).find? (A0 s (eI s to) at1 (best-len)) with
     |some d=>exact ⟨d,rfl⟩ |none=>
      rw [List.find?_eq_none] at hd;exact absurd (show A0 s (eI s to) at1 (best-len) y=true by unfold A0;rw [hy,ab3,beq_iff_eq,hf,h5];omega) (hd y (ae9.2 (hS _ _ hy)))
    obtain ⟨d,hd⟩:=hfind;have hdp:=List.find?_some hd;unfold A0 at hdp;rw [aa1,beq_iff_eq] at hdp;have e:rE s n (eI s to) best (f+1) at1 len=d::rE s n (eI s to) best f d (len+1):=by rw [rE,iT hl,hd]
    rw [e] at hc⊢;rcases ab0.1 hc with rfl|hc
    ·exact ⟨d, .inr (.head _),hdp.1⟩
    ·obtain ⟨x,hx,hb⟩:=FU ht hS f d (len+1) (BitVec.lt_of_getLsbD hdp.1) (by omega) (by omega) (by omega) (by rw [hdp.2];omega) c hc;exact ⟨x,hx.elim .inl fun h=> .inr (.tail _ h),hb⟩
   |0,h4=>omega
  ·have e:rE s n (eI s to) best f at1 len=[]:=by
    cases f with
    |zero=>rw [rE] |succ f=>rw [rE,iF hl]
   rw [e] at hc⊢;rw [aa3] at hc;subst hc;have h6:eI s to c=(1:Nat):=by omega
   rcases pE (s:=s) ht h1 with ⟨h0,_⟩|⟨m,em,l,_⟩
   ·omega
   ·have hm:m=1:=by omega
    subst hm;have hw:=l.way;cases hw with
    |one hb=>exact ⟨to, .inl T,hb⟩ |more _ h7=>have:=h7.pos;omega
theorem cyc_all{s:Nat->cV}{n:Nat}(hn:n<=64)(hS: ∀x d,(s x).getLsbD d=true->d<n){l:List Nat}(h:r7 s n=some l): ∀c,c∈l-> ∃d,d∈l/\(s c).getLsbD d=true:=by
 unfold r7 at h;split at h
 ·cases h
 ·rename_i hb;injection h with h;rcases p9 s n with ⟨h1,_⟩|⟨f,h1,h2⟩
  ·rw [h1] at hb;simp at hb
  ·have hto:(cA s n).1.toNat=f:=by rw [h1];rfl
   rw [hto] at h;have hlt:=h2.lt;have hbl:=pE (s:=s) (to:=f) (x:=f) (by omega) (by omega);have hle:(cA s n).2<=66:=by
    rcases hbl with ⟨e,_⟩|⟨m,e,_,hm⟩
    ·have:=h2.pos;rw [h2.eq] at e;omega
    ·rw [h2.eq] at e;omega
   intro c hc;rw [<-h] at hc;have hp:=h2.pos;obtain ⟨d,hd,hbit⟩:=FU (to:=f) (by omega) hS (best:=(cA s n).2) 66 f 1 (by omega) (an9 _) (by omega) (by omega) (by rw [h2.eq];omega) c hc;refine ⟨d,?_,hbit⟩;rw [<-h];exact hd.elim (fun e=>by rw [e];exact .head _) fun h=> .tail _ h
section
variable{k:KN}{q:PR}
theorem Z4(hne: ∀p,p∈q.l->jD k p≠[])(hv:Valid k.chans.length (fA k q))(hc:r7 (beforeF (fA k q)) k.chans.length=none):RO (oQ q) (rkW (beforeF (fA k q))):=by have hno:=YF (fun x d=>yL hv x d) hc;intro b hb pre s s2 rest e q1 q2 h1 h2;have hp:preB (fA k q) q1.c q2.c=true:=(TM hne).2 ⟨b,hb,pre,s,s2,rest,q1,q2,e,h1,h2,rfl,rfl⟩;obtain ⟨g1,g2⟩:=TL hv hp;have hg:=hv.g;unfold t0 at hg;simp only [aa1,dT] at hg;refine rkW_lt hno ?_;rw [rV hv.inB _ _ (by omega),show ((q1.c.toNat:Nat):Int)=q1.c by omega,show ((q2.c.toNat:Nat):Int)=q2.c by omega];exact hp
theorem net_cyc(hne: ∀p,p∈q.l->jD k p≠[])(hv:Valid k.chans.length (fA k q)){l:List Nat}(hc:r7 (beforeF (fA k q)) k.chans.length=some l): ∀c,c∈l.map (fun d:Nat=>(d:Int))-> ∃d,d∈l.map (fun d:Nat=>(d:Int))/\Prec (oQ q) d c:=by have hg:=hv.g;unfold t0 at hg;simp only [aa1,dT] at hg;intro c hcm;obtain ⟨x,hx,rfl⟩:=ac1.1 hcm;obtain ⟨d,hd,hb⟩:=cyc_all (by omega) (fun x d=>yL hv x d) hc x hx;refine ⟨d,ac1.2 ⟨d,hd,rfl⟩,(TM hne).1 ?_⟩;rw [<-rV hv.inB d x (BitVec.lt_of_getLsbD hb)];exact hb
end
section
variable{V:List KV}{n:Nat}
theorem ZD{p:PR}(h:aS V n p=true)(h1:p.kind≠12)(h2:p.kind≠14)(h3:p.kind≠15):p.gs=[]:=by
 have h0: ∀{ch v:Bool} {t1 t2 e1 e2 l1 l2:Int},aN p ch v t1 t2 e1 e2 0 0 l1 l2=true->p.gs=[]:=fun hs=>by simp only [aN,aa1] at hs;exact ai8 (ZJ hs.1.2)
 unfold aS at h
 by_cases k:p.kind=1\/p.kind=2
 ·rw [iT k] at h;exact h0 h
 rw [iF k] at h;clear k
 by_cases k:p.kind=3
 ·rw [iT k] at h;exact h0 (ae5.1 (ae5.1 h).1).1
 rw [iF k] at h;clear k
 by_cases k:p.kind=4
 ·rw [iT k] at h;exact h0 (ae5.1 (ae5.1 h).1).1
 rw [iF k] at h;clear k
 by_cases k:p.kind=5
 ·rw [iT k] at h;exact h0 (ae5.1 h).1
 rw [iF k] at h;clear k
 by_cases k:p.kind=6
 ·rw [iT k] at h;exact h0 (ae5.1 (ae5.1 h).1).1
 rw [iF k] at h;clear k
 by_cases k:p.kind=7
 ·rw [iT k] at h;exact h0 (ae5.1 h).1
 rw [iF k] at h;clear k
 by_cases k:p.kind=8
 ·rw [iT k] at h;exact h0 (ae5.1 h).1
 rw [iF k] at h;clear k
 by_cases k:p.kind=9
 ·rw [iT k] at h;exact h0 h
 rw [iF k] at h;clear k
 by_cases k:p.kind=10
 ·rw [iT k] at h;exact h0 h
 rw [iF k] at h;clear k
 by_cases k:p.kind=11
 ·rw [iT k] at h;exact h0 h
 rw [iF k] at h;clear k;rw [iF (by omega)] at h
 by_cases k:p.kind=13
 ·rw [iT k] at h;exact h0 (ae5.1 h).1
 rw [iF k] at h;cases h
end
def sameAt(E:List EN)(i j:Nat):Bool:=i !=j&&(match E[i]?,E[j]? with
 |some x,some y=>y.c==x.c |_,_=>false)
def LX(E:List EN)(i j:Nat):Bool:=match E[i]?,E[j]? with
 |some x,some y=>nU y x |_,_=>false
def X3(E:List EN)(i:Nat):Nat->Nat
 |0=>0 |j+1=>X3 E i j+(if sameAt E i j then 1 else 0)
def okAt(E:List EN)(i:Nat):Bool:=((List.range E.length).all fun j=> !sameAt E i j||LX E i j)&&X3 E i E.length==1
def BO(E:List EN):Bool:=(List.range E.length).all (okAt E)
def rkL(r:List Int)(i:Nat):Int:=r.getD i 0
theorem rkL_at{r:List Int}{i:Nat}{v:Int}(h:r[i]? =some v):rkL r i=v:=by rw [rkL,List.getD_eq_getElem?_getD,h];rfl
def KP(s:Nat->cV)(r:List Int)(x d:Nat):Bool:=(s x).getLsbD d&&decide (rkL r x<=rkL r d)
def QS(s:Nat->cV)(r:List Int)(m:Nat):Bool:=(List.range m).all fun x=>(List.range m).all fun d=> !KP s r x d
def rX(n:Int)(c:bX)(r:List Int):Bool:=eW n c&&(decide ((r.length:Int)=n)&&QS (beforeF c) r r.length)
theorem vG{m i:Nat}(h:i<m):(List.range m).drop i=i::(List.range m).drop (i+1):=bS (List.getElem?_range h)
theorem zH(m:Nat):(List.range m).drop m=[]:=List.drop_eq_nil_of_le (by rw [ai6];exact aa6 _)
theorem P5{n:Int}{c:bX}(h:t0 n c=true):0<=n/\n<=64:=by simp only [t0,aa1,dT] at h;omega
theorem H3(n:Int)(c:bX)(r:List Int)(hs:uJ c)(hz:mL c<=1000)(hr:r.length<=281474976710656):Pure prog a9 12 [P7 n c,gG r] (AB (rX n c r)):=by
 have hmay:=JE n c hs;have hrl:((r.map AI).length:Int)=r.length:=by rw [aa0]
 cases hm:eW n c with
 |false=>
  rw [hm] at hmay;refine P_ func12 50 fun _ _ _ _=>?_
  (refine b_ fun bx=>?_;refine y_ ?_)
  refine c_ hmay ?_;refine R_ ?_;refine Sb.eq (aA ?_);rw [rX,hm];rfl
 |true=>
 rw [hm] at hmay;have hv:=(wY hz).1 hm;have hin:=hv.inB;have hn:=P5 hv.g;have hbef:=CB n c hs hin;refine P_ func12 50 fun _ _ _ _=>?_
 (refine b_ fun bx=>?_;refine y_ ?_)
 refine c_ hmay ?_;refine A.ad 17 T (x':=AB (!decide ((r.length:Int)=n))) (aA (by rw [hrl,ab8];simp)) ?_;refine k_ (fun hc=>?_) fun hc=>?_
 ·simp at hc;refine y_ ?_;refine R_ ?_;refine Sb.eq (aA ?_);rw [rX,show decide ((r.length:Int)=n)=false from decide_eq_false hc];simp
 simp at hc;have hrn:(r.length:Int)=n:=hc;have hr64:r.length<=64:=by omega
 (repeat refine A.s T ?_);refine A.r T T ?_;refine n_ hbef ?_;refine A.b T fun b1=>?_;refine A.db (.ag (l7 fun _=>0)) (by kernel_rfl) ?_;refine A.wl T (xM _) (cE _) (cE _) ?_;refine y_ ?_;refine A.ad 21 T (x':=AI (r.length:Nat)) (aM (by rw [aa0])) ?_;refine A.ay [1,5,21,22] T ?_
 refine A.ar (ι:=Nat) (fun x=>(⟨[(1,gG r),(5, .v (.pointer (some ⟨b1,0,none⟩))),(21,AI (r.length:Nat)),(22,AI (x:Nat))],[]⟩,[.box b1 (.ag (l7 (beforeF c))), .box _ (.ag [AI n,c0 c])]))
  (fun x=>x<=r.length/\((List.range r.length).drop x).all (fun x=>(List.range r.length).all fun d=> !KP (beforeF c) r x d)=QS (beforeF c) r r.length) (fun x=>r.length-x) 0 ⟨by omega,rfl⟩ T fun x hi ih=>?_
 refine y_ ?_;refine k_ (fun hc=>?_) fun hc=>?_
 ·simp at hc;have h1:=hi.2;rw [vG hc,ai4] at h1;refine aX hc fun vx hvx=>?_;refine y_ ?_;refine A.ad 26 T (x':=AI (r.length:Nat)) (aM (by rw [aa0])) ?_;refine A.ay [1,5,6,21,22,26,27] T ?_
  refine A.ar (ι:=Nat) (fun d=>(⟨[(1,gG r),(5, .v (.pointer (some ⟨b1,0,none⟩))),(6,AI (x:Nat)),(21,AI (r.length:Nat)),(22,AI (x:Nat)),(26,AI (r.length:Nat)),(27,AI (d:Nat))],[]⟩,[.box b1 (.ag (l7 (beforeF c))), .box _ (.ag [AI n,c0 c])]))
   (fun d=>d<=r.length/\((List.range r.length).drop d).all (fun d=> !KP (beforeF c) r x d)=(List.range r.length).all fun d=> !KP (beforeF c) r x d) (fun d=>r.length-d) 0 ⟨by omega,rfl⟩ T fun d hj jh=>?_
  refine y_ ?_;refine k_ (fun hc=>?_) fun hc=>?_
  ·simp at hc;have h2:=hj.2;rw [vG hc,ai4] at h2;refine aX hc fun vd hvd=>?_;have hx64:x<64:=by omega
   have hd64:d<64:=by omega
   refine y_ ?_;refine d_ 16 [0,1,2,3,4,5,6,7,8,9,10,11,12,13,14,15] [] ?_;refine WA.xa T (p:=x) (by omega) (by omega) (xA x) T ?_;refine WA.ra T (cR _ hx64) T ?_;refine w_ ?_;refine WA.shift T T T T T T T (by omega) ?_;refine uS 34 T (x':=rD (beforeF c x>>>d)) (lG (ushr _ _ hd64)) ?_;refine WA.ad 37 T (x':=AB ((beforeF c x).getLsbD d)) (aA (XQ _ d)) ?_;refine WA.split 37 T (fun hb=>?_) (fun hb=>?_)
   ·refine w_ ?_;refine rM T (aR hvd) T ?_;refine rM T (aR hvx) T ?_;refine z_ ?_;refine A.ad 47 T (x':=AB (KP (beforeF c) r x d)) (aA (by rw [KP,hb,rkL_at hvx,rkL_at hvd];rfl)) ?_;refine k_ (fun hc=>?_) fun hc=>?_
    ·rw [hc] at h2;have h3:QS (beforeF c) r r.length=false:=by rw [<-h1,<-h2];rfl
     refine y_ ?_;refine R_ ?_;refine Sb.eq (aA ?_);rw [rX,h3];simp
    ·rw [hc] at h2;refine y_ ?_;refine vI 27 d ?_;refine u_ (jh (d+1) ⟨by omega,by rw [<-h2];simp⟩ (by omega))
   ·refine w_ ?_;refine WA.nil (l:=[]) T ?_;have h3:KP (beforeF c) r x d=false:=by rw [KP,hb];rfl
    rw [h3] at h2;refine y_ ?_;refine vI 27 d ?_;refine u_ (jh (d+1) ⟨by omega,by rw [<-h2];simp⟩ (by omega))
  ·simp at hc;have hdl:d=r.length:=by omega
   have h2:=hj.2;rw [hdl,zH,ao6] at h2;rw [<-h2,ab3] at h1;refine y_ ?_;refine vI 22 x ?_;refine u_ (ih (x+1) ⟨by omega,h1⟩ (by omega))
 ·simp at hc;have hxl:x=r.length:=by omega
  have h1:=hi.2;rw [hxl,zH,ao6] at h1;refine y_ ?_;refine R_ ?_;refine Sb.eq (aA ?_);rw [rX,<-h1,hm];simp;omega
def CI(k:KN)(p:PR):Bool:=(bK p).kind==13&&(VW (bK p)&&(eU (bK p)).all (cI k))
theorem cyc_ok{k:KN}{p:PR}(h:CI k p=true):jD k p=(eU (bK p)).map bO:=by simp only [CI,aa1,beq_iff_eq] at h;rw [jD,CK,iT h]
theorem cyc_not{k:KN}{p:PR}(h:CI k p=false):jD k p=[]:=by rw [jD,CK,iF];intro hh;rw [CI,hh.1,hh.2.1,hh.2.2] at h;cases h
def RU(k:KN)(q:PR):Bool:=q.l.all (CI k)
def refB(k:KN)(q:PR):Bool:=RU k q&&(BO (eP k 0 q.l)&&eW k.chans.length (fA k q))
theorem JV(u:List EN):u=[]\/(∃x y,u=[x,y])\/(u.length≠0/\u.length≠2):=by
 match u with
 | []=>exact .inl T | [x]=>exact .inr (.inr ⟨by simp,by simp⟩)
 | [x,y]=>exact .inr (.inl ⟨x,y,rfl⟩) |x::y::z::r=>exact .inr (.inr ⟨by simp,by simp⟩)
theorem sN{u:List EN}(h0:u.length≠0)(h2:u.length≠2):qJ u=false:=by
 match u,h0,h2 with
 | [x],_,_=>rfl |x::y::z::r,_,_=>rfl
 | [],h,_=>simp at h | [x,y],_,h=>simp at h
theorem KW(k:KN)(q:PR)(m t:Bool)(hmt:(m&&t)=false)(hlast:Pure prog vT 13 [aB k.root,aU 10] (.tp [aB q,AB t]))(hmay:Pure prog vT 14 [eZ k] (AB m)):
 Pure prog vT 6 [eZ k] (yN k.chans.length (fA k q) false):=by
 cases m with
 |false=>
  refine P_ func6 143 fun _ _ _ _=>?_
  (refine b_ fun bx=>?_;refine b_ fun bx=>?_;refine y_ ?_)
  refine n_ hlast ?_
  (refine b_ fun bx=>?_;refine y_ ?_)
  refine c_ hmay ?_;refine m_ (d8.cell T T T (d8.tmp T d8.nil)) ?_;exact Sb.tp (.cons (.ag (.cons .refl (.cons .nil .refl))) .refl)
 |true=>
  rw [ab3] at hmt;subst hmt;refine P_ func6 143 fun _ _ _ _=>?_
  (refine b_ fun bx=>?_;refine b_ fun bx=>?_;refine y_ ?_)
  refine n_ hlast ?_
  (refine b_ fun bx=>?_;refine y_ ?_)
  refine c_ hmay ?_;refine m_ (d8.cell T T T (d8.tmp T d8.nil)) ?_;exact Sb.tp (.cons (.ag (.cons .refl (.cons .nil .refl))) .refl)
theorem US(k:KN)(q:PR)(g:Good k q)(h10:q.kind=10)(h64:k.chans.length<=64)(hlast:Pure prog vT 13 [aB k.root,aU 10] (.tp [aB q,AB true]))(hmay:Pure prog vT 14 [eZ k] (AB true))
 (R:AV) (hR:R=yN k.chans.length (fA k q) (kU k q)):Pure prog vT 6 [eZ k] R:=by
 have h16:=g.kf h10;have hcm:=(JE k.chans.length (fA k q) (G8 g)).any (gs:=vT);have hbad:mH (eP k 0 q.l)=false->R=yN k.chans.length (fA k q) false:=fun h=>by rw [hR,kU,h,ae4]
 have hTl:=NG (k:=k) (l:=q.l) 0 fun p hp=>g.l hp;have hgood:mH (eP k 0 q.l)=true->R=yN k.chans.length (fA k q) (eW k.chans.length (fA k q)):=fun h=>by rw [hR,kU,h,ab3]
 clear hR;obtain ⟨Tz9,hT⟩: ∃Tz9,Tz9=eP k 0 q.l:=⟨_,rfl⟩;rw [<-hT] at hbad hgood hTl;have hnet:(q.l.map fun p=>kC (gZ k p))=(fA k q).map kC:=by rw [fA,ai1];rfl
 refine P_ func6 143 fun _ _ _ _=>?_;refine b_ fun b1=>?_;refine A.b T fun b2=>?_;refine y_ ?_;refine n_ hlast ?_
 (refine b_ fun bx=>?_;refine y_ ?_)
 refine c_ hmay ?_;refine A.b T fun b6=>?_;refine A.db (.ag (List.replicate 64 (.v (.slice none 0 0)))) (by kernel_rfl) ?_;refine A.gu (.refl _) (x':= .ag (nQ [] fun _=> .slice none 0 0)) (fun h y r=>usr_from r) ?_;refine y_ ?_;refine A.ad 37 T (x':=AI (q.l.length:Nat)) (aM (by rw [aW])) ?_;refine A.ay [1,2,6,36,37,38] T ?_;refine A.gu (b:=b2) (x':= .ag [AI (k.chans.length:Nat), .sl 1 [] (some (.slice none 0 0))]) (.trans (.cons _ (.swap _ _ _)) (.swap _ _ _)) (fun h y r=>FA (HS (fun _ r=>by rwa [aa0] at r) (HS (fun _ r=>JD 1 r) fun _ r=>r)) y r) ?_;refine SL RE.size ?_;refine SM (sz:=3) 64 ?_;refine A.less (Λ':= .tail RE.size (.slice none 0 0):: .box b2 _:: .box b6 _:: .box b1 _::oX fun _=> .slice none 0 0) (.cons_cons _ (.cons_cons _ (.cons_cons _ (.cons _ (.cons_cons _ (by rw [WV];exact .refl _)))))) ?_
 refine A.ar (ι:=Nat×(List EN×((Nat->Value)×Value))) (fun s=>(⟨[(1, .v (.pointer (some ⟨b1,0,none⟩))),(2, .v (.pointer (some ⟨b2,0,none⟩))),(6, .v (.pointer (some ⟨b6,0,none⟩))),(36,iQ q.l),(37,AI (q.l.length:Nat)),(38,AI (s.1:Nat))],[]⟩, .tail RE.size s.2.2.2:: .box b2 (.ag [AI (k.chans.length:Nat), .sl 1 ((q.l.take s.1).map fun p=>kC (gZ k p)) (some s.2.2.2)]):: .box b6 (.ag (nQ s.2.1 s.2.2.1)):: .box b1 (eZ k)::oX s.2.2.1))
  (fun s=>s.1<=q.l.length/\s.2.1++eP k s.1 (q.l.drop s.1)=Tz9) (fun s=>q.l.length-s.1) (0,([],((fun _=> .slice none 0 0), .slice none 0 0))) ⟨ac0 _,hT.symm⟩ T fun s hi ih=>?_
 obtain ⟨i,E,z,zp⟩:=s;obtain ⟨hi1,hi2⟩:=hi;simp only at hi1 hi2;refine y_ ?_;refine k_ (fun hc=>?_) fun hc=>?_
 ·have hc:i<q.l.length:=by simpa using hc
  refine aX hc fun p hp=>?_;have gp:Good k p:=g.l (aa2 hp);have hcyc:=XV k p gp;have hC16:=fun s=>wD gp (s:=s);have hClen:=CL gp;have hCp:gZ k p=(jD k p).map (·.map (·.c)):=rfl;have h1:E++(t7 k i p++eP k (i+1) (q.l.drop (i+1)))=Tz9:=by have:=hi2;rw [bS hp,eP] at this;exact this
  rw [t7] at h1;refine eX (jD k p) fun C hC=>?_;rw [<-hC] at hcyc hC16 hClen hCp h1;refine eX (eP k (i+1) (q.l.drop (i+1))) fun X hX=>?_;rw [<-hX] at h1;refine y_ ?_;refine j_ T (cF hp) (bP p) ?_
  (refine b_ fun bx=>?_;refine y_ ?_)
  refine c_ hcyc ?_;refine A.ad 46 T (x':=AI (C.length:Nat)) (aM (by rw [aa0])) ?_;refine A.dr 9 ty32.size T ?_;refine A.ay [1,2,6,7,9,36,37,38,45,46,47] T ?_;refine A.less (.cons_cons _ (.cons _ (.refl _))) ?_
  refine A.ar (ι:=Nat×(Value×(List EN×(Nat->Value)))) (fun s=>(⟨[(1, .v (.pointer (some ⟨b1,0,none⟩))),(2, .v (.pointer (some ⟨b2,0,none⟩))),(6, .v (.pointer (some ⟨b6,0,none⟩))),(7,AI (i:Nat)),(9, .sl 1 ((C.take s.1).map fun t=>gG (t.map (·.c))) (some s.2.1)),(36,iQ q.l),(37,AI (q.l.length:Nat)),(38,AI (i:Nat)),(45,vO C),(46,AI (C.length:Nat)),(47,AI (s.1:Nat))],[]⟩, .tail ty32.size s.2.1:: .tail RE.size zp:: .box b2 (.ag [AI (k.chans.length:Nat), .sl 1 ((q.l.take i).map fun p=>kC (gZ k p)) (some zp)]):: .box b6 (.ag (nQ s.2.2.1 s.2.2.2)):: .box b1 (eZ k)::oX s.2.2.2))
   (fun s=>s.1<=C.length/\s.2.2.1++(((C.drop s.1).map (·.map (lT i))).flatten++X)=Tz9) (fun s=>C.length-s.1) (0,(.slice none 0 0,(E,z))) ⟨ac0 _,h1⟩ T fun s hj jh=>?_
  obtain ⟨j,z9,E1,z1⟩:=s;obtain ⟨hj1,hj2⟩:=hj;simp only at hj1 hj2;refine y_ ?_;refine k_ (fun hc=>?_) fun hc=>?_
  ·have hc:j<C.length:=by simpa using hc
   refine aX hc fun st hst=>?_;have hs16:=(hC16 st (aa2 hst)).1;have hsx:=(hC16 st (aa2 hst)).2;have h2:E1++(st.map (lT i)++(((C.drop (j+1)).map (·.map (lT i))).flatten++X))=Tz9:=by have:=hj2;rw [bS hst,ac8,aj9,ab7] at this;exact this
   refine eX (((C.drop (j+1)).map (·.map (lT i))).flatten++X) fun Y hY=>?_;rw [<-hY] at h2;refine y_ ?_;refine i_ T (aR hst) T ?_;refine A.ad 52 T (x':=AI (st.length:Nat)) (aM (by rw [aW])) ?_;refine A.dr 12 ty3.size T ?_;refine A.ay [1,2,6,7,9,12,36,37,38,45,46,47,51,52,53] T ?_
   refine A.ar (ι:=Nat×(Value×(List EN×(Nat->Value)))) (fun s=>(⟨[(1, .v (.pointer (some ⟨b1,0,none⟩))),(2, .v (.pointer (some ⟨b2,0,none⟩))),(6, .v (.pointer (some ⟨b6,0,none⟩))),(7,AI (i:Nat)),(9, .sl 1 ((C.take j).map fun t=>gG (t.map (·.c))) (some z9)),(12, .sl 1 ((st.take s.1).map fun x=>AI x.c) (some s.2.1)),(36,iQ q.l),(37,AI (q.l.length:Nat)),(38,AI (i:Nat)),(45,vO C),(46,AI (C.length:Nat)),(47,AI (j:Nat)),(51,iQ st),(52,AI (st.length:Nat)),(53,AI (s.1:Nat))],[]⟩, .tail ty3.size s.2.1:: .tail ty32.size z9:: .tail RE.size zp:: .box b2 (.ag [AI (k.chans.length:Nat), .sl 1 ((q.l.take i).map fun p=>kC (gZ k p)) (some zp)]):: .box b6 (.ag (nQ s.2.2.1 s.2.2.2)):: .box b1 (eZ k)::oX s.2.2.2))
    (fun s=>s.1<=st.length/\s.2.2.1++((st.drop s.1).map (lT i)++Y)=Tz9) (fun s=>st.length-s.1) (0,(.slice none 0 0,(E1,z1))) ⟨ac0 _,h2⟩ T fun s hk kh=>?_
   obtain ⟨t,z12,E2,z2⟩:=s;obtain ⟨hk1,hk2⟩:=hk;simp only at hk1 hk2;refine y_ ?_;refine k_ (fun hc=>?_) fun hc=>?_
   ·have hc:t<st.length:=by simpa using hc
    refine aX hc fun x hx=>?_;have hxm:=hsx x (aa2 hx);refine ac7 (DH (x:=x.c) ⟨hxm.2.1,by omega⟩) fun cn hcn=>?_;have h3:(E2++[lT i x])++((st.drop (t+1)).map (lT i)++Y)=Tz9:=by have:=hk2;rw [bS hx,ac8] at this;rw [ab7];exact this
    have hE2:(o5 E2 cn).length<=524288:=by have a1:=onC_le E2 cn;have a2:=congrArg List.length hk2;rw [aa7] at a2;omega
    have htk:st.take (t+1)=st.take t++[x]:=by rw [ac6,hx];rfl
    refine y_ ?_;refine j_ T (cF hx) (bP x) ?_
    (refine b_ fun bx=>?_;refine t_ fun bl=>?_)
    refine A.append T T T T T T T T T T T T T T (by show (((st.take t).map fun x=>AI x.c).length+1)*1<=_;rw [aa0,ac3];omega) fun z12'=>?_;refine y_ ?_;refine A.ad 12 T (x':= .sl 1 ((st.take (t+1)).map fun x=>AI x.c) (some z12')) (by rw [htk];simp only [ae2,ac8,ag7];rfl) ?_;refine A.perm (Λ':= .tail 3 (z2 cn):: .tail _ z12':: .box _ _:: .tail _ z9:: .tail _ zp:: .box b2 _:: .box b6 _:: .box b1 _::zQ z2 cn) (HG z2 hcn.1 [_,_,_,_,_,_,_]) ?_;refine A.gz 14 3 (z2 cn) 15 [0,1,2,3,4,5,6,7,8,9,10,11,12,13,14] (fun i=>if i=14 then [13] else []) [] (by decide) T (by kernel_rfl) ?_;refine w_ ?_;refine WA.ad 65 T (x':=AI (cn:Nat)) (aM hcn.2) ?_;refine WA.xa T (p:=cn) (by omega) (by omega) (xA cn) T ?_;refine WA.ra T (cR (W0 E2 z2) hcn.1) T ?_;refine uS 67 T (x':= .sl 3 ((o5 E2 cn).map sT) (some (z2 cn))) T ?_;refine WA.lit T T T T T T T fun bw=>?_;refine WA.append T T T T T T T T T T T T T T T T T T (.pub (j:=13) T T (.sub .refl)) (by show (((o5 E2 cn).map sT).length+1)*3<=_;rw [aa0];omega) fun z'=>?_;refine WA.nil (l:=[.tail 3 z']) T ?_;refine A.ad 63 T (x':=AI (cn:Nat)) (aM hcn.2) ?_;refine A.xa T (p:=cn) (by omega) (by omega) (xA cn) T ?_;refine A.wa T T (by rw [nQ,cE];exact hcn.1) (usr_set E2 z2 (lT i x) cn hcn.2 z') ?_;refine A.perm (Λ':= .tail _ z12':: .box _ _:: .tail _ z9:: .tail _ zp:: .box b2 _:: .box b6 _:: .box b1 _::oX (upd z2 cn z')) (tails_in z2 hcn.1 z' [_,_,_,_,_,_,_]) ?_;refine A.less (.cons_cons _ (.cons _ (.refl _))) ?_;refine y_ ?_;refine vI 53 t ?_;refine u_ (kh (t+1,(z12',(E2++[lT i x],upd z2 cn z'))) ⟨by show t+1<=_;omega,h3⟩ (by show _-(t+1)<_-t;omega))
   have hc: ¬t<st.length:=by simpa using hc
   have oZ:t=st.length:=by omega
   have h3:E2++Y=Tz9:=by have:=hk2;rw [oZ,ad2] at this;exact this
   have htk:C.take (j+1)=C.take j++[st]:=by rw [ac6,hst];rfl
   refine A.val 12 T .cw ?_;refine A.ad 12 T (x':=gG (st.map (·.c))) (by rw [oZ,ac4];show _=AV.sl 1 ((st.map (·.c)).map AI) none;rw [ai1];rfl) ?_;refine t_ fun bl=>?_;refine A.append T T T T T T T T T T T T T T (by show (((C.take j).map fun t=>gG (t.map (·.c))).length+1)*1<=_;rw [aa0,ac3];omega) fun z9'=>?_;refine y_ ?_;refine A.ad 9 T (x':= .sl 1 ((C.take (j+1)).map fun t=>gG (t.map (·.c))) (some z9')) (by rw [htk];simp only [ae2,ac8,ag7];rfl) ?_;refine A.less (.cons_cons _ (.cons _ (.refl _))) ?_;refine vI 47 j ?_;refine u_ (jh (j+1,(z9',(E2,z2))) ⟨by show j+1<=_;omega,by show E2++(((C.drop (j+1)).map (·.map (lT i))).flatten++X)=Tz9;rw [<-hY];exact h3⟩ (by show _-(j+1)<_-j;omega))
  have hc: ¬j<C.length:=by simpa using hc
  have hjl:j=C.length:=by omega
  have h2:E1++X=Tz9:=by have:=hj2;rw [hjl,ad2] at this;exact this
  have htk:q.l.take (i+1)=q.l.take i++[p]:=by rw [ac6,hp];rfl
  refine A.val 9 T .cw ?_;refine A.ad 9 T (x':=kC (gZ k p)) (by rw [hjl,ac4,hCp];show _=AV.sl 1 ((C.map (·.map (·.c))).map gG) none;rw [ai1];rfl) ?_;refine t_ fun bl=>?_;refine A.append T T T T T T T T T T T T T T (by show (((q.l.take i).map fun p=>kC (gZ k p)).length+1)*1<=_;rw [aa0,ac3];omega) fun zp'=>?_;refine e_ 88 T (x':= .sl 1 ((q.l.take (i+1)).map fun p=>kC (gZ k p)) (some zp')) (by rw [htk];simp only [ae2,ac8,ag7];rfl) ?_;refine A.less (.cons_cons _ (.cons _ (.refl _))) ?_;refine vI 38 i ?_;refine u_ (ih (i+1,(E1,(z1,zp'))) ⟨by show i+1<=_;omega,by show E1++eP k (i+1) (q.l.drop (i+1))=Tz9;rw [<-hX];exact h2⟩ (by show _-(i+1)<_-i;omega))
 have hc: ¬i<q.l.length:=by simpa using hc
 have hil:i=q.l.length:=by omega
 have hET:E=Tz9:=by have:=hi2;rw [hil,ad2,eP,ae3] at this;exact this
 refine A.au (Λ':= .tail RE.size zp:: .box b2 (.ag [AI (k.chans.length:Nat), .sl 1 ((fA k q).map kC) (some zp)]):: .box b6 (.ag (nQ Tz9 z)):: .box b1 (eZ k)::oX z) (by rw [hil,ac4,hnet,hET]) ?_;(repeat refine A.s T ?_);refine A.la T (by rw [nQ,cE];rfl) T ?_;(repeat refine A.s T ?_);refine A.ay [2,91,92] T ?_;refine A.less (Λ':=[.box b2 (.ag [AI (k.chans.length:Nat), .sl 1 ((fA k q).map kC) (some zp)])]) (.cons _ (.cons_cons _ (ae1 _))) ?_
 refine A.ar (ι:=Nat) (fun c=>(⟨[(2, .v (.pointer (some ⟨b2,0,none⟩))),(91, .ag (nQ Tz9 z)),(92,AI (c:Nat))],[]⟩,[.box b2 (.ag [AI (k.chans.length:Nat), .sl 1 ((fA k q).map kC) (some zp)])]))
  (fun c=>c<=64/\ ∀d,d<c->qJ (o5 Tz9 d)=true) (fun c=>64-c) 0 ⟨ac0 _,fun d hd=>by omega⟩ T fun c hc64 ch=>?_
 obtain ⟨hc1,hc2⟩:=hc64;refine y_ ?_;refine k_ (fun hc=>?_) fun hc=>?_
 ·have hc:c<64:=by have:=hc;simp at this;omega
  have hno:qJ (o5 Tz9 c)=false->R=yN k.chans.length (fA k q) false:=fun h=>hbad (by
   cases hp:mH Tz9 with
   |false=>rfl |true=>
    rw [mH,ac5] at hp;rw [hp c (ae9.2 hc)] at h;cases h)
  have hyes:qJ (o5 Tz9 c)=true-> ∀d,d<c+1->qJ (o5 Tz9 d)=true:=fun h d hd=>by
   by_cases e:d=c
   ·subst e;exact h
   ·exact hc2 d (by omega)
  (repeat refine A.s T ?_);refine A.ev (m:=64) T (by show (0:Int)<=(c:Nat);omega) (by omega) (y:= .sl 3 ((o5 Tz9 c).map sT) (some (z c))) (by show (nQ Tz9 z)[(c:Int).toNat*1]? =_;rw [ao1,ad9];exact cR (W0 Tz9 z) hc) T ?_;refine y_ ?_;refine eX (o5 Tz9 c) fun u hu=>?_;rw [<-hu] at hno hyes;refine A.ad 16 T (x':= .sl 3 (u.map sT) (some (z c))) (by rw [hu]) ?_;refine A.ay [2,16,91,92] T ?_;refine Or.elim (JV u) (fun h=>?_) (fun h=>Or.elim h (fun h=>?_) (fun h=>?_))
  ·have hy:=hyes (by rw [h];rfl);refine A.ad 16 T (x':= .sl 3 [] (some (z c))) (by rw [h];rfl) ?_;refine d_ 38 [0,1,2,3,4,5,6,7,8,9,10,11,12,13,14,15,16,17,18,19,20,21,22,23,24,25,26,27,28,29,30,31,32,33,34,35,36,37] [] ?_;refine WA.ad 98 T (x':=AB false) (aA T) ?_;refine z_ ?_;refine vI 92 c ?_;refine u_ (ch (c+1) ⟨by omega,hy⟩ (by omega))
  ·refine ac7 h fun x h=>ac7 h fun y h=>?_;refine A.ad 16 T (x':= .sl 3 [sT x,sT y] (some (z c))) (by rw [h];rfl) ?_;refine d_ 38 [0,1,2,3,4,5,6,7,8,9,10,11,12,13,14,15,16,17,18,19,20,21,22,23,24,25,26,27,28,29,30,31,32,33,34,35,36,37] [] ?_;refine WA.ad 98 T (x':=AB true) (aA T) ?_;refine WA.ad 102 T (x':=AB false) (aA T) ?_;refine rM T T T ?_;refine rM T T T ?_;refine WA.gS T (fun hb=>?_) (fun hb=>?_)
   ·have hb:(x.b==y.b)=true:=hb;rw [hno (by rw [h];show nU x y=false;rw [nU,bne,hb];rfl)];refine w_ ?_;refine z_ ?_;refine m_ (d8.cell T T T (d8.tmp T d8.nil)) ?_;exact Sb.tp (.cons (.ag (.cons .refl (.cons .nil .refl))) .refl)
   have hb:(x.b==y.b)=false:=hb;refine w_ ?_;refine rM T T T ?_;refine rM T T T ?_;refine WA.gS T (fun ho=>?_) (fun ho=>?_)
   ·have ho:(x.out==y.out)=true:=ho;rw [hno (by rw [h];show nU x y=false;rw [nU,bne,bne,hb,ho];rfl)];refine w_ ?_;refine z_ ?_;refine m_ (d8.cell T T T (d8.tmp T d8.nil)) ?_;exact Sb.tp (.cons (.ag (.cons .refl (.cons .nil .refl))) .refl)
   have ho:(x.out==y.out)=false:=ho;refine w_ ?_;refine rM T T T ?_;refine rM T T T ?_;refine z_ ?_;refine k_ (fun hc=>?_) fun hc=>?_
   ·have hit:(!(x.item==y.item))=true:=hc;rw [hno (by rw [h];show nU x y=false;rw [nU,show (x.item==y.item)=false by simpa using hit];simp)];refine y_ ?_;refine m_ (d8.cell T T T (d8.tmp T d8.nil)) ?_;exact Sb.tp (.cons (.ag (.cons .refl (.cons .nil .refl))) .refl)
   have hit:(!(x.item==y.item))=false:=hc;have hy:=hyes (by rw [h];show nU x y=true;rw [nU,bne,bne,hb,ho,show (x.item==y.item)=true by simpa using hit];rfl);refine y_ ?_;refine vI 92 c ?_;refine u_ (ch (c+1) ⟨by omega,hy⟩ (by omega))
  ·rw [hno (sN h.1 h.2)];refine d_ 38 [0,1,2,3,4,5,6,7,8,9,10,11,12,13,14,15,16,17,18,19,20,21,22,23,24,25,26,27,28,29,30,31,32,33,34,35,36,37] [] ?_;refine uS 98 T (x':=AB true) (aA (by rw [aa0];show (!((u.length:Int)==0))=true;rw [beq_eq_false_iff_ne.2 (show (u.length:Int)≠0 by have:=h.1;omega)];rfl)) ?_;refine uS 102 T (x':=AB true) (aA (by rw [aa0];show (!((u.length:Int)==2))=true;rw [beq_eq_false_iff_ne.2 (show (u.length:Int)≠2 by have:=h.2;omega)];rfl)) ?_;refine z_ ?_;refine m_ (d8.cell T T T (d8.tmp T d8.nil)) ?_;exact Sb.tp (.cons (.ag (.cons .refl (.cons .nil .refl))) .refl)
 have hc: ¬c<64:=by have:=hc;simp at this;omega
 rw [hgood (by rw [mH,ac5];intro d hd;exact hc2 d (by have:=ae9.1 hd;omega))];refine y_ ?_;refine A.c T hcm (.cons (.ag (.cons .refl (.cons .cw .refl))) .refl) ?_;refine y_ ?_;cases hb:eW k.chans.length (fA k q) with
 |false=>refine y_ ?_;refine m_ (d8.cell T T T (d8.tmp T d8.nil)) ?_;exact Sb.tp (.cons (.ag (.cons .refl (.cons .nil .refl))) .refl) |true=>
  refine y_ ?_;refine m_ (d8.cell T T T (d8.tmp T d8.nil)) ?_;exact Sb.tp (.cons (.ag (.cons .refl (.cons .cw .refl))) .refl)
theorem class_p(k:KN)(hw:KG k):Pure prog vT 6 [eZ k] (yN k.chans.length (fA k (bK k.root)) (nV k&&(bK k.root).kind==10&&kU k (bK k.root))):=by
 have hmay:=(I3 k hw).any (gs:=vT);have hlast:=(ZV k.root 10 (oM hw.root).ll).any (gs:=vT);cases hm:nV k with
 |false=>
  rw [hm] at hmay;rw [ae4,ae4];exact KW k _ false _ T hlast hmay
 |true=>
  rw [hm] at hmay;rw [ab3];cases ht:((bK k.root).kind==10) with
  |false=>
   rw [ht] at hlast;exact KW k _ true false T hlast hmay
  |true=>
   rw [ht] at hlast;rw [ab3];have hg:=yU hw hm;refine US k _ hg.1.last (by simpa using ht) hg.2 hlast hmay _ T
def uD(n:Int)(c:bX):List Int×Int:=if eW n c=true then (match ZS (beforeF c) n.toNat with
 |some rk=>((List.range n.toNat).map rk,0) |none=>([],230)) else ([],2)
abbrev rankA(p:List Int×Int):AV:= .tp [gG p.1,AI p.2]
theorem rankR_no{n:Int}{c:bX}(h:eW n c=false):uD n c=([],2):=by rw [uD,h];rfl
theorem QM{m:Nat}{c:bX}(h:eW m c=true){rk:Rk}(hk:ZS (beforeF c) m=some rk):uD m c=((List.range m).map rk,0):=by rw [uD,iT h,ad9,hk]
theorem QL{m:Nat}{c:bX}(h:eW m c=true)(hk:ZS (beforeF c) m=none):uD m c=([],230):=by rw [uD,iT h,ad9,hk]
abbrev W5(m:Nat)(rk:Rk):List AV:=(List.range m).map fun i=>AI (rk i)
theorem BS(m:Nat)(rk:Rk):(W5 m rk).length=m:=by rw [aa0,ai6]
theorem row_rkA(m:Nat)(rk:Rk):gG ((List.range m).map rk)= .sl 1 (W5 m rk) none:=by show AV.sl 1 (((List.range m).map rk).map AI) none=_;rw [ai1];rfl
theorem PI{α:Type}(f:α->Nat->α)(a:α)(m:Nat):(List.range (m+1)).foldl f a=f ((List.range m).foldl f a) m:=by rw [List.range_succ,aj2];rfl
theorem gt_max(a b:Int):(if b>a then b else a)=max a b:=by rw [Int.max_def];split<;>split<;>omega
theorem QN(n:Int)(c:bX)(hs:uJ c)(hz:mL c<=1000):Pure prog a9 10 [P7 n c] (rankA (uD n c)):=by
 have hmay:=JE n c hs;cases hm:eW n c with
 |false=>
  rw [hm] at hmay;refine P_ func10 83 fun _ _ _ _=>?_
  (refine b_ fun bx=>?_;refine y_ ?_)
  refine c_ hmay ?_;refine q_ ?_;rw [rankR_no hm];exact .tp (.cons .nil (.cons .refl .nil))
 |true=>
 rw [hm] at hmay;have hv:=(wY hz).1 hm;have hin:=hv.inB;have hn:=P5 hv.g;have hbef:=CB n c hs hin;obtain ⟨m,rfl⟩: ∃m:Nat,n=m:=⟨n.toNat,by omega⟩;have hm64:m<=64:=by omega
 generalize hsd:beforeF c=s at hbef;refine P_ func10 83 fun _ _ _ _=>?_
 (refine b_ fun bx=>?_;refine y_ ?_)
 refine c_ hmay ?_;refine n_ hbef ?_;refine A.b T fun b1=>?_;refine A.db (.ag (l7 fun _=>0)) (by kernel_rfl) ?_;refine A.wl T (xM _) (cE _) (cE _) ?_;refine y_ ?_;refine A.ez T T T T T T T T T T T T (by omega) ?_ (by omega) fun a cp hca=>?_
 ·show (8:Int)*_<=_;omega
 refine y_ ?_;refine A.ad 6 T (x':=rD 0) T ?_;refine A.au (Λ':=[.row 1 (.slice a m cp) (W5 m fun _=>0), .box b1 (.ag (l7 s)), .box _ (.ag [AI m,c0 c])]) (by rw [W5,List.map_const',ai6];rfl) ?_;refine A.ay [1,4,5,6,7] T ?_
 refine A.ar (ι:=Rk×cV×Int×Nat) (fun q=>(⟨[(1, .v (.pointer (some ⟨_,0,none⟩))),(4, .v (.pointer (some ⟨b1,0,none⟩))),(5, .ms (.slice a m cp) 1 m),(6,rD q.2.1),(7,AI q.2.2.1)],[]⟩,[.row 1 (.slice a m cp) (W5 m q.1), .box b1 (.ag (l7 s)), .box _ (.ag [AI m,c0 c])]))
  (fun q=>MN s m q.2.2.2 q.1 q.2.1 q.2.2.1=ZS s m/\q.2.2.1<=q.2.2.2/\ -64<=q.2.2.1/\q.2.2.1<=64) (fun q=>q.2.2.2) (fun _=>0,0,(m:Int),m) ⟨rfl,by simp only;omega,by simp only;omega,by simp only;omega⟩ T fun q hi ih=>?_
 obtain ⟨rk,done,left,f⟩:=q;simp only at hi ih⊢;refine y_ ?_;refine k_ (fun hc=>?_) fun hc=>?_
 ·simp at hc;have hl:=hc;obtain ⟨f',rfl⟩: ∃f',f=f'+1:=⟨f-1,by omega⟩;have h1:=hi.1;rw [MN,iF (by omega)] at h1;refine y_ ?_;refine A.ad 26 T (x':=AI (m:Nat)) T ?_;refine A.ad 9 T (x':=rD 0) T ?_;refine A.ay [1,4,5,6,7,8,9,26,27] T ?_
  refine A.ar (ι:=Nat) (fun x=>(⟨[(1, .v (.pointer (some ⟨_,0,none⟩))),(4, .v (.pointer (some ⟨b1,0,none⟩))),(5, .ms (.slice a m cp) 1 m),(6,rD done),(7,AI (hJ s m done rk left x).2.2),(8,AI left),(9,rD (hJ s m done rk left x).2.1),(26,AI (m:Nat)),(27,AI (x:Nat))],[]⟩,[.row 1 (.slice a m cp) (W5 m (hJ s m done rk left x).1), .box b1 (.ag (l7 s)), .box _ (.ag [AI m,c0 c])]))
   (fun x=>x<=m) (fun x=>m-x) 0 (by omega) T fun x hx xh=>?_
  have hrl:=V5 s m done rk left x;have hsu:=G5 s m done rk left x;refine y_ ?_;refine k_ (fun hc=>?_) fun hc=>?_
  ·simp at hc;have hxm:x<m:=by omega
   have hx64:x<64:=by omega
   rw [rkX] at hsu;refine y_ ?_;refine A.shift T T T T T T (by omega) ?_;refine e_ 32 T (x':=rD (done>>>x)) (lG (ushr _ _ hx64)) ?_;refine A.ad 35 T (x':=AB (done.getLsbD x)) (aA (XQ _ x)) ?_
   ((fail_if_success (refine A.lit? T ?_));refine A.gS T (fun hc=>?_) (fun hc=>?_))
   ·have hr:rdy s done x=false:=by rw [rdy,hc];rfl
    rw [hr] at hsu;refine y_ ?_;refine vI 27 x ?_;refine A.ad 7 T (x':=AI (hJ s m done rk left (x+1)).2.2) (by rw [hsu];rfl) ?_;refine A.ad 9 T (x':=rD (hJ s m done rk left (x+1)).2.1) (by rw [hsu];rfl) ?_;refine A.au (Λ':=[.row 1 (.slice a m cp) (W5 m (hJ s m done rk left (x+1)).1), .box b1 (.ag (l7 s)), .box _ (.ag [AI m,c0 c])]) (by rw [hsu];rfl) ?_;refine u_ (xh (x+1) (by omega) (by omega))
   have hdx:=hc;refine y_ ?_;refine A.xa T (p:=x) (by omega) (by omega) (xA x) T ?_;refine A.ra T (cR _ hx64) T ?_;refine y_ ?_;refine A.ad 42 T (x':=AB (!rdy s done x)) (aA ?_) ?_
   ·rw [uandn,rdy,hdx,ab8];simp only [Bool.false_or,Bool.not_not,bne_iff_ne,ne_eq,Bool.cond_false];apply not_congr;constructor
    ·intro h;exact BitVec.eq_of_toNat_eq (by have h:((s x&&& ~~~done).toNat:Int)=0:=h;rw [show (0:cV).toNat=0 from rfl];omega)
    ·intro h;rw [h];rfl
   refine k_ (fun hc=>?_) fun hc=>?_
   ·have hr:rdy s done x=false:=by simpa using hc
    rw [hr] at hsu;refine y_ ?_;refine vI 27 x ?_;refine A.ad 7 T (x':=AI (hJ s m done rk left (x+1)).2.2) (by rw [hsu];rfl) ?_;refine A.ad 9 T (x':=rD (hJ s m done rk left (x+1)).2.1) (by rw [hsu];rfl) ?_;refine A.au (Λ':=[.row 1 (.slice a m cp) (W5 m (hJ s m done rk left (x+1)).1), .box b1 (.ag (l7 s)), .box _ (.ag [AI m,c0 c])]) (by rw [hsu];rfl) ?_;refine u_ (xh (x+1) (by omega) (by omega))
   have hr:rdy s done x=true:=by simpa using hc
   rw [hr,iT T] at hsu;refine y_ ?_;refine A.ad 44 T (x':=AI (m:Nat)) T ?_;refine A.ay [1,4,5,6,7,8,9,10,26,27,44,45] T ?_
   refine A.ar (ι:=Nat) (fun d=>(⟨[(1, .v (.pointer (some ⟨_,0,none⟩))),(4, .v (.pointer (some ⟨b1,0,none⟩))),(5, .ms (.slice a m cp) 1 m),(6,rD done),(7,AI (hJ s m done rk left x).2.2),(8,AI left),(9,rD (hJ s m done rk left x).2.1),(10,AI (x:Nat)),(26,AI (m:Nat)),(27,AI (x:Nat)),(44,AI (m:Nat)),(45,AI (d:Nat))],[]⟩,[.row 1 (.slice a m cp) (W5 m ((List.range d).foldl (rkD s x) (hJ s m done rk left x).1)), .box b1 (.ag (l7 s)), .box _ (.ag [AI m,c0 c])]))
    (fun d=>d<=m) (fun d=>m-d) 0 (by omega) T fun d hd dh=>?_
   have hds:=PI (rkD s x) (hJ s m done rk left x).1 d;refine y_ ?_;refine k_ (fun hc=>?_) fun hc=>?_
   ·simp at hc;have hdm:d<m:=by omega
    have hd64:d<64:=by omega
    rw [rkD] at hds;refine y_ ?_;refine A.xa T (p:=x) (by omega) (by omega) (xA x) T ?_;refine A.ra T (cR _ hx64) T ?_;refine y_ ?_;refine A.shift T T T T T T (by omega) ?_;refine e_ 52 T (x':=rD (s x>>>d)) (lG (ushr _ _ hd64)) ?_;refine A.ad 54 T (x':=AB ((s x).getLsbD d)) (aA (XQ _ d)) ?_;refine k_ (fun hc=>?_) fun hc=>?_
    ·rw [hc,iT T] at hds;refine d_ 12 [0,1,2,3,4,5,6,7,8,9,10,11] [] ?_;refine WA.ax T T T T T T T T T (by omega) (by rw [BS];omega) T ?_;refine WA.cy T T T T T T T (y':=AI _) T (cR _ hxm) T T ?_;refine w_ ?_;refine WA.ax T T T T T T T T T (by omega) (by rw [BS];omega) T ?_;refine WA.cy T T T T T T T (y':=AI _) T (cR _ hdm) T T ?_;refine w_ ?_;refine WA.nil (l:=[]) T ?_;refine A.ax T T T T T T T T (by omega) (by rw [BS];omega) T ?_;refine A.ad 66 T (x':=AI (max (((List.range d).foldl (rkD s x) (hJ s m done rk left x).1) x) (w64 (((List.range d).foldl (rkD s x) (hJ s m done rk left x).1) d+1)))) (aM ?_) ?_
     ·exact gt_max _ _
     refine A.cd T T T T T T T T T (by rw [BS];exact hxm) (xs':=W5 m ((List.range (d+1)).foldl (rkD s x) (hJ s m done rk left x).1)) (by rw [hds];exact tK AI _ x _) ?_;refine y_ ?_;refine vI 45 d ?_;refine u_ (dh (d+1) (by omega) (by omega))
    ·rw [hc,iF (by simp)] at hds;refine y_ ?_;refine A.au (Λ':=[.row 1 (.slice a m cp) (W5 m ((List.range (d+1)).foldl (rkD s x) (hJ s m done rk left x).1)), .box b1 (.ag (l7 s)), .box _ (.ag [AI m,c0 c])]) (by rw [hds]) ?_;refine vI 45 d ?_;refine u_ (dh (d+1) (by omega) (by omega))
   ·simp at hc;have hdl:d=m:=by omega
    subst hdl;refine y_ ?_;refine A.shift T T T T T T (by omega) ?_;refine y_ ?_;refine vI 27 x ?_;refine A.ad 7 T (x':=AI (hJ s d done rk left (x+1)).2.2) (aM (by rw [hsu];simp only;exact sU (by unfold i64;omega))) ?_;refine A.ad 9 T (x':=rD (hJ s d done rk left (x+1)).2.1) (lG (by rw [ushl x hx64,uor,hsu])) ?_;refine A.au (Λ':=[.row 1 (.slice a d cp) (W5 d (hJ s d done rk left (x+1)).1), .box b1 (.ag (l7 s)), .box _ (.ag [AI d,c0 c])]) (by rw [hsu]) ?_;refine u_ (xh (x+1) (by omega) (by omega))
  ·simp at hc;have hxl:x=m:=by omega
   subst hxl;refine y_ ?_;refine A.ad 6 T (x':=rD (done|||(hJ s x done rk left x).2.1)) (lG (uor _ _)) ?_;refine A.ad 81 T (x':=AB (decide ((hJ s x done rk left x).2.2=left))) (aA (by rw [ab8];simp)) ?_;refine k_ (fun hc=>?_) fun hc=>?_
   ·simp at hc;rw [iT hc] at h1;refine y_ ?_;refine q_ ?_;rw [QL hm (by rw [hsd];exact h1.symm)];exact .tp (.cons .nil (.cons .refl .nil))
   ·simp at hc;rw [iF hc] at h1;refine y_ ?_;refine u_ (ih ((hJ s x done rk left x).1,done|||(hJ s x done rk left x).2.1,(hJ s x done rk left x).2.2,f') ⟨h1,by simp only;omega,by simp only;omega,by simp only;omega⟩ (by simp only;omega))
 ·simp at hc;have h1:ZS s m=some rk:=by
   rw [<-hi.1];cases f with
   |zero=>rfl |succ f=>rw [MN,iT (by omega)]
  refine A.cf 5 T ?_;refine y_ ?_;refine q_ ?_;rw [QM hm (by rw [hsd];exact h1)];show Sb (.tp [_,_]) (.tp [gG _,AI 0]);rw [row_rkA];exact .refl
def n7(n:Int)(c:bX):List Int×Bool:=if eW n c=true then (match r7 (beforeF c) n.toNat with
 |some l=>(l.map fun d:Nat=>(d:Int),true) |none=>([],false)) else ([],false)
abbrev cycA(p:List Int×Bool):AV:= .tp [gG p.1,AB p.2]
theorem YE{n:Int}{c:bX}(h:eW n c=false):n7 n c=([],false):=by rw [n7,h];rfl
theorem qC{m:Nat}{c:bX}(h:eW m c=true){l:List Nat}(hk:r7 (beforeF c) m=some l):n7 m c=(l.map fun d:Nat=>(d:Int),true):=by rw [n7,iT h,ad9,hk]
theorem CJ{m:Nat}{c:bX}(h:eW m c=true)(hk:r7 (beforeF c) m=none):n7 m c=([],false):=by rw [n7,iT h,ad9,hk]
abbrev w8(l:List Nat):List AV:=l.map fun d:Nat=>AI (d:Int)
theorem GJ(l:List Nat):gG (l.map fun d:Nat=>(d:Int))= .sl 1 (w8 l) none:=by show AV.sl 1 ((l.map _).map AI) none=_;rw [ai1];rfl
theorem Y1{s:Nat->cV}{to x:Nat}(ht:to<64)(hx:x<64):0<=eI s to x/\eI s to x<=66:=by rcases pE (s:=s) ht hx with ⟨h,_⟩|⟨m,h,_,h2⟩<;>omega
theorem best_le(s:Nat->cV){m:Nat}(hm:m<=64):0<=(cA s m).2/\(cA s m).2<=66/\ -1<=(cA s m).1/\(cA s m).1<64:=by
 rcases p9 s m with ⟨h,_⟩|⟨f,h1,h2⟩
 ·rw [h];decide
 ·have:=Y1 (s:=s) (to:=f) (x:=f) (by have:=h2.lt;omega) (by have:=h2.lt;omega);rw [h2.eq] at this;have:=h2.lt;omega
theorem last_at(l:List Nat)(x:Nat):(l++[x])[l.length]? =some x:=by simp
theorem H9(n:Int)(c:bX)(hs:uJ c)(hz:mL c<=1000):Pure prog a9 7 [P7 n c] (cycA (n7 n c)):=by
 have hmay:=JE n c hs;cases hm:eW n c with
 |false=>
  rw [hm] at hmay;refine P_ func7 87 fun _ _ _ _=>?_
  (refine b_ fun bx=>?_;refine y_ ?_)
  refine c_ hmay ?_;refine q_ ?_;rw [YE hm];exact .tp (.cons .nil (.cons .refl .nil))
 |true=>
 rw [hm] at hmay;have hv:=(wY hz).1 hm;have hin:=hv.inB;have hn:=P5 hv.g;have hbef:=CB n c hs hin;obtain ⟨m,rfl⟩: ∃m:Nat,n=m:=⟨n.toNat,by omega⟩;have hm64:m<=64:=by omega
 have hlt:=fun x d=>yL hv x d;generalize hsd:beforeF c=s at hbef hlt;refine P_ func7 87 fun _ _ _ _=>?_
 (refine b_ fun bx=>?_;refine y_ ?_)
 refine c_ hmay ?_;refine n_ hbef ?_;refine A.b T fun b1=>?_;refine A.db (.ag (l7 fun _=>0)) (by kernel_rfl) ?_;refine A.wl T (xM _) (cE _) (cE _) ?_;refine y_ ?_;refine A.ay [1,4,5,6,19,20] T ?_
 refine A.ar (ι:=Nat) (fun x=>(⟨[(1, .v (.pointer (some ⟨_,0,none⟩))),(4, .v (.pointer (some ⟨b1,0,none⟩))),(5,AI (cA s x).1),(6,AI (cA s x).2),(19,AI (m:Nat)),(20,AI (x:Nat))],[]⟩,[.box b1 (.ag (l7 s)), .box _ (.ag [AI m,c0 c])]))
  (fun x=>x<=m) (fun x=>m-x) 0 (by omega) T fun x hx xh=>?_
 have hsu:=CC s x;rw [RY] at hsu;refine y_ ?_;refine k_ (fun hc=>?_) fun hc=>?_
 ·simp at hc;have hxm:x<m:=by omega
  have hx64:x<64:=by omega
  have hfl:=Y1 (s:=s) hx64 hx64;(repeat refine A.s T ?_);refine A.la T (cE _) T ?_;(repeat refine A.s T ?_);refine n_ (far_p s x hx64) ?_;(repeat refine A.s T ?_);refine A.ev (y:=AI (eI s x x)) T (by omega) (by omega) (by show (tY (eI s x))[x*1]? =_;rw [ao1];exact cR _ hx64) T ?_;refine y_ ?_;refine A.ad 30 T (x':=AB (decide (0<eI s x x))) T ?_
  ((fail_if_success (refine A.lit? T ?_));refine A.gS T (fun hc=>?_) (fun hc=>?_))
  ·simp at hc;have h1:=hc;refine y_ ?_;refine A.ad 33 T (x':=AB (decide ((cA s x).2=0))) (aA (by rw [ab8];simp)) ?_
   ((fail_if_success (refine A.lit? T ?_));refine A.gS T (fun hc=>?_) (fun hc=>?_))
   ·simp at hc;rw [iT ⟨h1, .inl hc⟩] at hsu;refine y_ ?_;refine vI 20 x ?_;refine A.ad 5 T (x':=AI (cA s (x+1)).1) (by rw [hsu]) ?_;refine A.ad 6 T (x':=AI (cA s (x+1)).2) (by rw [hsu]) ?_;refine u_ (xh (x+1) (by omega) (by omega))
   ·simp at hc;have h2:=hc;refine y_ ?_;refine k_ (fun hc=>?_) fun hc=>?_
    ·simp at hc;rw [iT ⟨h1, .inr hc⟩] at hsu;refine y_ ?_;refine vI 20 x ?_;refine A.ad 5 T (x':=AI (cA s (x+1)).1) (by rw [hsu]) ?_;refine A.ad 6 T (x':=AI (cA s (x+1)).2) (by rw [hsu]) ?_;refine u_ (xh (x+1) (by omega) (by omega))
    ·simp at hc;rw [iF (fun h=>by have:=h.2;omega)] at hsu;refine y_ ?_;refine vI 20 x ?_;refine A.ad 5 T (x':=AI (cA s (x+1)).1) (by rw [hsu]) ?_;refine A.ad 6 T (x':=AI (cA s (x+1)).2) (by rw [hsu]) ?_;refine u_ (xh (x+1) (by omega) (by omega))
  ·simp at hc;rw [iF (fun h=>by have:=h.1;omega)] at hsu;refine y_ ?_;refine vI 20 x ?_;refine A.ad 5 T (x':=AI (cA s (x+1)).1) (by rw [hsu]) ?_;refine A.ad 6 T (x':=AI (cA s (x+1)).2) (by rw [hsu]) ?_;refine u_ (xh (x+1) (by omega) (by omega))
 simp at hc;have hxl:x=m:=by omega
 subst hxl;have hbl:=best_le s hm64;refine y_ ?_;refine k_ (fun hc=>?_) fun hc=>?_
 ·simp at hc;refine y_ ?_;refine q_ ?_;rw [CJ hm (by rw [hsd,r7,iT hc])];exact .tp (.cons .nil (.cons .refl .nil))
 simp at hc;have hcv:r7 s x=some ((cA s x).1.toNat::rE s x (eI s (cA s x).1.toNat) (cA s x).2 66 (cA s x).1.toNat 1):=by rw [r7,iF (by omega)]
 refine ac7 (show∃a:Nat,(cA s x).1=a/\a<x from ?_) fun fst hf=>?_
 ·rcases p9 s x with ⟨h,_⟩|⟨f,h1,h2⟩
  ·rw [h] at hc;simp at hc
  ·exact ⟨f,h1,h2.lt⟩
 obtain ⟨hf1,hf2⟩:=hf;rw [hf1,ad9] at hcv;refine A.ad 5 T (x':=AI (fst:Nat)) (aM hf1) ?_;have hf64:fst<64:=by omega
 (repeat refine A.s T ?_);refine A.la T (cE _) T ?_;(repeat refine A.s T ?_);refine n_ (far_p s fst hf64) ?_;refine A.b T fun b2=>?_;refine A.db (.ag (tY fun _=>0)) (by kernel_rfl) ?_;refine A.wl T (IX _) (cE _) (cE _) ?_
 (refine t_ fun bl=>?_;refine y_ ?_)
 refine A.dj 1 1 (some ⟨bl,0,none⟩) (fun h=>by cases h) (fun x hx=>by injection hx with hx;subst hx;rfl) ?_;refine A.ay [1,4,6,9,10] T ?_
 refine A.ar (ι:=List Nat×Nat×Value×Nat) (fun q=>(⟨[(1, .v (.pointer (some ⟨_,0,none⟩))),(4, .v (.pointer (some ⟨b1,0,none⟩))),(6,AI (cA s x).2),(9, .v (.pointer (some ⟨b2,0,none⟩))),(10, .sl 1 (w8 (q.1++[q.2.1])) (some q.2.2.1))],[]⟩,[.tail 1 q.2.2.1, .box b2 (.ag (tY (eI s fst))), .box b1 (.ag (l7 s)), .box _ (.ag [AI x,c0 c])]))
  (fun q=>some ((q.1++[q.2.1])++rE s x (eI s fst) (cA s x).2 q.2.2.2 q.2.1 ((q.1.length:Int)+1))=r7 s x/\q.2.1<x/\q.1.length+1+q.2.2.2=67) (fun q=>q.2.2.2) ([],fst,_,66) ⟨by rw [hcv];rfl,hf2,rfl⟩ T fun q hi ih=>?_
 obtain ⟨l0,at1,z,f⟩:=q;simp only at hi ih⊢;obtain ⟨h1,h2,h3⟩:=hi;have hll:((w8 (l0++[at1])).length:Int)=((l0.length+1:Nat):Int):=by rw [aa0,aa7];rfl
 have at64:at1<64:=by omega
 have hat:(w8 (l0++[at1]))[l0.length]? =some (AI (at1:Nat)):=aR (last_at l0 at1);refine y_ ?_;refine A.ad 50 T (x':=AI ((l0.length+1:Nat):Int)) (aM hll) ?_;refine k_ (fun hc=>?_) fun hc=>?_
 ·simp at hc;have hlb:=hc;obtain ⟨f',rfl⟩: ∃f',f=f'+1:=⟨f-1,by omega⟩;rw [rE,iT (by omega)] at h1;refine y_ ?_;refine A.ad 56 T (x':=AI (l0.length:Nat)) (aM (by rw [hll,sU (by unfold i64;omega)];omega)) ?_;refine i_ T hat T ?_;refine A.ay [1,4,6,9,10,11,60,61] T ?_
  refine A.ar (ι:=Nat) (fun d=>(⟨[(1, .v (.pointer (some ⟨_,0,none⟩))),(4, .v (.pointer (some ⟨b1,0,none⟩))),(6,AI (cA s x).2),(9, .v (.pointer (some ⟨b2,0,none⟩))),(10, .sl 1 (w8 (l0++[at1])) (some z)),(11,AI (at1:Nat)),(60,AI (x:Nat)),(61,AI (d:Nat))],[]⟩,[.tail 1 z, .box b2 (.ag (tY (eI s fst))), .box b1 (.ag (l7 s)), .box _ (.ag [AI x,c0 c])]))
   (fun d=>d<=x/\((List.range x).drop d).find? (A0 s (eI s fst) at1 ((cA s x).2-((l0.length:Int)+1)))=(List.range x).find? (A0 s (eI s fst) at1 ((cA s x).2-((l0.length:Int)+1)))) (fun d=>x-d) 0 ⟨by omega,rfl⟩ T fun d hd dh=>?_
  obtain ⟨hd1,hd2⟩:=hd;refine y_ ?_;refine k_ (fun hc=>?_) fun hc=>?_
  ·simp at hc;have hdx:d<x:=by omega
   have hd64:d<64:=by omega
   rw [vG hdx,List.find?_cons] at hd2;refine y_ ?_;refine A.xa T (p:=at1) (by omega) (by omega) (xA at1) T ?_;refine A.ra T (cR _ at64) T ?_;refine y_ ?_;refine A.shift T T T T T T (by omega) ?_;refine e_ 68 T (x':=rD (s at1>>>d)) (lG (ushr _ _ hd64)) ?_;refine A.ad 71 T (x':=AB ((s at1).getLsbD d)) (aA (XQ _ d)) ?_
   ((fail_if_success (refine A.lit? T ?_));refine A.gS T (fun hc=>?_) (fun hc=>?_))
   ·have hb:=hc;refine y_ ?_;refine A.xa T (p:=d) (by omega) (by omega) (xA d) T ?_;refine A.ra T (cR _ hd64) T ?_;refine y_ ?_;refine A.ad 80 T (x':=AB (A0 s (eI s fst) at1 ((cA s x).2-((l0.length:Int)+1)) d)) (aA (by rw [hll,A0,hb,sU (by unfold i64;omega)];rfl)) ?_;refine k_ (fun hc=>?_) fun hc=>?_
    ·rw [hc] at hd2;rw [<-hd2] at h1;refine t_ fun bl=>?_;refine A.au (Λ':=[.tail ty3.size z, .box _ _, .box _ _, .box _ _]) T ?_;refine A.append T T T T T T T T T T T T T T (by show ((w8 (l0++[at1])).length+1)*1<=_;rw [aa0,aa7];simp;omega) fun z'=>?_;refine e_ 84 T (x':= .sl 1 (w8 ((l0++[at1])++[d])) (some z')) (by rw [show w8 ((l0++[at1])++[d])=w8 (l0++[at1])++[AI (d:Nat)] from ae2];rfl) ?_;refine u_ (ih (l0++[at1],d,z',f') ⟨?_,hdx,by simp only [aa7,ad5];omega⟩ (by simp only;omega));rw [<-h1];simp only [aa7,ad5];congr 1;rw [ab7 (l0++[at1])]
     push_cast
     rfl
    ·rw [hc] at hd2;refine y_ ?_;refine vI 61 d ?_;refine u_ (dh (d+1) ⟨by omega,hd2⟩ (by omega))
   ·have hb:A0 s (eI s fst) at1 ((cA s x).2-((l0.length:Int)+1)) d=false:=by rw [A0,hc];rfl
    rw [hb] at hd2;refine y_ ?_;refine vI 61 d ?_;refine u_ (dh (d+1) ⟨by omega,hd2⟩ (by omega))
  ·simp at hc;have hdx:d=x:=by omega
   rw [hdx,zH,List.find?_nil] at hd2;rw [<-hd2,ae3] at h1;refine y_ ?_;refine q_ ?_;rw [qC hm (by rw [hsd];exact h1.symm)];show Sb (.tp [_,_]) (.tp [gG _,AB true]);rw [GJ];exact .tp (.cons (.own .refl) .refl)
 ·simp at hc;have hcr:rE s x (eI s fst) (cA s x).2 f at1 ((l0.length:Int)+1)=[]:=by
   cases f with
   |zero=>rfl |succ f=>rw [rE,iF (by omega)]
  rw [hcr,ae3] at h1;refine y_ ?_;refine q_ ?_;rw [qC hm (by rw [hsd];exact h1.symm)];show Sb (.tp [_,_]) (.tp [gG _,AB true]);rw [GJ];exact .tp (.cons (.own .refl) .refl)
theorem p8.short{c:bX}(h:p8 c):uJ c where
 procs:=by have:=h.procs;omega
 steps:=fun p hp=>by have:=h.steps p hp;omega
 uses:=fun p hp s hs=>by have:=h.row hp hs;omega
def qH:bX:=[[[0],[1]],[[0],[2]],[[1],[2]]]
def u0:bX:=[[[0],[1]],[[1],[2]],[[2],[0]]]
def DI:bX:=[[[0]]]
theorem tN:p8 qH:=⟨by decide,by decide,by decide⟩
theorem zO:p8 u0:=⟨by decide,by decide,by decide⟩
theorem NZ:p8 DI:=⟨by decide,by decide,by decide⟩
theorem rank_one:uD 3 qH=([0,1,2],0):=by kernel_rfl
theorem rank_two:uD 3 u0=([],230):=by kernel_rfl
theorem QO:uD 1 DI=([],2):=by kernel_rfl
theorem cyc_one:n7 3 qH=([],false):=by kernel_rfl
theorem cyc_two:n7 3 u0=([0,2,1],true):=by kernel_rfl
theorem chk_one:rX 3 qH [5,7,9]=true:=by kernel_rfl
theorem XX:rX 3 qH [0,1,1]=false:=by kernel_rfl
theorem chk_two:rX 3 u0 [0,1,2]=false:=by kernel_rfl
theorem ZI:Pure prog a9 5 [] (AB true):=by have r1:=QN 3 qH tN.short (by decide);have r2:=QN 3 u0 zO.short (by decide);have r3:=QN 1 DI NZ.short (by decide);have y1:=H9 3 qH tN.short (by decide);have y2:=H9 3 u0 zO.short (by decide);have k1:=H3 3 qH [5,7,9] tN.short (by decide) (by decide);have k2:=H3 3 qH [0,1,1] tN.short (by decide) (by decide);have k3:=H3 3 u0 [0,1,2] zO.short (by decide) (by decide);have s1:Pure prog a9 11 [gG [0,1,2],gG [0,1,2]] (AB true):=same_p _ _ (by decide);have s2:Pure prog a9 11 [gG [0,2,1],gG [0,2,1]] (AB true):=same_p _ _ (by decide);rw [rank_one] at r1;rw [rank_two] at r2;rw [QO] at r3;rw [cyc_one] at y1;rw [cyc_two] at y2;rw [chk_one] at k1;rw [XX] at k2;rw [chk_two] at k3;refine Pure.of (S:=tt) (fn:=Tryz.f5) (n:=107) dN func5 T T T T fun w0 h0 F hgs=>?_;(repeat first|refine A.s T ?_|refine A.r T T ?_|refine A.w T T ?_|refine A.p T ?_|refine A.b T fun bx=>?_|refine A.t T fun bl=>?_|refine A.step T ?_|refine A.v T T ?_);refine A.c T r1 (by repeat (first|exact Sb.refl|exact fO.refl|refine fO.cons ?_ ?_|exact Sb.nil|exact Sb.cw|refine Sb.own ?_|refine Sb.ag ?_|refine Sb.tp ?_|exact Sb.un T)) ?_;(repeat first|refine A.s T ?_|refine A.r T T ?_|refine A.w T T ?_|refine A.p T ?_|refine A.b T fun bx=>?_|refine A.t T fun bl=>?_|refine A.step T ?_|refine A.v T T ?_);refine A.c T r2 (by repeat (first|exact Sb.refl|exact fO.refl|refine fO.cons ?_ ?_|exact Sb.nil|exact Sb.cw|refine Sb.own ?_|refine Sb.ag ?_|refine Sb.tp ?_|exact Sb.un T)) ?_;(repeat first|refine A.s T ?_|refine A.r T T ?_|refine A.w T T ?_|refine A.p T ?_|refine A.b T fun bx=>?_|refine A.t T fun bl=>?_|refine A.step T ?_|refine A.v T T ?_);refine A.c T y2 (by repeat (first|exact Sb.refl|exact fO.refl|refine fO.cons ?_ ?_|exact Sb.nil|exact Sb.cw|refine Sb.own ?_|refine Sb.ag ?_|refine Sb.tp ?_|exact Sb.un T)) ?_;(repeat first|refine A.s T ?_|refine A.r T T ?_|refine A.w T T ?_|refine A.p T ?_|refine A.b T fun bx=>?_|refine A.t T fun bl=>?_|refine A.step T ?_|refine A.v T T ?_);refine A.c T y1 (by repeat (first|exact Sb.refl|exact fO.refl|refine fO.cons ?_ ?_|exact Sb.nil|exact Sb.cw|refine Sb.own ?_|refine Sb.ag ?_|refine Sb.tp ?_|exact Sb.un T)) ?_;(repeat first|refine A.s T ?_|refine A.r T T ?_|refine A.w T T ?_|refine A.p T ?_|refine A.b T fun bx=>?_|refine A.t T fun bl=>?_|refine A.step T ?_|refine A.v T T ?_);refine A.c T r3 (by repeat (first|exact Sb.refl|exact fO.refl|refine fO.cons ?_ ?_|exact Sb.nil|exact Sb.cw|refine Sb.own ?_|refine Sb.ag ?_|refine Sb.tp ?_|exact Sb.un T)) ?_;(repeat first|refine A.s T ?_|refine A.r T T ?_|refine A.w T T ?_|refine A.p T ?_|refine A.b T fun bx=>?_|refine A.t T fun bl=>?_|refine A.step T ?_|refine A.v T T ?_);refine A.c T s1 (by repeat (first|exact Sb.refl|exact fO.refl|refine fO.cons ?_ ?_|exact Sb.nil|exact Sb.cw|refine Sb.own ?_|refine Sb.ag ?_|refine Sb.tp ?_|exact Sb.un T)) ?_;(repeat first|refine A.s T ?_|refine A.r T T ?_|refine A.w T T ?_|refine A.p T ?_|refine A.b T fun bx=>?_|refine A.t T fun bl=>?_|refine A.step T ?_|refine A.v T T ?_);refine A.c T s2 (by repeat (first|exact Sb.refl|exact fO.refl|refine fO.cons ?_ ?_|exact Sb.nil|exact Sb.cw|refine Sb.own ?_|refine Sb.ag ?_|refine Sb.tp ?_|exact Sb.un T)) ?_;(repeat first|refine A.s T ?_|refine A.r T T ?_|refine A.w T T ?_|refine A.p T ?_|refine A.b T fun bx=>?_|refine A.t T fun bl=>?_|refine A.step T ?_|refine A.v T T ?_);refine A.c T k1 (by repeat (first|exact Sb.refl|exact fO.refl|refine fO.cons ?_ ?_|exact Sb.nil|exact Sb.cw|refine Sb.own ?_|refine Sb.ag ?_|refine Sb.tp ?_|exact Sb.un T)) ?_;(repeat first|refine A.s T ?_|refine A.r T T ?_|refine A.w T T ?_|refine A.p T ?_|refine A.b T fun bx=>?_|refine A.t T fun bl=>?_|refine A.step T ?_|refine A.v T T ?_);refine A.c T k2 (by repeat (first|exact Sb.refl|exact fO.refl|refine fO.cons ?_ ?_|exact Sb.nil|exact Sb.cw|refine Sb.own ?_|refine Sb.ag ?_|refine Sb.tp ?_|exact Sb.un T)) ?_;(repeat first|refine A.s T ?_|refine A.r T T ?_|refine A.w T T ?_|refine A.p T ?_|refine A.b T fun bx=>?_|refine A.t T fun bl=>?_|refine A.step T ?_|refine A.v T T ?_);refine A.c T k3 (by repeat (first|exact Sb.refl|exact fO.refl|refine fO.cons ?_ ?_|exact Sb.nil|exact Sb.cw|refine Sb.own ?_|refine Sb.ag ?_|refine Sb.tp ?_|exact Sb.un T)) ?_;(repeat first|refine A.s T ?_|refine A.r T T ?_|refine A.w T T ?_|refine A.p T ?_|refine A.b T fun bx=>?_|refine A.t T fun bl=>?_|refine A.step T ?_|refine A.v T T ?_);refine A.az (Λ':=[]) T T T (ae1 _) ⟨?_,rfl⟩;exact .refl
theorem LC(s:Nat->cV)(n:Nat)(g:Nat->Int)(best:Int): ∀(f at1:Nat) (len:Int),(rE s n g best f at1 len).length<=f
 |0,_,_=>by simp [rE] |f+1,at1,len=>by
  rw [rE];split
  ·split
   ·rw [ab1];have:=LC s n g best f;rename_i d _;have:=this d (len+1);omega
   ·simp
  ·simp
theorem cyc_len(n:Int)(c:bX):(n7 n c).1.length<=281474976710656:=by
 unfold n7;split
 ·split
  ·rename_i h;unfold r7 at h;split at h
   ·cases h
   ·injection h with h;subst h;have:=LC (beforeF c) n.toNat (eI (beforeF c) (cA (beforeF c) n.toNat).1.toNat) (cA (beforeF c) n.toNat).2 66 (cA (beforeF c) n.toNat).1.toNat 1;simp;omega
  ·simp
 ·simp
theorem XO(a b:Int):(a==b)=(b==a):=by rw [ab8,beq_iff_eq,beq_iff_eq];exact eq_comm
theorem U3(x y:EN):nU x y=nU y x:=by unfold nU;rw [bne,bne,bne,bne,XO x.b,XO x.item,show (x.out==y.out)=(y.out==x.out) by cases x.out<;>cases y.out<;>rfl]
theorem R8{E:List EN}{i:Nat}{x:EN}(hx:E[i]? =some x): ∀j,j<=E.length->X3 E i j+(if i<j then 1 else 0)=(E.take j).countP fun y=>y.c==x.c
 |0,_=>by simp [X3] |j+1,hj=>by
  have ih:=R8 hx j (by omega);obtain ⟨y,hy⟩:=dC (l:=E) (i:=j) (by omega);have hs:sameAt E i j=(i !=j&&y.c==x.c):=by unfold sameAt;rw [hx,hy]
  rw [X3,hs,ac6,hy];simp only [Option.toList_some,List.countP_append,an4,List.countP_nil]
  by_cases hij:i=j
  ·subst hij;rw [hx] at hy;injection hy with hy;subst hy;rw [iF (Nat.lt_irrefl _)] at ih;simp;omega
  ·have hb:(i !=j)=true:=by rw [bne,beq_eq_false_iff_ne.2 hij];rfl
   rw [hb,ab3]
   by_cases h1:i<j
   ·rw [iT h1] at ih;rw [iT (show i<j+1 by omega)];omega
   ·rw [iF h1] at ih;rw [iF (show¬i<j+1 by omega)];omega
theorem VV{E:List EN}{x:EN}{c:Nat}(hc:x.c=c):(o5 E c).length=E.countP fun y=>y.c==x.c:=by rw [o5,hc,List.countP_eq_length_filter]
theorem M4{E:List EN}{i:Nat}{x:EN}{c:Nat}(hx:E[i]? =some x)(hi:i<E.length)(hc:x.c=c):okAt E i=true↔(∀j y,E[j]? =some y->i≠j->y.c=x.c->nU y x=true)/\(o5 E c).length=2:=by
 have h1:=R8 hx E.length (aa6 _);rw [iT hi,ac4,<-VV hc] at h1;rw [okAt,aa1,ac5,beq_iff_eq];refine ⟨fun h=>⟨fun j y hy hij hyc=>?_,by omega⟩,fun h=>⟨fun j hj=>?_,by omega⟩⟩
 ·have hjl:j<E.length:=by
   rcases ad7 j E.length with h|h
   ·exact h
   ·rw [ab4 h] at hy;cases hy
  have h2:=h.1 j (ae9.2 hjl);have hs:sameAt E i j=true:=by unfold sameAt;rw [hx,hy];simp [hij,hyc]
  have hf:LX E i j=nU y x:=by unfold LX;rw [hx,hy]
  rw [hs,hf] at h2;simpa using h2
 ·obtain ⟨y,hy⟩:=dC (l:=E) (i:=j) (ae9.1 hj);have hs:sameAt E i j=(i !=j&&y.c==x.c):=by unfold sameAt;rw [hx,hy]
  have hf:LX E i j=nU y x:=by unfold LX;rw [hx,hy]
  rw [hs,hf]
  by_cases hij:i=j
  ·simp [hij]
  ·by_cases hyc:y.c=x.c
   ·rw [h.1 j y hy hij hyc];simp
   ·simp [hyc]
theorem T5{E:List EN}{i j:Nat}{x y:EN}(hx:E[i]? =some x)(hy:E[j]? =some y)(h:i<j):[x,y].Sublist E:=by
 have h1:E.drop i=x::E.drop (i+1):=bS hx;have h2:y∈E.drop (i+1):=by refine aa2 (i:=j-(i+1)) ?_;rw [aj6];rw [show i+1+(j-(i+1))=j by omega];exact hy
 have h3:[x,y].Sublist (E.drop i):=by rw [h1];exact (List.singleton_sublist.2 h2).cons_cons x
 exact h3.trans (List.drop_sublist i E)
theorem pairs_eq{E:List EN}(hE: ∀e,e∈E->0<=e.c/\e.c<64):mH E=BO E:=by
 rw [ab8,mH,BO,ac5,ac5];constructor
 ·intro h i hi;have hi:=ae9.1 hi;obtain ⟨x,hx⟩:=dC (l:=E) (i:=i) hi;obtain ⟨c,hc64,hc⟩:=DH (x:=x.c) (hE x (aa2 hx));have hp:=h c (ae9.2 hc64);have hxu:x∈o5 E c:=ao3.2 ⟨aa2 hx,by simpa using hc⟩;have hlen:(o5 E c).length=2:=by
   rcases JV (o5 E c) with h0|⟨a,b,hab⟩|⟨h0,h2⟩
   ·rw [h0] at hxu;cases hxu
   ·rw [hab];rfl
   ·rw [sN h0 h2] at hp;cases hp
  rw [M4 hx hi hc];refine ⟨fun j y hy hij hyc=>?_,hlen⟩;have key: ∀a b:EN,a.c=(c:Int)->b.c=(c:Int)->[a,b].Sublist E->nU a b=true:=fun a b ha hb hs=>by
   have h1:=hs.filter (fun e=>e.c==(c:Int));have h2:[a,b].filter (fun e=>e.c==(c:Int))=[a,b]:=by simp [ha,hb]
   rw [h2] at h1;have h3:[a,b]=o5 E c:=h1.eq_of_length (by rw [show (E.filter fun e=>e.c==(c:Int))=o5 E c from rfl,hlen];rfl);rw [<-h3] at hp;exact hp
  rcases Nat.lt_or_gt_of_ne hij with hlt|hgt
  ·rw [U3];exact key x y hc (by rw [hyc,hc]) (T5 hx hy hlt)
  ·exact key y x (by rw [hyc,hc]) hc (T5 hy hx hgt)
 ·intro h c hc64;have hc64:=ae9.1 hc64;have hok: ∀(i:Nat) (x:EN),E[i]? =some x->x.c=(c:Int)->(∀j y,E[j]? =some y->i≠j->y.c=x.c->nU y x=true)/\(o5 E c).length=2:=fun i x hx hxc=>by
   have hi:i<E.length:=by
    rcases ad7 i E.length with h|h
    ·exact h
    ·rw [ab4 h] at hx;cases hx
   exact (M4 hx hi hxc).1 (h i (ae9.2 hi))
  have hpw:E.Pairwise fun (x y:EN)=>x.c=(c:Int)->y.c=(c:Int)->nU x y=true:=by rw [List.pairwise_iff_getElem];intro i j hi hj hij h1 h2;have:=(hok j E[j] (ab6 hj) h2).1 i E[i] (ab6 hi) (by omega) (by rw [h1,h2]);exact this
  have hpu:(o5 E c).Pairwise fun (x y:EN)=>x.c=(c:Int)->y.c=(c:Int)->nU x y=true:=List.Pairwise.filter _ hpw;have hcu: ∀e,e∈o5 E c->e.c=(c:Int):=fun e he=>by simpa using (ao3.1 he).2
  have hlu:(o5 E c).length=0\/(o5 E c).length=2:=by
   cases hu:o5 E c with
   |nil=>exact .inl T |cons a r=>
    have ha:a∈o5 E c:=by rw [hu];exact aa4 ..
    obtain ⟨i,hi⟩:=List.getElem?_of_mem (ao3.1 ha).1;have:=(hok i a hi (hcu a ha)).2;rw [hu] at this;exact .inr this
  rcases JV (o5 E c) with h0|⟨a,b,hab⟩|⟨h0,h2⟩
  ·rw [h0];rfl
  ·rw [hab] at hpu hcu⊢;exact (List.pairwise_cons.1 hpu).1 b (by simp) (hcu a (by simp)) (hcu b (by simp))
  ·omega
def RF(E:List EN)(m:Int):List EN:=E.filter fun e=>decide (e.c<m)
theorem HH(m:Nat): ∀F:List EN,(RF F ((m+1:Nat):Int)).length=(RF F (m:Int)).length+(o5 F m).length
 | []=>rfl |e::F=>by
  have ih:=HH m F;unfold RF o5 at*;rw [as1,as1,as1]
  by_cases h1:e.c<(m:Int)
  ·rw [iT (by simpa using (show e.c<((m+1:Nat):Int) by omega)),iT (by simpa using h1),iF (by simpa using (show¬e.c=(m:Int) by omega)),ab1,ab1];omega
  ·by_cases h4:e.c=(m:Int)
   ·rw [iT (by simpa using (show e.c<((m+1:Nat):Int) by omega)),iF (by simpa using h1),iT (by simpa using h4),ab1,ab1];omega
   ·rw [iF (by simpa using (show¬e.c<((m+1:Nat):Int) by omega)),iF (by simpa using h1),iF (by simpa using h4)];omega
theorem HI{E:List EN}(h0: ∀e,e∈E->0<=e.c)(h2: ∀c,c<64->(o5 E c).length<=2): ∀m,m<=64->(RF E (m:Nat)).length<=2*m
 |0,_=>by
  have:RF E ((0:Nat):Int)=[]:=by unfold RF;rw [List.filter_eq_nil_iff];intro e he hh;have:=h0 e he;have:=of_decide_eq_true hh;omega
  rw [this];simp
 |m+1,hm=>by have ih:=HI h0 h2 m (by omega);have hc:=h2 m (by omega);rw [HH m E];omega
theorem YN{E:List EN}(hE: ∀e,e∈E->0<=e.c/\e.c<64)(hp:mH E=true):E.length<=128:=by
 rw [mH,ac5] at hp;have:=HI (fun e he=>(hE e he).1) (fun c hc=>by
  have:=hp c (ae9.2 hc);rcases JV (o5 E c) with h0|⟨a,b,hab⟩|⟨h0,h2⟩
  ·rw [h0];simp
  ·rw [hab];simp
  ·rw [sN h0 h2] at this;cases this) 64 (aa6 _)
 have he:RF E ((64:Nat):Int)=E:=List.filter_eq_self.2 fun e he=>by have:=(hE e he).2;exact decide_eq_true (by omega)
 rw [he] at this;exact this
theorem NH{k:KN}: ∀{l:List PR} {i:Nat} (g: ∀p,p∈l->Good k p) (e:EN),e∈eP k i l->0<=e.c/\e.c<k.chans.length
 | [],_,_,e,h=>by rw [eP] at h;cases h |p::l,i,g,e,h=>by
  rw [eP,af0] at h;rcases h with h|h
  ·obtain ⟨u,hu,he⟩:=aj5.1 h;obtain ⟨s,hs,rfl⟩:=ac1.1 hu;obtain ⟨x,hx,rfl⟩:=ac1.1 he;exact ((wD (g p (aa4 ..)) hs).2 x hx).2
  ·exact NH (fun p hp=>g p (aa8 _ hp)) e h
theorem nil_may{n:Int}{c:bX}(h:[]∈c):eW n c=false:=by
 refine pL ?_;have key: ∀(c:bX) (u:Nat->Int),[]∈c->c.foldlM (oE n) u=none:=by
  intro c
  induction c with
  |nil=>intro u h;cases h |cons p c ih=>
   intro u h;rw [List.foldlM_cons];rcases ab0.1 h with h|h
   ·rw [<-h,oE,iT T];rfl
   ·cases hp:oE n u p with
    |none=>rfl |some u'=>exact ih u' h
 exact key c _ h
theorem G4{k:KN}: ∀{l:List PR} {i:Nat},l.all (CI k)=true->mL (l.map (gZ k))<=2*(eP k i l).length
 | [],_,_=>by simp [mL] |p::l,i,h=>by
  rw [ai4,aa1] at h;have ih:=G4 (l:=l) (i:=i+1) h.2;have h1:rC (gZ k p)<=2*(t7 k i p).length:=by
   have hc:=cyc_ok h.1;have hg:(eU (bK p)).all (cI k)=true:=by have:=h.1;simp only [CI,aa1] at this;exact this.2.2
   rw [gZ,t7,hc];clear hc;revert hg;generalize eU (bK p)=S;intro hg
   induction S with
   |nil=>simp [rC] |cons s r ihr=>
    rw [ai4,aa1] at hg;have:=ihr hg.2;have hs:1<=(bO s).length:=by
     have:=hg.1;rw [cI,aa1] at this;cases hh:bO s with
     |nil=>rw [hh] at this;cases this.1 |cons a b=>simp
    simp only [rC,ac8,ar8,aa0,aj9,aa7] at this⊢;omega
  simp only [mL,ac8,ar8,eP,aa7] at ih⊢;omega
theorem X0{k:KN}{q:PR}(gq:Good k q)(h64:k.chans.length<=64):kU k q=refB k q/\(RU k q=true->BO (eP k 0 q.l)=true->mL (fA k q)<=1000):=by
 have hE: ∀e,e∈eP k 0 q.l->0<=e.c/\e.c<64:=fun e he=>by have:=NH (fun p hp=>gq.l hp) e he;omega
 have hp:=pairs_eq hE;refine ⟨?_,fun ha hpp=>?_⟩
 ·cases ha:RU k q with
  |true=>rw [kU,refB,ha,ab3,hp] |false=>
   have hn:eW k.chans.length (fA k q)=false:=by refine nil_may ?_;rw [RU,List.all_eq_false] at ha;obtain ⟨p,hpm,hpc⟩:=ha;rw [fA,ac1];refine ⟨p,hpm,?_⟩;rw [gZ,cyc_not (by simpa using hpc)];rfl
   rw [kU,refB,ha,hn,Bool.and_false,ae4]
 ·have h1:=YN hE (by rw [hp];exact hpp);have h2:=G4 (k:=k) (i:=0) ha;rw [fA];omega
end Go.Proofs.YtkbolbpojpmicaaGreatDoor
namespace Go.Tp
open Go Go.RowKit
theorem JT{P:Program}{S:TT}(hS:S.Ok P){w0 w:World}{h:GH}{L:List a6}{x:a6}{t el ty:TypeId}{ti ei:TI}{v1 v2:Value}{c1 c2:List Value}
 (ht:S.get t=some ti) (hd:ti.d= .slice el) (he:S.get el=some ei) (hsz:0<ei.size) (hz1:aP ei.zero=true)
 (s:St w0 h (x::L) w) (a1:Sl h ei.size v1 c1) (tl:Tl ei.size v1 x) (a2:Sl h ei.size v2 c2) (hb:c1.length+c2.length<=281474976710656) (hby:(c1.length+c2.length)*ei.bytes<=140737488355328):
 ∃v' w' h' x',(Builtin.append_ #[t,t] ty #[v1,v2]).run P w= .ok v' w'/\h.le h'/\Sl h' ei.size v' (c1++c2)/\Tl ei.size v' x'/\St w0 h' (x'::L) w':=by
 have ok:=TT.Ok.get hS ht;have oke:=TT.Ok.get hS he;obtain ⟨xi,zv,hxi,hxs,hxb,hxz,hzl⟩:=oke.info;have hund:P.underlying t=some (.slice el):=by rw [ok.und,hd]
 have one2:=Sl.one s hsz a2;have QH:=Sl.one s hsz a1;have a1':=a1;have tl':=tl;obtain ⟨a,n1,cap,e1,hle,hn1,hat⟩:=a1;obtain ⟨b2,n2,cap2,e2,hle2,hn2,hat2⟩:=a2;obtain ⟨hobj,ta,tn,tc,e3,oZ⟩:=tl;subst e1;subst e2;injection e3 with e3 e4 e5;subst e3;subst e4;subst e5;have hl1:n1<=c1.length:=by rw [hn1];exact ak1 _ hsz
 have hl2:n2<=c2.length:=by rw [hn2];exact ak1 _ hsz
 have hz:Builtin.zeroCells zv.cells=fun n=>⟨(List.replicate n ei.zero).flatten⟩:=by funext n;rw [show zv.cells=⟨ei.zero⟩ from by rw [<-hzl]];refine mW _ _ ?_;intro e;have:=oke.len;rw [e] at this;simp at this;omega
 have hlen:(c1++c2).length=(n1+n2)*ei.size:=by rw [aa7,hn1,hn2,ak6]
 rcases ah0 n2 with h20|h2p
 · --nothing to lay
   subst h20;have hc2:c2=[]:=ad0.1 (by simpa using hn2);subst hc2;refine ⟨.slice a n1 cap,w,h,x,?_,GH.le_refl _,by simpa using a1',tl',s⟩;have hf: ∀w':World,(Builtin.firstCells xi.size 0 (.slice b2 0 cap2)).run P w'= .ok #[] w':=fun w'=>by cases b2<;>simp [Builtin.firstCells,loadCells,loadCellsFrom]
   cases a with
   |none=>simp [Builtin.append_,Go.run_underlying hund,sizeOf,typeInfo,hxi,Builtin.lenOf,hle,hf] |some a=>simp [Builtin.append_,Go.run_underlying hund,sizeOf,typeInfo,hxi,Builtin.lenOf,hle,hf,storeCells]
 ·obtain ⟨b,o2,rfl,y2⟩:=hat2 h2p;have hnews: ∀j u,c2[j]? =some u->w.cell? ((⟨b,o2,none⟩:Addr).add j)=some u:=fun j u hu=>by rw [eA];exact s.imm _ _ _ (y2 j u hu)
  have h63:((n1+n2:Nat):Int)<=9223372036854775807:=by omega
  have hfits: ∀old,old<n1+n2->Builtin.nextslicecap (n1+n2) old*xi.bytes<=281474976710656:=fun old ho=>growslice_fits ho (by rw [hxb];exact af4 (af5 _ (by omega)) hby)
  rcases oZ with ⟨rfl,h0,h1,h2⟩|⟨bb,o,rfl,h0,h1,h2,h3⟩
  · --from nothing
    subst h0;subst h1;have hc1:c1=[]:=ad0.1 (by simpa using hn1);subst hc1;have hr:=run_append_nil (P:=P) w t ty el xi zv hund hxi hxz ⟨b,o2,none⟩ n2 cap2 c2 (by rw [hxs];exact hn2) hnews h2p (by omega) (by
     rw [hxb];have:n2*ei.bytes<=([]++c2:List Value).length*ei.bytes:=af5 _ (by simpa using hl2);simp at this hby
     omega)
    obtain ⟨h',x',g1,g2,g3,g4⟩:=xT (w:=w) (el:=el) (nc:=grownCap w n2 0 el) (need:=n2) s one2 hz1 oke.len hn2 (grownCap_ge ..) (arr:=c2.toArray++Builtin.zeroCells zv.cells (grownCap w n2 0 el-n2)) (by rw [hz];apply ag4;simp);exact ⟨_,_,h',x',hr,g1,by simpa using g2,g3,g4⟩
  ·by_cases hcap:n1+n2<=cap
   ·obtain ⟨bx,lox,csx,obx⟩:=x;simp only at hobj h1 h2 h3;subst hobj;subst h1;subst h2;obtain ⟨r,hr⟩:=BX csx c2 (by rw [h3,hn2];exact af5 _ (by omega));obtain ⟨u1,u2,u3⟩:=dO _ _ _ hr;obtain ⟨w',hw',s'⟩:=hP (P:=P) c2 bx (o+n1*ei.size) 0 w (L1:=[]) s rfl (by simpa using u1) one2 hr;have hre:r=c2++csx.drop c2.length:=by
     apply af2;intro i;rw [u3 i]
     by_cases hi:i<c2.length
     ·rw [iT (by omega),ad6 hi];rfl
     ·rw [iF (by omega),ad1 (by omega),aj6];congr 1;omega
    subst hre;have s2:=St.part s';have s3:=s2.bu;have hle':=s2.dc;have hf:=run_firstCells_some (P:=P) w ei.size n2 ⟨b,o2,none⟩ n2 cap2 c2 hn2 hnews;refine ⟨.slice (some ⟨bx,o,none⟩) (n1+n2) cap,w',_,_,?_,hle',?_,?_,s3⟩
    ·simp [Builtin.append_,Go.run_underlying hund,sizeOf,typeInfo,hxi,Builtin.lenOf,hcap,hxs,hf,eA,hw']
    ·refine ⟨_,_,_,rfl,hcap,hlen,fun hpos=>⟨bx,o,rfl,fun i u hu=>?_⟩⟩
     by_cases hi:i<c1.length
     ·rw [ad6 hi] at hu;have hp:0<n1:=by
       rcases ah0 n1 with e|e
       ·subst e;simp at hn1;subst hn1;simp at hi
       ·exact e
      obtain ⟨b',o',e,y⟩:=hat hp;injection e with e;injection e with e1 e2;subst e1;subst e2;exact hle' _ _ _ (y i u hu)
     ·rw [ad1 (by omega)] at hu;have:=GH.cr h bx (o+n1*ei.size) c2 hu
      rwa [show o+n1*ei.size+(i-c1.length)=o+i by rw [<-hn1];omega] at this
    ·refine ⟨rfl,_,_,_,rfl, .inr ⟨bx,o,rfl,hcap,rfl,?_,?_⟩⟩
     ·simp only [hn2,ak6];omega
     ·simp only [List.length_drop,h3,hn2];rw [<-Nat.sub_mul];congr 1;omega
   ·have hlt:cap<n1+n2:=by omega
    have holds: ∀j u,c1[j]? =some u->w.cell? ((⟨bb,o,none⟩:Addr).add j)=some u:=fun j u hu=>by
     have hp:0<n1:=by
      rcases ah0 n1 with e|e
      ·subst e;simp at hn1;subst hn1;simp at hu
      ·exact e
     obtain ⟨b',o',e,y⟩:=hat hp;injection e with e;injection e with e1 e2;subst e1;subst e2;rw [eA];exact s.imm _ _ _ (y j u hu)
    have hr:=run_append_grow (P:=P) w t ty el xi zv hund hxi hxz ⟨bb,o,none⟩ n1 cap c1 (by rw [hxs];exact hn1) holds ⟨b,o2,none⟩ n2 cap2 c2 (by rw [hxs];exact hn2) hnews hlt h63 (hfits cap hlt)
    obtain ⟨h',x',g1,g2,g3,g4⟩:=xT (w:=w) (el:=el) (nc:=grownCap w (n1+n2) cap el) (need:=n1+n2) s (lK QH one2) hz1 oke.len hlen (grownCap_ge ..)
     (arr:=c1.toArray++c2.toArray++Builtin.zeroCells zv.cells (grownCap w (n1+n2) cap el-(n1+n2))) (by rw [hz];apply ag4;simp)
    exact ⟨_,_,h',x',hr,g1,g2,g3,g4⟩
theorem V.da{C:nY}{k:List It}{e:Env}{h:GH}{L:List a6}{all:Array Oper}{o:Oper}{l:List Oper}{ks:List (Nat×Bool)}{y1 y2:Operand}{t el:TypeId}{ti ei:TI}{v1 v2:Value}{x:a6}{c1 c2:List Value}{d:Nat}
 (hg:fX e all o.guard=some ks) (ho:o.op= .call ⟨.builtin .append, #[y1,y2], #[t,t]⟩) (h1:e.ev ks y1=some v1) (h2:e.ev ks y2=some v2)
 (ht:C.S.get t=some ti) (hd:ti.d= .slice el) (he:C.S.get el=some ei) (hsz:Nat.blt 0 ei.size=true) (hz1:aP ei.zero=true)
 (hdst:o.dst=some d) (hc:eY C.n e d=true)
 (a1:Sl h ei.size v1 c1) (tl:Tl ei.size v1 x) (a2:Sl h ei.size v2 c2) (hb:c1.length+c2.length<=281474976710656) (hby:(c1.length+c2.length)*ei.bytes<=140737488355328)
 (next: ∀v' h' x',h.le h'->Sl h' ei.size v' (c1++c2)->Tl ei.size v' x'->V C (.ops all l::k) ⟨(d,v')::e.us,e.cs⟩ h' (x'::L)):V C (.ops all (o::l)::k) e h (x::L):=
 V.gives hg hdst hc fun a w g s hk=>by
  obtain ⟨v',w',h',x',r1,r2,r3,r4,r5⟩:=JT (ty:=o.type) C.ok ht hd he (by simpa [ah3] using hsz) hz1 s a1 tl a2 hb hby
  refine ⟨v',w',h',_,?_,r5,next v' h' x' r2 r3 r4⟩;unfold execOp;rw [ho];simp [resolve,invoke,builtin,g.ev hk h1,g.ev hk h2,r1]
section
variable{K:AC}{k:List It}{E:aH}{Λ:List aF}
theorem A.da{all:Array Oper}{o:Oper}{l:List Oper}{ks:List (Nat×Bool)}{y1 y2:Operand}{t el:TypeId}{ti ei:TI}{x1 x2:AV}{l1 l2:List AV}{z:Value}{own2:Option Value}{d:Nat}{Λ':List aF}
 (hg:aV E all o.guard=some ks) (ho:o.op= .call ⟨.builtin .append, #[y1,y2], #[t,t]⟩) (h1:E.ev K.gs ks y1=some x1) (h2:E.ev K.gs ks y2=some x2)
 (ht:K.S.get t=some ti) (hdd:ti.d= .slice el) (he:K.S.get el=some ei) (s1:nX ei.size x1=some (l1,some z)) (s2:nX ei.size x2=some (l2,own2)) [i:ATl Λ ei.size z Λ']
 (hsz:Nat.blt 0 ei.size=true) (hz1:aP ei.zero=true) (hd:o.dst=some d) (hc:bZ K.n E d=true)
 (hb:(l1.length+l2.length)*ei.size<=281474976710656) (hby:(l1.length+l2.length)*ei.size*ei.bytes<=140737488355328)
 (next: ∀z',A K (.ops all l::k) ⟨(d, .sl ei.size (l1++l2) (some z'))::E.us,E.cs⟩ (.tail ei.size z'::Λ')):A K (.ops all (o::l)::k) E Λ:=by
 refine ⟨fun h e L hl r q=>?_⟩;obtain ⟨v1,e1,f1⟩:=r.ev (K.hgs.mono hl) _ h1;obtain ⟨v2,e2,f2⟩:=r.ev (K.hgs.mono hl) _ h2;have f1:=jC s1 f1;have f2:=jC s2 f2;have hown:v1=z:=by rw [cU] at f1;obtain ⟨_,_,_,_,h3,_⟩:=f1;exact h3
 subst hown;obtain ⟨zs1,a1,a2,a3⟩:=xP f1;obtain ⟨zs2,b1,b2,b3⟩:=xP f2;obtain ⟨L',q1,q2⟩:=q.perm i.perm;obtain ⟨_,L2,rfl,⟨p,q3,rfl⟩,q4⟩:=q1;have hsz':0<ei.size:=by simpa [ah3] using hsz
 have hlen:(bH zs1).length+(bH zs2).length=(l1.length+l2.length)*ei.size:=by rw [jV a2,jV b2,a1.len,b1.len,ak6]
 refine V.perm (q2.append_right _) ?_;refine V.da (C:=K.cfg) (aT r hg) ho e1 e2 ht hdd he hsz hz1 hd (bQ r hc) a3 q3 b3 (by rw [hlen];exact hb) (by rw [hlen];exact hby) ?_;intro v' h' x' g1 g2 g3;have hl':=GH.le_trans hl g1;have hcat:bH zs1++bH zs2=bH (zs1++zs2):=by simp [bH]
 rw [hcat] at g2;have hrp:Rp h' (.sl ei.size (l1++l2) (some v')) v':=XC hsz' ((a1.append b1).mono g1) (fun z hz=>by
  rcases af0.1 hz with hz|hz
  ·exact a2 z hz
  ·exact b2 z hz) g2
 exact (next v').run h' ⟨(d,v')::e.us,e.cs⟩ (x'::L2) hl' ⟨(r.1.mono g1).put hrp,r.2.mono g1⟩ (.one ⟨x',g3,rfl⟩ (q4.mono g1))
end
end Go.Tp
namespace Go.Proofs.YtkbolbpojpmicaaGreatDoor
open Go Go.Tp
abbrev dH(l:List MV):List AV:=l.map jZ
abbrev eD(s:ST)(i:Nat):List MV:=((bR s).take i).flatMap (fK s (bR s))
theorem VZ{s:ST}{i:Nat}{x:lH×List Nat}(hx:(bR s)[i]? =some x):eD s (i+1)=eD s i++fK s (bR s) x:=by unfold eD;rw [ac6,hx,ak2];simp
theorem xD{s:ST}(h:(bR s).length<=81920)(i:Nat):(eD s i).length<=6710968320:=by
 have h1:=CW (fK s (bR s)) 81921 ((bR s).take i) fun a _=>by have:=step_len s (bR s) a;omega
 rw [ac3] at h1;unfold eD;omega
theorem in_no{n:Nat}(h: ¬0<n):(bif true then decide ((0:Int)<(n:Int)) else false)=false:=by
 cases n with
 |zero=>rfl |succ n=>omega
theorem in_eq{a:Int}(h:true=(a==0)):a=0:=by have h:=h.symm;rw [beq_iff_eq] at h;exact h
theorem head_at{l:List Int}(h:0<l.length):(l.map aL)[(0:Int).toNat]? =some (aL (l.headD 0)):=by
 cases l with
 |nil=>simp at h |cons x r=>rfl
theorem tail_at(l:List Int):((l.map aL).drop (1:Int).toNat).take (((l.map aL).length:Int).toNat-(1:Int).toNat)=l.tail.map aL:=by
 cases l with
 |nil=>rfl |cons x r=>simp [List.take_of_length_le]
abbrev rI(s:ST)(i:Nat)(x:lH×List Nat)(j:Nat):List MV:=eD s i++((bR s).take j).flatMap (iG s x)
theorem innM_0{s:ST}{i:Nat}{x:lH×List Nat}:rI s i x 0=eD s i:=by unfold rI;rw [List.take_zero,List.flatMap_nil,ae3]
theorem VB{s:ST}(i:Nat)(x:lH×List Nat){j:Nat}{y:lH×List Nat}(hy:(bR s)[j]? =some y):rI s i x (j+1)=rI s i x j++iG s x y:=by unfold rI;rw [ac6,hy,ak2,ab7];simp
theorem ZK{s:ST}{i:Nat}{x:lH×List Nat}:rI s i x (bR s).length=eD s i++(bR s).flatMap (iG s x):=by unfold rI;rw [ac4]
theorem ZL{s:ST}(h:(bR s).length<=81920)(i:Nat)(x:lH×List Nat)(j:Nat):(rI s i x j).length<=6711050240:=by have h1:=xD h i;have h2:=pF (iG s x) (K2 s x) ((bR s).take j);rw [ac3] at h2;unfold rI;rw [aa7];omega
theorem KK(a:Int):(bif true then a==a else false)=true:=by simp
theorem UH{a b:Int}(h:a≠b):(bif true then a==b else false)=false:=by simpa using h
theorem pK(l:List MV)(m:MV)(z:Option Value):AV.sl 14 (dH l++[jZ m]) z=AV.sl 14 (dH (l++[m])) z:=by unfold dH;rw [ae2];rfl
theorem Z3(k:KN)(s:ST)(hg:d6 k s):Pure prog a9 9 [eZ k,gI s] (.sl 14 (dH (nE s)) none):=by
 have hmay:=smay_p k s hg;have hacts:=acts_p k s hg (by have:=UW hg;have:=hg.wt;omega);have hal:(bR s).length<=81920:=af4 (KH hg) hg.wt;refine P_ func9 194 fun w0 h0 F hgs=>?_;refine b_ fun b2=>?_;refine A.b T fun b3=>?_;refine y_ ?_;refine c_ hmay ?_;refine A.b T fun b19=>?_;refine A.df 19 b19 (y':=AP s) T T T .ptr ?_;refine y_ ?_;refine A.e T hacts .refl (List.Perm.refl _) fun l hl=>?_;refine y_ ?_;have hll:l.length=(bR s).length:=by rw [<-hl,aa0]
 refine A.ad 23 T (x':=AI ((bR s).length:Nat)) (aM (by rw [aa0,hll])) ?_;refine A.dr 6 sR.size T ?_;refine A.ay [3,5,6,7,22,23,24] T ?_;refine l_ (Λ':=[.tail sR.size (.slice none 0 0), .box b3 (gI s)]) ?_;refine A.ar (ι:=Nat×Value) (fun q=>(⟨[(3,cT b3),(5,AP s),(6, .sl 14 (dH (eD s q.1)) (some q.2)),(7, .sl 17 (m9 l) none),(22, .sl 17 (m9 l) none),(23,AI ((bR s).length:Nat)),(24,AI (q.1:Nat))],[]⟩,[.tail sR.size q.2, .box b3 (gI s)])) (fun q=>q.1<=(bR s).length) (fun q=>(bR s).length-q.1) (0, .slice none 0 0) (ac0 _) T fun q hi ih=>?_;obtain ⟨i,z⟩:=q;simp only at hi;refine y_ ?_;refine k_ (fun hc=>?_) fun hc=>?_
 ·have hci:i<(bR s).length:=by simpa using hc
  clear hc;refine ac7 (dC (l:=l) (i:=i) (by omega)) fun xb hxb=>?_;have hx:(bR s)[i]? =some xb.1:=by rw [<-hl,ab9,hxb];rfl
  have hpart:=VZ hx;have hplen:=xD hal i;refine ac7 (mO hg (aa2 hx)) fun c hin=>?_;refine y_ ?_;refine j_ T (aR hxb) T ?_;refine b_ fun b9=>?_;refine y_ ?_;refine k_ (fun hc=>?_) fun hc=>?_
  ·have h116:xb.1.1.kind=116:=by have h:(xb.1.1.kind==116)=true:=hc;simpa using h
   clear hc;have hst:fK s (bR s) xb.1=[eG s 1 0 0 xb.1.1.store (bN xb.1.1.next s.root xb.1.2) s.inn]:=by unfold fK;rw [iT h116]
   have hr:=l6 hg hin;have hmv:=DF s 1 0 0 xb.1.1.store _ s.inn (hin.ok.tau h116).small hr.ok hg.innl;refine d_ 14 [0,1,2,3,4,5,6,7,8,10,11,9,12,13] [(9,aB (bN xb.1.1.next s.root xb.1.2)),(12,jZ (eG s 1 0 0 xb.1.1.store (bN xb.1.1.next s.root xb.1.2) s.inn))] ?_;refine lS (lZ xb.1.1 xb.1.2 xb.2 hg.root hin.at') ?_;refine lS hmv ?_;refine WA.lit T T T T T T T fun bw=>?_;refine WA.nil (l:=[_]) T ?_;refine A.cq 45 (.slice (some ⟨bw,0,none⟩) 1 1) (y':= .sl 14 [jZ (eG s 1 0 0 xb.1.1.store (bN xb.1.1.next s.root xb.1.2) s.inn)] none) T fz_ ?_;refine A.da T T T T T T T T T T T T T (by show ((dH (eD s i)).length+1)*14<=_;rw [aa0];omega) (by show ((dH (eD s i)).length+1)*14*208<=_;rw [aa0];omega) fun z'=>?_;refine y_ ?_;refine A.ad 6 T (x':= .sl 14 (dH (eD s (i+1))) (some z')) (by rw [hpart,hst];show AV.sl 14 (dH (eD s i)++[jZ (eG s 1 0 0 xb.1.1.store (bN xb.1.1.next s.root xb.1.2) s.inn)]) _=_;exact pK _ _ _) ?_;refine vI 24 i ?_;refine l_ (Λ':=[.tail sR.size z', .box b3 (gI s)]) ?_;exact A.sub su_ (ih (i+1,z') (by show i+1<=_;omega) (by show _-(i+1)<_-i;omega))
  have n116:xb.1.1.kind≠116:=by have h:(xb.1.1.kind==116)=false:=hc;simpa using h
  clear hc;refine y_ ?_
  by_cases h105:xb.1.1.kind=105
  ·refine e_ 51 T (x':=AB true) (aA (by rw [h105];rfl)) ?_
   by_cases h0:xb.1.1.c=0/\0<s.inn.length
   ·have hst:fK s (bR s) xb.1=[eG s 2 0 (s.inn.headD 0) (fU s.store xb.1.1.v xb.1.1.i (s.inn.headD 0)) (bN xb.1.1.next s.root xb.1.2) s.inn.tail]:=by unfold fK;rw [iF n116,iT ⟨h105,h0⟩]
    refine e_ 56 T (x':=AB true) (aA (by rw [h0.1];rfl)) ?_;refine A.ad 47 T (x':=AB true) (aA (by rw [aa0];simpa using h0.2)) ?_;have hat0:=head_at h0.2;have oZ:=tail_at s.inn;have hr:=l6 hg hin;have hpi:d9 k.vars (fU s.store xb.1.1.v xb.1.1.i (s.inn.headD 0)):=JQ hg hin h105 (SK hg.inn h0.2) (by rw [(hin.ok.inp h105).2.2 h0.1];rfl);have hmv:=DF s 2 0 (s.inn.headD 0) _ _ s.inn.tail hpi.small hr.ok (by have:=hg.innl;rw [List.length_tail];omega);have hpp:=hg.small.put_p xb.1.1.v xb.1.1.i (s.inn.headD 0);have hlp:=h0.2;refine y_ ?_;refine d_ 28 [0,1,2,3,4,5,6,7,8,9,10,11,12,13,14,15,16,18,19,20,21,23,24,25,17,22,26,27] [(17,eQ (fU s.store xb.1.1.v xb.1.1.i (s.inn.headD 0))),(22,aB (bN xb.1.1.next s.root xb.1.2)),(26,jZ (eG s 2 0 (s.inn.headD 0) (fU s.store xb.1.1.v xb.1.1.i (s.inn.headD 0)) (bN xb.1.1.next s.root xb.1.2) s.inn.tail))] ?_;refine rM T hat0 T ?_;refine rM T hat0 T ?_;refine WA.slice (ys:=s.inn.tail.map aL) T T T T T T T T T T (by decide) (by rw [aa0];omega) (an9 _) oZ T ?_;refine lS hpp ?_;refine lS (lZ xb.1.1 xb.1.2 xb.2 hg.root hin.at') ?_;refine lS hmv ?_;refine WA.lit T T T T T T T fun bw=>?_;refine WA.nil (l:=[_]) T ?_;refine A.cq 89 (.slice (some ⟨bw,0,none⟩) 1 1) (y':= .sl 14 [jZ (eG s 2 0 (s.inn.headD 0) (fU s.store xb.1.1.v xb.1.1.i (s.inn.headD 0)) (bN xb.1.1.next s.root xb.1.2) s.inn.tail)] none) T fz_ ?_;refine A.da T T T T T T T T T T T T T (by show ((dH (eD s i)).length+1)*14<=_;rw [aa0];omega) (by show ((dH (eD s i)).length+1)*14*208<=_;rw [aa0];omega) fun z'=>?_;refine y_ ?_;refine A.ad 6 T (x':= .sl 14 (dH (eD s (i+1))) (some z')) (by rw [hpart,hst];show AV.sl 14 (dH (eD s i)++[jZ (eG s 2 0 (s.inn.headD 0) (fU s.store xb.1.1.v xb.1.1.i (s.inn.headD 0)) (bN xb.1.1.next s.root xb.1.2) s.inn.tail)]) _=_;exact pK _ _ _) ?_;refine vI 24 i ?_;refine l_ (Λ':=[.tail sR.size z', .box b3 (gI s)]) ?_;exact A.sub su_ (ih (i+1,z') (by show i+1<=_;omega) (by show _-(i+1)<_-i;omega))
   ·have hst:fK s (bR s) xb.1=[]:=by unfold fK;rw [iF n116,iF (fun h=>h0 h.2),iF (by omega),iF (by omega)]
    refine eX ((xb.1.1.c==0)) fun b hb=>?_;refine A.ad 56 T (x':=AB b) (aA (by rw [hb];rfl)) ?_;cases b
    ·refine y_ ?_;refine e_ 95 T (x':=AB false) (aA (by rw [h105];rfl)) ?_;refine e_ 117 T (x':=AB false) (aA (by rw [h105];rfl)) ?_;refine A.ad 6 T (x':= .sl 14 (dH (eD s (i+1))) (some z)) (by rw [hpart,hst,ae3]) ?_;refine vI 24 i ?_;refine l_ (Λ':=[.tail sR.size z, .box b3 (gI s)]) ?_;exact A.sub su_ (ih (i+1,z) (by show i+1<=_;omega) (by show _-(i+1)<_-i;omega))
    ·refine y_ ?_;refine e_ 47 T (x':=AB false) (aA (by rw [aa0];exact in_no fun h=>h0 ⟨in_eq hb,h⟩)) ?_;refine e_ 95 T (x':=AB false) (aA (by rw [h105];rfl)) ?_;refine e_ 117 T (x':=AB false) (aA (by rw [h105];rfl)) ?_;refine A.ad 6 T (x':= .sl 14 (dH (eD s (i+1))) (some z)) (by rw [hpart,hst,ae3]) ?_;refine vI 24 i ?_;refine l_ (Λ':=[.tail sR.size z, .box b3 (gI s)]) ?_;exact A.sub su_ (ih (i+1,z) (by show i+1<=_;omega) (by show _-(i+1)<_-i;omega))
  ·refine e_ 51 T (x':=AB false) (aA (beq_eq_false_iff_ne.2 h105)) ?_
   by_cases h111:xb.1.1.kind=111
   ·refine e_ 95 T (x':=AB true) (aA (by rw [h111];rfl)) ?_
    by_cases h1:xb.1.1.c=1
    ·have hst:fK s (bR s) xb.1=[eG s 2 1 xb.1.1.value s.store (bN xb.1.1.next s.root xb.1.2) s.inn]:=by unfold fK;rw [iF n116,iF (fun h=>h105 h.1),iT ⟨h111,h1⟩]
     refine A.ad 91 T (x':=AB true) (aA (by rw [h1];rfl)) ?_;have hr:=l6 hg hin;have hmv:=DF s 2 1 xb.1.1.value _ _ s.inn hg.small hr.ok hg.innl;refine y_ ?_;refine d_ 16 [0,1,2,3,4,5,6,7,8,9,10,12,13,11,14,15] [(11,aB (bN xb.1.1.next s.root xb.1.2)),(14,jZ (eG s 2 1 xb.1.1.value s.store (bN xb.1.1.next s.root xb.1.2) s.inn))] ?_;refine lS (lZ xb.1.1 xb.1.2 xb.2 hg.root hin.at') ?_;refine lS hmv ?_;refine WA.lit T T T T T T T fun bw=>?_;refine WA.nil (l:=[_]) T ?_;refine A.cq 115 (.slice (some ⟨bw,0,none⟩) 1 1) (y':= .sl 14 [jZ (eG s 2 1 xb.1.1.value s.store (bN xb.1.1.next s.root xb.1.2) s.inn)] none) T fz_ ?_;refine A.da T T T T T T T T T T T T T (by show ((dH (eD s i)).length+1)*14<=_;rw [aa0];omega) (by show ((dH (eD s i)).length+1)*14*208<=_;rw [aa0];omega) fun z'=>?_;refine y_ ?_;refine A.ad 6 T (x':= .sl 14 (dH (eD s (i+1))) (some z')) (by rw [hpart,hst];show AV.sl 14 (dH (eD s i)++[jZ (eG s 2 1 xb.1.1.value s.store (bN xb.1.1.next s.root xb.1.2) s.inn)]) _=_;exact pK _ _ _) ?_;refine vI 24 i ?_;refine l_ (Λ':=[.tail sR.size z', .box b3 (gI s)]) ?_;exact A.sub su_ (ih (i+1,z') (by show i+1<=_;omega) (by show _-(i+1)<_-i;omega))
    ·have hst:fK s (bR s) xb.1=(bR s).flatMap (iG s xb.1):=by unfold fK;rw [iF n116,iF (fun h=>h105 h.1),iF (fun h=>h1 h.2),iT h111]
     refine e_ 91 T (x':=AB false) (aA (beq_eq_false_iff_ne.2 h1)) ?_;refine e_ 117 T (x':=AB true) (aA (by rw [h111];rfl)) ?_;refine A.ad 122 T (x':=AI ((bR s).length:Nat)) (aM (by rw [aa0,hll])) ?_;refine A.ad 6 T (x':= .sl 14 (dH (rI s i xb.1 0)) (some z)) (by rw [innM_0]) ?_;refine A.ay [3,5,6,7,9,22,23,24,121,122,123] T ?_;refine A.perm (.swap _ _ _) ?_;refine l_ (Λ':=[.tail sR.size z, .box b9 (HT xb.1 xb.2), .box b3 (gI s)]) ?_;refine A.ar (ι:=Nat×Value) (fun q=>(⟨[(3,cT b3),(5,AP s),(6, .sl 14 (dH (rI s i xb.1 q.1)) (some q.2)),(7, .sl 17 (m9 l) none),(9,cT b9),(22, .sl 17 (m9 l) none),(23,AI ((bR s).length:Nat)),(24,AI (i:Nat)),(121, .sl 17 (m9 l) none),(122,AI ((bR s).length:Nat)),(123,AI (q.1:Nat))],[]⟩,[.tail sR.size q.2, .box b9 (HT xb.1 xb.2), .box b3 (gI s)])) (fun q=>q.1<=(bR s).length) (fun q=>(bR s).length-q.1) (0,z) (ac0 _) T fun q hj ih2=>?_;obtain ⟨j,z2⟩:=q;simp only at hj;have hilen:=ZL hal i xb.1 j;refine y_ ?_;refine k_ (fun hc=>?_) fun hc=>?_
     ·have hcj:j<(bR s).length:=by simpa using hc
      clear hc;refine ac7 (dC (l:=l) (i:=j) (by omega)) fun yb hyb=>?_;have hy:(bR s)[j]? =some yb.1:=by rw [<-hl,ab9,hyb];rfl
      have hin2:=VB i xb.1 hy;refine ac7 (mO hg (aa2 hy)) fun d hind=>?_;refine y_ ?_;refine j_ T (aR hyb) T ?_;refine b_ fun b11=>?_;refine y_ ?_
      by_cases hy105:yb.1.1.kind=105
      ·refine e_ 130 T (x':=AB true) (aA (by rw [hy105];rfl)) ?_
       by_cases hcc:yb.1.1.c=xb.1.1.c
       ·refine e_ 137 T (x':=AB true) (aA (by rw [hcc];exact KK _)) ?_;refine n_ (fitsq_p yb.1.1.item xb.1.1.value (hin.ok.out h111).2) ?_
        by_cases hf:cL yb.1.1.item xb.1.1.value=true
        ·refine A.ad 142 T (x':=AB true) (aA hf) ?_;have hcm:iG s xb.1 yb.1=[eG s 2 xb.1.1.c xb.1.1.value (fU s.store yb.1.1.v yb.1.1.i xb.1.1.value) (bN yb.1.1.next (bN xb.1.1.next s.root xb.1.2) yb.1.2) s.inn]:=by unfold iG;rw [iT ⟨hy105,hcc,hf⟩]
         have hne:=BQ hin hind h111 hy105;have hr1:=l6 hg hin;have hr2:=NJ hg hin hind hne;have hpi:=JQ hg hind hy105 (hin.ok.out h111).2 hf;have hmv:=DF s 2 xb.1.1.c xb.1.1.value _ _ s.inn hpi.small hr2.ok hg.innl;have hpp:=hg.small.put_p yb.1.1.v yb.1.1.i xb.1.1.value;have hc1:=lZ xb.1.1 xb.1.2 xb.2 hg.root hin.at';have hc2:=lZ yb.1.1 yb.1.2 yb.2 hr1.ok (O1 hin hind hne);refine y_ ?_;refine d_ 28 [0,1,2,3,4,5,6,7,8,9,10,11,12,13,14,16,17,18,19,20,21,24,25,15,22,23,26,27] [(15,eQ (fU s.store yb.1.1.v yb.1.1.i xb.1.1.value)),(22,aB (bN xb.1.1.next s.root xb.1.2)),(23,aB (bN yb.1.1.next (bN xb.1.1.next s.root xb.1.2) yb.1.2)),(26,jZ (eG s 2 xb.1.1.c xb.1.1.value (fU s.store yb.1.1.v yb.1.1.i xb.1.1.value) (bN yb.1.1.next (bN xb.1.1.next s.root xb.1.2) yb.1.2) s.inn))] ?_;refine lS hpp ?_;refine lS hc1 ?_;refine lS hc2 ?_;refine lS hmv ?_;refine WA.lit T T T T T T T fun bw=>?_;refine WA.nil (l:=[_]) T ?_;refine A.cq 171 (.slice (some ⟨bw,0,none⟩) 1 1) (y':= .sl 14 [jZ (eG s 2 xb.1.1.c xb.1.1.value (fU s.store yb.1.1.v yb.1.1.i xb.1.1.value) (bN yb.1.1.next (bN xb.1.1.next s.root xb.1.2) yb.1.2) s.inn)] none) T fz_ ?_;refine A.da T T T T T T T T T T T T T (by show ((dH (rI s i xb.1 j)).length+1)*14<=_;rw [aa0];omega) (by show ((dH (rI s i xb.1 j)).length+1)*14*208<=_;rw [aa0];omega) fun z'=>?_;refine y_ ?_;refine A.ad 6 T (x':= .sl 14 (dH (rI s i xb.1 (j+1))) (some z')) (by rw [hin2,hcm];show AV.sl 14 (dH (rI s i xb.1 j)++[jZ (eG s 2 xb.1.1.c xb.1.1.value (fU s.store yb.1.1.v yb.1.1.i xb.1.1.value) (bN yb.1.1.next (bN xb.1.1.next s.root xb.1.2) yb.1.2) s.inn)]) _=_;exact pK _ _ _) ?_;refine vI 123 j ?_;refine l_ (Λ':=[.tail sR.size z', .box b9 (HT xb.1 xb.2), .box b3 (gI s)]) ?_;exact A.sub su_ (ih2 (j+1,z') (by show j+1<=_;omega) (by show _-(j+1)<_-j;omega))
        ·refine A.ad 142 T (x':=AB false) (aA (by simpa using hf)) ?_;have hcm:iG s xb.1 yb.1=[]:=by unfold iG;rw [iF (fun h=>hf h.2.2)]
         refine y_ ?_;refine A.ad 6 T (x':= .sl 14 (dH (rI s i xb.1 (j+1))) (some z2)) (by rw [hin2,hcm,ae3]) ?_;refine vI 123 j ?_;refine l_ (Λ':=[.tail sR.size z2, .box b9 (HT xb.1 xb.2), .box b3 (gI s)]) ?_;exact A.sub su_ (ih2 (j+1,z2) (by show j+1<=_;omega) (by show _-(j+1)<_-j;omega))
       ·refine A.ad 137 T (x':=AB false) (aA (UH hcc)) ?_;have hcm:iG s xb.1 yb.1=[]:=by unfold iG;rw [iF (fun h=>hcc h.2.1)]
        refine y_ ?_;refine A.ad 6 T (x':= .sl 14 (dH (rI s i xb.1 (j+1))) (some z2)) (by rw [hin2,hcm,ae3]) ?_;refine vI 123 j ?_;refine l_ (Λ':=[.tail sR.size z2, .box b9 (HT xb.1 xb.2), .box b3 (gI s)]) ?_;exact A.sub su_ (ih2 (j+1,z2) (by show j+1<=_;omega) (by show _-(j+1)<_-j;omega))
      ·refine A.ad 130 T (x':=AB false) (aA (beq_eq_false_iff_ne.2 hy105)) ?_;have hcm:iG s xb.1 yb.1=[]:=by unfold iG;rw [iF (fun h=>hy105 h.1)]
       refine y_ ?_;refine A.ad 6 T (x':= .sl 14 (dH (rI s i xb.1 (j+1))) (some z2)) (by rw [hin2,hcm,ae3]) ?_;refine vI 123 j ?_;refine l_ (Λ':=[.tail sR.size z2, .box b9 (HT xb.1 xb.2), .box b3 (gI s)]) ?_;exact A.sub su_ (ih2 (j+1,z2) (by show j+1<=_;omega) (by show _-(j+1)<_-j;omega))
     have hcj: ¬j<(bR s).length:=by simpa using hc
     clear hc ih2;have hjl:j=(bR s).length:=by omega
     refine y_ ?_;refine A.ad 6 T (x':= .sl 14 (dH (eD s (i+1))) (some z2)) (by rw [hpart,hst,hjl,ZK]) ?_;refine vI 24 i ?_;refine l_ (Λ':=[.tail sR.size z2, .box b3 (gI s)]) ?_;exact A.sub su_ (ih (i+1,z2) (by show i+1<=_;omega) (by show _-(i+1)<_-i;omega))
   ·have hst:fK s (bR s) xb.1=[]:=by unfold fK;rw [iF n116,iF (fun h=>h105 h.1),iF (fun h=>h111 h.1),iF h111]
    refine e_ 95 T (x':=AB false) (aA (beq_eq_false_iff_ne.2 h111)) ?_;refine e_ 117 T (x':=AB false) (aA (beq_eq_false_iff_ne.2 h111)) ?_;refine A.ad 6 T (x':= .sl 14 (dH (eD s (i+1))) (some z)) (by rw [hpart,hst,ae3]) ?_;refine vI 24 i ?_;refine l_ (Λ':=[.tail sR.size z, .box b3 (gI s)]) ?_;exact A.sub su_ (ih (i+1,z) (by show i+1<=_;omega) (by show _-(i+1)<_-i;omega))
 have hci: ¬i<(bR s).length:=by simpa using hc
 clear hc ih;have hil:i=(bR s).length:=by omega
 have hmv:=DF s 3 0 0 s.store s.root s.inn hg.small hg.root hg.innl;have hplen:=xD hal i;have hall:nE s=eD s i++[N8 s]:=by unfold nE eD;rw [hil,ac4]
 have htick:jZ ⟨3,0,0,⟨s.store,aD s.root,s.inn,IntKind.i32.wrap (s.time+1)⟩⟩=jZ (N8 s):=by rw [hg.nf];rfl
 refine y_ ?_;refine n_ hmv ?_
 (refine b_ fun bx=>?_;refine t_ fun bl=>?_)
 refine A.da T T T T T T T T T T T T T (by show ((dH (eD s i)).length+1)*14<=_;rw [aa0];omega) (by show ((dH (eD s i)).length+1)*14*208<=_;rw [aa0];omega) fun z'=>?_;refine e_ 193 T (x':= .sl 14 (dH (nE s)) (some z')) (by rw [hall];show AV.sl 14 (dH (eD s i)++[jZ ⟨3,0,0,⟨s.store,aD s.root,s.inn,IntKind.i32.wrap (s.time+1)⟩⟩]) _=_;rw [htick];exact pK _ _ _) ?_;refine R_ ?_;exact .cw
theorem bl_lt{p x:PR}{g:GD}(hg:g∈p.gs)(h:x∈g.body):SizeOf.sizeOf x<SizeOf.sizeOf p:=by have h1:=AE hg;have h2:=zX h;omega
theorem skol18{P:PR->Int->Prop}{S:PR->Prop}(h: ∀x,S x-> ∃n,P x n): ∃f:PR->Int,∀x,S x->P x (f x):=by
 classical
 exact ⟨fun x=>if hx:S x then (h x hx).choose else 0,fun x hx=>by simp only [dif_pos hx];exact (h x hx).choose_spec⟩
def tV(f:PR->Int)(n:Int)(x:PR):Int:=IntKind.i64.wrap (n+f x)
def sumS(f:PR->Int)(p:PR):Int:=p.gs.foldl (fun n g=>g.body.foldl (tV f) n) (p.l.foldl (tV f) 1)
theorem rsz_f(p:PR)(hs:mC p)(f:PR->Int)(hl: ∀x,x∈p.l->Pure prog a9 4 [aB x] (AI (f x)))(hg: ∀g,g∈p.gs-> ∀x,x∈g.body->Pure prog a9 4 [aB x] (AI (f x))):
 Pure prog a9 4 [aB p] (AI (sumS f p)):=by
 have hsa:=lQ hs;have hll:=hsa.ll;have hgl:=hsa.gl;have n1:((bC p.l).length:Int)=p.l.length:=by rw [aW]
 have n2:((eV p.gs).length:Int)=p.gs.length:=by rw [dD]
 unfold sumS;refine P_ func4 53 fun _ _ _ _=>?_
 (refine b_ fun bx=>?_;refine y_ ?_)
 refine A.freeze 1 (sz:=8) T T T ?_;refine A.ay [1,3,4] T ?_;refine A.ar (ι:=Nat) (fun i=>(⟨[(1, .pe 8 (aB p)),(3,AI ((p.l.take i).foldl (tV f) 1)),(4,AI (i:Nat))],[]⟩,[])) (fun i=>i<=p.l.length) (fun i=>p.l.length-i) 0 (ac0 _) T fun i hi ih=>?_;refine y_ ?_;refine k_ (fun hc=>?_) fun hc=>?_
 ·have hc':i<p.l.length:=by have:=hc;simp only [n1,dT] at this;omega
  refine aX hc' fun x hx=>?_;have hsz:=hl x (aa2 hx);have htk:p.l.take (i+1)=p.l.take i++[x]:=by rw [ac6,hx];rfl
  refine y_ ?_;refine i_ T (cF hx) (bP x) ?_;refine c_ hsz ?_;refine A.ad 3 T (x':=AI ((p.l.take (i+1)).foldl (tV f) 1)) (by rw [htk,aj2];rfl) ?_;refine vI 4 i ?_;refine u_ (ih (i+1) (by omega) (by omega))
 have hc': ¬i<p.l.length:=by have:=hc;simp only [n1,dF] at this;omega
 have hil:i=p.l.length:=by omega
 refine e_ 3 T (x':=AI (p.l.foldl (tV f) 1)) (by rw [hil,ac4]) ?_;refine A.ay [1,3,5] T ?_;refine A.ar (ι:=Nat) (fun j=>(⟨[(1, .pe 8 (aB p)),(3,AI ((p.gs.take j).foldl (fun n g=>g.body.foldl (tV f) n) (p.l.foldl (tV f) 1))),(5,AI (j:Nat))],[]⟩,[])) (fun j=>j<=p.gs.length) (fun j=>p.gs.length-j) 0 (ac0 _) T fun j hj jh=>?_;refine y_ ?_;refine k_ (fun hc=>?_) fun hc=>?_
 ·have hc':j<p.gs.length:=by have:=hc;simp only [n2,dT] at this;omega
  refine aX hc' fun g hgj=>?_;have hgm:=aa2 hgj;have htk:p.gs.take (j+1)=p.gs.take j++[g]:=by rw [ac6,hgj];rfl
  have n3:((bC g.body).length:Int)=g.body.length:=by rw [aW]
  have hbl:=(qQ (hsa.g g hgm)).bl;refine eX ((p.gs.take j).foldl (fun n g=>g.body.foldl (tV f) n) (p.l.foldl (tV f) 1)) fun n0 hn0=>?_;refine e_ 3 T (x':=AI n0) (by rw [hn0]) ?_;refine A.ay [1,3,5,6] T ?_;refine A.ar (ι:=Nat) (fun t=>(⟨[(1, .pe 8 (aB p)),(3,AI ((g.body.take t).foldl (tV f) n0)),(5,AI (j:Nat)),(6,AI (t:Nat))],[]⟩,[])) (fun t=>t<=g.body.length) (fun t=>g.body.length-t) 0 (ac0 _) T fun t ht th=>?_;refine y_ ?_;refine i_ T (jY hgj) (jX g) ?_;refine k_ (fun hc=>?_) fun hc=>?_
  ·have hct:t<g.body.length:=by have:=hc;simp only [n3,dT] at this;omega
   refine aX hct fun x hx=>?_;have hsz:=hg g hgm x (aa2 hx);have htk2:g.body.take (t+1)=g.body.take t++[x]:=by rw [ac6,hx];rfl
   refine y_ ?_;refine i_ T (jY hgj) (jX g) ?_;refine i_ T (cF hx) (bP x) ?_;refine c_ hsz ?_;refine A.ad 3 T (x':=AI ((g.body.take (t+1)).foldl (tV f) n0)) (by rw [htk2,aj2];rfl) ?_;refine vI 6 t ?_;refine u_ (th (t+1) (by omega) (by omega))
  have hct: ¬t<g.body.length:=by have:=hc;simp only [n3,dF] at this;omega
  have oZ:t=g.body.length:=by omega
  refine e_ 3 T (x':=AI ((p.gs.take (j+1)).foldl (fun n g=>g.body.foldl (tV f) n) (p.l.foldl (tV f) 1))) (by rw [oZ,ac4,htk,aj2,<-hn0];rfl) ?_;refine vI 5 j ?_;refine u_ (jh (j+1) (by omega) (by omega))
 have hc': ¬j<p.gs.length:=by have:=hc;simp only [n2,dF] at this;omega
 have hjl:j=p.gs.length:=by omega
 rw [hjl,ac4];exact rK
theorem rsz_ex: ∀(m:Nat) (p:PR),SizeOf.sizeOf p<=m->mC p-> ∃n,Pure prog a9 4 [aB p] (AI n)
 |0,p,h,_=>by obtain ⟨k,c,v,i,to,e,gs,l⟩:=p;simp only [PR.mk.sizeOf_spec] at h;omega
 |m+1,p,h,hw=>by have hwa:=lQ hw;obtain ⟨f,hf⟩:=skol18 (S:=fun x=>SizeOf.sizeOf x<=m/\mC x) (P:=fun x n=>Pure prog a9 4 [aB x] (AI n)) fun x hx=>rsz_ex m x hx.1 hx.2;exact ⟨_,rsz_f p hw f (fun x hx=>hf x ⟨by have:=cK hx;omega,hwa.l x hx⟩) (fun g hg x hx=>hf x ⟨by have:=bl_lt hg hx;omega,(qQ (hwa.g g hg)).body x hx⟩)⟩
theorem CZ: ∀(l:List PR) (n:Int),0<=n->n+(dB l:Nat)<=4294967296->l.foldl (tV fun x=>(gO x:Nat)) n=n+(dB l:Nat)
 | [],n,_,_=>by rw [dB];simp |x::r,n,h0,h=>by
  rw [dB] at h⊢;have e:tV (fun x=>(gO x:Nat)) n x=n+(gO x:Nat):=by show IntKind.i64.wrap (n+((gO x:Nat):Int))=_;exact fZ _ (by omega)
  rw [ah1,e,CZ r _ (by omega) (by omega)];omega
theorem F5: ∀(l:List GD) (n:Int),0<=n->n+(bT l:Nat)<=4294967296->l.foldl (fun n g=>g.body.foldl (tV fun x=>(gO x:Nat)) n) n=n+(bT l:Nat)
 | [],n,_,_=>by rw [bT];simp |g::r,n,h0,h=>by rw [bT,lE] at h⊢;rw [ah1,CZ g.body n h0 (by omega),F5 r _ (by omega) (by omega)];omega
theorem rsz_n: ∀(m:Nat) (p:PR),SizeOf.sizeOf p<=m->mC p->gO p<=1000000->Pure prog a9 4 [aB p] (AI (gO p:Nat))
 |0,p,h,_,_=>by obtain ⟨k,c,v,i,to,e,gs,l⟩:=p;simp only [PR.mk.sizeOf_spec] at h;omega
 |m+1,p,h,hw,hz=>by
  have hwa:=lQ hw;have e:=mI p
  have h1:=rsz_f p hw (fun x=>(gO x:Nat)) (fun x hx=>rsz_n m x (by have:=cK hx;omega) (hwa.l x hx) (by have:=JX hx;omega))
   (fun g hg x hx=>rsz_n m x (by have:=bl_lt hg hx;omega) ((qQ (hwa.g g hg)).body x hx) (by have:=BV hg;have:=JX hx;rw [lE] at*;omega))
  have e2:sumS (fun x=>(gO x:Nat)) p=(gO p:Nat):=by unfold sumS;rw [CZ p.l 1 (by omega) (by omega),F5 p.gs _ (by omega) (by omega)];omega
  rw [e2] at h1;exact h1
theorem rsz_p{p:PR}(hw:mC p)(hz:gO p<=1000000):Pure prog a9 4 [aB p] (AI (gO p:Nat)):=rsz_n _ p (aa6 _) hw hz
theorem rsz_if{p:PR}(hw:mC p): ∃n,Pure prog a9 4 [aB p] (AI n)/\(gO p<=1000000->n=(gO p:Nat)):=by
 by_cases hz:gO p<=1000000
 ·exact ⟨_,rsz_p hw hz,fun _=>rfl⟩
 ·obtain ⟨n,hn⟩:=rsz_ex _ p (aa6 _) hw;exact ⟨n,hn,fun h=>absurd h hz⟩
structure SmN(k:KN):Prop where
 wf:KG k
 root:mC k.root
theorem tP{V:List KV}{n:Nat}{p:PR}(h:aS V n p=true)(hk:p.kind=3\/p.kind=5\/p.kind=6\/p.kind=9\/p.kind=10\/p.kind=13)(hl: ∀x,x∈p.l->iA x=true):iA p=true:=by have hg:=ZD h (by omega) (by omega) (by omega);exact xX.2 ⟨⟨by omega,by omega,fun g hx=>by rw [hg] at hx;cases hx⟩,hl,fun g hx=>by rw [hg] at hx;cases hx⟩
theorem l_nil{V:List KV}{n:Nat}{p:PR}(h:aS V n p=true)(hk:p.kind=3\/p.kind=5\/p.kind=6):p.l=[]:=by
 have h0: ∀{ch v:Bool} {t1 t2 e1 e2:Int},aN p ch v t1 t2 e1 e2 0 0 0 0=true->p.l=[]:=fun hs=>by simp only [aN,aa1] at hs;exact ai8 (ZJ hs.2)
 unfold aS at h;rcases hk with k|k|k
 ·rw [iF (by omega),iT k] at h;exact h0 (ae5.1 (ae5.1 h).1).1
 ·rw [iF (by omega),iF (by omega),iF (by omega),iT k] at h;exact h0 (ae5.1 h).1
 ·rw [iF (by omega),iF (by omega),iF (by omega),iF (by omega),iT k] at h;exact h0 (ae5.1 (ae5.1 h).1).1
section
variable{k:KN}
theorem EO{p:PR}(g:Good k p)(hk:p.kind=3\/p.kind=5\/p.kind=6):iA p=true:=
 tP g.kind (by omega) fun x hx=>by rw [l_nil g.kind hk] at hx;cases hx
theorem OB{p:PR}(g:Good k p)(h:iA (bK p)=true):iA p=true:=by
 cases hc:iI p with
 |false=>rw [sH hc] at h;exact h |true=>
  obtain ⟨h9,cs,hl,hk⟩:=uO hc;refine tP g.kind (by omega) fun x hx=>?_;have gx:=g.l hx;rw [hl] at hx;rcases af0.1 hx with hx|hx
  ·exact EO gx (.inl (hk x hx))
  ·rw [aa3.1 hx];exact h
theorem OC{s:PR}(g:Good k s)(h:cI k s=true):iA s=true:=by
 unfold cI at h;rw [aa1] at h;obtain ⟨e1,e2⟩:=oI (s:=s) (by intro e;rw [e] at h;simp at h);have key: ∀x,x∈aO s->x.kind=5\/x.kind=6:=fun x hx=>by rw [<-e1] at hx;exact (vX (lC hx).2).1
 by_cases h10:s.kind=10
 ·rw [qA h10] at key;exact tP g.kind (by omega) fun x hx=>EO (g.l hx) (.inr (key x hx))
 ·rw [H7 h10] at key;exact EO g (.inr (key s (.head _)))
theorem RH{p:PR}(g:Good k p)(h:jD k p≠[]):iA p=true:=by
 obtain ⟨h13,_,ha,_⟩:=pB h;refine OB g (tP g.last.kind (by omega) fun x hx=>?_);obtain ⟨a,y,_,hy⟩:=BF g.last.kind h13;have gy:Good k y:=g.last.l (by rw [hy];exact .head _);rw [hy,aa3] at hx;subst hx;have hs:eU (bK p)=if x.kind=9 then x.l else [x]:=by unfold eU;rw [hy]
 rw [hs] at ha
 by_cases h9:x.kind=9
 ·rw [iT h9] at ha;exact tP gy.kind (by omega) fun s hsm=>OC (gy.l hsm) (ac5.1 ha s hsm)
 ·rw [iF h9] at ha;exact OC gy (ac5.1 ha x (.head _))
structure mJ(k:KN):Prop where
 may:nV k=true
 k10:(bK k.root).kind=10
 cls:kU k (bK k.root)=true
theorem mJ.good(h:mJ k)(hw:KG k):Good k (bK k.root)/\k.chans.length<=64:=by obtain ⟨g,h64⟩:=yU hw h.may;exact ⟨g.last,h64⟩
theorem mJ.size(h:mJ k)(hw:KG k):mL (fA k (bK k.root))<=1000:=by obtain ⟨g,h64⟩:=h.good hw;obtain ⟨e,hz⟩:=X0 g h64;have hr:=h.cls;rw [e] at hr;unfold refB at hr;simp only [aa1] at hr;exact hz hr.1 hr.2.1
theorem mJ.valid(h:mJ k)(hw:KG k):Valid k.chans.length (fA k (bK k.root)):=by have hr:=h.cls;unfold kU at hr;rw [aa1] at hr;exact (wY (h.size hw)).1 hr.2
theorem mJ.ne(h:mJ k)(hw:KG k): ∀p,p∈(bK k.root).l->jD k p≠[]:=fun p hp e=>by have:=(h.valid hw).fine (gZ k p) (ac1.2 ⟨p,hp,rfl⟩);exact this.ne (by unfold gZ;rw [e];rfl)
theorem mJ.net(h:mJ k)(hw:KG k):yG k.vars (oQ (bK k.root)):=by obtain ⟨g,h64⟩:=h.good hw;have hr:=h.cls;unfold kU at hr;rw [aa1] at hr;exact net_of g h64 hr.1 (h.valid hw)
theorem mJ.start(h:mJ k)(hk:SmN k):OU k (bK k.root) (oQ (bK k.root)) (fun _=>0) (zP k []):=by obtain ⟨g,h64⟩:=h.good hk.wf;have hu:iA k.root=true:=OB (yU hk.wf h.may).1 (tP g.kind (by have:=h.k10;omega) fun p hp=>RH (g.l hp) (h.ne hk.wf p hp));exact ⟨⟨Q7 h.may hk.wf hk.root (fun x hx=>by cases hx) (by simp),J0 (BH I8 (S5 hu (vL h.may hk.wf hk.root)))⟩,VQ T (vA (h.net hk.wf) h.k10)⟩
structure rR(k:KN)(l:List Int)(s:ST):Prop where
 run: ∃n,OU k (bK k.root) (oQ (bK k.root)) n s/\ ∀c,c∈l->n c=0
theorem rR.start(h:mJ k)(hk:SmN k)(l:List Int):rR k l (zP k []):=⟨_,h.start hk,fun _ _=>rfl⟩
theorem rR.good{l:List Int}{s:ST}(w:rR k l s):d6 k s:=by obtain ⟨n,r,_⟩:=w.run;exact r.srch.good
theorem rR.step(h:mJ k)(hw:KG k){l:List Int}{b:Bool}(hc:n7 k.chans.length (fA k (bK k.root))=(l,b)){s:ST}(w:rR k l s){m:MV}(hm:m∈hI s):rR k l m.next/\(m.kind=2->m.ec∉l):=by
 have hl: ∀c,c∈l-> ∃d,d∈l/\Prec (oQ (bK k.root)) d c:=by
  have hv:=h.valid hw;have hr:=h.cls;unfold kU at hr;rw [aa1] at hr;cases hcv:r7 (beforeF (fA k (bK k.root))) k.chans.length with
  |none=>
   rw [CJ hr.2 hcv] at hc;injection hc with hc _;rw [<-hc];intro c hx;cases hx
  |some l'=>
   rw [qC hr.2 hcv] at hc;injection hc with hc _;rw [<-hc];exact net_cyc (h.ne hw) hv hcv
 obtain ⟨n,r,h0⟩:=w.run;obtain ⟨n',r',hmv⟩:=r.step (h.net hw) h.k10 (vA (h.net hw) h.k10) hm;obtain ⟨z1,z2⟩:=Z5 hmv (h.net hw) hl h0;refine ⟨⟨n',r',z1⟩,fun k2=>z2 m.ec m.ev ?_⟩;show (m.ec,m.ev)∈Y0 m;unfold Y0 evM;rw [iT k2];exact .head _
theorem rR.go(h:mJ k)(hw:KG k){l:List Int}(hc:n7 k.chans.length (fA k (bK k.root))=(l,false)){s:ST}(w:rR k l s):hI s≠[]:=by
 have hv:=h.valid hw;have hr:=h.cls;unfold kU at hr;rw [aa1] at hr;have hcv:r7 (beforeF (fA k (bK k.root))) k.chans.length=none:=by
  cases hcv:r7 (beforeF (fA k (bK k.root))) k.chans.length with
  |none=>rfl |some l'=>rw [qC hr.2 hcv] at hc;injection hc with _ hc;cases hc
 obtain ⟨n,r,_⟩:=w.run;exact r.go (h.net hw) h.k10 (vA (h.net hw) h.k10) (Z4 (h.ne hw) hv hcv) (rkW_le _)
end
theorem WM(k:KN)(hk:SmN k)(hm:nV k=true)(inn:List Int)(hi:inn.length<=35184372088832):Pure prog a9 8 [eZ k,rJ inn] (.tp [gI (zP k inn),AI 0]):=by
 have h1:=I3 k hk.wf;rw [hm] at h1;have h2:=WS k.vars k.chans k.root k.procs hk.wf.vars;obtain ⟨w1,w2,w3⟩:=QD (vL hm hk.wf hk.root);have h3:=QA k.root w2 w3;have h4:=K7 (aD k.root) (BI w2);have h5:=K0 inn hi;refine P_ func8 19 fun _ _ _ _=>?_
 (refine b_ fun bx=>?_;refine b_ fun bx=>?_;refine y_ ?_)
 refine c_ h1 ?_;refine d_ 9 [0,2,3,6,1,4,5,7,8] [(1,eQ (qU k.vars)),(4,aB (aD k.root)),(5,aB (aD k.root)),(7,rJ inn)] ?_;refine lS h2 ?_;refine lS h3 ?_;refine lS h4 ?_;refine lS h5 ?_;refine z_ ?_;refine m_ (d8.cell T T T (d8.tmp T d8.nil)) ?_;exact s_
abbrev O5(l:List Int):AV:= .sl 1 (l.map aU) none
theorem N3{k:KN}{s:ST}(hg:d6 k s):(hI s).length<=6710968320:=by have h1:=KH hg;have h2:=xD (s:=s) (af4 h1 hg.wt) (bR s).length;unfold eD at h2;rw [ac4] at h2;exact h2
theorem runs_law(k:KN)(hk:SmN k)(pk:List Int)(hp: ∀x,x∈pk->Go.Tp.u8 x)(hpl:pk.length<=281474976710656):Pure prog vT 3 [eZ k,O5 pk] (AB true):=by
 obtain ⟨n0,hsz,_⟩:=rsz_if hk.root;have hsz:=hsz.any (gs:=vT);have hhead:=ZI.any (gs:=vT);have hcls:=class_p k hk.wf;have n1:((pk.map aU).length:Int)=pk.length:=by rw [aa0]
 obtain ⟨b,hbe⟩: ∃b,b=(nV k&&(bK k.root).kind==10&&kU k (bK k.root)):=⟨_,rfl⟩;rw [<-hbe] at hcls;cases b with
 |false=>
  refine P_ func3 122 fun _ _ _ _=>?_;refine b_ fun b2=>?_;refine y_ ?_
  ((fail_if_success (refine A.lit? T ?_));refine A.gS T (fun hc=>?_) (fun hc=>?_))
  ·(refine y_ ?_;exact lR hhead)
  refine y_ ?_
  ((fail_if_success (refine A.lit? T ?_));refine A.gS T (fun hc=>?_) (fun hc=>?_))
  ·(refine y_ ?_;exact lR hhead)
  refine y_ ?_
  ((fail_if_success (refine A.lit? T ?_));refine A.gS T (fun hc=>?_) (fun hc=>?_))
  ·(refine y_ ?_;exact lR hhead)
  refine y_ ?_;refine c_ hsz ?_
  ((fail_if_success (refine A.lit? T ?_));refine A.gS T (fun hc=>?_) (fun hc=>?_))
  ·(refine y_ ?_;exact lR hhead)
  refine y_ ?_;refine A.ad 40 T (x':=AB (decide (60<pk.length))) (aA (by rw [ab8];simp;omega)) ?_;refine k_ (fun hc=>?_) fun hc=>?_
  ·(refine y_ ?_;exact lR hhead)
  have hpk:pk.length<=60:=by simp at hc;omega
  refine y_ ?_;refine n_ hcls ?_
  (refine b_ fun bx=>?_;refine y_ ?_)
  (exact lR hhead)
 |true=>
 have hnet:mJ k:=by have hbe:=hbe.symm;rw [aa1,aa1,beq_iff_eq] at hbe;exact ⟨hbe.1.1,hbe.1.2,hbe.2⟩
 have hw:=hk.wf;obtain ⟨gq,h64⟩:=hnet.good hw;have hcy:=(H9 k.chans.length (fA k (bK k.root)) (G8 gq) (hnet.size hw)).any (gs:=vT);obtain ⟨l,w,hlw⟩: ∃l w,n7 k.chans.length (fA k (bK k.root))=(l,w):=⟨_,_,rfl⟩;rw [hlw] at hcy;have hst:=(WM k hk hnet.may [] (by simp)).any (gs:=vT);have hll:l.length<=281474976710656:=by have:=cyc_len k.chans.length (fA k (bK k.root));rw [hlw] at this;exact this
 have nl:((l.map AI).length:Int)=l.length:=by rw [aa0]
 refine P_ func3 122 fun _ _ _ _=>?_;refine b_ fun b2=>?_;refine y_ ?_
 ((fail_if_success (refine A.lit? T ?_));refine A.gS T (fun hc=>?_) (fun hc=>?_))
 ·(refine y_ ?_;exact lR hhead)
 refine y_ ?_
 ((fail_if_success (refine A.lit? T ?_));refine A.gS T (fun hc=>?_) (fun hc=>?_))
 ·(refine y_ ?_;exact lR hhead)
 refine y_ ?_
 ((fail_if_success (refine A.lit? T ?_));refine A.gS T (fun hc=>?_) (fun hc=>?_))
 ·(refine y_ ?_;exact lR hhead)
 refine y_ ?_;refine c_ hsz ?_
 ((fail_if_success (refine A.lit? T ?_));refine A.gS T (fun hc=>?_) (fun hc=>?_))
 ·(refine y_ ?_;exact lR hhead)
 refine y_ ?_;refine A.ad 40 T (x':=AB (decide (60<pk.length))) (aA (by rw [ab8];simp;omega)) ?_;refine k_ (fun hc=>?_) fun hc=>?_
 ·(refine y_ ?_;exact lR hhead)
 have hpk:pk.length<=60:=by simp at hc;omega
 refine y_ ?_;refine c_ hcls ?_;refine A.b T fun b5=>?_;refine y_ ?_;refine c_ hcy ?_;refine c_ hst ?_;refine A.b T fun b9=>?_;refine y_ ?_;refine A.ay [1,2,7,8,9,11] T ?_;refine l_ (Λ':=[.box b9 (gI (zP k [])), .box b2 (eZ k)]) ?_;refine A.ar (ι:=Nat×ST) (fun u=>(⟨[(1,O5 pk),(2,cT b2),(7,gG l),(8,AB w),(9,cT b9),(11,AI (u.1:Nat))],[]⟩,[.box b9 (gI u.2), .box b2 (eZ k)])) (fun u=>u.1<=pk.length/\rR k l u.2) (fun u=>pk.length-u.1) (0,zP k []) ⟨ac0 _,rR.start hnet hk l⟩ T fun u hu ih=>?_;obtain ⟨i,s⟩:=u;obtain ⟨hi1,hon⟩:=hu;simp only at hi1 hon;refine y_ ?_;refine A.ad 65 T (x':=AI (pk.length:Nat)) (aM n1) ?_;refine k_ (fun hc=>?_) fun hc=>?_
 ·have hci:i<pk.length:=by simpa using hc
  clear hc;refine aX hci fun n hn=>?_;have hu8:=hp n (aa2 hn);unfold Go.Tp.u8 at hu8;have hg:=hon.good;have hmv:=(Z3 k s hg).any (gs:=vT);have hml:=N3 hg;have hmp:=VO s;have n2:((dH (nE s)).length:Int)=(hI s).length+1:=by rw [aa0,hmp];omega
  refine y_ ?_;refine c_ hmv ?_
  by_cases hr:hI s=[]
  ·have hw1:w=true:=by
    cases w with
    |true=>rfl |false=>exact absurd hr (hon.go hnet hw hlw)
   refine A.ad 8 T (x':=AB true) (by rw [hw1]) ?_;have n3:((dH (nE s)).length:Int)=1:=by rw [n2,hr];rfl
   refine e_ 75 T (x':=AB false) (aA (by rw [n3];rfl)) ?_;refine e_ 79 T (x':=AB true) (aA (by rw [n3];rfl)) ?_;refine A.ad 83 T (x':=AB false) (aA T) ?_;refine A.ad 86 T (x':=AB true) (aA (by rw [n3];rfl)) ?_
   (refine y_ ?_;exact lR hhead)
  ·have hpos:0<(hI s).length:=by
    cases hrr:hI s with
    |nil=>exact absurd hrr hr |cons a r=>rw [ab1];omega
   refine e_ 75 T (x':=AB false) (aA (by rw [n2];simp;omega)) ?_;refine e_ 79 T (x':=AB false) (aA (by rw [n2];exact beq_eq_false_iff_ne.2 (by omega))) ?_;refine A.ad 83 T (x':=AB false) (aA T) ?_;refine A.ad 86 T (x':=AB false) (aA (by rw [n2];exact beq_eq_false_iff_ne.2 (by omega))) ?_;have hlt:n.toNat % (hI s).length<(hI s).length:=Nat.mod_lt _ hpos;refine ac7 (dC (l:=hI s) (i:=n.toNat % (hI s).length) hlt) fun m hm0=>?_;have hmm:(nE s)[n.toNat % (hI s).length]? =some m:=by rw [DG,ad6 hlt];exact hm0
   have hs2:=hon.step hnet hw hlw (aa2 hm0);refine y_ ?_;refine i_ T (aR hn) T ?_;refine A.ad 93 T (x':=AI (n.toNat:Nat)) (aM (by rw [fZ _ (by omega)];omega)) ?_;refine A.ad 96 T (x':=AI ((hI s).length:Nat)) (aM (by rw [n2,fZ _ (by omega)];omega)) ?_;refine A.fw T T T T T T T (by omega) ?_;refine A.ad 97 T (x':=AI ((n.toNat % (hI s).length:Nat):Int)) (aM (by
    show Int.tmod ((n.toNat:Nat):Int) ((hI s).length:Nat)=_
    rfl)) ?_
   refine j_ T (aR hmm) T ?_;refine b_ fun b13=>?_;refine y_ ?_;refine A.ay [1,2,7,8,9,11,13,14] T ?_;refine A.ar (ι:=Nat) (fun j=>(⟨[(1,O5 pk),(2,cT b2),(7,gG l),(8,AB w),(9,cT b9),(11,AI (i:Nat)),(13,cT b13),(14,AI (j:Nat))],[]⟩,[.box b13 (jZ m), .box b9 (gI s), .box b2 (eZ k)])) (fun j=>j<=l.length) (fun j=>l.length-j) 0 (ac0 _) T fun j hj jh=>?_;refine y_ ?_;refine A.ad 102 T (x':=AI (l.length:Nat)) (aM nl) ?_;refine k_ (fun hc=>?_) fun hc=>?_
   ·have hcj:j<l.length:=by simpa using hc
    clear hc;refine aX hcj fun x hx=>?_;refine y_ ?_
    by_cases hk2:m.kind=2
    ·have hne:(m.ec==x)=false:=beq_eq_false_iff_ne.2 fun e=>hs2.2 hk2 (by rw [e];exact aa2 hx);refine d_ 13 [0,1,2,3,4,5,6,7,8,9,10,11,12] [] ?_;refine uS 109 T (x':=AB true) (aA (by rw [hk2];rfl)) ?_;refine rM T (aR hx) T ?_;refine z_ ?_;refine e_ 118 T (x':=AB false) (aA hne) ?_;refine vI 14 j ?_;refine u_ (jh (j+1) (by omega) (by omega))
    ·refine d_ 13 [0,1,2,3,4,5,6,7,8,9,10,11,12] [] ?_;refine uS 109 T (x':=AB false) (aA (beq_eq_false_iff_ne.2 hk2)) ?_;refine z_ ?_;refine A.ad 118 T (x':=AB false) (aA T) ?_;refine vI 14 j ?_;refine u_ (jh (j+1) (by omega) (by omega))
   clear hc jh;refine y_ ?_;refine vI 11 i ?_;refine l_ (Λ':=[.box b9 (gI m.next), .box b2 (eZ k)]) ?_;refine u_ (ih (i+1,m.next) ⟨by show i+1<=_;omega,hs2.1⟩ (by show _-(i+1)<_-i;omega))
 clear hc ih
 (refine y_ ?_;exact lR hhead)
end Go.Proofs.YtkbolbpojpmicaaGreatDoor
namespace Go.Proofs.YtkbolbpojpmicaaGreatDoor
open Go Go.Tp Go.ChangeShapes Go.WideShapes Go.ChangeAt Go.RowKit
theorem gQ:prog.globalNamed "transputer/depth.quiet" =some 0:=by kernel_rfl
theorem gQt:(prog.globals[0]?).map (·.type)=some 194:=by kernel_rfl
theorem laid_eq:(Rows.laid_transputer_depth_quiet:DataW Unit)= .agg (((List.range 27).map fun (i:Nat)=>S22.quietB i).map fun z=> .lit (.bool z)):=rfl
theorem quiet_of{W:World}(h:laidMetH prog [("transputer/depth.quiet",Rows.laid_transputer_depth_quiet)] W):iB (C1 W) 0 0 S22.quietL:=by
 have h:laidMet prog [("transputer/depth.quiet",Rows.laid_transputer_depth_quiet)] W:=h
 obtain ⟨cs,fuel,p,_,hd,hc⟩:=VJ gQ gQt h;rw [laid_eq] at hd;have hcs:=CF (by kernel_rfl:prog.underlying 194=some (.array 27 4)) (by kernel_rfl) (by kernel_rfl) (by kernel_rfl) hd;have hq:cs.toList=S22.quietL:=by rw [hcs];rfl
 refine ZG (fun i _=>?_) (dP (by rfl));rw [ag9,hc i,<-Array.getElem?_toList,hq]
theorem gs_of{W:World}(h:laidMetH prog [("transputer/depth.quiet",Rows.laid_transputer_depth_quiet)] W):jP (C1 W) vT:=fun g x hx=>by
 have hq:=quiet_of h;simp only [vT,bJ] at hx;split at hx
 ·rename_i hb;have hg:=Nat.eq_of_beq_eq_true hb;subst hg;injection hx with hx;subst hx;rw [kO];exact ⟨0,0, .agg ⟨S22.quietL⟩,rfl,eJ.2 ⟨S22.quietL,rfl,KD (by rfl)⟩,rfl,hq⟩
 ·cases hx
noncomputable def laidWorld (os:Os):World:=
 {World.holding prog os ⟨#[], #[],[]⟩ with heap:=(World.holding prog os ⟨#[], #[],[]⟩).heap.modify 0 fun
   | .cells _ t frozen=> .cells ⟨S22.quietL⟩ t frozen |o=>o}
end Go.Proofs.YtkbolbpojpmicaaGreatDoor
namespace Go.Proofs.YtkbolbpojpmicaaGreatDoor
open Go Go.Tp
abbrev knum(n:Int):KE:=⟨1,0,0,n,0,[]⟩
abbrev kvar(v:Int):KE:=⟨2,0,0,0,v,[]⟩
abbrev pOut:PR:=⟨6,2,0,1,[],[knum 5],[],[]⟩
abbrev pIn:PR:=⟨5,2,0,1,[⟨0,[]⟩],[],[],[]⟩
abbrev pTell:PR:=⟨6,1,0,1,[],[kvar 0],[],[]⟩
abbrev pSeq:PR:=⟨9,0,0,0,[],[],[],[pIn,pTell]⟩
abbrev pRoot:PR:=⟨10,0,0,0,[],[],[],[pOut,pSeq]⟩
abbrev J9:ST:=⟨[[0]],pRoot,[],0⟩
abbrev st2:ST:=⟨[[5]],aK,[],0⟩
end Go.Proofs.YtkbolbpojpmicaaGreatDoor
namespace Go.Proofs.YtkbolbpojpmicaaGreatDoor
open Go Go.Tp Go.ChangeShapes Go.WideShapes Go.ChangeAt Go.RowKit
theorem own:ownKnob prog.godebug=none:=by kernel_rfl
theorem laidOut:laidOutB prog=true:=by kernel_rfl
abbrev bytT(l:List Int):AV:= .sl 1 (l.map aU) none
section
variable{H:Type}{enc:TypeId×Value->H}{W:World}{base:Nat}{sp:Nat->Bool}{hd:Bool}
abbrev H0(e:KE):List AV:=[aU e.kind,aU e.oper,aU e.to,aL e.n,AI e.v, .sl 6 (bB e.l) none]
abbrev wA(p:PR):List AV:=[aU p.kind,AI p.c,AI p.v,aU p.item,iK p.to,c8 p.e,rH p.gs,iQ p.l]
abbrev R5(g:GD):List AV:=[aU g.kind,aU g.cond.kind,aU g.cond.oper,aU g.cond.to,aL g.cond.n,AI g.cond.v,c8 g.cond.l,AI g.c,aU g.item,AI g.to.v,c8 g.to.ix,aU g.time.kind,aU g.time.oper,aU g.time.to,aL g.time.n,AI g.time.v,c8 g.time.l,iQ g.body]
theorem LK(l:List KE):bB l=l.map fun e=> .ag (H0 e):=by rw [pD];congr 1;funext e;exact aJ e
theorem YL(l:List PR):bC l=l.map fun e=> .ag (wA e):=by rw [mZ];congr 1;funext e;exact bP e
theorem YK(l:List GD):eV l=l.map fun e=> .ag (R5 e):=by rw [s9];congr 1;funext e;exact jX e
abbrev OkE(e:KE):Prop:=iZ e/\uE e
abbrev W9(p:PL):Prop:=pV p/\WJ p
abbrev OkR(p:PR):Prop:=zS p/\mC p
abbrev OkG(g:GD):Prop:=wfG g/\smG g
theorem BJ: ∀{l:List KE},(∀a,a∈l->OkE a)->oY l/\NX l
 | [],_=>by rw [oY,NX];exact ⟨trivial,trivial⟩ |x::r,h=>by have h1:=h x (aa4 ..);have h2:=BJ (l:=r) fun a ha=>h a (aa8 _ ha);rw [oY,NX];exact ⟨⟨h1.1,h2.1⟩,⟨h1.2,h2.2⟩⟩
theorem JI: ∀{l:List PR},(∀a,a∈l->OkR a)->vS l/\zN l
 | [],_=>by rw [vS,zN];exact ⟨trivial,trivial⟩ |x::r,h=>by have h1:=h x (aa4 ..);have h2:=JI (l:=r) fun a ha=>h a (aa8 _ ha);rw [vS,zN];exact ⟨⟨h1.1,h2.1⟩,⟨h1.2,h2.2⟩⟩
theorem TB: ∀{l:List GD},(∀a,a∈l->OkG a)->yB l/\EI l
 | [],_=>by rw [yB,EI];exact ⟨trivial,trivial⟩ |x::r,h=>by have h1:=h x (aa4 ..);have h2:=TB (l:=r) fun a ha=>h a (aa8 _ ha);rw [yB,EI];exact ⟨⟨h1.1,h2.1⟩,⟨h1.2,h2.2⟩⟩
theorem TE: ∀n,fV enc prog W base sp hd n 64 H0 OkE
 |0=>fV.zero |n+1=>by
  have ih:=TE n;have hl:=(fV.ew (t:=27) (sz:=6) (bt:=40) (by kernel_rfl) (by kernel_rfl) (by kernel_rfl) (by decide) ih).mono (aj1 n)
  have hf:=fD.cons (f:=⟨"Kind",61,0,false, "", "",0⟩) (fV.u8 (by kernel_rfl) n) T 1 (by kernel_rfl) (fD.cons (f:=⟨"Oper",62,1,false, "", "",1⟩) (fV.u8 (by kernel_rfl) n) T 1 (by kernel_rfl)
   (fD.cons (f:=⟨"To",25,2,false, "", "",2⟩) (fV.u8 (by kernel_rfl) n) T 1 (by kernel_rfl) (fD.cons (f:=⟨"N",21,3,false, "", "",4⟩) (fV.i32 (by kernel_rfl) n) T 1 (by kernel_rfl)
   (fD.cons (f:=⟨"V",3,4,false, "", "",8⟩) (fV.i64 (by kernel_rfl) n) T 1 (by kernel_rfl) (fD.cons (f:=⟨"L",27,5,false, "", "",16⟩) hl T 1 (by kernel_rfl) fD.nil)))))
  refine (fV.struct (t:=64) (sz:=6) (fs:= #[⟨"Kind",61,0,false, "", "",0⟩,⟨"Oper",62,1,false, "", "",1⟩,⟨"To",25,2,false, "", "",2⟩,⟨"N",21,3,false, "", "",4⟩,⟨"V",3,4,false, "", "",8⟩,⟨"L",27,5,false, "", "",16⟩]) (by kernel_rfl) (by kernel_rfl) hf (by kernel_rfl)).map (fun p=>⟨p.1,p.2.1,p.2.2.1,p.2.2.2.1,p.2.2.2.2.1,p.2.2.2.2.2.1⟩) (fun p=>?_) (fun p hp=>?_)
  ·show H0 _=[_]++([_]++([_]++([_]++([_]++([AV.sl 6 _ none]++[])))));rw [<-LK];rfl
  ·obtain ⟨k,o,t,n,s,l,u⟩:=p;obtain ⟨h1,h2,h3,h4,h5,⟨h6,h7⟩,_⟩:=hp;have h8:=BJ h6;unfold reachBytes at h7;refine ⟨?_,?_⟩
   ·rw [iZ];exact ⟨⟨h1,h2,h3,h4,h5⟩,h8.1⟩
   ·rw [uE];exact ⟨af4 h7 (by decide),h8.2⟩
theorem op_kes(n:Nat):fV enc prog W base sp hd n 27 (fun l:List KE=>[c8 l]) (fun l=>(∀x,x∈l->OkE x)/\l.length*40<=140737488355328):=by refine ((fV.ew (t:=27) (sz:=6) (bt:=40) (by kernel_rfl) (by kernel_rfl) (by kernel_rfl) (by decide) (TE n)).mono (aj1 n)).map (fun l=>l) (fun l=>?_) (fun l h=>⟨h.1,by have:=h.2;unfold reachBytes at this;exact af4 this (by decide)⟩);show [AV.sl 6 (bB l) none]=_;rw [LK]
theorem op_pl(n:Nat):fV enc prog W base sp hd n 66 (fun p:PL=>[AI p.v,c8 p.ix]) W9:=by
 have hf:=fD.cons (f:=⟨"V",3,0,false, "", "",0⟩) (fV.i64 (enc:=enc) (P:=prog) (W:=W) (base:=base) (sp:=sp) (hd:=hd) (by kernel_rfl) n) T 1 (by kernel_rfl) (fD.cons (f:=⟨"Index",27,1,false, "", "",8⟩) (op_kes n) T 1 (by kernel_rfl) fD.nil)
 exact ((fV.struct (t:=66) (sz:=2) (fs:= #[⟨"V",3,0,false, "", "",0⟩,⟨"Index",27,1,false, "", "",8⟩]) (by kernel_rfl) (by kernel_rfl) hf (by kernel_rfl)).mono (aj1 n)).map (fun p=>⟨p.1,p.2.1⟩) (fun p=>rfl) (fun p hp=>⟨(BJ hp.2.1.1).1,hp.2.1.2,fun x hx=>(hp.2.1.1 x hx).2⟩)
theorem op_pls(n:Nat):fV enc prog W base sp hd n 26 (fun l:List PL=>[iK l]) (fun l=>(∀t,t∈l->W9 t)/\l.length*32<=140737488355328):=
 ((fV.ew (t:=26) (sz:=2) (bt:=32) (by kernel_rfl) (by kernel_rfl) (by kernel_rfl) (by decide) (op_pl n)).mono (aj1 n)).map (fun l=>l) (fun l=>rfl) (fun l h=>⟨h.1,by have:=h.2;unfold reachBytes at this;exact af4 this (by decide)⟩)
theorem op_prs{n:Nat}(ih:fV enc prog W base sp hd n 31 wA OkR):fV enc prog W base sp hd n 29 (fun l:List PR=>[iQ l]) (fun l=>(∀t,t∈l->OkR t)/\l.length*128<=140737488355328):=by refine ((fV.ew (t:=29) (sz:=8) (bt:=128) (by kernel_rfl) (by kernel_rfl) (by kernel_rfl) (by decide) ih).mono (aj1 n)).map (fun l=>l) (fun l=>?_) (fun l h=>⟨h.1,by have:=h.2;unfold reachBytes at this;exact af4 this (by decide)⟩);show [AV.sl 8 (bC l) none]=_;rw [YL]
theorem op_gd{n:Nat}(ih:fV enc prog W base sp hd n 31 wA OkR):fV enc prog W base sp hd n 68 R5 OkG:=by
 have hf:=fD.cons (f:=⟨"Kind",60,0,false, "", "",0⟩) (fV.u8 (enc:=enc) (P:=prog) (W:=W) (base:=base) (sp:=sp) (hd:=hd) (by kernel_rfl) n) T 1 (by kernel_rfl) (fD.cons (f:=⟨"Cond",64,1,false, "", "",8⟩) (TE n) T 6 (by kernel_rfl)
  (fD.cons (f:=⟨"C",3,7,false, "", "",48⟩) (fV.i64 (by kernel_rfl) n) T 1 (by kernel_rfl) (fD.cons (f:=⟨"Item",25,8,false, "", "",56⟩) (fV.u8 (by kernel_rfl) n) T 1 (by kernel_rfl)
  (fD.cons (f:=⟨"To",66,9,false, "", "",64⟩) (op_pl n) T 2 (by kernel_rfl) (fD.cons (f:=⟨"Time",64,11,false, "", "",96⟩) (TE n) T 6 (by kernel_rfl)
  (fD.cons (f:=⟨"Body",29,17,false, "", "",136⟩) (op_prs ih) T 1 (by kernel_rfl) fD.nil))))))
 refine ((fV.struct (t:=68) (sz:=18) (fs:= #[⟨"Kind",60,0,false, "", "",0⟩,⟨"Cond",64,1,false, "", "",8⟩,⟨"C",3,7,false, "", "",48⟩,⟨"Item",25,8,false, "", "",56⟩,⟨"To",66,9,false, "", "",64⟩,⟨"Time",64,11,false, "", "",96⟩,⟨"Body",29,17,false, "", "",136⟩]) (by kernel_rfl) (by kernel_rfl) hf (by kernel_rfl)).mono (aj1 n)).map (fun p=>⟨p.1,p.2.1,p.2.2.1,p.2.2.2.1,p.2.2.2.2.1,p.2.2.2.2.2.1,p.2.2.2.2.2.2.1⟩) (fun p=>rfl) (fun p hp=>?_)
 obtain ⟨h1,h2,h3,h4,h5,h6,⟨h7,h8⟩,_⟩:=hp;have h9:=JI h7;refine ⟨?_,?_⟩
 ·rw [wfG];exact ⟨⟨h2.1,h6.1,h5.1⟩,h9.1⟩
 ·rw [smG];exact ⟨⟨h2.2,h6.2,h5.2,h8⟩,h9.2⟩
theorem op_gds{n:Nat}(ih:fV enc prog W base sp hd n 31 wA OkR):fV enc prog W base sp hd n 28 (fun l:List GD=>[rH l]) (fun l=>(∀t,t∈l->OkG t)/\l.length*160<=140737488355328):=by refine ((fV.ew (t:=28) (sz:=18) (bt:=160) (by kernel_rfl) (by kernel_rfl) (by kernel_rfl) (by decide) (op_gd ih)).mono (aj1 n)).map (fun l=>l) (fun l=>?_) (fun l h=>⟨h.1,by have:=h.2;unfold reachBytes at this;exact af4 this (by decide)⟩);show [AV.sl 18 (eV l) none]=_;rw [YK]
theorem op_pr: ∀n,fV enc prog W base sp hd n 31 wA OkR
 |0=>fV.zero |n+1=>by
  have ih:=op_pr n
  have hf:=fD.cons (f:=⟨"Kind",24,0,false, "", "",0⟩) (fV.u8 (enc:=enc) (P:=prog) (W:=W) (base:=base) (sp:=sp) (hd:=hd) (by kernel_rfl) n) T 1 (by kernel_rfl) (fD.cons (f:=⟨"C",3,1,false, "", "",8⟩) (fV.i64 (by kernel_rfl) n) T 1 (by kernel_rfl)
   (fD.cons (f:=⟨"V",3,2,false, "", "",16⟩) (fV.i64 (by kernel_rfl) n) T 1 (by kernel_rfl) (fD.cons (f:=⟨"Item",25,3,false, "", "",24⟩) (fV.u8 (by kernel_rfl) n) T 1 (by kernel_rfl)
   (fD.cons (f:=⟨"To",26,4,false, "", "",32⟩) (op_pls n) T 1 (by kernel_rfl) (fD.cons (f:=⟨"E",27,5,false, "", "",56⟩) (op_kes n) T 1 (by kernel_rfl)
   (fD.cons (f:=⟨"Guards",28,6,false, "", "",80⟩) (op_gds ih) T 1 (by kernel_rfl) (fD.cons (f:=⟨"L",29,7,false, "", "",104⟩) (op_prs ih) T 1 (by kernel_rfl) fD.nil)))))))
  refine (fV.struct (t:=31) (sz:=8) (fs:= #[⟨"Kind",24,0,false, "", "",0⟩,⟨"C",3,1,false, "", "",8⟩,⟨"V",3,2,false, "", "",16⟩,⟨"Item",25,3,false, "", "",24⟩,⟨"To",26,4,false, "", "",32⟩,⟨"E",27,5,false, "", "",56⟩,⟨"Guards",28,6,false, "", "",80⟩,⟨"L",29,7,false, "", "",104⟩]) (by kernel_rfl) (by kernel_rfl) hf (by kernel_rfl)).map (fun p=>⟨p.1,p.2.1,p.2.2.1,p.2.2.2.1,p.2.2.2.2.1,p.2.2.2.2.2.1,p.2.2.2.2.2.2.1,p.2.2.2.2.2.2.2.1⟩) (fun p=>rfl) (fun p hp=>?_)
  obtain ⟨h1,h2,h3,h4,⟨h5,h5'⟩,⟨h6,h6'⟩,⟨h7,h7'⟩,⟨h8,h8'⟩,_⟩:=hp;have h9:=JI h8;have h10:=TB h7;refine ⟨?_,?_⟩
  ·rw [zS];exact ⟨⟨fun t ht=>(h5 t ht).1,(BJ h6).1,by omega,by omega,by omega⟩,h10.1,h9.1⟩
  ·rw [mC];exact ⟨⟨fun t ht=>(h5 t ht).2,fun x hx=>(h6 x hx).2,h5',h6',h7',h8'⟩,h10.2,h9.2⟩
theorem op_vars(n:Nat):fV enc prog W base sp hd n 22 (fun l:List KV=>[nR l]) (fun l=>l.length<=281474976710656):=by
 have hf:=fD.cons (f:=⟨"Kind",25,0,false, "", "",0⟩) (fV.u8 (enc:=enc) (P:=prog) (W:=W) (base:=base) (sp:=sp) (hd:=hd) (by kernel_rfl) n) T 1 (by kernel_rfl) (fD.cons (f:=⟨"Dim",3,1,false, "", "",8⟩) (fV.i64 (by kernel_rfl) n) T 1 (by kernel_rfl) fD.nil)
 have hv:fV enc prog W base sp hd n 108 (fun v:KV=>[aU v.kind,AI v.dim]) (fun _=>True):=((fV.struct (t:=108) (sz:=2) (fs:= #[⟨"Kind",25,0,false, "", "",0⟩,⟨"Dim",3,1,false, "", "",8⟩]) (by kernel_rfl) (by kernel_rfl) hf (by kernel_rfl)).mono (aj1 n)).map (fun p=>⟨p.1,p.2.1⟩) (fun p=>rfl) (fun p hp=>trivial)
 exact ((fV.ew (t:=22) (sz:=2) (bt:=16) (by kernel_rfl) (by kernel_rfl) (by kernel_rfl) (by decide) hv).mono (aj1 n)).map (fun l=>l) (fun l=>rfl) (fun l h=>by have:=h.2;unfold reachBytes at this;omega)
theorem op_chans(n:Nat):fV enc prog W base sp hd n 23 (fun l:List Int=>[H5 l]) (fun l=>l.length<=281474976710656):=
 ((fV.gj (t:=23) (e:=110) (bt:=1) (by kernel_rfl) (by kernel_rfl) (by kernel_rfl) (fV.u8 (by kernel_rfl) n)).mono (aj1 n)).map (fun l=>l) (fun l=>rfl) (fun l h=>by have:=h.2;unfold reachBytes at this;omega)
theorem op_ints(n:Nat):fV enc prog W base sp hd n 32 (fun l:List Int=>[t8 l]) (fun l=>l.length<=281474976710656):=
 ((fV.gj (t:=32) (e:=3) (bt:=8) (by kernel_rfl) (by kernel_rfl) (by kernel_rfl) (fV.i64 (by kernel_rfl) n)).mono (aj1 n)).map (fun l=>l) (fun l=>rfl) (fun l h=>by have:=h.2;unfold reachBytes at this;omega)
abbrev cellsN(k:KN):List AV:=[nR k.vars,H5 k.chans,aU k.root.kind,AI k.root.c,AI k.root.v,aU k.root.item,iK k.root.to,c8 k.root.e,rH k.root.gs,iQ k.root.l,t8 k.procs]
theorem VX(n:Nat):fV enc prog W base sp hd n 34 cellsN SmN:=by
 have hf:=fD.cons (f:=⟨"Vars",22,0,false, "", "",0⟩) (op_vars (enc:=enc) (W:=W) (base:=base) (sp:=sp) (hd:=hd) n) T 1 (by kernel_rfl) (fD.cons (f:=⟨"Chans",23,1,false, "", "",24⟩) (op_chans n) T 1 (by kernel_rfl)
  (fD.cons (f:=⟨"Root",31,2,false, "", "",48⟩) (op_pr n) T 8 (by kernel_rfl) (fD.cons (f:=⟨"Procs",32,10,false, "", "",176⟩) (op_ints n) T 1 (by kernel_rfl) fD.nil)))
 refine ((fV.struct (t:=34) (sz:=11) (fs:= #[⟨"Vars",22,0,false, "", "",0⟩,⟨"Chans",23,1,false, "", "",24⟩,⟨"Root",31,2,false, "", "",48⟩,⟨"Procs",32,10,false, "", "",176⟩]) (by kernel_rfl) (by kernel_rfl) hf (by kernel_rfl)).mono (aj1 n)).map (fun p=>⟨p.1,p.2.1,p.2.2.1,p.2.2.2.1⟩) (fun p=>rfl) (fun p hp=>?_)
 obtain ⟨h1,h2,h3,h4,_⟩:=hp;exact ⟨⟨h1,h2,h4,h3.1⟩,h3.2⟩
theorem argKern{v:Value}{d:DataW H}{p:List MemPlace}(hval:Value.okWide prog W .any base 34 v)(h:DataW.Trod enc prog W 0 (fun _=>true) true 34 v d p)(hw:Wt prog 34 d):
 ∃k:KN,SmN k/\Rp (C1 W) (eZ k) v:=by
 obtain ⟨k,h1,h2⟩:=OW (fs:= #[⟨"Vars",22,0,false, "", "",0⟩,⟨"Chans",23,1,false, "", "",24⟩,⟨"Root",31,2,false, "", "",48⟩,⟨"Procs",32,10,false, "", "",176⟩]) (by kernel_rfl) VX hval h hw
 exact ⟨k,h1,h2⟩
theorem XH{v:Value}{d:DataW H}{p:List MemPlace}(hval:Value.okWide prog W .any base 35 v)(h:DataW.Trod enc prog W 0 (fun _=>true) true 35 v d p)(hw:Wt prog 35 d):
 ∃l:List Int,((∀x,x∈l->Go.Tp.u8 x)/\l.length<=281474976710656)/\Rp (C1 W) (bytT l) v:=by
 obtain ⟨l,⟨h1,h2⟩,h3⟩:=UJ (e:=5) (t:=35) (en:=fun l:List Int=>bytT l) (by kernel_rfl) (fun n=>((fV.gj (bt:=1) (by kernel_rfl) (by kernel_rfl) (by kernel_rfl) (fV.u8 (t:=5) (by kernel_rfl) n)).mono (aj1 n))) hval h hw;unfold reachBytes at h2;exact ⟨l,⟨h1,by omega⟩,h3⟩
end
end Go.Proofs.YtkbolbpojpmicaaGreatDoor
