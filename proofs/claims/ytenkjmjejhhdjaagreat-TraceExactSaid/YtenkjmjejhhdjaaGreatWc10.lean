/-
  Texts Q19ze Q19zh Q19zi Q19zj Q19t Q19zk Q20b Q19m Lx Q19aa Q19ad Q19zl Q19ae Q19af Lq Q19ab Q19ag Q20c P20e Q20f Q20g Q20h Q20i Q20j Q20e Q20k Q19ac Q19ah. Conditions: as each theorem says.
-/
import Derived.Test.YtenkjmjejhhdjaaGreatWc3
import Derived.Test.YtenkjmjejhhdjaaGreatWc9
import Derived.Test.YtenkjmjejhhdjaaGreatWc8
import Derived.Test.YtenkjmjejhhdjaaGreatWc7
import Derived.Test.YtenkjmjejhhdjaaGreatWc6
import Derived.Shelf.SlSortCmp.NoneTotal
import Derived.Shelf.SlLaysF
import Derived.Test.YtenkjmjejhhdjaaGreatWc5
set_option linter.unusedVariables false
set_option linter.unusedSimpArgs false
set_option maxRecDepth 100000
set_option maxHeartbeats 4000000
open Go.Tp(T eX dT dF iF iT)
open List renaming length_map→aa0,length_append→aa1,mem_of_getElem?→aa2,mem_cons_self→aa5,take_of_length_le→aa6,mem_singleton→ab0,getElem?_map→ab5,mem_cons→ab6,length_cons→ab7,map_append→ac0,length_take→ac1,take_length→ac4,getElem?_eq_none→ac6,take_add_one→ac9,take_zero→ad1,drop_eq_nil_of_le→ad3,cons_append→ad4,length_drop→ad7,mem_append→ad8,getElem?_zipWith→ae1,getElem?_append_left→ae6,getElem?_append_right→ae7,ext_getElem?→af0,foldl_append→af2,length_nil→af5,nil_append→ag2,drop_zero→ag3,filter_append→ag5,length_filter_le→ah4,mem_map→ai0,length_zipWith→ai6,contains_iff_mem→aj9,getElem?_of_mem→ak2,any_append→aq1,any_map→at3
open Nat renaming zero_le→aa4,le_refl→ab3,lt_or_ge→ae4,le_trans→ae9,min_eq_left→ah6,le_mul_of_pos_right→ah9,sub_self→ak3,mul_le_mul→al2,add_assoc→al5,min_eq_right→am4,le_mul_of_pos_left→ao6,mod_eq_of_lt→ar6,mod_lt→at1,mul_comm→at8,add_le_add→au5,mul_one→av2
open Exists renaming elim→ab4
open Bool renaming true_and→ac2,eq_iff_iff→ac8,false_and→af3
open Int renaming toNat_natCast→ac7
namespace Go.Proofs.YtenkjmjejhhdjaaGreat
open Go Go.Tp
structure NSq where
 n:Nat
 cn:List Nat
 r:RN
 z:Value
structure NSok(V:List KV)(FIN:RN)(B:List BQ)(s:bA)(t:TR)(u:NSq):Prop where
 n:u.n<=t.length+1
 cn:u.cn.length=B.length
 cb: ∀(i c:Nat),u.cn[i]? =some c->c<=u.n
 ends: ∀e,e∈u.r.ends->bI V e.2/\e.1<=256
 len:u.r.ends.length<=u.n*2000
 fin:(u.n=0/\FIN=mB (B.map (·.1)) (B.map (·.2)) s t 0 u.cn (fC s (B.map (·.2)) u.cn 0 u.r))\/(∃m,u.n=m+1/\FIN=mB (B.map (·.1)) (B.map (·.2)) s (t.drop m) m u.cn u.r)
theorem X6{V:List KV}{C:List Int}(p:PR)(hsa:SmR p)(f:Nat)(hf:f<=1048576)(op:List Int)(t:TR)(s:bA)(hun: ∀x,x∈p.l->Un V C x)(hsm: ∀x,x∈p.l->sS x)(hR: ∀x,x∈p.l->I1 V f x)(hway:cW p.l f<=2000)(hop:op.length+(aI p.l).length<=1048576)(hll:p.l.length<=2048)(ht:l6 t)(fN:t.length<=256)(hs:bI V s):Pure Tryz.prog aU 61 [aE p,aF s,lI t,aQ op,AI (f:Nat)] (eK (qW (p.l.map aB) (hJ f op (p.l.map aB) 0 t s p.l) t s)):=by
 have n1:((aS p.l).length:Int)=p.l.length:=by rw [bP]
 refine eX (uP f op t s p.l) fun B hB=>?_;have hBl:B.length=p.l.length:=by rw [hB,nP]
 refine eX (p.l.map aB) fun ALL hALL=>?_;have hAl:ALL.length=p.l.length:=by rw [hALL,aa0]
 have hcr: ∀x,x∈p.l->(dW x).length<=1048576:=fun x hx=>by obtain ⟨j,hj⟩:=ak2 hx;have:=DB op p.l hj;omega
 refine eX (qW (p.l.map aB) (hJ f op (p.l.map aB) 0 t s p.l) t s) fun FIN hFIN=>?_;rw [<-hFIN];have eB1:=UX f op t s p.l;have eB2:=UY f op t s p.l;rw [<-hB] at eB1 eB2;rw [<-eB2,<-eB1,XL] at hFIN;refine P_ Tryz.func61 167 fun w0 h0 F hgs=>?_;refine b_ fun b5=>?_;refine A.b T fun b10=>?_;refine y_ ?_;refine A.av 4 ?_;refine A.gx 11 (x':= .ms (.slice none 0 0) 4 0) T (fun h y r=>sI 4 r) ?_;refine A.af [1,2,3,4,5,10,11,12] T ?_;refine A.ae (ι:=Nat×Value) (fun u=>(⟨[(1,aF s),(2,lI t),(3,aQ op),(4,AI (f:Nat)),(5,aT b5),(10,aT b10),(11, .ms u.2 4 (B.take u.1).length),(12,AI (u.1:Nat))],[]⟩,[.row 4 u.2 ((B.take u.1).map E6), .box b10 _, .box b5 (aE p)])) (fun u=>u.1<=p.l.length) (fun u=>p.l.length-u.1) (0, .slice none 0 0) (aa4 _) T fun u hu ih=>?_;obtain ⟨i,z⟩:=u;have hi:i<=p.l.length:=hu;have hBi:(B.take i).length=i:=by rw [ac1];omega
 refine y_ ?_
 by_cases hci:i<p.l.length
 ·refine aX hci fun x hx=>?_;have hxm:=aa2 hx;have hBx:=A2 (f:=f) (op:=op) (t:=t) (s:=s) hx;rw [<-hB,<-hALL] at hBx;have hchx:=KZ x (hsm x hxm) (hcr x hxm);refine T_ T (by show decide ((i:Int)<((aS p.l).length:Int))=true;rw [n1,dT];omega) ?_;refine A.aq T T T T T T T T T T T T T T (by show (0+(op.map AI).length)*1<=_;rw [aa0];omega) fun z1=>?_;refine y_ ?_;refine A.aa 13 T (x':= .sl 1 ((AF op ALL i 0).map AI) (some z1)) (by rw [KK];rfl) ?_;refine A.af [1,2,3,4,5,10,11,12,13,14] T ?_;refine A.ae (ι:=Nat×Value) (fun v=>(⟨[(1,aF s),(2,lI t),(3,aQ op),(4,AI (f:Nat)),(5,aT b5),(10,aT b10),(11, .ms z 4 (B.take i).length),(12,AI (i:Nat)),(13, .sl 1 ((AF op ALL i v.1).map AI) (some v.2)),(14,AI (v.1:Nat))],[]⟩,[.tail 1 v.2, .row 4 z ((B.take i).map E6), .box b10 _, .box b5 (aE p)])) (fun v=>v.1<=p.l.length) (fun v=>p.l.length-v.1) (0,z1) (aa4 _) T fun v hv jh=>?_;obtain ⟨j,zj⟩:=v;have hj:j<=p.l.length:=hv;have hol:=P0 op ALL i j;have hfl:=vX p.l;rw [<-hALL] at hfl;refine y_ ?_
  by_cases hcj:j<p.l.length
  ·refine aX hcj fun y hy=>?_;have hym:=aa2 hy;have hyA:ALL[j]? =some (aB y):=by rw [hALL];exact aC hy
   have hchy:=KZ y (hsm y hym) (hcr y hym);refine T_ T (by show decide ((j:Int)<((aS p.l).length:Int))=true;rw [n1,dT];omega) ?_
   by_cases hji:j=i
   ·refine F_ T (by show (((j:Nat):Int) !=((i:Nat):Int))=false;rw [hji];simp) ?_;refine vI 14 j ?_;refine A.aa 13 T (x':= .sl 1 ((AF op ALL i (j+1)).map AI) (some zj)) (by rw [hji,KJ]) ?_;refine u_ (jh (j+1,zj) (by show j+1<=_;omega) (by show _-(j+1)<_-j;omega))
   ·have hon:=KI (op:=op) hyA hji;refine T_ T (by show (((j:Nat):Int) !=((i:Nat):Int))=true;rw [bne_iff_ne];omega) ?_;refine i_ T (aV hy) (bC y) ?_;refine n_ hchy ?_;refine A.append (i:=by exact ATl.here) T T T T T T T T T T T T T T (by show (((AF op ALL i j).map AI).length+((aB y).map AI).length)*1<=_;rw [aa0,aa0];have:=cJ y;have:=hcr y hym;omega) fun z2=>?_;refine y_ ?_;refine vI 14 j ?_;refine A.aa 13 T (x':= .sl 1 ((AF op ALL i (j+1)).map AI) (some z2)) (by rw [hon,ac0];rfl) ?_;refine u_ (jh (j+1,z2) (by show j+1<=_;omega) (by show _-(j+1)<_-j;omega))
  ·refine A.gF T (by show decide ((j:Int)<((aS p.l).length:Int))=false;rw [n1,dF];omega) ?_;clear jh;have hoe:AF op ALL i j=gB op ALL i:=by
    have:=PZ (op:=op) (all:=ALL) (i:=i) (by omega);rw [<-this];congr 1;omega
   have hrun:=hR x hxm (gB op ALL i) (bX t (aB x)) s (by have:=DB op p.l hx;rw [<-hALL] at this;omega) (C9 ht _) (ae9 (sM _ _) fN) hs;have honly:=a0L t (aB x) (by omega) (by have:=cJ x;have:=hcr x hxm;omega);have hBs:B.take (i+1)=B.take i++[(aB x,cG f (gB op ALL i) (bX t (aB x)) s x)]:=takeN hBx;have hml:((B.take i).map E6).length=i:=by rw [aa0,hBi]
   refine eX (cG f (gB op ALL i) (bX t (aB x)) s x) fun q hq=>?_;rw [<-hq] at hrun hBs;refine l_ (Λ':=[.row 4 z ((B.take i).map E6), .box b10 _, .box b5 (aE p)]) ?_;refine e_ 13 T (x':= .sl 1 ((gB op ALL i).map AI) (some zj)) (by rw [hoe]) ?_;refine i_ T (aV hx) (bC x) ?_;refine c_ hchx ?_;refine A.cq [(16, .row 4 z ((B.take i).map E6))] 17 [0,1,2,3,4,5,6,7,8,9,11,12,10,13,14,15,16] (fun i=>if i=16 then [16,15] else []) [(10,lI (bX t (aB x))),(13,eK q)] (.refl _) T T (by rfl) (by kernel_rfl) (by kernel_rfl) ?_;refine w_ ?_;refine gX T (aV hx) (bC x) ?_;refine WA.c T T honly (.sub s_) ?_;refine rL hrun ?_;refine WA.lit T T T T T T T fun bw=>?_;refine WA.dw T T T T T T T T T T T T T T T T T T T T (.pub (j:=15) T T (.sub .refl)) (by show (((B.take i).map E6).length+1)*4<=_;rw [hml];omega) (by show (((B.take i).map E6).length+1)*4*64<=_;rw [hml];omega) fun z2=>?_;refine WA.nil (l:=[_]) T ?_;refine y_ ?_;refine vI 12 i ?_;refine A.aa 11 T (x':= .ms z2 4 (B.take (i+1)).length) (by rw [hBs,aa1,<-aa0 (f:=E6)];rfl) ?_;refine A.ab (Λ':=[.row 4 z2 ((B.take (i+1)).map E6), .box b10 _, .box b5 (aE p)]) (by rw [hBs,ac0];rfl) ?_;refine u_ (ih (i+1,z2) (by show i+1<=_;omega) (by show _-(i+1)<_-i;omega))
 ·refine A.gF T (by show decide ((i:Int)<((aS p.l).length:Int))=false;rw [n1,dF];omega) ?_;clear ih;have hii:i=p.l.length:=by omega
  have hBt:B.take i=B:=aa6 (by omega);have nB:((B.map E6).length:Int)=B.length:=by rw [aa0]
  refine A.aa 11 T (x':= .ms z 4 B.length) (by rw [hBt]) ?_;refine A.ab (Λ':=[.row 4 z (B.map E6), .box b10 _, .box b5 (aE p)]) (by rw [hBt]) ?_;refine A.ar 11 T ?_;refine y_ ?_;refine A.b T fun b16=>?_;refine y_ ?_;refine l_ (Λ':=[.box b16 (.ag [AI 0, .v (.slice none 0 0),AB false]), .box b10 _]) ?_;refine A.af [1,2,10,11,16,17] T ?_;refine A.ae (ι:=Nat) (fun k=>(⟨[(1,aF s),(2,lI t),(10,aT b10),(11,bsQ B),(16,aT b16),(17,AI (k:Nat))],[]⟩,[.box b16 (.ag [AI 0, .v (.slice none 0 0),AB ((B.take k).any fun x=>x.2.miss)]), .box b10 _])) (fun k=>k<=B.length) (fun k=>B.length-k) 0 (aa4 _) T fun k hk kh=>?_;refine y_ ?_
  by_cases hck:k<B.length
  ·refine aX hck fun x hx=>?_;have hany:(B.take (k+1)).any (fun x=>x.2.miss)=((B.take k).any (fun x=>x.2.miss)||x.2.miss):=by rw [takeN hx,aq1];simp
   refine T_ T (by show decide ((k:Int)<((B.map E6).length:Int))=true;rw [nB,dT];omega) ?_;cases hm:(B.take k).any (fun x=>x.2.miss) with
   |true=>
    refine y_ ?_;refine vI 17 k ?_;refine A.ab (Λ':=[.box b16 (.ag [AI 0, .v (.slice none 0 0),AB ((B.take (k+1)).any fun x=>x.2.miss)]), .box b10 _]) (by rw [hany,hm];rfl) ?_;refine u_ (kh (k+1) (by omega) (by omega))
   |false=>
    refine y_ ?_;refine i_ T (aC hx) T ?_;refine vI 17 k ?_;refine A.ab (Λ':=[.box b16 (.ag [AI 0, .v (.slice none 0 0),AB ((B.take (k+1)).any fun x=>x.2.miss)]), .box b10 _]) (by rw [hany,hm];rfl) ?_;refine u_ (kh (k+1) (by omega) (by omega))
  ·refine A.gF T (by show decide ((k:Int)<((B.map E6).length:Int))=false;rw [nB,dF];omega) ?_;clear kh;refine A.ab (Λ':=[.box b16 (.ag [AI 0, .v (.slice none 0 0),AB (B.any fun x=>x.2.miss)]), .box b10 _]) (by rw [aa6 (by omega:B.length<=k)]) ?_;refine y_ ?_;refine A.aa 94 T (x':=AI (B.length:Nat)) (aL nB) ?_;refine A.iq T T T T T T T T T T T T (by omega) (by show (8:Int)*_<=_;omega) (by omega) fun a cp hcp=>?_;refine e_ 95 T (x':= .ms (.slice a B.length cp) 1 B.length) (by rw [ac7];rfl) ?_;have hz1:((B.map (·.1)).map fun _=>(0:Nat))=List.replicate B.length 0:=by
    rw [List.eq_replicate_iff];exact ⟨by rw [aa0,aa0],fun b hb=>by obtain ⟨_,_,h⟩:=ai0.1 hb;exact h.symm⟩
   have hz2:(B.map (·.2)).any (·.miss)=B.any fun x=>x.2.miss:=at3;have hBok: ∀y,y∈B-> ∀e,e∈y.2.ends->bI V e.2:=fun y hy e he=>by
    obtain ⟨k,hk⟩:=ak2 hy;have hkl:k<p.l.length:=by rw [<-hBl];exact (List.getElem?_eq_some_iff.1 hk).1
    obtain ⟨w,hw⟩:=bT (l:=p.l) (i:=k) hkl;have h1:=A2 (f:=f) (op:=op) (t:=t) (s:=s) hw;rw [<-hB,hk] at h1;injection h1 with h1;rw [h1] at he;exact H9 (hun w (aa2 hw)) f _ _ s (C9 ht _) hs e he
   have hrep:(List.replicate B.length 0).map (fun (n:Nat)=>AI n)=List.replicate B.length (AI 0):=List.map_replicate;refine A.bn (b:=b16) (x':=qK (.slice none 0 0) ⟨0,[],B.any fun x=>x.2.miss⟩) (c9 [1,0,2] T T T T) (fun h y q=>H6 _ h _ y q) ?_;refine A.av 2 ?_;refine A.perm (Λ':=[.row 1 (.slice a B.length cp) _, .row 2 (.slice none 0 0) [], .box b16 (qK (.slice none 0 0) ⟨0,[],B.any fun x=>x.2.miss⟩), .box b10 _]) (c9 [2,0,1,3] T T T T) ?_;refine A.ab (Λ':=[.row 1 (.slice a B.length cp) ((List.replicate B.length 0).map fun (n:Nat)=>AI n), .row 2 (.slice none 0 0) [], .box b16 (qK (.slice none 0 0) ⟨0,[],B.any fun x=>x.2.miss⟩), .box b10 _]) (by rw [hrep,ac7]) ?_;refine A.af [1,2,10,11,16,18,19] T ?_;refine A.ae (ι:=NSq) (fun u=>(⟨[(1,aF s),(2,lI t),(10,aT b10),(11,bsQ B),(16,aT b16),(18, .ms (.slice a B.length cp) 1 B.length),(19,AI (u.n:Nat))],[]⟩,[.row 1 (.slice a B.length cp) (u.cn.map fun (n:Nat)=>AI n), .row 2 u.z (u.r.ends.map cT), .box b16 (qK u.z u.r), .box b10 _])) (NSok V FIN B s t) (fun u=>t.length+1-u.n) ⟨0,List.replicate B.length 0,⟨0,[],B.any fun x=>x.2.miss⟩, .slice none 0 0⟩ ⟨aa4 _,List.length_replicate,fun i c h=>(by have:=List.eq_of_mem_replicate (aa2 h);show c<=0;omega),fun e he=>(by cases he),aa4 _, .inl ⟨rfl,by rw [hFIN,hz1,hz2]⟩⟩ T fun u hu nh=>?_;obtain ⟨n,cn,r,z⟩:=u;obtain ⟨hn1,hcl,hcbd,hre,hrl,hin⟩:=hu;simp only at hn1 hcl hcbd hre hrl hin;have nt:=iS t;refine y_ ?_
   by_cases hnt:n<=t.length
   ·have hn256:n<=256:=by omega
    refine T_ T (by show decide ((n:Int)<=((t.map jK).length:Int))=true;rw [nt,dT];omega) ?_
    by_cases hn0:n=0
    ·refine eX (cn) fun cn1 hcn1=>?_;have hc1:cn1.length=B.length:=by rw [hcn1];exact hcl
     have hcb1: ∀(i c:Nat),cn1[i]? =some c->c<=n+1:=fun i c h=>by rw [hcn1] at h;have:=hcbd i c h;omega
     have hfin1:FIN=mB (B.map (·.1)) (B.map (·.2)) s (t.drop n) n cn1 (fC s (B.map (·.2)) cn1 n r):=by
      rcases hin with ⟨_,hF⟩|⟨m,hm,_⟩
      ·rw [hF,hn0,hcn1,ag3]
      ·omega
     refine A.gF T (by show decide ((0:Int)<(n:Nat))=false;rw [dF];omega) ?_;refine A.ab (Λ':=[.row 1 (.slice a B.length cp) (cn1.map fun (n:Nat)=>AI n), .row 2 z (r.ends.map cT), .box b16 (qK z r), .box b10 _]) (by rw [hcn1]) ?_;refine y_ ?_;have hK:=U0 (op:=op) (t:=t) (s:=s) hway hll (cn:=cn1) (by rw [hc1,hBl]);rw [<-hB] at hK;have hch:=uR B cn1 hK.1 _ 0 T (aa4 _) (.slice a B.length cp);rw [hc1] at hch;have hCl:=hK.2 0;refine eX (rQ B cn1 0) fun C0 hC0=>?_;have hC1: ∀c,c∈C0->c.length<=2048/\ ∀x,x∈c->bI V x:=fun c hc=>by
      rw [hC0] at hc;have h1:=A5 hc;refine ⟨by rw [h1.1,ai6,aa0,ad7];omega,fun x hx=>?_⟩;obtain ⟨b,hb,hxb⟩:=h1.2 x hx;obtain ⟨y,hy,n',rfl⟩: ∃y,y∈B/\ ∃n',b=cI y.2 n':=by
       obtain ⟨k,hk⟩:=ak2 hb;rw [ae1] at hk;simp only [ag3] at hk;cases hr:(B.map (·.2))[k]? with
       |none=>rw [hr] at hk;cases hk |some r'=>
        cases hc':cn1[k]? with
        |none=>rw [hr,hc'] at hk;cases hk |some n'=>
         rw [hr,hc'] at hk;injection hk with hk;rw [ab5] at hr;cases hB':B[k]? with
         |none=>rw [hB'] at hr;cases hr |some y=>
          rw [hB'] at hr;injection hr with hr;exact ⟨y,aa2 hB',n',(by have hr:y.2=r':=hr;rw [hr];exact hk.symm)⟩
      exact hBok y hy _ (kE.1 hxb)
     rw [<-hC0] at hch hCl;refine ab4 (show∃EE:Nat->List fK,EE=fun q=>(C0.take q).foldl (fun l c=>fF l (n,j9 s c)) r.ends from ⟨_,rfl⟩) fun EE hEE=>?_;have hE0:EE 0=r.ends:=by rw [hEE];rfl
     have hEs: ∀q c,C0[q]? =some c->EE (q+1)=fF (EE q) (n,j9 s c):=fun q c hc=>by rw [hEE];show (C0.take (q+1)).foldl _ _=_;rw [takeN hc,af2];rfl
     have hEl: ∀q,q<=C0.length->(EE q).length<=r.ends.length+q/\ ∀e,e∈EE q->bI V e.2/\e.1<=256:=fun q=>by
      induction q with
      |zero=>intro _;rw [hE0];exact ⟨ab3 _,hre⟩ |succ q ihq=>
       intro hq;obtain ⟨i1,i2⟩:=ihq (by omega);obtain ⟨c,hc⟩:=bT (l:=C0) (i:=q) (by omega);rw [hEs q c hc];have:=vU (EE q) (n,j9 s c);refine ⟨by omega,fun e he=>?_⟩;rcases sG.1 he with he|he
       ·exact i2 e he
       ·rw [he];exact ⟨lW c (hC1 c (aa2 hc)).2 s hs,hn256⟩
     have nC:((C0.map lH).length:Int)=C0.length:=by rw [aa0]
     refine A.perm (Λ':=[.row 1 (.slice a B.length cp) (cn1.map fun (n:Nat)=>AI n), .row 2 z (r.ends.map cT), .box b16 (qK z ⟨n,r.ends,r.miss⟩), .box b10 _]) (.refl _) ?_;refine A.e T hch s_ (Λ2:=[.row 2 z (r.ends.map cT), .box b16 (qK z ⟨n,r.ends,r.miss⟩), .box b10 _]) (.refl _) fun _ _=>?_;refine y_ ?_;refine A.af [1,2,10,11,16,18,19,22,23] T ?_;refine A.perm (Λ':=[.row 2 z (r.ends.map cT), .box b16 (qK z ⟨n,r.ends,r.miss⟩), .row 1 (.slice a B.length cp) (cn1.map fun (n:Nat)=>AI n), .box b10 _]) (c9 [1,2,0,3] T T T T) ?_;refine A.ab (Λ':=[.row 2 z ((EE 0).map cT), .box b16 (qK z ⟨n,EE 0,r.miss⟩), .row 1 (.slice a B.length cp) (cn1.map fun (n:Nat)=>AI n), .box b10 _]) (by rw [hE0]) ?_;refine A.ae (ι:=Nat×Value) (fun v=>(⟨[(1,aF s),(2,lI t),(10,aT b10),(11,bsQ B),(16,aT b16),(18, .ms (.slice a B.length cp) 1 B.length),(19,AI (n:Nat)),(22,U2 C0),(23,AI (v.1:Nat))],[]⟩,[.row 2 v.2 ((EE v.1).map cT), .box b16 (qK v.2 ⟨n,EE v.1,r.miss⟩), .row 1 (.slice a B.length cp) (cn1.map fun (n:Nat)=>AI n), .box b10 _])) (fun v=>v.1<=C0.length) (fun v=>C0.length-v.1) (0,z) (aa4 _) T fun v hv qh=>?_;obtain ⟨q,zq⟩:=v;have hq:q<=C0.length:=hv;obtain ⟨hEq1,hEq2⟩:=hEl q hq;refine y_ ?_
     by_cases hcq:q<C0.length
     ·refine aX hcq fun c hc=>?_;have hcc:=hC1 c (aa2 hc);have hmg:=C3 s c hs hcc.2 (by omega);have hadd:=qG (EE q) (n,j9 s c) ⟨hEq2⟩ ⟨lW c hcc.2 s hs,hn256⟩ (by omega) zq;rw [<-hEs q c hc] at hadd;refine T_ T (by show decide ((q:Int)<((C0.map lH).length:Int))=true;rw [nC,dT];omega) ?_;refine A.cq [(10, .row 2 zq ((EE q).map cT))] 11 [0,1,2,3,4,5,6,7,8,9,10] (fun i=>if i=10 then [10] else []) [(8,aF (j9 s c))] (.refl _) T T (by rfl) (by kernel_rfl) (by kernel_rfl) ?_;refine w_ ?_;refine gX T (aC hc) T ?_;refine rL hmg ?_;refine WA.ej T T T T T T T T T hadd s_ fun z2 _=>?_;refine WA.nil (l:=[_]) T ?_;refine y_ ?_;refine vI 23 q ?_;refine u_ (qh (q+1,z2) (by show q+1<=_;omega) (by show _-(q+1)<_-q;omega))
     ·refine A.gF T (by show decide ((q:Int)<((C0.map lH).length:Int))=false;rw [nC,dF];omega) ?_;clear qh;have hmt:fC s (B.map (·.2)) cn1 n r=⟨n,EE q,r.miss⟩:=by
       rw [PN,<-hC0,hEE];show _=(⟨n,(C0.take q).foldl _ _,_⟩:RN);rw [aa6 (by omega:C0.length<=q)]
      refine y_ ?_;refine vI 19 n ?_;refine A.perm (Λ':=[.row 1 (.slice a B.length cp) (cn1.map fun (n:Nat)=>AI n), .row 2 zq ((EE q).map cT), .box b16 (qK zq ⟨n,EE q,r.miss⟩), .box b10 _]) (c9 [2,0,1,3] T T T T) ?_;refine u_ (nh ⟨n+1,cn1,⟨n,EE q,r.miss⟩,zq⟩ ⟨by show n+1<=_;omega,hc1,hcb1,hEq2,by show (EE q).length<=(n+1)*2000;omega, .inr ⟨n,rfl,by rw [hfin1,hmt]⟩⟩ (by show t.length+1-(n+1)<t.length+1-n;omega))
    ·obtain ⟨m,rfl⟩: ∃m,n=m+1:=⟨n-1,by omega⟩;have hF:FIN=mB (B.map (·.1)) (B.map (·.2)) s (t.drop m) m cn r:=by
      rcases hin with ⟨h,_⟩|⟨m',hm',hF⟩
      ·omega
      ·rw [show m=m' by omega];exact hF
     refine ab4 (bT (l:=t) (i:=m) (by omega)) fun e he=>?_;rw [cB he] at hF;refine eX (gA (B.map (·.1)) cn e.1) fun cn1 hcn1=>?_;have hc1:cn1.length=B.length:=by rw [hcn1,vZ (by rw [aa0];exact hcl),aa0]
     have hcat: ∀(i:Nat) (x:BQ) (c:Nat),B[i]? =some x->cn[i]? =some c->cn1[i]? =some (if x.1.contains e.1 then c+1 else c):=fun i x c hx hc=>by rw [hcn1];exact B3 (aC hx) hc
     refine ab4 (show∃MX:Nat->List Nat,MX=fun i=>cn1.take i++cn.drop i from ⟨_,rfl⟩) fun MX hMX=>?_;have hM0:MX 0=cn:=by rw [hMX];rfl
     have hMB:MX B.length=cn1:=by rw [hMX];show cn1.take _++cn.drop _=_;rw [aa6 (by omega),ad3 (by omega),List.append_nil]
     have hMl: ∀i,i<=B.length->(MX i).length=B.length:=fun i hi=>by rw [hMX];show (cn1.take i++cn.drop i).length=_;rw [aa1,ac1,ad7];omega
     have hMi: ∀(i c:Nat),i<B.length->cn[i]? =some c->(MX i)[i]? =some c:=fun i c hi hc=>by
      have hl:(cn1.take i).length=i:=by rw [ac1];omega
      rw [hMX];show (cn1.take i++cn.drop i)[i]? =_;rw [ae7 (by omega),hl,ak3,cB hc];rfl
     have hMn: ∀(i c c':Nat),i<B.length->cn[i]? =some c->cn1[i]? =some c'->(MX i).set i c'=MX (i+1):=fun i c c' hi hc hc'=>by
      have hl:(cn1.take i).length=i:=by rw [ac1];omega
      rw [hMX];show (cn1.take i++cn.drop i).set i c'=cn1.take (i+1)++cn.drop (i+1);rw [cB hc,takeN hc',List.set_append,iF (by omega),hl,ak3];simp
     have hMk: ∀(i c:Nat),i<B.length->cn[i]? =some c->cn1[i]? =some c->MX i=MX (i+1):=fun i c hi hc hc'=>by rw [hMX];show cn1.take i++cn.drop i=cn1.take (i+1)++cn.drop (i+1);rw [cB hc,takeN hc'];simp
     have hMs: ∀(i c':Nat),i<B.length->cn1[i]? =some c'->(MX (i+1))[i]? =some c':=fun i c' hi hc'=>by rw [hMX];show (cn1.take (i+1)++cn.drop (i+1))[i]? =_;rw [ae6 (by rw [ac1];omega),List.getElem?_take,iT (by omega)];exact hc'
     have hcs1:(B.any fun x=>x.1.contains e.1)=false->eE (B.map (·.1)) (B.map (·.2)) cn e.1=false:=fun h=>by unfold eE;rw [at3];show ((B.any fun x=>x.1.contains e.1)&&_)=false;rw [h,af3]
     have hcs2: ∀(i:Nat) (x:BQ) (c:Nat),B[i]? =some x->cn1[i]? =some c-> ¬c<=x.2.reach->eE (B.map (·.1)) (B.map (·.2)) cn e.1=false:=fun i x c hx hc hn=>by
      cases hq:eE (B.map (·.1)) (B.map (·.2)) cn e.1 with
      |false=>rfl |true=>exact absurd (D8 hq i c x.2 (by rw [<-hcn1];exact hc) (aC hx)) hn
     have hcs3:(B.any fun x=>x.1.contains e.1)=true->(∀(j:Nat) (x:BQ) (c:Nat),B[j]? =some x->cn1[j]? =some c->c<=x.2.reach)->eE (B.map (·.1)) (B.map (·.2)) cn e.1=true:=fun h1 h2=>by
      unfold eE;rw [at3,<-hcn1,Bool.and_eq_true];refine ⟨h1,List.all_eq_true.2 fun y hy=>?_⟩;obtain ⟨j,hj⟩:=ak2 hy;rw [List.getElem?_zip_eq_some] at hj;obtain ⟨hj1,hj2⟩:=hj;rw [ab5] at hj2;cases hB':B[j]? with
      |none=>rw [hB'] at hj2;cases hj2 |some x=>
       rw [hB'] at hj2;injection hj2 with hj2;rw [dT,<-hj2];exact h2 j x y.1 hB' hj1
     refine T_ T (by show decide ((0:Int)<((m+1:Nat):Int))=true;rw [dT];omega) ?_;refine A.af [1,2,10,11,16,18,19,20,21] T ?_;refine A.ab (Λ':=[.row 1 (.slice a B.length cp) ((MX 0).map fun (n:Nat)=>AI n), .row 2 z (r.ends.map cT), .box b16 (qK z r), .box b10 _]) (by rw [hM0]) ?_;refine A.ae (ι:=Nat) (fun i=>(⟨[(1,aF s),(2,lI t),(10,aT b10),(11,bsQ B),(16,aT b16),(18, .ms (.slice a B.length cp) 1 B.length),(19,AI ((m+1:Nat):Int)),(20,AB ((B.take i).any fun x=>x.1.contains e.1)),(21,AI (i:Nat))],[]⟩,[.row 1 (.slice a B.length cp) ((MX i).map fun (n:Nat)=>AI n), .row 2 z (r.ends.map cT), .box b16 (qK z r), .box b10 _])) (fun i=>i<=B.length/\ ∀(j:Nat) (x:BQ) (c:Nat),j<i->B[j]? =some x->cn1[j]? =some c->c<=x.2.reach) (fun i=>B.length-i) 0 ⟨aa4 _,fun j x c h=>by omega⟩ T fun i hi ih=>?_;obtain ⟨hi1,hi2⟩:=hi;refine y_ ?_
     by_cases hcb:i<B.length
     ·refine aX hcb fun x hx=>?_;refine ab4 (bT (l:=cn) (i:=i) (by omega)) fun c hc=>?_;have hca:=hcat i x c hx hc;have hxl:x.1.length<=1048576:=by
       obtain ⟨w,hw⟩:=bT (l:=p.l) (i:=i) (by omega);have h1:=A2 (f:=f) (op:=op) (t:=t) (s:=s) hw;rw [<-hB,hx] at h1;injection h1 with h1;rw [h1];have h2:=cJ w;have h3:=hcr w (aa2 hw);show (aB w).length<=_;omega
      have hin':=HG x.1 e.1 (by omega);have hany:(B.take (i+1)).any (fun x=>x.1.contains e.1)=((B.take i).any (fun x=>x.1.contains e.1)||x.1.contains e.1):=by rw [takeN hx,aq1];simp
      refine T_ T (by show decide ((i:Int)<((B.map E6).length:Int))=true;rw [nB,dT];omega) ?_;refine d_ 12 [0,1,2,3,4,5,6,7,8,9,10,11] [(11,AB (x.1.contains e.1))] ?_;refine gX T (aC hx) T ?_;refine WA.aa 117 T (x':=AI (m:Nat)) (aL (by rw [fR _ (by omega)];omega)) ?_;refine gX T (aC he) T ?_;refine WA.c T T hin' (.sub s_) ?_;refine z_ ?_;refine A.cy (a:=a) (n:=B.length) (c:=cp) (sz:=1) (l:=(MX i).map fun (n:Nat)=>AI n) (fun h=>by have:=congrArg List.length h;rw [aa0,hMl i (by omega),af5] at this;omega) fun bb o ha=>?_
      subst ha
      by_cases hct:x.1.contains e.1=true
      ·refine eX (c+1) fun cv hcve=>?_;have hcv:cn1[i]? =some cv:=by rw [hca,iT hct,hcve]
       have hset:((MX i).map fun (n:Nat)=>AI n).set i (AI (cv:Nat))=(MX (i+1)).map fun (n:Nat)=>AI n:=by rw [<-hMn i c cv hcb hc hcv,List.map_set]
       refine T_ T hct ?_;refine A.ah T T T T T T T T (by omega) (by rw [aa0,hMl _ (by omega)];omega) T ?_;refine A.ba T T T T T T (y':=AI (c:Nat)) T (aC (hMi i c hcb hc)) T T ?_;refine y_ ?_;have hcm:=hcbd i c hc;refine A.aa 126 T (x':=AI (cv:Nat)) (aL (by rw [hcve,fR _ (by omega)];omega)) ?_;refine A.ah T T T T T T T T (by omega) (by rw [aa0,hMl _ (by omega)];omega) T ?_;refine A.bq T T T T T T T T T (by rw [aa0,hMl _ (by omega)];show i<_;omega) (xs':=(MX (i+1)).map fun (n:Nat)=>AI n) hset ?_;refine y_ ?_;refine d_ 11 [0,1,2,3,4,5,6,7,8,9,10] [] ?_;refine WA.ah T T T T T T T T T (by omega) (by rw [aa0,hMl _ (by omega)];omega) T ?_;refine WA.ba T T T T T T T (y':=AI (cv:Nat)) T (aC (hMs i cv hcb hcv)) T T ?_;refine w_ ?_;refine gX T (aC hx) T ?_;refine z_ ?_
       by_cases hle:cv<=x.2.reach
       ·refine F_ T (by show decide (((x.2.reach:Nat):Int)<((cv:Nat):Int))=false;rw [dF];omega) ?_;refine vI 21 i ?_;refine A.aa 20 T (x':=AB ((B.take (i+1)).any fun x=>x.1.contains e.1)) (by rw [hany,hct];simp) ?_;refine u_ (ih (i+1) ⟨by omega,fun j x' c' hj hx' hc'=>?_⟩ (by omega))
        by_cases hji:j=i
        ·subst hji;rw [hx] at hx';injection hx' with hx';rw [hcv] at hc';injection hc' with hc';rw [<-hx',<-hc'];exact hle
        ·exact hi2 j x' c' (by omega) hx' hc'
       ·refine A.gT T (by show decide (((x.2.reach:Nat):Int)<((cv:Nat):Int))=true;rw [dT];omega) ?_;have hRf:FIN=r:=by rw [hF,qN (hcs2 i x cv hx hcv hle)]
        refine l_ (Λ':=[.row 2 z (r.ends.map cT), .box b16 (qK z r), .box b10 _]) ?_;refine A.ak 16 z (x':=eK r) T (DQ z r) ?_;refine y_ ?_;refine C_ ?_;rw [hRf];exact s_
      ·have hct:x.1.contains e.1=false:=by simpa using hct
       refine eX (c) fun cv hcve=>?_;have hcv:cn1[i]? =some cv:=by rw [hca,iF (by rw [hct];decide),hcve]
       refine A.gF T hct ?_;refine A.ab (Λ':=[.row 1 (.slice (some ⟨bb,o,none⟩) B.length cp) ((MX (i+1)).map fun (n:Nat)=>AI n), .row 2 z (r.ends.map cT), .box b16 (qK z r), .box b10 _]) (by have h:=hMk i c hcb hc (by rw [hcv,hcve]);show [aH.row 1 (.slice (some ⟨bb,o,none⟩) B.length cp) ((MX i).map fun (n:Nat)=>AI n), .row 2 z (r.ends.map cT), .box b16 (qK z r),_]=_;rw [h]) ?_;refine y_ ?_;refine d_ 11 [0,1,2,3,4,5,6,7,8,9,10] [] ?_;refine WA.ah T T T T T T T T T (by omega) (by rw [aa0,hMl _ (by omega)];omega) T ?_;refine WA.ba T T T T T T T (y':=AI (cv:Nat)) T (aC (hMs i cv hcb hcv)) T T ?_;refine w_ ?_;refine gX T (aC hx) T ?_;refine z_ ?_
       by_cases hle:cv<=x.2.reach
       ·refine F_ T (by show decide (((x.2.reach:Nat):Int)<((cv:Nat):Int))=false;rw [dF];omega) ?_;refine vI 21 i ?_;refine A.aa 20 T (x':=AB ((B.take (i+1)).any fun x=>x.1.contains e.1)) (by rw [hany,hct];simp) ?_;refine u_ (ih (i+1) ⟨by omega,fun j x' c' hj hx' hc'=>?_⟩ (by omega))
        by_cases hji:j=i
        ·subst hji;rw [hx] at hx';injection hx' with hx';rw [hcv] at hc';injection hc' with hc';rw [<-hx',<-hc'];exact hle
        ·exact hi2 j x' c' (by omega) hx' hc'
       ·refine A.gT T (by show decide (((x.2.reach:Nat):Int)<((cv:Nat):Int))=true;rw [dT];omega) ?_;have hRf:FIN=r:=by rw [hF,qN (hcs2 i x cv hx hcv hle)]
        refine l_ (Λ':=[.row 2 z (r.ends.map cT), .box b16 (qK z r), .box b10 _]) ?_;refine A.ak 16 z (x':=eK r) T (DQ z r) ?_;refine y_ ?_;refine C_ ?_;rw [hRf];exact s_
     ·refine A.gF T (by show decide ((i:Int)<((B.map E6).length:Int))=false;rw [nB,dF];omega) ?_;clear ih;have hib:i=B.length:=by omega
      subst hib;refine e_ 20 T (x':=AB (B.any fun x=>x.1.contains e.1)) (by rw [ac4]) ?_
      by_cases han:(B.any fun x=>x.1.contains e.1)=true
      ·have hcs:=hcs3 han (fun j x c hx hc=>hi2 j x c (UL hx) hx hc);have hfin1:FIN=mB (B.map (·.1)) (B.map (·.2)) s (t.drop (m+1)) (m+1) cn1 (fC s (B.map (·.2)) cn1 (m+1) r):=by rw [hF,B5 hcs,<-hcn1]
       have hcb1: ∀(i c:Nat),cn1[i]? =some c->c<=(m+1)+1:=fun i c h=>by
        have hil:i<B.length:=by have:=UL h;omega
        obtain ⟨x,hx⟩:=bT (l:=B) (i:=i) hil;obtain ⟨c0,hc0⟩:=bT (l:=cn) (i:=i) (by omega);have h1:=hcat i x c0 hx hc0;rw [h] at h1;injection h1 with h1;have h2:=hcbd i c0 hc0;rw [h1];split<;>omega
       refine eX (m+1) fun n hnm=>?_;rw [<-hnm] at hfin1 hn256 hrl hnt hn1 hcb1;refine A.gF T (by rw [han];rfl) ?_;refine A.aa 19 T (x':=AI (n:Nat)) (by rw [hnm]) ?_;refine A.ab (Λ':=[.row 1 (.slice a B.length cp) (cn1.map fun (n:Nat)=>AI n), .row 2 z (r.ends.map cT), .box b16 (qK z r), .box b10 _]) (by rw [hMB]) ?_;rw [<-hnm] at nh;refine y_ ?_;have hK:=U0 (op:=op) (t:=t) (s:=s) hway hll (cn:=cn1) (by rw [hc1,hBl]);rw [<-hB] at hK;have hch:=uR B cn1 hK.1 _ 0 T (aa4 _) (.slice a B.length cp);rw [hc1] at hch;have hCl:=hK.2 0;refine eX (rQ B cn1 0) fun C0 hC0=>?_;have hC1: ∀c,c∈C0->c.length<=2048/\ ∀x,x∈c->bI V x:=fun c hc=>by
        rw [hC0] at hc;have h1:=A5 hc;refine ⟨by rw [h1.1,ai6,aa0,ad7];omega,fun x hx=>?_⟩;obtain ⟨b,hb,hxb⟩:=h1.2 x hx;obtain ⟨y,hy,n',rfl⟩: ∃y,y∈B/\ ∃n',b=cI y.2 n':=by
         obtain ⟨k,hk⟩:=ak2 hb;rw [ae1] at hk;simp only [ag3] at hk;cases hr:(B.map (·.2))[k]? with
         |none=>rw [hr] at hk;cases hk |some r'=>
          cases hc':cn1[k]? with
          |none=>rw [hr,hc'] at hk;cases hk |some n'=>
           rw [hr,hc'] at hk;injection hk with hk;rw [ab5] at hr;cases hB':B[k]? with
           |none=>rw [hB'] at hr;cases hr |some y=>
            rw [hB'] at hr;injection hr with hr;exact ⟨y,aa2 hB',n',(by have hr:y.2=r':=hr;rw [hr];exact hk.symm)⟩
        exact hBok y hy _ (kE.1 hxb)
       rw [<-hC0] at hch hCl;refine ab4 (show∃EE:Nat->List fK,EE=fun q=>(C0.take q).foldl (fun l c=>fF l (n,j9 s c)) r.ends from ⟨_,rfl⟩) fun EE hEE=>?_;have hE0:EE 0=r.ends:=by rw [hEE];rfl
       have hEs: ∀q c,C0[q]? =some c->EE (q+1)=fF (EE q) (n,j9 s c):=fun q c hc=>by rw [hEE];show (C0.take (q+1)).foldl _ _=_;rw [takeN hc,af2];rfl
       have hEl: ∀q,q<=C0.length->(EE q).length<=r.ends.length+q/\ ∀e,e∈EE q->bI V e.2/\e.1<=256:=fun q=>by
        induction q with
        |zero=>intro _;rw [hE0];exact ⟨ab3 _,hre⟩ |succ q ihq=>
         intro hq;obtain ⟨i1,i2⟩:=ihq (by omega);obtain ⟨c,hc⟩:=bT (l:=C0) (i:=q) (by omega);rw [hEs q c hc];have:=vU (EE q) (n,j9 s c);refine ⟨by omega,fun e he=>?_⟩;rcases sG.1 he with he|he
         ·exact i2 e he
         ·rw [he];exact ⟨lW c (hC1 c (aa2 hc)).2 s hs,hn256⟩
       have nC:((C0.map lH).length:Int)=C0.length:=by rw [aa0]
       refine A.perm (Λ':=[.row 1 (.slice a B.length cp) (cn1.map fun (n:Nat)=>AI n), .row 2 z (r.ends.map cT), .box b16 (qK z ⟨n,r.ends,r.miss⟩), .box b10 _]) (.refl _) ?_;refine A.e T hch s_ (Λ2:=[.row 2 z (r.ends.map cT), .box b16 (qK z ⟨n,r.ends,r.miss⟩), .box b10 _]) (.refl _) fun _ _=>?_;refine y_ ?_;refine A.af [1,2,10,11,16,18,19,22,23] T ?_;refine A.perm (Λ':=[.row 2 z (r.ends.map cT), .box b16 (qK z ⟨n,r.ends,r.miss⟩), .row 1 (.slice a B.length cp) (cn1.map fun (n:Nat)=>AI n), .box b10 _]) (c9 [1,2,0,3] T T T T) ?_;refine A.ab (Λ':=[.row 2 z ((EE 0).map cT), .box b16 (qK z ⟨n,EE 0,r.miss⟩), .row 1 (.slice a B.length cp) (cn1.map fun (n:Nat)=>AI n), .box b10 _]) (by rw [hE0]) ?_;refine A.ae (ι:=Nat×Value) (fun v=>(⟨[(1,aF s),(2,lI t),(10,aT b10),(11,bsQ B),(16,aT b16),(18, .ms (.slice a B.length cp) 1 B.length),(19,AI (n:Nat)),(22,U2 C0),(23,AI (v.1:Nat))],[]⟩,[.row 2 v.2 ((EE v.1).map cT), .box b16 (qK v.2 ⟨n,EE v.1,r.miss⟩), .row 1 (.slice a B.length cp) (cn1.map fun (n:Nat)=>AI n), .box b10 _])) (fun v=>v.1<=C0.length) (fun v=>C0.length-v.1) (0,z) (aa4 _) T fun v hv qh=>?_;obtain ⟨q,zq⟩:=v;have hq:q<=C0.length:=hv;obtain ⟨hEq1,hEq2⟩:=hEl q hq;refine y_ ?_
       by_cases hcq:q<C0.length
       ·refine aX hcq fun c hc=>?_;have hcc:=hC1 c (aa2 hc);have hmg:=C3 s c hs hcc.2 (by omega);have hadd:=qG (EE q) (n,j9 s c) ⟨hEq2⟩ ⟨lW c hcc.2 s hs,hn256⟩ (by omega) zq;rw [<-hEs q c hc] at hadd;refine T_ T (by show decide ((q:Int)<((C0.map lH).length:Int))=true;rw [nC,dT];omega) ?_;refine A.cq [(10, .row 2 zq ((EE q).map cT))] 11 [0,1,2,3,4,5,6,7,8,9,10] (fun i=>if i=10 then [10] else []) [(8,aF (j9 s c))] (.refl _) T T (by rfl) (by kernel_rfl) (by kernel_rfl) ?_;refine w_ ?_;refine gX T (aC hc) T ?_;refine rL hmg ?_;refine WA.ej T T T T T T T T T hadd s_ fun z2 _=>?_;refine WA.nil (l:=[_]) T ?_;refine y_ ?_;refine vI 23 q ?_;refine u_ (qh (q+1,z2) (by show q+1<=_;omega) (by show _-(q+1)<_-q;omega))
       ·refine A.gF T (by show decide ((q:Int)<((C0.map lH).length:Int))=false;rw [nC,dF];omega) ?_;clear qh;have hmt:fC s (B.map (·.2)) cn1 n r=⟨n,EE q,r.miss⟩:=by
         rw [PN,<-hC0,hEE];show _=(⟨n,(C0.take q).foldl _ _,_⟩:RN);rw [aa6 (by omega:C0.length<=q)]
        refine y_ ?_;refine vI 19 n ?_;refine A.perm (Λ':=[.row 1 (.slice a B.length cp) (cn1.map fun (n:Nat)=>AI n), .row 2 zq ((EE q).map cT), .box b16 (qK zq ⟨n,EE q,r.miss⟩), .box b10 _]) (c9 [2,0,1,3] T T T T) ?_;refine u_ (nh ⟨n+1,cn1,⟨n,EE q,r.miss⟩,zq⟩ ⟨by show n+1<=_;omega,hc1,hcb1,hEq2,by show (EE q).length<=(n+1)*2000;omega, .inr ⟨n,rfl,by rw [hfin1,hmt]⟩⟩ (by show t.length+1-(n+1)<t.length+1-n;omega))
      ·have han:(B.any fun x=>x.1.contains e.1)=false:=by simpa using han
       have hRf:FIN=r:=by rw [hF,qN (hcs1 han)]
       refine A.gT T (by rw [han];rfl) ?_;refine l_ (Λ':=[.row 2 z (r.ends.map cT), .box b16 (qK z r), .box b10 _]) ?_;refine A.ak 16 z (x':=eK r) T (DQ z r) ?_;refine y_ ?_;refine C_ ?_;rw [hRf];exact s_
   ·refine A.gF T (by show decide ((n:Int)<=((t.map jK).length:Int))=false;rw [nt,dF];omega) ?_;clear nh;have hRf:FIN=r:=by
     rcases hin with ⟨h0,_⟩|⟨m,hm,hF⟩
     ·omega
     ·rw [hF,show m=t.length by omega,List.drop_length];rfl
    refine l_ (Λ':=[.row 2 z (r.ends.map cT), .box b16 (qK z r), .box b10 _]) ?_;refine A.ak 16 z (x':=eK r) T (DQ z r) ?_;refine y_ ?_;refine C_ ?_;rw [hRf];exact s_
structure PartQ(V:List KV)(C:List Int)(f:Nat)(op:List Int)(t:TR)(s:bA)(p:PR):Prop where
 seq:p.kind=9->Pure Tryz.prog aU 57 [pN p.l,aF s,lI t,aQ op,AI (f:Nat)] (eK (bB f op t s p.l))
 loop:p.kind=13->Pure Tryz.prog aU 59 [aE p,aF s,lI t,aQ op,AI (f:Nat)] (eK (cG f op t s p))
 iff:p.kind=12->Pure Tryz.prog aU 58 [aE p,aF s,lI t,aQ op,AI (f:Nat)] (eK (cG f op t s p))
 alt:p.kind=14\/p.kind=15->Pure Tryz.prog aU 60 [aE p,aF s,lI t,aQ op,AI (f:Nat)] (eK (cG f op t s p))
 par:p.kind=10\/p.kind=11->Pure Tryz.prog aU 61 [aE p,aF s,lI t,aQ op,AI (f:Nat)] (eK (qW (p.l.map aB) (hJ f op (p.l.map aB) 0 t s p.l) t s))
theorem qZ{V:List KV}{C:List Int}(p:PR)(u:Un V C p)(f:Nat)(op:List Int)(t:TR)(s:bA)(hs:bI V s)(P:PartQ V C f op t s p)(hk:p.kind=1\/p.kind=2\/p.kind=4\/p.kind=9\/p.kind=10\/p.kind=11\/p.kind=12\/p.kind=13\/p.kind=14\/p.kind=15\/p.kind=16):Pure Tryz.prog aU 27 [aE p,aF s,lI t,aQ op,AI (f:Nat)] (eK (cG f op t s p)):=by
 have hskip:=oB s;have hstop:=oC;have hasg:=fun h4=>a0J p u h4 s hs;rcases hk with hk|hk|hk|hk|hk|hk|hk|hk|hk|hk|hk
 ·have hR:cG f op t s p=fM s:=by
   obtain ⟨k,c,v,it,to,e,gs,l⟩:=p;have hk:k=1:=hk;rw [cX,iT (show k=1 by omega)]
  rw [hR];have hc:=hskip;refine P_ Tryz.func27 141 fun _ _ _ _=>?_;refine b_ fun b5=>?_;refine A.b T fun b10=>?_;(repeat refine A.s T ?_);refine A.r T T ?_;refine e_ 16 T (x':=cC 1) (by rw [hk]) ?_;refine c_ hc ?_;refine C_ ?_;exact s_
 ·have hR:cG f op t s p=a7:=by
   obtain ⟨k,c,v,it,to,e,gs,l⟩:=p;have hk:k=2:=hk;rw [cX,iF (show¬k=1 by omega),iF (show¬k=3 by omega),iF (show¬k=4 by omega),iF (show¬k=5 by omega),iF (show¬k=6 by omega),iF (show¬k=9 by omega),iF (show¬k=13 by omega),iF (show¬k=12 by omega),iF (show¬(k=14\/k=15) by omega),iF (show¬(k=10\/k=11) by omega)]
  rw [hR];have hc:=hstop;refine P_ Tryz.func27 141 fun _ _ _ _=>?_;refine b_ fun b5=>?_;refine A.b T fun b10=>?_;(repeat refine A.s T ?_);refine A.r T T ?_;refine e_ 16 T (x':=cC 2) (by rw [hk]) ?_;refine c_ hc ?_;refine C_ ?_;exact s_
 ·have hR:cG f op t s p=(match iN s p.to p.e s with|some s'=>fM s'|none=>a7):=by
   obtain ⟨k,c,v,it,to,e,gs,l⟩:=p;have hk:k=4:=hk;rw [cX,iF (show¬k=1 by omega),iF (show¬k=3 by omega),iT (show k=4 by omega)]
   rfl
  rw [hR];have hc:=(hasg hk);refine P_ Tryz.func27 141 fun _ _ _ _=>?_;refine b_ fun b5=>?_;refine A.b T fun b10=>?_;(repeat refine A.s T ?_);refine A.r T T ?_;refine e_ 16 T (x':=cC 4) (by rw [hk]) ?_;refine c_ hc ?_;refine C_ ?_;exact s_
 ·have hR:cG f op t s p=bB f op t s p.l:=by
   obtain ⟨k,c,v,it,to,e,gs,l⟩:=p;have hk:k=9:=hk;rw [cX,iF (show¬k=1 by omega),iF (show¬k=3 by omega),iF (show¬k=4 by omega),iF (show¬k=5 by omega),iF (show¬k=6 by omega),iT (show k=9 by omega)]
  rw [hR];have hc:=(P.seq hk);refine P_ Tryz.func27 141 fun _ _ _ _=>?_;refine b_ fun b5=>?_;refine A.b T fun b10=>?_;(repeat refine A.s T ?_);refine A.r T T ?_;refine e_ 16 T (x':=cC 9) (by rw [hk]) ?_;refine c_ hc ?_;refine C_ ?_;exact s_
 ·have hR:cG f op t s p=qW (p.l.map aB) (hJ f op (p.l.map aB) 0 t s p.l) t s:=by
   obtain ⟨k,c,v,it,to,e,gs,l⟩:=p;have hk:k=10:=hk;rw [cX,iF (show¬k=1 by omega),iF (show¬k=3 by omega),iF (show¬k=4 by omega),iF (show¬k=5 by omega),iF (show¬k=6 by omega),iF (show¬k=9 by omega),iF (show¬k=13 by omega),iF (show¬k=12 by omega),iF (show¬(k=14\/k=15) by omega),iT (show (k=10\/k=11) by omega)]
  rw [hR];have hc:=(P.par (.inl hk));refine P_ Tryz.func27 141 fun _ _ _ _=>?_;refine b_ fun b5=>?_;refine A.b T fun b10=>?_;(repeat refine A.s T ?_);refine A.r T T ?_;refine e_ 16 T (x':=cC 10) (by rw [hk]) ?_;refine c_ hc ?_;refine C_ ?_;exact s_
 ·have hR:cG f op t s p=qW (p.l.map aB) (hJ f op (p.l.map aB) 0 t s p.l) t s:=by
   obtain ⟨k,c,v,it,to,e,gs,l⟩:=p;have hk:k=11:=hk;rw [cX,iF (show¬k=1 by omega),iF (show¬k=3 by omega),iF (show¬k=4 by omega),iF (show¬k=5 by omega),iF (show¬k=6 by omega),iF (show¬k=9 by omega),iF (show¬k=13 by omega),iF (show¬k=12 by omega),iF (show¬(k=14\/k=15) by omega),iT (show (k=10\/k=11) by omega)]
  rw [hR];have hc:=(P.par (.inr hk));refine P_ Tryz.func27 141 fun _ _ _ _=>?_;refine b_ fun b5=>?_;refine A.b T fun b10=>?_;(repeat refine A.s T ?_);refine A.r T T ?_;refine e_ 16 T (x':=cC 11) (by rw [hk]) ?_;refine c_ hc ?_;refine C_ ?_;exact s_
 ·skip
  have hc:=(P.iff hk);refine P_ Tryz.func27 141 fun _ _ _ _=>?_;refine b_ fun b5=>?_;refine A.b T fun b10=>?_;(repeat refine A.s T ?_);refine A.r T T ?_;refine e_ 16 T (x':=cC 12) (by rw [hk]) ?_;refine c_ hc ?_;refine C_ ?_;exact s_
 ·skip
  have hc:=(P.loop hk);refine P_ Tryz.func27 141 fun _ _ _ _=>?_;refine b_ fun b5=>?_;refine A.b T fun b10=>?_;(repeat refine A.s T ?_);refine A.r T T ?_;refine e_ 16 T (x':=cC 13) (by rw [hk]) ?_;refine c_ hc ?_;refine C_ ?_;exact s_
 ·skip
  have hc:=(P.alt (.inl hk));refine P_ Tryz.func27 141 fun _ _ _ _=>?_;refine b_ fun b5=>?_;refine A.b T fun b10=>?_;(repeat refine A.s T ?_);refine A.r T T ?_;refine e_ 16 T (x':=cC 14) (by rw [hk]) ?_;refine c_ hc ?_;refine C_ ?_;exact s_
 ·skip
  have hc:=(P.alt (.inr hk));refine P_ Tryz.func27 141 fun _ _ _ _=>?_;refine b_ fun b5=>?_;refine A.b T fun b10=>?_;(repeat refine A.s T ?_);refine A.r T T ?_;refine e_ 16 T (x':=cC 15) (by rw [hk]) ?_;refine c_ hc ?_;refine C_ ?_;exact s_
 ·have hR:cG f op t s p=a7:=by
   obtain ⟨k,c,v,it,to,e,gs,l⟩:=p;have hk:k=16:=hk;rw [cX,iF (show¬k=1 by omega),iF (show¬k=3 by omega),iF (show¬k=4 by omega),iF (show¬k=5 by omega),iF (show¬k=6 by omega),iF (show¬k=9 by omega),iF (show¬k=13 by omega),iF (show¬k=12 by omega),iF (show¬(k=14\/k=15) by omega),iF (show¬(k=10\/k=11) by omega)]
  rw [hR];have hc:=hstop;refine P_ Tryz.func27 141 fun _ _ _ _=>?_;refine b_ fun b5=>?_;refine A.b T fun b10=>?_;(repeat refine A.s T ?_);refine A.r T T ?_;refine e_ 16 T (x':=cC 16) (by rw [hk]) ?_;refine c_ hc ?_;refine C_ ?_;exact s_
theorem PY(s:bA):cM a7 1 (fM s)=lL 1 (fM s):=by unfold cM lL fM a7 fF;simp
theorem UB(s:bA):Pure Tryz.prog aU 54 [AI 1,eK (fM s)] (eK (lL 1 (fM s))):=
 EZ 1 (fM s) (by show 1+0<=_;omega) (fun e he=>by rw [ab0.1 he];show 1+0<=_;omega) (by show 1<=_;omega)
theorem NT{V:List KV}{C:List Int}(p:PR)(u:Un V C p)(f:Nat)(op:List Int)(t:TR)(s:bA)(hs:bI V s)(hk:p.kind=3):Pure Tryz.prog aU 27 [aE p,aF s,lI t,aQ op,AI (f:Nat)] (eK (cG f op t s p)):=by
 obtain ⟨hv0,hv1⟩:=u.k3 hk;have hsl:s.length=V.length:=(iD hs.may).1;have hcl:=RL (V:=V) s hs p.v hv0 (by omega);have hskip:=oB (G8 s p.v);have hR:cG f op t s p=fM (G8 s p.v):=by obtain ⟨k,c,v,it,to,e,gs,l⟩:=p;have hk:k=3:=hk;rw [cX,iF (show¬k=1 by omega),iT hk]
 rw [hR];refine P_ Tryz.func27 141 fun _ _ _ _=>?_;refine b_ fun b5=>?_;refine A.b T fun b10=>?_;(repeat refine A.s T ?_);refine A.r T T ?_;refine e_ 16 T (x':=cC 3) (by rw [hk]) ?_;refine n_ hcl ?_;refine c_ hskip ?_;refine C_ ?_;exact s_
theorem a0M{V:List KV}{C:List Int}(p:PR)(u:Un V C p)(f:Nat)(op:List Int)(t:TR)(s:bA)(ht:l6 t)(hop:op.length<=1048576)(hs:bI V s)(hk:p.kind=5):Pure Tryz.prog aU 27 [aE p,aF s,lI t,aQ op,AI (f:Nat)] (eK (cG f op t s p)):=by
 obtain ⟨q,hq,hib⟩:=u.k5 hk;obtain ⟨w1,w2⟩:=QA u (show q∈p.to by rw [hq];exact .head _);have hin:=K2 t op p.c p.item q s hs ht w1 w2 (by omega);have hat:(p.to.map gZ)[(0:Int).toNat]? =some (gZ q):=by rw [hq];rfl
 have hstop:=oC;have hR:cG f op t s p=(match cU op t p.c p.item q s with|some s'=>cM a7 1 (fM s')|none=>a7):=by
  obtain ⟨k,c,v,it,to,e,gs,l⟩:=p;have hk:k=5:=hk;have hq:to=[q]:=hq;rw [cX,iF (show¬k=1 by omega),iF (show¬k=3 by omega),iF (show¬k=4 by omega),iT hk,hq]
  rfl
 refine Or.elim (dH (cU op t p.c p.item q s)) (fun hx=>?_) (fun hx=>?_)
 ·rw [hR,hx];rw [hx] at hin;refine P_ Tryz.func27 141 fun _ _ _ _=>?_;refine b_ fun b5=>?_;refine A.b T fun b10=>?_;(repeat refine A.s T ?_);refine A.r T T ?_;refine e_ 16 T (x':=cC 5) (by rw [hk]) ?_;refine d_ 16 [0,1,2,3,4,5,6,7,8,9,10,11,12,13,14,15] [(11,DC none)] ?_;refine gX T hat T ?_;refine rL hin ?_;refine z_ ?_;refine c_ hstop ?_;refine C_ ?_;exact s_
 ·obtain ⟨s',hx⟩:=hx;have hskip:=oB s';have haf:=UB s';rw [hR,hx];simp only;rw [PY];rw [hx] at hin;refine P_ Tryz.func27 141 fun _ _ _ _=>?_;refine b_ fun b5=>?_;refine A.b T fun b10=>?_;(repeat refine A.s T ?_);refine A.r T T ?_;refine e_ 16 T (x':=cC 5) (by rw [hk]) ?_;refine d_ 16 [0,1,2,3,4,5,6,7,8,9,10,11,12,13,14,15] [(11,DC (some s'))] ?_;refine gX T hat T ?_;refine rL hin ?_;refine z_ ?_;refine n_ hskip ?_;refine c_ haf ?_;refine C_ ?_;exact s_
theorem X8{V:List KV}{C:List Int}(p:PR)(u:Un V C p)(f:Nat)(op:List Int)(t:TR)(s:bA)(ht:l6 t)(hop:op.length<=1048576)(hs:bI V s)(hk:p.kind=6):Pure Tryz.prog aU 27 [aE p,aF s,lI t,aQ op,AI (f:Nat)] (eK (cG f op t s p)):=by
 obtain ⟨x,hq⟩:=u.k6 hk;have hvp:=qF s hs.ws x (u.ir x (by rw [hq];exact .head _));rw [aK] at hvp;have hat:(bK p.e)[(0:Int).toNat]? =some (dK x):=eW (by rw [hq];rfl);have hhas:=HG op p.c (by omega);have hstop:=oC;have hR:cG f op t s p=(if fT op t p.c x s=true then lL 1 (fM s) else a7):=by obtain ⟨k,c,v,it,to,e,gs,l⟩:=p;have hk:k=6:=hk;have hq:e=[x]:=hq;rw [<-PY,cX,iF (show¬k=1 by omega),iF (show¬k=3 by omega),iF (show¬k=4 by omega),iF (show¬k=5 by omega),iT hk,hq]
 refine Or.elim (dH (bH s x)) (fun hx=>?_) (fun hx=>?_)
 ·have ho:fT op t p.c x s=false:=by unfold fT;rw [hx]
  rw [hR,ho,iF (by decide)];rw [hx] at hvp;refine P_ Tryz.func27 141 fun _ _ _ _=>?_;refine b_ fun b5=>?_;refine A.b T fun b10=>?_;(repeat refine A.s T ?_);refine A.r T T ?_;refine e_ 16 T (x':=cC 6) (by rw [hk]) ?_;refine i_ T hat (aK x) ?_;refine c_ hvp ?_;refine d_ 29 [0,1,2,3,4,5,6,7,8,9,10,11,12,13,14,15,16,17,18,19,20,21,22,23,24,25,26,27,28] [] ?_;refine z_ ?_;refine c_ hstop ?_;refine C_ ?_;exact s_
 obtain ⟨v,hx⟩:=hx;rw [hx] at hvp
 by_cases hc:op.contains p.c=true
 case neg=>
  have hc0:op.contains p.c=false:=by simpa using hc
  have ho:fT op t p.c x s=false:=by unfold fT;rw [hx];show (decide (p.c∈op)&&_)=false;rw [decide_eq_false (fun h=>hc (aj9.2 h)),af3]
  rw [hR,ho,iF (by decide)];rw [hc0] at hhas;refine P_ Tryz.func27 141 fun _ _ _ _=>?_;refine b_ fun b5=>?_;refine A.b T fun b10=>?_;(repeat refine A.s T ?_);refine A.r T T ?_;refine e_ 16 T (x':=cC 6) (by rw [hk]) ?_;refine i_ T hat (aK x) ?_;refine c_ hvp ?_;refine d_ 29 [0,1,2,3,4,5,6,7,8,9,10,11,12,13,14,15,16,17,18,19,20,21,22,23,24,25,26,27,28] [(5,AB false)] ?_;refine rL hhas ?_;refine z_ ?_;refine c_ hstop ?_;refine C_ ?_;exact s_
 rw [hc] at hhas;have hcm:=aj9.1 hc;have hoo:fT op t p.c x s=decide (t.head? =some (p.c,v)):=by unfold fT;rw [hx];show (decide (p.c∈op)&&_)=_;rw [decide_eq_true hcm,ac2]
 cases t with
 |nil=>
  rw [hR,hoo,iF (by simp)];refine P_ Tryz.func27 141 fun _ _ _ _=>?_;refine b_ fun b5=>?_;refine A.b T fun b10=>?_;(repeat refine A.s T ?_);refine A.r T T ?_;refine e_ 16 T (x':=cC 6) (by rw [hk]) ?_;refine i_ T hat (aK x) ?_;refine c_ hvp ?_;refine d_ 29 [0,1,2,3,4,5,6,7,8,9,10,11,12,13,14,15,16,17,18,19,20,21,22,23,24,25,26,27,28] [(5,AB true)] ?_;refine rL hhas ?_;refine z_ ?_;refine c_ hstop ?_;refine C_ ?_;exact s_
 |cons e r=>
  refine eX (e::r) fun t het=>?_;have hat0:(t.map jK)[(0:Int).toNat]? =some (jK e):=by rw [het];rfl
  have ntl:((t.map jK).length:Int)=(r.length+1:Nat):=by rw [het,aa0,ab7]
  by_cases h1:e.1=p.c
  case neg=>
   rw [hR,hoo,iF (by intro h;have h:=of_decide_eq_true h;injection h with h;apply h1;rw [h])]
   rw [<-het];refine P_ Tryz.func27 141 fun _ _ _ _=>?_;refine b_ fun b5=>?_;refine A.b T fun b10=>?_;(repeat refine A.s T ?_);refine A.r T T ?_;refine e_ 16 T (x':=cC 6) (by rw [hk]) ?_;refine i_ T hat (aK x) ?_;refine c_ hvp ?_;refine d_ 29 [0,1,2,3,4,5,6,7,8,9,10,11,12,13,14,15,16,17,18,19,20,21,22,23,24,25,26,27,28] [(5,AB true)] ?_;refine rL hhas ?_;refine oH 77 T (x':=AB true) (aA (by show decide ((0:Int)<((t.map jK).length:Nat))=true;rw [ntl,dT];omega)) ?_;refine gX T hat0 T ?_;refine oH 86 T (x':=AB false) (aA (by show (e.1==p.c)=false;exact beq_eq_false_iff_ne.2 h1)) ?_;refine z_ ?_;refine c_ hstop ?_;refine C_ ?_;exact s_
  by_cases h2:e.2=v
  ·rw [hR,hoo,iT (by rw [show e=(p.c,v) from Prod.ext h1 h2];simp)];have hskip:=oB s;have haf:=UB s;rw [<-het];refine P_ Tryz.func27 141 fun _ _ _ _=>?_;refine b_ fun b5=>?_;refine A.b T fun b10=>?_;(repeat refine A.s T ?_);refine A.r T T ?_;refine e_ 16 T (x':=cC 6) (by rw [hk]) ?_;refine i_ T hat (aK x) ?_;refine c_ hvp ?_;refine d_ 29 [0,1,2,3,4,5,6,7,8,9,10,11,12,13,14,15,16,17,18,19,20,21,22,23,24,25,26,27,28] [(5,AB true)] ?_;refine rL hhas ?_;refine oH 77 T (x':=AB true) (aA (by show decide ((0:Int)<((t.map jK).length:Nat))=true;rw [ntl,dT];omega)) ?_;refine gX T hat0 T ?_;refine oH 86 T (x':=AB true) (aA (by show (e.1==p.c)=true;exact beq_iff_eq.2 h1)) ?_;refine gX T hat0 T ?_;refine WA.aa 93 T (x':=AB true) (aA (by show (e.2==v)=true;exact beq_iff_eq.2 h2)) ?_;refine z_ ?_;refine n_ hskip ?_;refine c_ haf ?_;refine C_ ?_;exact s_
  ·rw [hR,hoo,iF (by
    intro h;have h:=of_decide_eq_true h;injection h with h;apply h2;rw [h])]
   rw [<-het];refine P_ Tryz.func27 141 fun _ _ _ _=>?_;refine b_ fun b5=>?_;refine A.b T fun b10=>?_;(repeat refine A.s T ?_);refine A.r T T ?_;refine e_ 16 T (x':=cC 6) (by rw [hk]) ?_;refine i_ T hat (aK x) ?_;refine c_ hvp ?_;refine d_ 29 [0,1,2,3,4,5,6,7,8,9,10,11,12,13,14,15,16,17,18,19,20,21,22,23,24,25,26,27,28] [(5,AB true)] ?_;refine rL hhas ?_;refine oH 77 T (x':=AB true) (aA (by show decide ((0:Int)<((t.map jK).length:Nat))=true;rw [ntl,dT];omega)) ?_;refine gX T hat0 T ?_;refine oH 86 T (x':=AB true) (aA (by show (e.1==p.c)=true;exact beq_iff_eq.2 h1)) ?_;refine gX T hat0 T ?_;refine WA.aa 93 T (x':=AB false) (aA (by show (e.2==v)=false;exact beq_eq_false_iff_ne.2 h2)) ?_;refine z_ ?_;refine c_ hstop ?_;refine C_ ?_;exact s_
theorem Un.sm{V:List KV}{C:List Int}{p:PR}(u:Un V C p):sS p:=by obtain ⟨n,h,w⟩:=u;exact (NA (PV (fun p (hp:LU V C p)=>hp.1) _ p n h (ab3 _) w)).2.1
theorem OA{p:PR}{f:Nat}(hk:p.kind=9\/p.kind=10\/p.kind=11):bF p f=cW p.l f:=by obtain ⟨k,c,v,it,to,e,gs,l⟩:=p;rw [gL];exact iT hk
theorem LP{p:PR}{f:Nat}(hk:p.kind=12\/p.kind=14\/p.kind=15):bF p f=1+dO p.gs f:=by obtain ⟨k,c,v,it,to,e,gs,l⟩:=p;have hk:k=12\/k=14\/k=15:=hk;rw [gL,iF (show¬(k=9\/k=10\/k=11) by omega)];exact iT hk
theorem way13{p b:PR}{f:Nat}(hk:p.kind=13)(hl:p.l=[b]):bF p (f+1)=1+bF p f*bF b f:=by obtain ⟨k,c,v,it,to,e,gs,l⟩:=p;have hk:k=13:=hk;have hl:l=[b]:=hl;subst hl;rw [gL,gL,iF (show¬(k=9\/k=10\/k=11) by omega),iF (show¬(k=9\/k=10\/k=11) by omega),iF (show¬(k=12\/k=14\/k=15) by omega),iF (show¬(k=12\/k=14\/k=15) by omega),iT hk,iT hk,jO];rw [IL]
theorem HL{V:List KV}{C:List Int}{p:PR}(u:Un V C p):p.kind=1\/p.kind=2\/p.kind=3\/p.kind=4\/p.kind=5\/p.kind=6\/p.kind=9\/p.kind=10\/p.kind=11\/p.kind=12\/p.kind=13\/p.kind=14\/p.kind=15\/p.kind=16:=by
 by_cases h16:p.kind=16
 ·omega
 ·have h1:=iZ (u.kb h16);have h7:=u.ut.k7;have h8:=u.ut.k8;omega
theorem a0N{V:List KV}{C:List Int}(p:PR)(u:Un V C p)(f:Nat)(hf:f<=1048576)(hw:bF p f<=2000)(op:List Int)(t:TR)(s:bA)(hop:op.length+(dW p).length<=1048576)(ht:l6 t)(fN:t.length<=256)(hs:bI V s)(hl: ∀x,x∈p.l->bF x f<=2000->I0 V f x)(hg: ∀g,g∈p.gs-> ∀x,x∈g.body->bF x f<=2000->I0 V f x)
 (hprev: ∀f',f=f'+1-> ∀x,Un V C x->bF x f'<=2000->I0 V f' x):Pure Tryz.prog aU 25 [fS t op f,aE p,aF s] (oI (cG f op t s p)):=by
 have hll:=u.loc.lens.2.2.2;have hway:p.kind=12\/p.kind=14\/p.kind=15-> ∀g,g∈p.gs-> ∀x,x∈g.body->bF x f<=2000:=fun hk g hgm x hx=>by rw [LP hk] at hw;have:=zB (f:=f) hgm hx;omega
 have hbod:p.kind=12\/p.kind=14\/p.kind=15->BodC V f op p:=fun hk g hgm x hx t' s' h1 h2 h3=>hg g hgm x hx (hway hk g hgm x hx) op t' s' (by have:=NR hgm hx;omega) h1 h2 h3
 have P:T1 V C f op t s p:={
  seq:=fun hk=>by rw [OA (.inl hk)] at hw;exact IA p.l u.l hw (fun x hx=>hl x hx (jW hw hx)) (by omega) op t s (fun x hx=>by have:=DJ hx;omega) ht fN hs
  loop:=fun hk=>WW p u hk f hf op t s hs fun f' b hff hb=>by
   subst hff;rw [way13 hk hb] at hw;have hub:Un V C b:=u.l b (by rw [hb];exact .head _);have hww:cW [b,p] f'<=2000:=by rw [cW,cW,cW,av2,at8];omega
   refine IA (C:=C) [b,p] (fun x hx=>?_) hww (fun x hx=>?_) (by simp) op t s (fun x hx=>?_) ht fN hs
   ·rcases ab6.1 hx with rfl|hx
    ·exact hub
    ·rw [ab0.1 hx];exact u
   ·refine hprev f' T x ?_ (jW hww hx);rcases ab6.1 hx with rfl|hx
    ·exact hub
    ·rw [ab0.1 hx];exact u
   ·rcases ab6.1 hx with rfl|hx
    ·have:=DJ (p:=p) (x:=x) (by rw [hb];exact .head _);omega
    ·rw [ab0.1 hx];exact hop
  gs:=fun hk=>by
   by_cases h12:p.kind=12
   ·exact R0 p u h12 f op t s ht fN hs (hbod hk)
   ·exact MT p u (by omega) f op t s ht fN (by omega) hs (hbod hk)
  par:=fun hk=>by have hw':=hw;rw [OA (.inr hk)] at hw';exact a0E f hf op t s p.l ⟨u.l,fun x hx=>(u.l x hx).sm,fun x hx=>hl x hx (jW hw' hx),hw',by have:=tJ p;rw [this,aa1,aa1] at hop;omega,hll⟩ ht fN hs
  way:=hway}
 rcases HL u with h|h|h|h|h|h|h|h|h|h|h|h|h|h
 ·exact kO p u f op t s ht fN (by omega) hs P (by omega)
 ·exact kO p u f op t s ht fN (by omega) hs P (by omega)
 ·exact S5 p u f op t s hs h
 ·exact kO p u f op t s ht fN (by omega) hs P (by omega)
 ·exact run_iq p u f op t s ht fN (by omega) hs h
 ·exact a0O p u f op t s ht fN (by omega) hs h
 ·exact kO p u f op t s ht fN (by omega) hs P (by omega)
 ·exact kO p u f op t s ht fN (by omega) hs P (by omega)
 ·exact kO p u f op t s ht fN (by omega) hs P (by omega)
 ·exact vH p u f op t s ht fN hs P 12 h (.inl T)
 ·exact kO p u f op t s ht fN (by omega) hs P (by omega)
 ·exact vH p u f op t s ht fN hs P 14 h (.inr (.inl T))
 ·exact vH p u f op t s ht fN hs P 15 h (.inr (.inr T))
 ·exact kO p u f op t s ht fN (by omega) hs P (by omega)
theorem BG{V:List KV}{C:List Int}(f:Nat)(hf:f<=1048576)(hprev: ∀f',f=f'+1-> ∀x,Un V C x->bF x f'<=2000->I0 V f' x): ∀(m:Nat) (p:PR),SizeOf.sizeOf p<=m->Un V C p->bF p f<=2000->I0 V f p
 |0,p,h,_,_=>by obtain ⟨k,c,v,i,to,e,gs,l⟩:=p;simp only [PR.mk.sizeOf_spec] at h;omega
 |m+1,p,hm,u,hw=>fun op t s hop ht fN hs=>a0N p u f hf hw op t s hop ht fN hs (fun x hx=>BG f hf hprev m x (by have:=mO hx;omega) (u.l x hx)) (fun g hg x hx=>BG f hf hprev m x (by have:=nX hg hx;omega) (u.g g hg x hx)) hprev
theorem QH{V:List KV}{C:List Int}: ∀(f:Nat),f<=1048576-> ∀p,Un V C p->bF p f<=2000->I0 V f p
 |0,hf,p,u,hw=>BG 0 hf (fun f' h=>by omega) _ p (ab3 _) u hw |f+1,hf,p,u,hw=>BG (f+1) hf (fun f' h x ux hx=>by
   have h:f'=f:=by omega
   subst h;exact QH f' (by omega) x ux hx) _ p (ab3 _) u hw
theorem X7{V:List KV}{C:List Int}(p:PR)(u:Un V C p)(f:Nat)(hf:f<=1048576)(hw:bF p f<=2000)(op:List Int)(t:TR)(s:bA)(hop:op.length+(dW p).length<=1048576)(ht:l6 t)(fN:t.length<=256)(hs:bI V s)(hl: ∀x,x∈p.l->bF x f<=2000->I1 V f x)(hg: ∀g,g∈p.gs-> ∀x,x∈g.body->bF x f<=2000->I1 V f x)
 (hprev: ∀f',f=f'+1-> ∀x,Un V C x->bF x f'<=2000->I1 V f' x):Pure Tryz.prog aU 27 [aE p,aF s,lI t,aQ op,AI (f:Nat)] (eK (cG f op t s p)):=by
 have hll:=u.loc.lens.2.2.2;have hway:p.kind=12\/p.kind=14\/p.kind=15-> ∀g,g∈p.gs-> ∀x,x∈g.body->bF x f<=2000:=fun hk g hgm x hx=>by rw [LP hk] at hw;have:=zB (f:=f) hgm hx;omega
 have hbod:p.kind=12\/p.kind=14\/p.kind=15->BodQ V f op p:=fun hk g hgm x hx t' s' h1 h2 h3=>hg g hgm x hx (hway hk g hgm x hx) op t' s' (by have:=NR hgm hx;omega) h1 h2 h3
 have P:PartQ V C f op t s p:={
  seq:=fun hk=>by rw [OA (.inl hk)] at hw;exact DR p.l u.l hw (fun x hx=>hl x hx (jW hw hx)) (by omega) op t s (fun x hx=>by have:=DJ hx;omega) ht fN hs
  loop:=fun hk=>S2 p u hk f hf op t s hs fun f' b hff hb=>by
   subst hff;rw [way13 hk hb] at hw;have hub:Un V C b:=u.l b (by rw [hb];exact .head _);have hww:cW [b,p] f'<=2000:=by rw [cW,cW,cW,av2,at8];omega
   refine DR (C:=C) [b,p] (fun x hx=>?_) hww (fun x hx=>?_) (by simp) op t s (fun x hx=>?_) ht fN hs
   ·rcases ab6.1 hx with rfl|hx
    ·exact hub
    ·rw [ab0.1 hx];exact u
   ·refine hprev f' T x ?_ (jW hww hx);rcases ab6.1 hx with rfl|hx
    ·exact hub
    ·rw [ab0.1 hx];exact u
   ·rcases ab6.1 hx with rfl|hx
    ·have:=DJ (p:=p) (x:=x) (by rw [hb];exact .head _);omega
    ·rw [ab0.1 hx];exact hop
  iff:=fun hk=>K0 p u hk f op t s ht fN hs (hbod (.inl hk))
  alt:=fun hk=>XU p u hk f op t s ht fN (by omega) hs (hbod (.inr hk)) (hway (.inr hk))
  par:=fun hk=>by have hw':=hw;rw [OA (.inr hk)] at hw';exact X6 p (lF u.sm) f hf op t s u.l (fun x hx=>(u.l x hx).sm) (fun x hx=>hl x hx (jW hw' hx)) hw' (by have:=tJ p;rw [this,aa1,aa1] at hop;omega) hll ht fN hs}
 rcases HL u with h|h|h|h|h|h|h|h|h|h|h|h|h|h
 ·exact qZ p u f op t s hs P (by omega)
 ·exact qZ p u f op t s hs P (by omega)
 ·exact NT p u f op t s hs h
 ·exact qZ p u f op t s hs P (by omega)
 ·exact a0M p u f op t s ht (by omega) hs h
 ·exact X8 p u f op t s ht (by omega) hs h
 all_goals exact qZ p u f op t s hs P (by omega)
theorem w9{V:List KV}{C:List Int}(f:Nat)(hf:f<=1048576)(hprev: ∀f',f=f'+1-> ∀x,Un V C x->bF x f'<=2000->I1 V f' x): ∀(m:Nat) (p:PR),SizeOf.sizeOf p<=m->Un V C p->bF p f<=2000->I1 V f p
 |0,p,h,_,_=>by obtain ⟨k,c,v,i,to,e,gs,l⟩:=p;simp only [PR.mk.sizeOf_spec] at h;omega
 |m+1,p,hm,u,hw=>fun op t s hop ht fN hs=>X7 p u f hf hw op t s hop ht fN hs (fun x hx=>w9 f hf hprev m x (by have:=mO hx;omega) (u.l x hx)) (fun g hg x hx=>w9 f hf hprev m x (by have:=nX hg hx;omega) (u.g g hg x hx)) hprev
theorem K5{V:List KV}{C:List Int}: ∀(f:Nat),f<=1048576-> ∀p,Un V C p->bF p f<=2000->I1 V f p
 |0,hf,p,u,hw=>w9 0 hf (fun f' h=>by omega) _ p (ab3 _) u hw |f+1,hf,p,u,hw=>w9 (f+1) hf (fun f' h x ux hx=>by
   have h:f'=f:=by omega
   subst h;exact K5 f' (by omega) x ux hx) _ p (ab3 _) u hw
section
variable{V:List KV}{C:List Int}
theorem LK{p x:PR}(hx:x∈p.l)(h:dZ x=false):dZ p=false:=by
 cases hp:dZ p with
 |false=>rfl |true=>have:=(nH.1 hp).2.1 x hx;rw [h] at this;cases this
theorem LJ{p:PR}{g:GD}(hg:g∈p.gs)(h:g.kind=4):dZ p=false:=by
 cases hp:dZ p with
 |false=>rfl |true=>exact absurd h ((nH.1 hp).1.gs g hg)
theorem LI{p x:PR}{g:GD}(hg:g∈p.gs)(hb:g.body=[x])(h:dZ x=false):dZ p=false:=by
 cases hp:dZ p with
 |false=>rfl |true=>
  have:=(nH.1 hp).2.2 g hg;rw [hb,oF] at this;have:=this x (.head _);rw [h] at this;cases this
theorem QW{p:PR}(h7:p.kind≠7)(h8:p.kind≠8)(hl: ∀x,x∈p.l->dZ x=true)(hg: ∀g,g∈p.gs->g.kind≠4/\ ∃y,g.body=[y]/\dZ y=true):dZ p=true:=by refine nH.2 ⟨⟨h7,h8,fun g h=>(hg g h).1⟩,hl,fun g h=>?_⟩;obtain ⟨_,y,e,hy⟩:=hg g h;rw [e,oF];intro x hx;rw [ab0.1 hx];exact hy
end
section
variable{V:List KV}{C:List Int}
theorem tunt_f(p:PR)(hs:sS p)(hbd: ∀g,g∈p.gs-> ∃y,g.body=[y])(hl: ∀x,x∈p.l->Pure Tryz.prog aU 24 [aE x] (AB (dZ x)))(hg: ∀g,g∈p.gs-> ∀x,x∈g.body->Pure Tryz.prog aU 24 [aE x] (AB (dZ x))):
 Pure Tryz.prog aU 24 [aE p] (AB (dZ p)):=by
 have hsa:=lF hs;have hll:=hsa.ll;have hgl:=hsa.gl;have n1:((aS p.l).length:Int)=p.l.length:=by rw [bP]
 have n2:((cA p.gs).length:Int)=p.gs.length:=by rw [cL]
 by_cases h7:p.kind=7
 ·have hu:dZ p=false:=by
   cases hp:dZ p with
   |false=>rfl |true=>exact absurd h7 (nH.1 hp).1.k7
  rw [hu];refine P_ Tryz.func24 45 fun _ _ _ _=>?_
  (refine b_ fun bx=>?_;refine y_ ?_)
  refine e_ 10 T (x':=AB true) (aA (by rw [h7];rfl)) ?_;exact r_
 by_cases h8:p.kind=8
 ·have hu:dZ p=false:=by
   cases hp:dZ p with
   |false=>rfl |true=>exact absurd h8 (nH.1 hp).1.k8
  rw [hu];refine P_ Tryz.func24 45 fun _ _ _ _=>?_
  (refine b_ fun bx=>?_;refine y_ ?_)
  refine e_ 10 T (x':=AB false) (aA (by rw [h8];rfl)) ?_;refine T_ T (by rw [h8];rfl) ?_;exact r_
 refine eX (dZ p) fun R hR=>?_;rw [<-hR];refine P_ Tryz.func24 45 fun _ _ _ _=>?_
 (refine b_ fun bx=>?_;refine y_ ?_)
 refine e_ 10 T (x':=AB false) (aA (beq_eq_false_iff_ne.2 h7)) ?_;refine F_ T (beq_eq_false_iff_ne.2 h8) ?_;refine A.freeze 1 (sz:=8) T T T ?_;refine A.aa 17 T (x':=AI (p.l.length:Nat)) (aL n1) ?_;refine A.af [1,16,17,18] T ?_;refine l_ (Λ':=[]) ?_;refine A.ae (ι:=Nat) (fun i=>(⟨[(1, .pe 8 (aE p)),(16,pN p.l),(17,AI (p.l.length:Nat)),(18,AI (i:Nat))],[]⟩,[])) (fun i=>i<=p.l.length/\ ∀x,x∈p.l.take i->dZ x=true) (fun i=>p.l.length-i) 0 ⟨aa4 _,fun x h=>by rw [ad1] at h;cases h⟩ T fun i hi ih=>?_;obtain ⟨hi1,hi2⟩:=hi;refine y_ ?_;refine k_ (fun hc=>?_) fun hc=>?_
 ·have hci:i<p.l.length:=by simpa using hc
  clear hc;refine aX hci fun x hx=>?_;have hxm:=aa2 hx;have hcall:=hl x hxm;have htk:p.l.take (i+1)=p.l.take i++[x]:=by rw [ac9,hx];rfl
  refine y_ ?_;refine j_ T (aV hx) (bC x) ?_;refine b_ fun b4=>?_;refine y_ ?_;refine c_ hcall ?_;refine k_ (fun hc=>?_) fun hc=>?_
  ·have hx0:dZ x=false:=by simpa using hc
   refine y_ ?_;refine R_ ?_;rw [hR,LK hxm hx0];exact .refl
  ·have hx1:dZ x=true:=by simpa using hc
   clear hc;refine y_ ?_;refine vI 18 i ?_;refine l_ (Λ':=[]) ?_;refine u_ (ih (i+1) ⟨by omega,fun y hy=>?_⟩ (by omega));rw [htk,ad8] at hy;rcases hy with hy|hy
   ·exact hi2 y hy
   ·rw [ab0.1 hy];exact hx1
 have hci: ¬i<p.l.length:=by simpa using hc
 clear hc ih;have hil:i=p.l.length:=by omega
 rw [hil,ac4] at hi2;refine y_ ?_;refine A.aa 28 T (x':=AI (p.gs.length:Nat)) (aL n2) ?_;refine A.af [1,27,28,29] T ?_;refine A.ae (ι:=Nat) (fun j=>(⟨[(1, .pe 8 (aE p)),(27,zS p.gs),(28,AI (p.gs.length:Nat)),(29,AI (j:Nat))],[]⟩,[])) (fun j=>j<=p.gs.length/\ ∀g,g∈p.gs.take j->g.kind≠4/\ ∃y,g.body=[y]/\dZ y=true) (fun j=>p.gs.length-j) 0 ⟨aa4 _,fun x h=>by rw [ad1] at h;cases h⟩ T fun j hj jh=>?_;obtain ⟨hj1,hj2⟩:=hj;refine y_ ?_;refine k_ (fun hc=>?_) fun hc=>?_
 ·have hcj:j<p.gs.length:=by simpa using hc
  clear hc;refine aX hcj fun g hgj=>?_;have hgm:=aa2 hgj;have htk:p.gs.take (j+1)=p.gs.take j++[g]:=by rw [ac9,hgj];rfl
  refine ab4 (hbd g hgm) fun y hy=>?_;have hcall:=hg g hgm y (by rw [hy];exact .head _);have hat:(aS g.body)[(0:Int).toNat]? =some (pC y):=aV (by rw [hy];rfl);refine y_ ?_;refine j_ T (bZ hgj) (cK g) ?_;refine b_ fun b6=>?_;refine y_ ?_
  by_cases h4:g.kind=4
  ·refine e_ 36 T (x':=AB true) (aA (by rw [h4];rfl)) ?_;refine R_ ?_;rw [hR,LJ hgm h4];exact .refl
  ·refine e_ 36 T (x':=AB false) (aA (beq_eq_false_iff_ne.2 h4)) ?_;refine i_ T hat (bC y) ?_;refine c_ hcall ?_;refine k_ (fun hc=>?_) fun hc=>?_
   ·have hx0:dZ y=false:=by simpa using hc
    refine y_ ?_;refine R_ ?_;rw [hR,LI hgm hy hx0];exact .refl
   ·have hx1:dZ y=true:=by simpa using hc
    clear hc;refine y_ ?_;refine vI 29 j ?_;refine l_ (Λ':=[]) ?_;refine u_ (jh (j+1) ⟨by omega,fun g' hg'=>?_⟩ (by omega));rw [htk,ad8] at hg';rcases hg' with hg'|hg'
    ·exact hj2 g' hg'
    ·rw [ab0.1 hg'];exact ⟨h4,y,hy,hx1⟩
 have hcj: ¬j<p.gs.length:=by simpa using hc
 clear hc jh;have hjl:j=p.gs.length:=by omega
 rw [hjl,ac4] at hj2;refine y_ ?_;refine R_ ?_;rw [hR,QW h7 h8 hi2 hj2];exact .refl
theorem N7: ∀(m:Nat) (p:PR) (n hi:Bool),SizeOf.sizeOf p<=m->okF (Loc V C) n hi p->Pure Tryz.prog aU 24 [aE p] (AB (dZ p))
 |0,p,_,_,h,_=>by obtain ⟨k,c,v,i,to,e,gs,l⟩:=p;simp only [PR.mk.sizeOf_spec] at h;omega
 |m+1,p,n,hi,hm,w=>by
  have hs:=(NA w).2.1;rw [okF_eq] at w;obtain ⟨⟨w1,w2,w3⟩,w4,w5⟩:=w;refine tunt_f p hs w1.body (fun x hx=>?_) (fun g hg x hx=>?_)
  ·obtain ⟨n',h',hw⟩:=kN w4 hx;exact N7 m x n' h' (by have:=DG hx;omega) hw
  ·have:=nZ w5 g hg;rw [qT] at this;obtain ⟨n',h',hw⟩:=kN this hx;exact N7 m x n' h' (by have:=CG hg;have:=BV hx;omega) hw
end
theorem tunt_p{k:KN}(hk:EX k)(hm:lU k=true):Pure Tryz.prog aU 24 [aE k.root] (AB (dZ k.root)):=N7 _ k.root true false (ab3 _) (vK hm hk.wf hk.root)
end Go.Proofs.YtenkjmjejhhdjaaGreat
namespace Go.Tp
open Go Go.RowKit
def SbQ(D:Da)(ps:List Nat)(zs args':List AV):Prop:= ∀(h h':GH) (Es:aG),IZ h D Es->h.le h'->(∀j,j∈ps-> ∀x,Es j=some x->rH h' x.b x.lo x.cs)-> ∀v,eN h zs v->eN h' args' v
theorem SbQ.ag{D:Da}{ps:List Nat}{l r zs bs:List AV}(h1:uL D ps l r)(h2:uL D ps zs bs):SbQ D ps (.ag l::zs) (.ag r::bs):=fun h h' Es dd hl hp v q=>by rw [aJ] at q⊢;obtain ⟨u,us,rfl,q1,q2⟩:=q;refine ⟨u,us,rfl,?_,h2.rp dd hl hp q2⟩;rw [gY] at q1⊢;obtain ⟨z,rfl,q3⟩:=q1;exact ⟨z,rfl,h1.rp dd hl hp q3⟩
theorem WA.jg{K:AC}{all:Array Oper}{m:Nat}{k:List It}{pubs:Nat->List Nat}{Y:Ua}{π:List Nat}{E:aO}{Λ:List aH}{D:Da}{i:Nat}{o:Oper}{ks:List (Nat×Bool)}{x:Operand}{args:Array Operand}{ts:Array TypeId}{f:FuncId}{fst cap vs args':List AV}{y:AV}{d:Nat}{ps:List Nat}{D':Da}(hi:cR all.toList i=some o)
 (hg:bL E all o.guard=some ks) (ho:o.op= .call ⟨.value x,args,ts⟩) (hx:E.ev K.gs ks x=some (.fn f fst cap)) (ha:rI (E.ev K.gs ks) args.toList=some vs)
 (hd:o.dst=some d) (hc:cP K.n E d=true) (hp:pubs i=ps) (hii:gQ i ps=false) (hD:rC ps D=D') (hY:cF Y i=some y) (hf:Pure K.P K.gs f args' y) (hs:SbQ D ps (fst++(vs++cap)) args')
 (next:WA K all m k pubs Y π ⟨(d,y)::E.us,E.cs⟩ Λ D'):WA K all m k pubs Y (i::π) E Λ D:=by
 subst hD;subst hp;refine ⟨fun h e L Es hl r q dd=>?_⟩;obtain ⟨v1,e1,f1⟩:=r.ev (K.hgs.mono hl) _ hx;rw [pQ] at f1;obtain ⟨u,w,rfl,f2,f3⟩:=f1;obtain ⟨us,e2,f4⟩:=mZ (σ:=e.ev ks) (fun z x hz=>r.ev (K.hgs.mono hl) ks hz) ha;refine WE.fu (G:=cD K.cfg all (L++K.G) pubs (YA Y) m k) hi (aR r hg) ho e1 e2 hd (cE r hc) (fun pk L'=>?_) (fun v h' y1 y2 y3=>?_) hii
 ·have hargs:=hs _ _ _ dd pk.1 pk.2 _ (f2.append (f4.append f3));refine (hf K.w0 _ _ [] _ (K.hgs.mono (GH.le_trans hl pk.1)) hargs T).mono ?_;rintro v h' L'' ⟨z,Λ',L1,⟨rfl,rfl⟩,g2,g3,g4,rfl⟩;have g4:L1=[]:=g4;subst g4;exact ⟨rfl,g3,by simp only [YA,hY];exact g2⟩
 ·have y3:Rp h' y v:=by simp only [YA,hY] at y3;exact y3
  exact next.run h' ⟨(d,v)::e.us,e.cs⟩ L _ (GH.le_trans hl y2) ⟨(r.1.mono y2).put y3,r.2.mono y2⟩ (q.mono y2) ((dd.mono y2).pub _)
end Go.Tp
namespace Go.Proofs.YtenkjmjejhhdjaaGreat
open Go Go.Tp
theorem DK: ∀{l:List PR},(∀x,x∈l->(dW x).length<=17*oD x)->(aI l).length<=17*kR l
 | [],_=>by rw [aI,kR];exact ab3 _ |p::r,h=>by have h1:=h p (.head _);have h2:=DK (l:=r) fun x hx=>h x (.tail _ hx);rw [aI,kR,aa1];omega
theorem KY: ∀{l:List GD},(∀g,g∈l-> ∀x,x∈g.body->(dW x).length<=17*oD x)->(aZ l).length<=l.length+17*gG l
 | [],_=>by rw [aZ,gG];exact ab3 _ |⟨k,cd,c,it,to,tm,b⟩::r,h=>by
  have h1:=DK (l:=b) (h _ (.head _));have h2:=KY (l:=r) fun x hx=>h x (.tail _ hx);rw [aZ,gG,szG];simp only [aa1,ab7];split
  ·simp only [ab7,af5];omega
  ·simp only [af5];omega
theorem yV{V:List KV}{C:List Int}: ∀(m:Nat) (p:PR),SizeOf.sizeOf p<=m->Un V C p->(dW p).length<=17*oD p
 |0,p,h,_=>by obtain ⟨k,c,v,i,to,e,gs,l⟩:=p;simp only [PR.mk.sizeOf_spec] at h;omega
 |m+1,p,hm,u=>by
  have h1:=DK (l:=p.l) fun x hx=>yV m x (by have:=mO hx;omega) (u.l x hx);have h2:=KY (l:=p.gs) fun g hg x hx=>yV m x (by have:=nX hg hx;omega) (u.g g hg x hx);have h3:=u.loc.lens.2.2.1;obtain ⟨k,c,v,i,to,e,gs,l⟩:=p;rw [dW,oD];have h1:(aI l).length<=17*kR l:=h1;have h2:(aZ gs).length<=gs.length+17*gG gs:=h2;have h3:gs.length<=16:=h3;simp only [aa1];split
  ·simp only [ab7,af5];omega
  ·simp only [af5];omega
theorem QE{V:List KV}{C:List Int}{p:PR}(u:Un V C p):(dW p).length<=17*oD p:=yV _ p (ab3 _) u
def eB(k:KN)(t:TR)(f:Int):Int:=if lU k=false\/dZ k.root=false\/f<0\/1024<f then 2 else if 256<t.length then 3 else 0
abbrev mP(k:KN)(t:TR)(f:Int):RN:=cG f.toNat [0,1] t (kH k.vars) k.root
def TW(k:KN)(t:TR)(f:Int):RN:=if eB k t f=0 then mP k t f else a7
structure XOk(k:KN)(t:TR)(f:Int):Prop where
 may:lU k=true
 unt:dZ k.root=true
 f0:0<=f
 f1:f<=1024
 len:t.length<=256
theorem tA{k:KN}{t:TR}{f:Int}(h:eB k t f=0):XOk k t f:=by
 unfold eB at h;split at h
 ·omega
 ·rename_i h1;split at h
  ·omega
  ·rename_i h2;simp only [not_or,Bool.not_eq_false,Int.not_lt] at h1;exact ⟨h1.1,h1.2.1,h1.2.2.1,h1.2.2.2,by omega⟩
theorem RR{k:KN}{t:TR}{f:Int}(h:XOk k t f):eB k t f=0:=by unfold eB;rw [iF (by rintro (h1|h1|h1|h1);rw [h.may] at h1;cases h1;rw [h.unt] at h1;cases h1;exact absurd h.f0 (by omega);exact absurd h.f1 (by omega)),iF (by have:=h.len;omega)]
theorem tM{k:KN}(hk:EX k)(hm:lU k=true)(hu:dZ k.root=true):Un k.vars k.chans k.root:=⟨_,_,lu_of hu (vK hm hk.wf hk.root)⟩
theorem stX{k:KN}(hm:lU k=true):bI k.vars (kH k.vars):=by rw [TM hm];exact YM (C2 hm)
theorem runX_p(k:KN)(hk:EX k)(t:TR)(ht:l6 t)(f:Int)(h:XOk k t f)(hw:bF k.root f.toNat<=2000):Pure Tryz.prog aU 25 [fS t [0,1] f.toNat,aE k.root,aF (kH k.vars)] (oI (mP k t f)):=by have hu:=tM hk h.may h.unt;have hsz:=(wP h.may).2.1;have hr:=QE hu;have:=h.f1;exact QH f.toNat (by omega) k.root hu hw [0,1] t _ (by show 2+_<=_;omega) ht h.len (stX h.may)
theorem tof_p(k:KN)(hk:EX k)(t:TR)(ht:l6 t)(f:Int)(hw:eB k t f=0->bF k.root f.toNat<=2000):Pure Tryz.prog aU 15 [eU k,lI t,AI f] (.tp [oI (TW k t f),AI (eB k t f)]):=by
 have h1:=kmay_p k hk.wf;have nt:=iS t;refine eX (eB k t f) fun R hR=>?_;refine eX (TW k t f) fun O hO=>?_;rw [<-hR,<-hO]
 by_cases hm:lU k=true
 case neg=>
  have hm:lU k=false:=by simpa using hm
  have e:eB k t f=2:=by unfold eB;rw [iT (.inl hm)]
  unfold TW at hO;rw [e] at hR hO;rw [iF (by decide)] at hO;rw [hm] at h1;refine P_ Tryz.func15 39 fun _ _ _ _=>?_;refine b_ fun b3=>?_;refine A.b T fun b6=>?_;refine y_ ?_;refine c_ h1 ?_;refine m_ (jM.cell T T T (jM.tmp T jM.nil)) ?_;rw [hR,hO];exact s_
 have h2:=tunt_p hk hm;rw [hm] at h1
 by_cases hu:dZ k.root=true
 case neg=>
  have hu:dZ k.root=false:=by simpa using hu
  have e:eB k t f=2:=by unfold eB;rw [iT (.inr (.inl hu))]
  unfold TW at hO;rw [e] at hR hO;rw [iF (by decide)] at hO;rw [hu] at h2;refine P_ Tryz.func15 39 fun _ _ _ _=>?_;refine b_ fun b3=>?_;refine A.b T fun b6=>?_;refine y_ ?_;refine c_ h1 ?_;refine c_ h2 ?_;refine m_ (jM.cell T T T (jM.tmp T jM.nil)) ?_;rw [hR,hO];exact s_
 rw [hu] at h2
 by_cases c1:f<0
 ·have e:eB k t f=2:=by unfold eB;rw [iT (.inr (.inr (.inl c1)))]
  unfold TW at hO;rw [e] at hR hO;rw [iF (by decide)] at hO;refine P_ Tryz.func15 39 fun _ _ _ _=>?_;refine b_ fun b3=>?_;refine A.b T fun b6=>?_;refine y_ ?_;refine c_ h1 ?_;refine c_ h2 ?_;refine T_ T (by show decide (f<0)=true;rw [dT];exact c1) ?_;refine m_ (jM.cell T T T (jM.tmp T jM.nil)) ?_;rw [hR,hO];exact s_
 by_cases c2:1024<f
 ·have e:eB k t f=2:=by unfold eB;rw [iT (.inr (.inr (.inr c2)))]
  unfold TW at hO;rw [e] at hR hO;rw [iF (by decide)] at hO;refine P_ Tryz.func15 39 fun _ _ _ _=>?_;refine b_ fun b3=>?_;refine A.b T fun b6=>?_;refine y_ ?_;refine c_ h1 ?_;refine c_ h2 ?_;refine F_ T (by show decide (f<0)=false;rw [dF];exact c1) ?_;refine T_ T (by show (bif false then true else decide (1024<f))=true;rw [decide_eq_true c2];rfl) ?_;refine m_ (jM.cell T T T (jM.tmp T jM.nil)) ?_;rw [hR,hO];exact s_
 have hno: ¬(lU k=false\/dZ k.root=false\/f<0\/1024<f):=by
  rintro (h|h|h|h)
  ·rw [hm] at h;cases h
  ·rw [hu] at h;cases h
  ·exact c1 h
  ·exact c2 h
 by_cases c3:256<t.length
 ·have e:eB k t f=3:=by unfold eB;rw [iF hno,iT c3]
  unfold TW at hO;rw [e] at hR hO;rw [iF (by decide)] at hO;refine P_ Tryz.func15 39 fun _ _ _ _=>?_;refine b_ fun b3=>?_;refine A.b T fun b6=>?_;refine y_ ?_;refine c_ h1 ?_;refine c_ h2 ?_;refine F_ T (by show decide (f<0)=false;rw [dF];exact c1) ?_;refine F_ T (by show (bif false then true else decide (1024<f))=false;rw [decide_eq_false c2];rfl) ?_;refine T_ T (by show decide ((256:Int)<((t.map jK).length:Int))=true;rw [nt,dT];omega) ?_;refine m_ (jM.cell T T T (jM.tmp T jM.nil)) ?_;rw [hR,hO];exact s_
 have hx:XOk k t f:=⟨hm,hu,by omega,by omega,by omega⟩;have e:=RR hx;have hrun:=runX_p k hk t ht f hx (hw e);have hst:=TN k.vars k.chans k.root k.procs hk.wf.vars;rw [show ((⟨k.vars,k.chans,k.root,k.procs⟩:KN))=k from rfl] at hst;unfold TW at hO;rw [iT e] at hO;rw [e] at hR;have hfn:((f.toNat:Nat):Int)=f:=by omega
 rw [show fS t [0,1] f.toNat= .ag [lI t,aQ [0,1],AI f] by show AV.ag [_,_,AI _]=_;rw [hfn]] at hrun;refine P_ Tryz.func15 39 fun _ _ _ _=>?_;refine b_ fun b3=>?_;refine A.b T fun b6=>?_;refine y_ ?_;refine c_ h1 ?_;refine c_ h2 ?_;refine F_ T (by show decide (f<0)=false;rw [dF];exact c1) ?_;refine F_ T (by show (bif false then true else decide (1024<f))=false;rw [decide_eq_false c2];rfl) ?_;refine F_ T (by show decide ((256:Int)<((t.map jK).length:Int))=false;rw [nt,dF];omega) ?_;refine A.draw 9 [0,1,2,3,4,5,6,7,8] (fun i=>if i=8 then [1] else []) [(7,aF (kH k.vars)),(8,oI (mP k t f))] (by kernel_rfl) (by kernel_rfl) ?_;refine w_ ?_;refine WA.lit T T T T T T T fun bw=>?_;refine w_ ?_;refine rL hst ?_;refine WA.jg T T T T T T T T T T T hrun (.ag (.cons (.sub .refl) (.cons (.pub (j:=1) T T (.sub .refl)) (.sub .refl))) (.sub .refl)) ?_;refine z_ ?_;refine m_ (jM.cell T T T (jM.tmp T jM.nil)) ?_;rw [hR,hO];exact s_
def AO(k:KN)(t:TR)(f:Int):Bool:=eB k t f==0&&(mP k t f).reach==t.length
def AN(k:KN)(t:TR)(f:Int):Int:=if eB k t f=0 then (if (mP k t f).reach≠t.length/\(mP k t f).miss=true then 190 else 0) else eB k t f
theorem IH(k:KN)(hk:EX k)(t:TR)(ht:l6 t)(f:Int)(hw:eB k t f=0->bF k.root f.toNat<=2000):Pure Tryz.prog aU 6 [eU k,lI t,AI f] (.tp [AB (AO k t f),AI (AN k t f)]):=by
 have h1:=tof_p k hk t ht f hw;have nt:=iS t
 by_cases he:eB k t f=0
 case neg=>
  have e1:AO k t f=false:=by unfold AO;rw [beq_eq_false_iff_ne.2 he,af3]
  have e2:AN k t f=eB k t f:=by unfold AN;rw [iF he]
  rw [e1,e2];refine P_ Tryz.func6 30 fun _ _ _ _=>?_;refine b_ fun b3=>?_;refine y_ ?_;refine n_ h1 ?_
  (refine b_ fun bx=>?_;refine y_ ?_)
  refine T_ T (by show (eB k t f !=0)=true;exact bne_iff_ne.2 he) ?_;refine q_ ?_;exact .refl
 have hO:TW k t f=mP k t f:=by unfold TW;rw [iT he]
 rw [he,hO] at h1;unfold AO AN;rw [he,iT T];refine eX (mP k t f) fun q hq=>?_;rw [<-hq] at h1⊢;rw [show ((0:Int)==0)=true from rfl,ac2]
 by_cases hr:q.reach=t.length
 ·rw [beq_iff_eq.2 hr,iF (fun h=>h.1 hr)];refine P_ Tryz.func6 30 fun _ _ _ _=>?_;refine b_ fun b3=>?_;refine y_ ?_;refine n_ h1 ?_
  (refine b_ fun bx=>?_;refine y_ ?_)
  refine T_ T (by show ((q.reach:Int)==((t.map jK).length:Int))=true;rw [nt,hr];exact beq_self_eq_true _) ?_;refine q_ ?_;exact .refl
 rw [beq_eq_false_iff_ne.2 hr];cases hmi:q.miss with
 |true=>
  rw [iT ⟨hr,rfl⟩];refine P_ Tryz.func6 30 fun _ _ _ _=>?_;refine b_ fun b3=>?_;refine y_ ?_;refine n_ h1 ?_
  (refine b_ fun bx=>?_;refine y_ ?_)
  refine F_ T (by show ((q.reach:Int)==((t.map jK).length:Int))=false;rw [nt,beq_eq_false_iff_ne];omega) ?_;refine T_ T hmi ?_;refine q_ ?_;exact .refl
 |false=>
  rw [iF (fun h=>by cases h.2)];refine P_ Tryz.func6 30 fun _ _ _ _=>?_;refine b_ fun b3=>?_;refine y_ ?_;refine n_ h1 ?_
  (refine b_ fun bx=>?_;refine y_ ?_)
  refine F_ T (by show ((q.reach:Int)==((t.map jK).length:Int))=false;rw [nt,beq_eq_false_iff_ne];omega) ?_;refine F_ T hmi ?_;refine q_ ?_;exact .refl
section
variable{V:List KV}{C:List Int}
theorem runt_f(p:PR)(hs:sS p)(hbd: ∀g,g∈p.gs-> ∃y,g.body=[y])(hl: ∀x,x∈p.l->Pure Tryz.prog aU 35 [aE x] (AB (dZ x)))(hg: ∀g,g∈p.gs-> ∀x,x∈g.body->Pure Tryz.prog aU 35 [aE x] (AB (dZ x))):
 Pure Tryz.prog aU 35 [aE p] (AB (dZ p)):=by
 have hsa:=lF hs;have hll:=hsa.ll;have hgl:=hsa.gl;have n1:((aS p.l).length:Int)=p.l.length:=by rw [bP]
 have n2:((cA p.gs).length:Int)=p.gs.length:=by rw [cL]
 by_cases h7:p.kind=7
 ·have hu:dZ p=false:=by
   cases hp:dZ p with
   |false=>rfl |true=>exact absurd h7 (nH.1 hp).1.k7
  rw [hu];refine P_ Tryz.func35 53 fun _ _ _ _=>?_
  (refine b_ fun bx=>?_;refine y_ ?_)
  refine e_ 8 T (x':=AB true) (aA (by rw [h7];rfl)) ?_;exact r_
 by_cases h8:p.kind=8
 ·have hu:dZ p=false:=by
   cases hp:dZ p with
   |false=>rfl |true=>exact absurd h8 (nH.1 hp).1.k8
  rw [hu];refine P_ Tryz.func35 53 fun _ _ _ _=>?_
  (refine b_ fun bx=>?_;refine y_ ?_)
  refine e_ 8 T (x':=AB false) (aA (by rw [h8];rfl)) ?_;refine T_ T (by rw [h8];rfl) ?_;exact r_
 refine eX (dZ p) fun R hR=>?_;rw [<-hR];refine P_ Tryz.func35 53 fun _ _ _ _=>?_
 (refine b_ fun bx=>?_;refine y_ ?_)
 refine e_ 8 T (x':=AB false) (aA (beq_eq_false_iff_ne.2 h7)) ?_;refine F_ T (beq_eq_false_iff_ne.2 h8) ?_;refine A.freeze 1 (sz:=8) T T T ?_;refine A.af [1,3] T ?_;refine l_ (Λ':=[]) ?_;refine A.ae (ι:=Nat) (fun i=>(⟨[(1, .pe 8 (aE p)),(3,AI (i:Nat))],[]⟩,[])) (fun i=>i<=p.l.length/\ ∀x,x∈p.l.take i->dZ x=true) (fun i=>p.l.length-i) 0 ⟨aa4 _,fun x h=>by rw [ad1] at h;cases h⟩ T fun i hi ih=>?_;obtain ⟨hi1,hi2⟩:=hi;refine y_ ?_
 by_cases hci:i<p.l.length
 ·refine aX hci fun x hx=>?_;have hxm:=aa2 hx;have hcall:=hl x hxm;have htk:p.l.take (i+1)=p.l.take i++[x]:=by rw [ac9,hx];rfl
  refine T_ T (by show decide ((i:Int)<((aS p.l).length:Int))=true;rw [n1,dT];omega) ?_;refine i_ T (aV hx) (bC x) ?_;refine c_ hcall ?_;refine k_ (fun hc=>?_) fun hc=>?_
  ·have hx0:dZ x=false:=by simpa using hc
   refine y_ ?_;refine R_ ?_;rw [hR,LK hxm hx0];exact .refl
  ·have hx1:dZ x=true:=by simpa using hc
   clear hc;refine y_ ?_;refine vI 3 i ?_;refine u_ (ih (i+1) ⟨by omega,fun y hy=>?_⟩ (by omega));rw [htk,ad8] at hy;rcases hy with hy|hy
   ·exact hi2 y hy
   ·rw [ab0.1 hy];exact hx1
 refine A.gF T (by show decide ((i:Int)<((aS p.l).length:Int))=false;rw [n1,dF];omega) ?_;clear ih;have hil:i=p.l.length:=by omega
 rw [hil,ac4] at hi2;refine y_ ?_;refine A.af [1,4] T ?_;refine A.ae (ι:=Nat) (fun j=>(⟨[(1, .pe 8 (aE p)),(4,AI (j:Nat))],[]⟩,[])) (fun j=>j<=p.gs.length/\ ∀g,g∈p.gs.take j->g.kind≠4/\ ∃y,g.body=[y]/\dZ y=true) (fun j=>p.gs.length-j) 0 ⟨aa4 _,fun x h=>by rw [ad1] at h;cases h⟩ T fun j hj jh=>?_;obtain ⟨hj1,hj2⟩:=hj;refine y_ ?_
 by_cases hcj:j<p.gs.length
 ·refine aX hcj fun g hgj=>?_;have hgm:=aa2 hgj;have htk:p.gs.take (j+1)=p.gs.take j++[g]:=by rw [ac9,hgj];rfl
  refine ab4 (hbd g hgm) fun y hy=>?_;have hcall:=hg g hgm y (by rw [hy];exact .head _);have hat:(aS g.body)[(0:Int).toNat]? =some (pC y):=aV (by rw [hy];rfl);refine T_ T (by show decide ((j:Int)<((cA p.gs).length:Int))=true;rw [n2,dT];omega) ?_;refine i_ T (bZ hgj) (cK g) ?_
  by_cases h4:g.kind=4
  ·refine e_ 41 T (x':=AB true) (aA (by rw [h4];rfl)) ?_;refine R_ ?_;rw [hR,LJ hgm h4];exact .refl
  ·refine e_ 41 T (x':=AB false) (aA (beq_eq_false_iff_ne.2 h4)) ?_;refine i_ T (bZ hgj) (cK g) ?_;refine i_ T hat (bC y) ?_;refine c_ hcall ?_;refine k_ (fun hc=>?_) fun hc=>?_
   ·have hx0:dZ y=false:=by simpa using hc
    refine y_ ?_;refine R_ ?_;rw [hR,LI hgm hy hx0];exact .refl
   ·have hx1:dZ y=true:=by simpa using hc
    clear hc;refine y_ ?_;refine vI 4 j ?_;refine u_ (jh (j+1) ⟨by omega,fun g' hg'=>?_⟩ (by omega));rw [htk,ad8] at hg';rcases hg' with hg'|hg'
    ·exact hj2 g' hg'
    ·rw [ab0.1 hg'];exact ⟨h4,y,hy,hx1⟩
 refine A.gF T (by show decide ((j:Int)<((cA p.gs).length:Int))=false;rw [n2,dF];omega) ?_;clear jh;have hjl:j=p.gs.length:=by omega
 rw [hjl,ac4] at hj2;refine y_ ?_;refine R_ ?_;rw [hR,QW h7 h8 hi2 hj2];exact .refl
theorem NW: ∀(m:Nat) (p:PR) (n hi:Bool),SizeOf.sizeOf p<=m->okF (Loc V C) n hi p->Pure Tryz.prog aU 35 [aE p] (AB (dZ p))
 |0,p,_,_,h,_=>by obtain ⟨k,c,v,i,to,e,gs,l⟩:=p;simp only [PR.mk.sizeOf_spec] at h;omega
 |m+1,p,n,hi,hm,w=>by
  have hs:=(NA w).2.1;rw [okF_eq] at w;obtain ⟨⟨w1,w2,w3⟩,w4,w5⟩:=w;refine runt_f p hs w1.body (fun x hx=>?_) (fun g hg x hx=>?_)
  ·obtain ⟨n',h',hw⟩:=kN w4 hx;exact NW m x n' h' (by have:=DG hx;omega) hw
  ·have:=nZ w5 g hg;rw [qT] at this;obtain ⟨n',h',hw⟩:=kN this hx;exact NW m x n' h' (by have:=CG hg;have:=BV hx;omega) hw
end
theorem a0Q(k:KN)(hk:EX k):Pure Tryz.prog aU 22 [eU k] (AB (lU k&&dZ k.root)):=by
 have h1:=X2 k hk.wf
 by_cases hm:lU k=true
 case neg=>
  have hm:lU k=false:=by simpa using hm
  rw [hm] at h1⊢;refine P_ Tryz.func22 10 fun _ _ _ _=>?_
  (refine b_ fun bx=>?_;refine y_ ?_)
  exact oR h1
 have h2:=NW (V:=k.vars) (C:=k.chans) _ k.root true false (ab3 _) (vK hm hk.wf hk.root);rw [hm] at h1⊢;refine P_ Tryz.func22 10 fun _ _ _ _=>?_
 (refine b_ fun bx=>?_;refine y_ ?_)
 refine c_ h1 ?_;exact oR h2
theorem HB(k:KN)(hk:EX k)(t:TR)(f:Int):Pure Tryz.prog aU 11 [eU k,lI t,AI f] (AI (eB k t f)):=by
 have h1:=a0Q k hk;have nt:=iS t
 by_cases hm:(lU k&&dZ k.root)=true
 case neg=>
  have hm:(lU k&&dZ k.root)=false:=by simpa using hm
  have e:eB k t f=2:=by
   unfold eB;rw [iT];rcases Bool.and_eq_false_iff.1 hm with h|h
   ·exact .inl h
   ·exact .inr (.inl h)
  rw [e];rw [hm] at h1;refine P_ Tryz.func11 21 fun _ _ _ _=>?_
  (refine b_ fun bx=>?_;refine y_ ?_)
  exact oR h1
 have hm2:=Bool.and_eq_true_iff.1 hm;rw [hm] at h1
 by_cases c1:f<0
 ·have e:eB k t f=2:=by unfold eB;rw [iT (.inr (.inr (.inl c1)))]
  rw [e];refine P_ Tryz.func11 21 fun _ _ _ _=>?_
  (refine b_ fun bx=>?_;refine y_ ?_)
  refine c_ h1 ?_;refine T_ T (by show decide (f<0)=true;rw [dT];exact c1) ?_;exact r_
 by_cases c2:1024<f
 ·have e:eB k t f=2:=by unfold eB;rw [iT (.inr (.inr (.inr c2)))]
  rw [e];refine P_ Tryz.func11 21 fun _ _ _ _=>?_
  (refine b_ fun bx=>?_;refine y_ ?_)
  refine c_ h1 ?_;refine F_ T (by show decide (f<0)=false;rw [dF];exact c1) ?_;refine T_ T (by show (bif false then true else decide (1024<f))=true;rw [decide_eq_true c2];rfl) ?_;exact r_
 have hno: ¬(lU k=false\/dZ k.root=false\/f<0\/1024<f):=by
  rintro (h|h|h|h)
  ·rw [hm2.1] at h;cases h
  ·rw [hm2.2] at h;cases h
  ·exact c1 h
  ·exact c2 h
 by_cases c3:256<t.length
 ·have e:eB k t f=3:=by unfold eB;rw [iF hno,iT c3]
  rw [e];refine P_ Tryz.func11 21 fun _ _ _ _=>?_
  (refine b_ fun bx=>?_;refine y_ ?_)
  refine c_ h1 ?_;refine F_ T (by show decide (f<0)=false;rw [dF];exact c1) ?_;refine F_ T (by show (bif false then true else decide (1024<f))=false;rw [decide_eq_false c2];rfl) ?_;refine T_ T (by show decide ((256:Int)<((t.map jK).length:Int))=true;rw [nt,dT];omega) ?_;exact r_
 ·have e:eB k t f=0:=by unfold eB;rw [iF hno,iF c3]
  rw [e];refine P_ Tryz.func11 21 fun _ _ _ _=>?_
  (refine b_ fun bx=>?_;refine y_ ?_)
  refine c_ h1 ?_;refine F_ T (by show decide (f<0)=false;rw [dF];exact c1) ?_;refine F_ T (by show (bif false then true else decide (1024<f))=false;rw [decide_eq_false c2];rfl) ?_;refine F_ T (by show decide ((256:Int)<((t.map jK).length:Int))=false;rw [nt,dF];omega) ?_;exact r_
theorem rof_p(k:KN)(hk:EX k)(t:TR)(ht:l6 t)(f:Int)(h:XOk k t f)(hw:bF k.root f.toNat<=2000):Pure Tryz.prog aU 16 [eU k,lI t,AI f] (eK (mP k t f)):=by have hst:=SX k.vars k.chans k.root k.procs hk.wf.vars;rw [show ((⟨k.vars,k.chans,k.root,k.procs⟩:KN))=k from rfl] at hst;have hu:=tM hk h.may h.unt;have hsz:=(wP h.may).2.1;have hr:=QE hu;have hf1:=h.f1;have hf0:=h.f0;have hrun:=K5 f.toNat (by omega) k.root hu hw [0,1] t _ (by show 2+_<=_;omega) ht h.len (stX h.may);rw [show ((f.toNat:Nat):Int)=f by omega] at hrun;have hrun:Pure Tryz.prog aU 27 [aE k.root,aF (kH k.vars),lI t,aQ [0,1],AI f] (eK (mP k t f)):=hrun;refine eX (mP k t f) fun q hq=>?_;rw [<-hq] at hrun⊢;refine P_ Tryz.func16 15 fun _ _ _ _=>?_;refine b_ fun b3=>?_;refine A.b T fun b6=>?_;(repeat refine A.s T ?_);refine A.draw 8 [0,1,2,4,5,6,3,7] (fun i=>if i=7 then [5] else []) [(3,aF (kH k.vars)),(7,eK q)] (by kernel_rfl) (by kernel_rfl) ?_;refine w_ ?_;refine WA.lit T T T T T T T fun bw=>?_;refine w_ ?_;refine rL hst ?_;refine WA.c T T hrun (.cons (.sub .refl) (.cons (.sub .refl) (.cons (.sub .refl) (.cons (.pub (j:=5) T T (.sub .refl)) (.sub .refl))))) ?_;refine z_ ?_;refine C_ ?_;exact s_
theorem rhas_p(k:KN)(hk:EX k)(t:TR)(ht:l6 t)(f:Int)(hw:eB k t f=0->bF k.root f.toNat<=2000):Pure Tryz.prog aU 7 [eU k,lI t,AI f] (.tp [AB (AO k t f),AI (AN k t f)]):=by
 have h1:=HB k hk t f;have nt:=iS t
 by_cases he:eB k t f=0
 case neg=>
  have e1:AO k t f=false:=by unfold AO;rw [beq_eq_false_iff_ne.2 he,af3]
  have e2:AN k t f=eB k t f:=by unfold AN;rw [iF he]
  rw [e1,e2];refine P_ Tryz.func7 28 fun _ _ _ _=>?_;refine b_ fun b3=>?_;refine y_ ?_;refine c_ h1 ?_;refine T_ T (by show (eB k t f !=0)=true;exact bne_iff_ne.2 he) ?_;refine q_ ?_;exact .refl
 have h2:=rof_p k hk t ht f (tA he) (hw he);rw [he] at h1;unfold AO AN;rw [he,iT T];refine eX (mP k t f) fun q hq=>?_;rw [<-hq] at h2⊢;rw [show ((0:Int)==0)=true from rfl,ac2]
 by_cases hr:q.reach=t.length
 ·rw [beq_iff_eq.2 hr,iF (fun h=>h.1 hr)];refine P_ Tryz.func7 28 fun _ _ _ _=>?_;refine b_ fun b3=>?_;refine y_ ?_;refine c_ h1 ?_;refine n_ h2 ?_;refine A.b T fun b9=>?_;refine y_ ?_;refine T_ T (by show ((q.reach:Int)==((t.map jK).length:Int))=true;rw [nt,hr];exact beq_self_eq_true _) ?_;refine q_ ?_;exact .refl
 rw [beq_eq_false_iff_ne.2 hr];cases hmi:q.miss with
 |true=>
  rw [iT ⟨hr,rfl⟩];refine P_ Tryz.func7 28 fun _ _ _ _=>?_;refine b_ fun b3=>?_;refine y_ ?_;refine c_ h1 ?_;refine n_ h2 ?_;refine A.b T fun b9=>?_;refine y_ ?_;refine F_ T (by show ((q.reach:Int)==((t.map jK).length:Int))=false;rw [nt,beq_eq_false_iff_ne];omega) ?_;refine T_ T hmi ?_;refine q_ ?_;exact .refl
 |false=>
  rw [iF (fun h=>by cases h.2)];refine P_ Tryz.func7 28 fun _ _ _ _=>?_;refine b_ fun b3=>?_;refine y_ ?_;refine c_ h1 ?_;refine n_ h2 ?_;refine A.b T fun b9=>?_;refine y_ ?_;refine F_ T (by show ((q.reach:Int)==((t.map jK).length:Int))=false;rw [nt,beq_eq_false_iff_ne];omega) ?_;refine F_ T hmi ?_;refine q_ ?_;exact .refl
def cQ(n:Nat):Nat:=min n 1000000
theorem iO(n:Nat):cQ n<=1000000:=Nat.min_le_right ..
theorem vV{a b:Nat}(ha:1<=a)(hb:1<=b):min (cQ a*cQ b) 1000000=cQ (a*b):=by
 unfold cQ
 by_cases h1:a<=1000000
 ·by_cases h2:b<=1000000
  ·rw [ah6 h1,ah6 h2]
  ·have h3:1000000<=a*b:=ae9 (by omega) (ao6 b ha);rw [ah6 h1,am4 (by omega:1000000<=b),am4 h3,am4 (ao6 _ ha)]
 ·have h3:1000000<=a*b:=ae9 (by omega) (ah9 a hb);have h4:1<=min b 1000000:=by omega
  rw [am4 (by omega:1000000<=a),am4 h3,am4 (ah9 _ h4)]
theorem B0(a b:Nat):min (cQ a+cQ b) 1000000=cQ (a+b):=by unfold cQ;omega
theorem RG{a b:Nat}(ha:1<=a)(hb:1<=b):min (1+cQ a*cQ b) 1000000=cQ (1+a*b):=by have h:=vV ha hb;unfold cQ at h⊢;omega
theorem MI{n:Nat}(h:cQ n<=2000):cQ n=n:=by unfold cQ at*;omega
theorem zD(a:List PR)(x:PR)(f:Nat):cW (a++[x]) f=cW a f*bF x f:=by
 induction a with
 |nil=>rw [ag2,cW,cW,cW];omega |cons y r ih=>rw [ad4,cW,cW,ih,Nat.mul_assoc]
theorem vO(y:PR)(f:Nat):gW [y] f=bF y f:=by rw [gW,gW];omega
theorem vN(a:List GD)(g:GD)(f:Nat):dO (a++[g]) f=dO a f+gW g.body f:=by
 induction a with
 |nil=>obtain ⟨k,cd,c,it,to,tm,b⟩:=g;rw [ag2,dO,dO,dO];show _=0+gW b f;omega
 |cons y r ih=>obtain ⟨k,cd,c,it,to,tm,b⟩:=y;rw [ad4,dO,dO,ih,al5]
theorem GQ{α:Type}{l:List α}{i:Nat}{x:α}(h:l[i]? =some x):l.take (i+1)=l.take i++[x]:=by rw [ac9,h];rfl
abbrev I2(p:PR):Prop:= ∀f:Nat,f<=1048576->Pure Tryz.prog aU 13 [aE p,AI (f:Nat)] (AI (cQ (bF p f):Nat))
theorem M7(a b:Nat):(if ((b:Nat):Int)<((a:Nat):Int) then ((b:Nat):Int) else ((a:Nat):Int))=((min a b:Nat):Int):=by split<;>omega
theorem ways_f{V:List KV}{C:List Int}(p:PR)(u:Un V C p)(hl: ∀x,x∈p.l->I2 x)(hg: ∀g,g∈p.gs-> ∀x,x∈g.body->I2 x):I2 p:=by
 intro f hf;have hsa:=lF u.sm;have hll:=hsa.ll;have hgl:=hsa.gl;have n1:((aS p.l).length:Int)=p.l.length:=by rw [bP]
 have n2:((cA p.gs).length:Int)=p.gs.length:=by rw [cL]
 rcases HL u with hk|hk|hk|hk|hk|hk|hk|hk|hk|hk|hk|hk|hk|hk
 ·have hR:bF p f=1:=by
   obtain ⟨k,c,v,it,to,e,gs,l⟩:=p;have hk:k=1:=hk;rw [gL,iF (by omega),iF (by omega),iF (by omega)]
  rw [hR];refine P_ Tryz.func13 93 fun _ _ _ _=>?_
  (refine b_ fun bx=>?_;refine y_ ?_)
  refine A.aa 11 T (x':=cC 1) (by rw [hk]) ?_;refine F_ T (by rw [hk];rfl) ?_;exact r_
 ·have hR:bF p f=1:=by
   obtain ⟨k,c,v,it,to,e,gs,l⟩:=p;have hk:k=2:=hk;rw [gL,iF (by omega),iF (by omega),iF (by omega)]
  rw [hR];refine P_ Tryz.func13 93 fun _ _ _ _=>?_
  (refine b_ fun bx=>?_;refine y_ ?_)
  refine A.aa 11 T (x':=cC 2) (by rw [hk]) ?_;refine F_ T (by rw [hk];rfl) ?_;exact r_
 ·have hR:bF p f=1:=by
   obtain ⟨k,c,v,it,to,e,gs,l⟩:=p;have hk:k=3:=hk;rw [gL,iF (by omega),iF (by omega),iF (by omega)]
  rw [hR];refine P_ Tryz.func13 93 fun _ _ _ _=>?_
  (refine b_ fun bx=>?_;refine y_ ?_)
  refine A.aa 11 T (x':=cC 3) (by rw [hk]) ?_;refine F_ T (by rw [hk];rfl) ?_;exact r_
 ·have hR:bF p f=1:=by
   obtain ⟨k,c,v,it,to,e,gs,l⟩:=p;have hk:k=4:=hk;rw [gL,iF (by omega),iF (by omega),iF (by omega)]
  rw [hR];refine P_ Tryz.func13 93 fun _ _ _ _=>?_
  (refine b_ fun bx=>?_;refine y_ ?_)
  refine A.aa 11 T (x':=cC 4) (by rw [hk]) ?_;refine F_ T (by rw [hk];rfl) ?_;exact r_
 ·have hR:bF p f=1:=by
   obtain ⟨k,c,v,it,to,e,gs,l⟩:=p;have hk:k=5:=hk;rw [gL,iF (by omega),iF (by omega),iF (by omega)]
  rw [hR];refine P_ Tryz.func13 93 fun _ _ _ _=>?_
  (refine b_ fun bx=>?_;refine y_ ?_)
  refine A.aa 11 T (x':=cC 5) (by rw [hk]) ?_;refine F_ T (by rw [hk];rfl) ?_;exact r_
 ·have hR:bF p f=1:=by
   obtain ⟨k,c,v,it,to,e,gs,l⟩:=p;have hk:k=6:=hk;rw [gL,iF (by omega),iF (by omega),iF (by omega)]
  rw [hR];refine P_ Tryz.func13 93 fun _ _ _ _=>?_
  (refine b_ fun bx=>?_;refine y_ ?_)
  refine A.aa 11 T (x':=cC 6) (by rw [hk]) ?_;refine F_ T (by rw [hk];rfl) ?_;exact r_
 ·refine eX (bF p f) fun R hR=>?_;rw [<-hR];rw [OA (.inl hk)] at hR;refine P_ Tryz.func13 93 fun _ _ _ _=>?_
  (refine b_ fun bx=>?_;refine y_ ?_)
  refine A.aa 11 T (x':=cC 9) (by rw [hk]) ?_;refine T_ T (by rw [hk];rfl) ?_;refine A.freeze 2 (sz:=8) T T T ?_;refine A.af [1,2,5,6] T ?_;refine l_ (Λ':=[]) ?_;refine A.ae (ι:=Nat) (fun i=>(⟨[(1,AI (f:Nat)),(2, .pe 8 (aE p)),(5,AI (cQ (cW (p.l.take i) f):Nat)),(6,AI (i:Nat))],[]⟩,[])) (fun i=>i<=p.l.length) (fun i=>p.l.length-i) 0 (aa4 _) T fun i hi ih=>?_;refine y_ ?_
  by_cases hci:i<p.l.length
  ·refine aX hci fun x hx=>?_;have hcall:=hl x (aa2 hx) f hf;have hm:=vV (sU (p.l.take i) f) (o5 x f);rw [<-zD,<-GQ hx] at hm;have c1:=iO (cW (p.l.take i) f);have c2:=iO (bF x f);have c3:cQ (cW (p.l.take i) f)*cQ (bF x f)<=1000000*1000000:=al2 c1 c2;refine T_ T (by show decide ((i:Int)<((aS p.l).length:Int))=true;rw [n1,dT];omega) ?_;refine i_ T (aV hx) (bC x) ?_;refine c_ hcall ?_;refine A.aa 5 T (x':=AI (cQ (cW (p.l.take (i+1)) f):Nat)) (by rw [<-hm,<-M7];show AI (if _<_ then _ else _)=_;rw [show IntKind.i64.wrap (((cQ (cW (p.l.take i) f):Nat):Int)*((cQ (bF x f):Nat):Int))=((cQ (cW (p.l.take i) f)*cQ (bF x f):Nat):Int) by rw [fR _ (by omega)];rfl];rfl) ?_;refine vI 6 i ?_;refine u_ (ih (i+1) (by omega) (by omega))
  refine A.gF T (by show decide ((i:Int)<((aS p.l).length:Int))=false;rw [n1,dF];omega) ?_;clear ih;have hil:i=p.l.length:=by omega
  refine e_ 5 T (x':=AI (cQ R:Nat)) (by rw [hR,hil,ac4]) ?_;exact r_
 ·refine eX (bF p f) fun R hR=>?_;rw [<-hR];rw [OA (.inr (.inl hk))] at hR;refine P_ Tryz.func13 93 fun _ _ _ _=>?_
  (refine b_ fun bx=>?_;refine y_ ?_)
  refine A.aa 11 T (x':=cC 10) (by rw [hk]) ?_;refine F_ T (by rw [hk];rfl) ?_;refine A.freeze 2 (sz:=8) T T T ?_;refine A.af [1,2,5,6] T ?_;refine l_ (Λ':=[]) ?_;refine A.ae (ι:=Nat) (fun i=>(⟨[(1,AI (f:Nat)),(2, .pe 8 (aE p)),(5,AI (cQ (cW (p.l.take i) f):Nat)),(6,AI (i:Nat))],[]⟩,[])) (fun i=>i<=p.l.length) (fun i=>p.l.length-i) 0 (aa4 _) T fun i hi ih=>?_;refine y_ ?_
  by_cases hci:i<p.l.length
  ·refine aX hci fun x hx=>?_;have hcall:=hl x (aa2 hx) f hf;have hm:=vV (sU (p.l.take i) f) (o5 x f);rw [<-zD,<-GQ hx] at hm;have c1:=iO (cW (p.l.take i) f);have c2:=iO (bF x f);have c3:cQ (cW (p.l.take i) f)*cQ (bF x f)<=1000000*1000000:=al2 c1 c2;refine T_ T (by show decide ((i:Int)<((aS p.l).length:Int))=true;rw [n1,dT];omega) ?_;refine i_ T (aV hx) (bC x) ?_;refine c_ hcall ?_;refine A.aa 5 T (x':=AI (cQ (cW (p.l.take (i+1)) f):Nat)) (by rw [<-hm,<-M7];show AI (if _<_ then _ else _)=_;rw [show IntKind.i64.wrap (((cQ (cW (p.l.take i) f):Nat):Int)*((cQ (bF x f):Nat):Int))=((cQ (cW (p.l.take i) f)*cQ (bF x f):Nat):Int) by rw [fR _ (by omega)];rfl];rfl) ?_;refine vI 6 i ?_;refine u_ (ih (i+1) (by omega) (by omega))
  refine A.gF T (by show decide ((i:Int)<((aS p.l).length:Int))=false;rw [n1,dF];omega) ?_;clear ih;have hil:i=p.l.length:=by omega
  refine e_ 5 T (x':=AI (cQ R:Nat)) (by rw [hR,hil,ac4]) ?_;exact r_
 ·refine eX (bF p f) fun R hR=>?_;rw [<-hR];rw [OA (.inr (.inr hk))] at hR;refine P_ Tryz.func13 93 fun _ _ _ _=>?_
  (refine b_ fun bx=>?_;refine y_ ?_)
  refine A.aa 11 T (x':=cC 11) (by rw [hk]) ?_;refine F_ T (by rw [hk];rfl) ?_;refine A.freeze 2 (sz:=8) T T T ?_;refine A.af [1,2,5,6] T ?_;refine l_ (Λ':=[]) ?_;refine A.ae (ι:=Nat) (fun i=>(⟨[(1,AI (f:Nat)),(2, .pe 8 (aE p)),(5,AI (cQ (cW (p.l.take i) f):Nat)),(6,AI (i:Nat))],[]⟩,[])) (fun i=>i<=p.l.length) (fun i=>p.l.length-i) 0 (aa4 _) T fun i hi ih=>?_;refine y_ ?_
  by_cases hci:i<p.l.length
  ·refine aX hci fun x hx=>?_;have hcall:=hl x (aa2 hx) f hf;have hm:=vV (sU (p.l.take i) f) (o5 x f);rw [<-zD,<-GQ hx] at hm;have c1:=iO (cW (p.l.take i) f);have c2:=iO (bF x f);have c3:cQ (cW (p.l.take i) f)*cQ (bF x f)<=1000000*1000000:=al2 c1 c2;refine T_ T (by show decide ((i:Int)<((aS p.l).length:Int))=true;rw [n1,dT];omega) ?_;refine i_ T (aV hx) (bC x) ?_;refine c_ hcall ?_;refine A.aa 5 T (x':=AI (cQ (cW (p.l.take (i+1)) f):Nat)) (by rw [<-hm,<-M7];show AI (if _<_ then _ else _)=_;rw [show IntKind.i64.wrap (((cQ (cW (p.l.take i) f):Nat):Int)*((cQ (bF x f):Nat):Int))=((cQ (cW (p.l.take i) f)*cQ (bF x f):Nat):Int) by rw [fR _ (by omega)];rfl];rfl) ?_;refine vI 6 i ?_;refine u_ (ih (i+1) (by omega) (by omega))
  refine A.gF T (by show decide ((i:Int)<((aS p.l).length:Int))=false;rw [n1,dF];omega) ?_;clear ih;have hil:i=p.l.length:=by omega
  refine e_ 5 T (x':=AI (cQ R:Nat)) (by rw [hR,hil,ac4]) ?_;exact r_
 ·refine eX (bF p f) fun R hR=>?_;rw [<-hR];rw [LP (.inl hk)] at hR;refine P_ Tryz.func13 93 fun _ _ _ _=>?_
  (refine b_ fun bx=>?_;refine y_ ?_)
  refine A.aa 11 T (x':=cC 12) (by rw [hk]) ?_;refine F_ T (by rw [hk];rfl) ?_;refine A.freeze 2 (sz:=8) T T T ?_;refine A.af [1,2,5,7] T ?_;refine l_ (Λ':=[]) ?_;refine A.ae (ι:=Nat) (fun i=>(⟨[(1,AI (f:Nat)),(2, .pe 8 (aE p)),(5,AI (cQ (1+dO (p.gs.take i) f):Nat)),(7,AI (i:Nat))],[]⟩,[])) (fun i=>i<=p.gs.length) (fun i=>p.gs.length-i) 0 (aa4 _) T fun i hi ih=>?_;refine y_ ?_
  by_cases hci:i<p.gs.length
  ·refine aX hci fun g hgi=>?_;have hgm:=aa2 hgi;obtain ⟨y,hy⟩:=u.loc.body g hgm;have hcall:=hg g hgm y (by rw [hy];exact .head _) f hf;have hat:(aS g.body)[(0:Int).toNat]? =some (pC y):=aV (by rw [hy];rfl);have n3:((aS g.body).length:Int)=1:=by rw [bP,hy];rfl
   have hm:=B0 (1+dO (p.gs.take i) f) (bF y f);have hsn:=vN (p.gs.take i) g f;rw [<-GQ hgi,hy,vO] at hsn;rw [al5,<-hsn] at hm;have c1:=iO (1+dO (p.gs.take i) f);have c2:=iO (bF y f);refine T_ T (by show decide ((i:Int)<((cA p.gs).length:Int))=true;rw [n2,dT];omega) ?_;refine A.ao ?_;refine y_ ?_;refine i_ T (bZ hgi) (cK g) ?_;refine T_ T (by show decide ((0:Int)<((aS g.body).length:Int))=true;rw [n3];rfl) ?_;refine i_ T (bZ hgi) (cK g) ?_;refine i_ T hat (bC y) ?_;refine c_ hcall ?_;refine A.aa 5 T (x':=AI (cQ (1+dO (p.gs.take (i+1)) f):Nat)) (by rw [<-hm,<-M7];show AI (if _<_ then _ else _)=_;rw [show IntKind.i64.wrap (((cQ (1+dO (p.gs.take i) f):Nat):Int)+((cQ (bF y f):Nat):Int))=((cQ (1+dO (p.gs.take i) f)+cQ (bF y f):Nat):Int) by rw [fR _ (by omega)];rfl];rfl) ?_;refine A.again ?_;refine y_ ?_;refine i_ T (bZ hgi) (cK g) ?_;refine F_ T (by show decide ((1:Int)<((aS g.body).length:Int))=false;rw [n3];rfl) ?_;refine vI 7 i ?_;refine u_ (ih (i+1) (by omega) (by omega))
  refine A.gF T (by show decide ((i:Int)<((cA p.gs).length:Int))=false;rw [n2,dF];omega) ?_;clear ih;have hil:i=p.gs.length:=by omega
  refine e_ 5 T (x':=AI (cQ R:Nat)) (by rw [hR,hil,ac4]) ?_;exact r_
 ·refine ab4 (show∃W:Nat->Nat,W=jO (fun f'=>IL p.l f') from ⟨_,rfl⟩) fun W hW=>?_;have hR:bF p f=W f:=by
   obtain ⟨k,c,v,it,to,e,gs,l⟩:=p;have hk:k=13:=hk;rw [hW,gL,iF (by omega),iF (by omega),iT hk]
  obtain ⟨xe,b,he,hlb,_⟩:=u.k13 hk;have hb:=hl b (by rw [hlb];exact .head _);have hat:(aS p.l)[(0:Int).toNat]? =some (pC b):=aV (by rw [hlb];rfl);have hWn: ∀i,W (i+1)=1+W i*bF b i:=fun i=>by rw [hW,jO,hlb];rfl
  have hW0:W 0=1:=by rw [hW];rfl
  have hWp: ∀i,1<=W i:=fun i=>by rw [hW];exact uJ i
  rw [hR];refine P_ Tryz.func13 93 fun _ _ _ _=>?_
  (refine b_ fun bx=>?_;refine y_ ?_)
  refine A.aa 11 T (x':=cC 13) (by rw [hk]) ?_;refine F_ T (by rw [hk];rfl) ?_;refine A.freeze 2 (sz:=8) T T T ?_;refine A.af [1,2,5,9] T ?_;refine l_ (Λ':=[]) ?_;refine A.ae (ι:=Nat) (fun i=>(⟨[(1,AI (f:Nat)),(2, .pe 8 (aE p)),(5,AI (cQ (W i):Nat)),(9,AI (i:Nat))],[]⟩,[])) (fun i=>i<=f) (fun i=>f-i) 0 (aa4 _) (by rw [hW0];rfl) fun i hi ih=>?_;refine y_ ?_
  by_cases hci:i<f
  ·have hcall:=hb i (by omega);have hm:=RG (hWp i) (o5 b i);rw [<-hWn] at hm;have c1:=iO (W i);have c2:=iO (bF b i);have c3:cQ (W i)*cQ (bF b i)<=1000000*1000000:=al2 c1 c2;refine T_ T (by show decide ((i:Int)<(f:Nat))=true;rw [dT];omega) ?_;refine e_ 79 T (x':=AB true) (aA (by show decide ((0:Int)<((aS p.l).length:Int))=true;rw [n1,hlb];rfl)) ?_;refine i_ T hat (bC b) ?_;refine c_ hcall ?_;refine A.aa 5 T (x':=AI (cQ (W (i+1)):Nat)) (by rw [<-hm,<-M7];show AI (if _<_ then _ else _)=_;rw [show IntKind.i64.wrap (((cQ (W i):Nat):Int)*((cQ (bF b i):Nat):Int))=((cQ (W i)*cQ (bF b i):Nat):Int) by rw [fR _ (by omega)];rfl,show IntKind.i64.wrap (1+((cQ (W i)*cQ (bF b i):Nat):Int))=((1+cQ (W i)*cQ (bF b i):Nat):Int) by rw [fR _ (by omega)];rfl];rfl) ?_;refine vI 9 i ?_;refine u_ (ih (i+1) (by omega) (by omega))
  ·refine A.gF T (by show decide ((i:Int)<(f:Nat))=false;rw [dF];omega) ?_;clear ih;have hif:i=f:=by omega
   subst hif;exact tV
 ·refine eX (bF p f) fun R hR=>?_;rw [<-hR];rw [LP (.inr (.inl hk))] at hR;refine P_ Tryz.func13 93 fun _ _ _ _=>?_
  (refine b_ fun bx=>?_;refine y_ ?_)
  refine A.aa 11 T (x':=cC 14) (by rw [hk]) ?_;refine F_ T (by rw [hk];rfl) ?_;refine A.freeze 2 (sz:=8) T T T ?_;refine A.af [1,2,5,7] T ?_;refine l_ (Λ':=[]) ?_;refine A.ae (ι:=Nat) (fun i=>(⟨[(1,AI (f:Nat)),(2, .pe 8 (aE p)),(5,AI (cQ (1+dO (p.gs.take i) f):Nat)),(7,AI (i:Nat))],[]⟩,[])) (fun i=>i<=p.gs.length) (fun i=>p.gs.length-i) 0 (aa4 _) T fun i hi ih=>?_;refine y_ ?_
  by_cases hci:i<p.gs.length
  ·refine aX hci fun g hgi=>?_;have hgm:=aa2 hgi;obtain ⟨y,hy⟩:=u.loc.body g hgm;have hcall:=hg g hgm y (by rw [hy];exact .head _) f hf;have hat:(aS g.body)[(0:Int).toNat]? =some (pC y):=aV (by rw [hy];rfl);have n3:((aS g.body).length:Int)=1:=by rw [bP,hy];rfl
   have hm:=B0 (1+dO (p.gs.take i) f) (bF y f);have hsn:=vN (p.gs.take i) g f;rw [<-GQ hgi,hy,vO] at hsn;rw [al5,<-hsn] at hm;have c1:=iO (1+dO (p.gs.take i) f);have c2:=iO (bF y f);refine T_ T (by show decide ((i:Int)<((cA p.gs).length:Int))=true;rw [n2,dT];omega) ?_;refine A.ao ?_;refine y_ ?_;refine i_ T (bZ hgi) (cK g) ?_;refine T_ T (by show decide ((0:Int)<((aS g.body).length:Int))=true;rw [n3];rfl) ?_;refine i_ T (bZ hgi) (cK g) ?_;refine i_ T hat (bC y) ?_;refine c_ hcall ?_;refine A.aa 5 T (x':=AI (cQ (1+dO (p.gs.take (i+1)) f):Nat)) (by rw [<-hm,<-M7];show AI (if _<_ then _ else _)=_;rw [show IntKind.i64.wrap (((cQ (1+dO (p.gs.take i) f):Nat):Int)+((cQ (bF y f):Nat):Int))=((cQ (1+dO (p.gs.take i) f)+cQ (bF y f):Nat):Int) by rw [fR _ (by omega)];rfl];rfl) ?_;refine A.again ?_;refine y_ ?_;refine i_ T (bZ hgi) (cK g) ?_;refine F_ T (by show decide ((1:Int)<((aS g.body).length:Int))=false;rw [n3];rfl) ?_;refine vI 7 i ?_;refine u_ (ih (i+1) (by omega) (by omega))
  refine A.gF T (by show decide ((i:Int)<((cA p.gs).length:Int))=false;rw [n2,dF];omega) ?_;clear ih;have hil:i=p.gs.length:=by omega
  refine e_ 5 T (x':=AI (cQ R:Nat)) (by rw [hR,hil,ac4]) ?_;exact r_
 ·refine eX (bF p f) fun R hR=>?_;rw [<-hR];rw [LP (.inr (.inr hk))] at hR;refine P_ Tryz.func13 93 fun _ _ _ _=>?_
  (refine b_ fun bx=>?_;refine y_ ?_)
  refine A.aa 11 T (x':=cC 15) (by rw [hk]) ?_;refine F_ T (by rw [hk];rfl) ?_;refine A.freeze 2 (sz:=8) T T T ?_;refine A.af [1,2,5,7] T ?_;refine l_ (Λ':=[]) ?_;refine A.ae (ι:=Nat) (fun i=>(⟨[(1,AI (f:Nat)),(2, .pe 8 (aE p)),(5,AI (cQ (1+dO (p.gs.take i) f):Nat)),(7,AI (i:Nat))],[]⟩,[])) (fun i=>i<=p.gs.length) (fun i=>p.gs.length-i) 0 (aa4 _) T fun i hi ih=>?_;refine y_ ?_
  by_cases hci:i<p.gs.length
  ·refine aX hci fun g hgi=>?_;have hgm:=aa2 hgi;obtain ⟨y,hy⟩:=u.loc.body g hgm;have hcall:=hg g hgm y (by rw [hy];exact .head _) f hf;have hat:(aS g.body)[(0:Int).toNat]? =some (pC y):=aV (by rw [hy];rfl);have n3:((aS g.body).length:Int)=1:=by rw [bP,hy];rfl
   have hm:=B0 (1+dO (p.gs.take i) f) (bF y f);have hsn:=vN (p.gs.take i) g f;rw [<-GQ hgi,hy,vO] at hsn;rw [al5,<-hsn] at hm;have c1:=iO (1+dO (p.gs.take i) f);have c2:=iO (bF y f);refine T_ T (by show decide ((i:Int)<((cA p.gs).length:Int))=true;rw [n2,dT];omega) ?_;refine A.ao ?_;refine y_ ?_;refine i_ T (bZ hgi) (cK g) ?_;refine T_ T (by show decide ((0:Int)<((aS g.body).length:Int))=true;rw [n3];rfl) ?_;refine i_ T (bZ hgi) (cK g) ?_;refine i_ T hat (bC y) ?_;refine c_ hcall ?_;refine A.aa 5 T (x':=AI (cQ (1+dO (p.gs.take (i+1)) f):Nat)) (by rw [<-hm,<-M7];show AI (if _<_ then _ else _)=_;rw [show IntKind.i64.wrap (((cQ (1+dO (p.gs.take i) f):Nat):Int)+((cQ (bF y f):Nat):Int))=((cQ (1+dO (p.gs.take i) f)+cQ (bF y f):Nat):Int) by rw [fR _ (by omega)];rfl];rfl) ?_;refine A.again ?_;refine y_ ?_;refine i_ T (bZ hgi) (cK g) ?_;refine F_ T (by show decide ((1:Int)<((aS g.body).length:Int))=false;rw [n3];rfl) ?_;refine vI 7 i ?_;refine u_ (ih (i+1) (by omega) (by omega))
  refine A.gF T (by show decide ((i:Int)<((cA p.gs).length:Int))=false;rw [n2,dF];omega) ?_;clear ih;have hil:i=p.gs.length:=by omega
  refine e_ 5 T (x':=AI (cQ R:Nat)) (by rw [hR,hil,ac4]) ?_;exact r_
 ·have hR:bF p f=1:=by
   obtain ⟨k,c,v,it,to,e,gs,l⟩:=p;have hk:k=16:=hk;rw [gL,iF (by omega),iF (by omega),iF (by omega)]
  rw [hR];refine P_ Tryz.func13 93 fun _ _ _ _=>?_
  (refine b_ fun bx=>?_;refine y_ ?_)
  refine A.aa 11 T (x':=cC 16) (by rw [hk]) ?_;refine F_ T (by rw [hk];rfl) ?_;exact r_
theorem OB{V:List KV}{C:List Int}: ∀(m:Nat) (p:PR),SizeOf.sizeOf p<=m->Un V C p->I2 p
 |0,p,h,_=>by obtain ⟨k,c,v,i,to,e,gs,l⟩:=p;simp only [PR.mk.sizeOf_spec] at h;omega
 |m+1,p,hm,u=>ways_f p u (fun x hx=>OB m x (by have:=mO hx;omega) (u.l x hx)) (fun g hg x hx=>OB m x (by have:=nX hg hx;omega) (u.g g hg x hx))
theorem ways_p{V:List KV}{C:List Int}{p:PR}(u:Un V C p):I2 p:=OB _ p (ab3 _) u
structure GFit(k:KN)(t:TR)(f:Int):Prop where
 vars:k.vars.length<=300
 chans:k.chans.length<=100
 procs:k.procs.length<=100
 size:eB k t f=0->oD k.root<=80
 len:eB k t f=0->t.length<=12
 fuel:eB k t f=0->f<=5
 way:eB k t f=0->bF k.root (f.toNat+1)<=2000
theorem EG{b:Nat->Nat}(hb: ∀i,1<=b i)(f:Nat):jO b f<=jO b (f+1):=by rw [jO];have:=ah9 (jO b f) (hb f);omega
theorem Y6: ∀(l:List PR) (f:Nat),1<=IL l f
 | [],f=>ab3 _ |p::r,f=>o5 p f
theorem W0{f:Nat}: ∀{l:List PR},(∀x,x∈l->bF x f<=bF x (f+1))->cW l f<=cW l (f+1)
 | [],_=>ab3 _ |p::r,h=>by rw [cW,cW];exact al2 (h p (.head _)) (W0 fun x hx=>h x (.tail _ hx))
theorem W1{f:Nat}: ∀{l:List PR},(∀x,x∈l->bF x f<=bF x (f+1))->gW l f<=gW l (f+1)
 | [],_=>ab3 _ |p::r,h=>by rw [gW,gW];exact au5 (h p (.head _)) (W1 fun x hx=>h x (.tail _ hx))
theorem WZ{f:Nat}: ∀{l:List GD},(∀g,g∈l-> ∀x,x∈g.body->bF x f<=bF x (f+1))->dO l f<=dO l (f+1)
 | [],_=>ab3 _ |⟨k,cd,c,it,to,tm,b⟩::r,h=>by rw [dO,dO];exact au5 (W1 (h _ (.head _))) (WZ fun x hx=>h x (.tail _ hx))
theorem vB(f:Nat): ∀(m:Nat) (p:PR),SizeOf.sizeOf p<=m->bF p f<=bF p (f+1)
 |0,p,h=>by obtain ⟨k,c,v,i,to,e,gs,l⟩:=p;simp only [PR.mk.sizeOf_spec] at h;omega
 |m+1,p,hm=>by
  have h1:=W0 (f:=f) (l:=p.l) fun x hx=>vB f m x (by have:=mO hx;omega);have h2:=WZ (f:=f) (l:=p.gs) fun g hg x hx=>vB f m x (by have:=nX hg hx;omega);obtain ⟨k,c,v,i,to,e,gs,l⟩:=p;rw [gL,gL];split
  ·exact h1
  ·split
   ·exact au5 (ab3 _) h2
   ·split
    ·exact EG (fun i=>Y6 l i) f
    ·exact ab3 _
theorem W3(p:PR)(f:Nat):bF p f<=bF p (f+1):=vB f _ p (ab3 _)
theorem GFit.gy{k:KN}{t:TR}{f:Int}(g:GFit k t f):eB k t f=0->bF k.root f.toNat<=2000:=fun h=>ae9 (W3 k.root f.toNat) (g.way h)
theorem RY(k:KN)(hk:EX k)(t:TR)(f:Int): ∃b,Pure Tryz.prog aU 4 [eU k,lI t,AI f] (AB b)/\(b=false->GFit k t f):=by
 have n1:((k.vars.map mY).length:Int)=k.vars.length:=by rw [aa0]
 have n2:((k.chans.map cC).length:Int)=k.chans.length:=by rw [aa0]
 have n3:((k.procs.map AI).length:Int)=k.procs.length:=by rw [aa0]
 have nt:=iS t;have hf:=HB k hk t f
 by_cases c1:300<k.vars.length
 ·refine ⟨true,?_,fun h=>by cases h⟩;refine P_ Tryz.func4 53 fun _ _ _ _=>?_
  (refine b_ fun bx=>?_;refine y_ ?_)
  refine T_ T (by rw [n1];show decide _=true;rw [dT];omega) ?_;exact r_
 by_cases c2:100<k.chans.length
 ·refine ⟨true,?_,fun h=>by cases h⟩;refine P_ Tryz.func4 53 fun _ _ _ _=>?_
  (refine b_ fun bx=>?_;refine y_ ?_)
  refine F_ T (by rw [n1];show decide _=false;rw [dF];omega) ?_;refine T_ T (by rw [n2];show decide _=true;rw [dT];omega) ?_;exact r_
 by_cases c3:100<k.procs.length
 ·refine ⟨true,?_,fun h=>by cases h⟩;refine P_ Tryz.func4 53 fun _ _ _ _=>?_
  (refine b_ fun bx=>?_;refine y_ ?_)
  refine F_ T (by rw [n1];show decide _=false;rw [dF];omega) ?_;refine F_ T (by rw [n2];show decide _=false;rw [dF];omega) ?_;refine T_ T (by rw [n3];show decide _=true;rw [dT];omega) ?_;exact r_
 by_cases he:eB k t f=0
 case neg=>
  refine ⟨false,?_,fun _=>⟨by omega,by omega,by omega,fun h=>absurd h he,fun h=>absurd h he,fun h=>absurd h he,fun h=>absurd h he⟩⟩;refine P_ Tryz.func4 53 fun _ _ _ _=>?_
  (refine b_ fun bx=>?_;refine y_ ?_)
  refine F_ T (by rw [n1];show decide _=false;rw [dF];omega) ?_;refine F_ T (by rw [n2];show decide _=false;rw [dF];omega) ?_;refine F_ T (by rw [n3];show decide _=false;rw [dF];omega) ?_;refine c_ hf ?_;refine F_ T (beq_eq_false_iff_ne.2 he) ?_;exact r_
 have hx:=tA he;have hu:=tM hk hx.may hx.unt;have hsz:=(wP hx.may).2.1;have hsp:=rsz_p hk.root (by omega);have hfl:=hx.f1;have hf0:=hx.f0;have hwp:=ways_p hu (f.toNat+1) (by omega);rw [show ((f.toNat+1:Nat):Int)=f+1 by omega] at hwp;rw [he] at hf;have hinc:IntKind.i64.wrap (f+1)=f+1:=by rw [fR _ (by omega)]
 by_cases c4:80<oD k.root
 ·refine ⟨true,?_,fun h=>by cases h⟩;refine P_ Tryz.func4 53 fun _ _ _ _=>?_
  (refine b_ fun bx=>?_;refine y_ ?_)
  refine F_ T (by rw [n1];show decide _=false;rw [dF];omega) ?_;refine F_ T (by rw [n2];show decide _=false;rw [dF];omega) ?_;refine F_ T (by rw [n3];show decide _=false;rw [dF];omega) ?_;refine c_ hf ?_;refine c_ hsp ?_;refine T_ T (by show decide ((80:Int)<(oD k.root:Nat))=true;rw [dT];omega) ?_;exact r_
 by_cases c5:12<t.length
 ·refine ⟨true,?_,fun h=>by cases h⟩;refine P_ Tryz.func4 53 fun _ _ _ _=>?_
  (refine b_ fun bx=>?_;refine y_ ?_)
  refine F_ T (by rw [n1];show decide _=false;rw [dF];omega) ?_;refine F_ T (by rw [n2];show decide _=false;rw [dF];omega) ?_;refine F_ T (by rw [n3];show decide _=false;rw [dF];omega) ?_;refine c_ hf ?_;refine c_ hsp ?_;refine F_ T (by show decide ((80:Int)<(oD k.root:Nat))=false;rw [dF];omega) ?_;refine T_ T (by show (bif false then true else decide ((12:Int)<((t.map jK).length:Int)))=true;rw [nt,decide_eq_true (by omega)];rfl) ?_;exact r_
 by_cases c6:5<f
 ·refine ⟨true,?_,fun h=>by cases h⟩;refine P_ Tryz.func4 53 fun _ _ _ _=>?_
  (refine b_ fun bx=>?_;refine y_ ?_)
  refine F_ T (by rw [n1];show decide _=false;rw [dF];omega) ?_;refine F_ T (by rw [n2];show decide _=false;rw [dF];omega) ?_;refine F_ T (by rw [n3];show decide _=false;rw [dF];omega) ?_;refine c_ hf ?_;refine c_ hsp ?_;refine F_ T (by show decide ((80:Int)<(oD k.root:Nat))=false;rw [dF];omega) ?_;refine F_ T (by show (bif false then true else decide ((12:Int)<((t.map jK).length:Int)))=false;rw [nt,decide_eq_false (by omega)];rfl) ?_;refine T_ T (by show (bif false then true else decide (5<f))=true;rw [decide_eq_true c6];rfl) ?_;exact r_
 refine ⟨decide (2000<cQ (bF k.root (f.toNat+1))),?_,fun h=>⟨by omega,by omega,by omega,fun _=>by omega,fun _=>by omega,fun _=>by omega,fun _=>?_⟩⟩
 ·refine P_ Tryz.func4 53 fun _ _ _ _=>?_
  (refine b_ fun bx=>?_;refine y_ ?_)
  refine F_ T (by rw [n1];show decide _=false;rw [dF];omega) ?_;refine F_ T (by rw [n2];show decide _=false;rw [dF];omega) ?_;refine F_ T (by rw [n3];show decide _=false;rw [dF];omega) ?_;refine c_ hf ?_;refine c_ hsp ?_;refine F_ T (by show decide ((80:Int)<(oD k.root:Nat))=false;rw [dF];omega) ?_;refine F_ T (by show (bif false then true else decide ((12:Int)<((t.map jK).length:Int)))=false;rw [nt,decide_eq_false (by omega)];rfl) ?_;refine F_ T (by show (bif false then true else decide (5<f))=false;rw [decide_eq_false c6];rfl) ?_;refine A.aa 47 T (x':=AI (f+1)) (aL hinc) ?_;refine c_ hwp ?_;refine R_ ?_;refine Sb.eq (aA ?_);show decide ((2000:Int)<((cQ (bF k.root (f.toNat+1)):Nat):Int))=_;rw [ac8,dT,dT];omega
 ·have h:=of_decide_eq_false h;have h2:=MI (n:=bF k.root (f.toNat+1)) (by omega);omega
end Go.Proofs.YtenkjmjejhhdjaaGreat
namespace Go.Tp
open Go Go.RowKit
theorem tC{k:Nat}(hk:0<k): ∀(zs:List Value) (hz: ∀z,z∈zs->(aM z).length=k) (j:Nat),j<zs.length*k->(bJ zs)[j]? =(zs[j / k]?).bind fun z=>(aM z)[j % k]?
 | [],_,j,hj=>by simp at hj |z::zs,hz,j,hj=>by
  have h0:=hz z (aa5 ..);show (aM z++bJ zs)[j]? =_;rcases ae4 j k with h|h
  ·rw [ae6 (by omega),Nat.div_eq_of_lt h,ar6 h];rfl
  ·rw [ae7 (by omega),h0,tC hk zs (fun z hz'=>hz z (List.mem_cons_of_mem _ hz')) (j-k) (by simp only [ab7,Nat.succ_mul] at hj;omega)];have e1:j / k=(j-k) / k+1:=by rw [Nat.div_eq j k,iT ⟨hk,h⟩]
   have e2:j % k=(j-k) % k:=by rw [Nat.mod_eq_sub_mod h]
   rw [e1,e2,List.getElem?_cons_succ]
def atW{α:Type}(l:List α)(h:0<l.length)(i:Nat):α:=l[i % l.length]'(at1 _ h)
theorem UK{α:Type}{l:List α}(h:0<l.length){i:Nat}(hi:i<l.length):l[i]? =some (atW l h i):=by unfold atW;have:i % l.length=i:=ar6 hi;simp [this,hi]
theorem G3{α:Type}{l:List α}(h:0<l.length)(i:Nat):atW l h i∈l:=List.getElem_mem ..
theorem PK{α:Type}{l:List α}(h:0<l.length):(List.range l.length).map (atW l h)=l:=by
 apply af0;intro i;rcases ae4 i l.length with hi|hi
 ·rw [ab5,List.getElem?_range hi,Option.map_some,UK h hi]
 ·rw [ac6 (by simpa using hi),ac6 hi]
theorem eN.atW{h:GH}{l:List AV}{zs:List Value}(r:eN h l zs)(h1:0<l.length)(h2:0<zs.length)(i:Nat):Rp h (atW l h1 i) (atW zs h2 i):=by
 have hl:=r.len;obtain ⟨v,e,q⟩:=r.at (i:=i % l.length) (x:=Go.Tp.atW l h1 i) (by simp [Go.Tp.atW]);have:Go.Tp.atW zs h2 i=v:=by
  unfold Go.Tp.atW;have e':zs[i % zs.length]? =some v:=by rw [hl];exact e
  rw [List.getElem?_eq_getElem (at1 _ h2)] at e';exact Option.some.inj e'
 rw [this];exact q
theorem OD{h:GH}{ι:Type}{f:ι->AV}{z:ι->Value}(r: ∀i,Rp h (f i) (z i)): ∀l:List ι,eN h (l.map f) (l.map z)
 | []=>aP.2 T |x::l=>aJ.2 ⟨_,_,rfl,r x,OD r l⟩
section
variable{κ:Type}{P:Program}{gs:Ua}{ρ:Shelf.Ren}
theorem W2{α β:Type}{lt:α->α->Bool}(f:β->α)(h:Sort.SWO lt):Sort.SWO fun x y=>lt (f x) (f y):=
 ⟨fun x=>h.irrefl _,fun x y z=>h.trans _ _ _,fun x y z=>h.ntrans _ _ _⟩
theorem NL{n:Nat}{d d':Array Nat}(hd:d.size=n)(h:Sort.PermIn 0 n d d'):d'.toList.Perm d.toList:=by
 obtain ⟨h1,_,h3⟩:=h;have e1:d'.extract 0 n=d':=by rw [<-hd,<-h1];simp
 have e2:d.extract 0 n=d:=by rw [<-hd];simp
 rwa [e1,e2] at h3
theorem IE{lt:Nat->Nat->Bool}{n:Nat}{d:Array Nat}(hd:d.size=n)(h:Sort.SortedIn lt 0 n d):d.toList.Pairwise fun x y=>lt y x=false:=by
 rw [List.pairwise_iff_getElem];intro i j hi hj hij;have hi':i<d.size:=by simpa using hi
 have hj':j<d.size:=by simpa using hj
 have:=h i j (aa4 _) hij (by omega);rw [getElem!_pos d i hi',getElem!_pos d j hj'] at this;simpa using this
theorem TE(L:Go.Proofs.SlLaysF.n6 P ρ)(hfn: ∃g c,P.funcs[ρ.f 6]? =some g/\g.body=some c/\(g.name== "runtime.NumGoroutine")=false)
 (enc:κ->AV) (cf:κ->κ->Int) (hO:Sort.SWO fun x y=>decide (cf x y<0)) (g:FuncId) (eg: ∀args w,(callFunc g args).run P w= .ok (.enter g args) w) (z:Value) (n:Nat) (ks:List κ) (h1: ∀x,x∈ks->(enc x).one=true)
 (hc: ∀x,x∈ks-> ∀y,y∈ks->Pure P gs g [enc x,enc y] (.v (.int .i64 (cf x y)))) (hsz:ks.length<4611686018427387904):
 jB P gs (ρ.f 6) [.ms z 1 n, .fn g [] []] [.row 1 z (ks.map enc)] fun y Λ'=> ∃ks':List κ,ks'.Perm ks/\ks'.Pairwise (fun a b=>0<=cf b a)/\y= .tp []/\Λ'=[.row 1 z (ks'.map enc)]:=by
 intro w0 h vs LL F hg r q;rw [aJ] at r;obtain ⟨u,us,rfl,r1,r2⟩:=r;rw [aJ] at r2;obtain ⟨u2,us2,rfl,r2,r3⟩:=r2;rw [aP] at r3;subst r3;rw [gI] at r1;obtain ⟨rfl,_⟩:=r1;rw [pQ] at r2;obtain ⟨c1,c2,rfl,r4,r5⟩:=r2;rw [aP] at r4 r5;subst r4;subst r5;obtain ⟨M,L2,rfl,⟨p,hrow,rfl⟩,q2⟩:=q;have q2:L2=[]:=q2;subst q2;refine ⟨hfn,fun w s=>?_⟩;have hrow':=hrow;obtain ⟨a,cap,zs,e1,e2,e3,e4,e5⟩:=hrow;rw [aa0] at e1 e2;subst e1
 by_cases hn:0<ks.length
 ·rcases e5 with ⟨e5,_⟩|⟨b,o,sp,rfl,rfl,e6⟩
  ·simp at e5;subst e5;simp at hn
  have hzl:zs.length=ks.length:=by rw [e3.rp.len,aa0]
  have hz:0<zs.length:=by omega
  have hel: ∀i,Rp h (enc (atW ks hn i)) (atW zs hz i):=fun i=>by
   have:=e3.rp.atW (by rw [aa0];exact hn) hz i;have e:atW (ks.map enc) (by rw [aa0];exact hn) i=enc (atW ks hn i):=by simp [atW]
   rwa [e] at this
  have hon: ∀i,gU (atW zs hz i)=true:=fun i=>(hel i).one (h1 _ (G3 hn i));have hcat: ∀l:List Nat,bJ (l.map (atW zs hz))=l.map (atW zs hz):=fun l=>by
   induction l with
   |nil=>rfl |cons x l ih=>show aM _++bJ (l.map _)=_;rw [eH (hon x),ih];rfl
  have hzz:(List.range ks.length).map (atW zs hz)=zs:=by rw [<-hzl];exact PK hz
  let d:Array Nat:=(List.range ks.length).toArray
  have hds:d.size=ks.length:=by simp [d]
  have hcz:bJ zs=zs:=by rw [<-hzz];exact hcat _
  have hH:Sort.Holds (atW zs hz) w b o d:=by
   intro j hj;rw [hds] at hj;have kk:=s.own _ (aa5 ..);have hv:zs[j]? =some (atW zs hz d[j]!):=by
    rw [getElem!_pos d j (by rw [hds];exact hj)];have:d[j]'(by rw [hds];exact hj)=j:=by simp [d]
    rw [this];exact UK hz (by omega)
   exact ⟨kk.cell j _ (by show (bJ zs++sp)[j]? =_;rw [hcz,ae6 (by omega)];exact hv),kk.warm j (by show j<(bJ zs++sp).length;rw [hcz,aa1];omega)⟩
  have hst: ∀(m:Nat) (os:Array Obj) (dk:Array Nat),dk.size=d.size->St w0 h (⟨b,o,bJ (dk.toList.map (atW zs hz))++sp,none⟩::([]++F)) (Go.Proofs.sortWorld (atW zs hz) w b o m dk os):=fun m os dk hdk=>by have:=s.sorted (enc:=atW zs hz) (d:=d) (d':=dk) (n:=m) (os:=os) (by rw [hds,hcz,aa1];omega) (by rw [hds];exact hn) hH hdk (fun j hj=>hon _);rw [hds,hcz,<-hzl,List.drop_left] at this;rw [hcat];exact this
  have hcmp:Go.Proofs.CmpLays1 P g #[] (atW zs hz) (fun i j=>cf (atW ks hn i) (atW ks hn j)) b o d.size w:=by intro m os dk hdk x y;exact NN (hc _ (G3 hn x) _ (G3 hn y)) (hst m os dk hdk).self hg (aJ.2 ⟨_,_,rfl,hel x,aJ.2 ⟨_,_,rfl,hel y,aP.2 T⟩⟩)
  have hcall:=Go.Proofs.Any.slices_SortFunc L (atW zs hz) (fun i=>by rw [<-PX];exact hon i) (fun i j=>cf (atW ks hn i) (atW ks hn j)) (W2 (atW ks hn) hO) g #[] b o cap d w eg hcmp hH (dQ (hH 0 (by rw [hds];exact hn)).1) (by rw [hds];exact hsz);rw [hds] at hcall;refine hcall.mono fun e w' ⟨he,d',m,os,h1,h2,h3⟩=>?_;subst h3;have hd':d'.size=d.size:=h1.1;have hperm:=NL hds h1;have hsort:=IE (hd'.trans hds) h2;have hdl:d'.toList.length=ks.length:=by rw [<-hds,<-hd'];simp
  refine ⟨_,h,_,he,⟨.tp [],_,_,⟨d'.toList.map (atW ks hn),?_,?_,rfl,rfl⟩,?_,GH.le_refl _,⟨[_],[],rfl,⟨_,⟨some ⟨b,o,none⟩,cap,d'.toList.map (atW zs hz),?_,?_,⟨?_,?_,?_⟩,rfl, .inr ⟨b,o,sp,rfl,rfl,?_⟩⟩,rfl⟩,rfl⟩,rfl⟩,hst m os d' hd'⟩
  ·have:=hperm.map (atW ks hn)
   rwa [show d.toList.map (atW ks hn)=ks from PK hn] at this
  ·rw [List.pairwise_map];refine hsort.imp fun {x y} hxy=>?_;have hxy:decide (cf (atW ks hn y) (atW ks hn x)<0)=false:=hxy;simpa using hxy
  ·rw [kT];exact ⟨[],rfl,aP.2 T⟩
  ·rw [aa0,aa0,hdl]
  ·rw [aa0,aa0,hdl];exact e2
  ·rw [List.map_map];exact OD hel _
  ·intro z hz';obtain ⟨i,_,rfl⟩:=ai0.1 hz';rw [eH (hon i)];rfl
  ·intro z hz';obtain ⟨i,_,rfl⟩:=ai0.1 hz';rw [eH (hon i)];exact lM fun v hv=>by rw [ab0.1 hv];exact hon i
  ·rw [e6,aa0,aa0,aa0,hdl]
 ·have hk0:ks=[]:=List.eq_nil_of_length_eq_zero (by omega);subst hk0;refine (Go.Proofs.AnyF.slices_SortFunc_none {L with} a cap (.func (.func g) #[] #[]) w).mono fun e w' ⟨he,hw⟩=>?_;subst hw;exact ⟨_,h,_,he,⟨.tp [],_,_,⟨[], .refl _,List.Pairwise.nil,rfl,rfl⟩,kT.2 ⟨[],rfl,aP.2 T⟩,GH.le_refl _,⟨[p],[],rfl,⟨p,hrow',rfl⟩,rfl⟩,rfl⟩,s⟩
end
end Go.Tp
namespace Go.Proofs
open Go.Shelf
def Tryz.er:Go.Shelf.Ren:=⟨fun|6=>18|15=>32|14=>31|28=>73|29=>74|20=>65|21=>66|22=>67|23=>68|24=>69|25=>70|26=>71|27=>72|46=>106|47=>107|48=>108|49=>109|50=>110|57=>144|n=>n,fun|22=>43|24=>55|25=>71|3=>3|39=>99|0=>0|53=>135|55=>137|4=>4|46=>128|45=>127|50=>132|5=>5|9=>9|66=>171|70=>175|76=>195|77=>196|n=>n,fun|n=>n⟩
theorem Tryz.jn:Go.Proofs.SlLaysF.n6 Tryz.prog Tryz.er:={
 mixed:=by kernel_rfl
 f6:=⟨Tryz.f18.name,by decide,Tryz.func18.trans (congrArg some (by kernel_rfl))⟩
 f14:=⟨Tryz.f31.name,by decide,Tryz.func31.trans (congrArg some (by kernel_rfl))⟩
 f15:=Tryz.func32.trans (congrArg some (by kernel_rfl))
 f20:=⟨Tryz.f65.name,by decide,Tryz.func65.trans (congrArg some (by kernel_rfl))⟩
 f21:=⟨Tryz.f66.name,by decide,Tryz.func66.trans (congrArg some (by kernel_rfl))⟩
 f22:=⟨Tryz.f67.name,by decide,Tryz.func67.trans (congrArg some (by kernel_rfl))⟩
 f23:=⟨Tryz.f68.name,by decide,Tryz.func68.trans (congrArg some (by kernel_rfl))⟩
 f24:=⟨Tryz.f69.name,by decide,Tryz.func69.trans (congrArg some (by kernel_rfl))⟩
 f25:=⟨Tryz.f70.name,by decide,Tryz.func70.trans (congrArg some (by kernel_rfl))⟩
 f26:=⟨Tryz.f71.name,by decide,Tryz.func71.trans (congrArg some (by kernel_rfl))⟩
 f27:=⟨Tryz.f72.name,by decide,Tryz.func72.trans (congrArg some (by kernel_rfl))⟩
 f28:=Tryz.func73.trans (congrArg some (by kernel_rfl))
 f29:=Tryz.func74.trans (congrArg some (by kernel_rfl))
 f46:=⟨Tryz.f106.name,by decide,Tryz.func106.trans (congrArg some (by kernel_rfl))⟩
 f47:=Tryz.func107.trans (congrArg some (by kernel_rfl))
 f48:=Tryz.func108.trans (congrArg some (by kernel_rfl))
 f49:=⟨Tryz.f109.name,by decide,Tryz.func109.trans (congrArg some (by kernel_rfl))⟩
 f50:=⟨Tryz.f110.name,by decide,Tryz.func110.trans (congrArg some (by kernel_rfl))⟩
 f57:=⟨Tryz.f144.name,by decide,Tryz.func144.trans (congrArg some (by kernel_rfl))⟩
 t0:=Tryz.underlying0
 a0:=Tryz.isAgg0
 z0:=Tryz.sizeOf0
 v0:=Tryz.zeroValue0
 t3:=Tryz.underlying3
 a3:=Tryz.isAgg3
 z3:=Tryz.sizeOf3
 v3:=Tryz.zeroValue3
 t4:=Tryz.underlying4
 a4:=Tryz.isAgg4
 z4:=Tryz.sizeOf4
 v4:=Tryz.zeroValue4
 t5:=Tryz.underlying5
 a5:=Tryz.isAgg5
 z5:=Tryz.sizeOf5
 v5:=Tryz.zeroValue5
 t9:=Tryz.underlying9
 a9:=Tryz.isAgg9
 z9:=Tryz.sizeOf9
 v9:=Tryz.zeroValue9
 t22:=Tryz.underlying43
 a22:=Tryz.isAgg43
 z22:=Tryz.sizeOf43
 v22:=Tryz.zeroValue43
 a24:=Tryz.isAgg55
 z24:=Tryz.sizeOf55
 t25:=Tryz.underlying71
 a25:=Tryz.isAgg71
 z25:=Tryz.sizeOf71
 v25:=Tryz.zeroValue71
 t39:=Tryz.underlying99
 a39:=Tryz.isAgg99
 z39:=Tryz.sizeOf99
 v39:=Tryz.zeroValue99
 t45:=Tryz.underlying127
 a45:=Tryz.isAgg127
 z45:=Tryz.sizeOf127
 v45:=Tryz.zeroValue127
 t46:=Tryz.underlying128
 a46:=Tryz.isAgg128
 z46:=Tryz.sizeOf128
 v46:=Tryz.zeroValue128
 t50:=Tryz.underlying132
 a50:=Tryz.isAgg132
 z50:=Tryz.sizeOf132
 v50:=Tryz.zeroValue132
 t53:=Tryz.underlying135
 a53:=Tryz.isAgg135
 z53:=Tryz.sizeOf135
 v53:=Tryz.zeroValue135
 t55:=Tryz.underlying137
 a55:=Tryz.isAgg137
 z55:=Tryz.sizeOf137
 v55:=Tryz.zeroValue137
 t66:=Tryz.underlying171
 a66:=Tryz.isAgg171
 z66:=Tryz.sizeOf171
 v66:=Tryz.zeroValue171
 t70:=Tryz.underlying175
 a70:=Tryz.isAgg175
 z70:=Tryz.sizeOf175
 v70:=Tryz.zeroValue175
 t76:=Tryz.underlying195
 a76:=Tryz.isAgg195
 z76:=Tryz.sizeOf195
 v76:=Tryz.zeroValue195
 t77:=Tryz.underlying196
 a77:=Tryz.isAgg196
 z77:=Tryz.sizeOf196
 v77:=Tryz.zeroValue196}
end Go.Proofs
namespace Go.Proofs.YtenkjmjejhhdjaaGreat
open Go Go.Tp
theorem cmpJN(x y:Int):U5 x y=EM x y:=by unfold U5 EM;repeat' split;all_goals omega
theorem FZ{α:Type}{cmp:α->α->Int}{a b:List α}{i:Nat}{x y:α}(hx:a[i]? =some x)(hy:b[i]? =some y):rK cmp (a.drop i) (b.drop i)=if cmp x y=0 then rK cmp (a.drop (i+1)) (b.drop (i+1)) else cmp x y:=by rw [cB hx,cB hy,rK]
theorem Z4(a b:List Int)(ha:a.length<=281474976710656)(hb:b.length<=281474976710656):Pure Tryz.prog aU 33 [jU a,jU b] (AI (vY a b)):=by
 have na:((a.map aN).length:Int)=a.length:=by rw [aa0]
 have nb:((b.map aN).length:Int)=b.length:=by rw [aa0]
 refine eX (vY a b) fun R hR=>?_;rw [<-hR];refine P_ Tryz.func33 36 fun w0 h0 F hgs=>?_;refine y_ ?_;refine A.af [0,1,9,10,11] T ?_;refine A.ae (ι:=Nat) (fun i=>(⟨[(0,jU a),(1,jU b),(9,jU a),(10,AI ((a.map aN).length:Int)),(11,AI (i:Nat))],[]⟩,[])) (fun i=>i<=a.length/\i<=b.length/\R=vY (a.drop i) (b.drop i)) (fun i=>a.length-i) 0 ⟨aa4 _,aa4 _,hR⟩ T fun i hi ih=>?_;obtain ⟨hi1,hi2,hi3⟩:=hi;refine y_ ?_
 by_cases hca:i<a.length
 ·refine aX hca fun x hx=>?_;refine T_ T (by show decide ((i:Int)<((a.map aN).length:Int))=true;rw [na,dT];omega) ?_;refine i_ T (aC hx) T ?_
  by_cases hcb:i<b.length
  ·refine aX hcb fun y hy=>?_;have hc:=Z2 x y;rw [cmpJN] at hc;have hs:=FZ (cmp:=EM) hx hy;have hi3:R=rK EM (a.drop i) (b.drop i):=hi3;rw [hs] at hi3;refine F_ T (by show decide (((b.map aN).length:Int)<=(i:Nat))=false;rw [nb,dF];omega) ?_;refine i_ T (aC hy) T ?_;refine c_ hc ?_
   by_cases h0:EM x y=0
   ·rw [iT h0] at hi3;refine F_ T (by rw [h0];rfl) ?_;refine vI 11 i ?_;refine u_ (ih (i+1) ⟨by omega,by omega,hi3⟩ (by omega))
   ·rw [iF h0] at hi3;refine T_ T (bne_iff_ne.2 h0) ?_;refine R_ ?_;rw [hi3];exact .refl
  ·have hb0:b.drop i=[]:=ad3 (by omega);rw [hb0,cB hx] at hi3;refine T_ T (by show decide (((b.map aN).length:Int)<=(i:Nat))=true;rw [nb,dT];omega) ?_;refine R_ ?_;rw [hi3];exact .refl
 ·have ha0:a.drop i=[]:=ad3 (by omega);rw [ha0] at hi3;clear ih;refine F_ T (by show decide ((i:Int)<((a.map aN).length:Int))=false;rw [na,dF];omega) ?_
  by_cases hcb:i<b.length
  ·refine aX hcb fun y hy=>?_;rw [cB hy] at hi3;refine T_ T (by show decide (((a.map aN).length:Int)<((b.map aN).length:Int))=true;rw [na,nb,dT];omega) ?_;refine R_ ?_;rw [hi3];exact .refl
  ·rw [ad3 (by omega:b.length<=i)] at hi3;refine F_ T (by show decide (((a.map aN).length:Int)<((b.map aN).length:Int))=false;rw [na,nb,dF];omega) ?_;refine R_ ?_;rw [hi3];exact .refl
theorem SP(a b:bA)(hab:a.length=b.length)(hl:a.length<=1073741824)(ha: ∀r,r∈a->r.length<=281474976710656)(hb: ∀r,r∈b->r.length<=281474976710656):Pure Tryz.prog aU 19 [aF a,aF b] (AI (FA a b)):=by
 have na:((a.map jU).length:Int)=a.length:=by rw [aa0]
 refine eX (FA a b) fun R hR=>?_;rw [<-hR];refine P_ Tryz.func19 25 fun w0 h0 F hgs=>?_;refine y_ ?_;refine A.af [0,1,8,9] T ?_;refine A.ae (ι:=Nat) (fun i=>(⟨[(0,aF a),(1,aF b),(8,AI ((a.map jU).length:Int)),(9,AI (i:Nat))],[]⟩,[])) (fun i=>i<=a.length/\R=FA (a.drop i) (b.drop i)) (fun i=>a.length-i) 0 ⟨aa4 _,hR⟩ T fun i hi ih=>?_;obtain ⟨hi1,hi3⟩:=hi;refine y_ ?_
 by_cases hca:i<a.length
 ·refine aX hca fun x hx=>?_;refine ab4 (bT (l:=b) (i:=i) (by omega)) fun y hy=>?_;have hc:=Z4 x y (ha x (aa2 hx)) (hb y (aa2 hy));have hs:=FZ (cmp:=vY) hx hy;have hi3:R=rK vY (a.drop i) (b.drop i):=hi3;rw [hs] at hi3;refine T_ T (by show decide ((i:Int)<((a.map jU).length:Int))=true;rw [na,dT];omega) ?_;refine d_ 9 [0,1,2,3,4,5,6,7,8] [(8,AI (vY x y))] ?_;refine gX T (aC hx) T ?_;refine gX T (aC hy) T ?_;refine WA.c T T hc (.sub s_) ?_;refine z_ ?_
  by_cases h0:vY x y=0
  ·rw [iT h0] at hi3;refine F_ T (by rw [h0];rfl) ?_;refine vI 9 i ?_;refine u_ (ih (i+1) ⟨by omega,hi3⟩ (by omega))
  ·rw [iF h0] at hi3;refine T_ T (bne_iff_ne.2 h0) ?_;refine R_ ?_;rw [hi3];exact .refl
 ·rw [ad3 (by omega:a.length<=i),ad3 (by omega:b.length<=i)] at hi3;clear ih;refine F_ T (by show decide ((i:Int)<((a.map jU).length:Int))=false;rw [na,dF];omega) ?_;refine R_ ?_;rw [hi3];exact .refl
theorem FB(a b:bA):decide (FA a b<0)=mE a b:=by rw [ac8,dT,U6]
theorem swo19{α:Type}{lt:α->α->Bool}(o:Ord lt):Sort.SWO lt where
 irrefl:=o.irrefl
 trans:=o.trans
 ntrans x y z h1 h2:=by
  cases h:lt x z with
  |false=>rfl |true=>
   cases h3:lt y x with
   |true=>rw [o.trans _ _ _ h3 h] at h2;cases h2 |false=>rw [o.tri _ _ h1 h3] at h;rw [h] at h2;cases h2
theorem sortS_p{V:List KV}(z:Value)(n:Nat)(l:List bA)(hb:l.length<=1099511627776)(hl: ∀s,s∈l->bI V s):fB Tryz.prog aU 18 [.ms z 1 n, .fn 19 [] []] [.row 1 z (l.map aF)] (fun _:List bA=> .tp []) (fun l'=>[.row 1 z (l'.map aF)]) (fun l'=>l'.Perm l/\l'.Pairwise fun x y=>mE y x=false):=by
 refine (TE (ρ:=Tryz.er) Tryz.jn ⟨_,_,Tryz.func18,rfl,rfl⟩
  aF FA ?_ 19 (enters_of Tryz.func19 (by kernel_rfl) T) z n l (fun x _=>rfl) (fun x hx y hy=>SP x y ((iD (hl x hx).may).1.trans (iD (hl y hy).may).1.symm) (by have:=(dX (hl x hx)).1;omega) (fun r hr=>by have:=(dX (hl x hx)).2 r hr;omega) (fun r hr=>by have:=(dX (hl y hy)).2 r hr;omega)) (by omega)).mono fun y Λ' ⟨l',h1,h2,h3,h4⟩=>⟨l',by rw [h3];exact .refl,h4,h1,h2.imp fun {a b} h=>?_⟩
 ·have:=swo19 HW;simp only [FB];exact this
 ·rw [<-FB];simpa using h
def yB(k:KN)(t:TR)(f:Int):Int:=if eB k t f=0 then (if (mP k t f).miss=true then 190 else 0) else eB k t f
def tS(k:KN)(t:TR)(f:Int):List bA:=if yB k t f=0 then zN (mP k t f) t.length else []
abbrev ET(l:List bA):AV:= .sl 1 (l.map aF) none
theorem XS(s:bA):iK s (-1) 0 0=s:=by unfold iK;rw [iF];unfold mT;simp
abbrev eT(q:RN)(n i:Nat):List bA:=((q.ends.take i).filter fun e=>decide (e.1=n)).map (·.2)
theorem QQ(k:KN)(hk:EX k)(t:TR)(ht:l6 t)(f:Int)(hw:eB k t f=0->bF k.root f.toNat<=2000):Pure Tryz.prog aU 8 [eU k,lI t,AI f] (.tp [ET (tS k t f),AI (yB k t f)]):=by
 have h1:=tof_p k hk t ht f hw;have nt:=iS t
 by_cases he:eB k t f=0
 case neg=>
  have e2:yB k t f=eB k t f:=by unfold yB;rw [iF he]
  have e1:tS k t f=[]:=by unfold tS;rw [e2,iF he]
  rw [e1,e2];refine P_ Tryz.func8 47 fun _ _ _ _=>?_;refine b_ fun b3=>?_;refine y_ ?_;refine n_ h1 ?_;refine b_ fun b8=>?_;refine y_ ?_;refine T_ T (by show (eB k t f !=0)=true;exact bne_iff_ne.2 he) ?_;refine q_ ?_;exact s_
 have hO:TW k t f=mP k t f:=by unfold TW;rw [iT he]
 have hxo:=tA he;have hu:=tM hk hxo.may hxo.unt;have hqo:zF k.vars (mP k t f) t.length (bF k.root f.toNat):=yQ hu [0,1] t _ ht (stX hxo.may);have hww:=hw he;rw [he,hO] at h1;unfold tS yB;rw [he,iT T];refine eX (mP k t f) fun q hq=>?_;rw [<-hq] at h1 hqo⊢;have hlen:=hqo.len;have nq:((q.ends.map cT).length:Int)=q.ends.length:=by rw [aa0]
 cases hmi:q.miss with
 |true=>
  rw [iT T,iF (by decide)];refine P_ Tryz.func8 47 fun _ _ _ _=>?_;refine b_ fun b3=>?_;refine y_ ?_;refine n_ h1 ?_;refine b_ fun b8=>?_;refine y_ ?_;refine T_ T hmi ?_;refine q_ ?_;exact s_
 |false=>
  rw [show (if false=true then (190:Int) else 0)=0 from rfl,iT T];have hall: ∀s,s∈eT q t.length q.ends.length->bI k.vars s:=fun s hs=>by rw [eT,ac4] at hs;obtain ⟨e,he',rfl⟩:=ai0.1 hs;exact hqo.ok e (List.mem_filter.1 he').1
  have hel: ∀i,(eT q t.length i).length<=2000:=fun i=>by
   rw [eT,aa0];have h1:=ah4 (fun e=>decide (e.1=t.length)) (q.ends.take i);have h2:=List.length_take_le i q.ends;have h3:(q.ends.take i).length<=q.ends.length:=by rw [ac1];omega
   omega
  refine P_ Tryz.func8 47 fun _ _ _ _=>?_;refine b_ fun b3=>?_;refine y_ ?_;refine n_ h1 ?_;refine b_ fun b8=>?_;refine y_ ?_;refine F_ T hmi ?_;refine A.av 1 ?_;refine A.gx 10 (x':= .ms (.slice none 0 0) 1 0) T (fun h y r=>sI 1 r) ?_;refine l_ (Λ':=[.row 1 (.slice none 0 0) []]) ?_;refine A.af [1,10,26,27,28] T ?_;refine A.ae (ι:=Nat×Value) (fun u=>(⟨[(1,lI t),(10, .ms u.2 1 (eT q t.length u.1).length),(26, .sl 2 (q.ends.map cT) none),(27,AI ((q.ends.map cT).length:Int)),(28,AI (u.1:Nat))],[]⟩,[.row 1 u.2 ((eT q t.length u.1).map aF)])) (fun u=>u.1<=q.ends.length) (fun u=>q.ends.length-u.1) (0, .slice none 0 0) (aa4 _) T fun u hu' ih=>?_;obtain ⟨i,z⟩:=u;have hi1:i<=q.ends.length:=hu';have hli:=hel i;refine y_ ?_
  by_cases hci:i<q.ends.length
  ·refine aX hci fun e he'=>?_;have hput:=(hqo.ok e (aa2 he')).small.put_p (-1) 0 0;rw [XS] at hput;refine T_ T (by show decide ((i:Int)<((q.ends.map cT).length:Int))=true;rw [nq,dT];omega) ?_;refine j_ T (aC he') T ?_;refine b_ fun b12=>?_;refine y_ ?_
   by_cases hn:e.1=t.length
   ·have hap:eT q t.length (i+1)=eT q t.length i++[e.2]:=by
     rw [eT,takeN he',ag5,ac0];simp [hn]
    refine T_ T (by show ((e.1:Int)==((t.map jK).length:Int))=true;rw [nt,hn];exact beq_self_eq_true _) ?_;refine n_ hput ?_;refine t_ fun bl=>?_;refine A.aj T T T T T T T T T T T T T T (by show (((eT q t.length i).map aF).length+1)*1<=_;rw [aa0];omega) (by show (((eT q t.length i).map aF).length+1)*1*24<=_;rw [aa0];omega) fun zz=>?_;refine A.s T ?_;refine A.aa 10 T (x':= .ms zz 1 (eT q t.length (i+1)).length) (by rw [hap,aa1,aa0];rfl) ?_;refine l_ (Λ':=[.row 1 zz ((eT q t.length i).map aF++[aF e.2])]) ?_;refine A.ab (Λ':=[.row 1 zz ((eT q t.length (i+1)).map aF)]) (by rw [hap,ac0];rfl) ?_;refine y_ ?_;refine vI 28 i ?_;refine u_ (ih (i+1,zz) (by show i+1<=_;omega) (by show _-(i+1)<_-i;omega))
   ·have hap:eT q t.length i=eT q t.length (i+1):=by
     rw [eT,eT,takeN he',ag5,ac0];simp [hn]
    refine F_ T (by show ((e.1:Int)==((t.map jK).length:Int))=false;rw [nt,beq_eq_false_iff_ne];omega) ?_;refine l_ (Λ':=[.row 1 z ((eT q t.length i).map aF)]) ?_;refine A.ab (Λ':=[.row 1 z ((eT q t.length (i+1)).map aF)]) (by rw [hap]) ?_;refine A.aa 10 T (x':= .ms z 1 (eT q t.length (i+1)).length) (by rw [hap]) ?_;refine vI 28 i ?_;refine u_ (ih (i+1,z) (by show i+1<=_;omega) (by show _-(i+1)<_-i;omega))
  ·refine A.gF T (by show decide ((i:Int)<((q.ends.map cT).length:Int))=false;rw [nq,dF];omega) ?_;clear ih;have hii:i=q.ends.length:=by omega
   subst hii;have hso:=sortS_p z (eT q t.length q.ends.length).length (eT q t.length q.ends.length) (by omega) hall;refine y_ ?_;refine A.e T hso .refl (.refl _) fun l' hl'=>?_;have hfin:l'=zN q t.length:=by have hnod:=W9 hqo.wf.nod t.length;have hp:=hl'.1;rw [eT,ac4] at hp;exact TF hnod hp hl'.2
   refine A.ab (Λ':=[.row 1 z ((zN q t.length).map aF)]) (by rw [hfin];rfl) ?_;refine y_ ?_;refine A.ar 6 T ?_;refine q_ ?_;exact s_
end Go.Proofs.YtenkjmjejhhdjaaGreat
namespace Go.Proofs.YtenkjmjejhhdjaaGreat
open Go Go.Tp
theorem TA(a b:bA):sQ a b=decide (a=b):=by rw [ac8,K9,dT]
theorem S9(a b:List bA)(ha: ∀s,s∈a->short s)(hl:a.length<=281474976710656):Pure Tryz.prog aU 10 [ET a,ET b] (AB (decide (a=b))):=by
 have na:((a.map aF).length:Int)=a.length:=by rw [aa0]
 have nb:((b.map aF).length:Int)=b.length:=by rw [aa0]
 by_cases hlen:a.length=b.length
 case neg=>
  rw [decide_eq_false (fun e=>hlen (by rw [e]))];refine P_ Tryz.func10 27 fun _ _ _ _=>?_;refine y_ ?_;refine T_ T (by rw [na,nb,bne_iff_ne];omega) ?_;exact r_
 refine eX (decide (a=b)) fun R hR=>?_;rw [<-hR];refine P_ Tryz.func10 27 fun _ _ _ _=>?_;refine y_ ?_;refine F_ T (by rw [na,nb,hlen];simp) ?_;refine A.af [0,1,5] T ?_;refine A.ae (ι:=Nat) (fun i=>(⟨[(0,ET a),(1,ET b),(5,AI (i:Nat))],[]⟩,[])) (fun i=>i<=a.length/\R=decide (a.drop i=b.drop i)) (fun i=>a.length-i) 0 ⟨aa4 _,hR⟩ T fun i hi ih=>?_;obtain ⟨hi1,hi3⟩:=hi;refine y_ ?_
 by_cases hca:i<a.length
 ·refine aX hca fun x hx=>?_;refine ab4 (bT (l:=b) (i:=i) (by omega)) fun y hy=>?_;have hc:=QD x y (ha x (aa2 hx));rw [TA] at hc;rw [cB hx,cB hy] at hi3;refine T_ T (by show decide ((i:Int)<((a.map aF).length:Int))=true;rw [na,dT];omega) ?_;refine d_ 10 [0,1,2,3,4,5,6,7,8,9] [(8,AB (decide (x=y)))] ?_;refine gX T (aC hx) T ?_;refine gX T (aC hy) T ?_;refine rL hc ?_;refine z_ ?_
  by_cases hxy:x=y
  ·refine F_ T (by rw [decide_eq_true hxy];rfl) ?_;refine vI 5 i ?_;refine u_ (ih (i+1) ⟨by omega,by rw [hi3,hxy];simp⟩ (by omega))
  ·refine T_ T (by rw [decide_eq_false hxy];rfl) ?_;refine R_ ?_;rw [hi3,decide_eq_false (fun e=>hxy (by injection e))];exact .refl
 ·rw [ad3 (by omega:a.length<=i),ad3 (by omega:b.length<=i)] at hi3;clear ih;refine F_ T (by show decide ((i:Int)<((a.map aF).length:Int))=false;rw [na,dF];omega) ?_;refine R_ ?_;rw [hi3];exact .refl
theorem FY{α:Type} [DecidableEq α]{lt:α->α->Bool}{a b:List α}{i:Nat}{x y:α}(hx:a[i]? =some x)(hy:b[i]? =some y):lexB lt (a.drop i) (b.drop i)=if x=y then lexB lt (a.drop (i+1)) (b.drop (i+1)) else lt x y:=by rw [cB hx,cB hy,lexB]
abbrev D3(z:Value)(n:Nat)(f:FuncId):AV:= .ag [.ms z 12 n, .fn f [] []]
section
variable{α:Type}
end
end Go.Proofs.YtenkjmjejhhdjaaGreat
namespace Go.Proofs.YtenkjmjejhhdjaaGreat
end Go.Proofs.YtenkjmjejhhdjaaGreat
namespace Go.Proofs.YtenkjmjejhhdjaaGreat
open Go Go.Tp
theorem set_same{α:Type}: ∀{l:List α} {i:Nat} {x:α},l[i]? =some x->l.set i x=l
 | [],_,_,h=>by simp at h |y::r,0,x,h=>by injection h with h;subst h;rfl
 |y::r,i+1,x,h=>by rw [List.set_cons_succ,set_same (by simpa using h)]
abbrev oP(c n:Int):PR:=⟨6,c,0,1,[],[knum n],[],[]⟩
abbrev iP(c:Int):PR:=⟨5,c,0,1,[⟨0,[]⟩],[],[],[]⟩
abbrev TU:KN:=⟨[⟨1,0⟩],[1,2,0],⟨10,0,0,0,[],[],[],[oP 2 7,iP 2]⟩,[]⟩
abbrev exO:KN:=⟨[⟨1,0⟩],[1,2,0],oP 2 7,[]⟩
theorem VL:EX TU where
 wf:=⟨by show 1<=_;decide,by show 3<=_;decide,by show 0<=_;decide,by
  simp [xQ,zE,AY,nJ,l5,tU,i32,i64,Go.Tp.u8];try omega⟩
 root:=by simp [sS,y7,AW,N0,N1,smP]
theorem exo_sm:EX exO where
 wf:=⟨by show 1<=_;decide,by show 3<=_;decide,by show 0<=_;decide,by
  simp [xQ,zE,AY,nJ,l5,tU,i32,i64,Go.Tp.u8];try omega⟩
 root:=by simp [sS,y7,AW,N0,N1,smP]
theorem a0e{c v:Int}(h:i32 v):l6 [(c,v)]:=fun e he=>by rw [ab0.1 he];exact h
theorem exw:bF TU.root (0:Int).toNat<=2000:=by decide+kernel
theorem exw2:bF exO.root (0:Int).toNat<=2000:=by decide+kernel
theorem x1:AO TU [(2,7)] 0=true:=by kernel_rfl
theorem x2:AN TU [(2,7)] 0=0:=by kernel_rfl
theorem x3:AO TU [(2,8)] 0=false:=by kernel_rfl
theorem x4:AN TU [(2,8)] 0=0:=by kernel_rfl
theorem x5:tS TU [(2,7)] 0=[[[7]]]:=by kernel_rfl
theorem x6:yB TU [(2,7)] 0=0:=by kernel_rfl
theorem x7:AO exO [(2,7)] 0=false:=by kernel_rfl
theorem x8:AN exO [(2,7)] 0=0:=by kernel_rfl
theorem RU:Pure Tryz.prog aU 14 [] (eU TU):=by
 refine P_ Tryz.func14 13 fun _ _ _ _=>?_
 (refine b_ fun bx=>?_;refine t_ fun bl=>?_;refine t_ fun bl=>?_;refine t_ fun bl=>?_;refine t_ fun bl=>?_;refine t_ fun bl=>?_;refine y_ ?_)
 refine C_ ?_;exact s_
theorem V2:Pure Tryz.prog aU 5 [] (AB true):=by have h0':=RU;have h1:=IH TU VL [(2,7)] (a0e (by unfold i32;omega)) 0 (fun _=>exw);have h2:=IH TU VL [(2,8)] (a0e (by unfold i32;omega)) 0 (fun _=>exw);have h3:=QQ TU VL [(2,7)] (a0e (by unfold i32;omega)) 0 (fun _=>exw);have h4:=IH exO exo_sm [(2,7)] (a0e (by unfold i32;omega)) 0 (fun _=>exw2);rw [x1,x2] at h1;rw [x3,x4] at h2;rw [x5,x6] at h3;rw [x7,x8] at h4;refine P_ Tryz.func5 101 fun _ _ _ _=>?_;refine y_ ?_;refine n_ h0' ?_;refine A.b T fun b1=>?_;refine t_ fun bl=>?_;refine n_ h1 ?_;refine t_ fun bl=>?_;refine n_ h2 ?_;refine t_ fun bl=>?_;refine c_ h3 ?_;refine j_ T T T ?_;refine t_ fun bl=>?_;refine c_ h4 ?_;refine i_ T T T ?_;refine i_ T T T ?_;refine i_ T T T ?_;refine i_ T T T ?_;refine i_ T T T ?_;refine i_ T T T ?_;exact r_
theorem Q6{k:KN}(hk:EX k){t:TR}(ht:l6 t){f:Int}(h:XOk k t f):zF k.vars (mP k t f) t.length (bF k.root f.toNat):=yQ (tM hk h.may h.unt) [0,1] t _ ht (stX h.may)
theorem HA{k:KN}{t:TR}{f:Int}(h:yB k t f=0):eB k t f=0/\(mP k t f).miss=false:=by
 unfold yB at h
 by_cases he:eB k t f=0
 ·rw [iT he] at h;refine ⟨he,?_⟩;cases hm:(mP k t f).miss with
  |false=>rfl |true=>rw [hm,iT T] at h;omega
 ·rw [iF he] at h;exact absurd h he
theorem a0d{k:KN}(hk:EX k){t:TR}(ht:l6 t){f:Int}: ∀s,s∈tS k t f->bI k.vars s:=fun s hs=>by
 unfold tS at hs;split at hs
 ·rename_i h;have hx:=tA (HA h).1;exact (Q6 hk ht hx).ok _ (RQ.1 hs)
 ·cases hs
theorem VI{k:KN}(hk:EX k){t:TR}(ht:l6 t){f:Int}(hw:eB k t f=0->bF k.root f.toNat<=2000):(tS k t f).length<=2000:=by
 unfold tS;split
 ·rename_i h;have hx:=tA (HA h).1;have h1:=(Q6 hk ht hx).len;have h2:=hw (HA h).1;unfold zN;have h3:=cY (lt:=mE) (cI (mP k t f) t.length) [];have h4:(cI (mP k t f) t.length).length<=(mP k t f).ends.length:=by
   unfold cI;rw [aa0];exact ah4 _ _
  rw [af5] at h3;omega
 ·exact aa4 _
theorem TK{V:List KV}{s:bA}(h:bI V s):short s:=⟨by have:=(dX h).1;omega,fun r hr=>by have:=(dX h).2 r hr;omega⟩
theorem TJ{V:List KV}{a b:bA}(ha:bI V a)(hb:bI V b):a.map List.length=b.map List.length:=by
 obtain ⟨h1,h2⟩:=iD ha.may;obtain ⟨h3,h4⟩:=iD hb.may;apply af0;intro i;rw [ab5,ab5]
 by_cases hi:i<V.length
 ·obtain ⟨x,hx⟩:=bT (l:=a) (i:=i) (by omega);obtain ⟨y,hy⟩:=bT (l:=b) (i:=i) (by omega);obtain ⟨v,hv⟩:=bT (l:=V) (i:=i) hi;have e1:=h2 i v x hv hx;have e2:=h4 i v y hv hy;rw [hx,hy];show some x.length=some y.length;congr 1;omega
 ·rw [ac6 (by omega),ac6 (by omega)]
end Go.Proofs.YtenkjmjejhhdjaaGreat
