/-
  Texts Q19g Q19h Q19i T18d Q19j Q19k Q19y Q19z Q19za Q21b Q21c Q21d Q21e Q21f Q21g Q21h Lv Q19l Q19zb Q19n Q19p. Conditions: as each theorem says.
-/
import Derived.Test.YtenkjmjejhhdjaaGreatWc3
import Derived.Test.YtenkjmjejhhdjaaGreatWc7
import Derived.Test.YtenkjmjejhhdjaaGreatWc6
import Derived.Test.YtenkjmjejhhdjaaGreatWc5
import Derived.Test.YtenkjmjejhhdjaaGreatWc4
import Derived.Shelf.Sort.Plain
import Derived.Shelf.Slices.In.SortNone
set_option linter.unusedVariables false
set_option linter.unusedSimpArgs false
set_option maxRecDepth 100000
set_option maxHeartbeats 4000000
open Go.Tp(T eX dT dF iF iT)
open List renaming length_map→aa0,length_append→aa1,mem_of_getElem?→aa2,mem_cons_self→aa5,take_of_length_le→aa6,getElem?_eq_getElem→aa7,getElem?_eq_some_iff→aa8,append_nil→aa9,mem_singleton→ab0,append_assoc→ab2,getElem?_map→ab5,length_cons→ab7,map_append→ac0,length_take→ac1,take_length→ac4,take_add_one→ac9,take_zero→ad1,drop_eq_nil_of_le→ad3,cons_append→ad4,length_drop→ad7,getElem?_zipWith→ae1,nil_sublist→ae0,foldl_cons→ae2,take_append_drop→ae3,all_eq_true→ae5,getElem?_append_right→ae7,perm_append_singleton→ae8,ext_getElem?→af0,flatMap_cons→af1,foldl_append→af2,length_nil→af5,mem_of_mem_take→ag0,nil_append→ag2,drop_zero→ag3,getElem?_set→ah0,mem_range→ah5,mem_map→ai0,getElem?_zip_eq_some→ai1,mem_flatMap→ai4,length_zipWith→ai6,perm_append_comm→ai8,mem_filter→aj0,filter_cons→aj2,getElem_mem→aj3,drop_eq_getElem_cons→aj5,flatMap_append→aj6,contains_iff_mem→aj9,all_append→al9,getElem?_take→am8,range_succ→ao1,eq_nil_of_length_eq_zero→ao7,length_singleton→ap0,map_drop→ap8,foldl_nil→ar1,drop_succ_cons→as2
open Bool renaming and_eq_true→aa3,or_false→an9
open Nat renaming zero_le→aa4,le_refl→ab3,le_trans→ae9,mul_le_mul_right→af7,min_eq_left→ah6,sub_self→ak3
open Exists renaming elim→ab4
open Int renaming toNat_natCast→ac7,le_refl→ao2
open Option renaming map_some→af8
open Or renaming elim→al3
namespace Go.Proofs.YtenkjmjejhhdjaaGreat
open Go Go.Tp
theorem QF(x y':AV)(h:GH)(y:Value)(q:Rp h (.ag [x, .v (.slice none 0 0), .v (.map none),y']) y):Rp h (.ag [x, .ms (.slice none 0 0) 2 0, .v (.map none),y']) y:=by rw [gY] at q⊢;obtain ⟨ds,rfl,q⟩:=q;refine ⟨ds,rfl,?_⟩;rw [aJ] at q⊢;obtain ⟨v,vs,rfl,q1,q2⟩:=q;refine ⟨v,vs,rfl,q1,?_⟩;rw [aJ] at q2⊢;obtain ⟨v,vs,rfl,q1,q2⟩:=q2;rw [bN] at q1;obtain ⟨rfl,_⟩:=q1;exact ⟨_,vs,rfl,gI.2 ⟨rfl,none,0,rfl⟩,q2⟩
theorem WX(m:Nat)(l:List fK):(mapA m l).one=true:=by cases l<;>rfl
theorem AG(z:Value)(m:Nat)(r:RN):Fz z 2 (r.ends.map cT) (yX z m r) (oI r):=Fz.ag (IX.cons (Fz.sub .refl) (IX.cons Fz.ms (IX.cons (Fz.sub (Sb.un (WX m r.ends))) (IX.sub .refl))))
abbrev I0(V:List KV)(f:Nat)(p:PR):Prop:= ∀(op:List Int) (t:TR) (s:bA),op.length+(dW p).length<=1048576->l6 t->t.length<=256->bI V s->Pure Tryz.prog aU 25 [fS t op f,aE p,aF s] (oI (cG f op t s p))
theorem jE(x:PR)(r:List PR):aS (x::r)=aE x::aS r:=by rw [aS,bC]
theorem oE{t:TR}(h:l6 t)(n:Nat):l6 (t.drop n):=fun e he=>h e (List.mem_of_mem_drop he)
structure zF(V:List KV)(q:RN)(m b:Nat):Prop where
 wf:lJ q m
 ok:sW V q
 len:q.ends.length<=b
theorem YG{V:List KV}{C:List Int}{l:List PR}{f:Nat}(hu: ∀x,x∈l->Un V C x)(op:List Int)(t:TR)(s:bA)(ht:l6 t)(hs:bI V s):zF V (bB f op t s l) t.length (cW l f):=
 ⟨(seq19 fun x hx=>QG x).1 f op t s,XC (fun x hx=>H9 (hu x hx)) f op t s ht hs,PH (fun x hx=>tI x) f op t s⟩
theorem yQ{V:List KV}{C:List Int}{p:PR}{f:Nat}(hu:Un V C p)(op:List Int)(t:TR)(s:bA)(ht:l6 t)(hs:bI V s):zF V (cG f op t s p) t.length (bF p f):=
 ⟨(QG p).1 f op t s,H9 hu f op t s ht hs,tI p f op t s⟩
theorem zF.rn{V:List KV}{q:RN}{m b:Nat}(h:zF V q m b)(hm:m<=256)(hb:b<=1048576):rN V q:=⟨⟨fun e he=>⟨h.ok e he,by have:=h.wf.le e he;have:=h.wf.len;omega⟩⟩,by have:=h.len;omega⟩
theorem then_ok{V:List KV}{first:RN}{k:Nat->bA->RN}{m a b:Nat}(h:zF V first m a)(hk: ∀e,e∈first.ends->zF V (k e.1 e.2) (m-e.1) b)(i:Nat):zF V (fW (pB first i) k) m (a*b):=
 ⟨(Z9 h.wf i).andThen fun e he=>(hk e (rU he)).wf,(Z8 h.ok i).andThen fun e he=>(hk e (rU he)).ok,xI (ae9 (by show (first.ends.take i).length<=_;exact List.length_take_le' ..) h.len) fun e he=>(hk e (rU he)).len⟩
theorem IA{V:List KV}{C:List Int}{f:Nat}: ∀(l:List PR),(∀x,x∈l->Un V C x)->cW l f<=2000->(∀x,x∈l->I0 V f x)->l.length<=16777216-> ∀(op:List Int) (t:TR) (s:bA),(∀x,x∈l->op.length+(dW x).length<=1048576)->l6 t->t.length<=256->bI V s->Pure Tryz.prog aU 45 [fS t op f,pN l,aF s] (oI (bB f op t s l))
 | [],_,_,_,_,op,t,s,_,_,_,hs=>by have hf:=CB (V:=V) s hs;rw [bB];refine P_ Tryz.func45 48 fun _ _ _ _=>?_;refine b_ fun b3=>?_;refine A.b T fun b6=>?_;refine y_ ?_;refine A.aa 12 T (x':=AB true) T ?_;refine c_ hf ?_;refine C_ ?_;exact s_
 |x::r,hu,hw,hR,hlen,op,t,s,hop,ht,fN,hs=>by
  have hw2:=zC hw;have hx:=hR x (.head _) op t s (hop x (.head _)) ht fN hs;have n1:(((aS (x::r)).length:Nat):Int)=(r.length+1:Nat):=by rw [bP,ab7]
  rw [ab7] at hlen;refine eX (cG f op t s x) fun q hq=>?_;have hqo:zF V q t.length (bF x f):=by rw [hq];exact yQ (hu x (.head _)) op t s ht hs
  have hrec:=IA r (fun y hy=>hu y (.tail _ hy)) hw2.2 (fun y hy=>hR y (.tail _ hy)) (by omega);have hko: ∀e,e∈q.ends->zF V (bB f op (t.drop e.1) e.2 r) (t.length-e.1) (cW r f):=fun e he=>by have:=YG (f:=f) (fun y hy=>hu y (.tail _ hy)) op (t.drop e.1) e.2 (oE ht _) (hqo.ok e he);rw [ad7] at this;exact this
  have hcur:=then_ok (k:=fun n s'=>bB f op (t.drop n) s' r) hqo hko;have hww:bF x f*cW r f<=2000:=by rw [cW] at hw;exact hw
  have hcr: ∀i,rN V (fW (pB q i) fun n s'=>bB f op (t.drop n) s' r):=fun i=>(hcur i).rn fN (by omega);have nq:((q.ends.map cT).length:Int)=q.ends.length:=by rw [aa0]
  have hql:=hqo.len;rw [<-hq] at hx;rw [bB,<-hq];refine P_ Tryz.func45 48 fun _ _ _ _=>?_;refine b_ fun b3=>?_;refine A.b T fun b6=>?_;refine y_ ?_;refine A.aa 12 T (x':=AB false) (aA (by rw [n1,beq_eq_false_iff_ne];omega)) ?_;have hat:(aS (x::r))[(0:Int).toNat]? =some (pC x):=aV T;refine d_ 7 [0,1,2,3,4,6,5] [(5,oI q)] ?_;refine gX T hat (bC x) ?_;refine WA.alloc T T T T T T T T fun b7=>?_;refine WA.c T T hx (.sub s_) ?_;refine WA.nil (l:=[_]) T ?_;refine y_ ?_;refine A.jk 4 b6 (x:= .ag (List.map AV.v YX.zero)) 8 [0,1,2,3,4,5,6,7] (fun i=>if i=5 then [4] else if i=7 then [4] else []) [] (by decide) (by kernel_rfl) (by kernel_rfl) ?_;refine w_ ?_;refine WA.store T T T T T T T T T T ?_;refine w_ ?_;refine WA.store T T T T T T T T T T ?_;refine WA.nil (l:=[_]) T ?_;refine y_ ?_;refine A.aa 29 T (x':=AI (q.ends.length:Nat)) (aL nq) ?_;refine A.af [1,3,6,28,29,30] T ?_;refine A.ab (Λ':=[.box b6 (.ag [AI (q.reach:Nat), .v (.slice none 0 0), .v (.map none),AB q.miss]), .box b7 (oI q), .box b3 (fS t op f)]) T ?_;refine l_ (Λ':=[.box b6 (.ag [AI (q.reach:Nat), .v (.slice none 0 0), .v (.map none),AB q.miss]), .box b3 (fS t op f)]) ?_;refine A.bn (b:=b6) (x':= .ag [AI (q.reach:Nat), .ms (.slice none 0 0) 2 0, .v (.map none),AB q.miss]) (.refl _) (QF _ _) ?_;refine A.av 2 ?_;refine A.perm (Λ':= .box b3 (fS t op f)::nN b6 (.slice none 0 0) 0 (fW (pB q 0) fun n s'=>bB f op (t.drop n) s' r)) (c9 [2,1,0] T T T T) ?_;refine A.ae (ι:=Nat×Value×Nat) (fun u=>(⟨[(1,pN (x::r)),(3,aT b3),(6,aT b6),(28, .sl 2 (q.ends.map cT) none),(29,AI (q.ends.length:Nat)),(30,AI (u.1:Nat))],[]⟩,aH.box b3 (fS t op f)::nN b6 u.2.1 u.2.2 (fW (pB q u.1) fun n s'=>bB f op (t.drop n) s' r))) (fun u=>u.1<=q.ends.length) (fun u=>q.ends.length-u.1) (0, .slice none 0 0,0) (aa4 _) T fun u hu ih=>?_;obtain ⟨i,z,m⟩:=u;simp only at hu;refine y_ ?_
  by_cases hci:i<q.ends.length
  ·refine aX hci fun e he=>?_;have hem:=aa2 he;have hqe:=hko e hem;have hnext:=GR (k:=fun n s'=>bB f op (t.drop n) s' r) he;have hel:=hqo.wf.le e hem;have hqr:=hqo.wf.len;have hfr:=MS t op f e.1 (by omega);have hsq:=hrec op (t.drop e.1) e.2 (fun y hy=>hop y (.tail _ hy)) (oE ht _) (by rw [ad7];omega) (hqo.ok e hem);have h5:=(hcur i).wf.len;have h6:=(hcur i).len;have h7:=hqe.wf.len;have h8:=hqe.len;have hjoin:=p9 b6 m z (fW (pB q i) fun n s'=>bB f op (t.drop n) s' r) (bB f op (t.drop e.1) e.2 r) e.1 (hcr i) (fun y hy=>⟨hqe.ok y hy,by have:=hqe.wf.le y hy;omega⟩) (by omega) (by omega) (by omega);rw [<-hnext] at hjoin;have ntl:(((aS (x::r)).length:Nat):Int)=(r.length+1:Nat):=n1;refine T_ T (by show decide ((i:Int)<(q.ends.length:Nat))=true;rw [dT];omega) ?_;refine j_ T (aC he) T ?_;refine b_ fun b9=>?_;refine y_ ?_;refine d_ 11 [0,1,2,3,4,6,7,8,9,5,10] [(5,fS (t.drop e.1) op f),(10,oI (bB f op (t.drop e.1) e.2 r))] ?_;refine WA.slice (ys:=aS r) T T T T T T T T T T (by decide) (by show ((1:Nat):Int)<=((aS (x::r)).length:Int);rw [n1];omega) (ao2 _) (by
    show ((aS (x::r)).drop 1).take (((aS (x::r)).length:Int).toNat-1)=_;rw [jE,as2,ag3,aa6 (by rw [ab7];simp)]) T ?_
   refine w_ ?_;refine WA.c T T hfr (.sub s_) ?_;refine WA.c T T hsq (.sub s_) ?_;refine WA.nil (l:=[]) T ?_;refine A.less (Λ':= .box b3 (fS t op f)::nN b6 z m (fW (pB q i) fun n s'=>bB f op (t.drop n) s' r)) (.cons _ (.refl _)) ?_;refine A.e T hjoin s_ (Λ2:=[.box b3 (fS t op f)]) (ae8 _ _).symm fun v _=>?_;refine A.perm (Λ':= .box b3 (fS t op f)::nN b6 v.1 v.2 (fW (pB q (i+1)) fun n s'=>bB f op (t.drop n) s' r)) (ae8 _ _) ?_;refine y_ ?_;refine vI 30 i ?_;refine u_ (ih (i+1,v.1,v.2) (by show i+1<=_;omega) (by show _-(i+1)<_-i;omega))
  ·refine A.gF T (by show decide ((i:Int)<(q.ends.length:Nat))=false;rw [dF];omega) ?_;refine A.less (Λ':=[.box b6 (yX z m (fW q fun n s'=>bB f op (t.drop n) s' r)), .row 2 z ((fW q fun n s'=>bB f op (t.drop n) s' r).ends.map cT)]) (by rw [JF (by omega)];exact (List.Sublist.cons _ (List.Sublist.cons_cons _ (List.Sublist.cons_cons _ (ae0 _))))) ?_;refine A.ak 6 z (x':=oI _) T (AG z m _) ?_;refine y_ ?_;refine C_ ?_;exact s_
theorem K6{f:Nat}{op:List Int}{t:TR}{s:bA}{p:PR}{x:KE}{b:PR}(hk:p.kind=13)(he:p.e=[x])(hl:p.l=[b]):cG f op t s p=fQ (fun s=>bH s x) (fun f' t' s'=>cG f' op t' s' b) f t s:=by
 obtain ⟨k,c,v,it,to,e,gs,l⟩:=p;have hk:k=13:=hk;have he:e=[x]:=he;have hl:l=[b]:=hl;subst hk;subst he;subst hl;rw [cX];simp only [bD]
 rfl
theorem DU{f:Nat}{op:List Int}{t:TR}{s:bA}{p:PR}{x:KE}{b:PR}(hk:p.kind=13)(he:p.e=[x])(hl:p.l=[b])(hv:bH s x=none):cG f op t s p=a7:=by rw [K6 hk he hl];cases f<;>rw [fQ,hv]
theorem DV{f:Nat}{op:List Int}{t:TR}{s:bA}{p:PR}{x:KE}{b:PR}(hk:p.kind=13)(he:p.e=[x])(hl:p.l=[b])(hv:bH s x=some 0):cG f op t s p=fM s:=by
 rw [K6 hk he hl];cases f<;>rw [fQ,hv]
 ·exact iT T
 ·exact iT T
theorem DS{op:List Int}{t:TR}{s:bA}{p:PR}{x:KE}{b:PR}{v:Int}(hk:p.kind=13)(he:p.e=[x])(hl:p.l=[b])(hv:bH s x=some v)(h0:v≠0):cG 0 op t s p=⟨0,[],true⟩:=by rw [K6 hk he hl,fQ,hv];exact iF h0
theorem DT{f:Nat}{op:List Int}{t:TR}{s:bA}{p:PR}{x:KE}{b:PR}{v:Int}(hk:p.kind=13)(he:p.e=[x])(hl:p.l=[b])(hv:bH s x=some v)(h0:v≠0):cG (f+1) op t s p=bB f op t s [b,p]:=by rw [K6 hk he hl,fQ,hv,bB];simp only [iF h0];congr 1;funext n s';rw [bB,K6 hk he hl];congr 1
theorem WW{V:List KV}{C:List Int}(p:PR)(u:Un V C p)(hk:p.kind=13)(f:Nat)(hf:f<=1048576)(op:List Int)(t:TR)(s:bA)(hs:bI V s)(hS: ∀f' b,f=f'+1->p.l=[b]->Pure Tryz.prog aU 45 [fS t op f',pN [b,p],aF s] (oI (bB f' op t s [b,p]))):
 Pure Tryz.prog aU 46 [fS t op f,aE p,aF s] (oI (cG f op t s p)):=by
 obtain ⟨x,b,he,hl,_⟩:=u.k13 hk;have hvp:=sX s hs.ws x (u.ir x (by rw [he];exact .head _));rw [aK] at hvp;have hat:(bK p.e)[(0:Int).toNat]? =some (dK x):=eW (by rw [he];rfl);have hfin:=CB (V:=V) s hs;refine al3 (dH (bH s x)) (fun hx=>?_) (fun hx=>?_)
 ·rw [hx] at hvp;rw [DU hk he hl hx];refine P_ Tryz.func46 46 fun _ _ _ _=>?_;refine b_ fun b3=>?_;refine A.b T fun b4=>?_;refine A.b T fun b6=>?_;refine y_ ?_;refine i_ T hat (aK x) ?_;refine c_ hvp ?_;refine C_ ?_;exact s_
 obtain ⟨v,hx⟩:=hx;rw [hx] at hvp
 by_cases hv0:v=0
 ·subst hv0;rw [DV hk he hl hx];refine P_ Tryz.func46 46 fun _ _ _ _=>?_;refine b_ fun b3=>?_;refine A.b T fun b4=>?_;refine A.b T fun b6=>?_;refine y_ ?_;refine i_ T hat (aK x) ?_;refine c_ hvp ?_;refine c_ hfin ?_;refine C_ ?_;exact s_
 cases f with
 |zero=>
  rw [DS hk he hl hx hv0];refine P_ Tryz.func46 46 fun _ _ _ _=>?_;refine b_ fun b3=>?_;refine A.b T fun b4=>?_;refine A.b T fun b6=>?_;refine y_ ?_;refine i_ T hat (aK x) ?_;refine c_ hvp ?_;refine F_ T (by show (v==0)=false;simpa using hv0) ?_;refine C_ ?_;exact s_
 |succ f=>
  have hseq:=hS f b T hl;rw [show pN [b,p]= .sl 8 [aE b,aE p] none by show AV.sl 8 (aS [b,p]) none=_;rw [jE,jE];rfl] at hseq;rw [DT hk he hl hx hv0];have hat2:(aS p.l)[(0:Int).toNat]? =some (pC b):=aV (by rw [hl];rfl);refine P_ Tryz.func46 46 fun _ _ _ _=>?_;refine b_ fun b3=>?_;refine A.b T fun b4=>?_;refine A.b T fun b6=>?_;refine y_ ?_;refine i_ T hat (aK x) ?_;refine c_ hvp ?_;refine F_ T (by show (v==0)=false;simpa using hv0) ?_;refine A.ab (Λ':=[.box b6 (.ag (List.map AV.v YX.zero)), .box b4 (aE p), .box b3 (fS t op f)]) (by
   have:IntKind.i64.wrap (((f+1:Nat):Int)-1)=(f:Nat):=by rw [fR _ (by omega)];omega
   show [aH.box b6 _,aH.box b4 _,aH.box b3 (.ag [lI t,aQ op,AI (IntKind.i64.wrap (((f+1:Nat):Int)-1))])]=_;rw [this]) ?_
  refine d_ 8 [0,1,2,3,4,5,6,7] [] ?_;refine gX T hat2 (bC b) ?_;refine WA.lit T T T T T T T fun bw=>?_;refine w_ ?_;refine WA.nil (l:=[_]) T ?_;refine A.ar 43 T ?_;refine c_ hseq ?_;refine C_ ?_;exact s_
abbrev ZI:=Nat×RN
abbrev JS(x:ZI):List AV:=[AI (x.1:Nat),oI x.2]
def LX(f:Nat)(op:List Int)(t:TR)(s:bA):List GD->List ZI
 | []=>[] |g::r=>match bH s g.cond with
  |none=>[] |some v=>if v=0 then LX f op t s r else [(0,bD f op t s g.body)]
def dJ(f:Nat)(op:List Int)(t:TR)(s:bA)(g:GD):List ZI:=
 if g.kind=3 then (match cU op t g.c g.item g.to s with
  |some s'=>[(1,bD f op (t.drop 1) s' g.body)] |none=>[])
 else [(0,bD f op t s g.body)]
def cV(s:bA)(gs:List GD):List GD:=gs.filter fun g=>decide (bH s g.cond≠some 0)
def jZ(k:Int)(f:Nat)(op:List Int)(t:TR)(s:bA)(gs:List GD):List ZI:=if k=12 then LX f op t s gs else if jQ s gs=true then (cV s gs).flatMap (dJ f op t s) else []
def bM(acc:RN)(l:List ZI):RN:=l.foldl (fun r x=>cM r x.1 x.2) acc
theorem O4(f:Nat)(op:List Int)(t:TR)(s:bA): ∀gs,bM a7 (LX f op t s gs)=rJ f op t s gs
 | []=>by rw [LX,rJ];rfl |⟨k,cd,c,it,to,tm,b⟩::r=>by
  rw [LX,rJ];show bM a7 (match bH s cd with
  |none=>[] |some v=>if v=0 then LX f op t s r else [(0,bD f op t s b)])=_
  cases bH s cd with
  |none=>rfl |some v=>
   simp only;split
   ·exact O4 f op t s r
   ·rfl
theorem I3(f:Nat)(op:List Int)(t:TR)(s:bA): ∀gs acc,bM acc ((cV s gs).flatMap (dJ f op t s))=iW f op t s gs acc
 | [],acc=>by rw [iW];rfl |⟨k,cd,c,it,to,tm,b⟩::r,acc=>by
  have ih:=I3 f op t s r;rw [iW]
  by_cases h0:bH s cd=some 0
  ·rw [iT h0];have:cV s (⟨k,cd,c,it,to,tm,b⟩::r)=cV s r:=by
    unfold cV;rw [aj2];show (if decide (bH s cd≠some 0)=true then _ else _)=_;rw [iF (by simp [h0])]
   rw [this];exact ih acc
  ·rw [iF h0];have:cV s (⟨k,cd,c,it,to,tm,b⟩::r)=⟨k,cd,c,it,to,tm,b⟩::cV s r:=by
    unfold cV;rw [aj2];show (if decide (bH s cd≠some 0)=true then _ else _)=_;rw [iT (by simp [h0])]
   rw [this,af1];have hj: ∀a,bM acc (a++(cV s r).flatMap (dJ f op t s))=iW f op t s r (bM acc a):=fun a=>by unfold bM;rw [af2];exact ih _
   rw [hj];unfold dJ;show iW f op t s r (bM acc (if k=3 then (match cU op t c it to s with
    |some s'=>[(1,bD f op (t.drop 1) s' b)] |none=>[])
   else [(0,bD f op t s b)]))=_
   split
   ·cases cU op t c it to s with
    |none=>rfl |some s'=>rfl
   ·rfl
theorem zU{k:Int}(hk:k=12\/k=14\/k=15){f:Nat}{op:List Int}{t:TR}{s:bA}{c v it:Int}{to:List PL}{e:List KE}{gs:List GD}{l:List PR}:cG f op t s ⟨k,c,v,it,to,e,gs,l⟩=bM a7 (jZ k f op t s gs):=by
 rw [cX,iF (show¬k=1 by omega),iF (show¬k=3 by omega),iF (show¬k=4 by omega),iF (show¬k=5 by omega),iF (show¬k=6 by omega),iF (show¬k=9 by omega),iF (show¬k=13 by omega)];unfold jZ
 by_cases h12:k=12
 ·rw [iT h12,iT h12,O4]
 ·rw [iF h12,iF h12,iT (show k=14\/k=15 by omega)];split
  ·rw [I3]
  ·rfl
abbrev EV(p:PR)(s:bA)(t:TR)(op:List Int)(f:Nat):Prop:=Iter Tryz.prog tt dE aU 87 [.pe 8 (aE p), .pe 1 (aF s), .pe 3 (fS t op f)] ((jZ p.kind f op t s p.gs).map JS)
abbrev BodC(V:List KV)(f:Nat)(op:List Int)(p:PR):Prop:= ∀g,g∈p.gs-> ∀x,x∈g.body-> ∀(t:TR) (s:bA),l6 t->t.length<=256->bI V s->Pure Tryz.prog aU 25 [fS t op f,aE x,aF s] (oI (cG f op t s x))
theorem R0{V:List KV}{C:List Int}(p:PR)(u:Un V C p)(hk:p.kind=12)(f:Nat)(op:List Int)(t:TR)(s:bA)(ht:l6 t)(fN:t.length<=256)(hs:bI V s)(hR:BodC V f op p):EV p s t op f:=by
 have n2:((cA p.gs).length:Int)=p.gs.length:=by rw [cL]
 have hgl:=u.loc.lens.2.2.1;unfold EV jZ;rw [iT hk];refine ⟨Tryz.f87,_,Tryz.func87,rfl,rfl,rfl,rfl,fun w0 h0 c hfn h1 hg1 F Q Λ0 hl hi hlen hround hfin hstop=>?_⟩;(repeat refine A.s T ?_);refine A.aa 17 T (x':=AI (p.gs.length:Nat)) (aL n2) ?_;refine A.af [0,1,2,3,5,16,17,18] T ?_;refine A.ae (ι:=Nat) (fun i=>(⟨[(0, .v (.func (.yield c.lp) #[] #[])),(1, .pe 8 (aE p)),(2, .pe 1 (aF s)),(3, .pe 3 (fS t op f)),(5, .v (.slice none 0 0)),(16,zS p.gs),(17,AI (p.gs.length:Nat)),(18,AI (i:Nat))],[]⟩, .loop c.lp c.r0 .ready none::Λ0)) (fun i=>i<=p.gs.length/\LX f op t s p.gs=LX f op t s (p.gs.drop i)) (fun i=>p.gs.length-i) 0 ⟨aa4 _,by rw [ag3]⟩ T fun i hv ih=>?_;obtain ⟨hi1,hi2⟩:=hv;refine y_ ?_
 by_cases hci:i<p.gs.length
 ·refine aX hci fun g hg=>?_;have hgm:=aa2 hg;refine ab4 (u.loc.body g hgm) fun y hy=>?_;have hvp:=sX s hs.ws g.cond (u.loc.gs g hgm).1.1;rw [aK] at hvp;have hat:(aS g.body)[(0:Int).toNat]? =some (pC y):=aV (by rw [hy];rfl);have hrun:=hR g hgm y (by rw [hy];exact .head _) t s ht fN hs;rw [cB hg,LX] at hi2;refine T_ T (by show decide ((i:Int)<(p.gs.length:Nat))=true;rw [dT];omega) ?_;refine j_ T (bZ hg) (cK g) ?_;refine b_ fun b7=>?_;refine y_ ?_;refine n_ hvp ?_;refine al3 (dH (bH s g.cond)) (fun hx=>?_) (fun hx=>?_)
  ·rw [hx] at hi2;refine e_ 26 T (x':=jT none) (by rw [hx]) ?_;exact A.bp T T (List.sublist_cons_self _ _) (hfin _ (by rw [hi2];exact hi)) T
  ·refine ab4 hx fun v hx=>?_;rw [hx] at hi2;simp only at hi2;refine e_ 26 T (x':=jT (some v)) (by rw [hx]) ?_
   by_cases hv0:v=0
   ·rw [iT hv0] at hi2;refine T_ T (by show (v==0)=true;simpa using hv0) ?_;refine vI 18 i ?_;refine l_ (Λ':= .loop c.lp c.r0 .ready none::Λ0) ?_;refine u_ (ih (i+1) ⟨by omega,hi2⟩ (by omega))
   ·rw [iF hv0] at hi2;refine F_ T (by show (v==0)=false;simpa using hv0) ?_;refine e_ 35 T (x':=AB true) (aA (by rw [hk];rfl)) ?_;have hb1:bD f op t s g.body=cG f op t s y:=by rw [hy,bD]
    rw [hb1] at hi2;have hx0:((LX f op t s p.gs).map JS)[0]? =some (JS (0,cG f op t s y)):=by rw [hi2];rfl
    have hr:=hround 0 _ hx0;have hln:=hlen _ (aa2 hx0);have hl1:((LX f op t s p.gs).map JS).length=1:=by rw [hi2];rfl
    refine d_ 8 [0,1,2,3,4,5,6,7] [(7,oI (cG f op t s y))] ?_;refine gX T hat (bC y) ?_;refine WA.c T T hrun (.sub s_) ?_;refine WA.nil (l:=[]) T ?_;refine l_ (Λ':= .loop c.lp c.r0 .ready none::Λ0) ?_;refine A.ft c (xs:=JS (0,cG f op t s y)) (Λ2:=[]) T T T T T T hln .refl hl (by rw [aa9]) hi hr (fun Λ4 hi4=>?_) (fun st pd Λ4 hst4 hs4=>?_)
    ·refine A.ab (aa9 _) ?_;refine y_ ?_;exact A.bp T T (.refl _) (hfin _ (by rw [hl1];exact hi4)) T
    ·refine A.ab (aa9 _) ?_;refine y_ ?_;exact A.bp T T (.refl _) (hstop _ _ _ hst4 hs4) T
 ·refine A.gF T (by show decide ((i:Int)<(p.gs.length:Nat))=false;rw [dF];omega) ?_;rw [ad3 (by omega:p.gs.length<=i),LX] at hi2;refine A.val 5 T (x':= .sl 18 [] none) .nil ?_;refine y_ ?_;refine A.af [51,52] T ?_;refine A.ae (ι:=Unit) (fun i=>(⟨[(51,AI 0),(52,AI 0)],[]⟩, .loop c.lp c.r0 .ready none::Λ0)) (fun _=>True) (fun _=>0) () trivial T fun _ _ _=>?_;refine y_ ?_;exact A.bp T T (.refl _) (hfin _ (by rw [hi2];exact hi)) T
theorem mQ{α:Type}{l:List α}{i:Nat}{x:α}(h:l[i]? =some x):l.take (i+1)=l.take i++[x]:=by rw [ac9,h];rfl
theorem K1(s:bA){l:List GD}{i:Nat}{g:GD}(h:l[i]? =some g):cV s (l.take (i+1))=if bH s g.cond=some 0 then cV s (l.take i) else cV s (l.take i)++[g]:=by
 unfold cV;rw [mQ h,List.filter_append,aj2,List.filter_nil]
 by_cases h0:bH s g.cond=some 0
 ·rw [iT h0,iF (by simp [h0]),aa9]
 ·rw [iF h0,iT (by simp [h0])]
theorem wZ(s:bA)(l:List GD):(cV s l).length<=l.length:=List.length_filter_le ..
theorem B7(a:List GD)(x:GD):cA (a++[x])=cA a++[fG x]:=by rw [pY,pY,ac0,<-cK];rfl
theorem VR{s:bA}{gs:List GD}{g:GD}(hg:g∈gs)(h:bH s g.cond=none):jQ s gs=false:=by
 cases hh:jQ s gs with
 |false=>rfl |true=>
  unfold jQ at hh;have:=ae5.1 hh g hg;rw [h] at this;cases this
theorem tC{α:Type}{l:List GD}{w:GD->List α}{i:Nat}{g:GD}(h:l[i]? =some g):(l.take (i+1)).flatMap w=(l.take i).flatMap w++w g:=by rw [mQ h,aj6,af1,List.flatMap_nil,aa9]
theorem JN{α:Type}{l:List GD}{w:GD->List α}{i:Nat}{g:GD}{x:α}(h:l[i]? =some g)(hw:w g=[x]):(l.flatMap w)[((l.take i).flatMap w).length]? =some x:=by
 have hi:i<l.length:=(aa8.1 h).1;have hd:l=l.take i++(g::l.drop (i+1)):=by have:=(aa8.1 h).2;rw [<-this,<-aj5 hi,ae3]
 have:l.flatMap w=(l.take i).flatMap w++(w g++(l.drop (i+1)).flatMap w):=by
  conv=>lhs;rw [hd]
  rw [aj6,af1]
 rw [this,ae7 (ab3 _),ak3,hw];rfl
theorem MT{V:List KV}{C:List Int}(p:PR)(u:Un V C p)(hk:p.kind=14\/p.kind=15)(f:Nat)(op:List Int)(t:TR)(s:bA)(ht:l6 t)(fN:t.length<=256)(hop:op.length<=1048576)(hs:bI V s)(hR:BodC V f op p):EV p s t op f:=by
 have n2:((cA p.gs).length:Int)=p.gs.length:=by rw [cL]
 have n3:((cA (cV s p.gs)).length:Int)=(cV s p.gs).length:=by rw [cL]
 have hgl:=u.loc.lens.2.2.1;have hrl:=wZ s p.gs;unfold EV jZ;rw [iF (show¬p.kind=12 by omega)];refine ⟨Tryz.f87,_,Tryz.func87,rfl,rfl,rfl,rfl,fun w0 h0 c hfn h1 hg1 F Q Λ0 hl hi hlen hround hfin hstop=>?_⟩;(repeat refine A.s T ?_);refine A.bo 5 18 T fun z0=>?_;refine A.aa 17 T (x':=AI (p.gs.length:Nat)) (aL n2) ?_;refine A.af [0,1,2,3,5,16,17,18] T ?_;refine A.ae (ι:=Nat×Value) (fun v=>(⟨[(0, .v (.func (.yield c.lp) #[] #[])),(1, .pe 8 (aE p)),(2, .pe 1 (aF s)),(3, .pe 3 (fS t op f)),(5, .ms v.2 18 (cV s (p.gs.take v.1)).length),(16,zS p.gs),(17,AI (p.gs.length:Nat)),(18,AI (v.1:Nat))],[]⟩, .row 18 v.2 (cA (cV s (p.gs.take v.1))):: .loop c.lp c.r0 .ready none::Λ0)) (fun v=>v.1<=p.gs.length/\jQ s (p.gs.take v.1)=true) (fun v=>p.gs.length-v.1) (0,z0) ⟨aa4 _,by rw [ad1];rfl⟩ T fun v hv ih=>?_;obtain ⟨i,z⟩:=v;obtain ⟨hi1,hi2⟩:=hv;simp only at hi1 hi2;refine y_ ?_
 by_cases hci:i<p.gs.length
 ·refine aX hci fun g hg=>?_;have hgm:=aa2 hg;have hvp:=sX s hs.ws g.cond (u.loc.gs g hgm).1.1;rw [aK] at hvp;have hsn:=K1 s hg;have hrt:=wZ s (p.gs.take i);rw [ac1] at hrt;have hok1:bH s g.cond≠none->jQ s (p.gs.take (i+1))=true:=fun h=>by
   have: ∀a b:List GD,jQ s (a++b)=(jQ s a&&jQ s b):=fun a b=>al9;rw [mQ hg,this,hi2];show (true&&((bH s g.cond).isSome&&true))=true;cases hq:bH s g.cond with
   |none=>exact absurd hq h |some _=>rfl
  refine T_ T (by show decide ((i:Int)<(p.gs.length:Nat))=true;rw [dT];omega) ?_;refine j_ T (bZ hg) (cK g) ?_;refine b_ fun b7=>?_;refine y_ ?_;refine n_ hvp ?_;refine al3 (dH (bH s g.cond)) (fun hx=>?_) (fun hx=>?_)
  ·have hg0:=VR hgm hx;refine e_ 26 T (x':=jT none) (by rw [hx]) ?_;refine l_ (Λ':= .loop c.lp c.r0 .ready none::Λ0) ?_;exact A.bp T T (.refl _) (hfin _ (by rw [hg0];exact hi)) T
  ·refine ab4 hx fun v hx=>?_;have hok2:=hok1 (by rw [hx];intro h;cases h);refine e_ 26 T (x':=jT (some v)) (by rw [hx]) ?_
   by_cases hv0:v=0
   ·rw [iT (by rw [hx,hv0])] at hsn;refine T_ T (by show (v==0)=true;simpa using hv0) ?_;refine vI 18 i ?_;refine l_ (Λ':= .row 18 z (cA (cV s (p.gs.take i))):: .loop c.lp c.r0 .ready none::Λ0) ?_;refine A.aa 5 T (x':= .ms z 18 (cV s (p.gs.take (i+1))).length) (by rw [hsn]) ?_;refine A.ab (Λ':= .row 18 z (cA (cV s (p.gs.take (i+1)))):: .loop c.lp c.r0 .ready none::Λ0) (by rw [hsn]) ?_;refine u_ (ih (i+1,z) ⟨by show i+1<=_;omega,hok2⟩ (by show _-(i+1)<_-i;omega))
   ·rw [iF (by rw [hx];intro h;injection h with h;exact hv0 h)] at hsn;refine F_ T (by show (v==0)=false;simpa using hv0) ?_;refine A.aa 35 T (x':=AB false) (aA (by rw [beq_eq_false_iff_ne];show p.kind≠12;omega)) ?_;refine t_ fun bl=>?_;refine A.aj T T T T T T T T T T T T T T (by show ((cA (cV s (p.gs.take i))).length+1)*18<=_;rw [cL];omega) (ae9 (af7 _ (af7 _ (show (cA (cV s (p.gs.take i))).length+1<=17 by rw [cL];omega))) (by decide)) fun z2=>?_;refine y_ ?_;refine vI 18 i ?_;refine l_ (Λ':= .row 18 z2 (cA (cV s (p.gs.take i))++[fG g]):: .loop c.lp c.r0 .ready none::Λ0) ?_;refine A.aa 5 T (x':= .ms z2 18 (cV s (p.gs.take (i+1))).length) (by rw [hsn,aa1,cL];rfl) ?_;refine A.ab (Λ':= .row 18 z2 (cA (cV s (p.gs.take (i+1)))):: .loop c.lp c.r0 .ready none::Λ0) (by rw [hsn,B7]) ?_;refine u_ (ih (i+1,z2) ⟨by show i+1<=_;omega,hok2⟩ (by show _-(i+1)<_-i;omega))
 ·refine A.gF T (by show decide ((i:Int)<(p.gs.length:Nat))=false;rw [dF];omega) ?_;have htk:p.gs.take i=p.gs:=aa6 (by omega);rw [htk] at hi2;rw [hi2,iT T] at hlen hround hfin;clear ih;refine A.aa 5 T (x':= .ms z 18 (cV s p.gs).length) (by rw [htk]) ?_;refine A.ab (Λ':= .row 18 z (cA (cV s p.gs)):: .loop c.lp c.r0 .ready none::Λ0) (by rw [htk]) ?_;refine A.ar 5 T ?_;refine y_ ?_;refine A.aa 51 T (x':=AI ((cV s p.gs).length:Nat)) (aL n3) ?_;refine A.af [0,1,2,3,50,51,52] T ?_;refine A.ae (ι:=Nat×List aH) (fun v=>(⟨[(0, .v (.func (.yield c.lp) #[] #[])),(1, .pe 8 (aE p)),(2, .pe 1 (aF s)),(3, .pe 3 (fS t op f)),(50,zS (cV s p.gs)),(51,AI ((cV s p.gs).length:Nat)),(52,AI (v.1:Nat))],[]⟩, .loop c.lp c.r0 .ready none::v.2)) (fun v=>v.1<=(cV s p.gs).length/\c.Inv (((cV s p.gs).take v.1).flatMap (dJ f op t s)).length v.2) (fun v=>(cV s p.gs).length-v.1) (0,Λ0) ⟨aa4 _,by rw [ad1];exact hi⟩ T fun v hv ih=>?_;obtain ⟨j,Λ1⟩:=v;obtain ⟨hj1,hj2⟩:=hv;simp only at hj1 hj2;refine y_ ?_
  by_cases hcj:j<(cV s p.gs).length
  ·refine aX hcj fun g hg=>?_;have hgm:g∈p.gs:=(aj0.1 (aa2 hg)).1;refine ab4 (u.loc.body g hgm) fun y hy=>?_;have hat:(aS g.body)[(0:Int).toNat]? =some (pC y):=aV (by rw [hy];rfl);refine T_ T (by show decide ((j:Int)<((cV s p.gs).length:Nat))=true;rw [dT];omega) ?_;refine j_ T (bZ hg) (cK g) ?_;refine b_ fun b11=>?_;refine y_ ?_;refine d_ 4 [0,1,2,3] [] ?_;refine z_ ?_
   by_cases h3:g.kind=3
   ·have hin:=FQ t op f g.c g.item g.to s hs ht (u.loc.gs g hgm).2.2.1 (by have:=(u.loc.gs g hgm).2.2.2.1;omega) (by omega);have hgd:fO V C.length g.c g.item g.to=true:=by
     have:=u.kg (.inr hk) g hgm;unfold fH at this;rw [iF (by omega),iT h3] at this;simp only [aa3] at this;exact this.2.2
    refine T_ T (by show (g.kind==3)=true;simpa using h3) ?_;refine n_ hin ?_;refine al3 (dH (cU op t g.c g.item g.to s)) (fun hx=>?_) (fun hx=>?_)
    ·have hw1:dJ f op t s g=[]:=by unfold dJ;rw [iT h3,hx]
     refine e_ 69 T (x':=DC none) (by rw [hx]) ?_;refine d_ 13 [0,1,2,3,4,5,7,8,9,10,11,6,12] [] ?_;refine z_ ?_;refine vI 52 j ?_;refine l_ (Λ':= .loop c.lp c.r0 .ready none::Λ1) ?_;refine u_ (ih (j+1,Λ1) ⟨by show j+1<=_;omega,by show c.Inv _ Λ1;rw [tC hg,hw1,aa9];exact hj2⟩ (by show _-(j+1)<_-j;omega))
    ·refine ab4 hx fun s' hx=>?_;have hs':=yH hs ht hgd hx;have h1l:=p8 hx;have hrun:=hR g hgm y (by rw [hy];exact .head _) (t.drop 1) s' (oE ht 1) (by rw [ad7];omega) hs';have hfr:=MS t op f 1 h1l;refine ab4 (show∃n:Nat,n=1 from ⟨1,rfl⟩) fun n hn=>?_;refine eX (cG f op (t.drop n) s' y) fun q hq=>?_;rw [<-hn] at hrun hfr;rw [<-hq] at hrun;have hw1:dJ f op t s g=[(n,q)]:=by unfold dJ;rw [iT h3,hx];show [(1,bD f op (t.drop 1) s' g.body)]=_;rw [hq,hn,hy,bD]
     have hgx:(((cV s p.gs).flatMap (dJ f op t s)).map JS)[(((cV s p.gs).take j).flatMap (dJ f op t s)).length]? =some (JS (n,q)):=by rw [ab5,JN hg hw1];rfl
     have hr:=hround _ _ hgx;have hln:=hlen _ (aa2 hgx);refine e_ 69 T (x':=DC (some s')) (by rw [hx]) ?_;refine A.aa 12 T (x':=AI (n:Nat)) (by rw [hn];rfl) ?_;refine A.af [0,1,2,3,11,12,13,14,50,51,52] T ?_;refine d_ 13 [0,1,2,3,4,5,7,8,9,10,11,6,12] [(6,fS (t.drop n) op f),(12,oI q)] ?_;refine gX T hat (bC y) ?_;refine WA.c T T hfr (.sub s_) ?_;refine WA.c T T hrun (.sub s_) ?_;refine WA.nil (l:=[]) T ?_;refine l_ (Λ':= .loop c.lp c.r0 .ready none::Λ1) ?_;refine A.ft c (xs:=JS (n,q)) (Λ2:=[]) T T T T T T hln .refl hl (by rw [aa9]) hj2 hr (fun Λ4 hi4=>?_) (fun st pd Λ4 hst4 hs4=>?_)
     ·refine A.ab (aa9 _) ?_;refine y_ ?_;refine vI 52 j ?_;refine u_ (ih (j+1,Λ4) ⟨by show j+1<=_;omega,by show c.Inv _ Λ4;rw [tC hg,hw1,aa1];exact hi4⟩ (by show _-(j+1)<_-j;omega))
     ·refine A.ab (aa9 _) ?_;refine y_ ?_;exact A.bp T T (.refl _) (hstop _ _ _ hst4 hs4) T
   ·have hrun:=hR g hgm y (by rw [hy];exact .head _) t s ht fN hs;have hfr:=MS t op f 0 (aa4 _);refine ab4 (show∃n:Nat,n=0 from ⟨0,rfl⟩) fun n hn=>?_;refine eX (cG f op t s y) fun q hq=>?_;rw [<-hn] at hfr;rw [<-hq,show t=t.drop n by rw [hn,ag3]] at hrun;have hw1:dJ f op t s g=[(n,q)]:=by unfold dJ;rw [iF h3,hn,hq,hy,bD]
    have hgx:(((cV s p.gs).flatMap (dJ f op t s)).map JS)[(((cV s p.gs).take j).flatMap (dJ f op t s)).length]? =some (JS (n,q)):=by rw [ab5,JN hg hw1];rfl
    have hr:=hround _ _ hgx;have hln:=hlen _ (aa2 hgx);refine A.gF T (by show (g.kind==3)=false;simpa using h3) ?_;refine A.aa 12 T (x':=AI (n:Nat)) (by rw [hn];rfl) ?_;refine A.af [0,1,2,3,11,12,13,14,50,51,52,59] T ?_;refine y_ ?_;refine d_ 13 [0,1,2,3,4,5,7,8,9,10,11,6,12] [(6,fS (t.drop n) op f),(12,oI q)] ?_;refine gX T hat (bC y) ?_;refine WA.c T T hfr (.sub s_) ?_;refine WA.c T T hrun (.sub s_) ?_;refine WA.nil (l:=[]) T ?_;refine l_ (Λ':= .loop c.lp c.r0 .ready none::Λ1) ?_;refine A.ft c (xs:=JS (n,q)) (Λ2:=[]) T T T T T T hln .refl hl (by rw [aa9]) hj2 hr (fun Λ4 hi4=>?_) (fun st pd Λ4 hst4 hs4=>?_)
    ·refine A.ab (aa9 _) ?_;refine y_ ?_;refine vI 52 j ?_;refine u_ (ih (j+1,Λ4) ⟨by show j+1<=_;omega,by show c.Inv _ Λ4;rw [tC hg,hw1,aa1];exact hi4⟩ (by show _-(j+1)<_-j;omega))
    ·refine A.ab (aa9 _) ?_;refine y_ ?_;exact A.bp T T (.refl _) (hstop _ _ _ hst4 hs4) T
  ·refine A.gF T (by show decide ((j:Int)<((cV s p.gs).length:Nat))=false;rw [dF];omega) ?_;rw [aa6 (by omega)] at hj2;refine y_ ?_;exact A.bp T T (.refl _) (hfin _ (by rw [aa0];exact hj2)) T
theorem evSt(a b c d:Int):EqSt Tryz.prog 54 [.int .i64 a, .int .i32 b] [.int .i64 c, .int .i32 d] (a==c&&b==d) where
 guard:=by kernel_rfl
 run:=fun w=>by
  have hS:Tryz.prog.underlying 54=some (.struct (Tryz.prog.fieldsOf 54)):=by kernel_rfl
  have hF:(Tryz.prog.fieldsOf 54).toList=(#[⟨"C",3,0,false, "", "",0⟩,⟨"V",21,1,false, "", "",8⟩]:Array Field).toList:=by kernel_rfl
  have hp:Tryz.prog.stoodInHeld 54=false:=by kernel_rfl
  have u1:Tryz.prog.underlying 3=some (.int .i64):=by kernel_rfl
  have u2:Tryz.prog.underlying 21=some (.int .i32):=by kernel_rfl
  have k1:=TT.Ok.get dE (show tt.get 3=some _ from rfl);have k2:=TT.Ok.get dE (show tt.get 21=some _ from rfl);have p1: ∀(x y:Int),(part 3 ⟨[.int .i64 x, .int .i32 y]⟩ 0).run Tryz.prog w= .ok (.int .i64 x) w:=fun x y=>D1 k1 T;have p2: ∀(x y:Int),(part 21 ⟨[.int .i64 x, .int .i32 y]⟩ 1).run Tryz.prog w= .ok (.int .i32 y) w:=fun x y=>D1 k2 T;have q1:=run_equalIn_int (P:=Tryz.prog) w 9998 3 .i64 .i64 a c u1;have q2:=run_equalIn_int (P:=Tryz.prog) w 9998 21 .i32 .i32 b d u2;rw [show (10000:Nat)=9999+1 from rfl,run_equalIn_agg w 9999 _ _ _ hS hp,hF];simp only [Op.eqFields,ne_eq,Sem.run_bind,Sem.run_ite,p1,p2,q1,q2,Result.andThen_ok,Sem.run_pure];cases h1:(a==c)<;>cases h2:(b==d)<;>simp
abbrev knum(n:Int):KE:=⟨1,0,0,n,0,[]⟩
abbrev kvar(v:Int):KE:=⟨2,0,0,0,v,[]⟩
abbrev pOut:PR:=⟨6,2,0,1,[],[knum 5],[],[]⟩
abbrev pIn:PR:=⟨5,2,0,1,[⟨0,[]⟩],[],[],[]⟩
abbrev pTell:PR:=⟨6,1,0,1,[],[kvar 0],[],[]⟩
abbrev pSeq:PR:=⟨9,0,0,0,[],[],[],[pIn,pTell]⟩
abbrev pRoot:PR:=⟨10,0,0,0,[],[],[],[pOut,pSeq]⟩
abbrev st0:ST:=⟨[[0]],pRoot,[],0⟩
abbrev st2:ST:=⟨[[5]],skipR,[],0⟩
structure xR(V:List KV)(m:Nat)(x:ZI):Prop where
 n:x.1<=m
 ok:zF V x.2 (m-x.1) 2000
theorem MD{V:List KV}{C:List Int}{p:PR}(u:Un V C p){f:Nat}(hw: ∀g,g∈p.gs-> ∀x,x∈g.body->bF x f<=2000){g:GD}(hg:g∈p.gs)(op:List Int){t:TR}{s:bA}(ht:l6 t)(hs:bI V s):zF V (bD f op t s g.body) t.length 2000:=by
 obtain ⟨y,hy⟩:=u.loc.body g hg;have hm:y∈g.body:=by rw [hy];exact .head _
 have:=yQ (f:=f) (u.g g hg y hm) op t s ht hs;rw [hy,bD];exact ⟨this.wf,this.ok,ae9 this.len (hw g hg y hm)⟩
theorem WH{V:List KV}{C:List Int}{p:PR}(u:Un V C p){f:Nat}(hw: ∀g,g∈p.gs-> ∀x,x∈g.body->bF x f<=2000){g:GD}(hg:g∈p.gs)(hgb:g.kind=3->fO V C.length g.c g.item g.to=true)(op:List Int){t:TR}{s:bA}(ht:l6 t)(hs:bI V s): ∀x,x∈dJ f op t s g->xR V t.length x:=by
 intro x hx;unfold dJ at hx;split at hx
 ·rename_i h3;cases hin:cU op t g.c g.item g.to s with
  |none=>rw [hin] at hx;cases hx |some s'=>
   rw [hin] at hx;simp only at hx;rw [ab0] at hx;subst hx;have:=MD u hw hg op (oE ht 1) (yH hs ht (hgb h3) hin);rw [ad7] at this;exact ⟨p8 hin,this⟩
 ·rw [ab0] at hx;subst hx;exact ⟨aa4 _,MD u hw hg op ht hs⟩
theorem J0{V:List KV}{C:List Int}{p:PR}(u:Un V C p)(hk:p.kind=12\/p.kind=14\/p.kind=15){f:Nat}(hw: ∀g,g∈p.gs-> ∀x,x∈g.body->bF x f<=2000)(op:List Int){t:TR}{s:bA}(ht:l6 t)(hs:bI V s):(∀x,x∈jZ p.kind f op t s p.gs->xR V t.length x)/\(jZ p.kind f op t s p.gs).length<=16:=by
 have hgl:=u.loc.lens.2.2.1;unfold jZ
 by_cases h12:p.kind=12
 ·rw [iT h12];have key: ∀gs:List GD,(∀g,g∈gs->g∈p.gs)->(∀x,x∈LX f op t s gs->xR V t.length x)/\(LX f op t s gs).length<=1:=by
   intro gs
   induction gs with
   |nil=>intro _;rw [LX];exact ⟨fun x hx=>(by cases hx),aa4 _⟩ |cons g r ih=>
    intro hg;have i1:=ih fun x hx=>hg x (.tail _ hx);rw [LX];cases bH s g.cond with
    |none=>exact ⟨fun x hx=>(by cases hx),aa4 _⟩ |some v=>
     simp only;split
     ·exact i1
     ·refine ⟨fun x hx=>?_,ab3 _⟩;rw [ab0] at hx;subst hx;exact ⟨aa4 _,MD u hw (hg g (.head _)) op ht hs⟩
  have:=key p.gs fun g h=>h;exact ⟨this.1,by omega⟩
 ·rw [iF h12];split
  ·have hone: ∀g,g∈p.gs-> ∀x,x∈dJ f op t s g->xR V t.length x:=fun g hg=>WH u hw hg (fun h3=>by
    have:=u.kg hk g hg;unfold fH at this;rw [iF (by omega),iT h3] at this;simp only [aa3] at this;exact this.2.2) op ht hs
   refine ⟨fun x hx=>?_,?_⟩
   ·obtain ⟨g,hg,hx⟩:=ai4.1 hx;exact hone g (aj0.1 hg).1 x hx
   ·have h1: ∀g,(dJ f op t s g).length<=1:=fun g=>by
     unfold dJ;split
     ·cases cU op t g.c g.item g.to s<;>simp
     ·simp
    have: ∀l:List GD,(l.flatMap (dJ f op t s)).length<=l.length:=by
     intro l
     induction l with
     |nil=>simp |cons g r ih=>
      rw [af1,aa1,ab7];have:=h1 g;omega
    have h2:=this (cV s p.gs);have h3:=wZ s p.gs;omega
  ·exact ⟨fun x hx=>(by cases hx),aa4 _⟩
theorem r9{V:List KV}{m:Nat}: ∀(l:List ZI) (acc:RN) (b:Nat),(∀x,x∈l->xR V m x)->zF V acc m b->zF V (bM acc l) m (b+l.length*2000)
 | [],acc,b,_,h=>⟨h.wf,h.ok,by have:=h.len;show acc.ends.length<=_;omega⟩ |x::r,acc,b,hx,h=>by have h1:=hx x (.head _);have:=r9 r (cM acc x.1 x.2) (b+2000) (fun y hy=>hx y (.tail _ hy)) ⟨h.wf.join h1.ok.wf h1.n,h.ok.join h1.ok.ok,by have:=qA acc x.1 x.2;have:=h.len;have:=h1.ok.len;omega⟩;exact ⟨this.wf,this.ok,by have:=this.len;rw [ab7];show (bM (cM acc x.1 x.2) r).ends.length<=_;omega⟩
theorem KC(V:List KV)(m:Nat):zF V a7 m 0:=⟨iM m,sW.nil,ab3 _⟩
theorem pJ{l:List ZI}{i:Nat}{x:ZI}(h:l[i]? =some x):bM a7 (l.take (i+1))=cM (bM a7 (l.take i)) x.1 x.2:=by unfold bM;rw [mQ h,af2];rfl
theorem V0(p:PR)(s:bA)(t:TR)(op:List Int)(f:Nat):Pure Tryz.prog aU 47 [fS t op f,aE p,aF s] (.fn 87 [] [.pe 8 (aE p), .pe 1 (aF s), .pe 3 (fS t op f)]):=by refine P_ Tryz.func47 8 fun _ _ _ _=>?_;refine b_ fun b3=>?_;refine A.b T fun b4=>?_;refine A.b T fun b5=>?_;refine A.freeze 3 (sz:=3) T T T ?_;refine A.freeze 4 (sz:=8) T T T ?_;refine A.freeze 5 (sz:=1) T T T ?_;exact tV
structure T1(V:List KV)(C:List Int)(f:Nat)(op:List Int)(t:TR)(s:bA)(p:PR):Prop where
 seq:p.kind=9->Pure Tryz.prog aU 45 [fS t op f,pN p.l,aF s] (oI (bB f op t s p.l))
 loop:p.kind=13->Pure Tryz.prog aU 46 [fS t op f,aE p,aF s] (oI (cG f op t s p))
 gs:p.kind=12\/p.kind=14\/p.kind=15->EV p s t op f
 par:p.kind=10\/p.kind=11->Pure Tryz.prog aU 48 [fS t op f,pN p.l,aF s] (oI (qW (p.l.map aB) (hJ f op (p.l.map aB) 0 t s p.l) t s))
 way:p.kind=12\/p.kind=14\/p.kind=15-> ∀g,g∈p.gs-> ∀x,x∈g.body->bF x f<=2000
theorem kO{V:List KV}{C:List Int}(p:PR)(u:Un V C p)(f:Nat)(op:List Int)(t:TR)(s:bA)(ht:l6 t)(fN:t.length<=256)(hop:op.length<=1048576)(hs:bI V s)(P:T1 V C f op t s p)(hk:p.kind=1\/p.kind=2\/p.kind=4\/p.kind=9\/p.kind=10\/p.kind=11\/p.kind=13\/p.kind=16):Pure Tryz.prog aU 25 [fS t op f,aE p,aF s] (oI (cG f op t s p)):=by
 have hfin:=CB (V:=V) s hs;rcases hk with hk|hk|hk|hk|hk|hk|hk|hk
 ·have hR:cG f op t s p=fM s:=by obtain ⟨k,c,v,it,to,e,gs,l⟩:=p;rw [cX];exact iT hk
  rw [hR];refine P_ Tryz.func25 146 fun _ _ _ _=>?_;refine b_ fun b3=>?_;refine A.b T fun b4=>?_;refine A.b T fun b6=>?_;(repeat refine A.s T ?_);refine A.r T T ?_;refine e_ 17 T (x':=cC 1) (by rw [hk]) ?_;refine c_ hfin ?_;refine C_ ?_;exact s_
 ·have hR:cG f op t s p=a7:=by
   obtain ⟨k,c,v,it,to,e,gs,l⟩:=p;have hk:k=2:=hk;rw [cX,iF (show¬k=1 by omega),iF (show¬k=3 by omega),iF (show¬k=4 by omega),iF (show¬k=5 by omega),iF (show¬k=6 by omega),iF (show¬k=9 by omega),iF (show¬k=13 by omega),iF (show¬k=12 by omega),iF (show¬(k=14\/k=15) by omega),iF (show¬(k=10\/k=11) by omega)]
  rw [hR];refine P_ Tryz.func25 146 fun _ _ _ _=>?_;refine b_ fun b3=>?_;refine A.b T fun b4=>?_;refine A.b T fun b6=>?_;(repeat refine A.s T ?_);refine A.r T T ?_;refine e_ 17 T (x':=cC 2) (by rw [hk]) ?_;refine C_ ?_;exact s_
 ·have hR:cG f op t s p=(match iN s p.to p.e s with|some s'=>fM s'|none=>a7):=by
   obtain ⟨k,c,v,it,to,e,gs,l⟩:=p;have hk:k=4:=hk;rw [cX,iF (show¬k=1 by omega),iF (show¬k=3 by omega),iT (show k=4 by omega)]
   rfl
  have ha:=asgn_p p u hk s hs;refine al3 (dH (iN s p.to p.e s)) (fun hx=>?_) (fun hx=>?_)
  ·rw [hR,hx];rw [hx] at ha;refine P_ Tryz.func25 146 fun _ _ _ _=>?_;refine b_ fun b3=>?_;refine A.b T fun b4=>?_;refine A.b T fun b6=>?_;(repeat refine A.s T ?_);refine A.r T T ?_;refine e_ 17 T (x':=cC 4) (by rw [hk]) ?_;refine c_ ha ?_;refine C_ ?_;exact s_
  ·obtain ⟨s',hx⟩:=hx;have hs':=L8 hs p.to p.e s s' hs u.ir (u.k4 hk).2 hx;have hfin':=CB (V:=V) s' hs';rw [hR,hx];rw [hx] at ha;refine P_ Tryz.func25 146 fun _ _ _ _=>?_;refine b_ fun b3=>?_;refine A.b T fun b4=>?_;refine A.b T fun b6=>?_;(repeat refine A.s T ?_);refine A.r T T ?_;refine e_ 17 T (x':=cC 4) (by rw [hk]) ?_;refine c_ ha ?_;refine c_ hfin' ?_;refine C_ ?_;exact s_
 ·have hR:cG f op t s p=bB f op t s p.l:=by
   obtain ⟨k,c,v,it,to,e,gs,l⟩:=p;have hk:k=9:=hk;rw [cX,iF (show¬k=1 by omega),iF (show¬k=3 by omega),iF (show¬k=4 by omega),iF (show¬k=5 by omega),iF (show¬k=6 by omega),iT (show k=9 by omega)]
  have hc:=P.seq hk;rw [hR];refine P_ Tryz.func25 146 fun _ _ _ _=>?_;refine b_ fun b3=>?_;refine A.b T fun b4=>?_;refine A.b T fun b6=>?_;(repeat refine A.s T ?_);refine A.r T T ?_;refine e_ 17 T (x':=cC 9) (by rw [hk]) ?_;refine c_ hc ?_;refine C_ ?_;exact s_
 ·have hR:cG f op t s p=qW (p.l.map aB) (hJ f op (p.l.map aB) 0 t s p.l) t s:=by
   obtain ⟨k,c,v,it,to,e,gs,l⟩:=p;have hk:k=10:=hk;rw [cX,iF (show¬k=1 by omega),iF (show¬k=3 by omega),iF (show¬k=4 by omega),iF (show¬k=5 by omega),iF (show¬k=6 by omega),iF (show¬k=9 by omega),iF (show¬k=13 by omega),iF (show¬k=12 by omega),iF (show¬(k=14\/k=15) by omega),iT (show (k=10\/k=11) by omega)]
  have hc:=P.par (.inl hk);rw [hR];refine P_ Tryz.func25 146 fun _ _ _ _=>?_;refine b_ fun b3=>?_;refine A.b T fun b4=>?_;refine A.b T fun b6=>?_;(repeat refine A.s T ?_);refine A.r T T ?_;refine e_ 17 T (x':=cC 10) (by rw [hk]) ?_;refine c_ hc ?_;refine C_ ?_;exact s_
 ·have hR:cG f op t s p=qW (p.l.map aB) (hJ f op (p.l.map aB) 0 t s p.l) t s:=by
   obtain ⟨k,c,v,it,to,e,gs,l⟩:=p;have hk:k=11:=hk;rw [cX,iF (show¬k=1 by omega),iF (show¬k=3 by omega),iF (show¬k=4 by omega),iF (show¬k=5 by omega),iF (show¬k=6 by omega),iF (show¬k=9 by omega),iF (show¬k=13 by omega),iF (show¬k=12 by omega),iF (show¬(k=14\/k=15) by omega),iT (show (k=10\/k=11) by omega)]
  have hc:=P.par (.inr hk);rw [hR];refine P_ Tryz.func25 146 fun _ _ _ _=>?_;refine b_ fun b3=>?_;refine A.b T fun b4=>?_;refine A.b T fun b6=>?_;(repeat refine A.s T ?_);refine A.r T T ?_;refine e_ 17 T (x':=cC 11) (by rw [hk]) ?_;refine c_ hc ?_;refine C_ ?_;exact s_
 ·have hc:=P.loop hk;refine P_ Tryz.func25 146 fun _ _ _ _=>?_;refine b_ fun b3=>?_;refine A.b T fun b4=>?_;refine A.b T fun b6=>?_;(repeat refine A.s T ?_);refine A.r T T ?_;refine e_ 17 T (x':=cC 13) (by rw [hk]) ?_;refine c_ hc ?_;refine C_ ?_;exact s_
 ·have hR:cG f op t s p=a7:=by
   obtain ⟨k,c,v,it,to,e,gs,l⟩:=p;have hk:k=16:=hk;rw [cX,iF (show¬k=1 by omega),iF (show¬k=3 by omega),iF (show¬k=4 by omega),iF (show¬k=5 by omega),iF (show¬k=6 by omega),iF (show¬k=9 by omega),iF (show¬k=13 by omega),iF (show¬k=12 by omega),iF (show¬(k=14\/k=15) by omega),iF (show¬(k=10\/k=11) by omega)]
  rw [hR];refine P_ Tryz.func25 146 fun _ _ _ _=>?_;refine b_ fun b3=>?_;refine A.b T fun b4=>?_;refine A.b T fun b6=>?_;(repeat refine A.s T ?_);refine A.r T T ?_;refine e_ 17 T (x':=cC 16) (by rw [hk]) ?_;refine C_ ?_;exact s_
theorem S5{V:List KV}{C:List Int}(p:PR)(u:Un V C p)(f:Nat)(op:List Int)(t:TR)(s:bA)(hs:bI V s)(hk:p.kind=3):Pure Tryz.prog aU 25 [fS t op f,aE p,aF s] (oI (cG f op t s p)):=by
 obtain ⟨hv0,hv1⟩:=u.k3 hk;have hsl:s.length=V.length:=(iD hs.may).1;refine ab4 (bT (l:=s) (i:=p.v.toNat) (by omega)) fun row hrow=>?_;have hrl:row.length<=64:=(dX hs).2 row (aa2 hrow);have nr:((row.map aN).length:Int)=row.length:=by rw [aa0]
 have hR:cG f op t s p=fM (rR s p.v row.length):=by
  obtain ⟨k,c,v,it,to,e,gs,l⟩:=p;have hk:k=3:=hk;rw [cX,iF (show¬k=1 by omega),iT hk];unfold G8;have hrow:s[v.toNat]? =some row:=hrow;rw [hrow]
  rfl
 have hfin:=CB (V:=V) (rR s p.v row.length) (rS hs p.v _);rw [hR];refine P_ Tryz.func25 146 fun _ _ _ _=>?_;refine b_ fun b3=>?_;refine A.b T fun b4=>?_;refine A.b T fun b6=>?_;(repeat refine A.s T ?_);refine A.r T T ?_;refine e_ 17 T (x':=cC 3) (by rw [hk]) ?_;refine A.x T hv0 (aC hrow) T T ?_;refine y_ ?_;refine A.aa 29 T (x':=AI (row.length:Nat)) (aL nr) ?_;refine A.af [2,4,6,29,30] T ?_;refine A.ae (ι:=Nat) (fun i=>(⟨[(2,aF (rR s p.v i)),(4,aT b4),(6,aT b6),(29,AI (row.length:Nat)),(30,AI (i:Nat))],[]⟩,[.box b6 (.ag (List.map AV.v YX.zero)), .box b4 (aE p), .box b3 (fS t op f)])) (fun i=>i<=row.length) (fun i=>row.length-i) 0 (aa4 _) T fun i hi ih=>?_;refine y_ ?_
 by_cases hci:i<row.length
 ·have hput:=(rS hs p.v i).small.put_p p.v (i:Nat) 0;rw [<-zM] at hput;refine T_ T (by show decide ((i:Int)<(row.length:Nat))=true;rw [dT];omega) ?_;refine c_ hput ?_;refine vI 30 i ?_;refine u_ (ih (i+1) (by show i+1<=_;omega) (by show _-(i+1)<_-i;omega))
 ·refine A.gF T (by show decide ((i:Int)<(row.length:Nat))=false;rw [dF];omega) ?_;refine e_ 2 T (x':=aF (rR s p.v row.length)) (by rw [show i=row.length by omega]) ?_;refine c_ hfin ?_;refine C_ ?_;exact s_
theorem W5(V:List KV):rN V a7:=PS V
theorem run_iq{V:List KV}{C:List Int}(p:PR)(u:Un V C p)(f:Nat)(op:List Int)(t:TR)(s:bA)(ht:l6 t)(fN:t.length<=256)(hop:op.length<=1048576)(hs:bI V s)(hk:p.kind=5):Pure Tryz.prog aU 25 [fS t op f,aE p,aF s] (oI (cG f op t s p)):=by
 obtain ⟨q,hq,hib⟩:=u.k5 hk;obtain ⟨w1,w2⟩:=QA u (show q∈p.to by rw [hq];exact .head _);have hin:=FQ t op f p.c p.item q s hs ht w1 w2 (by omega);have hat:(p.to.map gZ)[(0:Int).toNat]? =some (gZ q):=by rw [hq];rfl
 have hR:cG f op t s p=(match cU op t p.c p.item q s with|some s'=>cM a7 1 (fM s')|none=>a7):=by
  obtain ⟨k,c,v,it,to,e,gs,l⟩:=p;have hk:k=5:=hk;have hq:to=[q]:=hq;rw [cX,iF (show¬k=1 by omega),iF (show¬k=3 by omega),iF (show¬k=4 by omega),iT hk,hq]
  rfl
 refine al3 (dH (cU op t p.c p.item q s)) (fun hx=>?_) (fun hx=>?_)
 ·rw [hR,hx];rw [hx] at hin;refine P_ Tryz.func25 146 fun _ _ _ _=>?_;refine b_ fun b3=>?_;refine A.b T fun b4=>?_;refine A.b T fun b6=>?_;(repeat refine A.s T ?_);refine A.r T T ?_;refine e_ 17 T (x':=cC 5) (by rw [hk]) ?_;refine d_ 16 [0,1,2,3,4,5,6,7,8,9,10,11,12,13,14,15] [(10,DC none)] ?_;refine gX T hat T ?_;refine rL hin ?_;refine z_ ?_;refine C_ ?_;exact s_
 ·obtain ⟨s',hx⟩:=hx;have hs':=yH hs ht hib hx;have h1l:=p8 hx;have hfin:=CB (V:=V) s' hs';rw [hR,hx];rw [hx] at hin;have hj1:=fun b6=>p9 (V:=V) b6 0 (.slice none 0 0) a7 (fM s') 1 (W5 V) (fun e he=>by rw [ab0.1 he];exact ⟨hs',by show 1+0<=256;omega⟩) (by show 0+1<=_;omega) (by show 0<=_;omega) (by show 1+0<=_;omega);refine P_ Tryz.func25 146 fun _ _ _ _=>?_;refine b_ fun b3=>?_;refine A.b T fun b4=>?_;refine A.b T fun b6=>?_;(repeat refine A.s T ?_);refine A.r T T ?_;refine e_ 17 T (x':=cC 5) (by rw [hk]) ?_;refine d_ 16 [0,1,2,3,4,5,6,7,8,9,10,11,12,13,14,15] [(10,DC (some s'))] ?_;refine gX T hat T ?_;refine rL hin ?_;refine z_ ?_;refine n_ hfin ?_;have hj1:=hj1 b6;refine A.bn (b:=b6) (x':=yX (.slice none 0 0) 0 a7) (c9 [0,1,2] T T T T) yY ?_;refine A.av 2 ?_;refine A.perm (Λ':=nN b6 (.slice none 0 0) 0 a7++[.box b4 (aE p), .box b3 (fS t op f)]) (c9 [1,0,2,3] T T T T) ?_;refine A.less (Λ':=nN b6 (.slice none 0 0) 0 a7) (List.sublist_append_left _ _) ?_;refine A.e T hj1 s_ (Λ2:=[]) (by rw [aa9]) fun v _=>?_;refine A.ab (aa9 _) ?_;obtain ⟨z,m⟩:=v;refine A.less (Λ':=[.box b6 (yX z m (cM a7 1 (fM s'))), .row 2 z ((cM a7 1 (fM s')).ends.map cT)]) (List.Sublist.cons_cons _ (List.Sublist.cons_cons _ (ae0 _))) ?_;refine A.ak 6 z (x':=oI _) T (AG z m _) ?_;refine y_ ?_;refine C_ ?_;exact s_
theorem a0O{V:List KV}{C:List Int}(p:PR)(u:Un V C p)(f:Nat)(op:List Int)(t:TR)(s:bA)(ht:l6 t)(fN:t.length<=256)(hop:op.length<=1048576)(hs:bI V s)(hk:p.kind=6):Pure Tryz.prog aU 25 [fS t op f,aE p,aF s] (oI (cG f op t s p)):=by
 obtain ⟨x,hq⟩:=u.k6 hk;have hvp:=sX s hs.ws x (u.ir x (by rw [hq];exact .head _));rw [aK] at hvp;have hat:(bK p.e)[(0:Int).toNat]? =some (dK x):=eW (by rw [hq];rfl);have hhas:=A7 op p.c (by omega);have hfin:=CB (V:=V) s hs;have hR:cG f op t s p=(if fT op t p.c x s=true then cM a7 1 (fM s) else a7):=by obtain ⟨k,c,v,it,to,e,gs,l⟩:=p;have hk:k=6:=hk;have hq:e=[x]:=hq;rw [cX,iF (show¬k=1 by omega),iF (show¬k=3 by omega),iF (show¬k=4 by omega),iF (show¬k=5 by omega),iT hk,hq]
 refine al3 (dH (bH s x)) (fun hx=>?_) (fun hx=>?_)
 ·have ho:fT op t p.c x s=false:=by unfold fT;rw [hx]
  rw [hR,ho,iF (by decide)];rw [hx] at hvp;refine P_ Tryz.func25 146 fun _ _ _ _=>?_;refine b_ fun b3=>?_;refine A.b T fun b4=>?_;refine A.b T fun b6=>?_;(repeat refine A.s T ?_);refine A.r T T ?_;refine e_ 17 T (x':=cC 6) (by rw [hk]) ?_;refine i_ T hat (aK x) ?_;refine c_ hvp ?_;refine d_ 25 [0,1,2,3,4,5,6,7,8,9,10,11,12,13,14,15,16,17,18,19,20,21,22,23,24] [] ?_;refine z_ ?_;refine C_ ?_;exact s_
 obtain ⟨v,hx⟩:=hx;rw [hx] at hvp
 by_cases hc:op.contains p.c=true
 case neg=>
  have hc0:op.contains p.c=false:=by simpa using hc
  have ho:fT op t p.c x s=false:=by unfold fT;rw [hx];show (decide (p.c∈op)&&_)=false;rw [decide_eq_false (fun h=>hc (aj9.2 h)),Bool.false_and]
  rw [hR,ho,iF (by decide)];rw [hc0] at hhas;refine P_ Tryz.func25 146 fun _ _ _ _=>?_;refine b_ fun b3=>?_;refine A.b T fun b4=>?_;refine A.b T fun b6=>?_;(repeat refine A.s T ?_);refine A.r T T ?_;refine e_ 17 T (x':=cC 6) (by rw [hk]) ?_;refine i_ T hat (aK x) ?_;refine c_ hvp ?_;refine d_ 25 [0,1,2,3,4,5,6,7,8,9,10,11,12,13,14,15,16,17,18,19,20,21,22,23,24] [(6,AB false)] ?_;refine rL hhas ?_;refine z_ ?_;refine C_ ?_;exact s_
 rw [hc] at hhas;have hcm:=aj9.1 hc;have hoo:fT op t p.c x s=decide (t.head? =some (p.c,v)):=by unfold fT;rw [hx];show (decide (p.c∈op)&&_)=_;rw [decide_eq_true hcm,Bool.true_and]
 cases t with
 |nil=>
  rw [hR,hoo,iF (by simp)];refine P_ Tryz.func25 146 fun _ _ _ _=>?_;refine b_ fun b3=>?_;refine A.b T fun b4=>?_;refine A.b T fun b6=>?_;(repeat refine A.s T ?_);refine A.r T T ?_;refine e_ 17 T (x':=cC 6) (by rw [hk]) ?_;refine i_ T hat (aK x) ?_;refine c_ hvp ?_;refine d_ 25 [0,1,2,3,4,5,6,7,8,9,10,11,12,13,14,15,16,17,18,19,20,21,22,23,24] [(6,AB true)] ?_;refine rL hhas ?_;refine z_ ?_;refine C_ ?_;exact s_
 |cons e r=>
  by_cases he:(e.1==p.c&&e.2==v)=true
  ·have heq:e=(p.c,v):=by
    rw [aa3,beq_iff_eq,beq_iff_eq] at he;exact Prod.ext he.1 he.2
   rw [hR,hoo,iT (by rw [heq];simp)];have hj1:=fun b6=>p9 (V:=V) b6 0 (.slice none 0 0) a7 (fM s) 1 (W5 V) (fun e he=>by rw [ab0.1 he];exact ⟨hs,by show 1+0<=256;omega⟩) (by show 0+1<=_;omega) (by show 0<=_;omega) (by show 1+0<=_;omega);refine eX (e::r) fun t het=>?_;refine eX (s) fun s' hss=>?_;rw [<-hss] at hfin hj1 hvp⊢;have hat0:(t.map jK)[(0:Int).toNat]? =some (jK e):=by rw [het];rfl
   have ntl:((t.map jK).length:Int)=(r.length+1:Nat):=by rw [het,aa0,ab7]
   rw [<-het];refine P_ Tryz.func25 146 fun _ _ _ _=>?_;refine b_ fun b3=>?_;refine A.b T fun b4=>?_;refine A.b T fun b6=>?_;(repeat refine A.s T ?_);refine A.r T T ?_;refine e_ 17 T (x':=cC 6) (by rw [hk]) ?_;refine i_ T hat (aK x) ?_;refine c_ hvp ?_;refine d_ 25 [0,1,2,3,4,5,6,7,8,9,10,11,12,13,14,15,16,17,18,19,20,21,22,23,24] [(6,AB true)] ?_;refine rL hhas ?_;refine oH 97 T (x':=AB true) (aA (by show decide ((0:Int)<((t.map jK).length:Nat))=true;rw [ntl,dT];omega)) ?_;refine gX T hat0 T ?_;refine WA.jl T T T T T T T T T (evSt e.1 e.2 p.c v) ?_;refine oH 106 T (x':=AB true) (aA (by show (e.1==p.c&&e.2==v)=true;exact he)) ?_;refine z_ ?_;refine n_ hfin ?_;have hj1:=hj1 b6;refine A.bn (b:=b6) (x':=yX (.slice none 0 0) 0 a7) (c9 [0,1,2] T T T T) yY ?_;refine A.av 2 ?_;refine A.perm (Λ':=nN b6 (.slice none 0 0) 0 a7++[.box b4 (aE p), .box b3 (fS t op f)]) (c9 [1,0,2,3] T T T T) ?_;refine A.less (Λ':=nN b6 (.slice none 0 0) 0 a7) (List.sublist_append_left _ _) ?_;refine A.e T hj1 s_ (Λ2:=[]) (by rw [aa9]) fun v _=>?_;refine A.ab (aa9 _) ?_;obtain ⟨z,m⟩:=v;refine A.less (Λ':=[.box b6 (yX z m (cM a7 1 (fM s'))), .row 2 z ((cM a7 1 (fM s')).ends.map cT)]) (List.Sublist.cons_cons _ (List.Sublist.cons_cons _ (ae0 _))) ?_;refine A.ak 6 z (x':=oI _) T (AG z m _) ?_;refine y_ ?_;refine C_ ?_;exact s_
  ·have he0:(e.1==p.c&&e.2==v)=false:=by simpa using he
   rw [hR,hoo,iF (by intro h;have h:=of_decide_eq_true h;injection h with h;apply he;rw [h];simp)]
   refine eX (e::r) fun t het=>?_;have hat0:(t.map jK)[(0:Int).toNat]? =some (jK e):=by rw [het];rfl
   have ntl:((t.map jK).length:Int)=(r.length+1:Nat):=by rw [het,aa0,ab7]
   rw [<-het];refine P_ Tryz.func25 146 fun _ _ _ _=>?_;refine b_ fun b3=>?_;refine A.b T fun b4=>?_;refine A.b T fun b6=>?_;(repeat refine A.s T ?_);refine A.r T T ?_;refine e_ 17 T (x':=cC 6) (by rw [hk]) ?_;refine i_ T hat (aK x) ?_;refine c_ hvp ?_;refine d_ 25 [0,1,2,3,4,5,6,7,8,9,10,11,12,13,14,15,16,17,18,19,20,21,22,23,24] [(6,AB true)] ?_;refine rL hhas ?_;refine oH 97 T (x':=AB true) (aA (by show decide ((0:Int)<((t.map jK).length:Nat))=true;rw [ntl,dT];omega)) ?_;refine gX T hat0 T ?_;refine WA.jl T T T T T T T T T (evSt e.1 e.2 p.c v) ?_;refine oH 106 T (x':=AB false) (aA (by show (e.1==p.c&&e.2==v)=false;exact he0)) ?_;refine z_ ?_;refine C_ ?_;exact s_
theorem vH{V:List KV}{C:List Int}(p:PR)(u:Un V C p)(f:Nat)(op:List Int)(t:TR)(s:bA)(ht:l6 t)(fN:t.length<=256)(hs:bI V s)(P:T1 V C f op t s p)(K:Int)(hk:p.kind=K)(hK:K=12\/K=14\/K=15):Pure Tryz.prog aU 25 [fS t op f,aE p,aF s] (oI (cG f op t s p)):=by
 have hkk:p.kind=12\/p.kind=14\/p.kind=15:=by rw [hk];exact hK
 have hit:=P.gs hkk;obtain ⟨hits,hlen⟩:=J0 u hkk (P.way hkk) op ht hs;have hgp:=V0 p s t op f;have hR:cG f op t s p=bM a7 (jZ p.kind f op t s p.gs):=by obtain ⟨k,c,v,it,to,e,gs,l⟩:=p;exact zU hkk
 rw [hR];refine eX (jZ p.kind f op t s p.gs) fun G hG=>?_;unfold EV at hit;rw [<-hG] at hits hlen hit⊢;have hcur: ∀j,zF V (bM a7 (G.take j)) t.length (32000):=fun j=>by have h1:=r9 (G.take j) a7 0 (fun x hx=>hits x (ag0 hx)) (KC V t.length);refine ⟨h1.wf,h1.ok,?_⟩;have:=h1.len;rw [ac1] at this;omega
 refine al3 hK (fun hk1=>?_) (fun hk2=>?_)
 ·subst hk1;refine P_ Tryz.func25 146 fun _ _ _ _=>?_;refine b_ fun b3=>?_;refine A.b T fun b4=>?_;refine A.b T fun b6=>?_;(repeat refine A.s T ?_);refine A.r T T ?_;refine e_ 17 T (x':=cC 12) (by rw [hk]) ?_;refine n_ hgp ?_;refine A.bn (b:=b6) (x':=yX (.slice none 0 0) 0 a7) (.refl _) yY ?_;refine A.av 2 ?_;refine l_ (Λ':=[.row 2 (.slice none 0 0) [], .box b6 (yX (.slice none 0 0) 0 a7)]) ?_;refine A.perm (Λ':=nN b6 (.slice none 0 0) 0 a7) (c9 [1,0] T T T T) ?_;refine y_ ?_;refine A.af [6,131] T ?_;refine A.da (xss:=G.map JS) T .refl hit T T (fun xs hxs=>?_) (fun j Λ=> ∃(z:Value) (m:Nat),Λ=nN b6 z m (bM a7 (G.take j))) (fun st pd Λ=>False) ⟨.slice none 0 0,0,rfl⟩ (fun h1 lp LR hl1 j xs Λi h2 hg2 F2 hxs hinv hl2=>?_) (fun h1 hg1 r Λ' hl1 hinv=>?_) (fun h1 hg1 r st pd Λ' hl1 hst hs=>hs.elim)
  ·rw [ai0] at hxs;obtain ⟨cp,_,rfl⟩:=hxs
   rfl
  ·obtain ⟨z,m,rfl⟩:=hinv;obtain ⟨x,hx,rfl⟩: ∃x,G[j]? =some x/\JS x=xs:=by
    rw [ab5] at hxs;cases hq:G[j]? with
    |none=>rw [hq] at hxs;cases hxs |some cp=>rw [hq] at hxs;injection hxs with hxs;exact ⟨cp,rfl,hxs⟩
   have hxo:=hits x (aa2 hx);have hc:=hcur j;have h3:=hc.len;have h4:=hxo.ok.len;have h5:=hc.wf.len;have h6:=hxo.ok.wf.len;have h7:=hxo.n;have hj:=p9 b6 m z (bM a7 (G.take j)) x.2 x.1 (hc.rn fN (by omega)) (fun e he=>⟨hxo.ok.ok e he,by have:=hxo.ok.wf.le e he;omega⟩) (by omega) (by omega) (by omega);rw [<-pJ hx] at hj;refine b_ fun b15=>?_;refine y_ ?_;refine A.begin T T T ?_;refine y_ ?_;refine A.less (Λ':= .loop lp LR .busy none::nN b6 z m (bM a7 (G.take j))) (List.Sublist.cons_cons _ (List.Sublist.cons _ (.refl _))) ?_;refine A.e T hj s_ (Λ2:=[.loop lp LR .busy none]) (ae8 _ _).symm fun v _=>?_;refine A.perm (Λ':= .loop lp LR .busy none::nN b6 v.1 v.2 (bM a7 (G.take (j+1)))) (ae8 _ _) ?_;refine y_ ?_;exact A.cw T T (.inl ⟨rfl,_,rfl,v.1,v.2,rfl⟩)
  ·obtain ⟨z,m,rfl⟩:=hinv;rw [aa0,ac4];refine A.less (Λ':=[.box b6 (yX z m (bM a7 G)), .row 2 z ((bM a7 G).ends.map cT)]) (List.Sublist.cons_cons _ (List.Sublist.cons_cons _ (ae0 _))) ?_;refine A.ak 6 z (x':=oI _) T (AG z m _) ?_;refine y_ ?_;refine C_ ?_;exact s_
 rcases hk2 with rfl|rfl
 ·refine P_ Tryz.func25 146 fun _ _ _ _=>?_;refine b_ fun b3=>?_;refine A.b T fun b4=>?_;refine A.b T fun b6=>?_;(repeat refine A.s T ?_);refine A.r T T ?_;refine e_ 17 T (x':=cC 14) (by rw [hk]) ?_;refine n_ hgp ?_;refine A.bn (b:=b6) (x':=yX (.slice none 0 0) 0 a7) (.refl _) yY ?_;refine A.av 2 ?_;refine l_ (Λ':=[.row 2 (.slice none 0 0) [], .box b6 (yX (.slice none 0 0) 0 a7)]) ?_;refine A.perm (Λ':=nN b6 (.slice none 0 0) 0 a7) (c9 [1,0] T T T T) ?_;refine y_ ?_;refine A.af [6,131] T ?_;refine A.da (xss:=G.map JS) T .refl hit T T (fun xs hxs=>?_) (fun j Λ=> ∃(z:Value) (m:Nat),Λ=nN b6 z m (bM a7 (G.take j))) (fun st pd Λ=>False) ⟨.slice none 0 0,0,rfl⟩ (fun h1 lp LR hl1 j xs Λi h2 hg2 F2 hxs hinv hl2=>?_) (fun h1 hg1 r Λ' hl1 hinv=>?_) (fun h1 hg1 r st pd Λ' hl1 hst hs=>hs.elim)
  ·rw [ai0] at hxs;obtain ⟨cp,_,rfl⟩:=hxs
   rfl
  ·obtain ⟨z,m,rfl⟩:=hinv;obtain ⟨x,hx,rfl⟩: ∃x,G[j]? =some x/\JS x=xs:=by
    rw [ab5] at hxs;cases hq:G[j]? with
    |none=>rw [hq] at hxs;cases hxs |some cp=>rw [hq] at hxs;injection hxs with hxs;exact ⟨cp,rfl,hxs⟩
   have hxo:=hits x (aa2 hx);have hc:=hcur j;have h3:=hc.len;have h4:=hxo.ok.len;have h5:=hc.wf.len;have h6:=hxo.ok.wf.len;have h7:=hxo.n;have hj:=p9 b6 m z (bM a7 (G.take j)) x.2 x.1 (hc.rn fN (by omega)) (fun e he=>⟨hxo.ok.ok e he,by have:=hxo.ok.wf.le e he;omega⟩) (by omega) (by omega) (by omega);rw [<-pJ hx] at hj;refine b_ fun b15=>?_;refine y_ ?_;refine A.begin T T T ?_;refine y_ ?_;refine A.less (Λ':= .loop lp LR .busy none::nN b6 z m (bM a7 (G.take j))) (List.Sublist.cons_cons _ (List.Sublist.cons _ (.refl _))) ?_;refine A.e T hj s_ (Λ2:=[.loop lp LR .busy none]) (ae8 _ _).symm fun v _=>?_;refine A.perm (Λ':= .loop lp LR .busy none::nN b6 v.1 v.2 (bM a7 (G.take (j+1)))) (ae8 _ _) ?_;refine y_ ?_;exact A.cw T T (.inl ⟨rfl,_,rfl,v.1,v.2,rfl⟩)
  ·obtain ⟨z,m,rfl⟩:=hinv;rw [aa0,ac4];refine A.less (Λ':=[.box b6 (yX z m (bM a7 G)), .row 2 z ((bM a7 G).ends.map cT)]) (List.Sublist.cons_cons _ (List.Sublist.cons_cons _ (ae0 _))) ?_;refine A.ak 6 z (x':=oI _) T (AG z m _) ?_;refine y_ ?_;refine C_ ?_;exact s_
 ·refine P_ Tryz.func25 146 fun _ _ _ _=>?_;refine b_ fun b3=>?_;refine A.b T fun b4=>?_;refine A.b T fun b6=>?_;(repeat refine A.s T ?_);refine A.r T T ?_;refine e_ 17 T (x':=cC 15) (by rw [hk]) ?_;refine n_ hgp ?_;refine A.bn (b:=b6) (x':=yX (.slice none 0 0) 0 a7) (.refl _) yY ?_;refine A.av 2 ?_;refine l_ (Λ':=[.row 2 (.slice none 0 0) [], .box b6 (yX (.slice none 0 0) 0 a7)]) ?_;refine A.perm (Λ':=nN b6 (.slice none 0 0) 0 a7) (c9 [1,0] T T T T) ?_;refine y_ ?_;refine A.af [6,131] T ?_;refine A.da (xss:=G.map JS) T .refl hit T T (fun xs hxs=>?_) (fun j Λ=> ∃(z:Value) (m:Nat),Λ=nN b6 z m (bM a7 (G.take j))) (fun st pd Λ=>False) ⟨.slice none 0 0,0,rfl⟩ (fun h1 lp LR hl1 j xs Λi h2 hg2 F2 hxs hinv hl2=>?_) (fun h1 hg1 r Λ' hl1 hinv=>?_) (fun h1 hg1 r st pd Λ' hl1 hst hs=>hs.elim)
  ·rw [ai0] at hxs;obtain ⟨cp,_,rfl⟩:=hxs
   rfl
  ·obtain ⟨z,m,rfl⟩:=hinv;obtain ⟨x,hx,rfl⟩: ∃x,G[j]? =some x/\JS x=xs:=by
    rw [ab5] at hxs;cases hq:G[j]? with
    |none=>rw [hq] at hxs;cases hxs |some cp=>rw [hq] at hxs;injection hxs with hxs;exact ⟨cp,rfl,hxs⟩
   have hxo:=hits x (aa2 hx);have hc:=hcur j;have h3:=hc.len;have h4:=hxo.ok.len;have h5:=hc.wf.len;have h6:=hxo.ok.wf.len;have h7:=hxo.n;have hj:=p9 b6 m z (bM a7 (G.take j)) x.2 x.1 (hc.rn fN (by omega)) (fun e he=>⟨hxo.ok.ok e he,by have:=hxo.ok.wf.le e he;omega⟩) (by omega) (by omega) (by omega);rw [<-pJ hx] at hj;refine b_ fun b15=>?_;refine y_ ?_;refine A.begin T T T ?_;refine y_ ?_;refine A.less (Λ':= .loop lp LR .busy none::nN b6 z m (bM a7 (G.take j))) (List.Sublist.cons_cons _ (List.Sublist.cons _ (.refl _))) ?_;refine A.e T hj s_ (Λ2:=[.loop lp LR .busy none]) (ae8 _ _).symm fun v _=>?_;refine A.perm (Λ':= .loop lp LR .busy none::nN b6 v.1 v.2 (bM a7 (G.take (j+1)))) (ae8 _ _) ?_;refine y_ ?_;exact A.cw T T (.inl ⟨rfl,_,rfl,v.1,v.2,rfl⟩)
  ·obtain ⟨z,m,rfl⟩:=hinv;rw [aa0,ac4];refine A.less (Λ':=[.box b6 (yX z m (bM a7 G)), .row 2 z ((bM a7 G).ends.map cT)]) (List.Sublist.cons_cons _ (List.Sublist.cons_cons _ (ae0 _))) ?_;refine A.ak 6 z (x':=oI _) T (AG z m _) ?_;refine y_ ?_;refine C_ ?_;exact s_
abbrev I1(V:List KV)(f:Nat)(p:PR):Prop:= ∀(op:List Int) (t:TR) (s:bA),op.length+(dW p).length<=1048576->l6 t->t.length<=256->bI V s->Pure Tryz.prog aU 27 [aE p,aF s,lI t,aQ op,AI (f:Nat)] (eK (cG f op t s p))
theorem rq_sb{h:GH}{rc:Int}{m:Bool}{y:Value}(q:Rp h (.ag [AI rc, .v (.slice none 0 0),AB m]) y):Rp h (.ag [AI rc, .sl 2 [] none,AB m]) y:=
 Sb.rp (show Sb (.ag [AI rc, .v (.slice none 0 0),AB m]) (.ag [AI rc, .sl 2 [] none,AB m]) from s_) q
theorem bothJ{V:List KV}(a q:RN)(n m1 m2 b1 b2:Nat)(ha:zF V a m1 b1)(hq:zF V q m2 b2)(h1:m1<=256)(h2:n+m2<=256)(hb1:b1<=65536)(hb2:b2<=65536):Pure Tryz.prog aU 100 [eK a,eK (lL n q)] (eK (cM a n q)):=by
 have h:=I9 (V:=V) a (lL n q) (ha.rn h1 (by omega)).ends ⟨fun e he=>by obtain ⟨x,hx,rfl⟩:=ai0.1 he;exact ⟨hq.ok x hx,by have:=hq.wf.le x hx;have:=hq.wf.len;show n+x.1<=_;omega⟩⟩ (by have:=ha.wf.len;omega) (by have:=hq.wf.len;show n+q.reach<=_;omega) (by have:=ha.len;omega) (by show (q.ends.map _).length<=_;rw [aa0];have:=hq.len;omega)
 rw [BX q n ha.wf.nod] at h;exact h
theorem both0{V:List KV}(a q:RN)(m1 m2 b1 b2:Nat)(ha:zF V a m1 b1)(hq:zF V q m2 b2)(h1:m1<=256)(h2:m2<=256)(hb1:b1<=65536)(hb2:b2<=65536):Pure Tryz.prog aU 100 [eK a,eK q] (eK (cM a 0 q)):=by have h:=I9 (V:=V) a q (ha.rn h1 (by omega)).ends (hq.rn h2 (by omega)).ends (by have:=ha.wf.len;omega) (by have:=hq.wf.len;omega) (by have:=ha.len;omega) (by have:=hq.len;omega);rw [RD q ha.wf.nod] at h;exact h
theorem UC{V:List KV}(q:RN)(n m b:Nat)(hq:zF V q m b)(h:n+m<=256)(hb:b<=65536):Pure Tryz.prog aU 54 [AI (n:Nat),eK q] (eK (lL n q)):=
 EZ n q (by have:=hq.wf.len;omega) (fun e he=>by have:=hq.wf.le e he;have:=hq.wf.len;omega) (by have:=hq.len;omega)
theorem DR{V:List KV}{C:List Int}{f:Nat}: ∀(l:List PR),(∀x,x∈l->Un V C x)->cW l f<=2000->(∀x,x∈l->I1 V f x)->l.length<=16777216-> ∀(op:List Int) (t:TR) (s:bA),(∀x,x∈l->op.length+(dW x).length<=1048576)->l6 t->t.length<=256->bI V s->Pure Tryz.prog aU 57 [pN l,aF s,lI t,aQ op,AI (f:Nat)] (eK (bB f op t s l))
 | [],_,_,_,_,op,t,s,_,_,_,hs=>by have hf:=oB s;rw [bB];refine P_ Tryz.func57 62 fun _ _ _ _=>?_;refine b_ fun b10=>?_;refine y_ ?_;refine A.aa 17 T (x':=AB true) T ?_;refine c_ hf ?_;refine C_ ?_;exact s_
 |x::r,hu,hw,hR,hlen,op,t,s,hop,ht,fN,hs=>by
  have hw2:=zC hw;have hx:=hR x (.head _) op t s (hop x (.head _)) ht fN hs;have n1:(((aS (x::r)).length:Nat):Int)=(r.length+1:Nat):=by rw [bP,ab7]
  rw [ab7] at hlen;refine eX (cG f op t s x) fun q hq=>?_;have hqo:zF V q t.length (bF x f):=by rw [hq];exact yQ (hu x (.head _)) op t s ht hs
  have hrec:=DR r (fun y hy=>hu y (.tail _ hy)) hw2.2 (fun y hy=>hR y (.tail _ hy)) (by omega);have hko: ∀e,e∈q.ends->zF V (bB f op (t.drop e.1) e.2 r) (t.length-e.1) (cW r f):=fun e he=>by have:=YG (f:=f) (fun y hy=>hu y (.tail _ hy)) op (t.drop e.1) e.2 (oE ht _) (hqo.ok e he);rw [ad7] at this;exact this
  have hcur:=then_ok (k:=fun n s'=>bB f op (t.drop n) s' r) hqo hko;have hww:bF x f*cW r f<=2000:=by rw [cW] at hw;exact hw
  have nq:((q.ends.map cT).length:Int)=q.ends.length:=by rw [aa0]
  have hql:=hqo.len;have nt:=iS t;rw [<-hq] at hx;rw [bB,<-hq];have hat:(aS (x::r))[(0:Int).toNat]? =some (pC x):=aV T;refine P_ Tryz.func57 62 fun _ _ _ _=>?_;refine b_ fun b10=>?_;refine y_ ?_;refine A.aa 17 T (x':=AB false) (aA (by rw [n1,beq_eq_false_iff_ne];omega)) ?_;refine i_ T hat (bC x) ?_;refine n_ hx ?_;refine A.b T fun b11=>?_;refine y_ ?_;refine A.b T fun b12=>?_;refine y_ ?_;refine A.ab (Λ':=[.box b12 (.ag [AI (q.reach:Nat), .v (.slice none 0 0),AB q.miss]), .box b11 (eK q), .box b10 _]) T ?_;refine A.bn (b:=b12) (x':=eK (fW (pB q 0) fun n s'=>bB f op (t.drop n) s' r)) (.refl _) (fun h y h'=>by rw [TQ];exact rq_sb h') ?_;refine A.af [0,2,3,4,10,11,12,13] T ?_;refine A.ae (ι:=Nat) (fun i=>(⟨[(0,pN (x::r)),(2,lI t),(3,aQ op),(4,AI (f:Nat)),(10,aT b10),(11,aT b11),(12,aT b12),(13,AI (i:Nat))],[]⟩,[.box b12 (eK (fW (pB q i) fun n s'=>bB f op (t.drop n) s' r)), .box b11 (eK q), .box b10 _])) (fun i=>i<=q.ends.length) (fun i=>q.ends.length-i) 0 (aa4 _) T fun i hi ih=>?_;refine y_ ?_
  by_cases hci:i<q.ends.length
  ·refine aX hci fun e he=>?_;have hem:=aa2 he;have hqe:=hko e hem;have hnext:=GR (k:=fun n s'=>bB f op (t.drop n) s' r) he;have hel:=hqo.wf.le e hem;have hqr:=hqo.wf.len;have hsq:=hrec op (t.drop e.1) e.2 (fun y hy=>hop y (.tail _ hy)) (oE ht _) (by rw [ad7];omega) (hqo.ok e hem);have haf:=UC _ e.1 _ _ hqe (by omega) (by omega);have hbo:=bothJ _ _ e.1 _ _ _ _ (hcur i) hqe fN (by omega) (by omega) (by omega);rw [<-hnext] at hbo;refine eX (bB f op (t.drop e.1) e.2 r) fun qe hqe'=>?_;rw [<-hqe'] at hsq haf hbo;refine T_ T (by show decide ((i:Int)<((q.ends.map cT).length:Int))=true;rw [nq,dT];omega) ?_;refine j_ T (aC he) T ?_;refine b_ fun b14=>?_;refine y_ ?_;refine d_ 16 [0,1,2,3,4,5,6,7,8,9,10,11,12,13,14,15] [(13,eK qe),(14,eK (lL e.1 qe)),(15,eK (fW (pB q (i+1)) fun n s'=>bB f op (t.drop n) s' r))] ?_;refine WA.slice (ys:=aS r) T T T T T T T T T T (by decide) (by show ((1:Nat):Int)<=((aS (x::r)).length:Int);rw [n1];omega) (ao2 _) (by
    show ((aS (x::r)).drop 1).take (((aS (x::r)).length:Int).toNat-1)=_;rw [jE,as2,ag3,aa6 (by rw [ab7];simp)]) T ?_
   refine w_ ?_;refine WA.slice (ys:=(t.drop e.1).map jK) T T T T T T T T T T (by show (0:Int)<=(e.1:Nat);omega) (by show ((e.1:Nat):Int)<=((t.map jK).length:Int);rw [nt];omega) (ao2 _) (by show ((t.map jK).drop ((e.1:Nat):Int).toNat).take (((t.map jK).length:Int).toNat-((e.1:Nat):Int).toNat)=_;rw [ac7,ac7,ap8,aa6 (by rw [ad7];exact ab3 _)]) T ?_
   refine w_ ?_;refine WA.c T T hsq (.sub s_) ?_;refine WA.c T T haf (.sub s_) ?_;refine WA.c T T hbo (.sub s_) ?_;refine z_ ?_;refine vI 13 i ?_;refine l_ (Λ':=[.box b12 (eK (fW (pB q (i+1)) fun n s'=>bB f op (t.drop n) s' r)), .box b11 (eK q), .box b10 _]) ?_;refine u_ (ih (i+1) (by omega) (by omega))
  ·refine A.gF T (by show decide ((i:Int)<((q.ends.map cT).length:Int))=false;rw [nq,dF];omega) ?_;clear ih;refine A.ab (Λ':=[.box b12 (eK (fW q fun n s'=>bB f op (t.drop n) s' r)), .box b11 (eK q), .box b10 _]) (by rw [JF (by omega)]) ?_;refine y_ ?_;refine C_ ?_;exact s_
theorem S2{V:List KV}{C:List Int}(p:PR)(u:Un V C p)(hk:p.kind=13)(f:Nat)(hf:f<=1048576)(op:List Int)(t:TR)(s:bA)(hs:bI V s)(hS: ∀f' b,f=f'+1->p.l=[b]->Pure Tryz.prog aU 57 [pN [b,p],aF s,lI t,aQ op,AI (f':Nat)] (eK (bB f' op t s [b,p]))):
 Pure Tryz.prog aU 59 [aE p,aF s,lI t,aQ op,AI (f:Nat)] (eK (cG f op t s p)):=by
 obtain ⟨x,b,he,hl,_⟩:=u.k13 hk;have hvp:=qF s hs.ws x (u.ir x (by rw [he];exact .head _));rw [aK] at hvp;have hat:(bK p.e)[(0:Int).toNat]? =some (dK x):=eW (by rw [he];rfl);have hstop:=oC;have hskip:=oB s;refine al3 (dH (bH s x)) (fun hx=>?_) (fun hx=>?_)
 ·rw [hx] at hvp;rw [DU hk he hl hx];refine P_ Tryz.func59 44 fun _ _ _ _=>?_;refine b_ fun b5=>?_;refine A.b T fun b10=>?_;refine y_ ?_;refine i_ T hat (aK x) ?_;refine c_ hvp ?_;refine c_ hstop ?_;refine C_ ?_;exact s_
 obtain ⟨v,hx⟩:=hx;rw [hx] at hvp
 by_cases hv0:v=0
 ·subst hv0;rw [DV hk he hl hx];refine P_ Tryz.func59 44 fun _ _ _ _=>?_;refine b_ fun b5=>?_;refine A.b T fun b10=>?_;refine y_ ?_;refine i_ T hat (aK x) ?_;refine c_ hvp ?_;refine c_ hskip ?_;refine C_ ?_;exact s_
 cases f with
 |zero=>
  rw [DS hk he hl hx hv0];refine P_ Tryz.func59 44 fun _ _ _ _=>?_;refine b_ fun b5=>?_;refine A.b T fun b10=>?_;refine y_ ?_;refine i_ T hat (aK x) ?_;refine c_ hvp ?_;refine F_ T (by show (v==0)=false;simpa using hv0) ?_;refine C_ ?_;exact s_
 |succ f=>
  have hseq:=hS f b T hl;rw [show pN [b,p]= .sl 8 [aE b,aE p] none by show AV.sl 8 (aS [b,p]) none=_;rw [jE,jE];rfl] at hseq;rw [DT hk he hl hx hv0];have hat2:(aS p.l)[(0:Int).toNat]? =some (pC b):=aV (by rw [hl];rfl);refine P_ Tryz.func59 44 fun _ _ _ _=>?_;refine b_ fun b5=>?_;refine A.b T fun b10=>?_;refine y_ ?_;refine i_ T hat (aK x) ?_;refine c_ hvp ?_;refine F_ T (by show (v==0)=false;simpa using hv0) ?_;refine A.draw 12 [0,1,2,3,4,5,6,7,8,9,10,11] (fun i=>if i=11 then [5] else []) [(11,eK (bB f op t s [b,p]))] (by kernel_rfl) (by kernel_rfl) ?_;refine w_ ?_;refine gX T hat2 (bC b) ?_;refine WA.lit T T T T T T T fun bw=>?_;refine w_ ?_;refine WA.aa 42 T (x':=AI (f:Nat)) (aL (by rw [fR _ (by omega)];omega)) ?_;refine WA.c T T hseq (.cons (.pub (j:=5) T T (.sub .refl)) (.sub .refl)) ?_;refine z_ ?_;refine C_ ?_;exact s_
abbrev BodQ(V:List KV)(f:Nat)(op:List Int)(p:PR):Prop:= ∀g,g∈p.gs-> ∀x,x∈g.body-> ∀(t:TR) (s:bA),l6 t->t.length<=256->bI V s->Pure Tryz.prog aU 27 [aE x,aF s,lI t,aQ op,AI (f:Nat)] (eK (cG f op t s x))
theorem V5(f:Nat)(op:List Int)(t:TR)(s:bA)(g:GD)(r:List GD):rJ f op t s (g::r)=match bH s g.cond with
 |none=>a7 |some v=>if v=0 then rJ f op t s r else cM a7 0 (bD f op t s g.body):=by
 obtain ⟨k,cd,c,it,to,tm,b⟩:=g;rw [rJ]
 rfl
theorem if_run{f:Nat}{op:List Int}{t:TR}{s:bA}{p:PR}(hk:p.kind=12):cG f op t s p=rJ f op t s p.gs:=by obtain ⟨k,c,v,it,to,e,gs,l⟩:=p;have hk:k=12:=hk;rw [cX,iF (show¬k=1 by omega),iF (show¬k=3 by omega),iF (show¬k=4 by omega),iF (show¬k=5 by omega),iF (show¬k=6 by omega),iF (show¬k=9 by omega),iF (show¬k=13 by omega),iT hk]
theorem VB{V:List KV}{C:List Int}{p:PR}(u:Un V C p)(hk:p.kind=12\/p.kind=14\/p.kind=15){g:GD}(hg:g∈p.gs){s:bA}(hs:bI V s){v:Int}(hv:bH s g.cond=some v):v=0\/v=1:=by have h:=u.kg hk g hg;unfold fH at h;simp only [aa3] at h;exact (vM hs h.1.1.2 hv).2 T
theorem K0{V:List KV}{C:List Int}(p:PR)(u:Un V C p)(hk:p.kind=12)(f:Nat)(op:List Int)(t:TR)(s:bA)(ht:l6 t)(fN:t.length<=256)(hs:bI V s)(hR:BodQ V f op p):Pure Tryz.prog aU 58 [aE p,aF s,lI t,aQ op,AI (f:Nat)] (eK (cG f op t s p)):=by
 have n2:((cA p.gs).length:Int)=p.gs.length:=by rw [cL]
 have hgl:=u.loc.lens.2.2.1;have hstop:=oC;rw [if_run hk];refine eX (rJ f op t s p.gs) fun R hR0=>?_;rw [<-hR0];refine P_ Tryz.func58 51 fun _ _ _ _=>?_;refine b_ fun b5=>?_;refine A.b T fun b10=>?_;refine y_ ?_;refine A.af [1,2,3,4,5,10,11] T ?_;refine A.ae (ι:=Nat) (fun i=>(⟨[(1,aF s),(2,lI t),(3,aQ op),(4,AI (f:Nat)),(5,aT b5),(10,aT b10),(11,AI (i:Nat))],[]⟩,[.box b10 _, .box b5 (aE p)])) (fun i=>i<=p.gs.length/\R=rJ f op t s (p.gs.drop i)) (fun i=>p.gs.length-i) 0 ⟨aa4 _,by rw [ag3];exact hR0⟩ T fun i hi ih=>?_;obtain ⟨hi1,hi2⟩:=hi;refine y_ ?_
 by_cases hci:i<p.gs.length
 ·refine aX hci fun g hg=>?_;have hgm:=aa2 hg;refine ab4 (u.loc.body g hgm) fun y hy=>?_;have hvp:=qF s hs.ws g.cond (u.loc.gs g hgm).1.1;rw [aK] at hvp;have hat:(aS g.body)[(0:Int).toNat]? =some (pC y):=aV (by rw [hy];rfl);have hrun:=hR g hgm y (by rw [hy];exact .head _) t s ht fN hs;rw [cB hg,V5] at hi2;refine T_ T (by show decide ((i:Int)<((cA p.gs).length:Int))=true;rw [n2,dT];omega) ?_;refine i_ T (bZ hg) (cK g) ?_;refine n_ hvp ?_;refine al3 (dH (bH s g.cond)) (fun hx=>?_) (fun hx=>?_)
  ·rw [hx] at hi2;refine e_ 29 T (x':=jT none) (by rw [hx]) ?_;refine c_ hstop ?_;refine C_ ?_;rw [hi2];exact s_
  ·refine ab4 hx fun v hx=>?_;have h01:=VB u (.inl hk) hgm hs hx;rw [hx] at hi2;simp only at hi2;refine e_ 29 T (x':=jT (some v)) (by rw [hx]) ?_
   by_cases hv0:v=0
   ·rw [iT hv0] at hi2;refine F_ T (by rw [hv0];rfl) ?_;refine vI 11 i ?_;refine u_ (ih (i+1) ⟨by omega,hi2⟩ (by omega))
   ·rw [iF hv0,hy,bD,join_self ((QG y).wf f op t s)] at hi2;have hv1:v=1:=h01.resolve_left hv0;refine T_ T (by rw [hv1];rfl) ?_;refine i_ T (bZ hg) (cK g) ?_;refine i_ T hat (bC y) ?_;refine c_ hrun ?_;refine C_ ?_;rw [hi2];exact s_
 ·rw [ad3 (by omega:p.gs.length<=i),rJ] at hi2;clear ih;refine F_ T (by show decide ((i:Int)<((cA p.gs).length:Int))=false;rw [n2,dF];omega) ?_;refine c_ hstop ?_;refine C_ ?_;rw [hi2];exact s_
theorem Z6(z:Value)(n:Nat):jB Tryz.prog aU 135 [.ms z 1 n] [.row 1 z []] fun y Λ'=> ∃z':Value,Sb y (.ms z' 1 0)/\Λ'=[.row 1 z' []]/\True:=by
 by_cases hn:n=0
 ·subst hn;refine jB.of (S:=tt) (fn:=Tryz.f135) (n:=61) dE Tryz.func135 T T T T fun w0 h0 F hgs=>?_;refine y_ ?_;refine A.au (Λ':=[.row 1 _ _]) T T T rF ⟨_, .refl,rfl,trivial⟩
 ·intro w0 h vs L F g r q;exfalso;rw [aJ] at r;obtain ⟨u,us,rfl,r1,r2⟩:=r;rw [gI] at r1;obtain ⟨rfl,a',cap',rfl⟩:=r1;obtain ⟨M,L2,rfl,⟨p,⟨a,cap,zs,e1,e2,e3,e4,e5⟩,rfl⟩,q2⟩:=q;injection e1 with e1 e1' e1'';exact hn e1'
theorem Z7(z:Value)(n:Nat)(l:List Int)(hb:l.length<=1099511627776):fB Tryz.prog aU 135 [.ms z 1 n] [.row 1 z (l.map AI)] (fun z':Value=> .ms z' 1 (eO l).length) (fun z'=>[.row 1 z' ((eO l).map AI)]) (fun _=>True):=by
 unfold fB;cases l with
 |nil=>exact Z6 z n |cons x0 l0=>
 generalize hl:x0::l0=l at hb⊢;have hne:l.map AI≠[]:=by rw [<-hl];simp
 refine jB.jv hne fun b o c hcap=>?_;rw [aa0] at hcap⊢;have hlm:((l.map AI).length:Int)=l.length:=by rw [aa0]
 have hlmN:(l.map AI).length=l.length:=aa0 ..
 by_cases h2:l.length<2
 ·have hd:eO l=l:=by
   rw [<-hl] at h2⊢;cases l0 with
   |nil=>rfl |cons y r=>simp only [ab7] at h2;omega
  rw [hd];refine jB.of (S:=tt) (fn:=Tryz.f135) (n:=61) dE Tryz.func135 T T T T fun w0 h0 F hgs=>?_;refine y_ ?_;refine e_ 8 T (x':=AB true) (aA (decide_eq_true (by omega))) ?_;refine A.au (Λ':=[.row 1 _ _]) T T T rF ⟨_, .refl,rfl,trivial⟩
 refine jB.of (S:=tt) (fn:=Tryz.f135) (n:=61) dE Tryz.func135 T T T T fun w0 h0 F hgs=>?_;refine y_ ?_;refine e_ 8 T (x':=AB false) (aA (decide_eq_false (by omega))) ?_;refine A.af [0,3] T ?_;refine A.ae (ι:=Nat) (fun i=>(⟨[(0, .ms (.slice (some ⟨b,o,none⟩) l.length c) 1 l.length),(3,AI (i:Nat))],[]⟩,[.row 1 (.slice (some ⟨b,o,none⟩) l.length c) (l.map AI)])) (fun i=>1<=i/\i<=l.length/\eO (l.take i)=l.take i) (fun i=>l.length-i) 1 ⟨ab3 _,by omega,?_⟩ T fun i hi ih=>?_
 ·rw [<-hl];rfl
 obtain ⟨hi1,hi2,hi3⟩:=hi;refine y_ ?_;refine k_ (fun hc=>?_) fun hc=>?_
 case refine_2.refine_2=>
  have hc':i=l.length:=by have: ¬((i:Int)<l.length):=by simpa using hc
                          omega
  rw [hc',ac4] at hi3;rw [hi3];refine y_ ?_;refine A.au (Λ':=[.row 1 _ _]) T T T rF ⟨_, .refl,rfl,trivial⟩
 have hc':i<l.length:=by have:((i:Int)<l.length):=by simpa using hc
                         omega
 clear hc;refine aX hc' fun y hy=>?_;refine ab4 (bT (l:=l) (i:=i-1) (by omega)) fun x hx=>?_;have hsub:IntKind.i64.wrap ((i:Int)-1)=((i-1:Nat):Int):=by rw [mR (by unfold i64;omega)];omega
 refine y_ ?_;refine d_ 9 [0,1,2,3,4,5,6,7,8] [] ?_;refine WA.ah T T T T T T T T T (by omega) (by rw [aa0];omega) T ?_;refine WA.ba T T T T T T T (y':=AI y) T (aC hy) T T ?_;refine w_ ?_;refine WA.aa 22 T (x':=AI ((i-1:Nat):Int)) (aL hsub) ?_;refine WA.ah T T T T T T T T T (by omega) (by rw [aa0];omega) T ?_;refine WA.ba T T T T T T T (y':=AI x) T (aC hx) T T ?_;refine WA.nil (l:=[]) T ?_;refine y_ ?_;refine k_ (fun hc=>?_) fun hc=>?_
 case refine_2=>
  have hne':x≠y:=by intro e;subst e;simp at hc
  clear hc;refine y_ ?_;refine vI 3 i ?_;refine u_ (ih (i+1) ⟨by omega,by omega,U9 (by omega) hx hy hne' hi3⟩ (by omega))
 have he:y=x:=by simpa using hc
 subst he;clear hc ih;refine y_ ?_;refine A.js 26 T T ?_;refine A.fq T T T T T T T T (by omega) (by omega) (by omega) (fun _=>hcap) T T ?_;refine y_ ?_;refine A.aa 4 T (x':= .v (.slice (some ⟨b,o+i*1,none⟩) (l.length-i) (c-i))) (congrArg AV.v (by simp only [wV];rw [ac7,ac7,iF (by omega)];simp only [af8];rw [eF];rfl)) ?_;refine A.af [0,3,4,5] T ?_;refine A.ae (ι:=Nat×Nat×List Int) (fun j=>(⟨[(0, .ms (.slice (some ⟨b,o,none⟩) l.length c) 1 l.length),(3,AI (j.2.1:Nat)),(4, .v (.slice (some ⟨b,o+i*1,none⟩) (l.length-i) (c-i))),(5,AI (j.1:Nat))],[]⟩,[.row 1 (.slice (some ⟨b,o,none⟩) l.length c) (j.2.2.map AI)])) (fun j=>1<=j.1/\i+j.1<=l.length/\rM l j.2.2 (i+j.1) j.2.1) (fun j=>l.length-j.1) (1,i,l) ⟨ab3 _,by show i+1<=_;omega, .start (by omega) hx hy hi3⟩ T fun j hj ih=>?_;obtain ⟨m,k,r⟩:=j;obtain ⟨hj1,hj2,hj3⟩:=hj;simp only at hj1 hj2 hj3 ih⊢;have hrl:=hj3.len;have hkm:=hj3.lt;have hlr:((r.map AI).length:Int)=l.length:=by rw [aa0,hrl]
 refine y_ ?_;refine k_ (fun hc=>?_) fun hc=>?_
 case refine_2=>
  have hc':i+m=l.length:=by have: ¬((m:Int)<((l.length-i:Nat):Int)):=by simpa using hc
                            omega
  clear hc ih;rw [hc'] at hj3;have hout:=hj3.out;rw [ac4] at hout;have hkl:=hj3.kl;rw [ac4] at hkl;have hk0:0<k:=by
   rcases Nat.eq_zero_or_pos k with h|h
   ·exact (B4 l (by intro e;rw [e] at hc';simp at hc';omega) (ao7 (hkl.trans h))).elim
   ·exact h
  refine y_ ?_;refine A.js 54 T T ?_;refine A.fq T T T T T T T T (by omega) (by omega) (by omega) (fun _=>hcap) T T ?_;refine A.aa 56 T (x':= .v (.slice (some ⟨b,o+k*1,none⟩) (l.length-k) (c-k))) (congrArg AV.v (by simp only [wV];rw [ac7,ac7,iF (by omega)];simp only [af8];rw [eF];rfl)) ?_;refine A.gk (off:=o) (n:=l.length) (c:=c) k T T T T T T (xs':=(eO l).map AI++List.replicate (l.length-k) (AI 0)) T T T (by rw [aa0];omega) (by omega) T (fun h=>⟨.int .i64 0,bN.2 ⟨rfl,rfl⟩,rfl⟩) (by rw [<-List.map_take,hout]) T ?_;refine y_ ?_;refine A.js 57 T T ?_;refine A.fq T T T T T T T T (by decide) (by omega) (by omega) (fun h=>by cases h) T T ?_;refine A.aa 59 T (x':= .v (.slice (some ⟨b,o,none⟩) k c)) (congrArg AV.v (by simp only [wV];rw [ac7];simp [eF])) ?_;refine A.ka 59 1 T ?_;refine A.ja (sz:=1) (a:=some ⟨b,o,none⟩) (n:=l.length) (c:=c) k (l1:=(eO l).map AI) (l2:=List.replicate (l.length-k) (AI 0)) T (by rw [aa0,hkl]) (by simp [B4 l (by intro e;rw [e] at hc';simp at hc';omega)]) ?_;refine y_ ?_;rw [hkl];refine A.au (Λ':=[.row 1 _ _]) T T T rF ⟨_, .refl,rfl,trivial⟩
 have hc':i+m<l.length:=by have:((m:Int)<((l.length-i:Nat):Int)):=by simpa using hc
                           omega
 clear hc;refine aX hc' fun v hv=>?_;refine ab4 (bT (l:=l) (i:=i+m-1) (by omega)) fun u hu=>?_;have hrv:r[i+m]? =some v:=(hj3.rest _ (by omega)).trans hv;have hru:r[i+(m-1)]? =some u:=by rw [show i+(m-1)=i+m-1 by omega];exact (hj3.rest _ (by omega)).trans hu
 have hsub':IntKind.i64.wrap ((m:Int)-1)=((m-1:Nat):Int):=by rw [mR (by unfold i64;omega)];omega
 refine y_ ?_;refine d_ 9 [0,1,2,3,4,5,6,7,8] [] ?_;refine WA.cx (off:=o) (n:=l.length) (c:=c) i T T T T T T T T T T (by omega) (by omega) (by omega) T ?_;refine WA.ba T T T T T T T (y':=AI v) T (aC hrv) T T ?_;refine w_ ?_;refine WA.aa 41 T (x':=AI ((m-1:Nat):Int)) (aL hsub') ?_;refine WA.cx (off:=o) (n:=l.length) (c:=c) i T T T T T T T T T T (by omega) (by omega) (by omega) T ?_;refine WA.ba T T T T T T T (y':=AI u) T (aC hru) T T ?_;refine WA.nil (l:=[]) T ?_;refine y_ ?_;refine k_ (fun hc=>?_) fun hc=>?_
 case refine_2=>
  have he':v=u:=by simpa using hc
  subst he';clear hc;refine y_ ?_;refine vI 5 m ?_;refine u_ (ih (m+1,k,r) ⟨by omega,by show i+(m+1)<=_;omega,by show rM l r (i+(m+1)) k;exact hj3.same (by omega) hu hv⟩ (by show l.length-(m+1)<l.length-m;omega))
 have hne':u≠v:=by intro e;subst e;simp at hc
 clear hc;refine y_ ?_;refine A.cx (off:=o) (n:=l.length) (c:=c) i T T T T T T T T T (by omega) (by omega) (by omega) T ?_;refine A.ba T T T T T T (y':=AI v) T (aC hrv) T T ?_;refine A.ah T T T T T T T T (by omega) (by rw [aa0];omega) T ?_;refine A.bq T T T T T T T T T (by rw [aa0];omega) (xs':=(r.set k v).map AI) List.map_set.symm ?_;refine y_ ?_;refine vI 3 k ?_;refine vI 5 m ?_;refine u_ (ih (m+1,k+1,r.set k v) ⟨by omega,by show i+(m+1)<=_;omega,by show rM l (r.set k v) (i+(m+1)) (k+1);exact hj3.put (by omega) hu hv hne'⟩ (by show l.length-(m+1)<l.length-m;omega))
section
variable{K:AC}{k:List It}{E:aO}{Λ:List aH}
end
section
variable{K:AC}{k:List It}{E:aO}{Λ:List aH}
theorem A.av(sz:Nat)(next:A K k E (.row sz (.slice none 0 0) []::Λ)):A K k E Λ:=by refine ⟨fun h e L hl r q=>?_⟩;have hr0: ∃p,oM h sz (.slice none 0 0) [] p/\[(⟨0,0,[],none⟩:bV)]=[p]:=⟨⟨0,0,[],none⟩,⟨none,0,[],rfl,aa4 _,⟨(by rw [aP]),(fun z hz=>by cases hz),(fun z hz=>by cases hz)⟩,rfl, .inl ⟨rfl,rfl,rfl,fun y hy=>by cases hy⟩⟩,rfl⟩;exact V.empty (next.run h e (⟨0,0,[],none⟩::L) hl r (.one hr0 q))
end
end Go.Proofs.YtenkjmjejhhdjaaGreat
namespace Go.Tp
open Go Go.RowKit
abbrev T8(n:Int):AV:= .v (.int .i64 n)
theorem IY{h:GH}: ∀{l:List Int} {zs:List Value},eN h (l.map T8) zs->zs=l.map (Value.int .i64)
 | [],zs,r=>by rw [List.map_nil,aP] at r;rw [r];rfl |x::l,zs,r=>by rw [List.map_cons,aJ] at r;obtain ⟨v,vs,rfl,r1,r2⟩:=r;rw [bN] at r1;rw [r1.1,IY r2];rfl
theorem JY(h:GH): ∀l:List Int,eN h (l.map T8) (l.map (Value.int .i64))
 | []=>aP.2 T |x::l=>aJ.2 ⟨_,_,rfl,bN.2 ⟨rfl,rfl⟩,JY h l⟩
section
variable{P:Program}{gs:Ua}{ρ:Shelf.Ren}
theorem xW: ∀l:List Int,bJ (l.map (Value.int .i64))=l.map (Value.int .i64)
 | []=>rfl |x::l=>by show aM _++bJ (l.map _)=_;rw [eH (show gU (Value.int .i64 x)=true from rfl),xW l];rfl
theorem ID(L:Go.Proofs.Lays.n189 P ρ)(hfn: ∃g c,P.funcs[ρ.f 189]? =some g/\g.body=some c/\(g.name== "runtime.NumGoroutine")=false)(z:Value)(n:Nat)(ks:List Int)(hsz:ks.length<4611686018427387904):
 jB P gs (ρ.f 189) [.ms z 1 n] [.row 1 z (ks.map T8)] fun y Λ'=>y= .tp []/\Λ'=[.row 1 z ((ks.mergeSort fun x y=>decide (x<=y)).map T8)]:=by
 intro w0 h vs LL F hg r q;rw [aJ] at r;obtain ⟨u,us,rfl,r1,r3⟩:=r;rw [aP] at r3;subst r3;rw [gI] at r1;obtain ⟨rfl,_⟩:=r1;obtain ⟨M,L2,rfl,⟨p,hrow,rfl⟩,q2⟩:=q;have q2:L2=[]:=q2;subst q2;refine ⟨hfn,fun w s=>?_⟩;have hrow':=hrow;obtain ⟨a,cap,zs,e1,e2,e3,e4,e5⟩:=hrow;rw [aa0] at e1 e2;subst e1;have hzs:=IY e3.rp;subst hzs
 by_cases hn:0<ks.length
 ·rcases e5 with ⟨e5,_⟩|⟨b,o,sp,rfl,rfl,e6⟩
  ·simp at e5;subst e5;simp at hn
  have hcz:=xW ks;have hH:Sort.Holds (Value.int .i64) w b o ks.toArray:=by
   intro j hj;have hj:j<ks.length:=by simpa using hj
   have kk:=s.own _ (aa5 ..);have hv:(ks.map (Value.int .i64))[j]? =some (Value.int .i64 ks.toArray[j]!):=by rw [ab5,aa7 hj,getElem!_pos ks.toArray j (by simpa using hj)];simp
   exact ⟨kk.cell j _ (by show (bJ (ks.map (Value.int .i64))++sp)[j]? =_;rw [hcz,List.getElem?_append_left (by simpa using hj)];exact hv),kk.warm j (by show j<(bJ (ks.map (Value.int .i64))++sp).length;rw [hcz,aa1,aa0];omega)⟩
  have hcall:=Go.Proofs.Any.slices_Sort_int L b o cap ks w hH (dQ (hH 0 (by simpa using hn)).1) hsz;refine hcall.mono fun e w' ⟨he,m,os,h3⟩=>?_;subst h3;have hml:(ks.mergeSort fun x y=>decide (x<=y)).length=ks.length:=List.length_mergeSort _;have hst:=s.sorted (enc:=Value.int .i64) (d:=ks.toArray) (d':=(ks.mergeSort fun x y=>decide (x<=y)).toArray) (n:=m) (os:=os) (by rw [hcz,aa1,aa0];simp) (by simpa using hn) hH (by simp [hml]) (fun j hj=>rfl);have e7:(bJ (ks.map (Value.int .i64))++sp).drop ks.toArray.size=sp:=by rw [hcz,List.drop_left' (by simp)]
  rw [e7] at hst;refine ⟨_,h,_,he,⟨.tp [],[.row 1 _ ((ks.mergeSort fun x y=>decide (x<=y)).map T8)],_,⟨rfl,rfl⟩,?_,GH.le_refl _,⟨[_],[],rfl,⟨_,⟨some ⟨b,o,none⟩,cap,(ks.mergeSort fun x y=>decide (x<=y)).map (Value.int .i64),?_,?_,⟨?_,?_,?_⟩,rfl, .inr ⟨b,o,sp,rfl,rfl,?_⟩⟩,rfl⟩,rfl⟩,rfl⟩,?_⟩
  ·rw [kT];exact ⟨[],rfl,aP.2 T⟩
  ·rw [aa0,hml]
  ·rw [aa0,hml];exact e2
  ·exact JY h _
  ·intro z hz';obtain ⟨i,_,rfl⟩:=ai0.1 hz';rfl
  ·intro z hz';obtain ⟨i,_,rfl⟩:=ai0.1 hz';rfl
  ·rw [e6,aa0,aa0,hml]
  ·rw [xW];exact hst
 ·have hk0:ks=[]:=ao7 (by omega);subst hk0;refine (Go.Proofs.Any.slices_Sort_int_none L a cap w).mono fun e w' ⟨he,hw⟩=>?_;subst hw;exact ⟨_,h,_,he,⟨.tp [],[.row 1 _ []],_,⟨rfl,by rw [List.mergeSort_nil];rfl⟩,kT.2 ⟨[],rfl,aP.2 T⟩,GH.le_refl _,⟨[p],[],rfl,⟨p,hrow',rfl⟩,rfl⟩,rfl⟩,s⟩
end
end Go.Tp
namespace Go.Proofs
open Go.Shelf
def Tryz.du:Go.Shelf.Ren:=⟨fun|189=>134|125=>32|257=>162|128=>73|129=>74|294=>200|295=>201|296=>202|297=>203|298=>204|299=>205|216=>206|300=>207|301=>208|328=>231|329=>107|330=>108|331=>232|332=>233|215=>234|343=>236|n=>n,fun|28=>32|3=>3|46=>99|0=>0|51=>135|53=>137|4=>4|183=>128|182=>127|131=>132|5=>5|9=>9|218=>171|222=>175|228=>195|229=>196|n=>n,fun|n=>n⟩
theorem Tryz.ib:Go.Proofs.Lays.n189 Tryz.prog Tryz.du:={
 mixed:=by kernel_rfl
 f125:=Tryz.func32.trans (congrArg some (by kernel_rfl))
 f128:=Tryz.func73.trans (congrArg some (by kernel_rfl))
 f129:=Tryz.func74.trans (congrArg some (by kernel_rfl))
 f189:=Tryz.func134.trans (congrArg some (by kernel_rfl))
 f215:=Tryz.func234.trans (congrArg some (by kernel_rfl))
 f216:=Tryz.func206.trans (congrArg some (by kernel_rfl))
 f257:=Tryz.func162.trans (congrArg some (by kernel_rfl))
 f294:=Tryz.func200.trans (congrArg some (by kernel_rfl))
 f295:=Tryz.func201.trans (congrArg some (by kernel_rfl))
 f296:=Tryz.func202.trans (congrArg some (by kernel_rfl))
 f297:=Tryz.func203.trans (congrArg some (by kernel_rfl))
 f298:=Tryz.func204.trans (congrArg some (by kernel_rfl))
 f299:=Tryz.func205.trans (congrArg some (by kernel_rfl))
 f300:=Tryz.func207.trans (congrArg some (by kernel_rfl))
 f301:=Tryz.func208.trans (congrArg some (by kernel_rfl))
 f328:=Tryz.func231.trans (congrArg some (by kernel_rfl))
 f329:=Tryz.func107.trans (congrArg some (by kernel_rfl))
 f330:=Tryz.func108.trans (congrArg some (by kernel_rfl))
 f331:=Tryz.func232.trans (congrArg some (by kernel_rfl))
 f332:=Tryz.func233.trans (congrArg some (by kernel_rfl))
 f343:=Tryz.func236.trans (congrArg some (by kernel_rfl))
 t0:=Tryz.underlying0
 a0:=Tryz.isAgg0
 z0:=Tryz.sizeOf0
 v0:=Tryz.zeroValue0
 t3:=Tryz.underlying3
 a3:=Tryz.isAgg3
 z3:=Tryz.sizeOf3
 v3:=Tryz.zeroValue3
 t4:=Tryz.underlying4
 a4:=Tryz.isAgg4
 z4:=Tryz.sizeOf4
 v4:=Tryz.zeroValue4
 t5:=Tryz.underlying5
 a5:=Tryz.isAgg5
 z5:=Tryz.sizeOf5
 v5:=Tryz.zeroValue5
 t9:=Tryz.underlying9
 a9:=Tryz.isAgg9
 z9:=Tryz.sizeOf9
 v9:=Tryz.zeroValue9
 t28:=Tryz.underlying32
 a28:=Tryz.isAgg32
 z28:=Tryz.sizeOf32
 v28:=Tryz.zeroValue32
 t46:=Tryz.underlying99
 a46:=Tryz.isAgg99
 z46:=Tryz.sizeOf99
 v46:=Tryz.zeroValue99
 t51:=Tryz.underlying135
 a51:=Tryz.isAgg135
 z51:=Tryz.sizeOf135
 v51:=Tryz.zeroValue135
 t53:=Tryz.underlying137
 a53:=Tryz.isAgg137
 z53:=Tryz.sizeOf137
 v53:=Tryz.zeroValue137
 t131:=Tryz.underlying132
 a131:=Tryz.isAgg132
 z131:=Tryz.sizeOf132
 v131:=Tryz.zeroValue132
 t182:=Tryz.underlying127
 a182:=Tryz.isAgg127
 z182:=Tryz.sizeOf127
 v182:=Tryz.zeroValue127
 t183:=Tryz.underlying128
 a183:=Tryz.isAgg128
 z183:=Tryz.sizeOf128
 v183:=Tryz.zeroValue128
 t218:=Tryz.underlying171
 a218:=Tryz.isAgg171
 z218:=Tryz.sizeOf171
 v218:=Tryz.zeroValue171
 t222:=Tryz.underlying175
 a222:=Tryz.isAgg175
 z222:=Tryz.sizeOf175
 v222:=Tryz.zeroValue175
 t228:=Tryz.underlying195
 a228:=Tryz.isAgg195
 z228:=Tryz.sizeOf195
 v228:=Tryz.zeroValue195
 t229:=Tryz.underlying196
 a229:=Tryz.isAgg196
 z229:=Tryz.sizeOf196
 v229:=Tryz.zeroValue196}
end Go.Proofs
namespace Go.Proofs.YtenkjmjejhhdjaaGreat
open Go Go.Tp
abbrev yC(b:Nat):AV:= .fn 133 [] [aT b]
abbrev iB(b:Nat)(z:Value)(l:List Int):List aH:=[.box b (.ms z 1 l.length), .row 1 z (l.map AI)]
theorem sI{h:GH}(sz:Nat){y:Value}(r:Rp h (.v (.slice none 0 0)) y):Rp h (.ms (.slice none 0 0) sz 0) y:=by rw [bN] at r;rw [r.1];exact gI.2 ⟨rfl,none,0,rfl⟩
theorem DH(b:Nat)(z:Value)(l:List Int)(c:Int)(hl:l.length<=1048576):fB Tryz.prog aU 133 [AI c,aT b] (iB b z l) (fun _:Value=> .tp []) (fun z'=>iB b z' (l++[c])) (fun _=>True):=by
 unfold fB;refine jB.of (S:=tt) (fn:=Tryz.f133) (n:=7) dE Tryz.func133 T T T T fun w0 h0 F hgs=>?_;refine t_ fun bl=>?_;refine A.aj T T T T T T T T T T T T T T (by show ((l.map AI).length+1)*1<=_;rw [aa0];omega) (by show ((l.map AI).length+1)*1*8<=_;rw [aa0];omega) fun z2=>?_;refine y_ ?_;refine A.perm (.swap _ _ _) ?_;refine A.ab (Λ':=iB b z2 (l++[c])) (by show [aH.box b (.ms z2 1 ((l.map AI).length+1)), .row 1 z2 (l.map AI++[AI c])]=[.box b (.ms z2 1 (l++[c]).length), .row 1 z2 ((l++[c]).map AI)];rw [aa0,aa1,ac0];rfl) ?_
 exact A.bp T T (.refl _) ⟨z2, .refl,rfl,trivial⟩
theorem yU: ∀a b:List PR,aI (a++b)=aI a++aI b
 | [],b=>by rw [aI];rfl |x::a,b=>by rw [ad4,aI,aI,yU a b,ab2]
theorem yT: ∀a b:List GD,aZ (a++b)=aZ a++aZ b
 | [],b=>by rw [aZ];rfl |⟨k,cd,c,it,to,tm,bd⟩::a,b=>by rw [ad4,aZ,aZ,yT a b];simp only [ab2]
theorem SY(g:GD):aZ [g]=(if g.kind=3 then [g.c] else [])++aI g.body:=by obtain ⟨k,cd,c,it,to,tm,bd⟩:=g;rw [aZ,aZ,aa9]
theorem bR{l:List PR}{i:Nat}{x:PR}(h:l[i]? =some x):aI (l.take (i+1))=aI (l.take i)++dW x:=by rw [ac9,h,yU];show _++aI [x]=_;rw [aI,aI,aa9]
theorem fI{l:List GD}{i:Nat}{g:GD}(h:l[i]? =some g):aZ (l.take (i+1))=aZ (l.take i)++((if g.kind=3 then [g.c] else [])++aI g.body):=by rw [ac9,h,yT];show _++aZ [g]=_;rw [SY]
theorem dL(l:List PR)(i:Nat):(aI (l.take i)).length<=(aI l).length:=by have:=yU (l.take i) (l.drop i);rw [ae3] at this;rw [this,aa1];omega
theorem nL(l:List GD)(i:Nat):(aZ (l.take i)).length<=(aZ l).length:=by have:=yT (l.take i) (l.drop i);rw [ae3] at this;rw [this,aa1];omega
abbrev WalkC(p:PR):Prop:= ∀(b:Nat) (z:Value) (l:List Int),l.length+(dW p).length<=1048576->fB Tryz.prog aU 132 [aE p,yC b] (iB b z l) (fun _:Value=> .tp []) (fun z'=>iB b z' (l++dW p)) (fun _=>True)
theorem walk_f(p:PR)(hs:sS p)(hl: ∀x,x∈p.l->WalkC x)(hg': ∀g,g∈p.gs-> ∀x,x∈g.body->WalkC x):WalkC p:=by
 have hsa:=lF hs;have hll:=hsa.ll;have hgl:=hsa.gl;have n1:((aS p.l).length:Int)=p.l.length:=by rw [bP]
 have n2:((cA p.gs).length:Int)=p.gs.length:=by rw [cL]
 intro b z0 l hbn;have hrc:=tJ p;have hbn':=hbn;rw [hrc,aa1,aa1] at hbn';unfold fB
 by_cases h5:p.kind=5
 ·rw [iT (.inl h5)] at hrc hbn';have hpu:=DH b z0 l p.c (by omega);refine eX (l++[p.c]) fun l1 hl1=>?_;have hl1n:l1.length+((aI p.l).length+(aZ p.gs).length)<=1048576:=by rw [hl1,aa1];omega
  have hfin:l++dW p=l1++(aI p.l++aZ p.gs):=by rw [hrc,hl1,ab2]
  rw [<-hl1] at hpu;refine jB.of (S:=tt) (fn:=Tryz.f132) (n:=59) dE Tryz.func132 T T T T fun w0 h0 F hgs=>?_;refine b_ fun bx=>?_;refine y_ ?_;refine e_ 13 T (x':=AB true) (aA (by rw [h5];rfl)) ?_;refine A.e T hpu s_ (Λ2:=[.box bx (aE p)]) (ai8 (l₁:=[_])) fun z1 _=>?_;refine A.perm (Λ':= .box bx (aE p)::iB b z1 l1) (ai8 (l₂:=[_])) ?_;refine A.freeze 2 (sz:=8) T T T ?_;refine l_ (Λ':=iB b z1 l1) ?_;refine y_ ?_;refine A.aa 24 T (x':=AI (p.l.length:Nat)) (aL n1) ?_;refine A.af [1,2,23,24,25] T ?_;refine A.ae (ι:=Nat×Value) (fun v=>(⟨[(1,yC b),(2, .pe 8 (aE p)),(23,pN p.l),(24,AI (p.l.length:Nat)),(25,AI (v.1:Nat))],[]⟩,iB b v.2 (l1++aI (p.l.take v.1)))) (fun v=>v.1<=p.l.length) (fun v=>p.l.length-v.1) (0,z1) (aa4 _) (by show (_,iB b z1 (l1++aI (p.l.take 0)))=_;rw [ad1,aI,aa9];rfl) fun v hv ih=>?_
  obtain ⟨i,z⟩:=v;simp only at hv;refine y_ ?_
  by_cases hci:i<p.l.length
  ·refine aX hci fun x hx=>?_;have htk:=bR hx;have hpr:=dL p.l (i+1);rw [htk,aa1] at hpr;have hcall:=hl x (aa2 hx) b z (l1++aI (p.l.take i)) (by rw [aa1];omega);rw [ab2,<-htk] at hcall;refine T_ T (by show decide ((i:Int)<(p.l.length:Nat))=true;rw [dT];omega) ?_;refine j_ T (aV hx) (bC x) ?_;refine b_ fun b5=>?_;refine y_ ?_;refine A.less (Λ':=iB b z (l1++aI (p.l.take i))) (.cons _ (.refl _)) ?_;refine A.e T hcall s_ (Λ2:=[]) (by rw [aa9]) fun z' _=>?_;refine y_ ?_;refine A.ab (aa9 _) ?_;refine vI 25 i ?_;refine u_ (ih (i+1,z') (by show i+1<=_;omega) (by show _-(i+1)<_-i;omega))
  ·refine A.gF T (by show decide ((i:Int)<(p.l.length:Nat))=false;rw [dF];omega) ?_;have fN:p.l.take i=p.l:=aa6 (by omega);clear ih;refine eX (l1++aI p.l) fun l2 hl2=>?_;have hl2n:l2.length+(aZ p.gs).length<=1048576:=by rw [hl2,aa1];omega
   refine A.ab (Λ':=iB b z l2) (by rw [hl2];show iB b z (l1++aI (p.l.take i))=_;rw [fN]) ?_;refine y_ ?_;refine A.aa 35 T (x':=AI (p.gs.length:Nat)) (aL n2) ?_;refine A.af [1,2,34,35,36] T ?_;refine A.ae (ι:=Nat×Value) (fun v=>(⟨[(1,yC b),(2, .pe 8 (aE p)),(34,zS p.gs),(35,AI (p.gs.length:Nat)),(36,AI (v.1:Nat))],[]⟩,iB b v.2 (l2++aZ (p.gs.take v.1)))) (fun v=>v.1<=p.gs.length) (fun v=>p.gs.length-v.1) (0,z) (aa4 _) (by show (_,iB b z (l2++aZ (p.gs.take 0)))=_;rw [ad1,aZ,aa9];rfl) fun v hv ih=>?_
   obtain ⟨j,z2⟩:=v;simp only at hv;refine y_ ?_
   by_cases hcj:j<p.gs.length
   ·refine aX hcj fun g hg=>?_;have hgm:=aa2 hg;have hgk:=fI hg;have hgp:=nL p.gs (j+1);rw [hgk,aa1,aa1] at hgp;have n3:((aS g.body).length:Int)=g.body.length:=by rw [bP]
    have hbl:=(kC (hsa.g g hgm)).bl;refine T_ T (by show decide ((j:Int)<(p.gs.length:Nat))=true;rw [dT];omega) ?_;refine j_ T (bZ hg) (cK g) ?_;refine b_ fun b7=>?_;refine y_ ?_;refine A.freeze 7 (sz:=18) T T T ?_;refine l_ (Λ':=iB b z2 (l2++aZ (p.gs.take j))) ?_
    by_cases hk3:g.kind=3
    ·rw [iT hk3] at hgk hgp;simp only [ab7,af5] at hgp;have hpu:=DH b z2 (l2++aZ (p.gs.take j)) g.c (by rw [aa1];omega);refine eX (l2++aZ (p.gs.take j)++[g.c]) fun l3 hl3=>?_;have hl3n:l3.length+(aI g.body).length<=1048576:=by rw [hl3,aa1,aa1,ap0];omega
     have hl3e:l2++aZ (p.gs.take (j+1))=l3++aI g.body:=by rw [hgk,hl3];simp
     rw [<-hl3] at hpu;refine T_ T (by show (g.kind==3)=true;simpa using hk3) ?_;refine A.e T hpu s_ (Λ2:=[]) (by rw [aa9]) fun z3 _=>?_;refine A.ab (aa9 _) ?_;refine y_ ?_;refine A.aa 49 T (x':=AI (g.body.length:Nat)) (aL n3) ?_;refine A.af [1,2,34,35,36,48,49,50] T ?_;refine A.ae (ι:=Nat×Value) (fun v=>(⟨[(1,yC b),(2, .pe 8 (aE p)),(34,zS p.gs),(35,AI (p.gs.length:Nat)),(36,AI (j:Nat)),(48,pN g.body),(49,AI (g.body.length:Nat)),(50,AI (v.1:Nat))],[]⟩,iB b v.2 (l3++aI (g.body.take v.1)))) (fun v=>v.1<=g.body.length) (fun v=>g.body.length-v.1) (0,z3) (aa4 _) (by show (_,iB b z3 (l3++aI (g.body.take 0)))=_;rw [ad1,aI,aa9];rfl) fun v hv jh=>?_
     obtain ⟨k,z4⟩:=v;simp only at hv;refine y_ ?_
     by_cases hck:k<g.body.length
     ·refine aX hck fun x hx=>?_;have htk:=bR hx;have hpr:=dL g.body (k+1);rw [htk,aa1] at hpr;have hcall:=hg' g hgm x (aa2 hx) b z4 (l3++aI (g.body.take k)) (by rw [aa1];omega);rw [ab2,<-htk] at hcall;refine T_ T (by show decide ((k:Int)<(g.body.length:Nat))=true;rw [dT];omega) ?_;refine j_ T (aV hx) (bC x) ?_;refine b_ fun b9=>?_;refine y_ ?_;refine A.less (Λ':=iB b z4 (l3++aI (g.body.take k))) (.cons _ (.refl _)) ?_;refine A.e T hcall s_ (Λ2:=[]) (by rw [aa9]) fun z' _=>?_;refine y_ ?_;refine A.ab (aa9 _) ?_;refine vI 50 k ?_;refine u_ (jh (k+1,z') (by show k+1<=_;omega) (by show _-(k+1)<_-k;omega))
     ·refine A.gF T (by show decide ((k:Int)<(g.body.length:Nat))=false;rw [dF];omega) ?_;have htb:g.body.take k=g.body:=aa6 (by omega);refine A.ab (Λ':=iB b z4 (l2++aZ (p.gs.take (j+1)))) (by rw [hl3e];show iB b z4 (l3++aI (g.body.take k))=_;rw [htb]) ?_;refine y_ ?_;refine vI 36 j ?_;refine u_ (ih (j+1,z4) (by show j+1<=_;omega) (by show _-(j+1)<_-j;omega))
    ·rw [iF hk3] at hgk hgp;refine eX (l2++aZ (p.gs.take j)) fun l3 hl3=>?_;refine eX (z2) fun z3 hz3=>?_;have hl3n:l3.length+(aI g.body).length<=1048576:=by rw [hl3,aa1];simp only [af5] at hgp;omega
     have hl3e:l2++aZ (p.gs.take (j+1))=l3++aI g.body:=by rw [hgk,hl3];simp
     refine A.gF T (by show (g.kind==3)=false;simpa using hk3) ?_;refine A.ab (Λ':=iB b z3 l3) (by rw [hl3,hz3]) ?_;refine y_ ?_;refine A.aa 49 T (x':=AI (g.body.length:Nat)) (aL n3) ?_;refine A.af [1,2,34,35,36,48,49,50] T ?_;refine A.ae (ι:=Nat×Value) (fun v=>(⟨[(1,yC b),(2, .pe 8 (aE p)),(34,zS p.gs),(35,AI (p.gs.length:Nat)),(36,AI (j:Nat)),(48,pN g.body),(49,AI (g.body.length:Nat)),(50,AI (v.1:Nat))],[]⟩,iB b v.2 (l3++aI (g.body.take v.1)))) (fun v=>v.1<=g.body.length) (fun v=>g.body.length-v.1) (0,z3) (aa4 _) (by show (_,iB b z3 (l3++aI (g.body.take 0)))=_;rw [ad1,aI,aa9];rfl) fun v hv jh=>?_
     obtain ⟨k,z4⟩:=v;simp only at hv;refine y_ ?_
     by_cases hck:k<g.body.length
     ·refine aX hck fun x hx=>?_;have htk:=bR hx;have hpr:=dL g.body (k+1);rw [htk,aa1] at hpr;have hcall:=hg' g hgm x (aa2 hx) b z4 (l3++aI (g.body.take k)) (by rw [aa1];omega);rw [ab2,<-htk] at hcall;refine T_ T (by show decide ((k:Int)<(g.body.length:Nat))=true;rw [dT];omega) ?_;refine j_ T (aV hx) (bC x) ?_;refine b_ fun b9=>?_;refine y_ ?_;refine A.less (Λ':=iB b z4 (l3++aI (g.body.take k))) (.cons _ (.refl _)) ?_;refine A.e T hcall s_ (Λ2:=[]) (by rw [aa9]) fun z' _=>?_;refine y_ ?_;refine A.ab (aa9 _) ?_;refine vI 50 k ?_;refine u_ (jh (k+1,z') (by show k+1<=_;omega) (by show _-(k+1)<_-k;omega))
     ·refine A.gF T (by show decide ((k:Int)<(g.body.length:Nat))=false;rw [dF];omega) ?_;have htb:g.body.take k=g.body:=aa6 (by omega);refine A.ab (Λ':=iB b z4 (l2++aZ (p.gs.take (j+1)))) (by rw [hl3e];show iB b z4 (l3++aI (g.body.take k))=_;rw [htb]) ?_;refine y_ ?_;refine vI 36 j ?_;refine u_ (ih (j+1,z4) (by show j+1<=_;omega) (by show _-(j+1)<_-j;omega))
   ·refine A.gF T (by show decide ((j:Int)<(p.gs.length:Nat))=false;rw [dF];omega) ?_;have htg:p.gs.take j=p.gs:=aa6 (by omega);refine A.ab (Λ':=iB b z2 (l++dW p)) (by rw [hfin,<-ab2,<-hl2];show iB b z2 (l2++aZ (p.gs.take j))=_;rw [htg]) ?_;refine y_ ?_;exact A.bp T T (.refl _) ⟨z2, .refl,rfl,trivial⟩
 by_cases h6:p.kind=6
 ·rw [iT (.inr h6)] at hrc hbn';have hpu:=DH b z0 l p.c (by omega);refine eX (l++[p.c]) fun l1 hl1=>?_;have hl1n:l1.length+((aI p.l).length+(aZ p.gs).length)<=1048576:=by rw [hl1,aa1];omega
  have hfin:l++dW p=l1++(aI p.l++aZ p.gs):=by rw [hrc,hl1,ab2]
  rw [<-hl1] at hpu;refine jB.of (S:=tt) (fn:=Tryz.f132) (n:=59) dE Tryz.func132 T T T T fun w0 h0 F hgs=>?_;refine b_ fun bx=>?_;refine y_ ?_;refine e_ 13 T (x':=AB false) (aA (beq_eq_false_iff_ne.2 h5)) ?_;refine T_ T (by rw [h6];rfl) ?_;refine A.e T hpu s_ (Λ2:=[.box bx (aE p)]) (ai8 (l₁:=[_])) fun z1 _=>?_;refine A.perm (Λ':= .box bx (aE p)::iB b z1 l1) (ai8 (l₂:=[_])) ?_;refine A.freeze 2 (sz:=8) T T T ?_;refine l_ (Λ':=iB b z1 l1) ?_;refine y_ ?_;refine A.aa 24 T (x':=AI (p.l.length:Nat)) (aL n1) ?_;refine A.af [1,2,23,24,25] T ?_;refine A.ae (ι:=Nat×Value) (fun v=>(⟨[(1,yC b),(2, .pe 8 (aE p)),(23,pN p.l),(24,AI (p.l.length:Nat)),(25,AI (v.1:Nat))],[]⟩,iB b v.2 (l1++aI (p.l.take v.1)))) (fun v=>v.1<=p.l.length) (fun v=>p.l.length-v.1) (0,z1) (aa4 _) (by show (_,iB b z1 (l1++aI (p.l.take 0)))=_;rw [ad1,aI,aa9];rfl) fun v hv ih=>?_
  obtain ⟨i,z⟩:=v;simp only at hv;refine y_ ?_
  by_cases hci:i<p.l.length
  ·refine aX hci fun x hx=>?_;have htk:=bR hx;have hpr:=dL p.l (i+1);rw [htk,aa1] at hpr;have hcall:=hl x (aa2 hx) b z (l1++aI (p.l.take i)) (by rw [aa1];omega);rw [ab2,<-htk] at hcall;refine T_ T (by show decide ((i:Int)<(p.l.length:Nat))=true;rw [dT];omega) ?_;refine j_ T (aV hx) (bC x) ?_;refine b_ fun b5=>?_;refine y_ ?_;refine A.less (Λ':=iB b z (l1++aI (p.l.take i))) (.cons _ (.refl _)) ?_;refine A.e T hcall s_ (Λ2:=[]) (by rw [aa9]) fun z' _=>?_;refine y_ ?_;refine A.ab (aa9 _) ?_;refine vI 25 i ?_;refine u_ (ih (i+1,z') (by show i+1<=_;omega) (by show _-(i+1)<_-i;omega))
  ·refine A.gF T (by show decide ((i:Int)<(p.l.length:Nat))=false;rw [dF];omega) ?_;have fN:p.l.take i=p.l:=aa6 (by omega);clear ih;refine eX (l1++aI p.l) fun l2 hl2=>?_;have hl2n:l2.length+(aZ p.gs).length<=1048576:=by rw [hl2,aa1];omega
   refine A.ab (Λ':=iB b z l2) (by rw [hl2];show iB b z (l1++aI (p.l.take i))=_;rw [fN]) ?_;refine y_ ?_;refine A.aa 35 T (x':=AI (p.gs.length:Nat)) (aL n2) ?_;refine A.af [1,2,34,35,36] T ?_;refine A.ae (ι:=Nat×Value) (fun v=>(⟨[(1,yC b),(2, .pe 8 (aE p)),(34,zS p.gs),(35,AI (p.gs.length:Nat)),(36,AI (v.1:Nat))],[]⟩,iB b v.2 (l2++aZ (p.gs.take v.1)))) (fun v=>v.1<=p.gs.length) (fun v=>p.gs.length-v.1) (0,z) (aa4 _) (by show (_,iB b z (l2++aZ (p.gs.take 0)))=_;rw [ad1,aZ,aa9];rfl) fun v hv ih=>?_
   obtain ⟨j,z2⟩:=v;simp only at hv;refine y_ ?_
   by_cases hcj:j<p.gs.length
   ·refine aX hcj fun g hg=>?_;have hgm:=aa2 hg;have hgk:=fI hg;have hgp:=nL p.gs (j+1);rw [hgk,aa1,aa1] at hgp;have n3:((aS g.body).length:Int)=g.body.length:=by rw [bP]
    have hbl:=(kC (hsa.g g hgm)).bl;refine T_ T (by show decide ((j:Int)<(p.gs.length:Nat))=true;rw [dT];omega) ?_;refine j_ T (bZ hg) (cK g) ?_;refine b_ fun b7=>?_;refine y_ ?_;refine A.freeze 7 (sz:=18) T T T ?_;refine l_ (Λ':=iB b z2 (l2++aZ (p.gs.take j))) ?_
    by_cases hk3:g.kind=3
    ·rw [iT hk3] at hgk hgp;simp only [ab7,af5] at hgp;have hpu:=DH b z2 (l2++aZ (p.gs.take j)) g.c (by rw [aa1];omega);refine eX (l2++aZ (p.gs.take j)++[g.c]) fun l3 hl3=>?_;have hl3n:l3.length+(aI g.body).length<=1048576:=by rw [hl3,aa1,aa1,ap0];omega
     have hl3e:l2++aZ (p.gs.take (j+1))=l3++aI g.body:=by rw [hgk,hl3];simp
     rw [<-hl3] at hpu;refine T_ T (by show (g.kind==3)=true;simpa using hk3) ?_;refine A.e T hpu s_ (Λ2:=[]) (by rw [aa9]) fun z3 _=>?_;refine A.ab (aa9 _) ?_;refine y_ ?_;refine A.aa 49 T (x':=AI (g.body.length:Nat)) (aL n3) ?_;refine A.af [1,2,34,35,36,48,49,50] T ?_;refine A.ae (ι:=Nat×Value) (fun v=>(⟨[(1,yC b),(2, .pe 8 (aE p)),(34,zS p.gs),(35,AI (p.gs.length:Nat)),(36,AI (j:Nat)),(48,pN g.body),(49,AI (g.body.length:Nat)),(50,AI (v.1:Nat))],[]⟩,iB b v.2 (l3++aI (g.body.take v.1)))) (fun v=>v.1<=g.body.length) (fun v=>g.body.length-v.1) (0,z3) (aa4 _) (by show (_,iB b z3 (l3++aI (g.body.take 0)))=_;rw [ad1,aI,aa9];rfl) fun v hv jh=>?_
     obtain ⟨k,z4⟩:=v;simp only at hv;refine y_ ?_
     by_cases hck:k<g.body.length
     ·refine aX hck fun x hx=>?_;have htk:=bR hx;have hpr:=dL g.body (k+1);rw [htk,aa1] at hpr;have hcall:=hg' g hgm x (aa2 hx) b z4 (l3++aI (g.body.take k)) (by rw [aa1];omega);rw [ab2,<-htk] at hcall;refine T_ T (by show decide ((k:Int)<(g.body.length:Nat))=true;rw [dT];omega) ?_;refine j_ T (aV hx) (bC x) ?_;refine b_ fun b9=>?_;refine y_ ?_;refine A.less (Λ':=iB b z4 (l3++aI (g.body.take k))) (.cons _ (.refl _)) ?_;refine A.e T hcall s_ (Λ2:=[]) (by rw [aa9]) fun z' _=>?_;refine y_ ?_;refine A.ab (aa9 _) ?_;refine vI 50 k ?_;refine u_ (jh (k+1,z') (by show k+1<=_;omega) (by show _-(k+1)<_-k;omega))
     ·refine A.gF T (by show decide ((k:Int)<(g.body.length:Nat))=false;rw [dF];omega) ?_;have htb:g.body.take k=g.body:=aa6 (by omega);refine A.ab (Λ':=iB b z4 (l2++aZ (p.gs.take (j+1)))) (by rw [hl3e];show iB b z4 (l3++aI (g.body.take k))=_;rw [htb]) ?_;refine y_ ?_;refine vI 36 j ?_;refine u_ (ih (j+1,z4) (by show j+1<=_;omega) (by show _-(j+1)<_-j;omega))
    ·rw [iF hk3] at hgk hgp;refine eX (l2++aZ (p.gs.take j)) fun l3 hl3=>?_;refine eX (z2) fun z3 hz3=>?_;have hl3n:l3.length+(aI g.body).length<=1048576:=by rw [hl3,aa1];simp only [af5] at hgp;omega
     have hl3e:l2++aZ (p.gs.take (j+1))=l3++aI g.body:=by rw [hgk,hl3];simp
     refine A.gF T (by show (g.kind==3)=false;simpa using hk3) ?_;refine A.ab (Λ':=iB b z3 l3) (by rw [hl3,hz3]) ?_;refine y_ ?_;refine A.aa 49 T (x':=AI (g.body.length:Nat)) (aL n3) ?_;refine A.af [1,2,34,35,36,48,49,50] T ?_;refine A.ae (ι:=Nat×Value) (fun v=>(⟨[(1,yC b),(2, .pe 8 (aE p)),(34,zS p.gs),(35,AI (p.gs.length:Nat)),(36,AI (j:Nat)),(48,pN g.body),(49,AI (g.body.length:Nat)),(50,AI (v.1:Nat))],[]⟩,iB b v.2 (l3++aI (g.body.take v.1)))) (fun v=>v.1<=g.body.length) (fun v=>g.body.length-v.1) (0,z3) (aa4 _) (by show (_,iB b z3 (l3++aI (g.body.take 0)))=_;rw [ad1,aI,aa9];rfl) fun v hv jh=>?_
     obtain ⟨k,z4⟩:=v;simp only at hv;refine y_ ?_
     by_cases hck:k<g.body.length
     ·refine aX hck fun x hx=>?_;have htk:=bR hx;have hpr:=dL g.body (k+1);rw [htk,aa1] at hpr;have hcall:=hg' g hgm x (aa2 hx) b z4 (l3++aI (g.body.take k)) (by rw [aa1];omega);rw [ab2,<-htk] at hcall;refine T_ T (by show decide ((k:Int)<(g.body.length:Nat))=true;rw [dT];omega) ?_;refine j_ T (aV hx) (bC x) ?_;refine b_ fun b9=>?_;refine y_ ?_;refine A.less (Λ':=iB b z4 (l3++aI (g.body.take k))) (.cons _ (.refl _)) ?_;refine A.e T hcall s_ (Λ2:=[]) (by rw [aa9]) fun z' _=>?_;refine y_ ?_;refine A.ab (aa9 _) ?_;refine vI 50 k ?_;refine u_ (jh (k+1,z') (by show k+1<=_;omega) (by show _-(k+1)<_-k;omega))
     ·refine A.gF T (by show decide ((k:Int)<(g.body.length:Nat))=false;rw [dF];omega) ?_;have htb:g.body.take k=g.body:=aa6 (by omega);refine A.ab (Λ':=iB b z4 (l2++aZ (p.gs.take (j+1)))) (by rw [hl3e];show iB b z4 (l3++aI (g.body.take k))=_;rw [htb]) ?_;refine y_ ?_;refine vI 36 j ?_;refine u_ (ih (j+1,z4) (by show j+1<=_;omega) (by show _-(j+1)<_-j;omega))
   ·refine A.gF T (by show decide ((j:Int)<(p.gs.length:Nat))=false;rw [dF];omega) ?_;have htg:p.gs.take j=p.gs:=aa6 (by omega);refine A.ab (Λ':=iB b z2 (l++dW p)) (by rw [hfin,<-ab2,<-hl2];show iB b z2 (l2++aZ (p.gs.take j))=_;rw [htg]) ?_;refine y_ ?_;exact A.bp T T (.refl _) ⟨z2, .refl,rfl,trivial⟩
 ·rw [iF (by omega)] at hrc hbn';refine eX (l) fun l1 hl1=>?_;refine eX (z0) fun z1 hz1=>?_;have hl1n:l1.length+((aI p.l).length+(aZ p.gs).length)<=1048576:=by rw [hl1];simp only [af5] at hbn';omega
  have hfin:l++dW p=l1++(aI p.l++aZ p.gs):=by rw [hrc,hl1,ag2]
  refine jB.of (S:=tt) (fn:=Tryz.f132) (n:=59) dE Tryz.func132 T T T T fun w0 h0 F hgs=>?_;refine b_ fun bx=>?_;refine y_ ?_;refine e_ 13 T (x':=AB false) (aA (beq_eq_false_iff_ne.2 h5)) ?_;refine A.gF T (beq_eq_false_iff_ne.2 h6) ?_;refine A.ab (Λ':= .box bx (aE p)::iB b z1 l1) (by rw [hl1,hz1]) ?_;refine y_ ?_;refine A.freeze 2 (sz:=8) T T T ?_;refine l_ (Λ':=iB b z1 l1) ?_;refine A.aa 24 T (x':=AI (p.l.length:Nat)) (aL n1) ?_;refine A.af [1,2,23,24,25] T ?_;refine A.ae (ι:=Nat×Value) (fun v=>(⟨[(1,yC b),(2, .pe 8 (aE p)),(23,pN p.l),(24,AI (p.l.length:Nat)),(25,AI (v.1:Nat))],[]⟩,iB b v.2 (l1++aI (p.l.take v.1)))) (fun v=>v.1<=p.l.length) (fun v=>p.l.length-v.1) (0,z1) (aa4 _) (by show (_,iB b z1 (l1++aI (p.l.take 0)))=_;rw [ad1,aI,aa9];rfl) fun v hv ih=>?_
  obtain ⟨i,z⟩:=v;simp only at hv;refine y_ ?_
  by_cases hci:i<p.l.length
  ·refine aX hci fun x hx=>?_;have htk:=bR hx;have hpr:=dL p.l (i+1);rw [htk,aa1] at hpr;have hcall:=hl x (aa2 hx) b z (l1++aI (p.l.take i)) (by rw [aa1];omega);rw [ab2,<-htk] at hcall;refine T_ T (by show decide ((i:Int)<(p.l.length:Nat))=true;rw [dT];omega) ?_;refine j_ T (aV hx) (bC x) ?_;refine b_ fun b5=>?_;refine y_ ?_;refine A.less (Λ':=iB b z (l1++aI (p.l.take i))) (.cons _ (.refl _)) ?_;refine A.e T hcall s_ (Λ2:=[]) (by rw [aa9]) fun z' _=>?_;refine y_ ?_;refine A.ab (aa9 _) ?_;refine vI 25 i ?_;refine u_ (ih (i+1,z') (by show i+1<=_;omega) (by show _-(i+1)<_-i;omega))
  ·refine A.gF T (by show decide ((i:Int)<(p.l.length:Nat))=false;rw [dF];omega) ?_;have fN:p.l.take i=p.l:=aa6 (by omega);clear ih;refine eX (l1++aI p.l) fun l2 hl2=>?_;have hl2n:l2.length+(aZ p.gs).length<=1048576:=by rw [hl2,aa1];omega
   refine A.ab (Λ':=iB b z l2) (by rw [hl2];show iB b z (l1++aI (p.l.take i))=_;rw [fN]) ?_;refine y_ ?_;refine A.aa 35 T (x':=AI (p.gs.length:Nat)) (aL n2) ?_;refine A.af [1,2,34,35,36] T ?_;refine A.ae (ι:=Nat×Value) (fun v=>(⟨[(1,yC b),(2, .pe 8 (aE p)),(34,zS p.gs),(35,AI (p.gs.length:Nat)),(36,AI (v.1:Nat))],[]⟩,iB b v.2 (l2++aZ (p.gs.take v.1)))) (fun v=>v.1<=p.gs.length) (fun v=>p.gs.length-v.1) (0,z) (aa4 _) (by show (_,iB b z (l2++aZ (p.gs.take 0)))=_;rw [ad1,aZ,aa9];rfl) fun v hv ih=>?_
   obtain ⟨j,z2⟩:=v;simp only at hv;refine y_ ?_
   by_cases hcj:j<p.gs.length
   ·refine aX hcj fun g hg=>?_;have hgm:=aa2 hg;have hgk:=fI hg;have hgp:=nL p.gs (j+1);rw [hgk,aa1,aa1] at hgp;have n3:((aS g.body).length:Int)=g.body.length:=by rw [bP]
    have hbl:=(kC (hsa.g g hgm)).bl;refine T_ T (by show decide ((j:Int)<(p.gs.length:Nat))=true;rw [dT];omega) ?_;refine j_ T (bZ hg) (cK g) ?_;refine b_ fun b7=>?_;refine y_ ?_;refine A.freeze 7 (sz:=18) T T T ?_;refine l_ (Λ':=iB b z2 (l2++aZ (p.gs.take j))) ?_
    by_cases hk3:g.kind=3
    ·rw [iT hk3] at hgk hgp;simp only [ab7,af5] at hgp;have hpu:=DH b z2 (l2++aZ (p.gs.take j)) g.c (by rw [aa1];omega);refine eX (l2++aZ (p.gs.take j)++[g.c]) fun l3 hl3=>?_;have hl3n:l3.length+(aI g.body).length<=1048576:=by rw [hl3,aa1,aa1,ap0];omega
     have hl3e:l2++aZ (p.gs.take (j+1))=l3++aI g.body:=by rw [hgk,hl3];simp
     rw [<-hl3] at hpu;refine T_ T (by show (g.kind==3)=true;simpa using hk3) ?_;refine A.e T hpu s_ (Λ2:=[]) (by rw [aa9]) fun z3 _=>?_;refine A.ab (aa9 _) ?_;refine y_ ?_;refine A.aa 49 T (x':=AI (g.body.length:Nat)) (aL n3) ?_;refine A.af [1,2,34,35,36,48,49,50] T ?_;refine A.ae (ι:=Nat×Value) (fun v=>(⟨[(1,yC b),(2, .pe 8 (aE p)),(34,zS p.gs),(35,AI (p.gs.length:Nat)),(36,AI (j:Nat)),(48,pN g.body),(49,AI (g.body.length:Nat)),(50,AI (v.1:Nat))],[]⟩,iB b v.2 (l3++aI (g.body.take v.1)))) (fun v=>v.1<=g.body.length) (fun v=>g.body.length-v.1) (0,z3) (aa4 _) (by show (_,iB b z3 (l3++aI (g.body.take 0)))=_;rw [ad1,aI,aa9];rfl) fun v hv jh=>?_
     obtain ⟨k,z4⟩:=v;simp only at hv;refine y_ ?_
     by_cases hck:k<g.body.length
     ·refine aX hck fun x hx=>?_;have htk:=bR hx;have hpr:=dL g.body (k+1);rw [htk,aa1] at hpr;have hcall:=hg' g hgm x (aa2 hx) b z4 (l3++aI (g.body.take k)) (by rw [aa1];omega);rw [ab2,<-htk] at hcall;refine T_ T (by show decide ((k:Int)<(g.body.length:Nat))=true;rw [dT];omega) ?_;refine j_ T (aV hx) (bC x) ?_;refine b_ fun b9=>?_;refine y_ ?_;refine A.less (Λ':=iB b z4 (l3++aI (g.body.take k))) (.cons _ (.refl _)) ?_;refine A.e T hcall s_ (Λ2:=[]) (by rw [aa9]) fun z' _=>?_;refine y_ ?_;refine A.ab (aa9 _) ?_;refine vI 50 k ?_;refine u_ (jh (k+1,z') (by show k+1<=_;omega) (by show _-(k+1)<_-k;omega))
     ·refine A.gF T (by show decide ((k:Int)<(g.body.length:Nat))=false;rw [dF];omega) ?_;have htb:g.body.take k=g.body:=aa6 (by omega);refine A.ab (Λ':=iB b z4 (l2++aZ (p.gs.take (j+1)))) (by rw [hl3e];show iB b z4 (l3++aI (g.body.take k))=_;rw [htb]) ?_;refine y_ ?_;refine vI 36 j ?_;refine u_ (ih (j+1,z4) (by show j+1<=_;omega) (by show _-(j+1)<_-j;omega))
    ·rw [iF hk3] at hgk hgp;refine eX (l2++aZ (p.gs.take j)) fun l3 hl3=>?_;refine eX (z2) fun z3 hz3=>?_;have hl3n:l3.length+(aI g.body).length<=1048576:=by rw [hl3,aa1];simp only [af5] at hgp;omega
     have hl3e:l2++aZ (p.gs.take (j+1))=l3++aI g.body:=by rw [hgk,hl3];simp
     refine A.gF T (by show (g.kind==3)=false;simpa using hk3) ?_;refine A.ab (Λ':=iB b z3 l3) (by rw [hl3,hz3]) ?_;refine y_ ?_;refine A.aa 49 T (x':=AI (g.body.length:Nat)) (aL n3) ?_;refine A.af [1,2,34,35,36,48,49,50] T ?_;refine A.ae (ι:=Nat×Value) (fun v=>(⟨[(1,yC b),(2, .pe 8 (aE p)),(34,zS p.gs),(35,AI (p.gs.length:Nat)),(36,AI (j:Nat)),(48,pN g.body),(49,AI (g.body.length:Nat)),(50,AI (v.1:Nat))],[]⟩,iB b v.2 (l3++aI (g.body.take v.1)))) (fun v=>v.1<=g.body.length) (fun v=>g.body.length-v.1) (0,z3) (aa4 _) (by show (_,iB b z3 (l3++aI (g.body.take 0)))=_;rw [ad1,aI,aa9];rfl) fun v hv jh=>?_
     obtain ⟨k,z4⟩:=v;simp only at hv;refine y_ ?_
     by_cases hck:k<g.body.length
     ·refine aX hck fun x hx=>?_;have htk:=bR hx;have hpr:=dL g.body (k+1);rw [htk,aa1] at hpr;have hcall:=hg' g hgm x (aa2 hx) b z4 (l3++aI (g.body.take k)) (by rw [aa1];omega);rw [ab2,<-htk] at hcall;refine T_ T (by show decide ((k:Int)<(g.body.length:Nat))=true;rw [dT];omega) ?_;refine j_ T (aV hx) (bC x) ?_;refine b_ fun b9=>?_;refine y_ ?_;refine A.less (Λ':=iB b z4 (l3++aI (g.body.take k))) (.cons _ (.refl _)) ?_;refine A.e T hcall s_ (Λ2:=[]) (by rw [aa9]) fun z' _=>?_;refine y_ ?_;refine A.ab (aa9 _) ?_;refine vI 50 k ?_;refine u_ (jh (k+1,z') (by show k+1<=_;omega) (by show _-(k+1)<_-k;omega))
     ·refine A.gF T (by show decide ((k:Int)<(g.body.length:Nat))=false;rw [dF];omega) ?_;have htb:g.body.take k=g.body:=aa6 (by omega);refine A.ab (Λ':=iB b z4 (l2++aZ (p.gs.take (j+1)))) (by rw [hl3e];show iB b z4 (l3++aI (g.body.take k))=_;rw [htb]) ?_;refine y_ ?_;refine vI 36 j ?_;refine u_ (ih (j+1,z4) (by show j+1<=_;omega) (by show _-(j+1)<_-j;omega))
   ·refine A.gF T (by show decide ((j:Int)<(p.gs.length:Nat))=false;rw [dF];omega) ?_;have htg:p.gs.take j=p.gs:=aa6 (by omega);refine A.ab (Λ':=iB b z2 (l++dW p)) (by rw [hfin,<-ab2,<-hl2];show iB b z2 (l2++aZ (p.gs.take j))=_;rw [htg]) ?_;refine y_ ?_;exact A.bp T T (.refl _) ⟨z2, .refl,rfl,trivial⟩
theorem N9: ∀(n:Nat) (p:PR),SizeOf.sizeOf p<=n->sS p->WalkC p
 |0,p,h,_=>by obtain ⟨k,c,v,i,to,e,gs,l⟩:=p;simp only [PR.mk.sizeOf_spec] at h;omega
 |n+1,p,hn,hs=>walk_f p hs (fun x hx=>N9 n x (by have:=mO hx;omega) ((lF hs).l x hx)) fun g hg x hx=>N9 n x (by have:=nX hg hx;omega) ((kC ((lF hs).g g hg)).body x hx)
theorem walk_p(p:PR)(hs:sS p):WalkC p:=N9 _ p (ab3 _) hs
theorem a0r(l:List Int):(l.mergeSort fun x y=>decide (x<=y)).Pairwise fun x y=>j8 y x=false:=by have:=List.pairwise_mergeSort (le:=fun x y:Int=>decide (x<=y)) (fun a b c h1 h2=>by simp only [dT] at*;omega) (fun a b=>by simp only [Bool.or_eq_true,dT];omega) l;refine this.imp fun {a b} h=>?_;unfold j8;simp only [dT] at h;simp only [dF];omega
theorem ZZ(p:PR)(hs:sS p)(hb:(dW p).length<=1048576):Pure Tryz.prog aU 88 [aE p] (aQ (aB p)):=by
 have hw:=walk_p p hs;refine P_ Tryz.func88 11 fun _ _ _ _=>?_;refine b_ fun b1=>?_;refine b_ fun b3=>?_;have hw:=hw b3 (.slice none 0 0) [] (by simpa using hb);refine A.bn (b:=b3) (x':= .ms (.slice none 0 0) 1 0) (.refl _) (fun h y r=>sI 1 r) ?_;refine A.av 1 ?_;refine y_ ?_;refine l_ (Λ':=[.row 1 (.slice none 0 0) [], .box b3 (.ms (.slice none 0 0) 1 0)]) ?_;refine A.perm (Λ':=iB b3 (.slice none 0 0) []) (c9 [1,0] T T T T) ?_;refine A.e T hw s_ (Λ2:=[]) (by rw [aa9]) fun z1 _=>?_;refine A.ab (aa9 _) ?_;refine A.ab (Λ':=iB b3 z1 (dW p)) (by rw [ag2]) ?_;have hso:fB Tryz.prog aU 134 [.ms z1 1 (dW p).length] [.row 1 z1 ((dW p).map AI)] (fun _:Unit=> .tp []) (fun _=>[.row 1 z1 (((dW p).mergeSort fun x y=>decide (x<=y)).map AI)]) (fun _=>True):=
  (ID (gs:=aU) (ρ:=Tryz.du) Tryz.ib ⟨_,_,Tryz.func134,rfl,rfl⟩ z1 (dW p).length (dW p) (by omega)).mono fun y Λ' ⟨h1,h2⟩=>⟨(),by rw [h1];exact .refl,h2,trivial⟩
 have hsn:((dW p).mergeSort fun x y=>decide (x<=y)).length=(dW p).length:=List.length_mergeSort _;have hc:=Z7 z1 (dW p).length ((dW p).mergeSort fun x y=>decide (x<=y)) (by omega);rw [VA wT (List.mergeSort_perm ..) (a0r (dW p))] at hc;refine y_ ?_;refine A.e T hso s_ (Λ2:=[.box b3 (.ms z1 1 (dW p).length)]) (.swap _ _ _) fun _ _=>?_;refine y_ ?_;refine A.e T hc s_ (Λ2:=[.box b3 (.ms z1 1 (dW p).length)]) (.refl _) fun z2 _=>?_;refine y_ ?_;refine A.ar 2 T ?_;exact r_
end Go.Proofs.YtenkjmjejhhdjaaGreat
namespace Go.Proofs.YtenkjmjejhhdjaaGreat
open Go Go.Tp
theorem XU{V:List KV}{C:List Int}(p:PR)(u:Un V C p)(hk:p.kind=14\/p.kind=15)(f:Nat)(op:List Int)(t:TR)(s:bA)(ht:l6 t)(fN:t.length<=256)(hop:op.length<=1048576)(hs:bI V s)(hR:BodQ V f op p)(hw: ∀g,g∈p.gs-> ∀x,x∈g.body->bF x f<=2000):Pure Tryz.prog aU 60 [aE p,aF s,lI t,aQ op,AI (f:Nat)] (eK (cG f op t s p)):=by
 have n2:((cA p.gs).length:Int)=p.gs.length:=by rw [cL]
 have n3:((cA (cV s p.gs)).length:Int)=(cV s p.gs).length:=by rw [cL]
 have hgl:=u.loc.lens.2.2.1;have hrl:=wZ s p.gs;have hstop:=oC;have hRun:cG f op t s p=bM a7 (jZ p.kind f op t s p.gs):=by obtain ⟨k,c,v,it,to,e,gs,l⟩:=p;exact zU (by have hk:k=14\/k=15:=hk;omega)
 have hits:=J0 u (by omega) hw op ht hs;rw [hRun];unfold jZ at hits⊢;rw [iF (show¬p.kind=12 by omega)] at hits⊢;refine eX ((if jQ s p.gs=true then (cV s p.gs).flatMap (dJ f op t s) else [])) fun R hR0=>?_;rw [<-hR0] at hits⊢;refine P_ Tryz.func60 104 fun _ _ _ _=>?_;refine b_ fun b5=>?_;refine A.b T fun b10=>?_;refine y_ ?_;refine A.av 18 ?_;refine A.gx 11 (x':= .ms (.slice none 0 0) 18 0) T (fun h y r=>sI 18 r) ?_;refine A.af [1,2,3,4,5,10,11,12] T ?_;refine A.ae (ι:=Nat×Value) (fun v=>(⟨[(1,aF s),(2,lI t),(3,aQ op),(4,AI (f:Nat)),(5,aT b5),(10,aT b10),(11, .ms v.2 18 (cV s (p.gs.take v.1)).length),(12,AI (v.1:Nat))],[]⟩,[.row 18 v.2 (cA (cV s (p.gs.take v.1))), .box b10 _, .box b5 (aE p)])) (fun v=>v.1<=p.gs.length/\jQ s (p.gs.take v.1)=true) (fun v=>p.gs.length-v.1) (0, .slice none 0 0) ⟨aa4 _,by rw [ad1];rfl⟩ T fun v hv ih=>?_;obtain ⟨i,z⟩:=v;obtain ⟨hi1,hi2⟩:=hv;simp only at hi1 hi2;refine y_ ?_
 by_cases hci:i<p.gs.length
 ·refine aX hci fun g hg=>?_;have hgm:=aa2 hg;have hvp:=qF s hs.ws g.cond (u.loc.gs g hgm).1.1;rw [aK] at hvp;have hsn:=K1 s hg;have hrt:=wZ s (p.gs.take i);rw [ac1] at hrt;have hok1:bH s g.cond≠none->jQ s (p.gs.take (i+1))=true:=fun h=>by
   have: ∀a b:List GD,jQ s (a++b)=(jQ s a&&jQ s b):=fun a b=>al9;rw [mQ hg,this,hi2];show (true&&((bH s g.cond).isSome&&true))=true;cases hq:bH s g.cond with
   |none=>exact absurd hq h |some _=>rfl
  refine T_ T (by show decide ((i:Int)<((cA p.gs).length:Int))=true;rw [n2,dT];omega) ?_;refine i_ T (bZ hg) (cK g) ?_;refine n_ hvp ?_;refine al3 (dH (bH s g.cond)) (fun hx=>?_) (fun hx=>?_)
  ·have hg0:=VR hgm hx;rw [hg0,iF (by decide)] at hR0;refine e_ 35 T (x':=jT none) (by rw [hx]) ?_;refine c_ hstop ?_;refine C_ ?_;rw [hR0];exact s_
  ·refine ab4 hx fun v hx=>?_;have h01:=VB u (by omega) hgm hs hx;have hok2:=hok1 (by rw [hx];intro h;cases h);refine e_ 35 T (x':=jT (some v)) (by rw [hx]) ?_
   by_cases hv0:v=0
   ·rw [iT (by rw [hx,hv0])] at hsn;refine F_ T (by rw [hv0];rfl) ?_;refine vI 12 i ?_;refine A.aa 11 T (x':= .ms z 18 (cV s (p.gs.take (i+1))).length) (by rw [hsn]) ?_;refine A.ab (Λ':=[.row 18 z (cA (cV s (p.gs.take (i+1)))), .box b10 _, .box b5 (aE p)]) (by rw [hsn]) ?_;refine u_ (ih (i+1,z) ⟨by show i+1<=_;omega,hok2⟩ (by show _-(i+1)<_-i;omega))
   ·rw [iF (by rw [hx];intro h;injection h with h;exact hv0 h)] at hsn;have hv1:v=1:=h01.resolve_left hv0;refine T_ T (by rw [hv1];rfl) ?_;refine j_ T (bZ hg) (cK g) ?_;refine t_ fun bl=>?_;refine A.aj T T T T T T T T T T T T T T (by show ((cA (cV s (p.gs.take i))).length+1)*18<=_;rw [cL];omega) (ae9 (af7 _ (af7 _ (show (cA (cV s (p.gs.take i))).length+1<=17 by rw [cL];omega))) (by decide)) fun z2=>?_;refine y_ ?_;refine vI 12 i ?_;refine l_ (Λ':=[.row 18 z2 (cA (cV s (p.gs.take i))++[fG g]), .box b10 _, .box b5 (aE p)]) ?_;refine A.aa 11 T (x':= .ms z2 18 (cV s (p.gs.take (i+1))).length) (by rw [hsn,aa1,cL];rfl) ?_;refine A.ab (Λ':=[.row 18 z2 (cA (cV s (p.gs.take (i+1)))), .box b10 _, .box b5 (aE p)]) (by rw [hsn,B7]) ?_;refine u_ (ih (i+1,z2) ⟨by show i+1<=_;omega,hok2⟩ (by show _-(i+1)<_-i;omega))
 ·refine A.gF T (by show decide ((i:Int)<((cA p.gs).length:Int))=false;rw [n2,dF];omega) ?_;have htk:p.gs.take i=p.gs:=aa6 (by omega);rw [htk] at hi2;rw [hi2,iT T] at hR0;clear ih;refine A.aa 11 T (x':= .ms z 18 (cV s p.gs).length) (by rw [htk]) ?_;refine A.ab (Λ':=[.row 18 z (cA (cV s p.gs)), .box b10 _, .box b5 (aE p)]) (by rw [htk]) ?_;refine A.ar 11 T ?_;refine y_ ?_;refine A.b T fun b15=>?_;refine y_ ?_;refine l_ (Λ':=[.box b15 (.ag [AI 0, .v (.slice none 0 0),AB false]), .box b10 _]) ?_;refine A.bn (b:=b15) (x':=eK (bM a7 (((cV s p.gs).take 0).flatMap (dJ f op t s)))) (.refl _) (fun h y h'=>rq_sb h') ?_;refine A.af [1,2,3,4,10,11,15,16] T ?_;refine A.ae (ι:=Nat) (fun j=>(⟨[(1,aF s),(2,lI t),(3,aQ op),(4,AI (f:Nat)),(10,aT b10),(11,zS (cV s p.gs)),(15,aT b15),(16,AI (j:Nat))],[]⟩,[.box b15 (eK (bM a7 (((cV s p.gs).take j).flatMap (dJ f op t s)))), .box b10 _])) (fun j=>j<=(cV s p.gs).length) (fun j=>(cV s p.gs).length-j) 0 (aa4 _) T fun j hj ih=>?_;refine y_ ?_
  by_cases hcj:j<(cV s p.gs).length
  ·refine aX hcj fun g hg=>?_;have hgr:=aa2 hg;have hgm:g∈p.gs:=(aj0.1 hgr).1;refine ab4 (u.loc.body g hgm) fun y hy=>?_;have hat:(aS g.body)[(0:Int).toNat]? =some (pC y):=aV (by rw [hy];rfl);have hfl:=tC (w:=dJ f op t s) hg;have hone: ∀x,x∈dJ f op t s g->xR V t.length x:=fun x hx=>hits.1 x (by rw [hR0];exact ai4.2 ⟨g,hgr,hx⟩);have hacc:zF V (bM a7 (((cV s p.gs).take j).flatMap (dJ f op t s))) t.length 32000:=by
    have h1:=r9 (((cV s p.gs).take j).flatMap (dJ f op t s)) a7 0 (fun x hx=>hits.1 x (by rw [hR0];obtain ⟨g',hg',hx'⟩:=ai4.1 hx;exact ai4.2 ⟨g',ag0 hg',hx'⟩)) (KC V t.length)
    have h2:(((cV s p.gs).take j).flatMap (dJ f op t s)).length<=R.length:=by
     rw [hR0]
     conv=>rhs;rw [<-ae3 j (cV s p.gs),aj6,aa1]
     omega
    have h3:=hits.2;exact ⟨h1.wf,h1.ok,by have:=h1.len;omega⟩
   refine eX (bM a7 (((cV s p.gs).take j).flatMap (dJ f op t s))) fun acc ha=>?_;rw [<-ha] at hacc;refine A.ab (Λ':=[.box b15 (eK acc), .box b10 _]) (by rw [ha]) ?_;have hnx: ∀l,dJ f op t s g=l->bM a7 (((cV s p.gs).take (j+1)).flatMap (dJ f op t s))=bM acc l:=fun l hl=>by rw [hfl,hl,ha];unfold bM;rw [af2]
   refine T_ T (by show decide ((j:Int)<((cA (cV s p.gs)).length:Int))=true;rw [n3,dT];omega) ?_;refine j_ T (bZ hg) (cK g) ?_;refine b_ fun b17=>?_;refine y_ ?_
   by_cases h3:g.kind=3
   ·have hin:=K2 t op g.c g.item g.to s hs ht (u.loc.gs g hgm).2.2.1 (by have:=(u.loc.gs g hgm).2.2.2.1;omega) (by omega);have hgd:fO V C.length g.c g.item g.to=true:=by
     have:=u.kg (.inr hk) g hgm;unfold fH at this;rw [iF (by omega),iT h3] at this;simp only [aa3] at this;exact this.2.2
    refine F_ T (by show (g.kind==2)=false;rw [h3];rfl) ?_;refine n_ hin ?_;refine al3 (dH (cU op t g.c g.item g.to s)) (fun hx=>?_) (fun hx=>?_)
    ·have hw1:dJ f op t s g=[]:=by unfold dJ;rw [iT h3,hx]
     have hn:=hnx _ hw1;refine e_ 86 T (x':=DC none) (by rw [hx]) ?_;refine l_ (Λ':=[.box b15 (eK acc), .box b10 _]) ?_;refine A.ab (Λ':=[.box b15 (eK (bM a7 (((cV s p.gs).take (j+1)).flatMap (dJ f op t s)))), .box b10 _]) (by rw [hn];rfl) ?_;refine vI 16 j ?_;refine l_ (Λ':=[.box b15 (eK (bM a7 (((cV s p.gs).take (j+1)).flatMap (dJ f op t s)))), .box b10 _]) ?_;refine u_ (ih (j+1) (by omega) (by omega))
    ·refine ab4 hx fun s' hx=>?_;have hs':=yH hs ht hgd hx;have h1l:=p8 hx;have hw1:dJ f op t s g=[(1,cG f op (t.drop 1) s' y)]:=by unfold dJ;rw [iT h3,hx];simp only;rw [hy,bD]
     have hn:=hnx _ hw1;have hio:=hone _ (by rw [hw1];exact .head _);have hrun:=hR g hgm y (by rw [hy];exact .head _) (t.drop 1) s' (oE ht 1) (by rw [ad7];omega) hs';have nt:=iS t;refine eX (cG f op (t.drop 1) s' y) fun q hq=>?_;rw [<-hq] at hio hrun hn;have haf:=UC q 1 _ _ hio.ok (by have:=hio.n;have:1<=t.length:=this;show 1+(t.length-1)<=_;omega) (by omega);have hbo:=bothJ acc q 1 _ _ _ _ hacc hio.ok fN (by have:=hio.n;have:1<=t.length:=this;show 1+(t.length-1)<=_;omega) (by omega) (by omega);refine e_ 86 T (x':=DC (some s')) (by rw [hx]) ?_;refine d_ 13 [0,1,2,3,4,5,6,7,8,9,10,11,12] [(10,eK q),(11,eK (lL 1 q)),(12,eK (cM acc 1 q))] ?_;refine gX T hat (bC y) ?_;refine WA.slice (ys:=(t.drop 1).map jK) T T T T T T T T T T (by decide) (by show (1:Int)<=((t.map jK).length:Int);rw [nt];omega) (ao2 _) (by show ((t.map jK).drop 1).take (((t.map jK).length:Int).toNat-1)=_;rw [ap8,aa6 (by rw [ad7];simp)]) T ?_
     refine w_ ?_;refine WA.c T T hrun (.sub s_) ?_;refine WA.c T T haf (.sub s_) ?_;refine WA.c T T hbo (.sub s_) ?_;refine z_ ?_;refine l_ (Λ':=[.box b15 (eK (cM acc 1 q)), .box b10 _]) ?_;refine A.ab (Λ':=[.box b15 (eK (bM a7 (((cV s p.gs).take (j+1)).flatMap (dJ f op t s)))), .box b10 _]) (by rw [hn];rfl) ?_;refine vI 16 j ?_;refine l_ (Λ':=[.box b15 (eK (bM a7 (((cV s p.gs).take (j+1)).flatMap (dJ f op t s)))), .box b10 _]) ?_;refine u_ (ih (j+1) (by omega) (by omega))
   ·have h2:g.kind=2:=by
     have:=u.kg (.inr hk) g hgm;have h4:=u.ut.gs g hgm;unfold fH at this;simp only [aa3] at this;obtain ⟨⟨_,e1⟩,e2⟩:=this;rw [show (p.kind==12)=false by rw [beq_eq_false_iff_ne];omega] at e1;have e1:g.kind≠1:=by intro e;rw [e] at e1;cases e1
     split at e2
     ·omega
     ·first|cases e2|(rw [iF h3,iF h4] at e2;cases e2)
    have hw1:dJ f op t s g=[(0,cG f op t s y)]:=by unfold dJ;rw [iF h3,hy,bD]
    have hn:=hnx _ hw1;have hio:=hone _ (by rw [hw1];exact .head _);have hrun:=hR g hgm y (by rw [hy];exact .head _) t s ht fN hs;refine eX (cG f op t s y) fun q hq=>?_;rw [<-hq] at hio hrun hn;have hbo:=both0 acc q _ _ _ _ hacc hio.ok fN (by show t.length-0<=_;omega) (by omega) (by omega);refine T_ T (by show (g.kind==2)=true;rw [h2];rfl) ?_;refine d_ 11 [0,1,2,3,4,5,6,7,8,9,10] [(9,eK q),(10,eK (cM acc 0 q))] ?_;refine gX T hat (bC y) ?_;refine WA.c T T hrun (.sub s_) ?_;refine WA.c T T hbo (.sub s_) ?_;refine z_ ?_;refine l_ (Λ':=[.box b15 (eK (cM acc 0 q)), .box b10 _]) ?_;refine A.ab (Λ':=[.box b15 (eK (bM a7 (((cV s p.gs).take (j+1)).flatMap (dJ f op t s)))), .box b10 _]) (by rw [hn];rfl) ?_;refine vI 16 j ?_;refine l_ (Λ':=[.box b15 (eK (bM a7 (((cV s p.gs).take (j+1)).flatMap (dJ f op t s)))), .box b10 _]) ?_;refine u_ (ih (j+1) (by omega) (by omega))
  ·refine A.gF T (by show decide ((j:Int)<((cA (cV s p.gs)).length:Int))=false;rw [n3,dF];omega) ?_;clear ih;refine A.ab (Λ':=[.box b15 (eK (bM a7 R)), .box b10 _]) (by rw [hR0,aa6 (by omega:(cV s p.gs).length<=j)]) ?_;refine y_ ?_;refine C_ ?_;exact s_
def AR(s x:bA)(v:Nat)(l:List Nat)(o:bA):bA:=l.foldl (fun out (i:Nat)=>if mT x v i=mT s v i then out else iK out v i ((mT x v i).getD 0)) o
def lenV(x:bA)(v:Nat):Nat:=match x[v]? with|some r=>r.length|none=>0
def yN(s x:bA)(l:List Nat)(o:bA):bA:=l.foldl (fun out (v:Nat)=>AR s x v (List.range (lenV x v)) out) o
theorem M8(s out x:bA):fX s out x=yN s x (List.range x.length) out:=rfl
theorem HP{V:List KV}{s x:bA}(hx:bI V x){v:Nat}{r:List Int}(hr:x[v]? =some r): ∀(l:List Nat),(∀i,i∈l->i<r.length)-> ∀o,bI V o->bI V (AR s x v l o):=by
 obtain ⟨_,hxl,hxr,hxg⟩:=qB hx.may;intro l
 induction l with
 |nil=>intro _ o ho;exact ho |cons i l ih=>
  intro hl o ho;unfold AR;rw [ae2];refine ih (fun j hj=>hl j (.tail _ hj)) _ ?_;split
  ·exact ho
  ·have hi:=hl i (.head _);have hat:=xU hr (aa7 hi);rw [hat];refine ho.put (hx.ws r (aa2 hr) _ (aj3 hi)) fun y hy=>?_;rw [ac7] at hy;exact hxg v y r hy hr _ (aj3 hi)
theorem HQ{V:List KV}{s x:bA}(hx:bI V x): ∀(l:List Nat),(∀v,v∈l->v<x.length)-> ∀o,bI V o->bI V (yN s x l o):=by
 intro l
 induction l with
 |nil=>intro _ o ho;exact ho |cons v l ih=>
  intro hl o ho;unfold yN;rw [ae2];refine ih (fun j hj=>hl j (.tail _ hj)) _ ?_;have hv:=hl v (.head _);unfold lenV;rw [aa7 hv];exact HP hx (aa7 hv) _ (fun i hi=>ah5.1 hi) o ho
theorem F9{s x:bA}{v i:Nat}{o:bA}{xi si:Int}(h1:mT x (v:Nat) (i:Nat)=some xi)(h2:mT s (v:Nat) (i:Nat)=some si):AR s x v (List.range (i+1)) o=if xi=si then AR s x v (List.range i) o else iK (AR s x v (List.range i) o) v i xi:=by
 unfold AR;rw [ao1,af2,ae2,ar1,h1,h2]
 by_cases h:xi=si
 ·rw [iT h,iT (by rw [h])]
 ·rw [iF h,iF (by intro e;injection e with e;exact h e)];rfl
theorem GA{s x:bA}{v:Nat}{o:bA}{r:List Int}(hr:x[v]? =some r):yN s x (List.range (v+1)) o=AR s x v (List.range r.length) (yN s x (List.range v) o):=by unfold yN;rw [ao1,af2,ae2,ar1];unfold lenV;rw [hr]
theorem GM{V:List KV}{a b:bA}(ha:bI V a)(hb:bI V b):a.length=b.length/\ ∀(v:Nat) r,a[v]? =some r-> ∃r',b[v]? =some r'/\r'.length=r.length:=by
 obtain ⟨h1,h2⟩:=iD ha.may;obtain ⟨h3,h4⟩:=iD hb.may;refine ⟨by omega,fun v r hr=>?_⟩;have hv:v<a.length:=(aa8.1 hr).1;have hvb:v<b.length:=by omega
 have hvV:v<V.length:=by omega
 refine ⟨b[v],aa7 hvb,?_⟩;have e1:=h2 v V[v] r (aa7 hvV) hr;have e2:=h4 v V[v] b[v] (aa7 hvV) (aa7 hvb);omega
theorem PO{V:List KV}(s out x:bA)(hs:bI V s)(ho:bI V out)(hx:bI V x):Pure Tryz.prog aU 137 [aF s,aF out,aF x] (aF (fX s out x)):=by
 have nx:((x.map jU).length:Int)=x.length:=by rw [aa0]
 have hxs:=(dX hx).1;obtain ⟨hsl,hsr⟩:=GM hx hs;rw [M8];refine P_ Tryz.func137 51 fun w0 h0 F hgs=>?_;refine y_ ?_;refine A.aa 10 T (x':=AI (x.length:Nat)) (aL nx) ?_;refine A.af [0,1,2,9,10,11] T ?_;refine A.ae (ι:=Nat) (fun v=>(⟨[(0,aF s),(1,aF (yN s x (List.range v) out)),(2,aF x),(9,aF x),(10,AI (x.length:Nat)),(11,AI (v:Nat))],[]⟩,[])) (fun v=>v<=x.length) (fun v=>x.length-v) 0 (aa4 _) T fun v hv ih=>?_;have hov:=HQ (s:=s) hx (List.range v) (fun i hi=>by have:=ah5.1 hi;omega) out ho;refine y_ ?_
 by_cases hcv:v<x.length
 ·refine aX hcv fun r hr=>?_;refine ab4 (hsr v r hr) fun r0 h0=>?_;obtain ⟨h0,h0l⟩:=h0;have hnext:=GA (s:=s) (o:=out) hr;have nr:((r.map aN).length:Int)=r.length:=by rw [aa0]
  have hrl:=(dX hx).2 r (aa2 hr);refine eX (yN s x (List.range v) out) fun o hoe=>?_;rw [<-hoe] at hnext hov;refine A.gT T (by show decide ((v:Int)<(x.length:Nat))=true;rw [dT];omega) ?_;refine e_ 1 T (x':=aF o) (by rw [hoe]) ?_;refine i_ T (aC hr) T ?_;refine A.aa 18 T (x':=AI (r.length:Nat)) (aL nr) ?_;refine A.af [0,1,2,7,9,10,11,18,19] T ?_;refine A.ae (ι:=Nat) (fun i=>(⟨[(0,aF s),(1,aF (AR s x v (List.range i) o)),(2,aF x),(7,AI (v:Nat)),(9,aF x),(10,AI (x.length:Nat)),(11,AI (v:Nat)),(18,AI (r.length:Nat)),(19,AI (i:Nat))],[]⟩,[])) (fun i=>i<=r.length) (fun i=>r.length-i) 0 (aa4 _) T fun i hi jh=>?_;have hoi:=HP (s:=s) hx hr (List.range i) (fun j hj=>by have:=ah5.1 hj;omega) o hov;refine y_ ?_
  by_cases hci:i<r.length
  ·refine aX hci fun xi hxi=>?_;refine ab4 (bT (l:=r0) (i:=i) (by omega)) fun si hsi=>?_;have hnx:=F9 (o:=o) (xU hr hxi) (xU h0 hsi);refine T_ T (by show decide ((i:Int)<(r.length:Nat))=true;rw [dT];omega) ?_;refine d_ 15 [0,1,2,3,4,5,6,7,8,9,10,11,12,13,14] [] ?_;refine gX T (aC hr) T ?_;refine gX T (aC hxi) T ?_;refine gX T (aC h0) T ?_;refine gX T (aC hsi) T ?_;refine WA.nil (l:=[]) T ?_
   by_cases hxs':xi=si
   ·rw [iT hxs'] at hnx;refine e_ 36 T (x':=AB false) (aA (by show (xi !=si)=false;rw [hxs'];simp)) ?_;refine vI 19 i ?_;refine A.aa 1 T (x':=aF (AR s x v (List.range (i+1)) o)) (by rw [hnx]) ?_;refine u_ (jh (i+1) (by show i+1<=_;omega) (by show _-(i+1)<_-i;omega))
   ·rw [iF hxs'] at hnx;have hput:=hoi.small.put_p (v:Nat) (i:Nat) xi;rw [<-hnx] at hput;refine e_ 36 T (x':=AB true) (aA (by show (xi !=si)=true;exact bne_iff_ne.2 hxs')) ?_;refine i_ T (aC hr) T ?_;refine i_ T (aC hxi) T ?_;refine c_ hput ?_;refine vI 19 i ?_;refine u_ (jh (i+1) (by show i+1<=_;omega) (by show _-(i+1)<_-i;omega))
  ·refine A.gF T (by show decide ((i:Int)<(r.length:Nat))=false;rw [dF];omega) ?_;have hir:i=r.length:=by omega
   refine e_ 1 T (x':=aF (yN s x (List.range (v+1)) out)) (by rw [hnext,hir]) ?_;refine vI 11 v ?_;refine u_ (ih (v+1) (by show v+1<=_;omega) (by show _-(v+1)<_-v;omega))
 ·refine A.gF T (by show decide ((v:Int)<(x.length:Nat))=false;rw [dF];omega) ?_;have hvl:v=x.length:=by have:v<=x.length:=hv;omega
  refine y_ ?_;refine R_ ?_;rw [hvl];exact .refl
structure BR where
 ch:List Int
 m:Nat
 zs:List Value
 r:RN
abbrev brE(b:BR)(n:Nat):AV:= .ag [aQ b.ch, .v (.map (some b.m)),AI (b.r.reach:Nat),AI (n:Nat)]
abbrev lE(bs:List BR)(cn:List Nat):List AV:=bs.zipWith brE cn
theorem H4{bs:List BR}{cn:List Nat}{i:Nat}{b:BR}{n:Nat}(h1:bs[i]? =some b)(h2:cn[i]? =some n):(lE bs cn)[i]? =some (brE b n):=by rw [ae1,h1,h2]
theorem w8{bs:List BR}{cn:List Nat}(h:cn.length=bs.length):(lE bs cn).length=bs.length:=by rw [ai6];omega
theorem X3{bs:List BR}{cn:List Nat}{i:Nat}{b:BR}(m:Nat)(h1:bs[i]? =some b):(lE bs cn).set i (brE b m)=lE bs (cn.set i m):=by
 apply af0;intro j;rw [ah0,ae1,ae1,ah0,ai6];have hi:=(aa8.1 h1).1
 by_cases hij:i=j
 ·subst hij;rw [iT T,iT T,h1]
  by_cases hc:i<cn.length
  ·rw [iT (by omega),iT hc]
  ·rw [iF (by omega),iF hc]
 ·rw [iF hij,iF hij]
def A6(c' cn:List Nat)(i:Nat):List Nat:=c'.take i++cn.drop i
theorem s7{c' cn:List Nat}(h:c'.length=cn.length)(i:Nat):(A6 c' cn i).length=cn.length:=by unfold A6;rw [aa1,ac1,ad7];omega
theorem U7{c' cn:List Nat}(h:c'.length=cn.length){i:Nat}(hi:i<cn.length):(A6 c' cn i)[i]? =cn[i]? :=by unfold A6;rw [ae7 (by rw [ac1];omega),ac1,ah6 (by omega),ak3,List.getElem?_drop,Nat.add_zero]
theorem OU{c' cn:List Nat}(h:c'.length=cn.length){i n:Nat}(hn:c'[i]? =some n):(A6 c' cn i).set i n=A6 c' cn (i+1):=by
 have hi:i<c'.length:=(aa8.1 hn).1;unfold A6;rw [List.set_append_right _ _ (by rw [ac1];omega),ac1,ah6 (by omega),ak3,ac9,hn,ab2];congr 1;rw [aj5 (by omega:i<cn.length)]
 rfl
theorem U8{c' cn:List Nat}(h:c'.length=cn.length){i n:Nat}(h1:c'[i]? =some n)(h2:cn[i]? =some n):A6 c' cn (i+1)=A6 c' cn i:=by
 rw [<-OU h h1];have hi:i<cn.length:=(aa8.1 h2).1;apply af0;intro j;rw [ah0]
 by_cases hij:i=j
 ·subst hij;rw [iT T,iT (by rw [s7 h];exact hi),U7 h hi,h2]
 ·rw [iF hij]
abbrev Below(bs:List BR)(cn:List Nat):Prop:= ∀(i:Nat) b n,bs[i]? =some b->cn[i]? =some n->n<=b.r.reach
abbrev uQ(bs:List BR):List (List Int):=bs.map (·.ch)
abbrev tK(bs:List BR):List RN:=bs.map (·.r)
theorem Z5{bs:List BR}{cn:List Nat}{c:Int}{i:Nat}{b:BR}{n:Nat}(h1:bs[i]? =some b)(h2:cn[i]? =some n):(gA (uQ bs) cn c)[i]? =some (if b.ch.contains c then n+1 else n):=
 B3 (by rw [ab5,h1];rfl) h2
theorem step_no{bs:List BR}{cn:List Nat}{c:Int}{i:Nat}{b:BR}{n:Nat}(h1:bs[i]? =some b)(h2:(gA (uQ bs) cn c)[i]? =some n)(h:b.r.reach<n):eE (uQ bs) (tK bs) cn c=false:=by
 unfold eE;rw [Bool.and_eq_false_iff];right;rw [List.all_eq_false];have hz:((gA (uQ bs) cn c).zip (tK bs))[i]? =some (n,b.r):=by rw [ai1];exact ⟨h2,by rw [ab5,h1];rfl⟩
 exact ⟨_,aa2 hz,by simpa using h⟩
theorem step_end{bs:List BR}{cn:List Nat}{c:Int}(h:Below bs (gA (uQ bs) cn c)):eE (uQ bs) (tK bs) cn c=bs.any fun b=>b.ch.contains c:=by
 unfold eE;rw [List.any_map];have:((gA (uQ bs) cn c).zip (tK bs)).all (fun x=>decide (x.1<=x.2.reach))=true:=by
  rw [ae5];intro x hx;obtain ⟨i,hi,rfl⟩:=List.getElem_of_mem hx;have hz:=aa7 hi;rw [ai1] at hz;obtain ⟨z1,z2⟩:=hz;rw [ab5] at z2;cases hb:bs[i]? with
  |none=>rw [hb] at z2;cases z2 |some b=>
   rw [hb] at z2;injection z2 with z2;rw [<-z2];simpa using h i b _ hb z1
 rw [this,Bool.and_true]
 rfl
theorem UE{bs:List BR}{p:BR->Bool}{i:Nat}{b:BR}(h:bs[i]? =some b):(bs.take (i+1)).any p=((bs.take i).any p||p b):=by rw [mQ h,List.any_append,List.any_cons,List.any_nil,an9]
theorem BW{bs:List BR}{c':List Nat}{i:Nat}{b:BR}{n:Nat}(h:Below (bs.take i) (c'.take i))(h1:bs[i]? =some b)(h2:c'[i]? =some n)(hn:n<=b.r.reach):Below (bs.take (i+1)) (c'.take (i+1)):=by
 intro j b' n' hb' hn';rw [am8] at hb' hn'
 by_cases hj:j<i+1
 ·rw [iT hj] at hb' hn'
  by_cases hji:j<i
  ·exact h j b' n' (by rw [am8,iT hji];exact hb') (by rw [am8,iT hji];exact hn')
  ·have:j=i:=by omega
   subst this;rw [h1] at hb';rw [h2] at hn';injection hb' with hb';injection hn' with hn';rw [<-hb',<-hn'];exact hn
 ·rw [iF hj] at hb';cases hb'
theorem step_p(z:Value)(bs:List BR)(cn:List Nat)(c:Int)(hc:cn.length=bs.length)(hb:bs.length<=4096)(hB:Below bs cn)(hr: ∀b,b∈bs->b.r.reach<=1048576/\b.ch.length<=1048576):
 fB Tryz.prog aU 91 [.ms z 4 bs.length,AI c] [.row 4 z (lE bs cn)] (fun u:Bool×List Nat=>AB u.1) (fun u=>[.row 4 z (lE bs u.2)]) (fun u=>u.1=eE (uQ bs) (tK bs) cn c/\u.2.length=bs.length/\(u.1=true->u.2=gA (uQ bs) cn c)):=by
 have hcl:(gA (uQ bs) cn c).length=cn.length:=by rw [vZ (by rw [hc,aa0]),aa0,hc]
 unfold fB;refine jB.of (S:=tt) (fn:=Tryz.f91) (n:=40) dE Tryz.func91 T T T T fun w0 h0 F hgs=>?_;refine y_ ?_;refine A.ee (aa5 ..) fun a cp hz hcp=>?_;rw [w8 hc] at hz hcp;subst hz;refine A.af [0,1,4,5,8,9] T ?_;refine A.ae (ι:=Nat) (fun i=>(⟨[(0, .ms (.slice a bs.length cp) 4 bs.length),(1,AI c),(4,AB false),(5,AB ((bs.take i).any fun b=>b.ch.contains c)),(8,AI (bs.length:Nat)),(9,AI (i:Nat))],[]⟩,[.row 4 (.slice a bs.length cp) (lE bs (A6 (gA (uQ bs) cn c) cn i))])) (fun i=>i<=bs.length/\Below (bs.take i) ((gA (uQ bs) cn c).take i)) (fun i=>bs.length-i) 0 ⟨aa4 _,fun j b n hj _=>by rw [ad1] at hj;simp at hj⟩ T fun i hi ih=>?_;obtain ⟨hi1,hi2⟩:=hi;refine y_ ?_
 by_cases hci:i<bs.length
 ·refine aX hci fun b hbi=>?_;refine ab4 (bT (l:=cn) (i:=i) (by omega)) fun n hn=>?_;obtain ⟨hrr,hrc⟩:=hr b (aa2 hbi);have hnr:=hB i b n hbi hn;have hni:(A6 (gA (uQ bs) cn c) cn i)[i]? =some n:=by rw [U7 hcl (by omega),hn]
  have hai:=H4 hbi hni;have hlen:(lE bs (A6 (gA (uQ bs) cn c) cn i)).length=bs.length:=w8 (by rw [s7 hcl,hc]);have hat:=UE (p:=fun b=>b.ch.contains c) hbi;have hcn:=Z5 (c:=c) hbi hn;have hhas:=A7 b.ch c (by omega);refine T_ T (by show decide ((i:Int)<(bs.length:Nat))=true;rw [dT];omega) ?_;have hne:lE bs (A6 (gA (uQ bs) cn c) cn i)≠[]:=fun h=>by rw [h] at hlen;simp at hlen;omega
  refine A.cy (a:=a) (n:=bs.length) (c:=cp) (sz:=4) (l:=lE bs (A6 (gA (uQ bs) cn c) cn i)) hne fun bb o ha=>?_;subst ha;refine A.ah T T T T T T T T (by show (0:Int)<=(i:Nat);omega) (by show ((i:Nat):Int)<_;rw [hlen];omega) T ?_;refine A.ew 14 T ?_;refine y_ ?_;refine A.al i 0 T T T T bs.length cp o (by rw [ac7]) hai (y:=aQ b.ch) T T ?_;refine y_ ?_;refine c_ hhas ?_
  by_cases hbc:b.ch.contains c=true
  ·rw [iT hbc] at hcn;have hset:=OU hcl hcn;have hai2:=H4 hbi (show (A6 (gA (uQ bs) cn c) cn (i+1))[i]? =some (n+1) by rw [<-hset,List.getElem?_set_self (by rw [s7 hcl];omega)]);have hlen2:(lE bs (A6 (gA (uQ bs) cn c) cn (i+1))).length=bs.length:=w8 (by rw [s7 hcl,hc]);refine T_ T hbc ?_;refine A.ah T T T T T T T T (by show (0:Int)<=(i:Nat);omega) (by show ((i:Nat):Int)<_;rw [hlen];omega) T ?_;refine A.ew 21 T ?_;refine y_ ?_;refine A.al i 3 T T T T bs.length cp o (by rw [ac7]) hai (y:=AI (n:Nat)) T T ?_;refine y_ ?_;refine A.ah T T T T T T T T (by show (0:Int)<=(i:Nat);omega) (by show ((i:Nat):Int)<_;rw [hlen];omega) T ?_;refine A.ew 25 T ?_;refine y_ ?_;refine vI 24 n ?_;refine A.gf i 3 YW T T T T T bs.length cp o (by rw [ac7]) hai (x':=brE b (n+1)) T T T T (show _=lE bs (A6 (gA (uQ bs) cn c) cn (i+1)) by rw [X3 _ hbi,hset]) ?_;refine y_ ?_;refine d_ 11 [0,1,2,3,4,5,6,7,8,9,10] [] ?_;refine WA.ah T T T T T T T T T (by show (0:Int)<=(i:Nat);omega) (by show ((i:Nat):Int)<_;rw [hlen2];omega) T ?_;refine WA.ew 29 T ?_;refine w_ ?_;refine WA.al i 3 T T T T T bs.length cp o (by rw [ac7]) hai2 (y:=AI ((n+1:Nat):Int)) T T ?_;refine w_ ?_;refine WA.ah T T T T T T T T T (by show (0:Int)<=(i:Nat);omega) (by show ((i:Nat):Int)<_;rw [hlen2];omega) T ?_;refine WA.ew 34 T ?_;refine w_ ?_;refine WA.al i 2 T T T T T bs.length cp o (by rw [ac7]) hai2 (y:=AI (b.r.reach:Nat)) T T ?_;refine w_ ?_;refine WA.nil (l:=[]) T ?_
   by_cases hgt:b.r.reach<n+1
   ·refine e_ 37 T (x':=AB true) (aA (by show decide (((b.r.reach:Nat):Int)<((n+1:Nat):Int))=true;rw [dT];omega)) ?_;exact A.au (Λ':=[_]) T T T (.refl _) ⟨(false,A6 (gA (uQ bs) cn c) cn (i+1)), .refl,rfl,(step_no hbi hcn hgt).symm,by show (A6 _ _ _).length=_;rw [s7 hcl,hc],fun h=>by cases h⟩
   ·refine e_ 37 T (x':=AB false) (aA (by show decide (((b.r.reach:Nat):Int)<((n+1:Nat):Int))=false;rw [dF];omega)) ?_;refine vI 9 i ?_;refine A.aa 5 T (x':=AB ((bs.take (i+1)).any fun b=>b.ch.contains c)) (by rw [hat,hbc,Bool.or_true]) ?_;refine u_ (ih (i+1) ⟨by omega,BW hi2 hbi hcn (by omega)⟩ (by omega))
  ·have hbc0:b.ch.contains c=false:=by simpa using hbc
   rw [iF hbc] at hcn;have hkeep:=U8 hcl hcn hn;refine F_ T hbc0 ?_;refine vI 9 i ?_;refine A.aa 5 T (x':=AB ((bs.take (i+1)).any fun b=>b.ch.contains c)) (by rw [hat,hbc0,an9]) ?_;refine A.ab (Λ':=[.row 4 (.slice (some ⟨bb,o,none⟩) bs.length cp) (lE bs (A6 (gA (uQ bs) cn c) cn (i+1)))]) (by rw [hkeep]) ?_;refine u_ (ih (i+1) ⟨by omega,BW hi2 hbi hcn (by omega)⟩ (by omega))
 ·refine A.gF T (by show decide ((i:Int)<(bs.length:Nat))=false;rw [dF];omega) ?_;have hil:i=bs.length:=by omega
  rw [hil,ac4,aa6 (by omega)] at hi2;refine y_ ?_;have hce:A6 (gA (uQ bs) cn c) cn i=gA (uQ bs) cn c:=by unfold A6;rw [aa6 (by omega),ad3 (by omega),aa9]
  refine A.au (Λ':=[_]) T T T (.refl _) ⟨((bs.take i).any fun b=>b.ch.contains c,A6 (gA (uQ bs) cn c) cn i), .refl,rfl,?_,by show (A6 _ _ _).length=_;rw [s7 hcl,hc],fun _=>hce⟩;show _=eE _ _ _ _;rw [step_end hi2,hil,ac4]
end Go.Proofs.YtenkjmjejhhdjaaGreat
