/-
  Texts Lw Q19q Q19r Q19v Q19zc Q19zd Q19zf Q19zg. Conditions: as each theorem says.
-/
import Derived.Test.YtenkjmjejhhdjaaGreatWc7
import Derived.Test.YtenkjmjejhhdjaaGreatWc3
import Derived.Test.YtenkjmjejhhdjaaGreatWc8
set_option linter.unusedVariables false
set_option linter.unusedSimpArgs false
set_option maxRecDepth 100000
set_option maxHeartbeats 4000000
open Go.Proofs.Tryz
open List renaming length_map→aa0,length_append→aa1,mem_of_getElem?→aa2,mem_cons_self→aa5,take_of_length_le→aa6,getElem?_eq_getElem→aa7,getElem?_eq_some_iff→aa8,append_nil→aa9,mem_singleton→ab0,append_assoc→ab2,getElem?_map→ab5,map_append→ac0,length_take→ac1,take_length→ac4,getElem?_eq_none→ac6,take_zero→ad1,drop_eq_nil_of_le→ad3,mem_append_left→ad6,length_drop→ad7,mem_append→ad8,getElem?_zipWith→ae1,nil_sublist→ae0,take_append_drop→ae3,perm_append_singleton→ae8,ext_getElem?→af0,foldl_append→af2,getElem?_cons_succ→af4,mem_of_mem_take→ag0,nil_append→ag2,drop_zero→ag3,sublist_append_right→ag4,filter_append→ag5,mem_append_right→ag7,getElem?_set→ah0,length_filter_le→ah4,mem_range→ah5,getElem_of_mem→ah7,mem_flatMap→ai4,perm_middle→ai5,length_zipWith→ai6,getElem_mem→aj3,flatMap_append→aj6,getElem?_cons_zero→ak1,length_set→ak6,getElem?_drop→al0,mem_map_of_mem→an7,any_append→aq1,getElem_zipWith→as0
open Nat renaming zero_le→aa4,le_refl→ab3,le_trans→ae9,zero_add→ag9,sub_self→ak3
open Go.Result renaming andThen_ok→ab1
open Exists renaming elim→ab4
open Go.Sem renaming run_bind→ab8,run_pure→ac5
open Int renaming toNat_natCast→ac7
open Option renaming map_some→af8
open Bool renaming or_false→an9
namespace Go.Tp
open Go Go.RowKit
theorem CX: ∀{ks vs:List Value} {p b:Nat} {kv v:Value},ks.length=vs.length->ks[p]? =some kv->(eZ ks vs b).modify p (fun e=>{e with key:=kv,val:=v})=eZ ks (vs.set p v) b
 | [],vs,p,b,kv,v,_,h=>by simp at h |_::_,[],_,_,_,_,h,_=>by simp at h
 |k::ks,x::vs,0,b,kv,v,_,h=>by simp only [ak1,Option.some.injEq] at h;subst h;simp [eZ]
 |k::ks,x::vs,p+1,b,kv,v,hl,h=>by simp only [List.set_cons_succ,eZ,List.modify_succ_cons];rw [CX (by simpa using hl) (by simpa using h)]
theorem J7: ∀{ks vs:List Value} {p b:Nat} {kv:Value},ks.length=vs.length->ks[p]? =some kv->((eZ ks vs b)[p]?).map (·.key)=some kv
 | [],vs,p,b,kv,_,h=>by simp at h |_::_,[],_,_,_,h,_=>by simp at h
 |k::ks,x::vs,0,b,kv,_,h=>by simpa [eZ] using h |k::ks,x::vs,p+1,b,kv,hl,h=>by simp only [eZ,af4];exact J7 (by simpa using hl) (by simpa using h)
section
variable{C:qJ}{k:List It}{e:Env}{h:GH}{L:List bV}
theorem V.dy{all:Array Oper}{o:Oper}{l:List Oper}{ks:List (Nat×Bool)}{t kt et:TypeId}{ti ki:TI}{m ky y:Operand}{b n i:Nat}{es es':Array MapEntry}{kk:IntKind}{a:Int}{u v:Value}{L2:List bV}
 (hg:iU e all o.guard=some ks) (ho:o.op= .mapUpdate t m ky y) (hm:e.ev ks m=some (.map (some b))) (hkv:e.ev ks ky=some (.int kk a)) (hv:e.ev ks y=some v) (ht:C.S.get t=some ti) (htd:ti.d= .map kt et) (hkt:C.S.get kt=some ki) (hkd:CR ki.d=true)
 (hf:Instr.findNow ki.d (.int kk a) es.toList 0=some (some (i,u))) (hsame:(es[i]?).map (·.key)=some (.int kk a)) (hes:es.modify i (fun e=>{e with key:= .int kk a,val:=v})=es') (hd:o.dst=none) (hL:L=⟨b,0,[],some (.map es n)⟩::L2)
 (next:V C (.ops all l::k) e h (⟨b,0,[],some (.map es' n)⟩::L2)):V C (.ops all (o::l)::k) e h L:=
 V.sure hg fun a' w g s hk=>by
  subst hL;have hob:=((s.own _ (aa5 ..)).obj _ T).2.1;simp only at hob;have s2:=s.setObj T (.map es' n) (fun _ _ _ x=>by cases x);have hst:(Instr.keyThatStays (((es[i]?).map (·.key)).getD (.int kk a)) (.int kk a)).run C.P w= .ok (.int kk a) w:=by
   rw [hsame];unfold Instr.keyThatStays;have:Instr.sameBits 10000 (.int kk a) (.int kk a)=true:=by simp [Instr.sameBits]
   rw [show (some (Value.int kk a)).getD (.int kk a)= .int kk a from rfl,this]
   rfl
  unfold Oper.wp execOp;rw [ho];simp only [g.ev hk hm,g.ev hk hkv,g.ev hk hv,Instr.mapUpdate,ab8,run_underlying (TT.Ok.get C.ok ht),htd,ab1,hP hob,iE (TT.Ok.get C.ok hkt) hkd,jH (TT.Ok.get C.ok hkt) hf,hst,hes,vJ _ hob,ac5];exact ⟨e,h,_,by rw [hd];exact g,s2,next⟩
end
theorem OE{h:GH}{x:AV}{v:Value}: ∀{xs:List AV} {vs:List Value} {p:Nat},eN h xs vs->Rp h x v->eN h (xs.set p x) (vs.set p v)
 | [],vs,p,r,q=>by rw [aP] at r;subst r;exact aP.2 T |y::xs,vs,0,r,q=>by rw [aJ] at r;obtain ⟨u,us,rfl,r1,r2⟩:=r;exact aJ.2 ⟨_,_,rfl,q,r2⟩
 |y::xs,vs,p+1,r,q=>by rw [aJ] at r;obtain ⟨u,us,rfl,r1,r2⟩:=r;exact aJ.2 ⟨_,_,rfl,r1,OE r2 q⟩
section
variable{K:AC}{k:List It}{E:aO}{Λ:List aH}
theorem A.dy{all:Array Oper}{o:Oper}{l:List Oper}{ks:List (Nat×Bool)}{t kt et:TypeId}{ti ki:TI}{m ky y:Operand}{b p:Nat}{kk:IntKind}{a:Int}{nks:List Value}{xs:List AV}{x:AV}{Λ':List aH}
 (hg:bL E all o.guard=some ks) (ho:o.op= .mapUpdate t m ky y) (hm:E.ev K.gs ks m=some (.v (.map (some b)))) (hkv:E.ev K.gs ks ky=some (.v (.int kk a))) (hv:E.ev K.gs ks y=some x) (ht:K.S.get t=some ti) (htd:ti.d= .map kt et) (hkt:K.S.get kt=some ki) (hkd:CR ki.d=true)
 [i:AMp Λ b nks xs Λ'] (hf:qE ki.d (.int kk a) nks=some (some p)) (hat:nks[p]? =some (.int kk a)) (hd:o.dst=none) (next:A K (.ops all l::k) E (.mp b nks (xs.set p x)::Λ')):A K (.ops all (o::l)::k) E Λ:=by
 refine ⟨fun h e L hl r q=>?_⟩;obtain ⟨v1,e1,f1⟩:=r.ev (K.hgs.mono hl) _ hm;obtain ⟨v2,e2,f2⟩:=r.ev (K.hgs.mono hl) _ hkv;obtain ⟨v3,e3,f3⟩:=r.ev (K.hgs.mono hl) _ hv;rw [bN] at f1 f2;rw [f1.1] at e1;rw [f2.1] at e2;obtain ⟨L',q1,q2⟩:=q.perm i.perm;obtain ⟨M,L2,rfl,⟨hlen,vs,hvs,rfl⟩,q4⟩:=q1;have hl2:nks.length=vs.length:=by rw [hlen,hvs.len]
 have hp:p<vs.length:=by rw [<-hl2];exact (aa8.1 hat).1
 have hfn:=hN (b:=0) (i:=0) hl2 hf;simp only [aa7 hp,af8,ag9] at hfn;refine V.perm (q2.append_right _) ?_;refine V.dy (C:=K.cfg) (n:=nks.length) (es:=⟨eZ nks vs 0⟩) (es':=⟨eZ nks (vs.set p v3) 0⟩) (L2:=L2++K.G) (aR r hg) ho e1 e2 e3 ht htd hkt hkd hfn (by simpa using J7 (b:=0) hl2 hat) (by have:=CX (b:=0) (v:=v3) hl2 hat;apply Array.ext';rw [Array.toList_modify];exact this) hd T ?_
 exact next.run h e (⟨b,0,[],some (.map ⟨eZ nks (vs.set p v3) 0⟩ nks.length)⟩::L2) hl r (.one ⟨by rw [ak6];exact hlen,_,OE hvs f3,rfl⟩ q4)
end
section
variable{K:AC}{all:Array Oper}{m:Nat}{k:List It}{pubs:Nat->List Nat}{Y:Ua}{π:List Nat}{E:aO}{Λ:List aH}{D:Da}
theorem FV{o:Oper}{t:TypeId}{x y:Operand}{c:Bool}(ho:o.op= .lookup t x y c):kd o= .qt:=by unfold kd;rw [ho]
theorem WA.ck{i:Nat}{o:Oper}{ks:List (Nat×Bool)}{t kt et:TypeId}{ti ki:TI}{mm ky:Operand}{b p:Nat}{kv:Value}{nks:List Value}{xs:List AV}{x:AV}{Λ':List aH}{E':aO}
 (hi:cR all.toList i=some o) (hg:bL E all o.guard=some ks) (ho:o.op= .lookup t mm ky false) (hm:E.ev K.gs ks mm=some (.v (.map (some b)))) (hkv:E.ev K.gs ks ky=some (.v kv)) (ht:K.S.get t=some ti) (htd:ti.d= .map kt et) (hkt:K.S.get kt=some ki) (hkd:CR ki.d=true)
 [im:AMp Λ b nks xs Λ'] (hf:qE ki.d kv nks=some (some p)) (hx:xs[p]? =some x) (hput:E.put K.n none o.dst x=some E') (next:WA K all m k pubs Y π E' Λ D):WA K all m k pubs Y (i::π) E Λ D:=by
 refine ⟨fun h e L Es hl r q d=>?_⟩;obtain ⟨v1,e1,f1⟩:=r.ev (K.hgs.mono hl) _ hm;obtain ⟨v2,e2,f2⟩:=r.ev (K.hgs.mono hl) _ hkv;rw [bN] at f1 f2;rw [f1.1] at e1;rw [f2.1] at e2;obtain ⟨L',q1,q2⟩:=q.perm im.perm;obtain ⟨M,L2,rfl,⟨hlen,vs,hvs,rfl⟩,q4⟩:=q1;have hl2:nks.length=vs.length:=by rw [hlen,hvs.len]
 obtain ⟨u,hu,hux⟩:=hvs.at hx;have hfn:=hN (b:=0) (i:=0) hl2 hf;simp only [hu,af8] at hfn;have hmem:(⟨b,0,[],some (.map ⟨eZ nks vs 0⟩ nks.length)⟩:bV)∈L:=q2.mem_iff.2 (aa5 ..);obtain ⟨e',e4,e5⟩:=cO r hput hux;exact WE.an (G:=cD K.cfg all (L++K.G) pubs (YA Y) m k) hi (FV ho) (aR r hg) (fun a w E0 g s hk=>by
  have hob:=((s.own ⟨b,0,[],some (.map ⟨eZ nks vs 0⟩ nks.length)⟩ (ag7 _ (ad6 _ hmem))).obj _ T).2.1;simp only at hob;unfold execOp;rw [ho];have hu1:Sem.run K.cfg.P (underlying t) w= .ok ti.d w:=run_underlying (TT.Ok.get K.ok ht);have hu2: ∀em,(Instr.checkKey em 10000 kt kv).run K.cfg.P w= .ok () w:=fun em=>iE (TT.Ok.get K.ok hkt) hkd;have hu3:(Instr.findKey kt kv (eZ nks vs 0)).run K.cfg.P w= .ok _ w:=jH (TT.Ok.get K.ok hkt) hfn;simp only [g.ev hk e1,g.ev hk e2,Instr.lookup,ab8,hu1,htd,ab1,hP hob,hu2,hu3,ac5]
  rfl) e4 (next.run h e' L Es hl e5 q d)
theorem WA.aw{i:Nat}{o:Oper}{ks:List (Nat×Bool)}{t kt et:TypeId}{ti ki:TI}{mm ky:Operand}{b:Nat}{kv v:Value}{nks:List Value}{xs:List AV}{Λ':List aH}{E':aO}
 (hi:cR all.toList i=some o) (hg:bL E all o.guard=some ks) (ho:o.op= .lookup t mm ky false) (hm:E.ev K.gs ks mm=some (.v (.map (some b)))) (hkv:E.ev K.gs ks ky=some (.v kv)) (ht:K.S.get t=some ti) (htd:ti.d= .map kt et) (hkt:K.S.get kt=some ki) (hkd:CR ki.d=true) (hz:(K.P.info? et).bind (fun x=>x.zero)=some v) (hone:gU v=true)
 [im:AMp Λ b nks xs Λ'] (hf:qE ki.d kv nks=some none) (hput:E.put K.n none o.dst (.v v)=some E') (next:WA K all m k pubs Y π E' Λ D):WA K all m k pubs Y (i::π) E Λ D:=by
 refine ⟨fun h e L Es hl r q d=>?_⟩;obtain ⟨v1,e1,f1⟩:=r.ev (K.hgs.mono hl) _ hm;obtain ⟨v2,e2,f2⟩:=r.ev (K.hgs.mono hl) _ hkv;rw [bN] at f1 f2;rw [f1.1] at e1;rw [f2.1] at e2;obtain ⟨L',q1,q2⟩:=q.perm im.perm;obtain ⟨M,L2,rfl,⟨hlen,vs,hvs,rfl⟩,q4⟩:=q1;have hl2:nks.length=vs.length:=by rw [hlen,hvs.len]
 have hfn:=hN (b:=0) (i:=0) hl2 hf;have hmem:(⟨b,0,[],some (.map ⟨eZ nks vs 0⟩ nks.length)⟩:bV)∈L:=q2.mem_iff.2 (aa5 ..);obtain ⟨xi,hx1,hx2⟩: ∃xi,K.P.info? et=some xi/\xi.zero=some v:=by
  cases hi:K.P.info? et with
  |none=>rw [hi] at hz;cases hz |some xi=>rw [hi] at hz;exact ⟨xi,rfl,hz⟩
 obtain ⟨e',e4,e5⟩:=cO r hput (bN.2 ⟨rfl,hone⟩);exact WE.an (G:=cD K.cfg all (L++K.G) pubs (YA Y) m k) hi (FV ho) (aR r hg) (fun a w E0 g s hk=>by
  have hob:=((s.own ⟨b,0,[],some (.map ⟨eZ nks vs 0⟩ nks.length)⟩ (ag7 _ (ad6 _ hmem))).obj _ T).2.1;simp only at hob;have hz1:(zeroValue et).run K.P w= .ok v w:=by simp [zeroValue,run_typeInfo hx1,hx2]
  unfold execOp;rw [ho];have hu1:Sem.run K.cfg.P (underlying t) w= .ok ti.d w:=run_underlying (TT.Ok.get K.ok ht);have hu2: ∀em,(Instr.checkKey em 10000 kt kv).run K.cfg.P w= .ok () w:=fun em=>iE (TT.Ok.get K.ok hkt) hkd;have hu3:(Instr.findKey kt kv (eZ nks vs 0)).run K.cfg.P w= .ok _ w:=jH (TT.Ok.get K.ok hkt) hfn;have hu4:(zeroValue et).run K.cfg.P w= .ok v w:=hz1;simp only [g.ev hk e1,g.ev hk e2,Instr.lookup,ab8,hu1,htd,ab1,hP hob,hu2,hu3,hu4,ac5]
  rfl) e4 (next.run h e' L Es hl e5 q d)
end
section
variable{G:Rg}{π:List Nat}{e:Env}{h:GH}{E:aG}
theorem WE.makeMap{i:Nat}{o:Oper}{ks:List (Nat×Bool)}{t:TypeId}{d:Nat}(hi:cR G.all.toList i=some o)
 (hg:iU e G.all o.guard=some ks) (ho:o.op= .makeMap t none) (hd:o.dst=some d) (hc:hI G.C.n e d=true) (hE:E i=none)
 (next: ∀b,WE G π ⟨(d, .map (some b))::e.us,e.cs⟩ h (E.set i (some (wR .mp b [])))):WE G (i::π) e h E:=by
 intro a g;refine ⟨o,by rw [cZ,Array.getElem?_toList] at hi;exact hi,?_⟩;unfold Rg.Node;have hk:kd o= .mk:=by unfold kd;rw [ho]
 rw [(gP g hg).1,hk];refine ⟨[], .mp,by unfold wS;rw [ho],rfl,hE,fun b=>next b _ (g.put (by rw [hd];exact fY hc))⟩
end
section
variable{K:AC}{all:Array Oper}{m:Nat}{k:List It}{pubs:Nat->List Nat}{Y:Ua}{π:List Nat}{E:aO}{Λ:List aH}{D:Da}
theorem WA.makeMap{i:Nat}{o:Oper}{ks:List (Nat×Bool)}{t:TypeId}{d:Nat}(hi:cR all.toList i=some o)
 (hg:bL E all o.guard=some ks) (ho:o.op= .makeMap t none) (hd:o.dst=some d) (hc:cP K.n E d=true) (hE:lK D i=none)
 (next: ∀b,WA K all m k pubs Y π ⟨(d, .v (.map (some b)))::E.us,E.cs⟩ Λ ((i, .mp b [] [])::D)):WA K all m k pubs Y (i::π) E Λ D:=by
 refine ⟨fun h e L Es hl r q dd=>?_⟩;have hE':Es i=none:=by have:=dd i;rw [hE] at this;exact this
 refine WE.makeMap (G:=cD K.cfg all (L++K.G) pubs (YA Y) m k) hi (aR r hg) ho hd (cE r hc) hE' fun b=>?_;exact (next b).run h _ L _ hl ⟨r.1.put (bN.2 ⟨rfl,rfl⟩),r.2⟩ q (dd.set ⟨rfl,[],aP.2 T,rfl⟩)
end
end Go.Tp
namespace Go.Proofs.YtenkjmjejhhdjaaGreat
open Go Go.Tp
abbrev WN(n:Nat):Value:= .int .i64 (n:Nat)
abbrev eA(g:IQ):List Value:=g.map fun x=>WN x.1
abbrev valV(x:Nat×List bA)(z:Value):AV:= .sl 1 (x.2.map aF) (some z)
abbrev dN(g:IQ)(zs:List Value):List AV:=g.zipWith valV zs
abbrev l8(b:BR):aH:= .mp b.m (eA (dC b.r.ends)) (dN (dC b.r.ends) b.zs)
theorem NM: ∀(g:IQ) (n:Nat),(n∉hC g->qE (.int .i64) (WN n) (eA g)=some none)/\(∀(p:Nat) x,(hC g).Nodup->g[p]? =some x->x.1=n->qE (.int .i64) (WN n) (eA g)=some (some p))
 | [],n=>⟨fun _=>rfl,fun p x _ h=>by simp at h⟩ |y::r,n=>by
  obtain ⟨i1,i2⟩:=NM r n;have hs:Instr.sameNow (.int .i64) (WN n) (WN y.1)=some (decide (n=y.1)):=by show some (((n:Nat):Int)==((y.1:Nat):Int))=_;congr 1;rw [Bool.eq_iff_iff,dT,beq_iff_eq];omega
  refine ⟨fun h=>?_,fun p x hn hx hxn=>?_⟩
  ·have h1:n≠y.1:=fun e=>h (by rw [e];exact aa5 ..);have h2:=i1 fun hm=>h (.tail _ hm);show qE _ _ (WN y.1::eA r)=_;rw [qE,hs,decide_eq_false h1];simp only [h2]
  ·have hn:(y.1::hC r).Nodup:=hn;rw [List.nodup_cons] at hn;show qE _ _ (WN y.1::eA r)=_;rw [qE,hs];cases p with
   |zero=>
    simp only [ak1,Option.some.injEq] at hx;subst hx;rw [decide_eq_true hxn.symm]
   |succ p=>
    simp only [af4] at hx;have h1:n≠y.1:=fun e=>hn.1 (by rw [<-e,<-hxn];exact an7 (aa2 hx));have h2:=i2 p x hn.2 hx hxn;rw [decide_eq_false h1];simp only [h2]
abbrev MH(zb:Value)(nb br n b8:Nat)(s:bA):List AV:=[.pe 1 (.ms zb 4 nb), .pe 1 (aT br), .pe 1 (AI (n:Nat)),aT b8, .pe 1 (aF s)]
abbrev OR(zb:Value)(bs:List BR)(cn:List Nat)(br n b8:Nat)(s:bA)(z:Value)(m:Nat)(r:RN):List aH:= .box b8 (.fn 136 [] (MH zb bs.length br n b8 s)):: .row 4 zb (lE bs cn)::(nN br z m r++bs.map l8)
abbrev iR(r:RN)(n:Nat)(xs:List bA):RN:=⟨r.reach,xs.foldl (fun l x=>fF l (n,x)) r.ends,r.miss⟩
structure TY(V:List KV)(bs:List BR):Prop where
 wf: ∀b,b∈bs->sW V b.r/\b.r.reach<=256/\b.ch.length<=1048576/\b.zs.length=(dC b.r.ends).length/\b.r.ends.length<=2000
 len:bs.length<=2048
abbrev mL(bs:List BR)(cn:List Nat):List (List bA):=(tK bs).zipWith cI cn
theorem a0a{bs:List BR}{cn:List Nat}{i:Nat}{b:BR}{n:Nat}(h1:bs[i]? =some b)(h2:cn[i]? =some n):(mL bs cn)[i]? =some (cI b.r n):=by rw [ae1,ab5,h1,h2];rfl
theorem a0b{bs:List BR}{cn:List Nat}(h:cn.length=bs.length):(mL bs cn).length=bs.length:=by rw [ai6,aa0];omega
theorem wW{V:List KV}{r:RN}{n:Nat}{xs:List bA}(h:rN V r)(hx: ∀x,x∈xs->bI V x)(hn:n<=256)(hl:r.ends.length+xs.length<=1048576):rN V (iR r n xs):=by
 refine ⟨⟨fun e he=>?_⟩,?_⟩
 ·have he:e∈iH n xs r.ends:=he;rw [sH] at he;rcases he with he|⟨x,hx',rfl⟩
  ·exact h.ends.shp e he
  ·exact ⟨hx x hx',hn⟩
 ·have:=mA (m:=n) xs r.ends;show (iH n xs r.ends).length<=_;omega
theorem GC(r:RN)(n:Nat)(a b:List bA):iR r n (a++b)=iR (iR r n a) n b:=by unfold iR;rw [af2]
theorem OS(zb:Value)(bs:List BR)(cn:List Nat)(br n b8:Nat)(s:bA)(z:Value)(m:Nat)(r:RN):(OR zb bs cn br n b8 s z m r).Perm (nN br z m r++(.box b8 (.fn 136 [] (MH zb bs.length br n b8 s)):: .row 4 zb (lE bs cn)::bs.map l8)):=
 List.perm_append_comm_assoc [aH.box b8 (.fn 136 [] (MH zb bs.length br n b8 s)), .row 4 zb (lE bs cn)] (nN br z m r) (bs.map l8)
theorem flatT{α β:Type}{f:α->List β}{l:List α}{k:Nat}{x:α}(h:l[k]? =some x):(l.take (k+1)).flatMap f=(l.take k).flatMap f++f x:=by rw [mQ h,aj6,List.flatMap_cons,List.flatMap_nil,aa9]
theorem VQ{α β:Type}(f:α->List β)(l:List α)(k:Nat):((l.take k).flatMap f).length<=(l.flatMap f).length:=by
 conv=>rhs;rw [<-ae3 k l]
 rw [aj6,aa1];omega
theorem B2{V:List KV}(zb:Value)(bs:List BR)(cn:List Nat)(br n b8:Nat)(s:bA)(hs:bI V s)(hb:TY V bs)(hc:cn.length=bs.length)(hn:n<=256): ∀(d i:Nat),i+d=bs.length-> ∀(z:Value) (m:Nat) (r:RN) (out:bA),bI V out->rN V r->r.ends.length+(dD s ((mL bs cn).drop i) out).length<=1048576->
 fB prog aU 136 ([AI (i:Nat),aF out]++MH zb bs.length br n b8 s) (OR zb bs cn br n b8 s z m r) (fun _:Value×Nat=> .tp []) (fun u=>OR zb bs cn br n b8 s u.1 u.2 (iR r n (dD s ((mL bs cn).drop i) out))) (fun _=>True)
 |0,i,hi,z,m,r,out,ho,hr,hl=>by
  have hil:i=bs.length:=by omega
  have hadd:=A1 br m z r hr (n,out) ⟨ho,hn⟩;have hpk:dD s ((mL bs cn).drop i) out=[out]:=by rw [ad3 (by rw [a0b hc];omega),dD]
  rw [hpk];unfold fB;refine jB.of (S:=tt) (fn:=f136) (n:=45) dE func136 T T T T fun w0 h0 F hgs=>?_;refine y_ ?_;refine e_ 14 T (x':=AB true) (aA (by rw [hil];simp)) ?_;refine A.e T hadd s_ (Λ2:= .box b8 (.fn 136 [] (MH zb bs.length br n b8 s)):: .row 4 zb (lE bs cn)::bs.map l8) (OS ..) fun v _=>?_;refine A.perm (Λ':=OR zb bs cn br n b8 s v.1 v.2 (iR r n [out])) (OS ..).symm ?_;refine y_ ?_;exact A.bp T T (.refl _) ⟨v, .refl,rfl,trivial⟩
 |d+1,i,hi,z,m,r,out,ho,hr,hl=>by
  have ih:=B2 zb bs cn br n b8 s hs hb hc hn d (i+1) (by omega);refine ab4 (bT (l:=bs) (i:=i) (by omega)) fun b hbi=>?_;refine ab4 (bT (l:=cn) (i:=i) (by omega)) fun nI hnI=>?_;obtain ⟨hbe,hbr,hbc,hbz,hbn⟩:=hb.wf b (aa2 hbi);have hai:=H4 hbi hnI;have hlen:(lE bs cn).length=bs.length:=w8 hc;have hbl:=hb.len;have hdr:(mL bs cn).drop i=cI b.r nI::(mL bs cn).drop (i+1):=cB (a0a hbi hnI);refine eX (cI b.r nI) fun xs hxs=>?_;refine ab4 (show∃G:bA->List bA,G=fun x=>dD s ((mL bs cn).drop (i+1)) (fX s out x) from ⟨_,rfl⟩) fun G hG=>?_;have hpk:dD s ((mL bs cn).drop i) out=xs.flatMap G:=by rw [hdr,dD,<-hxs,hG]
  have hxok: ∀x,x∈xs->bI V x:=fun x hx=>by rw [hxs] at hx;exact hbe _ (kE.1 hx)
  have hGok: ∀x,x∈xs-> ∀y,y∈G x->bI V y:=fun x hx y hy=>by rw [hG] at hy;refine BE _ _ (fun l hl' y' hy'=>?_) (wQ ho (hxok x hx)) y hy;have hl':=List.mem_of_mem_drop hl';obtain ⟨j,hj,rfl⟩:=ah7 hl';rw [as0] at hy';have hm:=kE.1 hy';rw [List.getElem_map] at hm;exact (hb.wf _ (aj3 _)).1 _ hm
  rw [hpk] at hl⊢;have hxn:xs.length<=1048576:=by rw [hxs];unfold cI;rw [aa0];exact ae9 (ah4 ..) (by omega)
  have nxs:((xs.map aF).length:Int)=xs.length:=by rw [aa0]
  obtain ⟨M1,M2,hM⟩:=List.append_of_mem (an7 (f:=l8) (aa2 hbi));have hmp:AMp (OR zb bs cn br n b8 s z m r) b.m (eA (dC b.r.ends)) (dN (dC b.r.ends) b.zs) ((.box b8 (.fn 136 [] (MH zb bs.length br n b8 s)):: .row 4 zb (lE bs cn)::nN br z m r)++(M1++M2)):=⟨by
   show (((.box b8 (.fn 136 [] (MH zb bs.length br n b8 s)):: .row 4 zb (lE bs cn)::nN br z m r)++bs.map l8:List aH)).Perm _;rw [hM];exact (List.Perm.append_left _ ai5).trans ai5⟩
  unfold fB;refine jB.of (S:=tt) (fn:=f136) (n:=45) dE func136 T T T T fun w0 h0 F hgs=>?_;refine y_ ?_;refine e_ 14 T (x':=AB false) (aA (by rw [beq_eq_false_iff_ne];omega)) ?_;refine A.ee (z:=zb) (sz:=4) (l:=lE bs cn) (List.mem_cons_of_mem _ (aa5 ..)) fun a cp hz hcp=>?_;have hne:lE bs cn≠[]:=fun h=>by rw [h] at hlen;simp at hlen;omega
  rw [hlen] at hz hcp;subst hz;refine A.cy (a:=a) (n:=bs.length) (c:=cp) (sz:=4) (l:=lE bs cn) hne fun bb o ha=>?_;subst ha;refine d_ 13 [0,1,2,3,4,5,6,7,8,9,10,11,12] [] ?_;refine WA.ah T T T T T T T T T (by show (0:Int)<=(i:Nat);omega) (by show ((i:Nat):Int)<_;rw [hlen];omega) T ?_;refine WA.ew 22 T ?_;refine w_ ?_;refine WA.al i 1 T T T T T bs.length cp o (by rw [ac7]) hai (y:= .v (.map (some b.m))) T T ?_;refine w_ ?_;refine WA.ah T T T T T T T T T (by show (0:Int)<=(i:Nat);omega) (by show ((i:Nat):Int)<_;rw [hlen];omega) T ?_;refine WA.ew 27 T ?_;refine w_ ?_;refine WA.al i 3 T T T T T bs.length cp o (by rw [ac7]) hai (y:=AI (nI:Nat)) T T ?_
  by_cases hk:nI∈hC (dC b.r.ends)
  ·obtain ⟨p,x,hp,hxn⟩:=tG hk;have hx2:x.2=xs:=by rw [CI hp,hxn,hxs]
   refine ab4 (bT (l:=b.zs) (i:=p) (by rw [hbz];exact (aa8.1 hp).1)) fun zp hzp=>?_;have hf:=(NM (dC b.r.ends) nI).2 p x (wJ b.r.ends).nod hp hxn;have hvx:(dN (dC b.r.ends) b.zs)[p]? =some (.sl 1 (xs.map aF) (some zp)):=by rw [ae1,hp,hzp,<-hx2]
   refine WA.ck (im:=hmp) T T T T T T T T T hf hvx T ?_;refine w_ ?_;refine WA.nil (l:=[]) T ?_;refine A.val 30 T (x':= .sl 1 (xs.map aF) none) .gr ?_;refine y_ ?_;refine A.aa 31 T (x':=AI (xs.length:Nat)) (aL nxs) ?_;refine A.af [0,1,2,3,4,5,6,30,31,32] T ?_;refine A.ae (ι:=Nat×Value×Nat) (fun v=>(⟨[(0,AI (i:Nat)),(1,aF out),(2, .pe 1 (.ms (.slice (some ⟨bb,o,none⟩) bs.length cp) 4 bs.length)),(3, .pe 1 (aT br)),(4, .pe 1 (AI (n:Nat))),(5,aT b8),(6, .pe 1 (aF s)),(30, .sl 1 (xs.map aF) none),(31,AI (xs.length:Nat)),(32,AI (v.1:Nat))],[]⟩,OR (.slice (some ⟨bb,o,none⟩) bs.length cp) bs cn br n b8 s v.2.1 v.2.2 (iR r n ((xs.take v.1).flatMap G)))) (fun v=>v.1<=xs.length) (fun v=>xs.length-v.1) (0,z,m) (aa4 _) T fun v hv jh=>?_;obtain ⟨k,z1,m1⟩:=v;simp only at hv;refine y_ ?_
   by_cases hck:k<xs.length
   ·refine aX hck fun x hx=>?_;have hxm:=aa2 hx;have hmg:=PO s out x hs ho (hxok x hxm);have ht:=flatT (f:=G) hx;have h1:=VQ G xs (k+1);rw [ht,aa1] at h1;have hrk:rN V (iR r n ((xs.take k).flatMap G)):=wW hr (fun y hy=>by
     obtain ⟨x',hx',hy⟩:=ai4.1 hy;exact hGok x' (ag0 hx') y hy) hn (by omega)
    have hrl:(iR r n ((xs.take k).flatMap G)).ends.length<=r.ends.length+((xs.take k).flatMap G).length:=mA (m:=n) _ r.ends;have hGx:G x=dD s ((mL bs cn).drop (i+1)) (fX s out x):=by rw [hG]
    have hcall:=ih z1 m1 (iR r n ((xs.take k).flatMap G)) (fX s out x) (wQ ho (hxok x hxm)) hrk (by rw [<-hGx];omega);rw [<-hGx,<-GC,<-ht] at hcall;refine T_ T (by show decide ((k:Int)<(xs.length:Nat))=true;rw [dT];omega) ?_;refine i_ T (aC hx) T ?_;refine d_ 7 [0,1,2,3,4,5,6] [(6,aF (fX s out x))] ?_;refine WA.c T T hmg (.sub s_) ?_;refine WA.nil (l:=[]) T ?_;refine vI 38 i ?_;refine A.ab (Λ':=OR (.slice (some ⟨bb,o,none⟩) bs.length cp) bs cn br n b8 s z1 m1 (iR r n ((xs.take k).flatMap G))) T ?_;refine A.e T hcall s_ (Λ2:=[]) (by rw [aa9]) fun v _=>?_;refine A.ab (aa9 _) ?_;refine y_ ?_;refine vI 32 k ?_;refine u_ (jh (k+1,v.1,v.2) (by show k+1<=_;omega) (by show _-(k+1)<_-k;omega))
   ·refine A.gF T (by show decide ((k:Int)<(xs.length:Nat))=false;rw [dF];omega) ?_;have htk:xs.take k=xs:=aa6 (by omega);refine A.ab (Λ':=OR (.slice (some ⟨bb,o,none⟩) bs.length cp) bs cn br n b8 s z1 m1 (iR r n (xs.flatMap G))) (by show OR _ bs cn br n b8 s z1 m1 (iR r n ((xs.take k).flatMap G))=_;rw [htk]) ?_;refine y_ ?_;exact A.bp T T (.refl _) ⟨(z1,m1), .refl,rfl,trivial⟩
  ·have hx0:xs=[]:=by rw [hxs];exact VX hk
   have hf:=(NM (dC b.r.ends) nI).1 hk;refine WA.aw (im:=hmp) T T T T T T T T T T T hf T ?_;refine w_ ?_;refine WA.nil (l:=[]) T ?_;refine A.val 30 T (x':= .sl 1 [] none) .nil ?_;refine A.aa 30 T (x':= .sl 1 (xs.map aF) none) (by rw [hx0];rfl) ?_;refine e_ 31 T (x':=AI ((xs.map aF).length:Nat)) (by rw [hx0];rfl) ?_;refine A.aa 31 T (x':=AI (xs.length:Nat)) (aL nxs) ?_;refine A.af [0,1,2,3,4,5,6,30,31,32] T ?_;refine A.ae (ι:=Nat×Value×Nat) (fun v=>(⟨[(0,AI (i:Nat)),(1,aF out),(2, .pe 1 (.ms (.slice (some ⟨bb,o,none⟩) bs.length cp) 4 bs.length)),(3, .pe 1 (aT br)),(4, .pe 1 (AI (n:Nat))),(5,aT b8),(6, .pe 1 (aF s)),(30, .sl 1 (xs.map aF) none),(31,AI (xs.length:Nat)),(32,AI (v.1:Nat))],[]⟩,OR (.slice (some ⟨bb,o,none⟩) bs.length cp) bs cn br n b8 s v.2.1 v.2.2 (iR r n ((xs.take v.1).flatMap G)))) (fun v=>v.1<=xs.length) (fun v=>xs.length-v.1) (0,z,m) (aa4 _) T fun v hv jh=>?_;obtain ⟨k,z1,m1⟩:=v;simp only at hv;refine y_ ?_
   by_cases hck:k<xs.length
   ·refine aX hck fun x hx=>?_;have hxm:=aa2 hx;have hmg:=PO s out x hs ho (hxok x hxm);have ht:=flatT (f:=G) hx;have h1:=VQ G xs (k+1);rw [ht,aa1] at h1;have hrk:rN V (iR r n ((xs.take k).flatMap G)):=wW hr (fun y hy=>by
     obtain ⟨x',hx',hy⟩:=ai4.1 hy;exact hGok x' (ag0 hx') y hy) hn (by omega)
    have hrl:(iR r n ((xs.take k).flatMap G)).ends.length<=r.ends.length+((xs.take k).flatMap G).length:=mA (m:=n) _ r.ends;have hGx:G x=dD s ((mL bs cn).drop (i+1)) (fX s out x):=by rw [hG]
    have hcall:=ih z1 m1 (iR r n ((xs.take k).flatMap G)) (fX s out x) (wQ ho (hxok x hxm)) hrk (by rw [<-hGx];omega);rw [<-hGx,<-GC,<-ht] at hcall;refine T_ T (by show decide ((k:Int)<(xs.length:Nat))=true;rw [dT];omega) ?_;refine i_ T (aC hx) T ?_;refine d_ 7 [0,1,2,3,4,5,6] [(6,aF (fX s out x))] ?_;refine WA.c T T hmg (.sub s_) ?_;refine WA.nil (l:=[]) T ?_;refine vI 38 i ?_;refine A.ab (Λ':=OR (.slice (some ⟨bb,o,none⟩) bs.length cp) bs cn br n b8 s z1 m1 (iR r n ((xs.take k).flatMap G))) T ?_;refine A.e T hcall s_ (Λ2:=[]) (by rw [aa9]) fun v _=>?_;refine A.ab (aa9 _) ?_;refine y_ ?_;refine vI 32 k ?_;refine u_ (jh (k+1,v.1,v.2) (by show k+1<=_;omega) (by show _-(k+1)<_-k;omega))
   ·refine A.gF T (by show decide ((k:Int)<(xs.length:Nat))=false;rw [dF];omega) ?_;have htk:xs.take k=xs:=aa6 (by omega);refine A.ab (Λ':=OR (.slice (some ⟨bb,o,none⟩) bs.length cp) bs cn br n b8 s z1 m1 (iR r n (xs.flatMap G))) (by show OR _ bs cn br n b8 s z1 m1 (iR r n ((xs.take k).flatMap G))=_;rw [htk]) ?_;refine y_ ?_;exact A.bp T T (.refl _) ⟨(z1,m1), .refl,rfl,trivial⟩
abbrev bsE(zb:Value)(bs:List BR)(cn:List Nat)(br:Nat)(z:Value)(m:Nat)(r:RN):List aH:= .row 4 zb (lE bs cn)::(nN br z m r++bs.map l8)
theorem meet_p{V:List KV}(zb:Value)(bs:List BR)(cn:List Nat)(br n:Nat)(s:bA)(hs:bI V s)(hb:TY V bs)(hc:cn.length=bs.length)(hn:n<=256)(z:Value)(m:Nat)(r:RN)(hr:rN V r)(hl:r.ends.length+(dD s (mL bs cn) s).length<=1048576):
 fB prog aU 90 [aT br, .ms zb 4 bs.length,AI (n:Nat),aF s] (bsE zb bs cn br z m r) (fun _:Value×Nat=> .tp []) (fun u=>bsE zb bs cn br u.1 u.2 (fC s (tK bs) cn n r)) (fun _=>True):=by
 obtain ⟨rc,l,ms⟩:=r;have hch:=fun b8=>B2 zb bs cn br n b8 s hs hb hc hn bs.length 0 (by omega) z m ⟨n,l,ms⟩ s hs ⟨hr.ends,hr.len⟩ (by rw [ag3];exact hl);unfold fB;refine jB.of (S:=tt) (fn:=f90) (n:=17) dE func90 T T T T fun w0 h0 F hgs=>?_;refine b_ fun b4=>?_;refine A.b T fun b5=>?_;refine A.b T fun b6=>?_;refine A.b T fun b7=>?_;refine A.freeze 4 (sz:=1) T T T ?_;refine A.freeze 5 (sz:=1) T T T ?_;refine A.freeze 6 (sz:=1) T T T ?_;refine A.freeze 7 (sz:=1) T T T ?_;refine A.ab (Λ':= .row 4 zb (lE bs cn):: .box br (.ag [AI (rc:Nat), .ms z 2 l.length,mapA m l,AB ms]):: .row 2 z (l.map cT)::(ES m l++bs.map l8)) T ?_;(repeat refine A.s T ?_);(repeat first|refine A.s T ?_|refine A.w T T ?_);refine A.b T fun b8=>?_;refine y_ ?_;refine A.ab (Λ':=OR zb bs cn br n b8 s z m ⟨n,l,ms⟩) T ?_;refine A.e T (hch b8) s_ (Λ2:=[]) (by rw [aa9]) fun v _=>?_;refine A.ab (aa9 _) ?_;refine A.less (Λ':=bsE zb bs cn br v.1 v.2 (fC s (tK bs) cn n ⟨rc,l,ms⟩)) (.cons _ (.refl _)) ?_;refine y_ ?_;exact A.bp T T (.refl _) ⟨v, .refl,rfl,trivial⟩
abbrev LW(p:PR):AV:=aQ (aB p)
abbrev zrB:AV:= .ag (List.map AV.v YW.zero)
abbrev zrR:AV:= .ag (List.map AV.v YX.zero)
abbrev pL(ms:Bool):AV:= .ag [AI 0, .v (.slice none 0 0), .v (.map none),AB ms]
abbrev oA(n:Nat)(bs:List BR):List AV:=bs.map (fun b=>brE b 0)++List.replicate (n-bs.length) zrB
theorem K4{n:Nat}{bs:List BR}(h:bs.length<=n):(oA n bs).length=n:=by rw [aa1,aa0,List.length_replicate];omega
theorem X5{n:Nat}{bs:List BR}(b:BR)(h:bs.length<n):(oA n bs).set bs.length (brE b 0)=oA n (bs++[b]):=by
 unfold oA;rw [List.set_append_right _ _ (by rw [aa0];exact ab3 _),aa0,ak3,ac0,ab2,aa1,List.length_singleton];congr 1;rw [show n-bs.length=(n-(bs.length+1))+1 by omega,List.replicate_succ]
 rfl
theorem X4{n:Nat}{bs:List BR}(h:bs.length=n):oA n bs=lE bs (bs.map fun _=>0):=by unfold oA;rw [h,ak3,List.replicate_zero,aa9];show _=bs.zipWith brE (bs.map fun _=>0);rw [List.zipWith_map_right,List.zipWith_self]
theorem FW{g:IQ}{p:Nat}{x y:Nat×List bA}(h:g[p]? =some x)(hy:y.1=x.1):eA (g.set p y)=eA g:=by
 apply af0;intro j;rw [ab5,ab5,ah0]
 by_cases hpj:p=j
 ·subst hpj;rw [iT T,iT (aa8.1 h).1,h,af8,af8,hy]
 ·rw [iF hpj]
theorem GV(g:IQ)(zs:List Value)(p:Nat)(y:Nat×List bA)(z:Value):dN (g.set p y) (zs.set p z)=(dN g zs).set p (valV y z):=by
 apply af0;intro j;rw [ae1,ah0,ah0,ah0,ae1,ai6]
 by_cases hpj:p=j
 ·subst hpj;rw [iT T,iT T,iT T]
  by_cases h1:p<g.length
  ·by_cases h2:p<zs.length
   ·rw [iT h1,iT h2,iT (by omega)]
   ·rw [iT h1,iF h2,iF (by omega)]
  ·by_cases h2:p<zs.length
   ·rw [iF h1,iT h2,iF (by omega)]
   ·rw [iF h1,iF h2,iF (by omega)]
 ·rw [iF hpj,iF hpj,iF hpj]
theorem EC{g:IQ}{zs:List Value}(h:zs.length=g.length)(y:Nat×List bA)(z:Value):dN (g++[y]) (zs++[z])=dN g zs++[valV y z]:=by show List.zipWith valV (g++[y]) (zs++[z])=_;rw [List.zipWith_append h.symm];rfl
theorem YL{α:Type}{l:List α}{p:Nat}{x:α}(h:l[p]? =some x): ∃A B,l=A++x::B/\ ∀y,l.set p y=A++y::B:=by
 have hp:=(aa8.1 h).1;refine ⟨l.take p,l.drop (p+1),?_,fun y=>?_⟩
 ·rw [<-(aa8.1 h).2,<-List.drop_eq_getElem_cons hp,ae3]
 ·rw [List.set_eq_take_append_cons_drop,iT hp]
theorem lZ(P Q:List aH)(A B:List Value)(z:Value):(P++((A++z::B).map (aH.tail 1)++Q)).Perm (.tail 1 z::(P++((A++B).map (aH.tail 1)++Q))):=by
 have e1:P++((A++z::B).map (aH.tail 1)++Q)=(P++A.map (aH.tail 1))++(.tail 1 z::(B.map (aH.tail 1)++Q)):=by simp [ab2]
 have e2:P++((A++B).map (aH.tail 1)++Q)=(P++A.map (aH.tail 1))++(B.map (aH.tail 1)++Q):=by simp [ab2]
 rw [e1,e2];exact ai5
theorem perm4(a b c d:aH)(M:List aH):(a::b::c::d::M).Perm (c::b::a::(M++[d])):=
 List.Perm.append (show [a,b,c].Perm [c,b,a] from List.reverse_perm [c,b,a]) (ae8 d M).symm
theorem WA.jo{K:AC}{all:Array Oper}{m:Nat}{k:List It}{pubs:Nat->List Nat}{Y:Ua}{π:List Nat}{E:aO}{Λ:List aH}{D:Da}(t:Nat){x x':AV}(hx:cF E.us t=some x)(hs: ∀(h:GH) y,Rp h x y->Rp h x' y)(next:WA K all m k pubs Y π ⟨(t,x')::E.us,E.cs⟩ Λ D):WA K all m k pubs Y π E Λ D:=by
 refine ⟨fun h e L Es hl r q d=>?_⟩;rcases r.1.look t with ⟨y,v,e1,e2,e3⟩|⟨e1,e2⟩
 ·rw [hx] at e1;injection e1 with e1;subst e1;exact WE.val (G:=cD K.cfg all (L++K.G) pubs (YA Y) m k) t e2 T (next.run h ⟨(t,v)::e.us,e.cs⟩ L Es hl ⟨r.1.put (hs _ _ e3),r.2⟩ q d)
 ·rw [hx] at e1;cases e1
structure ParIn(V:List KV)(C:List Int)(f:Nat)(op:List Int)(l:List PR):Prop where
 un: ∀x,x∈l->Un V C x
 sm: ∀x,x∈l->sS x
 run: ∀x,x∈l->I0 V f x
 way:cW l f<=2000
 op:op.length+(aI l).length<=1048576
 len:l.length<=2048
theorem a0E{V:List KV}{C:List Int}(f:Nat)(hf:f<=1048576)(op:List Int)(t:TR)(s:bA)(l:List PR)(I:ParIn V C f op l)(ht:l6 t)(fN:t.length<=256)(hs:bI V s):Pure prog aU 48 [fS t op f,pN l,aF s] (oI (qW (l.map aB) (hJ f op (l.map aB) 0 t s l) t s)):=by
 have hln:=I.len;have n1:((aS l).length:Int)=l.length:=by rw [bP]
 refine eX (hJ f op (l.map aB) 0 t s l) fun RS hRS=>?_;refine eX (qW (l.map aB) RS t s) fun PM hPM=>?_;rw [<-hRS,<-hPM];refine P_ func48 144 fun w0 h0 F hgs=>?_;refine b_ fun b3=>?_;refine A.b T fun b6=>?_;refine y_ ?_;refine A.bo 7 1 T fun z0=>?_;refine A.aa 22 T (x':=AI (l.length:Nat)) (aL n1) ?_;refine A.af [1,2,3,6,7,21,22,23] T ?_;refine A.ae (ι:=Nat×Value) (fun v=>(⟨[(1,pN l),(2,aF s),(3,aT b3),(6,aT b6),(7, .ms v.2 1 (l.take v.1).length),(21,pN l),(22,AI (l.length:Nat)),(23,AI (v.1:Nat))],[]⟩,[.row 1 v.2 ((l.take v.1).map LW), .box b6 zrR, .box b3 (fS t op f)])) (fun v=>v.1<=l.length) (fun v=>l.length-v.1) (0,z0) (aa4 _) T fun v hv ih=>?_;obtain ⟨i,z⟩:=v;simp only at hv;refine y_ ?_
 by_cases hci:i<l.length
 ·refine aX hci fun x hx=>?_;have hxm:=aa2 hx;have hch:=ZZ x (I.sm x hxm) (by have:=nM hxm;have:=I.op;omega);have htk:=mQ hx;have hml:(l.take i).length<=2048:=by rw [ac1];omega
  refine T_ T (by show decide ((i:Int)<(l.length:Nat))=true;rw [dT];omega) ?_;refine j_ T (aV hx) (bC x) ?_;refine b_ fun b9=>?_;refine y_ ?_;refine n_ hch ?_;refine t_ fun bl=>?_;refine A.aj T T T T T T T T T T T T T T (by show (((l.take i).map LW).length+1)*1<=_;rw [aa0];omega) (by show (((l.take i).map LW).length+1)*1*24<=_;rw [aa0];omega) fun z2=>?_;refine y_ ?_;refine vI 23 i ?_;refine A.aa 7 T (x':= .ms z2 1 (l.take (i+1)).length) (by rw [htk,aa1,aa0];rfl) ?_;refine l_ (Λ':=[.row 1 z2 ((l.take i).map LW++[LW x]), .box b6 zrR, .box b3 (fS t op f)]) ?_;refine A.ab (Λ':=[.row 1 z2 ((l.take (i+1)).map LW), .box b6 zrR, .box b3 (fS t op f)]) (by rw [htk,ac0];rfl) ?_;refine u_ (ih (i+1,z2) (by show i+1<=_;omega) (by show _-(i+1)<_-i;omega))
 refine A.gF T (by show decide ((i:Int)<(l.length:Nat))=false;rw [dF];omega) ?_;have htl':l.take i=l:=aa6 (by omega);clear ih;refine A.aa 7 T (x':= .ms z 1 l.length) (by rw [htl']) ?_;refine A.ab (Λ':=[.row 1 z (l.map LW), .box b6 zrR, .box b3 (fS t op f)]) (by show [aH.row 1 z ((l.take i).map LW),_,_]=_;rw [htl']) ?_;refine A.ar 7 T ?_;refine y_ ?_;refine A.aa 34 T (x':=AI (l.length:Nat)) (aL n1) ?_;refine A.iq T T T T T T T T T T T T (by omega) (by show (48:Int)*_<=_;omega) (by omega) fun a cp hcp=>?_;refine y_ ?_;refine A.aa 37 T (x':=AI (l.length:Nat)) (aL n1) ?_;refine A.af [1,2,3,6,7,10,36,37,38] T ?_
 refine A.ae (ι:=List BR) (fun bs=>(⟨[(1,pN l),(2,aF s),(3,aT b3),(6,aT b6),(7, .sl 1 (l.map LW) none),(10, .ms (.slice a l.length cp) 4 l.length),(36,pN l),(37,AI (l.length:Nat)),(38,AI (bs.length:Nat))],[]⟩, .row 4 (.slice a l.length cp) (oA l.length bs):: .box b6 (pL ((tK bs).any (·.miss))):: .box b3 (fS t op f)::bs.map l8))
  (fun bs=>bs.length<=l.length/\uQ bs=(l.take bs.length).map aB/\tK bs=RS.take bs.length/\ ∀b,b∈bs->b.zs.length=(dC b.r.ends).length) (fun bs=>l.length-bs.length) [] ⟨aa4 _,rfl,rfl,fun b h=>by cases h⟩ T fun bs hv ih=>?_
 obtain ⟨hb1,hb2,hb3,hb4⟩:=hv;refine y_ ?_
 by_cases hci:bs.length<l.length
 ·refine aX hci fun x hx=>?_;have hxm:=aa2 hx;refine eX (bs.length) fun i hi=>?_;refine eX (l.map aB) fun ALL hALL=>?_;have hAl:ALL.length=l.length:=by rw [hALL,aa0]
  have hol: ∀j,(AF op ALL i j).length<=1048576:=fun j=>by have h1:=P0 op ALL i j;have h2:=vX l;have h3:=I.op;rw [hALL] at h1;rw [hALL];omega
  refine A.gT T (by show decide ((bs.length:Int)<(l.length:Nat))=true;rw [dT];omega) ?_;refine e_ 38 T (x':=AI (i:Nat)) (by rw [hi]) ?_;refine j_ T (aV (by rw [hi];exact hx)) (bC x) ?_;refine b_ fun b12=>?_;refine y_ ?_;refine A.iw T T T T T T T fun bl=>?_;refine y_ ?_;refine A.eu T T T T T T T T T T T T T T (by show (0+(op.map AI).length)*1<=_;rw [aa0];have:=I.op;omega) (fun h=>by cases h) (fun x h=>by injection h with h;rw [<-h]) fun z1=>?_;refine y_ ?_;refine eX (aH.row 4 (.slice a l.length cp) (oA l.length bs):: .box b6 (pL ((tK bs).any (·.miss))):: .box b3 (fS t op f)::bs.map l8) fun REST hREST=>?_;have n4:((l.map LW).length:Int)=l.length:=by rw [aa0]
  refine A.aa 48 T (x':=AI (l.length:Nat)) (aL n4) ?_;refine A.aa 13 T (x':= .sl 1 ((AF op ALL i 0).map AI) (some z1)) (by rw [KK];rfl) ?_;refine A.af [1,2,3,6,7,10,11,12,13,36,37,38,47,48,49] T ?_;refine A.ab (Λ':= .tail 1 z1:: .box b12 (aE x)::REST) (by rw [hREST];rfl) ?_;refine A.ae (ι:=Nat×Value) (fun v=>(⟨[(1,pN l),(2,aF s),(3,aT b3),(6,aT b6),(7, .sl 1 (l.map LW) none),(10, .ms (.slice a l.length cp) 4 l.length),(11,AI (i:Nat)),(12,aT b12),(13, .sl 1 ((AF op ALL i v.1).map AI) (some v.2)),(36,pN l),(37,AI (l.length:Nat)),(38,AI (i:Nat)),(47, .sl 1 (l.map LW) none),(48,AI (l.length:Nat)),(49,AI (v.1:Nat))],[]⟩, .tail 1 v.2:: .box b12 (aE x)::REST)) (fun v=>v.1<=l.length) (fun v=>l.length-v.1) (0,z1) (aa4 _) T fun v hv jh=>?_;obtain ⟨j,z⟩:=v;simp only at hv;refine y_ ?_
  by_cases hcj:j<l.length
  ·refine aX hcj fun y hy=>?_;have hyA:ALL[j]? =some (aB y):=by rw [hALL];exact aC hy
   refine T_ T (by show decide ((j:Int)<(l.length:Nat))=true;rw [dT];omega) ?_;refine i_ T (aC hy) T ?_
   by_cases hji:j=i
   ·refine F_ T (by show (((j:Nat):Int) !=((i:Nat):Int))=false;rw [hji];simp) ?_;refine vI 49 j ?_;refine A.aa 13 T (x':= .sl 1 ((AF op ALL i (j+1)).map AI) (some z)) (by rw [hji,KJ]) ?_;refine u_ (jh (j+1,z) (by show j+1<=_;omega) (by show _-(j+1)<_-j;omega))
   ·have hnx:=KI (op:=op) hyA hji;have hln2:=hol (j+1);rw [hnx,aa1] at hln2;refine T_ T (by show (((j:Nat):Int) !=((i:Nat):Int))=true;rw [bne_iff_ne];omega) ?_;refine A.append (i:=by exact ATl.here) T T T T T T T T T T T T T T (by show (((AF op ALL i j).map AI).length+((aB y).map AI).length)*1<=_;rw [aa0,aa0];omega) fun z2=>?_;refine y_ ?_;refine vI 49 j ?_;refine A.aa 13 T (x':= .sl 1 ((AF op ALL i (j+1)).map AI) (some z2)) (by show AV.sl 1 ((AF op ALL i j).map AI++(aB y).map AI) (some z2)=_;rw [hnx,ac0]) ?_;refine u_ (jh (j+1,z2) (by show j+1<=_;omega) (by show _-(j+1)<_-j;omega))
  refine A.gF T (by show decide ((j:Int)<(l.length:Nat))=false;rw [dF];omega) ?_;have hjl:j=ALL.length:=by rw [hAl];have:j<=l.length:=hv;omega
  refine y_ ?_;refine A.aa 13 T (x':= .sl 1 ((gB op ALL i).map AI) (some z)) (by show AV.sl 1 ((AF op ALL i j).map AI) (some z)=_;rw [hjl,PZ (by rw [hAl];omega)]) ?_;clear jh;have hix:l[i]? =some x:=by rw [hi];exact hx
  have hqs:RS[i]? =some (cG f (gB op ALL i) (bX t (aB x)) s x):=by rw [hRS,rP,hix];show some (cG f (gB op (l.map aB) (0+i)) (bX t (((l.map aB)[0+i]?).getD [])) s x)=_;rw [ag9,aC hix,hALL];rfl
  have hcl:=cJ x;have hrl:=nM hxm;have hop:=I.op;have hon:=only_p t (aB x) (by omega) (by omega);have hrun:=I.run x hxm (gB op ALL i) (bX t (aB x)) s (by rw [hALL];have:=DB op l hix;omega) (C9 ht _) (by have:=sM t (aB x);omega) hs;refine eX (cG f (gB op ALL i) (bX t (aB x)) s x) fun q hq=>?_;rw [<-hq] at hqs hrun;refine A.af [1,2,3,6,7,10,11,12,13,36,37,38] T ?_;refine A.ab (Λ':= .tail 1 z:: .box b12 (aE x):: .row 4 (.slice a l.length cp) (oA l.length bs):: .box b6 (pL ((tK bs).any (·.miss))):: .box b3 (fS t op f)::bs.map l8) (by rw [hREST]) ?_;refine d_ 15 [0,1,2,3,4,5,7,8,9,11,12,14,6,10,13] [(6,lI (bX t (aB x))),(13,oI q)] ?_;refine gX T (aC hix) T ?_;refine WA.alloc T T T T T T T T fun b16=>?_;refine rL hon ?_;refine WA.c T T hrun (.sub s_) ?_;refine WA.nil (l:=[_]) T ?_;refine y_ ?_;refine A.less (Λ':= .box b16 (oI q):: .row 4 (.slice a l.length cp) (oA l.length bs):: .box b6 (pL ((tK bs).any (·.miss))):: .box b3 (fS t op f)::bs.map l8) (List.Sublist.cons_cons _ (List.Sublist.cons _ (List.Sublist.cons _ (.refl _)))) ?_;refine d_ 10 [0,1,2,3,4,5,6,7,8,9] [] ?_;refine gX T (aC hix) T ?_;refine WA.makeMap T T T T T T fun bm=>?_;refine w_ ?_;refine WA.nil (l:=[_]) T ?_;refine A.ab (Λ':= .mp bm [] []:: .box b16 (oI q):: .row 4 (.slice a l.length cp) (oA l.length bs):: .box b6 (pL ((tK bs).any (·.miss))):: .box b3 (fS t op f)::bs.map l8) T ?_;refine ab4 (show∃b0:BR,b0=⟨aB x,bm,[],q⟩ from ⟨_,rfl⟩) fun b0 hb0=>?_;have hpl:(oA l.length bs).length=l.length:=K4 (by omega);have hset:=X5 b0 hci;have hxs:(oA l.length bs).set ((i:Nat):Int).toNat (.ag (LW x:: .v (.map (some bm))::AI (q.reach:Nat)::List.map AV.v [Value.int .i64 0]))=oA l.length (bs++[b0]):=by rw [<-hset,ac7,<-hi];congr 1;rw [hb0];rfl
  refine A.ah T T T T T T T T (by show (0:Int)<=(i:Nat);omega) (by show ((i:Nat):Int)<_;rw [hpl];omega) T ?_;refine A.bq T T T T T T T T T (by show ((i:Nat):Int).toNat<_;rw [hpl];omega) (xs':=oA l.length (bs++[b0])) hxs ?_;refine eX (((tK bs).any (·.miss)||q.miss)) fun ms1 hms1=>?_;refine eX (oA l.length (bs++[b0])) fun RW hRW=>?_;have hRl:RW.length=l.length:=by rw [hRW];exact K4 (by rw [aa1];show bs.length+1<=_;omega)
  have hai:RW[i]? =some (.ag [LW x, .v (.map (some bm)),AI (q.reach:Nat),AI 0]):=by
   rw [hRW];unfold oA;rw [List.getElem?_append_left (by rw [aa0,aa1,hi];show _<_+1;omega),ab5,hi,List.getElem?_append_right (ab3 _),ak3,hb0]
   rfl
  have hql:q.ends.length<=2000:=by have:=tI x f (gB op ALL i) (bX t (aB x)) s;rw [<-hq] at this;have h2:=jW I.way hxm;omega
  have nq:((q.ends.map cT).length:Int)=q.ends.length:=by rw [aa0]
  refine A.ab (Λ':= .mp bm [] []:: .box b16 (oI q):: .row 4 (.slice a l.length cp) RW:: .box b6 (pL ((tK bs).any (·.miss))):: .box b3 (fS t op f)::bs.map l8) (by rw [hRW]) ?_;refine A.cy (a:=a) (n:=l.length) (c:=cp) (sz:=4) (l:=RW) (fun h=>by rw [h] at hRl;simp at hRl;omega) fun bb o ha=>?_;subst ha
  by_cases hmb:(tK bs).any (·.miss)=true
  ·refine A.ab (Λ':= .mp bm [] []:: .box b16 (oI q):: .row 4 (.slice (some ⟨bb,o,none⟩) l.length cp) RW:: .box b6 (pL true):: .box b3 (fS t op f)::bs.map l8) (by rw [hmb]) ?_;have hms0:=hms1;rw [hmb,Bool.true_or] at hms1;refine y_ ?_;refine A.perm (Λ':= .mp bm [] []:: .row 4 (.slice (some ⟨bb,o,none⟩) l.length cp) RW:: .box b16 (oI q):: .box b6 (pL ms1):: .box b3 (fS t op f)::bs.map l8) (by rw [hms1];exact (List.Perm.cons _ (List.Perm.swap _ _ _))) ?_;refine A.aa 95 T (x':=AI (q.ends.length:Nat)) (aL nq) ?_;refine A.af [1,2,3,6,7,10,11,36,37,38,94,95,96] T ?_;refine l_ (Λ':= .mp bm [] []:: .row 4 (.slice (some ⟨bb,o,none⟩) l.length cp) RW:: .box b6 (pL ms1):: .box b3 (fS t op f)::bs.map l8) ?_;refine A.ae (ι:=Nat×List Value) (fun v=>(⟨[(1,pN l),(2,aF s),(3,aT b3),(6,aT b6),(7, .sl 1 (l.map LW) none),(10, .ms (.slice (some ⟨bb,o,none⟩) l.length cp) 4 l.length),(11,AI (i:Nat)),(36,pN l),(37,AI (l.length:Nat)),(38,AI (i:Nat)),(94, .sl 2 (q.ends.map cT) none),(95,AI (q.ends.length:Nat)),(96,AI (v.1:Nat))],[]⟩, .mp bm (eA (dC (q.ends.take v.1))) (dN (dC (q.ends.take v.1)) v.2):: .row 4 (.slice (some ⟨bb,o,none⟩) l.length cp) RW:: .box b6 (pL ms1):: .box b3 (fS t op f)::(v.2.map (aH.tail 1)++bs.map l8))) (fun v=>v.1<=q.ends.length/\v.2.length=(dC (q.ends.take v.1)).length) (fun v=>q.ends.length-v.1) (0,[]) ⟨aa4 _,rfl⟩ T fun v hv kh=>?_;obtain ⟨k,zs⟩:=v;obtain ⟨hk1,hk2⟩:=hv;simp only at hk1 hk2;refine y_ ?_
   by_cases hck:k<q.ends.length
   ·refine aX hck fun e he=>?_;have hgn:=FO he;refine eX (dC (q.ends.take k)) fun g hg=>?_;have hnod:(hC g).Nodup:=by rw [hg];exact (wJ _).nod
    rw [<-hg] at hk2 hgn;refine T_ T (by show decide ((k:Int)<(q.ends.length:Nat))=true;rw [dT];omega) ?_;refine j_ T (aC he) T ?_;refine b_ fun b18=>?_;refine y_ ?_;refine A.ab (Λ':= .box b18 (cT e):: .mp bm (eA g) (dN g zs):: .row 4 (.slice (some ⟨bb,o,none⟩) l.length cp) RW:: .box b6 (pL ms1):: .box b3 (fS t op f)::(zs.map (aH.tail 1)++bs.map l8)) (by rw [hg];rfl) ?_
    by_cases hke:e.1∈hC g
    ·obtain ⟨p,x1,hp,hx1⟩:=tG hke;refine ab4 (bT (l:=zs) (i:=p) (by rw [hk2];exact (aa8.1 hp).1)) fun zp hzp=>?_;obtain ⟨ZA,ZB,hzs,hzset⟩:=YL hzp;have hf:=(NM g e.1).2 p x1 hnod hp hx1;have hvx:(dN g zs)[p]? =some (.sl 1 (x1.2.map aF) (some zp)):=by rw [ae1,hp,hzp]
     have hat:(eA g)[p]? =some (WN e.1):=by rw [ab5,hp,<-hx1];rfl
     have hxl:(x1.2.map aF).length<=2000:=by rw [aa0,CI (r:=⟨0,q.ends.take k,false⟩) (p:=p) (x:=x1) (by rw [<-hp,hg])];unfold cI;rw [aa0];exact ae9 (ah4 ..) (by show (q.ends.take k).length<=_;rw [ac1];omega)
     refine A.perm (Λ':= .tail 1 zp:: .box b18 (cT e):: .mp bm (eA g) (dN g zs):: .row 4 (.slice (some ⟨bb,o,none⟩) l.length cp) RW:: .box b6 (pL ms1):: .box b3 (fS t op f)::((ZA++ZB).map (aH.tail 1)++bs.map l8)) (by rw [hzs];exact lZ [_,_,_,_,_] _ _ _ _) ?_;refine A.fv 18 1 zp 19 [0,1,2,3,4,5,6,7,8,9,10,11,12,13,14,15,16,17,18] (fun i=>if i=18 then [17] else []) [] (by decide) T (by kernel_rfl) ?_;refine w_ ?_;refine WA.ah T T T T T T T T T (by show (0:Int)<=(i:Nat);omega) (by show ((i:Nat):Int)<_;rw [hRl];omega) T ?_;refine WA.ew 102 T ?_;refine w_ ?_;refine WA.al i 1 T T T T T l.length cp o (by rw [ac7]) hai (y:= .v (.map (some bm))) T T ?_;refine w_ ?_;refine WA.ah T T T T T T T T T (by show (0:Int)<=(i:Nat);omega) (by show ((i:Nat):Int)<_;rw [hRl];omega) T ?_;refine WA.ew 109 T ?_;refine w_ ?_;refine WA.al i 1 T T T T T l.length cp o (by rw [ac7]) hai (y:= .v (.map (some bm))) T T ?_;refine w_ ?_;refine WA.ck T T T T T T T T T hf hvx T ?_;refine w_ ?_;refine WA.lit T T T T T T T fun bw=>?_;refine WA.append T T T T T T T T T T T T T T T T T T (.pub (j:=17) T T (.sub .refl)) (by show ((x1.2.map aF).length+1)*1<=_;omega) fun z'=>?_;refine WA.nil (l:=[.tail 1 z']) T ?_;refine A.ab (Λ':= .tail 1 z':: .box b18 (cT e):: .mp bm (eA g) (dN g zs):: .row 4 (.slice (some ⟨bb,o,none⟩) l.length cp) RW:: .box b6 (pL ms1):: .box b3 (fS t op f)::((ZA++ZB).map (aH.tail 1)++bs.map l8)) T ?_;refine A.dy T T T T T T T T T hf hat T ?_;refine y_ ?_;refine vI 96 k ?_;have hgs:dC (q.ends.take (k+1))=g.set p (x1.1,x1.2++[e.2]):=by rw [hgn,wI hnod hp hx1]
     refine A.ab (Λ':= .mp bm (eA (dC (q.ends.take (k+1)))) (dN (dC (q.ends.take (k+1))) (ZA++z'::ZB)):: .tail 1 z':: .box b18 (cT e):: .row 4 (.slice (some ⟨bb,o,none⟩) l.length cp) RW:: .box b6 (pL ms1):: .box b3 (fS t op f)::((ZA++ZB).map (aH.tail 1)++bs.map l8)) (by rw [hgs,FW (y:=(x1.1,x1.2++[e.2])) hp T,<-hzset,GV];show aH.mp bm _ ((dN g zs).set p (.sl 1 (x1.2.map aF++[aF e.2]) (some z')))::_=aH.mp bm _ ((dN g zs).set p (.sl 1 ((x1.2++[e.2]).map aF) (some z')))::_;rw [show (x1.2++[e.2]).map aF=x1.2.map aF++[aF e.2] by rw [ac0];rfl]) ?_
     refine A.less (Λ':= .mp bm (eA (dC (q.ends.take (k+1)))) (dN (dC (q.ends.take (k+1))) (ZA++z'::ZB)):: .tail 1 z':: .row 4 (.slice (some ⟨bb,o,none⟩) l.length cp) RW:: .box b6 (pL ms1):: .box b3 (fS t op f)::((ZA++ZB).map (aH.tail 1)++bs.map l8)) (.cons_cons _ (.cons_cons _ (.cons _ (.refl _)))) ?_;refine A.perm (Λ':= .mp bm (eA (dC (q.ends.take (k+1)))) (dN (dC (q.ends.take (k+1))) (ZA++z'::ZB)):: .row 4 (.slice (some ⟨bb,o,none⟩) l.length cp) RW:: .box b6 (pL ms1):: .box b3 (fS t op f)::((ZA++z'::ZB).map (aH.tail 1)++bs.map l8)) ((List.Perm.swap _ _ _).trans (lZ [_,_,_,_] _ _ _ _).symm) ?_;refine u_ (kh (k+1,ZA++z'::ZB) ⟨by show k+1<=_;omega,by
      show (ZA++z'::ZB).length=(dC (q.ends.take (k+1))).length;rw [hgs,ak6,<-hk2,hzs,aa1,aa1];rfl⟩ (by show _-(k+1)<_-k;omega))
    ·have hf:=(NM g e.1).1 hke;have hgs:dC (q.ends.take (k+1))=g++[(e.1,[e.2])]:=by rw [hgn,rZ hke]
     refine A.dz 1 0 none (fun _=>rfl) (fun x hx=>by cases hx) ?_;refine A.fv 18 1 (.slice none 0 0) 19 [0,1,2,3,4,5,6,7,8,9,10,11,12,13,14,15,16,17,18] (fun i=>if i=18 then [17] else []) [] (by decide) T (by kernel_rfl) ?_;refine w_ ?_;refine WA.ah T T T T T T T T T (by show (0:Int)<=(i:Nat);omega) (by show ((i:Nat):Int)<_;rw [hRl];omega) T ?_;refine WA.ew 102 T ?_;refine w_ ?_;refine WA.al i 1 T T T T T l.length cp o (by rw [ac7]) hai (y:= .v (.map (some bm))) T T ?_;refine w_ ?_;refine WA.ah T T T T T T T T T (by show (0:Int)<=(i:Nat);omega) (by show ((i:Nat):Int)<_;rw [hRl];omega) T ?_;refine WA.ew 109 T ?_;refine w_ ?_;refine WA.al i 1 T T T T T l.length cp o (by rw [ac7]) hai (y:= .v (.map (some bm))) T T ?_;refine w_ ?_;refine WA.aw T T T T T T T T T T T hf T ?_;refine WA.jo 114 T (x':= .sl 1 [] (some (.slice none 0 0))) (fun h y r=>PT 1 r) ?_;refine w_ ?_;refine WA.lit T T T T T T T fun bw=>?_;refine WA.append T T T T T T T T T T T T T T T T T T (.pub (j:=17) T T (.sub .refl)) (by show (0+1)*1<=1073741824;decide) fun z'=>?_;refine WA.nil (l:=[.tail 1 z']) T ?_;refine A.ab (Λ':= .tail 1 z':: .box b18 (cT e):: .mp bm (eA g) (dN g zs):: .row 4 (.slice (some ⟨bb,o,none⟩) l.length cp) RW:: .box b6 (pL ms1):: .box b3 (fS t op f)::(zs.map (aH.tail 1)++bs.map l8)) T ?_;refine A.cz T T T T T T T T T hf T ?_;refine y_ ?_;refine vI 96 k ?_;refine A.ab (Λ':= .mp bm (eA (dC (q.ends.take (k+1)))) (dN (dC (q.ends.take (k+1))) (zs++[z'])):: .tail 1 z':: .box b18 (cT e):: .row 4 (.slice (some ⟨bb,o,none⟩) l.length cp) RW:: .box b6 (pL ms1):: .box b3 (fS t op f)::(zs.map (aH.tail 1)++bs.map l8)) (by rw [hgs,EC hk2];show _=aH.mp bm ((g++[(e.1,[e.2])]).map fun x=>WN x.1) _::_;rw [ac0];rfl) ?_
     refine A.less (Λ':= .mp bm (eA (dC (q.ends.take (k+1)))) (dN (dC (q.ends.take (k+1))) (zs++[z'])):: .tail 1 z':: .row 4 (.slice (some ⟨bb,o,none⟩) l.length cp) RW:: .box b6 (pL ms1):: .box b3 (fS t op f)::(zs.map (aH.tail 1)++bs.map l8)) (.cons_cons _ (.cons_cons _ (.cons _ (.refl _)))) ?_;refine A.perm (Λ':= .mp bm (eA (dC (q.ends.take (k+1)))) (dN (dC (q.ends.take (k+1))) (zs++[z'])):: .row 4 (.slice (some ⟨bb,o,none⟩) l.length cp) RW:: .box b6 (pL ms1):: .box b3 (fS t op f)::((zs++[z']).map (aH.tail 1)++bs.map l8)) ((List.Perm.swap _ _ _).trans (by have:=(lZ [aH.mp bm (eA (dC (q.ends.take (k+1)))) (dN (dC (q.ends.take (k+1))) (zs++[z'])), .row 4 (.slice (some ⟨bb,o,none⟩) l.length cp) RW, .box b6 (pL ms1), .box b3 (fS t op f)] (bs.map l8) zs [] z').symm;rw [aa9] at this;exact this)) ?_
     refine u_ (kh (k+1,zs++[z']) ⟨by show k+1<=_;omega,by
      show (zs++[z']).length=(dC (q.ends.take (k+1))).length;rw [hgs,aa1,aa1,hk2];rfl⟩ (by show _-(k+1)<_-k;omega))
   refine A.gF T (by show decide ((k:Int)<(q.ends.length:Nat))=false;rw [dF];omega) ?_;have hkt:q.ends.take k=q.ends:=aa6 (by omega);rw [hkt] at hk2;clear kh;refine ab4 (show∃bs':List BR,bs'=bs++[⟨aB x,bm,zs,q⟩] from ⟨_,rfl⟩) fun bs' hbs'=>?_;have hbl:bs'.length=i+1:=by rw [hbs',aa1,hi];rfl
   refine A.ab (Λ':= .mp bm (eA (dC q.ends)) (dN (dC q.ends) zs):: .row 4 (.slice (some ⟨bb,o,none⟩) l.length cp) RW:: .box b6 (pL ms1):: .box b3 (fS t op f)::(zs.map (aH.tail 1)++bs.map l8)) (by show aH.mp bm (eA (dC (q.ends.take k))) (dN (dC (q.ends.take k)) zs)::_=_;rw [hkt]) ?_;refine A.less (Λ':= .mp bm (eA (dC q.ends)) (dN (dC q.ends) zs):: .row 4 (.slice (some ⟨bb,o,none⟩) l.length cp) RW:: .box b6 (pL ms1):: .box b3 (fS t op f)::bs.map l8) (.cons_cons _ (.cons_cons _ (.cons_cons _ (.cons_cons _ (ag4 ..))))) ?_;refine A.perm (Λ':= .row 4 (.slice (some ⟨bb,o,none⟩) l.length cp) (oA l.length bs'):: .box b6 (pL ((tK bs').any (·.miss))):: .box b3 (fS t op f)::bs'.map l8) (by
    have e1:oA l.length bs'=RW:=by rw [hRW,hbs',hb0];unfold oA;rw [ac0,ac0,aa1,aa1];rfl
    have e2:(tK bs').any (·.miss)=ms1:=by rw [hms0,hbs'];show ((bs++[_]).map BR.r).any _=_;rw [ac0,aq1];show ((bs.map BR.r).any _||(q.miss||false))=_;rw [an9]
    rw [e1,e2,hbs',ac0];exact (ae8 _ _).symm) ?_
   refine y_ ?_;refine A.aa 38 T (x':=AI (bs'.length:Nat)) (aL (by rw [hbl];show IntKind.i64.wrap (((i:Nat):Int)+1)=((i+1:Nat):Int);rw [fR _ (by omega)];rfl)) ?_;refine u_ (ih bs' ⟨by omega,?_,?_,?_⟩ (by omega))
   ·rw [hbl,mQ (by rw [hi];exact hx),ac0,hbs'];show (bs++[_]).map _=_;rw [ac0];show uQ bs++_=_;rw [hb2,hi];rfl
   ·rw [hbl,mQ hqs,hbs'];show (bs++[_]).map _=_;rw [ac0];show tK bs++_=_;rw [hb3,hi];rfl
   ·rw [hbs'];intro b hb;rcases ad8.1 hb with hb|hb
    ·exact hb4 b hb
    ·rw [ab0.1 hb];exact hk2
  ·have hmb:(tK bs).any (·.miss)=false:=by simpa using hmb
   refine A.ab (Λ':= .mp bm [] []:: .box b16 (oI q):: .row 4 (.slice (some ⟨bb,o,none⟩) l.length cp) RW:: .box b6 (pL false):: .box b3 (fS t op f)::bs.map l8) (by rw [hmb]) ?_;have hms0:=hms1;rw [hmb,Bool.false_or] at hms1;refine y_ ?_;refine A.perm (Λ':= .mp bm [] []:: .row 4 (.slice (some ⟨bb,o,none⟩) l.length cp) RW:: .box b16 (oI q):: .box b6 (pL ms1):: .box b3 (fS t op f)::bs.map l8) (by rw [hms1];exact (List.Perm.cons _ (List.Perm.swap _ _ _))) ?_;refine A.aa 95 T (x':=AI (q.ends.length:Nat)) (aL nq) ?_;refine A.af [1,2,3,6,7,10,11,36,37,38,94,95,96] T ?_;refine l_ (Λ':= .mp bm [] []:: .row 4 (.slice (some ⟨bb,o,none⟩) l.length cp) RW:: .box b6 (pL ms1):: .box b3 (fS t op f)::bs.map l8) ?_;refine A.ae (ι:=Nat×List Value) (fun v=>(⟨[(1,pN l),(2,aF s),(3,aT b3),(6,aT b6),(7, .sl 1 (l.map LW) none),(10, .ms (.slice (some ⟨bb,o,none⟩) l.length cp) 4 l.length),(11,AI (i:Nat)),(36,pN l),(37,AI (l.length:Nat)),(38,AI (i:Nat)),(94, .sl 2 (q.ends.map cT) none),(95,AI (q.ends.length:Nat)),(96,AI (v.1:Nat))],[]⟩, .mp bm (eA (dC (q.ends.take v.1))) (dN (dC (q.ends.take v.1)) v.2):: .row 4 (.slice (some ⟨bb,o,none⟩) l.length cp) RW:: .box b6 (pL ms1):: .box b3 (fS t op f)::(v.2.map (aH.tail 1)++bs.map l8))) (fun v=>v.1<=q.ends.length/\v.2.length=(dC (q.ends.take v.1)).length) (fun v=>q.ends.length-v.1) (0,[]) ⟨aa4 _,rfl⟩ T fun v hv kh=>?_;obtain ⟨k,zs⟩:=v;obtain ⟨hk1,hk2⟩:=hv;simp only at hk1 hk2;refine y_ ?_
   by_cases hck:k<q.ends.length
   ·refine aX hck fun e he=>?_;have hgn:=FO he;refine eX (dC (q.ends.take k)) fun g hg=>?_;have hnod:(hC g).Nodup:=by rw [hg];exact (wJ _).nod
    rw [<-hg] at hk2 hgn;refine T_ T (by show decide ((k:Int)<(q.ends.length:Nat))=true;rw [dT];omega) ?_;refine j_ T (aC he) T ?_;refine b_ fun b18=>?_;refine y_ ?_;refine A.ab (Λ':= .box b18 (cT e):: .mp bm (eA g) (dN g zs):: .row 4 (.slice (some ⟨bb,o,none⟩) l.length cp) RW:: .box b6 (pL ms1):: .box b3 (fS t op f)::(zs.map (aH.tail 1)++bs.map l8)) (by rw [hg];rfl) ?_
    by_cases hke:e.1∈hC g
    ·obtain ⟨p,x1,hp,hx1⟩:=tG hke;refine ab4 (bT (l:=zs) (i:=p) (by rw [hk2];exact (aa8.1 hp).1)) fun zp hzp=>?_;obtain ⟨ZA,ZB,hzs,hzset⟩:=YL hzp;have hf:=(NM g e.1).2 p x1 hnod hp hx1;have hvx:(dN g zs)[p]? =some (.sl 1 (x1.2.map aF) (some zp)):=by rw [ae1,hp,hzp]
     have hat:(eA g)[p]? =some (WN e.1):=by rw [ab5,hp,<-hx1];rfl
     have hxl:(x1.2.map aF).length<=2000:=by rw [aa0,CI (r:=⟨0,q.ends.take k,false⟩) (p:=p) (x:=x1) (by rw [<-hp,hg])];unfold cI;rw [aa0];exact ae9 (ah4 ..) (by show (q.ends.take k).length<=_;rw [ac1];omega)
     refine A.perm (Λ':= .tail 1 zp:: .box b18 (cT e):: .mp bm (eA g) (dN g zs):: .row 4 (.slice (some ⟨bb,o,none⟩) l.length cp) RW:: .box b6 (pL ms1):: .box b3 (fS t op f)::((ZA++ZB).map (aH.tail 1)++bs.map l8)) (by rw [hzs];exact lZ [_,_,_,_,_] _ _ _ _) ?_;refine A.fv 18 1 zp 19 [0,1,2,3,4,5,6,7,8,9,10,11,12,13,14,15,16,17,18] (fun i=>if i=18 then [17] else []) [] (by decide) T (by kernel_rfl) ?_;refine w_ ?_;refine WA.ah T T T T T T T T T (by show (0:Int)<=(i:Nat);omega) (by show ((i:Nat):Int)<_;rw [hRl];omega) T ?_;refine WA.ew 102 T ?_;refine w_ ?_;refine WA.al i 1 T T T T T l.length cp o (by rw [ac7]) hai (y:= .v (.map (some bm))) T T ?_;refine w_ ?_;refine WA.ah T T T T T T T T T (by show (0:Int)<=(i:Nat);omega) (by show ((i:Nat):Int)<_;rw [hRl];omega) T ?_;refine WA.ew 109 T ?_;refine w_ ?_;refine WA.al i 1 T T T T T l.length cp o (by rw [ac7]) hai (y:= .v (.map (some bm))) T T ?_;refine w_ ?_;refine WA.ck T T T T T T T T T hf hvx T ?_;refine w_ ?_;refine WA.lit T T T T T T T fun bw=>?_;refine WA.append T T T T T T T T T T T T T T T T T T (.pub (j:=17) T T (.sub .refl)) (by show ((x1.2.map aF).length+1)*1<=_;omega) fun z'=>?_;refine WA.nil (l:=[.tail 1 z']) T ?_;refine A.ab (Λ':= .tail 1 z':: .box b18 (cT e):: .mp bm (eA g) (dN g zs):: .row 4 (.slice (some ⟨bb,o,none⟩) l.length cp) RW:: .box b6 (pL ms1):: .box b3 (fS t op f)::((ZA++ZB).map (aH.tail 1)++bs.map l8)) T ?_;refine A.dy T T T T T T T T T hf hat T ?_;refine y_ ?_;refine vI 96 k ?_;have hgs:dC (q.ends.take (k+1))=g.set p (x1.1,x1.2++[e.2]):=by rw [hgn,wI hnod hp hx1]
     refine A.ab (Λ':= .mp bm (eA (dC (q.ends.take (k+1)))) (dN (dC (q.ends.take (k+1))) (ZA++z'::ZB)):: .tail 1 z':: .box b18 (cT e):: .row 4 (.slice (some ⟨bb,o,none⟩) l.length cp) RW:: .box b6 (pL ms1):: .box b3 (fS t op f)::((ZA++ZB).map (aH.tail 1)++bs.map l8)) (by rw [hgs,FW (y:=(x1.1,x1.2++[e.2])) hp T,<-hzset,GV];show aH.mp bm _ ((dN g zs).set p (.sl 1 (x1.2.map aF++[aF e.2]) (some z')))::_=aH.mp bm _ ((dN g zs).set p (.sl 1 ((x1.2++[e.2]).map aF) (some z')))::_;rw [show (x1.2++[e.2]).map aF=x1.2.map aF++[aF e.2] by rw [ac0];rfl]) ?_
     refine A.less (Λ':= .mp bm (eA (dC (q.ends.take (k+1)))) (dN (dC (q.ends.take (k+1))) (ZA++z'::ZB)):: .tail 1 z':: .row 4 (.slice (some ⟨bb,o,none⟩) l.length cp) RW:: .box b6 (pL ms1):: .box b3 (fS t op f)::((ZA++ZB).map (aH.tail 1)++bs.map l8)) (.cons_cons _ (.cons_cons _ (.cons _ (.refl _)))) ?_;refine A.perm (Λ':= .mp bm (eA (dC (q.ends.take (k+1)))) (dN (dC (q.ends.take (k+1))) (ZA++z'::ZB)):: .row 4 (.slice (some ⟨bb,o,none⟩) l.length cp) RW:: .box b6 (pL ms1):: .box b3 (fS t op f)::((ZA++z'::ZB).map (aH.tail 1)++bs.map l8)) ((List.Perm.swap _ _ _).trans (lZ [_,_,_,_] _ _ _ _).symm) ?_;refine u_ (kh (k+1,ZA++z'::ZB) ⟨by show k+1<=_;omega,by
      show (ZA++z'::ZB).length=(dC (q.ends.take (k+1))).length;rw [hgs,ak6,<-hk2,hzs,aa1,aa1];rfl⟩ (by show _-(k+1)<_-k;omega))
    ·have hf:=(NM g e.1).1 hke;have hgs:dC (q.ends.take (k+1))=g++[(e.1,[e.2])]:=by rw [hgn,rZ hke]
     refine A.dz 1 0 none (fun _=>rfl) (fun x hx=>by cases hx) ?_;refine A.fv 18 1 (.slice none 0 0) 19 [0,1,2,3,4,5,6,7,8,9,10,11,12,13,14,15,16,17,18] (fun i=>if i=18 then [17] else []) [] (by decide) T (by kernel_rfl) ?_;refine w_ ?_;refine WA.ah T T T T T T T T T (by show (0:Int)<=(i:Nat);omega) (by show ((i:Nat):Int)<_;rw [hRl];omega) T ?_;refine WA.ew 102 T ?_;refine w_ ?_;refine WA.al i 1 T T T T T l.length cp o (by rw [ac7]) hai (y:= .v (.map (some bm))) T T ?_;refine w_ ?_;refine WA.ah T T T T T T T T T (by show (0:Int)<=(i:Nat);omega) (by show ((i:Nat):Int)<_;rw [hRl];omega) T ?_;refine WA.ew 109 T ?_;refine w_ ?_;refine WA.al i 1 T T T T T l.length cp o (by rw [ac7]) hai (y:= .v (.map (some bm))) T T ?_;refine w_ ?_;refine WA.aw T T T T T T T T T T T hf T ?_;refine WA.jo 114 T (x':= .sl 1 [] (some (.slice none 0 0))) (fun h y r=>PT 1 r) ?_;refine w_ ?_;refine WA.lit T T T T T T T fun bw=>?_;refine WA.append T T T T T T T T T T T T T T T T T T (.pub (j:=17) T T (.sub .refl)) (by show (0+1)*1<=1073741824;decide) fun z'=>?_;refine WA.nil (l:=[.tail 1 z']) T ?_;refine A.ab (Λ':= .tail 1 z':: .box b18 (cT e):: .mp bm (eA g) (dN g zs):: .row 4 (.slice (some ⟨bb,o,none⟩) l.length cp) RW:: .box b6 (pL ms1):: .box b3 (fS t op f)::(zs.map (aH.tail 1)++bs.map l8)) T ?_;refine A.cz T T T T T T T T T hf T ?_;refine y_ ?_;refine vI 96 k ?_;refine A.ab (Λ':= .mp bm (eA (dC (q.ends.take (k+1)))) (dN (dC (q.ends.take (k+1))) (zs++[z'])):: .tail 1 z':: .box b18 (cT e):: .row 4 (.slice (some ⟨bb,o,none⟩) l.length cp) RW:: .box b6 (pL ms1):: .box b3 (fS t op f)::(zs.map (aH.tail 1)++bs.map l8)) (by rw [hgs,EC hk2];show _=aH.mp bm ((g++[(e.1,[e.2])]).map fun x=>WN x.1) _::_;rw [ac0];rfl) ?_
     refine A.less (Λ':= .mp bm (eA (dC (q.ends.take (k+1)))) (dN (dC (q.ends.take (k+1))) (zs++[z'])):: .tail 1 z':: .row 4 (.slice (some ⟨bb,o,none⟩) l.length cp) RW:: .box b6 (pL ms1):: .box b3 (fS t op f)::(zs.map (aH.tail 1)++bs.map l8)) (.cons_cons _ (.cons_cons _ (.cons _ (.refl _)))) ?_;refine A.perm (Λ':= .mp bm (eA (dC (q.ends.take (k+1)))) (dN (dC (q.ends.take (k+1))) (zs++[z'])):: .row 4 (.slice (some ⟨bb,o,none⟩) l.length cp) RW:: .box b6 (pL ms1):: .box b3 (fS t op f)::((zs++[z']).map (aH.tail 1)++bs.map l8)) ((List.Perm.swap _ _ _).trans (by have:=(lZ [aH.mp bm (eA (dC (q.ends.take (k+1)))) (dN (dC (q.ends.take (k+1))) (zs++[z'])), .row 4 (.slice (some ⟨bb,o,none⟩) l.length cp) RW, .box b6 (pL ms1), .box b3 (fS t op f)] (bs.map l8) zs [] z').symm;rw [aa9] at this;exact this)) ?_
     refine u_ (kh (k+1,zs++[z']) ⟨by show k+1<=_;omega,by
      show (zs++[z']).length=(dC (q.ends.take (k+1))).length;rw [hgs,aa1,aa1,hk2];rfl⟩ (by show _-(k+1)<_-k;omega))
   refine A.gF T (by show decide ((k:Int)<(q.ends.length:Nat))=false;rw [dF];omega) ?_;have hkt:q.ends.take k=q.ends:=aa6 (by omega);rw [hkt] at hk2;clear kh;refine ab4 (show∃bs':List BR,bs'=bs++[⟨aB x,bm,zs,q⟩] from ⟨_,rfl⟩) fun bs' hbs'=>?_;have hbl:bs'.length=i+1:=by rw [hbs',aa1,hi];rfl
   refine A.ab (Λ':= .mp bm (eA (dC q.ends)) (dN (dC q.ends) zs):: .row 4 (.slice (some ⟨bb,o,none⟩) l.length cp) RW:: .box b6 (pL ms1):: .box b3 (fS t op f)::(zs.map (aH.tail 1)++bs.map l8)) (by show aH.mp bm (eA (dC (q.ends.take k))) (dN (dC (q.ends.take k)) zs)::_=_;rw [hkt]) ?_;refine A.less (Λ':= .mp bm (eA (dC q.ends)) (dN (dC q.ends) zs):: .row 4 (.slice (some ⟨bb,o,none⟩) l.length cp) RW:: .box b6 (pL ms1):: .box b3 (fS t op f)::bs.map l8) (.cons_cons _ (.cons_cons _ (.cons_cons _ (.cons_cons _ (ag4 ..))))) ?_;refine A.perm (Λ':= .row 4 (.slice (some ⟨bb,o,none⟩) l.length cp) (oA l.length bs'):: .box b6 (pL ((tK bs').any (·.miss))):: .box b3 (fS t op f)::bs'.map l8) (by
    have e1:oA l.length bs'=RW:=by rw [hRW,hbs',hb0];unfold oA;rw [ac0,ac0,aa1,aa1];rfl
    have e2:(tK bs').any (·.miss)=ms1:=by rw [hms0,hbs'];show ((bs++[_]).map BR.r).any _=_;rw [ac0,aq1];show ((bs.map BR.r).any _||(q.miss||false))=_;rw [an9]
    rw [e1,e2,hbs',ac0];exact (ae8 _ _).symm) ?_
   refine y_ ?_;refine A.aa 38 T (x':=AI (bs'.length:Nat)) (aL (by rw [hbl];show IntKind.i64.wrap (((i:Nat):Int)+1)=((i+1:Nat):Int);rw [fR _ (by omega)];rfl)) ?_;refine u_ (ih bs' ⟨by omega,?_,?_,?_⟩ (by omega))
   ·rw [hbl,mQ (by rw [hi];exact hx),ac0,hbs'];show (bs++[_]).map _=_;rw [ac0];show uQ bs++_=_;rw [hb2,hi];rfl
   ·rw [hbl,mQ hqs,hbs'];show (bs++[_]).map _=_;rw [ac0];show tK bs++_=_;rw [hb3,hi];rfl
   ·rw [hbs'];intro b hb;rcases ad8.1 hb with hb|hb
    ·exact hb4 b hb
    ·rw [ab0.1 hb];exact hk2
 refine A.gF T (by show decide ((bs.length:Int)<(l.length:Nat))=false;rw [dF];omega) ?_;clear ih;have hbl:bs.length=l.length:=by omega
 have hcB:uQ bs=l.map aB:=by rw [hb2,hbl,ac4]
 have hRl:RS.length=l.length:=by rw [hRS,mW]
 have hrB:tK bs=RS:=by rw [hb3,hbl,<-hRl,ac4]
 refine eX (RS.any (·.miss)) fun ms hms=>?_;refine ab4 (show∃cn0:List Nat,cn0=bs.map fun _=>0 from ⟨_,rfl⟩) fun cn0 hcn0=>?_;refine ab4 (show∃z:Value,z= .slice a l.length cp from ⟨_,rfl⟩) fun zb hzb=>?_;have hat: ∀(i:Nat) b,bs[i]? =some b-> ∃x,x∈l/\b.ch=aB x/\b.r=cG f (gB op (l.map aB) i) (bX t (aB x)) s x:=fun i b hb=>by
  have hi:i<bs.length:=(aa8.1 hb).1;refine ab4 (bT (l:=l) (i:=i) (by omega)) fun x hx=>⟨x,aa2 hx,?_,?_⟩
  ·have h1:(uQ bs)[i]? =some b.ch:=by rw [ab5,hb];rfl
   rw [hcB,ab5,hx] at h1;injection h1 with h1;exact h1.symm
  ·have h1:(tK bs)[i]? =some b.r:=by rw [ab5,hb];rfl
   rw [hrB,hRS,rP,hx,ag9,ab5,hx] at h1;injection h1 with h1;exact h1.symm
 have hbo:TY V bs:=by
  refine ⟨fun b hb=>?_,by omega⟩;obtain ⟨i,hi,rfl⟩:=ah7 hb;obtain ⟨x,hx,h1,h2⟩:=hat i _ (aa7 hi);have hol:=sM t (aB x);refine ⟨?_,?_,?_,hb4 _ hb,?_⟩
  ·rw [h2];exact H9 (I.un x hx) f _ _ s (C9 ht _) hs
  ·rw [h2];have:=((QG x).wf f (gB op (l.map aB) i) (bX t (aB x)) s).len;omega
  ·rw [h1];have:=cJ x;have:=nM hx;have:=I.op;omega
  ·rw [h2];have:=tI x f (gB op (l.map aB) i) (bX t (aB x)) s;have:=jW I.way hx;omega
 have hpw:dA (RS.map fun r=>r.ends.length)<=cW l f:=wX hRl fun i p r hp hr=>by rw [hRS,rP,hp] at hr;injection hr with hr;rw [<-hr];exact tI p f _ _ s
 have hpr: ∀cn:List Nat,cn.length=bs.length->(dD s (mL bs cn) s).length<=2000:=fun cn hc=>by rw [qD];have h1:dA ((mL bs cn).map List.length)<=dA ((tK bs).map fun r=>r.ends.length):=JH (by rw [hc,aa0]);rw [hrB] at h1;have:=I.way;omega
 have hpo: ∀cn:List Nat,∀x,x∈dD s (mL bs cn) s->bI V x:=fun cn=>BE _ s (fun b' hb' y hy=>by obtain ⟨j,hj,rfl⟩:=ah7 hb';rw [as0] at hy;have hm:=kE.1 hy;rw [List.getElem_map] at hm;exact (hbo.wf _ (aj3 _)).1 _ hm) hs
 have hmeet:=fun cn n z m r h1 h2 h3 h4=>meet_p (V:=V) zb bs cn b6 n s hs hbo h1 h2 z m r h3 h4;refine A.aa 10 T (x':= .ms zb 4 bs.length) (by rw [hzb,hbl]) ?_;refine A.ab (Λ':= .row 4 zb (lE bs cn0):: .box b6 (pL ms):: .box b3 (fS t op f)::bs.map l8) (by rw [hrB,<-hms,X4 hbl,hzb,hcn0]) ?_;refine A.bn (b:=b6) (x':= .ag [AI 0, .ms (.slice none 0 0) 2 0, .v (.map none),AB ms]) (.swap _ _ _) (QF _ _) ?_;refine A.av 2 ?_;refine A.perm (Λ':=bsE zb bs cn0 b6 (.slice none 0 0) 0 ⟨0,[],ms⟩++[.box b3 (fS t op f)]) (perm4 _ _ _ _ _) ?_;have hcl0:cn0.length=bs.length:=by rw [hcn0,aa0]
 have hp0:=hpr cn0 hcl0;refine y_ ?_;refine A.e T (hmeet cn0 0 (.slice none 0 0) 0 ⟨0,[],ms⟩ hcl0 (aa4 _) ⟨⟨fun e he=>by cases he⟩,aa4 _⟩ (by show 0+(dD s (mL bs cn0) s).length<=_;omega)) s_ (Λ2:=[.box b3 (fS t op f)]) (.refl _) fun v0 _=>?_;refine eX (fC s (tK bs) cn0 0 ⟨0,[],ms⟩) fun r1 hr1=>?_;refine A.perm (Λ':= .box b3 (fS t op f)::bsE zb bs cn0 b6 v0.1 v0.2 r1) (by rw [hr1];exact ae8 _ _) ?_;have nt:=iS t;have hPM1:PM=mB (uQ bs) (tK bs) s t 0 cn0 r1:=by rw [hPM,hr1,hcB,hrB,hms,hcn0,<-vF];unfold qW;congr 1;rw [<-hcB];simp
 have hr1ok:rN V r1:=by rw [hr1];exact wW (r:=⟨0,[],ms⟩) ⟨⟨fun e he=>by cases he⟩,aa4 _⟩ (hpo cn0) (aa4 _) (by show 0+(dD s (mL bs cn0) s).length<=_;omega)
 have hr1l:r1.ends.length<=2000:=by rw [hr1];have:(iH 0 (dD s (mL bs cn0) s) []).length<=0+_:=mA (m:=0) (dD s (mL bs cn0) s) [];show (iH 0 (dD s (mL bs cn0) s) []).length<=_;omega
 refine y_ ?_;refine A.aa 126 T (x':=AI (t.length:Nat)) (aL nt) ?_;refine A.af [2,3,6,10,125,126,127] T ?_;refine A.ae (ι:=Nat×List Nat×RN×Value×Nat) (fun u=>(⟨[(2,aF s),(3,aT b3),(6,aT b6),(10, .ms zb 4 bs.length),(125,lI t),(126,AI (t.length:Nat)),(127,AI (u.1:Nat))],[]⟩, .box b3 (fS t op f)::bsE zb bs u.2.1 b6 u.2.2.2.1 u.2.2.2.2 u.2.2.1)) (fun u=>u.1<=t.length/\PM=mB (uQ bs) (tK bs) s (t.drop u.1) u.1 u.2.1 u.2.2.1/\u.2.1.length=bs.length/\rN V u.2.2.1/\Below bs u.2.1/\u.2.2.1.ends.length<=(u.1+1)*2000) (fun u=>t.length-u.1) (0,cn0,r1,v0.1,v0.2) ⟨aa4 _,hPM1,hcl0,hr1ok,fun i b n hb hn=>by
  have hn:cn0[i]? =some n:=hn;rw [hcn0,ab5] at hn;cases hb2:bs[i]? with
  |none=>rw [hb2] at hn;cases hn |some b'=>rw [hb2] at hn;injection hn with hn;have hn:(0:Nat)=n:=hn;omega,by show _<=(0+1)*2000;omega⟩ T fun u hu uh=>?_
 obtain ⟨j,cn,r,z,m⟩:=u;obtain ⟨hj,hPj,hcl,hro,hBl,hrl⟩:=hu;simp only at hj hPj hcl hro hBl hrl;refine y_ ?_
 by_cases hcj:j<t.length
 ·refine aX hcj fun e he=>?_;have hst:=step_p zb bs cn e.1 hcl (by omega) hBl (fun b hb=>by have:=hbo.wf b hb;exact ⟨by omega,this.2.2.1⟩);rw [cB he] at hPj;refine T_ T (by show decide ((j:Int)<(t.length:Nat))=true;rw [dT];omega) ?_;refine j_ T (aC he) T ?_;refine b_ fun b20=>?_;refine y_ ?_;refine A.less (Λ':= .box b3 (fS t op f)::bsE zb bs cn b6 z m r) (.cons _ (.refl _)) ?_;refine A.e T hst s_ (Λ2:= .box b3 (fS t op f)::(nN b6 z m r++bs.map l8)) (.swap _ _ _) fun u hu=>?_;obtain ⟨ub,cn'⟩:=u;obtain ⟨hu1,hu2,hu3⟩:=hu;simp only at hu1 hu2 hu3;cases ub with
  |true=>
   have hcs:=hu1.symm;have hc':=hu3 T;rw [B5 hcs,<-hc'] at hPj;have hp':=hpr cn' hu2;have hq1:rN V (fC s (tK bs) cn' (j+1) r):=wW (r:=⟨j+1,r.ends,r.miss⟩) ⟨hro.ends,hro.len⟩ (hpo cn') (by omega) (by show r.ends.length+(dD s (mL bs cn') s).length<=_;omega);have hq2:(fC s (tK bs) cn' (j+1) r).ends.length<=(j+1+1)*2000:=by have:(iH (j+1) (dD s (mL bs cn') s) r.ends).length<=r.ends.length+_:=mA (m:=j+1) (dD s (mL bs cn') s) r.ends;show (iH (j+1) (dD s (mL bs cn') s) r.ends).length<=_;omega
   have hq3:Below bs cn':=fun i b n hb hn=>by rw [hc'] at hn;exact D8 hcs i n b.r hn (by rw [ab5,hb];rfl)
   refine e_ 135 T (x':=AB true) T ?_;refine vI 139 j ?_;refine A.e T (hmeet cn' (j+1) z m r hu2 (by omega) hro (by show r.ends.length+(dD s (mL bs cn') s).length<=_;omega)) s_ (Λ2:=[.box b3 (fS t op f)]) (List.Perm.cons _ (ae8 _ _).symm) fun v _=>?_;refine A.perm (Λ':= .box b3 (fS t op f)::bsE zb bs cn' b6 v.1 v.2 (fC s (tK bs) cn' (j+1) r)) (ae8 _ _) ?_;refine y_ ?_;refine vI 127 j ?_;refine u_ (uh (j+1,cn',fC s (tK bs) cn' (j+1) r,v.1,v.2) ⟨by show j+1<=_;omega,hPj,hu2,hq1,hq3,hq2⟩ (by show _-(j+1)<_-j;omega))
  |false=>
   rw [qN hu1.symm] at hPj;refine A.aa 135 T (x':=AB false) T ?_;refine A.ab (Λ':= .row 4 zb (lE bs cn'):: .box b3 (fS t op f):: .box b6 (yX z m r):: .row 2 z (r.ends.map cT)::(ES m r.ends++bs.map l8)) T ?_;refine A.less (Λ':=[.box b6 (yX z m r), .row 2 z (r.ends.map cT)]) (.cons _ (.cons _ (.cons_cons _ (.cons_cons _ (ae0 _))))) ?_;refine A.ab (Λ':=[.box b6 (yX z m PM), .row 2 z (PM.ends.map cT)]) (by rw [hPj]) ?_;refine A.ak 6 z (x':=oI _) T (AG z m _) ?_;refine y_ ?_;refine C_ ?_;exact s_
 ·refine A.gF T (by show decide ((j:Int)<(t.length:Nat))=false;rw [dF];omega) ?_;rw [ad3 (by omega:t.length<=j),mB] at hPj;refine A.ab (Λ':= .box b3 (fS t op f):: .row 4 zb (lE bs cn):: .box b6 (yX z m r):: .row 2 z (r.ends.map cT)::(ES m r.ends++bs.map l8)) T ?_;refine A.less (Λ':=[.box b6 (yX z m r), .row 2 z (r.ends.map cT)]) (.cons _ (.cons _ (.cons_cons _ (.cons_cons _ (ae0 _))))) ?_;refine A.ab (Λ':=[.box b6 (yX z m PM), .row 2 z (PM.ends.map cT)]) (by rw [hPj]) ?_;refine A.ak 6 z (x':=oI _) T (AG z m _) ?_;refine y_ ?_;refine C_ ?_;exact s_
structure Bel(l:List Int)(c:Int)(i:Nat):Prop where
 le:i<=l.length
 lt: ∀j y,j<i->l[j]? =some y->y<c
theorem CO{c:Int}: ∀{l:List Int} {i:Nat},Bel l c i->(∀y,l[i]? =some y->c<=y)->kG j8 l c=if l[i]? =some c then l else l.take i++[c]++l.drop i
 | [],0,_,_=>by simp [kG] | [],i+1,h,_=>by have:=h.le;simp at this
 |y::r,0,_,h=>by
  have:=h y T;rw [kG,show j8 y c=false by simp [j8];omega]
  by_cases e:y=c
  ·simp [e]
  ·simp [e]
 |y::r,i+1,hb,h=>by
  have h1:=hb.lt 0 y (by omega) T;have ih:=CO (l:=r) (i:=i) ⟨by have:=hb.le;simpa using this,fun j z hj hz=>hb.lt (j+1) z (by omega) (by simpa using hz)⟩ (fun z hz=>h z (by simpa using hz));rw [kG,iT (show j8 y c=true by simpa [j8] using h1),ih]
  by_cases e:r[i]? =some c
  ·simp [e]
  ·simp [e]
theorem Bel.next{l:List Int}{c y:Int}{i:Nat}(h:Bel l c i)(hy:l[i]? =some y)(hl:y<c):Bel l c (i+1):=by
 have hi:i<l.length:=(aa8.1 hy).1;refine ⟨hi,fun j z hj hz=>?_⟩
 by_cases e:j=i
 ·subst e;rw [hy] at hz;injection hz with hz;subst hz;exact hl
 ·exact h.lt j z (by omega) hz
structure Ins where
 i:Nat
 d:Bool
 out:List Int
 z:Value
theorem lX(l:List Int)(c:Int)(hl:l.length<=2097152):Pure prog aU 143 [aQ l,AI c] (aQ (kG j8 l c)):=by
 have nl:((l.map AI).length:Int)=l.length:=by rw [aa0]
 refine eX (kG j8 l c) fun R hR=>?_;rw [<-hR];have hRl:R.length<=l.length+1:=by rw [hR];exact uW l c
 refine P_ func143 48 fun _ _ _ _=>?_;refine y_ ?_;refine A.bo 5 1 T fun z0=>?_;refine A.af [0,1,5,6,7] T ?_;refine A.ae (ι:=Ins) (fun u=>(⟨[(0,aQ l),(1,AI c),(5, .ms u.z 1 u.out.length),(6,AB u.d),(7,AI (u.i:Nat))],[]⟩,[.row 1 u.z (u.out.map AI)])) (fun u=>u.i<=l.length/\if u.d=true then u.out++l.drop u.i=R else Bel l c u.i/\u.out=l.take u.i) (fun u=>l.length-u.i) ⟨0,false,[],z0⟩ ⟨aa4 _,by show (if false=true then _ else Bel l c 0/\([]:List Int)=l.take 0);rw [iF (by decide)];exact ⟨⟨aa4 _,fun j y hj=>absurd hj (Nat.not_lt_zero _)⟩,rfl⟩⟩ T fun u hu ih=>?_;obtain ⟨i,d,out,z⟩:=u;obtain ⟨hi,hu⟩:=hu;simp only at hi hu;have hol:out.length<=l.length+1:=by
  cases d with
  |true=>
   rw [iT T] at hu;have:=congrArg List.length hu;rw [aa1] at this;omega
  |false=>
   rw [iF (by decide)] at hu;rw [hu.2,ac1];omega
 have no:(out.map AI).length=out.length:=aa0 ..;refine y_ ?_
 by_cases hci:i<l.length
 ·refine aX hci fun y hy=>?_;have hdr:=cB hy;have htk:=takeN hy;refine A.gT T (by show decide ((i:Int)<((l.map AI).length:Int))=true;rw [nl,dT];omega) ?_;cases d with
  |true=>
   rw [iT T] at hu;refine y_ ?_;refine j_ T (aC hy) T ?_;refine t_ fun bl=>?_;refine A.aj T T T T T T T T T T T T T T (by show ((out.map AI).length+1)*1<=_;rw [no];omega) (by show ((out.map AI).length+1)*1*8<=_;rw [no];omega) fun z2=>?_;refine y_ ?_;refine vI 7 i ?_;refine A.aa 5 T (x':= .ms z2 1 (out++[y]).length) (by rw [aa1,aa0];rfl) ?_;refine A.ab (Λ':=[.row 1 z2 ((out++[y]).map AI)]) (by rw [ac0];rfl) ?_;refine u_ (ih ⟨i+1,true,out++[y],z2⟩ ⟨by show i+1<=_;omega,by rw [iT T,ab2];rw [hdr] at hu;exact hu⟩ (by show _-(i+1)<_-i;omega))
  |false=>
   rw [iF (by decide)] at hu;obtain ⟨hb,ho⟩:=hu;have hat:c<=y->R=if y=c then l else l.take i++[c]++l.drop i:=fun h=>by
    rw [hR,CO hb (fun y' h'=>by rw [hy] at h';injection h' with h';omega),hy]
    by_cases e:y=c
    ·rw [iT (by rw [e]),iT e]
    ·rw [iF (fun h'=>e (by injection h')),iF e]
   refine y_ ?_;refine i_ T (aC hy) T ?_
   by_cases hcy:c<=y
   ·have hat:=hat hcy;refine e_ 23 T (x':=AB true) (aA (by simpa using hcy)) ?_;refine i_ T (aC hy) T ?_
    by_cases hlt:c<y
    ·rw [iF (by omega)] at hat;refine A.gT T (by simpa using hlt) ?_;refine t_ fun bl=>?_;refine A.aj T T T T T T T T T T T T T T (by show ((out.map AI).length+1)*1<=_;rw [no];omega) (by show ((out.map AI).length+1)*1*8<=_;rw [no];omega) fun z2=>?_;refine y_ ?_;refine j_ T (aC hy) T ?_;refine t_ fun bl=>?_;refine A.aj T T T T T T T T T T T T T T (by show ((out.map AI++[AI c]).length+1)*1<=_;rw [aa1,no];show (_+1+1)*1<=_;omega) (by show ((out.map AI++[AI c]).length+1)*1*8<=_;rw [aa1,no];show (_+1+1)*1*8<=_;omega) fun z3=>?_;refine y_ ?_;refine vI 7 i ?_;refine A.aa 5 T (x':= .ms z3 1 (out++[c]++[y]).length) (by rw [show (out++[c]++[y]).length=out.length+1+1 by simp];show AV.ms z3 1 ((out.map AI++[AI c]).length+1)=_;rw [aa1,aa0];rfl) ?_;refine A.ab (Λ':=[.row 1 z3 ((out++[c]++[y]).map AI)]) (by rw [ac0,ac0];rfl) ?_;refine u_ (ih ⟨i+1,true,out++[c]++[y],z3⟩ ⟨by show i+1<=_;omega,by rw [iT T,hat,ho,hdr,ab2];rfl⟩ (by show _-(i+1)<_-i;omega))
    ·rw [iT (by omega)] at hat;refine F_ T (by simpa using hlt) ?_;refine j_ T (aC hy) T ?_;refine t_ fun bl=>?_;refine A.aj T T T T T T T T T T T T T T (by show ((out.map AI).length+1)*1<=_;rw [no];omega) (by show ((out.map AI).length+1)*1*8<=_;rw [no];omega) fun z2=>?_;refine y_ ?_;refine vI 7 i ?_;refine A.aa 5 T (x':= .ms z2 1 (out++[y]).length) (by rw [aa1,aa0];rfl) ?_;refine A.ab (Λ':=[.row 1 z2 ((out++[y]).map AI)]) (by rw [ac0];rfl) ?_;refine u_ (ih ⟨i+1,true,out++[y],z2⟩ ⟨by show i+1<=_;omega,by rw [iT T,hat,ho,<-htk,ae3]⟩ (by show _-(i+1)<_-i;omega))
   ·refine e_ 23 T (x':=AB false) (aA (by simpa using hcy)) ?_;refine j_ T (aC hy) T ?_;refine t_ fun bl=>?_;refine A.aj T T T T T T T T T T T T T T (by show ((out.map AI).length+1)*1<=_;rw [no];omega) (by show ((out.map AI).length+1)*1*8<=_;rw [no];omega) fun z2=>?_;refine y_ ?_;refine vI 7 i ?_;refine A.aa 5 T (x':= .ms z2 1 (out++[y]).length) (by rw [aa1,aa0];rfl) ?_;refine A.ab (Λ':=[.row 1 z2 ((out++[y]).map AI)]) (by rw [ac0];rfl) ?_;refine u_ (ih ⟨i+1,false,out++[y],z2⟩ ⟨by show i+1<=_;omega,by show (if false=true then _ else Bel l c (i+1)/\out++[y]=l.take (i+1));rw [iF (by decide)];exact ⟨hb.next hy (by omega),by rw [ho,htk]⟩⟩ (by show _-(i+1)<_-i;omega))
 ·refine A.gF T (by show decide ((i:Int)<((l.map AI).length:Int))=false;rw [nl,dF];omega) ?_;clear ih;cases d with
  |true=>
   rw [iT T,ad3 (by omega),aa9] at hu;refine A.ab (Λ':=[.row 1 z (R.map AI)]) (by rw [hu]) ?_;refine A.aa 5 T (x':= .ms z 1 R.length) (by rw [hu]) ?_;refine A.ar 5 T ?_;exact tV
  |false=>
   rw [iF (by decide)] at hu;obtain ⟨hb,ho⟩:=hu;have hR2:R=out++[c]:=by rw [hR,CO hb (fun y' h'=>by rw [ac6 (by omega)] at h';cases h'),iF (by rw [ac6 (by omega)];intro h;cases h),ad3 (by omega),aa9,ho]
   refine t_ fun bl=>?_;refine A.aj T T T T T T T T T T T T T T (by show ((out.map AI).length+1)*1<=_;rw [no];omega) (by show ((out.map AI).length+1)*1*8<=_;rw [no];omega) fun z2=>?_;refine A.ab (Λ':=[.row 1 z2 (R.map AI)]) (by rw [hR2,ac0];rfl) ?_;refine A.aa 46 T (x':= .ms z2 1 R.length) (by rw [hR2,aa1,aa0];rfl) ?_;refine A.ar 46 T ?_;exact tV
theorem asc19(l:List Int):tQ j8 (bS l):=nO wT List.Pairwise.nil
theorem WY{l:List Int}{x:Int}:x∈bS l↔x∈l:=by unfold bS;rw [lV];simp
theorem kU(X Y:List Int):bW j8 (bS X) (bS Y)=bS (X++Y):=
 G2 wT (nO wT (asc19 X)) (asc19 _) fun z=>by rw [lV,WY,WY,WY,ad8]
theorem G5(X:List Int)(c:Int):kG j8 (bS X) c=bS (X++[c]):=by unfold bS;rw [pI];rfl
theorem kY{l m:List Int}{j:Nat}{c:Int}(h:m[j]? =some c):bW j8 l (m.take (j+1))=kG j8 (bW j8 l (m.take j)) c:=by rw [takeN h,pI];rfl
theorem jY(l:List Int):(bS l).length<=l.length:=by have:=cY (lt:=j8) l [];simpa [bS] using this
abbrev ZJ(p:PR):Prop:=Pure prog aU 101 [aE p] (aQ (aB p))
theorem XV(p:PR)(hs:SmR p)(hb:(dW p).length<=1048576)(hl: ∀x,x∈p.l->ZJ x)(hg: ∀g,g∈p.gs-> ∀x,x∈g.body->ZJ x):ZJ p:=by
 have n1:((aS p.l).length:Int)=p.l.length:=by rw [bP]
 have n2:((cA p.gs).length:Int)=p.gs.length:=by rw [cL]
 have hl8:=hs.ll;have hg8:=hs.gl;refine eX ((if p.kind=5\/p.kind=6 then [p.c] else [])) fun own hown=>?_;have hrl:=tJ p;rw [<-hown] at hrl;have hlen:own.length+((aI p.l).length+(aZ p.gs).length)<=1048576:=by rw [hrl,aa1,aa1] at hb;exact hb
 have hz0:=lX [] p.c (by decide);show Pure _ _ _ _ _;refine P_ func101 94 fun _ _ _ _=>?_;refine b_ fun b1=>?_;refine y_ ?_;refine A.val 3 T (x':=aQ []) .nil ?_
 by_cases h5:p.kind=5
 ·rw [iT (.inl h5)] at hown;rw [show kG j8 [] p.c=bS own by rw [hown];rfl] at hz0;refine e_ 15 T (x':=AB true) (aA (by simpa using h5)) ?_;refine c_ hz0 ?_;refine A.af [1,3,4] T ?_;refine A.ae (ι:=Nat) (fun i=>(⟨[(1,aT b1),(3,aQ (bS (own++aI (p.l.take i)))),(4,AI (i:Nat))],[]⟩,[.box b1 (aE p)])) (fun i=>i<=p.l.length) (fun i=>p.l.length-i) 0 (aa4 _) (by rw [ad1,aI,aa9];rfl) fun i hi ih=>?_;refine y_ ?_
  by_cases hci:i<p.l.length
  ·refine aX hci fun x hx=>?_;have hch:=hl x (aa2 hx);refine eX (own++aI (p.l.take i)) fun X hX=>?_;have hnx:bW j8 (bS X) (aB x)=bS (own++aI (p.l.take (i+1))):=by
    unfold aB;rw [kU,bR hx,hX,ab2]
   have hXl:X.length+(dW x).length<=1048576:=by have h1:=dL p.l (i+1);rw [bR hx,aa1] at h1;rw [hX,aa1];omega
   have nm:(((aB x).map AI).length:Int)=(aB x).length:=by rw [aa0]
   have hcx:=cJ x;refine T_ T (by show decide ((i:Int)<((aS p.l).length:Int))=true;rw [n1,dT];omega) ?_;refine i_ T (aV hx) (bC x) ?_;refine c_ hch ?_;refine A.aa 3 T (x':=aQ (bS X)) (by rw [hX]) ?_;refine A.af [1,3,4,5,6] T ?_;refine A.ae (ι:=Nat) (fun j=>(⟨[(1,aT b1),(3,aQ (bW j8 (bS X) ((aB x).take j))),(4,AI (i:Nat)),(5,aQ (aB x)),(6,AI (j:Nat))],[]⟩,[.box b1 (aE p)])) (fun j=>j<=(aB x).length) (fun j=>(aB x).length-j) 0 (aa4 _) T fun j hj jh=>?_;refine y_ ?_
   by_cases hcj:j<(aB x).length
   ·refine aX hcj fun c hc=>?_;have hins:=lX (bW j8 (bS X) ((aB x).take j)) c (by
     have h1:=cY (lt:=j8) ((aB x).take j) (bS X);have h2:=jY X;have h3:=cJ x;rw [ac1] at h1;omega)
    rw [<-kY hc] at hins;refine T_ T (by show decide ((j:Int)<(((aB x).map AI).length:Int))=true;rw [nm,dT];omega) ?_;refine i_ T (aC hc) T ?_;refine c_ hins ?_;refine vI 6 j ?_;refine u_ (jh (j+1) (by omega) (by omega))
   ·refine A.gF T (by show decide ((j:Int)<(((aB x).map AI).length:Int))=false;rw [nm,dF];omega) ?_;clear jh;refine e_ 3 T (x':=aQ (bS (own++aI (p.l.take (i+1))))) (by rw [aa6 (by omega),hnx]) ?_;refine vI 4 i ?_;refine u_ (ih (i+1) (by omega) (by omega))
  refine A.gF T (by show decide ((i:Int)<((aS p.l).length:Int))=false;rw [n1,dF];omega) ?_;clear ih;refine e_ 3 T (x':=aQ (bS (own++(aI p.l++aZ (p.gs.take 0))))) (by rw [aa6 (by omega),ad1,aZ,aa9]) ?_;refine A.af [1,3,7] T ?_;refine A.ae (ι:=Nat) (fun n=>(⟨[(1,aT b1),(3,aQ (bS (own++(aI p.l++aZ (p.gs.take n))))),(7,AI (n:Nat))],[]⟩,[.box b1 (aE p)])) (fun n=>n<=p.gs.length) (fun n=>p.gs.length-n) 0 (aa4 _) T fun n hn gh=>?_;refine y_ ?_
  by_cases hcn:n<p.gs.length
  ·refine aX hcn fun g hgn=>?_;have hgm:=aa2 hgn;have nb:((aS g.body).length:Int)=g.body.length:=by rw [bP]
   have hgr:=nL p.gs (n+1);rw [fI hgn,aa1,aa1] at hgr;have hgl:g.body.length<=140737488355328:=by have:=(kC (hs.g g hgm)).bb;omega
   refine eX (own++(aI p.l++aZ (p.gs.take n))) fun Z hZ=>?_;have hZl:Z.length+((if g.kind=3 then [g.c] else []).length+(aI g.body).length)<=1048576:=by rw [hZ,aa1,aa1];omega
   refine A.aa 3 T (x':=aQ (bS Z)) (by rw [hZ]) ?_;refine T_ T (by show decide ((n:Int)<((cA p.gs).length:Int))=true;rw [n2,dT];omega) ?_;refine j_ T (bZ hgn) (cK g) ?_;refine b_ fun b8=>?_;refine y_ ?_
   by_cases h3:g.kind=3
   ·rw [iT h3] at hZl;have hins:=lX (bS Z) g.c (by have:=jY Z;omega);rw [G5] at hins;refine eX (Z++[g.c]) fun Y0 hY0=>?_;have hY0l:Y0.length+(aI g.body).length<=1048576:=by rw [hY0,aa1];show _+1+_<=_;have:([g.c]:List Int).length=1:=rfl;omega
    have hY0e:Y0++aI g.body=own++(aI p.l++aZ (p.gs.take (n+1))):=by rw [fI hgn,iT h3,hY0,hZ];simp only [ab2]
    rw [<-hY0] at hins;refine T_ T (by show (g.kind==3)=true;simpa using h3) ?_;refine c_ hins ?_;refine A.af [1,3,7,8,9] T ?_;refine A.ae (ι:=Nat) (fun k=>(⟨[(1,aT b1),(3,aQ (bS (Y0++aI (g.body.take k)))),(7,AI (n:Nat)),(8,aT b8),(9,AI (k:Nat))],[]⟩,[.box b8 (fG g), .box b1 (aE p)])) (fun k=>k<=g.body.length) (fun k=>g.body.length-k) 0 (aa4 _) (by rw [ad1,aI,aa9];rfl) fun k hk kh=>?_;refine y_ ?_
    by_cases hck:k<g.body.length
    ·refine aX hck fun x hx=>?_;have hch:=hg g hgm x (aa2 hx);refine eX (Y0++aI (g.body.take k)) fun X hX=>?_;have hnx:bW j8 (bS X) (aB x)=bS (Y0++aI (g.body.take (k+1))):=by
      unfold aB;rw [kU,bR hx,hX,ab2]
     have hXl:X.length+(dW x).length<=1048576:=by have h1:=dL g.body (k+1);rw [bR hx,aa1] at h1;rw [hX,aa1];omega
     have nm:(((aB x).map AI).length:Int)=(aB x).length:=by rw [aa0]
     have hcx:=cJ x;refine T_ T (by show decide ((k:Int)<((aS g.body).length:Int))=true;rw [nb,dT];omega) ?_;refine i_ T (aV hx) (bC x) ?_;refine c_ hch ?_;refine A.aa 3 T (x':=aQ (bS X)) (by rw [hX]) ?_;refine A.af [1,3,7,8,9,10,11] T ?_;refine A.ae (ι:=Nat) (fun j=>(⟨[(1,aT b1),(3,aQ (bW j8 (bS X) ((aB x).take j))),(7,AI (n:Nat)),(8,aT b8),(9,AI (k:Nat)),(10,aQ (aB x)),(11,AI (j:Nat))],[]⟩,[.box b8 (fG g), .box b1 (aE p)])) (fun j=>j<=(aB x).length) (fun j=>(aB x).length-j) 0 (aa4 _) T fun j hj jh=>?_;refine y_ ?_
     by_cases hcj:j<(aB x).length
     ·refine aX hcj fun c hc=>?_;have hins:=lX (bW j8 (bS X) ((aB x).take j)) c (by
       have h1:=cY (lt:=j8) ((aB x).take j) (bS X);have h2:=jY X;have h3:=cJ x;rw [ac1] at h1;omega)
      rw [<-kY hc] at hins;refine T_ T (by show decide ((j:Int)<(((aB x).map AI).length:Int))=true;rw [nm,dT];omega) ?_;refine i_ T (aC hc) T ?_;refine c_ hins ?_;refine vI 11 j ?_;refine u_ (jh (j+1) (by omega) (by omega))
     ·refine A.gF T (by show decide ((j:Int)<(((aB x).map AI).length:Int))=false;rw [nm,dF];omega) ?_;clear jh;refine e_ 3 T (x':=aQ (bS (Y0++aI (g.body.take (k+1))))) (by rw [aa6 (by omega),hnx]) ?_;refine vI 9 k ?_;refine u_ (kh (k+1) (by omega) (by omega))
    ·refine A.gF T (by show decide ((k:Int)<((aS g.body).length:Int))=false;rw [nb,dF];omega) ?_;clear kh;refine e_ 3 T (x':=aQ (bS (own++(aI p.l++aZ (p.gs.take (n+1)))))) (by rw [aa6 (by omega),hY0e]) ?_;refine vI 7 n ?_;refine l_ (Λ':=[.box b1 (aE p)]) ?_;refine u_ (gh (n+1) (by omega) (by omega))
   ·rw [iF h3] at hZl;refine eX (Z) fun Y0 hY0=>?_;have hY0l:Y0.length+(aI g.body).length<=1048576:=by rw [hY0];have:([]:List Int).length=0:=rfl;omega
    have hY0e:Y0++aI g.body=own++(aI p.l++aZ (p.gs.take (n+1))):=by rw [fI hgn,iF h3,hY0,hZ];simp only [ab2,ag2]
    refine A.aa 3 T (x':=aQ (bS Y0)) (by rw [hY0]) ?_;refine F_ T (by show (g.kind==3)=false;simpa using h3) ?_;refine A.af [1,3,7,8,9] T ?_;refine A.ae (ι:=Nat) (fun k=>(⟨[(1,aT b1),(3,aQ (bS (Y0++aI (g.body.take k)))),(7,AI (n:Nat)),(8,aT b8),(9,AI (k:Nat))],[]⟩,[.box b8 (fG g), .box b1 (aE p)])) (fun k=>k<=g.body.length) (fun k=>g.body.length-k) 0 (aa4 _) (by rw [ad1,aI,aa9];rfl) fun k hk kh=>?_;refine y_ ?_
    by_cases hck:k<g.body.length
    ·refine aX hck fun x hx=>?_;have hch:=hg g hgm x (aa2 hx);refine eX (Y0++aI (g.body.take k)) fun X hX=>?_;have hnx:bW j8 (bS X) (aB x)=bS (Y0++aI (g.body.take (k+1))):=by
      unfold aB;rw [kU,bR hx,hX,ab2]
     have hXl:X.length+(dW x).length<=1048576:=by have h1:=dL g.body (k+1);rw [bR hx,aa1] at h1;rw [hX,aa1];omega
     have nm:(((aB x).map AI).length:Int)=(aB x).length:=by rw [aa0]
     have hcx:=cJ x;refine T_ T (by show decide ((k:Int)<((aS g.body).length:Int))=true;rw [nb,dT];omega) ?_;refine i_ T (aV hx) (bC x) ?_;refine c_ hch ?_;refine A.aa 3 T (x':=aQ (bS X)) (by rw [hX]) ?_;refine A.af [1,3,7,8,9,10,11] T ?_;refine A.ae (ι:=Nat) (fun j=>(⟨[(1,aT b1),(3,aQ (bW j8 (bS X) ((aB x).take j))),(7,AI (n:Nat)),(8,aT b8),(9,AI (k:Nat)),(10,aQ (aB x)),(11,AI (j:Nat))],[]⟩,[.box b8 (fG g), .box b1 (aE p)])) (fun j=>j<=(aB x).length) (fun j=>(aB x).length-j) 0 (aa4 _) T fun j hj jh=>?_;refine y_ ?_
     by_cases hcj:j<(aB x).length
     ·refine aX hcj fun c hc=>?_;have hins:=lX (bW j8 (bS X) ((aB x).take j)) c (by
       have h1:=cY (lt:=j8) ((aB x).take j) (bS X);have h2:=jY X;have h3:=cJ x;rw [ac1] at h1;omega)
      rw [<-kY hc] at hins;refine T_ T (by show decide ((j:Int)<(((aB x).map AI).length:Int))=true;rw [nm,dT];omega) ?_;refine i_ T (aC hc) T ?_;refine c_ hins ?_;refine vI 11 j ?_;refine u_ (jh (j+1) (by omega) (by omega))
     ·refine A.gF T (by show decide ((j:Int)<(((aB x).map AI).length:Int))=false;rw [nm,dF];omega) ?_;clear jh;refine e_ 3 T (x':=aQ (bS (Y0++aI (g.body.take (k+1))))) (by rw [aa6 (by omega),hnx]) ?_;refine vI 9 k ?_;refine u_ (kh (k+1) (by omega) (by omega))
    ·refine A.gF T (by show decide ((k:Int)<((aS g.body).length:Int))=false;rw [nb,dF];omega) ?_;clear kh;refine e_ 3 T (x':=aQ (bS (own++(aI p.l++aZ (p.gs.take (n+1)))))) (by rw [aa6 (by omega),hY0e]) ?_;refine vI 7 n ?_;refine l_ (Λ':=[.box b1 (aE p)]) ?_;refine u_ (gh (n+1) (by omega) (by omega))
  refine A.gF T (by show decide ((n:Int)<((cA p.gs).length:Int))=false;rw [n2,dF];omega) ?_;clear gh;refine e_ 3 T (x':=aQ (aB p)) (by rw [aa6 (by omega)];unfold aB;rw [hrl]) ?_;exact r_
 ·by_cases h6:p.kind=6
  ·rw [iT (.inr h6)] at hown;rw [show kG j8 [] p.c=bS own by rw [hown];rfl] at hz0;refine e_ 15 T (x':=AB false) (aA (by simpa using h5)) ?_;refine T_ T (by simpa using h6) ?_;refine c_ hz0 ?_;refine A.af [1,3,4] T ?_;refine A.ae (ι:=Nat) (fun i=>(⟨[(1,aT b1),(3,aQ (bS (own++aI (p.l.take i)))),(4,AI (i:Nat))],[]⟩,[.box b1 (aE p)])) (fun i=>i<=p.l.length) (fun i=>p.l.length-i) 0 (aa4 _) (by rw [ad1,aI,aa9];rfl) fun i hi ih=>?_;refine y_ ?_
   by_cases hci:i<p.l.length
   ·refine aX hci fun x hx=>?_;have hch:=hl x (aa2 hx);refine eX (own++aI (p.l.take i)) fun X hX=>?_;have hnx:bW j8 (bS X) (aB x)=bS (own++aI (p.l.take (i+1))):=by
     unfold aB;rw [kU,bR hx,hX,ab2]
    have hXl:X.length+(dW x).length<=1048576:=by have h1:=dL p.l (i+1);rw [bR hx,aa1] at h1;rw [hX,aa1];omega
    have nm:(((aB x).map AI).length:Int)=(aB x).length:=by rw [aa0]
    have hcx:=cJ x;refine T_ T (by show decide ((i:Int)<((aS p.l).length:Int))=true;rw [n1,dT];omega) ?_;refine i_ T (aV hx) (bC x) ?_;refine c_ hch ?_;refine A.aa 3 T (x':=aQ (bS X)) (by rw [hX]) ?_;refine A.af [1,3,4,5,6] T ?_;refine A.ae (ι:=Nat) (fun j=>(⟨[(1,aT b1),(3,aQ (bW j8 (bS X) ((aB x).take j))),(4,AI (i:Nat)),(5,aQ (aB x)),(6,AI (j:Nat))],[]⟩,[.box b1 (aE p)])) (fun j=>j<=(aB x).length) (fun j=>(aB x).length-j) 0 (aa4 _) T fun j hj jh=>?_;refine y_ ?_
    by_cases hcj:j<(aB x).length
    ·refine aX hcj fun c hc=>?_;have hins:=lX (bW j8 (bS X) ((aB x).take j)) c (by
      have h1:=cY (lt:=j8) ((aB x).take j) (bS X);have h2:=jY X;have h3:=cJ x;rw [ac1] at h1;omega)
     rw [<-kY hc] at hins;refine T_ T (by show decide ((j:Int)<(((aB x).map AI).length:Int))=true;rw [nm,dT];omega) ?_;refine i_ T (aC hc) T ?_;refine c_ hins ?_;refine vI 6 j ?_;refine u_ (jh (j+1) (by omega) (by omega))
    ·refine A.gF T (by show decide ((j:Int)<(((aB x).map AI).length:Int))=false;rw [nm,dF];omega) ?_;clear jh;refine e_ 3 T (x':=aQ (bS (own++aI (p.l.take (i+1))))) (by rw [aa6 (by omega),hnx]) ?_;refine vI 4 i ?_;refine u_ (ih (i+1) (by omega) (by omega))
   refine A.gF T (by show decide ((i:Int)<((aS p.l).length:Int))=false;rw [n1,dF];omega) ?_;clear ih;refine e_ 3 T (x':=aQ (bS (own++(aI p.l++aZ (p.gs.take 0))))) (by rw [aa6 (by omega),ad1,aZ,aa9]) ?_;refine A.af [1,3,7] T ?_;refine A.ae (ι:=Nat) (fun n=>(⟨[(1,aT b1),(3,aQ (bS (own++(aI p.l++aZ (p.gs.take n))))),(7,AI (n:Nat))],[]⟩,[.box b1 (aE p)])) (fun n=>n<=p.gs.length) (fun n=>p.gs.length-n) 0 (aa4 _) T fun n hn gh=>?_;refine y_ ?_
   by_cases hcn:n<p.gs.length
   ·refine aX hcn fun g hgn=>?_;have hgm:=aa2 hgn;have nb:((aS g.body).length:Int)=g.body.length:=by rw [bP]
    have hgr:=nL p.gs (n+1);rw [fI hgn,aa1,aa1] at hgr;have hgl:g.body.length<=140737488355328:=by have:=(kC (hs.g g hgm)).bb;omega
    refine eX (own++(aI p.l++aZ (p.gs.take n))) fun Z hZ=>?_;have hZl:Z.length+((if g.kind=3 then [g.c] else []).length+(aI g.body).length)<=1048576:=by rw [hZ,aa1,aa1];omega
    refine A.aa 3 T (x':=aQ (bS Z)) (by rw [hZ]) ?_;refine T_ T (by show decide ((n:Int)<((cA p.gs).length:Int))=true;rw [n2,dT];omega) ?_;refine j_ T (bZ hgn) (cK g) ?_;refine b_ fun b8=>?_;refine y_ ?_
    by_cases h3:g.kind=3
    ·rw [iT h3] at hZl;have hins:=lX (bS Z) g.c (by have:=jY Z;omega);rw [G5] at hins;refine eX (Z++[g.c]) fun Y0 hY0=>?_;have hY0l:Y0.length+(aI g.body).length<=1048576:=by rw [hY0,aa1];show _+1+_<=_;have:([g.c]:List Int).length=1:=rfl;omega
     have hY0e:Y0++aI g.body=own++(aI p.l++aZ (p.gs.take (n+1))):=by rw [fI hgn,iT h3,hY0,hZ];simp only [ab2]
     rw [<-hY0] at hins;refine T_ T (by show (g.kind==3)=true;simpa using h3) ?_;refine c_ hins ?_;refine A.af [1,3,7,8,9] T ?_;refine A.ae (ι:=Nat) (fun k=>(⟨[(1,aT b1),(3,aQ (bS (Y0++aI (g.body.take k)))),(7,AI (n:Nat)),(8,aT b8),(9,AI (k:Nat))],[]⟩,[.box b8 (fG g), .box b1 (aE p)])) (fun k=>k<=g.body.length) (fun k=>g.body.length-k) 0 (aa4 _) (by rw [ad1,aI,aa9];rfl) fun k hk kh=>?_;refine y_ ?_
     by_cases hck:k<g.body.length
     ·refine aX hck fun x hx=>?_;have hch:=hg g hgm x (aa2 hx);refine eX (Y0++aI (g.body.take k)) fun X hX=>?_;have hnx:bW j8 (bS X) (aB x)=bS (Y0++aI (g.body.take (k+1))):=by
       unfold aB;rw [kU,bR hx,hX,ab2]
      have hXl:X.length+(dW x).length<=1048576:=by have h1:=dL g.body (k+1);rw [bR hx,aa1] at h1;rw [hX,aa1];omega
      have nm:(((aB x).map AI).length:Int)=(aB x).length:=by rw [aa0]
      have hcx:=cJ x;refine T_ T (by show decide ((k:Int)<((aS g.body).length:Int))=true;rw [nb,dT];omega) ?_;refine i_ T (aV hx) (bC x) ?_;refine c_ hch ?_;refine A.aa 3 T (x':=aQ (bS X)) (by rw [hX]) ?_;refine A.af [1,3,7,8,9,10,11] T ?_;refine A.ae (ι:=Nat) (fun j=>(⟨[(1,aT b1),(3,aQ (bW j8 (bS X) ((aB x).take j))),(7,AI (n:Nat)),(8,aT b8),(9,AI (k:Nat)),(10,aQ (aB x)),(11,AI (j:Nat))],[]⟩,[.box b8 (fG g), .box b1 (aE p)])) (fun j=>j<=(aB x).length) (fun j=>(aB x).length-j) 0 (aa4 _) T fun j hj jh=>?_;refine y_ ?_
      by_cases hcj:j<(aB x).length
      ·refine aX hcj fun c hc=>?_;have hins:=lX (bW j8 (bS X) ((aB x).take j)) c (by
        have h1:=cY (lt:=j8) ((aB x).take j) (bS X);have h2:=jY X;have h3:=cJ x;rw [ac1] at h1;omega)
       rw [<-kY hc] at hins;refine T_ T (by show decide ((j:Int)<(((aB x).map AI).length:Int))=true;rw [nm,dT];omega) ?_;refine i_ T (aC hc) T ?_;refine c_ hins ?_;refine vI 11 j ?_;refine u_ (jh (j+1) (by omega) (by omega))
      ·refine A.gF T (by show decide ((j:Int)<(((aB x).map AI).length:Int))=false;rw [nm,dF];omega) ?_;clear jh;refine e_ 3 T (x':=aQ (bS (Y0++aI (g.body.take (k+1))))) (by rw [aa6 (by omega),hnx]) ?_;refine vI 9 k ?_;refine u_ (kh (k+1) (by omega) (by omega))
     ·refine A.gF T (by show decide ((k:Int)<((aS g.body).length:Int))=false;rw [nb,dF];omega) ?_;clear kh;refine e_ 3 T (x':=aQ (bS (own++(aI p.l++aZ (p.gs.take (n+1)))))) (by rw [aa6 (by omega),hY0e]) ?_;refine vI 7 n ?_;refine l_ (Λ':=[.box b1 (aE p)]) ?_;refine u_ (gh (n+1) (by omega) (by omega))
    ·rw [iF h3] at hZl;refine eX (Z) fun Y0 hY0=>?_;have hY0l:Y0.length+(aI g.body).length<=1048576:=by rw [hY0];have:([]:List Int).length=0:=rfl;omega
     have hY0e:Y0++aI g.body=own++(aI p.l++aZ (p.gs.take (n+1))):=by rw [fI hgn,iF h3,hY0,hZ];simp only [ab2,ag2]
     refine A.aa 3 T (x':=aQ (bS Y0)) (by rw [hY0]) ?_;refine F_ T (by show (g.kind==3)=false;simpa using h3) ?_;refine A.af [1,3,7,8,9] T ?_;refine A.ae (ι:=Nat) (fun k=>(⟨[(1,aT b1),(3,aQ (bS (Y0++aI (g.body.take k)))),(7,AI (n:Nat)),(8,aT b8),(9,AI (k:Nat))],[]⟩,[.box b8 (fG g), .box b1 (aE p)])) (fun k=>k<=g.body.length) (fun k=>g.body.length-k) 0 (aa4 _) (by rw [ad1,aI,aa9];rfl) fun k hk kh=>?_;refine y_ ?_
     by_cases hck:k<g.body.length
     ·refine aX hck fun x hx=>?_;have hch:=hg g hgm x (aa2 hx);refine eX (Y0++aI (g.body.take k)) fun X hX=>?_;have hnx:bW j8 (bS X) (aB x)=bS (Y0++aI (g.body.take (k+1))):=by
       unfold aB;rw [kU,bR hx,hX,ab2]
      have hXl:X.length+(dW x).length<=1048576:=by have h1:=dL g.body (k+1);rw [bR hx,aa1] at h1;rw [hX,aa1];omega
      have nm:(((aB x).map AI).length:Int)=(aB x).length:=by rw [aa0]
      have hcx:=cJ x;refine T_ T (by show decide ((k:Int)<((aS g.body).length:Int))=true;rw [nb,dT];omega) ?_;refine i_ T (aV hx) (bC x) ?_;refine c_ hch ?_;refine A.aa 3 T (x':=aQ (bS X)) (by rw [hX]) ?_;refine A.af [1,3,7,8,9,10,11] T ?_;refine A.ae (ι:=Nat) (fun j=>(⟨[(1,aT b1),(3,aQ (bW j8 (bS X) ((aB x).take j))),(7,AI (n:Nat)),(8,aT b8),(9,AI (k:Nat)),(10,aQ (aB x)),(11,AI (j:Nat))],[]⟩,[.box b8 (fG g), .box b1 (aE p)])) (fun j=>j<=(aB x).length) (fun j=>(aB x).length-j) 0 (aa4 _) T fun j hj jh=>?_;refine y_ ?_
      by_cases hcj:j<(aB x).length
      ·refine aX hcj fun c hc=>?_;have hins:=lX (bW j8 (bS X) ((aB x).take j)) c (by
        have h1:=cY (lt:=j8) ((aB x).take j) (bS X);have h2:=jY X;have h3:=cJ x;rw [ac1] at h1;omega)
       rw [<-kY hc] at hins;refine T_ T (by show decide ((j:Int)<(((aB x).map AI).length:Int))=true;rw [nm,dT];omega) ?_;refine i_ T (aC hc) T ?_;refine c_ hins ?_;refine vI 11 j ?_;refine u_ (jh (j+1) (by omega) (by omega))
      ·refine A.gF T (by show decide ((j:Int)<(((aB x).map AI).length:Int))=false;rw [nm,dF];omega) ?_;clear jh;refine e_ 3 T (x':=aQ (bS (Y0++aI (g.body.take (k+1))))) (by rw [aa6 (by omega),hnx]) ?_;refine vI 9 k ?_;refine u_ (kh (k+1) (by omega) (by omega))
     ·refine A.gF T (by show decide ((k:Int)<((aS g.body).length:Int))=false;rw [nb,dF];omega) ?_;clear kh;refine e_ 3 T (x':=aQ (bS (own++(aI p.l++aZ (p.gs.take (n+1)))))) (by rw [aa6 (by omega),hY0e]) ?_;refine vI 7 n ?_;refine l_ (Λ':=[.box b1 (aE p)]) ?_;refine u_ (gh (n+1) (by omega) (by omega))
   refine A.gF T (by show decide ((n:Int)<((cA p.gs).length:Int))=false;rw [n2,dF];omega) ?_;clear gh;refine e_ 3 T (x':=aQ (aB p)) (by rw [aa6 (by omega)];unfold aB;rw [hrl]) ?_;exact r_
  ·rw [iF (by omega)] at hown;refine A.aa 3 T (x':=aQ (bS own)) (by rw [hown];rfl) ?_;refine e_ 15 T (x':=AB false) (aA (by simpa using h5)) ?_;refine F_ T (by simpa using h6) ?_;refine A.af [1,3,4] T ?_;refine A.ae (ι:=Nat) (fun i=>(⟨[(1,aT b1),(3,aQ (bS (own++aI (p.l.take i)))),(4,AI (i:Nat))],[]⟩,[.box b1 (aE p)])) (fun i=>i<=p.l.length) (fun i=>p.l.length-i) 0 (aa4 _) (by rw [ad1,aI,aa9];rfl) fun i hi ih=>?_;refine y_ ?_
   by_cases hci:i<p.l.length
   ·refine aX hci fun x hx=>?_;have hch:=hl x (aa2 hx);refine eX (own++aI (p.l.take i)) fun X hX=>?_;have hnx:bW j8 (bS X) (aB x)=bS (own++aI (p.l.take (i+1))):=by
     unfold aB;rw [kU,bR hx,hX,ab2]
    have hXl:X.length+(dW x).length<=1048576:=by have h1:=dL p.l (i+1);rw [bR hx,aa1] at h1;rw [hX,aa1];omega
    have nm:(((aB x).map AI).length:Int)=(aB x).length:=by rw [aa0]
    have hcx:=cJ x;refine T_ T (by show decide ((i:Int)<((aS p.l).length:Int))=true;rw [n1,dT];omega) ?_;refine i_ T (aV hx) (bC x) ?_;refine c_ hch ?_;refine A.aa 3 T (x':=aQ (bS X)) (by rw [hX]) ?_;refine A.af [1,3,4,5,6] T ?_;refine A.ae (ι:=Nat) (fun j=>(⟨[(1,aT b1),(3,aQ (bW j8 (bS X) ((aB x).take j))),(4,AI (i:Nat)),(5,aQ (aB x)),(6,AI (j:Nat))],[]⟩,[.box b1 (aE p)])) (fun j=>j<=(aB x).length) (fun j=>(aB x).length-j) 0 (aa4 _) T fun j hj jh=>?_;refine y_ ?_
    by_cases hcj:j<(aB x).length
    ·refine aX hcj fun c hc=>?_;have hins:=lX (bW j8 (bS X) ((aB x).take j)) c (by
      have h1:=cY (lt:=j8) ((aB x).take j) (bS X);have h2:=jY X;have h3:=cJ x;rw [ac1] at h1;omega)
     rw [<-kY hc] at hins;refine T_ T (by show decide ((j:Int)<(((aB x).map AI).length:Int))=true;rw [nm,dT];omega) ?_;refine i_ T (aC hc) T ?_;refine c_ hins ?_;refine vI 6 j ?_;refine u_ (jh (j+1) (by omega) (by omega))
    ·refine A.gF T (by show decide ((j:Int)<(((aB x).map AI).length:Int))=false;rw [nm,dF];omega) ?_;clear jh;refine e_ 3 T (x':=aQ (bS (own++aI (p.l.take (i+1))))) (by rw [aa6 (by omega),hnx]) ?_;refine vI 4 i ?_;refine u_ (ih (i+1) (by omega) (by omega))
   refine A.gF T (by show decide ((i:Int)<((aS p.l).length:Int))=false;rw [n1,dF];omega) ?_;clear ih;refine e_ 3 T (x':=aQ (bS (own++(aI p.l++aZ (p.gs.take 0))))) (by rw [aa6 (by omega),ad1,aZ,aa9]) ?_;refine A.af [1,3,7] T ?_;refine A.ae (ι:=Nat) (fun n=>(⟨[(1,aT b1),(3,aQ (bS (own++(aI p.l++aZ (p.gs.take n))))),(7,AI (n:Nat))],[]⟩,[.box b1 (aE p)])) (fun n=>n<=p.gs.length) (fun n=>p.gs.length-n) 0 (aa4 _) T fun n hn gh=>?_;refine y_ ?_
   by_cases hcn:n<p.gs.length
   ·refine aX hcn fun g hgn=>?_;have hgm:=aa2 hgn;have nb:((aS g.body).length:Int)=g.body.length:=by rw [bP]
    have hgr:=nL p.gs (n+1);rw [fI hgn,aa1,aa1] at hgr;have hgl:g.body.length<=140737488355328:=by have:=(kC (hs.g g hgm)).bb;omega
    refine eX (own++(aI p.l++aZ (p.gs.take n))) fun Z hZ=>?_;have hZl:Z.length+((if g.kind=3 then [g.c] else []).length+(aI g.body).length)<=1048576:=by rw [hZ,aa1,aa1];omega
    refine A.aa 3 T (x':=aQ (bS Z)) (by rw [hZ]) ?_;refine T_ T (by show decide ((n:Int)<((cA p.gs).length:Int))=true;rw [n2,dT];omega) ?_;refine j_ T (bZ hgn) (cK g) ?_;refine b_ fun b8=>?_;refine y_ ?_
    by_cases h3:g.kind=3
    ·rw [iT h3] at hZl;have hins:=lX (bS Z) g.c (by have:=jY Z;omega);rw [G5] at hins;refine eX (Z++[g.c]) fun Y0 hY0=>?_;have hY0l:Y0.length+(aI g.body).length<=1048576:=by rw [hY0,aa1];show _+1+_<=_;have:([g.c]:List Int).length=1:=rfl;omega
     have hY0e:Y0++aI g.body=own++(aI p.l++aZ (p.gs.take (n+1))):=by rw [fI hgn,iT h3,hY0,hZ];simp only [ab2]
     rw [<-hY0] at hins;refine T_ T (by show (g.kind==3)=true;simpa using h3) ?_;refine c_ hins ?_;refine A.af [1,3,7,8,9] T ?_;refine A.ae (ι:=Nat) (fun k=>(⟨[(1,aT b1),(3,aQ (bS (Y0++aI (g.body.take k)))),(7,AI (n:Nat)),(8,aT b8),(9,AI (k:Nat))],[]⟩,[.box b8 (fG g), .box b1 (aE p)])) (fun k=>k<=g.body.length) (fun k=>g.body.length-k) 0 (aa4 _) (by rw [ad1,aI,aa9];rfl) fun k hk kh=>?_;refine y_ ?_
     by_cases hck:k<g.body.length
     ·refine aX hck fun x hx=>?_;have hch:=hg g hgm x (aa2 hx);refine eX (Y0++aI (g.body.take k)) fun X hX=>?_;have hnx:bW j8 (bS X) (aB x)=bS (Y0++aI (g.body.take (k+1))):=by
       unfold aB;rw [kU,bR hx,hX,ab2]
      have hXl:X.length+(dW x).length<=1048576:=by have h1:=dL g.body (k+1);rw [bR hx,aa1] at h1;rw [hX,aa1];omega
      have nm:(((aB x).map AI).length:Int)=(aB x).length:=by rw [aa0]
      have hcx:=cJ x;refine T_ T (by show decide ((k:Int)<((aS g.body).length:Int))=true;rw [nb,dT];omega) ?_;refine i_ T (aV hx) (bC x) ?_;refine c_ hch ?_;refine A.aa 3 T (x':=aQ (bS X)) (by rw [hX]) ?_;refine A.af [1,3,7,8,9,10,11] T ?_;refine A.ae (ι:=Nat) (fun j=>(⟨[(1,aT b1),(3,aQ (bW j8 (bS X) ((aB x).take j))),(7,AI (n:Nat)),(8,aT b8),(9,AI (k:Nat)),(10,aQ (aB x)),(11,AI (j:Nat))],[]⟩,[.box b8 (fG g), .box b1 (aE p)])) (fun j=>j<=(aB x).length) (fun j=>(aB x).length-j) 0 (aa4 _) T fun j hj jh=>?_;refine y_ ?_
      by_cases hcj:j<(aB x).length
      ·refine aX hcj fun c hc=>?_;have hins:=lX (bW j8 (bS X) ((aB x).take j)) c (by
        have h1:=cY (lt:=j8) ((aB x).take j) (bS X);have h2:=jY X;have h3:=cJ x;rw [ac1] at h1;omega)
       rw [<-kY hc] at hins;refine T_ T (by show decide ((j:Int)<(((aB x).map AI).length:Int))=true;rw [nm,dT];omega) ?_;refine i_ T (aC hc) T ?_;refine c_ hins ?_;refine vI 11 j ?_;refine u_ (jh (j+1) (by omega) (by omega))
      ·refine A.gF T (by show decide ((j:Int)<(((aB x).map AI).length:Int))=false;rw [nm,dF];omega) ?_;clear jh;refine e_ 3 T (x':=aQ (bS (Y0++aI (g.body.take (k+1))))) (by rw [aa6 (by omega),hnx]) ?_;refine vI 9 k ?_;refine u_ (kh (k+1) (by omega) (by omega))
     ·refine A.gF T (by show decide ((k:Int)<((aS g.body).length:Int))=false;rw [nb,dF];omega) ?_;clear kh;refine e_ 3 T (x':=aQ (bS (own++(aI p.l++aZ (p.gs.take (n+1)))))) (by rw [aa6 (by omega),hY0e]) ?_;refine vI 7 n ?_;refine l_ (Λ':=[.box b1 (aE p)]) ?_;refine u_ (gh (n+1) (by omega) (by omega))
    ·rw [iF h3] at hZl;refine eX (Z) fun Y0 hY0=>?_;have hY0l:Y0.length+(aI g.body).length<=1048576:=by rw [hY0];have:([]:List Int).length=0:=rfl;omega
     have hY0e:Y0++aI g.body=own++(aI p.l++aZ (p.gs.take (n+1))):=by rw [fI hgn,iF h3,hY0,hZ];simp only [ab2,ag2]
     refine A.aa 3 T (x':=aQ (bS Y0)) (by rw [hY0]) ?_;refine F_ T (by show (g.kind==3)=false;simpa using h3) ?_;refine A.af [1,3,7,8,9] T ?_;refine A.ae (ι:=Nat) (fun k=>(⟨[(1,aT b1),(3,aQ (bS (Y0++aI (g.body.take k)))),(7,AI (n:Nat)),(8,aT b8),(9,AI (k:Nat))],[]⟩,[.box b8 (fG g), .box b1 (aE p)])) (fun k=>k<=g.body.length) (fun k=>g.body.length-k) 0 (aa4 _) (by rw [ad1,aI,aa9];rfl) fun k hk kh=>?_;refine y_ ?_
     by_cases hck:k<g.body.length
     ·refine aX hck fun x hx=>?_;have hch:=hg g hgm x (aa2 hx);refine eX (Y0++aI (g.body.take k)) fun X hX=>?_;have hnx:bW j8 (bS X) (aB x)=bS (Y0++aI (g.body.take (k+1))):=by
       unfold aB;rw [kU,bR hx,hX,ab2]
      have hXl:X.length+(dW x).length<=1048576:=by have h1:=dL g.body (k+1);rw [bR hx,aa1] at h1;rw [hX,aa1];omega
      have nm:(((aB x).map AI).length:Int)=(aB x).length:=by rw [aa0]
      have hcx:=cJ x;refine T_ T (by show decide ((k:Int)<((aS g.body).length:Int))=true;rw [nb,dT];omega) ?_;refine i_ T (aV hx) (bC x) ?_;refine c_ hch ?_;refine A.aa 3 T (x':=aQ (bS X)) (by rw [hX]) ?_;refine A.af [1,3,7,8,9,10,11] T ?_;refine A.ae (ι:=Nat) (fun j=>(⟨[(1,aT b1),(3,aQ (bW j8 (bS X) ((aB x).take j))),(7,AI (n:Nat)),(8,aT b8),(9,AI (k:Nat)),(10,aQ (aB x)),(11,AI (j:Nat))],[]⟩,[.box b8 (fG g), .box b1 (aE p)])) (fun j=>j<=(aB x).length) (fun j=>(aB x).length-j) 0 (aa4 _) T fun j hj jh=>?_;refine y_ ?_
      by_cases hcj:j<(aB x).length
      ·refine aX hcj fun c hc=>?_;have hins:=lX (bW j8 (bS X) ((aB x).take j)) c (by
        have h1:=cY (lt:=j8) ((aB x).take j) (bS X);have h2:=jY X;have h3:=cJ x;rw [ac1] at h1;omega)
       rw [<-kY hc] at hins;refine T_ T (by show decide ((j:Int)<(((aB x).map AI).length:Int))=true;rw [nm,dT];omega) ?_;refine i_ T (aC hc) T ?_;refine c_ hins ?_;refine vI 11 j ?_;refine u_ (jh (j+1) (by omega) (by omega))
      ·refine A.gF T (by show decide ((j:Int)<(((aB x).map AI).length:Int))=false;rw [nm,dF];omega) ?_;clear jh;refine e_ 3 T (x':=aQ (bS (Y0++aI (g.body.take (k+1))))) (by rw [aa6 (by omega),hnx]) ?_;refine vI 9 k ?_;refine u_ (kh (k+1) (by omega) (by omega))
     ·refine A.gF T (by show decide ((k:Int)<((aS g.body).length:Int))=false;rw [nb,dF];omega) ?_;clear kh;refine e_ 3 T (x':=aQ (bS (own++(aI p.l++aZ (p.gs.take (n+1)))))) (by rw [aa6 (by omega),hY0e]) ?_;refine vI 7 n ?_;refine l_ (Λ':=[.box b1 (aE p)]) ?_;refine u_ (gh (n+1) (by omega) (by omega))
   refine A.gF T (by show decide ((n:Int)<((cA p.gs).length:Int))=false;rw [n2,dF];omega) ?_;clear gh;refine e_ 3 T (x':=aQ (aB p)) (by rw [aa6 (by omega)];unfold aB;rw [hrl]) ?_;exact r_
theorem DL: ∀(m:Nat) (p:PR),SizeOf.sizeOf p<=m->sS p->(dW p).length<=1048576->ZJ p
 |0,p,h,_,_=>by obtain ⟨k,c,v,i,to,e,gs,l⟩:=p;simp only [PR.mk.sizeOf_spec] at h;omega
 |m+1,p,hm,hs,hb=>by have hS:=lF hs;exact XV p hS hb (fun x hx=>DL m x (by have:=mO hx;omega) (hS.l x hx) (by have:=DJ hx;omega)) (fun g hg x hx=>DL m x (by have:=nX hg hx;omega) ((kC (hS.g g hg)).body x hx) (by have:=NR hg hx;omega))
theorem KZ(p:PR)(hs:sS p)(hb:(dW p).length<=1048576):Pure prog aU 101 [aE p] (aQ (aB p)):=DL _ p (ab3 _) hs hb
theorem SG{V:List KV}{s x:bA}(hx:bI V x){o:bA}(ho:bI V o):bI V (fX s o x):=by rw [M8];exact HQ hx _ (fun v hv=>ah5.1 hv) o ho
theorem lW{V:List KV}{s:bA}: ∀(l:List bA),(∀x,x∈l->bI V x)-> ∀o,bI V o->bI V (l.foldl (fX s) o)
 | [],_,o,ho=>ho |x::r,h,o,ho=>lW r (fun y hy=>h y (.tail _ hy)) _ (SG (h x (.head _)) ho)
abbrev lH(l:List bA):AV:= .sl 1 (l.map aF) none
theorem C3{V:List KV}(s:bA)(l:List bA)(hs:bI V s)(hl: ∀x,x∈l->bI V x)(hlen:l.length<=1048576):Pure prog aU 105 [aF s,lH l] (aF (j9 s l)):=by
 have nl:((l.map aF).length:Int)=l.length:=by rw [aa0]
 have ns:((s.map jU).length:Int)=s.length:=by rw [aa0]
 have hss:=(dX hs).1;refine P_ func105 64 fun w0 h0 F hgs=>?_;refine y_ ?_;refine A.af [0,1,5,6] T ?_;refine A.ae (ι:=Nat) (fun q=>(⟨[(0,aF s),(1,lH l),(5,aF ((l.take q).foldl (fX s) s)),(6,AI (q:Nat))],[]⟩,[])) (fun q=>q<=l.length) (fun q=>l.length-q) 0 (aa4 _) T fun q hq qh=>?_;have hq0:bI V ((l.take q).foldl (fX s) s):=lW _ (fun x hx=>hl x (ag0 hx)) s hs;refine y_ ?_
 by_cases hcq:q<l.length
 ·refine aX hcq fun x hxq=>?_;have hx:=hl x (aa2 hxq);obtain ⟨hsl,hsr⟩:=GM hx hs;have hfin:(l.take (q+1)).foldl (fX s) s=yN s x (List.range x.length) ((l.take q).foldl (fX s) s):=by rw [takeN hxq,af2,List.foldl_cons,List.foldl_nil,M8]
  refine eX ((l.take q).foldl (fX s) s) fun out hout=>?_;rw [<-hout] at hq0 hfin;refine A.gT T (by show decide ((q:Int)<((l.map aF).length:Int))=true;rw [nl,dT];omega) ?_;refine e_ 5 T (x':=aF out) (by rw [hout]) ?_;refine A.af [0,1,5,6,7] T ?_;refine A.ae (ι:=Nat) (fun v=>(⟨[(0,aF s),(1,lH l),(5,aF (yN s x (List.range v) out)),(6,AI (q:Nat)),(7,AI (v:Nat))],[]⟩,[])) (fun v=>v<=x.length) (fun v=>x.length-v) 0 (aa4 _) T fun v hv ih=>?_;have hov:=HQ (s:=s) hx (List.range v) (fun i hi=>by have:=ah5.1 hi;omega) out hq0;refine y_ ?_
  by_cases hcv:v<x.length
  ·refine aX hcv fun r hr=>?_;refine ab4 (hsr v r hr) fun r0 h0=>?_;obtain ⟨h0,h0l⟩:=h0;have hnext:=GA (s:=s) (o:=out) hr;have nr:((r0.map aN).length:Int)=r.length:=by rw [aa0,h0l]
   have hrl:=(dX hx).2 r (aa2 hr);refine eX (yN s x (List.range v) out) fun o hoe=>?_;rw [<-hoe] at hnext hov;refine A.gT T (by show decide ((v:Int)<((s.map jU).length:Int))=true;rw [ns,dT];omega) ?_;refine e_ 5 T (x':=aF o) (by rw [hoe]) ?_;refine A.af [0,1,5,6,7,8] T ?_;refine A.ae (ι:=Nat) (fun i=>(⟨[(0,aF s),(1,lH l),(5,aF (AR s x v (List.range i) o)),(6,AI (q:Nat)),(7,AI (v:Nat)),(8,AI (i:Nat))],[]⟩,[])) (fun i=>i<=r.length) (fun i=>r.length-i) 0 (aa4 _) T fun i hi jh=>?_;have hoi:=HP (s:=s) hx hr (List.range i) (fun j hj=>by have:=ah5.1 hj;omega) o hov;refine y_ ?_;refine i_ T (aC h0) T ?_
   by_cases hci:i<r.length
   ·refine aX hci fun xi hxi=>?_;refine ab4 (bT (l:=r0) (i:=i) (by omega)) fun si hsi=>?_;have hnx:=F9 (o:=o) (xU hr hxi) (xU h0 hsi);refine T_ T (by show decide ((i:Int)<((r0.map aN).length:Int))=true;rw [nr,dT];omega) ?_;refine d_ 18 [0,1,2,3,4,5,6,7,8,9,10,11,12,13,14,15,16,17] [] ?_;refine gX T (aC hxq) T ?_;refine gX T (aC hr) T ?_;refine gX T (aC hxi) T ?_;refine gX T (aC h0) T ?_;refine gX T (aC hsi) T ?_;refine WA.nil (l:=[]) T ?_
    by_cases hxs':xi=si
    ·rw [iT hxs'] at hnx;refine e_ 48 T (x':=AB false) (aA (by show (xi !=si)=false;rw [hxs'];simp)) ?_;refine vI 8 i ?_;refine A.aa 5 T (x':=aF (AR s x v (List.range (i+1)) o)) (by rw [hnx]) ?_;refine u_ (jh (i+1) (by show i+1<=_;omega) (by show _-(i+1)<_-i;omega))
    ·rw [iF hxs'] at hnx;have hput:=IU.ij (V:=V) hoi (v:Nat) (i:Nat) xi;rw [<-hnx] at hput;refine e_ 48 T (x':=AB true) (aA (by show (xi !=si)=true;exact bne_iff_ne.2 hxs')) ?_;refine i_ T (aC hxq) T ?_;refine i_ T (aC hr) T ?_;refine i_ T (aC hxi) T ?_;refine c_ hput ?_;refine vI 8 i ?_;refine u_ (jh (i+1) (by show i+1<=_;omega) (by show _-(i+1)<_-i;omega))
   ·refine A.gF T (by show decide ((i:Int)<((r0.map aN).length:Int))=false;rw [nr,dF];omega) ?_;have hir:i=r.length:=by have:i<=r.length:=hi;omega
    refine e_ 5 T (x':=aF (yN s x (List.range (v+1)) out)) (by rw [hnext,hir]) ?_;refine vI 7 v ?_;refine u_ (ih (v+1) (by show v+1<=_;omega) (by show _-(v+1)<_-v;omega))
  ·refine A.gF T (by show decide ((v:Int)<((s.map jU).length:Int))=false;rw [ns,dF];omega) ?_;have hvl:v=x.length:=by have:v<=x.length:=hv;omega
   refine e_ 5 T (x':=aF ((l.take (q+1)).foldl (fX s) s)) (by rw [hfin,hvl]) ?_;refine vI 6 q ?_;refine u_ (qh (q+1) (by show q+1<=_;omega) (by show _-(q+1)<_-q;omega))
 ·refine A.gF T (by show decide ((q:Int)<((l.map aF).length:Int))=false;rw [nl,dF];omega) ?_;clear qh;refine y_ ?_;refine R_ ?_;rw [aa6 (by omega:l.length<=q)];exact .refl
abbrev BQ:=List Int×RN
abbrev E6(x:BQ):AV:= .ag [aQ x.1,AI (x.2.reach:Nat), .sl 2 (x.2.ends.map cT) none,AB x.2.miss]
abbrev bsQ(l:List BQ):AV:= .sl 4 (l.map E6) none
abbrev U2(L:List (List bA)):AV:= .sl 1 (L.map lH) none
abbrev eQ(q:RN)(n i:Nat):List bA:=((q.ends.take i).filter fun e=>decide (e.1=n)).map (·.2)
abbrev rQ(l:List BQ)(cn:List Nat)(i:Nat):List (List bA):=ZX (((l.drop i).map (·.2)).zipWith cI (cn.drop i))
theorem RH{l:List BQ}{cn:List Nat}{i:Nat}{x:BQ}{c:Nat}(hx:l[i]? =some x)(hc:cn[i]? =some c):rQ l cn i=(eQ x.2 c x.2.ends.length).flatMap fun s=>(rQ l cn (i+1)).map fun r=>s::r:=by unfold rQ;rw [cB hx,cB hc,List.map_cons,List.zipWith_cons_cons,ZX];unfold eQ cI;rw [ac4]
structure ChOk(l:List BQ)(cn:List Nat):Prop where
 len:cn.length=l.length
 sm:l.length<=16777216
 ends: ∀x,x∈l->x.2.ends.length<=65536
 all: ∀i,(rQ l cn i).length<=65536
 one: ∀i c,c∈rQ l cn i->c.length<=16777216
theorem uR(l:List BQ)(cn:List Nat)(K:ChOk l cn): ∀(m i:Nat),l.length-i=m->i<=l.length-> ∀z0:Value,fB prog aU 103 [bsQ l,AI (i:Nat), .ms z0 1 cn.length] [.row 1 z0 (cn.map fun (n:Nat)=>AI n)] (fun _:Unit=>U2 (rQ l cn i)) (fun _=>[.row 1 z0 (cn.map fun (n:Nat)=>AI n)]) (fun _=>True)
 |0,i,hm,hi,z0=>by
  unfold fB;have nl:((l.map E6).length:Int)=l.length:=by rw [aa0]
  have hd:rQ l cn i=[[]]:=by unfold rQ;rw [ad3 (by omega)];rfl
  rw [hd];refine jB.of (S:=tt) (fn:=f103) (n:=69) dE func103 T T T T fun w0 h0 F hgs=>?_;refine y_ ?_;refine A.gT T (by show (((i:Nat):Int)==((l.map E6).length:Int))=true;rw [nl,beq_iff_eq];omega) ?_
  (refine t_ fun bl=>?_;refine y_ ?_)
  exact A.au (Λ':=[.row 1 z0 _]) T T T rF ⟨(),s_,rfl,trivial⟩
 |m+1,i,hm,hi,z0=>by
  unfold fB;have nl:((l.map E6).length:Int)=l.length:=by rw [aa0]
  have hll:=K.sm;refine ab4 (bT (l:=l) (i:=i) (by omega)) fun x hx=>?_;refine ab4 (bT (l:=cn) (i:=i) (by have:=K.len;omega)) fun c hc=>?_;have hrec:=uR l cn K m (i+1) (by omega) (by omega);have hnext:=RH hx hc;have hxe:=K.ends x (aa2 hx);have hallR:=K.all (i+1);have hallI:=K.all i;have hone:=K.one (i+1);refine eX (rQ l cn (i+1)) fun rest hrest=>?_;rw [<-hrest] at hrec hnext hallR hone;rw [hnext] at hallI;refine ab4 (show∃O:Nat->List (List bA),O=fun k=>(eQ x.2 c k).flatMap fun s=>rest.map fun r=>s::r from ⟨_,rfl⟩) fun O hO=>?_;have hOend:rQ l cn i=O x.2.ends.length:=by rw [hnext,hO]
  have hO0:O 0=[]:=by rw [hO];rfl
  have hOs: ∀k e,x.2.ends[k]? =some e->O (k+1)=if e.1=c then O k++rest.map (fun r=>e.2::r) else O k:=fun k e he=>by
   rw [hO];show (eQ x.2 c (k+1)).flatMap _=_;unfold eQ;rw [takeN he,ag5,ac0,aj6]
   by_cases h:e.1=c
   ·rw [iT h];simp [h]
   ·rw [iF h];simp [h]
  have hOm: ∀k,k<=x.2.ends.length->(O k).length<=65536:=fun k hk=>by
   have h1:O x.2.ends.length=O k++(((x.2.ends.drop k).filter fun e=>decide (e.1=c)).map (·.2)).flatMap fun s=>rest.map fun r=>s::r:=by rw [hO];show (eQ x.2 c x.2.ends.length).flatMap _=(eQ x.2 c k).flatMap _++_;unfold eQ;rw [ac4,<-aj6,<-ac0,<-ag5,ae3]
   have h2:(O x.2.ends.length).length<=65536:=by rw [<-hOend,hnext];exact hallI
   rw [h1,aa1] at h2;omega
  have nq:((x.2.ends.map cT).length:Int)=x.2.ends.length:=by rw [aa0]
  have nr:((rest.map lH).length:Int)=rest.length:=by rw [aa0]
  rw [hOend];have hne:(cn.map fun (n:Nat)=>AI n)≠[]:=fun h=>by have:=congrArg List.length h;rw [aa0,K.len,List.length_nil] at this;omega
  have hcl:(cn.map fun (n:Nat)=>AI n).length=cn.length:=aa0 ..;have hKl:=K.len;refine jB.of (S:=tt) (fn:=f103) (n:=69) dE func103 T T T T fun w0 h0 F hgs=>?_;refine A.ee (z:=z0) (sz:=1) (l:=cn.map fun (n:Nat)=>AI n) (aa5 ..) fun az cp hz hcap=>?_;rw [hcl] at hz hcap;subst hz;refine A.cy (a:=az) (n:=cn.length) (c:=cp) (sz:=1) (l:=cn.map fun (n:Nat)=>AI n) hne fun b o haz=>?_;subst haz;have hrec:=hrec (.slice (some ⟨b,o,none⟩) cn.length cp);refine y_ ?_;refine F_ T (by show (((i:Nat):Int)==((l.map E6).length:Int))=false;rw [nl,beq_eq_false_iff_ne];omega) ?_;refine vI 20 i ?_;refine A.e T hrec .refl (.refl _) fun _ _=>?_;refine y_ ?_;refine A.av 1 ?_;refine A.gx 8 (x':= .ms (.slice none 0 0) 1 0) T (fun h y r=>sI 1 r) ?_;refine A.af [0,1,2,7,8,9] T ?_;refine A.ae (ι:=Nat×Value) (fun u=>(⟨[(0,bsQ l),(1,AI (i:Nat)),(2, .ms (.slice (some ⟨b,o,none⟩) cn.length cp) 1 cn.length),(7,U2 rest),(8, .ms u.2 1 (O u.1).length),(9,AI (u.1:Nat))],[]⟩,[.row 1 u.2 ((O u.1).map lH), .row 1 (.slice (some ⟨b,o,none⟩) cn.length cp) (cn.map fun (n:Nat)=>AI n)])) (fun u=>u.1<=x.2.ends.length) (fun u=>x.2.ends.length-u.1) (0, .slice none 0 0) (aa4 _) (by rw [hO0];rfl) fun u hu ih=>?_;obtain ⟨k,z⟩:=u;have hk:k<=x.2.ends.length:=hu;refine y_ ?_;refine i_ T (aC hx) T ?_
  by_cases hck:k<x.2.ends.length
  ·refine aX hck fun e he=>?_;have hs1:=hOs k e he;refine T_ T (by show decide ((k:Int)<((x.2.ends.map cT).length:Int))=true;rw [nq,dT];omega) ?_;refine i_ T (aC hx) T ?_;refine j_ T (aC he) T ?_;refine b_ fun b10=>?_;refine y_ ?_;refine d_ 7 [0,1,2,3,4,5,6] [] ?_;refine WA.ah T T T T T T T T T (by omega) (by rw [hcl];omega) T ?_;refine WA.ba T T T T T T T (y':=AI (c:Nat)) T (aC hc) T T ?_;refine w_ ?_;refine z_ ?_
   by_cases hec:e.1=c
   ·rw [iT hec] at hs1;have hb1:=hOm (k+1) (by omega);rw [hs1,aa1,aa0] at hb1;refine F_ T (by show (((e.1:Nat):Int) !=((c:Nat):Int))=false;rw [hec];simp) ?_;have hz0:(O k++(rest.take 0).map fun r=>e.2::r)=O k:=by rw [ad1,List.map_nil,aa9]
    refine A.perm (Λ':=[.row 1 z ((O k).map lH), .box b10 (cT e), .row 1 (.slice (some ⟨b,o,none⟩) cn.length cp) (cn.map fun (n:Nat)=>AI n)]) (c9 [1,0,2] T T T T) ?_;refine A.ab (Λ':=[.row 1 z ((O k++(rest.take 0).map fun r=>e.2::r).map lH), .box b10 (cT e), .row 1 (.slice (some ⟨b,o,none⟩) cn.length cp) (cn.map fun (n:Nat)=>AI n)]) (by rw [hz0]) ?_;refine A.aa 8 T (x':= .ms z 1 (O k++(rest.take 0).map fun r=>e.2::r).length) (by rw [hz0]) ?_;refine A.af [0,1,2,7,8,9,10,11] T ?_;refine A.ae (ι:=Nat×Value) (fun w=>(⟨[(0,bsQ l),(1,AI (i:Nat)),(2, .ms (.slice (some ⟨b,o,none⟩) cn.length cp) 1 cn.length),(7,U2 rest),(8, .ms w.2 1 (O k++(rest.take w.1).map fun r=>e.2::r).length),(9,AI (k:Nat)),(10,aT b10),(11,AI (w.1:Nat))],[]⟩,[.row 1 w.2 ((O k++(rest.take w.1).map fun r=>e.2::r).map lH), .box b10 (cT e), .row 1 (.slice (some ⟨b,o,none⟩) cn.length cp) (cn.map fun (n:Nat)=>AI n)])) (fun w=>w.1<=rest.length) (fun w=>rest.length-w.1) (0,z) (aa4 _) T fun w hw jh=>?_;obtain ⟨j,zj⟩:=w;have hj:j<=rest.length:=hw;have hlj:(O k++(rest.take j).map fun r=>e.2::r).length<=65536:=by rw [aa1,aa0,ac1];omega
    refine y_ ?_
    by_cases hcj:j<rest.length
    ·refine aX hcj fun r hr=>?_;have hrl:=hone r (aa2 hr);have hap:(O k++(rest.take (j+1)).map fun r=>e.2::r)=(O k++(rest.take j).map fun r=>e.2::r)++[e.2::r]:=by rw [takeN hr,ac0,<-ab2];rfl
     refine A.gT T (by show decide ((j:Int)<((rest.map lH).length:Int))=true;rw [nr,dT];omega) ?_
     (refine t_ fun bl=>?_;refine y_ ?_)
     refine i_ T (aC hr) T ?_;refine A.gz T T T T T T T T T T T T T T (by show (1+(r.map aF).length)*1<=_;rw [aa0];omega) fun z1=>?_;refine A.gx 65 (x':=lH (e.2::r)) T (fun h y q=>Sb.rp (show Sb (.sl 1 ([aF e.2]++r.map aF) (some z1)) (.sl 1 ([aF e.2]++r.map aF) none) from Sb.own .refl) q) ?_;refine t_ fun bl=>?_;refine A.aj T T T T T T T T T T T T T T (by show (((O k++(rest.take j).map fun r=>e.2::r).map lH).length+1)*1<=_;rw [aa0];omega) (by show (((O k++(rest.take j).map fun r=>e.2::r).map lH).length+1)*1*24<=_;rw [aa0];omega) fun zz=>?_;refine A.s T ?_;refine A.aa 8 T (x':= .ms zz 1 (O k++(rest.take (j+1)).map fun r=>e.2::r).length) (by rw [hap,aa1 (bs:=[e.2::r]),<-aa0 (f:=lH)];rfl) ?_;refine l_ (Λ':=[.row 1 zz ((O k++(rest.take j).map fun r=>e.2::r).map lH++[lH (e.2::r)]), .box b10 (cT e), .row 1 (.slice (some ⟨b,o,none⟩) cn.length cp) (cn.map fun (n:Nat)=>AI n)]) ?_;refine A.ab (Λ':=[.row 1 zz ((O k++(rest.take (j+1)).map fun r=>e.2::r).map lH), .box b10 (cT e), .row 1 (.slice (some ⟨b,o,none⟩) cn.length cp) (cn.map fun (n:Nat)=>AI n)]) (by rw [hap,ac0 (l₁:=O k++_)];rfl) ?_;refine y_ ?_;refine vI 11 j ?_;refine u_ (jh (j+1,zz) (by show j+1<=_;omega) (by show _-(j+1)<_-j;omega))
    ·refine A.gF T (by show decide ((j:Int)<((rest.map lH).length:Int))=false;rw [nr,dF];omega) ?_;clear jh;have hz1:(O k++(rest.take j).map fun r=>e.2::r)=O (k+1):=by rw [aa6 (by omega:rest.length<=j),hs1]
     refine l_ (Λ':=[.row 1 zj ((O k++(rest.take j).map fun r=>e.2::r).map lH), .row 1 (.slice (some ⟨b,o,none⟩) cn.length cp) (cn.map fun (n:Nat)=>AI n)]) ?_;refine A.ab (Λ':=[.row 1 zj ((O (k+1)).map lH), .row 1 (.slice (some ⟨b,o,none⟩) cn.length cp) (cn.map fun (n:Nat)=>AI n)]) (by rw [hz1]) ?_;refine y_ ?_;refine A.aa 8 T (x':= .ms zj 1 (O (k+1)).length) (by rw [hz1]) ?_;refine vI 9 k ?_;refine u_ (ih (k+1,zj) (by show k+1<=_;omega) (by show _-(k+1)<_-k;omega))
   ·rw [iF hec] at hs1;refine T_ T (by show (((e.1:Nat):Int) !=((c:Nat):Int))=true;rw [bne_iff_ne];omega) ?_;refine l_ (Λ':=[.row 1 z ((O k).map lH), .row 1 (.slice (some ⟨b,o,none⟩) cn.length cp) (cn.map fun (n:Nat)=>AI n)]) ?_;refine A.ab (Λ':=[.row 1 z ((O (k+1)).map lH), .row 1 (.slice (some ⟨b,o,none⟩) cn.length cp) (cn.map fun (n:Nat)=>AI n)]) (by rw [hs1]) ?_;refine A.aa 8 T (x':= .ms z 1 (O (k+1)).length) (by rw [hs1]) ?_;refine vI 9 k ?_;refine u_ (ih (k+1,z) (by show k+1<=_;omega) (by show _-(k+1)<_-k;omega))
  ·refine A.gF T (by show decide ((k:Int)<((x.2.ends.map cT).length:Int))=false;rw [nq,dF];omega) ?_;clear ih;have hkk:k=x.2.ends.length:=by omega
   subst hkk;refine y_ ?_;refine A.ar 6 T ?_;exact A.au (Λ':=[.row 1 (.slice (some ⟨b,o,none⟩) cn.length cp) (cn.map fun (n:Nat)=>AI n)]) T T T rF ⟨(),s_,rfl,trivial⟩
abbrev uP(f:Nat)(op:List Int)(t:TR)(s:bA)(l:List PR):List BQ:=(l.map aB).zip (hJ f op (l.map aB) 0 t s l)
theorem nP(f:Nat)(op:List Int)(t:TR)(s:bA)(l:List PR):(uP f op t s l).length=l.length:=by unfold uP;rw [List.length_zip,aa0,mW,Nat.min_self]
theorem A2{f:Nat}{op:List Int}{t:TR}{s:bA}{l:List PR}{i:Nat}{x:PR}(h:l[i]? =some x):(uP f op t s l)[i]? =some (aB x,cG f (gB op (l.map aB) i) (bX t (aB x)) s x):=by unfold uP;rw [List.getElem?_zip_eq_some];refine ⟨aC h,?_⟩;rw [rP,h];show some (cG f (gB op (l.map aB) (0+i)) (bX t (((l.map aB)[0+i]?).getD [])) s x)=_;rw [ag9,aC h];rfl
theorem GW(f:Nat): ∀(l:List PR) (i:Nat),cW (l.drop i) f<=cW l f
 |l,0=>by rw [ag3];exact ab3 _ | [],i+1=>ab3 _
 |x::r,i+1=>by rw [List.drop_succ_cons,cW];exact ae9 (GW f r i) (Nat.le_mul_of_pos_left _ (o5 x f))
theorem UX(f:Nat)(op:List Int)(t:TR)(s:bA)(l:List PR):(uP f op t s l).map (·.1)=l.map aB:=by unfold uP;exact List.map_fst_zip (by rw [aa0,mW];exact ab3 _)
theorem UY(f:Nat)(op:List Int)(t:TR)(s:bA)(l:List PR):(uP f op t s l).map (·.2)=hJ f op (l.map aB) 0 t s l:=by unfold uP;exact List.map_snd_zip (by rw [aa0,mW];exact ab3 _)
theorem E7{f:Nat}{op:List Int}{t:TR}{s:bA}{l:List PR}{i:Nat}{x:PR}{r:RN}(h1:l[i]? =some x)(h2:((uP f op t s l).map (·.2))[i]? =some r):r.ends.length<=bF x f:=by rw [ab5,A2 h1] at h2;injection h2 with h2;rw [<-h2];exact tI x f _ _ s
theorem U0{f:Nat}{op:List Int}{t:TR}{s:bA}{l:List PR}(hw:cW l f<=2000)(hl:l.length<=2048){cn:List Nat}(hc:cn.length=l.length):ChOk (uP f op t s l) cn/\ ∀i,(rQ (uP f op t s l) cn i).length<=2000:=by
 have hall: ∀i,(rQ (uP f op t s l) cn i).length<=2000:=fun i=>by
  unfold rQ;rw [ZY];have h1:=JH (rs:=((uP f op t s l).drop i).map (·.2)) (cn:=cn.drop i) (by rw [aa0,ad7,ad7,nP,hc]);have h2:=wX (f:=f) (l:=l.drop i) (rs:=((uP f op t s l).drop i).map (·.2)) (by rw [aa0,ad7,ad7,nP]) (fun j p r hp hr=>by rw [al0] at hp;rw [ab5,al0] at hr;exact E7 (op:=op) (t:=t) (s:=s) hp (by rw [ab5];exact hr))
  have h3:=GW f l i;omega
 refine ⟨⟨by rw [hc,nP],by rw [nP];omega,fun x hx=>?_,fun i=>by have:=hall i;omega,fun i c hcm=>?_⟩,hall⟩
 ·obtain ⟨j,hj⟩:=List.getElem?_of_mem hx;have hjl:j<l.length:=by have:=(aa8.1 hj).1;rwa [nP] at this
  obtain ⟨y,hy⟩:=bT (l:=l) (i:=j) hjl;have h1:=E7 (f:=f) (op:=op) (t:=t) (s:=s) (r:=x.2) hy (by rw [ab5,hj];rfl);have h2:=jW hw (aa2 hy);omega
 ·have h1:=(A5 hcm).1;rw [h1,ai6,aa0,ad7,nP];omega
theorem PN(s:bA)(B:List BQ)(cn:List Nat)(n:Nat)(r:RN):fC s (B.map (·.2)) cn n r=⟨n,(rQ B cn 0).foldl (fun l c=>fF l (n,j9 s c)) r.ends,r.miss⟩:=by unfold fC rQ;rw [HX,ag3,ag3,List.foldl_map]
theorem XL(B:List BQ)(t:TR)(s:bA):qW (B.map (·.1)) (B.map (·.2)) t s=mB (B.map (·.1)) (B.map (·.2)) s t 0 ((B.map (·.1)).map fun _=>0) (fC s (B.map (·.2)) ((B.map (·.1)).map fun _=>0) 0 ⟨0,[],(B.map (·.2)).any (·.miss)⟩):=by unfold qW;rw [vF]
end Go.Proofs.YtenkjmjejhhdjaaGreat
