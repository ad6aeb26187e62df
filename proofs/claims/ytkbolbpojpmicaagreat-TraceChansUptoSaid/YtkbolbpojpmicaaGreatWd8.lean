/-
  Texts Lw Q19q Q19r Q19t Q20b Q19m Lx Q19aa Lq Q19ab Q20c P20e Q20f Q20g Q20h Q20i Q20j Q20e Q20k Q19ac Q19ya T20o T19o T19p W19. Conditions: as each theorem says.
-/
import Derived.Test.YtkbolbpojpmicaaGreatWd6
import Derived.Test.YtkbolbpojpmicaaGreatWd3
import Derived.Test.YtkbolbpojpmicaaGreatWd7
import Derived.Test.YtkbolbpojpmicaaGreatWd5
import Derived.Shelf.SlSortCmp.NoneTotal
import Derived.Shelf.SlLaysF
import Derived.Test.YtkbolbpojpmicaaGreatWd4
import Derived.Test.YtkbolbpojpmicaaGreatRows
set_option linter.unusedVariables false
set_option linter.unusedSimpArgs false
set_option maxRecDepth 100000
set_option maxHeartbeats 4000000
namespace Go.Tp
open Go Go.RowKit
theorem mapEs_setK: ∀{ks vs:List Value} {p b:Nat} {kv v:Value},ks.length=vs.length->ks[p]? =some kv->(mapEs ks vs b).modify p (fun e=>{e with key:=kv,val:=v})=mapEs ks (vs.set p v) b
 | [],vs,p,b,kv,v,_,h=>by simp at h
 |_::_,[],_,_,_,_,h,_=>by simp at h
 |k::ks,x::vs,0,b,kv,v,_,h=>by
  simp only [List.getElem?_cons_zero,Option.some.injEq] at h
  subst h
  simp [mapEs]
 |k::ks,x::vs,p+1,b,kv,v,hl,h=>by
  simp only [List.set_cons_succ,mapEs,List.modify_succ_cons]
  rw [mapEs_setK (by simpa using hl) (by simpa using h)]
theorem mapEs_at: ∀{ks vs:List Value} {p b:Nat} {kv:Value},ks.length=vs.length->ks[p]? =some kv->((mapEs ks vs b)[p]?).map (·.key)=some kv
 | [],vs,p,b,kv,_,h=>by simp at h
 |_::_,[],_,_,_,h,_=>by simp at h
 |k::ks,x::vs,0,b,kv,_,h=>by simpa [mapEs] using h
 |k::ks,x::vs,p+1,b,kv,hl,h=>by
  simp only [mapEs,List.getElem?_cons_succ]
  exact mapEs_at (by simpa using hl) (by simpa using h)
section
variable{C:Cfg}{k:List It}{e:Env}{h:GH}{L:List Ent}
theorem V.updateS{all:Array Oper}{o:Oper}{l:List Oper}{ks:List (Nat×Bool)}{t kt et:TypeId}{ti ki:TI}{m ky y:Operand}{b n i:Nat}{es es':Array MapEntry}{kk:IntKind}{a:Int}{u v:Value}{L2:List Ent}
 (hg:gyes e all o.guard=some ks) (ho:o.op= .mapUpdate t m ky y) (hm:e.ev ks m=some (.map (some b))) (hkv:e.ev ks ky=some (.int kk a)) (hv:e.ev ks y=some v) (ht:C.S.get t=some ti) (htd:ti.d= .map kt et) (hkt:C.S.get kt=some ki) (hkd:keyD ki.d=true)
 (hf:Instr.findNow ki.d (.int kk a) es.toList 0=some (some (i,u))) (hsame:(es[i]?).map (·.key)=some (.int kk a)) (hes:es.modify i (fun e=>{e with key:= .int kk a,val:=v})=es') (hd:o.dst=none) (hL:L=⟨b,0,[],some (.map es n)⟩::L2)
 (next:V C (.ops all l::k) e h (⟨b,0,[],some (.map es' n)⟩::L2)):V C (.ops all (o::l)::k) e h L:=
 V.sure hg fun a' w g s hk=>by
  subst hL
  have hob:=((s.own _ (List.mem_cons_self ..)).obj _ rfl).2.1
  simp only at hob
  have s2:=s.setObj rfl (.map es' n) (fun _ _ _ x=>by cases x)
  have hst:(Instr.keyThatStays (((es[i]?).map (·.key)).getD (.int kk a)) (.int kk a)).run C.P w= .ok (.int kk a) w:=by
   rw [hsame]
   unfold Instr.keyThatStays
   have:Instr.sameBits 10000 (.int kk a) (.int kk a)=true:=by simp [Instr.sameBits]
   rw [show (some (Value.int kk a)).getD (.int kk a)= .int kk a from rfl,this]
   rfl
  unfold Oper.wp execOp
  rw [ho]
  simp only [g.ev hk hm,g.ev hk hkv,g.ev hk hv,Instr.mapUpdate,Sem.run_bind,run_underlying (TT.Ok.get C.ok ht),htd,Result.andThen_ok,run_getMap hob,run_checkKeyD (TT.Ok.get C.ok hkt) hkd,run_findKeyD (TT.Ok.get C.ok hkt) hf,hst,hes,run_setMap _ hob,Sem.run_pure]
  exact ⟨e,h,_,by rw [hd];exact g,s2,next⟩
end
theorem RpC_set{h:GH}{x:AV}{v:Value}: ∀{xs:List AV} {vs:List Value} {p:Nat},RpC h xs vs->Rp h x v->RpC h (xs.set p x) (vs.set p v)
 | [],vs,p,r,q=>by rw [RpC_nil] at r;subst r;exact RpC_nil.2 rfl
 |y::xs,vs,0,r,q=>by
  rw [RpC_cons] at r
  obtain ⟨u,us,rfl,r1,r2⟩:=r
  exact RpC_cons.2 ⟨_,_,rfl,q,r2⟩
 |y::xs,vs,p+1,r,q=>by
  rw [RpC_cons] at r
  obtain ⟨u,us,rfl,r1,r2⟩:=r
  exact RpC_cons.2 ⟨_,_,rfl,r1,RpC_set r2 q⟩
section
variable{K:AC}{k:List It}{E:AEnv}{Λ:List AEnt}
theorem A.updateS{all:Array Oper}{o:Oper}{l:List Oper}{ks:List (Nat×Bool)}{t kt et:TypeId}{ti ki:TI}{m ky y:Operand}{b p:Nat}{kk:IntKind}{a:Int}{nks:List Value}{xs:List AV}{x:AV}{Λ':List AEnt}
 (hg:gyesA E all o.guard=some ks) (ho:o.op= .mapUpdate t m ky y) (hm:E.ev K.gs ks m=some (.v (.map (some b)))) (hkv:E.ev K.gs ks ky=some (.v (.int kk a))) (hv:E.ev K.gs ks y=some x) (ht:K.S.get t=some ti) (htd:ti.d= .map kt et) (hkt:K.S.get kt=some ki) (hkd:keyD ki.d=true)
 [i:AMp Λ b nks xs Λ'] (hf:posV ki.d (.int kk a) nks=some (some p)) (hat:nks[p]? =some (.int kk a)) (hd:o.dst=none) (next:A K (.ops all l::k) E (.mp b nks (xs.set p x)::Λ')):A K (.ops all (o::l)::k) E Λ:=by
 refine ⟨fun h e L hl r q=>?_⟩
 obtain ⟨v1,e1,f1⟩:=r.ev (K.hgs.mono hl) _ hm
 obtain ⟨v2,e2,f2⟩:=r.ev (K.hgs.mono hl) _ hkv
 obtain ⟨v3,e3,f3⟩:=r.ev (K.hgs.mono hl) _ hv
 rw [Rp_v] at f1 f2
 rw [f1.1] at e1
 rw [f2.1] at e2
 obtain ⟨L',q1,q2⟩:=q.perm i.perm
 obtain ⟨M,L2,rfl,⟨hlen,vs,hvs,rfl⟩,q4⟩:=q1
 have hl2:nks.length=vs.length:=by rw [hlen,hvs.len]
 have hp:p<vs.length:=by rw [<-hl2];exact (List.getElem?_eq_some_iff.1 hat).1
 have hfn:=findNow_posV (b:=0) (i:=0) hl2 hf
 simp only [List.getElem?_eq_getElem hp,Option.map_some,Nat.zero_add] at hfn
 refine V.perm (q2.append_right _) ?_
 refine V.updateS (C:=K.cfg) (n:=nks.length) (es:=⟨mapEs nks vs 0⟩) (es':=⟨mapEs nks (vs.set p v3) 0⟩) (L2:=L2++K.G) (gyesA_eq r hg) ho e1 e2 e3 ht htd hkt hkd hfn (by simpa using mapEs_at (b:=0) hl2 hat) (by
  have:=mapEs_setK (b:=0) (v:=v3) hl2 hat
  apply Array.ext'
  rw [Array.toList_modify]
  exact this) hd rfl ?_
 exact next.run h e (⟨b,0,[],some (.map ⟨mapEs nks (vs.set p v3) 0⟩ nks.length)⟩::L2) hl r (.one ⟨by rw [List.length_set];exact hlen,_,RpC_set hvs f3,rfl⟩ q4)
end
section
variable{K:AC}{all:Array Oper}{m:Nat}{k:List It}{pubs:Nat->List Nat}{Y:Ua}{π:List Nat}{E:AEnv}{Λ:List AEnt}{D:Da}
theorem kd_lookup{o:Oper}{t:TypeId}{x y:Operand}{c:Bool}(ho:o.op= .lookup t x y c):kd o= .qt:=by unfold kd;rw [ho]
theorem WA.lookupG{i:Nat}{o:Oper}{ks:List (Nat×Bool)}{t kt et:TypeId}{ti ki:TI}{mm ky:Operand}{b p:Nat}{kv:Value}{nks:List Value}{xs:List AV}{x:AV}{Λ':List AEnt}{E':AEnv}
 (hi:nthL all.toList i=some o) (hg:gyesA E all o.guard=some ks) (ho:o.op= .lookup t mm ky false) (hm:E.ev K.gs ks mm=some (.v (.map (some b)))) (hkv:E.ev K.gs ks ky=some (.v kv)) (ht:K.S.get t=some ti) (htd:ti.d= .map kt et) (hkt:K.S.get kt=some ki) (hkd:keyD ki.d=true)
 [im:AMp Λ b nks xs Λ'] (hf:posV ki.d kv nks=some (some p)) (hx:xs[p]? =some x) (hput:E.put K.n none o.dst x=some E') (next:WA K all m k pubs Y π E' Λ D):WA K all m k pubs Y (i::π) E Λ D:=by
 refine ⟨fun h e L Es hl r q d=>?_⟩
 obtain ⟨v1,e1,f1⟩:=r.ev (K.hgs.mono hl) _ hm
 obtain ⟨v2,e2,f2⟩:=r.ev (K.hgs.mono hl) _ hkv
 rw [Rp_v] at f1 f2
 rw [f1.1] at e1
 rw [f2.1] at e2
 obtain ⟨L',q1,q2⟩:=q.perm im.perm
 obtain ⟨M,L2,rfl,⟨hlen,vs,hvs,rfl⟩,q4⟩:=q1
 have hl2:nks.length=vs.length:=by rw [hlen,hvs.len]
 obtain ⟨u,hu,hux⟩:=hvs.at hx
 have hfn:=findNow_posV (b:=0) (i:=0) hl2 hf
 simp only [hu,Option.map_some] at hfn
 have hmem:(⟨b,0,[],some (.map ⟨mapEs nks vs 0⟩ nks.length)⟩:Ent)∈L:=q2.mem_iff.2 (List.mem_cons_self ..)
 obtain ⟨e',e4,e5⟩:=putA_eq r hput hux
 exact WE.valueY (G:=drawRg K.cfg all (L++K.G) pubs (YA Y) m k) hi (kd_lookup ho) (gyesA_eq r hg) (fun a w E0 g s hk=>by
  have hob:=((s.own ⟨b,0,[],some (.map ⟨mapEs nks vs 0⟩ nks.length)⟩ (List.mem_append_right _ (List.mem_append_left _ hmem))).obj _ rfl).2.1
  simp only at hob
  unfold execOp
  rw [ho]
  have hu1:Sem.run K.cfg.P (underlying t) w= .ok ti.d w:=run_underlying (TT.Ok.get K.ok ht)
  have hu2: ∀em,(Instr.checkKey em 10000 kt kv).run K.cfg.P w= .ok () w:=fun em=>run_checkKeyD (TT.Ok.get K.ok hkt) hkd
  have hu3:(Instr.findKey kt kv (mapEs nks vs 0)).run K.cfg.P w= .ok _ w:=run_findKeyD (TT.Ok.get K.ok hkt) hfn
  simp only [g.ev hk e1,g.ev hk e2,Instr.lookup,Sem.run_bind,hu1,htd,Result.andThen_ok,run_getMap hob,hu2,hu3,Sem.run_pure]
  rfl) e4 (next.run h e' L Es hl e5 q d)
theorem WA.lookupNilG{i:Nat}{o:Oper}{ks:List (Nat×Bool)}{t kt et:TypeId}{ti ki:TI}{mm ky:Operand}{b:Nat}{kv v:Value}{nks:List Value}{xs:List AV}{Λ':List AEnt}{E':AEnv}
 (hi:nthL all.toList i=some o) (hg:gyesA E all o.guard=some ks) (ho:o.op= .lookup t mm ky false) (hm:E.ev K.gs ks mm=some (.v (.map (some b)))) (hkv:E.ev K.gs ks ky=some (.v kv)) (ht:K.S.get t=some ti) (htd:ti.d= .map kt et) (hkt:K.S.get kt=some ki) (hkd:keyD ki.d=true) (hz:(K.P.info? et).bind (fun x=>x.zero)=some v) (hone:oneC v=true)
 [im:AMp Λ b nks xs Λ'] (hf:posV ki.d kv nks=some none) (hput:E.put K.n none o.dst (.v v)=some E') (next:WA K all m k pubs Y π E' Λ D):WA K all m k pubs Y (i::π) E Λ D:=by
 refine ⟨fun h e L Es hl r q d=>?_⟩
 obtain ⟨v1,e1,f1⟩:=r.ev (K.hgs.mono hl) _ hm
 obtain ⟨v2,e2,f2⟩:=r.ev (K.hgs.mono hl) _ hkv
 rw [Rp_v] at f1 f2
 rw [f1.1] at e1
 rw [f2.1] at e2
 obtain ⟨L',q1,q2⟩:=q.perm im.perm
 obtain ⟨M,L2,rfl,⟨hlen,vs,hvs,rfl⟩,q4⟩:=q1
 have hl2:nks.length=vs.length:=by rw [hlen,hvs.len]
 have hfn:=findNow_posV (b:=0) (i:=0) hl2 hf
 have hmem:(⟨b,0,[],some (.map ⟨mapEs nks vs 0⟩ nks.length)⟩:Ent)∈L:=q2.mem_iff.2 (List.mem_cons_self ..)
 obtain ⟨xi,hx1,hx2⟩: ∃xi,K.P.info? et=some xi/\xi.zero=some v:=by
  cases hi:K.P.info? et with
  |none=>rw [hi] at hz;cases hz
  |some xi=>rw [hi] at hz;exact ⟨xi,rfl,hz⟩
 obtain ⟨e',e4,e5⟩:=putA_eq r hput (Rp_v.2 ⟨rfl,hone⟩)
 exact WE.valueY (G:=drawRg K.cfg all (L++K.G) pubs (YA Y) m k) hi (kd_lookup ho) (gyesA_eq r hg) (fun a w E0 g s hk=>by
  have hob:=((s.own ⟨b,0,[],some (.map ⟨mapEs nks vs 0⟩ nks.length)⟩ (List.mem_append_right _ (List.mem_append_left _ hmem))).obj _ rfl).2.1
  simp only at hob
  have hz1:(zeroValue et).run K.P w= .ok v w:=by simp [zeroValue,run_typeInfo hx1,hx2]
  unfold execOp
  rw [ho]
  have hu1:Sem.run K.cfg.P (underlying t) w= .ok ti.d w:=run_underlying (TT.Ok.get K.ok ht)
  have hu2: ∀em,(Instr.checkKey em 10000 kt kv).run K.cfg.P w= .ok () w:=fun em=>run_checkKeyD (TT.Ok.get K.ok hkt) hkd
  have hu3:(Instr.findKey kt kv (mapEs nks vs 0)).run K.cfg.P w= .ok _ w:=run_findKeyD (TT.Ok.get K.ok hkt) hfn
  have hu4:(zeroValue et).run K.cfg.P w= .ok v w:=hz1
  simp only [g.ev hk e1,g.ev hk e2,Instr.lookup,Sem.run_bind,hu1,htd,Result.andThen_ok,run_getMap hob,hu2,hu3,hu4,Sem.run_pure]
  rfl) e4 (next.run h e' L Es hl e5 q d)
end
section
variable{G:Rg}{π:List Nat}{e:Env}{h:GH}{E:Slots}
theorem WE.makeMap{i:Nat}{o:Oper}{ks:List (Nat×Bool)}{t:TypeId}{d:Nat}(hi:nthL G.all.toList i=some o)
 (hg:gyes e G.all o.guard=some ks) (ho:o.op= .makeMap t none) (hd:o.dst=some d) (hc:okPut G.C.n e d=true) (hE:E i=none)
 (next: ∀b,WE G π ⟨(d, .map (some b))::e.us,e.cs⟩ h (E.set i (some (mkEnt .mp b [])))):WE G (i::π) e h E:=by
 intro a g
 refine ⟨o,by rw [nthL_eq,Array.getElem?_toList] at hi;exact hi,?_⟩
 unfold Rg.Node
 have hk:kd o= .mk:=by unfold kd;rw [ho]
 rw [(gyes_spec g hg).1,hk]
 refine ⟨[], .mp,by unfold mkOf;rw [ho],rfl,hE,fun b=>next b _ (g.put (by rw [hd];exact okPut_put hc))⟩
end
section
variable{K:AC}{all:Array Oper}{m:Nat}{k:List It}{pubs:Nat->List Nat}{Y:Ua}{π:List Nat}{E:AEnv}{Λ:List AEnt}{D:Da}
theorem WA.makeMap{i:Nat}{o:Oper}{ks:List (Nat×Bool)}{t:TypeId}{d:Nat}(hi:nthL all.toList i=some o)
 (hg:gyesA E all o.guard=some ks) (ho:o.op= .makeMap t none) (hd:o.dst=some d) (hc:okPutA K.n E d=true) (hE:lookD D i=none)
 (next: ∀b,WA K all m k pubs Y π ⟨(d, .v (.map (some b)))::E.us,E.cs⟩ Λ ((i, .mp b [] [])::D)):WA K all m k pubs Y (i::π) E Λ D:=by
 refine ⟨fun h e L Es hl r q dd=>?_⟩
 have hE':Es i=none:=by have:=dd i;rw [hE] at this;exact this
 refine WE.makeMap (G:=drawRg K.cfg all (L++K.G) pubs (YA Y) m k) hi (gyesA_eq r hg) ho hd (okPutA_eq r hc) hE' fun b=>?_
 exact (next b).run h _ L _ hl ⟨r.1.put (Rp_v.2 ⟨rfl,rfl⟩),r.2⟩ q (dd.set ⟨rfl,[],RpC_nil.2 rfl,rfl⟩)
end
end Go.Tp
namespace Go.Proofs.YtkbolbpojpmicaaGreat
open Go Go.Tp
abbrev kyV(n:Nat):Value:= .int .i64 (n:Nat)
abbrev keysV(g:GRP):List Value:=g.map fun x=>kyV x.1
abbrev valV(x:Nat×List Sto)(z:Value):AV:= .sl 1 (x.2.map rowsA) (some z)
abbrev valsV(g:GRP)(zs:List Value):List AV:=g.zipWith valV zs
abbrev mpB(b:BR):AEnt:= .mp b.m (keysV (grpM b.r.ends)) (valsV (grpM b.r.ends) b.zs)
theorem posN: ∀(g:GRP) (n:Nat),(n∉keysG g->posV (.int .i64) (kyV n) (keysV g)=some none)/\(∀(p:Nat) x,(keysG g).Nodup->g[p]? =some x->x.1=n->posV (.int .i64) (kyV n) (keysV g)=some (some p))
 | [],n=>⟨fun _=>rfl,fun p x _ h=>by simp at h⟩
 |y::r,n=>by
  obtain ⟨i1,i2⟩:=posN r n
  have hs:Instr.sameNow (.int .i64) (kyV n) (kyV y.1)=some (decide (n=y.1)):=by
   show some (((n:Nat):Int)==((y.1:Nat):Int))=_
   congr 1
   rw [Bool.eq_iff_iff,decide_eq_true_eq,beq_iff_eq];omega
  refine ⟨fun h=>?_,fun p x hn hx hxn=>?_⟩
  ·have h1:n≠y.1:=fun e=>h (by rw [e];exact List.mem_cons_self ..)
   have h2:=i1 fun hm=>h (.tail _ hm)
   show posV _ _ (kyV y.1::keysV r)=_
   rw [posV,hs,decide_eq_false h1]
   simp only [h2]
  ·have hn:(y.1::keysG r).Nodup:=hn
   rw [List.nodup_cons] at hn
   show posV _ _ (kyV y.1::keysV r)=_
   rw [posV,hs]
   cases p with
   |zero=>
    simp only [List.getElem?_cons_zero,Option.some.injEq] at hx
    subst hx
    rw [decide_eq_true hxn.symm]
   |succ p=>
    simp only [List.getElem?_cons_succ] at hx
    have h1:n≠y.1:=fun e=>hn.1 (by rw [<-e,<-hxn];exact List.mem_map_of_mem (List.mem_of_getElem? hx))
    have h2:=i2 p x hn.2 hx hxn
    rw [decide_eq_false h1]
    simp only [h2]
abbrev capC(zb:Value)(nb br n b8:Nat)(s:Sto):List AV:=[.pe 1 (.ms zb 4 nb), .pe 1 (ptrA br), .pe 1 (AI (n:Nat)),ptrA b8, .pe 1 (rowsA s)]
abbrev chE(zb:Value)(bs:List BR)(cn:List Nat)(br n b8:Nat)(s:Sto)(z:Value)(m:Nat)(r:RN):List AEnt:= .box b8 (.fn 287 [] (capC zb bs.length br n b8 s)):: .row 4 zb (rowB bs cn)::(rnL br z m r++bs.map mpB)
abbrev pickA(r:RN)(n:Nat)(xs:List Sto):RN:=⟨r.reach,xs.foldl (fun l x=>addE l (n,x)) r.ends,r.miss⟩
structure BrsOk(V:List KV)(bs:List BR):Prop where
 wf: ∀b,b∈bs->EOk V b.r/\b.r.reach<=256/\b.ch.length<=1048576/\b.zs.length=(grpM b.r.ends).length/\b.r.ends.length<=2000
 len:bs.length<=2048
abbrev eatB(bs:List BR)(cn:List Nat):List (List Sto):=(rsB bs).zipWith endsAt cn
theorem eatB_at{bs:List BR}{cn:List Nat}{i:Nat}{b:BR}{n:Nat}(h1:bs[i]? =some b)(h2:cn[i]? =some n):(eatB bs cn)[i]? =some (endsAt b.r n):=by
 rw [List.getElem?_zipWith,List.getElem?_map,h1,h2];rfl
theorem eat_len{bs:List BR}{cn:List Nat}(h:cn.length=bs.length):(eatB bs cn).length=bs.length:=by
 rw [List.length_zipWith,List.length_map];omega
theorem pickA_ok{V:List KV}{r:RN}{n:Nat}{xs:List Sto}(h:RnOk V r)(hx: ∀x,x∈xs->StOk V x)(hn:n<=256)(hl:r.ends.length+xs.length<=1048576):RnOk V (pickA r n xs):=by
 refine ⟨⟨fun e he=>?_⟩,?_⟩
 ·have he:e∈addN19 n xs r.ends:=he
  rw [mem_addN] at he
  rcases he with he|⟨x,hx',rfl⟩
  ·exact h.ends.shp e he
  ·exact ⟨hx x hx',hn⟩
 ·have:=addN_len (m:=n) xs r.ends
  show (addN19 n xs r.ends).length<=_
  omega
theorem pickA_app(r:RN)(n:Nat)(a b:List Sto):pickA r n (a++b)=pickA (pickA r n a) n b:=by
 unfold pickA
 rw [List.foldl_append]
theorem ch_perm(zb:Value)(bs:List BR)(cn:List Nat)(br n b8:Nat)(s:Sto)(z:Value)(m:Nat)(r:RN):(chE zb bs cn br n b8 s z m r).Perm (rnL br z m r++(.box b8 (.fn 287 [] (capC zb bs.length br n b8 s)):: .row 4 zb (rowB bs cn)::bs.map mpB)):=
 List.perm_append_comm_assoc [AEnt.box b8 (.fn 287 [] (capC zb bs.length br n b8 s)), .row 4 zb (rowB bs cn)] (rnL br z m r) (bs.map mpB)
theorem flatT{α β:Type}{f:α->List β}{l:List α}{k:Nat}{x:α}(h:l[k]? =some x):(l.take (k+1)).flatMap f=(l.take k).flatMap f++f x:=by
 rw [take19 h,List.flatMap_append,List.flatMap_cons,List.flatMap_nil,List.append_nil]
theorem flatLe{α β:Type}(f:α->List β)(l:List α)(k:Nat):((l.take k).flatMap f).length<=(l.flatMap f).length:=by
 conv=>rhs;rw [<-List.take_append_drop k l]
 rw [List.flatMap_append,List.length_append];omega
theorem choose19_p{V:List KV}(zb:Value)(bs:List BR)(cn:List Nat)(br n b8:Nat)(s:Sto)(hs:StOk V s)(hb:BrsOk V bs)(hc:cn.length=bs.length)(hn:n<=256): ∀(d i:Nat),i+d=bs.length-> ∀(z:Value) (m:Nat) (r:RN) (out:Sto),StOk V out->RnOk V r->r.ends.length+(pick19 s ((eatB bs cn).drop i) out).length<=1048576->
 FunE Tryz.prog gs0 287 ([AI (i:Nat),rowsA out]++capC zb bs.length br n b8 s) (chE zb bs cn br n b8 s z m r) (fun _:Value×Nat=> .tp []) (fun u=>chE zb bs cn br n b8 s u.1 u.2 (pickA r n (pick19 s ((eatB bs cn).drop i) out))) (fun _=>True)
 |0,i,hi,z,m,r,out,ho,hr,hl=>by
  have hil:i=bs.length:=by omega
  have hadd:=add19_p br m z r hr (n,out) ⟨ho,hn⟩
  have hpk:pick19 s ((eatB bs cn).drop i) out=[out]:=by rw [List.drop_eq_nil_of_le (by rw [eat_len hc];omega),pick19]
  rw [hpk]
  unfold FunE
  refine Fun.of (S:=tt) (fn:=Tryz.f287) (n:=45) tt_ok Tryz.func287 rfl rfl rfl rfl fun w0 h0 F hgs=>?_
  refine y_ ?_
  refine e_ 14 rfl (x':=AB true) (ab_eq (by rw [hil];simp)) ?_
  refine A.e rfl hadd s_ (Λ2:= .box b8 (.fn 287 [] (capC zb bs.length br n b8 s)):: .row 4 zb (rowB bs cn)::bs.map mpB) (ch_perm ..) fun v _=>?_
  refine A.perm (Λ':=chE zb bs cn br n b8 s v.1 v.2 (pickA r n [out])) (ch_perm ..).symm ?_
  refine y_ ?_
  exact A.ret0 rfl rfl (.refl _) ⟨v, .refl,rfl,trivial⟩
 |d+1,i,hi,z,m,r,out,ho,hr,hl=>by
  have ih:=choose19_p zb bs cn br n b8 s hs hb hc hn d (i+1) (by omega)
  refine Exists.elim (at_exN (l:=bs) (i:=i) (by omega)) fun b hbi=>?_
  refine Exists.elim (at_exN (l:=cn) (i:=i) (by omega)) fun nI hnI=>?_
  obtain ⟨hbe,hbr,hbc,hbz,hbn⟩:=hb.wf b (List.mem_of_getElem? hbi)
  have hai:=rowB_at hbi hnI
  have hlen:(rowB bs cn).length=bs.length:=rowB_len hc
  have hbl:=hb.len
  have hdr:(eatB bs cn).drop i=endsAt b.r nI::(eatB bs cn).drop (i+1):=drop_at (eatB_at hbi hnI)
  refine Exists.elim (show∃xs,xs=endsAt b.r nI from ⟨_,rfl⟩) fun xs hxs=>?_
  refine Exists.elim (show∃G:Sto->List Sto,G=fun x=>pick19 s ((eatB bs cn).drop (i+1)) (mergeM s out x) from ⟨_,rfl⟩) fun G hG=>?_
  have hpk:pick19 s ((eatB bs cn).drop i) out=xs.flatMap G:=by rw [hdr,pick19,<-hxs,hG]
  have hxok: ∀x,x∈xs->StOk V x:=fun x hx=>by
   rw [hxs] at hx
   exact hbe _ (endsAt_mem.1 hx)
  have hGok: ∀x,x∈xs-> ∀y,y∈G x->StOk V y:=fun x hx y hy=>by
   rw [hG] at hy
   refine pick_ok _ _ (fun l hl' y' hy'=>?_) (merge_ok ho (hxok x hx)) y hy
   have hl':=List.mem_of_mem_drop hl'
   obtain ⟨j,hj,rfl⟩:=List.getElem_of_mem hl'
   rw [List.getElem_zipWith] at hy'
   have hm:=endsAt_mem.1 hy'
   rw [List.getElem_map] at hm
   exact (hb.wf _ (List.getElem_mem _)).1 _ hm
  rw [hpk] at hl⊢
  have hxn:xs.length<=1048576:=by
   rw [hxs]
   unfold endsAt
   rw [List.length_map]
   exact Nat.le_trans (List.length_filter_le ..) (by omega)
  have nxs:((xs.map rowsA).length:Int)=xs.length:=by rw [List.length_map]
  obtain ⟨M1,M2,hM⟩:=List.append_of_mem (List.mem_map_of_mem (f:=mpB) (List.mem_of_getElem? hbi))
  have hmp:AMp (chE zb bs cn br n b8 s z m r) b.m (keysV (grpM b.r.ends)) (valsV (grpM b.r.ends) b.zs) ((.box b8 (.fn 287 [] (capC zb bs.length br n b8 s)):: .row 4 zb (rowB bs cn)::rnL br z m r)++(M1++M2)):=⟨by
   show (((.box b8 (.fn 287 [] (capC zb bs.length br n b8 s)):: .row 4 zb (rowB bs cn)::rnL br z m r)++bs.map mpB:List AEnt)).Perm _
   rw [hM]
   exact (List.Perm.append_left _ List.perm_middle).trans List.perm_middle⟩
  unfold FunE
  refine Fun.of (S:=tt) (fn:=Tryz.f287) (n:=45) tt_ok Tryz.func287 rfl rfl rfl rfl fun w0 h0 F hgs=>?_
  refine y_ ?_
  refine e_ 14 rfl (x':=AB false) (ab_eq (by rw [beq_eq_false_iff_ne];omega)) ?_
  refine A.rowRaw (z:=zb) (sz:=4) (l:=rowB bs cn) (List.mem_cons_of_mem _ (List.mem_cons_self ..)) fun a cp hz hcp=>?_
  have hne:rowB bs cn≠[]:=fun h=>by rw [h] at hlen;simp at hlen;omega
  rw [hlen] at hz hcp
  subst hz
  refine A.rowSome (a:=a) (n:=bs.length) (c:=cp) (sz:=4) (l:=rowB bs cn) hne fun bb o ha=>?_
  subst ha
  refine d_ 13 [0,1,2,3,4,5,6,7,8,9,10,11,12] [] ?_
  refine WA.indexRow rfl rfl rfl rfl rfl rfl rfl rfl rfl (by show (0:Int)<=(i:Nat);omega) (by show ((i:Nat):Int)<_;rw [hlen];omega) rfl ?_
  refine WA.epV 22 rfl ?_
  refine w_ ?_
  refine WA.loadPart i 1 rfl rfl rfl rfl rfl bs.length cp o (by rw [Int.toNat_natCast]) hai (y:= .v (.map (some b.m))) rfl rfl ?_
  refine w_ ?_
  refine WA.indexRow rfl rfl rfl rfl rfl rfl rfl rfl rfl (by show (0:Int)<=(i:Nat);omega) (by show ((i:Nat):Int)<_;rw [hlen];omega) rfl ?_
  refine WA.epV 27 rfl ?_
  refine w_ ?_
  refine WA.loadPart i 3 rfl rfl rfl rfl rfl bs.length cp o (by rw [Int.toNat_natCast]) hai (y:=AI (nI:Nat)) rfl rfl ?_
  by_cases hk:nI∈keysG (grpM b.r.ends)
  ·obtain ⟨p,x,hp,hxn⟩:=keys_at hk
   have hx2:x.2=xs:=by rw [grp_ends hp,hxn,hxs]
   refine Exists.elim (at_exN (l:=b.zs) (i:=p) (by rw [hbz];exact (List.getElem?_eq_some_iff.1 hp).1)) fun zp hzp=>?_
   have hf:=(posN (grpM b.r.ends) nI).2 p x (grpM_ok b.r.ends).nod hp hxn
   have hvx:(valsV (grpM b.r.ends) b.zs)[p]? =some (.sl 1 (xs.map rowsA) (some zp)):=by rw [List.getElem?_zipWith,hp,hzp,<-hx2]
   refine WA.lookupG (im:=hmp) rfl rfl rfl rfl rfl rfl rfl rfl rfl hf hvx rfl ?_
   refine w_ ?_
   refine WA.nil (l:=[]) rfl ?_
   refine A.val 30 rfl (x':= .sl 1 (xs.map rowsA) none) .own1 ?_
   refine y_ ?_
   refine A.valE 31 rfl (x':=AI (xs.length:Nat)) (ai_eq nxs) ?_
   refine A.keep [0,1,2,3,4,5,6,30,31,32] rfl ?_
   refine A.loopP (ι:=Nat×Value×Nat) (fun v=>(⟨[(0,AI (i:Nat)),(1,rowsA out),(2, .pe 1 (.ms (.slice (some ⟨bb,o,none⟩) bs.length cp) 4 bs.length)),(3, .pe 1 (ptrA br)),(4, .pe 1 (AI (n:Nat))),(5,ptrA b8),(6, .pe 1 (rowsA s)),(30, .sl 1 (xs.map rowsA) none),(31,AI (xs.length:Nat)),(32,AI (v.1:Nat))],[]⟩,chE (.slice (some ⟨bb,o,none⟩) bs.length cp) bs cn br n b8 s v.2.1 v.2.2 (pickA r n ((xs.take v.1).flatMap G)))) (fun v=>v.1<=xs.length) (fun v=>xs.length-v.1) (0,z,m) (Nat.zero_le _) rfl fun v hv jh=>?_
   obtain ⟨k,z1,m1⟩:=v
   simp only at hv
   refine y_ ?_
   by_cases hck:k<xs.length
   ·refine Exists.elim (at_exN (l:=xs) (i:=k) hck) fun x hx=>?_
    have hxm:=List.mem_of_getElem? hx
    have hmg:=merge_p s out x hs ho (hxok x hxm)
    have ht:=flatT (f:=G) hx
    have h1:=flatLe G xs (k+1)
    rw [ht,List.length_append] at h1
    have hrk:RnOk V (pickA r n ((xs.take k).flatMap G)):=pickA_ok hr (fun y hy=>by
     obtain ⟨x',hx',hy⟩:=List.mem_flatMap.1 hy
     exact hGok x' (List.mem_of_mem_take hx') y hy) hn (by omega)
    have hrl:(pickA r n ((xs.take k).flatMap G)).ends.length<=r.ends.length+((xs.take k).flatMap G).length:=addN_len (m:=n) _ r.ends
    have hGx:G x=pick19 s ((eatB bs cn).drop (i+1)) (mergeM s out x):=by rw [hG]
    have hcall:=ih z1 m1 (pickA r n ((xs.take k).flatMap G)) (mergeM s out x) (merge_ok ho (hxok x hxm)) hrk (by rw [<-hGx];omega)
    rw [<-hGx,<-pickA_app,<-ht] at hcall
    refine T_ rfl (by show decide ((k:Int)<(xs.length:Nat))=true;rw [decide_eq_true_eq];omega) ?_
    refine i_ rfl (map_at hx) rfl ?_
    refine d_ 7 [0,1,2,3,4,5,6] [(6,rowsA (mergeM s out x))] ?_
    refine WA.c rfl rfl hmg (.sub s_) ?_
    refine WA.nil (l:=[]) rfl ?_
    refine A.valE 38 rfl (x':=AI ((i+1:Nat):Int)) (inc_eq i (by omega)) ?_
    refine A.entsEq (Λ':=chE (.slice (some ⟨bb,o,none⟩) bs.length cp) bs cn br n b8 s z1 m1 (pickA r n ((xs.take k).flatMap G))) rfl ?_
    refine A.e rfl hcall s_ (Λ2:=[]) (by rw [List.append_nil]) fun v _=>?_
    refine A.entsEq (List.append_nil _) ?_
    refine y_ ?_
    refine A.valE 32 rfl (x':=AI ((k+1:Nat):Int)) (inc_eq k (by omega)) ?_
    refine u_ (jh (k+1,v.1,v.2) (by show k+1<=_;omega) (by show _-(k+1)<_-k;omega))
   ·refine A.gF rfl (by show decide ((k:Int)<(xs.length:Nat))=false;rw [decide_eq_false_iff_not];omega) ?_
    have htk:xs.take k=xs:=List.take_of_length_le (by omega)
    refine A.entsEq (Λ':=chE (.slice (some ⟨bb,o,none⟩) bs.length cp) bs cn br n b8 s z1 m1 (pickA r n (xs.flatMap G))) (by show chE _ bs cn br n b8 s z1 m1 (pickA r n ((xs.take k).flatMap G))=_;rw [htk]) ?_
    refine y_ ?_
    exact A.ret0 rfl rfl (.refl _) ⟨(z1,m1), .refl,rfl,trivial⟩
  ·have hx0:xs=[]:=by rw [hxs];exact grp_none hk
   have hf:=(posN (grpM b.r.ends) nI).1 hk
   refine WA.lookupNilG (im:=hmp) rfl rfl rfl rfl rfl rfl rfl rfl rfl rfl rfl hf rfl ?_
   refine w_ ?_
   refine WA.nil (l:=[]) rfl ?_
   refine A.val 30 rfl (x':= .sl 1 [] none) .nil ?_
   refine A.valE 30 rfl (x':= .sl 1 (xs.map rowsA) none) (by rw [hx0];rfl) ?_
   refine e_ 31 rfl (x':=AI ((xs.map rowsA).length:Nat)) (by rw [hx0];rfl) ?_
   refine A.valE 31 rfl (x':=AI (xs.length:Nat)) (ai_eq nxs) ?_
   refine A.keep [0,1,2,3,4,5,6,30,31,32] rfl ?_
   refine A.loopP (ι:=Nat×Value×Nat) (fun v=>(⟨[(0,AI (i:Nat)),(1,rowsA out),(2, .pe 1 (.ms (.slice (some ⟨bb,o,none⟩) bs.length cp) 4 bs.length)),(3, .pe 1 (ptrA br)),(4, .pe 1 (AI (n:Nat))),(5,ptrA b8),(6, .pe 1 (rowsA s)),(30, .sl 1 (xs.map rowsA) none),(31,AI (xs.length:Nat)),(32,AI (v.1:Nat))],[]⟩,chE (.slice (some ⟨bb,o,none⟩) bs.length cp) bs cn br n b8 s v.2.1 v.2.2 (pickA r n ((xs.take v.1).flatMap G)))) (fun v=>v.1<=xs.length) (fun v=>xs.length-v.1) (0,z,m) (Nat.zero_le _) rfl fun v hv jh=>?_
   obtain ⟨k,z1,m1⟩:=v
   simp only at hv
   refine y_ ?_
   by_cases hck:k<xs.length
   ·refine Exists.elim (at_exN (l:=xs) (i:=k) hck) fun x hx=>?_
    have hxm:=List.mem_of_getElem? hx
    have hmg:=merge_p s out x hs ho (hxok x hxm)
    have ht:=flatT (f:=G) hx
    have h1:=flatLe G xs (k+1)
    rw [ht,List.length_append] at h1
    have hrk:RnOk V (pickA r n ((xs.take k).flatMap G)):=pickA_ok hr (fun y hy=>by
     obtain ⟨x',hx',hy⟩:=List.mem_flatMap.1 hy
     exact hGok x' (List.mem_of_mem_take hx') y hy) hn (by omega)
    have hrl:(pickA r n ((xs.take k).flatMap G)).ends.length<=r.ends.length+((xs.take k).flatMap G).length:=addN_len (m:=n) _ r.ends
    have hGx:G x=pick19 s ((eatB bs cn).drop (i+1)) (mergeM s out x):=by rw [hG]
    have hcall:=ih z1 m1 (pickA r n ((xs.take k).flatMap G)) (mergeM s out x) (merge_ok ho (hxok x hxm)) hrk (by rw [<-hGx];omega)
    rw [<-hGx,<-pickA_app,<-ht] at hcall
    refine T_ rfl (by show decide ((k:Int)<(xs.length:Nat))=true;rw [decide_eq_true_eq];omega) ?_
    refine i_ rfl (map_at hx) rfl ?_
    refine d_ 7 [0,1,2,3,4,5,6] [(6,rowsA (mergeM s out x))] ?_
    refine WA.c rfl rfl hmg (.sub s_) ?_
    refine WA.nil (l:=[]) rfl ?_
    refine A.valE 38 rfl (x':=AI ((i+1:Nat):Int)) (inc_eq i (by omega)) ?_
    refine A.entsEq (Λ':=chE (.slice (some ⟨bb,o,none⟩) bs.length cp) bs cn br n b8 s z1 m1 (pickA r n ((xs.take k).flatMap G))) rfl ?_
    refine A.e rfl hcall s_ (Λ2:=[]) (by rw [List.append_nil]) fun v _=>?_
    refine A.entsEq (List.append_nil _) ?_
    refine y_ ?_
    refine A.valE 32 rfl (x':=AI ((k+1:Nat):Int)) (inc_eq k (by omega)) ?_
    refine u_ (jh (k+1,v.1,v.2) (by show k+1<=_;omega) (by show _-(k+1)<_-k;omega))
   ·refine A.gF rfl (by show decide ((k:Int)<(xs.length:Nat))=false;rw [decide_eq_false_iff_not];omega) ?_
    have htk:xs.take k=xs:=List.take_of_length_le (by omega)
    refine A.entsEq (Λ':=chE (.slice (some ⟨bb,o,none⟩) bs.length cp) bs cn br n b8 s z1 m1 (pickA r n (xs.flatMap G))) (by show chE _ bs cn br n b8 s z1 m1 (pickA r n ((xs.take k).flatMap G))=_;rw [htk]) ?_
    refine y_ ?_
    exact A.ret0 rfl rfl (.refl _) ⟨(z1,m1), .refl,rfl,trivial⟩
abbrev bsE(zb:Value)(bs:List BR)(cn:List Nat)(br:Nat)(z:Value)(m:Nat)(r:RN):List AEnt:= .row 4 zb (rowB bs cn)::(rnL br z m r++bs.map mpB)
theorem meet_p{V:List KV}(zb:Value)(bs:List BR)(cn:List Nat)(br n:Nat)(s:Sto)(hs:StOk V s)(hb:BrsOk V bs)(hc:cn.length=bs.length)(hn:n<=256)(z:Value)(m:Nat)(r:RN)(hr:RnOk V r)(hl:r.ends.length+(pick19 s (eatB bs cn) s).length<=1048576):
 FunE Tryz.prog gs0 220 [ptrA br, .ms zb 4 bs.length,AI (n:Nat),rowsA s] (bsE zb bs cn br z m r) (fun _:Value×Nat=> .tp []) (fun u=>bsE zb bs cn br u.1 u.2 (meetR s (rsB bs) cn n r)) (fun _=>True):=by
 obtain ⟨rc,l,ms⟩:=r
 have hch:=fun b8=>choose19_p zb bs cn br n b8 s hs hb hc hn bs.length 0 (by omega) z m ⟨n,l,ms⟩ s hs ⟨hr.ends,hr.len⟩ (by rw [List.drop_zero];exact hl)
 unfold FunE
 refine Fun.of (S:=tt) (fn:=Tryz.f220) (n:=17) tt_ok Tryz.func220 rfl rfl rfl rfl fun w0 h0 F hgs=>?_
 (repeat refine A.s rfl ?_)
 refine A.b rfl fun b4=>?_
 refine A.b rfl fun b5=>?_
 refine A.b rfl fun b6=>?_
 refine A.b rfl fun b7=>?_
 refine A.freeze 4 (sz:=1) rfl rfl rfl ?_
 refine A.freeze 5 (sz:=1) rfl rfl rfl ?_
 refine A.freeze 6 (sz:=1) rfl rfl rfl ?_
 refine A.freeze 7 (sz:=1) rfl rfl rfl ?_
 refine A.entsEq (Λ':= .row 4 zb (rowB bs cn):: .box br (.ag [AI (rc:Nat), .ms z 2 l.length,mapA m l,AB ms]):: .row 2 z (l.map enA)::(mapL m l++bs.map mpB)) rfl ?_
 (repeat refine A.s rfl ?_)
 (repeat first|refine A.s rfl ?_|refine A.w rfl rfl ?_)
 refine A.b rfl fun b8=>?_
 refine y_ ?_
 refine A.entsEq (Λ':=chE zb bs cn br n b8 s z m ⟨n,l,ms⟩) rfl ?_
 refine A.e rfl (hch b8) s_ (Λ2:=[]) (by rw [List.append_nil]) fun v _=>?_
 refine A.entsEq (List.append_nil _) ?_
 refine A.less (Λ':=bsE zb bs cn br v.1 v.2 (meetR s (rsB bs) cn n ⟨rc,l,ms⟩)) (.cons _ (.refl _)) ?_
 refine y_ ?_
 exact A.ret0 rfl rfl (.refl _) ⟨v, .refl,rfl,trivial⟩
abbrev chA(p:PR):AV:=intsA (chansM p)
abbrev zrB:AV:= .ag (List.map AV.v ty302.zero)
abbrev zrR:AV:= .ag (List.map AV.v ty87.zero)
abbrev msR(ms:Bool):AV:= .ag [AI 0, .v (.slice none 0 0), .v (.map none),AB ms]
abbrev rowP(n:Nat)(bs:List BR):List AV:=bs.map (fun b=>brE b 0)++List.replicate (n-bs.length) zrB
theorem rowP_len{n:Nat}{bs:List BR}(h:bs.length<=n):(rowP n bs).length=n:=by
 rw [List.length_append,List.length_map,List.length_replicate];omega
theorem rowP_set{n:Nat}{bs:List BR}(b:BR)(h:bs.length<n):(rowP n bs).set bs.length (brE b 0)=rowP n (bs++[b]):=by
 unfold rowP
 rw [List.set_append_right _ _ (by rw [List.length_map];exact Nat.le_refl _),List.length_map,Nat.sub_self,List.map_append,List.append_assoc,List.length_append,List.length_singleton]
 congr 1
 rw [show n-bs.length=(n-(bs.length+1))+1 by omega,List.replicate_succ]
 rfl
theorem rowP_all{n:Nat}{bs:List BR}(h:bs.length=n):rowP n bs=rowB bs (bs.map fun _=>0):=by
 unfold rowP
 rw [h,Nat.sub_self,List.replicate_zero,List.append_nil]
 show _=bs.zipWith brE (bs.map fun _=>0)
 rw [List.zipWith_map_right,List.zipWith_self]
theorem keysV_set{g:GRP}{p:Nat}{x y:Nat×List Sto}(h:g[p]? =some x)(hy:y.1=x.1):keysV (g.set p y)=keysV g:=by
 apply List.ext_getElem?
 intro j
 rw [List.getElem?_map,List.getElem?_map,List.getElem?_set]
 by_cases hpj:p=j
 ·subst hpj
  rw [if_pos rfl,if_pos (List.getElem?_eq_some_iff.1 h).1,h,Option.map_some,Option.map_some,hy]
 ·rw [if_neg hpj]
theorem valsV_set(g:GRP)(zs:List Value)(p:Nat)(y:Nat×List Sto)(z:Value):valsV (g.set p y) (zs.set p z)=(valsV g zs).set p (valV y z):=by
 apply List.ext_getElem?
 intro j
 rw [List.getElem?_zipWith,List.getElem?_set,List.getElem?_set,List.getElem?_set,List.getElem?_zipWith,List.length_zipWith]
 by_cases hpj:p=j
 ·subst hpj
  rw [if_pos rfl,if_pos rfl,if_pos rfl]
  by_cases h1:p<g.length
  ·by_cases h2:p<zs.length
   ·rw [if_pos h1,if_pos h2,if_pos (by omega)]
   ·rw [if_pos h1,if_neg h2,if_neg (by omega)]
  ·by_cases h2:p<zs.length
   ·rw [if_neg h1,if_pos h2,if_neg (by omega)]
   ·rw [if_neg h1,if_neg h2,if_neg (by omega)]
 ·rw [if_neg hpj,if_neg hpj,if_neg hpj]
theorem valsV_snoc{g:GRP}{zs:List Value}(h:zs.length=g.length)(y:Nat×List Sto)(z:Value):valsV (g++[y]) (zs++[z])=valsV g zs++[valV y z]:=by
 show List.zipWith valV (g++[y]) (zs++[z])=_
 rw [List.zipWith_append h.symm];rfl
theorem splitL{α:Type}{l:List α}{p:Nat}{x:α}(h:l[p]? =some x): ∃A B,l=A++x::B/\ ∀y,l.set p y=A++y::B:=by
 have hp:=(List.getElem?_eq_some_iff.1 h).1
 refine ⟨l.take p,l.drop (p+1),?_,fun y=>?_⟩
 ·rw [<-(List.getElem?_eq_some_iff.1 h).2,<-List.drop_eq_getElem_cons hp,List.take_append_drop]
 ·rw [List.set_eq_take_append_cons_drop,if_pos hp]
theorem tail_front(P Q:List AEnt)(A B:List Value)(z:Value):(P++((A++z::B).map (AEnt.tail 1)++Q)).Perm (.tail 1 z::(P++((A++B).map (AEnt.tail 1)++Q))):=by
 have e1:P++((A++z::B).map (AEnt.tail 1)++Q)=(P++A.map (AEnt.tail 1))++(.tail 1 z::(B.map (AEnt.tail 1)++Q)):=by simp [List.append_assoc]
 have e2:P++((A++B).map (AEnt.tail 1)++Q)=(P++A.map (AEnt.tail 1))++(B.map (AEnt.tail 1)++Q):=by simp [List.append_assoc]
 rw [e1,e2];exact List.perm_middle
theorem perm4(a b c d:AEnt)(M:List AEnt):(a::b::c::d::M).Perm (c::b::a::(M++[d])):=
 List.Perm.append (show [a,b,c].Perm [c,b,a] from List.reverse_perm [c,b,a]) (List.perm_append_singleton d M).symm
theorem WA.valI{K:AC}{all:Array Oper}{m:Nat}{k:List It}{pubs:Nat->List Nat}{Y:Ua}{π:List Nat}{E:AEnv}{Λ:List AEnt}{D:Da}(t:Nat){x x':AV}(hx:lookA E.us t=some x)(hs: ∀(h:GH) y,Rp h x y->Rp h x' y)(next:WA K all m k pubs Y π ⟨(t,x')::E.us,E.cs⟩ Λ D):WA K all m k pubs Y π E Λ D:=by
 refine ⟨fun h e L Es hl r q d=>?_⟩
 rcases r.1.look t with ⟨y,v,e1,e2,e3⟩|⟨e1,e2⟩
 ·rw [hx] at e1;injection e1 with e1;subst e1
  exact WE.val (G:=drawRg K.cfg all (L++K.G) pubs (YA Y) m k) t e2 rfl (next.run h ⟨(t,v)::e.us,e.cs⟩ L Es hl ⟨r.1.put (hs _ _ e3),r.2⟩ q d)
 ·rw [hx] at e1;cases e1
structure ParIn(V:List KV)(C:List Int)(f:Nat)(op:List Int)(l:List PR):Prop where
 un: ∀x,x∈l->Un V C x
 sm: ∀x,x∈l->smR x
 run: ∀x,x∈l->RunC V f x
 way:wayL l f<=2000
 op:op.length+(rawCl l).length<=1048576
 len:l.length<=2048
theorem par19_p{V:List KV}{C:List Int}(f:Nat)(hf:f<=1048576)(op:List Int)(t:TR)(s:Sto)(l:List PR)(I:ParIn V C f op l)(ht:TrI t)(htl:t.length<=256)(hs:StOk V s):Pure Tryz.prog gs0 141 [whA t op f,rsA l,rowsA s] (rnV (parM (l.map chansM) (brsR f op (l.map chansM) 0 t s l) t s)):=by
 have hln:=I.len
 have n1:((encRl l).length:Int)=l.length:=by rw [encRl_len]
 refine Exists.elim (show∃RS,RS=brsR f op (l.map chansM) 0 t s l from ⟨_,rfl⟩) fun RS hRS=>?_
 refine Exists.elim (show∃PM,PM=parM (l.map chansM) RS t s from ⟨_,rfl⟩) fun PM hPM=>?_
 rw [<-hRS,<-hPM]
 refine p_ tt_ok Tryz.func141 144 fun w0 h0 F hgs=>?_
 (repeat refine A.s rfl ?_)
 refine A.b rfl fun b3=>?_
 refine A.b rfl fun b6=>?_
 refine y_ ?_
 refine A.emptyRow 7 1 rfl fun z0=>?_
 refine A.valE 22 rfl (x':=AI (l.length:Nat)) (ai_eq n1) ?_
 refine A.keep [1,2,3,6,7,21,22,23] rfl ?_
 refine A.loopP (ι:=Nat×Value) (fun v=>(⟨[(1,rsA l),(2,rowsA s),(3,ptrA b3),(6,ptrA b6),(7, .ms v.2 1 (l.take v.1).length),(21,rsA l),(22,AI (l.length:Nat)),(23,AI (v.1:Nat))],[]⟩,[.row 1 v.2 ((l.take v.1).map chA), .box b6 zrR, .box b3 (whA t op f)])) (fun v=>v.1<=l.length) (fun v=>l.length-v.1) (0,z0) (Nat.zero_le _) rfl fun v hv ih=>?_
 obtain ⟨i,z⟩:=v
 simp only at hv
 refine y_ ?_
 by_cases hci:i<l.length
 ·refine Exists.elim (at_exN (l:=l) (i:=i) hci) fun x hx=>?_
  have hxm:=List.mem_of_getElem? hx
  have hch:=chans_p x (I.sm x hxm) (by have:=rawCl_mem hxm;have:=I.op;omega)
  have htk:=take19 hx
  have hml:(l.take i).length<=2048:=by rw [List.length_take];omega
  refine T_ rfl (by show decide ((i:Int)<(l.length:Nat))=true;rw [decide_eq_true_eq];omega) ?_
  refine j_ rfl (encRl_at hx) (encR_eq x) ?_
  (repeat refine A.s rfl ?_)
  refine A.b rfl fun b9=>?_
  refine y_ ?_
  refine n_ hch ?_
  refine t_ fun bl=>?_
  refine A.appendRowE rfl rfl rfl rfl rfl rfl rfl rfl rfl rfl rfl rfl rfl rfl (by show (((l.take i).map chA).length+1)*1<=_;rw [List.length_map];omega) (by show (((l.take i).map chA).length+1)*1*24<=_;rw [List.length_map];omega) fun z2=>?_
  refine y_ ?_
  refine A.valE 23 rfl (x':=AI ((i+1:Nat):Int)) (inc_eq i (by omega)) ?_
  refine A.valE 7 rfl (x':= .ms z2 1 (l.take (i+1)).length) (by rw [htk,List.length_append,List.length_map];rfl) ?_
  refine l_ (Λ':=[.row 1 z2 ((l.take i).map chA++[chA x]), .box b6 zrR, .box b3 (whA t op f)]) ?_
  refine A.entsEq (Λ':=[.row 1 z2 ((l.take (i+1)).map chA), .box b6 zrR, .box b3 (whA t op f)]) (by rw [htk,List.map_append];rfl) ?_
  refine u_ (ih (i+1,z2) (by show i+1<=_;omega) (by show _-(i+1)<_-i;omega))
 refine A.gF rfl (by show decide ((i:Int)<(l.length:Nat))=false;rw [decide_eq_false_iff_not];omega) ?_
 have htl':l.take i=l:=List.take_of_length_le (by omega)
 clear ih
 refine A.valE 7 rfl (x':= .ms z 1 l.length) (by rw [htl']) ?_
 refine A.entsEq (Λ':=[.row 1 z (l.map chA), .box b6 zrR, .box b3 (whA t op f)]) (by show [AEnt.row 1 z ((l.take i).map chA),_,_]=_;rw [htl']) ?_
 refine A.freezeRow 7 rfl ?_
 refine y_ ?_
 refine A.valE 34 rfl (x':=AI (l.length:Nat)) (ai_eq n1) ?_
 refine A.makeV rfl rfl rfl rfl rfl rfl rfl rfl rfl rfl rfl rfl (by omega) (by show (48:Int)*_<=_;omega) (by omega) fun a cp hcp=>?_
 refine y_ ?_
 refine A.valE 37 rfl (x':=AI (l.length:Nat)) (ai_eq n1) ?_
 refine A.keep [1,2,3,6,7,10,36,37,38] rfl ?_
 refine A.loopP (ι:=List BR) (fun bs=>(⟨[(1,rsA l),(2,rowsA s),(3,ptrA b3),(6,ptrA b6),(7, .sl 1 (l.map chA) none),(10, .ms (.slice a l.length cp) 4 l.length),(36,rsA l),(37,AI (l.length:Nat)),(38,AI (bs.length:Nat))],[]⟩, .row 4 (.slice a l.length cp) (rowP l.length bs):: .box b6 (msR ((rsB bs).any (·.miss))):: .box b3 (whA t op f)::bs.map mpB))
  (fun bs=>bs.length<=l.length/\chB bs=(l.take bs.length).map chansM/\rsB bs=RS.take bs.length/\ ∀b,b∈bs->b.zs.length=(grpM b.r.ends).length) (fun bs=>l.length-bs.length) [] ⟨Nat.zero_le _,rfl,rfl,fun b h=>by cases h⟩ rfl fun bs hv ih=>?_
 obtain ⟨hb1,hb2,hb3,hb4⟩:=hv
 refine y_ ?_
 by_cases hci:bs.length<l.length
 ·refine Exists.elim (at_exN (l:=l) (i:=bs.length) hci) fun x hx=>?_
  have hxm:=List.mem_of_getElem? hx
  refine Exists.elim (show∃i,i=bs.length from ⟨_,rfl⟩) fun i hi=>?_
  refine Exists.elim (show∃ALL,ALL=l.map chansM from ⟨_,rfl⟩) fun ALL hALL=>?_
  have hAl:ALL.length=l.length:=by rw [hALL,List.length_map]
  have hol: ∀j,(opJ op ALL i j).length<=1048576:=fun j=>by
   have h1:=opJ_len op ALL i j
   have h2:=chs_len l
   have h3:=I.op
   rw [hALL] at h1
   rw [hALL]
   omega
  refine A.gT rfl (by show decide ((bs.length:Int)<(l.length:Nat))=true;rw [decide_eq_true_eq];omega) ?_
  refine e_ 38 rfl (x':=AI (i:Nat)) (by rw [hi]) ?_
  refine j_ rfl (encRl_at (by rw [hi];exact hx)) (encR_eq x) ?_
  (repeat refine A.s rfl ?_)
  refine A.b rfl fun b12=>?_
  refine y_ ?_
  refine A.lit0 rfl rfl rfl rfl rfl rfl rfl fun bl=>?_
  refine y_ ?_
  refine A.appendF rfl rfl rfl rfl rfl rfl rfl rfl rfl rfl rfl rfl rfl rfl (by show (0+(op.map AI).length)*1<=_;rw [List.length_map];have:=I.op;omega) (fun h=>by cases h) (fun x h=>by injection h with h;rw [<-h]) fun z1=>?_
  refine y_ ?_
  refine Exists.elim (show∃REST,REST=AEnt.row 4 (.slice a l.length cp) (rowP l.length bs):: .box b6 (msR ((rsB bs).any (·.miss))):: .box b3 (whA t op f)::bs.map mpB from ⟨_,rfl⟩) fun REST hREST=>?_
  have n4:((l.map chA).length:Int)=l.length:=by rw [List.length_map]
  refine A.valE 48 rfl (x':=AI (l.length:Nat)) (ai_eq n4) ?_
  refine A.valE 13 rfl (x':= .sl 1 ((opJ op ALL i 0).map AI) (some z1)) (by rw [opJ_zero];rfl) ?_
  refine A.keep [1,2,3,6,7,10,11,12,13,36,37,38,47,48,49] rfl ?_
  refine A.entsEq (Λ':= .tail 1 z1:: .box b12 (cellsR x)::REST) (by rw [hREST];rfl) ?_
  refine A.loopP (ι:=Nat×Value) (fun v=>(⟨[(1,rsA l),(2,rowsA s),(3,ptrA b3),(6,ptrA b6),(7, .sl 1 (l.map chA) none),(10, .ms (.slice a l.length cp) 4 l.length),(11,AI (i:Nat)),(12,ptrA b12),(13, .sl 1 ((opJ op ALL i v.1).map AI) (some v.2)),(36,rsA l),(37,AI (l.length:Nat)),(38,AI (i:Nat)),(47, .sl 1 (l.map chA) none),(48,AI (l.length:Nat)),(49,AI (v.1:Nat))],[]⟩, .tail 1 v.2:: .box b12 (cellsR x)::REST)) (fun v=>v.1<=l.length) (fun v=>l.length-v.1) (0,z1) (Nat.zero_le _) rfl fun v hv jh=>?_
  obtain ⟨j,z⟩:=v
  simp only at hv
  refine y_ ?_
  by_cases hcj:j<l.length
  ·refine Exists.elim (at_exN (l:=l) (i:=j) hcj) fun y hy=>?_
   have hyA:ALL[j]? =some (chansM y):=by rw [hALL];exact map_at hy
   refine T_ rfl (by show decide ((j:Int)<(l.length:Nat))=true;rw [decide_eq_true_eq];omega) ?_
   refine i_ rfl (map_at hy) rfl ?_
   by_cases hji:j=i
   ·refine F_ rfl (by show (((j:Nat):Int) !=((i:Nat):Int))=false;rw [hji];simp) ?_
    refine A.valE 49 rfl (x':=AI ((j+1:Nat):Int)) (inc_eq j (by omega)) ?_
    refine A.valE 13 rfl (x':= .sl 1 ((opJ op ALL i (j+1)).map AI) (some z)) (by rw [hji,opJ_skip]) ?_
    refine u_ (jh (j+1,z) (by show j+1<=_;omega) (by show _-(j+1)<_-j;omega))
   ·have hnx:=opJ_next (op:=op) hyA hji
    have hln2:=hol (j+1)
    rw [hnx,List.length_append] at hln2
    refine T_ rfl (by show (((j:Nat):Int) !=((i:Nat):Int))=true;rw [bne_iff_ne];omega) ?_
    refine A.append (i:=by exact ATl.here) rfl rfl rfl rfl rfl rfl rfl rfl rfl rfl rfl rfl rfl rfl (by show (((opJ op ALL i j).map AI).length+((chansM y).map AI).length)*1<=_;rw [List.length_map,List.length_map];omega) fun z2=>?_
    refine y_ ?_
    refine A.valE 49 rfl (x':=AI ((j+1:Nat):Int)) (inc_eq j (by omega)) ?_
    refine A.valE 13 rfl (x':= .sl 1 ((opJ op ALL i (j+1)).map AI) (some z2)) (by show AV.sl 1 ((opJ op ALL i j).map AI++(chansM y).map AI) (some z2)=_;rw [hnx,List.map_append]) ?_
    refine u_ (jh (j+1,z2) (by show j+1<=_;omega) (by show _-(j+1)<_-j;omega))
  refine A.gF rfl (by show decide ((j:Int)<(l.length:Nat))=false;rw [decide_eq_false_iff_not];omega) ?_
  have hjl:j=ALL.length:=by rw [hAl];have:j<=l.length:=hv;omega
  refine y_ ?_
  refine A.valE 13 rfl (x':= .sl 1 ((openM op ALL i).map AI) (some z)) (by show AV.sl 1 ((opJ op ALL i j).map AI) (some z)=_;rw [hjl,opJ_end (by rw [hAl];omega)]) ?_
  clear jh
  have hix:l[i]? =some x:=by rw [hi];exact hx
  have hqs:RS[i]? =some (runR f (openM op ALL i) (onlyT t (chansM x)) s x):=by
   rw [hRS,brs_at,hix]
   show some (runR f (openM op (l.map chansM) (0+i)) (onlyT t (((l.map chansM)[0+i]?).getD [])) s x)=_
   rw [Nat.zero_add,map_at hix,hALL];rfl
  have hcl:=chans_len x
  have hrl:=rawCl_mem hxm
  have hop:=I.op
  have hon:=only_p t (chansM x) (by omega) (by omega)
  have hrun:=I.run x hxm (openM op ALL i) (onlyT t (chansM x)) s (by rw [hALL];have:=open_len op l hix;omega) (only_i ht _) (by have:=only_len t (chansM x);omega) hs
  refine Exists.elim (show∃q,q=runR f (openM op ALL i) (onlyT t (chansM x)) s x from ⟨_,rfl⟩) fun q hq=>?_
  rw [<-hq] at hqs hrun
  refine A.keep [1,2,3,6,7,10,11,12,13,36,37,38] rfl ?_
  refine A.entsEq (Λ':= .tail 1 z:: .box b12 (cellsR x):: .row 4 (.slice a l.length cp) (rowP l.length bs):: .box b6 (msR ((rsB bs).any (·.miss))):: .box b3 (whA t op f)::bs.map mpB) (by rw [hREST]) ?_
  refine d_ 15 [0,1,2,3,4,5,7,8,9,11,12,14,6,10,13] [(6,trA (onlyT t (chansM x))),(13,rnV q)] ?_
  refine iw_ rfl (map_at hix) rfl ?_
  refine WA.alloc rfl rfl rfl rfl rfl rfl rfl rfl fun b16=>?_
  refine cw_ hon ?_
  refine WA.c rfl rfl hrun (.sub s_) ?_
  refine WA.nil (l:=[_]) rfl ?_
  refine y_ ?_
  refine A.less (Λ':= .box b16 (rnV q):: .row 4 (.slice a l.length cp) (rowP l.length bs):: .box b6 (msR ((rsB bs).any (·.miss))):: .box b3 (whA t op f)::bs.map mpB) (List.Sublist.cons_cons _ (List.Sublist.cons _ (List.Sublist.cons _ (.refl _)))) ?_
  refine d_ 10 [0,1,2,3,4,5,6,7,8,9] [] ?_
  refine iw_ rfl (map_at hix) rfl ?_
  refine WA.makeMap rfl rfl rfl rfl rfl rfl fun bm=>?_
  refine w_ ?_
  refine WA.nil (l:=[_]) rfl ?_
  refine A.entsEq (Λ':= .mp bm [] []:: .box b16 (rnV q):: .row 4 (.slice a l.length cp) (rowP l.length bs):: .box b6 (msR ((rsB bs).any (·.miss))):: .box b3 (whA t op f)::bs.map mpB) rfl ?_
  refine Exists.elim (show∃b0:BR,b0=⟨chansM x,bm,[],q⟩ from ⟨_,rfl⟩) fun b0 hb0=>?_
  have hpl:(rowP l.length bs).length=l.length:=rowP_len (by omega)
  have hset:=rowP_set b0 hci
  have hxs:(rowP l.length bs).set ((i:Nat):Int).toNat (.ag (chA x:: .v (.map (some bm))::AI (q.reach:Nat)::List.map AV.v [Value.int .i64 0]))=rowP l.length (bs++[b0]):=by
   rw [<-hset,Int.toNat_natCast,<-hi]
   congr 1
   rw [hb0];rfl
  refine A.indexRow rfl rfl rfl rfl rfl rfl rfl rfl (by show (0:Int)<=(i:Nat);omega) (by show ((i:Nat):Int)<_;rw [hpl];omega) rfl ?_
  refine A.storeRow rfl rfl rfl rfl rfl rfl rfl rfl rfl (by show ((i:Nat):Int).toNat<_;rw [hpl];omega) (xs':=rowP l.length (bs++[b0])) hxs ?_
  refine Exists.elim (show∃ms1,ms1=((rsB bs).any (·.miss)||q.miss) from ⟨_,rfl⟩) fun ms1 hms1=>?_
  refine Exists.elim (show∃RW,RW=rowP l.length (bs++[b0]) from ⟨_,rfl⟩) fun RW hRW=>?_
  have hRl:RW.length=l.length:=by rw [hRW];exact rowP_len (by rw [List.length_append];show bs.length+1<=_;omega)
  have hai:RW[i]? =some (.ag [chA x, .v (.map (some bm)),AI (q.reach:Nat),AI 0]):=by
   rw [hRW]
   unfold rowP
   rw [List.getElem?_append_left (by rw [List.length_map,List.length_append,hi];show _<_+1;omega),List.getElem?_map,hi,List.getElem?_append_right (Nat.le_refl _),Nat.sub_self,hb0]
   rfl
  have hql:q.ends.length<=2000:=by
   have:=len_run x f (openM op ALL i) (onlyT t (chansM x)) s
   rw [<-hq] at this
   have h2:=wayL_mem I.way hxm
   omega
  have nq:((q.ends.map enA).length:Int)=q.ends.length:=by rw [List.length_map]
  refine A.entsEq (Λ':= .mp bm [] []:: .box b16 (rnV q):: .row 4 (.slice a l.length cp) RW:: .box b6 (msR ((rsB bs).any (·.miss))):: .box b3 (whA t op f)::bs.map mpB) (by rw [hRW]) ?_
  refine A.rowSome (a:=a) (n:=l.length) (c:=cp) (sz:=4) (l:=RW) (fun h=>by rw [h] at hRl;simp at hRl;omega) fun bb o ha=>?_
  subst ha
  by_cases hmb:(rsB bs).any (·.miss)=true
  ·refine A.entsEq (Λ':= .mp bm [] []:: .box b16 (rnV q):: .row 4 (.slice (some ⟨bb,o,none⟩) l.length cp) RW:: .box b6 (msR true):: .box b3 (whA t op f)::bs.map mpB) (by rw [hmb]) ?_
   have hms0:=hms1
   rw [hmb,Bool.true_or] at hms1
   refine y_ ?_
   refine A.perm (Λ':= .mp bm [] []:: .row 4 (.slice (some ⟨bb,o,none⟩) l.length cp) RW:: .box b16 (rnV q):: .box b6 (msR ms1):: .box b3 (whA t op f)::bs.map mpB) (by rw [hms1];exact (List.Perm.cons _ (List.Perm.swap _ _ _))) ?_
   refine A.valE 95 rfl (x':=AI (q.ends.length:Nat)) (ai_eq nq) ?_
   refine A.keep [1,2,3,6,7,10,11,36,37,38,94,95,96] rfl ?_
   refine l_ (Λ':= .mp bm [] []:: .row 4 (.slice (some ⟨bb,o,none⟩) l.length cp) RW:: .box b6 (msR ms1):: .box b3 (whA t op f)::bs.map mpB) ?_
   refine A.loopP (ι:=Nat×List Value) (fun v=>(⟨[(1,rsA l),(2,rowsA s),(3,ptrA b3),(6,ptrA b6),(7, .sl 1 (l.map chA) none),(10, .ms (.slice (some ⟨bb,o,none⟩) l.length cp) 4 l.length),(11,AI (i:Nat)),(36,rsA l),(37,AI (l.length:Nat)),(38,AI (i:Nat)),(94, .sl 2 (q.ends.map enA) none),(95,AI (q.ends.length:Nat)),(96,AI (v.1:Nat))],[]⟩, .mp bm (keysV (grpM (q.ends.take v.1))) (valsV (grpM (q.ends.take v.1)) v.2):: .row 4 (.slice (some ⟨bb,o,none⟩) l.length cp) RW:: .box b6 (msR ms1):: .box b3 (whA t op f)::(v.2.map (AEnt.tail 1)++bs.map mpB))) (fun v=>v.1<=q.ends.length/\v.2.length=(grpM (q.ends.take v.1)).length) (fun v=>q.ends.length-v.1) (0,[]) ⟨Nat.zero_le _,rfl⟩ rfl fun v hv kh=>?_
   obtain ⟨k,zs⟩:=v
   obtain ⟨hk1,hk2⟩:=hv
   simp only at hk1 hk2
   refine y_ ?_
   by_cases hck:k<q.ends.length
   ·refine Exists.elim (at_exN (l:=q.ends) (i:=k) hck) fun e he=>?_
    have hgn:=grpM_next he
    refine Exists.elim (show∃g,g=grpM (q.ends.take k) from ⟨_,rfl⟩) fun g hg=>?_
    have hnod:(keysG g).Nodup:=by rw [hg];exact (grpM_ok _).nod
    rw [<-hg] at hk2 hgn
    refine T_ rfl (by show decide ((k:Int)<(q.ends.length:Nat))=true;rw [decide_eq_true_eq];omega) ?_
    refine j_ rfl (map_at he) rfl ?_
    (repeat refine A.s rfl ?_)
    refine A.b rfl fun b18=>?_
    refine y_ ?_
    refine A.entsEq (Λ':= .box b18 (enA e):: .mp bm (keysV g) (valsV g zs):: .row 4 (.slice (some ⟨bb,o,none⟩) l.length cp) RW:: .box b6 (msR ms1):: .box b3 (whA t op f)::(zs.map (AEnt.tail 1)++bs.map mpB)) (by rw [hg];rfl) ?_
    by_cases hke:e.1∈keysG g
    ·obtain ⟨p,x1,hp,hx1⟩:=keys_at hke
     refine Exists.elim (at_exN (l:=zs) (i:=p) (by rw [hk2];exact (List.getElem?_eq_some_iff.1 hp).1)) fun zp hzp=>?_
     obtain ⟨ZA,ZB,hzs,hzset⟩:=splitL hzp
     have hf:=(posN g e.1).2 p x1 hnod hp hx1
     have hvx:(valsV g zs)[p]? =some (.sl 1 (x1.2.map rowsA) (some zp)):=by rw [List.getElem?_zipWith,hp,hzp]
     have hat:(keysV g)[p]? =some (kyV e.1):=by rw [List.getElem?_map,hp,<-hx1];rfl
     have hxl:(x1.2.map rowsA).length<=2000:=by
      rw [List.length_map,grp_ends (r:=⟨0,q.ends.take k,false⟩) (p:=p) (x:=x1) (by rw [<-hp,hg])]
      unfold endsAt
      rw [List.length_map]
      exact Nat.le_trans (List.length_filter_le ..) (by show (q.ends.take k).length<=_;rw [List.length_take];omega)
     refine A.perm (Λ':= .tail 1 zp:: .box b18 (enA e):: .mp bm (keysV g) (valsV g zs):: .row 4 (.slice (some ⟨bb,o,none⟩) l.length cp) RW:: .box b6 (msR ms1):: .box b3 (whA t op f)::((ZA++ZB).map (AEnt.tail 1)++bs.map mpB)) (by rw [hzs];exact tail_front [_,_,_,_,_] _ _ _ _) ?_
     refine A.drawT 18 1 zp 19 [0,1,2,3,4,5,6,7,8,9,10,11,12,13,14,15,16,17,18] (fun i=>if i=18 then [17] else []) [] (by decide) rfl (by kernel_rfl) ?_
     refine w_ ?_
     refine WA.indexRow rfl rfl rfl rfl rfl rfl rfl rfl rfl (by show (0:Int)<=(i:Nat);omega) (by show ((i:Nat):Int)<_;rw [hRl];omega) rfl ?_
     refine WA.epV 102 rfl ?_
     refine w_ ?_
     refine WA.loadPart i 1 rfl rfl rfl rfl rfl l.length cp o (by rw [Int.toNat_natCast]) hai (y:= .v (.map (some bm))) rfl rfl ?_
     refine w_ ?_
     refine WA.indexRow rfl rfl rfl rfl rfl rfl rfl rfl rfl (by show (0:Int)<=(i:Nat);omega) (by show ((i:Nat):Int)<_;rw [hRl];omega) rfl ?_
     refine WA.epV 109 rfl ?_
     refine w_ ?_
     refine WA.loadPart i 1 rfl rfl rfl rfl rfl l.length cp o (by rw [Int.toNat_natCast]) hai (y:= .v (.map (some bm))) rfl rfl ?_
     refine w_ ?_
     refine WA.lookupG rfl rfl rfl rfl rfl rfl rfl rfl rfl hf hvx rfl ?_
     refine w_ ?_
     refine WA.lit rfl rfl rfl rfl rfl rfl rfl fun bw=>?_
     refine WA.append rfl rfl rfl rfl rfl rfl rfl rfl rfl rfl rfl rfl rfl rfl rfl rfl rfl rfl (.pub (j:=17) rfl rfl (.sub .refl)) (by show ((x1.2.map rowsA).length+1)*1<=_;omega) fun z'=>?_
     refine WA.nil (l:=[.tail 1 z']) rfl ?_
     refine A.entsEq (Λ':= .tail 1 z':: .box b18 (enA e):: .mp bm (keysV g) (valsV g zs):: .row 4 (.slice (some ⟨bb,o,none⟩) l.length cp) RW:: .box b6 (msR ms1):: .box b3 (whA t op f)::((ZA++ZB).map (AEnt.tail 1)++bs.map mpB)) rfl ?_
     refine A.updateS rfl rfl rfl rfl rfl rfl rfl rfl rfl hf hat rfl ?_
     refine y_ ?_
     refine A.valE 96 rfl (x':=AI ((k+1:Nat):Int)) (inc_eq k (by omega)) ?_
     have hgs:grpM (q.ends.take (k+1))=g.set p (x1.1,x1.2++[e.2]):=by rw [hgn,grpA_at hnod hp hx1]
     refine A.entsEq (Λ':= .mp bm (keysV (grpM (q.ends.take (k+1)))) (valsV (grpM (q.ends.take (k+1))) (ZA++z'::ZB)):: .tail 1 z':: .box b18 (enA e):: .row 4 (.slice (some ⟨bb,o,none⟩) l.length cp) RW:: .box b6 (msR ms1):: .box b3 (whA t op f)::((ZA++ZB).map (AEnt.tail 1)++bs.map mpB)) (by
      rw [hgs,keysV_set (y:=(x1.1,x1.2++[e.2])) hp rfl,<-hzset,valsV_set]
      show AEnt.mp bm _ ((valsV g zs).set p (.sl 1 (x1.2.map rowsA++[rowsA e.2]) (some z')))::_=AEnt.mp bm _ ((valsV g zs).set p (.sl 1 ((x1.2++[e.2]).map rowsA) (some z')))::_
      rw [show (x1.2++[e.2]).map rowsA=x1.2.map rowsA++[rowsA e.2] by rw [List.map_append];rfl]) ?_
     refine A.less (Λ':= .mp bm (keysV (grpM (q.ends.take (k+1)))) (valsV (grpM (q.ends.take (k+1))) (ZA++z'::ZB)):: .tail 1 z':: .row 4 (.slice (some ⟨bb,o,none⟩) l.length cp) RW:: .box b6 (msR ms1):: .box b3 (whA t op f)::((ZA++ZB).map (AEnt.tail 1)++bs.map mpB)) (.cons_cons _ (.cons_cons _ (.cons _ (.refl _)))) ?_
     refine A.perm (Λ':= .mp bm (keysV (grpM (q.ends.take (k+1)))) (valsV (grpM (q.ends.take (k+1))) (ZA++z'::ZB)):: .row 4 (.slice (some ⟨bb,o,none⟩) l.length cp) RW:: .box b6 (msR ms1):: .box b3 (whA t op f)::((ZA++z'::ZB).map (AEnt.tail 1)++bs.map mpB)) ((List.Perm.swap _ _ _).trans (tail_front [_,_,_,_] _ _ _ _).symm) ?_
     refine u_ (kh (k+1,ZA++z'::ZB) ⟨by show k+1<=_;omega,by
      show (ZA++z'::ZB).length=(grpM (q.ends.take (k+1))).length
      rw [hgs,List.length_set,<-hk2,hzs,List.length_append,List.length_append];rfl⟩ (by show _-(k+1)<_-k;omega))
    ·have hf:=(posN g e.1).1 hke
     have hgs:grpM (q.ends.take (k+1))=g++[(e.1,[e.2])]:=by rw [hgn,grpA_new hke]
     refine A.fullTail 1 0 none (fun _=>rfl) (fun x hx=>by cases hx) ?_
     refine A.drawT 18 1 (.slice none 0 0) 19 [0,1,2,3,4,5,6,7,8,9,10,11,12,13,14,15,16,17,18] (fun i=>if i=18 then [17] else []) [] (by decide) rfl (by kernel_rfl) ?_
     refine w_ ?_
     refine WA.indexRow rfl rfl rfl rfl rfl rfl rfl rfl rfl (by show (0:Int)<=(i:Nat);omega) (by show ((i:Nat):Int)<_;rw [hRl];omega) rfl ?_
     refine WA.epV 102 rfl ?_
     refine w_ ?_
     refine WA.loadPart i 1 rfl rfl rfl rfl rfl l.length cp o (by rw [Int.toNat_natCast]) hai (y:= .v (.map (some bm))) rfl rfl ?_
     refine w_ ?_
     refine WA.indexRow rfl rfl rfl rfl rfl rfl rfl rfl rfl (by show (0:Int)<=(i:Nat);omega) (by show ((i:Nat):Int)<_;rw [hRl];omega) rfl ?_
     refine WA.epV 109 rfl ?_
     refine w_ ?_
     refine WA.loadPart i 1 rfl rfl rfl rfl rfl l.length cp o (by rw [Int.toNat_natCast]) hai (y:= .v (.map (some bm))) rfl rfl ?_
     refine w_ ?_
     refine WA.lookupNilG rfl rfl rfl rfl rfl rfl rfl rfl rfl rfl rfl hf rfl ?_
     refine WA.valI 114 rfl (x':= .sl 1 [] (some (.slice none 0 0))) (fun h y r=>nil_own 1 r) ?_
     refine w_ ?_
     refine WA.lit rfl rfl rfl rfl rfl rfl rfl fun bw=>?_
     refine WA.append rfl rfl rfl rfl rfl rfl rfl rfl rfl rfl rfl rfl rfl rfl rfl rfl rfl rfl (.pub (j:=17) rfl rfl (.sub .refl)) (by show (0+1)*1<=1073741824;decide) fun z'=>?_
     refine WA.nil (l:=[.tail 1 z']) rfl ?_
     refine A.entsEq (Λ':= .tail 1 z':: .box b18 (enA e):: .mp bm (keysV g) (valsV g zs):: .row 4 (.slice (some ⟨bb,o,none⟩) l.length cp) RW:: .box b6 (msR ms1):: .box b3 (whA t op f)::(zs.map (AEnt.tail 1)++bs.map mpB)) rfl ?_
     refine A.updateG rfl rfl rfl rfl rfl rfl rfl rfl rfl hf rfl ?_
     refine y_ ?_
     refine A.valE 96 rfl (x':=AI ((k+1:Nat):Int)) (inc_eq k (by omega)) ?_
     refine A.entsEq (Λ':= .mp bm (keysV (grpM (q.ends.take (k+1)))) (valsV (grpM (q.ends.take (k+1))) (zs++[z'])):: .tail 1 z':: .box b18 (enA e):: .row 4 (.slice (some ⟨bb,o,none⟩) l.length cp) RW:: .box b6 (msR ms1):: .box b3 (whA t op f)::(zs.map (AEnt.tail 1)++bs.map mpB)) (by
      rw [hgs,valsV_snoc hk2]
      show _=AEnt.mp bm ((g++[(e.1,[e.2])]).map fun x=>kyV x.1) _::_
      rw [List.map_append];rfl) ?_
     refine A.less (Λ':= .mp bm (keysV (grpM (q.ends.take (k+1)))) (valsV (grpM (q.ends.take (k+1))) (zs++[z'])):: .tail 1 z':: .row 4 (.slice (some ⟨bb,o,none⟩) l.length cp) RW:: .box b6 (msR ms1):: .box b3 (whA t op f)::(zs.map (AEnt.tail 1)++bs.map mpB)) (.cons_cons _ (.cons_cons _ (.cons _ (.refl _)))) ?_
     refine A.perm (Λ':= .mp bm (keysV (grpM (q.ends.take (k+1)))) (valsV (grpM (q.ends.take (k+1))) (zs++[z'])):: .row 4 (.slice (some ⟨bb,o,none⟩) l.length cp) RW:: .box b6 (msR ms1):: .box b3 (whA t op f)::((zs++[z']).map (AEnt.tail 1)++bs.map mpB)) ((List.Perm.swap _ _ _).trans (by
      have:=(tail_front [AEnt.mp bm (keysV (grpM (q.ends.take (k+1)))) (valsV (grpM (q.ends.take (k+1))) (zs++[z'])), .row 4 (.slice (some ⟨bb,o,none⟩) l.length cp) RW, .box b6 (msR ms1), .box b3 (whA t op f)] (bs.map mpB) zs [] z').symm
      rw [List.append_nil] at this
      exact this)) ?_
     refine u_ (kh (k+1,zs++[z']) ⟨by show k+1<=_;omega,by
      show (zs++[z']).length=(grpM (q.ends.take (k+1))).length
      rw [hgs,List.length_append,List.length_append,hk2];rfl⟩ (by show _-(k+1)<_-k;omega))
   refine A.gF rfl (by show decide ((k:Int)<(q.ends.length:Nat))=false;rw [decide_eq_false_iff_not];omega) ?_
   have hkt:q.ends.take k=q.ends:=List.take_of_length_le (by omega)
   rw [hkt] at hk2
   clear kh
   refine Exists.elim (show∃bs':List BR,bs'=bs++[⟨chansM x,bm,zs,q⟩] from ⟨_,rfl⟩) fun bs' hbs'=>?_
   have hbl:bs'.length=i+1:=by rw [hbs',List.length_append,hi];rfl
   refine A.entsEq (Λ':= .mp bm (keysV (grpM q.ends)) (valsV (grpM q.ends) zs):: .row 4 (.slice (some ⟨bb,o,none⟩) l.length cp) RW:: .box b6 (msR ms1):: .box b3 (whA t op f)::(zs.map (AEnt.tail 1)++bs.map mpB)) (by show AEnt.mp bm (keysV (grpM (q.ends.take k))) (valsV (grpM (q.ends.take k)) zs)::_=_;rw [hkt]) ?_
   refine A.less (Λ':= .mp bm (keysV (grpM q.ends)) (valsV (grpM q.ends) zs):: .row 4 (.slice (some ⟨bb,o,none⟩) l.length cp) RW:: .box b6 (msR ms1):: .box b3 (whA t op f)::bs.map mpB) (.cons_cons _ (.cons_cons _ (.cons_cons _ (.cons_cons _ (List.sublist_append_right ..))))) ?_
   refine A.perm (Λ':= .row 4 (.slice (some ⟨bb,o,none⟩) l.length cp) (rowP l.length bs'):: .box b6 (msR ((rsB bs').any (·.miss))):: .box b3 (whA t op f)::bs'.map mpB) (by
    have e1:rowP l.length bs'=RW:=by rw [hRW,hbs',hb0];unfold rowP;rw [List.map_append,List.map_append,List.length_append,List.length_append];rfl
    have e2:(rsB bs').any (·.miss)=ms1:=by rw [hms0,hbs'];show ((bs++[_]).map BR.r).any _=_;rw [List.map_append,List.any_append];show ((bs.map BR.r).any _||(q.miss||false))=_;rw [Bool.or_false]
    rw [e1,e2,hbs',List.map_append]
    exact (List.perm_append_singleton _ _).symm) ?_
   refine y_ ?_
   refine A.valE 38 rfl (x':=AI (bs'.length:Nat)) (ai_eq (by rw [hbl];show IntKind.i64.wrap (((i:Nat):Int)+1)=((i+1:Nat):Int);rw [wr64 _ (by omega)];rfl)) ?_
   refine u_ (ih bs' ⟨by omega,?_,?_,?_⟩ (by omega))
   ·rw [hbl,take19 (by rw [hi];exact hx),List.map_append,hbs']
    show (bs++[_]).map _=_
    rw [List.map_append]
    show chB bs++_=_
    rw [hb2,hi];rfl
   ·rw [hbl,take19 hqs,hbs']
    show (bs++[_]).map _=_
    rw [List.map_append]
    show rsB bs++_=_
    rw [hb3,hi];rfl
   ·rw [hbs']
    intro b hb
    rcases List.mem_append.1 hb with hb|hb
    ·exact hb4 b hb
    ·rw [List.mem_singleton.1 hb];exact hk2
  ·have hmb:(rsB bs).any (·.miss)=false:=by simpa using hmb
   refine A.entsEq (Λ':= .mp bm [] []:: .box b16 (rnV q):: .row 4 (.slice (some ⟨bb,o,none⟩) l.length cp) RW:: .box b6 (msR false):: .box b3 (whA t op f)::bs.map mpB) (by rw [hmb]) ?_
   have hms0:=hms1
   rw [hmb,Bool.false_or] at hms1
   refine y_ ?_
   refine A.perm (Λ':= .mp bm [] []:: .row 4 (.slice (some ⟨bb,o,none⟩) l.length cp) RW:: .box b16 (rnV q):: .box b6 (msR ms1):: .box b3 (whA t op f)::bs.map mpB) (by rw [hms1];exact (List.Perm.cons _ (List.Perm.swap _ _ _))) ?_
   refine A.valE 95 rfl (x':=AI (q.ends.length:Nat)) (ai_eq nq) ?_
   refine A.keep [1,2,3,6,7,10,11,36,37,38,94,95,96] rfl ?_
   refine l_ (Λ':= .mp bm [] []:: .row 4 (.slice (some ⟨bb,o,none⟩) l.length cp) RW:: .box b6 (msR ms1):: .box b3 (whA t op f)::bs.map mpB) ?_
   refine A.loopP (ι:=Nat×List Value) (fun v=>(⟨[(1,rsA l),(2,rowsA s),(3,ptrA b3),(6,ptrA b6),(7, .sl 1 (l.map chA) none),(10, .ms (.slice (some ⟨bb,o,none⟩) l.length cp) 4 l.length),(11,AI (i:Nat)),(36,rsA l),(37,AI (l.length:Nat)),(38,AI (i:Nat)),(94, .sl 2 (q.ends.map enA) none),(95,AI (q.ends.length:Nat)),(96,AI (v.1:Nat))],[]⟩, .mp bm (keysV (grpM (q.ends.take v.1))) (valsV (grpM (q.ends.take v.1)) v.2):: .row 4 (.slice (some ⟨bb,o,none⟩) l.length cp) RW:: .box b6 (msR ms1):: .box b3 (whA t op f)::(v.2.map (AEnt.tail 1)++bs.map mpB))) (fun v=>v.1<=q.ends.length/\v.2.length=(grpM (q.ends.take v.1)).length) (fun v=>q.ends.length-v.1) (0,[]) ⟨Nat.zero_le _,rfl⟩ rfl fun v hv kh=>?_
   obtain ⟨k,zs⟩:=v
   obtain ⟨hk1,hk2⟩:=hv
   simp only at hk1 hk2
   refine y_ ?_
   by_cases hck:k<q.ends.length
   ·refine Exists.elim (at_exN (l:=q.ends) (i:=k) hck) fun e he=>?_
    have hgn:=grpM_next he
    refine Exists.elim (show∃g,g=grpM (q.ends.take k) from ⟨_,rfl⟩) fun g hg=>?_
    have hnod:(keysG g).Nodup:=by rw [hg];exact (grpM_ok _).nod
    rw [<-hg] at hk2 hgn
    refine T_ rfl (by show decide ((k:Int)<(q.ends.length:Nat))=true;rw [decide_eq_true_eq];omega) ?_
    refine j_ rfl (map_at he) rfl ?_
    (repeat refine A.s rfl ?_)
    refine A.b rfl fun b18=>?_
    refine y_ ?_
    refine A.entsEq (Λ':= .box b18 (enA e):: .mp bm (keysV g) (valsV g zs):: .row 4 (.slice (some ⟨bb,o,none⟩) l.length cp) RW:: .box b6 (msR ms1):: .box b3 (whA t op f)::(zs.map (AEnt.tail 1)++bs.map mpB)) (by rw [hg];rfl) ?_
    by_cases hke:e.1∈keysG g
    ·obtain ⟨p,x1,hp,hx1⟩:=keys_at hke
     refine Exists.elim (at_exN (l:=zs) (i:=p) (by rw [hk2];exact (List.getElem?_eq_some_iff.1 hp).1)) fun zp hzp=>?_
     obtain ⟨ZA,ZB,hzs,hzset⟩:=splitL hzp
     have hf:=(posN g e.1).2 p x1 hnod hp hx1
     have hvx:(valsV g zs)[p]? =some (.sl 1 (x1.2.map rowsA) (some zp)):=by rw [List.getElem?_zipWith,hp,hzp]
     have hat:(keysV g)[p]? =some (kyV e.1):=by rw [List.getElem?_map,hp,<-hx1];rfl
     have hxl:(x1.2.map rowsA).length<=2000:=by
      rw [List.length_map,grp_ends (r:=⟨0,q.ends.take k,false⟩) (p:=p) (x:=x1) (by rw [<-hp,hg])]
      unfold endsAt
      rw [List.length_map]
      exact Nat.le_trans (List.length_filter_le ..) (by show (q.ends.take k).length<=_;rw [List.length_take];omega)
     refine A.perm (Λ':= .tail 1 zp:: .box b18 (enA e):: .mp bm (keysV g) (valsV g zs):: .row 4 (.slice (some ⟨bb,o,none⟩) l.length cp) RW:: .box b6 (msR ms1):: .box b3 (whA t op f)::((ZA++ZB).map (AEnt.tail 1)++bs.map mpB)) (by rw [hzs];exact tail_front [_,_,_,_,_] _ _ _ _) ?_
     refine A.drawT 18 1 zp 19 [0,1,2,3,4,5,6,7,8,9,10,11,12,13,14,15,16,17,18] (fun i=>if i=18 then [17] else []) [] (by decide) rfl (by kernel_rfl) ?_
     refine w_ ?_
     refine WA.indexRow rfl rfl rfl rfl rfl rfl rfl rfl rfl (by show (0:Int)<=(i:Nat);omega) (by show ((i:Nat):Int)<_;rw [hRl];omega) rfl ?_
     refine WA.epV 102 rfl ?_
     refine w_ ?_
     refine WA.loadPart i 1 rfl rfl rfl rfl rfl l.length cp o (by rw [Int.toNat_natCast]) hai (y:= .v (.map (some bm))) rfl rfl ?_
     refine w_ ?_
     refine WA.indexRow rfl rfl rfl rfl rfl rfl rfl rfl rfl (by show (0:Int)<=(i:Nat);omega) (by show ((i:Nat):Int)<_;rw [hRl];omega) rfl ?_
     refine WA.epV 109 rfl ?_
     refine w_ ?_
     refine WA.loadPart i 1 rfl rfl rfl rfl rfl l.length cp o (by rw [Int.toNat_natCast]) hai (y:= .v (.map (some bm))) rfl rfl ?_
     refine w_ ?_
     refine WA.lookupG rfl rfl rfl rfl rfl rfl rfl rfl rfl hf hvx rfl ?_
     refine w_ ?_
     refine WA.lit rfl rfl rfl rfl rfl rfl rfl fun bw=>?_
     refine WA.append rfl rfl rfl rfl rfl rfl rfl rfl rfl rfl rfl rfl rfl rfl rfl rfl rfl rfl (.pub (j:=17) rfl rfl (.sub .refl)) (by show ((x1.2.map rowsA).length+1)*1<=_;omega) fun z'=>?_
     refine WA.nil (l:=[.tail 1 z']) rfl ?_
     refine A.entsEq (Λ':= .tail 1 z':: .box b18 (enA e):: .mp bm (keysV g) (valsV g zs):: .row 4 (.slice (some ⟨bb,o,none⟩) l.length cp) RW:: .box b6 (msR ms1):: .box b3 (whA t op f)::((ZA++ZB).map (AEnt.tail 1)++bs.map mpB)) rfl ?_
     refine A.updateS rfl rfl rfl rfl rfl rfl rfl rfl rfl hf hat rfl ?_
     refine y_ ?_
     refine A.valE 96 rfl (x':=AI ((k+1:Nat):Int)) (inc_eq k (by omega)) ?_
     have hgs:grpM (q.ends.take (k+1))=g.set p (x1.1,x1.2++[e.2]):=by rw [hgn,grpA_at hnod hp hx1]
     refine A.entsEq (Λ':= .mp bm (keysV (grpM (q.ends.take (k+1)))) (valsV (grpM (q.ends.take (k+1))) (ZA++z'::ZB)):: .tail 1 z':: .box b18 (enA e):: .row 4 (.slice (some ⟨bb,o,none⟩) l.length cp) RW:: .box b6 (msR ms1):: .box b3 (whA t op f)::((ZA++ZB).map (AEnt.tail 1)++bs.map mpB)) (by
      rw [hgs,keysV_set (y:=(x1.1,x1.2++[e.2])) hp rfl,<-hzset,valsV_set]
      show AEnt.mp bm _ ((valsV g zs).set p (.sl 1 (x1.2.map rowsA++[rowsA e.2]) (some z')))::_=AEnt.mp bm _ ((valsV g zs).set p (.sl 1 ((x1.2++[e.2]).map rowsA) (some z')))::_
      rw [show (x1.2++[e.2]).map rowsA=x1.2.map rowsA++[rowsA e.2] by rw [List.map_append];rfl]) ?_
     refine A.less (Λ':= .mp bm (keysV (grpM (q.ends.take (k+1)))) (valsV (grpM (q.ends.take (k+1))) (ZA++z'::ZB)):: .tail 1 z':: .row 4 (.slice (some ⟨bb,o,none⟩) l.length cp) RW:: .box b6 (msR ms1):: .box b3 (whA t op f)::((ZA++ZB).map (AEnt.tail 1)++bs.map mpB)) (.cons_cons _ (.cons_cons _ (.cons _ (.refl _)))) ?_
     refine A.perm (Λ':= .mp bm (keysV (grpM (q.ends.take (k+1)))) (valsV (grpM (q.ends.take (k+1))) (ZA++z'::ZB)):: .row 4 (.slice (some ⟨bb,o,none⟩) l.length cp) RW:: .box b6 (msR ms1):: .box b3 (whA t op f)::((ZA++z'::ZB).map (AEnt.tail 1)++bs.map mpB)) ((List.Perm.swap _ _ _).trans (tail_front [_,_,_,_] _ _ _ _).symm) ?_
     refine u_ (kh (k+1,ZA++z'::ZB) ⟨by show k+1<=_;omega,by
      show (ZA++z'::ZB).length=(grpM (q.ends.take (k+1))).length
      rw [hgs,List.length_set,<-hk2,hzs,List.length_append,List.length_append];rfl⟩ (by show _-(k+1)<_-k;omega))
    ·have hf:=(posN g e.1).1 hke
     have hgs:grpM (q.ends.take (k+1))=g++[(e.1,[e.2])]:=by rw [hgn,grpA_new hke]
     refine A.fullTail 1 0 none (fun _=>rfl) (fun x hx=>by cases hx) ?_
     refine A.drawT 18 1 (.slice none 0 0) 19 [0,1,2,3,4,5,6,7,8,9,10,11,12,13,14,15,16,17,18] (fun i=>if i=18 then [17] else []) [] (by decide) rfl (by kernel_rfl) ?_
     refine w_ ?_
     refine WA.indexRow rfl rfl rfl rfl rfl rfl rfl rfl rfl (by show (0:Int)<=(i:Nat);omega) (by show ((i:Nat):Int)<_;rw [hRl];omega) rfl ?_
     refine WA.epV 102 rfl ?_
     refine w_ ?_
     refine WA.loadPart i 1 rfl rfl rfl rfl rfl l.length cp o (by rw [Int.toNat_natCast]) hai (y:= .v (.map (some bm))) rfl rfl ?_
     refine w_ ?_
     refine WA.indexRow rfl rfl rfl rfl rfl rfl rfl rfl rfl (by show (0:Int)<=(i:Nat);omega) (by show ((i:Nat):Int)<_;rw [hRl];omega) rfl ?_
     refine WA.epV 109 rfl ?_
     refine w_ ?_
     refine WA.loadPart i 1 rfl rfl rfl rfl rfl l.length cp o (by rw [Int.toNat_natCast]) hai (y:= .v (.map (some bm))) rfl rfl ?_
     refine w_ ?_
     refine WA.lookupNilG rfl rfl rfl rfl rfl rfl rfl rfl rfl rfl rfl hf rfl ?_
     refine WA.valI 114 rfl (x':= .sl 1 [] (some (.slice none 0 0))) (fun h y r=>nil_own 1 r) ?_
     refine w_ ?_
     refine WA.lit rfl rfl rfl rfl rfl rfl rfl fun bw=>?_
     refine WA.append rfl rfl rfl rfl rfl rfl rfl rfl rfl rfl rfl rfl rfl rfl rfl rfl rfl rfl (.pub (j:=17) rfl rfl (.sub .refl)) (by show (0+1)*1<=1073741824;decide) fun z'=>?_
     refine WA.nil (l:=[.tail 1 z']) rfl ?_
     refine A.entsEq (Λ':= .tail 1 z':: .box b18 (enA e):: .mp bm (keysV g) (valsV g zs):: .row 4 (.slice (some ⟨bb,o,none⟩) l.length cp) RW:: .box b6 (msR ms1):: .box b3 (whA t op f)::(zs.map (AEnt.tail 1)++bs.map mpB)) rfl ?_
     refine A.updateG rfl rfl rfl rfl rfl rfl rfl rfl rfl hf rfl ?_
     refine y_ ?_
     refine A.valE 96 rfl (x':=AI ((k+1:Nat):Int)) (inc_eq k (by omega)) ?_
     refine A.entsEq (Λ':= .mp bm (keysV (grpM (q.ends.take (k+1)))) (valsV (grpM (q.ends.take (k+1))) (zs++[z'])):: .tail 1 z':: .box b18 (enA e):: .row 4 (.slice (some ⟨bb,o,none⟩) l.length cp) RW:: .box b6 (msR ms1):: .box b3 (whA t op f)::(zs.map (AEnt.tail 1)++bs.map mpB)) (by
      rw [hgs,valsV_snoc hk2]
      show _=AEnt.mp bm ((g++[(e.1,[e.2])]).map fun x=>kyV x.1) _::_
      rw [List.map_append];rfl) ?_
     refine A.less (Λ':= .mp bm (keysV (grpM (q.ends.take (k+1)))) (valsV (grpM (q.ends.take (k+1))) (zs++[z'])):: .tail 1 z':: .row 4 (.slice (some ⟨bb,o,none⟩) l.length cp) RW:: .box b6 (msR ms1):: .box b3 (whA t op f)::(zs.map (AEnt.tail 1)++bs.map mpB)) (.cons_cons _ (.cons_cons _ (.cons _ (.refl _)))) ?_
     refine A.perm (Λ':= .mp bm (keysV (grpM (q.ends.take (k+1)))) (valsV (grpM (q.ends.take (k+1))) (zs++[z'])):: .row 4 (.slice (some ⟨bb,o,none⟩) l.length cp) RW:: .box b6 (msR ms1):: .box b3 (whA t op f)::((zs++[z']).map (AEnt.tail 1)++bs.map mpB)) ((List.Perm.swap _ _ _).trans (by
      have:=(tail_front [AEnt.mp bm (keysV (grpM (q.ends.take (k+1)))) (valsV (grpM (q.ends.take (k+1))) (zs++[z'])), .row 4 (.slice (some ⟨bb,o,none⟩) l.length cp) RW, .box b6 (msR ms1), .box b3 (whA t op f)] (bs.map mpB) zs [] z').symm
      rw [List.append_nil] at this
      exact this)) ?_
     refine u_ (kh (k+1,zs++[z']) ⟨by show k+1<=_;omega,by
      show (zs++[z']).length=(grpM (q.ends.take (k+1))).length
      rw [hgs,List.length_append,List.length_append,hk2];rfl⟩ (by show _-(k+1)<_-k;omega))
   refine A.gF rfl (by show decide ((k:Int)<(q.ends.length:Nat))=false;rw [decide_eq_false_iff_not];omega) ?_
   have hkt:q.ends.take k=q.ends:=List.take_of_length_le (by omega)
   rw [hkt] at hk2
   clear kh
   refine Exists.elim (show∃bs':List BR,bs'=bs++[⟨chansM x,bm,zs,q⟩] from ⟨_,rfl⟩) fun bs' hbs'=>?_
   have hbl:bs'.length=i+1:=by rw [hbs',List.length_append,hi];rfl
   refine A.entsEq (Λ':= .mp bm (keysV (grpM q.ends)) (valsV (grpM q.ends) zs):: .row 4 (.slice (some ⟨bb,o,none⟩) l.length cp) RW:: .box b6 (msR ms1):: .box b3 (whA t op f)::(zs.map (AEnt.tail 1)++bs.map mpB)) (by show AEnt.mp bm (keysV (grpM (q.ends.take k))) (valsV (grpM (q.ends.take k)) zs)::_=_;rw [hkt]) ?_
   refine A.less (Λ':= .mp bm (keysV (grpM q.ends)) (valsV (grpM q.ends) zs):: .row 4 (.slice (some ⟨bb,o,none⟩) l.length cp) RW:: .box b6 (msR ms1):: .box b3 (whA t op f)::bs.map mpB) (.cons_cons _ (.cons_cons _ (.cons_cons _ (.cons_cons _ (List.sublist_append_right ..))))) ?_
   refine A.perm (Λ':= .row 4 (.slice (some ⟨bb,o,none⟩) l.length cp) (rowP l.length bs'):: .box b6 (msR ((rsB bs').any (·.miss))):: .box b3 (whA t op f)::bs'.map mpB) (by
    have e1:rowP l.length bs'=RW:=by rw [hRW,hbs',hb0];unfold rowP;rw [List.map_append,List.map_append,List.length_append,List.length_append];rfl
    have e2:(rsB bs').any (·.miss)=ms1:=by rw [hms0,hbs'];show ((bs++[_]).map BR.r).any _=_;rw [List.map_append,List.any_append];show ((bs.map BR.r).any _||(q.miss||false))=_;rw [Bool.or_false]
    rw [e1,e2,hbs',List.map_append]
    exact (List.perm_append_singleton _ _).symm) ?_
   refine y_ ?_
   refine A.valE 38 rfl (x':=AI (bs'.length:Nat)) (ai_eq (by rw [hbl];show IntKind.i64.wrap (((i:Nat):Int)+1)=((i+1:Nat):Int);rw [wr64 _ (by omega)];rfl)) ?_
   refine u_ (ih bs' ⟨by omega,?_,?_,?_⟩ (by omega))
   ·rw [hbl,take19 (by rw [hi];exact hx),List.map_append,hbs']
    show (bs++[_]).map _=_
    rw [List.map_append]
    show chB bs++_=_
    rw [hb2,hi];rfl
   ·rw [hbl,take19 hqs,hbs']
    show (bs++[_]).map _=_
    rw [List.map_append]
    show rsB bs++_=_
    rw [hb3,hi];rfl
   ·rw [hbs']
    intro b hb
    rcases List.mem_append.1 hb with hb|hb
    ·exact hb4 b hb
    ·rw [List.mem_singleton.1 hb];exact hk2
 refine A.gF rfl (by show decide ((bs.length:Int)<(l.length:Nat))=false;rw [decide_eq_false_iff_not];omega) ?_
 clear ih
 have hbl:bs.length=l.length:=by omega
 have hcB:chB bs=l.map chansM:=by rw [hb2,hbl,List.take_length]
 have hRl:RS.length=l.length:=by rw [hRS,brs_len]
 have hrB:rsB bs=RS:=by rw [hb3,hbl,<-hRl,List.take_length]
 refine Exists.elim (show∃ms,ms=RS.any (·.miss) from ⟨_,rfl⟩) fun ms hms=>?_
 refine Exists.elim (show∃cn0:List Nat,cn0=bs.map fun _=>0 from ⟨_,rfl⟩) fun cn0 hcn0=>?_
 refine Exists.elim (show∃z:Value,z= .slice a l.length cp from ⟨_,rfl⟩) fun zb hzb=>?_
 have hat: ∀(i:Nat) b,bs[i]? =some b-> ∃x,x∈l/\b.ch=chansM x/\b.r=runR f (openM op (l.map chansM) i) (onlyT t (chansM x)) s x:=fun i b hb=>by
  have hi:i<bs.length:=(List.getElem?_eq_some_iff.1 hb).1
  refine Exists.elim (at_exN (l:=l) (i:=i) (by omega)) fun x hx=>⟨x,List.mem_of_getElem? hx,?_,?_⟩
  ·have h1:(chB bs)[i]? =some b.ch:=by rw [List.getElem?_map,hb];rfl
   rw [hcB,List.getElem?_map,hx] at h1
   injection h1 with h1;exact h1.symm
  ·have h1:(rsB bs)[i]? =some b.r:=by rw [List.getElem?_map,hb];rfl
   rw [hrB,hRS,brs_at,hx,Nat.zero_add,List.getElem?_map,hx] at h1
   injection h1 with h1;exact h1.symm
 have hbo:BrsOk V bs:=by
  refine ⟨fun b hb=>?_,by omega⟩
  obtain ⟨i,hi,rfl⟩:=List.getElem_of_mem hb
  obtain ⟨x,hx,h1,h2⟩:=hat i _ (List.getElem?_eq_getElem hi)
  have hol:=only_len t (chansM x)
  refine ⟨?_,?_,?_,hb4 _ hb,?_⟩
  ·rw [h2];exact run_ok (I.un x hx) f _ _ s (only_i ht _) hs
  ·rw [h2];have:=((run19 x).wf f (openM op (l.map chansM) i) (onlyT t (chansM x)) s).len;omega
  ·rw [h1];have:=chans_len x;have:=rawCl_mem hx;have:=I.op;omega
  ·rw [h2];have:=len_run x f (openM op (l.map chansM) i) (onlyT t (chansM x)) s;have:=wayL_mem I.way hx;omega
 have hpw:prodL (RS.map fun r=>r.ends.length)<=wayL l f:=prod_way hRl fun i p r hp hr=>by
  rw [hRS,brs_at,hp] at hr
  injection hr with hr
  rw [<-hr];exact len_run p f _ _ s
 have hpr: ∀cn:List Nat,cn.length=bs.length->(pick19 s (eatB bs cn) s).length<=2000:=fun cn hc=>by
  rw [pick_len]
  have h1:prodL ((eatB bs cn).map List.length)<=prodL ((rsB bs).map fun r=>r.ends.length):=eat_prod (by rw [hc,List.length_map])
  rw [hrB] at h1
  have:=I.way
  omega
 have hpo: ∀cn:List Nat,∀x,x∈pick19 s (eatB bs cn) s->StOk V x:=fun cn=>pick_ok _ s (fun b' hb' y hy=>by
  obtain ⟨j,hj,rfl⟩:=List.getElem_of_mem hb'
  rw [List.getElem_zipWith] at hy
  have hm:=endsAt_mem.1 hy
  rw [List.getElem_map] at hm
  exact (hbo.wf _ (List.getElem_mem _)).1 _ hm) hs
 have hmeet:=fun cn n z m r h1 h2 h3 h4=>meet_p (V:=V) zb bs cn b6 n s hs hbo h1 h2 z m r h3 h4
 refine A.valE 10 rfl (x':= .ms zb 4 bs.length) (by rw [hzb,hbl]) ?_
 refine A.entsEq (Λ':= .row 4 zb (rowB bs cn0):: .box b6 (msR ms):: .box b3 (whA t op f)::bs.map mpB) (by rw [hrB,<-hms,rowP_all hbl,hzb,hcn0]) ?_
 refine A.boxAs (b:=b6) (x':= .ag [AI 0, .ms (.slice none 0 0) 2 0, .v (.map none),AB ms]) (.swap _ _ _) (rn_some _ _) ?_
 refine A.nilRow 2 ?_
 refine A.perm (Λ':=bsE zb bs cn0 b6 (.slice none 0 0) 0 ⟨0,[],ms⟩++[.box b3 (whA t op f)]) (perm4 _ _ _ _ _) ?_
 have hcl0:cn0.length=bs.length:=by rw [hcn0,List.length_map]
 have hp0:=hpr cn0 hcl0
 refine y_ ?_
 refine A.e rfl (hmeet cn0 0 (.slice none 0 0) 0 ⟨0,[],ms⟩ hcl0 (Nat.zero_le _) ⟨⟨fun e he=>by cases he⟩,Nat.zero_le _⟩ (by show 0+(pick19 s (eatB bs cn0) s).length<=_;omega)) s_ (Λ2:=[.box b3 (whA t op f)]) (.refl _) fun v0 _=>?_
 refine Exists.elim (show∃r1,r1=meetR s (rsB bs) cn0 0 ⟨0,[],ms⟩ from ⟨_,rfl⟩) fun r1 hr1=>?_
 refine A.perm (Λ':= .box b3 (whA t op f)::bsE zb bs cn0 b6 v0.1 v0.2 r1) (by rw [hr1];exact List.perm_append_singleton _ _) ?_
 have nt:=trA_len t
 have hPM1:PM=contG (chB bs) (rsB bs) s t 0 cn0 r1:=by
  rw [hPM,hr1,hcB,hrB,hms,hcn0,<-parGo_cont]
  unfold parM
  congr 1
  rw [<-hcB];simp
 have hr1ok:RnOk V r1:=by
  rw [hr1]
  exact pickA_ok (r:=⟨0,[],ms⟩) ⟨⟨fun e he=>by cases he⟩,Nat.zero_le _⟩ (hpo cn0) (Nat.zero_le _) (by show 0+(pick19 s (eatB bs cn0) s).length<=_;omega)
 have hr1l:r1.ends.length<=2000:=by
  rw [hr1]
  have:(addN19 0 (pick19 s (eatB bs cn0) s) []).length<=0+_:=addN_len (m:=0) (pick19 s (eatB bs cn0) s) []
  show (addN19 0 (pick19 s (eatB bs cn0) s) []).length<=_
  omega
 refine y_ ?_
 refine A.valE 126 rfl (x':=AI (t.length:Nat)) (ai_eq nt) ?_
 refine A.keep [2,3,6,10,125,126,127] rfl ?_
 refine A.loopP (ι:=Nat×List Nat×RN×Value×Nat) (fun u=>(⟨[(2,rowsA s),(3,ptrA b3),(6,ptrA b6),(10, .ms zb 4 bs.length),(125,trA t),(126,AI (t.length:Nat)),(127,AI (u.1:Nat))],[]⟩, .box b3 (whA t op f)::bsE zb bs u.2.1 b6 u.2.2.2.1 u.2.2.2.2 u.2.2.1)) (fun u=>u.1<=t.length/\PM=contG (chB bs) (rsB bs) s (t.drop u.1) u.1 u.2.1 u.2.2.1/\u.2.1.length=bs.length/\RnOk V u.2.2.1/\Below bs u.2.1/\u.2.2.1.ends.length<=(u.1+1)*2000) (fun u=>t.length-u.1) (0,cn0,r1,v0.1,v0.2) ⟨Nat.zero_le _,hPM1,hcl0,hr1ok,fun i b n hb hn=>by
  have hn:cn0[i]? =some n:=hn
  rw [hcn0,List.getElem?_map] at hn
  cases hb2:bs[i]? with
  |none=>rw [hb2] at hn;cases hn
  |some b'=>rw [hb2] at hn;injection hn with hn;have hn:(0:Nat)=n:=hn;omega,by show _<=(0+1)*2000;omega⟩ rfl fun u hu uh=>?_
 obtain ⟨j,cn,r,z,m⟩:=u
 obtain ⟨hj,hPj,hcl,hro,hBl,hrl⟩:=hu
 simp only at hj hPj hcl hro hBl hrl
 refine y_ ?_
 by_cases hcj:j<t.length
 ·refine Exists.elim (at_exN (l:=t) (i:=j) hcj) fun e he=>?_
  have hst:=step_p zb bs cn e.1 hcl (by omega) hBl (fun b hb=>by have:=hbo.wf b hb;exact ⟨by omega,this.2.2.1⟩)
  rw [drop_at he] at hPj
  refine T_ rfl (by show decide ((j:Int)<(t.length:Nat))=true;rw [decide_eq_true_eq];omega) ?_
  refine j_ rfl (map_at he) rfl ?_
  (repeat refine A.s rfl ?_)
  refine A.b rfl fun b20=>?_
  refine y_ ?_
  refine A.less (Λ':= .box b3 (whA t op f)::bsE zb bs cn b6 z m r) (.cons _ (.refl _)) ?_
  refine A.e rfl hst s_ (Λ2:= .box b3 (whA t op f)::(rnL b6 z m r++bs.map mpB)) (.swap _ _ _) fun u hu=>?_
  obtain ⟨ub,cn'⟩:=u
  obtain ⟨hu1,hu2,hu3⟩:=hu
  simp only at hu1 hu2 hu3
  cases ub with
  |true=>
   have hcs:=hu1.symm
   have hc':=hu3 rfl
   rw [contG_next hcs,<-hc'] at hPj
   have hp':=hpr cn' hu2
   have hq1:RnOk V (meetR s (rsB bs) cn' (j+1) r):=pickA_ok (r:=⟨j+1,r.ends,r.miss⟩) ⟨hro.ends,hro.len⟩ (hpo cn') (by omega) (by show r.ends.length+(pick19 s (eatB bs cn') s).length<=_;omega)
   have hq2:(meetR s (rsB bs) cn' (j+1) r).ends.length<=(j+1+1)*2000:=by
    have:(addN19 (j+1) (pick19 s (eatB bs cn') s) r.ends).length<=r.ends.length+_:=addN_len (m:=j+1) (pick19 s (eatB bs cn') s) r.ends
    show (addN19 (j+1) (pick19 s (eatB bs cn') s) r.ends).length<=_
    omega
   have hq3:Below bs cn':=fun i b n hb hn=>by
    rw [hc'] at hn
    exact step_below hcs i n b.r hn (by rw [List.getElem?_map,hb];rfl)
   refine e_ 135 rfl (x':=AB true) rfl ?_
   refine A.valE 139 rfl (x':=AI ((j+1:Nat):Int)) (inc_eq j (by omega)) ?_
   refine A.e rfl (hmeet cn' (j+1) z m r hu2 (by omega) hro (by show r.ends.length+(pick19 s (eatB bs cn') s).length<=_;omega)) s_ (Λ2:=[.box b3 (whA t op f)]) (List.Perm.cons _ (List.perm_append_singleton _ _).symm) fun v _=>?_
   refine A.perm (Λ':= .box b3 (whA t op f)::bsE zb bs cn' b6 v.1 v.2 (meetR s (rsB bs) cn' (j+1) r)) (List.perm_append_singleton _ _) ?_
   refine y_ ?_
   refine A.valE 127 rfl (x':=AI ((j+1:Nat):Int)) (inc_eq j (by omega)) ?_
   refine u_ (uh (j+1,cn',meetR s (rsB bs) cn' (j+1) r,v.1,v.2) ⟨by show j+1<=_;omega,hPj,hu2,hq1,hq3,hq2⟩ (by show _-(j+1)<_-j;omega))
  |false=>
   rw [contG_stop hu1.symm] at hPj
   refine A.valE 135 rfl (x':=AB false) rfl ?_
   refine A.entsEq (Λ':= .row 4 zb (rowB bs cn'):: .box b3 (whA t op f):: .box b6 (rnB z m r):: .row 2 z (r.ends.map enA)::(mapL m r.ends++bs.map mpB)) rfl ?_
   refine A.less (Λ':=[.box b6 (rnB z m r), .row 2 z (r.ends.map enA)]) (.cons _ (.cons _ (.cons_cons _ (.cons_cons _ (List.nil_sublist _))))) ?_
   refine A.entsEq (Λ':=[.box b6 (rnB z m PM), .row 2 z (PM.ends.map enA)]) (by rw [hPj]) ?_
   refine A.freezeRowV 6 z (x':=rnV _) rfl (rn_fz z m _) ?_;refine y_ ?_;refine A.retC (Λ':=[]) rfl rfl rfl rfl rfl (List.nil_sublist _) ⟨?_,rfl⟩;exact s_
 ·refine A.gF rfl (by show decide ((j:Int)<(t.length:Nat))=false;rw [decide_eq_false_iff_not];omega) ?_
  rw [List.drop_eq_nil_of_le (by omega:t.length<=j),contG] at hPj
  refine A.entsEq (Λ':= .box b3 (whA t op f):: .row 4 zb (rowB bs cn):: .box b6 (rnB z m r):: .row 2 z (r.ends.map enA)::(mapL m r.ends++bs.map mpB)) rfl ?_
  refine A.less (Λ':=[.box b6 (rnB z m r), .row 2 z (r.ends.map enA)]) (.cons _ (.cons _ (.cons_cons _ (.cons_cons _ (List.nil_sublist _))))) ?_
  refine A.entsEq (Λ':=[.box b6 (rnB z m PM), .row 2 z (PM.ends.map enA)]) (by rw [hPj]) ?_
  refine A.freezeRowV 6 z (x':=rnV _) rfl (rn_fz z m _) ?_;refine y_ ?_;refine A.retC (Λ':=[]) rfl rfl rfl rfl rfl (List.nil_sublist _) ⟨?_,rfl⟩;exact s_
theorem Un.sm{V:List KV}{C:List Int}{p:PR}(u:Un V C p):smR p:=by
 obtain ⟨n,h,w⟩:=u
 exact (okF_sm (okF_imp (fun p (hp:LU V C p)=>hp.1) _ p n h (Nat.le_refl _) w)).2.1
theorem way9{p:PR}{f:Nat}(hk:p.kind=9\/p.kind=10\/p.kind=11):wayR p f=wayL p.l f:=by
 obtain ⟨k,c,v,it,to,e,gs,l⟩:=p
 rw [wayR_eq]
 exact if_pos hk
theorem way12{p:PR}{f:Nat}(hk:p.kind=12\/p.kind=14\/p.kind=15):wayR p f=1+wayGs p.gs f:=by
 obtain ⟨k,c,v,it,to,e,gs,l⟩:=p
 have hk:k=12\/k=14\/k=15:=hk
 rw [wayR_eq,if_neg (show¬(k=9\/k=10\/k=11) by omega)]
 exact if_pos hk
theorem way13{p b:PR}{f:Nat}(hk:p.kind=13)(hl:p.l=[b]):wayR p (f+1)=1+wayR p f*wayR b f:=by
 obtain ⟨k,c,v,it,to,e,gs,l⟩:=p
 have hk:k=13:=hk
 have hl:l=[b]:=hl
 subst hl
 rw [wayR_eq,wayR_eq,if_neg (show¬(k=9\/k=10\/k=11) by omega),if_neg (show¬(k=9\/k=10\/k=11) by omega),if_neg (show¬(k=12\/k=14\/k=15) by omega),if_neg (show¬(k=12\/k=14\/k=15) by omega),if_pos hk,if_pos hk,whileW]
 rw [wayB]
theorem kinds19{V:List KV}{C:List Int}{p:PR}(u:Un V C p):p.kind=1\/p.kind=2\/p.kind=3\/p.kind=4\/p.kind=5\/p.kind=6\/p.kind=9\/p.kind=10\/p.kind=11\/p.kind=12\/p.kind=13\/p.kind=14\/p.kind=15\/p.kind=16:=by
 by_cases h16:p.kind=16
 ·omega
 ·have h1:=kind_bodies (u.kb h16)
  have h7:=u.ut.k7
  have h8:=u.ut.k8
  omega
theorem run19_f{V:List KV}{C:List Int}(p:PR)(u:Un V C p)(f:Nat)(hf:f<=1048576)(hw:wayR p f<=2000)(op:List Int)(t:TR)(s:Sto)(hop:op.length+(rawC p).length<=1048576)(ht:TrI t)(htl:t.length<=256)(hs:StOk V s)(hl: ∀x,x∈p.l->wayR x f<=2000->RunC V f x)(hg: ∀g,g∈p.gs-> ∀x,x∈g.body->wayR x f<=2000->RunC V f x)
 (hprev: ∀f',f=f'+1-> ∀x,Un V C x->wayR x f'<=2000->RunC V f' x):Pure Tryz.prog gs0 87 [whA t op f,cellsR p,rowsA s] (rnV (runR f op t s p)):=by
 have hll:=u.loc.lens.2.2.2
 have hway:p.kind=12\/p.kind=14\/p.kind=15-> ∀g,g∈p.gs-> ∀x,x∈g.body->wayR x f<=2000:=fun hk g hgm x hx=>by
  rw [way12 hk] at hw
  have:=wayGs_mem (f:=f) hgm hx
  omega
 have hbod:p.kind=12\/p.kind=14\/p.kind=15->BodC V f op p:=fun hk g hgm x hx t' s' h1 h2 h3=>hg g hgm x hx (hway hk g hgm x hx) op t' s' (by have:=rawC_g hgm hx;omega) h1 h2 h3
 have P:Parts V C f op t s p:={
  seq:=fun hk=>by
   rw [way9 (.inl hk)] at hw
   exact seq19_p p.l u.l hw (fun x hx=>hl x hx (wayL_mem hw hx)) (by omega) op t s (fun x hx=>by have:=rawC_l hx;omega) ht htl hs
  loop:=fun hk=>loop19_p p u hk f hf op t s hs fun f' b hff hb=>by
   subst hff
   rw [way13 hk hb] at hw
   have hub:Un V C b:=u.l b (by rw [hb];exact .head _)
   have hww:wayL [b,p] f'<=2000:=by
    rw [wayL,wayL,wayL,Nat.mul_one,Nat.mul_comm];omega
   refine seq19_p (C:=C) [b,p] (fun x hx=>?_) hww (fun x hx=>?_) (by simp) op t s (fun x hx=>?_) ht htl hs
   ·rcases List.mem_cons.1 hx with rfl|hx
    ·exact hub
    ·rw [List.mem_singleton.1 hx];exact u
   ·refine hprev f' rfl x ?_ (wayL_mem hww hx)
    rcases List.mem_cons.1 hx with rfl|hx
    ·exact hub
    ·rw [List.mem_singleton.1 hx];exact u
   ·rcases List.mem_cons.1 hx with rfl|hx
    ·have:=rawC_l (p:=p) (x:=x) (by rw [hb];exact .head _);omega
    ·rw [List.mem_singleton.1 hx];exact hop
  gs:=fun hk=>by
   by_cases h12:p.kind=12
   ·exact guards_if p u h12 f op t s ht htl hs (hbod hk)
   ·exact guards_alt p u (by omega) f op t s ht htl (by omega) hs (hbod hk)
  par:=fun hk=>by
   have hw':=hw
   rw [way9 (.inr hk)] at hw'
   exact par19_p f hf op t s p.l ⟨u.l,fun x hx=>(u.l x hx).sm,fun x hx=>hl x hx (wayL_mem hw' hx),hw',by have:=rawC_eq p;rw [this,List.length_append,List.length_append] at hop;omega,hll⟩ ht htl hs
  way:=hway}
 rcases kinds19 u with h|h|h|h|h|h|h|h|h|h|h|h|h|h
 ·exact run_plain p u f op t s ht htl (by omega) hs P (by omega)
 ·exact run_plain p u f op t s ht htl (by omega) hs P (by omega)
 ·exact run_clear p u f op t s hs h
 ·exact run_plain p u f op t s ht htl (by omega) hs P (by omega)
 ·exact run_inp p u f op t s ht htl (by omega) hs h
 ·exact run_out p u f op t s ht htl (by omega) hs h
 ·exact run_plain p u f op t s ht htl (by omega) hs P (by omega)
 ·exact run_plain p u f op t s ht htl (by omega) hs P (by omega)
 ·exact run_plain p u f op t s ht htl (by omega) hs P (by omega)
 ·exact run_guards p u f op t s ht htl hs P 12 h (.inl rfl)
 ·exact run_plain p u f op t s ht htl (by omega) hs P (by omega)
 ·exact run_guards p u f op t s ht htl hs P 14 h (.inr (.inl rfl))
 ·exact run_guards p u f op t s ht htl hs P 15 h (.inr (.inr rfl))
 ·exact run_plain p u f op t s ht htl (by omega) hs P (by omega)
theorem run19_m{V:List KV}{C:List Int}(f:Nat)(hf:f<=1048576)(hprev: ∀f',f=f'+1-> ∀x,Un V C x->wayR x f'<=2000->RunC V f' x): ∀(m:Nat) (p:PR),SizeOf.sizeOf p<=m->Un V C p->wayR p f<=2000->RunC V f p
 |0,p,h,_,_=>by
  obtain ⟨k,c,v,i,to,e,gs,l⟩:=p
  simp only [PR.mk.sizeOf_spec] at h;omega
 |m+1,p,hm,u,hw=>fun op t s hop ht htl hs=>run19_f p u f hf hw op t s hop ht htl hs (fun x hx=>run19_m f hf hprev m x (by have:=lt19_l hx;omega) (u.l x hx)) (fun g hg x hx=>run19_m f hf hprev m x (by have:=lt19_g hg hx;omega) (u.g g hg x hx)) hprev
theorem run19_p{V:List KV}{C:List Int}: ∀(f:Nat),f<=1048576-> ∀p,Un V C p->wayR p f<=2000->RunC V f p
 |0,hf,p,u,hw=>run19_m 0 hf (fun f' h=>by omega) _ p (Nat.le_refl _) u hw
 |f+1,hf,p,u,hw=>run19_m (f+1) hf (fun f' h x ux hx=>by
   have h:f'=f:=by omega
   subst h
   exact run19_p f' (by omega) x ux hx) _ p (Nat.le_refl _) u hw
section
variable{V:List KV}{C:List Int}
theorem unt_no_l{p x:PR}(hx:x∈p.l)(h:untR x=false):untR p=false:=by
 cases hp:untR p with
 |false=>rfl
 |true=>have:=(unt_iff.1 hp).2.1 x hx;rw [h] at this;cases this
theorem unt_no_g{p:PR}{g:GD}(hg:g∈p.gs)(h:g.kind=4):untR p=false:=by
 cases hp:untR p with
 |false=>rfl
 |true=>exact absurd h ((unt_iff.1 hp).1.gs g hg)
theorem unt_no_b{p x:PR}{g:GD}(hg:g∈p.gs)(hb:g.body=[x])(h:untR x=false):untR p=false:=by
 cases hp:untR p with
 |false=>rfl
 |true=>
  have:=(unt_iff.1 hp).2.2 g hg
  rw [hb,untL_all] at this
  have:=this x (.head _)
  rw [h] at this;cases this
theorem unt_yes{p:PR}(h7:p.kind≠7)(h8:p.kind≠8)(hl: ∀x,x∈p.l->untR x=true)(hg: ∀g,g∈p.gs->g.kind≠4/\ ∃y,g.body=[y]/\untR y=true):untR p=true:=by
 refine unt_iff.2 ⟨⟨h7,h8,fun g h=>(hg g h).1⟩,hl,fun g h=>?_⟩
 obtain ⟨_,y,e,hy⟩:=hg g h
 rw [e,untL_all]
 intro x hx
 rw [List.mem_singleton.1 hx];exact hy
end
section
variable{V:List KV}{C:List Int}
theorem tunt_f(p:PR)(hs:smR p)(hbd: ∀g,g∈p.gs-> ∃y,g.body=[y])(hl: ∀x,x∈p.l->Pure Tryz.prog gs0 86 [cellsR x] (AB (untR x)))(hg: ∀g,g∈p.gs-> ∀x,x∈g.body->Pure Tryz.prog gs0 86 [cellsR x] (AB (untR x))):
 Pure Tryz.prog gs0 86 [cellsR p] (AB (untR p)):=by
 have hsa:=smR_all hs
 have hll:=hsa.ll
 have hgl:=hsa.gl
 have n1:((encRl p.l).length:Int)=p.l.length:=by rw [encRl_len]
 have n2:((encGl p.gs).length:Int)=p.gs.length:=by rw [encGl_len]
 by_cases h7:p.kind=7
 ·have hu:untR p=false:=by
   cases hp:untR p with
   |false=>rfl
   |true=>exact absurd h7 (unt_iff.1 hp).1.k7
  rw [hu]
  refine p_ tt_ok Tryz.func86 45 fun w0 h0 F hgs=>?_
  (refine b_ fun bx=>?_;refine y_ ?_)
  refine e_ 10 rfl (x':=AB true) (ab_eq (by rw [h7];rfl)) ?_
  exact r_
 by_cases h8:p.kind=8
 ·have hu:untR p=false:=by
   cases hp:untR p with
   |false=>rfl
   |true=>exact absurd h8 (unt_iff.1 hp).1.k8
  rw [hu]
  refine p_ tt_ok Tryz.func86 45 fun w0 h0 F hgs=>?_
  (refine b_ fun bx=>?_;refine y_ ?_)
  refine e_ 10 rfl (x':=AB false) (ab_eq (by rw [h8];rfl)) ?_
  refine T_ rfl (by rw [h8];rfl) ?_
  exact r_
 refine Exists.elim (show∃R,R=untR p from ⟨_,rfl⟩) fun R hR=>?_
 rw [<-hR]
 refine p_ tt_ok Tryz.func86 45 fun w0 h0 F hgs=>?_
 (refine b_ fun bx=>?_;refine y_ ?_)
 refine e_ 10 rfl (x':=AB false) (ab_eq (beq_eq_false_iff_ne.2 h7)) ?_
 refine F_ rfl (beq_eq_false_iff_ne.2 h8) ?_
 refine A.freeze 1 (sz:=8) rfl rfl rfl ?_
 refine A.valE 17 rfl (x':=AI (p.l.length:Nat)) (ai_eq n1) ?_
 refine A.keep [1,16,17,18] rfl ?_
 refine l_ (Λ':=[]) ?_
 refine A.loopP (ι:=Nat) (fun i=>(⟨[(1, .pe 8 (cellsR p)),(16,rsA p.l),(17,AI (p.l.length:Nat)),(18,AI (i:Nat))],[]⟩,[])) (fun i=>i<=p.l.length/\ ∀x,x∈p.l.take i->untR x=true) (fun i=>p.l.length-i) 0 ⟨Nat.zero_le _,fun x h=>by rw [List.take_zero] at h;cases h⟩ rfl fun i hi ih=>?_
 obtain ⟨hi1,hi2⟩:=hi
 refine y_ ?_
 refine k_ (fun hc=>?_) fun hc=>?_
 ·have hci:i<p.l.length:=by simpa using hc
  clear hc
  refine Exists.elim (at_exN (l:=p.l) (i:=i) hci) fun x hx=>?_
  have hxm:=List.mem_of_getElem? hx
  have hcall:=hl x hxm
  have htk:p.l.take (i+1)=p.l.take i++[x]:=by rw [List.take_add_one,hx];rfl
  refine y_ ?_
  refine j_ rfl (encRl_at hx) (encR_eq x) ?_
  (repeat refine A.s rfl ?_)
  refine A.b rfl fun b4=>?_
  refine y_ ?_
  refine c_ hcall ?_
  refine k_ (fun hc=>?_) fun hc=>?_
  ·have hx0:untR x=false:=by simpa using hc
   refine y_ ?_
   refine R_ ?_
   rw [hR,unt_no_l hxm hx0]
   exact .refl
  ·have hx1:untR x=true:=by simpa using hc
   clear hc
   refine y_ ?_
   refine A.valE 18 rfl (x':=AI ((i+1:Nat):Int)) (inc_eq i (by omega)) ?_
   refine l_ (Λ':=[]) ?_
   refine u_ (ih (i+1) ⟨by omega,fun y hy=>?_⟩ (by omega))
   rw [htk,List.mem_append] at hy
   rcases hy with hy|hy
   ·exact hi2 y hy
   ·rw [List.mem_singleton.1 hy];exact hx1
 have hci: ¬i<p.l.length:=by simpa using hc
 clear hc ih
 have hil:i=p.l.length:=by omega
 rw [hil,List.take_length] at hi2
 refine y_ ?_
 refine A.valE 28 rfl (x':=AI (p.gs.length:Nat)) (ai_eq n2) ?_
 refine A.keep [1,27,28,29] rfl ?_
 refine A.loopP (ι:=Nat) (fun j=>(⟨[(1, .pe 8 (cellsR p)),(27,gsA p.gs),(28,AI (p.gs.length:Nat)),(29,AI (j:Nat))],[]⟩,[])) (fun j=>j<=p.gs.length/\ ∀g,g∈p.gs.take j->g.kind≠4/\ ∃y,g.body=[y]/\untR y=true) (fun j=>p.gs.length-j) 0 ⟨Nat.zero_le _,fun x h=>by rw [List.take_zero] at h;cases h⟩ rfl fun j hj jh=>?_
 obtain ⟨hj1,hj2⟩:=hj
 refine y_ ?_
 refine k_ (fun hc=>?_) fun hc=>?_
 ·have hcj:j<p.gs.length:=by simpa using hc
  clear hc
  refine Exists.elim (at_exN (l:=p.gs) (i:=j) hcj) fun g hgj=>?_
  have hgm:=List.mem_of_getElem? hgj
  have htk:p.gs.take (j+1)=p.gs.take j++[g]:=by rw [List.take_add_one,hgj];rfl
  refine Exists.elim (hbd g hgm) fun y hy=>?_
  have hcall:=hg g hgm y (by rw [hy];exact .head _)
  have hat:(encRl g.body)[(0:Int).toNat]? =some (encR y):=encRl_at (by rw [hy];rfl)
  refine y_ ?_
  refine j_ rfl (encGl_at hgj) (encG_eq g) ?_
  (repeat refine A.s rfl ?_)
  refine A.b rfl fun b6=>?_
  refine y_ ?_
  by_cases h4:g.kind=4
  ·refine e_ 36 rfl (x':=AB true) (ab_eq (by rw [h4];rfl)) ?_
   refine R_ ?_
   rw [hR,unt_no_g hgm h4]
   exact .refl
  ·refine e_ 36 rfl (x':=AB false) (ab_eq (beq_eq_false_iff_ne.2 h4)) ?_
   refine i_ rfl hat (encR_eq y) ?_
   refine c_ hcall ?_
   refine k_ (fun hc=>?_) fun hc=>?_
   ·have hx0:untR y=false:=by simpa using hc
    refine y_ ?_
    refine R_ ?_
    rw [hR,unt_no_b hgm hy hx0]
    exact .refl
   ·have hx1:untR y=true:=by simpa using hc
    clear hc
    refine y_ ?_
    refine A.valE 29 rfl (x':=AI ((j+1:Nat):Int)) (inc_eq j (by omega)) ?_
    refine l_ (Λ':=[]) ?_
    refine u_ (jh (j+1) ⟨by omega,fun g' hg'=>?_⟩ (by omega))
    rw [htk,List.mem_append] at hg'
    rcases hg' with hg'|hg'
    ·exact hj2 g' hg'
    ·rw [List.mem_singleton.1 hg'];exact ⟨h4,y,hy,hx1⟩
 have hcj: ¬j<p.gs.length:=by simpa using hc
 clear hc jh
 have hjl:j=p.gs.length:=by omega
 rw [hjl,List.take_length] at hj2
 refine y_ ?_
 refine R_ ?_
 rw [hR,unt_yes h7 h8 hi2 hj2]
 exact .refl
theorem tunt_n: ∀(m:Nat) (p:PR) (n hi:Bool),SizeOf.sizeOf p<=m->okF (Loc V C) n hi p->Pure Tryz.prog gs0 86 [cellsR p] (AB (untR p))
 |0,p,_,_,h,_=>by
  obtain ⟨k,c,v,i,to,e,gs,l⟩:=p
  simp only [PR.mk.sizeOf_spec] at h;omega
 |m+1,p,n,hi,hm,w=>by
  have hs:=(okF_sm w).2.1
  rw [okF_eq] at w
  obtain ⟨⟨w1,w2,w3⟩,w4,w5⟩:=w
  refine tunt_f p hs w1.body (fun x hx=>?_) (fun g hg x hx=>?_)
  ·obtain ⟨n',h',hw⟩:=okFl_some w4 hx
   exact tunt_n m x n' h' (by have:=pr_lt hx;omega) hw
  ·have:=okFs_mem w5 g hg
   rw [okFg_eq] at this
   obtain ⟨n',h',hw⟩:=okFl_some this hx
   exact tunt_n m x n' h' (by have:=gg_lt hg;have:=bd_lt hx;omega) hw
end
theorem tunt_p{k:KN}(hk:SmN k)(hm:mayK k=true):Pure Tryz.prog gs0 86 [cellsR k.root] (AB (untR k.root)):=tunt_n _ k.root true false (Nat.le_refl _) (start_root hm hk.wf hk.root)
end Go.Proofs.YtkbolbpojpmicaaGreat
namespace Go.Tp
open Go Go.RowKit
def SbQ(D:Da)(ps:List Nat)(zs args':List AV):Prop:= ∀(h h':GH) (Es:Slots),RpD h D Es->h.le h'->(∀j,j∈ps-> ∀x,Es j=some x->atH h' x.b x.lo x.cs)-> ∀v,RpC h zs v->RpC h' args' v
theorem SbQ.ag{D:Da}{ps:List Nat}{l r zs bs:List AV}(h1:SbPL D ps l r)(h2:SbPL D ps zs bs):SbQ D ps (.ag l::zs) (.ag r::bs):=fun h h' Es dd hl hp v q=>by
 rw [RpC_cons] at q⊢
 obtain ⟨u,us,rfl,q1,q2⟩:=q
 refine ⟨u,us,rfl,?_,h2.rp dd hl hp q2⟩
 rw [Rp_ag] at q1⊢
 obtain ⟨z,rfl,q3⟩:=q1
 exact ⟨z,rfl,h1.rp dd hl hp q3⟩
theorem WA.callQ{K:AC}{all:Array Oper}{m:Nat}{k:List It}{pubs:Nat->List Nat}{Y:Ua}{π:List Nat}{E:AEnv}{Λ:List AEnt}{D:Da}{i:Nat}{o:Oper}{ks:List (Nat×Bool)}{x:Operand}{args:Array Operand}{ts:Array TypeId}{f:FuncId}{fst cap vs args':List AV}{y:AV}{d:Nat}{ps:List Nat}{D':Da}(hi:nthL all.toList i=some o)
 (hg:gyesA E all o.guard=some ks) (ho:o.op= .call ⟨.value x,args,ts⟩) (hx:E.ev K.gs ks x=some (.fn f fst cap)) (ha:evsA (E.ev K.gs ks) args.toList=some vs)
 (hd:o.dst=some d) (hc:okPutA K.n E d=true) (hp:pubs i=ps) (hii:memB i ps=false) (hD:dropD ps D=D') (hY:lookA Y i=some y) (hf:Pure K.P K.gs f args' y) (hs:SbQ D ps (fst++(vs++cap)) args')
 (next:WA K all m k pubs Y π ⟨(d,y)::E.us,E.cs⟩ Λ D'):WA K all m k pubs Y (i::π) E Λ D:=by
 subst hD;subst hp
 refine ⟨fun h e L Es hl r q dd=>?_⟩
 obtain ⟨v1,e1,f1⟩:=r.ev (K.hgs.mono hl) _ hx
 rw [Rp_fn] at f1
 obtain ⟨u,w,rfl,f2,f3⟩:=f1
 obtain ⟨us,e2,f4⟩:=evsA_rp (σ:=e.ev ks) (fun z x hz=>r.ev (K.hgs.mono hl) ks hz) ha
 refine WE.callL (G:=drawRg K.cfg all (L++K.G) pubs (YA Y) m k) hi (gyesA_eq r hg) ho e1 e2 hd (okPutA_eq r hc) (fun pk L'=>?_) (fun v h' y1 y2 y3=>?_) hii
 ·have hargs:=hs _ _ _ dd pk.1 pk.2 _ (f2.append (f4.append f3))
  refine (hf K.w0 _ _ [] _ (K.hgs.mono (GH.le_trans hl pk.1)) hargs rfl).mono ?_
  rintro v h' L'' ⟨z,Λ',L1,⟨rfl,rfl⟩,g2,g3,g4,rfl⟩
  have g4:L1=[]:=g4
  subst g4
  exact ⟨rfl,g3,by simp only [YA,hY];exact g2⟩
 ·have y3:Rp h' y v:=by simp only [YA,hY] at y3;exact y3
  exact next.run h' ⟨(d,v)::e.us,e.cs⟩ L _ (GH.le_trans hl y2) ⟨(r.1.mono y2).put y3,r.2.mono y2⟩ (q.mono y2) ((dd.mono y2).pub _)
end Go.Tp
namespace Go.Proofs.YtkbolbpojpmicaaGreat
open Go Go.Tp
theorem raw_lenl: ∀{l:List PR},(∀x,x∈l->(rawC x).length<=17*szR x)->(rawCl l).length<=17*szL l
 | [],_=>by rw [rawCl,szL];exact Nat.le_refl _
 |p::r,h=>by
  have h1:=h p (.head _)
  have h2:=raw_lenl (l:=r) fun x hx=>h x (.tail _ hx)
  rw [rawCl,szL,List.length_append];omega
theorem raw_leng: ∀{l:List GD},(∀g,g∈l-> ∀x,x∈g.body->(rawC x).length<=17*szR x)->(rawCg l).length<=l.length+17*szGs l
 | [],_=>by rw [rawCg,szGs];exact Nat.le_refl _
 |⟨k,cd,c,it,to,tm,b⟩::r,h=>by
  have h1:=raw_lenl (l:=b) (h _ (.head _))
  have h2:=raw_leng (l:=r) fun x hx=>h x (.tail _ hx)
  rw [rawCg,szGs,szG]
  simp only [List.length_append,List.length_cons]
  split
  ·simp only [List.length_cons,List.length_nil];omega
  ·simp only [List.length_nil];omega
theorem raw_len_n{V:List KV}{C:List Int}: ∀(m:Nat) (p:PR),SizeOf.sizeOf p<=m->Un V C p->(rawC p).length<=17*szR p
 |0,p,h,_=>by
  obtain ⟨k,c,v,i,to,e,gs,l⟩:=p
  simp only [PR.mk.sizeOf_spec] at h;omega
 |m+1,p,hm,u=>by
  have h1:=raw_lenl (l:=p.l) fun x hx=>raw_len_n m x (by have:=lt19_l hx;omega) (u.l x hx)
  have h2:=raw_leng (l:=p.gs) fun g hg x hx=>raw_len_n m x (by have:=lt19_g hg hx;omega) (u.g g hg x hx)
  have h3:=u.loc.lens.2.2.1
  obtain ⟨k,c,v,i,to,e,gs,l⟩:=p
  rw [rawC,szR]
  have h1:(rawCl l).length<=17*szL l:=h1
  have h2:(rawCg gs).length<=gs.length+17*szGs gs:=h2
  have h3:gs.length<=16:=h3
  simp only [List.length_append]
  split
  ·simp only [List.length_cons,List.length_nil];omega
  ·simp only [List.length_nil];omega
theorem raw_len{V:List KV}{C:List Int}{p:PR}(u:Un V C p):(rawC p).length<=17*szR p:=raw_len_n _ p (Nat.le_refl _) u
def errX(k:KN)(t:TR)(f:Int):Int:=if mayK k=false\/untR k.root=false\/f<0\/1024<f then 2 else if 256<t.length then 3 else 0
abbrev runX(k:KN)(t:TR)(f:Int):RN:=runR f.toNat [0,1] t (storeS k.vars) k.root
def ofX(k:KN)(t:TR)(f:Int):RN:=if errX k t f=0 then runX k t f else nilR
structure XOk(k:KN)(t:TR)(f:Int):Prop where
 may:mayK k=true
 unt:untR k.root=true
 f0:0<=f
 f1:f<=1024
 len:t.length<=256
theorem errX_ok{k:KN}{t:TR}{f:Int}(h:errX k t f=0):XOk k t f:=by
 unfold errX at h
 split at h
 ·omega
 ·rename_i h1
  split at h
  ·omega
  ·rename_i h2
   simp only [not_or,Bool.not_eq_false,Int.not_lt] at h1
   exact ⟨h1.1,h1.2.1,h1.2.2.1,h1.2.2.2,by omega⟩
theorem errX_zero{k:KN}{t:TR}{f:Int}(h:XOk k t f):errX k t f=0:=by
 unfold errX
 rw [if_neg (by rintro (h1|h1|h1|h1);rw [h.may] at h1;cases h1;rw [h.unt] at h1;cases h1;exact absurd h.f0 (by omega);exact absurd h.f1 (by omega)),if_neg (by have:=h.len;omega)]
theorem un_root{k:KN}(hk:SmN k)(hm:mayK k=true)(hu:untR k.root=true):Un k.vars k.chans k.root:=⟨_,_,lu_of hu (start_root hm hk.wf hk.root)⟩
theorem stX{k:KN}(hm:mayK k=true):StOk k.vars (storeS k.vars):=by rw [storeS_eq hm];exact store_ok (may_sounds hm)
theorem runX_p(k:KN)(hk:SmN k)(t:TR)(ht:TrI t)(f:Int)(h:XOk k t f)(hw:wayR k.root f.toNat<=2000):Pure Tryz.prog gs0 87 [whA t [0,1] f.toNat,cellsR k.root,rowsA (storeS k.vars)] (rnV (runX k t f)):=by
 have hu:=un_root hk h.may h.unt
 have hsz:=(may_fits h.may).2.1
 have hr:=raw_len hu
 have:=h.f1
 exact run19_p f.toNat (by omega) k.root hu hw [0,1] t _ (by show 2+_<=_;omega) ht h.len (stX h.may)
theorem tof_p(k:KN)(hk:SmN k)(t:TR)(ht:TrI t)(f:Int)(hw:errX k t f=0->wayR k.root f.toNat<=2000):Pure Tryz.prog gs0 45 [encN k,trA t,AI f] (.tp [rnV (ofX k t f),AI (errX k t f)]):=by
 have h1:=kmay_p k hk.wf
 have nt:=trA_len t
 refine Exists.elim (show∃R,R=errX k t f from ⟨_,rfl⟩) fun R hR=>?_
 refine Exists.elim (show∃O,O=ofX k t f from ⟨_,rfl⟩) fun O hO=>?_
 rw [<-hR,<-hO]
 by_cases hm:mayK k=true
 case neg=>
  have hm:mayK k=false:=by simpa using hm
  have e:errX k t f=2:=by unfold errX;rw [if_pos (.inl hm)]
  unfold ofX at hO
  rw [e] at hR hO
  rw [if_neg (by decide)] at hO
  rw [hm] at h1
  refine p_ tt_ok Tryz.func45 39 fun w0 h0 F hgs=>?_
  (repeat refine A.s rfl ?_)
  refine A.b rfl fun b3=>?_
  refine A.b rfl fun b6=>?_
  refine y_ ?_
  refine c_ h1 ?_
  refine m_ (ResA.cell rfl rfl rfl (ResA.tmp rfl ResA.nil)) ?_
  rw [hR,hO]
  exact s_
 have h2:=tunt_p hk hm
 rw [hm] at h1
 by_cases hu:untR k.root=true
 case neg=>
  have hu:untR k.root=false:=by simpa using hu
  have e:errX k t f=2:=by unfold errX;rw [if_pos (.inr (.inl hu))]
  unfold ofX at hO
  rw [e] at hR hO
  rw [if_neg (by decide)] at hO
  rw [hu] at h2
  refine p_ tt_ok Tryz.func45 39 fun w0 h0 F hgs=>?_
  (repeat refine A.s rfl ?_)
  refine A.b rfl fun b3=>?_
  refine A.b rfl fun b6=>?_
  refine y_ ?_
  refine c_ h1 ?_
  refine c_ h2 ?_
  refine m_ (ResA.cell rfl rfl rfl (ResA.tmp rfl ResA.nil)) ?_
  rw [hR,hO]
  exact s_
 rw [hu] at h2
 by_cases c1:f<0
 ·have e:errX k t f=2:=by unfold errX;rw [if_pos (.inr (.inr (.inl c1)))]
  unfold ofX at hO
  rw [e] at hR hO
  rw [if_neg (by decide)] at hO
  refine p_ tt_ok Tryz.func45 39 fun w0 h0 F hgs=>?_
  (repeat refine A.s rfl ?_)
  refine A.b rfl fun b3=>?_
  refine A.b rfl fun b6=>?_
  refine y_ ?_
  refine c_ h1 ?_
  refine c_ h2 ?_
  refine T_ rfl (by show decide (f<0)=true;rw [decide_eq_true_eq];exact c1) ?_
  refine m_ (ResA.cell rfl rfl rfl (ResA.tmp rfl ResA.nil)) ?_
  rw [hR,hO]
  exact s_
 by_cases c2:1024<f
 ·have e:errX k t f=2:=by unfold errX;rw [if_pos (.inr (.inr (.inr c2)))]
  unfold ofX at hO
  rw [e] at hR hO
  rw [if_neg (by decide)] at hO
  refine p_ tt_ok Tryz.func45 39 fun w0 h0 F hgs=>?_
  (repeat refine A.s rfl ?_)
  refine A.b rfl fun b3=>?_
  refine A.b rfl fun b6=>?_
  refine y_ ?_
  refine c_ h1 ?_
  refine c_ h2 ?_
  refine F_ rfl (by show decide (f<0)=false;rw [decide_eq_false_iff_not];exact c1) ?_
  refine T_ rfl (by show (bif false then true else decide (1024<f))=true;rw [decide_eq_true c2];rfl) ?_
  refine m_ (ResA.cell rfl rfl rfl (ResA.tmp rfl ResA.nil)) ?_
  rw [hR,hO]
  exact s_
 have hno: ¬(mayK k=false\/untR k.root=false\/f<0\/1024<f):=by
  rintro (h|h|h|h)
  ·rw [hm] at h;cases h
  ·rw [hu] at h;cases h
  ·exact c1 h
  ·exact c2 h
 by_cases c3:256<t.length
 ·have e:errX k t f=3:=by unfold errX;rw [if_neg hno,if_pos c3]
  unfold ofX at hO
  rw [e] at hR hO
  rw [if_neg (by decide)] at hO
  refine p_ tt_ok Tryz.func45 39 fun w0 h0 F hgs=>?_
  (repeat refine A.s rfl ?_)
  refine A.b rfl fun b3=>?_
  refine A.b rfl fun b6=>?_
  refine y_ ?_
  refine c_ h1 ?_
  refine c_ h2 ?_
  refine F_ rfl (by show decide (f<0)=false;rw [decide_eq_false_iff_not];exact c1) ?_
  refine F_ rfl (by show (bif false then true else decide (1024<f))=false;rw [decide_eq_false c2];rfl) ?_
  refine T_ rfl (by show decide ((256:Int)<((t.map evA).length:Int))=true;rw [nt,decide_eq_true_eq];omega) ?_
  refine m_ (ResA.cell rfl rfl rfl (ResA.tmp rfl ResA.nil)) ?_
  rw [hR,hO]
  exact s_
 have hx:XOk k t f:=⟨hm,hu,by omega,by omega,by omega⟩
 have e:=errX_zero hx
 have hrun:=runX_p k hk t ht f hx (hw e)
 have hst:=storeS_pN k.vars k.chans k.root k.procs hk.wf.vars
 rw [show ((⟨k.vars,k.chans,k.root,k.procs⟩:KN))=k from rfl] at hst
 unfold ofX at hO
 rw [if_pos e] at hO
 rw [e] at hR
 have hfn:((f.toNat:Nat):Int)=f:=by omega
 rw [show whA t [0,1] f.toNat= .ag [trA t,intsA [0,1],AI f] by show AV.ag [_,_,AI _]=_;rw [hfn]] at hrun
 refine p_ tt_ok Tryz.func45 39 fun w0 h0 F hgs=>?_
 (repeat refine A.s rfl ?_)
 refine A.b rfl fun b3=>?_
 refine A.b rfl fun b6=>?_
 refine y_ ?_
 refine c_ h1 ?_
 refine c_ h2 ?_
 refine F_ rfl (by show decide (f<0)=false;rw [decide_eq_false_iff_not];exact c1) ?_
 refine F_ rfl (by show (bif false then true else decide (1024<f))=false;rw [decide_eq_false c2];rfl) ?_
 refine F_ rfl (by show decide ((256:Int)<((t.map evA).length:Int))=false;rw [nt,decide_eq_false_iff_not];omega) ?_
 refine A.draw 9 [0,1,2,3,4,5,6,7,8] (fun i=>if i=8 then [1] else []) [(7,rowsA (storeS k.vars)),(8,rnV (runX k t f))] (by kernel_rfl) (by kernel_rfl) ?_
 refine w_ ?_
 refine WA.lit rfl rfl rfl rfl rfl rfl rfl fun bw=>?_
 refine w_ ?_
 refine cw_ hst ?_
 refine WA.callQ rfl rfl rfl rfl rfl rfl rfl rfl rfl rfl rfl hrun (.ag (.cons (.sub .refl) (.cons (.pub (j:=1) rfl rfl (.sub .refl)) (.sub .refl))) (.sub .refl)) ?_
 refine z_ ?_
 refine m_ (ResA.cell rfl rfl rfl (ResA.tmp rfl ResA.nil)) ?_
 rw [hR,hO]
 exact s_
def hasX(k:KN)(t:TR)(f:Int):Bool:=errX k t f==0&&(runX k t f).reach==t.length
def hasE(k:KN)(t:TR)(f:Int):Int:=if errX k t f=0 then (if (runX k t f).reach≠t.length/\(runX k t f).miss=true then 190 else 0) else errX k t f
theorem thas_p(k:KN)(hk:SmN k)(t:TR)(ht:TrI t)(f:Int)(hw:errX k t f=0->wayR k.root f.toNat<=2000):Pure Tryz.prog gs0 15 [encN k,trA t,AI f] (.tp [AB (hasX k t f),AI (hasE k t f)]):=by
 have h1:=tof_p k hk t ht f hw
 have nt:=trA_len t
 by_cases he:errX k t f=0
 case neg=>
  have e1:hasX k t f=false:=by unfold hasX;rw [beq_eq_false_iff_ne.2 he,Bool.false_and]
  have e2:hasE k t f=errX k t f:=by unfold hasE;rw [if_neg he]
  rw [e1,e2]
  refine p_ tt_ok Tryz.func15 30 fun w0 h0 F hgs=>?_
  (repeat refine A.s rfl ?_)
  refine A.b rfl fun b3=>?_
  refine y_ ?_
  refine n_ h1 ?_
  (refine b_ fun bx=>?_;refine y_ ?_)
  refine T_ rfl (by show (errX k t f !=0)=true;exact bne_iff_ne.2 he) ?_
  refine q_ ?_
  exact .refl
 have hO:ofX k t f=runX k t f:=by unfold ofX;rw [if_pos he]
 rw [he,hO] at h1
 unfold hasX hasE
 rw [he,if_pos rfl]
 refine Exists.elim (show∃q,q=runX k t f from ⟨_,rfl⟩) fun q hq=>?_
 rw [<-hq] at h1⊢
 rw [show ((0:Int)==0)=true from rfl,Bool.true_and]
 by_cases hr:q.reach=t.length
 ·rw [beq_iff_eq.2 hr,if_neg (fun h=>h.1 hr)]
  refine p_ tt_ok Tryz.func15 30 fun w0 h0 F hgs=>?_
  (repeat refine A.s rfl ?_)
  refine A.b rfl fun b3=>?_
  refine y_ ?_
  refine n_ h1 ?_
  (refine b_ fun bx=>?_;refine y_ ?_)
  refine T_ rfl (by show ((q.reach:Int)==((t.map evA).length:Int))=true;rw [nt,hr];exact beq_self_eq_true _) ?_
  refine q_ ?_
  exact .refl
 rw [beq_eq_false_iff_ne.2 hr]
 cases hmi:q.miss with
 |true=>
  rw [if_pos ⟨hr,rfl⟩]
  refine p_ tt_ok Tryz.func15 30 fun w0 h0 F hgs=>?_
  (repeat refine A.s rfl ?_)
  refine A.b rfl fun b3=>?_
  refine y_ ?_
  refine n_ h1 ?_
  (refine b_ fun bx=>?_;refine y_ ?_)
  refine F_ rfl (by show ((q.reach:Int)==((t.map evA).length:Int))=false;rw [nt,beq_eq_false_iff_ne];omega) ?_
  refine T_ rfl hmi ?_
  refine q_ ?_
  exact .refl
 |false=>
  rw [if_neg (fun h=>by cases h.2)]
  refine p_ tt_ok Tryz.func15 30 fun w0 h0 F hgs=>?_
  (repeat refine A.s rfl ?_)
  refine A.b rfl fun b3=>?_
  refine y_ ?_
  refine n_ h1 ?_
  (refine b_ fun bx=>?_;refine y_ ?_)
  refine F_ rfl (by show ((q.reach:Int)==((t.map evA).length:Int))=false;rw [nt,beq_eq_false_iff_ne];omega) ?_
  refine F_ rfl hmi ?_
  refine q_ ?_
  exact .refl
end Go.Proofs.YtkbolbpojpmicaaGreat
namespace Go.Tp
open Go Go.RowKit
theorem flat_at{k:Nat}(hk:0<k): ∀(zs:List Value) (hz: ∀z,z∈zs->(cellsL z).length=k) (j:Nat),j<zs.length*k->(catL zs)[j]? =(zs[j / k]?).bind fun z=>(cellsL z)[j % k]?
 | [],_,j,hj=>by simp at hj
 |z::zs,hz,j,hj=>by
  have h0:=hz z (List.mem_cons_self ..)
  show (cellsL z++catL zs)[j]? =_
  rcases Nat.lt_or_ge j k with h|h
  ·rw [List.getElem?_append_left (by omega),Nat.div_eq_of_lt h,Nat.mod_eq_of_lt h];rfl
  ·rw [List.getElem?_append_right (by omega),h0,flat_at hk zs (fun z hz'=>hz z (List.mem_cons_of_mem _ hz')) (j-k) (by simp only [List.length_cons,Nat.succ_mul] at hj;omega)]
   have e1:j / k=(j-k) / k+1:=by rw [Nat.div_eq j k,if_pos ⟨hk,h⟩]
   have e2:j % k=(j-k) % k:=by rw [Nat.mod_eq_sub_mod h]
   rw [e1,e2,List.getElem?_cons_succ]
def atW{α:Type}(l:List α)(h:0<l.length)(i:Nat):α:=l[i % l.length]'(Nat.mod_lt _ h)
theorem atW_lt{α:Type}{l:List α}(h:0<l.length){i:Nat}(hi:i<l.length):l[i]? =some (atW l h i):=by
 unfold atW
 have:i % l.length=i:=Nat.mod_eq_of_lt hi
 simp [this,hi]
theorem atW_mem{α:Type}{l:List α}(h:0<l.length)(i:Nat):atW l h i∈l:=List.getElem_mem ..
theorem map_atW{α:Type}{l:List α}(h:0<l.length):(List.range l.length).map (atW l h)=l:=by
 apply List.ext_getElem?
 intro i
 rcases Nat.lt_or_ge i l.length with hi|hi
 ·rw [List.getElem?_map,List.getElem?_range hi,Option.map_some,atW_lt h hi]
 ·rw [List.getElem?_eq_none (by simpa using hi),List.getElem?_eq_none hi]
theorem RpC.atW{h:GH}{l:List AV}{zs:List Value}(r:RpC h l zs)(h1:0<l.length)(h2:0<zs.length)(i:Nat):Rp h (atW l h1 i) (atW zs h2 i):=by
 have hl:=r.len
 obtain ⟨v,e,q⟩:=r.at (i:=i % l.length) (x:=Go.Tp.atW l h1 i) (by simp [Go.Tp.atW])
 have:Go.Tp.atW zs h2 i=v:=by
  unfold Go.Tp.atW
  have e':zs[i % zs.length]? =some v:=by rw [hl];exact e
  rw [List.getElem?_eq_getElem (Nat.mod_lt _ h2)] at e'
  exact Option.some.inj e'
 rw [this];exact q
theorem RpC_map{h:GH}{ι:Type}{f:ι->AV}{z:ι->Value}(r: ∀i,Rp h (f i) (z i)): ∀l:List ι,RpC h (l.map f) (l.map z)
 | []=>RpC_nil.2 rfl
 |x::l=>RpC_cons.2 ⟨_,_,rfl,r x,RpC_map r l⟩
section
variable{κ:Type}{P:Program}{gs:Ua}{ρ:Shelf.Ren}
theorem mono_swo{α β:Type}{lt:α->α->Bool}(f:β->α)(h:Sort.SWO lt):Sort.SWO fun x y=>lt (f x) (f y):=
 ⟨fun x=>h.irrefl _,fun x y z=>h.trans _ _ _,fun x y z=>h.ntrans _ _ _⟩
theorem perm_of_in{n:Nat}{d d':Array Nat}(hd:d.size=n)(h:Sort.PermIn 0 n d d'):d'.toList.Perm d.toList:=by
 obtain ⟨h1,_,h3⟩:=h
 have e1:d'.extract 0 n=d':=by rw [<-hd,<-h1];simp
 have e2:d.extract 0 n=d:=by rw [<-hd];simp
 rwa [e1,e2] at h3
theorem sorted_of_in{lt:Nat->Nat->Bool}{n:Nat}{d:Array Nat}(hd:d.size=n)(h:Sort.SortedIn lt 0 n d):d.toList.Pairwise fun x y=>lt y x=false:=by
 rw [List.pairwise_iff_getElem]
 intro i j hi hj hij
 have hi':i<d.size:=by simpa using hi
 have hj':j<d.size:=by simpa using hj
 have:=h i j (Nat.zero_le _) hij (by omega)
 rw [getElem!_pos d i hi',getElem!_pos d j hj'] at this
 simpa using this
theorem sort1_fun(L:Go.Proofs.SlLaysF.n6 P ρ)(hfn: ∃g c,P.funcs[ρ.f 6]? =some g/\g.body=some c/\(g.name== "runtime.NumGoroutine")=false)
 (enc:κ->AV) (cf:κ->κ->Int) (hO:Sort.SWO fun x y=>decide (cf x y<0)) (g:FuncId) (eg: ∀args w,(callFunc g args).run P w= .ok (.enter g args) w) (z:Value) (n:Nat) (ks:List κ) (h1: ∀x,x∈ks->(enc x).one=true)
 (hc: ∀x,x∈ks-> ∀y,y∈ks->Pure P gs g [enc x,enc y] (.v (.int .i64 (cf x y)))) (hsz:ks.length<4611686018427387904):
 Fun P gs (ρ.f 6) [.ms z 1 n, .fn g [] []] [.row 1 z (ks.map enc)] fun y Λ'=> ∃ks':List κ,ks'.Perm ks/\ks'.Pairwise (fun a b=>0<=cf b a)/\y= .tp []/\Λ'=[.row 1 z (ks'.map enc)]:=by
 intro w0 h vs LL F hg r q
 rw [RpC_cons] at r
 obtain ⟨u,us,rfl,r1,r2⟩:=r
 rw [RpC_cons] at r2
 obtain ⟨u2,us2,rfl,r2,r3⟩:=r2
 rw [RpC_nil] at r3;subst r3
 rw [Rp_ms] at r1
 obtain ⟨rfl,_⟩:=r1
 rw [Rp_fn] at r2
 obtain ⟨c1,c2,rfl,r4,r5⟩:=r2
 rw [RpC_nil] at r4 r5;subst r4;subst r5
 obtain ⟨M,L2,rfl,⟨p,hrow,rfl⟩,q2⟩:=q
 have q2:L2=[]:=q2
 subst q2
 refine ⟨hfn,fun w s=>?_⟩
 have hrow':=hrow
 obtain ⟨a,cap,zs,e1,e2,e3,e4,e5⟩:=hrow
 rw [List.length_map] at e1 e2
 subst e1
 by_cases hn:0<ks.length
 ·rcases e5 with ⟨e5,_⟩|⟨b,o,sp,rfl,rfl,e6⟩
  ·simp at e5;subst e5;simp at hn
  have hzl:zs.length=ks.length:=by rw [e3.rp.len,List.length_map]
  have hz:0<zs.length:=by omega
  have hel: ∀i,Rp h (enc (atW ks hn i)) (atW zs hz i):=fun i=>by
   have:=e3.rp.atW (by rw [List.length_map];exact hn) hz i
   have e:atW (ks.map enc) (by rw [List.length_map];exact hn) i=enc (atW ks hn i):=by simp [atW]
   rwa [e] at this
  have hon: ∀i,oneC (atW zs hz i)=true:=fun i=>(hel i).one (h1 _ (atW_mem hn i))
  have hcat: ∀l:List Nat,catL (l.map (atW zs hz))=l.map (atW zs hz):=fun l=>by
   induction l with
   |nil=>rfl
   |cons x l ih=>show cellsL _++catL (l.map _)=_;rw [cellsL_one (hon x),ih];rfl
  have hzz:(List.range ks.length).map (atW zs hz)=zs:=by rw [<-hzl];exact map_atW hz
  let d:Array Nat:=(List.range ks.length).toArray
  have hds:d.size=ks.length:=by simp [d]
  have hcz:catL zs=zs:=by rw [<-hzz];exact hcat _
  have hH:Sort.Holds (atW zs hz) w b o d:=by
   intro j hj
   rw [hds] at hj
   have kk:=s.own _ (List.mem_cons_self ..)
   have hv:zs[j]? =some (atW zs hz d[j]!):=by
    rw [getElem!_pos d j (by rw [hds];exact hj)]
    have:d[j]'(by rw [hds];exact hj)=j:=by simp [d]
    rw [this];exact atW_lt hz (by omega)
   exact ⟨kk.cell j _ (by show (catL zs++sp)[j]? =_;rw [hcz,List.getElem?_append_left (by omega)];exact hv),kk.warm j (by show j<(catL zs++sp).length;rw [hcz,List.length_append];omega)⟩
  have hst: ∀(m:Nat) (os:Array Obj) (dk:Array Nat),dk.size=d.size->St w0 h (⟨b,o,catL (dk.toList.map (atW zs hz))++sp,none⟩::([]++F)) (Go.Proofs.sortWorld (atW zs hz) w b o m dk os):=fun m os dk hdk=>by
   have:=s.sorted (enc:=atW zs hz) (d:=d) (d':=dk) (n:=m) (os:=os) (by rw [hds,hcz,List.length_append];omega) (by rw [hds];exact hn) hH hdk (fun j hj=>hon _)
   rw [hds,hcz,<-hzl,List.drop_left] at this
   rw [hcat];exact this
  have hcmp:Go.Proofs.CmpLays1 P g #[] (atW zs hz) (fun i j=>cf (atW ks hn i) (atW ks hn j)) b o d.size w:=by
   intro m os dk hdk x y
   exact pure_grown (hc _ (atW_mem hn x) _ (atW_mem hn y)) (hst m os dk hdk).self hg (RpC_cons.2 ⟨_,_,rfl,hel x,RpC_cons.2 ⟨_,_,rfl,hel y,RpC_nil.2 rfl⟩⟩)
  have hcall:=Go.Proofs.Any.slices_SortFunc L (atW zs hz) (fun i=>by rw [<-oneC_eq];exact hon i) (fun i j=>cf (atW ks hn i) (atW ks hn j)) (mono_swo (atW ks hn) hO) g #[] b o cap d w eg hcmp hH (lt_of_cell (hH 0 (by rw [hds];exact hn)).1) (by rw [hds];exact hsz)
  rw [hds] at hcall
  refine hcall.mono fun e w' ⟨he,d',m,os,h1,h2,h3⟩=>?_
  subst h3
  have hd':d'.size=d.size:=h1.1
  have hperm:=perm_of_in hds h1
  have hsort:=sorted_of_in (hd'.trans hds) h2
  have hdl:d'.toList.length=ks.length:=by rw [<-hds,<-hd'];simp
  refine ⟨_,h,_,he,⟨.tp [],_,_,⟨d'.toList.map (atW ks hn),?_,?_,rfl,rfl⟩,?_,GH.le_refl _,⟨[_],[],rfl,⟨_,⟨some ⟨b,o,none⟩,cap,d'.toList.map (atW zs hz),?_,?_,⟨?_,?_,?_⟩,rfl, .inr ⟨b,o,sp,rfl,rfl,?_⟩⟩,rfl⟩,rfl⟩,rfl⟩,hst m os d' hd'⟩
  ·have:=hperm.map (atW ks hn)
   rwa [show d.toList.map (atW ks hn)=ks from map_atW hn] at this
  ·rw [List.pairwise_map]
   refine hsort.imp fun {x y} hxy=>?_
   have hxy:decide (cf (atW ks hn y) (atW ks hn x)<0)=false:=hxy
   simpa using hxy
  ·rw [Rp_tp];exact ⟨[],rfl,RpC_nil.2 rfl⟩
  ·rw [List.length_map,List.length_map,hdl]
  ·rw [List.length_map,List.length_map,hdl];exact e2
  ·rw [List.map_map];exact RpC_map hel _
  ·intro z hz';obtain ⟨i,_,rfl⟩:=List.mem_map.1 hz';rw [cellsL_one (hon i)];rfl
  ·intro z hz';obtain ⟨i,_,rfl⟩:=List.mem_map.1 hz';rw [cellsL_one (hon i)];exact allOne_of fun v hv=>by rw [List.mem_singleton.1 hv];exact hon i
  ·rw [e6,List.length_map,List.length_map,List.length_map,hdl]
 ·have hk0:ks=[]:=List.eq_nil_of_length_eq_zero (by omega)
  subst hk0
  refine (Go.Proofs.AnyF.slices_SortFunc_none {L with} a cap (.func (.func g) #[] #[]) w).mono fun e w' ⟨he,hw⟩=>?_
  subst hw
  exact ⟨_,h,_,he,⟨.tp [],_,_,⟨[], .refl _,List.Pairwise.nil,rfl,rfl⟩,Rp_tp.2 ⟨[],rfl,RpC_nil.2 rfl⟩,GH.le_refl _,⟨[p],[],rfl,⟨p,hrow',rfl⟩,rfl⟩,rfl⟩,s⟩
end
end Go.Tp
namespace Go.Proofs
open Go.Shelf
def Tryz.sortS_ren:Go.Shelf.Ren:=⟨fun|6=>48|15=>94|14=>93|28=>163|29=>164|20=>155|21=>156|22=>157|23=>158|24=>159|25=>160|26=>161|27=>162|46=>234|47=>235|48=>236|49=>237|50=>238|57=>293|n=>n,fun|22=>43|24=>56|25=>98|3=>3|39=>167|0=>0|53=>234|55=>236|4=>4|46=>228|45=>227|50=>143|5=>5|9=>9|66=>315|70=>319|76=>354|77=>355|n=>n,fun|n=>n⟩
theorem Tryz.sortS:Go.Proofs.SlLaysF.n6 Tryz.prog Tryz.sortS_ren:={
 mixed:=by kernel_rfl
 f6:=⟨Tryz.f48.name,by decide,Tryz.func48.trans (congrArg some (by kernel_rfl))⟩
 f14:=⟨Tryz.f93.name,by decide,Tryz.func93.trans (congrArg some (by kernel_rfl))⟩
 f15:=Tryz.func94.trans (congrArg some (by kernel_rfl))
 f20:=⟨Tryz.f155.name,by decide,Tryz.func155.trans (congrArg some (by kernel_rfl))⟩
 f21:=⟨Tryz.f156.name,by decide,Tryz.func156.trans (congrArg some (by kernel_rfl))⟩
 f22:=⟨Tryz.f157.name,by decide,Tryz.func157.trans (congrArg some (by kernel_rfl))⟩
 f23:=⟨Tryz.f158.name,by decide,Tryz.func158.trans (congrArg some (by kernel_rfl))⟩
 f24:=⟨Tryz.f159.name,by decide,Tryz.func159.trans (congrArg some (by kernel_rfl))⟩
 f25:=⟨Tryz.f160.name,by decide,Tryz.func160.trans (congrArg some (by kernel_rfl))⟩
 f26:=⟨Tryz.f161.name,by decide,Tryz.func161.trans (congrArg some (by kernel_rfl))⟩
 f27:=⟨Tryz.f162.name,by decide,Tryz.func162.trans (congrArg some (by kernel_rfl))⟩
 f28:=Tryz.func163.trans (congrArg some (by kernel_rfl))
 f29:=Tryz.func164.trans (congrArg some (by kernel_rfl))
 f46:=⟨Tryz.f234.name,by decide,Tryz.func234.trans (congrArg some (by kernel_rfl))⟩
 f47:=Tryz.func235.trans (congrArg some (by kernel_rfl))
 f48:=Tryz.func236.trans (congrArg some (by kernel_rfl))
 f49:=⟨Tryz.f237.name,by decide,Tryz.func237.trans (congrArg some (by kernel_rfl))⟩
 f50:=⟨Tryz.f238.name,by decide,Tryz.func238.trans (congrArg some (by kernel_rfl))⟩
 f57:=⟨Tryz.f293.name,by decide,Tryz.func293.trans (congrArg some (by kernel_rfl))⟩
 t0:=Tryz.underlying0
 a0:=Tryz.isAgg0
 z0:=Tryz.sizeOf0
 v0:=Tryz.zeroValue0
 t3:=Tryz.underlying3
 a3:=Tryz.isAgg3
 z3:=Tryz.sizeOf3
 v3:=Tryz.zeroValue3
 t4:=Tryz.underlying4
 a4:=Tryz.isAgg4
 z4:=Tryz.sizeOf4
 v4:=Tryz.zeroValue4
 t5:=Tryz.underlying5
 a5:=Tryz.isAgg5
 z5:=Tryz.sizeOf5
 v5:=Tryz.zeroValue5
 t9:=Tryz.underlying9
 a9:=Tryz.isAgg9
 z9:=Tryz.sizeOf9
 v9:=Tryz.zeroValue9
 t22:=Tryz.underlying43
 a22:=Tryz.isAgg43
 z22:=Tryz.sizeOf43
 v22:=Tryz.zeroValue43
 a24:=Tryz.isAgg56
 z24:=Tryz.sizeOf56
 t25:=Tryz.underlying98
 a25:=Tryz.isAgg98
 z25:=Tryz.sizeOf98
 v25:=Tryz.zeroValue98
 t39:=Tryz.underlying167
 a39:=Tryz.isAgg167
 z39:=Tryz.sizeOf167
 v39:=Tryz.zeroValue167
 t45:=Tryz.underlying227
 a45:=Tryz.isAgg227
 z45:=Tryz.sizeOf227
 v45:=Tryz.zeroValue227
 t46:=Tryz.underlying228
 a46:=Tryz.isAgg228
 z46:=Tryz.sizeOf228
 v46:=Tryz.zeroValue228
 t50:=Tryz.underlying143
 a50:=Tryz.isAgg143
 z50:=Tryz.sizeOf143
 v50:=Tryz.zeroValue143
 t53:=Tryz.underlying234
 a53:=Tryz.isAgg234
 z53:=Tryz.sizeOf234
 v53:=Tryz.zeroValue234
 t55:=Tryz.underlying236
 a55:=Tryz.isAgg236
 z55:=Tryz.sizeOf236
 v55:=Tryz.zeroValue236
 t66:=Tryz.underlying315
 a66:=Tryz.isAgg315
 z66:=Tryz.sizeOf315
 v66:=Tryz.zeroValue315
 t70:=Tryz.underlying319
 a70:=Tryz.isAgg319
 z70:=Tryz.sizeOf319
 v70:=Tryz.zeroValue319
 t76:=Tryz.underlying354
 a76:=Tryz.isAgg354
 z76:=Tryz.sizeOf354
 v76:=Tryz.zeroValue354
 t77:=Tryz.underlying355
 a77:=Tryz.isAgg355
 z77:=Tryz.sizeOf355
 v77:=Tryz.zeroValue355}
end Go.Proofs
namespace Go.Proofs.YtkbolbpojpmicaaGreat
open Go Go.Tp
theorem cmpJN(x y:Int):cmpJ x y=cmpN x y:=by unfold cmpJ cmpN;repeat' split;all_goals omega
theorem lexC_step{α:Type}{cmp:α->α->Int}{a b:List α}{i:Nat}{x y:α}(hx:a[i]? =some x)(hy:b[i]? =some y):lexC cmp (a.drop i) (b.drop i)=if cmp x y=0 then lexC cmp (a.drop (i+1)) (b.drop (i+1)) else cmp x y:=by
 rw [drop_at hx,drop_at hy,lexC]
theorem cmpRw_p(a b:List Int)(ha:a.length<=281474976710656)(hb:b.length<=281474976710656):Pure Tryz.prog gs0 95 [rowA a,rowA b] (AI (cmpRw a b)):=by
 have na:((a.map AI32).length:Int)=a.length:=by rw [List.length_map]
 have nb:((b.map AI32).length:Int)=b.length:=by rw [List.length_map]
 refine Exists.elim (show∃R,R=cmpRw a b from ⟨_,rfl⟩) fun R hR=>?_
 rw [<-hR]
 refine p_ tt_ok Tryz.func95 36 fun w0 h0 F hgs=>?_
 refine y_ ?_
 refine A.keep [0,1,9,10,11] rfl ?_
 refine A.loopP (ι:=Nat) (fun i=>(⟨[(0,rowA a),(1,rowA b),(9,rowA a),(10,AI ((a.map AI32).length:Int)),(11,AI (i:Nat))],[]⟩,[])) (fun i=>i<=a.length/\i<=b.length/\R=cmpRw (a.drop i) (b.drop i)) (fun i=>a.length-i) 0 ⟨Nat.zero_le _,Nat.zero_le _,hR⟩ rfl fun i hi ih=>?_
 obtain ⟨hi1,hi2,hi3⟩:=hi
 refine y_ ?_
 by_cases hca:i<a.length
 ·refine Exists.elim (at_exN (l:=a) (i:=i) hca) fun x hx=>?_
  refine T_ rfl (by show decide ((i:Int)<((a.map AI32).length:Int))=true;rw [na,decide_eq_true_eq];omega) ?_
  refine i_ rfl (map_at hx) rfl ?_
  by_cases hcb:i<b.length
  ·refine Exists.elim (at_exN (l:=b) (i:=i) hcb) fun y hy=>?_
   have hc:=cmp32_p x y
   rw [cmpJN] at hc
   have hs:=lexC_step (cmp:=cmpN) hx hy
   have hi3:R=lexC cmpN (a.drop i) (b.drop i):=hi3
   rw [hs] at hi3
   refine F_ rfl (by show decide (((b.map AI32).length:Int)<=(i:Nat))=false;rw [nb,decide_eq_false_iff_not];omega) ?_
   refine i_ rfl (map_at hy) rfl ?_
   refine c_ hc ?_
   by_cases h0:cmpN x y=0
   ·rw [if_pos h0] at hi3
    refine F_ rfl (by rw [h0];rfl) ?_
    refine A.valE 11 rfl (x':=AI ((i+1:Nat):Int)) (inc_eq i (by omega)) ?_
    refine u_ (ih (i+1) ⟨by omega,by omega,hi3⟩ (by omega))
   ·rw [if_neg h0] at hi3
    refine T_ rfl (bne_iff_ne.2 h0) ?_
    refine R_ ?_
    rw [hi3]
    exact .refl
  ·have hb0:b.drop i=[]:=List.drop_eq_nil_of_le (by omega)
   rw [hb0,drop_at hx] at hi3
   refine T_ rfl (by show decide (((b.map AI32).length:Int)<=(i:Nat))=true;rw [nb,decide_eq_true_eq];omega) ?_
   refine R_ ?_
   rw [hi3]
   exact .refl
 ·have ha0:a.drop i=[]:=List.drop_eq_nil_of_le (by omega)
  rw [ha0] at hi3
  clear ih
  refine F_ rfl (by show decide ((i:Int)<((a.map AI32).length:Int))=false;rw [na,decide_eq_false_iff_not];omega) ?_
  by_cases hcb:i<b.length
  ·refine Exists.elim (at_exN (l:=b) (i:=i) hcb) fun y hy=>?_
   rw [drop_at hy] at hi3
   refine T_ rfl (by show decide (((a.map AI32).length:Int)<((b.map AI32).length:Int))=true;rw [na,nb,decide_eq_true_eq];omega) ?_
   refine R_ ?_
   rw [hi3]
   exact .refl
  ·rw [List.drop_eq_nil_of_le (by omega:b.length<=i)] at hi3
   refine F_ rfl (by show decide (((a.map AI32).length:Int)<((b.map AI32).length:Int))=false;rw [na,nb,decide_eq_false_iff_not];omega) ?_
   refine R_ ?_
   rw [hi3]
   exact .refl
theorem order19_p(a b:Sto)(hab:a.length=b.length)(hl:a.length<=1073741824)(ha: ∀r,r∈a->r.length<=281474976710656)(hb: ∀r,r∈b->r.length<=281474976710656):Pure Tryz.prog gs0 49 [rowsA a,rowsA b] (AI (cmpSt a b)):=by
 have na:((a.map rowA).length:Int)=a.length:=by rw [List.length_map]
 refine Exists.elim (show∃R,R=cmpSt a b from ⟨_,rfl⟩) fun R hR=>?_
 rw [<-hR]
 refine p_ tt_ok Tryz.func49 25 fun w0 h0 F hgs=>?_
 refine y_ ?_
 refine A.keep [0,1,8,9] rfl ?_
 refine A.loopP (ι:=Nat) (fun i=>(⟨[(0,rowsA a),(1,rowsA b),(8,AI ((a.map rowA).length:Int)),(9,AI (i:Nat))],[]⟩,[])) (fun i=>i<=a.length/\R=cmpSt (a.drop i) (b.drop i)) (fun i=>a.length-i) 0 ⟨Nat.zero_le _,hR⟩ rfl fun i hi ih=>?_
 obtain ⟨hi1,hi3⟩:=hi
 refine y_ ?_
 by_cases hca:i<a.length
 ·refine Exists.elim (at_exN (l:=a) (i:=i) hca) fun x hx=>?_
  refine Exists.elim (at_exN (l:=b) (i:=i) (by omega)) fun y hy=>?_
  have hc:=cmpRw_p x y (ha x (List.mem_of_getElem? hx)) (hb y (List.mem_of_getElem? hy))
  have hs:=lexC_step (cmp:=cmpRw) hx hy
  have hi3:R=lexC cmpRw (a.drop i) (b.drop i):=hi3
  rw [hs] at hi3
  refine T_ rfl (by show decide ((i:Int)<((a.map rowA).length:Int))=true;rw [na,decide_eq_true_eq];omega) ?_
  refine d_ 9 [0,1,2,3,4,5,6,7,8] [(8,AI (cmpRw x y))] ?_
  refine iw_ rfl (map_at hx) rfl ?_
  refine iw_ rfl (map_at hy) rfl ?_
  refine WA.c rfl rfl hc (.sub s_) ?_
  refine z_ ?_
  by_cases h0:cmpRw x y=0
  ·rw [if_pos h0] at hi3
   refine F_ rfl (by rw [h0];rfl) ?_
   refine A.valE 9 rfl (x':=AI ((i+1:Nat):Int)) (inc_eq i (by omega)) ?_
   refine u_ (ih (i+1) ⟨by omega,hi3⟩ (by omega))
  ·rw [if_neg h0] at hi3
   refine T_ rfl (bne_iff_ne.2 h0) ?_
   refine R_ ?_
   rw [hi3]
   exact .refl
 ·rw [List.drop_eq_nil_of_le (by omega:a.length<=i),List.drop_eq_nil_of_le (by omega:b.length<=i)] at hi3
  clear ih
  refine F_ rfl (by show decide ((i:Int)<((a.map rowA).length:Int))=false;rw [na,decide_eq_false_iff_not];omega) ?_
  refine R_ ?_
  rw [hi3]
  exact .refl
theorem cmpSt_dec(a b:Sto):decide (cmpSt a b<0)=ltSt a b:=by rw [Bool.eq_iff_iff,decide_eq_true_eq,cmpSt_lt]
theorem swo19{α:Type}{lt:α->α->Bool}(o:Ord lt):Sort.SWO lt where
 irrefl:=o.irrefl
 trans:=o.trans
 ntrans x y z h1 h2:=by
  cases h:lt x z with
  |false=>rfl
  |true=>
   cases h3:lt y x with
   |true=>rw [o.trans _ _ _ h3 h] at h2;cases h2
   |false=>rw [o.tri _ _ h1 h3] at h;rw [h] at h2;cases h2
theorem sortS_p{V:List KV}(z:Value)(n:Nat)(l:List Sto)(hb:l.length<=1099511627776)(hl: ∀s,s∈l->StOk V s):FunE Tryz.prog gs0 48 [.ms z 1 n, .fn 49 [] []] [.row 1 z (l.map rowsA)] (fun _:List Sto=> .tp []) (fun l'=>[.row 1 z (l'.map rowsA)]) (fun l'=>l'.Perm l/\l'.Pairwise fun x y=>ltSt y x=false):=by
 refine (sort1_fun (ρ:=Tryz.sortS_ren) Tryz.sortS ⟨_,_,Tryz.func48,rfl,rfl⟩
  rowsA cmpSt ?_ 49 (enters_of Tryz.func49 (by kernel_rfl) rfl) z n l (fun x _=>rfl) (fun x hx y hy=>order19_p x y ((mayB_rows (hl x hx).may).1.trans (mayB_rows (hl y hy).may).1.symm) (by have:=(shp_short (hl x hx)).1;omega) (fun r hr=>by have:=(shp_short (hl x hx)).2 r hr;omega) (fun r hr=>by have:=(shp_short (hl y hy)).2 r hr;omega)) (by omega)).mono fun y Λ' ⟨l',h1,h2,h3,h4⟩=>⟨l',by rw [h3];exact .refl,h4,h1,h2.imp fun {a b} h=>?_⟩
 ·have:=swo19 ord_st
  simp only [cmpSt_dec]
  exact this
 ·rw [<-cmpSt_dec];simpa using h
def endE(k:KN)(t:TR)(f:Int):Int:=if errX k t f=0 then (if (runX k t f).miss=true then 190 else 0) else errX k t f
def endX(k:KN)(t:TR)(f:Int):List Sto:=if endE k t f=0 then endsM (runX k t f) t.length else []
abbrev stsA(l:List Sto):AV:= .sl 1 (l.map rowsA) none
theorem put_no19(s:Sto):putM s (-1) 0 0=s:=by
 unfold putM
 rw [if_neg]
 unfold atM
 simp
abbrev eT(q:RN)(n i:Nat):List Sto:=((q.ends.take i).filter fun e=>decide (e.1=n)).map (·.2)
theorem tends_p(k:KN)(hk:SmN k)(t:TR)(ht:TrI t)(f:Int)(hw:errX k t f=0->wayR k.root f.toNat<=2000):Pure Tryz.prog gs0 17 [encN k,trA t,AI f] (.tp [stsA (endX k t f),AI (endE k t f)]):=by
 have h1:=tof_p k hk t ht f hw
 have nt:=trA_len t
 by_cases he:errX k t f=0
 case neg=>
  have e2:endE k t f=errX k t f:=by unfold endE;rw [if_neg he]
  have e1:endX k t f=[]:=by unfold endX;rw [e2,if_neg he]
  rw [e1,e2]
  refine p_ tt_ok Tryz.func17 47 fun w0 h0 F hgs=>?_
  (repeat refine A.s rfl ?_)
  refine A.b rfl fun b3=>?_
  refine y_ ?_
  refine n_ h1 ?_
  (repeat refine A.s rfl ?_)
  refine A.b rfl fun b8=>?_
  refine y_ ?_
  refine T_ rfl (by show (errX k t f !=0)=true;exact bne_iff_ne.2 he) ?_
  refine q_ ?_
  exact s_
 have hO:ofX k t f=runX k t f:=by unfold ofX;rw [if_pos he]
 have hxo:=errX_ok he
 have hu:=un_root hk hxo.may hxo.unt
 have hqo:QOk k.vars (runX k t f) t.length (wayR k.root f.toNat):=one_ok hu [0,1] t _ ht (stX hxo.may)
 have hww:=hw he
 rw [he,hO] at h1
 unfold endX endE
 rw [he,if_pos rfl]
 refine Exists.elim (show∃q,q=runX k t f from ⟨_,rfl⟩) fun q hq=>?_
 rw [<-hq] at h1 hqo⊢
 have hlen:=hqo.len
 have nq:((q.ends.map enA).length:Int)=q.ends.length:=by rw [List.length_map]
 cases hmi:q.miss with
 |true=>
  rw [if_pos rfl,if_neg (by decide)]
  refine p_ tt_ok Tryz.func17 47 fun w0 h0 F hgs=>?_
  (repeat refine A.s rfl ?_)
  refine A.b rfl fun b3=>?_
  refine y_ ?_
  refine n_ h1 ?_
  (repeat refine A.s rfl ?_)
  refine A.b rfl fun b8=>?_
  refine y_ ?_
  refine T_ rfl hmi ?_
  refine q_ ?_
  exact s_
 |false=>
  rw [show (if false=true then (190:Int) else 0)=0 from rfl,if_pos rfl]
  have hall: ∀s,s∈eT q t.length q.ends.length->StOk k.vars s:=fun s hs=>by
   rw [eT,List.take_length] at hs
   obtain ⟨e,he',rfl⟩:=List.mem_map.1 hs
   exact hqo.ok e (List.mem_filter.1 he').1
  have hel: ∀i,(eT q t.length i).length<=2000:=fun i=>by
   rw [eT,List.length_map]
   have h1:=List.length_filter_le (fun e=>decide (e.1=t.length)) (q.ends.take i)
   have h2:=List.length_take_le i q.ends
   have h3:(q.ends.take i).length<=q.ends.length:=by rw [List.length_take];omega
   omega
  refine p_ tt_ok Tryz.func17 47 fun w0 h0 F hgs=>?_
  (repeat refine A.s rfl ?_)
  refine A.b rfl fun b3=>?_
  refine y_ ?_
  refine n_ h1 ?_
  (repeat refine A.s rfl ?_)
  refine A.b rfl fun b8=>?_
  refine y_ ?_
  refine F_ rfl hmi ?_
  refine A.nilRow 1 ?_
  refine A.valR 10 (x':= .ms (.slice none 0 0) 1 0) rfl (fun h y r=>nil_ms19 1 r) ?_
  refine l_ (Λ':=[.row 1 (.slice none 0 0) []]) ?_
  refine A.keep [1,10,26,27,28] rfl ?_
  refine A.loopP (ι:=Nat×Value) (fun u=>(⟨[(1,trA t),(10, .ms u.2 1 (eT q t.length u.1).length),(26, .sl 2 (q.ends.map enA) none),(27,AI ((q.ends.map enA).length:Int)),(28,AI (u.1:Nat))],[]⟩,[.row 1 u.2 ((eT q t.length u.1).map rowsA)])) (fun u=>u.1<=q.ends.length) (fun u=>q.ends.length-u.1) (0, .slice none 0 0) (Nat.zero_le _) rfl fun u hu' ih=>?_
  obtain ⟨i,z⟩:=u
  have hi1:i<=q.ends.length:=hu'
  have hli:=hel i
  refine y_ ?_
  by_cases hci:i<q.ends.length
  ·refine Exists.elim (at_exN (l:=q.ends) (i:=i) hci) fun e he'=>?_
   have hput:=(hqo.ok e (List.mem_of_getElem? he')).small.put_p (-1) 0 0
   rw [put_no19] at hput
   refine T_ rfl (by show decide ((i:Int)<((q.ends.map enA).length:Int))=true;rw [nq,decide_eq_true_eq];omega) ?_
   refine j_ rfl (map_at he') rfl ?_
   (repeat refine A.s rfl ?_)
   refine A.b rfl fun b12=>?_
   refine y_ ?_
   by_cases hn:e.1=t.length
   ·have hap:eT q t.length (i+1)=eT q t.length i++[e.2]:=by
     rw [eT,takeN he',List.filter_append,List.map_append]
     simp [hn]
    refine T_ rfl (by show ((e.1:Int)==((t.map evA).length:Int))=true;rw [nt,hn];exact beq_self_eq_true _) ?_
    refine n_ hput ?_
    refine t_ fun bl=>?_
    refine A.appendRowE rfl rfl rfl rfl rfl rfl rfl rfl rfl rfl rfl rfl rfl rfl (by show (((eT q t.length i).map rowsA).length+1)*1<=_;rw [List.length_map];omega) (by show (((eT q t.length i).map rowsA).length+1)*1*24<=_;rw [List.length_map];omega) fun zz=>?_
    refine A.s rfl ?_
    refine A.valE 10 rfl (x':= .ms zz 1 (eT q t.length (i+1)).length) (by rw [hap,List.length_append,List.length_map];rfl) ?_
    refine l_ (Λ':=[.row 1 zz ((eT q t.length i).map rowsA++[rowsA e.2])]) ?_
    refine A.entsEq (Λ':=[.row 1 zz ((eT q t.length (i+1)).map rowsA)]) (by rw [hap,List.map_append];rfl) ?_
    refine y_ ?_
    refine A.valE 28 rfl (x':=AI ((i+1:Nat):Int)) (inc_eq i (by omega)) ?_
    refine u_ (ih (i+1,zz) (by show i+1<=_;omega) (by show _-(i+1)<_-i;omega))
   ·have hap:eT q t.length i=eT q t.length (i+1):=by
     rw [eT,eT,takeN he',List.filter_append,List.map_append]
     simp [hn]
    refine F_ rfl (by show ((e.1:Int)==((t.map evA).length:Int))=false;rw [nt,beq_eq_false_iff_ne];omega) ?_
    refine l_ (Λ':=[.row 1 z ((eT q t.length i).map rowsA)]) ?_
    refine A.entsEq (Λ':=[.row 1 z ((eT q t.length (i+1)).map rowsA)]) (by rw [hap]) ?_
    refine A.valE 10 rfl (x':= .ms z 1 (eT q t.length (i+1)).length) (by rw [hap]) ?_
    refine A.valE 28 rfl (x':=AI ((i+1:Nat):Int)) (inc_eq i (by omega)) ?_
    refine u_ (ih (i+1,z) (by show i+1<=_;omega) (by show _-(i+1)<_-i;omega))
  ·refine A.gF rfl (by show decide ((i:Int)<((q.ends.map enA).length:Int))=false;rw [nq,decide_eq_false_iff_not];omega) ?_
   clear ih
   have hii:i=q.ends.length:=by omega
   subst hii
   have hso:=sortS_p z (eT q t.length q.ends.length).length (eT q t.length q.ends.length) (by omega) hall
   refine y_ ?_
   refine A.e rfl hso .refl (.refl _) fun l' hl'=>?_
   have hfin:l'=endsM q t.length:=by
    have hnod:=nod_ends hqo.wf.nod t.length
    have hp:=hl'.1
    rw [eT,List.take_length] at hp
    exact sort_ends hnod hp hl'.2
   refine A.entsEq (Λ':=[.row 1 z ((endsM q t.length).map rowsA)]) (by rw [hfin];rfl) ?_
   refine y_ ?_
   refine A.freezeRow 6 rfl ?_
   refine q_ ?_
   exact s_
end Go.Proofs.YtkbolbpojpmicaaGreat
namespace Go.Proofs.YtkbolbpojpmicaaGreat
open Go Go.Tp
abbrev setA(z:Value)(n:Nat)(f:FuncId):AV:= .ag [.ms z 12 n, .fn f [] []]
section
variable{α:Type}
end
end Go.Proofs.YtkbolbpojpmicaaGreat
namespace Go.Proofs.YtkbolbpojpmicaaGreat
end Go.Proofs.YtkbolbpojpmicaaGreat
namespace Go.Proofs.YtkbolbpojpmicaaGreat
open Go Go.Tp
theorem set_same{α:Type}: ∀{l:List α} {i:Nat} {x:α},l[i]? =some x->l.set i x=l
 | [],_,_,h=>by simp at h
 |y::r,0,x,h=>by injection h with h;subst h;rfl
 |y::r,i+1,x,h=>by rw [List.set_cons_succ,set_same (by simpa using h)]
end Go.Proofs.YtkbolbpojpmicaaGreat
namespace Go.Proofs
open Go.Shelf
end Go.Proofs
namespace Go.Proofs.YtkbolbpojpmicaaGreat
open Go Go.Tp
end Go.Proofs.YtkbolbpojpmicaaGreat
namespace Go.Proofs.YtkbolbpojpmicaaGreat
open Go Go.Tp
abbrev oP(c n:Int):PR:=⟨6,c,0,1,[],[knum n],[],[]⟩
abbrev iP(c:Int):PR:=⟨5,c,0,1,[⟨0,[]⟩],[],[],[]⟩
abbrev exK:KN:=⟨[⟨1,0⟩],[1,2,0],⟨10,0,0,0,[],[],[],[oP 2 7,iP 2]⟩,[]⟩
abbrev exO:KN:=⟨[⟨1,0⟩],[1,2,0],oP 2 7,[]⟩
theorem ex_sm:SmN exK where
 wf:=⟨by show 1<=_;decide,by show 3<=_;decide,by show 0<=_;decide,by
  simp [wfR,wfRl,wfGl,wfKl,wfK,wfPl,i32,i64,Go.Tp.u8];try omega⟩
 root:=by simp [smR,smRl,smGl,smK,smKl,smP]
theorem exo_sm:SmN exO where
 wf:=⟨by show 1<=_;decide,by show 3<=_;decide,by show 0<=_;decide,by
  simp [wfR,wfRl,wfGl,wfKl,wfK,wfPl,i32,i64,Go.Tp.u8];try omega⟩
 root:=by simp [smR,smRl,smGl,smK,smKl,smP]
theorem ev_i{c v:Int}(h:i32 v):TrI [(c,v)]:=fun e he=>by rw [List.mem_singleton.1 he];exact h
theorem exw:wayR exK.root (0:Int).toNat<=2000:=by decide+kernel
theorem exw2:wayR exO.root (0:Int).toNat<=2000:=by decide+kernel
theorem x1:hasX exK [(2,7)] 0=true:=by kernel_rfl
theorem x2:hasE exK [(2,7)] 0=0:=by kernel_rfl
theorem x3:hasX exK [(2,8)] 0=false:=by kernel_rfl
theorem x4:hasE exK [(2,8)] 0=0:=by kernel_rfl
theorem x5:endX exK [(2,7)] 0=[[[7]]]:=by kernel_rfl
theorem x6:endE exK [(2,7)] 0=0:=by kernel_rfl
theorem x7:hasX exO [(2,7)] 0=false:=by kernel_rfl
theorem x8:hasE exO [(2,7)] 0=0:=by kernel_rfl
theorem example_p:Pure Tryz.prog gs0 44 [] (encN exK):=by
 refine p_ tt_ok Tryz.func44 13 fun w0 h0 F hgs=>?_
 (refine b_ fun bx=>?_;refine t_ fun bl=>?_;refine t_ fun bl=>?_;refine t_ fun bl=>?_;refine t_ fun bl=>?_;refine t_ fun bl=>?_;refine y_ ?_)
 refine A.retC (Λ':=[]) rfl rfl rfl rfl rfl (List.nil_sublist _) ⟨?_,rfl⟩
 exact s_
theorem head19_p:Pure Tryz.prog gs0 14 [] (AB true):=by
 have h0':=example_p
 have h1:=thas_p exK ex_sm [(2,7)] (ev_i (by unfold i32;omega)) 0 (fun _=>exw)
 have h2:=thas_p exK ex_sm [(2,8)] (ev_i (by unfold i32;omega)) 0 (fun _=>exw)
 have h3:=tends_p exK ex_sm [(2,7)] (ev_i (by unfold i32;omega)) 0 (fun _=>exw)
 have h4:=thas_p exO exo_sm [(2,7)] (ev_i (by unfold i32;omega)) 0 (fun _=>exw2)
 rw [x1,x2] at h1
 rw [x3,x4] at h2
 rw [x5,x6] at h3
 rw [x7,x8] at h4
 refine p_ tt_ok Tryz.func14 101 fun w0 h0 F hgs=>?_
 refine y_ ?_
 refine n_ h0' ?_
 refine A.b rfl fun b1=>?_
 refine t_ fun bl=>?_
 refine n_ h1 ?_
 refine t_ fun bl=>?_
 refine n_ h2 ?_
 refine t_ fun bl=>?_
 refine c_ h3 ?_
 refine j_ rfl rfl rfl ?_
 refine t_ fun bl=>?_
 refine c_ h4 ?_
 refine i_ rfl rfl rfl ?_
 refine i_ rfl rfl rfl ?_
 refine i_ rfl rfl rfl ?_
 refine i_ rfl rfl rfl ?_
 refine i_ rfl rfl rfl ?_
 refine i_ rfl rfl rfl ?_
 exact r_
theorem lzL_tk(l:List PR)(i n:Nat):lzL (l.take i) n<=n+cntL l:=by
 have h1:=lzL_app (l.take i) (l.drop i) n
 rw [List.take_append_drop] at h1
 have h2:=lzL_ge (l.drop i) (lzL (l.take i) n)
 have h3:=lzL_le l n
 omega
theorem lzG_tk(l:List GD)(i n:Nat):lzG (l.take i) n<=n+cntG l:=by
 have h1:=lzG_app (l.take i) (l.drop i) n
 rw [List.take_append_drop] at h1
 have h2:=lzG_ge (l.drop i) (lzG (l.take i) n)
 have h3:=lzG_le l n
 omega
abbrev SizC(p:PR):Prop:=Pure Tryz.prog gs0 20 [cellsR p] (AI (lzR p:Nat))
theorem siz_f(p:PR)(hb:cntR p<=1048576)(hl: ∀x,x∈p.l->SizC x)(hg: ∀g,g∈p.gs-> ∀x,x∈g.body->SizC x):SizC p:=by
 have n1:((encRl p.l).length:Int)=p.l.length:=by rw [encRl_len]
 have n2:((encGl p.gs).length:Int)=p.gs.length:=by rw [encGl_len]
 have hbe:=cntR_eq p
 have hl1:=cntL_len p.l
 have hl2:=cntG_len p.gs
 refine Exists.elim (show∃M,M=lzL p.l 1 from ⟨_,rfl⟩) fun M hM=>?_
 have hMle:=lzL_le p.l 1
 rw [<-hM] at hMle
 show Pure _ _ _ _ _
 refine p_ tt_ok Tryz.func20 67 fun w0 h0 F hgs=>?_
 (repeat refine A.s rfl ?_)
 refine A.b rfl fun b1=>?_
 refine y_ ?_
 refine A.keep [1,3,4] rfl ?_
 refine A.loopP (ι:=Nat) (fun i=>(⟨[(1,ptrA b1),(3,AI ((lzL (p.l.take i) 1:Nat):Int)),(4,AI (i:Nat))],[]⟩,[.box b1 (cellsR p)])) (fun i=>i<=p.l.length) (fun i=>p.l.length-i) 0 (Nat.zero_le _) (by rw [List.take_zero,lzL];rfl) fun i hi ih=>?_
 have htl:=lzL_tk p.l i 1
 refine y_ ?_
 by_cases hci:i<p.l.length
 ·refine e_ 12 rfl (x':=AB true) (ab_eq (by show decide ((i:Int)<((encRl p.l).length:Int))=true;rw [n1,decide_eq_true_eq];omega)) ?_
  by_cases hci5:lzL (p.l.take i) 1<500
  ·refine A.gT rfl (by show decide (((lzL (p.l.take i) 1:Nat):Int)<500)=true;rw [decide_eq_true_eq];omega) ?_
   refine Exists.elim (at_exN (l:=p.l) (i:=i) hci) fun x hx=>?_
   have hxm:=List.mem_of_getElem? hx
   have hcx:=hl x hxm
   have hxc:=cntL_mem hxm
   have hxl:=lzR_le x
   refine y_ ?_
   refine i_ rfl (encRl_at hx) (encR_eq x) ?_
   refine c_ hcx ?_
   refine A.valE 3 rfl (x':=AI ((lzL (p.l.take (i+1)) 1:Nat):Int)) (ai_eq (by rw [wr64 _ (by omega),lzL_take hx hci5];omega)) ?_
   refine A.valE 4 rfl (x':=AI ((i+1:Nat):Int)) (inc_eq i (by omega)) ?_
   refine u_ (ih (i+1) (by omega) (by omega))
  ·refine A.gF rfl (by show decide (((lzL (p.l.take i) 1:Nat):Int)<500)=false;rw [decide_eq_false_iff_not];omega) ?_
   have hbl:=lzL_end (l:=p.l) (n:=1) (i:=i) (.inr (by omega))
   clear ih
   refine e_ 3 rfl (x':=AI ((M:Nat):Int)) (by rw [hM,hbl]) ?_
   refine A.keep [1,3,5] rfl ?_
   refine A.loopP (ι:=Nat) (fun n=>(⟨[(1,ptrA b1),(3,AI ((lzG (p.gs.take n) M:Nat):Int)),(5,AI (n:Nat))],[]⟩,[.box b1 (cellsR p)])) (fun n=>n<=p.gs.length) (fun n=>p.gs.length-n) 0 (Nat.zero_le _) (by rw [List.take_zero,lzG];rfl) fun n hn gh=>?_
   have htg:=lzG_tk p.gs n M
   refine y_ ?_
   by_cases hcn:n<p.gs.length
   ·refine e_ 31 rfl (x':=AB true) (ab_eq (by show decide ((n:Int)<((encGl p.gs).length:Int))=true;rw [n2,decide_eq_true_eq];omega)) ?_
    by_cases hcn5:lzG (p.gs.take n) M<500
    ·refine A.gT rfl (by show decide (((lzG (p.gs.take n) M:Nat):Int)<500)=true;rw [decide_eq_true_eq];omega) ?_
     refine Exists.elim (at_exN (l:=p.gs) (i:=n) hcn) fun g hgn=>?_
     have hgm:=List.mem_of_getElem? hgn
     have nb:((encRl g.body).length:Int)=g.body.length:=by rw [encRl_len]
     have hcg:=cntG_mem hgm
     have hcbl:=cntL_len g.body
     refine Exists.elim (show∃N0,N0=lzG (p.gs.take n) M from ⟨_,rfl⟩) fun N0 hN0=>?_
     refine e_ 3 rfl (x':=AI ((N0:Nat):Int)) (by rw [hN0]) ?_
     refine A.keep [1,3,5,6] rfl ?_
     refine A.loopP (ι:=Nat) (fun k=>(⟨[(1,ptrA b1),(3,AI ((lzL (g.body.take k) N0:Nat):Int)),(5,AI (n:Nat)),(6,AI (k:Nat))],[]⟩,[.box b1 (cellsR p)])) (fun k=>k<=g.body.length) (fun k=>g.body.length-k) 0 (Nat.zero_le _) (by rw [List.take_zero,lzL];rfl) fun k hk kh=>?_
     have htb:=lzL_tk g.body k N0
     refine y_ ?_
     refine i_ rfl (encGl_at hgn) (encG_eq g) ?_
     by_cases hck:k<g.body.length
     ·refine e_ 46 rfl (x':=AB true) (ab_eq (by show decide ((k:Int)<((encRl g.body).length:Int))=true;rw [nb,decide_eq_true_eq];omega)) ?_
      by_cases hck5:lzL (g.body.take k) N0<500
      ·refine A.gT rfl (by show decide (((lzL (g.body.take k) N0:Nat):Int)<500)=true;rw [decide_eq_true_eq];omega) ?_
       refine Exists.elim (at_exN (l:=g.body) (i:=k) hck) fun x hx=>?_
       have hxm:=List.mem_of_getElem? hx
       have hcx:=hg g hgm x hxm
       have hxc:=cntL_mem hxm
       have hxl:=lzR_le x
       refine y_ ?_
       refine i_ rfl (encGl_at hgn) (encG_eq g) ?_
       refine i_ rfl (encRl_at hx) (encR_eq x) ?_
       refine c_ hcx ?_
       refine A.valE 3 rfl (x':=AI ((lzL (g.body.take (k+1)) N0:Nat):Int)) (ai_eq (by rw [wr64 _ (by omega),lzL_take hx hck5];omega)) ?_
       refine A.valE 6 rfl (x':=AI ((k+1:Nat):Int)) (inc_eq k (by omega)) ?_
       refine u_ (kh (k+1) (by omega) (by omega))
      ·refine A.gF rfl (by show decide (((lzL (g.body.take k) N0:Nat):Int)<500)=false;rw [decide_eq_false_iff_not];omega) ?_
       have hbe:=lzL_end (l:=g.body) (n:=N0) (i:=k) (.inr (by omega))
       refine e_ 3 rfl (x':=AI ((lzL g.body N0:Nat):Int)) (by rw [hbe]) ?_
       clear kh
       refine A.valE 3 rfl (x':=AI ((lzG (p.gs.take (n+1)) M:Nat):Int)) (ai_eq (by rw [wr64 _ (by omega),lzG_take hgn hcn5,hN0];omega)) ?_
       refine A.valE 5 rfl (x':=AI ((n+1:Nat):Int)) (inc_eq n (by omega)) ?_
       refine u_ (gh (n+1) (by omega) (by omega))
     ·have hbe:=lzL_end (l:=g.body) (n:=N0) (i:=k) (.inl (by omega))
      refine A.valE 3 rfl (x':=AI ((lzL g.body N0:Nat):Int)) (by rw [hbe]) ?_
      refine e_ 46 rfl (x':=AB false) (ab_eq (by show decide ((k:Int)<((encRl g.body).length:Int))=false;rw [nb,decide_eq_false_iff_not];omega)) ?_
      clear kh
      refine A.valE 3 rfl (x':=AI ((lzG (p.gs.take (n+1)) M:Nat):Int)) (ai_eq (by rw [wr64 _ (by omega),lzG_take hgn hcn5,hN0];omega)) ?_
      refine A.valE 5 rfl (x':=AI ((n+1:Nat):Int)) (inc_eq n (by omega)) ?_
      refine u_ (gh (n+1) (by omega) (by omega))
    ·refine A.gF rfl (by show decide (((lzG (p.gs.take n) M:Nat):Int)<500)=false;rw [decide_eq_false_iff_not];omega) ?_
     have hend:=lzG_end (l:=p.gs) (n:=M) (i:=n) (.inr (by omega))
     refine e_ 3 rfl (x':=AI ((lzR p:Nat):Int)) (by rw [hend,lzR_eq,hM]) ?_
     clear gh
     exact r_
   ·have hend:=lzG_end (l:=p.gs) (n:=M) (i:=n) (.inl (by omega))
    refine A.valE 3 rfl (x':=AI ((lzR p:Nat):Int)) (by rw [hend,lzR_eq,hM]) ?_
    refine e_ 31 rfl (x':=AB false) (ab_eq (by show decide ((n:Int)<((encGl p.gs).length:Int))=false;rw [n2,decide_eq_false_iff_not];omega)) ?_
    clear gh
    exact r_
 ·have hbl:=lzL_end (l:=p.l) (n:=1) (i:=i) (.inl (by omega))
  clear ih
  refine A.valE 3 rfl (x':=AI ((M:Nat):Int)) (by rw [hM,hbl]) ?_
  refine e_ 12 rfl (x':=AB false) (ab_eq (by show decide ((i:Int)<((encRl p.l).length:Int))=false;rw [n1,decide_eq_false_iff_not];omega)) ?_
  refine A.keep [1,3,5] rfl ?_
  refine A.loopP (ι:=Nat) (fun n=>(⟨[(1,ptrA b1),(3,AI ((lzG (p.gs.take n) M:Nat):Int)),(5,AI (n:Nat))],[]⟩,[.box b1 (cellsR p)])) (fun n=>n<=p.gs.length) (fun n=>p.gs.length-n) 0 (Nat.zero_le _) (by rw [List.take_zero,lzG];rfl) fun n hn gh=>?_
  have htg:=lzG_tk p.gs n M
  refine y_ ?_
  by_cases hcn:n<p.gs.length
  ·refine e_ 31 rfl (x':=AB true) (ab_eq (by show decide ((n:Int)<((encGl p.gs).length:Int))=true;rw [n2,decide_eq_true_eq];omega)) ?_
   by_cases hcn5:lzG (p.gs.take n) M<500
   ·refine A.gT rfl (by show decide (((lzG (p.gs.take n) M:Nat):Int)<500)=true;rw [decide_eq_true_eq];omega) ?_
    refine Exists.elim (at_exN (l:=p.gs) (i:=n) hcn) fun g hgn=>?_
    have hgm:=List.mem_of_getElem? hgn
    have nb:((encRl g.body).length:Int)=g.body.length:=by rw [encRl_len]
    have hcg:=cntG_mem hgm
    have hcbl:=cntL_len g.body
    refine Exists.elim (show∃N0,N0=lzG (p.gs.take n) M from ⟨_,rfl⟩) fun N0 hN0=>?_
    refine e_ 3 rfl (x':=AI ((N0:Nat):Int)) (by rw [hN0]) ?_
    refine A.keep [1,3,5,6] rfl ?_
    refine A.loopP (ι:=Nat) (fun k=>(⟨[(1,ptrA b1),(3,AI ((lzL (g.body.take k) N0:Nat):Int)),(5,AI (n:Nat)),(6,AI (k:Nat))],[]⟩,[.box b1 (cellsR p)])) (fun k=>k<=g.body.length) (fun k=>g.body.length-k) 0 (Nat.zero_le _) (by rw [List.take_zero,lzL];rfl) fun k hk kh=>?_
    have htb:=lzL_tk g.body k N0
    refine y_ ?_
    refine i_ rfl (encGl_at hgn) (encG_eq g) ?_
    by_cases hck:k<g.body.length
    ·refine e_ 46 rfl (x':=AB true) (ab_eq (by show decide ((k:Int)<((encRl g.body).length:Int))=true;rw [nb,decide_eq_true_eq];omega)) ?_
     by_cases hck5:lzL (g.body.take k) N0<500
     ·refine A.gT rfl (by show decide (((lzL (g.body.take k) N0:Nat):Int)<500)=true;rw [decide_eq_true_eq];omega) ?_
      refine Exists.elim (at_exN (l:=g.body) (i:=k) hck) fun x hx=>?_
      have hxm:=List.mem_of_getElem? hx
      have hcx:=hg g hgm x hxm
      have hxc:=cntL_mem hxm
      have hxl:=lzR_le x
      refine y_ ?_
      refine i_ rfl (encGl_at hgn) (encG_eq g) ?_
      refine i_ rfl (encRl_at hx) (encR_eq x) ?_
      refine c_ hcx ?_
      refine A.valE 3 rfl (x':=AI ((lzL (g.body.take (k+1)) N0:Nat):Int)) (ai_eq (by rw [wr64 _ (by omega),lzL_take hx hck5];omega)) ?_
      refine A.valE 6 rfl (x':=AI ((k+1:Nat):Int)) (inc_eq k (by omega)) ?_
      refine u_ (kh (k+1) (by omega) (by omega))
     ·refine A.gF rfl (by show decide (((lzL (g.body.take k) N0:Nat):Int)<500)=false;rw [decide_eq_false_iff_not];omega) ?_
      have hbe:=lzL_end (l:=g.body) (n:=N0) (i:=k) (.inr (by omega))
      refine e_ 3 rfl (x':=AI ((lzL g.body N0:Nat):Int)) (by rw [hbe]) ?_
      clear kh
      refine A.valE 3 rfl (x':=AI ((lzG (p.gs.take (n+1)) M:Nat):Int)) (ai_eq (by rw [wr64 _ (by omega),lzG_take hgn hcn5,hN0];omega)) ?_
      refine A.valE 5 rfl (x':=AI ((n+1:Nat):Int)) (inc_eq n (by omega)) ?_
      refine u_ (gh (n+1) (by omega) (by omega))
    ·have hbe:=lzL_end (l:=g.body) (n:=N0) (i:=k) (.inl (by omega))
     refine A.valE 3 rfl (x':=AI ((lzL g.body N0:Nat):Int)) (by rw [hbe]) ?_
     refine e_ 46 rfl (x':=AB false) (ab_eq (by show decide ((k:Int)<((encRl g.body).length:Int))=false;rw [nb,decide_eq_false_iff_not];omega)) ?_
     clear kh
     refine A.valE 3 rfl (x':=AI ((lzG (p.gs.take (n+1)) M:Nat):Int)) (ai_eq (by rw [wr64 _ (by omega),lzG_take hgn hcn5,hN0];omega)) ?_
     refine A.valE 5 rfl (x':=AI ((n+1:Nat):Int)) (inc_eq n (by omega)) ?_
     refine u_ (gh (n+1) (by omega) (by omega))
   ·refine A.gF rfl (by show decide (((lzG (p.gs.take n) M:Nat):Int)<500)=false;rw [decide_eq_false_iff_not];omega) ?_
    have hend:=lzG_end (l:=p.gs) (n:=M) (i:=n) (.inr (by omega))
    refine e_ 3 rfl (x':=AI ((lzR p:Nat):Int)) (by rw [hend,lzR_eq,hM]) ?_
    clear gh
    exact r_
  ·have hend:=lzG_end (l:=p.gs) (n:=M) (i:=n) (.inl (by omega))
   refine A.valE 3 rfl (x':=AI ((lzR p:Nat):Int)) (by rw [hend,lzR_eq,hM]) ?_
   refine e_ 31 rfl (x':=AB false) (ab_eq (by show decide ((n:Int)<((encGl p.gs).length:Int))=false;rw [n2,decide_eq_false_iff_not];omega)) ?_
   clear gh
   exact r_
theorem siz_n: ∀(m:Nat) (p:PR),SizeOf.sizeOf p<=m->cntR p<=1048576->SizC p
 |0,p,h,_=>by
  obtain ⟨k,c,v,i,to,e,gs,l⟩:=p
  simp only [PR.mk.sizeOf_spec] at h;omega
 |m+1,p,hm,hb=>by
  have he:=cntR_eq p
  exact siz_f p hb (fun x hx=>siz_n m x (by have:=lt19_l hx;omega) (by have:=cntL_mem hx;omega)) (fun g hg x hx=>siz_n m x (by have:=lt19_g hg hx;omega) (by have:=cntG_mem hg;have:=cntL_mem hx;omega))
theorem siz_p(p:PR)(hb:cntR p<=1048576):Pure Tryz.prog gs0 20 [cellsR p] (AI (lzR p:Nat)):=siz_n _ p (Nat.le_refl _) hb
theorem sameEv_p(t:TR)(ht:t.length<=1048576):Pure Tryz.prog gs0 24 [trA t,trA t] (AB true):=by
 have nt:=trA_len t
 refine p_ tt_ok Tryz.func24 26 fun w0 h0 F hgs=>?_
 refine y_ ?_
 refine F_ rfl (by simp) ?_
 refine A.keep [0,1,5] rfl ?_
 refine A.loopP (ι:=Nat) (fun i=>(⟨[(0,trA t),(1,trA t),(5,AI (i:Nat))],[]⟩,[])) (fun i=>i<=t.length) (fun i=>t.length-i) 0 (Nat.zero_le _) rfl fun i hi ih=>?_
 refine y_ ?_
 by_cases hci:i<t.length
 ·refine Exists.elim (at_exN (l:=t) (i:=i) hci) fun e he=>?_
  refine T_ rfl (by show decide ((i:Int)<((t.map evA).length:Int))=true;rw [nt,decide_eq_true_eq];omega) ?_
  refine d_ 9 [0,1,2,3,4,5,6,7,8] [] ?_
  refine iw_ rfl (map_at he) rfl ?_
  refine iw_ rfl (map_at he) rfl ?_
  refine WA.eqSt rfl rfl rfl rfl rfl rfl rfl rfl rfl (evSt e.1 e.2 e.1 e.2) ?_
  refine WA.valE 25 rfl (x':=AB false) (ab_eq (by show (!(e.1==e.1&&e.2==e.2))=false;simp)) ?_
  refine z_ ?_
  refine A.valE 5 rfl (x':=AI ((i+1:Nat):Int)) (inc_eq i (by omega)) ?_
  refine u_ (ih (i+1) (by omega) (by omega))
 ·refine A.gF rfl (by show decide ((i:Int)<((t.map evA).length:Int))=false;rw [nt,decide_eq_false_iff_not];omega) ?_
  clear ih
  exact yr_
theorem asc_lt19{l:List Int}(h:AscL ltI l){i:Nat}{x y:Int}(hx:l[i]? =some x)(hy:l[i+1]? =some y):x<y:=by
 have h1:=(List.pairwise_iff_getElem.1 h) i (i+1) (List.getElem?_eq_some_iff.1 hx).1 (List.getElem?_eq_some_iff.1 hy).1 (by omega)
 rw [(List.getElem?_eq_some_iff.1 hx).2,(List.getElem?_eq_some_iff.1 hy).2] at h1
 simpa [ltI] using h1
theorem chans19_law(p:PR)(hp:smR p)(hc:cntR p<=1048576)(t:TR):Pure Tryz.prog gs0 4 [cellsR p,trA t] (AB true):=by
 have hh:=head19_p
 have hsz:=siz_p p hc
 have hrc:=raw_cnt p
 have hch:=chans_p p hp (by omega)
 have hrch:=rchans_p p hp (by omega)
 have nt:=trA_len t
 refine Exists.elim (show∃L,L=chansM p from ⟨_,rfl⟩) fun L hL=>?_
 have hLl:L.length<=1048576:=by have:=chans_len p;rw [hL];omega
 have hasc:AscL ltI L:=by rw [hL];exact asc19 _
 rw [<-hL] at hch hrch
 have nl:((L.map AI).length:Int)=L.length:=by rw [List.length_map]
 refine p_ tt_ok Tryz.func4 82 fun w0 h0 F hgs=>?_
 (repeat refine A.s rfl ?_)
 refine A.b rfl fun b2=>?_
 refine y_ ?_
 refine c_ hsz ?_
 by_cases c1:500<=lzR p
 ·refine e_ 12 rfl (x':=AB true) (ab_eq (by show decide ((500:Int)<=((lzR p:Nat):Int))=true;rw [decide_eq_true_eq];omega)) ?_
  exact cr_ hh
 ·refine e_ 12 rfl (x':=AB false) (ab_eq (by show decide ((500:Int)<=((lzR p:Nat):Int))=false;rw [decide_eq_false_iff_not];omega)) ?_
  by_cases c2:500<t.length
  ·refine T_ rfl (by show decide ((500:Int)<((t.map evA).length:Int))=true;rw [nt,decide_eq_true_eq];omega) ?_
   exact cr_ hh
  ·refine A.gF rfl (by show decide ((500:Int)<((t.map evA).length:Int))=false;rw [nt,decide_eq_false_iff_not];omega) ?_
   have ho:=only_p t L (by omega) (by omega)
   have hro:=ronly_p t L (by omega) (by omega)
   refine Exists.elim (show∃a,a=onlyT t L from ⟨_,rfl⟩) fun a ha=>?_
   have hal:a.length<=500:=by have:=only_len t L;rw [ha];omega
   have haa:onlyT a L=a:=by
    rw [ha];unfold onlyT;rw [List.filter_filter];congr 1;funext e;simp
   have hoa:=only_p a L (by omega) (by omega)
   rw [haa] at hoa
   have hon:=only_p t [] (by omega) (by simp)
   rw [show onlyT t []=[] by unfold onlyT;simp] at hon
   rw [<-ha] at ho hro
   have hse:=sameEv_p a (by omega)
   refine y_ ?_
   refine c_ hch ?_
   refine c_ hrch ?_
   refine F_ rfl (by simp) ?_
   refine l_ (Λ':=[]) ?_
   refine A.keep [1,5,6,7] rfl ?_
   refine A.loopP (ι:=Nat) (fun i=>(⟨[(1,trA t),(5,intsA L),(6,intsA L),(7,AI (i:Nat))],[]⟩,[])) (fun i=>i<=L.length) (fun i=>L.length-i) 0 (Nat.zero_le _) rfl fun i hi ih=>?_
   refine y_ ?_
   by_cases hci:i<L.length
   ·refine Exists.elim (at_exN (l:=L) (i:=i) hci) fun c hc=>?_
    refine T_ rfl (by show decide ((i:Int)<((L.map AI).length:Int))=true;rw [nl,decide_eq_true_eq];omega) ?_
    refine d_ 25 [0,1,2,3,4,5,6,7,8,9,10,11,12,13,14,15,16,17,18,19,20,21,22,23,24] [] ?_
    refine iw_ rfl (map_at hc) rfl ?_
    refine iw_ rfl (map_at hc) rfl ?_
    refine ew_ 42 rfl (x':=AB false) (ab_eq (by show (c !=c)=false;simp)) ?_
    cases i with
    |zero=>
     refine ew_ 45 rfl (x':=AB false) (ab_eq rfl) ?_
     refine z_ ?_
     refine A.valE 7 rfl (x':=AI ((0+1:Nat):Int)) (inc_eq 0 (by omega)) ?_
     refine u_ (ih (0+1) (by omega) (by omega))
    |succ i=>
     refine Exists.elim (at_exN (l:=L) (i:=i) (by omega)) fun d hd=>?_
     have hlt:=asc_lt19 hasc hd hc
     refine ew_ 45 rfl (x':=AB true) (ab_eq (by show decide ((0:Int)<((i+1:Nat):Int))=true;rw [decide_eq_true_eq];omega)) ?_
     refine WA.valE 48 rfl (x':=AI (i:Nat)) (ai_eq (by rw [wr64 _ (by omega)];omega)) ?_
     refine iw_ rfl (map_at hd) rfl ?_
     refine WA.x rfl (by show (0:Int)<=((i+1:Nat):Int);omega) (map_at hc) rfl rfl ?_
     refine w_ ?_
     refine WA.valE 57 rfl (x':=AB false) (ab_eq (by show decide (c<=d)=false;rw [decide_eq_false_iff_not];omega)) ?_
     refine z_ ?_
     refine A.valE 7 rfl (x':=AI ((i+1+1:Nat):Int)) (inc_eq (i+1) (by omega)) ?_
     refine u_ (ih (i+1+1) (by omega) (by omega))
   ·refine A.gF rfl (by show decide ((i:Int)<((L.map AI).length:Int))=false;rw [nl,decide_eq_false_iff_not];omega) ?_
    clear ih
    refine y_ ?_
    refine c_ ho ?_
    refine n_ hro ?_
    refine c_ hse ?_
    refine c_ hoa ?_
    refine c_ hse ?_
    refine c_ hon ?_
    exact cr_ hh
end Go.Proofs.YtkbolbpojpmicaaGreat
namespace Go.Proofs.YtkbolbpojpmicaaGreat
open Go Go.Tp Go.ChangeShapes Go.WideShapes Go.ChangeAt Go.RowKit
theorem own:ownKnob Tryz.prog.godebug=none:=by kernel_rfl
theorem laidOut:laidOutB Tryz.prog=true:=by kernel_rfl
section
variable{H:Type}{enc:TypeId×Value->H}{W:World}{base:Nat}{sp:Nat->Bool}{hd:Bool}
abbrev cellsKl(e:KE):List AV:=[AU8 e.kind,AU8 e.oper,AU8 e.to,AI32 e.n,AI e.v, .sl 6 (encKl e.l) none]
abbrev cellsRl(p:PR):List AV:=[AU8 p.kind,AI p.c,AI p.v,AU8 p.item,plsA p.to,kesA p.e,gsA p.gs,rsA p.l]
abbrev cellsGl(g:GD):List AV:=[AU8 g.kind,AU8 g.cond.kind,AU8 g.cond.oper,AU8 g.cond.to,AI32 g.cond.n,AI g.cond.v,kesA g.cond.l,AI g.c,AU8 g.item,AI g.to.v,kesA g.to.ix,AU8 g.time.kind,AU8 g.time.oper,AU8 g.time.to,AI32 g.time.n,AI g.time.v,kesA g.time.l,rsA g.body]
theorem encKl_ag(l:List KE):encKl l=l.map fun e=> .ag (cellsKl e):=by rw [encKl_map];congr 1;funext e;exact encK_eq e
theorem encRl_ag(l:List PR):encRl l=l.map fun e=> .ag (cellsRl e):=by rw [encRl_map];congr 1;funext e;exact encR_eq e
theorem encGl_ag(l:List GD):encGl l=l.map fun e=> .ag (cellsGl e):=by rw [encGl_map];congr 1;funext e;exact encG_eq e
abbrev OkE(e:KE):Prop:=wfK e/\smK e
abbrev OkPl20(p:PL):Prop:=wfPl p/\smP p
abbrev OkR(p:PR):Prop:=wfR p/\smR p
abbrev OkG(g:GD):Prop:=wfG g/\smG g
theorem okEl_of: ∀{l:List KE},(∀a,a∈l->OkE a)->wfKl l/\smKl l
 | [],_=>by rw [wfKl,smKl];exact ⟨trivial,trivial⟩
 |x::r,h=>by
  have h1:=h x (List.mem_cons_self ..)
  have h2:=okEl_of (l:=r) fun a ha=>h a (List.mem_cons_of_mem _ ha)
  rw [wfKl,smKl];exact ⟨⟨h1.1,h2.1⟩,⟨h1.2,h2.2⟩⟩
theorem okRl_of: ∀{l:List PR},(∀a,a∈l->OkR a)->wfRl l/\smRl l
 | [],_=>by rw [wfRl,smRl];exact ⟨trivial,trivial⟩
 |x::r,h=>by
  have h1:=h x (List.mem_cons_self ..)
  have h2:=okRl_of (l:=r) fun a ha=>h a (List.mem_cons_of_mem _ ha)
  rw [wfRl,smRl];exact ⟨⟨h1.1,h2.1⟩,⟨h1.2,h2.2⟩⟩
theorem okGl_of: ∀{l:List GD},(∀a,a∈l->OkG a)->wfGl l/\smGl l
 | [],_=>by rw [wfGl,smGl];exact ⟨trivial,trivial⟩
 |x::r,h=>by
  have h1:=h x (List.mem_cons_self ..)
  have h2:=okGl_of (l:=r) fun a ha=>h a (List.mem_cons_of_mem _ ha)
  rw [wfGl,smGl];exact ⟨⟨h1.1,h2.1⟩,⟨h1.2,h2.2⟩⟩
theorem op_ke: ∀n,Opn enc Tryz.prog W base sp hd n 105 cellsKl OkE
 |0=>Opn.zero
 |n+1=>by
  have ih:=op_ke n
  have hl:=(Opn.sliceA (t:=27) (sz:=6) (bt:=40) (by kernel_rfl) (by kernel_rfl) (by kernel_rfl) (by decide) ih).mono (Nat.le_succ n)
  have hf:=OpnF.cons (f:=⟨"Kind",102,0,false, "", "",0⟩) (Opn.u8 (by kernel_rfl) n) rfl 1 (by kernel_rfl) (OpnF.cons (f:=⟨"Oper",103,1,false, "", "",1⟩) (Opn.u8 (by kernel_rfl) n) rfl 1 (by kernel_rfl)
   (OpnF.cons (f:=⟨"To",25,2,false, "", "",2⟩) (Opn.u8 (by kernel_rfl) n) rfl 1 (by kernel_rfl) (OpnF.cons (f:=⟨"N",21,3,false, "", "",4⟩) (Opn.i32 (by kernel_rfl) n) rfl 1 (by kernel_rfl)
   (OpnF.cons (f:=⟨"V",3,4,false, "", "",8⟩) (Opn.i64 (by kernel_rfl) n) rfl 1 (by kernel_rfl) (OpnF.cons (f:=⟨"L",27,5,false, "", "",16⟩) hl rfl 1 (by kernel_rfl) OpnF.nil)))))
  refine (Opn.struct (t:=105) (sz:=6) (fs:= #[⟨"Kind",102,0,false, "", "",0⟩,⟨"Oper",103,1,false, "", "",1⟩,⟨"To",25,2,false, "", "",2⟩,⟨"N",21,3,false, "", "",4⟩,⟨"V",3,4,false, "", "",8⟩,⟨"L",27,5,false, "", "",16⟩]) (by kernel_rfl) (by kernel_rfl) hf (by kernel_rfl)).map (fun p=>⟨p.1,p.2.1,p.2.2.1,p.2.2.2.1,p.2.2.2.2.1,p.2.2.2.2.2.1⟩) (fun p=>?_) (fun p hp=>?_)
  ·show cellsKl _=[_]++([_]++([_]++([_]++([_]++([AV.sl 6 _ none]++[])))))
   rw [<-encKl_ag];rfl
  ·obtain ⟨k,o,t,n,s,l,u⟩:=p
   obtain ⟨h1,h2,h3,h4,h5,⟨h6,h7⟩,_⟩:=hp
   have h8:=okEl_of h6
   unfold reachBytes at h7
   refine ⟨?_,?_⟩
   ·rw [wfK];exact ⟨⟨h1,h2,h3,h4,h5⟩,h8.1⟩
   ·rw [smK];exact ⟨Nat.le_trans h7 (by decide),h8.2⟩
theorem op_kes(n:Nat):Opn enc Tryz.prog W base sp hd n 27 (fun l:List KE=>[kesA l]) (fun l=>(∀x,x∈l->OkE x)/\l.length*40<=140737488355328):=by
 refine ((Opn.sliceA (t:=27) (sz:=6) (bt:=40) (by kernel_rfl) (by kernel_rfl) (by kernel_rfl) (by decide) (op_ke n)).mono (Nat.le_succ n)).map (fun l=>l) (fun l=>?_) (fun l h=>⟨h.1,by have:=h.2;unfold reachBytes at this;exact Nat.le_trans this (by decide)⟩)
 show [AV.sl 6 (encKl l) none]=_
 rw [encKl_ag]
theorem op_pl(n:Nat):Opn enc Tryz.prog W base sp hd n 107 (fun p:PL=>[AI p.v,kesA p.ix]) OkPl20:=by
 have hf:=OpnF.cons (f:=⟨"V",3,0,false, "", "",0⟩) (Opn.i64 (enc:=enc) (P:=Tryz.prog) (W:=W) (base:=base) (sp:=sp) (hd:=hd) (by kernel_rfl) n) rfl 1 (by kernel_rfl) (OpnF.cons (f:=⟨"Index",27,1,false, "", "",8⟩) (op_kes n) rfl 1 (by kernel_rfl) OpnF.nil)
 exact ((Opn.struct (t:=107) (sz:=2) (fs:= #[⟨"V",3,0,false, "", "",0⟩,⟨"Index",27,1,false, "", "",8⟩]) (by kernel_rfl) (by kernel_rfl) hf (by kernel_rfl)).mono (Nat.le_succ n)).map (fun p=>⟨p.1,p.2.1⟩) (fun p=>rfl) (fun p hp=>⟨(okEl_of hp.2.1.1).1,hp.2.1.2,fun x hx=>(hp.2.1.1 x hx).2⟩)
theorem op_pls(n:Nat):Opn enc Tryz.prog W base sp hd n 26 (fun l:List PL=>[plsA l]) (fun l=>(∀t,t∈l->OkPl20 t)/\l.length*32<=140737488355328):=
 ((Opn.sliceA (t:=26) (sz:=2) (bt:=32) (by kernel_rfl) (by kernel_rfl) (by kernel_rfl) (by decide) (op_pl n)).mono (Nat.le_succ n)).map (fun l=>l) (fun l=>rfl) (fun l h=>⟨h.1,by have:=h.2;unfold reachBytes at this;exact Nat.le_trans this (by decide)⟩)
theorem op_prs{n:Nat}(ih:Opn enc Tryz.prog W base sp hd n 31 cellsRl OkR):Opn enc Tryz.prog W base sp hd n 29 (fun l:List PR=>[rsA l]) (fun l=>(∀t,t∈l->OkR t)/\l.length*128<=140737488355328):=by
 refine ((Opn.sliceA (t:=29) (sz:=8) (bt:=128) (by kernel_rfl) (by kernel_rfl) (by kernel_rfl) (by decide) ih).mono (Nat.le_succ n)).map (fun l=>l) (fun l=>?_) (fun l h=>⟨h.1,by have:=h.2;unfold reachBytes at this;exact Nat.le_trans this (by decide)⟩)
 show [AV.sl 8 (encRl l) none]=_
 rw [encRl_ag]
theorem op_gd{n:Nat}(ih:Opn enc Tryz.prog W base sp hd n 31 cellsRl OkR):Opn enc Tryz.prog W base sp hd n 109 cellsGl OkG:=by
 have hf:=OpnF.cons (f:=⟨"Kind",101,0,false, "", "",0⟩) (Opn.u8 (enc:=enc) (P:=Tryz.prog) (W:=W) (base:=base) (sp:=sp) (hd:=hd) (by kernel_rfl) n) rfl 1 (by kernel_rfl) (OpnF.cons (f:=⟨"Cond",105,1,false, "", "",8⟩) (op_ke n) rfl 6 (by kernel_rfl)
  (OpnF.cons (f:=⟨"C",3,7,false, "", "",48⟩) (Opn.i64 (by kernel_rfl) n) rfl 1 (by kernel_rfl) (OpnF.cons (f:=⟨"Item",25,8,false, "", "",56⟩) (Opn.u8 (by kernel_rfl) n) rfl 1 (by kernel_rfl)
  (OpnF.cons (f:=⟨"To",107,9,false, "", "",64⟩) (op_pl n) rfl 2 (by kernel_rfl) (OpnF.cons (f:=⟨"Time",105,11,false, "", "",96⟩) (op_ke n) rfl 6 (by kernel_rfl)
  (OpnF.cons (f:=⟨"Body",29,17,false, "", "",136⟩) (op_prs ih) rfl 1 (by kernel_rfl) OpnF.nil))))))
 refine ((Opn.struct (t:=109) (sz:=18) (fs:= #[⟨"Kind",101,0,false, "", "",0⟩,⟨"Cond",105,1,false, "", "",8⟩,⟨"C",3,7,false, "", "",48⟩,⟨"Item",25,8,false, "", "",56⟩,⟨"To",107,9,false, "", "",64⟩,⟨"Time",105,11,false, "", "",96⟩,⟨"Body",29,17,false, "", "",136⟩]) (by kernel_rfl) (by kernel_rfl) hf (by kernel_rfl)).mono (Nat.le_succ n)).map (fun p=>⟨p.1,p.2.1,p.2.2.1,p.2.2.2.1,p.2.2.2.2.1,p.2.2.2.2.2.1,p.2.2.2.2.2.2.1⟩) (fun p=>rfl) (fun p hp=>?_)
 obtain ⟨h1,h2,h3,h4,h5,h6,⟨h7,h8⟩,_⟩:=hp
 have h9:=okRl_of h7
 refine ⟨?_,?_⟩
 ·rw [wfG];exact ⟨⟨h2.1,h6.1,h5.1⟩,h9.1⟩
 ·rw [smG];exact ⟨⟨h2.2,h6.2,h5.2,h8⟩,h9.2⟩
theorem op_gds{n:Nat}(ih:Opn enc Tryz.prog W base sp hd n 31 cellsRl OkR):Opn enc Tryz.prog W base sp hd n 28 (fun l:List GD=>[gsA l]) (fun l=>(∀t,t∈l->OkG t)/\l.length*160<=140737488355328):=by
 refine ((Opn.sliceA (t:=28) (sz:=18) (bt:=160) (by kernel_rfl) (by kernel_rfl) (by kernel_rfl) (by decide) (op_gd ih)).mono (Nat.le_succ n)).map (fun l=>l) (fun l=>?_) (fun l h=>⟨h.1,by have:=h.2;unfold reachBytes at this;exact Nat.le_trans this (by decide)⟩)
 show [AV.sl 18 (encGl l) none]=_
 rw [encGl_ag]
theorem op_pr: ∀n,Opn enc Tryz.prog W base sp hd n 31 cellsRl OkR
 |0=>Opn.zero
 |n+1=>by
  have ih:=op_pr n
  have hf:=OpnF.cons (f:=⟨"Kind",24,0,false, "", "",0⟩) (Opn.u8 (enc:=enc) (P:=Tryz.prog) (W:=W) (base:=base) (sp:=sp) (hd:=hd) (by kernel_rfl) n) rfl 1 (by kernel_rfl) (OpnF.cons (f:=⟨"C",3,1,false, "", "",8⟩) (Opn.i64 (by kernel_rfl) n) rfl 1 (by kernel_rfl)
   (OpnF.cons (f:=⟨"V",3,2,false, "", "",16⟩) (Opn.i64 (by kernel_rfl) n) rfl 1 (by kernel_rfl) (OpnF.cons (f:=⟨"Item",25,3,false, "", "",24⟩) (Opn.u8 (by kernel_rfl) n) rfl 1 (by kernel_rfl)
   (OpnF.cons (f:=⟨"To",26,4,false, "", "",32⟩) (op_pls n) rfl 1 (by kernel_rfl) (OpnF.cons (f:=⟨"E",27,5,false, "", "",56⟩) (op_kes n) rfl 1 (by kernel_rfl)
   (OpnF.cons (f:=⟨"Guards",28,6,false, "", "",80⟩) (op_gds ih) rfl 1 (by kernel_rfl) (OpnF.cons (f:=⟨"L",29,7,false, "", "",104⟩) (op_prs ih) rfl 1 (by kernel_rfl) OpnF.nil)))))))
  refine (Opn.struct (t:=31) (sz:=8) (fs:= #[⟨"Kind",24,0,false, "", "",0⟩,⟨"C",3,1,false, "", "",8⟩,⟨"V",3,2,false, "", "",16⟩,⟨"Item",25,3,false, "", "",24⟩,⟨"To",26,4,false, "", "",32⟩,⟨"E",27,5,false, "", "",56⟩,⟨"Guards",28,6,false, "", "",80⟩,⟨"L",29,7,false, "", "",104⟩]) (by kernel_rfl) (by kernel_rfl) hf (by kernel_rfl)).map (fun p=>⟨p.1,p.2.1,p.2.2.1,p.2.2.2.1,p.2.2.2.2.1,p.2.2.2.2.2.1,p.2.2.2.2.2.2.1,p.2.2.2.2.2.2.2.1⟩) (fun p=>rfl) (fun p hp=>?_)
  obtain ⟨h1,h2,h3,h4,⟨h5,h5'⟩,⟨h6,h6'⟩,⟨h7,h7'⟩,⟨h8,h8'⟩,_⟩:=hp
  have h9:=okRl_of h8
  have h10:=okGl_of h7
  refine ⟨?_,?_⟩
  ·rw [wfR];exact ⟨⟨fun t ht=>(h5 t ht).1,(okEl_of h6).1,by omega,by omega,by omega⟩,h10.1,h9.1⟩
  ·rw [smR];exact ⟨⟨fun t ht=>(h5 t ht).2,fun x hx=>(h6 x hx).2,h5',h6',h7',h8'⟩,h10.2,h9.2⟩
end
section
variable{H:Type}{enc:TypeId×Value->H}{W:World}{base:Nat}{sp:Nat->Bool}{hd:Bool}
theorem op_evs(n:Nat):Opn enc Tryz.prog W base sp hd (n+1) 35 (fun l:TR=>[trA l]) (fun l=>TrI l/\l.length<=281474976710656):=by
 have hf:=OpnF.cons (f:=⟨"C",3,0,false, "", "",0⟩) (Opn.i64 (enc:=enc) (P:=Tryz.prog) (W:=W) (base:=base) (sp:=sp) (hd:=hd) (by kernel_rfl) n) rfl 1 (by kernel_rfl) (OpnF.cons (f:=⟨"V",21,1,false, "", "",8⟩) (Opn.i32 (by kernel_rfl) n) rfl 1 (by kernel_rfl) OpnF.nil)
 have hv:Opn enc Tryz.prog W base sp hd n 83 (fun v:EL=>[AI v.1,AI32 v.2]) (fun v=>i32 v.2):=((Opn.struct (t:=83) (sz:=2) (fs:= #[⟨"C",3,0,false, "", "",0⟩,⟨"V",21,1,false, "", "",8⟩]) (by kernel_rfl) (by kernel_rfl) hf (by kernel_rfl)).mono (Nat.le_succ n)).map (fun p=>⟨p.1,p.2.1⟩) (fun p=>rfl) (fun p hp=>hp.2.1)
 exact (Opn.sliceA (t:=35) (sz:=2) (bt:=16) (by kernel_rfl) (by kernel_rfl) (by kernel_rfl) (by decide) hv).map (fun l=>l) (fun l=>rfl) (fun l h=>⟨h.1,by have:=h.2;unfold reachBytes at this;omega⟩)
theorem argTr{v:Value}{d:DataW H}{p:List MemPlace}(hval:Value.okWide Tryz.prog W .any base 35 v)(h:DataW.Trod enc Tryz.prog W 0 (fun _=>true) true 35 v d p)(hw:Wt Tryz.prog 35 d):
 ∃l:TR,(TrI l/\l.length<=281474976710656)/\Rp (hOf W) (trA l) v:=by
 obtain ⟨l,h1,h3⟩:=arg_slice (e:=83) (t:=35) (en:=fun l:TR=>trA l) (by kernel_rfl) (fun n=>(op_evs n).mono (Nat.le_succ n)) hval h hw
 exact ⟨l,h1,h3⟩
end
section
variable{H:Type}{enc:TypeId×Value->H}{W:World}{base:Nat}{sp:Nat->Bool}{hd:Bool}
theorem bulk_one(d:DataW H):1<=Rows.uptoBulk d:=by
 cases d with
 |lit l=>cases l<;>simp [Rows.uptoBulk]
 |nil=>simp [Rows.uptoBulk]
 |ptr d=>simp [Rows.uptoBulk]
 |slice elems spare=>simp [Rows.uptoBulk]
 |agg parts=>simp [Rows.uptoBulk]
 |iface t d=>simp [Rows.uptoBulk]
 |map entries=>simp [Rows.uptoBulk]
 |held h=>simp [Rows.uptoBulk]
theorem bulk_part{l:List (DataW H)}{i:Nat}{a:DataW H}(h:l[i]? =some a):Rows.uptoBulk a<=Rows.uptoBulkAll l:=by
 induction l generalizing i with
 |nil=>simp at h
 |cons x r ih=>
  simp only [Rows.uptoBulkAll]
  cases i with
  |zero=>simp at h;subst h;omega
  |succ i=>have:=ih (i:=i) (by simpa using h);omega
theorem bulk_two{l:List (DataW H)}{i j:Nat}{a b:DataW H}(hij:i<j)(h:l[i]? =some a)(h2:l[j]? =some b):Rows.uptoBulk a+Rows.uptoBulk b<=Rows.uptoBulkAll l:=by
 induction l generalizing i j with
 |nil=>simp at h
 |cons x r ih=>
  simp only [Rows.uptoBulkAll]
  cases j with
  |zero=>omega
  |succ j=>
   cases i with
   |zero=>
    have:=bulk_part (l:=r) (i:=j) (by simpa using h2)
    simp at h;subst h;omega
   |succ i=>have:=ih (i:=i) (j:=j) (by omega) (by simpa using h) (by simpa using h2);omega
theorem bulk_sum{α:Type}(μ:α->Nat): ∀{l:List α} {ds:List (DataW H)},l.length<=ds.length->(∀(i:Nat) (a:α) (d:DataW H),l[i]? =some a->ds[i]? =some d->μ a<=Rows.uptoBulk d)->(l.map μ).sum<=Rows.uptoBulkAll ds
 | [],ds,_,_=>by simp
 |a::l,[],h,_=>by simp at h
 |a::l,d::ds,h,hx=>by
  simp only [Rows.uptoBulkAll,List.map_cons,List.sum_cons]
  have h1:=hx 0 a d rfl rfl
  have h2:=bulk_sum μ (l:=l) (ds:=ds) (by simpa using h) (fun (i:Nat) a d h1 h2=>hx (i+1) a d (by simpa using h1) (by simpa using h2))
  omega
theorem bulk_sl{α:Type}(en:α->AV)(μ:α->Nat){t e:TypeId}{sz fuel:Nat}{l:List α}{v:Value}{x:DataW H×List MemPlace}(ht:Tryz.prog.underlying t=some (.slice e))(hsz:Tryz.prog.cellsOf e=sz)
 (hel: ∀m,m<fuel-> ∀a,a∈l-> ∀z y,Rp (hOf W) (en a) z->DataW.trod enc Tryz.prog W base sp hd m e (cellsL z)=some y->μ a<=Rows.uptoBulk y.1)
 (h:DataW.trod enc Tryz.prog W base sp hd fuel t [v]=some x) (hr:Rp (hOf W) (.sl sz (l.map en) none) v):(l.map μ).sum+1<=Rows.uptoBulk x.1:=by
 rw [Rp_sl] at hr
 obtain ⟨ar,cr,hv,hlc,_,hcells⟩:=hr
 rw [List.length_map] at hv
 rcases DataW.trod_slice ht h with ⟨e1,rfl⟩|⟨a,len,cap,elems,rest,n,hn,e1,hx,hb,hl,hc,hlen,hall,_⟩
 ·injection e1 with e1 _
  rw [hv] at e1
  injection e1 with _ e1 _
  rw [List.eq_nil_of_length_eq_zero e1]
  exact bulk_one _
 ·injection e1 with e1 _
  rw [hv] at e1
  injection e1 with e0 e1 _
  rw [hx]
  simp only [Rows.uptoBulk]
  have:=bulk_sum μ (l:=l) (ds:=elems.map (·.1)) (by rw [List.length_map];omega) (fun i a' d hi hdi=>by
   rw [List.getElem?_map,Option.map_eq_some_iff] at hdi
   obtain ⟨y,hy,rfl⟩:=hdi
   have hil:=(List.getElem?_eq_some_iff.1 hi).1
   have hne:l.map en≠[]:=fun e=>by rw [List.map_eq_nil_iff] at e;rw [e] at hil;simp at hil
   obtain ⟨b,o,ha,hE⟩:=hcells hne
   rw [e0] at ha
   injection ha with ha
   have h1:=hall i (by omega)
   rw [hy,hsz] at h1
   obtain ⟨cs',k1,k2⟩:=Option.bind_eq_some_iff.1 h1
   obtain ⟨_,k3,k4⟩:=World.cells?_some k1
   obtain ⟨z,r1,r2,r3⟩:=RpE.at hE (i:=i) (x:=en a') (by rw [List.getElem?_map,hi];rfl)
   have hcz:cs'=cellsL z:=by
    apply List.ext_getElem?
    intro j
    by_cases hj:j<sz
    ·have k5:=k4 j (by omega)
     have hz:(cellsL z)[j]? =some (cellsL z)[j]:=List.getElem?_eq_getElem (by omega)
     have k6:=(hOf_st W).imm _ _ _ (r3 j _ hz)
     rw [ha,add_norm,add_norm] at k5
     rw [<-k5,hz]
     exact k6
    ·rw [List.getElem?_eq_none (by omega),List.getElem?_eq_none (by omega)]
   subst hcz
   exact hel n (by omega) a' (List.mem_of_getElem? hi) z y r1 k2)
  omega
theorem cntL_sum: ∀l:List PR,cntL l=(l.map cntR).sum
 | []=>by rw [cntL];rfl
 |p::r=>by rw [cntL,cntL_sum r];rfl
abbrev cntG1(g:GD):Nat:=1+cntL g.body
theorem cntG_sum: ∀l:List GD,cntG l=(l.map cntG1).sum
 | []=>by rw [cntG];rfl
 |p::r=>by rw [cntG_cons,cntG_sum r];rfl
theorem RpC_at{h:GH}: ∀{xs:List AV} {vs:List Value} {i:Nat} {x:AV},RpC h xs vs->xs[i]? =some x-> ∃v,vs[i]? =some v/\Rp h x v
 | [],_,_,_,_,hx=>by simp at hx
 |y::xs,vs,i,x,r,hx=>by
  rw [RpC_cons] at r
  obtain ⟨v,us,rfl,q1,q2⟩:=r
  cases i with
  |zero=>simp at hx;subst hx;exact ⟨v,rfl,q1⟩
  |succ i=>
   obtain ⟨v',h1,h2⟩:=RpC_at q2 (i:=i) (by simpa using hx)
   exact ⟨v',by simpa using h1,h2⟩
theorem one_cell{cs:List Value}{o:Nat}{v:Value}(h:cs[o]? =some v):(cs.drop o).take 1=[v]:=by
 rw [List.take_one,List.head?_drop,h];rfl
theorem bulk_pr: ∀(m:Nat) (p:PR) (cs:List Value) (x:DataW H×List MemPlace),DataW.trod enc Tryz.prog W base sp hd m 31 cs=some x->RpC (hOf W) (cellsRl p) cs->cntR p<=Rows.uptoBulk x.1
 |0,p,cs,x,h,_=>by simp [DataW.trod] at h
 |m+1,p,cs,x,h,r=>by
  have key: ∀n,n<m+1-> ∀(l:List PR) (v:Value) (y:DataW H×List MemPlace),DataW.trod enc Tryz.prog W base sp hd n 29 [v]=some y->Rp (hOf W) (rsA l) v->cntL l+1<=Rows.uptoBulk y.1:=fun n hn l v y hy hv=>by
   rw [cntL_sum]
   refine bulk_sl (fun e=> .ag (cellsRl e)) cntR (t:=29) (e:=31) (sz:=8) (by kernel_rfl) (by kernel_rfl) (fun k hk a ha z y' hz hy'=>?_) hy (by rw [<-encRl_ag];exact hv)
   rw [Rp_ag] at hz
   obtain ⟨cs',rfl,hz⟩:=hz
   have hy':DataW.trod enc Tryz.prog W base sp hd k 31 cs'=some y':=by rw [cellsL_eq] at hy';exact hy'
   exact bulk_pr k a cs' y' hy' hz
  have keyg: ∀n,n<m+1-> ∀(l:List GD) (v:Value) (y:DataW H×List MemPlace),DataW.trod enc Tryz.prog W base sp hd n 28 [v]=some y->Rp (hOf W) (gsA l) v->cntG l+1<=Rows.uptoBulk y.1:=fun n hn l v y hy hv=>by
   rw [cntG_sum]
   refine bulk_sl (fun e=> .ag (cellsGl e)) cntG1 (t:=28) (e:=109) (sz:=18) (by kernel_rfl) (by kernel_rfl) (fun k hk a ha z y' hz hy'=>?_) hy (by rw [<-encGl_ag];exact hv)
   rw [Rp_ag] at hz
   obtain ⟨cs',rfl,hz⟩:=hz
   have hy':DataW.trod enc Tryz.prog W base sp hd k 109 cs'=some y':=by rw [cellsL_eq] at hy';exact hy'
   obtain ⟨xs,q,rfl,hx,hlen,hxs,hf⟩:=DataW.trod_struct (fs:= #[⟨"Kind",101,0,false, "", "",0⟩,⟨"Cond",105,1,false, "", "",8⟩,⟨"C",3,7,false, "", "",48⟩,⟨"Item",25,8,false, "", "",56⟩,⟨"To",107,9,false, "", "",64⟩,⟨"Time",105,11,false, "", "",96⟩,⟨"Body",29,17,false, "", "",136⟩]) (by kernel_rfl) hy'
   obtain ⟨v',h1,h2⟩:=RpC_at hz (i:=17) rfl
   have h3:=hf 6 ⟨"Body",29,17,false, "", "",136⟩ (by kernel_rfl)
   rw [show Tryz.prog.cellsOf 29=1 from (by kernel_rfl),one_cell h1] at h3
   obtain ⟨y,hy⟩: ∃y,xs[6]? =some y:=⟨_,List.getElem?_eq_getElem (by rw [hxs];decide)⟩
   rw [hy] at h3
   have h4:=key q (by omega) a.body v' y h3 h2
   have h5:=bulk_part (l:=xs.map (·.1)) (i:=6) (a:=y.1) (by rw [List.getElem?_map,hy];rfl)
   rw [hx]
   simp only [Rows.uptoBulk]
   show 1+cntL a.body<=_
   omega
  obtain ⟨xs,q,hq,hx,hlen,hxs,hf⟩:=DataW.trod_struct (fs:= #[⟨"Kind",24,0,false, "", "",0⟩,⟨"C",3,1,false, "", "",8⟩,⟨"V",3,2,false, "", "",16⟩,⟨"Item",25,3,false, "", "",24⟩,⟨"To",26,4,false, "", "",32⟩,⟨"E",27,5,false, "", "",56⟩,⟨"Guards",28,6,false, "", "",80⟩,⟨"L",29,7,false, "", "",104⟩]) (by kernel_rfl) h
  obtain rfl:m=q:=Nat.succ.inj hq
  obtain ⟨v6,g1,g2⟩:=RpC_at r (i:=6) rfl
  obtain ⟨v7,l1,l2⟩:=RpC_at r (i:=7) rfl
  have g3:=hf 6 ⟨"Guards",28,6,false, "", "",80⟩ (by kernel_rfl)
  rw [show Tryz.prog.cellsOf 28=1 from (by kernel_rfl),one_cell g1] at g3
  have l3:=hf 7 ⟨"L",29,7,false, "", "",104⟩ (by kernel_rfl)
  rw [show Tryz.prog.cellsOf 29=1 from (by kernel_rfl),one_cell l1] at l3
  obtain ⟨y6,e6⟩: ∃y,xs[6]? =some y:=⟨_,List.getElem?_eq_getElem (by rw [hxs];decide)⟩
  obtain ⟨y7,e7⟩: ∃y,xs[7]? =some y:=⟨_,List.getElem?_eq_getElem (by rw [hxs];decide)⟩
  rw [e6] at g3
  rw [e7] at l3
  have g4:=keyg m (by omega) p.gs v6 y6 g3 g2
  have l4:=key m (by omega) p.l v7 y7 l3 l2
  have h5:=bulk_two (l:=xs.map (·.1)) (i:=6) (j:=7) (a:=y6.1) (b:=y7.1) (by decide) (by rw [List.getElem?_map,e6];rfl) (by rw [List.getElem?_map,e7];rfl)
  rw [hx]
  simp only [Rows.uptoBulk]
  rw [cntR_eq]
  omega
theorem argProc{v:Value}{d:DataW H}{p:List MemPlace}(hval:Value.okWide Tryz.prog W .any base 31 v)(h:DataW.Trod enc Tryz.prog W 0 (fun _=>true) true 31 v d p)(hw:Wt Tryz.prog 31 d):
 ∃k:PR,(smR k/\cntR k<=Rows.uptoBulk d)/\Rp (hOf W) (cellsR k) v:=by
 have hval':=hval
 obtain ⟨a,ha,hr⟩:=arg_struct (fs:= #[⟨"Kind",24,0,false, "", "",0⟩,⟨"C",3,1,false, "", "",8⟩,⟨"V",3,2,false, "", "",16⟩,⟨"Item",25,3,false, "", "",24⟩,⟨"To",26,4,false, "", "",32⟩,⟨"E",27,5,false, "", "",56⟩,⟨"Guards",28,6,false, "", "",80⟩,⟨"L",29,7,false, "", "",104⟩]) (by kernel_rfl) (fun n=>op_pr n) hval h hw
 obtain ⟨fuel,hf⟩:=h
 rw [Rp_ag] at hr
 obtain ⟨cs,rfl,hr⟩:=hr
 have hf':DataW.trod enc Tryz.prog W 0 (fun _=>true) true fuel 31 cs=some (d,p):=hf
 refine ⟨a,⟨ha.2,bulk_pr fuel a cs _ hf' hr⟩,?_⟩
 show Rp _ (.ag (cellsRl a)) _
 exact Rp_ag.2 ⟨cs,rfl,hr⟩
end
theorem big_k2:mapsRowed Tryz.pinned.checked.prog=true:=by kernel_rfl
theorem big_k24:Tryz.pinned.checked.prog.stopsHeard=true:=by kernel_rfl
theorem big_k25:Tryz.pinned.checked.prog.mayEnter=true:=by kernel_rfl
theorem big_k26:Tryz.pinned.checked.prog.liftsFinal=Rows.traceEndsRow.lifted:=by kernel_rfl
theorem big_k27:Tryz.pinned.checked.prog.make=some Rows.traceEndsRow.make:=by kernel_rfl
theorem big_k22:Tryz.pinned.checked.prog.plainKeys=Rows.traceEndsRow.plainKeys:=by kernel_rfl
end Go.Proofs.YtkbolbpojpmicaaGreat
