/-
  Texts P21f Q21an Q21ao. Conditions: as each theorem says.
-/
import Derived.Test.YtafcodjilcljeaaGreatV3
import Derived.Test.YtafcodjilcljeaaGreatV12
import Derived.Test.YtafcodjilcljeaaGreatV10
set_option linter.unusedVariables false
set_option linter.unusedSimpArgs false
set_option maxRecDepth 100000
set_option maxHeartbeats 4000000
namespace Go.Proofs.YtafcodjilcljeaaGreat
open Go Go.Tp
abbrev vE(s:List (List Int))(e:KE):Int:=(valueM s e).getD 0
abbrev pT(s:List (List Int))(t:PL):Int×Int:=(placeM s t.v t.ix).getD (0,0)
def okS(s:List (List Int))(p:PR):Bool:=p.e.all (fun e=>(valueM s e).isSome)&&p.to.all (fun t=>(placeM s t.v t.ix).isSome)
abbrev Puts:=List ((Int×Int)×Int)
def putsS(s:List (List Int))(p:PR):Puts:=(p.to.map (pT s)).zip (p.e.map (vE s))
def putA21(s:List (List Int))(l:Puts):List (List Int):=l.foldl (fun s q=>putM s q.1.1 q.1.2 q.2) s
def runM(s:List (List Int)):List PR→List (List Int)
 | []=>s
 |p::r=>if okS s p=true then runM (putA21 s (putsS s p)) r else s
def runP(s:List (List Int)):List PR→Puts
 | []=>[]
 |p::r=>if okS s p=true then putsS s p++runP (putA21 s (putsS s p)) r else []
theorem putA_app(s:List (List Int))(a b:Puts):putA21 s (a++b)=putA21 (putA21 s a) b:=List.foldl_append ..
theorem run_puts: ∀(l:List PR) (s:List (List Int)),runM s l=putA21 s (runP s l)
 | [],s=>by rw [runM,runP];rfl
 |p::r,s=>by
  rw [runM,runP]
  split
  ·rw [putA_app,run_puts r]
  ·rfl
theorem put_at(s:List (List Int))(v i x a b:Int):atM (putM s v i x) a b=if a=v∧b=i∧(atM s v i).isSome=true then some x else atM s a b:=by
 by_cases hs:(atM s v i).isSome=true
 ·have hv: ¬(v<0∨i<0):=by
   intro h;unfold atM at hs;rw [if_pos h] at hs;cases hs
  have e1:v=(v.toNat:Nat):=by omega
  have e2:i=(i.toNat:Nat):=by omega
  obtain ⟨r,hr,hj⟩: ∃r,s[v.toNat]? =some r∧i.toNat<r.length:=by
   unfold atM at hs;rw [if_neg hv] at hs
   cases hr:s[v.toNat]? with
   |none=>rw [hr] at hs;cases hs
   |some r=>
    rw [hr] at hs
    refine ⟨r,rfl,?_⟩
    rcases Nat.lt_or_ge i.toNat r.length with h|h
    ·exact h
    ·simp only [Option.bind_some,List.getElem?_eq_none h] at hs;cases hs
  by_cases h0:a<0∨b<0
  ·rw [if_neg (by omega)]
   unfold atM;rw [if_pos h0,if_pos h0]
  ·have e3:a=(a.toNat:Nat):=by omega
   have e4:b=(b.toNat:Nat):=by omega
   have:=set_at hr hj x a.toNat b.toNat
   rw [←e3,←e4] at this
   have hp:putM s v i x=s.set v.toNat (r.set i.toNat x):=by
    have h1:=putM_at hr (List.getElem?_eq_getElem hj) x
    rwa [←e1,←e2] at h1
   rw [hp,this]
   by_cases h1:a.toNat=v.toNat∧b.toNat=i.toNat
   ·rw [if_pos h1,if_pos ⟨by omega,by omega,hs⟩]
   ·rw [if_neg h1,if_neg (fun h=>h1 ⟨by omega,by omega⟩)]
 ·have hp:putM s v i x=s:=putM_no (by simpa using hs) x
  rw [hp,if_neg (fun h=>hs h.2.2)]
structure Rel(S:Int→Int→Prop)(s t:List (List Int)):Prop where
 eq: ∀v i,¬S v i→atM s v i=atM t v i
 sh: ∀v i,(atM s v i).isSome=(atM t v i).isSome
theorem Rel.refl{S:Int→Int→Prop}(s:List (List Int)):Rel S s s:=⟨fun _ _ _=>rfl,fun _ _=>rfl⟩
theorem put_some(s:List (List Int))(v i x a b:Int):(atM (putM s v i x) a b).isSome=(atM s a b).isSome:=by
 rw [put_at]
 split
 ·rename_i h;rw [h.1,h.2.1,h.2.2];rfl
 ·rfl
theorem Rel.put{S:Int→Int→Prop}{s t:List (List Int)}(h:Rel S s t)(v i x:Int):Rel S (putM s v i x) (putM t v i x):=
 ⟨fun a b hn=>by rw [put_at,put_at,h.sh v i,h.eq a b hn],fun a b=>by rw [put_some,put_some,h.sh]⟩
theorem Rel.putL{S:Int→Int→Prop}{s t:List (List Int)}(h:Rel S s t){v i:Int}(hs:S v i)(x:Int):Rel S s (putM t v i x):=
 ⟨fun a b hn=>by rw [put_at,if_neg (fun e=>hn (by rw [e.1,e.2.1];exact hs))];exact h.eq a b hn,fun a b=>by rw [put_some];exact h.sh a b⟩
theorem Rel.puts{S:Int→Int→Prop}: ∀(l:Puts) {s t:List (List Int)},Rel S s t→Rel S (putA21 s l) (putA21 t l)
 | [],_,_,h=>h
 |q::r,_,_,h=>Rel.puts r (h.put q.1.1 q.1.2 q.2)
theorem Rel.putsL{S:Int→Int→Prop}: ∀(l:Puts) {s t:List (List Int)},(∀q,q∈l→S q.1.1 q.1.2)→Rel S s t→Rel S s (putA21 t l)
 | [],_,_,_,h=>h
 |q::r,_,_,hq,h=>Rel.putsL r (fun y hy=>hq y (List.mem_cons_of_mem _ hy)) (h.putL (hq q (List.mem_cons_self ..)) q.2)
def CovL(l:List EL)(v i:Int):Prop:= ∃z,z∈l∧Cov z v i
structure Seen(vs:List KV)(R:RU)(p:PR):Prop where
 e: ∀x,x∈p.e→ ∀z,z∈rdK vs x→z∈R.r
 w: ∀t,t∈p.to→plE vs t∈R.w
 ix: ∀t,t∈p.to→ ∀x,x∈t.ix→ ∀z,z∈rdK vs x→z∈R.r
theorem val_eq{vs:List KV}{S:Int→Int→Prop}{s t:List (List Int)}(h:Rel S s t){R:RU}(hS: ∀v i,S v i→ ¬CovL R.r v i){e:KE}(hz: ∀z,z∈rdK vs e→z∈R.r):valueM s e=valueM t e:=by
 unfold valueM
 split
 ·rename_i hv
  exact rd_sameS (vs:=vs) h.eq _ e (Nat.le_refl _) hv.1 fun z hm v i hc hs=>hS v i hs ⟨z,hz z hm,hc⟩
 ·rfl
theorem place_eq{vs:List KV}{S:Int→Int→Prop}{s t:List (List Int)}(h:Rel S s t){R:RU}(hS: ∀v i,S v i→ ¬CovL R.r v i)(v:Int){l:List KE}(hz: ∀x,x∈l→ ∀z,z∈rdK vs x→z∈R.r):placeM s v l=placeM t v l:=by
 match l,hz with
 | [],_=>simp only [placeM,h.sh]
 | [e],hz=>
   have:=val_eq h hS (hz e (List.mem_cons_self ..))
   simp only [placeM,this]
   cases valueM t e with
   |none=>rfl
   |some x=>simp only [h.sh]
 |a::b::r,_=>rfl
theorem step_eq{vs:List KV}{S:Int→Int→Prop}{s t:List (List Int)}(h:Rel S s t){R:RU}(hS: ∀v i,S v i→ ¬CovL R.r v i){p:PR}(hp:Seen vs R p):okS s p=okS t p∧putsS s p=putsS t p:=by
 have he: ∀x,x∈p.e→valueM s x=valueM t x:=fun x hx=>val_eq h hS (hp.e x hx)
 have ht: ∀q,q∈p.to→placeM s q.v q.ix=placeM t q.v q.ix:=fun q hq=>place_eq h hS q.v (hp.ix q hq)
 constructor
 ·unfold okS
  congr 1
  ·rw [Bool.eq_iff_iff,List.all_eq_true,List.all_eq_true]
   exact ⟨fun h x hx=>by rw [←he x hx];exact h x hx,fun h x hx=>by rw [he x hx];exact h x hx⟩
  ·rw [Bool.eq_iff_iff,List.all_eq_true,List.all_eq_true]
   exact ⟨fun h x hx=>by rw [←ht x hx];exact h x hx,fun h x hx=>by rw [ht x hx];exact h x hx⟩
 ·unfold putsS
  rw [List.map_congr_left (g:=pT t) fun q hq=>by show (placeM s q.v q.ix).getD (0,0)=_;rw [ht q hq],List.map_congr_left (g:=vE t) fun x hx=>by show (valueM s x).getD 0=_;rw [he x hx]]
theorem runP_eq{vs:List KV}{S:Int→Int→Prop}{R:RU}(hS: ∀v i,S v i→ ¬CovL R.r v i): ∀(l:List PR) {s t:List (List Int)},Rel S s t→(∀p,p∈l→Seen vs R p)→runP s l=runP t l
 | [],_,_,_,_=>by rw [runP,runP]
 |p::r,s,t,h,hp=>by
  obtain ⟨e1,e2⟩:=step_eq h hS (hp p (List.mem_cons_self ..))
  rw [runP,runP,e1,e2]
  split
  ·rw [runP_eq hS r (h.puts (putsS t p)) fun q hq=>hp q (List.mem_cons_of_mem _ hq)]
  ·rfl
theorem place_cov{vs:List KV}{s:List (List Int)}{t:PL}{q:Int×Int}(h:placeM s t.v t.ix=some q):Cov (plE vs t) q.1 q.2:=by
 obtain ⟨v,l⟩:=t
 simp only at h
 match l,h with
 | [],h=>
   simp only [placeM] at h
   split at h
   ·injection h with h;subst h;exact ⟨rfl, .inl rfl⟩
   ·cases h
 | [e],h=>
   simp only [placeM] at h
   cases hx:valueM s e with
   |none=>rw [hx] at h;cases h
   |some x=>
    rw [hx] at h
    simp only at h
    split at h
    ·injection h with h;subst h
     show Cov (elemM vs v e) v x
     unfold elemM
     split
     ·rename_i hn
      refine ⟨rfl, .inl ?_⟩
      show e.n=x
      unfold valueM at hx
      split at hx
      ·obtain ⟨k',o',t',n',v',l'⟩:=e
       have h1':k'=1:=hn.1
       subst h1'
       simp only [valM,combM,if_true] at hx
       injection hx
      ·cases hx
     ·exact ⟨rfl, .inr rfl⟩
    ·cases h
 |a::b::r,h=>simp only [placeM] at h;cases h
theorem puts_cov{vs:List KV}{s:List (List Int)}{R:RU}{p:PR}(hp:Seen vs R p)(ho:okS s p=true): ∀q,q∈putsS s p→CovL R.w q.1.1 q.1.2:=by
 intro q hq
 have hq1:q.1∈p.to.map (pT s):=(List.of_mem_zip (a:=q.1) (b:=q.2) hq).1
 obtain ⟨t,ht,hte⟩:=List.mem_map.1 hq1
 rw [okS,Bool.and_eq_true,List.all_eq_true,List.all_eq_true] at ho
 have hs:=ho.2 t ht
 cases hpl:placeM s t.v t.ix with
 |none=>rw [hpl] at hs;cases hs
 |some y=>
  have:q.1=y:=by rw [←hte];show (placeM s t.v t.ix).getD (0,0)=y;rw [hpl];rfl
  rw [this]
  exact ⟨_,hp.w t ht,place_cov hpl⟩
theorem runP_cov{vs:List KV}{R:RU}: ∀(l:List PR) (s:List (List Int)),(∀p,p∈l→Seen vs R p)→ ∀q,q∈runP s l→CovL R.w q.1.1 q.1.2
 | [],s,_,q,h=>by rw [runP] at h;cases h
 |p::r,s,hp,q,h=>by
  rw [runP] at h
  split at h
  ·rename_i ho
   rcases List.mem_append.1 h with h|h
   ·exact puts_cov (hp p (List.mem_cons_self ..)) ho q h
   ·exact runP_cov r _ (fun y hy=>hp y (List.mem_cons_of_mem _ hy)) q h
  ·cases h
theorem atM_ext{s t:List (List Int)}(hl:s.map List.length=t.map List.length)(h: ∀v i,atM s v i=atM t v i):s=t:=by
 apply List.ext_getElem?
 intro a
 have hla:(s.map List.length)[a]? =(t.map List.length)[a]? :=by rw [hl]
 rw [List.getElem?_map,List.getElem?_map] at hla
 cases hs:s[a]? with
 |none=>
  rw [hs] at hla
  cases ht:t[a]? with
  |none=>rfl
  |some q=>rw [ht] at hla;cases hla
 |some r=>
  rw [hs] at hla
  cases ht:t[a]? with
  |none=>rw [ht] at hla;cases hla
  |some q=>
   congr 1
   apply List.ext_getElem?
   intro b
   have:=h a b
   rw [atM_nat,atM_nat,hs,ht] at this
   exact this
theorem put_lens(s:List (List Int))(v i x:Int):(putM s v i x).map List.length=s.map List.length:=by
 unfold putM
 split
 ·split
  ·rename_i r hr
   rw [List.map_set,List.length_set]
   apply List.ext_getElem?
   intro a
   rw [List.getElem?_set]
   split
   ·rename_i h;subst h
    rw [List.getElem?_map,hr]
    split
    ·rfl
    ·rename_i h2;exfalso;apply h2;rw [List.length_map];exact (List.getElem?_eq_some_iff.1 hr).1
   ·rfl
  ·rfl
 ·rfl
theorem put_comm21(s:List (List Int)){v i a b:Int}(x y:Int)(h: ¬(v=a∧i=b)):putM (putM s v i x) a b y=putM (putM s a b y) v i x:=by
 refine atM_ext (by rw [put_lens,put_lens,put_lens,put_lens]) fun c d=>?_
 rw [put_at (putM s v i x) a b y c d,put_at (putM s a b y) v i x c d,put_some s v i x,put_some s a b y,put_at s v i x c d,put_at s a b y c d]
 by_cases h1:c=a∧d=b∧(atM s a b).isSome=true
 ·rw [if_pos h1,if_neg (fun h2=>h ⟨by omega,by omega⟩),if_pos h1]
 ·rw [if_neg h1,if_neg h1]
theorem puts_comm1{q:(Int×Int)×Int}: ∀(l:Puts) (s:List (List Int)),(∀p,p∈l→ ¬(p.1.1=q.1.1∧p.1.2=q.1.2))→putM (putA21 s l) q.1.1 q.1.2 q.2=putA21 (putM s q.1.1 q.1.2 q.2) l
 | [],s,_=>rfl
 |p::r,s,h=>by
  show putM (putA21 (putM s p.1.1 p.1.2 p.2) r) q.1.1 q.1.2 q.2=putA21 (putM (putM s q.1.1 q.1.2 q.2) p.1.1 p.1.2 p.2) r
  rw [puts_comm1 r _ fun y hy=>h y (List.mem_cons_of_mem _ hy),put_comm21 s p.2 q.2 (h p (List.mem_cons_self ..))]
theorem puts_comm: ∀(m l:Puts) (s:List (List Int)),(∀p,p∈l→ ∀q,q∈m→ ¬(p.1.1=q.1.1∧p.1.2=q.1.2))→putA21 (putA21 s l) m=putA21 (putA21 s m) l
 | [],l,s,_=>rfl
 |q::r,l,s,h=>by
  show putA21 (putM (putA21 s l) q.1.1 q.1.2 q.2) r=putA21 (putA21 (putM s q.1.1 q.1.2 q.2) r) l
  rw [puts_comm1 l s fun p hp=>h p hp q (List.mem_cons_self ..),puts_comm r l _ fun p hp y hy=>h p hp y (List.mem_cons_of_mem _ hy)]
theorem meet_cov{x y:EL}{v i:Int}(hx:Cov x v i)(hy:Cov y v i):meetE x y=true:=by
 obtain ⟨a,b⟩:=hx
 obtain ⟨c,d⟩:=hy
 simp only [meetE,Bool.and_eq_true,Bool.or_eq_true,decide_eq_true_eq]
 omega
theorem over_cov{a b:List EL}(h:overM a b=[])(v i:Int):CovL a v i→ ¬CovL b v i:=by
 rintro ⟨x,hx,cx⟩ ⟨y,hy,cy⟩
 have:=over_mem.2 ⟨x,hx,y,hy,meet_cov cx cy,rfl⟩
 rw [h] at this;cases this
theorem swap_plain{vs:List KV}{U V:RU}{a b:List PR}(h1:overM U.w V.w=[])(h2:overM U.w V.r=[])(h3:overM U.r V.w=[])(ha: ∀p,p∈a→Seen vs U p)(hb: ∀p,p∈b→Seen vs V p)(s:List (List Int)):
 runM (runM s a) b=runM (runM s b) a:=by
 have ra:Rel (CovL U.w) s (putA21 s (runP s a)):=Rel.putsL _ (runP_cov a s ha) (Rel.refl s)
 have rb:Rel (CovL V.w) s (putA21 s (runP s b)):=Rel.putsL _ (runP_cov b s hb) (Rel.refl s)
 have e1:runP (putA21 s (runP s a)) b=runP s b:=(runP_eq (vs:=vs) (R:=V) (fun v i h=>over_cov h2 v i h) b ra hb).symm
 have e2:runP (putA21 s (runP s b)) a=runP s a:=(runP_eq (vs:=vs) (R:=U) (fun v i h h'=>over_cov h3 v i h' h) a rb ha).symm
 rw [run_puts b,run_puts a (runM s b),run_puts a s,run_puts b s,e1,e2]
 refine puts_comm _ _ _ fun p hp q hq ⟨g1,g2⟩=>?_
 have c1:=runP_cov a s ha p hp
 have c2:=runP_cov b s hb q hq
 rw [g1,g2] at c1
 exact over_cov h1 _ _ c1 c2
theorem rawRl_mem{vs:List KV}{p:PR}: ∀{l:List PR},p∈l→(∀z,z∈(rawR vs p).r→z∈(rawRl vs l).r)∧(∀z,z∈(rawR vs p).w→z∈(rawRl vs l).w)
 | [],h=>by cases h
 |q::r,h=>by
  rw [rawRl]
  rcases List.mem_cons.1 h with rfl|h
  ·exact ⟨fun z hz=>List.mem_append_left _ hz,fun z hz=>List.mem_append_left _ hz⟩
  ·obtain ⟨h1,h2⟩:=rawRl_mem h
   exact ⟨fun z hz=>List.mem_append_right _ (h1 z hz),fun z hz=>List.mem_append_right _ (h2 z hz)⟩
theorem rdKl_mem{vs:List KV}{x:KE}{z:EL}(hz:z∈rdK vs x): ∀{l:List KE},x∈l→z∈rdKl vs l
 | [],h=>by cases h
 |y::r,h=>by
  rw [rdKl]
  rcases List.mem_cons.1 h with rfl|h
  ·exact List.mem_append_left _ hz
  ·exact List.mem_append_right _ (rdKl_mem hz h)
theorem plsU_mem{vs:List KV}{t:PL}: ∀{l:List PL},t∈l→plE vs t∈(plsU vs l).w∧ ∀z,z∈rdKl vs t.ix→z∈(plsU vs l).r
 | [],h=>by cases h
 |q::r,h=>by
  rw [plsU]
  rcases List.mem_cons.1 h with rfl|h
  ·exact ⟨List.mem_append_left _ (List.mem_singleton.2 rfl),fun z hz=>List.mem_append_left _ hz⟩
  ·obtain ⟨h1,h2⟩:=plsU_mem h
   exact ⟨List.mem_append_right _ h1,fun z hz=>List.mem_append_right _ (h2 z hz)⟩
theorem raw_seen(vs:List KV)(p:PR):Seen vs (rawR vs p) p:=by
 obtain ⟨k,c,v,it,to,e,gs,l⟩:=p
 rw [rawR]
 refine ⟨fun x hx z hz=>?_,fun t ht=>?_,fun t ht x hx z hz=>?_⟩
 ·exact List.mem_append_left _ (List.mem_append_right _ (rdKl_mem hz hx))
 ·exact List.mem_append_left _ (List.mem_append_left _ (List.mem_append_right _ (plsU_mem ht).1))
 ·exact List.mem_append_left _ (List.mem_append_left _ (List.mem_append_right _ ((plsU_mem ht).2 z (rdKl_mem hz hx))))
theorem seq_seen(vs:List KV)(l:List PR): ∀p,p∈l→Seen vs (usesM vs ⟨9,0,0,0,[],[],[],l⟩) p:=by
 intro p hp
 have h:=raw_seen vs p
 obtain ⟨m1,m2⟩:=rawRl_mem (vs:=vs) hp
 have er: ∀z,z∈(rawRl vs l).r→z∈(usesM vs ⟨9,0,0,0,[],[],[],l⟩).r:=fun z hz=>by
  refine mem_canE.2 ?_
  rw [rawR]
  exact List.mem_append_right _ (List.mem_append_left _ hz)
 have ew: ∀z,z∈(rawRl vs l).w→z∈(usesM vs ⟨9,0,0,0,[],[],[],l⟩).w:=fun z hz=>by
  refine mem_canE.2 ?_
  rw [rawR]
  exact List.mem_append_right _ (List.mem_append_left _ hz)
 exact ⟨fun x hx z hz=>er z (m1 z (h.e x hx z hz)),fun t ht=>ew _ (m2 _ (h.w t ht)),fun t ht x hx z hz=>er z (m1 z (h.ix t ht x hx z hz))⟩
theorem bet_none{u v:RU}{a b:Int}(h:betM u v [] a b=[]):overM u.w v.w=[]∧overM u.w v.r=[]∧overM u.r v.w=[]:=by
 unfold betM at h
 obtain ⟨h,_⟩:=List.append_eq_nil_iff.1 h
 obtain ⟨h,_⟩:=List.append_eq_nil_iff.1 h
 obtain ⟨h1,h2⟩:=List.append_eq_nil_iff.1 h
 have g1:canE (overM u.w v.w)=[]:=List.map_eq_nil_iff.1 h1
 have g2:canE (overM u.w v.r++overM u.r v.w)=[]:=List.map_eq_nil_iff.1 h2
 have key: ∀l:List EL,canE l=[]→l=[]:=fun l hl=>by
  cases l with
  |nil=>rfl
  |cons x r=>have:=mem_canE.2 (List.mem_cons_self (a:=x) (l:=r));rw [hl] at this;cases this
 obtain ⟨k1,k2⟩:=List.append_eq_nil_iff.1 (key _ g2)
 exact ⟨key _ g1,k1,k2⟩
def asgM(l:List PR):List PR:=l.filter fun p=>decide (p.kind=4)
theorem asg_take{l:List PR}{i:Nat}{x:PR}(h:l[i]? =some x):asgM (l.take (i+1))=if x.kind=4 then asgM (l.take i)++[x] else asgM (l.take i):=by
 unfold asgM
 rw [take_at h,List.filter_append]
 by_cases hp:x.kind=4
 ·rw [if_pos hp,List.filter_cons,if_pos (by simpa using hp)];rfl
 ·rw [if_neg hp,List.filter_cons,if_neg (by simpa using hp)];simp
theorem lassign_p(l:List PR)(hl:l.length≤20):Pure Tryz.prog gs0 30 [rsA l] (rsA (asgM l)):=by
 have n1:((encRl l).length:Int)=l.length:=by rw [encRl_len]
 refine p_ tt_ok Tryz.func30 21 fun w0 h0 F hgs=>?_
 refine y_ ?_
 refine A.emptyRow 3 8 rfl fun z0=>?_
 refine A.valE 7 rfl (x':=AI (l.length:Nat)) (ai_eq n1) ?_
 refine A.keep [3,6,7,8] rfl ?_
 refine A.loopP (ι:=Nat×Value) (fun s=>(⟨[(3, .ms s.2 8 (asgM (l.take s.1)).length),(6,rsA l),(7,AI (l.length:Nat)),(8,AI (s.1:Nat))],[]⟩,[.row 8 s.2 (encRl (asgM (l.take s.1)))])) (fun s=>s.1≤l.length) (fun s=>l.length-s.1) (0,z0) (Nat.zero_le _) rfl fun s hs ih=>?_
 obtain ⟨i,z⟩:=s
 simp only at hs ih⊢
 refine y_ ?_
 refine k_ (fun hc=>?_) fun hc=>?_
 ·have hci:i<l.length:=Int.ofNat_lt.1 (of_decide_eq_true hc)
  clear hc
  refine Exists.elim (at_exN (l:=l) (i:=i) hci) fun x hx=>?_
  have hot:=asg_take hx
  have e3:(asgM (l.take i)).length≤20:=Nat.le_trans (List.length_filter_le _ _) (by rw [List.length_take];omega)
  refine y_ ?_
  refine i_ rfl (encRl_at hx) (encR_eq x) ?_
  refine A.b rfl fun b5=>?_
  refine y_ ?_
  by_cases hp0:x.kind=4
  ·rw [if_pos hp0] at hot
   have e1:(asgM (l.take (i+1))).length=(encRl (asgM (l.take i))).length+1:=by rw [hot,List.length_append,encRl_len];rfl
   have e2:encRl (asgM (l.take (i+1)))=encRl (asgM (l.take i))++[cellsR x]:=by rw [hot,encRl_snoc]
   refine A.valE 14 rfl (x':=AB true) (ab_eq (by rw [hp0];rfl)) ?_
   refine t_ fun bl=>?_
   refine A.appendRowE rfl rfl rfl rfl rfl rfl rfl rfl rfl rfl rfl rfl rfl rfl (by show ((encRl (asgM (l.take i))).length+1)*8≤_;rw [encRl_len];omega) (by show ((encRl (asgM (l.take i))).length+1)*8*128≤_;rw [encRl_len];omega) fun z2=>?_
   refine y_ ?_
   refine l_ (Λ':=[.row 8 z2 _]) ?_
   refine A.valE 3 rfl (x':= .ms z2 8 (asgM (l.take (i+1))).length) (by rw [e1];rfl) ?_
   refine A.entsEq (Λ':=[.row 8 z2 (encRl (asgM (l.take (i+1))))]) (by rw [e2];rfl) ?_
   refine A.valE 8 rfl (x':=AI ((i+1:Nat):Int)) (inc_eq i (by omega)) ?_
   refine u_ (ih (i+1,z2) (by show i+1≤_;omega) (by show l.length-(i+1)<l.length-i;omega))
  ·rw [if_neg hp0] at hot
   refine e_ 14 rfl (x':=AB false) (ab_eq (by simpa using hp0)) ?_
   refine l_ (Λ':=[.row 8 z _]) ?_
   refine A.valE 3 rfl (x':= .ms z 8 (asgM (l.take (i+1))).length) (by rw [hot]) ?_
   refine A.entsEq (Λ':=[.row 8 z (encRl (asgM (l.take (i+1))))]) (by rw [hot]) ?_
   refine A.valE 8 rfl (x':=AI ((i+1:Nat):Int)) (inc_eq i (by omega)) ?_
   refine u_ (ih (i+1,z) (by show i+1≤_;omega) (by show l.length-(i+1)<l.length-i;omega))
 ·have hil:i=l.length:=by
   have: ¬((i:Int)<(l.length:Nat)):=of_decide_eq_false hc
   omega
  clear hc ih hs
  refine A.valE 3 rfl (x':= .ms z 8 (asgM l).length) (by rw [hil,List.take_length]) ?_
  refine A.entsEq (Λ':=[.row 8 z (encRl (asgM l))]) (by rw [hil,List.take_length]) ?_
  clear hil
  refine y_ ?_
  refine A.freezeRow 2 rfl ?_
  exact r_
structure Good21(s:List (List Int)):Prop where
 ws:wfS s
 len:s.length≤256
 row: ∀r,r∈s→r.length≤64
theorem Good21.put{s:List (List Int)}(h:Good21 s)(v i:Int){x:Int}(hx:i32 x):Good21 (putM s v i x):=by
 refine ⟨put_in h.ws hx v i,by rw [putM_len];exact h.len,fun r hr=>?_⟩
 have hm:r.length∈(putM s v i x).map List.length:=List.mem_map.2 ⟨r,hr,rfl⟩
 rw [put_lens] at hm
 obtain ⟨q,hq,e⟩:=List.mem_map.1 hm
 rw [←e];exact h.row q hq
theorem Good21.puts: ∀(l:Puts) {s:List (List Int)},Good21 s→(∀q,q∈l→i32 q.2)→Good21 (putA21 s l)
 | [],_,h,_=>h
 |q::r,_,h,hq=>Good21.puts r (h.put q.1.1 q.1.2 (hq q (List.mem_cons_self ..))) fun y hy=>hq y (List.mem_cons_of_mem _ hy)
theorem vE_in{s:List (List Int)}(hs:wfS s){e:KE}(hw:wfK e):i32 (vE s e):=by
 have:=valueM_in hs hw
 unfold vE
 cases hv:valueM s e with
 |none=>simp;unfold i32;omega
 |some x=>rw [hv] at this;exact this x rfl
theorem puts_in{s:List (List Int)}(hs:wfS s){p:PR}(hw: ∀e,e∈p.e→wfK e): ∀q,q∈putsS s p→i32 q.2:=fun q hq=>by
 obtain ⟨e,he,h⟩:=List.mem_map.1 (List.of_mem_zip (a:=q.1) (b:=q.2) hq).2
 rw [←h];exact vE_in hs (hw e he)
theorem store_good(l:List KV):Good21 (storeS l):=⟨store_wf l,store_len l,fun r hr=>(store_row hr).2.1⟩
theorem putA_snoc{s:List (List Int)}{l:Puts}{i:Nat}{q:(Int×Int)×Int}(h:l[i]? =some q):putA21 s (l.take (i+1))=putM (putA21 s (l.take i)) q.1.1 q.1.2 q.2:=by
 rw [take_at h,putA_app];rfl
abbrev prA(q:Int×Int):AV:= .ag [AI q.1,AI q.2]
theorem lrun_p(s0:List (List Int))(l:List PR)(g00:Good21 s0)(hl:l.length≤20)(he: ∀p,p∈l→(∀x,x∈p.e→wfK x)∧p.e.length≤8)(ht: ∀p,p∈l→(∀t,t∈p.to→wfKl t.ix∧t.ix.length≤281474976710656)∧p.to.length≤8):
 Pure Tryz.prog gs0 34 [rowsA s0,rsA l] (rowsA (runM s0 l)):=by
 have n1:((encRl l).length:Int)=l.length:=by rw [encRl_len]
 refine Exists.elim (show∃T,T=runM s0 l from ⟨_,rfl⟩) fun T hT=>?_
 rw [←hT]
 refine p_ tt_ok Tryz.func34 97 fun w0 h0 F hgs=>?_
 refine y_ ?_
 refine A.valE 20 rfl (x':=AI (l.length:Nat)) (ai_eq n1) ?_
 refine A.keep [0,19,20,21] rfl ?_
 refine A.loopP (ι:=Nat×List (List Int)) (fun u=>(⟨[(0,rowsA u.2),(19,rsA l),(20,AI (l.length:Nat)),(21,AI (u.1:Nat))],[]⟩,[])) (fun u=>u.1≤l.length∧Good21 u.2∧runM u.2 (l.drop u.1)=T) (fun u=>l.length-u.1) (0,s0) ⟨Nat.zero_le _,g00,hT.symm⟩ rfl fun u hu ih=>?_
 clear hT g00
 obtain ⟨i,s⟩:=u
 obtain ⟨hi,hg,hT⟩:=hu
 simp only at hi hg hT ih⊢
 refine y_ ?_
 refine k_ (fun hc=>?_) fun hc=>?_
 rotate_left
 ·have hil:i=l.length:=by
   have: ¬((i:Int)<(l.length:Nat)):=of_decide_eq_false hc
   omega
  rw [hil,List.drop_length,runM] at hT
  clear hc ih
  refine y_ ?_
  refine R_ ?_
  rw [hT];exact .refl
 have hci:i<l.length:=Int.ofNat_lt.1 (of_decide_eq_true hc)
 clear hc
 refine Exists.elim (at_exN (l:=l) (i:=i) hci) fun p hx=>?_
 have hpm:=List.mem_of_getElem? hx
 obtain ⟨pe,pel⟩:=he p hpm
 obtain ⟨pt,ptl⟩:=ht p hpm
 have hd:l.drop i=p::l.drop (i+1):=by rw [List.drop_eq_getElem_cons hci,(List.getElem?_eq_some_iff.1 hx).2]
 rw [hd,runM] at hT
 have n2:((encKl p.e).length:Int)=p.e.length:=by rw [encKl_len]
 have n3:((p.to.map encPl).length:Int)=p.to.length:=by rw [List.length_map]
 refine y_ ?_
 refine i_ rfl (encRl_at hx) (encR_eq p) ?_
 refine A.b rfl fun b6=>?_
 refine y_ ?_
 refine A.emptyRow 7 1 rfl fun z0=>?_
 refine A.valE 27 rfl (x':=AI (p.e.length:Nat)) (ai_eq n2) ?_
 refine A.keep [0,6,7,19,20,21,26,27,28] rfl ?_
 refine A.loopP (ι:=Nat×Value) (fun u=>(⟨[(0,rowsA s),(6,PT b6),(7, .ms u.2 1 u.1),(19,rsA l),(20,AI (l.length:Nat)),(21,AI (i:Nat)),(26,kesA p.e),(27,AI (p.e.length:Nat)),(28,AI (u.1:Nat))],[]⟩,[.row 1 u.2 (((p.e.take u.1).map (vE s)).map AI32), .box b6 (cellsR p)])) (fun u=>u.1≤p.e.length∧ ∀x,x∈p.e.take u.1→(valueM s x).isSome=true) (fun u=>p.e.length-u.1) (0,z0) ⟨Nat.zero_le _,fun x hx=>by rw [List.take_zero] at hx;cases hx⟩ rfl fun u hu ih1=>?_
 obtain ⟨a,z⟩:=u
 obtain ⟨ha,hva⟩:=hu
 simp only at ha hva ih1⊢
 refine y_ ?_
 refine k_ (fun hc=>?_) fun hc=>?_
 ·have hca:a<p.e.length:=Int.ofNat_lt.1 (of_decide_eq_true hc)
  clear hc ih
  refine Exists.elim (at_exN (l:=p.e) (i:=a) hca) fun e hea=>?_
  have hem:=List.mem_of_getElem? hea
  have hvp:=Value_p s hg.ws e (pe e hem)
  rw [encK_eq] at hvp
  have etk:((p.e.take (a+1)).map (vE s)).map AI32=((p.e.take a).map (vE s)).map AI32++[AI32 (vE s e)]:=by rw [take_at hea];simp
  have elen:(((p.e.take a).map (vE s)).map AI32).length=a:=by rw [List.length_map,List.length_map,List.length_take];omega
  cases hv:valueM s e with
  |none=>
   have hno:okS s p=false:=by
    rw [okS,Bool.and_eq_false_iff]
    exact .inl (List.all_eq_false.2 ⟨e,hem,by rw [hv];simp⟩)
   rw [hno,if_neg (by simp)] at hT
   rw [hv] at hvp
   refine y_ ?_
   refine i_ rfl (encKl_at hea) (encK_eq e) ?_
   refine A.b rfl fun b9=>?_
   refine y_ ?_
   refine c_ hvp ?_
   refine R_ ?_
   rw [←hT];exact .refl
  |some x=>
   rw [hv] at hvp
   have hvx:vE s e=x:=by unfold vE;rw [hv];rfl
   rw [hvx] at etk
   refine y_ ?_
   refine i_ rfl (encKl_at hea) (encK_eq e) ?_
   refine A.b rfl fun b9=>?_
   refine y_ ?_
   refine n_ hvp ?_
   refine t_ fun bl=>?_
   refine A.appendRowE rfl rfl rfl rfl rfl rfl rfl rfl rfl rfl rfl rfl rfl rfl (by show ((((p.e.take a).map (vE s)).map AI32).length+1)*1≤_;rw [elen];omega) (by show ((((p.e.take a).map (vE s)).map AI32).length+1)*1*4≤_;rw [elen];omega) fun z2=>?_
   refine y_ ?_
   refine l_ (Λ':=[.row 1 z2 _, .box b6 (cellsR p)]) ?_
   refine A.valE 7 rfl (x':= .ms z2 1 (a+1)) (by rw [elen];rfl) ?_
   refine A.entsEq (Λ':=[.row 1 z2 (((p.e.take (a+1)).map (vE s)).map AI32), .box b6 (cellsR p)]) (by rw [etk];rfl) ?_
   refine A.valE 28 rfl (x':=AI ((a+1:Nat):Int)) (inc_eq a (by omega)) ?_
   refine u_ (ih1 (a+1,z2) ⟨by show a+1≤_;omega,fun y hy=>by
    rw [take_at hea] at hy
    rcases List.mem_append.1 hy with hy|hy
    ·exact hva y hy
    ·rw [List.mem_singleton.1 hy,hv];rfl⟩ (by show p.e.length-(a+1)<p.e.length-a;omega))
 have hal:a=p.e.length:=by
  have: ¬((a:Int)<(p.e.length:Nat)):=of_decide_eq_false hc
  omega
 rw [hal,List.take_length] at hva
 clear hc ih1 ha
 refine A.valE 7 rfl (x':= .ms z 1 p.e.length) (by rw [hal]) ?_
 refine A.entsEq (Λ':=[.row 1 z ((p.e.map (vE s)).map AI32), .box b6 (cellsR p)]) (by rw [hal,List.take_length]) ?_
 clear hal
 refine A.freezeRow 7 rfl ?_
 refine y_ ?_
 refine A.emptyRow 12 2 rfl fun z0=>?_
 refine A.valE 48 rfl (x':=AI (p.to.length:Nat)) (ai_eq n3) ?_
 refine A.keep [0,7,12,19,20,21,47,48,49] rfl ?_
 refine l_ (Λ':=[.row 2 z0 []]) ?_
 refine A.loopP (ι:=Nat×Value) (fun u=>(⟨[(0,rowsA s),(7, .sl 1 ((p.e.map (vE s)).map AI32) none),(12, .ms u.2 2 u.1),(19,rsA l),(20,AI (l.length:Nat)),(21,AI (i:Nat)),(47,plsA p.to),(48,AI (p.to.length:Nat)),(49,AI (u.1:Nat))],[]⟩,[.row 2 u.2 (((p.to.take u.1).map (pT s)).map prA)])) (fun u=>u.1≤p.to.length∧ ∀t,t∈p.to.take u.1→(placeM s t.v t.ix).isSome=true) (fun u=>p.to.length-u.1) (0,z0) ⟨Nat.zero_le _,fun x hx=>by rw [List.take_zero] at hx;cases hx⟩ rfl fun u hu ih2=>?_
 clear z
 obtain ⟨a,z⟩:=u
 obtain ⟨ha,hpa⟩:=hu
 simp only at ha hpa ih2⊢
 refine y_ ?_
 refine k_ (fun hc=>?_) fun hc=>?_
 ·have hca:a<p.to.length:=Int.ofNat_lt.1 (of_decide_eq_true hc)
  clear hc ih
  refine Exists.elim (at_exN (l:=p.to) (i:=a) hca) fun t hta=>?_
  have htm:=List.mem_of_getElem? hta
  have hpp:=Place_p s hg.ws t.v t.ix (pt t htm).1 (pt t htm).2
  have etk:((p.to.take (a+1)).map (pT s)).map prA=((p.to.take a).map (pT s)).map prA++[prA (pT s t)]:=by rw [take_at hta];simp
  have elen:(((p.to.take a).map (pT s)).map prA).length=a:=by rw [List.length_map,List.length_map,List.length_take];omega
  cases hv:placeM s t.v t.ix with
  |none=>
   have hno:okS s p=false:=by
    rw [okS,Bool.and_eq_false_iff]
    exact .inr (List.all_eq_false.2 ⟨t,htm,by rw [hv];simp⟩)
   rw [hno,if_neg (by simp)] at hT
   rw [hv] at hpp
   refine y_ ?_
   refine i_ rfl (map_at hta) rfl ?_
   refine A.b rfl fun b14=>?_
   refine y_ ?_
   refine c_ hpp ?_
   refine R_ ?_
   rw [←hT];exact .refl
  |some x=>
   obtain ⟨x1,x2⟩:=x
   rw [hv] at hpp
   have hvx:pT s t=(x1,x2):=by unfold pT;rw [hv];rfl
   rw [hvx] at etk
   refine y_ ?_
   refine i_ rfl (map_at hta) rfl ?_
   refine A.b rfl fun b14=>?_
   refine y_ ?_
   refine n_ hpp ?_
   refine t_ fun bl=>?_
   refine A.appendRowE rfl rfl rfl rfl rfl rfl rfl rfl rfl rfl rfl rfl rfl rfl (by show ((((p.to.take a).map (pT s)).map prA).length+1)*2≤_;rw [elen];omega) (by show ((((p.to.take a).map (pT s)).map prA).length+1)*2*16≤_;rw [elen];omega) fun z2=>?_
   refine y_ ?_
   refine l_ (Λ':=[.row 2 z2 _]) ?_
   refine A.valE 12 rfl (x':= .ms z2 2 (a+1)) (by rw [elen];rfl) ?_
   refine A.entsEq (Λ':=[.row 2 z2 (((p.to.take (a+1)).map (pT s)).map prA)]) (by rw [etk];rfl) ?_
   refine A.valE 49 rfl (x':=AI ((a+1:Nat):Int)) (inc_eq a (by omega)) ?_
   refine u_ (ih2 (a+1,z2) ⟨by show a+1≤_;omega,fun y hy=>by
    rw [take_at hta] at hy
    rcases List.mem_append.1 hy with hy|hy
    ·exact hpa y hy
    ·rw [List.mem_singleton.1 hy,hv];rfl⟩ (by show p.to.length-(a+1)<p.to.length-a;omega))
 have hal:a=p.to.length:=by
  have: ¬((a:Int)<(p.to.length:Nat)):=of_decide_eq_false hc
  omega
 rw [hal,List.take_length] at hpa
 clear hc ih2 ha
 refine A.valE 12 rfl (x':= .ms z 2 p.to.length) (by rw [hal]) ?_
 refine A.entsEq (Λ':=[.row 2 z ((p.to.map (pT s)).map prA)]) (by rw [hal,List.take_length]) ?_
 clear hal
 have hok:okS s p=true:=by
  rw [okS,Bool.and_eq_true,List.all_eq_true,List.all_eq_true]
  exact ⟨hva,hpa⟩
 rw [hok,if_pos rfl] at hT
 have hpin:=puts_in hg.ws pe
 refine Exists.elim (show∃vs,vs=p.e.map (vE s) from ⟨_,rfl⟩) fun vs hvs=>?_
 refine Exists.elim (show∃ps,ps=p.to.map (pT s) from ⟨_,rfl⟩) fun ps hps=>?_
 refine Exists.elim (show∃q,q=ps.zip vs from ⟨_,rfl⟩) fun q hq=>?_
 have hqe:putsS s p=q:=by rw [hq,hvs,hps];rfl
 rw [hqe] at hT hpin
 have hvl:vs.length=p.e.length:=by rw [hvs,List.length_map]
 have hpl:ps.length=p.to.length:=by rw [hps,List.length_map]
 have hql:q.length=min ps.length vs.length:=by rw [hq,List.length_zip]
 refine A.valE 7 rfl (x':= .sl 1 (vs.map AI32) none) (by rw [hvs]) ?_
 refine A.valE 12 rfl (x':= .ms z 2 ps.length) (by rw [hpl]) ?_
 refine A.entsEq (Λ':=[.row 2 z (ps.map prA)]) (by rw [hps]) ?_
 clear hvs hps hqe
 refine A.freezeRow 12 rfl ?_
 refine y_ ?_
 refine A.valE 74 rfl (x':=AI (q.length:Nat)) (ai_eq (by rw [hql,List.length_map,List.length_map];omega)) ?_
 refine A.keep [0,7,12,19,20,21,74,75] rfl ?_
 refine A.loopP (ι:=Nat) (fun j=>(⟨[(0,rowsA (putA21 s (q.take j))),(7, .sl 1 (vs.map AI32) none),(12, .sl 2 (ps.map prA) none),(19,rsA l),(20,AI (l.length:Nat)),(21,AI (i:Nat)),(74,AI (q.length:Nat)),(75,AI (j:Nat))],[]⟩,[])) (fun j=>j≤q.length) (fun j=>q.length-j) 0 (Nat.zero_le _) rfl fun j hj ih3=>?_
 simp only at ih3⊢
 refine y_ ?_
 refine k_ (fun hc=>?_) fun hc=>?_
 ·have hcj:j<q.length:=Int.ofNat_lt.1 (of_decide_eq_true hc)
  clear hc ih
  refine Exists.elim (at_exN (l:=vs) (i:=j) (by omega)) fun x hxj=>?_
  refine Exists.elim (at_exN (l:=ps) (i:=j) (by omega)) fun y hyj=>?_
  have hzj:q[j]? =some (y,x):=by rw [hq,List.getElem?_zip_eq_some];exact ⟨hyj,hxj⟩
  have hgj:=Good21.puts (q.take j) hg fun w hw=>hpin w (List.mem_of_mem_take hw)
  have hpj:=Put_p (putA21 s (q.take j)) y.1 y.2 x (by have:=hgj.len;omega) fun r hr=>by have:=hgj.row r hr;omega
  rw [←putA_snoc hzj] at hpj
  refine y_ ?_
  refine d_ 16 [0,1,2,3,4,5,6,7,8,9,10,11,12,13,14,15] [(15,rowsA (putA21 s (q.take (j+1))))] ?_
  refine WA.x rfl (by omega) (map_at hyj) rfl rfl ?_
  refine WA.indexPe rfl rfl rfl rfl rfl rfl rfl rfl rfl (by decide) (by decide) rfl rfl rfl ?_
  refine w_ ?_
  refine WA.x rfl (by omega) (map_at hyj) rfl rfl ?_
  refine WA.indexPe rfl rfl rfl rfl rfl rfl rfl rfl rfl (by decide) (by decide) rfl rfl rfl ?_
  refine w_ ?_
  refine iw_ rfl (map_at hxj) rfl ?_
  refine WA.c rfl rfl hpj (.sub .refl) ?_
  refine z_ ?_
  refine A.valE 75 rfl (x':=AI ((j+1:Nat):Int)) (inc_eq j (by omega)) ?_
  refine u_ (ih3 (j+1) (by show j+1≤_;omega) (by show q.length-(j+1)<q.length-j;omega))
 have hjl:j=q.length:=by
  have: ¬((j:Int)<(q.length:Nat)):=of_decide_eq_false hc
  omega
 clear hc ih3
 refine e_ 0 rfl (x':=rowsA (putA21 s q)) (by rw [hjl,List.take_length]) ?_
 refine A.valE 21 rfl (x':=AI ((i+1:Nat):Int)) (inc_eq i (by omega)) ?_
 refine u_ (ih (i+1,putA21 s q) ⟨by show i+1≤_;omega,Good21.puts q hg hpin,hT⟩ (by show l.length-(i+1)<l.length-i;omega))
theorem encRl_take(l:List PR)(n:Nat):encRl (l.take n)=(encRl l).take n:=by rw [encRl_map,encRl_map,List.map_take]
theorem Good21.run: ∀(l:List PR) {s:List (List Int)},Good21 s→(∀p,p∈l→ ∀x,x∈p.e→wfK x)→Good21 (runM s l)
 | [],_,h,_=>by rw [runM];exact h
 |p::r,s,h,hw=>by
  rw [runM]
  split
  ·exact Good21.run r (h.puts _ (puts_in h.ws (hw p (List.mem_cons_self ..)))) fun q hq=>hw q (List.mem_cons_of_mem _ hq)
  ·exact h
theorem Good21.short{s:List (List Int)}(h:Good21 s):short s:=⟨by have:=h.len;omega,fun r hr=>by have:=h.row r hr;omega⟩
abbrev kSw(vs:List KV)(A B:List PR):KN:=kerN vs (two (manyR 9 A) (manyR 9 B))
theorem sw_ok{vs:List KV}{A B:List PR}(hw:WfN (kSw vs A B))(hm:mayK (kSw vs A B)=true): ∀p,p∈A∨p∈B→((∀x,x∈p.e→wfK x)∧p.e.length≤8)∧((∀t,t∈p.to→wfKl t.ix∧t.ix.length≤281474976710656)∧p.to.length≤8):=by
 intro p hp
 have hr:=root_ok hw hm
 have ok:ClOk vs 3 p:=by
  rcases hp with hp|hp
  ·exact (hr.l (manyR 9 A) (List.mem_cons_self ..)).l p hp
  ·exact (hr.l (manyR 9 B) (List.mem_cons_of_mem _ (List.mem_cons_self ..))).l p hp
 have hn:=ok.node
 have hwf:=wfR_all ok.wf
 refine ⟨⟨hwf.e,hn.el⟩,fun t ht=>?_,hn.tl⟩
 obtain ⟨kd,hk⟩:=hn.to t ht
 have h1:=hwf.to t ht
 have h2:=(placeB_ok hk h1).1.1
 obtain ⟨tv,tix⟩:=t
 exact ⟨h1,by simp only at h2⊢;omega⟩
theorem swaps_law(vs:List KV)(a b:List PR)(val:List Int)(hvs:vs.length≤281474976710656)(ha: ∀x,x∈a→wfR x)(hal:a.length≤281474976710656)(hb: ∀x,x∈b→wfR x)(hbl:b.length≤281474976710656)(hv: ∀x,x∈val→i32 x)(hvl:val.length≤35184372088832):
 Pure Tryz.prog gs0 9 [varsA vs,rsA a,rsA b,rowA val] (AB true):=by
 have haw:=awake21
 have na:((encRl a).length:Int)=a.length:=by rw [encRl_len]
 have nb:((encRl b).length:Int)=b.length:=by rw [encRl_len]
 have nv:((val.map AI32).length:Int)=val.length:=by rw [List.length_map]
 have g1:=lassign_p (a.take (min a.length 20)) (by rw [List.length_take];omega)
 have g2:=lassign_p (b.take (min b.length 20)) (by rw [List.length_take];omega)
 have hAw: ∀x,x∈asgM (a.take (min a.length 20))→wfR x:=fun x hx=>ha x (List.mem_of_mem_take (List.mem_filter.1 (show x∈List.filter _ _ from hx)).1)
 have hBw: ∀x,x∈asgM (b.take (min b.length 20))→wfR x:=fun x hx=>hb x (List.mem_of_mem_take (List.mem_filter.1 (show x∈List.filter _ _ from hx)).1)
 have hA20:(asgM (a.take (min a.length 20))).length≤20:=Nat.le_trans (List.length_filter_le _ _) (by rw [List.length_take];omega)
 have hB20:(asgM (b.take (min b.length 20))).length≤20:=Nat.le_trans (List.length_filter_le _ _) (by rw [List.length_take];omega)
 generalize hAA:asgM (a.take (min a.length 20))=As at g1 hAw hA20
 generalize hBB:asgM (b.take (min b.length 20))=Bs at g2 hBw hB20
 clear hAA hBB
 have m1:=lmany_p 9 As
 have m2:=lmany_p 9 Bs
 have m3:=lmany_p 10 [manyR 9 As,manyR 9 Bs]
 have m4:=lker_p vs (two (manyR 9 As) (manyR 9 Bs))
 have hw:WfN (kSw vs As Bs):=⟨hvs,by show 3≤_;decide,by simp,wf_many (fun x hx=>by
  rcases List.mem_cons.1 hx with rfl|hx
  ·exact wf_many hAw (by omega)
  ·rw [List.mem_singleton.1 hx];exact wf_many hBw (by omega)) (by simp)⟩
 have hck:=uCheck_p (kSw vs As Bs) hw
 have hst:=rStore_pN vs [1,2,0] (two (manyR 9 As) (manyR 9 Bs)) [] hvs
 by_cases hm:mayK (kSw vs As Bs)=true
 case neg=>
  rw [show checkM (kSw vs As Bs)= .tp [encC zeroC,AB false,AI 2] by unfold checkM allM errM;rw [if_neg hm,if_neg hm]] at hck
  refine p_ tt_ok Tryz.func9 102 fun w0 h0 F hgs=>?_
  (refine y_ ?_;refine d_ 11 [0,1,2,3,4,6,7,8,9,10,5] [(5,rsA As)] ?_;refine WA.valE 20 rfl (x':=AI (min a.length 20:Nat)) (ai_eq (by rw [na];omega)) ?_;refine WA.slice (ys:=encRl (a.take (min a.length 20))) rfl rfl rfl rfl rfl rfl rfl rfl rfl rfl (by decide) (by omega) (by rw [encRl_len];omega) (by rw [encRl_take];simp) rfl ?_;refine w_ ?_;refine WA.valE 26 rfl (x':=AI (min b.length 20:Nat)) (ai_eq (by rw [nb];omega)) ?_;refine WA.slice (ys:=encRl (b.take (min b.length 20))) rfl rfl rfl rfl rfl rfl rfl rfl rfl rfl (by decide) (by omega) (by rw [encRl_len];omega) (by rw [encRl_take];simp) rfl ?_;refine WA.c rfl rfl g1 (.sub .refl) ?_;refine WA.nil (l:=[]) rfl ?_;refine c_ g2 ?_;refine c_ m1 ?_;refine n_ m2 ?_;refine t_ fun bl=>?_;refine n_ m3 ?_;refine A.valE 35 rfl (x':=cellsR (two (manyR 9 As) (manyR 9 Bs))) (encR_eq _) ?_;refine n_ m4 ?_;(refine b_ fun bx=>?_;refine y_ ?_);refine n_ hck ?_;(refine b_ fun bx=>?_;refine y_ ?_))
  exact cr_ haw
 cases hA:allM (kSw vs As Bs) with
 |cons x r=>
  rw [show checkM (kSw vs As Bs)= .tp [encC x,AB true,AI 0] by unfold checkM;rw [hA]] at hck
  refine p_ tt_ok Tryz.func9 102 fun w0 h0 F hgs=>?_
  (refine y_ ?_;refine d_ 11 [0,1,2,3,4,6,7,8,9,10,5] [(5,rsA As)] ?_;refine WA.valE 20 rfl (x':=AI (min a.length 20:Nat)) (ai_eq (by rw [na];omega)) ?_;refine WA.slice (ys:=encRl (a.take (min a.length 20))) rfl rfl rfl rfl rfl rfl rfl rfl rfl rfl (by decide) (by omega) (by rw [encRl_len];omega) (by rw [encRl_take];simp) rfl ?_;refine w_ ?_;refine WA.valE 26 rfl (x':=AI (min b.length 20:Nat)) (ai_eq (by rw [nb];omega)) ?_;refine WA.slice (ys:=encRl (b.take (min b.length 20))) rfl rfl rfl rfl rfl rfl rfl rfl rfl rfl (by decide) (by omega) (by rw [encRl_len];omega) (by rw [encRl_take];simp) rfl ?_;refine WA.c rfl rfl g1 (.sub .refl) ?_;refine WA.nil (l:=[]) rfl ?_;refine c_ g2 ?_;refine c_ m1 ?_;refine n_ m2 ?_;refine t_ fun bl=>?_;refine n_ m3 ?_;refine A.valE 35 rfl (x':=cellsR (two (manyR 9 As) (manyR 9 Bs))) (encR_eq _) ?_;refine n_ m4 ?_;(refine b_ fun bx=>?_;refine y_ ?_);refine n_ hck ?_;(refine b_ fun bx=>?_;refine y_ ?_))
  exact cr_ haw
 |nil=>
 rw [show checkM (kSw vs As Bs)= .tp [encC zeroC,AB false,AI 0] by unfold checkM errM;rw [hA,if_pos hm]] at hck
 have hok:=sw_ok hw hm
 have hbn:betM (usesM vs (manyR 9 As)) (usesM vs (manyR 9 Bs)) [] 0 1=[]:=by
  unfold allM at hA
  rw [if_pos hm] at hA
  have h2:clR vs [] (two (manyR 9 As) (manyR 9 Bs))=[]:=hA
  rw [clR_two] at h2
  exact (List.append_eq_nil_iff.1 h2).1
 obtain ⟨o1,o2,o3⟩:=bet_none hbn
 have hsw: ∀s,runM (runM s As) Bs=runM (runM s Bs) As:=swap_plain (vs:=vs) o1 o2 o3 (seq_seen vs As) (seq_seen vs Bs)
 have heA: ∀p,p∈As→ ∀x,x∈p.e→wfK x:=fun p hp=>(hok p (.inl hp)).1.1
 have heB: ∀p,p∈Bs→ ∀x,x∈p.e→wfK x:=fun p hp=>(hok p (.inr hp)).1.1
 have hrA: ∀s,Good21 s→Pure Tryz.prog gs0 34 [rowsA s,rsA As] (rowsA (runM s As)):=fun s hs=>lrun_p s As hs hA20 (fun p hp=>(hok p (.inl hp)).1) (fun p hp=>(hok p (.inl hp)).2)
 have hrB: ∀s,Good21 s→Pure Tryz.prog gs0 34 [rowsA s,rsA Bs] (rowsA (runM s Bs)):=fun s hs=>lrun_p s Bs hs hB20 (fun p hp=>(hok p (.inr hp)).1) (fun p hp=>(hok p (.inr hp)).2)
 have hsg:=store_good vs
 have hsl:(storeS vs).length≤vs.length:=by
  unfold storeS
  split
  ·rw [storeM,List.length_map];exact Nat.le_refl _
  ·exact Nat.zero_le _
 refine Exists.elim (show∃st,st=storeS vs from ⟨_,rfl⟩) fun st hste=>?_
 rw [←hste] at hst hsg hsl
 clear hste hbn o1 o2 o3 hok hA
 refine p_ tt_ok Tryz.func9 102 fun w0 h0 F hgs=>?_
 (refine y_ ?_;refine d_ 11 [0,1,2,3,4,6,7,8,9,10,5] [(5,rsA As)] ?_;refine WA.valE 20 rfl (x':=AI (min a.length 20:Nat)) (ai_eq (by rw [na];omega)) ?_;refine WA.slice (ys:=encRl (a.take (min a.length 20))) rfl rfl rfl rfl rfl rfl rfl rfl rfl rfl (by decide) (by omega) (by rw [encRl_len];omega) (by rw [encRl_take];simp) rfl ?_;refine w_ ?_;refine WA.valE 26 rfl (x':=AI (min b.length 20:Nat)) (ai_eq (by rw [nb];omega)) ?_;refine WA.slice (ys:=encRl (b.take (min b.length 20))) rfl rfl rfl rfl rfl rfl rfl rfl rfl rfl (by decide) (by omega) (by rw [encRl_len];omega) (by rw [encRl_take];simp) rfl ?_;refine WA.c rfl rfl g1 (.sub .refl) ?_;refine WA.nil (l:=[]) rfl ?_;refine c_ g2 ?_;refine c_ m1 ?_;refine n_ m2 ?_;refine t_ fun bl=>?_;refine n_ m3 ?_;refine A.valE 35 rfl (x':=cellsR (two (manyR 9 As) (manyR 9 Bs))) (encR_eq _) ?_;refine n_ m4 ?_;(refine b_ fun bx=>?_;refine y_ ?_);refine n_ hck ?_;(refine b_ fun bx=>?_;refine y_ ?_))
 refine c_ hst ?_
 refine A.valE 52 rfl (x':=AI (st.length:Nat)) (ai_eq (by rw [List.length_map])) ?_
 refine A.keep [0,1,2,3,13,14,52,53] rfl ?_
 refine A.less (Λ':=[]) (List.nil_sublist _) ?_
 refine A.loopP (ι:=Nat×Nat×List (List Int)) (fun u=>(⟨[(0,varsA vs),(1,rsA As),(2,rsA Bs),(3,rowA val),(13,rowsA u.2.2),(14,AI (u.2.1:Nat)),(52,AI (st.length:Nat)),(53,AI (u.1:Nat))],[]⟩,[])) (fun u=>u.1≤st.length∧u.2.1≤val.length∧Good21 u.2.2∧u.2.2.length=st.length) (fun u=>st.length-u.1) (0,0,st) ⟨Nat.zero_le _,Nat.zero_le _,hsg,rfl⟩ rfl fun u hu ih=>?_
 obtain ⟨v,at_,s⟩:=u
 obtain ⟨hv1,hat,hg,hsn⟩:=hu
 simp only at hv1 hat hg hsn ih⊢
 refine y_ ?_
 refine k_ (fun hc=>?_) fun hc=>?_
 rotate_left
 ·clear hc ih
  have q1:=hrA s hg
  have q2:=hrB (runM s As) (hg.run As heA)
  have q3:=hrB s hg
  have q4:=hrA (runM s Bs) (hg.run Bs heB)
  rw [←hsw s] at q4
  have q5:=rSame_p (runM (runM s As) Bs) (runM (runM s As) Bs) ((hg.run As heA).run Bs heB).short
  rw [same_refl] at q5
  refine y_ ?_
  refine c_ q1 ?_
  refine c_ q2 ?_
  refine c_ q3 ?_
  refine n_ q4 ?_
  refine c_ q5 ?_
  exact cr_ haw
 have hcv:v<st.length:=Int.ofNat_lt.1 (of_decide_eq_true hc)
 clear hc
 refine Exists.elim (at_exN (l:=s) (i:=v) (by omega)) fun r hr=>?_
 refine Exists.elim (at_exN (l:=vs) (i:=v) (by omega)) fun kv hkv=>?_
 have hra:(s.map rowA)[v]? =some (rowA r):=by rw [List.getElem?_map,hr];rfl
 have hrl:=hg.row r (List.mem_of_getElem? hr)
 refine y_ ?_
 refine i_ rfl hra rfl ?_
 refine A.valE 60 rfl (x':=AI (r.length:Nat)) (ai_eq (by rw [List.length_map])) ?_
 refine A.keep [0,1,2,3,13,14,15,52,53,60,61] rfl ?_
 refine A.loopP (ι:=Nat×Nat×List (List Int)) (fun u=>(⟨[(0,varsA vs),(1,rsA As),(2,rsA Bs),(3,rowA val),(13,rowsA u.2.2),(14,AI (u.2.1:Nat)),(15,AI (v:Nat)),(52,AI (st.length:Nat)),(53,AI (v:Nat)),(60,AI (r.length:Nat)),(61,AI (u.1:Nat))],[]⟩,[])) (fun u=>u.1≤r.length∧u.2.1≤val.length∧Good21 u.2.2∧u.2.2.length=st.length) (fun u=>r.length-u.1) (0,at_,s) ⟨Nat.zero_le _,hat,hg,hsn⟩ rfl fun u hu ih2=>?_
 clear hat hg hsn hr hra
 obtain ⟨i,at_,s⟩:=u
 obtain ⟨hi1,hat,hg,hsn⟩:=hu
 simp only at hi1 hat hg hsn ih2⊢
 refine y_ ?_
 refine k_ (fun hc=>?_) fun hc=>?_
 rotate_left
 ·clear hc ih2
  refine y_ ?_
  refine A.valE 53 rfl (x':=AI ((v+1:Nat):Int)) (inc_eq v (by have:=hsg.len;omega)) ?_
  refine u_ (ih (v+1,at_,s) ⟨by show v+1≤_;omega,hat,hg,hsn⟩ (by show st.length-(v+1)<st.length-v;omega))
 have hci:i<r.length:=Int.ofNat_lt.1 (of_decide_eq_true hc)
 clear hc ih
 by_cases h1:at_<val.length
 case neg=>
  refine y_ ?_
  refine e_ 68 rfl (x':=AB false) (ab_eq (by simpa using h1)) ?_
  refine A.valE 61 rfl (x':=AI ((i+1:Nat):Int)) (inc_eq i (by omega)) ?_
  refine u_ (ih2 (i+1,at_,s) ⟨by show i+1≤_;omega,hat,hg,hsn⟩ (by show r.length-(i+1)<r.length-i;omega))
 refine Exists.elim (at_exN (l:=val) (i:=at_) h1) fun x hx=>?_
 have hxa:(val.map AI32)[at_]? =some (AI32 x):=by rw [List.getElem?_map,hx];rfl
 have hkva:(vs.map encV)[v]? =some (encV kv):=by rw [List.getElem?_map,hkv];rfl
 by_cases h2:kv.kind=1
 case neg=>
  refine y_ ?_
  refine e_ 68 rfl (x':=AB true) (ab_eq (by simpa using h1)) ?_
  refine i_ rfl hkva rfl ?_
  refine e_ 75 rfl (x':=AB false) (ab_eq (by simpa using h2)) ?_
  refine A.valE 61 rfl (x':=AI ((i+1:Nat):Int)) (inc_eq i (by omega)) ?_
  refine u_ (ih2 (i+1,at_,s) ⟨by show i+1≤_;omega,hat,hg,hsn⟩ (by show r.length-(i+1)<r.length-i;omega))
 have hpt:=rPut_p s v i x (by have:=hg.len;omega) (fun q hq=>by have:=hg.row q hq;omega)
 refine y_ ?_
 refine e_ 68 rfl (x':=AB true) (ab_eq (by simpa using h1)) ?_
 refine i_ rfl hkva rfl ?_
 refine e_ 75 rfl (x':=AB true) (ab_eq (by simpa using h2)) ?_
 refine i_ rfl hxa rfl ?_
 refine c_ hpt ?_
 refine A.valE 14 rfl (x':=AI ((at_+1:Nat):Int)) (inc_eq at_ (by omega)) ?_
 refine A.valE 61 rfl (x':=AI ((i+1:Nat):Int)) (inc_eq i (by omega)) ?_
 refine u_ (ih2 (i+1,at_+1,putM s v i x) ⟨by show i+1≤_;omega,by show at_+1≤_;omega,hg.put v i (hv x (List.mem_of_getElem? hx)),by rw [putM_len];exact hsn⟩ (by show r.length-(i+1)<r.length-i;omega))
end Go.Proofs.YtafcodjilcljeaaGreat
