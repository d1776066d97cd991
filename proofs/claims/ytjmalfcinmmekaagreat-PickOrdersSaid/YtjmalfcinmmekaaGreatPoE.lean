/-
  Part 5 of the base of the proofs: a logic of our own over the calculus, the contracts of the functions
-/
import Derived.Test.YtjmalfcinmmekaaGreatPoD
set_option linter.unusedVariables false
namespace Go.FL
open Go Go.RowKit
section
variable {P:Program} {C:Cx} {X:Snap} {o:Oper} {ops:Array Oper} {Q:Exit→Env→Ac→Prop} {env env':Env} {H H':Ac} {a:Act} {w w':World} {I I':Nat→Prop} {μ μ':List Nat} {O O':Nat→Option Loc}
 {K:Env→Ac→Prop} {k:Nat} {l:List Oper}
theorem Vq {p:Pl} {e:TypeId} {xs:List DV} (hp:AG env H p=.own e xs) (v:AV) : AG (GR p v env) (HA p v H) p=v:=by
 cases p with
 | t n=>simp [AG,GR,get]
 | c id off =>
  simp only [AG] at hp
  cases hH:H[id]? with
  | none=>rw [hH] at hp;cases hp
  | some ob =>
   cases ob with
   | box cs =>
    rw [hH] at hp
    replace hp:cs.getD off .un=.own e xs:=hp
    have hlt:off<cs.length:=by
     rw [lD] at hp
     cases hx:cs[off]? with
     | none=>simp [hx] at hp
     | some y=>exact (lS.1 hx).1
    have hlt':id<H.length:=(lS.1 hH).1
    have h2:HA (.c id off) v H=H.set id (.box (cs.set off v)):=by simp [HA,D8,hH]
    have h3:(H.set id (.box (cs.set off v)))[id]?=some (.box (cs.set off v)):=by simp [hlt']
    rw [h2]
    simp only [AG,h3]
    show (cs.set off v).getD off .un=v
    rw [lD,List.getElem?_set_self hlt];rfl
theorem TP (p:Pl) (v v':AV) (H:Ac) : HA p v (HA p v' H)=HA p v H:=by
 cases p with
 | t n=>rfl
 | c id off =>
  simp only [HA,D8]
  cases hH:H[id]? with
  | none=>simp [hH]
  | some ob =>
   cases ob with
   | box cs =>
    have hlt':id<H.length:=(lS.1 hH).1
    simp [hlt']
theorem T7 (p:Pl) (v v':AV) (env:Env) (s:Nat) : get (GR p v env) s=get (GR p v (GR p v' env)) s:=by
 cases p with
 | t n =>
  simp only [GR,get]
  split<;>rfl
 | c id off=>rfl
theorem V9 {p:Pl} {v:AV} (hp:AG env H p=v) (hv:v≠.un) : HA p v H=H:=by
 cases p with
 | t n=>rfl
 | c id off =>
  simp only [AG] at hp
  cases hH:H[id]? with
  | none=>rw [hH] at hp;exact absurd hp.symm hv
  | some ob =>
   cases ob with
   | box cs =>
    rw [hH] at hp
    replace hp:cs.getD off .un=v:=hp
    simp only [HA,D8,hH]
    have:cs.set off v=cs:=by
     refine List.set_same _ _ ?_
     rw [lD] at hp
     cases hx:cs[off]? with
     | none=>simp [hx] at hp;exact absurd hp.symm hv
     | some y=>simp [hx] at hp;rw [hp]
    rw [this,List.set_same _ _ hH]
theorem Qu {p:Pl} {v:AV} (hp:AG env H p=v) (s:Nat) : get (GR p v env) s=get env s:=by
 cases p with
 | t n =>
  simp only [GR,get]
  split
  ·rename_i h;subst h;exact hp.symm
  ·rfl
 | c id off=>rfl
theorem Sim.storeA {p:Pl} {i r:Nat} {e:TypeId} {addr:Addr} (ha:a.tmps.getD r undef=.pointer (some addr)) (hn:∀ id off,p=.c id off→X.n0≤id) : ∀ (us:List Value) (k:Nat) (ds zs:List DV) (env:Env) (H:Ac) (w:World) (xs:List DV),Sim P X env H a w I μ O →
  AG env H p=.own e xs→get env r=.ep p i 0→xs[i]?=some (.ag zs)→zs.length=AA P e→k+us.length≤zs.length→RepAll w I ds us→(∀ u∈us,u.oneCell'=true) →
  ∃ w',(storeCells addr us k).run P w=.ok () w'∧Sim P X (GR p (.own e (xs.set i (.ag (zs.take k++ds++zs.drop (k+us.length))))) env) (HA p (.own e (xs.set i (.ag (zs.take k++ds++zs.drop (k+us.length))))) H) a w' I μ O
 | [],k,ds,zs,env,H,w,xs,hs,hp,hv,hx,hl,hk,hr,h1=>by
  cases hr
  have e1:xs.set i (.ag (zs.take k++[]++zs.drop (k+([]:List Value).length)))=xs:=by
   rw [List.append_nil,List.length_nil,Nat.add_zero,List.take_append_drop,List.set_same _ _ hx]
  rw [e1,V9 hp (by simp)]
  exact ⟨w,rfl,hs.same fun s=>Qu hp s⟩
 | u::us,k,ds,zs,env,H,w,xs,hs,hp,hv,hx,hl,hk,hr,h1=>by
  cases hr with
  | @cons d _ ds _ hd ht =>
   rw [List.length_cons] at hk
   have he0:Lw P env H a w μ p i 0 (.pointer (some addr)):=by
    have:=hs.envr r
    rw [hv] at this
    rwa [← ha]
   obtain ⟨e',ys,b,n,c,g1,g2,g3,g4,g5⟩:=he0
   have hye:AV.own e xs=.own e' ys:=hp.symm.trans g1
   cases hye
   simp only [Value.pointer.injEq,Option.some.injEq,Nat.add_zero] at g5
   subst g5
   have hek:Lw P env H a w μ p i k (.pointer (some ⟨b,i * AA P e+k,none⟩)):=⟨e,xs,b,n,c,g1,g2,g3,by omega,rfl⟩
   have hu:=h1 u (by simp)
   obtain ⟨b',off,q1,⟨u0,q2⟩,q3,q4⟩:=hs.storeE hp hn hek (x':=.ag (zs.set k d)) (x0:=d) hx rfl hd hu
   simp only [Value.pointer.injEq,Option.some.injEq,Addr.mk.injEq,and_true] at q1
   obtain ⟨rfl,rfl⟩:=q1
   have hIb:¬I b:=by
    obtain ⟨v,bs,m1,m2,m3,m4⟩:=hs.at_place hp
    rw [g2] at m1;cases m1
    have hc0:¬c=0:=by have:=EE m2;omega
    have hb:b∈bs:=by rw [m3];simp [Bv,hc0]
    obtain ⟨k1,k2,k3⟩:=m4 b hb
    cases p with
    | t n=>exact (hs.own b _ (k2 n rfl)).2
    | c id off=>exact (hs.own b _ ((k3 id off rfl).1 (hn id off rfl))).2
   have hst:(store ((⟨b,i * AA P e,none⟩:Addr).add k) u).run P w=.ok () (w.setCell ⟨b,i * AA P e+k,none⟩ u):=by
    have hadd:(⟨b,i * AA P e,none⟩:Addr).add k=⟨b,i * AA P e+k,none⟩:=by unfold Addr.add;split<;>simp_all
    rw [hadd,run_store P w _ u _ hu,q2]
    simp [q3]
   have hkl:k<zs.length:=by omega
   have hset:(xs.set i (.ag (zs.set k d)))[i]?=some (.ag (zs.set k d)):=by
    have:i<xs.length:=(lS.1 hx).1
    simp [this]
   have hv':get (GR p (.own e (xs.set i (.ag (zs.set k d)))) env) r=.ep p i 0:=by
    cases p with
    | t n =>
     have:n≠r:=fun h=>by
      subst h
      simp only [AG] at hp
      rw [hp] at hv;cases hv
     simp only [GR,get,if_neg this];exact hv
    | c id off=>exact hv
   obtain ⟨w2,z1,z2⟩:=Sim.storeA ha hn us (k+1) ds (zs.set k d) _ _ _ _ q4 (Vq hp _) hv' hset (by simpa using hl) (by simp;omega)
    (ht.keep (fun b' hb'=>heap_setCell_other w ⟨b,i * AA P e+k,none⟩ b' u fun e=>hIb (by rw [← (show b'=b from e)];exact hb')) fun _ h=>h) fun u hu=>h1 u (by simp [hu])
   refine ⟨w2,?_,?_⟩
   ·simp only [storeCells,Sem.run_bind,hst,Result.andThen_ok,z1]
   ·have e1:(zs.set k d).take (k+1)++ds++(zs.set k d).drop (k+1+us.length)=zs.take k++d::ds++zs.drop (k+(u::us).length):=by
     have t1:(zs.set k d).take (k+1)=zs.take k++[d]:=by
      rw [List.take_add_one,List.getElem?_set_self (by omega),List.take_set_of_le (Nat.le_refl k)];rfl
     have t2:(zs.set k d).drop (k+1+us.length)=zs.drop (k+1+us.length):=by
      rw [List.drop_set_of_lt (by omega)]
     rw [t1,t2,List.length_cons,show k+(us.length+1)=k+1+us.length by omega];simp
    rw [e1,List.set_set,TP] at z2
    exact z2.same fun s=>T7 _ _ _ _ _
theorem YX {α:Type} {F:List α→List DV} {ds zs:List DV} {us:List α} {n m:Nat} {x:α} {y:Operand} {r ty e:Nat} {p:Pl} (hset:(F us).set n (.ag ds)=F (us.set n x)) (hm:m=n) (hx:(F us)[0+n]?=some (.ag zs)) (hl:zs.length=ds.length)
  (h:RL P C ops Q (k+1) l (GR p (.own e (F (us.set m x))) env) (HA p (.own e (F (us.set m x))) H)) (hsz:AA P ty=ds.length) (hsz2:AA P e=ds.length) (h0:0<ds.length)
  (hg:grd ops env o true=true:=by rfl) (ho:o.op=.store ty (.tmp r) y:=by rfl) (hv:get env r=.ep p (0+n) 0:=by rfl) (hp:AG env H p=.own e (F us):=by rfl) (hy:lk env y=.d (.ag ds):=by rfl) (h1:ds.all DV.leaf=true:=by rfl) (hd:o.dst=none:=by rfl)
  (hn:∀ id off,p=.c id off→C.n0≤id:=by (intro _ _ h;cases h<;>decide)):RL P C ops Q k (o::l) env H:=by
 subst hm
 refine .go hg (.done (by simp [ho]) hd (fun X a w I μ O _ g2 _ hs=>?_) h)
 have hr:=hs.deep (x:=y) (v:=.ag ds) (by rw [hy];rfl)
 generalize hev:a.eval y=u at hr
 cases hr with
 | ag _ vs hr =>
  have he:=hs.envr r
  rw [hv] at he
  obtain ⟨e',ys,b,n',c,g1,g2',g3,g4,g5⟩:=he
  have hye:AV.own e (F us)=.own e' ys:=hp.symm.trans g1
  cases hye
  have hvl:vs.length=ds.length:=hr.length.symm
  obtain ⟨w',z1,z2⟩:=Sim.storeA g5 (fun id off h=>by rw [g2];exact hn id off h) vs 0 ds zs env H w (F us) hs hp hv hx (by rw [hl,hsz2]) (by omega) hr (hr.one h1)
  refine ⟨w',I,μ,O,?_,?_⟩
  ·have hx':a.eval (.tmp r)=.pointer (some ⟨b,(0+m) * AA P e+0,none⟩):=g5
   have hs':(sizeOf ty).run P w=.ok vs.length w:=by rw [hvl,← hsz];exact GC (by omega)
   have z1':(storeCells ⟨b,m * AA P e,none⟩ vs).run P w=.ok () w':=by simpa using z1
   have hsv:(storeVar ty ⟨b,(0+m) * AA P e+0,none⟩ (.agg vs.toArray)).run P w=.ok () w':=by
    simp [storeVar,hs',Value.cells,z1']
   simp only [execOp,ho,hx',hev,Instr.storeAt,Instr.sureAddr,Sem.run_bind,Sem.run_pure,Result.andThen_ok,hsv]
  ·have e1:zs.take 0++ds++zs.drop (0+vs.length)=ds:=by
    rw [Nat.zero_add,List.drop_of_length_le (by omega)];simp
   rw [e1,Nat.zero_add,hset] at z2
   exact z2
end
end Go.FL
namespace Go.FL
open Go Go.RowKit
section
variable {P:Program} {C:Cx} {X:Snap} {o:Oper} {ops:Array Oper} {Q:Exit→Env→Ac→Prop} {env env' envi:Env} {H H' H1:Ac} {a:Act} {w w':World} {I I':Nat→Prop} {μ μ':List Nat} {O O':Nat→Option Loc}
 {K:Env→Ac→Prop} {k:Nat} {l:List Oper} {av:AV}
def Mk (ops:Array Oper) (m:Nat) : Bool :=
 ((List.range ops.size).all fun i=>match ops[i]? with
  | some o=>o.after.all (fun e=>!Region.binds .any e||decide (e.on<i))&&(match o.op with|.select ..=>false|_=>true) &&
   ((List.range m).all fun j=>match ops[j]? with
     | some oj=>match oj.dst with
      | some t=>!(o.looksAt ops).contains t||(decide (j<i)&&EJ ops i j)
      | none=>false
     | none=>false)&&(decide (i<m)||o.guard.isNone)
  | none=>false)&&decide (m≤ops.size)
theorem MA {m:Nat} (h:Mk ops m=true) : m≤ops.size∧∀ (i:Nat) o,ops[i]?=some o →
  (∀ e∈o.after,Region.binds .any e=true→e.on<i)∧(∀ j,j<m→∃ oj t,ops[j]?=some oj∧oj.dst=some t∧(t∈o.looksAt ops→j<i∧EJ ops i j=true))∧(m≤i→o.guard=none):=by
 unfold Mk at h
 simp only [Bool.and_eq_true,decide_eq_true_eq] at h
 obtain ⟨h,hm⟩:=h
 refine ⟨hm,fun i o ho=>?_⟩
 have hi:i<ops.size:=(Array.getElem?_eq_some_iff.1 ho).1
 have:=List.all_eq_true.1 h i (List.mem_range.2 hi)
 rw [ho] at this
 simp only [Bool.and_eq_true] at this
 obtain ⟨⟨⟨h1,_⟩,h3⟩,h4⟩:=this
 refine ⟨fun e he hb=>?_,fun j hj=>?_,fun him=>?_⟩
 ·obtain ⟨k,hk,rfl⟩:=Array.mem_iff_getElem.1 he
  have:=Array.all_eq_true.1 h1 k hk
  rw [hb] at this
  simpa using this
 ·have:=List.all_eq_true.1 h3 j (List.mem_range.2 hj)
  split at this
  ·rename_i oj hoj
   split at this
   ·rename_i t ht
    refine ⟨oj,t,hoj,ht,fun hm=>?_⟩
    have hc:(o.looksAt ops).contains t=true:=List.contains_iff_mem.2 hm
    rw [hc] at this
    simpa using this
   ·cases this
  ·cases this
 ·rw [Bool.or_eq_true] at h4
  rcases h4 with h4|h4
  ·have:=of_decide_eq_true h4;omega
  ·simpa using h4
theorem Zc {m:Nat} {env0:Env} {tv:List (Nat×AV)} (hok:Mk ops m=true) (hlen:tv.length=m) (hone:∀ i,i<m→∃ o t v,ops[i]?=some o∧tv[i]?=some (t,v)∧NJ P C ops H env0 (tv.take i).reverse o t v)
  (hdist:∀ (i j t:Nat) v u,tv[i]?=some (t,v)→tv[j]?=some (t,u)→i=j)
  (hst:∀ i o,m≤i→ops[i]?=some o→∀ e,(∀ (j t:Nat) v,EJ ops i j=true→tv[j]?=some (t,v)→get e t=v)→(∀ t,(∀ (j:Nat) v,tv[j]?≠some (t,v))→get e t=get env0 t)→OpOK P C o e H fun e' H'=>(∀ t,get e' t=get e t)∧H'=H)
  (hfin:RL P C ops Q ops.size [] (tv.reverse++env0) H) (n1:X.nt=C.nt) (n2:X.n0=C.n0) (n3:X.ne=C.ne):∀ (fuel:Nat) (L:Array Bool) (a:Act) (w:World) (I:Nat→Prop) (μ:List Nat) (O:Nat→Option Loc),L.size=ops.size→R3 ops L →
   (List.range ops.size).countP (fun i=>!L.getD i false)≤fuel→Sim P X (C8 tv env0 L) H a w I μ O→wpAnyIn (om C.ro) 0 P .any ops (Post P X Q) fuel L a w:=by
 obtain ⟨hm,hat⟩:=MA hok
 have fin:∀ (fuel:Nat) (L:Array Bool) (a:Act) (w:World) (I:Nat→Prop) (μ:List Nat) (O:Nat→Option Loc),L.size=ops.size→(∀ j,j<ops.size→L.getD j false=true) →
   Sim P X (C8 tv env0 L) H a w I μ O→wpAnyIn (om C.ro) 0 P .any ops (Post P X Q) fuel L a w:=by
  intro fuel L a w I μ O hL hall hs
  refine wpAnyIn_done ?_ ?_ fuel
  ·apply List.eq_nil_iff_forall_not_mem.2
   intro j hj
   obtain ⟨h1,o,ho,_⟩:=mem_ready.1 hj
   have hlt:=(Array.getElem?_eq_some_iff.1 ho).1
   rw [BV (by omega),hall j hlt] at h1;cases h1
  ·refine hfin (by simp) X a w I μ O n1 n2 n3 (hs.same (env':=tv.reverse++env0) fun t=>?_)
   by_cases hex:∃ (i:Nat) (v:AV),tv[i]?=some (t,v)
   ·obtain ⟨i,v,hi⟩:=hex
    rw [BD hdist (hall i (by have:=(lS.1 hi).1;omega)) hi]
    have hmem:(t,v)∈tv.reverse:=List.mem_reverse.2 (List.mem_of_getElem? hi)
    rw [Bd,if_pos (List.contains_iff_mem.2 (List.mem_map_of_mem (f:=(·.1)) hmem))]
    refine DS hmem fun u hu=>?_
    obtain ⟨j,hj⟩:=List.getElem?_of_mem (List.mem_reverse.1 hu)
    have:=hdist i j t v u hi hj
    subst this
    rw [hi] at hj;simp only [Option.some.injEq,Prod.mk.injEq,true_and] at hj;exact hj.symm
   ·rw [Bl fun i v _ hi=>hex ⟨i,v,hi⟩,Bd,if_neg]
    intro hc
    obtain ⟨x,hx,rfl⟩:=List.mem_map.1 (List.contains_iff_mem.1 hc)
    obtain ⟨i,hi⟩:=List.getElem?_of_mem (List.mem_reverse.1 hx)
    exact hex ⟨i,x.2,hi⟩
 intro fuel
 induction fuel with
 | zero =>
  intro L a w I μ O hL hD hf hs
  refine fin 0 L a w I μ O hL (fun j hj=>?_) hs
  cases hv:L.getD j false with
  | true=>rfl
  | false =>
   have:0<(List.range ops.size).countP (fun i=>!L.getD i false):=List.countP_pos_iff.2 ⟨j,List.mem_range.2 hj,by rw [hv];rfl⟩
   omega
 | succ fuel ih =>
  intro L a w I μ O hL hD hf hs
  by_cases hall:∀ j,j<ops.size→L.getD j false=true
  ·exact fin _ L a w I μ O hL hall hs
  obtain ⟨j0,⟨hj0,hj1⟩,hmin⟩:∃ j,(j<ops.size∧L.getD j false=false)∧∀ k,k<j→L.getD k false=true:=by
   have hex:∃ j,j<ops.size∧L.getD j false=false:=by
    apply Classical.byContradiction
    intro hno
    refine hall fun j hj=>?_
    cases hv:L.getD j false with
    | true=>rfl
    | false=>exact absurd ⟨j,hj,hv⟩ hno
   obtain ⟨j,hj⟩:=hex
   induction j using Nat.strongRecOn with
   | ind j ihj =>
    by_cases hk:∃ k,k<j∧L.getD k false=false
    ·obtain ⟨k,hk1,hk2⟩:=hk
     exact ihj k hk1 ⟨by omega,hk2⟩
    ·refine ⟨j,hj,fun k hk1=>?_⟩
     cases hv:L.getD k false with
     | true=>rfl
     | false=>exact absurd ⟨k,hk1,hv⟩ hk
  have hr0:j0∈Region.ready .any ops L:=mem_ready.2 ⟨by rw [BV (by omega)];exact hj1,_,Array.getElem?_eq_getElem (by omega),fun e he hb=>hmin _ ((hat j0 _ (Array.getElem?_eq_getElem (by omega))).1 e he hb)⟩
  refine ⟨fun h0=>(by rw [h0] at hr0;cases hr0),fun i hi=>?_⟩
  obtain ⟨h1,o,ho,h2⟩:=mem_ready.1 hi
  have hlt:=(Array.getElem?_eq_some_iff.1 ho).1
  rw [BV (by omega)] at h1
  have hD':R3 ops (L.setIfInBounds i true):=fun k ok hk hok' e he hb=>by
   rw [Az (by omega)] at hk ⊢
   split at hk
   ·rename_i hik;subst hik
    rw [ho] at hok';cases hok'
    split
    ·rfl
    ·exact h2 e he hb
   ·split
    ·rfl
    ·exact hD k ok hk hok' e he hb
  have hcount:(List.range ops.size).countP (fun k=>!(L.setIfInBounds i true).getD k false)≤fuel:=by
   have:=HJ (fun i=>!L.getD i false) (fun k=>!(L.setIfInBounds i true).getD k false) i (by simp only [h1];rfl) (by simp only [Az (by omega:i<L.size),if_true];rfl)
    (fun j hj=>by simp only [Az (by omega:i<L.size)];rw [if_neg (Ne.symm hj)]) (List.range ops.size) (List.mem_range.2 hlt) List.nodup_range
   omega
  rcases Nat.lt_or_ge i m with him|him
  ·refine Rg (fun i o _ ho=>(hat i o ho).2.1) hlen (by omega) hone hdist n1 n2 n3 hL him hi hs fun a' w' I' O' hs'=>?_
   exact ih _ a' w' I' μ O' (by simpa using hL) hD' hcount hs'
  ·have hg:=(hat i o ho).2.2 him
   unfold wpOpIn
   simp only [ho]
   rw [if_pos (by simp [Region.wanted,hg])]
   refine hst i o him ho (C8 tv env0 L) (fun j t v hd hj=>?_) (fun t ht=>Bl fun j v _ hj=>ht j v hj) X a w I μ O _ _ n1 n2 n3 hs fun env' H' a' w' I' μ' O' hs' hK=>?_
   ·obtain ⟨o2,ho2,e,he,hb,rfl⟩:=Fy hd
    rw [ho] at ho2;cases ho2
    exact BD hdist (h2 e he hb) hj
   ·obtain ⟨hK,rfl⟩:=hK
    have heL:C8 tv env0 (L.setIfInBounds i true)=C8 tv env0 L:=by
     have hfm:∀ (l:List Nat),(∀ j∈l,j<m)→l.filterMap (fun j=>if (L.setIfInBounds i true).getD j false=true then tv[j]? else none)=l.filterMap fun j=>if L.getD j false=true then tv[j]? else none:=by
      intro l
      induction l with
      | nil=>intro _;rfl
      | cons x l ihl =>
       intro hx
       have:=hx x (by simp)
       have e1:=Az (L:=L) (i:=i) (j:=x) (by omega)
       rw [if_neg (by omega)] at e1
       simp only [List.filterMap_cons,e1,ihl fun j hj=>hx j (by simp [hj])]
     unfold C8
     rw [hfm _ fun j hj=>by have:=List.mem_range.1 hj;omega]
    refine ih _ a' w' I' μ' O' (by simpa using hL) hD' hcount ?_
    rw [heL]
    exact hs'.same fun t=>(hK t).symm
theorem AW.drawnI {id:Nat} (m:Nat) {env0:Env} (hm:P.follows .mixedOrders=true) (hok:Mk ops m=true)
  (h:DK P C ops H env0 [] (ops.toList.take m) fun fin =>
   (∀ i o,m≤i→ops[i]?=some o→∀ e,(∀ (j t:Nat) v,EJ ops i j=true→fin.reverse[j]?=some (t,v)→get e t=v)→(∀ t,(∀ (j:Nat) v,fin.reverse[j]?≠some (t,v))→get e t=get env0 t)→OpOK P C o e H fun e' H'=>(∀ t,get e' t=get e t)∧H'=H) ∧
   RL P C ops Q ops.size [] (fin++env0) H):AW P C (.region id ops true) Q env0 H:=fun X a w I μ O n1 n2 n3 hs=>by
 obtain ⟨fin,hDL,hst,hfin⟩:=h
 obtain ⟨tv,k1,k2,k3⟩:=hDL.table
 rw [List.append_nil] at k2
 subst k2
 rw [List.reverse_reverse] at hst
 obtain ⟨hle,_⟩:=MA hok
 have hlen:tv.length=m:=by rw [k1];simp;omega
 refine wpIn_region_any hm ?_
 have hz:∀ j,(Array.replicate ops.size false).getD j false=false:=fun j=>by
  simp only [Array.getD_eq_getD_getElem?,Array.getElem?_replicate]
  split<;>rfl
 have hs':Sim P X (C8 tv env0 (Array.replicate ops.size false)) H a {w with drawn:=w.drawn+1} I μ O :=
  (hs.grow (w':={w with drawn:=w.drawn+1}) ⟨rfl,rfl,rfl,Nat.le_refl _,fun _ _=>rfl⟩).same fun t=>Bl fun i v h=>by
   rw [hz] at h;cases h
 have hone:∀ i,i<m→∃ o t v,ops[i]?=some o∧tv[i]?=some (t,v)∧NJ P C ops H env0 (tv.take i).reverse o t v:=fun i hi=>by
  have ho:ops[i]?=some ops[i]:=Array.getElem?_eq_getElem (by omega)
  obtain ⟨t,v,m1,m2⟩:=k3 i ops[i] (by rw [List.getElem?_take_of_lt hi];simp)
  exact ⟨_,t,v,ho,m1,by simpa using m2⟩
 have hdist:∀ (i j t:Nat) v u,tv[i]?=some (t,v)→tv[j]?=some (t,u)→i=j:=by
  have lt:∀ (i j t:Nat) v u,tv[i]?=some (t,v)→tv[j]?=some (t,u)→¬i<j:=fun i j t v u hi hj hij=>by
   have hjm:j<m:=by have:=(lS.1 hj).1;omega
   obtain ⟨o,t',v',_,k1,k2⟩:=hone j hjm
   rw [hj] at k1;cases k1
   refine k2.2.2.2.1 (t,v) ?_ rfl
   rw [List.mem_reverse]
   exact List.mem_of_getElem? (by rw [List.getElem?_take_of_lt hij];exact hi)
  intro i j t v u hi hj
  have h1:=lt i j t v u hi hj
  have h2:=lt j i t u v hj hi
  omega
 refine Zc hok hlen hone hdist hst hfin n1 n2 n3 ops.size _ a _ I μ O (by simp) (fun i o h=>by rw [hz] at h;cases h) ?_ hs'
 have h1:=List.countP_le_length (p:=fun i=>!(Array.replicate ops.size false).getD i false) (l:=List.range ops.size)
 rw [List.length_range] at h1
 omega
theorem MP {e:Env} {t:Nat} {v:AV} (h:get e t=v) (s:Nat) : get ((t,v)::e) s=get e s:=by
 simp only [get]
 split
 ·rename_i h1;subst h1;exact h.symm
 ·rfl
theorem Ob {l:List (Nat×AV)} {t:Nat} (h:(l.map (·.1)).contains t=false) (j:Nat) (v:AV) : l[j]?≠some (t,v):=fun hj=>by
 have:=List.mem_map_of_mem (f:=(·.1)) (List.mem_of_getElem? hj)
 rw [List.contains_iff_mem.2 this] at h;cases h
end
end Go.FL
namespace Go.FL
open Go Go.RowKit
def Tt (T:List (Int×Int)) (z:Int) : Int:=((T.find? fun p=>decide (p.1=z)).map (·.2)).getD 0
section
variable {P:Program} {C:Cx} {o:Oper} {env:Env} {H:Ac}
theorem Y6 {T:List (Int×Int)} {z:Int} {x y:Operand} {ty kt et:TypeId} {q q2:IntKind} (hnd:(T.map (·.1)).Nodup) (hu:P.underlying ty=some (.map kt et)) (hk:P.underlying kt=some (.int q)) (hz:∀ w,(zeroValue et).run P w=.ok (.int q2 0) w)
  (ho:o.op=.lookup ty x y false:=by rfl) (hx:Bk (lk env x)=some (.mp (T.map fun p=>.i q p.1) (T.map fun p=>.i q2 p.2)):=by rfl) (hy:Bk (lk env y)=some (.i q z):=by rfl):VOK P C o env H (.d (.i q2 (Tt T z))):=by
 have hzip:(T.map fun p=>DV.i q p.1).zip (T.map fun p=>DV.i q2 p.2)=T.map fun p=>(DV.i q p.1,DV.i q2 p.2):=by
  rw [List.zip_map']
 cases hf:T.find? fun p=>decide (p.1=z) with
 | none =>
  have e:Tt T z=0:=by simp [Tt,hf]
  rw [e]
  refine ZB hu hk hz (fun w I=>.i q2 0) (fun k hk'=>?_) ho hx hy
  obtain ⟨p,hp,rfl⟩:=List.mem_map.1 hk'
  have:=List.find?_eq_none.1 hf p hp
  exact ⟨p.1,rfl,by simpa using this⟩
 | some p =>
  have e:Tt T z=p.2:=by simp [Tt,hf]
  have hp:=List.mem_of_find?_eq_some hf
  have hpz:p.1=z:=by have:=List.find?_some hf;simpa using this
  rw [e]
  refine Zx hu hk (fun k hk'=>?_) ?_ (fun d' hd'=>?_) ho hx hy
  ·obtain ⟨p',_,rfl⟩:=List.mem_map.1 hk';exact ⟨_,rfl⟩
  ·rw [hzip];exact List.mem_map.2 ⟨p,hp,by rw [hpz]⟩
  ·rw [hzip] at hd'
   obtain ⟨p',hp',e'⟩:=List.mem_map.1 hd'
   simp only [Prod.mk.injEq,DV.i.injEq,true_and] at e'
   obtain ⟨e1,rfl⟩:=e'
   have:p'=p:=by
    obtain ⟨i,hi⟩:=List.getElem?_of_mem hp'
    obtain ⟨j,hj⟩:=List.getElem?_of_mem hp
    have hij:i=j:=by
     refine (List.getElem?_inj (l:=T.map (·.1)) (by rw [List.length_map];exact (lS.1 hi).1) hnd).1 ?_
     rw [List.getElem?_map,List.getElem?_map,hi,hj]
     simp [e1,hpz]
    subst hij
    rw [hi] at hj;exact oI hj
   rw [this]
end
end Go.FL
namespace Go.Proofs
open Go.RowKit Go.FL
set_option maxHeartbeats 4000000 in
set_option maxRecDepth 100000 in
theorem WV (w:World) : Calls Tryz.prog 157 #[.slice none 0 0,.int .i64 0] w fun x w'=>x=.returned (.slice none 0 0)∧w'=w:=by
 go_enter Tryz.func157,Tryz.ntmps157
 go_wp2
 go_ret
 exact ⟨rfl,rfl⟩
set_option maxHeartbeats 4000000 in
set_option maxRecDepth 100000 in
theorem YR : Su Tryz.prog 157 3 17592186044416:=by
 intro n w hn
 rcases Nat.eq_zero_or_pos n with h0|h0
 ·subst h0
  exact (WV w).mono fun _ _ h=>.inl h
 obtain ⟨i0,i1,i2,i3,i4,i5,i6,i7,i8⟩:=CP Hf
 have hrz:∀ ty,(Builtin.append_ #[24,3] ty #[.slice none 0 0,.int .i64 (n:Int)]).run Tryz.prog w=.ok (.slice (some ⟨w.heap.size,0,none⟩) n (grownCap w n 0 3)) (w.drew.alloc (.cells (Builtin.zeroCells (Value.int .i64 0).cells n++Builtin.zeroCells (Value.int .i64 0).cells (grownCap w n 0 3-n)) 3)):=fun ty =>
  Lib.run_append_nil_zeros w 24 3 ty 3 i0 (.int .i64 0) .i64 .i64 i1 (by kernel_rfl) i2 i3 n h0 (by omega) (by omega) (by rw [i5];omega)
 have hg1:=grownCap_ge w n 0 3
 have hg2:=grownCap_le_maxLen w n 0 3 (by unfold maxLen;omega)
 generalize hG:grownCap w n 0 3=G at *
 have hg3:G≤9223372036854775807:=by unfold maxLen at hg2;omega
 obtain ⟨cells,hcells⟩:∃ cs:Array Value,Builtin.zeroCells (Value.int .i64 0).cells n++Builtin.zeroCells (Value.int .i64 0).cells (G-n)=cs:=⟨_,rfl⟩
 rw [hcells] at hrz
 have hsz:cells.size=G * AA Tryz.prog 3:=by
  rw [← hcells,i8,Array.size_append,size_zeroCells,size_zeroCells,i6];omega
 have h1:¬((n:Int)<0):=by omega
 have h2:(n:Int) > 0:=by omega
 have hfin:0<G∧G≤maxLen∧cells.size=G * AA Tryz.prog 3:=⟨by omega,hg2,hsz⟩
 clear hsz hcells i1 i2 i3 i4 i5 i6 i7 i8 hg2
 have HF:=Lib.hid hfin
 clear hfin
 go_enter Tryz.func157,Tryz.ntmps157
 go_wp2_with (at_builtin;refine Lib.wpList_append_run _ rfl _ _ _ _ rfl _ _ rfl rfl _ _ (hrz _) ?_)
 go_ret
 exact .inr ⟨G,HF.out.1,HF.out.2.1,cells,HF.out.2.2,rfl,rfl⟩
end Go.Proofs
namespace Go.FL
open Go Go.Proofs
theorem VB (w:World) (I:Nat→Prop) : RepAll w I [.i .i64 0] (Value.int .i64 0).cells.toList:=.cons (.i _ _) .nil
theorem Vy {n:Nat} : List.replicate n (.ag [.i .u8 0,.b false,.sl [],.sl [],.i .i32 0,.sl []])=Its (List.replicate n (Itm.mk 0 (false,[],[]) 0 [])):=by rw [Fc,List.map_replicate,Itm.dv_eq];rfl
theorem Qt {xs:List Itm} {n:Nat} {x:Itm} {ds:List DV} (h:DV.ag ds=x.dv) : (Its xs).set n (.ag ds)=Its (xs.set n x):=by rw [h,Fc,Fc,List.map_set]
theorem E8 : Tryz.prog.underlying 89=some (.map 21 3):=by kernel_rfl
theorem Kw : ∀ w,(zeroValue 3).run Tryz.prog w=.ok (.int .i64 0) w:=Ap (by kernel_rfl)
abbrev UI : Int:=((17592186044416:Nat) : Int)
theorem Wm : Su Tryz.prog 157 3 17592186044416:=YR
def IsS (xs:List (List Int)) : List DV:=xs.map fun l=>.sl (Is l)
theorem Ny (xs:List (List Int)) : (IsS xs).length=xs.length:=by simp [IsS]
theorem Uv {xs:List (List Int)} {i:Nat} {x:List Int} (h:xs[i]?=some x) : (IsS xs)[i]?=some (.sl (Is x)):=by simp [IsS,h]
theorem Wr (xs:List (List Int)) : ∀ x∈IsS xs,x.cells.length=1:=fun x hx=>by
 simp only [IsS,List.mem_map] at hx
 obtain ⟨n,_,rfl⟩:=hx;rfl
theorem VH (xs:List (List Int)) : ∃ sz,∀ x∈IsS xs,x.cells.length=sz:=⟨1,Wr xs⟩
theorem UY (xs:List (List Int)) : ∀ d∈IsS xs,d.flat=true∧d.cells.length=1:=fun x hx=>by
 simp only [IsS,List.mem_map] at hx
 obtain ⟨n,_,rfl⟩:=hx
 exact ⟨by simp [DV.flat,DV.cells,DV.leaf],rfl⟩
abbrev An : Type:=FW (Int×Int) (Int)
abbrev BB (f:An) : Prop:=f.OK Tryz.prog (fun x=>[.i .i64 x.1,.i .i64 x.2]) (fun r=>.d (.i .i64 r))
abbrev Cc : Type:=FW (Itm×Itm) (Int)
abbrev LN (f:Cc) : Prop:=f.OK Tryz.prog (fun x=>[.ag [.i .u8 x.1.kind,.b x.1.num.1,.sl (L x.1.num.2.1),.sl (L x.1.num.2.2),.i .i32 x.1.char,.sl (Ars x.1.box)],.ag [.i .u8 x.2.kind,.b x.2.num.1,.sl (L x.2.num.2.1),.sl (L x.2.num.2.2),.i .i32 x.2.char,.sl (Ars x.2.box)]]) (fun r=>.d (.i .i64 r))
theorem GA : Tryz.prog.underlying 153=some (.int .u64):=by kernel_rfl
theorem VP : Cp Tryz.prog 147=some (24,1,24):=by kernel_rfl
theorem XM : B3 Tryz.prog 147=some (24,1,24,.slice none 0 0):=by kernel_rfl
theorem Uy : Tryz.prog.underlying 147=some (.slice (Tryz.prog.elem 147)):=by kernel_rfl
def Dn (a1:Int) (a2:Int) (a3:Int) : Nat→(List Int)→Int→Option ((List Int))
 | 0,_,_=>none
 | k+1,s1,s2=>(if s2<a3 then ((rd? s1 (w64 (a2+s2))).bind fun x3=>((rd? s1 (w64 (a1+s2))).bind fun x4=>((rd? s1 (w64 (a1+s2))).bind fun x5=>((rd? (List.set s1 (Int.toNat (w64 (a1+s2))) x3) (w64 (a2+s2))).bind fun x6=>(Dn a1 a2 a3 k (List.set (List.set s1 (Int.toNat (w64 (a1+s2))) x3) (Int.toNat (w64 (a2+s2))) x4) (w64 (s2+1))))))) else (some s1))
def EM (a0:(List Int)) (a1:Int) (a2:Int) (a3:Int) (a4:An) : Option ((List Int)):=(Dn a1 a2 a3 AK a0 0)
theorem FC {a0:(List Int)} {a1:Int} {a2:Int} {a3:Int} {a4:An} (oa4:BB a4) {r:(List Int)} (h:EM a0 a1 a2 a3 a4=some r) :
  FnG Tryz.prog 276 [.own 3 (Is a0),.d (.i .i64 a1),.d (.i .i64 a2),.d (.i .i64 a3),.d (a4.dv)] [] (.tup []) [.own 3 (Is r)] []:=by
 unfold EM at h
 refine FnG.of (rs:=[]) 1 38 Tryz.func276 rfl rfl rfl (by simp) (by simp) (by simp) ?_;refine .sr ?_;refine ar [0,1,2,3,10] ?_;refine .block ?_
 refine .loop (.gk [0,1,2,3,10] ?_)
 refine AL.ind (σ:=Nat×(List Int)×Int) (m:=fun p=>p.1) (e:=fun p=>[(0,.own 3 (Is p.2.1)),(1,.d (.i .i64 a1)),(2,.d (.i .i64 a2)),(3,.d (.i .i64 a3)),(10,.d (.i .i64 p.2.2))]) (h:=fun p=>[]) (I:=fun p=>Dn a1 a2 a3 p.1 p.2.1 p.2.2=some r) ?_ (AK,a0,0) h
 rintro ⟨k,s1,s2⟩ h ih
 dsimp only at h ih ⊢
 rcases k with _|k
 ·rw [Dn] at h;cases h
 rw [Dn] at h
 refine .seq ?_;refine .sr ?_;refine va ?_;refine va ?_;refine vb ?_;refine rk [0,1,2,3,10,13] ?_
 rcases brc h with ⟨hc,h⟩|⟨hc,h⟩
 ·refine cnt (dT hc) ?_
  refine .sk ?_;refine .seq ?_;refine .block ?_
  obtain ⟨x3,g3,h⟩:=bnd h
  obtain ⟨x4,g4,h⟩:=bnd h
  obtain ⟨x5,g5,h⟩:=bnd h
  refine .drawnF 21 [4,5,6,7] [(0,.own 3 ((Is s1).set (Int.toNat (w64 (a1+s2))) (.i .i64 x3)))] [] A2 (by kernel_rfl) rfl ?_;refine dv Ea ?_;refine dv Ae ?_;refine dv Ae ?_;refine dv vbi ?_;refine dv Ea ?_;refine dv Ae ?_;refine dv Ae ?_;refine dv vbi ?_;refine dv Ea ?_;refine dv Ae ?_;refine dv Ae ?_;refine dv vbi ?_
  obtain ⟨n3,p03,q3⟩:=Aj g3
  refine dv (FB (off:=0) (len:=(Is s1).length) n3 p03 (by rw [Ai];exact (lS.1 q3).1) Bo (by decide)) ?_;refine dv (Hm (i:=0+n3) (j:=0) (xs:=Is s1) (.i .i64 x3) ⟨_,by rw [Nat.zero_add];exact BC q3,rfl⟩ AS) ?_;refine dv Ea ?_;refine dv Ae ?_;refine dv Ae ?_;refine dv vbi ?_
  obtain ⟨n4,p04,q4⟩:=Aj g4
  refine dv (FB (off:=0) (len:=(Is s1).length) n4 p04 (by rw [Ai];exact (lS.1 q4).1) Bo (by decide)) ?_;refine dv (Hm (i:=0+n4) (j:=0) (xs:=Is s1) (.i .i64 x4) ⟨_,by rw [Nat.zero_add];exact BC q4,rfl⟩ AS) ?_
  obtain ⟨n5,p05,q5⟩:=Aj g5
  refine dv (FB (off:=0) (len:=(Is s1).length) n5 p05 (by rw [Ai];exact (lS.1 q5).1) Bo (by decide)) ?_;refine dz ?_
  refine ⟨?_,?_,?_⟩
  ·intro k hk
   simp only [List.mem_cons,List.not_mem_nil,or_false] at hk
   rcases hk with rfl|rfl|rfl|rfl
   ·exact ⟨_,_,_,rfl,rfl,rfl,rfl,rfl,rfl,(show VOK _ _ _ _ _ (.ref (.t 0) 0 (Is s1).length) from by rw [show (Is s1).length=((Is s1).set (Int.toNat (w64 (a1+s2))) (.i .i64 x3)).length by rw [List.length_set]];exact Ea)⟩
   ·exact ⟨_,_,_,rfl,rfl,rfl,rfl,rfl,rfl,Ae⟩
   ·exact ⟨_,_,_,rfl,rfl,rfl,rfl,rfl,rfl,Ae⟩
   ·exact ⟨_,_,_,rfl,rfl,rfl,rfl,rfl,rfl,vbi⟩
  ·intro om e hom hge
   cases hom
   refine Iw (x:=.tmp 36) (y:=.tmp 29) (r:=36) (ay:=.t 29) (p:=.t 0) (i:=0+n5) (k:=0) (v:=.i .i64 x3) (x':=.i .i64 x3) rfl rfl rfl rfl D7 ((hge 36 (fun k hk v hv=>by
     simp only [List.mem_cons,List.not_mem_nil,or_false] at hk
     rcases hk with rfl|rfl|rfl|rfl
     ·exact (by decide:¬(some 20=some 36)) (congrArg (Option.map Prod.fst) hv)
     ·exact (by decide:¬(some 21=some 36)) (congrArg (Option.map Prod.fst) hv)
     ·exact (by decide:¬(some 22=some 36)) (congrArg (Option.map Prod.fst) hv)
     ·exact (by decide:¬(some 23=some 36)) (congrArg (Option.map Prod.fst) hv))).trans rfl) ((hge 0 (fun k hk v hv=>by
     simp only [List.mem_cons,List.not_mem_nil,or_false] at hk
     rcases hk with rfl|rfl|rfl|rfl
     ·exact (by decide:¬(some 20=some 0)) (congrArg (Option.map Prod.fst) hv)
     ·exact (by decide:¬(some 21=some 0)) (congrArg (Option.map Prod.fst) hv)
     ·exact (by decide:¬(some 22=some 0)) (congrArg (Option.map Prod.fst) hv)
     ·exact (by decide:¬(some 23=some 0)) (congrArg (Option.map Prod.fst) hv))).trans rfl) (fun _ _ h=>by cases h) ((hge 29 (fun k hk v hv=>by
     simp only [List.mem_cons,List.not_mem_nil,or_false] at hk
     rcases hk with rfl|rfl|rfl|rfl
     ·exact (by decide:¬(some 20=some 29)) (congrArg (Option.map Prod.fst) hv)
     ·exact (by decide:¬(some 21=some 29)) (congrArg (Option.map Prod.fst) hv)
     ·exact (by decide:¬(some 22=some 29)) (congrArg (Option.map Prod.fst) hv)
     ·exact (by decide:¬(some 23=some 29)) (congrArg (Option.map Prod.fst) hv))).trans rfl) rfl ?_ ⟨by rw [show Int.toNat (w64 (a1+s2))=0+n5 from by rw [p05];simp];rfl,rfl⟩
   rw [Nat.zero_add,lD,BC q5];rfl
  rw [show (Is s1).set (Int.toNat (w64 (a1+s2))) (.i .i64 x3)=Is (List.set s1 (Int.toNat (w64 (a1+s2))) x3) from HS _ _ _]
  refine RL.gk [0,1,2,3,10,13,16,17,18,19,20,21,22,23,24,25,26,27,29,30,31,32,33,35] ?_
  obtain ⟨x6,g6,h⟩:=bnd h
  obtain ⟨n6,p06,q6⟩:=Aj g6
  refine ixr (off:=0) (len:=(Is s1).length) n6 p06 (by rw [Ai];simpa using (lS.1 q6).1) ?_ Bo (by decide)
  refine UZ (F:=Is) (D:=fun x=>.i .i64 x) HS (us:=(List.set s1 (Int.toNat (w64 (a1+s2))) x3)) (n:=n6) (m:=Int.toNat (w64 (a2+s2))) (x:=x4) (by rw [p06];rfl) ⟨_,by rw [Nat.zero_add];exact BC q6,rfl⟩ ?_ D7
  refine RL.gk [0,1,2,3,10,13,16,17,18,19,20,21,22,23,24,25,26,27,29,30,31,32,33,35] ?_;refine .nil ?_;refine aw ?_;refine .gk [0,1,2,3,10] ?_;refine .region ?_;refine va ?_;refine vb ?_;refine asd ?_;refine .nil ?_;refine AL.gk [0,1,2,3,10] ?_
  exact ih (k,(List.set (List.set s1 (Int.toNat (w64 (a1+s2))) x3) (Int.toNat (w64 (a2+s2))) x4),(w64 (s2+1))) h (Nat.lt_succ_self _)
 refine cnf (dF hc) ?_;refine .exit ?_
 cases h
 exact M4 rfl rfl
def Dr (a1:Int) (a3:An) (K1:(List Int)→Option ((List Int))) : Nat→(List Int)→Int→Option ((List Int))
 | 0,_,_=>none
 | k+1,s4,s5=>(Option.bind ((if a1<s5 then ((rd? s4 s5).bind fun x7=>((rd? s4 (w64 (s5-1))).bind fun x8=>((a3.g (x7,x8)).bind fun x9=>(some (decide (x9<0)))))) else (some false)):Option (Bool)) fun (z6:Bool)=>(if z6=true then ((rd? s4 (w64 (s5-1))).bind fun x10=>((rd? s4 s5).bind fun x11=>((rd? s4 s5).bind fun x12=>((rd? (List.set s4 (Int.toNat s5) x10) (w64 (s5-1))).bind fun x13=>(Dr a1 a3 K1 k (List.set (List.set s4 (Int.toNat s5) x10) (Int.toNat (w64 (s5-1))) x11) (w64 (s5-1))))))) else (K1 s4)))
def Dm (a1:Int) (a2:Int) (a3:An) : Nat→(List Int)→Int→Option ((List Int))
 | 0,_,_=>none
 | k+1,s1,s2=>(if s2<a2 then (jn (fun (z3:(List Int))=>(Dm a1 a2 a3 k z3 (w64 (s2+1)))) fun K1=>(Dr a1 a3 K1 AK s1 s2)) else (some s1))
def FM (a0:(List Int)) (a1:Int) (a2:Int) (a3:An) : Option ((List Int)):=(Dm a1 a2 a3 AK a0 (w64 (a1+1)))
theorem Ia {a0:(List Int)} {a1:Int} {a2:Int} {a3:An} (oa3:BB a3) {r:(List Int)} (h:FM a0 a1 a2 a3=some r) :
  FnG Tryz.prog 228 [.own 3 (Is a0),.d (.i .i64 a1),.d (.i .i64 a2),.d (a3.dv)] [] (.tup []) [.own 3 (Is r)] []:=by
 unfold FM at h
 refine FnG.of (rs:=[]) 1 53 Tryz.func228 rfl rfl rfl (by simp) (by simp) (by simp) ?_;refine .sr ?_;refine va ?_;refine vb ?_;refine ar [0,1,2,3,8] ?_;refine .block ?_
 refine .loop (.gk [0,1,2,3,8] ?_)
 refine AL.ind (σ:=Nat×(List Int)×Int) (m:=fun p=>p.1) (e:=fun p=>[(0,.own 3 (Is p.2.1)),(1,.d (.i .i64 a1)),(2,.d (.i .i64 a2)),(3,.d (a3.dv)),(8,.d (.i .i64 p.2.2))]) (h:=fun p=>[]) (I:=fun p=>Dm a1 a2 a3 p.1 p.2.1 p.2.2=some r) ?_ (AK,a0,(w64 (a1+1))) h
 rintro ⟨k,s1,s2⟩ h ih
 dsimp only at h ih ⊢
 rcases k with _|k
 ·rw [Dm] at h;cases h
 rw [Dm] at h
 refine .seq ?_;refine .sr ?_;refine va ?_;refine va ?_;refine vb ?_;refine rk [0,1,2,3,8,14] ?_
 rcases brc h with ⟨hc,h⟩|⟨hc,h⟩
 ·refine cnt (dT hc) ?_
  refine .sk ?_
  obtain ⟨K1,hK1,h⟩:=AP h
  refine AW.mj (σ:=(List Int)) (fun p=>K1 p=some r) (fun p=>[(0,.own 3 (Is p)),(1,.d (.i .i64 a1)),(2,.d (.i .i64 a2)),(3,.d (a3.dv)),(8,.d (.i .i64 s2))]) (fun p=>[]) ?_ ?_
  ·skip
   refine .block ?_;refine .sr ?_;refine va ?_;refine ar [0,1,2,3,8,9] ?_;refine .block ?_
   refine .loop (.gk [0,1,2,3,8,9] ?_)
   refine AL.ind (σ:=Nat×(List Int)×Int) (m:=fun p=>p.1) (e:=fun p=>[(0,.own 3 (Is p.2.1)),(1,.d (.i .i64 a1)),(2,.d (.i .i64 a2)),(3,.d (a3.dv)),(8,.d (.i .i64 s2)),(9,.d (.i .i64 p.2.2))]) (h:=fun p=>[]) (I:=fun p=>Dr a1 a3 K1 p.1 p.2.1 p.2.2=some r) ?_ (AK,s1,s2) h
   rintro ⟨k,s4,s5⟩ h ih
   dsimp only at h ih ⊢
   rcases k with _|k
   ·rw [Dr] at h;cases h
   rw [Dr] at h
   refine .seq ?_;refine .seq ?_
   obtain ⟨z6,hz,h⟩:=bnd h
   refine AW.mr (σ:=Unit) (fun _=>True) (fun _=>[(0,.own 3 (Is s4)),(1,.d (.i .i64 a1)),(2,.d (.i .i64 a2)),(3,.d (a3.dv)),(8,.d (.i .i64 s2)),(9,.d (.i .i64 s5)),(34,.d (.b z6))]) (fun _=>[]) ?_ ?_
   ·skip
    refine .drawn 17 A2 (by kernel_rfl) ?_;refine dv Ae ?_;refine dv Ae ?_;refine dv vbi ?_
    rcases brc hz with ⟨hc,hz⟩|⟨hc,hz⟩
    ·have hb0:(decide (a1<s5))=true:=(dT hc)
     refine dv (VOK.lit (Ae) hb0) ?_;refine dv Ae ?_;refine dv Ea ?_;refine dv Ae ?_
     obtain ⟨x7,g7,hz⟩:=bnd hz
     obtain ⟨n7,p07,q7⟩:=Aj g7
     refine dv (FB (off:=0) (len:=(Is s4).length) n7 p07 (by rw [Ai];exact (lS.1 q7).1) Bo (by decide)) ?_;refine dv (Hm (i:=0+n7) (j:=0) (xs:=Is s4) (.i .i64 x7) ⟨_,by rw [Nat.zero_add];exact BC q7,rfl⟩ AS) ?_;refine dv Ea ?_;refine dv Ae ?_;refine dv vbi ?_
     obtain ⟨x8,g8,hz⟩:=bnd hz
     obtain ⟨n8,p08,q8⟩:=Aj g8
     refine dv (FB (off:=0) (len:=(Is s4).length) n8 p08 (by rw [Ai];exact (lS.1 q8).1) Bo (by decide)) ?_;refine dv (Hm (i:=0+n8) (j:=0) (xs:=Is s4) (.i .i64 x8) ⟨_,by rw [Nat.zero_add];exact BC q8,rfl⟩ AS) ?_
     obtain ⟨x9,g9,hz⟩:=bnd hz
     refine dv (MC (oa3 _ _ g9)) ?_;refine dv vbi ?_;refine dv Ag ?_;refine dz ?_;refine RL.gk [0,1,2,3,8,9,34] ?_;refine .nil ?_
     cases hz
     exact jr () trivial
    have hb0:(decide (a1<s5))=false:=(dF hc)
    refine dv (VOK.lit (Ae) hb0) ?_;refine dgf ?_;refine dgf ?_;refine dgf ?_;refine dgf ?_;refine dgf ?_;refine dgf ?_;refine dgf ?_;refine dgf ?_;refine dgf ?_;refine dgf ?_;refine dgf ?_;refine dgf ?_;refine dv Ag ?_;refine dz ?_;refine RL.gk [0,1,2,3,8,9,34] ?_;refine .nil ?_
    cases hz
    exact jr () trivial
   rintro _ _
   rcases brc h with ⟨hc,h⟩|⟨hc,h⟩
   ·refine cnt hc ?_
    refine .sk ?_;refine .seq ?_;refine .block ?_
    obtain ⟨x10,g10,h⟩:=bnd h
    obtain ⟨x11,g11,h⟩:=bnd h
    obtain ⟨x12,g12,h⟩:=bnd h
    refine .drawnF 15 [2,3,4] [(0,.own 3 ((Is s4).set (Int.toNat s5) (.i .i64 x10)))] [] A2 (by kernel_rfl) rfl ?_;refine dv Ea ?_;refine dv Ae ?_;refine dv Ea ?_;refine dv Ae ?_;refine dv vbi ?_;refine dv Ea ?_;refine dv Ae ?_;refine dv vbi ?_
    obtain ⟨n10,p010,q10⟩:=Aj g10
    refine dv (FB (off:=0) (len:=(Is s4).length) n10 p010 (by rw [Ai];exact (lS.1 q10).1) Bo (by decide)) ?_;refine dv (Hm (i:=0+n10) (j:=0) (xs:=Is s4) (.i .i64 x10) ⟨_,by rw [Nat.zero_add];exact BC q10,rfl⟩ AS) ?_;refine dv Ea ?_;refine dv Ae ?_
    obtain ⟨n11,p011,q11⟩:=Aj g11
    refine dv (FB (off:=0) (len:=(Is s4).length) n11 p011 (by rw [Ai];exact (lS.1 q11).1) Bo (by decide)) ?_;refine dv (Hm (i:=0+n11) (j:=0) (xs:=Is s4) (.i .i64 x11) ⟨_,by rw [Nat.zero_add];exact BC q11,rfl⟩ AS) ?_
    obtain ⟨n12,p012,q12⟩:=Aj g12
    refine dv (FB (off:=0) (len:=(Is s4).length) n12 p012 (by rw [Ai];exact (lS.1 q12).1) Bo (by decide)) ?_;refine dz ?_
    refine ⟨?_,?_,?_⟩
    ·intro k hk
     simp only [List.mem_cons,List.not_mem_nil,or_false] at hk
     rcases hk with rfl|rfl|rfl
     ·exact ⟨_,_,_,rfl,rfl,rfl,rfl,rfl,rfl,(show VOK _ _ _ _ _ (.ref (.t 0) 0 (Is s4).length) from by rw [show (Is s4).length=((Is s4).set (Int.toNat s5) (.i .i64 x10)).length by rw [List.length_set]];exact Ea)⟩
     ·exact ⟨_,_,_,rfl,rfl,rfl,rfl,rfl,rfl,Ae⟩
     ·exact ⟨_,_,_,rfl,rfl,rfl,rfl,rfl,rfl,vbi⟩
    ·intro om e hom hge
     cases hom
     refine Iw (x:=.tmp 51) (y:=.tmp 46) (r:=51) (ay:=.t 46) (p:=.t 0) (i:=0+n12) (k:=0) (v:=.i .i64 x10) (x':=.i .i64 x10) rfl rfl rfl rfl D7 ((hge 51 (fun k hk v hv=>by
       simp only [List.mem_cons,List.not_mem_nil,or_false] at hk
       rcases hk with rfl|rfl|rfl
       ·exact (by decide:¬(some 39=some 51)) (congrArg (Option.map Prod.fst) hv)
       ·exact (by decide:¬(some 40=some 51)) (congrArg (Option.map Prod.fst) hv)
       ·exact (by decide:¬(some 41=some 51)) (congrArg (Option.map Prod.fst) hv))).trans rfl) ((hge 0 (fun k hk v hv=>by
       simp only [List.mem_cons,List.not_mem_nil,or_false] at hk
       rcases hk with rfl|rfl|rfl
       ·exact (by decide:¬(some 39=some 0)) (congrArg (Option.map Prod.fst) hv)
       ·exact (by decide:¬(some 40=some 0)) (congrArg (Option.map Prod.fst) hv)
       ·exact (by decide:¬(some 41=some 0)) (congrArg (Option.map Prod.fst) hv))).trans rfl) (fun _ _ h=>by cases h) ((hge 46 (fun k hk v hv=>by
       simp only [List.mem_cons,List.not_mem_nil,or_false] at hk
       rcases hk with rfl|rfl|rfl
       ·exact (by decide:¬(some 39=some 46)) (congrArg (Option.map Prod.fst) hv)
       ·exact (by decide:¬(some 40=some 46)) (congrArg (Option.map Prod.fst) hv)
       ·exact (by decide:¬(some 41=some 46)) (congrArg (Option.map Prod.fst) hv))).trans rfl) rfl ?_ ⟨by rw [show Int.toNat s5=0+n12 from by rw [p012];simp];rfl,rfl⟩
     rw [Nat.zero_add,lD,BC q12];rfl
    rw [show (Is s4).set (Int.toNat s5) (.i .i64 x10)=Is (List.set s4 (Int.toNat s5) x10) from HS _ _ _]
    refine RL.gk [0,1,2,3,8,9,34,37,38,39,40,41,42,43,44,46,47,48,50] ?_
    obtain ⟨x13,g13,h⟩:=bnd h
    obtain ⟨n13,p013,q13⟩:=Aj g13
    refine ixr (off:=0) (len:=(Is s4).length) n13 p013 (by rw [Ai];simpa using (lS.1 q13).1) ?_ Bo (by decide)
    refine UZ (F:=Is) (D:=fun x=>.i .i64 x) HS (us:=(List.set s4 (Int.toNat s5) x10)) (n:=n13) (m:=Int.toNat (w64 (s5-1))) (x:=x11) (by rw [p013];rfl) ⟨_,by rw [Nat.zero_add];exact BC q13,rfl⟩ ?_ D7
    refine RL.gk [0,1,2,3,8,9,34,37,38,39,40,41,42,43,44,46,47,48,50] ?_;refine .nil ?_;refine aw ?_;refine .gk [0,1,2,3,8,9] ?_;refine .region ?_;refine va ?_;refine vb ?_;refine asd ?_;refine .nil ?_;refine AL.gk [0,1,2,3,8,9] ?_
    exact ih (k,(List.set (List.set s4 (Int.toNat s5) x10) (Int.toNat (w64 (s5-1))) x11),(w64 (s5-1))) h (Nat.lt_succ_self _)
   refine cnf (bf hc) ?_;refine .gk [0,1,2,3,8] ?_;refine .exit ?_
   exact jr (s4) h
  rintro z3 h
  try dsimp only at h ⊢
  subst hK1
  refine .region ?_;refine va ?_;refine vb ?_;refine asd ?_;refine .nil ?_;refine AL.gk [0,1,2,3,8] ?_
  exact ih (k,z3,(w64 (s2+1))) h (Nat.lt_succ_self _)
 refine cnf (dF hc) ?_;refine .exit ?_
 cases h
 exact M4 rfl rfl
def DY (a2:Int) (a4:An) (K0:(List Int)→Int→Option ((List Int))) : Nat→(List Int)→Int→Int→Option ((List Int))
 | 0,_,_,_=>none
 | k+1,s3,s4,s5=>(if s4=s5 then (K0 s3 s4) else (if s5<s4 then ((EM s3 (w64 (a2-s4)) a2 s5 a4).bind fun x6=>(DY a2 a4 K0 k x6 (w64 (s4-s5)) s5)) else ((EM s3 (w64 (a2-s4)) (w64 ((w64 (a2+s5))-s4)) s4 a4).bind fun x7=>(DY a2 a4 K0 k x7 s4 (w64 (s5-s4))))))
def Lj (a0:(List Int)) (a1:Int) (a2:Int) (a3:Int) (a4:An) : Option ((List Int)):=(jn (fun (z1:(List Int)) (z2:Int)=>((EM z1 (w64 (a2-z2)) a2 z2 a4).bind fun x8=>(some x8))) fun K0=>(DY a2 a4 K0 AK a0 (w64 (a2-a1)) (w64 (a3-a2))))
theorem PI {a0:(List Int)} {a1:Int} {a2:Int} {a3:Int} {a4:An} (oa4:BB a4) {r:(List Int)} (h:Lj a0 a1 a2 a3 a4=some r) :
  FnG Tryz.prog 260 [.own 3 (Is a0),.d (.i .i64 a1),.d (.i .i64 a2),.d (.i .i64 a3),.d (a4.dv)] [] (.tup []) [.own 3 (Is r)] []:=by
 unfold Lj at h
 refine FnG.of (rs:=[]) 1 58 Tryz.func260 rfl rfl rfl (by simp) (by simp) (by simp) ?_;refine .sr ?_;refine va ?_;refine va ?_;refine vb ?_;refine ar [0,2,3,4,10] ?_;refine .sr ?_;refine va ?_;refine va ?_;refine vb ?_;refine ar [0,2,4,10,11] ?_
 obtain ⟨K0,hK0,h⟩:=AP h
 refine AW.mj (σ:=(List Int)×Int) (fun p=>K0 p.1 p.2=some r) (fun p=>[(0,.own 3 (Is p.1)),(2,.d (.i .i64 a2)),(4,.d (a4.dv)),(10,.d (.i .i64 p.2))]) (fun p=>[]) ?_ ?_
 ·skip
  refine .block ?_
  refine .loop (.gk [0,2,4,10,11] ?_)
  refine AL.ind (σ:=Nat×(List Int)×Int×Int) (m:=fun p=>p.1) (e:=fun p=>[(0,.own 3 (Is p.2.1)),(2,.d (.i .i64 a2)),(4,.d (a4.dv)),(10,.d (.i .i64 p.2.2.1)),(11,.d (.i .i64 p.2.2.2))]) (h:=fun p=>[]) (I:=fun p=>DY a2 a4 K0 p.1 p.2.1 p.2.2.1 p.2.2.2=some r) ?_ (AK,a0,(w64 (a2-a1)),(w64 (a3-a2))) h
  rintro ⟨k,s3,s4,s5⟩ h ih
  dsimp only at h ih ⊢
  rcases k with _|k
  ·rw [DY] at h;cases h
  rw [DY] at h
  refine .seq ?_;refine .sr ?_;refine va ?_;refine va ?_;refine vb ?_;refine rk [0,2,4,10,11,20] ?_
  rcases brc h with ⟨hc,h⟩|⟨hc,h⟩
  ·refine cnf (ntf (dT hc)) ?_
   refine .gk [0,2,4,10] ?_;refine .exit ?_
   exact jr (s3,s4) h
  refine cnt (ntt (dF hc)) ?_;refine .sk ?_;refine .block ?_;refine .sr ?_;refine va ?_;refine va ?_;refine vb ?_;refine rk [0,2,4,10,11,23] ?_
  rcases brc h with ⟨hc,h⟩|⟨hc,h⟩
  ·refine cnt (dT hc) ?_
   refine .sr ?_;refine mvo ?_;refine va ?_;refine va ?_;refine vb ?_;refine va ?_;refine va ?_;refine va ?_
   obtain ⟨x6,g6,h⟩:=bnd h
   refine L0 (Is x6) ?_ (FC oa4 g6) Tryz.call276
   refine RL.gk [0,2,4,10,11,23,25,26,27,28,29,30,31] ?_;refine rk [0,2,4,10,11] ?_;refine .region ?_;refine va ?_;refine va ?_;refine vb ?_;refine asd ?_;refine .nil ?_;refine AL.gk [0,2,4,10,11] ?_
   exact ih (k,x6,(w64 (s4-s5)),s5) h (Nat.lt_succ_self _)
  refine cnf (dF hc) ?_;refine .sr ?_;refine mvo ?_;refine va ?_;refine va ?_;refine vb ?_;refine va ?_;refine va ?_;refine vb ?_;refine va ?_;refine vb ?_;refine va ?_;refine va ?_
  obtain ⟨x7,g7,h⟩:=bnd h
  refine L0 (Is x7) ?_ (FC oa4 g7) Tryz.call276
  refine RL.gk [0,2,4,10,11,23,36,37,38,39,40,41,42,43,44,45,46] ?_;refine rk [0,2,4,10,11] ?_;refine .region ?_;refine va ?_;refine va ?_;refine vb ?_;refine asd ?_;refine .nil ?_;refine AL.gk [0,2,4,10,11] ?_
  exact ih (k,x7,s4,(w64 (s5-s4))) h (Nat.lt_succ_self _)
 rintro ⟨z1,z2⟩ h
 try dsimp only at h ⊢
 subst hK0
 refine .region ?_;refine mvo ?_;refine va ?_;refine va ?_;refine vb ?_;refine va ?_;refine va ?_;refine va ?_
 obtain ⟨x8,g8,h⟩:=bnd h
 refine L0 (Is x8) ?_ (FC oa4 g8) Tryz.call276
 refine RL.gk [0,2,4,10,51,52,53,54,55,56,57] ?_;refine .nil ?_
 cases h
 exact M4 rfl rfl
def Cw (a0:(List Int)) (a1:Int) (a4:An) (K1:Int→Option ((List Int))) : Nat→Int→Int→Option ((List Int))
 | 0,_,_=>none
 | k+1,s2,s3=>(if s2<s3 then ((rd? a0 (IntKind.wrap .i64 ((IntKind.wrap .u64 (w64 (s2+s3))) / 2 ^ min (Int.toNat 1) (IntKind.bits .u64)))).bind fun x4=>((rd? a0 a1).bind fun x5=>((a4.g (x4,x5)).bind fun x6=>(if x6<0 then (Cw a0 a1 a4 K1 k (w64 ((IntKind.wrap .i64 ((IntKind.wrap .u64 (w64 (s2+s3))) / 2 ^ min (Int.toNat 1) (IntKind.bits .u64)))+1)) s3) else (Cw a0 a1 a4 K1 k s2 (IntKind.wrap .i64 ((IntKind.wrap .u64 (w64 (s2+s3))) / 2 ^ min (Int.toNat 1) (IntKind.bits .u64)))))))) else (K1 s2))
def Ds (z1:Int) (K3:(List Int)→Option ((List Int))) : Nat→(List Int)→Int→Option ((List Int))
 | 0,_,_=>none
 | k+1,s8,s9=>(if s9<(w64 (z1-1)) then ((rd? s8 (w64 (s9+1))).bind fun x10=>((rd? s8 s9).bind fun x11=>((rd? s8 s9).bind fun x12=>((rd? (List.set s8 (Int.toNat s9) x10) (w64 (s9+1))).bind fun x13=>(Ds z1 K3 k (List.set (List.set s8 (Int.toNat s9) x10) (Int.toNat (w64 (s9+1))) x11) (w64 (s9+1))))))) else (K3 s8))
def Cy (a0:(List Int)) (a2:Int) (a4:An) (K6:Int→Option ((List Int))) : Nat→Int→Int→Option ((List Int))
 | 0,_,_=>none
 | k+1,s15,s16=>(if s15<s16 then ((rd? a0 a2).bind fun x17=>((rd? a0 (IntKind.wrap .i64 ((IntKind.wrap .u64 (w64 (s15+s16))) / 2 ^ min (Int.toNat 1) (IntKind.bits .u64)))).bind fun x18=>((a4.g (x17,x18)).bind fun x19=>(if x19<0 then (Cy a0 a2 a4 K6 k s15 (IntKind.wrap .i64 ((IntKind.wrap .u64 (w64 (s15+s16))) / 2 ^ min (Int.toNat 1) (IntKind.bits .u64)))) else (Cy a0 a2 a4 K6 k (w64 ((IntKind.wrap .i64 ((IntKind.wrap .u64 (w64 (s15+s16))) / 2 ^ min (Int.toNat 1) (IntKind.bits .u64)))+1)) s16))))) else (K6 s15))
def Dp (z14:Int) (K8:(List Int)→Option ((List Int))) : Nat→(List Int)→Int→Option ((List Int))
 | 0,_,_=>none
 | k+1,s21,s22=>(if z14<s22 then ((rd? s21 (w64 (s22-1))).bind fun x23=>((rd? s21 s22).bind fun x24=>((rd? s21 s22).bind fun x25=>((rd? (List.set s21 (Int.toNat s22) x23) (w64 (s22-1))).bind fun x26=>(Dp z14 K8 k (List.set (List.set s21 (Int.toNat s22) x23) (Int.toNat (w64 (s22-1))) x24) (w64 (s22-1))))))) else (K8 s21))
def Cn (a0:(List Int)) (a1:Int) (a2:Int) (a3:Int) (a4:An) (K11:Int→Option ((List Int))) : Nat→Int→Int→Option ((List Int))
 | 0,_,_=>none
 | k+1,s30,s31=>(if s30<s31 then ((rd? a0 (w64 ((w64 ((w64 ((IntKind.wrap .i64 ((IntKind.wrap .u64 (w64 (a1+a3))) / 2 ^ min (Int.toNat 1) (IntKind.bits .u64)))+a2))-1))-(IntKind.wrap .i64 ((IntKind.wrap .u64 (w64 (s30+s31))) / 2 ^ min (Int.toNat 1) (IntKind.bits .u64)))))).bind fun x32=>((rd? a0 (IntKind.wrap .i64 ((IntKind.wrap .u64 (w64 (s30+s31))) / 2 ^ min (Int.toNat 1) (IntKind.bits .u64)))).bind fun x33=>((a4.g (x32,x33)).bind fun x34=>(if x34<0 then (Cn a0 a1 a2 a3 a4 K11 k s30 (IntKind.wrap .i64 ((IntKind.wrap .u64 (w64 (s30+s31))) / 2 ^ min (Int.toNat 1) (IntKind.bits .u64)))) else (Cn a0 a1 a2 a3 a4 K11 k (w64 ((IntKind.wrap .i64 ((IntKind.wrap .u64 (w64 (s30+s31))) / 2 ^ min (Int.toNat 1) (IntKind.bits .u64)))+1)) s31))))) else (K11 s30))
def FN (rc_slices_symMergeCmpFunc_int:(List Int)→Int→Int→Int→An→Option ((List Int))) (a0:(List Int)) (a1:Int) (a2:Int) (a3:Int) (a4:An) : Option ((List Int)):=(jn ((jn ((jn (fun (z27:Int) (z28:Int)=>(jn (fun (z29:Int)=>(jn (fun (z35:(List Int))=>(jn (fun (z37:(List Int))=>(if ((decide ((IntKind.wrap .i64 ((IntKind.wrap .u64 (w64 (a1+a3))) / 2 ^ min (Int.toNat 1) (IntKind.bits .u64)))<(w64 ((w64 ((IntKind.wrap .i64 ((IntKind.wrap .u64 (w64 (a1+a3))) / 2 ^ min (Int.toNat 1) (IntKind.bits .u64)))+a2))-z29))))&&(decide ((w64 ((w64 ((IntKind.wrap .i64 ((IntKind.wrap .u64 (w64 (a1+a3))) / 2 ^ min (Int.toNat 1) (IntKind.bits .u64)))+a2))-z29))<a3)))=true then ((rc_slices_symMergeCmpFunc_int z37 (IntKind.wrap .i64 ((IntKind.wrap .u64 (w64 (a1+a3))) / 2 ^ min (Int.toNat 1) (IntKind.bits .u64))) (w64 ((w64 ((IntKind.wrap .i64 ((IntKind.wrap .u64 (w64 (a1+a3))) / 2 ^ min (Int.toNat 1) (IntKind.bits .u64)))+a2))-z29)) a3 a4).bind fun x39=>(some x39)) else (some z37))) fun K14=>(if ((decide (a1<z29))&&(decide (z29<(IntKind.wrap .i64 ((IntKind.wrap .u64 (w64 (a1+a3))) / 2 ^ min (Int.toNat 1) (IntKind.bits .u64))))))=true then ((rc_slices_symMergeCmpFunc_int z35 a1 z29 (IntKind.wrap .i64 ((IntKind.wrap .u64 (w64 (a1+a3))) / 2 ^ min (Int.toNat 1) (IntKind.bits .u64))) a4).bind fun x38=>(K14 x38)) else (K14 z35)))) fun K13=>(if ((decide (z29<a2))&&(decide (a2<(w64 ((w64 ((IntKind.wrap .i64 ((IntKind.wrap .u64 (w64 (a1+a3))) / 2 ^ min (Int.toNat 1) (IntKind.bits .u64)))+a2))-z29)))))=true then ((Lj a0 z29 a2 (w64 ((w64 ((IntKind.wrap .i64 ((IntKind.wrap .u64 (w64 (a1+a3))) / 2 ^ min (Int.toNat 1) (IntKind.bits .u64)))+a2))-z29)) a4).bind fun x36=>(K13 x36)) else (K13 a0)))) fun K11=>(Cn a0 a1 a2 a3 a4 K11 AK z27 z28))) fun K10=>(if (IntKind.wrap .i64 ((IntKind.wrap .u64 (w64 (a1+a3))) / 2 ^ min (Int.toNat 1) (IntKind.bits .u64)))<a2 then (K10 (w64 ((w64 ((IntKind.wrap .i64 ((IntKind.wrap .u64 (w64 (a1+a3))) / 2 ^ min (Int.toNat 1) (IntKind.bits .u64)))+a2))-a3)) (IntKind.wrap .i64 ((IntKind.wrap .u64 (w64 (a1+a3))) / 2 ^ min (Int.toNat 1) (IntKind.bits .u64)))) else (K10 a1 a2)))) fun K5=>(if (w64 (a3-a2))=1 then (jn (fun (z14:Int)=>(jn (fun (z20:(List Int))=>(some z20)) fun K8=>(Dp z14 K8 AK a0 a2))) fun K6=>(Cy a0 a2 a4 K6 AK a1 a2)) else (K5)))) fun K0=>(if (w64 (a2-a1))=1 then (jn (fun (z1:Int)=>(jn (fun (z7:(List Int))=>(some z7)) fun K3=>(Ds z1 K3 AK a0 a1))) fun K1=>(Cw a0 a1 a4 K1 AK a2 a3)) else (K0)))
set_option maxHeartbeats 4000000 in
theorem L1 {rc_slices_symMergeCmpFunc_int:(List Int)→Int→Int→Int→An→Option ((List Int))} (orc_slices_symMergeCmpFunc_int:∀ x0 x1 x2 x3 x4 r,BB x4→rc_slices_symMergeCmpFunc_int x0 x1 x2 x3 x4=some r→FnG Tryz.prog 229 [.own 3 (Is x0),.d (.i .i64 x1),.d (.i .i64 x2),.d (.i .i64 x3),.d (x4.dv)] [] (.tup []) [.own 3 (Is r)] []) {a0:(List Int)} {a1:Int} {a2:Int} {a3:Int} {a4:An} (oa4:BB a4) {r:(List Int)} (h:FN rc_slices_symMergeCmpFunc_int a0 a1 a2 a3 a4=some r) :
  FnG Tryz.prog 229 [.own 3 (Is a0),.d (.i .i64 a1),.d (.i .i64 a2),.d (.i .i64 a3),.d (a4.dv)] [] (.tup []) [.own 3 (Is r)] []:=by
 unfold FN at h
 refine FnG.of (rs:=[]) 1 220 Tryz.func229 rfl rfl rfl (by simp) (by simp) (by simp) ?_;refine .seq ?_;refine .sr ?_;refine va ?_;refine va ?_;refine vb ?_;refine vb ?_;refine rk [0,1,2,3,4,28] ?_
 obtain ⟨K0,hK0,h⟩:=AP h
 refine AW.mr (σ:=Unit) (fun p=>K0=some r) (fun p=>[(0,.own 3 (Is a0)),(1,.d (.i .i64 a1)),(2,.d (.i .i64 a2)),(3,.d (.i .i64 a3)),(4,.d (a4.dv))]) (fun p=>[]) ?_ ?_
 ·skip
  rcases brc h with ⟨hc,h⟩|⟨hc,h⟩
  ·refine cnt (dT hc) ?_
   refine .sr ?_;refine va ?_;refine ar [0,1,2,3,4,10] ?_;refine .sr ?_;refine va ?_;refine ar [0,1,2,3,4,10,11] ?_
   obtain ⟨K1,hK1,h⟩:=AP h
   refine AW.mj (σ:=Int) (fun p=>K1 p=some r) (fun p=>[(0,.own 3 (Is a0)),(1,.d (.i .i64 a1)),(2,.d (.i .i64 a2)),(3,.d (.i .i64 a3)),(4,.d (a4.dv)),(10,.d (.i .i64 p))]) (fun p=>[]) ?_ ?_
   ·skip
    refine .block ?_
    refine .loop (.gk [0,1,2,3,4,10,11] ?_)
    refine AL.ind (σ:=Nat×Int×Int) (m:=fun p=>p.1) (e:=fun p=>[(0,.own 3 (Is a0)),(1,.d (.i .i64 a1)),(2,.d (.i .i64 a2)),(3,.d (.i .i64 a3)),(4,.d (a4.dv)),(10,.d (.i .i64 p.2.1)),(11,.d (.i .i64 p.2.2))]) (h:=fun p=>[]) (I:=fun p=>Cw a0 a1 a4 K1 p.1 p.2.1 p.2.2=some r) ?_ (AK,a2,a3) h
    rintro ⟨k,s2,s3⟩ h ih
    dsimp only at h ih ⊢
    rcases k with _|k
    ·rw [Cw] at h;cases h
    rw [Cw] at h
    refine .seq ?_;refine .sr ?_;refine va ?_;refine va ?_;refine vb ?_;refine rk [0,1,2,3,4,10,11,33] ?_
    rcases brc h with ⟨hc,h⟩|⟨hc,h⟩
    ·refine cnt (dT hc) ?_
     refine .sk ?_;refine .block ?_;refine .sr ?_;refine va ?_;refine va ?_;refine vb ?_;refine vk (vcv Gq GA) ?_;refine vk (Pe (c:=(0:Int)≤1) (by decide)) ?_;refine vk (vcv GA Gq) ?_;refine ar [0,1,2,3,4,10,11,12] ?_;refine .seq ?_;refine .drawn 11 A2 (by kernel_rfl) ?_;refine dv Ae ?_;refine dv Ea ?_;refine dv Ae ?_
     obtain ⟨x4,g4,h⟩:=bnd h
     obtain ⟨n4,p04,q4⟩:=Aj g4
     refine dv (FB (off:=0) (len:=(Is a0).length) n4 p04 (by rw [Ai];exact (lS.1 q4).1) Bo (by decide)) ?_;refine dv (Hm (i:=0+n4) (j:=0) (xs:=Is a0) (.i .i64 x4) ⟨_,by rw [Nat.zero_add];exact BC q4,rfl⟩ AS) ?_;refine dv Ea ?_;refine dv Ae ?_
     obtain ⟨x5,g5,h⟩:=bnd h
     obtain ⟨n5,p05,q5⟩:=Aj g5
     refine dv (FB (off:=0) (len:=(Is a0).length) n5 p05 (by rw [Ai];exact (lS.1 q5).1) Bo (by decide)) ?_;refine dv (Hm (i:=0+n5) (j:=0) (xs:=Is a0) (.i .i64 x5) ⟨_,by rw [Nat.zero_add];exact BC q5,rfl⟩ AS) ?_
     obtain ⟨x6,g6,h⟩:=bnd h
     refine dv (MC (oa4 _ _ g6)) ?_;refine dv vbi ?_;refine dz ?_;refine rk [0,1,2,3,4,10,11,12,50] ?_
     rcases brc h with ⟨hc,h⟩|⟨hc,h⟩
     ·refine cnt (dT hc) ?_
      refine .region ?_;refine va ?_;refine vb ?_;refine asd ?_;refine .nil ?_;refine AL.gk [0,1,2,3,4,10,11] ?_
      exact ih (k,(w64 ((IntKind.wrap .i64 ((IntKind.wrap .u64 (w64 (s2+s3))) / 2 ^ min (Int.toNat 1) (IntKind.bits .u64)))+1)),s3) h (Nat.lt_succ_self _)
     refine cnf (dF hc) ?_;refine .region ?_;refine va ?_;refine asd ?_;refine .nil ?_;refine AL.gk [0,1,2,3,4,10,11] ?_
     exact ih (k,s2,(IntKind.wrap .i64 ((IntKind.wrap .u64 (w64 (s2+s3))) / 2 ^ min (Int.toNat 1) (IntKind.bits .u64)))) h (Nat.lt_succ_self _)
    refine cnf (dF hc) ?_;refine .gk [0,1,2,3,4,10] ?_;refine .exit ?_
    exact jr (s2) h
   rintro z1 h
   try dsimp only at h ⊢
   subst hK1
   refine .seq ?_;refine .sr ?_;refine va ?_;refine ar [0,1,2,3,4,10,13] ?_
   obtain ⟨K3,hK3,h⟩:=AP h
   refine AW.mr (σ:=(List Int)) (fun p=>K3 p=some r) (fun p=>[(0,.own 3 (Is p)),(1,.d (.i .i64 a1)),(2,.d (.i .i64 a2)),(3,.d (.i .i64 a3)),(4,.d (a4.dv))]) (fun p=>[]) ?_ ?_
   ·skip
    refine .block ?_
    refine .loop (.gk [0,1,2,3,4,10,13] ?_)
    refine AL.ind (σ:=Nat×(List Int)×Int) (m:=fun p=>p.1) (e:=fun p=>[(0,.own 3 (Is p.2.1)),(1,.d (.i .i64 a1)),(2,.d (.i .i64 a2)),(3,.d (.i .i64 a3)),(4,.d (a4.dv)),(10,.d (.i .i64 z1)),(13,.d (.i .i64 p.2.2))]) (h:=fun p=>[]) (I:=fun p=>Ds z1 K3 p.1 p.2.1 p.2.2=some r) ?_ (AK,a0,a1) h
    rintro ⟨k,s8,s9⟩ h ih
    dsimp only at h ih ⊢
    rcases k with _|k
    ·rw [Ds] at h;cases h
    rw [Ds] at h
    refine .seq ?_;refine .sr ?_;refine va ?_;refine va ?_;refine vb ?_;refine vb ?_;refine rk [0,1,2,3,4,10,13,58] ?_
    rcases brc h with ⟨hc,h⟩|⟨hc,h⟩
    ·refine cnt (dT hc) ?_
     refine .sk ?_;refine .seq ?_;refine .block ?_
     obtain ⟨x10,g10,h⟩:=bnd h
     obtain ⟨x11,g11,h⟩:=bnd h
     obtain ⟨x12,g12,h⟩:=bnd h
     refine .drawnF 15 [2,3,4] [(0,.own 3 ((Is s8).set (Int.toNat s9) (.i .i64 x10)))] [] A2 (by kernel_rfl) rfl ?_;refine dv Ea ?_;refine dv Ae ?_;refine dv Ea ?_;refine dv Ae ?_;refine dv vbi ?_;refine dv Ea ?_;refine dv Ae ?_;refine dv vbi ?_
     obtain ⟨n10,p010,q10⟩:=Aj g10
     refine dv (FB (off:=0) (len:=(Is s8).length) n10 p010 (by rw [Ai];exact (lS.1 q10).1) Bo (by decide)) ?_;refine dv (Hm (i:=0+n10) (j:=0) (xs:=Is s8) (.i .i64 x10) ⟨_,by rw [Nat.zero_add];exact BC q10,rfl⟩ AS) ?_;refine dv Ea ?_;refine dv Ae ?_
     obtain ⟨n11,p011,q11⟩:=Aj g11
     refine dv (FB (off:=0) (len:=(Is s8).length) n11 p011 (by rw [Ai];exact (lS.1 q11).1) Bo (by decide)) ?_;refine dv (Hm (i:=0+n11) (j:=0) (xs:=Is s8) (.i .i64 x11) ⟨_,by rw [Nat.zero_add];exact BC q11,rfl⟩ AS) ?_
     obtain ⟨n12,p012,q12⟩:=Aj g12
     refine dv (FB (off:=0) (len:=(Is s8).length) n12 p012 (by rw [Ai];exact (lS.1 q12).1) Bo (by decide)) ?_;refine dz ?_
     refine ⟨?_,?_,?_⟩
     ·intro k hk
      simp only [List.mem_cons,List.not_mem_nil,or_false] at hk
      rcases hk with rfl|rfl|rfl
      ·exact ⟨_,_,_,rfl,rfl,rfl,rfl,rfl,rfl,(show VOK _ _ _ _ _ (.ref (.t 0) 0 (Is s8).length) from by rw [show (Is s8).length=((Is s8).set (Int.toNat s9) (.i .i64 x10)).length by rw [List.length_set]];exact Ea)⟩
      ·exact ⟨_,_,_,rfl,rfl,rfl,rfl,rfl,rfl,Ae⟩
      ·exact ⟨_,_,_,rfl,rfl,rfl,rfl,rfl,rfl,vbi⟩
     ·intro om e hom hge
      cases hom
      refine Iw (x:=.tmp 75) (y:=.tmp 70) (r:=75) (ay:=.t 70) (p:=.t 0) (i:=0+n12) (k:=0) (v:=.i .i64 x10) (x':=.i .i64 x10) rfl rfl rfl rfl D7 ((hge 75 (fun k hk v hv=>by
        simp only [List.mem_cons,List.not_mem_nil,or_false] at hk
        rcases hk with rfl|rfl|rfl
        ·exact (by decide:¬(some 63=some 75)) (congrArg (Option.map Prod.fst) hv)
        ·exact (by decide:¬(some 64=some 75)) (congrArg (Option.map Prod.fst) hv)
        ·exact (by decide:¬(some 65=some 75)) (congrArg (Option.map Prod.fst) hv))).trans rfl) ((hge 0 (fun k hk v hv=>by
        simp only [List.mem_cons,List.not_mem_nil,or_false] at hk
        rcases hk with rfl|rfl|rfl
        ·exact (by decide:¬(some 63=some 0)) (congrArg (Option.map Prod.fst) hv)
        ·exact (by decide:¬(some 64=some 0)) (congrArg (Option.map Prod.fst) hv)
        ·exact (by decide:¬(some 65=some 0)) (congrArg (Option.map Prod.fst) hv))).trans rfl) (fun _ _ h=>by cases h) ((hge 70 (fun k hk v hv=>by
        simp only [List.mem_cons,List.not_mem_nil,or_false] at hk
        rcases hk with rfl|rfl|rfl
        ·exact (by decide:¬(some 63=some 70)) (congrArg (Option.map Prod.fst) hv)
        ·exact (by decide:¬(some 64=some 70)) (congrArg (Option.map Prod.fst) hv)
        ·exact (by decide:¬(some 65=some 70)) (congrArg (Option.map Prod.fst) hv))).trans rfl) rfl ?_ ⟨by rw [show Int.toNat s9=0+n12 from by rw [p012];simp];rfl,rfl⟩
      rw [Nat.zero_add,lD,BC q12];rfl
     rw [show (Is s8).set (Int.toNat s9) (.i .i64 x10)=Is (List.set s8 (Int.toNat s9) x10) from HS _ _ _]
     refine RL.gk [0,1,2,3,4,10,13,58,61,62,63,64,65,66,67,68,70,71,72,74] ?_
     obtain ⟨x13,g13,h⟩:=bnd h
     obtain ⟨n13,p013,q13⟩:=Aj g13
     refine ixr (off:=0) (len:=(Is s8).length) n13 p013 (by rw [Ai];simpa using (lS.1 q13).1) ?_ Bo (by decide)
     refine UZ (F:=Is) (D:=fun x=>.i .i64 x) HS (us:=(List.set s8 (Int.toNat s9) x10)) (n:=n13) (m:=Int.toNat (w64 (s9+1))) (x:=x11) (by rw [p013];rfl) ⟨_,by rw [Nat.zero_add];exact BC q13,rfl⟩ ?_ D7
     refine RL.gk [0,1,2,3,4,10,13,58,61,62,63,64,65,66,67,68,70,71,72,74] ?_;refine .nil ?_;refine aw ?_;refine .gk [0,1,2,3,4,10,13] ?_;refine .region ?_;refine va ?_;refine vb ?_;refine asd ?_;refine .nil ?_;refine AL.gk [0,1,2,3,4,10,13] ?_
     exact ih (k,(List.set (List.set s8 (Int.toNat s9) x10) (Int.toNat (w64 (s9+1))) x11),(w64 (s9+1))) h (Nat.lt_succ_self _)
    refine cnf (dF hc) ?_;refine .gk [0,1,2,3,4] ?_;refine .exit ?_
    exact jr (s8) h
   rintro z7 h
   try dsimp only at h ⊢
   subst hK3
   refine aw ?_;refine .ret ?_
   cases h
   exact XY rfl rfl
  refine cnf (dF hc) ?_;refine .gk [0,1,2,3,4] ?_;refine .skip ?_
  exact jr () h
 rintro _ h
 subst hK0
 refine aw ?_;refine .seq ?_;refine .sr ?_;refine va ?_;refine va ?_;refine vb ?_;refine vb ?_;refine rk [0,1,2,3,4,80] ?_
 obtain ⟨K5,hK5,h⟩:=AP h
 refine AW.mr (σ:=Unit) (fun p=>K5=some r) (fun p=>[(0,.own 3 (Is a0)),(1,.d (.i .i64 a1)),(2,.d (.i .i64 a2)),(3,.d (.i .i64 a3)),(4,.d (a4.dv))]) (fun p=>[]) ?_ ?_
 ·skip
  rcases brc h with ⟨hc,h⟩|⟨hc,h⟩
  ·refine cnt (dT hc) ?_
   refine .sr ?_;refine va ?_;refine ar [0,1,2,3,4,14] ?_;refine .sr ?_;refine va ?_;refine ar [0,1,2,3,4,14,15] ?_
   obtain ⟨K6,hK6,h⟩:=AP h
   refine AW.mj (σ:=Int) (fun p=>K6 p=some r) (fun p=>[(0,.own 3 (Is a0)),(1,.d (.i .i64 a1)),(2,.d (.i .i64 a2)),(3,.d (.i .i64 a3)),(4,.d (a4.dv)),(14,.d (.i .i64 p))]) (fun p=>[]) ?_ ?_
   ·skip
    refine .block ?_
    refine .loop (.gk [0,1,2,3,4,14,15] ?_)
    refine AL.ind (σ:=Nat×Int×Int) (m:=fun p=>p.1) (e:=fun p=>[(0,.own 3 (Is a0)),(1,.d (.i .i64 a1)),(2,.d (.i .i64 a2)),(3,.d (.i .i64 a3)),(4,.d (a4.dv)),(14,.d (.i .i64 p.2.1)),(15,.d (.i .i64 p.2.2))]) (h:=fun p=>[]) (I:=fun p=>Cy a0 a2 a4 K6 p.1 p.2.1 p.2.2=some r) ?_ (AK,a1,a2) h
    rintro ⟨k,s15,s16⟩ h ih
    dsimp only at h ih ⊢
    rcases k with _|k
    ·rw [Cy] at h;cases h
    rw [Cy] at h
    refine .seq ?_;refine .sr ?_;refine va ?_;refine va ?_;refine vb ?_;refine rk [0,1,2,3,4,14,15,85] ?_
    rcases brc h with ⟨hc,h⟩|⟨hc,h⟩
    ·refine cnt (dT hc) ?_
     refine .sk ?_;refine .block ?_;refine .sr ?_;refine va ?_;refine va ?_;refine vb ?_;refine vk (vcv Gq GA) ?_;refine vk (Pe (c:=(0:Int)≤1) (by decide)) ?_;refine vk (vcv GA Gq) ?_;refine ar [0,1,2,3,4,14,15,16] ?_;refine .seq ?_;refine .drawn 12 A2 (by kernel_rfl) ?_;refine dv Ae ?_;refine dv Ea ?_;refine dv Ae ?_
     obtain ⟨x17,g17,h⟩:=bnd h
     obtain ⟨n17,p017,q17⟩:=Aj g17
     refine dv (FB (off:=0) (len:=(Is a0).length) n17 p017 (by rw [Ai];exact (lS.1 q17).1) Bo (by decide)) ?_;refine dv (Hm (i:=0+n17) (j:=0) (xs:=Is a0) (.i .i64 x17) ⟨_,by rw [Nat.zero_add];exact BC q17,rfl⟩ AS) ?_;refine dv Ea ?_;refine dv Ae ?_
     obtain ⟨x18,g18,h⟩:=bnd h
     obtain ⟨n18,p018,q18⟩:=Aj g18
     refine dv (FB (off:=0) (len:=(Is a0).length) n18 p018 (by rw [Ai];exact (lS.1 q18).1) Bo (by decide)) ?_;refine dv (Hm (i:=0+n18) (j:=0) (xs:=Is a0) (.i .i64 x18) ⟨_,by rw [Nat.zero_add];exact BC q18,rfl⟩ AS) ?_
     obtain ⟨x19,g19,h⟩:=bnd h
     refine dv (MC (oa4 _ _ g19)) ?_;refine dv vbi ?_;refine dv vnt ?_;refine dz ?_;refine rk [0,1,2,3,4,14,15,16,103] ?_
     rcases brc h with ⟨hc,h⟩|⟨hc,h⟩
     ·refine cnf (ntf (dT hc)) ?_
      refine .region ?_;refine va ?_;refine asd ?_;refine .nil ?_;refine AL.gk [0,1,2,3,4,14,15] ?_
      exact ih (k,s15,(IntKind.wrap .i64 ((IntKind.wrap .u64 (w64 (s15+s16))) / 2 ^ min (Int.toNat 1) (IntKind.bits .u64)))) h (Nat.lt_succ_self _)
     refine cnt (ntt (dF hc)) ?_;refine .region ?_;refine va ?_;refine vb ?_;refine asd ?_;refine .nil ?_;refine AL.gk [0,1,2,3,4,14,15] ?_
     exact ih (k,(w64 ((IntKind.wrap .i64 ((IntKind.wrap .u64 (w64 (s15+s16))) / 2 ^ min (Int.toNat 1) (IntKind.bits .u64)))+1)),s16) h (Nat.lt_succ_self _)
    refine cnf (dF hc) ?_;refine .gk [0,1,2,3,4,14] ?_;refine .exit ?_
    exact jr (s15) h
   rintro z14 h
   try dsimp only at h ⊢
   subst hK6
   refine .seq ?_;refine .sr ?_;refine va ?_;refine ar [0,1,2,3,4,14,17] ?_
   obtain ⟨K8,hK8,h⟩:=AP h
   refine AW.mr (σ:=(List Int)) (fun p=>K8 p=some r) (fun p=>[(0,.own 3 (Is p)),(1,.d (.i .i64 a1)),(2,.d (.i .i64 a2)),(3,.d (.i .i64 a3)),(4,.d (a4.dv))]) (fun p=>[]) ?_ ?_
   ·skip
    refine .block ?_
    refine .loop (.gk [0,1,2,3,4,14,17] ?_)
    refine AL.ind (σ:=Nat×(List Int)×Int) (m:=fun p=>p.1) (e:=fun p=>[(0,.own 3 (Is p.2.1)),(1,.d (.i .i64 a1)),(2,.d (.i .i64 a2)),(3,.d (.i .i64 a3)),(4,.d (a4.dv)),(14,.d (.i .i64 z14)),(17,.d (.i .i64 p.2.2))]) (h:=fun p=>[]) (I:=fun p=>Dp z14 K8 p.1 p.2.1 p.2.2=some r) ?_ (AK,a0,a2) h
    rintro ⟨k,s21,s22⟩ h ih
    dsimp only at h ih ⊢
    rcases k with _|k
    ·rw [Dp] at h;cases h
    rw [Dp] at h
    refine .seq ?_;refine .sr ?_;refine va ?_;refine va ?_;refine vb ?_;refine rk [0,1,2,3,4,14,17,110] ?_
    rcases brc h with ⟨hc,h⟩|⟨hc,h⟩
    ·refine cnt (dT hc) ?_
     refine .sk ?_;refine .seq ?_;refine .block ?_
     obtain ⟨x23,g23,h⟩:=bnd h
     obtain ⟨x24,g24,h⟩:=bnd h
     obtain ⟨x25,g25,h⟩:=bnd h
     refine .drawnF 15 [2,3,4] [(0,.own 3 ((Is s21).set (Int.toNat s22) (.i .i64 x23)))] [] A2 (by kernel_rfl) rfl ?_;refine dv Ea ?_;refine dv Ae ?_;refine dv Ea ?_;refine dv Ae ?_;refine dv vbi ?_;refine dv Ea ?_;refine dv Ae ?_;refine dv vbi ?_
     obtain ⟨n23,p023,q23⟩:=Aj g23
     refine dv (FB (off:=0) (len:=(Is s21).length) n23 p023 (by rw [Ai];exact (lS.1 q23).1) Bo (by decide)) ?_;refine dv (Hm (i:=0+n23) (j:=0) (xs:=Is s21) (.i .i64 x23) ⟨_,by rw [Nat.zero_add];exact BC q23,rfl⟩ AS) ?_;refine dv Ea ?_;refine dv Ae ?_
     obtain ⟨n24,p024,q24⟩:=Aj g24
     refine dv (FB (off:=0) (len:=(Is s21).length) n24 p024 (by rw [Ai];exact (lS.1 q24).1) Bo (by decide)) ?_;refine dv (Hm (i:=0+n24) (j:=0) (xs:=Is s21) (.i .i64 x24) ⟨_,by rw [Nat.zero_add];exact BC q24,rfl⟩ AS) ?_
     obtain ⟨n25,p025,q25⟩:=Aj g25
     refine dv (FB (off:=0) (len:=(Is s21).length) n25 p025 (by rw [Ai];exact (lS.1 q25).1) Bo (by decide)) ?_;refine dz ?_
     refine ⟨?_,?_,?_⟩
     ·intro k hk
      simp only [List.mem_cons,List.not_mem_nil,or_false] at hk
      rcases hk with rfl|rfl|rfl
      ·exact ⟨_,_,_,rfl,rfl,rfl,rfl,rfl,rfl,(show VOK _ _ _ _ _ (.ref (.t 0) 0 (Is s21).length) from by rw [show (Is s21).length=((Is s21).set (Int.toNat s22) (.i .i64 x23)).length by rw [List.length_set]];exact Ea)⟩
      ·exact ⟨_,_,_,rfl,rfl,rfl,rfl,rfl,rfl,Ae⟩
      ·exact ⟨_,_,_,rfl,rfl,rfl,rfl,rfl,rfl,vbi⟩
     ·intro om e hom hge
      cases hom
      refine Iw (x:=.tmp 127) (y:=.tmp 122) (r:=127) (ay:=.t 122) (p:=.t 0) (i:=0+n25) (k:=0) (v:=.i .i64 x23) (x':=.i .i64 x23) rfl rfl rfl rfl D7 ((hge 127 (fun k hk v hv=>by
        simp only [List.mem_cons,List.not_mem_nil,or_false] at hk
        rcases hk with rfl|rfl|rfl
        ·exact (by decide:¬(some 115=some 127)) (congrArg (Option.map Prod.fst) hv)
        ·exact (by decide:¬(some 116=some 127)) (congrArg (Option.map Prod.fst) hv)
        ·exact (by decide:¬(some 117=some 127)) (congrArg (Option.map Prod.fst) hv))).trans rfl) ((hge 0 (fun k hk v hv=>by
        simp only [List.mem_cons,List.not_mem_nil,or_false] at hk
        rcases hk with rfl|rfl|rfl
        ·exact (by decide:¬(some 115=some 0)) (congrArg (Option.map Prod.fst) hv)
        ·exact (by decide:¬(some 116=some 0)) (congrArg (Option.map Prod.fst) hv)
        ·exact (by decide:¬(some 117=some 0)) (congrArg (Option.map Prod.fst) hv))).trans rfl) (fun _ _ h=>by cases h) ((hge 122 (fun k hk v hv=>by
        simp only [List.mem_cons,List.not_mem_nil,or_false] at hk
        rcases hk with rfl|rfl|rfl
        ·exact (by decide:¬(some 115=some 122)) (congrArg (Option.map Prod.fst) hv)
        ·exact (by decide:¬(some 116=some 122)) (congrArg (Option.map Prod.fst) hv)
        ·exact (by decide:¬(some 117=some 122)) (congrArg (Option.map Prod.fst) hv))).trans rfl) rfl ?_ ⟨by rw [show Int.toNat s22=0+n25 from by rw [p025];simp];rfl,rfl⟩
      rw [Nat.zero_add,lD,BC q25];rfl
     rw [show (Is s21).set (Int.toNat s22) (.i .i64 x23)=Is (List.set s21 (Int.toNat s22) x23) from HS _ _ _]
     refine RL.gk [0,1,2,3,4,14,17,110,113,114,115,116,117,118,119,120,122,123,124,126] ?_
     obtain ⟨x26,g26,h⟩:=bnd h
     obtain ⟨n26,p026,q26⟩:=Aj g26
     refine ixr (off:=0) (len:=(Is s21).length) n26 p026 (by rw [Ai];simpa using (lS.1 q26).1) ?_ Bo (by decide)
     refine UZ (F:=Is) (D:=fun x=>.i .i64 x) HS (us:=(List.set s21 (Int.toNat s22) x23)) (n:=n26) (m:=Int.toNat (w64 (s22-1))) (x:=x24) (by rw [p026];rfl) ⟨_,by rw [Nat.zero_add];exact BC q26,rfl⟩ ?_ D7
     refine RL.gk [0,1,2,3,4,14,17,110,113,114,115,116,117,118,119,120,122,123,124,126] ?_;refine .nil ?_;refine aw ?_;refine .gk [0,1,2,3,4,14,17] ?_;refine .region ?_;refine va ?_;refine vb ?_;refine asd ?_;refine .nil ?_;refine AL.gk [0,1,2,3,4,14,17] ?_
     exact ih (k,(List.set (List.set s21 (Int.toNat s22) x23) (Int.toNat (w64 (s22-1))) x24),(w64 (s22-1))) h (Nat.lt_succ_self _)
    refine cnf (dF hc) ?_;refine .gk [0,1,2,3,4] ?_;refine .exit ?_
    exact jr (s21) h
   rintro z20 h
   try dsimp only at h ⊢
   subst hK8
   refine aw ?_;refine .ret ?_
   cases h
   exact XY rfl rfl
  refine cnf (dF hc) ?_;refine .gk [0,1,2,3,4] ?_;refine .skip ?_
  exact jr () h
 rintro _ h
 subst hK5
 refine aw ?_;refine .sr ?_;refine va ?_;refine va ?_;refine vb ?_;refine vk (vcv Gq GA) ?_;refine vk (Pe (c:=(0:Int)≤1) (by decide)) ?_;refine vk (vcv GA Gq) ?_;refine ar [0,1,2,3,4,18] ?_;refine .sr ?_;refine va ?_;refine va ?_;refine vb ?_;refine ar [0,1,2,3,4,18,19] ?_;refine .sr ?_;refine asd ?_;refine ar [0,1,2,3,4,18,19] ?_;refine .seq ?_;refine .sr ?_;refine va ?_;refine va ?_;refine vb ?_;refine rk [0,1,2,3,4,18,19,140] ?_
 obtain ⟨K10,hK10,h⟩:=AP h
 refine AW.mr (σ:=Int×Int) (fun p=>K10 p.1 p.2=some r) (fun p=>[(0,.own 3 (Is a0)),(1,.d (.i .i64 a1)),(2,.d (.i .i64 a2)),(3,.d (.i .i64 a3)),(4,.d (a4.dv)),(18,.d (.i .i64 (IntKind.wrap .i64 ((IntKind.wrap .u64 (w64 (a1+a3))) / 2 ^ min (Int.toNat 1) (IntKind.bits .u64))))),(19,.d (.i .i64 (w64 ((IntKind.wrap .i64 ((IntKind.wrap .u64 (w64 (a1+a3))) / 2 ^ min (Int.toNat 1) (IntKind.bits .u64)))+a2)))),(20,.d (.i .i64 p.1)),(21,.d (.i .i64 p.2))]) (fun p=>[]) ?_ ?_
 ·skip
  rcases brc h with ⟨hc,h⟩|⟨hc,h⟩
  ·refine cnt (dT hc) ?_
   refine .sr ?_;refine va ?_;refine va ?_;refine vb ?_;refine ar [0,1,2,3,4,18,19,20] ?_;refine .region ?_;refine va ?_;refine asd ?_;refine RL.gk [0,1,2,3,4,18,19,20,21] ?_;refine .nil ?_
   exact jr ((w64 ((w64 ((IntKind.wrap .i64 ((IntKind.wrap .u64 (w64 (a1+a3))) / 2 ^ min (Int.toNat 1) (IntKind.bits .u64)))+a2))-a3)),(IntKind.wrap .i64 ((IntKind.wrap .u64 (w64 (a1+a3))) / 2 ^ min (Int.toNat 1) (IntKind.bits .u64)))) h
  refine cnf (dF hc) ?_;refine .sr ?_;refine va ?_;refine ar [0,1,2,3,4,18,19,20] ?_;refine .region ?_;refine va ?_;refine asd ?_;refine RL.gk [0,1,2,3,4,18,19,20,21] ?_;refine .nil ?_
  exact jr (a1,a2) h
 rintro ⟨z27,z28⟩ h
 try dsimp only at h ⊢
 subst hK10
 refine aw ?_;refine .sr ?_;refine va ?_;refine vb ?_;refine ar [0,1,2,3,4,18,19,20,21,22] ?_
 obtain ⟨K11,hK11,h⟩:=AP h
 refine AW.mj (σ:=Int) (fun p=>K11 p=some r) (fun p=>[(0,.own 3 (Is a0)),(1,.d (.i .i64 a1)),(2,.d (.i .i64 a2)),(3,.d (.i .i64 a3)),(4,.d (a4.dv)),(18,.d (.i .i64 (IntKind.wrap .i64 ((IntKind.wrap .u64 (w64 (a1+a3))) / 2 ^ min (Int.toNat 1) (IntKind.bits .u64))))),(19,.d (.i .i64 (w64 ((IntKind.wrap .i64 ((IntKind.wrap .u64 (w64 (a1+a3))) / 2 ^ min (Int.toNat 1) (IntKind.bits .u64)))+a2)))),(20,.d (.i .i64 p))]) (fun p=>[]) ?_ ?_
 ·skip
  refine .block ?_
  refine .loop (.gk [0,1,2,3,4,18,19,20,21,22] ?_)
  refine AL.ind (σ:=Nat×Int×Int) (m:=fun p=>p.1) (e:=fun p=>[(0,.own 3 (Is a0)),(1,.d (.i .i64 a1)),(2,.d (.i .i64 a2)),(3,.d (.i .i64 a3)),(4,.d (a4.dv)),(18,.d (.i .i64 (IntKind.wrap .i64 ((IntKind.wrap .u64 (w64 (a1+a3))) / 2 ^ min (Int.toNat 1) (IntKind.bits .u64))))),(19,.d (.i .i64 (w64 ((IntKind.wrap .i64 ((IntKind.wrap .u64 (w64 (a1+a3))) / 2 ^ min (Int.toNat 1) (IntKind.bits .u64)))+a2)))),(20,.d (.i .i64 p.2.1)),(21,.d (.i .i64 p.2.2)),(22,.d (.i .i64 (w64 ((w64 ((IntKind.wrap .i64 ((IntKind.wrap .u64 (w64 (a1+a3))) / 2 ^ min (Int.toNat 1) (IntKind.bits .u64)))+a2))-1))))]) (h:=fun p=>[]) (I:=fun p=>Cn a0 a1 a2 a3 a4 K11 p.1 p.2.1 p.2.2=some r) ?_ (AK,z27,z28) h
  rintro ⟨k,s30,s31⟩ h ih
  dsimp only at h ih ⊢
  rcases k with _|k
  ·rw [Cn] at h;cases h
  rw [Cn] at h
  refine .seq ?_;refine .sr ?_;refine va ?_;refine va ?_;refine vb ?_;refine rk [0,1,2,3,4,18,19,20,21,22,151] ?_
  rcases brc h with ⟨hc,h⟩|⟨hc,h⟩
  ·refine cnt (dT hc) ?_
   refine .sk ?_;refine .block ?_;refine .sr ?_;refine va ?_;refine va ?_;refine vb ?_;refine vk (vcv Gq GA) ?_;refine vk (Pe (c:=(0:Int)≤1) (by decide)) ?_;refine vk (vcv GA Gq) ?_;refine ar [0,1,2,3,4,18,19,20,21,22,23] ?_;refine .seq ?_;refine .drawn 14 A2 (by kernel_rfl) ?_;refine dv Ae ?_;refine dv Ea ?_;refine dv Ae ?_;refine dv Ae ?_;refine dv vbi ?_
   obtain ⟨x32,g32,h⟩:=bnd h
   obtain ⟨n32,p032,q32⟩:=Aj g32
   refine dv (FB (off:=0) (len:=(Is a0).length) n32 p032 (by rw [Ai];exact (lS.1 q32).1) Bo (by decide)) ?_;refine dv (Hm (i:=0+n32) (j:=0) (xs:=Is a0) (.i .i64 x32) ⟨_,by rw [Nat.zero_add];exact BC q32,rfl⟩ AS) ?_;refine dv Ea ?_;refine dv Ae ?_
   obtain ⟨x33,g33,h⟩:=bnd h
   obtain ⟨n33,p033,q33⟩:=Aj g33
   refine dv (FB (off:=0) (len:=(Is a0).length) n33 p033 (by rw [Ai];exact (lS.1 q33).1) Bo (by decide)) ?_;refine dv (Hm (i:=0+n33) (j:=0) (xs:=Is a0) (.i .i64 x33) ⟨_,by rw [Nat.zero_add];exact BC q33,rfl⟩ AS) ?_
   obtain ⟨x34,g34,h⟩:=bnd h
   refine dv (MC (oa4 _ _ g34)) ?_;refine dv vbi ?_;refine dv vnt ?_;refine dz ?_;refine rk [0,1,2,3,4,18,19,20,21,22,23,171] ?_
   rcases brc h with ⟨hc,h⟩|⟨hc,h⟩
   ·refine cnf (ntf (dT hc)) ?_
    refine .region ?_;refine va ?_;refine asd ?_;refine .nil ?_;refine AL.gk [0,1,2,3,4,18,19,20,21,22] ?_
    exact ih (k,s30,(IntKind.wrap .i64 ((IntKind.wrap .u64 (w64 (s30+s31))) / 2 ^ min (Int.toNat 1) (IntKind.bits .u64)))) h (Nat.lt_succ_self _)
   refine cnt (ntt (dF hc)) ?_;refine .region ?_;refine va ?_;refine vb ?_;refine asd ?_;refine .nil ?_;refine AL.gk [0,1,2,3,4,18,19,20,21,22] ?_
   exact ih (k,(w64 ((IntKind.wrap .i64 ((IntKind.wrap .u64 (w64 (s30+s31))) / 2 ^ min (Int.toNat 1) (IntKind.bits .u64)))+1)),s31) h (Nat.lt_succ_self _)
  refine cnf (dF hc) ?_;refine .gk [0,1,2,3,4,18,19,20] ?_;refine .exit ?_
  exact jr (s30) h
 rintro z29 h
 try dsimp only at h ⊢
 subst hK11
 refine .sr ?_;refine va ?_;refine va ?_;refine vb ?_;refine ar [0,1,2,3,4,18,20,24] ?_;refine .seq ?_;refine .seq ?_;refine AW.mr (σ:=Unit) (fun _=>True) (fun _=>[(0,.own 3 (Is a0)),(1,.d (.i .i64 a1)),(2,.d (.i .i64 a2)),(3,.d (.i .i64 a3)),(4,.d (a4.dv)),(18,.d (.i .i64 (IntKind.wrap .i64 ((IntKind.wrap .u64 (w64 (a1+a3))) / 2 ^ min (Int.toNat 1) (IntKind.bits .u64))))),(20,.d (.i .i64 z29)),(24,.d (.i .i64 (w64 ((w64 ((IntKind.wrap .i64 ((IntKind.wrap .u64 (w64 (a1+a3))) / 2 ^ min (Int.toNat 1) (IntKind.bits .u64)))+a2))-z29)))),(185,.d (.b ((decide (z29<a2))&&(decide (a2<(w64 ((w64 ((IntKind.wrap .i64 ((IntKind.wrap .u64 (w64 (a1+a3))) / 2 ^ min (Int.toNat 1) (IntKind.bits .u64)))+a2))-z29)))))))]) (fun _=>[]) ?_ ?_
 ·skip
  refine .region ?_;refine va ?_;refine va ?_;refine vb ?_
  by_cases hc:z29<a2
  ·have hb0:(decide (z29<a2))=true:=(dT hc)
   refine vL hb0 ?_;refine va ?_;refine va ?_;refine vb ?_;refine vk Ag ?_;refine RL.gk [0,1,2,3,4,18,20,24,185] ?_;refine .nil ?_
   exact jr () trivial (by simp only [hb0];rfl)
  have hb0:(decide (z29<a2))=false:=(dF hc)
  refine vL hb0 ?_;refine gf3 ?_;refine vk Ag ?_;refine RL.gk [0,1,2,3,4,18,20,24,185] ?_;refine .nil ?_
  exact jr () trivial (by simp only [hb0];rfl)
 rintro _ _
 obtain ⟨K13,hK13,h⟩:=AP h
 refine AW.mr (σ:=(List Int)) (fun p=>K13 p=some r) (fun p=>[(0,.own 3 (Is p)),(1,.d (.i .i64 a1)),(3,.d (.i .i64 a3)),(4,.d (a4.dv)),(18,.d (.i .i64 (IntKind.wrap .i64 ((IntKind.wrap .u64 (w64 (a1+a3))) / 2 ^ min (Int.toNat 1) (IntKind.bits .u64))))),(20,.d (.i .i64 z29)),(24,.d (.i .i64 (w64 ((w64 ((IntKind.wrap .i64 ((IntKind.wrap .u64 (w64 (a1+a3))) / 2 ^ min (Int.toNat 1) (IntKind.bits .u64)))+a2))-z29))))]) (fun p=>[]) ?_ ?_
 ·skip
  rcases brc h with ⟨hc,h⟩|⟨hc,h⟩
  ·refine cnt hc ?_
   refine .region ?_;refine mvo ?_;refine va ?_;refine va ?_;refine va ?_;refine va ?_
   obtain ⟨x36,g36,h⟩:=bnd h
   refine L0 (Is x36) ?_ (PI oa4 g36) Tryz.call260
   refine RL.gk [0,1,2,3,4,18,20,24,185,187,188,189,190,191] ?_;refine RL.gk [0,1,3,4,18,20,24] ?_;refine .nil ?_
   exact jr (x36) h
  refine cnf (bf hc) ?_;refine .gk [0,1,3,4,18,20,24] ?_;refine .skip ?_
  exact jr (a0) h
 rintro z35 h
 try dsimp only at h ⊢
 subst hK13
 refine aw ?_;refine .seq ?_;refine .seq ?_;refine AW.mr (σ:=Unit) (fun _=>True) (fun _=>[(0,.own 3 (Is z35)),(1,.d (.i .i64 a1)),(3,.d (.i .i64 a3)),(4,.d (a4.dv)),(18,.d (.i .i64 (IntKind.wrap .i64 ((IntKind.wrap .u64 (w64 (a1+a3))) / 2 ^ min (Int.toNat 1) (IntKind.bits .u64))))),(20,.d (.i .i64 z29)),(24,.d (.i .i64 (w64 ((w64 ((IntKind.wrap .i64 ((IntKind.wrap .u64 (w64 (a1+a3))) / 2 ^ min (Int.toNat 1) (IntKind.bits .u64)))+a2))-z29)))),(199,.d (.b ((decide (a1<z29))&&(decide (z29<(IntKind.wrap .i64 ((IntKind.wrap .u64 (w64 (a1+a3))) / 2 ^ min (Int.toNat 1) (IntKind.bits .u64))))))))]) (fun _=>[]) ?_ ?_
 ·skip
  refine .region ?_;refine va ?_;refine va ?_;refine vb ?_
  by_cases hc:a1<z29
  ·have hb0:(decide (a1<z29))=true:=(dT hc)
   refine vL hb0 ?_;refine va ?_;refine va ?_;refine vb ?_;refine vk Ag ?_;refine RL.gk [0,1,3,4,18,20,24,199] ?_;refine .nil ?_
   exact jr () trivial (by simp only [hb0];rfl)
  have hb0:(decide (a1<z29))=false:=(dF hc)
  refine vL hb0 ?_;refine gf3 ?_;refine vk Ag ?_;refine RL.gk [0,1,3,4,18,20,24,199] ?_;refine .nil ?_
  exact jr () trivial (by simp only [hb0];rfl)
 rintro _ _
 obtain ⟨K14,hK14,h⟩:=AP h
 refine AW.mr (σ:=(List Int)) (fun p=>K14 p=some r) (fun p=>[(0,.own 3 (Is p)),(3,.d (.i .i64 a3)),(4,.d (a4.dv)),(18,.d (.i .i64 (IntKind.wrap .i64 ((IntKind.wrap .u64 (w64 (a1+a3))) / 2 ^ min (Int.toNat 1) (IntKind.bits .u64))))),(24,.d (.i .i64 (w64 ((w64 ((IntKind.wrap .i64 ((IntKind.wrap .u64 (w64 (a1+a3))) / 2 ^ min (Int.toNat 1) (IntKind.bits .u64)))+a2))-z29))))]) (fun p=>[]) ?_ ?_
 ·skip
  rcases brc h with ⟨hc,h⟩|⟨hc,h⟩
  ·refine cnt hc ?_
   refine .region ?_;refine mvo ?_;refine va ?_;refine va ?_;refine va ?_;refine va ?_
   obtain ⟨x38,g38,h⟩:=bnd h
   refine L0 (Is x38) ?_ (orc_slices_symMergeCmpFunc_int _ _ _ _ _ _ oa4 g38) Tryz.call229
   refine RL.gk [0,1,3,4,18,20,24,199,201,202,203,204,205] ?_;refine RL.gk [0,3,4,18,24] ?_;refine .nil ?_
   exact jr (x38) h
  refine cnf (bf hc) ?_;refine .gk [0,3,4,18,24] ?_;refine .skip ?_
  exact jr (z35) h
 rintro z37 h
 try dsimp only at h ⊢
 subst hK14
 refine aw ?_;refine .seq ?_;refine AW.mr (σ:=Unit) (fun _=>True) (fun _=>[(0,.own 3 (Is z37)),(3,.d (.i .i64 a3)),(4,.d (a4.dv)),(18,.d (.i .i64 (IntKind.wrap .i64 ((IntKind.wrap .u64 (w64 (a1+a3))) / 2 ^ min (Int.toNat 1) (IntKind.bits .u64))))),(24,.d (.i .i64 (w64 ((w64 ((IntKind.wrap .i64 ((IntKind.wrap .u64 (w64 (a1+a3))) / 2 ^ min (Int.toNat 1) (IntKind.bits .u64)))+a2))-z29)))),(213,.d (.b ((decide ((IntKind.wrap .i64 ((IntKind.wrap .u64 (w64 (a1+a3))) / 2 ^ min (Int.toNat 1) (IntKind.bits .u64)))<(w64 ((w64 ((IntKind.wrap .i64 ((IntKind.wrap .u64 (w64 (a1+a3))) / 2 ^ min (Int.toNat 1) (IntKind.bits .u64)))+a2))-z29))))&&(decide ((w64 ((w64 ((IntKind.wrap .i64 ((IntKind.wrap .u64 (w64 (a1+a3))) / 2 ^ min (Int.toNat 1) (IntKind.bits .u64)))+a2))-z29))<a3)))))]) (fun _=>[]) ?_ ?_
 ·skip
  refine .region ?_;refine va ?_;refine va ?_;refine vb ?_
  by_cases hc:(IntKind.wrap .i64 ((IntKind.wrap .u64 (w64 (a1+a3))) / 2 ^ min (Int.toNat 1) (IntKind.bits .u64)))<(w64 ((w64 ((IntKind.wrap .i64 ((IntKind.wrap .u64 (w64 (a1+a3))) / 2 ^ min (Int.toNat 1) (IntKind.bits .u64)))+a2))-z29))
  ·have hb0:(decide ((IntKind.wrap .i64 ((IntKind.wrap .u64 (w64 (a1+a3))) / 2 ^ min (Int.toNat 1) (IntKind.bits .u64)))<(w64 ((w64 ((IntKind.wrap .i64 ((IntKind.wrap .u64 (w64 (a1+a3))) / 2 ^ min (Int.toNat 1) (IntKind.bits .u64)))+a2))-z29))))=true:=(dT hc)
   refine vL hb0 ?_;refine va ?_;refine va ?_;refine vb ?_;refine vk Ag ?_;refine RL.gk [0,3,4,18,24,213] ?_;refine .nil ?_
   exact jr () trivial (by simp only [hb0];rfl)
  have hb0:(decide ((IntKind.wrap .i64 ((IntKind.wrap .u64 (w64 (a1+a3))) / 2 ^ min (Int.toNat 1) (IntKind.bits .u64)))<(w64 ((w64 ((IntKind.wrap .i64 ((IntKind.wrap .u64 (w64 (a1+a3))) / 2 ^ min (Int.toNat 1) (IntKind.bits .u64)))+a2))-z29))))=false:=(dF hc)
  refine vL hb0 ?_;refine gf3 ?_;refine vk Ag ?_;refine RL.gk [0,3,4,18,24,213] ?_;refine .nil ?_
  exact jr () trivial (by simp only [hb0];rfl)
 rintro _ _
 rcases brc h with ⟨hc,h⟩|⟨hc,h⟩
 ·refine cnt hc ?_
  refine .region ?_;refine mvo ?_;refine va ?_;refine va ?_;refine va ?_;refine va ?_
  obtain ⟨x39,g39,h⟩:=bnd h
  refine L0 (Is x39) ?_ (orc_slices_symMergeCmpFunc_int _ _ _ _ _ _ oa4 g39) Tryz.call229
  refine RL.gk [0,3,4,18,24,213,215,216,217,218,219] ?_;refine .nil ?_
  cases h
  exact M4 rfl rfl
 refine cnf (bf hc) ?_;refine .skip ?_
 cases h
 exact M4 rfl rfl
def Fh : Nat→(List Int)→Int→Int→Int→An→Option ((List Int))
 | 0,_,_,_,_,_=>none
 | k+1,a0,a1,a2,a3,a4=>FN (Fh k) a0 a1 a2 a3 a4
theorem G8 : ∀ (k:Nat) (a0:(List Int)) (a1:Int) (a2:Int) (a3:Int) (a4:An) (r:(List Int)),BB a4→Fh k a0 a1 a2 a3 a4=some r→FnG Tryz.prog 229 [.own 3 (Is a0),.d (.i .i64 a1),.d (.i .i64 a2),.d (.i .i64 a3),.d (a4.dv)] [] (.tup []) [.own 3 (Is r)] []
 | 0,_,_,_,_,_,_,_,h=>by cases h
 | k+1,a0,a1,a2,a3,a4,_,oa4,h=>L1 (G8 k) oa4 (show FN (Fh k) a0 a1 a2 a3 a4=some _ from h)
def IR (a0:(List Int)) (a1:Int) (a2:Int) (a3:Int) (a4:An) : Option ((List Int)):=Fh (AK) a0 a1 a2 a3 a4
theorem IL {a0:(List Int)} {a1:Int} {a2:Int} {a3:Int} {a4:An} (oa4:BB a4) {r:(List Int)} (h:IR a0 a1 a2 a3 a4=some r) : FnG Tryz.prog 229 [.own 3 (Is a0),.d (.i .i64 a1),.d (.i .i64 a2),.d (.i .i64 a3),.d (a4.dv)] [] (.tup []) [.own 3 (Is r)] []:=G8 _ a0 a1 a2 a3 a4 r oa4 h
def EL (a1:Int) (a2:An) (K0:(List Int)→Int→Option ((List Int))) : Nat→(List Int)→Int→Int→Option ((List Int))
 | 0,_,_,_=>none
 | k+1,s3,s4,s5=>(if s5≤a1 then ((FM s3 s4 s5 a2).bind fun x6=>(EL a1 a2 K0 k x6 s5 (w64 (s5+20)))) else (K0 s3 s4))
def EK (a1:Int) (a2:An) (s9:Int) (K3:(List Int)→Int→Option ((List Int))) : Nat→(List Int)→Int→Int→Option ((List Int))
 | 0,_,_,_=>none
 | k+1,s12,s13,s14=>(if s14≤a1 then ((IR s12 s13 (w64 (s13+s9)) s14 a2).bind fun x15=>(EK a1 a2 s9 K3 k x15 s14 (w64 (s14+(w64 (2 * s9)))))) else (K3 s12 s13))
def EC (a1:Int) (a2:An) : Nat→(List Int)→Int→Option ((List Int))
 | 0,_,_=>none
 | k+1,s8,s9=>(if s9<a1 then (jn (fun (z10:(List Int)) (z11:Int)=>(jn (fun (z16:(List Int))=>(EC a1 a2 k z16 (w64 (s9 * 2)))) fun K5=>(if (w64 (z11+s9))<a1 then ((IR z10 z11 (w64 (z11+s9)) a1 a2).bind fun x17=>(K5 x17)) else (K5 z10)))) fun K3=>(EK a1 a2 s9 K3 AK s8 0 (w64 (2 * s9)))) else (some s8))
def KX (a0:(List Int)) (a1:Int) (a2:An) : Option ((List Int)):=(jn (fun (z1:(List Int)) (z2:Int)=>((FM z1 z2 a1 a2).bind fun x7=>(EC a1 a2 AK x7 20))) fun K0=>(EL a1 a2 K0 AK a0 0 20))
theorem PL {a0:(List Int)} {a1:Int} {a2:An} (oa2:BB a2) {r:(List Int)} (h:KX a0 a1 a2=some r) :
  FnG Tryz.prog 180 [.own 3 (Is a0),.d (.i .i64 a1),.d (a2.dv)] [] (.tup []) [.own 3 (Is r)] []:=by
 unfold KX at h
 refine FnG.of (rs:=[]) 1 63 Tryz.func180 rfl rfl rfl (by simp) (by simp) (by simp) ?_;refine .sr ?_;refine ar [0,1,2,6] ?_;refine .sr ?_;refine va ?_;refine asd ?_;refine ar [0,1,2,6,7,8] ?_
 obtain ⟨K0,hK0,h⟩:=AP h
 refine AW.mj (σ:=(List Int)×Int) (fun p=>K0 p.1 p.2=some r) (fun p=>[(0,.own 3 (Is p.1)),(1,.d (.i .i64 a1)),(2,.d (a2.dv)),(6,.d (.i .i64 20)),(7,.d (.i .i64 p.2))]) (fun p=>[]) ?_ ?_
 ·skip
  refine .block ?_
  refine .loop (.gk [0,1,2,6,7,8] ?_)
  refine AL.ind (σ:=Nat×(List Int)×Int×Int) (m:=fun p=>p.1) (e:=fun p=>[(0,.own 3 (Is p.2.1)),(1,.d (.i .i64 a1)),(2,.d (a2.dv)),(6,.d (.i .i64 20)),(7,.d (.i .i64 p.2.2.1)),(8,.d (.i .i64 p.2.2.2))]) (h:=fun p=>[]) (I:=fun p=>EL a1 a2 K0 p.1 p.2.1 p.2.2.1 p.2.2.2=some r) ?_ (AK,a0,0,20) h
  rintro ⟨k,s3,s4,s5⟩ h ih
  dsimp only at h ih ⊢
  rcases k with _|k
  ·rw [EL] at h;cases h
  rw [EL] at h
  refine .seq ?_;refine .sr ?_;refine va ?_;refine va ?_;refine vb ?_;refine rk [0,1,2,6,7,8,13] ?_
  rcases brc h with ⟨hc,h⟩|⟨hc,h⟩
  ·refine cnt (dT hc) ?_
   refine .sk ?_;refine .block ?_;refine .sr ?_;refine mvo ?_;refine va ?_;refine va ?_;refine va ?_
   obtain ⟨x6,g6,h⟩:=bnd h
   refine L0 (Is x6) ?_ (Ia oa2 g6) Tryz.call228
   refine RL.gk [0,1,2,6,7,8,13,15,16,17,18] ?_;refine rk [0,1,2,6,8] ?_;refine .sr ?_;refine va ?_;refine ar [0,1,2,6,7,8] ?_;refine .region ?_;refine va ?_;refine va ?_;refine vb ?_;refine asd ?_;refine .nil ?_;refine AL.gk [0,1,2,6,7,8] ?_
   exact ih (k,x6,s5,(w64 (s5+20))) h (Nat.lt_succ_self _)
  refine cnf (dF hc) ?_;refine .gk [0,1,2,6,7] ?_;refine .exit ?_
  exact jr (s3,s4) h
 rintro ⟨z1,z2⟩ h
 try dsimp only at h ⊢
 subst hK0
 refine .sr ?_;refine mvo ?_;refine va ?_;refine va ?_;refine va ?_
 obtain ⟨x7,g7,h⟩:=bnd h
 refine L0 (Is x7) ?_ (Ia oa2 g7) Tryz.call228
 refine RL.gk [0,1,2,6,7,24,25,26,27] ?_;refine rk [0,1,2,6] ?_;refine .block ?_
 refine .loop (.gk [0,1,2,6] ?_)
 refine AL.ind (σ:=Nat×(List Int)×Int) (m:=fun p=>p.1) (e:=fun p=>[(0,.own 3 (Is p.2.1)),(1,.d (.i .i64 a1)),(2,.d (a2.dv)),(6,.d (.i .i64 p.2.2))]) (h:=fun p=>[]) (I:=fun p=>EC a1 a2 p.1 p.2.1 p.2.2=some r) ?_ (AK,x7,20) h
 rintro ⟨k,s8,s9⟩ h ih
 dsimp only at h ih ⊢
 rcases k with _|k
 ·rw [EC] at h;cases h
 rw [EC] at h
 refine .seq ?_;refine .sr ?_;refine va ?_;refine va ?_;refine vb ?_;refine rk [0,1,2,6,30] ?_
 rcases brc h with ⟨hc,h⟩|⟨hc,h⟩
 ·refine cnt (dT hc) ?_
  refine .sk ?_;refine .block ?_;refine .sr ?_;refine va ?_;refine vb ?_;refine asd ?_;refine ar [0,1,2,6,7,8] ?_
  obtain ⟨K3,hK3,h⟩:=AP h
  refine AW.mj (σ:=(List Int)×Int) (fun p=>K3 p.1 p.2=some r) (fun p=>[(0,.own 3 (Is p.1)),(1,.d (.i .i64 a1)),(2,.d (a2.dv)),(6,.d (.i .i64 s9)),(7,.d (.i .i64 p.2))]) (fun p=>[]) ?_ ?_
  ·skip
   refine .block ?_
   refine .loop (.gk [0,1,2,6,7,8] ?_)
   refine AL.ind (σ:=Nat×(List Int)×Int×Int) (m:=fun p=>p.1) (e:=fun p=>[(0,.own 3 (Is p.2.1)),(1,.d (.i .i64 a1)),(2,.d (a2.dv)),(6,.d (.i .i64 s9)),(7,.d (.i .i64 p.2.2.1)),(8,.d (.i .i64 p.2.2.2))]) (h:=fun p=>[]) (I:=fun p=>EK a1 a2 s9 K3 p.1 p.2.1 p.2.2.1 p.2.2.2=some r) ?_ (AK,s8,0,(w64 (2 * s9))) h
   rintro ⟨k,s12,s13,s14⟩ h ih
   dsimp only at h ih ⊢
   rcases k with _|k
   ·rw [EK] at h;cases h
   rw [EK] at h
   refine .seq ?_;refine .sr ?_;refine va ?_;refine va ?_;refine vb ?_;refine rk [0,1,2,6,7,8,35] ?_
   rcases brc h with ⟨hc,h⟩|⟨hc,h⟩
   ·refine cnt (dT hc) ?_
    refine .sk ?_;refine .block ?_;refine .sr ?_;refine mvo ?_;refine va ?_;refine va ?_;refine va ?_;refine vb ?_;refine va ?_;refine va ?_
    obtain ⟨x15,g15,h⟩:=bnd h
    refine L0 (Is x15) ?_ (IL oa2 g15) Tryz.call229
    refine RL.gk [0,1,2,6,7,8,35,37,38,39,40,41,42,43] ?_;refine rk [0,1,2,6,8] ?_;refine .sr ?_;refine va ?_;refine ar [0,1,2,6,7,8] ?_;refine .region ?_;refine va ?_;refine va ?_;refine vb ?_;refine vb ?_;refine asd ?_;refine .nil ?_;refine AL.gk [0,1,2,6,7,8] ?_
    exact ih (k,x15,s14,(w64 (s14+(w64 (2 * s9))))) h (Nat.lt_succ_self _)
   refine cnf (dF hc) ?_;refine .gk [0,1,2,6,7] ?_;refine .exit ?_
   exact jr (s12,s13) h
  rintro ⟨z10,z11⟩ h
  try dsimp only at h ⊢
  subst hK3
  refine .seq ?_;refine .sr ?_;refine va ?_;refine va ?_;refine vb ?_;refine ar [0,1,2,6,7,9] ?_;refine .sr ?_;refine va ?_;refine va ?_;refine vb ?_;refine rk [0,1,2,6,7,9,54] ?_
  obtain ⟨K5,hK5,h⟩:=AP h
  refine AW.mr (σ:=(List Int)) (fun p=>K5 p=some r) (fun p=>[(0,.own 3 (Is p)),(1,.d (.i .i64 a1)),(2,.d (a2.dv)),(6,.d (.i .i64 s9))]) (fun p=>[]) ?_ ?_
  ·skip
   rcases brc h with ⟨hc,h⟩|⟨hc,h⟩
   ·refine cnt (dT hc) ?_
    refine .region ?_;refine mvo ?_;refine va ?_;refine va ?_;refine va ?_;refine va ?_
    obtain ⟨x17,g17,h⟩:=bnd h
    refine L0 (Is x17) ?_ (IL oa2 g17) Tryz.call229
    refine RL.gk [0,1,2,6,7,9,54,56,57,58,59,60] ?_;refine RL.gk [0,1,2,6] ?_;refine .nil ?_
    exact jr (x17) h
   refine cnf (dF hc) ?_;refine .gk [0,1,2,6] ?_;refine .skip ?_
   exact jr (z10) h
  rintro z16 h
  try dsimp only at h ⊢
  subst hK5
  refine aw ?_;refine .region ?_;refine va ?_;refine vb ?_;refine asd ?_;refine .nil ?_;refine AL.gk [0,1,2,6] ?_
  exact ih (k,z16,(w64 (s9 * 2))) h (Nat.lt_succ_self _)
 refine cnf (dF hc) ?_;refine .exit ?_
 cases h
 exact M4 rfl rfl
def O0 (a0:(List Int)) (a1:An) : Option ((List Int)):=((KX a0 ((List.length a0:Nat) : Int) a1).bind fun x1=>(some x1))
theorem Sb {a0:(List Int)} {a1:An} (oa1:BB a1) {r:(List Int)} (h:O0 a0 a1=some r) :
  FnG Tryz.prog 127 [.own 3 (Is a0),.d (a1.dv)] [] (.tup []) [.own 3 (Is r)] []:=by
 unfold O0 at h
 refine FnG.of (rs:=[]) 1 9 Tryz.func127 rfl rfl rfl (by simp) (by simp) (by simp) ?_;refine .region ?_;refine mvo ?_;refine mvo ?_;refine vk (Xp (Ai _) Cu) ?_;refine va ?_
 obtain ⟨x1,g1,h⟩:=bnd h
 refine RL.gk [0,1,4,6,7] ?_
 refine L0 (Is x1) ?_ (PL oa1 g1) Tryz.call180
 refine RL.gk [0,1,6,7,8] ?_;refine .nil ?_
 cases h
 exact M4 rfl rfl
def Eg (a0:Int) : Option (Bool):=(some ((!(decide (a0=a0)))))
theorem GZ {a0:Int} {r:Bool} (h:Eg a0=some r) :
  Fn Tryz.prog 195 [.i .i64 a0] (.d (.b r)):=by
 unfold Eg at h
 refine Fn.o1 2 6 Tryz.func195 ?_;refine .sr ?_;refine ar [0,2] ?_;refine .sr ?_;refine va ?_;refine va ?_;refine vb ?_;refine ar [2] ?_;refine .ret ?_
 cases h
 exact ⟨rfl,rfl⟩
def DF (a0:Int) : Option (Bool):=(some ((!(decide (a0=a0)))))
theorem GQ {a0:Int} {r:Bool} (h:DF a0=some r) :
  Fn Tryz.prog 194 [.i .i32 a0] (.d (.b r)):=by
 unfold DF at h
 refine Fn.o1 2 6 Tryz.func194 ?_;refine .sr ?_;refine ar [0,2] ?_;refine .sr ?_;refine va ?_;refine va ?_;refine vb ?_;refine ar [2] ?_;refine .ret ?_
 cases h
 exact ⟨rfl,rfl⟩
def BM (a0:Int) : Option (Bool):=(some ((!(decide (a0=a0)))))
theorem D5 {a0:Int} {r:Bool} (h:BM a0=some r) :
  Fn Tryz.prog 189 [.i .u8 a0] (.d (.b r)):=by
 unfold BM at h
 refine Fn.o1 2 6 Tryz.func189 ?_;refine .sr ?_;refine ar [0,2] ?_;refine .sr ?_;refine va ?_;refine va ?_;refine vb ?_;refine ar [2] ?_;refine .ret ?_
 cases h
 exact ⟨rfl,rfl⟩
def Cz (a0:Int) (a1:Int) : Option (Int):=((Eg a0).bind fun x1=>((Eg a1).bind fun x2=>(if x1=true then (if x2=true then (some (0)) else (some ((-1)))) else (if x2=true then (some (1)) else (if a0<a1 then (some ((-1))) else (if a1<a0 then (some (1)) else (some (0))))))))
theorem FZ {a0:Int} {a1:Int} {r:Int} (h:Cz a0 a1=some r) :
  Fn Tryz.prog 144 [.i .i64 a0,.i .i64 a1] (.d (.i .i64 r)):=by
 unfold Cz at h
 refine Fn.o1 4 20 Tryz.func144 ?_;refine .sr ?_;refine ar [0,1,4] ?_;refine .sr ?_;refine va ?_
 obtain ⟨x1,g1,h⟩:=bnd h
 refine vk (Ah (GZ g1) Tryz.call195) ?_;refine ar [0,1,4,5] ?_;refine .sr ?_;refine va ?_
 obtain ⟨x2,g2,h⟩:=bnd h
 refine vk (Ah (GZ g2) Tryz.call195) ?_;refine ar [0,1,4,5,6] ?_;refine .seq ?_;refine .sr ?_;refine va ?_;refine rk [0,1,4,6,11] ?_
 rcases brc h with ⟨hc,h⟩|⟨hc,h⟩
 ·refine cnt hc ?_
  refine .seq ?_;refine .sr ?_;refine va ?_;refine rk [0,1,4,6,12] ?_
  rcases brc h with ⟨hc,h⟩|⟨hc,h⟩
  ·refine cnt hc ?_
   refine .sr ?_;refine ar [0,1,4,6] ?_;refine .ret ?_
   cases h
   exact ⟨rfl,rfl⟩
  refine cnf (bf hc) ?_;refine .sk ?_;refine .sr ?_;refine ar [0,1,4,6] ?_;refine .ret ?_
  cases h
  exact ⟨rfl,rfl⟩
 refine cnf (bf hc) ?_;refine .sk ?_;refine .seq ?_;refine .sr ?_;refine va ?_;refine rk [0,1,4,13] ?_
 rcases brc h with ⟨hc,h⟩|⟨hc,h⟩
 ·refine cnt hc ?_
  refine .sr ?_;refine ar [0,1,4] ?_;refine .ret ?_
  cases h
  exact ⟨rfl,rfl⟩
 refine cnf (bf hc) ?_;refine .sk ?_;refine .seq ?_;refine .sr ?_;refine va ?_;refine va ?_;refine vb ?_;refine rk [0,1,4,16] ?_
 rcases brc h with ⟨hc,h⟩|⟨hc,h⟩
 ·refine cnt (dT hc) ?_
  refine .sr ?_;refine ar [0,1,4] ?_;refine .ret ?_
  cases h
  exact ⟨rfl,rfl⟩
 refine cnf (dF hc) ?_;refine .sk ?_;refine .seq ?_;refine .sr ?_;refine va ?_;refine va ?_;refine vb ?_;refine rk [4,19] ?_
 rcases brc h with ⟨hc,h⟩|⟨hc,h⟩
 ·refine cnt (dT hc) ?_
  refine .sr ?_;refine ar [4] ?_;refine .ret ?_
  cases h
  exact ⟨rfl,rfl⟩
 refine cnf (dF hc) ?_;refine .sk ?_;refine .sr ?_;refine ar [4] ?_;refine .ret ?_
 cases h
 exact ⟨rfl,rfl⟩
def CY (a0:Int) (a1:Int) : Option (Int):=((DF a0).bind fun x1=>((DF a1).bind fun x2=>(if x1=true then (if x2=true then (some (0)) else (some ((-1)))) else (if x2=true then (some (1)) else (if a0<a1 then (some ((-1))) else (if a1<a0 then (some (1)) else (some (0))))))))
theorem Jh {a0:Int} {a1:Int} {r:Int} (h:CY a0 a1=some r) :
  Fn Tryz.prog 142 [.i .i32 a0,.i .i32 a1] (.d (.i .i64 r)):=by
 unfold CY at h
 refine Fn.o1 4 20 Tryz.func142 ?_;refine .sr ?_;refine ar [0,1,4] ?_;refine .sr ?_;refine va ?_
 obtain ⟨x1,g1,h⟩:=bnd h
 refine vk (Ah (GQ g1) Tryz.call194) ?_;refine ar [0,1,4,5] ?_;refine .sr ?_;refine va ?_
 obtain ⟨x2,g2,h⟩:=bnd h
 refine vk (Ah (GQ g2) Tryz.call194) ?_;refine ar [0,1,4,5,6] ?_;refine .seq ?_;refine .sr ?_;refine va ?_;refine rk [0,1,4,6,11] ?_
 rcases brc h with ⟨hc,h⟩|⟨hc,h⟩
 ·refine cnt hc ?_
  refine .seq ?_;refine .sr ?_;refine va ?_;refine rk [0,1,4,6,12] ?_
  rcases brc h with ⟨hc,h⟩|⟨hc,h⟩
  ·refine cnt hc ?_
   refine .sr ?_;refine ar [0,1,4,6] ?_;refine .ret ?_
   cases h
   exact ⟨rfl,rfl⟩
  refine cnf (bf hc) ?_;refine .sk ?_;refine .sr ?_;refine ar [0,1,4,6] ?_;refine .ret ?_
  cases h
  exact ⟨rfl,rfl⟩
 refine cnf (bf hc) ?_;refine .sk ?_;refine .seq ?_;refine .sr ?_;refine va ?_;refine rk [0,1,4,13] ?_
 rcases brc h with ⟨hc,h⟩|⟨hc,h⟩
 ·refine cnt hc ?_
  refine .sr ?_;refine ar [0,1,4] ?_;refine .ret ?_
  cases h
  exact ⟨rfl,rfl⟩
 refine cnf (bf hc) ?_;refine .sk ?_;refine .seq ?_;refine .sr ?_;refine va ?_;refine va ?_;refine vb ?_;refine rk [0,1,4,16] ?_
 rcases brc h with ⟨hc,h⟩|⟨hc,h⟩
 ·refine cnt (dT hc) ?_
  refine .sr ?_;refine ar [0,1,4] ?_;refine .ret ?_
  cases h
  exact ⟨rfl,rfl⟩
 refine cnf (dF hc) ?_;refine .sk ?_;refine .seq ?_;refine .sr ?_;refine va ?_;refine va ?_;refine vb ?_;refine rk [4,19] ?_
 rcases brc h with ⟨hc,h⟩|⟨hc,h⟩
 ·refine cnt (dT hc) ?_
  refine .sr ?_;refine ar [4] ?_;refine .ret ?_
  cases h
  exact ⟨rfl,rfl⟩
 refine cnf (dF hc) ?_;refine .sk ?_;refine .sr ?_;refine ar [4] ?_;refine .ret ?_
 cases h
 exact ⟨rfl,rfl⟩
def Bz (a0:Int) (a1:Int) : Option (Int):=((BM a0).bind fun x1=>((BM a1).bind fun x2=>(if x1=true then (if x2=true then (some (0)) else (some ((-1)))) else (if x2=true then (some (1)) else (if a0<a1 then (some ((-1))) else (if a1<a0 then (some (1)) else (some (0))))))))
theorem FK {a0:Int} {a1:Int} {r:Int} (h:Bz a0 a1=some r) :
  Fn Tryz.prog 140 [.i .u8 a0,.i .u8 a1] (.d (.i .i64 r)):=by
 unfold Bz at h
 refine Fn.o1 4 20 Tryz.func140 ?_;refine .sr ?_;refine ar [0,1,4] ?_;refine .sr ?_;refine va ?_
 obtain ⟨x1,g1,h⟩:=bnd h
 refine vk (Ah (D5 g1) Tryz.call189) ?_;refine ar [0,1,4,5] ?_;refine .sr ?_;refine va ?_
 obtain ⟨x2,g2,h⟩:=bnd h
 refine vk (Ah (D5 g2) Tryz.call189) ?_;refine ar [0,1,4,5,6] ?_;refine .seq ?_;refine .sr ?_;refine va ?_;refine rk [0,1,4,6,11] ?_
 rcases brc h with ⟨hc,h⟩|⟨hc,h⟩
 ·refine cnt hc ?_
  refine .seq ?_;refine .sr ?_;refine va ?_;refine rk [0,1,4,6,12] ?_
  rcases brc h with ⟨hc,h⟩|⟨hc,h⟩
  ·refine cnt hc ?_
   refine .sr ?_;refine ar [0,1,4,6] ?_;refine .ret ?_
   cases h
   exact ⟨rfl,rfl⟩
  refine cnf (bf hc) ?_;refine .sk ?_;refine .sr ?_;refine ar [0,1,4,6] ?_;refine .ret ?_
  cases h
  exact ⟨rfl,rfl⟩
 refine cnf (bf hc) ?_;refine .sk ?_;refine .seq ?_;refine .sr ?_;refine va ?_;refine rk [0,1,4,13] ?_
 rcases brc h with ⟨hc,h⟩|⟨hc,h⟩
 ·refine cnt hc ?_
  refine .sr ?_;refine ar [0,1,4] ?_;refine .ret ?_
  cases h
  exact ⟨rfl,rfl⟩
 refine cnf (bf hc) ?_;refine .sk ?_;refine .seq ?_;refine .sr ?_;refine va ?_;refine va ?_;refine vb ?_;refine rk [0,1,4,16] ?_
 rcases brc h with ⟨hc,h⟩|⟨hc,h⟩
 ·refine cnt (dT hc) ?_
  refine .sr ?_;refine ar [0,1,4] ?_;refine .ret ?_
  cases h
  exact ⟨rfl,rfl⟩
 refine cnf (dF hc) ?_;refine .sk ?_;refine .seq ?_;refine .sr ?_;refine va ?_;refine va ?_;refine vb ?_;refine rk [4,19] ?_
 rcases brc h with ⟨hc,h⟩|⟨hc,h⟩
 ·refine cnt (dT hc) ?_
  refine .sr ?_;refine ar [4] ?_;refine .ret ?_
  cases h
  exact ⟨rfl,rfl⟩
 refine cnf (dF hc) ?_;refine .sk ?_;refine .sr ?_;refine ar [4] ?_;refine .ret ?_
 cases h
 exact ⟨rfl,rfl⟩
def BZ (a0:(List Int)) (K0:Int→Option (Int)) : Nat→Int→Int→Option (Int)
 | 0,_,_=>none
 | k+1,s2,s3=>(if s3<((List.length a0:Nat):Int) then ((rd? a0 s3).bind fun x4=>(if x4=0 then (BZ a0 K0 k s2 (w64 (s3+1))) else (some (x4)))) else (K0 s2))
def Gg (a0:(List Int)) : Option (Int):=(jn (fun (z1:Int)=>(some (0))) fun K0=>(BZ a0 K0 AK 0 0))
theorem NM {a0:(List Int)} {r:Int} (h:Gg a0=some r) :
  Fn Tryz.prog 143 [.sl (Is a0)] (.d (.i .i64 r)):=by
 unfold Gg at h
 refine Fn.o1 2 18 Tryz.func143 ?_;refine .sr ?_;refine ar [0,2] ?_;refine .sr ?_;refine ar [0,2,3] ?_;refine .seq ?_;refine .sr ?_;refine va ?_;refine vk (A8 (Ai _) (CT _) Cu) ?_;refine va ?_;refine rk [2,3,6,7,8] ?_
 obtain ⟨K0,hK0,h⟩:=AP h
 refine AW.mr (σ:=Int) (fun p=>K0 p=some r) (fun p=>[(2,.d (.i .i64 p)),(3,.d (.i .i64 0))]) (fun p=>[]) ?_ ?_
 ·skip
  refine .block ?_
  refine .loop (.gk [2,3,6,7,8] ?_)
  refine AL.ind (σ:=Nat×Int×Int) (m:=fun p=>p.1) (e:=fun p=>[(2,.d (.i .i64 p.2.1)),(3,.d (.i .i64 0)),(6,.d (.sl (Is a0))),(7,.d (.i .i64 ((List.length a0:Nat):Int))),(8,.d (.i .i64 p.2.2))]) (h:=fun p=>[]) (I:=fun p=>BZ a0 K0 p.1 p.2.1 p.2.2=some r) ?_ (AK,0,0) h
  rintro ⟨k,s2,s3⟩ h ih
  dsimp only at h ih ⊢
  rcases k with _|k
  ·rw [BZ] at h;cases h
  rw [BZ] at h
  refine .sr ?_;refine vb ?_;refine rk [2,3,6,7,8,9] ?_;refine .seq ?_
  rcases brc h with ⟨hc,h⟩|⟨hc,h⟩
  ·refine cnt (dT hc) ?_
   refine .sk ?_;refine .seq ?_;refine .block ?_;refine .sr ?_
   obtain ⟨x4,g4,h⟩:=bnd h
   obtain ⟨n4,p04,q4⟩:=Aj g4
   refine vk (vix n4 p04 (BC q4) rfl Bo) ?_;refine vk (Am AS) ?_;refine ar [2,3,5,6,7,8] ?_;refine .sr ?_;refine va ?_;refine va ?_;refine vb ?_;refine rk [2,3,5,6,7,8,14] ?_
   rcases brc h with ⟨hc,h⟩|⟨hc,h⟩
   ·refine cnf (ntf (dT hc)) ?_
    refine .sk ?_;refine .region ?_;refine vb ?_;refine va ?_;refine .nil ?_;refine AL.gk [2,3,6,7,8] ?_
    exact ih (k,s2,(w64 (s3+1))) h (Nat.lt_succ_self _)
   refine cnt (ntt (dF hc)) ?_;refine .sr ?_;refine va ?_;refine ar [2,3,6,7,8] ?_;refine .ret ?_
   cases h
   exact ⟨rfl,rfl⟩
  refine cnf (dF hc) ?_;refine .gk [2,3] ?_;refine .exit ?_
  exact jr (s2) h
 rintro z1 h
 try dsimp only at h ⊢
 subst hK0
 refine aw ?_;refine .sr ?_;refine va ?_;refine ar [2] ?_;refine .ret ?_
 cases h
 exact ⟨rfl,rfl⟩
def A0 (a0:(List Int)) (a1:(List Int)) (K0:Int→Option (Int)) : Nat→Int→Int→Option (Int)
 | 0,_,_=>none
 | k+1,s2,s3=>(if s3<((List.length a0:Nat):Int) then ((rd? a0 s3).bind fun x4=>(if ((List.length a1:Nat):Int)≤s3 then (some (1)) else ((rd? a1 s3).bind fun x5=>((Cz x4 x5).bind fun x6=>(if x6=0 then (A0 a0 a1 K0 k s2 (w64 (s3+1))) else (some (x6))))))) else (K0 s2))
def BO (a0:(List Int)) (a1:(List Int)) : Option (Int):=(jn (fun (z1:Int)=>(if ((List.length a0:Nat) : Int)<((List.length a1:Nat) : Int) then (some ((-1))) else (some (0)))) fun K0=>(A0 a0 a1 K0 AK 0 0))
theorem Gy {a0:(List Int)} {a1:(List Int)} {r:Int} (h:BO a0 a1=some r) :
  Fn Tryz.prog 145 [.sl (Is a0),.sl (Is a1)] (.d (.i .i64 r)):=by
 unfold BO at h
 refine Fn.o1 4 36 Tryz.func145 ?_;refine .sr ?_;refine ar [0,1,4] ?_;refine .seq ?_;refine .sr ?_;refine va ?_;refine vk (A8 (Ai _) (CT _) Cu) ?_;refine va ?_;refine rk [0,1,4,9,10,11] ?_
 obtain ⟨K0,hK0,h⟩:=AP h
 refine AW.mr (σ:=Int) (fun p=>K0 p=some r) (fun p=>[(0,.d (.sl (Is a0))),(1,.d (.sl (Is a1))),(4,.d (.i .i64 p))]) (fun p=>[]) ?_ ?_
 ·skip
  refine .block ?_
  refine .loop (.gk [0,1,4,9,10,11] ?_)
  refine AL.ind (σ:=Nat×Int×Int) (m:=fun p=>p.1) (e:=fun p=>[(0,.d (.sl (Is a0))),(1,.d (.sl (Is a1))),(4,.d (.i .i64 p.2.1)),(9,.d (.sl (Is a0))),(10,.d (.i .i64 ((List.length a0:Nat):Int))),(11,.d (.i .i64 p.2.2))]) (h:=fun p=>[]) (I:=fun p=>A0 a0 a1 K0 p.1 p.2.1 p.2.2=some r) ?_ (AK,0,0) h
  rintro ⟨k,s2,s3⟩ h ih
  dsimp only at h ih ⊢
  rcases k with _|k
  ·rw [A0] at h;cases h
  rw [A0] at h
  refine .sr ?_;refine vb ?_;refine rk [0,1,4,9,10,11,12] ?_;refine .seq ?_
  rcases brc h with ⟨hc,h⟩|⟨hc,h⟩
  ·refine cnt (dT hc) ?_
   refine .sk ?_;refine .seq ?_;refine .block ?_;refine .sr ?_;refine va ?_
   obtain ⟨x4,g4,h⟩:=bnd h
   obtain ⟨n4,p04,q4⟩:=Aj g4
   refine vk (vix n4 p04 (BC q4) rfl Bo) ?_;refine vk (Am AS) ?_;refine asd ?_;refine ar [0,1,4,5,6,9,10,11] ?_;refine .seq ?_;refine .sr ?_;refine va ?_;refine va ?_;refine vk (A8 (Ai _) (CT _) Cu) ?_;refine vb ?_;refine rk [0,1,4,5,6,9,10,11,19] ?_
   rcases brc h with ⟨hc,h⟩|⟨hc,h⟩
   ·refine cnt (dT hc) ?_
    refine .sr ?_;refine ar [0,1,4,5,6,9,10,11] ?_;refine .ret ?_
    cases h
    exact ⟨rfl,rfl⟩
   refine cnf (dF hc) ?_;refine .sk ?_;refine .sr ?_;refine va ?_;refine va ?_
   obtain ⟨x5,g5,h⟩:=bnd h
   obtain ⟨n5,p05,q5⟩:=Aj g5
   refine vk (vix n5 p05 (BC q5) rfl Bo) ?_;refine vk (Am AS) ?_;refine ar [0,1,4,6,7,9,10,11] ?_;refine .sr ?_;refine va ?_;refine va ?_
   obtain ⟨x6,g6,h⟩:=bnd h
   refine vk (Ah (FZ g6) Tryz.call144) ?_;refine ar [0,1,4,8,9,10,11] ?_;refine .sr ?_;refine va ?_;refine vb ?_;refine rk [0,1,4,8,9,10,11,28] ?_
   rcases brc h with ⟨hc,h⟩|⟨hc,h⟩
   ·refine cnf (ntf (dT hc)) ?_
    refine .sk ?_;refine .region ?_;refine vb ?_;refine va ?_;refine .nil ?_;refine AL.gk [0,1,4,9,10,11] ?_
    exact ih (k,s2,(w64 (s3+1))) h (Nat.lt_succ_self _)
   refine cnt (ntt (dF hc)) ?_;refine .sr ?_;refine va ?_;refine ar [0,1,4,9,10,11] ?_;refine .ret ?_
   cases h
   exact ⟨rfl,rfl⟩
  refine cnf (dF hc) ?_;refine .gk [0,1,4] ?_;refine .exit ?_
  exact jr (s2) h
 rintro z1 h
 try dsimp only at h ⊢
 subst hK0
 refine aw ?_;refine .seq ?_;refine .sr ?_;refine va ?_;refine vk (A8 (Ai _) (CT _) Cu) ?_;refine va ?_;refine vk (A8 (Ai _) (CT _) Cu) ?_;refine vb ?_;refine rk [4,35] ?_
 rcases brc h with ⟨hc,h⟩|⟨hc,h⟩
 ·refine cnt (dT hc) ?_
  refine .sr ?_;refine ar [4] ?_;refine .ret ?_
  cases h
  exact ⟨rfl,rfl⟩
 refine cnf (dF hc) ?_;refine .sk ?_;refine .sr ?_;refine ar [4] ?_;refine .ret ?_
 cases h
 exact ⟨rfl,rfl⟩
def Af (a0:(List Itm)) (a1:(List Itm)) (a2:Cc) (K0:Int→Option (Int)) : Nat→Int→Int→Option (Int)
 | 0,_,_=>none
 | k+1,s2,s3=>(if s3<((List.length a0:Nat):Int) then ((rd? a0 s3).bind fun x4=>(if ((List.length a1:Nat):Int)≤s3 then (some (1)) else ((rd? a1 s3).bind fun x5=>((a2.g (x4,x5)).bind fun x6=>(if x6=0 then (Af a0 a1 a2 K0 k s2 (w64 (s3+1))) else (some (x6))))))) else (K0 s2))
def Ay (a0:(List Itm)) (a1:(List Itm)) (a2:Cc) : Option (Int):=(jn (fun (z1:Int)=>(if ((List.length a0:Nat) : Int)<((List.length a1:Nat) : Int) then (some ((-1))) else (some (0)))) fun K0=>(Af a0 a1 a2 K0 AK 0 0))
theorem BW {a0:(List Itm)} {a1:(List Itm)} {a2:Cc} (oa2:LN a2) {r:Int} (h:Ay a0 a1 a2=some r) :
  Fn Tryz.prog 146 [.sl (Its a0),.sl (Its a1),a2.dv] (.d (.i .i64 r)):=by
 unfold Ay at h
 refine Fn.o1 6 39 Tryz.func146 ?_;refine .sr ?_;refine ar [0,1,2,6] ?_;refine .seq ?_;refine .sr ?_;refine va ?_;refine vk (A8 (AC _) (BT _) BU) ?_;refine va ?_;refine rk [0,1,2,6,11,12,13] ?_
 obtain ⟨K0,hK0,h⟩:=AP h
 refine AW.mr (σ:=Int) (fun p=>K0 p=some r) (fun p=>[(0,.d (.sl (Its a0))),(1,.d (.sl (Its a1))),(6,.d (.i .i64 p))]) (fun p=>[]) ?_ ?_
 ·skip
  refine .block ?_
  refine .loop (.gk [0,1,2,6,11,12,13] ?_)
  refine AL.ind (σ:=Nat×Int×Int) (m:=fun p=>p.1) (e:=fun p=>[(0,.d (.sl (Its a0))),(1,.d (.sl (Its a1))),(2,.d (a2.dv)),(6,.d (.i .i64 p.2.1)),(11,.d (.sl (Its a0))),(12,.d (.i .i64 ((List.length a0:Nat):Int))),(13,.d (.i .i64 p.2.2))]) (h:=fun p=>[]) (I:=fun p=>Af a0 a1 a2 K0 p.1 p.2.1 p.2.2=some r) ?_ (AK,0,0) h
  rintro ⟨k,s2,s3⟩ h ih
  dsimp only at h ih ⊢
  rcases k with _|k
  ·rw [Af] at h;cases h
  rw [Af] at h
  refine .sr ?_;refine vb ?_;refine rk [0,1,2,6,11,12,13,14] ?_;refine .seq ?_
  rcases brc h with ⟨hc,h⟩|⟨hc,h⟩
  ·refine cnt (dT hc) ?_
   refine .sk ?_;refine .seq ?_;refine .block ?_;refine .sr ?_;refine va ?_
   obtain ⟨x4,g4,h⟩:=bnd h
   obtain ⟨n4,p04,q4⟩:=Aj g4
   refine vk (vix n4 p04 (CR q4) rfl CK) ?_;refine vk (Aq AB As) ?_;refine vk (van (Ap CN) CQ) ?_;refine asd ?_
   refine stn ?_ As (by decide)
   refine rk [0,1,2,6,7,8,11,12,13] ?_;refine .seq ?_;refine .sr ?_;refine va ?_;refine va ?_;refine vk (A8 (AC _) (BT _) BU) ?_;refine vb ?_;refine rk [0,1,2,6,7,8,11,12,13,21] ?_
   rcases brc h with ⟨hc,h⟩|⟨hc,h⟩
   ·refine cnt (dT hc) ?_
    refine .sr ?_;refine ar [0,1,2,6,7,8,11,12,13] ?_;refine .ret ?_
    cases h
    exact ⟨rfl,rfl⟩
   refine cnf (dF hc) ?_;refine .sk ?_;refine .sr ?_;refine va ?_;refine va ?_
   obtain ⟨x5,g5,h⟩:=bnd h
   obtain ⟨n5,p05,q5⟩:=Aj g5
   refine vk (vix n5 p05 (CR q5) rfl CK) ?_;refine vk (Aq AB As) ?_;refine vk (van (Ap CN) CQ) ?_
   refine stn ?_ As (by decide)
   refine rk [0,1,2,6,8,9,11,12,13] ?_;refine .sr ?_;refine va ?_;refine vk (E2 AB As) ?_;refine vk (E2 AB As) ?_
   obtain ⟨x6,g6,h⟩:=bnd h
   refine vk (MC (oa2 _ _ g6)) ?_;refine ar [0,1,2,6,10,11,12,13] ?_;refine .sr ?_;refine va ?_;refine vb ?_;refine rk [0,1,2,6,10,11,12,13,31] ?_
   rcases brc h with ⟨hc,h⟩|⟨hc,h⟩
   ·refine cnf (ntf (dT hc)) ?_
    refine .sk ?_;refine .region ?_;refine vb ?_;refine va ?_;refine .nil ?_;refine AL.gk [0,1,2,6,11,12,13] ?_
    exact ih (k,s2,(w64 (s3+1))) h (Nat.lt_succ_self _)
   refine cnt (ntt (dF hc)) ?_;refine .sr ?_;refine va ?_;refine ar [0,1,2,6,11,12,13] ?_;refine .ret ?_
   cases h
   exact ⟨rfl,rfl⟩
  refine cnf (dF hc) ?_;refine .gk [0,1,6] ?_;refine .exit ?_
  exact jr (s2) h
 rintro z1 h
 try dsimp only at h ⊢
 subst hK0
 refine aw ?_;refine .seq ?_;refine .sr ?_;refine va ?_;refine vk (A8 (AC _) (BT _) BU) ?_;refine va ?_;refine vk (A8 (AC _) (BT _) BU) ?_;refine vb ?_;refine rk [6,38] ?_
 rcases brc h with ⟨hc,h⟩|⟨hc,h⟩
 ·refine cnt (dT hc) ?_
  refine .sr ?_;refine ar [6] ?_;refine .ret ?_
  cases h
  exact ⟨rfl,rfl⟩
 refine cnf (dF hc) ?_;refine .sk ?_;refine .sr ?_;refine ar [6] ?_;refine .ret ?_
 cases h
 exact ⟨rfl,rfl⟩
def Hd (rc_pick_order:Itm→Itm→Option (Int)) (a0:Itm) (a1:Itm) : Option (Int):=(if a0.kind=a1.kind then (if a0.kind=1 then ((Fs a0.num a1.num).bind fun x1=>(some (x1))) else (if a0.kind=2 then ((CY a0.char a1.char).bind fun x2=>(some (x2))) else ((rd? a0.box 0).bind fun x3=>((rd? a1.box 0).bind fun x4=>((Cz ((List.length x3.shape:Nat) : Int) ((List.length x4.shape:Nat) : Int)).bind fun x5=>((BO x3.shape x4.shape).bind fun x6=>((Ay x3.items x4.items (⟨.fn 83 [] [],fun x=>rc_pick_order x.1 x.2⟩ : Cc)).bind fun x7=>((Gg ([x5,x6,x7])).bind fun x8=>(some (x8)))))))))) else ((Bz a0.kind a1.kind).bind fun x9=>(some (x9))))
theorem PA {rc_pick_order:Itm→Itm→Option (Int)} (orc_pick_order:∀ x0 x1 r,rc_pick_order x0 x1=some r→Fn Tryz.prog 83 [.ag [.i .u8 x0.kind,.b x0.num.1,.sl (L x0.num.2.1),.sl (L x0.num.2.2),.i .i32 x0.char,.sl (Ars x0.box)],.ag [.i .u8 x1.kind,.b x1.num.1,.sl (L x1.num.2.1),.sl (L x1.num.2.2),.i .i32 x1.char,.sl (Ars x1.box)]] (.d (.i .i64 r))) {a0:Itm} {a1:Itm} {r:Int} (h:Hd rc_pick_order a0 a1=some r) :
  Fn Tryz.prog 83 [.ag [.i .u8 a0.kind,.b a0.num.1,.sl (L a0.num.2.1),.sl (L a0.num.2.2),.i .i32 a0.char,.sl (Ars a0.box)],.ag [.i .u8 a1.kind,.b a1.num.1,.sl (L a1.num.2.1),.sl (L a1.num.2.2),.i .i32 a1.char,.sl (Ars a1.box)]] (.d (.i .i64 r)):=by
 unfold Hd at h
 refine Fn.o1 4 60 Tryz.func83 ?_;refine .sr ?_;refine vk vbx ?_;refine vk vbx ?_;refine ar [2,3,4] ?_;refine .seq ?_;refine .sr ?_;refine vk (vfa Bp) ?_;refine vk (Am AT) ?_;refine vk (vfa Bp) ?_;refine vk (Am AT) ?_;refine vb ?_;refine rk [2,3,4,11] ?_
 rcases brc h with ⟨hc,h⟩|⟨hc,h⟩
 ·refine cnf (ntf (dT hc)) ?_
  refine .sk ?_;refine .seq ?_;refine .sr ?_;refine vk (vfa Bp) ?_;refine vk (Am AT) ?_;refine rk [2,3,4,18] ?_;refine .block ?_;refine .sr ?_;refine vb ?_;refine ar [2,3,4,18,19] ?_
  rcases brc h with ⟨hc,h⟩|⟨hc,h⟩
  ·refine cnt (dT hc) ?_
   refine .sr ?_;refine vk (vfa BH) ?_;refine vk (Aq A4 AE) ?_;refine vk (vfa BH) ?_;refine vk (Aq A4 AE) ?_
   obtain ⟨x1,g1,h⟩:=bnd h
   refine vk (Ah (Mz g1) Tryz.call141) ?_;refine ar [2,3,4] ?_;refine .ret ?_
   cases h
   exact ⟨rfl,rfl⟩
  refine cnf (dF hc) ?_;refine .sr ?_;refine vb ?_;refine ar [2,3,4,26] ?_
  rcases brc h with ⟨hc,h⟩|⟨hc,h⟩
  ·refine cnt (dT hc) ?_
   refine .sr ?_;refine vk (vfa CI) ?_;refine vk (Am CF) ?_;refine vk (vfa CI) ?_;refine vk (Am CF) ?_
   obtain ⟨x2,g2,h⟩:=bnd h
   refine vk (Ah (Jh g2) Tryz.call142) ?_;refine ar [2,3,4] ?_;refine .ret ?_
   cases h
   exact ⟨rfl,rfl⟩
  refine cnf (dF hc) ?_;refine .sk ?_;refine .seq ?_
  obtain ⟨x3,g3,h⟩:=bnd h
  obtain ⟨x4,g4,h⟩:=bnd h
  refine .drawnF 10 [4,5,6,7] [(5,.nb [.sl (Is x3.shape),.sl (Its x3.items)])] [] A2 (by kernel_rfl) rfl ?_;refine dv (vfa Ba) ?_;refine dv (Am B6) ?_
  obtain ⟨n3,p03,q3⟩:=Aj g3
  refine dv (vix n3 p03 (Db q3) rfl Dj) ?_;refine dv (Aq Al Ad) ?_;refine dv (vfa Ba) ?_;refine dv (Am B6) ?_
  obtain ⟨n4,p04,q4⟩:=Aj g4
  refine dv (vix n4 p04 (Db q4) rfl Dj) ?_;refine dv (Aq Al Ad) ?_;refine dv (van (Ap A3) Bg) ?_;refine dv (van (Ap A3) Bg) ?_;refine dz ?_
  refine ⟨?_,?_,?_⟩
  ·intro k hk
   simp only [List.mem_cons,List.not_mem_nil,or_false] at hk
   rcases hk with rfl|rfl|rfl|rfl
   ·exact ⟨_,_,_,rfl,rfl,rfl,rfl,rfl,rfl,(vfa Ba)⟩
   ·exact ⟨_,_,_,rfl,rfl,rfl,rfl,rfl,rfl,(Am B6)⟩
   ·exact ⟨_,_,_,rfl,rfl,rfl,rfl,rfl,rfl,(vix n4 p04 (Db q4) rfl Dj)⟩
   ·exact ⟨_,_,_,rfl,rfl,rfl,rfl,rfl,rfl,(Aq Al Ad)⟩
  ·intro om e hom hge
   cases hom
   exact IK (cs:=[.sl (Is []),.sl (Its [])]) (cs':=[.sl (Is x3.shape),.sl (Its x3.items)]) Ad (by decide) rfl ((hge 5 (fun k hk v hv=>by
     simp only [List.mem_cons,List.not_mem_nil,or_false] at hk
     rcases hk with rfl|rfl|rfl|rfl
     ·exact (by decide:¬(some 37=some 5)) (congrArg (Option.map Prod.fst) hv)
     ·exact (by decide:¬(some 38=some 5)) (congrArg (Option.map Prod.fst) hv)
     ·exact (by decide:¬(some 39=some 5)) (congrArg (Option.map Prod.fst) hv)
     ·exact (by decide:¬(some 40=some 5)) (congrArg (Option.map Prod.fst) hv))).trans rfl) ((congrArg Bk (hge 36 (fun k hk v hv=>by
     simp only [List.mem_cons,List.not_mem_nil,or_false] at hk
     rcases hk with rfl|rfl|rfl|rfl
     ·exact (by decide:¬(some 37=some 36)) (congrArg (Option.map Prod.fst) hv)
     ·exact (by decide:¬(some 38=some 36)) (congrArg (Option.map Prod.fst) hv)
     ·exact (by decide:¬(some 39=some 36)) (congrArg (Option.map Prod.fst) hv)
     ·exact (by decide:¬(some 40=some 36)) (congrArg (Option.map Prod.fst) hv)))).trans rfl) rfl rfl rfl rfl ⟨rfl,rfl⟩
  refine stn ?_ Ad (by decide)
  refine rk [4,5,6] ?_;refine .seq ?_;refine .gh (Gh.nbp (t:=5) rfl) ?_;refine .gh (Gh.nbp (t:=6) rfl) ?_;refine .drawn 19 A2 (by kernel_rfl) ?_;refine dv (vfa Bh) ?_;refine dv (Am CS) ?_;refine dv (A8 (Ai _) (CT _) Cu) ?_;refine dv (vfa Bh) ?_;refine dv (Am CS) ?_;refine dv (A8 (Ai _) (CT _) Cu) ?_
  obtain ⟨x5,g5,h⟩:=bnd h
  refine dv (Ah (FZ g5) Tryz.call144) ?_;refine dv (vfa Bh) ?_;refine dv (Am CS) ?_;refine dv (vfa Bh) ?_;refine dv (Am CS) ?_
  obtain ⟨x6,g6,h⟩:=bnd h
  refine dv (Ah (Gy g6) Tryz.call145) ?_;refine dv (vfa AY) ?_;refine dv (Am BR) ?_;refine dv (vfa AY) ?_;refine dv (Am BR) ?_
  obtain ⟨x7,g7,h⟩:=bnd h
  refine dv (Ah (BW (KL Tryz.call83 (fun _ _ h=>orc_pick_order _ _ _ h)) g7) Tryz.call146) ?_;refine dv ((G0 (GM [x5,x6,x7]) Hf).deep) ?_
  obtain ⟨x8,g8,h⟩:=bnd h
  refine dv (Ah (NM g8) Tryz.call143) ?_;refine dz ?_;refine ar [4] ?_;refine .ret ?_
  cases h
  exact ⟨rfl,rfl⟩
 refine cnt (ntt (dF hc)) ?_;refine .sr ?_;refine vk (vfa Bp) ?_;refine vk (Am AT) ?_;refine vk (vfa Bp) ?_;refine vk (Am AT) ?_
 obtain ⟨x9,g9,h⟩:=bnd h
 refine vk (Ah (FK g9) Tryz.call140) ?_;refine ar [2,3,4] ?_;refine .ret ?_
 cases h
 exact ⟨rfl,rfl⟩
def EZ : Nat→Itm→Itm→Option (Int)
 | 0,_,_=>none
 | k+1,a0,a1=>Hd (EZ k) a0 a1
theorem Js : ∀ (k:Nat) (a0:Itm) (a1:Itm) (r:Int),EZ k a0 a1=some r→Fn Tryz.prog 83 [.ag [.i .u8 a0.kind,.b a0.num.1,.sl (L a0.num.2.1),.sl (L a0.num.2.2),.i .i32 a0.char,.sl (Ars a0.box)],.ag [.i .u8 a1.kind,.b a1.num.1,.sl (L a1.num.2.1),.sl (L a1.num.2.2),.i .i32 a1.char,.sl (Ars a1.box)]] (.d (.i .i64 r))
 | 0,_,_,_,h=>by cases h
 | k+1,a0,a1,_,h=>PA (Js k)  (show Hd (EZ k) a0 a1=some _ from h)
def Ki (a0:Itm) (a1:Itm) : Option (Int):=EZ (a0.size+1) a0 a1
theorem LD {a0:Itm} {a1:Itm} {r:Int} (h:Ki a0 a1=some r) : Fn Tryz.prog 83 [.ag [.i .u8 a0.kind,.b a0.num.1,.sl (L a0.num.2.1),.sl (L a0.num.2.2),.i .i32 a0.char,.sl (Ars a0.box)],.ag [.i .u8 a1.kind,.b a1.num.1,.sl (L a1.num.2.1),.sl (L a1.num.2.2),.i .i32 a1.char,.sl (Ars a1.box)]] (.d (.i .i64 r)):=Js _ a0 a1 r  h
def DW (a0:Itm) (a1:Itm) : Option (Int):=((Df a0).bind fun x1=>(Option.bind ((if ((List.length x1.items:Nat) : Int)=0 then (some true) else ((Df a1).bind fun x3=>(some (decide (((List.length x3.items:Nat) : Int)=0))))) : Option (Bool)) fun (z1:Bool)=>(if z1=true then (some (0)) else ((Ki a0 a1).bind fun x4=>(some (x4))))))
theorem Fb {a0:Itm} {a1:Itm} {r:Int} (h:DW a0 a1=some r) :
  Fn Tryz.prog 30 [.ag [.i .u8 a0.kind,.b a0.num.1,.sl (L a0.num.2.1),.sl (L a0.num.2.2),.i .i32 a0.char,.sl (Ars a0.box)],.ag [.i .u8 a1.kind,.b a1.num.1,.sl (L a1.num.2.1),.sl (L a1.num.2.2),.i .i32 a1.char,.sl (Ars a1.box)]] (.d (.i .i64 r)):=by
 unfold DW at h
 refine Fn.o1 4 20 Tryz.func30 ?_;refine .sr ?_;refine vk vbx ?_;refine vk vbx ?_;refine ar [2,3,4] ?_;refine .seq ?_;refine .seq ?_
 obtain ⟨x1,g1,h⟩:=bnd h
 obtain ⟨z1,hz,h⟩:=bnd h
 refine AW.mr (σ:=Unit) (fun _=>True) (fun _=>[(2,.d (.ptr [.i .u8 a0.kind,.b a0.num.1,.sl (L a0.num.2.1),.sl (L a0.num.2.2),.i .i32 a0.char,.sl (Ars a0.box)])),(3,.d (.ptr [.i .u8 a1.kind,.b a1.num.1,.sl (L a1.num.2.1),.sl (L a1.num.2.2),.i .i32 a1.char,.sl (Ars a1.box)])),(4,.d (.i .i64 0)),(16,.d (.b z1))]) (fun _=>[]) ?_ ?_
 ·skip
  refine .region ?_;refine vk (Aq AB As) ?_;refine vk (Ah (Jo g1) Tryz.call26) ?_;refine vk (X1 AY MS) ?_;refine vk (A8 (AC _) (BT _) BU) ?_;refine vb ?_
  rcases brc hz with ⟨hc,hz⟩|⟨hc,hz⟩
  ·have hb0:(decide (((List.length x1.items:Nat):Int)=0))=true:=(dT hc)
   refine vL hb0 ?_;refine gf4 ?_;refine gf ?_;refine vk Ag ?_;refine RL.gk [2,3,4,16] ?_;refine .nil ?_
   cases hz
   exact jr () trivial
  have hb0:(decide (((List.length x1.items:Nat):Int)=0))=false:=(dF hc)
  refine vL hb0 ?_;refine vk (Aq AB As) ?_
  obtain ⟨x3,g3,hz⟩:=bnd hz
  refine vk (Ah (Jo g3) Tryz.call26) ?_;refine vk (X1 AY MS) ?_;refine vk (A8 (AC _) (BT _) BU) ?_;refine vb ?_;refine vk Ag ?_;refine RL.gk [2,3,4,16] ?_;refine .nil ?_
  cases hz
  exact jr () trivial
 rintro _ _
 rcases brc h with ⟨hc,h⟩|⟨hc,h⟩
 ·refine cnt hc ?_
  refine .sr ?_;refine ar [2,3,4] ?_;refine .ret ?_
  cases h
  exact ⟨rfl,rfl⟩
 refine cnf (bf hc) ?_;refine .sk ?_;refine .sr ?_;refine vk (Aq AB As) ?_;refine vk (Aq AB As) ?_
 obtain ⟨x4,g4,h⟩:=bnd h
 refine vk (Ah (LD g4) Tryz.call83) ?_;refine ar [4] ?_;refine .ret ?_
 cases h
 exact ⟨rfl,rfl⟩
def IJ (a0:Int) : Option (Itm):=((Ec a0).bind fun x1=>(some ((Itm.mk 1 x1 0 []))))
theorem Ml {a0:Int} {r:Itm} (h:IJ a0=some r) :
  Fn Tryz.prog 101 [.i .i64 a0] (.d (.ag [.i .u8 r.kind,.b r.num.1,.sl (L r.num.2.1),.sl (L r.num.2.2),.i .i32 r.char,.sl (Ars r.box)])):=by
 unfold IJ at h
 refine Fn.ofC (rs:=[.cell 2 51]) (nt:=6) Tryz.func101 rfl rfl rfl (by simp) rfl ?_;refine .sr ?_;refine vk (van (Ap CN) CQ) ?_;refine rk [0,2] ?_;refine .sr ?_;refine va ?_
 obtain ⟨x1,g1,h⟩:=bnd h
 refine vk (Ah (Ev g1) Tryz.call37) ?_;refine vk (vbd KG CN CQ) ?_
 refine stn ?_ As (by decide)
 refine rk [2] ?_;refine .ret ?_
 cases h
 exact ⟨_,⟨.inr rfl,AB,As,p6⟩,rfl⟩
def HY (a0:Int) (a1:Int) (c0:Int) (c1:(List Itm)) (c2:(Int×RT×Int)) : Option (Int):=((rd? c1 (w64 (a0-c2.1))).bind fun x1=>((rd? c1 (w64 (a1-c2.1))).bind fun x2=>((Ki x1 x2).bind fun x3=>(some ((w64 (c0 * x3)))))))
theorem LI {a0:Int} {a1:Int} {c0:Int} {c1:(List Itm)} {c2:(Int×RT×Int)} {r:Int} (h:HY a0 a1 c0 c1 c2=some r) :
  Fn Tryz.prog 128 [.i .i64 a0,.i .i64 a1,.ptr [.i .i64 c0],.ptr [.sl (Its c1)],.ptr [.i .i64 c2.1,.b c2.2.1.1,.sl (L c2.2.1.2.1),.sl (L c2.2.1.2.2),.i .i64 c2.2.2]] (.d (.i .i64 r)):=by
 unfold HY at h
 refine Fn.o1 7 25 Tryz.func128 ?_;refine .sr ?_;refine ar [0,1,2,3,4,7] ?_;refine .seq ?_;refine .drawn 17 A2 (by kernel_rfl) ?_;refine dv (Am AS) ?_;refine dv (Am BR) ?_;refine dv Ae ?_;refine dv (vfa Ke) ?_;refine dv (Am AS) ?_;refine dv vbi ?_
 obtain ⟨x1,g1,h⟩:=bnd h
 obtain ⟨n1,p01,q1⟩:=Aj g1
 refine dv (vix n1 p01 (CR q1) rfl CK) ?_;refine dv (Aq AB As) ?_;refine dv (Am BR) ?_;refine dv Ae ?_;refine dv (vfa Ke) ?_;refine dv (Am AS) ?_;refine dv vbi ?_
 obtain ⟨x2,g2,h⟩:=bnd h
 obtain ⟨n2,p02,q2⟩:=Aj g2
 refine dv (vix n2 p02 (CR q2) rfl CK) ?_;refine dv (Aq AB As) ?_
 obtain ⟨x3,g3,h⟩:=bnd h
 refine dv (Ah (LD g3) Tryz.call83) ?_;refine dv vbi ?_;refine dz ?_;refine ar [7] ?_;refine .ret ?_
 cases h
 exact ⟨rfl,rfl⟩
def Ed (a0:(Int×RT×Int)) (a1:(List Itm)) (K0:(List Int)→Option (Arr)) : Nat→(List Int)→Int→Option (Arr)
 | 0,_,_=>none
 | k+1,s3,s4=>(if s4<((List.length (List.replicate (Int.toNat ((List.length a1:Nat):Int)) (0:Int)):Nat):Int) then ((rd? s3 s4).bind fun x5=>(Ed a0 a1 K0 k (List.set s3 (Int.toNat s4) (w64 (s4+a0.1))) (w64 (s4+1)))) else (K0 s3))
def JH (a0:(Int×RT×Int)) (a1:(List Itm)) (a2:Int) : Option (Arr):=((G6 (0≤((List.length a1:Nat) : Int)∧((List.length a1:Nat) : Int)≤17592186044416)).bind fun x1=>(jn (fun (z2:(List Int))=>((O0 z2 (⟨.fn 128 [] [.ptr [.i .i64 a2],.ptr [.sl (Its a1)],.ptr [.i .i64 a0.1,.b a0.2.1.1,.sl (L a0.2.1.2.1),.sl (L a0.2.1.2.2),.i .i64 a0.2.2]],fun x=>HY x.1 x.2 a2 a1 a0⟩ : An)).bind fun x6=>((KZ x6).bind fun x7=>(some (x7))))) fun K0=>(Ed a0 a1 K0 AK (List.replicate (Int.toNat ((List.length a1:Nat) : Int)) (0:Int)) 0)))
theorem NU {a0:(Int×RT×Int)} {a1:(List Itm)} {a2:Int} {r:Arr} (h:JH a0 a1 a2=some r) :
  Fn Tryz.prog 70 [.ag [.i .i64 a0.1,.b a0.2.1.1,.sl (L a0.2.1.2.1),.sl (L a0.2.1.2.2),.i .i64 a0.2.2],.sl (Its a1),.i .i64 a2] (.d (.ag [.sl (Is r.shape),.sl (Its r.items)])):=by
 unfold JH at h
 refine Fn.ofC (rs:=[.cell 6 27]) (nt:=30) Tryz.func70 rfl rfl rfl (by simp) rfl ?_;refine .sr ?_;refine vk vbx ?_;refine vk XO ?_;refine vk XO ?_;refine vk (van (Ap A3) Bg) ?_;refine rk [3,4,5,6] ?_;refine .sr ?_;refine vk (Am BR) ?_;refine vk (A8 (AC _) (BT _) BU) ?_
 obtain ⟨x1,g1,h⟩:=bnd h
 have ghx1:=IS g1
 refine mk' (F:=Is) (x0:=0) (zl:=((List.length a1:Nat):Int)) (Int.toNat ((List.length a1:Nat):Int)) XF (by omega) (by omega) ?_ Hf (by decide)
 refine aso ?_;refine rk [3,4,5,6,7] ?_;refine .seq ?_;refine .sr ?_;refine mvo ?_;refine vk (Xp (Ai _) Cu) ?_;refine va ?_;refine rk [3,4,5,6,7,13,14] ?_
 obtain ⟨K0,hK0,h⟩:=AP h
 refine AW.mr (σ:=(List Int)) (fun p=>K0 p=some r) (fun p=>[(3,.d (.ptr [.i .i64 a0.1,.b a0.2.1.1,.sl (L a0.2.1.2.1),.sl (L a0.2.1.2.2),.i .i64 a0.2.2])),(4,.d (.ptr [.sl (Its a1)])),(5,.d (.ptr [.i .i64 a2])),(6,.nb [.sl (Is []),.sl (Its [])]),(7,.own 3 (Is p))]) (fun p=>[]) ?_ ?_
 ·skip
  refine .block ?_
  refine .loop (.gk [3,4,5,6,7,13,14] ?_)
  refine AL.ind (σ:=Nat×(List Int)×Int) (m:=fun p=>p.1) (e:=fun p=>[(3,.d (.ptr [.i .i64 a0.1,.b a0.2.1.1,.sl (L a0.2.1.2.1),.sl (L a0.2.1.2.2),.i .i64 a0.2.2])),(4,.d (.ptr [.sl (Its a1)])),(5,.d (.ptr [.i .i64 a2])),(6,.nb [.sl (Is []),.sl (Its [])]),(7,.own 3 (Is p.2.1)),(13,.d (.i .i64 ((List.length (List.replicate (Int.toNat ((List.length a1:Nat):Int)) (0:Int)):Nat):Int))),(14,.d (.i .i64 p.2.2))]) (h:=fun p=>[]) (I:=fun p=>Ed a0 a1 K0 p.1 p.2.1 p.2.2=some r) ?_ (AK,(List.replicate (Int.toNat ((List.length a1:Nat):Int)) (0:Int)),0) h
  rintro ⟨k,s3,s4⟩ h ih
  dsimp only at h ih ⊢
  rcases k with _|k
  ·rw [Ed] at h;cases h
  rw [Ed] at h
  refine .sr ?_;refine vb ?_;refine rk [3,4,5,6,7,13,14,15] ?_;refine .seq ?_
  rcases brc h with ⟨hc,h⟩|⟨hc,h⟩
  ·refine cnt (dT hc) ?_
   refine .sk ?_;refine .seq ?_;refine .block ?_;refine .sr ?_;refine va ?_;refine ar [3,4,5,6,7,8,13,14] ?_;refine .region ?_;refine mvo ?_;refine va ?_;refine va ?_;refine vk (vfa Ke) ?_;refine vk (Am AS) ?_;refine vb ?_
   obtain ⟨x5,g5,h⟩:=bnd h
   obtain ⟨n5,p05,q5⟩:=Aj g5
   refine ixr (off:=0) (len:=(Is s3).length) n5 p05 (by rw [Ai];exact (lS.1 q5).1) ?_ Bo (by decide)
   refine UZ (F:=Is) (D:=fun x=>.i .i64 x) HS (us:=s3) (n:=n5) (m:=Int.toNat s4) (x:=(w64 (s4+a0.1))) (by rw [p05];rfl) ⟨_,by rw [Nat.zero_add];exact BC q5,rfl⟩ ?_ D7
   refine RL.gk [3,4,5,6,7,8,13,14,17,18,19,20,21,22] ?_;refine .nil ?_;refine aw ?_;refine .gk [3,4,5,6,7,13,14] ?_;refine .region ?_;refine vb ?_;refine va ?_;refine .nil ?_;refine AL.gk [3,4,5,6,7,13,14] ?_
   exact ih (k,(List.set s3 (Int.toNat s4) (w64 (s4+a0.1))),(w64 (s4+1))) h (Nat.lt_succ_self _)
  refine cnf (dF hc) ?_;refine .gk [3,4,5,6,7] ?_;refine .exit ?_
  exact jr (s3) h
 rintro z2 h
 try dsimp only at h ⊢
 subst hK0
 refine aw ?_;refine .sr ?_;refine mvo ?_;refine vk Y3 ?_
 obtain ⟨x6,g6,h⟩:=bnd h
 refine L0 (Is x6) ?_ (Sb (KL Tryz.call128 (fun _ _ h=>LI h)) g6) Tryz.call127
 refine RL.gk [3,4,5,6,7,26,27] ?_;refine rk [6,7] ?_;refine .sr ?_;refine fz (p:=.t 7) ?_;refine va ?_
 obtain ⟨x7,g7,h⟩:=bnd h
 refine vk (Ah (Hi g7) Tryz.call15) ?_
 refine stn ?_ Ad (by decide)
 refine rk [6] ?_;refine .ret ?_
 cases h
 exact ⟨_,⟨.inr rfl,Al,Ad,p2⟩,rfl⟩
def FO (a0:Arr) : Option (Bool):=((Bu a0).bind fun x1=>(some ((!x1))))
theorem Ic {a0:Arr} {r:Bool} (h:FO a0=some r) :
  Fn Tryz.prog 96 [.ag [.sl (Is a0.shape),.sl (Its a0.items)]] (.d (.b r)):=by
 unfold FO at h
 refine Fn.o1 2 6 Tryz.func96 ?_;refine .sr ?_;refine vk vbx ?_;refine ar [1,2] ?_;refine .sr ?_;refine vk (Aq Al Ad) ?_
 obtain ⟨x1,g1,h⟩:=bnd h
 refine vk (Ah (DM g1) Tryz.call54) ?_;refine vk vnt ?_;refine ar [2] ?_;refine .ret ?_
 cases h
 exact ⟨rfl,rfl⟩
def HW (a0:(Int×RT×Int)) (a1:(List Arr)) : Option (Bool):=(Option.bind ((if a0.1=0 then ((AZ a1 (⟨.fn 96 [] [],fun x=>FO x⟩ : CC)).bind fun x2=>(some (!x2))) else (if a0.1=1 then ((AZ a1 (⟨.fn 96 [] [],fun x=>FO x⟩ : CC)).bind fun x3=>(some (!x3))) else (some false))) : Option (Bool)) fun (z1:Bool)=>(some (z1)))
theorem Jk {a0:(Int×RT×Int)} {a1:(List Arr)} {r:Bool} (h:HW a0 a1=some r) :
  Fn Tryz.prog 39 [.ag [.i .i64 a0.1,.b a0.2.1.1,.sl (L a0.2.1.2.1),.sl (L a0.2.1.2.2),.i .i64 a0.2.2],.sl (Ars a1)] (.d (.b r)):=by
 unfold HW at h
 refine Fn.o1 4 18 Tryz.func39 ?_;refine .sr ?_;refine vk vbx ?_;refine ar [1,2,4] ?_;refine .seq ?_
 obtain ⟨z1,hz,h⟩:=bnd h
 refine AW.mr (σ:=Unit) (fun _=>True) (fun _=>[(4,.d (.b z1))]) (fun _=>[]) ?_ ?_
 ·skip
  refine .region ?_;refine vk (vfa Ke) ?_;refine vk (Am AS) ?_;refine vb ?_
  rcases brc hz with ⟨hc,hz⟩|⟨hc,hz⟩
  ·have hb0:(decide (a0.1=0))=true:=(dT hc)
   refine vL hb0 ?_;refine gf3 ?_;refine vk Ag ?_;refine va ?_;refine va ?_
   obtain ⟨x2,g2,hz⟩:=bnd hz
   refine vk (Ah (BN (KL Tryz.call96 (fun _ _ h=>Ic h)) g2) Tryz.call95) ?_;refine vk vnt ?_;refine vk Ag ?_;refine asd ?_;refine RL.gk [4] ?_;refine .nil ?_
   cases hz
   exact jr () trivial
  have hb0:(decide (a0.1=0))=false:=(dF hc)
  refine vL hb0 ?_;refine vk (vfa Ke) ?_;refine vk (Am AS) ?_;refine vb ?_;refine vk Ag ?_
  rcases brc hz with ⟨hc,hz⟩|⟨hc,hz⟩
  ·have hb1:(decide (a0.1=1))=true:=(dT hc)
   refine vL hb1 ?_;refine va ?_
   obtain ⟨x3,g3,hz⟩:=bnd hz
   refine vk (Ah (BN (KL Tryz.call96 (fun _ _ h=>Ic h)) g3) Tryz.call95) ?_;refine vk vnt ?_;refine vk Ag ?_;refine asd ?_;refine RL.gk [4] ?_;refine .nil ?_
   cases hz
   exact jr () trivial
  have hb1:(decide (a0.1=1))=false:=(dF hc)
  refine vL hb1 ?_;refine gf3 ?_;refine vk Ag ?_;refine asd ?_;refine RL.gk [4] ?_;refine .nil ?_
  cases hz
  exact jr () trivial
 rintro _ _
 refine .ret ?_
 cases h
 exact ⟨rfl,rfl⟩
def Bw (a0:(List (List Int))) (K0:Int→Option ((List Int))) : Nat→Int→Int→Option ((List Int))
 | 0,_,_=>none
 | k+1,s2,s3=>(if s3<((List.length a0:Nat):Int) then (jn (fun (z4:Int)=>(Bw a0 K0 k z4 (w64 (s3+1)))) fun K2=>((rd? a0 s3).bind fun x5=>((G6 (¬((w64 (s2+((List.length x5:Nat):Int)))<0))).bind fun x6=>(K2 (w64 (s2+((List.length x5:Nat):Int))))))) else (K0 s2))
def Bx (a0:(List (List Int))) (K3:(List Int)→Option ((List Int))) : Nat→(List Int)→Int→Option ((List Int))
 | 0,_,_=>none
 | k+1,s9,s10=>(if s10<((List.length a0:Nat):Int) then ((rd? a0 s10).bind fun x11=>((ap? 17592186044416 s9 x11).bind fun x12=>(Bx a0 K3 k x12 (w64 (s10+1))))) else (K3 s9))
def Dv (a0:(List (List Int))) : Option ((List Int)):=(jn (fun (z1:Int)=>((G6 (0≤z1∧z1≤UI)).bind fun x7=>(jn (fun (z8:(List Int))=>(some (z8))) fun K3=>(Bx a0 K3 AK [] 0)))) fun K0=>(Bw a0 K0 AK 0 0))
theorem GV {a0:(List (List Int))} {r:(List Int)} (h:Dv a0=some r) :
  Fn Tryz.prog 100 [.sl (IsS a0)] (.d (.sl (Is r))):=by
 unfold Dv at h
 refine Fn.o1 2 36 Tryz.func100 ?_;refine .sr ?_;refine asn ?_;refine rk [0,2] ?_;refine .sr ?_;refine ar [0,2,3] ?_;refine .seq ?_;refine .sr ?_;refine va ?_;refine vk (A8 (Ny _) (VH _) Uy) ?_;refine va ?_;refine rk [0,2,3,9,10,11] ?_
 obtain ⟨K0,hK0,h⟩:=AP h
 refine AW.mr (σ:=Int) (fun p=>K0 p=some r) (fun p=>[(0,.d (.sl (IsS a0))),(2,.nl),(3,.d (.i .i64 p))]) (fun p=>[]) ?_ ?_
 ·skip
  refine .block ?_
  refine .loop (.gk [0,2,3,9,10,11] ?_)
  refine AL.ind (σ:=Nat×Int×Int) (m:=fun p=>p.1) (e:=fun p=>[(0,.d (.sl (IsS a0))),(2,.nl),(3,.d (.i .i64 p.2.1)),(9,.d (.sl (IsS a0))),(10,.d (.i .i64 ((List.length a0:Nat):Int))),(11,.d (.i .i64 p.2.2))]) (h:=fun p=>[]) (I:=fun p=>Bw a0 K0 p.1 p.2.1 p.2.2=some r) ?_ (AK,0,0) h
  rintro ⟨k,s2,s3⟩ h ih
  dsimp only at h ih ⊢
  rcases k with _|k
  ·rw [Bw] at h;cases h
  rw [Bw] at h
  refine .sr ?_;refine vb ?_;refine rk [0,2,3,9,10,11,12] ?_;refine .seq ?_
  rcases brc h with ⟨hc,h⟩|⟨hc,h⟩
  ·refine cnt (dT hc) ?_
   refine .sk ?_
   obtain ⟨K2,hK2,h⟩:=AP h
   refine AW.mj (σ:=Int) (fun p=>K2 p=some r) (fun p=>[(0,.d (.sl (IsS a0))),(2,.nl),(3,.d (.i .i64 p)),(9,.d (.sl (IsS a0))),(10,.d (.i .i64 ((List.length a0:Nat):Int))),(11,.d (.i .i64 s3))]) (fun p=>[]) ?_ ?_
   ·skip
    refine .block ?_;refine .sr ?_
    obtain ⟨x5,g5,h⟩:=bnd h
    obtain ⟨n5,p05,q5⟩:=Aj g5
    refine vk (vix n5 p05 (Uv q5) rfl VP) ?_;refine vk (Am CS) ?_;refine ar [0,2,3,5,9,10,11] ?_;refine .sr ?_;refine va ?_;refine va ?_;refine vk (A8 (Ai _) (CT _) Cu) ?_;refine vb ?_;refine ar [0,2,3,9,10,11] ?_;refine .sr ?_;refine va ?_;refine vb ?_;refine rk [0,2,3,9,10,11,20] ?_
    obtain ⟨x6,g6,h⟩:=bnd h
    have hc:=IS g6
    refine cnf (dF hc) ?_;refine .gk [0,2,3,9,10,11] ?_;refine .skip ?_
    exact jr ((w64 (s2+((List.length x5:Nat):Int)))) h
   rintro z4 h
   try dsimp only at h ⊢
   subst hK2
   refine .region ?_;refine vb ?_;refine va ?_;refine .nil ?_;refine AL.gk [0,2,3,9,10,11] ?_
   exact ih (k,z4,(w64 (s3+1))) h (Nat.lt_succ_self _)
  refine cnf (dF hc) ?_;refine .gk [0,2,3] ?_;refine .exit ?_
  exact jr (s2) h
 rintro z1 h
 try dsimp only at h ⊢
 subst hK0
 refine aw ?_;refine .sr ?_;refine va ?_
 obtain ⟨x7,g7,h⟩:=bnd h
 refine clR (avs:=[.nl,.d (.i .i64 z1)]) (Wy Vh Wm (IS g7)) Tryz.call157 (fun r' H' hp=>?_)
 obtain ⟨rfl,rfl⟩:=hp
 refine aso ?_;refine rk [0,2,6] ?_;refine .seq ?_;refine .sr ?_;refine va ?_;refine vk (A8 (Ny _) (VH _) Uy) ?_;refine va ?_;refine rk [2,6,25,26,27] ?_
 obtain ⟨K3,hK3,h⟩:=AP h
 refine AW.mr (σ:=(List Int)) (fun p=>K3 p=some r) (fun p=>[(2,.nl),(6,.own 3 (Is p))]) (fun p=>[]) ?_ ?_
 ·skip
  refine .block ?_
  refine .loop (.gk [2,6,25,26,27] ?_)
  refine AL.ind (σ:=Nat×(List Int)×Int) (m:=fun p=>p.1) (e:=fun p=>[(2,.nl),(6,.own 3 (Is p.2.1)),(25,.d (.sl (IsS a0))),(26,.d (.i .i64 ((List.length a0:Nat):Int))),(27,.d (.i .i64 p.2.2))]) (h:=fun p=>[]) (I:=fun p=>Bx a0 K3 p.1 p.2.1 p.2.2=some r) ?_ (AK,[],0) h
  rintro ⟨k,s9,s10⟩ h ih
  dsimp only at h ih ⊢
  rcases k with _|k
  ·rw [Bx] at h;cases h
  rw [Bx] at h
  refine .sr ?_;refine vb ?_;refine rk [2,6,25,26,27,28] ?_;refine .seq ?_
  rcases brc h with ⟨hc,h⟩|⟨hc,h⟩
  ·refine cnt (dT hc) ?_
   refine .sk ?_;refine .seq ?_;refine .block ?_;refine .sr ?_
   obtain ⟨x11,g11,h⟩:=bnd h
   obtain ⟨n11,p011,q11⟩:=Aj g11
   refine vk (vix n11 p011 (Uv q11) rfl VP) ?_;refine vk (Am CS) ?_;refine ar [2,6,8,25,26,27] ?_;refine .region ?_;refine mvo ?_;refine va ?_
   obtain ⟨x12,g12,h⟩:=bnd h
   refine Ym RN g12 US ?_ PK Ai Hf
   refine aso ?_;refine .nil ?_;refine aw ?_;refine .gk [2,6,25,26,27] ?_;refine .region ?_;refine vb ?_;refine va ?_;refine .nil ?_;refine AL.gk [2,6,25,26,27] ?_
   exact ih (k,x12,(w64 (s10+1))) h (Nat.lt_succ_self _)
  refine cnf (dF hc) ?_;refine .gk [2,6] ?_;refine .exit ?_
  exact jr (s9) h
 rintro z8 h
 try dsimp only at h ⊢
 subst hK3
 refine aw ?_;refine .sr ?_;refine fz (p:=.t 6) ?_;refine va ?_;refine ar [2] ?_;refine .ret ?_
 cases h
 exact ⟨rfl,rfl⟩
def Gl (a0:Int) : Option (Bool):=((Nx (⟨#[226,138,130,226,138,131,226,134,145,226,136,138,226,141,139,226,141,146,226,136,170,226,137,161,226,137,162,226,141,179]⟩ : ByteArray) a0).bind fun x1=>(some (x1)))
theorem J6 {a0:Int} {r:Bool} (h:Gl a0=some r) :
  Fn Tryz.prog 64 [.i .i32 a0] (.d (.b r)):=by
 unfold Gl at h
 refine Fn.o1 2 5 Tryz.func64 ?_;refine .sr ?_;refine ar [0,2] ?_;refine .sr ?_;refine va ?_
 obtain ⟨x1,g1,h⟩:=bnd h
 refine vk (Ah (Qi g1) Tryz.call94) ?_;refine ar [2] ?_;refine .ret ?_
 cases h
 exact ⟨rfl,rfl⟩
def GT (a0:Int) : Option (Bool):=((Nx (⟨#[226,138,131,226,141,179,226,136,138,126,226,136,170,226,137,161,226,137,162,226,138,164,226,138,165,226,140,183]⟩ : ByteArray) a0).bind fun x1=>(some (x1)))
theorem K9 {a0:Int} {r:Bool} (h:GT a0=some r) :
  Fn Tryz.prog 38 [.i .i32 a0] (.d (.b r)):=by
 unfold GT at h
 refine Fn.o1 2 5 Tryz.func38 ?_;refine .sr ?_;refine ar [0,2] ?_;refine .sr ?_;refine va ?_
 obtain ⟨x1,g1,h⟩:=bnd h
 refine vk (Ah (Qi g1) Tryz.call94) ?_;refine ar [2] ?_;refine .ret ?_
 cases h
 exact ⟨rfl,rfl⟩
def Cl (a0:(List Int)) (K0:Int→Int→Bool→Bool→Option (Int×Int)) : Nat→Int→Int→Bool→Bool→Int→Option (Int×Int)
 | 0,_,_,_,_,_=>none
 | k+1,s5,s6,s7,s8,s9=>(if s9<((List.length a0:Nat):Int) then ((rd? a0 s9).bind fun x10=>(if x10<0 then (some (0,3)) else (Option.bind ((if s7=true then (some true) else ((rd? a0 s9).bind fun x12=>(some (decide (x12=0))))):Option (Bool)) fun (z11:Bool)=>(if s8=true then (Cl a0 K0 k s5 s6 z11 true (w64 (s9+1))) else ((rd? a0 s9).bind fun x13=>(Cl a0 K0 k s5 s6 z11 (decide (4096<x13)) (w64 (s9+1)))))))) else (K0 s5 s6 s7 s8))
def CJ (a0:(List Int)) (K2:Int→Int→Int→Option (Int×Int)) : Nat→Int→Int→Int→Int→Option (Int×Int)
 | 0,_,_,_,_=>none
 | k+1,s17,s18,s19,s20=>(if s20<((List.length a0:Nat):Int) then ((rd? a0 s20).bind fun x21=>(if 4096<(w64 (s19 * x21)) then (some (0,8)) else ((rd? a0 s20).bind fun x22=>(CJ a0 K2 k s17 s18 (w64 (s19 * x22)) (w64 (s20+1)))))) else (K2 s17 s18 s19))
def E1 (a0:(List Int)) : Option (Int×Int):=(if 8<((List.length a0:Nat) : Int) then (some (0,4)) else (jn (fun (z1:Int) (z2:Int) (z3:Bool) (z4:Bool)=>(if z4=true then (some (0,8)) else (if z3=true then (some (0,0)) else (jn (fun (z14:Int) (z15:Int) (z16:Int)=>(some (z16,0))) fun K2=>(CJ a0 K2 AK z1 z2 1 0))))) fun K0=>(Cl a0 K0 AK 0 0 false false 0)))
theorem NY {a0:(List Int)} {r:Int×Int} (h:E1 a0=some r) :
  Fn Tryz.prog 73 [.sl (Is a0)] (.tup [.d (.i .i64 r.1),.d (.i .i64 r.2)]):=by
 unfold E1 at h
 refine Fn.of (rs:=[.tmp 2,.tmp 3]) (nt:=61) Tryz.func73 rfl rfl rfl (by simp) rfl ?_;refine .sr ?_;refine asd ?_;refine ar [0,2,3] ?_;refine .seq ?_;refine .sr ?_;refine va ?_;refine vk (A8 (Ai _) (CT _) Cu) ?_;refine vb ?_;refine rk [0,2,3,11] ?_
 rcases brc h with ⟨hc,h⟩|⟨hc,h⟩
 ·refine cnt (dT hc) ?_
  refine .sr ?_;refine asd ?_;refine ar [0,2,3] ?_;refine .ret ?_
  cases h
  exact ⟨by decide,rfl,rfl,rfl⟩
 refine cnf (dF hc) ?_;refine .sk ?_;refine .sr ?_;refine asd ?_;refine ar [0,2,3,4,5] ?_;refine .seq ?_;refine .sr ?_;refine ar [0,2,3,4,5,6] ?_
 obtain ⟨K0,hK0,h⟩:=AP h
 refine AW.mr (σ:=Int×Int×Bool×Bool) (fun p=>K0 p.1 p.2.1 p.2.2.1 p.2.2.2=some r) (fun p=>[(0,.d (.sl (Is a0))),(2,.d (.i .i64 p.1)),(3,.d (.i .i64 p.2.1)),(4,.d (.b p.2.2.1)),(5,.d (.b p.2.2.2))]) (fun p=>[]) ?_ ?_
 ·skip
  refine .block ?_
  refine .loop (.gk [0,2,3,4,5,6] ?_)
  refine AL.ind (σ:=Nat×Int×Int×Bool×Bool×Int) (m:=fun p=>p.1) (e:=fun p=>[(0,.d (.sl (Is a0))),(2,.d (.i .i64 p.2.1)),(3,.d (.i .i64 p.2.2.1)),(4,.d (.b p.2.2.2.1)),(5,.d (.b p.2.2.2.2.1)),(6,.d (.i .i64 p.2.2.2.2.2))]) (h:=fun p=>[]) (I:=fun p=>Cl a0 K0 p.1 p.2.1 p.2.2.1 p.2.2.2.1 p.2.2.2.2.1 p.2.2.2.2.2=some r) ?_ (AK,0,0,false,false,0) h
  rintro ⟨k,s5,s6,s7,s8,s9⟩ h ih
  dsimp only at h ih ⊢
  rcases k with _|k
  ·rw [Cl] at h;cases h
  rw [Cl] at h
  refine .seq ?_;refine .sr ?_;refine va ?_;refine va ?_;refine vk (A8 (Ai _) (CT _) Cu) ?_;refine vb ?_;refine rk [0,2,3,4,5,6,15] ?_
  rcases brc h with ⟨hc,h⟩|⟨hc,h⟩
  ·refine cnt (dT hc) ?_
   refine .sk ?_;refine .seq ?_;refine .block ?_;refine .seq ?_;refine .sr ?_;refine va ?_;refine va ?_
   obtain ⟨x10,g10,h⟩:=bnd h
   obtain ⟨n10,p010,q10⟩:=Aj g10
   refine vk (vix n10 p010 (BC q10) rfl Bo) ?_;refine vk (Am AS) ?_;refine vb ?_;refine rk [0,2,3,4,5,6,22] ?_
   rcases brc h with ⟨hc,h⟩|⟨hc,h⟩
   ·refine cnt (dT hc) ?_
    refine .sr ?_;refine asd ?_;refine ar [0,2,3,4,5,6] ?_;refine .ret ?_
    cases h
    exact ⟨by decide,rfl,rfl,rfl⟩
   refine cnf (dF hc) ?_;refine .sk ?_;refine .seq ?_
   obtain ⟨z11,hz,h⟩:=bnd h
   refine AW.mr (σ:=Unit) (fun _=>True) (fun _=>[(0,.d (.sl (Is a0))),(2,.d (.i .i64 s5)),(3,.d (.i .i64 s6)),(4,.d (.b z11)),(5,.d (.b s8)),(6,.d (.i .i64 s9))]) (fun _=>[]) ?_ ?_
   ·skip
    refine .region ?_;refine va ?_
    rcases brc hz with ⟨hc,hz⟩|⟨hc,hz⟩
    ·have hb0:s7=true:=hc
     refine vL hb0 ?_;refine gf4 ?_;refine gf ?_;refine vk Ag ?_;refine asd ?_;refine RL.gk [0,2,3,4,5,6] ?_;refine .nil ?_
     cases hz
     exact jr () trivial
    have hb0:s7=false:=(bf hc)
    refine vL hb0 ?_;refine va ?_;refine va ?_
    obtain ⟨x12,g12,hz⟩:=bnd hz
    obtain ⟨n12,p012,q12⟩:=Aj g12
    refine vk (vix n12 p012 (BC q12) rfl Bo) ?_;refine vk (Am AS) ?_;refine vb ?_;refine vk Ag ?_;refine asd ?_;refine RL.gk [0,2,3,4,5,6] ?_;refine .nil ?_
    cases hz
    exact jr () trivial
   rintro _ _
   refine .region ?_;refine va ?_
   rcases brc h with ⟨hc,h⟩|⟨hc,h⟩
   ·have hb0:s8=true:=hc
    refine vL hb0 ?_;refine gf4 ?_;refine gf ?_;refine vk Ag ?_;refine asd ?_;refine .nil ?_;refine aw ?_;refine .gk [0,2,3,4,5,6] ?_;refine .region ?_;refine va ?_;refine vb ?_;refine asd ?_;refine .nil ?_;refine AL.gk [0,2,3,4,5,6] ?_
    exact ih (k,s5,s6,z11,true,(w64 (s9+1))) h (Nat.lt_succ_self _)
   have hb0:s8=false:=(bf hc)
   refine vL hb0 ?_;refine va ?_;refine va ?_
   obtain ⟨x13,g13,h⟩:=bnd h
   obtain ⟨n13,p013,q13⟩:=Aj g13
   refine vk (vix n13 p013 (BC q13) rfl Bo) ?_;refine vk (Am AS) ?_;refine vb ?_;refine vk Ag ?_;refine asd ?_;refine .nil ?_;refine aw ?_;refine .gk [0,2,3,4,5,6] ?_;refine .region ?_;refine va ?_;refine vb ?_;refine asd ?_;refine .nil ?_;refine AL.gk [0,2,3,4,5,6] ?_
   exact ih (k,s5,s6,z11,(decide (4096<x13)),(w64 (s9+1))) h (Nat.lt_succ_self _)
  refine cnf (dF hc) ?_;refine .gk [0,2,3,4,5] ?_;refine .exit ?_
  exact jr (s5,s6,s7,s8) h
 rintro ⟨z1,z2,z3,z4⟩ h
 try dsimp only at h ⊢
 subst hK0
 refine aw ?_;refine .seq ?_;refine .sr ?_;refine va ?_;refine rk [0,2,3,4,39] ?_
 rcases brc h with ⟨hc,h⟩|⟨hc,h⟩
 ·refine cnt hc ?_
  refine .sr ?_;refine asd ?_;refine ar [0,2,3,4] ?_;refine .ret ?_
  cases h
  exact ⟨by decide,rfl,rfl,rfl⟩
 refine cnf (bf hc) ?_;refine .sk ?_;refine .seq ?_;refine .sr ?_;refine va ?_;refine rk [0,2,3,40] ?_
 rcases brc h with ⟨hc,h⟩|⟨hc,h⟩
 ·refine cnt hc ?_
  refine .sr ?_;refine asd ?_;refine ar [0,2,3] ?_;refine .ret ?_
  cases h
  exact ⟨by decide,rfl,rfl,rfl⟩
 refine cnf (bf hc) ?_;refine .sk ?_;refine .sr ?_;refine ar [0,2,3,7] ?_;refine .seq ?_;refine .sr ?_;refine ar [0,2,3,7,8] ?_
 obtain ⟨K2,hK2,h⟩:=AP h
 refine AW.mr (σ:=Int×Int×Int) (fun p=>K2 p.1 p.2.1 p.2.2=some r) (fun p=>[(2,.d (.i .i64 p.1)),(3,.d (.i .i64 p.2.1)),(7,.d (.i .i64 p.2.2))]) (fun p=>[]) ?_ ?_
 ·skip
  refine .block ?_
  refine .loop (.gk [0,2,3,7,8] ?_)
  refine AL.ind (σ:=Nat×Int×Int×Int×Int) (m:=fun p=>p.1) (e:=fun p=>[(0,.d (.sl (Is a0))),(2,.d (.i .i64 p.2.1)),(3,.d (.i .i64 p.2.2.1)),(7,.d (.i .i64 p.2.2.2.1)),(8,.d (.i .i64 p.2.2.2.2))]) (h:=fun p=>[]) (I:=fun p=>CJ a0 K2 p.1 p.2.1 p.2.2.1 p.2.2.2.1 p.2.2.2.2=some r) ?_ (AK,z1,z2,1,0) h
  rintro ⟨k,s17,s18,s19,s20⟩ h ih
  dsimp only at h ih ⊢
  rcases k with _|k
  ·rw [CJ] at h;cases h
  rw [CJ] at h
  refine .seq ?_;refine .sr ?_;refine va ?_;refine va ?_;refine vk (A8 (Ai _) (CT _) Cu) ?_;refine vb ?_;refine rk [0,2,3,7,8,44] ?_
  rcases brc h with ⟨hc,h⟩|⟨hc,h⟩
  ·refine cnt (dT hc) ?_
   refine .sk ?_;refine .seq ?_;refine .block ?_;refine .seq ?_;refine .sr ?_;refine va ?_;refine va ?_;refine va ?_
   obtain ⟨x21,g21,h⟩:=bnd h
   obtain ⟨n21,p021,q21⟩:=Aj g21
   refine vk (vix n21 p021 (BC q21) rfl Bo) ?_;refine vk (Am AS) ?_;refine vb ?_;refine vb ?_;refine rk [0,2,3,7,8,53] ?_
   rcases brc h with ⟨hc,h⟩|⟨hc,h⟩
   ·refine cnt (dT hc) ?_
    refine .sr ?_;refine asd ?_;refine ar [0,2,3,7,8] ?_;refine .ret ?_
    cases h
    exact ⟨by decide,rfl,rfl,rfl⟩
   refine cnf (dF hc) ?_;refine .sk ?_;refine .region ?_;refine va ?_;refine va ?_;refine va ?_
   obtain ⟨x22,g22,h⟩:=bnd h
   obtain ⟨n22,p022,q22⟩:=Aj g22
   refine vk (vix n22 p022 (BC q22) rfl Bo) ?_;refine vk (Am AS) ?_;refine vb ?_;refine asd ?_;refine .nil ?_;refine aw ?_;refine .gk [0,2,3,7,8] ?_;refine .region ?_;refine va ?_;refine vb ?_;refine asd ?_;refine .nil ?_;refine AL.gk [0,2,3,7,8] ?_
   exact ih (k,s17,s18,(w64 (s19 * x22)),(w64 (s20+1))) h (Nat.lt_succ_self _)
  refine cnf (dF hc) ?_;refine .gk [2,3,7] ?_;refine .exit ?_
  exact jr (s17,s18,s19) h
 rintro ⟨z14,z15,z16⟩ h
 try dsimp only at h ⊢
 subst hK2
 refine aw ?_;refine .sr ?_;refine va ?_;refine asd ?_;refine ar [2,3] ?_;refine .ret ?_
 cases h
 exact ⟨by decide,rfl,rfl,rfl⟩
def B4 (a0:Arr) : Option (Bool):=(Option.bind ((if ((List.length a0.shape:Nat) : Int)=0 then (if ((List.length a0.items:Nat) : Int)=1 then ((rd? a0.items 0).bind fun x2=>(some (!(decide (x2.kind=3))))) else (some false)) else (some false)) : Option (Bool)) fun (z1:Bool)=>(some (z1)))
theorem EN {a0:Arr} {r:Bool} (h:B4 a0=some r) :
  Fn Tryz.prog 86 [.ag [.sl (Is a0.shape),.sl (Its a0.items)]] (.d (.b r)):=by
 unfold B4 at h
 refine Fn.o1 2 21 Tryz.func86 ?_;refine .sr ?_;refine vk vbx ?_;refine ar [1,2] ?_;refine .seq ?_
 obtain ⟨z1,hz,h⟩:=bnd h
 refine AW.mr (σ:=Unit) (fun _=>True) (fun _=>[(2,.d (.b z1))]) (fun _=>[]) ?_ ?_
 ·skip
  refine .region ?_;refine vk (vfa Bh) ?_;refine vk (Am CS) ?_;refine vk (A8 (Ai _) (CT _) Cu) ?_;refine vb ?_
  rcases brc hz with ⟨hc,hz⟩|⟨hc,hz⟩
  ·have hb0:(decide (((List.length a0.shape:Nat):Int)=0))=true:=(dT hc)
   refine vL hb0 ?_;refine vk (vfa AY) ?_;refine vk (Am BR) ?_;refine vk (A8 (AC _) (BT _) BU) ?_;refine vb ?_;refine vk Ag ?_
   rcases brc hz with ⟨hc,hz⟩|⟨hc,hz⟩
   ·have hb1:(decide (((List.length a0.items:Nat):Int)=1))=true:=(dT hc)
    refine vL hb1 ?_;refine vk (vfa AY) ?_;refine vk (Am BR) ?_
    obtain ⟨x2,g2,hz⟩:=bnd hz
    obtain ⟨n2,p02,q2⟩:=Aj g2
    refine vk (vix n2 p02 (CR q2) rfl CK) ?_;refine vk (vfa Bp) ?_;refine vk (Am AT) ?_;refine vb ?_;refine vk Ag ?_;refine asd ?_;refine RL.gk [2] ?_;refine .nil ?_
    cases hz
    exact jr () trivial
   have hb1:(decide (((List.length a0.items:Nat):Int)=1))=false:=(dF hc)
   refine vL hb1 ?_;refine gf4 ?_;refine gf2 ?_;refine vk Ag ?_;refine asd ?_;refine RL.gk [2] ?_;refine .nil ?_
   cases hz
   exact jr () trivial
  have hb0:(decide (((List.length a0.shape:Nat):Int)=0))=false:=(dF hc)
  refine vL hb0 ?_;refine gf4 ?_;refine vk Ag ?_;refine va ?_;refine gf4 ?_;refine gf2 ?_;refine vk Ag ?_;refine asd ?_;refine RL.gk [2] ?_;refine .nil ?_
  cases hz
  exact jr () trivial
 rintro _ _
 refine .ret ?_
 cases h
 exact ⟨rfl,rfl⟩
def C9 (a0:Itm) : Option (Bool):=(some (((!a0.num.1)&&((decide (((List.length a0.num.2.1:Nat) : Int)=0))&&(decide (((List.length a0.num.2.2:Nat) : Int)=0))))))
theorem Gd {a0:Itm} {r:Bool} (h:C9 a0=some r) :
  Fn Tryz.prog 85 [.ag [.i .u8 a0.kind,.b a0.num.1,.sl (L a0.num.2.1),.sl (L a0.num.2.2),.i .i32 a0.char,.sl (Ars a0.box)]] (.d (.b r)):=by
 unfold C9 at h
 refine Fn.o1 2 21 Tryz.func85 ?_;refine .sr ?_;refine vk vbx ?_;refine ar [1,2] ?_;refine .seq ?_;refine AW.mr (σ:=Unit) (fun _=>True) (fun _=>[(2,.d (.b ((!a0.num.1)&&((decide (((List.length a0.num.2.1:Nat):Int)=0))&&(decide (((List.length a0.num.2.2:Nat):Int)=0))))))]) (fun _=>[]) ?_ ?_
 ·skip
  refine .region ?_;refine vk (vfa BH) ?_;refine vk (vfa E4) ?_;refine vk (Am D0) ?_;refine vk vnt ?_
  by_cases hc:a0.num.1=true
  ·have hb0:(!a0.num.1)=false:=(ntf hc)
   refine vL hb0 ?_;refine gf4 ?_;refine gf ?_;refine vk Ag ?_;refine va ?_;refine gf4 ?_;refine gf ?_;refine vk Ag ?_;refine asd ?_;refine RL.gk [2] ?_;refine .nil ?_
   exact jr () trivial (by simp only [hb0];rfl)
  have hb0:(!a0.num.1)=true:=(ntt (bf hc))
  refine vL hb0 ?_;refine vk (vfa BH) ?_;refine vk (vfa D6) ?_;refine vk (Am ET) ?_;refine vk (A8 (Aa _) (Bf _) Nz) ?_;refine vb ?_;refine vk Ag ?_
  by_cases hc:((List.length a0.num.2.1:Nat):Int)=0
  ·have hb1:(decide (((List.length a0.num.2.1:Nat):Int)=0))=true:=(dT hc)
   refine vL hb1 ?_;refine vk (vfa BH) ?_;refine vk (vfa Ga) ?_;refine vk (Am ET) ?_;refine vk (A8 (Aa _) (Bf _) Nz) ?_;refine vb ?_;refine vk Ag ?_;refine asd ?_;refine RL.gk [2] ?_;refine .nil ?_
   exact jr () trivial (by simp only [hb0,hb1];rfl)
  have hb1:(decide (((List.length a0.num.2.1:Nat):Int)=0))=false:=(dF hc)
  refine vL hb1 ?_;refine gf4 ?_;refine gf ?_;refine vk Ag ?_;refine asd ?_;refine RL.gk [2] ?_;refine .nil ?_
  exact jr () trivial (by simp only [hb0,hb1];rfl)
 rintro _ _
 refine .ret ?_
 cases h
 exact ⟨rfl,rfl⟩
def AQ (rc_ref03_measure:Arr→Int→Int→Option (Bool×Int×Int)) (a0:Arr) (a1:Int) (a2:Int) (K1:Bool→Int→Int→Int→Int→Option (Bool×Int×Int)) : Nat→Bool→Int→Int→Int→Int→Int→Option (Bool×Int×Int)
 | 0,_,_,_,_,_,_=>none
 | k+1,s8,s9,s10,s11,s12,s13=>(if s13<((List.length a0.items:Nat):Int) then (jn (fun (z14:Int) (z15:Int)=>(AQ rc_ref03_measure a0 a1 a2 K1 k s8 s9 s10 z14 z15 (w64 (s13+1)))) fun K3=>((rd? a0.items s13).bind fun x16=>(Option.bind ((if x16.kind=1 then ((Ez x16.num).bind fun x18=>(if x18=true then (if x16.char=0 then (some (decide (((List.length x16.box:Nat):Int)=0))) else (some false)) else (some false))) else (some false)):Option (Bool)) fun (z17:Bool)=>(if z17=true then (K3 s11 s12) else (Option.bind ((if x16.kind=2 then ((EH x16.char).bind fun x20=>(if x20=true then ((C9 x16).bind fun x21=>(if x21=true then (some (decide (((List.length x16.box:Nat):Int)=0))) else (some false))) else (some false))) else (some false)):Option (Bool)) fun (z19:Bool)=>(if z19=true then (K3 s11 s12) else (Option.bind ((if x16.kind=3 then (if ((List.length x16.box:Nat):Int)=1 then ((C9 x16).bind fun x23=>(if x23=true then (if x16.char=0 then ((rd? x16.box 0).bind fun x24=>((B4 x24).bind fun x25=>(some (!x25)))) else (some false)) else (some false))) else (some false)) else (some false)):Option (Bool)) fun (z22:Bool)=>(if z22=true then ((rd? x16.box 0).bind fun x26=>((rc_ref03_measure x26 (w64 (a1+1)) (w64 (a2-s12))).bind fun x27=>(if x27.1=true then (jn (fun (z28:Int)=>(K3 z28 (w64 (s12+x27.2.2)))) fun K4=>(if s11<x27.2.1 then (K4 x27.2.1) else (K4 s11))) else (some (false,0,0))))) else (some (false,0,0)))))))))) else (K1 s8 s9 s10 s11 s12))
def CM (rc_ref03_measure:Arr→Int→Int→Option (Bool×Int×Int)) (a0:Arr) (a1:Int) (a2:Int) : Option (Bool×Int×Int):=((E1 a0.shape).bind fun x1=>(if ((!(decide (x1.2=0)))||(decide (16<a1)))=true then (some (false,0,0)) else (jn (fun (z2:Int)=>(if ((!(decide (((List.length a0.items:Nat) : Int)=z2)))||(decide (a2<z2)))=true then (some (false,0,0)) else (jn (fun (z3:Bool) (z4:Int) (z5:Int) (z6:Int) (z7:Int)=>((B4 a0).bind fun x29=>(jn (fun (z30:Int)=>(some ((decide (z7≤a2)),z30,z7))) fun K5=>(if x29=true then (K5 z6) else (K5 (w64 (z6+1))))))) fun K1=>(AQ rc_ref03_measure a0 a1 a2 K1 AK false 0 0 0 z2 0)))) fun K0=>(if x1.1=0 then (K0 1) else (K0 x1.1)))))
set_option maxHeartbeats 4000000 in
theorem KE {rc_ref03_measure:Arr→Int→Int→Option (Bool×Int×Int)} (orc_ref03_measure:∀ x0 x1 x2 r,rc_ref03_measure x0 x1 x2=some r→Fn Tryz.prog 134 [.ag [.sl (Is x0.shape),.sl (Its x0.items)],.i .i64 x1,.i .i64 x2] (.tup [.d (.b r.1),.d (.i .i64 r.2.1),.d (.i .i64 r.2.2)])) {a0:Arr} {a1:Int} {a2:Int} {r:Bool×Int×Int} (h:CM rc_ref03_measure a0 a1 a2=some r) :
  Fn Tryz.prog 134 [.ag [.sl (Is a0.shape),.sl (Its a0.items)],.i .i64 a1,.i .i64 a2] (.tup [.d (.b r.1),.d (.i .i64 r.2.1),.d (.i .i64 r.2.2)]):=by
 unfold CM at h
 refine Fn.of (rs:=[.tmp 6,.tmp 7,.tmp 8]) (nt:=154) Tryz.func134 rfl rfl rfl (by simp) rfl ?_;refine .sr ?_;refine vk vbx ?_;refine asd ?_;refine asd ?_;refine ar [1,2,3,6,7,8] ?_;refine .sr ?_;refine vk (vfa Bh) ?_;refine vk (Am CS) ?_
 obtain ⟨x1,g1,h⟩:=bnd h
 refine vk (VOK.tupd (vs:=[.i .i64 x1.1,.i .i64 x1.2]) (Ah (NY g1) Tryz.call73)) ?_;refine va ?_;refine vk vex ?_;refine vk vex ?_;refine asd ?_;refine ar [1,2,3,6,7,8,9,10] ?_;refine .seq ?_;refine .seq ?_;refine AW.mr (σ:=Unit) (fun _=>True) (fun _=>[(1,.d (.i .i64 a1)),(2,.d (.i .i64 a2)),(3,.d (.ptr [.sl (Is a0.shape),.sl (Its a0.items)])),(6,.d (.b false)),(7,.d (.i .i64 0)),(8,.d (.i .i64 0)),(9,.d (.i .i64 x1.1)),(29,.d (.b ((!(decide (x1.2=0)))||(decide (16<a1)))))]) (fun _=>[]) ?_ ?_
 ·skip
  refine .region ?_;refine va ?_;refine vb ?_
  by_cases hc:x1.2=0
  ·have hb0:(!(decide (x1.2=0)))=false:=(ntf (dT hc))
   refine vL hb0 ?_;refine va ?_;refine vb ?_;refine vk Ag ?_;refine RL.gk [1,2,3,6,7,8,9,29] ?_;refine .nil ?_
   exact jr () trivial (by simp only [hb0];rfl)
  have hb0:(!(decide (x1.2=0)))=true:=(ntt (dF hc))
  refine vL hb0 ?_;refine gf2 ?_;refine vk Ag ?_;refine RL.gk [1,2,3,6,7,8,9,29] ?_;refine .nil ?_
  exact jr () trivial (by simp only [hb0];rfl)
 rintro _ _
 rcases brc h with ⟨hc,h⟩|⟨hc,h⟩
 ·refine cnt hc ?_
  refine .sr ?_;refine asd ?_;refine asd ?_;refine ar [1,2,3,6,7,8,9] ?_;refine .ret ?_
  cases h
  exact ⟨⟨by decide,by decide,by decide⟩,rfl,rfl,rfl,rfl⟩
 refine cnf (bf hc) ?_;refine .sk ?_;refine .seq ?_;refine .sr ?_;refine va ?_;refine vb ?_;refine rk [1,2,3,6,7,8,9,31] ?_
 obtain ⟨K0,hK0,h⟩:=AP h
 refine AW.mr (σ:=Int) (fun p=>K0 p=some r) (fun p=>[(1,.d (.i .i64 a1)),(2,.d (.i .i64 a2)),(3,.d (.ptr [.sl (Is a0.shape),.sl (Its a0.items)])),(6,.d (.b false)),(7,.d (.i .i64 0)),(8,.d (.i .i64 0)),(9,.d (.i .i64 p))]) (fun p=>[]) ?_ ?_
 ·skip
  rcases brc h with ⟨hc,h⟩|⟨hc,h⟩
  ·refine cnt (dT hc) ?_
   refine .region ?_;refine asd ?_;refine RL.gk [1,2,3,6,7,8,9] ?_;refine .nil ?_
   exact jr (1) h
  refine cnf (dF hc) ?_;refine .gk [1,2,3,6,7,8,9] ?_;refine .skip ?_
  exact jr (x1.1) h
 rintro z2 h
 try dsimp only at h ⊢
 subst hK0
 refine aw ?_;refine .seq ?_;refine .seq ?_;refine AW.mr (σ:=Unit) (fun _=>True) (fun _=>[(1,.d (.i .i64 a1)),(2,.d (.i .i64 a2)),(3,.d (.ptr [.sl (Is a0.shape),.sl (Its a0.items)])),(6,.d (.b false)),(7,.d (.i .i64 0)),(8,.d (.i .i64 0)),(9,.d (.i .i64 z2)),(41,.d (.b ((!(decide (((List.length a0.items:Nat):Int)=z2)))||(decide (a2<z2)))))]) (fun _=>[]) ?_ ?_
 ·skip
  refine .region ?_;refine vk (vfa AY) ?_;refine vk (Am BR) ?_;refine vk (A8 (AC _) (BT _) BU) ?_;refine va ?_;refine vb ?_
  by_cases hc:((List.length a0.items:Nat):Int)=z2
  ·have hb0:(!(decide (((List.length a0.items:Nat):Int)=z2)))=false:=(ntf (dT hc))
   refine vL hb0 ?_;refine va ?_;refine va ?_;refine vb ?_;refine vk Ag ?_;refine RL.gk [1,2,3,6,7,8,9,41] ?_;refine .nil ?_
   exact jr () trivial (by simp only [hb0];rfl)
  have hb0:(!(decide (((List.length a0.items:Nat):Int)=z2)))=true:=(ntt (dF hc))
  refine vL hb0 ?_;refine gf3 ?_;refine vk Ag ?_;refine RL.gk [1,2,3,6,7,8,9,41] ?_;refine .nil ?_
  exact jr () trivial (by simp only [hb0];rfl)
 rintro _ _
 rcases brc h with ⟨hc,h⟩|⟨hc,h⟩
 ·refine cnt hc ?_
  refine .sr ?_;refine asd ?_;refine asd ?_;refine ar [1,2,3,6,7,8,9] ?_;refine .ret ?_
  cases h
  exact ⟨⟨by decide,by decide,by decide⟩,rfl,rfl,rfl,rfl⟩
 refine cnf (bf hc) ?_;refine .sk ?_;refine .sr ?_;refine ar [1,2,3,6,7,8,9,11] ?_;refine .sr ?_;refine va ?_;refine ar [1,2,3,6,7,8,11,12] ?_;refine .seq ?_;refine .sr ?_;refine ar [1,2,3,6,7,8,11,12,13] ?_
 obtain ⟨K1,hK1,h⟩:=AP h
 refine AW.mr (σ:=Bool×Int×Int×Int×Int) (fun p=>K1 p.1 p.2.1 p.2.2.1 p.2.2.2.1 p.2.2.2.2=some r) (fun p=>[(2,.d (.i .i64 a2)),(3,.d (.ptr [.sl (Is a0.shape),.sl (Its a0.items)])),(6,.d (.b p.1)),(7,.d (.i .i64 p.2.1)),(8,.d (.i .i64 p.2.2.1)),(11,.d (.i .i64 p.2.2.2.1)),(12,.d (.i .i64 p.2.2.2.2))]) (fun p=>[]) ?_ ?_
 ·skip
  refine .block ?_
  refine .loop (.gk [1,2,3,6,7,8,11,12,13] ?_)
  refine AL.ind (σ:=Nat×Bool×Int×Int×Int×Int×Int) (m:=fun p=>p.1) (e:=fun p=>[(1,.d (.i .i64 a1)),(2,.d (.i .i64 a2)),(3,.d (.ptr [.sl (Is a0.shape),.sl (Its a0.items)])),(6,.d (.b p.2.1)),(7,.d (.i .i64 p.2.2.1)),(8,.d (.i .i64 p.2.2.2.1)),(11,.d (.i .i64 p.2.2.2.2.1)),(12,.d (.i .i64 p.2.2.2.2.2.1)),(13,.d (.i .i64 p.2.2.2.2.2.2))]) (h:=fun p=>[]) (I:=fun p=>AQ rc_ref03_measure a0 a1 a2 K1 p.1 p.2.1 p.2.2.1 p.2.2.2.1 p.2.2.2.2.1 p.2.2.2.2.2.1 p.2.2.2.2.2.2=some r) ?_ (AK,false,0,0,0,z2,0) h
  rintro ⟨k,s8,s9,s10,s11,s12,s13⟩ h ih
  dsimp only at h ih ⊢
  rcases k with _|k
  ·rw [AQ] at h;cases h
  rw [AQ] at h
  refine .seq ?_;refine .sr ?_;refine va ?_;refine vk (vfa AY) ?_;refine vk (Am BR) ?_;refine vk (A8 (AC _) (BT _) BU) ?_;refine vb ?_;refine rk [1,2,3,6,7,8,11,12,13,47] ?_
  rcases brc h with ⟨hc,h⟩|⟨hc,h⟩
  ·refine cnt (dT hc) ?_
   refine .sk ?_
   obtain ⟨K3,hK3,h⟩:=AP h
   refine AW.mj (σ:=Int×Int) (fun p=>K3 p.1 p.2=some r) (fun p=>[(1,.d (.i .i64 a1)),(2,.d (.i .i64 a2)),(3,.d (.ptr [.sl (Is a0.shape),.sl (Its a0.items)])),(6,.d (.b s8)),(7,.d (.i .i64 s9)),(8,.d (.i .i64 s10)),(11,.d (.i .i64 p.1)),(12,.d (.i .i64 p.2)),(13,.d (.i .i64 s13))]) (fun p=>[]) ?_ ?_
   ·skip
    refine .block ?_;refine .sr ?_;refine vk (vfa AY) ?_;refine vk (Am BR) ?_;refine va ?_
    obtain ⟨x16,g16,h⟩:=bnd h
    obtain ⟨n16,p016,q16⟩:=Aj g16
    refine vk (vix n16 p016 (CR q16) rfl CK) ?_;refine vk (Aq AB As) ?_;refine vk (van (Ap CN) CQ) ?_
    refine stn ?_ As (by decide)
    refine rk [1,2,3,6,7,8,11,12,13,14] ?_;refine .block ?_;refine .seq ?_;refine .gh (Gh.nbp (t:=14) rfl) ?_
    obtain ⟨z17,hz,h⟩:=bnd h
    refine AW.mr (σ:=Unit) (fun _=>True) (fun _=>[(1,.d (.i .i64 a1)),(2,.d (.i .i64 a2)),(3,.d (.ptr [.sl (Is a0.shape),.sl (Its a0.items)])),(6,.d (.b s8)),(7,.d (.i .i64 s9)),(8,.d (.i .i64 s10)),(11,.d (.i .i64 s11)),(12,.d (.i .i64 s12)),(13,.d (.i .i64 s13)),(14,.d (.ptr [.i .u8 x16.kind,.b x16.num.1,.sl (L x16.num.2.1),.sl (L x16.num.2.2),.i .i32 x16.char,.sl (Ars x16.box)])),(55,.d (.b z17))]) (fun _=>[]) ?_ ?_
    ·skip
     refine .region ?_;refine vk (vfa Bp) ?_;refine vk (Am AT) ?_;refine vb ?_
     rcases brc hz with ⟨hc,hz⟩|⟨hc,hz⟩
     ·have hb0:(decide (x16.kind=1))=true:=(dT hc)
      refine vL hb0 ?_;refine vk (vfa BH) ?_;refine vk (Aq A4 AE) ?_
      obtain ⟨x18,g18,hz⟩:=bnd hz
      refine vk (Ah (HG g18) Tryz.call183) ?_;refine vk Ag ?_
      rcases brc hz with ⟨hc,hz⟩|⟨hc,hz⟩
      ·have hb1:x18=true:=hc
       refine vL hb1 ?_;refine vk (vfa CI) ?_;refine vk (Am CF) ?_;refine vb ?_;refine vk Ag ?_
       rcases brc hz with ⟨hc,hz⟩|⟨hc,hz⟩
       ·have hb2:(decide (x16.char=0))=true:=(dT hc)
        refine vL hb2 ?_;refine vk (vfa Ba) ?_;refine vk (Am B6) ?_;refine vk (A8 (BL _) (E0 _) E5) ?_;refine vb ?_;refine vk Ag ?_;refine asd ?_;refine RL.gk [1,2,3,6,7,8,11,12,13,14,55] ?_;refine .nil ?_
        cases hz
        exact jr () trivial
       have hb2:(decide (x16.char=0))=false:=(dF hc)
       refine vL hb2 ?_;refine gf4 ?_;refine vk Ag ?_;refine asd ?_;refine RL.gk [1,2,3,6,7,8,11,12,13,14,55] ?_;refine .nil ?_
       cases hz
       exact jr () trivial
      have hb1:x18=false:=(bf hc)
      refine vL hb1 ?_;refine gf3 ?_;refine vk Ag ?_;refine va ?_;refine gf4 ?_;refine vk Ag ?_;refine asd ?_;refine RL.gk [1,2,3,6,7,8,11,12,13,14,55] ?_;refine .nil ?_
      cases hz
      exact jr () trivial
     have hb0:(decide (x16.kind=1))=false:=(dF hc)
     refine vL hb0 ?_;refine gf3 ?_;refine vk Ag ?_;refine va ?_;refine gf3 ?_;refine vk Ag ?_;refine va ?_;refine gf4 ?_;refine vk Ag ?_;refine asd ?_;refine RL.gk [1,2,3,6,7,8,11,12,13,14,55] ?_;refine .nil ?_
     cases hz
     exact jr () trivial
    rintro _ _
    rcases brc h with ⟨hc,h⟩|⟨hc,h⟩
    ·refine cnt hc ?_
     refine .gk [1,2,3,6,7,8,11,12,13] ?_;refine .skip ?_
     exact jr (s11,s12) h
    refine cnf (bf hc) ?_;refine .seq ?_
    obtain ⟨z19,hz,h⟩:=bnd h
    refine AW.mr (σ:=Unit) (fun _=>True) (fun _=>[(1,.d (.i .i64 a1)),(2,.d (.i .i64 a2)),(3,.d (.ptr [.sl (Is a0.shape),.sl (Its a0.items)])),(6,.d (.b s8)),(7,.d (.i .i64 s9)),(8,.d (.i .i64 s10)),(11,.d (.i .i64 s11)),(12,.d (.i .i64 s12)),(13,.d (.i .i64 s13)),(14,.d (.ptr [.i .u8 x16.kind,.b x16.num.1,.sl (L x16.num.2.1),.sl (L x16.num.2.2),.i .i32 x16.char,.sl (Ars x16.box)])),(75,.d (.b z19))]) (fun _=>[]) ?_ ?_
    ·skip
     refine .region ?_;refine vk (vfa Bp) ?_;refine vk (Am AT) ?_;refine vb ?_
     rcases brc hz with ⟨hc,hz⟩|⟨hc,hz⟩
     ·have hb0:(decide (x16.kind=2))=true:=(dT hc)
      refine vL hb0 ?_;refine vk (vfa CI) ?_;refine vk (Am CF) ?_
      obtain ⟨x20,g20,hz⟩:=bnd hz
      refine vk (Ah (LV g20) Tryz.call184) ?_;refine vk Ag ?_
      rcases brc hz with ⟨hc,hz⟩|⟨hc,hz⟩
      ·have hb1:x20=true:=hc
       refine vL hb1 ?_;refine vk (Aq AB As) ?_
       obtain ⟨x21,g21,hz⟩:=bnd hz
       refine vk (Ah (Gd g21) Tryz.call85) ?_;refine vk Ag ?_
       rcases brc hz with ⟨hc,hz⟩|⟨hc,hz⟩
       ·have hb2:x21=true:=hc
        refine vL hb2 ?_;refine vk (vfa Ba) ?_;refine vk (Am B6) ?_;refine vk (A8 (BL _) (E0 _) E5) ?_;refine vb ?_;refine vk Ag ?_;refine asd ?_;refine RL.gk [1,2,3,6,7,8,11,12,13,14,75] ?_;refine .nil ?_
        cases hz
        exact jr () trivial
       have hb2:x21=false:=(bf hc)
       refine vL hb2 ?_;refine gf4 ?_;refine vk Ag ?_;refine asd ?_;refine RL.gk [1,2,3,6,7,8,11,12,13,14,75] ?_;refine .nil ?_
       cases hz
       exact jr () trivial
      have hb1:x20=false:=(bf hc)
      refine vL hb1 ?_;refine gf2 ?_;refine vk Ag ?_;refine va ?_;refine gf4 ?_;refine vk Ag ?_;refine asd ?_;refine RL.gk [1,2,3,6,7,8,11,12,13,14,75] ?_;refine .nil ?_
      cases hz
      exact jr () trivial
     have hb0:(decide (x16.kind=2))=false:=(dF hc)
     refine vL hb0 ?_;refine gf3 ?_;refine vk Ag ?_;refine va ?_;refine gf2 ?_;refine vk Ag ?_;refine va ?_;refine gf4 ?_;refine vk Ag ?_;refine asd ?_;refine RL.gk [1,2,3,6,7,8,11,12,13,14,75] ?_;refine .nil ?_
     cases hz
     exact jr () trivial
    rintro _ _
    rcases brc h with ⟨hc,h⟩|⟨hc,h⟩
    ·refine cnt hc ?_
     refine .gk [1,2,3,6,7,8,11,12,13] ?_;refine .skip ?_
     exact jr (s11,s12) h
    refine cnf (bf hc) ?_;refine .seq ?_
    obtain ⟨z22,hz,h⟩:=bnd h
    refine AW.mr (σ:=Unit) (fun _=>True) (fun _=>[(1,.d (.i .i64 a1)),(2,.d (.i .i64 a2)),(3,.d (.ptr [.sl (Is a0.shape),.sl (Its a0.items)])),(6,.d (.b s8)),(7,.d (.i .i64 s9)),(8,.d (.i .i64 s10)),(11,.d (.i .i64 s11)),(12,.d (.i .i64 s12)),(13,.d (.i .i64 s13)),(14,.d (.ptr [.i .u8 x16.kind,.b x16.num.1,.sl (L x16.num.2.1),.sl (L x16.num.2.2),.i .i32 x16.char,.sl (Ars x16.box)])),(94,.d (.b z22))]) (fun _=>[]) ?_ ?_
    ·skip
     refine .region ?_;refine vk (vfa Bp) ?_;refine vk (Am AT) ?_;refine vb ?_
     rcases brc hz with ⟨hc,hz⟩|⟨hc,hz⟩
     ·have hb0:(decide (x16.kind=3))=true:=(dT hc)
      refine vL hb0 ?_;refine vk (vfa Ba) ?_;refine vk (Am B6) ?_;refine vk (A8 (BL _) (E0 _) E5) ?_;refine vb ?_;refine vk Ag ?_
      rcases brc hz with ⟨hc,hz⟩|⟨hc,hz⟩
      ·have hb1:(decide (((List.length x16.box:Nat):Int)=1))=true:=(dT hc)
       refine vL hb1 ?_;refine vk (Aq AB As) ?_
       obtain ⟨x23,g23,hz⟩:=bnd hz
       refine vk (Ah (Gd g23) Tryz.call85) ?_;refine vk Ag ?_
       rcases brc hz with ⟨hc,hz⟩|⟨hc,hz⟩
       ·have hb2:x23=true:=hc
        refine vL hb2 ?_;refine vk (vfa CI) ?_;refine vk (Am CF) ?_;refine vb ?_;refine vk Ag ?_
        rcases brc hz with ⟨hc,hz⟩|⟨hc,hz⟩
        ·have hb3:(decide (x16.char=0))=true:=(dT hc)
         refine vL hb3 ?_;refine vk (vfa Ba) ?_;refine vk (Am B6) ?_
         obtain ⟨x24,g24,hz⟩:=bnd hz
         obtain ⟨n24,p024,q24⟩:=Aj g24
         refine vk (vix n24 p024 (Db q24) rfl Dj) ?_;refine vk (Aq Al Ad) ?_
         obtain ⟨x25,g25,hz⟩:=bnd hz
         refine vk (Ah (EN g25) Tryz.call86) ?_;refine vk vnt ?_;refine vk Ag ?_;refine asd ?_;refine RL.gk [1,2,3,6,7,8,11,12,13,14,94] ?_;refine .nil ?_
         cases hz
         exact jr () trivial
        have hb3:(decide (x16.char=0))=false:=(dF hc)
        refine vL hb3 ?_;refine gf4 ?_;refine gf2 ?_;refine vk Ag ?_;refine asd ?_;refine RL.gk [1,2,3,6,7,8,11,12,13,14,94] ?_;refine .nil ?_
        cases hz
        exact jr () trivial
       have hb2:x23=false:=(bf hc)
       refine vL hb2 ?_;refine gf3 ?_;refine vk Ag ?_;refine va ?_;refine gf4 ?_;refine gf2 ?_;refine vk Ag ?_;refine asd ?_;refine RL.gk [1,2,3,6,7,8,11,12,13,14,94] ?_;refine .nil ?_
       cases hz
       exact jr () trivial
      have hb1:(decide (((List.length x16.box:Nat):Int)=1))=false:=(dF hc)
      refine vL hb1 ?_;refine gf2 ?_;refine vk Ag ?_;refine va ?_;refine gf3 ?_;refine vk Ag ?_;refine va ?_;refine gf4 ?_;refine gf2 ?_;refine vk Ag ?_;refine asd ?_;refine RL.gk [1,2,3,6,7,8,11,12,13,14,94] ?_;refine .nil ?_
      cases hz
      exact jr () trivial
     have hb0:(decide (x16.kind=3))=false:=(dF hc)
     refine vL hb0 ?_;refine gf4 ?_;refine vk Ag ?_;refine va ?_;refine gf2 ?_;refine vk Ag ?_;refine va ?_;refine gf3 ?_;refine vk Ag ?_;refine va ?_;refine gf4 ?_;refine gf2 ?_;refine vk Ag ?_;refine asd ?_;refine RL.gk [1,2,3,6,7,8,11,12,13,14,94] ?_;refine .nil ?_
     cases hz
     exact jr () trivial
    rintro _ _
    rcases brc h with ⟨hc,h⟩|⟨hc,h⟩
    ·refine cnt hc ?_
     refine .sr ?_;refine vk (vfa Ba) ?_;refine vk (Am B6) ?_
     obtain ⟨x26,g26,h⟩:=bnd h
     obtain ⟨n26,p026,q26⟩:=Aj g26
     refine vk (vix n26 p026 (Db q26) rfl Dj) ?_;refine vk (Aq Al Ad) ?_;refine va ?_;refine vb ?_;refine va ?_;refine va ?_;refine vb ?_
     obtain ⟨x27,g27,h⟩:=bnd h
     refine vk (VOK.tupd (vs:=[.b x27.1,.i .i64 x27.2.1,.i .i64 x27.2.2]) (Ah (orc_ref03_measure _ _ _ _ g27) Tryz.call134)) ?_;refine va ?_;refine vk vex ?_;refine vk vex ?_;refine vk vex ?_;refine asd ?_;refine asd ?_;refine ar [1,2,3,6,7,8,11,12,13,15,16,17] ?_;refine .seq ?_;refine .sr ?_;refine va ?_;refine vk vnt ?_;refine rk [1,2,3,6,7,8,11,12,13,16,17,136] ?_
     rcases brc h with ⟨hc,h⟩|⟨hc,h⟩
     ·refine cnf (ntf hc) ?_
      refine .sk ?_;refine .seq ?_;refine .sr ?_;refine va ?_;refine va ?_;refine vb ?_;refine rk [1,2,3,6,7,8,11,12,13,16,17,139] ?_
      obtain ⟨K4,hK4,h⟩:=AP h
      refine AW.mr (σ:=Int) (fun p=>K4 p=some r) (fun p=>[(1,.d (.i .i64 a1)),(2,.d (.i .i64 a2)),(3,.d (.ptr [.sl (Is a0.shape),.sl (Its a0.items)])),(6,.d (.b s8)),(7,.d (.i .i64 s9)),(8,.d (.i .i64 s10)),(11,.d (.i .i64 p)),(12,.d (.i .i64 s12)),(13,.d (.i .i64 s13)),(17,.d (.i .i64 x27.2.2))]) (fun p=>[]) ?_ ?_
      ·skip
       rcases brc h with ⟨hc,h⟩|⟨hc,h⟩
       ·refine cnt (dT hc) ?_
        refine .region ?_;refine va ?_;refine asd ?_;refine RL.gk [1,2,3,6,7,8,11,12,13,17] ?_;refine .nil ?_
        exact jr (x27.2.1) h
       refine cnf (dF hc) ?_;refine .gk [1,2,3,6,7,8,11,12,13,17] ?_;refine .skip ?_
       exact jr (s11) h
      rintro z28 h
      try dsimp only at h ⊢
      subst hK4
      refine aw ?_;refine .region ?_;refine va ?_;refine va ?_;refine vb ?_;refine asd ?_;refine RL.gk [1,2,3,6,7,8,11,12,13] ?_;refine .nil ?_
      exact jr (z28,(w64 (s12+x27.2.2))) h
     refine cnt (ntt (bf hc)) ?_;refine .sr ?_;refine asd ?_;refine asd ?_;refine ar [1,2,3,6,7,8,11,12,13,16,17] ?_;refine .ret ?_
     cases h
     exact ⟨⟨by decide,by decide,by decide⟩,rfl,rfl,rfl,rfl⟩
    refine cnf (bf hc) ?_;refine .sr ?_;refine asd ?_;refine asd ?_;refine ar [1,2,3,6,7,8,11,12,13] ?_;refine .ret ?_
    cases h
    exact ⟨⟨by decide,by decide,by decide⟩,rfl,rfl,rfl,rfl⟩
   rintro ⟨z14,z15⟩ h
   try dsimp only at h ⊢
   subst hK3
   refine .region ?_;refine va ?_;refine vb ?_;refine asd ?_;refine .nil ?_;refine AL.gk [1,2,3,6,7,8,11,12,13] ?_
   exact ih (k,s8,s9,s10,z14,z15,(w64 (s13+1))) h (Nat.lt_succ_self _)
  refine cnf (dF hc) ?_;refine .gk [2,3,6,7,8,11,12] ?_;refine .exit ?_
  exact jr (s8,s9,s10,s11,s12) h
 rintro ⟨z3,z4,z5,z6,z7⟩ h
 try dsimp only at h ⊢
 subst hK1
 refine aw ?_;refine .seq ?_;refine .sr ?_;refine vk (Aq Al Ad) ?_
 obtain ⟨x29,g29,h⟩:=bnd h
 refine vk (Ah (EN g29) Tryz.call86) ?_;refine vk vnt ?_;refine rk [2,6,7,8,11,12,146] ?_
 obtain ⟨K5,hK5,h⟩:=AP h
 refine AW.mr (σ:=Int) (fun p=>K5 p=some r) (fun p=>[(2,.d (.i .i64 a2)),(6,.d (.b z3)),(7,.d (.i .i64 z4)),(8,.d (.i .i64 z5)),(11,.d (.i .i64 p)),(12,.d (.i .i64 z7))]) (fun p=>[]) ?_ ?_
 ·skip
  rcases brc h with ⟨hc,h⟩|⟨hc,h⟩
  ·refine cnf (ntf hc) ?_
   refine .gk [2,6,7,8,11,12] ?_;refine .skip ?_
   exact jr (z6) h
  refine cnt (ntt (bf hc)) ?_;refine .region ?_;refine va ?_;refine vb ?_;refine asd ?_;refine RL.gk [2,6,7,8,11,12] ?_;refine .nil ?_
  exact jr ((w64 (z6+1))) h
 rintro z30 h
 try dsimp only at h ⊢
 subst hK5
 refine aw ?_;refine .sr ?_;refine va ?_;refine va ?_;refine vb ?_;refine va ?_;refine va ?_;refine asd ?_;refine asd ?_;refine ar [6,7,8] ?_;refine .ret ?_
 cases h
 exact ⟨⟨by decide,by decide,by decide⟩,rfl,rfl,rfl,rfl⟩
def C0 : Nat→Arr→Int→Int→Option (Bool×Int×Int)
 | 0,_,_,_=>none
 | k+1,a0,a1,a2=>CM (C0 k) a0 a1 a2
theorem GH : ∀ (k:Nat) (a0:Arr) (a1:Int) (a2:Int) (r:Bool×Int×Int),C0 k a0 a1 a2=some r→Fn Tryz.prog 134 [.ag [.sl (Is a0.shape),.sl (Its a0.items)],.i .i64 a1,.i .i64 a2] (.tup [.d (.b r.1),.d (.i .i64 r.2.1),.d (.i .i64 r.2.2)])
 | 0,_,_,_,_,h=>by cases h
 | k+1,a0,a1,a2,_,h=>KE (GH k)  (show CM (C0 k) a0 a1 a2=some _ from h)
def HU (a0:Arr) (a1:Int) (a2:Int) : Option (Bool×Int×Int):=C0 (a0.size+1) a0 a1 a2
theorem LY {a0:Arr} {a1:Int} {a2:Int} {r:Bool×Int×Int} (h:HU a0 a1 a2=some r) : Fn Tryz.prog 134 [.ag [.sl (Is a0.shape),.sl (Its a0.items)],.i .i64 a1,.i .i64 a2] (.tup [.d (.b r.1),.d (.i .i64 r.2.1),.d (.i .i64 r.2.2)]):=GH _ a0 a1 a2 r  h
def Ew (a0:Arr) : Option (Bool):=((HU a0 0 16384).bind fun x1=>(some ((x1.1&&(decide (x1.2.1≤16))))))
theorem IC {a0:Arr} {r:Bool} (h:Ew a0=some r) :
  Fn Tryz.prog 74 [.ag [.sl (Is a0.shape),.sl (Its a0.items)]] (.d (.b r)):=by
 unfold Ew at h
 refine Fn.o1 2 17 Tryz.func74 ?_;refine .sr ?_;refine vk vbx ?_;refine ar [1,2] ?_;refine .sr ?_;refine vk (Aq Al Ad) ?_
 obtain ⟨x1,g1,h⟩:=bnd h
 refine vk (VOK.tupd (vs:=[.b x1.1,.i .i64 x1.2.1,.i .i64 x1.2.2]) (Ah (LY g1) Tryz.call134)) ?_;refine va ?_;refine vk vex ?_;refine vk vex ?_;refine vk vex ?_;refine asd ?_;refine asd ?_;refine ar [2,3,4] ?_;refine .seq ?_;refine AW.mr (σ:=Unit) (fun _=>True) (fun _=>[(2,.d (.b (x1.1&&(decide (x1.2.1≤16)))))]) (fun _=>[]) ?_ ?_
 ·skip
  refine .region ?_;refine va ?_
  by_cases hc:x1.1=true
  ·have hb0:x1.1=true:=hc
   refine vL hb0 ?_;refine va ?_;refine vb ?_;refine vk Ag ?_;refine asd ?_;refine RL.gk [2] ?_;refine .nil ?_
   exact jr () trivial (by simp only [hb0];rfl)
  have hb0:x1.1=false:=(bf hc)
  refine vL hb0 ?_;refine gf2 ?_;refine vk Ag ?_;refine asd ?_;refine RL.gk [2] ?_;refine .nil ?_
  exact jr () trivial (by simp only [hb0];rfl)
 rintro _ _
 refine .ret ?_
 cases h
 exact ⟨rfl,rfl⟩
theorem Ov {s:List Int} (hl:s.length≤8) (K:Int→Int→Bool→Bool→Option (Int×Int)) (u v:Int) : ∀ (n i k:Nat) (b g:Bool),n=s.length-i→i≤s.length→n<k →
  Cl s K k u v b g (i:Int)=if (s.drop i).any (fun n=>decide (n<0)) then some (0,3) else K u v (b||decide (0∈s.drop i)) (g||(s.drop i).any (fun n=>decide (4096<n)))
 | _,_,0,_,_,_,_,h=>by omega
 | n,i,k+1,b,g,hn,hi,hk=>by
  rw [Cl]
  by_cases hlt:i<s.length
  ·rw [if_pos (by omega),Cf hlt,oB,lC hlt,List.any_cons]
   by_cases h0:s[i]<0
   ·rw [if_pos h0,if_pos (by simp [h0])]
   ·have e:(Option.bind (if b=true then some true else (rd? s (i:Int)).bind fun x12=>some (decide (x12=0))):(Bool→Option (Int×Int))→_)=fun f=>f (b||decide (s[i]=0)):=by
     funext f
     cases b
     ·rw [if_neg (by decide),Cf hlt];rfl
     ·rw [if_pos rfl];rfl
    rw [if_neg h0,Cf hlt] at *
    rw [oB] at e
    rw [oB,e]
    have ih:=fun b g=>Ov hl K u v (n-1) (i+1) k b g (by omega) (by omega) (by omega)
    rw [Dh (by omega)]
    have hm:decide (0∈s[i]::s.drop (i+1))=(decide (s[i]=0)||decide (0∈s.drop (i+1))):=by
     rw [Bool.eq_iff_iff];simp only [List.mem_cons,Bool.or_eq_true,decide_eq_true_eq]
     exact ⟨fun h=>h.imp Eq.symm id,fun h=>h.imp Eq.symm id⟩
    rw [hm,List.any_cons,dF h0,Bool.false_or]
    dsimp only
    cases g
    ·rw [if_neg (by decide),oB,ih,Bool.or_assoc,Bool.false_or]
    ·rw [if_pos (rfl:true=true),ih,Bool.or_assoc,Bool.true_or,Bool.true_or]
  ·rw [if_neg (by omega),List.drop_of_length_le (by omega)]
   simp
theorem N7 {s:List Int} (hl:s.length≤8) (hp:∀ x∈s,1≤x∧x≤4096) (K:Int→Int→Int→Option (Int×Int)) : ∀ (n i k:Nat) (a b m:Int),n=s.length-i→i≤s.length→n<k→1≤m→m≤4096 →
  CJ s K k a b m (i:Int)=if m * D4 (s.drop i)≤4096 then K a b (m * D4 (s.drop i)) else some (0,8)
 | n,i,0,a,b,m,_,_,h,_,_=>by omega
 | n,i,k+1,a,b,m,hn,hi,hk,h1,h2=>by
  rw [CJ]
  by_cases hlt:i<s.length
  ·rw [if_pos (by omega),Cf hlt,oB,lC hlt]
   have hx:=hp s[i] (List.getElem_mem _)
   have hpos:1≤D4 (s.drop (i+1)):=KW fun x hx=>(hp x (List.mem_of_mem_drop hx)).1
   have hprod:D4 (s[i]::s.drop (i+1))=s[i] * D4 (s.drop (i+1)):=by unfold D4;rw [List.foldl_cons,KN,Int.one_mul]
   have hup:m * s[i]≤4096 * 4096:=Int.le_trans (Int.mul_le_mul_of_nonneg_right h2 (by omega)) (Int.mul_le_mul_of_nonneg_left hx.2 (by omega))
   have hm1:1≤m * s[i]:=Int.le_trans (by omega:(1:Int)≤1 * 1) (Int.mul_le_mul h1 hx.1 (by omega) (by omega))
   rw [hprod,← Int.mul_assoc,C2 (by omega) (by omega)]
   by_cases hc:4096<m * s[i]
   ·rw [if_pos hc,if_neg]
    have:m * s[i] * 1≤m * s[i] * D4 (s.drop (i+1)):=Int.mul_le_mul_of_nonneg_left hpos (by omega)
    omega
   ·rw [if_neg hc,oB,Dh (by omega),C2 (by omega) (by omega)]
    exact N7 hl hp K (n-1) (i+1) k a b (m * s[i]) (by omega) (by omega) (by omega) hm1 (by omega)
  ·rw [if_neg (by omega),List.drop_of_length_le (by omega)]
   rw [show D4 []=1 from rfl,Int.mul_one,if_pos h2]
theorem T6 (s:List Int) : E1 s=some (szP s):=by
 unfold E1 szP
 by_cases h8:8<s.length
 ·rw [if_pos (by omega),if_pos h8]
 rw [if_neg (by omega),if_neg h8,Dk]
 have e1:=fun K=>Ov (s:=s) (by omega) K 0 0 s.length 0 AK false false rfl (Nat.zero_le _) (CB (by omega))
 simp only [List.drop_zero,Bool.false_or] at e1
 rw [show ((0:Nat):Int)=0 from rfl] at e1
 rw [e1]
 by_cases h0:s.any (fun n=>decide (n<0))=true
 ·rw [if_pos h0,if_pos h0]
 rw [if_neg h0,if_neg h0]
 by_cases h1:s.any (fun n=>decide (4096<n))=true
 ·rw [if_pos h1,if_pos h1]
 rw [if_neg h1,if_neg h1]
 by_cases h2:0∈s
 ·rw [if_pos (dT h2),if_pos h2]
 rw [if_neg (by simp [h2]),if_neg h2,Dk]
 have hp:∀ x∈s,1≤x∧x≤4096:=fun x hx=>by
  simp only [List.any_eq_true,decide_eq_true_eq,not_exists,not_and] at h0 h1
  have a:=h0 x hx
  have b:=h1 x hx
  have c:x≠0:=fun e=>h2 (e▸hx)
  omega
 have:=N7 (by omega) hp (fun z4 z5 z6=>some (z6,0)) s.length 0 AK 0 0 1 rfl (Nat.zero_le _) (CB (by omega)) (by omega) (by omega)
 rw [List.drop_zero,Int.one_mul,show ((0:Nat):Int)=0 from rfl] at this
 rw [this]
 split<;>rfl
theorem JD (x:Itm) : C9 x=some (Cv x):=by
 unfold C9 Cv
 simp
theorem IF (a:Arr) : B4 a=some (AI a):=by
 unfold B4 AI
 by_cases h:a.shape=[]
 ·rw [if_pos (by rw [h];rfl),h]
  match hi:a.items with
  | []=>rfl
  | [x]=>simp [rd?]
  | x::y::r =>
   rw [if_neg (by simp only [List.length_cons];omega)]
   rfl
 ·rw [if_neg]
  ·have:a.shape.isEmpty=false:=by simpa using h
   rw [this];rfl
  ·intro q
   exact h (List.length_eq_zero_iff.1 (by omega))
def SI (f:Int→Int→Option (Bool×Int×Int)) (r:Bool) (n dp:Nat) : Prop:=∀ (deep:Nat) (most:Int),deep≤17→-16384≤most→most≤16384 →
 ∃ b d c,f (deep:Int) most=some (b,d,c)∧(b=true→r=true∧d=(dp:Int)∧c=(n:Int)∧(n:Int)≤most∧deep+dp≤17)∧(r=true→deep+dp≤17→deep≤16→(n:Int)≤most→b=true)
theorem Lp {rc:Arr→Int→Int→Option (Bool×Int×Int)} {a:Arr} {deep:Nat} {most:Int} (hd:deep≤16) (hm1:most≤16384) (ho:∀ x∈a.items,okI x) (hlen:a.items.length≤4096) (hrc:∀ x∈a.items,∀ b∈x.box,SI (rc b) (rA b) (cA b) (dA b))
  (hns:∀ x∈a.items,∀ b∈x.box,AI b=false→1≤dA b) (K:Bool→Int→Int→Int→Int→Option (Bool×Int×Int)) (u:Bool) (v w:Int):∀ (n i k:Nat) (D C:Nat),n=a.items.length-i→i≤a.items.length→n<k→(C:Int)≤most→D≤17 →
  (AQ rc a (deep:Int) most K k u v w (D:Int) (C:Int) (i:Int)=some (false,0,0)∧¬(rIs (a.items.drop i)=true∧(dIs (a.items.drop i)=0∨deep+1+dIs (a.items.drop i)≤17)∧((C+cIs (a.items.drop i):Nat):Int)≤most)) ∨
  (AQ rc a (deep:Int) most K k u v w (D:Int) (C:Int) (i:Int)=K u v w ((max D (dIs (a.items.drop i)):Nat):Int) ((C+cIs (a.items.drop i):Nat):Int)∧rIs (a.items.drop i)=true∧((C+cIs (a.items.drop i):Nat):Int)≤most∧(dIs (a.items.drop i)=0∨deep+1+dIs (a.items.drop i)≤17))
 | _,_,0,_,_,_,_,h,_,_=>by omega
 | n,i,k+1,D,C,hn,hi,hk,hC,hD=>by
  rw [AQ]
  by_cases hlt:i<a.items.length
  rotate_left
  ·rw [if_neg (by omega),List.drop_of_length_le (by omega)]
   refine .inr ⟨?_,rfl,by simpa [cIs] using hC,.inl rfl⟩
   simp [dIs,cIs]
  have ih:=fun D C=>Lp hd hm1 ho hlen hrc hns K u v w (n-1) (i+1) k D C (by omega) (by omega) (by omega)
  have hmem:=List.getElem_mem hlt
  have hox:=(DA _).1 (ho _ hmem)
  have hrb:=hrc _ hmem
  have hnb:=hns _ hmem
  rw [if_pos (by omega),Cf hlt,lC hlt,Dk,oB,Dh (by omega)]
  simp only [rIs,dIs,cIs]
  generalize a.items[i]=x at *
  generalize a.items.drop (i+1)=xs at *
  have e0:(((x.box.length:Nat):Int)=0)↔x.box.length=0:=by omega
  have e1:(((x.box.length:Nat):Int)=1)↔x.box.length=1:=by omega
  -- an item without a box that is right
  have plain:rI x=true→x.box=[] →
    (AQ rc a (deep:Int) most K k u v w (D:Int) (C:Int) ((i+1:Nat):Int)=some (false,0,0)∧¬((rI x&&rIs xs)=true∧(max (dI x) (dIs xs)=0∨deep+1+max (dI x) (dIs xs)≤17)∧((C+(cI x+cIs xs):Nat):Int)≤most)) ∨
    (AQ rc a (deep:Int) most K k u v w (D:Int) (C:Int) ((i+1:Nat):Int)=K u v w ((max D (max (dI x) (dIs xs)):Nat):Int) ((C+(cI x+cIs xs):Nat):Int)∧(rI x&&rIs xs)=true∧((C+(cI x+cIs xs):Nat):Int)≤most∧(max (dI x) (dIs xs)=0∨deep+1+max (dI x) (dIs xs)≤17)):=by
   intro hr hb
   have hd0:dI x=0:=by rw [MZ,hb];simp [dBs]
   have hc0:cI x=0:=by rw [Mm,hb];simp [cBs]
   rw [hr,hd0,hc0,Bool.true_and,Nat.zero_add,Nat.zero_max]
   exact ih D C hC hD
  have bad:rI x=false→(some (false,(0:Int),(0:Int))=some (false,(0:Int),(0:Int))∧¬((rI x&&rIs xs)=true∧(max (dI x) (dIs xs)=0∨deep+1+max (dI x) (dIs xs)≤17)∧((C+(cI x+cIs xs):Nat):Int)≤most)) ∨
    (some (false,(0:Int),(0:Int))=K u v w ((max D (max (dI x) (dIs xs)):Nat):Int) ((C+(cI x+cIs xs):Nat):Int)∧(rI x&&rIs xs)=true∧((C+(cI x+cIs xs):Nat):Int)≤most∧(max (dI x) (dIs xs)=0∨deep+1+max (dI x) (dIs xs)≤17)):=fun hr=>.inl ⟨rfl,by rw [hr];simp⟩
  by_cases k1:x.kind=1
  ·have hrI:rI x=(A9 x.num&&(decide (x.char=0)&&decide (x.box.length=0))):=by rw [Mx,if_pos k1]
   have c1:∀ f:Bool→Option (Bool×Int×Int),Option.bind (if x.kind=1 then (Ez x.num).bind fun x18=>if x18=true then if x.char=0 then some (decide (((List.length x.box:Nat):Int)=0)) else some false else some false else some false) f=f (rI x):=by
    intro f
    rw [if_pos k1,Hy hox.2.1,oB,hrI]
    cases A9 x.num
    ·rfl
    ·by_cases hc:x.char=0
     ·rw [if_pos rfl,if_pos hc,oB,dT hc,decide_eq_decide.2 e0];rfl
     ·rw [if_pos rfl,if_neg hc,dF hc];rfl
   rw [c1]
   by_cases hr:rI x=true
   ·rw [if_pos hr]
    refine plain hr ?_
    rw [hrI] at hr
    simp only [Bool.and_eq_true,decide_eq_true_eq] at hr
    exact List.length_eq_zero_iff.1 hr.2.2
   ·rw [if_neg hr,if_neg (by omega),oB,if_neg (by decide),if_neg (by omega),oB,if_neg (by decide)]
    exact bad (by simpa using hr)
  rw [if_neg k1,oB,if_neg (by decide)]
  by_cases k2:x.kind=2
  ·have hrI:rI x=(chB x.char&&(Cv x&&decide (x.box.length=0))):=by rw [Mx,if_neg k1,if_pos k2]
   have c1:∀ f:Bool→Option (Bool×Int×Int),Option.bind (if x.kind=2 then (EH x.char).bind fun x20=>if x20=true then (C9 x).bind fun x21=>if x21=true then some (decide (((List.length x.box:Nat):Int)=0)) else some false else some false else some false) f=f (rI x):=by
    intro f
    rw [if_pos k2,show EH x.char=some (chB x.char) from rfl,oB,hrI]
    cases chB x.char
    ·rfl
    ·rw [if_pos rfl,JD,oB]
     cases Cv x
     ·rfl
     ·rw [if_pos rfl,oB,decide_eq_decide.2 e0];rfl
   rw [c1]
   by_cases hr:rI x=true
   ·rw [if_pos hr]
    refine plain hr ?_
    rw [hrI] at hr
    simp only [Bool.and_eq_true,decide_eq_true_eq] at hr
    exact List.length_eq_zero_iff.1 hr.2.2
   ·rw [if_neg hr,if_neg (by omega),oB,if_neg (by decide)]
    exact bad (by simpa using hr)
  rw [if_neg k2,oB,if_neg (by decide)]
  by_cases k3:x.kind=3
  rotate_left
  ·rw [if_neg k3,oB,if_neg (by decide)]
   exact bad (by rw [Mx,if_neg k1,if_neg k2,if_neg k3])
  have hrI:rI x=(decide (x.box.length=1)&&(Cv x&&(decide (x.char=0)&&rBs x.box))):=by rw [Mx,if_neg k1,if_neg k2,if_pos k3]
  rw [if_pos k3]
  by_cases h1:x.box.length=1
  rotate_left
  ·rw [if_neg (by omega),oB,if_neg (by decide)]
   exact bad (by rw [hrI,dF h1];rfl)
  obtain ⟨b,hb⟩:=List.length_eq_one_iff.1 h1
  rw [if_pos (by omega),JD,oB]
  by_cases h2:Cv x=true
  rotate_left
  ·rw [if_neg h2,oB,if_neg (by decide)]
   exact bad (by rw [hrI,Bool.eq_false_iff.2 h2];simp)
  rw [if_pos h2]
  by_cases h3:x.char=0
  rotate_left
  ·rw [if_neg h3,oB,if_neg (by decide)]
   exact bad (by rw [hrI,dF h3];simp)
  rw [if_pos h3,hb,LK,oB,IF,oB,oB]
  have hrI':rI x=(!AI b&&rA b):=by rw [hrI,dT h1,h2,dT h3,hb];simp [rBs]
  by_cases h4:AI b=true
  ·rw [if_neg (by rw [h4];decide)]
   exact bad (by rw [hrI',h4];rfl)
  have h4':AI b=false:=by simpa using h4
  rw [if_pos (by rw [h4'];rfl),oB,C2 (by omega) (by omega),C2 (by omega) (by omega)]
  have hbm:b∈x.box:=by simp [hb]
  have hdI:dI x=dA b:=by rw [MZ,hb];simp [dBs]
  have hcI:cI x=cA b:=by rw [Mm,hb];simp [cBs]
  have hd1:=hnb b hbm h4'
  obtain ⟨bb,d,c,hf,p1,p2⟩:=hrb b hbm (deep+1) (most-(C:Int)) (by omega) (by omega) (by omega)
  rw [show ((deep:Int)+1)=((deep+1:Nat):Int) by omega,hf,oB]
  rw [hdI,hcI,hrI',h4']
  simp only [Bool.not_false,Bool.true_and]
  by_cases hbb:bb=true
  ·obtain ⟨q1,q2,q3,q4,q5⟩:=p1 hbb
   subst q2 q3
   rw [if_pos hbb,Dk,C2 (by omega) (by omega),q1,Bool.true_and]
   have hmax:(if (D:Int)<(dA b:Int) then (AQ rc a (deep:Int) most K k u v w (dA b:Int) ((C:Int)+(cA b:Int)) ((i+1:Nat):Int)) else (AQ rc a (deep:Int) most K k u v w (D:Int) ((C:Int)+(cA b:Int)) ((i+1:Nat):Int)))=AQ rc a (deep:Int) most K k u v w ((max D (dA b):Nat):Int) ((C+cA b:Nat):Int) ((i+1:Nat):Int):=by
    split
    ·rw [show max D (dA b)=dA b by omega];rfl
    ·rw [show max D (dA b)=D by omega];rfl
   rw [hmax]
   rcases ih (max D (dA b)) (C+cA b) (by omega) (by omega) with ⟨g1,g2⟩|⟨g1,g2,g3,g4⟩
   ·refine .inl ⟨g1,fun ⟨w1,w2,w3⟩=>g2 ⟨w1,?_,by omega⟩⟩
    rcases w2 with w2|w2
    ·omega
    ·exact .inr (by omega)
   ·refine .inr ⟨?_,g2,by omega,.inr (by omega)⟩
    rw [g1,Nat.max_assoc,Nat.add_assoc]
  ·rw [if_neg hbb]
   refine .inl ⟨rfl,fun ⟨w1,w2,w3⟩=>hbb (p2 ?_ ?_ ?_ ?_)⟩
   ·simp only [Bool.and_eq_true] at w1;exact w1.1
   ·rcases w2 with w2|w2<;>omega
   ·rcases w2 with w2|w2<;>omega
   ·omega
theorem Vo {a:Arr} (h:AI a=false) : 1≤dA a:=by rw [GX,if_neg (by rw [h];decide)];omega
def Sp (rc:Arr→Int→Int→Option (Bool×Int×Int)) (a0:Arr) (a1 a2 z2:Int) : Option (Bool×Int×Int):=(if ((!(decide (((List.length a0.items:Nat) : Int)=z2)))||(decide (a2<z2)))=true then (some (false,0,0)) else (jn (fun (_:Bool) (_:Int) (_:Int) (z6:Int) (z7:Int)=>((B4 a0).bind fun x29=>(jn (fun (z30:Int)=>(some ((decide (z7≤a2)),z30,z7))) fun K5=>(if x29=true then (K5 z6) else (K5 (w64 (z6+1))))))) fun K1=>(AQ rc a0 a1 a2 K1 AK false 0 0 0 z2 0)))
theorem Y9 (rc:Arr→Int→Int→Option (Bool×Int×Int)) (a0:Arr) (a1 a2:Int) : CM rc a0 a1 a2=(E1 a0.shape).bind fun x1=>if (!decide (x1.2=0)||decide (16<a1))=true then some (false,0,0) else Sp rc a0 a1 a2 (if x1.1=0 then 1 else x1.1):=by
 unfold CM
 congr 1
 funext x1
 by_cases h:(!decide (x1.2=0)||decide (16<a1))=true
 ·rw [if_pos h,if_pos h]
 ·rw [if_neg h,if_neg h,Dk]
  by_cases q:x1.1=0
  ·rw [if_pos q,if_pos q];rfl
  ·rw [if_neg q,if_neg q];rfl
theorem Ro {rc:Arr→Int→Int→Option (Bool×Int×Int)} {a:Arr} (oa:okAr a) (hrc:∀ x∈a.items,∀ b∈x.box,SI (rc b) (rA b) (cA b) (dA b)) : SI (CM rc a) (rA a) (cA a) (dA a):=by
 intro deep most h1 h2 h3
 have o:=(BE a).1 oa
 have hz:=ML a.shape
 rw [Y9,T6,oB]
 have hrA:=Ik a
 by_cases g1:(szP a.shape).2=0∧deep≤16
 rotate_left
 ·rw [if_pos]
  ·refine ⟨_,_,_,rfl,fun q=>absurd q (by decide),fun q1 q2 q3=>?_⟩
   rw [hrA] at q1
   simp only [Bool.and_eq_true,decide_eq_true_eq] at q1
   exact absurd ⟨q1.1,q3⟩ g1
  ·simp only [Bool.or_eq_true,Bool.not_eq_true',decide_eq_false_iff_not,decide_eq_true_eq]
   by_cases q:(szP a.shape).2=0
   ·exact .inr (by have:¬deep≤16:=fun w=>g1 ⟨q,w⟩;omega)
   ·exact .inl q
 rw [if_neg (by
  simp only [Bool.or_eq_true,Bool.not_eq_true',decide_eq_false_iff_not,decide_eq_true_eq]
  rintro (q|q)
  ·exact q g1.1
  ·omega)]
 have hK:(if (szP a.shape).1=0 then 1 else (szP a.shape).1)=(if (szP a.shape).1<1 then 1 else (szP a.shape).1):=by
  by_cases q:(szP a.shape).1=0
  ·rw [if_pos q,if_pos (by omega)]
  ·rw [if_neg q,if_neg (by omega)]
 rw [hK]
 unfold Sp
 by_cases g2:(a.items.length:Int)=(if (szP a.shape).1<1 then 1 else (szP a.shape).1)
 rotate_left
 ·rw [if_pos (by simp [g2])]
  refine ⟨_,_,_,rfl,fun q=>absurd q (by decide),fun q1 q2 q3=>?_⟩
  rw [hrA] at q1
  simp only [Bool.and_eq_true,decide_eq_true_eq] at q1
  exact absurd q1.2.1 g2
 have hcA:=H8 a
 have hdA:=GX a
 have hlen:a.items.length≤4096:=by split at g2<;>omega
 rw [← g2]
 by_cases g3:most<(a.items.length:Int)
 ·rw [if_pos (by simp [g3])]
  exact ⟨_,_,_,rfl,fun q=>absurd q (by decide),fun _ _ _ q=>by omega⟩
 rw [if_neg (by simpa using g3),Dk]
 have hrA':rA a=rIs a.items:=by rw [hrA,dT g1.1,dT g2];rfl
 have loop:=fun K=>Lp (rc:=rc) (a:=a) (deep:=deep) (most:=most) g1.2 h3 o.2.2.2 hlen hrc (fun _ _ b _=>Vo) K false 0 0 a.items.length 0 AK 0 a.items.length rfl (Nat.zero_le _) (CB (by omega)) (by omega) (by omega)
 simp only [List.drop_zero] at loop
 rw [show ((0:Nat):Int)=0 from rfl] at loop
 rcases loop _ with ⟨q1,q2⟩|⟨q1,q2,q3,q4⟩
 ·rw [q1]
  refine ⟨_,_,_,rfl,fun q=>absurd q (by decide),fun w1 w2 w3 w4=>?_⟩
  refine absurd ⟨hrA'▸w1,?_,by rw [← hcA];exact w4⟩ q2
  by_cases hs:AI a=true
  ·exact .inl (Ko hs (hrA'▸w1)).1
  ·rw [if_neg hs] at hdA;exact .inr (by omega)
 ·rw [q1,IF,oB,Dk,Nat.zero_max]
  have hdI:dIs a.items≤17:=by omega
  have hdone:(dA a:Int)=if AI a=true then ((dIs a.items:Nat):Int) else w64 (((dIs a.items:Nat):Int)+1):=by
   by_cases hs:AI a=true
   ·rw [if_pos hs,(Ko hs q2).1,hdA,if_pos hs]
   ·rw [if_neg hs,hdA,if_neg hs,C2 (by omega) (by omega)];omega
  have hle:decide (((a.items.length+cIs a.items:Nat):Int)≤most)=true:=dT q3
  have hdp:deep+dA a≤17:=by
   rw [hdA]
   by_cases hs:AI a=true
   ·rw [if_pos hs];omega
   ·rw [if_neg hs];omega
  refine ⟨true,(dA a:Int),(cA a:Int),?_,fun _=>⟨by rw [hrA',q2],rfl,rfl,by rw [hcA];exact q3,hdp⟩,fun _ _ _ _=>rfl⟩
  rw [hdone,hcA]
  by_cases hs:AI a=true
  ·rw [if_pos hs,if_pos hs,hle]
  ·rw [if_neg hs,if_neg hs,hle]
theorem Qg : ∀ (k:Nat) {a:Arr},a.size<k→okAr a→SI (C0 k a) (rA a) (cA a) (dA a)
 | 0,_,h,_=>by omega
 | k+1,a,h,oa=>by
  have o:=(BE a).1 oa
  have:=Ro (rc:=C0 k) oa fun x hx b hb=>Qg k (by have:=HN hx;have:=FY hb;omega) (((DA x).1 (o.2.2.2 x hx)).2.2.2.2 b hb)
  exact this
theorem MB {a:Arr} (oa:okAr a) : Ew a=some (decide (Bm a)):=by
 obtain ⟨b,d,c,h1,h2,h3⟩:=Qg _ (Nat.lt_succ_self _) oa 0 16384 (by omega) (by omega) (by omega)
 unfold Ew HU
 rw [show ((0:Nat):Int)=0 from rfl] at h1
 rw [h1,oB]
 show some (b&&decide (d≤16))=_
 congr 1
 by_cases hb:b=true
 ·obtain ⟨q1,q2,q3,q4,q5⟩:=h2 hb
  rw [hb,q2,Bool.true_and]
  refine decide_eq_decide.2 ⟨fun w=>⟨q1,by omega,by omega⟩,fun w=>?_⟩
  have:=w.2.1;omega
 ·have hb':b=false:=by simpa using hb
  rw [hb',Bool.false_and]
  refine (dF fun w=>hb (h3 w.1 ?_ (by omega) ?_)).symm
  ·have:=w.2.1;omega
  ·have:=w.2.2;omega
theorem X8 (n:Nat) (h:n≤140737488355328:=by decide) : ∃ k,AK=k+n:=⟨AK-n,by have:=CB h;omega⟩
def F5 (a0:Itm) : Option (Bool):=((Ew (Arr.mk [] [a0])).bind fun x1=>(some (x1)))
theorem NQ {a0:Itm} {r:Bool} (h:F5 a0=some r) :
  Fn Tryz.prog 33 [.ag [.i .u8 a0.kind,.b a0.num.1,.sl (L a0.num.2.1),.sl (L a0.num.2.2),.i .i32 a0.char,.sl (Ars a0.box)]] (.d (.b r)):=by
 unfold F5 at h
 refine Fn.o1 2 7 Tryz.func33 ?_;refine .sr ?_;refine vk vbx ?_;refine ar [1,2] ?_;refine .sr ?_;refine vk (Aq AB As) ?_;refine vk ((Hk (HV a0) (F4 [a0]) Ge).deep) ?_;refine vk (vbd Dd A3 Bg) ?_
 obtain ⟨x1,g1,h⟩:=bnd h
 refine vk (Ah (IC g1) Tryz.call74) ?_;refine ar [2] ?_;refine .ret ?_
 cases h
 exact ⟨rfl,rfl⟩
def BA (a0:Itm) : Option (Bool):=(if a0.kind=3 then (Option.bind ((if ((List.length a0.box:Nat) : Int)=1 then ((C9 a0).bind fun x2=>(if x2=true then (if a0.char=0 then ((rd? a0.box 0).bind fun x3=>((B4 x3).bind fun x4=>(if x4=true then (some false) else ((rd? a0.box 0).bind fun x5=>((Ew x5).bind fun x6=>(some x6)))))) else (some false)) else (some false))) else (some false)) : Option (Bool)) fun (z1:Bool)=>(some (z1))) else ((F5 a0).bind fun x7=>(some (x7))))
theorem Cq {a0:Itm} {r:Bool} (h:BA a0=some r) :
  Fn Tryz.prog 32 [.ag [.i .u8 a0.kind,.b a0.num.1,.sl (L a0.num.2.1),.sl (L a0.num.2.2),.i .i32 a0.char,.sl (Ars a0.box)]] (.d (.b r)):=by
 unfold BA at h
 refine Fn.o1 2 36 Tryz.func32 ?_;refine .sr ?_;refine vk vbx ?_;refine ar [1,2] ?_;refine .seq ?_;refine .sr ?_;refine vk (vfa Bp) ?_;refine vk (Am AT) ?_;refine vb ?_;refine rk [1,2,5] ?_
 rcases brc h with ⟨hc,h⟩|⟨hc,h⟩
 ·refine cnf (ntf (dT hc)) ?_
  refine .sk ?_;refine .seq ?_
  obtain ⟨z1,hz,h⟩:=bnd h
  refine AW.mr (σ:=Unit) (fun _=>True) (fun _=>[(2,.d (.b z1))]) (fun _=>[]) ?_ ?_
  ·skip
   refine .region ?_;refine vk (vfa Ba) ?_;refine vk (Am B6) ?_;refine vk (A8 (BL _) (E0 _) E5) ?_;refine vb ?_
   rcases brc hz with ⟨hc,hz⟩|⟨hc,hz⟩
   ·have hb0:(decide (((List.length a0.box:Nat):Int)=1))=true:=(dT hc)
    refine vL hb0 ?_;refine vk (Aq AB As) ?_
    obtain ⟨x2,g2,hz⟩:=bnd hz
    refine vk (Ah (Gd g2) Tryz.call85) ?_;refine vk Ag ?_
    rcases brc hz with ⟨hc,hz⟩|⟨hc,hz⟩
    ·have hb1:x2=true:=hc
     refine vL hb1 ?_;refine vk (vfa CI) ?_;refine vk (Am CF) ?_;refine vb ?_;refine vk Ag ?_
     rcases brc hz with ⟨hc,hz⟩|⟨hc,hz⟩
     ·have hb2:(decide (a0.char=0))=true:=(dT hc)
      refine vL hb2 ?_;refine vk (vfa Ba) ?_;refine vk (Am B6) ?_
      obtain ⟨x3,g3,hz⟩:=bnd hz
      obtain ⟨n3,p03,q3⟩:=Aj g3
      refine vk (vix n3 p03 (Db q3) rfl Dj) ?_;refine vk (Aq Al Ad) ?_
      obtain ⟨x4,g4,hz⟩:=bnd hz
      refine vk (Ah (EN g4) Tryz.call86) ?_;refine vk vnt ?_;refine vk Ag ?_
      rcases brc hz with ⟨hc,hz⟩|⟨hc,hz⟩
      ·have hb3:(!x4)=false:=(ntf hc)
       refine vL hb3 ?_;refine gf4 ?_;refine gf ?_;refine vk Ag ?_;refine asd ?_;refine RL.gk [2] ?_;refine .nil ?_
       cases hz
       exact jr () trivial
      have hb3:(!x4)=true:=(ntt (bf hc))
      refine vL hb3 ?_;refine vk (vfa Ba) ?_;refine vk (Am B6) ?_
      obtain ⟨x5,g5,hz⟩:=bnd hz
      obtain ⟨n5,p05,q5⟩:=Aj g5
      refine vk (vix n5 p05 (Db q5) rfl Dj) ?_;refine vk (Aq Al Ad) ?_
      obtain ⟨x6,g6,hz⟩:=bnd hz
      refine vk (Ah (IC g6) Tryz.call74) ?_;refine vk Ag ?_;refine asd ?_;refine RL.gk [2] ?_;refine .nil ?_
      cases hz
      exact jr () trivial
     have hb2:(decide (a0.char=0))=false:=(dF hc)
     refine vL hb2 ?_;refine gf4 ?_;refine gf2 ?_;refine vk Ag ?_;refine va ?_;refine gf4 ?_;refine gf ?_;refine vk Ag ?_;refine asd ?_;refine RL.gk [2] ?_;refine .nil ?_
     cases hz
     exact jr () trivial
    have hb1:x2=false:=(bf hc)
    refine vL hb1 ?_;refine gf3 ?_;refine vk Ag ?_;refine va ?_;refine gf4 ?_;refine gf2 ?_;refine vk Ag ?_;refine va ?_;refine gf4 ?_;refine gf ?_;refine vk Ag ?_;refine asd ?_;refine RL.gk [2] ?_;refine .nil ?_
    cases hz
    exact jr () trivial
   have hb0:(decide (((List.length a0.box:Nat):Int)=1))=false:=(dF hc)
   refine vL hb0 ?_;refine gf2 ?_;refine vk Ag ?_;refine va ?_;refine gf3 ?_;refine vk Ag ?_;refine va ?_;refine gf4 ?_;refine gf2 ?_;refine vk Ag ?_;refine va ?_;refine gf4 ?_;refine gf ?_;refine vk Ag ?_;refine asd ?_;refine RL.gk [2] ?_;refine .nil ?_
   cases hz
   exact jr () trivial
  rintro _ _
  refine .ret ?_
  cases h
  exact ⟨rfl,rfl⟩
 refine cnt (ntt (dF hc)) ?_;refine .sr ?_;refine vk (Aq AB As) ?_
 obtain ⟨x7,g7,h⟩:=bnd h
 refine vk (Ah (NQ g7) Tryz.call33) ?_;refine ar [1,2] ?_;refine .ret ?_
 cases h
 exact ⟨rfl,rfl⟩
theorem We {x:Itm} (hx:okI x) : F5 x=some (decide (Bm (.mk [] [x]))):=by
 unfold F5
 rw [MB (OV hx)];rfl
theorem RM {x:Itm} (hx:okI x) (hk:x.kind≠3) : Bm (.mk [] [x])↔AD x:=by
 constructor
 ·intro h
  exact (Da (OV hx) h (x:=x) (by simp [Arr.items])).2
 ·intro h
  exact (Hw h.1 (SB h.1 hk) hk).1
theorem Ft {x:Itm} (hx:okI x) : BA x=some (decide (AD x)):=by
 unfold BA
 by_cases hk:x.kind=3
 rotate_left
 ·rw [if_neg hk,We hx,oB]
  congr 1
  exact decide_eq_decide.2 (RM hx hk)
 rw [if_pos hk]
 have ox:=(DA x).1 hx
 have hno:∀ {p:Prop} [Decidable p],(¬AD x)→(some false:Option Bool)=some (decide (AD x)):=fun h=>by rw [dF h]
 cases x with
 | mk k n c b =>
 have hk:k=3:=hk
 subst hk
 have er:rI (.mk 3 n c b)=(decide (b.length=1)&&(Cv (.mk 3 n c b)&&(decide (c=0)&&rBs b))):=by rw [rI];rfl
 by_cases h1:b.length=1
 rotate_left
 ·rw [if_neg (show ¬(((List.length (Itm.mk 3 n c b).box:Nat):Int)=1) from fun q=>h1 (by have:((b.length:Nat):Int)=1:=q;omega)),oB]
  rw [dF (fun q:AD (.mk 3 n c b)=>by have:=q.1;rw [er,dF h1] at this;simp at this)]
 rw [if_pos (show ((List.length (Itm.mk 3 n c b).box:Nat):Int)=1 from by show ((b.length:Nat):Int)=1;omega),JD,oB]
 by_cases h2:Cv (.mk 3 n c b)=true
 rotate_left
 ·rw [if_neg h2,oB]
  rw [dF (fun q:AD (.mk 3 n c b)=>by have:=q.1;rw [er] at this;simp at this;exact h2 this.2.1)]
 rw [if_pos h2]
 by_cases h3:c=0
 rotate_left
 ·rw [if_neg (show ¬(Itm.mk 3 n c b).char=0 from h3),oB]
  rw [dF (fun q:AD (.mk 3 n c b)=>by have:=q.1;rw [er,dF h3] at this;simp at this)]
 rw [if_pos (show (Itm.mk 3 n c b).char=0 from h3)]
 match b,h1 with
 | [a],_ =>
  have oa:okAr a:=ox.2.2.2.2 a (List.mem_singleton.2 rfl)
  rw [show rd? (Itm.mk 3 n c [a]).box 0=some a from rfl,oB,IF,oB]
  have ei:AD (.mk 3 n c [a])↔AI a=false∧Bm a:=by
   unfold AD Bm
   rw [er,h2,dT h3]
   have d1:dI (.mk 3 n c [a])=dA a:=by rw [MZ];simp [Itm.box,dBs]
   have c1:cI (.mk 3 n c [a])=cA a:=by simp [cI,cBs]
   rw [d1,c1]
   simp [rBs]
   constructor
   ·rintro ⟨⟨p1,p2⟩,p3,p4⟩;exact ⟨p1,p2,p3,p4⟩
   ·rintro ⟨p1,p2,p3,p4⟩;exact ⟨⟨p1,p2⟩,p3,p4⟩
  by_cases h4:AI a=true
  ·rw [if_pos h4,oB,dF (fun q=>by have:=(ei.1 q).1;rw [h4] at this;cases this)]
  ·rw [if_neg h4,oB,MB oa,oB,oB]
   congr 1
   exact decide_eq_decide.2 ⟨fun q=>ei.2 ⟨by simpa using h4,q⟩,fun q=>(ei.1 q).2⟩
theorem Ot {x:Itm} : ∀ {xs:List Itm},x∈xs→cI x≤cIs xs
 | y::ys,h=>by
  rw [cIs]
  rcases List.mem_cons.1 h with rfl|h
  ·omega
  ·have:=Ot h;omega
theorem TC {x:Itm} (hr:rI x=true) (hd:dI x≤15) (hc:1+cI x≤16384) : Bm (.mk [] [x]):=by
 refine ⟨?_,?_,?_⟩
 ·rw [rA];simp [rIs,hr,JU]
 ·rw [GX]
  have:dIs [x]=dI x:=by simp [dIs]
  simp only [Arr.items,this]
  split<;>omega
 ·have:cA (.mk [] [x])=1+cI x:=by simp [cA,cIs]
  omega
theorem VR.one {xs:List Itm} (h:VR xs) {x:Itm} (hx:x∈xs) : okI x∧Bm (.mk [] [x])∧BK [] [x]=some (.mk [] [x],0):=by
 have hi:=h.items x hx
 have hp:=h.parts
 have hd:=I6 hx
 have hc:=Ot hx
 have hpos:=h.pos
 have r:=TC hi.2.1 (by omega) (by omega)
 refine ⟨hi.1,r,?_⟩
 rw [L4 (by simp) (by simp) (by simp) (by simpa using hi.1),if_neg (by rw [JU];simp),if_neg (by simp [hi.2]),JU,show Ci 1 [x]=[x] from JY (n:=1) rfl (by decide),if_pos r]
end Go.FL
namespace Go.FL
open Go
structure Ord3 {α:Type} (c:α→α→Int) : Prop where
 asym:∀ x y,c x y<0→¬c y x<0
 trans:∀ x y z,¬c y x<0→¬c z y<0→¬c z x<0
def leC {α:Type} (c:α→α→Int) (x y:α) : Prop:=¬c y x<0
section
variable {α:Type} {c:α→α→Int}
theorem Ord3.refl (h:Ord3 c) (x:α) : leC c x x:=fun hx=>h.asym x x hx hx
theorem Ord3.le_of_lt (h:Ord3 c) {x y:α} (hx:c x y<0) : leC c x y:=h.asym x y hx
end
end Go.FL
namespace Go.FL
open Go
structure Cmp3 {α:Type} (f:α→α→Int) : Prop where
 vals:∀ x y,f x y=-1∨f x y=0∨f x y=1
 anti:∀ x y,f y x=- f x y
 trans:∀ x y z,f x y≤0→f y z≤0→f x z≤0
theorem Cmp3.zero {α:Type} {f:α→α→Int} (h:Cmp3 f) {x y z:α} (h1:f x y≤0) (h2:f y z≤0) (h3:f x z=0) : f x y=0∧f y z=0:=by
 have a1:=h.anti x z
 have a2:=h.anti x y
 have a3:=h.anti y z
 have t1:=h.trans z x y (by omega) h1
 have t2:=h.trans y z x h2 (by omega)
 omega
theorem Cmp3.map {α β:Type} {f:β→β→Int} (h:Cmp3 f) (g:α→β) : Cmp3 fun x y=>f (g x) (g y):=⟨fun x y=>h.vals _ _,fun x y=>h.anti _ _,fun x y z=>h.trans _ _ _⟩
theorem Cmp3.neg {α:Type} {f:α→α→Int} (h:Cmp3 f) : Cmp3 fun x y=>- f x y:=by
 refine ⟨fun x y=>?_,fun x y=>?_,fun x y z h1 h2=>?_⟩
 ·have:=h.vals x y;omega
 ·have:=h.anti x y;omega
 ·have a1:=h.anti x y
  have a2:=h.anti y z
  have a3:=h.anti x z
  have:=h.trans z y x (by omega) (by omega)
  omega
def sg3 (a b:Int) : Int:=if a<b then -1 else if b<a then 1 else 0
theorem PX (a b:Int) : sg3 a b=-1∨sg3 a b=0∨sg3 a b=1:=by
 unfold sg3
 split
 ·simp
 ·split<;>simp
theorem JG {a b:Int} : sg3 a b≤0↔a≤b:=by
 unfold sg3
 split
 ·omega
 ·split<;>omega
theorem PS {a b:Int} : sg3 a b=0↔a=b:=by
 unfold sg3
 split
 ·omega
 ·split<;>omega
theorem L3 : Cmp3 sg3:=by
 refine ⟨PX,fun x y=>?_,fun x y z h1 h2=>?_⟩
 ·unfold sg3
  by_cases h1:x<y
  ·rw [if_pos h1,if_neg (by omega),if_pos h1];rfl
  ·by_cases h2:y<x
   ·rw [if_pos h2,if_neg h1,if_pos h2]
   ·rw [if_neg h1,if_neg h2,if_neg h2,if_neg h1];rfl
 ·rw [JG] at *;omega
def or3 (a b:Int) : Int:=if a=0 then b else a
theorem Cmp3.or {α:Type} {f g:α→α→Int} (hf:Cmp3 f) (hg:Cmp3 g) : Cmp3 fun x y=>or3 (f x y) (g x y):=by
 refine ⟨fun x y=>?_,fun x y=>?_,fun x y z h1 h2=>?_⟩
 ·unfold or3;split
  ·exact hg.vals x y
  ·exact hf.vals x y
 ·have a1:=hf.anti x y
  have a2:=hg.anti x y
  unfold or3
  by_cases h:f x y=0
  ·rw [if_pos h,if_pos (by omega)];exact a2
  ·rw [if_neg h,if_neg (by omega)];exact a1
 ·unfold or3 at *
  have b1:f x y≤0:=by split at h1<;>omega
  have b2:f y z≤0:=by split at h2<;>omega
  have b3:=hf.trans x y z b1 b2
  split
  ·rename_i h
   obtain ⟨e1,e2⟩:=hf.zero b1 b2 h
   rw [if_pos e1] at h1
   rw [if_pos e2] at h2
   exact hg.trans x y z h1 h2
  ·exact b3
def Cd {α:Type} (f:α→α→Int) : List α→List α→Int
 | [],[]=>0
 | [],_::_=>-1
 | _::_,[]=>1
 | x::xs,y::ys=>or3 (f x y) (Cd f xs ys)
theorem N2 {α:Type} {f:α→α→Int} (h:Cmp3 f) : ∀ xs ys,Cd f xs ys=-1∨Cd f xs ys=0∨Cd f xs ys=1
 | [],[]=>by simp [Cd]
 | [],_::_=>by simp [Cd]
 | _::_,[]=>by simp [Cd]
 | x::xs,y::ys=>by
  rw [Cd];unfold or3;split
  ·exact N2 h xs ys
  ·exact h.vals x y
theorem N9 {α:Type} {f:α→α→Int} (h:Cmp3 f) : ∀ xs ys,Cd f ys xs=- Cd f xs ys
 | [],[]=>rfl
 | [],_::_=>rfl
 | _::_,[]=>rfl
 | x::xs,y::ys=>by
  rw [Cd,Cd,N9 h xs ys]
  have a1:=h.anti x y
  unfold or3
  by_cases h0:f x y=0
  ·rw [if_pos h0,if_pos (by omega)]
  ·rw [if_neg h0,if_neg (by omega)];exact a1
theorem Nd {α:Type} {f:α→α→Int} (h:Cmp3 f) : ∀ xs ys zs,Cd f xs ys≤0→Cd f ys zs≤0→Cd f xs zs≤0
 | [],_,[],_,_=>by simp [Cd]
 | [],_,_::_,_,_=>by simp [Cd]
 | _::_,[],_,h1,_=>by simp [Cd] at h1
 | _::_,_::_,[],_,h2=>by simp [Cd] at h2
 | x::xs,y::ys,z::zs,h1,h2=>by
  rw [Cd] at *
  have ih:=Nd h xs ys zs
  unfold or3 at *
  have b1:f x y≤0:=by split at h1<;>omega
  have b2:f y z≤0:=by split at h2<;>omega
  have b3:=h.trans x y z b1 b2
  split
  ·rename_i h0
   obtain ⟨e1,e2⟩:=h.zero b1 b2 h0
   rw [if_pos e1] at h1
   rw [if_pos e2] at h2
   exact ih h1 h2
  ·exact b3
theorem QZ {α:Type} {f:α→α→Int} (h:Cmp3 f) : Cmp3 (Cd f):=⟨N2 h,N9 h,Nd h⟩
theorem Cmp3.kinds {α:Type} {k:α→Int} {g:Int→α→α→Int} (hg:∀ n,Cmp3 (g n)) : Cmp3 fun x y=>if k x=k y then g (k x) x y else sg3 (k x) (k y):=by
 refine ⟨fun x y=>?_,fun x y=>?_,fun x y z h1 h2=>?_⟩
 ·split
  ·exact (hg _).vals x y
  ·exact PX _ _
 ·by_cases h:k x=k y
  ·rw [if_pos h,if_pos h.symm,h];exact (hg _).anti x y
  ·rw [if_neg h,if_neg fun q=>h q.symm];exact L3.anti _ _
 ·by_cases e1:k x=k y
  ·rw [if_pos e1] at h1
   by_cases e2:k y=k z
   ·rw [if_pos e2] at h2
    rw [if_pos (e1.trans e2)]
    rw [← e1] at h2
    exact (hg _).trans x y z h1 h2
   ·rw [if_neg e2,JG] at h2
    rw [if_neg (by omega),JG];omega
  ·rw [if_neg e1,JG] at h1
   by_cases e2:k y=k z
   ·rw [if_neg (by omega),JG];omega
   ·rw [if_neg e2,JG] at h2
    rw [if_neg (by omega),JG];omega
end Go.FL
namespace Go.FL
open Go Go.Proofs
theorem VU : Cmp3 D9:=by
 refine ⟨Oi,fun p q=>?_,fun p q r h1 h2=>?_⟩
 ·unfold D9
  by_cases h1:p<q
  ·rw [if_neg (Rat.not_lt.2 (Rat.le_of_lt h1)),if_neg (fun h=>by subst h;exact Rat.lt_irrefl h1),if_pos h1];rfl
  ·by_cases h2:p=q
   ·subst h2;rw [if_neg h1,if_pos rfl];rfl
   ·have h3:q<p:=Rat.lt_of_le_of_ne (Rat.not_lt.1 h1) (fun h=>h2 h.symm)
    rw [if_pos h3,if_neg h1,if_neg h2]
 ·have le:∀ {p q:Rat},D9 p q≤0↔p≤q:=fun {p q}=>by
   unfold D9
   by_cases h1:p<q
   ·rw [if_pos h1];exact ⟨fun _=>Rat.le_of_lt h1,fun _=>by decide⟩
   ·by_cases h2:p=q
    ·subst h2;rw [if_neg h1,if_pos rfl];exact ⟨fun _=>Rat.le_refl,fun _=>by decide⟩
    ·rw [if_neg h1,if_neg h2]
     exact ⟨fun h=>absurd h (by decide),fun h=>absurd (Rat.lt_of_le_of_ne h h2) h1⟩
  rw [le] at *
  exact Rat.le_trans h1 h2
def Fx : Nat→Itm→Itm→Int
 | 0,_,_=>0
 | k+1,x,y=>if x.kind=y.kind then (fun (n:Int) (x y:Itm)=>if n=1 then D9 (HT (rq x.num)) (HT (rq y.num)) else if n=2 then sg3 x.char y.char else
   or3 (or3 (sg3 (x.box.headD default).shape.length (y.box.headD default).shape.length) (Cd sg3 (x.box.headD default).shape (y.box.headD default).shape)) (Cd (Fx k) (x.box.headD default).items (y.box.headD default).items)) x.kind x y else sg3 x.kind y.kind
theorem Ra : ∀ k,Cmp3 (Fx k)
 | 0=>⟨fun _ _=>by simp [Fx],fun _ _=>rfl,fun _ _ _ _ _=>by simp [Fx]⟩
 | k+1=>by
  have ih:=Ra k
  have hk:Cmp3 fun x y=>Fx (k+1) x y:=by
   simp only [Fx]
   refine Cmp3.kinds (k:=Itm.kind) (g:=fun (n:Int) (x y:Itm)=>if n=1 then D9 (HT (rq x.num)) (HT (rq y.num)) else if n=2 then sg3 x.char y.char else
    or3 (or3 (sg3 (x.box.headD default).shape.length (y.box.headD default).shape.length) (Cd sg3 (x.box.headD default).shape (y.box.headD default).shape)) (Cd (Fx k) (x.box.headD default).items (y.box.headD default).items)) fun n=>?_
   by_cases h1:n=1
   ·simp only [h1,if_true];exact VU.map fun x:Itm=>HT (rq x.num)
   ·by_cases h2:n=2
    ·simp only [h2,if_true,show ¬((2:Int)=1) by decide,if_false];exact L3.map Itm.char
    ·simp only [h1,h2,if_false]
     exact ((L3.map fun x:Itm=>((x.box.headD default).shape.length:Int)).or ((QZ L3).map fun x:Itm=>(x.box.headD default).shape)).or ((QZ ih).map fun x:Itm=>(x.box.headD default).items)
  exact hk
theorem NZ (a b:Int) : Cz a b=some (sg3 a b):=by
 unfold Cz Eg sg3
 simp
 split
 ·rfl
 ·split<;>rfl
theorem Rs (a b:Int) : CY a b=some (sg3 a b):=by
 unfold CY DF sg3
 simp
 split
 ·rfl
 ·split<;>rfl
theorem RQ (a b:Int) : Bz a b=some (sg3 a b):=by
 unfold Bz BM sg3
 simp
 split
 ·rfl
 ·split<;>rfl
theorem VQ (a b c:Int) : Gg [a,b,c]=some (or3 (or3 a b) c):=by
 obtain ⟨k,hk⟩:=X8 4
 unfold Gg
 rw [Dk,hk,BZ,if_pos (by simp),show rd? [a,b,c] 0=some a from rfl,oB]
 unfold or3
 by_cases ha:a=0
 ·rw [if_pos ha,if_pos ha,show w64 (0+1)=1 from rfl,BZ,if_pos (by simp),show rd? [a,b,c] 1=some b from rfl,oB]
  by_cases hb:b=0
  ·rw [if_pos hb,if_pos hb,show w64 (1+1)=2 from rfl,BZ,if_pos (by simp),show rd? [a,b,c] 2=some c from rfl,oB]
   by_cases hc:c=0
   ·rw [if_pos hc,show w64 (2+1)=3 from rfl,BZ,if_neg (by simp),hc]
   ·rw [if_neg hc]
  ·rw [if_neg hb,if_neg hb]
 ·rw [if_neg ha,if_neg ha,if_neg ha]
theorem Hb {xs ys:List Int} (hl:xs.length≤17592186044416) (K:Int→Option Int) (hK:∀ s,K s=if ((List.length xs:Nat) : Int)<((List.length ys:Nat) : Int) then some (-1) else some 0) : ∀ (n i k:Nat) (s:Int),n=xs.length-i→i≤xs.length→i≤ys.length→n<k →
  A0 xs ys K k s (i:Int)=some (Cd sg3 (xs.drop i) (ys.drop i))
 | n,i,0,s,_,_,_,h=>by omega
 | n,i,k+1,s,hn,hi,hj,hk=>by
  rw [A0]
  by_cases hlt:i<xs.length
  ·rw [if_pos (by omega),Cf hlt,oB,lC hlt]
   by_cases hlt2:i<ys.length
   ·rw [if_neg (by omega),Cf hlt2,oB,NZ,oB,lC hlt2,Cd,Dh (by omega)]
    unfold or3
    by_cases h0:sg3 xs[i] ys[i]=0
    ·rw [if_pos h0,if_pos h0];exact Hb hl K hK (n-1) (i+1) k s (by omega) (by omega) (by omega) (by omega)
    ·rw [if_neg h0,if_neg h0]
   ·rw [if_pos (by omega),show ys.drop i=[] from List.drop_of_length_le (by omega)];rfl
  ·rw [if_neg (by omega),hK,show xs.drop i=[] from List.drop_of_length_le (by omega)]
   by_cases hlt2:i<ys.length
   ·rw [if_pos (by omega),lC hlt2];rfl
   ·rw [if_neg (by omega),show ys.drop i=[] from List.drop_of_length_le (by omega)];rfl
theorem MF {xs ys:List Int} (hl:xs.length≤17592186044416) : BO xs ys=some (Cd sg3 xs ys):=by
 unfold BO
 rw [Dk]
 exact Hb hl _ (fun _=>rfl) xs.length 0 AK 0 rfl (Nat.zero_le _) (Nat.zero_le _) (CB (by omega))
theorem H6 {xs ys:List Itm} {f:Cc} {c:Itm→Itm→Int} (hf:∀ x∈xs,∀ y∈ys,f.g (x,y)=some (c x y)) (hl:xs.length≤17592186044416) (K:Int→Option Int) (hK:∀ s,K s=if ((List.length xs:Nat) : Int)<((List.length ys:Nat) : Int) then some (-1) else some 0) : ∀ (n i k:Nat) (s:Int),n=xs.length-i→i≤xs.length→i≤ys.length→n<k →
  Af xs ys f K k s (i:Int)=some (Cd c (xs.drop i) (ys.drop i))
 | n,i,0,s,_,_,_,h=>by omega
 | n,i,k+1,s,hn,hi,hj,hk=>by
  rw [Af]
  by_cases hlt:i<xs.length
  ·rw [if_pos (by omega),Cf hlt,oB,lC hlt]
   by_cases hlt2:i<ys.length
   ·rw [if_neg (by omega),Cf hlt2,oB,hf _ (List.getElem_mem _) _ (List.getElem_mem _),oB,lC hlt2,Cd,Dh (by omega)]
    unfold or3
    by_cases h0:c xs[i] ys[i]=0
    ·rw [if_pos h0,if_pos h0];exact H6 hf hl K hK (n-1) (i+1) k s (by omega) (by omega) (by omega) (by omega)
    ·rw [if_neg h0,if_neg h0]
   ·rw [if_pos (by omega),show ys.drop i=[] from List.drop_of_length_le (by omega)];rfl
  ·rw [if_neg (by omega),hK,show xs.drop i=[] from List.drop_of_length_le (by omega)]
   by_cases hlt2:i<ys.length
   ·rw [if_pos (by omega),lC hlt2];rfl
   ·rw [if_neg (by omega),show ys.drop i=[] from List.drop_of_length_le (by omega)];rfl
theorem NI {xs ys:List Itm} {f:Cc} {c:Itm→Itm→Int} (hf:∀ x∈xs,∀ y∈ys,f.g (x,y)=some (c x y)) (hl:xs.length≤17592186044416) : Ay xs ys f=some (Cd c xs ys):=by
 unfold Ay
 rw [Dk]
 exact H6 hf hl _ (fun _=>rfl) xs.length 0 AK 0 rfl (Nat.zero_le _) (Nat.zero_le _) (CB (by omega))
theorem SX : ∀ (k K:Nat) {x y:Itm},x.size<k→x.size<K→okI x→AD x→okI y→AD y→EZ k x y=some (Fx K x y)
 | 0,_,x,y,h,_,_,_,_,_=>by omega
 | k+1,0,x,y,_,h,_,_,_,_=>by omega
 | k+1,K+1,x,y,h1,h2,ox,rx,oy,ry=>by
  rw [EZ]
  unfold Hd
  rw [Fx]
  by_cases hk:x.kind=y.kind
  rotate_left
  ·rw [if_neg hk,if_neg hk,RQ];rfl
  rw [if_pos hk,if_pos hk]
  dsimp only
  rcases Dl rx.1 with ⟨kx,qx,_,_⟩|⟨kx,_,_,_⟩|⟨kx,_,_,a,hb,hs,hr⟩
  ·obtain ⟨p,fp,ep⟩:=GY.1 qx
   rcases Dl ry.1 with ⟨_,qy,_,_⟩|⟨ky,_⟩|⟨ky,_⟩
   ·obtain ⟨q,fq,eq⟩:=GY.1 qy
    rw [if_pos kx,if_pos kx,ep,eq,TB fp fq,Ma,Ma];rfl
   ·omega
   ·omega
  ·rw [if_neg (by omega),if_pos kx,if_neg (by omega),if_pos kx,Rs];rfl
  ·rcases Dl ry.1 with ⟨ky,_⟩|⟨ky,_⟩|⟨ky,_,_,b,hc,hs2,hr2⟩
   ·omega
   ·omega
   have ma:a∈x.box:=by rw [hb];simp
   have mb:b∈y.box:=by rw [hc];simp
   obtain ⟨oa,ra,_,_⟩:=FS ox rx a ma
   obtain ⟨ob,rb,_,_⟩:=FS oy ry b mb
   have oa':=(BE a).1 oa
   rw [if_neg (by omega),if_neg (by omega),if_neg (by omega),if_neg (by omega),hb,hc,show rd? [a] 0=some a from rfl,oB,show rd? [b] 0=some b from rfl,oB,NZ,oB,MF oa'.2.1,oB,
    NI (c:=Fx K) (fun u hu v hv=>by
     have s1:=HN hu
     have s2:=FY ma
     have u2:=Da oa ra hu
     have v2:=Da ob rb hv
     exact SX k K (x:=u) (y:=v) (by omega) (by omega) u2.1 u2.2 v2.1 v2.2) (by omega),oB,VQ,oB]
   rfl
theorem UJ {K:Nat} {x y:Itm} (hK:x.size<K) (ox:okI x) (rx:AD x) (oy:okI y) (ry:AD y) : Ki x y=some (Fx K x y):=SX _ _ (Nat.lt_succ_self _) hK ox rx oy ry
theorem Qc {x:Itm} (ox:okI x) (h:¬AD x) : Df x=some (.mk [] []):=by
 unfold Df
 rw [Hu ox,oB,dF h,if_neg (by decide)]
theorem Kg {K:Nat} {x y:Itm} (hK:x.size<K) (ox:okI x) (oy:okI y) : DW x y=some (if AD x∧AD y then Fx K x y else 0):=by
 unfold DW
 by_cases rx:AD x
 rotate_left
 ·rw [Qc ox rx,oB,if_pos (show ((List.length (Arr.mk [] []).items:Nat):Int)=0 from rfl),oB,if_pos rfl,if_neg (fun q=>rx q.1)]
 obtain ⟨e1,_,e3⟩:=Lz ⟨ox,rx⟩
 have p1:=I7 e3
 rw [e1,oB,if_neg (by omega)]
 by_cases ry:AD y
 rotate_left
 ·rw [Qc oy ry,oB,oB,if_pos (by rfl),if_neg (fun q=>ry q.2)]
 obtain ⟨f1,_,f3⟩:=Lz ⟨oy,ry⟩
 have p2:=I7 f3
 rw [f1,oB,oB,if_neg (by rw [decide_eq_true_eq];omega),UJ hK ox rx oy ry,if_pos ⟨rx,ry⟩];rfl
theorem Xh {a c:Int} {b d:Nat} (hb:b≠0) (hd:d≠0) : mkRat a b≤mkRat c d↔a * d≤c * b:=by
 rw [Rat.mkRat_eq_div,Rat.mkRat_eq_div]
 have hb':(0:Rat)<((b:Int):Rat):=by exact_mod_cast Rat.intCast_lt_intCast.2 (show (0:Int)<b by omega)
 have hd':(0:Rat)<((d:Int):Rat):=by exact_mod_cast Rat.intCast_lt_intCast.2 (show (0:Int)<d by omega)
 have e1:((a:Rat) / (b:Rat)) * ((b:Int):Rat)=a:=Rat.div_mul_cancel (Rat.ne_of_gt hb')
 have e2:((c:Rat) / (d:Rat)) * ((d:Int):Rat)=c:=Rat.div_mul_cancel (Rat.ne_of_gt hd')
 generalize (a:Rat) / (b:Rat)=x at *
 generalize (c:Rat) / (d:Rat)=y at *
 have hbd:=Rat.mul_pos hb' hd'
 have key:a * d≤c * b↔x * (((b:Int):Rat) * ((d:Int):Rat))≤y * (((b:Int):Rat) * ((d:Int):Rat)):=by
  rw [← Rat.intCast_le_intCast,Rat.intCast_mul,Rat.intCast_mul,← e1,← e2]
  have h1:x * ((b:Int):Rat) * ((d:Int):Rat)=x * (((b:Int):Rat) * ((d:Int):Rat)):=by grind
  have h2:y * ((d:Int):Rat) * ((b:Int):Rat)=y * (((b:Int):Rat) * ((d:Int):Rat)):=by grind
  rw [h1,h2]
 rw [key]
 constructor
 ·intro h;exact Rat.mul_le_mul_of_nonneg_right h (Rat.le_of_lt hbd)
 ·intro h
  apply Rat.not_lt.1
  intro h2
  exact absurd (Rat.mul_lt_mul_of_pos_right h2 hbd) (Rat.not_lt.2 h)
abbrev KS (p q:Rat) : Q3:=Jm (q3 p) (!(q3 q).1,(q3 q).2.1,(q3 q).2.2)
theorem V6 (p q:Rat) : HT (KS p q)=p-q∧(KS p q).2.2≠0:=by
 have:=Tr (x:=q3 p) (y:=(!(q3 q).1,(q3 q).2.1,(q3 q).2.2)) (Vt p) (Vt q)
 rwa [Uc,Pj,Pj,← Rat.sub_eq_add_neg] at this
theorem Uj (p q:Rat) : Rb (p.num.natAbs * q.den) (decide (p.num<0)) (q.num.natAbs * p.den) (!decide (q.num<0))=((KS p q).2.1,(KS p q).1)∧(KS p q).2.2=p.den * q.den:=by
 unfold KS Jm Rb
 constructor
 ·show (if decide (p.num<0)=(!decide (q.num<0)) then _ else _)=((if _ then _ else _:Q3).2.1,(if _ then _ else _:Q3).1)
  split
  ·rfl
  ·split<;>rfl
 ·show (if _ then _ else _:Q3).2.2=_
  split
  ·rfl
  ·split<;>rfl
theorem TQ {n:Nat} : ((List.length (Ab n) : Nat) : Int)=0↔n=0:=by
 have:=OW (n:=n)
 omega
theorem W4 {p q:Rat} : D9 p q=if (KS p q).2.1=0 then 0 else if (KS p q).1=true then -1 else 1:=by
 obtain ⟨dv,dn⟩:=V6 p q
 generalize KS p q=D at *
 obtain ⟨b,n,d⟩:=D
 have dv':mkRat (sg b n) d=p-q:=dv
 have hd:d≠0:=dn
 have h1:=Xh (a:=sg b n) (c:=0) (b:=d) (d:=1) hd (by decide)
 have h2:=Xh (a:=0) (c:=sg b n) (b:=1) (d:=d) (by decide) hd
 rw [dv'] at h1 h2
 have h3:mkRat 0 1=0:=by rfl
 rw [h3] at h1 h2
 show D9 p q=if n=0 then 0 else if b=true then -1 else 1
 unfold D9
 have k1:p<q↔sg b n<0:=by
  have:p<q↔¬(0≤p-q):=by grind
  rw [this,h2];simp
 have k2:p=q↔sg b n=0:=by
  have:p=q↔(p-q≤0∧0≤p-q):=by
   constructor
   ·rintro rfl;grind
   ·intro h;grind
  rw [this,h1,h2];simp;omega
 simp only [k1,k2]
 cases b
 ·rw [show sg false n=(n:Int) from rfl,if_neg (by omega)]
  by_cases h:n=0
  ·rw [if_pos h,if_pos (by omega)]
  ·rw [if_neg h,if_neg (by omega),if_neg (by decide)]
 ·rw [show sg true n=-(n:Int) from rfl,if_pos (rfl:true=true)]
  by_cases h:n=0
  ·rw [if_pos h,if_neg (by omega),if_pos (by omega)]
  ·rw [if_neg h,if_pos (by omega)]
theorem NP {p q:Rat} (hp:Jj p) (hq:Jj q) : Eb (ofQ p) (ofQ q)=some (D9 p q):=by
 unfold Eb
 have l1:(Ab (p.num.natAbs * q.den)).length≤64:=YM hp.1 hq.2
 have l2:(Ab (q.num.natAbs * p.den)).length≤64:=YM hq.1 hp.2
 have m1:MX (ofQ p).2.1 (ofQ q).2.2=some (Ab (p.num.natAbs * q.den)):=Q9 (nT hp.1 (by decide)) (nT hq.2 (by decide))
 have m2:MX (ofQ q).2.1 (ofQ p).2.2=some (Ab (q.num.natAbs * p.den)):=Q9 (nT hq.1 (by decide)) (nT hp.2 (by decide))
 have m4:D2 (Ab (p.num.natAbs * q.den)) (ofQ p).1 (Ab (q.num.natAbs * p.den)) (!(ofQ q).1)=some (Ab (KS p q).2.1,(KS p q).1):=by
  have:=Tq (decide (p.num<0)) (!decide (q.num<0)) (nT l1 (by decide)) (nT l2 (by decide))
  rw [(Uj p q).1] at this
  exact this
 rw [TI (ED hp) (ED hq),Oh hp hq,if_neg (by decide),m1,oB,m2,oB,m4,oB,W4]
 show (if ((List.length (Ab (KS p q).2.1):Nat):Int)=0 then some 0 else if (KS p q).1=true then some (-1) else some 1)=_
 simp only [TQ]
 split
 ·rfl
 ·split<;>rfl
def DN (a0:Int) (a1:Int) : Option (Int):=(if a0<a1 then (some ((-1))) else (if a1<a0 then (some (1)) else (some (0))))
theorem Fd {a0:Int} {a1:Int} {r:Int} (h:DN a0 a1=some r) :
  Fn Tryz.prog 147 [.i .i64 a0,.i .i64 a1] (.d (.i .i64 r)):=by
 unfold DN at h
 refine Fn.o1 4 13 Tryz.func147 ?_;refine .sr ?_;refine ar [0,1,4] ?_;refine .seq ?_;refine .block ?_;refine .sr ?_;refine va ?_;refine va ?_;refine vb ?_;refine ar [0,1,4,5] ?_
 rcases brc h with ⟨hc,h⟩|⟨hc,h⟩
 ·refine cnt (dT hc) ?_
  refine .sr ?_;refine ar [4] ?_;refine .ret ?_
  cases h
  exact ⟨rfl,rfl⟩
 refine cnf (dF hc) ?_;refine .sr ?_;refine va ?_;refine va ?_;refine vb ?_;refine ar [4,9] ?_
 rcases brc h with ⟨hc,h⟩|⟨hc,h⟩
 ·refine cnt (dT hc) ?_
  refine .sr ?_;refine ar [4] ?_;refine .ret ?_
  cases h
  exact ⟨rfl,rfl⟩
 refine cnf (dF hc) ?_;refine .sk ?_;refine .sr ?_;refine ar [4] ?_;refine .ret ?_
 cases h
 exact ⟨rfl,rfl⟩
def Gi (a0:Itm) : Option (Int):=(some ((IntKind.wrap .i64 a0.kind)))
theorem Jl {a0:Itm} {r:Int} (h:Gi a0=some r) :
  Fn Tryz.prog 148 [.ag [.i .u8 a0.kind,.b a0.num.1,.sl (L a0.num.2.1),.sl (L a0.num.2.2),.i .i32 a0.char,.sl (Ars a0.box)]] (.d (.i .i64 r)):=by
 unfold Gi at h
 refine Fn.o1 2 6 Tryz.func148 ?_;refine .sr ?_;refine vk vbx ?_;refine ar [1,2] ?_;refine .sr ?_;refine vk (vfa Bp) ?_;refine vk (Am AT) ?_;refine vk (vcv Ri Gq) ?_;refine ar [2] ?_;refine .ret ?_
 cases h
 exact ⟨rfl,rfl⟩
def Cs (x3:Arr) (x4:Arr) (K0:Int→Option (Int)) : Nat→Int→Int→Option (Int)
 | 0,_,_=>none
 | k+1,s7,s8=>(if s8<((List.length x3.shape:Nat):Int) then ((rd? x3.shape s8).bind fun x9=>((rd? x4.shape s8).bind fun x10=>((DN x9 x10).bind fun x11=>(if x11=0 then (Cs x3 x4 K0 k s7 (w64 (s8+1))) else (some (x11)))))) else (K0 s7))
def Cr (rc_ref07_order:Itm→Itm→Option (Int)) (x3:Arr) (x4:Arr) (K2:Int→Option (Int)) : Nat→Int→Int→Option (Int)
 | 0,_,_=>none
 | k+1,s13,s14=>(if ((decide (s14<((List.length x3.items:Nat):Int)))&&(decide (s14<((List.length x4.items:Nat):Int))))=true then ((rd? x3.items s14).bind fun x15=>((rd? x4.items s14).bind fun x16=>((rc_ref07_order x15 x16).bind fun x17=>(if x17=0 then (Cr rc_ref07_order x3 x4 K2 k s13 (w64 (s14+1))) else (some (x17)))))) else (K2 s13))
def Fm (rc_ref07_order:Itm→Itm→Option (Int)) (a0:Itm) (a1:Itm) : Option (Int):=(if a0.kind=a1.kind then (if a0.kind=1 then ((Eb a0.num a1.num).bind fun x1=>(some (x1))) else (if a0.kind=2 then ((DN (IntKind.wrap .i64 a0.char) (IntKind.wrap .i64 a1.char)).bind fun x2=>(some (x2))) else ((rd? a0.box 0).bind fun x3=>((rd? a1.box 0).bind fun x4=>((DN ((List.length x3.shape:Nat) : Int) ((List.length x4.shape:Nat) : Int)).bind fun x5=>(if x5=0 then (jn (fun (z6:Int)=>(jn (fun (z12:Int)=>(some (0))) fun K2=>(Cr rc_ref07_order x3 x4 K2 AK z6 0))) fun K0=>(Cs x3 x4 K0 AK 0 0)) else (some (x5)))))))) else ((Gi a0).bind fun x18=>((Gi a1).bind fun x19=>((DN x18 x19).bind fun x20=>(some (x20))))))
set_option maxHeartbeats 4000000 in
theorem M5 {rc_ref07_order:Itm→Itm→Option (Int)} (orc_ref07_order:∀ x0 x1 r,rc_ref07_order x0 x1=some r→Fn Tryz.prog 84 [.ag [.i .u8 x0.kind,.b x0.num.1,.sl (L x0.num.2.1),.sl (L x0.num.2.2),.i .i32 x0.char,.sl (Ars x0.box)],.ag [.i .u8 x1.kind,.b x1.num.1,.sl (L x1.num.2.1),.sl (L x1.num.2.2),.i .i32 x1.char,.sl (Ars x1.box)]] (.d (.i .i64 r))) {a0:Itm} {a1:Itm} {r:Int} (h:Fm rc_ref07_order a0 a1=some r) :
  Fn Tryz.prog 84 [.ag [.i .u8 a0.kind,.b a0.num.1,.sl (L a0.num.2.1),.sl (L a0.num.2.2),.i .i32 a0.char,.sl (Ars a0.box)],.ag [.i .u8 a1.kind,.b a1.num.1,.sl (L a1.num.2.1),.sl (L a1.num.2.2),.i .i32 a1.char,.sl (Ars a1.box)]] (.d (.i .i64 r)):=by
 unfold Fm at h
 refine Fn.o1 4 107 Tryz.func84 ?_;refine .sr ?_;refine vk vbx ?_;refine vk vbx ?_;refine ar [2,3,4] ?_;refine .seq ?_;refine .sr ?_;refine vk (vfa Bp) ?_;refine vk (Am AT) ?_;refine vk (vfa Bp) ?_;refine vk (Am AT) ?_;refine vb ?_;refine rk [2,3,4,16] ?_
 rcases brc h with ⟨hc,h⟩|⟨hc,h⟩
 ·refine cnf (ntf (dT hc)) ?_
  refine .sk ?_;refine .seq ?_;refine .sr ?_;refine vk (vfa Bp) ?_;refine vk (Am AT) ?_;refine rk [2,3,4,23] ?_;refine .block ?_;refine .sr ?_;refine vb ?_;refine ar [2,3,4,23,24] ?_
  rcases brc h with ⟨hc,h⟩|⟨hc,h⟩
  ·refine cnt (dT hc) ?_
   refine .sr ?_;refine vk (vfa BH) ?_;refine vk (Aq A4 AE) ?_;refine vk (vfa BH) ?_;refine vk (Aq A4 AE) ?_
   obtain ⟨x1,g1,h⟩:=bnd h
   refine vk (Ah (Lh g1) Tryz.call149) ?_;refine ar [2,3,4] ?_;refine .ret ?_
   cases h
   exact ⟨rfl,rfl⟩
  refine cnf (dF hc) ?_;refine .sr ?_;refine vb ?_;refine ar [2,3,4,31] ?_
  rcases brc h with ⟨hc,h⟩|⟨hc,h⟩
  ·refine cnt (dT hc) ?_
   refine .sr ?_;refine vk (vfa CI) ?_;refine vk (Am CF) ?_;refine vk (vcv Qa Gq) ?_;refine vk (vfa CI) ?_;refine vk (Am CF) ?_;refine vk (vcv Qa Gq) ?_
   obtain ⟨x2,g2,h⟩:=bnd h
   refine vk (Ah (Fd g2) Tryz.call147) ?_;refine ar [2,3,4] ?_;refine .ret ?_
   cases h
   exact ⟨rfl,rfl⟩
  refine cnf (dF hc) ?_;refine .sk ?_;refine .seq ?_
  obtain ⟨x3,g3,h⟩:=bnd h
  obtain ⟨x4,g4,h⟩:=bnd h
  refine .drawnF 10 [4,5,6,7] [(5,.nb [.sl (Is x3.shape),.sl (Its x3.items)])] [] A2 (by kernel_rfl) rfl ?_;refine dv (vfa Ba) ?_;refine dv (Am B6) ?_
  obtain ⟨n3,p03,q3⟩:=Aj g3
  refine dv (vix n3 p03 (Db q3) rfl Dj) ?_;refine dv (Aq Al Ad) ?_;refine dv (vfa Ba) ?_;refine dv (Am B6) ?_
  obtain ⟨n4,p04,q4⟩:=Aj g4
  refine dv (vix n4 p04 (Db q4) rfl Dj) ?_;refine dv (Aq Al Ad) ?_;refine dv (van (Ap A3) Bg) ?_;refine dv (van (Ap A3) Bg) ?_;refine dz ?_
  refine ⟨?_,?_,?_⟩
  ·intro k hk
   simp only [List.mem_cons,List.not_mem_nil,or_false] at hk
   rcases hk with rfl|rfl|rfl|rfl
   ·exact ⟨_,_,_,rfl,rfl,rfl,rfl,rfl,rfl,(vfa Ba)⟩
   ·exact ⟨_,_,_,rfl,rfl,rfl,rfl,rfl,rfl,(Am B6)⟩
   ·exact ⟨_,_,_,rfl,rfl,rfl,rfl,rfl,rfl,(vix n4 p04 (Db q4) rfl Dj)⟩
   ·exact ⟨_,_,_,rfl,rfl,rfl,rfl,rfl,rfl,(Aq Al Ad)⟩
  ·intro om e hom hge
   cases hom
   exact IK (cs:=[.sl (Is []),.sl (Its [])]) (cs':=[.sl (Is x3.shape),.sl (Its x3.items)]) Ad (by decide) rfl ((hge 5 (fun k hk v hv=>by
     simp only [List.mem_cons,List.not_mem_nil,or_false] at hk
     rcases hk with rfl|rfl|rfl|rfl
     ·exact (by decide:¬(some 44=some 5)) (congrArg (Option.map Prod.fst) hv)
     ·exact (by decide:¬(some 45=some 5)) (congrArg (Option.map Prod.fst) hv)
     ·exact (by decide:¬(some 46=some 5)) (congrArg (Option.map Prod.fst) hv)
     ·exact (by decide:¬(some 47=some 5)) (congrArg (Option.map Prod.fst) hv))).trans rfl) ((congrArg Bk (hge 43 (fun k hk v hv=>by
     simp only [List.mem_cons,List.not_mem_nil,or_false] at hk
     rcases hk with rfl|rfl|rfl|rfl
     ·exact (by decide:¬(some 44=some 43)) (congrArg (Option.map Prod.fst) hv)
     ·exact (by decide:¬(some 45=some 43)) (congrArg (Option.map Prod.fst) hv)
     ·exact (by decide:¬(some 46=some 43)) (congrArg (Option.map Prod.fst) hv)
     ·exact (by decide:¬(some 47=some 43)) (congrArg (Option.map Prod.fst) hv)))).trans rfl) rfl rfl rfl rfl ⟨rfl,rfl⟩
  refine stn ?_ Ad (by decide)
  refine rk [4,5,6] ?_;refine .seq ?_;refine .seq ?_;refine .gh (Gh.nbp (t:=5) rfl) ?_;refine .gh (Gh.nbp (t:=6) rfl) ?_;refine .region ?_;refine vk (vfa Bh) ?_;refine vk (Am CS) ?_;refine vk (A8 (Ai _) (CT _) Cu) ?_;refine vk (vfa Bh) ?_;refine vk (Am CS) ?_;refine vk (A8 (Ai _) (CT _) Cu) ?_
  obtain ⟨x5,g5,h⟩:=bnd h
  refine vk (Ah (Fd g5) Tryz.call147) ?_;refine ar [4,5,6,7] ?_;refine .sr ?_;refine va ?_;refine vb ?_;refine rk [4,5,6,7,56] ?_
  rcases brc h with ⟨hc,h⟩|⟨hc,h⟩
  ·refine cnf (ntf (dT hc)) ?_
   refine .sk ?_;refine .seq ?_;refine .sr ?_;refine ar [4,5,6,8] ?_
   obtain ⟨K0,hK0,h⟩:=AP h
   refine AW.mr (σ:=Int) (fun p=>K0 p=some r) (fun p=>[(4,.d (.i .i64 p)),(5,.d (.ptr [.sl (Is x3.shape),.sl (Its x3.items)])),(6,.d (.ptr [.sl (Is x4.shape),.sl (Its x4.items)]))]) (fun p=>[]) ?_ ?_
   ·skip
    refine .block ?_
    refine .loop (.gk [4,5,6,8] ?_)
    refine AL.ind (σ:=Nat×Int×Int) (m:=fun p=>p.1) (e:=fun p=>[(4,.d (.i .i64 p.2.1)),(5,.d (.ptr [.sl (Is x3.shape),.sl (Its x3.items)])),(6,.d (.ptr [.sl (Is x4.shape),.sl (Its x4.items)])),(8,.d (.i .i64 p.2.2))]) (h:=fun p=>[]) (I:=fun p=>Cs x3 x4 K0 p.1 p.2.1 p.2.2=some r) ?_ (AK,0,0) h
    rintro ⟨k,s7,s8⟩ h ih
    dsimp only at h ih ⊢
    rcases k with _|k
    ·rw [Cs] at h;cases h
    rw [Cs] at h
    refine .seq ?_;refine .sr ?_;refine va ?_;refine vk (vfa Bh) ?_;refine vk (Am CS) ?_;refine vk (A8 (Ai _) (CT _) Cu) ?_;refine vb ?_;refine rk [4,5,6,8,62] ?_
    rcases brc h with ⟨hc,h⟩|⟨hc,h⟩
    ·refine cnt (dT hc) ?_
     refine .sk ?_;refine .seq ?_;refine .block ?_;refine .seq ?_;refine .drawn 11 A2 (by kernel_rfl) ?_;refine dv (vfa Bh) ?_;refine dv (Am CS) ?_;refine dv Ae ?_
     obtain ⟨x9,g9,h⟩:=bnd h
     obtain ⟨n9,p09,q9⟩:=Aj g9
     refine dv (vix n9 p09 (BC q9) rfl Bo) ?_;refine dv (Am AS) ?_;refine dv (vfa Bh) ?_;refine dv (Am CS) ?_;refine dv Ae ?_
     obtain ⟨x10,g10,h⟩:=bnd h
     obtain ⟨n10,p010,q10⟩:=Aj g10
     refine dv (vix n10 p010 (BC q10) rfl Bo) ?_;refine dv (Am AS) ?_
     obtain ⟨x11,g11,h⟩:=bnd h
     refine dv (Ah (Fd g11) Tryz.call147) ?_;refine dz ?_;refine ar [4,5,6,8,9] ?_;refine .sr ?_;refine va ?_;refine vb ?_;refine rk [4,5,6,8,9,77] ?_
     rcases brc h with ⟨hc,h⟩|⟨hc,h⟩
     ·refine cnf (ntf (dT hc)) ?_
      refine .sk ?_;refine .region ?_;refine va ?_;refine vb ?_;refine asd ?_;refine .nil ?_;refine AL.gk [4,5,6,8] ?_
      exact ih (k,s7,(w64 (s8+1))) h (Nat.lt_succ_self _)
     refine cnt (ntt (dF hc)) ?_;refine .sr ?_;refine va ?_;refine ar [4,5,6,8] ?_;refine .ret ?_
     cases h
     exact ⟨rfl,rfl⟩
    refine cnf (dF hc) ?_;refine .gk [4,5,6] ?_;refine .exit ?_
    exact jr (s7) h
   rintro z6 h
   try dsimp only at h ⊢
   subst hK0
   refine aw ?_;refine .seq ?_;refine .sr ?_;refine ar [4,5,6,10] ?_
   obtain ⟨K2,hK2,h⟩:=AP h
   refine AW.mr (σ:=Int) (fun p=>K2 p=some r) (fun p=>[(4,.d (.i .i64 p))]) (fun p=>[]) ?_ ?_
   ·skip
    refine .block ?_
    refine .loop (.gk [4,5,6,10] ?_)
    refine AL.ind (σ:=Nat×Int×Int) (m:=fun p=>p.1) (e:=fun p=>[(4,.d (.i .i64 p.2.1)),(5,.d (.ptr [.sl (Is x3.shape),.sl (Its x3.items)])),(6,.d (.ptr [.sl (Is x4.shape),.sl (Its x4.items)])),(10,.d (.i .i64 p.2.2))]) (h:=fun p=>[]) (I:=fun p=>Cr rc_ref07_order x3 x4 K2 p.1 p.2.1 p.2.2=some r) ?_ (AK,z6,0) h
    rintro ⟨k,s13,s14⟩ h ih
    dsimp only at h ih ⊢
    rcases k with _|k
    ·rw [Cr] at h;cases h
    rw [Cr] at h
    refine .seq ?_;refine .seq ?_;refine AW.mr (σ:=Unit) (fun _=>True) (fun _=>[(4,.d (.i .i64 s13)),(5,.d (.ptr [.sl (Is x3.shape),.sl (Its x3.items)])),(6,.d (.ptr [.sl (Is x4.shape),.sl (Its x4.items)])),(10,.d (.i .i64 s14)),(90,.d (.b ((decide (s14<((List.length x3.items:Nat):Int)))&&(decide (s14<((List.length x4.items:Nat):Int))))))]) (fun _=>[]) ?_ ?_
    ·skip
     refine .region ?_;refine va ?_;refine vk (vfa AY) ?_;refine vk (Am BR) ?_;refine vk (A8 (AC _) (BT _) BU) ?_;refine vb ?_
     by_cases hc:s14<((List.length x3.items:Nat):Int)
     ·have hb0:(decide (s14<((List.length x3.items:Nat):Int)))=true:=(dT hc)
      refine vL hb0 ?_;refine va ?_;refine vk (vfa AY) ?_;refine vk (Am BR) ?_;refine vk (A8 (AC _) (BT _) BU) ?_;refine vb ?_;refine vk Ag ?_;refine RL.gk [4,5,6,10,90] ?_;refine .nil ?_
      exact jr () trivial (by simp only [hb0];rfl)
     have hb0:(decide (s14<((List.length x3.items:Nat):Int)))=false:=(dF hc)
     refine vL hb0 ?_;refine gf4 ?_;refine gf ?_;refine vk Ag ?_;refine RL.gk [4,5,6,10,90] ?_;refine .nil ?_
     exact jr () trivial (by simp only [hb0];rfl)
    rintro _ _
    rcases brc h with ⟨hc,h⟩|⟨hc,h⟩
    ·refine cnt hc ?_
     refine .sk ?_;refine .seq ?_;refine .block ?_;refine .seq ?_;refine .drawn 11 A2 (by kernel_rfl) ?_;refine dv (vfa AY) ?_;refine dv (Am BR) ?_;refine dv Ae ?_
     obtain ⟨x15,g15,h⟩:=bnd h
     obtain ⟨n15,p015,q15⟩:=Aj g15
     refine dv (vix n15 p015 (CR q15) rfl CK) ?_;refine dv (Aq AB As) ?_;refine dv (vfa AY) ?_;refine dv (Am BR) ?_;refine dv Ae ?_
     obtain ⟨x16,g16,h⟩:=bnd h
     obtain ⟨n16,p016,q16⟩:=Aj g16
     refine dv (vix n16 p016 (CR q16) rfl CK) ?_;refine dv (Aq AB As) ?_
     obtain ⟨x17,g17,h⟩:=bnd h
     refine dv (Ah (orc_ref07_order _ _ _ g17) Tryz.call84) ?_;refine dz ?_;refine ar [4,5,6,10,11] ?_;refine .sr ?_;refine va ?_;refine vb ?_;refine rk [4,5,6,10,11,105] ?_
     rcases brc h with ⟨hc,h⟩|⟨hc,h⟩
     ·refine cnf (ntf (dT hc)) ?_
      refine .sk ?_;refine .region ?_;refine va ?_;refine vb ?_;refine asd ?_;refine .nil ?_;refine AL.gk [4,5,6,10] ?_
      exact ih (k,s13,(w64 (s14+1))) h (Nat.lt_succ_self _)
     refine cnt (ntt (dF hc)) ?_;refine .sr ?_;refine va ?_;refine ar [4,5,6,10] ?_;refine .ret ?_
     cases h
     exact ⟨rfl,rfl⟩
    refine cnf (bf hc) ?_;refine .gk [4] ?_;refine .exit ?_
    exact jr (s13) h
   rintro z12 h
   try dsimp only at h ⊢
   subst hK2
   refine aw ?_;refine .sr ?_;refine ar [4] ?_;refine .ret ?_
   cases h
   exact ⟨rfl,rfl⟩
  refine cnt (ntt (dF hc)) ?_;refine .sr ?_;refine va ?_;refine ar [4,5,6] ?_;refine .ret ?_
  cases h
  exact ⟨rfl,rfl⟩
 refine cnt (ntt (dF hc)) ?_;refine .seq ?_;refine .drawn 5 A2 (by kernel_rfl) ?_;refine dv (Aq AB As) ?_
 obtain ⟨x18,g18,h⟩:=bnd h
 refine dv (Ah (Jl g18) Tryz.call148) ?_;refine dv (Aq AB As) ?_
 obtain ⟨x19,g19,h⟩:=bnd h
 refine dv (Ah (Jl g19) Tryz.call148) ?_
 obtain ⟨x20,g20,h⟩:=bnd h
 refine dv (Ah (Fd g20) Tryz.call147) ?_;refine dz ?_;refine ar [2,3,4] ?_;refine .ret ?_
 cases h
 exact ⟨rfl,rfl⟩
def DZ : Nat→Itm→Itm→Option (Int)
 | 0,_,_=>none
 | k+1,a0,a1=>Fm (DZ k) a0 a1
theorem Ie : ∀ (k:Nat) (a0:Itm) (a1:Itm) (r:Int),DZ k a0 a1=some r→Fn Tryz.prog 84 [.ag [.i .u8 a0.kind,.b a0.num.1,.sl (L a0.num.2.1),.sl (L a0.num.2.2),.i .i32 a0.char,.sl (Ars a0.box)],.ag [.i .u8 a1.kind,.b a1.num.1,.sl (L a1.num.2.1),.sl (L a1.num.2.2),.i .i32 a1.char,.sl (Ars a1.box)]] (.d (.i .i64 r))
 | 0,_,_,_,h=>by cases h
 | k+1,a0,a1,_,h=>M5 (Ie k)  (show Fm (DZ k) a0 a1=some _ from h)
def JA (a0:Itm) (a1:Itm) : Option (Int):=DZ (a0.size+1) a0 a1
theorem NN {a0:Itm} {a1:Itm} {r:Int} (h:JA a0 a1=some r) : Fn Tryz.prog 84 [.ag [.i .u8 a0.kind,.b a0.num.1,.sl (L a0.num.2.1),.sl (L a0.num.2.2),.i .i32 a0.char,.sl (Ars a0.box)],.ag [.i .u8 a1.kind,.b a1.num.1,.sl (L a1.num.2.1),.sl (L a1.num.2.2),.i .i32 a1.char,.sl (Ars a1.box)]] (.d (.i .i64 r)):=Ie _ a0 a1 r  h
def Fv (a0:Itm) (a1:Itm) : Option (Int):=((BA a0).bind fun x1=>(Option.bind ((if x1=true then ((BA a1).bind fun x3=>(some (!x3))) else (some true)) : Option (Bool)) fun (z1:Bool)=>(if z1=true then (some (0)) else ((JA a0 a1).bind fun x4=>(some (x4))))))
theorem Ng {a0:Itm} {a1:Itm} {r:Int} (h:Fv a0 a1=some r) :
  Fn Tryz.prog 31 [.ag [.i .u8 a0.kind,.b a0.num.1,.sl (L a0.num.2.1),.sl (L a0.num.2.2),.i .i32 a0.char,.sl (Ars a0.box)],.ag [.i .u8 a1.kind,.b a1.num.1,.sl (L a1.num.2.1),.sl (L a1.num.2.2),.i .i32 a1.char,.sl (Ars a1.box)]] (.d (.i .i64 r)):=by
 unfold Fv at h
 refine Fn.o1 4 16 Tryz.func31 ?_;refine .sr ?_;refine vk vbx ?_;refine vk vbx ?_;refine ar [2,3,4] ?_;refine .seq ?_;refine .seq ?_
 obtain ⟨x1,g1,h⟩:=bnd h
 obtain ⟨z1,hz,h⟩:=bnd h
 refine AW.mr (σ:=Unit) (fun _=>True) (fun _=>[(2,.d (.ptr [.i .u8 a0.kind,.b a0.num.1,.sl (L a0.num.2.1),.sl (L a0.num.2.2),.i .i32 a0.char,.sl (Ars a0.box)])),(3,.d (.ptr [.i .u8 a1.kind,.b a1.num.1,.sl (L a1.num.2.1),.sl (L a1.num.2.2),.i .i32 a1.char,.sl (Ars a1.box)])),(4,.d (.i .i64 0)),(12,.d (.b z1))]) (fun _=>[]) ?_ ?_
 ·skip
  refine .region ?_;refine vk (Aq AB As) ?_;refine vk (Ah (Cq g1) Tryz.call32) ?_;refine vk vnt ?_
  rcases brc hz with ⟨hc,hz⟩|⟨hc,hz⟩
  ·have hb0:(!x1)=false:=(ntf hc)
   refine vL hb0 ?_;refine vk (Aq AB As) ?_
   obtain ⟨x3,g3,hz⟩:=bnd hz
   refine vk (Ah (Cq g3) Tryz.call32) ?_;refine vk vnt ?_;refine vk Ag ?_;refine RL.gk [2,3,4,12] ?_;refine .nil ?_
   cases hz
   exact jr () trivial
  have hb0:(!x1)=true:=(ntt (bf hc))
  refine vL hb0 ?_;refine gf3 ?_;refine vk Ag ?_;refine RL.gk [2,3,4,12] ?_;refine .nil ?_
  cases hz
  exact jr () trivial
 rintro _ _
 rcases brc h with ⟨hc,h⟩|⟨hc,h⟩
 ·refine cnt hc ?_
  refine .sr ?_;refine ar [2,3,4] ?_;refine .ret ?_
  cases h
  exact ⟨rfl,rfl⟩
 refine cnf (bf hc) ?_;refine .sk ?_;refine .sr ?_;refine vk (Aq AB As) ?_;refine vk (Aq AB As) ?_
 obtain ⟨x4,g4,h⟩:=bnd h
 refine vk (Ah (NN g4) Tryz.call84) ?_;refine ar [4] ?_;refine .ret ?_
 cases h
 exact ⟨rfl,rfl⟩
theorem IY (a b:Int) : DN a b=some (sg3 a b):=by
 unfold DN sg3
 split
 ·rfl
 ·split<;>rfl
theorem J4 {a b:Arr} (hl:a.shape.length≤17592186044416) (hab:a.shape.length=b.shape.length) (K:Int→Option Int) {r:Int} (hK:∀ s,Cd sg3 a.shape b.shape=0→K s=some r) : ∀ (n i k:Nat) (s:Int),n=a.shape.length-i→i≤a.shape.length→n<k→(Cd sg3 (a.shape.drop i) (b.shape.drop i)=Cd sg3 a.shape b.shape) →
  Cs a b K k s (i:Int)=some (or3 (Cd sg3 a.shape b.shape) r)
 | n,i,0,s,_,_,h,_=>by omega
 | n,i,k+1,s,hn,hi,hk,he=>by
  rw [Cs]
  by_cases hlt:i<a.shape.length
  ·have hlt2:i<b.shape.length:=by omega
   rw [lC hlt,lC hlt2,Cd] at he
   rw [if_pos (by omega),Cf hlt,oB,Cf hlt2,oB,IY,oB,Dh (by omega)]
   by_cases h0:sg3 a.shape[i] b.shape[i]=0
   ·rw [if_pos h0]
    unfold or3 at he
    rw [if_pos h0] at he
    exact J4 hl hab K hK (n-1) (i+1) k s (by omega) (by omega) (by omega) he
   ·rw [if_neg h0]
    unfold or3 at he
    rw [if_neg h0] at he
    rw [← he];unfold or3;rw [if_neg h0]
  ·rw [List.drop_of_length_le (by omega),List.drop_of_length_le (by omega)] at he
   have h0:Cd sg3 a.shape b.shape=0:=he.symm
   rw [if_neg (by omega),hK s h0,h0];rfl
theorem Kj {rc:Itm→Itm→Option Int} {c:Itm→Itm→Int} {a b:Arr} (hf:∀ x∈a.items,∀ y∈b.items,rc x y=some (c x y)) (hl:a.items.length≤17592186044416) (hab:a.items.length=b.items.length) (K:Int→Option Int) (hK:∀ s,K s=some 0) : ∀ (n i k:Nat) (s:Int),n=a.items.length-i→i≤a.items.length→n<k →
  Cr rc a b K k s (i:Int)=some (Cd c (a.items.drop i) (b.items.drop i))
 | n,i,0,s,_,_,h=>by omega
 | n,i,k+1,s,hn,hi,hk=>by
  rw [Cr]
  by_cases hlt:i<a.items.length
  ·have hlt2:i<b.items.length:=by omega
   rw [if_pos (by simp;omega),Cf hlt,oB,Cf hlt2,oB,hf _ (List.getElem_mem _) _ (List.getElem_mem _),oB,Dh (by omega),lC hlt,lC hlt2,Cd]
   unfold or3
   by_cases h0:c a.items[i] b.items[i]=0
   ·rw [if_pos h0,if_pos h0];exact Kj hf hl hab K hK (n-1) (i+1) k s (by omega) (by omega) (by omega)
   ·rw [if_neg h0,if_neg h0]
  ·rw [if_neg (by simp;omega),hK,show a.items.drop i=[] from List.drop_of_length_le (by omega),show b.items.drop i=[] from List.drop_of_length_le (by omega)];rfl
theorem Wh {xs ys:List Int} : Cd sg3 xs ys=0→xs=ys:=by
 induction xs generalizing ys with
 | nil=>cases ys with
  | nil=>intro _;rfl
  | cons y ys=>intro h;simp [Cd] at h
 | cons x xs ih=>cases ys with
  | nil=>intro h;simp [Cd] at h
  | cons y ys =>
   intro h
   rw [Cd] at h
   unfold or3 at h
   split at h
   ·rename_i h0
    rw [PS.1 h0,ih h]
   ·rename_i h0;exact absurd h h0
theorem N0 : ∀ (k K:Nat) {x y:Itm},x.size<k→x.size<K→okI x→AD x→okI y→AD y→DZ k x y=some (Fx K x y)
 | 0,_,x,y,h,_,_,_,_,_=>by omega
 | k+1,0,x,y,_,h,_,_,_,_=>by omega
 | k+1,K+1,x,y,h1,h2,ox,rx,oy,ry=>by
  have ox':=(DA x).1 ox
  have oy':=(DA y).1 oy
  rw [DZ]
  unfold Fm
  rw [Fx]
  by_cases hk:x.kind=y.kind
  rotate_left
  ·rw [if_neg hk,if_neg hk]
   unfold Gi
   rw [oB,oB,IY,show IntKind.wrap .i64 x.kind=x.kind from Gc (by omega) (by omega),show IntKind.wrap .i64 y.kind=y.kind from Gc (by omega) (by omega)];rfl
  rw [if_pos hk,if_pos hk]
  dsimp only
  rcases Dl rx.1 with ⟨kx,qx,_,_⟩|⟨kx,_,_,_⟩|⟨kx,_,_,a,hb,hs,hr⟩
  ·obtain ⟨p,fp,ep⟩:=GY.1 qx
   rcases Dl ry.1 with ⟨_,qy,_,_⟩|⟨ky,_⟩|⟨ky,_⟩
   ·obtain ⟨q,fq,eq⟩:=GY.1 qy
    rw [if_pos kx,if_pos kx,ep,eq,NP fp fq,Ma,Ma];rfl
   ·omega
   ·omega
  ·rw [if_neg (by omega),if_pos kx,if_neg (by omega),if_pos kx,IY,show IntKind.wrap .i64 x.char=x.char from Gc (by omega) (by omega),show IntKind.wrap .i64 y.char=y.char from Gc (by omega) (by omega)];rfl
  ·rcases Dl ry.1 with ⟨ky,_⟩|⟨ky,_⟩|⟨ky,_,_,b,hc,hs2,hr2⟩
   ·omega
   ·omega
   have ma:a∈x.box:=by rw [hb];simp
   have mb:b∈y.box:=by rw [hc];simp
   obtain ⟨oa,ra,_,_⟩:=FS ox rx a ma
   obtain ⟨ob,rb,_,_⟩:=FS oy ry b mb
   have oa':=(BE a).1 oa
   rw [if_neg (by omega),if_neg (by omega),if_neg (by omega),if_neg (by omega),hb,hc,show rd? [a] 0=some a from rfl,oB,show rd? [b] 0=some b from rfl,oB,IY,oB]
   show _=some (or3 (or3 (sg3 (a.shape.length:Int) (b.shape.length:Int)) (Cd sg3 a.shape b.shape)) (Cd (Fx K) a.items b.items))
   by_cases h0:sg3 ((a.shape.length:Nat):Int) ((b.shape.length:Nat):Int)=0
   rotate_left
   ·rw [if_neg h0]
    unfold or3
    rw [if_neg h0,if_neg h0]
   have hab:a.shape.length=b.shape.length:=by have:=PS.1 h0;omega
   have e1:or3 (or3 (sg3 (a.shape.length:Int) (b.shape.length:Int)) (Cd sg3 a.shape b.shape)) (Cd (Fx K) a.items b.items)=or3 (Cd sg3 a.shape b.shape) (Cd (Fx K) a.items b.items):=by
    rw [h0];rfl
   rw [if_pos h0,Dk,e1]
   refine J4 oa'.2.1 hab _ (r:=Cd (Fx K) a.items b.items) (fun s hz=>?_) a.shape.length 0 AK 0 rfl (Nat.zero_le _) (CB (by omega)) rfl
   have hsh:=Wh hz
   rw [Dk]
   have hlen:a.items.length=b.items.length:=by
    obtain ⟨n1,s1,i1⟩:=Mu ra
    obtain ⟨n2,s2,i2⟩:=Mu rb
    rw [hsh,s2] at s1
    have:n2=n1:=by have:(n2:Int)=(n1:Int):=congrArg Prod.fst s1;omega
    rw [i1,i2,this]
   exact Kj (c:=Fx K) (fun u hu v hv=>by
     have s1:=HN hu
     have s2:=FY ma
     have u2:=Da oa ra hu
     have v2:=Da ob rb hv
     exact N0 k K (x:=u) (y:=v) (by omega) (by omega) u2.1 u2.2 v2.1 v2.2) (by omega) hlen _ (fun _=>rfl) a.items.length 0 AK s rfl (Nat.zero_le _) (CB (by omega))
theorem R6 {K:Nat} {x y:Itm} (hK:x.size<K) (ox:okI x) (oy:okI y) : Fv x y=some (if AD x∧AD y then Fx K x y else 0):=by
 unfold Fv
 rw [Ft ox,oB]
 by_cases rx:AD x
 rotate_left
 ·rw [dF rx,if_neg (show ¬(false=true) by decide),oB,if_pos rfl,if_neg (fun q=>rx q.1)]
 rw [dT rx,if_pos rfl,Ft oy,oB,oB]
 by_cases ry:AD y
 rotate_left
 ·rw [dF ry,if_pos (by rfl),if_neg (fun q=>ry q.2)]
 rw [dT ry,if_neg (by decide),if_pos ⟨rx,ry⟩]
 unfold JA
 rw [N0 _ K (Nat.lt_succ_self _) hK ox rx oy ry];rfl
def HH (a0:(Int×RT×Int)) (a1:Int) (a2:Arr) : Option (Arr×Int):=((Gl a1).bind fun x1=>(if x1=true then ((HW a0 ([a2])).bind fun x2=>(if x2=true then ((DX a2).bind fun x3=>(if a1=8834 then none else (if a1=8835 then none else (if a1=8593 then (jn (((rd? x3 0).bind fun x4=>none)) fun K0=>(if ((List.length x3:Nat) : Int)=0 then none else (K0))) else (if a1=8714 then none else (jn (fun (z5:Bool)=>(if z5=true then (if ((List.length a2.shape:Nat) : Int)=1 then ((JH a0 x3 (Tt [(9035,1),(9042,(-1))] a1)).bind fun x6=>(some (x6,0))) else (some ((Arr.mk [] []),4))) else (if a1=8746 then (if 1<((List.length a2.shape:Nat) : Int) then (some ((Arr.mk [] []),4)) else none) else (if a1=8801 then none else (if a1=8802 then none else none))))) fun K1=>(if a1=9035 then (K1 (decide (a1=9035))) else (K1 (decide (a1=9042)))))))))) else (some ((Arr.mk [] []),22)))) else (some ((Arr.mk [] []),23))))
theorem LP {a0:(Int×RT×Int)} {a1:Int} {a2:Arr} {r:Arr×Int} (h:HH a0 a1 a2=some r) :
  Fn Tryz.prog 19 [.ag [.i .i64 a0.1,.b a0.2.1.1,.sl (L a0.2.1.2.1),.sl (L a0.2.1.2.2),.i .i64 a0.2.2],.i .i32 a1,.ag [.sl (Is a2.shape),.sl (Its a2.items)]] (.tup [.d (.ag [.sl (Is r.1.shape),.sl (Its r.1.items)]),.d (.i .i64 r.2)]):=by
 unfold HH at h
 refine Fn.ofC (rs:=[.cell 6 27,.tmp 7]) (nt:=121) Tryz.func19 rfl rfl rfl (by simp) rfl ?_;refine .sr ?_;refine vk vbx ?_;refine vk vbx ?_;refine vk (van (Ap A3) Bg) ?_;refine ar [1,3,5,6,7] ?_;refine .seq ?_;refine .block ?_;refine .sr ?_;refine va ?_
 obtain ⟨x1,g1,h⟩:=bnd h
 refine vk (Ah (J6 g1) Tryz.call64) ?_;refine vk vnt ?_;refine ar [1,3,5,6,7,9] ?_
 rcases brc h with ⟨hc,h⟩|⟨hc,h⟩
 ·refine cnf (ntf hc) ?_
  refine .sr ?_;refine vk (Aq Lo Kp) ?_;refine vk (Aq Al Ad) ?_;refine vk ((Hk (Pz a2) (Ks [a2]) Nu).deep) ?_
  obtain ⟨x2,g2,h⟩:=bnd h
  refine vk (Ah (Jk g2) Tryz.call39) ?_;refine vk vnt ?_;refine ar [1,3,5,6,7,14] ?_
  rcases brc h with ⟨hc,h⟩|⟨hc,h⟩
  ·refine cnf (ntf hc) ?_
   refine .sk ?_;refine .sr ?_;refine vk (Aq Al Ad) ?_
   obtain ⟨x3,g3,h⟩:=bnd h
   refine vk (Ah (IB g3) Tryz.call46) ?_;refine ar [1,3,5,6,7,8] ?_;refine .seq ?_;refine .sr ?_;refine va ?_;refine rk [1,3,5,6,7,8,23] ?_;refine .block ?_;refine .sr ?_;refine vb ?_;refine ar [1,3,5,6,7,8,23,24] ?_
   rcases brc h with ⟨hc,h⟩|⟨hc,h⟩
   ·refine cnt (dT hc) ?_
    refine .sr ?_;refine vk (Aq Al Ad) ?_
    exact nomatch h
   refine cnf (dF hc) ?_;refine .sr ?_;refine vb ?_;refine ar [1,3,5,6,7,8,23,32] ?_
   rcases brc h with ⟨hc,h⟩|⟨hc,h⟩
   ·refine cnt (dT hc) ?_
    refine .sr ?_;refine vk (Aq Al Ad) ?_
    exact nomatch h
   refine cnf (dF hc) ?_;refine .sr ?_;refine vb ?_;refine ar [1,3,5,6,7,8,23,38] ?_
   rcases brc h with ⟨hc,h⟩|⟨hc,h⟩
   ·refine cnt (dT hc) ?_
    refine .seq ?_;refine .sr ?_;refine va ?_;refine vk (A8 (AC _) (BT _) BU) ?_;refine vb ?_;refine rk [3,5,6,7,8,42] ?_
    obtain ⟨K0,hK0,h⟩:=AP h
    refine AW.mr (σ:=Unit) (fun p=>K0=some r) (fun p=>[(3,.d (.ptr [.i .i64 a0.1,.b a0.2.1.1,.sl (L a0.2.1.2.1),.sl (L a0.2.1.2.2),.i .i64 a0.2.2])),(5,.d (.ptr [.sl (Is a2.shape),.sl (Its a2.items)])),(6,.nb [.sl (Is []),.sl (Its [])]),(7,.d (.i .i64 0)),(8,.d (.sl (Its x3)))]) (fun p=>[]) ?_ ?_
    ·skip
     rcases brc h with ⟨hc,h⟩|⟨hc,h⟩
     ·refine cnt (dT hc) ?_
      refine .region ?_;refine vk (Aq Al Ad) ?_
      exact nomatch h
     refine cnf (dF hc) ?_;refine .gk [3,5,6,7,8] ?_;refine .skip ?_
     exact jr () h
    rintro _ h
    subst hK0
    refine aw ?_;refine .sr ?_;refine va ?_
    obtain ⟨x4,g4,h⟩:=bnd h
    obtain ⟨n4,p04,q4⟩:=Aj g4
    refine vk (vix n4 p04 (CR q4) rfl CK) ?_;refine vk (Aq AB As) ?_
    exact nomatch h
   refine cnf (dF hc) ?_;refine .sr ?_;refine vb ?_;refine ar [1,3,5,6,7,8,23,50] ?_
   rcases brc h with ⟨hc,h⟩|⟨hc,h⟩
   ·refine cnt (dT hc) ?_
    refine .seq ?_;refine .drawn 13 A2 (by kernel_rfl) ?_;refine dv Ae ?_
    exact nomatch h
   refine cnf (dF hc) ?_;refine .seq ?_;refine .sr ?_;refine vb ?_;refine ar [1,3,5,6,7,8,23,65] ?_
   obtain ⟨K1,hK1,h⟩:=AP h
   refine AW.mr (σ:=Bool) (fun p=>K1 p=some r) (fun p=>[(1,.d (.i .i32 a1)),(3,.d (.ptr [.i .i64 a0.1,.b a0.2.1.1,.sl (L a0.2.1.2.1),.sl (L a0.2.1.2.2),.i .i64 a0.2.2])),(5,.d (.ptr [.sl (Is a2.shape),.sl (Its a2.items)])),(6,.nb [.sl (Is []),.sl (Its [])]),(7,.d (.i .i64 0)),(8,.d (.sl (Its x3))),(23,.d (.i .i32 a1)),(65,.d (.b p))]) (fun p=>[]) ?_ ?_
   ·skip
    rcases brc h with ⟨hc,h⟩|⟨hc,h⟩
    ·refine cnt (dT hc) ?_
     refine .gk [1,3,5,6,7,8,23,65] ?_;refine .skip ?_
     exact jr ((decide (a1=9035))) h
    refine cnf (dF hc) ?_;refine .region ?_;refine vb ?_;refine asd ?_;refine RL.gk [1,3,5,6,7,8,23,65] ?_;refine .nil ?_
    exact jr ((decide (a1=9042))) h
   rintro z5 h
   try dsimp only at h ⊢
   subst hK1
   refine aw ?_
   rcases brc h with ⟨hc,h⟩|⟨hc,h⟩
   ·refine cnt hc ?_
    refine .seq ?_;refine .sr ?_;refine vk (vfa Bh) ?_;refine vk (Am CS) ?_;refine vk (A8 (Ai _) (CT _) Cu) ?_;refine vb ?_;refine rk [1,3,5,6,7,8,71] ?_
    rcases brc h with ⟨hc,h⟩|⟨hc,h⟩
    ·refine cnf (ntf (dT hc)) ?_
     refine .sk ?_;refine .sr ?_;refine vk (Aq Lo Kp) ?_;refine va ?_;refine vk Zp ?_;refine Y7 E8 gkR freshK.nil ?_;refine Y7 E8 gkR (freshK.snoc (z:=9042) (z':=9035) freshK.nil (by decide)) ?_;refine RL.gh (Gh.omf (t:=75) rfl) ?_;refine va ?_;refine va ?_;refine vk (Y6 (T:=[(9035,1),(9042,(-1))]) (by decide) E8 gkR Kw) ?_
     obtain ⟨x6,g6,h⟩:=bnd h
     refine vk (Ah (NU g6) Tryz.call70) ?_
     refine stn ?_ Ad (by decide)
     refine ar [3,5,6,7] ?_;refine .ret ?_
     cases h
     exact ⟨_,_,⟨.inr rfl,Al,Ad,p2⟩,rfl,rfl⟩
    refine cnt (ntt (dF hc)) ?_;refine .sr ?_;refine vk (vbd Dd A3 Bg) ?_
    refine stn ?_ Ad (by decide)
    refine ar [1,3,5,6,7,8] ?_;refine .ret ?_
    cases h
    exact ⟨_,_,⟨.inr rfl,Al,Ad,p2⟩,rfl,rfl⟩
   refine cnf (bf hc) ?_;refine .sr ?_;refine vb ?_;refine ar [3,5,6,7,8,23,80] ?_
   rcases brc h with ⟨hc,h⟩|⟨hc,h⟩
   ·refine cnt (dT hc) ?_
    refine .seq ?_;refine .sr ?_;refine vk (vfa Bh) ?_;refine vk (Am CS) ?_;refine vk (A8 (Ai _) (CT _) Cu) ?_;refine vb ?_;refine rk [3,5,6,7,8,85] ?_
    rcases brc h with ⟨hc,h⟩|⟨hc,h⟩
    ·refine cnt (dT hc) ?_
     refine .sr ?_;refine vk (vbd Dd A3 Bg) ?_
     refine stn ?_ Ad (by decide)
     refine ar [3,5,6,7,8] ?_;refine .ret ?_
     cases h
     exact ⟨_,_,⟨.inr rfl,Al,Ad,p2⟩,rfl,rfl⟩
    exact nomatch h
   refine cnf (dF hc) ?_;refine .sr ?_;refine vb ?_;refine ar [3,5,6,7,23,95] ?_
   rcases brc h with ⟨hc,h⟩|⟨hc,h⟩
   ·refine cnt (dT hc) ?_
    refine .sr ?_;refine vk (Aq Al Ad) ?_
    exact nomatch h
   refine cnf (dF hc) ?_;refine .sr ?_;refine vb ?_;refine ar [3,5,6,7,100] ?_
   rcases brc h with ⟨hc,h⟩|⟨hc,h⟩
   ·exact nomatch h
   refine cnf (dF hc) ?_;refine .sk ?_;refine .sr ?_;refine vk (Aq Lo Kp) ?_;refine vk (Aq Al Ad) ?_
   exact nomatch h
  refine cnt (ntt (bf hc)) ?_;refine .sr ?_;refine vk (vbd Dd A3 Bg) ?_
  refine stn ?_ Ad (by decide)
  refine ar [1,3,5,6,7] ?_;refine .ret ?_
  cases h
  exact ⟨_,_,⟨.inr rfl,Al,Ad,p2⟩,rfl,rfl⟩
 refine cnt (ntt (bf hc)) ?_;refine .sr ?_;refine vk (vbd Dd A3 Bg) ?_
 refine stn ?_ Ad (by decide)
 refine ar [1,3,5,6,7] ?_;refine .ret ?_
 cases h
 exact ⟨_,_,⟨.inr rfl,Al,Ad,p2⟩,rfl,rfl⟩
end Go.FL
namespace Go.FL
open Go Go.RowKit
def ALM (P:Program) (C:Cx) (c:Code) (Q:Exit→Env→Ac→Prop) (env:Env) (H:Ac) : Prop :=
 ∀ X a w I μ O,X.nt=C.nt→X.n0=C.n0→X.ne=C.ne→Sim P X env H a w I μ O→LB (om C.ro) 0 P c (PostM P X Q) a w
section
variable {P:Program} {C:Cx} {X:Snap} {o:Oper} {ops:Array Oper} {Q:Exit→Env→Ac→Prop} {env env':Env} {H H':Ac} {a:Act} {w w':World} {I I':Nat→Prop} {μ μ':List Nat} {O O':Nat→Option Loc}
 {K:Env→Ac→Prop} {k:Nat} {l:List Oper}
theorem AWM.loop {c:Code} (h:ALM P C c Q env H) : AWM P C (.loop c) Q env H:=fun X a w I μ O h1 h2 h3 hs=>(h X a w I μ O h1 h2 h3 hs).loop
theorem ALM.gh {c:Code} (g:Gh P C env H env' H') (h:ALM P C c Q env' H') : ALM P C c Q env H:=fun X a w I μ O h1 h2 h3 hs =>
 let ⟨I',O',hs'⟩:=g X a w I μ O h1 h2 h3 hs;h X a w I' μ O' h1 h2 h3 hs'
theorem AWM.skip (h:Q .normal env H) : AWM P C .skip Q env H:=.lift (.skip h)
theorem AWM.exit {id:Nat} (h:Q (.exit id) env H) : AWM P C (.exit id) Q env H:=.lift (.exit h)
theorem AWM.mj {x y:Code} {σ:Type} (I:σ→Prop) (e:σ→Env) (g:σ→Ac) (h1:AW P C x (FA (JR I e g) Q) env H) (h2:∀ s,I s→AWM P C y Q (e s) (g s)) : AWM P C (.seq x y) Q env H :=
 .seqA (h1.mono fun ex env' H' h=>by
  cases ex with
  | normal=>obtain ⟨s,hi,he,hg⟩:=h;subst he;subst hg;exact h2 s hi
  | _=>exact h)
theorem PostM.over {ms:List Deferred} {a1:Act} {w1:World} {env1:Env} {H1:Ac} {I1:Nat→Prop} {μ1:List Nat} {O1:Nat→Option Loc} (hX0:X.n0=0) (s:Sim P {X with dfs:=ms++X.dfs} env1 H1 a1 w1 I1 μ1 O1) (hm:Marks X.K w1 I1 O1 ms) :
  ∃ Y:Snap,Y.nt=X.nt∧Y.n0=X.n0∧Y.ne=X.ne∧Sim P Y env1 H1 a1 w1 I1 μ1 O1∧∀ e a2 w2,PostM P Y Q e a2 w2→PostM P X Q e a2 w2:=by
 obtain ⟨K',hKd⟩:∃ K':Nat→Prop,K'=fun b=>X.K b∨∃ m∈ms,m={target:=.collected b,args:=#[]}:=⟨_,rfl⟩
 have hK':∀ b,K' b→O1 b=none∧b<w1.heap.size:=fun b hb=>by
  rw [hKd] at hb
  rcases hb with hb|⟨m,hm1,hm2⟩
  ·exact ⟨s.kO b hb,nL (s.klt b hb) s.size⟩
  ·obtain ⟨D,e1,e2,e3,e4,_⟩:=hm.2 m hm1
   rw [hm2] at e1;simp at e1;subst e1
   exact ⟨e3,(Array.getElem?_eq_some_iff.1 e2).1⟩
 have hr:=s.recast (s.toMem.reroot hX0 hK') rfl rfl rfl
 refine ⟨{X with w:=w1,I:=I1,K:=K',μ:=μ1,dfs:=ms++X.dfs},rfl,rfl,rfl,hr,fun e a2 w2 ⟨env2,H2,I2,μ2,O2,ms2,s2,q2,hm2⟩=>?_⟩
 refine ⟨env2,H2,I2,μ2,O2,ms2++ms,?_,q2,?_⟩
 ·have hu:Mem P X H2 w2 I2 μ2 O2:=(s.toMem.cast (Y:=X) rfl rfl rfl rfl rfl rfl).unroot hX0 (K':=K') (fun b hb=>by rw [hKd];exact .inl hb) (s2.toMem.cast rfl rfl rfl rfl rfl rfl)
  exact ⟨hu.cast rfl rfl rfl rfl rfl rfl,s2.envr,s2.nt,by rw [s2.dfs.1];simp,s2.dfs.2⟩
 ·refine ⟨List.nodup_append.2 ⟨hm2.1,hm.1,fun x hx y hy e=>?_⟩,fun m hmm=>?_⟩
  ·subst e
   obtain ⟨D,rfl,_,_,_,hk⟩:=hm2.2 x hx
   exact hk (by show K' D;rw [hKd];exact .inr ⟨_,hy,rfl⟩)
  rcases List.mem_append.1 hmm with hmm|hmm
  ·obtain ⟨D,e1,e2,e3,e4,e5⟩:=hm2.2 m hmm
   exact ⟨D,e1,e2,e3,e4,fun hk=>e5 (by show K' D;rw [hKd];exact .inl hk)⟩
  ·obtain ⟨D,rfl,e2,e3,e4,e5⟩:=hm.2 m hmm
   have hkD:K' D:=by rw [hKd];exact .inr ⟨_,hmm,rfl⟩
   exact ⟨D,rfl,(s2.prot D hkD).trans e2,s2.kO D hkD,fun hi=>e4 (s2.kI D hkD hi),e5⟩
theorem ALM.round (h0:C.n0=0) {c:Code} (h:AWM P C c (FA (ALM P C c Q) Q) env H) : ALM P C c Q env H:=fun X a w I μ O h1 h2 h3 hs =>
 .round (wpIn_mono (h X a w I μ O h1 h2 h3 hs) fun e a1 w1 ⟨env',H',I',μ',O',ms,s,q,hm⟩=>by
  cases e with
  | normal =>
   obtain ⟨Y,y1,y2,y3,y4,y5⟩:=PostM.over (Q:=Q) (by omega) s hm
   have hl:=q Y a1 w1 I' μ' O' (y1.trans h1) (y2.trans h2) (y3.trans h3) y4
   intro b k cs hro hb hr
   obtain ⟨e2,a2,w2,p1,p2⟩:=hl b k cs hro hb hr
   exact ⟨e2,a2,w2,y5 _ _ _ p1,p2⟩
  | _=>exact ⟨env',H',I',μ',O',ms,s,q,hm⟩)
theorem ALM.ind (h0:C.n0=0) {c:Code} {σ:Type} (m:σ→Nat) (e:σ→Env) (h:σ→Ac) (I:σ→Prop)
  (step:∀ s,I s→(∀ s',I s'→m s'<m s→ALM P C c Q (e s') (h s'))→AWM P C c (FA (ALM P C c Q) Q) (e s) (h s)):∀ s,I s→ALM P C c Q (e s) (h s):=by
 suffices H:∀ n s,m s=n→I s→ALM P C c Q (e s) (h s) from fun s hs=>H _ s rfl hs
 intro n
 induction n using Nat.strongRecOn with
 | ind n ih =>
  intro s hm hs
  exact .round h0 (step s hs fun s' h1 h2=>ih (m s') (by omega) s' rfl h1)
theorem Sim.storeBA {id blk:Nat} (hm:μ[id]?=some blk) (hn:X.n0≤id) : ∀ (us:List Value) (k:Nat) (ds zs:List DV) (H:Ac) (w:World) (O:Nat→Option Loc),Sim P X env H a w I μ O→H[id]?=some (.box (zs.map .d))→zs.length=k+us.length →
  RepAll w I ds us→(∀ u∈us,u.oneCell'=true)→∃ w' O',(storeCells ⟨blk,0,none⟩ us k).run P w=.ok () w'∧Sim P X env (H.set id (.box ((zs.take k++ds).map .d))) a w' I μ O'
 | [],k,ds,zs,H,w,O,hs,hH,hl,hr,h1=>by
  cases hr
  rw [List.append_nil,List.take_of_length_le (by simp at hl;omega),List.set_same _ _ hH]
  exact ⟨w,O,rfl,hs⟩
 | u::us,k,ds,zs,H,w,O,hs,hH,hl,hr,h1=>by
  cases hr with
  | @cons d _ ds _ hd ht =>
   rw [List.length_cons] at hl
   have hu:=h1 u (by simp)
   have hkl:k<zs.length:=by omega
   obtain ⟨q1,⟨u0,q2⟩,q3⟩:=hs.storeC (off:=k) (c:=.d zs[k]) (av:=.d d) (v:=u) (hbs:=[]) hH (by rw [List.getElem?_map,lG hkl];rfl) hm hn (.d hd) nN (by simp)
   have hIb:¬I blk:=by
    obtain ⟨blk',bs,g1,g2,g3,g4⟩:=hs.heap id _ hH
    rw [hm] at g1;cases g1
    exact (hs.own blk _ ((g3 hn).2 blk (by simp))).2
   have hst:(store ((⟨blk,0,none⟩:Addr).add k) u).run P w=.ok () (w.setCell ⟨blk,k,none⟩ u):=by
    have hadd:(⟨blk,0,none⟩:Addr).add k=⟨blk,k,none⟩:=by unfold Addr.add;split<;>simp_all
    rw [hadd,run_store P w _ u _ hu,q2]
    simp [q3]
   have hset:D8 H id k (.d d)=H.set id (.box ((zs.set k d).map .d)):=by
    simp only [D8,hH];rw [List.map_set]
   rw [hset] at q1
   have hid:id<H.length:=(lS.1 hH).1
   obtain ⟨w2,O2,z1,z2⟩:=Sim.storeBA hm hn us (k+1) ds (zs.set k d) _ _ _ (show Sim P X env _ a _ I μ _ from q1) (by simp [hid]) (by simp;omega)
    (ht.keep (fun b' hb'=>heap_setCell_other w ⟨blk,k,none⟩ b' u fun e=>hIb (by rw [← (show b'=blk from e)];exact hb')) fun _ h=>h) fun u hu=>h1 u (by simp [hu])
   refine ⟨w2,O2,?_,?_⟩
   ·simp only [storeCells,Sem.run_bind,hst,Result.andThen_ok,z1]
   ·have t1:(zs.set k d).take (k+1)=zs.take k++[d]:=by
     rw [List.take_add_one,List.getElem?_set_self (by omega),List.take_set_of_le (Nat.le_refl k)];rfl
    rw [t1,List.set_set] at z2
    simpa using z2
theorem Zz {x y:Operand} {ty id:Nat} {zs ds:List DV} {bx:List AV} (hH:H[id]?=some (.box bx)) (hb:bx=zs.map .d) (hl:zs.length=ds.length) (h:RL P C ops Q (k+1) l env (H.set id (.box (ds.map .d)))) (hsz:AA P ty=ds.length) (hp:0<ds.length) (hg:grd ops env o true=true:=by rfl)
  (ho:o.op=.store ty x y:=by rfl) (hv:lk env x=.bp id 0:=by rfl) (hy:lk env y=.d (.ag ds):=by rfl) (h1:ds.all DV.leaf=true:=by rfl) (hd:o.dst=none:=by rfl) (h0:C.n0=0:=by rfl):RL P C ops Q k (o::l) env H:=by
 subst hb
 obtain ⟨g1,g2⟩:=Av hv (by simp)
 refine .go hg (.done (by simp [ho]) hd (fun X a w I μ O _ e2 _ hs=>?_) h)
 have hr:=hs.deep (x:=y) (v:=.ag ds) (by rw [hy];rfl)
 generalize hev:a.eval y=u at hr
 cases hr with
 | ag _ vs hr =>
  obtain ⟨blk,hm,he⟩:=hs.bp g1 g2
  have hvl:vs.length=ds.length:=hr.length.symm
  obtain ⟨w',O',z1,z2⟩:=Sim.storeBA hm (by omega) vs 0 ds zs H w O hs hH (by omega) hr (hr.one h1)
  refine ⟨w',I,μ,O',?_,?_⟩
  ·have hs':(sizeOf ty).run P w=.ok vs.length w:=by rw [hvl,← hsz];exact GC (by omega)
   have hsv:(storeVar ty ⟨blk,0,none⟩ (.agg vs.toArray)).run P w=.ok () w':=by
    simp [storeVar,hs',Value.cells,z1]
   simp only [execOp,ho,he,hev,Instr.storeAt,Instr.sureAddr,Sem.run_bind,Sem.run_pure,Result.andThen_ok,hsv]
  ·simpa using z2
end
def SN {α σ:Type} (f:Int→α→σ→Option σ) (xs:List α) : Nat→σ→Option σ
 | 0,s=>some s
 | n+1,s=>(xs[n]?).bind fun x=>(f ((n:Nat):Int) x s).bind fun s'=>SN f xs n s'
theorem S3 {α σ:Type} {f:Int→α→σ→Option σ} {xs:List α} : ∀ (n:Nat) {s z:σ},SN f xs n s=some z→∃ T : Nat→σ,T 0=s∧T n=z∧∀ k,k<n→∃ x,xs[n-1-k]?=some x∧f ((n-1-k:Nat) : Int) x (T k)=some (T (k+1))
 | 0,s,z,h=>⟨fun _=>s,rfl,oI h,fun k hk=>absurd hk (Nat.not_lt_zero k)⟩
 | n+1,s,z,h=>by
  simp only [SN,Option.bind_eq_some_iff] at h
  obtain ⟨x,hx,s',hf,h⟩:=h
  obtain ⟨T,t1,t2,t3⟩:=S3 n h
  refine ⟨fun k=>if k=0 then s else T (k-1),rfl,by simp [t2],fun k hk=>?_⟩
  cases k with
  | zero=>exact ⟨x,by simpa using hx,by simpa [t1] using hf⟩
  | succ k =>
   obtain ⟨y,y1,y2⟩:=t3 k (by omega)
   rw [show n+1-1-(k+1)=n-1-k by omega]
   exact ⟨y,y1,by simpa using y2⟩
theorem Tx (cells:Array Value) (n:Nat) : (madeCells cells ((n+1) * cells.size)).toList=cells.toList++(madeCells cells (n * cells.size)).toList:=by
 apply List.ext_getElem
 ·simp [madeCells,Nat.add_mul,Nat.add_comm]
 ·intro j h1 h2
  rw [List.getElem_append]
  split
  ·rename_i hj
   simp only [Array.length_toList] at hj
   simp [madeCells,Nat.mod_eq_of_lt hj,hj]
  ·rename_i hj
   simp only [Array.length_toList,Nat.not_lt] at hj
   simp [madeCells,Nat.mod_eq_sub_mod hj]
theorem Oa {w:World} {I:Nat→Prop} {cs:List DV} {cells:Array Value} (h:RepAll w I cs cells.toList) (h1:∀ u∈cells.toList,u.oneCell'=true) : ∀ n,RepRows w I cells.size (List.replicate n (.ag cs)) (madeCells cells (n * cells.size)).toList
 | 0=>by
  have:(madeCells cells (0 * cells.size)).toList=[]:=by simp [madeCells]
  rw [this];exact .nil _
 | n+1=>by
  rw [Tx cells n,List.replicate_succ]
  exact .cons (by simp) h1 h (Oa h h1 n)
section
variable {P:Program} {C:Cx} {o:Oper} {ops:Array Oper} {Q:Exit→Env→Ac→Prop} {env:Env} {H:Ac} {K:Env→Ac→Prop} {k:Nat} {l:List Oper}
theorem VF {l c:Operand} {ty t e by_ sz:Nat} {z:Value} {cs:List DV} {k k':IntKind} {n:Nat} (ho:o.op=.makeSlice ty l c) (hd:o.dst=some t) (ht:okT C.nt t) (hT:B3 P ty=some (e,sz,by_,z)) (hzs:z.cells.size=sz) (h0:0<sz) (hz:∀ w I,RepAll w I cs z.cells.toList) (hlf:cs.all DV.leaf=true)
  (hl:lk env l=.d (.i k n)) (hc:lk env c=.d (.i k' n)) (hby:by_ * n≤281474976710656) (h63:n≤maxLen)
  (hK:K (put env t (.own e (List.replicate n (.ag cs)))) H):OpOK P C o env H K :=
 .val (by simp [ho]) hd ht (fun X a w I μ O _ _ _ hs=>by
  obtain ⟨i,i1,i2,i3,i4,i5,i6,i7,i8⟩:=CP hT
  have e1:a.eval l=.int k n:=by
   have hr:=hs.deep (x:=l) (v:=.i k n) (by rw [hl];rfl)
   generalize a.eval l=u at hr
   cases hr;rfl
  have e2:a.eval c=.int k' n:=by
   have hr:=hs.deep (x:=c) (v:=.i k' n) (by rw [hc];rfl)
   generalize a.eval c=u at hr
   cases hr;rfl
  obtain ⟨w',q1,q2,q3⟩:=run_make_full w 0 ty e i z sz i1 i2 i3 i4 k k' n (by rw [i5];exact hby) h63 (Nat.zero_le _)
  have h2:=hs.grownR q3 fun b hb=>(by cases hb)
  have hO:∀ b,w.heap.size≤b→O b=none:=fun b hb=>by
   cases hx:O b with
   | none=>rfl
   | some l=>have:=(hs.own b l hx).1;omega
  have h3:=h2.newR (Bv (.slice (some ⟨w.heap.size,0,none⟩) n n)) fun b hb=>by
   have hlt:=(OwnR.of q2).lt b hb
   have:b=w.heap.size:=by
    simp only [Bv] at hb
    split at hb<;>simp at hb
    exact hb
   subst this
   exact ⟨hlt,.inl (hO _ (Nat.le_refl _)),fun hi=>by have:=hs.ilt _ hi;omega,fun hk=>by have:=hs.klt _ hk;have:=hs.size;omega⟩
  refine ⟨.slice (some ⟨w.heap.size,0,none⟩) n n,w',I,μ,_,?_,h3,Bv (.slice (some ⟨w.heap.size,0,none⟩) n n),?_,GO _,fun b hb=>by simp [hb]⟩
  ·simp only [execOp,ho,e1,e2,q1,Sem.run_bind,Result.andThen_ok,Sem.run_pure]
  ·have hrow:=Oa (cs:=cs) (cells:=z.cells) (hz w' I) ((hz w' I).one hlf) n
   rw [hzs] at hrow
   exact .own e _ _ _ (by omega) (by rw [List.length_replicate,i8];exact .of q2) (by rw [i8];exact hrow)) hK
theorem Zi {α:Type} {F:List α→List DV} {x0:α} {x c:Operand} {ty t e by_ sz:Nat} {z:Value} {cs:List DV} {q q':IntKind} {zl:Int} (n:Nat) (hF:List.replicate n (.ag cs)=F (List.replicate n x0)) (hn:zl=n) (hb:by_ * n≤281474976710656∧n≤9223372036854775807) (h:RL P C ops Q (k+1) l ((t,.own e (F (List.replicate n x0)))::env) H)
  (hT:B3 P ty=some (e,sz,by_,z)) (hz:∀ w I,RepAll w I cs z.cells.toList) (hzs:z.cells.size=sz:=by rfl) (h0:0<sz:=by decide) (hlf:cs.all DV.leaf=true:=by rfl) (hg:grd ops env o true=true:=by rfl) (ho:o.op=.makeSlice ty x c:=by rfl) (hx:lk env x=.d (.i q zl):=by rfl) (hc:lk env c=.d (.i q' zl):=by rfl) (hd:o.dst=some t:=by rfl)
  (hf:Ao (get env t)=false:=by rfl) (ht:okT C.nt t:=by rfl):RL P C ops Q k (o::l) env H:=by
 subst hn
 rw [← Ak hf] at h
 exact .go hg (VF ho hd ht hT hzs h0 hz hlf hx hc hb.1 (by simpa [maxLen] using hb.2) (by rw [hF];exact h))
end
def Qr (n:Nat) : AV→Bool
 | .bp i _=>Nat.blt i n
 | .ref (.c i _) _ _=>Nat.blt i n
 | .ep (.c i _) _ _=>Nat.blt i n
 | av=>noBp av
section
variable {P:Program} {C:Cx} {X:Snap} {o:Oper} {ops:Array Oper} {Q:Exit→Env→Ac→Prop} {env env':Env} {H H':Ac} {a:Act} {w w':World} {I I':Nat→Prop} {μ μ':List Nat} {O O':Nat→Option Loc}
 {K:Env→Ac→Prop} {k:Nat} {l:List Oper}
theorem AL.gh2 {c:Code} (g:Gh2 P C env H env' H') (h:AL P C c Q env' H') : AL P C c Q env H:=fun X a w I μ O h1 h2 h3 hs =>
 let ⟨I',μ',O',hs'⟩:=g X a w I μ O h1 h2 h3 hs;h X a w I' μ' O' h1 h2 h3 hs'
theorem ALM.gh2 {c:Code} (g:Gh2 P C env H env' H') (h:ALM P C c Q env' H') : ALM P C c Q env H:=fun X a w I μ O h1 h2 h3 hs =>
 let ⟨I',μ',O',hs'⟩:=g X a w I μ O h1 h2 h3 hs;h X a w I' μ' O' h1 h2 h3 hs'
theorem AWM.gh2 {c:Code} (g:Gh2 P C env H env' H') (h:AWM P C c Q env' H') : AWM P C c Q env H:=fun X a w I μ O h1 h2 h3 hs =>
 let ⟨I',μ',O',hs'⟩:=g X a w I μ O h1 h2 h3 hs;h X a w I' μ' O' h1 h2 h3 hs'
theorem Gh2.cut {H0:Ac} (G:Ac) (hH:H=H0++G) (hb:(env.all fun x=>Qr H0.length x.2)=true) (hb0:H0.all Xk=true) (hne:Nat.ble C.ne H0.length=true) : Gh2 P C env H env H0:=fun X a w I μ O _ h2 h3 hs=>by
 subst hH
 have hne':X.ne≤H0.length:=by rw [h3];exact Nat.le_of_ble_eq_true hne
 have hμt:∀ i,i<H0.length→(μ.take H0.length)[i]?=μ[i]?:=fun i hi=>by rw [List.getElem?_take,if_pos hi]
 refine ⟨I,μ.take H0.length,O,{
  prot:=hs.prot,kO:=hs.kO,kI:=hs.kI,mono:=hs.mono,os:=hs.os,tape:=hs.tape,output:=hs.output,size:=hs.size,own:=hs.own,ilt:=hs.ilt
  μlen:=by rw [List.length_take,hs.μlen];simp
  μpre:=fun i b hi hb=>by rw [hμt i (by omega)];exact hs.μpre i b hi hb
  nle:=hne'
  heap:=fun id ob ho=>?_
  klt:=hs.klt
  n0le:=hs.n0le
  envr:=fun s=>?_
  nt:=hs.nt
  dfs:=hs.dfs}⟩
 ·have hlt:=(lS.1 ho).1
  obtain ⟨bb,bs',q1,q2,q3,q4⟩:=hs.heap id ob (by rw [List.getElem?_append_left hlt];exact ho)
  refine ⟨bb,bs',by rw [hμt id hlt];exact q1,?_,q3,q4⟩
  have hnb:Xk ob=true:=List.all_eq_true.1 hb0 ob (List.mem_of_getElem? ho)
  cases ob with
  | box c =>
   obtain ⟨cl,et,n1,n2⟩:=q2
   exact ⟨cl,et,n1,n2.noBp (μ':=μ.take H0.length) hnb⟩
 ·have hp:=Pi (p:=Qr H0.length) rfl hb s
  have ht:=hs.envr s
  have plain:∀ av,get env s=av→noBp av=true→A1 av=false→TRep P env H0 a w I (μ.take H0.length) O s av:=by
   intro av hav hn hr
   rw [hav] at ht
   obtain ⟨bs,g1,g2,g3⟩:=ht.plain hr
   exact .of (g1.noBp (μ':=μ.take H0.length) hn) g2 g3
  have place:∀ (p:Pl) e xs,(∀ id off,p=.c id off→id<H0.length)→AG env (H0++G) p=.own e xs→AG env H0 p=.own e xs∧∀ v,A7 a w μ p=some v→A7 a w (μ.take H0.length) p=some v:=fun p e xs hl hp=>by
   cases p with
   | t n=>exact ⟨hp,fun v hv=>hv⟩
   | c id off =>
    have hid:=hl id off rfl
    refine ⟨?_,fun v hv=>?_⟩
    ·simp only [AG] at hp ⊢
     rw [List.getElem?_append_left hid] at hp;exact hp
    ·simp only [A7] at hv ⊢
     rw [hμt id hid];exact hv
  cases hgs:get env s with
  | bp i off =>
   rw [hgs] at hp ht
   obtain ⟨bs,g1,g2,g3⟩:=ht.plain rfl
   have hi:i<H0.length:=by simp [Qr,Nat.blt] at hp;omega
   refine .of (bs:=bs) ?_ g2 g3
   generalize a.tmps.getD s undef=v at g1
   cases g1 with
   | bp _ _ blk' hb'=>exact .bp i off blk' (by rw [hμt i hi];exact hb')
  | ref p off len =>
   rw [hgs] at hp ht
   obtain ⟨e',xs,A,n,c,g1,g2,g3,g4⟩:=ht
   obtain ⟨p1,p2⟩:=place p e' xs (fun id off h=>by subst h;simp [Qr,Nat.blt] at hp;omega) g1
   exact ⟨e',xs,A,n,c,p1,p2 _ g2,g3,g4⟩
  | ep p i k =>
   rw [hgs] at hp ht
   obtain ⟨e',xs,b,n,c,g1,g2,g3,g4,g5⟩:=ht
   obtain ⟨p1,p2⟩:=place p e' xs (fun id off h=>by subst h;simp [Qr,Nat.blt] at hp;omega) g1
   exact ⟨e',xs,b,n,c,p1,p2 _ g2,g3,g4,g5⟩
  | _ =>
   rw [hgs] at hp
   exact plain _ hgs hp rfl
end
end Go.FL
namespace Go.FL
open Go Go.Proofs
def QH (xs:List RT) : List (List DV):=(List.range xs.length).map fun k=>match xs[xs.length-1-k]? with
 | some x=>[.i .i64 ((xs.length-1-k:Nat):Int),.ag [.b x.1,.sl (L x.2.1),.sl (L x.2.2)]]
 | none=>[]
theorem OP {xs:List RT} {k:Nat} {x:RT} (hk:k<xs.length) (h:xs[xs.length-1-k]?=some x) : (QH xs)[k]?=some [.i .i64 ((xs.length-1-k:Nat) : Int),.ag [.b x.1,.sl (L x.2.1),.sl (L x.2.2)]]:=by simp [QH,hk,h]
theorem Im (xs:List RT) : (QH xs).length=xs.length:=by simp [QH]
theorem UM (xs:List RT) : ∀ ds∈QH xs,ds.length=2:=fun ds hd=>by
 obtain ⟨k,hk⟩:=List.getElem?_of_mem hd
 have hkl:k<xs.length:=by rw [← Im];exact (lS.1 hk).1
 rw [OP hkl (lG (by omega))] at hk
 cases hk;rfl
theorem Yu (xs:List DV) : Fn Tryz.prog 102 [.sl xs] (.d (.fn 158 [] [.ptr [.sl xs]])):=by
 refine Fn.of (rs:=[.tmp 2]) (nt:=4) Tryz.func102 rfl rfl rfl (by simp) rfl ?_;refine .seq ?_;refine .region ?_;refine bxd ?_;refine asd ?_;refine rn ?_;refine .seq ?_;refine .region ?_;refine mkf ?_;refine asd ?_;refine rn ?_;refine .ret ?_
 exact ⟨rfl,rfl⟩
set_option maxRecDepth 10000 in
theorem YF {xs:List RT} (hl:xs.length≤9223372036854775806) {m:Nat} (hm:xs.length≤m) : ItG Tryz.prog 158 [.ptr [.sl (RVs xs)]] (QH xs) m:=by
 have hyl:=Im xs
 refine ItG.of Tryz.func158 rfl rfl (nt:=19) rfl (by simp) fun lp J hJ hR=>?_;refine .seq ?_;refine .lift ?_;refine .region ?_;refine vk (Am PH) ?_;refine vk (A8 (DP _) (Nr _) R5) ?_;refine vk (vbi) ?_;refine asd ?_;refine .nil ?_
 show AWJ _ _ _ _ _ _ _ _ _
 refine .block ?_;refine ALJ.loop ?_;refine ALJ.gh (Gh.keep [0,1,3] rfl) ?_
 rw [show DV.i .i64 (IntKind.wrap .i64 (((List.length xs:Nat):Int)-1))=.i .i64 (((List.length xs:Nat):Int)-1-((0:Nat):Int)) from by
  congr 1;simp only [IntKind.wrap,IntKind.bits,IntKind.signed];simp;omega]
 refine ALJ.ind (σ:=Nat) (m:=fun i=>xs.length-i) (e:=fun i=>[(0,.d (.yl lp)),(1,.d (.ptr [.sl (RVs xs)])),(3,.d (.i .i64 (((List.length xs:Nat):Int)-1-((i:Nat):Int))))]) (h:=fun _=>[]) (r:=fun i=>i) (I:=fun i=>i≤xs.length) ?_ 0 (Nat.zero_le _)
 rintro i hi ih
 refine .seq ?_;refine .seq ?_;refine .lift ?_;refine .region ?_;refine vk (Ae) ?_;refine vk (vbi) ?_;refine .nil ?_
 show AWJ _ _ _ _ _ _ _ _ _
 by_cases hc:(0:Int)≤((List.length xs:Nat):Int)-1-((i:Nat):Int)
 ·refine .cond (x:=true) (by show AV.d (.b (decide _))=_;rw [dT hc]) (fun _=>?_) (fun h=>by cases h)
  have hlt:i<xs.length:=by omega
  have hj:xs.length-1-i<xs.length:=by omega
  have hij:((List.length xs:Nat):Int)-1-((i:Nat):Int)=((xs.length-1-i:Nat):Int):=by omega
  have hxi:=lG hj
  generalize xs[xs.length-1-i]=x at hxi
  refine .skip ?_
  show AWJ _ _ _ _ _ _ _ _ _
  refine .seq ?_;refine .block ?_;refine .seq ?_;refine .region ?_;refine vkJ (Ae) ?_;refine vkJ (Ae) ?_;refine vkJ (Am PH) ?_;refine vkJ (Ae) ?_;refine vkJ (vix (xs.length-1-i) hij (Pc hxi) rfl Vg) ?_;refine vkJ (Aq A4 AE) ?_
  refine yld (hR i [.i .i64 ((xs.length-1-i:Nat):Int),.ag [.b x.1,.sl (L x.2.1),.sl (L x.2.2)]] (OP hlt hxi) (by omega)) hJ ?_ (ha:=by show some _=some _;rw [hij];rfl)
  refine vkJ (vnt) ?_;refine .nil ?_
  show AWJ _ _ _ _ _ _ _ _ _
  refine .cond (x:=false) (by show AV.d (.b (!decide _))=_;rw [dT (by omega:i<m)];rfl) (fun h=>by cases h) (fun _=>?_)
  refine .skip ?_
  show AWJ _ _ _ _ _ _ _ _ _
  refine .lift ?_;refine .region ?_;refine vk (Ae) ?_;refine vk (vbi) ?_;refine asd ?_;refine .nil ?_
  show ALJ _ _ _ _ _ _ _ _ _
  have hw:IntKind.wrap .i64 (((List.length xs:Nat):Int)-1-((i:Nat):Int)-1)=((List.length xs:Nat):Int)-1-((i+1:Nat):Int):=by simp only [IntKind.wrap,IntKind.bits,IntKind.signed];simp;omega
  rw [hw]
  refine ALJ.gh (Gh.keep [0,1,3] rfl) ?_
  exact ih (i+1) hlt (by omega)
 ·refine .cond (x:=false) (by show AV.d (.b (decide _))=_;rw [dF hc]) (fun h=>by cases h) (fun _=>?_)
  refine .exit ?_
  exact ⟨.inl rfl,by rw [hyl];omega⟩
end Go.FL
namespace Go.FL
open Go Go.RowKit
def cell1 (P:Program) (env:Env) (t ty:Nat) (d:DV) : Prop:=(get env t=.d (.ptr [d])∨get env t=.nb [d])∧B8 P ty=some false
def XX (P:Program) (env:Env) (r:AV) : List ResultVar→Prop
 | [.cell x tx,.cell y ty]=>∃ cs d,cellD P env x tx cs∧cell1 P env y ty d∧r=.tup [.d (.ag cs),.d d]
 | _=>False
def YI (P:Program) (rs:List ResultVar) (r:AV) : Exit→Env→Ac→Prop:=fun e env _=>(e=.normal∨e=.ret)∧XX P env r rs
section
variable {P:Program} {X:Snap} {env:Env} {H:Ac} {a:Act} {w:World} {I:Nat→Prop} {μ:List Nat} {O:Nat→Option Loc}
theorem Sim.cell1 (hs:Sim P X env H a w I μ O) {t ty:Nat} {d:DV} (h:Go.FL.cell1 P env t ty d) : ∃ p v,a.tmps.getD t undef=.pointer (some p)∧(loadVar ty p).run P w=.ok v w∧Rep w I d v:=by
 obtain ⟨h1,h2⟩:=h
 rcases h1 with h1|h1
 ·have:=hs.envr t
  rw [h1] at this
  obtain ⟨bs,g1,_⟩:=this.plain rfl
  generalize a.tmps.getD t undef=u at g1
  cases g1 with
  | d g1 =>
   cases g1 with
   | ptr _ b off vs k1 k2 k3 =>
    cases k3 with
    | @cons _ v _ _ hd t =>
     cases t
     exact ⟨_,v,rfl,Bn h2 (by have:=k2 0 v rfl;simpa using this),hd⟩
 ·obtain ⟨blk,cells,e,g1,g2,g3,_⟩:=hs.nb_inv h1
  generalize hc:cells.toList=l at g3
  cases g3 with
  | @cons _ v _ _ hd t =>
   cases t
   refine ⟨_,v,g1,Bn h2 ?_,hd⟩
   have:cells[0]?=some v:=by rw [← Array.getElem?_toList,hc];rfl
   simp [World.cell?,g2,this]
theorem Sim.resultsB (hs:Sim P X env H a w I μ O) {fn:Func} {rs:List ResultVar} (hrs:fn.results=rs.toArray) {r:AV} (h:XX P env r rs) :
  ∃ v bs,(Go.results fn a.tmps).run P w=.ok v w∧ARep P w I μ r v bs∧bs.Nodup∧∀ b∈bs,∃ l,O b=some l:=by
 unfold XX at h
 split at h
 ·obtain ⟨cs,d,kx,ky,rfl⟩:=h
  obtain ⟨px,wx,ex,fx,rx⟩:=hs.cellD kx
  obtain ⟨py,wy,ey,fy,ry⟩:=hs.cell1 ky
  exact ⟨_,[],Oq (by rw [hrs]) (by simp [HC,ex,asAddr,fx]) (by simp [HC,ey,asAddr,fy]),.tup (ARepAll.cons (b1:=[]) (b2:=[]) (.d rx) (ARepAll.cons (b1:=[]) (b2:=[]) (.d ry) .nil)),nN,by simp⟩
 ·exact h.elim
theorem Fn.ofMB {f:FuncId} {fn:Func} {c:Code} {args:List DV} {r:AV} {rs:List ResultVar} {nt:Nat} (hf:P.funcs[f]?=some fn) (hb:fn.body=some c) (hrs:fn.results=rs.toArray) (hnt:fn.ntmps=nt) (hn:args.length≤nt) (hbp:noBp r=true)
  (h:AWM P {nt:=(0,nt),n0:=0,ne:=0} c (YI P rs r) (DC 0 args) []):Fn P f args r:=by
 intro w I vs hI ha
 refine callsIn_of_wp_marks hf hb trivial ?_
 have hlen:=ha.length
 let X:Snap:={w:=w,I:=I,K:=fun b=>b<w.heap.size,n0:=0,ne:=0,μ:=[],nt:=(0,nt),dfs:=[]}
 let a:Act:={tmps:=vs.toArray++Array.replicate (fn.ntmps-vs.toArray.size) undef,defers:=[]}
 have hs:Sim P X (DC 0 args) [] a w I [] (fun _=>none):=by
  refine ⟨{prot:=fun _ _=>rfl,kO:=fun _ _=>rfl,kI:=fun _ _ h=>h,mono:=fun _ h=>h,os:=rfl,tape:=rfl,output:=rfl,size:=Nat.le_refl _,own:=(fun b l h=>by simp at h),ilt:=hI,μlen:=rfl,μpre:=(fun i b hi _=>by simp [X] at hi),nle:=(by simp [X]),heap:=(fun id o h=>by simp at h),klt:=fun b hb=>hb,n0le:=(by simp [X])},fun t=>?_,?_,rfl,fun t h=>absurd h (by simp [X])⟩
  ·rcases EV (tmps:=a.tmps) (k:=0) ha (fun j v hj=>by
    have hjl:j<vs.length:=(lS.1 hj).1
    have e2:(vs.toArray++Array.replicate (fn.ntmps-vs.length) undef)[j]?=some v:=by
     rw [Array.getElem?_append_left (by simpa using hjl)];simpa using hj
    simp [a,e2]) t with h0|⟨d,h0,h1⟩
   ·rw [h0];exact .un
   ·rw [h0];exact .of (bs:=[]) (.d h1) nN (by simp)
  ·simp [a,X,hnt];omega
 have hw:=h X a w I [] (fun _=>none) rfl rfl rfl hs
 refine wpIn_mono hw fun e a' w' hp=>?_
 obtain ⟨env',H',I',μ',O',ms,s,⟨he,q⟩,hm⟩:=hp
 have hdf:a'.defers=ms:=by rw [s.dfs.1];simp [X]
 have fin:LeavesInM (om none) 0 P fn a'.tmps (fun e w'=>∃ v I' bs,e=.returned v∧Below w.heap.size w w'∧(∀ b,I b→I' b) ∧
   (∀ b,I' b→b<w'.heap.size∧(b<w.heap.size→I b))∧ARep P w' I' [] r v bs∧bs.Nodup∧∀ b∈bs,w.heap.size≤b∧b<w'.heap.size∧¬I' b) a'.defers .returning w':=by
  rw [hdf]
  refine Kk (fun w4 s4=>?_) ms w' s hm
  obtain ⟨v,bs,h1,h2,h3,h4⟩:=s4.resultsB hrs q
  refine ⟨v,h1,v,I',bs,rfl,⟨s4.os,s4.tape,s4.output,s4.size,fun b hb=>s4.prot b hb⟩,s4.mono,fun b hi=>⟨s4.ilt b hi,fun hb=>s4.kI b hb hi⟩,h2.noBp hbp,h3,fun b hm=>?_⟩
  obtain ⟨l,hl⟩:=h4 b hm
  refine ⟨?_,(s4.own b l hl).1,(s4.own b l hl).2⟩
  rcases Nat.lt_or_ge b w.heap.size with hlt|hge
  ·have:=s4.kO b hlt;rw [this] at hl;cases hl
  ·exact hge
 rcases he with rfl|rfl<;>exact fin
end
end Go.FL
