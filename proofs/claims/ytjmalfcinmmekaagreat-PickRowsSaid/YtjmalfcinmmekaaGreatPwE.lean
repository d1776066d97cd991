/-
  Part 5 of the base of the proofs: a logic of our own over the calculus, the contracts of the functions
-/
import Derived.Test.YtjmalfcinmmekaaGreatPwD
set_option linter.unusedVariables false
namespace Go.FL
open Go Go.RowKit
def M1 : AV→Bool
 | .ref (.c _ _) _ _=>false
 | .ep (.c _ _) _ _=>false
 | av=>noBp av
section
variable {P:Program} {C:Cx} {X:Snap} {o:Oper} {ops:Array Oper} {Q:Exit→Env→Ad→Prop} {env env':Env} {H H':Ad} {a:Act} {w w':World} {I I':Nat→Prop} {μ μ':List Nat} {O O':Nat→Option Loc}
 {K:Env→Ad→Prop} {k:Nat} {l:List Oper}
theorem Pc {p:AV→Bool} (hu:p .un=true) : ∀ {env:Env},(env.all fun x=>p x.2)=true→∀ t,p (get env t)=true
 | [],_,_=>hu
 | (s,v)::r,h,t=>by
  simp only [List.all_cons,Bool.and_eq_true] at h
  simp only [get]
  split
  ·exact h.1
  ·exact Pc hu h.2 t
theorem Gh2.drop (hb:(env.all fun x=>M1 x.2)=true) (hne:C.ne=0) : Gh2 P C env H env []:=fun X a w I μ O _ h2 h3 hs=>by
 have hne':X.ne=0:=h3.trans hne
 refine ⟨I,[],O,{
  prot:=hs.prot,kO:=hs.kO,kI:=hs.kI,mono:=hs.mono,os:=hs.os,tape:=hs.tape,output:=hs.output,size:=hs.size,own:=hs.own,ilt:=hs.ilt
  μlen:=rfl
  μpre:=fun i b hi _=>by omega
  nle:=by simp [hne']
  heap:=fun id ob ho=>by simp at ho
  klt:=hs.klt
  n0le:=hs.n0le
  envr:=fun s=>?_
  nt:=hs.nt
  dfs:=hs.dfs}⟩
 have hp:=Pc (p:=M1) rfl hb s
 have ht:=hs.envr s
 have plain:∀ av,get env s=av→noBp av=true→A5 av=false→TRep P env [] a w I [] O s av:=by
  intro av hav hn hr
  rw [hav] at ht
  obtain ⟨bs,g1,g2,g3⟩:=ht.plain hr
  exact .of (g1.noBp (μ':=[]) hn) g2 g3
 cases hgs:get env s with
 | ref p off len =>
  rw [hgs] at hp
  cases p with
  | c _ _=>simp [M1] at hp
  | t r =>
   rw [hgs] at ht
   obtain ⟨e',xs,A,n,c,g1,g2,g3,g4⟩:=ht
   exact ⟨e',xs,A,n,c,g1,g2,g3,g4⟩
 | ep p i k =>
  rw [hgs] at hp
  cases p with
  | c _ _=>simp [M1] at hp
  | t r =>
   rw [hgs] at ht
   obtain ⟨e',xs,b,n,c,g1,g2,g3,g4,g5⟩:=ht
   exact ⟨e',xs,b,n,c,g1,g2,g3,g4,g5⟩
 | _ =>
  rw [hgs] at hp
  exact plain _ hgs hp rfl
theorem LX {c:Call} {f t s t0:Nat} {avs:List AV} {r:AV} {xa:List Operand} {e:TypeId} {xs:List DV} (xs':List DV) (h:RL P C ops Q (k+1) l ((t,r)::(t0,.own e xs')::(s,.un)::env) []) (hfn:FnG P f (.own e xs::avs) H r [.own e xs'] H)
  (hcall:∀ args w,(callFunc f args).run P w=.ok (.enter f args) w) (hg:grd ops env o true=true:=by rfl) (ho:o.op=.call c:=by rfl) (hc:c.callee=.value (.func f):=by rfl) (hx:c.args.toList=.tmp s::xa:=by rfl)
  (hv:get env s=.ref (.t t0) 0 xs.length:=by rfl) (hp:get env t0=.own e xs:=by rfl) (ha:argsA ((t0,.un)::env) xa=some avs:=by rfl) (hcr:BQ env=false:=by rfl) (hr:Dr t0 ((s,.un)::env.filter fun x=>x.1 != s)=false:=by rfl) (hd:o.dst=some t:=by rfl)
  (hf:Am (get env t)=false:=by rfl) (hst:s≠t0:=by decide) (htt:t≠t0:=by decide) (ht:okT C.nt t:=by rfl) (h0:C.n0=0:=by rfl) (hne:C.ne=0:=by rfl) (hb:(((t,r)::(t0,.own e xs')::(s,.un)::env).all fun x=>M1 x.2)=true:=by rfl):RL P C ops Q k (o::l) env H :=
 YO xs' (fun _=>RL.gh2 (Gh2.drop hb hne) h) hfn hcall hg ho hc hx hv hp ha hcr hr hd hf hst htt ht h0
theorem Ys {e:TypeId} {xs:List DV} (hH:H=[]) (h0:get env 0=.own e xs) : Yk [] (.tup []) [.own e xs] [] .ret env H :=
 ⟨⟨[],by rw [hH];rfl⟩,rfl,fun i c hi=>by
  cases i with
  | zero=>simp at hi;subst hi;exact ⟨h0,rfl,by simp⟩
  | succ i=>simp at hi⟩
theorem M7 {e:TypeId} {xs:List DV} (hH:H=[]) (h0:get env 0=.own e xs) : Yk [] (.tup []) [.own e xs] [] .normal env H:=Ys (env:=env) hH h0
end
end Go.FL
namespace Go.FL
open Go Go.RowKit
section
variable {P:Program} {C:Cx} {X:Snap} {o:Oper} {ops:Array Oper} {Q:Exit→Env→Ad→Prop} {env env':Env} {H H':Ad} {a:Act} {w w':World} {I I':Nat→Prop} {μ μ':List Nat} {O O':Nat→Option Loc}
 {K:Env→Ad→Prop} {k:Nat} {l:List Oper}
theorem UM {p:Pl} {e:TypeId} {xs:List DV} (hp:AH env H p=.own e xs) (v:AV) : AH (Gd p v env) (Hm p v H) p=v:=by
 cases p with
 | t n=>simp [AH,Gd,get]
 | c id off =>
  simp only [AH] at hp
  cases hH:H[id]? with
  | none=>rw [hH] at hp;cases hp
  | some ob =>
   cases ob with
   | box cs =>
    rw [hH] at hp
    replace hp:cs.getD off .un=.own e xs:=hp
    have hlt:off<cs.length:=by
     rw [lD] at hp
     cases hx:cs[off]? with
     | none=>simp [hx] at hp
     | some y=>exact (lS.1 hx).1
    have hlt':id<H.length:=(lS.1 hH).1
    have h2:Hm (.c id off) v H=H.set id (.box (cs.set off v)):=by simp [Hm,Ei,hH]
    have h3:(H.set id (.box (cs.set off v)))[id]?=some (.box (cs.set off v)):=by simp [hlt']
    rw [h2]
    simp only [AH,h3]
    show (cs.set off v).getD off .un=v
    rw [lD,List.getElem?_set_self hlt];rfl
theorem Tr (p:Pl) (v v':AV) (H:Ad) : Hm p v (Hm p v' H)=Hm p v H:=by
 cases p with
 | t n=>rfl
 | c id off =>
  simp only [Hm,Ei]
  cases hH:H[id]? with
  | none=>simp [hH]
  | some ob =>
   cases ob with
   | box cs =>
    have hlt':id<H.length:=(lS.1 hH).1
    simp [hlt']
theorem TE (p:Pl) (v v':AV) (env:Env) (s:Nat) : get (Gd p v env) s=get (Gd p v (Gd p v' env)) s:=by
 cases p with
 | t n =>
  simp only [Gd,get]
  split<;>rfl
 | c id off=>rfl
theorem Wf {p:Pl} {v:AV} (hp:AH env H p=v) (hv:v≠.un) : Hm p v H=H:=by
 cases p with
 | t n=>rfl
 | c id off =>
  simp only [AH] at hp
  cases hH:H[id]? with
  | none=>rw [hH] at hp;exact absurd hp.symm hv
  | some ob =>
   cases ob with
   | box cs =>
    rw [hH] at hp
    replace hp:cs.getD off .un=v:=hp
    simp only [Hm,Ei,hH]
    have:cs.set off v=cs:=by
     refine List.set_same _ _ ?_
     rw [lD] at hp
     cases hx:cs[off]? with
     | none=>simp [hx] at hp;exact absurd hp.symm hv
     | some y=>simp [hx] at hp;rw [hp]
    rw [this,List.set_same _ _ hH]
theorem P5 {p:Pl} {v:AV} (hp:AH env H p=v) (s:Nat) : get (Gd p v env) s=get env s:=by
 cases p with
 | t n =>
  simp only [Gd,get]
  split
  ·rename_i h;subst h;exact hp.symm
  ·rfl
 | c id off=>rfl
theorem Sim.storeA {p:Pl} {i r:Nat} {e:TypeId} {addr:Addr} (ha:a.tmps.getD r undef=.pointer (some addr)) (hn:∀ id off,p=.c id off→X.n0≤id) : ∀ (us:List Value) (k:Nat) (ds zs:List DV) (env:Env) (H:Ad) (w:World) (xs:List DV),Sim P X env H a w I μ O →
  AH env H p=.own e xs→get env r=.ep p i 0→xs[i]?=some (.ag zs)→zs.length=Ay P e→k+us.length≤zs.length→RepAll w I ds us→(∀ u∈us,u.oneCell'=true) →
  ∃ w',(storeCells addr us k).run P w=.ok () w'∧Sim P X (Gd p (.own e (xs.set i (.ag (zs.take k++ds++zs.drop (k+us.length))))) env) (Hm p (.own e (xs.set i (.ag (zs.take k++ds++zs.drop (k+us.length))))) H) a w' I μ O
 | [],k,ds,zs,env,H,w,xs,hs,hp,hv,hx,hl,hk,hr,h1=>by
  cases hr
  have e1:xs.set i (.ag (zs.take k++[]++zs.drop (k+([]:List Value).length)))=xs:=by
   rw [List.append_nil,List.length_nil,Nat.add_zero,List.take_append_drop,List.set_same _ _ hx]
  rw [e1,Wf hp (by simp)]
  exact ⟨w,rfl,hs.same fun s=>P5 hp s⟩
 | u::us,k,ds,zs,env,H,w,xs,hs,hp,hv,hx,hl,hk,hr,h1=>by
  cases hr with
  | @cons d _ ds _ hd ht =>
   rw [List.length_cons] at hk
   have he0:Kz P env H a w μ p i 0 (.pointer (some addr)):=by
    have:=hs.envr r
    rw [hv] at this
    rwa [← ha]
   obtain ⟨e',ys,b,n,c,g1,g2,g3,g4,g5⟩:=he0
   have hye:AV.own e xs=.own e' ys:=hp.symm.trans g1
   cases hye
   simp only [Value.pointer.injEq,Option.some.injEq,Nat.add_zero] at g5
   subst g5
   have hek:Kz P env H a w μ p i k (.pointer (some ⟨b,i * Ay P e+k,none⟩)):=⟨e,xs,b,n,c,g1,g2,g3,by omega,rfl⟩
   have hu:=h1 u (by simp)
   obtain ⟨b',off,q1,⟨u0,q2⟩,q3,q4⟩:=hs.storeE hp hn hek (x':=.ag (zs.set k d)) (x0:=d) hx rfl hd hu
   simp only [Value.pointer.injEq,Option.some.injEq,Addr.mk.injEq,and_true] at q1
   obtain ⟨rfl,rfl⟩:=q1
   have hIb:¬I b:=by
    obtain ⟨v,bs,m1,m2,m3,m4⟩:=hs.at_place hp
    rw [g2] at m1;cases m1
    have hc0:¬c=0:=by have:=Es m2;omega
    have hb:b∈bs:=by rw [m3];simp [BA,hc0]
    obtain ⟨k1,k2,k3⟩:=m4 b hb
    cases p with
    | t n=>exact (hs.own b _ (k2 n rfl)).2
    | c id off=>exact (hs.own b _ ((k3 id off rfl).1 (hn id off rfl))).2
   have hst:(store ((⟨b,i * Ay P e,none⟩:Addr).add k) u).run P w=.ok () (w.setCell ⟨b,i * Ay P e+k,none⟩ u):=by
    have hadd:(⟨b,i * Ay P e,none⟩:Addr).add k=⟨b,i * Ay P e+k,none⟩:=by unfold Addr.add;split<;>simp_all
    rw [hadd,run_store P w _ u _ hu,q2]
    simp [q3]
   have hkl:k<zs.length:=by omega
   have hset:(xs.set i (.ag (zs.set k d)))[i]?=some (.ag (zs.set k d)):=by
    have:i<xs.length:=(lS.1 hx).1
    simp [this]
   have hv':get (Gd p (.own e (xs.set i (.ag (zs.set k d)))) env) r=.ep p i 0:=by
    cases p with
    | t n =>
     have:n≠r:=fun h=>by
      subst h
      simp only [AH] at hp
      rw [hp] at hv;cases hv
     simp only [Gd,get,if_neg this];exact hv
    | c id off=>exact hv
   obtain ⟨w2,z1,z2⟩:=Sim.storeA ha hn us (k+1) ds (zs.set k d) _ _ _ _ q4 (UM hp _) hv' hset (by simpa using hl) (by simp;omega)
    (ht.keep (fun b' hb'=>heap_setCell_other w ⟨b,i * Ay P e+k,none⟩ b' u fun e=>hIb (by rw [← (show b'=b from e)];exact hb')) fun _ h=>h) fun u hu=>h1 u (by simp [hu])
   refine ⟨w2,?_,?_⟩
   ·simp only [storeCells,Sem.run_bind,hst,Result.andThen_ok,z1]
   ·have e1:(zs.set k d).take (k+1)++ds++(zs.set k d).drop (k+1+us.length)=zs.take k++d::ds++zs.drop (k+(u::us).length):=by
     have t1:(zs.set k d).take (k+1)=zs.take k++[d]:=by
      rw [List.take_add_one,List.getElem?_set_self (by omega),List.take_set_of_le (Nat.le_refl k)];rfl
     have t2:(zs.set k d).drop (k+1+us.length)=zs.drop (k+1+us.length):=by
      rw [List.drop_set_of_lt (by omega)]
     rw [t1,t2,List.length_cons,show k+(us.length+1)=k+1+us.length by omega];simp
    rw [e1,List.set_set,Tr] at z2
    exact z2.same fun s=>TE _ _ _ _ _
theorem YH {α:Type} {F:List α→List DV} {ds zs:List DV} {us:List α} {n m:Nat} {x:α} {y:Operand} {r ty e:Nat} {p:Pl} (hset:(F us).set n (.ag ds)=F (us.set n x)) (hm:m=n) (hx:(F us)[0+n]?=some (.ag zs)) (hl:zs.length=ds.length)
  (h:RL P C ops Q (k+1) l (Gd p (.own e (F (us.set m x))) env) (Hm p (.own e (F (us.set m x))) H)) (hsz:Ay P ty=ds.length) (hsz2:Ay P e=ds.length) (h0:0<ds.length)
  (hg:grd ops env o true=true:=by rfl) (ho:o.op=.store ty (.tmp r) y:=by rfl) (hv:get env r=.ep p (0+n) 0:=by rfl) (hp:AH env H p=.own e (F us):=by rfl) (hy:lk env y=.d (.ag ds):=by rfl) (h1:ds.all DV.leaf=true:=by rfl) (hd:o.dst=none:=by rfl)
  (hn:∀ id off,p=.c id off→C.n0≤id:=by (intro _ _ h;cases h<;>decide)):RL P C ops Q k (o::l) env H:=by
 subst hm
 refine .go hg (.done (by simp [ho]) hd (fun X a w I μ O _ g2 _ hs=>?_) h)
 have hr:=hs.deep (x:=y) (v:=.ag ds) (by rw [hy];rfl)
 generalize hev:a.eval y=u at hr
 cases hr with
 | ag _ vs hr =>
  have he:=hs.envr r
  rw [hv] at he
  obtain ⟨e',ys,b,n',c,g1,g2',g3,g4,g5⟩:=he
  have hye:AV.own e (F us)=.own e' ys:=hp.symm.trans g1
  cases hye
  have hvl:vs.length=ds.length:=hr.length.symm
  obtain ⟨w',z1,z2⟩:=Sim.storeA g5 (fun id off h=>by rw [g2];exact hn id off h) vs 0 ds zs env H w (F us) hs hp hv hx (by rw [hl,hsz2]) (by omega) hr (hr.one h1)
  refine ⟨w',I,μ,O,?_,?_⟩
  ·have hx':a.eval (.tmp r)=.pointer (some ⟨b,(0+m) * Ay P e+0,none⟩):=g5
   have hs':(sizeOf ty).run P w=.ok vs.length w:=by rw [hvl,← hsz];exact GW (by omega)
   have z1':(storeCells ⟨b,m * Ay P e,none⟩ vs).run P w=.ok () w':=by simpa using z1
   have hsv:(storeVar ty ⟨b,(0+m) * Ay P e+0,none⟩ (.agg vs.toArray)).run P w=.ok () w':=by
    simp [storeVar,hs',Value.cells,z1']
   simp only [execOp,ho,hx',hev,Instr.storeAt,Instr.sureAddr,Sem.run_bind,Sem.run_pure,Result.andThen_ok,hsv]
  ·have e1:zs.take 0++ds++zs.drop (0+vs.length)=ds:=by
    rw [Nat.zero_add,List.drop_of_length_le (by omega)];simp
   rw [e1,Nat.zero_add,hset] at z2
   exact z2
end
end Go.FL
namespace Go.FL
open Go Go.RowKit
section
variable {P:Program} {C:Cx} {X:Snap} {o:Oper} {ops:Array Oper} {Q:Exit→Env→Ad→Prop} {env env' envi:Env} {H H' H1:Ad} {a:Act} {w w':World} {I I':Nat→Prop} {μ μ':List Nat} {O O':Nat→Option Loc}
 {K:Env→Ad→Prop} {k:Nat} {l:List Oper} {av:AV}
def Mf (ops:Array Oper) (m:Nat) : Bool :=
 ((List.range ops.size).all fun i=>match ops[i]? with
  | some o=>o.after.all (fun e=>!Region.binds .any e||decide (e.on<i))&&(match o.op with|.select ..=>false|_=>true) &&
   ((List.range m).all fun j=>match ops[j]? with
     | some oj=>match oj.dst with
      | some t=>!(o.looksAt ops).contains t||(decide (j<i)&&EU ops i j)
      | none=>false
     | none=>false)&&(decide (i<m)||o.guard.isNone)
  | none=>false)&&decide (m≤ops.size)
theorem Mz {m:Nat} (h:Mf ops m=true) : m≤ops.size∧∀ (i:Nat) o,ops[i]?=some o →
  (∀ e∈o.after,Region.binds .any e=true→e.on<i)∧(∀ j,j<m→∃ oj t,ops[j]?=some oj∧oj.dst=some t∧(t∈o.looksAt ops→j<i∧EU ops i j=true))∧(m≤i→o.guard=none):=by
 unfold Mf at h
 simp only [Bool.and_eq_true,decide_eq_true_eq] at h
 obtain ⟨h,hm⟩:=h
 refine ⟨hm,fun i o ho=>?_⟩
 have hi:i<ops.size:=(Array.getElem?_eq_some_iff.1 ho).1
 have:=List.all_eq_true.1 h i (List.mem_range.2 hi)
 rw [ho] at this
 simp only [Bool.and_eq_true] at this
 obtain ⟨⟨⟨h1,_⟩,h3⟩,h4⟩:=this
 refine ⟨fun e he hb=>?_,fun j hj=>?_,fun him=>?_⟩
 ·obtain ⟨k,hk,rfl⟩:=Array.mem_iff_getElem.1 he
  have:=Array.all_eq_true.1 h1 k hk
  rw [hb] at this
  simpa using this
 ·have:=List.all_eq_true.1 h3 j (List.mem_range.2 hj)
  split at this
  ·rename_i oj hoj
   split at this
   ·rename_i t ht
    refine ⟨oj,t,hoj,ht,fun hm=>?_⟩
    have hc:(o.looksAt ops).contains t=true:=List.contains_iff_mem.2 hm
    rw [hc] at this
    simpa using this
   ·cases this
  ·cases this
 ·rw [Bool.or_eq_true] at h4
  rcases h4 with h4|h4
  ·have:=of_decide_eq_true h4;omega
  ·simpa using h4
theorem YE {m:Nat} {env0:Env} {tv:List (Nat×AV)} (hok:Mf ops m=true) (hlen:tv.length=m) (hone:∀ i,i<m→∃ o t v,ops[i]?=some o∧tv[i]?=some (t,v)∧NB P C ops H env0 (tv.take i).reverse o t v)
  (hdist:∀ (i j t:Nat) v u,tv[i]?=some (t,v)→tv[j]?=some (t,u)→i=j)
  (hst:∀ i o,m≤i→ops[i]?=some o→∀ e,(∀ (j t:Nat) v,EU ops i j=true→tv[j]?=some (t,v)→get e t=v)→(∀ t,(∀ (j:Nat) v,tv[j]?≠some (t,v))→get e t=get env0 t)→OpOK P C o e H fun e' H'=>(∀ t,get e' t=get e t)∧H'=H)
  (hfin:RL P C ops Q ops.size [] (tv.reverse++env0) H) (n1:X.nt=C.nt) (n2:X.n0=C.n0) (n3:X.ne=C.ne):∀ (fuel:Nat) (L:Array Bool) (a:Act) (w:World) (I:Nat→Prop) (μ:List Nat) (O:Nat→Option Loc),L.size=ops.size→Rc ops L →
   (List.range ops.size).countP (fun i=>!L.getD i false)≤fuel→Sim P X (Dl tv env0 L) H a w I μ O→wpAnyIn (om C.ro) 0 P .any ops (Post P X Q) fuel L a w:=by
 obtain ⟨hm,hat⟩:=Mz hok
 have fin:∀ (fuel:Nat) (L:Array Bool) (a:Act) (w:World) (I:Nat→Prop) (μ:List Nat) (O:Nat→Option Loc),L.size=ops.size→(∀ j,j<ops.size→L.getD j false=true) →
   Sim P X (Dl tv env0 L) H a w I μ O→wpAnyIn (om C.ro) 0 P .any ops (Post P X Q) fuel L a w:=by
  intro fuel L a w I μ O hL hall hs
  refine wpAnyIn_done ?_ ?_ fuel
  ·apply List.eq_nil_iff_forall_not_mem.2
   intro j hj
   obtain ⟨h1,o,ho,_⟩:=mem_ready.1 hj
   have hlt:=(Array.getElem?_eq_some_iff.1 ho).1
   rw [B7 (by omega),hall j hlt] at h1;cases h1
  ·refine hfin (by simp) X a w I μ O n1 n2 n3 (hs.same (env':=tv.reverse++env0) fun t=>?_)
   by_cases hex:∃ (i:Nat) (v:AV),tv[i]?=some (t,v)
   ·obtain ⟨i,v,hi⟩:=hex
    rw [BK hdist (hall i (by have:=(lS.1 hi).1;omega)) hi]
    have hmem:(t,v)∈tv.reverse:=List.mem_reverse.2 (List.mem_of_getElem? hi)
    rw [Bk,if_pos (List.contains_iff_mem.2 (List.mem_map_of_mem (f:=(·.1)) hmem))]
    refine D5 hmem fun u hu=>?_
    obtain ⟨j,hj⟩:=List.getElem?_of_mem (List.mem_reverse.1 hu)
    have:=hdist i j t v u hi hj
    subst this
    rw [hi] at hj;simp only [Option.some.injEq,Prod.mk.injEq,true_and] at hj;exact hj.symm
   ·rw [Bt fun i v _ hi=>hex ⟨i,v,hi⟩,Bk,if_neg]
    intro hc
    obtain ⟨x,hx,rfl⟩:=List.mem_map.1 (List.contains_iff_mem.1 hc)
    obtain ⟨i,hi⟩:=List.getElem?_of_mem (List.mem_reverse.1 hx)
    exact hex ⟨i,x.2,hi⟩
 intro fuel
 induction fuel with
 | zero =>
  intro L a w I μ O hL hD hf hs
  refine fin 0 L a w I μ O hL (fun j hj=>?_) hs
  cases hv:L.getD j false with
  | true=>rfl
  | false =>
   have:0<(List.range ops.size).countP (fun i=>!L.getD i false):=List.countP_pos_iff.2 ⟨j,List.mem_range.2 hj,by rw [hv];rfl⟩
   omega
 | succ fuel ih =>
  intro L a w I μ O hL hD hf hs
  by_cases hall:∀ j,j<ops.size→L.getD j false=true
  ·exact fin _ L a w I μ O hL hall hs
  obtain ⟨j0,⟨hj0,hj1⟩,hmin⟩:∃ j,(j<ops.size∧L.getD j false=false)∧∀ k,k<j→L.getD k false=true:=by
   have hex:∃ j,j<ops.size∧L.getD j false=false:=by
    apply Classical.byContradiction
    intro hno
    refine hall fun j hj=>?_
    cases hv:L.getD j false with
    | true=>rfl
    | false=>exact absurd ⟨j,hj,hv⟩ hno
   obtain ⟨j,hj⟩:=hex
   induction j using Nat.strongRecOn with
   | ind j ihj =>
    by_cases hk:∃ k,k<j∧L.getD k false=false
    ·obtain ⟨k,hk1,hk2⟩:=hk
     exact ihj k hk1 ⟨by omega,hk2⟩
    ·refine ⟨j,hj,fun k hk1=>?_⟩
     cases hv:L.getD k false with
     | true=>rfl
     | false=>exact absurd ⟨k,hk1,hv⟩ hk
  have hr0:j0∈Region.ready .any ops L:=mem_ready.2 ⟨by rw [B7 (by omega)];exact hj1,_,Array.getElem?_eq_getElem (by omega),fun e he hb=>hmin _ ((hat j0 _ (Array.getElem?_eq_getElem (by omega))).1 e he hb)⟩
  refine ⟨fun h0=>(by rw [h0] at hr0;cases hr0),fun i hi=>?_⟩
  obtain ⟨h1,o,ho,h2⟩:=mem_ready.1 hi
  have hlt:=(Array.getElem?_eq_some_iff.1 ho).1
  rw [B7 (by omega)] at h1
  have hD':Rc ops (L.setIfInBounds i true):=fun k ok hk hok' e he hb=>by
   rw [AB (by omega)] at hk ⊢
   split at hk
   ·rename_i hik;subst hik
    rw [ho] at hok';cases hok'
    split
    ·rfl
    ·exact h2 e he hb
   ·split
    ·rfl
    ·exact hD k ok hk hok' e he hb
  have hcount:(List.range ops.size).countP (fun k=>!(L.setIfInBounds i true).getD k false)≤fuel:=by
   have:=H9 (fun i=>!L.getD i false) (fun k=>!(L.setIfInBounds i true).getD k false) i (by simp only [h1];rfl) (by simp only [AB (by omega:i<L.size),if_true];rfl)
    (fun j hj=>by simp only [AB (by omega:i<L.size)];rw [if_neg (Ne.symm hj)]) (List.range ops.size) (List.mem_range.2 hlt) List.nodup_range
   omega
  rcases Nat.lt_or_ge i m with him|him
  ·refine QN (fun i o _ ho=>(hat i o ho).2.1) hlen (by omega) hone hdist n1 n2 n3 hL him hi hs fun a' w' I' O' hs'=>?_
   exact ih _ a' w' I' μ O' (by simpa using hL) hD' hcount hs'
  ·have hg:=(hat i o ho).2.2 him
   unfold wpOpIn
   simp only [ho]
   rw [if_pos (by simp [Region.wanted,hg])]
   refine hst i o him ho (Dl tv env0 L) (fun j t v hd hj=>?_) (fun t ht=>Bt fun j v _ hj=>ht j v hj) X a w I μ O _ _ n1 n2 n3 hs fun env' H' a' w' I' μ' O' hs' hK=>?_
   ·obtain ⟨o2,ho2,e,he,hb,rfl⟩:=FP hd
    rw [ho] at ho2;cases ho2
    exact BK hdist (h2 e he hb) hj
   ·obtain ⟨hK,rfl⟩:=hK
    have heL:Dl tv env0 (L.setIfInBounds i true)=Dl tv env0 L:=by
     have hfm:∀ (l:List Nat),(∀ j∈l,j<m)→l.filterMap (fun j=>if (L.setIfInBounds i true).getD j false=true then tv[j]? else none)=l.filterMap fun j=>if L.getD j false=true then tv[j]? else none:=by
      intro l
      induction l with
      | nil=>intro _;rfl
      | cons x l ihl =>
       intro hx
       have:=hx x (by simp)
       have e1:=AB (L:=L) (i:=i) (j:=x) (by omega)
       rw [if_neg (by omega)] at e1
       simp only [List.filterMap_cons,e1,ihl fun j hj=>hx j (by simp [hj])]
     unfold Dl
     rw [hfm _ fun j hj=>by have:=List.mem_range.1 hj;omega]
    refine ih _ a' w' I' μ' O' (by simpa using hL) hD' hcount ?_
    rw [heL]
    exact hs'.same fun t=>(hK t).symm
theorem AW.drawnI {id:Nat} (m:Nat) {env0:Env} (hm:P.follows .mixedOrders=true) (hok:Mf ops m=true)
  (h:DK P C ops H env0 [] (ops.toList.take m) fun fin =>
   (∀ i o,m≤i→ops[i]?=some o→∀ e,(∀ (j t:Nat) v,EU ops i j=true→fin.reverse[j]?=some (t,v)→get e t=v)→(∀ t,(∀ (j:Nat) v,fin.reverse[j]?≠some (t,v))→get e t=get env0 t)→OpOK P C o e H fun e' H'=>(∀ t,get e' t=get e t)∧H'=H) ∧
   RL P C ops Q ops.size [] (fin++env0) H):AW P C (.region id ops true) Q env0 H:=fun X a w I μ O n1 n2 n3 hs=>by
 obtain ⟨fin,hDL,hst,hfin⟩:=h
 obtain ⟨tv,k1,k2,k3⟩:=hDL.table
 rw [List.append_nil] at k2
 subst k2
 rw [List.reverse_reverse] at hst
 obtain ⟨hle,_⟩:=Mz hok
 have hlen:tv.length=m:=by rw [k1];simp;omega
 refine wpIn_region_any hm ?_
 have hz:∀ j,(Array.replicate ops.size false).getD j false=false:=fun j=>by
  simp only [Array.getD_eq_getD_getElem?,Array.getElem?_replicate]
  split<;>rfl
 have hs':Sim P X (Dl tv env0 (Array.replicate ops.size false)) H a {w with drawn:=w.drawn+1} I μ O :=
  (hs.grow (w':={w with drawn:=w.drawn+1}) ⟨rfl,rfl,rfl,Nat.le_refl _,fun _ _=>rfl⟩).same fun t=>Bt fun i v h=>by
   rw [hz] at h;cases h
 have hone:∀ i,i<m→∃ o t v,ops[i]?=some o∧tv[i]?=some (t,v)∧NB P C ops H env0 (tv.take i).reverse o t v:=fun i hi=>by
  have ho:ops[i]?=some ops[i]:=Array.getElem?_eq_getElem (by omega)
  obtain ⟨t,v,m1,m2⟩:=k3 i ops[i] (by rw [List.getElem?_take_of_lt hi];simp)
  exact ⟨_,t,v,ho,m1,by simpa using m2⟩
 have hdist:∀ (i j t:Nat) v u,tv[i]?=some (t,v)→tv[j]?=some (t,u)→i=j:=by
  have lt:∀ (i j t:Nat) v u,tv[i]?=some (t,v)→tv[j]?=some (t,u)→¬i<j:=fun i j t v u hi hj hij=>by
   have hjm:j<m:=by have:=(lS.1 hj).1;omega
   obtain ⟨o,t',v',_,k1,k2⟩:=hone j hjm
   rw [hj] at k1;cases k1
   refine k2.2.2.2.1 (t,v) ?_ rfl
   rw [List.mem_reverse]
   exact List.mem_of_getElem? (by rw [List.getElem?_take_of_lt hij];exact hi)
  intro i j t v u hi hj
  have h1:=lt i j t v u hi hj
  have h2:=lt j i t u v hj hi
  omega
 refine YE hok hlen hone hdist hst hfin n1 n2 n3 ops.size _ a _ I μ O (by simp) (fun i o h=>by rw [hz] at h;cases h) ?_ hs'
 have h1:=List.countP_le_length (p:=fun i=>!(Array.replicate ops.size false).getD i false) (l:=List.range ops.size)
 rw [List.length_range] at h1
 omega
theorem Nj {e:Env} {t:Nat} {v:AV} (h:get e t=v) (s:Nat) : get ((t,v)::e) s=get e s:=by
 simp only [get]
 split
 ·rename_i h1;subst h1;exact h.symm
 ·rfl
theorem N5 {l:List (Nat×AV)} {t:Nat} (h:(l.map (·.1)).contains t=false) (j:Nat) (v:AV) : l[j]?≠some (t,v):=fun hj=>by
 have:=List.mem_map_of_mem (f:=(·.1)) (List.mem_of_getElem? hj)
 rw [List.contains_iff_mem.2 this] at h;cases h
end
end Go.FL
namespace Go.FL
open Go Go.RowKit
def SY (T:List (Int×Int)) (z:Int) : Int:=((T.find? fun p=>decide (p.1=z)).map (·.2)).getD 0
section
variable {P:Program} {C:Cx} {o:Oper} {env:Env} {H:Ad}
theorem YC {T:List (Int×Int)} {z:Int} {x y:Operand} {ty kt et:TypeId} {q q2:IntKind} (hnd:(T.map (·.1)).Nodup) (hu:P.underlying ty=some (.map kt et)) (hk:P.underlying kt=some (.int q)) (hz:∀ w,(zeroValue et).run P w=.ok (.int q2 0) w)
  (ho:o.op=.lookup ty x y false:=by rfl) (hx:Bo (lk env x)=some (.mp (T.map fun p=>.i q p.1) (T.map fun p=>.i q2 p.2)):=by rfl) (hy:Bo (lk env y)=some (.i q z):=by rfl):VOK P C o env H (.d (.i q2 (SY T z))):=by
 have hzip:(T.map fun p=>DV.i q p.1).zip (T.map fun p=>DV.i q2 p.2)=T.map fun p=>(DV.i q p.1,DV.i q2 p.2):=by
  rw [List.zip_map']
 cases hf:T.find? fun p=>decide (p.1=z) with
 | none =>
  have e:SY T z=0:=by simp [SY,hf]
  rw [e]
  refine Zd hu hk hz (fun w I=>.i q2 0) (fun k hk'=>?_) ho hx hy
  obtain ⟨p,hp,rfl⟩:=List.mem_map.1 hk'
  have:=List.find?_eq_none.1 hf p hp
  exact ⟨p.1,rfl,by simpa using this⟩
 | some p =>
  have e:SY T z=p.2:=by simp [SY,hf]
  have hp:=List.mem_of_find?_eq_some hf
  have hpz:p.1=z:=by have:=List.find?_some hf;simpa using this
  rw [e]
  refine Zp hu hk (fun k hk'=>?_) ?_ (fun d' hd'=>?_) ho hx hy
  ·obtain ⟨p',_,rfl⟩:=List.mem_map.1 hk';exact ⟨_,rfl⟩
  ·rw [hzip];exact List.mem_map.2 ⟨p,hp,by rw [hpz]⟩
  ·rw [hzip] at hd'
   obtain ⟨p',hp',e'⟩:=List.mem_map.1 hd'
   simp only [Prod.mk.injEq,DV.i.injEq,true_and] at e'
   obtain ⟨e1,rfl⟩:=e'
   have:p'=p:=by
    obtain ⟨i,hi⟩:=List.getElem?_of_mem hp'
    obtain ⟨j,hj⟩:=List.getElem?_of_mem hp
    have hij:i=j:=by
     refine (List.getElem?_inj (l:=T.map (·.1)) (by rw [List.length_map];exact (lS.1 hi).1) hnd).1 ?_
     rw [List.getElem?_map,List.getElem?_map,hi,hj]
     simp [e1,hpz]
    subst hij
    rw [hi] at hj;exact oI hj
   rw [this]
end
end Go.FL
namespace Go.Proofs
open Go.RowKit Go.FL
set_option maxHeartbeats 4000000 in
set_option maxRecDepth 100000 in
theorem V8 (w:World) : Calls Tryz.prog 157 #[.slice none 0 0,.int .i64 0] w fun x w'=>x=.returned (.slice none 0 0)∧w'=w:=by
 go_enter Tryz.func157,Tryz.ntmps157
 go_wp2
 go_ret
 exact ⟨rfl,rfl⟩
set_option maxHeartbeats 4000000 in
set_option maxRecDepth 100000 in
theorem YJ : Sz Tryz.prog 157 3 17592186044416:=by
 intro n w hn
 rcases Nat.eq_zero_or_pos n with h0|h0
 ·subst h0
  exact (V8 w).mono fun _ _ h=>.inl h
 obtain ⟨i0,i1,i2,i3,i4,i5,i6,i7,i8⟩:=Ds DE
 have hrz:∀ ty,(Builtin.append_ #[24,3] ty #[.slice none 0 0,.int .i64 (n:Int)]).run Tryz.prog w=.ok (.slice (some ⟨w.heap.size,0,none⟩) n (grownCap w n 0 3)) (w.drew.alloc (.cells (Builtin.zeroCells (Value.int .i64 0).cells n++Builtin.zeroCells (Value.int .i64 0).cells (grownCap w n 0 3-n)) 3)):=fun ty =>
  Lib.run_append_nil_zeros w 24 3 ty 3 i0 (.int .i64 0) .i64 .i64 i1 (by kernel_rfl) i2 i3 n h0 (by omega) (by omega) (by rw [i5];omega)
 have hg1:=grownCap_ge w n 0 3
 have hg2:=grownCap_le_maxLen w n 0 3 (by unfold maxLen;omega)
 generalize hG:grownCap w n 0 3=G at *
 have hg3:G≤9223372036854775807:=by unfold maxLen at hg2;omega
 obtain ⟨cells,hcells⟩:∃ cs:Array Value,Builtin.zeroCells (Value.int .i64 0).cells n++Builtin.zeroCells (Value.int .i64 0).cells (G-n)=cs:=⟨_,rfl⟩
 rw [hcells] at hrz
 have hsz:cells.size=G * Ay Tryz.prog 3:=by
  rw [← hcells,i8,Array.size_append,size_zeroCells,size_zeroCells,i6];omega
 have h1:¬((n:Int)<0):=by omega
 have h2:(n:Int) > 0:=by omega
 have hfin:0<G∧G≤maxLen∧cells.size=G * Ay Tryz.prog 3:=⟨by omega,hg2,hsz⟩
 clear hsz hcells i1 i2 i3 i4 i5 i6 i7 i8 hg2
 have HF:=Lib.hid hfin
 clear hfin
 go_enter Tryz.func157,Tryz.ntmps157
 go_wp2_with (at_builtin;refine Lib.wpList_append_run _ rfl _ _ _ _ rfl _ _ rfl rfl _ _ (hrz _) ?_)
 go_ret
 exact .inr ⟨G,HF.out.1,HF.out.2.1,cells,HF.out.2.2,rfl,rfl⟩
end Go.Proofs
namespace Go.FL
open Go Go.Proofs
theorem Ua (w:World) (I:Nat→Prop) : RepAll w I [.i .i64 0] (Value.int .i64 0).cells.toList:=.cons (.i _ _) .nil
theorem VL {n:Nat} : List.replicate n (.ag [.i .u8 0,.b false,.sl [],.sl [],.i .i32 0,.sl []])=Its (List.replicate n (Itm.mk 0 (false,[],[]) 0 [])):=by rw [Ev,List.map_replicate,Itm.dv_eq];rfl
theorem QX {xs:List Itm} {n:Nat} {x:Itm} {ds:List DV} (h:DV.ag ds=x.dv) : (Its xs).set n (.ag ds)=Its (xs.set n x):=by rw [h,Ev,Ev,List.map_set]
theorem Vi {xs:List Arr} {n:Nat} {x:Arr} {ds:List DV} (h:DV.ag ds=x.dv) : (Ars xs).set n (.ag ds)=Ars (xs.set n x):=by rw [h,Fw,Fw,List.map_set]
theorem Fq : Tryz.prog.underlying 89=some (.map 21 3):=by kernel_rfl
theorem J6 : ∀ w,(zeroValue 3).run Tryz.prog w=.ok (.int .i64 0) w:=Ah (by kernel_rfl)
abbrev QK : Int:=((17592186044416:Nat) : Int)
theorem WP : Sz Tryz.prog 157 3 17592186044416:=YJ
def IsS (xs:List (List Int)) : List DV:=xs.map fun l=>.sl (Is l)
theorem M6 (xs:List (List Int)) : (IsS xs).length=xs.length:=by simp [IsS]
theorem VK {xs:List (List Int)} {i:Nat} {x:List Int} (h:xs[i]?=some x) : (IsS xs)[i]?=some (.sl (Is x)):=by simp [IsS,h]
theorem VV (xs:List (List Int)) : ∀ x∈IsS xs,x.cells.length=1:=fun x hx=>by
 simp only [IsS,List.mem_map] at hx
 obtain ⟨n,_,rfl⟩:=hx;rfl
theorem Vp (xs:List (List Int)) : ∃ sz,∀ x∈IsS xs,x.cells.length=sz:=⟨1,VV xs⟩
theorem MK (xs:List (List Int)) : ∀ d∈IsS xs,d.flat=true∧d.cells.length=1:=fun x hx=>by
 simp only [IsS,List.mem_map] at hx
 obtain ⟨n,_,rfl⟩:=hx
 exact ⟨by simp [DV.flat,DV.cells,DV.leaf],rfl⟩
abbrev An : Type:=FW (Int×Int) (Int)
abbrev BD (f:An) : Prop:=f.OK Tryz.prog (fun x=>[.i .i64 x.1,.i .i64 x.2]) (fun r=>.d (.i .i64 r))
abbrev Dy : Type:=FW (Itm×Itm) (Int)
abbrev L0 (f:Dy) : Prop:=f.OK Tryz.prog (fun x=>[.ag [.i .u8 x.1.kind,.b x.1.num.1,.sl (L x.1.num.2.1),.sl (L x.1.num.2.2),.i .i32 x.1.char,.sl (Ars x.1.box)],.ag [.i .u8 x.2.kind,.b x.2.num.1,.sl (L x.2.num.2.1),.sl (L x.2.num.2.2),.i .i32 x.2.char,.sl (Ars x.2.box)]]) (fun r=>.d (.i .i64 r))
theorem GT : Tryz.prog.underlying 153=some (.int .u64):=by kernel_rfl
theorem Vm : CB Tryz.prog 147=some (24,1,24):=by kernel_rfl
theorem Rz : Cz Tryz.prog 147=some (24,1,24,.slice none 0 0):=by kernel_rfl
theorem UC : Tryz.prog.underlying 147=some (.slice (Tryz.prog.elem 147)):=by kernel_rfl
def DB (a1:Int) (a2:Int) (a3:Int) : Nat→(List Int)→Int→Option ((List Int))
 | 0,_,_=>none
 | k+1,s1,s2=>(if s2<a3 then ((rd? s1 (w64 (a2+s2))).bind fun x3=>((rd? s1 (w64 (a1+s2))).bind fun x4=>((rd? s1 (w64 (a1+s2))).bind fun x5=>((rd? (List.set s1 (Int.toNat (w64 (a1+s2))) x3) (w64 (a2+s2))).bind fun x6=>(DB a1 a2 a3 k (List.set (List.set s1 (Int.toNat (w64 (a1+s2))) x3) (Int.toNat (w64 (a2+s2))) x4) (w64 (s2+1))))))) else (some s1))
def EY (a0:(List Int)) (a1:Int) (a2:Int) (a3:Int) (a4:An) : Option ((List Int)):=(DB a1 a2 a3 AC a0 0)
theorem FY {a0:(List Int)} {a1:Int} {a2:Int} {a3:Int} {a4:An} (oa4:BD a4) {r:(List Int)} (h:EY a0 a1 a2 a3 a4=some r) :
  FnG Tryz.prog 276 [.own 3 (Is a0),.d (.i .i64 a1),.d (.i .i64 a2),.d (.i .i64 a3),.d (a4.dv)] [] (.tup []) [.own 3 (Is r)] []:=by
 unfold EY at h
 refine FnG.of (rs:=[]) 1 38 Tryz.func276 rfl rfl rfl (by simp) (by simp) (by simp) ?_;refine .sr ?_;refine ar [0,1,2,3,10] ?_;refine .block ?_
 refine .loop (.gk [0,1,2,3,10] ?_)
 refine AL.ind (σ:=Nat×(List Int)×Int) (m:=fun p=>p.1) (e:=fun p=>[(0,.own 3 (Is p.2.1)),(1,.d (.i .i64 a1)),(2,.d (.i .i64 a2)),(3,.d (.i .i64 a3)),(10,.d (.i .i64 p.2.2))]) (h:=fun p=>[]) (I:=fun p=>DB a1 a2 a3 p.1 p.2.1 p.2.2=some r) ?_ (AC,a0,0) h
 rintro ⟨k,s1,s2⟩ h ih
 dsimp only at h ih ⊢
 rcases k with _|k
 ·rw [DB] at h;cases h
 rw [DB] at h
 refine .seq ?_;refine .sr ?_;refine va ?_;refine va ?_;refine vb ?_;refine rk [0,1,2,3,10,13] ?_
 rcases brc h with ⟨hc,h⟩|⟨hc,h⟩
 ·refine cnt (dT hc) ?_
  refine .sk ?_;refine .seq ?_;refine .block ?_
  obtain ⟨x3,g3,h⟩:=bnd h
  obtain ⟨x4,g4,h⟩:=bnd h
  obtain ⟨x5,g5,h⟩:=bnd h
  refine .drawnF 21 [4,5,6,7] [(0,.own 3 ((Is s1).set (Int.toNat (w64 (a1+s2))) (.i .i64 x3)))] [] A3 (by kernel_rfl) rfl ?_;refine dv Ej ?_;refine dv Ac ?_;refine dv Ac ?_;refine dv vbi ?_;refine dv Ej ?_;refine dv Ac ?_;refine dv Ac ?_;refine dv vbi ?_;refine dv Ej ?_;refine dv Ac ?_;refine dv Ac ?_;refine dv vbi ?_
  obtain ⟨n3,p03,q3⟩:=Ag g3
  refine dv (FK (off:=0) (len:=(Is s1).length) n3 p03 (by rw [Af];exact (lS.1 q3).1) A9 (by decide)) ?_;refine dv (G7 (i:=0+n3) (j:=0) (xs:=Is s1) (.i .i64 x3) ⟨_,by rw [Nat.zero_add];exact Be q3,rfl⟩ AF) ?_;refine dv Ej ?_;refine dv Ac ?_;refine dv Ac ?_;refine dv vbi ?_
  obtain ⟨n4,p04,q4⟩:=Ag g4
  refine dv (FK (off:=0) (len:=(Is s1).length) n4 p04 (by rw [Af];exact (lS.1 q4).1) A9 (by decide)) ?_;refine dv (G7 (i:=0+n4) (j:=0) (xs:=Is s1) (.i .i64 x4) ⟨_,by rw [Nat.zero_add];exact Be q4,rfl⟩ AF) ?_
  obtain ⟨n5,p05,q5⟩:=Ag g5
  refine dv (FK (off:=0) (len:=(Is s1).length) n5 p05 (by rw [Af];exact (lS.1 q5).1) A9 (by decide)) ?_;refine dz ?_
  refine ⟨?_,?_,?_⟩
  ·intro k hk
   simp only [List.mem_cons,List.not_mem_nil,or_false] at hk
   rcases hk with rfl|rfl|rfl|rfl
   ·exact ⟨_,_,_,rfl,rfl,rfl,rfl,rfl,rfl,(show VOK _ _ _ _ _ (.ref (.t 0) 0 (Is s1).length) from by rw [show (Is s1).length=((Is s1).set (Int.toNat (w64 (a1+s2))) (.i .i64 x3)).length by rw [List.length_set]];exact Ej)⟩
   ·exact ⟨_,_,_,rfl,rfl,rfl,rfl,rfl,rfl,Ac⟩
   ·exact ⟨_,_,_,rfl,rfl,rfl,rfl,rfl,rfl,Ac⟩
   ·exact ⟨_,_,_,rfl,rfl,rfl,rfl,rfl,rfl,vbi⟩
  ·intro om e hom hge
   cases hom
   refine Hg (x:=.tmp 36) (y:=.tmp 29) (r:=36) (ay:=.t 29) (p:=.t 0) (i:=0+n5) (k:=0) (v:=.i .i64 x3) (x':=.i .i64 x3) rfl rfl rfl rfl C6 ((hge 36 (fun k hk v hv=>by
     simp only [List.mem_cons,List.not_mem_nil,or_false] at hk
     rcases hk with rfl|rfl|rfl|rfl
     ·exact (by decide:¬(some 20=some 36)) (congrArg (Option.map Prod.fst) hv)
     ·exact (by decide:¬(some 21=some 36)) (congrArg (Option.map Prod.fst) hv)
     ·exact (by decide:¬(some 22=some 36)) (congrArg (Option.map Prod.fst) hv)
     ·exact (by decide:¬(some 23=some 36)) (congrArg (Option.map Prod.fst) hv))).trans rfl) ((hge 0 (fun k hk v hv=>by
     simp only [List.mem_cons,List.not_mem_nil,or_false] at hk
     rcases hk with rfl|rfl|rfl|rfl
     ·exact (by decide:¬(some 20=some 0)) (congrArg (Option.map Prod.fst) hv)
     ·exact (by decide:¬(some 21=some 0)) (congrArg (Option.map Prod.fst) hv)
     ·exact (by decide:¬(some 22=some 0)) (congrArg (Option.map Prod.fst) hv)
     ·exact (by decide:¬(some 23=some 0)) (congrArg (Option.map Prod.fst) hv))).trans rfl) (fun _ _ h=>by cases h) ((hge 29 (fun k hk v hv=>by
     simp only [List.mem_cons,List.not_mem_nil,or_false] at hk
     rcases hk with rfl|rfl|rfl|rfl
     ·exact (by decide:¬(some 20=some 29)) (congrArg (Option.map Prod.fst) hv)
     ·exact (by decide:¬(some 21=some 29)) (congrArg (Option.map Prod.fst) hv)
     ·exact (by decide:¬(some 22=some 29)) (congrArg (Option.map Prod.fst) hv)
     ·exact (by decide:¬(some 23=some 29)) (congrArg (Option.map Prod.fst) hv))).trans rfl) rfl ?_ ⟨by rw [show Int.toNat (w64 (a1+s2))=0+n5 from by rw [p05];simp];rfl,rfl⟩
   rw [Nat.zero_add,lD,Be q5];rfl
  rw [show (Is s1).set (Int.toNat (w64 (a1+s2))) (.i .i64 x3)=Is (List.set s1 (Int.toNat (w64 (a1+s2))) x3) from Fk _ _ _]
  refine RL.gk [0,1,2,3,10,13,16,17,18,19,20,21,22,23,24,25,26,27,29,30,31,32,33,35] ?_
  obtain ⟨x6,g6,h⟩:=bnd h
  obtain ⟨n6,p06,q6⟩:=Ag g6
  refine ixr (off:=0) (len:=(Is s1).length) n6 p06 (by rw [Af];simpa using (lS.1 q6).1) ?_ A9 (by decide)
  refine OX (F:=Is) (D:=fun x=>.i .i64 x) Fk (us:=(List.set s1 (Int.toNat (w64 (a1+s2))) x3)) (n:=n6) (m:=Int.toNat (w64 (a2+s2))) (x:=x4) (by rw [p06];rfl) ⟨_,by rw [Nat.zero_add];exact Be q6,rfl⟩ ?_ C6
  refine RL.gk [0,1,2,3,10,13,16,17,18,19,20,21,22,23,24,25,26,27,29,30,31,32,33,35] ?_;refine .nil ?_;refine aw ?_;refine .gk [0,1,2,3,10] ?_;refine .region ?_;refine va ?_;refine vb ?_;refine asd ?_;refine .nil ?_;refine AL.gk [0,1,2,3,10] ?_
  exact ih (k,(List.set (List.set s1 (Int.toNat (w64 (a1+s2))) x3) (Int.toNat (w64 (a2+s2))) x4),(w64 (s2+1))) h (Nat.lt_succ_self _)
 refine cnf (dF hc) ?_;refine .exit ?_
 cases h
 exact M7 rfl rfl
def DH (a1:Int) (a3:An) (K1:(List Int)→Option ((List Int))) : Nat→(List Int)→Int→Option ((List Int))
 | 0,_,_=>none
 | k+1,s4,s5=>(Option.bind ((if a1<s5 then ((rd? s4 s5).bind fun x7=>((rd? s4 (w64 (s5-1))).bind fun x8=>((a3.g (x7,x8)).bind fun x9=>(some (decide (x9<0)))))) else (some false)):Option (Bool)) fun (z6:Bool)=>(if z6=true then ((rd? s4 (w64 (s5-1))).bind fun x10=>((rd? s4 s5).bind fun x11=>((rd? s4 s5).bind fun x12=>((rd? (List.set s4 (Int.toNat s5) x10) (w64 (s5-1))).bind fun x13=>(DH a1 a3 K1 k (List.set (List.set s4 (Int.toNat s5) x10) (Int.toNat (w64 (s5-1))) x11) (w64 (s5-1))))))) else (K1 s4)))
def Dz (a1:Int) (a2:Int) (a3:An) : Nat→(List Int)→Int→Option ((List Int))
 | 0,_,_=>none
 | k+1,s1,s2=>(if s2<a2 then (jn (fun (z3:(List Int))=>(Dz a1 a2 a3 k z3 (w64 (s2+1)))) fun K1=>(DH a1 a3 K1 AC s1 s2)) else (some s1))
def F7 (a0:(List Int)) (a1:Int) (a2:Int) (a3:An) : Option ((List Int)):=(Dz a1 a2 a3 AC a0 (w64 (a1+1)))
theorem Im {a0:(List Int)} {a1:Int} {a2:Int} {a3:An} (oa3:BD a3) {r:(List Int)} (h:F7 a0 a1 a2 a3=some r) :
  FnG Tryz.prog 228 [.own 3 (Is a0),.d (.i .i64 a1),.d (.i .i64 a2),.d (a3.dv)] [] (.tup []) [.own 3 (Is r)] []:=by
 unfold F7 at h
 refine FnG.of (rs:=[]) 1 53 Tryz.func228 rfl rfl rfl (by simp) (by simp) (by simp) ?_;refine .sr ?_;refine va ?_;refine vb ?_;refine ar [0,1,2,3,8] ?_;refine .block ?_
 refine .loop (.gk [0,1,2,3,8] ?_)
 refine AL.ind (σ:=Nat×(List Int)×Int) (m:=fun p=>p.1) (e:=fun p=>[(0,.own 3 (Is p.2.1)),(1,.d (.i .i64 a1)),(2,.d (.i .i64 a2)),(3,.d (a3.dv)),(8,.d (.i .i64 p.2.2))]) (h:=fun p=>[]) (I:=fun p=>Dz a1 a2 a3 p.1 p.2.1 p.2.2=some r) ?_ (AC,a0,(w64 (a1+1))) h
 rintro ⟨k,s1,s2⟩ h ih
 dsimp only at h ih ⊢
 rcases k with _|k
 ·rw [Dz] at h;cases h
 rw [Dz] at h
 refine .seq ?_;refine .sr ?_;refine va ?_;refine va ?_;refine vb ?_;refine rk [0,1,2,3,8,14] ?_
 rcases brc h with ⟨hc,h⟩|⟨hc,h⟩
 ·refine cnt (dT hc) ?_
  refine .sk ?_
  obtain ⟨K1,hK1,h⟩:=AE h
  refine AW.mj (σ:=(List Int)) (fun p=>K1 p=some r) (fun p=>[(0,.own 3 (Is p)),(1,.d (.i .i64 a1)),(2,.d (.i .i64 a2)),(3,.d (a3.dv)),(8,.d (.i .i64 s2))]) (fun p=>[]) ?_ ?_
  ·skip
   refine .block ?_;refine .sr ?_;refine va ?_;refine ar [0,1,2,3,8,9] ?_;refine .block ?_
   refine .loop (.gk [0,1,2,3,8,9] ?_)
   refine AL.ind (σ:=Nat×(List Int)×Int) (m:=fun p=>p.1) (e:=fun p=>[(0,.own 3 (Is p.2.1)),(1,.d (.i .i64 a1)),(2,.d (.i .i64 a2)),(3,.d (a3.dv)),(8,.d (.i .i64 s2)),(9,.d (.i .i64 p.2.2))]) (h:=fun p=>[]) (I:=fun p=>DH a1 a3 K1 p.1 p.2.1 p.2.2=some r) ?_ (AC,s1,s2) h
   rintro ⟨k,s4,s5⟩ h ih
   dsimp only at h ih ⊢
   rcases k with _|k
   ·rw [DH] at h;cases h
   rw [DH] at h
   refine .seq ?_;refine .seq ?_
   obtain ⟨z6,hz,h⟩:=bnd h
   refine AW.mr (σ:=Unit) (fun _=>True) (fun _=>[(0,.own 3 (Is s4)),(1,.d (.i .i64 a1)),(2,.d (.i .i64 a2)),(3,.d (a3.dv)),(8,.d (.i .i64 s2)),(9,.d (.i .i64 s5)),(34,.d (.b z6))]) (fun _=>[]) ?_ ?_
   ·skip
    refine .drawn 17 A3 (by kernel_rfl) ?_;refine dv Ac ?_;refine dv Ac ?_;refine dv vbi ?_
    rcases brc hz with ⟨hc,hz⟩|⟨hc,hz⟩
    ·have hb0:(decide (a1<s5))=true:=(dT hc)
     refine dv (VOK.lit (Ac) hb0) ?_;refine dv Ac ?_;refine dv Ej ?_;refine dv Ac ?_
     obtain ⟨x7,g7,hz⟩:=bnd hz
     obtain ⟨n7,p07,q7⟩:=Ag g7
     refine dv (FK (off:=0) (len:=(Is s4).length) n7 p07 (by rw [Af];exact (lS.1 q7).1) A9 (by decide)) ?_;refine dv (G7 (i:=0+n7) (j:=0) (xs:=Is s4) (.i .i64 x7) ⟨_,by rw [Nat.zero_add];exact Be q7,rfl⟩ AF) ?_;refine dv Ej ?_;refine dv Ac ?_;refine dv vbi ?_
     obtain ⟨x8,g8,hz⟩:=bnd hz
     obtain ⟨n8,p08,q8⟩:=Ag g8
     refine dv (FK (off:=0) (len:=(Is s4).length) n8 p08 (by rw [Af];exact (lS.1 q8).1) A9 (by decide)) ?_;refine dv (G7 (i:=0+n8) (j:=0) (xs:=Is s4) (.i .i64 x8) ⟨_,by rw [Nat.zero_add];exact Be q8,rfl⟩ AF) ?_
     obtain ⟨x9,g9,hz⟩:=bnd hz
     refine dv (Mq (oa3 _ _ g9)) ?_;refine dv vbi ?_;refine dv Aq ?_;refine dz ?_;refine RL.gk [0,1,2,3,8,9,34] ?_;refine .nil ?_
     cases hz
     exact jr () trivial
    have hb0:(decide (a1<s5))=false:=(dF hc)
    refine dv (VOK.lit (Ac) hb0) ?_;refine dgf ?_;refine dgf ?_;refine dgf ?_;refine dgf ?_;refine dgf ?_;refine dgf ?_;refine dgf ?_;refine dgf ?_;refine dgf ?_;refine dgf ?_;refine dgf ?_;refine dgf ?_;refine dv Aq ?_;refine dz ?_;refine RL.gk [0,1,2,3,8,9,34] ?_;refine .nil ?_
    cases hz
    exact jr () trivial
   rintro _ _
   rcases brc h with ⟨hc,h⟩|⟨hc,h⟩
   ·refine cnt hc ?_
    refine .sk ?_;refine .seq ?_;refine .block ?_
    obtain ⟨x10,g10,h⟩:=bnd h
    obtain ⟨x11,g11,h⟩:=bnd h
    obtain ⟨x12,g12,h⟩:=bnd h
    refine .drawnF 15 [2,3,4] [(0,.own 3 ((Is s4).set (Int.toNat s5) (.i .i64 x10)))] [] A3 (by kernel_rfl) rfl ?_;refine dv Ej ?_;refine dv Ac ?_;refine dv Ej ?_;refine dv Ac ?_;refine dv vbi ?_;refine dv Ej ?_;refine dv Ac ?_;refine dv vbi ?_
    obtain ⟨n10,p010,q10⟩:=Ag g10
    refine dv (FK (off:=0) (len:=(Is s4).length) n10 p010 (by rw [Af];exact (lS.1 q10).1) A9 (by decide)) ?_;refine dv (G7 (i:=0+n10) (j:=0) (xs:=Is s4) (.i .i64 x10) ⟨_,by rw [Nat.zero_add];exact Be q10,rfl⟩ AF) ?_;refine dv Ej ?_;refine dv Ac ?_
    obtain ⟨n11,p011,q11⟩:=Ag g11
    refine dv (FK (off:=0) (len:=(Is s4).length) n11 p011 (by rw [Af];exact (lS.1 q11).1) A9 (by decide)) ?_;refine dv (G7 (i:=0+n11) (j:=0) (xs:=Is s4) (.i .i64 x11) ⟨_,by rw [Nat.zero_add];exact Be q11,rfl⟩ AF) ?_
    obtain ⟨n12,p012,q12⟩:=Ag g12
    refine dv (FK (off:=0) (len:=(Is s4).length) n12 p012 (by rw [Af];exact (lS.1 q12).1) A9 (by decide)) ?_;refine dz ?_
    refine ⟨?_,?_,?_⟩
    ·intro k hk
     simp only [List.mem_cons,List.not_mem_nil,or_false] at hk
     rcases hk with rfl|rfl|rfl
     ·exact ⟨_,_,_,rfl,rfl,rfl,rfl,rfl,rfl,(show VOK _ _ _ _ _ (.ref (.t 0) 0 (Is s4).length) from by rw [show (Is s4).length=((Is s4).set (Int.toNat s5) (.i .i64 x10)).length by rw [List.length_set]];exact Ej)⟩
     ·exact ⟨_,_,_,rfl,rfl,rfl,rfl,rfl,rfl,Ac⟩
     ·exact ⟨_,_,_,rfl,rfl,rfl,rfl,rfl,rfl,vbi⟩
    ·intro om e hom hge
     cases hom
     refine Hg (x:=.tmp 51) (y:=.tmp 46) (r:=51) (ay:=.t 46) (p:=.t 0) (i:=0+n12) (k:=0) (v:=.i .i64 x10) (x':=.i .i64 x10) rfl rfl rfl rfl C6 ((hge 51 (fun k hk v hv=>by
       simp only [List.mem_cons,List.not_mem_nil,or_false] at hk
       rcases hk with rfl|rfl|rfl
       ·exact (by decide:¬(some 39=some 51)) (congrArg (Option.map Prod.fst) hv)
       ·exact (by decide:¬(some 40=some 51)) (congrArg (Option.map Prod.fst) hv)
       ·exact (by decide:¬(some 41=some 51)) (congrArg (Option.map Prod.fst) hv))).trans rfl) ((hge 0 (fun k hk v hv=>by
       simp only [List.mem_cons,List.not_mem_nil,or_false] at hk
       rcases hk with rfl|rfl|rfl
       ·exact (by decide:¬(some 39=some 0)) (congrArg (Option.map Prod.fst) hv)
       ·exact (by decide:¬(some 40=some 0)) (congrArg (Option.map Prod.fst) hv)
       ·exact (by decide:¬(some 41=some 0)) (congrArg (Option.map Prod.fst) hv))).trans rfl) (fun _ _ h=>by cases h) ((hge 46 (fun k hk v hv=>by
       simp only [List.mem_cons,List.not_mem_nil,or_false] at hk
       rcases hk with rfl|rfl|rfl
       ·exact (by decide:¬(some 39=some 46)) (congrArg (Option.map Prod.fst) hv)
       ·exact (by decide:¬(some 40=some 46)) (congrArg (Option.map Prod.fst) hv)
       ·exact (by decide:¬(some 41=some 46)) (congrArg (Option.map Prod.fst) hv))).trans rfl) rfl ?_ ⟨by rw [show Int.toNat s5=0+n12 from by rw [p012];simp];rfl,rfl⟩
     rw [Nat.zero_add,lD,Be q12];rfl
    rw [show (Is s4).set (Int.toNat s5) (.i .i64 x10)=Is (List.set s4 (Int.toNat s5) x10) from Fk _ _ _]
    refine RL.gk [0,1,2,3,8,9,34,37,38,39,40,41,42,43,44,46,47,48,50] ?_
    obtain ⟨x13,g13,h⟩:=bnd h
    obtain ⟨n13,p013,q13⟩:=Ag g13
    refine ixr (off:=0) (len:=(Is s4).length) n13 p013 (by rw [Af];simpa using (lS.1 q13).1) ?_ A9 (by decide)
    refine OX (F:=Is) (D:=fun x=>.i .i64 x) Fk (us:=(List.set s4 (Int.toNat s5) x10)) (n:=n13) (m:=Int.toNat (w64 (s5-1))) (x:=x11) (by rw [p013];rfl) ⟨_,by rw [Nat.zero_add];exact Be q13,rfl⟩ ?_ C6
    refine RL.gk [0,1,2,3,8,9,34,37,38,39,40,41,42,43,44,46,47,48,50] ?_;refine .nil ?_;refine aw ?_;refine .gk [0,1,2,3,8,9] ?_;refine .region ?_;refine va ?_;refine vb ?_;refine asd ?_;refine .nil ?_;refine AL.gk [0,1,2,3,8,9] ?_
    exact ih (k,(List.set (List.set s4 (Int.toNat s5) x10) (Int.toNat (w64 (s5-1))) x11),(w64 (s5-1))) h (Nat.lt_succ_self _)
   refine cnf (bf hc) ?_;refine .gk [0,1,2,3,8] ?_;refine .exit ?_
   exact jr (s4) h
  rintro z3 h
  try dsimp only at h ⊢
  subst hK1
  refine .region ?_;refine va ?_;refine vb ?_;refine asd ?_;refine .nil ?_;refine AL.gk [0,1,2,3,8] ?_
  exact ih (k,z3,(w64 (s2+1))) h (Nat.lt_succ_self _)
 refine cnf (dF hc) ?_;refine .exit ?_
 cases h
 exact M7 rfl rfl
def Ee (a2:Int) (a4:An) (K0:(List Int)→Int→Option ((List Int))) : Nat→(List Int)→Int→Int→Option ((List Int))
 | 0,_,_,_=>none
 | k+1,s3,s4,s5=>(if s4=s5 then (K0 s3 s4) else (if s5<s4 then ((EY s3 (w64 (a2-s4)) a2 s5 a4).bind fun x6=>(Ee a2 a4 K0 k x6 (w64 (s4-s5)) s5)) else ((EY s3 (w64 (a2-s4)) (w64 ((w64 (a2+s5))-s4)) s4 a4).bind fun x7=>(Ee a2 a4 K0 k x7 s4 (w64 (s5-s4))))))
def KT (a0:(List Int)) (a1:Int) (a2:Int) (a3:Int) (a4:An) : Option ((List Int)):=(jn (fun (z1:(List Int)) (z2:Int)=>((EY z1 (w64 (a2-z2)) a2 z2 a4).bind fun x8=>(some x8))) fun K0=>(Ee a2 a4 K0 AC a0 (w64 (a2-a1)) (w64 (a3-a2))))
theorem OM {a0:(List Int)} {a1:Int} {a2:Int} {a3:Int} {a4:An} (oa4:BD a4) {r:(List Int)} (h:KT a0 a1 a2 a3 a4=some r) :
  FnG Tryz.prog 260 [.own 3 (Is a0),.d (.i .i64 a1),.d (.i .i64 a2),.d (.i .i64 a3),.d (a4.dv)] [] (.tup []) [.own 3 (Is r)] []:=by
 unfold KT at h
 refine FnG.of (rs:=[]) 1 58 Tryz.func260 rfl rfl rfl (by simp) (by simp) (by simp) ?_;refine .sr ?_;refine va ?_;refine va ?_;refine vb ?_;refine ar [0,2,3,4,10] ?_;refine .sr ?_;refine va ?_;refine va ?_;refine vb ?_;refine ar [0,2,4,10,11] ?_
 obtain ⟨K0,hK0,h⟩:=AE h
 refine AW.mj (σ:=(List Int)×Int) (fun p=>K0 p.1 p.2=some r) (fun p=>[(0,.own 3 (Is p.1)),(2,.d (.i .i64 a2)),(4,.d (a4.dv)),(10,.d (.i .i64 p.2))]) (fun p=>[]) ?_ ?_
 ·skip
  refine .block ?_
  refine .loop (.gk [0,2,4,10,11] ?_)
  refine AL.ind (σ:=Nat×(List Int)×Int×Int) (m:=fun p=>p.1) (e:=fun p=>[(0,.own 3 (Is p.2.1)),(2,.d (.i .i64 a2)),(4,.d (a4.dv)),(10,.d (.i .i64 p.2.2.1)),(11,.d (.i .i64 p.2.2.2))]) (h:=fun p=>[]) (I:=fun p=>Ee a2 a4 K0 p.1 p.2.1 p.2.2.1 p.2.2.2=some r) ?_ (AC,a0,(w64 (a2-a1)),(w64 (a3-a2))) h
  rintro ⟨k,s3,s4,s5⟩ h ih
  dsimp only at h ih ⊢
  rcases k with _|k
  ·rw [Ee] at h;cases h
  rw [Ee] at h
  refine .seq ?_;refine .sr ?_;refine va ?_;refine va ?_;refine vb ?_;refine rk [0,2,4,10,11,20] ?_
  rcases brc h with ⟨hc,h⟩|⟨hc,h⟩
  ·refine cnf (ntf (dT hc)) ?_
   refine .gk [0,2,4,10] ?_;refine .exit ?_
   exact jr (s3,s4) h
  refine cnt (ntt (dF hc)) ?_;refine .sk ?_;refine .block ?_;refine .sr ?_;refine va ?_;refine va ?_;refine vb ?_;refine rk [0,2,4,10,11,23] ?_
  rcases brc h with ⟨hc,h⟩|⟨hc,h⟩
  ·refine cnt (dT hc) ?_
   refine .sr ?_;refine mvo ?_;refine va ?_;refine va ?_;refine vb ?_;refine va ?_;refine va ?_;refine va ?_
   obtain ⟨x6,g6,h⟩:=bnd h
   refine LX (Is x6) ?_ (FY oa4 g6) Tryz.call276
   refine RL.gk [0,2,4,10,11,23,25,26,27,28,29,30,31] ?_;refine rk [0,2,4,10,11] ?_;refine .region ?_;refine va ?_;refine va ?_;refine vb ?_;refine asd ?_;refine .nil ?_;refine AL.gk [0,2,4,10,11] ?_
   exact ih (k,x6,(w64 (s4-s5)),s5) h (Nat.lt_succ_self _)
  refine cnf (dF hc) ?_;refine .sr ?_;refine mvo ?_;refine va ?_;refine va ?_;refine vb ?_;refine va ?_;refine va ?_;refine vb ?_;refine va ?_;refine vb ?_;refine va ?_;refine va ?_
  obtain ⟨x7,g7,h⟩:=bnd h
  refine LX (Is x7) ?_ (FY oa4 g7) Tryz.call276
  refine RL.gk [0,2,4,10,11,23,36,37,38,39,40,41,42,43,44,45,46] ?_;refine rk [0,2,4,10,11] ?_;refine .region ?_;refine va ?_;refine va ?_;refine vb ?_;refine asd ?_;refine .nil ?_;refine AL.gk [0,2,4,10,11] ?_
  exact ih (k,x7,s4,(w64 (s5-s4))) h (Nat.lt_succ_self _)
 rintro ⟨z1,z2⟩ h
 try dsimp only at h ⊢
 subst hK0
 refine .region ?_;refine mvo ?_;refine va ?_;refine va ?_;refine vb ?_;refine va ?_;refine va ?_;refine va ?_
 obtain ⟨x8,g8,h⟩:=bnd h
 refine LX (Is x8) ?_ (FY oa4 g8) Tryz.call276
 refine RL.gk [0,2,4,10,51,52,53,54,55,56,57] ?_;refine .nil ?_
 cases h
 exact M7 rfl rfl
def CV (a0:(List Int)) (a1:Int) (a4:An) (K1:Int→Option ((List Int))) : Nat→Int→Int→Option ((List Int))
 | 0,_,_=>none
 | k+1,s2,s3=>(if s2<s3 then ((rd? a0 (IntKind.wrap .i64 ((IntKind.wrap .u64 (w64 (s2+s3))) / 2 ^ min (Int.toNat 1) (IntKind.bits .u64)))).bind fun x4=>((rd? a0 a1).bind fun x5=>((a4.g (x4,x5)).bind fun x6=>(if x6<0 then (CV a0 a1 a4 K1 k (w64 ((IntKind.wrap .i64 ((IntKind.wrap .u64 (w64 (s2+s3))) / 2 ^ min (Int.toNat 1) (IntKind.bits .u64)))+1)) s3) else (CV a0 a1 a4 K1 k s2 (IntKind.wrap .i64 ((IntKind.wrap .u64 (w64 (s2+s3))) / 2 ^ min (Int.toNat 1) (IntKind.bits .u64)))))))) else (K1 s2))
def DD (z1:Int) (K3:(List Int)→Option ((List Int))) : Nat→(List Int)→Int→Option ((List Int))
 | 0,_,_=>none
 | k+1,s8,s9=>(if s9<(w64 (z1-1)) then ((rd? s8 (w64 (s9+1))).bind fun x10=>((rd? s8 s9).bind fun x11=>((rd? s8 s9).bind fun x12=>((rd? (List.set s8 (Int.toNat s9) x10) (w64 (s9+1))).bind fun x13=>(DD z1 K3 k (List.set (List.set s8 (Int.toNat s9) x10) (Int.toNat (w64 (s9+1))) x11) (w64 (s9+1))))))) else (K3 s8))
def CT (a0:(List Int)) (a2:Int) (a4:An) (K6:Int→Option ((List Int))) : Nat→Int→Int→Option ((List Int))
 | 0,_,_=>none
 | k+1,s15,s16=>(if s15<s16 then ((rd? a0 a2).bind fun x17=>((rd? a0 (IntKind.wrap .i64 ((IntKind.wrap .u64 (w64 (s15+s16))) / 2 ^ min (Int.toNat 1) (IntKind.bits .u64)))).bind fun x18=>((a4.g (x17,x18)).bind fun x19=>(if x19<0 then (CT a0 a2 a4 K6 k s15 (IntKind.wrap .i64 ((IntKind.wrap .u64 (w64 (s15+s16))) / 2 ^ min (Int.toNat 1) (IntKind.bits .u64)))) else (CT a0 a2 a4 K6 k (w64 ((IntKind.wrap .i64 ((IntKind.wrap .u64 (w64 (s15+s16))) / 2 ^ min (Int.toNat 1) (IntKind.bits .u64)))+1)) s16))))) else (K6 s15))
def DG (z14:Int) (K8:(List Int)→Option ((List Int))) : Nat→(List Int)→Int→Option ((List Int))
 | 0,_,_=>none
 | k+1,s21,s22=>(if z14<s22 then ((rd? s21 (w64 (s22-1))).bind fun x23=>((rd? s21 s22).bind fun x24=>((rd? s21 s22).bind fun x25=>((rd? (List.set s21 (Int.toNat s22) x23) (w64 (s22-1))).bind fun x26=>(DG z14 K8 k (List.set (List.set s21 (Int.toNat s22) x23) (Int.toNat (w64 (s22-1))) x24) (w64 (s22-1))))))) else (K8 s21))
def CK (a0:(List Int)) (a1:Int) (a2:Int) (a3:Int) (a4:An) (K11:Int→Option ((List Int))) : Nat→Int→Int→Option ((List Int))
 | 0,_,_=>none
 | k+1,s30,s31=>(if s30<s31 then ((rd? a0 (w64 ((w64 ((w64 ((IntKind.wrap .i64 ((IntKind.wrap .u64 (w64 (a1+a3))) / 2 ^ min (Int.toNat 1) (IntKind.bits .u64)))+a2))-1))-(IntKind.wrap .i64 ((IntKind.wrap .u64 (w64 (s30+s31))) / 2 ^ min (Int.toNat 1) (IntKind.bits .u64)))))).bind fun x32=>((rd? a0 (IntKind.wrap .i64 ((IntKind.wrap .u64 (w64 (s30+s31))) / 2 ^ min (Int.toNat 1) (IntKind.bits .u64)))).bind fun x33=>((a4.g (x32,x33)).bind fun x34=>(if x34<0 then (CK a0 a1 a2 a3 a4 K11 k s30 (IntKind.wrap .i64 ((IntKind.wrap .u64 (w64 (s30+s31))) / 2 ^ min (Int.toNat 1) (IntKind.bits .u64)))) else (CK a0 a1 a2 a3 a4 K11 k (w64 ((IntKind.wrap .i64 ((IntKind.wrap .u64 (w64 (s30+s31))) / 2 ^ min (Int.toNat 1) (IntKind.bits .u64)))+1)) s31))))) else (K11 s30))
def Ga (rc_slices_symMergeCmpFunc_int:(List Int)→Int→Int→Int→An→Option ((List Int))) (a0:(List Int)) (a1:Int) (a2:Int) (a3:Int) (a4:An) : Option ((List Int)):=(jn ((jn ((jn (fun (z27:Int) (z28:Int)=>(jn (fun (z29:Int)=>(jn (fun (z35:(List Int))=>(jn (fun (z37:(List Int))=>(if ((decide ((IntKind.wrap .i64 ((IntKind.wrap .u64 (w64 (a1+a3))) / 2 ^ min (Int.toNat 1) (IntKind.bits .u64)))<(w64 ((w64 ((IntKind.wrap .i64 ((IntKind.wrap .u64 (w64 (a1+a3))) / 2 ^ min (Int.toNat 1) (IntKind.bits .u64)))+a2))-z29))))&&(decide ((w64 ((w64 ((IntKind.wrap .i64 ((IntKind.wrap .u64 (w64 (a1+a3))) / 2 ^ min (Int.toNat 1) (IntKind.bits .u64)))+a2))-z29))<a3)))=true then ((rc_slices_symMergeCmpFunc_int z37 (IntKind.wrap .i64 ((IntKind.wrap .u64 (w64 (a1+a3))) / 2 ^ min (Int.toNat 1) (IntKind.bits .u64))) (w64 ((w64 ((IntKind.wrap .i64 ((IntKind.wrap .u64 (w64 (a1+a3))) / 2 ^ min (Int.toNat 1) (IntKind.bits .u64)))+a2))-z29)) a3 a4).bind fun x39=>(some x39)) else (some z37))) fun K14=>(if ((decide (a1<z29))&&(decide (z29<(IntKind.wrap .i64 ((IntKind.wrap .u64 (w64 (a1+a3))) / 2 ^ min (Int.toNat 1) (IntKind.bits .u64))))))=true then ((rc_slices_symMergeCmpFunc_int z35 a1 z29 (IntKind.wrap .i64 ((IntKind.wrap .u64 (w64 (a1+a3))) / 2 ^ min (Int.toNat 1) (IntKind.bits .u64))) a4).bind fun x38=>(K14 x38)) else (K14 z35)))) fun K13=>(if ((decide (z29<a2))&&(decide (a2<(w64 ((w64 ((IntKind.wrap .i64 ((IntKind.wrap .u64 (w64 (a1+a3))) / 2 ^ min (Int.toNat 1) (IntKind.bits .u64)))+a2))-z29)))))=true then ((KT a0 z29 a2 (w64 ((w64 ((IntKind.wrap .i64 ((IntKind.wrap .u64 (w64 (a1+a3))) / 2 ^ min (Int.toNat 1) (IntKind.bits .u64)))+a2))-z29)) a4).bind fun x36=>(K13 x36)) else (K13 a0)))) fun K11=>(CK a0 a1 a2 a3 a4 K11 AC z27 z28))) fun K10=>(if (IntKind.wrap .i64 ((IntKind.wrap .u64 (w64 (a1+a3))) / 2 ^ min (Int.toNat 1) (IntKind.bits .u64)))<a2 then (K10 (w64 ((w64 ((IntKind.wrap .i64 ((IntKind.wrap .u64 (w64 (a1+a3))) / 2 ^ min (Int.toNat 1) (IntKind.bits .u64)))+a2))-a3)) (IntKind.wrap .i64 ((IntKind.wrap .u64 (w64 (a1+a3))) / 2 ^ min (Int.toNat 1) (IntKind.bits .u64)))) else (K10 a1 a2)))) fun K5=>(if (w64 (a3-a2))=1 then (jn (fun (z14:Int)=>(jn (fun (z20:(List Int))=>(some z20)) fun K8=>(DG z14 K8 AC a0 a2))) fun K6=>(CT a0 a2 a4 K6 AC a1 a2)) else (K5)))) fun K0=>(if (w64 (a2-a1))=1 then (jn (fun (z1:Int)=>(jn (fun (z7:(List Int))=>(some z7)) fun K3=>(DD z1 K3 AC a0 a1))) fun K1=>(CV a0 a1 a4 K1 AC a2 a3)) else (K0)))
set_option maxHeartbeats 4000000 in
theorem LV {rc_slices_symMergeCmpFunc_int:(List Int)→Int→Int→Int→An→Option ((List Int))} (orc_slices_symMergeCmpFunc_int:∀ x0 x1 x2 x3 x4 r,BD x4→rc_slices_symMergeCmpFunc_int x0 x1 x2 x3 x4=some r→FnG Tryz.prog 229 [.own 3 (Is x0),.d (.i .i64 x1),.d (.i .i64 x2),.d (.i .i64 x3),.d (x4.dv)] [] (.tup []) [.own 3 (Is r)] []) {a0:(List Int)} {a1:Int} {a2:Int} {a3:Int} {a4:An} (oa4:BD a4) {r:(List Int)} (h:Ga rc_slices_symMergeCmpFunc_int a0 a1 a2 a3 a4=some r) :
  FnG Tryz.prog 229 [.own 3 (Is a0),.d (.i .i64 a1),.d (.i .i64 a2),.d (.i .i64 a3),.d (a4.dv)] [] (.tup []) [.own 3 (Is r)] []:=by
 unfold Ga at h
 refine FnG.of (rs:=[]) 1 220 Tryz.func229 rfl rfl rfl (by simp) (by simp) (by simp) ?_;refine .seq ?_;refine .sr ?_;refine va ?_;refine va ?_;refine vb ?_;refine vb ?_;refine rk [0,1,2,3,4,28] ?_
 obtain ⟨K0,hK0,h⟩:=AE h
 refine AW.mr (σ:=Unit) (fun p=>K0=some r) (fun p=>[(0,.own 3 (Is a0)),(1,.d (.i .i64 a1)),(2,.d (.i .i64 a2)),(3,.d (.i .i64 a3)),(4,.d (a4.dv))]) (fun p=>[]) ?_ ?_
 ·skip
  rcases brc h with ⟨hc,h⟩|⟨hc,h⟩
  ·refine cnt (dT hc) ?_
   refine .sr ?_;refine va ?_;refine ar [0,1,2,3,4,10] ?_;refine .sr ?_;refine va ?_;refine ar [0,1,2,3,4,10,11] ?_
   obtain ⟨K1,hK1,h⟩:=AE h
   refine AW.mj (σ:=Int) (fun p=>K1 p=some r) (fun p=>[(0,.own 3 (Is a0)),(1,.d (.i .i64 a1)),(2,.d (.i .i64 a2)),(3,.d (.i .i64 a3)),(4,.d (a4.dv)),(10,.d (.i .i64 p))]) (fun p=>[]) ?_ ?_
   ·skip
    refine .block ?_
    refine .loop (.gk [0,1,2,3,4,10,11] ?_)
    refine AL.ind (σ:=Nat×Int×Int) (m:=fun p=>p.1) (e:=fun p=>[(0,.own 3 (Is a0)),(1,.d (.i .i64 a1)),(2,.d (.i .i64 a2)),(3,.d (.i .i64 a3)),(4,.d (a4.dv)),(10,.d (.i .i64 p.2.1)),(11,.d (.i .i64 p.2.2))]) (h:=fun p=>[]) (I:=fun p=>CV a0 a1 a4 K1 p.1 p.2.1 p.2.2=some r) ?_ (AC,a2,a3) h
    rintro ⟨k,s2,s3⟩ h ih
    dsimp only at h ih ⊢
    rcases k with _|k
    ·rw [CV] at h;cases h
    rw [CV] at h
    refine .seq ?_;refine .sr ?_;refine va ?_;refine va ?_;refine vb ?_;refine rk [0,1,2,3,4,10,11,33] ?_
    rcases brc h with ⟨hc,h⟩|⟨hc,h⟩
    ·refine cnt (dT hc) ?_
     refine .sk ?_;refine .block ?_;refine .sr ?_;refine va ?_;refine va ?_;refine vb ?_;refine vk (vcv Hz GT) ?_;refine vk (Ip (c:=(0:Int)≤1) (by decide)) ?_;refine vk (vcv GT Hz) ?_;refine ar [0,1,2,3,4,10,11,12] ?_;refine .seq ?_;refine .drawn 11 A3 (by kernel_rfl) ?_;refine dv Ac ?_;refine dv Ej ?_;refine dv Ac ?_
     obtain ⟨x4,g4,h⟩:=bnd h
     obtain ⟨n4,p04,q4⟩:=Ag g4
     refine dv (FK (off:=0) (len:=(Is a0).length) n4 p04 (by rw [Af];exact (lS.1 q4).1) A9 (by decide)) ?_;refine dv (G7 (i:=0+n4) (j:=0) (xs:=Is a0) (.i .i64 x4) ⟨_,by rw [Nat.zero_add];exact Be q4,rfl⟩ AF) ?_;refine dv Ej ?_;refine dv Ac ?_
     obtain ⟨x5,g5,h⟩:=bnd h
     obtain ⟨n5,p05,q5⟩:=Ag g5
     refine dv (FK (off:=0) (len:=(Is a0).length) n5 p05 (by rw [Af];exact (lS.1 q5).1) A9 (by decide)) ?_;refine dv (G7 (i:=0+n5) (j:=0) (xs:=Is a0) (.i .i64 x5) ⟨_,by rw [Nat.zero_add];exact Be q5,rfl⟩ AF) ?_
     obtain ⟨x6,g6,h⟩:=bnd h
     refine dv (Mq (oa4 _ _ g6)) ?_;refine dv vbi ?_;refine dz ?_;refine rk [0,1,2,3,4,10,11,12,50] ?_
     rcases brc h with ⟨hc,h⟩|⟨hc,h⟩
     ·refine cnt (dT hc) ?_
      refine .region ?_;refine va ?_;refine vb ?_;refine asd ?_;refine .nil ?_;refine AL.gk [0,1,2,3,4,10,11] ?_
      exact ih (k,(w64 ((IntKind.wrap .i64 ((IntKind.wrap .u64 (w64 (s2+s3))) / 2 ^ min (Int.toNat 1) (IntKind.bits .u64)))+1)),s3) h (Nat.lt_succ_self _)
     refine cnf (dF hc) ?_;refine .region ?_;refine va ?_;refine asd ?_;refine .nil ?_;refine AL.gk [0,1,2,3,4,10,11] ?_
     exact ih (k,s2,(IntKind.wrap .i64 ((IntKind.wrap .u64 (w64 (s2+s3))) / 2 ^ min (Int.toNat 1) (IntKind.bits .u64)))) h (Nat.lt_succ_self _)
    refine cnf (dF hc) ?_;refine .gk [0,1,2,3,4,10] ?_;refine .exit ?_
    exact jr (s2) h
   rintro z1 h
   try dsimp only at h ⊢
   subst hK1
   refine .seq ?_;refine .sr ?_;refine va ?_;refine ar [0,1,2,3,4,10,13] ?_
   obtain ⟨K3,hK3,h⟩:=AE h
   refine AW.mr (σ:=(List Int)) (fun p=>K3 p=some r) (fun p=>[(0,.own 3 (Is p)),(1,.d (.i .i64 a1)),(2,.d (.i .i64 a2)),(3,.d (.i .i64 a3)),(4,.d (a4.dv))]) (fun p=>[]) ?_ ?_
   ·skip
    refine .block ?_
    refine .loop (.gk [0,1,2,3,4,10,13] ?_)
    refine AL.ind (σ:=Nat×(List Int)×Int) (m:=fun p=>p.1) (e:=fun p=>[(0,.own 3 (Is p.2.1)),(1,.d (.i .i64 a1)),(2,.d (.i .i64 a2)),(3,.d (.i .i64 a3)),(4,.d (a4.dv)),(10,.d (.i .i64 z1)),(13,.d (.i .i64 p.2.2))]) (h:=fun p=>[]) (I:=fun p=>DD z1 K3 p.1 p.2.1 p.2.2=some r) ?_ (AC,a0,a1) h
    rintro ⟨k,s8,s9⟩ h ih
    dsimp only at h ih ⊢
    rcases k with _|k
    ·rw [DD] at h;cases h
    rw [DD] at h
    refine .seq ?_;refine .sr ?_;refine va ?_;refine va ?_;refine vb ?_;refine vb ?_;refine rk [0,1,2,3,4,10,13,58] ?_
    rcases brc h with ⟨hc,h⟩|⟨hc,h⟩
    ·refine cnt (dT hc) ?_
     refine .sk ?_;refine .seq ?_;refine .block ?_
     obtain ⟨x10,g10,h⟩:=bnd h
     obtain ⟨x11,g11,h⟩:=bnd h
     obtain ⟨x12,g12,h⟩:=bnd h
     refine .drawnF 15 [2,3,4] [(0,.own 3 ((Is s8).set (Int.toNat s9) (.i .i64 x10)))] [] A3 (by kernel_rfl) rfl ?_;refine dv Ej ?_;refine dv Ac ?_;refine dv Ej ?_;refine dv Ac ?_;refine dv vbi ?_;refine dv Ej ?_;refine dv Ac ?_;refine dv vbi ?_
     obtain ⟨n10,p010,q10⟩:=Ag g10
     refine dv (FK (off:=0) (len:=(Is s8).length) n10 p010 (by rw [Af];exact (lS.1 q10).1) A9 (by decide)) ?_;refine dv (G7 (i:=0+n10) (j:=0) (xs:=Is s8) (.i .i64 x10) ⟨_,by rw [Nat.zero_add];exact Be q10,rfl⟩ AF) ?_;refine dv Ej ?_;refine dv Ac ?_
     obtain ⟨n11,p011,q11⟩:=Ag g11
     refine dv (FK (off:=0) (len:=(Is s8).length) n11 p011 (by rw [Af];exact (lS.1 q11).1) A9 (by decide)) ?_;refine dv (G7 (i:=0+n11) (j:=0) (xs:=Is s8) (.i .i64 x11) ⟨_,by rw [Nat.zero_add];exact Be q11,rfl⟩ AF) ?_
     obtain ⟨n12,p012,q12⟩:=Ag g12
     refine dv (FK (off:=0) (len:=(Is s8).length) n12 p012 (by rw [Af];exact (lS.1 q12).1) A9 (by decide)) ?_;refine dz ?_
     refine ⟨?_,?_,?_⟩
     ·intro k hk
      simp only [List.mem_cons,List.not_mem_nil,or_false] at hk
      rcases hk with rfl|rfl|rfl
      ·exact ⟨_,_,_,rfl,rfl,rfl,rfl,rfl,rfl,(show VOK _ _ _ _ _ (.ref (.t 0) 0 (Is s8).length) from by rw [show (Is s8).length=((Is s8).set (Int.toNat s9) (.i .i64 x10)).length by rw [List.length_set]];exact Ej)⟩
      ·exact ⟨_,_,_,rfl,rfl,rfl,rfl,rfl,rfl,Ac⟩
      ·exact ⟨_,_,_,rfl,rfl,rfl,rfl,rfl,rfl,vbi⟩
     ·intro om e hom hge
      cases hom
      refine Hg (x:=.tmp 75) (y:=.tmp 70) (r:=75) (ay:=.t 70) (p:=.t 0) (i:=0+n12) (k:=0) (v:=.i .i64 x10) (x':=.i .i64 x10) rfl rfl rfl rfl C6 ((hge 75 (fun k hk v hv=>by
        simp only [List.mem_cons,List.not_mem_nil,or_false] at hk
        rcases hk with rfl|rfl|rfl
        ·exact (by decide:¬(some 63=some 75)) (congrArg (Option.map Prod.fst) hv)
        ·exact (by decide:¬(some 64=some 75)) (congrArg (Option.map Prod.fst) hv)
        ·exact (by decide:¬(some 65=some 75)) (congrArg (Option.map Prod.fst) hv))).trans rfl) ((hge 0 (fun k hk v hv=>by
        simp only [List.mem_cons,List.not_mem_nil,or_false] at hk
        rcases hk with rfl|rfl|rfl
        ·exact (by decide:¬(some 63=some 0)) (congrArg (Option.map Prod.fst) hv)
        ·exact (by decide:¬(some 64=some 0)) (congrArg (Option.map Prod.fst) hv)
        ·exact (by decide:¬(some 65=some 0)) (congrArg (Option.map Prod.fst) hv))).trans rfl) (fun _ _ h=>by cases h) ((hge 70 (fun k hk v hv=>by
        simp only [List.mem_cons,List.not_mem_nil,or_false] at hk
        rcases hk with rfl|rfl|rfl
        ·exact (by decide:¬(some 63=some 70)) (congrArg (Option.map Prod.fst) hv)
        ·exact (by decide:¬(some 64=some 70)) (congrArg (Option.map Prod.fst) hv)
        ·exact (by decide:¬(some 65=some 70)) (congrArg (Option.map Prod.fst) hv))).trans rfl) rfl ?_ ⟨by rw [show Int.toNat s9=0+n12 from by rw [p012];simp];rfl,rfl⟩
      rw [Nat.zero_add,lD,Be q12];rfl
     rw [show (Is s8).set (Int.toNat s9) (.i .i64 x10)=Is (List.set s8 (Int.toNat s9) x10) from Fk _ _ _]
     refine RL.gk [0,1,2,3,4,10,13,58,61,62,63,64,65,66,67,68,70,71,72,74] ?_
     obtain ⟨x13,g13,h⟩:=bnd h
     obtain ⟨n13,p013,q13⟩:=Ag g13
     refine ixr (off:=0) (len:=(Is s8).length) n13 p013 (by rw [Af];simpa using (lS.1 q13).1) ?_ A9 (by decide)
     refine OX (F:=Is) (D:=fun x=>.i .i64 x) Fk (us:=(List.set s8 (Int.toNat s9) x10)) (n:=n13) (m:=Int.toNat (w64 (s9+1))) (x:=x11) (by rw [p013];rfl) ⟨_,by rw [Nat.zero_add];exact Be q13,rfl⟩ ?_ C6
     refine RL.gk [0,1,2,3,4,10,13,58,61,62,63,64,65,66,67,68,70,71,72,74] ?_;refine .nil ?_;refine aw ?_;refine .gk [0,1,2,3,4,10,13] ?_;refine .region ?_;refine va ?_;refine vb ?_;refine asd ?_;refine .nil ?_;refine AL.gk [0,1,2,3,4,10,13] ?_
     exact ih (k,(List.set (List.set s8 (Int.toNat s9) x10) (Int.toNat (w64 (s9+1))) x11),(w64 (s9+1))) h (Nat.lt_succ_self _)
    refine cnf (dF hc) ?_;refine .gk [0,1,2,3,4] ?_;refine .exit ?_
    exact jr (s8) h
   rintro z7 h
   try dsimp only at h ⊢
   subst hK3
   refine aw ?_;refine .ret ?_
   cases h
   exact Ys rfl rfl
  refine cnf (dF hc) ?_;refine .gk [0,1,2,3,4] ?_;refine .skip ?_
  exact jr () h
 rintro _ h
 subst hK0
 refine aw ?_;refine .seq ?_;refine .sr ?_;refine va ?_;refine va ?_;refine vb ?_;refine vb ?_;refine rk [0,1,2,3,4,80] ?_
 obtain ⟨K5,hK5,h⟩:=AE h
 refine AW.mr (σ:=Unit) (fun p=>K5=some r) (fun p=>[(0,.own 3 (Is a0)),(1,.d (.i .i64 a1)),(2,.d (.i .i64 a2)),(3,.d (.i .i64 a3)),(4,.d (a4.dv))]) (fun p=>[]) ?_ ?_
 ·skip
  rcases brc h with ⟨hc,h⟩|⟨hc,h⟩
  ·refine cnt (dT hc) ?_
   refine .sr ?_;refine va ?_;refine ar [0,1,2,3,4,14] ?_;refine .sr ?_;refine va ?_;refine ar [0,1,2,3,4,14,15] ?_
   obtain ⟨K6,hK6,h⟩:=AE h
   refine AW.mj (σ:=Int) (fun p=>K6 p=some r) (fun p=>[(0,.own 3 (Is a0)),(1,.d (.i .i64 a1)),(2,.d (.i .i64 a2)),(3,.d (.i .i64 a3)),(4,.d (a4.dv)),(14,.d (.i .i64 p))]) (fun p=>[]) ?_ ?_
   ·skip
    refine .block ?_
    refine .loop (.gk [0,1,2,3,4,14,15] ?_)
    refine AL.ind (σ:=Nat×Int×Int) (m:=fun p=>p.1) (e:=fun p=>[(0,.own 3 (Is a0)),(1,.d (.i .i64 a1)),(2,.d (.i .i64 a2)),(3,.d (.i .i64 a3)),(4,.d (a4.dv)),(14,.d (.i .i64 p.2.1)),(15,.d (.i .i64 p.2.2))]) (h:=fun p=>[]) (I:=fun p=>CT a0 a2 a4 K6 p.1 p.2.1 p.2.2=some r) ?_ (AC,a1,a2) h
    rintro ⟨k,s15,s16⟩ h ih
    dsimp only at h ih ⊢
    rcases k with _|k
    ·rw [CT] at h;cases h
    rw [CT] at h
    refine .seq ?_;refine .sr ?_;refine va ?_;refine va ?_;refine vb ?_;refine rk [0,1,2,3,4,14,15,85] ?_
    rcases brc h with ⟨hc,h⟩|⟨hc,h⟩
    ·refine cnt (dT hc) ?_
     refine .sk ?_;refine .block ?_;refine .sr ?_;refine va ?_;refine va ?_;refine vb ?_;refine vk (vcv Hz GT) ?_;refine vk (Ip (c:=(0:Int)≤1) (by decide)) ?_;refine vk (vcv GT Hz) ?_;refine ar [0,1,2,3,4,14,15,16] ?_;refine .seq ?_;refine .drawn 12 A3 (by kernel_rfl) ?_;refine dv Ac ?_;refine dv Ej ?_;refine dv Ac ?_
     obtain ⟨x17,g17,h⟩:=bnd h
     obtain ⟨n17,p017,q17⟩:=Ag g17
     refine dv (FK (off:=0) (len:=(Is a0).length) n17 p017 (by rw [Af];exact (lS.1 q17).1) A9 (by decide)) ?_;refine dv (G7 (i:=0+n17) (j:=0) (xs:=Is a0) (.i .i64 x17) ⟨_,by rw [Nat.zero_add];exact Be q17,rfl⟩ AF) ?_;refine dv Ej ?_;refine dv Ac ?_
     obtain ⟨x18,g18,h⟩:=bnd h
     obtain ⟨n18,p018,q18⟩:=Ag g18
     refine dv (FK (off:=0) (len:=(Is a0).length) n18 p018 (by rw [Af];exact (lS.1 q18).1) A9 (by decide)) ?_;refine dv (G7 (i:=0+n18) (j:=0) (xs:=Is a0) (.i .i64 x18) ⟨_,by rw [Nat.zero_add];exact Be q18,rfl⟩ AF) ?_
     obtain ⟨x19,g19,h⟩:=bnd h
     refine dv (Mq (oa4 _ _ g19)) ?_;refine dv vbi ?_;refine dv vnt ?_;refine dz ?_;refine rk [0,1,2,3,4,14,15,16,103] ?_
     rcases brc h with ⟨hc,h⟩|⟨hc,h⟩
     ·refine cnf (ntf (dT hc)) ?_
      refine .region ?_;refine va ?_;refine asd ?_;refine .nil ?_;refine AL.gk [0,1,2,3,4,14,15] ?_
      exact ih (k,s15,(IntKind.wrap .i64 ((IntKind.wrap .u64 (w64 (s15+s16))) / 2 ^ min (Int.toNat 1) (IntKind.bits .u64)))) h (Nat.lt_succ_self _)
     refine cnt (ntt (dF hc)) ?_;refine .region ?_;refine va ?_;refine vb ?_;refine asd ?_;refine .nil ?_;refine AL.gk [0,1,2,3,4,14,15] ?_
     exact ih (k,(w64 ((IntKind.wrap .i64 ((IntKind.wrap .u64 (w64 (s15+s16))) / 2 ^ min (Int.toNat 1) (IntKind.bits .u64)))+1)),s16) h (Nat.lt_succ_self _)
    refine cnf (dF hc) ?_;refine .gk [0,1,2,3,4,14] ?_;refine .exit ?_
    exact jr (s15) h
   rintro z14 h
   try dsimp only at h ⊢
   subst hK6
   refine .seq ?_;refine .sr ?_;refine va ?_;refine ar [0,1,2,3,4,14,17] ?_
   obtain ⟨K8,hK8,h⟩:=AE h
   refine AW.mr (σ:=(List Int)) (fun p=>K8 p=some r) (fun p=>[(0,.own 3 (Is p)),(1,.d (.i .i64 a1)),(2,.d (.i .i64 a2)),(3,.d (.i .i64 a3)),(4,.d (a4.dv))]) (fun p=>[]) ?_ ?_
   ·skip
    refine .block ?_
    refine .loop (.gk [0,1,2,3,4,14,17] ?_)
    refine AL.ind (σ:=Nat×(List Int)×Int) (m:=fun p=>p.1) (e:=fun p=>[(0,.own 3 (Is p.2.1)),(1,.d (.i .i64 a1)),(2,.d (.i .i64 a2)),(3,.d (.i .i64 a3)),(4,.d (a4.dv)),(14,.d (.i .i64 z14)),(17,.d (.i .i64 p.2.2))]) (h:=fun p=>[]) (I:=fun p=>DG z14 K8 p.1 p.2.1 p.2.2=some r) ?_ (AC,a0,a2) h
    rintro ⟨k,s21,s22⟩ h ih
    dsimp only at h ih ⊢
    rcases k with _|k
    ·rw [DG] at h;cases h
    rw [DG] at h
    refine .seq ?_;refine .sr ?_;refine va ?_;refine va ?_;refine vb ?_;refine rk [0,1,2,3,4,14,17,110] ?_
    rcases brc h with ⟨hc,h⟩|⟨hc,h⟩
    ·refine cnt (dT hc) ?_
     refine .sk ?_;refine .seq ?_;refine .block ?_
     obtain ⟨x23,g23,h⟩:=bnd h
     obtain ⟨x24,g24,h⟩:=bnd h
     obtain ⟨x25,g25,h⟩:=bnd h
     refine .drawnF 15 [2,3,4] [(0,.own 3 ((Is s21).set (Int.toNat s22) (.i .i64 x23)))] [] A3 (by kernel_rfl) rfl ?_;refine dv Ej ?_;refine dv Ac ?_;refine dv Ej ?_;refine dv Ac ?_;refine dv vbi ?_;refine dv Ej ?_;refine dv Ac ?_;refine dv vbi ?_
     obtain ⟨n23,p023,q23⟩:=Ag g23
     refine dv (FK (off:=0) (len:=(Is s21).length) n23 p023 (by rw [Af];exact (lS.1 q23).1) A9 (by decide)) ?_;refine dv (G7 (i:=0+n23) (j:=0) (xs:=Is s21) (.i .i64 x23) ⟨_,by rw [Nat.zero_add];exact Be q23,rfl⟩ AF) ?_;refine dv Ej ?_;refine dv Ac ?_
     obtain ⟨n24,p024,q24⟩:=Ag g24
     refine dv (FK (off:=0) (len:=(Is s21).length) n24 p024 (by rw [Af];exact (lS.1 q24).1) A9 (by decide)) ?_;refine dv (G7 (i:=0+n24) (j:=0) (xs:=Is s21) (.i .i64 x24) ⟨_,by rw [Nat.zero_add];exact Be q24,rfl⟩ AF) ?_
     obtain ⟨n25,p025,q25⟩:=Ag g25
     refine dv (FK (off:=0) (len:=(Is s21).length) n25 p025 (by rw [Af];exact (lS.1 q25).1) A9 (by decide)) ?_;refine dz ?_
     refine ⟨?_,?_,?_⟩
     ·intro k hk
      simp only [List.mem_cons,List.not_mem_nil,or_false] at hk
      rcases hk with rfl|rfl|rfl
      ·exact ⟨_,_,_,rfl,rfl,rfl,rfl,rfl,rfl,(show VOK _ _ _ _ _ (.ref (.t 0) 0 (Is s21).length) from by rw [show (Is s21).length=((Is s21).set (Int.toNat s22) (.i .i64 x23)).length by rw [List.length_set]];exact Ej)⟩
      ·exact ⟨_,_,_,rfl,rfl,rfl,rfl,rfl,rfl,Ac⟩
      ·exact ⟨_,_,_,rfl,rfl,rfl,rfl,rfl,rfl,vbi⟩
     ·intro om e hom hge
      cases hom
      refine Hg (x:=.tmp 127) (y:=.tmp 122) (r:=127) (ay:=.t 122) (p:=.t 0) (i:=0+n25) (k:=0) (v:=.i .i64 x23) (x':=.i .i64 x23) rfl rfl rfl rfl C6 ((hge 127 (fun k hk v hv=>by
        simp only [List.mem_cons,List.not_mem_nil,or_false] at hk
        rcases hk with rfl|rfl|rfl
        ·exact (by decide:¬(some 115=some 127)) (congrArg (Option.map Prod.fst) hv)
        ·exact (by decide:¬(some 116=some 127)) (congrArg (Option.map Prod.fst) hv)
        ·exact (by decide:¬(some 117=some 127)) (congrArg (Option.map Prod.fst) hv))).trans rfl) ((hge 0 (fun k hk v hv=>by
        simp only [List.mem_cons,List.not_mem_nil,or_false] at hk
        rcases hk with rfl|rfl|rfl
        ·exact (by decide:¬(some 115=some 0)) (congrArg (Option.map Prod.fst) hv)
        ·exact (by decide:¬(some 116=some 0)) (congrArg (Option.map Prod.fst) hv)
        ·exact (by decide:¬(some 117=some 0)) (congrArg (Option.map Prod.fst) hv))).trans rfl) (fun _ _ h=>by cases h) ((hge 122 (fun k hk v hv=>by
        simp only [List.mem_cons,List.not_mem_nil,or_false] at hk
        rcases hk with rfl|rfl|rfl
        ·exact (by decide:¬(some 115=some 122)) (congrArg (Option.map Prod.fst) hv)
        ·exact (by decide:¬(some 116=some 122)) (congrArg (Option.map Prod.fst) hv)
        ·exact (by decide:¬(some 117=some 122)) (congrArg (Option.map Prod.fst) hv))).trans rfl) rfl ?_ ⟨by rw [show Int.toNat s22=0+n25 from by rw [p025];simp];rfl,rfl⟩
      rw [Nat.zero_add,lD,Be q25];rfl
     rw [show (Is s21).set (Int.toNat s22) (.i .i64 x23)=Is (List.set s21 (Int.toNat s22) x23) from Fk _ _ _]
     refine RL.gk [0,1,2,3,4,14,17,110,113,114,115,116,117,118,119,120,122,123,124,126] ?_
     obtain ⟨x26,g26,h⟩:=bnd h
     obtain ⟨n26,p026,q26⟩:=Ag g26
     refine ixr (off:=0) (len:=(Is s21).length) n26 p026 (by rw [Af];simpa using (lS.1 q26).1) ?_ A9 (by decide)
     refine OX (F:=Is) (D:=fun x=>.i .i64 x) Fk (us:=(List.set s21 (Int.toNat s22) x23)) (n:=n26) (m:=Int.toNat (w64 (s22-1))) (x:=x24) (by rw [p026];rfl) ⟨_,by rw [Nat.zero_add];exact Be q26,rfl⟩ ?_ C6
     refine RL.gk [0,1,2,3,4,14,17,110,113,114,115,116,117,118,119,120,122,123,124,126] ?_;refine .nil ?_;refine aw ?_;refine .gk [0,1,2,3,4,14,17] ?_;refine .region ?_;refine va ?_;refine vb ?_;refine asd ?_;refine .nil ?_;refine AL.gk [0,1,2,3,4,14,17] ?_
     exact ih (k,(List.set (List.set s21 (Int.toNat s22) x23) (Int.toNat (w64 (s22-1))) x24),(w64 (s22-1))) h (Nat.lt_succ_self _)
    refine cnf (dF hc) ?_;refine .gk [0,1,2,3,4] ?_;refine .exit ?_
    exact jr (s21) h
   rintro z20 h
   try dsimp only at h ⊢
   subst hK8
   refine aw ?_;refine .ret ?_
   cases h
   exact Ys rfl rfl
  refine cnf (dF hc) ?_;refine .gk [0,1,2,3,4] ?_;refine .skip ?_
  exact jr () h
 rintro _ h
 subst hK5
 refine aw ?_;refine .sr ?_;refine va ?_;refine va ?_;refine vb ?_;refine vk (vcv Hz GT) ?_;refine vk (Ip (c:=(0:Int)≤1) (by decide)) ?_;refine vk (vcv GT Hz) ?_;refine ar [0,1,2,3,4,18] ?_;refine .sr ?_;refine va ?_;refine va ?_;refine vb ?_;refine ar [0,1,2,3,4,18,19] ?_;refine .sr ?_;refine asd ?_;refine ar [0,1,2,3,4,18,19] ?_;refine .seq ?_;refine .sr ?_;refine va ?_;refine va ?_;refine vb ?_;refine rk [0,1,2,3,4,18,19,140] ?_
 obtain ⟨K10,hK10,h⟩:=AE h
 refine AW.mr (σ:=Int×Int) (fun p=>K10 p.1 p.2=some r) (fun p=>[(0,.own 3 (Is a0)),(1,.d (.i .i64 a1)),(2,.d (.i .i64 a2)),(3,.d (.i .i64 a3)),(4,.d (a4.dv)),(18,.d (.i .i64 (IntKind.wrap .i64 ((IntKind.wrap .u64 (w64 (a1+a3))) / 2 ^ min (Int.toNat 1) (IntKind.bits .u64))))),(19,.d (.i .i64 (w64 ((IntKind.wrap .i64 ((IntKind.wrap .u64 (w64 (a1+a3))) / 2 ^ min (Int.toNat 1) (IntKind.bits .u64)))+a2)))),(20,.d (.i .i64 p.1)),(21,.d (.i .i64 p.2))]) (fun p=>[]) ?_ ?_
 ·skip
  rcases brc h with ⟨hc,h⟩|⟨hc,h⟩
  ·refine cnt (dT hc) ?_
   refine .sr ?_;refine va ?_;refine va ?_;refine vb ?_;refine ar [0,1,2,3,4,18,19,20] ?_;refine .region ?_;refine va ?_;refine asd ?_;refine RL.gk [0,1,2,3,4,18,19,20,21] ?_;refine .nil ?_
   exact jr ((w64 ((w64 ((IntKind.wrap .i64 ((IntKind.wrap .u64 (w64 (a1+a3))) / 2 ^ min (Int.toNat 1) (IntKind.bits .u64)))+a2))-a3)),(IntKind.wrap .i64 ((IntKind.wrap .u64 (w64 (a1+a3))) / 2 ^ min (Int.toNat 1) (IntKind.bits .u64)))) h
  refine cnf (dF hc) ?_;refine .sr ?_;refine va ?_;refine ar [0,1,2,3,4,18,19,20] ?_;refine .region ?_;refine va ?_;refine asd ?_;refine RL.gk [0,1,2,3,4,18,19,20,21] ?_;refine .nil ?_
  exact jr (a1,a2) h
 rintro ⟨z27,z28⟩ h
 try dsimp only at h ⊢
 subst hK10
 refine aw ?_;refine .sr ?_;refine va ?_;refine vb ?_;refine ar [0,1,2,3,4,18,19,20,21,22] ?_
 obtain ⟨K11,hK11,h⟩:=AE h
 refine AW.mj (σ:=Int) (fun p=>K11 p=some r) (fun p=>[(0,.own 3 (Is a0)),(1,.d (.i .i64 a1)),(2,.d (.i .i64 a2)),(3,.d (.i .i64 a3)),(4,.d (a4.dv)),(18,.d (.i .i64 (IntKind.wrap .i64 ((IntKind.wrap .u64 (w64 (a1+a3))) / 2 ^ min (Int.toNat 1) (IntKind.bits .u64))))),(19,.d (.i .i64 (w64 ((IntKind.wrap .i64 ((IntKind.wrap .u64 (w64 (a1+a3))) / 2 ^ min (Int.toNat 1) (IntKind.bits .u64)))+a2)))),(20,.d (.i .i64 p))]) (fun p=>[]) ?_ ?_
 ·skip
  refine .block ?_
  refine .loop (.gk [0,1,2,3,4,18,19,20,21,22] ?_)
  refine AL.ind (σ:=Nat×Int×Int) (m:=fun p=>p.1) (e:=fun p=>[(0,.own 3 (Is a0)),(1,.d (.i .i64 a1)),(2,.d (.i .i64 a2)),(3,.d (.i .i64 a3)),(4,.d (a4.dv)),(18,.d (.i .i64 (IntKind.wrap .i64 ((IntKind.wrap .u64 (w64 (a1+a3))) / 2 ^ min (Int.toNat 1) (IntKind.bits .u64))))),(19,.d (.i .i64 (w64 ((IntKind.wrap .i64 ((IntKind.wrap .u64 (w64 (a1+a3))) / 2 ^ min (Int.toNat 1) (IntKind.bits .u64)))+a2)))),(20,.d (.i .i64 p.2.1)),(21,.d (.i .i64 p.2.2)),(22,.d (.i .i64 (w64 ((w64 ((IntKind.wrap .i64 ((IntKind.wrap .u64 (w64 (a1+a3))) / 2 ^ min (Int.toNat 1) (IntKind.bits .u64)))+a2))-1))))]) (h:=fun p=>[]) (I:=fun p=>CK a0 a1 a2 a3 a4 K11 p.1 p.2.1 p.2.2=some r) ?_ (AC,z27,z28) h
  rintro ⟨k,s30,s31⟩ h ih
  dsimp only at h ih ⊢
  rcases k with _|k
  ·rw [CK] at h;cases h
  rw [CK] at h
  refine .seq ?_;refine .sr ?_;refine va ?_;refine va ?_;refine vb ?_;refine rk [0,1,2,3,4,18,19,20,21,22,151] ?_
  rcases brc h with ⟨hc,h⟩|⟨hc,h⟩
  ·refine cnt (dT hc) ?_
   refine .sk ?_;refine .block ?_;refine .sr ?_;refine va ?_;refine va ?_;refine vb ?_;refine vk (vcv Hz GT) ?_;refine vk (Ip (c:=(0:Int)≤1) (by decide)) ?_;refine vk (vcv GT Hz) ?_;refine ar [0,1,2,3,4,18,19,20,21,22,23] ?_;refine .seq ?_;refine .drawn 14 A3 (by kernel_rfl) ?_;refine dv Ac ?_;refine dv Ej ?_;refine dv Ac ?_;refine dv Ac ?_;refine dv vbi ?_
   obtain ⟨x32,g32,h⟩:=bnd h
   obtain ⟨n32,p032,q32⟩:=Ag g32
   refine dv (FK (off:=0) (len:=(Is a0).length) n32 p032 (by rw [Af];exact (lS.1 q32).1) A9 (by decide)) ?_;refine dv (G7 (i:=0+n32) (j:=0) (xs:=Is a0) (.i .i64 x32) ⟨_,by rw [Nat.zero_add];exact Be q32,rfl⟩ AF) ?_;refine dv Ej ?_;refine dv Ac ?_
   obtain ⟨x33,g33,h⟩:=bnd h
   obtain ⟨n33,p033,q33⟩:=Ag g33
   refine dv (FK (off:=0) (len:=(Is a0).length) n33 p033 (by rw [Af];exact (lS.1 q33).1) A9 (by decide)) ?_;refine dv (G7 (i:=0+n33) (j:=0) (xs:=Is a0) (.i .i64 x33) ⟨_,by rw [Nat.zero_add];exact Be q33,rfl⟩ AF) ?_
   obtain ⟨x34,g34,h⟩:=bnd h
   refine dv (Mq (oa4 _ _ g34)) ?_;refine dv vbi ?_;refine dv vnt ?_;refine dz ?_;refine rk [0,1,2,3,4,18,19,20,21,22,23,171] ?_
   rcases brc h with ⟨hc,h⟩|⟨hc,h⟩
   ·refine cnf (ntf (dT hc)) ?_
    refine .region ?_;refine va ?_;refine asd ?_;refine .nil ?_;refine AL.gk [0,1,2,3,4,18,19,20,21,22] ?_
    exact ih (k,s30,(IntKind.wrap .i64 ((IntKind.wrap .u64 (w64 (s30+s31))) / 2 ^ min (Int.toNat 1) (IntKind.bits .u64)))) h (Nat.lt_succ_self _)
   refine cnt (ntt (dF hc)) ?_;refine .region ?_;refine va ?_;refine vb ?_;refine asd ?_;refine .nil ?_;refine AL.gk [0,1,2,3,4,18,19,20,21,22] ?_
   exact ih (k,(w64 ((IntKind.wrap .i64 ((IntKind.wrap .u64 (w64 (s30+s31))) / 2 ^ min (Int.toNat 1) (IntKind.bits .u64)))+1)),s31) h (Nat.lt_succ_self _)
  refine cnf (dF hc) ?_;refine .gk [0,1,2,3,4,18,19,20] ?_;refine .exit ?_
  exact jr (s30) h
 rintro z29 h
 try dsimp only at h ⊢
 subst hK11
 refine .sr ?_;refine va ?_;refine va ?_;refine vb ?_;refine ar [0,1,2,3,4,18,20,24] ?_;refine .seq ?_;refine .seq ?_;refine AW.mr (σ:=Unit) (fun _=>True) (fun _=>[(0,.own 3 (Is a0)),(1,.d (.i .i64 a1)),(2,.d (.i .i64 a2)),(3,.d (.i .i64 a3)),(4,.d (a4.dv)),(18,.d (.i .i64 (IntKind.wrap .i64 ((IntKind.wrap .u64 (w64 (a1+a3))) / 2 ^ min (Int.toNat 1) (IntKind.bits .u64))))),(20,.d (.i .i64 z29)),(24,.d (.i .i64 (w64 ((w64 ((IntKind.wrap .i64 ((IntKind.wrap .u64 (w64 (a1+a3))) / 2 ^ min (Int.toNat 1) (IntKind.bits .u64)))+a2))-z29)))),(185,.d (.b ((decide (z29<a2))&&(decide (a2<(w64 ((w64 ((IntKind.wrap .i64 ((IntKind.wrap .u64 (w64 (a1+a3))) / 2 ^ min (Int.toNat 1) (IntKind.bits .u64)))+a2))-z29)))))))]) (fun _=>[]) ?_ ?_
 ·skip
  refine .region ?_;refine va ?_;refine va ?_;refine vb ?_
  by_cases hc:z29<a2
  ·have hb0:(decide (z29<a2))=true:=(dT hc)
   refine vL hb0 ?_;refine va ?_;refine va ?_;refine vb ?_;refine vk Aq ?_;refine RL.gk [0,1,2,3,4,18,20,24,185] ?_;refine .nil ?_
   exact jr () trivial (by simp only [hb0];rfl)
  have hb0:(decide (z29<a2))=false:=(dF hc)
  refine vL hb0 ?_;refine gf3 ?_;refine vk Aq ?_;refine RL.gk [0,1,2,3,4,18,20,24,185] ?_;refine .nil ?_
  exact jr () trivial (by simp only [hb0];rfl)
 rintro _ _
 obtain ⟨K13,hK13,h⟩:=AE h
 refine AW.mr (σ:=(List Int)) (fun p=>K13 p=some r) (fun p=>[(0,.own 3 (Is p)),(1,.d (.i .i64 a1)),(3,.d (.i .i64 a3)),(4,.d (a4.dv)),(18,.d (.i .i64 (IntKind.wrap .i64 ((IntKind.wrap .u64 (w64 (a1+a3))) / 2 ^ min (Int.toNat 1) (IntKind.bits .u64))))),(20,.d (.i .i64 z29)),(24,.d (.i .i64 (w64 ((w64 ((IntKind.wrap .i64 ((IntKind.wrap .u64 (w64 (a1+a3))) / 2 ^ min (Int.toNat 1) (IntKind.bits .u64)))+a2))-z29))))]) (fun p=>[]) ?_ ?_
 ·skip
  rcases brc h with ⟨hc,h⟩|⟨hc,h⟩
  ·refine cnt hc ?_
   refine .region ?_;refine mvo ?_;refine va ?_;refine va ?_;refine va ?_;refine va ?_
   obtain ⟨x36,g36,h⟩:=bnd h
   refine LX (Is x36) ?_ (OM oa4 g36) Tryz.call260
   refine RL.gk [0,1,2,3,4,18,20,24,185,187,188,189,190,191] ?_;refine RL.gk [0,1,3,4,18,20,24] ?_;refine .nil ?_
   exact jr (x36) h
  refine cnf (bf hc) ?_;refine .gk [0,1,3,4,18,20,24] ?_;refine .skip ?_
  exact jr (a0) h
 rintro z35 h
 try dsimp only at h ⊢
 subst hK13
 refine aw ?_;refine .seq ?_;refine .seq ?_;refine AW.mr (σ:=Unit) (fun _=>True) (fun _=>[(0,.own 3 (Is z35)),(1,.d (.i .i64 a1)),(3,.d (.i .i64 a3)),(4,.d (a4.dv)),(18,.d (.i .i64 (IntKind.wrap .i64 ((IntKind.wrap .u64 (w64 (a1+a3))) / 2 ^ min (Int.toNat 1) (IntKind.bits .u64))))),(20,.d (.i .i64 z29)),(24,.d (.i .i64 (w64 ((w64 ((IntKind.wrap .i64 ((IntKind.wrap .u64 (w64 (a1+a3))) / 2 ^ min (Int.toNat 1) (IntKind.bits .u64)))+a2))-z29)))),(199,.d (.b ((decide (a1<z29))&&(decide (z29<(IntKind.wrap .i64 ((IntKind.wrap .u64 (w64 (a1+a3))) / 2 ^ min (Int.toNat 1) (IntKind.bits .u64))))))))]) (fun _=>[]) ?_ ?_
 ·skip
  refine .region ?_;refine va ?_;refine va ?_;refine vb ?_
  by_cases hc:a1<z29
  ·have hb0:(decide (a1<z29))=true:=(dT hc)
   refine vL hb0 ?_;refine va ?_;refine va ?_;refine vb ?_;refine vk Aq ?_;refine RL.gk [0,1,3,4,18,20,24,199] ?_;refine .nil ?_
   exact jr () trivial (by simp only [hb0];rfl)
  have hb0:(decide (a1<z29))=false:=(dF hc)
  refine vL hb0 ?_;refine gf3 ?_;refine vk Aq ?_;refine RL.gk [0,1,3,4,18,20,24,199] ?_;refine .nil ?_
  exact jr () trivial (by simp only [hb0];rfl)
 rintro _ _
 obtain ⟨K14,hK14,h⟩:=AE h
 refine AW.mr (σ:=(List Int)) (fun p=>K14 p=some r) (fun p=>[(0,.own 3 (Is p)),(3,.d (.i .i64 a3)),(4,.d (a4.dv)),(18,.d (.i .i64 (IntKind.wrap .i64 ((IntKind.wrap .u64 (w64 (a1+a3))) / 2 ^ min (Int.toNat 1) (IntKind.bits .u64))))),(24,.d (.i .i64 (w64 ((w64 ((IntKind.wrap .i64 ((IntKind.wrap .u64 (w64 (a1+a3))) / 2 ^ min (Int.toNat 1) (IntKind.bits .u64)))+a2))-z29))))]) (fun p=>[]) ?_ ?_
 ·skip
  rcases brc h with ⟨hc,h⟩|⟨hc,h⟩
  ·refine cnt hc ?_
   refine .region ?_;refine mvo ?_;refine va ?_;refine va ?_;refine va ?_;refine va ?_
   obtain ⟨x38,g38,h⟩:=bnd h
   refine LX (Is x38) ?_ (orc_slices_symMergeCmpFunc_int _ _ _ _ _ _ oa4 g38) Tryz.call229
   refine RL.gk [0,1,3,4,18,20,24,199,201,202,203,204,205] ?_;refine RL.gk [0,3,4,18,24] ?_;refine .nil ?_
   exact jr (x38) h
  refine cnf (bf hc) ?_;refine .gk [0,3,4,18,24] ?_;refine .skip ?_
  exact jr (z35) h
 rintro z37 h
 try dsimp only at h ⊢
 subst hK14
 refine aw ?_;refine .seq ?_;refine AW.mr (σ:=Unit) (fun _=>True) (fun _=>[(0,.own 3 (Is z37)),(3,.d (.i .i64 a3)),(4,.d (a4.dv)),(18,.d (.i .i64 (IntKind.wrap .i64 ((IntKind.wrap .u64 (w64 (a1+a3))) / 2 ^ min (Int.toNat 1) (IntKind.bits .u64))))),(24,.d (.i .i64 (w64 ((w64 ((IntKind.wrap .i64 ((IntKind.wrap .u64 (w64 (a1+a3))) / 2 ^ min (Int.toNat 1) (IntKind.bits .u64)))+a2))-z29)))),(213,.d (.b ((decide ((IntKind.wrap .i64 ((IntKind.wrap .u64 (w64 (a1+a3))) / 2 ^ min (Int.toNat 1) (IntKind.bits .u64)))<(w64 ((w64 ((IntKind.wrap .i64 ((IntKind.wrap .u64 (w64 (a1+a3))) / 2 ^ min (Int.toNat 1) (IntKind.bits .u64)))+a2))-z29))))&&(decide ((w64 ((w64 ((IntKind.wrap .i64 ((IntKind.wrap .u64 (w64 (a1+a3))) / 2 ^ min (Int.toNat 1) (IntKind.bits .u64)))+a2))-z29))<a3)))))]) (fun _=>[]) ?_ ?_
 ·skip
  refine .region ?_;refine va ?_;refine va ?_;refine vb ?_
  by_cases hc:(IntKind.wrap .i64 ((IntKind.wrap .u64 (w64 (a1+a3))) / 2 ^ min (Int.toNat 1) (IntKind.bits .u64)))<(w64 ((w64 ((IntKind.wrap .i64 ((IntKind.wrap .u64 (w64 (a1+a3))) / 2 ^ min (Int.toNat 1) (IntKind.bits .u64)))+a2))-z29))
  ·have hb0:(decide ((IntKind.wrap .i64 ((IntKind.wrap .u64 (w64 (a1+a3))) / 2 ^ min (Int.toNat 1) (IntKind.bits .u64)))<(w64 ((w64 ((IntKind.wrap .i64 ((IntKind.wrap .u64 (w64 (a1+a3))) / 2 ^ min (Int.toNat 1) (IntKind.bits .u64)))+a2))-z29))))=true:=(dT hc)
   refine vL hb0 ?_;refine va ?_;refine va ?_;refine vb ?_;refine vk Aq ?_;refine RL.gk [0,3,4,18,24,213] ?_;refine .nil ?_
   exact jr () trivial (by simp only [hb0];rfl)
  have hb0:(decide ((IntKind.wrap .i64 ((IntKind.wrap .u64 (w64 (a1+a3))) / 2 ^ min (Int.toNat 1) (IntKind.bits .u64)))<(w64 ((w64 ((IntKind.wrap .i64 ((IntKind.wrap .u64 (w64 (a1+a3))) / 2 ^ min (Int.toNat 1) (IntKind.bits .u64)))+a2))-z29))))=false:=(dF hc)
  refine vL hb0 ?_;refine gf3 ?_;refine vk Aq ?_;refine RL.gk [0,3,4,18,24,213] ?_;refine .nil ?_
  exact jr () trivial (by simp only [hb0];rfl)
 rintro _ _
 rcases brc h with ⟨hc,h⟩|⟨hc,h⟩
 ·refine cnt hc ?_
  refine .region ?_;refine mvo ?_;refine va ?_;refine va ?_;refine va ?_;refine va ?_
  obtain ⟨x39,g39,h⟩:=bnd h
  refine LX (Is x39) ?_ (orc_slices_symMergeCmpFunc_int _ _ _ _ _ _ oa4 g39) Tryz.call229
  refine RL.gk [0,3,4,18,24,213,215,216,217,218,219] ?_;refine .nil ?_
  cases h
  exact M7 rfl rfl
 refine cnf (bf hc) ?_;refine .skip ?_
 cases h
 exact M7 rfl rfl
def Fs : Nat→(List Int)→Int→Int→Int→An→Option ((List Int))
 | 0,_,_,_,_,_=>none
 | k+1,a0,a1,a2,a3,a4=>Ga (Fs k) a0 a1 a2 a3 a4
theorem Ho : ∀ (k:Nat) (a0:(List Int)) (a1:Int) (a2:Int) (a3:Int) (a4:An) (r:(List Int)),BD a4→Fs k a0 a1 a2 a3 a4=some r→FnG Tryz.prog 229 [.own 3 (Is a0),.d (.i .i64 a1),.d (.i .i64 a2),.d (.i .i64 a3),.d (a4.dv)] [] (.tup []) [.own 3 (Is r)] []
 | 0,_,_,_,_,_,_,_,h=>by cases h
 | k+1,a0,a1,a2,a3,a4,_,oa4,h=>LV (Ho k) oa4 (show Ga (Fs k) a0 a1 a2 a3 a4=some _ from h)
def Iy (a0:(List Int)) (a1:Int) (a2:Int) (a3:Int) (a4:An) : Option ((List Int)):=Fs (AC) a0 a1 a2 a3 a4
theorem IP {a0:(List Int)} {a1:Int} {a2:Int} {a3:Int} {a4:An} (oa4:BD a4) {r:(List Int)} (h:Iy a0 a1 a2 a3 a4=some r) : FnG Tryz.prog 229 [.own 3 (Is a0),.d (.i .i64 a1),.d (.i .i64 a2),.d (.i .i64 a3),.d (a4.dv)] [] (.tup []) [.own 3 (Is r)] []:=Ho _ a0 a1 a2 a3 a4 r oa4 h
def E6 (a1:Int) (a2:An) (K0:(List Int)→Int→Option ((List Int))) : Nat→(List Int)→Int→Int→Option ((List Int))
 | 0,_,_,_=>none
 | k+1,s3,s4,s5=>(if s5≤a1 then ((F7 s3 s4 s5 a2).bind fun x6=>(E6 a1 a2 K0 k x6 s5 (w64 (s5+20)))) else (K0 s3 s4))
def E0 (a1:Int) (a2:An) (s9:Int) (K3:(List Int)→Int→Option ((List Int))) : Nat→(List Int)→Int→Int→Option ((List Int))
 | 0,_,_,_=>none
 | k+1,s12,s13,s14=>(if s14≤a1 then ((Iy s12 s13 (w64 (s13+s9)) s14 a2).bind fun x15=>(E0 a1 a2 s9 K3 k x15 s14 (w64 (s14+(w64 (2 * s9)))))) else (K3 s12 s13))
def E4 (a1:Int) (a2:An) : Nat→(List Int)→Int→Option ((List Int))
 | 0,_,_=>none
 | k+1,s8,s9=>(if s9<a1 then (jn (fun (z10:(List Int)) (z11:Int)=>(jn (fun (z16:(List Int))=>(E4 a1 a2 k z16 (w64 (s9 * 2)))) fun K5=>(if (w64 (z11+s9))<a1 then ((Iy z10 z11 (w64 (z11+s9)) a1 a2).bind fun x17=>(K5 x17)) else (K5 z10)))) fun K3=>(E0 a1 a2 s9 K3 AC s8 0 (w64 (2 * s9)))) else (some s8))
def Lb (a0:(List Int)) (a1:Int) (a2:An) : Option ((List Int)):=(jn (fun (z1:(List Int)) (z2:Int)=>((F7 z1 z2 a1 a2).bind fun x7=>(E4 a1 a2 AC x7 20))) fun K0=>(E6 a1 a2 K0 AC a0 0 20))
theorem OC {a0:(List Int)} {a1:Int} {a2:An} (oa2:BD a2) {r:(List Int)} (h:Lb a0 a1 a2=some r) :
  FnG Tryz.prog 180 [.own 3 (Is a0),.d (.i .i64 a1),.d (a2.dv)] [] (.tup []) [.own 3 (Is r)] []:=by
 unfold Lb at h
 refine FnG.of (rs:=[]) 1 63 Tryz.func180 rfl rfl rfl (by simp) (by simp) (by simp) ?_;refine .sr ?_;refine ar [0,1,2,6] ?_;refine .sr ?_;refine va ?_;refine asd ?_;refine ar [0,1,2,6,7,8] ?_
 obtain ⟨K0,hK0,h⟩:=AE h
 refine AW.mj (σ:=(List Int)×Int) (fun p=>K0 p.1 p.2=some r) (fun p=>[(0,.own 3 (Is p.1)),(1,.d (.i .i64 a1)),(2,.d (a2.dv)),(6,.d (.i .i64 20)),(7,.d (.i .i64 p.2))]) (fun p=>[]) ?_ ?_
 ·skip
  refine .block ?_
  refine .loop (.gk [0,1,2,6,7,8] ?_)
  refine AL.ind (σ:=Nat×(List Int)×Int×Int) (m:=fun p=>p.1) (e:=fun p=>[(0,.own 3 (Is p.2.1)),(1,.d (.i .i64 a1)),(2,.d (a2.dv)),(6,.d (.i .i64 20)),(7,.d (.i .i64 p.2.2.1)),(8,.d (.i .i64 p.2.2.2))]) (h:=fun p=>[]) (I:=fun p=>E6 a1 a2 K0 p.1 p.2.1 p.2.2.1 p.2.2.2=some r) ?_ (AC,a0,0,20) h
  rintro ⟨k,s3,s4,s5⟩ h ih
  dsimp only at h ih ⊢
  rcases k with _|k
  ·rw [E6] at h;cases h
  rw [E6] at h
  refine .seq ?_;refine .sr ?_;refine va ?_;refine va ?_;refine vb ?_;refine rk [0,1,2,6,7,8,13] ?_
  rcases brc h with ⟨hc,h⟩|⟨hc,h⟩
  ·refine cnt (dT hc) ?_
   refine .sk ?_;refine .block ?_;refine .sr ?_;refine mvo ?_;refine va ?_;refine va ?_;refine va ?_
   obtain ⟨x6,g6,h⟩:=bnd h
   refine LX (Is x6) ?_ (Im oa2 g6) Tryz.call228
   refine RL.gk [0,1,2,6,7,8,13,15,16,17,18] ?_;refine rk [0,1,2,6,8] ?_;refine .sr ?_;refine va ?_;refine ar [0,1,2,6,7,8] ?_;refine .region ?_;refine va ?_;refine va ?_;refine vb ?_;refine asd ?_;refine .nil ?_;refine AL.gk [0,1,2,6,7,8] ?_
   exact ih (k,x6,s5,(w64 (s5+20))) h (Nat.lt_succ_self _)
  refine cnf (dF hc) ?_;refine .gk [0,1,2,6,7] ?_;refine .exit ?_
  exact jr (s3,s4) h
 rintro ⟨z1,z2⟩ h
 try dsimp only at h ⊢
 subst hK0
 refine .sr ?_;refine mvo ?_;refine va ?_;refine va ?_;refine va ?_
 obtain ⟨x7,g7,h⟩:=bnd h
 refine LX (Is x7) ?_ (Im oa2 g7) Tryz.call228
 refine RL.gk [0,1,2,6,7,24,25,26,27] ?_;refine rk [0,1,2,6] ?_;refine .block ?_
 refine .loop (.gk [0,1,2,6] ?_)
 refine AL.ind (σ:=Nat×(List Int)×Int) (m:=fun p=>p.1) (e:=fun p=>[(0,.own 3 (Is p.2.1)),(1,.d (.i .i64 a1)),(2,.d (a2.dv)),(6,.d (.i .i64 p.2.2))]) (h:=fun p=>[]) (I:=fun p=>E4 a1 a2 p.1 p.2.1 p.2.2=some r) ?_ (AC,x7,20) h
 rintro ⟨k,s8,s9⟩ h ih
 dsimp only at h ih ⊢
 rcases k with _|k
 ·rw [E4] at h;cases h
 rw [E4] at h
 refine .seq ?_;refine .sr ?_;refine va ?_;refine va ?_;refine vb ?_;refine rk [0,1,2,6,30] ?_
 rcases brc h with ⟨hc,h⟩|⟨hc,h⟩
 ·refine cnt (dT hc) ?_
  refine .sk ?_;refine .block ?_;refine .sr ?_;refine va ?_;refine vb ?_;refine asd ?_;refine ar [0,1,2,6,7,8] ?_
  obtain ⟨K3,hK3,h⟩:=AE h
  refine AW.mj (σ:=(List Int)×Int) (fun p=>K3 p.1 p.2=some r) (fun p=>[(0,.own 3 (Is p.1)),(1,.d (.i .i64 a1)),(2,.d (a2.dv)),(6,.d (.i .i64 s9)),(7,.d (.i .i64 p.2))]) (fun p=>[]) ?_ ?_
  ·skip
   refine .block ?_
   refine .loop (.gk [0,1,2,6,7,8] ?_)
   refine AL.ind (σ:=Nat×(List Int)×Int×Int) (m:=fun p=>p.1) (e:=fun p=>[(0,.own 3 (Is p.2.1)),(1,.d (.i .i64 a1)),(2,.d (a2.dv)),(6,.d (.i .i64 s9)),(7,.d (.i .i64 p.2.2.1)),(8,.d (.i .i64 p.2.2.2))]) (h:=fun p=>[]) (I:=fun p=>E0 a1 a2 s9 K3 p.1 p.2.1 p.2.2.1 p.2.2.2=some r) ?_ (AC,s8,0,(w64 (2 * s9))) h
   rintro ⟨k,s12,s13,s14⟩ h ih
   dsimp only at h ih ⊢
   rcases k with _|k
   ·rw [E0] at h;cases h
   rw [E0] at h
   refine .seq ?_;refine .sr ?_;refine va ?_;refine va ?_;refine vb ?_;refine rk [0,1,2,6,7,8,35] ?_
   rcases brc h with ⟨hc,h⟩|⟨hc,h⟩
   ·refine cnt (dT hc) ?_
    refine .sk ?_;refine .block ?_;refine .sr ?_;refine mvo ?_;refine va ?_;refine va ?_;refine va ?_;refine vb ?_;refine va ?_;refine va ?_
    obtain ⟨x15,g15,h⟩:=bnd h
    refine LX (Is x15) ?_ (IP oa2 g15) Tryz.call229
    refine RL.gk [0,1,2,6,7,8,35,37,38,39,40,41,42,43] ?_;refine rk [0,1,2,6,8] ?_;refine .sr ?_;refine va ?_;refine ar [0,1,2,6,7,8] ?_;refine .region ?_;refine va ?_;refine va ?_;refine vb ?_;refine vb ?_;refine asd ?_;refine .nil ?_;refine AL.gk [0,1,2,6,7,8] ?_
    exact ih (k,x15,s14,(w64 (s14+(w64 (2 * s9))))) h (Nat.lt_succ_self _)
   refine cnf (dF hc) ?_;refine .gk [0,1,2,6,7] ?_;refine .exit ?_
   exact jr (s12,s13) h
  rintro ⟨z10,z11⟩ h
  try dsimp only at h ⊢
  subst hK3
  refine .seq ?_;refine .sr ?_;refine va ?_;refine va ?_;refine vb ?_;refine ar [0,1,2,6,7,9] ?_;refine .sr ?_;refine va ?_;refine va ?_;refine vb ?_;refine rk [0,1,2,6,7,9,54] ?_
  obtain ⟨K5,hK5,h⟩:=AE h
  refine AW.mr (σ:=(List Int)) (fun p=>K5 p=some r) (fun p=>[(0,.own 3 (Is p)),(1,.d (.i .i64 a1)),(2,.d (a2.dv)),(6,.d (.i .i64 s9))]) (fun p=>[]) ?_ ?_
  ·skip
   rcases brc h with ⟨hc,h⟩|⟨hc,h⟩
   ·refine cnt (dT hc) ?_
    refine .region ?_;refine mvo ?_;refine va ?_;refine va ?_;refine va ?_;refine va ?_
    obtain ⟨x17,g17,h⟩:=bnd h
    refine LX (Is x17) ?_ (IP oa2 g17) Tryz.call229
    refine RL.gk [0,1,2,6,7,9,54,56,57,58,59,60] ?_;refine RL.gk [0,1,2,6] ?_;refine .nil ?_
    exact jr (x17) h
   refine cnf (dF hc) ?_;refine .gk [0,1,2,6] ?_;refine .skip ?_
   exact jr (z10) h
  rintro z16 h
  try dsimp only at h ⊢
  subst hK5
  refine aw ?_;refine .region ?_;refine va ?_;refine vb ?_;refine asd ?_;refine .nil ?_;refine AL.gk [0,1,2,6] ?_
  exact ih (k,z16,(w64 (s9 * 2))) h (Nat.lt_succ_self _)
 refine cnf (dF hc) ?_;refine .exit ?_
 cases h
 exact M7 rfl rfl
def Pi (a0:(List Int)) (a1:An) : Option ((List Int)):=((Lb a0 ((List.length a0:Nat) : Int) a1).bind fun x1=>(some x1))
theorem RQ {a0:(List Int)} {a1:An} (oa1:BD a1) {r:(List Int)} (h:Pi a0 a1=some r) :
  FnG Tryz.prog 127 [.own 3 (Is a0),.d (a1.dv)] [] (.tup []) [.own 3 (Is r)] []:=by
 unfold Pi at h
 refine FnG.of (rs:=[]) 1 9 Tryz.func127 rfl rfl rfl (by simp) (by simp) (by simp) ?_;refine .region ?_;refine mvo ?_;refine mvo ?_;refine vk (Sg (Af _) Bp) ?_;refine va ?_
 obtain ⟨x1,g1,h⟩:=bnd h
 refine RL.gk [0,1,4,6,7] ?_
 refine LX (Is x1) ?_ (OC oa1 g1) Tryz.call180
 refine RL.gk [0,1,6,7,8] ?_;refine .nil ?_
 cases h
 exact M7 rfl rfl
def Fv (a0:Int) : Option (Bool):=(some ((!(decide (a0=a0)))))
theorem Hc {a0:Int} {r:Bool} (h:Fv a0=some r) :
  Fn Tryz.prog 195 [.i .i64 a0] (.d (.b r)):=by
 unfold Fv at h
 refine Fn.o1 2 6 Tryz.func195 ?_;refine .sr ?_;refine ar [0,2] ?_;refine .sr ?_;refine va ?_;refine va ?_;refine vb ?_;refine ar [2] ?_;refine .ret ?_
 cases h
 exact ⟨rfl,rfl⟩
def ET (a0:Int) : Option (Bool):=(some ((!(decide (a0=a0)))))
theorem GQ {a0:Int} {r:Bool} (h:ET a0=some r) :
  Fn Tryz.prog 194 [.i .i32 a0] (.d (.b r)):=by
 unfold ET at h
 refine Fn.o1 2 6 Tryz.func194 ?_;refine .sr ?_;refine ar [0,2] ?_;refine .sr ?_;refine va ?_;refine va ?_;refine vb ?_;refine ar [2] ?_;refine .ret ?_
 cases h
 exact ⟨rfl,rfl⟩
def CC (a0:Int) : Option (Bool):=(some ((!(decide (a0=a0)))))
theorem Eh {a0:Int} {r:Bool} (h:CC a0=some r) :
  Fn Tryz.prog 189 [.i .u8 a0] (.d (.b r)):=by
 unfold CC at h
 refine Fn.o1 2 6 Tryz.func189 ?_;refine .sr ?_;refine ar [0,2] ?_;refine .sr ?_;refine va ?_;refine va ?_;refine vb ?_;refine ar [2] ?_;refine .ret ?_
 cases h
 exact ⟨rfl,rfl⟩
def Ex (a0:Int) (a1:Int) : Option (Int):=((Fv a0).bind fun x1=>((Fv a1).bind fun x2=>(if x1=true then (if x2=true then (some (0)) else (some ((-1)))) else (if x2=true then (some (1)) else (if a0<a1 then (some ((-1))) else (if a1<a0 then (some (1)) else (some (0))))))))
theorem Gt {a0:Int} {a1:Int} {r:Int} (h:Ex a0 a1=some r) :
  Fn Tryz.prog 144 [.i .i64 a0,.i .i64 a1] (.d (.i .i64 r)):=by
 unfold Ex at h
 refine Fn.o1 4 20 Tryz.func144 ?_;refine .sr ?_;refine ar [0,1,4] ?_;refine .sr ?_;refine va ?_
 obtain ⟨x1,g1,h⟩:=bnd h
 refine vk (Ai (Hc g1) Tryz.call195) ?_;refine ar [0,1,4,5] ?_;refine .sr ?_;refine va ?_
 obtain ⟨x2,g2,h⟩:=bnd h
 refine vk (Ai (Hc g2) Tryz.call195) ?_;refine ar [0,1,4,5,6] ?_;refine .seq ?_;refine .sr ?_;refine va ?_;refine rk [0,1,4,6,11] ?_
 rcases brc h with ⟨hc,h⟩|⟨hc,h⟩
 ·refine cnt hc ?_
  refine .seq ?_;refine .sr ?_;refine va ?_;refine rk [0,1,4,6,12] ?_
  rcases brc h with ⟨hc,h⟩|⟨hc,h⟩
  ·refine cnt hc ?_
   refine .sr ?_;refine ar [0,1,4,6] ?_;refine .ret ?_
   cases h
   exact ⟨rfl,rfl⟩
  refine cnf (bf hc) ?_;refine .sk ?_;refine .sr ?_;refine ar [0,1,4,6] ?_;refine .ret ?_
  cases h
  exact ⟨rfl,rfl⟩
 refine cnf (bf hc) ?_;refine .sk ?_;refine .seq ?_;refine .sr ?_;refine va ?_;refine rk [0,1,4,13] ?_
 rcases brc h with ⟨hc,h⟩|⟨hc,h⟩
 ·refine cnt hc ?_
  refine .sr ?_;refine ar [0,1,4] ?_;refine .ret ?_
  cases h
  exact ⟨rfl,rfl⟩
 refine cnf (bf hc) ?_;refine .sk ?_;refine .seq ?_;refine .sr ?_;refine va ?_;refine va ?_;refine vb ?_;refine rk [0,1,4,16] ?_
 rcases brc h with ⟨hc,h⟩|⟨hc,h⟩
 ·refine cnt (dT hc) ?_
  refine .sr ?_;refine ar [0,1,4] ?_;refine .ret ?_
  cases h
  exact ⟨rfl,rfl⟩
 refine cnf (dF hc) ?_;refine .sk ?_;refine .seq ?_;refine .sr ?_;refine va ?_;refine va ?_;refine vb ?_;refine rk [4,19] ?_
 rcases brc h with ⟨hc,h⟩|⟨hc,h⟩
 ·refine cnt (dT hc) ?_
  refine .sr ?_;refine ar [4] ?_;refine .ret ?_
  cases h
  exact ⟨rfl,rfl⟩
 refine cnf (dF hc) ?_;refine .sk ?_;refine .sr ?_;refine ar [4] ?_;refine .ret ?_
 cases h
 exact ⟨rfl,rfl⟩
def Fd (a0:Int) (a1:Int) : Option (Int):=((ET a0).bind fun x1=>((ET a1).bind fun x2=>(if x1=true then (if x2=true then (some (0)) else (some ((-1)))) else (if x2=true then (some (1)) else (if a0<a1 then (some ((-1))) else (if a1<a0 then (some (1)) else (some (0))))))))
theorem Jq {a0:Int} {a1:Int} {r:Int} (h:Fd a0 a1=some r) :
  Fn Tryz.prog 142 [.i .i32 a0,.i .i32 a1] (.d (.i .i64 r)):=by
 unfold Fd at h
 refine Fn.o1 4 20 Tryz.func142 ?_;refine .sr ?_;refine ar [0,1,4] ?_;refine .sr ?_;refine va ?_
 obtain ⟨x1,g1,h⟩:=bnd h
 refine vk (Ai (GQ g1) Tryz.call194) ?_;refine ar [0,1,4,5] ?_;refine .sr ?_;refine va ?_
 obtain ⟨x2,g2,h⟩:=bnd h
 refine vk (Ai (GQ g2) Tryz.call194) ?_;refine ar [0,1,4,5,6] ?_;refine .seq ?_;refine .sr ?_;refine va ?_;refine rk [0,1,4,6,11] ?_
 rcases brc h with ⟨hc,h⟩|⟨hc,h⟩
 ·refine cnt hc ?_
  refine .seq ?_;refine .sr ?_;refine va ?_;refine rk [0,1,4,6,12] ?_
  rcases brc h with ⟨hc,h⟩|⟨hc,h⟩
  ·refine cnt hc ?_
   refine .sr ?_;refine ar [0,1,4,6] ?_;refine .ret ?_
   cases h
   exact ⟨rfl,rfl⟩
  refine cnf (bf hc) ?_;refine .sk ?_;refine .sr ?_;refine ar [0,1,4,6] ?_;refine .ret ?_
  cases h
  exact ⟨rfl,rfl⟩
 refine cnf (bf hc) ?_;refine .sk ?_;refine .seq ?_;refine .sr ?_;refine va ?_;refine rk [0,1,4,13] ?_
 rcases brc h with ⟨hc,h⟩|⟨hc,h⟩
 ·refine cnt hc ?_
  refine .sr ?_;refine ar [0,1,4] ?_;refine .ret ?_
  cases h
  exact ⟨rfl,rfl⟩
 refine cnf (bf hc) ?_;refine .sk ?_;refine .seq ?_;refine .sr ?_;refine va ?_;refine va ?_;refine vb ?_;refine rk [0,1,4,16] ?_
 rcases brc h with ⟨hc,h⟩|⟨hc,h⟩
 ·refine cnt (dT hc) ?_
  refine .sr ?_;refine ar [0,1,4] ?_;refine .ret ?_
  cases h
  exact ⟨rfl,rfl⟩
 refine cnf (dF hc) ?_;refine .sk ?_;refine .seq ?_;refine .sr ?_;refine va ?_;refine va ?_;refine vb ?_;refine rk [4,19] ?_
 rcases brc h with ⟨hc,h⟩|⟨hc,h⟩
 ·refine cnt (dT hc) ?_
  refine .sr ?_;refine ar [4] ?_;refine .ret ?_
  cases h
  exact ⟨rfl,rfl⟩
 refine cnf (dF hc) ?_;refine .sk ?_;refine .sr ?_;refine ar [4] ?_;refine .ret ?_
 cases h
 exact ⟨rfl,rfl⟩
def C5 (a0:Int) (a1:Int) : Option (Int):=((CC a0).bind fun x1=>((CC a1).bind fun x2=>(if x1=true then (if x2=true then (some (0)) else (some ((-1)))) else (if x2=true then (some (1)) else (if a0<a1 then (some ((-1))) else (if a1<a0 then (some (1)) else (some (0))))))))
theorem Gb {a0:Int} {a1:Int} {r:Int} (h:C5 a0 a1=some r) :
  Fn Tryz.prog 140 [.i .u8 a0,.i .u8 a1] (.d (.i .i64 r)):=by
 unfold C5 at h
 refine Fn.o1 4 20 Tryz.func140 ?_;refine .sr ?_;refine ar [0,1,4] ?_;refine .sr ?_;refine va ?_
 obtain ⟨x1,g1,h⟩:=bnd h
 refine vk (Ai (Eh g1) Tryz.call189) ?_;refine ar [0,1,4,5] ?_;refine .sr ?_;refine va ?_
 obtain ⟨x2,g2,h⟩:=bnd h
 refine vk (Ai (Eh g2) Tryz.call189) ?_;refine ar [0,1,4,5,6] ?_;refine .seq ?_;refine .sr ?_;refine va ?_;refine rk [0,1,4,6,11] ?_
 rcases brc h with ⟨hc,h⟩|⟨hc,h⟩
 ·refine cnt hc ?_
  refine .seq ?_;refine .sr ?_;refine va ?_;refine rk [0,1,4,6,12] ?_
  rcases brc h with ⟨hc,h⟩|⟨hc,h⟩
  ·refine cnt hc ?_
   refine .sr ?_;refine ar [0,1,4,6] ?_;refine .ret ?_
   cases h
   exact ⟨rfl,rfl⟩
  refine cnf (bf hc) ?_;refine .sk ?_;refine .sr ?_;refine ar [0,1,4,6] ?_;refine .ret ?_
  cases h
  exact ⟨rfl,rfl⟩
 refine cnf (bf hc) ?_;refine .sk ?_;refine .seq ?_;refine .sr ?_;refine va ?_;refine rk [0,1,4,13] ?_
 rcases brc h with ⟨hc,h⟩|⟨hc,h⟩
 ·refine cnt hc ?_
  refine .sr ?_;refine ar [0,1,4] ?_;refine .ret ?_
  cases h
  exact ⟨rfl,rfl⟩
 refine cnf (bf hc) ?_;refine .sk ?_;refine .seq ?_;refine .sr ?_;refine va ?_;refine va ?_;refine vb ?_;refine rk [0,1,4,16] ?_
 rcases brc h with ⟨hc,h⟩|⟨hc,h⟩
 ·refine cnt (dT hc) ?_
  refine .sr ?_;refine ar [0,1,4] ?_;refine .ret ?_
  cases h
  exact ⟨rfl,rfl⟩
 refine cnf (dF hc) ?_;refine .sk ?_;refine .seq ?_;refine .sr ?_;refine va ?_;refine va ?_;refine vb ?_;refine rk [4,19] ?_
 rcases brc h with ⟨hc,h⟩|⟨hc,h⟩
 ·refine cnt (dT hc) ?_
  refine .sr ?_;refine ar [4] ?_;refine .ret ?_
  cases h
  exact ⟨rfl,rfl⟩
 refine cnf (dF hc) ?_;refine .sk ?_;refine .sr ?_;refine ar [4] ?_;refine .ret ?_
 cases h
 exact ⟨rfl,rfl⟩
def Eo (a0:(List Int)) (K0:Int→Option (Int)) : Nat→Int→Int→Option (Int)
 | 0,_,_=>none
 | k+1,s2,s3=>(if s3<((List.length a0:Nat):Int) then ((rd? a0 s3).bind fun x4=>(if x4=0 then (Eo a0 K0 k s2 (w64 (s3+1))) else (some (x4)))) else (K0 s2))
def J1 (a0:(List Int)) : Option (Int):=(jn (fun (z1:Int)=>(some (0))) fun K0=>(Eo a0 K0 AC 0 0))
theorem Nt {a0:(List Int)} {r:Int} (h:J1 a0=some r) :
  Fn Tryz.prog 143 [.sl (Is a0)] (.d (.i .i64 r)):=by
 unfold J1 at h
 refine Fn.o1 2 18 Tryz.func143 ?_;refine .sr ?_;refine ar [0,2] ?_;refine .sr ?_;refine ar [0,2,3] ?_;refine .seq ?_;refine .sr ?_;refine va ?_;refine vk (A0 (Af _) (Bv _) Bp) ?_;refine va ?_;refine rk [2,3,6,7,8] ?_
 obtain ⟨K0,hK0,h⟩:=AE h
 refine AW.mr (σ:=Int) (fun p=>K0 p=some r) (fun p=>[(2,.d (.i .i64 p)),(3,.d (.i .i64 0))]) (fun p=>[]) ?_ ?_
 ·skip
  refine .block ?_
  refine .loop (.gk [2,3,6,7,8] ?_)
  refine AL.ind (σ:=Nat×Int×Int) (m:=fun p=>p.1) (e:=fun p=>[(2,.d (.i .i64 p.2.1)),(3,.d (.i .i64 0)),(6,.d (.sl (Is a0))),(7,.d (.i .i64 ((List.length a0:Nat):Int))),(8,.d (.i .i64 p.2.2))]) (h:=fun p=>[]) (I:=fun p=>Eo a0 K0 p.1 p.2.1 p.2.2=some r) ?_ (AC,0,0) h
  rintro ⟨k,s2,s3⟩ h ih
  dsimp only at h ih ⊢
  rcases k with _|k
  ·rw [Eo] at h;cases h
  rw [Eo] at h
  refine .sr ?_;refine vb ?_;refine rk [2,3,6,7,8,9] ?_;refine .seq ?_
  rcases brc h with ⟨hc,h⟩|⟨hc,h⟩
  ·refine cnt (dT hc) ?_
   refine .sk ?_;refine .seq ?_;refine .block ?_;refine .sr ?_
   obtain ⟨x4,g4,h⟩:=bnd h
   obtain ⟨n4,p04,q4⟩:=Ag g4
   refine vk (vix n4 p04 (Be q4) rfl A9) ?_;refine vk (Aj AF) ?_;refine ar [2,3,5,6,7,8] ?_;refine .sr ?_;refine va ?_;refine va ?_;refine vb ?_;refine rk [2,3,5,6,7,8,14] ?_
   rcases brc h with ⟨hc,h⟩|⟨hc,h⟩
   ·refine cnf (ntf (dT hc)) ?_
    refine .sk ?_;refine .region ?_;refine vb ?_;refine va ?_;refine .nil ?_;refine AL.gk [2,3,6,7,8] ?_
    exact ih (k,s2,(w64 (s3+1))) h (Nat.lt_succ_self _)
   refine cnt (ntt (dF hc)) ?_;refine .sr ?_;refine va ?_;refine ar [2,3,6,7,8] ?_;refine .ret ?_
   cases h
   exact ⟨rfl,rfl⟩
  refine cnf (dF hc) ?_;refine .gk [2,3] ?_;refine .exit ?_
  exact jr (s2) h
 rintro z1 h
 try dsimp only at h ⊢
 subst hK0
 refine aw ?_;refine .sr ?_;refine va ?_;refine ar [2] ?_;refine .ret ?_
 cases h
 exact ⟨rfl,rfl⟩
def Bw (a0:(List Int)) (a1:(List Int)) (K0:Int→Option (Int)) : Nat→Int→Int→Option (Int)
 | 0,_,_=>none
 | k+1,s2,s3=>(if s3<((List.length a0:Nat):Int) then ((rd? a0 s3).bind fun x4=>(if ((List.length a1:Nat):Int)≤s3 then (some (1)) else ((rd? a1 s3).bind fun x5=>((Ex x4 x5).bind fun x6=>(if x6=0 then (Bw a0 a1 K0 k s2 (w64 (s3+1))) else (some (x6))))))) else (K0 s2))
def Dv (a0:(List Int)) (a1:(List Int)) : Option (Int):=(jn (fun (z1:Int)=>(if ((List.length a0:Nat) : Int)<((List.length a1:Nat) : Int) then (some ((-1))) else (some (0)))) fun K0=>(Bw a0 a1 K0 AC 0 0))
theorem GM {a0:(List Int)} {a1:(List Int)} {r:Int} (h:Dv a0 a1=some r) :
  Fn Tryz.prog 145 [.sl (Is a0),.sl (Is a1)] (.d (.i .i64 r)):=by
 unfold Dv at h
 refine Fn.o1 4 36 Tryz.func145 ?_;refine .sr ?_;refine ar [0,1,4] ?_;refine .seq ?_;refine .sr ?_;refine va ?_;refine vk (A0 (Af _) (Bv _) Bp) ?_;refine va ?_;refine rk [0,1,4,9,10,11] ?_
 obtain ⟨K0,hK0,h⟩:=AE h
 refine AW.mr (σ:=Int) (fun p=>K0 p=some r) (fun p=>[(0,.d (.sl (Is a0))),(1,.d (.sl (Is a1))),(4,.d (.i .i64 p))]) (fun p=>[]) ?_ ?_
 ·skip
  refine .block ?_
  refine .loop (.gk [0,1,4,9,10,11] ?_)
  refine AL.ind (σ:=Nat×Int×Int) (m:=fun p=>p.1) (e:=fun p=>[(0,.d (.sl (Is a0))),(1,.d (.sl (Is a1))),(4,.d (.i .i64 p.2.1)),(9,.d (.sl (Is a0))),(10,.d (.i .i64 ((List.length a0:Nat):Int))),(11,.d (.i .i64 p.2.2))]) (h:=fun p=>[]) (I:=fun p=>Bw a0 a1 K0 p.1 p.2.1 p.2.2=some r) ?_ (AC,0,0) h
  rintro ⟨k,s2,s3⟩ h ih
  dsimp only at h ih ⊢
  rcases k with _|k
  ·rw [Bw] at h;cases h
  rw [Bw] at h
  refine .sr ?_;refine vb ?_;refine rk [0,1,4,9,10,11,12] ?_;refine .seq ?_
  rcases brc h with ⟨hc,h⟩|⟨hc,h⟩
  ·refine cnt (dT hc) ?_
   refine .sk ?_;refine .seq ?_;refine .block ?_;refine .sr ?_;refine va ?_
   obtain ⟨x4,g4,h⟩:=bnd h
   obtain ⟨n4,p04,q4⟩:=Ag g4
   refine vk (vix n4 p04 (Be q4) rfl A9) ?_;refine vk (Aj AF) ?_;refine asd ?_;refine ar [0,1,4,5,6,9,10,11] ?_;refine .seq ?_;refine .sr ?_;refine va ?_;refine va ?_;refine vk (A0 (Af _) (Bv _) Bp) ?_;refine vb ?_;refine rk [0,1,4,5,6,9,10,11,19] ?_
   rcases brc h with ⟨hc,h⟩|⟨hc,h⟩
   ·refine cnt (dT hc) ?_
    refine .sr ?_;refine ar [0,1,4,5,6,9,10,11] ?_;refine .ret ?_
    cases h
    exact ⟨rfl,rfl⟩
   refine cnf (dF hc) ?_;refine .sk ?_;refine .sr ?_;refine va ?_;refine va ?_
   obtain ⟨x5,g5,h⟩:=bnd h
   obtain ⟨n5,p05,q5⟩:=Ag g5
   refine vk (vix n5 p05 (Be q5) rfl A9) ?_;refine vk (Aj AF) ?_;refine ar [0,1,4,6,7,9,10,11] ?_;refine .sr ?_;refine va ?_;refine va ?_
   obtain ⟨x6,g6,h⟩:=bnd h
   refine vk (Ai (Gt g6) Tryz.call144) ?_;refine ar [0,1,4,8,9,10,11] ?_;refine .sr ?_;refine va ?_;refine vb ?_;refine rk [0,1,4,8,9,10,11,28] ?_
   rcases brc h with ⟨hc,h⟩|⟨hc,h⟩
   ·refine cnf (ntf (dT hc)) ?_
    refine .sk ?_;refine .region ?_;refine vb ?_;refine va ?_;refine .nil ?_;refine AL.gk [0,1,4,9,10,11] ?_
    exact ih (k,s2,(w64 (s3+1))) h (Nat.lt_succ_self _)
   refine cnt (ntt (dF hc)) ?_;refine .sr ?_;refine va ?_;refine ar [0,1,4,9,10,11] ?_;refine .ret ?_
   cases h
   exact ⟨rfl,rfl⟩
  refine cnf (dF hc) ?_;refine .gk [0,1,4] ?_;refine .exit ?_
  exact jr (s2) h
 rintro z1 h
 try dsimp only at h ⊢
 subst hK0
 refine aw ?_;refine .seq ?_;refine .sr ?_;refine va ?_;refine vk (A0 (Af _) (Bv _) Bp) ?_;refine va ?_;refine vk (A0 (Af _) (Bv _) Bp) ?_;refine vb ?_;refine rk [4,35] ?_
 rcases brc h with ⟨hc,h⟩|⟨hc,h⟩
 ·refine cnt (dT hc) ?_
  refine .sr ?_;refine ar [4] ?_;refine .ret ?_
  cases h
  exact ⟨rfl,rfl⟩
 refine cnf (dF hc) ?_;refine .sk ?_;refine .sr ?_;refine ar [4] ?_;refine .ret ?_
 cases h
 exact ⟨rfl,rfl⟩
def As (a0:(List Itm)) (a1:(List Itm)) (a2:Dy) (K0:Int→Option (Int)) : Nat→Int→Int→Option (Int)
 | 0,_,_=>none
 | k+1,s2,s3=>(if s3<((List.length a0:Nat):Int) then ((rd? a0 s3).bind fun x4=>(if ((List.length a1:Nat):Int)≤s3 then (some (1)) else ((rd? a1 s3).bind fun x5=>((a2.g (x4,x5)).bind fun x6=>(if x6=0 then (As a0 a1 a2 K0 k s2 (w64 (s3+1))) else (some (x6))))))) else (K0 s2))
def AS (a0:(List Itm)) (a1:(List Itm)) (a2:Dy) : Option (Int):=(jn (fun (z1:Int)=>(if ((List.length a0:Nat) : Int)<((List.length a1:Nat) : Int) then (some ((-1))) else (some (0)))) fun K0=>(As a0 a1 a2 K0 AC 0 0))
theorem Ci {a0:(List Itm)} {a1:(List Itm)} {a2:Dy} (oa2:L0 a2) {r:Int} (h:AS a0 a1 a2=some r) :
  Fn Tryz.prog 146 [.sl (Its a0),.sl (Its a1),a2.dv] (.d (.i .i64 r)):=by
 unfold AS at h
 refine Fn.o1 6 39 Tryz.func146 ?_;refine .sr ?_;refine ar [0,1,2,6] ?_;refine .seq ?_;refine .sr ?_;refine va ?_;refine vk (A0 (Az _) (Cu _) Ct) ?_;refine va ?_;refine rk [0,1,2,6,11,12,13] ?_
 obtain ⟨K0,hK0,h⟩:=AE h
 refine AW.mr (σ:=Int) (fun p=>K0 p=some r) (fun p=>[(0,.d (.sl (Its a0))),(1,.d (.sl (Its a1))),(6,.d (.i .i64 p))]) (fun p=>[]) ?_ ?_
 ·skip
  refine .block ?_
  refine .loop (.gk [0,1,2,6,11,12,13] ?_)
  refine AL.ind (σ:=Nat×Int×Int) (m:=fun p=>p.1) (e:=fun p=>[(0,.d (.sl (Its a0))),(1,.d (.sl (Its a1))),(2,.d (a2.dv)),(6,.d (.i .i64 p.2.1)),(11,.d (.sl (Its a0))),(12,.d (.i .i64 ((List.length a0:Nat):Int))),(13,.d (.i .i64 p.2.2))]) (h:=fun p=>[]) (I:=fun p=>As a0 a1 a2 K0 p.1 p.2.1 p.2.2=some r) ?_ (AC,0,0) h
  rintro ⟨k,s2,s3⟩ h ih
  dsimp only at h ih ⊢
  rcases k with _|k
  ·rw [As] at h;cases h
  rw [As] at h
  refine .sr ?_;refine vb ?_;refine rk [0,1,2,6,11,12,13,14] ?_;refine .seq ?_
  rcases brc h with ⟨hc,h⟩|⟨hc,h⟩
  ·refine cnt (dT hc) ?_
   refine .sk ?_;refine .seq ?_;refine .block ?_;refine .sr ?_;refine va ?_
   obtain ⟨x4,g4,h⟩:=bnd h
   obtain ⟨n4,p04,q4⟩:=Ag g4
   refine vk (vix n4 p04 (Cw q4) rfl Cl) ?_;refine vk (Ao AP Au) ?_;refine vk (van (Ah B6) B2) ?_;refine asd ?_
   refine stn ?_ Au (by decide)
   refine rk [0,1,2,6,7,8,11,12,13] ?_;refine .seq ?_;refine .sr ?_;refine va ?_;refine va ?_;refine vk (A0 (Az _) (Cu _) Ct) ?_;refine vb ?_;refine rk [0,1,2,6,7,8,11,12,13,21] ?_
   rcases brc h with ⟨hc,h⟩|⟨hc,h⟩
   ·refine cnt (dT hc) ?_
    refine .sr ?_;refine ar [0,1,2,6,7,8,11,12,13] ?_;refine .ret ?_
    cases h
    exact ⟨rfl,rfl⟩
   refine cnf (dF hc) ?_;refine .sk ?_;refine .sr ?_;refine va ?_;refine va ?_
   obtain ⟨x5,g5,h⟩:=bnd h
   obtain ⟨n5,p05,q5⟩:=Ag g5
   refine vk (vix n5 p05 (Cw q5) rfl Cl) ?_;refine vk (Ao AP Au) ?_;refine vk (van (Ah B6) B2) ?_
   refine stn ?_ Au (by decide)
   refine rk [0,1,2,6,8,9,11,12,13] ?_;refine .sr ?_;refine va ?_;refine vk (DF AP Au) ?_;refine vk (DF AP Au) ?_
   obtain ⟨x6,g6,h⟩:=bnd h
   refine vk (Mq (oa2 _ _ g6)) ?_;refine ar [0,1,2,6,10,11,12,13] ?_;refine .sr ?_;refine va ?_;refine vb ?_;refine rk [0,1,2,6,10,11,12,13,31] ?_
   rcases brc h with ⟨hc,h⟩|⟨hc,h⟩
   ·refine cnf (ntf (dT hc)) ?_
    refine .sk ?_;refine .region ?_;refine vb ?_;refine va ?_;refine .nil ?_;refine AL.gk [0,1,2,6,11,12,13] ?_
    exact ih (k,s2,(w64 (s3+1))) h (Nat.lt_succ_self _)
   refine cnt (ntt (dF hc)) ?_;refine .sr ?_;refine va ?_;refine ar [0,1,2,6,11,12,13] ?_;refine .ret ?_
   cases h
   exact ⟨rfl,rfl⟩
  refine cnf (dF hc) ?_;refine .gk [0,1,6] ?_;refine .exit ?_
  exact jr (s2) h
 rintro z1 h
 try dsimp only at h ⊢
 subst hK0
 refine aw ?_;refine .seq ?_;refine .sr ?_;refine va ?_;refine vk (A0 (Az _) (Cu _) Ct) ?_;refine va ?_;refine vk (A0 (Az _) (Cu _) Ct) ?_;refine vb ?_;refine rk [6,38] ?_
 rcases brc h with ⟨hc,h⟩|⟨hc,h⟩
 ·refine cnt (dT hc) ?_
  refine .sr ?_;refine ar [6] ?_;refine .ret ?_
  cases h
  exact ⟨rfl,rfl⟩
 refine cnf (dF hc) ?_;refine .sk ?_;refine .sr ?_;refine ar [6] ?_;refine .ret ?_
 cases h
 exact ⟨rfl,rfl⟩
def Ji (rc_pick_order:Itm→Itm→Option (Int)) (a0:Itm) (a1:Itm) : Option (Int):=(if a0.kind=a1.kind then (if a0.kind=1 then ((Iv a0.num a1.num).bind fun x1=>(some (x1))) else (if a0.kind=2 then ((Fd a0.char a1.char).bind fun x2=>(some (x2))) else ((rd? a0.box 0).bind fun x3=>((rd? a1.box 0).bind fun x4=>((Ex ((List.length x3.shape:Nat) : Int) ((List.length x4.shape:Nat) : Int)).bind fun x5=>((Dv x3.shape x4.shape).bind fun x6=>((AS x3.items x4.items (⟨.fn 83 [] [],fun x=>rc_pick_order x.1 x.2⟩ : Dy)).bind fun x7=>((J1 ([x5,x6,x7])).bind fun x8=>(some (x8)))))))))) else ((C5 a0.kind a1.kind).bind fun x9=>(some (x9))))
theorem Oy {rc_pick_order:Itm→Itm→Option (Int)} (orc_pick_order:∀ x0 x1 r,rc_pick_order x0 x1=some r→Fn Tryz.prog 83 [.ag [.i .u8 x0.kind,.b x0.num.1,.sl (L x0.num.2.1),.sl (L x0.num.2.2),.i .i32 x0.char,.sl (Ars x0.box)],.ag [.i .u8 x1.kind,.b x1.num.1,.sl (L x1.num.2.1),.sl (L x1.num.2.2),.i .i32 x1.char,.sl (Ars x1.box)]] (.d (.i .i64 r))) {a0:Itm} {a1:Itm} {r:Int} (h:Ji rc_pick_order a0 a1=some r) :
  Fn Tryz.prog 83 [.ag [.i .u8 a0.kind,.b a0.num.1,.sl (L a0.num.2.1),.sl (L a0.num.2.2),.i .i32 a0.char,.sl (Ars a0.box)],.ag [.i .u8 a1.kind,.b a1.num.1,.sl (L a1.num.2.1),.sl (L a1.num.2.2),.i .i32 a1.char,.sl (Ars a1.box)]] (.d (.i .i64 r)):=by
 unfold Ji at h
 refine Fn.o1 4 60 Tryz.func83 ?_;refine .sr ?_;refine vk vbx ?_;refine vk vbx ?_;refine ar [2,3,4] ?_;refine .seq ?_;refine .sr ?_;refine vk (vfa BY) ?_;refine vk (Aj Bb) ?_;refine vk (vfa BY) ?_;refine vk (Aj Bb) ?_;refine vb ?_;refine rk [2,3,4,11] ?_
 rcases brc h with ⟨hc,h⟩|⟨hc,h⟩
 ·refine cnf (ntf (dT hc)) ?_
  refine .sk ?_;refine .seq ?_;refine .sr ?_;refine vk (vfa BY) ?_;refine vk (Aj Bb) ?_;refine rk [2,3,4,18] ?_;refine .block ?_;refine .sr ?_;refine vb ?_;refine ar [2,3,4,18,19] ?_
  rcases brc h with ⟨hc,h⟩|⟨hc,h⟩
  ·refine cnt (dT hc) ?_
   refine .sr ?_;refine vk (vfa BS) ?_;refine vk (Ao A8 AG) ?_;refine vk (vfa BS) ?_;refine vk (Ao A8 AG) ?_
   obtain ⟨x1,g1,h⟩:=bnd h
   refine vk (Ai (Mo g1) Tryz.call141) ?_;refine ar [2,3,4] ?_;refine .ret ?_
   cases h
   exact ⟨rfl,rfl⟩
  refine cnf (dF hc) ?_;refine .sr ?_;refine vb ?_;refine ar [2,3,4,26] ?_
  rcases brc h with ⟨hc,h⟩|⟨hc,h⟩
  ·refine cnt (dT hc) ?_
   refine .sr ?_;refine vk (vfa DJ) ?_;refine vk (Aj DC) ?_;refine vk (vfa DJ) ?_;refine vk (Aj DC) ?_
   obtain ⟨x2,g2,h⟩:=bnd h
   refine vk (Ai (Jq g2) Tryz.call142) ?_;refine ar [2,3,4] ?_;refine .ret ?_
   cases h
   exact ⟨rfl,rfl⟩
  refine cnf (dF hc) ?_;refine .sk ?_;refine .seq ?_
  obtain ⟨x3,g3,h⟩:=bnd h
  obtain ⟨x4,g4,h⟩:=bnd h
  refine .drawnF 10 [4,5,6,7] [(5,.nb [.sl (Is x3.shape),.sl (Its x3.items)])] [] A3 (by kernel_rfl) rfl ?_;refine dv (vfa Bh) ?_;refine dv (Aj Cv) ?_
  obtain ⟨n3,p03,q3⟩:=Ag g3
  refine dv (vix n3 p03 (Df q3) rfl Di) ?_;refine dv (Ao Ae Aa) ?_;refine dv (vfa Bh) ?_;refine dv (Aj Cv) ?_
  obtain ⟨n4,p04,q4⟩:=Ag g4
  refine dv (vix n4 p04 (Df q4) rfl Di) ?_;refine dv (Ao Ae Aa) ?_;refine dv (van (Ah AI) AK) ?_;refine dv (van (Ah AI) AK) ?_;refine dz ?_
  refine ⟨?_,?_,?_⟩
  ·intro k hk
   simp only [List.mem_cons,List.not_mem_nil,or_false] at hk
   rcases hk with rfl|rfl|rfl|rfl
   ·exact ⟨_,_,_,rfl,rfl,rfl,rfl,rfl,rfl,(vfa Bh)⟩
   ·exact ⟨_,_,_,rfl,rfl,rfl,rfl,rfl,rfl,(Aj Cv)⟩
   ·exact ⟨_,_,_,rfl,rfl,rfl,rfl,rfl,rfl,(vix n4 p04 (Df q4) rfl Di)⟩
   ·exact ⟨_,_,_,rfl,rfl,rfl,rfl,rfl,rfl,(Ao Ae Aa)⟩
  ·intro om e hom hge
   cases hom
   exact Hy (cs:=[.sl (Is []),.sl (Its [])]) (cs':=[.sl (Is x3.shape),.sl (Its x3.items)]) Aa (by decide) rfl ((hge 5 (fun k hk v hv=>by
     simp only [List.mem_cons,List.not_mem_nil,or_false] at hk
     rcases hk with rfl|rfl|rfl|rfl
     ·exact (by decide:¬(some 37=some 5)) (congrArg (Option.map Prod.fst) hv)
     ·exact (by decide:¬(some 38=some 5)) (congrArg (Option.map Prod.fst) hv)
     ·exact (by decide:¬(some 39=some 5)) (congrArg (Option.map Prod.fst) hv)
     ·exact (by decide:¬(some 40=some 5)) (congrArg (Option.map Prod.fst) hv))).trans rfl) ((congrArg Bo (hge 36 (fun k hk v hv=>by
     simp only [List.mem_cons,List.not_mem_nil,or_false] at hk
     rcases hk with rfl|rfl|rfl|rfl
     ·exact (by decide:¬(some 37=some 36)) (congrArg (Option.map Prod.fst) hv)
     ·exact (by decide:¬(some 38=some 36)) (congrArg (Option.map Prod.fst) hv)
     ·exact (by decide:¬(some 39=some 36)) (congrArg (Option.map Prod.fst) hv)
     ·exact (by decide:¬(some 40=some 36)) (congrArg (Option.map Prod.fst) hv)))).trans rfl) rfl rfl rfl rfl ⟨rfl,rfl⟩
  refine stn ?_ Aa (by decide)
  refine rk [4,5,6] ?_;refine .seq ?_;refine .gh (Gh.nbp (t:=5) rfl) ?_;refine .gh (Gh.nbp (t:=6) rfl) ?_;refine .drawn 19 A3 (by kernel_rfl) ?_;refine dv (vfa AJ) ?_;refine dv (Aj Bl) ?_;refine dv (A0 (Af _) (Bv _) Bp) ?_;refine dv (vfa AJ) ?_;refine dv (Aj Bl) ?_;refine dv (A0 (Af _) (Bv _) Bp) ?_
  obtain ⟨x5,g5,h⟩:=bnd h
  refine dv (Ai (Gt g5) Tryz.call144) ?_;refine dv (vfa AJ) ?_;refine dv (Aj Bl) ?_;refine dv (vfa AJ) ?_;refine dv (Aj Bl) ?_
  obtain ⟨x6,g6,h⟩:=bnd h
  refine dv (Ai (GM g6) Tryz.call145) ?_;refine dv (vfa A4) ?_;refine dv (Aj BL) ?_;refine dv (vfa A4) ?_;refine dv (Aj BL) ?_
  obtain ⟨x7,g7,h⟩:=bnd h
  refine dv (Ai (Ci (Jb Tryz.call83 (fun _ _ h=>orc_pick_order _ _ _ h)) g7) Tryz.call146) ?_;refine dv ((FE (Ed [x5,x6,x7]) DE).deep) ?_
  obtain ⟨x8,g8,h⟩:=bnd h
  refine dv (Ai (Nt g8) Tryz.call143) ?_;refine dz ?_;refine ar [4] ?_;refine .ret ?_
  cases h
  exact ⟨rfl,rfl⟩
 refine cnt (ntt (dF hc)) ?_;refine .sr ?_;refine vk (vfa BY) ?_;refine vk (Aj Bb) ?_;refine vk (vfa BY) ?_;refine vk (Aj Bb) ?_
 obtain ⟨x9,g9,h⟩:=bnd h
 refine vk (Ai (Gb g9) Tryz.call140) ?_;refine ar [2,3,4] ?_;refine .ret ?_
 cases h
 exact ⟨rfl,rfl⟩
def HP : Nat→Itm→Itm→Option (Int)
 | 0,_,_=>none
 | k+1,a0,a1=>Ji (HP k) a0 a1
theorem Jy : ∀ (k:Nat) (a0:Itm) (a1:Itm) (r:Int),HP k a0 a1=some r→Fn Tryz.prog 83 [.ag [.i .u8 a0.kind,.b a0.num.1,.sl (L a0.num.2.1),.sl (L a0.num.2.2),.i .i32 a0.char,.sl (Ars a0.box)],.ag [.i .u8 a1.kind,.b a1.num.1,.sl (L a1.num.2.1),.sl (L a1.num.2.2),.i .i32 a1.char,.sl (Ars a1.box)]] (.d (.i .i64 r))
 | 0,_,_,_,h=>by cases h
 | k+1,a0,a1,_,h=>Oy (Jy k)  (show Ji (HP k) a0 a1=some _ from h)
def PG (a0:Itm) (a1:Itm) : Option (Int):=HP (a0.size+1) a0 a1
theorem Qb {a0:Itm} {a1:Itm} {r:Int} (h:PG a0 a1=some r) : Fn Tryz.prog 83 [.ag [.i .u8 a0.kind,.b a0.num.1,.sl (L a0.num.2.1),.sl (L a0.num.2.2),.i .i32 a0.char,.sl (Ars a0.box)],.ag [.i .u8 a1.kind,.b a1.num.1,.sl (L a1.num.2.1),.sl (L a1.num.2.2),.i .i32 a1.char,.sl (Ars a1.box)]] (.d (.i .i64 r)):=Jy _ a0 a1 r  h
def IB (a0:Int) : Option (Itm):=((D1 a0).bind fun x1=>(some ((Itm.mk 1 x1 0 []))))
theorem Mn {a0:Int} {r:Itm} (h:IB a0=some r) :
  Fn Tryz.prog 101 [.i .i64 a0] (.d (.ag [.i .u8 r.kind,.b r.num.1,.sl (L r.num.2.1),.sl (L r.num.2.2),.i .i32 r.char,.sl (Ars r.box)])):=by
 unfold IB at h
 refine Fn.ofC (rs:=[.cell 2 51]) (nt:=6) Tryz.func101 rfl rfl rfl (by simp) rfl ?_;refine .sr ?_;refine vk (van (Ah B6) B2) ?_;refine rk [0,2] ?_;refine .sr ?_;refine va ?_
 obtain ⟨x1,g1,h⟩:=bnd h
 refine vk (Ai (EK g1) Tryz.call37) ?_;refine vk (vbd HI B6 B2) ?_
 refine stn ?_ Au (by decide)
 refine rk [2] ?_;refine .ret ?_
 cases h
 exact ⟨_,⟨.inr rfl,AP,Au,p6⟩,rfl⟩
def Hx (a0:Int) (a1:Int) (c0:Int) (c1:(List Itm)) (c2:(Int×RT×Int)) : Option (Int):=((rd? c1 (w64 (a0-c2.1))).bind fun x1=>((rd? c1 (w64 (a1-c2.1))).bind fun x2=>((PG x1 x2).bind fun x3=>(some ((w64 (c0 * x3)))))))
theorem LU {a0:Int} {a1:Int} {c0:Int} {c1:(List Itm)} {c2:(Int×RT×Int)} {r:Int} (h:Hx a0 a1 c0 c1 c2=some r) :
  Fn Tryz.prog 128 [.i .i64 a0,.i .i64 a1,.ptr [.i .i64 c0],.ptr [.sl (Its c1)],.ptr [.i .i64 c2.1,.b c2.2.1.1,.sl (L c2.2.1.2.1),.sl (L c2.2.1.2.2),.i .i64 c2.2.2]] (.d (.i .i64 r)):=by
 unfold Hx at h
 refine Fn.o1 7 25 Tryz.func128 ?_;refine .sr ?_;refine ar [0,1,2,3,4,7] ?_;refine .seq ?_;refine .drawn 17 A3 (by kernel_rfl) ?_;refine dv (Aj AF) ?_;refine dv (Aj BL) ?_;refine dv Ac ?_;refine dv (vfa HK) ?_;refine dv (Aj AF) ?_;refine dv vbi ?_
 obtain ⟨x1,g1,h⟩:=bnd h
 obtain ⟨n1,p01,q1⟩:=Ag g1
 refine dv (vix n1 p01 (Cw q1) rfl Cl) ?_;refine dv (Ao AP Au) ?_;refine dv (Aj BL) ?_;refine dv Ac ?_;refine dv (vfa HK) ?_;refine dv (Aj AF) ?_;refine dv vbi ?_
 obtain ⟨x2,g2,h⟩:=bnd h
 obtain ⟨n2,p02,q2⟩:=Ag g2
 refine dv (vix n2 p02 (Cw q2) rfl Cl) ?_;refine dv (Ao AP Au) ?_
 obtain ⟨x3,g3,h⟩:=bnd h
 refine dv (Ai (Qb g3) Tryz.call83) ?_;refine dv vbi ?_;refine dz ?_;refine ar [7] ?_;refine .ret ?_
 cases h
 exact ⟨rfl,rfl⟩
def Em (a0:(Int×RT×Int)) (a1:(List Itm)) (K0:(List Int)→Option (Arr)) : Nat→(List Int)→Int→Option (Arr)
 | 0,_,_=>none
 | k+1,s3,s4=>(if s4<((List.length (List.replicate (Int.toNat ((List.length a1:Nat):Int)) (0:Int)):Nat):Int) then ((rd? s3 s4).bind fun x5=>(Em a0 a1 K0 k (List.set s3 (Int.toNat s4) (w64 (s4+a0.1))) (w64 (s4+1)))) else (K0 s3))
def JP (a0:(Int×RT×Int)) (a1:(List Itm)) (a2:Int) : Option (Arr):=((Fp (0≤((List.length a1:Nat) : Int)∧((List.length a1:Nat) : Int)≤17592186044416)).bind fun x1=>(jn (fun (z2:(List Int))=>((Pi z2 (⟨.fn 128 [] [.ptr [.i .i64 a2],.ptr [.sl (Its a1)],.ptr [.i .i64 a0.1,.b a0.2.1.1,.sl (L a0.2.1.2.1),.sl (L a0.2.1.2.2),.i .i64 a0.2.2]],fun x=>Hx x.1 x.2 a2 a1 a0⟩ : An)).bind fun x6=>((G0 x6).bind fun x7=>(some (x7))))) fun K0=>(Em a0 a1 K0 AC (List.replicate (Int.toNat ((List.length a1:Nat) : Int)) (0:Int)) 0)))
theorem Nz {a0:(Int×RT×Int)} {a1:(List Itm)} {a2:Int} {r:Arr} (h:JP a0 a1 a2=some r) :
  Fn Tryz.prog 70 [.ag [.i .i64 a0.1,.b a0.2.1.1,.sl (L a0.2.1.2.1),.sl (L a0.2.1.2.2),.i .i64 a0.2.2],.sl (Its a1),.i .i64 a2] (.d (.ag [.sl (Is r.shape),.sl (Its r.items)])):=by
 unfold JP at h
 refine Fn.ofC (rs:=[.cell 6 27]) (nt:=30) Tryz.func70 rfl rfl rfl (by simp) rfl ?_;refine .sr ?_;refine vk vbx ?_;refine vk XR ?_;refine vk XR ?_;refine vk (van (Ah AI) AK) ?_;refine rk [3,4,5,6] ?_;refine .sr ?_;refine vk (Aj BL) ?_;refine vk (A0 (Az _) (Cu _) Ct) ?_
 obtain ⟨x1,g1,h⟩:=bnd h
 have ghx1:=Ey g1
 refine mk' (F:=Is) (x0:=0) (zl:=((List.length a1:Nat):Int)) (Int.toNat ((List.length a1:Nat):Int)) JB (by omega) (by omega) ?_ DE (by decide)
 refine aso ?_;refine rk [3,4,5,6,7] ?_;refine .seq ?_;refine .sr ?_;refine mvo ?_;refine vk (Sg (Af _) Bp) ?_;refine va ?_;refine rk [3,4,5,6,7,13,14] ?_
 obtain ⟨K0,hK0,h⟩:=AE h
 refine AW.mr (σ:=(List Int)) (fun p=>K0 p=some r) (fun p=>[(3,.d (.ptr [.i .i64 a0.1,.b a0.2.1.1,.sl (L a0.2.1.2.1),.sl (L a0.2.1.2.2),.i .i64 a0.2.2])),(4,.d (.ptr [.sl (Its a1)])),(5,.d (.ptr [.i .i64 a2])),(6,.nb [.sl (Is []),.sl (Its [])]),(7,.own 3 (Is p))]) (fun p=>[]) ?_ ?_
 ·skip
  refine .block ?_
  refine .loop (.gk [3,4,5,6,7,13,14] ?_)
  refine AL.ind (σ:=Nat×(List Int)×Int) (m:=fun p=>p.1) (e:=fun p=>[(3,.d (.ptr [.i .i64 a0.1,.b a0.2.1.1,.sl (L a0.2.1.2.1),.sl (L a0.2.1.2.2),.i .i64 a0.2.2])),(4,.d (.ptr [.sl (Its a1)])),(5,.d (.ptr [.i .i64 a2])),(6,.nb [.sl (Is []),.sl (Its [])]),(7,.own 3 (Is p.2.1)),(13,.d (.i .i64 ((List.length (List.replicate (Int.toNat ((List.length a1:Nat):Int)) (0:Int)):Nat):Int))),(14,.d (.i .i64 p.2.2))]) (h:=fun p=>[]) (I:=fun p=>Em a0 a1 K0 p.1 p.2.1 p.2.2=some r) ?_ (AC,(List.replicate (Int.toNat ((List.length a1:Nat):Int)) (0:Int)),0) h
  rintro ⟨k,s3,s4⟩ h ih
  dsimp only at h ih ⊢
  rcases k with _|k
  ·rw [Em] at h;cases h
  rw [Em] at h
  refine .sr ?_;refine vb ?_;refine rk [3,4,5,6,7,13,14,15] ?_;refine .seq ?_
  rcases brc h with ⟨hc,h⟩|⟨hc,h⟩
  ·refine cnt (dT hc) ?_
   refine .sk ?_;refine .seq ?_;refine .block ?_;refine .sr ?_;refine va ?_;refine ar [3,4,5,6,7,8,13,14] ?_;refine .region ?_;refine mvo ?_;refine va ?_;refine va ?_;refine vk (vfa HK) ?_;refine vk (Aj AF) ?_;refine vb ?_
   obtain ⟨x5,g5,h⟩:=bnd h
   obtain ⟨n5,p05,q5⟩:=Ag g5
   refine ixr (off:=0) (len:=(Is s3).length) n5 p05 (by rw [Af];exact (lS.1 q5).1) ?_ A9 (by decide)
   refine OX (F:=Is) (D:=fun x=>.i .i64 x) Fk (us:=s3) (n:=n5) (m:=Int.toNat s4) (x:=(w64 (s4+a0.1))) (by rw [p05];rfl) ⟨_,by rw [Nat.zero_add];exact Be q5,rfl⟩ ?_ C6
   refine RL.gk [3,4,5,6,7,8,13,14,17,18,19,20,21,22] ?_;refine .nil ?_;refine aw ?_;refine .gk [3,4,5,6,7,13,14] ?_;refine .region ?_;refine vb ?_;refine va ?_;refine .nil ?_;refine AL.gk [3,4,5,6,7,13,14] ?_
   exact ih (k,(List.set s3 (Int.toNat s4) (w64 (s4+a0.1))),(w64 (s4+1))) h (Nat.lt_succ_self _)
  refine cnf (dF hc) ?_;refine .gk [3,4,5,6,7] ?_;refine .exit ?_
  exact jr (s3) h
 rintro z2 h
 try dsimp only at h ⊢
 subst hK0
 refine aw ?_;refine .sr ?_;refine mvo ?_;refine vk Yb ?_
 obtain ⟨x6,g6,h⟩:=bnd h
 refine LX (Is x6) ?_ (RQ (Jb Tryz.call128 (fun _ _ h=>LU h)) g6) Tryz.call127
 refine RL.gk [3,4,5,6,7,26,27] ?_;refine rk [6,7] ?_;refine .sr ?_;refine fz (p:=.t 7) ?_;refine va ?_
 obtain ⟨x7,g7,h⟩:=bnd h
 refine vk (Ai (Gn g7) Tryz.call15) ?_
 refine stn ?_ Aa (by decide)
 refine rk [6] ?_;refine .ret ?_
 cases h
 exact ⟨_,⟨.inr rfl,Ae,Aa,p2⟩,rfl⟩
def Dt (a0:Arr) : Option (Bool):=((Bm a0).bind fun x1=>(some ((!x1))))
theorem Ic {a0:Arr} {r:Bool} (h:Dt a0=some r) :
  Fn Tryz.prog 96 [.ag [.sl (Is a0.shape),.sl (Its a0.items)]] (.d (.b r)):=by
 unfold Dt at h
 refine Fn.o1 2 6 Tryz.func96 ?_;refine .sr ?_;refine vk vbx ?_;refine ar [1,2] ?_;refine .sr ?_;refine vk (Ao Ae Aa) ?_
 obtain ⟨x1,g1,h⟩:=bnd h
 refine vk (Ai (BT g1) Tryz.call54) ?_;refine vk vnt ?_;refine ar [2] ?_;refine .ret ?_
 cases h
 exact ⟨rfl,rfl⟩
def ED (a0:(Int×RT×Int)) (a1:(List Arr)) : Option (Bool):=(Option.bind ((if a0.1=0 then ((Ar a1 (⟨.fn 96 [] [],fun x=>Dt x⟩ : Br)).bind fun x2=>(some (!x2))) else (if a0.1=1 then ((Ar a1 (⟨.fn 96 [] [],fun x=>Dt x⟩ : Br)).bind fun x3=>(some (!x3))) else (some false))) : Option (Bool)) fun (z1:Bool)=>(some (z1)))
theorem Jv {a0:(Int×RT×Int)} {a1:(List Arr)} {r:Bool} (h:ED a0 a1=some r) :
  Fn Tryz.prog 39 [.ag [.i .i64 a0.1,.b a0.2.1.1,.sl (L a0.2.1.2.1),.sl (L a0.2.1.2.2),.i .i64 a0.2.2],.sl (Ars a1)] (.d (.b r)):=by
 unfold ED at h
 refine Fn.o1 4 18 Tryz.func39 ?_;refine .sr ?_;refine vk vbx ?_;refine ar [1,2,4] ?_;refine .seq ?_
 obtain ⟨z1,hz,h⟩:=bnd h
 refine AW.mr (σ:=Unit) (fun _=>True) (fun _=>[(4,.d (.b z1))]) (fun _=>[]) ?_ ?_
 ·skip
  refine .region ?_;refine vk (vfa HK) ?_;refine vk (Aj AF) ?_;refine vb ?_
  rcases brc hz with ⟨hc,hz⟩|⟨hc,hz⟩
  ·have hb0:(decide (a0.1=0))=true:=(dT hc)
   refine vL hb0 ?_;refine gf3 ?_;refine vk Aq ?_;refine va ?_;refine va ?_
   obtain ⟨x2,g2,hz⟩:=bnd hz
   refine vk (Ai (AX (Jb Tryz.call96 (fun _ _ h=>Ic h)) g2) Tryz.call95) ?_;refine vk vnt ?_;refine vk Aq ?_;refine asd ?_;refine RL.gk [4] ?_;refine .nil ?_
   cases hz
   exact jr () trivial
  have hb0:(decide (a0.1=0))=false:=(dF hc)
  refine vL hb0 ?_;refine vk (vfa HK) ?_;refine vk (Aj AF) ?_;refine vb ?_;refine vk Aq ?_
  rcases brc hz with ⟨hc,hz⟩|⟨hc,hz⟩
  ·have hb1:(decide (a0.1=1))=true:=(dT hc)
   refine vL hb1 ?_;refine va ?_
   obtain ⟨x3,g3,hz⟩:=bnd hz
   refine vk (Ai (AX (Jb Tryz.call96 (fun _ _ h=>Ic h)) g3) Tryz.call95) ?_;refine vk vnt ?_;refine vk Aq ?_;refine asd ?_;refine RL.gk [4] ?_;refine .nil ?_
   cases hz
   exact jr () trivial
  have hb1:(decide (a0.1=1))=false:=(dF hc)
  refine vL hb1 ?_;refine gf3 ?_;refine vk Aq ?_;refine asd ?_;refine RL.gk [4] ?_;refine .nil ?_
  cases hz
  exact jr () trivial
 rintro _ _
 refine .ret ?_
 cases h
 exact ⟨rfl,rfl⟩
def AZ (a0:(List (List Int))) (K0:Int→Option ((List Int))) : Nat→Int→Int→Option ((List Int))
 | 0,_,_=>none
 | k+1,s2,s3=>(if s3<((List.length a0:Nat):Int) then (jn (fun (z4:Int)=>(AZ a0 K0 k z4 (w64 (s3+1)))) fun K2=>((rd? a0 s3).bind fun x5=>((Fp (¬((w64 (s2+((List.length x5:Nat):Int)))<0))).bind fun x6=>(K2 (w64 (s2+((List.length x5:Nat):Int))))))) else (K0 s2))
def AY (a0:(List (List Int))) (K3:(List Int)→Option ((List Int))) : Nat→(List Int)→Int→Option ((List Int))
 | 0,_,_=>none
 | k+1,s9,s10=>(if s10<((List.length a0:Nat):Int) then ((rd? a0 s10).bind fun x11=>((ap? 17592186044416 s9 x11).bind fun x12=>(AY a0 K3 k x12 (w64 (s10+1))))) else (K3 s9))
def A1 (a0:(List (List Int))) : Option ((List Int)):=(jn (fun (z1:Int)=>((Fp (0≤z1∧z1≤QK)).bind fun x7=>(jn (fun (z8:(List Int))=>(some (z8))) fun K3=>(AY a0 K3 AC [] 0)))) fun K0=>(AZ a0 K0 AC 0 0))
theorem C2 {a0:(List (List Int))} {r:(List Int)} (h:A1 a0=some r) :
  Fn Tryz.prog 100 [.sl (IsS a0)] (.d (.sl (Is r))):=by
 unfold A1 at h
 refine Fn.o1 2 36 Tryz.func100 ?_;refine .sr ?_;refine asn ?_;refine rk [0,2] ?_;refine .sr ?_;refine ar [0,2,3] ?_;refine .seq ?_;refine .sr ?_;refine va ?_;refine vk (A0 (M6 _) (Vp _) UC) ?_;refine va ?_;refine rk [0,2,3,9,10,11] ?_
 obtain ⟨K0,hK0,h⟩:=AE h
 refine AW.mr (σ:=Int) (fun p=>K0 p=some r) (fun p=>[(0,.d (.sl (IsS a0))),(2,.nl),(3,.d (.i .i64 p))]) (fun p=>[]) ?_ ?_
 ·skip
  refine .block ?_
  refine .loop (.gk [0,2,3,9,10,11] ?_)
  refine AL.ind (σ:=Nat×Int×Int) (m:=fun p=>p.1) (e:=fun p=>[(0,.d (.sl (IsS a0))),(2,.nl),(3,.d (.i .i64 p.2.1)),(9,.d (.sl (IsS a0))),(10,.d (.i .i64 ((List.length a0:Nat):Int))),(11,.d (.i .i64 p.2.2))]) (h:=fun p=>[]) (I:=fun p=>AZ a0 K0 p.1 p.2.1 p.2.2=some r) ?_ (AC,0,0) h
  rintro ⟨k,s2,s3⟩ h ih
  dsimp only at h ih ⊢
  rcases k with _|k
  ·rw [AZ] at h;cases h
  rw [AZ] at h
  refine .sr ?_;refine vb ?_;refine rk [0,2,3,9,10,11,12] ?_;refine .seq ?_
  rcases brc h with ⟨hc,h⟩|⟨hc,h⟩
  ·refine cnt (dT hc) ?_
   refine .sk ?_
   obtain ⟨K2,hK2,h⟩:=AE h
   refine AW.mj (σ:=Int) (fun p=>K2 p=some r) (fun p=>[(0,.d (.sl (IsS a0))),(2,.nl),(3,.d (.i .i64 p)),(9,.d (.sl (IsS a0))),(10,.d (.i .i64 ((List.length a0:Nat):Int))),(11,.d (.i .i64 s3))]) (fun p=>[]) ?_ ?_
   ·skip
    refine .block ?_;refine .sr ?_
    obtain ⟨x5,g5,h⟩:=bnd h
    obtain ⟨n5,p05,q5⟩:=Ag g5
    refine vk (vix n5 p05 (VK q5) rfl Vm) ?_;refine vk (Aj Bl) ?_;refine ar [0,2,3,5,9,10,11] ?_;refine .sr ?_;refine va ?_;refine va ?_;refine vk (A0 (Af _) (Bv _) Bp) ?_;refine vb ?_;refine ar [0,2,3,9,10,11] ?_;refine .sr ?_;refine va ?_;refine vb ?_;refine rk [0,2,3,9,10,11,20] ?_
    obtain ⟨x6,g6,h⟩:=bnd h
    have hc:=Ey g6
    refine cnf (dF hc) ?_;refine .gk [0,2,3,9,10,11] ?_;refine .skip ?_
    exact jr ((w64 (s2+((List.length x5:Nat):Int)))) h
   rintro z4 h
   try dsimp only at h ⊢
   subst hK2
   refine .region ?_;refine vb ?_;refine va ?_;refine .nil ?_;refine AL.gk [0,2,3,9,10,11] ?_
   exact ih (k,z4,(w64 (s3+1))) h (Nat.lt_succ_self _)
  refine cnf (dF hc) ?_;refine .gk [0,2,3] ?_;refine .exit ?_
  exact jr (s2) h
 rintro z1 h
 try dsimp only at h ⊢
 subst hK0
 refine aw ?_;refine .sr ?_;refine va ?_
 obtain ⟨x7,g7,h⟩:=bnd h
 refine clR (avs:=[.nl,.d (.i .i64 z1)]) (WT VN WP (Ey g7)) Tryz.call157 (fun r' H' hp=>?_)
 obtain ⟨rfl,rfl⟩:=hp
 refine aso ?_;refine rk [0,2,6] ?_;refine .seq ?_;refine .sr ?_;refine va ?_;refine vk (A0 (M6 _) (Vp _) UC) ?_;refine va ?_;refine rk [2,6,25,26,27] ?_
 obtain ⟨K3,hK3,h⟩:=AE h
 refine AW.mr (σ:=(List Int)) (fun p=>K3 p=some r) (fun p=>[(2,.nl),(6,.own 3 (Is p))]) (fun p=>[]) ?_ ?_
 ·skip
  refine .block ?_
  refine .loop (.gk [2,6,25,26,27] ?_)
  refine AL.ind (σ:=Nat×(List Int)×Int) (m:=fun p=>p.1) (e:=fun p=>[(2,.nl),(6,.own 3 (Is p.2.1)),(25,.d (.sl (IsS a0))),(26,.d (.i .i64 ((List.length a0:Nat):Int))),(27,.d (.i .i64 p.2.2))]) (h:=fun p=>[]) (I:=fun p=>AY a0 K3 p.1 p.2.1 p.2.2=some r) ?_ (AC,[],0) h
  rintro ⟨k,s9,s10⟩ h ih
  dsimp only at h ih ⊢
  rcases k with _|k
  ·rw [AY] at h;cases h
  rw [AY] at h
  refine .sr ?_;refine vb ?_;refine rk [2,6,25,26,27,28] ?_;refine .seq ?_
  rcases brc h with ⟨hc,h⟩|⟨hc,h⟩
  ·refine cnt (dT hc) ?_
   refine .sk ?_;refine .seq ?_;refine .block ?_;refine .sr ?_
   obtain ⟨x11,g11,h⟩:=bnd h
   obtain ⟨n11,p011,q11⟩:=Ag g11
   refine vk (vix n11 p011 (VK q11) rfl Vm) ?_;refine vk (Aj Bl) ?_;refine ar [2,6,8,25,26,27] ?_;refine .region ?_;refine mvo ?_;refine va ?_
   obtain ⟨x12,g12,h⟩:=bnd h
   refine OO OZ g12 SF ?_ Ng Af DE
   refine aso ?_;refine .nil ?_;refine aw ?_;refine .gk [2,6,25,26,27] ?_;refine .region ?_;refine vb ?_;refine va ?_;refine .nil ?_;refine AL.gk [2,6,25,26,27] ?_
   exact ih (k,x12,(w64 (s10+1))) h (Nat.lt_succ_self _)
  refine cnf (dF hc) ?_;refine .gk [2,6] ?_;refine .exit ?_
  exact jr (s9) h
 rintro z8 h
 try dsimp only at h ⊢
 subst hK3
 refine aw ?_;refine .sr ?_;refine fz (p:=.t 6) ?_;refine va ?_;refine ar [2] ?_;refine .ret ?_
 cases h
 exact ⟨rfl,rfl⟩
def E7 (a0:Int) : Option (Bool):=((LO (⟨#[226,138,130,226,138,131,226,134,145,226,136,138,226,141,139,226,141,146,226,136,170,226,137,161,226,137,162,226,141,179]⟩ : ByteArray) a0).bind fun x1=>(some (x1)))
theorem Ke {a0:Int} {r:Bool} (h:E7 a0=some r) :
  Fn Tryz.prog 64 [.i .i32 a0] (.d (.b r)):=by
 unfold E7 at h
 refine Fn.o1 2 5 Tryz.func64 ?_;refine .sr ?_;refine ar [0,2] ?_;refine .sr ?_;refine va ?_
 obtain ⟨x1,g1,h⟩:=bnd h
 refine vk (Ai (MN g1) Tryz.call94) ?_;refine ar [2] ?_;refine .ret ?_
 cases h
 exact ⟨rfl,rfl⟩
def G5 (a0:Int) : Option (Bool):=((LO (⟨#[226,138,131,226,141,179,226,136,138,126,226,136,170,226,137,161,226,137,162,226,138,164,226,138,165,226,140,183]⟩ : ByteArray) a0).bind fun x1=>(some (x1)))
theorem Ld {a0:Int} {r:Bool} (h:G5 a0=some r) :
  Fn Tryz.prog 38 [.i .i32 a0] (.d (.b r)):=by
 unfold G5 at h
 refine Fn.o1 2 5 Tryz.func38 ?_;refine .sr ?_;refine ar [0,2] ?_;refine .sr ?_;refine va ?_
 obtain ⟨x1,g1,h⟩:=bnd h
 refine vk (Ai (MN g1) Tryz.call94) ?_;refine ar [2] ?_;refine .ret ?_
 cases h
 exact ⟨rfl,rfl⟩
theorem MO {p:Prop} [Decidable p] (h:p) : Fp p=some ():=if_pos h
theorem QH {l:List Arr} (hl:l.length≤17592186044416) (ho:∀ a∈l,okAr a) : ED (1,(false,[],[]),0) l=some (!l.any fun a=>!decide (A7 a)):=by
 have hc:=Js (xs:=l) (f:=(⟨.fn 96 [] [],fun x=>Dt x⟩:Br)) (p:=fun a=>!decide (A7 a)) (fun a ha=>by
  show Dt a=_
  unfold Dt;rw [FD (ho a ha)];rfl) hl
 unfold ED
 rw [if_neg (show ¬((1:Int)=0) by decide),if_pos rfl,hc];rfl
theorem TH {a:Arr} (oa:okAr a) (ra:A7 a) : ED (1,(false,[],[]),0) [a]=some true:=by
 rw [QH (by simp) (by simpa using oa)];simp [ra]
theorem UG (n:Nat) (h:n≤140737488355328:=by decide) : ∃ k,AC=k+n:=⟨AC-n,by have:=B9 h;omega⟩
def BN (a0:Itm) (a1:Itm) (K0:Bool→Option (Bool)) : Nat→Bool→Int→Option (Bool)
 | 0,_,_=>none
 | k+1,s4,s5=>(if s5<((List.length a0.box:Nat):Int) then ((rd? a0.box s5).bind fun x6=>((rd? a1.box s5).bind fun x7=>((Hk x6 x7).bind fun x8=>(if x8=true then (BN a0 a1 K0 k s4 (w64 (s5+1))) else (some (false)))))) else (K0 s4))
def Dh (a0:Itm) (a1:Itm) : Option (Bool):=(Option.bind ((if a0.kind=a1.kind then (if a0.char=a1.char then ((KC a0.num a1.num).bind fun x2=>(if x2=true then (some (!(decide (((List.length a0.box:Nat) : Int)=((List.length a1.box:Nat) : Int))))) else (some true))) else (some true)) else (some true)) : Option (Bool)) fun (z1:Bool)=>(if z1=true then (some (false)) else (jn (fun (z3:Bool)=>(some (true))) fun K0=>(BN a0 a1 K0 AC false 0))))
theorem Kv {a0:Itm} {a1:Itm} {r:Bool} (h:Dh a0 a1=some r) :
  Fn Tryz.prog 27 [.ag [.i .u8 a0.kind,.b a0.num.1,.sl (L a0.num.2.1),.sl (L a0.num.2.2),.i .i32 a0.char,.sl (Ars a0.box)],.ag [.i .u8 a1.kind,.b a1.num.1,.sl (L a1.num.2.1),.sl (L a1.num.2.2),.i .i32 a1.char,.sl (Ars a1.box)]] (.d (.b r)):=by
 unfold Dh at h
 refine Fn.o1 4 54 Tryz.func27 ?_;refine .sr ?_;refine vk vbx ?_;refine vk vbx ?_;refine ar [2,3,4] ?_;refine .seq ?_;refine .seq ?_
 obtain ⟨z1,hz,h⟩:=bnd h
 refine AW.mr (σ:=Unit) (fun _=>True) (fun _=>[(2,.d (.ptr [.i .u8 a0.kind,.b a0.num.1,.sl (L a0.num.2.1),.sl (L a0.num.2.2),.i .i32 a0.char,.sl (Ars a0.box)])),(3,.d (.ptr [.i .u8 a1.kind,.b a1.num.1,.sl (L a1.num.2.1),.sl (L a1.num.2.2),.i .i32 a1.char,.sl (Ars a1.box)])),(4,.d (.b false)),(34,.d (.b z1))]) (fun _=>[]) ?_ ?_
 ·skip
  refine .region ?_;refine vk (vfa BY) ?_;refine vk (Aj Bb) ?_;refine vk (vfa BY) ?_;refine vk (Aj Bb) ?_;refine vb ?_
  rcases brc hz with ⟨hc,hz⟩|⟨hc,hz⟩
  ·have hb0:(!(decide (a0.kind=a1.kind)))=false:=(ntf (dT hc))
   refine vL hb0 ?_;refine vk (vfa DJ) ?_;refine vk (Aj DC) ?_;refine vk (vfa DJ) ?_;refine vk (Aj DC) ?_;refine vb ?_;refine vk Aq ?_
   rcases brc hz with ⟨hc,hz⟩|⟨hc,hz⟩
   ·have hb1:(!(decide (a0.char=a1.char)))=false:=(ntf (dT hc))
    refine vL hb1 ?_;refine vk (vfa BS) ?_;refine vk (Ao A8 AG) ?_;refine vk (vfa BS) ?_;refine vk (Ao A8 AG) ?_
    obtain ⟨x2,g2,hz⟩:=bnd hz
    refine vk (Ai (LN g2) Tryz.call23) ?_;refine vk vnt ?_;refine vk Aq ?_
    rcases brc hz with ⟨hc,hz⟩|⟨hc,hz⟩
    ·have hb2:(!x2)=false:=(ntf hc)
     refine vL hb2 ?_;refine vk (vfa Bh) ?_;refine vk (Aj Cv) ?_;refine vk (A0 (A6 _) (EF _) D0) ?_;refine vk (vfa Bh) ?_;refine vk (Aj Cv) ?_;refine vk (A0 (A6 _) (EF _) D0) ?_;refine vb ?_;refine vk Aq ?_;refine RL.gk [2,3,4,34] ?_;refine .nil ?_
     cases hz
     exact jr () trivial
    have hb2:(!x2)=true:=(ntt (bf hc))
    refine vL hb2 ?_;refine gf4 ?_;refine gf3 ?_;refine vk Aq ?_;refine RL.gk [2,3,4,34] ?_;refine .nil ?_
    cases hz
    exact jr () trivial
   have hb1:(!(decide (a0.char=a1.char)))=true:=(ntt (dF hc))
   refine vL hb1 ?_;refine gf4 ?_;refine gf2 ?_;refine vk Aq ?_;refine va ?_;refine gf4 ?_;refine gf3 ?_;refine vk Aq ?_;refine RL.gk [2,3,4,34] ?_;refine .nil ?_
   cases hz
   exact jr () trivial
  have hb0:(!(decide (a0.kind=a1.kind)))=true:=(ntt (dF hc))
  refine vL hb0 ?_;refine gf4 ?_;refine gf ?_;refine vk Aq ?_;refine va ?_;refine gf4 ?_;refine gf2 ?_;refine vk Aq ?_;refine va ?_;refine gf4 ?_;refine gf3 ?_;refine vk Aq ?_;refine RL.gk [2,3,4,34] ?_;refine .nil ?_
  cases hz
  exact jr () trivial
 rintro _ _
 rcases brc h with ⟨hc,h⟩|⟨hc,h⟩
 ·refine cnt hc ?_
  refine .sr ?_;refine ar [2,3,4] ?_;refine .ret ?_
  cases h
  exact ⟨rfl,rfl⟩
 refine cnf (bf hc) ?_;refine .sk ?_;refine .seq ?_;refine .sr ?_;refine ar [2,3,4,5] ?_
 obtain ⟨K0,hK0,h⟩:=AE h
 refine AW.mr (σ:=Bool) (fun p=>K0 p=some r) (fun p=>[(4,.d (.b p))]) (fun p=>[]) ?_ ?_
 ·skip
  refine .block ?_
  refine .loop (.gk [2,3,4,5] ?_)
  refine AL.ind (σ:=Nat×Bool×Int) (m:=fun p=>p.1) (e:=fun p=>[(2,.d (.ptr [.i .u8 a0.kind,.b a0.num.1,.sl (L a0.num.2.1),.sl (L a0.num.2.2),.i .i32 a0.char,.sl (Ars a0.box)])),(3,.d (.ptr [.i .u8 a1.kind,.b a1.num.1,.sl (L a1.num.2.1),.sl (L a1.num.2.2),.i .i32 a1.char,.sl (Ars a1.box)])),(4,.d (.b p.2.1)),(5,.d (.i .i64 p.2.2))]) (h:=fun p=>[]) (I:=fun p=>BN a0 a1 K0 p.1 p.2.1 p.2.2=some r) ?_ (AC,false,0) h
  rintro ⟨k,s4,s5⟩ h ih
  dsimp only at h ih ⊢
  rcases k with _|k
  ·rw [BN] at h;cases h
  rw [BN] at h
  refine .seq ?_;refine .sr ?_;refine va ?_;refine vk (vfa Bh) ?_;refine vk (Aj Cv) ?_;refine vk (A0 (A6 _) (EF _) D0) ?_;refine vb ?_;refine rk [2,3,4,5,39] ?_
  rcases brc h with ⟨hc,h⟩|⟨hc,h⟩
  ·refine cnt (dT hc) ?_
   refine .sk ?_;refine .seq ?_;refine .block ?_;refine .seq ?_;refine .drawn 12 A3 (by kernel_rfl) ?_;refine dv (vfa Bh) ?_;refine dv (Aj Cv) ?_;refine dv Ac ?_
   obtain ⟨x6,g6,h⟩:=bnd h
   obtain ⟨n6,p06,q6⟩:=Ag g6
   refine dv (vix n6 p06 (Df q6) rfl Di) ?_;refine dv (Ao Ae Aa) ?_;refine dv (vfa Bh) ?_;refine dv (Aj Cv) ?_;refine dv Ac ?_
   obtain ⟨x7,g7,h⟩:=bnd h
   obtain ⟨n7,p07,q7⟩:=Ag g7
   refine dv (vix n7 p07 (Df q7) rfl Di) ?_;refine dv (Ao Ae Aa) ?_
   obtain ⟨x8,g8,h⟩:=bnd h
   refine dv (Ai (Pa g8) Tryz.call21) ?_;refine dv vnt ?_;refine dz ?_;refine rk [2,3,4,5,53] ?_
   rcases brc h with ⟨hc,h⟩|⟨hc,h⟩
   ·refine cnf (ntf hc) ?_
    refine .sk ?_;refine .region ?_;refine va ?_;refine vb ?_;refine asd ?_;refine .nil ?_;refine AL.gk [2,3,4,5] ?_
    exact ih (k,s4,(w64 (s5+1))) h (Nat.lt_succ_self _)
   refine cnt (ntt (bf hc)) ?_;refine .sr ?_;refine ar [2,3,4,5] ?_;refine .ret ?_
   cases h
   exact ⟨rfl,rfl⟩
  refine cnf (dF hc) ?_;refine .gk [4] ?_;refine .exit ?_
  exact jr (s4) h
 rintro z3 h
 try dsimp only at h ⊢
 subst hK0
 refine aw ?_;refine .sr ?_;refine ar [4] ?_;refine .ret ?_
 cases h
 exact ⟨rfl,rfl⟩
theorem Qg (x y:Itm) (K:Bool→Option Bool) : ∀ (k:Nat) (s:Bool) (i:Int),BN x y K k s i=Bq Hk x y K k s i
 | 0,_,_=>rfl
 | k+1,s,i=>by
  rw [BN,Bq]
  simp only [Qg x y K k]
theorem QF {x y:Itm} (hx:okI x) : Tells (Dh x y) (x=y):=by
 have e:Dh x y=BP Hk x y:=by
  unfold Dh BP
  simp only [Qg]
 rw [e]
 exact J8 hx fun a ha b _=>Wg (((Et x).1 hx).2.2.2.2 a ha)
theorem Oo {x:Itm} : ∀ {xs:List Itm},x∈xs→cI x≤cIs xs
 | y::ys,h=>by
  rw [cIs]
  rcases List.mem_cons.1 h with rfl|h
  ·omega
  ·have:=Oo h;omega
theorem Ty {x:Itm} (hr:rI x=true) (hd:dI x≤15) (hc:1+cI x≤16384) : A7 (.mk [] [x]):=by
 refine ⟨?_,?_,?_⟩
 ·rw [rA];simp [rIs,hr,Kk]
 ·rw [Ie]
  have:dIs [x]=dI x:=by simp [dIs]
  simp only [Arr.items,this]
  split<;>omega
 ·have:cA (.mk [] [x])=1+cI x:=by simp [cA,cIs]
  omega
theorem VR.one {xs:List Itm} (h:VR xs) {x:Itm} (hx:x∈xs) : okI x∧A7 (.mk [] [x])∧AM [] [x]=some (.mk [] [x],0):=by
 have hi:=h.items x hx
 have hp:=h.parts
 have hd:=Gk hx
 have hc:=Oo hx
 have hpos:=h.pos
 have r:=Ty hi.2.1 (by omega) (by omega)
 refine ⟨hi.1,r,?_⟩
 rw [GV (by simp) (by simp) (by simp) (by simpa using hi.1),if_neg (by rw [Kk];simp),if_neg (by simp [hi.2]),Kk,show CA 1 [x]=[x] from F5 (n:=1) rfl (by decide),if_pos r]
def Cy (a0:(List Int)) (c0:(List Int)) (c1:Arr) (c2:(List Int)) (c3:(List Int)) (K0:Int→Int→Option (Int)) : Nat→Int→Int→Int→Option (Int)
 | 0,_,_,_=>none
 | k+1,s3,s4,s5=>(if s5<((List.length a0:Nat):Int) then ((rd? a0 s5).bind fun x6=>((rd? c0 s5).bind fun x7=>(jn (fun (z8:Int)=>(Option.bind ((if z8<0 then (some true) else ((rd? c1.shape s5).bind fun x12=>(some (decide (x12≤z8))))):Option (Bool)) fun (z11:Bool)=>(if z11=true then (some ((-1))) else ((rd? c3 s5).bind fun x13=>(Cy a0 c0 c1 c2 c3 K0 k s3 (w64 (s4+(w64 (z8 * x13)))) (w64 (s5+1))))))) fun K2=>(if x7<0 then ((rd? c1.shape s5).bind fun x9=>((rd? c2 s5).bind fun x10=>(K2 (w64 (x6+(w64 (x9-x10))))))) else (K2 x6))))) else (K0 s3 s4))
def Ea (a0:(List Int)) (c0:(List Int)) (c1:Arr) (c2:(List Int)) (c3:(List Int)) : Option (Int):=(jn (fun (z1:Int) (z2:Int)=>(some (z2))) fun K0=>(Cy a0 c0 c1 c2 c3 K0 AC 0 0 0))
theorem LY {a0:(List Int)} {c0:(List Int)} {c1:Arr} {c2:(List Int)} {c3:(List Int)} {r:Int} (h:Ea a0 c0 c1 c2 c3=some r) :
  Fn Tryz.prog 220 [.sl (Is a0),.ptr [.sl (Is c0)],.ptr [.sl (Is c1.shape),.sl (Its c1.items)],.ptr [.sl (Is c2)],.ptr [.sl (Is c3)]] (.d (.i .i64 r)):=by
 unfold Ea at h
 refine Fn.o1 6 55 Tryz.func220 ?_;refine .sr ?_;refine ar [0,1,2,3,4,6] ?_;refine .sr ?_;refine ar [0,1,2,3,4,6,7] ?_;refine .seq ?_;refine .sr ?_;refine va ?_;refine vk (A0 (Af _) (Bv _) Bp) ?_;refine va ?_;refine rk [1,2,3,4,6,7,10,11,12] ?_
 obtain ⟨K0,hK0,h⟩:=AE h
 refine AW.mr (σ:=Int×Int) (fun p=>K0 p.1 p.2=some r) (fun p=>[(6,.d (.i .i64 p.1)),(7,.d (.i .i64 p.2))]) (fun p=>[]) ?_ ?_
 ·skip
  refine .block ?_
  refine .loop (.gk [1,2,3,4,6,7,10,11,12] ?_)
  refine AL.ind (σ:=Nat×Int×Int×Int) (m:=fun p=>p.1) (e:=fun p=>[(1,.d (.ptr [.sl (Is c0)])),(2,.d (.ptr [.sl (Is c1.shape),.sl (Its c1.items)])),(3,.d (.ptr [.sl (Is c2)])),(4,.d (.ptr [.sl (Is c3)])),(6,.d (.i .i64 p.2.1)),(7,.d (.i .i64 p.2.2.1)),(10,.d (.sl (Is a0))),(11,.d (.i .i64 ((List.length a0:Nat):Int))),(12,.d (.i .i64 p.2.2.2))]) (h:=fun p=>[]) (I:=fun p=>Cy a0 c0 c1 c2 c3 K0 p.1 p.2.1 p.2.2.1 p.2.2.2=some r) ?_ (AC,0,0,0) h
  rintro ⟨k,s3,s4,s5⟩ h ih
  dsimp only at h ih ⊢
  rcases k with _|k
  ·rw [Cy] at h;cases h
  rw [Cy] at h
  refine .sr ?_;refine vb ?_;refine rk [1,2,3,4,6,7,10,11,12,13] ?_;refine .seq ?_
  rcases brc h with ⟨hc,h⟩|⟨hc,h⟩
  ·refine cnt (dT hc) ?_
   refine .sk ?_;refine .seq ?_;refine .block ?_;refine .sr ?_;refine va ?_
   obtain ⟨x6,g6,h⟩:=bnd h
   obtain ⟨n6,p06,q6⟩:=Ag g6
   refine vk (vix n6 p06 (Be q6) rfl A9) ?_;refine vk (Aj AF) ?_;refine asd ?_;refine ar [1,2,3,4,6,7,8,9,10,11,12] ?_;refine .seq ?_;refine .sr ?_;refine vk (Aj Bl) ?_;refine va ?_
   obtain ⟨x7,g7,h⟩:=bnd h
   obtain ⟨n7,p07,q7⟩:=Ag g7
   refine vk (vix n7 p07 (Be q7) rfl A9) ?_;refine vk (Aj AF) ?_;refine vb ?_;refine rk [1,2,3,4,6,7,8,9,10,11,12,21] ?_
   obtain ⟨K2,hK2,h⟩:=AE h
   refine AW.mr (σ:=Int) (fun p=>K2 p=some r) (fun p=>[(1,.d (.ptr [.sl (Is c0)])),(2,.d (.ptr [.sl (Is c1.shape),.sl (Its c1.items)])),(3,.d (.ptr [.sl (Is c2)])),(4,.d (.ptr [.sl (Is c3)])),(6,.d (.i .i64 s3)),(7,.d (.i .i64 s4)),(8,.d (.i .i64 s5)),(9,.d (.i .i64 p)),(10,.d (.sl (Is a0))),(11,.d (.i .i64 ((List.length a0:Nat):Int))),(12,.d (.i .i64 s5))]) (fun p=>[]) ?_ ?_
   ·skip
    rcases brc h with ⟨hc,h⟩|⟨hc,h⟩
    ·refine cnt (dT hc) ?_
     refine .drawn 12 A3 (by kernel_rfl) ?_;refine dv Ac ?_;refine dv (vfa AJ) ?_;refine dv (Aj Bl) ?_;refine dv Ac ?_
     obtain ⟨x9,g9,h⟩:=bnd h
     obtain ⟨n9,p09,q9⟩:=Ag g9
     refine dv (vix n9 p09 (Be q9) rfl A9) ?_;refine dv (Aj AF) ?_;refine dv (Aj Bl) ?_;refine dv Ac ?_
     obtain ⟨x10,g10,h⟩:=bnd h
     obtain ⟨n10,p010,q10⟩:=Ag g10
     refine dv (vix n10 p010 (Be q10) rfl A9) ?_;refine dv (Aj AF) ?_;refine dv vbi ?_;refine dv vbi ?_;refine dz ?_;refine asd ?_;refine RL.gk [1,2,3,4,6,7,8,9,10,11,12] ?_;refine .nil ?_
     exact jr ((w64 (x6+(w64 (x9-x10))))) h
    refine cnf (dF hc) ?_;refine .gk [1,2,3,4,6,7,8,9,10,11,12] ?_;refine .skip ?_
    exact jr (x6) h
   rintro z8 h
   try dsimp only at h ⊢
   subst hK2
   refine aw ?_;refine .seq ?_;refine .seq ?_
   obtain ⟨z11,hz,h⟩:=bnd h
   refine AW.mr (σ:=Unit) (fun _=>True) (fun _=>[(1,.d (.ptr [.sl (Is c0)])),(2,.d (.ptr [.sl (Is c1.shape),.sl (Its c1.items)])),(3,.d (.ptr [.sl (Is c2)])),(4,.d (.ptr [.sl (Is c3)])),(6,.d (.i .i64 s3)),(7,.d (.i .i64 s4)),(8,.d (.i .i64 s5)),(9,.d (.i .i64 z8)),(10,.d (.sl (Is a0))),(11,.d (.i .i64 ((List.length a0:Nat):Int))),(12,.d (.i .i64 s5)),(44,.d (.b z11))]) (fun _=>[]) ?_ ?_
   ·skip
    refine .region ?_;refine va ?_;refine vb ?_
    rcases brc hz with ⟨hc,hz⟩|⟨hc,hz⟩
    ·have hb0:(decide (z8<0))=true:=(dT hc)
     refine vL hb0 ?_;refine gf4 ?_;refine gf3 ?_;refine vk Aq ?_;refine RL.gk [1,2,3,4,6,7,8,9,10,11,12,44] ?_;refine .nil ?_
     cases hz
     exact jr () trivial
    have hb0:(decide (z8<0))=false:=(dF hc)
    refine vL hb0 ?_;refine va ?_;refine vk (vfa AJ) ?_;refine vk (Aj Bl) ?_;refine va ?_
    obtain ⟨x12,g12,hz⟩:=bnd hz
    obtain ⟨n12,p012,q12⟩:=Ag g12
    refine vk (vix n12 p012 (Be q12) rfl A9) ?_;refine vk (Aj AF) ?_;refine vb ?_;refine vk Aq ?_;refine RL.gk [1,2,3,4,6,7,8,9,10,11,12,44] ?_;refine .nil ?_
    cases hz
    exact jr () trivial
   rintro _ _
   rcases brc h with ⟨hc,h⟩|⟨hc,h⟩
   ·refine cnt hc ?_
    refine .sr ?_;refine ar [1,2,3,4,6,7,8,9,10,11,12] ?_;refine .ret ?_
    cases h
    exact ⟨rfl,rfl⟩
   refine cnf (bf hc) ?_;refine .sk ?_;refine .region ?_;refine va ?_;refine va ?_;refine vk (Aj Bl) ?_;refine va ?_
   obtain ⟨x13,g13,h⟩:=bnd h
   obtain ⟨n13,p013,q13⟩:=Ag g13
   refine vk (vix n13 p013 (Be q13) rfl A9) ?_;refine vk (Aj AF) ?_;refine vb ?_;refine vb ?_;refine asd ?_;refine .nil ?_;refine aw ?_;refine .gk [1,2,3,4,6,7,10,11,12] ?_;refine .region ?_;refine vb ?_;refine va ?_;refine .nil ?_;refine AL.gk [1,2,3,4,6,7,10,11,12] ?_
   exact ih (k,s3,(w64 (s4+(w64 (z8 * x13)))),(w64 (s5+1))) h (Nat.lt_succ_self _)
  refine cnf (dF hc) ?_;refine .gk [6,7] ?_;refine .exit ?_
  exact jr (s3,s4) h
 rintro ⟨z1,z2⟩ h
 try dsimp only at h ⊢
 subst hK0
 refine aw ?_;refine .sr ?_;refine va ?_;refine ar [6] ?_;refine .ret ?_
 cases h
 exact ⟨rfl,rfl⟩
def Cc (x1:(List Int)×Arr×Int) (K0:Arr→Int→(List Int)→Option (Arr×Int)) : Nat→Arr→Int→Int→(List Int)→Option (Arr×Int)
 | 0,_,_,_,_=>none
 | k+1,s6,s7,s8,s9=>(if s8<((List.length x1.1:Nat):Int) then ((rd? x1.1 s8).bind fun x10=>(if x10<(-4096) then (some ((Arr.mk [] []),8)) else ((rd? s9 s8).bind fun x11=>(Cc x1 K0 k s6 s7 (w64 (s8+1)) (List.set s9 (Int.toNat s8) (if x10<(IntKind.wrap .i64 (0-x10)) then (IntKind.wrap .i64 (0-x10)) else x10)))))) else (K0 s6 s7 s9))
def CM (a0:Arr) (a1:Arr) : Option (Arr×Int):=((CY a0 a1).bind fun x1=>(if x1.2.2=0 then ((Fp (0≤((List.length x1.1:Nat) : Int)∧((List.length x1.1:Nat) : Int)≤17592186044416)).bind fun x2=>(jn (fun (z3:Arr) (z4:Int) (z5:(List Int))=>((CI x1.2.1.shape).bind fun x12=>((BI x1.2.1 z5 (⟨.fn 220 [] [.ptr [.sl (Is x1.1)],.ptr [.sl (Is x1.2.1.shape),.sl (Its x1.2.1.items)],.ptr [.sl (Is z5)],.ptr [.sl (Is x12)]],fun x=>Ea x x1.1 x1.2.1 z5 x12⟩ : Dw)).bind fun x13=>(some (x13.1,x13.2))))) fun K0=>(Cc x1 K0 AC (Arr.mk [] []) 0 0 (List.replicate (Int.toNat ((List.length x1.1:Nat) : Int)) (0:Int))))) else (some ((Arr.mk [] []),x1.2.2))))
theorem NJ {a0:Arr} {a1:Arr} {r:Arr×Int} (h:CM a0 a1=some r) :
  Fn Tryz.prog 174 [.ag [.sl (Is a0.shape),.sl (Its a0.items)],.ag [.sl (Is a1.shape),.sl (Its a1.items)]] (.tup [.d (.ag [.sl (Is r.1.shape),.sl (Its r.1.items)]),.d (.i .i64 r.2)]):=by
 unfold CM at h
 refine Fn.ofC (rs:=[.cell 4 27,.tmp 5]) (nt:=53) Tryz.func174 rfl rfl rfl (by simp) rfl ?_;refine .sr ?_;refine vk vbx ?_;refine vk vbn ?_;refine vk (van (Ah AI) AK) ?_;refine ar [2,3,4,5] ?_;refine .sr ?_;refine vk (Ao Ae Aa) ?_;refine vk (DF Ae Aa) ?_
 obtain ⟨x1,g1,h⟩:=bnd h
 refine vk (VOK.tupd (vs:=[.sl (Is x1.1),.ag [.sl (Is x1.2.1.shape),.sl (Its x1.2.1.items)],.i .i64 x1.2.2]) (Ai (L1 g1) Tryz.call217)) ?_;refine va ?_;refine vk vex ?_;refine vk vex ?_;refine vk vex ?_;refine vk (van (Ah R2) W7) ?_
 refine S5 ?_ Px
 refine RL.gh (Gh.nbp (t:=6) rfl) ?_
 refine stn ?_ Aa (by decide)
 refine ar [3,4,5,6,7] ?_;refine .seq ?_;refine .sr ?_;refine va ?_;refine vb ?_;refine rk [3,4,5,6,7,20] ?_
 rcases brc h with ⟨hc,h⟩|⟨hc,h⟩
 ·refine cnf (ntf (dT hc)) ?_
  refine .sk ?_;refine .sr ?_;refine vk (Aj Bl) ?_;refine vk (A0 (Af _) (Bv _) Bp) ?_
  obtain ⟨x2,g2,h⟩:=bnd h
  have ghx2:=Ey g2
  refine mk' (F:=Is) (x0:=0) (zl:=((List.length x1.1:Nat):Int)) (Int.toNat ((List.length x1.1:Nat):Int)) JB (by omega) (by omega) ?_ DE (by decide)
  refine al ?_ (Ah R2) (fun w I μ=>Ve w I μ)
  refine Ny (cs:=[.nl]) (c:=.nl) rfl rfl ?_ Px
  refine rk [3,4,5,6,8] ?_;refine .seq ?_;refine .sr ?_;refine vk (Aj Bl) ?_;refine vk (A0 (Af _) (Bv _) Bp) ?_;refine va ?_;refine rk [3,4,5,6,8,26,27,28] ?_
  obtain ⟨K0,hK0,h⟩:=AE h
  refine AW.mr (σ:=Arr×Int×(List Int)) (fun p=>K0 p.1 p.2.1 p.2.2=some r) (fun p=>[(3,.nb [.sl (Is x1.2.1.shape),.sl (Its x1.2.1.items)]),(4,.nb [.sl (Is p.1.shape),.sl (Its p.1.items)]),(5,.d (.i .i64 p.2.1)),(6,.d (.ptr [.sl (Is x1.1)])),(8,.bp 0 0)]) (fun p=>[HO.box [.own 3 (Is p.2.2)]]) ?_ ?_
  ·skip
   refine .block ?_
   refine .loop (.gk [3,4,5,6,8,26,27,28] ?_)
   refine AL.ind (σ:=Nat×Arr×Int×Int×(List Int)) (m:=fun p=>p.1) (e:=fun p=>[(3,.nb [.sl (Is x1.2.1.shape),.sl (Its x1.2.1.items)]),(4,.nb [.sl (Is p.2.1.shape),.sl (Its p.2.1.items)]),(5,.d (.i .i64 p.2.2.1)),(6,.d (.ptr [.sl (Is x1.1)])),(8,.bp 0 0),(26,.d (.sl (Is x1.1))),(27,.d (.i .i64 ((List.length x1.1:Nat):Int))),(28,.d (.i .i64 p.2.2.2.1))]) (h:=fun p=>[HO.box [.own 3 (Is p.2.2.2.2)]]) (I:=fun p=>Cc x1 K0 p.1 p.2.1 p.2.2.1 p.2.2.2.1 p.2.2.2.2=some r) ?_ (AC,(Arr.mk [] []),0,0,(List.replicate (Int.toNat ((List.length x1.1:Nat):Int)) (0:Int))) h
   rintro ⟨k,s6,s7,s8,s9⟩ h ih
   dsimp only at h ih ⊢
   rcases k with _|k
   ·rw [Cc] at h;cases h
   rw [Cc] at h
   refine .sr ?_;refine vb ?_;refine rk [3,4,5,6,8,26,27,28,29] ?_;refine .seq ?_
   rcases brc h with ⟨hc,h⟩|⟨hc,h⟩
   ·refine cnt (dT hc) ?_
    refine .sk ?_;refine .seq ?_;refine .block ?_;refine .sr ?_;refine va ?_
    obtain ⟨x10,g10,h⟩:=bnd h
    obtain ⟨n10,p010,q10⟩:=Ag g10
    refine vk (vix n10 p010 (Be q10) rfl A9) ?_;refine vk (Aj AF) ?_;refine asd ?_;refine ar [3,4,5,6,8,9,10,26,27,28] ?_;refine .seq ?_;refine .sr ?_;refine va ?_;refine vb ?_;refine rk [3,4,5,6,8,9,10,26,27,28,34] ?_
    rcases brc h with ⟨hc,h⟩|⟨hc,h⟩
    ·refine cnt (dT hc) ?_
     refine .sr ?_;refine vk (vbd BW AI AK) ?_
     refine stn ?_ Aa (by decide)
     refine ar [3,4,5,6,8,9,10,26,27,28] ?_;refine .ret ?_
     cases h
     exact ⟨_,_,⟨.inr rfl,Ae,Aa,p2⟩,rfl,rfl⟩
    refine cnf (dF hc) ?_;refine .sk ?_;refine .region ?_
    refine L2 (cs:=[.own 3 (Is s9)]) rfl rfl ?_ Bl
    refine va ?_;refine va ?_;refine va ?_;refine vk vng ?_;refine vk vmx ?_
    obtain ⟨x11,g11,h⟩:=bnd h
    obtain ⟨n11,p011,q11⟩:=Ag g11
    refine ixr (off:=0) (len:=(Is s9).length) n11 p011 (by rw [Af];exact (lS.1 q11).1) ?_ A9 (by decide)
    refine OX (F:=Is) (D:=fun x=>.i .i64 x) Fk (us:=s9) (n:=n11) (m:=Int.toNat s8) (x:=(if x10<(IntKind.wrap .i64 (0-x10)) then (IntKind.wrap .i64 (0-x10)) else x10)) (by rw [p011];rfl) ⟨_,by rw [Nat.zero_add];exact Be q11,rfl⟩ ?_ C6
    refine RL.gk [3,4,5,6,8,9,10,26,27,28,34,37,38,39,40,41] ?_;refine .nil ?_;refine aw ?_;refine .gk [3,4,5,6,8,26,27,28] ?_;refine .region ?_;refine vb ?_;refine va ?_;refine .nil ?_;refine AL.gk [3,4,5,6,8,26,27,28] ?_
    exact ih (k,s6,s7,(w64 (s8+1)),(List.set s9 (Int.toNat s8) (if x10<(IntKind.wrap .i64 (0-x10)) then (IntKind.wrap .i64 (0-x10)) else x10))) h (Nat.lt_succ_self _)
   refine cnf (dF hc) ?_;refine .gk [3,4,5,6,8] ?_;refine .exit ?_
   exact jr (s6,s7,s9) h
  rintro ⟨z3,z4,z5⟩ h
  try dsimp only at h ⊢
  subst hK0
  refine aw ?_;refine .seq ?_;refine .gh (Gh.nbp (t:=3) rfl) ?_;refine .region ?_;refine vk (vfa AJ) ?_;refine vk (Aj Bl) ?_
  obtain ⟨x12,g12,h⟩:=bnd h
  refine vk (Ai (Hj g12) Tryz.call218) ?_;refine vk (van (Ah R2) W7) ?_
  refine S5 ?_ Px
  refine RL.gh (Gh.nbp (t:=11) rfl) ?_;refine rk [3,4,5,6,8,11] ?_;refine .sr ?_;refine vk (Ao Ae Aa) ?_;refine fz (p:=.c 0 0) ?_;refine vk (GL (cs:=[.d (.sl (Is z5))]) (c:=.sl (Is z5)) rfl rfl Bl) ?_;refine RL.gh2 (Gh2.pop (H0:=[]) (cs:=[.sl (Is z5)]) rfl rfl rfl rfl) ?_;refine vk Yb ?_
  obtain ⟨x13,g13,h⟩:=bnd h
  refine vk (VOK.tupd (vs:=[.ag [.sl (Is x13.1.shape),.sl (Its x13.1.items)],.i .i64 x13.2]) (Ai (M9 (Jb Tryz.call220 (fun _ _ h=>LY h)) g13) Tryz.call219)) ?_;refine vk vex ?_;refine vk vex ?_
  refine stn ?_ Aa (by decide)
  refine ar [4,5] ?_;refine .ret ?_
  cases h
  exact ⟨_,_,⟨.inr rfl,Ae,Aa,p2⟩,rfl,rfl⟩
 refine cnt (ntt (dF hc)) ?_;refine .sr ?_;refine vk (vbd BW AI AK) ?_;refine va ?_
 refine stn ?_ Aa (by decide)
 refine ar [3,4,5,6] ?_;refine .ret ?_
 cases h
 exact ⟨_,_,⟨.inr rfl,Ae,Aa,p2⟩,rfl,rfl⟩
theorem XC {n z i:Nat} {xs:List Itm} (hn:n≤4096) (hz:z≤n) (hi:i<z) : Ea [(i:Int)] [(z:Int)] (.mk [(n:Int)] xs) [(z:Int)] [1]=some (i:Int):=by
 have hF:AC=999999999999998+2:=rfl
 have e1:w64 ((i:Int) * 1)=(i:Int):=by rw [Int.mul_one];exact B8 (by omega) (by omega)
 have e2:w64 (0+(i:Int))=(i:Int):=by rw [Int.zero_add];exact B8 (by omega) (by omega)
 have a1:w64 (0+1)=1:=B8 (by omega) (by omega)
 unfold Ea
 rw [Cn,hF,Cy,if_pos (by simp),Io,oB,Io,oB,Cn,if_neg (by omega)]
 dsimp only
 rw [if_neg (by omega),Ep,Io,oB,oB,if_neg (by rw [decide_eq_true_eq];omega),Io,oB,e1,e2,a1]
 rw [Cy,if_neg (by simp)]
theorem RM {n:Nat} {xs:List Itm} {z:Nat} (hz:z≤4096) : CM (.mk [] [Fg z]) (.mk [(n:Int)] xs) =
  BI (.mk [(n:Int)] xs) [(z:Int)] ⟨.fn 220 [] [.ptr [.sl (Is [(z:Int)])],.ptr [.sl (Is [(n:Int)]),.sl (Its xs)],.ptr [.sl (Is [(z:Int)])],.ptr [.sl (Is [1])]],fun x=>Ea x [(z:Int)] (.mk [(n:Int)] xs) [(z:Int)] [1]⟩:=by
 have hF:AC=999999999999998+2:=rfl
 have a1:w64 (0+1)=1:=B8 (by omega) (by omega)
 have hw:IntKind.wrap .i64 (0-(z:Int))=-(z:Int):=by
  rw [show IntKind.wrap .i64 (0-(z:Int))=0-(z:Int) from HV (by omega) (by omega)];omega
 have hl:∀ (K:Arr→Int→List Int→Option (Arr×Int)) (k:Nat),Cc ([(z:Int)],.mk [(n:Int)] xs,0) K (k+2) (.mk [] []) 0 0 [0]=K (.mk [] []) 0 [(z:Int)]:=by
  intro K k
  rw [Cc,if_pos (by simp),Io,oB,if_neg (by omega),Io,oB,hw,if_neg (by omega),a1]
  show Cc _ K (k+1) _ 0 1 [(z:Int)]=_
  rw [Cc,if_neg (by simp)]
 unfold CM
 rw [JZ ⟨by omega,by omega⟩,oB,if_pos rfl,Xb (by simp),oB,Cn,hF]
 refine Eq.trans (hl _ _) ?_
 show (CI [(n:Int)]).bind _=_
 rw [HC (by simp),oB]
 have key:∀ m o:Option (Arr×Int),m=o→(m.bind fun x24=>some (x24.1,x24.2))=o:=fun m o h=>by subst h;cases m<;>rfl
 exact key _ _ rfl
def OQ (xs:List Itm) (z:Nat) : Arr:=if z=0 then .mk [0] [tyI (xs.headD default)] else vec (xs.take z)
theorem US {xs:List Itm} (h:VR xs) {z:Nat} (hz:z≤xs.length) : CM (.mk [] [Fg z]) (vec xs)=some (OQ xs z,0):=by
 have h2:=h.2.1
 have hP:=P1 h.ok h.2.2.2
 show CM (.mk [] [Fg z]) (.mk [(xs.length:Int)] xs)=_
 rw [RM (by omega)]
 unfold OQ
 by_cases h0:z=0
 ·subst h0
  rw [if_pos rfl]
  exact (Ni hP (by simp) rfl).trans h.zero.1
 ·rw [if_neg h0]
  have hpr:pr [z]=z:=by show z * 1=_;omega
  show BI (vec xs) (up_ [z]) _=_
  rw [S9 (t:=[z]) (J:=fun i=>((i:Nat):Int)) hP (fun x hx=>by rw [List.mem_singleton] at hx;omega) (by simp) (by rw [hpr];omega) (fun i hi=>by
   rw [hpr] at hi
   refine ⟨?_,by show (i:Int)<(xs.length:Int);omega⟩
   have ea:atN [z] i=[i]:=by
    show [i / 1 % z]=_
    rw [Nat.div_one,Nat.mod_eq_of_lt hi]
   rw [ea]
   exact XC h2 hz hi),hpr]
  have hit:((List.range z).map fun i=>KK (vec xs) (tyI ((vec xs).items.headD default)) ((i:Nat):Int))=xs.take z:=by
   refine List.ext_getElem (by simp;omega) fun i h1 h2=>?_
   have hi:i<z:=by simpa using h1
   rw [List.getElem_map,List.getElem_range,List.getElem_take]
   unfold KK
   rw [if_pos (by omega),Int.toNat_natCast]
   show xs.getD i default=_
   rw [lD,lG (by omega)];rfl
  have hl:(xs.take z).length=z:=by rw [List.length_take];omega
  have hd:VR (xs.take z):=h.sub (List.take_sublist z xs) (List.length_pos_iff.1 (by rw [hl];omega))
  have:=hd.make
  rw [hl] at this
  show AM [(z:Int)] ((List.range z).map fun i=>KK (vec xs) (tyI ((vec xs).items.headD default)) ((i:Nat):Int))=_
  rw [hit,this]
end Go.FL
namespace Go.FL
open Go Go.RowKit
def ALM (P:Program) (C:Cx) (c:Code) (Q:Exit→Env→Ad→Prop) (env:Env) (H:Ad) : Prop :=
 ∀ X a w I μ O,X.nt=C.nt→X.n0=C.n0→X.ne=C.ne→Sim P X env H a w I μ O→LB (om C.ro) 0 P c (PostM P X Q) a w
section
variable {P:Program} {C:Cx} {X:Snap} {o:Oper} {ops:Array Oper} {Q:Exit→Env→Ad→Prop} {env env':Env} {H H':Ad} {a:Act} {w w':World} {I I':Nat→Prop} {μ μ':List Nat} {O O':Nat→Option Loc}
 {K:Env→Ad→Prop} {k:Nat} {l:List Oper}
theorem AWM.loop {c:Code} (h:ALM P C c Q env H) : AWM P C (.loop c) Q env H:=fun X a w I μ O h1 h2 h3 hs=>(h X a w I μ O h1 h2 h3 hs).loop
theorem ALM.gh {c:Code} (g:Gh P C env H env' H') (h:ALM P C c Q env' H') : ALM P C c Q env H:=fun X a w I μ O h1 h2 h3 hs =>
 let ⟨I',O',hs'⟩:=g X a w I μ O h1 h2 h3 hs;h X a w I' μ O' h1 h2 h3 hs'
theorem AWM.skip (h:Q .normal env H) : AWM P C .skip Q env H:=.lift (.skip h)
theorem AWM.exit {id:Nat} (h:Q (.exit id) env H) : AWM P C (.exit id) Q env H:=.lift (.exit h)
theorem AWM.mj {x y:Code} {σ:Type} (I:σ→Prop) (e:σ→Env) (g:σ→Ad) (h1:AW P C x (FU (JR I e g) Q) env H) (h2:∀ s,I s→AWM P C y Q (e s) (g s)) : AWM P C (.seq x y) Q env H :=
 .seqA (h1.mono fun ex env' H' h=>by
  cases ex with
  | normal=>obtain ⟨s,hi,he,hg⟩:=h;subst he;subst hg;exact h2 s hi
  | _=>exact h)
theorem PostM.over {ms:List Deferred} {a1:Act} {w1:World} {env1:Env} {H1:Ad} {I1:Nat→Prop} {μ1:List Nat} {O1:Nat→Option Loc} (hX0:X.n0=0) (s:Sim P {X with dfs:=ms++X.dfs} env1 H1 a1 w1 I1 μ1 O1) (hm:Marks X.K w1 I1 O1 ms) :
  ∃ Y:Snap,Y.nt=X.nt∧Y.n0=X.n0∧Y.ne=X.ne∧Sim P Y env1 H1 a1 w1 I1 μ1 O1∧∀ e a2 w2,PostM P Y Q e a2 w2→PostM P X Q e a2 w2:=by
 obtain ⟨K',hKd⟩:∃ K':Nat→Prop,K'=fun b=>X.K b∨∃ m∈ms,m={target:=.collected b,args:=#[]}:=⟨_,rfl⟩
 have hK':∀ b,K' b→O1 b=none∧b<w1.heap.size:=fun b hb=>by
  rw [hKd] at hb
  rcases hb with hb|⟨m,hm1,hm2⟩
  ·exact ⟨s.kO b hb,nL (s.klt b hb) s.size⟩
  ·obtain ⟨D,e1,e2,e3,e4,_⟩:=hm.2 m hm1
   rw [hm2] at e1;simp at e1;subst e1
   exact ⟨e3,(Array.getElem?_eq_some_iff.1 e2).1⟩
 have hr:=s.recast (s.toMem.reroot hX0 hK') rfl rfl rfl
 refine ⟨{X with w:=w1,I:=I1,K:=K',μ:=μ1,dfs:=ms++X.dfs},rfl,rfl,rfl,hr,fun e a2 w2 ⟨env2,H2,I2,μ2,O2,ms2,s2,q2,hm2⟩=>?_⟩
 refine ⟨env2,H2,I2,μ2,O2,ms2++ms,?_,q2,?_⟩
 ·have hu:Mem P X H2 w2 I2 μ2 O2:=(s.toMem.cast (Y:=X) rfl rfl rfl rfl rfl rfl).unroot hX0 (K':=K') (fun b hb=>by rw [hKd];exact .inl hb) (s2.toMem.cast rfl rfl rfl rfl rfl rfl)
  exact ⟨hu.cast rfl rfl rfl rfl rfl rfl,s2.envr,s2.nt,by rw [s2.dfs.1];simp,s2.dfs.2⟩
 ·refine ⟨List.nodup_append.2 ⟨hm2.1,hm.1,fun x hx y hy e=>?_⟩,fun m hmm=>?_⟩
  ·subst e
   obtain ⟨D,rfl,_,_,_,hk⟩:=hm2.2 x hx
   exact hk (by show K' D;rw [hKd];exact .inr ⟨_,hy,rfl⟩)
  rcases List.mem_append.1 hmm with hmm|hmm
  ·obtain ⟨D,e1,e2,e3,e4,e5⟩:=hm2.2 m hmm
   exact ⟨D,e1,e2,e3,e4,fun hk=>e5 (by show K' D;rw [hKd];exact .inl hk)⟩
  ·obtain ⟨D,rfl,e2,e3,e4,e5⟩:=hm.2 m hmm
   have hkD:K' D:=by rw [hKd];exact .inr ⟨_,hmm,rfl⟩
   exact ⟨D,rfl,(s2.prot D hkD).trans e2,s2.kO D hkD,fun hi=>e4 (s2.kI D hkD hi),e5⟩
theorem ALM.round (h0:C.n0=0) {c:Code} (h:AWM P C c (FU (ALM P C c Q) Q) env H) : ALM P C c Q env H:=fun X a w I μ O h1 h2 h3 hs =>
 .round (wpIn_mono (h X a w I μ O h1 h2 h3 hs) fun e a1 w1 ⟨env',H',I',μ',O',ms,s,q,hm⟩=>by
  cases e with
  | normal =>
   obtain ⟨Y,y1,y2,y3,y4,y5⟩:=PostM.over (Q:=Q) (by omega) s hm
   have hl:=q Y a1 w1 I' μ' O' (y1.trans h1) (y2.trans h2) (y3.trans h3) y4
   intro b k cs hro hb hr
   obtain ⟨e2,a2,w2,p1,p2⟩:=hl b k cs hro hb hr
   exact ⟨e2,a2,w2,y5 _ _ _ p1,p2⟩
  | _=>exact ⟨env',H',I',μ',O',ms,s,q,hm⟩)
theorem ALM.ind (h0:C.n0=0) {c:Code} {σ:Type} (m:σ→Nat) (e:σ→Env) (h:σ→Ad) (I:σ→Prop)
  (step:∀ s,I s→(∀ s',I s'→m s'<m s→ALM P C c Q (e s') (h s'))→AWM P C c (FU (ALM P C c Q) Q) (e s) (h s)):∀ s,I s→ALM P C c Q (e s) (h s):=by
 suffices H:∀ n s,m s=n→I s→ALM P C c Q (e s) (h s) from fun s hs=>H _ s rfl hs
 intro n
 induction n using Nat.strongRecOn with
 | ind n ih =>
  intro s hm hs
  exact .round h0 (step s hs fun s' h1 h2=>ih (m s') (by omega) s' rfl h1)
theorem Sim.storeBA {id blk:Nat} (hm:μ[id]?=some blk) (hn:X.n0≤id) : ∀ (us:List Value) (k:Nat) (ds zs:List DV) (H:Ad) (w:World) (O:Nat→Option Loc),Sim P X env H a w I μ O→H[id]?=some (.box (zs.map .d))→zs.length=k+us.length →
  RepAll w I ds us→(∀ u∈us,u.oneCell'=true)→∃ w' O',(storeCells ⟨blk,0,none⟩ us k).run P w=.ok () w'∧Sim P X env (H.set id (.box ((zs.take k++ds).map .d))) a w' I μ O'
 | [],k,ds,zs,H,w,O,hs,hH,hl,hr,h1=>by
  cases hr
  rw [List.append_nil,List.take_of_length_le (by simp at hl;omega),List.set_same _ _ hH]
  exact ⟨w,O,rfl,hs⟩
 | u::us,k,ds,zs,H,w,O,hs,hH,hl,hr,h1=>by
  cases hr with
  | @cons d _ ds _ hd ht =>
   rw [List.length_cons] at hl
   have hu:=h1 u (by simp)
   have hkl:k<zs.length:=by omega
   obtain ⟨q1,⟨u0,q2⟩,q3⟩:=hs.storeC (off:=k) (c:=.d zs[k]) (av:=.d d) (v:=u) (hbs:=[]) hH (by rw [List.getElem?_map,lG hkl];rfl) hm hn (.d hd) nN (by simp)
   have hIb:¬I blk:=by
    obtain ⟨blk',bs,g1,g2,g3,g4⟩:=hs.heap id _ hH
    rw [hm] at g1;cases g1
    exact (hs.own blk _ ((g3 hn).2 blk (by simp))).2
   have hst:(store ((⟨blk,0,none⟩:Addr).add k) u).run P w=.ok () (w.setCell ⟨blk,k,none⟩ u):=by
    have hadd:(⟨blk,0,none⟩:Addr).add k=⟨blk,k,none⟩:=by unfold Addr.add;split<;>simp_all
    rw [hadd,run_store P w _ u _ hu,q2]
    simp [q3]
   have hset:Ei H id k (.d d)=H.set id (.box ((zs.set k d).map .d)):=by
    simp only [Ei,hH];rw [List.map_set]
   rw [hset] at q1
   have hid:id<H.length:=(lS.1 hH).1
   obtain ⟨w2,O2,z1,z2⟩:=Sim.storeBA hm hn us (k+1) ds (zs.set k d) _ _ _ (show Sim P X env _ a _ I μ _ from q1) (by simp [hid]) (by simp;omega)
    (ht.keep (fun b' hb'=>heap_setCell_other w ⟨blk,k,none⟩ b' u fun e=>hIb (by rw [← (show b'=blk from e)];exact hb')) fun _ h=>h) fun u hu=>h1 u (by simp [hu])
   refine ⟨w2,O2,?_,?_⟩
   ·simp only [storeCells,Sem.run_bind,hst,Result.andThen_ok,z1]
   ·have t1:(zs.set k d).take (k+1)=zs.take k++[d]:=by
     rw [List.take_add_one,List.getElem?_set_self (by omega),List.take_set_of_le (Nat.le_refl k)];rfl
    rw [t1,List.set_set] at z2
    simpa using z2
theorem Zo {x y:Operand} {ty id:Nat} {zs ds:List DV} {bx:List AV} (hH:H[id]?=some (.box bx)) (hb:bx=zs.map .d) (hl:zs.length=ds.length) (h:RL P C ops Q (k+1) l env (H.set id (.box (ds.map .d)))) (hsz:Ay P ty=ds.length) (hp:0<ds.length) (hg:grd ops env o true=true:=by rfl)
  (ho:o.op=.store ty x y:=by rfl) (hv:lk env x=.bp id 0:=by rfl) (hy:lk env y=.d (.ag ds):=by rfl) (h1:ds.all DV.leaf=true:=by rfl) (hd:o.dst=none:=by rfl) (h0:C.n0=0:=by rfl):RL P C ops Q k (o::l) env H:=by
 subst hb
 obtain ⟨g1,g2⟩:=Av hv (by simp)
 refine .go hg (.done (by simp [ho]) hd (fun X a w I μ O _ e2 _ hs=>?_) h)
 have hr:=hs.deep (x:=y) (v:=.ag ds) (by rw [hy];rfl)
 generalize hev:a.eval y=u at hr
 cases hr with
 | ag _ vs hr =>
  obtain ⟨blk,hm,he⟩:=hs.bp g1 g2
  have hvl:vs.length=ds.length:=hr.length.symm
  obtain ⟨w',O',z1,z2⟩:=Sim.storeBA hm (by omega) vs 0 ds zs H w O hs hH (by omega) hr (hr.one h1)
  refine ⟨w',I,μ,O',?_,?_⟩
  ·have hs':(sizeOf ty).run P w=.ok vs.length w:=by rw [hvl,← hsz];exact GW (by omega)
   have hsv:(storeVar ty ⟨blk,0,none⟩ (.agg vs.toArray)).run P w=.ok () w':=by
    simp [storeVar,hs',Value.cells,z1]
   simp only [execOp,ho,he,hev,Instr.storeAt,Instr.sureAddr,Sem.run_bind,Sem.run_pure,Result.andThen_ok,hsv]
  ·simpa using z2
end
def Sf {α σ:Type} (f:Int→α→σ→Option σ) (xs:List α) : Nat→σ→Option σ
 | 0,s=>some s
 | n+1,s=>(xs[n]?).bind fun x=>(f ((n:Nat):Int) x s).bind fun s'=>Sf f xs n s'
theorem RY {α σ:Type} {f:Int→α→σ→Option σ} {xs:List α} : ∀ (n:Nat) {s z:σ},Sf f xs n s=some z→∃ T : Nat→σ,T 0=s∧T n=z∧∀ k,k<n→∃ x,xs[n-1-k]?=some x∧f ((n-1-k:Nat) : Int) x (T k)=some (T (k+1))
 | 0,s,z,h=>⟨fun _=>s,rfl,oI h,fun k hk=>absurd hk (Nat.not_lt_zero k)⟩
 | n+1,s,z,h=>by
  simp only [Sf,Option.bind_eq_some_iff] at h
  obtain ⟨x,hx,s',hf,h⟩:=h
  obtain ⟨T,t1,t2,t3⟩:=RY n h
  refine ⟨fun k=>if k=0 then s else T (k-1),rfl,by simp [t2],fun k hk=>?_⟩
  cases k with
  | zero=>exact ⟨x,by simpa using hx,by simpa [t1] using hf⟩
  | succ k =>
   obtain ⟨y,y1,y2⟩:=t3 k (by omega)
   rw [show n+1-1-(k+1)=n-1-k by omega]
   exact ⟨y,y1,by simpa using y2⟩
theorem SX (cells:Array Value) (n:Nat) : (madeCells cells ((n+1) * cells.size)).toList=cells.toList++(madeCells cells (n * cells.size)).toList:=by
 apply List.ext_getElem
 ·simp [madeCells,Nat.add_mul,Nat.add_comm]
 ·intro j h1 h2
  rw [List.getElem_append]
  split
  ·rename_i hj
   simp only [Array.length_toList] at hj
   simp [madeCells,Nat.mod_eq_of_lt hj,hj]
  ·rename_i hj
   simp only [Array.length_toList,Nat.not_lt] at hj
   simp [madeCells,Nat.mod_eq_sub_mod hj]
theorem N4 {w:World} {I:Nat→Prop} {cs:List DV} {cells:Array Value} (h:RepAll w I cs cells.toList) (h1:∀ u∈cells.toList,u.oneCell'=true) : ∀ n,RepRows w I cells.size (List.replicate n (.ag cs)) (madeCells cells (n * cells.size)).toList
 | 0=>by
  have:(madeCells cells (0 * cells.size)).toList=[]:=by simp [madeCells]
  rw [this];exact .nil _
 | n+1=>by
  rw [SX cells n,List.replicate_succ]
  exact .cons (by simp) h1 h (N4 h h1 n)
section
variable {P:Program} {C:Cx} {o:Oper} {ops:Array Oper} {Q:Exit→Env→Ad→Prop} {env:Env} {H:Ad} {K:Env→Ad→Prop} {k:Nat} {l:List Oper}
theorem Vy {l c:Operand} {ty t e by_ sz:Nat} {z:Value} {cs:List DV} {k k':IntKind} {n:Nat} (ho:o.op=.makeSlice ty l c) (hd:o.dst=some t) (ht:okT C.nt t) (hT:Cz P ty=some (e,sz,by_,z)) (hzs:z.cells.size=sz) (h0:0<sz) (hz:∀ w I,RepAll w I cs z.cells.toList) (hlf:cs.all DV.leaf=true)
  (hl:lk env l=.d (.i k n)) (hc:lk env c=.d (.i k' n)) (hby:by_ * n≤281474976710656) (h63:n≤maxLen)
  (hK:K (put env t (.own e (List.replicate n (.ag cs)))) H):OpOK P C o env H K :=
 .val (by simp [ho]) hd ht (fun X a w I μ O _ _ _ hs=>by
  obtain ⟨i,i1,i2,i3,i4,i5,i6,i7,i8⟩:=Ds hT
  have e1:a.eval l=.int k n:=by
   have hr:=hs.deep (x:=l) (v:=.i k n) (by rw [hl];rfl)
   generalize a.eval l=u at hr
   cases hr;rfl
  have e2:a.eval c=.int k' n:=by
   have hr:=hs.deep (x:=c) (v:=.i k' n) (by rw [hc];rfl)
   generalize a.eval c=u at hr
   cases hr;rfl
  obtain ⟨w',q1,q2,q3⟩:=run_make_full w 0 ty e i z sz i1 i2 i3 i4 k k' n (by rw [i5];exact hby) h63 (Nat.zero_le _)
  have h2:=hs.grownR q3 fun b hb=>(by cases hb)
  have hO:∀ b,w.heap.size≤b→O b=none:=fun b hb=>by
   cases hx:O b with
   | none=>rfl
   | some l=>have:=(hs.own b l hx).1;omega
  have h3:=h2.newR (BA (.slice (some ⟨w.heap.size,0,none⟩) n n)) fun b hb=>by
   have hlt:=(OwnR.of q2).lt b hb
   have:b=w.heap.size:=by
    simp only [BA] at hb
    split at hb<;>simp at hb
    exact hb
   subst this
   exact ⟨hlt,.inl (hO _ (Nat.le_refl _)),fun hi=>by have:=hs.ilt _ hi;omega,fun hk=>by have:=hs.klt _ hk;have:=hs.size;omega⟩
  refine ⟨.slice (some ⟨w.heap.size,0,none⟩) n n,w',I,μ,_,?_,h3,BA (.slice (some ⟨w.heap.size,0,none⟩) n n),?_,GU _,fun b hb=>by simp [hb]⟩
  ·simp only [execOp,ho,e1,e2,q1,Sem.run_bind,Result.andThen_ok,Sem.run_pure]
  ·have hrow:=N4 (cs:=cs) (cells:=z.cells) (hz w' I) ((hz w' I).one hlf) n
   rw [hzs] at hrow
   exact .own e _ _ _ (by omega) (by rw [List.length_replicate,i8];exact .of q2) (by rw [i8];exact hrow)) hK
theorem Y5 {α:Type} {F:List α→List DV} {x0:α} {x c:Operand} {ty t e by_ sz:Nat} {z:Value} {cs:List DV} {q q':IntKind} {zl:Int} (n:Nat) (hF:List.replicate n (.ag cs)=F (List.replicate n x0)) (hn:zl=n) (hb:by_ * n≤281474976710656∧n≤9223372036854775807) (h:RL P C ops Q (k+1) l ((t,.own e (F (List.replicate n x0)))::env) H)
  (hT:Cz P ty=some (e,sz,by_,z)) (hz:∀ w I,RepAll w I cs z.cells.toList) (hzs:z.cells.size=sz:=by rfl) (h0:0<sz:=by decide) (hlf:cs.all DV.leaf=true:=by rfl) (hg:grd ops env o true=true:=by rfl) (ho:o.op=.makeSlice ty x c:=by rfl) (hx:lk env x=.d (.i q zl):=by rfl) (hc:lk env c=.d (.i q' zl):=by rfl) (hd:o.dst=some t:=by rfl)
  (hf:Am (get env t)=false:=by rfl) (ht:okT C.nt t:=by rfl):RL P C ops Q k (o::l) env H:=by
 subst hn
 rw [← Al hf] at h
 exact .go hg (Vy ho hd ht hT hzs h0 hz hlf hx hc hb.1 (by simpa [maxLen] using hb.2) (by rw [hF];exact h))
end
def PP (n:Nat) : AV→Bool
 | .bp i _=>Nat.blt i n
 | .ref (.c i _) _ _=>Nat.blt i n
 | .ep (.c i _) _ _=>Nat.blt i n
 | av=>noBp av
section
variable {P:Program} {C:Cx} {X:Snap} {o:Oper} {ops:Array Oper} {Q:Exit→Env→Ad→Prop} {env env':Env} {H H':Ad} {a:Act} {w w':World} {I I':Nat→Prop} {μ μ':List Nat} {O O':Nat→Option Loc}
 {K:Env→Ad→Prop} {k:Nat} {l:List Oper}
theorem AL.gh2 {c:Code} (g:Gh2 P C env H env' H') (h:AL P C c Q env' H') : AL P C c Q env H:=fun X a w I μ O h1 h2 h3 hs =>
 let ⟨I',μ',O',hs'⟩:=g X a w I μ O h1 h2 h3 hs;h X a w I' μ' O' h1 h2 h3 hs'
theorem ALM.gh2 {c:Code} (g:Gh2 P C env H env' H') (h:ALM P C c Q env' H') : ALM P C c Q env H:=fun X a w I μ O h1 h2 h3 hs =>
 let ⟨I',μ',O',hs'⟩:=g X a w I μ O h1 h2 h3 hs;h X a w I' μ' O' h1 h2 h3 hs'
theorem AWM.gh2 {c:Code} (g:Gh2 P C env H env' H') (h:AWM P C c Q env' H') : AWM P C c Q env H:=fun X a w I μ O h1 h2 h3 hs =>
 let ⟨I',μ',O',hs'⟩:=g X a w I μ O h1 h2 h3 hs;h X a w I' μ' O' h1 h2 h3 hs'
theorem Gh2.cut {H0:Ad} (G:Ad) (hH:H=H0++G) (hb:(env.all fun x=>PP H0.length x.2)=true) (hb0:H0.all SE=true) (hne:Nat.ble C.ne H0.length=true) : Gh2 P C env H env H0:=fun X a w I μ O _ h2 h3 hs=>by
 subst hH
 have hne':X.ne≤H0.length:=by rw [h3];exact Nat.le_of_ble_eq_true hne
 have hμt:∀ i,i<H0.length→(μ.take H0.length)[i]?=μ[i]?:=fun i hi=>by rw [List.getElem?_take,if_pos hi]
 refine ⟨I,μ.take H0.length,O,{
  prot:=hs.prot,kO:=hs.kO,kI:=hs.kI,mono:=hs.mono,os:=hs.os,tape:=hs.tape,output:=hs.output,size:=hs.size,own:=hs.own,ilt:=hs.ilt
  μlen:=by rw [List.length_take,hs.μlen];simp
  μpre:=fun i b hi hb=>by rw [hμt i (by omega)];exact hs.μpre i b hi hb
  nle:=hne'
  heap:=fun id ob ho=>?_
  klt:=hs.klt
  n0le:=hs.n0le
  envr:=fun s=>?_
  nt:=hs.nt
  dfs:=hs.dfs}⟩
 ·have hlt:=(lS.1 ho).1
  obtain ⟨bb,bs',q1,q2,q3,q4⟩:=hs.heap id ob (by rw [List.getElem?_append_left hlt];exact ho)
  refine ⟨bb,bs',by rw [hμt id hlt];exact q1,?_,q3,q4⟩
  have hnb:SE ob=true:=List.all_eq_true.1 hb0 ob (List.mem_of_getElem? ho)
  cases ob with
  | box c =>
   obtain ⟨cl,et,n1,n2⟩:=q2
   exact ⟨cl,et,n1,n2.noBp (μ':=μ.take H0.length) hnb⟩
 ·have hp:=Pc (p:=PP H0.length) rfl hb s
  have ht:=hs.envr s
  have plain:∀ av,get env s=av→noBp av=true→A5 av=false→TRep P env H0 a w I (μ.take H0.length) O s av:=by
   intro av hav hn hr
   rw [hav] at ht
   obtain ⟨bs,g1,g2,g3⟩:=ht.plain hr
   exact .of (g1.noBp (μ':=μ.take H0.length) hn) g2 g3
  have place:∀ (p:Pl) e xs,(∀ id off,p=.c id off→id<H0.length)→AH env (H0++G) p=.own e xs→AH env H0 p=.own e xs∧∀ v,Bd a w μ p=some v→Bd a w (μ.take H0.length) p=some v:=fun p e xs hl hp=>by
   cases p with
   | t n=>exact ⟨hp,fun v hv=>hv⟩
   | c id off =>
    have hid:=hl id off rfl
    refine ⟨?_,fun v hv=>?_⟩
    ·simp only [AH] at hp ⊢
     rw [List.getElem?_append_left hid] at hp;exact hp
    ·simp only [Bd] at hv ⊢
     rw [hμt id hid];exact hv
  cases hgs:get env s with
  | bp i off =>
   rw [hgs] at hp ht
   obtain ⟨bs,g1,g2,g3⟩:=ht.plain rfl
   have hi:i<H0.length:=by simp [PP,Nat.blt] at hp;omega
   refine .of (bs:=bs) ?_ g2 g3
   generalize a.tmps.getD s undef=v at g1
   cases g1 with
   | bp _ _ blk' hb'=>exact .bp i off blk' (by rw [hμt i hi];exact hb')
  | ref p off len =>
   rw [hgs] at hp ht
   obtain ⟨e',xs,A,n,c,g1,g2,g3,g4⟩:=ht
   obtain ⟨p1,p2⟩:=place p e' xs (fun id off h=>by subst h;simp [PP,Nat.blt] at hp;omega) g1
   exact ⟨e',xs,A,n,c,p1,p2 _ g2,g3,g4⟩
  | ep p i k =>
   rw [hgs] at hp ht
   obtain ⟨e',xs,b,n,c,g1,g2,g3,g4,g5⟩:=ht
   obtain ⟨p1,p2⟩:=place p e' xs (fun id off h=>by subst h;simp [PP,Nat.blt] at hp;omega) g1
   exact ⟨e',xs,b,n,c,p1,p2 _ g2,g3,g4,g5⟩
  | _ =>
   rw [hgs] at hp
   exact plain _ hgs hp rfl
end
end Go.FL
namespace Go.FL
open Go Go.Proofs
def Qn (xs:List RT) : List (List DV):=(List.range xs.length).map fun k=>match xs[xs.length-1-k]? with
 | some x=>[.i .i64 ((xs.length-1-k:Nat):Int),.ag [.b x.1,.sl (L x.2.1),.sl (L x.2.2)]]
 | none=>[]
theorem OE {xs:List RT} {k:Nat} {x:RT} (hk:k<xs.length) (h:xs[xs.length-1-k]?=some x) : (Qn xs)[k]?=some [.i .i64 ((xs.length-1-k:Nat) : Int),.ag [.b x.1,.sl (L x.2.1),.sl (L x.2.2)]]:=by simp [Qn,hk,h]
theorem I7 (xs:List RT) : (Qn xs).length=xs.length:=by simp [Qn]
theorem Uj (xs:List RT) : ∀ ds∈Qn xs,ds.length=2:=fun ds hd=>by
 obtain ⟨k,hk⟩:=List.getElem?_of_mem hd
 have hkl:k<xs.length:=by rw [← I7];exact (lS.1 hk).1
 rw [OE hkl (lG (by omega))] at hk
 cases hk;rfl
theorem Xt (xs:List DV) : Fn Tryz.prog 102 [.sl xs] (.d (.fn 158 [] [.ptr [.sl xs]])):=by
 refine Fn.of (rs:=[.tmp 2]) (nt:=4) Tryz.func102 rfl rfl rfl (by simp) rfl ?_;refine .seq ?_;refine .region ?_;refine bxd ?_;refine asd ?_;refine rn ?_;refine .seq ?_;refine .region ?_;refine mkf ?_;refine asd ?_;refine rn ?_;refine .ret ?_
 exact ⟨rfl,rfl⟩
set_option maxRecDepth 10000 in
theorem XE {xs:List RT} (hl:xs.length≤9223372036854775806) {m:Nat} (hm:xs.length≤m) : ItG Tryz.prog 158 [.ptr [.sl (RVs xs)]] (Qn xs) m:=by
 have hyl:=I7 xs
 refine ItG.of Tryz.func158 rfl rfl (nt:=19) rfl (by simp) fun lp J hJ hR=>?_;refine .seq ?_;refine .lift ?_;refine .region ?_;refine vk (Aj OS) ?_;refine vk (A0 (D3 _) (M4 _) Rn) ?_;refine vk (vbi) ?_;refine asd ?_;refine .nil ?_
 show AWJ _ _ _ _ _ _ _ _ _
 refine .block ?_;refine ALJ.loop ?_;refine ALJ.gh (Gh.keep [0,1,3] rfl) ?_
 rw [show DV.i .i64 (IntKind.wrap .i64 (((List.length xs:Nat):Int)-1))=.i .i64 (((List.length xs:Nat):Int)-1-((0:Nat):Int)) from by
  congr 1;simp only [IntKind.wrap,IntKind.bits,IntKind.signed];simp;omega]
 refine ALJ.ind (σ:=Nat) (m:=fun i=>xs.length-i) (e:=fun i=>[(0,.d (.yl lp)),(1,.d (.ptr [.sl (RVs xs)])),(3,.d (.i .i64 (((List.length xs:Nat):Int)-1-((i:Nat):Int))))]) (h:=fun _=>[]) (r:=fun i=>i) (I:=fun i=>i≤xs.length) ?_ 0 (Nat.zero_le _)
 rintro i hi ih
 refine .seq ?_;refine .seq ?_;refine .lift ?_;refine .region ?_;refine vk (Ac) ?_;refine vk (vbi) ?_;refine .nil ?_
 show AWJ _ _ _ _ _ _ _ _ _
 by_cases hc:(0:Int)≤((List.length xs:Nat):Int)-1-((i:Nat):Int)
 ·refine .cond (x:=true) (by show AV.d (.b (decide _))=_;rw [dT hc]) (fun _=>?_) (fun h=>by cases h)
  have hlt:i<xs.length:=by omega
  have hj:xs.length-1-i<xs.length:=by omega
  have hij:((List.length xs:Nat):Int)-1-((i:Nat):Int)=((xs.length-1-i:Nat):Int):=by omega
  have hxi:=lG hj
  generalize xs[xs.length-1-i]=x at hxi
  refine .skip ?_
  show AWJ _ _ _ _ _ _ _ _ _
  refine .seq ?_;refine .block ?_;refine .seq ?_;refine .region ?_;refine vkJ (Ac) ?_;refine vkJ (Ac) ?_;refine vkJ (Aj OS) ?_;refine vkJ (Ac) ?_;refine vkJ (vix (xs.length-1-i) hij (Oz hxi) rfl Ue) ?_;refine vkJ (Ao A8 AG) ?_
  refine yld (hR i [.i .i64 ((xs.length-1-i:Nat):Int),.ag [.b x.1,.sl (L x.2.1),.sl (L x.2.2)]] (OE hlt hxi) (by omega)) hJ ?_ (ha:=by show some _=some _;rw [hij];rfl)
  refine vkJ (vnt) ?_;refine .nil ?_
  show AWJ _ _ _ _ _ _ _ _ _
  refine .cond (x:=false) (by show AV.d (.b (!decide _))=_;rw [dT (by omega:i<m)];rfl) (fun h=>by cases h) (fun _=>?_)
  refine .skip ?_
  show AWJ _ _ _ _ _ _ _ _ _
  refine .lift ?_;refine .region ?_;refine vk (Ac) ?_;refine vk (vbi) ?_;refine asd ?_;refine .nil ?_
  show ALJ _ _ _ _ _ _ _ _ _
  have hw:IntKind.wrap .i64 (((List.length xs:Nat):Int)-1-((i:Nat):Int)-1)=((List.length xs:Nat):Int)-1-((i+1:Nat):Int):=by simp only [IntKind.wrap,IntKind.bits,IntKind.signed];simp;omega
  rw [hw]
  refine ALJ.gh (Gh.keep [0,1,3] rfl) ?_
  exact ih (i+1) hlt (by omega)
 ·refine .cond (x:=false) (by show AV.d (.b (decide _))=_;rw [dF hc]) (fun h=>by cases h) (fun _=>?_)
  refine .exit ?_
  exact ⟨.inl rfl,by rw [hyl];omega⟩
end Go.FL
namespace Go.FL
open Go Go.RowKit
def cell1 (P:Program) (env:Env) (t ty:Nat) (d:DV) : Prop:=(get env t=.d (.ptr [d])∨get env t=.nb [d])∧B1 P ty=some false
def Yo (P:Program) (env:Env) (r:AV) : List ResultVar→Prop
 | [.cell x tx,.cell y ty]=>∃ cs d,cellD P env x tx cs∧cell1 P env y ty d∧r=.tup [.d (.ag cs),.d d]
 | _=>False
def YK (P:Program) (rs:List ResultVar) (r:AV) : Exit→Env→Ad→Prop:=fun e env _=>(e=.normal∨e=.ret)∧Yo P env r rs
section
variable {P:Program} {X:Snap} {env:Env} {H:Ad} {a:Act} {w:World} {I:Nat→Prop} {μ:List Nat} {O:Nat→Option Loc}
theorem Sim.cell1 (hs:Sim P X env H a w I μ O) {t ty:Nat} {d:DV} (h:Go.FL.cell1 P env t ty d) : ∃ p v,a.tmps.getD t undef=.pointer (some p)∧(loadVar ty p).run P w=.ok v w∧Rep w I d v:=by
 obtain ⟨h1,h2⟩:=h
 rcases h1 with h1|h1
 ·have:=hs.envr t
  rw [h1] at this
  obtain ⟨bs,g1,_⟩:=this.plain rfl
  generalize a.tmps.getD t undef=u at g1
  cases g1 with
  | d g1 =>
   cases g1 with
   | ptr _ b off vs k1 k2 k3 =>
    cases k3 with
    | @cons _ v _ _ hd t =>
     cases t
     exact ⟨_,v,rfl,Bu h2 (by have:=k2 0 v rfl;simpa using this),hd⟩
 ·obtain ⟨blk,cells,e,g1,g2,g3,_⟩:=hs.nb_inv h1
  generalize hc:cells.toList=l at g3
  cases g3 with
  | @cons _ v _ _ hd t =>
   cases t
   refine ⟨_,v,g1,Bu h2 ?_,hd⟩
   have:cells[0]?=some v:=by rw [← Array.getElem?_toList,hc];rfl
   simp [World.cell?,g2,this]
theorem Sim.resultsB (hs:Sim P X env H a w I μ O) {fn:Func} {rs:List ResultVar} (hrs:fn.results=rs.toArray) {r:AV} (h:Yo P env r rs) :
  ∃ v bs,(Go.results fn a.tmps).run P w=.ok v w∧ARep P w I μ r v bs∧bs.Nodup∧∀ b∈bs,∃ l,O b=some l:=by
 unfold Yo at h
 split at h
 ·obtain ⟨cs,d,kx,ky,rfl⟩:=h
  obtain ⟨px,wx,ex,fx,rx⟩:=hs.cellD kx
  obtain ⟨py,wy,ey,fy,ry⟩:=hs.cell1 ky
  exact ⟨_,[],N0 (by rw [hrs]) (by simp [HW,ex,asAddr,fx]) (by simp [HW,ey,asAddr,fy]),.tup (ARepAll.cons (b1:=[]) (b2:=[]) (.d rx) (ARepAll.cons (b1:=[]) (b2:=[]) (.d ry) .nil)),nN,by simp⟩
 ·exact h.elim
theorem Fn.ofMB {f:FuncId} {fn:Func} {c:Code} {args:List DV} {r:AV} {rs:List ResultVar} {nt:Nat} (hf:P.funcs[f]?=some fn) (hb:fn.body=some c) (hrs:fn.results=rs.toArray) (hnt:fn.ntmps=nt) (hn:args.length≤nt) (hbp:noBp r=true)
  (h:AWM P {nt:=(0,nt),n0:=0,ne:=0} c (YK P rs r) (Dm 0 args) []):Fn P f args r:=by
 intro w I vs hI ha
 refine callsIn_of_wp_marks hf hb trivial ?_
 have hlen:=ha.length
 let X:Snap:={w:=w,I:=I,K:=fun b=>b<w.heap.size,n0:=0,ne:=0,μ:=[],nt:=(0,nt),dfs:=[]}
 let a:Act:={tmps:=vs.toArray++Array.replicate (fn.ntmps-vs.toArray.size) undef,defers:=[]}
 have hs:Sim P X (Dm 0 args) [] a w I [] (fun _=>none):=by
  refine ⟨{prot:=fun _ _=>rfl,kO:=fun _ _=>rfl,kI:=fun _ _ h=>h,mono:=fun _ h=>h,os:=rfl,tape:=rfl,output:=rfl,size:=Nat.le_refl _,own:=(fun b l h=>by simp at h),ilt:=hI,μlen:=rfl,μpre:=(fun i b hi _=>by simp [X] at hi),nle:=(by simp [X]),heap:=(fun id o h=>by simp at h),klt:=fun b hb=>hb,n0le:=(by simp [X])},fun t=>?_,?_,rfl,fun t h=>absurd h (by simp [X])⟩
  ·rcases EC (tmps:=a.tmps) (k:=0) ha (fun j v hj=>by
    have hjl:j<vs.length:=(lS.1 hj).1
    have e2:(vs.toArray++Array.replicate (fn.ntmps-vs.length) undef)[j]?=some v:=by
     rw [Array.getElem?_append_left (by simpa using hjl)];simpa using hj
    simp [a,e2]) t with h0|⟨d,h0,h1⟩
   ·rw [h0];exact .un
   ·rw [h0];exact .of (bs:=[]) (.d h1) nN (by simp)
  ·simp [a,X,hnt];omega
 have hw:=h X a w I [] (fun _=>none) rfl rfl rfl hs
 refine wpIn_mono hw fun e a' w' hp=>?_
 obtain ⟨env',H',I',μ',O',ms,s,⟨he,q⟩,hm⟩:=hp
 have hdf:a'.defers=ms:=by rw [s.dfs.1];simp [X]
 have fin:LeavesInM (om none) 0 P fn a'.tmps (fun e w'=>∃ v I' bs,e=.returned v∧Below w.heap.size w w'∧(∀ b,I b→I' b) ∧
   (∀ b,I' b→b<w'.heap.size∧(b<w.heap.size→I b))∧ARep P w' I' [] r v bs∧bs.Nodup∧∀ b∈bs,w.heap.size≤b∧b<w'.heap.size∧¬I' b) a'.defers .returning w':=by
  rw [hdf]
  refine H6 (fun w4 s4=>?_) ms w' s hm
  obtain ⟨v,bs,h1,h2,h3,h4⟩:=s4.resultsB hrs q
  refine ⟨v,h1,v,I',bs,rfl,⟨s4.os,s4.tape,s4.output,s4.size,fun b hb=>s4.prot b hb⟩,s4.mono,fun b hi=>⟨s4.ilt b hi,fun hb=>s4.kI b hb hi⟩,h2.noBp hbp,h3,fun b hm=>?_⟩
  obtain ⟨l,hl⟩:=h4 b hm
  refine ⟨?_,(s4.own b l hl).1,(s4.own b l hl).2⟩
  rcases Nat.lt_or_ge b w.heap.size with hlt|hge
  ·have:=s4.kO b hlt;rw [this] at hl;cases hl
  ·exact hge
 rcases he with rfl|rfl<;>exact fin
end
end Go.FL
namespace Go.FL
open Go Go.Proofs
def DA (x1:(List Itm)) (K0:(List RT)→Int→(List RT)→Option ((List RT)×Int)) : Nat→(List RT)→Int→(List RT)→Int→Option ((List RT)×Int)
 | 0,_,_,_,_=>none
 | k+1,s5,s6,s7,s8=>(if s8<((List.length x1:Nat):Int) then ((rd? x1 s8).bind fun x9=>(if x9.kind=1 then ((ap? 2513169434916 s7 [x9.num]).bind fun x10=>(DA x1 K0 k s5 s6 x10 (w64 (s8+1)))) else (some ([],3)))) else (K0 s5 s6 s7))
def Gj (a0:Arr) : Option ((List RT)×Int):=((Dn a0).bind fun x1=>(jn (fun (z2:(List RT)) (z3:Int) (z4:(List RT))=>(some (z4,0))) fun K0=>(DA x1 K0 AC [] 0 [] 0)))
theorem Ij {a0:Arr} {r:(List RT)×Int} (h:Gj a0=some r) :
  Fn Tryz.prog 156 [.ag [.sl (Is a0.shape),.sl (Its a0.items)]] (.tup [.d (.sl (RVs r.1)),.d (.i .i64 r.2)]):=by
 unfold Gj at h
 refine Fn.of (rs:=[.tmp 2,.tmp 3]) (nt:=24) Tryz.func156 rfl rfl rfl (by simp) rfl ?_;refine .sr ?_;refine vk vbx ?_;refine asn ?_;refine ar [1,2,3] ?_;refine .sr ?_;refine asn ?_;refine rk [1,2,3,4] ?_;refine .seq ?_;refine .sr ?_;refine vk (Ao Ae Aa) ?_
 obtain ⟨x1,g1,h⟩:=bnd h
 refine vk (Ai (GH g1) Tryz.call46) ?_;refine vk (A0 (Az _) (Cu _) Ct) ?_;refine va ?_;refine rk [2,3,4,8,9,10] ?_
 obtain ⟨K0,hK0,h⟩:=AE h
 refine AW.mr (σ:=(List RT)×Int×(List RT)) (fun p=>K0 p.1 p.2.1 p.2.2=some r) (fun p=>[(2,.d (.sl (RVs p.1))),(3,.d (.i .i64 p.2.1)),(4,.own 34 (RVs p.2.2))]) (fun p=>[]) ?_ ?_
 ·skip
  refine .block ?_;refine .gh (Gh.nlD (t:=2) rfl) ?_;refine .gh (Gh.nlOwn (t:=4) 34 (by rw [Y4];decide) rfl) ?_
  refine .loop (.gk [2,3,4,8,9,10] ?_)
  refine AL.ind (σ:=Nat×(List RT)×Int×(List RT)×Int) (m:=fun p=>p.1) (e:=fun p=>[(2,.d (.sl (RVs p.2.1))),(3,.d (.i .i64 p.2.2.1)),(4,.own 34 (RVs p.2.2.2.1)),(8,.d (.sl (Its x1))),(9,.d (.i .i64 ((List.length x1:Nat):Int))),(10,.d (.i .i64 p.2.2.2.2))]) (h:=fun p=>[]) (I:=fun p=>DA x1 K0 p.1 p.2.1 p.2.2.1 p.2.2.2.1 p.2.2.2.2=some r) ?_ (AC,[],0,[],0) h
  rintro ⟨k,s5,s6,s7,s8⟩ h ih
  dsimp only at h ih ⊢
  rcases k with _|k
  ·rw [DA] at h;cases h
  rw [DA] at h
  refine .sr ?_;refine vb ?_;refine rk [2,3,4,8,9,10,11] ?_;refine .seq ?_
  rcases brc h with ⟨hc,h⟩|⟨hc,h⟩
  ·refine cnt (dT hc) ?_
   refine .sk ?_;refine .seq ?_;refine .block ?_;refine .sr ?_
   obtain ⟨x9,g9,h⟩:=bnd h
   obtain ⟨n9,p09,q9⟩:=Ag g9
   refine vk (vix n9 p09 (Cw q9) rfl Cl) ?_;refine vk (Ao AP Au) ?_;refine vk (van (Ah B6) B2) ?_
   refine stn ?_ Au (by decide)
   refine rk [2,3,4,6,8,9,10] ?_;refine .seq ?_;refine .seq ?_;refine .gh (Gh.nbp (t:=6) rfl) ?_;refine .region ?_;refine vk (vfa BY) ?_;refine vk (Aj Bb) ?_;refine vb ?_;refine rk [2,3,4,6,8,9,10,16] ?_
   rcases brc h with ⟨hc,h⟩|⟨hc,h⟩
   ·refine cnf (ntf (dT hc)) ?_
    refine .sk ?_;refine .region ?_;refine mvo ?_;refine vk (vfa BS) ?_;refine vk (Ao A8 AG) ?_;refine vk ((FE (GC [x9.num]) IW).deep) ?_
    obtain ⟨x10,g10,h⟩:=bnd h
    refine OO VT g10 Yp ?_ Wk D3 IW
    refine aso ?_;refine .nil ?_;refine aw ?_;refine .gk [2,3,4,8,9,10] ?_;refine .region ?_;refine vb ?_;refine va ?_;refine .nil ?_;refine AL.gk [2,3,4,8,9,10] ?_
    exact ih (k,s5,s6,x10,(w64 (s8+1))) h (Nat.lt_succ_self _)
   refine cnt (ntt (dF hc)) ?_;refine .sr ?_;refine asn ?_;refine ar [2,3,4,6,8,9,10] ?_;refine .gh (Gh.nlD (t:=2) rfl) ?_;refine .ret ?_
   cases h
   exact ⟨by decide,rfl,rfl,rfl⟩
  refine cnf (dF hc) ?_;refine .gk [2,3,4] ?_;refine .exit ?_
  exact jr (s5,s6,s7) h
 rintro ⟨z2,z3,z4⟩ h
 try dsimp only at h ⊢
 subst hK0
 refine aw ?_;refine .sr ?_;refine fz (p:=.t 4) ?_;refine va ?_;refine asd ?_;refine ar [2,3] ?_;refine .ret ?_
 cases h
 exact ⟨by decide,rfl,rfl,rfl⟩
def KL (a0:Arr) (a1:Arr) : Option ((List RT)×(List RT)×Int):=((Gj a0).bind fun x1=>(jn (fun (z2:(List RT)) (z3:Int)=>(some (x1.1,z2,z3))) fun K0=>(if x1.2=0 then ((Gj a1).bind fun x4=>(K0 x4.1 x4.2)) else (K0 [] x1.2))))
theorem Pr {a0:Arr} {a1:Arr} {r:(List RT)×(List RT)×Int} (h:KL a0 a1=some r) :
  Fn Tryz.prog 99 [.ag [.sl (Is a0.shape),.sl (Its a0.items)],.ag [.sl (Is a1.shape),.sl (Its a1.items)]] (.tup [.d (.sl (RVs r.1)),.d (.sl (RVs r.2.1)),.d (.i .i64 r.2.2)]):=by
 unfold KL at h
 refine Fn.of (rs:=[.tmp 4,.tmp 5,.tmp 6]) (nt:=22) Tryz.func99 rfl rfl rfl (by simp) rfl ?_;refine .sr ?_;refine vk vbx ?_;refine vk vbx ?_;refine asn ?_;refine asn ?_;refine ar [2,3,4,5,6] ?_;refine .seq ?_;refine .sr ?_;refine vk (Ao Ae Aa) ?_
 obtain ⟨x1,g1,h⟩:=bnd h
 refine vk (VOK.tupd (vs:=[.sl (RVs x1.1),.i .i64 x1.2]) (Ai (Ij g1) Tryz.call156)) ?_;refine va ?_;refine vk vex ?_;refine vk vex ?_;refine asd ?_;refine ar [3,4,5,6] ?_;refine .sr ?_;refine va ?_;refine vb ?_;refine rk [3,4,5,6,13] ?_
 obtain ⟨K0,hK0,h⟩:=AE h
 refine AW.mr (σ:=(List RT)×Int) (fun p=>K0 p.1 p.2=some r) (fun p=>[(4,.d (.sl (RVs x1.1))),(5,.d (.sl (RVs p.1))),(6,.d (.i .i64 p.2))]) (fun p=>[]) ?_ ?_
 ·skip
  rcases brc h with ⟨hc,h⟩|⟨hc,h⟩
  ·refine cnt (dT hc) ?_
   refine .region ?_;refine vk (Ao Ae Aa) ?_
   obtain ⟨x4,g4,h⟩:=bnd h
   refine vk (VOK.tupd (vs:=[.sl (RVs x4.1),.i .i64 x4.2]) (Ai (Ij g4) Tryz.call156)) ?_;refine va ?_;refine vk vex ?_;refine vk vex ?_;refine asd ?_;refine asd ?_;refine RL.gk [4,5,6] ?_;refine .nil ?_
   exact jr (x4.1,x4.2) h
  refine cnf (dF hc) ?_;refine .gh (Gh.nlD (t:=5) rfl) ?_;refine .gk [4,5,6] ?_;refine .skip ?_
  exact jr ([],x1.2) h
 rintro ⟨z2,z3⟩ h
 try dsimp only at h ⊢
 subst hK0
 refine aw ?_;refine .sr ?_;refine va ?_;refine va ?_;refine va ?_;refine asd ?_;refine asd ?_;refine ar [4,5,6] ?_;refine .ret ?_
 cases h
 exact ⟨⟨by decide,by decide,by decide⟩,rfl,rfl,rfl,rfl⟩
def JY (a0:RT) (a1:RT) : Option (RT×RT×Int):=((IE a0 a1).bind fun x1=>(Option.bind ((if x1.2=0 then ((IT a0).bind fun x3=>(some (decide (x3=0)))) else (some true)) : Option (Bool)) fun (z2:Bool)=>(if z2=true then none else ((Ib a1 x1.1).bind fun x4=>(jn (fun (z5:RT) (z6:Int)=>(some (x1.1,z5,z6))) fun K0=>(if x4.2=0 then ((Ma x4.1 a0).bind fun x7=>(K0 x7.1 x7.2)) else (K0 x4.1 x4.2)))))))
theorem NH {a0:RT} {a1:RT} {r:RT×RT×Int} (h:JY a0 a1=some r) :
  Fn Tryz.prog 103 [.ag [.b a0.1,.sl (L a0.2.1),.sl (L a0.2.2)],.ag [.b a1.1,.sl (L a1.2.1),.sl (L a1.2.2)]] (.tup [.d (.ag [.b r.1.1,.sl (L r.1.2.1),.sl (L r.1.2.2)]),.d (.ag [.b r.2.1.1,.sl (L r.2.1.2.1),.sl (L r.2.1.2.2)]),.d (.i .i64 r.2.2)]):=by
 unfold JY at h
 refine Fn.ofA (rs:=[.cell 4 34,.cell 5 34,.tmp 6]) (nt:=40) Tryz.func103 rfl rfl rfl (by simp) rfl ?_;refine .sr ?_;refine vk vbx ?_;refine vk vbx ?_;refine vk (van (Ah FS) FO) ?_;refine vk (van (Ah FS) FO) ?_;refine ar [2,3,4,5,6] ?_;refine .seq ?_;refine .sr ?_;refine vk (Ao A8 AG) ?_;refine vk (Ao A8 AG) ?_
 obtain ⟨x1,g1,h⟩:=bnd h
 refine vk (VOK.tupd (vs:=[.ag [.b x1.1.1,.sl (L x1.1.2.1),.sl (L x1.1.2.2)],.i .i64 x1.2]) (Ai (Nk g1) Tryz.call159)) ?_;refine va ?_;refine vk vex ?_;refine vk vex ?_
 refine stn ?_ AG (by decide)
 refine ar [2,3,4,5,6] ?_;refine .seq ?_
 obtain ⟨z2,hz,h⟩:=bnd h
 refine AW.mr (σ:=Unit) (fun _=>True) (fun _=>[(2,.d (.ptr [.b a0.1,.sl (L a0.2.1),.sl (L a0.2.2)])),(3,.d (.ptr [.b a1.1,.sl (L a1.2.1),.sl (L a1.2.2)])),(4,.nb [.b x1.1.1,.sl (L x1.1.2.1),.sl (L x1.1.2.2)]),(5,.nb [.b false,.sl (L []),.sl (L [])]),(6,.d (.i .i64 x1.2)),(19,.d (.b z2))]) (fun _=>[]) ?_ ?_
 ·skip
  refine .region ?_;refine va ?_;refine vb ?_
  rcases brc hz with ⟨hc,hz⟩|⟨hc,hz⟩
  ·have hb0:(!(decide (x1.2=0)))=false:=(ntf (dT hc))
   refine vL hb0 ?_;refine vk (Ao A8 AG) ?_
   obtain ⟨x3,g3,hz⟩:=bnd hz
   refine vk (Ai (IA g3) Tryz.call130) ?_;refine vb ?_;refine vk Aq ?_;refine RL.gk [2,3,4,5,6,19] ?_;refine .nil ?_
   cases hz
   exact jr () trivial
  have hb0:(!(decide (x1.2=0)))=true:=(ntt (dF hc))
  refine vL hb0 ?_;refine gf3 ?_;refine vk Aq ?_;refine RL.gk [2,3,4,5,6,19] ?_;refine .nil ?_
  cases hz
  exact jr () trivial
 rintro _ _
 rcases brc h with ⟨hc,h⟩|⟨hc,h⟩
 ·exact nomatch h
 refine cnf (bf hc) ?_;refine .sk ?_;refine .seq ?_;refine .sr ?_;refine vk (Ao A8 AG) ?_;refine vk (DF A8 AG) ?_
 obtain ⟨x4,g4,h⟩:=bnd h
 refine vk (VOK.tupd (vs:=[.ag [.b x4.1.1,.sl (L x4.1.2.1),.sl (L x4.1.2.2)],.i .i64 x4.2]) (Ai (Gz g4) Tryz.call160)) ?_;refine va ?_;refine vk vex ?_;refine vk vex ?_
 refine stn ?_ AG (by decide)
 refine ar [2,4,5,6] ?_;refine .sr ?_;refine va ?_;refine vb ?_;refine rk [2,4,5,6,30] ?_
 obtain ⟨K0,hK0,h⟩:=AE h
 refine AW.mr (σ:=RT×Int) (fun p=>K0 p.1 p.2=some r) (fun p=>[(4,.nb [.b x1.1.1,.sl (L x1.1.2.1),.sl (L x1.1.2.2)]),(5,.nb [.b p.1.1,.sl (L p.1.2.1),.sl (L p.1.2.2)]),(6,.d (.i .i64 p.2))]) (fun p=>[]) ?_ ?_
 ·skip
  rcases brc h with ⟨hc,h⟩|⟨hc,h⟩
  ·refine cnt (dT hc) ?_
   refine .region ?_;refine vk (DF A8 AG) ?_;refine vk (Ao A8 AG) ?_
   obtain ⟨x7,g7,h⟩:=bnd h
   refine vk (VOK.tupd (vs:=[.ag [.b x7.1.1,.sl (L x7.1.2.1),.sl (L x7.1.2.2)],.i .i64 x7.2]) (Ai (M2 g7) Tryz.call161)) ?_;refine va ?_;refine vk vex ?_;refine vk vex ?_
   refine stn ?_ AG (by decide)
   refine asd ?_;refine RL.gk [4,5,6] ?_;refine .nil ?_
   exact jr (x7.1,x7.2) h
  refine cnf (dF hc) ?_;refine .gk [4,5,6] ?_;refine .skip ?_
  exact jr (x4.1,x4.2) h
 rintro ⟨z5,z6⟩ h
 try dsimp only at h ⊢
 subst hK0
 refine aw ?_;refine .seq ?_;refine .drawnI 3 A3 (by kernel_rfl) ?_;refine dv (DF A8 AG) ?_;refine dv (DF A8 AG) ?_;refine dv Ac ?_;refine dz ?_
 refine ⟨?_,?_⟩
 ·intro i o hi ho e hj hn
  have hi2:=(Array.getElem?_eq_some_iff.1 ho).1
  have hi3:i=3∨i=4∨i=5:=by change i<6 at hi2;omega
  rcases hi3 with rfl|rfl|rfl<;>cases ho
  ·exact Hy (cs:=[.b x1.1.1,.sl (L x1.1.2.1),.sl (L x1.1.2.2)]) (cs':=[.b x1.1.1,.sl (L x1.1.2.1),.sl (L x1.1.2.2)]) AG (by decide) rfl ((hn 4 (N5 rfl)).trans rfl) ((congrArg Bo (hj 0 37 _ (by kernel_rfl) rfl)).trans rfl) rfl rfl rfl rfl ⟨Nj ((hn 4 (N5 rfl)).trans rfl),rfl⟩
  ·exact Hy (cs:=[.b z5.1,.sl (L z5.2.1),.sl (L z5.2.2)]) (cs':=[.b z5.1,.sl (L z5.2.1),.sl (L z5.2.2)]) AG (by decide) rfl ((hn 5 (N5 rfl)).trans rfl) ((congrArg Bo (hj 1 38 _ (by kernel_rfl) rfl)).trans rfl) rfl rfl rfl rfl ⟨Nj ((hn 5 (N5 rfl)).trans rfl),rfl⟩
  ·exact U4 rfl ((hj 2 39 _ (by kernel_rfl) rfl).trans rfl) rfl ((congrArg Am (hn 6 (N5 rfl))).trans rfl) rfl ⟨Nj ((hn 6 (N5 rfl)).trans rfl),rfl⟩
 refine rk [4,5,6] ?_;refine .ret ?_
 cases h
 exact ⟨_,_,_,⟨_,⟨.inr rfl,A8,AG,p3⟩,rfl⟩,⟨_,⟨.inr rfl,A8,AG,p3⟩,rfl⟩,rfl,rfl⟩
def D9 (x1:(List RT)×(List RT)×Int) (x2:(List Int)) : Nat→Arr→Int→Int→Int→(List Itm)→Option (Arr×Int)
 | 0,_,_,_,_,_=>none
 | k+1,s7,s8,s9,s10,s11=>(if s9<((List.length x1.2.1:Nat):Int) then ((rd? x1.2.1 s9).bind fun x12=>((Fp (((List.length x1.1:Nat):Int)≤1000000)).bind fun x13=>((Sf (fun (i25:Int) (x26:RT) (p:Int×(List Itm)×Bool×(List Nat)×(List Nat))=>((JY x26 (p.2.2.1,p.2.2.2.1,p.2.2.2.2)).bind fun x27=>(if x27.2.2=0 then ((rd? p.2.1 (w64 ((w64 (i25 * ((List.length x1.2.1:Nat):Int)))+s9))).bind fun x28=>(some (x27.2.2,(List.set p.2.1 (Int.toNat (w64 ((w64 (i25 * ((List.length x1.2.1:Nat):Int)))+s9))) (Itm.mk 1 x27.1 0 [])),x27.2.1.1,x27.2.1.2.1,x27.2.1.2.2))) else none))) x1.1 (List.length x1.1) (s10,s11,x12.1,x12.2.1,x12.2.2)).bind fun z24=>(D9 x1 x2 k s7 s8 (w64 (s9+1)) z24.1 z24.2.1)))) else ((AM x2 s11).bind fun x29=>(some (x29.1,x29.2))))
def Iu (a0:Arr) (a1:Arr) : Option (Arr×Int):=(if 1<((List.length a0.shape:Nat) : Int) then (some ((Arr.mk [] []),4)) else ((KL a0 a1).bind fun x1=>(if x1.2.2=0 then ((A1 ([a0.shape,a1.shape])).bind fun x2=>((C7 x2).bind fun x3=>(if x3.2=0 then ((Fp (0≤(if x3.1<1 then 1 else x3.1)∧(if x3.1<1 then 1 else x3.1)≤1466015503701)).bind fun x4=>((IB 0).bind fun x5=>((rd? (List.replicate (Int.toNat (if x3.1<1 then 1 else x3.1)) (Itm.mk 0 (false,[],[]) 0 [])) 0).bind fun x6=>(D9 x1 x2 AC (Arr.mk [] []) 0 0 x3.2 (List.set (List.replicate (Int.toNat (if x3.1<1 then 1 else x3.1)) (Itm.mk 0 (false,[],[]) 0 [])) (Int.toNat 0) x5))))) else (some ((Arr.mk [] []),x3.2))))) else (some ((Arr.mk [] []),x1.2.2)))))
theorem MM {a0:Arr} {a1:Arr} {r:Arr×Int} (h:Iu a0 a1=some r) :
  Fn Tryz.prog 41 [.ag [.sl (Is a0.shape),.sl (Its a0.items)],.ag [.sl (Is a1.shape),.sl (Its a1.items)]] (.tup [.d (.ag [.sl (Is r.1.shape),.sl (Its r.1.items)]),.d (.i .i64 r.2)]):=by
 unfold Iu at h
 refine Fn.ofMB (rs:=[.cell 4 27,.cell 5 29]) (nt:=92) Tryz.func41 rfl rfl rfl (by simp) rfl ?_;refine .seqA ?_;refine .region ?_;refine vk vbx ?_;refine vk vbx ?_;refine vk (van (Ah AI) AK) ?_;refine vk (van (Ah Pw) Ua) ?_;refine rn ?_;refine .gh (Gh.keep [2,3,4,5] rfl) ?_;refine .seqA ?_;refine .seq ?_;refine .region ?_;refine vk (vfa AJ) ?_;refine vk (Aj Bl) ?_;refine vk (A0 (Af _) (Bv _) Bp) ?_;refine vb ?_;refine rn ?_;refine .gh (Gh.keep [2,3,4,5,20] rfl) ?_
 by_cases hc:1<((List.length a0.shape:Nat):Int)
 ·replace h:=LG hc h
  refine cnt (dT hc) ?_;refine .seq ?_;refine .region ?_;refine vk (vbd BW AI AK) ?_
  refine stn ?_ Aa (by decide)
  refine S5 ?_ GI
  refine rn ?_;refine .gh (Gh.keep [2,3,4,5] rfl) ?_;refine .ret ?_
  cases h
  exact ⟨.inr rfl,_,_,⟨.inr rfl,Ae,Aa,(by decide:(0:Nat)<2)⟩,⟨.inr rfl,D4⟩,rfl⟩
 replace h:=Lx hc h
 refine cnf (dF hc) ?_;refine .skip ?_
 show AWM _ _ _ _ _ _
 refine .seqA ?_;refine .region ?_;refine vk (Ao Ae Aa) ?_;refine vk (Ao Ae Aa) ?_
 obtain ⟨x1,hx1,h⟩:=bnd h
 refine vk (VOK.tupd (vs:=[.sl (RVs x1.1),.sl (RVs x1.2.1),.i .i64 x1.2.2]) (Ai (Pr hx1) Tryz.call99)) ?_;refine va ?_;refine vk vex ?_;refine vk vex ?_;refine vk vex ?_
 refine al ?_ (Ah XX) (fun w I μ=>Wb w I μ)
 refine al ?_ (Ah Pw) (fun w I μ=>S4 w I μ)
 refine asd ?_
 refine stb (cs:=[.nl]) (c:=.nl) rfl rfl ?_ XQ
 refine stb (cs:=[.d (.i .i64 0)]) (c:=.d (.i .i64 0)) rfl rfl ?_ GI
 refine rn ?_;refine .gh (Gh.keep [2,3,4,5,6,7,8] rfl) ?_;refine .seqA ?_;refine .seq ?_;refine .region ?_;refine vk (GL (cs:=[.d (.i .i64 x1.2.2)]) (c:=.i .i64 x1.2.2) rfl rfl D4) ?_;refine vb ?_;refine rn ?_;refine .gh (Gh.keep [2,3,4,5,6,7,8,30] rfl) ?_
 by_cases hc:x1.2.2=0
 ·replace h:=LG hc h
  refine cnf (ntf (dT hc)) ?_;refine .skip ?_
  show AWM _ _ _ _ _ _
  refine .seqA ?_;refine .region ?_;refine vk (vfa AJ) ?_;refine vk (Aj Bl) ?_;refine vk (vfa AJ) ?_;refine vk (Aj Bl) ?_;refine vk ((FE (MK [a0.shape,a1.shape]) Rz).deep) ?_
  obtain ⟨x2,hx2,h⟩:=bnd h
  refine vk (Ai (C2 hx2) Tryz.call100) ?_;refine asd ?_;refine rn ?_;refine .gh (Gh.keep [4,5,6,7,8,9] rfl) ?_;refine .seqA ?_;refine .region ?_;refine va ?_
  obtain ⟨x3,hx3,h⟩:=bnd h
  refine vk (VOK.tupd (vs:=[.i .i64 x3.1,.i .i64 x3.2]) (Ai (DP hx3) Tryz.call56)) ?_;refine va ?_;refine vk vex ?_;refine vk vex ?_;refine asd ?_
  refine stb (cs:=[.d (.i .i64 x1.2.2)]) (c:=.d (.i .i64 x1.2.2)) rfl rfl ?_ GI
  refine rn ?_;refine .gh (Gh.keep [4,5,6,7,8,9,10] rfl) ?_;refine .seqA ?_;refine .seq ?_;refine .region ?_;refine vk (GL (cs:=[.d (.i .i64 x3.2)]) (c:=.i .i64 x3.2) rfl rfl D4) ?_;refine vb ?_;refine rn ?_;refine .gh (Gh.keep [4,5,6,7,8,9,10,45] rfl) ?_
  by_cases hc:x3.2=0
  ·replace h:=LG hc h
   refine cnf (ntf (dT hc)) ?_;refine .skip ?_
   show AWM _ _ _ _ _ _
   refine .seqA ?_;refine .region ?_;refine va ?_;refine vk vmx ?_
   obtain ⟨x4,hx4,h⟩:=bnd h
   have ghx4:=Ey hx4
   refine Y5 (F:=Its) (x0:=(Itm.mk 0 (false,[],[]) 0 [])) (zl:=(if x3.1<1 then 1 else x3.1)) (Int.toNat (if x3.1<1 then 1 else x3.1)) VL (by omega) (by omega) ?_ De B2
   refine al ?_ (Ah XO) (fun w I μ=>WJ w I μ)
   refine Ny (cs:=[.nl]) (c:=.nl) rfl rfl ?_ KR
   refine rn ?_;refine .gh (Gh.keep [4,5,6,7,8,9,11] rfl) ?_;refine .seqA ?_;refine .drawn 3 A3 (by kernel_rfl) ?_;refine dv (Ss (cs:=[.own 51 (Its (List.replicate (Int.toNat (if x3.1<1 then 1 else x3.1)) (Itm.mk 0 (false,[],[]) 0 [])))]) rfl rfl BL) ?_
   obtain ⟨x5,hx5,h⟩:=bnd h
   refine dv (Ai (Mn hx5) Tryz.call101) ?_
   obtain ⟨x6,hx6,h⟩:=bnd h
   obtain ⟨nx6,hnx6,hxx6⟩:=Ag hx6
   refine dv (FK (off:=0) (len:=(Its (List.replicate (Int.toNat (if x3.1<1 then 1 else x3.1)) (Itm.mk 0 (false,[],[]) 0 []))).length) nx6 hnx6 (by rw [Az];exact (lS.1 hxx6).1) Cl (by decide)) ?_;refine dz ?_
   refine YH (F:=Its) (zs:=[.i .u8 x6.kind,.b x6.num.1,.sl (L x6.num.2.1),.sl (L x6.num.2.2),.i .i32 x6.char,.sl (Ars x6.box)]) (us:=(List.replicate (Int.toNat (if x3.1<1 then 1 else x3.1)) (Itm.mk 0 (false,[],[]) 0 []))) (n:=nx6) (m:=Int.toNat 0) (x:=x5) (QX (Itm.dv_eq x5).symm) (by rw [hnx6];rfl) (by rw [Nat.zero_add];exact Cw hxx6) rfl ?_ Au Au (Nat.succ_pos _) (hn:=fun _ _ _=>Nat.zero_le _)
   refine RL.gh (Gh.keep [4,5,6,7,8,9,11,51,52] rfl) ?_;refine rn ?_;refine .gh (Gh.keep [4,5,6,7,8,9,11] rfl) ?_;refine .seq rfl ?_;refine .seqA ?_;refine .region ?_;refine vk (GL (cs:=[.d (.sl (RVs x1.2.1))]) (c:=.sl (RVs x1.2.1)) rfl rfl OS) ?_;refine vk (A0 (D3 _) (M4 _) Rn) ?_;refine va ?_;refine rn ?_;refine .gh (Gh.keep [4,5,6,7,8,9,11,54,55,56] rfl) ?_;refine .block ?_
   refine .loop (.gh (Gh.keep [4,5,6,7,8,9,11,54,55,56] rfl) ?_)
   refine ALM.ind rfl (σ:=Nat×Arr×Int×Int×Int×(List Itm)) (m:=fun p=>p.1) (e:=fun p=>[(4,.nb [.sl (Is p.2.1.shape),.sl (Its p.2.1.items)]),(5,.nb [.i .i64 p.2.2.1]),(6,.d (.sl (RVs x1.1))),(7,.bp 0 0),(8,.bp 1 0),(9,.d (.sl (Is x2))),(11,.bp 2 0),(54,.d (.sl (RVs x1.2.1))),(55,.d (.i .i64 ((List.length x1.2.1:Nat):Int))),(56,.d (.i .i64 p.2.2.2.1))]) (h:=fun p=>[HO.box [.d (.sl (RVs x1.2.1))],HO.box [.d (.i .i64 p.2.2.2.2.1)],HO.box [.own 51 (Its p.2.2.2.2.2)]]) (I:=fun p=>D9 x1 x2 p.1 p.2.1 p.2.2.1 p.2.2.2.1 p.2.2.2.2.1 p.2.2.2.2.2=some r) ?_ (AC,(Arr.mk [] []),0,0,x3.2,(List.set (List.replicate (Int.toNat (if x3.1<1 then 1 else x3.1)) (Itm.mk 0 (false,[],[]) 0 [])) (Int.toNat 0) x5)) h
   rintro ⟨k,s7,s8,s9,s10,s11⟩ h ih
   dsimp only at h ih ⊢
   rcases k with _|k
   ·rw [D9] at h;cases h
   rw [D9] at h
   refine .seqA ?_;refine .region ?_;refine vb ?_;refine rn ?_;refine .gh (Gh.keep [4,5,6,7,8,9,11,54,55,56,57] rfl) ?_;refine .seqA ?_
   by_cases hc:s9<((List.length x1.2.1:Nat):Int)
   ·replace h:=LG hc h
    refine cnt (dT hc) ?_;refine .skip ?_
    show AWM _ _ _ _ _ _
    refine .seq rfl ?_;refine .block ?_;refine .seqA ?_;refine .region ?_;refine va ?_
    obtain ⟨x12,hx12,h⟩:=bnd h
    obtain ⟨nx12,hnx12,hxx12⟩:=Ag hx12
    refine vk (vix nx12 hnx12 (Oz hxx12) rfl Ue) ?_;refine vk (Ao A8 AG) ?_
    refine al ?_ (Ah Yg) (fun w I μ=>Ws w I μ)
    refine vk (van (Ah FS) FO) ?_
    refine stb (cs:=[.d (.i .i64 0)]) (c:=.d (.i .i64 0)) rfl rfl ?_ C6
    refine stn ?_ AG (by decide)
    refine RL.gh2 (Gh.nbb (t:=13) rfl) ?_;refine rn ?_;refine .gh (Gh.keep [4,5,6,7,8,9,11,12,13,54,55,56] rfl) ?_;refine .seqA ?_;refine .region ?_;refine va ?_;refine vk (Ai (Xt (RVs x1.1)) Tryz.call102) ?_;refine rn ?_;refine .gh (Gh.keep [4,5,6,7,8,9,11,12,13,54,55,56,62] rfl) ?_;refine .block ?_
    obtain ⟨x13,hx13,h⟩:=bnd h
    have ghx13:=Ey hx13
    obtain ⟨z24,hz24,h⟩:=bnd h
    obtain ⟨Tz24,hTz240,hTz24n,hTz24t⟩:=RY _ hz24
    refine AWM.rangeFuncG (ps:=[63,64]) (f:=158) (caps:=[.ptr [.sl (RVs x1.1)]]) (ys:=Qn x1.1) (m:=List.length x1.1) (e1:=.ret) rfl rfl rfl Tryz.call158 (XE (by omega) (Nat.le_refl _)) (fun ds hd=>Uj _ ds hd) (fun p hp=>by simp only [List.mem_cons,List.not_mem_nil,or_false] at hp;rcases hp with rfl|rfl<;>rfl) rfl (fun k H=>H=[HO.box [.d (.sl (RVs x1.2.1))],HO.box [.d (.i .i64 (Tz24 k).1)],HO.box [.own 51 (Its (Tz24 k).2.1)],HO.box [.d (.i .i64 s9)],HO.box [.d (.b (Tz24 k).2.2.1),.d (.sl (L (Tz24 k).2.2.2.1)),.d (.sl (L (Tz24 k).2.2.2.2))]]) (by rw [hTz240];try rfl) (.inr rfl) (fun l k ds H hk hkm hH=>?_) (fun H hH=>?_)
    ·subst hH
     have hkl:k<List.length x1.1:=by rw [← I7];exact (lS.1 hk).1
     obtain ⟨x26,hx26,h⟩:=hTz24t k hkl
     rw [OE hkl hx26] at hk
     cases hk
     generalize ((List.length x1.1-1-k:Nat):Int)=i25 at h ⊢
     clear hx26
     generalize Tz24 k=s0 at h ⊢
     generalize Tz24 (k+1)=s1 at h ⊢
     obtain ⟨s14,s15,s16,s17,s18⟩:=s0
     dsimp only at h ⊢
     refine .seq ?_;refine .region ?_;refine asd ?_;refine rn ?_;refine .gh (Gh.keep [7,8,11,12,13,14,64] rfl) ?_;refine .region ?_;refine vk (van (Ah FS) FO) ?_
     refine stn ?_ AG (by decide)
     refine rn ?_;refine .gh (Gh.keep [7,8,11,12,13,14,15] rfl) ?_;refine .block ?_;refine .seq ?_;refine .region ?_;refine vk (van (Ah FS) FO) ?_;refine rn ?_;refine .gh (Gh.keep [7,8,11,12,13,14,15,16] rfl) ?_;refine .seq ?_;refine .seq ?_;refine .region ?_;refine vk (DF A8 AG) ?_;refine vk (IC (cs:=[.d (.b s16),.d (.sl (L s17)),.d (.sl (L s18))]) (ds:=[.b s16,.sl (L s17),.sl (L s18)]) rfl A8 AG) ?_
     obtain ⟨x27,hx27,h⟩:=bnd h
     refine vk (VOK.tupd (vs:=[.ag [.b x27.1.1,.sl (L x27.1.2.1),.sl (L x27.1.2.2)],.ag [.b x27.2.1.1,.sl (L x27.2.1.2.1),.sl (L x27.2.1.2.2)],.i .i64 x27.2.2]) (Ai (NH hx27) Tryz.call103)) ?_;refine va ?_;refine vk vex ?_;refine vk vex ?_;refine vk vex ?_
     refine stn ?_ AG (by decide)
     refine Zo (bx:=[.d (.b s16),.d (.sl (L s17)),.d (.sl (L s18))]) (zs:=[.b s16,.sl (L s17),.sl (L s18)]) (ds:=[.b x27.2.1.1,.sl (L x27.2.1.2.1),.sl (L x27.2.1.2.2)]) rfl rfl rfl ?_ AG (Nat.succ_pos _)
     refine stb (cs:=[.d (.i .i64 s14)]) (c:=.d (.i .i64 s14)) rfl rfl ?_ GI
     refine rn ?_;refine .gh (Gh.keep [7,8,11,12,14,16] rfl) ?_;refine .seq ?_;refine .region ?_;refine vk (GL (cs:=[.d (.i .i64 x27.2.2)]) (c:=.i .i64 x27.2.2) rfl rfl D4) ?_;refine vb ?_;refine rn ?_;refine .gh (Gh.keep [7,8,11,12,14,16,73] rfl) ?_
     by_cases hc:x27.2.2=0
     ·replace h:=LG hc h
      refine cnf (ntf (dT hc)) ?_;refine .sk ?_;refine .region ?_
      refine L2 (cs:=[.own 51 (Its s15)]) rfl rfl ?_ BL
      refine va ?_;refine vk (GL (cs:=[.d (.sl (RVs x1.2.1))]) (c:=.sl (RVs x1.2.1)) rfl rfl OS) ?_;refine vk (A0 (D3 _) (M4 _) Rn) ?_;refine vb ?_;refine vk (GL (cs:=[.d (.i .i64 s9)]) (c:=.i .i64 s9) rfl rfl AF) ?_;refine vb ?_;refine vk (DF A8 AG) ?_;refine vk (vbd HI B6 B2) ?_
      obtain ⟨x28,hx28,h⟩:=bnd h
      obtain ⟨nx28,hnx28,hxx28⟩:=Ag hx28
      refine ixr (off:=0) (len:=(Its s15).length) nx28 hnx28 (by rw [Az];exact (lS.1 hxx28).1) ?_ Cl (by decide)
      refine YH (F:=Its) (zs:=[.i .u8 x28.kind,.b x28.num.1,.sl (L x28.num.2.1),.sl (L x28.num.2.2),.i .i32 x28.char,.sl (Ars x28.box)]) (us:=s15) (n:=nx28) (m:=Int.toNat (w64 ((w64 (i25 * ((List.length x1.2.1:Nat):Int)))+s9))) (x:=(Itm.mk 1 x27.1 0 [])) (QX (Itm.dv_eq (Itm.mk 1 x27.1 0 [])).symm) (by rw [hnx28];rfl) (by rw [Nat.zero_add];exact Cw hxx28) rfl ?_ Au Au (Nat.succ_pos _) (hn:=fun _ _ _=>Nat.zero_le _)
      refine RL.gh (Gh.keep [7,8,11,12,14,16,73,76,77,78,79,80,81,82,83,84] rfl) ?_;refine .nil ?_
      cases h
      exact ⟨by rw [if_pos hkl],rfl⟩
     replace h:=Lx hc h
     exact nomatch h
    have hmn:min (List.length x1.1+1) (Qn x1.1).length=List.length x1.1:=by rw [I7];omega
    rw [hmn,hTz24n] at hH
    subst hH
    rw [if_neg (by rw [I7];omega)]
    clear hz24 hTz240 hTz24n hTz24t
    obtain ⟨z19,z20,z21,z22,z23⟩:=z24
    dsimp only at h ⊢
    show AWM _ _ _ _ _ _
    refine .lift ?_;refine .region ?_;refine vb ?_;refine va ?_;refine .nil ?_;refine ALM.gh (Gh.keep [4,5,6,7,8,9,11,54,55,56] rfl) ?_;refine ALM.gh2 (Gh2.cut (H0:=[HO.box [.d (.sl (RVs x1.2.1))],HO.box [.d (.i .i64 z19)],HO.box [.own 51 (Its z20)]]) [HO.box [.d (.i .i64 s9)],HO.box [.d (.b z21),.d (.sl (L z22)),.d (.sl (L z23))]] rfl rfl rfl rfl) ?_;refine ALM.gh (Gh.keep [4,5,6,7,8,9,11,54,55,56] rfl) ?_
    exact ih (k,s7,s8,(w64 (s9+1)),z19,z20) h (Nat.lt_succ_self _)
   replace h:=Lx hc h
   refine cnf (dF hc) ?_;refine .exit ?_
   show AWM _ _ _ _ _ _
   refine .lift ?_;refine .seq ?_;refine .region ?_;refine va ?_;refine fz (p:=.c 2 0) ?_;refine vk (GL (cs:=[.d (.sl (Its s11))]) (c:=.sl (Its s11)) rfl rfl BL) ?_
   obtain ⟨x29,hx29,h⟩:=bnd h
   refine vk (VOK.tupd (vs:=[.ag [.sl (Is x29.1.shape),.sl (Its x29.1.items)],.i .i64 x29.2]) (Ai (DO hx29) Tryz.call18)) ?_;refine vk vex ?_;refine vk vex ?_
   refine stn ?_ Aa (by decide)
   refine S5 ?_ GI
   refine rn ?_;refine .gh (Gh.keep [4,5] rfl) ?_;refine .ret ?_
   cases h
   exact ⟨.inr rfl,_,_,⟨.inr rfl,Ae,Aa,(by decide:(0:Nat)<2)⟩,⟨.inr rfl,D4⟩,rfl⟩
  replace h:=Lx hc h
  refine cnt (ntt (dF hc)) ?_;refine .seq ?_;refine .drawnF 2 [1] [(4,.nb [.sl (Is []),.sl (Its [])])] [HO.box [.d (.sl (RVs x1.2.1))],HO.box [.d (.i .i64 x3.2)]] A3 (by kernel_rfl) rfl ?_;refine dv (vbd BW AI AK) ?_;refine dv (GL (cs:=[.d (.i .i64 x3.2)]) (c:=.i .i64 x3.2) rfl rfl D4) ?_;refine dz ?_
  refine ⟨?_,?_,?_⟩
  ·intro k hk
   simp only [List.mem_cons,List.not_mem_nil,or_false] at hk
   subst hk
   exact ⟨_,_,_,rfl,rfl,rfl,rfl,rfl,rfl,(GL (cs:=[.d (.i .i64 x3.2)]) (c:=.i .i64 x3.2) rfl rfl D4)⟩
  ·intro om e hom hge
   cases hom
   exact Hy (cs:=[.sl (Is []),.sl (Its [])]) (cs':=[.sl (Is []),.sl (Its [])]) Aa (by decide) rfl ((hge 4 (fun k hk v hv=>by
     simp only [List.mem_cons,List.not_mem_nil,or_false] at hk
     subst hk;exact (by decide:¬(some 47=some 4)) (congrArg (Option.map Prod.fst) hv))).trans rfl) ((congrArg Bo (hge 46 (fun k hk v hv=>by
     simp only [List.mem_cons,List.not_mem_nil,or_false] at hk
     subst hk;exact (by decide:¬(some 47=some 46)) (congrArg (Option.map Prod.fst) hv)))).trans rfl) rfl rfl rfl rfl ⟨rfl,rfl⟩
  refine S5 ?_ GI
  refine rn ?_;refine .gh (Gh.keep [4,5,6,7,8,9,10] rfl) ?_;refine .ret ?_
  cases h
  exact ⟨.inr rfl,_,_,⟨.inr rfl,Ae,Aa,(by decide:(0:Nat)<2)⟩,⟨.inr rfl,D4⟩,rfl⟩
 replace h:=Lx hc h
 refine cnt (ntt (dF hc)) ?_;refine .seq ?_;refine .drawnF 2 [1] [(4,.nb [.sl (Is []),.sl (Its [])])] [HO.box [.d (.sl (RVs x1.2.1))],HO.box [.d (.i .i64 x1.2.2)]] A3 (by kernel_rfl) rfl ?_;refine dv (vbd BW AI AK) ?_;refine dv (GL (cs:=[.d (.i .i64 x1.2.2)]) (c:=.i .i64 x1.2.2) rfl rfl D4) ?_;refine dz ?_
 refine ⟨?_,?_,?_⟩
 ·intro k hk
  simp only [List.mem_cons,List.not_mem_nil,or_false] at hk
  subst hk
  exact ⟨_,_,_,rfl,rfl,rfl,rfl,rfl,rfl,(GL (cs:=[.d (.i .i64 x1.2.2)]) (c:=.i .i64 x1.2.2) rfl rfl D4)⟩
 ·intro om e hom hge
  cases hom
  exact Hy (cs:=[.sl (Is []),.sl (Its [])]) (cs':=[.sl (Is []),.sl (Its [])]) Aa (by decide) rfl ((hge 4 (fun k hk v hv=>by
    simp only [List.mem_cons,List.not_mem_nil,or_false] at hk
    subst hk;exact (by decide:¬(some 32=some 4)) (congrArg (Option.map Prod.fst) hv))).trans rfl) ((congrArg Bo (hge 31 (fun k hk v hv=>by
    simp only [List.mem_cons,List.not_mem_nil,or_false] at hk
    subst hk;exact (by decide:¬(some 32=some 31)) (congrArg (Option.map Prod.fst) hv)))).trans rfl) rfl rfl rfl rfl ⟨rfl,rfl⟩
 refine S5 ?_ GI
 refine rn ?_;refine .gh (Gh.keep [2,3,4,5,6,7,8] rfl) ?_;refine .ret ?_
 cases h
 exact ⟨.inr rfl,_,_,⟨.inr rfl,Ae,Aa,(by decide:(0:Nat)<2)⟩,⟨.inr rfl,D4⟩,rfl⟩
theorem LA {a b:List Int} (h:a.length+b.length≤100) : A1 [a,b]=some (a++b):=by
 obtain ⟨k,hk⟩:=UG 3
 unfold A1
 have w1:w64 (0+((List.length a:Nat):Int))=((List.length a:Nat):Int):=by rw [B8 (by omega) (by omega)];omega
 have w2:w64 (((List.length a:Nat):Int)+((List.length b:Nat):Int))=((List.length a+List.length b:Nat):Int):=by rw [B8 (by omega) (by omega)];omega
 rw [Cn,hk,AZ,if_pos (by simp),Cn,show rd? [a,b] 0=some a from rfl,oB,w1,MO (by omega),oB]
 dsimp only
 rw [AZ,if_pos (by rw [show w64 (0+1)=1 from rfl];simp),Cn,show rd? [a,b] (w64 (0+1))=some b from rfl,oB,w2,MO (by omega),oB]
 dsimp only
 rw [AZ,if_neg (by rw [show w64 (w64 (0+1)+1)=2 from rfl];simp),MO (by unfold QK;omega),oB,Cn,
  AY,if_pos (by simp),show rd? [a,b] 0=some a from rfl,oB,GN (by simp;omega),oB,List.nil_append,AY,if_pos (by rw [show w64 (0+1)=1 from rfl];simp),show rd? [a,b] (w64 (0+1))=some b from rfl,oB,GN (by omega),oB,
  AY,if_neg (by rw [show w64 (w64 (0+1)+1)=2 from rfl];simp)]
theorem Rq {l:List Int} (hl:l.length≤4096) : (Iq l).shape=[(l.length:Int)]:=by
 unfold Iq Gw;simp [Arr.shape];omega
section
variable {P:Program} {C:Cx} {o:Oper} {ops:Array Oper} {Q:Exit→Env→Ad→Prop} {env:Env} {H:Ad} {k:Nat} {l:List Oper}
theorem YB {s ty n i e:Nat} {p:Pl} {xs:List DV} (zs:List DV) (hx:xs[i]?=some (.ag zs)) (hz:(DV.ag zs).cells=zs) (hag:B1 P ty=some true) (hn:Ay P ty=n) (hzn:zs.length=n) (hn0:0<n:=by decide)
  (ho:o.op=.load ty (.tmp s):=by rfl) (hv:get env s=.ep p i 0:=by rfl) (hp:AH env H p=.own e xs:=by rfl):VOK P C o env H (.d (.ag zs)):=by
 have e1:(xs.getD i default).cells=zs:=by rw [lD,hx];exact hz
 have h:=SQ (C:=C) (H:=H) ho (by simp [AD]) hag hn hn0 hv hp (by rw [e1];omega)
 rw [e1,List.drop_zero,List.take_of_length_le (by omega)] at h
 exact .pv h
theorem fae {r s f t off n i j e:Nat} {p:Pl} {xs:List DV} (h:RL P C ops Q (k+1) l ((t,.ep p i (j+off))::env) H) (hf':Bs P s f=some (off,n)) (hn:0<n) (hlt:j+off<Ay P e) (hg:grd ops env o true=true:=by rfl) (ho:o.op=.fieldAddr s (.tmp r) f:=by rfl)
  (hv:get env r=.ep p i j:=by rfl) (hp:AH env H p=.own e xs:=by rfl) (hd:o.dst=some t:=by rfl) (hpt:p≠.t t:=by (intro h;cases h)) (hf:Am (get env t)=false:=by rfl) (ht:okT C.nt t:=by rfl):RL P C ops Q k (o::l) env H:=by
 rw [← Al hf] at h
 exact .go hg (Tv ho (by simp [AD]) hd ht hf' hn hv hp hpt hlt h)
theorem Zb {r s f off n i j e:Nat} {p:Pl} {xs:List DV} (hf':Bs P s f=some (off,n)) (hn:0<n) (hlt:j+off<Ay P e) (ho:o.op=.fieldAddr s (.tmp r) f:=by rfl)
  (hv:get env r=.ep p i j:=by rfl) (hp:AH env H p=.own e xs:=by rfl):VOK P C o env H (.ep p i (j+off)):=by
 refine .rel (by simp [ho]) fun X a w I μ O _ hs=>?_
 have he:=hs.epr (x:=.tmp r) (s:=r) (by simp [AD]) hv
 obtain ⟨e',ys,b,m,c,g1,g2,g3,g4,g5⟩:=he
 rw [hp] at g1;cases g1
 exact ⟨.pointer (some ⟨b,i * Ay P e+(j+off),none⟩),by simp [execOp,ho,g5,FI hf' hn,Nat.add_assoc],rfl,e,xs,b,m,c,hp,g2,g3,hlt,rfl⟩
theorem stF {α:Type} {F:List α→List DV} {zs:List DV} {us:List α} {n m j:Nat} {x:α} {d:DV} {y:Operand} {r ty e:Nat} {p:Pl} (hset:(F us).set n (.ag (zs.set j d))=F (us.set n x)) (hm:m=n) (hx:(F us)[0+n]?=some (.ag zs)) (hc:(DV.ag (zs.set j d)).cells=(DV.ag zs).cells.set j d)
  (h:RL P C ops Q (k+1) l (Gd p (.own e (F (us.set m x))) env) (Hm p (.own e (F (us.set m x))) H)) (hsz:Ay P ty=1)
  (hg:grd ops env o true=true:=by rfl) (ho:o.op=.store ty (.tmp r) y:=by rfl) (hv:get env r=.ep p (0+n) j:=by rfl) (hp:AH env H p=.own e (F us):=by rfl) (hy:lk env y=.d d:=by rfl) (h1:d.leaf=true:=by rfl) (hd:o.dst=none:=by rfl)
  (hn:∀ id off,p=.c id off→C.n0≤id:=by (intro _ _ h;cases h<;>decide)):RL P C ops Q k (o::l) env H:=by
 subst hm
 obtain ⟨h3,h4⟩:=Av hy (by simp)
 refine .go hg (Hg ho (by simp [AD]) h3 hd hsz hv hp hn h4 h1 (x':=.ag (zs.set j d)) ?_ ?_)
 ·rw [lD,hx];exact hc
 ·rw [Nat.zero_add] at *
  rw [hset];exact h
end
def VF {α:Type} (m:Nat) (xs:List α) (i:Int) : Option α:=if i<(m:Int) then rd? xs i else none
theorem Uk {α:Type} {m:Nat} {xs:List α} {i:Int} {x:α} (h:VF m xs i=some x) : ∃ n : Nat,i=(n:Int)∧xs[n]?=some x∧n<m:=by
 unfold VF at h
 by_cases hi:i<(m:Int)
 ·rw [if_pos hi] at h
  obtain ⟨n,h1,h2⟩:=Ag h
  exact ⟨n,h1,h2,by omega⟩
 ·rw [if_neg hi] at h;cases h
def FX (a0:Int) (a1:Int) : Option (Int×Int):=(some ((IntKind.wrap .u64 ((IntKind.wrap .u64 ((IntKind.wrap .u64 ((a0 / 2 ^ min (Int.toNat 32) (IntKind.bits .u64)) * (a1 / 2 ^ min (Int.toNat 32) (IntKind.bits .u64))))+((IntKind.wrap .u64 ((IntKind.wrap .u64 ((a0 / 2 ^ min (Int.toNat 32) (IntKind.bits .u64)) * (bits .and .u64 a1 4294967295)))+((IntKind.wrap .u64 ((bits .and .u64 a0 4294967295) * (bits .and .u64 a1 4294967295))) / 2 ^ min (Int.toNat 32) (IntKind.bits .u64)))) / 2 ^ min (Int.toNat 32) (IntKind.bits .u64))))+((IntKind.wrap .u64 ((bits .and .u64 (IntKind.wrap .u64 ((IntKind.wrap .u64 ((a0 / 2 ^ min (Int.toNat 32) (IntKind.bits .u64)) * (bits .and .u64 a1 4294967295)))+((IntKind.wrap .u64 ((bits .and .u64 a0 4294967295) * (bits .and .u64 a1 4294967295))) / 2 ^ min (Int.toNat 32) (IntKind.bits .u64)))) 4294967295)+(IntKind.wrap .u64 ((bits .and .u64 a0 4294967295) * (a1 / 2 ^ min (Int.toNat 32) (IntKind.bits .u64)))))) / 2 ^ min (Int.toNat 32) (IntKind.bits .u64)))),(IntKind.wrap .u64 (a0 * a1))))
theorem JM {a0:Int} {a1:Int} {r:Int×Int} (h:FX a0 a1=some r) :
  Fn Tryz.prog 209 [.i .u64 a0,.i .u64 a1] (.tup [.d (.i .u64 r.1),.d (.i .u64 r.2)]):=by
 unfold FX at h
 refine Fn.of (rs:=[.tmp 4,.tmp 5]) (nt:=51) Tryz.func209 rfl rfl rfl (by simp) rfl ?_;refine .sr ?_;refine asd ?_;refine ar [0,1,4,5] ?_;refine .sr ?_;refine va ?_;refine vb ?_;refine ar [0,1,4,5,6] ?_;refine .sr ?_;refine va ?_;refine vk (Ip (c:=(0:Int)≤32) (by decide)) ?_;refine ar [0,1,4,5,6,7] ?_;refine .sr ?_;refine va ?_;refine vb ?_;refine ar [0,1,4,5,6,7,8] ?_;refine .sr ?_;refine va ?_;refine vk (Ip (c:=(0:Int)≤32) (by decide)) ?_;refine ar [0,1,4,5,6,7,8,9] ?_;refine .sr ?_;refine va ?_;refine va ?_;refine vb ?_;refine ar [0,1,4,5,6,7,8,9,10] ?_;refine .sr ?_;refine va ?_;refine va ?_;refine vb ?_;refine va ?_;refine vk (Ip (c:=(0:Int)≤32) (by decide)) ?_;refine vb ?_;refine ar [0,1,4,5,6,7,9,11] ?_;refine .sr ?_;refine va ?_;refine vb ?_;refine ar [0,1,4,5,6,7,9,11,12] ?_;refine .sr ?_;refine va ?_;refine vk (Ip (c:=(0:Int)≤32) (by decide)) ?_;refine ar [0,1,4,5,6,7,9,12,13] ?_;refine .sr ?_;refine va ?_;refine va ?_;refine va ?_;refine vb ?_;refine vb ?_;refine ar [0,1,4,5,7,9,12,13] ?_;refine .sr ?_;refine va ?_;refine va ?_;refine vb ?_;refine va ?_;refine vb ?_;refine va ?_;refine vk (Ip (c:=(0:Int)≤32) (by decide)) ?_;refine vb ?_;refine ar [0,1,4,5] ?_;refine .sr ?_;refine va ?_;refine va ?_;refine vb ?_;refine ar [4,5] ?_;refine .ret ?_
 cases h
 exact ⟨by decide,rfl,rfl,rfl⟩
end Go.FL
namespace Go.FL
open Go Go.RowKit
section
variable {P:Program} {C:Cx} {o:Oper} {ops:Array Oper} {Q:Exit→Env→Ad→Prop} {env:Env} {H:Ad} {k:Nat} {l:List Oper}
theorem cp0 {c:Call} {r s t dT sT e el:Nat} {y:Operand} {ys:List DV} (h:RL P C ops Q (k+1) l ((t,.d (.i .i64 0))::env) H) (hu:P.underlying dT=some (.slice el)) (hsz:(P.info? el).map (·.size)=some 1)
  (hg:grd ops env o true=true:=by rfl) (ho:o.op=.call c:=by rfl) (hc:c.callee=.builtin .copy:=by rfl) (ha:c.args=#[.tmp r,y]:=by rfl) (hty:c.argTypes=#[dT,sT]:=by rfl)
  (hv:get env r=.ref (.t s) 0 0:=by rfl) (hp:get env s=.own e []:=by rfl) (hy:lk env y=.d (.sl ys):=by rfl) (hd:o.dst=some t:=by rfl) (hf:Am (get env t)=false:=by rfl) (ht:okT C.nt t:=by rfl):RL P C ops Q k (o::l) env H:=by
 rw [← Al hf] at h
 refine .go hg (.pure (by simp [ho]) hd ht (fun X a w I μ O _ hs=>⟨.int .i64 0,?_,.of_rep (.i _ _)⟩) h)
 have hrr:=hs.envr r
 rw [hv] at hrr
 obtain ⟨e',zs,A,m,cc,g1,g2,g3,A',c',q1,q2,q3,q4⟩:=hrr
 have hev:a.eval (.tmp r)=.slice A' 0 c':=q1
 have hry:=hs.deep (x:=y) (v:=.sl ys) (by rw [hy];rfl)
 obtain ⟨A2,c2,hev2,_⟩:=hry.sl_len
 have hrun:=run_copy_none (P:=P) w dT sT o.type el A' A2 0 c' ys.length c2 hu hsz (by simp)
 simp [execOp,ho,resolve,hc,ha,hty,invoke,builtin,hev,hev2,hrun,Result.andThen,goInt]
theorem cp1 {c:Call} {r s t dT sT e el:Nat} {y:Operand} {x v:DV} (h:RL P C ops Q (k+1) l ((t,.d (.i .i64 1))::Gd (.t s) (.own e [v]) env) H) (hu:P.underlying dT=some (.slice el)) (hsz:(P.info? el).map (·.size)=some 1) (hse:Ay P e=1)
  (hg:grd ops env o true=true:=by rfl) (ho:o.op=.call c:=by rfl) (hc:c.callee=.builtin .copy:=by rfl) (ha:c.args=#[.tmp r,y]:=by rfl) (hty:c.argTypes=#[dT,sT]:=by rfl)
  (hv:get env r=.ref (.t s) 0 1:=by rfl) (hp:get env s=.own e [x]:=by rfl) (hx:x.leaf=true:=by rfl) (hy:lk env y=.d (.sl [v]):=by rfl) (hl:v.leaf=true:=by rfl) (hd:o.dst=some t:=by rfl)
  (hf:Am (get (Gd (.t s) (.own e [v]) env) t)=false:=by rfl) (ht:okT C.nt t:=by rfl):RL P C ops Q k (o::l) env H:=by
 rw [← Al hf] at h
 refine .go hg (.val (by simp [ho]) hd ht (fun X a w I μ O _ _ _ hs=>?_) h)
 have hpl:AH env H (.t s)=.own e [x]:=hp
 have hrr:=hs.envr r
 rw [hv] at hrr
 obtain ⟨e',ys,A,m,cc,g1,g2,g3,g4⟩:=hrr
 rw [hpl] at g1;cases g1
 obtain ⟨v0,bs,f1,f2,_,_⟩:=hs.at_place hpl
 rw [g2] at f1;cases f1
 have:∃ b,A=some ⟨b,0,none⟩∧m=1∧1≤cc:=by
  have k:=Es f2
  obtain ⟨k1,k2,k3⟩:=k
  have hcc:0<cc:=by
   have:[x].length=1:=rfl
   omega
  obtain ⟨b,hb⟩:=k3 (by omega)
  exact ⟨b,hb,k1,by omega⟩
 obtain ⟨b,rfl,rfl,hmc⟩:=this
 obtain ⟨A',c',q1,q2,q3,q4⟩:=g4
 have hA:(some (⟨b,0,none⟩:Addr)).map (·.add (0 * Ay P e))=some ⟨b,0,none⟩:=by simp [CP]
 rw [q4 (by omega),hA] at q1
 have hev:a.eval (.tmp r)=.slice (some ⟨b,0,none⟩) 1 c':=q1
 have he:Kz P env H a w μ (.t s) 0 0 (.pointer (some ⟨b,0 * Ay P e+0,none⟩)):=⟨e,[x],b,1,cc,hpl,g2,by simp,by omega,rfl⟩
 have hry:=hs.deep (x:=y) (v:=.sl [v]) (by rw [hy];rfl)
 generalize hev2:a.eval y=u at hry
 cases hry with
 | sl _ bk o2 sz c2 vs hne hc2 hI hsz2 hh hr =>
  obtain ⟨r1,r2⟩:=hr.get 0 v rfl
  rw [DV.leaf_cells hl] at r1 r2
  have hsz1:sz=1:=by simpa using r1.symm
  subst hsz1
  rw [Nat.zero_mul,List.drop_zero] at r2
  obtain ⟨u,hu1,hu2⟩:∃ u,vs.take 1=[u]∧Rep w I v u:=by
   generalize vs.take 1=q at r2
   cases r2 with
   | cons h1 h2=>cases h2;exact ⟨_,rfl,h1⟩
  have hu0:vs[0]?=some u:=by
   have:(vs.take 1)[0]?=some u:=by rw [hu1];rfl
   rwa [List.getElem?_take_of_lt (by omega)] at this
  have hone:=hu2.one hl
  obtain ⟨b',off,k1,⟨u0,k2⟩,k3,k4⟩:=hs.storeE (x:=x) (x':=v) (x0:=v) hpl (fun _ _ h=>by cases h) he rfl (by rw [DV.leaf_cells hx,DV.leaf_cells hl];rfl) hu2 hone
  have hb:b'=b∧off=0:=by
   simp only [Value.pointer.injEq,Option.some.injEq,Addr.mk.injEq] at k1
   refine ⟨k1.1.symm,?_⟩
   have:=k1.2.1
   omega
  obtain ⟨rfl,rfl⟩:=hb
  have hrun:=run_copy_cells (P:=P) w dT sT o.type el b' 0 1 c' ⟨bk,o2,none⟩ 1 c2 [u] hu hsz (by simp) (fun j z hj=>by
   have hj0:j=0:=by
    have:=(lS.1 hj).1
    simp at this;omega
   subst hj0
   simp only [List.getElem?_cons_zero,Option.some.injEq] at hj
   subst hj
   have:=hh 0 u hu0
   rw [CP];simpa using this) (fun j hj=>by
   have hj0:j=0:=by simp at hj;omega
   subst hj0
   rw [Nat.zero_add,k2];rfl) (fun j hj=>by
   have hj0:j=0:=by simp at hj;omega
   subst hj0
   exact k3) (fun z hz=>by rw [List.mem_singleton] at hz;subst hz;exact hone)
  refine ⟨.int .i64 1,w.setCell ⟨b',0,none⟩ u,I,μ,O,?_,k4,.of_rep (.i _ _)⟩
  have hset:w.setCells b' 0 [u]=w.setCell ⟨b',0,none⟩ u:=rfl
  have hl1:[v].length=1:=rfl
  rw [hl1] at hev2
  simp [execOp,ho,resolve,hc,ha,hty,invoke,builtin,hev,hev2,hrun,hset,Result.andThen,goInt]
end
end Go.FL
namespace Go.FL
open Go Go.Proofs
theorem AW.condF {P:Program} {C:Cx} {c1 c2:Code} {Q:Exit→Env→Ad→Prop} {env:Env} {H:Ad} (h:AW P C c2 Q env H) : AW P C (.cond (.const (.bool false)) c1 c2) Q env H:=fun X a w I μ O g1 g2 g3 hs =>
 wpIn_cond_split (t:=false) rfl (fun e=>by cases e) fun _=>h X a w I μ O g1 g2 g3 hs
theorem To {n:Int} (h:n=0∨n=1) : FX 1 n=some (0,n):=by
 rcases h with rfl|rfl<;>rfl
theorem U2 {n:Int} (h:n=0∨n=1) : Fn Tryz.prog 162 [.i .u64 1,.i .u64 n] (.tup [.d (.i .u64 0),.d (.i .u64 n)]):=by
 refine Fn.of (rs:=[.tmp 4,.tmp 5]) (nt:=30) Tryz.func162 rfl rfl rfl (by simp) rfl ?_;refine .seq ?_;refine .region ?_;refine asd ?_;refine asd ?_;refine rn ?_;refine .gh (Gh.keep [0,1,4,5] rfl) ?_;refine .seq ?_;refine .condF ?_;refine .skip ?_;refine aw ?_;refine .seq ?_;refine .region ?_;refine vk (Ac) ?_;refine vk (Ac) ?_;refine vk (VOK.tupd (vs:=[.i .u64 0,.i .u64 n]) (Ai (JM (To h)) Tryz.call209)) ?_;refine vk (Ac) ?_;refine vk (vex) ?_;refine vk (vex) ?_;refine asd ?_;refine asd ?_;refine rn ?_;refine .gh (Gh.keep [4,5,8,9] rfl) ?_;refine .seq ?_;refine .region ?_;refine vk (Ac) ?_;refine vk (Ac) ?_;refine asd ?_;refine asd ?_;refine rn ?_;refine .gh (Gh.keep [4,5] rfl) ?_;refine .ret ?_
 exact ⟨by decide,rfl,rfl,rfl⟩
theorem wu1 : IntKind.u64.wrap 1=1:=rfl
theorem wu0 : IntKind.u64.wrap 0=0:=rfl
theorem wi0 : IntKind.i64.wrap 0=0:=rfl
theorem wi1 : IntKind.i64.wrap 1=1:=rfl
theorem wul (v:Int) : IntKind.u64.wrap ((List.length [v] : Nat) : Int)=1:=rfl
theorem gcS : (Tryz.prog.info? 3).map (·.size)=some 1:=by kernel_rfl
theorem guI : Tryz.prog.underlying 24=some (.slice 3):=by kernel_rfl
theorem Wi (v:Int) : Fn Tryz.prog 125 [.sl (Is [v]),.i .i64 1] (.d (.sl (Is [v]))):=by
 refine Fn.of (rs:=[.tmp 4]) (nt:=48) Tryz.func125 rfl rfl rfl (by simp) rfl ?_;refine .seq ?_;refine .region ?_;refine asn ?_;refine rn ?_;refine .gh (Gh.keep [0,1,4] rfl) ?_;refine .seq ?_;refine .seq ?_;refine .region ?_;refine vk (Ac) ?_;refine vk (vbi) ?_;refine rn ?_;refine .gh (Gh.keep [0,1,4,10] rfl) ?_;refine cnf (show decide ((1:Int)<0)=false from rfl) ?_;refine .skip ?_;refine aw ?_;refine .seq ?_;refine .region ?_;refine vk (Ac) ?_;refine vk (A0 (Af _) (Bv _) Bp) ?_;refine vk (Mp (q1:=.i64) 1 (wul v) (by kernel_rfl) (by kernel_rfl)) ?_;refine vk (Ac) ?_;refine vk (Mp (q1:=.i64) 1 wu1 (by kernel_rfl) (by kernel_rfl)) ?_;refine vk (VOK.tupd (vs:=[.i .u64 0,.i .u64 1]) (Ai (U2 (.inr rfl)) Tryz.call162)) ?_;refine vk (Ac) ?_;refine vk (vex) ?_;refine vk (vex) ?_;refine asd ?_;refine asd ?_;refine rn ?_;refine .gh (Gh.keep [0,4,5,6] rfl) ?_;refine .seq ?_;refine .seq ?_;refine .region ?_;refine vk (Ac) ?_;refine vk (vbi) ?_;refine vk (VOK.lit (Ac) (show decide ((0:Int)<0)=false from rfl)) ?_;refine vk (Ac) ?_;refine vk (vbi) ?_;refine vk (Aq) ?_;refine rn ?_;refine .gh (Gh.keep [0,4,6,26] rfl) ?_;refine cnf (show decide ((9223372036854775807:Int)<1)=false from rfl) ?_;refine .skip ?_;refine aw ?_;refine .seq ?_;refine .region ?_;refine vk (Ac) ?_;refine vk (Mp (q1:=.u64) 1 wi1 (by kernel_rfl) (by kernel_rfl)) ?_
 refine mk' (F:=Is) (x0:=0) (zl:=1) 1 JB rfl (by omega) ?_ DE (by decide)
 refine aso ?_;refine rn ?_;refine .gh (Gh.keep [0,4,7] rfl) ?_;refine .seq ?_;refine .region ?_;refine mvo ?_;refine vk (Ac) ?_
 refine cp1 (s:=7) ?_ guI gcS (by kernel_rfl)
 refine asd ?_;refine rn ?_;refine .gh (Gh.keep [4,7,8] rfl) ?_;refine .seq ?_;refine .block ?_
 refine .loop (.round ?_)
 refine .seq ?_;refine .seq ?_;refine .region ?_;refine vk (Ac) ?_;refine mvo ?_;refine vk (Xq Bp) ?_;refine vk (vbi) ?_;refine rn ?_;refine .gh (Gh.keep [4,7,8,37] rfl) ?_;refine cnf (show decide ((1:Int)<(1:Int))=false from rfl) ?_;refine .exit ?_;refine aw ?_;refine .gh (Gh.keep [4,7] rfl) ?_;refine .seq ?_;refine .region ?_;refine fz (p:=.t 7) ?_;refine vk (Ac) ?_;refine asd ?_;refine rn ?_;refine .gh (Gh.keep [4] rfl) ?_;refine .ret ?_
 exact ⟨rfl,rfl⟩
theorem Wp (v:Int) : Fn Tryz.prog 125 [.sl (Is [v]),.i .i64 0] (.d (.sl (Is []))):=by
 refine Fn.of (rs:=[.tmp 4]) (nt:=48) Tryz.func125 rfl rfl rfl (by simp) rfl ?_;refine .seq ?_;refine .region ?_;refine asn ?_;refine rn ?_;refine .gh (Gh.keep [0,1,4] rfl) ?_;refine .seq ?_;refine .seq ?_;refine .region ?_;refine vk (Ac) ?_;refine vk (vbi) ?_;refine rn ?_;refine .gh (Gh.keep [0,1,4,10] rfl) ?_;refine cnf (show decide ((0:Int)<0)=false from rfl) ?_;refine .skip ?_;refine aw ?_;refine .seq ?_;refine .region ?_;refine vk (Ac) ?_;refine vk (A0 (Af _) (Bv _) Bp) ?_;refine vk (Mp (q1:=.i64) 1 (wul v) (by kernel_rfl) (by kernel_rfl)) ?_;refine vk (Ac) ?_;refine vk (Mp (q1:=.i64) 0 wu0 (by kernel_rfl) (by kernel_rfl)) ?_;refine vk (VOK.tupd (vs:=[.i .u64 0,.i .u64 0]) (Ai (U2 (.inl rfl)) Tryz.call162)) ?_;refine vk (Ac) ?_;refine vk (vex) ?_;refine vk (vex) ?_;refine asd ?_;refine asd ?_;refine rn ?_;refine .gh (Gh.keep [0,4,5,6] rfl) ?_;refine .seq ?_;refine .seq ?_;refine .region ?_;refine vk (Ac) ?_;refine vk (vbi) ?_;refine vk (VOK.lit (Ac) (show decide ((0:Int)<0)=false from rfl)) ?_;refine vk (Ac) ?_;refine vk (vbi) ?_;refine vk (Aq) ?_;refine rn ?_;refine .gh (Gh.keep [0,4,6,26] rfl) ?_;refine cnf (show decide ((9223372036854775807:Int)<0)=false from rfl) ?_;refine .skip ?_;refine aw ?_;refine .seq ?_;refine .region ?_;refine vk (Ac) ?_;refine vk (Mp (q1:=.u64) 0 wi0 (by kernel_rfl) (by kernel_rfl)) ?_
 refine mk' (F:=Is) (x0:=0) (zl:=0) 0 JB rfl (by omega) ?_ DE (by decide)
 refine aso ?_;refine rn ?_;refine .gh (Gh.keep [0,4,7] rfl) ?_;refine .seq ?_;refine .region ?_;refine mvo ?_;refine vk (Ac) ?_
 refine cp0 (s:=7) ?_ guI gcS
 refine asd ?_;refine rn ?_;refine .gh (Gh.keep [4,7,8] rfl) ?_;refine .seq ?_;refine .block ?_
 refine .loop (.round ?_)
 refine .seq ?_;refine .seq ?_;refine .region ?_;refine vk (Ac) ?_;refine mvo ?_;refine vk (Xq Bp) ?_;refine vk (vbi) ?_;refine rn ?_;refine .gh (Gh.keep [4,7,8,37] rfl) ?_;refine cnf (show decide ((0:Int)<(0:Int))=false from rfl) ?_;refine .exit ?_;refine aw ?_;refine .gh (Gh.keep [4,7] rfl) ?_;refine .seq ?_;refine .region ?_;refine fz (p:=.t 7) ?_;refine vk (Ac) ?_;refine asd ?_;refine rn ?_;refine .gh (Gh.keep [4] rfl) ?_;refine .ret ?_
 exact ⟨rfl,rfl⟩
def VU (xs:List Int) (n:Int) : Option (List Int):=match xs with
 | [v]=>if n=0 then some [] else if n=1 then some [v] else none
 | _=>none
theorem V0 {xs:List Int} {n:Int} {r:List Int} (h:VU xs n=some r) : Fn Tryz.prog 125 [.sl (Is xs),.i .i64 n] (.d (.sl (Is r))):=by
 unfold VU at h
 split at h
 ·rename_i v
  by_cases h0:n=0
  ·subst h0
   rw [if_pos rfl] at h
   cases h
   exact Wp v
  rw [if_neg h0] at h
  by_cases h1:n=1
  ·subst h1
   rw [if_pos rfl] at h
   cases h
   exact Wi v
  ·rw [if_neg h1] at h;cases h
 ·cases h
def EQ (a0:Int) : Option (Bool):=((LO (⟨#[226,141,180,44,226,141,170,226,134,145,226,134,147,226,140,189,226,138,150,226,141,137,47,226,140,191,92,226,141,128]⟩ : ByteArray) a0).bind fun x1=>(some (x1)))
theorem Ki {a0:Int} {r:Bool} (h:EQ a0=some r) :
  Fn Tryz.prog 171 [.i .i32 a0] (.d (.b r)):=by
 unfold EQ at h
 refine Fn.o1 2 5 Tryz.func171 ?_;refine .sr ?_;refine ar [0,2] ?_;refine .sr ?_;refine va ?_
 obtain ⟨x1,g1,h⟩:=bnd h
 refine vk (Ai (MN g1) Tryz.call94) ?_;refine ar [2] ?_;refine .ret ?_
 cases h
 exact ⟨rfl,rfl⟩
def EZ (a0:(Int×RT×Int)) (a1:Int) (a2:Arr) (a3:Arr) : Option (Arr×Int):=((EQ a1).bind fun x1=>(if x1=true then ((FN a0 ([a2,a3])).bind fun x2=>(if x2=true then (if a1=9076 then none else (if a1=8593 then ((CM a2 a3).bind fun x3=>(some (x3.1,x3.2))) else (if a1=8595 then none else (if a1=9033 then none else none)))) else (some ((Arr.mk [] []),22)))) else (some ((Arr.mk [] []),23))))
theorem L6 {a0:(Int×RT×Int)} {a1:Int} {a2:Arr} {a3:Arr} {r:Arr×Int} (h:EZ a0 a1 a2 a3=some r) :
  Fn Tryz.prog 126 [.ag [.i .i64 a0.1,.b a0.2.1.1,.sl (L a0.2.1.2.1),.sl (L a0.2.1.2.2),.i .i64 a0.2.2],.i .i32 a1,.ag [.sl (Is a2.shape),.sl (Its a2.items)],.ag [.sl (Is a3.shape),.sl (Its a3.items)]] (.tup [.d (.ag [.sl (Is r.1.shape),.sl (Its r.1.items)]),.d (.i .i64 r.2)]):=by
 unfold EZ at h
 refine Fn.ofC (rs:=[.cell 8 27,.tmp 9]) (nt:=80) Tryz.func126 rfl rfl rfl (by simp) rfl ?_;refine .sr ?_;refine vk vbx ?_;refine vk vbx ?_;refine vk vbx ?_;refine vk (van (Ah AI) AK) ?_;refine ar [1,4,6,7,8,9] ?_;refine .seq ?_;refine .block ?_;refine .sr ?_;refine va ?_
 obtain ⟨x1,g1,h⟩:=bnd h
 refine vk (Ai (Ki g1) Tryz.call171) ?_;refine vk vnt ?_;refine ar [1,4,6,7,8,9,12] ?_
 rcases brc h with ⟨hc,h⟩|⟨hc,h⟩
 ·refine cnf (ntf hc) ?_
  refine .sr ?_;refine vk (Ao Jx IM) ?_;refine vk (Ao Ae Aa) ?_;refine vk (Ao Ae Aa) ?_;refine vk ((EI (Si a2 a3) (Gx [a2,a3]) HX).deep) ?_
  obtain ⟨x2,g2,h⟩:=bnd h
  refine vk (Ai (Mt g2) Tryz.call172) ?_;refine vk vnt ?_;refine ar [1,4,6,7,8,9,17] ?_
  rcases brc h with ⟨hc,h⟩|⟨hc,h⟩
  ·refine cnf (ntf hc) ?_
   refine .sk ?_;refine .seq ?_;refine .sr ?_;refine va ?_;refine rk [1,4,6,7,8,9,25] ?_;refine .block ?_;refine .sr ?_;refine vb ?_;refine ar [1,4,6,7,8,9,25,26] ?_
   rcases brc h with ⟨hc,h⟩|⟨hc,h⟩
   ·refine cnt (dT hc) ?_
    refine .sr ?_;refine vk (Ao Ae Aa) ?_
    exact nomatch h
   refine cnf (dF hc) ?_;refine .sr ?_;refine vb ?_;refine ar [1,4,6,7,8,9,25,43] ?_
   rcases brc h with ⟨hc,h⟩|⟨hc,h⟩
   ·refine cnt (dT hc) ?_
    refine .sr ?_;refine vk (Ao Ae Aa) ?_;refine vk (Ao Ae Aa) ?_
    obtain ⟨x3,g3,h⟩:=bnd h
    refine vk (VOK.tupd (vs:=[.ag [.sl (Is x3.1.shape),.sl (Its x3.1.items)],.i .i64 x3.2]) (Ai (NJ g3) Tryz.call174)) ?_;refine vk vex ?_;refine vk vex ?_
    refine stn ?_ Aa (by decide)
    refine ar [1,6,7,8,9] ?_;refine .ret ?_
    cases h
    exact ⟨_,_,⟨.inr rfl,Ae,Aa,p2⟩,rfl,rfl⟩
   refine cnf (dF hc) ?_;refine .sr ?_;refine vb ?_;refine ar [1,4,6,7,8,9,25,50] ?_
   rcases brc h with ⟨hc,h⟩|⟨hc,h⟩
   ·refine cnt (dT hc) ?_
    refine .sr ?_;refine vk (Ao Ae Aa) ?_;refine vk (Ao Ae Aa) ?_
    exact nomatch h
   refine cnf (dF hc) ?_;refine .sr ?_;refine vb ?_;refine ar [1,4,6,7,8,9,57] ?_
   rcases brc h with ⟨hc,h⟩|⟨hc,h⟩
   ·refine cnt (dT hc) ?_
    refine .sr ?_;refine vk (Ao Jx IM) ?_;refine vk (Ao Ae Aa) ?_;refine vk (Ao Ae Aa) ?_
    exact nomatch h
   refine cnf (dF hc) ?_;refine .sk ?_;refine .seq ?_;refine .drawn 15 A3 (by kernel_rfl) ?_
   exact nomatch h
  refine cnt (ntt (bf hc)) ?_;refine .sr ?_;refine vk (vbd BW AI AK) ?_
  refine stn ?_ Aa (by decide)
  refine ar [1,4,6,7,8,9] ?_;refine .ret ?_
  cases h
  exact ⟨_,_,⟨.inr rfl,Ae,Aa,p2⟩,rfl,rfl⟩
 refine cnt (ntt (bf hc)) ?_;refine .sr ?_;refine vk (vbd BW AI AK) ?_
 refine stn ?_ Aa (by decide)
 refine ar [1,4,6,7,8,9] ?_;refine .ret ?_
 cases h
 exact ⟨_,_,⟨.inr rfl,Ae,Aa,p2⟩,rfl,rfl⟩
def B5 (a0:Arr) (K0:(List Arr)→Int→Option (Arr×Int)) : Nat→(List Arr)→Int→Int→Option (Arr×Int)
 | 0,_,_,_=>none
 | k+1,s3,s4,s5=>(if s5<((List.length a0.items:Nat):Int) then ((rd? a0.items s5).bind fun x6=>((Fl x6).bind fun x7=>((ap? 2932031007402 s3 [x7]).bind fun x8=>(B5 a0 K0 k x8 (if s4<((List.length x7.shape:Nat):Int) then ((List.length x7.shape:Nat):Int) else s4) (w64 (s5+1)))))) else (K0 s3 s4))
def B3 (s12:(List Arr)) (x20:Arr) (x21:Arr) (x19:(List Int)) (s14:Int) (K4:(List Arr)→(List Int)→Option (Arr×Int)) : Nat→(List Int)→Int→Option (Arr×Int)
 | 0,_,_=>none
 | k+1,s22,s23=>(if s23<((List.length x21.shape:Nat):Int) then ((rd? x21.shape s23).bind fun x24=>((rd? s22 s23).bind fun x25=>((rd? s22 s23).bind fun x26=>(B3 s12 x20 x21 x19 s14 K4 k (List.set s22 (Int.toNat s23) (if x25<x24 then x24 else x25)) (w64 (s23+1)))))) else (K4 (List.set s12 (Int.toNat s14) (Arr.mk x19 x20.items)) s22))
def BF (z1:(List Arr)) (z2:Int) (K2:(List Arr)→(List Int)→Option (Arr×Int)) : Nat→(List Arr)→(List Int)→Int→Option (Arr×Int)
 | 0,_,_,_=>none
 | k+1,s12,s13,s14=>(if s14<((List.length z1:Nat):Int) then (jn (fun (z15:(List Arr)) (z16:(List Int))=>(BF z1 z2 K2 k z15 z16 (w64 (s14+1)))) fun K4=>((VF (List.length z1) s12 s14).bind fun x17=>((VU ([1]) (w64 (z2-((List.length x17.shape:Nat):Int)))).bind fun x18=>((A1 ([x18,x17.shape])).bind fun x19=>((rd? s12 s14).bind fun x20=>((rd? (List.set s12 (Int.toNat s14) (Arr.mk x19 x20.items)) s14).bind fun x21=>(B3 s12 x20 x21 x19 s14 K4 AC s13 0))))))) else (K2 s12 s13))
def B4 (z2:Int) (z10:(List Arr)) (z11:(List Int)) (x27:(List Int)) (x28:Int×Int) (K6:Arr→Int→(List Itm)→Option (Arr×Int)) : Nat→Arr→Int→(List Itm)→Int→Option (Arr×Int)
 | 0,_,_,_,_=>none
 | k+1,s32,s33,s34,s35=>(if s35<((List.length z10:Nat):Int) then ((rd? z10 s35).bind fun x36=>(jn (fun (z37:Arr)=>(if x28.1=0 then ((Dp z37).bind fun x40=>((AM x27 ([x40])).bind fun x41=>(some (x41.1,x41.2)))) else ((ap? 1466015503701 s34 z37.items).bind fun x42=>(B4 z2 z10 z11 x27 x28 K6 k s32 s33 x42 (w64 (s35+1)))))) fun K8=>(if 0<z2 then ((G0 z11).bind fun x38=>((EZ (0,(false,[],[]),0) 8593 x38 x36).bind fun x39=>(if x39.2=0 then (K8 x39.1) else (some ((Arr.mk [] []),x39.2))))) else (K8 x36)))) else (K6 s32 s33 s34))
def DN (a0:Arr) : Option (Arr×Int):=(jn (fun (z1:(List Arr)) (z2:Int)=>((Fp (0≤z2∧z2≤17592186044416)).bind fun x9=>(jn (fun (z10:(List Arr)) (z11:(List Int))=>((A1 ([a0.shape,z11])).bind fun x27=>((C7 x27).bind fun x28=>(if x28.2=0 then (jn (fun (z29:Arr) (z30:Int) (z31:(List Itm))=>((AM x27 z31).bind fun x43=>(some (x43.1,x43.2)))) fun K6=>(B4 z2 z10 z11 x27 x28 K6 AC (Arr.mk [] []) 0 [] 0)) else (some ((Arr.mk [] []),x28.2)))))) fun K2=>(BF z1 z2 K2 AC z1 (List.replicate (Int.toNat z2) (0:Int)) 0)))) fun K0=>(B5 a0 K0 AC [] 0 0))
set_option maxHeartbeats 4000000 in
theorem Li {a0:Arr} {r:Arr×Int} (h:DN a0=some r) :
  Fn Tryz.prog 65 [.ag [.sl (Is a0.shape),.sl (Its a0.items)]] (.tup [.d (.ag [.sl (Is r.1.shape),.sl (Its r.1.items)]),.d (.i .i64 r.2)]):=by
 unfold DN at h
 refine Fn.ofC (rs:=[.cell 2 27,.tmp 3]) (nt:=140) Tryz.func65 rfl rfl rfl (by simp) rfl ?_;refine .sr ?_;refine vk vbx ?_;refine vk (van (Ah AI) AK) ?_;refine ar [1,2,3] ?_;refine .sr ?_;refine asn ?_;refine rk [1,2,3,4] ?_;refine .sr ?_;refine ar [1,2,3,4,5] ?_;refine .seq ?_;refine .sr ?_;refine vk (vfa A4) ?_;refine vk (Aj BL) ?_;refine vk (A0 (Az _) (Cu _) Ct) ?_;refine va ?_;refine rk [1,2,3,4,5,22,23,24] ?_
 obtain ⟨K0,hK0,h⟩:=AE h
 refine AW.mr (σ:=(List Arr)×Int) (fun p=>K0 p.1 p.2=some r) (fun p=>[(1,.d (.ptr [.sl (Is a0.shape),.sl (Its a0.items)])),(2,.nb [.sl (Is []),.sl (Its [])]),(3,.d (.i .i64 0)),(4,.own 27 (Ars p.1)),(5,.d (.i .i64 p.2))]) (fun p=>[]) ?_ ?_
 ·skip
  refine .block ?_;refine .gh (Gh.nlOwn (t:=4) 27 (by rw [TW];decide) rfl) ?_
  refine .loop (.gk [1,2,3,4,5,22,23,24] ?_)
  refine AL.ind (σ:=Nat×(List Arr)×Int×Int) (m:=fun p=>p.1) (e:=fun p=>[(1,.d (.ptr [.sl (Is a0.shape),.sl (Its a0.items)])),(2,.nb [.sl (Is []),.sl (Its [])]),(3,.d (.i .i64 0)),(4,.own 27 (Ars p.2.1)),(5,.d (.i .i64 p.2.2.1)),(22,.d (.sl (Its a0.items))),(23,.d (.i .i64 ((List.length a0.items:Nat):Int))),(24,.d (.i .i64 p.2.2.2))]) (h:=fun p=>[]) (I:=fun p=>B5 a0 K0 p.1 p.2.1 p.2.2.1 p.2.2.2=some r) ?_ (AC,[],0,0) h
  rintro ⟨k,s3,s4,s5⟩ h ih
  dsimp only at h ih ⊢
  rcases k with _|k
  ·rw [B5] at h;cases h
  rw [B5] at h
  refine .sr ?_;refine vb ?_;refine rk [1,2,3,4,5,22,23,24,25] ?_;refine .seq ?_
  rcases brc h with ⟨hc,h⟩|⟨hc,h⟩
  ·refine cnt (dT hc) ?_
   refine .sk ?_;refine .seq ?_;refine .block ?_;refine .sr ?_
   obtain ⟨x6,g6,h⟩:=bnd h
   obtain ⟨n6,p06,q6⟩:=Ag g6
   refine vk (vix n6 p06 (Cw q6) rfl Cl) ?_;refine vk (Ao AP Au) ?_;refine vk (van (Ah B6) B2) ?_
   refine stn ?_ Au (by decide)
   refine rk [1,2,3,4,5,7,22,23,24] ?_;refine .sr ?_;refine vk (DF AP Au) ?_
   obtain ⟨x7,g7,h⟩:=bnd h
   refine vk (Ai (NK g7) Tryz.call26) ?_;refine vk (van (Ah AI) AK) ?_
   refine stn ?_ Aa (by decide)
   refine rk [1,2,3,4,5,8,22,23,24] ?_;refine .sr ?_;refine mvo ?_;refine vk (DF Ae Aa) ?_;refine vk ((EI (Kr x7) (Gx [x7]) HX).deep) ?_
   obtain ⟨x8,g8,h⟩:=bnd h
   refine OO Sn g8 Uz ?_ OP A6 HX
   refine aso ?_;refine rk [1,2,3,4,5,8,22,23,24] ?_;refine .gh (Gh.nbp (t:=8) rfl) ?_;refine .region ?_;refine va ?_;refine vk (vfa AJ) ?_;refine vk (Aj Bl) ?_;refine vk (A0 (Af _) (Bv _) Bp) ?_;refine vk vmx ?_;refine asd ?_;refine .nil ?_;refine aw ?_;refine .gk [1,2,3,4,5,22,23,24] ?_;refine .region ?_;refine vb ?_;refine va ?_;refine .nil ?_;refine AL.gk [1,2,3,4,5,22,23,24] ?_
   exact ih (k,x8,(if s4<((List.length x7.shape:Nat):Int) then ((List.length x7.shape:Nat):Int) else s4),(w64 (s5+1))) h (Nat.lt_succ_self _)
  refine cnf (dF hc) ?_;refine .gk [1,2,3,4,5] ?_;refine .exit ?_
  exact jr (s3,s4) h
 rintro ⟨z1,z2⟩ h
 try dsimp only at h ⊢
 subst hK0
 refine aw ?_;refine .sr ?_;refine va ?_
 obtain ⟨x9,g9,h⟩:=bnd h
 have ghx9:=Ey g9
 refine mk' (F:=Is) (x0:=0) (zl:=z2) (Int.toNat z2) JB (by omega) (by omega) ?_ DE (by decide)
 refine aso ?_;refine rk [1,2,3,4,5,9] ?_;refine .seq ?_;refine .sr ?_;refine mvo ?_;refine vk (Sg (A6 _) D0) ?_;refine va ?_;refine rk [1,2,3,4,5,9,42,43,44] ?_
 obtain ⟨K2,hK2,h⟩:=AE h
 refine AW.mr (σ:=(List Arr)×(List Int)) (fun p=>K2 p.1 p.2=some r) (fun p=>[(1,.d (.ptr [.sl (Is a0.shape),.sl (Its a0.items)])),(2,.nb [.sl (Is []),.sl (Its [])]),(3,.d (.i .i64 0)),(4,.own 27 (Ars p.1)),(5,.d (.i .i64 z2)),(9,.own 3 (Is p.2))]) (fun p=>[]) ?_ ?_
 ·skip
  refine .block ?_
  refine .loop (.gk [1,2,3,4,5,9,42,43,44] ?_)
  refine AL.ind (σ:=Nat×(List Arr)×(List Int)×Int) (m:=fun p=>p.1) (e:=fun p=>[(1,.d (.ptr [.sl (Is a0.shape),.sl (Its a0.items)])),(2,.nb [.sl (Is []),.sl (Its [])]),(3,.d (.i .i64 0)),(4,.own 27 (Ars p.2.1)),(5,.d (.i .i64 z2)),(9,.own 3 (Is p.2.2.1)),(42,.ref (.t 4) 0 (Ars z1).length),(43,.d (.i .i64 ((List.length z1:Nat):Int))),(44,.d (.i .i64 p.2.2.2))]) (h:=fun p=>[]) (I:=fun p=>BF z1 z2 K2 p.1 p.2.1 p.2.2.1 p.2.2.2=some r) ?_ (AC,z1,(List.replicate (Int.toNat z2) (0:Int)),0) h
  rintro ⟨k,s12,s13,s14⟩ h ih
  dsimp only at h ih ⊢
  rcases k with _|k
  ·rw [BF] at h;cases h
  rw [BF] at h
  refine .sr ?_;refine vb ?_;refine rk [1,2,3,4,5,9,42,43,44,45] ?_;refine .seq ?_
  rcases brc h with ⟨hc,h⟩|⟨hc,h⟩
  ·refine cnt (dT hc) ?_
   refine .sk ?_
   obtain ⟨K4,hK4,h⟩:=AE h
   refine AW.mj (σ:=(List Arr)×(List Int)) (fun p=>K4 p.1 p.2=some r) (fun p=>[(1,.d (.ptr [.sl (Is a0.shape),.sl (Its a0.items)])),(2,.nb [.sl (Is []),.sl (Its [])]),(3,.d (.i .i64 0)),(4,.own 27 (Ars p.1)),(5,.d (.i .i64 z2)),(9,.own 3 (Is p.2)),(42,.ref (.t 4) 0 (Ars z1).length),(43,.d (.i .i64 ((List.length z1:Nat):Int))),(44,.d (.i .i64 s14))]) (fun p=>[]) ?_ ?_
   ·skip
    refine .block ?_;refine .sr ?_;refine va ?_
    obtain ⟨x17,g17,h⟩:=bnd h
    obtain ⟨n17,p017,q17,hlx17⟩:=Uk g17
    refine ixr (off:=0) (len:=(Ars z1).length) n17 p017 (by rw [A6];exact hlx17) ?_ Di (by decide)
    refine vk (YB (i:=0+n17) (xs:=Ars s12) [.sl (Is x17.shape),.sl (Its x17.items)] (by rw [Nat.zero_add];exact Df q17) (by simp [DV.cells]) Ae Aa rfl) ?_;refine vk (van (Ah AI) AK) ?_;refine asd ?_
    refine stn ?_ Aa (by decide)
    refine rk [1,2,3,4,5,9,10,11,42,43,44] ?_;refine .seq ?_;refine .gh (Gh.nbp (t:=11) rfl) ?_;refine .drawn 15 A3 (by kernel_rfl) ?_;refine dv Ej ?_;refine dv Ac ?_;refine dv ((FE (Ed [1]) DE).deep) ?_;refine dv Ac ?_;refine dv (vfa AJ) ?_;refine dv (Aj Bl) ?_;refine dv (A0 (Af _) (Bv _) Bp) ?_;refine dv vbi ?_
    obtain ⟨x18,g18,h⟩:=bnd h
    refine dv (Ai (V0 g18) Tryz.call125) ?_;refine dv (vfa AJ) ?_;refine dv (Aj Bl) ?_;refine dv ((FE (MK [x18,x17.shape]) Rz).deep) ?_
    obtain ⟨x19,g19,h⟩:=bnd h
    refine dv (Ai (C2 g19) Tryz.call100) ?_
    obtain ⟨x20,g20,h⟩:=bnd h
    obtain ⟨n20,p020,q20⟩:=Ag g20
    refine dv (FK (off:=0) (len:=(Ars s12).length) n20 p020 (by rw [A6];exact (lS.1 q20).1) Di (by decide)) ?_;refine dv (Zb (j:=0) (e:=27) AJ (by decide) (by rw [Aa];decide)) ?_;refine dz ?_
    refine stF (F:=Ars) (zs:=[.sl (Is x20.shape),.sl (Its x20.items)]) (us:=s12) (n:=n20) (m:=Int.toNat s14) (j:=0) (x:=(Arr.mk x19 x20.items)) (Vi (Arr.dv_eq (Arr.mk x19 x20.items)).symm) (by rw [p020];rfl) (by rw [Nat.zero_add];exact Df q20) rfl ?_ Px
    refine RL.gk [1,2,3,4,5,9,10,11,42,43,44,49,50,51,52,53,54,55,56,57,58,59,60,61] ?_;refine rk [1,2,3,4,5,9,10,42,43,44] ?_;refine .sr ?_;refine mvo ?_;refine va ?_
    obtain ⟨x21,g21,h⟩:=bnd h
    obtain ⟨n21,p021,q21⟩:=Ag g21
    refine ixr (off:=0) (len:=(Ars (List.set s12 (Int.toNat s14) (Arr.mk x19 x20.items))).length) n21 p021 (by rw [A6];exact (lS.1 q21).1) ?_ Di (by decide)
    refine fae (j:=0) (e:=27) ?_ AJ (by decide) (by rw [Aa];decide)
    refine vk (G7 (i:=0+n21) (j:=0) (xs:=Ars (List.set s12 (Int.toNat s14) (Arr.mk x19 x20.items))) (.sl (Is x21.shape)) ⟨_,by rw [Nat.zero_add];exact Df q21,rfl⟩ Bl) ?_;refine vk (A0 (Af _) (Bv _) Bp) ?_;refine va ?_;refine rk [1,2,3,4,5,9,42,43,44,68,69,70] ?_;refine .block ?_
    refine .loop (.gk [1,2,3,4,5,9,42,43,44,68,69,70] ?_)
    refine AL.ind (σ:=Nat×(List Int)×Int) (m:=fun p=>p.1) (e:=fun p=>[(1,.d (.ptr [.sl (Is a0.shape),.sl (Its a0.items)])),(2,.nb [.sl (Is []),.sl (Its [])]),(3,.d (.i .i64 0)),(4,.own 27 (Ars (List.set s12 (Int.toNat s14) (Arr.mk x19 x20.items)))),(5,.d (.i .i64 z2)),(9,.own 3 (Is p.2.1)),(42,.ref (.t 4) 0 (Ars z1).length),(43,.d (.i .i64 ((List.length z1:Nat):Int))),(44,.d (.i .i64 s14)),(68,.d (.sl (Is x21.shape))),(69,.d (.i .i64 ((List.length x21.shape:Nat):Int))),(70,.d (.i .i64 p.2.2))]) (h:=fun p=>[]) (I:=fun p=>B3 s12 x20 x21 x19 s14 K4 p.1 p.2.1 p.2.2=some r) ?_ (AC,s13,0) h
    rintro ⟨k,s22,s23⟩ h ih
    dsimp only at h ih ⊢
    rcases k with _|k
    ·rw [B3] at h;cases h
    rw [B3] at h
    refine .sr ?_;refine vb ?_;refine rk [1,2,3,4,5,9,42,43,44,68,69,70,71] ?_;refine .seq ?_
    rcases brc h with ⟨hc,h⟩|⟨hc,h⟩
    ·refine cnt (dT hc) ?_
     refine .sk ?_;refine .seq ?_;refine .block ?_;refine .sr ?_;refine va ?_
     obtain ⟨x24,g24,h⟩:=bnd h
     obtain ⟨n24,p024,q24⟩:=Ag g24
     refine vk (vix n24 p024 (Be q24) rfl A9) ?_;refine vk (Aj AF) ?_;refine asd ?_;refine ar [1,2,3,4,5,9,12,13,42,43,44,68,69,70] ?_;refine .region ?_;refine mvo ?_;refine va ?_;refine mvo ?_;refine va ?_
     obtain ⟨x25,g25,h⟩:=bnd h
     obtain ⟨n25,p025,q25⟩:=Ag g25
     refine ixr (off:=0) (len:=(Is s22).length) n25 p025 (by rw [Af];exact (lS.1 q25).1) ?_ A9 (by decide)
     refine vk (G7 (i:=0+n25) (j:=0) (xs:=Is s22) (.i .i64 x25) ⟨_,by rw [Nat.zero_add];exact Be q25,rfl⟩ AF) ?_;refine va ?_;refine vk vmx ?_
     obtain ⟨x26,g26,h⟩:=bnd h
     obtain ⟨n26,p026,q26⟩:=Ag g26
     refine ixr (off:=0) (len:=(Is s22).length) n26 p026 (by rw [Af];exact (lS.1 q26).1) ?_ A9 (by decide)
     refine OX (F:=Is) (D:=fun x=>.i .i64 x) Fk (us:=s22) (n:=n26) (m:=Int.toNat s23) (x:=(if x25<x24 then x24 else x25)) (by rw [p026];rfl) ⟨_,by rw [Nat.zero_add];exact Be q26,rfl⟩ ?_ C6
     refine RL.gk [1,2,3,4,5,9,12,13,42,43,44,68,69,70,75,76,77,78,80,81,82] ?_;refine .nil ?_;refine aw ?_;refine .gk [1,2,3,4,5,9,42,43,44,68,69,70] ?_;refine .region ?_;refine vb ?_;refine va ?_;refine .nil ?_;refine AL.gk [1,2,3,4,5,9,42,43,44,68,69,70] ?_
     exact ih (k,(List.set s22 (Int.toNat s23) (if x25<x24 then x24 else x25)),(w64 (s23+1))) h (Nat.lt_succ_self _)
    refine cnf (dF hc) ?_;refine .gk [1,2,3,4,5,9,42,43,44] ?_;refine .exit ?_
    exact jr ((List.set s12 (Int.toNat s14) (Arr.mk x19 x20.items)),s22) h
   rintro ⟨z15,z16⟩ h
   try dsimp only at h ⊢
   subst hK4
   refine .region ?_;refine vb ?_;refine va ?_;refine .nil ?_;refine AL.gk [1,2,3,4,5,9,42,43,44] ?_
   exact ih (k,z15,z16,(w64 (s14+1))) h (Nat.lt_succ_self _)
  refine cnf (dF hc) ?_;refine .gk [1,2,3,4,5,9] ?_;refine .exit ?_
  exact jr (s12,s13) h
 rintro ⟨z10,z11⟩ h
 try dsimp only at h ⊢
 subst hK2
 refine aw ?_;refine .sr ?_;refine vk (vfa AJ) ?_;refine vk (Aj Bl) ?_;refine fz (p:=.t 9) ?_;refine va ?_;refine vk ((FE (MK [a0.shape,z11]) Rz).deep) ?_
 obtain ⟨x27,g27,h⟩:=bnd h
 refine vk (Ai (C2 g27) Tryz.call100) ?_;refine ar [2,3,4,5,9,14] ?_;refine .sr ?_;refine va ?_
 obtain ⟨x28,g28,h⟩:=bnd h
 refine vk (VOK.tupd (vs:=[.i .i64 x28.1,.i .i64 x28.2]) (Ai (DP g28) Tryz.call56)) ?_;refine va ?_;refine vk vex ?_;refine vk vex ?_;refine asd ?_;refine ar [2,3,4,5,9,14,15,16] ?_;refine .seq ?_;refine .sr ?_;refine va ?_;refine vb ?_;refine rk [2,3,4,5,9,14,15,16,97] ?_
 rcases brc h with ⟨hc,h⟩|⟨hc,h⟩
 ·refine cnf (ntf (dT hc)) ?_
  refine .sk ?_;refine .sr ?_;refine asn ?_;refine rk [2,3,4,5,9,14,15,17] ?_;refine .seq ?_;refine .sr ?_;refine mvo ?_;refine vk (Sg (A6 _) D0) ?_;refine va ?_;refine rk [2,3,4,5,9,14,15,17,100,101,102] ?_
  obtain ⟨K6,hK6,h⟩:=AE h
  refine AW.mr (σ:=Arr×Int×(List Itm)) (fun p=>K6 p.1 p.2.1 p.2.2=some r) (fun p=>[(2,.nb [.sl (Is p.1.shape),.sl (Its p.1.items)]),(3,.d (.i .i64 p.2.1)),(14,.d (.sl (Is x27))),(17,.own 51 (Its p.2.2))]) (fun p=>[]) ?_ ?_
  ·skip
   refine .block ?_;refine .gh (Gh.swap (s:=4) (t:=100) rfl rfl rfl) ?_;refine .gh (Gh.frz (p:=.t 100) rfl (by (intro _ _ h;cases h<;>decide))) ?_;refine .gh (Gh.nlOwn (t:=17) 51 (by rw [Le];decide) rfl) ?_
   refine .loop (.gk [2,3,5,9,14,15,17,100,101,102] ?_)
   refine AL.ind (σ:=Nat×Arr×Int×(List Itm)×Int) (m:=fun p=>p.1) (e:=fun p=>[(2,.nb [.sl (Is p.2.1.shape),.sl (Its p.2.1.items)]),(3,.d (.i .i64 p.2.2.1)),(5,.d (.i .i64 z2)),(9,.d (.sl (Is z11))),(14,.d (.sl (Is x27))),(15,.d (.i .i64 x28.1)),(17,.own 51 (Its p.2.2.2.1)),(100,.d (.sl (Ars z10))),(101,.d (.i .i64 ((List.length z10:Nat):Int))),(102,.d (.i .i64 p.2.2.2.2))]) (h:=fun p=>[]) (I:=fun p=>B4 z2 z10 z11 x27 x28 K6 p.1 p.2.1 p.2.2.1 p.2.2.2.1 p.2.2.2.2=some r) ?_ (AC,(Arr.mk [] []),0,[],0) h
   rintro ⟨k,s32,s33,s34,s35⟩ h ih
   dsimp only at h ih ⊢
   rcases k with _|k
   ·rw [B4] at h;cases h
   rw [B4] at h
   refine .sr ?_;refine vb ?_;refine rk [2,3,5,9,14,15,17,100,101,102,103] ?_;refine .seq ?_
   rcases brc h with ⟨hc,h⟩|⟨hc,h⟩
   ·refine cnt (dT hc) ?_
    refine .sk ?_;refine .seq ?_;refine .block ?_;refine .sr ?_
    obtain ⟨x36,g36,h⟩:=bnd h
    obtain ⟨n36,p036,q36⟩:=Ag g36
    refine vk (vix n36 p036 (Df q36) rfl Di) ?_;refine vk (Ao Ae Aa) ?_;refine vk (van (Ah AI) AK) ?_
    refine stn ?_ Aa (by decide)
    refine rk [2,3,5,9,14,15,17,19,100,101,102] ?_;refine .sr ?_;refine vk (DF Ae Aa) ?_;refine vk (van (Ah AI) AK) ?_
    refine stn ?_ Aa (by decide)
    refine rk [2,3,5,9,14,15,17,19,20,100,101,102] ?_;refine .seq ?_;refine .sr ?_;refine va ?_;refine vb ?_;refine rk [2,3,5,9,14,15,17,19,20,100,101,102,108] ?_
    obtain ⟨K8,hK8,h⟩:=AE h
    refine AW.mr (σ:=Arr) (fun p=>K8 p=some r) (fun p=>[(2,.nb [.sl (Is s32.shape),.sl (Its s32.items)]),(3,.d (.i .i64 s33)),(5,.d (.i .i64 z2)),(9,.d (.sl (Is z11))),(14,.d (.sl (Is x27))),(15,.d (.i .i64 x28.1)),(17,.own 51 (Its s34)),(20,.nb [.sl (Is p.shape),.sl (Its p.items)]),(100,.d (.sl (Ars z10))),(101,.d (.i .i64 ((List.length z10:Nat):Int))),(102,.d (.i .i64 s35))]) (fun p=>[]) ?_ ?_
    ·skip
     rcases brc h with ⟨hc,h⟩|⟨hc,h⟩
     ·refine cnt (dT hc) ?_
      refine .seq ?_
      obtain ⟨x38,g38,h⟩:=bnd h
      obtain ⟨x39,g39,h⟩:=bnd h
      refine .drawnF 8 [7] [(20,.nb [.sl (Is x39.1.shape),.sl (Its x39.1.items)])] [] A3 (by kernel_rfl) rfl ?_;refine dv (vbd W6 VE TR) ?_;refine dv Ac ?_;refine dv (Ai (Gn g38) Tryz.call15) ?_;refine dv (DF Ae Aa) ?_;refine dv (VOK.tupd (vs:=[.ag [.sl (Is x39.1.shape),.sl (Its x39.1.items)],.i .i64 x39.2]) (Ai (L6 g39) Tryz.call126)) ?_;refine dv Ac ?_;refine dv vex ?_;refine dv vex ?_;refine dz ?_
      refine ⟨?_,?_,?_⟩
      ·intro k hk
       simp only [List.mem_cons,List.not_mem_nil,or_false] at hk
       subst hk
       exact ⟨_,_,_,rfl,rfl,rfl,rfl,rfl,rfl,vex⟩
      ·intro om e hom hge
       cases hom
       exact Hy (cs:=[.sl (Is x36.shape),.sl (Its x36.items)]) (cs':=[.sl (Is x39.1.shape),.sl (Its x39.1.items)]) Aa (by decide) rfl ((hge 20 (fun k hk v hv=>by
         simp only [List.mem_cons,List.not_mem_nil,or_false] at hk
         subst hk;exact (by decide:¬(some 116=some 20)) (congrArg (Option.map Prod.fst) hv))).trans rfl) ((congrArg Bo (hge 115 (fun k hk v hv=>by
         simp only [List.mem_cons,List.not_mem_nil,or_false] at hk
         subst hk;exact (by decide:¬(some 116=some 115)) (congrArg (Option.map Prod.fst) hv)))).trans rfl) rfl rfl rfl rfl ⟨rfl,rfl⟩
      refine ar [2,3,5,9,14,15,16,17,20,100,101,102] ?_;refine .sr ?_;refine va ?_;refine vb ?_;refine rk [2,3,5,9,14,15,16,17,20,100,101,102,118] ?_
      rcases brc h with ⟨hc,h⟩|⟨hc,h⟩
      ·refine cnf (ntf (dT hc)) ?_
       refine .gk [2,3,5,9,14,15,17,20,100,101,102] ?_;refine .skip ?_
       exact jr (x39.1) h
      refine cnt (ntt (dF hc)) ?_;refine .sr ?_;refine vk (vbd BW AI AK) ?_;refine va ?_
      refine stn ?_ Aa (by decide)
      refine ar [2,3,5,9,14,15,17,20,100,101,102] ?_;refine .ret ?_
      cases h
      exact ⟨_,_,⟨.inr rfl,Ae,Aa,p2⟩,rfl,rfl⟩
     refine cnf (dF hc) ?_;refine .gk [2,3,5,9,14,15,17,20,100,101,102] ?_;refine .skip ?_
     exact jr (x36) h
    rintro z37 h
    try dsimp only at h ⊢
    subst hK8
    refine aw ?_;refine .seq ?_;refine .sr ?_;refine va ?_;refine vb ?_;refine rk [2,3,5,9,14,15,17,20,100,101,102,122] ?_
    rcases brc h with ⟨hc,h⟩|⟨hc,h⟩
    ·refine cnt (dT hc) ?_
     refine .sr ?_;refine va ?_;refine vk (DF Ae Aa) ?_
     obtain ⟨x40,g40,h⟩:=bnd h
     refine vk (Ai (ID g40) Tryz.call66) ?_;refine vk ((EI (EW x40) (D7 [x40]) De).deep) ?_
     obtain ⟨x41,g41,h⟩:=bnd h
     refine vk (VOK.tupd (vs:=[.ag [.sl (Is x41.1.shape),.sl (Its x41.1.items)],.i .i64 x41.2]) (Ai (DO g41) Tryz.call18)) ?_;refine vk vex ?_;refine vk vex ?_
     refine stn ?_ Aa (by decide)
     refine ar [2,3,5,9,14,15,17,20,100,101,102] ?_;refine .ret ?_
     cases h
     exact ⟨_,_,⟨.inr rfl,Ae,Aa,p2⟩,rfl,rfl⟩
    refine cnf (dF hc) ?_;refine .sk ?_;refine .gh (Gh.nbp (t:=20) rfl) ?_;refine .region ?_;refine mvo ?_;refine vk (vfa A4) ?_;refine vk (Aj BL) ?_
    obtain ⟨x42,g42,h⟩:=bnd h
    refine OO GY g42 IU ?_ Fy Az De
    refine aso ?_;refine .nil ?_;refine aw ?_;refine .gk [2,3,5,9,14,15,17,100,101,102] ?_;refine .region ?_;refine vb ?_;refine va ?_;refine .nil ?_;refine AL.gk [2,3,5,9,14,15,17,100,101,102] ?_
    exact ih (k,s32,s33,x42,(w64 (s35+1))) h (Nat.lt_succ_self _)
   refine cnf (dF hc) ?_;refine .gk [2,3,14,17] ?_;refine .exit ?_
   exact jr (s32,s33,s34) h
  rintro ⟨z29,z30,z31⟩ h
  try dsimp only at h ⊢
  subst hK6
  refine aw ?_;refine .sr ?_;refine va ?_;refine fz (p:=.t 17) ?_;refine va ?_
  obtain ⟨x43,g43,h⟩:=bnd h
  refine vk (VOK.tupd (vs:=[.ag [.sl (Is x43.1.shape),.sl (Its x43.1.items)],.i .i64 x43.2]) (Ai (DO g43) Tryz.call18)) ?_;refine vk vex ?_;refine vk vex ?_
  refine stn ?_ Aa (by decide)
  refine ar [2,3] ?_;refine .ret ?_
  cases h
  exact ⟨_,_,⟨.inr rfl,Ae,Aa,p2⟩,rfl,rfl⟩
 refine cnt (ntt (dF hc)) ?_;refine .sr ?_;refine vk (vbd BW AI AK) ?_;refine va ?_
 refine stn ?_ Aa (by decide)
 refine ar [2,3,4,5,9,14,15] ?_;refine .ret ?_
 cases h
 exact ⟨_,_,⟨.inr rfl,Ae,Aa,p2⟩,rfl,rfl⟩
def Dq (a0:(Int×RT×Int)) (a1:Int) (a2:Arr) : Option (Arr×Int):=((E7 a1).bind fun x1=>(if x1=true then ((ED a0 ([a2])).bind fun x2=>(if x2=true then ((Dn a2).bind fun x3=>(if a1=8834 then none else (if a1=8835 then ((DN a2).bind fun x4=>(some (x4.1,x4.2))) else (if a1=8593 then (jn (((rd? x3 0).bind fun x5=>none)) fun K0=>(if ((List.length x3:Nat) : Int)=0 then none else (K0))) else (if a1=8714 then none else (jn (fun (z6:Bool)=>(if z6=true then (if ((List.length a2.shape:Nat) : Int)=1 then ((JP a0 x3 (SY [(9035,1),(9042,(-1))] a1)).bind fun x7=>(some (x7,0))) else (some ((Arr.mk [] []),4))) else (if a1=8746 then (if 1<((List.length a2.shape:Nat) : Int) then (some ((Arr.mk [] []),4)) else none) else (if a1=8801 then none else (if a1=8802 then none else none))))) fun K1=>(if a1=9035 then (K1 (decide (a1=9035))) else (K1 (decide (a1=9042)))))))))) else (some ((Arr.mk [] []),22)))) else (some ((Arr.mk [] []),23))))
theorem Ii {a0:(Int×RT×Int)} {a1:Int} {a2:Arr} {r:Arr×Int} (h:Dq a0 a1 a2=some r) :
  Fn Tryz.prog 19 [.ag [.i .i64 a0.1,.b a0.2.1.1,.sl (L a0.2.1.2.1),.sl (L a0.2.1.2.2),.i .i64 a0.2.2],.i .i32 a1,.ag [.sl (Is a2.shape),.sl (Its a2.items)]] (.tup [.d (.ag [.sl (Is r.1.shape),.sl (Its r.1.items)]),.d (.i .i64 r.2)]):=by
 unfold Dq at h
 refine Fn.ofC (rs:=[.cell 6 27,.tmp 7]) (nt:=121) Tryz.func19 rfl rfl rfl (by simp) rfl ?_;refine .sr ?_;refine vk vbx ?_;refine vk vbx ?_;refine vk (van (Ah AI) AK) ?_;refine ar [1,3,5,6,7] ?_;refine .seq ?_;refine .block ?_;refine .sr ?_;refine va ?_
 obtain ⟨x1,g1,h⟩:=bnd h
 refine vk (Ai (Ke g1) Tryz.call64) ?_;refine vk vnt ?_;refine ar [1,3,5,6,7,9] ?_
 rcases brc h with ⟨hc,h⟩|⟨hc,h⟩
 ·refine cnf (ntf hc) ?_
  refine .sr ?_;refine vk (Ao Jx IM) ?_;refine vk (Ao Ae Aa) ?_;refine vk ((EI (Kr a2) (Gx [a2]) HX).deep) ?_
  obtain ⟨x2,g2,h⟩:=bnd h
  refine vk (Ai (Jv g2) Tryz.call39) ?_;refine vk vnt ?_;refine ar [1,3,5,6,7,14] ?_
  rcases brc h with ⟨hc,h⟩|⟨hc,h⟩
  ·refine cnf (ntf hc) ?_
   refine .sk ?_;refine .sr ?_;refine vk (Ao Ae Aa) ?_
   obtain ⟨x3,g3,h⟩:=bnd h
   refine vk (Ai (GH g3) Tryz.call46) ?_;refine ar [1,3,5,6,7,8] ?_;refine .seq ?_;refine .sr ?_;refine va ?_;refine rk [1,3,5,6,7,8,23] ?_;refine .block ?_;refine .sr ?_;refine vb ?_;refine ar [1,3,5,6,7,8,23,24] ?_
   rcases brc h with ⟨hc,h⟩|⟨hc,h⟩
   ·refine cnt (dT hc) ?_
    refine .sr ?_;refine vk (Ao Ae Aa) ?_
    exact nomatch h
   refine cnf (dF hc) ?_;refine .sr ?_;refine vb ?_;refine ar [1,3,5,6,7,8,23,32] ?_
   rcases brc h with ⟨hc,h⟩|⟨hc,h⟩
   ·refine cnt (dT hc) ?_
    refine .sr ?_;refine vk (Ao Ae Aa) ?_
    obtain ⟨x4,g4,h⟩:=bnd h
    refine vk (VOK.tupd (vs:=[.ag [.sl (Is x4.1.shape),.sl (Its x4.1.items)],.i .i64 x4.2]) (Ai (Li g4) Tryz.call65)) ?_;refine vk vex ?_;refine vk vex ?_
    refine stn ?_ Aa (by decide)
    refine ar [3,5,6,7] ?_;refine .ret ?_
    cases h
    exact ⟨_,_,⟨.inr rfl,Ae,Aa,p2⟩,rfl,rfl⟩
   refine cnf (dF hc) ?_;refine .sr ?_;refine vb ?_;refine ar [1,3,5,6,7,8,23,38] ?_
   rcases brc h with ⟨hc,h⟩|⟨hc,h⟩
   ·refine cnt (dT hc) ?_
    refine .seq ?_;refine .sr ?_;refine va ?_;refine vk (A0 (Az _) (Cu _) Ct) ?_;refine vb ?_;refine rk [3,5,6,7,8,42] ?_
    obtain ⟨K0,hK0,h⟩:=AE h
    refine AW.mr (σ:=Unit) (fun p=>K0=some r) (fun p=>[(3,.d (.ptr [.i .i64 a0.1,.b a0.2.1.1,.sl (L a0.2.1.2.1),.sl (L a0.2.1.2.2),.i .i64 a0.2.2])),(5,.d (.ptr [.sl (Is a2.shape),.sl (Its a2.items)])),(6,.nb [.sl (Is []),.sl (Its [])]),(7,.d (.i .i64 0)),(8,.d (.sl (Its x3)))]) (fun p=>[]) ?_ ?_
    ·skip
     rcases brc h with ⟨hc,h⟩|⟨hc,h⟩
     ·refine cnt (dT hc) ?_
      refine .region ?_;refine vk (Ao Ae Aa) ?_
      exact nomatch h
     refine cnf (dF hc) ?_;refine .gk [3,5,6,7,8] ?_;refine .skip ?_
     exact jr () h
    rintro _ h
    subst hK0
    refine aw ?_;refine .sr ?_;refine va ?_
    obtain ⟨x5,g5,h⟩:=bnd h
    obtain ⟨n5,p05,q5⟩:=Ag g5
    refine vk (vix n5 p05 (Cw q5) rfl Cl) ?_;refine vk (Ao AP Au) ?_
    exact nomatch h
   refine cnf (dF hc) ?_;refine .sr ?_;refine vb ?_;refine ar [1,3,5,6,7,8,23,50] ?_
   rcases brc h with ⟨hc,h⟩|⟨hc,h⟩
   ·refine cnt (dT hc) ?_
    refine .seq ?_;refine .drawn 13 A3 (by kernel_rfl) ?_;refine dv Ac ?_
    exact nomatch h
   refine cnf (dF hc) ?_;refine .seq ?_;refine .sr ?_;refine vb ?_;refine ar [1,3,5,6,7,8,23,65] ?_
   obtain ⟨K1,hK1,h⟩:=AE h
   refine AW.mr (σ:=Bool) (fun p=>K1 p=some r) (fun p=>[(1,.d (.i .i32 a1)),(3,.d (.ptr [.i .i64 a0.1,.b a0.2.1.1,.sl (L a0.2.1.2.1),.sl (L a0.2.1.2.2),.i .i64 a0.2.2])),(5,.d (.ptr [.sl (Is a2.shape),.sl (Its a2.items)])),(6,.nb [.sl (Is []),.sl (Its [])]),(7,.d (.i .i64 0)),(8,.d (.sl (Its x3))),(23,.d (.i .i32 a1)),(65,.d (.b p))]) (fun p=>[]) ?_ ?_
   ·skip
    rcases brc h with ⟨hc,h⟩|⟨hc,h⟩
    ·refine cnt (dT hc) ?_
     refine .gk [1,3,5,6,7,8,23,65] ?_;refine .skip ?_
     exact jr ((decide (a1=9035))) h
    refine cnf (dF hc) ?_;refine .region ?_;refine vb ?_;refine asd ?_;refine RL.gk [1,3,5,6,7,8,23,65] ?_;refine .nil ?_
    exact jr ((decide (a1=9042))) h
   rintro z6 h
   try dsimp only at h ⊢
   subst hK1
   refine aw ?_
   rcases brc h with ⟨hc,h⟩|⟨hc,h⟩
   ·refine cnt hc ?_
    refine .seq ?_;refine .sr ?_;refine vk (vfa AJ) ?_;refine vk (Aj Bl) ?_;refine vk (A0 (Af _) (Bv _) Bp) ?_;refine vb ?_;refine rk [1,3,5,6,7,8,71] ?_
    rcases brc h with ⟨hc,h⟩|⟨hc,h⟩
    ·refine cnf (ntf (dT hc)) ?_
     refine .sk ?_;refine .sr ?_;refine vk (Ao Jx IM) ?_;refine va ?_;refine vk Zc ?_;refine YU Fq gkR freshK.nil ?_;refine YU Fq gkR (freshK.snoc (z:=9042) (z':=9035) freshK.nil (by decide)) ?_;refine RL.gh (Gh.omf (t:=75) rfl) ?_;refine va ?_;refine va ?_;refine vk (YC (T:=[(9035,1),(9042,(-1))]) (by decide) Fq gkR J6) ?_
     obtain ⟨x7,g7,h⟩:=bnd h
     refine vk (Ai (Nz g7) Tryz.call70) ?_
     refine stn ?_ Aa (by decide)
     refine ar [3,5,6,7] ?_;refine .ret ?_
     cases h
     exact ⟨_,_,⟨.inr rfl,Ae,Aa,p2⟩,rfl,rfl⟩
    refine cnt (ntt (dF hc)) ?_;refine .sr ?_;refine vk (vbd BW AI AK) ?_
    refine stn ?_ Aa (by decide)
    refine ar [1,3,5,6,7,8] ?_;refine .ret ?_
    cases h
    exact ⟨_,_,⟨.inr rfl,Ae,Aa,p2⟩,rfl,rfl⟩
   refine cnf (bf hc) ?_;refine .sr ?_;refine vb ?_;refine ar [3,5,6,7,8,23,80] ?_
   rcases brc h with ⟨hc,h⟩|⟨hc,h⟩
   ·refine cnt (dT hc) ?_
    refine .seq ?_;refine .sr ?_;refine vk (vfa AJ) ?_;refine vk (Aj Bl) ?_;refine vk (A0 (Af _) (Bv _) Bp) ?_;refine vb ?_;refine rk [3,5,6,7,8,85] ?_
    rcases brc h with ⟨hc,h⟩|⟨hc,h⟩
    ·refine cnt (dT hc) ?_
     refine .sr ?_;refine vk (vbd BW AI AK) ?_
     refine stn ?_ Aa (by decide)
     refine ar [3,5,6,7,8] ?_;refine .ret ?_
     cases h
     exact ⟨_,_,⟨.inr rfl,Ae,Aa,p2⟩,rfl,rfl⟩
    exact nomatch h
   refine cnf (dF hc) ?_;refine .sr ?_;refine vb ?_;refine ar [3,5,6,7,23,95] ?_
   rcases brc h with ⟨hc,h⟩|⟨hc,h⟩
   ·refine cnt (dT hc) ?_
    refine .sr ?_;refine vk (Ao Ae Aa) ?_
    exact nomatch h
   refine cnf (dF hc) ?_;refine .sr ?_;refine vb ?_;refine ar [3,5,6,7,100] ?_
   rcases brc h with ⟨hc,h⟩|⟨hc,h⟩
   ·exact nomatch h
   refine cnf (dF hc) ?_;refine .sk ?_;refine .sr ?_;refine vk (Ao Jx IM) ?_;refine vk (Ao Ae Aa) ?_
   exact nomatch h
  refine cnt (ntt (bf hc)) ?_;refine .sr ?_;refine vk (vbd BW AI AK) ?_
  refine stn ?_ Aa (by decide)
  refine ar [1,3,5,6,7] ?_;refine .ret ?_
  cases h
  exact ⟨_,_,⟨.inr rfl,Ae,Aa,p2⟩,rfl,rfl⟩
 refine cnt (ntt (bf hc)) ?_;refine .sr ?_;refine vk (vbd BW AI AK) ?_
 refine stn ?_ Aa (by decide)
 refine ar [1,3,5,6,7] ?_;refine .ret ?_
 cases h
 exact ⟨_,_,⟨.inr rfl,Ae,Aa,p2⟩,rfl,rfl⟩
theorem VD {α:Type} {x:α} {l:List α} : rd? (x::l) 0=some x:=UV (i:=0) rfl
def E2 (r:List Itm) : Itm:=.mk 3 (false,[],[]) 0 [vec r]
theorem Vh {z n:Int} {xs:List Itm} (h:Gg z) : CY (Iq [z]) (.mk [n] xs)=some ([z],.mk [n] xs,0):=by
 have hn:C4 (Iq [z])=some ([z],0):=by
  unfold C4
  rw [Rq (l:=[z]) (by simp),if_neg (by simp),Nw (l:=[z]) (by simpa using h)];rfl
 unfold CY
 rw [hn,oB,Cn,if_pos rfl]
 rfl
theorem X1 {z n:Int} {xs:List Itm} (h:Gg z) : CM (Iq [z]) (.mk [n] xs)=CM (.mk [] [Fg z]) (.mk [n] xs):=by
 unfold CM
 rw [Vh h,JZ h]
theorem Vd : EQ 8593=some true:=by kernel_rfl
theorem VW {r:List Itm} (h:VR r) {w:Nat} (hw:r.length=w) : EZ (0,(false,[],[]),0) 8593 (Iq [(w:Int)]) (vec r)=some (vec r,0):=by
 have h2:=h.2.1
 have hp:=h.pos
 have h64:Gg (w:Int):=⟨by omega,by omega⟩
 have oz:=OJ (l:=[(w:Int)]) (by simpa using h64)
 have rz:=JF (l:=[(w:Int)]) (by simpa using h64)
 have ht:=US h (z:=w) (by omega)
 have e:OQ r w=vec r:=by
  unfold OQ
  rw [if_neg (by omega),List.take_of_length_le (by omega)]
 rw [e] at ht
 unfold EZ
 rw [Vd,oB,if_pos rfl,Us (.inl rfl) (by simp) (by simp [oz,h.ok]),oB,if_pos (by simp [rz,h.2.2.2]),if_neg (show ¬((8593:Int)=9076) by decide),if_pos rfl]
 have e2:CM (Iq [(w:Int)]) (vec r)=some (vec r,0):=(X1 h64).trans ht
 rw [e2];rfl
section
variable {rows:List (List Itm)} {w:Nat}
theorem Ut (hv:∀ r∈rows,VR r) (ho:∀ r∈rows,okI (E2 r)∧BX (E2 r)) (hl:rows.length≤4096) (K:List Arr→Int→Option (Arr×Int)) : ∀ (m i k:Nat) (t:List Arr),m=rows.length-i→i≤rows.length→m<k→t=(rows.take i).map vec →
  B5 (vec (rows.map E2)) K k t (if i=0 then 0 else 1) (i:Int)=K (rows.map vec) (if rows.length=0 then 0 else 1)
 | m,i,0,t,_,_,h,_=>by omega
 | m,i,k+1,t,hm,hi,hk,ht=>by
  rw [B5]
  have hlen:(vec (rows.map E2)).items.length=rows.length:=by simp [vec,Arr.items]
  by_cases hlt:i<rows.length
  ·have hx:rd? (vec (rows.map E2)).items (i:Int)=some (E2 rows[i]):=UV (by simp [vec,Arr.items,hlt])
   have hm':=List.getElem_mem hlt
   have hop:Fl (E2 rows[i])=some (vec rows[i]):=(Wc (ho _ hm').1 (ho _ hm').2).trans rfl
   have hs:(if (if i=0 then (0:Int) else 1)<((List.length (vec rows[i]).shape:Nat):Int) then ((List.length (vec rows[i]).shape:Nat):Int) else (if i=0 then (0:Int) else 1))=(if i+1=0 then 0 else 1):=by
    rw [if_neg (show ¬(i+1=0) by omega),show ((List.length (vec rows[i]).shape:Nat):Int)=1 from rfl]
    by_cases h0:i=0
    ·rw [if_pos h0];rfl
    ·rw [if_neg h0];rfl
   rw [if_pos (by rw [hlen];omega),hx,oB,hop,oB,GN (by rw [ht];simp;omega),oB,hs,Cr (by omega)]
   exact Ut hv ho hl K (m-1) (i+1) k _ (by omega) (by omega) (by omega) (by rw [ht,List.take_succ_eq_append_getElem hlt,List.map_append];rfl)
  ·have:i=rows.length:=by omega
   rw [if_neg (by rw [hlen];omega),ht,List.take_of_length_le (by omega),this]
theorem Vw (hv:∀ r∈rows,VR r) (hw:∀ r∈rows,r.length=w) (hw4:w≤4096) (hl:rows.length≤4096) (K:List Arr→List Int→Option (Arr×Int)) : ∀ (m i k:Nat),m=rows.length-i→i≤rows.length→m<k →
  BF (rows.map vec) 1 K k (rows.map vec) [if i=0 then (0:Int) else (w:Int)] (i:Int)=K (rows.map vec) [if rows.length=0 then (0:Int) else (w:Int)]
 | m,i,0,_,_,h=>by omega
 | m,i,k+1,hm,hi,hk=>by
  rw [BF,List.length_map]
  by_cases hlt:i<rows.length
  ·have hm':=List.getElem_mem hlt
   have hwi:=hw _ hm'
   have hlt2:i<(rows.map vec).length:=by rw [List.length_map];exact hlt
   have hg:(rows.map vec)[i]=vec rows[i]:=List.getElem_map _
   have hx:rd? (rows.map vec) (i:Int)=some (vec rows[i]):=by rw [CD hlt2,hg]
   have hx2:VF rows.length (rows.map vec) (i:Int)=some (vec rows[i]):=by unfold VF;rw [if_pos (by omega)];exact hx
   have hrep:VU [1] (w64 (1-((List.length (vec rows[i]).shape:Nat):Int)))=some []:=rfl
   have hc:A1 [[],(vec rows[i]).shape]=some [(w:Int)]:=by
    have:=LA (a:=[]) (b:=(vec rows[i]).shape) (by simp [vec,Arr.shape])
    rw [this,List.nil_append]
    show some [((rows[i].length:Nat):Int)]=_
    rw [hwi]
   have hmk:Arr.mk [(w:Int)] (vec rows[i]).items=vec rows[i]:=by unfold vec;rw [hwi];rfl
   have hset:List.set (rows.map vec) (Int.toNat (i:Int)) (Arr.mk [(w:Int)] (vec rows[i]).items)=rows.map vec:=by
    rw [hmk,Int.toNat_natCast,← hg,List.set_getElem_self]
   obtain ⟨f,hf⟩:=UG 2
   have hsh:(vec rows[i]).shape=[(w:Int)]:=by show [((rows[i].length:Nat):Int)]=_;rw [hwi]
   rw [if_pos (by omega),Cn,hx2,oB,hrep,oB,hc,oB,hx,oB,hset,hx,oB,hf,B3,hsh,if_pos (by simp),VD,oB,VD,oB,oB,B3,hsh,if_neg (by rw [show w64 (0+1)=1 from rfl];simp),hset,Cr (by omega)]
   have hmx:List.set [if i=0 then (0:Int) else (w:Int)] (Int.toNat 0) (if (if i=0 then (0:Int) else (w:Int))<(w:Int) then (w:Int) else (if i=0 then (0:Int) else (w:Int)))=[if i+1=0 then (0:Int) else (w:Int)]:=by
    rw [if_neg (show ¬(i+1=0) by omega)]
    show [_]=[_]
    congr 1
    by_cases h0:i=0
    ·rw [if_pos h0];split<;>omega
    ·rw [if_neg h0];split<;>omega
   rw [hmx]
   exact Vw hv hw hw4 hl K (m-1) (i+1) k (by omega) (by omega) (by omega)
  ·have:i=rows.length:=by omega
   rw [if_neg (by omega),this]
theorem VC (hv:∀ r∈rows,VR r) (hw:∀ r∈rows,r.length=w) (hw4:w≤4096) (hl:rows.length≤4096) {N:Int} (hN:N≠0) (hT:rows.flatten.length≤4096) (x27:List Int) (K:Arr→Int→List Itm→Option (Arr×Int)) (u:Arr) (v:Int) : ∀ (m i k:Nat) (t:List Itm),m=rows.length-i→i≤rows.length→m<k→t=(rows.take i).flatten →
  B4 1 (rows.map vec) [(w:Int)] x27 (N,0) K k u v t (i:Int)=K u v rows.flatten
 | m,i,0,t,_,_,h,_=>by omega
 | m,i,k+1,t,hm,hi,hk,ht=>by
  rw [B4,List.length_map]
  by_cases hlt:i<rows.length
  ·have hm':=List.getElem_mem hlt
   have hwi:=hw _ hm'
   have hlt2:i<(rows.map vec).length:=by rw [List.length_map];exact hlt
   have hx:rd? (rows.map vec) (i:Int)=some (vec rows[i]):=by rw [CD hlt2,List.getElem_map]
   have e1:(rows.take (i+1)).flatten=t++rows[i]:=by rw [ht,List.take_succ_eq_append_getElem hlt,List.flatten_append];simp
   have hle:t.length+rows[i].length≤4096:=by
    have:((rows.take (i+1)).flatten++(rows.drop (i+1)).flatten).length≤4096:=by rw [← List.flatten_append,List.take_append_drop];exact hT
    rw [e1,List.length_append,List.length_append] at this
    omega
   have hI:G0 [(w:Int)]=some (Iq [(w:Int)]):=S1 (by simp [Gg];omega) (by simp)
   rw [if_pos (by omega),hx,oB,Cn,if_pos (by decide),hI,oB,VW (hv _ hm') hwi,oB,if_pos rfl]
   dsimp only
   rw [if_neg hN,show (vec rows[i]).items=rows[i] from rfl,GN (by omega),oB,Cr (by omega)]
   exact VC hv hw hw4 hl hN hT x27 K u v (m-1) (i+1) k _ (by omega) (by omega) (by omega) e1.symm
  ·have:i=rows.length:=by omega
   rw [if_neg (by omega),ht,this,List.take_of_length_le (Nat.le_refl _)]
theorem Qo (h0:rows≠[]) (hv:∀ r∈rows,VR r) (ho:∀ r∈rows,okI (E2 r)∧BX (E2 r)) (hw:∀ r∈rows,r.length=w) (w0:0<w) (hN:rows.length * w≤4096) (hT:rows.flatten.length=rows.length * w) {r:Arr} {e:Int} (hr:AM [(rows.length:Int),(w:Int)] rows.flatten=some (r,e)) :
  DN (vec (rows.map E2))=some (r,e):=by
 have hR:=List.length_pos_iff.2 h0
 have hRl:rows.length≤4096:=nT (Nat.le_mul_of_pos_right _ w0) hN
 have hwl:w≤4096:=nT (Nat.le_mul_of_pos_left _ hR) hN
 have hNp:0<rows.length * w:=Nat.mul_pos hR w0
 have hsz:szP [(rows.length:Int),(w:Int)]=(((rows.length * w:Nat):Int),0):=by
  have:=Ru (t:=[rows.length,w]) (by simp) (by simp;omega) (by simp [pr];omega)
  rw [show up_ [rows.length,w]=[(rows.length:Int),(w:Int)] from rfl] at this
  rw [this];simp [pr]
 have ne:¬(rows.length=0):=by omega
 unfold DN
 have a1:=fun K=>Ut hv ho hRl K rows.length 0 AC [] rfl (Nat.zero_le _) (B9 (by omega)) rfl
 have a3:=fun K=>Vw hv hw hwl hRl K rows.length 0 AC rfl (Nat.zero_le _) (B9 (by omega))
 have a7:=fun K u v=>VC hv hw hwl hRl (N:=((rows.length * w:Nat):Int)) (by omega) (by omega) [(rows.length:Int),(w:Int)] K u v rows.length 0 AC [] rfl (Nat.zero_le _) (B9 (by omega)) rfl
 simp only [if_neg ne,if_true,show ((0:Nat):Int)=0 from rfl] at a1 a3 a7
 have hsh:(vec (rows.map E2)).shape=[(rows.length:Int)]:=by simp [vec,Arr.shape]
 have hc:A1 [[(rows.length:Int)],[(w:Int)]]=some [(rows.length:Int),(w:Int)]:=LA (by simp)
 rw [Cn,a1,MO (by decide),oB,Cn]
 show (BF (rows.map vec) 1 _ AC (rows.map vec) [0] 0)=_
 rw [a3,hsh,hc,oB,Jd (by simp),hsz,oB,if_pos rfl,Cn,a7,hr];rfl
end
def IS (a0:(Int×RT×Int)) (a1:Int) (a2:Arr) (a3:Arr) : Option (Arr×Int):=((G5 a1).bind fun x1=>(if x1=true then ((ED a0 ([a2,a3])).bind fun x2=>(if x2=true then (if a1=8835 then none else (if a1=8868 then ((Iu a2 a3).bind fun x3=>(some (x3.1,x3.2))) else (if a1=8869 then none else (jn (fun (z4:Bool)=>(if z4=true then none else (if a1=9075 then none else (if a1=8714 then none else (if a1=9015 then none else none))))) fun K0=>(if a1=8801 then (K0 (decide (a1=8801))) else (K0 (decide (a1=8802)))))))) else (some ((Arr.mk [] []),22)))) else (some ((Arr.mk [] []),23))))
theorem MJ {a0:(Int×RT×Int)} {a1:Int} {a2:Arr} {a3:Arr} {r:Arr×Int} (h:IS a0 a1 a2 a3=some r) :
  Fn Tryz.prog 13 [.ag [.i .i64 a0.1,.b a0.2.1.1,.sl (L a0.2.1.2.1),.sl (L a0.2.1.2.2),.i .i64 a0.2.2],.i .i32 a1,.ag [.sl (Is a2.shape),.sl (Its a2.items)],.ag [.sl (Is a3.shape),.sl (Its a3.items)]] (.tup [.d (.ag [.sl (Is r.1.shape),.sl (Its r.1.items)]),.d (.i .i64 r.2)]):=by
 unfold IS at h
 refine Fn.ofC (rs:=[.cell 8 27,.tmp 9]) (nt:=92) Tryz.func13 rfl rfl rfl (by simp) rfl ?_;refine .sr ?_;refine vk vbx ?_;refine vk vbx ?_;refine vk vbx ?_;refine vk (van (Ah AI) AK) ?_;refine ar [1,4,6,7,8,9] ?_;refine .seq ?_;refine .block ?_;refine .sr ?_;refine va ?_
 obtain ⟨x1,g1,h⟩:=bnd h
 refine vk (Ai (Ld g1) Tryz.call38) ?_;refine vk vnt ?_;refine ar [1,4,6,7,8,9,11] ?_
 rcases brc h with ⟨hc,h⟩|⟨hc,h⟩
 ·refine cnf (ntf hc) ?_
  refine .sr ?_;refine vk (Ao Jx IM) ?_;refine vk (Ao Ae Aa) ?_;refine vk (Ao Ae Aa) ?_;refine vk ((EI (Si a2 a3) (Gx [a2,a3]) HX).deep) ?_
  obtain ⟨x2,g2,h⟩:=bnd h
  refine vk (Ai (Jv g2) Tryz.call39) ?_;refine vk vnt ?_;refine ar [1,4,6,7,8,9,16] ?_
  rcases brc h with ⟨hc,h⟩|⟨hc,h⟩
  ·refine cnf (ntf hc) ?_
   refine .sk ?_;refine .seq ?_;refine .sr ?_;refine va ?_;refine rk [1,4,6,7,8,9,24] ?_;refine .block ?_;refine .sr ?_;refine vb ?_;refine ar [1,4,6,7,8,9,24,25] ?_
   rcases brc h with ⟨hc,h⟩|⟨hc,h⟩
   ·refine cnt (dT hc) ?_
    refine .sr ?_;refine vk (Ao Jx IM) ?_;refine vk (Ao Ae Aa) ?_;refine vk (Ao Ae Aa) ?_
    exact nomatch h
   refine cnf (dF hc) ?_;refine .sr ?_;refine vb ?_;refine ar [1,4,6,7,8,9,24,33] ?_
   rcases brc h with ⟨hc,h⟩|⟨hc,h⟩
   ·refine cnt (dT hc) ?_
    refine .sr ?_;refine vk (Ao Ae Aa) ?_;refine vk (Ao Ae Aa) ?_
    obtain ⟨x3,g3,h⟩:=bnd h
    refine vk (VOK.tupd (vs:=[.ag [.sl (Is x3.1.shape),.sl (Its x3.1.items)],.i .i64 x3.2]) (Ai (MM g3) Tryz.call41)) ?_;refine vk vex ?_;refine vk vex ?_
    refine stn ?_ Aa (by decide)
    refine ar [1,6,7,8,9] ?_;refine .ret ?_
    cases h
    exact ⟨_,_,⟨.inr rfl,Ae,Aa,p2⟩,rfl,rfl⟩
   refine cnf (dF hc) ?_;refine .sr ?_;refine vb ?_;refine ar [1,4,6,7,8,9,24,40] ?_
   rcases brc h with ⟨hc,h⟩|⟨hc,h⟩
   ·refine cnt (dT hc) ?_
    refine .sr ?_;refine vk (Ao Ae Aa) ?_;refine vk (Ao Ae Aa) ?_
    exact nomatch h
   refine cnf (dF hc) ?_;refine .seq ?_;refine .sr ?_;refine vb ?_;refine ar [1,4,6,7,8,9,24,47] ?_
   obtain ⟨K0,hK0,h⟩:=AE h
   refine AW.mr (σ:=Bool) (fun p=>K0 p=some r) (fun p=>[(1,.d (.i .i32 a1)),(4,.d (.ptr [.i .i64 a0.1,.b a0.2.1.1,.sl (L a0.2.1.2.1),.sl (L a0.2.1.2.2),.i .i64 a0.2.2])),(6,.d (.ptr [.sl (Is a2.shape),.sl (Its a2.items)])),(7,.d (.ptr [.sl (Is a3.shape),.sl (Its a3.items)])),(8,.nb [.sl (Is []),.sl (Its [])]),(9,.d (.i .i64 0)),(24,.d (.i .i32 a1)),(47,.d (.b p))]) (fun p=>[]) ?_ ?_
   ·skip
    rcases brc h with ⟨hc,h⟩|⟨hc,h⟩
    ·refine cnt (dT hc) ?_
     refine .gk [1,4,6,7,8,9,24,47] ?_;refine .skip ?_
     exact jr ((decide (a1=8801))) h
    refine cnf (dF hc) ?_;refine .region ?_;refine vb ?_;refine asd ?_;refine RL.gk [1,4,6,7,8,9,24,47] ?_;refine .nil ?_
    exact jr ((decide (a1=8802))) h
   rintro z4 h
   try dsimp only at h ⊢
   subst hK0
   refine aw ?_
   rcases brc h with ⟨hc,h⟩|⟨hc,h⟩
   ·refine cnt hc ?_
    refine .sr ?_;refine vk (Ao Ae Aa) ?_;refine vk (Ao Ae Aa) ?_
    exact nomatch h
   refine cnf (bf hc) ?_;refine .sr ?_;refine vb ?_;refine ar [1,4,6,7,8,9,24,58] ?_
   rcases brc h with ⟨hc,h⟩|⟨hc,h⟩
   ·refine cnt (dT hc) ?_
    refine .sr ?_;refine vk (Ao Jx IM) ?_;refine vk (Ao Ae Aa) ?_;refine vk (Ao Ae Aa) ?_
    exact nomatch h
   refine cnf (dF hc) ?_;refine .sr ?_;refine vb ?_;refine ar [1,4,6,7,8,9,24,66] ?_
   rcases brc h with ⟨hc,h⟩|⟨hc,h⟩
   ·exact nomatch h
   refine cnf (dF hc) ?_;refine .sr ?_;refine vb ?_;refine ar [1,4,6,7,8,9,78] ?_
   rcases brc h with ⟨hc,h⟩|⟨hc,h⟩
   ·refine cnt (dT hc) ?_
    refine .sr ?_;refine vk (Ao Jx IM) ?_;refine vk (Ao Ae Aa) ?_;refine vk (Ao Ae Aa) ?_
    exact nomatch h
   refine cnf (dF hc) ?_;refine .sk ?_;refine .sr ?_;refine va ?_;refine vk (Ao Ae Aa) ?_;refine vk (Ao Ae Aa) ?_
   exact nomatch h
  refine cnt (ntt (bf hc)) ?_;refine .sr ?_;refine vk (vbd BW AI AK) ?_
  refine stn ?_ Aa (by decide)
  refine ar [1,4,6,7,8,9] ?_;refine .ret ?_
  cases h
  exact ⟨_,_,⟨.inr rfl,Ae,Aa,p2⟩,rfl,rfl⟩
 refine cnt (ntt (bf hc)) ?_;refine .sr ?_;refine vk (vbd BW AI AK) ?_
 refine stn ?_ Aa (by decide)
 refine ar [1,4,6,7,8,9] ?_;refine .ret ?_
 cases h
 exact ⟨_,_,⟨.inr rfl,Ae,Aa,p2⟩,rfl,rfl⟩
def Fb : Option ((Int×RT×Int)):=(some ((1,(false,[],[]),0)))
theorem Ia {r:(Int×RT×Int)} (h:Fb=some r) :
  Fn Tryz.prog 14 [] (.d (.ag [.i .i64 r.1,.b r.2.1.1,.sl (L r.2.1.2.1),.sl (L r.2.1.2.2),.i .i64 r.2.2])):=by
 unfold Fb at h
 refine Fn.ofC (rs:=[.cell 0 36]) (nt:=2) Tryz.func14 rfl rfl rfl (by simp) rfl ?_;refine .sr ?_;refine vk (van (Ah VE) TR) ?_;refine rk [0] ?_;refine .sr ?_;refine vk (vbd W6 VE TR) ?_
 refine stn ?_ IM (by decide)
 refine rk [0] ?_;refine .ret ?_
 cases h
 exact ⟨_,⟨.inr rfl,Jx,IM,(by decide:(0:Nat)<5)⟩,rfl⟩
def CZ : Option (Bool):=(Fb.bind fun x1=>((G0 ([3,1,2])).bind fun x2=>((Dq x1 9035 x2).bind fun x3=>(Fb.bind fun x4=>((G0 ([10,10])).bind fun x5=>((KM 37).bind fun x6=>((IS x4 8868 x5 x6).bind fun x7=>(Option.bind ((if x3.2=0 then ((G0 ([2,3,1])).bind fun x9=>((GZ x3.1 x9).bind fun x10=>(if x10=true then (if x7.2=0 then ((G0 ([3,7])).bind fun x11=>((GZ x7.1 x11).bind fun x12=>(some x12))) else (some false)) else (some false)))) else (some false)) : Option (Bool)) fun (z8:Bool)=>(some (z8))))))))))
theorem Fz {r:Bool} (h:CZ=some r) :
  Fn Tryz.prog 16 [] (.d (.b r)):=by
 unfold CZ at h
 refine Fn.o1 0 38 Tryz.func16 ?_;refine .sr ?_;refine ar [0] ?_;refine .sr ?_
 obtain ⟨x1,g1,h⟩:=bnd h
 refine vk (Ai (Ia g1) Tryz.call14) ?_;refine vk ((FE (Ed [3,1,2]) DE).deep) ?_
 obtain ⟨x2,g2,h⟩:=bnd h
 refine vk (Ai (Gn g2) Tryz.call15) ?_
 obtain ⟨x3,g3,h⟩:=bnd h
 refine vk (VOK.tupd (vs:=[.ag [.sl (Is x3.1.shape),.sl (Its x3.1.items)],.i .i64 x3.2]) (Ai (Ii g3) Tryz.call19)) ?_;refine va ?_;refine vk vex ?_;refine vk vex ?_;refine vk (van (Ah AI) AK) ?_
 refine stn ?_ Aa (by decide)
 refine ar [0,1,2] ?_;refine .sr ?_
 obtain ⟨x4,g4,h⟩:=bnd h
 refine vk (Ai (Ia g4) Tryz.call14) ?_;refine vk ((FE (Ed [10,10]) DE).deep) ?_
 obtain ⟨x5,g5,h⟩:=bnd h
 refine vk (Ai (Gn g5) Tryz.call15) ?_
 obtain ⟨x6,g6,h⟩:=bnd h
 refine vk (Ai (OT g6) Tryz.call12) ?_
 obtain ⟨x7,g7,h⟩:=bnd h
 refine vk (VOK.tupd (vs:=[.ag [.sl (Is x7.1.shape),.sl (Its x7.1.items)],.i .i64 x7.2]) (Ai (MJ g7) Tryz.call13)) ?_;refine va ?_;refine vk vex ?_;refine vk vex ?_;refine vk (van (Ah AI) AK) ?_
 refine stn ?_ Aa (by decide)
 refine ar [0,1,2,3,4] ?_;refine .seq ?_
 obtain ⟨z8,hz,h⟩:=bnd h
 refine AW.mr (σ:=Unit) (fun _=>True) (fun _=>[(0,.d (.b z8))]) (fun _=>[]) ?_ ?_
 ·skip
  refine .drawn 18 A3 (by kernel_rfl) ?_;refine dv Ac ?_;refine dv vbi ?_
  rcases brc hz with ⟨hc,hz⟩|⟨hc,hz⟩
  ·have hb0:(decide (x3.2=0))=true:=(dT hc)
   refine dv (VOK.lit (Ac) hb0) ?_;refine dv (DF Ae Aa) ?_;refine dv ((FE (Ed [2,3,1]) DE).deep) ?_
   obtain ⟨x9,g9,hz⟩:=bnd hz
   refine dv (Ai (Gn g9) Tryz.call15) ?_
   obtain ⟨x10,g10,hz⟩:=bnd hz
   refine dv (Ai (Ir g10) Tryz.call17) ?_;refine dv Aq ?_
   rcases brc hz with ⟨hc,hz⟩|⟨hc,hz⟩
   ·have hb1:x10=true:=hc
    refine dv (VOK.lit (Ac) hb1) ?_;refine dv Ac ?_;refine dv vbi ?_;refine dv Aq ?_
    rcases brc hz with ⟨hc,hz⟩|⟨hc,hz⟩
    ·have hb2:(decide (x7.2=0))=true:=(dT hc)
     refine dv (VOK.lit (Ac) hb2) ?_;refine dv (DF Ae Aa) ?_;refine dv ((FE (Ed [3,7]) DE).deep) ?_
     obtain ⟨x11,g11,hz⟩:=bnd hz
     refine dv (Ai (Gn g11) Tryz.call15) ?_
     obtain ⟨x12,g12,hz⟩:=bnd hz
     refine dv (Ai (Ir g12) Tryz.call17) ?_;refine dv Aq ?_;refine dz ?_;refine asd ?_;refine RL.gk [0] ?_;refine .nil ?_
     cases hz
     exact jr () trivial
    have hb2:(decide (x7.2=0))=false:=(dF hc)
    refine dv (VOK.lit (Ac) hb2) ?_;refine dgf ?_;refine dgf ?_;refine dgf ?_;refine dgf ?_;refine dv Aq ?_;refine dz ?_;refine asd ?_;refine RL.gk [0] ?_;refine .nil ?_
    cases hz
    exact jr () trivial
   have hb1:x10=false:=(bf hc)
   refine dv (VOK.lit (Ac) hb1) ?_;refine dgf ?_;refine dgf ?_;refine dv Aq ?_;refine dv Ac ?_;refine dgf ?_;refine dgf ?_;refine dgf ?_;refine dgf ?_;refine dv Aq ?_;refine dz ?_;refine asd ?_;refine RL.gk [0] ?_;refine .nil ?_
   cases hz
   exact jr () trivial
  have hb0:(decide (x3.2=0))=false:=(dF hc)
  refine dv (VOK.lit (Ac) hb0) ?_;refine dgf ?_;refine dgf ?_;refine dgf ?_;refine dgf ?_;refine dv Aq ?_;refine dv Ac ?_;refine dgf ?_;refine dgf ?_;refine dv Aq ?_;refine dv Ac ?_;refine dgf ?_;refine dgf ?_;refine dgf ?_;refine dgf ?_;refine dv Aq ?_;refine dz ?_;refine asd ?_;refine RL.gk [0] ?_;refine .nil ?_
  cases hz
  exact jr () trivial
 rintro _ _
 refine .ret ?_
 cases h
 exact ⟨rfl,rfl⟩
end Go.FL
namespace Go.FL
open Go
theorem PO : CZ=some true:=by kernel_rfl
end Go.FL
