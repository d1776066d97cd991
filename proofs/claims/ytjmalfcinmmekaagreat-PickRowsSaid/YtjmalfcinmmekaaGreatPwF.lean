/-
  Part 6 of the base of the proofs: a logic of our own over the calculus, the contracts of the functions
-/
import Derived.Test.YtjmalfcinmmekaaGreatPwE
set_option linter.unusedVariables false
namespace Go.FL
open Go Go.RowKit Go.ChangeShapes Go.WideShapes Go.ChangeAt
section
variable {H:Type}
def OpF (enc:TypeId×Value→H) (P:Program) (W:World) (n:Nat) (t:TypeId) {α:Type} (F:α→List DV) (Q:α→Prop) : Prop :=
 ∀ (fuel:Nat) (cs:List Value) (x:DataW H×List MemPlace),fuel≤n→DataW.trod enc P W 0 (fun _=>true) true fuel t cs=some x→(∀ m∈DataW.weights P t x.1,m≤reachBytes) →
  ∃ a,Q a∧RepAll W (fun b=>b<W.heap.size) (F a) cs∧∀ u∈cs,u.oneCell'=true
variable {enc:TypeId×Value→H} {P:Program} {W:World}
theorem OpF.mono {n m t:Nat} {α:Type} {F:α→List DV} {Q:α→Prop} (h:OpF enc P W n t F Q) (hm:m≤n) : OpF enc P W m t F Q:=fun fuel cs x hf=>h fuel cs x (by omega)
theorem OpF.map {n t:Nat} {α β:Type} {F:α→List DV} {Q:α→Prop} {G:β→List DV} {R:β→Prop} (h:OpF enc P W n t F Q) (f:∀ a,Q a→∃ b,R b∧F a=G b) : OpF enc P W n t G R:=fun fuel cs x hf h1 h2=>by
 obtain ⟨a,q,r,c⟩:=h fuel cs x hf h1 h2
 obtain ⟨b,rb,e⟩:=f a q
 exact ⟨b,rb,e▸r,c⟩
theorem Ph {n t:Nat} {k:IntKind} (ht:P.underlying t=some (.int k)) : OpF enc P W n t (fun z:Int=>[.i k z]) (fun z=>(Lit.int k z).wf=true):=fun fuel cs x _ h _=>by
 obtain ⟨z,rfl,_,hw⟩:=DataW.trod_int ht h
 exact ⟨z,hw,.cons (.i _ _) .nil,by simp [Value.oneCell']⟩
theorem VY {n t:Nat} (ht:P.underlying t=some .bool) : OpF enc P W n t (fun z:Bool=>[.b z]) (fun _=>True):=fun fuel cs x _ h _=>by
 obtain ⟨z,rfl,_⟩:=DataW.trod_bool ht h
 exact ⟨z,trivial,.cons (.b _) .nil,by simp [Value.oneCell']⟩
theorem IN {e:TypeId} : ∀ {ds:List (DataW H)} {d:DataW H},d∈ds→∀ q∈DataW.weights P e d,q∈DataW.weightsAll P e ds
 | d::ds,d',hd,q,hq=>by
  rw [DataW.weightsAll,List.mem_append]
  rcases List.mem_cons.1 hd with rfl|hd
  ·exact .inl hq
  ·exact .inr (IN hd q hq)
theorem Kt {n t e sz:Nat} {α:Type} {F:α→List DV} {Q:α→Prop} (D:α→DV) (ht:P.underlying t=some (.slice e)) (hs:P.cellsOf e=sz) (h0:0<sz) (hD:∀ a,(D a).cells=F a) (h:OpF enc P W n e F Q) :
  OpF enc P W (n+1) t (fun xs:List α=>[.sl (xs.map D)]) (fun xs=>(∀ x∈xs,Q x)∧xs.length * P.bytesOf e≤reachBytes):=by
 intro fuel cs x hf hx hw
 rcases DataW.trod_slice ht hx with ⟨rfl,rfl⟩|⟨a,len,cap,elems,rest,m,rfl,rfl,rfl,hb,hl,hm,hlen,hel,_,_⟩
 ·exact ⟨[],⟨by simp,by simp⟩,.cons (.sl0 _ _) .nil,by simp [Value.oneCell']⟩
 ·simp only [DataW.weights,ht] at hw
  have hroom:(elems.length+rest.length) * P.bytesOf e≤reachBytes:=by
   have:=hw ((elems.length+rest.length) * P.bytesOf e) (by simp)
   exact this
  have each:∀ i,i<len→∃ vs y,W.cells? 0 (a.add (i * P.cellsOf e)) (P.cellsOf e)=some vs∧DataW.trod enc P W 0 (fun _=>true) true m e vs=some y∧∀ q∈DataW.weights P e y.1,q≤reachBytes:=by
   intro i hi
   have h1:=hel i hi
   rw [lG (show i<elems.length by omega)] at h1
   obtain ⟨vs,h2,h3⟩:=Option.bind_eq_some_iff.1 h1
   refine ⟨vs,_,h2,h3,fun q hq=>hw q ?_⟩
   simp only [List.mem_cons,List.mem_append]
   exact .inr (.inl (IN (d:=(elems[i]'(by omega)).1) (List.mem_map_of_mem (List.getElem_mem _)) q hq))
  by_cases hlen0:len=0
  ·subst hlen0
   exact ⟨[],⟨by simp,by simp⟩,.cons (.sl0 _ _) .nil,by simp [Value.oneCell']⟩
  ·obtain ⟨b,off,spot⟩:=a
   have hspot:spot=none:=by
    obtain ⟨vs,y,h1,_,_⟩:=each 0 (by omega)
    obtain ⟨_,k2,k3⟩:=World.cells?_some h1
    have h4:=k3 0 (by omega)
    rw [lG (show 0<vs.length by omega)] at h4
    simpa [Addr.add] using World.cell?_spot h4
   subst hspot
   have build:∀ j,j≤len→∃ (xs:List α) (vs:List Value),xs.length=j∧(∀ x∈xs,Q x)∧Has W b off vs∧RepRows W (fun b=>b<W.heap.size) sz (xs.map D) vs:=by
    intro j
    induction j with
    | zero=>exact fun _=>⟨[],[],rfl,by simp,fun j u hj=>by simp at hj,.nil _⟩
    | succ j ih =>
     intro hj
     obtain ⟨xs,vs,k1,k2,k3,k4⟩:=ih (by omega)
     obtain ⟨us,y,g1,g2,g3⟩:=each j (by omega)
     obtain ⟨_,g4,g5⟩:=World.cells?_some g1
     obtain ⟨x,q1,q2,q3⟩:=h m us y (by omega) g2 g3
     have hvl:=k4.length
     rw [List.length_map,k1] at hvl
     refine ⟨xs++[x],vs++us,by simp [k1],?_,?_,?_⟩
     ·intro z hz
      rcases List.mem_append.1 hz with hz|hz
      ·exact k2 z hz
      ·simp at hz;subst hz;exact q1
     ·intro i u hi
      rw [List.getElem?_append] at hi
      split at hi
      ·exact k3 i u hi
      ·rename_i hge
       have:=g5 (i-vs.length) (by have:=(lS.1 hi).1;omega)
       rw [hi] at this
       rw [← this,hs]
       have e1:off+i=off+j * sz+(i-vs.length):=by omega
       rw [e1,add_plain,add_plain]
     ·rw [List.map_append]
      refine k4.append ?_
      have:=RepRows.cons (sz:=sz) (x:=D x) (xs:=[]) (us:=us) (vs:=[]) (by omega) q3 (by rw [hD];exact q2) (.nil sz)
      simpa using this
   obtain ⟨xs,vs,k1,k2,k3,k4⟩:=build len (Nat.le_refl _)
   have hne:xs≠[]:=fun h=>by subst h;simp at k1;omega
   have hlt:b<W.heap.size:=by
    obtain ⟨us,y,g1,_,_⟩:=each 0 (by omega)
    have:=World.cells?_block g1 (by omega)
    rwa [add_plain] at this
   refine ⟨xs,⟨k2,nT (Nat.mul_le_mul_right _ (by omega)) hroom⟩,.cons ?_ .nil,by simp [Value.oneCell']⟩
   have:=Rep.sl (w:=W) (I:=fun b=>b<W.heap.size) (xs.map D) b off sz cap vs (by simpa using hne) (by rw [List.length_map,k1];exact hl) hlt h0 k3 k4
   rwa [List.length_map,k1] at this
def fTO (P:Program) (t:TypeId) : Option (List (TypeId×Nat)):=match P.underlying t with
 | some (.struct fs)=>some (fs.toList.map fun f=>(f.type,f.offset))
 | _=>none
theorem Mh {t:Nat} {l:List (TypeId×Nat)} (h:fTO P t=some l) : ∃ fs,P.underlying t=some (.struct fs)∧fs.toList.map (fun f=>(f.type,f.offset))=l:=by
 unfold fTO at h
 split at h
 ·rename_i fs hu;exact ⟨fs,hu,oI h⟩
 ·cases h
theorem Rt {α0 α1:Type} {t n:Nat} {T0 s0:Nat} {F0:α0→List DV} {Q0:α0→Prop} {T1 s1:Nat} {F1:α1→List DV} {Q1:α1→Prop} (ht:fTO P t=some [(T0,0),(T1,s0)]) (hc:P.cellsOf t=s0+s1) (z0:P.cellsOf T0=s0) (h0:OpF enc P W n T0 F0 Q0) (z1:P.cellsOf T1=s1) (h1:OpF enc P W n T1 F1 Q1) :
  OpF enc P W (n+1) t (fun a:α0×α1=>F0 a.1++(F1 a.2)) (fun a=>Q0 a.1∧Q1 a.2):=by
 intro fuel cs x hf h hw
 obtain ⟨fs,hu,hfs⟩:=Mh ht
 obtain ⟨xs,m,rfl,rfl,hl,hlen,hfield⟩:=DataW.trod_struct hu h
 have hsz:fs.size=2:=by have:=congrArg List.length hfs;simpa using this
 have hm:m≤n:=by omega
 have each:∀ (i T off:Nat),[(T0,0),(T1,s0)][i]?=some (T,off)→∃ y,DataW.trod enc P W 0 (fun _=>true) true m T ((cs.drop off).take (P.cellsOf T))=some y∧∀ q∈DataW.weights P T y.1,q≤reachBytes:=by
  intro i T off hi
  rw [← hfs] at hi
  obtain ⟨f,hf1,hf2⟩:∃ f,fs[i]?=some f∧(f.type,f.offset)=(T,off):=by
   rw [List.getElem?_map,Option.map_eq_some_iff] at hi
   obtain ⟨f,h1,h2⟩:=hi
   exact ⟨f,by simpa using h1,h2⟩
  cases hf2
  have hi2:i<xs.length:=by have:=(Array.getElem?_eq_some_iff.1 hf1).1;omega
  refine ⟨xs[i],by rw [hfield i f hf1,lG hi2],fun q hq=>hw q ?_⟩
  simp only [DataW.weights,hu]
  exact DataW.weights_mem_each (j:=i) (by simp [hf1]) (by simp [hi2]) q hq
 obtain ⟨y0,e0,w0⟩:=each 0 T0 (0) rfl
 obtain ⟨a0,q0,r0,c0⟩:=h0 m _ y0 hm e0 w0
 rw [z0] at r0 c0
 obtain ⟨y1,e1,w1⟩:=each 1 T1 (s0) rfl
 obtain ⟨a1,q1,r1,c1⟩:=h1 m _ y1 hm e1 w1
 rw [z1] at r1 c1
 have hcs:cs=(cs.drop (0)).take s0++(cs.drop (s0)).take s1:=by
  have hl2:cs.length=s0+s1:=by rw [hl,hc]
  clear each hfield h
  apply List.ext_getElem?
  intro j
  simp only [List.getElem?_append,List.getElem?_take,List.getElem?_drop,List.length_take,List.length_drop]
  repeat' split
  all_goals first|(congr 1;omega)|(rw [List.getElem?_eq_none (by omega)])
 refine ⟨(a0,a1),⟨q0,q1⟩,?_,?_⟩
 ·rw [hcs];exact (r0.append r1)
 ·intro u hu2
  rw [hcs] at hu2
  simp only [List.mem_append] at hu2
  rcases hu2 with hu2|hu2
  ·exact c0 u hu2
  ·exact c1 u hu2
theorem Rr {α0 α1 α2:Type} {t n:Nat} {T0 s0:Nat} {F0:α0→List DV} {Q0:α0→Prop} {T1 s1:Nat} {F1:α1→List DV} {Q1:α1→Prop} {T2 s2:Nat} {F2:α2→List DV} {Q2:α2→Prop} (ht:fTO P t=some [(T0,0),(T1,s0),(T2,s0+s1)]) (hc:P.cellsOf t=s0+s1+s2) (z0:P.cellsOf T0=s0) (h0:OpF enc P W n T0 F0 Q0) (z1:P.cellsOf T1=s1) (h1:OpF enc P W n T1 F1 Q1) (z2:P.cellsOf T2=s2) (h2:OpF enc P W n T2 F2 Q2) :
  OpF enc P W (n+1) t (fun a:α0×α1×α2=>F0 a.1++(F1 a.2.1++(F2 a.2.2))) (fun a=>Q0 a.1∧Q1 a.2.1∧Q2 a.2.2):=by
 intro fuel cs x hf h hw
 obtain ⟨fs,hu,hfs⟩:=Mh ht
 obtain ⟨xs,m,rfl,rfl,hl,hlen,hfield⟩:=DataW.trod_struct hu h
 have hsz:fs.size=3:=by have:=congrArg List.length hfs;simpa using this
 have hm:m≤n:=by omega
 have each:∀ (i T off:Nat),[(T0,0),(T1,s0),(T2,s0+s1)][i]?=some (T,off)→∃ y,DataW.trod enc P W 0 (fun _=>true) true m T ((cs.drop off).take (P.cellsOf T))=some y∧∀ q∈DataW.weights P T y.1,q≤reachBytes:=by
  intro i T off hi
  rw [← hfs] at hi
  obtain ⟨f,hf1,hf2⟩:∃ f,fs[i]?=some f∧(f.type,f.offset)=(T,off):=by
   rw [List.getElem?_map,Option.map_eq_some_iff] at hi
   obtain ⟨f,h1,h2⟩:=hi
   exact ⟨f,by simpa using h1,h2⟩
  cases hf2
  have hi2:i<xs.length:=by have:=(Array.getElem?_eq_some_iff.1 hf1).1;omega
  refine ⟨xs[i],by rw [hfield i f hf1,lG hi2],fun q hq=>hw q ?_⟩
  simp only [DataW.weights,hu]
  exact DataW.weights_mem_each (j:=i) (by simp [hf1]) (by simp [hi2]) q hq
 obtain ⟨y0,e0,w0⟩:=each 0 T0 (0) rfl
 obtain ⟨a0,q0,r0,c0⟩:=h0 m _ y0 hm e0 w0
 rw [z0] at r0 c0
 obtain ⟨y1,e1,w1⟩:=each 1 T1 (s0) rfl
 obtain ⟨a1,q1,r1,c1⟩:=h1 m _ y1 hm e1 w1
 rw [z1] at r1 c1
 obtain ⟨y2,e2,w2⟩:=each 2 T2 (s0+s1) rfl
 obtain ⟨a2,q2,r2,c2⟩:=h2 m _ y2 hm e2 w2
 rw [z2] at r2 c2
 have hcs:cs=(cs.drop (0)).take s0++((cs.drop (s0)).take s1++(cs.drop (s0+s1)).take s2):=by
  have hl2:cs.length=s0+s1+s2:=by rw [hl,hc]
  clear each hfield h
  apply List.ext_getElem?
  intro j
  simp only [List.getElem?_append,List.getElem?_take,List.getElem?_drop,List.length_take,List.length_drop]
  repeat' split
  all_goals first|(congr 1;omega)|(rw [List.getElem?_eq_none (by omega)])
 refine ⟨(a0,a1,a2),⟨q0,q1,q2⟩,?_,?_⟩
 ·rw [hcs];exact (r0.append (r1.append r2))
 ·intro u hu2
  rw [hcs] at hu2
  simp only [List.mem_append] at hu2
  rcases hu2 with hu2|hu2|hu2
  ·exact c0 u hu2
  ·exact c1 u hu2
  ·exact c2 u hu2
theorem RV {α0 α1 α2 α3:Type} {t n:Nat} {T0 s0:Nat} {F0:α0→List DV} {Q0:α0→Prop} {T1 s1:Nat} {F1:α1→List DV} {Q1:α1→Prop} {T2 s2:Nat} {F2:α2→List DV} {Q2:α2→Prop} {T3 s3:Nat} {F3:α3→List DV} {Q3:α3→Prop} (ht:fTO P t=some [(T0,0),(T1,s0),(T2,s0+s1),(T3,s0+s1+s2)]) (hc:P.cellsOf t=s0+s1+s2+s3) (z0:P.cellsOf T0=s0) (h0:OpF enc P W n T0 F0 Q0) (z1:P.cellsOf T1=s1) (h1:OpF enc P W n T1 F1 Q1) (z2:P.cellsOf T2=s2) (h2:OpF enc P W n T2 F2 Q2) (z3:P.cellsOf T3=s3) (h3:OpF enc P W n T3 F3 Q3) :
  OpF enc P W (n+1) t (fun a:α0×α1×α2×α3=>F0 a.1++(F1 a.2.1++(F2 a.2.2.1++(F3 a.2.2.2)))) (fun a=>Q0 a.1∧Q1 a.2.1∧Q2 a.2.2.1∧Q3 a.2.2.2):=by
 intro fuel cs x hf h hw
 obtain ⟨fs,hu,hfs⟩:=Mh ht
 obtain ⟨xs,m,rfl,rfl,hl,hlen,hfield⟩:=DataW.trod_struct hu h
 have hsz:fs.size=4:=by have:=congrArg List.length hfs;simpa using this
 have hm:m≤n:=by omega
 have each:∀ (i T off:Nat),[(T0,0),(T1,s0),(T2,s0+s1),(T3,s0+s1+s2)][i]?=some (T,off)→∃ y,DataW.trod enc P W 0 (fun _=>true) true m T ((cs.drop off).take (P.cellsOf T))=some y∧∀ q∈DataW.weights P T y.1,q≤reachBytes:=by
  intro i T off hi
  rw [← hfs] at hi
  obtain ⟨f,hf1,hf2⟩:∃ f,fs[i]?=some f∧(f.type,f.offset)=(T,off):=by
   rw [List.getElem?_map,Option.map_eq_some_iff] at hi
   obtain ⟨f,h1,h2⟩:=hi
   exact ⟨f,by simpa using h1,h2⟩
  cases hf2
  have hi2:i<xs.length:=by have:=(Array.getElem?_eq_some_iff.1 hf1).1;omega
  refine ⟨xs[i],by rw [hfield i f hf1,lG hi2],fun q hq=>hw q ?_⟩
  simp only [DataW.weights,hu]
  exact DataW.weights_mem_each (j:=i) (by simp [hf1]) (by simp [hi2]) q hq
 obtain ⟨y0,e0,w0⟩:=each 0 T0 (0) rfl
 obtain ⟨a0,q0,r0,c0⟩:=h0 m _ y0 hm e0 w0
 rw [z0] at r0 c0
 obtain ⟨y1,e1,w1⟩:=each 1 T1 (s0) rfl
 obtain ⟨a1,q1,r1,c1⟩:=h1 m _ y1 hm e1 w1
 rw [z1] at r1 c1
 obtain ⟨y2,e2,w2⟩:=each 2 T2 (s0+s1) rfl
 obtain ⟨a2,q2,r2,c2⟩:=h2 m _ y2 hm e2 w2
 rw [z2] at r2 c2
 obtain ⟨y3,e3,w3⟩:=each 3 T3 (s0+s1+s2) rfl
 obtain ⟨a3,q3,r3,c3⟩:=h3 m _ y3 hm e3 w3
 rw [z3] at r3 c3
 have hcs:cs=(cs.drop (0)).take s0++((cs.drop (s0)).take s1++((cs.drop (s0+s1)).take s2++(cs.drop (s0+s1+s2)).take s3)):=by
  have hl2:cs.length=s0+s1+s2+s3:=by rw [hl,hc]
  clear each hfield h
  apply List.ext_getElem?
  intro j
  simp only [List.getElem?_append,List.getElem?_take,List.getElem?_drop,List.length_take,List.length_drop]
  repeat' split
  all_goals first|(congr 1;omega)|(rw [List.getElem?_eq_none (by omega)])
 refine ⟨(a0,a1,a2,a3),⟨q0,q1,q2,q3⟩,?_,?_⟩
 ·rw [hcs];exact (r0.append (r1.append (r2.append r3)))
 ·intro u hu2
  rw [hcs] at hu2
  simp only [List.mem_append] at hu2
  rcases hu2 with hu2|hu2|hu2|hu2
  ·exact c0 u hu2
  ·exact c1 u hu2
  ·exact c2 u hu2
  ·exact c3 u hu2
theorem UZ {t:TypeId} {v:Value} {d:DataW H} {ps:List MemPlace} {α:Type} {D:α→DV} {Q:α→Prop} (h:∀ n,OpF enc P W n t (fun a=>[D a]) Q) (hv:v.cells.toList=[v])
  (hd:DataW.Trod enc P W 0 (fun _=>true) true t v d ps) (hw:∀ m∈DataW.weights P t d,m≤reachBytes):∃ a,Q a∧Rep W (fun b=>b<W.heap.size) (D a) v:=by
 obtain ⟨fuel,hf⟩:=hd
 obtain ⟨a,q,r,_⟩:=h fuel fuel _ _ (Nat.le_refl _) hf hw
 rw [hv] at r
 cases r with
 | cons r _=>exact ⟨a,q,r⟩
end
end Go.FL
namespace Go.FL
open Go Go.Proofs
section
variable {H:Type} {enc:TypeId×Value→H} {W:World}
theorem Ta {n:Nat} : OpF enc Tryz.prog W (n+1) 32 (fun a:List Nat=>[.sl (L a)]) (fun a=>okL 35184372087808 a=true):=by
 refine (Kt (α:=Int) (F:=fun z=>[.i .u32 z]) (sz:=1) (fun z=>.i .u32 z) (by kernel_rfl:Tryz.prog.underlying 32=some (.slice 23)) (by kernel_rfl) (by decide) (fun _=>rfl) (Ph (by kernel_rfl))).map fun zs hz=>?_
 obtain ⟨a,h1,h2⟩:=QA zs hz.1
 refine ⟨a,Db.2 ⟨h1,?_⟩,by rw [← h2]⟩
 have h3:=hz.2
 rw [show Tryz.prog.bytesOf 23=4 by kernel_rfl,show reachBytes=140737488351232 by decide] at h3
 have:=congrArg List.length h2
 rw [List.length_map,Ab] at this
 omega
theorem QC (n:Nat) : OpF enc Tryz.prog W n 32 (fun a:List Nat=>[.sl (L a)]) (fun a=>okL 35184372087808 a=true):=Ta.mono (Nat.le_succ n)
theorem Yn (n:Nat) : OpF enc Tryz.prog W n 34 (fun r:RT=>[.b r.1,.sl (L r.2.1),.sl (L r.2.2)]) (fun r=>Jr r=true):=by
 refine OpF.mono (n:=n+1) ((Rr (t:=34) (T0:=4) (T1:=32) (T2:=32) (s0:=1) (s1:=1) (s2:=1) (by kernel_rfl) (by kernel_rfl) (by kernel_rfl) (VY (by kernel_rfl)) (by kernel_rfl) (QC n) (by kernel_rfl) (QC n)).map fun r hr=>?_) (Nat.le_succ n)
 exact ⟨r,by rw [Jr,hr.2.1,hr.2.2];rfl,rfl⟩
end
section
variable {H:Type} {enc:TypeId×Value→H} {W:World}
theorem UO {n:Nat} : OpF enc Tryz.prog W (n+1) 24 (fun l:List Int=>[.sl (Is l)]) (fun l=>(∀ z∈l,-9223372036854775808≤z∧z≤9223372036854775807)∧l.length≤17592186044416):=by
 refine (Kt (α:=Int) (F:=fun z=>[.i .i64 z]) (sz:=1) (fun z=>.i .i64 z) (by kernel_rfl:Tryz.prog.underlying 24=some (.slice 3)) (by kernel_rfl) (by decide) (fun _=>rfl) (Ph (by kernel_rfl))).map fun zs hz=>?_
 refine ⟨zs,⟨fun z h=>?_,?_⟩,rfl⟩
 ·have:=hz.1 z h
  simp [Lit.wf,IntKind.min,IntKind.max,IntKind.signed,IntKind.bits] at this
  omega
 ·have h3:=hz.2
  rw [show Tryz.prog.bytesOf 3=8 by kernel_rfl,show reachBytes=140737488351232 by decide] at h3
  omega
theorem W4 (n:Nat) : OpF enc Tryz.prog W n 24 (fun l:List Int=>[.sl (Is l)]) (fun l=>(∀ z∈l,-9223372036854775808≤z∧z≤9223372036854775807)∧l.length≤17592186044416):=UO.mono (Nat.le_succ n)
def cI6 (x:Itm) : List DV:=[.i .u8 x.kind,.b x.num.1,.sl (L x.num.2.1),.sl (L x.num.2.2),.i .i32 x.char,.sl (Ars x.box)]
def cA2 (a:Arr) : List DV:=[.sl (Is a.shape),.sl (Its a.items)]
theorem Vu {n:Nat} (h:OpF enc Tryz.prog W n 27 cA2 okAr) : OpF enc Tryz.prog W (n+1) 45 (fun l:List Arr=>[.sl (Ars l)]) (fun l=>l.length≤2932031007402∧∀ a∈l,okAr a):=by
 refine (Kt (α:=Arr) (F:=cA2) (sz:=2) Arr.dv (by kernel_rfl:Tryz.prog.underlying 45=some (.slice 27)) (by kernel_rfl) (by decide) (fun a=>by rw [Arr.dv_eq];rfl) h).map fun zs hz=>?_
 refine ⟨zs,⟨?_,hz.1⟩,by rw [Fw]⟩
 have h3:=hz.2
 rw [show Tryz.prog.bytesOf 27=48 by kernel_rfl,show reachBytes=140737488351232 by decide] at h3
 omega
theorem NY {n:Nat} (h:OpF enc Tryz.prog W n 51 cI6 okI) : OpF enc Tryz.prog W (n+1) 25 (fun l:List Itm=>[.sl (Its l)]) (fun l=>l.length≤1466015503701∧∀ x∈l,okI x):=by
 refine (Kt (α:=Itm) (F:=cI6) (sz:=6) Itm.dv (by kernel_rfl:Tryz.prog.underlying 25=some (.slice 51)) (by kernel_rfl) (by decide) (fun a=>by rw [Itm.dv_eq];rfl) h).map fun zs hz=>?_
 refine ⟨zs,⟨?_,hz.1⟩,by rw [Ev]⟩
 have h3:=hz.2
 rw [show Tryz.prog.bytesOf 51=96 by kernel_rfl,show reachBytes=140737488351232 by decide] at h3
 omega
theorem SJ : ∀ n,OpF enc Tryz.prog W n 51 cI6 okI∧OpF enc Tryz.prog W n 27 cA2 okAr
 | 0=>by
  constructor <;>
  ·intro fuel cs x hf h _
   obtain rfl:fuel=0:=by omega
   simp [DataW.trod] at h
 | n+1=>by
  obtain ⟨hI,hA⟩:=SJ n
  constructor
  ·refine OpF.mono (n:=n+1+1) ((RV (t:=51) (T0:=49) (T1:=34) (T2:=21) (T3:=45) (s0:=1) (s1:=3) (s2:=1) (s3:=1) (by kernel_rfl) (by kernel_rfl) (by kernel_rfl) (Ph (by kernel_rfl:Tryz.prog.underlying 49=some (.int .u8))) (by kernel_rfl) (Yn (n+1)) (by kernel_rfl) (Ph (by kernel_rfl:Tryz.prog.underlying 21=some (.int .i32))) (by kernel_rfl) (Vu hA)).map fun r hr=>?_) (Nat.le_succ _)
   obtain ⟨k,q,c,b⟩:=r
   obtain ⟨h1,h2,h3,h4⟩:=hr
   refine ⟨.mk k q c b,?_,rfl⟩
   rw [Et]
   refine ⟨?_,h2,?_,h4⟩
   ·simp [Lit.wf,IntKind.min,IntKind.max,IntKind.signed,IntKind.bits] at h1
    show 0≤k∧k<256
    omega
   ·simp [Lit.wf,IntKind.min,IntKind.max,IntKind.signed,IntKind.bits] at h3
    show -2147483648≤c∧c<2147483648
    omega
  ·refine OpF.mono (n:=n+1+1) ((Rt (t:=27) (T0:=24) (T1:=25) (s0:=1) (s1:=1) (by kernel_rfl) (by kernel_rfl) (by kernel_rfl) (W4 (n+1)) (by kernel_rfl) (NY hI)).map fun r hr=>?_) (Nat.le_succ _)
   obtain ⟨s,i⟩:=r
   obtain ⟨⟨h1,h2⟩,h3,h4⟩:=hr
   refine ⟨.mk s i,?_,rfl⟩
   rw [BR]
   exact ⟨h1,h2,h3,h4⟩
theorem U3 (n:Nat) : OpF enc Tryz.prog W n 25 (fun l:List Itm=>[.sl (Its l)]) (fun l=>l.length≤1466015503701∧∀ x∈l,okI x):=(NY (SJ n).1).mono (Nat.le_succ n)
end
end Go.FL
