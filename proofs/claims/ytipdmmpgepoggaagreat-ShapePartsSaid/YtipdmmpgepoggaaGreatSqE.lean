/-
  Part 5 of the base of the proofs: a logic of our own over the calculus, the contracts of the functions
-/
import Derived.Test.YtipdmmpgepoggaaGreatSqD
set_option linter.unusedVariables false
namespace Go.FL
open Go Go.Proofs
theorem L2 {t:List Nat} (ht:∀ x∈t,0<x∧x≤4096) (h8:t.length≤8) {i:Nat} (hi:i≤4096) (K:List Int→Option (Arr×Int)) {r:List Int} (hr:r.length=t.length) : ∀ (n j k:Nat),n=t.length-j→j≤t.length→n<k →
  BY (up_ t) (up_ (stN t)) (i:Int) K k ((up_ (atN t i)).take j++r.drop j) (j:Int)=K (up_ (atN t i))
 | _,_,0,_,_,h=>by omega
 | n,j,k+1,hn,hj,hk=>by
  have hlen:(up_ (atN t i)).length=t.length:=by rw [BJ,El]
  rw [BY]
  by_cases h:j<t.length
  ·have hs:j<(stN t).length:=by rw [Eo];exact h
   have hsp:=MD (fun x hx=>(ht x hx).1) _ (List.getElem_mem hs)
   have htp:=(ht _ (List.getElem_mem h)).1
   have hcur:j<((up_ (atN t i)).take j++r.drop j).length:=by rw [List.length_append,List.length_take,List.length_drop];omega
   have g1:DA (((stN t)[j]:Int)≠0)=some ():=if_pos (by omega)
   have g2:DA ((t[j]:Int)≠0)=some ():=if_pos (by omega)
   have e1:Int.tdiv (i:Int) ((stN t)[j]:Int)=((i / (stN t)[j]:Nat):Int):=rfl
   have hd:i / (stN t)[j]≤i:=Nat.div_le_self _ _
   have hw:w64 ((i / (stN t)[j]:Nat):Int)=((i / (stN t)[j]:Nat):Int):=by
    generalize i / (stN t)[j]=d at hd ⊢
    exact Bk (by omega) (by omega)
   have e2:Int.tmod ((i / (stN t)[j]:Nat):Int) (t[j]:Int)=((i / (stN t)[j] % t[j]:Nat):Int):=rfl
   have e3:((i / (stN t)[j] % t[j]:Nat):Int)=(up_ (atN t i))[j]'(by rw [hlen];exact h):=by
    rw [Pq (by rw [El];exact h),MC t i j h]
   rw [if_pos (by rw [BJ,Eo];omega),Mx hs,oB,g1,oB,Mx h,oB,g2,oB,Cz hcur,oB,e1,hw,e2,e3,Int.toNat_natCast,CB (by omega),
    NT (by rw [hlen,hr]) (by rw [hlen];exact h),L2 ht h8 hi K hr (n-1) (j+1) k (by omega) (by omega) (by omega)]
  ·rw [if_neg (by rw [BJ,Eo];omega),List.take_of_length_le (by omega),List.drop_of_length_le (by omega),List.append_nil]
theorem Ji {a:Arr} {t:List Nat} {F:Bl} {J:Nat→Nat} (ht:∀ x∈t,0<x∧x≤4096) (h8:t.length≤8) (hn:pr t≤4096) (hF:∀ i,i<pr t→F.g (up_ (atN t i))=some (J i:Int)∧J i<a.items.length) {x1:Int×Int} (hx1:x1.1=(pr t:Int)) (K:List Itm→Option (Arr×Int)) : ∀ (n i k:Nat) (r:List Int),n=pr t-i→i≤pr t→n<k→r.length=t.length →
  B0 a (up_ t) F x1 (up_ (stN t)) K k r ((EN a (pr t) J).take i) (i:Int)=K (EN a (pr t) J)
 | _,_,0,_,_,_,h,_=>by omega
 | n,i,k+1,r,hn',hi,hk,hr=>by
  have hlen:(EN a (pr t) J).length=pr t:=FB a (pr t) J
  rw [B0]
  by_cases h:i<pr t
  ·have hb:=fun K=>L2 ht h8 (i:=i) (by omega) K hr t.length 0 AN rfl (Nat.zero_le _) (Cw (by omega))
   rw [List.take_zero,List.nil_append,List.drop_zero,show ((0:Nat):Int)=0 from rfl] at hb
   obtain ⟨f1,f2⟩:=hF i h
   have hg:(EN a (pr t) J)[i]'(by rw [hlen];exact h)=a.items[J i]:=by
    unfold EN
    rw [List.getElem_map,List.getElem_range,lD,lG f2];rfl
   have ih:=Ji ht h8 hn hF hx1 K (n-1) (i+1) k (up_ (atN t i)) (by omega) (by omega) (by omega) (by rw [BJ,El])
   rw [List.take_succ_eq_append_getElem (by rw [hlen];exact h),hg] at ih
   have hcap:((EN a (pr t) J).take i).length+1≤1466015503701:=by rw [List.length_take];omega
   rw [if_pos (by omega),B9,B9,hb,f1,oB,Cz f2,oB,Gw (by simpa using hcap),oB,CB (by omega)]
   exact ih
  ·rw [if_neg (by omega),List.take_of_length_le (by omega)]
theorem Mz {a:Arr} {t:List Nat} {F:Bl} {J:Nat→Nat} (ht:∀ x∈t,0<x∧x≤4096) (h8:t.length≤8) (hn:pr t≤4096) (hF:∀ i,i<pr t→F.g (up_ (atN t i))=some (J i:Int)∧J i<a.items.length) :
  D5 a (up_ t) F=AF (up_ t) (EN a (pr t) J):=by
 have hl:(up_ t).length≤17592186044416:=by rw [BJ];omega
 unfold D5
 rw [Ge hl,oB,R6 h8 ht hn,DP hl,oB,J3 (by omega),oB,B9,MB hn fun x hx=>(ht x hx).1]
 have:=fun K=>Ji ht h8 hn hF (x1:=((pr t:Int),0)) rfl K (pr t) 0 AN (List.replicate (Int.toNat ((List.length (up_ t):Nat):Int)) 0) rfl (Nat.zero_le _) (Cw (by omega)) (by simp [BJ])
 rw [List.take_zero,show ((0:Nat):Int)=0 from rfl] at this
 rw [this]
 generalize AF _ _=m
 cases m<;>rfl
theorem Uy {xs ys:List Itm} (hx:xs.length≤4096) (hy:ys.length≤4096) : AR [xs,ys]=some (xs++ys):=by
 have hF:AN=999999999999997+3:=rfl
 have e1:w64 (0+((List.length xs:Nat):Int))=((List.length xs:Nat):Int):=by rw [Int.zero_add];exact Bk (by omega) (by omega)
 have e2:w64 (((List.length xs:Nat):Int)+((List.length ys:Nat):Int))=((List.length xs+List.length ys:Nat):Int):=by rw [Bk (by omega) (by omega)];omega
 have a1:w64 (0+1)=1:=Bk (by omega) (by omega)
 have a2:w64 (1+1)=2:=Bk (by omega) (by omega)
 have l1:∀ (K:Int→Option (List Itm)) (k:Nat),Ai [xs,ys] K (k+3) 0 0=K ((List.length xs+List.length ys:Nat):Int):=by
  intro K k
  rw [Ai,if_pos (by simp),B9,Fd,oB,e1,J3 (by omega),oB,a1]
  show Ai [xs,ys] K (k+2) ((List.length xs:Nat):Int) 1=_
  have r1:rd? [xs,ys] 1=some ys:=rfl
  rw [Ai,if_pos (by simp),B9,r1,oB,e2,J3 (by omega),oB,a2]
  show Ai [xs,ys] K (k+1) ((List.length xs+List.length ys:Nat):Int) 2=_
  rw [Ai,if_neg (by simp)]
 have l4:∀ (K:List Itm→Option (List Itm)) (k:Nat),Am [xs,ys] K (k+3) [] 0=K (xs++ys):=by
  intro K k
  have r1:rd? [xs,ys] 1=some ys:=rfl
  rw [Am,if_pos (by simp),Fd,oB,Gw (by simp;omega),oB,a1,List.nil_append]
  rw [Am,if_pos (by simp),r1,oB,Gw (by omega),oB,a2]
  rw [Am,if_neg (by simp)]
 unfold AR
 rw [B9,hF,l1]
 rw [J3 (by show (0:Int)≤_∧_≤((1466015503701:Nat):Int);omega),oB,B9,l4]
theorem Vr {xs:List Itm} (hx:xs.length≤4096) {i:Nat} (hi:i≤4096) : BD [(i:Int)] 0 (vec xs) [1] [1]=some (i:Int):=by
 have hp:B2 [1] [(i:Int)]=some (i:Int):=by
  have:=MQ (l:=[1]) (c:=[i]) (by simp) (by simp) (by simp) (by simp;omega)
  have ep:plN [1] [i]=i:=by show 1 * i+0=i;omega
  rw [ep] at this
  exact this
 have e1:w64 (((List.length (vec xs).items:Nat):Int)+(i:Int))=((xs.length+i:Nat):Int):=by
  show w64 ((xs.length:Int)+(i:Int))=_
  rw [Bk (by omega) (by omega)];omega
 have e2:w64 (1 * (xs.length:Int))=(xs.length:Int):=by rw [Int.one_mul];exact Bk (by omega) (by omega)
 have e3:w64 (((xs.length+i:Nat):Int)-(xs.length:Int))=(i:Int):=by rw [Bk (by omega) (by omega)];omega
 have r1:rd? (vec xs).shape 0=some (xs.length:Int):=rfl
 unfold BD
 rw [Fd,oB,r1,oB,hp,oB,Fd,oB,oB,oB,e1,e2,e3]
 split<;>rfl
theorem Uw {xs ys:List Itm} (hx:VR xs) (hy:VR ys) : ∃ r e,A4 (vec xs) (vec ys) 0=some (r,e)∧(e=0→VR (xs++ys)∧r=vec (xs++ys))∧(e≠0→r=.mk [] []):=by
 have lx:=hx.2.1
 have ly:=hy.2.1
 have px:=hx.pos
 have hF:AN=999999999999998+2:=rfl
 have a1:w64 (0+1)=1:=Bk (by omega) (by omega)
 have esum:w64 ((xs.length:Int)+(ys.length:Int))=((xs.length+ys.length:Nat):Int):=by rw [Bk (by omega) (by omega)];omega
 have s1:(vec xs).shape=[(xs.length:Int)]:=rfl
 have s2:(vec ys).shape=[(ys.length:Int)]:=rfl
 have i1:(vec xs).items=xs:=rfl
 have i2:(vec ys).items=ys:=rfl
 have l2:∀ (K:Arr→Int→Option (Arr×Int)) (k:Nat),Ba (vec xs) (vec ys) 0 K (k+2) (.mk [] []) 0 0=K (.mk [] []) 0:=by
  intro K k
  rw [Ba,if_pos (by rw [s1];simp),if_pos rfl,oB,if_neg (by decide),a1,Ba,if_neg (by rw [s1];simp)]
 unfold A4
 rw [B9,if_neg (by rw [s1];simp),if_neg (by rw [s1];simp),if_neg (by rw [s2];simp),if_neg (by rw [s1,s2];show ¬w64 (1+1)=1;decide),if_neg (by rw [s1,s2];show ¬w64 (1+1)=1;decide),if_pos (by rw [s1,s2];rfl),B9,hF,l2,s1,s2,H8 (by simp),oB,Fd,oB,Fd,oB,oB]
 have hset:List.set [(xs.length:Int)] (Int.toNat 0) (w64 ((xs.length:Int)+(ys.length:Int)))=[((xs.length+ys.length:Nat):Int)]:=by rw [esum];rfl
 rw [hset,Ge (by simp),oB]
 by_cases hs:(szP [((xs.length+ys.length:Nat):Int)]).2=0
 rotate_left
 ·rw [if_pos (by rw [dF hs];rfl),if_neg hs]
  exact ⟨_,_,rfl,fun h=>absurd h hs,fun _=>rfl⟩
 have hd:=(Oq hs).1 _ (List.mem_singleton.2 rfl)
 have hsz:=H6 (n:=xs.length+ys.length) (by omega)
 rw [hsz,if_neg (by simp;omega),i1,i2,Uy lx ly,oB,DP (by simp),oB,DP (by simp),oB]
 have st1:∀ z:Int,(Hi [z]).1=[1]:=fun z=>rfl
 rw [st1,st1]
 have hpr:pr [xs.length+ys.length]=xs.length+ys.length:=by show (xs.length+ys.length) * 1=_;omega
 have hb:=Mz (a:=.mk [] (xs++ys)) (t:=[xs.length+ys.length]) (J:=id) (F:=⟨.fn 132 [] [.ptr [.i .i64 0],.ptr [.sl (Is [(xs.length:Int)]),.sl (Its xs)],.ptr [.sl (Is [1])],.ptr [.sl (Is [1])]],fun x=>BD x 0 (vec xs) [1] [1]⟩)
  (fun x hx=>by rw [List.mem_singleton] at hx;omega) (by simp) (by rw [hpr];omega) (fun i hi=>by
   rw [hpr] at hi
   refine ⟨?_,by show i<(xs++ys).length;rw [List.length_append];omega⟩
   have ea:atN [xs.length+ys.length] i=[i]:=by
    show [i / 1 % (xs.length+ys.length)]=_
    rw [Nat.div_one,Nat.mod_eq_of_lt hi]
   rw [ea]
   exact Vr lx (by omega))
 rw [hpr] at hb
 have hmv:EN (.mk [] (xs++ys)) (xs.length+ys.length) id=xs++ys:=by
  rw [← List.length_append]
  exact S2 (b:=.mk [] (xs++ys))
 rw [hmv] at hb
 have hm:∃ r e,AF [((xs.length+ys.length:Nat):Int)] (xs++ys)=some (r,e)∧(e≠0→r=.mk [] []):=by
  have hok:∀ x∈xs++ys,okI x:=fun x h=>(List.mem_append.1 h).elim (hx.2.2.1 x) (hy.2.2.1 x)
  have:=Hb (s:=[((xs.length+ys.length:Nat):Int)]) (xs:=xs++ys) (fun z hz=>by rw [List.mem_singleton] at hz;omega) (by simp) (by rw [List.length_append];omega) hok
  rw [this]
  split
  ·exact ⟨_,_,rfl,fun _=>rfl⟩
  ·split
   ·exact ⟨_,_,rfl,fun _=>rfl⟩
   ·split
    ·exact ⟨_,_,rfl,fun h=>absurd rfl h⟩
    ·exact ⟨_,_,rfl,fun _=>rfl⟩
 obtain ⟨r,e,hr,he⟩:=hm
 refine ⟨r,e,?_,fun h=>?_,he⟩
 ·have key:∀ m:Option (Arr×Int),m=some (r,e)→(m.bind fun x24=>some (x24.1,x24.2))=some (r,e):=fun m h=>by rw [h];rfl
  exact key _ (hb.trans hr)
 ·subst h
  have hok:∀ x∈xs++ys,okI x:=fun x h=>(List.mem_append.1 h).elim (hx.2.2.1 x) (hy.2.2.1 x)
  exact Lg hok (by rw [List.length_append];omega) (by rw [List.length_append];exact hr)
end Go.FL
namespace Go.FL
open Go Go.RowKit Go.ChangeShapes Go.WideShapes Go.ChangeAt
section
variable {H:Type}
def OpF (enc:TypeId×Value→H) (P:Program) (W:World) (n:Nat) (t:TypeId) {α:Type} (F:α→List DV) (Q:α→Prop) : Prop :=
 ∀ (fuel:Nat) (cs:List Value) (x:DataW H×List MemPlace),fuel≤n→DataW.trod enc P W 0 (fun _=>true) true fuel t cs=some x→(∀ m∈DataW.weights P t x.1,m≤reachBytes) →
  ∃ a,Q a∧RepAll W (fun b=>b<W.heap.size) (F a) cs∧∀ u∈cs,u.oneCell'=true
variable {enc:TypeId×Value→H} {P:Program} {W:World}
theorem OpF.mono {n m t:Nat} {α:Type} {F:α→List DV} {Q:α→Prop} (h:OpF enc P W n t F Q) (hm:m≤n) : OpF enc P W m t F Q:=fun fuel cs x hf=>h fuel cs x (by omega)
theorem OpF.map {n t:Nat} {α β:Type} {F:α→List DV} {Q:α→Prop} {G:β→List DV} {R:β→Prop} (h:OpF enc P W n t F Q) (f:∀ a,Q a→∃ b,R b∧F a=G b) : OpF enc P W n t G R:=fun fuel cs x hf h1 h2=>by
 obtain ⟨a,q,r,c⟩:=h fuel cs x hf h1 h2
 obtain ⟨b,rb,e⟩:=f a q
 exact ⟨b,rb,e▸r,c⟩
theorem Mn {n t:Nat} {k:IntKind} (ht:P.underlying t=some (.int k)) : OpF enc P W n t (fun z:Int=>[.i k z]) (fun z=>(Lit.int k z).wf=true):=fun fuel cs x _ h _=>by
 obtain ⟨z,rfl,_,hw⟩:=DataW.trod_int ht h
 exact ⟨z,hw,.cons (.i _ _) .nil,by simp [Value.oneCell']⟩
theorem Si {n t:Nat} (ht:P.underlying t=some .bool) : OpF enc P W n t (fun z:Bool=>[.b z]) (fun _=>True):=fun fuel cs x _ h _=>by
 obtain ⟨z,rfl,_⟩:=DataW.trod_bool ht h
 exact ⟨z,trivial,.cons (.b _) .nil,by simp [Value.oneCell']⟩
theorem GZ {e:TypeId} : ∀ {ds:List (DataW H)} {d:DataW H},d∈ds→∀ q∈DataW.weights P e d,q∈DataW.weightsAll P e ds
 | d::ds,d',hd,q,hq=>by
  rw [DataW.weightsAll,List.mem_append]
  rcases List.mem_cons.1 hd with rfl|hd
  ·exact .inl hq
  ·exact .inr (GZ hd q hq)
theorem Ix {n t e sz:Nat} {α:Type} {F:α→List DV} {Q:α→Prop} (D:α→DV) (ht:P.underlying t=some (.slice e)) (hs:P.cellsOf e=sz) (h0:0<sz) (hD:∀ a,(D a).cells=F a) (h:OpF enc P W n e F Q) :
  OpF enc P W (n+1) t (fun xs:List α=>[.sl (xs.map D)]) (fun xs=>(∀ x∈xs,Q x)∧xs.length * P.bytesOf e≤reachBytes):=by
 intro fuel cs x hf hx hw
 rcases DataW.trod_slice ht hx with ⟨rfl,rfl⟩|⟨a,len,cap,elems,rest,m,rfl,rfl,rfl,hb,hl,hm,hlen,hel,_,_⟩
 ·exact ⟨[],⟨by simp,by simp⟩,.cons (.sl0 _ _) .nil,by simp [Value.oneCell']⟩
 ·simp only [DataW.weights,ht] at hw
  have hroom:(elems.length+rest.length) * P.bytesOf e≤reachBytes:=by
   have:=hw ((elems.length+rest.length) * P.bytesOf e) (by simp)
   exact this
  have each:∀ i,i<len→∃ vs y,W.cells? 0 (a.add (i * P.cellsOf e)) (P.cellsOf e)=some vs∧DataW.trod enc P W 0 (fun _=>true) true m e vs=some y∧∀ q∈DataW.weights P e y.1,q≤reachBytes:=by
   intro i hi
   have h1:=hel i hi
   rw [lG (show i<elems.length by omega)] at h1
   obtain ⟨vs,h2,h3⟩:=Option.bind_eq_some_iff.1 h1
   refine ⟨vs,_,h2,h3,fun q hq=>hw q ?_⟩
   simp only [List.mem_cons,List.mem_append]
   exact .inr (.inl (GZ (d:=(elems[i]'(by omega)).1) (List.mem_map_of_mem (List.getElem_mem _)) q hq))
  by_cases hlen0:len=0
  ·subst hlen0
   exact ⟨[],⟨by simp,by simp⟩,.cons (.sl0 _ _) .nil,by simp [Value.oneCell']⟩
  ·obtain ⟨b,off,spot⟩:=a
   have hspot:spot=none:=by
    obtain ⟨vs,y,h1,_,_⟩:=each 0 (by omega)
    obtain ⟨_,k2,k3⟩:=World.cells?_some h1
    have h4:=k3 0 (by omega)
    rw [lG (show 0<vs.length by omega)] at h4
    simpa [Addr.add] using World.cell?_spot h4
   subst hspot
   have build:∀ j,j≤len→∃ (xs:List α) (vs:List Value),xs.length=j∧(∀ x∈xs,Q x)∧Has W b off vs∧RepRows W (fun b=>b<W.heap.size) sz (xs.map D) vs:=by
    intro j
    induction j with
    | zero=>exact fun _=>⟨[],[],rfl,by simp,fun j u hj=>by simp at hj,.nil _⟩
    | succ j ih =>
     intro hj
     obtain ⟨xs,vs,k1,k2,k3,k4⟩:=ih (by omega)
     obtain ⟨us,y,g1,g2,g3⟩:=each j (by omega)
     obtain ⟨_,g4,g5⟩:=World.cells?_some g1
     obtain ⟨x,q1,q2,q3⟩:=h m us y (by omega) g2 g3
     have hvl:=k4.length
     rw [List.length_map,k1] at hvl
     refine ⟨xs++[x],vs++us,by simp [k1],?_,?_,?_⟩
     ·intro z hz
      rcases List.mem_append.1 hz with hz|hz
      ·exact k2 z hz
      ·simp at hz;subst hz;exact q1
     ·intro i u hi
      rw [List.getElem?_append] at hi
      split at hi
      ·exact k3 i u hi
      ·rename_i hge
       have:=g5 (i-vs.length) (by have:=(lS.1 hi).1;omega)
       rw [hi] at this
       rw [← this,hs]
       have e1:off+i=off+j * sz+(i-vs.length):=by omega
       rw [e1,add_plain,add_plain]
     ·rw [List.map_append]
      refine k4.append ?_
      have:=RepRows.cons (sz:=sz) (x:=D x) (xs:=[]) (us:=us) (vs:=[]) (by omega) q3 (by rw [hD];exact q2) (.nil sz)
      simpa using this
   obtain ⟨xs,vs,k1,k2,k3,k4⟩:=build len (Nat.le_refl _)
   have hne:xs≠[]:=fun h=>by subst h;simp at k1;omega
   have hlt:b<W.heap.size:=by
    obtain ⟨us,y,g1,_,_⟩:=each 0 (by omega)
    have:=World.cells?_block g1 (by omega)
    rwa [add_plain] at this
   refine ⟨xs,⟨k2,nT (Nat.mul_le_mul_right _ (by omega)) hroom⟩,.cons ?_ .nil,by simp [Value.oneCell']⟩
   have:=Rep.sl (w:=W) (I:=fun b=>b<W.heap.size) (xs.map D) b off sz cap vs (by simpa using hne) (by rw [List.length_map,k1];exact hl) hlt h0 k3 k4
   rwa [List.length_map,k1] at this
def fTO (P:Program) (t:TypeId) : Option (List (TypeId×Nat)):=match P.underlying t with
 | some (.struct fs)=>some (fs.toList.map fun f=>(f.type,f.offset))
 | _=>none
theorem Kr {t:Nat} {l:List (TypeId×Nat)} (h:fTO P t=some l) : ∃ fs,P.underlying t=some (.struct fs)∧fs.toList.map (fun f=>(f.type,f.offset))=l:=by
 unfold fTO at h
 split at h
 ·rename_i fs hu;exact ⟨fs,hu,oI h⟩
 ·cases h
theorem N0 {α0 α1:Type} {t n:Nat} {T0 s0:Nat} {F0:α0→List DV} {Q0:α0→Prop} {T1 s1:Nat} {F1:α1→List DV} {Q1:α1→Prop} (ht:fTO P t=some [(T0,0),(T1,s0)]) (hc:P.cellsOf t=s0+s1) (z0:P.cellsOf T0=s0) (h0:OpF enc P W n T0 F0 Q0) (z1:P.cellsOf T1=s1) (h1:OpF enc P W n T1 F1 Q1) :
  OpF enc P W (n+1) t (fun a:α0×α1=>F0 a.1++(F1 a.2)) (fun a=>Q0 a.1∧Q1 a.2):=by
 intro fuel cs x hf h hw
 obtain ⟨fs,hu,hfs⟩:=Kr ht
 obtain ⟨xs,m,rfl,rfl,hl,hlen,hfield⟩:=DataW.trod_struct hu h
 have hsz:fs.size=2:=by have:=congrArg List.length hfs;simpa using this
 have hm:m≤n:=by omega
 have each:∀ (i T off:Nat),[(T0,0),(T1,s0)][i]?=some (T,off)→∃ y,DataW.trod enc P W 0 (fun _=>true) true m T ((cs.drop off).take (P.cellsOf T))=some y∧∀ q∈DataW.weights P T y.1,q≤reachBytes:=by
  intro i T off hi
  rw [← hfs] at hi
  obtain ⟨f,hf1,hf2⟩:∃ f,fs[i]?=some f∧(f.type,f.offset)=(T,off):=by
   rw [List.getElem?_map,Option.map_eq_some_iff] at hi
   obtain ⟨f,h1,h2⟩:=hi
   exact ⟨f,by simpa using h1,h2⟩
  cases hf2
  have hi2:i<xs.length:=by have:=(Array.getElem?_eq_some_iff.1 hf1).1;omega
  refine ⟨xs[i],by rw [hfield i f hf1,lG hi2],fun q hq=>hw q ?_⟩
  simp only [DataW.weights,hu]
  exact DataW.weights_mem_each (j:=i) (by simp [hf1]) (by simp [hi2]) q hq
 obtain ⟨y0,e0,w0⟩:=each 0 T0 (0) rfl
 obtain ⟨a0,q0,r0,c0⟩:=h0 m _ y0 hm e0 w0
 rw [z0] at r0 c0
 obtain ⟨y1,e1,w1⟩:=each 1 T1 (s0) rfl
 obtain ⟨a1,q1,r1,c1⟩:=h1 m _ y1 hm e1 w1
 rw [z1] at r1 c1
 have hcs:cs=(cs.drop (0)).take s0++(cs.drop (s0)).take s1:=by
  have hl2:cs.length=s0+s1:=by rw [hl,hc]
  clear each hfield h
  apply List.ext_getElem?
  intro j
  simp only [List.getElem?_append,List.getElem?_take,List.getElem?_drop,List.length_take,List.length_drop]
  repeat' split
  all_goals first|(congr 1;omega)|(rw [List.getElem?_eq_none (by omega)])
 refine ⟨(a0,a1),⟨q0,q1⟩,?_,?_⟩
 ·rw [hcs];exact (r0.append r1)
 ·intro u hu2
  rw [hcs] at hu2
  simp only [List.mem_append] at hu2
  rcases hu2 with hu2|hu2
  ·exact c0 u hu2
  ·exact c1 u hu2
theorem Oe {α0 α1 α2:Type} {t n:Nat} {T0 s0:Nat} {F0:α0→List DV} {Q0:α0→Prop} {T1 s1:Nat} {F1:α1→List DV} {Q1:α1→Prop} {T2 s2:Nat} {F2:α2→List DV} {Q2:α2→Prop} (ht:fTO P t=some [(T0,0),(T1,s0),(T2,s0+s1)]) (hc:P.cellsOf t=s0+s1+s2) (z0:P.cellsOf T0=s0) (h0:OpF enc P W n T0 F0 Q0) (z1:P.cellsOf T1=s1) (h1:OpF enc P W n T1 F1 Q1) (z2:P.cellsOf T2=s2) (h2:OpF enc P W n T2 F2 Q2) :
  OpF enc P W (n+1) t (fun a:α0×α1×α2=>F0 a.1++(F1 a.2.1++(F2 a.2.2))) (fun a=>Q0 a.1∧Q1 a.2.1∧Q2 a.2.2):=by
 intro fuel cs x hf h hw
 obtain ⟨fs,hu,hfs⟩:=Kr ht
 obtain ⟨xs,m,rfl,rfl,hl,hlen,hfield⟩:=DataW.trod_struct hu h
 have hsz:fs.size=3:=by have:=congrArg List.length hfs;simpa using this
 have hm:m≤n:=by omega
 have each:∀ (i T off:Nat),[(T0,0),(T1,s0),(T2,s0+s1)][i]?=some (T,off)→∃ y,DataW.trod enc P W 0 (fun _=>true) true m T ((cs.drop off).take (P.cellsOf T))=some y∧∀ q∈DataW.weights P T y.1,q≤reachBytes:=by
  intro i T off hi
  rw [← hfs] at hi
  obtain ⟨f,hf1,hf2⟩:∃ f,fs[i]?=some f∧(f.type,f.offset)=(T,off):=by
   rw [List.getElem?_map,Option.map_eq_some_iff] at hi
   obtain ⟨f,h1,h2⟩:=hi
   exact ⟨f,by simpa using h1,h2⟩
  cases hf2
  have hi2:i<xs.length:=by have:=(Array.getElem?_eq_some_iff.1 hf1).1;omega
  refine ⟨xs[i],by rw [hfield i f hf1,lG hi2],fun q hq=>hw q ?_⟩
  simp only [DataW.weights,hu]
  exact DataW.weights_mem_each (j:=i) (by simp [hf1]) (by simp [hi2]) q hq
 obtain ⟨y0,e0,w0⟩:=each 0 T0 (0) rfl
 obtain ⟨a0,q0,r0,c0⟩:=h0 m _ y0 hm e0 w0
 rw [z0] at r0 c0
 obtain ⟨y1,e1,w1⟩:=each 1 T1 (s0) rfl
 obtain ⟨a1,q1,r1,c1⟩:=h1 m _ y1 hm e1 w1
 rw [z1] at r1 c1
 obtain ⟨y2,e2,w2⟩:=each 2 T2 (s0+s1) rfl
 obtain ⟨a2,q2,r2,c2⟩:=h2 m _ y2 hm e2 w2
 rw [z2] at r2 c2
 have hcs:cs=(cs.drop (0)).take s0++((cs.drop (s0)).take s1++(cs.drop (s0+s1)).take s2):=by
  have hl2:cs.length=s0+s1+s2:=by rw [hl,hc]
  clear each hfield h
  apply List.ext_getElem?
  intro j
  simp only [List.getElem?_append,List.getElem?_take,List.getElem?_drop,List.length_take,List.length_drop]
  repeat' split
  all_goals first|(congr 1;omega)|(rw [List.getElem?_eq_none (by omega)])
 refine ⟨(a0,a1,a2),⟨q0,q1,q2⟩,?_,?_⟩
 ·rw [hcs];exact (r0.append (r1.append r2))
 ·intro u hu2
  rw [hcs] at hu2
  simp only [List.mem_append] at hu2
  rcases hu2 with hu2|hu2|hu2
  ·exact c0 u hu2
  ·exact c1 u hu2
  ·exact c2 u hu2
theorem Ob {α0 α1 α2 α3:Type} {t n:Nat} {T0 s0:Nat} {F0:α0→List DV} {Q0:α0→Prop} {T1 s1:Nat} {F1:α1→List DV} {Q1:α1→Prop} {T2 s2:Nat} {F2:α2→List DV} {Q2:α2→Prop} {T3 s3:Nat} {F3:α3→List DV} {Q3:α3→Prop} (ht:fTO P t=some [(T0,0),(T1,s0),(T2,s0+s1),(T3,s0+s1+s2)]) (hc:P.cellsOf t=s0+s1+s2+s3) (z0:P.cellsOf T0=s0) (h0:OpF enc P W n T0 F0 Q0) (z1:P.cellsOf T1=s1) (h1:OpF enc P W n T1 F1 Q1) (z2:P.cellsOf T2=s2) (h2:OpF enc P W n T2 F2 Q2) (z3:P.cellsOf T3=s3) (h3:OpF enc P W n T3 F3 Q3) :
  OpF enc P W (n+1) t (fun a:α0×α1×α2×α3=>F0 a.1++(F1 a.2.1++(F2 a.2.2.1++(F3 a.2.2.2)))) (fun a=>Q0 a.1∧Q1 a.2.1∧Q2 a.2.2.1∧Q3 a.2.2.2):=by
 intro fuel cs x hf h hw
 obtain ⟨fs,hu,hfs⟩:=Kr ht
 obtain ⟨xs,m,rfl,rfl,hl,hlen,hfield⟩:=DataW.trod_struct hu h
 have hsz:fs.size=4:=by have:=congrArg List.length hfs;simpa using this
 have hm:m≤n:=by omega
 have each:∀ (i T off:Nat),[(T0,0),(T1,s0),(T2,s0+s1),(T3,s0+s1+s2)][i]?=some (T,off)→∃ y,DataW.trod enc P W 0 (fun _=>true) true m T ((cs.drop off).take (P.cellsOf T))=some y∧∀ q∈DataW.weights P T y.1,q≤reachBytes:=by
  intro i T off hi
  rw [← hfs] at hi
  obtain ⟨f,hf1,hf2⟩:∃ f,fs[i]?=some f∧(f.type,f.offset)=(T,off):=by
   rw [List.getElem?_map,Option.map_eq_some_iff] at hi
   obtain ⟨f,h1,h2⟩:=hi
   exact ⟨f,by simpa using h1,h2⟩
  cases hf2
  have hi2:i<xs.length:=by have:=(Array.getElem?_eq_some_iff.1 hf1).1;omega
  refine ⟨xs[i],by rw [hfield i f hf1,lG hi2],fun q hq=>hw q ?_⟩
  simp only [DataW.weights,hu]
  exact DataW.weights_mem_each (j:=i) (by simp [hf1]) (by simp [hi2]) q hq
 obtain ⟨y0,e0,w0⟩:=each 0 T0 (0) rfl
 obtain ⟨a0,q0,r0,c0⟩:=h0 m _ y0 hm e0 w0
 rw [z0] at r0 c0
 obtain ⟨y1,e1,w1⟩:=each 1 T1 (s0) rfl
 obtain ⟨a1,q1,r1,c1⟩:=h1 m _ y1 hm e1 w1
 rw [z1] at r1 c1
 obtain ⟨y2,e2,w2⟩:=each 2 T2 (s0+s1) rfl
 obtain ⟨a2,q2,r2,c2⟩:=h2 m _ y2 hm e2 w2
 rw [z2] at r2 c2
 obtain ⟨y3,e3,w3⟩:=each 3 T3 (s0+s1+s2) rfl
 obtain ⟨a3,q3,r3,c3⟩:=h3 m _ y3 hm e3 w3
 rw [z3] at r3 c3
 have hcs:cs=(cs.drop (0)).take s0++((cs.drop (s0)).take s1++((cs.drop (s0+s1)).take s2++(cs.drop (s0+s1+s2)).take s3)):=by
  have hl2:cs.length=s0+s1+s2+s3:=by rw [hl,hc]
  clear each hfield h
  apply List.ext_getElem?
  intro j
  simp only [List.getElem?_append,List.getElem?_take,List.getElem?_drop,List.length_take,List.length_drop]
  repeat' split
  all_goals first|(congr 1;omega)|(rw [List.getElem?_eq_none (by omega)])
 refine ⟨(a0,a1,a2,a3),⟨q0,q1,q2,q3⟩,?_,?_⟩
 ·rw [hcs];exact (r0.append (r1.append (r2.append r3)))
 ·intro u hu2
  rw [hcs] at hu2
  simp only [List.mem_append] at hu2
  rcases hu2 with hu2|hu2|hu2|hu2
  ·exact c0 u hu2
  ·exact c1 u hu2
  ·exact c2 u hu2
  ·exact c3 u hu2
theorem Lc {t:TypeId} {v:Value} {d:DataW H} {ps:List MemPlace} {α:Type} {D:α→DV} {Q:α→Prop} (h:∀ n,OpF enc P W n t (fun a=>[D a]) Q) (hv:v.cells.toList=[v])
  (hd:DataW.Trod enc P W 0 (fun _=>true) true t v d ps) (hw:∀ m∈DataW.weights P t d,m≤reachBytes):∃ a,Q a∧Rep W (fun b=>b<W.heap.size) (D a) v:=by
 obtain ⟨fuel,hf⟩:=hd
 obtain ⟨a,q,r,_⟩:=h fuel fuel _ _ (Nat.le_refl _) hf hw
 rw [hv] at r
 cases r with
 | cons r _=>exact ⟨a,q,r⟩
end
end Go.FL
namespace Go.FL
open Go Go.Proofs
section
variable {H:Type} {enc:TypeId×Value→H} {W:World}
theorem Qq {n:Nat} : OpF enc Tryz.prog W (n+1) 32 (fun a:List Nat=>[.sl (L a)]) (fun a=>okL 35184372087808 a=true):=by
 refine (Ix (α:=Int) (F:=fun z=>[.i .u32 z]) (sz:=1) (fun z=>.i .u32 z) (by kernel_rfl:Tryz.prog.underlying 32=some (.slice 128)) (by kernel_rfl) (by decide) (fun _=>rfl) (Mn (by kernel_rfl))).map fun zs hz=>?_
 obtain ⟨a,h1,h2⟩:=NC zs hz.1
 refine ⟨a,Ir.2 ⟨h1,?_⟩,by rw [← h2]⟩
 have h3:=hz.2
 rw [show Tryz.prog.bytesOf 128=4 by kernel_rfl,show reachBytes=140737488351232 by decide] at h3
 have:=congrArg List.length h2
 rw [List.length_map,Ad] at this
 omega
theorem Nl (n:Nat) : OpF enc Tryz.prog W n 32 (fun a:List Nat=>[.sl (L a)]) (fun a=>okL 35184372087808 a=true):=Qq.mono (Nat.le_succ n)
theorem Ul (n:Nat) : OpF enc Tryz.prog W n 34 (fun r:RT=>[.b r.1,.sl (L r.2.1),.sl (L r.2.2)]) (fun r=>I9 r=true):=by
 refine OpF.mono (n:=n+1) ((Oe (t:=34) (T0:=4) (T1:=32) (T2:=32) (s0:=1) (s1:=1) (s2:=1) (by kernel_rfl) (by kernel_rfl) (by kernel_rfl) (Si (by kernel_rfl)) (by kernel_rfl) (Nl n) (by kernel_rfl) (Nl n)).map fun r hr=>?_) (Nat.le_succ n)
 exact ⟨r,by rw [I9,hr.2.1,hr.2.2];rfl,rfl⟩
end
section
variable {H:Type} {enc:TypeId×Value→H} {W:World}
theorem QC {n:Nat} : OpF enc Tryz.prog W (n+1) 24 (fun l:List Int=>[.sl (Is l)]) (fun l=>(∀ z∈l,-9223372036854775808≤z∧z≤9223372036854775807)∧l.length≤17592186044416):=by
 refine (Ix (α:=Int) (F:=fun z=>[.i .i64 z]) (sz:=1) (fun z=>.i .i64 z) (by kernel_rfl:Tryz.prog.underlying 24=some (.slice 3)) (by kernel_rfl) (by decide) (fun _=>rfl) (Mn (by kernel_rfl))).map fun zs hz=>?_
 refine ⟨zs,⟨fun z h=>?_,?_⟩,rfl⟩
 ·have:=hz.1 z h
  simp [Lit.wf,IntKind.min,IntKind.max,IntKind.signed,IntKind.bits] at this
  omega
 ·have h3:=hz.2
  rw [show Tryz.prog.bytesOf 3=8 by kernel_rfl,show reachBytes=140737488351232 by decide] at h3
  omega
theorem SA (n:Nat) : OpF enc Tryz.prog W n 24 (fun l:List Int=>[.sl (Is l)]) (fun l=>(∀ z∈l,-9223372036854775808≤z∧z≤9223372036854775807)∧l.length≤17592186044416):=QC.mono (Nat.le_succ n)
def cI6 (x:Itm) : List DV:=[.i .u8 x.kind,.b x.num.1,.sl (L x.num.2.1),.sl (L x.num.2.2),.i .i32 x.char,.sl (Ars x.box)]
def cA2 (a:Arr) : List DV:=[.sl (Is a.shape),.sl (Its a.items)]
theorem Rn {n:Nat} (h:OpF enc Tryz.prog W n 27 cA2 okAr) : OpF enc Tryz.prog W (n+1) 56 (fun l:List Arr=>[.sl (Ars l)]) (fun l=>l.length≤2932031007402∧∀ a∈l,okAr a):=by
 refine (Ix (α:=Arr) (F:=cA2) (sz:=2) Arr.dv (by kernel_rfl:Tryz.prog.underlying 56=some (.slice 27)) (by kernel_rfl) (by decide) (fun a=>by rw [Arr.dv_eq];rfl) h).map fun zs hz=>?_
 refine ⟨zs,⟨?_,hz.1⟩,by rw [Fo]⟩
 have h3:=hz.2
 rw [show Tryz.prog.bytesOf 27=48 by kernel_rfl,show reachBytes=140737488351232 by decide] at h3
 omega
theorem LS {n:Nat} (h:OpF enc Tryz.prog W n 58 cI6 okI) : OpF enc Tryz.prog W (n+1) 23 (fun l:List Itm=>[.sl (Its l)]) (fun l=>l.length≤1466015503701∧∀ x∈l,okI x):=by
 refine (Ix (α:=Itm) (F:=cI6) (sz:=6) Itm.dv (by kernel_rfl:Tryz.prog.underlying 23=some (.slice 58)) (by kernel_rfl) (by decide) (fun a=>by rw [Itm.dv_eq];rfl) h).map fun zs hz=>?_
 refine ⟨zs,⟨?_,hz.1⟩,by rw [Fi]⟩
 have h3:=hz.2
 rw [show Tryz.prog.bytesOf 58=96 by kernel_rfl,show reachBytes=140737488351232 by decide] at h3
 omega
theorem OF : ∀ n,OpF enc Tryz.prog W n 58 cI6 okI∧OpF enc Tryz.prog W n 27 cA2 okAr
 | 0=>by
  constructor <;>
  ·intro fuel cs x hf h _
   obtain rfl:fuel=0:=by omega
   simp [DataW.trod] at h
 | n+1=>by
  obtain ⟨hI,hA⟩:=OF n
  constructor
  ·refine OpF.mono (n:=n+1+1) ((Ob (t:=58) (T0:=55) (T1:=34) (T2:=21) (T3:=56) (s0:=1) (s1:=3) (s2:=1) (s3:=1) (by kernel_rfl) (by kernel_rfl) (by kernel_rfl) (Mn (by kernel_rfl:Tryz.prog.underlying 55=some (.int .u8))) (by kernel_rfl) (Ul (n+1)) (by kernel_rfl) (Mn (by kernel_rfl:Tryz.prog.underlying 21=some (.int .i32))) (by kernel_rfl) (Rn hA)).map fun r hr=>?_) (Nat.le_succ _)
   obtain ⟨k,q,c,b⟩:=r
   obtain ⟨h1,h2,h3,h4⟩:=hr
   refine ⟨.mk k q c b,?_,rfl⟩
   rw [EE]
   refine ⟨?_,h2,?_,h4⟩
   ·simp [Lit.wf,IntKind.min,IntKind.max,IntKind.signed,IntKind.bits] at h1
    show 0≤k∧k<256
    omega
   ·simp [Lit.wf,IntKind.min,IntKind.max,IntKind.signed,IntKind.bits] at h3
    show -2147483648≤c∧c<2147483648
    omega
  ·refine OpF.mono (n:=n+1+1) ((N0 (t:=27) (T0:=24) (T1:=23) (s0:=1) (s1:=1) (by kernel_rfl) (by kernel_rfl) (by kernel_rfl) (SA (n+1)) (by kernel_rfl) (LS hI)).map fun r hr=>?_) (Nat.le_succ _)
   obtain ⟨s,i⟩:=r
   obtain ⟨⟨h1,h2⟩,h3,h4⟩:=hr
   refine ⟨.mk s i,?_,rfl⟩
   rw [BI]
   exact ⟨h1,h2,h3,h4⟩
theorem Le (n:Nat) : OpF enc Tryz.prog W n 23 (fun l:List Itm=>[.sl (Its l)]) (fun l=>l.length≤1466015503701∧∀ x∈l,okI x):=(LS (OF n).1).mono (Nat.le_succ n)
end
theorem R4 {a:Arr} {n:Nat} {J:Nat→Nat} {i:Nat} (h:i<n) (f:J i<a.items.length) : (EN a n J)[i]'(by rw [FB];exact h)=a.items[J i]:=by
 unfold EN
 rw [List.getElem_map,List.getElem_range,lD,lG f];rfl
theorem UZ {n z i:Nat} {xs:List Itm} (hn:n≤4096) (hz:z≤n) (hi:i<z) : D3 [(i:Int)] [(z:Int)] (.mk [(n:Int)] xs) [(z:Int)] [1]=some (i:Int):=by
 have hF:AN=999999999999998+2:=rfl
 have e1:w64 ((i:Int) * 1)=(i:Int):=by rw [Int.mul_one];exact Bk (by omega) (by omega)
 have e2:w64 (0+(i:Int))=(i:Int):=by rw [Int.zero_add];exact Bk (by omega) (by omega)
 have a1:w64 (0+1)=1:=Bk (by omega) (by omega)
 unfold D3
 rw [B9,hF,Co,if_pos (by simp),Fd,oB,Fd,oB,B9,if_neg (by omega)]
 dsimp only
 rw [if_neg (by omega),D8,Fd,oB,oB,if_neg (by rw [decide_eq_true_eq];omega),Fd,oB,e1,e2,a1]
 rw [Co,if_neg (by simp)]
theorem R3 {n:Nat} {xs:List Itm} {z:Nat} (hz:z≤4096) : DM (.mk [] [GB z]) (.mk [(n:Int)] xs) =
  Bm (.mk [(n:Int)] xs) [(z:Int)] ⟨.fn 77 [] [.ptr [.sl (Is [(z:Int)])],.ptr [.sl (Is [(n:Int)]),.sl (Its xs)],.ptr [.sl (Is [(z:Int)])],.ptr [.sl (Is [1])]],fun x=>D3 x [(z:Int)] (.mk [(n:Int)] xs) [(z:Int)] [1]⟩:=by
 have hF:AN=999999999999998+2:=rfl
 have a1:w64 (0+1)=1:=Bk (by omega) (by omega)
 have hw:IntKind.wrap .i64 (0-(z:Int))=-(z:Int):=by
  rw [show IntKind.wrap .i64 (0-(z:Int))=0-(z:Int) from GD (by omega) (by omega)];omega
 have hl:∀ (K:Arr→Int→List Int→Option (Arr×Int)) (k:Nat),Cp ([(z:Int)],.mk [(n:Int)] xs,0) K (k+2) (.mk [] []) 0 0 [0]=K (.mk [] []) 0 [(z:Int)]:=by
  intro K k
  rw [Cp,if_pos (by simp),Fd,oB,if_neg (by omega),Fd,oB,hw,if_neg (by omega),a1]
  show Cp _ K (k+1) _ 0 1 [(z:Int)]=_
  rw [Cp,if_neg (by simp)]
 unfold DM
 rw [Li ⟨by omega,by omega⟩,oB,if_pos rfl,J3 (by simp),oB,B9,hF]
 refine Eq.trans (hl _ _) ?_
 show (Bi [(n:Int)]).bind _=_
 rw [DP (by simp),oB]
 have key:∀ m o:Option (Arr×Int),m=o→(m.bind fun x24=>some (x24.1,x24.2))=o:=fun m o h=>by subst h;cases m<;>rfl
 exact key _ _ rfl
def N5 (xs:List Itm) (z:Nat) : Arr:=if z=0 then .mk [0] [tyI (xs.headD default)] else vec (xs.take z)
theorem TJ {xs:List Itm} (h:VR xs) {z:Nat} (hz:z≤xs.length) : DM (.mk [] [GB z]) (vec xs)=some (N5 xs z,0):=by
 have h2:=h.2.1
 have hP:=Md h.ok h.2.2.2
 show DM (.mk [] [GB z]) (.mk [(xs.length:Int)] xs)=_
 rw [R3 (by omega)]
 unfold N5
 by_cases h0:z=0
 ·subst h0
  rw [if_pos rfl]
  exact (JA hP (by simp) rfl).trans h.zero.1
 ·rw [if_neg h0]
  have hpr:pr [z]=z:=by show z * 1=_;omega
  show Bm (vec xs) (up_ [z]) _=_
  rw [P4 (t:=[z]) (J:=fun i=>((i:Nat):Int)) hP (fun x hx=>by rw [List.mem_singleton] at hx;omega) (by simp) (by rw [hpr];omega) (fun i hi=>by
   rw [hpr] at hi
   refine ⟨?_,by show (i:Int)<(xs.length:Int);omega⟩
   have ea:atN [z] i=[i]:=by
    show [i / 1 % z]=_
    rw [Nat.div_one,Nat.mod_eq_of_lt hi]
   rw [ea]
   exact UZ h2 hz hi),hpr]
  have hit:((List.range z).map fun i=>KP (vec xs) (tyI ((vec xs).items.headD default)) ((i:Nat):Int))=xs.take z:=by
   refine List.ext_getElem (by simp;omega) fun i h1 h2=>?_
   have hi:i<z:=by simpa using h1
   rw [List.getElem_map,List.getElem_range,List.getElem_take]
   unfold KP
   rw [if_pos (by omega),Int.toNat_natCast]
   show xs.getD i default=_
   rw [lD,lG (by omega)];rfl
  have hl:(xs.take z).length=z:=by rw [List.length_take];omega
  have hd:VR (xs.take z):=h.sub (List.take_sublist z xs) (List.length_pos_iff.1 (by rw [hl];omega))
  have:=hd.make
  rw [hl] at this
  show AF [(z:Int)] ((List.range z).map fun i=>KP (vec xs) (tyI ((vec xs).items.headD default)) ((i:Nat):Int))=_
  rw [hit,this]
theorem U2 {m i:Nat} {xs:List Itm} (hm:m≤4096) (hx:xs.length≤4097) (hmx:m≤xs.length) (hi:i≤4096) : BD [(i:Int)] 0 (.mk [(m:Int)] xs) [1] [1]=some ((if i<m then i else xs.length+i-m:Nat) : Int):=by
 have hp:B2 [1] [(i:Int)]=some (i:Int):=by
  have:=MQ (l:=[1]) (c:=[i]) (by simp) (by simp) (by simp) (by simp;omega)
  have ep:plN [1] [i]=i:=by show 1 * i+0=i;omega
  rw [ep] at this
  exact this
 have e1:w64 (((List.length xs:Nat):Int)+(i:Int))=((xs.length+i:Nat):Int):=by
  rw [Bk (by omega) (by omega)];omega
 have e2:w64 (1 * (m:Int))=(m:Int):=by rw [Int.one_mul];exact Bk (by omega) (by omega)
 have e3:w64 (((xs.length+i:Nat):Int)-(m:Int))=((xs.length+i-m:Nat):Int):=by rw [Bk (by omega) (by omega)];omega
 unfold BD
 rw [D8,Dt,Fd,oB,Fd,oB,hp,oB,Fd,oB,oB,oB,e1,e2,e3]
 by_cases h:i<m
 ·rw [if_pos (by omega),if_pos h]
 ·rw [if_neg (by omega),if_neg h]
theorem TS {xs ys:List Itm} (hx:xs.length≤4097) (hy:ys.length≤4097) : AR [xs,ys]=some (xs++ys):=by
 have hF:AN=999999999999997+3:=rfl
 have e1:w64 (0+((List.length xs:Nat):Int))=((List.length xs:Nat):Int):=by rw [Int.zero_add];exact Bk (by omega) (by omega)
 have e2:w64 (((List.length xs:Nat):Int)+((List.length ys:Nat):Int))=((List.length xs+List.length ys:Nat):Int):=by rw [Bk (by omega) (by omega)];omega
 have a1:w64 (0+1)=1:=Bk (by omega) (by omega)
 have a2:w64 (1+1)=2:=Bk (by omega) (by omega)
 have l1:∀ (K:Int→Option (List Itm)) (k:Nat),Ai [xs,ys] K (k+3) 0 0=K ((List.length xs+List.length ys:Nat):Int):=by
  intro K k
  rw [Ai,if_pos (by simp),B9,Fd,oB,e1,J3 (by omega),oB,a1]
  show Ai [xs,ys] K (k+2) ((List.length xs:Nat):Int) 1=_
  have r1:rd? [xs,ys] 1=some ys:=rfl
  rw [Ai,if_pos (by simp),B9,r1,oB,e2,J3 (by omega),oB,a2]
  show Ai [xs,ys] K (k+1) ((List.length xs+List.length ys:Nat):Int) 2=_
  rw [Ai,if_neg (by simp)]
 have l4:∀ (K:List Itm→Option (List Itm)) (k:Nat),Am [xs,ys] K (k+3) [] 0=K (xs++ys):=by
  intro K k
  have r1:rd? [xs,ys] 1=some ys:=rfl
  rw [Am,if_pos (by simp),Fd,oB,Gw (by simp;omega),oB,a1,List.nil_append]
  rw [Am,if_pos (by simp),r1,oB,Gw (by omega),oB,a2]
  rw [Am,if_neg (by simp)]
 unfold AR
 rw [B9,hF,l1]
 rw [J3 (by show (0:Int)≤_∧_≤((1466015503701:Nat):Int);omega),oB,B9,l4]
theorem Qt {m n:Nat} {xs ys:List Itm} (hmn:m+n≤4096) (h0:m+n≠0) (hmx:m≤xs.length) (hx:xs.length≤4097) (hny:n≤ys.length) (hy:ys.length≤4097) :
  A4 (.mk [(m:Int)] xs) (.mk [(n:Int)] ys) 0=AF [((m+n:Nat):Int)] (xs.take m++ys.take n):=by
 have hF:AN=999999999999998+2:=rfl
 have a1:w64 (0+1)=1:=Bk (by omega) (by omega)
 have esum:w64 ((m:Int)+(n:Int))=((m+n:Nat):Int):=by rw [Bk (by omega) (by omega)];omega
 have s1:(Arr.mk [(m:Int)] xs).shape=[(m:Int)]:=rfl
 have s2:(Arr.mk [(n:Int)] ys).shape=[(n:Int)]:=rfl
 have i1:(Arr.mk [(m:Int)] xs).items=xs:=rfl
 have i2:(Arr.mk [(n:Int)] ys).items=ys:=rfl
 have l2:∀ (K:Arr→Int→Option (Arr×Int)) (k:Nat),Ba (.mk [(m:Int)] xs) (.mk [(n:Int)] ys) 0 K (k+2) (.mk [] []) 0 0=K (.mk [] []) 0:=by
  intro K k
  rw [Ba,if_pos (by rw [s1];simp),if_pos rfl,oB,if_neg (by decide),a1,Ba,if_neg (by rw [s1];simp)]
 unfold A4
 rw [B9,if_neg (by rw [s1];simp),if_neg (by rw [s1];simp),if_neg (by rw [s2];simp),if_neg (by rw [s1,s2];show ¬w64 (1+1)=1;decide),if_neg (by rw [s1,s2];show ¬w64 (1+1)=1;decide),if_pos (by rw [s1,s2];rfl),B9,hF,l2,s1,s2,H8 (by simp),oB,Fd,oB,Fd,oB,oB]
 have hset:List.set [(m:Int)] (Int.toNat 0) (w64 ((m:Int)+(n:Int)))=[((m+n:Nat):Int)]:=by rw [esum];rfl
 have hsz:=H6 (n:=m+n) hmn
 rw [hset,Ge (by simp),oB,hsz,if_neg (by simp;omega),i1,i2,TS hx hy,oB,DP (by simp),oB,DP (by simp),oB]
 have st1:∀ z:Int,(Hi [z]).1=[1]:=fun z=>rfl
 rw [st1,st1]
 have hpr:pr [m+n]=m+n:=by show (m+n) * 1=_;omega
 have hJ:∀ i,i<m+n→(if i<m then i else xs.length+i-m)<(xs++ys).length:=fun i hi=>by
  rw [List.length_append]
  split<;>omega
 have hb:=Mz (a:=.mk [] (xs++ys)) (t:=[m+n]) (J:=fun i=>if i<m then i else xs.length+i-m) (F:=⟨.fn 132 [] [.ptr [.i .i64 0],.ptr [.sl (Is [(m:Int)]),.sl (Its xs)],.ptr [.sl (Is [1])],.ptr [.sl (Is [1])]],fun x=>BD x 0 (.mk [(m:Int)] xs) [1] [1]⟩)
  (fun x hx=>by rw [List.mem_singleton] at hx;omega) (by simp) (by rw [hpr];omega) (fun i hi=>by
   rw [hpr] at hi
   refine ⟨?_,hJ i hi⟩
   have ea:atN [m+n] i=[i]:=by
    show [i / 1 % (m+n)]=_
    rw [Nat.div_one,Nat.mod_eq_of_lt hi]
   rw [ea]
   exact U2 (by omega) hx hmx (by omega))
 rw [hpr] at hb
 have hmv:EN (.mk [] (xs++ys)) (m+n) (fun i=>if i<m then i else xs.length+i-m)=xs.take m++ys.take n:=by
  have hl:(xs.take m).length=m:=by rw [List.length_take];omega
  refine List.ext_getElem (by rw [FB,List.length_append,hl,List.length_take];omega) fun i h1 h2=>?_
  have hi:i<m+n:=by rw [FB] at h1;exact h1
  rw [R4 hi (hJ i hi)]
  show (xs++ys)[if i<m then i else xs.length+i-m]'(hJ i hi)=_
  by_cases h:i<m
  ·simp only [if_pos h]
   rw [List.getElem_append_left (by omega),List.getElem_append_left (by omega),List.getElem_take]
  ·simp only [if_neg h]
   rw [List.getElem_append_right (by omega),List.getElem_append_right (by omega),List.getElem_take]
   congr 1
   omega
 rw [hmv] at hb
 have key:∀ m o:Option (Arr×Int),m=o→(m.bind fun x24=>some (x24.1,x24.2))=o:=fun m o h=>by subst h;cases m<;>rfl
 exact key _ _ hb
end Go.FL
