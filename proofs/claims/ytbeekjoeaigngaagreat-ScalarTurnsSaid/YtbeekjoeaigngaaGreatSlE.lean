/-
  Part 5 of the base of the proofs: a logic of our own over the calculus, the contracts of the functions
-/
import Derived.Test.YtbeekjoeaigngaaGreatSlD
set_option linter.unusedVariables false
namespace Go.FL
open Go Go.Proofs
mutual
def tyI : Itm→Itm
 | .mk k _ _ b=>if k=1 then .mk 1 (ofQ 0) 0 [] else if k=2 then .mk 2 (false,[],[]) 32 [] else .mk 3 (false,[],[]) 0 (tyBs b)
def tyA : Arr→Arr
 | .mk s i=>.mk s (tyIs i)
def tyIs : List Itm→List Itm
 | []=>[]
 | x::xs=>tyI x::tyIs xs
def tyBs : List Arr→List Arr
 | []=>[]
 | a::_=>[tyA a]
end
theorem Gk (s : List Int) (i : List Itm) : (Arr.mk s i).shape=s:=rfl
theorem Ek (s : List Int) (i : List Itm) : (Arr.mk s i).items=i:=rfl
theorem Jg (k : Int) (n : RT) (c : Int) (b : List Arr) : (Itm.mk k n c b).kind=k:=rfl
theorem WS (k : Int) (n : RT) (c : Int) (b : List Arr) : (Itm.mk k n c b).num=n:=rfl
theorem WF (k : Int) (n : RT) (c : Int) (b : List Arr) : (Itm.mk k n c b).char=c:=rfl
theorem Tb (k : Int) (n : RT) (c : Int) (b : List Arr) : (Itm.mk k n c b).box=b:=rfl
theorem TD (xs : List Itm) : tyIs xs=xs.map tyI:=by induction xs with
 | nil=>simp [tyIs]
 | cons x xs ih=>simp [tyIs,ih]
theorem Ib (a : Arr) : tyA a=.mk a.shape (a.items.map tyI):=by cases a;simp only [tyA,TD];rfl
theorem Gx : ∀ {xs : List Itm},rIs xs=true↔∀ x ∈ xs,rI x=true
 | []=>by simp [rIs]
 | x::xs=>by simp [rIs,Gx (xs:=xs)]
theorem Rz : ∀ {xs : List Arr},rBs xs=true↔∀ a ∈ xs,AT a=false∧rA a=true
 | []=>by simp [rBs]
 | x::xs=>by simp [rBs,Rz (xs:=xs)]
theorem Ei {x : Itm} (h : rI x=true) : (x.kind=1∧AQ x.num=true∧x.char=0∧x.box=[])∨(x.kind=2∧chB x.char=true∧x.num=(false,[],[])∧x.box=[])∨(x.kind=3∧x.num=(false,[],[])∧x.char=0∧∃ a,x.box=[a]∧AT a=false∧rA a=true):=by
 rw [UQ] at h
 by_cases k1:x.kind=1
 ·rw [if_pos k1] at h;simp only [Bool.and_eq_true,decide_eq_true_eq] at h
  exact .inl ⟨k1,h.1,h.2.1,List.length_eq_zero_iff.1 h.2.2⟩
 rw [if_neg k1] at h
 by_cases k2:x.kind=2
 ·rw [if_pos k2] at h;simp only [Bool.and_eq_true,decide_eq_true_eq] at h
  exact .inr (.inl ⟨k2,h.1,(LO x).1 h.2.1,List.length_eq_zero_iff.1 h.2.2⟩)
 rw [if_neg k2] at h
 by_cases k3:x.kind=3
 ·rw [if_pos k3] at h;simp only [Bool.and_eq_true,decide_eq_true_eq] at h
  obtain ⟨a,ha⟩:=List.length_eq_one_iff.1 h.1
  refine .inr (.inr ⟨k3,(LO x).1 h.2.1,h.2.2.1,a,ha,Rz.1 h.2.2.2 a (by simp [ha])⟩)
 ·rw [if_neg k3] at h;cases h
theorem Ur {r : RT} (h : AQ r=true) : Gl r=true:=by
 obtain ⟨p,hp,rfl⟩:=Fy.1 h
 exact Eh hp
def VU (x : Itm) : Prop:=rI (tyI x)=true∧dI (tyI x)=dI x∧cI (tyI x)=cI x∧tyI (tyI x)=tyI x∧(tyI x).kind=x.kind∧okI (tyI x)
theorem QK {s : List Int} {i : List Itm} {f : Itm→Itm} (h : ∀ x ∈ i,(f x).kind=x.kind) : AT (.mk s (i.map f))=AT (.mk s i):=by
 unfold AT
 match i with
 | []=>rfl
 | [x]=>simp only [Gk,Ek,List.map,h x (by simp)]
 | x::y::r=>rfl
theorem RK {f : Itm→Itm} : ∀ {i : List Itm},(∀ x ∈ i,cI (f x)=cI x)→cIs (i.map f)=cIs i
 | [],_=>rfl
 | x::xs,h=>by simp only [List.map,cIs];rw [h x (by simp),RK fun y hy=>h y (by simp [hy])]
theorem Rl {f : Itm→Itm} : ∀ {i : List Itm},(∀ x ∈ i,dI (f x)=dI x)→dIs (i.map f)=dIs i
 | [],_=>rfl
 | x::xs,h=>by simp only [List.map,dIs];rw [h x (by simp),Rl fun y hy=>h y (by simp [hy])]
theorem Xa {a : Arr} (oa : okAr a) (hr : rA a=true) (ih : ∀ x ∈ a.items,VU x) : rA (tyA a)=true∧dA (tyA a)=dA a∧cA (tyA a)=cA a∧tyA (tyA a)=tyA a∧AT (tyA a)=AT a∧okAr (tyA a):=by
 have o:=(Bm a).1 oa
 have hs:AT (tyA a)=AT a:=by
  rw [Ib,QK (fun x hx=>(ih x hx).2.2.2.2.1),Arr.eta]
 rw [KN] at hr
 simp only [Bool.and_eq_true,decide_eq_true_eq] at hr
 refine ⟨?_,?_,?_,?_,hs,?_⟩
 ·rw [KN,Ib]
  simp only [Gk,Ek,List.length_map,Bool.and_eq_true,decide_eq_true_eq]
  refine ⟨dT hr.1,hr.2.1,Gx.2 fun x hx=>?_⟩
  obtain ⟨y,hy,rfl⟩:=List.mem_map.1 hx
  exact (ih y hy).1
 ·rw [Mv,Mv,hs,Ib]
  simp only [Ek]
  rw [Rl fun x hx=>(ih x hx).2.1]
 ·rw [KQ,KQ,Ib]
  simp only [Ek,List.length_map]
  rw [RK fun x hx=>(ih x hx).2.2.1]
 ·rw [Ib,Ib]
  simp only [Gk,Ek,List.map_map,Arr.mk.injEq,true_and]
  exact List.map_congr_left fun x hx=>(ih x hx).2.2.2.1
 ·rw [Bm,Ib]
  simp only [Gk,Ek,List.length_map]
  refine ⟨o.1,o.2.1,o.2.2.1,fun x hx=>?_⟩
  obtain ⟨y,hy,rfl⟩:=List.mem_map.1 hx
  exact (ih y hy).2.2.2.2.2
theorem SK (n : RT) (c : Int) (b : List Arr) : tyI (.mk 1 n c b)=.mk 1 (ofQ 0) 0 []:=by simp [tyI]
theorem S0 (n : RT) (c : Int) (b : List Arr) : tyI (.mk 2 n c b)=.mk 2 (false,[],[]) 32 []:=by simp [tyI]
theorem T7 (n : RT) (c : Int) (a : Arr) : tyI (.mk 3 n c [a])=.mk 3 (false,[],[]) 0 [tyA a]:=by simp [tyI,tyBs]
theorem ON {r : RT} (h : Gl r=true) : okI (.mk 1 r 0 []):=by
 simp [okI,okAs,h]
theorem Td {c : Int} (h : chB c=true) : okI (.mk 2 (false,[],[]) c []):=by
 simp only [chB,Bool.and_eq_true,decide_eq_true_eq] at h
 refine ⟨by omega,rfl,by omega,by simp,trivial⟩
theorem OL {a : Arr} (h : okAr a) : okI (.mk 3 (false,[],[]) 0 [a]):=⟨by omega,rfl,by omega,by simp,h,trivial⟩
theorem RG {r : RT} (h : AQ r=true) : rI (.mk 1 r 0 [])=true:=by simp [rI,h]
theorem Vy {c : Int} (h : chB c=true) : rI (.mk 2 (false,[],[]) c [])=true:=by simp [rI,h,Er,Itm.num]
theorem U3 {a : Arr} (h : rA a=true) (hs : AT a=false) : rI (.mk 3 (false,[],[]) 0 [a])=true:=by simp [rI,rBs,h,hs,Er,Itm.num]
theorem Ug : ∀ (k : Nat) {x : Itm},x.size<k→okI x→rI x=true→VU x
 | 0,x,h,_,_=>by omega
 | k+1,x,h,ho,hr=>by
  have hc:=Ei hr
  cases x with
  | mk kd n c b =>
   simp only [Jg,WS,WF,Tb] at hc
   unfold VU
   rcases hc with ⟨rfl,h1,rfl,rfl⟩ | ⟨rfl,h1,rfl,rfl⟩ | ⟨rfl,rfl,rfl,a,rfl,h2,h3⟩
   ·rw [SK,SK]
    exact ⟨RG (CO J4),rfl,rfl,rfl,rfl,ON (Eh J4)⟩
   ·rw [S0,S0]
    exact ⟨Vy rfl,rfl,rfl,rfl,rfl,Td rfl⟩
   ·have hb:a ∈ Itm.box (.mk 3 (false,[],[]) 0 [a]):=by simp [Itm.box]
    have hz:=Gg hb
    have oa:okAr a:=((Ez _).1 ho).2.2.2.2 a hb
    have h3':=h3
    rw [KN] at h3';simp only [Bool.and_eq_true] at h3'
    obtain ⟨p1,p2,p3,p4,p5,p6⟩:=Xa oa h3 fun y hy=>Ug k (by have:=Ga hy;omega) (((Bm a).1 oa).2.2.2 y hy) (Gx.1 h3'.2.2 y hy)
    rw [T7,T7,p4]
    refine ⟨U3 p1 (by rw [p5,h2]),?_,?_,rfl,rfl,OL p6⟩
    ·simp only [dI,dBs,p2]
    ·simp only [cI,cBs,p3]
theorem U5 {x : Itm} (ho : okI x) (hr : rI x=true) : VU x:=Ug _ (Nat.lt_succ_self _) ho hr
theorem LJ : ∀ (k : Nat) {x : Itm},x.size<k→okI x→rI x=true→EI k x=some (tyI x)
 | 0,x,h,_,_=>by omega
 | k+1,x,h,ho,hr=>by
  have hc:=Ei hr
  cases x with
  | mk kd n c b =>
   simp only [Jg,WS,WF,Tb] at hc
   rw [EI,GI]
   rcases hc with ⟨rfl,h1,rfl,rfl⟩ | ⟨rfl,h1,rfl,rfl⟩ | ⟨rfl,rfl,rfl,a,rfl,h2,h3⟩
   ·rw [if_pos (Jg 1 n 0 []),SK,Kw (by omega) (by omega),oB,Rat.intCast_zero,Ls (Eh J4),oB]
   ·rw [if_neg (by rw [Jg];decide),if_pos (Jg 2 _ c []),S0];rfl
   ·have hb:a ∈ Itm.box (.mk 3 (false,[],[]) 0 [a]):=by simp [Itm.box]
    have hz:=Gg hb
    have oa:okAr a:=((Ez _).1 ho).2.2.2.2 a hb
    have h3':=h3
    rw [KN] at h3';simp only [Bool.and_eq_true] at h3'
    have o:=(Bm a).1 oa
    rw [if_neg (by rw [Jg];decide),if_neg (by rw [Jg];decide),Tb,NY,oB,KR (h:=tyI) (fun y hy=>LJ k (by have:=Ga hy;omega) (o.2.2.2 y hy) (Gx.1 h3'.2.2 y hy)) o.2.1 o.2.2.1,oB,T7,Ib]
theorem UE {x : Itm} (ho : okI x) (hr : rI x=true) : L6 x=some (tyI x):=LJ _ (Nat.lt_succ_self _) ho hr
theorem M7 {a : Arr} (h : rA a=true) : (szP a.shape).2=0∧(a.items.length : Int)=(if (szP a.shape).1<1 then 1 else (szP a.shape).1)∧∀ x ∈ a.items,rI x=true:=by
 rw [KN] at h;simp only [Bool.and_eq_true,decide_eq_true_eq] at h
 exact ⟨h.1,h.2.1,Gx.1 h.2.2⟩
theorem LN {a : Arr} (ha : okAr a) (hr : A0 a) : Bx a=some (if AT a then a.items.headD default else .mk 3 (false,[],[]) 0 [a]):=by
 have o:=(Bm a).1 ha
 unfold Bx
 rw [GX ha,oB,dT hr,if_pos rfl,IC,oB]
 by_cases hs:AT a=true
 ·rw [if_pos hs,if_pos hs]
  have:=hs
  unfold AT at this
  rw [Bool.and_eq_true] at this
  match hi:a.items,this.2 with
  | [x],_=>rw [NY,oB,JN (o.2.2.2 x (by simp [hi]))];rfl
 ·rw [if_neg hs,if_neg hs,NN ha];rfl
theorem JC {a : Arr} (h : AT a=true) : ∃ x,a=.mk [] [x]∧x.kind ≠ 3:=by
 cases a with
 | mk s i =>
  unfold AT at h
  simp only [Gk,Ek,Bool.and_eq_true,List.isEmpty_iff] at h
  match i,h.2 with
  | [x],h2=>exact ⟨x,by rw [h.1],by simpa using h2⟩
theorem Yn {x : Itm} (hx : okI x) (hr : Bl x) : Ex x=some (if x.kind=3 then x.box.headD default else .mk [] [x]):=by
 unfold Ex
 rw [Kt hx,oB,dT hr,if_pos rfl]
 by_cases k:x.kind=3
 ·rw [if_pos k,if_pos k]
  rcases Ei hr.1 with h | h | ⟨_,_,_,a,h,_⟩
  ·omega
  ·omega
  ·rw [h,NY,oB,NN (((Ez x).1 hx).2.2.2.2 a (by simp [h]))];rfl
 ·rw [if_neg k,if_neg k,JN hx];rfl
theorem Nl {xs : List Itm} {f : Cf} {p : Itm→Bool} (hf : ∀ x ∈ xs,f.g x=some (p x)) (K : Int→Option Int) (hl : xs.length≤17592186044416) : ∀ (n i k : Nat) (s : Int),n=xs.length - i→i≤xs.length→n<k →
  (Aw xs f K k s (i:Int)=K s∧(xs.drop i).any p=false)∨(∃ j:Nat,Aw xs f K k s (i:Int)=some (j:Int)∧(xs.drop i).any p=true)
 | _,_,0,_,_,_,h=>by omega
 | n,i,k+1,s,hn,hi,hk=>by
  rw [Aw]
  by_cases h:i<xs.length
  ·rw [if_pos (by omega),Dp h,oB,hf _ (List.getElem_mem h),oB,List.drop_eq_getElem_cons h,List.any_cons]
   by_cases hp:p xs[i]=true
   ·rw [if_pos hp,hp];exact .inr ⟨i,rfl,rfl⟩
   ·rw [if_neg hp,Dj (by omega)]
    have:p xs[i]=false:=by simpa using hp
    rw [this,Bool.false_or]
    exact Nl hf K hl (n - 1) (i+1) k s (by omega) (by omega) (by omega)
  ·rw [if_neg (by omega),List.drop_of_length_le (by omega)];exact .inl ⟨rfl,rfl⟩
theorem MF {xs : List Itm} {f : Cf} {p : Itm→Bool} (hf : ∀ x ∈ xs,f.g x=some (p x)) (hl : xs.length≤17592186044416) : AG xs f=some (xs.any p):=by
 unfold AG A8
 rw [HF]
 rcases Nl hf (fun _=>some (-1)) hl xs.length 0 BC 0 rfl (Nat.zero_le _) (Di (by omega)) with ⟨h1,h2⟩ | ⟨j,h1,h2⟩
 ·rw [show ((0:Nat):Int)=0 from rfl] at h1
  rw [h1,oB,List.drop_zero] at *
  rw [h2];rfl
 ·rw [show ((0:Nat):Int)=0 from rfl] at h1
  rw [h1,oB]
  rw [List.drop_zero] at h2
  rw [h2,dT (by omega)]
def DW (xs : List Itm) : List Int:=xs.map fun x=>((1+cI x : Nat) : Int)
theorem IG {x : Itm} (hx : okI x) (hr : Bl x) : ∀ a ∈ x.box,okAr a∧A0 a∧cI x=cA a∧x.box=[a]:=fun a ha=>by
 have oa:=((Ez x).1 hx).2.2.2.2 a ha
 rcases Ei hr.1 with ⟨_,_,_,h⟩ | ⟨_,_,_,h⟩ | ⟨_,_,_,b,h,h2,h3⟩
 ·rw [h] at ha;cases ha
 ·rw [h] at ha;cases ha
 ·have hb:=ha
  rw [h,List.mem_singleton] at hb
  subst hb
  have e1:cI x=cA a:=by rw [KM,h];simp [cBs]
  have e2:dI x=dA a:=by rw [Ml,h];simp [dBs]
  exact ⟨oa,⟨h3,e2 ▸ hr.2.1,e1 ▸ hr.2.2⟩,e1,h⟩
theorem Wi {x : Itm} (hx : okI x) (hr : Bl x) (K : Int→Option (Arr × Int)) : Ci x K BC 1 0=K ((1+cI x : Nat) : Int):=by
 have hF:BC=999999999999998+1+1:=rfl
 rw [hF,Ci]
 by_cases hb:x.box=[]
 ·rw [if_neg (by rw [hb];decide)]
  have:cI x=0:=by rw [KM,hb];rfl
  rw [this];rfl
 ·obtain ⟨a,ha⟩:=List.exists_mem_of_ne_nil _ hb
  obtain ⟨oa,ra,e1,e2⟩:=IG hx hr a ha
  have h16:=ra.2.2
  rw [e2,if_pos (by simp),NY,oB,Uh oa,oB,if_pos ra,Ci,e2,if_neg (by rw [show w64 ((0:Int)+1)=1 from rfl];simp),Iz (by omega) (by omega),e1]
  congr 1
theorem RW {xs : List Itm} (hx : ∀ x ∈ xs,okI x∧Bl x) (hl : xs.length≤1466015503701) (K : List Int→Option (Arr × Int)) : ∀ (n i k : Nat) (t : List Int),n=xs.length - i→i≤xs.length→n<k→t.length=i →
  BR xs K k t (i:Int)=K (t++(DW xs).drop i)
 | _,_,0,_,_,_,h,_=>by omega
 | n,i,k+1,t,hn,hi,hk,ht=>by
  rw [BR]
  have hcl:(DW xs).length=xs.length:=by simp [DW]
  by_cases h:i<xs.length
  ·obtain ⟨o,r⟩:=hx _ (List.getElem_mem h)
   have hd:(DW xs)[i]'(by omega)=((1+cI xs[i]:Nat):Int):=by simp [DW]
   rw [if_pos (by omega),HF,Dp h,oB,HF,Wi o r,KT (by simp;omega),oB,Dj (by omega)]
   show BR xs K k (t++[((1+cI xs[i]:Nat):Int)]) ((i+1:Nat):Int)=_
   rw [RW hx hl K (n - 1) (i+1) k _ (by omega) (by omega) (by omega) (by simp [ht]),
    List.drop_eq_getElem_cons (by omega:i<(DW xs).length),hd,List.append_assoc]
   rfl
  ·rw [if_neg (by omega),List.drop_of_length_le (by omega),List.append_nil]
def cyc (xs : List Itm) (n : Nat) : List Itm:=(List.range n).map fun i=>xs.getD (i % xs.length) default
theorem L5 (xs : List Itm) (n : Nat) : cyc xs (n+1)=cyc xs n++[xs.getD (n % xs.length) default]:=by
 unfold cyc;rw [List.range_succ,List.map_append];rfl
theorem Gn (xs : List Itm) (n : Nat) : (cyc xs n).length=n:=by simp [cyc]
theorem OD (xs ys : List Itm) : cIs (xs++ys)=cIs xs+cIs ys:=by
 induction xs with
 | nil=>simp [cIs]
 | cons x xs ih=>simp only [List.cons_append,cIs,ih];omega
theorem SF {xs : List Itm} (h : xs ≠ []) {n : Nat} {x : Itm} (hx : x ∈ cyc xs n) : x ∈ xs:=by
 unfold cyc at hx
 obtain ⟨i,_,rfl⟩:=List.mem_map.1 hx
 have hp:0<xs.length:=List.length_pos_iff.2 h
 have hlt:=Nat.mod_lt i hp
 rw [List.getD_eq_getElem?_getD,List.getElem?_eq_getElem hlt]
 exact List.getElem_mem hlt
theorem XA (xs : List Itm) {i n : Nat} (h : i≤n) : i+cIs (cyc xs i)≤n+cIs (cyc xs n):=by
 induction n with
 | zero =>
  have:i=0:=by omega
  subst this;exact Nat.le_refl _
 | succ n ih =>
  by_cases he:i=n+1
  ·subst he;exact Nat.le_refl _
  ·have:=ih (by omega)
   rw [L5,OD];omega
theorem Rq {xs : List Itm} (hx : ∀ x ∈ xs,okI x∧Bl x) (hne : xs ≠ []) (hl : xs.length≤1466015503701) {m : Nat} (hm : m≤4096) (x1 : Int × Int) (hx1 : x1.1=(m : Int)) (K : Arr→Int→List Int→List Itm→Option (Arr × Int)) (a : Arr) (b : Int) (s : List Int) (t0 : List Itm) (ht0 : t0.length≤1) : ∀ (n i k : Nat),n=m - i→i≤m→n<k→i+cIs (cyc xs i)≤16384 →
  BS xs x1 (DW xs) K k a b (i:Int) ((i+cIs (cyc xs i):Nat):Int) s (t0++cyc xs i)=if m+cIs (cyc xs m)≤16384 then K a b s (t0++cyc xs m) else some (.mk [] [],8)
 | _,_,0,_,_,h,_=>by omega
 | n,i,k+1,hn,hi,hk,hc=>by
  rw [BS]
  have hcl:(DW xs).length=xs.length:=by simp [DW]
  have hp:0<xs.length:=List.length_pos_iff.2 hne
  by_cases h:i<m
  ·have hlt:=Nat.mod_lt i hp
   have htm:Int.tmod (i:Int) ((xs.length:Nat):Int)=((i % xs.length:Nat):Int):=by
    rw [Int.tmod_eq_emod_of_nonneg (by omega)];rfl
   have hgr:JO (((List.length xs:Nat):Int) ≠ 0)=some ():=if_pos (by omega)
   have hd:(DW xs)[i % xs.length]'(by omega)=((1+cI xs[i % xs.length]:Nat):Int):=by simp [DW]
   obtain ⟨o,r⟩:=hx _ (List.getElem_mem hlt)
   have hg:xs.getD (i % xs.length) default=xs[i % xs.length]:=by rw [List.getD_eq_getElem?_getD,List.getElem?_eq_getElem hlt];rfl
   have hci:cI xs[i % xs.length]≤16384:=r.2.2
   have hsum:cIs (cyc xs (i+1))=cIs (cyc xs i)+cI xs[i % xs.length]:=by rw [L5,OD,hg];simp [cIs]
   rw [if_pos (by omega),hgr,oB,htm,Dp (by omega:i % xs.length<(DW xs).length),oB,hd,Iz (by omega) (by omega)]
   by_cases hbig:(16384:Int)<((i+cIs (cyc xs i):Nat):Int)+((1+cI xs[i % xs.length]:Nat):Int)
   ·rw [if_pos hbig,if_neg]
    have:=XA xs (show i+1≤m by omega)
    omega
   ·have hlen:=Gn xs i
    rw [if_neg hbig,oB,Dp hlt,oB,JN o,oB,KT (by simp;omega),oB,Dj (by omega)]
    have ih:=Rq hx hne hl hm x1 hx1 K a b s t0 ht0 (n - 1) (i+1) k (by omega) (by omega) (by omega) (by omega)
    rw [L5,hg] at ih
    rw [← ih,List.append_assoc]
    congr 1
    rw [OD];simp only [cIs];omega
  ·have:i=m:=by omega
   subst this
   rw [if_neg (by omega),if_pos hc]
def BX (n : Int) (xs : List Itm) : List Itm:=if n=0 then [tyI (xs.headD default)] else cyc xs n.toNat
theorem Qa {s : List Int} {xs : List Itm} (hs : ∀ z ∈ s,-9223372036854775808≤z∧z≤9223372036854775807) (hl : s.length≤17592186044416) (hxl : xs.length≤1466015503701) (hx : ∀ x ∈ xs,okI x) :
  BQ s xs=some (if (szP s).2 ≠ 0 then (.mk [] [],(szP s).2) else if xs=[]∨¬ (∀ x ∈ xs,Bl x) then (.mk [] [],22) else if A0 (.mk s (BX (szP s).1 xs)) then (.mk s (BX (szP s).1 xs),0) else (.mk [] [],8)):=by
 unfold BQ
 rw [ID hl,oB]
 by_cases h0:(szP s).2=0
 rotate_left
 ·rw [if_neg h0,if_pos h0]
 have h0':¬ ((szP s).2 ≠ 0):=fun h=>h h0
 rw [if_pos h0,if_neg h0']
 by_cases hn:xs=[]
 ·subst hn;rw [if_pos (show ((([]:List Itm).length:Nat):Int)=0 from rfl),if_pos (.inl rfl)];rfl
 have hlen:¬ ((xs.length:Nat):Int)=0:=by have:=List.length_pos_iff.2 hn;omega
 rw [if_neg hlen,MF (p:=fun x=>!decide (Bl x)) (fun x hx'=>by
  show En x=_
  unfold En;rw [Kt (hx x hx'),oB]) (by omega),oB,oB]
 by_cases hr:∀ x ∈ xs,Bl x
 rotate_left
 ·rw [if_pos (.inr hr:xs=[]∨¬ ∀ x ∈ xs,Bl x),if_pos]
  rw [List.any_eq_true]
  simp only [Classical.not_forall] at hr
  obtain ⟨x,h1,h2⟩:=hr
  exact ⟨x,h1,by rw [dF h2];rfl⟩
 rw [if_neg (show ¬ (xs=[]∨¬ ∀ x ∈ xs,Bl x) from fun h=>h.elim hn fun h=>h hr),if_neg (by
  intro h
  rw [List.any_eq_true] at h
  obtain ⟨x,h1,h2⟩:=h
  rw [dT (hr x h1)] at h2;cases h2),Nn hl,oB,HF]
 have hp:0<xs.length:=List.length_pos_iff.2 hn
 have hxr:∀ x ∈ xs,okI x∧Bl x:=fun x h=>⟨hx x h,hr x h⟩
 obtain ⟨hz0,hz1⟩:=IA s
 obtain ⟨m,hm⟩:∃ m:Nat,(szP s).1=(m:Int):=⟨(szP s).1.toNat,by omega⟩
 have hgo:∀ t0:List Itm,t0.length≤1→t0++cyc xs m=BX (szP s).1 xs→(∀ x ∈ BX (szP s).1 xs,okI x)→m+cIs (cyc xs m)≤cA (.mk s (BX (szP s).1 xs)) →
   BR xs (fun z8=>jn (fun z19 z20 z21 z22=>(Bk (Arr.mk z21 z22)).bind fun x35=>if x35=true then some (Arr.mk z21 z22,0) else some (Arr.mk [] [],8)) fun K6=>BS xs (szP s) z8 K6 BC (Arr.mk [] []) 0 0 0 s t0) BC [] 0=some (if A0 (.mk s (BX (szP s).1 xs)) then (.mk s (BX (szP s).1 xs),0) else (.mk [] [],8)):=by
  intro t0 ht0 he hok hca
  have e2:=RW hxr hxl (fun z8=>jn (fun z19 z20 z21 z22=>(Bk (Arr.mk z21 z22)).bind fun x35=>if x35=true then some (Arr.mk z21 z22,0) else some (Arr.mk [] [],8)) fun K6=>BS xs (szP s) z8 K6 BC (Arr.mk [] []) 0 0 0 s t0) xs.length 0 BC [] rfl (Nat.zero_le _) (Di (by omega)) rfl
  rw [show ((0:Nat):Int)=0 from rfl] at e2
  rw [e2,List.nil_append,List.drop_zero]
  show jn _ _=_
  rw [HF]
  have e7:=Rq hxr hn hxl (show m≤4096 by omega) (szP s) hm (fun z19 z20 z21 z22=>(Bk (Arr.mk z21 z22)).bind fun x35=>if x35=true then some (Arr.mk z21 z22,0) else some (Arr.mk [] [],8)) (Arr.mk [] []) 0 s t0 ht0 m 0 BC rfl (Nat.zero_le _) (Di (by omega)) (by show 0+0≤_;omega)
  rw [show cyc xs 0=[] from rfl,List.append_nil,show ((0:Nat):Int)=0 from rfl] at e7
  rw [show (((0+cIs []:Nat)):Int)=0 from rfl] at e7
  rw [e7,he]
  have hit:(BX (szP s).1 xs).length≤1466015503701:=by
   rw [← he,List.length_append,Gn];omega
  have ho:okAr (.mk s (BX (szP s).1 xs)):=by
   rw [Bm];exact ⟨hs,hl,hit,hok⟩
  rw [GX ho]
  by_cases hR:A0 (.mk s (BX (szP s).1 xs))
  ·rw [if_pos (Nat.le_trans hca hR.2.2),if_pos hR,dT hR];rfl
  ·rw [if_neg hR,dF hR];split <;> rfl
 by_cases hz:(szP s).1=0
 ·have hm0:m=0:=by omega
  subst hm0
  obtain ⟨y,ys,rfl⟩:=List.exists_cons_of_ne_nil hn
  have hmk:BX (szP s).1 (y::ys)=[tyI y]:=by unfold BX;rw [if_pos hz];rfl
  obtain ⟨o,r⟩:=hxr y (by simp)
  rw [if_pos hz,NY,oB,UE o r.1,oB]
  show jn _ _=_
  rw [HF]
  refine hgo [tyI y] (by simp) (by rw [hmk];rfl) ?_ ?_
  ·rw [hmk];intro x hx';rw [List.mem_singleton] at hx';subst hx';exact (U5 o r.1).2.2.2.2.2
  ·show 0+0≤_;omega
 ·have hmk:BX (szP s).1 xs=cyc xs m:=by unfold BX;rw [if_neg hz,hm];rfl
  rw [if_neg hz]
  show jn _ _=_
  rw [HF]
  refine hgo [] (by simp) (by rw [hmk];rfl) ?_ ?_
  ·rw [hmk];intro x hx';exact hx x (SF hn hx')
  ·rw [hmk,KQ,Ek,Gn];omega
def Lf (z : Int) : Prop:=-9223372036854775808≤z∧z≤9223372036854775807
def DM (z : Int) : Itm:=.mk 1 (ofQ (z : Rat)) 0 []
theorem F8 {z : Int} (h : Lf z) : CZ (z : Rat):=T6 h.1 (by have:=h.2;omega)
theorem SG {z : Int} (h : Lf z) : okI (DM z):=ON (Eh (F8 h))
theorem Lb {z : Int} (h : Lf z) : rI (DM z)=true:=RG (CO (F8 h))
theorem Fk : Lf 0:=by unfold Lf;omega
theorem UZ {z : Int} (h : Lf z) {β : Type} (f : Itm→Option β) : ((BM z).bind fun q=>(BW q).bind f)=f (DM z):=by
 rw [Kw h.1 h.2,oB,Ls (Eh (F8 h)),oB];rfl
theorem SR : ∀ {l : List Int},(∀ z ∈ l,Lf z)→GB l=some (l.map DM)
 | [],_=>rfl
 | z::zs,h=>by
  rw [GB,UZ (h z (by simp)),SR fun y hy=>h y (by simp [hy]),oB];rfl
theorem Yx {l : List Int} (h : ∀ z ∈ l,Lf z) (hl : l.length≤9223372036854775806) : IB l=some (JK (DM 0) (l.map DM)):=by
 unfold IB
 rw [if_pos hl,SR h,oB,UZ Fk]
theorem ZZ {z : Int} (h : Lf z) : HA z=some (.mk [] [DM z]):=by
 unfold HA;rw [UZ h];rfl
theorem SU {n : Nat} (h : n≤4096) : szP [(n : Int)]=((n : Int),0):=by
 unfold szP Fw
 simp only [List.length_cons,List.length_nil,List.any_cons,List.any_nil,Bool.or_false,decide_eq_true_eq,List.foldl_cons,List.foldl_nil,List.mem_singleton,Int.one_mul]
 rw [if_neg (by omega),if_neg (by omega),if_neg (by omega)]
 by_cases h0:(0:Int)=n
 ·rw [if_pos h0,← h0]
 ·rw [if_neg h0,if_pos (by omega)]
theorem Yq : szP []=(1,0):=rfl
theorem O6 {s : List Int} {i : List Itm} {n : Int} (hs : szP s=(n,0)) (hl : (i.length : Int)=if n<1 then 1 else n) (hi : ∀ x ∈ i,rI x=true∧x.box=[]) : A0 (.mk s i)∧cA (.mk s i)=i.length∧dA (.mk s i)=if AT (.mk s i) then 0 else 1:=by
 have hn:=IA s
 rw [hs] at hn
 have hc:cIs i=0:=by
  clear hl
  induction i with
  | nil=>rfl
  | cons x xs ih=>rw [cIs,KM,(hi x (by simp)).2,ih fun y hy=>hi y (by simp [hy])];rfl
 have hd:dIs i=0:=by
  clear hl hc
  induction i with
  | nil=>rfl
  | cons x xs ih=>rw [dIs,Ml,(hi x (by simp)).2,ih fun y hy=>hi y (by simp [hy])];rfl
 have hcA:cA (.mk s i)=i.length:=by rw [KQ,Ek,hc];rfl
 have hdA:dA (.mk s i)=if AT (.mk s i) then 0 else 1:=by rw [Mv,Ek,hd]
 refine ⟨⟨?_,?_,?_⟩,hcA,hdA⟩
 ·rw [KN,Gk,Ek,hs,hl,dT rfl,dT rfl,Gx.2 fun x hx=>(hi x hx).1];rfl
 ·rw [hdA];split <;> omega
 ·rw [hcA];have:(i.length:Int)≤4096:=by rw [hl];split <;> omega
  omega
theorem Vf {p : Itm} {xs : List Itm} (hp : rI p=true∧p.box=[]) (hx : ∀ x ∈ xs,rI x=true∧x.box=[]) : A0 (JK p xs)∧(okI p→(∀ x ∈ xs,okI x)→okAr (JK p xs))∧szP (JK p xs).shape=(((min xs.length 4096 : Nat) : Int),0):=by
 have hs:szP [((min xs.length 4096:Nat):Int)]=(((min xs.length 4096:Nat):Int),0):=SU (Nat.min_le_right _ _)
 have hmem:∀ {P:Itm→Prop},P p→(∀ x ∈ xs,P x)→∀ x ∈ (if xs.length=0 then [p] else xs.take 4096),P x:=by
  intro P h1 h2 x hx
  split at hx
  ·rw [List.mem_singleton] at hx;rw [hx];exact h1
  ·exact h2 x (List.mem_of_mem_take hx)
 have hlen:((if xs.length=0 then [p] else xs.take 4096).length:Int)=if ((min xs.length 4096:Nat):Int)<1 then 1 else ((min xs.length 4096:Nat):Int):=by
  split
  ·rename_i h0;rw [h0];rfl
  ·rename_i h0
   rw [if_neg (by omega),List.length_take];omega
 refine ⟨(O6 hs hlen (hmem hp hx)).1,fun h1 h2=>?_,hs⟩
 unfold JK
 rw [Bm,Gk,Ek]
 refine ⟨?_,by simp,?_,hmem h1 h2⟩
 ·intro z hz;rw [List.mem_singleton] at hz;subst hz;omega
 ·have:((if xs.length=0 then [p] else xs.take 4096).length:Int)≤4096:=by rw [hlen];split <;> omega
  omega
theorem ZT {l : List Int} (h : ∀ z ∈ l,Lf z) : ∀ x ∈ l.map DM,rI x=true∧x.box=[]:=fun x hx=>by
 obtain ⟨z,hz,rfl⟩:=List.mem_map.1 hx
 exact ⟨Lb (h z hz),rfl⟩
theorem Aau {l : List Int} (h : ∀ z ∈ l,Lf z) : ∀ x ∈ l.map DM,okI x:=fun x hx=>by
 obtain ⟨z,hz,rfl⟩:=List.mem_map.1 hx
 exact SG (h z hz)
def Z9 (l : List Int) : Arr:=JK (DM 0) (l.map DM)
theorem XZ {l : List Int} (h : ∀ z ∈ l,Lf z) : A0 (Z9 l):=(Vf ⟨Lb Fk,rfl⟩ (ZT h)).1
theorem Zz {l : List Int} (h : ∀ z ∈ l,Lf z) : okAr (Z9 l):=(Vf ⟨Lb Fk,rfl⟩ (ZT h)).2.1 (SG Fk) (Aau h)
theorem Rf {x : Itm} (h : rI x=true) (hb : x.box=[]) (hk : x.kind ≠ 3) : A0 (.mk [] [x])∧AT (.mk [] [x])=true:=by
 refine ⟨(O6 Yq rfl fun y hy=>by rw [List.mem_singleton] at hy;subst hy;exact ⟨h,hb⟩).1,?_⟩
 unfold AT;simp [Gk,Ek,hk]
theorem Zk {x : Itm} (h : okI x) : okAr (.mk [] [x]):=by
 rw [Bm,Gk,Ek]
 exact ⟨nofun,by simp,by simp,fun y hy=>by rw [List.mem_singleton] at hy;rw [hy];exact h⟩
end Go.FL
namespace Go.FL
open Go Go.RowKit
theorem Ep {α β : Type} {f g : α→Option β} : ∀ {l : List α},(∀ x ∈ l,f x=g x)→l.filterMap f=l.filterMap g
 | [],_=>rfl
 | x::l,h=>by
  rw [List.filterMap_cons,List.filterMap_cons,h x (by simp),Ep fun y hy=>h y (by simp [hy])]
theorem IJ {α : Type} {f g : Nat→Option α} {i : Nat} {p : α} (hf : f i=none) (hg : g i=some p) (he : ∀ j,j ≠ i→g j=f j) : ∀ {l : List Nat},l.Nodup→i ∈ l→(l.filterMap g).Perm (l.filterMap f++[p])
 | x::l,hn,hm=>by
  obtain ⟨hx,hn⟩:=List.nodup_cons.1 hn
  by_cases h:x=i
  ·subst h
   rw [List.filterMap_cons_some hg,List.filterMap_cons_none hf]
   have:l.filterMap g=l.filterMap f:=Ep fun j hj=>he j fun e=>hx (e ▸ hj)
   rw [this]
   exact (List.perm_append_singleton p _).symm
  ·have hm':i ∈ l:=by
    rcases List.mem_cons.1 hm with h2 | h2
    ·exact absurd h2.symm h
    ·exact h2
   have ih:=IJ hf hg he hn hm'
   cases hfx:f x with
   | none=>rw [List.filterMap_cons_none hfx,List.filterMap_cons_none (by rw [he x h,hfx])];exact ih
   | some y=>rw [List.filterMap_cons_some hfx,List.filterMap_cons_some (by rw [he x h,hfx]:g x=some y),List.cons_append];exact ih.cons y
def prs (iv : List (Option (Int × DV))) (L : Array Bool) : List (Int × DV):=(List.range iv.length).filterMap fun i=>if L.getD i false=true then (iv[i]?).join else none
def omP (q : IntKind) (ps : List (Int × DV)) : AV:=.om (ps.map fun p=>.i q p.1) (ps.map (·.2))
theorem Jm (q : IntKind) : ∀ (ps : List (Int × DV)),(ps.map fun p=>DV.i q p.1).zip (ps.map (·.2))=ps.map fun p=>(DV.i q p.1,p.2)
 | []=>rfl
 | p::ps=>by simp [Jm q ps]
theorem Ra {iv : List (Option (Int × DV))} {L : Array Bool} {p : Int × DV} (h : p ∈ prs iv L) : ∃ j,L.getD j false=true∧iv[j]?=some (some p):=by
 obtain ⟨j,_,hj⟩:=List.mem_filterMap.1 h
 split at hj
 ·rename_i hl
  refine ⟨j,hl,?_⟩
  cases hx:iv[j]? with
  | none=>rw [hx] at hj;cases hj
  | some y=>rw [hx] at hj;simp at hj;rw [hj]
 ·cases hj
theorem Pm {iv : List (Option (Int × DV))} {L : Array Bool} {i : Nat} (hi : i<L.size) (h : iv[i]?=some none) : prs iv (L.setIfInBounds i true)=prs iv L:=by
 unfold prs
 refine Ep fun j _=>?_
 rw [Aq hi]
 by_cases hij:i=j
 ·subst hij;rw [if_pos rfl,h];simp
 ·rw [if_neg hij]
theorem Tr {iv : List (Option (Int × DV))} {L : Array Bool} {i : Nat} {p : Int × DV} (hi : i<L.size) (hl : L.getD i false=false) (h : iv[i]?=some (some p)) : (prs iv (L.setIfInBounds i true)).Perm (prs iv L++[p]):=by
 unfold prs
 refine IJ (i:=i) ?_ ?_ (fun j hj=>?_) List.nodup_range (List.mem_range.2 (List.getElem?_eq_some_iff.1 h).1)
 ·rw [hl];rfl
 ·rw [Aq hi,if_pos rfl,if_pos rfl,h];rfl
 ·rw [Aq hi,if_neg (Ne.symm hj)]
theorem V3 {iv : List (Option (Int × DV))} {L : Array Bool} (h : ∀ j,j<iv.length→L.getD j false=true) : prs iv L=iv.filterMap id:=by
 have:∀ (iv:List (Option (Int × DV))),(List.range iv.length).filterMap (fun i=>(iv[i]?).join)=iv.filterMap id:=by
  intro iv
  induction iv with
  | nil=>rfl
  | cons x xs ih =>
   rw [List.length_cons,List.range_succ_eq_map]
   cases x with
   | none=>simp only [List.filterMap_cons,List.filterMap_map];exact ih
   | some y=>simp only [List.filterMap_cons,List.filterMap_map];exact congrArg _ ih
 rw [← this iv]
 unfold prs
 exact Ep fun j hj=>by rw [if_pos (h j (List.mem_range.1 hj))]
section
variable {P : Program} {C : Cx} {X : Snap} {o : Oper} {ops : Array Oper} {Q : Exit→Env→Af→Prop} {env env' envi : Env} {H H' : Af} {a : Act} {w w' : World} {I I' : Nat→Prop} {μ μ' : List Nat} {O O' : Nat→Option Loc}
 {K:Env→Af→Prop} {k:Nat} {l:List Oper} {av:AV}
theorem Sim.om_perm (hs : Sim P X env H a w I μ O) {t : Nat} {ks vs ks2 vs2 : List DV} (hg : get env t=.om ks vs) (hp : (ks.zip vs).Perm (ks2.zip vs2)) (hl : ks2.length=vs2.length) : Sim P X ((t,.om ks2 vs2)::env) H a w I μ O:=by
 obtain ⟨blk,es,c,ks',vs',h1,h2,h3,h4,h5,h6,hO⟩:=hs.om_inv hg
 refine hs.blkSet (w':=w) (av:=.om ks2 vs2) hO (by rw [hg];rfl) rfl (fun _ _=>rfl) rfl rfl rfl rfl ?_
 rw [h1]
 exact .om _ _ ks' vs' blk es c h2 h3 h4 (h5.trans hp) hl
def Gq : Nat:=1000000000
def Ju (ops : Array Oper) (m : Nat) : Bool :=
 ((List.range ops.size).all fun i=>match ops[i]? with
  | some o=>o.after.all (fun e=>!Region.binds .any e || decide (e.on<i)) && (match o.op with | .select ..=>false | _=>true) && (o.looksAt ops).all (fun t=>decide (t<Gq)) &&
   (if i<m then (List.range m).all fun j=>match ops[j]? with
     | some oj=>match oj.dst with
      | some t=>!(o.looksAt ops).contains t || (decide (j<i) && Es ops i j)
      | none=>true
     | none=>false
    else (List.range i).all fun j=>GQ ops i i j)
  | none=>false) && decide (m≤ops.size)
theorem EL {m : Nat} (h : Ju ops m=true) {i : Nat} {o : Oper} (ho : ops[i]?=some o) :
  (∀ e ∈ o.after,Region.binds .any e=true→e.on<i)∧(∀ t ∈ o.looksAt ops,t<Gq) ∧
  (i<m→∀ j,j<m→∀ oj t,ops[j]?=some oj→oj.dst=some t→t ∈ o.looksAt ops→j<i∧Es ops i j=true)∧(¬ i<m→∀ j,j<i→GQ ops i i j=true):=by
 unfold Ju at h
 rw [Bool.and_eq_true] at h
 have hi:i<ops.size:=(Array.getElem?_eq_some_iff.1 ho).1
 have:=List.all_eq_true.1 h.1 i (List.mem_range.2 hi)
 rw [ho] at this
 simp only [Bool.and_eq_true] at this
 obtain ⟨⟨⟨h1,_⟩,h4⟩,h3⟩:=this
 refine ⟨fun e he hb=>?_,fun t ht=>?_,fun him j hj oj t hoj htj hm=>?_,fun him j hj=>?_⟩
 ·obtain ⟨k,hk,rfl⟩:=Array.mem_iff_getElem.1 he
  have:=Array.all_eq_true.1 h1 k hk
  rw [hb] at this
  simpa using this
 ·simpa using List.all_eq_true.1 h4 t ht
 ·rw [if_pos him] at h3
  have:=List.all_eq_true.1 h3 j (List.mem_range.2 hj)
  rw [hoj] at this
  simp only [htj] at this
  have hc:(o.looksAt ops).contains t=true:=List.contains_iff_mem.2 hm
  rw [hc] at this
  simpa using this
 ·rw [if_neg him] at h3
  exact List.all_eq_true.1 h3 j (List.mem_range.2 hj)
def Ia (tm i0 : Nat) (q : IntKind) (tv : List (Nat × AV)) (iv : List (Option (Int × DV))) (env0 : Env) (L : Array Bool) : Env :=
 (if L.getD i0 false=true then [(tm,omP q (prs iv L))] else [])++CT tv env0 L
theorem EU {tm i0 : Nat} {q : IntKind} {tv : List (Nat × AV)} {iv : List (Option (Int × DV))} {env0 : Env} {L : Array Bool} {s : Nat} (h : s ≠ tm) : get (Ia tm i0 q tv iv env0 L) s=get (CT tv env0 L) s:=by
 unfold Ia
 split
 ·simp [get,Ne.symm h]
 ·rfl
theorem Ix {tm i0 : Nat} {q : IntKind} {tv : List (Nat × AV)} {iv : List (Option (Int × DV))} {env0 : Env} {L : Array Bool} (h : L.getD i0 false=true) : get (Ia tm i0 q tv iv env0 L) tm=omP q (prs iv L):=by
 unfold Ia
 rw [if_pos h];simp [get]
theorem H8 {tm i0 : Nat} {q : IntKind} {tv : List (Nat × AV)} {iv : List (Option (Int × DV))} {env0 : Env} {L : Array Bool} (h : L.getD i0 false=false) : Ia tm i0 q tv iv env0 L=CT tv env0 L:=by
 unfold Ia
 rw [h];rfl
def UF (P : Program) (C : Cx) (ops : Array Oper) (H : Af) (env0 vals : Env) (tm i0 ty : Nat) (q : IntKind) (i : Nat) (o : Oper) (t : Nat) (v : AV) : Option (Int × DV)→Prop
 | none=>Pq P C ops H env0 vals o t v∧tm ∉ o.looksAt ops∧t<Gq∧(i ≠ i0→t ≠ tm)∧(i=i0→t=tm∧v=.om [] [])
 | some (z,d)=>o.dst=none∧o.guard=none∧v=.un∧t=Gq+i∧get env0 t=.un∧Es ops i i0=true∧∃ x y,o.op=.insert ty (.tmp tm) x y∧(∀ e,lk e x=.d (.i q z)) ∧
   ((∀ e,lk e y=.d d)∨∃ s,y=.tmp s∧s ≠ tm∧s ∈ o.looksAt ops∧get (AR (o.looksAt ops) vals++env0) s=.d d)
theorem YP {m i0 tm ty kt et : Nat} {q : IntKind} {env0 : Env} {tv : List (Nat × AV)} {iv : List (Option (Int × DV))} (hu : P.underlying ty=some (.map kt et)) (hkt : P.underlying kt=some (.int q)) (hok : Ju ops m=true) (hlen : tv.length=m) (hiv : iv.length=m) (hi0 : i0<m) (htmd : tm<Gq)
  (htab:∀ (i:Nat) o,i<m→ops[i]?=some o→∃ t v p,tv[i]?=some (t,v)∧iv[i]?=some p∧UF P C ops H env0 (tv.take i).reverse tm i0 ty q i o t v p)
  (hi0n:iv[i0]?=some none) (hkeys:∀ (i j:Nat) p p',iv[i]?=some (some p)→iv[j]?=some (some p')→i ≠ j→p.1 ≠ p'.1)
  (hsuf:RL P C ops Q m (ops.toList.drop m) ((tm,omP q (iv.filterMap id))::(tv.reverse++env0)) H) (n1:X.nt=C.nt) (n2:X.n0=C.n0) (n3:X.ne=C.ne) (hle:m≤ops.size) :
  ∀ (fuel:Nat) (L:Array Bool) (a:Act) (w:World) (I:Nat→Prop) (O:Nat→Option Loc),L.size=ops.size→Sf ops L→(∀ j,m≤j→L.getD j false=false) →
   (List.range m).countP (fun i=>!L.getD i false)+(ops.size - m)≤fuel→Sim P X (Ia tm i0 q tv iv env0 L) H a w I μ O→wpAnyIn (om C.ro) 0 P .any ops (Post P X Q) fuel L a w:=by
 have hone:∀ i,i<m→∃ o t v p,ops[i]?=some o∧tv[i]?=some (t,v)∧iv[i]?=some p∧UF P C ops H env0 (tv.take i).reverse tm i0 ty q i o t v p:=fun i hi=>by
  obtain ⟨t,v,p,h1,h2,h3⟩:=htab i _ hi (Array.getElem?_eq_getElem (by omega))
  exact ⟨_,t,v,p,Array.getElem?_eq_getElem (by omega),h1,h2,h3⟩
 -- temporaries of the table: an entry's is a number that none bears
 have htn:∀ {i o t v p},UF P C ops H env0 (tv.take i).reverse tm i0 ty q i o t v p→(p=none∧t<Gq∧get env0 t=.un∧(∀ x ∈ (tv.take i).reverse,x.1 ≠ t)∧o.dst=some t)∨((∃ zd,p=some zd)∧t=Gq+i∧get env0 t=.un∧o.dst=none):=by
  intro i o t v p h
  cases p with
  | none=>exact .inl ⟨rfl,h.2.2.1,h.1.2.2.1,h.1.2.2.2.1,h.1.1⟩
  | some zd=>exact .inr ⟨⟨zd,rfl⟩,h.2.2.2.1,h.2.2.2.2.1,h.1⟩
 have hdist:∀ (i j t:Nat) v u,tv[i]?=some (t,v)→tv[j]?=some (t,u)→i=j:=by
  have lt:∀ (i j t:Nat) v u,tv[i]?=some (t,v)→tv[j]?=some (t,u)→¬ i<j:=fun i j t v u hi hj hij=>by
   have hjm:j<m:=by have:=(List.getElem?_eq_some_iff.1 hj).1;omega
   obtain ⟨o,t',v',p,_,k1,_,k2⟩:=hone j hjm
   rw [hj] at k1;cases k1
   obtain ⟨o3,t3,v3,p3,_,k3,_,k4⟩:=hone i (by omega)
   rw [hi] at k3;cases k3
   rcases htn k2 with ⟨_,d1,_,d2,_⟩ | ⟨_,d1,_,_⟩
   ·refine d2 (t,v) ?_ rfl
    rw [List.mem_reverse]
    exact List.mem_of_getElem? (by rw [List.getElem?_take_of_lt hij];exact hi)
   ·rcases htn k4 with ⟨_,d3,_,_,_⟩ | ⟨_,d3,_,_⟩ <;> omega
  intro i j t v u hi hj
  have h1:=lt i j t v u hi hj
  have h2:=lt j i t u v hj hi
  omega
 have hpre:∀ {e:Env},(∀ x,x ∈ e↔x ∈ tv)→∀ t,(∃ i v,tv[i]?=some (t,v)∧get (e++env0) t=v)∨((∀ (i:Nat) v,tv[i]? ≠ some (t,v))∧get (e++env0) t=get env0 t):=fun {e} he t=>by
  rw [A3]
  by_cases hc:(e.map (·.1)).contains t=true
  ·obtain ⟨x,hx,rfl⟩:=List.mem_map.1 (List.contains_iff_mem.1 hc)
   obtain ⟨i,hi⟩:=List.getElem?_of_mem ((he x).1 hx)
   refine .inl ⟨i,x.2,hi,?_⟩
   rw [if_pos hc]
   refine C4 hx fun u hu=>?_
   obtain ⟨j,hj⟩:=List.getElem?_of_mem ((he _).1 hu)
   have:=hdist i j x.1 x.2 u hi hj
   subst this
   rw [hi] at hj
   simp only [Option.some.injEq] at hj
   rw [hj]
  ·refine .inr ⟨fun i v hi=>hc (List.contains_iff_mem.2 (List.mem_map.2 ⟨(t,v),(he _).2 (List.mem_of_getElem? hi),rfl⟩)),by rw [if_neg hc]⟩
 have h0tm:get env0 tm=.un:=by
  obtain ⟨o,t,v,p,_,_,k2,k3⟩:=hone i0 hi0
  rw [hi0n] at k2;cases k2
  have:=k3.2.2.2.2 rfl
  rw [← this.1];exact k3.1.2.2.1
 have fin:∀ (fuel:Nat) (L:Array Bool) (a:Act) (w:World) (I:Nat→Prop) (O:Nat→Option Loc),L.size=ops.size→(∀ j,m≤j→L.getD j false=false)→(∀ j,j<m→L.getD j false=true)→ops.size - m≤fuel →
   Sim P X (Ia tm i0 q tv iv env0 L) H a w I μ O→wpAnyIn (om C.ro) 0 P .any ops (Post P X Q) fuel L a w:=by
  intro fuel L a w I O hL hup hall hf hs
  refine UU (fun i o ho=>(EL hok ho).1) (fun i o ho hm=>(EL hok ho).2.2.2 (by omega)) (ops.size - m) m fuel L a w (Nat.le_refl _) (by omega) hf hL (fun j hj=>⟨fun h=>?_,hall j⟩) ?_
  ·rcases Nat.lt_or_ge j m with hx | hx
   ·exact hx
   ·rw [hup j hx] at h;cases h
  have hs':=hs.same (env':=(tm,omP q (iv.filterMap id))::(tv.reverse++env0)) fun t=>by
   by_cases htt:t=tm
   ·subst htt
    rw [Ix (hall i0 hi0),V3 fun j hj=>hall j (by omega)];simp [get]
   ·rw [EU htt]
    simp only [get,if_neg (Ne.symm htt)]
    rcases hpre (e:=tv.reverse) (fun x=>List.mem_reverse) t with ⟨i,v,h1,h2⟩ | ⟨h1,h2⟩
    ·rw [h2,Bf hdist (hall i (by have:=(List.getElem?_eq_some_iff.1 h1).1;omega)) h1]
    ·rw [h2,A2 fun i v _=>h1 i v]
  have:=hsuf rfl X a w I μ O n1 n2 n3 hs'
  rw [List.length_drop,Array.length_toList] at this
  exact this
 intro fuel
 induction fuel with
 | zero =>
  intro L a w I O hL hD hup hf hs
  refine fin 0 L a w I O hL hup (fun j hj=>?_) (by omega) hs
  cases hv:L.getD j false with
  | true=>rfl
  | false =>
   have:0<(List.range m).countP (fun i=>!L.getD i false):=List.countP_pos_iff.2 ⟨j,List.mem_range.2 hj,by rw [hv];rfl⟩
   omega
 | succ fuel ih =>
  intro L a w I O hL hD hup hf hs
  by_cases hall:∀ j,j<m→L.getD j false=true
  ·exact fin _ L a w I O hL hup hall (by omega) hs
  have hex:∃ j,j<m∧L.getD j false=false:=by
   apply Classical.byContradiction
   intro hno
   refine hall fun j hj=>?_
   cases hv:L.getD j false with
   | true=>rfl
   | false=>exact absurd ⟨j,hj,hv⟩ hno
  obtain ⟨j0,⟨hj0,hj1⟩,hmin⟩:∃ j,(j<m∧L.getD j false=false)∧∀ k,k<j→L.getD k false=true:=by
   obtain ⟨j,hj⟩:=hex
   induction j using Nat.strongRecOn with
   | ind j ihj =>
    by_cases hk:∃ k,k<j∧L.getD k false=false
    ·obtain ⟨k,hk1,hk2⟩:=hk
     exact ihj k hk1 ⟨by omega,hk2⟩
    ·refine ⟨j,hj,fun k hk1=>?_⟩
     cases hv:L.getD k false with
     | true=>rfl
     | false=>exact absurd ⟨k,hk1,hv⟩ hk
  have hr0:j0 ∈ Region.ready .any ops L:=mem_ready.2 ⟨by rw [B7 (by omega)];exact hj1,_,Array.getElem?_eq_getElem (by omega),fun e he hb=>hmin _ ((EL hok (Array.getElem?_eq_getElem (by omega))).1 e he hb)⟩
  refine ⟨fun h0=>(by rw [h0] at hr0;cases hr0),fun i hi=>?_⟩
  obtain ⟨h1,o,ho,h2⟩:=mem_ready.1 hi
  have hlt:=(Array.getElem?_eq_some_iff.1 ho).1
  rw [B7 (by omega)] at h1
  have him:i<m:=by
   rcases Nat.lt_or_ge i m with hx | hx
   ·exact hx
   ·have:=EN hD _ _ _ ((EL hok ho).2.2.2 (by omega) j0 (by omega)) fun o' ho' e he hb=>by rw [ho] at ho';cases ho';exact h2 e he hb
    rw [hj1] at this;cases this
  obtain ⟨o',t,v,p,ho',htv,hpv,hmo⟩:=hone i him
  rw [ho] at ho';cases ho'
  -- the operations behind: what is counted
  have hnext:(∀ s,s ≠ t→get (CT tv env0 (L.setIfInBounds i true)) s=get (CT tv env0 L) s)∧get (CT tv env0 (L.setIfInBounds i true)) t=v ∧
    ∀ a' w' I' O',Sim P X (Ia tm i0 q tv iv env0 (L.setIfInBounds i true)) H a' w' I' μ O'→wpAnyIn (om C.ro) 0 P .any ops (Post P X Q) fuel (L.setIfInBounds i true) a' w':=by
   refine ⟨fun s hts=>?_,Bf hdist (by rw [Aq (by omega),if_pos rfl]) htv,fun a' w' I' O' hs'=>?_⟩
   ·by_cases hex:∃ (j:Nat) (u:AV),L.getD j false=true∧tv[j]?=some (s,u)
    ·obtain ⟨j,u,hj1,hj2⟩:=hex
     rw [Bf hdist hj1 hj2]
     exact Bf hdist (by rw [Aq (by omega)];split <;> first | rfl | exact hj1) hj2
    ·rw [A2 fun j u hl hj=>hex ⟨j,u,hl,hj⟩]
     refine A2 fun j u hl hj=>?_
     rw [Aq (by omega)] at hl
     split at hl
     ·rename_i hij;subst hij
      rw [htv] at hj;cases hj;exact hts rfl
     ·exact hex ⟨j,u,hl,hj⟩
   ·refine ih _ a' w' I' O' (by simpa using hL) (fun k ok hk hok' e he hb=>?_) (fun j hj=>?_) ?_ hs'
    ·rw [Aq (by omega)] at hk ⊢
     split at hk
     ·rename_i hik;subst hik
      rw [ho] at hok';cases hok'
      split
      ·rfl
      ·exact h2 e he hb
     ·split
      ·rfl
      ·exact hD k ok hk hok' e he hb
    ·rw [Aq (by omega),if_neg (by omega)];exact hup j hj
    ·have:=GY (fun i=>!L.getD i false) (fun k=>!(L.setIfInBounds i true).getD k false) i (by simp only [h1];rfl) (by simp only [Aq (by omega:i<L.size),if_true];rfl)
      (fun j hj=>by simp only [Aq (by omega:i<L.size)];rw [if_neg (Ne.symm hj)]) (List.range m) (List.mem_range.2 him) List.nodup_range
     omega
  obtain ⟨hsame,hat,hgo⟩:=hnext
  -- what it looks at is known
  have hdir:∀ (j s:Nat) u,tv[j]?=some (s,u)→s ∈ o.looksAt ops→L.getD j false=true:=fun j s u hj hm=>by
   have hjm:j<m:=by have:=(List.getElem?_eq_some_iff.1 hj).1;omega
   obtain ⟨oj',tj',vj',pj',r1,r2,_,r3⟩:=hone j hjm
   rw [hj] at r2;cases r2
   have hsd:=(EL hok ho).2.1 s hm
   rcases htn r3 with ⟨_,_,_,_,hdst⟩ | ⟨_,hd2,_,_⟩
   ·obtain ⟨o2,ho2,e,he,hb,rfl⟩:=DA ((EL hok ho).2.2.1 him j hjm oj' s r1 hdst hm).2
    rw [ho] at ho2;cases ho2
    exact h2 e he hb
   ·have hlt2:s<Gq:=hsd
    exact absurd hlt2 (by omega)
  have hleL:∀ s,get (AR (o.looksAt ops) (tv.take i).reverse++env0) s=.un∨get (AR (o.looksAt ops) (tv.take i).reverse++env0) s=get (CT tv env0 L) s:=fun s=>by
   rw [A3]
   split
   ·rename_i hc
    obtain ⟨x,hx,rfl⟩:=List.mem_map.1 (List.contains_iff_mem.1 hc)
    have hx':=List.mem_filter.1 hx
    have hin:=List.mem_reverse.1 hx'.1
    obtain ⟨j,hj⟩:=List.getElem?_of_mem (List.mem_of_mem_take hin)
    have hlk:x.1 ∈ o.looksAt ops:=List.contains_iff_mem.1 hx'.2
    refine .inr ?_
    rw [Bf hdist (hdir j x.1 x.2 hj hlk) hj]
    refine C4 hx fun u hu=>?_
    have hu':=List.mem_reverse.1 (List.mem_filter.1 hu).1
    obtain ⟨j',hj'⟩:=List.getElem?_of_mem (List.mem_of_mem_take hu')
    have:=hdist j j' x.1 x.2 u hj hj'
    subst this
    rw [hj] at hj'
    simp only [Option.some.injEq] at hj'
    rw [hj']
   ·by_cases hex:∃ (j:Nat) (u:AV),tv[j]?=some (s,u)
    ·obtain ⟨j,u,hj⟩:=hex
     have hjm:j<m:=by have:=(List.getElem?_eq_some_iff.1 hj).1;omega
     obtain ⟨oj,tj,vj,pj,_,r2,_,r3⟩:=hone j hjm
     rw [hj] at r2;cases r2
     rcases htn r3 with ⟨_,_,hz,_⟩ | ⟨_,_,hz,_⟩ <;> exact .inl hz
    ·exact .inr (A2 fun j u _ hj=>hex ⟨j,u,hj⟩).symm
  have htL:get (CT tv env0 L) t=.un:=by
   rw [A2 fun j u hl hj=>by
    have:=hdist i j t v u htv hj
    subst this;rw [h1] at hl;cases hl]
   rcases htn hmo with ⟨_,_,hz,_⟩ | ⟨_,_,hz,_⟩ <;> exact hz
  unfold wpOpIn
  simp only [ho]
  cases p with
  | none =>
   obtain ⟨⟨hd,htok,h0t,hnt,hself,hrk,hrun⟩,hntm,htd,hne0,heq0⟩:=hmo
   have hle1:∀ s,get (AR (o.looksAt ops) (tv.take i).reverse++env0) s=.un∨get (AR (o.looksAt ops) (tv.take i).reverse++env0) s=get (Ia tm i0 q tv iv env0 L) s:=fun s=>by
    by_cases hst:s=tm
    ·subst hst
     left
     rw [A3,if_neg]
     ·exact h0tm
     ·intro hc
      obtain ⟨x,hx,hx2⟩:=List.mem_map.1 (List.contains_iff_mem.1 hc)
      have:=(List.mem_filter.1 hx).2
      rw [hx2] at this
      exact hntm (List.contains_iff_mem.1 this)
    ·rw [EU hst];exact hleL s
   have hkn:∀ s,Ao (get (AR (o.looksAt ops) (tv.take i).reverse++env0) s)=true→get (AR (o.looksAt ops) (tv.take i).reverse++env0) s=get (Ia tm i0 q tv iv env0 L) s:=fun s hs=>by
    rcases hle1 s with h | h
    ·rw [h] at hs;cases hs
    ·exact h
   have hle2:∀ s r off len,get (AR (o.looksAt ops) (tv.take i).reverse++env0) s=.ref (.t r) off len→get (AR (o.looksAt ops) (tv.take i).reverse++env0) r=get (Ia tm i0 q tv iv env0 L) r:=fun s r off len h=>by
    have:=List.all_eq_true.1 hrk _ (DX h (by simp))
    exact hkn r (by simpa using this)
   have hle3:∀ s r x y,get (AR (o.looksAt ops) (tv.take i).reverse++env0) s=.ep (.t r) x y→get (AR (o.looksAt ops) (tv.take i).reverse++env0) r=get (Ia tm i0 q tv iv env0 L) r:=fun s r x y h=>by
    have:=List.all_eq_true.1 hrk _ (DX h (by simp))
    exact hkn r (by simpa using this)
   have htM:get (Ia tm i0 q tv iv env0 L) t=.un:=by
    by_cases hi:i=i0
    ·subst hi;rw [H8 h1];exact htL
    ·rw [EU (hne0 hi)];exact htL
   have hsi:=hs.less hle1 hle2 hle3
   have hstep:∀ a' w' I' O',Sim P X ((t,v)::Ia tm i0 q tv iv env0 L) H a' w' I' μ O'→wpAnyIn (om C.ro) 0 P .any ops (Post P X Q) fuel (L.setIfInBounds i true) a' w':=fun a' w' I' O' hs'=>by
    refine hgo a' w' I' O' (hs'.same fun s=>?_)
    by_cases hi:i=i0
    ·subst hi
     obtain ⟨rfl,rfl⟩:=heq0 rfl
     have hnil:prs iv (L.setIfInBounds i true)=[]:=by
      rw [Pm (by omega) hpv]
      apply List.eq_nil_iff_forall_not_mem.2
      intro x hx
      obtain ⟨j,hj1,hj2⟩:=Ra hx
      have hjm:j<m:=by have:=(List.getElem?_eq_some_iff.1 hj2).1;omega
      obtain ⟨oj,tj,vj,pj,r1,_,r2,r3⟩:=hone j hjm
      rw [hj2] at r2;cases r2
      obtain ⟨o2,ho2,e,he,hb,hee⟩:=DA r3.2.2.2.2.2.1
      rw [r1] at ho2;cases ho2
      have:=hD j _ hj1 r1 e he hb
      rw [hee] at this
      rw [h1] at this;cases this
     by_cases hst:s=t
     ·subst hst
      rw [Ix (by rw [Aq (by omega),if_pos rfl]),hnil]
      simp [get,omP]
     ·rw [EU hst,H8 h1]
      simp only [get,if_neg (Ne.symm hst)]
      exact hsame s hst
    ·have hl0:(L.setIfInBounds i true).getD i0 false=L.getD i0 false:=by rw [Aq (by omega),if_neg hi]
     by_cases hst:s=t
     ·subst hst
      rw [EU (hne0 hi),hat];simp [get]
     ·simp only [get,if_neg (Ne.symm hst)]
      by_cases hsm:s=tm
      ·subst hsm
       cases hx:L.getD i0 false with
       | true=>rw [Ix (by rw [hl0,hx]),Ix hx,Pm (by omega) hpv]
       | false=>rw [H8 (by rw [hl0,hx]),H8 hx];exact hsame s hst
      ·rw [EU hsm,EU hsm];exact hsame s hst
   rcases hrun with ⟨hg,hv⟩ | ⟨hg,hv⟩
   ·rw [if_pos (EG hsi hg)]
    refine hv.step hd htok hle1 hle2 hle3 (by rw [htM];rfl) (fun p hp e=>?_) n1 n2 n3 hs hstep
    subst e
    rcases hp with ⟨off,len,rfl⟩ | ⟨x,y,rfl⟩ <;> simp [Ft] at hself
   ·have:=EG hsi hg
    rw [if_neg (by rw [this];simp)]
    refine ⟨fun _ _=>trivial,?_⟩
    rw [hd]
    rcases hv with rfl | rfl
    ·have hp:=hs.put_un t (by rw [n1];exact htok) undef
     rw [Al (by rw [htM];rfl)] at hp
     exact hstep _ _ _ _ hp
    ·have hp:=hs.put_hand (t:=t) (by rw [n1];exact htok) (av:=.tup []) (v:=undef) ⟨[],.tup .nil,List.nodup_nil,by simp⟩
     rw [Al (by rw [htM];rfl)] at hp
     exact hstep _ _ _ _ hp
  | some zd =>
   obtain ⟨z,d⟩:=zd
   obtain ⟨hd,hgn,rfl,htd,h0t,hdi,x,y,hop,hx,hy⟩:=hmo
   have hi0L:L.getD i0 false=true:=by
    obtain ⟨o2,ho2,e,he,hb,rfl⟩:=DA hdi
    rw [ho] at ho2;cases ho2
    exact h2 e he hb
   have hne:i ≠ i0:=fun h=>by subst h;rw [h1] at hi0L;cases hi0L
   have htt:t ≠ tm:=by omega
   have hy':lk (Ia tm i0 q tv iv env0 L) y=.d d:=by
    rcases hy with hy | ⟨s,rfl,hs1,_,hs2⟩
    ·exact hy _
    ·show get _ s=_
     rw [EU hs1]
     rcases hleL s with h | h
     ·rw [h] at hs2;cases hs2
     ·rw [← h];exact hs2
   have hfr:freshK q z ((prs iv L).map fun p=>DV.i q p.1):=fun k hk=>by
    obtain ⟨p,hp,rfl⟩:=List.mem_map.1 hk
    obtain ⟨j,hj1,hj2⟩:=Ra hp
    exact ⟨p.1,rfl,hkeys j i p (z,d) hj2 hpv fun e=>by subst e;rw [h1] at hj1;cases hj1⟩
   have r1:=hs.deep (x:=x) (v:=.i q z) (by rw [hx];rfl)
   have r2:=hs.deep (x:=y) (v:=d) (by rw [hy'];rfl)
   generalize hev:a.eval x=u at r1
   cases r1
   obtain ⟨w',k1,k2⟩:=hs.ins (Ix hi0L) hu hkt hfr r2
   have hw:Region.wanted o (yielded ops a.tmps)=true:=by unfold Region.wanted;rw [hgn]
   rw [if_pos hw]
   refine ⟨fun _ _=>trivial,?_⟩
   have he:a.eval (.tmp tm)=a.tmps.getD tm undef:=rfl
   have hrun:(execOp a.eval o).run P w=.ok .skip w':=by simp only [execOp,hop,hev,he,k1,Sem.run_bind,Result.andThen_ok,Sem.run_pure]
   rw [Oper.semAt_eq _ _ _ (by simp [hop]),hrun,Oper.uponIn_skip,hd]
   have hpp:=Tr (by omega) h1 hpv
   have k3:=k2.om_perm (t:=tm) (ks2:=(prs iv (L.setIfInBounds i true)).map fun p=>DV.i q p.1) (vs2:=(prs iv (L.setIfInBounds i true)).map (·.2)) (by simp [get];exact ⟨rfl,rfl⟩) (by
    rw [Jm,List.zip_append (by simp),Jm]
    have:=(hpp.map fun p=>(DV.i q p.1,p.2)).symm
    rw [List.map_append] at this
    exact this) (by simp)
   refine hgo _ _ _ _ (k3.same fun s=>?_)
   by_cases hsm:s=tm
   ·subst hsm
    rw [Ix (by rw [Aq (by omega),if_neg hne];exact hi0L)]
    simp [get,omP]
   ·rw [EU hsm]
    simp only [get,if_neg (Ne.symm hsm)]
    rw [EU hsm]
    by_cases hst:s=t
    ·subst hst;rw [hat,htL]
    ·exact hsame s hst
end
end Go.FL
namespace Go.FL
open Go Go.RowKit
section
variable {P : Program} {C : Cx} {X : Snap} {o : Oper} {ops : Array Oper} {Q : Exit→Env→Af→Prop} {env env' envi env0 vals : Env} {H H' : Af} {a : Act} {w w' : World} {I I' : Nat→Prop} {μ μ' : List Nat} {O O' : Nat→Option Loc}
 {k:Nat} {l:List Oper} {av v:AV} {t tm i0 ty n:Nat} {q:IntKind} {ps qs:List (Int × DV)}
inductive DLM (P : Program) (C : Cx) (ops : Array Oper) (H : Af) (env0 : Env) (tm i0 ty : Nat) (q : IntKind) : Nat→Env→List (Int × DV)→List Oper→Env→List (Int × DV)→Prop
 | nil (n:Nat) (vals:Env) (ps:List (Int × DV)):DLM P C ops H env0 tm i0 ty q n vals ps [] vals ps
 | run {n:Nat} {vals fin:Env} {ps qs:List (Int × DV)} {o:Oper} {t:Nat} {v:AV} {l:List Oper} (hi:n ≠ i0) (hd:o.dst=some t) (ht:okT C.nt t) (h0:NZ (get env0 t)=true) (hn:(vals.map (·.1)).contains t=false) (hs:Ft t v=true)
   (hg:grd ops (AR (o.looksAt ops) vals++env0) o true=true) (hv:VOK P C o (AR (o.looksAt ops) vals++env0) H v) (hr:Cl (AR (o.looksAt ops) vals++env0)=true) (hl:(o.looksAt ops).contains tm=false) (htd:t<Gq) (htm:t ≠ tm)
   (h:DLM P C ops H env0 tm i0 ty q (n+1) ((t,v)::vals) ps l fin qs):DLM P C ops H env0 tm i0 ty q n vals ps (o::l) fin qs
 | mk {vals fin:Env} {ps qs:List (Int × DV)} {o:Oper} {l:List Oper} (hd:o.dst=some tm) (ht:okT C.nt tm) (h0:NZ (get env0 tm)=true) (hn:(vals.map (·.1)).contains tm=false)
   (hg:grd ops (AR (o.looksAt ops) vals++env0) o true=true) (hv:VOK P C o (AR (o.looksAt ops) vals++env0) H (.om [] [])) (hr:Cl (AR (o.looksAt ops) vals++env0)=true) (hl:(o.looksAt ops).contains tm=false) (htd:tm<Gq)
   (h:DLM P C ops H env0 tm i0 ty q (i0+1) ((tm,.om [] [])::vals) ps l fin qs):DLM P C ops H env0 tm i0 ty q i0 vals ps (o::l) fin qs
 | ins {n:Nat} {vals fin:Env} {ps qs:List (Int × DV)} {o:Oper} {l:List Oper} {x y:Operand} {z:Int} {d:DV} (hi:n ≠ i0) (hd:o.dst=none) (hgn:o.guard=none) (hop:o.op=.insert ty (.tmp tm) x y) (hx:∀ e,lk e x=.d (.i q z))
   (hy:(∀ e,lk e y=.d d)∨∃ s,y=.tmp s∧s ≠ tm∧s ∈ o.looksAt ops∧get (AR (o.looksAt ops) vals++env0) s=.d d) (hdi:Es ops n i0=true) (h0:get env0 (Gq+n)=.un)
   (h:DLM P C ops H env0 tm i0 ty q (n+1) ((Gq+n,.un)::vals) (ps++[(z,d)]) l fin qs):DLM P C ops H env0 tm i0 ty q n vals ps (o::l) fin qs
theorem DLM.table {n : Nat} {vals fin : Env} {ps qs : List (Int × DV)} {l : List Oper} (h : DLM P C ops H env0 tm i0 ty q n vals ps l fin qs) : ∃ (tv : List (Nat × AV)) (iv : List (Option (Int × DV))),tv.length=l.length∧iv.length=l.length∧fin=tv.reverse++vals∧qs=ps++iv.filterMap id ∧
  ∀ (i:Nat) o,l[i]?=some o→∃ t v p,tv[i]?=some (t,v)∧iv[i]?=some p∧(n+i=i0→p=none)∧UF P C ops H env0 ((tv.take i).reverse++vals) tm i0 ty q (n+i) o t v p:=by
 induction h with
 | nil n vals ps=>exact ⟨[],[],rfl,rfl,rfl,by simp,fun i o h=>by simp at h⟩
 | @run n vals fin ps qs o t v l hi hd ht h0 hn hs hg hv hr hl htd htm h ih =>
  obtain ⟨tv,iv,k1,k2,k3,k4,k5⟩:=ih
  refine ⟨(t,v)::tv,none::iv,by simp [k1],by simp [k2],by rw [k3];simp,by rw [k4];simp,fun i o' hio=>?_⟩
  cases i with
  | zero =>
   simp at hio;subst hio
   refine ⟨t,v,none,rfl,rfl,fun _=>rfl,⟨hd,ht,Ln h0,fun x hx e=>?_,hs,hr,.inl ⟨hg,hv⟩⟩,fun hm=>?_,htd,fun _=>htm,fun e=>absurd e hi⟩
   ·subst e
    have:(vals.map (·.1)).contains x.1=true:=List.contains_iff_mem.2 (List.mem_map_of_mem hx)
    rw [hn] at this;cases this
   ·have:=List.contains_iff_mem.2 hm
    rw [hl] at this;cases this
  | succ i =>
   obtain ⟨t',v',p',m1,m2,m3,m4⟩:=k5 i o' (by simpa using hio)
   have e:n+(i+1)=n+1+i:=by omega
   refine ⟨t',v',p',by simpa using m1,by simpa using m2,by rw [e];exact m3,?_⟩
   rw [e];simpa using m4
 | @mk vals fin ps qs o l hd ht h0 hn hg hv hr hl htd h ih =>
  obtain ⟨tv,iv,k1,k2,k3,k4,k5⟩:=ih
  refine ⟨(tm,.om [] [])::tv,none::iv,by simp [k1],by simp [k2],by rw [k3];simp,by rw [k4];simp,fun i o' hio=>?_⟩
  cases i with
  | zero =>
   simp at hio;subst hio
   refine ⟨tm,.om [] [],none,rfl,rfl,fun _=>rfl,⟨hd,ht,Ln h0,fun x hx e=>?_,rfl,hr,.inl ⟨hg,hv⟩⟩,fun hm=>?_,htd,fun e=>absurd rfl e,fun _=>⟨rfl,rfl⟩⟩
   ·subst e
    have:(vals.map (·.1)).contains x.1=true:=List.contains_iff_mem.2 (List.mem_map_of_mem hx)
    rw [hn] at this;cases this
   ·have:=List.contains_iff_mem.2 hm
    rw [hl] at this;cases this
  | succ i =>
   obtain ⟨t',v',p',m1,m2,m3,m4⟩:=k5 i o' (by simpa using hio)
   have e:i0+(i+1)=i0+1+i:=by omega
   refine ⟨t',v',p',by simpa using m1,by simpa using m2,by rw [e];exact m3,?_⟩
   rw [e];simpa using m4
 | @ins n vals fin ps qs o l x y z d hi hd hgn hop hx hy hdi h0 h ih =>
  obtain ⟨tv,iv,k1,k2,k3,k4,k5⟩:=ih
  refine ⟨(Gq+n,.un)::tv,some (z,d)::iv,by simp [k1],by simp [k2],by rw [k3];simp,by rw [k4];simp,fun i o' hio=>?_⟩
  cases i with
  | zero =>
   simp at hio;subst hio
   exact ⟨Gq+n,.un,some (z,d),rfl,rfl,fun e=>absurd e hi,hd,hgn,rfl,rfl,h0,hdi,x,y,hop,hx,hy⟩
  | succ i =>
   obtain ⟨t',v',p',m1,m2,m3,m4⟩:=k5 i o' (by simpa using hio)
   have e:n+(i+1)=n+1+i:=by omega
   refine ⟨t',v',p',by simpa using m1,by simpa using m2,by rw [e];exact m3,?_⟩
   rw [e];simpa using m4
theorem NW : ∀ {iv : List (Option (Int × DV))},((iv.filterMap id).map (·.1)).Nodup→∀ (i j : Nat) p p',iv[i]?=some (some p)→iv[j]?=some (some p')→i<j→p.1 ≠ p'.1
 | [],_,i,j,p,p',h1,_,_=>by simp at h1
 | x::iv,hn,i,j,p,p',h1,h2,hij=>by
  cases j with
  | zero=>omega
  | succ j =>
   have h2':iv[j]?=some (some p'):=by simpa using h2
   cases i with
   | zero =>
    simp at h1;subst h1
    simp only [List.filterMap_cons,id_eq,List.map_cons,List.nodup_cons] at hn
    intro e
    refine hn.1 (List.mem_map.2 ⟨p',List.mem_filterMap.2 ⟨some p',List.mem_of_getElem? h2',rfl⟩,e.symm⟩)
   | succ i =>
    refine NW (iv:=iv) ?_ i j p p' (by simpa using h1) h2' (by omega)
    cases x with
    | none=>simpa using hn
    | some y =>
     simp only [List.filterMap_cons,id_eq,List.map_cons,List.nodup_cons] at hn
     exact hn.2
def DKM (P : Program) (C : Cx) (ops : Array Oper) (H : Af) (env0 : Env) (tm i0 ty : Nat) (q : IntKind) (n : Nat) (vals : Env) (ps : List (Int × DV)) (l : List Oper) (K : Env→List (Int × DV)→Prop) : Prop :=
 ∃ fin qs,DLM P C ops H env0 tm i0 ty q n vals ps l fin qs∧(qs.map (·.1)).Nodup∧K fin qs
theorem AW.drawnM {id : Nat} (m tm i0 : Nat) {ty kt et : Nat} {q : IntKind} (hu : P.underlying ty=some (.map kt et)) (hkt : P.underlying kt=some (.int q)) (hm : P.follows .mixedOrders=true) (hok : Ju ops m=true)
  (h:DKM P C ops H env0 tm i0 ty q 0 [] [] (ops.toList.take m) fun fin ps=>RL P C ops Q m (ops.toList.drop m) ((tm,omP q ps)::(fin++env0)) H) (hi0:i0<m:=by decide) (htm:Nat.blt tm Gq=true:=by rfl):AW P C (.region id ops true) Q env0 H:=fun X a w I μ O n1 n2 n3 hs=>by
 obtain ⟨fin,qs,hD,hnd,hsuf⟩:=h
 obtain ⟨tv,iv,k1,k2,k3,k4,k5⟩:=hD.table
 have hle:m≤ops.size:=by unfold Ju at hok;rw [Bool.and_eq_true] at hok;simpa using hok.2
 have hlen:tv.length=m:=by rw [k1];simp;omega
 have hlen2:iv.length=m:=by rw [k2];simp;omega
 refine wpIn_region_any hm ?_
 have hz:∀ j,(Array.replicate ops.size false).getD j false=false:=fun j=>by
  simp only [Array.getD_eq_getD_getElem?,Array.getElem?_replicate]
  split <;> rfl
 have hs':Sim P X (Ia tm i0 q tv iv env0 (Array.replicate ops.size false)) H a { w with drawn:=w.drawn+1 } I μ O:=by
  rw [H8 (hz i0)]
  exact (hs.grow (w':={ w with drawn:=w.drawn+1 }) ⟨rfl,rfl,rfl,Nat.le_refl _,fun _ _=>rfl⟩).same fun t=>A2 fun i v h=>by
   rw [hz] at h;cases h
 rw [List.nil_append] at k4
 rw [List.append_nil] at k3
 subst k3 k4
 have htab:∀ (i:Nat) o,i<m→ops[i]?=some o→∃ t v p,tv[i]?=some (t,v)∧iv[i]?=some p∧(i=i0→p=none)∧UF P C ops H env0 (tv.take i).reverse tm i0 ty q i o t v p:=fun i o hi ho=>by
  obtain ⟨t,v,p,m1,m2,m3,m4⟩:=k5 i o (by rw [List.getElem?_take_of_lt hi];simpa using ho)
  rw [Nat.zero_add,List.append_nil] at m4
  rw [Nat.zero_add] at m3
  exact ⟨t,v,p,m1,m2,m3,m4⟩
 refine YP hu hkt hok hlen hlen2 hi0 (Nat.blt_eq ▸ htm) (fun i o hi ho=>?_) ?_ (fun i j p p' h1 h2 hij=>?_) hsuf n1 n2 n3 hle ops.size _ a _ I O (by simp) (fun i o h=>by rw [hz] at h;cases h) (fun j _=>hz j) ?_ hs'
 ·obtain ⟨t,v,p,m1,m2,_,m4⟩:=htab i o hi ho
  exact ⟨t,v,p,m1,m2,m4⟩
 ·obtain ⟨t,v,p,m1,m2,m3,m4⟩:=htab i0 _ hi0 (Array.getElem?_eq_getElem (by omega))
  rw [m2,m3 rfl]
 ·rcases Nat.lt_or_gt_of_ne hij with h | h
  ·exact NW hnd i j p p' h1 h2 h
  ·exact fun e=>NW hnd j i p' p h2 h1 h e.symm
 ·have:(List.range m).countP (fun i=>!(Array.replicate ops.size false).getD i false)≤m:=by
   have:=List.countP_le_length (p:=fun i=>!(Array.replicate ops.size false).getD i false) (l:=List.range m)
   simpa using this
  omega
theorem dvM {K : Env→List (Int × DV)→Prop} (hv : VOK P C o (AR (o.looksAt ops) vals++env0) H v) (h : DKM P C ops H env0 tm i0 ty q (n+1) ((t,v)::vals) ps l K) (hd : o.dst=some t:=by rfl) (hg : grd ops (AR (o.looksAt ops) vals++env0) o true=true:=by rfl) (h0 : NZ (get env0 t)=true:=by rfl)
  (hn:(vals.map (·.1)).contains t=false:=by rfl) (hs:Ft t v=true:=by rfl) (hr:Cl (AR (o.looksAt ops) vals++env0)=true:=by rfl) (hl:(o.looksAt ops).contains tm=false:=by rfl) (htd:Nat.blt t Gq=true:=by rfl) (htm:t ≠ tm:=by decide) (hi:n ≠ i0:=by decide) (ht:okT C.nt t:=by rfl) :
  DKM P C ops H env0 tm i0 ty q n vals ps (o::l) K:=by
 obtain ⟨fin,qs,h1,h2,h3⟩:=h
 exact ⟨fin,qs,.run hi hd ht h0 hn hs hg hv hr hl (Nat.blt_eq ▸ htd) htm h1,h2,h3⟩
theorem Aag {K : Env→List (Int × DV)→Prop} (h : DKM P C ops H env0 tm i0 ty q (i0+1) ((tm,.om [] [])::vals) ps l K) {ty' : Nat} (ho : o.op=.makeMap ty' none:=by rfl) (hd : o.dst=some tm:=by rfl) (hg : grd ops (AR (o.looksAt ops) vals++env0) o true=true:=by rfl) (h0 : NZ (get env0 tm)=true:=by rfl)
  (hn:(vals.map (·.1)).contains tm=false:=by rfl) (hr:Cl (AR (o.looksAt ops) vals++env0)=true:=by rfl) (hl:(o.looksAt ops).contains tm=false:=by rfl) (htd:Nat.blt tm Gq=true:=by rfl) (ht:okT C.nt tm:=by rfl) :
  DKM P C ops H env0 tm i0 ty q i0 vals ps (o::l) K:=by
 obtain ⟨fin,qs,h1,h2,h3⟩:=h
 exact ⟨fin,qs,.mk hd ht h0 hn hg (Zt ho) hr hl (Nat.blt_eq ▸ htd) h1,h2,h3⟩
theorem Qh {K : Env→List (Int × DV)→Prop} {x y : Operand} {z : Int} {d : DV} (h : DKM P C ops H env0 tm i0 ty q (n+1) ((Gq+n,.un)::vals) (ps++[(z,d)]) l K) (hop : o.op=.insert ty (.tmp tm) x y:=by rfl) (hx : ∀ e,lk e x=.d (.i q z):=by intro e;rfl) (hy : ∀ e,lk e y=.d d:=by intro e;rfl) (hd : o.dst=none:=by rfl)
  (hgn:o.guard=none:=by rfl) (hdi:Es ops n i0=true:=by kernel_rfl) (h0:get env0 (Gq+n)=.un:=by rfl) (hi:n ≠ i0:=by decide):DKM P C ops H env0 tm i0 ty q n vals ps (o::l) K:=by
 obtain ⟨fin,qs,h1,h2,h3⟩:=h
 exact ⟨fin,qs,.ins hi hd hgn hop hx (.inl hy) hdi h0 h1,h2,h3⟩
theorem Lc {K : Env→List (Int × DV)→Prop} {x : Operand} {s : Nat} {z : Int} {d : DV} (h : DKM P C ops H env0 tm i0 ty q (n+1) ((Gq+n,.un)::vals) (ps++[(z,d)]) l K) (hop : o.op=.insert ty (.tmp tm) x (.tmp s):=by rfl) (hy : get (AR (o.looksAt ops) vals++env0) s=.d d:=by rfl) (hs : (o.looksAt ops).contains s=true:=by rfl) (hst : s ≠ tm:=by decide)
  (hx:∀ e,lk e x=.d (.i q z):=by intro e;rfl) (hd:o.dst=none:=by rfl) (hgn:o.guard=none:=by rfl) (hdi:Es ops n i0=true:=by kernel_rfl) (h0:get env0 (Gq+n)=.un:=by rfl) (hi:n ≠ i0:=by decide):DKM P C ops H env0 tm i0 ty q n vals ps (o::l) K:=by
 obtain ⟨fin,qs,h1,h2,h3⟩:=h
 exact ⟨fin,qs,.ins hi hd hgn hop hx (.inr ⟨s,rfl,hst,List.contains_iff_mem.1 hs,hy⟩) hdi h0 h1,h2,h3⟩
theorem dzM {K : Env→List (Int × DV)→Prop} (hnd : (ps.map (·.1)).Nodup) (h : K vals ps) : DKM P C ops H env0 tm i0 ty q n vals ps [] K:=⟨vals,ps,.nil n vals ps,hnd,h⟩
end
end Go.FL
namespace Go.FL
open Go Go.Proofs
section
variable {P : Program} {C : Cx} {o : Oper} {ops : Array Oper} {Q : Exit→Env→Af→Prop} {env : Env} {H : Af} {k : Nat} {l : List Oper}
theorem asu {x : Operand} {t : Nat} (h : RL P C ops Q (k+1) l ((t,.un)::env) H) (hg : grd ops env o true=true:=by rfl) (ho : o.op=.assign x:=by rfl) (hd : o.dst=some t:=by rfl) (hf : Ao (get env t)=false:=by rfl) (ht : okT C.nt t:=by rfl) : RL P C ops Q k (o::l) env H:=by
 rw [← Al hf] at h
 exact .go hg (.pure (by simp [ho]) hd ht (fun X a w I μ O _ hs=>⟨a.eval x,by simp [execOp,ho],[],.un _,List.nodup_nil,by simp⟩) h)
theorem freshK.nil {q : IntKind} {z : Int} : freshK q z []:=nofun
theorem freshK.snoc {q : IntKind} {z z' : Int} {ks : List DV} (h : freshK q z ks) (hz : z' ≠ z) : freshK q z (ks++[.i q z']):=fun k hk=>by
 rcases List.mem_append.1 hk with h1 | h1
 ·exact h k h1
 ·rw [List.mem_singleton] at h1
  exact ⟨z',h1,hz⟩
end
theorem JP : Tryz.prog.underlying 61=some (.map 21 60):=by kernel_rfl
theorem T5 : Tryz.prog.underlying 95=some (.map 21 73):=by kernel_rfl
theorem gkR : Tryz.prog.underlying 21=some (.int .i32):=by kernel_rfl
def YD : List (Int × DV):=[(43,.fn 78 [] []),(45,.fn 79 [] []),(8968,.fn 80 [] []),(8970,.fn 81 [] []),(124,.fn 82 [] []),(33,.fn 83 [] []),(42,.fn 84 [] []),(215,.fn 85 [] []),(247,.fn 87 [] []),(126,.fn 89 [] [])]
theorem Yc : Fn Tryz.prog 31 [] (.d (.mp (YD.map fun p=>.i .i32 p.1) (YD.map (·.2)))):=by
 refine Fn.of (rs:=[.tmp 0]) (nt:=3) Tryz.func31 rfl rfl rfl (by simp) rfl ?_;refine .seq ?_;refine .region ?_;refine asu ?_;refine rn ?_;refine .seq ?_;refine .region ?_;refine vk (Zt) ?_;refine P7 JP gkR freshK.nil ?_;refine P7 JP gkR (freshK.snoc (z:=45) (z':=43) freshK.nil (by decide)) ?_;refine P7 JP gkR (freshK.snoc (z:=8968) (z':=45) (freshK.snoc (z:=8968) (z':=43) freshK.nil (by decide)) (by decide)) ?_;refine P7 JP gkR (freshK.snoc (z:=8970) (z':=8968) (freshK.snoc (z:=8970) (z':=45) (freshK.snoc (z:=8970) (z':=43) freshK.nil (by decide)) (by decide)) (by decide)) ?_;refine P7 JP gkR (freshK.snoc (z:=124) (z':=8970) (freshK.snoc (z:=124) (z':=8968) (freshK.snoc (z:=124) (z':=45) (freshK.snoc (z:=124) (z':=43) freshK.nil (by decide)) (by decide)) (by decide)) (by decide)) ?_;refine P7 JP gkR (freshK.snoc (z:=33) (z':=124) (freshK.snoc (z:=33) (z':=8970) (freshK.snoc (z:=33) (z':=8968) (freshK.snoc (z:=33) (z':=45) (freshK.snoc (z:=33) (z':=43) freshK.nil (by decide)) (by decide)) (by decide)) (by decide)) (by decide)) ?_;refine P7 JP gkR (freshK.snoc (z:=42) (z':=33) (freshK.snoc (z:=42) (z':=124) (freshK.snoc (z:=42) (z':=8970) (freshK.snoc (z:=42) (z':=8968) (freshK.snoc (z:=42) (z':=45) (freshK.snoc (z:=42) (z':=43) freshK.nil (by decide)) (by decide)) (by decide)) (by decide)) (by decide)) (by decide)) ?_;refine P7 JP gkR (freshK.snoc (z:=215) (z':=42) (freshK.snoc (z:=215) (z':=33) (freshK.snoc (z:=215) (z':=124) (freshK.snoc (z:=215) (z':=8970) (freshK.snoc (z:=215) (z':=8968) (freshK.snoc (z:=215) (z':=45) (freshK.snoc (z:=215) (z':=43) freshK.nil (by decide)) (by decide)) (by decide)) (by decide)) (by decide)) (by decide)) (by decide)) ?_;refine P7 JP gkR (freshK.snoc (z:=247) (z':=215) (freshK.snoc (z:=247) (z':=42) (freshK.snoc (z:=247) (z':=33) (freshK.snoc (z:=247) (z':=124) (freshK.snoc (z:=247) (z':=8970) (freshK.snoc (z:=247) (z':=8968) (freshK.snoc (z:=247) (z':=45) (freshK.snoc (z:=247) (z':=43) freshK.nil (by decide)) (by decide)) (by decide)) (by decide)) (by decide)) (by decide)) (by decide)) (by decide)) ?_;refine P7 JP gkR (freshK.snoc (z:=126) (z':=247) (freshK.snoc (z:=126) (z':=215) (freshK.snoc (z:=126) (z':=42) (freshK.snoc (z:=126) (z':=33) (freshK.snoc (z:=126) (z':=124) (freshK.snoc (z:=126) (z':=8970) (freshK.snoc (z:=126) (z':=8968) (freshK.snoc (z:=126) (z':=45) (freshK.snoc (z:=126) (z':=43) freshK.nil (by decide)) (by decide)) (by decide)) (by decide)) (by decide)) (by decide)) (by decide)) (by decide)) (by decide)) ?_;refine RL.gh (Gh.omf (t:=1) rfl) ?_;refine RL.gh (Gh.keep [1] rfl) ?_;refine vk (Aa) ?_;refine asd ?_;refine rn ?_;refine .ret ?_
 exact ⟨rfl,rfl⟩
theorem Mc {z : Int} : Fn Tryz.prog 140 [.i .i64 z] (.d (.fn 210 [] [.ptr [.i .i64 z]])):=by
 refine Fn.of (rs:=[.tmp 2]) (nt:=4) Tryz.func140 rfl rfl rfl (by simp) rfl ?_;refine .seq ?_;refine .region ?_;refine vk (UX) ?_;refine asd ?_;refine rn ?_;refine .seq ?_;refine .region ?_;refine vk (SO) ?_;refine asd ?_;refine rn ?_;refine .ret ?_
 exact ⟨rfl,rfl⟩
theorem DH {c : RT} {f : Nat} : Fn Tryz.prog 141 [.ag [.b c.1,.sl (L c.2.1),.sl (L c.2.2)],.fn f [] []] (.d (.fn 212 [] [.ptr [.fn f [] []],.ptr [.b c.1,.sl (L c.2.1),.sl (L c.2.2)]])):=by
 refine Fn.of (rs:=[.tmp 4]) (nt:=6) Tryz.func141 rfl rfl rfl (by simp) rfl ?_;refine .seq ?_;refine .region ?_;refine vk (vbx) ?_;refine vk (UX) ?_;refine asd ?_;refine rn ?_;refine .seq ?_;refine .region ?_;refine vk (SO) ?_;refine asd ?_;refine rn ?_;refine .ret ?_
 exact ⟨rfl,rfl⟩
theorem Hd {f : Nat} : Fn Tryz.prog 148 [.fn f [] []] (.d (.fn 214 [] [.ptr [.fn f [] []]])):=by
 refine Fn.of (rs:=[.tmp 2]) (nt:=4) Tryz.func148 rfl rfl rfl (by simp) rfl ?_;refine .seq ?_;refine .region ?_;refine vk (UX) ?_;refine asd ?_;refine rn ?_;refine .seq ?_;refine .region ?_;refine vk (SO) ?_;refine asd ?_;refine rn ?_;refine .ret ?_
 exact ⟨rfl,rfl⟩
def Wy (c : RT) : List (Int × DV):=[(43,.fn 132 [] []),(215,.fn 134 [] []),(45,.fn 136 [] []),(247,.fn 88 [] []),(124,.fn 137 [] []),(42,.fn 138 [] []),(33,.fn 139 [] []),(8968,.fn 210 [] [.ptr [.i .i64 1]]),(8970,.fn 210 [] [.ptr [.i .i64 (-1)]]),(60,.fn 212 [] [.ptr [.fn 142 [] []],.ptr [.b c.1,.sl (L c.2.1),.sl (L c.2.2)]]),(8804,.fn 212 [] [.ptr [.fn 143 [] []],.ptr [.b c.1,.sl (L c.2.1),.sl (L c.2.2)]]),(61,.fn 212 [] [.ptr [.fn 144 [] []],.ptr [.b c.1,.sl (L c.2.1),.sl (L c.2.2)]]),(8805,.fn 212 [] [.ptr [.fn 145 [] []],.ptr [.b c.1,.sl (L c.2.1),.sl (L c.2.2)]]),(62,.fn 212 [] [.ptr [.fn 146 [] []],.ptr [.b c.1,.sl (L c.2.1),.sl (L c.2.2)]]),(8800,.fn 212 [] [.ptr [.fn 147 [] []],.ptr [.b c.1,.sl (L c.2.1),.sl (L c.2.2)]]),(8743,.fn 214 [] [.ptr [.fn 149 [] []]]),(8744,.fn 214 [] [.ptr [.fn 150 [] []]]),(9074,.fn 214 [] [.ptr [.fn 151 [] []]]),(9073,.fn 214 [] [.ptr [.fn 152 [] []]])]
theorem VS {c : RT} : Fn Tryz.prog 59 [.ag [.b c.1,.sl (L c.2.1),.sl (L c.2.2)]] (.d (.mp ((Wy c).map fun p=>.i .i32 p.1) ((Wy c).map (·.2)))):=by
 refine Fn.of (rs:=[.tmp 2]) (nt:=23) Tryz.func59 rfl rfl rfl (by simp) rfl ?_;refine .seq ?_;refine .region ?_;refine vk (vbx) ?_;refine asu ?_;refine rn ?_;refine .gh (Gh.keep [1] rfl) ?_;refine .seq ?_;refine AW.drawnM 38 3 0 T5 gkR Ba (by kernel_rfl) ?_;refine Aag ?_;refine Qh ?_;refine Qh ?_;refine Qh ?_;refine Qh ?_;refine Qh ?_;refine Qh ?_;refine Qh ?_;refine dvM (Ad Mc Tryz.call140) ?_;refine Lc ?_;refine dvM (Ad Mc Tryz.call140) ?_;refine Lc ?_;refine dvM (Ap Au Ak) ?_;refine dvM (Ad DH Tryz.call141) ?_;refine Lc ?_;refine dvM (Ap Au Ak) ?_;refine dvM (Ad DH Tryz.call141) ?_;refine Lc ?_;refine dvM (Ap Au Ak) ?_;refine dvM (Ad DH Tryz.call141) ?_;refine Lc ?_;refine dvM (Ap Au Ak) ?_;refine dvM (Ad DH Tryz.call141) ?_;refine Lc ?_;refine dvM (Ap Au Ak) ?_;refine dvM (Ad DH Tryz.call141) ?_;refine Lc ?_;refine dvM (Ap Au Ak) ?_;refine dvM (Ad DH Tryz.call141) ?_;refine Lc ?_;refine dvM (Ad Hd Tryz.call148) ?_;refine Lc ?_;refine dvM (Ad Hd Tryz.call148) ?_;refine Lc ?_;refine dvM (Ad Hd Tryz.call148) ?_;refine Lc ?_;refine dvM (Ad Hd Tryz.call148) ?_;refine Lc ?_;refine dzM (by show List.Nodup [(43:Int),(215:Int),(45:Int),(247:Int),(124:Int),(42:Int),(33:Int),(8968:Int),(8970:Int),(60:Int),(8804:Int),(61:Int),(8805:Int),(62:Int),(8800:Int),(8743:Int),(8744:Int),(9074:Int),(9073:Int)];decide) ?_;refine RL.gh (Gh.omf (t:=3) rfl) ?_;refine RL.gh (Gh.keep [3] rfl) ?_;refine vk (Aa) ?_;refine asd ?_;refine rn ?_;refine .ret ?_
 exact ⟨rfl,rfl⟩
end Go.FL
namespace Go.FL
open Go Go.RowKit
def TQ {α β : Type} (T : List (Int × FW α β)) : List (Int × DV):=T.map fun p=>(p.1,p.2.dv)
def Wk {α β : Type} (q : IntKind) (T : List (Int × FW α β)) : DV:=.mp ((TQ T).map fun p=>.i q p.1) ((TQ T).map (·.2))
def Fe {α β : Type} (T : List (Int × FW α β)) (z : Int) : Option (FW α β):=(T.find? fun p=>decide (p.1=z)).map (·.2)
def SJ {α β : Type} (x : Option α) (a : β) (f : α→β) : β:=match x with
 | none=>a
 | some y=>f y
theorem Q5 {α β : Type} {x : Option α} {a r : β} {f : α→β} (e : x=none) (h : SJ x a f=r) : a=r:=by subst e;exact h
theorem RE {α β : Type} {x : Option α} {y : α} {a r : β} {f : α→β} (e : x=some y) (h : SJ x a f=r) : f y=r:=by subst e;exact h
theorem Ms {α β : Type} {T : List (Int × FW α β)} {z : Int} {f : FW α β} (h : Fe T z=some f) : (z,f) ∈ T:=by
 unfold Fe at h
 simp only [Option.map_eq_some_iff] at h
 obtain ⟨p,hp,rfl⟩:=h
 have h1:=List.find?_some hp
 have h2:=List.mem_of_find?_eq_some hp
 have:p.1=z:=by simpa using h1
 rw [← this];exact h2
theorem VC {α β : Type} {T : List (Int × FW α β)} {z : Int} (h : Fe T z=none) : ∀ p ∈ T,p.1 ≠ z:=fun p hp=>by
 unfold Fe at h
 rw [Option.map_eq_none_iff,List.find?_eq_none] at h
 simpa using h p hp
theorem Ry {α β : Type} (q : IntKind) (T : List (Int × FW α β)) : ((TQ T).map fun p=>DV.i q p.1).zip ((TQ T).map (·.2))=T.map fun p=>(DV.i q p.1,p.2.dv):=by
 rw [Jm];unfold TQ;rw [List.map_map];rfl
theorem NK {α β : Type} : ∀ {T : List (Int × FW α β)},(T.map (·.1)).Nodup→∀ {z f g},(z,f) ∈ T→(z,g) ∈ T→f=g
 | p::T,hn,z,f,g,h1,h2=>by
  rw [List.map_cons,List.nodup_cons] at hn
  rcases List.mem_cons.1 h1 with e1 | h1 <;> rcases List.mem_cons.1 h2 with e2 | h2
  ·rw [← e1] at e2;cases e2;rfl
  ·exact absurd (List.mem_map.2 ⟨_,h2,by rw [← e1]⟩) hn.1
  ·exact absurd (List.mem_map.2 ⟨_,h1,by rw [← e2]⟩) hn.1
  ·exact NK hn.2 h1 h2
section
variable {P : Program} {C : Cx} {o : Oper} {ops : Array Oper} {Q : Exit→Env→Af→Prop} {env : Env} {H : Af} {k : Nat} {l : List Oper}
theorem W0 {α β : Type} {T : List (Int × FW α β)} {z : Int} {f : FW α β} {x y : Operand} {ty kt et : TypeId} {q : IntKind} (hnd : (T.map (·.1)).Nodup) (hu : P.underlying ty=some (.map kt et)) (hk : P.underlying kt=some (.int q)) (h : Fe T z=some f)
  (ho:o.op=.lookup ty x y false:=by rfl) (hx:AX (lk env x)=some (Wk q T):=by rfl) (hy:AX (lk env y)=some (.i q z):=by rfl):VOK P C o env H (.d f.dv):=by
 refine Z0 (q:=q) (z:=z) hu hk (fun k hk=>?_) ?_ (fun d' hd=>?_) ho hx hy
 ·obtain ⟨p,_,rfl⟩:=List.mem_map.1 hk;exact ⟨_,rfl⟩
 ·rw [Ry];exact List.mem_map.2 ⟨_,Ms h,rfl⟩
 ·rw [Ry] at hd
  obtain ⟨p,hp,e⟩:=List.mem_map.1 hd
  simp only [Prod.mk.injEq,DV.i.injEq,true_and] at e
  obtain ⟨e1,rfl⟩:=e
  have:(z,p.2) ∈ T:=by rw [← e1];exact hp
  rw [NK hnd this (Ms h)]
theorem WZ {α β : Type} {T : List (Int × FW α β)} {z : Int} {x y : Operand} {ty kt et : TypeId} {q : IntKind} (hu : P.underlying ty=some (.map kt et)) (hk : P.underlying kt=some (.int q)) (hz : ∀ w,(zeroValue et).run P w=.ok .nilFunc w) (h : Fe T z=none)
  (ho:o.op=.lookup ty x y false:=by rfl) (hx:AX (lk env x)=some (Wk q T):=by rfl) (hy:AX (lk env y)=some (.i q z):=by rfl):VOK P C o env H (.d .nf):=by
 refine Z6 (q:=q) (z:=z) hu hk hz (fun _ _=>.nf) (fun k hk=>?_) ho hx hy
 obtain ⟨p,hp,rfl⟩:=List.mem_map.1 hk
 obtain ⟨p',hp',rfl⟩:=List.mem_map.1 hp
 exact ⟨_,rfl,VC h p' hp'⟩
theorem Zr {xt yt : TypeId} {x y : Operand} {d : DV} (hu : FD P xt=true) (hf : ∃ f fs cs,d=.fn f fs cs) (ho : o.op=.binOp .eql xt x y yt:=by rfl) (hx : AX (lk env x)=some d:=by rfl) (hy : AX (lk env y)=some .nf:=by rfl) : VOK P C o env H (.d (.b false)):=by
 obtain ⟨f,fs,cs,rfl⟩:=hf
 exact Aai hu ho hx hy
end
end Go.FL
namespace Go.FL
open Go Go.Proofs
def D5 (a0 : RT) : Nat→RT→Int→(List Nat)→(List Nat)→Option (RT × Int)
 | 0,_,_,_,_=>none
 | k+1,s5,s6,s7,s8=>((Dh s8 a0.2.1).bind fun x9=>(if x9≤0 then ((MD ([s7,s8])).bind fun x10=>(if 32<((List.length x10:Nat):Int) then (some ((false,[],[]),8)) else (DS.bind fun x11=>((UY ([s8,x11])).bind fun x12=>(D5 a0 k s5 s6 x10 x12))))) else (DS.bind fun x13=>(some ((false,s7,x13),0)))))
def IU (a0 : RT) : Option (RT × Int):=((Dx a0).bind fun x1=>(if x1=true then ((Ff a0).bind fun x2=>(if x2=true then (DS.bind fun x3=>(DS.bind fun x4=>(D5 a0 BC (false,[],[]) 0 x3 x4))) else (some ((false,[],[]),3)))) else (some ((false,[],[]),22))))
theorem Nu {a0 : RT} {r : RT × Int} (h : IU a0=some r) :
  Fn Tryz.prog 83 [.ag [.b a0.1,.sl (L a0.2.1),.sl (L a0.2.2)]] (.tup [.d (.ag [.b r.1.1,.sl (L r.1.2.1),.sl (L r.1.2.2)]),.d (.i .i64 r.2)]):=by
 unfold IU at h
 refine Fn.ofC (rs:=[.cell 2 32,.tmp 3]) (nt:=38) Tryz.func83 rfl rfl rfl (by simp) rfl ?_;refine .sr ?_;refine vk (vbx) ?_;refine vk (van (Ah BO) BN) ?_;refine ar [1,2,3] ?_;refine .seq ?_;refine .block ?_;refine .sr ?_;refine vk (Ap Au Ak) ?_
 obtain ⟨x1,hx1,h⟩:=bnd h
 refine vk (Ad (DJ hx1) Tryz.call45) ?_;refine vk (vnt) ?_;refine ar [1,2,3,6] ?_
 by_cases hc:x1=true
 ·replace h:=Aj hc h
  refine cnf (ntf hc) ?_;refine .sr ?_;refine vk (Ap Au Ak) ?_
  obtain ⟨x2,hx2,h⟩:=bnd h
  refine vk (Ad (Gd hx2) Tryz.call163) ?_;refine vk (vnt) ?_;refine ar [1,2,3,11] ?_
  by_cases hc:x2=true
  ·replace h:=Aj hc h
   refine cnf (ntf hc) ?_;refine .skip ?_
   show AW _ _ _ _ _ _
   refine .sr ?_
   obtain ⟨x3,hx3,h⟩:=bnd h
   refine vk ((Ad (B3 hx3) Tryz.call121).deep) ?_;refine ar [1,2,3,4] ?_;refine .seq ?_;refine .sr ?_
   obtain ⟨x4,hx4,h⟩:=bnd h
   refine vk ((Ad (B3 hx4) Tryz.call121).deep) ?_;refine ar [1,2,3,4,5] ?_;refine .block ?_
   refine .loop (.gk [1,2,3,4,5] ?_)
   refine AL.ind (σ:=Nat × RT × Int × (List Nat) × (List Nat)) (m:=fun p=>p.1) (e:=fun p=>[(1,.d (.ptr [.b a0.1,.sl (L a0.2.1),.sl (L a0.2.2)])),(2,.nb [.b p.2.1.1,.sl (L p.2.1.2.1),.sl (L p.2.1.2.2)]),(3,.d (.i .i64 p.2.2.1)),(4,.d (.sl (L p.2.2.2.1))),(5,.d (.sl (L p.2.2.2.2)))]) (h:=fun p=>[]) (I:=fun p=>D5 a0 p.1 p.2.1 p.2.2.1 p.2.2.2.1 p.2.2.2.2=some r) ?_ (BC,(false,[],[]),0,x3,x4) h
   rintro ⟨k,s5,s6,s7,s8⟩ h ih
   dsimp only at h ih ⊢
   rcases k with _ | k
   ·rw [D5] at h;cases h
   rw [D5] at h
   refine .seq ?_;refine .sr ?_;refine vk (Aa) ?_;refine vk (vfa BY) ?_;refine vk (An C7) ?_
   obtain ⟨x9,hx9,h⟩:=bnd h
   refine vk (Ad (CN hx9) Tryz.call164) ?_;refine vk (vbi) ?_;refine rk [1,2,3,4,5,22] ?_
   by_cases hc:x9≤0
   ·replace h:=Aj hc h
    refine cnt (dT hc) ?_;refine .skip ?_
    show AW _ _ _ _ _ _
    refine .seq ?_;refine .block ?_;refine .sr ?_;refine vk (Aa) ?_;refine vk (Aa) ?_;refine vk ((Ev (FX [s7,s8]) OG).deep) ?_
    obtain ⟨x10,hx10,h⟩:=bnd h
    refine vk (Ad (Lt hx10) Tryz.call166) ?_;refine ar [1,2,3,4,5] ?_;refine .sr ?_;refine vk (Aa) ?_;refine vk (Bz (Ab _) (Bo _) Jf) ?_;refine vk (vbi) ?_;refine rk [1,2,3,4,5,33] ?_
    by_cases hc:32<((List.length x10:Nat):Int)
    ·replace h:=Aj hc h
     refine cnt (dT hc) ?_;refine .sr ?_;refine vk (vbd Ee BO BN) ?_
     refine stn ?_ Ak (by decide)
     refine ar [1,2,3,4,5] ?_;refine .ret ?_
     cases h
     exact ⟨_,_,⟨.inr rfl,Au,Ak,(by decide:(0:Nat)<3)⟩,rfl,rfl⟩
    replace h:=Ai hc h
    refine cnf (dF hc) ?_;refine .skip ?_
    show AW _ _ _ _ _ _
    refine .region ?_;refine vk (Aa) ?_
    obtain ⟨x11,hx11,h⟩:=bnd h
    refine vk ((Ad (B3 hx11) Tryz.call121).deep) ?_;refine vk ((Ev (FX [s8,x11]) OG).deep) ?_
    obtain ⟨x12,hx12,h⟩:=bnd h
    refine vk (Ad (Mt hx12) Tryz.call165) ?_;refine asd ?_;refine .nil ?_;refine AL.gk [1,2,3,4,5] ?_
    exact ih (k,s5,s6,x10,x12) h (Nat.lt_succ_self _)
   replace h:=Ai hc h
   refine cnf (dF hc) ?_;refine .exit ?_
   show AW _ _ _ _ _ _
   refine .sr ?_;refine vk (Aa) ?_
   obtain ⟨x13,hx13,h⟩:=bnd h
   refine vk ((Ad (B3 hx13) Tryz.call121).deep) ?_;refine vk (vbd Ee BO BN) ?_
   refine stn ?_ Ak (by decide)
   refine ar [2,3] ?_;refine .ret ?_
   cases h
   exact ⟨_,_,⟨.inr rfl,Au,Ak,(by decide:(0:Nat)<3)⟩,rfl,rfl⟩
  replace h:=Ai hc h
  refine cnt (ntt (bf hc)) ?_;refine .sr ?_;refine vk (vbd Ee BO BN) ?_
  refine stn ?_ Ak (by decide)
  refine ar [1,2,3] ?_;refine .ret ?_
  cases h
  exact ⟨_,_,⟨.inr rfl,Au,Ak,(by decide:(0:Nat)<3)⟩,rfl,rfl⟩
 replace h:=Ai hc h
 refine cnt (ntt (bf hc)) ?_;refine .sr ?_;refine vk (vbd Ee BO BN) ?_
 refine stn ?_ Ak (by decide)
 refine ar [1,2,3] ?_;refine .ret ?_
 cases h
 exact ⟨_,_,⟨.inr rfl,Au,Ak,(by decide:(0:Nat)<3)⟩,rfl,rfl⟩
def CF (a0 : Bool) : Option (RT):=(if a0=true then ((BM 1).bind fun x1=>(some (x1))) else ((BM 0).bind fun x2=>(some (x2))))
theorem Eg {a0 : Bool} {r : RT} (h : CF a0=some r) :
  Fn Tryz.prog 91 [.b a0] (.d (.ag [.b r.1,.sl (L r.2.1),.sl (L r.2.2)])):=by
 unfold CF at h
 refine Fn.ofC (rs:=[.cell 2 32]) (nt:=6) Tryz.func91 rfl rfl rfl (by simp) rfl ?_;refine .sr ?_;refine vk (van (Ah BO) BN) ?_;refine rk [0,2] ?_;refine .seq ?_;refine .sr ?_;refine vk (Aa) ?_;refine rk [2,3] ?_
 by_cases hc:a0=true
 ·replace h:=Aj hc h
  refine cnt hc ?_;refine .sr ?_
  obtain ⟨x1,hx1,h⟩:=bnd h
  refine vk (Ad (Br hx1) Tryz.call72) ?_
  refine stn ?_ Ak (by decide)
  refine rk [2] ?_;refine .ret ?_
  cases h
  exact ⟨_,⟨.inr rfl,Au,Ak,(by decide:(0:Nat)<3)⟩,rfl⟩
 replace h:=Ai hc h
 refine cnf (bf hc) ?_;refine .skip ?_
 show AW _ _ _ _ _ _
 refine .sr ?_
 obtain ⟨x2,hx2,h⟩:=bnd h
 refine vk (Ad (Br hx2) Tryz.call72) ?_
 refine stn ?_ Ak (by decide)
 refine rk [2] ?_;refine .ret ?_
 cases h
 exact ⟨_,⟨.inr rfl,Au,Ak,(by decide:(0:Nat)<3)⟩,rfl⟩
def E2 (a0 : RT) : Option (Bool × Bool):=((Jt a0).bind fun x1=>(some ((decide (x1.1=1)),(x1.2 && ((decide (x1.1=0)) || (decide (x1.1=1)))))))
theorem GV {a0 : RT} {r : Bool × Bool} (h : E2 a0=some r) :
  Fn Tryz.prog 90 [.ag [.b a0.1,.sl (L a0.2.1),.sl (L a0.2.2)]] (.tup [.d (.b r.1),.d (.b r.2)]):=by
 unfold E2 at h
 refine Fn.of (rs:=[.tmp 2,.tmp 3]) (nt:=22) Tryz.func90 rfl rfl rfl (by simp) rfl ?_;refine .sr ?_;refine vk (vbx) ?_;refine asd ?_;refine ar [1,2,3] ?_;refine .sr ?_;refine vk (Ap Au Ak) ?_
 obtain ⟨x1,hx1,h⟩:=bnd h
 refine vk (VOK.tupd (vs:=[.i .i64 x1.1,.b x1.2]) (Ad (PD hx1) Tryz.call171)) ?_;refine vk (Aa) ?_;refine vk (vex) ?_;refine vk (vex) ?_;refine asd ?_;refine ar [2,3,4,5] ?_;refine .seq ?_;refine AW.mr (σ:=Unit) (fun _=>True) (fun _=>[(2,.d (.b (decide (x1.1=1)))),(3,.d (.b (x1.2 && ((decide (x1.1=0)) || (decide (x1.1=1))))))]) (fun _=>[]) ?_ ?_
 ·skip
  refine .region ?_;refine vk (Aa) ?_;refine vk (vbi) ?_;refine vk (Aa) ?_
  by_cases hc:x1.2=true
  ·have hb0:x1.2=true:=hc
   refine vk (VOK.lit (Aa) hb0) ?_;refine vk (Aa) ?_;refine vk (vbi) ?_
   by_cases hc:x1.1=0
   ·have hb1:(decide (x1.1=0))=true:=(dT hc)
    refine vk (VOK.lit (Aa) hb1) ?_;refine gf ?_;refine gf ?_;refine vk (Am) ?_;refine vk (Am) ?_;refine asd ?_;refine asd ?_;refine RL.gk [2,3] ?_;refine .nil ?_
    exact jr () trivial (by simp only [hb0,hb1];rfl)
   have hb1:(decide (x1.1=0))=false:=(dF hc)
   refine vk (VOK.lit (Aa) hb1) ?_;refine vk (Aa) ?_;refine vk (vbi) ?_;refine vk (Am) ?_;refine vk (Am) ?_;refine asd ?_;refine asd ?_;refine RL.gk [2,3] ?_;refine .nil ?_
   exact jr () trivial (by simp only [hb0,hb1];rfl)
  have hb0:x1.2=false:=(bf hc)
  refine vk (VOK.lit (Aa) hb0) ?_;refine gf ?_;refine gf ?_;refine gfu ?_;refine gf ?_;refine gf ?_;refine gf ?_;refine vk (Am) ?_;refine asd ?_;refine asd ?_;refine RL.gk [2,3] ?_;refine .nil ?_
  exact jr () trivial (by simp only [hb0];rfl)
 rintro _ _
 refine .ret ?_
 cases h
 exact ⟨by decide,rfl,rfl,rfl⟩
def El (a0 : RT) : Option (RT × Int):=((Ll ([a0])).bind fun x1=>(some (x1.1,x1.2)))
theorem Gc {a0 : RT} {r : RT × Int} (h : El a0=some r) :
  Fn Tryz.prog 78 [.ag [.b a0.1,.sl (L a0.2.1),.sl (L a0.2.2)]] (.tup [.d (.ag [.b r.1.1,.sl (L r.1.2.1),.sl (L r.1.2.2)]),.d (.i .i64 r.2)]):=by
 unfold El at h
 refine Fn.ofC (rs:=[.cell 2 32,.tmp 3]) (nt:=9) Tryz.func78 rfl rfl rfl (by simp) rfl ?_;refine .sr ?_;refine vk (vbx) ?_;refine vk (van (Ah BO) BN) ?_;refine ar [1,2,3] ?_;refine .sr ?_;refine vk (Ap Au Ak) ?_;refine vk ((Ev (Da [a0]) Fb).deep) ?_
 obtain ⟨x1,hx1,h⟩:=bnd h
 refine vk (VOK.tupd (vs:=[.ag [.b x1.1.1,.sl (L x1.1.2.1),.sl (L x1.1.2.2)],.i .i64 x1.2]) (Ad (ND hx1) Tryz.call133)) ?_;refine vk (vex) ?_;refine vk (vex) ?_
 refine stn ?_ Ak (by decide)
 refine ar [2,3] ?_;refine .ret ?_
 cases h
 exact ⟨_,_,⟨.inr rfl,Au,Ak,(by decide:(0:Nat)<3)⟩,rfl,rfl⟩
def KF (a0 : RT) : Option (RT × Int):=((Fv a0).bind fun x1=>(if x1=0 then ((BM 1).bind fun x2=>(some (x2,0))) else (some ((false,[],[]),3))))
theorem Pu {a0 : RT} {r : RT × Int} (h : KF a0=some r) :
  Fn Tryz.prog 84 [.ag [.b a0.1,.sl (L a0.2.1),.sl (L a0.2.2)]] (.tup [.d (.ag [.b r.1.1,.sl (L r.1.2.1),.sl (L r.1.2.2)]),.d (.i .i64 r.2)]):=by
 unfold KF at h
 refine Fn.ofC (rs:=[.cell 2 32,.tmp 3]) (nt:=9) Tryz.func84 rfl rfl rfl (by simp) rfl ?_;refine .sr ?_;refine vk (vbx) ?_;refine vk (van (Ah BO) BN) ?_;refine ar [1,2,3] ?_;refine .seq ?_;refine .sr ?_;refine vk (Ap Au Ak) ?_
 obtain ⟨x1,hx1,h⟩:=bnd h
 refine vk (Ad (FZ hx1) Tryz.call86) ?_;refine vk (vbi) ?_;refine rk [2,3,6] ?_
 by_cases hc:x1=0
 ·replace h:=Aj hc h
  refine cnf (ntf (dT hc)) ?_;refine .skip ?_
  show AW _ _ _ _ _ _
  refine .sr ?_
  obtain ⟨x2,hx2,h⟩:=bnd h
  refine vk (Ad (Br hx2) Tryz.call72) ?_
  refine stn ?_ Ak (by decide)
  refine ar [2,3] ?_;refine .ret ?_
  cases h
  exact ⟨_,_,⟨.inr rfl,Au,Ak,(by decide:(0:Nat)<3)⟩,rfl,rfl⟩
 replace h:=Ai hc h
 refine cnt (ntt (dF hc)) ?_;refine .sr ?_;refine vk (vbd Ee BO BN) ?_
 refine stn ?_ Ak (by decide)
 refine ar [2,3] ?_;refine .ret ?_
 cases h
 exact ⟨_,_,⟨.inr rfl,Au,Ak,(by decide:(0:Nat)<3)⟩,rfl,rfl⟩
def IV (a0 : RT) : Option (RT × Int):=((Fv a0).bind fun x1=>((BM x1).bind fun x2=>(some (x2,0))))
theorem MZ {a0 : RT} {r : RT × Int} (h : IV a0=some r) :
  Fn Tryz.prog 85 [.ag [.b a0.1,.sl (L a0.2.1),.sl (L a0.2.2)]] (.tup [.d (.ag [.b r.1.1,.sl (L r.1.2.1),.sl (L r.1.2.2)]),.d (.i .i64 r.2)]):=by
 unfold IV at h
 refine Fn.ofC (rs:=[.cell 2 32,.tmp 3]) (nt:=7) Tryz.func85 rfl rfl rfl (by simp) rfl ?_;refine .sr ?_;refine vk (vbx) ?_;refine vk (van (Ah BO) BN) ?_;refine ar [1,2,3] ?_;refine .sr ?_;refine vk (Ap Au Ak) ?_
 obtain ⟨x1,hx1,h⟩:=bnd h
 refine vk (Ad (FZ hx1) Tryz.call86) ?_
 obtain ⟨x2,hx2,h⟩:=bnd h
 refine vk (Ad (Br hx2) Tryz.call72) ?_
 refine stn ?_ Ak (by decide)
 refine ar [2,3] ?_;refine .ret ?_
 cases h
 exact ⟨_,_,⟨.inr rfl,Au,Ak,(by decide:(0:Nat)<3)⟩,rfl,rfl⟩
def IM (a0 : RT) : Option (RT × Int):=((Fv a0).bind fun x1=>(if x1=0 then (some ((false,[],[]),3)) else ((BM 1).bind fun x2=>((JU x2 a0).bind fun x3=>(some (x3.1,x3.2))))))
theorem Nx {a0 : RT} {r : RT × Int} (h : IM a0=some r) :
  Fn Tryz.prog 87 [.ag [.b a0.1,.sl (L a0.2.1),.sl (L a0.2.2)]] (.tup [.d (.ag [.b r.1.1,.sl (L r.1.2.1),.sl (L r.1.2.2)]),.d (.i .i64 r.2)]):=by
 unfold IM at h
 refine Fn.ofC (rs:=[.cell 2 32,.tmp 3]) (nt:=13) Tryz.func87 rfl rfl rfl (by simp) rfl ?_;refine .sr ?_;refine vk (vbx) ?_;refine vk (van (Ah BO) BN) ?_;refine ar [1,2,3] ?_;refine .seq ?_;refine .sr ?_;refine vk (Ap Au Ak) ?_
 obtain ⟨x1,hx1,h⟩:=bnd h
 refine vk (Ad (FZ hx1) Tryz.call86) ?_;refine vk (vbi) ?_;refine rk [1,2,3,6] ?_
 by_cases hc:x1=0
 ·replace h:=Aj hc h
  refine cnt (dT hc) ?_;refine .sr ?_;refine vk (vbd Ee BO BN) ?_
  refine stn ?_ Ak (by decide)
  refine ar [1,2,3] ?_;refine .ret ?_
  cases h
  exact ⟨_,_,⟨.inr rfl,Au,Ak,(by decide:(0:Nat)<3)⟩,rfl,rfl⟩
 replace h:=Ai hc h
 refine cnf (dF hc) ?_;refine .skip ?_
 show AW _ _ _ _ _ _
 refine .seq ?_;refine .drawn 5 Ba (by kernel_rfl) ?_
 obtain ⟨x2,hx2,h⟩:=bnd h
 refine dv (Ad (Br hx2) Tryz.call72) ?_;refine dv (Ap Au Ak) ?_
 obtain ⟨x3,hx3,h⟩:=bnd h
 refine dv (VOK.tupd (vs:=[.ag [.b x3.1.1,.sl (L x3.1.2.1),.sl (L x3.1.2.2)],.i .i64 x3.2]) (Ad (JG hx3) Tryz.call88)) ?_;refine dv (vex) ?_;refine dv (vex) ?_;refine dz ?_
 refine stn ?_ Ak (by decide)
 refine ar [2,3] ?_;refine .ret ?_
 cases h
 exact ⟨_,_,⟨.inr rfl,Au,Ak,(by decide:(0:Nat)<3)⟩,rfl,rfl⟩
def Hz (a0 : RT) : Option (RT × Int):=((E2 a0).bind fun x1=>(if x1.2=true then ((CF (!x1.1)).bind fun x2=>(some (x2,0))) else (some ((false,[],[]),3))))
theorem Ni {a0 : RT} {r : RT × Int} (h : Hz a0=some r) :
  Fn Tryz.prog 89 [.ag [.b a0.1,.sl (L a0.2.1),.sl (L a0.2.2)]] (.tup [.d (.ag [.b r.1.1,.sl (L r.1.2.1),.sl (L r.1.2.2)]),.d (.i .i64 r.2)]):=by
 unfold Hz at h
 refine Fn.ofC (rs:=[.cell 2 32,.tmp 3]) (nt:=17) Tryz.func89 rfl rfl rfl (by simp) rfl ?_;refine .sr ?_;refine vk (vbx) ?_;refine vk (van (Ah BO) BN) ?_;refine ar [1,2,3] ?_;refine .sr ?_;refine vk (Ap Au Ak) ?_
 obtain ⟨x1,hx1,h⟩:=bnd h
 refine vk (VOK.tupd (vs:=[.b x1.1,.b x1.2]) (Ad (GV hx1) Tryz.call90)) ?_;refine vk (Aa) ?_;refine vk (vex) ?_;refine vk (vex) ?_;refine asd ?_;refine ar [2,3,4,5] ?_;refine .seq ?_;refine .sr ?_;refine vk (Aa) ?_;refine vk (vnt) ?_;refine rk [2,3,4,12] ?_
 by_cases hc:x1.2=true
 ·replace h:=Aj hc h
  refine cnf (ntf hc) ?_;refine .skip ?_
  show AW _ _ _ _ _ _
  refine .sr ?_;refine vk (Aa) ?_;refine vk (vnt) ?_
  obtain ⟨x2,hx2,h⟩:=bnd h
  refine vk (Ad (Eg hx2) Tryz.call91) ?_
  refine stn ?_ Ak (by decide)
  refine ar [2,3] ?_;refine .ret ?_
  cases h
  exact ⟨_,_,⟨.inr rfl,Au,Ak,(by decide:(0:Nat)<3)⟩,rfl,rfl⟩
 replace h:=Ai hc h
 refine cnt (ntt (bf hc)) ?_;refine .sr ?_;refine vk (vbd Ee BO BN) ?_
 refine stn ?_ Ak (by decide)
 refine ar [2,3,4] ?_;refine .ret ?_
 cases h
 exact ⟨_,_,⟨.inr rfl,Au,Ak,(by decide:(0:Nat)<3)⟩,rfl,rfl⟩
def Df (a0 : RT) (a1 : RT) : Option (RT × Int):=((Ll ([a0,a1])).bind fun x1=>(some (x1.1,x1.2)))
theorem Kp {a0 : RT} {a1 : RT} {r : RT × Int} (h : Df a0 a1=some r) :
  Fn Tryz.prog 132 [.ag [.b a0.1,.sl (L a0.2.1),.sl (L a0.2.2)],.ag [.b a1.1,.sl (L a1.2.1),.sl (L a1.2.2)]] (.tup [.d (.ag [.b r.1.1,.sl (L r.1.2.1),.sl (L r.1.2.2)]),.d (.i .i64 r.2)]):=by
 unfold Df at h
 refine Fn.ofC (rs:=[.cell 4 32,.tmp 5]) (nt:=12) Tryz.func132 rfl rfl rfl (by simp) rfl ?_;refine .sr ?_;refine vk (vbx) ?_;refine vk (vbx) ?_;refine vk (van (Ah BO) BN) ?_;refine ar [2,3,4,5] ?_;refine .sr ?_;refine vk (Ap Au Ak) ?_;refine vk (Ap Au Ak) ?_;refine vk ((Ev (Da [a0,a1]) Fb).deep) ?_
 obtain ⟨x1,hx1,h⟩:=bnd h
 refine vk (VOK.tupd (vs:=[.ag [.b x1.1.1,.sl (L x1.1.2.1),.sl (L x1.1.2.2)],.i .i64 x1.2]) (Ad (ND hx1) Tryz.call133)) ?_;refine vk (vex) ?_;refine vk (vex) ?_
 refine stn ?_ Ak (by decide)
 refine ar [4,5] ?_;refine .ret ?_
 cases h
 exact ⟨_,_,⟨.inr rfl,Au,Ak,(by decide:(0:Nat)<3)⟩,rfl,rfl⟩
def Dg (a0 : RT) (a1 : RT) : Option (RT × Int):=((JS ([a0,a1])).bind fun x1=>(some (x1.1,x1.2)))
theorem J5 {a0 : RT} {a1 : RT} {r : RT × Int} (h : Dg a0 a1=some r) :
  Fn Tryz.prog 134 [.ag [.b a0.1,.sl (L a0.2.1),.sl (L a0.2.2)],.ag [.b a1.1,.sl (L a1.2.1),.sl (L a1.2.2)]] (.tup [.d (.ag [.b r.1.1,.sl (L r.1.2.1),.sl (L r.1.2.2)]),.d (.i .i64 r.2)]):=by
 unfold Dg at h
 refine Fn.ofC (rs:=[.cell 4 32,.tmp 5]) (nt:=12) Tryz.func134 rfl rfl rfl (by simp) rfl ?_;refine .sr ?_;refine vk (vbx) ?_;refine vk (vbx) ?_;refine vk (van (Ah BO) BN) ?_;refine ar [2,3,4,5] ?_;refine .sr ?_;refine vk (Ap Au Ak) ?_;refine vk (Ap Au Ak) ?_;refine vk ((Ev (Da [a0,a1]) Fb).deep) ?_
 obtain ⟨x1,hx1,h⟩:=bnd h
 refine vk (VOK.tupd (vs:=[.ag [.b x1.1.1,.sl (L x1.1.2.1),.sl (L x1.1.2.2)],.i .i64 x1.2]) (Ad (JZ hx1) Tryz.call135)) ?_;refine vk (vex) ?_;refine vk (vex) ?_
 refine stn ?_ Ak (by decide)
 refine ar [4,5] ?_;refine .ret ?_
 cases h
 exact ⟨_,_,⟨.inr rfl,Au,Ak,(by decide:(0:Nat)<3)⟩,rfl,rfl⟩
def Gw (a0 : Int) : Option (Bool):=(some ((decide (a0<0))))
theorem JW {a0 : Int} {r : Bool} (h : Gw a0=some r) :
  Fn Tryz.prog 142 [.i .i64 a0] (.d (.b r)):=by
 unfold Gw at h
 refine Fn.o1 2 5 Tryz.func142 ?_;refine .sr ?_;refine ar [0,2] ?_;refine .sr ?_;refine vk (Aa) ?_;refine vk (vbi) ?_;refine ar [2] ?_;refine .ret ?_
 cases h
 exact ⟨rfl,rfl⟩
def Gm (a0 : Int) : Option (Bool):=(some ((decide (a0≤0))))
theorem Kn {a0 : Int} {r : Bool} (h : Gm a0=some r) :
  Fn Tryz.prog 143 [.i .i64 a0] (.d (.b r)):=by
 unfold Gm at h
 refine Fn.o1 2 5 Tryz.func143 ?_;refine .sr ?_;refine ar [0,2] ?_;refine .sr ?_;refine vk (Aa) ?_;refine vk (vbi) ?_;refine ar [2] ?_;refine .ret ?_
 cases h
 exact ⟨rfl,rfl⟩
def Gv (a0 : Int) : Option (Bool):=(some ((decide (a0=0))))
theorem Kk {a0 : Int} {r : Bool} (h : Gv a0=some r) :
  Fn Tryz.prog 144 [.i .i64 a0] (.d (.b r)):=by
 unfold Gv at h
 refine Fn.o1 2 5 Tryz.func144 ?_;refine .sr ?_;refine ar [0,2] ?_;refine .sr ?_;refine vk (Aa) ?_;refine vk (vbi) ?_;refine ar [2] ?_;refine .ret ?_
 cases h
 exact ⟨rfl,rfl⟩
def Gu (a0 : Int) : Option (Bool):=(some ((decide (0≤a0))))
theorem Ko {a0 : Int} {r : Bool} (h : Gu a0=some r) :
  Fn Tryz.prog 145 [.i .i64 a0] (.d (.b r)):=by
 unfold Gu at h
 refine Fn.o1 2 5 Tryz.func145 ?_;refine .sr ?_;refine ar [0,2] ?_;refine .sr ?_;refine vk (Aa) ?_;refine vk (vbi) ?_;refine ar [2] ?_;refine .ret ?_
 cases h
 exact ⟨rfl,rfl⟩
def Gp (a0 : Int) : Option (Bool):=(some ((decide (0<a0))))
theorem Km {a0 : Int} {r : Bool} (h : Gp a0=some r) :
  Fn Tryz.prog 146 [.i .i64 a0] (.d (.b r)):=by
 unfold Gp at h
 refine Fn.o1 2 5 Tryz.func146 ?_;refine .sr ?_;refine ar [0,2] ?_;refine .sr ?_;refine vk (Aa) ?_;refine vk (vbi) ?_;refine ar [2] ?_;refine .ret ?_
 cases h
 exact ⟨rfl,rfl⟩
def Gs (a0 : Int) : Option (Bool):=(some ((!(decide (a0=0)))))
theorem J2 {a0 : Int} {r : Bool} (h : Gs a0=some r) :
  Fn Tryz.prog 147 [.i .i64 a0] (.d (.b r)):=by
 unfold Gs at h
 refine Fn.o1 2 5 Tryz.func147 ?_;refine .sr ?_;refine ar [0,2] ?_;refine .sr ?_;refine vk (Aa) ?_;refine vk (vbi) ?_;refine ar [2] ?_;refine .ret ?_
 cases h
 exact ⟨rfl,rfl⟩
def Fu (a0 : Bool) (a1 : Bool) : Option (Bool):=(some ((a0 && a1)))
theorem Kq {a0 : Bool} {a1 : Bool} {r : Bool} (h : Fu a0 a1=some r) :
  Fn Tryz.prog 149 [.b a0,.b a1] (.d (.b r)):=by
 unfold Fu at h
 refine Fn.o1 4 9 Tryz.func149 ?_;refine .sr ?_;refine ar [0,1,4] ?_;refine .seq ?_;refine AW.mr (σ:=Unit) (fun _=>True) (fun _=>[(4,.d (.b (a0 && a1)))]) (fun _=>[]) ?_ ?_
 ·skip
  refine .region ?_;refine vk (Aa) ?_
  by_cases hc:a0=true
  ·have hb0:a0=true:=hc
   refine vk (VOK.lit (Aa) hb0) ?_;refine vk (Aa) ?_;refine vk (Am) ?_;refine asd ?_;refine RL.gk [4] ?_;refine .nil ?_
   exact jr () trivial (by simp only [hb0];rfl)
  have hb0:a0=false:=(bf hc)
  refine vk (VOK.lit (Aa) hb0) ?_;refine gf ?_;refine vk (Am) ?_;refine asd ?_;refine RL.gk [4] ?_;refine .nil ?_
  exact jr () trivial (by simp only [hb0];rfl)
 rintro _ _
 refine .ret ?_
 cases h
 exact ⟨rfl,rfl⟩
def E1 (a0 : Bool) (a1 : Bool) : Option (Bool):=(some ((a0 || a1)))
theorem JM {a0 : Bool} {a1 : Bool} {r : Bool} (h : E1 a0 a1=some r) :
  Fn Tryz.prog 150 [.b a0,.b a1] (.d (.b r)):=by
 unfold E1 at h
 refine Fn.o1 4 9 Tryz.func150 ?_;refine .sr ?_;refine ar [0,1,4] ?_;refine .seq ?_;refine AW.mr (σ:=Unit) (fun _=>True) (fun _=>[(4,.d (.b (a0 || a1)))]) (fun _=>[]) ?_ ?_
 ·skip
  refine .region ?_;refine vk (Aa) ?_
  by_cases hc:a0=true
  ·have hb0:a0=true:=hc
   refine vk (VOK.lit (Aa) hb0) ?_;refine gf ?_;refine vk (Am) ?_;refine asd ?_;refine RL.gk [4] ?_;refine .nil ?_
   exact jr () trivial (by simp only [hb0];rfl)
  have hb0:a0=false:=(bf hc)
  refine vk (VOK.lit (Aa) hb0) ?_;refine vk (Aa) ?_;refine vk (Am) ?_;refine asd ?_;refine RL.gk [4] ?_;refine .nil ?_
  exact jr () trivial (by simp only [hb0];rfl)
 rintro _ _
 refine .ret ?_
 cases h
 exact ⟨rfl,rfl⟩
def E4 (a0 : Bool) (a1 : Bool) : Option (Bool):=(some ((!a0 || (!a1))))
theorem JI {a0 : Bool} {a1 : Bool} {r : Bool} (h : E4 a0 a1=some r) :
  Fn Tryz.prog 151 [.b a0,.b a1] (.d (.b r)):=by
 unfold E4 at h
 refine Fn.o1 4 10 Tryz.func151 ?_;refine .sr ?_;refine ar [0,1,4] ?_;refine .seq ?_;refine AW.mr (σ:=Unit) (fun _=>True) (fun _=>[(4,.d (.b (!a0 || (!a1))))]) (fun _=>[]) ?_ ?_
 ·skip
  refine .region ?_;refine vk (Aa) ?_
  by_cases hc:a0=true
  ·have hb0:a0=true:=hc
   refine vk (VOK.lit (Aa) hb0) ?_;refine vk (Aa) ?_;refine vk (Am) ?_;refine vk (vnt) ?_;refine asd ?_;refine RL.gk [4] ?_;refine .nil ?_
   exact jr () trivial (by simp only [hb0];rfl)
  have hb0:a0=false:=(bf hc)
  refine vk (VOK.lit (Aa) hb0) ?_;refine gf ?_;refine vk (Am) ?_;refine vk (vnt) ?_;refine asd ?_;refine RL.gk [4] ?_;refine .nil ?_
  exact jr () trivial (by simp only [hb0];rfl)
 rintro _ _
 refine .ret ?_
 cases h
 exact ⟨rfl,rfl⟩
def FG (a0 : Bool) (a1 : Bool) : Option (Bool):=(some ((!a0 && (!a1))))
theorem Jq {a0 : Bool} {a1 : Bool} {r : Bool} (h : FG a0 a1=some r) :
  Fn Tryz.prog 152 [.b a0,.b a1] (.d (.b r)):=by
 unfold FG at h
 refine Fn.o1 4 10 Tryz.func152 ?_;refine .sr ?_;refine ar [0,1,4] ?_;refine .seq ?_;refine AW.mr (σ:=Unit) (fun _=>True) (fun _=>[(4,.d (.b (!a0 && (!a1))))]) (fun _=>[]) ?_ ?_
 ·skip
  refine .region ?_;refine vk (Aa) ?_
  by_cases hc:a0=true
  ·have hb0:a0=true:=hc
   refine vk (VOK.lit (Aa) hb0) ?_;refine gf ?_;refine vk (Am) ?_;refine vk (vnt) ?_;refine asd ?_;refine RL.gk [4] ?_;refine .nil ?_
   exact jr () trivial (by simp only [hb0];rfl)
  have hb0:a0=false:=(bf hc)
  refine vk (VOK.lit (Aa) hb0) ?_;refine vk (Aa) ?_;refine vk (Am) ?_;refine vk (vnt) ?_;refine asd ?_;refine RL.gk [4] ?_;refine .nil ?_
  exact jr () trivial (by simp only [hb0];rfl)
 rintro _ _
 refine .ret ?_
 cases h
 exact ⟨rfl,rfl⟩
def CB (a0 : RT) (a1 : RT) (c0 : Int) : Option (RT × Int):=((DN a0 a1).bind fun x1=>(if (w64 (c0 * x1))<0 then ((El a1).bind fun x2=>(some (x2.1,x2.2))) else ((El a0).bind fun x3=>(some (x3.1,x3.2)))))
theorem Fj {a0 : RT} {a1 : RT} {c0 : Int} {r : RT × Int} (h : CB a0 a1 c0=some r) :
  Fn Tryz.prog 210 [.ag [.b a0.1,.sl (L a0.2.1),.sl (L a0.2.2)],.ag [.b a1.1,.sl (L a1.2.1),.sl (L a1.2.2)],.ptr [.i .i64 c0]] (.tup [.d (.ag [.b r.1.1,.sl (L r.1.2.1),.sl (L r.1.2.2)]),.d (.i .i64 r.2)]):=by
 unfold CB at h
 refine Fn.ofC (rs:=[.cell 5 32,.tmp 6]) (nt:=21) Tryz.func210 rfl rfl rfl (by simp) rfl ?_;refine .sr ?_;refine vk (vbx) ?_;refine vk (vbx) ?_;refine vk (van (Ah BO) BN) ?_;refine ar [2,3,4,5,6] ?_;refine .seq ?_;refine .seq ?_;refine .drawn 6 Ba (by kernel_rfl) ?_;refine dv (An CK) ?_;refine dv (Ap Au Ak) ?_;refine dv (Ap Au Ak) ?_
 obtain ⟨x1,hx1,h⟩:=bnd h
 refine dv (Ad (FH hx1) Tryz.call211) ?_;refine dv (vbi) ?_;refine dv (vbi) ?_;refine dz ?_;refine rk [3,4,5,6,12] ?_
 by_cases hc:(w64 (c0 * x1))<0
 ·replace h:=Aj hc h
  refine cnt (dT hc) ?_;refine .sr ?_;refine vk (Ap Au Ak) ?_
  obtain ⟨x2,hx2,h⟩:=bnd h
  refine vk (VOK.tupd (vs:=[.ag [.b x2.1.1,.sl (L x2.1.2.1),.sl (L x2.1.2.2)],.i .i64 x2.2]) (Ad (Gc hx2) Tryz.call78)) ?_;refine vk (vex) ?_;refine vk (vex) ?_
  refine stn ?_ Ak (by decide)
  refine ar [3,5,6] ?_;refine .ret ?_
  cases h
  exact ⟨_,_,⟨.inr rfl,Au,Ak,(by decide:(0:Nat)<3)⟩,rfl,rfl⟩
 replace h:=Ai hc h
 refine cnf (dF hc) ?_;refine .skip ?_
 show AW _ _ _ _ _ _
 refine .sr ?_;refine vk (Ap Au Ak) ?_
 obtain ⟨x3,hx3,h⟩:=bnd h
 refine vk (VOK.tupd (vs:=[.ag [.b x3.1.1,.sl (L x3.1.2.1),.sl (L x3.1.2.2)],.i .i64 x3.2]) (Ad (Gc hx3) Tryz.call78)) ?_;refine vk (vex) ?_;refine vk (vex) ?_
 refine stn ?_ Ak (by decide)
 refine ar [5,6] ?_;refine .ret ?_
 cases h
 exact ⟨_,_,⟨.inr rfl,Au,Ak,(by decide:(0:Nat)<3)⟩,rfl,rfl⟩
def A1 (a0 : RT) (a1 : RT) (c0 : Bn) (c1 : RT) : Option (RT × Int):=((ET c1 a0 a1).bind fun x1=>((c0.g x1).bind fun x2=>((CF x2).bind fun x3=>(some (x3,0)))))
theorem Bq {a0 : RT} {a1 : RT} {c0 : Bn} {c1 : RT} (oc0 : Hj c0) {r : RT × Int} (h : A1 a0 a1 c0 c1=some r) :
  Fn Tryz.prog 212 [.ag [.b a0.1,.sl (L a0.2.1),.sl (L a0.2.2)],.ag [.b a1.1,.sl (L a1.2.1),.sl (L a1.2.2)],.ptr [c0.dv],.ptr [.b c1.1,.sl (L c1.2.1),.sl (L c1.2.2)]] (.tup [.d (.ag [.b r.1.1,.sl (L r.1.2.1),.sl (L r.1.2.2)]),.d (.i .i64 r.2)]):=by
 unfold A1 at h
 refine Fn.ofC (rs:=[.cell 6 32,.tmp 7]) (nt:=15) Tryz.func212 rfl rfl rfl (by simp) rfl ?_;refine .sr ?_;refine vk (vbx) ?_;refine vk (vbx) ?_;refine vk (van (Ah BO) BN) ?_;refine ar [2,3,4,5,6,7] ?_;refine .seq ?_;refine .drawn 7 Ba (by kernel_rfl) ?_;refine dv (An K5) ?_;refine dv (Ap Au Ak) ?_;refine dv (Ap Au Ak) ?_;refine dv (Ap Au Ak) ?_
 obtain ⟨x1,hx1,h⟩:=bnd h
 refine dv (Ad (KX hx1) Tryz.call213) ?_
 obtain ⟨x2,hx2,h⟩:=bnd h
 refine dv (MQ (oc0 _ _ hx2)) ?_
 obtain ⟨x3,hx3,h⟩:=bnd h
 refine dv (Ad (Eg hx3) Tryz.call91) ?_;refine dz ?_
 refine stn ?_ Ak (by decide)
 refine ar [6,7] ?_;refine .ret ?_
 cases h
 exact ⟨_,_,⟨.inr rfl,Au,Ak,(by decide:(0:Nat)<3)⟩,rfl,rfl⟩
def Bg (a0 : RT) (a1 : RT) (c0 : Dw) : Option (RT × Int):=((E2 a0).bind fun x1=>((E2 a1).bind fun x2=>(if ((!x1.2) || (!x2.2))=true then (some ((false,[],[]),3)) else ((c0.g (x1.1,x2.1)).bind fun x3=>((CF x3).bind fun x4=>(some (x4,0)))))))
theorem CQ {a0 : RT} {a1 : RT} {c0 : Dw} (oc0 : IY c0) {r : RT × Int} (h : Bg a0 a1 c0=some r) :
  Fn Tryz.prog 214 [.ag [.b a0.1,.sl (L a0.2.1),.sl (L a0.2.2)],.ag [.b a1.1,.sl (L a1.2.1),.sl (L a1.2.2)],.ptr [c0.dv]] (.tup [.d (.ag [.b r.1.1,.sl (L r.1.2.1),.sl (L r.1.2.2)]),.d (.i .i64 r.2)]):=by
 unfold Bg at h
 refine Fn.ofC (rs:=[.cell 5 32,.tmp 6]) (nt:=33) Tryz.func214 rfl rfl rfl (by simp) rfl ?_;refine .sr ?_;refine vk (vbx) ?_;refine vk (vbx) ?_;refine vk (van (Ah BO) BN) ?_;refine ar [2,3,4,5,6] ?_;refine .sr ?_;refine vk (Ap Au Ak) ?_
 obtain ⟨x1,hx1,h⟩:=bnd h
 refine vk (VOK.tupd (vs:=[.b x1.1,.b x1.2]) (Ad (GV hx1) Tryz.call90)) ?_;refine vk (Aa) ?_;refine vk (vex) ?_;refine vk (vex) ?_;refine asd ?_;refine ar [2,4,5,6,7,8] ?_;refine .sr ?_;refine vk (Ap Au Ak) ?_
 obtain ⟨x2,hx2,h⟩:=bnd h
 refine vk (VOK.tupd (vs:=[.b x2.1,.b x2.2]) (Ad (GV hx2) Tryz.call90)) ?_;refine vk (Aa) ?_;refine vk (vex) ?_;refine vk (vex) ?_;refine asd ?_;refine ar [2,5,6,7,8,9,10] ?_;refine .seq ?_;refine .seq ?_;refine AW.mr (σ:=Unit) (fun _=>True) (fun _=>[(2,.d (.ptr [c0.dv])),(5,.nb [.b false,.sl (L []),.sl (L [])]),(6,.d (.i .i64 0)),(7,.d (.b x1.1)),(9,.d (.b x2.1)),(26,.d (.b ((!x1.2) || (!x2.2))))]) (fun _=>[]) ?_ ?_
 ·skip
  refine .region ?_;refine vk (Aa) ?_;refine vk (vnt) ?_
  by_cases hc:x1.2=true
  ·have hb0:(!x1.2)=false:=(ntf hc)
   refine vk (VOK.lit (Aa) hb0) ?_;refine vk (Aa) ?_;refine vk (vnt) ?_;refine vk (Am) ?_;refine RL.gk [2,5,6,7,9,26] ?_;refine .nil ?_
   exact jr () trivial (by simp only [hb0];rfl)
  have hb0:(!x1.2)=true:=(ntt (bf hc))
  refine vk (VOK.lit (Aa) hb0) ?_;refine gf ?_;refine gf ?_;refine vk (Am) ?_;refine RL.gk [2,5,6,7,9,26] ?_;refine .nil ?_
  exact jr () trivial (by simp only [hb0];rfl)
 rintro _ _
 by_cases hc:((!x1.2) || (!x2.2))=true
 ·replace h:=Aj hc h
  refine cnt hc ?_;refine .sr ?_;refine vk (vbd Ee BO BN) ?_
  refine stn ?_ Ak (by decide)
  refine ar [2,5,6,7,9] ?_;refine .ret ?_
  cases h
  exact ⟨_,_,⟨.inr rfl,Au,Ak,(by decide:(0:Nat)<3)⟩,rfl,rfl⟩
 replace h:=Ai hc h
 refine cnf (bf hc) ?_;refine .skip ?_
 show AW _ _ _ _ _ _
 refine .sr ?_;refine vk (An HB) ?_;refine vk (Aa) ?_;refine vk (Aa) ?_
 obtain ⟨x3,hx3,h⟩:=bnd h
 refine vk (MQ (oc0 _ _ hx3)) ?_
 obtain ⟨x4,hx4,h⟩:=bnd h
 refine vk (Ad (Eg hx4) Tryz.call91) ?_
 refine stn ?_ Ak (by decide)
 refine ar [5,6] ?_;refine .ret ?_
 cases h
 exact ⟨_,_,⟨.inr rfl,Au,Ak,(by decide:(0:Nat)<3)⟩,rfl,rfl⟩
def Cy (a0 : RT) : Option (Itm):=(some ((Itm.mk 1 a0 0 [])))
theorem DP {a0 : RT} {r : Itm} (h : Cy a0=some r) :
  Fn Tryz.prog 94 [.ag [.b a0.1,.sl (L a0.2.1),.sl (L a0.2.2)]] (.d (.ag [.i .u8 r.kind,.b r.num.1,.sl (L r.num.2.1),.sl (L r.num.2.2),.i .i32 r.char,.sl (Ars r.box)])):=by
 unfold Cy at h
 refine Fn.ofC (rs:=[.cell 2 83]) (nt:=5) Tryz.func94 rfl rfl rfl (by simp) rfl ?_;refine .sr ?_;refine vk (vbx) ?_;refine vk (van (Ah B2) Cb) ?_;refine rk [1,2] ?_;refine .sr ?_;refine vk (Ap Au Ak) ?_;refine vk (vbd Hr B2 Cb) ?_
 refine stn ?_ Ay (by decide)
 refine rk [2] ?_;refine .ret ?_
 cases h
 exact ⟨_,⟨.inr rfl,AP,Ay,(by decide:(0:Nat)<6)⟩,rfl⟩
def Db (a0 : Arr) (a1 : Arr) : Option ((List Int) × Int):=((C6 a0.shape).bind fun x1=>((C6 a1.shape).bind fun x2=>((Bu a0.shape a1.shape).bind fun x3=>(if x3=true then (some (a0.shape,0)) else (if ((decide (x1.1=1)) && ((!(decide (x2.1=1))) || (decide (((List.length a0.shape : Nat) : Int)<((List.length a1.shape : Nat) : Int)))))=true then (some (a1.shape,0)) else (if x2.1=1 then (some (a0.shape,0)) else (if ((List.length a0.shape : Nat) : Int)=((List.length a1.shape : Nat) : Int) then (some ([],5)) else (some ([],4)))))))))
theorem I5 {a0 : Arr} {a1 : Arr} {r : (List Int) × Int} (h : Db a0 a1=some r) :
  Fn Tryz.prog 114 [.ag [.sl (Is a0.shape),.sl (Its a0.items)],.ag [.sl (Is a1.shape),.sl (Its a1.items)]] (.tup [.d (.sl (Is r.1)),.d (.i .i64 r.2)]):=by
 unfold Db at h
 refine Fn.of (rs:=[.tmp 4,.tmp 5]) (nt:=61) Tryz.func114 rfl rfl rfl (by simp) rfl ?_;refine .sr ?_;refine vk (vbx) ?_;refine vk (vbx) ?_;refine asn ?_;refine ar [2,3,4,5] ?_;refine .sr ?_;refine vk (vfa Bc) ?_;refine vk (An C3) ?_
 obtain ⟨x1,hx1,h⟩:=bnd h
 refine vk (VOK.tupd (vs:=[.i .i64 x1.1,.i .i64 x1.2]) (Ad (DQ hx1) Tryz.call98)) ?_;refine vk (Aa) ?_;refine vk (vex) ?_;refine vk (vex) ?_;refine asd ?_;refine ar [2,3,4,5,6] ?_;refine .sr ?_;refine vk (vfa Bc) ?_;refine vk (An C3) ?_
 obtain ⟨x2,hx2,h⟩:=bnd h
 refine vk (VOK.tupd (vs:=[.i .i64 x2.1,.i .i64 x2.2]) (Ad (DQ hx2) Tryz.call98)) ?_;refine vk (Aa) ?_;refine vk (vex) ?_;refine vk (vex) ?_;refine asd ?_;refine ar [2,3,4,5,6,8] ?_;refine .seq ?_;refine .block ?_;refine .sr ?_;refine vk (vfa Bc) ?_;refine vk (An C3) ?_;refine vk (vfa Bc) ?_;refine vk (An C3) ?_
 obtain ⟨x3,hx3,h⟩:=bnd h
 refine vk (Ad (Ed hx3) Tryz.call109) ?_;refine ar [2,3,4,5,6,8,22] ?_
 by_cases hc:x3=true
 ·replace h:=Aj hc h
  refine cnt hc ?_;refine .sr ?_;refine vk (vfa Bc) ?_;refine vk (An C3) ?_;refine asd ?_;refine ar [4,5] ?_;refine .ret ?_
  cases h
  exact ⟨by decide,rfl,rfl,rfl⟩
 replace h:=Ai hc h
 refine cnf (bf hc) ?_;refine .seq ?_;refine AW.mr (σ:=Unit) (fun _=>True) (fun _=>[(2,.d (.ptr [.sl (Is a0.shape),.sl (Its a0.items)])),(3,.d (.ptr [.sl (Is a1.shape),.sl (Its a1.items)])),(4,.nl),(5,.d (.i .i64 0)),(8,.d (.i .i64 x2.1)),(30,.d (.b ((decide (x1.1=1)) && ((!(decide (x2.1=1))) || (decide (((List.length a0.shape:Nat):Int)<((List.length a1.shape:Nat):Int)))))))]) (fun _=>[]) ?_ ?_
 ·skip
  refine .region ?_;refine vk (Aa) ?_;refine vk (vbi) ?_
  by_cases hc:x1.1=1
  ·have hb0:(decide (x1.1=1))=true:=(dT hc)
   refine vk (VOK.lit (Aa) hb0) ?_;refine vk (Aa) ?_;refine vk (vbi) ?_
   by_cases hc:x2.1=1
   ·have hb1:(!(decide (x2.1=1)))=false:=(ntf (dT hc))
    refine vk (VOK.lit (Aa) hb1) ?_;refine vk (vfa Bc) ?_;refine vk (An C3) ?_;refine vk (Bz (Bh _) (E5 _) E7) ?_;refine vk (vfa Bc) ?_;refine vk (An C3) ?_;refine vk (Bz (Bh _) (E5 _) E7) ?_;refine vk (vbi) ?_;refine vk (Am) ?_;refine vk (Am) ?_;refine asd ?_;refine RL.gk [2,3,4,5,8,30] ?_;refine .nil ?_
    exact jr () trivial (by simp only [hb0,hb1];rfl)
   have hb1:(!(decide (x2.1=1)))=true:=(ntt (dF hc))
   refine vk (VOK.lit (Aa) hb1) ?_;refine gf ?_;refine gf ?_;refine gf ?_;refine gf ?_;refine gf ?_;refine gf ?_;refine gf ?_;refine vk (Am) ?_;refine vk (Am) ?_;refine asd ?_;refine RL.gk [2,3,4,5,8,30] ?_;refine .nil ?_
   exact jr () trivial (by simp only [hb0,hb1];rfl)
  have hb0:(decide (x1.1=1))=false:=(dF hc)
  refine vk (VOK.lit (Aa) hb0) ?_;refine gf ?_;refine gf ?_;refine gfu ?_;refine gf ?_;refine gf ?_;refine gf ?_;refine gf ?_;refine gf ?_;refine gf ?_;refine gf ?_;refine gf ?_;refine vk (Am) ?_;refine asd ?_;refine RL.gk [2,3,4,5,8,30] ?_;refine .nil ?_
  exact jr () trivial (by simp only [hb0];rfl)
 rintro _ _
 by_cases hc:((decide (x1.1=1)) && ((!(decide (x2.1=1))) || (decide (((List.length a0.shape:Nat):Int)<((List.length a1.shape:Nat):Int)))))=true
 ·replace h:=Aj hc h
  refine cnt hc ?_;refine .sr ?_;refine vk (vfa Bc) ?_;refine vk (An C3) ?_;refine asd ?_;refine ar [4,5] ?_;refine .ret ?_
  cases h
  exact ⟨by decide,rfl,rfl,rfl⟩
 replace h:=Ai hc h
 refine cnf (bf hc) ?_;refine .sr ?_;refine vk (Aa) ?_;refine vk (vbi) ?_;refine ar [2,3,4,5,48] ?_
 by_cases hc:x2.1=1
 ·replace h:=Aj hc h
  refine cnt (dT hc) ?_;refine .sr ?_;refine vk (vfa Bc) ?_;refine vk (An C3) ?_;refine asd ?_;refine ar [4,5] ?_;refine .ret ?_
  cases h
  exact ⟨by decide,rfl,rfl,rfl⟩
 replace h:=Ai hc h
 refine cnf (dF hc) ?_;refine .sr ?_;refine vk (vfa Bc) ?_;refine vk (An C3) ?_;refine vk (Bz (Bh _) (E5 _) E7) ?_;refine vk (vfa Bc) ?_;refine vk (An C3) ?_;refine vk (Bz (Bh _) (E5 _) E7) ?_;refine vk (vbi) ?_;refine ar [4,5,53] ?_
 by_cases hc:((List.length a0.shape:Nat):Int)=((List.length a1.shape:Nat):Int)
 ·replace h:=Aj hc h
  refine cnf (ntf (dT hc)) ?_;refine .skip ?_
  show AW _ _ _ _ _ _
  refine .sr ?_;refine asn ?_;refine ar [4,5] ?_;refine .gh (Gh.nlD (t:=4) rfl) ?_;refine .ret ?_
  cases h
  exact ⟨by decide,rfl,rfl,rfl⟩
 replace h:=Ai hc h
 refine cnt (ntt (dF hc)) ?_;refine .sr ?_;refine asn ?_;refine ar [4,5] ?_;refine .gh (Gh.nlD (t:=4) rfl) ?_;refine .ret ?_
 cases h
 exact ⟨by decide,rfl,rfl,rfl⟩
def MU : List (Int × AA):=[(43,⟨.fn 78 [] [],fun x=>El x⟩),(45,⟨.fn 79 [] [],fun x=>MB x⟩),(8968,⟨.fn 80 [] [],fun x=>Pa x⟩),(8970,⟨.fn 81 [] [],fun x=>IH x⟩),(124,⟨.fn 82 [] [],fun x=>Rr x⟩),(33,⟨.fn 83 [] [],fun x=>IU x⟩),(42,⟨.fn 84 [] [],fun x=>KF x⟩),(215,⟨.fn 85 [] [],fun x=>IV x⟩),(247,⟨.fn 87 [] [],fun x=>IM x⟩),(126,⟨.fn 89 [] [],fun x=>Hz x⟩)]
theorem WH : (MU.map (·.1)).Nodup:=by show List.Nodup [(43 : Int),(45 : Int),(8968 : Int),(8970 : Int),(124 : Int),(33 : Int),(42 : Int),(215 : Int),(247 : Int),(126 : Int)];decide
def isF (d : DV) : Prop:=∃ f fs cs,d=.fn f fs cs
theorem Ve : ∀ p ∈ MU,Du p.2∧isF p.2.dv:=by
 intro p hp
 simp only [MU,List.mem_cons,List.not_mem_nil,or_false] at hp
 rcases hp with rfl | rfl | rfl | rfl | rfl | rfl | rfl | rfl | rfl | rfl
 ·exact ⟨Cp Tryz.call78 (fun _ _ h=>Gc h),_,_,_,rfl⟩
 ·exact ⟨Cp Tryz.call79 (fun _ _ h=>TU h),_,_,_,rfl⟩
 ·exact ⟨Cp Tryz.call80 (fun _ _ h=>SP h),_,_,_,rfl⟩
 ·exact ⟨Cp Tryz.call81 (fun _ _ h=>Kv h),_,_,_,rfl⟩
 ·exact ⟨Cp Tryz.call82 (fun _ _ h=>Uc h),_,_,_,rfl⟩
 ·exact ⟨Cp Tryz.call83 (fun _ _ h=>Nu h),_,_,_,rfl⟩
 ·exact ⟨Cp Tryz.call84 (fun _ _ h=>Pu h),_,_,_,rfl⟩
 ·exact ⟨Cp Tryz.call85 (fun _ _ h=>MZ h),_,_,_,rfl⟩
 ·exact ⟨Cp Tryz.call87 (fun _ _ h=>Nx h),_,_,_,rfl⟩
 ·exact ⟨Cp Tryz.call89 (fun _ _ h=>Ni h),_,_,_,rfl⟩
theorem Wx {z : Int} {f : AA} (h : Fe MU z=some f) : Du f∧isF f.dv:=Ve _ (Ms h)
theorem Ww : Fn Tryz.prog 31 [] (.d (Wk .i32 MU)):=Yc
def HU (c : RT) : List (Int × Ac):=[(43,⟨.fn 132 [] [],fun x=>Df x.1 x.2⟩),(215,⟨.fn 134 [] [],fun x=>Dg x.1 x.2⟩),(45,⟨.fn 136 [] [],fun x=>G8 x.1 x.2⟩),(247,⟨.fn 88 [] [],fun x=>JU x.1 x.2⟩),(124,⟨.fn 137 [] [],fun x=>HR x.1 x.2⟩),(42,⟨.fn 138 [] [],fun x=>J7 x.1 x.2⟩),(33,⟨.fn 139 [] [],fun x=>Ha x.1 x.2⟩),(8968,⟨.fn 210 [] [.ptr [.i .i64 1]],fun x=>CB x.1 x.2 1⟩),(8970,⟨.fn 210 [] [.ptr [.i .i64 (-1)]],fun x=>CB x.1 x.2 (-1)⟩),(60,⟨.fn 212 [] [.ptr [.fn 142 [] []],.ptr [.b c.1,.sl (L c.2.1),.sl (L c.2.2)]],fun x=>A1 x.1 x.2 ⟨.fn 142 [] [],fun y=>Gw y⟩ c⟩),(8804,⟨.fn 212 [] [.ptr [.fn 143 [] []],.ptr [.b c.1,.sl (L c.2.1),.sl (L c.2.2)]],fun x=>A1 x.1 x.2 ⟨.fn 143 [] [],fun y=>Gm y⟩ c⟩),(61,⟨.fn 212 [] [.ptr [.fn 144 [] []],.ptr [.b c.1,.sl (L c.2.1),.sl (L c.2.2)]],fun x=>A1 x.1 x.2 ⟨.fn 144 [] [],fun y=>Gv y⟩ c⟩),(8805,⟨.fn 212 [] [.ptr [.fn 145 [] []],.ptr [.b c.1,.sl (L c.2.1),.sl (L c.2.2)]],fun x=>A1 x.1 x.2 ⟨.fn 145 [] [],fun y=>Gu y⟩ c⟩),(62,⟨.fn 212 [] [.ptr [.fn 146 [] []],.ptr [.b c.1,.sl (L c.2.1),.sl (L c.2.2)]],fun x=>A1 x.1 x.2 ⟨.fn 146 [] [],fun y=>Gp y⟩ c⟩),(8800,⟨.fn 212 [] [.ptr [.fn 147 [] []],.ptr [.b c.1,.sl (L c.2.1),.sl (L c.2.2)]],fun x=>A1 x.1 x.2 ⟨.fn 147 [] [],fun y=>Gs y⟩ c⟩),(8743,⟨.fn 214 [] [.ptr [.fn 149 [] []]],fun x=>Bg x.1 x.2 ⟨.fn 149 [] [],fun y=>Fu y.1 y.2⟩⟩),(8744,⟨.fn 214 [] [.ptr [.fn 150 [] []]],fun x=>Bg x.1 x.2 ⟨.fn 150 [] [],fun y=>E1 y.1 y.2⟩⟩),(9074,⟨.fn 214 [] [.ptr [.fn 151 [] []]],fun x=>Bg x.1 x.2 ⟨.fn 151 [] [],fun y=>E4 y.1 y.2⟩⟩),(9073,⟨.fn 214 [] [.ptr [.fn 152 [] []]],fun x=>Bg x.1 x.2 ⟨.fn 152 [] [],fun y=>FG y.1 y.2⟩⟩)]
theorem Te (c : RT) : ((HU c).map (·.1)).Nodup:=by show List.Nodup [(43 : Int),(215 : Int),(45 : Int),(247 : Int),(124 : Int),(42 : Int),(33 : Int),(8968 : Int),(8970 : Int),(60 : Int),(8804 : Int),(61 : Int),(8805 : Int),(62 : Int),(8800 : Int),(8743 : Int),(8744 : Int),(9074 : Int),(9073 : Int)];decide
theorem RX (c : RT) : ∀ p ∈ HU c,Bb p.2∧isF p.2.dv:=by
 intro p hp
 simp only [HU,List.mem_cons,List.not_mem_nil,or_false] at hp
 rcases hp with rfl | rfl | rfl | rfl | rfl | rfl | rfl | rfl | rfl | rfl | rfl | rfl | rfl | rfl | rfl | rfl | rfl | rfl | rfl
 ·exact ⟨Cp Tryz.call132 (fun _ _ h=>Kp h),_,_,_,rfl⟩
 ·exact ⟨Cp Tryz.call134 (fun _ _ h=>J5 h),_,_,_,rfl⟩
 ·exact ⟨Cp Tryz.call136 (fun _ _ h=>FP h),_,_,_,rfl⟩
 ·exact ⟨Cp Tryz.call88 (fun _ _ h=>JG h),_,_,_,rfl⟩
 ·exact ⟨Cp Tryz.call137 (fun _ _ h=>Mm h),_,_,_,rfl⟩
 ·exact ⟨Cp Tryz.call138 (fun _ _ h=>Oo h),_,_,_,rfl⟩
 ·exact ⟨Cp Tryz.call139 (fun _ _ h=>La h),_,_,_,rfl⟩
 ·exact ⟨Cp Tryz.call210 (fun _ _ h=>Fj h),_,_,_,rfl⟩
 ·exact ⟨Cp Tryz.call210 (fun _ _ h=>Fj h),_,_,_,rfl⟩
 ·exact ⟨Cp Tryz.call212 (fun _ _ h=>Bq (Cp Tryz.call142 (fun _ _ h=>JW h)) h),_,_,_,rfl⟩
 ·exact ⟨Cp Tryz.call212 (fun _ _ h=>Bq (Cp Tryz.call143 (fun _ _ h=>Kn h)) h),_,_,_,rfl⟩
 ·exact ⟨Cp Tryz.call212 (fun _ _ h=>Bq (Cp Tryz.call144 (fun _ _ h=>Kk h)) h),_,_,_,rfl⟩
 ·exact ⟨Cp Tryz.call212 (fun _ _ h=>Bq (Cp Tryz.call145 (fun _ _ h=>Ko h)) h),_,_,_,rfl⟩
 ·exact ⟨Cp Tryz.call212 (fun _ _ h=>Bq (Cp Tryz.call146 (fun _ _ h=>Km h)) h),_,_,_,rfl⟩
 ·exact ⟨Cp Tryz.call212 (fun _ _ h=>Bq (Cp Tryz.call147 (fun _ _ h=>J2 h)) h),_,_,_,rfl⟩
 ·exact ⟨Cp Tryz.call214 (fun _ _ h=>CQ (Cp Tryz.call149 (fun _ _ h=>Kq h)) h),_,_,_,rfl⟩
 ·exact ⟨Cp Tryz.call214 (fun _ _ h=>CQ (Cp Tryz.call150 (fun _ _ h=>JM h)) h),_,_,_,rfl⟩
 ·exact ⟨Cp Tryz.call214 (fun _ _ h=>CQ (Cp Tryz.call151 (fun _ _ h=>JI h)) h),_,_,_,rfl⟩
 ·exact ⟨Cp Tryz.call214 (fun _ _ h=>CQ (Cp Tryz.call152 (fun _ _ h=>Jq h)) h),_,_,_,rfl⟩
theorem PS {c : RT} {z : Int} {f : Ac} (h : Fe (HU c) z=some f) : Bb f∧isF f.dv:=RX c _ (Ms h)
theorem Th {c : RT} : Fn Tryz.prog 59 [.ag [.b c.1,.sl (L c.2.1),.sl (L c.2.2)]] (.d (Wk .i32 (HU c))):=VS
theorem ZR : ∀ w,(zeroValue 60).run Tryz.prog w=.ok .nilFunc w:=Ah (by kernel_rfl)
theorem YS : ∀ w,(zeroValue 73).run Tryz.prog w=.ok .nilFunc w:=Ah (by kernel_rfl)
end Go.FL
namespace Go.FL
open Go Go.RowKit
section
variable {P : Program} {C : Cx} {X : Snap} {o : Oper} {ops : Array Oper} {Q : Exit→Env→Af→Prop} {env env' : Env} {H H' : Af} {a : Act} {w w' : World} {I I' : Nat→Prop} {μ μ' : List Nat} {O O' : Nat→Option Loc}
 {K:Env→Af→Prop} {k:Nat} {l:List Oper}
theorem QA {s t ty e sz by_ : Nat} {hi : Operand} {ah : Option AO} {xs : List DV} {h : Int} (ho : o.op=.slice ty (.tmp s) none (some hi) none) (hfh : Cz (some hi) ah=true) (hd : o.dst=some t) (ht : okT C.nt t) (hty : Ce P ty=some (e,sz,by_)) (hv : get env s=.own e xs)
  (hh:EW env xs.length ah=some h) (h0:0≤h) (h1:h≤xs.length) (hK:K (put (put env s .un) t (.own e (xs.take h.toNat))) H):OpOK P C o env H K :=
 .val (by simp [ho]) hd ht (fun X a w I μ O _ _ _ hs=>by
  obtain ⟨inf,s1,s2,s3,_,s5⟩:=DB hty
  have b1:=hs.bound (x:=none) (ax:=none) rfl (dflt:=0) (n:=0) rfl
  have b2:=hs.bound hfh hh
  obtain ⟨q1,q2⟩:=hs.take s (by rw [hv];rfl)
  rw [hv] at q2
  have hform:∃ A c,a.tmps.getD s undef=.slice A xs.length c∧xs.length≤c∧A.map (·.add 0)=A:=by
   obtain ⟨bs,k1,_,_⟩:=q2
   generalize a.tmps.getD s undef=v at k1
   cases k1 with
   | own _ _ _ vs hsz hown hr =>
    rcases hown with ⟨A,rfl,hn,_⟩ | ⟨hr2,g,cap,rfl,hc⟩
    ·refine ⟨A,0,by rw [hn],by omega,?_⟩
     cases A <;> simp [Addr.add]
    ·refine ⟨some ⟨g,0,none⟩,cap,rfl,?_,by simp [Addr.add]⟩
     rcases hr2.2 with ⟨h2,h3⟩ | ⟨g',cap',cur,h2,_,_,h5,_⟩
     ·omega
     ·simp only [Value.slice.injEq] at h2
      omega
  obtain ⟨A,c,hval,hcap,hA⟩:=hform
  have e1:h≤(c:Int):=by omega
  have hb:=FN (P:=P) (w:=w) (isS:=true) (len:=xs.length) (cap:=c) (Int.le_refl 0) h0 b1 (b2.imp (fun ⟨x,y⟩=>⟨x,y,rfl⟩) fun h=>h) (m:=(c:Int)) (mx:=none) (.inl ⟨rfl,rfl⟩) e1 (Int.le_refl _)
  have hev:a.eval (.tmp s)=.slice A xs.length c:=hval
  refine ⟨.slice A h.toNat c,w,I,μ,_,?_,q1,?_⟩
  ·have hr:=NU s1 s2 hb (A:=A)
   simp only [Option.map_none,Option.map_some] at hr
   simp only [execOp,ho,hev,Sem.run_bind,Option.map_none,Option.map_some,hr,Result.andThen_ok,Sem.run_pure]
   have e2:(if (c:Int).toNat=(0:Int).toNat then A else A.map (·.add ((0:Int).toNat * inf.size)))=A:=by
    split
    ·rfl
    ·simpa using hA
   rw [e2];simp
  ·rw [hval] at q2
   exact q2.prefix_ (by omega)) hK
theorem slo {s t ty e sz by_ : Nat} {hi : Operand} {xs : List DV} {z : Int} (k' : Nat) (hz : z=k') (hle : k'≤xs.length) (h : RL P C ops Q (k+1) l ((t,.own e (xs.take k'))::(s,.un)::env) H) (hty : Ce P ty=some (e,sz,by_)) (hg : grd ops env o true=true:=by rfl)
  (ho:o.op=.slice ty (.tmp s) none (some hi) none:=by rfl) (hv:get env s=.own e xs:=by rfl) (hh:EW env xs.length (some (DF hi))=some z:=by rfl) (hfh:Cz (some hi) (some (DF hi))=true:=by rfl) (hd:o.dst=some t:=by rfl)
  (hf:Ao (get env t)=false:=by rfl) (hr:C5 s env=false:=by rfl) (ht:okT C.nt t:=by rfl):RL P C ops Q k (o::l) env H:=by
 subst hz
 have hst:=ED hv hf
 refine .go hg (QA ho hfh hd ht hty hv hh (by omega) (by omega) ?_)
 rw [Int.toNat_natCast]
 refine RL.gh (Gh.same fun r=>?_) h
 have h1:Ao (get (put env s .un) t)=false:=by rw [Cq hr];simp [get,hst,hf]
 rw [Al h1]
 simp only [get]
 split
 ·rfl
 ·have:=Cq (v:=.un) hr r
  simp only [get] at this
  exact this.symm
end
end Go.FL
namespace Go.FL
open Go Go.Proofs
def Bp (a1 : Az) (x1 : Int × Int) (K0 : Arr→Int→(List Itm)→Option (Arr × Int)) : Nat→Arr→Int→(List Itm)→Int→Option (Arr × Int)
 | 0,_,_,_,_=>none
 | k+1,s8,s9,s10,s11=>(if s11<x1.1 then ((a1.g s11).bind fun x12=>(if x12.2=0 then ((ap? 1466015503701 s10 [x12.1]).bind fun x13=>(Bp a1 x1 K0 k s8 s9 x13 (w64 (s11+1)))) else (some ((Arr.mk [] []),x12.2)))) else (K0 s8 s9 s10))
def AM (a0 : (List Int)) (a1 : Az) : Option (Arr × Int):=((C6 a0).bind fun x1=>((BM 0).bind fun x2=>((Cy x2).bind fun x3=>((JO (0≤(if (w64 (1 - (if 1<x1.1 then 1 else x1.1)))<1 then (w64 (1 - (if 1<x1.1 then 1 else x1.1))) else 1)∧(if (w64 (1 - (if 1<x1.1 then 1 else x1.1)))<1 then (w64 (1 - (if 1<x1.1 then 1 else x1.1))) else 1)≤((List.length [x3] : Nat) : Int))).bind fun x4=>(jn (fun (z5 : Arr) (z6 : Int) (z7 : (List Itm))=>((BQ a0 z7).bind fun x14=>(some (x14.1,x14.2)))) fun K0=>(Bp a1 x1 K0 BC (Arr.mk [] []) 0 (List.take (Int.toNat (if (w64 (1 - (if 1<x1.1 then 1 else x1.1)))<1 then (w64 (1 - (if 1<x1.1 then 1 else x1.1))) else 1)) ([x3])) 0))))))
theorem Hx {a0 : (List Int)} {a1 : Az} (oa1 : Jn a1) {r : Arr × Int} (h : AM a0 a1=some r) :
  Fn Tryz.prog 92 [.sl (Is a0),a1.dv] (.tup [.d (.ag [.sl (Is r.1.shape),.sl (Its r.1.items)]),.d (.i .i64 r.2)]):=by
 unfold AM at h
 refine Fn.ofC (rs:=[.cell 4 25,.tmp 5]) (nt:=49) Tryz.func92 rfl rfl rfl (by simp) rfl ?_;refine .sr ?_;refine vk (van (Ah AU) A7) ?_;refine ar [0,1,4,5] ?_;refine .sr ?_;refine vk (Aa) ?_
 obtain ⟨x1,hx1,h⟩:=bnd h
 refine vk (VOK.tupd (vs:=[.i .i64 x1.1,.i .i64 x1.2]) (Ad (DQ hx1) Tryz.call98)) ?_;refine vk (Aa) ?_;refine vk (vex) ?_;refine vk (vex) ?_;refine asd ?_;refine ar [0,1,4,5,6] ?_;refine .sr ?_
 obtain ⟨x2,hx2,h⟩:=bnd h
 refine vk (Ad (Br hx2) Tryz.call72) ?_
 obtain ⟨x3,hx3,h⟩:=bnd h
 refine vk (Ad (DP hx3) Tryz.call94) ?_;refine vk (GD (Gi x3) (EX [x3]) Fc) ?_;refine vk (Aa) ?_;refine vk (vmn) ?_;refine vk (vbi) ?_;refine vk (vmn) ?_
 obtain ⟨x4,hx4,h⟩:=bnd h
 have ghx4:=J9 hx4
 refine slo (xs:=Its [x3]) (z:=(if (w64 (1 - (if 1<x1.1 then 1 else x1.1)))<1 then (w64 (1 - (if 1<x1.1 then 1 else x1.1))) else 1)) (Int.toNat (if (w64 (1 - (if 1<x1.1 then 1 else x1.1)))<1 then (w64 (1 - (if 1<x1.1 then 1 else x1.1))) else 1)) (by omega) (by rw [AN];omega) ?_ DO
 rw [XG]
 refine aso ?_;refine rk [0,1,4,5,6,8] ?_;refine .seq ?_;refine .sr ?_;refine vk (Aa) ?_;refine vk (Aa) ?_;refine rk [0,1,4,5,8,25,26] ?_
 obtain ⟨K0,hK0,h⟩:=CX h
 refine AW.mr (σ:=Arr × Int × (List Itm)) (fun p=>K0 p.1 p.2.1 p.2.2=some r) (fun p=>[(0,.d (.sl (Is a0))),(4,.nb [.sl (Is p.1.shape),.sl (Its p.1.items)]),(5,.d (.i .i64 p.2.1)),(8,.own 83 (Its p.2.2))]) (fun p=>[]) ?_ ?_
 ·skip
  refine .block ?_
  refine .loop (.gk [0,1,4,5,8,25,26] ?_)
  refine AL.ind (σ:=Nat × Arr × Int × (List Itm) × Int) (m:=fun p=>p.1) (e:=fun p=>[(0,.d (.sl (Is a0))),(1,.d (a1.dv)),(4,.nb [.sl (Is p.2.1.shape),.sl (Its p.2.1.items)]),(5,.d (.i .i64 p.2.2.1)),(8,.own 83 (Its p.2.2.2.1)),(25,.d (.i .i64 x1.1)),(26,.d (.i .i64 p.2.2.2.2))]) (h:=fun p=>[]) (I:=fun p=>Bp a1 x1 K0 p.1 p.2.1 p.2.2.1 p.2.2.2.1 p.2.2.2.2=some r) ?_ (BC,(Arr.mk [] []),0,(List.take (Int.toNat (if (w64 (1 - (if 1<x1.1 then 1 else x1.1)))<1 then (w64 (1 - (if 1<x1.1 then 1 else x1.1))) else 1)) ([x3])),0) h
  rintro ⟨k,s8,s9,s10,s11⟩ h ih
  dsimp only at h ih ⊢
  rcases k with _ | k
  ·rw [Bp] at h;cases h
  rw [Bp] at h
  refine .sr ?_;refine vk (vbi) ?_;refine rk [0,1,4,5,8,25,26,27] ?_;refine .seq ?_
  by_cases hc:s11<x1.1
  ·replace h:=Aj hc h
   refine cnt (dT hc) ?_;refine .skip ?_
   show AW _ _ _ _ _ _
   refine .seq ?_;refine .block ?_;refine .sr ?_;refine vk (Aa) ?_;refine ar [0,1,4,5,8,9,25,26] ?_;refine .sr ?_;refine vk (Aa) ?_;refine vk (Aa) ?_
   obtain ⟨x12,hx12,h⟩:=bnd h
   refine vk (VOK.tupd (vs:=[.ag [.i .u8 x12.1.kind,.b x12.1.num.1,.sl (L x12.1.num.2.1),.sl (L x12.1.num.2.2),.i .i32 x12.1.char,.sl (Ars x12.1.box)],.i .i64 x12.2]) (MQ (oa1 _ _ hx12))) ?_;refine vk (Aa) ?_;refine vk (vex) ?_;refine vk (vex) ?_;refine vk (van (Ah B2) Cb) ?_
   refine stn ?_ Ay (by decide)
   refine ar [0,1,4,5,8,10,11,25,26] ?_;refine .seq ?_;refine .sr ?_;refine vk (Aa) ?_;refine vk (vbi) ?_;refine rk [0,1,4,5,8,10,11,25,26,36] ?_
   by_cases hc:x12.2=0
   ·replace h:=Aj hc h
    refine cnf (ntf (dT hc)) ?_;refine .skip ?_
    show AW _ _ _ _ _ _
    refine .region ?_;refine mvo ?_;refine vk (C8 AP Ay) ?_;refine vk ((GD (Gi x12.1) (EX [x12.1]) Fc).deep) ?_
    obtain ⟨x13,hx13,h⟩:=bnd h
    refine Xb Lg hx13 N8 ?_ JD AN Fc
    refine aso ?_;refine .nil ?_
    show AW _ _ _ _ _ _
    refine .gk [0,1,4,5,8,25,26] ?_;refine .region ?_;refine vk (vbi) ?_;refine vk (Aa) ?_;refine .nil ?_;refine AL.gk [0,1,4,5,8,25,26] ?_
    exact ih (k,s8,s9,x13,(w64 (s11+1))) h (Nat.lt_succ_self _)
   replace h:=Ai hc h
   refine cnt (ntt (dF hc)) ?_;refine .sr ?_;refine vk (vbd Ef AU A7) ?_;refine vk (Aa) ?_
   refine stn ?_ Ag (by decide)
   refine ar [0,1,4,5,8,10,25,26] ?_;refine .ret ?_
   cases h
   exact ⟨_,_,⟨.inr rfl,As,Ag,(by decide:(0:Nat)<2)⟩,rfl,rfl⟩
  replace h:=Ai hc h
  refine cnf (dF hc) ?_;refine .gk [0,4,5,8] ?_;refine .exit ?_
  exact jr (s8,s9,s10) h
 rintro ⟨z5,z6,z7⟩ h
 try dsimp only at h ⊢
 subst hK0
 show AW _ _ _ _ _ _
 refine .sr ?_;refine vk (Aa) ?_;refine fz (p:=.t 8) ?_;refine vk (Aa) ?_
 obtain ⟨x14,hx14,h⟩:=bnd h
 refine vk (VOK.tupd (vs:=[.ag [.sl (Is x14.1.shape),.sl (Its x14.1.items)],.i .i64 x14.2]) (Ad (MK hx14) Tryz.call99)) ?_;refine vk (vex) ?_;refine vk (vex) ?_
 refine stn ?_ Ag (by decide)
 refine ar [4,5] ?_;refine .ret ?_
 cases h
 exact ⟨_,_,⟨.inr rfl,As,Ag,(by decide:(0:Nat)<2)⟩,rfl,rfl⟩
def E8 (rc_scalar_one_through : AA→Arr→Option (Arr × Int)) (a0 : Int) (c0 : Arr) (c1 : AA) : Option (Itm × Int):=((rd? c0.items a0).bind fun x1=>(if x1.kind=1 then ((c1.g x1.num).bind fun x2=>((Cy x2.1).bind fun x3=>(some (x3,x2.2)))) else (if x1.kind=3 then ((rd? x1.box 0).bind fun x4=>((rc_scalar_one_through c1 x4).bind fun x5=>((Bx x5.1).bind fun x6=>(some (x6,x5.2))))) else (some ((Itm.mk 0 (false,[],[]) 0 []),3)))))
theorem SZ {rc_scalar_one_through : AA→Arr→Option (Arr × Int)} (orc_scalar_one_through : ∀ x0 x1 r,Du x0→rc_scalar_one_through x0 x1=some r→Fn Tryz.prog 32 [x0.dv,.ag [.sl (Is x1.shape),.sl (Its x1.items)]] (.tup [.d (.ag [.sl (Is r.1.shape),.sl (Its r.1.items)]),.d (.i .i64 r.2)])) {a0 : Int} {c0 : Arr} {c1 : AA} (oc1 : Du c1) {r : Itm × Int} (h : E8 rc_scalar_one_through a0 c0 c1=some r) :
  Fn Tryz.prog 93 [.i .i64 a0,.ptr [.sl (Is c0.shape),.sl (Its c0.items)],.ptr [c1.dv]] (.tup [.d (.ag [.i .u8 r.1.kind,.b r.1.num.1,.sl (L r.1.num.2.1),.sl (L r.1.num.2.2),.i .i32 r.1.char,.sl (Ars r.1.box)]),.d (.i .i64 r.2)]):=by
 unfold E8 at h
 refine Fn.ofC (rs:=[.cell 4 83,.tmp 5]) (nt:=45) Tryz.func93 rfl rfl rfl (by simp) rfl ?_;refine .sr ?_;refine vk (van (Ah B2) Cb) ?_;refine ar [0,1,2,4,5] ?_;refine .seq ?_;refine .sr ?_;refine vk (vfa A6) ?_;refine vk (An CC) ?_;refine vk (Aa) ?_
 obtain ⟨x1,hx1,h⟩:=bnd h
 obtain ⟨nx1,hnx1,hxx1⟩:=AS hx1
 refine vk (vix nx1 hnx1 (Ec hxx1) rfl DO) ?_;refine vk (Ap AP Ay) ?_;refine vk (van (Ah B2) Cb) ?_
 refine stn ?_ Ay (by decide)
 refine rk [2,4,5,6] ?_;refine .seq ?_;refine .gh (Gh.nbp (t:=6) rfl) ?_;refine .region ?_;refine vk (vfa Cd) ?_;refine vk (An Be) ?_;refine rk [2,4,5,6,17] ?_;refine .block ?_;refine .sr ?_;refine vk (vbi) ?_;refine ar [2,4,5,6,17,18] ?_
 by_cases hc:x1.kind=1
 ·replace h:=Aj hc h
  refine cnt (dT hc) ?_;refine .sr ?_;refine vk (An Jh) ?_;refine vk (vfa Cc) ?_;refine vk (Ap Au Ak) ?_
  obtain ⟨x2,hx2,h⟩:=bnd h
  refine vk (VOK.tupd (vs:=[.ag [.b x2.1.1,.sl (L x2.1.2.1),.sl (L x2.1.2.2)],.i .i64 x2.2]) (MQ (oc1 _ _ hx2))) ?_;refine vk (Aa) ?_;refine vk (vex) ?_;refine vk (vex) ?_;refine vk (van (Ah BO) BN) ?_
  refine stn ?_ Ak (by decide)
  refine ar [4,5,7,8] ?_;refine .sr ?_;refine vk (C8 Au Ak) ?_
  obtain ⟨x3,hx3,h⟩:=bnd h
  refine vk (Ad (DP hx3) Tryz.call94) ?_;refine vk (Aa) ?_
  refine stn ?_ Ay (by decide)
  refine ar [4,5] ?_;refine .ret ?_
  cases h
  exact ⟨_,_,⟨.inr rfl,AP,Ay,(by decide:(0:Nat)<6)⟩,rfl,rfl⟩
 replace h:=Ai hc h
 refine cnf (dF hc) ?_;refine .sr ?_;refine vk (vbi) ?_;refine ar [2,4,5,6,30] ?_
 by_cases hc:x1.kind=3
 ·replace h:=Aj hc h
  refine cnt (dT hc) ?_;refine .seq ?_
  obtain ⟨x4,hx4,h⟩:=bnd h
  obtain ⟨x5,hx5,h⟩:=bnd h
  refine .drawnF 10 [8] [(9,.nb [.sl (Is x5.1.shape),.sl (Its x5.1.items)])] [] Ba (by kernel_rfl) rfl ?_;refine dv (An Jh) ?_;refine dv (vfa BE) ?_;refine dv (An Dt) ?_
  obtain ⟨nx4,hnx4,hxx4⟩:=AS hx4
  refine dv (vix nx4 hnx4 (F6 hxx4) rfl F5) ?_;refine dv (Ap As Ag) ?_;refine dv (VOK.tupd (vs:=[.ag [.sl (Is x5.1.shape),.sl (Its x5.1.items)],.i .i64 x5.2]) (Ad (orc_scalar_one_through _ _ _ oc1 hx5) Tryz.call32)) ?_;refine dv (Aa) ?_;refine dv (vex) ?_;refine dv (vex) ?_;refine dv (van (Ah AU) A7) ?_;refine dz ?_
  refine ⟨?_,?_,?_⟩
  ·intro k hk
   simp only [List.mem_cons,List.not_mem_nil,or_false] at hk
   subst hk
   exact ⟨_,_,_,rfl,rfl,rfl,rfl,rfl,rfl,vex⟩
  ·intro om e hom hge
   cases hom
   exact Gz (cs:=[.sl (Is []),.sl (Its [])]) (cs':=[.sl (Is x5.1.shape),.sl (Its x5.1.items)]) Ag (by decide) rfl ((hge 9 (fun k hk v hv=>by
     simp only [List.mem_cons,List.not_mem_nil,or_false] at hk
     subst hk;exact (by decide:¬ (some 40=some 9)) (congrArg (Option.map Prod.fst) hv))).trans rfl) ((congrArg AX (hge 39 (fun k hk v hv=>by
     simp only [List.mem_cons,List.not_mem_nil,or_false] at hk
     subst hk;exact (by decide:¬ (some 40=some 39)) (congrArg (Option.map Prod.fst) hv)))).trans rfl) rfl rfl rfl rfl ⟨rfl,rfl⟩
  refine ar [4,5,9,10] ?_;refine .sr ?_;refine vk (C8 As Ag) ?_
  obtain ⟨x6,hx6,h⟩:=bnd h
  refine vk (Ad (Hv hx6) Tryz.call95) ?_;refine vk (Aa) ?_
  refine stn ?_ Ay (by decide)
  refine ar [4,5] ?_;refine .ret ?_
  cases h
  exact ⟨_,_,⟨.inr rfl,AP,Ay,(by decide:(0:Nat)<6)⟩,rfl,rfl⟩
 replace h:=Ai hc h
 refine cnf (dF hc) ?_;refine .skip ?_
 show AW _ _ _ _ _ _
 refine .sr ?_;refine vk (vbd Hr B2 Cb) ?_
 refine stn ?_ Ay (by decide)
 refine ar [4,5] ?_;refine .ret ?_
 cases h
 exact ⟨_,_,⟨.inr rfl,AP,Ay,(by decide:(0:Nat)<6)⟩,rfl,rfl⟩
def KS (rc_scalar_one_through : AA→Arr→Option (Arr × Int)) (a0 : AA) (a1 : Arr) : Option (Arr × Int):=((AM a1.shape (⟨.fn 93 [] [.ptr [.sl (Is a1.shape),.sl (Its a1.items)],.ptr [a0.dv]],fun x=>E8 rc_scalar_one_through x a1 a0⟩ : Az)).bind fun x1=>(some (x1.1,x1.2)))
theorem UV {rc_scalar_one_through : AA→Arr→Option (Arr × Int)} (orc_scalar_one_through : ∀ x0 x1 r,Du x0→rc_scalar_one_through x0 x1=some r→Fn Tryz.prog 32 [x0.dv,.ag [.sl (Is x1.shape),.sl (Its x1.items)]] (.tup [.d (.ag [.sl (Is r.1.shape),.sl (Its r.1.items)]),.d (.i .i64 r.2)])) {a0 : AA} {a1 : Arr} (oa0 : Du a0) {r : Arr × Int} (h : KS rc_scalar_one_through a0 a1=some r) :
  Fn Tryz.prog 32 [a0.dv,.ag [.sl (Is a1.shape),.sl (Its a1.items)]] (.tup [.d (.ag [.sl (Is r.1.shape),.sl (Its r.1.items)]),.d (.i .i64 r.2)]):=by
 unfold KS at h
 refine Fn.ofC (rs:=[.cell 4 25,.tmp 5]) (nt:=12) Tryz.func32 rfl rfl rfl (by simp) rfl ?_;refine .sr ?_;refine vk (UX) ?_;refine vk (vbx) ?_;refine vk (van (Ah AU) A7) ?_;refine ar [2,3,4,5] ?_;refine .sr ?_;refine vk (vfa Bc) ?_;refine vk (An C3) ?_;refine vk (SO) ?_
 obtain ⟨x1,hx1,h⟩:=bnd h
 refine vk (VOK.tupd (vs:=[.ag [.sl (Is x1.1.shape),.sl (Its x1.1.items)],.i .i64 x1.2]) (Ad (Hx (Cp Tryz.call93 (fun _ _ h=>SZ orc_scalar_one_through oa0 h)) hx1) Tryz.call92)) ?_;refine vk (vex) ?_;refine vk (vex) ?_
 refine stn ?_ Ag (by decide)
 refine ar [4,5] ?_;refine .ret ?_
 cases h
 exact ⟨_,_,⟨.inr rfl,As,Ag,(by decide:(0:Nat)<2)⟩,rfl,rfl⟩
def BZ : Nat→AA→Arr→Option (Arr × Int)
 | 0,_,_=>none
 | k+1,a0,a1=>KS (BZ k) a0 a1
theorem NQ : ∀ (k : Nat) (a0 : AA) (a1 : Arr) (r : Arr × Int),Du a0→BZ k a0 a1=some r→Fn Tryz.prog 32 [a0.dv,.ag [.sl (Is a1.shape),.sl (Its a1.items)]] (.tup [.d (.ag [.sl (Is r.1.shape),.sl (Its r.1.items)]),.d (.i .i64 r.2)])
 | 0,_,_,_,_,h=>by cases h
 | k+1,a0,a1,_,oa0,h=>UV (NQ k) oa0 (show KS (BZ k) a0 a1=some _ from h)
def Mw (a0 : AA) (a1 : Arr) : Option (Arr × Int):=BZ (a1.size+1) a0 a1
theorem Vl {a0 : AA} {a1 : Arr} (oa0 : Du a0) {r : Arr × Int} (h : Mw a0 a1=some r) : Fn Tryz.prog 32 [a0.dv,.ag [.sl (Is a1.shape),.sl (Its a1.items)]] (.tup [.d (.ag [.sl (Is r.1.shape),.sl (Its r.1.items)]),.d (.i .i64 r.2)]):=NQ _ a0 a1 r oa0 h
def C2 (a0 : (Int × RT × Int)) (a1 : Int) (a2 : Arr) : Option (Arr × Int):=(SJ (Fe MU a1) (some ((Arr.mk [] []),23)) fun f1=>((Bk a2).bind fun x2=>(if x2=true then ((Mw f1 a2).bind fun x3=>(some (x3.1,x3.2))) else (some ((Arr.mk [] []),22)))))
theorem FC {a0 : (Int × RT × Int)} {a1 : Int} {a2 : Arr} {r : Arr × Int} (h : C2 a0 a1 a2=some r) :
  Fn Tryz.prog 10 [.ag [.i .i64 a0.1,.b a0.2.1.1,.sl (L a0.2.1.2.1),.sl (L a0.2.1.2.2),.i .i64 a0.2.2],.i .i32 a1,.ag [.sl (Is a2.shape),.sl (Its a2.items)]] (.tup [.d (.ag [.sl (Is r.1.shape),.sl (Its r.1.items)]),.d (.i .i64 r.2)]):=by
 unfold C2 at h
 refine Fn.ofC (rs:=[.cell 6 25,.tmp 7]) (nt:=26) Tryz.func10 rfl rfl rfl (by simp) rfl ?_;refine .sr ?_;refine vk (vbx) ?_;refine vk (vbx) ?_;refine vk (van (Ah AU) A7) ?_;refine ar [1,5,6,7] ?_;refine .sr ?_;refine vk (Ad Ww Tryz.call31) ?_;refine vk (Aa) ?_
 rcases hmf1:(Fe MU a1) with _ | f1
 ·replace h:=Q5 hmf1 h
  refine vk (WZ JP gkR ZR hmf1) ?_;refine ar [5,6,7,8] ?_;refine .seq ?_;refine .block ?_;refine .sr ?_;refine vk (Aa) ?_;refine vk (Zs IE) ?_;refine ar [5,6,7,8,12] ?_;refine Bs ?_;refine .sr ?_;refine vk (vbd Ef AU A7) ?_
  refine stn ?_ Ag (by decide)
  refine ar [5,6,7,8] ?_;refine .ret ?_
  cases h
  exact ⟨_,_,⟨.inr rfl,As,Ag,(by decide:(0:Nat)<2)⟩,rfl,rfl⟩
 replace h:=RE hmf1 h
 obtain ⟨of1,isf1⟩:=Wx hmf1
 refine vk (W0 WH JP gkR hmf1) ?_;refine ar [5,6,7,8] ?_;refine .seq ?_;refine .block ?_;refine .sr ?_;refine vk (Aa) ?_;refine vk (Zr IE isf1) ?_;refine ar [5,6,7,8,12] ?_;refine Bv ?_;refine .sr ?_;refine vk (Ap As Ag) ?_
 obtain ⟨x2,hx2,h⟩:=bnd h
 refine vk (Ad (Cj hx2) Tryz.call13) ?_;refine vk (vnt) ?_;refine ar [5,6,7,8,16] ?_
 by_cases hc:x2=true
 ·replace h:=Aj hc h
  refine cnf (ntf hc) ?_;refine .skip ?_
  show AW _ _ _ _ _ _
  refine .sr ?_;refine vk (Aa) ?_;refine vk (Ap As Ag) ?_
  obtain ⟨x3,hx3,h⟩:=bnd h
  refine vk (VOK.tupd (vs:=[.ag [.sl (Is x3.1.shape),.sl (Its x3.1.items)],.i .i64 x3.2]) (Ad (Vl of1 hx3) Tryz.call32)) ?_;refine vk (vex) ?_;refine vk (vex) ?_
  refine stn ?_ Ag (by decide)
  refine ar [6,7] ?_;refine .ret ?_
  cases h
  exact ⟨_,_,⟨.inr rfl,As,Ag,(by decide:(0:Nat)<2)⟩,rfl,rfl⟩
 replace h:=Ai hc h
 refine cnt (ntt (bf hc)) ?_;refine .sr ?_;refine vk (vbd Ef AU A7) ?_
 refine stn ?_ Ag (by decide)
 refine ar [5,6,7,8] ?_;refine .ret ?_
 cases h
 exact ⟨_,_,⟨.inr rfl,As,Ag,(by decide:(0:Nat)<2)⟩,rfl,rfl⟩
def Dd (rc_scalar_pair_through : (Ac × Int)→Arr→Arr→Option (Arr × Int)) (a0 : (Ac × Int)) (a1 : Itm) (a2 : Itm) : Option (Itm × Int):=(if ((decide (a1.kind=3)) || (decide (a2.kind=3)))=true then ((Ex a1).bind fun x1=>((Ex a2).bind fun x2=>((rc_scalar_pair_through a0 x1 x2).bind fun x3=>((Bx x3.1).bind fun x4=>(some (x4,x3.2)))))) else (if ((decide (a1.kind=1)) && (decide (a2.kind=1)))=true then ((a0.1.g (a1.num,a2.num)).bind fun x5=>((Cy x5.1).bind fun x6=>(some (x6,x5.2)))) else (if ((decide (a0.2=61)) || (decide (a0.2=8800)))=true then ((CF (((decide (a1.kind=a2.kind)) && (decide (a1.char=a2.char))) == (decide (a0.2=61)))).bind fun x7=>((Cy x7).bind fun x8=>(some (x8,0)))) else (some ((Itm.mk 0 (false,[],[]) 0 []),3)))))
theorem Pc {rc_scalar_pair_through : (Ac × Int)→Arr→Arr→Option (Arr × Int)} (orc_scalar_pair_through : ∀ x0 x1 x2 r,Bb x0.1→rc_scalar_pair_through x0 x1 x2=some r→Fn Tryz.prog 39 [.ag [x0.1.dv,.i .i32 x0.2],.ag [.sl (Is x1.shape),.sl (Its x1.items)],.ag [.sl (Is x2.shape),.sl (Its x2.items)]] (.tup [.d (.ag [.sl (Is r.1.shape),.sl (Its r.1.items)]),.d (.i .i64 r.2)])) {a0 : (Ac × Int)} {a1 : Itm} {a2 : Itm} (oa0 : Bb a0.1) {r : Itm × Int} (h : Dd rc_scalar_pair_through a0 a1 a2=some r) :
  Fn Tryz.prog 116 [.ag [a0.1.dv,.i .i32 a0.2],.ag [.i .u8 a1.kind,.b a1.num.1,.sl (L a1.num.2.1),.sl (L a1.num.2.2),.i .i32 a1.char,.sl (Ars a1.box)],.ag [.i .u8 a2.kind,.b a2.num.1,.sl (L a2.num.2.1),.sl (L a2.num.2.2),.i .i32 a2.char,.sl (Ars a2.box)]] (.tup [.d (.ag [.i .u8 r.1.kind,.b r.1.num.1,.sl (L r.1.num.2.1),.sl (L r.1.num.2.2),.i .i32 r.1.char,.sl (Ars r.1.box)]),.d (.i .i64 r.2)]):=by
 unfold Dd at h
 refine Fn.ofC (rs:=[.cell 6 83,.tmp 7]) (nt:=85) Tryz.func116 rfl rfl rfl (by simp) rfl ?_;refine .sr ?_;refine vk (vbx) ?_;refine vk (vbx) ?_;refine vk (vbx) ?_;refine vk (van (Ah B2) Cb) ?_;refine ar [3,4,5,6,7] ?_;refine .seq ?_;refine .block ?_;refine .seq ?_;refine AW.mr (σ:=Unit) (fun _=>True) (fun _=>[(3,.d (.ptr [a0.1.dv,.i .i32 a0.2])),(4,.d (.ptr [.i .u8 a1.kind,.b a1.num.1,.sl (L a1.num.2.1),.sl (L a1.num.2.2),.i .i32 a1.char,.sl (Ars a1.box)])),(5,.d (.ptr [.i .u8 a2.kind,.b a2.num.1,.sl (L a2.num.2.1),.sl (L a2.num.2.2),.i .i32 a2.char,.sl (Ars a2.box)])),(6,.nb [.i .u8 0,.b false,.sl (L []),.sl (L []),.i .i32 0,.sl (Ars [])]),(7,.d (.i .i64 0)),(13,.d (.b ((decide (a1.kind=3)) || (decide (a2.kind=3)))))]) (fun _=>[]) ?_ ?_
 ·skip
  refine .region ?_;refine vk (vfa Cd) ?_;refine vk (An Be) ?_;refine vk (vbi) ?_
  by_cases hc:a1.kind=3
  ·have hb0:(decide (a1.kind=3))=true:=(dT hc)
   refine vk (VOK.lit (Aa) hb0) ?_;refine gf ?_;refine gf ?_;refine gf ?_;refine vk (Am) ?_;refine asd ?_;refine RL.gk [3,4,5,6,7,13] ?_;refine .nil ?_
   exact jr () trivial (by simp only [hb0];rfl)
  have hb0:(decide (a1.kind=3))=false:=(dF hc)
  refine vk (VOK.lit (Aa) hb0) ?_;refine vk (vfa Cd) ?_;refine vk (An Be) ?_;refine vk (vbi) ?_;refine vk (Am) ?_;refine asd ?_;refine RL.gk [3,4,5,6,7,13] ?_;refine .nil ?_
  exact jr () trivial (by simp only [hb0];rfl)
 rintro _ _
 by_cases hc:((decide (a1.kind=3)) || (decide (a2.kind=3)))=true
 ·replace h:=Aj hc h
  refine cnt hc ?_;refine .seq ?_
  obtain ⟨x1,hx1,h⟩:=bnd h
  obtain ⟨x2,hx2,h⟩:=bnd h
  obtain ⟨x3,hx3,h⟩:=bnd h
  refine .drawnF 10 [8] [(8,.nb [.sl (Is x3.1.shape),.sl (Its x3.1.items)])] [] Ba (by kernel_rfl) rfl ?_;refine dv (Ap NB HZ) ?_;refine dv (Ap AP Ay) ?_;refine dv (Ad (IQ hx1) Tryz.call194) ?_;refine dv (Ap AP Ay) ?_;refine dv (Ad (IQ hx2) Tryz.call194) ?_;refine dv (VOK.tupd (vs:=[.ag [.sl (Is x3.1.shape),.sl (Its x3.1.items)],.i .i64 x3.2]) (Ad (orc_scalar_pair_through _ _ _ _ oa0 hx3) Tryz.call39)) ?_;refine dv (Aa) ?_;refine dv (vex) ?_;refine dv (vex) ?_;refine dv (van (Ah AU) A7) ?_;refine dz ?_
  refine ⟨?_,?_,?_⟩
  ·intro k hk
   simp only [List.mem_cons,List.not_mem_nil,or_false] at hk
   subst hk
   exact ⟨_,_,_,rfl,rfl,rfl,rfl,rfl,rfl,vex⟩
  ·intro om e hom hge
   cases hom
   exact Gz (cs:=[.sl (Is []),.sl (Its [])]) (cs':=[.sl (Is x3.1.shape),.sl (Its x3.1.items)]) Ag (by decide) rfl ((hge 8 (fun k hk v hv=>by
     simp only [List.mem_cons,List.not_mem_nil,or_false] at hk
     subst hk;exact (by decide:¬ (some 30=some 8)) (congrArg (Option.map Prod.fst) hv))).trans rfl) ((congrArg AX (hge 29 (fun k hk v hv=>by
     simp only [List.mem_cons,List.not_mem_nil,or_false] at hk
     subst hk;exact (by decide:¬ (some 30=some 29)) (congrArg (Option.map Prod.fst) hv)))).trans rfl) rfl rfl rfl rfl ⟨rfl,rfl⟩
  refine ar [6,7,8,9] ?_;refine .sr ?_;refine vk (C8 As Ag) ?_
  obtain ⟨x4,hx4,h⟩:=bnd h
  refine vk (Ad (Hv hx4) Tryz.call95) ?_;refine vk (Aa) ?_
  refine stn ?_ Ay (by decide)
  refine ar [6,7] ?_;refine .ret ?_
  cases h
  exact ⟨_,_,⟨.inr rfl,AP,Ay,(by decide:(0:Nat)<6)⟩,rfl,rfl⟩
 replace h:=Ai hc h
 refine cnf (bf hc) ?_;refine .seq ?_;refine AW.mr (σ:=Unit) (fun _=>True) (fun _=>[(3,.d (.ptr [a0.1.dv,.i .i32 a0.2])),(4,.d (.ptr [.i .u8 a1.kind,.b a1.num.1,.sl (L a1.num.2.1),.sl (L a1.num.2.2),.i .i32 a1.char,.sl (Ars a1.box)])),(5,.d (.ptr [.i .u8 a2.kind,.b a2.num.1,.sl (L a2.num.2.1),.sl (L a2.num.2.2),.i .i32 a2.char,.sl (Ars a2.box)])),(6,.nb [.i .u8 0,.b false,.sl (L []),.sl (L []),.i .i32 0,.sl (Ars [])]),(7,.d (.i .i64 0)),(34,.d (.b ((decide (a1.kind=1)) && (decide (a2.kind=1)))))]) (fun _=>[]) ?_ ?_
 ·skip
  refine .region ?_;refine vk (vfa Cd) ?_;refine vk (An Be) ?_;refine vk (vbi) ?_
  by_cases hc:a1.kind=1
  ·have hb0:(decide (a1.kind=1))=true:=(dT hc)
   refine vk (VOK.lit (Aa) hb0) ?_;refine vk (vfa Cd) ?_;refine vk (An Be) ?_;refine vk (vbi) ?_;refine vk (Am) ?_;refine asd ?_;refine RL.gk [3,4,5,6,7,34] ?_;refine .nil ?_
   exact jr () trivial (by simp only [hb0];rfl)
  have hb0:(decide (a1.kind=1))=false:=(dF hc)
  refine vk (VOK.lit (Aa) hb0) ?_;refine gf ?_;refine gf ?_;refine gf ?_;refine vk (Am) ?_;refine asd ?_;refine RL.gk [3,4,5,6,7,34] ?_;refine .nil ?_
  exact jr () trivial (by simp only [hb0];rfl)
 rintro _ _
 by_cases hc:((decide (a1.kind=1)) && (decide (a2.kind=1)))=true
 ·replace h:=Aj hc h
  refine cnt hc ?_;refine .sr ?_;refine vk (vfa Wc) ?_;refine vk (An I8) ?_;refine vk (vfa Cc) ?_;refine vk (Ap Au Ak) ?_;refine vk (vfa Cc) ?_;refine vk (Ap Au Ak) ?_
  obtain ⟨x5,hx5,h⟩:=bnd h
  refine vk (VOK.tupd (vs:=[.ag [.b x5.1.1,.sl (L x5.1.2.1),.sl (L x5.1.2.2)],.i .i64 x5.2]) (MQ (oa0 _ _ hx5))) ?_;refine vk (Aa) ?_;refine vk (vex) ?_;refine vk (vex) ?_;refine vk (van (Ah BO) BN) ?_
  refine stn ?_ Ak (by decide)
  refine ar [6,7,10,11] ?_;refine .sr ?_;refine vk (C8 Au Ak) ?_
  obtain ⟨x6,hx6,h⟩:=bnd h
  refine vk (Ad (DP hx6) Tryz.call94) ?_;refine vk (Aa) ?_
  refine stn ?_ Ay (by decide)
  refine ar [6,7] ?_;refine .ret ?_
  cases h
  exact ⟨_,_,⟨.inr rfl,AP,Ay,(by decide:(0:Nat)<6)⟩,rfl,rfl⟩
 replace h:=Ai hc h
 refine cnf (bf hc) ?_;refine .seq ?_;refine AW.mr (σ:=Unit) (fun _=>True) (fun _=>[(3,.d (.ptr [a0.1.dv,.i .i32 a0.2])),(4,.d (.ptr [.i .u8 a1.kind,.b a1.num.1,.sl (L a1.num.2.1),.sl (L a1.num.2.2),.i .i32 a1.char,.sl (Ars a1.box)])),(5,.d (.ptr [.i .u8 a2.kind,.b a2.num.1,.sl (L a2.num.2.1),.sl (L a2.num.2.2),.i .i32 a2.char,.sl (Ars a2.box)])),(6,.nb [.i .u8 0,.b false,.sl (L []),.sl (L []),.i .i32 0,.sl (Ars [])]),(7,.d (.i .i64 0)),(56,.d (.b ((decide (a0.2=61)) || (decide (a0.2=8800)))))]) (fun _=>[]) ?_ ?_
 ·skip
  refine .region ?_;refine vk (vfa N0) ?_;refine vk (An CP) ?_;refine vk (vbi) ?_
  by_cases hc:a0.2=61
  ·have hb0:(decide (a0.2=61))=true:=(dT hc)
   refine vk (VOK.lit (Aa) hb0) ?_;refine gf ?_;refine gf ?_;refine gf ?_;refine vk (Am) ?_;refine asd ?_;refine RL.gk [3,4,5,6,7,56] ?_;refine .nil ?_
   exact jr () trivial (by simp only [hb0];rfl)
  have hb0:(decide (a0.2=61))=false:=(dF hc)
  refine vk (VOK.lit (Aa) hb0) ?_;refine vk (vfa N0) ?_;refine vk (An CP) ?_;refine vk (vbi) ?_;refine vk (Am) ?_;refine asd ?_;refine RL.gk [3,4,5,6,7,56] ?_;refine .nil ?_
  exact jr () trivial (by simp only [hb0];rfl)
 rintro _ _
 by_cases hc:((decide (a0.2=61)) || (decide (a0.2=8800)))=true
 ·replace h:=Aj hc h
  refine cnt hc ?_;refine .seq ?_;refine AW.mr (σ:=Unit) (fun _=>True) (fun _=>[(3,.d (.ptr [a0.1.dv,.i .i32 a0.2])),(6,.nb [.i .u8 0,.b false,.sl (L []),.sl (L []),.i .i32 0,.sl (Ars [])]),(7,.d (.i .i64 0)),(12,.d (.b ((decide (a1.kind=a2.kind)) && (decide (a1.char=a2.char)))))]) (fun _=>[]) ?_ ?_
  ·skip
   refine .region ?_;refine vk (vfa Cd) ?_;refine vk (An Be) ?_;refine vk (vfa Cd) ?_;refine vk (An Be) ?_;refine vk (vbi) ?_
   by_cases hc:a1.kind=a2.kind
   ·have hb0:(decide (a1.kind=a2.kind))=true:=(dT hc)
    refine vk (VOK.lit (Aa) hb0) ?_;refine vk (vfa DT) ?_;refine vk (An CP) ?_;refine vk (vfa DT) ?_;refine vk (An CP) ?_;refine vk (vbi) ?_;refine vk (Am) ?_;refine asd ?_;refine RL.gk [3,6,7,12] ?_;refine .nil ?_
    exact jr () trivial (by simp only [hb0];rfl)
   have hb0:(decide (a1.kind=a2.kind))=false:=(dF hc)
   refine vk (VOK.lit (Aa) hb0) ?_;refine gf ?_;refine gf ?_;refine gf ?_;refine gf ?_;refine gf ?_;refine vk (Am) ?_;refine asd ?_;refine RL.gk [3,6,7,12] ?_;refine .nil ?_
   exact jr () trivial (by simp only [hb0];rfl)
  rintro _ _
  refine .sr ?_;refine vk (Aa) ?_;refine vk (vfa N0) ?_;refine vk (An CP) ?_;refine vk (vbi) ?_;refine vk (XW (.inl rfl) bo) ?_
  obtain ⟨x7,hx7,h⟩:=bnd h
  refine vk (Ad (Eg hx7) Tryz.call91) ?_
  obtain ⟨x8,hx8,h⟩:=bnd h
  refine vk (Ad (DP hx8) Tryz.call94) ?_
  refine stn ?_ Ay (by decide)
  refine ar [6,7] ?_;refine .ret ?_
  cases h
  exact ⟨_,_,⟨.inr rfl,AP,Ay,(by decide:(0:Nat)<6)⟩,rfl,rfl⟩
 replace h:=Ai hc h
 refine cnf (bf hc) ?_;refine .skip ?_
 show AW _ _ _ _ _ _
 refine .sr ?_;refine vk (vbd Hr B2 Cb) ?_
 refine stn ?_ Ay (by decide)
 refine ar [6,7] ?_;refine .ret ?_
 cases h
 exact ⟨_,_,⟨.inr rfl,AP,Ay,(by decide:(0:Nat)<6)⟩,rfl,rfl⟩
def Hu (rc_scalar_pair_through : (Ac × Int)→Arr→Arr→Option (Arr × Int)) (a0 : Int) (c0 : (Ac × Int)) (c1 : Arr) (c2 : Arr) : Option (Itm × Int):=((JO (((List.length c1.items : Nat) : Int) ≠ 0)).bind fun x1=>((rd? c1.items (Int.tmod a0 ((List.length c1.items : Nat) : Int))).bind fun x2=>((JO (((List.length c2.items : Nat) : Int) ≠ 0)).bind fun x3=>((rd? c2.items (Int.tmod a0 ((List.length c2.items : Nat) : Int))).bind fun x4=>((Dd rc_scalar_pair_through c0 x2 x4).bind fun x5=>(some (x5.1,x5.2)))))))
theorem Qk {rc_scalar_pair_through : (Ac × Int)→Arr→Arr→Option (Arr × Int)} (orc_scalar_pair_through : ∀ x0 x1 x2 r,Bb x0.1→rc_scalar_pair_through x0 x1 x2=some r→Fn Tryz.prog 39 [.ag [x0.1.dv,.i .i32 x0.2],.ag [.sl (Is x1.shape),.sl (Its x1.items)],.ag [.sl (Is x2.shape),.sl (Its x2.items)]] (.tup [.d (.ag [.sl (Is r.1.shape),.sl (Its r.1.items)]),.d (.i .i64 r.2)])) {a0 : Int} {c0 : (Ac × Int)} {c1 : Arr} {c2 : Arr} (oc0 : Bb c0.1) {r : Itm × Int} (h : Hu rc_scalar_pair_through a0 c0 c1 c2=some r) :
  Fn Tryz.prog 115 [.i .i64 a0,.ptr [c0.1.dv,.i .i32 c0.2],.ptr [.sl (Is c1.shape),.sl (Its c1.items)],.ptr [.sl (Is c2.shape),.sl (Its c2.items)]] (.tup [.d (.ag [.i .u8 r.1.kind,.b r.1.num.1,.sl (L r.1.num.2.1),.sl (L r.1.num.2.2),.i .i32 r.1.char,.sl (Ars r.1.box)]),.d (.i .i64 r.2)]):=by
 unfold Hu at h
 refine Fn.ofC (rs:=[.cell 5 83,.tmp 6]) (nt:=29) Tryz.func115 rfl rfl rfl (by simp) rfl ?_;refine .sr ?_;refine vk (van (Ah B2) Cb) ?_;refine ar [0,1,2,3,5,6] ?_;refine .seq ?_;refine .drawn 22 Ba (by kernel_rfl) ?_;refine dv (Ap NB HZ) ?_;refine dv (vfa A6) ?_;refine dv (An CC) ?_;refine dv (Aa) ?_;refine dv (vfa A6) ?_;refine dv (An CC) ?_;refine dv (Bz (AN _) (Dr _) Dl) ?_
 obtain ⟨x1,hx1,h⟩:=bnd h
 refine dv (P5 (J9 hx1)) ?_
 obtain ⟨x2,hx2,h⟩:=bnd h
 obtain ⟨nx2,hnx2,hxx2⟩:=AS hx2
 refine dv (vix nx2 hnx2 (Ec hxx2) rfl DO) ?_;refine dv (Ap AP Ay) ?_;refine dv (vfa A6) ?_;refine dv (An CC) ?_;refine dv (Aa) ?_;refine dv (vfa A6) ?_;refine dv (An CC) ?_;refine dv (Bz (AN _) (Dr _) Dl) ?_
 obtain ⟨x3,hx3,h⟩:=bnd h
 refine dv (P5 (J9 hx3)) ?_
 obtain ⟨x4,hx4,h⟩:=bnd h
 obtain ⟨nx4,hnx4,hxx4⟩:=AS hx4
 refine dv (vix nx4 hnx4 (Ec hxx4) rfl DO) ?_;refine dv (Ap AP Ay) ?_
 obtain ⟨x5,hx5,h⟩:=bnd h
 refine dv (VOK.tupd (vs:=[.ag [.i .u8 x5.1.kind,.b x5.1.num.1,.sl (L x5.1.num.2.1),.sl (L x5.1.num.2.2),.i .i32 x5.1.char,.sl (Ars x5.1.box)],.i .i64 x5.2]) (Ad (Pc orc_scalar_pair_through oc0 hx5) Tryz.call116)) ?_;refine dv (vex) ?_;refine dv (vex) ?_;refine dz ?_
 refine stn ?_ Ay (by decide)
 refine ar [5,6] ?_;refine .ret ?_
 cases h
 exact ⟨_,_,⟨.inr rfl,AP,Ay,(by decide:(0:Nat)<6)⟩,rfl,rfl⟩
def Ik (rc_scalar_pair_through : (Ac × Int)→Arr→Arr→Option (Arr × Int)) (a0 : (Ac × Int)) (a1 : Arr) (a2 : Arr) : Option (Arr × Int):=((Db a1 a2).bind fun x1=>(if x1.2=0 then ((AM x1.1 (⟨.fn 115 [] [.ptr [a0.1.dv,.i .i32 a0.2],.ptr [.sl (Is a1.shape),.sl (Its a1.items)],.ptr [.sl (Is a2.shape),.sl (Its a2.items)]],fun x=>Hu rc_scalar_pair_through x a0 a1 a2⟩ : Az)).bind fun x2=>(some (x2.1,x2.2))) else (some ((Arr.mk [] []),x1.2))))
theorem Qz {rc_scalar_pair_through : (Ac × Int)→Arr→Arr→Option (Arr × Int)} (orc_scalar_pair_through : ∀ x0 x1 x2 r,Bb x0.1→rc_scalar_pair_through x0 x1 x2=some r→Fn Tryz.prog 39 [.ag [x0.1.dv,.i .i32 x0.2],.ag [.sl (Is x1.shape),.sl (Its x1.items)],.ag [.sl (Is x2.shape),.sl (Its x2.items)]] (.tup [.d (.ag [.sl (Is r.1.shape),.sl (Its r.1.items)]),.d (.i .i64 r.2)])) {a0 : (Ac × Int)} {a1 : Arr} {a2 : Arr} (oa0 : Bb a0.1) {r : Arr × Int} (h : Ik rc_scalar_pair_through a0 a1 a2=some r) :
  Fn Tryz.prog 39 [.ag [a0.1.dv,.i .i32 a0.2],.ag [.sl (Is a1.shape),.sl (Its a1.items)],.ag [.sl (Is a2.shape),.sl (Its a2.items)]] (.tup [.d (.ag [.sl (Is r.1.shape),.sl (Its r.1.items)]),.d (.i .i64 r.2)]):=by
 unfold Ik at h
 refine Fn.ofC (rs:=[.cell 6 25,.tmp 7]) (nt:=25) Tryz.func39 rfl rfl rfl (by simp) rfl ?_;refine .sr ?_;refine vk (vbx) ?_;refine vk (vbx) ?_;refine vk (vbx) ?_;refine vk (van (Ah AU) A7) ?_;refine ar [3,4,5,6,7] ?_;refine .sr ?_;refine vk (Ap As Ag) ?_;refine vk (Ap As Ag) ?_
 obtain ⟨x1,hx1,h⟩:=bnd h
 refine vk (VOK.tupd (vs:=[.sl (Is x1.1),.i .i64 x1.2]) (Ad (I5 hx1) Tryz.call114)) ?_;refine vk (Aa) ?_;refine vk (vex) ?_;refine vk (vex) ?_;refine asd ?_;refine ar [3,4,5,6,7,8,9] ?_;refine .seq ?_;refine .sr ?_;refine vk (Aa) ?_;refine vk (vbi) ?_;refine rk [3,4,5,6,7,8,9,17] ?_
 by_cases hc:x1.2=0
 ·replace h:=Aj hc h
  refine cnf (ntf (dT hc)) ?_;refine .skip ?_
  show AW _ _ _ _ _ _
  refine .sr ?_;refine vk (Aa) ?_;refine vk (SO) ?_
  obtain ⟨x2,hx2,h⟩:=bnd h
  refine vk (VOK.tupd (vs:=[.ag [.sl (Is x2.1.shape),.sl (Its x2.1.items)],.i .i64 x2.2]) (Ad (Hx (Cp Tryz.call115 (fun _ _ h=>Qk orc_scalar_pair_through oa0 h)) hx2) Tryz.call92)) ?_;refine vk (vex) ?_;refine vk (vex) ?_
  refine stn ?_ Ag (by decide)
  refine ar [6,7] ?_;refine .ret ?_
  cases h
  exact ⟨_,_,⟨.inr rfl,As,Ag,(by decide:(0:Nat)<2)⟩,rfl,rfl⟩
 replace h:=Ai hc h
 refine cnt (ntt (dF hc)) ?_;refine .sr ?_;refine vk (vbd Ef AU A7) ?_;refine vk (Aa) ?_
 refine stn ?_ Ag (by decide)
 refine ar [3,4,5,6,7,8] ?_;refine .ret ?_
 cases h
 exact ⟨_,_,⟨.inr rfl,As,Ag,(by decide:(0:Nat)<2)⟩,rfl,rfl⟩
def Dz : Nat→(Ac × Int)→Arr→Arr→Option (Arr × Int)
 | 0,_,_,_=>none
 | k+1,a0,a1,a2=>Ik (Dz k) a0 a1 a2
theorem KC : ∀ (k : Nat) (a0 : (Ac × Int)) (a1 : Arr) (a2 : Arr) (r : Arr × Int),Bb a0.1→Dz k a0 a1 a2=some r→Fn Tryz.prog 39 [.ag [a0.1.dv,.i .i32 a0.2],.ag [.sl (Is a1.shape),.sl (Its a1.items)],.ag [.sl (Is a2.shape),.sl (Its a2.items)]] (.tup [.d (.ag [.sl (Is r.1.shape),.sl (Its r.1.items)]),.d (.i .i64 r.2)])
 | 0,_,_,_,_,_,h=>by cases h
 | k+1,a0,a1,a2,_,oa0,h=>Qz (KC k) oa0 (show Ik (Dz k) a0 a1 a2=some _ from h)
def G9 (a0 : (Ac × Int)) (a1 : Arr) (a2 : Arr) : Option (Arr × Int):=Dz (a1.size+a2.size+1) a0 a1 a2
theorem Si {a0 : (Ac × Int)} {a1 : Arr} {a2 : Arr} (oa0 : Bb a0.1) {r : Arr × Int} (h : G9 a0 a1 a2=some r) : Fn Tryz.prog 39 [.ag [a0.1.dv,.i .i32 a0.2],.ag [.sl (Is a1.shape),.sl (Its a1.items)],.ag [.sl (Is a2.shape),.sl (Its a2.items)]] (.tup [.d (.ag [.sl (Is r.1.shape),.sl (Its r.1.items)]),.d (.i .i64 r.2)]):=KC _ a0 a1 a2 r oa0 h
def Aan {α β : Type} : Option (FW α β)→DV
 | none=>.nf
 | some f=>f.dv
def Eu (a0 : (Int × RT × Int)) (a1 : Int) (a2 : Arr) (a3 : Arr) : Option ((Option Ac × Int) × Int):=(SJ (Fe (HU a0.2.1) a1) (some ((none,0),23)) fun f1=>((Dx a0.2.1).bind fun x2=>(Option.bind ((if x2=true then ((Bk a2).bind fun x4=>(if x4=true then ((Bk a3).bind fun x5=>(some (!x5))) else (some true))) else (some true)) : Option (Bool)) fun (z2 : Bool)=>(if z2=true then (some ((none,0),22)) else (some ((some f1,a1),0))))))
theorem Jv {a0 : (Int × RT × Int)} {a1 : Int} {a2 : Arr} {a3 : Arr} {r : (Option Ac × Int) × Int} (h : Eu a0 a1 a2 a3=some r) :
  Fn Tryz.prog 38 [.ag [.i .i64 a0.1,.b a0.2.1.1,.sl (L a0.2.1.2.1),.sl (L a0.2.1.2.2),.i .i64 a0.2.2],.i .i32 a1,.ag [.sl (Is a2.shape),.sl (Its a2.items)],.ag [.sl (Is a3.shape),.sl (Its a3.items)]] (.tup [.d (.ag [Aan r.1.1,.i .i32 r.1.2]),.d (.i .i64 r.2)]):=by
 unfold Eu at h
 refine Fn.ofC (rs:=[.cell 8 75,.tmp 9]) (nt:=39) Tryz.func38 rfl rfl rfl (by simp) rfl ?_;refine .sr ?_;refine vk (vbx) ?_;refine vk (vbx) ?_;refine vk (vbx) ?_;refine vk (van (Ah NC) MX) ?_;refine ar [1,4,6,7,8,9] ?_;refine .sr ?_;refine vk (vfa QZ) ?_;refine vk (Ap Au Ak) ?_;refine vk (Ad Th Tryz.call59) ?_;refine vk (Aa) ?_
 rcases hmf1:(Fe (HU a0.2.1) a1) with _ | f1
 ·replace h:=Q5 hmf1 h
  refine vk (WZ T5 gkR YS hmf1) ?_;refine ar [1,4,6,7,8,9,10] ?_;refine .seq ?_;refine .block ?_;refine .sr ?_;refine vk (Aa) ?_;refine vk (Zs Fg) ?_;refine ar [1,4,6,7,8,9,10,16] ?_;refine Bs ?_;refine .sr ?_;refine vk (vbd T4 NC MX) ?_
  refine stn ?_ HZ (by decide)
  refine ar [1,8,9,10] ?_;refine .ret ?_
  cases h
  exact ⟨_,_,⟨.inr rfl,NB,HZ,(by decide:(0:Nat)<2)⟩,rfl,rfl⟩
 replace h:=RE hmf1 h
 obtain ⟨of1,isf1⟩:=PS hmf1
 refine vk (W0 (Te _) T5 gkR hmf1) ?_;refine ar [1,4,6,7,8,9,10] ?_;refine .seq ?_;refine .block ?_;refine .sr ?_;refine vk (Aa) ?_;refine vk (Zr Fg isf1) ?_;refine ar [1,4,6,7,8,9,10,16] ?_;refine Bv ?_;refine .seq ?_
 obtain ⟨x2,hx2,h⟩:=bnd h
 obtain ⟨z2,hz,h⟩:=bnd h
 refine AW.mr (σ:=Unit) (fun _=>True) (fun _=>[(1,.d (.i .i32 a1)),(8,.nb [.nf,.i .i32 0]),(9,.d (.i .i64 0)),(10,.d (f1.dv)),(20,.d (.b z2))]) (fun _=>[]) ?_ ?_
 ·skip
  refine .region ?_;refine vk (vfa QZ) ?_;refine vk (Ap Au Ak) ?_;refine vk (Ad (DJ hx2) Tryz.call45) ?_;refine vk (vnt) ?_
  by_cases hc:x2=true
  ·replace hz:=Aj hc hz
   have hb0:(!x2)=false:=(ntf hc)
   refine vk (VOK.lit (Aa) hb0) ?_;refine vk (Ap As Ag) ?_
   obtain ⟨x4,hx4,hz⟩:=bnd hz
   refine vk (Ad (Cj hx4) Tryz.call13) ?_;refine vk (vnt) ?_;refine vk (Am) ?_
   by_cases hc:x4=true
   ·replace hz:=Aj hc hz
    have hb1:(!x4)=false:=(ntf hc)
    refine vk (VOK.lit (Aa) hb1) ?_;refine vk (Ap As Ag) ?_
    obtain ⟨x5,hx5,hz⟩:=bnd hz
    refine vk (Ad (Cj hx5) Tryz.call13) ?_;refine vk (vnt) ?_;refine vk (Am) ?_;refine asd ?_;refine RL.gk [1,8,9,10,20] ?_;refine .nil ?_
    cases hz
    exact jr () trivial
   replace hz:=Ai hc hz
   have hb1:(!x4)=true:=(ntt (bf hc))
   refine vk (VOK.lit (Aa) hb1) ?_;refine gf ?_;refine gf ?_;refine gf ?_;refine vk (Am) ?_;refine asd ?_;refine RL.gk [1,8,9,10,20] ?_;refine .nil ?_
   cases hz
   exact jr () trivial
  replace hz:=Ai hc hz
  have hb0:(!x2)=true:=(ntt (bf hc))
  refine vk (VOK.lit (Aa) hb0) ?_;refine gf ?_;refine gf ?_;refine gf ?_;refine vk (Am) ?_;refine vk (Aa) ?_;refine gf ?_;refine gf ?_;refine gf ?_;refine vk (Am) ?_;refine asd ?_;refine RL.gk [1,8,9,10,20] ?_;refine .nil ?_
  cases hz
  exact jr () trivial
 rintro _ _
 by_cases hc:z2=true
 ·replace h:=Aj hc h
  refine cnt hc ?_;refine .sr ?_;refine vk (vbd T4 NC MX) ?_
  refine stn ?_ HZ (by decide)
  refine ar [1,8,9,10] ?_;refine .ret ?_
  cases h
  exact ⟨_,_,⟨.inr rfl,NB,HZ,(by decide:(0:Nat)<2)⟩,rfl,rfl⟩
 replace h:=Ai hc h
 refine cnf (bf hc) ?_;refine .skip ?_
 show AW _ _ _ _ _ _
 refine .sr ?_;refine vk (Aa) ?_;refine vk (Aa) ?_;refine vk (vbd T4 NC MX) ?_
 refine stn ?_ HZ (by decide)
 refine ar [8,9] ?_;refine .ret ?_
 cases h
 exact ⟨_,_,⟨.inr rfl,NB,HZ,(by decide:(0:Nat)<2)⟩,rfl,rfl⟩
theorem OC {a0 : (Int × RT × Int)} {a1 : Int} {a2 : Arr} {a3 : Arr} {r : (Option Ac × Int) × Int} (h : Eu a0 a1 a2 a3=some r) : ∀ p,r.1.1=some p→Bb p:=by
 unfold Eu at h
 rcases hmf1:(Fe (HU a0.2.1) a1) with _ | f1
 ·replace h:=Q5 hmf1 h
  cases h;intro p hp;cases hp
 ·replace h:=RE hmf1 h
  obtain ⟨x2,hx2,h⟩:=bnd h
  obtain ⟨z2,hz,h⟩:=bnd h
  by_cases hc:z2=true
  ·replace h:=Aj hc h
   cases h;intro p hp;cases hp
  ·replace h:=Ai hc h
   cases h;intro p hp;cases hp
   exact (PS hmf1).1
def BB (a0 : (Int × RT × Int)) (a1 : Int) (a2 : Arr) (a3 : Arr) : Option (Arr × Int):=((Eu a0 a1 a2 a3).bind fun x1=>(if x1.2=0 then (SJ x1.1.1 none fun p=>((G9 (p,x1.1.2) a2 a3).bind fun x2=>(some (x2.1,x2.2)))) else (some ((Arr.mk [] []),x1.2))))
theorem CD {a0 : (Int × RT × Int)} {a1 : Int} {a2 : Arr} {a3 : Arr} {r : Arr × Int} (h : BB a0 a1 a2 a3=some r) :
  Fn Tryz.prog 15 [.ag [.i .i64 a0.1,.b a0.2.1.1,.sl (L a0.2.1.2.1),.sl (L a0.2.1.2.2),.i .i64 a0.2.2],.i .i32 a1,.ag [.sl (Is a2.shape),.sl (Its a2.items)],.ag [.sl (Is a3.shape),.sl (Its a3.items)]] (.tup [.d (.ag [.sl (Is r.1.shape),.sl (Its r.1.items)]),.d (.i .i64 r.2)]):=by
 unfold BB at h
 refine Fn.ofC (rs:=[.cell 8 25,.tmp 9]) (nt:=30) Tryz.func15 rfl rfl rfl (by simp) rfl ?_;refine .sr ?_;refine vk (vbx) ?_;refine vk (vbx) ?_;refine vk (vbx) ?_;refine vk (van (Ah AU) A7) ?_;refine ar [1,4,6,7,8,9] ?_;refine .sr ?_;refine vk (Ap WE UJ) ?_;refine vk (Aa) ?_;refine vk (Ap As Ag) ?_;refine vk (Ap As Ag) ?_
 obtain ⟨x1,hx1,h⟩:=bnd h
 obtain ⟨⟨po,z⟩,e⟩:=x1
 rcases po with _ | p
 ·skip
  refine vk (VOK.tupd (vs:=[.ag [DV.nf,.i .i32 z],.i .i64 e]) (Ad (Jv hx1) Tryz.call38)) ?_;refine vk (Aa) ?_;refine vk (vex) ?_;refine vk (vex) ?_;refine vk (van (Ah NC) MX) ?_
  refine stn ?_ HZ (by decide)
  refine ar [6,7,8,9,10,11] ?_;refine .seq ?_;refine .sr ?_;refine vk (Aa) ?_;refine vk (vbi) ?_;refine rk [6,7,8,9,10,11,21] ?_
  by_cases hc:e=0
  ·replace h:=Aj hc h
   exact nomatch (show (none:Option (Arr × Int))=some r from h)
  replace h:=Ai hc h
  refine cnt (ntt (dF hc)) ?_;refine .sr ?_;refine vk (vbd Ef AU A7) ?_;refine vk (Aa) ?_
  refine stn ?_ Ag (by decide)
  refine ar [6,7,8,9,10] ?_;refine .ret ?_
  cases h
  exact ⟨_,_,⟨.inr rfl,As,Ag,(by decide:(0:Nat)<2)⟩,rfl,rfl⟩
 refine vk (VOK.tupd (vs:=[.ag [p.dv,.i .i32 z],.i .i64 e]) (Ad (Jv hx1) Tryz.call38)) ?_;refine vk (Aa) ?_;refine vk (vex) ?_;refine vk (vex) ?_;refine vk (van (Ah NC) MX) ?_
 refine stn ?_ HZ (by decide)
 refine ar [6,7,8,9,10,11] ?_;refine .seq ?_;refine .sr ?_;refine vk (Aa) ?_;refine vk (vbi) ?_;refine rk [6,7,8,9,10,11,21] ?_
 by_cases hc:e=0
 ·replace h:=Aj hc h
  replace h:((G9 (p,z) a2 a3).bind fun x2=>(some (x2.1,x2.2)))=some r:=h
  refine cnf (ntf (dT hc)) ?_;refine .skip ?_
  show AW _ _ _ _ _ _
  refine .sr ?_;refine vk (C8 NB HZ) ?_;refine vk (Ap As Ag) ?_;refine vk (Ap As Ag) ?_
  obtain ⟨x2,hx2,h⟩:=bnd h
  refine vk (VOK.tupd (vs:=[.ag [.sl (Is x2.1.shape),.sl (Its x2.1.items)],.i .i64 x2.2]) (Ad (Si (OC hx1 p rfl) hx2) Tryz.call39)) ?_;refine vk (vex) ?_;refine vk (vex) ?_
  refine stn ?_ Ag (by decide)
  refine ar [8,9] ?_;refine .ret ?_
  cases h
  exact ⟨_,_,⟨.inr rfl,As,Ag,(by decide:(0:Nat)<2)⟩,rfl,rfl⟩
 replace h:=Ai hc h
 refine cnt (ntt (dF hc)) ?_;refine .sr ?_;refine vk (vbd Ef AU A7) ?_;refine vk (Aa) ?_
 refine stn ?_ Ag (by decide)
 refine ar [6,7,8,9,10] ?_;refine .ret ?_
 cases h
 exact ⟨_,_,⟨.inr rfl,As,Ag,(by decide:(0:Nat)<2)⟩,rfl,rfl⟩
theorem KL {F : Az} {xs : List Itm} (hF : ∀ (i : Nat) (h : i<xs.length),F.g (i : Int)=some (xs[i],0)) (hl : xs.length≤4096) {x1 : Int × Int} (hx1 : x1.1=((xs.length : Nat) : Int)) (K : Arr→Int→List Itm→Option (Arr × Int)) (a : Arr) (b : Int) : ∀ (n i k : Nat) (t : List Itm),n=xs.length - i→i≤xs.length→n<k→t.length≤1+i →
  Bp F x1 K k a b t (i:Int)=K a b (t++xs.drop i)
 | _,_,0,_,_,_,h,_=>by omega
 | n,i,k+1,t,hn,hi,hk,ht=>by
  rw [Bp]
  by_cases h:i<xs.length
  ·rw [if_pos (by omega),hF i h,oB,if_pos rfl,KT (by simp;omega),oB,Dj (by omega),KL hF hl hx1 K a b (n - 1) (i+1) k _ (by omega) (by omega) (by omega) (by simp;omega),List.drop_eq_getElem_cons h,List.append_assoc]
   rfl
  ·rw [if_neg (by omega),List.drop_of_length_le (by omega),List.append_nil]
theorem OI {s : List Int} {F : Az} {xs : List Itm} (hsl : s.length≤17592186044416) (hs : szP s=(((xs.length : Nat) : Int),0)) (hF : ∀ (i : Nat) (h : i<xs.length),F.g (i : Int)=some (xs[i],0)) :
  AM s F=BQ s ((if xs.length=0 then [DM 0] else [])++xs):=by
 have hle:=IA s
 rw [hs] at hle
 have hl:xs.length≤4096:=by have:=hle.2;omega
 unfold AM
 have hnum:Cy (ofQ ((0:Int):Rat))=some (DM 0):=rfl
 rw [ID hsl,oB,hs,Kw (by omega) (by omega),oB,hnum,oB]
 have hz:(if (w64 (1 - (if (1:Int)<((xs.length:Nat):Int) then 1 else ((xs.length:Nat):Int))))<1 then (w64 (1 - (if (1:Int)<((xs.length:Nat):Int) then 1 else ((xs.length:Nat):Int)))) else 1)=if xs.length=0 then 1 else 0:=by
  by_cases h0:xs.length=0
  ·rw [h0];rfl
  ·rw [if_neg h0]
   by_cases h1:(1:Int)<((xs.length:Nat):Int)
   ·rw [if_pos h1];rfl
   ·have:((xs.length:Nat):Int)=1:=by omega
    rw [this];rfl
 have hg:JO (0≤(if xs.length=0 then (1:Int) else 0)∧(if xs.length=0 then (1:Int) else 0)≤((List.length [DM 0]:Nat):Int))=some ():=if_pos (by split <;> simp)
 rw [hz,hg,oB,HF]
 have ht:List.take (Int.toNat (if xs.length=0 then 1 else 0)) [DM 0]=if xs.length=0 then [DM 0] else []:=by split <;> rfl
 rw [ht]
 have:=KL hF hl (x1:=(((xs.length:Nat):Int),0)) rfl (fun z5 z6 z7=>(BQ s z7).bind fun x14=>some (x14.1,x14.2)) (Arr.mk [] []) 0 xs.length 0 BC (if xs.length=0 then [DM 0] else []) rfl (Nat.zero_le _) (Di (by omega)) (by split <;> simp)
 rw [show ((0:Nat):Int)=0 from rfl,List.drop_zero] at this
 rw [this]
 generalize BQ s ((if xs.length=0 then [DM 0] else [])++xs)=m
 cases m <;> rfl
theorem Wf {rc : (Ac × Int)→Arr→Arr→Option (Arr × Int)} {p : Ac × Int} {a b : RT} : Dd rc p (.mk 1 a 0 []) (.mk 1 b 0 [])=(p.1.g (a,b)).bind fun x=>some (.mk 1 x.1 0 [],x.2):=by
 unfold Dd
 rw [if_neg (by rw [Jg,Jg];decide),if_pos (by rw [Jg,Jg];decide)]
 rfl
theorem H6 {rc : (Ac × Int)→Arr→Arr→Option (Arr × Int)} {p : Ac × Int} {a b : Arr} {i : Nat} {x y : Itm} (ha : a.items[i % a.items.length]?=some x) (hb : b.items[i % b.items.length]?=some y) :
  Hu rc (i:Int) p a b=Dd rc p x y:=by
 have la:0<a.items.length:=by
  have:=(List.getElem?_eq_some_iff.1 ha).1;omega
 have lb:0<b.items.length:=by
  have:=(List.getElem?_eq_some_iff.1 hb).1;omega
 unfold Hu
 have ga:JO (((List.length a.items:Nat):Int) ≠ 0)=some ():=if_pos (by omega)
 have gb:JO (((List.length b.items:Nat):Int) ≠ 0)=some ():=if_pos (by omega)
 rw [ga,oB,show Int.tmod (i:Int) ((List.length a.items:Nat):Int)=((i % a.items.length:Nat):Int) from rfl,Rn ha,oB,gb,oB,
  show Int.tmod (i:Int) ((List.length b.items:Nat):Int)=((i % b.items.length:Nat):Int) from rfl,Rn hb,oB]
 generalize Dd rc p x y=m
 cases m <;> rfl
def Iq (s t : List Int) : List Int × Int :=
 if s=t then (s,0) else if (szP s).1=1∧((szP t).1 ≠ 1∨s.length<t.length) then (t,0) else if (szP t).1=1 then (s,0) else if s.length=t.length then ([],5) else ([],4)
theorem NP {a b : Arr} (ha : a.shape.length≤17592186044416) (hb : b.shape.length≤17592186044416) : Db a b=some (Iq a.shape b.shape):=by
 unfold Db Iq
 rw [ID ha,oB,ID hb,oB,UI ha,oB]
 by_cases h:a.shape=b.shape
 ·rw [if_pos (dT h),if_pos h]
 ·rw [if_neg (by rw [dF h];decide),if_neg h]
  by_cases h1:(szP a.shape).1=1∧((szP b.shape).1 ≠ 1∨a.shape.length<b.shape.length)
  ·rw [if_pos h1,if_pos]
   simp only [Bool.and_eq_true,Bool.or_eq_true,Bool.not_eq_true',decide_eq_true_eq,decide_eq_false_iff_not]
   exact ⟨h1.1,h1.2.imp id fun h=>by omega⟩
  ·rw [if_neg h1,if_neg]
   ·by_cases h2:(szP b.shape).1=1
    ·rw [if_pos h2,if_pos h2]
    ·rw [if_neg h2,if_neg h2]
     by_cases h3:a.shape.length=b.shape.length
     ·rw [if_pos h3,if_pos (by omega)]
     ·rw [if_neg h3,if_neg (by omega)]
   ·simp only [Bool.and_eq_true,Bool.or_eq_true,Bool.not_eq_true',decide_eq_true_eq,decide_eq_false_iff_not]
    rintro ⟨q1,q2⟩
    exact h1 ⟨q1,q2.imp id fun h=>by omega⟩
theorem Yz {p : Ac × Int} {a b : Arr} (ha : a.shape.length≤17592186044416) (hb : b.shape.length≤17592186044416) : G9 p a b =
  if (Iq a.shape b.shape).2=0 then AM (Iq a.shape b.shape).1 (⟨.fn 115 [] [.ptr [p.1.dv,.i .i32 p.2],.ptr [.sl (Is a.shape),.sl (Its a.items)],.ptr [.sl (Is b.shape),.sl (Its b.items)]],fun x=>Hu (Dz (a.size+b.size)) x p a b⟩:Az) else some (.mk [] [],(Iq a.shape b.shape).2):=by
 unfold G9
 rw [Dz]
 unfold Ik
 rw [NP ha hb,oB]
 by_cases h:(Iq a.shape b.shape).2=0
 ·rw [if_pos h,if_pos h]
  generalize AM _ _=m
  cases m <;> rfl
 ·rw [if_neg h,if_neg h]
theorem YA {f : AA} {a : Arr} : Mw f a=AM a.shape (⟨.fn 93 [] [.ptr [.sl (Is a.shape),.sl (Its a.items)],.ptr [f.dv]],fun x=>E8 (BZ a.size) x a f⟩ : Az):=by
 unfold Mw
 rw [BZ]
 unfold KS
 generalize AM _ _=m
 cases m <;> rfl
theorem WR {rc : AA→Arr→Option (Arr × Int)} {f : AA} {a : Arr} {i : Nat} {x : RT} (ha : a.items[i]?=some (.mk 1 x 0 [])) : E8 rc (i : Int) a f=(f.g x).bind fun r=>some (.mk 1 r.1 0 [],r.2):=by
 unfold E8
 rw [Rn ha,oB,if_pos (Jg _ _ _ _)]
 rfl
theorem JQ {F : Az} {xs : List Itm} (hF : ∀ (i : Nat) (h : i<xs.length),F.g (i : Int)=some (xs[i],0)) {y : Itm} {e : Int} (he : e ≠ 0) (hy : F.g ((xs.length : Nat) : Int)=some (y,e)) (hl : xs.length≤4096) {x1 : Int × Int} (hx1 : ((xs.length : Nat) : Int)<x1.1) (K : Arr→Int→List Itm→Option (Arr × Int)) (a : Arr) (b : Int) : ∀ (n i k : Nat) (t : List Itm),n=xs.length - i→i≤xs.length→n<k→t.length≤1+i →
  Bp F x1 K k a b t (i:Int)=some (.mk [] [],e)
 | _,_,0,_,_,_,h,_=>by omega
 | n,i,k+1,t,hn,hi,hk,ht=>by
  rw [Bp]
  by_cases h:i<xs.length
  ·rw [if_pos (by omega),hF i h,oB,if_pos rfl,KT (by simp;omega),oB,Dj (by omega),JQ hF he hy hl hx1 K a b (n - 1) (i+1) k _ (by omega) (by omega) (by omega) (by simp;omega)]
  ·obtain rfl:i=xs.length:=by omega
   rw [if_pos hx1,hy,oB,if_neg he]
theorem TP {s : List Int} {F : Az} {xs : List Itm} {m : Int} (hsl : s.length≤17592186044416) (hs : szP s=(m,0)) (hm : ((xs.length : Nat) : Int)<m) (hF : ∀ (i : Nat) (h : i<xs.length),F.g (i : Int)=some (xs[i],0)) {y : Itm} {e : Int} (he : e ≠ 0) (hy : F.g ((xs.length : Nat) : Int)=some (y,e)) :
  AM s F=some (.mk [] [],e):=by
 have hle:=IA s
 rw [hs] at hle
 have hl:xs.length≤4096:=by have:=hle.2;omega
 unfold AM
 have hnum:Cy (ofQ ((0:Int):Rat))=some (DM 0):=rfl
 rw [ID hsl,oB,hs,Kw (by omega) (by omega),oB,hnum,oB]
 have hz:(if (w64 (1 - (if (1:Int)<m then 1 else m)))<1 then (w64 (1 - (if (1:Int)<m then 1 else m))) else 1)=0:=by
  by_cases h1:(1:Int)<m
  ·rw [if_pos h1];rfl
  ·have:m=1:=by omega
   rw [this];rfl
 have hg:JO (0≤(0:Int)∧(0:Int)≤((List.length [DM 0]:Nat):Int))=some ():=if_pos (by simp)
 rw [hz,hg,oB,HF]
 exact JQ hF he hy hl hm _ (Arr.mk [] []) 0 xs.length 0 BC _ rfl (Nat.zero_le _) (Di (by omega)) (by simp)
theorem YK {p : Ac × Int} {s : List Int} {xs ys zs : List RT} (hs : s.length≤17592186044416) (hz : szP s=(((zs.length : Nat) : Int),0)) (h : ∀ (i : Nat) (hi : i<zs.length),∃ x y,xs[i]?=some x∧ys[i]?=some y∧p.1.g (x,y)=some (zs[i],0)) :
  G9 p (.mk s (xs.map fun x=>.mk 1 x 0 [])) (.mk s (ys.map fun x=>.mk 1 x 0 []))=BQ s ((if zs.length=0 then [DM 0] else [])++zs.map fun x=>.mk 1 x 0 []):=by
 have ht:Iq s s=(s,0):=if_pos rfl
 rw [Yz (by rw [Gk];exact hs) (by rw [Gk];exact hs)]
 rw [Gk,Gk,ht,if_pos rfl]
 have hl:(zs.map fun x=>Itm.mk 1 x 0 []).length=zs.length:=List.length_map ..
 rw [OI (xs:=zs.map fun x=>Itm.mk 1 x 0 []) hs (by rw [hl];exact hz) ?_,hl]
 intro i hi
 rw [hl] at hi
 obtain ⟨x,y,hx,hy,hf⟩:=h i hi
 have lx:=(List.getElem?_eq_some_iff.1 hx).1
 have ly:=(List.getElem?_eq_some_iff.1 hy).1
 show Hu _ _ _ _ _=_
 rw [H6 (x:=.mk 1 x 0 []) (y:=.mk 1 y 0 []) (by rw [Ek,List.length_map,Nat.mod_eq_of_lt lx,List.getElem?_map,hx];rfl) (by rw [Ek,List.length_map,Nat.mod_eq_of_lt ly,List.getElem?_map,hy];rfl),Wf,hf,oB,List.getElem_map]
theorem Zg {f : AA} {s : List Int} {xs zs : List RT} (hs : s.length≤17592186044416) (hz : szP s=(((zs.length : Nat) : Int),0)) (h : ∀ (i : Nat) (hi : i<zs.length),∃ x,xs[i]?=some x∧f.g x=some (zs[i],0)) :
  Mw f (.mk s (xs.map fun x=>.mk 1 x 0 []))=BQ s ((if zs.length=0 then [DM 0] else [])++zs.map fun x=>.mk 1 x 0 []):=by
 rw [YA,Gk]
 have hl:(zs.map fun x=>Itm.mk 1 x 0 []).length=zs.length:=List.length_map ..
 rw [OI (xs:=zs.map fun x=>Itm.mk 1 x 0 []) hs (by rw [hl];exact hz) ?_,hl]
 intro i hi
 rw [hl] at hi
 obtain ⟨x,hx,hf⟩:=h i hi
 show E8 _ _ _ _=_
 rw [WR (x:=x) (by rw [Ek,List.getElem?_map,hx];rfl),hf,oB,List.getElem_map]
def Gt (b : Bool) : RT:=(false,if b then [1] else [],[1])
theorem Y1 (a b : Bool) : Bg (Gt a) (Gt b) ⟨.fn 149 [] [],fun y=>Fu y.1 y.2⟩=some (Gt (a && b),0):=by
 cases a <;> cases b <;> kernel_rfl
theorem Zx (a b : Bool) : Bg (Gt a) (Gt b) ⟨.fn 150 [] [],fun y=>E1 y.1 y.2⟩=some (Gt (a || b),0):=by
 cases a <;> cases b <;> kernel_rfl
theorem Yy (a b : Bool) : Bg (Gt a) (Gt b) ⟨.fn 151 [] [],fun y=>E4 y.1 y.2⟩=some (Gt (!(a && b)),0):=by
 cases a <;> cases b <;> kernel_rfl
theorem RH (a : Bool) : Hz (Gt a)=some (Gt (!a),0):=by
 cases a <;> kernel_rfl
theorem U8 (b : Bool) : (DM (if b then 1 else 0))=.mk 1 (Gt b) 0 []:=by
 cases b <;> kernel_rfl
def NA (b : Bool) : Int:=if b then 1 else 0
theorem ZD (b : Bool) : Lf (NA b):=by cases b <;> unfold NA Lf <;> decide
def Mp (l : List Bool) : Arr:=.mk [((l.length : Nat) : Int)] ((if l.length=0 then [DM 0] else [])++(l.map Gt).map fun x=>.mk 1 x 0 [])
theorem Vc {l : List Bool} (h : l.length≤4096) : Z9 (l.map NA)=Mp l:=by
 have e:(l.map NA).map DM=(l.map Gt).map fun x=>Itm.mk 1 x 0 []:=by
  rw [List.map_map,List.map_map]
  exact List.map_congr_left fun b _=>U8 b
 show JK (DM 0) ((l.map NA).map DM)=_
 rw [e]
 unfold JK Mp
 have hl:((l.map Gt).map fun x=>Itm.mk 1 x 0 []).length=l.length:=by rw [List.length_map,List.length_map]
 rw [hl,Nat.min_eq_left h,List.take_of_length_le (by rw [hl];exact h)]
 by_cases h0:l.length=0
 ·have:l=[]:=List.eq_nil_of_length_eq_zero h0
  subst this;rfl
 ·rw [if_neg h0,if_neg h0,List.nil_append]
theorem Vi (xs : List Itm) : cyc xs xs.length=xs:=by
 apply List.ext_getElem?
 intro i
 by_cases h2:i<xs.length
 ·unfold cyc
  rw [List.getElem?_map,List.getElem?_range h2,Option.map_some,Nat.mod_eq_of_lt h2,List.getD_eq_getElem?_getD,List.getElem?_eq_getElem h2];rfl
 ·rw [List.getElem?_eq_none (by rw [Gn];omega),List.getElem?_eq_none (by omega)]
theorem Vv (l : List Bool) : ∀ z ∈ l.map NA,Lf z:=fun z hz=>by
 obtain ⟨b,_,rfl⟩:=List.mem_map.1 hz
 exact ZD b
theorem Lw {l : List Bool} (h : l.length≤4096) : A0 (Mp l)∧okAr (Mp l):=by
 rw [← Vc h]
 exact ⟨XZ (Vv l),Zz (Vv l)⟩
theorem WU {l : List Bool} (h : l.length≤4096) : BQ [((l.length : Nat) : Int)] ((if l.length=0 then [DM 0] else [])++(l.map Gt).map fun x=>.mk 1 x 0 [])=some (Mp l,0):=by
 obtain ⟨hr,ho⟩:=Lw h
 have ho':=(Bm _).1 ho
 unfold Mp at hr ho'
 rw [Gk,Ek] at ho'
 have hri:=hr.1
 obtain ⟨_,_,hx⟩:=M7 hri
 rw [Ek] at hx
 have hitems:BX ((l.length:Nat):Int) ((if l.length=0 then [DM 0] else [])++(l.map Gt).map fun x=>.mk 1 x 0 [])=(if l.length=0 then [DM 0] else [])++(l.map Gt).map fun x=>.mk 1 x 0 []:=by
  unfold BX
  by_cases h0:l.length=0
  ·have:l=[]:=List.eq_nil_of_length_eq_zero h0
   subst this
   show [tyI (DM 0)]=[DM 0]
   unfold DM;rw [SK];rfl
  ·rw [if_neg (by omega),if_neg h0,List.nil_append]
   have:=Vi ((l.map Gt).map fun x=>.mk 1 x 0 [])
   rw [List.length_map,List.length_map] at this
   exact this
 have hbox:∀ x ∈ (if l.length=0 then [DM 0] else [])++(l.map Gt).map fun x=>Itm.mk 1 x 0 [],x.box=[]:=by
  intro x hx
  rw [List.mem_append] at hx
  rcases hx with hx | hx
  ·split at hx
   ·rw [List.mem_singleton] at hx;rw [hx];rfl
   ·cases hx
  ·obtain ⟨y,_,rfl⟩:=List.mem_map.1 hx;rfl
 rw [Qa ho'.1 ho'.2.1 ho'.2.2.1 ho'.2.2.2,SU h,if_neg (fun q=>q rfl),hitems,if_neg ?_,if_pos hr]
 ·rfl
 ·rintro (q | q)
  ·have:=congrArg List.length q
   rw [List.length_append,List.length_map,List.length_map] at this
   split at this
   ·simp at this
   ·rename_i h0
    simp only [List.length_nil] at this;omega
  ·exact q fun x hx'=>⟨hx x hx',by rw [Ml,hbox x hx'];simp [dBs],by rw [KM,hbox x hx'];simp [cBs]⟩
theorem TM (l : List Bool) : Mp l=.mk [((l.length : Nat) : Int)] (((if l.length=0 then [Gt false] else [])++l.map Gt).map fun x=>.mk 1 x 0 []):=by
 unfold Mp
 rw [List.map_append]
 by_cases h0:l.length=0
 ·rw [if_pos h0,if_pos h0,show DM 0=.mk 1 (Gt false) 0 [] from U8 false];rfl
 ·rw [if_neg h0,if_neg h0];rfl
theorem Yl {l : List Bool} {i : Nat} (h : i<l.length) : ((if l.length=0 then [Gt false] else [])++l.map Gt)[i]?=some (Gt l[i]):=by
 rw [if_neg (by omega),List.nil_append,List.getElem?_map,List.getElem?_eq_getElem h];rfl
theorem ZE {p : Ac × Int} {f : Bool→Bool→Bool} (hf : ∀ a b,p.1.g (Gt a,Gt b)=some (Gt (f a b),0)) {l m : List Bool} (hlm : l.length=m.length) (h : l.length≤4096) : G9 p (Mp l) (Mp m)=some (Mp (List.zipWith f l m),0):=by
 have hz:(List.zipWith f l m).length=l.length:=by rw [List.length_zipWith];omega
 have hz2:((List.zipWith f l m).map Gt).length=l.length:=by rw [List.length_map,hz]
 have:=WU (l:=List.zipWith f l m) (by omega)
 rw [hz] at this
 rw [TM l,TM m,← hlm,YK (zs:=(List.zipWith f l m).map Gt) (by simp) (by rw [hz2];exact SU h) ?_,hz2,this]
 intro i hi
 rw [hz2] at hi
 have him:i<m.length:=by omega
 have hm:((if l.length=0 then [Gt false] else [])++m.map Gt)[i]?=some (Gt m[i]):=by
  rw [if_neg (by omega),List.nil_append,List.getElem?_map,List.getElem?_eq_getElem him];rfl
 refine ⟨_,_,Yl hi,hm,?_⟩
 rw [hf,List.getElem_map,List.getElem_zipWith]
theorem ZL {p : AA} {f : Bool→Bool} (hf : ∀ a,p.g (Gt a)=some (Gt (f a),0)) {l : List Bool} (h : l.length≤4096) : Mw p (Mp l)=some (Mp (l.map f),0):=by
 have hz:(l.map f).length=l.length:=List.length_map ..
 have hz2:((l.map f).map Gt).length=l.length:=by rw [List.length_map,hz]
 have:=WU (l:=l.map f) (by omega)
 rw [hz] at this
 rw [TM l,Zg (zs:=(l.map f).map Gt) (by simp) (by rw [hz2];exact SU h) ?_,hz2,this]
 intro i hi
 rw [hz2] at hi
 refine ⟨_,Yl hi,?_⟩
 rw [hf,List.getElem_map,List.getElem_map]
def CS : Option ((Int × RT × Int)):=(Pe.bind fun x1=>(some ((1,x1,0))))
theorem CG {r : (Int × RT × Int)} (h : CS=some r) :
  Fn Tryz.prog 16 [] (.d (.ag [.i .i64 r.1,.b r.2.1.1,.sl (L r.2.1.2.1),.sl (L r.2.1.2.2),.i .i64 r.2.2])):=by
 unfold CS at h
 refine Fn.ofC (rs:=[.cell 0 34]) (nt:=3) Tryz.func16 rfl rfl rfl (by simp) rfl ?_;refine .sr ?_;refine vk (van (Ah Wr) Wu) ?_;refine rk [0] ?_;refine .sr ?_
 obtain ⟨x1,hx1,h⟩:=bnd h
 refine vk (Ad (OP hx1) Tryz.call33) ?_;refine vk (vbd YH Wr Wu) ?_
 refine stn ?_ UJ (by decide)
 refine rk [0] ?_;refine .ret ?_
 cases h
 exact ⟨_,⟨.inr rfl,WE,UJ,(by decide:(0:Nat)<5)⟩,rfl⟩
def FU : Option (Bool):=(CS.bind fun x1=>((IB ([1,2])).bind fun x2=>((HA 10).bind fun x3=>((BB x1 43 x2 x3).bind fun x4=>(CS.bind fun x5=>((IB ([1,2])).bind fun x6=>((IB ([1,2,3])).bind fun x7=>((BB x5 43 x6 x7).bind fun x8=>(Option.bind ((if x4.2=0 then ((IB ([11,12])).bind fun x10=>((HT x4.1 x10).bind fun x11=>(if x11=true then (some (decide (x8.2=5))) else (some false)))) else (some false)) : Option (Bool)) fun (z9 : Bool)=>(some (z9)))))))))))
theorem IL {r : Bool} (h : FU=some r) :
  Fn Tryz.prog 17 [] (.d (.b r)):=by
 unfold FU at h
 refine Fn.o1 0 34 Tryz.func17 ?_;refine .sr ?_;refine ar [0] ?_;refine .sr ?_
 obtain ⟨x1,hx1,h⟩:=bnd h
 refine vk (Ad (CG hx1) Tryz.call16) ?_;refine vk ((Ev (Gj [1,2]) HV).deep) ?_
 obtain ⟨x2,hx2,h⟩:=bnd h
 refine vk (Ad (GK hx2) Tryz.call30) ?_
 obtain ⟨x3,hx3,h⟩:=bnd h
 refine vk (Ad (Lr hx3) Tryz.call26) ?_
 obtain ⟨x4,hx4,h⟩:=bnd h
 refine vk (VOK.tupd (vs:=[.ag [.sl (Is x4.1.shape),.sl (Its x4.1.items)],.i .i64 x4.2]) (Ad (CD hx4) Tryz.call15)) ?_;refine vk (Aa) ?_;refine vk (vex) ?_;refine vk (vex) ?_;refine vk (van (Ah AU) A7) ?_
 refine stn ?_ Ag (by decide)
 refine ar [0,1,2] ?_;refine .sr ?_
 obtain ⟨x5,hx5,h⟩:=bnd h
 refine vk (Ad (CG hx5) Tryz.call16) ?_;refine vk ((Ev (Gj [1,2]) HV).deep) ?_
 obtain ⟨x6,hx6,h⟩:=bnd h
 refine vk (Ad (GK hx6) Tryz.call30) ?_;refine vk ((Ev (Gj [1,2,3]) HV).deep) ?_
 obtain ⟨x7,hx7,h⟩:=bnd h
 refine vk (Ad (GK hx7) Tryz.call30) ?_
 obtain ⟨x8,hx8,h⟩:=bnd h
 refine vk (VOK.tupd (vs:=[.ag [.sl (Is x8.1.shape),.sl (Its x8.1.items)],.i .i64 x8.2]) (Ad (CD hx8) Tryz.call15)) ?_;refine vk (Aa) ?_;refine vk (vex) ?_;refine vk (vex) ?_;refine vk (van (Ah AU) A7) ?_
 refine stn ?_ Ag (by decide)
 refine ar [0,1,2,4] ?_;refine .seq ?_
 obtain ⟨z9,hz,h⟩:=bnd h
 refine AW.mr (σ:=Unit) (fun _=>True) (fun _=>[(0,.d (.b z9))]) (fun _=>[]) ?_ ?_
 ·skip
  refine .drawn 12 Ba (by kernel_rfl) ?_;refine dv (Aa) ?_;refine dv (vbi) ?_
  by_cases hc:x4.2=0
  ·replace hz:=Aj hc hz
   have hb0:(decide (x4.2=0))=true:=(dT hc)
   refine dv (VOK.lit (Aa) hb0) ?_;refine dv (C8 As Ag) ?_;refine dv ((Ev (Gj [11,12]) HV).deep) ?_
   obtain ⟨x10,hx10,hz⟩:=bnd hz
   refine dv (Ad (GK hx10) Tryz.call30) ?_
   obtain ⟨x11,hx11,hz⟩:=bnd hz
   refine dv (Ad (LX hx11) Tryz.call14) ?_;refine dv (Am) ?_
   by_cases hc:x11=true
   ·replace hz:=Aj hc hz
    have hb1:x11=true:=hc
    refine dv (VOK.lit (Aa) hb1) ?_;refine dv (Aa) ?_;refine dv (vbi) ?_;refine dv (Am) ?_;refine dz ?_;refine asd ?_;refine RL.gk [0] ?_;refine .nil ?_
    cases hz
    exact jr () trivial
   replace hz:=Ai hc hz
   have hb1:x11=false:=(bf hc)
   refine dv (VOK.lit (Aa) hb1) ?_;refine dgf ?_;refine dgf ?_;refine dv (Am) ?_;refine dz ?_;refine asd ?_;refine RL.gk [0] ?_;refine .nil ?_
   cases hz
   exact jr () trivial
  replace hz:=Ai hc hz
  have hb0:(decide (x4.2=0))=false:=(dF hc)
  refine dv (VOK.lit (Aa) hb0) ?_;refine dgf ?_;refine dgf ?_;refine dgf ?_;refine dgf ?_;refine dv (Am) ?_;refine dv (Aa) ?_;refine dgf ?_;refine dgf ?_;refine dv (Am) ?_;refine dz ?_;refine asd ?_;refine RL.gk [0] ?_;refine .nil ?_
  cases hz
  exact jr () trivial
 rintro _ _
 refine .ret ?_
 cases h
 exact ⟨rfl,rfl⟩
def MW (a0 : Bool) : Option (Int):=(if a0=true then (some (1)) else (some (0)))
theorem Ro {a0 : Bool} {r : Int} (h : MW a0=some r) :
  Fn Tryz.prog 29 [.b a0] (.d (.i .i64 r)):=by
 unfold MW at h
 refine Fn.o1 2 4 Tryz.func29 ?_;refine .sr ?_;refine ar [0,2] ?_;refine .seq ?_;refine .sr ?_;refine vk (Aa) ?_;refine rk [2,3] ?_
 by_cases hc:a0=true
 ·replace h:=Aj hc h
  refine cnt hc ?_;refine .sr ?_;refine ar [2] ?_;refine .ret ?_
  cases h
  exact ⟨rfl,rfl⟩
 replace h:=Ai hc h
 refine cnf (bf hc) ?_;refine .skip ?_
 show AW _ _ _ _ _ _
 refine .sr ?_;refine ar [2] ?_;refine .ret ?_
 cases h
 exact ⟨rfl,rfl⟩
theorem Tf : FU=some true:=by kernel_rfl
theorem Ji {α β : Type} {y : α} {a : β} {f : α→β} : SJ (some y) a f=f y:=rfl
theorem zq5 : ofQ (0 : Rat)=(false,[],[1]):=by kernel_rfl
theorem X6 : CS=some (1,(false,[],[1]),0):=by kernel_rfl
theorem NO : Dx (false,[],[1])=some true:=by kernel_rfl
theorem U4 : CZ (0 : Rat):=F8 (z:=0) Fk
theorem Mz {e : Int × RT × Int} {g : Int} {w : AA} (ht : Fe MU g=some w) {f : Bool→Bool} (hf : ∀ a,w.g (Gt a)=some (Gt (f a),0)) {l : List Bool} (h : l.length≤4096) : C2 e g (Mp l)=some (Mp (l.map f),0):=by
 obtain ⟨hr,ho⟩:=Lw h
 unfold C2
 rw [ht,Ji,GX ho,oB,if_pos (dT hr),ZL hf h]
 rfl
theorem Qf {g : Int} {w : Ac} (ht : Fe (HU (false,[],[1])) g=some w) {f : Bool→Bool→Bool} (hf : ∀ a b,w.g (Gt a,Gt b)=some (Gt (f a b),0)) {l m : List Bool} (hlm : l.length=m.length) (h : l.length≤4096) : BB (1,(false,[],[1]),0) g (Mp l) (Mp m)=some (Mp (List.zipWith f l m),0):=by
 obtain ⟨hr,ho⟩:=Lw h
 obtain ⟨hr2,ho2⟩:=Lw (l:=m) (by omega)
 have e:Eu (1,(false,[],[1]),0) g (Mp l) (Mp m)=some ((some w,g),0):=by
  unfold Eu
  rw [show Fe (HU ((1,(false,[],[1]),0):Int × RT × Int).2.1) g=some w from ht,Ji,show Dx ((1,(false,[],[1]),0):Int × RT × Int).2.1=some true from NO,oB,if_pos rfl,GX ho,oB,if_pos (dT hr),GX ho2,oB,dT hr2]
  rfl
 unfold BB
 rw [e,oB,if_pos rfl,Ji,ZE (p:=(w,g)) hf hlm h]
 rfl
def Ej : List (Itm × Int)→Int
 | []=>0
 | r::rs=>if r.2=0 then Ej rs else r.2
theorem HW : ∀ {rs : List (Itm × Int)},Ej rs=0→∀ r ∈ rs,r.2=0
 | [],_,_,h=>by cases h
 | r::rs,h,x,hx=>by
  rw [Ej] at h
  by_cases h0:r.2=0
  ·rw [if_pos h0] at h
   rcases List.mem_cons.1 hx with rfl | hx
   ·exact h0
   ·exact HW h x hx
  ·rw [if_neg h0] at h;exact absurd h h0
theorem ME : ∀ {rs : List (Itm × Int)},Ej rs ≠ 0→∃ xs b ys,rs=xs++b::ys∧(∀ r ∈ xs,r.2=0)∧b.2=Ej rs
 | [],h=>absurd rfl h
 | r::rs,h=>by
  rw [Ej] at h
  by_cases h0:r.2=0
  ·rw [if_pos h0] at h
   obtain ⟨xs,b,ys,h1,h2,h3⟩:=ME h
   refine ⟨r::xs,b,ys,by rw [h1];rfl,?_,by rw [Ej,if_pos h0,h3]⟩
   intro x hx
   rcases List.mem_cons.1 hx with rfl | hx
   ·exact h0
   ·exact h2 x hx
  ·exact ⟨[],r,rs,rfl,by simp,by rw [Ej,if_neg h0]⟩
theorem TY {s : List Int} {F : Az} {rs : List (Itm × Int)} (hsl : s.length≤17592186044416) (hs : szP s=(((rs.length : Nat) : Int),0)) (hF : ∀ (i : Nat) (h : i<rs.length),F.g (i : Int)=some rs[i]) :
  AM s F=if Ej rs=0 then BQ s ((if rs.length=0 then [DM 0] else [])++rs.map (·.1)) else some (.mk [] [],Ej rs):=by
 by_cases h:Ej rs=0
 ·rw [if_pos h]
  have hz:=HW h
  have:=OI (s:=s) (F:=F) (xs:=rs.map (·.1)) hsl (by rw [List.length_map];exact hs) (fun i hi=>by
   rw [List.length_map] at hi
   rw [hF i hi,List.getElem_map,← hz rs[i] (List.getElem_mem hi)])
  rw [this,List.length_map]
 ·rw [if_neg h]
  obtain ⟨xs,b,ys,h1,h2,h3⟩:=ME h
  have hlen:rs.length=xs.length+(ys.length+1):=by rw [h1];simp
  rw [← h3] at h ⊢
  refine TP (xs:=xs.map (·.1)) (y:=b.1) hsl hs (by rw [List.length_map];omega) (fun i hi=>?_) h ?_
  ·rw [List.length_map] at hi
   have e:rs[i]'(by omega)=xs[i]:=by simp [h1,List.getElem_append_left hi]
   rw [hF i (by omega),e,List.getElem_map,← h2 xs[i] (List.getElem_mem hi)]
  ·rw [List.length_map,hF xs.length (by omega)]
   have e:rs[xs.length]'(by omega)=b:=by simp [h1]
   rw [e]
def Fd (F : Az) (n : Nat) : List (Itm × Int):=(List.range n).map fun i=>(F.g ((i : Nat) : Int)).getD default
theorem Co (F : Az) (n : Nat) : (Fd F n).length=n:=by simp [Fd]
theorem I7 {s : List Int} {F : Az} {n : Nat} (hsl : s.length≤17592186044416) (hs : szP s=((n : Int),0)) (hF : ∀ i,i<n→∃ r,F.g ((i : Nat) : Int)=some r) :
  AM s F=if Ej (Fd F n)=0 then BQ s ((if n=0 then [DM 0] else [])++(Fd F n).map (·.1)) else some (.mk [] [],Ej (Fd F n)):=by
 have:=TY (s:=s) (F:=F) (rs:=Fd F n) hsl (by rw [Co];exact hs) (fun i hi=>by
  rw [Co] at hi
  obtain ⟨r,hr⟩:=hF i hi
  have e:(Fd F n)[i]'(by rw [Co];exact hi)=(F.g ((i:Nat):Int)).getD default:=by simp [Fd]
  rw [e,hr];rfl)
 rw [Co] at this
 exact this
theorem SN {F G : Az} {n : Nat} (h : ∀ i,i<n→F.g ((i : Nat) : Int)=G.g ((i : Nat) : Int)) : Fd F n=Fd G n:=by
 unfold Fd
 refine List.map_congr_left fun i hi=>?_
 rw [h i (List.mem_range.1 hi)]
theorem MC {s : List Int} {F G : Az} {n : Nat} (hsl : s.length≤17592186044416) (hs : szP s=((n : Int),0)) (hG : ∀ i,i<n→∃ r,G.g ((i : Nat) : Int)=some r) (h : ∀ i,i<n→F.g ((i : Nat) : Int)=G.g ((i : Nat) : Int)) :
  AM s F=AM s G:=by
 rw [I7 hsl hs hG,I7 hsl hs (fun i hi=>by rw [h i hi];exact hG i hi),SN h]
def Tot (m : Option (Arr × Int)) (s : List Int) : Prop:=∃ r e,m=some (r,e)∧(e=0→okAr r∧A0 r∧r.shape=s)∧(e ≠ 0→r=.mk [] [])
theorem DC {a : Arr} (oa : okAr a) (h : A0 a) {x : Itm} (hx : x ∈ a.items) : okI x∧Bl x:=by
 have o:=(Bm a).1 oa
 obtain ⟨h1,h2,h3⟩:=h
 have hr:=(M7 h1).2.2
 refine ⟨o.2.2.2 x hx,hr x hx,?_,?_⟩
 ·have hd:∀ {xs:List Itm},x ∈ xs→dI x≤dIs xs:=by
   intro xs
   induction xs with
   | nil=>intro h;cases h
   | cons y ys ih =>
    intro h
    rw [dIs]
    rcases List.mem_cons.1 h with rfl | h
    ·omega
    ·have:=ih h;omega
  have hdx:=hd hx
  rw [Mv] at h2
  by_cases hs:AT a=true
  ·have:=(P9 hs (Gx.2 hr)).1
   omega
  ·rw [if_neg hs] at h2;omega
 ·have hc:∀ {xs:List Itm},x ∈ xs→cI x≤cIs xs:=by
   intro xs
   induction xs with
   | nil=>intro h;cases h
   | cons y ys ih =>
    intro h
    rw [cIs]
    rcases List.mem_cons.1 h with rfl | h
    ·omega
    ·have:=ih h;omega
  have hcx:=hc hx
  rw [KQ] at h3
  omega
theorem Up {s : List Int} {xs : List Itm} (hne : xs ≠ []) (hx : ∀ x ∈ xs,okI x∧Bl x) : ∀ x ∈ BX (szP s).1 xs,okI x:=by
 intro x hx'
 unfold BX at hx'
 split at hx'
 ·rw [List.mem_singleton] at hx'
  obtain ⟨y,ys,rfl⟩:=List.exists_cons_of_ne_nil hne
  obtain ⟨o,r⟩:=hx y (by simp)
  subst hx'
  exact (U5 o r.1).2.2.2.2.2
 ·exact (hx x (SF hne hx')).1
theorem SI {s : List Int} {xs : List Itm} : (BX (szP s).1 xs).length≤4096:=by
 have:=IA s
 unfold BX
 split
 ·simp
 ·rw [Gn];omega
theorem Tv {s : List Int} {xs : List Itm} (hs : ∀ z ∈ s,-9223372036854775808≤z∧z≤9223372036854775807) (hl : s.length≤17592186044416) (hxl : xs.length≤1466015503701) (hne : xs ≠ []) (hx : ∀ x ∈ xs,okI x∧Bl x) : Tot (BQ s xs) s:=by
 rw [Qa hs hl hxl fun x h=>(hx x h).1]
 by_cases h0:(szP s).2 ≠ 0
 ·rw [if_pos h0];exact ⟨_,_,rfl,fun h=>absurd h h0,fun _=>rfl⟩
 rw [if_neg h0,if_neg (fun h=>h.elim hne fun h=>h fun x hx'=>(hx x hx').2)]
 by_cases hR:A0 (.mk s (BX (szP s).1 xs))
 ·rw [if_pos hR]
  refine ⟨_,_,rfl,fun _=>⟨?_,hR,rfl⟩,fun h=>absurd rfl h⟩
  rw [Bm]
  exact ⟨hs,hl,by have:=SI (s:=s) (xs:=xs);show (BX (szP s).1 xs).length≤_;omega,Up hne hx⟩
 ·rw [if_neg hR]
  exact ⟨_,_,rfl,fun h=>absurd h (by decide),fun _=>rfl⟩
theorem Oj : okI (DM 0)∧Bl (DM 0):=by
 refine ⟨SG Fk,Lb Fk,?_,?_⟩
 ·rw [Ml];show dBs []≤16;simp [dBs]
 ·rw [KM];show cBs []≤16384;simp [cBs]
theorem R5 {s : List Int} {F : Az} {n : Nat} (hs64 : ∀ z ∈ s,-9223372036854775808≤z∧z≤9223372036854775807) (hsl : s.length≤17592186044416) (hs : szP s=((n : Int),0))
  (hF:∀ i,i<n→∃ x e,F.g ((i:Nat):Int)=some (x,e)∧(e=0→okI x∧Bl x)):Tot (AM s F) s:=by
 have hn:=IA s
 rw [hs] at hn
 rw [I7 hsl hs (fun i hi=>by obtain ⟨x,e,h,_⟩:=hF i hi;exact ⟨_,h⟩)]
 by_cases h:Ej (Fd F n)=0
 ·rw [if_pos h]
  refine Tv hs64 hsl ?_ ?_ ?_
  ·rw [List.length_append,List.length_map,Co];split <;> simp <;> omega
  ·intro q
   have:=congrArg List.length q
   rw [List.length_append,List.length_map,Co] at this
   split at this
   ·simp at this
   ·simp only [List.length_nil] at this;omega
  ·intro x hx
   rcases List.mem_append.1 hx with hx | hx
   ·split at hx
    ·rw [List.mem_singleton] at hx;subst hx;exact Oj
    ·cases hx
   ·obtain ⟨r,hr,rfl⟩:=List.mem_map.1 hx
    have h0:=HW h r hr
    obtain ⟨i,hi,rfl⟩:=List.mem_map.1 hr
    obtain ⟨x,e,h1,h2⟩:=hF i (List.mem_range.1 hi)
    rw [h1] at h0 ⊢
    exact h2 h0
 ·rw [if_neg h]
  exact ⟨_,_,rfl,fun q=>absurd q h,fun _=>rfl⟩
theorem PT : Bx (.mk [] [])=some (.mk 0 (false,[],[]) 0 []):=by kernel_rfl
theorem Oh {a : Arr} (h : A0 a) (hs : AT a=false) : Bl (.mk 3 (false,[],[]) 0 [a]):=by
 have e1:dI (.mk 3 (false,[],[]) 0 [a])=dA a:=by simp [dI,dBs]
 have e2:cI (.mk 3 (false,[],[]) 0 [a])=cA a:=by simp [cI,cBs]
 exact ⟨U3 h.1 hs,by rw [e1];exact h.2.1,by rw [e2];exact h.2.2⟩
theorem P8 {a : Arr} (oa : okAr a) (h : A0 a) : ∃ x,Bx a=some x∧okI x∧Bl x:=by
 rw [LN oa h]
 refine ⟨_,rfl,?_⟩
 by_cases hs:AT a=true
 ·rw [if_pos hs]
  obtain ⟨x,rfl,hk⟩:=JC hs
  exact DC oa h (by show x ∈ [x];simp)
 ·rw [if_neg hs]
  exact ⟨OL oa,Oh h (by simpa using hs)⟩
theorem QU {m : Option (Arr × Int)} {s : List Int} (h : Tot m s) : ∃ x e,(m.bind fun r=>(Bx r.1).bind fun y=>some (y,r.2))=some (x,e)∧(e=0→okI x∧Bl x):=by
 obtain ⟨r,e,rfl,h1,h2⟩:=h
 rw [oB]
 by_cases h0:e=0
 ·obtain ⟨o,hr,_⟩:=h1 h0
  obtain ⟨x,hx,h3⟩:=P8 o hr
  exact ⟨x,e,by rw [hx];rfl,fun _=>h3⟩
 ·rw [h2 h0]
  exact ⟨_,e,by rw [PT];rfl,fun q=>absurd q h0⟩
def OF (rc : AA→Arr→Option (Arr × Int)) (f : AA) (x : Itm) : Option (Itm × Int) :=
 if x.kind=1 then (f.g x.num).bind fun r=>some (.mk 1 r.1 0 [],r.2) else if x.kind=3 then (rd? x.box 0).bind fun b=>(rc f b).bind fun r=>(Bx r.1).bind fun y=>some (y,r.2) else some (.mk 0 (false,[],[]) 0 [],3)
theorem HL {rc : AA→Arr→Option (Arr × Int)} {f : AA} {a : Arr} {i : Nat} {x : Itm} (ha : a.items[i]?=some x) : E8 rc (i : Int) a f=OF rc f x:=by
 unfold E8 OF
 rw [Rn ha,oB]
 rfl
def YY (f : AA) : Prop:=∀ x,AQ x=true→∃ y e,f.g x=some (y,e)∧(e=0→AQ y=true)
theorem KP {r : RT} (h : AQ r=true) : okI (.mk 1 r 0 [])∧Bl (.mk 1 r 0 []):=by
 refine ⟨ON (Ur h),RG h,?_,?_⟩
 ·rw [Ml];show dBs []≤16;simp [dBs]
 ·rw [KM];show cBs []≤16384;simp [cBs]
theorem Rk {a : Arr} {x : Itm} {b : Arr} (hx : x ∈ a.items) (hb : b ∈ x.box) : b.size<a.size:=Nat.lt_trans (Gg hb) (Ga hx)
theorem X8 {rc : AA→Arr→Option (Arr × Int)} {f : AA} (hf : YY f) {x : Itm} (hx : okI x∧Bl x) (hrc : ∀ b ∈ x.box,okAr b→A0 b→Tot (rc f b) b.shape) : ∃ y e,OF rc f x=some (y,e)∧(e=0→okI y∧Bl y):=by
 unfold OF
 rcases Ei hx.2.1 with ⟨k,h,_,_⟩ | ⟨k,_⟩ | ⟨k,_,_,b,hb,_⟩
 ·rw [if_pos k]
  obtain ⟨y,e,h1,h2⟩:=hf _ h
  exact ⟨_,e,by rw [h1];rfl,fun q=>KP (h2 q)⟩
 ·rw [if_neg (by rw [k];decide),if_neg (by rw [k];decide)]
  exact ⟨_,_,rfl,fun q=>absurd q (by decide)⟩
 ·rw [if_neg (by rw [k];decide),if_pos k,hb,NY,oB]
  obtain ⟨ob,rb,_⟩:=IG hx.1 hx.2 b (by simp [hb])
  exact QU (hrc b (by simp [hb]) ob rb)
theorem Jk {a : Arr} (h : A0 a) : ∃ n : Nat,szP a.shape=((n : Int),0)∧a.items.length=if n=0 then 1 else n:=by
 obtain ⟨h1,h2,_⟩:=M7 h.1
 have:=IA a.shape
 refine ⟨(szP a.shape).1.toNat,?_,?_⟩
 ·rw [← h1,Int.toNat_of_nonneg this.1]
 ·split at h2 <;> split <;> omega
theorem J0 {rc : AA→Arr→Option (Arr × Int)} {f : AA} {a : Arr} : KS rc f a=AM a.shape (⟨.fn 93 [] [.ptr [.sl (Is a.shape),.sl (Its a.items)],.ptr [f.dv]],fun x=>E8 rc x a f⟩ : Az):=by
 unfold KS
 generalize AM _ _=m
 cases m <;> rfl
theorem Vq {f : AA} (hf : YY f) : ∀ (k : Nat) {a : Arr},a.size<k→okAr a→A0 a→Tot (BZ k f a) a.shape
 | 0,_,h,_,_=>by omega
 | k+1,a,h,oa,ra=>by
  have o:=(Bm a).1 oa
  obtain ⟨n,hn,hl⟩:=Jk ra
  rw [BZ,J0]
  refine R5 o.1 o.2.1 hn fun i hi=>?_
  have hi':i<a.items.length:=by rw [hl];split <;> omega
  have hx:=DC oa ra (List.getElem_mem hi')
  obtain ⟨y,e,h1,h2⟩:=X8 (rc:=BZ k) hf hx fun b hb ob rb=>Vq hf k (by have:=Rk (List.getElem_mem hi') hb;omega) ob rb
  exact ⟨y,e,by rw [← h1];exact HL (List.getElem?_eq_getElem hi'),h2⟩
def Yg (f : Ac) : Prop:=∀ x y,AQ x=true→AQ y=true→∃ z e,f.g (x,y)=some (z,e)∧(e=0→AQ z=true)
theorem Le {rc : (Ac × Int)→Arr→Arr→Option (Arr × Int)} {p : Ac × Int} {a b : Arr} (ha : a.shape.length≤17592186044416) (hb : b.shape.length≤17592186044416) : Ik rc p a b =
  if (Iq a.shape b.shape).2=0 then AM (Iq a.shape b.shape).1 (⟨.fn 115 [] [.ptr [p.1.dv,.i .i32 p.2],.ptr [.sl (Is a.shape),.sl (Its a.items)],.ptr [.sl (Is b.shape),.sl (Its b.items)]],fun x=>Hu rc x p a b⟩:Az) else some (.mk [] [],(Iq a.shape b.shape).2):=by
 unfold Ik
 rw [NP ha hb,oB]
 by_cases h:(Iq a.shape b.shape).2=0
 ·rw [if_pos h,if_pos h]
  generalize AM _ _=m
  cases m <;> rfl
 ·rw [if_neg h,if_neg h]
theorem LY {s t : List Int} (h : (Iq s t).2=0) : (Iq s t).1=s∨(Iq s t).1=t:=by
 unfold Iq at h ⊢
 split
 ·exact .inl rfl
 ·split
  ·exact .inr rfl
  ·split
   ·exact .inl rfl
   ·rename_i h1 h2 h3
    rw [if_neg h1,if_neg h2,if_neg h3] at h
    split at h <;> exact absurd h (by decide)
theorem X4 (s : List Int) : Iq s []=(s,0):=by
 unfold Iq
 by_cases h:s=[]
 ·rw [if_pos h]
 ·rw [if_neg h,if_neg,if_pos (by rfl)]
  rintro ⟨_,h2 | h2⟩
  ·exact h2 rfl
  ·simp at h2
def Hl (x : Itm) : Arr:=if x.kind=3 then x.box.headD default else .mk [] [x]
theorem Yo {x : Itm} (h : rI x=true) (k : x.kind ≠ 3) : x.box=[]:=by
 rcases Ei h with ⟨_,_,_,q⟩ | ⟨_,_,_,q⟩ | ⟨q,_⟩
 ·exact q
 ·exact q
 ·exact absurd q k
theorem C9 {x : Itm} (hx : okI x∧Bl x) : Ex x=some (Hl x)∧okAr (Hl x)∧A0 (Hl x):=by
 refine ⟨Yn hx.1 hx.2,?_⟩
 unfold Hl
 by_cases k:x.kind=3
 ·rw [if_pos k]
  rcases Ei hx.2.1 with ⟨q,_⟩ | ⟨q,_⟩ | ⟨_,_,_,b,hb,_⟩
  ·omega
  ·omega
  ·obtain ⟨ob,rb,_⟩:=IG hx.1 hx.2 b (by simp [hb])
   rw [hb];exact ⟨ob,rb⟩
 ·rw [if_neg k]
  exact ⟨Zk hx.1,(Rf hx.2.1 (Yo hx.2.1 k) k).1⟩
theorem Aat (a : Arr) : a.size=itsSize a.items+1:=by cases a;simp only [Arr.size,Arr.items]
theorem OE {x : Itm} (h : rI x=true) : (Hl x).size≤x.size+1∧(x.kind=3→(Hl x).size<x.size):=by
 unfold Hl
 by_cases k:x.kind=3
 ·rw [if_pos k]
  rcases Ei h with ⟨q,_⟩ | ⟨q,_⟩ | ⟨_,_,_,b,hb,_⟩
  ·omega
  ·omega
  ·have:=Gg (x:=x) (a:=b) (by simp [hb])
   rw [hb];exact ⟨by show b.size≤_;omega,fun _=>this⟩
 ·rw [if_neg k]
  refine ⟨?_,fun q=>absurd q k⟩
  rw [Aat]
  show itsSize [x]+1≤_
  simp only [itsSize]
  omega
theorem My {rc : (Ac × Int)→Arr→Arr→Option (Arr × Int)} {p : Ac × Int} {x y : Itm} (hx : okI x∧Bl x) (hy : okI y∧Bl y) (h : x.kind=3∨y.kind=3) : Dd rc p x y=(rc p (Hl x) (Hl y)).bind fun r=>(Bx r.1).bind fun z=>some (z,r.2):=by
 unfold Dd
 rw [if_pos (by simpa using h),(C9 hx).1,oB,(C9 hy).1,oB]
theorem Mx {rc : (Ac × Int)→Arr→Arr→Option (Arr × Int)} {p : Ac × Int} {x y : Itm} (hx : x.kind=1) (hy : y.kind=1) : Dd rc p x y=(p.1.g (x.num,y.num)).bind fun r=>some (.mk 1 r.1 0 [],r.2):=by
 unfold Dd
 rw [if_neg (by rw [hx,hy];decide),if_pos (by rw [hx,hy];decide)]
 rfl
theorem MO {rc : (Ac × Int)→Arr→Arr→Option (Arr × Int)} {p : Ac × Int} {x y : Itm} (hx : x.kind ≠ 3) (hy : y.kind ≠ 3) (h : ¬ (x.kind=1∧y.kind=1)) : Dd rc p x y=if p.2=61∨p.2=8800 then (CF ((decide (x.kind=y.kind) && decide (x.char=y.char)) == decide (p.2=61))).bind fun r=>some (.mk 1 r 0 [],0) else some (.mk 0 (false,[],[]) 0 [],3):=by
 unfold Dd
 rw [if_neg (by simp [hx,hy]),if_neg (by simpa using h)]
 by_cases q:p.2=61∨p.2=8800
 ·rw [if_pos q,if_pos (by simpa using q)];rfl
 ·rw [if_neg q,if_neg (by simpa using q)]
theorem Ps (b : Bool) : ∃ r,CF b=some r∧AQ r=true:=by
 cases b
 ·exact ⟨ofQ ((0:Int):Rat),by unfold CF;rw [if_neg (by decide),Kw (by omega) (by omega)];rfl,CO (F8 Fk)⟩
 ·exact ⟨ofQ ((1:Int):Rat),by unfold CF;rw [if_pos rfl,Kw (by omega) (by omega)];rfl,CO (F8 (z:=1) (by unfold Lf;omega))⟩
theorem Vg {rc : (Ac × Int)→Arr→Arr→Option (Arr × Int)} {p : Ac × Int} (hp : Yg p.1) {x y : Itm} (hx : okI x∧Bl x) (hy : okI y∧Bl y) (hrc : x.kind=3∨y.kind=3→∃ s,Tot (rc p (Hl x) (Hl y)) s) : ∃ z e,Dd rc p x y=some (z,e)∧(e=0→okI z∧Bl z):=by
 by_cases h:x.kind=3∨y.kind=3
 ·rw [My hx hy h]
  obtain ⟨s,hs⟩:=hrc h
  exact QU hs
 ·have hx3:x.kind ≠ 3:=fun q=>h (.inl q)
  have hy3:y.kind ≠ 3:=fun q=>h (.inr q)
  by_cases h1:x.kind=1∧y.kind=1
  ·rw [Mx h1.1 h1.2]
   have nx:AQ x.num=true:=by
    rcases Ei hx.2.1 with ⟨_,q,_⟩ | ⟨q,_⟩ | ⟨q,_⟩
    ·exact q
    ·omega
    ·omega
   have ny:AQ y.num=true:=by
    rcases Ei hy.2.1 with ⟨_,q,_⟩ | ⟨q,_⟩ | ⟨q,_⟩
    ·exact q
    ·omega
    ·omega
   obtain ⟨z,e,h2,h3⟩:=hp _ _ nx ny
   exact ⟨_,e,by rw [h2];rfl,fun q=>KP (h3 q)⟩
  ·rw [MO hx3 hy3 h1]
   split
   ·obtain ⟨r,h2,h3⟩:=Ps ((decide (x.kind=y.kind) && decide (x.char=y.char)) == decide (p.2=61))
    rw [h2]
    exact ⟨_,_,rfl,fun _=>KP h3⟩
   ·exact ⟨_,_,rfl,fun q=>absurd q (by decide)⟩
theorem P2 {a : Arr} (h : A0 a) : 0<a.items.length:=by
 obtain ⟨n,_,hl⟩:=Jk h
 rw [hl];split <;> omega
theorem VG {p : Ac × Int} (hp : Yg p.1) : ∀ (k : Nat) {a b : Arr},a.size+b.size<k→okAr a→A0 a→okAr b→A0 b→Tot (Dz k p a b) (Iq a.shape b.shape).1
 | 0,_,_,h,_,_,_,_=>by omega
 | k+1,a,b,h,oa,ra,ob,rb=>by
  have o:=(Bm a).1 oa
  have o2:=(Bm b).1 ob
  rw [Dz,Le o.2.1 o2.2.1]
  by_cases h0:(Iq a.shape b.shape).2=0
  ·rw [if_pos h0]
   obtain ⟨n,hn⟩:∃ n:Nat,szP (Iq a.shape b.shape).1=((n:Int),0):=by
    rcases LY h0 with q | q <;> rw [q]
    ·obtain ⟨n,hn,_⟩:=Jk ra;exact ⟨n,hn⟩
    ·obtain ⟨n,hn,_⟩:=Jk rb;exact ⟨n,hn⟩
   have hs64:∀ z ∈ (Iq a.shape b.shape).1,-9223372036854775808≤z∧z≤9223372036854775807:=by
    rcases LY h0 with q | q <;> rw [q]
    ·exact o.1
    ·exact o2.1
   have hsl:(Iq a.shape b.shape).1.length≤17592186044416:=by
    rcases LY h0 with q | q <;> rw [q]
    ·exact o.2.1
    ·exact o2.2.1
   refine R5 hs64 hsl hn fun i hi=>?_
   have la:=Nat.mod_lt i (P2 ra)
   have lb:=Nat.mod_lt i (P2 rb)
   have hx:=DC oa ra (List.getElem_mem la)
   have hy:=DC ob rb (List.getElem_mem lb)
   have sx:=Ga (List.getElem_mem la)
   have sy:=Ga (List.getElem_mem lb)
   obtain ⟨px,qx⟩:=OE hx.2.1
   obtain ⟨py,qy⟩:=OE hy.2.1
   obtain ⟨z,e,h1,h2⟩:=Vg (rc:=Dz k) hp hx hy fun hb=>⟨_,VG hp k (by
    rcases hb with hb | hb
    ·have:=qx hb;omega
    ·have:=qy hb;omega) (C9 hx).2.1 (C9 hx).2.2 (C9 hy).2.1 (C9 hy).2.2⟩
   exact ⟨z,e,by rw [← h1];exact H6 (List.getElem?_eq_getElem la) (List.getElem?_eq_getElem lb),h2⟩
  ·rw [if_neg h0]
   exact ⟨_,_,rfl,fun q=>absurd q h0,fun _=>rfl⟩
theorem Vb (c : Int) : Hl (DM c)=.mk [] [DM c]:=rfl
theorem WN (c : Int) : (DM c).kind=1:=rfl
theorem Va {x : Itm} (h : rI x=true) (k : x.kind=1) : AQ x.num=true:=by
 rcases Ei h with ⟨_,q,_⟩ | ⟨q,_⟩ | ⟨q,_⟩
 ·exact q
 ·omega
 ·omega
theorem Vm {x : Itm} {b : Arr} (k : x.kind=3) (h : x.box=[b]) : Hl x=b:=by
 unfold Hl;rw [if_pos k,h];rfl
theorem ZQ {p : Ac × Int} {f : AA} {c : Int} (hc : Lf c) (hf : YY f) (hp : ∀ x,AQ x=true→p.1.g (x,(DM c).num)=f.g x) (h1 : p.2 ≠ 61) (h2 : p.2 ≠ 8800) : ∀ (k k' : Nat) {a : Arr},a.size<k→a.size<k'→okAr a→A0 a→Dz k p a (.mk [] [DM c])=BZ k' f a
 | 0,_,_,h,_,_,_=>by omega
 | k+1,0,_,_,h,_,_=>by omega
 | k+1,k'+1,a,h,h',oa,ra=>by
  have o:=(Bm a).1 oa
  obtain ⟨n,hn,hl⟩:=Jk ra
  have hc1:okI (DM c)∧Bl (DM c):=KP (CO (F8 hc))
  rw [Dz,Le o.2.1 (by simp [Gk]),Gk,X4,if_pos rfl,BZ,J0]
  refine MC o.2.1 hn (fun i hi=>?_) (fun i hi=>?_)
  ·have hi':i<a.items.length:=by rw [hl];split <;> omega
   obtain ⟨y,e,q,_⟩:=X8 (rc:=BZ k') hf (DC oa ra (List.getElem_mem hi')) fun b hb ob rb=>Vq hf k' (by have:=Rk (List.getElem_mem hi') hb;omega) ob rb
   exact ⟨(y,e),by rw [← q];exact HL (List.getElem?_eq_getElem hi')⟩
  ·have hi':i<a.items.length:=by rw [hl];split <;> omega
   have hx:=DC oa ra (List.getElem_mem hi')
   refine (H6 (a:=a) (b:=.mk [] [DM c]) (x:=a.items[i]) (y:=DM c) (by rw [Nat.mod_eq_of_lt hi'];exact List.getElem?_eq_getElem hi') (by show [DM c][i % 1]?=_;rw [Nat.mod_one];rfl)).trans (Eq.trans ?_ (HL (List.getElem?_eq_getElem hi')).symm)
   have hsz:=Ga (List.getElem_mem hi')
   revert hx hsz
   generalize a.items[i]=x
   intro hx hsz
   unfold OF
   rcases Ei hx.2.1 with ⟨q,hr,_,_⟩ | ⟨q,_⟩ | ⟨q,_,_,b,hb,_⟩
   ·rw [if_pos q,Mx q (WN c),hp _ hr]
   ·rw [if_neg (by rw [q];decide),if_neg (by rw [q];decide),MO (by rw [q];decide) (by rw [WN];decide) (by rw [q];rintro ⟨w,_⟩;exact absurd w (by decide)),if_neg (fun w=>w.elim h1 h2)]
   ·rw [if_neg (by rw [q];decide),if_pos q,My hx hc1 (.inl q),Vb,Vm q hb,hb,NY,oB]
    obtain ⟨ob,rb,_⟩:=IG hx.1 hx.2 b (by simp [hb])
    have:=Gg (x:=x) (a:=b) (by simp [hb])
    rw [ZQ hc hf hp h1 h2 k k' (by omega) (by omega) ob rb]
theorem OH {g : Int} {w : Ac} (ht : Fe (HU (false,[],[1])) g=some w) {a b : Arr} (oa : okAr a) (ob : okAr b) : BB (1,(false,[],[1]),0) g a b=if A0 a∧A0 b then G9 (w,g) a b else some (.mk [] [],22):=by
 have e:Eu (1,(false,[],[1]),0) g a b=if A0 a∧A0 b then some ((some w,g),0) else some ((none,0),22):=by
  unfold Eu
  rw [show Fe (HU ((1,(false,[],[1]),0):Int × RT × Int).2.1) g=some w from ht,Ji,show Dx ((1,(false,[],[1]),0):Int × RT × Int).2.1=some true from NO,oB,if_pos rfl,GX oa,oB]
  by_cases h1:A0 a
  ·rw [if_pos (dT h1),GX ob,oB,oB]
   by_cases h2:A0 b
   ·rw [if_pos (show A0 a∧A0 b from ⟨h1,h2⟩),dT h2,if_neg (by decide)]
   ·rw [if_neg (show ¬ (A0 a∧A0 b) from fun q=>h2 q.2),dF h2,if_pos (by decide)]
  ·rw [if_neg (by rw [dF h1];decide),oB,if_pos rfl,if_neg (show ¬ (A0 a∧A0 b) from fun q=>h1 q.1)]
 unfold BB
 rw [e]
 by_cases h:A0 a∧A0 b
 ·rw [if_pos h,if_pos h,oB,if_pos rfl,Ji]
  generalize G9 _ _ _=m
  cases m <;> rfl
 ·rw [if_neg h,if_neg h,oB,if_neg (by decide)]
theorem W9 {e : Int × RT × Int} {g : Int} {w : AA} (ht : Fe MU g=some w) {a : Arr} (oa : okAr a) : C2 e g a=if A0 a then Mw w a else some (.mk [] [],22):=by
 unfold C2
 rw [ht,Ji,GX oa,oB]
 by_cases h:A0 a
 ·rw [if_pos (dT h),if_pos h]
  generalize Mw _ _=m
  cases m <;> rfl
 ·rw [if_neg (by rw [dF h];decide),if_neg h]
theorem Wo {p q : Rat} (hp : CZ p) (hq : CZ q) : Df (ofQ p) (ofQ q)=some (R8 (p+q)):=by
 unfold Df;rw [YX hp hq];rfl
theorem WJ {p q : Rat} (hp : CZ p) (hq : CZ q) : Dg (ofQ p) (ofQ q)=some (R8 (p * q)):=by
 unfold Dg;rw [Y9 hp hq];rfl
theorem YU {p : Rat} (hp : CZ p) : El (ofQ p)=some (ofQ p,0):=by
 unfold El
 have:=Zq (ps:=[p]) (by simpa using hp) (by simp)
 rw [show [p].map ofQ=[ofQ p] from rfl] at this
 rw [this]
 unfold Nz Nz
 rw [Rat.zero_add,if_pos hp];rfl
theorem Wm {p : Rat} (hp : CZ p) : CZ (-p):=by
 unfold CZ at *
 rw [Rat.neg_num,Rat.neg_den,Int.natAbs_neg];exact hp
def RatF (f : AA) (h : Rat→Rat) : Prop:=∀ p,CZ p→f.g (ofQ p)=some (ofQ (h p),0)∧CZ (h p)
theorem RatF.tot {f : AA} {h : Rat→Rat} (hf : RatF f h) : YY f:=fun x hx=>by
 obtain ⟨p,hp,rfl⟩:=Fy.1 hx
 exact ⟨_,_,(hf p hp).1,fun _=>CO (hf p hp).2⟩
def RI (x y : Itm) : Prop:=(okI x∧Bl x)∧(okI y∧Bl y)∧cI x=cI y∧dI x=dI y∧x.kind=y.kind
def RIs : List Itm→List Itm→Prop
 | [],[]=>True
 | x::xs,y::ys=>RI x y∧RIs xs ys
 | _,_=>False
theorem VZ {α : Type} {f g : α→Itm} : ∀ {l : List α},(∀ a ∈ l,RI (f a) (g a))→RIs (l.map f) (l.map g)
 | [],_=>trivial
 | a::l,h=>⟨h a (by simp),VZ fun b hb=>h b (by simp [hb])⟩
theorem Ss : ∀ {xs ys : List Itm},RIs xs ys→xs.length=ys.length∧(∀ x ∈ xs,okI x∧Bl x)∧(∀ y ∈ ys,okI y∧Bl y)∧cIs xs=cIs ys∧dIs xs=dIs ys
 | [],[],_=>⟨rfl,by simp,by simp,rfl,rfl⟩
 | [],_::_,h=>False.elim h
 | _::_,[],h=>False.elim h
 | x::xs,y::ys,⟨h1,h2⟩=>by
  obtain ⟨p1,p2,p3,p4,p5⟩:=Ss h2
  refine ⟨by simp [p1],?_,?_,by rw [cIs,cIs,h1.2.2.1,p4],by rw [dIs,dIs,h1.2.2.2.1,p5]⟩
  ·intro z hz;rcases List.mem_cons.1 hz with rfl | hz
   ·exact h1.1
   ·exact p2 z hz
  ·intro z hz;rcases List.mem_cons.1 hz with rfl | hz
   ·exact h1.2.1
   ·exact p3 z hz
theorem Uy {s : List Int} : ∀ {xs ys : List Itm},RIs xs ys→AT (.mk s xs)=AT (.mk s ys)
 | [],[],_=>rfl
 | [],_::_,h=>False.elim h
 | _::_,[],h=>False.elim h
 | [x],[y],⟨h,_⟩=>by unfold AT;rw [Gk,Gk,Ek,Ek];simp only [h.2.2.2.2]
 | _::_::_,_::_::_,_=>rfl
 | [_],_::_::_,⟨_,h⟩=>False.elim h
 | _::_::_,[_],⟨_,h⟩=>False.elim h
def RA (a b : Arr) : Prop:=okAr a∧okAr b∧A0 a∧A0 b∧a.shape=b.shape∧RIs a.items b.items
theorem RA.counts {a b : Arr} (h : RA a b) : cA a=cA b∧dA a=dA b∧AT a=AT b:=by
 obtain ⟨_,_,_,_,hs,hi⟩:=h
 obtain ⟨p1,_,_,p4,p5⟩:=Ss hi
 have e:AT a=AT b:=by
  have:=Uy (s:=a.shape) hi
  rw [Arr.eta] at this
  rw [this,hs,Arr.eta]
 exact ⟨by rw [KQ,KQ,p1,p4],by rw [Mv,Mv,e,p5],e⟩
theorem RS {xs : List Itm} {n : Nat} (h : xs.length=n) (h0 : n ≠ 0) : BX ((n : Nat) : Int) xs=xs:=by
 unfold BX
 rw [if_neg (by omega),Int.toNat_natCast,← h]
 exact Vi xs
theorem YF {s : List Int} {xs ys : List Itm} {n : Nat} (hs : ∀ z ∈ s,-9223372036854775808≤z∧z≤9223372036854775807) (hl : s.length≤17592186044416) (hn : szP s=((n : Int),0)) (hlen : xs.length=n) (hr : RIs xs ys) :
  ∃ r1 r2 e,BQ s ((if n=0 then [DM 0] else [])++xs)=some (r1,e)∧BQ s ((if n=0 then [DM 0] else [])++ys)=some (r2,e)∧(e=0→RA r1 r2∧r1.shape=s∧(n ≠ 0→r1.items=xs∧r2.items=ys))∧(e ≠ 0→r1=.mk [] []∧r2=.mk [] []):=by
 obtain ⟨p1,p2,p3,p4,p5⟩:=Ss hr
 have hle:=IA s
 rw [hn] at hle
 by_cases h0:n=0
 ·have e1:xs=[]:=List.eq_nil_of_length_eq_zero (by omega)
  have e2:ys=[]:=List.eq_nil_of_length_eq_zero (by omega)
  subst e1 e2
  rw [if_pos h0,List.append_nil]
  have hx:∀ x ∈ [DM 0],okI x∧Bl x:=by simpa using Oj
  obtain ⟨r,e,q1,q2,q3⟩:=Tv hs hl (by simp) (by simp) hx
  refine ⟨r,r,e,q1,q1,fun h=>?_,fun h=>⟨q3 h,q3 h⟩⟩
  obtain ⟨o,rr,sh⟩:=q2 h
  refine ⟨⟨o,o,rr,rr,rfl,?_⟩,sh,fun q=>absurd h0 q⟩
  have hri:∀ x ∈ r.items,RI x x:=fun x hx=>⟨DC o rr hx,DC o rr hx,rfl,rfl,rfl⟩
  have:=VZ (f:=id) (g:=id) hri
  rwa [List.map_id] at this
 ·rw [if_neg h0,List.nil_append,List.nil_append,Qa (xs:=xs) hs hl (by omega) (fun x h=>(p2 x h).1),Qa (xs:=ys) hs hl (by omega) (fun x h=>(p3 x h).1),hn]
  have hne:xs ≠ []:=by intro q;rw [q,List.length_nil] at hlen;omega
  have hne2:ys ≠ []:=by intro q;rw [q,List.length_nil] at p1;omega
  have z0:¬ ((((n:Int),(0:Int)):Int × Int).2 ≠ 0):=fun q=>q rfl
  rw [if_neg z0,if_neg z0,if_neg (show ¬ (xs=[]∨¬ ∀ x ∈ xs,Bl x) from fun q=>q.elim hne fun q=>q fun x h=>(p2 x h).2),if_neg (show ¬ (ys=[]∨¬ ∀ x ∈ ys,Bl x) from fun q=>q.elim hne2 fun q=>q fun x h=>(p3 x h).2),RS hlen h0,RS (by omega) h0]
  have hsim:=Uy (s:=s) hr
  have hcd:cA (.mk s xs)=cA (.mk s ys)∧dA (.mk s xs)=dA (.mk s ys):=⟨by rw [KQ,KQ,Ek,Ek,p1,p4],by rw [Mv,Mv,hsim,Ek,Ek,p5]⟩
  have hra:rA (.mk s xs)=true∧rA (.mk s ys)=true:=by
   rw [KN,KN,Gk,Gk,Ek,Ek,hn,Gx.2 fun x h=>(p2 x h).2.1,Gx.2 fun x h=>(p3 x h).2.1]
   simp only [Bool.and_true,decide_true,Bool.true_and,decide_eq_true_eq]
   constructor <;> split <;> omega
  by_cases hR:A0 (.mk s xs)
  ·have hR2:A0 (.mk s ys):=⟨hra.2,hcd.2 ▸ hR.2.1,hcd.1 ▸ hR.2.2⟩
   rw [if_pos hR,if_pos hR2]
   refine ⟨_,_,_,rfl,rfl,fun _=>⟨⟨?_,?_,hR,hR2,rfl,hr⟩,rfl,fun _=>⟨rfl,rfl⟩⟩,fun q=>absurd rfl q⟩
   ·rw [Bm];exact ⟨hs,hl,by show xs.length≤_;omega,fun x h=>(p2 x h).1⟩
   ·rw [Bm];exact ⟨hs,hl,by show ys.length≤_;omega,fun x h=>(p3 x h).1⟩
  ·have hR2:¬ A0 (.mk s ys):=fun q=>hR ⟨hra.1,hcd.2.symm ▸ q.2.1,hcd.1.symm ▸ q.2.2⟩
   rw [if_neg hR,if_neg hR2]
   exact ⟨_,_,_,rfl,rfl,fun q=>absurd q (by decide),fun _=>⟨rfl,rfl⟩⟩
theorem WQ {a b : Arr} (h : RA a b) : ∃ x y,Bx a=some x∧Bx b=some y∧RI x y:=by
 obtain ⟨c1,c2,c3⟩:=h.counts
 obtain ⟨oa,ob,ra,rb,hs,hi⟩:=h
 rw [LN oa ra,LN ob rb]
 refine ⟨_,_,rfl,rfl,?_⟩
 by_cases hs1:AT a=true
 ·have hs2:AT b=true:=c3 ▸ hs1
  rw [if_pos hs1,if_pos hs2]
  obtain ⟨x,rfl,_⟩:=JC hs1
  obtain ⟨y,rfl,_⟩:=JC hs2
  exact hi.1
 ·have hs2:¬ AT b=true:=c3 ▸ hs1
  rw [if_neg hs1,if_neg hs2]
  refine ⟨⟨OL oa,Oh ra (by simpa using hs1)⟩,⟨OL ob,Oh rb (by simpa using hs2)⟩,?_,?_,rfl⟩
  ·simp [cI,cBs,c1]
  ·simp [dI,dBs,c2]
theorem Yp {F : Az} {n i : Nat} (hi : i<n) {x : Itm} {e : Int} (h : F.g ((i : Nat) : Int)=some (x,e)) : (Fd F n)[i]'(by rw [Co];exact hi)=(x,e):=by
 have:(Fd F n)[i]'(by rw [Co];exact hi)=(F.g ((i:Nat):Int)).getD default:=by simp [Fd]
 rw [this,h];rfl
theorem Rt : ∀ {rs ts : List (Itm × Int)},rs.map (·.2)=ts.map (·.2)→Ej rs=Ej ts
 | [],[],_=>rfl
 | [],_::_,h=>by cases h
 | _::_,[],h=>by cases h
 | r::rs,t::ts,h=>by
  rw [List.map_cons,List.map_cons,List.cons.injEq] at h
  rw [Ej,Ej,h.1,Rt h.2]
theorem Uf {s : List Int} {F G : Az} {n : Nat} (hs64 : ∀ z ∈ s,-9223372036854775808≤z∧z≤9223372036854775807) (hsl : s.length≤17592186044416) (hs : szP s=((n : Int),0))
  (hFG:∀ i,i<n→∃ x y e,F.g ((i:Nat):Int)=some (x,e)∧G.g ((i:Nat):Int)=some (y,e)∧(e=0→RI x y)) :
  ∃ r1 r2 e,AM s F=some (r1,e)∧AM s G=some (r2,e)∧(e=0→RA r1 r2∧r1.shape=s∧(n ≠ 0→r1.items=(Fd F n).map (·.1)∧r2.items=(Fd G n).map (·.1)∧Ej (Fd F n)=0))∧(e ≠ 0→r1=.mk [] []∧r2=.mk [] []):=by
 rw [I7 hsl hs (fun i hi=>by obtain ⟨x,y,e,h1,h2,_⟩:=hFG i hi;exact ⟨_,h1⟩),I7 hsl hs (fun i hi=>by obtain ⟨x,y,e,h1,h2,_⟩:=hFG i hi;exact ⟨_,h2⟩)]
 have he:Ej (Fd F n)=Ej (Fd G n):=by
  refine Rt ?_
  unfold Fd
  rw [List.map_map,List.map_map]
  refine List.map_congr_left fun i hi=>?_
  obtain ⟨x,y,e,h1,h2,_⟩:=hFG i (List.mem_range.1 hi)
  simp only [Function.comp,h1,h2];rfl
 by_cases h:Ej (Fd F n)=0
 ·rw [if_pos h,if_pos (he.symm.trans h)]
  have hri:RIs ((Fd F n).map (·.1)) ((Fd G n).map (·.1)):=by
   unfold Fd
   rw [List.map_map,List.map_map]
   refine VZ fun i hi=>?_
   have hin:=List.mem_range.1 hi
   obtain ⟨x,y,e,h1,h2,h3⟩:=hFG i hin
   have hm:(Fd F n)[i]'(by rw [Co];exact hin)=(x,e):=Yp hin h1
   have h0:=HW h _ (List.getElem_mem (by rw [Co];exact hin))
   rw [hm] at h0
   simp only [Function.comp,h1,h2]
   exact h3 h0
  obtain ⟨r1,r2,e,q1,q2,q3,q4⟩:=YF hs64 hsl hs (by rw [List.length_map,Co]) hri
  exact ⟨r1,r2,e,q1,q2,fun q=>⟨(q3 q).1,(q3 q).2.1,fun q0=>⟨((q3 q).2.2 q0).1,((q3 q).2.2 q0).2,h⟩⟩,q4⟩
 ·rw [if_neg h,if_neg (fun q=>h (he.trans q)),he]
  exact ⟨_,_,_,rfl,rfl,fun q=>absurd (he.trans q) h,fun _=>⟨rfl,rfl⟩⟩
theorem YM {rc1 rc2 : AA→Arr→Option (Arr × Int)} {f1 f2 : AA} {h1 h2 : Rat→Rat} (g1 : RatF f1 h1) (g2 : RatF f2 h2) {x : Itm} (hx : okI x∧Bl x)
  (hk:∀ b ∈ x.box,okAr b→A0 b→∃ r1 r2 e,rc1 f1 b=some (r1,e)∧rc2 f2 b=some (r2,e)∧(e=0→RA r1 r2∧r1.shape=b.shape)∧(e ≠ 0→r1=.mk [] []∧r2=.mk [] [])) :
  ∃ y z e,OF rc1 f1 x=some (y,e)∧OF rc2 f2 x=some (z,e)∧(e=0→RI y z):=by
 unfold OF
 rcases Ei hx.2.1 with ⟨q,hr,_,_⟩ | ⟨q,_⟩ | ⟨q,_,_,b,hb,_⟩
 ·rw [if_pos q,if_pos q]
  obtain ⟨p,hp,e⟩:=Fy.1 hr
  rw [e,(g1 p hp).1,(g2 p hp).1]
  refine ⟨_,_,_,rfl,rfl,fun _=>⟨KP (CO (g1 p hp).2),KP (CO (g2 p hp).2),?_,?_,rfl⟩⟩
  ·rw [KM,KM];rfl
  ·rw [Ml,Ml];rfl
 ·rw [if_neg (by rw [q];decide),if_neg (by rw [q];decide),if_neg (by rw [q];decide),if_neg (by rw [q];decide)]
  exact ⟨_,_,_,rfl,rfl,fun q=>absurd q (by decide)⟩
 ·rw [if_neg (by rw [q];decide),if_pos q,if_neg (by rw [q];decide),if_pos q,hb,NY,oB,oB]
  obtain ⟨ob,rb,_⟩:=IG hx.1 hx.2 b (by simp [hb])
  obtain ⟨r1,r2,e,q1,q2,q3,q4⟩:=hk b (by simp [hb]) ob rb
  rw [q1,q2,oB,oB]
  by_cases h0:e=0
  ·obtain ⟨x,y,w1,w2,w3⟩:=WQ (q3 h0).1
   rw [w1,w2]
   exact ⟨_,_,_,rfl,rfl,fun _=>w3⟩
  ·rw [(q4 h0).1,(q4 h0).2,PT]
   exact ⟨_,_,_,rfl,rfl,fun q=>absurd q h0⟩
theorem SV {f1 f2 : AA} {h1 h2 : Rat→Rat} (g1 : RatF f1 h1) (g2 : RatF f2 h2) : ∀ (k : Nat) {a : Arr},a.size<k→okAr a→A0 a →
  ∃ r1 r2 e,BZ k f1 a=some (r1,e)∧BZ k f2 a=some (r2,e)∧(e=0→RA r1 r2∧r1.shape=a.shape)∧(e ≠ 0→r1=.mk [] []∧r2=.mk [] [])
 | 0,_,h,_,_=>by omega
 | k+1,a,h,oa,ra=>by
  have o:=(Bm a).1 oa
  obtain ⟨n,hn,hl⟩:=Jk ra
  rw [BZ,BZ,J0,J0]
  have:=Uf (F:=⟨.fn 93 [] [.ptr [.sl (Is a.shape),.sl (Its a.items)],.ptr [f1.dv]],fun x=>E8 (BZ k) x a f1⟩) (G:=⟨.fn 93 [] [.ptr [.sl (Is a.shape),.sl (Its a.items)],.ptr [f2.dv]],fun x=>E8 (BZ k) x a f2⟩) o.1 o.2.1 hn fun i hi=>?_
  ·obtain ⟨r1,r2,e,q1,q2,q3,q4⟩:=this
   exact ⟨r1,r2,e,q1,q2,fun q=>⟨(q3 q).1,(q3 q).2.1⟩,q4⟩
  have hi':i<a.items.length:=by rw [hl];split <;> omega
  show ∃ x y e,E8 (BZ k) ((i:Nat):Int) a f1=some (x,e)∧E8 (BZ k) ((i:Nat):Int) a f2=some (y,e)∧(e=0→RI x y)
  rw [HL (List.getElem?_eq_getElem hi'),HL (List.getElem?_eq_getElem hi')]
  exact YM g1 g2 (DC oa ra (List.getElem_mem hi')) fun b hb ob rb=>SV g1 g2 k (by have:=Rk (List.getElem_mem hi') hb;omega) ob rb
theorem ZM {n : Nat} (h : n<4294967296) : (Ae n).length≤1:=Ch (k:=1) (by simpa using h)
end Go.FL
namespace Go.FL
open Go Go.RowKit
section
variable {P : Program} {C : Cx} {o : Oper} {env : Env} {H : Af}
def Z1 (P : Program) (t n e : Nat) : Bool:=match P.underlying t with
 | some (.array m e')=>Nat.beq m n && Nat.beq e' e
 | _=>false
end
end Go.FL
namespace Go.FL
open Go Go.RowKit
section
variable {P : Program} {C : Cx} {o : Oper} {env : Env} {H : Af}
theorem ZA {x i : Operand} {ty e n sz : Nat} {cs ds : List DV} {k : IntKind} {z : Int} (hty : Z1 P ty n e=true) (hsz : AB P e=sz) (hs0 : 0<sz) (hz : 0≤z∧z<(n : Int)) (hds : cs.drop (z.toNat * sz)=ds) (ho : o.op=.indexAddr ty x i:=by rfl)
  (hv:lk env x=.d (.ptr cs):=by rfl) (hi:lk env i=.d (.i k z):=by rfl):VOK P C o env H (.d (.ptr ds)):=by
 obtain ⟨h1,h2⟩:=Ax hv (by simp)
 obtain ⟨h3,h4⟩:=Ax hi (by simp)
 refine .pv ⟨by simp [ho],fun X a w I μ O _ hs=>?_⟩
 obtain ⟨b,p,vs,he,g1,g2,g3⟩:=hs.dp h1 h2
 have hni:=hs.look_i h3 h4
 subst hds
 refine ⟨.pointer (some ⟨b,p+z.toNat * sz,none⟩),?_,.of_rep (.ptr _ _ _ _ g1 (g2.drop (z.toNat * sz)) (g3.drop (z.toNat * sz)))⟩
 unfold Z1 at hty
 split at hty
 ·rename_i m e' hu
  rw [Bool.and_eq_true] at hty
  have e1:=Nat.eq_of_beq_eq_true hty.1
  have e2:=Nat.eq_of_beq_eq_true hty.2
  subst e1;subst e2
  have ea:P.arrayLen ty=m:=by simp [Program.arrayLen,hu]
  have ee:P.elem ty=e':=by simp [Program.elem,hu]
  have hs1:(sizeOf e').run P w=.ok sz w:=by
   obtain ⟨inf,i1,i2⟩:=Hw (P:=P) (t:=e') (by omega)
   rw [Dn i1]
   congr 1;omega
  simp only [execOp,ho,he,hni,Sem.run_bind]
  rw [run_indexAt_array w ty ⟨b,p,none⟩ k z (by rw [ea,ee];exact hu),ea,ee,if_pos hz,hs1]
  simp [Addr.add]
 ·cases hty
end
section
variable {H : Type} {enc : TypeId × Value→H} {P : Program} {W : World}
theorem Yw {α : Type} {t e n sz : Nat} {F : α→List DV} {Q : α→Prop} (ht : P.underlying t=some (.array 2 e)) (hc : P.cellsOf t=sz+sz) (he : P.cellsOf e=sz) (h : OpF enc P W n e F Q) :
  OpF enc P W (n+1) t (fun a:α × α=>F a.1++F a.2) (fun a=>Q a.1∧Q a.2):=by
 intro fuel cs x hf hx hw
 obtain ⟨xs,m,rfl,rfl,hlen,hl,hel⟩:=DataW.trod_array ht hx
 simp only [DataW.weights,ht] at hw
 have each:∀ i,i<2→∃ y,DataW.trod enc P W 0 (fun _=>true) true m e ((cs.drop (i * sz)).take sz)=some y∧∀ q ∈ DataW.weights P e y.1,q≤reachBytes:=by
  intro i hi
  have h1:=hel i hi
  rw [he,List.getElem?_eq_getElem (show i<xs.length by omega)] at h1
  exact ⟨_,h1,fun q hq=>hw q (GE (d:=(xs[i]'(by omega)).1) (List.mem_map_of_mem (List.getElem_mem _)) q hq)⟩
 obtain ⟨y0,e0,w0⟩:=each 0 (by omega)
 obtain ⟨y1,e1,w1⟩:=each 1 (by omega)
 obtain ⟨a0,q0,r0,c0⟩:=h m _ y0 (by omega) e0 w0
 obtain ⟨a1,q1,r1,c1⟩:=h m _ y1 (by omega) e1 w1
 have hcs:cs=(cs.drop (0 * sz)).take sz++(cs.drop (1 * sz)).take sz:=by
  rw [Nat.zero_mul,Nat.one_mul,List.drop_zero]
  have:(cs.drop sz).take sz=cs.drop sz:=List.take_of_length_le (by rw [List.length_drop];omega)
  rw [this,List.take_append_drop]
 refine ⟨(a0,a1),⟨q0,q1⟩,?_,?_⟩
 ·rw [hcs];exact r0.append r1
 ·intro u hu
  rw [hcs] at hu
  rcases List.mem_append.1 hu with hu | hu
  ·exact c0 u hu
  ·exact c1 u hu
end
end Go.FL
namespace Go.FL
open Go Go.Proofs
def I3s (xs : List Int) : List DV:=xs.map (.i .i32)
theorem Aao {xs : List Int} {i : Nat} {x : Int} (h : xs[i]?=some x) : (I3s xs)[i]?=some (.i .i32 x):=by simp [I3s,h]
theorem Y4 (xs : List Int) : ∀ d ∈ I3s xs,d.flat=true∧d.cells.length=1:=fun x hx=>by
 simp only [I3s,List.mem_map] at hx
 obtain ⟨n,_,rfl⟩:=hx
 exact ⟨by simp [DV.flat,DV.cells,DV.leaf],rfl⟩
theorem Aal : Ce Tryz.prog 26=some (21,1,4):=by kernel_rfl
theorem Z4 : CA Tryz.prog 26=some (21,1,4,.int .i32 0):=by kernel_rfl
theorem Rs : Z1 Tryz.prog 39 2 25=true:=by kernel_rfl
theorem VI {P : Program} {w : World} {r : Reach} {base : Nat} {t : TypeId} {v : Value} {n : Nat} {e : TypeId} (ht : P.underlying t=some (.array n e)) (h : Value.okWide P w r base t v) : ∃ cs,v=.agg cs∧cs.size=P.cellsOf t:=by
 simp only [Value.okWide,ht] at h
 obtain ⟨cs,h1,h2,_⟩:=h
 exact ⟨cs,h1,h2⟩
section
variable {H : Type} {enc : TypeId × Value→H} {W : World}
theorem ZH (n : Nat) : OpF enc Tryz.prog W n 39 (fun l : Arr × Arr=>[.sl (Is l.1.shape),.sl (Its l.1.items),.sl (Is l.2.shape),.sl (Its l.2.items)]) (fun l=>okAr l.1∧okAr l.2) :=
 OpF.mono (n:=n+1) (Yw (e:=25) (sz:=2) (by kernel_rfl) (by kernel_rfl) (by kernel_rfl) (Yu n)) (Nat.le_succ n)
end
end Go.FL
