/-
  Part 5 of the base of the proofs: a logic of our own over the calculus, the contracts of the functions
-/
import Derived.Test.YtbeekjoeaigngaaGreatSiD
set_option linter.unusedVariables false
namespace Go.FL
open Go Go.Proofs
mutual
def tyI : Itm→Itm
 | .mk k _ _ b=>if k=1 then .mk 1 (ofQ 0) 0 [] else if k=2 then .mk 2 (false,[],[]) 32 [] else .mk 3 (false,[],[]) 0 (tyBs b)
def tyA : Arr→Arr
 | .mk s i=>.mk s (tyIs i)
def tyIs : List Itm→List Itm
 | []=>[]
 | x::xs=>tyI x::tyIs xs
def tyBs : List Arr→List Arr
 | []=>[]
 | a::_=>[tyA a]
end
theorem Hm (s : List Int) (i : List Itm) : (Arr.mk s i).shape=s:=rfl
theorem GQ (s : List Int) (i : List Itm) : (Arr.mk s i).items=i:=rfl
theorem LQ (k : Int) (n : RT) (c : Int) (b : List Arr) : (Itm.mk k n c b).kind=k:=rfl
theorem XA (k : Int) (n : RT) (c : Int) (b : List Arr) : (Itm.mk k n c b).num=n:=rfl
theorem XE (k : Int) (n : RT) (c : Int) (b : List Arr) : (Itm.mk k n c b).char=c:=rfl
theorem Ve (k : Int) (n : RT) (c : Int) (b : List Arr) : (Itm.mk k n c b).box=b:=rfl
theorem UX (xs : List Itm) : tyIs xs=xs.map tyI:=by induction xs with
 | nil=>simp [tyIs]
 | cons x xs ih=>simp [tyIs,ih]
theorem IE (a : Arr) : tyA a=.mk a.shape (a.items.map tyI):=by cases a;simp only [tyA,UX];rfl
theorem H9 : ∀ {xs : List Itm},rIs xs=true↔∀ x ∈ xs,rI x=true
 | []=>by simp [rIs]
 | x::xs=>by simp [rIs,H9 (xs:=xs)]
theorem SH : ∀ {xs : List Arr},rBs xs=true↔∀ a ∈ xs,AJ a=false∧rA a=true
 | []=>by simp [rBs]
 | x::xs=>by simp [rBs,SH (xs:=xs)]
theorem DR {x : Itm} (h : rI x=true) : (x.kind=1∧A8 x.num=true∧x.char=0∧x.box=[])∨(x.kind=2∧chB x.char=true∧x.num=(false,[],[])∧x.box=[])∨(x.kind=3∧x.num=(false,[],[])∧x.char=0∧∃ a,x.box=[a]∧AJ a=false∧rA a=true):=by
 rw [NC] at h
 by_cases k1:x.kind=1
 ·rw [if_pos k1] at h;simp only [Bool.and_eq_true,decide_eq_true_eq] at h
  exact .inl ⟨k1,h.1,h.2.1,List.length_eq_zero_iff.1 h.2.2⟩
 rw [if_neg k1] at h
 by_cases k2:x.kind=2
 ·rw [if_pos k2] at h;simp only [Bool.and_eq_true,decide_eq_true_eq] at h
  exact .inr (.inl ⟨k2,h.1,(Nz x).1 h.2.1,List.length_eq_zero_iff.1 h.2.2⟩)
 rw [if_neg k2] at h
 by_cases k3:x.kind=3
 ·rw [if_pos k3] at h;simp only [Bool.and_eq_true,decide_eq_true_eq] at h
  obtain ⟨a,ha⟩:=List.length_eq_one_iff.1 h.1
  refine .inr (.inr ⟨k3,(Nz x).1 h.2.1,h.2.2.1,a,ha,SH.1 h.2.2.2 a (by simp [ha])⟩)
 ·rw [if_neg k3] at h;cases h
theorem RH {r : RT} (h : A8 r=true) : GH r=true:=by
 obtain ⟨p,hp,rfl⟩:=F8.1 h
 exact Hr hp
def WW (x : Itm) : Prop:=rI (tyI x)=true∧dI (tyI x)=dI x∧cI (tyI x)=cI x∧tyI (tyI x)=tyI x∧(tyI x).kind=x.kind∧okI (tyI x)
theorem RJ {s : List Int} {i : List Itm} {f : Itm→Itm} (h : ∀ x ∈ i,(f x).kind=x.kind) : AJ (.mk s (i.map f))=AJ (.mk s i):=by
 unfold AJ
 match i with
 | []=>rfl
 | [x]=>simp only [Hm,GQ,List.map,h x (by simp)]
 | x::y::r=>rfl
theorem SC {f : Itm→Itm} : ∀ {i : List Itm},(∀ x ∈ i,cI (f x)=cI x)→cIs (i.map f)=cIs i
 | [],_=>rfl
 | x::xs,h=>by simp only [List.map,cIs];rw [h x (by simp),SC fun y hy=>h y (by simp [hy])]
theorem Tj {f : Itm→Itm} : ∀ {i : List Itm},(∀ x ∈ i,dI (f x)=dI x)→dIs (i.map f)=dIs i
 | [],_=>rfl
 | x::xs,h=>by simp only [List.map,dIs];rw [h x (by simp),Tj fun y hy=>h y (by simp [hy])]
theorem Ya {a : Arr} (oa : okAr a) (hr : rA a=true) (ih : ∀ x ∈ a.items,WW x) : rA (tyA a)=true∧dA (tyA a)=dA a∧cA (tyA a)=cA a∧tyA (tyA a)=tyA a∧AJ (tyA a)=AJ a∧okAr (tyA a):=by
 have o:=(Bo a).1 oa
 have hs:AJ (tyA a)=AJ a:=by
  rw [IE,RJ (fun x hx=>(ih x hx).2.2.2.2.1),Arr.eta]
 rw [LU] at hr
 simp only [Bool.and_eq_true,decide_eq_true_eq] at hr
 refine ⟨?_,?_,?_,?_,hs,?_⟩
 ·rw [LU,IE]
  simp only [Hm,GQ,List.length_map,Bool.and_eq_true,decide_eq_true_eq]
  refine ⟨dT hr.1,hr.2.1,H9.2 fun x hx=>?_⟩
  obtain ⟨y,hy,rfl⟩:=List.mem_map.1 hx
  exact (ih y hy).1
 ·rw [Nu,Nu,hs,IE]
  simp only [GQ]
  rw [Tj fun x hx=>(ih x hx).2.1]
 ·rw [MS,MS,IE]
  simp only [GQ,List.length_map]
  rw [SC fun x hx=>(ih x hx).2.2.1]
 ·rw [IE,IE]
  simp only [Hm,GQ,List.map_map,Arr.mk.injEq,true_and]
  exact List.map_congr_left fun x hx=>(ih x hx).2.2.2.1
 ·rw [Bo,IE]
  simp only [Hm,GQ,List.length_map]
  refine ⟨o.1,o.2.1,o.2.2.1,fun x hx=>?_⟩
  obtain ⟨y,hy,rfl⟩:=List.mem_map.1 hx
  exact (ih y hy).2.2.2.2.2
theorem VF (n : RT) (c : Int) (b : List Arr) : tyI (.mk 1 n c b)=.mk 1 (ofQ 0) 0 []:=by simp [tyI]
theorem Wj (n : RT) (c : Int) (b : List Arr) : tyI (.mk 2 n c b)=.mk 2 (false,[],[]) 32 []:=by simp [tyI]
theorem Wk (n : RT) (c : Int) (a : Arr) : tyI (.mk 3 n c [a])=.mk 3 (false,[],[]) 0 [tyA a]:=by simp [tyI,tyBs]
theorem Pb {r : RT} (h : GH r=true) : okI (.mk 1 r 0 []):=by
 simp [okI,okAs,h]
theorem Wf {c : Int} (h : chB c=true) : okI (.mk 2 (false,[],[]) c []):=by
 simp only [chB,Bool.and_eq_true,decide_eq_true_eq] at h
 refine ⟨by omega,rfl,by omega,by simp,trivial⟩
theorem Tm {a : Arr} (h : okAr a) : okI (.mk 3 (false,[],[]) 0 [a]):=⟨by omega,rfl,by omega,by simp,h,trivial⟩
theorem RS {r : RT} (h : A8 r=true) : rI (.mk 1 r 0 [])=true:=by simp [rI,h]
theorem WS {c : Int} (h : chB c=true) : rI (.mk 2 (false,[],[]) c [])=true:=by simp [rI,h,Di,Itm.num]
theorem Uy {a : Arr} (h : rA a=true) (hs : AJ a=false) : rI (.mk 3 (false,[],[]) 0 [a])=true:=by simp [rI,rBs,h,hs,Di,Itm.num]
theorem U8 : ∀ (k : Nat) {x : Itm},x.size<k→okI x→rI x=true→WW x
 | 0,x,h,_,_=>by omega
 | k+1,x,h,ho,hr=>by
  have hc:=DR hr
  cases x with
  | mk kd n c b =>
   simp only [LQ,XA,XE,Ve] at hc
   unfold WW
   rcases hc with ⟨rfl,h1,rfl,rfl⟩ | ⟨rfl,h1,rfl,rfl⟩ | ⟨rfl,rfl,rfl,a,rfl,h2,h3⟩
   ·rw [VF,VF]
    exact ⟨RS (E7 KQ),rfl,rfl,rfl,rfl,Pb (Hr KQ)⟩
   ·rw [Wj,Wj]
    exact ⟨WS rfl,rfl,rfl,rfl,rfl,Wf rfl⟩
   ·have hb:a ∈ Itm.box (.mk 3 (false,[],[]) 0 [a]):=by simp [Itm.box]
    have hz:=Ee hb
    have oa:okAr a:=((Dp _).1 ho).2.2.2.2 a hb
    have h3':=h3
    rw [LU] at h3';simp only [Bool.and_eq_true] at h3'
    obtain ⟨p1,p2,p3,p4,p5,p6⟩:=Ya oa h3 fun y hy=>U8 k (by have:=Fq hy;omega) (((Bo a).1 oa).2.2.2 y hy) (H9.1 h3'.2.2 y hy)
    rw [Wk,Wk,p4]
    refine ⟨Uy p1 (by rw [p5,h2]),?_,?_,rfl,rfl,Tm p6⟩
    ·simp only [dI,dBs,p2]
    ·simp only [cI,cBs,p3]
theorem UZ {x : Itm} (ho : okI x) (hr : rI x=true) : WW x:=U8 _ (Nat.lt_succ_self _) ho hr
theorem MT : ∀ (k : Nat) {x : Itm},x.size<k→okI x→rI x=true→Fd k x=some (tyI x)
 | 0,x,h,_,_=>by omega
 | k+1,x,h,ho,hr=>by
  have hc:=DR hr
  cases x with
  | mk kd n c b =>
   simp only [LQ,XA,XE,Ve] at hc
   rw [Fd,Ho]
   rcases hc with ⟨rfl,h1,rfl,rfl⟩ | ⟨rfl,h1,rfl,rfl⟩ | ⟨rfl,rfl,rfl,a,rfl,h2,h3⟩
   ·rw [if_pos (LQ 1 n 0 []),VF,Ms (by omega) (by omega),oB,Rat.intCast_zero,LO (Hr KQ),oB]
   ·rw [if_neg (by rw [LQ];decide),if_pos (LQ 2 _ c []),Wj];rfl
   ·have hb:a ∈ Itm.box (.mk 3 (false,[],[]) 0 [a]):=by simp [Itm.box]
    have hz:=Ee hb
    have oa:okAr a:=((Dp _).1 ho).2.2.2.2 a hb
    have h3':=h3
    rw [LU] at h3';simp only [Bool.and_eq_true] at h3'
    have o:=(Bo a).1 oa
    rw [if_neg (by rw [LQ];decide),if_neg (by rw [LQ];decide),Ve,MZ,oB,Lf (h:=tyI) (fun y hy=>MT k (by have:=Fq hy;omega) (o.2.2.2 y hy) (H9.1 h3'.2.2 y hy)) o.2.1 o.2.2.1,oB,Wk,IE]
theorem V0 {x : Itm} (ho : okI x) (hr : rI x=true) : ND x=some (tyI x):=MT _ (Nat.lt_succ_self _) ho hr
theorem Lo {a : Arr} (h : rA a=true) : (szP a.shape).2=0∧(a.items.length : Int)=(if (szP a.shape).1<1 then 1 else (szP a.shape).1)∧∀ x ∈ a.items,rI x=true:=by
 rw [LU] at h;simp only [Bool.and_eq_true,decide_eq_true_eq] at h
 exact ⟨h.1,h.2.1,H9.1 h.2.2⟩
theorem RW {a : Arr} (ha : okAr a) (hr : AT a) : BA a=some (if AJ a then a.items.headD default else .mk 3 (false,[],[]) 0 [a]):=by
 have o:=(Bo a).1 ha
 unfold BA
 rw [Hq ha,oB,dT hr,if_pos rfl,Im,oB]
 by_cases hs:AJ a=true
 ·rw [if_pos hs,if_pos hs]
  have:=hs
  unfold AJ at this
  rw [Bool.and_eq_true] at this
  match hi:a.items,this.2 with
  | [x],_=>rw [MZ,oB,IZ (o.2.2.2 x (by simp [hi]))];rfl
 ·rw [if_neg hs,if_neg hs,LG ha];rfl
theorem Pm {a : Arr} (h : AJ a=true) : ∃ x,a=.mk [] [x]∧x.kind ≠ 3:=by
 cases a with
 | mk s i =>
  unfold AJ at h
  simp only [Hm,GQ,Bool.and_eq_true,List.isEmpty_iff] at h
  match i,h.2 with
  | [x],h2=>exact ⟨x,by rw [h.1],by simpa using h2⟩
theorem W7 {x : Itm} (hx : okI x) (hr : BC x) : Et x=some (if x.kind=3 then x.box.headD default else .mk [] [x]):=by
 unfold Et
 rw [J6 hx,oB,dT hr,if_pos rfl]
 by_cases k:x.kind=3
 ·rw [if_pos k,if_pos k]
  rcases DR hr.1 with h | h | ⟨_,_,_,a,h,_⟩
  ·omega
  ·omega
  ·rw [h,MZ,oB,LG (((Dp x).1 hx).2.2.2.2 a (by simp [h]))];rfl
 ·rw [if_neg k,if_neg k,IZ hx];rfl
theorem Ov {xs : List Itm} {f : Cs} {p : Itm→Bool} (hf : ∀ x ∈ xs,f.g x=some (p x)) (K : Int→Option Int) (hl : xs.length≤17592186044416) : ∀ (n i k : Nat) (s : Int),n=xs.length - i→i≤xs.length→n<k →
  (Az xs f K k s (i:Int)=K s∧(xs.drop i).any p=false)∨(∃ j:Nat,Az xs f K k s (i:Int)=some (j:Int)∧(xs.drop i).any p=true)
 | _,_,0,_,_,_,h=>by omega
 | n,i,k+1,s,hn,hi,hk=>by
  rw [Az]
  by_cases h:i<xs.length
  ·rw [if_pos (by omega),Ck h,oB,hf _ (List.getElem_mem h),oB,List.drop_eq_getElem_cons h,List.any_cons]
   by_cases hp:p xs[i]=true
   ·rw [if_pos hp,hp];exact .inr ⟨i,rfl,rfl⟩
   ·rw [if_neg hp,Cf (by omega)]
    have:p xs[i]=false:=by simpa using hp
    rw [this,Bool.false_or]
    exact Ov hf K hl (n - 1) (i+1) k s (by omega) (by omega) (by omega)
  ·rw [if_neg (by omega),List.drop_of_length_le (by omega)];exact .inl ⟨rfl,rfl⟩
theorem NQ {xs : List Itm} {f : Cs} {p : Itm→Bool} (hf : ∀ x ∈ xs,f.g x=some (p x)) (hl : xs.length≤17592186044416) : AQ xs f=some (xs.any p):=by
 unfold AQ Bf
 rw [Eh]
 rcases Ov hf (fun _=>some (-1)) hl xs.length 0 Bi 0 rfl (Nat.zero_le _) (Ce (by omega)) with ⟨h1,h2⟩ | ⟨j,h1,h2⟩
 ·rw [show ((0:Nat):Int)=0 from rfl] at h1
  rw [h1,oB,List.drop_zero] at *
  rw [h2];rfl
 ·rw [show ((0:Nat):Int)=0 from rfl] at h1
  rw [h1,oB]
  rw [List.drop_zero] at h2
  rw [h2,dT (by omega)]
def Ep (xs : List Itm) : List Int:=xs.map fun x=>((1+cI x : Nat) : Int)
theorem Hk {x : Itm} (hx : okI x) (hr : BC x) : ∀ a ∈ x.box,okAr a∧AT a∧cI x=cA a∧x.box=[a]:=fun a ha=>by
 have oa:=((Dp x).1 hx).2.2.2.2 a ha
 rcases DR hr.1 with ⟨_,_,_,h⟩ | ⟨_,_,_,h⟩ | ⟨_,_,_,b,h,h2,h3⟩
 ·rw [h] at ha;cases ha
 ·rw [h] at ha;cases ha
 ·have hb:=ha
  rw [h,List.mem_singleton] at hb
  subst hb
  have e1:cI x=cA a:=by rw [KC,h];simp [cBs]
  have e2:dI x=dA a:=by rw [LR,h];simp [dBs]
  exact ⟨oa,⟨h3,e2 ▸ hr.2.1,e1 ▸ hr.2.2⟩,e1,h⟩
theorem W8 {x : Itm} (hx : okI x) (hr : BC x) (K : Int→Option (Arr × Int)) : CB x K Bi 1 0=K ((1+cI x : Nat) : Int):=by
 have hF:Bi=999999999999998+1+1:=rfl
 rw [hF,CB]
 by_cases hb:x.box=[]
 ·rw [if_neg (by rw [hb];decide)]
  have:cI x=0:=by rw [KC,hb];rfl
  rw [this];rfl
 ·obtain ⟨a,ha⟩:=List.exists_mem_of_ne_nil _ hb
  obtain ⟨oa,ra,e1,e2⟩:=Hk hx hr a ha
  have h16:=ra.2.2
  rw [e2,if_pos (by simp),MZ,oB,VZ oa,oB,if_pos ra,CB,e2,if_neg (by rw [show w64 ((0:Int)+1)=1 from rfl];simp),Fb (by omega) (by omega),e1]
  congr 1
theorem Tg {xs : List Itm} (hx : ∀ x ∈ xs,okI x∧BC x) (hl : xs.length≤1466015503701) (K : List Int→Option (Arr × Int)) : ∀ (n i k : Nat) (t : List Int),n=xs.length - i→i≤xs.length→n<k→t.length=i →
  B6 xs K k t (i:Int)=K (t++(Ep xs).drop i)
 | _,_,0,_,_,_,h,_=>by omega
 | n,i,k+1,t,hn,hi,hk,ht=>by
  rw [B6]
  have hcl:(Ep xs).length=xs.length:=by simp [Ep]
  by_cases h:i<xs.length
  ·obtain ⟨o,r⟩:=hx _ (List.getElem_mem h)
   have hd:(Ep xs)[i]'(by omega)=((1+cI xs[i]:Nat):Int):=by simp [Ep]
   rw [if_pos (by omega),Eh,Ck h,oB,Eh,W8 o r,Ie (by simp;omega),oB,Cf (by omega)]
   show B6 xs K k (t++[((1+cI xs[i]:Nat):Int)]) ((i+1:Nat):Int)=_
   rw [Tg hx hl K (n - 1) (i+1) k _ (by omega) (by omega) (by omega) (by simp [ht]),
    List.drop_eq_getElem_cons (by omega:i<(Ep xs).length),hd,List.append_assoc]
   rfl
  ·rw [if_neg (by omega),List.drop_of_length_le (by omega),List.append_nil]
def cyc (xs : List Itm) (n : Nat) : List Itm:=(List.range n).map fun i=>xs.getD (i % xs.length) default
theorem MW (xs : List Itm) (n : Nat) : cyc xs (n+1)=cyc xs n++[xs.getD (n % xs.length) default]:=by
 unfold cyc;rw [List.range_succ,List.map_append];rfl
theorem Gb (xs : List Itm) (n : Nat) : (cyc xs n).length=n:=by simp [cyc]
theorem Pg (xs ys : List Itm) : cIs (xs++ys)=cIs xs+cIs ys:=by
 induction xs with
 | nil=>simp [cIs]
 | cons x xs ih=>simp only [List.cons_append,cIs,ih];omega
theorem SN {xs : List Itm} (h : xs ≠ []) {n : Nat} {x : Itm} (hx : x ∈ cyc xs n) : x ∈ xs:=by
 unfold cyc at hx
 obtain ⟨i,_,rfl⟩:=List.mem_map.1 hx
 have hp:0<xs.length:=List.length_pos_iff.2 h
 have hlt:=Nat.mod_lt i hp
 rw [List.getD_eq_getElem?_getD,List.getElem?_eq_getElem hlt]
 exact List.getElem_mem hlt
theorem Yv (xs : List Itm) {i n : Nat} (h : i≤n) : i+cIs (cyc xs i)≤n+cIs (cyc xs n):=by
 induction n with
 | zero =>
  have:i=0:=by omega
  subst this;exact Nat.le_refl _
 | succ n ih =>
  by_cases he:i=n+1
  ·subst he;exact Nat.le_refl _
  ·have:=ih (by omega)
   rw [MW,Pg];omega
theorem SU {xs : List Itm} (hx : ∀ x ∈ xs,okI x∧BC x) (hne : xs ≠ []) (hl : xs.length≤1466015503701) {m : Nat} (hm : m≤4096) (x1 : Int × Int) (hx1 : x1.1=(m : Int)) (K : Arr→Int→List Int→List Itm→Option (Arr × Int)) (a : Arr) (b : Int) (s : List Int) (t0 : List Itm) (ht0 : t0.length≤1) : ∀ (n i k : Nat),n=m - i→i≤m→n<k→i+cIs (cyc xs i)≤16384 →
  B2 xs x1 (Ep xs) K k a b (i:Int) ((i+cIs (cyc xs i):Nat):Int) s (t0++cyc xs i)=if m+cIs (cyc xs m)≤16384 then K a b s (t0++cyc xs m) else some (.mk [] [],8)
 | _,_,0,_,_,h,_=>by omega
 | n,i,k+1,hn,hi,hk,hc=>by
  rw [B2]
  have hcl:(Ep xs).length=xs.length:=by simp [Ep]
  have hp:0<xs.length:=List.length_pos_iff.2 hne
  by_cases h:i<m
  ·have hlt:=Nat.mod_lt i hp
   have htm:Int.tmod (i:Int) ((xs.length:Nat):Int)=((i % xs.length:Nat):Int):=by
    rw [Int.tmod_eq_emod_of_nonneg (by omega)];rfl
   have hgr:Kg (((List.length xs:Nat):Int) ≠ 0)=some ():=if_pos (by omega)
   have hd:(Ep xs)[i % xs.length]'(by omega)=((1+cI xs[i % xs.length]:Nat):Int):=by simp [Ep]
   obtain ⟨o,r⟩:=hx _ (List.getElem_mem hlt)
   have hg:xs.getD (i % xs.length) default=xs[i % xs.length]:=by rw [List.getD_eq_getElem?_getD,List.getElem?_eq_getElem hlt];rfl
   have hci:cI xs[i % xs.length]≤16384:=r.2.2
   have hsum:cIs (cyc xs (i+1))=cIs (cyc xs i)+cI xs[i % xs.length]:=by rw [MW,Pg,hg];simp [cIs]
   rw [if_pos (by omega),hgr,oB,htm,Ck (by omega:i % xs.length<(Ep xs).length),oB,hd,Fb (by omega) (by omega)]
   by_cases hbig:(16384:Int)<((i+cIs (cyc xs i):Nat):Int)+((1+cI xs[i % xs.length]:Nat):Int)
   ·rw [if_pos hbig,if_neg]
    have:=Yv xs (show i+1≤m by omega)
    omega
   ·have hlen:=Gb xs i
    rw [if_neg hbig,oB,Ck hlt,oB,IZ o,oB,Ie (by simp;omega),oB,Cf (by omega)]
    have ih:=SU hx hne hl hm x1 hx1 K a b s t0 ht0 (n - 1) (i+1) k (by omega) (by omega) (by omega) (by omega)
    rw [MW,hg] at ih
    rw [← ih,List.append_assoc]
    congr 1
    rw [Pg];simp only [cIs];omega
  ·have:i=m:=by omega
   subst this
   rw [if_neg (by omega),if_pos hc]
def BX (n : Int) (xs : List Itm) : List Itm:=if n=0 then [tyI (xs.headD default)] else cyc xs n.toNat
theorem SF {s : List Int} {xs : List Itm} (hs : ∀ z ∈ s,-9223372036854775808≤z∧z≤9223372036854775807) (hl : s.length≤17592186044416) (hxl : xs.length≤1466015503701) (hx : ∀ x ∈ xs,okI x) :
  Cj s xs=some (if (szP s).2 ≠ 0 then (.mk [] [],(szP s).2) else if xs=[]∨¬ (∀ x ∈ xs,BC x) then (.mk [] [],22) else if AT (.mk s (BX (szP s).1 xs)) then (.mk s (BX (szP s).1 xs),0) else (.mk [] [],8)):=by
 unfold Cj
 rw [Jh hl,oB]
 by_cases h0:(szP s).2=0
 rotate_left
 ·rw [if_neg h0,if_pos h0]
 have h0':¬ ((szP s).2 ≠ 0):=fun h=>h h0
 rw [if_pos h0,if_neg h0']
 by_cases hn:xs=[]
 ·subst hn;rw [if_pos (show ((([]:List Itm).length:Nat):Int)=0 from rfl),if_pos (.inl rfl)];rfl
 have hlen:¬ ((xs.length:Nat):Int)=0:=by have:=List.length_pos_iff.2 hn;omega
 rw [if_neg hlen,NQ (p:=fun x=>!decide (BC x)) (fun x hx'=>by
  show EN x=_
  unfold EN;rw [J6 (hx x hx'),oB]) (by omega),oB,oB]
 by_cases hr:∀ x ∈ xs,BC x
 rotate_left
 ·rw [if_pos (.inr hr:xs=[]∨¬ ∀ x ∈ xs,BC x),if_pos]
  rw [List.any_eq_true]
  simp only [Classical.not_forall] at hr
  obtain ⟨x,h1,h2⟩:=hr
  exact ⟨x,h1,by rw [dF h2];rfl⟩
 rw [if_neg (show ¬ (xs=[]∨¬ ∀ x ∈ xs,BC x) from fun h=>h.elim hn fun h=>h hr),if_neg (by
  intro h
  rw [List.any_eq_true] at h
  obtain ⟨x,h1,h2⟩:=h
  rw [dT (hr x h1)] at h2;cases h2),OI hl,oB,Eh]
 have hp:0<xs.length:=List.length_pos_iff.2 hn
 have hxr:∀ x ∈ xs,okI x∧BC x:=fun x h=>⟨hx x h,hr x h⟩
 obtain ⟨hz0,hz1⟩:=HN s
 obtain ⟨m,hm⟩:∃ m:Nat,(szP s).1=(m:Int):=⟨(szP s).1.toNat,by omega⟩
 have hgo:∀ t0:List Itm,t0.length≤1→t0++cyc xs m=BX (szP s).1 xs→(∀ x ∈ BX (szP s).1 xs,okI x)→m+cIs (cyc xs m)≤cA (.mk s (BX (szP s).1 xs)) →
   B6 xs (fun z8=>jn (fun z19 z20 z21 z22=>(Bq (Arr.mk z21 z22)).bind fun x35=>if x35=true then some (Arr.mk z21 z22,0) else some (Arr.mk [] [],8)) fun K6=>B2 xs (szP s) z8 K6 Bi (Arr.mk [] []) 0 0 0 s t0) Bi [] 0=some (if AT (.mk s (BX (szP s).1 xs)) then (.mk s (BX (szP s).1 xs),0) else (.mk [] [],8)):=by
  intro t0 ht0 he hok hca
  have e2:=Tg hxr hxl (fun z8=>jn (fun z19 z20 z21 z22=>(Bq (Arr.mk z21 z22)).bind fun x35=>if x35=true then some (Arr.mk z21 z22,0) else some (Arr.mk [] [],8)) fun K6=>B2 xs (szP s) z8 K6 Bi (Arr.mk [] []) 0 0 0 s t0) xs.length 0 Bi [] rfl (Nat.zero_le _) (Ce (by omega)) rfl
  rw [show ((0:Nat):Int)=0 from rfl] at e2
  rw [e2,List.nil_append,List.drop_zero]
  show jn _ _=_
  rw [Eh]
  have e7:=SU hxr hn hxl (show m≤4096 by omega) (szP s) hm (fun z19 z20 z21 z22=>(Bq (Arr.mk z21 z22)).bind fun x35=>if x35=true then some (Arr.mk z21 z22,0) else some (Arr.mk [] [],8)) (Arr.mk [] []) 0 s t0 ht0 m 0 Bi rfl (Nat.zero_le _) (Ce (by omega)) (by show 0+0≤_;omega)
  rw [show cyc xs 0=[] from rfl,List.append_nil,show ((0:Nat):Int)=0 from rfl] at e7
  rw [show (((0+cIs []:Nat)):Int)=0 from rfl] at e7
  rw [e7,he]
  have hit:(BX (szP s).1 xs).length≤1466015503701:=by
   rw [← he,List.length_append,Gb];omega
  have ho:okAr (.mk s (BX (szP s).1 xs)):=by
   rw [Bo];exact ⟨hs,hl,hit,hok⟩
  rw [Hq ho]
  by_cases hR:AT (.mk s (BX (szP s).1 xs))
  ·rw [if_pos (Nat.le_trans hca hR.2.2),if_pos hR,dT hR];rfl
  ·rw [if_neg hR,dF hR];split <;> rfl
 by_cases hz:(szP s).1=0
 ·have hm0:m=0:=by omega
  subst hm0
  obtain ⟨y,ys,rfl⟩:=List.exists_cons_of_ne_nil hn
  have hmk:BX (szP s).1 (y::ys)=[tyI y]:=by unfold BX;rw [if_pos hz];rfl
  obtain ⟨o,r⟩:=hxr y (by simp)
  rw [if_pos hz,MZ,oB,V0 o r.1,oB]
  show jn _ _=_
  rw [Eh]
  refine hgo [tyI y] (by simp) (by rw [hmk];rfl) ?_ ?_
  ·rw [hmk];intro x hx';rw [List.mem_singleton] at hx';subst hx';exact (UZ o r.1).2.2.2.2.2
  ·show 0+0≤_;omega
 ·have hmk:BX (szP s).1 xs=cyc xs m:=by unfold BX;rw [if_neg hz,hm];rfl
  rw [if_neg hz]
  show jn _ _=_
  rw [Eh]
  refine hgo [] (by simp) (by rw [hmk];rfl) ?_ ?_
  ·rw [hmk];intro x hx';exact hx x (SN hn hx')
  ·rw [hmk,MS,GQ,Gb];omega
def Ml (z : Int) : Prop:=-9223372036854775808≤z∧z≤9223372036854775807
def Dk (z : Int) : Itm:=.mk 1 (ofQ (z : Rat)) 0 []
theorem EG {z : Int} (h : Ml z) : ES (z : Rat):=Vs h.1 (by have:=h.2;omega)
theorem Wq {z : Int} (h : Ml z) : okI (Dk z):=Pb (Hr (EG h))
theorem Rs {z : Int} (h : Ml z) : rI (Dk z)=true:=RS (E7 (EG h))
theorem Fk : Ml 0:=by unfold Ml;omega
theorem WN {z : Int} (h : Ml z) {β : Type} (f : Itm→Option β) : ((BR z).bind fun q=>(B5 q).bind f)=f (Dk z):=by
 rw [Ms h.1 h.2,oB,LO (Hr (EG h)),oB];rfl
theorem Pk {z : Int} (h : Ml z) : Fo z=some (.mk [] [Dk z]):=by
 unfold Fo;rw [WN h];rfl
theorem Wv : szP []=(1,0):=rfl
theorem R3 {s : List Int} {i : List Itm} {n : Int} (hs : szP s=(n,0)) (hl : (i.length : Int)=if n<1 then 1 else n) (hi : ∀ x ∈ i,rI x=true∧x.box=[]) : AT (.mk s i)∧cA (.mk s i)=i.length∧dA (.mk s i)=if AJ (.mk s i) then 0 else 1:=by
 have hn:=HN s
 rw [hs] at hn
 have hc:cIs i=0:=by
  clear hl
  induction i with
  | nil=>rfl
  | cons x xs ih=>rw [cIs,KC,(hi x (by simp)).2,ih fun y hy=>hi y (by simp [hy])];rfl
 have hd:dIs i=0:=by
  clear hl hc
  induction i with
  | nil=>rfl
  | cons x xs ih=>rw [dIs,LR,(hi x (by simp)).2,ih fun y hy=>hi y (by simp [hy])];rfl
 have hcA:cA (.mk s i)=i.length:=by rw [MS,GQ,hc];rfl
 have hdA:dA (.mk s i)=if AJ (.mk s i) then 0 else 1:=by rw [Nu,GQ,hd]
 refine ⟨⟨?_,?_,?_⟩,hcA,hdA⟩
 ·rw [LU,Hm,GQ,hs,hl,dT rfl,dT rfl,H9.2 fun x hx=>(hi x hx).1];rfl
 ·rw [hdA];split <;> omega
 ·rw [hcA];have:(i.length:Int)≤4096:=by rw [hl];split <;> omega
  omega
theorem Pf {x : Itm} (h : rI x=true) (hb : x.box=[]) (hk : x.kind ≠ 3) : AT (.mk [] [x])∧AJ (.mk [] [x])=true:=by
 refine ⟨(R3 Wv rfl fun y hy=>by rw [List.mem_singleton] at hy;subst hy;exact ⟨h,hb⟩).1,?_⟩
 unfold AJ;simp [Hm,GQ,hk]
theorem YC {x : Itm} (h : okI x) : okAr (.mk [] [x]):=by
 rw [Bo,Hm,GQ]
 exact ⟨nofun,by simp,by simp,fun y hy=>by rw [List.mem_singleton] at hy;rw [hy];exact h⟩
end Go.FL
namespace Go.FL
open Go Go.RowKit
def FnN (P : Program) (f : FuncId) (args : List DV) (r : AV) : Prop :=
 ∀ (w:World) (I:Nat→Prop) (vs:List Value),(∀ b,I b→b<w.heap.size)→RepAll w I args vs →
  CallsIn (om none) 0 P f (Value.slice none 0 0::vs).toArray w fun e w'=>∃ v I' bs,e=.returned v∧Below w.heap.size w w'∧(∀ b,I b→I' b) ∧
   (∀ b,I' b→b<w'.heap.size∧(b<w.heap.size→I b))∧ARep P w' I' [] r v bs∧bs.Nodup∧∀ b ∈ bs,w.heap.size≤b∧b<w'.heap.size∧¬ I' b
section
variable {P : Program} {H : Aj}
def YX (P : Program) (f : FuncId) (e : TypeId) (M : Nat) : Prop:=∀ (n : Nat) (w : World),n≤M →
 Calls P f #[.slice none 0 0,.int .i64 n] w fun x w'=>(x=.returned (.slice none 0 0)∧w'=w) ∨
  (∃ (cap:Nat) (cells:Array Value),0<cap∧cap≤maxLen∧cells.size=cap * AF P e∧x=.returned (.slice (some ⟨w.heap.size,0,none⟩) 0 cap)∧w'=w.drew.alloc (.cells cells e))
theorem FnN.grow {f e M : Nat} (hsz : 0<AF P e) (h : YX P f e M) {n : Nat} (hn : n≤M) : FnN P f [.i .i64 n] (.own e []):=by
 intro w I vs hI ha
 have hvs:vs=[.int .i64 n]:=by
  cases ha with
  | cons h1 ha=>cases ha;cases h1;rfl
 subst hvs
 rw [WU]
 refine callsIn_wide.2 ((h n w hn).mono fun x w' hx=>?_)
 rcases hx with ⟨rfl,rfl⟩ | ⟨cap,cells,h0,hm,hc,rfl,rfl⟩
 ·refine ⟨_,I,[],rfl,Below.refl _ _,fun _ h=>h,fun b hb=>⟨hI b hb,fun _=>hb⟩,?_,List.nodup_nil,nofun⟩
  exact .own e [] (.slice none 0 0) [] hsz (.inl ⟨none,rfl,rfl,rfl⟩) (.nil _)
 ·have hlt:w.heap.size<(w.drew.alloc (.cells cells e)).heap.size:=(Array.getElem?_eq_some_iff.1 (heap_alloc_new w.drew (.cells cells e))).1
  have ho:OwnR (w.drew.alloc (.cells cells e)) e (AF P e) (.slice (some ⟨w.heap.size,0,none⟩) 0 cap) 0 []:=by
   refine .inr ⟨⟨by simp,.inr ⟨w.heap.size,cap,cells,rfl,Nat.zero_le _,heap_alloc_new w.drew _,Nat.zero_le _,hm,hc,by simp⟩⟩,w.heap.size,cap,rfl,h0⟩
  refine ⟨_,I,[w.heap.size],rfl,?_,fun _ h=>h,fun b hb=>⟨Nat.lt_trans (hI b hb) hlt,fun _=>hb⟩,?_,by simp,fun b hb=>?_⟩
  ·exact ((Below.refl _ w).drew).alloc (Nat.le_refl _) _
  ·have:[w.heap.size]=BO (.slice (some ⟨w.heap.size,0,none⟩) 0 cap):=by simp [BO,Nat.pos_iff_ne_zero.1 h0]
   rw [this]
   exact .own e [] _ [] hsz ho (.nil _)
  ·rw [List.mem_singleton] at hb
   subst hb
   exact ⟨Nat.le_refl _,hlt,fun hi=>by have:=hI _ hi;omega⟩
end
section
variable {P : Program} {C : Cx} {o : Oper} {ops : Array Oper} {Q : Exit→Env→Aj→Prop} {env : Env} {H : Aj} {k : Nat} {l : List Oper}
end
end Go.FL
namespace Go.FL
open Go Go.RowKit
section
variable {P : Program} {C : Cx} {X : Snap} {o : Oper} {ops : Array Oper} {Q : Exit→Env→Aj→Prop} {env env' : Env} {H H' : Aj} {a : Act} {w w' : World} {I I' : Nat→Prop} {μ μ' : List Nat} {O O' : Nat→Option Loc}
 {K:Env→Aj→Prop} {k:Nat} {l:List Oper}
theorem YU {ty : Nat} (ho : o.op=.makeMap ty none:=by rfl) : VOK P C o env H (.om [] []) :=
 .val (by simp [ho]) fun X a w I μ O _ _ _ hs =>
  ⟨.map (some w.heap.size),w.alloc (.map #[] 0),I,[w.heap.size],by simp [execOp,ho,Instr.makeMap,newObj,Sem.run],Bl _,fun b hi=>hi,fun b hi=>⟨Nat.lt_of_lt_of_le (hs.ilt b hi) (Bl _).size,fun _=>hi⟩,
   ARep.om [] [] [] [] w.heap.size #[] 0 (heap_alloc_new w _) .nil .nil (List.Perm.refl _) rfl,by simp,fun b hb=>by
    simp at hb;subst hb
    exact ⟨Nat.le_refl _,by simp,fun hi=>by have:=hs.ilt _ hi;omega⟩⟩
def freshK (q : IntKind) (z : Int) (ks : List DV) : Prop:=∀ k ∈ ks,∃ z',k=.i q z'∧z' ≠ z
theorem SZ {α β : Type} : ∀ {ks : List α} {vs : List β} {x : α},ks.length=vs.length→x ∈ ks→∃ v,(x,v) ∈ ks.zip vs
 | k::ks,v::vs,x,hl,h=>by
  rcases List.mem_cons.1 h with rfl | h
  ·exact ⟨v,by simp⟩
  ·obtain ⟨u,hu⟩:=SZ (ks:=ks) (vs:=vs) (by simpa using hl) h
   exact ⟨u,by simp [hu]⟩
theorem KN {q : IntKind} {z : Int} {ty : TypeDesc} (hty : ty=.int q) : ∀ {es : List MapEntry} {ks : List DV} (n : Nat),RepAll w I ks (es.map MapEntry.key)→freshK q z ks→Instr.findNow ty (.int q z) es n=some none
 | [],_,n,_,_=>rfl
 | e::es,ks,n,hk,hf=>by
  subst hty
  cases hk with
  | @cons c _ cs _ h t =>
   obtain ⟨z',rfl,hz⟩:=hf c (by simp)
   have he:e.key=.int q z':=by
    generalize e.key=u at h
    cases h;rfl
   have hs:Instr.sameNow (.int q) (.int q z) e.key=some false:=by
    rw [he];simp [Instr.sameNow];exact fun h=>hz h.symm
   simp only [Instr.findNow,hs]
   exact KN rfl (n+1) t fun k hk=>hf k (by simp [hk])
theorem Oe {q : IntKind} {z : Int} {ty : TypeDesc} (hty : ty=.int q) {d : DV} : ∀ {es : List MapEntry} {ks vs : List DV} (n : Nat),RepAll w I ks (es.map MapEntry.key)→RepAll w I vs (es.map MapEntry.val) →
  (∀ k ∈ ks,∃ z',k=.i q z')→(.i q z,d) ∈ ks.zip vs→(∀ d',(.i q z,d') ∈ ks.zip vs→d'=d)→∃ i v,Instr.findNow ty (.int q z) es n=some (some (i,v))∧Rep w I d v
 | [],_,_,n,hk,_,_,hm,_=>by cases hk;simp at hm
 | e::es,ks,vs,n,hk,hv,hi,hm,hu=>by
  subst hty
  cases hk with
  | @cons c _ cs _ h t =>
   cases hv with
   | @cons c2 _ cs2 _ h2 t2 =>
    obtain ⟨z',rfl⟩:=hi c (by simp)
    have he:e.key=.int q z':=by
     generalize e.key=u at h
     cases h;rfl
    by_cases hz:z=z'
    ·subst hz
     have hs:Instr.sameNow (.int q) (.int q z) e.key=some true:=by rw [he];simp [Instr.sameNow]
     refine ⟨n,e.val,by simp only [Instr.findNow,hs],?_⟩
     have:=hu c2 (by simp)
     subst this;exact h2
    ·have hs:Instr.sameNow (.int q) (.int q z) e.key=some false:=by rw [he];simp [Instr.sameNow];exact hz
     simp only [Instr.findNow,hs]
     refine Oe rfl (n+1) t t2 (fun k hk=>hi k (by simp [hk])) ?_ (fun d' hd=>hu d' (by simp [hd]))
     simp only [List.zip_cons_cons,List.mem_cons,Prod.mk.injEq,DV.i.injEq,true_and] at hm
     rcases hm with ⟨h3,_⟩ | hm
     ·exact absurd h3 hz
     ·exact hm
theorem KO {kt : TypeId} {q : IntKind} {z : Int} (hk : P.underlying kt=some (.int q)) (b : Bool) (n : Nat) : (Instr.checkKey b (n+1) kt (.int q z)).run P w=.ok () w:=by
 unfold Instr.checkKey
 simp [run_underlying hk]
theorem IF {kt : TypeId} {q : IntKind} {z : Int} {es : List MapEntry} {r : Option (Nat × Value)} (hk : P.underlying kt=some (.int q)) (hf : Instr.findNow (.int q) (.int q z) es 0=some r) : (Instr.findKey kt (.int q z) es).run P w=.ok r w:=by
 simp [Instr.findKey,run_underlying hk,hf]
theorem PY {r : Nat} {es : Array MapEntry} {c : Nat} (hh : w.heap[r]?=some (.map es c)) : (getObj r).run P w=.ok (.map es c) w:=by
 simp [getObj,Sem.run,hh]
theorem RE {ty kt et : TypeId} {q : IntKind} {r : Nat} {es : Array MapEntry} {clock : Nat} {z : Int} {v : Value} (hu : P.underlying ty=some (.map kt et)) (hk : P.underlying kt=some (.int q)) (hh : w.heap[r]?=some (.map es clock)) (hf : Instr.findNow (.int q) (.int q z) es.toList 0=some none) :
  (Instr.mapUpdate ty (.map (some r)) (.int q z) v).run P w=.ok () { w with heap:=w.heap.setIfInBounds r (.map (es.push { key:=.int q z,val:=v,born:=clock }) (clock+1)) }:=by
 have h1:=KO (w:=w) (z:=z) hk false 9999
 have h2:=IF (w:=w) (z:=z) hk hf
 have h3:=PY (P:=P) hh
 unfold Instr.mapUpdate
 simp only [run_underlying hu,Sem.run_bind,Result.andThen_ok,h1,h2,h3]
 simp [setObj,Sem.run,hh]
theorem MR {ty kt et : TypeId} {q : IntKind} {r : Nat} {es : Array MapEntry} {clock : Nat} {z : Int} {i : Nat} {v : Value} (hu : P.underlying ty=some (.map kt et)) (hk : P.underlying kt=some (.int q)) (hh : w.heap[r]?=some (.map es clock)) (hf : Instr.findNow (.int q) (.int q z) es.toList 0=some (some (i,v))) :
  (Instr.lookup ty (.map (some r)) (.int q z) false).run P w=.ok v w:=by
 have h1:=KO (w:=w) (z:=z) hk es.isEmpty 9999
 have h2:=IF (w:=w) (z:=z) hk hf
 have h3:=PY (P:=P) hh
 unfold Instr.lookup
 simp only [run_underlying hu,Sem.run_bind,Sem.run_pure,Result.andThen_ok,h1,h2,h3]
 rfl
theorem Mb {ty kt et : TypeId} {q : IntKind} {r : Nat} {es : Array MapEntry} {clock : Nat} {z : Int} {v : Value} (hu : P.underlying ty=some (.map kt et)) (hk : P.underlying kt=some (.int q)) (hz : (zeroValue et).run P w=.ok v w) (hh : w.heap[r]?=some (.map es clock)) (hf : Instr.findNow (.int q) (.int q z) es.toList 0=some none) :
  (Instr.lookup ty (.map (some r)) (.int q z) false).run P w=.ok v w:=by
 have h1:=KO (w:=w) (z:=z) hk es.isEmpty 9999
 have h2:=IF (w:=w) (z:=z) hk hf
 have h3:=PY (P:=P) hh
 unfold Instr.lookup
 simp only [run_underlying hu,Sem.run_bind,Sem.run_pure,Result.andThen_ok,h1,h2,h3,hz]
 rfl
theorem Lz {ks vs ks' vs' : List DV} (hp : (ks'.zip vs').Perm (ks.zip vs)) (hl : ks'.length=vs'.length) {k : DV} (h : k ∈ ks') : k ∈ ks:=by
 obtain ⟨v,hv⟩:=SZ hl h
 exact (List.of_mem_zip (hp.mem_iff.1 hv)).1
theorem Sim.om_inv (hs : Sim P X env H a w I μ O) {t : Nat} {ks vs : List DV} (hg : get env t=.om ks vs) :
  ∃ blk es c ks' vs',a.tmps.getD t undef=.map (some blk)∧w.heap[blk]?=some (.map es c)∧RepAll w I ks' (es.toList.map MapEntry.key)∧RepAll w I vs' (es.toList.map MapEntry.val)∧(ks'.zip vs').Perm (ks.zip vs)∧ks.length=vs.length∧O blk=some (.t t):=by
 have:=hs.envr t
 rw [hg] at this
 obtain ⟨bs,h1,h2,h3⟩:=this.plain rfl
 generalize a.tmps.getD t undef=v at h1
 cases h1 with
 | om _ _ ks' vs' blk es c hh hk hv hp hl=>exact ⟨blk,es,c,ks',vs',rfl,hh,hk,hv,hp,hl,h3 blk (by simp)⟩
theorem Sim.ins (hs : Sim P X env H a w I μ O) {t : Nat} {ks vs : List DV} (hg : get env t=.om ks vs) {ty kt et : TypeId} {q : IntKind} {z : Int} {d : DV} {v : Value} (hu : P.underlying ty=some (.map kt et)) (hk : P.underlying kt=some (.int q)) (hf : freshK q z ks) (hv : Rep w I d v) :
  ∃ w',(Instr.mapUpdate ty (a.tmps.getD t undef) (.int q z) v).run P w=.ok () w'∧Sim P X ((t,.om (ks++[.i q z]) (vs++[d]))::env) H a w' I μ O:=by
 obtain ⟨blk,es,c,ks',vs',h1,h2,h3,h4,h5,h6,hO⟩:=hs.om_inv hg
 have hl':ks'.length=vs'.length:=by rw [h3.length,h4.length,List.length_map,List.length_map]
 have hfn:=KN (q:=q) (z:=z) rfl 0 h3 fun k hk=>hf k (Lz h5 hl' hk)
 have hlt:blk<w.heap.size:=(hs.own blk _ hO).1
 refine ⟨{ w with heap:=w.heap.setIfInBounds blk (.map (es.push { key:=.int q z,val:=v,born:=c }) (c+1)) },by rw [h1];exact RE hu hk h2 hfn,?_⟩
 have hoth:∀ b,b ≠ blk→(w.heap.setIfInBounds blk (.map (es.push { key:=.int q z,val:=v,born:=c }) (c+1)))[b]?=w.heap[b]?:=fun b hb=>by
  rw [Array.getElem?_setIfInBounds,if_neg (Ne.symm hb)]
 obtain ⟨n1,_,_⟩:=hs.other_blk hO
 refine hs.blkSet (w':={ w with heap:=w.heap.setIfInBounds blk (.map (es.push { key:=.int q z,val:=v,born:=c }) (c+1)) }) (av:=.om (ks++[.i q z]) (vs++[d])) hO (by rw [hg];rfl) rfl hoth (by simp) rfl rfl rfl ?_
 rw [h1]
 have hI:∀ b,I b→(w.heap.setIfInBounds blk (.map (es.push { key:=.int q z,val:=v,born:=c }) (c+1)))[b]?=w.heap[b]?:=fun b hi=>hoth b (n1 b hi)
 refine .om _ _ (ks'++[.i q z]) (vs'++[d]) blk (es.push { key:=.int q z,val:=v,born:=c }) (c+1) ?_ ?_ ?_ ?_ (by simp [h6])
 ·show (w.heap.setIfInBounds blk _)[blk]?=_
  rw [Array.getElem?_setIfInBounds,if_pos rfl,if_pos hlt]
 ·rw [Array.toList_push,List.map_append]
  exact (h3.keep hI fun _ h=>h).append (.cons (.i _ _) .nil)
 ·rw [Array.toList_push,List.map_append]
  exact (h4.keep hI fun _ h=>h).append (.cons (hv.keep hI fun _ h=>h) .nil)
 ·rw [List.zip_append hl',List.zip_append h6]
  exact List.Perm.append h5 (List.Perm.refl _)
theorem NK {m : Nat} {x y : Operand} {ty kt et : TypeId} {q : IntKind} {z : Int} {ks vs : List DV} {d : DV} (hu : P.underlying ty=some (.map kt et)) (hk : P.underlying kt=some (.int q)) (hf : freshK q z ks) (h : RL P C ops Q (k+1) l ((m,.om (ks++[.i q z]) (vs++[d]))::env) H) (hg : grd ops env o true=true:=by rfl)
  (ho:o.op=.insert ty (.tmp m) x y:=by rfl) (hm:get env m=.om ks vs:=by rfl) (hx:Ba (lk env x)=some (.i q z):=by rfl) (hy:Ba (lk env y)=some d:=by rfl) (hd:o.dst=none:=by rfl):RL P C ops Q k (o::l) env H:=by
 refine .go hg (.done (by simp [ho]) hd (fun X a w I μ O _ _ _ hs=>?_) h)
 have h1:=hs.deep (x:=x) hx
 have h2:=hs.deep (x:=y) hy
 generalize hev:a.eval x=u at h1
 cases h1
 obtain ⟨w',r1,r2⟩:=hs.ins hm hu hk hf h2
 have he:a.eval (.tmp m)=a.tmps.getD m undef:=rfl
 exact ⟨w',I,μ,O,by simp only [execOp,ho,hev,he,r1,Sem.run_bind,Result.andThen_ok,Sem.run_pure],r2⟩
theorem Gh.omf {t : Nat} {ks vs : List DV} (hg : get env t=.om ks vs) : Gh P C env H ((t,.d (.mp ks vs))::env) H:=fun X a w I μ O _ _ _ hs=>by
 obtain ⟨blk,es,c,ks',vs',h1,h2,h3,h4,h5,h6,hO⟩:=hs.om_inv hg
 obtain ⟨n1,n2,n3⟩:=hs.other_blk hO
 refine ⟨_,_,⟨hs.toMem.frz [blk] (fun b hm=>by simp at hm;subst hm;exact (hs.own b _ hO).1) (fun b hm hk=>by simp at hm;exact n2 b hk hm) H rfl ?_,fun s=>?_,hs.nt,hs.dfs⟩⟩
 ·intro id ob ho
  obtain ⟨bb,bs,k1,k2,k3,k4⟩:=hs.heap id ob ho
  refine ⟨bb,bs,k1,k2.mono fun _ h=>.inl h,fun hn=>⟨(k3 hn).1,fun b hb=>?_⟩,k4⟩
  have:b ∉ [blk]:=by simpa using n3 id ob bb bs ho k1 k3 k4 b hb
  simp only [this,if_false]
  exact (k3 hn).2 b hb
 ·by_cases hst:t=s
  ·subst hst
   rw [show get ((t,.d (.mp ks vs))::env) t=.d (.mp ks vs) by simp [get]]
   refine .of (bs:=[]) ?_ List.nodup_nil (by simp)
   rw [h1]
   exact .d (.mp ks vs ks' vs' blk es c (.inr (by simp)) h2 (h3.keep (fun _ _=>rfl) fun _ h=>.inl h) (h4.keep (fun _ _=>rfl) fun _ h=>.inl h) h5 h6)
  ·rw [show get ((t,.d (.mp ks vs))::env) s=get env s by simp [get,hst]]
   have key:∀ p e xs,AR env H p=.own e xs→AR ((t,AV.d (.mp ks vs))::env) H p=.own e xs:=by
    intro p e' xs hp
    cases p with
    | t r =>
     have hr':t ≠ r:=fun h=>by subst h;simp only [AR] at hp;rw [hg] at hp;cases hp
     simp only [AR,get,if_neg hr'];exact hp
    | c id off=>exact hp
   have ht:=hs.envr s
   cases hgs:get env s with
   | ref p off len =>
    rw [hgs] at ht
    obtain ⟨e',xs,A,n,c,g1,g2,g3,g4⟩:=ht
    exact ⟨e',xs,A,n,c,key p e' xs g1,g2,g3,g4⟩
   | ep p i k =>
    rw [hgs] at ht
    obtain ⟨e',xs,b,n,c,g1,g2,g3,g4,g5⟩:=ht
    exact ⟨e',xs,b,n,c,key p e' xs g1,g2,g3,g4,g5⟩
   | _ =>
    rw [hgs] at ht
    obtain ⟨bs,g1,g2,g3⟩:=ht.plain rfl
    refine .of (g1.keep (fun _ h=>.inl h) (fun _ _=>rfl) (fun _ _ h=>h) fun _ _=>rfl) g2 fun b hb=>?_
    have:b ∉ [blk]:=fun hm=>by
     simp at hm;subst hm
     have:=g3 b hb;rw [hO] at this;simp at this;exact hst this
    simp only [this,if_false]
    exact g3 b hb
theorem Zh {x y : Operand} {ty kt et : TypeId} {q : IntKind} {z : Int} {ks vs : List DV} {d : DV} (hu : P.underlying ty=some (.map kt et)) (hk : P.underlying kt=some (.int q)) (hi : ∀ k ∈ ks,∃ z',k=.i q z') (hm : (.i q z,d) ∈ ks.zip vs) (hq : ∀ d',(.i q z,d') ∈ ks.zip vs→d'=d)
  (ho:o.op=.lookup ty x y false:=by rfl) (hx:Ba (lk env x)=some (.mp ks vs):=by rfl) (hy:Ba (lk env y)=some (.i q z):=by rfl):VOK P C o env H (.d d) :=
 .pv ⟨by simp [ho],fun X a w I μ O _ hs=>by
  have h1:=hs.deep (x:=x) hx
  have h2:=hs.deep (x:=y) hy
  generalize hev:a.eval x=u at h1
  generalize hev2:a.eval y=u2 at h2
  cases h2
  cases h1 with
  | mp _ _ ks' vs' r es c hI hh h3 h4 hp hl =>
   have hl':ks'.length=vs'.length:=by rw [h3.length,h4.length,List.length_map,List.length_map]
   obtain ⟨i,v,e1,e2⟩:=Oe (q:=q) (z:=z) (d:=d) rfl 0 h3 h4 (fun k hk=>hi k (Lz hp hl' hk)) (hp.mem_iff.2 hm) fun d' hd=>hq d' (hp.mem_iff.1 hd)
   exact ⟨v,by simp only [execOp,ho,hev,hev2,MR hu hk hh e1,Sem.run_bind,Result.andThen_ok,Sem.run_pure],.of_rep e2⟩⟩
theorem Zr {x y : Operand} {ty kt et : TypeId} {q : IntKind} {z : Int} {ks vs : List DV} {d : DV} {zv : Value} (hu : P.underlying ty=some (.map kt et)) (hk : P.underlying kt=some (.int q)) (hz : ∀ w,(zeroValue et).run P w=.ok zv w) (hd : ∀ w I,Rep w I d zv) (hf : freshK q z ks)
  (ho:o.op=.lookup ty x y false:=by rfl) (hx:Ba (lk env x)=some (.mp ks vs):=by rfl) (hy:Ba (lk env y)=some (.i q z):=by rfl):VOK P C o env H (.d d) :=
 .pv ⟨by simp [ho],fun X a w I μ O _ hs=>by
  have h1:=hs.deep (x:=x) hx
  have h2:=hs.deep (x:=y) hy
  generalize hev:a.eval x=u at h1
  generalize hev2:a.eval y=u2 at h2
  cases h2
  cases h1 with
  | mp _ _ ks' vs' r es c hI hh h3 h4 hp hl =>
   have hl':ks'.length=vs'.length:=by rw [h3.length,h4.length,List.length_map,List.length_map]
   have e1:=KN (q:=q) (z:=z) rfl 0 h3 fun k hk=>hf k (Lz hp hl' hk)
   exact ⟨zv,by simp only [execOp,ho,hev,hev2,Mb hu hk (hz w) hh e1,Sem.run_bind,Result.andThen_ok,Sem.run_pure],.of_rep (hd w I)⟩⟩
end
end Go.FL
namespace Go.FL
open Go Go.RowKit
section
variable {P : Program} {C : Cx} {X : Snap} {o : Oper} {ops : Array Oper} {Q : Exit→Env→Aj→Prop} {env env' : Env} {H H' : Aj} {a : Act} {w w' : World} {I I' : Nat→Prop} {μ μ' : List Nat} {O O' : Nat→Option Loc}
 {K:Env→Aj→Prop} {k:Nat} {l:List Oper}
def FS (P : Program) (t : TypeId) : Bool:=match P.underlying t with
 | some (.func ..)=>true
 | _=>false
theorem TR {t : TypeId} (hu : FS P t=true) (f : Go.Fn) (fs cs : Array Value) : (Op.equal t (.func f fs cs) .nilFunc).run P w=.ok false w:=by
 unfold FS at hu
 split at hu
 ·rename_i h
  have e:Op.equal t (.func f fs cs) .nilFunc=Op.equalIn (9999+1) t (.func f fs cs) .nilFunc:=rfl
  rw [e]
  unfold Op.equalIn
  simp only [run_underlying h,Sem.run_bind,Result.andThen_ok,Sem.run_pure]
 ·cases hu
theorem TN {t : TypeId} (hu : FS P t=true) : (Op.equal t .nilFunc .nilFunc).run P w=.ok true w:=by
 unfold FS at hu
 split at hu
 ·rename_i h
  have e:Op.equal t .nilFunc .nilFunc=Op.equalIn (9999+1) t .nilFunc .nilFunc:=rfl
  rw [e]
  unfold Op.equalIn
  simp only [run_underlying h,Sem.run_bind,Result.andThen_ok,Sem.run_pure]
 ·cases hu
theorem Zu {xt yt : TypeId} {x y : Operand} {f : FuncId} {fs cs : List DV} (hu : FS P xt=true) (ho : o.op=.binOp .eql xt x y yt:=by rfl) (hx : Ba (lk env x)=some (.fn f fs cs):=by rfl) (hy : Ba (lk env y)=some .nf:=by rfl) : VOK P C o env H (.d (.b false)):=by
 refine .same (by simp [ho]) fun X a w I μ O _ hs=>⟨.bool false,?_,.b _⟩
 have h1:=hs.deep hx
 have h2:=hs.deep hy
 generalize hev:a.eval x=v1 at h1
 generalize hev2:a.eval y=v2 at h2
 cases h1;cases h2
 simp [execOp,ho,hev,hev2,binOp,eqGuard,TR hu]
theorem YW {xt yt : TypeId} {x y : Operand} (hu : FS P xt=true) (ho : o.op=.binOp .eql xt x y yt:=by rfl) (hx : Ba (lk env x)=some .nf:=by rfl) (hy : Ba (lk env y)=some .nf:=by rfl) : VOK P C o env H (.d (.b true)):=by
 refine .same (by simp [ho]) fun X a w I μ O _ hs=>⟨.bool true,?_,.b _⟩
 have h1:=hs.deep hx
 have h2:=hs.deep hy
 generalize hev:a.eval x=v1 at h1
 generalize hev2:a.eval y=v2 at h2
 cases h1;cases h2
 simp [execOp,ho,hev,hev2,binOp,eqGuard,TN hu]
end
end Go.FL
namespace Go.FL
open Go Go.RowKit
theorem E1 {α β : Type} {f g : α→Option β} : ∀ {l : List α},(∀ x ∈ l,f x=g x)→l.filterMap f=l.filterMap g
 | [],_=>rfl
 | x::l,h=>by
  rw [List.filterMap_cons,List.filterMap_cons,h x (by simp),E1 fun y hy=>h y (by simp [hy])]
theorem Jw {α : Type} {f g : Nat→Option α} {i : Nat} {p : α} (hf : f i=none) (hg : g i=some p) (he : ∀ j,j ≠ i→g j=f j) : ∀ {l : List Nat},l.Nodup→i ∈ l→(l.filterMap g).Perm (l.filterMap f++[p])
 | x::l,hn,hm=>by
  obtain ⟨hx,hn⟩:=List.nodup_cons.1 hn
  by_cases h:x=i
  ·subst h
   rw [List.filterMap_cons_some hg,List.filterMap_cons_none hf]
   have:l.filterMap g=l.filterMap f:=E1 fun j hj=>he j fun e=>hx (e ▸ hj)
   rw [this]
   exact (List.perm_append_singleton p _).symm
  ·have hm':i ∈ l:=by
    rcases List.mem_cons.1 hm with h2 | h2
    ·exact absurd h2.symm h
    ·exact h2
   have ih:=Jw hf hg he hn hm'
   cases hfx:f x with
   | none=>rw [List.filterMap_cons_none hfx,List.filterMap_cons_none (by rw [he x h,hfx])];exact ih
   | some y=>rw [List.filterMap_cons_some hfx,List.filterMap_cons_some (by rw [he x h,hfx]:g x=some y),List.cons_append];exact ih.cons y
def prs (iv : List (Option (Int × DV))) (L : Array Bool) : List (Int × DV):=(List.range iv.length).filterMap fun i=>if L.getD i false=true then (iv[i]?).join else none
def omP (q : IntKind) (ps : List (Int × DV)) : AV:=.om (ps.map fun p=>.i q p.1) (ps.map (·.2))
theorem Kd (q : IntKind) : ∀ (ps : List (Int × DV)),(ps.map fun p=>DV.i q p.1).zip (ps.map (·.2))=ps.map fun p=>(DV.i q p.1,p.2)
 | []=>rfl
 | p::ps=>by simp [Kd q ps]
theorem SK {iv : List (Option (Int × DV))} {L : Array Bool} {p : Int × DV} (h : p ∈ prs iv L) : ∃ j,L.getD j false=true∧iv[j]?=some (some p):=by
 obtain ⟨j,_,hj⟩:=List.mem_filterMap.1 h
 split at hj
 ·rename_i hl
  refine ⟨j,hl,?_⟩
  cases hx:iv[j]? with
  | none=>rw [hx] at hj;cases hj
  | some y=>rw [hx] at hj;simp at hj;rw [hj]
 ·cases hj
theorem Rq {iv : List (Option (Int × DV))} {L : Array Bool} {i : Nat} (hi : i<L.size) (h : iv[i]?=some none) : prs iv (L.setIfInBounds i true)=prs iv L:=by
 unfold prs
 refine E1 fun j _=>?_
 rw [As hi]
 by_cases hij:i=j
 ·subst hij;rw [if_pos rfl,h];simp
 ·rw [if_neg hij]
theorem Vm {iv : List (Option (Int × DV))} {L : Array Bool} {i : Nat} {p : Int × DV} (hi : i<L.size) (hl : L.getD i false=false) (h : iv[i]?=some (some p)) : (prs iv (L.setIfInBounds i true)).Perm (prs iv L++[p]):=by
 unfold prs
 refine Jw (i:=i) ?_ ?_ (fun j hj=>?_) List.nodup_range (List.mem_range.2 (List.getElem?_eq_some_iff.1 h).1)
 ·rw [hl];rfl
 ·rw [As hi,if_pos rfl,if_pos rfl,h];rfl
 ·rw [As hi,if_neg (Ne.symm hj)]
theorem WA {iv : List (Option (Int × DV))} {L : Array Bool} (h : ∀ j,j<iv.length→L.getD j false=true) : prs iv L=iv.filterMap id:=by
 have:∀ (iv:List (Option (Int × DV))),(List.range iv.length).filterMap (fun i=>(iv[i]?).join)=iv.filterMap id:=by
  intro iv
  induction iv with
  | nil=>rfl
  | cons x xs ih =>
   rw [List.length_cons,List.range_succ_eq_map]
   cases x with
   | none=>simp only [List.filterMap_cons,List.filterMap_map];exact ih
   | some y=>simp only [List.filterMap_cons,List.filterMap_map];exact congrArg _ ih
 rw [← this iv]
 unfold prs
 exact E1 fun j hj=>by rw [if_pos (h j (List.mem_range.1 hj))]
section
variable {P : Program} {C : Cx} {X : Snap} {o : Oper} {ops : Array Oper} {Q : Exit→Env→Aj→Prop} {env env' envi : Env} {H H' : Aj} {a : Act} {w w' : World} {I I' : Nat→Prop} {μ μ' : List Nat} {O O' : Nat→Option Loc}
 {K:Env→Aj→Prop} {k:Nat} {l:List Oper} {av:AV}
theorem Sim.om_perm (hs : Sim P X env H a w I μ O) {t : Nat} {ks vs ks2 vs2 : List DV} (hg : get env t=.om ks vs) (hp : (ks.zip vs).Perm (ks2.zip vs2)) (hl : ks2.length=vs2.length) : Sim P X ((t,.om ks2 vs2)::env) H a w I μ O:=by
 obtain ⟨blk,es,c,ks',vs',h1,h2,h3,h4,h5,h6,hO⟩:=hs.om_inv hg
 refine hs.blkSet (w':=w) (av:=.om ks2 vs2) hO (by rw [hg];rfl) rfl (fun _ _=>rfl) rfl rfl rfl rfl ?_
 rw [h1]
 exact .om _ _ ks' vs' blk es c h2 h3 h4 (h5.trans hp) hl
def G6 : Nat:=1000000000
def Kh (ops : Array Oper) (m : Nat) : Bool :=
 ((List.range ops.size).all fun i=>match ops[i]? with
  | some o=>o.after.all (fun e=>!Region.binds .any e || decide (e.on<i)) && (match o.op with | .select ..=>false | _=>true) && (o.looksAt ops).all (fun t=>decide (t<G6)) &&
   (if i<m then (List.range m).all fun j=>match ops[j]? with
     | some oj=>match oj.dst with
      | some t=>!(o.looksAt ops).contains t || (decide (j<i) && EY ops i j)
      | none=>true
     | none=>false
    else (List.range i).all fun j=>Ht ops i i j)
  | none=>false) && decide (m≤ops.size)
theorem Fc {m : Nat} (h : Kh ops m=true) {i : Nat} {o : Oper} (ho : ops[i]?=some o) :
  (∀ e ∈ o.after,Region.binds .any e=true→e.on<i)∧(∀ t ∈ o.looksAt ops,t<G6) ∧
  (i<m→∀ j,j<m→∀ oj t,ops[j]?=some oj→oj.dst=some t→t ∈ o.looksAt ops→j<i∧EY ops i j=true)∧(¬ i<m→∀ j,j<i→Ht ops i i j=true):=by
 unfold Kh at h
 rw [Bool.and_eq_true] at h
 have hi:i<ops.size:=(Array.getElem?_eq_some_iff.1 ho).1
 have:=List.all_eq_true.1 h.1 i (List.mem_range.2 hi)
 rw [ho] at this
 simp only [Bool.and_eq_true] at this
 obtain ⟨⟨⟨h1,_⟩,h4⟩,h3⟩:=this
 refine ⟨fun e he hb=>?_,fun t ht=>?_,fun him j hj oj t hoj htj hm=>?_,fun him j hj=>?_⟩
 ·obtain ⟨k,hk,rfl⟩:=Array.mem_iff_getElem.1 he
  have:=Array.all_eq_true.1 h1 k hk
  rw [hb] at this
  simpa using this
 ·simpa using List.all_eq_true.1 h4 t ht
 ·rw [if_pos him] at h3
  have:=List.all_eq_true.1 h3 j (List.mem_range.2 hj)
  rw [hoj] at this
  simp only [htj] at this
  have hc:(o.looksAt ops).contains t=true:=List.contains_iff_mem.2 hm
  rw [hc] at this
  simpa using this
 ·rw [if_neg him] at h3
  exact List.all_eq_true.1 h3 j (List.mem_range.2 hj)
def IG (tm i0 : Nat) (q : IntKind) (tv : List (Nat × AV)) (iv : List (Option (Int × DV))) (env0 : Env) (L : Array Bool) : Env :=
 (if L.getD i0 false=true then [(tm,omP q (prs iv L))] else [])++Dd tv env0 L
theorem Fr {tm i0 : Nat} {q : IntKind} {tv : List (Nat × AV)} {iv : List (Option (Int × DV))} {env0 : Env} {L : Array Bool} {s : Nat} (h : s ≠ tm) : get (IG tm i0 q tv iv env0 L) s=get (Dd tv env0 L) s:=by
 unfold IG
 split
 ·simp [get,Ne.symm h]
 ·rfl
theorem Jg {tm i0 : Nat} {q : IntKind} {tv : List (Nat × AV)} {iv : List (Option (Int × DV))} {env0 : Env} {L : Array Bool} (h : L.getD i0 false=true) : get (IG tm i0 q tv iv env0 L) tm=omP q (prs iv L):=by
 unfold IG
 rw [if_pos h];simp [get]
theorem IC {tm i0 : Nat} {q : IntKind} {tv : List (Nat × AV)} {iv : List (Option (Int × DV))} {env0 : Env} {L : Array Bool} (h : L.getD i0 false=false) : IG tm i0 q tv iv env0 L=Dd tv env0 L:=by
 unfold IG
 rw [h];rfl
def UG (P : Program) (C : Cx) (ops : Array Oper) (H : Aj) (env0 vals : Env) (tm i0 ty : Nat) (q : IntKind) (i : Nat) (o : Oper) (t : Nat) (v : AV) : Option (Int × DV)→Prop
 | none=>QC P C ops H env0 vals o t v∧tm ∉ o.looksAt ops∧t<G6∧(i ≠ i0→t ≠ tm)∧(i=i0→t=tm∧v=.om [] [])
 | some (z,d)=>o.dst=none∧o.guard=none∧v=.un∧t=G6+i∧get env0 t=.un∧EY ops i i0=true∧∃ x y,o.op=.insert ty (.tmp tm) x y∧(∀ e,lk e x=.d (.i q z)) ∧
   ((∀ e,lk e y=.d d)∨∃ s,y=.tmp s∧s ≠ tm∧s ∈ o.looksAt ops∧get (AZ (o.looksAt ops) vals++env0) s=.d d)
theorem YY {m i0 tm ty kt et : Nat} {q : IntKind} {env0 : Env} {tv : List (Nat × AV)} {iv : List (Option (Int × DV))} (hu : P.underlying ty=some (.map kt et)) (hkt : P.underlying kt=some (.int q)) (hok : Kh ops m=true) (hlen : tv.length=m) (hiv : iv.length=m) (hi0 : i0<m) (htmd : tm<G6)
  (htab:∀ (i:Nat) o,i<m→ops[i]?=some o→∃ t v p,tv[i]?=some (t,v)∧iv[i]?=some p∧UG P C ops H env0 (tv.take i).reverse tm i0 ty q i o t v p)
  (hi0n:iv[i0]?=some none) (hkeys:∀ (i j:Nat) p p',iv[i]?=some (some p)→iv[j]?=some (some p')→i ≠ j→p.1 ≠ p'.1)
  (hsuf:RL P C ops Q m (ops.toList.drop m) ((tm,omP q (iv.filterMap id))::(tv.reverse++env0)) H) (n1:X.nt=C.nt) (n2:X.n0=C.n0) (n3:X.ne=C.ne) (hle:m≤ops.size) :
  ∀ (fuel:Nat) (L:Array Bool) (a:Act) (w:World) (I:Nat→Prop) (O:Nat→Option Loc),L.size=ops.size→TL ops L→(∀ j,m≤j→L.getD j false=false) →
   (List.range m).countP (fun i=>!L.getD i false)+(ops.size - m)≤fuel→Sim P X (IG tm i0 q tv iv env0 L) H a w I μ O→wpAnyIn (om C.ro) 0 P .any ops (Post P X Q) fuel L a w:=by
 have hone:∀ i,i<m→∃ o t v p,ops[i]?=some o∧tv[i]?=some (t,v)∧iv[i]?=some p∧UG P C ops H env0 (tv.take i).reverse tm i0 ty q i o t v p:=fun i hi=>by
  obtain ⟨t,v,p,h1,h2,h3⟩:=htab i _ hi (Array.getElem?_eq_getElem (by omega))
  exact ⟨_,t,v,p,Array.getElem?_eq_getElem (by omega),h1,h2,h3⟩
 -- temporaries of the table: an entry's is a number that none bears
 have htn:∀ {i o t v p},UG P C ops H env0 (tv.take i).reverse tm i0 ty q i o t v p→(p=none∧t<G6∧get env0 t=.un∧(∀ x ∈ (tv.take i).reverse,x.1 ≠ t)∧o.dst=some t)∨((∃ zd,p=some zd)∧t=G6+i∧get env0 t=.un∧o.dst=none):=by
  intro i o t v p h
  cases p with
  | none=>exact .inl ⟨rfl,h.2.2.1,h.1.2.2.1,h.1.2.2.2.1,h.1.1⟩
  | some zd=>exact .inr ⟨⟨zd,rfl⟩,h.2.2.2.1,h.2.2.2.2.1,h.1⟩
 have hdist:∀ (i j t:Nat) v u,tv[i]?=some (t,v)→tv[j]?=some (t,u)→i=j:=by
  have lt:∀ (i j t:Nat) v u,tv[i]?=some (t,v)→tv[j]?=some (t,u)→¬ i<j:=fun i j t v u hi hj hij=>by
   have hjm:j<m:=by have:=(List.getElem?_eq_some_iff.1 hj).1;omega
   obtain ⟨o,t',v',p,_,k1,_,k2⟩:=hone j hjm
   rw [hj] at k1;cases k1
   obtain ⟨o3,t3,v3,p3,_,k3,_,k4⟩:=hone i (by omega)
   rw [hi] at k3;cases k3
   rcases htn k2 with ⟨_,d1,_,d2,_⟩ | ⟨_,d1,_,_⟩
   ·refine d2 (t,v) ?_ rfl
    rw [List.mem_reverse]
    exact List.mem_of_getElem? (by rw [List.getElem?_take_of_lt hij];exact hi)
   ·rcases htn k4 with ⟨_,d3,_,_,_⟩ | ⟨_,d3,_,_⟩ <;> omega
  intro i j t v u hi hj
  have h1:=lt i j t v u hi hj
  have h2:=lt j i t u v hj hi
  omega
 have hpre:∀ {e:Env},(∀ x,x ∈ e↔x ∈ tv)→∀ t,(∃ i v,tv[i]?=some (t,v)∧get (e++env0) t=v)∨((∀ (i:Nat) v,tv[i]? ≠ some (t,v))∧get (e++env0) t=get env0 t):=fun {e} he t=>by
  rw [Bc]
  by_cases hc:(e.map (·.1)).contains t=true
  ·obtain ⟨x,hx,rfl⟩:=List.mem_map.1 (List.contains_iff_mem.1 hc)
   obtain ⟨i,hi⟩:=List.getElem?_of_mem ((he x).1 hx)
   refine .inl ⟨i,x.2,hi,?_⟩
   rw [if_pos hc]
   refine Dt hx fun u hu=>?_
   obtain ⟨j,hj⟩:=List.getElem?_of_mem ((he _).1 hu)
   have:=hdist i j x.1 x.2 u hi hj
   subst this
   rw [hi] at hj
   simp only [Option.some.injEq] at hj
   rw [hj]
  ·refine .inr ⟨fun i v hi=>hc (List.contains_iff_mem.2 (List.mem_map.2 ⟨(t,v),(he _).2 (List.mem_of_getElem? hi),rfl⟩)),by rw [if_neg hc]⟩
 have h0tm:get env0 tm=.un:=by
  obtain ⟨o,t,v,p,_,_,k2,k3⟩:=hone i0 hi0
  rw [hi0n] at k2;cases k2
  have:=k3.2.2.2.2 rfl
  rw [← this.1];exact k3.1.2.2.1
 have fin:∀ (fuel:Nat) (L:Array Bool) (a:Act) (w:World) (I:Nat→Prop) (O:Nat→Option Loc),L.size=ops.size→(∀ j,m≤j→L.getD j false=false)→(∀ j,j<m→L.getD j false=true)→ops.size - m≤fuel →
   Sim P X (IG tm i0 q tv iv env0 L) H a w I μ O→wpAnyIn (om C.ro) 0 P .any ops (Post P X Q) fuel L a w:=by
  intro fuel L a w I O hL hup hall hf hs
  refine Uw (fun i o ho=>(Fc hok ho).1) (fun i o ho hm=>(Fc hok ho).2.2.2 (by omega)) (ops.size - m) m fuel L a w (Nat.le_refl _) (by omega) hf hL (fun j hj=>⟨fun h=>?_,hall j⟩) ?_
  ·rcases Nat.lt_or_ge j m with hx | hx
   ·exact hx
   ·rw [hup j hx] at h;cases h
  have hs':=hs.same (env':=(tm,omP q (iv.filterMap id))::(tv.reverse++env0)) fun t=>by
   by_cases htt:t=tm
   ·subst htt
    rw [Jg (hall i0 hi0),WA fun j hj=>hall j (by omega)];simp [get]
   ·rw [Fr htt]
    simp only [get,if_neg (Ne.symm htt)]
    rcases hpre (e:=tv.reverse) (fun x=>List.mem_reverse) t with ⟨i,v,h1,h2⟩ | ⟨h1,h2⟩
    ·rw [h2,Bp hdist (hall i (by have:=(List.getElem?_eq_some_iff.1 h1).1;omega)) h1]
    ·rw [h2,Be fun i v _=>h1 i v]
  have:=hsuf rfl X a w I μ O n1 n2 n3 hs'
  rw [List.length_drop,Array.length_toList] at this
  exact this
 intro fuel
 induction fuel with
 | zero =>
  intro L a w I O hL hD hup hf hs
  refine fin 0 L a w I O hL hup (fun j hj=>?_) (by omega) hs
  cases hv:L.getD j false with
  | true=>rfl
  | false =>
   have:0<(List.range m).countP (fun i=>!L.getD i false):=List.countP_pos_iff.2 ⟨j,List.mem_range.2 hj,by rw [hv];rfl⟩
   omega
 | succ fuel ih =>
  intro L a w I O hL hD hup hf hs
  by_cases hall:∀ j,j<m→L.getD j false=true
  ·exact fin _ L a w I O hL hup hall (by omega) hs
  have hex:∃ j,j<m∧L.getD j false=false:=by
   apply Classical.byContradiction
   intro hno
   refine hall fun j hj=>?_
   cases hv:L.getD j false with
   | true=>rfl
   | false=>exact absurd ⟨j,hj,hv⟩ hno
  obtain ⟨j0,⟨hj0,hj1⟩,hmin⟩:∃ j,(j<m∧L.getD j false=false)∧∀ k,k<j→L.getD k false=true:=by
   obtain ⟨j,hj⟩:=hex
   induction j using Nat.strongRecOn with
   | ind j ihj =>
    by_cases hk:∃ k,k<j∧L.getD k false=false
    ·obtain ⟨k,hk1,hk2⟩:=hk
     exact ihj k hk1 ⟨by omega,hk2⟩
    ·refine ⟨j,hj,fun k hk1=>?_⟩
     cases hv:L.getD k false with
     | true=>rfl
     | false=>exact absurd ⟨k,hk1,hv⟩ hk
  have hr0:j0 ∈ Region.ready .any ops L:=mem_ready.2 ⟨by rw [Cl (by omega)];exact hj1,_,Array.getElem?_eq_getElem (by omega),fun e he hb=>hmin _ ((Fc hok (Array.getElem?_eq_getElem (by omega))).1 e he hb)⟩
  refine ⟨fun h0=>(by rw [h0] at hr0;cases hr0),fun i hi=>?_⟩
  obtain ⟨h1,o,ho,h2⟩:=mem_ready.1 hi
  have hlt:=(Array.getElem?_eq_some_iff.1 ho).1
  rw [Cl (by omega)] at h1
  have him:i<m:=by
   rcases Nat.lt_or_ge i m with hx | hx
   ·exact hx
   ·have:=Fl hD _ _ _ ((Fc hok ho).2.2.2 (by omega) j0 (by omega)) fun o' ho' e he hb=>by rw [ho] at ho';cases ho';exact h2 e he hb
    rw [hj1] at this;cases this
  obtain ⟨o',t,v,p,ho',htv,hpv,hmo⟩:=hone i him
  rw [ho] at ho';cases ho'
  -- the operations behind: what is counted
  have hnext:(∀ s,s ≠ t→get (Dd tv env0 (L.setIfInBounds i true)) s=get (Dd tv env0 L) s)∧get (Dd tv env0 (L.setIfInBounds i true)) t=v ∧
    ∀ a' w' I' O',Sim P X (IG tm i0 q tv iv env0 (L.setIfInBounds i true)) H a' w' I' μ O'→wpAnyIn (om C.ro) 0 P .any ops (Post P X Q) fuel (L.setIfInBounds i true) a' w':=by
   refine ⟨fun s hts=>?_,Bp hdist (by rw [As (by omega),if_pos rfl]) htv,fun a' w' I' O' hs'=>?_⟩
   ·by_cases hex:∃ (j:Nat) (u:AV),L.getD j false=true∧tv[j]?=some (s,u)
    ·obtain ⟨j,u,hj1,hj2⟩:=hex
     rw [Bp hdist hj1 hj2]
     exact Bp hdist (by rw [As (by omega)];split <;> first | rfl | exact hj1) hj2
    ·rw [Be fun j u hl hj=>hex ⟨j,u,hl,hj⟩]
     refine Be fun j u hl hj=>?_
     rw [As (by omega)] at hl
     split at hl
     ·rename_i hij;subst hij
      rw [htv] at hj;cases hj;exact hts rfl
     ·exact hex ⟨j,u,hl,hj⟩
   ·refine ih _ a' w' I' O' (by simpa using hL) (fun k ok hk hok' e he hb=>?_) (fun j hj=>?_) ?_ hs'
    ·rw [As (by omega)] at hk ⊢
     split at hk
     ·rename_i hik;subst hik
      rw [ho] at hok';cases hok'
      split
      ·rfl
      ·exact h2 e he hb
     ·split
      ·rfl
      ·exact hD k ok hk hok' e he hb
    ·rw [As (by omega),if_neg (by omega)];exact hup j hj
    ·have:=HH (fun i=>!L.getD i false) (fun k=>!(L.setIfInBounds i true).getD k false) i (by simp only [h1];rfl) (by simp only [As (by omega:i<L.size),if_true];rfl)
      (fun j hj=>by simp only [As (by omega:i<L.size)];rw [if_neg (Ne.symm hj)]) (List.range m) (List.mem_range.2 him) List.nodup_range
     omega
  obtain ⟨hsame,hat,hgo⟩:=hnext
  -- what it looks at is known
  have hdir:∀ (j s:Nat) u,tv[j]?=some (s,u)→s ∈ o.looksAt ops→L.getD j false=true:=fun j s u hj hm=>by
   have hjm:j<m:=by have:=(List.getElem?_eq_some_iff.1 hj).1;omega
   obtain ⟨oj',tj',vj',pj',r1,r2,_,r3⟩:=hone j hjm
   rw [hj] at r2;cases r2
   have hsd:=(Fc hok ho).2.1 s hm
   rcases htn r3 with ⟨_,_,_,_,hdst⟩ | ⟨_,hd2,_,_⟩
   ·obtain ⟨o2,ho2,e,he,hb,rfl⟩:=DE ((Fc hok ho).2.2.1 him j hjm oj' s r1 hdst hm).2
    rw [ho] at ho2;cases ho2
    exact h2 e he hb
   ·have hlt2:s<G6:=hsd
    exact absurd hlt2 (by omega)
  have hleL:∀ s,get (AZ (o.looksAt ops) (tv.take i).reverse++env0) s=.un∨get (AZ (o.looksAt ops) (tv.take i).reverse++env0) s=get (Dd tv env0 L) s:=fun s=>by
   rw [Bc]
   split
   ·rename_i hc
    obtain ⟨x,hx,rfl⟩:=List.mem_map.1 (List.contains_iff_mem.1 hc)
    have hx':=List.mem_filter.1 hx
    have hin:=List.mem_reverse.1 hx'.1
    obtain ⟨j,hj⟩:=List.getElem?_of_mem (List.mem_of_mem_take hin)
    have hlk:x.1 ∈ o.looksAt ops:=List.contains_iff_mem.1 hx'.2
    refine .inr ?_
    rw [Bp hdist (hdir j x.1 x.2 hj hlk) hj]
    refine Dt hx fun u hu=>?_
    have hu':=List.mem_reverse.1 (List.mem_filter.1 hu).1
    obtain ⟨j',hj'⟩:=List.getElem?_of_mem (List.mem_of_mem_take hu')
    have:=hdist j j' x.1 x.2 u hj hj'
    subst this
    rw [hj] at hj'
    simp only [Option.some.injEq] at hj'
    rw [hj']
   ·by_cases hex:∃ (j:Nat) (u:AV),tv[j]?=some (s,u)
    ·obtain ⟨j,u,hj⟩:=hex
     have hjm:j<m:=by have:=(List.getElem?_eq_some_iff.1 hj).1;omega
     obtain ⟨oj,tj,vj,pj,_,r2,_,r3⟩:=hone j hjm
     rw [hj] at r2;cases r2
     rcases htn r3 with ⟨_,_,hz,_⟩ | ⟨_,_,hz,_⟩ <;> exact .inl hz
    ·exact .inr (Be fun j u _ hj=>hex ⟨j,u,hj⟩).symm
  have htL:get (Dd tv env0 L) t=.un:=by
   rw [Be fun j u hl hj=>by
    have:=hdist i j t v u htv hj
    subst this;rw [h1] at hl;cases hl]
   rcases htn hmo with ⟨_,_,hz,_⟩ | ⟨_,_,hz,_⟩ <;> exact hz
  unfold wpOpIn
  simp only [ho]
  cases p with
  | none =>
   obtain ⟨⟨hd,htok,h0t,hnt,hself,hrk,hrun⟩,hntm,htd,hne0,heq0⟩:=hmo
   have hle1:∀ s,get (AZ (o.looksAt ops) (tv.take i).reverse++env0) s=.un∨get (AZ (o.looksAt ops) (tv.take i).reverse++env0) s=get (IG tm i0 q tv iv env0 L) s:=fun s=>by
    by_cases hst:s=tm
    ·subst hst
     left
     rw [Bc,if_neg]
     ·exact h0tm
     ·intro hc
      obtain ⟨x,hx,hx2⟩:=List.mem_map.1 (List.contains_iff_mem.1 hc)
      have:=(List.mem_filter.1 hx).2
      rw [hx2] at this
      exact hntm (List.contains_iff_mem.1 this)
    ·rw [Fr hst];exact hleL s
   have hkn:∀ s,Aq (get (AZ (o.looksAt ops) (tv.take i).reverse++env0) s)=true→get (AZ (o.looksAt ops) (tv.take i).reverse++env0) s=get (IG tm i0 q tv iv env0 L) s:=fun s hs=>by
    rcases hle1 s with h | h
    ·rw [h] at hs;cases hs
    ·exact h
   have hle2:∀ s r off len,get (AZ (o.looksAt ops) (tv.take i).reverse++env0) s=.ref (.t r) off len→get (AZ (o.looksAt ops) (tv.take i).reverse++env0) r=get (IG tm i0 q tv iv env0 L) r:=fun s r off len h=>by
    have:=List.all_eq_true.1 hrk _ (Ek h (by simp))
    exact hkn r (by simpa using this)
   have hle3:∀ s r x y,get (AZ (o.looksAt ops) (tv.take i).reverse++env0) s=.ep (.t r) x y→get (AZ (o.looksAt ops) (tv.take i).reverse++env0) r=get (IG tm i0 q tv iv env0 L) r:=fun s r x y h=>by
    have:=List.all_eq_true.1 hrk _ (Ek h (by simp))
    exact hkn r (by simpa using this)
   have htM:get (IG tm i0 q tv iv env0 L) t=.un:=by
    by_cases hi:i=i0
    ·subst hi;rw [IC h1];exact htL
    ·rw [Fr (hne0 hi)];exact htL
   have hsi:=hs.less hle1 hle2 hle3
   have hstep:∀ a' w' I' O',Sim P X ((t,v)::IG tm i0 q tv iv env0 L) H a' w' I' μ O'→wpAnyIn (om C.ro) 0 P .any ops (Post P X Q) fuel (L.setIfInBounds i true) a' w':=fun a' w' I' O' hs'=>by
    refine hgo a' w' I' O' (hs'.same fun s=>?_)
    by_cases hi:i=i0
    ·subst hi
     obtain ⟨rfl,rfl⟩:=heq0 rfl
     have hnil:prs iv (L.setIfInBounds i true)=[]:=by
      rw [Rq (by omega) hpv]
      apply List.eq_nil_iff_forall_not_mem.2
      intro x hx
      obtain ⟨j,hj1,hj2⟩:=SK hx
      have hjm:j<m:=by have:=(List.getElem?_eq_some_iff.1 hj2).1;omega
      obtain ⟨oj,tj,vj,pj,r1,_,r2,r3⟩:=hone j hjm
      rw [hj2] at r2;cases r2
      obtain ⟨o2,ho2,e,he,hb,hee⟩:=DE r3.2.2.2.2.2.1
      rw [r1] at ho2;cases ho2
      have:=hD j _ hj1 r1 e he hb
      rw [hee] at this
      rw [h1] at this;cases this
     by_cases hst:s=t
     ·subst hst
      rw [Jg (by rw [As (by omega),if_pos rfl]),hnil]
      simp [get,omP]
     ·rw [Fr hst,IC h1]
      simp only [get,if_neg (Ne.symm hst)]
      exact hsame s hst
    ·have hl0:(L.setIfInBounds i true).getD i0 false=L.getD i0 false:=by rw [As (by omega),if_neg hi]
     by_cases hst:s=t
     ·subst hst
      rw [Fr (hne0 hi),hat];simp [get]
     ·simp only [get,if_neg (Ne.symm hst)]
      by_cases hsm:s=tm
      ·subst hsm
       cases hx:L.getD i0 false with
       | true=>rw [Jg (by rw [hl0,hx]),Jg hx,Rq (by omega) hpv]
       | false=>rw [IC (by rw [hl0,hx]),IC hx];exact hsame s hst
      ·rw [Fr hsm,Fr hsm];exact hsame s hst
   rcases hrun with ⟨hg,hv⟩ | ⟨hg,hv⟩
   ·rw [if_pos (Fm hsi hg)]
    refine hv.step hd htok hle1 hle2 hle3 (by rw [htM];rfl) (fun p hp e=>?_) n1 n2 n3 hs hstep
    subst e
    rcases hp with ⟨off,len,rfl⟩ | ⟨x,y,rfl⟩ <;> simp [FZ] at hself
   ·have:=Fm hsi hg
    rw [if_neg (by rw [this];simp)]
    refine ⟨fun _ _=>trivial,?_⟩
    rw [hd]
    rcases hv with rfl | rfl
    ·have hp:=hs.put_un t (by rw [n1];exact htok) undef
     rw [An (by rw [htM];rfl)] at hp
     exact hstep _ _ _ _ hp
    ·have hp:=hs.put_hand (t:=t) (by rw [n1];exact htok) (av:=.tup []) (v:=undef) ⟨[],.tup .nil,List.nodup_nil,by simp⟩
     rw [An (by rw [htM];rfl)] at hp
     exact hstep _ _ _ _ hp
  | some zd =>
   obtain ⟨z,d⟩:=zd
   obtain ⟨hd,hgn,rfl,htd,h0t,hdi,x,y,hop,hx,hy⟩:=hmo
   have hi0L:L.getD i0 false=true:=by
    obtain ⟨o2,ho2,e,he,hb,rfl⟩:=DE hdi
    rw [ho] at ho2;cases ho2
    exact h2 e he hb
   have hne:i ≠ i0:=fun h=>by subst h;rw [h1] at hi0L;cases hi0L
   have htt:t ≠ tm:=by omega
   have hy':lk (IG tm i0 q tv iv env0 L) y=.d d:=by
    rcases hy with hy | ⟨s,rfl,hs1,_,hs2⟩
    ·exact hy _
    ·show get _ s=_
     rw [Fr hs1]
     rcases hleL s with h | h
     ·rw [h] at hs2;cases hs2
     ·rw [← h];exact hs2
   have hfr:freshK q z ((prs iv L).map fun p=>DV.i q p.1):=fun k hk=>by
    obtain ⟨p,hp,rfl⟩:=List.mem_map.1 hk
    obtain ⟨j,hj1,hj2⟩:=SK hp
    exact ⟨p.1,rfl,hkeys j i p (z,d) hj2 hpv fun e=>by subst e;rw [h1] at hj1;cases hj1⟩
   have r1:=hs.deep (x:=x) (v:=.i q z) (by rw [hx];rfl)
   have r2:=hs.deep (x:=y) (v:=d) (by rw [hy'];rfl)
   generalize hev:a.eval x=u at r1
   cases r1
   obtain ⟨w',k1,k2⟩:=hs.ins (Jg hi0L) hu hkt hfr r2
   have hw:Region.wanted o (yielded ops a.tmps)=true:=by unfold Region.wanted;rw [hgn]
   rw [if_pos hw]
   refine ⟨fun _ _=>trivial,?_⟩
   have he:a.eval (.tmp tm)=a.tmps.getD tm undef:=rfl
   have hrun:(execOp a.eval o).run P w=.ok .skip w':=by simp only [execOp,hop,hev,he,k1,Sem.run_bind,Result.andThen_ok,Sem.run_pure]
   rw [Oper.semAt_eq _ _ _ (by simp [hop]),hrun,Oper.uponIn_skip,hd]
   have hpp:=Vm (by omega) h1 hpv
   have k3:=k2.om_perm (t:=tm) (ks2:=(prs iv (L.setIfInBounds i true)).map fun p=>DV.i q p.1) (vs2:=(prs iv (L.setIfInBounds i true)).map (·.2)) (by simp [get];exact ⟨rfl,rfl⟩) (by
    rw [Kd,List.zip_append (by simp),Kd]
    have:=(hpp.map fun p=>(DV.i q p.1,p.2)).symm
    rw [List.map_append] at this
    exact this) (by simp)
   refine hgo _ _ _ _ (k3.same fun s=>?_)
   by_cases hsm:s=tm
   ·subst hsm
    rw [Jg (by rw [As (by omega),if_neg hne];exact hi0L)]
    simp [get,omP]
   ·rw [Fr hsm]
    simp only [get,if_neg (Ne.symm hsm)]
    rw [Fr hsm]
    by_cases hst:s=t
    ·subst hst;rw [hat,htL]
    ·exact hsame s hst
end
end Go.FL
namespace Go.FL
open Go Go.RowKit
section
variable {P : Program} {C : Cx} {X : Snap} {o : Oper} {ops : Array Oper} {Q : Exit→Env→Aj→Prop} {env env' envi env0 vals : Env} {H H' : Aj} {a : Act} {w w' : World} {I I' : Nat→Prop} {μ μ' : List Nat} {O O' : Nat→Option Loc}
 {k:Nat} {l:List Oper} {av v:AV} {t tm i0 ty n:Nat} {q:IntKind} {ps qs:List (Int × DV)}
inductive DLM (P : Program) (C : Cx) (ops : Array Oper) (H : Aj) (env0 : Env) (tm i0 ty : Nat) (q : IntKind) : Nat→Env→List (Int × DV)→List Oper→Env→List (Int × DV)→Prop
 | nil (n:Nat) (vals:Env) (ps:List (Int × DV)):DLM P C ops H env0 tm i0 ty q n vals ps [] vals ps
 | run {n:Nat} {vals fin:Env} {ps qs:List (Int × DV)} {o:Oper} {t:Nat} {v:AV} {l:List Oper} (hi:n ≠ i0) (hd:o.dst=some t) (ht:okT C.nt t) (h0:NT (get env0 t)=true) (hn:(vals.map (·.1)).contains t=false) (hs:FZ t v=true)
   (hg:grd ops (AZ (o.looksAt ops) vals++env0) o true=true) (hv:VOK P C o (AZ (o.looksAt ops) vals++env0) H v) (hr:Ch (AZ (o.looksAt ops) vals++env0)=true) (hl:(o.looksAt ops).contains tm=false) (htd:t<G6) (htm:t ≠ tm)
   (h:DLM P C ops H env0 tm i0 ty q (n+1) ((t,v)::vals) ps l fin qs):DLM P C ops H env0 tm i0 ty q n vals ps (o::l) fin qs
 | mk {vals fin:Env} {ps qs:List (Int × DV)} {o:Oper} {l:List Oper} (hd:o.dst=some tm) (ht:okT C.nt tm) (h0:NT (get env0 tm)=true) (hn:(vals.map (·.1)).contains tm=false)
   (hg:grd ops (AZ (o.looksAt ops) vals++env0) o true=true) (hv:VOK P C o (AZ (o.looksAt ops) vals++env0) H (.om [] [])) (hr:Ch (AZ (o.looksAt ops) vals++env0)=true) (hl:(o.looksAt ops).contains tm=false) (htd:tm<G6)
   (h:DLM P C ops H env0 tm i0 ty q (i0+1) ((tm,.om [] [])::vals) ps l fin qs):DLM P C ops H env0 tm i0 ty q i0 vals ps (o::l) fin qs
 | ins {n:Nat} {vals fin:Env} {ps qs:List (Int × DV)} {o:Oper} {l:List Oper} {x y:Operand} {z:Int} {d:DV} (hi:n ≠ i0) (hd:o.dst=none) (hgn:o.guard=none) (hop:o.op=.insert ty (.tmp tm) x y) (hx:∀ e,lk e x=.d (.i q z))
   (hy:(∀ e,lk e y=.d d)∨∃ s,y=.tmp s∧s ≠ tm∧s ∈ o.looksAt ops∧get (AZ (o.looksAt ops) vals++env0) s=.d d) (hdi:EY ops n i0=true) (h0:get env0 (G6+n)=.un)
   (h:DLM P C ops H env0 tm i0 ty q (n+1) ((G6+n,.un)::vals) (ps++[(z,d)]) l fin qs):DLM P C ops H env0 tm i0 ty q n vals ps (o::l) fin qs
theorem DLM.table {n : Nat} {vals fin : Env} {ps qs : List (Int × DV)} {l : List Oper} (h : DLM P C ops H env0 tm i0 ty q n vals ps l fin qs) : ∃ (tv : List (Nat × AV)) (iv : List (Option (Int × DV))),tv.length=l.length∧iv.length=l.length∧fin=tv.reverse++vals∧qs=ps++iv.filterMap id ∧
  ∀ (i:Nat) o,l[i]?=some o→∃ t v p,tv[i]?=some (t,v)∧iv[i]?=some p∧(n+i=i0→p=none)∧UG P C ops H env0 ((tv.take i).reverse++vals) tm i0 ty q (n+i) o t v p:=by
 induction h with
 | nil n vals ps=>exact ⟨[],[],rfl,rfl,rfl,by simp,fun i o h=>by simp at h⟩
 | @run n vals fin ps qs o t v l hi hd ht h0 hn hs hg hv hr hl htd htm h ih =>
  obtain ⟨tv,iv,k1,k2,k3,k4,k5⟩:=ih
  refine ⟨(t,v)::tv,none::iv,by simp [k1],by simp [k2],by rw [k3];simp,by rw [k4];simp,fun i o' hio=>?_⟩
  cases i with
  | zero =>
   simp at hio;subst hio
   refine ⟨t,v,none,rfl,rfl,fun _=>rfl,⟨hd,ht,Mr h0,fun x hx e=>?_,hs,hr,.inl ⟨hg,hv⟩⟩,fun hm=>?_,htd,fun _=>htm,fun e=>absurd e hi⟩
   ·subst e
    have:(vals.map (·.1)).contains x.1=true:=List.contains_iff_mem.2 (List.mem_map_of_mem hx)
    rw [hn] at this;cases this
   ·have:=List.contains_iff_mem.2 hm
    rw [hl] at this;cases this
  | succ i =>
   obtain ⟨t',v',p',m1,m2,m3,m4⟩:=k5 i o' (by simpa using hio)
   have e:n+(i+1)=n+1+i:=by omega
   refine ⟨t',v',p',by simpa using m1,by simpa using m2,by rw [e];exact m3,?_⟩
   rw [e];simpa using m4
 | @mk vals fin ps qs o l hd ht h0 hn hg hv hr hl htd h ih =>
  obtain ⟨tv,iv,k1,k2,k3,k4,k5⟩:=ih
  refine ⟨(tm,.om [] [])::tv,none::iv,by simp [k1],by simp [k2],by rw [k3];simp,by rw [k4];simp,fun i o' hio=>?_⟩
  cases i with
  | zero =>
   simp at hio;subst hio
   refine ⟨tm,.om [] [],none,rfl,rfl,fun _=>rfl,⟨hd,ht,Mr h0,fun x hx e=>?_,rfl,hr,.inl ⟨hg,hv⟩⟩,fun hm=>?_,htd,fun e=>absurd rfl e,fun _=>⟨rfl,rfl⟩⟩
   ·subst e
    have:(vals.map (·.1)).contains x.1=true:=List.contains_iff_mem.2 (List.mem_map_of_mem hx)
    rw [hn] at this;cases this
   ·have:=List.contains_iff_mem.2 hm
    rw [hl] at this;cases this
  | succ i =>
   obtain ⟨t',v',p',m1,m2,m3,m4⟩:=k5 i o' (by simpa using hio)
   have e:i0+(i+1)=i0+1+i:=by omega
   refine ⟨t',v',p',by simpa using m1,by simpa using m2,by rw [e];exact m3,?_⟩
   rw [e];simpa using m4
 | @ins n vals fin ps qs o l x y z d hi hd hgn hop hx hy hdi h0 h ih =>
  obtain ⟨tv,iv,k1,k2,k3,k4,k5⟩:=ih
  refine ⟨(G6+n,.un)::tv,some (z,d)::iv,by simp [k1],by simp [k2],by rw [k3];simp,by rw [k4];simp,fun i o' hio=>?_⟩
  cases i with
  | zero =>
   simp at hio;subst hio
   exact ⟨G6+n,.un,some (z,d),rfl,rfl,fun e=>absurd e hi,hd,hgn,rfl,rfl,h0,hdi,x,y,hop,hx,hy⟩
  | succ i =>
   obtain ⟨t',v',p',m1,m2,m3,m4⟩:=k5 i o' (by simpa using hio)
   have e:n+(i+1)=n+1+i:=by omega
   refine ⟨t',v',p',by simpa using m1,by simpa using m2,by rw [e];exact m3,?_⟩
   rw [e];simpa using m4
theorem PI : ∀ {iv : List (Option (Int × DV))},((iv.filterMap id).map (·.1)).Nodup→∀ (i j : Nat) p p',iv[i]?=some (some p)→iv[j]?=some (some p')→i<j→p.1 ≠ p'.1
 | [],_,i,j,p,p',h1,_,_=>by simp at h1
 | x::iv,hn,i,j,p,p',h1,h2,hij=>by
  cases j with
  | zero=>omega
  | succ j =>
   have h2':iv[j]?=some (some p'):=by simpa using h2
   cases i with
   | zero =>
    simp at h1;subst h1
    simp only [List.filterMap_cons,id_eq,List.map_cons,List.nodup_cons] at hn
    intro e
    refine hn.1 (List.mem_map.2 ⟨p',List.mem_filterMap.2 ⟨some p',List.mem_of_getElem? h2',rfl⟩,e.symm⟩)
   | succ i =>
    refine PI (iv:=iv) ?_ i j p p' (by simpa using h1) h2' (by omega)
    cases x with
    | none=>simpa using hn
    | some y =>
     simp only [List.filterMap_cons,id_eq,List.map_cons,List.nodup_cons] at hn
     exact hn.2
def DKM (P : Program) (C : Cx) (ops : Array Oper) (H : Aj) (env0 : Env) (tm i0 ty : Nat) (q : IntKind) (n : Nat) (vals : Env) (ps : List (Int × DV)) (l : List Oper) (K : Env→List (Int × DV)→Prop) : Prop :=
 ∃ fin qs,DLM P C ops H env0 tm i0 ty q n vals ps l fin qs∧(qs.map (·.1)).Nodup∧K fin qs
theorem AW.drawnM {id : Nat} (m tm i0 : Nat) {ty kt et : Nat} {q : IntKind} (hu : P.underlying ty=some (.map kt et)) (hkt : P.underlying kt=some (.int q)) (hm : P.follows .mixedOrders=true) (hok : Kh ops m=true)
  (h:DKM P C ops H env0 tm i0 ty q 0 [] [] (ops.toList.take m) fun fin ps=>RL P C ops Q m (ops.toList.drop m) ((tm,omP q ps)::(fin++env0)) H) (hi0:i0<m:=by decide) (htm:Nat.blt tm G6=true:=by rfl):AW P C (.region id ops true) Q env0 H:=fun X a w I μ O n1 n2 n3 hs=>by
 obtain ⟨fin,qs,hD,hnd,hsuf⟩:=h
 obtain ⟨tv,iv,k1,k2,k3,k4,k5⟩:=hD.table
 have hle:m≤ops.size:=by unfold Kh at hok;rw [Bool.and_eq_true] at hok;simpa using hok.2
 have hlen:tv.length=m:=by rw [k1];simp;omega
 have hlen2:iv.length=m:=by rw [k2];simp;omega
 refine wpIn_region_any hm ?_
 have hz:∀ j,(Array.replicate ops.size false).getD j false=false:=fun j=>by
  simp only [Array.getD_eq_getD_getElem?,Array.getElem?_replicate]
  split <;> rfl
 have hs':Sim P X (IG tm i0 q tv iv env0 (Array.replicate ops.size false)) H a { w with drawn:=w.drawn+1 } I μ O:=by
  rw [IC (hz i0)]
  exact (hs.grow (w':={ w with drawn:=w.drawn+1 }) ⟨rfl,rfl,rfl,Nat.le_refl _,fun _ _=>rfl⟩).same fun t=>Be fun i v h=>by
   rw [hz] at h;cases h
 rw [List.nil_append] at k4
 rw [List.append_nil] at k3
 subst k3 k4
 have htab:∀ (i:Nat) o,i<m→ops[i]?=some o→∃ t v p,tv[i]?=some (t,v)∧iv[i]?=some p∧(i=i0→p=none)∧UG P C ops H env0 (tv.take i).reverse tm i0 ty q i o t v p:=fun i o hi ho=>by
  obtain ⟨t,v,p,m1,m2,m3,m4⟩:=k5 i o (by rw [List.getElem?_take_of_lt hi];simpa using ho)
  rw [Nat.zero_add,List.append_nil] at m4
  rw [Nat.zero_add] at m3
  exact ⟨t,v,p,m1,m2,m3,m4⟩
 refine YY hu hkt hok hlen hlen2 hi0 (Nat.blt_eq ▸ htm) (fun i o hi ho=>?_) ?_ (fun i j p p' h1 h2 hij=>?_) hsuf n1 n2 n3 hle ops.size _ a _ I O (by simp) (fun i o h=>by rw [hz] at h;cases h) (fun j _=>hz j) ?_ hs'
 ·obtain ⟨t,v,p,m1,m2,_,m4⟩:=htab i o hi ho
  exact ⟨t,v,p,m1,m2,m4⟩
 ·obtain ⟨t,v,p,m1,m2,m3,m4⟩:=htab i0 _ hi0 (Array.getElem?_eq_getElem (by omega))
  rw [m2,m3 rfl]
 ·rcases Nat.lt_or_gt_of_ne hij with h | h
  ·exact PI hnd i j p p' h1 h2 h
  ·exact fun e=>PI hnd j i p' p h2 h1 h e.symm
 ·have:(List.range m).countP (fun i=>!(Array.replicate ops.size false).getD i false)≤m:=by
   have:=List.countP_le_length (p:=fun i=>!(Array.replicate ops.size false).getD i false) (l:=List.range m)
   simpa using this
  omega
theorem dvM {K : Env→List (Int × DV)→Prop} (hv : VOK P C o (AZ (o.looksAt ops) vals++env0) H v) (h : DKM P C ops H env0 tm i0 ty q (n+1) ((t,v)::vals) ps l K) (hd : o.dst=some t:=by rfl) (hg : grd ops (AZ (o.looksAt ops) vals++env0) o true=true:=by rfl) (h0 : NT (get env0 t)=true:=by rfl)
  (hn:(vals.map (·.1)).contains t=false:=by rfl) (hs:FZ t v=true:=by rfl) (hr:Ch (AZ (o.looksAt ops) vals++env0)=true:=by rfl) (hl:(o.looksAt ops).contains tm=false:=by rfl) (htd:Nat.blt t G6=true:=by rfl) (htm:t ≠ tm:=by decide) (hi:n ≠ i0:=by decide) (ht:okT C.nt t:=by rfl) :
  DKM P C ops H env0 tm i0 ty q n vals ps (o::l) K:=by
 obtain ⟨fin,qs,h1,h2,h3⟩:=h
 exact ⟨fin,qs,.run hi hd ht h0 hn hs hg hv hr hl (Nat.blt_eq ▸ htd) htm h1,h2,h3⟩
theorem Zi {K : Env→List (Int × DV)→Prop} (h : DKM P C ops H env0 tm i0 ty q (i0+1) ((tm,.om [] [])::vals) ps l K) {ty' : Nat} (ho : o.op=.makeMap ty' none:=by rfl) (hd : o.dst=some tm:=by rfl) (hg : grd ops (AZ (o.looksAt ops) vals++env0) o true=true:=by rfl) (h0 : NT (get env0 tm)=true:=by rfl)
  (hn:(vals.map (·.1)).contains tm=false:=by rfl) (hr:Ch (AZ (o.looksAt ops) vals++env0)=true:=by rfl) (hl:(o.looksAt ops).contains tm=false:=by rfl) (htd:Nat.blt tm G6=true:=by rfl) (ht:okT C.nt tm:=by rfl) :
  DKM P C ops H env0 tm i0 ty q i0 vals ps (o::l) K:=by
 obtain ⟨fin,qs,h1,h2,h3⟩:=h
 exact ⟨fin,qs,.mk hd ht h0 hn hg (YU ho) hr hl (Nat.blt_eq ▸ htd) h1,h2,h3⟩
theorem RR {K : Env→List (Int × DV)→Prop} {x y : Operand} {z : Int} {d : DV} (h : DKM P C ops H env0 tm i0 ty q (n+1) ((G6+n,.un)::vals) (ps++[(z,d)]) l K) (hop : o.op=.insert ty (.tmp tm) x y:=by rfl) (hx : ∀ e,lk e x=.d (.i q z):=by intro e;rfl) (hy : ∀ e,lk e y=.d d:=by intro e;rfl) (hd : o.dst=none:=by rfl)
  (hgn:o.guard=none:=by rfl) (hdi:EY ops n i0=true:=by kernel_rfl) (h0:get env0 (G6+n)=.un:=by rfl) (hi:n ≠ i0:=by decide):DKM P C ops H env0 tm i0 ty q n vals ps (o::l) K:=by
 obtain ⟨fin,qs,h1,h2,h3⟩:=h
 exact ⟨fin,qs,.ins hi hd hgn hop hx (.inl hy) hdi h0 h1,h2,h3⟩
theorem Mi {K : Env→List (Int × DV)→Prop} {x : Operand} {s : Nat} {z : Int} {d : DV} (h : DKM P C ops H env0 tm i0 ty q (n+1) ((G6+n,.un)::vals) (ps++[(z,d)]) l K) (hop : o.op=.insert ty (.tmp tm) x (.tmp s):=by rfl) (hy : get (AZ (o.looksAt ops) vals++env0) s=.d d:=by rfl) (hs : (o.looksAt ops).contains s=true:=by rfl) (hst : s ≠ tm:=by decide)
  (hx:∀ e,lk e x=.d (.i q z):=by intro e;rfl) (hd:o.dst=none:=by rfl) (hgn:o.guard=none:=by rfl) (hdi:EY ops n i0=true:=by kernel_rfl) (h0:get env0 (G6+n)=.un:=by rfl) (hi:n ≠ i0:=by decide):DKM P C ops H env0 tm i0 ty q n vals ps (o::l) K:=by
 obtain ⟨fin,qs,h1,h2,h3⟩:=h
 exact ⟨fin,qs,.ins hi hd hgn hop hx (.inr ⟨s,rfl,hst,List.contains_iff_mem.1 hs,hy⟩) hdi h0 h1,h2,h3⟩
theorem dzM {K : Env→List (Int × DV)→Prop} (hnd : (ps.map (·.1)).Nodup) (h : K vals ps) : DKM P C ops H env0 tm i0 ty q n vals ps [] K:=⟨vals,ps,.nil n vals ps,hnd,h⟩
end
end Go.FL
namespace Go.FL
open Go Go.Proofs
section
variable {P : Program} {C : Cx} {o : Oper} {ops : Array Oper} {Q : Exit→Env→Aj→Prop} {env : Env} {H : Aj} {k : Nat} {l : List Oper}
theorem asu {x : Operand} {t : Nat} (h : RL P C ops Q (k+1) l ((t,.un)::env) H) (hg : grd ops env o true=true:=by rfl) (ho : o.op=.assign x:=by rfl) (hd : o.dst=some t:=by rfl) (hf : Aq (get env t)=false:=by rfl) (ht : okT C.nt t:=by rfl) : RL P C ops Q k (o::l) env H:=by
 rw [← An hf] at h
 exact .go hg (.pure (by simp [ho]) hd ht (fun X a w I μ O _ hs=>⟨a.eval x,by simp [execOp,ho],[],.un _,List.nodup_nil,by simp⟩) h)
theorem freshK.nil {q : IntKind} {z : Int} : freshK q z []:=nofun
theorem freshK.snoc {q : IntKind} {z z' : Int} {ks : List DV} (h : freshK q z ks) (hz : z' ≠ z) : freshK q z (ks++[.i q z']):=fun k hk=>by
 rcases List.mem_append.1 hk with h1 | h1
 ·exact h k h1
 ·rw [List.mem_singleton] at h1
  exact ⟨z',h1,hz⟩
end
theorem Ih : Tryz.prog.underlying 61=some (.map 21 60):=by kernel_rfl
theorem VO : Tryz.prog.underlying 95=some (.map 21 73):=by kernel_rfl
theorem gkR : Tryz.prog.underlying 21=some (.int .i32):=by kernel_rfl
def Xw : List (Int × DV):=[(43,.fn 78 [] []),(45,.fn 79 [] []),(8968,.fn 80 [] []),(8970,.fn 81 [] []),(124,.fn 82 [] []),(33,.fn 83 [] []),(42,.fn 84 [] []),(215,.fn 85 [] []),(247,.fn 87 [] []),(126,.fn 89 [] [])]
theorem WK : Fn Tryz.prog 31 [] (.d (.mp (Xw.map fun p=>.i .i32 p.1) (Xw.map (·.2)))):=by
 refine Fn.of (rs:=[.tmp 0]) (nt:=3) Tryz.func31 rfl rfl rfl (by simp) rfl ?_;refine .seq ?_;refine .region ?_;refine asu ?_;refine rn ?_;refine .seq ?_;refine .region ?_;refine vk (YU) ?_;refine NK Ih gkR freshK.nil ?_;refine NK Ih gkR (freshK.snoc (z:=45) (z':=43) freshK.nil (by decide)) ?_;refine NK Ih gkR (freshK.snoc (z:=8968) (z':=45) (freshK.snoc (z:=8968) (z':=43) freshK.nil (by decide)) (by decide)) ?_;refine NK Ih gkR (freshK.snoc (z:=8970) (z':=8968) (freshK.snoc (z:=8970) (z':=45) (freshK.snoc (z:=8970) (z':=43) freshK.nil (by decide)) (by decide)) (by decide)) ?_;refine NK Ih gkR (freshK.snoc (z:=124) (z':=8970) (freshK.snoc (z:=124) (z':=8968) (freshK.snoc (z:=124) (z':=45) (freshK.snoc (z:=124) (z':=43) freshK.nil (by decide)) (by decide)) (by decide)) (by decide)) ?_;refine NK Ih gkR (freshK.snoc (z:=33) (z':=124) (freshK.snoc (z:=33) (z':=8970) (freshK.snoc (z:=33) (z':=8968) (freshK.snoc (z:=33) (z':=45) (freshK.snoc (z:=33) (z':=43) freshK.nil (by decide)) (by decide)) (by decide)) (by decide)) (by decide)) ?_;refine NK Ih gkR (freshK.snoc (z:=42) (z':=33) (freshK.snoc (z:=42) (z':=124) (freshK.snoc (z:=42) (z':=8970) (freshK.snoc (z:=42) (z':=8968) (freshK.snoc (z:=42) (z':=45) (freshK.snoc (z:=42) (z':=43) freshK.nil (by decide)) (by decide)) (by decide)) (by decide)) (by decide)) (by decide)) ?_;refine NK Ih gkR (freshK.snoc (z:=215) (z':=42) (freshK.snoc (z:=215) (z':=33) (freshK.snoc (z:=215) (z':=124) (freshK.snoc (z:=215) (z':=8970) (freshK.snoc (z:=215) (z':=8968) (freshK.snoc (z:=215) (z':=45) (freshK.snoc (z:=215) (z':=43) freshK.nil (by decide)) (by decide)) (by decide)) (by decide)) (by decide)) (by decide)) (by decide)) ?_;refine NK Ih gkR (freshK.snoc (z:=247) (z':=215) (freshK.snoc (z:=247) (z':=42) (freshK.snoc (z:=247) (z':=33) (freshK.snoc (z:=247) (z':=124) (freshK.snoc (z:=247) (z':=8970) (freshK.snoc (z:=247) (z':=8968) (freshK.snoc (z:=247) (z':=45) (freshK.snoc (z:=247) (z':=43) freshK.nil (by decide)) (by decide)) (by decide)) (by decide)) (by decide)) (by decide)) (by decide)) (by decide)) ?_;refine NK Ih gkR (freshK.snoc (z:=126) (z':=247) (freshK.snoc (z:=126) (z':=215) (freshK.snoc (z:=126) (z':=42) (freshK.snoc (z:=126) (z':=33) (freshK.snoc (z:=126) (z':=124) (freshK.snoc (z:=126) (z':=8970) (freshK.snoc (z:=126) (z':=8968) (freshK.snoc (z:=126) (z':=45) (freshK.snoc (z:=126) (z':=43) freshK.nil (by decide)) (by decide)) (by decide)) (by decide)) (by decide)) (by decide)) (by decide)) (by decide)) (by decide)) ?_;refine RL.gh (Gh.omf (t:=1) rfl) ?_;refine RL.gh (Gh.keep [1] rfl) ?_;refine vk (Aa) ?_;refine asd ?_;refine rn ?_;refine .ret ?_
 exact ⟨rfl,rfl⟩
theorem Nx {z : Int} : Fn Tryz.prog 140 [.i .i64 z] (.d (.fn 210 [] [.ptr [.i .i64 z]])):=by
 refine Fn.of (rs:=[.tmp 2]) (nt:=4) Tryz.func140 rfl rfl rfl (by simp) rfl ?_;refine .seq ?_;refine .region ?_;refine vk (Ut) ?_;refine asd ?_;refine rn ?_;refine .seq ?_;refine .region ?_;refine vk (Ud) ?_;refine asd ?_;refine rn ?_;refine .ret ?_
 exact ⟨rfl,rfl⟩
theorem DY {c : RT} {f : Nat} : Fn Tryz.prog 141 [.ag [.b c.1,.sl (L c.2.1),.sl (L c.2.2)],.fn f [] []] (.d (.fn 212 [] [.ptr [.fn f [] []],.ptr [.b c.1,.sl (L c.2.1),.sl (L c.2.2)]])):=by
 refine Fn.of (rs:=[.tmp 4]) (nt:=6) Tryz.func141 rfl rfl rfl (by simp) rfl ?_;refine .seq ?_;refine .region ?_;refine vk (vbx) ?_;refine vk (Ut) ?_;refine asd ?_;refine rn ?_;refine .seq ?_;refine .region ?_;refine vk (Ud) ?_;refine asd ?_;refine rn ?_;refine .ret ?_
 exact ⟨rfl,rfl⟩
theorem HL {f : Nat} : Fn Tryz.prog 148 [.fn f [] []] (.d (.fn 214 [] [.ptr [.fn f [] []]])):=by
 refine Fn.of (rs:=[.tmp 2]) (nt:=4) Tryz.func148 rfl rfl rfl (by simp) rfl ?_;refine .seq ?_;refine .region ?_;refine vk (Ut) ?_;refine asd ?_;refine rn ?_;refine .seq ?_;refine .region ?_;refine vk (Ud) ?_;refine asd ?_;refine rn ?_;refine .ret ?_
 exact ⟨rfl,rfl⟩
def XH (c : RT) : List (Int × DV):=[(43,.fn 132 [] []),(215,.fn 134 [] []),(45,.fn 136 [] []),(247,.fn 88 [] []),(124,.fn 137 [] []),(42,.fn 138 [] []),(33,.fn 139 [] []),(8968,.fn 210 [] [.ptr [.i .i64 1]]),(8970,.fn 210 [] [.ptr [.i .i64 (-1)]]),(60,.fn 212 [] [.ptr [.fn 142 [] []],.ptr [.b c.1,.sl (L c.2.1),.sl (L c.2.2)]]),(8804,.fn 212 [] [.ptr [.fn 143 [] []],.ptr [.b c.1,.sl (L c.2.1),.sl (L c.2.2)]]),(61,.fn 212 [] [.ptr [.fn 144 [] []],.ptr [.b c.1,.sl (L c.2.1),.sl (L c.2.2)]]),(8805,.fn 212 [] [.ptr [.fn 145 [] []],.ptr [.b c.1,.sl (L c.2.1),.sl (L c.2.2)]]),(62,.fn 212 [] [.ptr [.fn 146 [] []],.ptr [.b c.1,.sl (L c.2.1),.sl (L c.2.2)]]),(8800,.fn 212 [] [.ptr [.fn 147 [] []],.ptr [.b c.1,.sl (L c.2.1),.sl (L c.2.2)]]),(8743,.fn 214 [] [.ptr [.fn 149 [] []]]),(8744,.fn 214 [] [.ptr [.fn 150 [] []]]),(9074,.fn 214 [] [.ptr [.fn 151 [] []]]),(9073,.fn 214 [] [.ptr [.fn 152 [] []]])]
theorem Xm {c : RT} : Fn Tryz.prog 59 [.ag [.b c.1,.sl (L c.2.1),.sl (L c.2.2)]] (.d (.mp ((XH c).map fun p=>.i .i32 p.1) ((XH c).map (·.2)))):=by
 refine Fn.of (rs:=[.tmp 2]) (nt:=23) Tryz.func59 rfl rfl rfl (by simp) rfl ?_;refine .seq ?_;refine .region ?_;refine vk (vbx) ?_;refine asu ?_;refine rn ?_;refine .gh (Gh.keep [1] rfl) ?_;refine .seq ?_;refine AW.drawnM 38 3 0 VO gkR A9 (by kernel_rfl) ?_;refine Zi ?_;refine RR ?_;refine RR ?_;refine RR ?_;refine RR ?_;refine RR ?_;refine RR ?_;refine RR ?_;refine dvM (Af Nx Tryz.call140) ?_;refine Mi ?_;refine dvM (Af Nx Tryz.call140) ?_;refine Mi ?_;refine dvM (Ao Au Al) ?_;refine dvM (Af DY Tryz.call141) ?_;refine Mi ?_;refine dvM (Ao Au Al) ?_;refine dvM (Af DY Tryz.call141) ?_;refine Mi ?_;refine dvM (Ao Au Al) ?_;refine dvM (Af DY Tryz.call141) ?_;refine Mi ?_;refine dvM (Ao Au Al) ?_;refine dvM (Af DY Tryz.call141) ?_;refine Mi ?_;refine dvM (Ao Au Al) ?_;refine dvM (Af DY Tryz.call141) ?_;refine Mi ?_;refine dvM (Ao Au Al) ?_;refine dvM (Af DY Tryz.call141) ?_;refine Mi ?_;refine dvM (Af HL Tryz.call148) ?_;refine Mi ?_;refine dvM (Af HL Tryz.call148) ?_;refine Mi ?_;refine dvM (Af HL Tryz.call148) ?_;refine Mi ?_;refine dvM (Af HL Tryz.call148) ?_;refine Mi ?_;refine dzM (by show List.Nodup [(43:Int),(215:Int),(45:Int),(247:Int),(124:Int),(42:Int),(33:Int),(8968:Int),(8970:Int),(60:Int),(8804:Int),(61:Int),(8805:Int),(62:Int),(8800:Int),(8743:Int),(8744:Int),(9074:Int),(9073:Int)];decide) ?_;refine RL.gh (Gh.omf (t:=3) rfl) ?_;refine RL.gh (Gh.keep [3] rfl) ?_;refine vk (Aa) ?_;refine asd ?_;refine rn ?_;refine .ret ?_
 exact ⟨rfl,rfl⟩
end Go.FL
namespace Go.FL
open Go Go.RowKit
def VN {α β : Type} (T : List (Int × FW α β)) : List (Int × DV):=T.map fun p=>(p.1,p.2.dv)
def W0 {α β : Type} (q : IntKind) (T : List (Int × FW α β)) : DV:=.mp ((VN T).map fun p=>.i q p.1) ((VN T).map (·.2))
def FQ {α β : Type} (T : List (Int × FW α β)) (z : Int) : Option (FW α β):=(T.find? fun p=>decide (p.1=z)).map (·.2)
def T6 {α β : Type} (x : Option α) (a : β) (f : α→β) : β:=match x with
 | none=>a
 | some y=>f y
theorem So {α β : Type} {x : Option α} {a r : β} {f : α→β} (e : x=none) (h : T6 x a f=r) : a=r:=by subst e;exact h
theorem Sy {α β : Type} {x : Option α} {y : α} {a r : β} {f : α→β} (e : x=some y) (h : T6 x a f=r) : f y=r:=by subst e;exact h
theorem Mo {α β : Type} {T : List (Int × FW α β)} {z : Int} {f : FW α β} (h : FQ T z=some f) : (z,f) ∈ T:=by
 unfold FQ at h
 simp only [Option.map_eq_some_iff] at h
 obtain ⟨p,hp,rfl⟩:=h
 have h1:=List.find?_some hp
 have h2:=List.mem_of_find?_eq_some hp
 have:p.1=z:=by simpa using h1
 rw [← this];exact h2
theorem Xg {α β : Type} {T : List (Int × FW α β)} {z : Int} (h : FQ T z=none) : ∀ p ∈ T,p.1 ≠ z:=fun p hp=>by
 unfold FQ at h
 rw [Option.map_eq_none_iff,List.find?_eq_none] at h
 simpa using h p hp
theorem SS {α β : Type} (q : IntKind) (T : List (Int × FW α β)) : ((VN T).map fun p=>DV.i q p.1).zip ((VN T).map (·.2))=T.map fun p=>(DV.i q p.1,p.2.dv):=by
 rw [Kd];unfold VN;rw [List.map_map];rfl
theorem OM {α β : Type} : ∀ {T : List (Int × FW α β)},(T.map (·.1)).Nodup→∀ {z f g},(z,f) ∈ T→(z,g) ∈ T→f=g
 | p::T,hn,z,f,g,h1,h2=>by
  rw [List.map_cons,List.nodup_cons] at hn
  rcases List.mem_cons.1 h1 with e1 | h1 <;> rcases List.mem_cons.1 h2 with e2 | h2
  ·rw [← e1] at e2;cases e2;rfl
  ·exact absurd (List.mem_map.2 ⟨_,h2,by rw [← e1]⟩) hn.1
  ·exact absurd (List.mem_map.2 ⟨_,h1,by rw [← e2]⟩) hn.1
  ·exact OM hn.2 h1 h2
section
variable {P : Program} {C : Cx} {o : Oper} {ops : Array Oper} {Q : Exit→Env→Aj→Prop} {env : Env} {H : Aj} {k : Nat} {l : List Oper}
theorem Xu {α β : Type} {T : List (Int × FW α β)} {z : Int} {f : FW α β} {x y : Operand} {ty kt et : TypeId} {q : IntKind} (hnd : (T.map (·.1)).Nodup) (hu : P.underlying ty=some (.map kt et)) (hk : P.underlying kt=some (.int q)) (h : FQ T z=some f)
  (ho:o.op=.lookup ty x y false:=by rfl) (hx:Ba (lk env x)=some (W0 q T):=by rfl) (hy:Ba (lk env y)=some (.i q z):=by rfl):VOK P C o env H (.d f.dv):=by
 refine Zh (q:=q) (z:=z) hu hk (fun k hk=>?_) ?_ (fun d' hd=>?_) ho hx hy
 ·obtain ⟨p,_,rfl⟩:=List.mem_map.1 hk;exact ⟨_,rfl⟩
 ·rw [SS];exact List.mem_map.2 ⟨_,Mo h,rfl⟩
 ·rw [SS] at hd
  obtain ⟨p,hp,e⟩:=List.mem_map.1 hd
  simp only [Prod.mk.injEq,DV.i.injEq,true_and] at e
  obtain ⟨e1,rfl⟩:=e
  have:(z,p.2) ∈ T:=by rw [← e1];exact hp
  rw [OM hnd this (Mo h)]
theorem Xr {α β : Type} {T : List (Int × FW α β)} {z : Int} {x y : Operand} {ty kt et : TypeId} {q : IntKind} (hu : P.underlying ty=some (.map kt et)) (hk : P.underlying kt=some (.int q)) (hz : ∀ w,(zeroValue et).run P w=.ok .nilFunc w) (h : FQ T z=none)
  (ho:o.op=.lookup ty x y false:=by rfl) (hx:Ba (lk env x)=some (W0 q T):=by rfl) (hy:Ba (lk env y)=some (.i q z):=by rfl):VOK P C o env H (.d .nf):=by
 refine Zr (q:=q) (z:=z) hu hk hz (fun _ _=>.nf) (fun k hk=>?_) ho hx hy
 obtain ⟨p,hp,rfl⟩:=List.mem_map.1 hk
 obtain ⟨p',hp',rfl⟩:=List.mem_map.1 hp
 exact ⟨_,rfl,Xg h p' hp'⟩
theorem Za {xt yt : TypeId} {x y : Operand} {d : DV} (hu : FS P xt=true) (hf : ∃ f fs cs,d=.fn f fs cs) (ho : o.op=.binOp .eql xt x y yt:=by rfl) (hx : Ba (lk env x)=some d:=by rfl) (hy : Ba (lk env y)=some .nf:=by rfl) : VOK P C o env H (.d (.b false)):=by
 obtain ⟨f,fs,cs,rfl⟩:=hf
 exact Zu hu ho hx hy
end
end Go.FL
namespace Go.FL
open Go Go.Proofs
abbrev Ap : Type:=FW (RT) (RT × Int)
abbrev CC (f : Ap) : Prop:=f.OK Tryz.prog (fun x=>[.ag [.b x.1,.sl (L x.2.1),.sl (L x.2.2)]]) (fun r=>.tup [.d (.ag [.b r.1.1,.sl (L r.1.2.1),.sl (L r.1.2.2)]),.d (.i .i64 r.2)])
abbrev Ak : Type:=FW (RT × RT) (RT × Int)
abbrev Bj (f : Ak) : Prop:=f.OK Tryz.prog (fun x=>[.ag [.b x.1.1,.sl (L x.1.2.1),.sl (L x.1.2.2)],.ag [.b x.2.1,.sl (L x.2.2.1),.sl (L x.2.2.2)]]) (fun r=>.tup [.d (.ag [.b r.1.1,.sl (L r.1.2.1),.sl (L r.1.2.2)]),.d (.i .i64 r.2)])
abbrev Es : Type:=FW (Bool × Bool) (Bool)
abbrev JK (f : Es) : Prop:=f.OK Tryz.prog (fun x=>[.b x.1,.b x.2]) (fun r=>.d (.b r))
abbrev Ay : Type:=FW (Int) (Itm × Int)
abbrev J8 (f : Ay) : Prop:=f.OK Tryz.prog (fun x=>[.i .i64 x]) (fun r=>.tup [.d (.ag [.i .u8 r.1.kind,.b r.1.num.1,.sl (L r.1.num.2.1),.sl (L r.1.num.2.2),.i .i32 r.1.char,.sl (Ars r.1.box)]),.d (.i .i64 r.2)])
theorem XD : BT Tryz.prog 34=some true:=by kernel_rfl
theorem VJ : AF Tryz.prog 34=5:=by kernel_rfl
theorem SJ : Bn Tryz.prog 34 1=some (1,3):=by kernel_rfl
theorem Y8 : CZ Tryz.prog 34=some [(0,1),(1,3),(4,1)]:=by kernel_rfl
theorem Xq : (Tryz.prog.info? 34).bind (·.zero)=some (.agg #[.int .i64 0,.bool false,.slice none 0 0,.slice none 0 0,.int .i64 0]):=by kernel_rfl
theorem Xx (w : World) (I : Nat→Prop) : RepAll w I [.i .i64 0,.b false,.sl [],.sl [],.i .i64 0] (Value.agg #[.int .i64 0,.bool false,.slice none 0 0,.slice none 0 0,.int .i64 0]).cells.toList:=.cons (.i _ _) (.cons (.b _) (.cons (.sl0 _ _) (.cons (.sl0 _ _) (.cons (.i _ _) (.nil)))))
theorem Oh : BT Tryz.prog 75=some true:=by kernel_rfl
theorem Iq : AF Tryz.prog 75=2:=by kernel_rfl
theorem WP : Bn Tryz.prog 75 0=some (0,1):=by kernel_rfl
theorem PF : Bn Tryz.prog 75 1=some (1,1):=by kernel_rfl
theorem VX : CZ Tryz.prog 75=some [(0,1),(1,1)]:=by kernel_rfl
theorem Of : (Tryz.prog.info? 75).bind (·.zero)=some (.agg #[.nilFunc,.int .i32 0]):=by kernel_rfl
theorem OV (w : World) (I : Nat→Prop) : RepAll w I [.nf,.i .i32 0] (Value.agg #[.nilFunc,.int .i32 0]).cells.toList:=.cons .nf (.cons (.i _ _) .nil)
theorem Hy : BT Tryz.prog 60=some false:=by kernel_rfl
theorem GR : FS Tryz.prog 60=true:=by kernel_rfl
theorem JU : BT Tryz.prog 73=some false:=by kernel_rfl
theorem FN : FS Tryz.prog 73=true:=by kernel_rfl
theorem Mc : BT Tryz.prog 141=some false:=by kernel_rfl
theorem Il : BT Tryz.prog 143=some false:=by kernel_rfl
def Db (a0 : RT) : Nat→RT→Int→(List Nat)→(List Nat)→Option (RT × Int)
 | 0,_,_,_,_=>none
 | k+1,s5,s6,s7,s8=>((Eg s8 a0.2.1).bind fun x9=>(if x9≤0 then ((Nh ([s7,s8])).bind fun x10=>(if 32<((List.length x10:Nat):Int) then (some ((false,[],[]),8)) else (D9.bind fun x11=>((UA ([s8,x11])).bind fun x12=>(Db a0 k s5 s6 x10 x12))))) else (D9.bind fun x13=>(some ((false,s7,x13),0)))))
def G0 (a0 : RT) : Option (RT × Int):=((DT a0).bind fun x1=>(if x1=true then ((FH a0).bind fun x2=>(if x2=true then (D9.bind fun x3=>(D9.bind fun x4=>(Db a0 Bi (false,[],[]) 0 x3 x4))) else (some ((false,[],[]),3)))) else (some ((false,[],[]),22))))
theorem Lx {a0 : RT} {r : RT × Int} (h : G0 a0=some r) :
  Fn Tryz.prog 83 [.ag [.b a0.1,.sl (L a0.2.1),.sl (L a0.2.2)]] (.tup [.d (.ag [.b r.1.1,.sl (L r.1.2.1),.sl (L r.1.2.2)]),.d (.i .i64 r.2)]):=by
 unfold G0 at h
 refine Fn.ofC (rs:=[.cell 2 32,.tmp 3]) (nt:=38) Tryz.func83 rfl rfl rfl (by simp) rfl ?_;refine .sr ?_;refine vk (vbx) ?_;refine vk (van (Ag BH) BL) ?_;refine ar [1,2,3] ?_;refine .seq ?_;refine .block ?_;refine .sr ?_;refine vk (Ao Au Al) ?_
 obtain ⟨x1,hx1,h⟩:=bnd h
 refine vk (Af (DG hx1) Tryz.call45) ?_;refine vk (vnt) ?_;refine ar [1,2,3,6] ?_
 by_cases hc:x1=true
 ·replace h:=Ad hc h
  refine cnf (ntf hc) ?_;refine .sr ?_;refine vk (Ao Au Al) ?_
  obtain ⟨x2,hx2,h⟩:=bnd h
  refine vk (Af (Gw hx2) Tryz.call163) ?_;refine vk (vnt) ?_;refine ar [1,2,3,11] ?_
  by_cases hc:x2=true
  ·replace h:=Ad hc h
   refine cnf (ntf hc) ?_;refine .skip ?_
   show AW _ _ _ _ _ _
   refine .sr ?_
   obtain ⟨x3,hx3,h⟩:=bnd h
   refine vk ((Af (B1 hx3) Tryz.call121).deep) ?_;refine ar [1,2,3,4] ?_;refine .seq ?_;refine .sr ?_
   obtain ⟨x4,hx4,h⟩:=bnd h
   refine vk ((Af (B1 hx4) Tryz.call121).deep) ?_;refine ar [1,2,3,4,5] ?_;refine .block ?_
   refine .loop (.gk [1,2,3,4,5] ?_)
   refine AL.ind (σ:=Nat × RT × Int × (List Nat) × (List Nat)) (m:=fun p=>p.1) (e:=fun p=>[(1,.d (.ptr [.b a0.1,.sl (L a0.2.1),.sl (L a0.2.2)])),(2,.nb [.b p.2.1.1,.sl (L p.2.1.2.1),.sl (L p.2.1.2.2)]),(3,.d (.i .i64 p.2.2.1)),(4,.d (.sl (L p.2.2.2.1))),(5,.d (.sl (L p.2.2.2.2)))]) (h:=fun p=>[]) (I:=fun p=>Db a0 p.1 p.2.1 p.2.2.1 p.2.2.2.1 p.2.2.2.2=some r) ?_ (Bi,(false,[],[]),0,x3,x4) h
   rintro ⟨k,s5,s6,s7,s8⟩ h ih
   dsimp only at h ih ⊢
   rcases k with _ | k
   ·rw [Db] at h;cases h
   rw [Db] at h
   refine .seq ?_;refine .sr ?_;refine vk (Aa) ?_;refine vk (vfa BK) ?_;refine vk (Am CS) ?_
   obtain ⟨x9,hx9,h⟩:=bnd h
   refine vk (Af (CV hx9) Tryz.call164) ?_;refine vk (vbi) ?_;refine rk [1,2,3,4,5,22] ?_
   by_cases hc:x9≤0
   ·replace h:=Ad hc h
    refine cnt (dT hc) ?_;refine .skip ?_
    show AW _ _ _ _ _ _
    refine .seq ?_;refine .block ?_;refine .sr ?_;refine vk (Aa) ?_;refine vk (Aa) ?_;refine vk ((E2 (FU [s7,s8]) Oj).deep) ?_
    obtain ⟨x10,hx10,h⟩:=bnd h
    refine vk (Af (LX hx10) Tryz.call166) ?_;refine ar [1,2,3,4,5] ?_;refine .sr ?_;refine vk (Aa) ?_;refine vk (Bk (Ab _) (A1 _) Io) ?_;refine vk (vbi) ?_;refine rk [1,2,3,4,5,33] ?_
    by_cases hc:32<((List.length x10:Nat):Int)
    ·replace h:=Ad hc h
     refine cnt (dT hc) ?_;refine .sr ?_;refine vk (vbd Ea BH BL) ?_
     refine stn ?_ Al (by decide)
     refine ar [1,2,3,4,5] ?_;refine .ret ?_
     cases h
     exact ⟨_,_,⟨.inr rfl,Au,Al,(by decide:(0:Nat)<3)⟩,rfl,rfl⟩
    replace h:=Ae hc h
    refine cnf (dF hc) ?_;refine .skip ?_
    show AW _ _ _ _ _ _
    refine .region ?_;refine vk (Aa) ?_
    obtain ⟨x11,hx11,h⟩:=bnd h
    refine vk ((Af (B1 hx11) Tryz.call121).deep) ?_;refine vk ((E2 (FU [s8,x11]) Oj).deep) ?_
    obtain ⟨x12,hx12,h⟩:=bnd h
    refine vk (Af (MA hx12) Tryz.call165) ?_;refine asd ?_;refine .nil ?_;refine AL.gk [1,2,3,4,5] ?_
    exact ih (k,s5,s6,x10,x12) h (Nat.lt_succ_self _)
   replace h:=Ae hc h
   refine cnf (dF hc) ?_;refine .exit ?_
   show AW _ _ _ _ _ _
   refine .sr ?_;refine vk (Aa) ?_
   obtain ⟨x13,hx13,h⟩:=bnd h
   refine vk ((Af (B1 hx13) Tryz.call121).deep) ?_;refine vk (vbd Ea BH BL) ?_
   refine stn ?_ Al (by decide)
   refine ar [2,3] ?_;refine .ret ?_
   cases h
   exact ⟨_,_,⟨.inr rfl,Au,Al,(by decide:(0:Nat)<3)⟩,rfl,rfl⟩
  replace h:=Ae hc h
  refine cnt (ntt (bf hc)) ?_;refine .sr ?_;refine vk (vbd Ea BH BL) ?_
  refine stn ?_ Al (by decide)
  refine ar [1,2,3] ?_;refine .ret ?_
  cases h
  exact ⟨_,_,⟨.inr rfl,Au,Al,(by decide:(0:Nat)<3)⟩,rfl,rfl⟩
 replace h:=Ae hc h
 refine cnt (ntt (bf hc)) ?_;refine .sr ?_;refine vk (vbd Ea BH BL) ?_
 refine stn ?_ Al (by decide)
 refine ar [1,2,3] ?_;refine .ret ?_
 cases h
 exact ⟨_,_,⟨.inr rfl,Au,Al,(by decide:(0:Nat)<3)⟩,rfl,rfl⟩
def Dr (a0 : Bool) : Option (RT):=(if a0=true then ((BR 1).bind fun x1=>(some (x1))) else ((BR 0).bind fun x2=>(some (x2))))
theorem Er {a0 : Bool} {r : RT} (h : Dr a0=some r) :
  Fn Tryz.prog 91 [.b a0] (.d (.ag [.b r.1,.sl (L r.2.1),.sl (L r.2.2)])):=by
 unfold Dr at h
 refine Fn.ofC (rs:=[.cell 2 32]) (nt:=6) Tryz.func91 rfl rfl rfl (by simp) rfl ?_;refine .sr ?_;refine vk (van (Ag BH) BL) ?_;refine rk [0,2] ?_;refine .seq ?_;refine .sr ?_;refine vk (Aa) ?_;refine rk [2,3] ?_
 by_cases hc:a0=true
 ·replace h:=Ad hc h
  refine cnt hc ?_;refine .sr ?_
  obtain ⟨x1,hx1,h⟩:=bnd h
  refine vk (Af (Bx hx1) Tryz.call72) ?_
  refine stn ?_ Al (by decide)
  refine rk [2] ?_;refine .ret ?_
  cases h
  exact ⟨_,⟨.inr rfl,Au,Al,(by decide:(0:Nat)<3)⟩,rfl⟩
 replace h:=Ae hc h
 refine cnf (bf hc) ?_;refine .skip ?_
 show AW _ _ _ _ _ _
 refine .sr ?_
 obtain ⟨x2,hx2,h⟩:=bnd h
 refine vk (Af (Bx hx2) Tryz.call72) ?_
 refine stn ?_ Al (by decide)
 refine rk [2] ?_;refine .ret ?_
 cases h
 exact ⟨_,⟨.inr rfl,Au,Al,(by decide:(0:Nat)<3)⟩,rfl⟩
def Gf (a0 : RT) : Option (Bool × Bool):=((No a0).bind fun x1=>(some ((decide (x1.1=1)),(x1.2 && ((decide (x1.1=0)) || (decide (x1.1=1)))))))
theorem GW {a0 : RT} {r : Bool × Bool} (h : Gf a0=some r) :
  Fn Tryz.prog 90 [.ag [.b a0.1,.sl (L a0.2.1),.sl (L a0.2.2)]] (.tup [.d (.b r.1),.d (.b r.2)]):=by
 unfold Gf at h
 refine Fn.of (rs:=[.tmp 2,.tmp 3]) (nt:=22) Tryz.func90 rfl rfl rfl (by simp) rfl ?_;refine .sr ?_;refine vk (vbx) ?_;refine asd ?_;refine ar [1,2,3] ?_;refine .sr ?_;refine vk (Ao Au Al) ?_
 obtain ⟨x1,hx1,h⟩:=bnd h
 refine vk (VOK.tupd (vs:=[.i .i64 x1.1,.b x1.2]) (Af (Qz hx1) Tryz.call171)) ?_;refine vk (Aa) ?_;refine vk (vex) ?_;refine vk (vex) ?_;refine asd ?_;refine ar [2,3,4,5] ?_;refine .seq ?_;refine AW.mr (σ:=Unit) (fun _=>True) (fun _=>[(2,.d (.b (decide (x1.1=1)))),(3,.d (.b (x1.2 && ((decide (x1.1=0)) || (decide (x1.1=1))))))]) (fun _=>[]) ?_ ?_
 ·skip
  refine .region ?_;refine vk (Aa) ?_;refine vk (vbi) ?_;refine vk (Aa) ?_
  by_cases hc:x1.2=true
  ·have hb0:x1.2=true:=hc
   refine vk (VOK.lit (Aa) hb0) ?_;refine vk (Aa) ?_;refine vk (vbi) ?_
   by_cases hc:x1.1=0
   ·have hb1:(decide (x1.1=0))=true:=(dT hc)
    refine vk (VOK.lit (Aa) hb1) ?_;refine gf ?_;refine gf ?_;refine vk (Ai) ?_;refine vk (Ai) ?_;refine asd ?_;refine asd ?_;refine RL.gk [2,3] ?_;refine .nil ?_
    exact jr () trivial (by simp only [hb0,hb1];rfl)
   have hb1:(decide (x1.1=0))=false:=(dF hc)
   refine vk (VOK.lit (Aa) hb1) ?_;refine vk (Aa) ?_;refine vk (vbi) ?_;refine vk (Ai) ?_;refine vk (Ai) ?_;refine asd ?_;refine asd ?_;refine RL.gk [2,3] ?_;refine .nil ?_
   exact jr () trivial (by simp only [hb0,hb1];rfl)
  have hb0:x1.2=false:=(bf hc)
  refine vk (VOK.lit (Aa) hb0) ?_;refine gf ?_;refine gf ?_;refine gfu ?_;refine gf ?_;refine gf ?_;refine gf ?_;refine vk (Ai) ?_;refine asd ?_;refine asd ?_;refine RL.gk [2,3] ?_;refine .nil ?_
  exact jr () trivial (by simp only [hb0];rfl)
 rintro _ _
 refine .ret ?_
 cases h
 exact ⟨by decide,rfl,rfl,rfl⟩
def Cw (a0 : RT) : Option (RT × Int):=((LD ([a0])).bind fun x1=>(some (x1.1,x1.2)))
theorem Gs {a0 : RT} {r : RT × Int} (h : Cw a0=some r) :
  Fn Tryz.prog 78 [.ag [.b a0.1,.sl (L a0.2.1),.sl (L a0.2.2)]] (.tup [.d (.ag [.b r.1.1,.sl (L r.1.2.1),.sl (L r.1.2.2)]),.d (.i .i64 r.2)]):=by
 unfold Cw at h
 refine Fn.ofC (rs:=[.cell 2 32,.tmp 3]) (nt:=9) Tryz.func78 rfl rfl rfl (by simp) rfl ?_;refine .sr ?_;refine vk (vbx) ?_;refine vk (van (Ag BH) BL) ?_;refine ar [1,2,3] ?_;refine .sr ?_;refine vk (Ao Au Al) ?_;refine vk ((E2 (Dx [a0]) FK).deep) ?_
 obtain ⟨x1,hx1,h⟩:=bnd h
 refine vk (VOK.tupd (vs:=[.ag [.b x1.1.1,.sl (L x1.1.2.1),.sl (L x1.1.2.2)],.i .i64 x1.2]) (Af (OW hx1) Tryz.call133)) ?_;refine vk (vex) ?_;refine vk (vex) ?_
 refine stn ?_ Al (by decide)
 refine ar [2,3] ?_;refine .ret ?_
 cases h
 exact ⟨_,_,⟨.inr rfl,Au,Al,(by decide:(0:Nat)<3)⟩,rfl,rfl⟩
def IJ (a0 : RT) : Option (RT × Int):=((GF a0).bind fun x1=>(if x1=0 then ((BR 1).bind fun x2=>(some (x2,0))) else (some ((false,[],[]),3))))
theorem Nr {a0 : RT} {r : RT × Int} (h : IJ a0=some r) :
  Fn Tryz.prog 84 [.ag [.b a0.1,.sl (L a0.2.1),.sl (L a0.2.2)]] (.tup [.d (.ag [.b r.1.1,.sl (L r.1.2.1),.sl (L r.1.2.2)]),.d (.i .i64 r.2)]):=by
 unfold IJ at h
 refine Fn.ofC (rs:=[.cell 2 32,.tmp 3]) (nt:=9) Tryz.func84 rfl rfl rfl (by simp) rfl ?_;refine .sr ?_;refine vk (vbx) ?_;refine vk (van (Ag BH) BL) ?_;refine ar [1,2,3] ?_;refine .seq ?_;refine .sr ?_;refine vk (Ao Au Al) ?_
 obtain ⟨x1,hx1,h⟩:=bnd h
 refine vk (Af (FB hx1) Tryz.call86) ?_;refine vk (vbi) ?_;refine rk [2,3,6] ?_
 by_cases hc:x1=0
 ·replace h:=Ad hc h
  refine cnf (ntf (dT hc)) ?_;refine .skip ?_
  show AW _ _ _ _ _ _
  refine .sr ?_
  obtain ⟨x2,hx2,h⟩:=bnd h
  refine vk (Af (Bx hx2) Tryz.call72) ?_
  refine stn ?_ Al (by decide)
  refine ar [2,3] ?_;refine .ret ?_
  cases h
  exact ⟨_,_,⟨.inr rfl,Au,Al,(by decide:(0:Nat)<3)⟩,rfl,rfl⟩
 replace h:=Ae hc h
 refine cnt (ntt (dF hc)) ?_;refine .sr ?_;refine vk (vbd Ea BH BL) ?_
 refine stn ?_ Al (by decide)
 refine ar [2,3] ?_;refine .ret ?_
 cases h
 exact ⟨_,_,⟨.inr rfl,Au,Al,(by decide:(0:Nat)<3)⟩,rfl,rfl⟩
def GU (a0 : RT) : Option (RT × Int):=((GF a0).bind fun x1=>((BR x1).bind fun x2=>(some (x2,0))))
theorem KT {a0 : RT} {r : RT × Int} (h : GU a0=some r) :
  Fn Tryz.prog 85 [.ag [.b a0.1,.sl (L a0.2.1),.sl (L a0.2.2)]] (.tup [.d (.ag [.b r.1.1,.sl (L r.1.2.1),.sl (L r.1.2.2)]),.d (.i .i64 r.2)]):=by
 unfold GU at h
 refine Fn.ofC (rs:=[.cell 2 32,.tmp 3]) (nt:=7) Tryz.func85 rfl rfl rfl (by simp) rfl ?_;refine .sr ?_;refine vk (vbx) ?_;refine vk (van (Ag BH) BL) ?_;refine ar [1,2,3] ?_;refine .sr ?_;refine vk (Ao Au Al) ?_
 obtain ⟨x1,hx1,h⟩:=bnd h
 refine vk (Af (FB hx1) Tryz.call86) ?_
 obtain ⟨x2,hx2,h⟩:=bnd h
 refine vk (Af (Bx hx2) Tryz.call72) ?_
 refine stn ?_ Al (by decide)
 refine ar [2,3] ?_;refine .ret ?_
 cases h
 exact ⟨_,_,⟨.inr rfl,Au,Al,(by decide:(0:Nat)<3)⟩,rfl,rfl⟩
def G8 (a0 : RT) : Option (RT × Int):=((GF a0).bind fun x1=>(if x1=0 then (some ((false,[],[]),3)) else ((BR 1).bind fun x2=>((JY x2 a0).bind fun x3=>(some (x3.1,x3.2))))))
theorem LA {a0 : RT} {r : RT × Int} (h : G8 a0=some r) :
  Fn Tryz.prog 87 [.ag [.b a0.1,.sl (L a0.2.1),.sl (L a0.2.2)]] (.tup [.d (.ag [.b r.1.1,.sl (L r.1.2.1),.sl (L r.1.2.2)]),.d (.i .i64 r.2)]):=by
 unfold G8 at h
 refine Fn.ofC (rs:=[.cell 2 32,.tmp 3]) (nt:=13) Tryz.func87 rfl rfl rfl (by simp) rfl ?_;refine .sr ?_;refine vk (vbx) ?_;refine vk (van (Ag BH) BL) ?_;refine ar [1,2,3] ?_;refine .seq ?_;refine .sr ?_;refine vk (Ao Au Al) ?_
 obtain ⟨x1,hx1,h⟩:=bnd h
 refine vk (Af (FB hx1) Tryz.call86) ?_;refine vk (vbi) ?_;refine rk [1,2,3,6] ?_
 by_cases hc:x1=0
 ·replace h:=Ad hc h
  refine cnt (dT hc) ?_;refine .sr ?_;refine vk (vbd Ea BH BL) ?_
  refine stn ?_ Al (by decide)
  refine ar [1,2,3] ?_;refine .ret ?_
  cases h
  exact ⟨_,_,⟨.inr rfl,Au,Al,(by decide:(0:Nat)<3)⟩,rfl,rfl⟩
 replace h:=Ae hc h
 refine cnf (dF hc) ?_;refine .skip ?_
 show AW _ _ _ _ _ _
 refine .seq ?_;refine .drawn 5 A9 (by kernel_rfl) ?_
 obtain ⟨x2,hx2,h⟩:=bnd h
 refine dv (Af (Bx hx2) Tryz.call72) ?_;refine dv (Ao Au Al) ?_
 obtain ⟨x3,hx3,h⟩:=bnd h
 refine dv (VOK.tupd (vs:=[.ag [.b x3.1.1,.sl (L x3.1.2.1),.sl (L x3.1.2.2)],.i .i64 x3.2]) (Af (JH hx3) Tryz.call88)) ?_;refine dv (vex) ?_;refine dv (vex) ?_;refine dz ?_
 refine stn ?_ Al (by decide)
 refine ar [2,3] ?_;refine .ret ?_
 cases h
 exact ⟨_,_,⟨.inr rfl,Au,Al,(by decide:(0:Nat)<3)⟩,rfl,rfl⟩
def GV (a0 : RT) : Option (RT × Int):=((Gf a0).bind fun x1=>(if x1.2=true then ((Dr (!x1.1)).bind fun x2=>(some (x2,0))) else (some ((false,[],[]),3))))
theorem K8 {a0 : RT} {r : RT × Int} (h : GV a0=some r) :
  Fn Tryz.prog 89 [.ag [.b a0.1,.sl (L a0.2.1),.sl (L a0.2.2)]] (.tup [.d (.ag [.b r.1.1,.sl (L r.1.2.1),.sl (L r.1.2.2)]),.d (.i .i64 r.2)]):=by
 unfold GV at h
 refine Fn.ofC (rs:=[.cell 2 32,.tmp 3]) (nt:=17) Tryz.func89 rfl rfl rfl (by simp) rfl ?_;refine .sr ?_;refine vk (vbx) ?_;refine vk (van (Ag BH) BL) ?_;refine ar [1,2,3] ?_;refine .sr ?_;refine vk (Ao Au Al) ?_
 obtain ⟨x1,hx1,h⟩:=bnd h
 refine vk (VOK.tupd (vs:=[.b x1.1,.b x1.2]) (Af (GW hx1) Tryz.call90)) ?_;refine vk (Aa) ?_;refine vk (vex) ?_;refine vk (vex) ?_;refine asd ?_;refine ar [2,3,4,5] ?_;refine .seq ?_;refine .sr ?_;refine vk (Aa) ?_;refine vk (vnt) ?_;refine rk [2,3,4,12] ?_
 by_cases hc:x1.2=true
 ·replace h:=Ad hc h
  refine cnf (ntf hc) ?_;refine .skip ?_
  show AW _ _ _ _ _ _
  refine .sr ?_;refine vk (Aa) ?_;refine vk (vnt) ?_
  obtain ⟨x2,hx2,h⟩:=bnd h
  refine vk (Af (Er hx2) Tryz.call91) ?_
  refine stn ?_ Al (by decide)
  refine ar [2,3] ?_;refine .ret ?_
  cases h
  exact ⟨_,_,⟨.inr rfl,Au,Al,(by decide:(0:Nat)<3)⟩,rfl,rfl⟩
 replace h:=Ae hc h
 refine cnt (ntt (bf hc)) ?_;refine .sr ?_;refine vk (vbd Ea BH BL) ?_
 refine stn ?_ Al (by decide)
 refine ar [2,3,4] ?_;refine .ret ?_
 cases h
 exact ⟨_,_,⟨.inr rfl,Au,Al,(by decide:(0:Nat)<3)⟩,rfl,rfl⟩
def C7 (a0 : RT) (a1 : RT) : Option (RT × Int):=((LD ([a0,a1])).bind fun x1=>(some (x1.1,x1.2)))
theorem LC {a0 : RT} {a1 : RT} {r : RT × Int} (h : C7 a0 a1=some r) :
  Fn Tryz.prog 132 [.ag [.b a0.1,.sl (L a0.2.1),.sl (L a0.2.2)],.ag [.b a1.1,.sl (L a1.2.1),.sl (L a1.2.2)]] (.tup [.d (.ag [.b r.1.1,.sl (L r.1.2.1),.sl (L r.1.2.2)]),.d (.i .i64 r.2)]):=by
 unfold C7 at h
 refine Fn.ofC (rs:=[.cell 4 32,.tmp 5]) (nt:=12) Tryz.func132 rfl rfl rfl (by simp) rfl ?_;refine .sr ?_;refine vk (vbx) ?_;refine vk (vbx) ?_;refine vk (van (Ag BH) BL) ?_;refine ar [2,3,4,5] ?_;refine .sr ?_;refine vk (Ao Au Al) ?_;refine vk (Ao Au Al) ?_;refine vk ((E2 (Dx [a0,a1]) FK).deep) ?_
 obtain ⟨x1,hx1,h⟩:=bnd h
 refine vk (VOK.tupd (vs:=[.ag [.b x1.1.1,.sl (L x1.1.2.1),.sl (L x1.1.2.2)],.i .i64 x1.2]) (Af (OW hx1) Tryz.call133)) ?_;refine vk (vex) ?_;refine vk (vex) ?_
 refine stn ?_ Al (by decide)
 refine ar [4,5] ?_;refine .ret ?_
 cases h
 exact ⟨_,_,⟨.inr rfl,Au,Al,(by decide:(0:Nat)<3)⟩,rfl,rfl⟩
def C5 (a0 : RT) (a1 : RT) : Option (RT × Int):=((JA ([a0,a1])).bind fun x1=>(some (x1.1,x1.2)))
theorem Ly {a0 : RT} {a1 : RT} {r : RT × Int} (h : C5 a0 a1=some r) :
  Fn Tryz.prog 134 [.ag [.b a0.1,.sl (L a0.2.1),.sl (L a0.2.2)],.ag [.b a1.1,.sl (L a1.2.1),.sl (L a1.2.2)]] (.tup [.d (.ag [.b r.1.1,.sl (L r.1.2.1),.sl (L r.1.2.2)]),.d (.i .i64 r.2)]):=by
 unfold C5 at h
 refine Fn.ofC (rs:=[.cell 4 32,.tmp 5]) (nt:=12) Tryz.func134 rfl rfl rfl (by simp) rfl ?_;refine .sr ?_;refine vk (vbx) ?_;refine vk (vbx) ?_;refine vk (van (Ag BH) BL) ?_;refine ar [2,3,4,5] ?_;refine .sr ?_;refine vk (Ao Au Al) ?_;refine vk (Ao Au Al) ?_;refine vk ((E2 (Dx [a0,a1]) FK).deep) ?_
 obtain ⟨x1,hx1,h⟩:=bnd h
 refine vk (VOK.tupd (vs:=[.ag [.b x1.1.1,.sl (L x1.1.2.1),.sl (L x1.1.2.2)],.i .i64 x1.2]) (Af (KZ hx1) Tryz.call135)) ?_;refine vk (vex) ?_;refine vk (vex) ?_
 refine stn ?_ Al (by decide)
 refine ar [4,5] ?_;refine .ret ?_
 cases h
 exact ⟨_,_,⟨.inr rfl,Au,Al,(by decide:(0:Nat)<3)⟩,rfl,rfl⟩
def GZ (a0 : Int) : Option (Bool):=(some ((decide (a0<0))))
theorem Li {a0 : Int} {r : Bool} (h : GZ a0=some r) :
  Fn Tryz.prog 142 [.i .i64 a0] (.d (.b r)):=by
 unfold GZ at h
 refine Fn.o1 2 5 Tryz.func142 ?_;refine .sr ?_;refine ar [0,2] ?_;refine .sr ?_;refine vk (Aa) ?_;refine vk (vbi) ?_;refine ar [2] ?_;refine .ret ?_
 cases h
 exact ⟨rfl,rfl⟩
def G5 (a0 : Int) : Option (Bool):=(some ((decide (a0≤0))))
theorem KU {a0 : Int} {r : Bool} (h : G5 a0=some r) :
  Fn Tryz.prog 143 [.i .i64 a0] (.d (.b r)):=by
 unfold G5 at h
 refine Fn.o1 2 5 Tryz.func143 ?_;refine .sr ?_;refine ar [0,2] ?_;refine .sr ?_;refine vk (Aa) ?_;refine vk (vbi) ?_;refine ar [2] ?_;refine .ret ?_
 cases h
 exact ⟨rfl,rfl⟩
def GS (a0 : Int) : Option (Bool):=(some ((decide (a0=0))))
theorem Ll {a0 : Int} {r : Bool} (h : GS a0=some r) :
  Fn Tryz.prog 144 [.i .i64 a0] (.d (.b r)):=by
 unfold GS at h
 refine Fn.o1 2 5 Tryz.func144 ?_;refine .sr ?_;refine ar [0,2] ?_;refine .sr ?_;refine vk (Aa) ?_;refine vk (vbi) ?_;refine ar [2] ?_;refine .ret ?_
 cases h
 exact ⟨rfl,rfl⟩
def G4 (a0 : Int) : Option (Bool):=(some ((decide (0≤a0))))
theorem Lc {a0 : Int} {r : Bool} (h : G4 a0=some r) :
  Fn Tryz.prog 145 [.i .i64 a0] (.d (.b r)):=by
 unfold G4 at h
 refine Fn.o1 2 5 Tryz.func145 ?_;refine .sr ?_;refine ar [0,2] ?_;refine .sr ?_;refine vk (Aa) ?_;refine vk (vbi) ?_;refine ar [2] ?_;refine .ret ?_
 cases h
 exact ⟨rfl,rfl⟩
def GY (a0 : Int) : Option (Bool):=(some ((decide (0<a0))))
theorem Ls {a0 : Int} {r : Bool} (h : GY a0=some r) :
  Fn Tryz.prog 146 [.i .i64 a0] (.d (.b r)):=by
 unfold GY at h
 refine Fn.o1 2 5 Tryz.func146 ?_;refine .sr ?_;refine ar [0,2] ?_;refine .sr ?_;refine vk (Aa) ?_;refine vk (vbi) ?_;refine ar [2] ?_;refine .ret ?_
 cases h
 exact ⟨rfl,rfl⟩
def Ha (a0 : Int) : Option (Bool):=(some ((!(decide (a0=0)))))
theorem KR {a0 : Int} {r : Bool} (h : Ha a0=some r) :
  Fn Tryz.prog 147 [.i .i64 a0] (.d (.b r)):=by
 unfold Ha at h
 refine Fn.o1 2 5 Tryz.func147 ?_;refine .sr ?_;refine ar [0,2] ?_;refine .sr ?_;refine vk (Aa) ?_;refine vk (vbi) ?_;refine ar [2] ?_;refine .ret ?_
 cases h
 exact ⟨rfl,rfl⟩
def G7 (a0 : Bool) (a1 : Bool) : Option (Bool):=(some ((a0 && a1)))
theorem Lt {a0 : Bool} {a1 : Bool} {r : Bool} (h : G7 a0 a1=some r) :
  Fn Tryz.prog 149 [.b a0,.b a1] (.d (.b r)):=by
 unfold G7 at h
 refine Fn.o1 4 9 Tryz.func149 ?_;refine .sr ?_;refine ar [0,1,4] ?_;refine .seq ?_;refine AW.mr (σ:=Unit) (fun _=>True) (fun _=>[(4,.d (.b (a0 && a1)))]) (fun _=>[]) ?_ ?_
 ·skip
  refine .region ?_;refine vk (Aa) ?_
  by_cases hc:a0=true
  ·have hb0:a0=true:=hc
   refine vk (VOK.lit (Aa) hb0) ?_;refine vk (Aa) ?_;refine vk (Ai) ?_;refine asd ?_;refine RL.gk [4] ?_;refine .nil ?_
   exact jr () trivial (by simp only [hb0];rfl)
  have hb0:a0=false:=(bf hc)
  refine vk (VOK.lit (Aa) hb0) ?_;refine gf ?_;refine vk (Ai) ?_;refine asd ?_;refine RL.gk [4] ?_;refine .nil ?_
  exact jr () trivial (by simp only [hb0];rfl)
 rintro _ _
 refine .ret ?_
 cases h
 exact ⟨rfl,rfl⟩
def Gq (a0 : Bool) (a1 : Bool) : Option (Bool):=(some ((a0 || a1)))
theorem Ki {a0 : Bool} {a1 : Bool} {r : Bool} (h : Gq a0 a1=some r) :
  Fn Tryz.prog 150 [.b a0,.b a1] (.d (.b r)):=by
 unfold Gq at h
 refine Fn.o1 4 9 Tryz.func150 ?_;refine .sr ?_;refine ar [0,1,4] ?_;refine .seq ?_;refine AW.mr (σ:=Unit) (fun _=>True) (fun _=>[(4,.d (.b (a0 || a1)))]) (fun _=>[]) ?_ ?_
 ·skip
  refine .region ?_;refine vk (Aa) ?_
  by_cases hc:a0=true
  ·have hb0:a0=true:=hc
   refine vk (VOK.lit (Aa) hb0) ?_;refine gf ?_;refine vk (Ai) ?_;refine asd ?_;refine RL.gk [4] ?_;refine .nil ?_
   exact jr () trivial (by simp only [hb0];rfl)
  have hb0:a0=false:=(bf hc)
  refine vk (VOK.lit (Aa) hb0) ?_;refine vk (Aa) ?_;refine vk (Ai) ?_;refine asd ?_;refine RL.gk [4] ?_;refine .nil ?_
  exact jr () trivial (by simp only [hb0];rfl)
 rintro _ _
 refine .ret ?_
 cases h
 exact ⟨rfl,rfl⟩
def GC (a0 : Bool) (a1 : Bool) : Option (Bool):=(some ((!a0 || (!a1))))
theorem Ky {a0 : Bool} {a1 : Bool} {r : Bool} (h : GC a0 a1=some r) :
  Fn Tryz.prog 151 [.b a0,.b a1] (.d (.b r)):=by
 unfold GC at h
 refine Fn.o1 4 10 Tryz.func151 ?_;refine .sr ?_;refine ar [0,1,4] ?_;refine .seq ?_;refine AW.mr (σ:=Unit) (fun _=>True) (fun _=>[(4,.d (.b (!a0 || (!a1))))]) (fun _=>[]) ?_ ?_
 ·skip
  refine .region ?_;refine vk (Aa) ?_
  by_cases hc:a0=true
  ·have hb0:a0=true:=hc
   refine vk (VOK.lit (Aa) hb0) ?_;refine vk (Aa) ?_;refine vk (Ai) ?_;refine vk (vnt) ?_;refine asd ?_;refine RL.gk [4] ?_;refine .nil ?_
   exact jr () trivial (by simp only [hb0];rfl)
  have hb0:a0=false:=(bf hc)
  refine vk (VOK.lit (Aa) hb0) ?_;refine gf ?_;refine vk (Ai) ?_;refine vk (vnt) ?_;refine asd ?_;refine RL.gk [4] ?_;refine .nil ?_
  exact jr () trivial (by simp only [hb0];rfl)
 rintro _ _
 refine .ret ?_
 cases h
 exact ⟨rfl,rfl⟩
def Ge (a0 : Bool) (a1 : Bool) : Option (Bool):=(some ((!a0 && (!a1))))
theorem KE {a0 : Bool} {a1 : Bool} {r : Bool} (h : Ge a0 a1=some r) :
  Fn Tryz.prog 152 [.b a0,.b a1] (.d (.b r)):=by
 unfold Ge at h
 refine Fn.o1 4 10 Tryz.func152 ?_;refine .sr ?_;refine ar [0,1,4] ?_;refine .seq ?_;refine AW.mr (σ:=Unit) (fun _=>True) (fun _=>[(4,.d (.b (!a0 && (!a1))))]) (fun _=>[]) ?_ ?_
 ·skip
  refine .region ?_;refine vk (Aa) ?_
  by_cases hc:a0=true
  ·have hb0:a0=true:=hc
   refine vk (VOK.lit (Aa) hb0) ?_;refine gf ?_;refine vk (Ai) ?_;refine vk (vnt) ?_;refine asd ?_;refine RL.gk [4] ?_;refine .nil ?_
   exact jr () trivial (by simp only [hb0];rfl)
  have hb0:a0=false:=(bf hc)
  refine vk (VOK.lit (Aa) hb0) ?_;refine vk (Aa) ?_;refine vk (Ai) ?_;refine vk (vnt) ?_;refine asd ?_;refine RL.gk [4] ?_;refine .nil ?_
  exact jr () trivial (by simp only [hb0];rfl)
 rintro _ _
 refine .ret ?_
 cases h
 exact ⟨rfl,rfl⟩
def D0 (a0 : RT) (a1 : RT) (c0 : Int) : Option (RT × Int):=((Fy a0 a1).bind fun x1=>(if (w64 (c0 * x1))<0 then ((Cw a1).bind fun x2=>(some (x2.1,x2.2))) else ((Cw a0).bind fun x3=>(some (x3.1,x3.2)))))
theorem FP {a0 : RT} {a1 : RT} {c0 : Int} {r : RT × Int} (h : D0 a0 a1 c0=some r) :
  Fn Tryz.prog 210 [.ag [.b a0.1,.sl (L a0.2.1),.sl (L a0.2.2)],.ag [.b a1.1,.sl (L a1.2.1),.sl (L a1.2.2)],.ptr [.i .i64 c0]] (.tup [.d (.ag [.b r.1.1,.sl (L r.1.2.1),.sl (L r.1.2.2)]),.d (.i .i64 r.2)]):=by
 unfold D0 at h
 refine Fn.ofC (rs:=[.cell 5 32,.tmp 6]) (nt:=21) Tryz.func210 rfl rfl rfl (by simp) rfl ?_;refine .sr ?_;refine vk (vbx) ?_;refine vk (vbx) ?_;refine vk (van (Ag BH) BL) ?_;refine ar [2,3,4,5,6] ?_;refine .seq ?_;refine .seq ?_;refine .drawn 6 A9 (by kernel_rfl) ?_;refine dv (Am Ca) ?_;refine dv (Ao Au Al) ?_;refine dv (Ao Au Al) ?_
 obtain ⟨x1,hx1,h⟩:=bnd h
 refine dv (Af (Gi hx1) Tryz.call211) ?_;refine dv (vbi) ?_;refine dv (vbi) ?_;refine dz ?_;refine rk [3,4,5,6,12] ?_
 by_cases hc:(w64 (c0 * x1))<0
 ·replace h:=Ad hc h
  refine cnt (dT hc) ?_;refine .sr ?_;refine vk (Ao Au Al) ?_
  obtain ⟨x2,hx2,h⟩:=bnd h
  refine vk (VOK.tupd (vs:=[.ag [.b x2.1.1,.sl (L x2.1.2.1),.sl (L x2.1.2.2)],.i .i64 x2.2]) (Af (Gs hx2) Tryz.call78)) ?_;refine vk (vex) ?_;refine vk (vex) ?_
  refine stn ?_ Al (by decide)
  refine ar [3,5,6] ?_;refine .ret ?_
  cases h
  exact ⟨_,_,⟨.inr rfl,Au,Al,(by decide:(0:Nat)<3)⟩,rfl,rfl⟩
 replace h:=Ae hc h
 refine cnf (dF hc) ?_;refine .skip ?_
 show AW _ _ _ _ _ _
 refine .sr ?_;refine vk (Ao Au Al) ?_
 obtain ⟨x3,hx3,h⟩:=bnd h
 refine vk (VOK.tupd (vs:=[.ag [.b x3.1.1,.sl (L x3.1.2.1),.sl (L x3.1.2.2)],.i .i64 x3.2]) (Af (Gs hx3) Tryz.call78)) ?_;refine vk (vex) ?_;refine vk (vex) ?_
 refine stn ?_ Al (by decide)
 refine ar [5,6] ?_;refine .ret ?_
 cases h
 exact ⟨_,_,⟨.inr rfl,Au,Al,(by decide:(0:Nat)<3)⟩,rfl,rfl⟩
def Bt (a0 : RT) (a1 : RT) (c0 : BE) (c1 : RT) : Option (RT × Int):=((H6 c1 a0 a1).bind fun x1=>((c0.g x1).bind fun x2=>((Dr x2).bind fun x3=>(some (x3,0)))))
theorem Bz {a0 : RT} {a1 : RT} {c0 : BE} {c1 : RT} (oc0 : H8 c0) {r : RT × Int} (h : Bt a0 a1 c0 c1=some r) :
  Fn Tryz.prog 212 [.ag [.b a0.1,.sl (L a0.2.1),.sl (L a0.2.2)],.ag [.b a1.1,.sl (L a1.2.1),.sl (L a1.2.2)],.ptr [c0.dv],.ptr [.b c1.1,.sl (L c1.2.1),.sl (L c1.2.2)]] (.tup [.d (.ag [.b r.1.1,.sl (L r.1.2.1),.sl (L r.1.2.2)]),.d (.i .i64 r.2)]):=by
 unfold Bt at h
 refine Fn.ofC (rs:=[.cell 6 32,.tmp 7]) (nt:=15) Tryz.func212 rfl rfl rfl (by simp) rfl ?_;refine .sr ?_;refine vk (vbx) ?_;refine vk (vbx) ?_;refine vk (van (Ag BH) BL) ?_;refine ar [2,3,4,5,6,7] ?_;refine .seq ?_;refine .drawn 7 A9 (by kernel_rfl) ?_;refine dv (Am Mc) ?_;refine dv (Ao Au Al) ?_;refine dv (Ao Au Al) ?_;refine dv (Ao Au Al) ?_
 obtain ⟨x1,hx1,h⟩:=bnd h
 refine dv (Af (L5 hx1) Tryz.call213) ?_
 obtain ⟨x2,hx2,h⟩:=bnd h
 refine dv (NN (oc0 _ _ hx2)) ?_
 obtain ⟨x3,hx3,h⟩:=bnd h
 refine dv (Af (Er hx3) Tryz.call91) ?_;refine dz ?_
 refine stn ?_ Al (by decide)
 refine ar [6,7] ?_;refine .ret ?_
 cases h
 exact ⟨_,_,⟨.inr rfl,Au,Al,(by decide:(0:Nat)<3)⟩,rfl,rfl⟩
def CE (a0 : RT) (a1 : RT) (c0 : Es) : Option (RT × Int):=((Gf a0).bind fun x1=>((Gf a1).bind fun x2=>(if ((!x1.2) || (!x2.2))=true then (some ((false,[],[]),3)) else ((c0.g (x1.1,x2.1)).bind fun x3=>((Dr x3).bind fun x4=>(some (x4,0)))))))
theorem C8 {a0 : RT} {a1 : RT} {c0 : Es} (oc0 : JK c0) {r : RT × Int} (h : CE a0 a1 c0=some r) :
  Fn Tryz.prog 214 [.ag [.b a0.1,.sl (L a0.2.1),.sl (L a0.2.2)],.ag [.b a1.1,.sl (L a1.2.1),.sl (L a1.2.2)],.ptr [c0.dv]] (.tup [.d (.ag [.b r.1.1,.sl (L r.1.2.1),.sl (L r.1.2.2)]),.d (.i .i64 r.2)]):=by
 unfold CE at h
 refine Fn.ofC (rs:=[.cell 5 32,.tmp 6]) (nt:=33) Tryz.func214 rfl rfl rfl (by simp) rfl ?_;refine .sr ?_;refine vk (vbx) ?_;refine vk (vbx) ?_;refine vk (van (Ag BH) BL) ?_;refine ar [2,3,4,5,6] ?_;refine .sr ?_;refine vk (Ao Au Al) ?_
 obtain ⟨x1,hx1,h⟩:=bnd h
 refine vk (VOK.tupd (vs:=[.b x1.1,.b x1.2]) (Af (GW hx1) Tryz.call90)) ?_;refine vk (Aa) ?_;refine vk (vex) ?_;refine vk (vex) ?_;refine asd ?_;refine ar [2,4,5,6,7,8] ?_;refine .sr ?_;refine vk (Ao Au Al) ?_
 obtain ⟨x2,hx2,h⟩:=bnd h
 refine vk (VOK.tupd (vs:=[.b x2.1,.b x2.2]) (Af (GW hx2) Tryz.call90)) ?_;refine vk (Aa) ?_;refine vk (vex) ?_;refine vk (vex) ?_;refine asd ?_;refine ar [2,5,6,7,8,9,10] ?_;refine .seq ?_;refine .seq ?_;refine AW.mr (σ:=Unit) (fun _=>True) (fun _=>[(2,.d (.ptr [c0.dv])),(5,.nb [.b false,.sl (L []),.sl (L [])]),(6,.d (.i .i64 0)),(7,.d (.b x1.1)),(9,.d (.b x2.1)),(26,.d (.b ((!x1.2) || (!x2.2))))]) (fun _=>[]) ?_ ?_
 ·skip
  refine .region ?_;refine vk (Aa) ?_;refine vk (vnt) ?_
  by_cases hc:x1.2=true
  ·have hb0:(!x1.2)=false:=(ntf hc)
   refine vk (VOK.lit (Aa) hb0) ?_;refine vk (Aa) ?_;refine vk (vnt) ?_;refine vk (Ai) ?_;refine RL.gk [2,5,6,7,9,26] ?_;refine .nil ?_
   exact jr () trivial (by simp only [hb0];rfl)
  have hb0:(!x1.2)=true:=(ntt (bf hc))
  refine vk (VOK.lit (Aa) hb0) ?_;refine gf ?_;refine gf ?_;refine vk (Ai) ?_;refine RL.gk [2,5,6,7,9,26] ?_;refine .nil ?_
  exact jr () trivial (by simp only [hb0];rfl)
 rintro _ _
 by_cases hc:((!x1.2) || (!x2.2))=true
 ·replace h:=Ad hc h
  refine cnt hc ?_;refine .sr ?_;refine vk (vbd Ea BH BL) ?_
  refine stn ?_ Al (by decide)
  refine ar [2,5,6,7,9] ?_;refine .ret ?_
  cases h
  exact ⟨_,_,⟨.inr rfl,Au,Al,(by decide:(0:Nat)<3)⟩,rfl,rfl⟩
 replace h:=Ae hc h
 refine cnf (bf hc) ?_;refine .skip ?_
 show AW _ _ _ _ _ _
 refine .sr ?_;refine vk (Am Il) ?_;refine vk (Aa) ?_;refine vk (Aa) ?_
 obtain ⟨x3,hx3,h⟩:=bnd h
 refine vk (NN (oc0 _ _ hx3)) ?_
 obtain ⟨x4,hx4,h⟩:=bnd h
 refine vk (Af (Er hx4) Tryz.call91) ?_
 refine stn ?_ Al (by decide)
 refine ar [5,6] ?_;refine .ret ?_
 cases h
 exact ⟨_,_,⟨.inr rfl,Au,Al,(by decide:(0:Nat)<3)⟩,rfl,rfl⟩
def Cu (a0 : RT) : Option (Itm):=(some ((Itm.mk 1 a0 0 [])))
theorem D7 {a0 : RT} {r : Itm} (h : Cu a0=some r) :
  Fn Tryz.prog 94 [.ag [.b a0.1,.sl (L a0.2.1),.sl (L a0.2.2)]] (.d (.ag [.i .u8 r.kind,.b r.num.1,.sl (L r.num.2.1),.sl (L r.num.2.2),.i .i32 r.char,.sl (Ars r.box)])):=by
 unfold Cu at h
 refine Fn.ofC (rs:=[.cell 2 83]) (nt:=5) Tryz.func94 rfl rfl rfl (by simp) rfl ?_;refine .sr ?_;refine vk (vbx) ?_;refine vk (van (Ag BN) BW) ?_;refine rk [1,2] ?_;refine .sr ?_;refine vk (Ao Au Al) ?_;refine vk (vbd GT BN BW) ?_
 refine stn ?_ Aw (by decide)
 refine rk [2] ?_;refine .ret ?_
 cases h
 exact ⟨_,⟨.inr rfl,AM,Aw,(by decide:(0:Nat)<6)⟩,rfl⟩
def Du (a0 : Arr) (a1 : Arr) : Option ((List Int) × Int):=((Dq a0.shape).bind fun x1=>((Dq a1.shape).bind fun x2=>((BI a0.shape a1.shape).bind fun x3=>(if x3=true then (some (a0.shape,0)) else (if ((decide (x1.1=1)) && ((!(decide (x2.1=1))) || (decide (((List.length a0.shape : Nat) : Int)<((List.length a1.shape : Nat) : Int)))))=true then (some (a1.shape,0)) else (if x2.1=1 then (some (a0.shape,0)) else (if ((List.length a0.shape : Nat) : Int)=((List.length a1.shape : Nat) : Int) then (some ([],5)) else (some ([],4)))))))))
theorem JG {a0 : Arr} {a1 : Arr} {r : (List Int) × Int} (h : Du a0 a1=some r) :
  Fn Tryz.prog 114 [.ag [.sl (Is a0.shape),.sl (Its a0.items)],.ag [.sl (Is a1.shape),.sl (Its a1.items)]] (.tup [.d (.sl (Is r.1)),.d (.i .i64 r.2)]):=by
 unfold Du at h
 refine Fn.of (rs:=[.tmp 4,.tmp 5]) (nt:=61) Tryz.func114 rfl rfl rfl (by simp) rfl ?_;refine .sr ?_;refine vk (vbx) ?_;refine vk (vbx) ?_;refine asn ?_;refine ar [2,3,4,5] ?_;refine .sr ?_;refine vk (vfa AY) ?_;refine vk (Am CG) ?_
 obtain ⟨x1,hx1,h⟩:=bnd h
 refine vk (VOK.tupd (vs:=[.i .i64 x1.1,.i .i64 x1.2]) (Af (Ei hx1) Tryz.call98)) ?_;refine vk (Aa) ?_;refine vk (vex) ?_;refine vk (vex) ?_;refine asd ?_;refine ar [2,3,4,5,6] ?_;refine .sr ?_;refine vk (vfa AY) ?_;refine vk (Am CG) ?_
 obtain ⟨x2,hx2,h⟩:=bnd h
 refine vk (VOK.tupd (vs:=[.i .i64 x2.1,.i .i64 x2.2]) (Af (Ei hx2) Tryz.call98)) ?_;refine vk (Aa) ?_;refine vk (vex) ?_;refine vk (vex) ?_;refine asd ?_;refine ar [2,3,4,5,6,8] ?_;refine .seq ?_;refine .block ?_;refine .sr ?_;refine vk (vfa AY) ?_;refine vk (Am CG) ?_;refine vk (vfa AY) ?_;refine vk (Am CG) ?_
 obtain ⟨x3,hx3,h⟩:=bnd h
 refine vk (Af (EC hx3) Tryz.call109) ?_;refine ar [2,3,4,5,6,8,22] ?_
 by_cases hc:x3=true
 ·replace h:=Ad hc h
  refine cnt hc ?_;refine .sr ?_;refine vk (vfa AY) ?_;refine vk (Am CG) ?_;refine asd ?_;refine ar [4,5] ?_;refine .ret ?_
  cases h
  exact ⟨by decide,rfl,rfl,rfl⟩
 replace h:=Ae hc h
 refine cnf (bf hc) ?_;refine .seq ?_;refine AW.mr (σ:=Unit) (fun _=>True) (fun _=>[(2,.d (.ptr [.sl (Is a0.shape),.sl (Its a0.items)])),(3,.d (.ptr [.sl (Is a1.shape),.sl (Its a1.items)])),(4,.nl),(5,.d (.i .i64 0)),(8,.d (.i .i64 x2.1)),(30,.d (.b ((decide (x1.1=1)) && ((!(decide (x2.1=1))) || (decide (((List.length a0.shape:Nat):Int)<((List.length a1.shape:Nat):Int)))))))]) (fun _=>[]) ?_ ?_
 ·skip
  refine .region ?_;refine vk (Aa) ?_;refine vk (vbi) ?_
  by_cases hc:x1.1=1
  ·have hb0:(decide (x1.1=1))=true:=(dT hc)
   refine vk (VOK.lit (Aa) hb0) ?_;refine vk (Aa) ?_;refine vk (vbi) ?_
   by_cases hc:x2.1=1
   ·have hb1:(!(decide (x2.1=1)))=false:=(ntf (dT hc))
    refine vk (VOK.lit (Aa) hb1) ?_;refine vk (vfa AY) ?_;refine vk (Am CG) ?_;refine vk (Bk (A5 _) (Ef _) Ec) ?_;refine vk (vfa AY) ?_;refine vk (Am CG) ?_;refine vk (Bk (A5 _) (Ef _) Ec) ?_;refine vk (vbi) ?_;refine vk (Ai) ?_;refine vk (Ai) ?_;refine asd ?_;refine RL.gk [2,3,4,5,8,30] ?_;refine .nil ?_
    exact jr () trivial (by simp only [hb0,hb1];rfl)
   have hb1:(!(decide (x2.1=1)))=true:=(ntt (dF hc))
   refine vk (VOK.lit (Aa) hb1) ?_;refine gf ?_;refine gf ?_;refine gf ?_;refine gf ?_;refine gf ?_;refine gf ?_;refine gf ?_;refine vk (Ai) ?_;refine vk (Ai) ?_;refine asd ?_;refine RL.gk [2,3,4,5,8,30] ?_;refine .nil ?_
   exact jr () trivial (by simp only [hb0,hb1];rfl)
  have hb0:(decide (x1.1=1))=false:=(dF hc)
  refine vk (VOK.lit (Aa) hb0) ?_;refine gf ?_;refine gf ?_;refine gfu ?_;refine gf ?_;refine gf ?_;refine gf ?_;refine gf ?_;refine gf ?_;refine gf ?_;refine gf ?_;refine gf ?_;refine vk (Ai) ?_;refine asd ?_;refine RL.gk [2,3,4,5,8,30] ?_;refine .nil ?_
  exact jr () trivial (by simp only [hb0];rfl)
 rintro _ _
 by_cases hc:((decide (x1.1=1)) && ((!(decide (x2.1=1))) || (decide (((List.length a0.shape:Nat):Int)<((List.length a1.shape:Nat):Int)))))=true
 ·replace h:=Ad hc h
  refine cnt hc ?_;refine .sr ?_;refine vk (vfa AY) ?_;refine vk (Am CG) ?_;refine asd ?_;refine ar [4,5] ?_;refine .ret ?_
  cases h
  exact ⟨by decide,rfl,rfl,rfl⟩
 replace h:=Ae hc h
 refine cnf (bf hc) ?_;refine .sr ?_;refine vk (Aa) ?_;refine vk (vbi) ?_;refine ar [2,3,4,5,48] ?_
 by_cases hc:x2.1=1
 ·replace h:=Ad hc h
  refine cnt (dT hc) ?_;refine .sr ?_;refine vk (vfa AY) ?_;refine vk (Am CG) ?_;refine asd ?_;refine ar [4,5] ?_;refine .ret ?_
  cases h
  exact ⟨by decide,rfl,rfl,rfl⟩
 replace h:=Ae hc h
 refine cnf (dF hc) ?_;refine .sr ?_;refine vk (vfa AY) ?_;refine vk (Am CG) ?_;refine vk (Bk (A5 _) (Ef _) Ec) ?_;refine vk (vfa AY) ?_;refine vk (Am CG) ?_;refine vk (Bk (A5 _) (Ef _) Ec) ?_;refine vk (vbi) ?_;refine ar [4,5,53] ?_
 by_cases hc:((List.length a0.shape:Nat):Int)=((List.length a1.shape:Nat):Int)
 ·replace h:=Ad hc h
  refine cnf (ntf (dT hc)) ?_;refine .skip ?_
  show AW _ _ _ _ _ _
  refine .sr ?_;refine asn ?_;refine ar [4,5] ?_;refine .gh (Gh.nlD (t:=4) rfl) ?_;refine .ret ?_
  cases h
  exact ⟨by decide,rfl,rfl,rfl⟩
 replace h:=Ae hc h
 refine cnt (ntt (dF hc)) ?_;refine .sr ?_;refine asn ?_;refine ar [4,5] ?_;refine .gh (Gh.nlD (t:=4) rfl) ?_;refine .ret ?_
 cases h
 exact ⟨by decide,rfl,rfl,rfl⟩
def LV : List (Int × Ap):=[(43,⟨.fn 78 [] [],fun x=>Cw x⟩),(45,⟨.fn 79 [] [],fun x=>PM x⟩),(8968,⟨.fn 80 [] [],fun x=>MM x⟩),(8970,⟨.fn 81 [] [],fun x=>Jd x⟩),(124,⟨.fn 82 [] [],fun x=>PH x⟩),(33,⟨.fn 83 [] [],fun x=>G0 x⟩),(42,⟨.fn 84 [] [],fun x=>IJ x⟩),(215,⟨.fn 85 [] [],fun x=>GU x⟩),(247,⟨.fn 87 [] [],fun x=>G8 x⟩),(126,⟨.fn 89 [] [],fun x=>GV x⟩)]
theorem Wd : (LV.map (·.1)).Nodup:=by show List.Nodup [(43 : Int),(45 : Int),(8968 : Int),(8970 : Int),(124 : Int),(33 : Int),(42 : Int),(215 : Int),(247 : Int),(126 : Int)];decide
def isF (d : DV) : Prop:=∃ f fs cs,d=.fn f fs cs
theorem Tr : ∀ p ∈ LV,CC p.2∧isF p.2.dv:=by
 intro p hp
 simp only [LV,List.mem_cons,List.not_mem_nil,or_false] at hp
 rcases hp with rfl | rfl | rfl | rfl | rfl | rfl | rfl | rfl | rfl | rfl
 ·exact ⟨Cp Tryz.call78 (fun _ _ h=>Gs h),_,_,_,rfl⟩
 ·exact ⟨Cp Tryz.call79 (fun _ _ h=>R0 h),_,_,_,rfl⟩
 ·exact ⟨Cp Tryz.call80 (fun _ _ h=>QM h),_,_,_,rfl⟩
 ·exact ⟨Cp Tryz.call81 (fun _ _ h=>J5 h),_,_,_,rfl⟩
 ·exact ⟨Cp Tryz.call82 (fun _ _ h=>Sh h),_,_,_,rfl⟩
 ·exact ⟨Cp Tryz.call83 (fun _ _ h=>Lx h),_,_,_,rfl⟩
 ·exact ⟨Cp Tryz.call84 (fun _ _ h=>Nr h),_,_,_,rfl⟩
 ·exact ⟨Cp Tryz.call85 (fun _ _ h=>KT h),_,_,_,rfl⟩
 ·exact ⟨Cp Tryz.call87 (fun _ _ h=>LA h),_,_,_,rfl⟩
 ·exact ⟨Cp Tryz.call89 (fun _ _ h=>K8 h),_,_,_,rfl⟩
theorem Wg {z : Int} {f : Ap} (h : FQ LV z=some f) : CC f∧isF f.dv:=Tr _ (Mo h)
theorem Vd : Fn Tryz.prog 31 [] (.d (W0 .i32 LV)):=WK
def Ju (c : RT) : List (Int × Ak):=[(43,⟨.fn 132 [] [],fun x=>C7 x.1 x.2⟩),(215,⟨.fn 134 [] [],fun x=>C5 x.1 x.2⟩),(45,⟨.fn 136 [] [],fun x=>HG x.1 x.2⟩),(247,⟨.fn 88 [] [],fun x=>JY x.1 x.2⟩),(124,⟨.fn 137 [] [],fun x=>Iu x.1 x.2⟩),(42,⟨.fn 138 [] [],fun x=>K9 x.1 x.2⟩),(33,⟨.fn 139 [] [],fun x=>HJ x.1 x.2⟩),(8968,⟨.fn 210 [] [.ptr [.i .i64 1]],fun x=>D0 x.1 x.2 1⟩),(8970,⟨.fn 210 [] [.ptr [.i .i64 (-1)]],fun x=>D0 x.1 x.2 (-1)⟩),(60,⟨.fn 212 [] [.ptr [.fn 142 [] []],.ptr [.b c.1,.sl (L c.2.1),.sl (L c.2.2)]],fun x=>Bt x.1 x.2 ⟨.fn 142 [] [],fun y=>GZ y⟩ c⟩),(8804,⟨.fn 212 [] [.ptr [.fn 143 [] []],.ptr [.b c.1,.sl (L c.2.1),.sl (L c.2.2)]],fun x=>Bt x.1 x.2 ⟨.fn 143 [] [],fun y=>G5 y⟩ c⟩),(61,⟨.fn 212 [] [.ptr [.fn 144 [] []],.ptr [.b c.1,.sl (L c.2.1),.sl (L c.2.2)]],fun x=>Bt x.1 x.2 ⟨.fn 144 [] [],fun y=>GS y⟩ c⟩),(8805,⟨.fn 212 [] [.ptr [.fn 145 [] []],.ptr [.b c.1,.sl (L c.2.1),.sl (L c.2.2)]],fun x=>Bt x.1 x.2 ⟨.fn 145 [] [],fun y=>G4 y⟩ c⟩),(62,⟨.fn 212 [] [.ptr [.fn 146 [] []],.ptr [.b c.1,.sl (L c.2.1),.sl (L c.2.2)]],fun x=>Bt x.1 x.2 ⟨.fn 146 [] [],fun y=>GY y⟩ c⟩),(8800,⟨.fn 212 [] [.ptr [.fn 147 [] []],.ptr [.b c.1,.sl (L c.2.1),.sl (L c.2.2)]],fun x=>Bt x.1 x.2 ⟨.fn 147 [] [],fun y=>Ha y⟩ c⟩),(8743,⟨.fn 214 [] [.ptr [.fn 149 [] []]],fun x=>CE x.1 x.2 ⟨.fn 149 [] [],fun y=>G7 y.1 y.2⟩⟩),(8744,⟨.fn 214 [] [.ptr [.fn 150 [] []]],fun x=>CE x.1 x.2 ⟨.fn 150 [] [],fun y=>Gq y.1 y.2⟩⟩),(9074,⟨.fn 214 [] [.ptr [.fn 151 [] []]],fun x=>CE x.1 x.2 ⟨.fn 151 [] [],fun y=>GC y.1 y.2⟩⟩),(9073,⟨.fn 214 [] [.ptr [.fn 152 [] []]],fun x=>CE x.1 x.2 ⟨.fn 152 [] [],fun y=>Ge y.1 y.2⟩⟩)]
theorem VE (c : RT) : ((Ju c).map (·.1)).Nodup:=by show List.Nodup [(43 : Int),(215 : Int),(45 : Int),(247 : Int),(124 : Int),(42 : Int),(33 : Int),(8968 : Int),(8970 : Int),(60 : Int),(8804 : Int),(61 : Int),(8805 : Int),(62 : Int),(8800 : Int),(8743 : Int),(8744 : Int),(9074 : Int),(9073 : Int)];decide
theorem TX (c : RT) : ∀ p ∈ Ju c,Bj p.2∧isF p.2.dv:=by
 intro p hp
 simp only [Ju,List.mem_cons,List.not_mem_nil,or_false] at hp
 rcases hp with rfl | rfl | rfl | rfl | rfl | rfl | rfl | rfl | rfl | rfl | rfl | rfl | rfl | rfl | rfl | rfl | rfl | rfl | rfl
 ·exact ⟨Cp Tryz.call132 (fun _ _ h=>LC h),_,_,_,rfl⟩
 ·exact ⟨Cp Tryz.call134 (fun _ _ h=>Ly h),_,_,_,rfl⟩
 ·exact ⟨Cp Tryz.call136 (fun _ _ h=>Gm h),_,_,_,rfl⟩
 ·exact ⟨Cp Tryz.call88 (fun _ _ h=>JH h),_,_,_,rfl⟩
 ·exact ⟨Cp Tryz.call137 (fun _ _ h=>MK h),_,_,_,rfl⟩
 ·exact ⟨Cp Tryz.call138 (fun _ _ h=>O9 h),_,_,_,rfl⟩
 ·exact ⟨Cp Tryz.call139 (fun _ _ h=>Mg h),_,_,_,rfl⟩
 ·exact ⟨Cp Tryz.call210 (fun _ _ h=>FP h),_,_,_,rfl⟩
 ·exact ⟨Cp Tryz.call210 (fun _ _ h=>FP h),_,_,_,rfl⟩
 ·exact ⟨Cp Tryz.call212 (fun _ _ h=>Bz (Cp Tryz.call142 (fun _ _ h=>Li h)) h),_,_,_,rfl⟩
 ·exact ⟨Cp Tryz.call212 (fun _ _ h=>Bz (Cp Tryz.call143 (fun _ _ h=>KU h)) h),_,_,_,rfl⟩
 ·exact ⟨Cp Tryz.call212 (fun _ _ h=>Bz (Cp Tryz.call144 (fun _ _ h=>Ll h)) h),_,_,_,rfl⟩
 ·exact ⟨Cp Tryz.call212 (fun _ _ h=>Bz (Cp Tryz.call145 (fun _ _ h=>Lc h)) h),_,_,_,rfl⟩
 ·exact ⟨Cp Tryz.call212 (fun _ _ h=>Bz (Cp Tryz.call146 (fun _ _ h=>Ls h)) h),_,_,_,rfl⟩
 ·exact ⟨Cp Tryz.call212 (fun _ _ h=>Bz (Cp Tryz.call147 (fun _ _ h=>KR h)) h),_,_,_,rfl⟩
 ·exact ⟨Cp Tryz.call214 (fun _ _ h=>C8 (Cp Tryz.call149 (fun _ _ h=>Lt h)) h),_,_,_,rfl⟩
 ·exact ⟨Cp Tryz.call214 (fun _ _ h=>C8 (Cp Tryz.call150 (fun _ _ h=>Ki h)) h),_,_,_,rfl⟩
 ·exact ⟨Cp Tryz.call214 (fun _ _ h=>C8 (Cp Tryz.call151 (fun _ _ h=>Ky h)) h),_,_,_,rfl⟩
 ·exact ⟨Cp Tryz.call214 (fun _ _ h=>C8 (Cp Tryz.call152 (fun _ _ h=>KE h)) h),_,_,_,rfl⟩
theorem Rb {c : RT} {z : Int} {f : Ak} (h : FQ (Ju c) z=some f) : Bj f∧isF f.dv:=TX c _ (Mo h)
theorem UH {c : RT} : Fn Tryz.prog 59 [.ag [.b c.1,.sl (L c.2.1),.sl (L c.2.2)]] (.d (W0 .i32 (Ju c))):=Xm
theorem Y7 : ∀ w,(zeroValue 60).run Tryz.prog w=.ok .nilFunc w:=Ag (by kernel_rfl)
theorem YM : ∀ w,(zeroValue 73).run Tryz.prog w=.ok .nilFunc w:=Ag (by kernel_rfl)
end Go.FL
namespace Go.FL
open Go Go.RowKit
section
variable {P : Program} {C : Cx} {X : Snap} {o : Oper} {ops : Array Oper} {Q : Exit→Env→Aj→Prop} {env env' : Env} {H H' : Aj} {a : Act} {w w' : World} {I I' : Nat→Prop} {μ μ' : List Nat} {O O' : Nat→Option Loc}
 {K:Env→Aj→Prop} {k:Nat} {l:List Oper}
theorem RG {s t ty e sz by_ : Nat} {hi : Operand} {ah : Option AO} {xs : List DV} {h : Int} (ho : o.op=.slice ty (.tmp s) none (some hi) none) (hfh : CR (some hi) ah=true) (hd : o.dst=some t) (ht : okT C.nt t) (hty : CF P ty=some (e,sz,by_)) (hv : get env s=.own e xs)
  (hh:FF env xs.length ah=some h) (h0:0≤h) (h1:h≤xs.length) (hK:K (put (put env s .un) t (.own e (xs.take h.toNat))) H):OpOK P C o env H K :=
 .val (by simp [ho]) hd ht (fun X a w I μ O _ _ _ hs=>by
  obtain ⟨inf,s1,s2,s3,_,s5⟩:=DN hty
  have b1:=hs.bound (x:=none) (ax:=none) rfl (dflt:=0) (n:=0) rfl
  have b2:=hs.bound hfh hh
  obtain ⟨q1,q2⟩:=hs.take s (by rw [hv];rfl)
  rw [hv] at q2
  have hform:∃ A c,a.tmps.getD s undef=.slice A xs.length c∧xs.length≤c∧A.map (·.add 0)=A:=by
   obtain ⟨bs,k1,_,_⟩:=q2
   generalize a.tmps.getD s undef=v at k1
   cases k1 with
   | own _ _ _ vs hsz hown hr =>
    rcases hown with ⟨A,rfl,hn,_⟩ | ⟨hr2,g,cap,rfl,hc⟩
    ·refine ⟨A,0,by rw [hn],by omega,?_⟩
     cases A <;> simp [Addr.add]
    ·refine ⟨some ⟨g,0,none⟩,cap,rfl,?_,by simp [Addr.add]⟩
     rcases hr2.2 with ⟨h2,h3⟩ | ⟨g',cap',cur,h2,_,_,h5,_⟩
     ·omega
     ·simp only [Value.slice.injEq] at h2
      omega
  obtain ⟨A,c,hval,hcap,hA⟩:=hform
  have e1:h≤(c:Int):=by omega
  have hb:=GA (P:=P) (w:=w) (isS:=true) (len:=xs.length) (cap:=c) (Int.le_refl 0) h0 b1 (b2.imp (fun ⟨x,y⟩=>⟨x,y,rfl⟩) fun h=>h) (m:=(c:Int)) (mx:=none) (.inl ⟨rfl,rfl⟩) e1 (Int.le_refl _)
  have hev:a.eval (.tmp s)=.slice A xs.length c:=hval
  refine ⟨.slice A h.toNat c,w,I,μ,_,?_,q1,?_⟩
  ·have hr:=Py s1 s2 hb (A:=A)
   simp only [Option.map_none,Option.map_some] at hr
   simp only [execOp,ho,hev,Sem.run_bind,Option.map_none,Option.map_some,hr,Result.andThen_ok,Sem.run_pure]
   have e2:(if (c:Int).toNat=(0:Int).toNat then A else A.map (·.add ((0:Int).toNat * inf.size)))=A:=by
    split
    ·rfl
    ·simpa using hA
   rw [e2];simp
  ·rw [hval] at q2
   exact q2.prefix_ (by omega)) hK
theorem slo {s t ty e sz by_ : Nat} {hi : Operand} {xs : List DV} {z : Int} (k' : Nat) (hz : z=k') (hle : k'≤xs.length) (h : RL P C ops Q (k+1) l ((t,.own e (xs.take k'))::(s,.un)::env) H) (hty : CF P ty=some (e,sz,by_)) (hg : grd ops env o true=true:=by rfl)
  (ho:o.op=.slice ty (.tmp s) none (some hi) none:=by rfl) (hv:get env s=.own e xs:=by rfl) (hh:FF env xs.length (some (DZ hi))=some z:=by rfl) (hfh:CR (some hi) (some (DZ hi))=true:=by rfl) (hd:o.dst=some t:=by rfl)
  (hf:Aq (get env t)=false:=by rfl) (hr:Ds s env=false:=by rfl) (ht:okT C.nt t:=by rfl):RL P C ops Q k (o::l) env H:=by
 subst hz
 have hst:=E9 hv hf
 refine .go hg (RG ho hfh hd ht hty hv hh (by omega) (by omega) ?_)
 rw [Int.toNat_natCast]
 refine RL.gh (Gh.same fun r=>?_) h
 have h1:Aq (get (put env s .un) t)=false:=by rw [CM hr];simp [get,hst,hf]
 rw [An h1]
 simp only [get]
 split
 ·rfl
 ·have:=CM (v:=.un) hr r
  simp only [get] at this
  exact this.symm
end
end Go.FL
namespace Go.FL
open Go Go.Proofs
def Bu (a1 : Ay) (x1 : Int × Int) (K0 : Arr→Int→(List Itm)→Option (Arr × Int)) : Nat→Arr→Int→(List Itm)→Int→Option (Arr × Int)
 | 0,_,_,_,_=>none
 | k+1,s8,s9,s10,s11=>(if s11<x1.1 then ((a1.g s11).bind fun x12=>(if x12.2=0 then ((ap? 1466015503701 s10 [x12.1]).bind fun x13=>(Bu a1 x1 K0 k s8 s9 x13 (w64 (s11+1)))) else (some ((Arr.mk [] []),x12.2)))) else (K0 s8 s9 s10))
def AK (a0 : (List Int)) (a1 : Ay) : Option (Arr × Int):=((Dq a0).bind fun x1=>((BR 0).bind fun x2=>((Cu x2).bind fun x3=>((Kg (0≤(if (w64 (1 - (if 1<x1.1 then 1 else x1.1)))<1 then (w64 (1 - (if 1<x1.1 then 1 else x1.1))) else 1)∧(if (w64 (1 - (if 1<x1.1 then 1 else x1.1)))<1 then (w64 (1 - (if 1<x1.1 then 1 else x1.1))) else 1)≤((List.length [x3] : Nat) : Int))).bind fun x4=>(jn (fun (z5 : Arr) (z6 : Int) (z7 : (List Itm))=>((Cj a0 z7).bind fun x14=>(some (x14.1,x14.2)))) fun K0=>(Bu a1 x1 K0 Bi (Arr.mk [] []) 0 (List.take (Int.toNat (if (w64 (1 - (if 1<x1.1 then 1 else x1.1)))<1 then (w64 (1 - (if 1<x1.1 then 1 else x1.1))) else 1)) ([x3])) 0))))))
theorem HD {a0 : (List Int)} {a1 : Ay} (oa1 : J8 a1) {r : Arr × Int} (h : AK a0 a1=some r) :
  Fn Tryz.prog 92 [.sl (Is a0),a1.dv] (.tup [.d (.ag [.sl (Is r.1.shape),.sl (Its r.1.items)]),.d (.i .i64 r.2)]):=by
 unfold AK at h
 refine Fn.ofC (rs:=[.cell 4 25,.tmp 5]) (nt:=49) Tryz.func92 rfl rfl rfl (by simp) rfl ?_;refine .sr ?_;refine vk (van (Ag A4) Bh) ?_;refine ar [0,1,4,5] ?_;refine .sr ?_;refine vk (Aa) ?_
 obtain ⟨x1,hx1,h⟩:=bnd h
 refine vk (VOK.tupd (vs:=[.i .i64 x1.1,.i .i64 x1.2]) (Af (Ei hx1) Tryz.call98)) ?_;refine vk (Aa) ?_;refine vk (vex) ?_;refine vk (vex) ?_;refine asd ?_;refine ar [0,1,4,5,6] ?_;refine .sr ?_
 obtain ⟨x2,hx2,h⟩:=bnd h
 refine vk (Af (Bx hx2) Tryz.call72) ?_
 obtain ⟨x3,hx3,h⟩:=bnd h
 refine vk (Af (D7 hx3) Tryz.call94) ?_;refine vk (Gv (F4 x3) (EZ [x3]) EQ) ?_;refine vk (Aa) ?_;refine vk (vmn) ?_;refine vk (vbi) ?_;refine vk (vmn) ?_
 obtain ⟨x4,hx4,h⟩:=bnd h
 have ghx4:=Lj hx4
 refine slo (xs:=Its [x3]) (z:=(if (w64 (1 - (if 1<x1.1 then 1 else x1.1)))<1 then (w64 (1 - (if 1<x1.1 then 1 else x1.1))) else 1)) (Int.toNat (if (w64 (1 - (if 1<x1.1 then 1 else x1.1)))<1 then (w64 (1 - (if 1<x1.1 then 1 else x1.1))) else 1)) (by omega) (by rw [AE];omega) ?_ Dj
 rw [Yw]
 refine aso ?_;refine rk [0,1,4,5,6,8] ?_;refine .seq ?_;refine .sr ?_;refine vk (Aa) ?_;refine vk (Aa) ?_;refine rk [0,1,4,5,8,25,26] ?_
 obtain ⟨K0,hK0,h⟩:=BS h
 refine AW.mr (σ:=Arr × Int × (List Itm)) (fun p=>K0 p.1 p.2.1 p.2.2=some r) (fun p=>[(0,.d (.sl (Is a0))),(4,.nb [.sl (Is p.1.shape),.sl (Its p.1.items)]),(5,.d (.i .i64 p.2.1)),(8,.own 83 (Its p.2.2))]) (fun p=>[]) ?_ ?_
 ·skip
  refine .block ?_
  refine .loop (.gk [0,1,4,5,8,25,26] ?_)
  refine AL.ind (σ:=Nat × Arr × Int × (List Itm) × Int) (m:=fun p=>p.1) (e:=fun p=>[(0,.d (.sl (Is a0))),(1,.d (a1.dv)),(4,.nb [.sl (Is p.2.1.shape),.sl (Its p.2.1.items)]),(5,.d (.i .i64 p.2.2.1)),(8,.own 83 (Its p.2.2.2.1)),(25,.d (.i .i64 x1.1)),(26,.d (.i .i64 p.2.2.2.2))]) (h:=fun p=>[]) (I:=fun p=>Bu a1 x1 K0 p.1 p.2.1 p.2.2.1 p.2.2.2.1 p.2.2.2.2=some r) ?_ (Bi,(Arr.mk [] []),0,(List.take (Int.toNat (if (w64 (1 - (if 1<x1.1 then 1 else x1.1)))<1 then (w64 (1 - (if 1<x1.1 then 1 else x1.1))) else 1)) ([x3])),0) h
  rintro ⟨k,s8,s9,s10,s11⟩ h ih
  dsimp only at h ih ⊢
  rcases k with _ | k
  ·rw [Bu] at h;cases h
  rw [Bu] at h
  refine .sr ?_;refine vk (vbi) ?_;refine rk [0,1,4,5,8,25,26,27] ?_;refine .seq ?_
  by_cases hc:s11<x1.1
  ·replace h:=Ad hc h
   refine cnt (dT hc) ?_;refine .skip ?_
   show AW _ _ _ _ _ _
   refine .seq ?_;refine .block ?_;refine .sr ?_;refine vk (Aa) ?_;refine ar [0,1,4,5,8,9,25,26] ?_;refine .sr ?_;refine vk (Aa) ?_;refine vk (Aa) ?_
   obtain ⟨x12,hx12,h⟩:=bnd h
   refine vk (VOK.tupd (vs:=[.ag [.i .u8 x12.1.kind,.b x12.1.num.1,.sl (L x12.1.num.2.1),.sl (L x12.1.num.2.2),.i .i32 x12.1.char,.sl (Ars x12.1.box)],.i .i64 x12.2]) (NN (oa1 _ _ hx12))) ?_;refine vk (Aa) ?_;refine vk (vex) ?_;refine vk (vex) ?_;refine vk (van (Ag BN) BW) ?_
   refine stn ?_ Aw (by decide)
   refine ar [0,1,4,5,8,10,11,25,26] ?_;refine .seq ?_;refine .sr ?_;refine vk (Aa) ?_;refine vk (vbi) ?_;refine rk [0,1,4,5,8,10,11,25,26,36] ?_
   by_cases hc:x12.2=0
   ·replace h:=Ad hc h
    refine cnf (ntf (dT hc)) ?_;refine .skip ?_
    show AW _ _ _ _ _ _
    refine .region ?_;refine mvo ?_;refine vk (D4 AM Aw) ?_;refine vk ((Gv (F4 x12.1) (EZ [x12.1]) EQ).deep) ?_
    obtain ⟨x13,hx13,h⟩:=bnd h
    refine Y3 Kj hx13 Nj ?_ I7 AE EQ
    refine aso ?_;refine .nil ?_
    show AW _ _ _ _ _ _
    refine .gk [0,1,4,5,8,25,26] ?_;refine .region ?_;refine vk (vbi) ?_;refine vk (Aa) ?_;refine .nil ?_;refine AL.gk [0,1,4,5,8,25,26] ?_
    exact ih (k,s8,s9,x13,(w64 (s11+1))) h (Nat.lt_succ_self _)
   replace h:=Ae hc h
   refine cnt (ntt (dF hc)) ?_;refine .sr ?_;refine vk (vbd EA A4 Bh) ?_;refine vk (Aa) ?_
   refine stn ?_ Ah (by decide)
   refine ar [0,1,4,5,8,10,25,26] ?_;refine .ret ?_
   cases h
   exact ⟨_,_,⟨.inr rfl,Ar,Ah,(by decide:(0:Nat)<2)⟩,rfl,rfl⟩
  replace h:=Ae hc h
  refine cnf (dF hc) ?_;refine .gk [0,4,5,8] ?_;refine .exit ?_
  exact jr (s8,s9,s10) h
 rintro ⟨z5,z6,z7⟩ h
 try dsimp only at h ⊢
 subst hK0
 show AW _ _ _ _ _ _
 refine .sr ?_;refine vk (Aa) ?_;refine fz (p:=.t 8) ?_;refine vk (Aa) ?_
 obtain ⟨x14,hx14,h⟩:=bnd h
 refine vk (VOK.tupd (vs:=[.ag [.sl (Is x14.1.shape),.sl (Its x14.1.items)],.i .i64 x14.2]) (Af (NY hx14) Tryz.call99)) ?_;refine vk (vex) ?_;refine vk (vex) ?_
 refine stn ?_ Ah (by decide)
 refine ar [4,5] ?_;refine .ret ?_
 cases h
 exact ⟨_,_,⟨.inr rfl,Ar,Ah,(by decide:(0:Nat)<2)⟩,rfl,rfl⟩
def Fv (rc_scalar_one_through : Ap→Arr→Option (Arr × Int)) (a0 : Int) (c0 : Arr) (c1 : Ap) : Option (Itm × Int):=((rd? c0.items a0).bind fun x1=>(if x1.kind=1 then ((c1.g x1.num).bind fun x2=>((Cu x2.1).bind fun x3=>(some (x3,x2.2)))) else (if x1.kind=3 then ((rd? x1.box 0).bind fun x4=>((rc_scalar_one_through c1 x4).bind fun x5=>((BA x5.1).bind fun x6=>(some (x6,x5.2))))) else (some ((Itm.mk 0 (false,[],[]) 0 []),3)))))
theorem Sc {rc_scalar_one_through : Ap→Arr→Option (Arr × Int)} (orc_scalar_one_through : ∀ x0 x1 r,CC x0→rc_scalar_one_through x0 x1=some r→Fn Tryz.prog 32 [x0.dv,.ag [.sl (Is x1.shape),.sl (Its x1.items)]] (.tup [.d (.ag [.sl (Is r.1.shape),.sl (Its r.1.items)]),.d (.i .i64 r.2)])) {a0 : Int} {c0 : Arr} {c1 : Ap} (oc1 : CC c1) {r : Itm × Int} (h : Fv rc_scalar_one_through a0 c0 c1=some r) :
  Fn Tryz.prog 93 [.i .i64 a0,.ptr [.sl (Is c0.shape),.sl (Its c0.items)],.ptr [c1.dv]] (.tup [.d (.ag [.i .u8 r.1.kind,.b r.1.num.1,.sl (L r.1.num.2.1),.sl (L r.1.num.2.2),.i .i32 r.1.char,.sl (Ars r.1.box)]),.d (.i .i64 r.2)]):=by
 unfold Fv at h
 refine Fn.ofC (rs:=[.cell 4 83,.tmp 5]) (nt:=45) Tryz.func93 rfl rfl rfl (by simp) rfl ?_;refine .sr ?_;refine vk (van (Ag BN) BW) ?_;refine ar [0,1,2,4,5] ?_;refine .seq ?_;refine .sr ?_;refine vk (vfa AH) ?_;refine vk (Am BD) ?_;refine vk (Aa) ?_
 obtain ⟨x1,hx1,h⟩:=bnd h
 obtain ⟨nx1,hnx1,hxx1⟩:=AI hx1
 refine vk (vix nx1 hnx1 (Dn hxx1) rfl Dj) ?_;refine vk (Ao AM Aw) ?_;refine vk (van (Ag BN) BW) ?_
 refine stn ?_ Aw (by decide)
 refine rk [2,4,5,6] ?_;refine .seq ?_;refine .gh (Gh.nbp (t:=6) rfl) ?_;refine .region ?_;refine vk (vfa Bv) ?_;refine vk (Am AS) ?_;refine rk [2,4,5,6,17] ?_;refine .block ?_;refine .sr ?_;refine vk (vbi) ?_;refine ar [2,4,5,6,17,18] ?_
 by_cases hc:x1.kind=1
 ·replace h:=Ad hc h
  refine cnt (dT hc) ?_;refine .sr ?_;refine vk (Am Hy) ?_;refine vk (vfa BB) ?_;refine vk (Ao Au Al) ?_
  obtain ⟨x2,hx2,h⟩:=bnd h
  refine vk (VOK.tupd (vs:=[.ag [.b x2.1.1,.sl (L x2.1.2.1),.sl (L x2.1.2.2)],.i .i64 x2.2]) (NN (oc1 _ _ hx2))) ?_;refine vk (Aa) ?_;refine vk (vex) ?_;refine vk (vex) ?_;refine vk (van (Ag BH) BL) ?_
  refine stn ?_ Al (by decide)
  refine ar [4,5,7,8] ?_;refine .sr ?_;refine vk (D4 Au Al) ?_
  obtain ⟨x3,hx3,h⟩:=bnd h
  refine vk (Af (D7 hx3) Tryz.call94) ?_;refine vk (Aa) ?_
  refine stn ?_ Aw (by decide)
  refine ar [4,5] ?_;refine .ret ?_
  cases h
  exact ⟨_,_,⟨.inr rfl,AM,Aw,(by decide:(0:Nat)<6)⟩,rfl,rfl⟩
 replace h:=Ae hc h
 refine cnf (dF hc) ?_;refine .sr ?_;refine vk (vbi) ?_;refine ar [2,4,5,6,30] ?_
 by_cases hc:x1.kind=3
 ·replace h:=Ad hc h
  refine cnt (dT hc) ?_;refine .seq ?_
  obtain ⟨x4,hx4,h⟩:=bnd h
  obtain ⟨x5,hx5,h⟩:=bnd h
  refine .drawnF 10 [8] [(9,.nb [.sl (Is x5.1.shape),.sl (Its x5.1.items)])] [] A9 (by kernel_rfl) rfl ?_;refine dv (Am Hy) ?_;refine dv (vfa A7) ?_;refine dv (Am B8) ?_
  obtain ⟨nx4,hnx4,hxx4⟩:=AI hx4
  refine dv (vix nx4 hnx4 (EV hxx4) rfl E0) ?_;refine dv (Ao Ar Ah) ?_;refine dv (VOK.tupd (vs:=[.ag [.sl (Is x5.1.shape),.sl (Its x5.1.items)],.i .i64 x5.2]) (Af (orc_scalar_one_through _ _ _ oc1 hx5) Tryz.call32)) ?_;refine dv (Aa) ?_;refine dv (vex) ?_;refine dv (vex) ?_;refine dv (van (Ag A4) Bh) ?_;refine dz ?_
  refine ⟨?_,?_,?_⟩
  ·intro k hk
   simp only [List.mem_cons,List.not_mem_nil,or_false] at hk
   subst hk
   exact ⟨_,_,_,rfl,rfl,rfl,rfl,rfl,rfl,vex⟩
  ·intro om e hom hge
   cases hom
   exact JJ (cs:=[.sl (Is []),.sl (Its [])]) (cs':=[.sl (Is x5.1.shape),.sl (Its x5.1.items)]) Ah (by decide) rfl ((hge 9 (fun k hk v hv=>by
     simp only [List.mem_cons,List.not_mem_nil,or_false] at hk
     subst hk;exact (by decide:¬ (some 40=some 9)) (congrArg (Option.map Prod.fst) hv))).trans rfl) ((congrArg Ba (hge 39 (fun k hk v hv=>by
     simp only [List.mem_cons,List.not_mem_nil,or_false] at hk
     subst hk;exact (by decide:¬ (some 40=some 39)) (congrArg (Option.map Prod.fst) hv)))).trans rfl) rfl rfl rfl rfl ⟨rfl,rfl⟩
  refine ar [4,5,9,10] ?_;refine .sr ?_;refine vk (D4 Ar Ah) ?_
  obtain ⟨x6,hx6,h⟩:=bnd h
  refine vk (Af (Hv hx6) Tryz.call95) ?_;refine vk (Aa) ?_
  refine stn ?_ Aw (by decide)
  refine ar [4,5] ?_;refine .ret ?_
  cases h
  exact ⟨_,_,⟨.inr rfl,AM,Aw,(by decide:(0:Nat)<6)⟩,rfl,rfl⟩
 replace h:=Ae hc h
 refine cnf (dF hc) ?_;refine .skip ?_
 show AW _ _ _ _ _ _
 refine .sr ?_;refine vk (vbd GT BN BW) ?_
 refine stn ?_ Aw (by decide)
 refine ar [4,5] ?_;refine .ret ?_
 cases h
 exact ⟨_,_,⟨.inr rfl,AM,Aw,(by decide:(0:Nat)<6)⟩,rfl,rfl⟩
def HW (rc_scalar_one_through : Ap→Arr→Option (Arr × Int)) (a0 : Ap) (a1 : Arr) : Option (Arr × Int):=((AK a1.shape (⟨.fn 93 [] [.ptr [.sl (Is a1.shape),.sl (Its a1.items)],.ptr [a0.dv]],fun x=>Fv rc_scalar_one_through x a1 a0⟩ : Ay)).bind fun x1=>(some (x1.1,x1.2)))
theorem Sm {rc_scalar_one_through : Ap→Arr→Option (Arr × Int)} (orc_scalar_one_through : ∀ x0 x1 r,CC x0→rc_scalar_one_through x0 x1=some r→Fn Tryz.prog 32 [x0.dv,.ag [.sl (Is x1.shape),.sl (Its x1.items)]] (.tup [.d (.ag [.sl (Is r.1.shape),.sl (Its r.1.items)]),.d (.i .i64 r.2)])) {a0 : Ap} {a1 : Arr} (oa0 : CC a0) {r : Arr × Int} (h : HW rc_scalar_one_through a0 a1=some r) :
  Fn Tryz.prog 32 [a0.dv,.ag [.sl (Is a1.shape),.sl (Its a1.items)]] (.tup [.d (.ag [.sl (Is r.1.shape),.sl (Its r.1.items)]),.d (.i .i64 r.2)]):=by
 unfold HW at h
 refine Fn.ofC (rs:=[.cell 4 25,.tmp 5]) (nt:=12) Tryz.func32 rfl rfl rfl (by simp) rfl ?_;refine .sr ?_;refine vk (Ut) ?_;refine vk (vbx) ?_;refine vk (van (Ag A4) Bh) ?_;refine ar [2,3,4,5] ?_;refine .sr ?_;refine vk (vfa AY) ?_;refine vk (Am CG) ?_;refine vk (Ud) ?_
 obtain ⟨x1,hx1,h⟩:=bnd h
 refine vk (VOK.tupd (vs:=[.ag [.sl (Is x1.1.shape),.sl (Its x1.1.items)],.i .i64 x1.2]) (Af (HD (Cp Tryz.call93 (fun _ _ h=>Sc orc_scalar_one_through oa0 h)) hx1) Tryz.call92)) ?_;refine vk (vex) ?_;refine vk (vex) ?_
 refine stn ?_ Ah (by decide)
 refine ar [4,5] ?_;refine .ret ?_
 cases h
 exact ⟨_,_,⟨.inr rfl,Ar,Ah,(by decide:(0:Nat)<2)⟩,rfl,rfl⟩
def CH : Nat→Ap→Arr→Option (Arr × Int)
 | 0,_,_=>none
 | k+1,a0,a1=>HW (CH k) a0 a1
theorem LK : ∀ (k : Nat) (a0 : Ap) (a1 : Arr) (r : Arr × Int),CC a0→CH k a0 a1=some r→Fn Tryz.prog 32 [a0.dv,.ag [.sl (Is a1.shape),.sl (Its a1.items)]] (.tup [.d (.ag [.sl (Is r.1.shape),.sl (Its r.1.items)]),.d (.i .i64 r.2)])
 | 0,_,_,_,_,h=>by cases h
 | k+1,a0,a1,_,oa0,h=>Sm (LK k) oa0 (show HW (CH k) a0 a1=some _ from h)
def H0 (a0 : Ap) (a1 : Arr) : Option (Arr × Int):=CH (a1.size+1) a0 a1
theorem Ty {a0 : Ap} {a1 : Arr} (oa0 : CC a0) {r : Arr × Int} (h : H0 a0 a1=some r) : Fn Tryz.prog 32 [a0.dv,.ag [.sl (Is a1.shape),.sl (Its a1.items)]] (.tup [.d (.ag [.sl (Is r.1.shape),.sl (Its r.1.items)]),.d (.i .i64 r.2)]):=LK _ a0 a1 r oa0 h
def DP (a0 : (Int × RT × Int)) (a1 : Int) (a2 : Arr) : Option (Arr × Int):=(T6 (FQ LV a1) (some ((Arr.mk [] []),23)) fun f1=>((Bq a2).bind fun x2=>(if x2=true then ((H0 f1 a2).bind fun x3=>(some (x3.1,x3.2))) else (some ((Arr.mk [] []),22)))))
theorem KJ {a0 : (Int × RT × Int)} {a1 : Int} {a2 : Arr} {r : Arr × Int} (h : DP a0 a1 a2=some r) :
  Fn Tryz.prog 10 [.ag [.i .i64 a0.1,.b a0.2.1.1,.sl (L a0.2.1.2.1),.sl (L a0.2.1.2.2),.i .i64 a0.2.2],.i .i32 a1,.ag [.sl (Is a2.shape),.sl (Its a2.items)]] (.tup [.d (.ag [.sl (Is r.1.shape),.sl (Its r.1.items)]),.d (.i .i64 r.2)]):=by
 unfold DP at h
 refine Fn.ofC (rs:=[.cell 6 25,.tmp 7]) (nt:=26) Tryz.func10 rfl rfl rfl (by simp) rfl ?_;refine .sr ?_;refine vk (vbx) ?_;refine vk (vbx) ?_;refine vk (van (Ag A4) Bh) ?_;refine ar [1,5,6,7] ?_;refine .sr ?_;refine vk (Af Vd Tryz.call31) ?_;refine vk (Aa) ?_
 rcases hmf1:(FQ LV a1) with _ | f1
 ·replace h:=So hmf1 h
  refine vk (Xr Ih gkR Y7 hmf1) ?_;refine ar [5,6,7,8] ?_;refine .seq ?_;refine .block ?_;refine .sr ?_;refine vk (Aa) ?_;refine vk (YW GR) ?_;refine ar [5,6,7,8,12] ?_;refine A0 ?_;refine .sr ?_;refine vk (vbd EA A4 Bh) ?_
  refine stn ?_ Ah (by decide)
  refine ar [5,6,7,8] ?_;refine .ret ?_
  cases h
  exact ⟨_,_,⟨.inr rfl,Ar,Ah,(by decide:(0:Nat)<2)⟩,rfl,rfl⟩
 replace h:=Sy hmf1 h
 obtain ⟨of1,isf1⟩:=Wg hmf1
 refine vk (Xu Wd Ih gkR hmf1) ?_;refine ar [5,6,7,8] ?_;refine .seq ?_;refine .block ?_;refine .sr ?_;refine vk (Aa) ?_;refine vk (Za GR isf1) ?_;refine ar [5,6,7,8,12] ?_;refine A2 ?_;refine .sr ?_;refine vk (Ao Ar Ah) ?_
 obtain ⟨x2,hx2,h⟩:=bnd h
 refine vk (Af (B7 hx2) Tryz.call13) ?_;refine vk (vnt) ?_;refine ar [5,6,7,8,16] ?_
 by_cases hc:x2=true
 ·replace h:=Ad hc h
  refine cnf (ntf hc) ?_;refine .skip ?_
  show AW _ _ _ _ _ _
  refine .sr ?_;refine vk (Aa) ?_;refine vk (Ao Ar Ah) ?_
  obtain ⟨x3,hx3,h⟩:=bnd h
  refine vk (VOK.tupd (vs:=[.ag [.sl (Is x3.1.shape),.sl (Its x3.1.items)],.i .i64 x3.2]) (Af (Ty of1 hx3) Tryz.call32)) ?_;refine vk (vex) ?_;refine vk (vex) ?_
  refine stn ?_ Ah (by decide)
  refine ar [6,7] ?_;refine .ret ?_
  cases h
  exact ⟨_,_,⟨.inr rfl,Ar,Ah,(by decide:(0:Nat)<2)⟩,rfl,rfl⟩
 replace h:=Ae hc h
 refine cnt (ntt (bf hc)) ?_;refine .sr ?_;refine vk (vbd EA A4 Bh) ?_
 refine stn ?_ Ah (by decide)
 refine ar [5,6,7,8] ?_;refine .ret ?_
 cases h
 exact ⟨_,_,⟨.inr rfl,Ar,Ah,(by decide:(0:Nat)<2)⟩,rfl,rfl⟩
def DS (rc_scalar_pair_through : (Ak × Int)→Arr→Arr→Option (Arr × Int)) (a0 : (Ak × Int)) (a1 : Itm) (a2 : Itm) : Option (Itm × Int):=(if ((decide (a1.kind=3)) || (decide (a2.kind=3)))=true then ((Et a1).bind fun x1=>((Et a2).bind fun x2=>((rc_scalar_pair_through a0 x1 x2).bind fun x3=>((BA x3.1).bind fun x4=>(some (x4,x3.2)))))) else (if ((decide (a1.kind=1)) && (decide (a2.kind=1)))=true then ((a0.1.g (a1.num,a2.num)).bind fun x5=>((Cu x5.1).bind fun x6=>(some (x6,x5.2)))) else (if ((decide (a0.2=61)) || (decide (a0.2=8800)))=true then ((Dr (((decide (a1.kind=a2.kind)) && (decide (a1.char=a2.char))) == (decide (a0.2=61)))).bind fun x7=>((Cu x7).bind fun x8=>(some (x8,0)))) else (some ((Itm.mk 0 (false,[],[]) 0 []),3)))))
theorem Qc {rc_scalar_pair_through : (Ak × Int)→Arr→Arr→Option (Arr × Int)} (orc_scalar_pair_through : ∀ x0 x1 x2 r,Bj x0.1→rc_scalar_pair_through x0 x1 x2=some r→Fn Tryz.prog 39 [.ag [x0.1.dv,.i .i32 x0.2],.ag [.sl (Is x1.shape),.sl (Its x1.items)],.ag [.sl (Is x2.shape),.sl (Its x2.items)]] (.tup [.d (.ag [.sl (Is r.1.shape),.sl (Its r.1.items)]),.d (.i .i64 r.2)])) {a0 : (Ak × Int)} {a1 : Itm} {a2 : Itm} (oa0 : Bj a0.1) {r : Itm × Int} (h : DS rc_scalar_pair_through a0 a1 a2=some r) :
  Fn Tryz.prog 116 [.ag [a0.1.dv,.i .i32 a0.2],.ag [.i .u8 a1.kind,.b a1.num.1,.sl (L a1.num.2.1),.sl (L a1.num.2.2),.i .i32 a1.char,.sl (Ars a1.box)],.ag [.i .u8 a2.kind,.b a2.num.1,.sl (L a2.num.2.1),.sl (L a2.num.2.2),.i .i32 a2.char,.sl (Ars a2.box)]] (.tup [.d (.ag [.i .u8 r.1.kind,.b r.1.num.1,.sl (L r.1.num.2.1),.sl (L r.1.num.2.2),.i .i32 r.1.char,.sl (Ars r.1.box)]),.d (.i .i64 r.2)]):=by
 unfold DS at h
 refine Fn.ofC (rs:=[.cell 6 83,.tmp 7]) (nt:=85) Tryz.func116 rfl rfl rfl (by simp) rfl ?_;refine .sr ?_;refine vk (vbx) ?_;refine vk (vbx) ?_;refine vk (vbx) ?_;refine vk (van (Ag BN) BW) ?_;refine ar [3,4,5,6,7] ?_;refine .seq ?_;refine .block ?_;refine .seq ?_;refine AW.mr (σ:=Unit) (fun _=>True) (fun _=>[(3,.d (.ptr [a0.1.dv,.i .i32 a0.2])),(4,.d (.ptr [.i .u8 a1.kind,.b a1.num.1,.sl (L a1.num.2.1),.sl (L a1.num.2.2),.i .i32 a1.char,.sl (Ars a1.box)])),(5,.d (.ptr [.i .u8 a2.kind,.b a2.num.1,.sl (L a2.num.2.1),.sl (L a2.num.2.2),.i .i32 a2.char,.sl (Ars a2.box)])),(6,.nb [.i .u8 0,.b false,.sl (L []),.sl (L []),.i .i32 0,.sl (Ars [])]),(7,.d (.i .i64 0)),(13,.d (.b ((decide (a1.kind=3)) || (decide (a2.kind=3)))))]) (fun _=>[]) ?_ ?_
 ·skip
  refine .region ?_;refine vk (vfa Bv) ?_;refine vk (Am AS) ?_;refine vk (vbi) ?_
  by_cases hc:a1.kind=3
  ·have hb0:(decide (a1.kind=3))=true:=(dT hc)
   refine vk (VOK.lit (Aa) hb0) ?_;refine gf ?_;refine gf ?_;refine gf ?_;refine vk (Ai) ?_;refine asd ?_;refine RL.gk [3,4,5,6,7,13] ?_;refine .nil ?_
   exact jr () trivial (by simp only [hb0];rfl)
  have hb0:(decide (a1.kind=3))=false:=(dF hc)
  refine vk (VOK.lit (Aa) hb0) ?_;refine vk (vfa Bv) ?_;refine vk (Am AS) ?_;refine vk (vbi) ?_;refine vk (Ai) ?_;refine asd ?_;refine RL.gk [3,4,5,6,7,13] ?_;refine .nil ?_
  exact jr () trivial (by simp only [hb0];rfl)
 rintro _ _
 by_cases hc:((decide (a1.kind=3)) || (decide (a2.kind=3)))=true
 ·replace h:=Ad hc h
  refine cnt hc ?_;refine .seq ?_
  obtain ⟨x1,hx1,h⟩:=bnd h
  obtain ⟨x2,hx2,h⟩:=bnd h
  obtain ⟨x3,hx3,h⟩:=bnd h
  refine .drawnF 10 [8] [(8,.nb [.sl (Is x3.1.shape),.sl (Its x3.1.items)])] [] A9 (by kernel_rfl) rfl ?_;refine dv (Ao Oh Iq) ?_;refine dv (Ao AM Aw) ?_;refine dv (Af (Jv hx1) Tryz.call194) ?_;refine dv (Ao AM Aw) ?_;refine dv (Af (Jv hx2) Tryz.call194) ?_;refine dv (VOK.tupd (vs:=[.ag [.sl (Is x3.1.shape),.sl (Its x3.1.items)],.i .i64 x3.2]) (Af (orc_scalar_pair_through _ _ _ _ oa0 hx3) Tryz.call39)) ?_;refine dv (Aa) ?_;refine dv (vex) ?_;refine dv (vex) ?_;refine dv (van (Ag A4) Bh) ?_;refine dz ?_
  refine ⟨?_,?_,?_⟩
  ·intro k hk
   simp only [List.mem_cons,List.not_mem_nil,or_false] at hk
   subst hk
   exact ⟨_,_,_,rfl,rfl,rfl,rfl,rfl,rfl,vex⟩
  ·intro om e hom hge
   cases hom
   exact JJ (cs:=[.sl (Is []),.sl (Its [])]) (cs':=[.sl (Is x3.1.shape),.sl (Its x3.1.items)]) Ah (by decide) rfl ((hge 8 (fun k hk v hv=>by
     simp only [List.mem_cons,List.not_mem_nil,or_false] at hk
     subst hk;exact (by decide:¬ (some 30=some 8)) (congrArg (Option.map Prod.fst) hv))).trans rfl) ((congrArg Ba (hge 29 (fun k hk v hv=>by
     simp only [List.mem_cons,List.not_mem_nil,or_false] at hk
     subst hk;exact (by decide:¬ (some 30=some 29)) (congrArg (Option.map Prod.fst) hv)))).trans rfl) rfl rfl rfl rfl ⟨rfl,rfl⟩
  refine ar [6,7,8,9] ?_;refine .sr ?_;refine vk (D4 Ar Ah) ?_
  obtain ⟨x4,hx4,h⟩:=bnd h
  refine vk (Af (Hv hx4) Tryz.call95) ?_;refine vk (Aa) ?_
  refine stn ?_ Aw (by decide)
  refine ar [6,7] ?_;refine .ret ?_
  cases h
  exact ⟨_,_,⟨.inr rfl,AM,Aw,(by decide:(0:Nat)<6)⟩,rfl,rfl⟩
 replace h:=Ae hc h
 refine cnf (bf hc) ?_;refine .seq ?_;refine AW.mr (σ:=Unit) (fun _=>True) (fun _=>[(3,.d (.ptr [a0.1.dv,.i .i32 a0.2])),(4,.d (.ptr [.i .u8 a1.kind,.b a1.num.1,.sl (L a1.num.2.1),.sl (L a1.num.2.2),.i .i32 a1.char,.sl (Ars a1.box)])),(5,.d (.ptr [.i .u8 a2.kind,.b a2.num.1,.sl (L a2.num.2.1),.sl (L a2.num.2.2),.i .i32 a2.char,.sl (Ars a2.box)])),(6,.nb [.i .u8 0,.b false,.sl (L []),.sl (L []),.i .i32 0,.sl (Ars [])]),(7,.d (.i .i64 0)),(34,.d (.b ((decide (a1.kind=1)) && (decide (a2.kind=1)))))]) (fun _=>[]) ?_ ?_
 ·skip
  refine .region ?_;refine vk (vfa Bv) ?_;refine vk (Am AS) ?_;refine vk (vbi) ?_
  by_cases hc:a1.kind=1
  ·have hb0:(decide (a1.kind=1))=true:=(dT hc)
   refine vk (VOK.lit (Aa) hb0) ?_;refine vk (vfa Bv) ?_;refine vk (Am AS) ?_;refine vk (vbi) ?_;refine vk (Ai) ?_;refine asd ?_;refine RL.gk [3,4,5,6,7,34] ?_;refine .nil ?_
   exact jr () trivial (by simp only [hb0];rfl)
  have hb0:(decide (a1.kind=1))=false:=(dF hc)
  refine vk (VOK.lit (Aa) hb0) ?_;refine gf ?_;refine gf ?_;refine gf ?_;refine vk (Ai) ?_;refine asd ?_;refine RL.gk [3,4,5,6,7,34] ?_;refine .nil ?_
  exact jr () trivial (by simp only [hb0];rfl)
 rintro _ _
 by_cases hc:((decide (a1.kind=1)) && (decide (a2.kind=1)))=true
 ·replace h:=Ad hc h
  refine cnt hc ?_;refine .sr ?_;refine vk (vfa WP) ?_;refine vk (Am JU) ?_;refine vk (vfa BB) ?_;refine vk (Ao Au Al) ?_;refine vk (vfa BB) ?_;refine vk (Ao Au Al) ?_
  obtain ⟨x5,hx5,h⟩:=bnd h
  refine vk (VOK.tupd (vs:=[.ag [.b x5.1.1,.sl (L x5.1.2.1),.sl (L x5.1.2.2)],.i .i64 x5.2]) (NN (oa0 _ _ hx5))) ?_;refine vk (Aa) ?_;refine vk (vex) ?_;refine vk (vex) ?_;refine vk (van (Ag BH) BL) ?_
  refine stn ?_ Al (by decide)
  refine ar [6,7,10,11] ?_;refine .sr ?_;refine vk (D4 Au Al) ?_
  obtain ⟨x6,hx6,h⟩:=bnd h
  refine vk (Af (D7 hx6) Tryz.call94) ?_;refine vk (Aa) ?_
  refine stn ?_ Aw (by decide)
  refine ar [6,7] ?_;refine .ret ?_
  cases h
  exact ⟨_,_,⟨.inr rfl,AM,Aw,(by decide:(0:Nat)<6)⟩,rfl,rfl⟩
 replace h:=Ae hc h
 refine cnf (bf hc) ?_;refine .seq ?_;refine AW.mr (σ:=Unit) (fun _=>True) (fun _=>[(3,.d (.ptr [a0.1.dv,.i .i32 a0.2])),(4,.d (.ptr [.i .u8 a1.kind,.b a1.num.1,.sl (L a1.num.2.1),.sl (L a1.num.2.2),.i .i32 a1.char,.sl (Ars a1.box)])),(5,.d (.ptr [.i .u8 a2.kind,.b a2.num.1,.sl (L a2.num.2.1),.sl (L a2.num.2.2),.i .i32 a2.char,.sl (Ars a2.box)])),(6,.nb [.i .u8 0,.b false,.sl (L []),.sl (L []),.i .i32 0,.sl (Ars [])]),(7,.d (.i .i64 0)),(56,.d (.b ((decide (a0.2=61)) || (decide (a0.2=8800)))))]) (fun _=>[]) ?_ ?_
 ·skip
  refine .region ?_;refine vk (vfa PF) ?_;refine vk (Am Cb) ?_;refine vk (vbi) ?_
  by_cases hc:a0.2=61
  ·have hb0:(decide (a0.2=61))=true:=(dT hc)
   refine vk (VOK.lit (Aa) hb0) ?_;refine gf ?_;refine gf ?_;refine gf ?_;refine vk (Ai) ?_;refine asd ?_;refine RL.gk [3,4,5,6,7,56] ?_;refine .nil ?_
   exact jr () trivial (by simp only [hb0];rfl)
  have hb0:(decide (a0.2=61))=false:=(dF hc)
  refine vk (VOK.lit (Aa) hb0) ?_;refine vk (vfa PF) ?_;refine vk (Am Cb) ?_;refine vk (vbi) ?_;refine vk (Ai) ?_;refine asd ?_;refine RL.gk [3,4,5,6,7,56] ?_;refine .nil ?_
  exact jr () trivial (by simp only [hb0];rfl)
 rintro _ _
 by_cases hc:((decide (a0.2=61)) || (decide (a0.2=8800)))=true
 ·replace h:=Ad hc h
  refine cnt hc ?_;refine .seq ?_;refine AW.mr (σ:=Unit) (fun _=>True) (fun _=>[(3,.d (.ptr [a0.1.dv,.i .i32 a0.2])),(6,.nb [.i .u8 0,.b false,.sl (L []),.sl (L []),.i .i32 0,.sl (Ars [])]),(7,.d (.i .i64 0)),(12,.d (.b ((decide (a1.kind=a2.kind)) && (decide (a1.char=a2.char)))))]) (fun _=>[]) ?_ ?_
  ·skip
   refine .region ?_;refine vk (vfa Bv) ?_;refine vk (Am AS) ?_;refine vk (vfa Bv) ?_;refine vk (Am AS) ?_;refine vk (vbi) ?_
   by_cases hc:a1.kind=a2.kind
   ·have hb0:(decide (a1.kind=a2.kind))=true:=(dT hc)
    refine vk (VOK.lit (Aa) hb0) ?_;refine vk (vfa CX) ?_;refine vk (Am Cb) ?_;refine vk (vfa CX) ?_;refine vk (Am Cb) ?_;refine vk (vbi) ?_;refine vk (Ai) ?_;refine asd ?_;refine RL.gk [3,6,7,12] ?_;refine .nil ?_
    exact jr () trivial (by simp only [hb0];rfl)
   have hb0:(decide (a1.kind=a2.kind))=false:=(dF hc)
   refine vk (VOK.lit (Aa) hb0) ?_;refine gf ?_;refine gf ?_;refine gf ?_;refine gf ?_;refine gf ?_;refine vk (Ai) ?_;refine asd ?_;refine RL.gk [3,6,7,12] ?_;refine .nil ?_
   exact jr () trivial (by simp only [hb0];rfl)
  rintro _ _
  refine .sr ?_;refine vk (Aa) ?_;refine vk (vfa PF) ?_;refine vk (Am Cb) ?_;refine vk (vbi) ?_;refine vk (WF (.inl rfl) bo) ?_
  obtain ⟨x7,hx7,h⟩:=bnd h
  refine vk (Af (Er hx7) Tryz.call91) ?_
  obtain ⟨x8,hx8,h⟩:=bnd h
  refine vk (Af (D7 hx8) Tryz.call94) ?_
  refine stn ?_ Aw (by decide)
  refine ar [6,7] ?_;refine .ret ?_
  cases h
  exact ⟨_,_,⟨.inr rfl,AM,Aw,(by decide:(0:Nat)<6)⟩,rfl,rfl⟩
 replace h:=Ae hc h
 refine cnf (bf hc) ?_;refine .skip ?_
 show AW _ _ _ _ _ _
 refine .sr ?_;refine vk (vbd GT BN BW) ?_
 refine stn ?_ Aw (by decide)
 refine ar [6,7] ?_;refine .ret ?_
 cases h
 exact ⟨_,_,⟨.inr rfl,AM,Aw,(by decide:(0:Nat)<6)⟩,rfl,rfl⟩
def Ja (rc_scalar_pair_through : (Ak × Int)→Arr→Arr→Option (Arr × Int)) (a0 : Int) (c0 : (Ak × Int)) (c1 : Arr) (c2 : Arr) : Option (Itm × Int):=((Kg (((List.length c1.items : Nat) : Int) ≠ 0)).bind fun x1=>((rd? c1.items (Int.tmod a0 ((List.length c1.items : Nat) : Int))).bind fun x2=>((Kg (((List.length c2.items : Nat) : Int) ≠ 0)).bind fun x3=>((rd? c2.items (Int.tmod a0 ((List.length c2.items : Nat) : Int))).bind fun x4=>((DS rc_scalar_pair_through c0 x2 x4).bind fun x5=>(some (x5.1,x5.2)))))))
theorem Rz {rc_scalar_pair_through : (Ak × Int)→Arr→Arr→Option (Arr × Int)} (orc_scalar_pair_through : ∀ x0 x1 x2 r,Bj x0.1→rc_scalar_pair_through x0 x1 x2=some r→Fn Tryz.prog 39 [.ag [x0.1.dv,.i .i32 x0.2],.ag [.sl (Is x1.shape),.sl (Its x1.items)],.ag [.sl (Is x2.shape),.sl (Its x2.items)]] (.tup [.d (.ag [.sl (Is r.1.shape),.sl (Its r.1.items)]),.d (.i .i64 r.2)])) {a0 : Int} {c0 : (Ak × Int)} {c1 : Arr} {c2 : Arr} (oc0 : Bj c0.1) {r : Itm × Int} (h : Ja rc_scalar_pair_through a0 c0 c1 c2=some r) :
  Fn Tryz.prog 115 [.i .i64 a0,.ptr [c0.1.dv,.i .i32 c0.2],.ptr [.sl (Is c1.shape),.sl (Its c1.items)],.ptr [.sl (Is c2.shape),.sl (Its c2.items)]] (.tup [.d (.ag [.i .u8 r.1.kind,.b r.1.num.1,.sl (L r.1.num.2.1),.sl (L r.1.num.2.2),.i .i32 r.1.char,.sl (Ars r.1.box)]),.d (.i .i64 r.2)]):=by
 unfold Ja at h
 refine Fn.ofC (rs:=[.cell 5 83,.tmp 6]) (nt:=29) Tryz.func115 rfl rfl rfl (by simp) rfl ?_;refine .sr ?_;refine vk (van (Ag BN) BW) ?_;refine ar [0,1,2,3,5,6] ?_;refine .seq ?_;refine .drawn 22 A9 (by kernel_rfl) ?_;refine dv (Ao Oh Iq) ?_;refine dv (vfa AH) ?_;refine dv (Am BD) ?_;refine dv (Aa) ?_;refine dv (vfa AH) ?_;refine dv (Am BD) ?_;refine dv (Bk (AE _) (Cr _) Ct) ?_
 obtain ⟨x1,hx1,h⟩:=bnd h
 refine dv (RY (Lj hx1)) ?_
 obtain ⟨x2,hx2,h⟩:=bnd h
 obtain ⟨nx2,hnx2,hxx2⟩:=AI hx2
 refine dv (vix nx2 hnx2 (Dn hxx2) rfl Dj) ?_;refine dv (Ao AM Aw) ?_;refine dv (vfa AH) ?_;refine dv (Am BD) ?_;refine dv (Aa) ?_;refine dv (vfa AH) ?_;refine dv (Am BD) ?_;refine dv (Bk (AE _) (Cr _) Ct) ?_
 obtain ⟨x3,hx3,h⟩:=bnd h
 refine dv (RY (Lj hx3)) ?_
 obtain ⟨x4,hx4,h⟩:=bnd h
 obtain ⟨nx4,hnx4,hxx4⟩:=AI hx4
 refine dv (vix nx4 hnx4 (Dn hxx4) rfl Dj) ?_;refine dv (Ao AM Aw) ?_
 obtain ⟨x5,hx5,h⟩:=bnd h
 refine dv (VOK.tupd (vs:=[.ag [.i .u8 x5.1.kind,.b x5.1.num.1,.sl (L x5.1.num.2.1),.sl (L x5.1.num.2.2),.i .i32 x5.1.char,.sl (Ars x5.1.box)],.i .i64 x5.2]) (Af (Qc orc_scalar_pair_through oc0 hx5) Tryz.call116)) ?_;refine dv (vex) ?_;refine dv (vex) ?_;refine dz ?_
 refine stn ?_ Aw (by decide)
 refine ar [5,6] ?_;refine .ret ?_
 cases h
 exact ⟨_,_,⟨.inr rfl,AM,Aw,(by decide:(0:Nat)<6)⟩,rfl,rfl⟩
def Jf (rc_scalar_pair_through : (Ak × Int)→Arr→Arr→Option (Arr × Int)) (a0 : (Ak × Int)) (a1 : Arr) (a2 : Arr) : Option (Arr × Int):=((Du a1 a2).bind fun x1=>(if x1.2=0 then ((AK x1.1 (⟨.fn 115 [] [.ptr [a0.1.dv,.i .i32 a0.2],.ptr [.sl (Is a1.shape),.sl (Its a1.items)],.ptr [.sl (Is a2.shape),.sl (Its a2.items)]],fun x=>Ja rc_scalar_pair_through x a0 a1 a2⟩ : Ay)).bind fun x2=>(some (x2.1,x2.2))) else (some ((Arr.mk [] []),x1.2))))
theorem R4 {rc_scalar_pair_through : (Ak × Int)→Arr→Arr→Option (Arr × Int)} (orc_scalar_pair_through : ∀ x0 x1 x2 r,Bj x0.1→rc_scalar_pair_through x0 x1 x2=some r→Fn Tryz.prog 39 [.ag [x0.1.dv,.i .i32 x0.2],.ag [.sl (Is x1.shape),.sl (Its x1.items)],.ag [.sl (Is x2.shape),.sl (Its x2.items)]] (.tup [.d (.ag [.sl (Is r.1.shape),.sl (Its r.1.items)]),.d (.i .i64 r.2)])) {a0 : (Ak × Int)} {a1 : Arr} {a2 : Arr} (oa0 : Bj a0.1) {r : Arr × Int} (h : Jf rc_scalar_pair_through a0 a1 a2=some r) :
  Fn Tryz.prog 39 [.ag [a0.1.dv,.i .i32 a0.2],.ag [.sl (Is a1.shape),.sl (Its a1.items)],.ag [.sl (Is a2.shape),.sl (Its a2.items)]] (.tup [.d (.ag [.sl (Is r.1.shape),.sl (Its r.1.items)]),.d (.i .i64 r.2)]):=by
 unfold Jf at h
 refine Fn.ofC (rs:=[.cell 6 25,.tmp 7]) (nt:=25) Tryz.func39 rfl rfl rfl (by simp) rfl ?_;refine .sr ?_;refine vk (vbx) ?_;refine vk (vbx) ?_;refine vk (vbx) ?_;refine vk (van (Ag A4) Bh) ?_;refine ar [3,4,5,6,7] ?_;refine .sr ?_;refine vk (Ao Ar Ah) ?_;refine vk (Ao Ar Ah) ?_
 obtain ⟨x1,hx1,h⟩:=bnd h
 refine vk (VOK.tupd (vs:=[.sl (Is x1.1),.i .i64 x1.2]) (Af (JG hx1) Tryz.call114)) ?_;refine vk (Aa) ?_;refine vk (vex) ?_;refine vk (vex) ?_;refine asd ?_;refine ar [3,4,5,6,7,8,9] ?_;refine .seq ?_;refine .sr ?_;refine vk (Aa) ?_;refine vk (vbi) ?_;refine rk [3,4,5,6,7,8,9,17] ?_
 by_cases hc:x1.2=0
 ·replace h:=Ad hc h
  refine cnf (ntf (dT hc)) ?_;refine .skip ?_
  show AW _ _ _ _ _ _
  refine .sr ?_;refine vk (Aa) ?_;refine vk (Ud) ?_
  obtain ⟨x2,hx2,h⟩:=bnd h
  refine vk (VOK.tupd (vs:=[.ag [.sl (Is x2.1.shape),.sl (Its x2.1.items)],.i .i64 x2.2]) (Af (HD (Cp Tryz.call115 (fun _ _ h=>Rz orc_scalar_pair_through oa0 h)) hx2) Tryz.call92)) ?_;refine vk (vex) ?_;refine vk (vex) ?_
  refine stn ?_ Ah (by decide)
  refine ar [6,7] ?_;refine .ret ?_
  cases h
  exact ⟨_,_,⟨.inr rfl,Ar,Ah,(by decide:(0:Nat)<2)⟩,rfl,rfl⟩
 replace h:=Ae hc h
 refine cnt (ntt (dF hc)) ?_;refine .sr ?_;refine vk (vbd EA A4 Bh) ?_;refine vk (Aa) ?_
 refine stn ?_ Ah (by decide)
 refine ar [3,4,5,6,7,8] ?_;refine .ret ?_
 cases h
 exact ⟨_,_,⟨.inr rfl,Ar,Ah,(by decide:(0:Nat)<2)⟩,rfl,rfl⟩
def FE : Nat→(Ak × Int)→Arr→Arr→Option (Arr × Int)
 | 0,_,_,_=>none
 | k+1,a0,a1,a2=>Jf (FE k) a0 a1 a2
theorem LZ : ∀ (k : Nat) (a0 : (Ak × Int)) (a1 : Arr) (a2 : Arr) (r : Arr × Int),Bj a0.1→FE k a0 a1 a2=some r→Fn Tryz.prog 39 [.ag [a0.1.dv,.i .i32 a0.2],.ag [.sl (Is a1.shape),.sl (Its a1.items)],.ag [.sl (Is a2.shape),.sl (Its a2.items)]] (.tup [.d (.ag [.sl (Is r.1.shape),.sl (Its r.1.items)]),.d (.i .i64 r.2)])
 | 0,_,_,_,_,_,h=>by cases h
 | k+1,a0,a1,a2,_,oa0,h=>R4 (LZ k) oa0 (show Jf (FE k) a0 a1 a2=some _ from h)
def JF (a0 : (Ak × Int)) (a1 : Arr) (a2 : Arr) : Option (Arr × Int):=FE (a1.size+a2.size+1) a0 a1 a2
theorem TJ {a0 : (Ak × Int)} {a1 : Arr} {a2 : Arr} (oa0 : Bj a0.1) {r : Arr × Int} (h : JF a0 a1 a2=some r) : Fn Tryz.prog 39 [.ag [a0.1.dv,.i .i32 a0.2],.ag [.sl (Is a1.shape),.sl (Its a1.items)],.ag [.sl (Is a2.shape),.sl (Its a2.items)]] (.tup [.d (.ag [.sl (Is r.1.shape),.sl (Its r.1.items)]),.d (.i .i64 r.2)]):=LZ _ a0 a1 a2 r oa0 h
def Ze {α β : Type} : Option (FW α β)→DV
 | none=>.nf
 | some f=>f.dv
def Fj (a0 : (Int × RT × Int)) (a1 : Int) (a2 : Arr) (a3 : Arr) : Option ((Option Ak × Int) × Int):=(T6 (FQ (Ju a0.2.1) a1) (some ((none,0),23)) fun f1=>((DT a0.2.1).bind fun x2=>(Option.bind ((if x2=true then ((Bq a2).bind fun x4=>(if x4=true then ((Bq a3).bind fun x5=>(some (!x5))) else (some true))) else (some true)) : Option (Bool)) fun (z2 : Bool)=>(if z2=true then (some ((none,0),22)) else (some ((some f1,a1),0))))))
theorem Kr {a0 : (Int × RT × Int)} {a1 : Int} {a2 : Arr} {a3 : Arr} {r : (Option Ak × Int) × Int} (h : Fj a0 a1 a2 a3=some r) :
  Fn Tryz.prog 38 [.ag [.i .i64 a0.1,.b a0.2.1.1,.sl (L a0.2.1.2.1),.sl (L a0.2.1.2.2),.i .i64 a0.2.2],.i .i32 a1,.ag [.sl (Is a2.shape),.sl (Its a2.items)],.ag [.sl (Is a3.shape),.sl (Its a3.items)]] (.tup [.d (.ag [Ze r.1.1,.i .i32 r.1.2]),.d (.i .i64 r.2)]):=by
 unfold Fj at h
 refine Fn.ofC (rs:=[.cell 8 75,.tmp 9]) (nt:=39) Tryz.func38 rfl rfl rfl (by simp) rfl ?_;refine .sr ?_;refine vk (vbx) ?_;refine vk (vbx) ?_;refine vk (vbx) ?_;refine vk (van (Ag Of) OV) ?_;refine ar [1,4,6,7,8,9] ?_;refine .sr ?_;refine vk (vfa SJ) ?_;refine vk (Ao Au Al) ?_;refine vk (Af UH Tryz.call59) ?_;refine vk (Aa) ?_
 rcases hmf1:(FQ (Ju a0.2.1) a1) with _ | f1
 ·replace h:=So hmf1 h
  refine vk (Xr VO gkR YM hmf1) ?_;refine ar [1,4,6,7,8,9,10] ?_;refine .seq ?_;refine .block ?_;refine .sr ?_;refine vk (Aa) ?_;refine vk (YW FN) ?_;refine ar [1,4,6,7,8,9,10,16] ?_;refine A0 ?_;refine .sr ?_;refine vk (vbd VX Of OV) ?_
  refine stn ?_ Iq (by decide)
  refine ar [1,8,9,10] ?_;refine .ret ?_
  cases h
  exact ⟨_,_,⟨.inr rfl,Oh,Iq,(by decide:(0:Nat)<2)⟩,rfl,rfl⟩
 replace h:=Sy hmf1 h
 obtain ⟨of1,isf1⟩:=Rb hmf1
 refine vk (Xu (VE _) VO gkR hmf1) ?_;refine ar [1,4,6,7,8,9,10] ?_;refine .seq ?_;refine .block ?_;refine .sr ?_;refine vk (Aa) ?_;refine vk (Za FN isf1) ?_;refine ar [1,4,6,7,8,9,10,16] ?_;refine A2 ?_;refine .seq ?_
 obtain ⟨x2,hx2,h⟩:=bnd h
 obtain ⟨z2,hz,h⟩:=bnd h
 refine AW.mr (σ:=Unit) (fun _=>True) (fun _=>[(1,.d (.i .i32 a1)),(8,.nb [.nf,.i .i32 0]),(9,.d (.i .i64 0)),(10,.d (f1.dv)),(20,.d (.b z2))]) (fun _=>[]) ?_ ?_
 ·skip
  refine .region ?_;refine vk (vfa SJ) ?_;refine vk (Ao Au Al) ?_;refine vk (Af (DG hx2) Tryz.call45) ?_;refine vk (vnt) ?_
  by_cases hc:x2=true
  ·replace hz:=Ad hc hz
   have hb0:(!x2)=false:=(ntf hc)
   refine vk (VOK.lit (Aa) hb0) ?_;refine vk (Ao Ar Ah) ?_
   obtain ⟨x4,hx4,hz⟩:=bnd hz
   refine vk (Af (B7 hx4) Tryz.call13) ?_;refine vk (vnt) ?_;refine vk (Ai) ?_
   by_cases hc:x4=true
   ·replace hz:=Ad hc hz
    have hb1:(!x4)=false:=(ntf hc)
    refine vk (VOK.lit (Aa) hb1) ?_;refine vk (Ao Ar Ah) ?_
    obtain ⟨x5,hx5,hz⟩:=bnd hz
    refine vk (Af (B7 hx5) Tryz.call13) ?_;refine vk (vnt) ?_;refine vk (Ai) ?_;refine asd ?_;refine RL.gk [1,8,9,10,20] ?_;refine .nil ?_
    cases hz
    exact jr () trivial
   replace hz:=Ae hc hz
   have hb1:(!x4)=true:=(ntt (bf hc))
   refine vk (VOK.lit (Aa) hb1) ?_;refine gf ?_;refine gf ?_;refine gf ?_;refine vk (Ai) ?_;refine asd ?_;refine RL.gk [1,8,9,10,20] ?_;refine .nil ?_
   cases hz
   exact jr () trivial
  replace hz:=Ae hc hz
  have hb0:(!x2)=true:=(ntt (bf hc))
  refine vk (VOK.lit (Aa) hb0) ?_;refine gf ?_;refine gf ?_;refine gf ?_;refine vk (Ai) ?_;refine vk (Aa) ?_;refine gf ?_;refine gf ?_;refine gf ?_;refine vk (Ai) ?_;refine asd ?_;refine RL.gk [1,8,9,10,20] ?_;refine .nil ?_
  cases hz
  exact jr () trivial
 rintro _ _
 by_cases hc:z2=true
 ·replace h:=Ad hc h
  refine cnt hc ?_;refine .sr ?_;refine vk (vbd VX Of OV) ?_
  refine stn ?_ Iq (by decide)
  refine ar [1,8,9,10] ?_;refine .ret ?_
  cases h
  exact ⟨_,_,⟨.inr rfl,Oh,Iq,(by decide:(0:Nat)<2)⟩,rfl,rfl⟩
 replace h:=Ae hc h
 refine cnf (bf hc) ?_;refine .skip ?_
 show AW _ _ _ _ _ _
 refine .sr ?_;refine vk (Aa) ?_;refine vk (Aa) ?_;refine vk (vbd VX Of OV) ?_
 refine stn ?_ Iq (by decide)
 refine ar [8,9] ?_;refine .ret ?_
 cases h
 exact ⟨_,_,⟨.inr rfl,Oh,Iq,(by decide:(0:Nat)<2)⟩,rfl,rfl⟩
theorem Pv {a0 : (Int × RT × Int)} {a1 : Int} {a2 : Arr} {a3 : Arr} {r : (Option Ak × Int) × Int} (h : Fj a0 a1 a2 a3=some r) : ∀ p,r.1.1=some p→Bj p:=by
 unfold Fj at h
 rcases hmf1:(FQ (Ju a0.2.1) a1) with _ | f1
 ·replace h:=So hmf1 h
  cases h;intro p hp;cases hp
 ·replace h:=Sy hmf1 h
  obtain ⟨x2,hx2,h⟩:=bnd h
  obtain ⟨z2,hz,h⟩:=bnd h
  by_cases hc:z2=true
  ·replace h:=Ad hc h
   cases h;intro p hp;cases hp
  ·replace h:=Ae hc h
   cases h;intro p hp;cases hp
   exact (Rb hmf1).1
def CA (a0 : (Int × RT × Int)) (a1 : Int) (a2 : Arr) (a3 : Arr) : Option (Arr × Int):=((Fj a0 a1 a2 a3).bind fun x1=>(if x1.2=0 then (T6 x1.1.1 none fun p=>((JF (p,x1.1.2) a2 a3).bind fun x2=>(some (x2.1,x2.2)))) else (some ((Arr.mk [] []),x1.2))))
theorem DX {a0 : (Int × RT × Int)} {a1 : Int} {a2 : Arr} {a3 : Arr} {r : Arr × Int} (h : CA a0 a1 a2 a3=some r) :
  Fn Tryz.prog 15 [.ag [.i .i64 a0.1,.b a0.2.1.1,.sl (L a0.2.1.2.1),.sl (L a0.2.1.2.2),.i .i64 a0.2.2],.i .i32 a1,.ag [.sl (Is a2.shape),.sl (Its a2.items)],.ag [.sl (Is a3.shape),.sl (Its a3.items)]] (.tup [.d (.ag [.sl (Is r.1.shape),.sl (Its r.1.items)]),.d (.i .i64 r.2)]):=by
 unfold CA at h
 refine Fn.ofC (rs:=[.cell 8 25,.tmp 9]) (nt:=30) Tryz.func15 rfl rfl rfl (by simp) rfl ?_;refine .sr ?_;refine vk (vbx) ?_;refine vk (vbx) ?_;refine vk (vbx) ?_;refine vk (van (Ag A4) Bh) ?_;refine ar [1,4,6,7,8,9] ?_;refine .sr ?_;refine vk (Ao XD VJ) ?_;refine vk (Aa) ?_;refine vk (Ao Ar Ah) ?_;refine vk (Ao Ar Ah) ?_
 obtain ⟨x1,hx1,h⟩:=bnd h
 obtain ⟨⟨po,z⟩,e⟩:=x1
 rcases po with _ | p
 ·skip
  refine vk (VOK.tupd (vs:=[.ag [DV.nf,.i .i32 z],.i .i64 e]) (Af (Kr hx1) Tryz.call38)) ?_;refine vk (Aa) ?_;refine vk (vex) ?_;refine vk (vex) ?_;refine vk (van (Ag Of) OV) ?_
  refine stn ?_ Iq (by decide)
  refine ar [6,7,8,9,10,11] ?_;refine .seq ?_;refine .sr ?_;refine vk (Aa) ?_;refine vk (vbi) ?_;refine rk [6,7,8,9,10,11,21] ?_
  by_cases hc:e=0
  ·replace h:=Ad hc h
   exact nomatch (show (none:Option (Arr × Int))=some r from h)
  replace h:=Ae hc h
  refine cnt (ntt (dF hc)) ?_;refine .sr ?_;refine vk (vbd EA A4 Bh) ?_;refine vk (Aa) ?_
  refine stn ?_ Ah (by decide)
  refine ar [6,7,8,9,10] ?_;refine .ret ?_
  cases h
  exact ⟨_,_,⟨.inr rfl,Ar,Ah,(by decide:(0:Nat)<2)⟩,rfl,rfl⟩
 refine vk (VOK.tupd (vs:=[.ag [p.dv,.i .i32 z],.i .i64 e]) (Af (Kr hx1) Tryz.call38)) ?_;refine vk (Aa) ?_;refine vk (vex) ?_;refine vk (vex) ?_;refine vk (van (Ag Of) OV) ?_
 refine stn ?_ Iq (by decide)
 refine ar [6,7,8,9,10,11] ?_;refine .seq ?_;refine .sr ?_;refine vk (Aa) ?_;refine vk (vbi) ?_;refine rk [6,7,8,9,10,11,21] ?_
 by_cases hc:e=0
 ·replace h:=Ad hc h
  replace h:((JF (p,z) a2 a3).bind fun x2=>(some (x2.1,x2.2)))=some r:=h
  refine cnf (ntf (dT hc)) ?_;refine .skip ?_
  show AW _ _ _ _ _ _
  refine .sr ?_;refine vk (D4 Oh Iq) ?_;refine vk (Ao Ar Ah) ?_;refine vk (Ao Ar Ah) ?_
  obtain ⟨x2,hx2,h⟩:=bnd h
  refine vk (VOK.tupd (vs:=[.ag [.sl (Is x2.1.shape),.sl (Its x2.1.items)],.i .i64 x2.2]) (Af (TJ (Pv hx1 p rfl) hx2) Tryz.call39)) ?_;refine vk (vex) ?_;refine vk (vex) ?_
  refine stn ?_ Ah (by decide)
  refine ar [8,9] ?_;refine .ret ?_
  cases h
  exact ⟨_,_,⟨.inr rfl,Ar,Ah,(by decide:(0:Nat)<2)⟩,rfl,rfl⟩
 replace h:=Ae hc h
 refine cnt (ntt (dF hc)) ?_;refine .sr ?_;refine vk (vbd EA A4 Bh) ?_;refine vk (Aa) ?_
 refine stn ?_ Ah (by decide)
 refine ar [6,7,8,9,10] ?_;refine .ret ?_
 cases h
 exact ⟨_,_,⟨.inr rfl,Ar,Ah,(by decide:(0:Nat)<2)⟩,rfl,rfl⟩
theorem LJ {F : Ay} {xs : List Itm} (hF : ∀ (i : Nat) (h : i<xs.length),F.g (i : Int)=some (xs[i],0)) (hl : xs.length≤4096) {x1 : Int × Int} (hx1 : x1.1=((xs.length : Nat) : Int)) (K : Arr→Int→List Itm→Option (Arr × Int)) (a : Arr) (b : Int) : ∀ (n i k : Nat) (t : List Itm),n=xs.length - i→i≤xs.length→n<k→t.length≤1+i →
  Bu F x1 K k a b t (i:Int)=K a b (t++xs.drop i)
 | _,_,0,_,_,_,h,_=>by omega
 | n,i,k+1,t,hn,hi,hk,ht=>by
  rw [Bu]
  by_cases h:i<xs.length
  ·rw [if_pos (by omega),hF i h,oB,if_pos rfl,Ie (by simp;omega),oB,Cf (by omega),LJ hF hl hx1 K a b (n - 1) (i+1) k _ (by omega) (by omega) (by omega) (by simp;omega),List.drop_eq_getElem_cons h,List.append_assoc]
   rfl
  ·rw [if_neg (by omega),List.drop_of_length_le (by omega),List.append_nil]
theorem N6 {s : List Int} {F : Ay} {xs : List Itm} (hsl : s.length≤17592186044416) (hs : szP s=(((xs.length : Nat) : Int),0)) (hF : ∀ (i : Nat) (h : i<xs.length),F.g (i : Int)=some (xs[i],0)) :
  AK s F=Cj s ((if xs.length=0 then [Dk 0] else [])++xs):=by
 have hle:=HN s
 rw [hs] at hle
 have hl:xs.length≤4096:=by have:=hle.2;omega
 unfold AK
 have hnum:Cu (ofQ ((0:Int):Rat))=some (Dk 0):=rfl
 rw [Jh hsl,oB,hs,Ms (by omega) (by omega),oB,hnum,oB]
 have hz:(if (w64 (1 - (if (1:Int)<((xs.length:Nat):Int) then 1 else ((xs.length:Nat):Int))))<1 then (w64 (1 - (if (1:Int)<((xs.length:Nat):Int) then 1 else ((xs.length:Nat):Int)))) else 1)=if xs.length=0 then 1 else 0:=by
  by_cases h0:xs.length=0
  ·rw [h0];rfl
  ·rw [if_neg h0]
   by_cases h1:(1:Int)<((xs.length:Nat):Int)
   ·rw [if_pos h1];rfl
   ·have:((xs.length:Nat):Int)=1:=by omega
    rw [this];rfl
 have hg:Kg (0≤(if xs.length=0 then (1:Int) else 0)∧(if xs.length=0 then (1:Int) else 0)≤((List.length [Dk 0]:Nat):Int))=some ():=if_pos (by split <;> simp)
 rw [hz,hg,oB,Eh]
 have ht:List.take (Int.toNat (if xs.length=0 then 1 else 0)) [Dk 0]=if xs.length=0 then [Dk 0] else []:=by split <;> rfl
 rw [ht]
 have:=LJ hF hl (x1:=(((xs.length:Nat):Int),0)) rfl (fun z5 z6 z7=>(Cj s z7).bind fun x14=>some (x14.1,x14.2)) (Arr.mk [] []) 0 xs.length 0 Bi (if xs.length=0 then [Dk 0] else []) rfl (Nat.zero_le _) (Ce (by omega)) (by split <;> simp)
 rw [show ((0:Nat):Int)=0 from rfl,List.drop_zero] at this
 rw [this]
 generalize Cj s ((if xs.length=0 then [Dk 0] else [])++xs)=m
 cases m <;> rfl
theorem MY {rc : (Ak × Int)→Arr→Arr→Option (Arr × Int)} {p : Ak × Int} {a b : Arr} {i : Nat} {x y : Itm} (ha : a.items[i % a.items.length]?=some x) (hb : b.items[i % b.items.length]?=some y) :
  Ja rc (i:Int) p a b=DS rc p x y:=by
 have la:0<a.items.length:=by
  have:=(List.getElem?_eq_some_iff.1 ha).1;omega
 have lb:0<b.items.length:=by
  have:=(List.getElem?_eq_some_iff.1 hb).1;omega
 unfold Ja
 have ga:Kg (((List.length a.items:Nat):Int) ≠ 0)=some ():=if_pos (by omega)
 have gb:Kg (((List.length b.items:Nat):Int) ≠ 0)=some ():=if_pos (by omega)
 rw [ga,oB,show Int.tmod (i:Int) ((List.length a.items:Nat):Int)=((i % a.items.length:Nat):Int) from rfl,Qa ha,oB,gb,oB,
  show Int.tmod (i:Int) ((List.length b.items:Nat):Int)=((i % b.items.length:Nat):Int) from rfl,Qa hb,oB]
 generalize DS rc p x y=m
 cases m <;> rfl
def NZ (s t : List Int) : List Int × Int :=
 if s=t then (s,0) else if (szP s).1=1∧((szP t).1 ≠ 1∨s.length<t.length) then (t,0) else if (szP t).1=1 then (s,0) else if s.length=t.length then ([],5) else ([],4)
theorem Qk {a b : Arr} (ha : a.shape.length≤17592186044416) (hb : b.shape.length≤17592186044416) : Du a b=some (NZ a.shape b.shape):=by
 unfold Du NZ
 rw [Jh ha,oB,Jh hb,oB,UV ha,oB]
 by_cases h:a.shape=b.shape
 ·rw [if_pos (dT h),if_pos h]
 ·rw [if_neg (by rw [dF h];decide),if_neg h]
  by_cases h1:(szP a.shape).1=1∧((szP b.shape).1 ≠ 1∨a.shape.length<b.shape.length)
  ·rw [if_pos h1,if_pos]
   simp only [Bool.and_eq_true,Bool.or_eq_true,Bool.not_eq_true',decide_eq_true_eq,decide_eq_false_iff_not]
   exact ⟨h1.1,h1.2.imp id fun h=>by omega⟩
  ·rw [if_neg h1,if_neg]
   ·by_cases h2:(szP b.shape).1=1
    ·rw [if_pos h2,if_pos h2]
    ·rw [if_neg h2,if_neg h2]
     by_cases h3:a.shape.length=b.shape.length
     ·rw [if_pos h3,if_pos (by omega)]
     ·rw [if_neg h3,if_neg (by omega)]
   ·simp only [Bool.and_eq_true,Bool.or_eq_true,Bool.not_eq_true',decide_eq_true_eq,decide_eq_false_iff_not]
    rintro ⟨q1,q2⟩
    exact h1 ⟨q1,q2.imp id fun h=>by omega⟩
theorem TE {f : Ap} {a : Arr} : H0 f a=AK a.shape (⟨.fn 93 [] [.ptr [.sl (Is a.shape),.sl (Its a.items)],.ptr [f.dv]],fun x=>Fv (CH a.size) x a f⟩ : Ay):=by
 unfold H0
 rw [CH]
 unfold HW
 generalize AK _ _=m
 cases m <;> rfl
theorem Qd {rc : Ap→Arr→Option (Arr × Int)} {f : Ap} {a : Arr} {i : Nat} {x : RT} (ha : a.items[i]?=some (.mk 1 x 0 [])) : Fv rc (i : Int) a f=(f.g x).bind fun r=>some (.mk 1 r.1 0 [],r.2):=by
 unfold Fv
 rw [Qa ha,oB,if_pos (LQ _ _ _ _)]
 rfl
theorem Ii {F : Ay} {xs : List Itm} (hF : ∀ (i : Nat) (h : i<xs.length),F.g (i : Int)=some (xs[i],0)) {y : Itm} {e : Int} (he : e ≠ 0) (hy : F.g ((xs.length : Nat) : Int)=some (y,e)) (hl : xs.length≤4096) {x1 : Int × Int} (hx1 : ((xs.length : Nat) : Int)<x1.1) (K : Arr→Int→List Itm→Option (Arr × Int)) (a : Arr) (b : Int) : ∀ (n i k : Nat) (t : List Itm),n=xs.length - i→i≤xs.length→n<k→t.length≤1+i →
  Bu F x1 K k a b t (i:Int)=some (.mk [] [],e)
 | _,_,0,_,_,_,h,_=>by omega
 | n,i,k+1,t,hn,hi,hk,ht=>by
  rw [Bu]
  by_cases h:i<xs.length
  ·rw [if_pos (by omega),hF i h,oB,if_pos rfl,Ie (by simp;omega),oB,Cf (by omega),Ii hF he hy hl hx1 K a b (n - 1) (i+1) k _ (by omega) (by omega) (by omega) (by simp;omega)]
  ·obtain rfl:i=xs.length:=by omega
   rw [if_pos hx1,hy,oB,if_neg he]
theorem RF {s : List Int} {F : Ay} {xs : List Itm} {m : Int} (hsl : s.length≤17592186044416) (hs : szP s=(m,0)) (hm : ((xs.length : Nat) : Int)<m) (hF : ∀ (i : Nat) (h : i<xs.length),F.g (i : Int)=some (xs[i],0)) {y : Itm} {e : Int} (he : e ≠ 0) (hy : F.g ((xs.length : Nat) : Int)=some (y,e)) :
  AK s F=some (.mk [] [],e):=by
 have hle:=HN s
 rw [hs] at hle
 have hl:xs.length≤4096:=by have:=hle.2;omega
 unfold AK
 have hnum:Cu (ofQ ((0:Int):Rat))=some (Dk 0):=rfl
 rw [Jh hsl,oB,hs,Ms (by omega) (by omega),oB,hnum,oB]
 have hz:(if (w64 (1 - (if (1:Int)<m then 1 else m)))<1 then (w64 (1 - (if (1:Int)<m then 1 else m))) else 1)=0:=by
  by_cases h1:(1:Int)<m
  ·rw [if_pos h1];rfl
  ·have:m=1:=by omega
   rw [this];rfl
 have hg:Kg (0≤(0:Int)∧(0:Int)≤((List.length [Dk 0]:Nat):Int))=some ():=if_pos (by simp)
 rw [hz,hg,oB,Eh]
 exact Ii hF he hy hl hm _ (Arr.mk [] []) 0 xs.length 0 Bi _ rfl (Nat.zero_le _) (Ce (by omega)) (by simp)
theorem UB {f : Ap} {s : List Int} {xs zs : List RT} (hs : s.length≤17592186044416) (hz : szP s=(((zs.length : Nat) : Int),0)) (h : ∀ (i : Nat) (hi : i<zs.length),∃ x,xs[i]?=some x∧f.g x=some (zs[i],0)) :
  H0 f (.mk s (xs.map fun x=>.mk 1 x 0 []))=Cj s ((if zs.length=0 then [Dk 0] else [])++zs.map fun x=>.mk 1 x 0 []):=by
 rw [TE,Hm]
 have hl:(zs.map fun x=>Itm.mk 1 x 0 []).length=zs.length:=List.length_map ..
 rw [N6 (xs:=zs.map fun x=>Itm.mk 1 x 0 []) hs (by rw [hl];exact hz) ?_,hl]
 intro i hi
 rw [hl] at hi
 obtain ⟨x,hx,hf⟩:=h i hi
 show Fv _ _ _ _=_
 rw [Qd (x:=x) (by rw [GQ,List.getElem?_map,hx];rfl),hf,oB,List.getElem_map]
theorem Vh (xs : List Itm) : cyc xs xs.length=xs:=by
 apply List.ext_getElem?
 intro i
 by_cases h2:i<xs.length
 ·unfold cyc
  rw [List.getElem?_map,List.getElem?_range h2,Option.map_some,Nat.mod_eq_of_lt h2,List.getD_eq_getElem?_getD,List.getElem?_eq_getElem h2];rfl
 ·rw [List.getElem?_eq_none (by rw [Gb];omega),List.getElem?_eq_none (by omega)]
def EF : Option ((Int × RT × Int)):=(P3.bind fun x1=>(some ((1,x1,0))))
theorem ER {r : (Int × RT × Int)} (h : EF=some r) :
  Fn Tryz.prog 16 [] (.d (.ag [.i .i64 r.1,.b r.2.1.1,.sl (L r.2.1.2.1),.sl (L r.2.1.2.2),.i .i64 r.2.2])):=by
 unfold EF at h
 refine Fn.ofC (rs:=[.cell 0 34]) (nt:=3) Tryz.func16 rfl rfl rfl (by simp) rfl ?_;refine .sr ?_;refine vk (van (Ag Xq) Xx) ?_;refine rk [0] ?_;refine .sr ?_
 obtain ⟨x1,hx1,h⟩:=bnd h
 refine vk (Af (QX hx1) Tryz.call33) ?_;refine vk (vbd Y8 Xq Xx) ?_
 refine stn ?_ VJ (by decide)
 refine rk [0] ?_;refine .ret ?_
 cases h
 exact ⟨_,⟨.inr rfl,XD,VJ,(by decide:(0:Nat)<5)⟩,rfl⟩
def Gu : Option (Bool):=(EF.bind fun x1=>((MH ([1,2])).bind fun x2=>((Fo 10).bind fun x3=>((CA x1 43 x2 x3).bind fun x4=>(EF.bind fun x5=>((MH ([1,2])).bind fun x6=>((MH ([1,2,3])).bind fun x7=>((CA x5 43 x6 x7).bind fun x8=>(Option.bind ((if x4.2=0 then ((MH ([11,12])).bind fun x10=>((IS x4.1 x10).bind fun x11=>(if x11=true then (some (decide (x8.2=5))) else (some false)))) else (some false)) : Option (Bool)) fun (z9 : Bool)=>(some (z9)))))))))))
theorem Jn {r : Bool} (h : Gu=some r) :
  Fn Tryz.prog 17 [] (.d (.b r)):=by
 unfold Gu at h
 refine Fn.o1 0 34 Tryz.func17 ?_;refine .sr ?_;refine ar [0] ?_;refine .sr ?_
 obtain ⟨x1,hx1,h⟩:=bnd h
 refine vk (Af (ER hx1) Tryz.call16) ?_;refine vk ((E2 (HX [1,2]) Jz).deep) ?_
 obtain ⟨x2,hx2,h⟩:=bnd h
 refine vk (Af (Je hx2) Tryz.call30) ?_
 obtain ⟨x3,hx3,h⟩:=bnd h
 refine vk (Af (HS hx3) Tryz.call26) ?_
 obtain ⟨x4,hx4,h⟩:=bnd h
 refine vk (VOK.tupd (vs:=[.ag [.sl (Is x4.1.shape),.sl (Its x4.1.items)],.i .i64 x4.2]) (Af (DX hx4) Tryz.call15)) ?_;refine vk (Aa) ?_;refine vk (vex) ?_;refine vk (vex) ?_;refine vk (van (Ag A4) Bh) ?_
 refine stn ?_ Ah (by decide)
 refine ar [0,1,2] ?_;refine .sr ?_
 obtain ⟨x5,hx5,h⟩:=bnd h
 refine vk (Af (ER hx5) Tryz.call16) ?_;refine vk ((E2 (HX [1,2]) Jz).deep) ?_
 obtain ⟨x6,hx6,h⟩:=bnd h
 refine vk (Af (Je hx6) Tryz.call30) ?_;refine vk ((E2 (HX [1,2,3]) Jz).deep) ?_
 obtain ⟨x7,hx7,h⟩:=bnd h
 refine vk (Af (Je hx7) Tryz.call30) ?_
 obtain ⟨x8,hx8,h⟩:=bnd h
 refine vk (VOK.tupd (vs:=[.ag [.sl (Is x8.1.shape),.sl (Its x8.1.items)],.i .i64 x8.2]) (Af (DX hx8) Tryz.call15)) ?_;refine vk (Aa) ?_;refine vk (vex) ?_;refine vk (vex) ?_;refine vk (van (Ag A4) Bh) ?_
 refine stn ?_ Ah (by decide)
 refine ar [0,1,2,4] ?_;refine .seq ?_
 obtain ⟨z9,hz,h⟩:=bnd h
 refine AW.mr (σ:=Unit) (fun _=>True) (fun _=>[(0,.d (.b z9))]) (fun _=>[]) ?_ ?_
 ·skip
  refine .drawn 12 A9 (by kernel_rfl) ?_;refine dv (Aa) ?_;refine dv (vbi) ?_
  by_cases hc:x4.2=0
  ·replace hz:=Ad hc hz
   have hb0:(decide (x4.2=0))=true:=(dT hc)
   refine dv (VOK.lit (Aa) hb0) ?_;refine dv (D4 Ar Ah) ?_;refine dv ((E2 (HX [11,12]) Jz).deep) ?_
   obtain ⟨x10,hx10,hz⟩:=bnd hz
   refine dv (Af (Je hx10) Tryz.call30) ?_
   obtain ⟨x11,hx11,hz⟩:=bnd hz
   refine dv (Af (Nt hx11) Tryz.call14) ?_;refine dv (Ai) ?_
   by_cases hc:x11=true
   ·replace hz:=Ad hc hz
    have hb1:x11=true:=hc
    refine dv (VOK.lit (Aa) hb1) ?_;refine dv (Aa) ?_;refine dv (vbi) ?_;refine dv (Ai) ?_;refine dz ?_;refine asd ?_;refine RL.gk [0] ?_;refine .nil ?_
    cases hz
    exact jr () trivial
   replace hz:=Ae hc hz
   have hb1:x11=false:=(bf hc)
   refine dv (VOK.lit (Aa) hb1) ?_;refine dgf ?_;refine dgf ?_;refine dv (Ai) ?_;refine dz ?_;refine asd ?_;refine RL.gk [0] ?_;refine .nil ?_
   cases hz
   exact jr () trivial
  replace hz:=Ae hc hz
  have hb0:(decide (x4.2=0))=false:=(dF hc)
  refine dv (VOK.lit (Aa) hb0) ?_;refine dgf ?_;refine dgf ?_;refine dgf ?_;refine dgf ?_;refine dv (Ai) ?_;refine dv (Aa) ?_;refine dgf ?_;refine dgf ?_;refine dv (Ai) ?_;refine dz ?_;refine asd ?_;refine RL.gk [0] ?_;refine .nil ?_
  cases hz
  exact jr () trivial
 rintro _ _
 refine .ret ?_
 cases h
 exact ⟨rfl,rfl⟩
def Cn (a0 : Arr) (K0 : Bool→Option (Bool)) : Nat→Bool→Int→Option (Bool)
 | 0,_,_=>none
 | k+1,s2,s3=>(if s3<((List.length a0.items:Nat):Int) then ((rd? a0.items s3).bind fun x4=>(if x4.kind=1 then (Cn a0 K0 k s2 (w64 (s3+1))) else (some (false)))) else (K0 s2))
def D3 (a0 : Arr) : Option (Bool):=(jn (fun (z1 : Bool)=>(some (true))) fun K0=>(Cn a0 K0 Bi false 0))
theorem Ij {a0 : Arr} {r : Bool} (h : D3 a0=some r) :
  Fn Tryz.prog 28 [.ag [.sl (Is a0.shape),.sl (Its a0.items)]] (.d (.b r)):=by
 unfold D3 at h
 refine Fn.o1 2 18 Tryz.func28 ?_;refine .sr ?_;refine vk (vbx) ?_;refine ar [1,2] ?_;refine .seq ?_;refine .sr ?_;refine ar [1,2,3] ?_
 obtain ⟨K0,hK0,h⟩:=BS h
 refine AW.mr (σ:=Bool) (fun p=>K0 p=some r) (fun p=>[(2,.d (.b p))]) (fun p=>[]) ?_ ?_
 ·skip
  refine .block ?_
  refine .loop (.gk [1,2,3] ?_)
  refine AL.ind (σ:=Nat × Bool × Int) (m:=fun p=>p.1) (e:=fun p=>[(1,.d (.ptr [.sl (Is a0.shape),.sl (Its a0.items)])),(2,.d (.b p.2.1)),(3,.d (.i .i64 p.2.2))]) (h:=fun p=>[]) (I:=fun p=>Cn a0 K0 p.1 p.2.1 p.2.2=some r) ?_ (Bi,false,0) h
  rintro ⟨k,s2,s3⟩ h ih
  dsimp only at h ih ⊢
  rcases k with _ | k
  ·rw [Cn] at h;cases h
  rw [Cn] at h
  refine .seq ?_;refine .sr ?_;refine vk (Aa) ?_;refine vk (vfa AH) ?_;refine vk (Am BD) ?_;refine vk (Bk (AE _) (Cr _) Ct) ?_;refine vk (vbi) ?_;refine rk [1,2,3,8] ?_
  by_cases hc:s3<((List.length a0.items:Nat):Int)
  ·replace h:=Ad hc h
   refine cnt (dT hc) ?_;refine .skip ?_
   show AW _ _ _ _ _ _
   refine .seq ?_;refine .block ?_;refine .sr ?_;refine vk (vfa AH) ?_;refine vk (Am BD) ?_;refine vk (Aa) ?_
   obtain ⟨x4,hx4,h⟩:=bnd h
   obtain ⟨nx4,hnx4,hxx4⟩:=AI hx4
   refine vk (vix nx4 hnx4 (Dn hxx4) rfl Dj) ?_;refine vk (vfa Bv) ?_;refine vk (Am AS) ?_;refine vk (vbi) ?_;refine rk [1,2,3,17] ?_
   by_cases hc:x4.kind=1
   ·replace h:=Ad hc h
    refine cnf (ntf (dT hc)) ?_;refine .skip ?_
    show AW _ _ _ _ _ _
    refine .region ?_;refine vk (Aa) ?_;refine vk (vbi) ?_;refine asd ?_;refine .nil ?_;refine AL.gk [1,2,3] ?_
    exact ih (k,s2,(w64 (s3+1))) h (Nat.lt_succ_self _)
   replace h:=Ae hc h
   refine cnt (ntt (dF hc)) ?_;refine .sr ?_;refine ar [1,2,3] ?_;refine .ret ?_
   cases h
   exact ⟨rfl,rfl⟩
  replace h:=Ae hc h
  refine cnf (dF hc) ?_;refine .gk [2] ?_;refine .exit ?_
  exact jr (s2) h
 rintro z1 h
 try dsimp only at h ⊢
 subst hK0
 show AW _ _ _ _ _ _
 refine .sr ?_;refine ar [2] ?_;refine .ret ?_
 cases h
 exact ⟨rfl,rfl⟩
theorem XB : Gu=some true:=by kernel_rfl
theorem Lu {α β : Type} {y : α} {a : β} {f : α→β} : T6 (some y) a f=f y:=rfl
theorem YO : EF=some (1,(false,[],[1]),0):=by kernel_rfl
theorem Q4 : DT (false,[],[1])=some true:=by kernel_rfl
def EW : List (Itm × Int)→Int
 | []=>0
 | r::rs=>if r.2=0 then EW rs else r.2
theorem IB : ∀ {rs : List (Itm × Int)},EW rs=0→∀ r ∈ rs,r.2=0
 | [],_,_,h=>by cases h
 | r::rs,h,x,hx=>by
  rw [EW] at h
  by_cases h0:r.2=0
  ·rw [if_pos h0] at h
   rcases List.mem_cons.1 hx with rfl | hx
   ·exact h0
   ·exact IB h x hx
  ·rw [if_neg h0] at h;exact absurd h h0
theorem KK : ∀ {rs : List (Itm × Int)},EW rs ≠ 0→∃ xs b ys,rs=xs++b::ys∧(∀ r ∈ xs,r.2=0)∧b.2=EW rs
 | [],h=>absurd rfl h
 | r::rs,h=>by
  rw [EW] at h
  by_cases h0:r.2=0
  ·rw [if_pos h0] at h
   obtain ⟨xs,b,ys,h1,h2,h3⟩:=KK h
   refine ⟨r::xs,b,ys,by rw [h1];rfl,?_,by rw [EW,if_pos h0,h3]⟩
   intro x hx
   rcases List.mem_cons.1 hx with rfl | hx
   ·exact h0
   ·exact h2 x hx
  ·exact ⟨[],r,rs,rfl,by simp,by rw [EW,if_neg h0]⟩
theorem Si {s : List Int} {F : Ay} {rs : List (Itm × Int)} (hsl : s.length≤17592186044416) (hs : szP s=(((rs.length : Nat) : Int),0)) (hF : ∀ (i : Nat) (h : i<rs.length),F.g (i : Int)=some rs[i]) :
  AK s F=if EW rs=0 then Cj s ((if rs.length=0 then [Dk 0] else [])++rs.map (·.1)) else some (.mk [] [],EW rs):=by
 by_cases h:EW rs=0
 ·rw [if_pos h]
  have hz:=IB h
  have:=N6 (s:=s) (F:=F) (xs:=rs.map (·.1)) hsl (by rw [List.length_map];exact hs) (fun i hi=>by
   rw [List.length_map] at hi
   rw [hF i hi,List.getElem_map,← hz rs[i] (List.getElem_mem hi)])
  rw [this,List.length_map]
 ·rw [if_neg h]
  obtain ⟨xs,b,ys,h1,h2,h3⟩:=KK h
  have hlen:rs.length=xs.length+(ys.length+1):=by rw [h1];simp
  rw [← h3] at h ⊢
  refine RF (xs:=xs.map (·.1)) (y:=b.1) hsl hs (by rw [List.length_map];omega) (fun i hi=>?_) h ?_
  ·rw [List.length_map] at hi
   have e:rs[i]'(by omega)=xs[i]:=by simp [h1,List.getElem_append_left hi]
   rw [hF i (by omega),e,List.getElem_map,← h2 xs[i] (List.getElem_mem hi)]
  ·rw [List.length_map,hF xs.length (by omega)]
   have e:rs[xs.length]'(by omega)=b:=by simp [h1]
   rw [e]
def Ik (F : Ay) (n : Nat) : List (Itm × Int):=(List.range n).map fun i=>(F.g ((i : Nat) : Int)).getD default
theorem D5 (F : Ay) (n : Nat) : (Ik F n).length=n:=by simp [Ik]
theorem JQ {s : List Int} {F : Ay} {n : Nat} (hsl : s.length≤17592186044416) (hs : szP s=((n : Int),0)) (hF : ∀ i,i<n→∃ r,F.g ((i : Nat) : Int)=some r) :
  AK s F=if EW (Ik F n)=0 then Cj s ((if n=0 then [Dk 0] else [])++(Ik F n).map (·.1)) else some (.mk [] [],EW (Ik F n)):=by
 have:=Si (s:=s) (F:=F) (rs:=Ik F n) hsl (by rw [D5];exact hs) (fun i hi=>by
  rw [D5] at hi
  obtain ⟨r,hr⟩:=hF i hi
  have e:(Ik F n)[i]'(by rw [D5];exact hi)=(F.g ((i:Nat):Int)).getD default:=by simp [Ik]
  rw [e,hr];rfl)
 rw [D5] at this
 exact this
theorem Q8 {F G : Ay} {n : Nat} (h : ∀ i,i<n→F.g ((i : Nat) : Int)=G.g ((i : Nat) : Int)) : Ik F n=Ik G n:=by
 unfold Ik
 refine List.map_congr_left fun i hi=>?_
 rw [h i (List.mem_range.1 hi)]
theorem KD {s : List Int} {F G : Ay} {n : Nat} (hsl : s.length≤17592186044416) (hs : szP s=((n : Int),0)) (hG : ∀ i,i<n→∃ r,G.g ((i : Nat) : Int)=some r) (h : ∀ i,i<n→F.g ((i : Nat) : Int)=G.g ((i : Nat) : Int)) :
  AK s F=AK s G:=by
 rw [JQ hsl hs hG,JQ hsl hs (fun i hi=>by rw [h i hi];exact hG i hi),Q8 h]
def Tot (m : Option (Arr × Int)) (s : List Int) : Prop:=∃ r e,m=some (r,e)∧(e=0→okAr r∧AT r∧r.shape=s)∧(e ≠ 0→r=.mk [] [])
theorem CY {a : Arr} (oa : okAr a) (h : AT a) {x : Itm} (hx : x ∈ a.items) : okI x∧BC x:=by
 have o:=(Bo a).1 oa
 obtain ⟨h1,h2,h3⟩:=h
 have hr:=(Lo h1).2.2
 refine ⟨o.2.2.2 x hx,hr x hx,?_,?_⟩
 ·have hd:∀ {xs:List Itm},x ∈ xs→dI x≤dIs xs:=by
   intro xs
   induction xs with
   | nil=>intro h;cases h
   | cons y ys ih =>
    intro h
    rw [dIs]
    rcases List.mem_cons.1 h with rfl | h
    ·omega
    ·have:=ih h;omega
  have hdx:=hd hx
  rw [Nu] at h2
  by_cases hs:AJ a=true
  ·have:=(Km hs (H9.2 hr)).1
   omega
  ·rw [if_neg hs] at h2;omega
 ·have hc:∀ {xs:List Itm},x ∈ xs→cI x≤cIs xs:=by
   intro xs
   induction xs with
   | nil=>intro h;cases h
   | cons y ys ih =>
    intro h
    rw [cIs]
    rcases List.mem_cons.1 h with rfl | h
    ·omega
    ·have:=ih h;omega
  have hcx:=hc hx
  rw [MS] at h3
  omega
theorem Sw {s : List Int} {xs : List Itm} (hne : xs ≠ []) (hx : ∀ x ∈ xs,okI x∧BC x) : ∀ x ∈ BX (szP s).1 xs,okI x:=by
 intro x hx'
 unfold BX at hx'
 split at hx'
 ·rw [List.mem_singleton] at hx'
  obtain ⟨y,ys,rfl⟩:=List.exists_cons_of_ne_nil hne
  obtain ⟨o,r⟩:=hx y (by simp)
  subst hx'
  exact (UZ o r.1).2.2.2.2.2
 ·exact (hx x (SN hne hx')).1
theorem Qx {s : List Int} {xs : List Itm} : (BX (szP s).1 xs).length≤4096:=by
 have:=HN s
 unfold BX
 split
 ·simp
 ·rw [Gb];omega
theorem Uu {s : List Int} {xs : List Itm} (hs : ∀ z ∈ s,-9223372036854775808≤z∧z≤9223372036854775807) (hl : s.length≤17592186044416) (hxl : xs.length≤1466015503701) (hne : xs ≠ []) (hx : ∀ x ∈ xs,okI x∧BC x) : Tot (Cj s xs) s:=by
 rw [SF hs hl hxl fun x h=>(hx x h).1]
 by_cases h0:(szP s).2 ≠ 0
 ·rw [if_pos h0];exact ⟨_,_,rfl,fun h=>absurd h h0,fun _=>rfl⟩
 rw [if_neg h0,if_neg (fun h=>h.elim hne fun h=>h fun x hx'=>(hx x hx').2)]
 by_cases hR:AT (.mk s (BX (szP s).1 xs))
 ·rw [if_pos hR]
  refine ⟨_,_,rfl,fun _=>⟨?_,hR,rfl⟩,fun h=>absurd rfl h⟩
  rw [Bo]
  exact ⟨hs,hl,by have:=Qx (s:=s) (xs:=xs);show (BX (szP s).1 xs).length≤_;omega,Sw hne hx⟩
 ·rw [if_neg hR]
  exact ⟨_,_,rfl,fun h=>absurd h (by decide),fun _=>rfl⟩
theorem Sx : okI (Dk 0)∧BC (Dk 0):=by
 refine ⟨Wq Fk,Rs Fk,?_,?_⟩
 ·rw [LR];show dBs []≤16;simp [dBs]
 ·rw [KC];show cBs []≤16384;simp [cBs]
theorem St {s : List Int} {F : Ay} {n : Nat} (hs64 : ∀ z ∈ s,-9223372036854775808≤z∧z≤9223372036854775807) (hsl : s.length≤17592186044416) (hs : szP s=((n : Int),0))
  (hF:∀ i,i<n→∃ x e,F.g ((i:Nat):Int)=some (x,e)∧(e=0→okI x∧BC x)):Tot (AK s F) s:=by
 have hn:=HN s
 rw [hs] at hn
 rw [JQ hsl hs (fun i hi=>by obtain ⟨x,e,h,_⟩:=hF i hi;exact ⟨_,h⟩)]
 by_cases h:EW (Ik F n)=0
 ·rw [if_pos h]
  refine Uu hs64 hsl ?_ ?_ ?_
  ·rw [List.length_append,List.length_map,D5];split <;> simp <;> omega
  ·intro q
   have:=congrArg List.length q
   rw [List.length_append,List.length_map,D5] at this
   split at this
   ·simp at this
   ·simp only [List.length_nil] at this;omega
  ·intro x hx
   rcases List.mem_append.1 hx with hx | hx
   ·split at hx
    ·rw [List.mem_singleton] at hx;subst hx;exact Sx
    ·cases hx
   ·obtain ⟨r,hr,rfl⟩:=List.mem_map.1 hx
    have h0:=IB h r hr
    obtain ⟨i,hi,rfl⟩:=List.mem_map.1 hr
    obtain ⟨x,e,h1,h2⟩:=hF i (List.mem_range.1 hi)
    rw [h1] at h0 ⊢
    exact h2 h0
 ·rw [if_neg h]
  exact ⟨_,_,rfl,fun q=>absurd q h,fun _=>rfl⟩
theorem P5 : BA (.mk [] [])=some (.mk 0 (false,[],[]) 0 []):=by kernel_rfl
theorem Sb {a : Arr} (h : AT a) (hs : AJ a=false) : BC (.mk 3 (false,[],[]) 0 [a]):=by
 have e1:dI (.mk 3 (false,[],[]) 0 [a])=dA a:=by simp [dI,dBs]
 have e2:cI (.mk 3 (false,[],[]) 0 [a])=cA a:=by simp [cI,cBs]
 exact ⟨Uy h.1 hs,by rw [e1];exact h.2.1,by rw [e2];exact h.2.2⟩
theorem N0 {a : Arr} (oa : okAr a) (h : AT a) : ∃ x,BA a=some x∧okI x∧BC x:=by
 rw [RW oa h]
 refine ⟨_,rfl,?_⟩
 by_cases hs:AJ a=true
 ·rw [if_pos hs]
  obtain ⟨x,rfl,hk⟩:=Pm hs
  exact CY oa h (by show x ∈ [x];simp)
 ·rw [if_neg hs]
  exact ⟨Tm oa,Sb h (by simpa using hs)⟩
theorem Qf {m : Option (Arr × Int)} {s : List Int} (h : Tot m s) : ∃ x e,(m.bind fun r=>(BA r.1).bind fun y=>some (y,r.2))=some (x,e)∧(e=0→okI x∧BC x):=by
 obtain ⟨r,e,rfl,h1,h2⟩:=h
 rw [oB]
 by_cases h0:e=0
 ·obtain ⟨o,hr,_⟩:=h1 h0
  obtain ⟨x,hx,h3⟩:=N0 o hr
  exact ⟨x,e,by rw [hx];rfl,fun _=>h3⟩
 ·rw [h2 h0]
  exact ⟨_,e,by rw [P5];rfl,fun q=>absurd q h0⟩
def OE (rc : Ap→Arr→Option (Arr × Int)) (f : Ap) (x : Itm) : Option (Itm × Int) :=
 if x.kind=1 then (f.g x.num).bind fun r=>some (.mk 1 r.1 0 [],r.2) else if x.kind=3 then (rd? x.box 0).bind fun b=>(rc f b).bind fun r=>(BA r.1).bind fun y=>some (y,r.2) else some (.mk 0 (false,[],[]) 0 [],3)
theorem Gg {rc : Ap→Arr→Option (Arr × Int)} {f : Ap} {a : Arr} {i : Nat} {x : Itm} (ha : a.items[i]?=some x) : Fv rc (i : Int) a f=OE rc f x:=by
 unfold Fv OE
 rw [Qa ha,oB]
 rfl
def V6 (f : Ap) : Prop:=∀ x,A8 x=true→∃ y e,f.g x=some (y,e)∧(e=0→A8 y=true)
theorem Jb {r : RT} (h : A8 r=true) : okI (.mk 1 r 0 [])∧BC (.mk 1 r 0 []):=by
 refine ⟨Pb (RH h),RS h,?_,?_⟩
 ·rw [LR];show dBs []≤16;simp [dBs]
 ·rw [KC];show cBs []≤16384;simp [cBs]
theorem NF {a : Arr} {x : Itm} {b : Arr} (hx : x ∈ a.items) (hb : b ∈ x.box) : b.size<a.size:=Nat.lt_trans (Ee hb) (Fq hx)
theorem RI {rc : Ap→Arr→Option (Arr × Int)} {f : Ap} (hf : V6 f) {x : Itm} (hx : okI x∧BC x) (hrc : ∀ b ∈ x.box,okAr b→AT b→Tot (rc f b) b.shape) : ∃ y e,OE rc f x=some (y,e)∧(e=0→okI y∧BC y):=by
 unfold OE
 rcases DR hx.2.1 with ⟨k,h,_,_⟩ | ⟨k,_⟩ | ⟨k,_,_,b,hb,_⟩
 ·rw [if_pos k]
  obtain ⟨y,e,h1,h2⟩:=hf _ h
  exact ⟨_,e,by rw [h1];rfl,fun q=>Jb (h2 q)⟩
 ·rw [if_neg (by rw [k];decide),if_neg (by rw [k];decide)]
  exact ⟨_,_,rfl,fun q=>absurd q (by decide)⟩
 ·rw [if_neg (by rw [k];decide),if_pos k,hb,MZ,oB]
  obtain ⟨ob,rb,_⟩:=Hk hx.1 hx.2 b (by simp [hb])
  exact Qf (hrc b (by simp [hb]) ob rb)
theorem Ix {a : Arr} (h : AT a) : ∃ n : Nat,szP a.shape=((n : Int),0)∧a.items.length=if n=0 then 1 else n:=by
 obtain ⟨h1,h2,_⟩:=Lo h.1
 have:=HN a.shape
 refine ⟨(szP a.shape).1.toNat,?_,?_⟩
 ·rw [← h1,Int.toNat_of_nonneg this.1]
 ·split at h2 <;> split <;> omega
theorem JO {rc : Ap→Arr→Option (Arr × Int)} {f : Ap} {a : Arr} : HW rc f a=AK a.shape (⟨.fn 93 [] [.ptr [.sl (Is a.shape),.sl (Its a.items)],.ptr [f.dv]],fun x=>Fv rc x a f⟩ : Ay):=by
 unfold HW
 generalize AK _ _=m
 cases m <;> rfl
theorem Mq {f : Ap} (hf : V6 f) : ∀ (k : Nat) {a : Arr},a.size<k→okAr a→AT a→Tot (CH k f a) a.shape
 | 0,_,h,_,_=>by omega
 | k+1,a,h,oa,ra=>by
  have o:=(Bo a).1 oa
  obtain ⟨n,hn,hl⟩:=Ix ra
  rw [CH,JO]
  refine St o.1 o.2.1 hn fun i hi=>?_
  have hi':i<a.items.length:=by rw [hl];split <;> omega
  have hx:=CY oa ra (List.getElem_mem hi')
  obtain ⟨y,e,h1,h2⟩:=RI (rc:=CH k) hf hx fun b hb ob rb=>Mq hf k (by have:=NF (List.getElem_mem hi') hb;omega) ob rb
  exact ⟨y,e,by rw [← h1];exact Gg (List.getElem?_eq_getElem hi'),h2⟩
theorem Nb {rc : (Ak × Int)→Arr→Arr→Option (Arr × Int)} {p : Ak × Int} {a b : Arr} (ha : a.shape.length≤17592186044416) (hb : b.shape.length≤17592186044416) : Jf rc p a b =
  if (NZ a.shape b.shape).2=0 then AK (NZ a.shape b.shape).1 (⟨.fn 115 [] [.ptr [p.1.dv,.i .i32 p.2],.ptr [.sl (Is a.shape),.sl (Its a.items)],.ptr [.sl (Is b.shape),.sl (Its b.items)]],fun x=>Ja rc x p a b⟩:Ay) else some (.mk [] [],(NZ a.shape b.shape).2):=by
 unfold Jf
 rw [Qk ha hb,oB]
 by_cases h:(NZ a.shape b.shape).2=0
 ·rw [if_pos h,if_pos h]
  generalize AK _ _=m
  cases m <;> rfl
 ·rw [if_neg h,if_neg h]
theorem RP (s : List Int) : NZ [] s=(s,0):=by
 unfold NZ
 by_cases h:[]=s
 ·rw [if_pos h,h]
 ·rw [if_neg h,if_pos]
  refine ⟨rfl,.inr ?_⟩
  cases s with
  | nil=>exact absurd rfl h
  | cons x xs=>simp
theorem R2 (s : List Int) : NZ s []=(s,0):=by
 unfold NZ
 by_cases h:s=[]
 ·rw [if_pos h]
 ·rw [if_neg h,if_neg,if_pos (by rfl)]
  rintro ⟨_,h2 | h2⟩
  ·exact h2 rfl
  ·simp at h2
def Ku (x : Itm) : Arr:=if x.kind=3 then x.box.headD default else .mk [] [x]
theorem WJ {x : Itm} (h : rI x=true) (k : x.kind ≠ 3) : x.box=[]:=by
 rcases DR h with ⟨_,_,_,q⟩ | ⟨_,_,_,q⟩ | ⟨q,_⟩
 ·exact q
 ·exact q
 ·exact absurd q k
theorem Ip {x : Itm} (hx : okI x∧BC x) : Et x=some (Ku x)∧okAr (Ku x)∧AT (Ku x):=by
 refine ⟨W7 hx.1 hx.2,?_⟩
 unfold Ku
 by_cases k:x.kind=3
 ·rw [if_pos k]
  rcases DR hx.2.1 with ⟨q,_⟩ | ⟨q,_⟩ | ⟨_,_,_,b,hb,_⟩
  ·omega
  ·omega
  ·obtain ⟨ob,rb,_⟩:=Hk hx.1 hx.2 b (by simp [hb])
   rw [hb];exact ⟨ob,rb⟩
 ·rw [if_neg k]
  exact ⟨YC hx.1,(Pf hx.2.1 (WJ hx.2.1 k) k).1⟩
theorem OU {rc : (Ak × Int)→Arr→Arr→Option (Arr × Int)} {p : Ak × Int} {x y : Itm} (hx : okI x∧BC x) (hy : okI y∧BC y) (h : x.kind=3∨y.kind=3) : DS rc p x y=(rc p (Ku x) (Ku y)).bind fun r=>(BA r.1).bind fun z=>some (z,r.2):=by
 unfold DS
 rw [if_pos (by simpa using h),(Ip hx).1,oB,(Ip hy).1,oB]
theorem OQ {rc : (Ak × Int)→Arr→Arr→Option (Arr × Int)} {p : Ak × Int} {x y : Itm} (hx : x.kind=1) (hy : y.kind=1) : DS rc p x y=(p.1.g (x.num,y.num)).bind fun r=>some (.mk 1 r.1 0 [],r.2):=by
 unfold DS
 rw [if_neg (by rw [hx,hy];decide),if_pos (by rw [hx,hy];decide)]
 rfl
theorem Nc {rc : (Ak × Int)→Arr→Arr→Option (Arr × Int)} {p : Ak × Int} {x y : Itm} (hx : x.kind ≠ 3) (hy : y.kind ≠ 3) (h : ¬ (x.kind=1∧y.kind=1)) : DS rc p x y=if p.2=61∨p.2=8800 then (Dr ((decide (x.kind=y.kind) && decide (x.char=y.char)) == decide (p.2=61))).bind fun r=>some (.mk 1 r 0 [],0) else some (.mk 0 (false,[],[]) 0 [],3):=by
 unfold DS
 rw [if_neg (by simp [hx,hy]),if_neg (by simpa using h)]
 by_cases q:p.2=61∨p.2=8800
 ·rw [if_pos q,if_pos (by simpa using q)];rfl
 ·rw [if_neg q,if_neg (by simpa using q)]
theorem Tu {a : Arr} (h : AT a) : 0<a.items.length:=by
 obtain ⟨n,_,hl⟩:=Ix h
 rw [hl];split <;> omega
theorem K7 (c : Int) : Ku (Dk c)=.mk [] [Dk c]:=rfl
theorem Kc (c : Int) : (Dk c).kind=1:=rfl
theorem TU {x : Itm} (h : rI x=true) (k : x.kind=1) : A8 x.num=true:=by
 rcases DR h with ⟨_,q,_⟩ | ⟨q,_⟩ | ⟨q,_⟩
 ·exact q
 ·omega
 ·omega
theorem OO {x : Itm} {b : Arr} (k : x.kind=3) (h : x.box=[b]) : Ku x=b:=by
 unfold Ku;rw [if_pos k,h];rfl
theorem Xy {p : Ak × Int} {f : Ap} {c : Int} (hc : Ml c) (hf : V6 f) (hp : ∀ x,A8 x=true→p.1.g ((Dk c).num,x)=f.g x) (h1 : p.2 ≠ 61) (h2 : p.2 ≠ 8800) : ∀ (k k' : Nat) {a : Arr},a.size<k→a.size<k'→okAr a→AT a→FE k p (.mk [] [Dk c]) a=CH k' f a
 | 0,_,_,h,_,_,_=>by omega
 | k+1,0,_,_,h,_,_=>by omega
 | k+1,k'+1,a,h,h',oa,ra=>by
  have o:=(Bo a).1 oa
  obtain ⟨n,hn,hl⟩:=Ix ra
  have hc1:okI (Dk c)∧BC (Dk c):=Jb (E7 (EG hc))
  rw [FE,Nb (by simp [Hm]) o.2.1,Hm,RP,if_pos rfl,CH,JO]
  refine KD o.2.1 hn (fun i hi=>?_) (fun i hi=>?_)
  ·have hi':i<a.items.length:=by rw [hl];split <;> omega
   obtain ⟨y,e,q,_⟩:=RI (rc:=CH k') hf (CY oa ra (List.getElem_mem hi')) fun b hb ob rb=>Mq hf k' (by have:=NF (List.getElem_mem hi') hb;omega) ob rb
   exact ⟨(y,e),by rw [← q];exact Gg (List.getElem?_eq_getElem hi')⟩
  ·have hi':i<a.items.length:=by rw [hl];split <;> omega
   have hx:=CY oa ra (List.getElem_mem hi')
   refine (MY (a:=.mk [] [Dk c]) (b:=a) (x:=Dk c) (y:=a.items[i]) (by show [Dk c][i % 1]?=_;rw [Nat.mod_one];rfl) (by rw [Nat.mod_eq_of_lt hi'];exact List.getElem?_eq_getElem hi')).trans (Eq.trans ?_ (Gg (List.getElem?_eq_getElem hi')).symm)
   have hsz:=Fq (List.getElem_mem hi')
   revert hx hsz
   generalize a.items[i]=x
   intro hx hsz
   unfold OE
   rcases DR hx.2.1 with ⟨q,hr,_,_⟩ | ⟨q,_⟩ | ⟨q,_,_,b,hb,_⟩
   ·rw [if_pos q,OQ (Kc c) q,hp _ hr]
   ·rw [if_neg (by rw [q];decide),if_neg (by rw [q];decide),Nc (by rw [Kc];decide) (by rw [q];decide) (by rw [q];rintro ⟨_,w⟩;exact absurd w (by decide)),if_neg (fun w=>w.elim h1 h2)]
   ·rw [if_neg (by rw [q];decide),if_pos q,OU hc1 hx (.inr q),K7,OO q hb,hb,MZ,oB]
    obtain ⟨ob,rb,_⟩:=Hk hx.1 hx.2 b (by simp [hb])
    have:=Ee (x:=x) (a:=b) (by simp [hb])
    rw [Xy hc hf hp h1 h2 k k' (by omega) (by omega) ob rb]
theorem Xz {p : Ak × Int} {f : Ap} {c : Int} (hc : Ml c) (hf : V6 f) (hp : ∀ x,A8 x=true→p.1.g (x,(Dk c).num)=f.g x) (h1 : p.2 ≠ 61) (h2 : p.2 ≠ 8800) : ∀ (k k' : Nat) {a : Arr},a.size<k→a.size<k'→okAr a→AT a→FE k p a (.mk [] [Dk c])=CH k' f a
 | 0,_,_,h,_,_,_=>by omega
 | k+1,0,_,_,h,_,_=>by omega
 | k+1,k'+1,a,h,h',oa,ra=>by
  have o:=(Bo a).1 oa
  obtain ⟨n,hn,hl⟩:=Ix ra
  have hc1:okI (Dk c)∧BC (Dk c):=Jb (E7 (EG hc))
  rw [FE,Nb o.2.1 (by simp [Hm]),Hm,R2,if_pos rfl,CH,JO]
  refine KD o.2.1 hn (fun i hi=>?_) (fun i hi=>?_)
  ·have hi':i<a.items.length:=by rw [hl];split <;> omega
   obtain ⟨y,e,q,_⟩:=RI (rc:=CH k') hf (CY oa ra (List.getElem_mem hi')) fun b hb ob rb=>Mq hf k' (by have:=NF (List.getElem_mem hi') hb;omega) ob rb
   exact ⟨(y,e),by rw [← q];exact Gg (List.getElem?_eq_getElem hi')⟩
  ·have hi':i<a.items.length:=by rw [hl];split <;> omega
   have hx:=CY oa ra (List.getElem_mem hi')
   refine (MY (a:=a) (b:=.mk [] [Dk c]) (x:=a.items[i]) (y:=Dk c) (by rw [Nat.mod_eq_of_lt hi'];exact List.getElem?_eq_getElem hi') (by show [Dk c][i % 1]?=_;rw [Nat.mod_one];rfl)).trans (Eq.trans ?_ (Gg (List.getElem?_eq_getElem hi')).symm)
   have hsz:=Fq (List.getElem_mem hi')
   revert hx hsz
   generalize a.items[i]=x
   intro hx hsz
   unfold OE
   rcases DR hx.2.1 with ⟨q,hr,_,_⟩ | ⟨q,_⟩ | ⟨q,_,_,b,hb,_⟩
   ·rw [if_pos q,OQ q (Kc c),hp _ hr]
   ·rw [if_neg (by rw [q];decide),if_neg (by rw [q];decide),Nc (by rw [q];decide) (by rw [Kc];decide) (by rw [q];rintro ⟨w,_⟩;exact absurd w (by decide)),if_neg (fun w=>w.elim h1 h2)]
   ·rw [if_neg (by rw [q];decide),if_pos q,OU hx hc1 (.inl q),K7,OO q hb,hb,MZ,oB]
    obtain ⟨ob,rb,_⟩:=Hk hx.1 hx.2 b (by simp [hb])
    have:=Ee (x:=x) (a:=b) (by simp [hb])
    rw [Xz hc hf hp h1 h2 k k' (by omega) (by omega) ob rb]
theorem Ot {g : Int} {w : Ak} (ht : FQ (Ju (false,[],[1])) g=some w) {a b : Arr} (oa : okAr a) (ob : okAr b) : CA (1,(false,[],[1]),0) g a b=if AT a∧AT b then JF (w,g) a b else some (.mk [] [],22):=by
 have e:Fj (1,(false,[],[1]),0) g a b=if AT a∧AT b then some ((some w,g),0) else some ((none,0),22):=by
  unfold Fj
  rw [show FQ (Ju ((1,(false,[],[1]),0):Int × RT × Int).2.1) g=some w from ht,Lu,show DT ((1,(false,[],[1]),0):Int × RT × Int).2.1=some true from Q4,oB,if_pos rfl,Hq oa,oB]
  by_cases h1:AT a
  ·rw [if_pos (dT h1),Hq ob,oB,oB]
   by_cases h2:AT b
   ·rw [if_pos (show AT a∧AT b from ⟨h1,h2⟩),dT h2,if_neg (by decide)]
   ·rw [if_neg (show ¬ (AT a∧AT b) from fun q=>h2 q.2),dF h2,if_pos (by decide)]
  ·rw [if_neg (by rw [dF h1];decide),oB,if_pos rfl,if_neg (show ¬ (AT a∧AT b) from fun q=>h1 q.1)]
 unfold CA
 rw [e]
 by_cases h:AT a∧AT b
 ·rw [if_pos h,if_pos h,oB,if_pos rfl,Lu]
  generalize JF _ _ _=m
  cases m <;> rfl
 ·rw [if_neg h,if_neg h,oB,if_neg (by decide)]
theorem Sq {e : Int × RT × Int} {g : Int} {w : Ap} (ht : FQ LV g=some w) {a : Arr} (oa : okAr a) : DP e g a=if AT a then H0 w a else some (.mk [] [],22):=by
 unfold DP
 rw [ht,Lu,Hq oa,oB]
 by_cases h:AT a
 ·rw [if_pos (dT h),if_pos h]
  generalize H0 _ _=m
  cases m <;> rfl
 ·rw [if_neg (by rw [dF h];decide),if_neg h]
theorem XX {p q : Rat} (hp : ES p) (hq : ES q) : C7 (ofQ p) (ofQ q)=some (Ru (p+q)):=by
 unfold C7;rw [Yk hp hq];rfl
theorem XZ {p q : Rat} (hp : ES p) (hq : ES q) : C5 (ofQ p) (ofQ q)=some (Ru (p * q)):=by
 unfold C5;rw [Yq hp hq];rfl
theorem O6 {p : Rat} (hp : ES p) : Cw (ofQ p)=some (ofQ p,0):=by
 unfold Cw
 have:=XI (ps:=[p]) (by simpa using hp) (by simp)
 rw [show [p].map ofQ=[ofQ p] from rfl] at this
 rw [this]
 unfold KI KI
 rw [Rat.zero_add,if_pos hp];rfl
def RatF (f : Ap) (h : Rat→Rat) : Prop:=∀ p,ES p→f.g (ofQ p)=some (ofQ (h p),0)∧ES (h p)
theorem RatF.tot {f : Ap} {h : Rat→Rat} (hf : RatF f h) : V6 f:=fun x hx=>by
 obtain ⟨p,hp,rfl⟩:=F8.1 hx
 exact ⟨_,_,(hf p hp).1,fun _=>E7 (hf p hp).2⟩
theorem Pp {xs : List Itm} {n : Nat} (h : xs.length=n) (h0 : n ≠ 0) : BX ((n : Nat) : Int) xs=xs:=by
 unfold BX
 rw [if_neg (by omega),Int.toNat_natCast,← h]
 exact Vh xs
def Cv (a0 : (List Int)) (K0 : Int→Int→Bool→Bool→Option (Int × Int)) : Nat→Int→Int→Bool→Bool→Int→Option (Int × Int)
 | 0,_,_,_,_,_=>none
 | k+1,s5,s6,s7,s8,s9=>(if s9<((List.length a0:Nat):Int) then ((rd? a0 s9).bind fun x10=>(if x10<0 then (some (0,3)) else (Option.bind ((if s7=true then (some true) else ((rd? a0 s9).bind fun x12=>(some (decide (x12=0))))):Option (Bool)) fun (z11:Bool)=>(if s8=true then (Cv a0 K0 k s5 s6 z11 true (w64 (s9+1))) else ((rd? a0 s9).bind fun x13=>(Cv a0 K0 k s5 s6 z11 (decide (4096<x13)) (w64 (s9+1)))))))) else (K0 s5 s6 s7 s8))
def C1 (a0 : (List Int)) (K2 : Int→Int→Int→Option (Int × Int)) : Nat→Int→Int→Int→Int→Option (Int × Int)
 | 0,_,_,_,_=>none
 | k+1,s17,s18,s19,s20=>(if s20<((List.length a0:Nat):Int) then ((rd? a0 s20).bind fun x21=>(if 4096<(w64 (s19 * x21)) then (some (0,8)) else ((rd? a0 s20).bind fun x22=>(C1 a0 K2 k s17 s18 (w64 (s19 * x22)) (w64 (s20+1)))))) else (K2 s17 s18 s19))
def Eu (a0 : (List Int)) : Option (Int × Int):=(if 8<((List.length a0 : Nat) : Int) then (some (0,4)) else (jn (fun (z1 : Int) (z2 : Int) (z3 : Bool) (z4 : Bool)=>(if z4=true then (some (0,8)) else (if z3=true then (some (0,0)) else (jn (fun (z14 : Int) (z15 : Int) (z16 : Int)=>(some (z16,0))) fun K2=>(C1 a0 K2 Bi z1 z2 1 0))))) fun K0=>(Cv a0 K0 Bi 0 0 false false 0)))
theorem Jt {a0 : (List Int)} {r : Int × Int} (h : Eu a0=some r) :
  Fn Tryz.prog 73 [.sl (Is a0)] (.tup [.d (.i .i64 r.1),.d (.i .i64 r.2)]):=by
 unfold Eu at h
 refine Fn.of (rs:=[.tmp 2,.tmp 3]) (nt:=61) Tryz.func73 rfl rfl rfl (by simp) rfl ?_;refine .sr ?_;refine asd ?_;refine ar [0,2,3] ?_;refine .seq ?_;refine .sr ?_;refine vk (Aa) ?_;refine vk (Bk (A5 _) (Ef _) Ec) ?_;refine vk (vbi) ?_;refine rk [0,2,3,11] ?_
 by_cases hc:8<((List.length a0:Nat):Int)
 ·replace h:=Ad hc h
  refine cnt (dT hc) ?_;refine .sr ?_;refine asd ?_;refine ar [0,2,3] ?_;refine .ret ?_
  cases h
  exact ⟨by decide,rfl,rfl,rfl⟩
 replace h:=Ae hc h
 refine cnf (dF hc) ?_;refine .skip ?_
 show AW _ _ _ _ _ _
 refine .sr ?_;refine asd ?_;refine ar [0,2,3,4,5] ?_;refine .seq ?_;refine .sr ?_;refine ar [0,2,3,4,5,6] ?_
 obtain ⟨K0,hK0,h⟩:=BS h
 refine AW.mr (σ:=Int × Int × Bool × Bool) (fun p=>K0 p.1 p.2.1 p.2.2.1 p.2.2.2=some r) (fun p=>[(0,.d (.sl (Is a0))),(2,.d (.i .i64 p.1)),(3,.d (.i .i64 p.2.1)),(4,.d (.b p.2.2.1)),(5,.d (.b p.2.2.2))]) (fun p=>[]) ?_ ?_
 ·skip
  refine .block ?_
  refine .loop (.gk [0,2,3,4,5,6] ?_)
  refine AL.ind (σ:=Nat × Int × Int × Bool × Bool × Int) (m:=fun p=>p.1) (e:=fun p=>[(0,.d (.sl (Is a0))),(2,.d (.i .i64 p.2.1)),(3,.d (.i .i64 p.2.2.1)),(4,.d (.b p.2.2.2.1)),(5,.d (.b p.2.2.2.2.1)),(6,.d (.i .i64 p.2.2.2.2.2))]) (h:=fun p=>[]) (I:=fun p=>Cv a0 K0 p.1 p.2.1 p.2.2.1 p.2.2.2.1 p.2.2.2.2.1 p.2.2.2.2.2=some r) ?_ (Bi,0,0,false,false,0) h
  rintro ⟨k,s5,s6,s7,s8,s9⟩ h ih
  dsimp only at h ih ⊢
  rcases k with _ | k
  ·rw [Cv] at h;cases h
  rw [Cv] at h
  refine .seq ?_;refine .sr ?_;refine vk (Aa) ?_;refine vk (Aa) ?_;refine vk (Bk (A5 _) (Ef _) Ec) ?_;refine vk (vbi) ?_;refine rk [0,2,3,4,5,6,15] ?_
  by_cases hc:s9<((List.length a0:Nat):Int)
  ·replace h:=Ad hc h
   refine cnt (dT hc) ?_;refine .skip ?_
   show AW _ _ _ _ _ _
   refine .seq ?_;refine .block ?_;refine .seq ?_;refine .sr ?_;refine vk (Aa) ?_;refine vk (Aa) ?_
   obtain ⟨x10,hx10,h⟩:=bnd h
   obtain ⟨nx10,hnx10,hxx10⟩:=AI hx10
   refine vk (vix nx10 hnx10 (GJ hxx10) rfl E4) ?_;refine vk (Am Ca) ?_;refine vk (vbi) ?_;refine rk [0,2,3,4,5,6,22] ?_
   by_cases hc:x10<0
   ·replace h:=Ad hc h
    refine cnt (dT hc) ?_;refine .sr ?_;refine asd ?_;refine ar [0,2,3,4,5,6] ?_;refine .ret ?_
    cases h
    exact ⟨by decide,rfl,rfl,rfl⟩
   replace h:=Ae hc h
   refine cnf (dF hc) ?_;refine .skip ?_
   show AW _ _ _ _ _ _
   refine .seq ?_
   obtain ⟨z11,hz,h⟩:=bnd h
   refine AW.mr (σ:=Unit) (fun _=>True) (fun _=>[(0,.d (.sl (Is a0))),(2,.d (.i .i64 s5)),(3,.d (.i .i64 s6)),(4,.d (.b z11)),(5,.d (.b s8)),(6,.d (.i .i64 s9))]) (fun _=>[]) ?_ ?_
   ·skip
    refine .region ?_;refine vk (Aa) ?_
    by_cases hc:s7=true
    ·replace hz:=Ad hc hz
     have hb0:s7=true:=hc
     refine vk (VOK.lit (Aa) hb0) ?_;refine gf ?_;refine gf ?_;refine gf ?_;refine gf ?_;refine gf ?_;refine vk (Ai) ?_;refine asd ?_;refine RL.gk [0,2,3,4,5,6] ?_;refine .nil ?_
     cases hz
     exact jr () trivial
    replace hz:=Ae hc hz
    have hb0:s7=false:=(bf hc)
    refine vk (VOK.lit (Aa) hb0) ?_;refine vk (Aa) ?_;refine vk (Aa) ?_
    obtain ⟨x12,hx12,hz⟩:=bnd hz
    obtain ⟨nx12,hnx12,hxx12⟩:=AI hx12
    refine vk (vix nx12 hnx12 (GJ hxx12) rfl E4) ?_;refine vk (Am Ca) ?_;refine vk (vbi) ?_;refine vk (Ai) ?_;refine asd ?_;refine RL.gk [0,2,3,4,5,6] ?_;refine .nil ?_
    cases hz
    exact jr () trivial
   rintro _ _
   refine .region ?_;refine vk (Aa) ?_
   by_cases hc:s8=true
   ·replace h:=Ad hc h
    have hb0:s8=true:=hc
    refine vk (VOK.lit (Aa) hb0) ?_;refine gf ?_;refine gf ?_;refine gf ?_;refine gf ?_;refine gf ?_;refine vk (Ai) ?_;refine asd ?_;refine .nil ?_
    show AW _ _ _ _ _ _
    refine .gk [0,2,3,4,5,6] ?_;refine .region ?_;refine vk (Aa) ?_;refine vk (vbi) ?_;refine asd ?_;refine .nil ?_;refine AL.gk [0,2,3,4,5,6] ?_
    exact ih (k,s5,s6,z11,true,(w64 (s9+1))) h (Nat.lt_succ_self _)
   replace h:=Ae hc h
   have hb0:s8=false:=(bf hc)
   refine vk (VOK.lit (Aa) hb0) ?_;refine vk (Aa) ?_;refine vk (Aa) ?_
   obtain ⟨x13,hx13,h⟩:=bnd h
   obtain ⟨nx13,hnx13,hxx13⟩:=AI hx13
   refine vk (vix nx13 hnx13 (GJ hxx13) rfl E4) ?_;refine vk (Am Ca) ?_;refine vk (vbi) ?_;refine vk (Ai) ?_;refine asd ?_;refine .nil ?_
   show AW _ _ _ _ _ _
   refine .gk [0,2,3,4,5,6] ?_;refine .region ?_;refine vk (Aa) ?_;refine vk (vbi) ?_;refine asd ?_;refine .nil ?_;refine AL.gk [0,2,3,4,5,6] ?_
   exact ih (k,s5,s6,z11,(decide (4096<x13)),(w64 (s9+1))) h (Nat.lt_succ_self _)
  replace h:=Ae hc h
  refine cnf (dF hc) ?_;refine .gk [0,2,3,4,5] ?_;refine .exit ?_
  exact jr (s5,s6,s7,s8) h
 rintro ⟨z1,z2,z3,z4⟩ h
 try dsimp only at h ⊢
 subst hK0
 show AW _ _ _ _ _ _
 refine .seq ?_;refine .sr ?_;refine vk (Aa) ?_;refine rk [0,2,3,4,39] ?_
 by_cases hc:z4=true
 ·replace h:=Ad hc h
  refine cnt hc ?_;refine .sr ?_;refine asd ?_;refine ar [0,2,3,4] ?_;refine .ret ?_
  cases h
  exact ⟨by decide,rfl,rfl,rfl⟩
 replace h:=Ae hc h
 refine cnf (bf hc) ?_;refine .skip ?_
 show AW _ _ _ _ _ _
 refine .seq ?_;refine .sr ?_;refine vk (Aa) ?_;refine rk [0,2,3,40] ?_
 by_cases hc:z3=true
 ·replace h:=Ad hc h
  refine cnt hc ?_;refine .sr ?_;refine asd ?_;refine ar [0,2,3] ?_;refine .ret ?_
  cases h
  exact ⟨by decide,rfl,rfl,rfl⟩
 replace h:=Ae hc h
 refine cnf (bf hc) ?_;refine .skip ?_
 show AW _ _ _ _ _ _
 refine .sr ?_;refine ar [0,2,3,7] ?_;refine .seq ?_;refine .sr ?_;refine ar [0,2,3,7,8] ?_
 obtain ⟨K2,hK2,h⟩:=BS h
 refine AW.mr (σ:=Int × Int × Int) (fun p=>K2 p.1 p.2.1 p.2.2=some r) (fun p=>[(2,.d (.i .i64 p.1)),(3,.d (.i .i64 p.2.1)),(7,.d (.i .i64 p.2.2))]) (fun p=>[]) ?_ ?_
 ·skip
  refine .block ?_
  refine .loop (.gk [0,2,3,7,8] ?_)
  refine AL.ind (σ:=Nat × Int × Int × Int × Int) (m:=fun p=>p.1) (e:=fun p=>[(0,.d (.sl (Is a0))),(2,.d (.i .i64 p.2.1)),(3,.d (.i .i64 p.2.2.1)),(7,.d (.i .i64 p.2.2.2.1)),(8,.d (.i .i64 p.2.2.2.2))]) (h:=fun p=>[]) (I:=fun p=>C1 a0 K2 p.1 p.2.1 p.2.2.1 p.2.2.2.1 p.2.2.2.2=some r) ?_ (Bi,z1,z2,1,0) h
  rintro ⟨k,s17,s18,s19,s20⟩ h ih
  dsimp only at h ih ⊢
  rcases k with _ | k
  ·rw [C1] at h;cases h
  rw [C1] at h
  refine .seq ?_;refine .sr ?_;refine vk (Aa) ?_;refine vk (Aa) ?_;refine vk (Bk (A5 _) (Ef _) Ec) ?_;refine vk (vbi) ?_;refine rk [0,2,3,7,8,44] ?_
  by_cases hc:s20<((List.length a0:Nat):Int)
  ·replace h:=Ad hc h
   refine cnt (dT hc) ?_;refine .skip ?_
   show AW _ _ _ _ _ _
   refine .seq ?_;refine .block ?_;refine .seq ?_;refine .sr ?_;refine vk (Aa) ?_;refine vk (Aa) ?_;refine vk (Aa) ?_
   obtain ⟨x21,hx21,h⟩:=bnd h
   obtain ⟨nx21,hnx21,hxx21⟩:=AI hx21
   refine vk (vix nx21 hnx21 (GJ hxx21) rfl E4) ?_;refine vk (Am Ca) ?_;refine vk (vbi) ?_;refine vk (vbi) ?_;refine rk [0,2,3,7,8,53] ?_
   by_cases hc:4096<(w64 (s19 * x21))
   ·replace h:=Ad hc h
    refine cnt (dT hc) ?_;refine .sr ?_;refine asd ?_;refine ar [0,2,3,7,8] ?_;refine .ret ?_
    cases h
    exact ⟨by decide,rfl,rfl,rfl⟩
   replace h:=Ae hc h
   refine cnf (dF hc) ?_;refine .skip ?_
   show AW _ _ _ _ _ _
   refine .region ?_;refine vk (Aa) ?_;refine vk (Aa) ?_;refine vk (Aa) ?_
   obtain ⟨x22,hx22,h⟩:=bnd h
   obtain ⟨nx22,hnx22,hxx22⟩:=AI hx22
   refine vk (vix nx22 hnx22 (GJ hxx22) rfl E4) ?_;refine vk (Am Ca) ?_;refine vk (vbi) ?_;refine asd ?_;refine .nil ?_
   show AW _ _ _ _ _ _
   refine .gk [0,2,3,7,8] ?_;refine .region ?_;refine vk (Aa) ?_;refine vk (vbi) ?_;refine asd ?_;refine .nil ?_;refine AL.gk [0,2,3,7,8] ?_
   exact ih (k,s17,s18,(w64 (s19 * x22)),(w64 (s20+1))) h (Nat.lt_succ_self _)
  replace h:=Ae hc h
  refine cnf (dF hc) ?_;refine .gk [2,3,7] ?_;refine .exit ?_
  exact jr (s17,s18,s19) h
 rintro ⟨z14,z15,z16⟩ h
 try dsimp only at h ⊢
 subst hK2
 show AW _ _ _ _ _ _
 refine .sr ?_;refine vk (Aa) ?_;refine asd ?_;refine ar [2,3] ?_;refine .ret ?_
 cases h
 exact ⟨by decide,rfl,rfl,rfl⟩
def CL (a0 : Arr) : Option (Bool):=(Option.bind ((if ((List.length a0.shape : Nat) : Int)=0 then (if ((List.length a0.items : Nat) : Int)=1 then ((rd? a0.items 0).bind fun x2=>(some (!(decide (x2.kind=3))))) else (some false)) else (some false)) : Option (Bool)) fun (z1 : Bool)=>(some (z1)))
theorem GO {a0 : Arr} {r : Bool} (h : CL a0=some r) :
  Fn Tryz.prog 218 [.ag [.sl (Is a0.shape),.sl (Its a0.items)]] (.d (.b r)):=by
 unfold CL at h
 refine Fn.o1 2 21 Tryz.func218 ?_;refine .sr ?_;refine vk (vbx) ?_;refine ar [1,2] ?_;refine .seq ?_
 obtain ⟨z1,hz,h⟩:=bnd h
 refine AW.mr (σ:=Unit) (fun _=>True) (fun _=>[(2,.d (.b z1))]) (fun _=>[]) ?_ ?_
 ·skip
  refine .region ?_;refine vk (vfa AY) ?_;refine vk (Am CG) ?_;refine vk (Bk (A5 _) (Ef _) Ec) ?_;refine vk (vbi) ?_
  by_cases hc:((List.length a0.shape:Nat):Int)=0
  ·replace hz:=Ad hc hz
   have hb0:(decide (((List.length a0.shape:Nat):Int)=0))=true:=(dT hc)
   refine vk (VOK.lit (Aa) hb0) ?_;refine vk (vfa AH) ?_;refine vk (Am BD) ?_;refine vk (Bk (AE _) (Cr _) Ct) ?_;refine vk (vbi) ?_;refine vk (Ai) ?_
   by_cases hc:((List.length a0.items:Nat):Int)=1
   ·replace hz:=Ad hc hz
    have hb1:(decide (((List.length a0.items:Nat):Int)=1))=true:=(dT hc)
    refine vk (VOK.lit (Aa) hb1) ?_;refine vk (vfa AH) ?_;refine vk (Am BD) ?_
    obtain ⟨x2,hx2,hz⟩:=bnd hz
    obtain ⟨nx2,hnx2,hxx2⟩:=AI hx2
    refine vk (vix nx2 hnx2 (Dn hxx2) rfl Dj) ?_;refine vk (vfa Bv) ?_;refine vk (Am AS) ?_;refine vk (vbi) ?_;refine vk (Ai) ?_;refine asd ?_;refine RL.gk [2] ?_;refine .nil ?_
    cases hz
    exact jr () trivial
   replace hz:=Ae hc hz
   have hb1:(decide (((List.length a0.items:Nat):Int)=1))=false:=(dF hc)
   refine vk (VOK.lit (Aa) hb1) ?_;refine gf ?_;refine gf ?_;refine gf ?_;refine gf ?_;refine gf ?_;refine gf ?_;refine vk (Ai) ?_;refine asd ?_;refine RL.gk [2] ?_;refine .nil ?_
   cases hz
   exact jr () trivial
  replace hz:=Ae hc hz
  have hb0:(decide (((List.length a0.shape:Nat):Int)=0))=false:=(dF hc)
  refine vk (VOK.lit (Aa) hb0) ?_;refine gf ?_;refine gf ?_;refine gf ?_;refine gf ?_;refine vk (Ai) ?_;refine vk (Aa) ?_;refine gf ?_;refine gf ?_;refine gf ?_;refine gf ?_;refine gf ?_;refine gf ?_;refine vk (Ai) ?_;refine asd ?_;refine RL.gk [2] ?_;refine .nil ?_
  cases hz
  exact jr () trivial
 rintro _ _
 refine .ret ?_
 cases h
 exact ⟨rfl,rfl⟩
def DQ (a0 : Itm) : Option (Bool):=(some (((!a0.num.1) && ((decide (((List.length a0.num.2.1 : Nat) : Int)=0)) && (decide (((List.length a0.num.2.2 : Nat) : Int)=0))))))
theorem IN {a0 : Itm} {r : Bool} (h : DQ a0=some r) :
  Fn Tryz.prog 217 [.ag [.i .u8 a0.kind,.b a0.num.1,.sl (L a0.num.2.1),.sl (L a0.num.2.2),.i .i32 a0.char,.sl (Ars a0.box)]] (.d (.b r)):=by
 unfold DQ at h
 refine Fn.o1 2 21 Tryz.func217 ?_;refine .sr ?_;refine vk (vbx) ?_;refine ar [1,2] ?_;refine .seq ?_;refine AW.mr (σ:=Unit) (fun _=>True) (fun _=>[(2,.d (.b ((!a0.num.1) && ((decide (((List.length a0.num.2.1:Nat):Int)=0)) && (decide (((List.length a0.num.2.2:Nat):Int)=0))))))]) (fun _=>[]) ?_ ?_
 ·skip
  refine .region ?_;refine vk (vfa BB) ?_;refine vk (vfa CQ) ?_;refine vk (Am BJ) ?_;refine vk (vnt) ?_
  by_cases hc:a0.num.1=true
  ·have hb0:(!a0.num.1)=false:=(ntf hc)
   refine vk (VOK.lit (Aa) hb0) ?_;refine gf ?_;refine gf ?_;refine gf ?_;refine gf ?_;refine gf ?_;refine vk (Ai) ?_;refine vk (Aa) ?_;refine gf ?_;refine gf ?_;refine gf ?_;refine gf ?_;refine gf ?_;refine vk (Ai) ?_;refine asd ?_;refine RL.gk [2] ?_;refine .nil ?_
   exact jr () trivial (by simp only [hb0];rfl)
  have hb0:(!a0.num.1)=true:=(ntt (bf hc))
  refine vk (VOK.lit (Aa) hb0) ?_;refine vk (vfa BB) ?_;refine vk (vfa BK) ?_;refine vk (Am CS) ?_;refine vk (Bk (Ab _) (A1 _) Io) ?_;refine vk (vbi) ?_;refine vk (Ai) ?_
  by_cases hc:((List.length a0.num.2.1:Nat):Int)=0
  ·have hb1:(decide (((List.length a0.num.2.1:Nat):Int)=0))=true:=(dT hc)
   refine vk (VOK.lit (Aa) hb1) ?_;refine vk (vfa BB) ?_;refine vk (vfa Ev) ?_;refine vk (Am CS) ?_;refine vk (Bk (Ab _) (A1 _) Io) ?_;refine vk (vbi) ?_;refine vk (Ai) ?_;refine asd ?_;refine RL.gk [2] ?_;refine .nil ?_
   exact jr () trivial (by simp only [hb0,hb1];rfl)
  have hb1:(decide (((List.length a0.num.2.1:Nat):Int)=0))=false:=(dF hc)
  refine vk (VOK.lit (Aa) hb1) ?_;refine gf ?_;refine gf ?_;refine gf ?_;refine gf ?_;refine gf ?_;refine vk (Ai) ?_;refine asd ?_;refine RL.gk [2] ?_;refine .nil ?_
  exact jr () trivial (by simp only [hb0,hb1];rfl)
 rintro _ _
 refine .ret ?_
 cases h
 exact ⟨rfl,rfl⟩
def AP (rc_ref03_measure : Arr→Int→Int→Option (Bool × Int × Int)) (a0 : Arr) (a1 : Int) (a2 : Int) (K1 : Bool→Int→Int→Int→Int→Option (Bool × Int × Int)) : Nat→Bool→Int→Int→Int→Int→Int→Option (Bool × Int × Int)
 | 0,_,_,_,_,_,_=>none
 | k+1,s8,s9,s10,s11,s12,s13=>(if s13<((List.length a0.items:Nat):Int) then (jn (fun (z14:Int) (z15:Int)=>(AP rc_ref03_measure a0 a1 a2 K1 k s8 s9 s10 z14 z15 (w64 (s13+1)))) fun K3=>((rd? a0.items s13).bind fun x16=>(Option.bind ((if x16.kind=1 then ((Ji x16.num).bind fun x18=>(if x18=true then (if x16.char=0 then (some (decide (((List.length x16.box:Nat):Int)=0))) else (some false)) else (some false))) else (some false)):Option (Bool)) fun (z17:Bool)=>(if z17=true then (K3 s11 s12) else (Option.bind ((if x16.kind=2 then ((EX x16.char).bind fun x20=>(if x20=true then ((DQ x16).bind fun x21=>(if x21=true then (some (decide (((List.length x16.box:Nat):Int)=0))) else (some false))) else (some false))) else (some false)):Option (Bool)) fun (z19:Bool)=>(if z19=true then (K3 s11 s12) else (Option.bind ((if x16.kind=3 then (if ((List.length x16.box:Nat):Int)=1 then ((DQ x16).bind fun x23=>(if x23=true then (if x16.char=0 then ((rd? x16.box 0).bind fun x24=>((CL x24).bind fun x25=>(some (!x25)))) else (some false)) else (some false))) else (some false)) else (some false)):Option (Bool)) fun (z22:Bool)=>(if z22=true then ((rd? x16.box 0).bind fun x26=>((rc_ref03_measure x26 (w64 (a1+1)) (w64 (a2 - s12))).bind fun x27=>(if x27.1=true then (jn (fun (z28:Int)=>(K3 z28 (w64 (s12+x27.2.2)))) fun K4=>(if s11<x27.2.1 then (K4 x27.2.1) else (K4 s11))) else (some (false,0,0))))) else (some (false,0,0)))))))))) else (K1 s8 s9 s10 s11 s12))
def C2 (rc_ref03_measure : Arr→Int→Int→Option (Bool × Int × Int)) (a0 : Arr) (a1 : Int) (a2 : Int) : Option (Bool × Int × Int):=((Eu a0.shape).bind fun x1=>(if ((!(decide (x1.2=0))) || (decide (16<a1)))=true then (some (false,0,0)) else (jn (fun (z2 : Int)=>(if ((!(decide (((List.length a0.items : Nat) : Int)=z2))) || (decide (a2<z2)))=true then (some (false,0,0)) else (jn (fun (z3 : Bool) (z4 : Int) (z5 : Int) (z6 : Int) (z7 : Int)=>((CL a0).bind fun x29=>(jn (fun (z30 : Int)=>(some ((decide (z7≤a2)),z30,z7))) fun K5=>(if x29=true then (K5 z6) else (K5 (w64 (z6+1))))))) fun K1=>(AP rc_ref03_measure a0 a1 a2 K1 Bi false 0 0 0 z2 0)))) fun K0=>(if x1.1=0 then (K0 1) else (K0 x1.1)))))
set_option maxHeartbeats 4000000 in
theorem Lm {rc_ref03_measure : Arr→Int→Int→Option (Bool × Int × Int)} (orc_ref03_measure : ∀ x0 x1 x2 r,rc_ref03_measure x0 x1 x2=some r→Fn Tryz.prog 159 [.ag [.sl (Is x0.shape),.sl (Its x0.items)],.i .i64 x1,.i .i64 x2] (.tup [.d (.b r.1),.d (.i .i64 r.2.1),.d (.i .i64 r.2.2)])) {a0 : Arr} {a1 : Int} {a2 : Int} {r : Bool × Int × Int} (h : C2 rc_ref03_measure a0 a1 a2=some r) :
  Fn Tryz.prog 159 [.ag [.sl (Is a0.shape),.sl (Its a0.items)],.i .i64 a1,.i .i64 a2] (.tup [.d (.b r.1),.d (.i .i64 r.2.1),.d (.i .i64 r.2.2)]):=by
 unfold C2 at h
 refine Fn.of (rs:=[.tmp 6,.tmp 7,.tmp 8]) (nt:=154) Tryz.func159 rfl rfl rfl (by simp) rfl ?_;refine .sr ?_;refine vk (vbx) ?_;refine asd ?_;refine asd ?_;refine ar [1,2,3,6,7,8] ?_;refine .sr ?_;refine vk (vfa AY) ?_;refine vk (Am CG) ?_
 obtain ⟨x1,hx1,h⟩:=bnd h
 refine vk (VOK.tupd (vs:=[.i .i64 x1.1,.i .i64 x1.2]) (Af (Jt hx1) Tryz.call73)) ?_;refine vk (Aa) ?_;refine vk (vex) ?_;refine vk (vex) ?_;refine asd ?_;refine ar [1,2,3,6,7,8,9,10] ?_;refine .seq ?_;refine .seq ?_;refine AW.mr (σ:=Unit) (fun _=>True) (fun _=>[(1,.d (.i .i64 a1)),(2,.d (.i .i64 a2)),(3,.d (.ptr [.sl (Is a0.shape),.sl (Its a0.items)])),(6,.d (.b false)),(7,.d (.i .i64 0)),(8,.d (.i .i64 0)),(9,.d (.i .i64 x1.1)),(29,.d (.b ((!(decide (x1.2=0))) || (decide (16<a1)))))]) (fun _=>[]) ?_ ?_
 ·skip
  refine .region ?_;refine vk (Aa) ?_;refine vk (vbi) ?_
  by_cases hc:x1.2=0
  ·have hb0:(!(decide (x1.2=0)))=false:=(ntf (dT hc))
   refine vk (VOK.lit (Aa) hb0) ?_;refine vk (Aa) ?_;refine vk (vbi) ?_;refine vk (Ai) ?_;refine RL.gk [1,2,3,6,7,8,9,29] ?_;refine .nil ?_
   exact jr () trivial (by simp only [hb0];rfl)
  have hb0:(!(decide (x1.2=0)))=true:=(ntt (dF hc))
  refine vk (VOK.lit (Aa) hb0) ?_;refine gf ?_;refine gf ?_;refine vk (Ai) ?_;refine RL.gk [1,2,3,6,7,8,9,29] ?_;refine .nil ?_
  exact jr () trivial (by simp only [hb0];rfl)
 rintro _ _
 by_cases hc:((!(decide (x1.2=0))) || (decide (16<a1)))=true
 ·replace h:=Ad hc h
  refine cnt hc ?_;refine .sr ?_;refine asd ?_;refine asd ?_;refine ar [1,2,3,6,7,8,9] ?_;refine .ret ?_
  cases h
  exact ⟨⟨by decide,by decide,by decide⟩,rfl,rfl,rfl,rfl⟩
 replace h:=Ae hc h
 refine cnf (bf hc) ?_;refine .skip ?_
 show AW _ _ _ _ _ _
 refine .seq ?_;refine .sr ?_;refine vk (Aa) ?_;refine vk (vbi) ?_;refine rk [1,2,3,6,7,8,9,31] ?_
 obtain ⟨K0,hK0,h⟩:=BS h
 refine AW.mr (σ:=Int) (fun p=>K0 p=some r) (fun p=>[(1,.d (.i .i64 a1)),(2,.d (.i .i64 a2)),(3,.d (.ptr [.sl (Is a0.shape),.sl (Its a0.items)])),(6,.d (.b false)),(7,.d (.i .i64 0)),(8,.d (.i .i64 0)),(9,.d (.i .i64 p))]) (fun p=>[]) ?_ ?_
 ·skip
  by_cases hc:x1.1=0
  ·replace h:=Ad hc h
   refine cnt (dT hc) ?_;refine .region ?_;refine asd ?_;refine RL.gk [1,2,3,6,7,8,9] ?_;refine .nil ?_
   exact jr (1) h
  replace h:=Ae hc h
  refine cnf (dF hc) ?_;refine .gk [1,2,3,6,7,8,9] ?_;refine .skip ?_
  exact jr (x1.1) h
 rintro z2 h
 try dsimp only at h ⊢
 subst hK0
 show AW _ _ _ _ _ _
 refine .seq ?_;refine .seq ?_;refine AW.mr (σ:=Unit) (fun _=>True) (fun _=>[(1,.d (.i .i64 a1)),(2,.d (.i .i64 a2)),(3,.d (.ptr [.sl (Is a0.shape),.sl (Its a0.items)])),(6,.d (.b false)),(7,.d (.i .i64 0)),(8,.d (.i .i64 0)),(9,.d (.i .i64 z2)),(41,.d (.b ((!(decide (((List.length a0.items:Nat):Int)=z2))) || (decide (a2<z2)))))]) (fun _=>[]) ?_ ?_
 ·skip
  refine .region ?_;refine vk (vfa AH) ?_;refine vk (Am BD) ?_;refine vk (Bk (AE _) (Cr _) Ct) ?_;refine vk (Aa) ?_;refine vk (vbi) ?_
  by_cases hc:((List.length a0.items:Nat):Int)=z2
  ·have hb0:(!(decide (((List.length a0.items:Nat):Int)=z2)))=false:=(ntf (dT hc))
   refine vk (VOK.lit (Aa) hb0) ?_;refine vk (Aa) ?_;refine vk (Aa) ?_;refine vk (vbi) ?_;refine vk (Ai) ?_;refine RL.gk [1,2,3,6,7,8,9,41] ?_;refine .nil ?_
   exact jr () trivial (by simp only [hb0];rfl)
  have hb0:(!(decide (((List.length a0.items:Nat):Int)=z2)))=true:=(ntt (dF hc))
  refine vk (VOK.lit (Aa) hb0) ?_;refine gf ?_;refine gf ?_;refine gf ?_;refine vk (Ai) ?_;refine RL.gk [1,2,3,6,7,8,9,41] ?_;refine .nil ?_
  exact jr () trivial (by simp only [hb0];rfl)
 rintro _ _
 by_cases hc:((!(decide (((List.length a0.items:Nat):Int)=z2))) || (decide (a2<z2)))=true
 ·replace h:=Ad hc h
  refine cnt hc ?_;refine .sr ?_;refine asd ?_;refine asd ?_;refine ar [1,2,3,6,7,8,9] ?_;refine .ret ?_
  cases h
  exact ⟨⟨by decide,by decide,by decide⟩,rfl,rfl,rfl,rfl⟩
 replace h:=Ae hc h
 refine cnf (bf hc) ?_;refine .skip ?_
 show AW _ _ _ _ _ _
 refine .sr ?_;refine ar [1,2,3,6,7,8,9,11] ?_;refine .sr ?_;refine vk (Aa) ?_;refine ar [1,2,3,6,7,8,11,12] ?_;refine .seq ?_;refine .sr ?_;refine ar [1,2,3,6,7,8,11,12,13] ?_
 obtain ⟨K1,hK1,h⟩:=BS h
 refine AW.mr (σ:=Bool × Int × Int × Int × Int) (fun p=>K1 p.1 p.2.1 p.2.2.1 p.2.2.2.1 p.2.2.2.2=some r) (fun p=>[(2,.d (.i .i64 a2)),(3,.d (.ptr [.sl (Is a0.shape),.sl (Its a0.items)])),(6,.d (.b p.1)),(7,.d (.i .i64 p.2.1)),(8,.d (.i .i64 p.2.2.1)),(11,.d (.i .i64 p.2.2.2.1)),(12,.d (.i .i64 p.2.2.2.2))]) (fun p=>[]) ?_ ?_
 ·skip
  refine .block ?_
  refine .loop (.gk [1,2,3,6,7,8,11,12,13] ?_)
  refine AL.ind (σ:=Nat × Bool × Int × Int × Int × Int × Int) (m:=fun p=>p.1) (e:=fun p=>[(1,.d (.i .i64 a1)),(2,.d (.i .i64 a2)),(3,.d (.ptr [.sl (Is a0.shape),.sl (Its a0.items)])),(6,.d (.b p.2.1)),(7,.d (.i .i64 p.2.2.1)),(8,.d (.i .i64 p.2.2.2.1)),(11,.d (.i .i64 p.2.2.2.2.1)),(12,.d (.i .i64 p.2.2.2.2.2.1)),(13,.d (.i .i64 p.2.2.2.2.2.2))]) (h:=fun p=>[]) (I:=fun p=>AP rc_ref03_measure a0 a1 a2 K1 p.1 p.2.1 p.2.2.1 p.2.2.2.1 p.2.2.2.2.1 p.2.2.2.2.2.1 p.2.2.2.2.2.2=some r) ?_ (Bi,false,0,0,0,z2,0) h
  rintro ⟨k,s8,s9,s10,s11,s12,s13⟩ h ih
  dsimp only at h ih ⊢
  rcases k with _ | k
  ·rw [AP] at h;cases h
  rw [AP] at h
  refine .seq ?_;refine .sr ?_;refine vk (Aa) ?_;refine vk (vfa AH) ?_;refine vk (Am BD) ?_;refine vk (Bk (AE _) (Cr _) Ct) ?_;refine vk (vbi) ?_;refine rk [1,2,3,6,7,8,11,12,13,47] ?_
  by_cases hc:s13<((List.length a0.items:Nat):Int)
  ·replace h:=Ad hc h
   refine cnt (dT hc) ?_;refine .skip ?_
   show AW _ _ _ _ _ _
   obtain ⟨K3,hK3,h⟩:=BS h
   refine AW.mj (σ:=Int × Int) (fun p=>K3 p.1 p.2=some r) (fun p=>[(1,.d (.i .i64 a1)),(2,.d (.i .i64 a2)),(3,.d (.ptr [.sl (Is a0.shape),.sl (Its a0.items)])),(6,.d (.b s8)),(7,.d (.i .i64 s9)),(8,.d (.i .i64 s10)),(11,.d (.i .i64 p.1)),(12,.d (.i .i64 p.2)),(13,.d (.i .i64 s13))]) (fun p=>[]) ?_ ?_
   ·skip
    refine .block ?_;refine .sr ?_;refine vk (vfa AH) ?_;refine vk (Am BD) ?_;refine vk (Aa) ?_
    obtain ⟨x16,hx16,h⟩:=bnd h
    obtain ⟨nx16,hnx16,hxx16⟩:=AI hx16
    refine vk (vix nx16 hnx16 (Dn hxx16) rfl Dj) ?_;refine vk (Ao AM Aw) ?_;refine vk (van (Ag BN) BW) ?_
    refine stn ?_ Aw (by decide)
    refine rk [1,2,3,6,7,8,11,12,13,14] ?_;refine .block ?_;refine .seq ?_;refine .gh (Gh.nbp (t:=14) rfl) ?_
    obtain ⟨z17,hz,h⟩:=bnd h
    refine AW.mr (σ:=Unit) (fun _=>True) (fun _=>[(1,.d (.i .i64 a1)),(2,.d (.i .i64 a2)),(3,.d (.ptr [.sl (Is a0.shape),.sl (Its a0.items)])),(6,.d (.b s8)),(7,.d (.i .i64 s9)),(8,.d (.i .i64 s10)),(11,.d (.i .i64 s11)),(12,.d (.i .i64 s12)),(13,.d (.i .i64 s13)),(14,.d (.ptr [.i .u8 x16.kind,.b x16.num.1,.sl (L x16.num.2.1),.sl (L x16.num.2.2),.i .i32 x16.char,.sl (Ars x16.box)])),(55,.d (.b z17))]) (fun _=>[]) ?_ ?_
    ·skip
     refine .region ?_;refine vk (vfa Bv) ?_;refine vk (Am AS) ?_;refine vk (vbi) ?_
     by_cases hc:x16.kind=1
     ·replace hz:=Ad hc hz
      have hb0:(decide (x16.kind=1))=true:=(dT hc)
      refine vk (VOK.lit (Aa) hb0) ?_;refine vk (vfa BB) ?_;refine vk (Ao Au Al) ?_
      obtain ⟨x18,hx18,hz⟩:=bnd hz
      refine vk (Af (OZ hx18) Tryz.call19) ?_;refine vk (Ai) ?_
      by_cases hc:x18=true
      ·replace hz:=Ad hc hz
       have hb1:x18=true:=hc
       refine vk (VOK.lit (Aa) hb1) ?_;refine vk (vfa CX) ?_;refine vk (Am Cb) ?_;refine vk (vbi) ?_;refine vk (Ai) ?_
       by_cases hc:x16.char=0
       ·replace hz:=Ad hc hz
        have hb2:(decide (x16.char=0))=true:=(dT hc)
        refine vk (VOK.lit (Aa) hb2) ?_;refine vk (vfa A7) ?_;refine vk (Am B8) ?_;refine vk (Bk (Bs _) (Ey _) Ew) ?_;refine vk (vbi) ?_;refine vk (Ai) ?_;refine asd ?_;refine RL.gk [1,2,3,6,7,8,11,12,13,14,55] ?_;refine .nil ?_
        cases hz
        exact jr () trivial
       replace hz:=Ae hc hz
       have hb2:(decide (x16.char=0))=false:=(dF hc)
       refine vk (VOK.lit (Aa) hb2) ?_;refine gf ?_;refine gf ?_;refine gf ?_;refine gf ?_;refine vk (Ai) ?_;refine asd ?_;refine RL.gk [1,2,3,6,7,8,11,12,13,14,55] ?_;refine .nil ?_
       cases hz
       exact jr () trivial
      replace hz:=Ae hc hz
      have hb1:x18=false:=(bf hc)
      refine vk (VOK.lit (Aa) hb1) ?_;refine gf ?_;refine gf ?_;refine gf ?_;refine vk (Ai) ?_;refine vk (Aa) ?_;refine gf ?_;refine gf ?_;refine gf ?_;refine gf ?_;refine vk (Ai) ?_;refine asd ?_;refine RL.gk [1,2,3,6,7,8,11,12,13,14,55] ?_;refine .nil ?_
      cases hz
      exact jr () trivial
     replace hz:=Ae hc hz
     have hb0:(decide (x16.kind=1))=false:=(dF hc)
     refine vk (VOK.lit (Aa) hb0) ?_;refine gf ?_;refine gf ?_;refine gf ?_;refine vk (Ai) ?_;refine vk (Aa) ?_;refine gf ?_;refine gf ?_;refine gf ?_;refine vk (Ai) ?_;refine vk (Aa) ?_;refine gf ?_;refine gf ?_;refine gf ?_;refine gf ?_;refine vk (Ai) ?_;refine asd ?_;refine RL.gk [1,2,3,6,7,8,11,12,13,14,55] ?_;refine .nil ?_
     cases hz
     exact jr () trivial
    rintro _ _
    by_cases hc:z17=true
    ·replace h:=Ad hc h
     refine cnt hc ?_;refine .gk [1,2,3,6,7,8,11,12,13] ?_;refine .skip ?_
     exact jr (s11,s12) h
    replace h:=Ae hc h
    refine cnf (bf hc) ?_;refine .seq ?_
    obtain ⟨z19,hz,h⟩:=bnd h
    refine AW.mr (σ:=Unit) (fun _=>True) (fun _=>[(1,.d (.i .i64 a1)),(2,.d (.i .i64 a2)),(3,.d (.ptr [.sl (Is a0.shape),.sl (Its a0.items)])),(6,.d (.b s8)),(7,.d (.i .i64 s9)),(8,.d (.i .i64 s10)),(11,.d (.i .i64 s11)),(12,.d (.i .i64 s12)),(13,.d (.i .i64 s13)),(14,.d (.ptr [.i .u8 x16.kind,.b x16.num.1,.sl (L x16.num.2.1),.sl (L x16.num.2.2),.i .i32 x16.char,.sl (Ars x16.box)])),(75,.d (.b z19))]) (fun _=>[]) ?_ ?_
    ·skip
     refine .region ?_;refine vk (vfa Bv) ?_;refine vk (Am AS) ?_;refine vk (vbi) ?_
     by_cases hc:x16.kind=2
     ·replace hz:=Ad hc hz
      have hb0:(decide (x16.kind=2))=true:=(dT hc)
      refine vk (VOK.lit (Aa) hb0) ?_;refine vk (vfa CX) ?_;refine vk (Am Cb) ?_
      obtain ⟨x20,hx20,hz⟩:=bnd hz
      refine vk (Af (L8 hx20) Tryz.call216) ?_;refine vk (Ai) ?_
      by_cases hc:x20=true
      ·replace hz:=Ad hc hz
       have hb1:x20=true:=hc
       refine vk (VOK.lit (Aa) hb1) ?_;refine vk (Ao AM Aw) ?_
       obtain ⟨x21,hx21,hz⟩:=bnd hz
       refine vk (Af (IN hx21) Tryz.call217) ?_;refine vk (Ai) ?_
       by_cases hc:x21=true
       ·replace hz:=Ad hc hz
        have hb2:x21=true:=hc
        refine vk (VOK.lit (Aa) hb2) ?_;refine vk (vfa A7) ?_;refine vk (Am B8) ?_;refine vk (Bk (Bs _) (Ey _) Ew) ?_;refine vk (vbi) ?_;refine vk (Ai) ?_;refine asd ?_;refine RL.gk [1,2,3,6,7,8,11,12,13,14,75] ?_;refine .nil ?_
        cases hz
        exact jr () trivial
       replace hz:=Ae hc hz
       have hb2:x21=false:=(bf hc)
       refine vk (VOK.lit (Aa) hb2) ?_;refine gf ?_;refine gf ?_;refine gf ?_;refine gf ?_;refine vk (Ai) ?_;refine asd ?_;refine RL.gk [1,2,3,6,7,8,11,12,13,14,75] ?_;refine .nil ?_
       cases hz
       exact jr () trivial
      replace hz:=Ae hc hz
      have hb1:x20=false:=(bf hc)
      refine vk (VOK.lit (Aa) hb1) ?_;refine gf ?_;refine gf ?_;refine vk (Ai) ?_;refine vk (Aa) ?_;refine gf ?_;refine gf ?_;refine gf ?_;refine gf ?_;refine vk (Ai) ?_;refine asd ?_;refine RL.gk [1,2,3,6,7,8,11,12,13,14,75] ?_;refine .nil ?_
      cases hz
      exact jr () trivial
     replace hz:=Ae hc hz
     have hb0:(decide (x16.kind=2))=false:=(dF hc)
     refine vk (VOK.lit (Aa) hb0) ?_;refine gf ?_;refine gf ?_;refine gf ?_;refine vk (Ai) ?_;refine vk (Aa) ?_;refine gf ?_;refine gf ?_;refine vk (Ai) ?_;refine vk (Aa) ?_;refine gf ?_;refine gf ?_;refine gf ?_;refine gf ?_;refine vk (Ai) ?_;refine asd ?_;refine RL.gk [1,2,3,6,7,8,11,12,13,14,75] ?_;refine .nil ?_
     cases hz
     exact jr () trivial
    rintro _ _
    by_cases hc:z19=true
    ·replace h:=Ad hc h
     refine cnt hc ?_;refine .gk [1,2,3,6,7,8,11,12,13] ?_;refine .skip ?_
     exact jr (s11,s12) h
    replace h:=Ae hc h
    refine cnf (bf hc) ?_;refine .seq ?_
    obtain ⟨z22,hz,h⟩:=bnd h
    refine AW.mr (σ:=Unit) (fun _=>True) (fun _=>[(1,.d (.i .i64 a1)),(2,.d (.i .i64 a2)),(3,.d (.ptr [.sl (Is a0.shape),.sl (Its a0.items)])),(6,.d (.b s8)),(7,.d (.i .i64 s9)),(8,.d (.i .i64 s10)),(11,.d (.i .i64 s11)),(12,.d (.i .i64 s12)),(13,.d (.i .i64 s13)),(14,.d (.ptr [.i .u8 x16.kind,.b x16.num.1,.sl (L x16.num.2.1),.sl (L x16.num.2.2),.i .i32 x16.char,.sl (Ars x16.box)])),(94,.d (.b z22))]) (fun _=>[]) ?_ ?_
    ·skip
     refine .region ?_;refine vk (vfa Bv) ?_;refine vk (Am AS) ?_;refine vk (vbi) ?_
     by_cases hc:x16.kind=3
     ·replace hz:=Ad hc hz
      have hb0:(decide (x16.kind=3))=true:=(dT hc)
      refine vk (VOK.lit (Aa) hb0) ?_;refine vk (vfa A7) ?_;refine vk (Am B8) ?_;refine vk (Bk (Bs _) (Ey _) Ew) ?_;refine vk (vbi) ?_;refine vk (Ai) ?_
      by_cases hc:((List.length x16.box:Nat):Int)=1
      ·replace hz:=Ad hc hz
       have hb1:(decide (((List.length x16.box:Nat):Int)=1))=true:=(dT hc)
       refine vk (VOK.lit (Aa) hb1) ?_;refine vk (Ao AM Aw) ?_
       obtain ⟨x23,hx23,hz⟩:=bnd hz
       refine vk (Af (IN hx23) Tryz.call217) ?_;refine vk (Ai) ?_
       by_cases hc:x23=true
       ·replace hz:=Ad hc hz
        have hb2:x23=true:=hc
        refine vk (VOK.lit (Aa) hb2) ?_;refine vk (vfa CX) ?_;refine vk (Am Cb) ?_;refine vk (vbi) ?_;refine vk (Ai) ?_
        by_cases hc:x16.char=0
        ·replace hz:=Ad hc hz
         have hb3:(decide (x16.char=0))=true:=(dT hc)
         refine vk (VOK.lit (Aa) hb3) ?_;refine vk (vfa A7) ?_;refine vk (Am B8) ?_
         obtain ⟨x24,hx24,hz⟩:=bnd hz
         obtain ⟨nx24,hnx24,hxx24⟩:=AI hx24
         refine vk (vix nx24 hnx24 (EV hxx24) rfl E0) ?_;refine vk (Ao Ar Ah) ?_
         obtain ⟨x25,hx25,hz⟩:=bnd hz
         refine vk (Af (GO hx25) Tryz.call218) ?_;refine vk (vnt) ?_;refine vk (Ai) ?_;refine asd ?_;refine RL.gk [1,2,3,6,7,8,11,12,13,14,94] ?_;refine .nil ?_
         cases hz
         exact jr () trivial
        replace hz:=Ae hc hz
        have hb3:(decide (x16.char=0))=false:=(dF hc)
        refine vk (VOK.lit (Aa) hb3) ?_;refine gf ?_;refine gf ?_;refine gf ?_;refine gf ?_;refine gf ?_;refine gf ?_;refine vk (Ai) ?_;refine asd ?_;refine RL.gk [1,2,3,6,7,8,11,12,13,14,94] ?_;refine .nil ?_
        cases hz
        exact jr () trivial
       replace hz:=Ae hc hz
       have hb2:x23=false:=(bf hc)
       refine vk (VOK.lit (Aa) hb2) ?_;refine gf ?_;refine gf ?_;refine gf ?_;refine vk (Ai) ?_;refine vk (Aa) ?_;refine gf ?_;refine gf ?_;refine gf ?_;refine gf ?_;refine gf ?_;refine gf ?_;refine vk (Ai) ?_;refine asd ?_;refine RL.gk [1,2,3,6,7,8,11,12,13,14,94] ?_;refine .nil ?_
       cases hz
       exact jr () trivial
      replace hz:=Ae hc hz
      have hb1:(decide (((List.length x16.box:Nat):Int)=1))=false:=(dF hc)
      refine vk (VOK.lit (Aa) hb1) ?_;refine gf ?_;refine gf ?_;refine vk (Ai) ?_;refine vk (Aa) ?_;refine gf ?_;refine gf ?_;refine gf ?_;refine vk (Ai) ?_;refine vk (Aa) ?_;refine gf ?_;refine gf ?_;refine gf ?_;refine gf ?_;refine gf ?_;refine gf ?_;refine vk (Ai) ?_;refine asd ?_;refine RL.gk [1,2,3,6,7,8,11,12,13,14,94] ?_;refine .nil ?_
      cases hz
      exact jr () trivial
     replace hz:=Ae hc hz
     have hb0:(decide (x16.kind=3))=false:=(dF hc)
     refine vk (VOK.lit (Aa) hb0) ?_;refine gf ?_;refine gf ?_;refine gf ?_;refine gf ?_;refine vk (Ai) ?_;refine vk (Aa) ?_;refine gf ?_;refine gf ?_;refine vk (Ai) ?_;refine vk (Aa) ?_;refine gf ?_;refine gf ?_;refine gf ?_;refine vk (Ai) ?_;refine vk (Aa) ?_;refine gf ?_;refine gf ?_;refine gf ?_;refine gf ?_;refine gf ?_;refine gf ?_;refine vk (Ai) ?_;refine asd ?_;refine RL.gk [1,2,3,6,7,8,11,12,13,14,94] ?_;refine .nil ?_
     cases hz
     exact jr () trivial
    rintro _ _
    by_cases hc:z22=true
    ·replace h:=Ad hc h
     refine cnt hc ?_;refine .sr ?_;refine vk (vfa A7) ?_;refine vk (Am B8) ?_
     obtain ⟨x26,hx26,h⟩:=bnd h
     obtain ⟨nx26,hnx26,hxx26⟩:=AI hx26
     refine vk (vix nx26 hnx26 (EV hxx26) rfl E0) ?_;refine vk (Ao Ar Ah) ?_;refine vk (Aa) ?_;refine vk (vbi) ?_;refine vk (Aa) ?_;refine vk (Aa) ?_;refine vk (vbi) ?_
     obtain ⟨x27,hx27,h⟩:=bnd h
     refine vk (VOK.tupd (vs:=[.b x27.1,.i .i64 x27.2.1,.i .i64 x27.2.2]) (Af (orc_ref03_measure _ _ _ _ hx27) Tryz.call159)) ?_;refine vk (Aa) ?_;refine vk (vex) ?_;refine vk (vex) ?_;refine vk (vex) ?_;refine asd ?_;refine asd ?_;refine ar [1,2,3,6,7,8,11,12,13,15,16,17] ?_;refine .seq ?_;refine .sr ?_;refine vk (Aa) ?_;refine vk (vnt) ?_;refine rk [1,2,3,6,7,8,11,12,13,16,17,136] ?_
     by_cases hc:x27.1=true
     ·replace h:=Ad hc h
      refine cnf (ntf hc) ?_;refine .skip ?_
      show AW _ _ _ _ _ _
      refine .seq ?_;refine .sr ?_;refine vk (Aa) ?_;refine vk (Aa) ?_;refine vk (vbi) ?_;refine rk [1,2,3,6,7,8,11,12,13,16,17,139] ?_
      obtain ⟨K4,hK4,h⟩:=BS h
      refine AW.mr (σ:=Int) (fun p=>K4 p=some r) (fun p=>[(1,.d (.i .i64 a1)),(2,.d (.i .i64 a2)),(3,.d (.ptr [.sl (Is a0.shape),.sl (Its a0.items)])),(6,.d (.b s8)),(7,.d (.i .i64 s9)),(8,.d (.i .i64 s10)),(11,.d (.i .i64 p)),(12,.d (.i .i64 s12)),(13,.d (.i .i64 s13)),(17,.d (.i .i64 x27.2.2))]) (fun p=>[]) ?_ ?_
      ·skip
       by_cases hc:s11<x27.2.1
       ·replace h:=Ad hc h
        refine cnt (dT hc) ?_;refine .region ?_;refine vk (Aa) ?_;refine asd ?_;refine RL.gk [1,2,3,6,7,8,11,12,13,17] ?_;refine .nil ?_
        exact jr (x27.2.1) h
       replace h:=Ae hc h
       refine cnf (dF hc) ?_;refine .gk [1,2,3,6,7,8,11,12,13,17] ?_;refine .skip ?_
       exact jr (s11) h
      rintro z28 h
      try dsimp only at h ⊢
      subst hK4
      show AW _ _ _ _ _ _
      refine .region ?_;refine vk (Aa) ?_;refine vk (Aa) ?_;refine vk (vbi) ?_;refine asd ?_;refine RL.gk [1,2,3,6,7,8,11,12,13] ?_;refine .nil ?_
      exact jr (z28,(w64 (s12+x27.2.2))) h
     replace h:=Ae hc h
     refine cnt (ntt (bf hc)) ?_;refine .sr ?_;refine asd ?_;refine asd ?_;refine ar [1,2,3,6,7,8,11,12,13,16,17] ?_;refine .ret ?_
     cases h
     exact ⟨⟨by decide,by decide,by decide⟩,rfl,rfl,rfl,rfl⟩
    replace h:=Ae hc h
    refine cnf (bf hc) ?_;refine .sr ?_;refine asd ?_;refine asd ?_;refine ar [1,2,3,6,7,8,11,12,13] ?_;refine .ret ?_
    cases h
    exact ⟨⟨by decide,by decide,by decide⟩,rfl,rfl,rfl,rfl⟩
   rintro ⟨z14,z15⟩ h
   try dsimp only at h ⊢
   subst hK3
   refine .region ?_;refine vk (Aa) ?_;refine vk (vbi) ?_;refine asd ?_;refine .nil ?_;refine AL.gk [1,2,3,6,7,8,11,12,13] ?_
   exact ih (k,s8,s9,s10,z14,z15,(w64 (s13+1))) h (Nat.lt_succ_self _)
  replace h:=Ae hc h
  refine cnf (dF hc) ?_;refine .gk [2,3,6,7,8,11,12] ?_;refine .exit ?_
  exact jr (s8,s9,s10,s11,s12) h
 rintro ⟨z3,z4,z5,z6,z7⟩ h
 try dsimp only at h ⊢
 subst hK1
 show AW _ _ _ _ _ _
 refine .seq ?_;refine .sr ?_;refine vk (Ao Ar Ah) ?_
 obtain ⟨x29,hx29,h⟩:=bnd h
 refine vk (Af (GO hx29) Tryz.call218) ?_;refine vk (vnt) ?_;refine rk [2,6,7,8,11,12,146] ?_
 obtain ⟨K5,hK5,h⟩:=BS h
 refine AW.mr (σ:=Int) (fun p=>K5 p=some r) (fun p=>[(2,.d (.i .i64 a2)),(6,.d (.b z3)),(7,.d (.i .i64 z4)),(8,.d (.i .i64 z5)),(11,.d (.i .i64 p)),(12,.d (.i .i64 z7))]) (fun p=>[]) ?_ ?_
 ·skip
  by_cases hc:x29=true
  ·replace h:=Ad hc h
   refine cnf (ntf hc) ?_;refine .gk [2,6,7,8,11,12] ?_;refine .skip ?_
   exact jr (z6) h
  replace h:=Ae hc h
  refine cnt (ntt (bf hc)) ?_;refine .region ?_;refine vk (Aa) ?_;refine vk (vbi) ?_;refine asd ?_;refine RL.gk [2,6,7,8,11,12] ?_;refine .nil ?_
  exact jr ((w64 (z6+1))) h
 rintro z30 h
 try dsimp only at h ⊢
 subst hK5
 show AW _ _ _ _ _ _
 refine .sr ?_;refine vk (Aa) ?_;refine vk (Aa) ?_;refine vk (vbi) ?_;refine vk (Aa) ?_;refine vk (Aa) ?_;refine asd ?_;refine asd ?_;refine ar [6,7,8] ?_;refine .ret ?_
 cases h
 exact ⟨⟨by decide,by decide,by decide⟩,rfl,rfl,rfl,rfl⟩
def Dg : Nat→Arr→Int→Int→Option (Bool × Int × Int)
 | 0,_,_,_=>none
 | k+1,a0,a1,a2=>C2 (Dg k) a0 a1 a2
theorem GI : ∀ (k : Nat) (a0 : Arr) (a1 : Int) (a2 : Int) (r : Bool × Int × Int),Dg k a0 a1 a2=some r→Fn Tryz.prog 159 [.ag [.sl (Is a0.shape),.sl (Its a0.items)],.i .i64 a1,.i .i64 a2] (.tup [.d (.b r.1),.d (.i .i64 r.2.1),.d (.i .i64 r.2.2)])
 | 0,_,_,_,_,h=>by cases h
 | k+1,a0,a1,a2,_,h=>Lm (GI k)  (show C2 (Dg k) a0 a1 a2=some _ from h)
def H7 (a0 : Arr) (a1 : Int) (a2 : Int) : Option (Bool × Int × Int):=Dg (a0.size+1) a0 a1 a2
theorem L7 {a0 : Arr} {a1 : Int} {a2 : Int} {r : Bool × Int × Int} (h : H7 a0 a1 a2=some r) : Fn Tryz.prog 159 [.ag [.sl (Is a0.shape),.sl (Its a0.items)],.i .i64 a1,.i .i64 a2] (.tup [.d (.b r.1),.d (.i .i64 r.2.1),.d (.i .i64 r.2.2)]):=GI _ a0 a1 a2 r  h
def Fx (a0 : Arr) : Option (Bool):=((H7 a0 0 16384).bind fun x1=>(some ((x1.1 && (decide (x1.2.1≤16))))))
theorem MJ {a0 : Arr} {r : Bool} (h : Fx a0=some r) :
  Fn Tryz.prog 74 [.ag [.sl (Is a0.shape),.sl (Its a0.items)]] (.d (.b r)):=by
 unfold Fx at h
 refine Fn.o1 2 17 Tryz.func74 ?_;refine .sr ?_;refine vk (vbx) ?_;refine ar [1,2] ?_;refine .sr ?_;refine vk (Ao Ar Ah) ?_
 obtain ⟨x1,hx1,h⟩:=bnd h
 refine vk (VOK.tupd (vs:=[.b x1.1,.i .i64 x1.2.1,.i .i64 x1.2.2]) (Af (L7 hx1) Tryz.call159)) ?_;refine vk (Aa) ?_;refine vk (vex) ?_;refine vk (vex) ?_;refine vk (vex) ?_;refine asd ?_;refine asd ?_;refine ar [2,3,4] ?_;refine .seq ?_;refine AW.mr (σ:=Unit) (fun _=>True) (fun _=>[(2,.d (.b (x1.1 && (decide (x1.2.1≤16)))))]) (fun _=>[]) ?_ ?_
 ·skip
  refine .region ?_;refine vk (Aa) ?_
  by_cases hc:x1.1=true
  ·have hb0:x1.1=true:=hc
   refine vk (VOK.lit (Aa) hb0) ?_;refine vk (Aa) ?_;refine vk (vbi) ?_;refine vk (Ai) ?_;refine asd ?_;refine RL.gk [2] ?_;refine .nil ?_
   exact jr () trivial (by simp only [hb0];rfl)
  have hb0:x1.1=false:=(bf hc)
  refine vk (VOK.lit (Aa) hb0) ?_;refine gf ?_;refine gf ?_;refine vk (Ai) ?_;refine asd ?_;refine RL.gk [2] ?_;refine .nil ?_
  exact jr () trivial (by simp only [hb0];rfl)
 rintro _ _
 refine .ret ?_
 cases h
 exact ⟨rfl,rfl⟩
def BQ (rc_ref03_Copy : Arr→Option (Arr)) (a0 : Itm) (K0 : Int→Bool→(List Nat)→(List Nat)→Int→(List Arr)→Option (Itm)) : Nat→Int→Int→Bool→(List Nat)→(List Nat)→Int→(List Arr)→Option (Itm)
 | 0,_,_,_,_,_,_,_=>none
 | k+1,s8,s9,s10,s11,s12,s13,s14=>(if s8<((List.length a0.box:Nat):Int) then ((rd? a0.box s8).bind fun x15=>((rc_ref03_Copy x15).bind fun x16=>((ap? 2932031007402 s14 [x16]).bind fun x17=>(BQ rc_ref03_Copy a0 K0 k (w64 (s8+1)) s9 s10 s11 s12 s13 x17)))) else (K0 s9 s10 s11 s12 s13 s14))
def DW (rc_ref03_Copy : Arr→Option (Arr)) (a0 : Itm) : Option (Itm):=((Gl a0.num).bind fun x1=>(jn (fun (z2 : Int) (z3 : Bool) (z4 : (List Nat)) (z5 : (List Nat)) (z6 : Int) (z7 : (List Arr))=>(some ((Itm.mk z2 (z3,z4,z5) z6 z7)))) fun K0=>(BQ rc_ref03_Copy a0 K0 Bi 0 a0.kind x1.1 x1.2.1 x1.2.2 a0.char [])))
theorem J9 {rc_ref03_Copy : Arr→Option (Arr)} (orc_ref03_Copy : ∀ x0 r,rc_ref03_Copy x0=some r→Fn Tryz.prog 75 [.ag [.sl (Is x0.shape),.sl (Its x0.items)]] (.d (.ag [.sl (Is r.shape),.sl (Its r.items)]))) {a0 : Itm} {r : Itm} (h : DW rc_ref03_Copy a0=some r) :
  Fn Tryz.prog 160 [.ag [.i .u8 a0.kind,.b a0.num.1,.sl (L a0.num.2.1),.sl (L a0.num.2.2),.i .i32 a0.char,.sl (Ars a0.box)]] (.d (.ag [.i .u8 r.kind,.b r.num.1,.sl (L r.num.2.1),.sl (L r.num.2.2),.i .i32 r.char,.sl (Ars r.box)])):=by
 unfold DW at h
 refine Fn.ofC (rs:=[.cell 2 83]) (nt:=32) Tryz.func160 rfl rfl rfl (by simp) rfl ?_;refine .sr ?_;refine vk (vbx) ?_;refine vk (van (Ag BN) BW) ?_;refine rk [1,2] ?_;refine .seq ?_;refine .drawn 9 A9 (by kernel_rfl) ?_;refine dv (vfa Bv) ?_;refine dv (Am AS) ?_;refine dv (vfa CX) ?_;refine dv (Am Cb) ?_;refine dv (vfa BB) ?_;refine dv (Ao Au Al) ?_
 obtain ⟨x1,hx1,h⟩:=bnd h
 refine dv (Af (NP hx1) Tryz.call47) ?_;refine dv (VW GT BN (fun w I μ=>S8 w I μ)) ?_;refine dv (van (Ag BN) BW) ?_;refine dz ?_
 refine Wn ?_ Aw (by decide)
 refine rk [1,2,3] ?_;refine .seq ?_;refine .sr ?_;refine ar [1,2,3,4] ?_
 obtain ⟨K0,hK0,h⟩:=BS h
 refine AW.mr (σ:=Int × Bool × (List Nat) × (List Nat) × Int × (List Arr)) (fun p=>K0 p.1 p.2.1 p.2.2.1 p.2.2.2.1 p.2.2.2.2.1 p.2.2.2.2.2=some r) (fun p=>[(2,.nb [.i .u8 0,.b false,.sl (L []),.sl (L []),.i .i32 0,.sl (Ars [])]),(3,.bp 0 0)]) (fun p=>[HO.box [.d (.i .u8 p.1),.d (.b p.2.1),.d (.sl (L p.2.2.1)),.d (.sl (L p.2.2.2.1)),.d (.i .i32 p.2.2.2.2.1),.own 25 (Ars p.2.2.2.2.2)]]) ?_ ?_
 ·skip
  refine .block ?_;refine .gh (Gh.nlOwnC (id:=0) (off:=5) 25 (by rw [UD];decide)) ?_
  refine .loop (.gk [1,2,3,4] ?_)
  refine AL.ind (σ:=Nat × Int × Int × Bool × (List Nat) × (List Nat) × Int × (List Arr)) (m:=fun p=>p.1) (e:=fun p=>[(1,.d (.ptr [.i .u8 a0.kind,.b a0.num.1,.sl (L a0.num.2.1),.sl (L a0.num.2.2),.i .i32 a0.char,.sl (Ars a0.box)])),(2,.nb [.i .u8 0,.b false,.sl (L []),.sl (L []),.i .i32 0,.sl (Ars [])]),(3,.bp 0 0),(4,.d (.i .i64 p.2.1))]) (h:=fun p=>[HO.box [.d (.i .u8 p.2.2.1),.d (.b p.2.2.2.1),.d (.sl (L p.2.2.2.2.1)),.d (.sl (L p.2.2.2.2.2.1)),.d (.i .i32 p.2.2.2.2.2.2.1),.own 25 (Ars p.2.2.2.2.2.2.2)]]) (I:=fun p=>BQ rc_ref03_Copy a0 K0 p.1 p.2.1 p.2.2.1 p.2.2.2.1 p.2.2.2.2.1 p.2.2.2.2.2.1 p.2.2.2.2.2.2.1 p.2.2.2.2.2.2.2=some r) ?_ (Bi,0,a0.kind,x1.1,x1.2.1,x1.2.2,a0.char,[]) h
  rintro ⟨k,s8,s9,s10,s11,s12,s13,s14⟩ h ih
  dsimp only at h ih ⊢
  rcases k with _ | k
  ·rw [BQ] at h;cases h
  rw [BQ] at h
  refine .seq ?_;refine .sr ?_;refine vk (Aa) ?_;refine vk (vfa A7) ?_;refine vk (Am B8) ?_;refine vk (Bk (Bs _) (Ey _) Ew) ?_;refine vk (vbi) ?_;refine rk [1,2,3,4,17] ?_
  by_cases hc:s8<((List.length a0.box:Nat):Int)
  ·replace h:=Ad hc h
   refine cnt (dT hc) ?_;refine .skip ?_
   show AW _ _ _ _ _ _
   refine .seq ?_;refine .block ?_;refine .drawn 9 A9 (by kernel_rfl) ?_;refine dv (EM A7) ?_;refine dv (QW (cs:=[.d (.i .u8 s9),.d (.b s10),.d (.sl (L s11)),.d (.sl (L s12)),.d (.i .i32 s13),.own 25 (Ars s14)]) rfl rfl B8) ?_;refine dv (vfa A7) ?_;refine dv (Am B8) ?_;refine dv (Aa) ?_
   obtain ⟨x15,hx15,h⟩:=bnd h
   obtain ⟨nx15,hnx15,hxx15⟩:=AI hx15
   refine dv (vix nx15 hnx15 (EV hxx15) rfl E0) ?_;refine dv (Ao Ar Ah) ?_
   obtain ⟨x16,hx16,h⟩:=bnd h
   refine dv (Af (orc_ref03_Copy _ _ hx16) Tryz.call75) ?_;refine dv ((Gv (Mn x16) (Kk [x16]) Lr).deep) ?_;refine dz ?_
   obtain ⟨x17,hx17,h⟩:=bnd h
   refine Ui SO hx17 rfl rfl Vn ?_ Ps Bs Lr
   refine RL.gk [1,2,3,4,17,20,22,23,24,25,26,27,28,29] ?_;refine vk (EM A7) ?_
   refine Ma (cs:=[.d (.i .u8 s9),.d (.b s10),.d (.sl (L s11)),.d (.sl (L s12)),.d (.i .i32 s13),.un]) (c:=.un) rfl rfl ?_ V8
   refine .nil ?_
   show AW _ _ _ _ _ _
   refine .gk [1,2,3,4] ?_;refine .region ?_;refine vk (Aa) ?_;refine vk (vbi) ?_;refine asd ?_;refine .nil ?_;refine AL.gk [1,2,3,4] ?_
   exact ih (k,(w64 (s8+1)),s9,s10,s11,s12,s13,x17) h (Nat.lt_succ_self _)
  replace h:=Ae hc h
  refine cnf (dF hc) ?_;refine .gk [2,3] ?_;refine .exit ?_
  exact jr (s9,s10,s11,s12,s13,s14) h
 rintro ⟨z2,z3,z4,z5,z6,z7⟩ h
 try dsimp only at h ⊢
 subst hK0
 show AW _ _ _ _ _ _
 refine .sr ?_;refine fz (p:=.c 0 5) ?_;refine vk (IT (cs:=[.d (.i .u8 z2),.d (.b z3),.d (.sl (L z4)),.d (.sl (L z5)),.d (.i .i32 z6),.d (.sl (Ars z7))]) (ds:=[.i .u8 z2,.b z3,.sl (L z4),.sl (L z5),.i .i32 z6,.sl (Ars z7)]) rfl AM Aw) ?_
 refine stn ?_ Aw (by decide)
 refine rk [2] ?_;refine .ret ?_
 cases h
 exact ⟨_,⟨.inr rfl,AM,Aw,(by decide:(0:Nat)<6)⟩,rfl⟩
def C3 (rc_ref03_Copy : Arr→Option (Arr)) (a0 : Arr) (K0 : (List Int)→(List Itm)→Option (Arr)) : Nat→Int→(List Int)→(List Itm)→Option (Arr)
 | 0,_,_,_=>none
 | k+1,s4,s5,s6=>(if s4<((List.length a0.items:Nat):Int) then ((rd? a0.items s4).bind fun x7=>((DW rc_ref03_Copy x7).bind fun x8=>((ap? 1466015503701 s6 [x8]).bind fun x9=>(C3 rc_ref03_Copy a0 K0 k (w64 (s4+1)) s5 x9)))) else (K0 s5 s6))
def Gn (rc_ref03_Copy : Arr→Option (Arr)) (a0 : Arr) : Option (Arr):=((ap? 17592186044416 [] a0.shape).bind fun x1=>(jn (fun (z2 : (List Int)) (z3 : (List Itm))=>(some ((Arr.mk z2 z3)))) fun K0=>(C3 rc_ref03_Copy a0 K0 Bi 0 x1 [])))
theorem NV {rc_ref03_Copy : Arr→Option (Arr)} (orc_ref03_Copy : ∀ x0 r,rc_ref03_Copy x0=some r→Fn Tryz.prog 75 [.ag [.sl (Is x0.shape),.sl (Its x0.items)]] (.d (.ag [.sl (Is r.shape),.sl (Its r.items)]))) {a0 : Arr} {r : Arr} (h : Gn rc_ref03_Copy a0=some r) :
  Fn Tryz.prog 75 [.ag [.sl (Is a0.shape),.sl (Its a0.items)]] (.d (.ag [.sl (Is r.shape),.sl (Its r.items)])):=by
 unfold Gn at h
 refine Fn.ofC (rs:=[.cell 2 25]) (nt:=30) Tryz.func75 rfl rfl rfl (by simp) rfl ?_;refine .sr ?_;refine vk (vbx) ?_;refine vk (van (Ag A4) Bh) ?_;refine rk [1,2] ?_;refine .sr ?_
 refine al ?_ (Ag A4) (fun w I μ=>Mz w I μ)
 refine rk [1,2,3] ?_;refine .sr ?_;refine vk (EM AY) ?_
 refine ldb (cs:=[.nl,.nl]) (c:=.nl) rfl rfl ?_ CG
 refine vk (vfa AY) ?_;refine vk (Am CG) ?_
 obtain ⟨x1,hx1,h⟩:=bnd h
 refine YE hx1 Wm ?_ Pa A5 Jz
 refine vk (EM AY) ?_
 refine Ma (cs:=[.nl,.nl]) (c:=.nl) rfl rfl ?_ Y4
 refine rk [1,2,3] ?_;refine .seq ?_;refine .sr ?_;refine ar [1,2,3,4] ?_
 obtain ⟨K0,hK0,h⟩:=BS h
 refine AW.mr (σ:=(List Int) × (List Itm)) (fun p=>K0 p.1 p.2=some r) (fun p=>[(2,.nb [.sl (Is []),.sl (Its [])]),(3,.bp 0 0)]) (fun p=>[HO.box [.own 3 (Is p.1),.own 83 (Its p.2)]]) ?_ ?_
 ·skip
  refine .block ?_;refine .gh (Gh.nlOwnC (id:=0) (off:=1) 83 (by rw [Pj];decide)) ?_
  refine .loop (.gk [1,2,3,4] ?_)
  refine AL.ind (σ:=Nat × Int × (List Int) × (List Itm)) (m:=fun p=>p.1) (e:=fun p=>[(1,.d (.ptr [.sl (Is a0.shape),.sl (Its a0.items)])),(2,.nb [.sl (Is []),.sl (Its [])]),(3,.bp 0 0),(4,.d (.i .i64 p.2.1))]) (h:=fun p=>[HO.box [.own 3 (Is p.2.2.1),.own 83 (Its p.2.2.2)]]) (I:=fun p=>C3 rc_ref03_Copy a0 K0 p.1 p.2.1 p.2.2.1 p.2.2.2=some r) ?_ (Bi,0,x1,[]) h
  rintro ⟨k,s4,s5,s6⟩ h ih
  dsimp only at h ih ⊢
  rcases k with _ | k
  ·rw [C3] at h;cases h
  rw [C3] at h
  refine .seq ?_;refine .sr ?_;refine vk (Aa) ?_;refine vk (vfa AH) ?_;refine vk (Am BD) ?_;refine vk (Bk (AE _) (Cr _) Ct) ?_;refine vk (vbi) ?_;refine rk [1,2,3,4,15] ?_
  by_cases hc:s4<((List.length a0.items:Nat):Int)
  ·replace h:=Ad hc h
   refine cnt (dT hc) ?_;refine .skip ?_
   show AW _ _ _ _ _ _
   refine .seq ?_;refine .block ?_;refine .drawn 9 A9 (by kernel_rfl) ?_;refine dv (EM AH) ?_;refine dv (QW (cs:=[.own 3 (Is s5),.own 83 (Its s6)]) rfl rfl BD) ?_;refine dv (vfa AH) ?_;refine dv (Am BD) ?_;refine dv (Aa) ?_
   obtain ⟨x7,hx7,h⟩:=bnd h
   obtain ⟨nx7,hnx7,hxx7⟩:=AI hx7
   refine dv (vix nx7 hnx7 (Dn hxx7) rfl Dj) ?_;refine dv (Ao AM Aw) ?_
   obtain ⟨x8,hx8,h⟩:=bnd h
   refine dv (Af (J9 orc_ref03_Copy hx8) Tryz.call160) ?_;refine dv ((Gv (F4 x8) (EZ [x8]) EQ).deep) ?_;refine dz ?_
   obtain ⟨x9,hx9,h⟩:=bnd h
   refine Ui Kj hx9 rfl rfl Nj ?_ I7 AE EQ
   refine RL.gk [1,2,3,4,15,18,20,21,22,23,24,25,26,27] ?_;refine vk (EM AH) ?_
   refine Ma (cs:=[.own 3 (Is s5),.un]) (c:=.un) rfl rfl ?_ Lp
   refine .nil ?_
   show AW _ _ _ _ _ _
   refine .gk [1,2,3,4] ?_;refine .region ?_;refine vk (Aa) ?_;refine vk (vbi) ?_;refine asd ?_;refine .nil ?_;refine AL.gk [1,2,3,4] ?_
   exact ih (k,(w64 (s4+1)),s5,x9) h (Nat.lt_succ_self _)
  replace h:=Ae hc h
  refine cnf (dF hc) ?_;refine .gk [2,3] ?_;refine .exit ?_
  exact jr (s5,s6) h
 rintro ⟨z2,z3⟩ h
 try dsimp only at h ⊢
 subst hK0
 show AW _ _ _ _ _ _
 refine .sr ?_;refine fz (p:=.c 0 0) ?_;refine fz (p:=.c 0 1) ?_;refine vk (IT (cs:=[.d (.sl (Is z2)),.d (.sl (Its z3))]) (ds:=[.sl (Is z2),.sl (Its z3)]) rfl Ar Ah) ?_
 refine stn ?_ Ah (by decide)
 refine rk [2] ?_;refine .ret ?_
 cases h
 exact ⟨_,⟨.inr rfl,Ar,Ah,(by decide:(0:Nat)<2)⟩,rfl⟩
def DM : Nat→Arr→Option (Arr)
 | 0,_=>none
 | k+1,a0=>Gn (DM k) a0
theorem IL : ∀ (k : Nat) (a0 : Arr) (r : Arr),DM k a0=some r→Fn Tryz.prog 75 [.ag [.sl (Is a0.shape),.sl (Its a0.items)]] (.d (.ag [.sl (Is r.shape),.sl (Its r.items)]))
 | 0,_,_,h=>by cases h
 | k+1,a0,_,h=>NV (IL k)  (show Gn (DM k) a0=some _ from h)
def Lh (a0 : Arr) : Option (Arr):=DM (a0.size+1) a0
theorem Pn {a0 : Arr} {r : Arr} (h : Lh a0=some r) : Fn Tryz.prog 75 [.ag [.sl (Is a0.shape),.sl (Its a0.items)]] (.d (.ag [.sl (Is r.shape),.sl (Its r.items)])):=IL _ a0 r  h
def Fz (a0 : Arr) : Option ((List Itm)):=((Eu a0.shape).bind fun x1=>(Option.bind ((if x1.2=0 then (if x1.1=0 then (some true) else ((Fx a0).bind fun x3=>(some (!x3)))) else (some true)) : Option (Bool)) fun (z2 : Bool)=>(if z2=true then (some ([])) else ((Lh a0).bind fun x4=>(some (x4.items))))))
theorem M0 {a0 : Arr} {r : (List Itm)} (h : Fz a0=some r) :
  Fn Tryz.prog 27 [.ag [.sl (Is a0.shape),.sl (Its a0.items)]] (.d (.sl (Its r))):=by
 unfold Fz at h
 refine Fn.o1 2 25 Tryz.func27 ?_;refine .sr ?_;refine vk (vbx) ?_;refine asn ?_;refine rk [1,2] ?_;refine .sr ?_;refine vk (vfa AY) ?_;refine vk (Am CG) ?_
 obtain ⟨x1,hx1,h⟩:=bnd h
 refine vk (VOK.tupd (vs:=[.i .i64 x1.1,.i .i64 x1.2]) (Af (Jt hx1) Tryz.call73)) ?_;refine vk (Aa) ?_;refine vk (vex) ?_;refine vk (vex) ?_;refine asd ?_;refine ar [1,2,3,4] ?_;refine .seq ?_;refine .seq ?_
 obtain ⟨z2,hz,h⟩:=bnd h
 refine AW.mr (σ:=Unit) (fun _=>True) (fun _=>[(1,.d (.ptr [.sl (Is a0.shape),.sl (Its a0.items)])),(2,.nl),(21,.d (.b z2))]) (fun _=>[]) ?_ ?_
 ·skip
  refine .region ?_;refine vk (Aa) ?_;refine vk (vbi) ?_
  by_cases hc:x1.2=0
  ·replace hz:=Ad hc hz
   have hb0:(!(decide (x1.2=0)))=false:=(ntf (dT hc))
   refine vk (VOK.lit (Aa) hb0) ?_;refine vk (Aa) ?_;refine vk (vbi) ?_;refine vk (Ai) ?_
   by_cases hc:x1.1=0
   ·replace hz:=Ad hc hz
    have hb1:(decide (x1.1=0))=true:=(dT hc)
    refine vk (VOK.lit (Aa) hb1) ?_;refine gf ?_;refine gf ?_;refine gf ?_;refine vk (Ai) ?_;refine RL.gk [1,2,21] ?_;refine .nil ?_
    cases hz
    exact jr () trivial
   replace hz:=Ae hc hz
   have hb1:(decide (x1.1=0))=false:=(dF hc)
   refine vk (VOK.lit (Aa) hb1) ?_;refine vk (Ao Ar Ah) ?_
   obtain ⟨x3,hx3,hz⟩:=bnd hz
   refine vk (Af (MJ hx3) Tryz.call74) ?_;refine vk (vnt) ?_;refine vk (Ai) ?_;refine RL.gk [1,2,21] ?_;refine .nil ?_
   cases hz
   exact jr () trivial
  replace hz:=Ae hc hz
  have hb0:(!(decide (x1.2=0)))=true:=(ntt (dF hc))
  refine vk (VOK.lit (Aa) hb0) ?_;refine gf ?_;refine gf ?_;refine vk (Ai) ?_;refine vk (Aa) ?_;refine gf ?_;refine gf ?_;refine gf ?_;refine vk (Ai) ?_;refine RL.gk [1,2,21] ?_;refine .nil ?_
  cases hz
  exact jr () trivial
 rintro _ _
 by_cases hc:z2=true
 ·replace h:=Ad hc h
  refine cnt hc ?_;refine .sr ?_;refine asn ?_;refine rk [1,2] ?_;refine .gh (Gh.nlD (t:=2) rfl) ?_;refine .ret ?_
  cases h
  exact ⟨rfl,rfl⟩
 replace h:=Ae hc h
 refine cnf (bf hc) ?_;refine .skip ?_
 show AW _ _ _ _ _ _
 refine .sr ?_;refine vk (Ao Ar Ah) ?_
 obtain ⟨x4,hx4,h⟩:=bnd h
 refine vk (Af (Pn hx4) Tryz.call75) ?_;refine vk (Zf AH Vt) ?_;refine ar [2] ?_;refine .ret ?_
 cases h
 exact ⟨rfl,rfl⟩
theorem OD {s : List Int} (hl : s.length≤8) (K : Int→Int→Bool→Bool→Option (Int × Int)) (u v : Int) : ∀ (n i k : Nat) (b g : Bool),n=s.length - i→i≤s.length→n<k →
  Cv s K k u v b g (i:Int)=if (s.drop i).any (fun n=>decide (n<0)) then some (0,3) else K u v (b || decide (0 ∈ s.drop i)) (g || (s.drop i).any (fun n=>decide (4096<n)))
 | _,_,0,_,_,_,_,h=>by omega
 | n,i,k+1,b,g,hn,hi,hk=>by
  rw [Cv]
  by_cases hlt:i<s.length
  ·rw [if_pos (by omega),Ck hlt,oB,List.drop_eq_getElem_cons hlt,List.any_cons]
   by_cases h0:s[i]<0
   ·rw [if_pos h0,if_pos (by simp [h0])]
   ·have e:(Option.bind (if b=true then some true else (rd? s (i:Int)).bind fun x12=>some (decide (x12=0))):(Bool→Option (Int × Int))→_)=fun f=>f (b || decide (s[i]=0)):=by
     funext f
     cases b
     ·rw [if_neg (by decide),Ck hlt];rfl
     ·rw [if_pos rfl];rfl
    rw [if_neg h0,Ck hlt] at *
    rw [oB] at e
    rw [oB,e]
    have ih:=fun b g=>OD hl K u v (n - 1) (i+1) k b g (by omega) (by omega) (by omega)
    rw [Cf (by omega)]
    have hm:decide (0 ∈ s[i]::s.drop (i+1))=(decide (s[i]=0) || decide (0 ∈ s.drop (i+1))):=by
     rw [Bool.eq_iff_iff];simp only [List.mem_cons,Bool.or_eq_true,decide_eq_true_eq]
     exact ⟨fun h=>h.imp Eq.symm id,fun h=>h.imp Eq.symm id⟩
    rw [hm,List.any_cons,dF h0,Bool.false_or]
    dsimp only
    cases g
    ·rw [if_neg (by decide),oB,ih,Bool.or_assoc,Bool.false_or]
    ·rw [if_pos (rfl:true=true),ih,Bool.or_assoc,Bool.true_or,Bool.true_or]
  ·rw [if_neg (by omega),List.drop_of_length_le (by omega)]
   simp
theorem Om {s : List Int} (hl : s.length≤8) (hp : ∀ x ∈ s,1≤x∧x≤4096) (K : Int→Int→Int→Option (Int × Int)) : ∀ (n i k : Nat) (a b m : Int),n=s.length - i→i≤s.length→n<k→1≤m→m≤4096 →
  C1 s K k a b m (i:Int)=if m * Ed (s.drop i)≤4096 then K a b (m * Ed (s.drop i)) else some (0,8)
 | n,i,0,a,b,m,_,_,h,_,_=>by omega
 | n,i,k+1,a,b,m,hn,hi,hk,h1,h2=>by
  rw [C1]
  by_cases hlt:i<s.length
  ·rw [if_pos (by omega),Ck hlt,oB,List.drop_eq_getElem_cons hlt]
   have hx:=hp s[i] (List.getElem_mem _)
   have hpos:1≤Ed (s.drop (i+1)):=KS fun x hx=>(hp x (List.mem_of_mem_drop hx)).1
   have hprod:Ed (s[i]::s.drop (i+1))=s[i] * Ed (s.drop (i+1)):=by unfold Ed;rw [List.foldl_cons,KX,Int.one_mul]
   have hup:m * s[i]≤4096 * 4096:=Int.le_trans (Int.mul_le_mul_of_nonneg_right h2 (by omega)) (Int.mul_le_mul_of_nonneg_left hx.2 (by omega))
   have hm1:1≤m * s[i]:=Int.le_trans (by omega:(1:Int)≤1 * 1) (Int.mul_le_mul h1 hx.1 (by omega) (by omega))
   rw [hprod,← Int.mul_assoc,Fb (by omega) (by omega)]
   by_cases hc:4096<m * s[i]
   ·rw [if_pos hc,if_neg]
    have:m * s[i] * 1≤m * s[i] * Ed (s.drop (i+1)):=Int.mul_le_mul_of_nonneg_left hpos (by omega)
    omega
   ·rw [if_neg hc,oB,Cf (by omega),Fb (by omega) (by omega)]
    exact Om hl hp K (n - 1) (i+1) k a b (m * s[i]) (by omega) (by omega) (by omega) hm1 (by omega)
  ·rw [if_neg (by omega),List.drop_of_length_le (by omega)]
   rw [show Ed []=1 from rfl,Int.mul_one,if_pos h2]
theorem Ob (s : List Int) : Eu s=some (szP s):=by
 unfold Eu szP
 by_cases h8:8<s.length
 ·rw [if_pos (by omega),if_pos h8]
 rw [if_neg (by omega),if_neg h8,Eh]
 have e1:=fun K=>OD (s:=s) (by omega) K 0 0 s.length 0 Bi false false rfl (Nat.zero_le _) (Ce (by omega))
 simp only [List.drop_zero,Bool.false_or] at e1
 rw [show ((0:Nat):Int)=0 from rfl] at e1
 rw [e1]
 by_cases h0:s.any (fun n=>decide (n<0))=true
 ·rw [if_pos h0,if_pos h0]
 rw [if_neg h0,if_neg h0]
 by_cases h1:s.any (fun n=>decide (4096<n))=true
 ·rw [if_pos h1,if_pos h1]
 rw [if_neg h1,if_neg h1]
 by_cases h2:0 ∈ s
 ·rw [if_pos (dT h2),if_pos h2]
 rw [if_neg (by simp [h2]),if_neg h2,Eh]
 have hp:∀ x ∈ s,1≤x∧x≤4096:=fun x hx=>by
  simp only [List.any_eq_true,decide_eq_true_eq,not_exists,not_and] at h0 h1
  have a:=h0 x hx
  have b:=h1 x hx
  have c:x ≠ 0:=fun e=>h2 (e ▸ hx)
  omega
 have:=Om (by omega) hp (fun z4 z5 z6=>some (z6,0)) s.length 0 Bi 0 0 1 rfl (Nat.zero_le _) (Ce (by omega)) (by omega) (by omega)
 rw [List.drop_zero,Int.one_mul,show ((0:Nat):Int)=0 from rfl] at this
 rw [this]
 split <;> rfl
theorem MQ (x : Itm) : DQ x=some (Di x):=by
 unfold DQ Di
 simp
theorem LH (a : Arr) : CL a=some (AJ a):=by
 unfold CL AJ
 by_cases h:a.shape=[]
 ·rw [if_pos (by rw [h];rfl),h]
  match hi:a.items with
  | []=>rfl
  | [x]=>simp [rd?]
  | x::y::r =>
   rw [if_neg (by simp only [List.length_cons];omega)]
   rfl
 ·rw [if_neg]
  ·have:a.shape.isEmpty=false:=by simpa using h
   rw [this];rfl
  ·intro q
   exact h (List.length_eq_zero_iff.1 (by omega))
def Th (f : Int→Int→Option (Bool × Int × Int)) (r : Bool) (n dp : Nat) : Prop:=∀ (deep : Nat) (most : Int),deep≤17→-16384≤most→most≤16384 →
 ∃ b d c,f (deep:Int) most=some (b,d,c)∧(b=true→r=true∧d=(dp:Int)∧c=(n:Int)∧(n:Int)≤most∧deep+dp≤17)∧(r=true→deep+dp≤17→deep≤16→(n:Int)≤most→b=true)
theorem LI {rc : Arr→Int→Int→Option (Bool × Int × Int)} {a : Arr} {deep : Nat} {most : Int} (hd : deep≤16) (hm1 : most≤16384) (ho : ∀ x ∈ a.items,okI x) (hlen : a.items.length≤4096) (hrc : ∀ x ∈ a.items,∀ b ∈ x.box,Th (rc b) (rA b) (cA b) (dA b))
  (hns:∀ x ∈ a.items,∀ b ∈ x.box,AJ b=false→1≤dA b) (K:Bool→Int→Int→Int→Int→Option (Bool × Int × Int)) (u:Bool) (v w:Int):∀ (n i k:Nat) (D C:Nat),n=a.items.length - i→i≤a.items.length→n<k→(C:Int)≤most→D≤17 →
  (AP rc a (deep:Int) most K k u v w (D:Int) (C:Int) (i:Int)=some (false,0,0)∧¬ (rIs (a.items.drop i)=true∧(dIs (a.items.drop i)=0∨deep+1+dIs (a.items.drop i)≤17)∧((C+cIs (a.items.drop i):Nat):Int)≤most)) ∨
  (AP rc a (deep:Int) most K k u v w (D:Int) (C:Int) (i:Int)=K u v w ((max D (dIs (a.items.drop i)):Nat):Int) ((C+cIs (a.items.drop i):Nat):Int)∧rIs (a.items.drop i)=true∧((C+cIs (a.items.drop i):Nat):Int)≤most∧(dIs (a.items.drop i)=0∨deep+1+dIs (a.items.drop i)≤17))
 | _,_,0,_,_,_,_,h,_,_=>by omega
 | n,i,k+1,D,C,hn,hi,hk,hC,hD=>by
  rw [AP]
  by_cases hlt:i<a.items.length
  rotate_left
  ·rw [if_neg (by omega),List.drop_of_length_le (by omega)]
   refine .inr ⟨?_,rfl,by simpa [cIs] using hC,.inl rfl⟩
   simp [dIs,cIs]
  have ih:=fun D C=>LI hd hm1 ho hlen hrc hns K u v w (n - 1) (i+1) k D C (by omega) (by omega) (by omega)
  have hmem:=List.getElem_mem hlt
  have hox:=(Dp _).1 (ho _ hmem)
  have hrb:=hrc _ hmem
  have hnb:=hns _ hmem
  rw [if_pos (by omega),Ck hlt,List.drop_eq_getElem_cons hlt,Eh,oB,Cf (by omega)]
  simp only [rIs,dIs,cIs]
  generalize a.items[i]=x at *
  generalize a.items.drop (i+1)=xs at *
  have e0:(((x.box.length:Nat):Int)=0)↔x.box.length=0:=by omega
  have e1:(((x.box.length:Nat):Int)=1)↔x.box.length=1:=by omega
  -- an item without a box that is right
  have plain:rI x=true→x.box=[] →
    (AP rc a (deep:Int) most K k u v w (D:Int) (C:Int) ((i+1:Nat):Int)=some (false,0,0)∧¬ ((rI x && rIs xs)=true∧(max (dI x) (dIs xs)=0∨deep+1+max (dI x) (dIs xs)≤17)∧((C+(cI x+cIs xs):Nat):Int)≤most)) ∨
    (AP rc a (deep:Int) most K k u v w (D:Int) (C:Int) ((i+1:Nat):Int)=K u v w ((max D (max (dI x) (dIs xs)):Nat):Int) ((C+(cI x+cIs xs):Nat):Int)∧(rI x && rIs xs)=true∧((C+(cI x+cIs xs):Nat):Int)≤most∧(max (dI x) (dIs xs)=0∨deep+1+max (dI x) (dIs xs)≤17)):=by
   intro hr hb
   have hd0:dI x=0:=by rw [LR,hb];simp [dBs]
   have hc0:cI x=0:=by rw [KC,hb];simp [cBs]
   rw [hr,hd0,hc0,Bool.true_and,Nat.zero_add,Nat.zero_max]
   exact ih D C hC hD
  have bad:rI x=false→(some (false,(0:Int),(0:Int))=some (false,(0:Int),(0:Int))∧¬ ((rI x && rIs xs)=true∧(max (dI x) (dIs xs)=0∨deep+1+max (dI x) (dIs xs)≤17)∧((C+(cI x+cIs xs):Nat):Int)≤most)) ∨
    (some (false,(0:Int),(0:Int))=K u v w ((max D (max (dI x) (dIs xs)):Nat):Int) ((C+(cI x+cIs xs):Nat):Int)∧(rI x && rIs xs)=true∧((C+(cI x+cIs xs):Nat):Int)≤most∧(max (dI x) (dIs xs)=0∨deep+1+max (dI x) (dIs xs)≤17)):=fun hr=>.inl ⟨rfl,by rw [hr];simp⟩
  by_cases k1:x.kind=1
  ·have hrI:rI x=(A8 x.num && (decide (x.char=0) && decide (x.box.length=0))):=by rw [NC,if_pos k1]
   have c1:∀ f:Bool→Option (Bool × Int × Int),Option.bind (if x.kind=1 then (Ji x.num).bind fun x18=>if x18=true then if x.char=0 then some (decide (((List.length x.box:Nat):Int)=0)) else some false else some false else some false) f=f (rI x):=by
    intro f
    rw [if_pos k1,Pe hox.2.1,oB,hrI]
    cases A8 x.num
    ·rfl
    ·by_cases hc:x.char=0
     ·rw [if_pos rfl,if_pos hc,oB,dT hc,decide_eq_decide.2 e0];rfl
     ·rw [if_pos rfl,if_neg hc,dF hc];rfl
   rw [c1]
   by_cases hr:rI x=true
   ·rw [if_pos hr]
    refine plain hr ?_
    rw [hrI] at hr
    simp only [Bool.and_eq_true,decide_eq_true_eq] at hr
    exact List.length_eq_zero_iff.1 hr.2.2
   ·rw [if_neg hr,if_neg (by omega),oB,if_neg (by decide),if_neg (by omega),oB,if_neg (by decide)]
    exact bad (by simpa using hr)
  rw [if_neg k1,oB,if_neg (by decide)]
  by_cases k2:x.kind=2
  ·have hrI:rI x=(chB x.char && (Di x && decide (x.box.length=0))):=by rw [NC,if_neg k1,if_pos k2]
   have c1:∀ f:Bool→Option (Bool × Int × Int),Option.bind (if x.kind=2 then (EX x.char).bind fun x20=>if x20=true then (DQ x).bind fun x21=>if x21=true then some (decide (((List.length x.box:Nat):Int)=0)) else some false else some false else some false) f=f (rI x):=by
    intro f
    rw [if_pos k2,show EX x.char=some (chB x.char) from rfl,oB,hrI]
    cases chB x.char
    ·rfl
    ·rw [if_pos rfl,MQ,oB]
     cases Di x
     ·rfl
     ·rw [if_pos rfl,oB,decide_eq_decide.2 e0];rfl
   rw [c1]
   by_cases hr:rI x=true
   ·rw [if_pos hr]
    refine plain hr ?_
    rw [hrI] at hr
    simp only [Bool.and_eq_true,decide_eq_true_eq] at hr
    exact List.length_eq_zero_iff.1 hr.2.2
   ·rw [if_neg hr,if_neg (by omega),oB,if_neg (by decide)]
    exact bad (by simpa using hr)
  rw [if_neg k2,oB,if_neg (by decide)]
  by_cases k3:x.kind=3
  rotate_left
  ·rw [if_neg k3,oB,if_neg (by decide)]
   exact bad (by rw [NC,if_neg k1,if_neg k2,if_neg k3])
  have hrI:rI x=(decide (x.box.length=1) && (Di x && (decide (x.char=0) && rBs x.box))):=by rw [NC,if_neg k1,if_neg k2,if_pos k3]
  rw [if_pos k3]
  by_cases h1:x.box.length=1
  rotate_left
  ·rw [if_neg (by omega),oB,if_neg (by decide)]
   exact bad (by rw [hrI,dF h1];rfl)
  obtain ⟨b,hb⟩:=List.length_eq_one_iff.1 h1
  rw [if_pos (by omega),MQ,oB]
  by_cases h2:Di x=true
  rotate_left
  ·rw [if_neg h2,oB,if_neg (by decide)]
   exact bad (by rw [hrI,Bool.eq_false_iff.2 h2];simp)
  rw [if_pos h2]
  by_cases h3:x.char=0
  rotate_left
  ·rw [if_neg h3,oB,if_neg (by decide)]
   exact bad (by rw [hrI,dF h3];simp)
  rw [if_pos h3,hb,MZ,oB,LH,oB,oB]
  have hrI':rI x=(!AJ b && rA b):=by rw [hrI,dT h1,h2,dT h3,hb];simp [rBs]
  by_cases h4:AJ b=true
  ·rw [if_neg (by rw [h4];decide)]
   exact bad (by rw [hrI',h4];rfl)
  have h4':AJ b=false:=by simpa using h4
  rw [if_pos (by rw [h4'];rfl),oB,Fb (by omega) (by omega),Fb (by omega) (by omega)]
  have hbm:b ∈ x.box:=by simp [hb]
  have hdI:dI x=dA b:=by rw [LR,hb];simp [dBs]
  have hcI:cI x=cA b:=by rw [KC,hb];simp [cBs]
  have hd1:=hnb b hbm h4'
  obtain ⟨bb,d,c,hf,p1,p2⟩:=hrb b hbm (deep+1) (most - (C:Int)) (by omega) (by omega) (by omega)
  rw [show ((deep:Int)+1)=((deep+1:Nat):Int) by omega,hf,oB]
  rw [hdI,hcI,hrI',h4']
  simp only [Bool.not_false,Bool.true_and]
  by_cases hbb:bb=true
  ·obtain ⟨q1,q2,q3,q4,q5⟩:=p1 hbb
   subst q2 q3
   rw [if_pos hbb,Eh,Fb (by omega) (by omega),q1,Bool.true_and]
   have hmax:(if (D:Int)<(dA b:Int) then (AP rc a (deep:Int) most K k u v w (dA b:Int) ((C:Int)+(cA b:Int)) ((i+1:Nat):Int)) else (AP rc a (deep:Int) most K k u v w (D:Int) ((C:Int)+(cA b:Int)) ((i+1:Nat):Int)))=AP rc a (deep:Int) most K k u v w ((max D (dA b):Nat):Int) ((C+cA b:Nat):Int) ((i+1:Nat):Int):=by
    split
    ·rw [show max D (dA b)=dA b by omega];rfl
    ·rw [show max D (dA b)=D by omega];rfl
   rw [hmax]
   rcases ih (max D (dA b)) (C+cA b) (by omega) (by omega) with ⟨g1,g2⟩ | ⟨g1,g2,g3,g4⟩
   ·refine .inl ⟨g1,fun ⟨w1,w2,w3⟩=>g2 ⟨w1,?_,by omega⟩⟩
    rcases w2 with w2 | w2
    ·omega
    ·exact .inr (by omega)
   ·refine .inr ⟨?_,g2,by omega,.inr (by omega)⟩
    rw [g1,Nat.max_assoc,Nat.add_assoc]
  ·rw [if_neg hbb]
   refine .inl ⟨rfl,fun ⟨w1,w2,w3⟩=>hbb (p2 ?_ ?_ ?_ ?_)⟩
   ·simp only [Bool.and_eq_true] at w1;exact w1.1
   ·rcases w2 with w2 | w2 <;> omega
   ·rcases w2 with w2 | w2 <;> omega
   ·omega
theorem VT {a : Arr} (h : AJ a=false) : 1≤dA a:=by rw [Nu,if_neg (by rw [h];decide)];omega
def Tb (rc : Arr→Int→Int→Option (Bool × Int × Int)) (a0 : Arr) (a1 a2 z2 : Int) : Option (Bool × Int × Int):=(if ((!(decide (((List.length a0.items : Nat) : Int)=z2))) || (decide (a2<z2)))=true then (some (false,0,0)) else (jn (fun (_ : Bool) (_ : Int) (_ : Int) (z6 : Int) (z7 : Int)=>((CL a0).bind fun x29=>(jn (fun (z30 : Int)=>(some ((decide (z7≤a2)),z30,z7))) fun K5=>(if x29=true then (K5 z6) else (K5 (w64 (z6+1))))))) fun K1=>(AP rc a0 a1 a2 K1 Bi false 0 0 0 z2 0)))
theorem YS (rc : Arr→Int→Int→Option (Bool × Int × Int)) (a0 : Arr) (a1 a2 : Int) : C2 rc a0 a1 a2=(Eu a0.shape).bind fun x1=>if (!decide (x1.2=0) || decide (16<a1))=true then some (false,0,0) else Tb rc a0 a1 a2 (if x1.1=0 then 1 else x1.1):=by
 unfold C2
 congr 1
 funext x1
 by_cases h:(!decide (x1.2=0) || decide (16<a1))=true
 ·rw [if_pos h,if_pos h]
 ·rw [if_neg h,if_neg h,Eh]
  by_cases q:x1.1=0
  ·rw [if_pos q,if_pos q];rfl
  ·rw [if_neg q,if_neg q];rfl
theorem R5 {rc : Arr→Int→Int→Option (Bool × Int × Int)} {a : Arr} (oa : okAr a) (hrc : ∀ x ∈ a.items,∀ b ∈ x.box,Th (rc b) (rA b) (cA b) (dA b)) : Th (C2 rc a) (rA a) (cA a) (dA a):=by
 intro deep most h1 h2 h3
 have o:=(Bo a).1 oa
 have hz:=HN a.shape
 rw [YS,Ob,oB]
 have hrA:=LU a
 by_cases g1:(szP a.shape).2=0∧deep≤16
 rotate_left
 ·rw [if_pos]
  ·refine ⟨_,_,_,rfl,fun q=>absurd q (by decide),fun q1 q2 q3=>?_⟩
   rw [hrA] at q1
   simp only [Bool.and_eq_true,decide_eq_true_eq] at q1
   exact absurd ⟨q1.1,q3⟩ g1
  ·simp only [Bool.or_eq_true,Bool.not_eq_true',decide_eq_false_iff_not,decide_eq_true_eq]
   by_cases q:(szP a.shape).2=0
   ·exact .inr (by have:¬ deep≤16:=fun w=>g1 ⟨q,w⟩;omega)
   ·exact .inl q
 rw [if_neg (by
  simp only [Bool.or_eq_true,Bool.not_eq_true',decide_eq_false_iff_not,decide_eq_true_eq]
  rintro (q | q)
  ·exact q g1.1
  ·omega)]
 have hK:(if (szP a.shape).1=0 then 1 else (szP a.shape).1)=(if (szP a.shape).1<1 then 1 else (szP a.shape).1):=by
  by_cases q:(szP a.shape).1=0
  ·rw [if_pos q,if_pos (by omega)]
  ·rw [if_neg q,if_neg (by omega)]
 rw [hK]
 unfold Tb
 by_cases g2:(a.items.length:Int)=(if (szP a.shape).1<1 then 1 else (szP a.shape).1)
 rotate_left
 ·rw [if_pos (by simp [g2])]
  refine ⟨_,_,_,rfl,fun q=>absurd q (by decide),fun q1 q2 q3=>?_⟩
  rw [hrA] at q1
  simp only [Bool.and_eq_true,decide_eq_true_eq] at q1
  exact absurd q1.2.1 g2
 have hcA:=MS a
 have hdA:=Nu a
 have hlen:a.items.length≤4096:=by split at g2 <;> omega
 rw [← g2]
 by_cases g3:most<(a.items.length:Int)
 ·rw [if_pos (by simp [g3])]
  exact ⟨_,_,_,rfl,fun q=>absurd q (by decide),fun _ _ _ q=>by omega⟩
 rw [if_neg (by simpa using g3),Eh]
 have hrA':rA a=rIs a.items:=by rw [hrA,dT g1.1,dT g2];rfl
 have loop:=fun K=>LI (rc:=rc) (a:=a) (deep:=deep) (most:=most) g1.2 h3 o.2.2.2 hlen hrc (fun _ _ b _=>VT) K false 0 0 a.items.length 0 Bi 0 a.items.length rfl (Nat.zero_le _) (Ce (by omega)) (by omega) (by omega)
 simp only [List.drop_zero] at loop
 rw [show ((0:Nat):Int)=0 from rfl] at loop
 rcases loop _ with ⟨q1,q2⟩ | ⟨q1,q2,q3,q4⟩
 ·rw [q1]
  refine ⟨_,_,_,rfl,fun q=>absurd q (by decide),fun w1 w2 w3 w4=>?_⟩
  refine absurd ⟨hrA' ▸ w1,?_,by rw [← hcA];exact w4⟩ q2
  by_cases hs:AJ a=true
  ·exact .inl (Km hs (hrA' ▸ w1)).1
  ·rw [if_neg hs] at hdA;exact .inr (by omega)
 ·rw [q1,LH,oB,Eh,Nat.zero_max]
  have hdI:dIs a.items≤17:=by omega
  have hdone:(dA a:Int)=if AJ a=true then ((dIs a.items:Nat):Int) else w64 (((dIs a.items:Nat):Int)+1):=by
   by_cases hs:AJ a=true
   ·rw [if_pos hs,(Km hs q2).1,hdA,if_pos hs]
   ·rw [if_neg hs,hdA,if_neg hs,Fb (by omega) (by omega)];omega
  have hle:decide (((a.items.length+cIs a.items:Nat):Int)≤most)=true:=dT q3
  have hdp:deep+dA a≤17:=by
   rw [hdA]
   by_cases hs:AJ a=true
   ·rw [if_pos hs];omega
   ·rw [if_neg hs];omega
  refine ⟨true,(dA a:Int),(cA a:Int),?_,fun _=>⟨by rw [hrA',q2],rfl,rfl,by rw [hcA];exact q3,hdp⟩,fun _ _ _ _=>rfl⟩
  rw [hdone,hcA]
  by_cases hs:AJ a=true
  ·rw [if_pos hs,if_pos hs,hle]
  ·rw [if_neg hs,if_neg hs,hle]
theorem P4 : ∀ (k : Nat) {a : Arr},a.size<k→okAr a→Th (Dg k a) (rA a) (cA a) (dA a)
 | 0,_,h,_=>by omega
 | k+1,a,h,oa=>by
  have o:=(Bo a).1 oa
  have:=R5 (rc:=Dg k) oa fun x hx b hb=>P4 k (by have:=Fq hx;have:=Ee hb;omega) (((Dp x).1 (o.2.2.2 x hx)).2.2.2.2 b hb)
  exact this
theorem R9 {a : Arr} (oa : okAr a) : Fx a=some (decide (AT a)):=by
 obtain ⟨b,d,c,h1,h2,h3⟩:=P4 _ (Nat.lt_succ_self _) oa 0 16384 (by omega) (by omega) (by omega)
 unfold Fx H7
 rw [show ((0:Nat):Int)=0 from rfl] at h1
 rw [h1,oB]
 show some (b && decide (d≤16))=_
 congr 1
 by_cases hb:b=true
 ·obtain ⟨q1,q2,q3,q4,q5⟩:=h2 hb
  rw [hb,q2,Bool.true_and]
  refine decide_eq_decide.2 ⟨fun w=>⟨q1,by omega,by omega⟩,fun w=>?_⟩
  have:=w.2.1;omega
 ·have hb':b=false:=by simpa using hb
  rw [hb',Bool.false_and]
  refine (dF fun w=>hb (h3 w.1 ?_ (by omega) ?_)).symm
  ·have:=w.2.1;omega
  ·have:=w.2.2;omega
theorem Ri {a : RT} (ha : GH a=true) : Gl a=some a:=by
 obtain ⟨_,_,h1,h2⟩:=Hh.1 ha
 unfold Gl
 rw [Ie (by simp;omega),oB,Ie (by simp;omega)];rfl
theorem J4 {rc : Arr→Option Arr} {x : Itm} (hrc : ∀ a ∈ x.box,rc a=some a) (K : Int→Bool→List Nat→List Nat→Int→List Arr→Option Itm) (hl : x.box.length≤2932031007402) : ∀ (n i k : Nat) (s1 : Int) (s2 : Bool) (s3 s4 : List Nat) (s5 : Int) (t : List Arr),n=x.box.length - i→i≤x.box.length→n<k→t.length=i →
  BQ rc x K k (i:Int) s1 s2 s3 s4 s5 t=K s1 s2 s3 s4 s5 (t++x.box.drop i)
 | n,i,0,s1,s2,s3,s4,s5,t,_,_,h,_=>by omega
 | n,i,k+1,s1,s2,s3,s4,s5,t,hn,hi,hk,ht=>by
  rw [BQ]
  by_cases hlt:i<x.box.length
  ·rw [if_pos (by omega),Ck hlt,oB,hrc _ (List.getElem_mem hlt),oB,Ie (by simp;omega),oB,Cf (by omega),
    J4 hrc K hl (n - 1) (i+1) k s1 s2 s3 s4 s5 _ (by omega) (by omega) (by omega) (by simp [ht]),List.drop_eq_getElem_cons hlt,List.append_assoc]
   rfl
  ·rw [if_neg (by omega),List.drop_of_length_le (by omega)];simp
theorem WT {rc : Arr→Option Arr} {x : Itm} (ho : okI x) (hrc : ∀ a ∈ x.box,rc a=some a) : DW rc x=some x:=by
 have h1:=(Dp x).1 ho
 unfold DW
 rw [Ri h1.2.1,oB,Eh]
 have:=J4 hrc (fun z2 z3 z4 z5 z6 z7=>some (Itm.mk z2 (z3,z4,z5) z6 z7)) h1.2.2.2.1 x.box.length 0 Bi x.kind x.num.1 x.num.2.1 x.num.2.2 x.char [] rfl (Nat.zero_le _) (Ce (by omega)) rfl
 rw [List.drop_zero,show ((0:Nat):Int)=0 from rfl,List.nil_append] at this
 rw [this]
 exact congrArg some (Itm.eta x)
theorem LN {rc : Arr→Option Arr} {a : Arr} (ho : ∀ x ∈ a.items,okI x) (hrc : ∀ x ∈ a.items,∀ b ∈ x.box,rc b=some b) (K : List Int→List Itm→Option Arr) (hl : a.items.length≤1466015503701) : ∀ (n i k : Nat) (s : List Int) (t : List Itm),n=a.items.length - i→i≤a.items.length→n<k→t.length=i →
  C3 rc a K k (i:Int) s t=K s (t++a.items.drop i)
 | n,i,0,s,t,_,_,h,_=>by omega
 | n,i,k+1,s,t,hn,hi,hk,ht=>by
  rw [C3]
  by_cases hlt:i<a.items.length
  ·have hm:=List.getElem_mem hlt
   rw [if_pos (by omega),Ck hlt,oB,WT (ho _ hm) (hrc _ hm),oB,Ie (by simp;omega),oB,Cf (by omega),
    LN ho hrc K hl (n - 1) (i+1) k s _ (by omega) (by omega) (by omega) (by simp [ht]),List.drop_eq_getElem_cons hlt,List.append_assoc]
   rfl
  ·rw [if_neg (by omega),List.drop_of_length_le (by omega)];simp
theorem Qt : ∀ (k : Nat) {a : Arr},a.size<k→okAr a→DM k a=some a
 | 0,_,h,_=>by omega
 | k+1,a,h,oa=>by
  have o:=(Bo a).1 oa
  rw [DM,Gn,Ie (by simpa using o.2.1),oB,List.nil_append,Eh]
  have:=LN (rc:=DM k) o.2.2.2 (fun x hx b hb=>Qt k (by have:=Fq hx;have:=Ee hb;omega) (((Dp x).1 (o.2.2.2 x hx)).2.2.2.2 b hb)) (fun z2 z3=>some (Arr.mk z2 z3)) o.2.2.1 a.items.length 0 Bi a.shape [] rfl (Nat.zero_le _) (Ce (by omega)) rfl
  rw [List.drop_zero,show ((0:Nat):Int)=0 from rfl,List.nil_append] at this
  rw [this]
  exact congrArg some (Arr.eta a)
theorem Uh {a : Arr} (oa : okAr a) : Lh a=some a:=Qt _ (Nat.lt_succ_self _) oa
theorem Rr {a : Arr} (oa : okAr a) : Fz a=some (if (szP a.shape).1=0∨¬ AT a then [] else a.items):=by
 unfold Fz
 rw [Ob,oB]
 by_cases h2:(szP a.shape).2=0
 rotate_left
 ·rw [if_neg h2,oB,if_pos rfl,if_pos]
  exact .inr fun q=>h2 (Lo q.1).1
 rw [if_pos h2]
 by_cases h0:(szP a.shape).1=0
 ·rw [if_pos h0,if_pos (.inl h0)];rfl
 rw [if_neg h0,R9 oa,oB,oB]
 by_cases hr:AT a
 ·rw [dT hr,if_neg (by decide),if_neg (by rintro (q | q);exact h0 q;exact q hr),Uh oa];rfl
 ·rw [dF hr,if_pos (by decide),if_pos (.inr hr)]
end Go.FL
namespace Go.FL
open Go Go.RowKit Go.ChangeShapes Go.WideShapes Go.ChangeAt
section
variable {H : Type} {enc : TypeId × Value→H} {P : Program} {W W' : World}
end
end Go.FL
