/-
  Part 4 of the base of the proofs: a logic of our own over the calculus, the contracts of the functions
-/
import Derived.Test.YtbeekjoeaigngaaGreatTmC
set_option linter.unusedVariables false
namespace Go.FL
open Go Go.Proofs
def chB (c:Int) : Bool:=decide (0≤c)&&(decide (c≤1114111)&&(decide (c<55296)||decide (57343<c)))
theorem RF (c:Int) : EW c=some (chB c):=rfl
def AE (a:Arr) : Bool:=a.shape.isEmpty&&match a.items with
 | [x]=>decide (x.kind≠3)
 | _=>false
theorem G0 (a:Arr) : Cp a=some (AE a):=by
 unfold Cp AE
 cases hs:a.shape with
 | nil =>
  rw [if_pos (by simp)]
  match hi:a.items with
  | []=>rw [if_neg (by simp)];rfl
  | [x]=>rw [if_pos (by simp),LS];simp
  | x::y::r=>rw [if_neg (by simp;omega)];rfl
 | cons z zs=>rw [if_neg (by simp;omega)];rfl
mutual
def rI : Itm→Bool
 | .mk k n c b=>if k=1 then (Be n&&(decide (c=0)&&decide (b.length=0))) else if k=2 then (chB c&&(D2 (.mk k n c b)&&decide (b.length=0))) else if k=3 then (decide (b.length=1)&&(D2 (.mk k n c b)&&(decide (c=0)&&rBs b))) else false
def rA : Arr→Bool
 | .mk s i=>decide ((szP s).2=0)&&(decide ((i.length:Int)=if (szP s).1<1 then 1 else (szP s).1)&&rIs i)
def rIs : List Itm→Bool
 | []=>true
 | x::xs=>rI x&&rIs xs
def rBs : List Arr→Bool
 | []=>true
 | a::r=>(!AE a&&rA a)&&rBs r
end
mutual
def cI : Itm→Nat
 | .mk _ _ _ b=>cBs b
def cA : Arr→Nat
 | .mk _ i=>i.length+cIs i
def cIs : List Itm→Nat
 | []=>0
 | x::xs=>cI x+cIs xs
def cBs : List Arr→Nat
 | []=>0
 | a::r=>cA a+cBs r
end
mutual
def dI : Itm→Nat
 | .mk _ _ _ b=>dBs b
def dA : Arr→Nat
 | .mk s i=>if AE (.mk s i) then 0 else 1+dIs i
def dIs : List Itm→Nat
 | []=>0
 | x::xs=>max (dI x) (dIs xs)
def dBs : List Arr→Nat
 | []=>0
 | a::r=>max (dA a) (dBs r)
end
theorem SI (x:Itm) : rI x=if x.kind=1 then (Be x.num&&(decide (x.char=0)&&decide (x.box.length=0))) else if x.kind=2 then (chB x.char&&(D2 x&&decide (x.box.length=0))) else if x.kind=3 then (decide (x.box.length=1)&&(D2 x&&(decide (x.char=0)&&rBs x.box))) else false:=by
 cases x;simp only [rI];rfl
theorem GX (a:Arr) : rA a=(decide ((szP a.shape).2=0)&&(decide ((a.items.length:Int)=if (szP a.shape).1<1 then 1 else (szP a.shape).1)&&rIs a.items)):=by cases a;simp only [rA];rfl
theorem FY (a:Arr) : cA a=a.items.length+cIs a.items:=by cases a;simp only [cA];rfl
theorem J8 (x:Itm) : cI x=cBs x.box:=by cases x;simp only [cI];rfl
theorem GW (a:Arr) : dA a=if AE a then 0 else 1+dIs a.items:=by cases a;simp only [dA];rfl
theorem KE (x:Itm) : dI x=dBs x.box:=by cases x;simp only [dI];rfl
def up (d deep n:Nat) : Nat:=if n=0 then d else max d (deep+n)
theorem W5 (d deep n m:Nat) : up (up d deep n) deep m=up d deep (max n m):=by unfold up;split<;>split<;>split<;>omega
theorem W4 {d deep n:Nat} (h:d≤16) (h2:deep+n≤16) : up d deep n≤16:=by unfold up;split<;>omega
def Nc (f:Int→Int→Int→Option M3) (r:Bool) (n dp:Nat) : Prop:=∀ deep c d : Nat,deep≤16→c≤16384→d≤16 →
 (r=true→deep+dp≤16→c+n≤16384→f deep c d=some (true,((c+n:Nat):Int),((up d deep dp:Nat):Int))) ∧
 (¬(r=true∧deep+dp≤16∧c+n≤16384)→∃ z,f deep c d=some (false,z))
theorem KO (x:Itm) : D2 x=true↔x.num=(false,[],[]):=by
 unfold D2
 simp only [Bool.and_eq_true,Bool.not_eq_true',decide_eq_true_eq]
 constructor
 ·rintro ⟨h1,h2,h3⟩
  exact Prod.ext h1 (Prod.ext (List.length_eq_zero_iff.1 (by omega)) (List.length_eq_zero_iff.1 (by omega)))
 ·intro h;rw [h];simp
theorem MB {rc:Arr→Int→Int→Int→Option M3} {x:Itm} (hx:okI x) (hrc:∀ a∈x.box,Nc (rc a) (rA a) (cA a) (dA a)) : Nc (L0 rc x) (rI x) (cI x) (dI x):=by
 have ox:=(DA x).1 hx
 intro deep c d h1 h2 h3
 unfold L0
 rw [SI,J8,KE]
 have e0:(((x.box.length:Nat):Int)=0)↔x.box.length=0:=by omega
 have e1:(((x.box.length:Nat):Int)=1)↔x.box.length=1:=by omega
 by_cases k1:x.kind=1
 ·rw [if_pos k1,if_pos k1,J5 ox.2.1,oB]
  simp only [e0]
  by_cases hb:x.box.length=0
  ·have:x.box=[]:=List.length_eq_zero_iff.1 hb
   rw [this]
   simp only [cBs,dBs,List.length_nil,decide_true,Bool.and_true,Nat.add_zero]
   refine ⟨fun hr _ _=>by rw [hr];rfl,fun hn=>?_⟩
   have:(Be x.num&&decide (x.char=0))=false:=by
    cases hq:(Be x.num&&decide (x.char=0)) with
    | false=>rfl
    | true=>exact absurd ⟨hq,h1,h2⟩ hn
   rw [this];exact ⟨_,rfl⟩
  ·simp only [hb,decide_false,Bool.and_false]
   exact ⟨fun h=>by simp at h,fun _=>⟨_,rfl⟩⟩
 rw [if_neg k1,if_neg k1]
 by_cases k2:x.kind=2
 ·rw [if_pos k2,if_pos k2,RF,oB]
  simp only [e0]
  by_cases hb:x.box.length=0
  ·have:x.box=[]:=List.length_eq_zero_iff.1 hb
   rw [this]
   simp only [cBs,dBs,List.length_nil,decide_true,Bool.and_true,Nat.add_zero]
   refine ⟨fun hr _ _=>by rw [hr];rfl,fun hn=>?_⟩
   have:(chB x.char&&D2 x)=false:=by
    cases hq:(chB x.char&&D2 x) with
    | false=>rfl
    | true=>exact absurd ⟨hq,h1,h2⟩ hn
   rw [this];exact ⟨_,rfl⟩
  ·simp only [hb,decide_false,Bool.and_false]
   exact ⟨fun h=>by simp at h,fun _=>⟨_,rfl⟩⟩
 rw [if_neg k2,if_neg k2]
 by_cases k3:x.kind=3
 ·rw [if_pos k3,if_pos k3]
  simp only [e1]
  by_cases hb:x.box.length=1
  rotate_left
  ·rw [if_neg hb];simp only [hb,decide_false,Bool.false_and]
   exact ⟨fun h=>by simp at h,fun _=>⟨_,rfl⟩⟩
  rw [if_pos hb]
  by_cases hn:D2 x=true
  rotate_left
  ·rw [if_neg hn];simp only [hn,hb,decide_true,Bool.true_and,Bool.false_and]
   exact ⟨fun h=>by simp at h,fun _=>⟨_,rfl⟩⟩
  rw [if_pos hn]
  by_cases hc:x.char=0
  rotate_left
  ·rw [if_neg hc];simp only [hn,hb,hc,decide_true,decide_false,Bool.true_and,Bool.false_and]
   exact ⟨fun h=>by simp at h,fun _=>⟨_,rfl⟩⟩
  rw [if_pos hc]
  obtain ⟨a,ha⟩:∃ a,x.box=[a]:=List.length_eq_one_iff.1 hb
  have hm:=hrc a (by rw [ha];simp)
  rw [ha,LS,oB,G0,oB]
  simp only [hn,hc,decide_true,Bool.true_and,rBs,cBs,dBs,Bool.and_true,Nat.add_zero,Nat.max_zero,List.length_cons,List.length_nil]
  by_cases hs:AE a=true
  ·rw [if_pos hs];simp only [hs]
   exact ⟨fun h=>by simp at h,fun _=>⟨_,rfl⟩⟩
  rw [if_neg hs,oB]
  have hs':AE a=false:=by simpa using hs
  simp only [hs',Bool.not_false,Bool.true_and]
  obtain ⟨m1,m2⟩:=hm deep c d h1 h2 h3
  refine ⟨fun hr g1 g2=>by rw [m1 hr g1 g2];rfl,fun hn=>?_⟩
  obtain ⟨z,hz⟩:=m2 hn
  exact ⟨z,by rw [hz];rfl⟩
 ·rw [if_neg k3,if_neg k3]
  exact ⟨fun h=>by simp at h,fun _=>⟨_,rfl⟩⟩
theorem Lx {rc:Arr→Int→Int→Int→Option M3} : ∀ {xs:List Itm},(∀ x∈xs,Nc (L0 rc x) (rI x) (cI x) (dI x))→Nc (fun deep c d=>IU rc deep xs c d) (rIs xs) (cIs xs) (dIs xs)
 | [],_=>fun deep c d h1 h2 h3=>by
  simp only [IU,rIs,cIs,dIs]
  exact ⟨fun _ _ _=>rfl,fun h=>absurd ⟨trivial,h1,h2⟩ h⟩
 | x::xs,hx=>fun deep c d h1 h2 h3=>by
  obtain ⟨m1,m2⟩:=hx x (by simp) deep c d h1 h2 h3
  have ih:=Lx (xs:=xs) fun y hy=>hx y (by simp [hy])
  simp only [IU,rIs,cIs,dIs]
  by_cases hc:rI x=true∧deep+dI x≤16∧c+cI x≤16384
  ·obtain ⟨p1,p2,p3⟩:=hc
   rw [m1 p1 p2 p3,oB,if_pos rfl,p1,Bool.true_and]
   obtain ⟨n1,n2⟩:=ih deep (c+cI x) (up d deep (dI x)) h1 p3 (W4 h3 p2)
   refine ⟨fun hr g1 g2=>?_,fun hn=>n2 fun ⟨q1,q2,q3⟩=>hn ⟨q1,by omega,by omega⟩⟩
   have:=n1 hr (by omega) (by omega)
   rw [W5,Nat.add_assoc] at this
   exact this
  ·obtain ⟨z,hz⟩:=m2 hc
   rw [hz,oB,if_neg (by simp)]
   refine ⟨fun hr g1 g2=>absurd ⟨?_,by omega,by omega⟩ hc,fun _=>⟨_,rfl⟩⟩
   simp only [Bool.and_eq_true] at hr;exact hr.1
theorem Lh {a:Arr} (hs:AE a=true) (hr:rIs a.items=true) : dIs a.items=0∧cIs a.items=0:=by
 unfold AE at hs
 rw [Bool.and_eq_true] at hs
 match hi:a.items,hs.2 with
 | [x],h2 =>
  rw [hi] at hr
  simp only [rIs,Bool.and_true] at hr
  rw [SI] at hr
  have h3:x.kind≠3:=by simpa using h2
  have hb:x.box=[]:=by
   by_cases k1:x.kind=1
   ·rw [if_pos k1] at hr;simp only [Bool.and_eq_true,decide_eq_true_eq] at hr;exact List.length_eq_zero_iff.1 hr.2.2
   rw [if_neg k1] at hr
   by_cases k2:x.kind=2
   ·rw [if_pos k2] at hr;simp only [Bool.and_eq_true,decide_eq_true_eq] at hr;exact List.length_eq_zero_iff.1 hr.2.2
   rw [if_neg k2,if_neg h3] at hr;cases hr
  simp [dIs,cIs,KE,J8,hb,dBs,cBs]
theorem SD {rc:Arr→Int→Int→Int→Option M3} {a:Arr} (ha:okAr a) (hx:∀ x∈a.items,Nc (L0 rc x) (rI x) (cI x) (dI x)) : Nc (SL rc a) (rA a) (cA a) (dA a):=by
 have oa:=(AM a).1 ha
 intro deep c d h1 h2 h3
 have hl:=Et a.shape
 unfold SL
 rw [GF oa.2.1,oB,GX,FY,GW]
 by_cases e1:(szP a.shape).2=0
 rotate_left
 ·rw [if_neg e1];simp only [e1,decide_false,Bool.false_and]
  exact ⟨fun h=>by simp at h,fun _=>⟨_,rfl⟩⟩
 rw [if_pos e1]
 by_cases e2:(a.items.length:Int)=if (szP a.shape).1<1 then 1 else (szP a.shape).1
 rotate_left
 ·rw [if_neg e2];simp only [e1,e2,decide_true,decide_false,Bool.true_and,Bool.false_and]
  exact ⟨fun h=>by simp at h,fun _=>⟨_,rfl⟩⟩
 rw [if_pos e2]
 have hlen:a.items.length≤4096:=by
  split at e2<;>omega
 simp only [e1,decide_true,Bool.true_and]
 rw [dT e2,Bool.true_and]
 have hw:w64 ((c:Int)+((a.items.length:Nat):Int))=((c+a.items.length:Nat):Int):=by rw [C4 (by omega) (by omega)];omega
 rw [hw]
 by_cases e3:(16384:Int)<((c+a.items.length:Nat):Int)
 ·rw [if_pos e3]
  exact ⟨fun _ _ _=>by omega,fun _=>⟨_,rfl⟩⟩
 rw [if_neg e3,G0,oB]
 have hi:=Lx hx
 by_cases hs:AE a=true
 ·simp only [if_pos hs]
  rw [if_pos (show (deep:Int)≤16 by omega)]
  obtain ⟨m1,m2⟩:=hi deep (c+a.items.length) d h1 (by omega) h3
  refine ⟨fun hr g1 g2=>?_,fun hn=>m2 fun ⟨q1,q2,q3⟩=>hn ⟨q1,by omega,by omega⟩⟩
  obtain ⟨s1,s2⟩:=Lh hs hr
  have:=m1 hr (by omega) (by omega)
  rw [s1,Nat.add_assoc] at this
  exact this
 simp only [if_neg hs]
 have hw2:w64 ((deep:Int)+1)=((deep+1:Nat):Int):=by rw [C4 (by omega) (by omega)];omega
 rw [hw2]
 have hmx:(if (d:Int)<((deep+1:Nat):Int) then ((deep+1:Nat):Int) else (d:Int))=((max d (deep+1):Nat):Int):=by split<;>omega
 rw [hmx]
 by_cases e4:((deep+1:Nat):Int)≤16
 rotate_left
 ·rw [if_neg e4]
  exact ⟨fun _ _ _=>by omega,fun _=>⟨_,rfl⟩⟩
 rw [if_pos e4]
 obtain ⟨m1,m2⟩:=hi (deep+1) (c+a.items.length) (max d (deep+1)) (by omega) (by omega) (by omega)
 refine ⟨fun hr g1 g2=>?_,fun hn=>m2 fun ⟨q1,q2,q3⟩=>hn ⟨q1,by omega,by omega⟩⟩
 have:=m1 hr (by omega) (by omega)
 have hup:up (max d (deep+1)) (deep+1) (dIs a.items)=up d deep (1+dIs a.items):=by unfold up;split<;>split<;>omega
 rw [hup,Nat.add_assoc] at this
 exact this
theorem KN : ∀ (k:Nat) {a:Arr},a.size<k→okAr a→Nc (KZ k a) (rA a) (cA a) (dA a)
 | 0,a,h,_=>by omega
 | k+1,a,h,ha=>by
  have oa:=(AM a).1 ha
  have:=SD (rc:=KZ k) ha fun x hx=>MB (oa.2.2.2 x hx) fun b hb=>KN k (by have:=GN hx;have:=Fj hb;omega) (((DA x).1 (oa.2.2.2 x hx)).2.2.2.2 b hb)
  intro deep c d h1 h2 h3
  simp only [KZ]
  rw [if_pos (by omega)]
  exact this deep c d h1 h2 h3
theorem OC {a:Arr} (ha:okAr a) : Nc (mAr a) (rA a) (cA a) (dA a):=KN _ (Nat.lt_succ_self _) ha
theorem TU {x:Itm} (hx:okI x) : Nc (mIt x) (rI x) (cI x) (dI x):=MB hx fun a ha=>OC (((DA x).1 hx).2.2.2.2 a ha)
def AD (a:Arr) : Prop:=rA a=true∧dA a≤16∧cA a≤16384
def AT (x:Itm) : Prop:=rI x=true∧dI x≤16∧cI x≤16384
instance (a:Arr) : Decidable (AD a):=by unfold AD;infer_instance
instance (x:Itm) : Decidable (AT x):=by unfold AT;infer_instance
theorem J1 {a:Arr} (ha:okAr a) : Ei a=some (if AD a then (((cA a:Nat) : Int),((dA a:Nat) : Int)) else (0,0),decide (AD a)):=by
 obtain ⟨m1,m2⟩:=OC ha 0 0 0 (by omega) (by omega) (by omega)
 unfold Ei
 by_cases h:AD a
 ·have:=m1 h.1 (by have:=h.2.1;omega) (by have:=h.2.2;omega)
  rw [show ((0:Nat):Int)=0 from rfl] at this
  rw [this,if_pos h,dT h]
  have hu:up 0 0 (dA a)=dA a:=by unfold up;split<;>omega
  simp [hu]
 ·obtain ⟨z,hz⟩:=m2 fun ⟨q1,q2,q3⟩=>h ⟨q1,by omega,by omega⟩
  rw [show ((0:Nat):Int)=0 from rfl] at hz
  rw [hz,if_neg h,dF h];rfl
theorem Dv {a:Arr} (ha:okAr a) : A5 a=some (decide (AD a)):=by unfold A5;rw [J1 ha,oB]
theorem Tq {a:Arr} (ha:okAr a) : EN a=some (if AD a then ((cA a:Nat) : Int) else 0):=by
 unfold EN;rw [J1 ha,oB];split<;>rfl
theorem MO {x:Itm} (hx:okI x) : EP x=some (decide (AT x)):=by
 obtain ⟨m1,m2⟩:=TU hx 0 0 0 (by omega) (by omega) (by omega)
 unfold EP
 by_cases h:AT x
 ·have:=m1 h.1 (by have:=h.2.1;omega) (by have:=h.2.2;omega)
  rw [show ((0:Nat):Int)=0 from rfl] at this
  rw [this,dT h];rfl
 ·obtain ⟨z,hz⟩:=m2 fun ⟨q1,q2,q3⟩=>h ⟨q1,by omega,by omega⟩
  rw [show ((0:Nat):Int)=0 from rfl] at hz
  rw [hz,dF h];rfl
theorem N1 {a:List Nat} (h:a.length≤35184372087808) : DE a=some a:=if_pos h
theorem SV {p:Rat} (hp:Ik p) (b:Bool) : Eg (ofQ p) b=some ((b&&decide (p≠0),Af p.num.natAbs,Af p.den),0):=by
 unfold Eg
 rw [J5 (Hf hp),E2 hp]
 have h1:DE (ofQ p).2.1=some (Af p.num.natAbs):=N1 (nT hp.1 (by decide))
 have h2:DE (ofQ p).2.2=some (Af p.den):=N1 (nT hp.2 (by decide))
 have h3:decide (0<((List.length (ofQ p).2.1:Nat):Int))=decide (p≠0):=decide_eq_decide.2 Ua
 cases b with
 | true=>rw [oB,if_pos rfl,if_pos rfl,h1,h2,h3];rfl
 | false=>rw [oB,if_pos rfl,if_neg (by simp),h1,h2];rfl
theorem NC {p:Rat} : (!decide (p.num<0)&&decide (p≠0))=decide ((-p).num<0):=by
 have h:p≠0↔p.num≠0:=not_congr Rat.num_eq_zero.symm
 have h':decide (p≠0)=decide (p.num≠0):=decide_eq_decide.2 h
 rw [Rat.neg_num,h']
 by_cases h1:p.num<0
 ·rw [dT h1,dF (show ¬-p.num<0 by omega)];rfl
 ·rw [dF h1,Bool.not_false,Bool.true_and];exact decide_eq_decide.2 (show p.num≠0↔-p.num<0 by omega)
theorem T7 (p:Rat) : ofQ (-p)=(decide ((-p).num<0),Af p.num.natAbs,Af p.den):=by
 simp only [ofQ,Rat.neg_num,Rat.neg_den,Int.natAbs_neg]
theorem Xa {p:Rat} (hp:Ik p) : HS (ofQ p)=some (ofQ (-p),0):=by
 unfold HS
 refine UJ (SV hp _) ?_
 rw [T7,← NC];rfl
mutual
def tyI : Itm→Itm
 | .mk k _ _ b=>if k=1 then .mk 1 (ofQ 0) 0 [] else if k=2 then .mk 2 (false,[],[]) 32 [] else .mk 3 (false,[],[]) 0 (tyBs b)
def tyA : Arr→Arr
 | .mk s i=>.mk s (tyIs i)
def tyIs : List Itm→List Itm
 | []=>[]
 | x::xs=>tyI x::tyIs xs
def tyBs : List Arr→List Arr
 | []=>[]
 | a::_=>[tyA a]
end
theorem GQ (s:List Int) (i:List Itm) : (Arr.mk s i).shape=s:=rfl
theorem Dr (s:List Int) (i:List Itm) : (Arr.mk s i).items=i:=rfl
theorem LK (k:Int) (n:RT) (c:Int) (b:List Arr) : (Itm.mk k n c b).kind=k:=rfl
theorem Vt (k:Int) (n:RT) (c:Int) (b:List Arr) : (Itm.mk k n c b).num=n:=rfl
theorem Vg (k:Int) (n:RT) (c:Int) (b:List Arr) : (Itm.mk k n c b).char=c:=rfl
theorem S6 (k:Int) (n:RT) (c:Int) (b:List Arr) : (Itm.mk k n c b).box=b:=rfl
theorem Sk (xs:List Itm) : tyIs xs=xs.map tyI:=by induction xs with
 | nil=>simp [tyIs]
 | cons x xs ih=>simp [tyIs,ih]
theorem Hc (a:Arr) : tyA a=.mk a.shape (a.items.map tyI):=by cases a;simp only [tyA,Sk];rfl
theorem Dm : ∀ {xs:List Itm},rIs xs=true↔∀ x∈xs,rI x=true
 | []=>by simp [rIs]
 | x::xs=>by simp [rIs,Dm (xs:=xs)]
theorem Q6 : ∀ {xs:List Arr},rBs xs=true↔∀ a∈xs,AE a=false∧rA a=true
 | []=>by simp [rBs]
 | x::xs=>by simp [rBs,Q6 (xs:=xs)]
theorem Fg {x:Itm} (h:rI x=true) : (x.kind=1∧Be x.num=true∧x.char=0∧x.box=[])∨(x.kind=2∧chB x.char=true∧x.num=(false,[],[])∧x.box=[])∨(x.kind=3∧x.num=(false,[],[])∧x.char=0∧∃ a,x.box=[a]∧AE a=false∧rA a=true):=by
 rw [SI] at h
 by_cases k1:x.kind=1
 ·rw [if_pos k1] at h;simp only [Bool.and_eq_true,decide_eq_true_eq] at h
  exact .inl ⟨k1,h.1,h.2.1,List.length_eq_zero_iff.1 h.2.2⟩
 rw [if_neg k1] at h
 by_cases k2:x.kind=2
 ·rw [if_pos k2] at h;simp only [Bool.and_eq_true,decide_eq_true_eq] at h
  exact .inr (.inl ⟨k2,h.1,(KO x).1 h.2.1,List.length_eq_zero_iff.1 h.2.2⟩)
 rw [if_neg k2] at h
 by_cases k3:x.kind=3
 ·rw [if_pos k3] at h;simp only [Bool.and_eq_true,decide_eq_true_eq] at h
  obtain ⟨a,ha⟩:=List.length_eq_one_iff.1 h.1
  refine .inr (.inr ⟨k3,(KO x).1 h.2.1,h.2.2.1,a,ha,Q6.1 h.2.2.2 a (by simp [ha])⟩)
 ·rw [if_neg k3] at h;cases h
theorem UT {p:Rat} (h:Ik p) : okL 1048576 (ofQ p).2.1=true∧okL 1048576 (ofQ p).2.2=true:=⟨KT (nT h.1 (by decide)),KT (nT h.2 (by decide))⟩
theorem Mj {r:RT} (h:Be r=true) : okL 1048576 r.2.1=true∧okL 1048576 r.2.2=true:=by
 obtain ⟨p,hp,rfl⟩:=Gd.1 h
 exact UT hp
theorem P1 {r:RT} (h:Be r=true) : G4 r=true:=by
 obtain ⟨p,hp,rfl⟩:=Gd.1 h
 exact Hf hp
theorem Te : ∀ (k:Nat) {x:Itm},x.size<k→rI x=true→smI x
 | 0,x,h,_=>by omega
 | k+1,x,h,hr=>by
  rw [Nf]
  rcases Fg hr with ⟨_,h1,_,h2⟩|⟨_,_,h1,h2⟩|⟨_,h1,_,a,h2,_,h3⟩
  ·rw [h2];exact ⟨(Mj h1).1,(Mj h1).2,nofun⟩
  ·rw [h1,h2];exact ⟨rfl,rfl,nofun⟩
  ·rw [h1]
   refine ⟨rfl,rfl,fun b hb=>?_⟩
   have hs:=Fj hb
   rw [h2,List.mem_singleton] at hb
   subst hb
   rw [GX] at h3
   simp only [Bool.and_eq_true] at h3
   rw [Ny]
   exact fun y hy=>Te k (by have:=GN hy;omega) (Dm.1 h3.2.2 y hy)
theorem Sa {x:Itm} (h:rI x=true) : smI x:=Te _ (Nat.lt_succ_self _) h
theorem Rz {a:Arr} (h:rA a=true) : smA a:=by
 rw [GX] at h;simp only [Bool.and_eq_true] at h
 rw [Ny];exact fun y hy=>Sa (Dm.1 h.2.2 y hy)
def T8 (x:Itm) : Prop:=rI (tyI x)=true∧dI (tyI x)=dI x∧cI (tyI x)=cI x∧tyI (tyI x)=tyI x∧(tyI x).kind=x.kind∧okI (tyI x)
theorem PX {s:List Int} {i:List Itm} {f:Itm→Itm} (h:∀ x∈i,(f x).kind=x.kind) : AE (.mk s (i.map f))=AE (.mk s i):=by
 unfold AE
 match i with
 | []=>rfl
 | [x]=>simp only [GQ,Dr,List.map,h x (by simp)]
 | x::y::r=>rfl
theorem Ro {f:Itm→Itm} : ∀ {i:List Itm},(∀ x∈i,cI (f x)=cI x)→cIs (i.map f)=cIs i
 | [],_=>rfl
 | x::xs,h=>by simp only [List.map,cIs];rw [h x (by simp),Ro fun y hy=>h y (by simp [hy])]
theorem QU {f:Itm→Itm} : ∀ {i:List Itm},(∀ x∈i,dI (f x)=dI x)→dIs (i.map f)=dIs i
 | [],_=>rfl
 | x::xs,h=>by simp only [List.map,dIs];rw [h x (by simp),QU fun y hy=>h y (by simp [hy])]
theorem Wg {a:Arr} (oa:okAr a) (hr:rA a=true) (ih:∀ x∈a.items,T8 x) : rA (tyA a)=true∧dA (tyA a)=dA a∧cA (tyA a)=cA a∧tyA (tyA a)=tyA a∧AE (tyA a)=AE a∧okAr (tyA a):=by
 have o:=(AM a).1 oa
 have hs:AE (tyA a)=AE a:=by
  rw [Hc,PX (fun x hx=>(ih x hx).2.2.2.2.1),Arr.eta]
 rw [GX] at hr
 simp only [Bool.and_eq_true,decide_eq_true_eq] at hr
 refine ⟨?_,?_,?_,?_,hs,?_⟩
 ·rw [GX,Hc]
  simp only [GQ,Dr,List.length_map,Bool.and_eq_true,decide_eq_true_eq]
  refine ⟨dT hr.1,hr.2.1,Dm.2 fun x hx=>?_⟩
  obtain ⟨y,hy,rfl⟩:=List.mem_map.1 hx
  exact (ih y hy).1
 ·rw [GW,GW,hs,Hc]
  simp only [Dr]
  rw [QU fun x hx=>(ih x hx).2.1]
 ·rw [FY,FY,Hc]
  simp only [Dr,List.length_map]
  rw [Ro fun x hx=>(ih x hx).2.2.1]
 ·rw [Hc,Hc]
  simp only [GQ,Dr,List.map_map,Arr.mk.injEq,true_and]
  exact List.map_congr_left fun x hx=>(ih x hx).2.2.2.1
 ·rw [AM,Hc]
  simp only [GQ,Dr,List.length_map]
  refine ⟨o.1,o.2.1,o.2.2.1,fun x hx=>?_⟩
  obtain ⟨y,hy,rfl⟩:=List.mem_map.1 hx
  exact (ih y hy).2.2.2.2.2
theorem Rl (n:RT) (c:Int) (b:List Arr) : tyI (.mk 1 n c b)=.mk 1 (ofQ 0) 0 []:=by simp [tyI]
theorem TV (n:RT) (c:Int) (b:List Arr) : tyI (.mk 2 n c b)=.mk 2 (false,[],[]) 32 []:=by simp [tyI]
theorem Si (n:RT) (c:Int) (a:Arr) : tyI (.mk 3 n c [a])=.mk 3 (false,[],[]) 0 [tyA a]:=by simp [tyI,tyBs]
theorem MW {r:RT} (h:G4 r=true) : okI (.mk 1 r 0 []):=by
 simp [okI,okAs,h]
theorem SJ {c:Int} (h:chB c=true) : okI (.mk 2 (false,[],[]) c []):=by
 simp only [chB,Bool.and_eq_true,decide_eq_true_eq] at h
 refine ⟨by omega,rfl,by omega,by simp,trivial⟩
theorem Kw {a:Arr} (h:okAr a) : okI (.mk 3 (false,[],[]) 0 [a]):=⟨by omega,rfl,by omega,by simp,h,trivial⟩
theorem PA {r:RT} (h:Be r=true) : rI (.mk 1 r 0 [])=true:=by simp [rI,h]
theorem U5 {c:Int} (h:chB c=true) : rI (.mk 2 (false,[],[]) c [])=true:=by simp [rI,h,D2,Itm.num]
theorem TJ {a:Arr} (h:rA a=true) (hs:AE a=false) : rI (.mk 3 (false,[],[]) 0 [a])=true:=by simp [rI,rBs,h,hs,D2,Itm.num]
theorem S4 : ∀ (k:Nat) {x:Itm},x.size<k→okI x→rI x=true→T8 x
 | 0,x,h,_,_=>by omega
 | k+1,x,h,ho,hr=>by
  have hc:=Fg hr
  cases x with
  | mk kd n c b =>
   simp only [LK,Vt,Vg,S6] at hc
   unfold T8
   rcases hc with ⟨rfl,h1,rfl,rfl⟩|⟨rfl,h1,rfl,rfl⟩|⟨rfl,rfl,rfl,a,rfl,h2,h3⟩
   ·rw [Rl,Rl]
    exact ⟨PA (E2 JF),rfl,rfl,rfl,rfl,MW (Hf JF)⟩
   ·rw [TV,TV]
    exact ⟨U5 rfl,rfl,rfl,rfl,rfl,SJ rfl⟩
   ·have hb:a∈Itm.box (.mk 3 (false,[],[]) 0 [a]):=by simp [Itm.box]
    have hz:=Fj hb
    have oa:okAr a:=((DA _).1 ho).2.2.2.2 a hb
    have h3':=h3
    rw [GX] at h3';simp only [Bool.and_eq_true] at h3'
    obtain ⟨p1,p2,p3,p4,p5,p6⟩:=Wg oa h3 fun y hy=>S4 k (by have:=GN hy;omega) (((AM a).1 oa).2.2.2 y hy) (Dm.1 h3'.2.2 y hy)
    rw [Si,Si,p4]
    refine ⟨TJ p1 (by rw [p5,h2]),?_,?_,rfl,rfl,Kw p6⟩
    ·simp only [dI,dBs,p2]
    ·simp only [cI,cBs,p3]
theorem Nq {x:Itm} (ho:okI x) (hr:rI x=true) : T8 x:=S4 _ (Nat.lt_succ_self _) ho hr
theorem KW : ∀ (k:Nat) {x:Itm},x.size<k→okI x→rI x=true→El k x=some (tyI x)
 | 0,x,h,_,_=>by omega
 | k+1,x,h,ho,hr=>by
  have hc:=Fg hr
  cases x with
  | mk kd n c b =>
   simp only [LK,Vt,Vg,S6] at hc
   rw [El,FX]
   rcases hc with ⟨rfl,h1,rfl,rfl⟩|⟨rfl,h1,rfl,rfl⟩|⟨rfl,rfl,rfl,a,rfl,h2,h3⟩
   ·rw [if_pos (LK 1 n 0 []),Rl,MT (by omega) (by omega),oB,Rat.intCast_zero,Oz (Hf JF),oB]
   ·rw [if_neg (by rw [LK];decide),if_pos (LK 2 _ c []),TV];rfl
   ·have hb:a∈Itm.box (.mk 3 (false,[],[]) 0 [a]):=by simp [Itm.box]
    have hz:=Fj hb
    have oa:okAr a:=((DA _).1 ho).2.2.2.2 a hb
    have h3':=h3
    rw [GX] at h3';simp only [Bool.and_eq_true] at h3'
    have o:=(AM a).1 oa
    rw [if_neg (by rw [LK];decide),if_neg (by rw [LK];decide),S6,LS,oB,Ju (h:=tyI) (fun y hy=>KW k (by have:=GN hy;omega) (o.2.2.2 y hy) (Dm.1 h3'.2.2 y hy)) o.2.1 o.2.2.1,oB,Si,Hc]
theorem Om {x:Itm} (ho:okI x) (hr:rI x=true) : IT x=some (tyI x):=KW _ (Nat.lt_succ_self _) ho hr
theorem HF {a:Arr} (h:rA a=true) : (szP a.shape).2=0∧(a.items.length:Int)=(if (szP a.shape).1<1 then 1 else (szP a.shape).1)∧∀ x∈a.items,rI x=true:=by
 rw [GX] at h;simp only [Bool.and_eq_true,decide_eq_true_eq] at h
 exact ⟨h.1,h.2.1,Dm.1 h.2.2⟩
theorem S9 {a b:Arr} (ha:okAr a) (hb:okAr b) (h1:AD a) (h2:AD b) : Tells (EG a b) (a=b):=by
 unfold EG
 rw [Dv ha,oB,dT h1,if_pos rfl,Dv hb,oB,dT h2,if_pos rfl]
 obtain ⟨r,hr,h⟩:=Sl ha hb (Rz h1.1)
 exact ⟨r,by rw [hr];rfl,h⟩
theorem H7 {a:Arr} (ha:okAr a) (hr:AD a) : Bk a=some (if AE a then a.items.headD default else .mk 3 (false,[],[]) 0 [a]):=by
 have o:=(AM a).1 ha
 unfold Bk
 rw [Dv ha,oB,dT hr,if_pos rfl,G0,oB]
 by_cases hs:AE a=true
 ·rw [if_pos hs,if_pos hs]
  have:=hs
  unfold AE at this
  rw [Bool.and_eq_true] at this
  match hi:a.items,this.2 with
  | [x],_=>rw [LS,oB,JA (o.2.2.2 x (by simp [hi]))];rfl
 ·rw [if_neg hs,if_neg hs,JO ha];rfl
theorem GG {a:Arr} (h:AE a=true) : ∃ x,a=.mk [] [x]∧x.kind≠3:=by
 cases a with
 | mk s i =>
  unfold AE at h
  simp only [GQ,Dr,Bool.and_eq_true,List.isEmpty_iff] at h
  match i,h.2 with
  | [x],h2=>exact ⟨x,by rw [h.1],by simpa using h2⟩
theorem Mp {xs:List Itm} {f:Cb} {p:Itm→Bool} (hf:∀ x∈xs,f.g x=some (p x)) (K:Int→Option Int) (hl:xs.length≤17592186044416) : ∀ (n i k:Nat) (s:Int),n=xs.length-i→i≤xs.length→n<k →
  (Ao xs f K k s (i:Int)=K s∧(xs.drop i).any p=false)∨(∃ j:Nat,Ao xs f K k s (i:Int)=some (j:Int)∧(xs.drop i).any p=true)
 | _,_,0,_,_,_,h=>by omega
 | n,i,k+1,s,hn,hi,hk=>by
  rw [Ao]
  by_cases h:i<xs.length
  ·rw [if_pos (by omega),BT h,oB,hf _ (List.getElem_mem h),oB,lC h,List.any_cons]
   by_cases hp:p xs[i]=true
   ·rw [if_pos hp,hp];exact .inr ⟨i,rfl,rfl⟩
   ·rw [if_neg hp,BF (by omega)]
    have:p xs[i]=false:=by simpa using hp
    rw [this,Bool.false_or]
    exact Mp hf K hl (n-1) (i+1) k s (by omega) (by omega) (by omega)
  ·rw [if_neg (by omega),List.drop_of_length_le (by omega)];exact .inl ⟨rfl,rfl⟩
theorem L1 {xs:List Itm} {f:Cb} {p:Itm→Bool} (hf:∀ x∈xs,f.g x=some (p x)) (hl:xs.length≤17592186044416) : AG xs f=some (xs.any p):=by
 unfold AG A2
 rw [Ds]
 rcases Mp hf (fun _=>some (-1)) hl xs.length 0 A4 0 rfl (Nat.zero_le _) (BE (by omega)) with ⟨h1,h2⟩|⟨j,h1,h2⟩
 ·rw [show ((0:Nat):Int)=0 from rfl] at h1
  rw [h1,oB,List.drop_zero] at *
  rw [h2];rfl
 ·rw [show ((0:Nat):Int)=0 from rfl] at h1
  rw [h1,oB]
  rw [List.drop_zero] at h2
  rw [h2,dT (by omega)]
def DB (xs:List Itm) : List Int:=xs.map fun x=>((1+cI x:Nat) : Int)
theorem HM {x:Itm} (hx:okI x) (hr:AT x) : ∀ a∈x.box,okAr a∧AD a∧cI x=cA a∧x.box=[a]:=fun a ha=>by
 have oa:=((DA x).1 hx).2.2.2.2 a ha
 rcases Fg hr.1 with ⟨_,_,_,h⟩|⟨_,_,_,h⟩|⟨_,_,_,b,h,h2,h3⟩
 ·rw [h] at ha;cases ha
 ·rw [h] at ha;cases ha
 ·have hb:=ha
  rw [h,List.mem_singleton] at hb
  subst hb
  have e1:cI x=cA a:=by rw [J8,h];simp [cBs]
  have e2:dI x=dA a:=by rw [KE,h];simp [dBs]
  exact ⟨oa,⟨h3,e2▸hr.2.1,e1▸hr.2.2⟩,e1,h⟩
theorem T6 {x:Itm} (hx:okI x) (hr:AT x) (K:Int→Option (Arr×Int)) : Cg x K A4 1 0=K ((1+cI x:Nat) : Int):=by
 have hF:A4=999999999999998+1+1:=rfl
 rw [hF,Cg]
 by_cases hb:x.box=[]
 ·rw [if_neg (by rw [hb];decide)]
  have:cI x=0:=by rw [J8,hb];rfl
  rw [this];rfl
 ·obtain ⟨a,ha⟩:=List.exists_mem_of_ne_nil _ hb
  obtain ⟨oa,ra,e1,e2⟩:=HM hx hr a ha
  have h16:=ra.2.2
  rw [e2,if_pos (by simp),LS,oB,Tq oa,oB,if_pos ra,Cg,e2,if_neg (by rw [show w64 ((0:Int)+1)=1 from rfl];simp),C4 (by omega) (by omega),e1]
  congr 1
theorem QL {xs:List Itm} (hx:∀ x∈xs,okI x∧AT x) (hl:xs.length≤1466015503701) (K:List Int→Option (Arr×Int)) : ∀ (n i k:Nat) (t:List Int),n=xs.length-i→i≤xs.length→n<k→t.length=i →
  BO xs K k t (i:Int)=K (t++(DB xs).drop i)
 | _,_,0,_,_,_,h,_=>by omega
 | n,i,k+1,t,hn,hi,hk,ht=>by
  rw [BO]
  have hcl:(DB xs).length=xs.length:=by simp [DB]
  by_cases h:i<xs.length
  ·obtain ⟨o,r⟩:=hx _ (List.getElem_mem h)
   have hd:(DB xs)[i]'(by omega)=((1+cI xs[i]:Nat):Int):=by simp [DB]
   rw [if_pos (by omega),Ds,BT h,oB,Ds,T6 o r,GU (by simp;omega),oB,BF (by omega)]
   show BO xs K k (t++[((1+cI xs[i]:Nat):Int)]) ((i+1:Nat):Int)=_
   rw [QL hx hl K (n-1) (i+1) k _ (by omega) (by omega) (by omega) (by simp [ht]),
    lC (by omega:i<(DB xs).length),hd,List.append_assoc]
   rfl
  ·rw [if_neg (by omega),List.drop_of_length_le (by omega),List.append_nil]
def cyc (xs:List Itm) (n:Nat) : List Itm:=(List.range n).map fun i=>xs.getD (i % xs.length) default
theorem Ly (xs:List Itm) (n:Nat) : cyc xs (n+1)=cyc xs n++[xs.getD (n % xs.length) default]:=by
 unfold cyc;rw [List.range_succ,List.map_append];rfl
theorem Fh (xs:List Itm) (n:Nat) : (cyc xs n).length=n:=by simp [cyc]
theorem Ng (xs ys:List Itm) : cIs (xs++ys)=cIs xs+cIs ys:=by
 induction xs with
 | nil=>simp [cIs]
 | cons x xs ih=>simp only [List.cons_append,cIs,ih];omega
theorem Qx {xs:List Itm} (h:xs≠[]) {n:Nat} {x:Itm} (hx:x∈cyc xs n) : x∈xs:=by
 unfold cyc at hx
 obtain ⟨i,_,rfl⟩:=List.mem_map.1 hx
 have hp:0<xs.length:=List.length_pos_iff.2 h
 have hlt:=Nat.mod_lt i hp
 rw [lD,lG hlt]
 exact List.getElem_mem hlt
theorem VM (xs:List Itm) {i n:Nat} (h:i≤n) : i+cIs (cyc xs i)≤n+cIs (cyc xs n):=by
 induction n with
 | zero =>
  have:i=0:=by omega
  subst this;exact Nat.le_refl _
 | succ n ih =>
  by_cases he:i=n+1
  ·subst he;exact Nat.le_refl _
  ·have:=ih (by omega)
   rw [Ly,Ng];omega
theorem QV {xs:List Itm} (hx:∀ x∈xs,okI x∧AT x) (hne:xs≠[]) (hl:xs.length≤1466015503701) {m:Nat} (hm:m≤4096) (x1:Int×Int) (hx1:x1.1=(m:Int)) (K:Arr→Int→List Int→List Itm→Option (Arr×Int)) (a:Arr) (b:Int) (s:List Int) (t0:List Itm) (ht0:t0.length≤1) : ∀ (n i k:Nat),n=m-i→i≤m→n<k→i+cIs (cyc xs i)≤16384 →
  BR xs x1 (DB xs) K k a b (i:Int) ((i+cIs (cyc xs i):Nat):Int) s (t0++cyc xs i)=if m+cIs (cyc xs m)≤16384 then K a b s (t0++cyc xs m) else some (.mk [] [],8)
 | _,_,0,_,_,h,_=>by omega
 | n,i,k+1,hn,hi,hk,hc=>by
  rw [BR]
  have hcl:(DB xs).length=xs.length:=by simp [DB]
  have hp:0<xs.length:=List.length_pos_iff.2 hne
  by_cases h:i<m
  ·have hlt:=Nat.mod_lt i hp
   have htm:Int.tmod (i:Int) ((xs.length:Nat):Int)=((i % xs.length:Nat):Int):=by
    rw [Int.tmod_eq_emod_of_nonneg (by omega)];rfl
   have hgr:Fs (((List.length xs:Nat):Int)≠0)=some ():=if_pos (by omega)
   have hd:(DB xs)[i % xs.length]'(by omega)=((1+cI xs[i % xs.length]:Nat):Int):=by simp [DB]
   obtain ⟨o,r⟩:=hx _ (List.getElem_mem hlt)
   have hg:xs.getD (i % xs.length) default=xs[i % xs.length]:=by rw [lD,lG hlt];rfl
   have hci:cI xs[i % xs.length]≤16384:=r.2.2
   have hsum:cIs (cyc xs (i+1))=cIs (cyc xs i)+cI xs[i % xs.length]:=by rw [Ly,Ng,hg];simp [cIs]
   rw [if_pos (by omega),hgr,oB,htm,BT (by omega:i % xs.length<(DB xs).length),oB,hd,C4 (by omega) (by omega)]
   by_cases hbig:(16384:Int)<((i+cIs (cyc xs i):Nat):Int)+((1+cI xs[i % xs.length]:Nat):Int)
   ·rw [if_pos hbig,if_neg]
    have:=VM xs (show i+1≤m by omega)
    omega
   ·have hlen:=Fh xs i
    rw [if_neg hbig,oB,BT hlt,oB,JA o,oB,GU (by simp;omega),oB,BF (by omega)]
    have ih:=QV hx hne hl hm x1 hx1 K a b s t0 ht0 (n-1) (i+1) k (by omega) (by omega) (by omega) (by omega)
    rw [Ly,hg] at ih
    rw [← ih,List.append_assoc]
    congr 1
    rw [Ng];simp only [cIs];omega
  ·have:i=m:=by omega
   subst this
   rw [if_neg (by omega),if_pos hc]
def Bz (n:Int) (xs:List Itm) : List Itm:=if n=0 then [tyI (xs.headD default)] else cyc xs n.toNat
theorem GM {s:List Int} {xs:List Itm} (hs:∀ z∈s,-9223372036854775808≤z∧z≤9223372036854775807) (hl:s.length≤17592186044416) (hxl:xs.length≤1466015503701) (hx:∀ x∈xs,okI x) :
  Ax s xs=some (if (szP s).2≠0 then (.mk [] [],(szP s).2) else if xs=[]∨¬(∀ x∈xs,AT x) then (.mk [] [],22) else if AD (.mk s (Bz (szP s).1 xs)) then (.mk s (Bz (szP s).1 xs),0) else (.mk [] [],8)):=by
 unfold Ax
 rw [GF hl,oB]
 by_cases h0:(szP s).2=0
 rotate_left
 ·rw [if_neg h0,if_pos h0]
 have h0':¬((szP s).2≠0):=fun h=>h h0
 rw [if_pos h0,if_neg h0']
 by_cases hn:xs=[]
 ·subst hn;rw [if_pos (show ((([]:List Itm).length:Nat):Int)=0 from rfl),if_pos (.inl rfl)];rfl
 have hlen:¬((xs.length:Nat):Int)=0:=by have:=List.length_pos_iff.2 hn;omega
 rw [if_neg hlen,L1 (p:=fun x=>!decide (AT x)) (fun x hx'=>by
  show D4 x=_
  unfold D4;rw [MO (hx x hx'),oB]) (by omega),oB,oB]
 by_cases hr:∀ x∈xs,AT x
 rotate_left
 ·rw [if_pos (.inr hr:xs=[]∨¬∀ x∈xs,AT x),if_pos]
  rw [List.any_eq_true]
  simp only [Classical.not_forall] at hr
  obtain ⟨x,h1,h2⟩:=hr
  exact ⟨x,h1,by rw [dF h2];rfl⟩
 rw [if_neg (show ¬(xs=[]∨¬∀ x∈xs,AT x) from fun h=>h.elim hn fun h=>h hr),if_neg (by
  intro h
  rw [List.any_eq_true] at h
  obtain ⟨x,h1,h2⟩:=h
  rw [dT (hr x h1)] at h2;cases h2),HP hl,oB,Ds]
 have hp:0<xs.length:=List.length_pos_iff.2 hn
 have hxr:∀ x∈xs,okI x∧AT x:=fun x h=>⟨hx x h,hr x h⟩
 obtain ⟨hz0,hz1⟩:=Et s
 obtain ⟨m,hm⟩:∃ m:Nat,(szP s).1=(m:Int):=⟨(szP s).1.toNat,by omega⟩
 have hgo:∀ t0:List Itm,t0.length≤1→t0++cyc xs m=Bz (szP s).1 xs→(∀ x∈Bz (szP s).1 xs,okI x)→m+cIs (cyc xs m)≤cA (.mk s (Bz (szP s).1 xs)) →
   BO xs (fun z8=>jn (fun z19 z20 z21 z22=>(A5 (Arr.mk z21 z22)).bind fun x35=>if x35=true then some (Arr.mk z21 z22,0) else some (Arr.mk [] [],8)) fun K6=>BR xs (szP s) z8 K6 A4 (Arr.mk [] []) 0 0 0 s t0) A4 [] 0=some (if AD (.mk s (Bz (szP s).1 xs)) then (.mk s (Bz (szP s).1 xs),0) else (.mk [] [],8)):=by
  intro t0 ht0 he hok hca
  have e2:=QL hxr hxl (fun z8=>jn (fun z19 z20 z21 z22=>(A5 (Arr.mk z21 z22)).bind fun x35=>if x35=true then some (Arr.mk z21 z22,0) else some (Arr.mk [] [],8)) fun K6=>BR xs (szP s) z8 K6 A4 (Arr.mk [] []) 0 0 0 s t0) xs.length 0 A4 [] rfl (Nat.zero_le _) (BE (by omega)) rfl
  rw [show ((0:Nat):Int)=0 from rfl] at e2
  rw [e2,List.nil_append,List.drop_zero]
  show jn _ _=_
  rw [Ds]
  have e7:=QV hxr hn hxl (show m≤4096 by omega) (szP s) hm (fun z19 z20 z21 z22=>(A5 (Arr.mk z21 z22)).bind fun x35=>if x35=true then some (Arr.mk z21 z22,0) else some (Arr.mk [] [],8)) (Arr.mk [] []) 0 s t0 ht0 m 0 A4 rfl (Nat.zero_le _) (BE (by omega)) (by show 0+0≤_;omega)
  rw [show cyc xs 0=[] from rfl,List.append_nil,show ((0:Nat):Int)=0 from rfl] at e7
  rw [show (((0+cIs []:Nat)):Int)=0 from rfl] at e7
  rw [e7,he]
  have hit:(Bz (szP s).1 xs).length≤1466015503701:=by
   rw [← he,List.length_append,Fh];omega
  have ho:okAr (.mk s (Bz (szP s).1 xs)):=by
   rw [AM];exact ⟨hs,hl,hit,hok⟩
  rw [Dv ho]
  by_cases hR:AD (.mk s (Bz (szP s).1 xs))
  ·rw [if_pos (nT hca hR.2.2),if_pos hR,dT hR];rfl
  ·rw [if_neg hR,dF hR];split<;>rfl
 by_cases hz:(szP s).1=0
 ·have hm0:m=0:=by omega
  subst hm0
  obtain ⟨y,ys,rfl⟩:=List.exists_cons_of_ne_nil hn
  have hmk:Bz (szP s).1 (y::ys)=[tyI y]:=by unfold Bz;rw [if_pos hz];rfl
  obtain ⟨o,r⟩:=hxr y (by simp)
  rw [if_pos hz,LS,oB,Om o r.1,oB]
  show jn _ _=_
  rw [Ds]
  refine hgo [tyI y] (by simp) (by rw [hmk];rfl) ?_ ?_
  ·rw [hmk];intro x hx';rw [List.mem_singleton] at hx';subst hx';exact (Nq o r.1).2.2.2.2.2
  ·show 0+0≤_;omega
 ·have hmk:Bz (szP s).1 xs=cyc xs m:=by unfold Bz;rw [if_neg hz,hm];rfl
  rw [if_neg hz]
  show jn _ _=_
  rw [Ds]
  refine hgo [] (by simp) (by rw [hmk];rfl) ?_ ?_
  ·rw [hmk];intro x hx';exact hx x (Qx hn hx')
  ·rw [hmk,FY,Dr,Fh];omega
def SF (z:Int) : Prop:=-9223372036854775808≤z∧z≤9223372036854775807
def Ec (z:Int) : Itm:=.mk 1 (ofQ (z:Rat)) 0 []
theorem MG {z:Int} (h:SF z) : Ik (z:Rat):=Tk h.1 (by have:=h.2;omega)
theorem UG {z:Int} (h:SF z) : okI (Ec z):=MW (Hf (MG h))
theorem Qf {z:Int} (h:SF z) : rI (Ec z)=true:=PA (E2 (MG h))
theorem Mq : SF 0:=by unfold SF;omega
theorem MX {n:Nat} (h:n≤4096) : szP [(n:Int)]=((n:Int),0):=by
 unfold szP Cs
 simp only [List.length_cons,List.length_nil,List.any_cons,List.any_nil,Bool.or_false,decide_eq_true_eq,List.foldl_cons,List.foldl_nil,List.mem_singleton,Int.one_mul]
 rw [if_neg (by omega),if_neg (by omega),if_neg (by omega)]
 by_cases h0:(0:Int)=n
 ·rw [if_pos h0,← h0]
 ·rw [if_neg h0,if_pos (by omega)]
theorem Ty (xs:List Itm) : cyc xs xs.length=xs:=by
 apply List.ext_getElem?
 intro i
 by_cases h2:i<xs.length
 ·unfold cyc
  rw [List.getElem?_map,List.getElem?_range h2,Option.map_some,Nat.mod_eq_of_lt h2,lD,lG h2];rfl
 ·rw [List.getElem?_eq_none (by rw [Fh];omega),List.getElem?_eq_none (by omega)]
theorem ES {xs:List Itm} {n:Nat} (h:xs.length=n) (h0:n≠0) : Bz ((n:Nat) : Int) xs=xs:=by
 unfold Bz
 rw [if_neg (by omega),Int.toNat_natCast,← h]
 exact Ty xs
def Tot (m:Option (Arr×Int)) (s:List Int) : Prop:=∃ r e,m=some (r,e)∧(e=0→okAr r∧AD r∧r.shape=s)∧(e≠0→r=.mk [] [])
theorem A6 {a:Arr} (oa:okAr a) (h:AD a) {x:Itm} (hx:x∈a.items) : okI x∧AT x:=by
 have o:=(AM a).1 oa
 obtain ⟨h1,h2,h3⟩:=h
 have hr:=(HF h1).2.2
 refine ⟨o.2.2.2 x hx,hr x hx,?_,?_⟩
 ·have hd:∀ {xs:List Itm},x∈xs→dI x≤dIs xs:=by
   intro xs
   induction xs with
   | nil=>intro h;cases h
   | cons y ys ih =>
    intro h
    rw [dIs]
    rcases List.mem_cons.1 h with rfl|h
    ·omega
    ·have:=ih h;omega
  have hdx:=hd hx
  rw [GW] at h2
  by_cases hs:AE a=true
  ·have:=(Lh hs (Dm.2 hr)).1
   omega
  ·rw [if_neg hs] at h2;omega
 ·have hc:∀ {xs:List Itm},x∈xs→cI x≤cIs xs:=by
   intro xs
   induction xs with
   | nil=>intro h;cases h
   | cons y ys ih =>
    intro h
    rw [cIs]
    rcases List.mem_cons.1 h with rfl|h
    ·omega
    ·have:=ih h;omega
  have hcx:=hc hx
  rw [FY] at h3
  omega
theorem Pp {s:List Int} {xs:List Itm} (hne:xs≠[]) (hx:∀ x∈xs,okI x∧AT x) : ∀ x∈Bz (szP s).1 xs,okI x:=by
 intro x hx'
 unfold Bz at hx'
 split at hx'
 ·rw [List.mem_singleton] at hx'
  obtain ⟨y,ys,rfl⟩:=List.exists_cons_of_ne_nil hne
  obtain ⟨o,r⟩:=hx y (by simp)
  subst hx'
  exact (Nq o r.1).2.2.2.2.2
 ·exact (hx x (Qx hne hx')).1
theorem O7 {s:List Int} {xs:List Itm} : (Bz (szP s).1 xs).length≤4096:=by
 have:=Et s
 unfold Bz
 split
 ·simp
 ·rw [Fh];omega
theorem KM {s:List Int} {xs:List Itm} (hs:∀ z∈s,-9223372036854775808≤z∧z≤9223372036854775807) (hl:s.length≤17592186044416) (hxl:xs.length≤1466015503701) (hne:xs≠[]) (hx:∀ x∈xs,okI x∧AT x) : Tot (Ax s xs) s:=by
 rw [GM hs hl hxl fun x h=>(hx x h).1]
 by_cases h0:(szP s).2≠0
 ·rw [if_pos h0];exact ⟨_,_,rfl,fun h=>absurd h h0,fun _=>rfl⟩
 rw [if_neg h0,if_neg (fun h=>h.elim hne fun h=>h fun x hx'=>(hx x hx').2)]
 by_cases hR:AD (.mk s (Bz (szP s).1 xs))
 ·rw [if_pos hR]
  refine ⟨_,_,rfl,fun _=>⟨?_,hR,rfl⟩,fun h=>absurd rfl h⟩
  rw [AM]
  exact ⟨hs,hl,by have:=O7 (s:=s) (xs:=xs);show (Bz (szP s).1 xs).length≤_;omega,Pp hne hx⟩
 ·rw [if_neg hR]
  exact ⟨_,_,rfl,fun h=>absurd h (by decide),fun _=>rfl⟩
theorem Gs : okI (Ec 0)∧AT (Ec 0):=by
 refine ⟨UG Mq,Qf Mq,?_,?_⟩
 ·rw [KE];show dBs []≤16;simp [dBs]
 ·rw [J8];show cBs []≤16384;simp [cBs]
theorem JP : Bk (.mk [] [])=some (.mk 0 (false,[],[]) 0 []):=by kernel_rfl
theorem Ij {a:Arr} (h:AD a) (hs:AE a=false) : AT (.mk 3 (false,[],[]) 0 [a]):=by
 have e1:dI (.mk 3 (false,[],[]) 0 [a])=dA a:=by simp [dI,dBs]
 have e2:cI (.mk 3 (false,[],[]) 0 [a])=cA a:=by simp [cI,cBs]
 exact ⟨TJ h.1 hs,by rw [e1];exact h.2.1,by rw [e2];exact h.2.2⟩
theorem LZ {a:Arr} (oa:okAr a) (h:AD a) : ∃ x,Bk a=some x∧okI x∧AT x:=by
 rw [H7 oa h]
 refine ⟨_,rfl,?_⟩
 by_cases hs:AE a=true
 ·rw [if_pos hs]
  obtain ⟨x,rfl,hk⟩:=GG hs
  exact A6 oa h (by show x∈[x];simp)
 ·rw [if_neg hs]
  exact ⟨Kw oa,Ij h (by simpa using hs)⟩
theorem NH {m:Option (Arr×Int)} {s:List Int} (h:Tot m s) : ∃ x e,(m.bind fun r=>(Bk r.1).bind fun y=>some (y,r.2))=some (x,e)∧(e=0→okI x∧AT x):=by
 obtain ⟨r,e,rfl,h1,h2⟩:=h
 rw [oB]
 by_cases h0:e=0
 ·obtain ⟨o,hr,_⟩:=h1 h0
  obtain ⟨x,hx,h3⟩:=LZ o hr
  exact ⟨x,e,by rw [hx];rfl,fun _=>h3⟩
 ·rw [h2 h0]
  exact ⟨_,e,by rw [JP];rfl,fun q=>absurd q h0⟩
theorem Jt {r:RT} (h:Be r=true) : okI (.mk 1 r 0 [])∧AT (.mk 1 r 0 []):=by
 refine ⟨MW (P1 h),PA h,?_,?_⟩
 ·rw [KE];show dBs []≤16;simp [dBs]
 ·rw [J8];show cBs []≤16384;simp [cBs]
theorem D3 {a:Arr} {x:Itm} {b:Arr} (hx:x∈a.items) (hb:b∈x.box) : b.size<a.size:=Nat.lt_trans (Fj hb) (GN hx)
theorem F7 {a:Arr} (h:AD a) : ∃ n : Nat,szP a.shape=((n:Int),0)∧a.items.length=if n=0 then 1 else n:=by
 obtain ⟨h1,h2,_⟩:=HF h.1
 have:=Et a.shape
 refine ⟨(szP a.shape).1.toNat,?_,?_⟩
 ·rw [← h1,Int.toNat_of_nonneg this.1]
 ·split at h2<;>split<;>omega
theorem Mn {a:Arr} (h:AD a) : 0<a.items.length:=by
 obtain ⟨n,_,hl⟩:=F7 h
 rw [hl];split<;>omega
end Go.FL
namespace Go.FL
open Go Go.RowKit
def FnN (P:Program) (f:FuncId) (args:List DV) (r:AV) : Prop :=
 ∀ (w:World) (I:Nat→Prop) (vs:List Value),(∀ b,I b→b<w.heap.size)→RepAll w I args vs →
  CallsIn (om none) 0 P f (Value.slice none 0 0::vs).toArray w fun e w'=>∃ v I' bs,e=.returned v∧Below w.heap.size w w'∧(∀ b,I b→I' b) ∧
   (∀ b,I' b→b<w'.heap.size∧(b<w.heap.size→I b))∧ARep P w' I' [] r v bs∧bs.Nodup∧∀ b∈bs,w.heap.size≤b∧b<w'.heap.size∧¬I' b
section
variable {P:Program} {H:Ac}
def W8 (P:Program) (f:FuncId) (e:TypeId) (M:Nat) : Prop:=∀ (n:Nat) (w:World),n≤M →
 Calls P f #[.slice none 0 0,.int .i64 n] w fun x w'=>(x=.returned (.slice none 0 0)∧w'=w) ∨
  (∃ (cap:Nat) (cells:Array Value),0<cap∧cap≤maxLen∧cells.size=cap * AC P e∧x=.returned (.slice (some ⟨w.heap.size,0,none⟩) 0 cap)∧w'=w.drew.alloc (.cells cells e))
theorem FnN.grow {f e M:Nat} (hsz:0<AC P e) (h:W8 P f e M) {n:Nat} (hn:n≤M) : FnN P f [.i .i64 n] (.own e []):=by
 intro w I vs hI ha
 have hvs:vs=[.int .i64 n]:=by
  cases ha with
  | cons h1 ha=>cases ha;cases h1;rfl
 subst hvs
 rw [UF]
 refine callsIn_wide.2 ((h n w hn).mono fun x w' hx=>?_)
 rcases hx with ⟨rfl,rfl⟩|⟨cap,cells,h0,hm,hc,rfl,rfl⟩
 ·refine ⟨_,I,[],rfl,Below.refl _ _,fun _ h=>h,fun b hb=>⟨hI b hb,fun _=>hb⟩,?_,nN,nofun⟩
  exact .own e [] (.slice none 0 0) [] hsz (.inl ⟨none,rfl,rfl,rfl⟩) (.nil _)
 ·have hlt:w.heap.size<(w.drew.alloc (.cells cells e)).heap.size:=(Array.getElem?_eq_some_iff.1 (heap_alloc_new w.drew (.cells cells e))).1
  have ho:OwnR (w.drew.alloc (.cells cells e)) e (AC P e) (.slice (some ⟨w.heap.size,0,none⟩) 0 cap) 0 []:=by
   refine .inr ⟨⟨by simp,.inr ⟨w.heap.size,cap,cells,rfl,Nat.zero_le _,heap_alloc_new w.drew _,Nat.zero_le _,hm,hc,by simp⟩⟩,w.heap.size,cap,rfl,h0⟩
  refine ⟨_,I,[w.heap.size],rfl,?_,fun _ h=>h,fun b hb=>⟨Nat.lt_trans (hI b hb) hlt,fun _=>hb⟩,?_,by simp,fun b hb=>?_⟩
  ·exact ((Below.refl _ w).drew).alloc (Nat.le_refl _) _
  ·have:[w.heap.size]=Bt (.slice (some ⟨w.heap.size,0,none⟩) 0 cap):=by simp [Bt,Nat.pos_iff_ne_zero.1 h0]
   rw [this]
   exact .own e [] _ [] hsz ho (.nil _)
  ·rw [List.mem_singleton] at hb
   subst hb
   exact ⟨Nat.le_refl _,hlt,fun hi=>by have:=hI _ hi;omega⟩
end
section
variable {P:Program} {C:Cx} {o:Oper} {ops:Array Oper} {Q:Exit→Env→Ac→Prop} {env:Env} {H:Ac} {k:Nat} {l:List Oper}
theorem RC {α:Type} {F:List α→List DV} {D:α→DV} (hset:∀ xs n x,(F xs).set n (D x)=F (xs.set n x)) {us:List α} {n m:Nat} {x:α} {y:Operand} {r ty e:Nat} {p:Pl} (hm:m=n) (hx:∃ z,(F us)[0+n]?=some z∧z.leaf=true)
  (h:RL P C ops Q (k+1) l (M0 p (.own e (F (us.set m x))) env) (Oi p (.own e (F (us.set m x))) H)) (hsz:AC P ty=1)
  (hg:grd ops env o true=true:=by rfl) (ho:o.op=.store ty (.tmp r) y:=by rfl) (hv:get env r=.ep p (0+n) 0:=by rfl) (hp:AK env H p=.own e (F us):=by rfl) (hy:lk env y=.d (D x):=by rfl) (h1:(D x).leaf=true:=by rfl) (hd:o.dst=none:=by rfl)
  (hn:∀ id off,p=.c id off→C.n0≤id:=by (intro _ _ h;cases h<;>decide)):RL P C ops Q k (o::l) env H:=by
 subst hm
 exact ste hx (by rw [Nat.zero_add,hset];exact h) hsz hg ho hv hp hy h1 hd hn
end
end Go.FL
namespace Go.FL
open Go Go.RowKit
section
variable {P:Program} {C:Cx} {X:Snap} {o:Oper} {ops:Array Oper} {Q:Exit→Env→Ac→Prop} {env env':Env} {H H':Ac} {a:Act} {w w':World} {I I':Nat→Prop} {μ μ':List Nat} {O O':Nat→Option Loc}
 {K:Env→Ac→Prop} {k:Nat} {l:List Oper}
theorem WJ {ty:Nat} (ho:o.op=.makeMap ty none:=by rfl) : VOK P C o env H (.om [] []) :=
 .val (by simp [ho]) fun X a w I μ O _ _ _ hs =>
  ⟨.map (some w.heap.size),w.alloc (.map #[] 0),I,[w.heap.size],by simp [execOp,ho,Instr.makeMap,newObj,Sem.run],BY _,fun b hi=>hi,fun b hi=>⟨nL (hs.ilt b hi) (BY _).size,fun _=>hi⟩,
   ARep.om [] [] [] [] w.heap.size #[] 0 (heap_alloc_new w _) .nil .nil (List.Perm.refl _) rfl,by simp,fun b hb=>by
    simp at hb;subst hb
    exact ⟨Nat.le_refl _,by simp,fun hi=>by have:=hs.ilt _ hi;omega⟩⟩
def freshK (q:IntKind) (z:Int) (ks:List DV) : Prop:=∀ k∈ks,∃ z',k=.i q z'∧z'≠z
theorem Ri {α β:Type} : ∀ {ks:List α} {vs:List β} {x:α},ks.length=vs.length→x∈ks→∃ v,(x,v)∈ks.zip vs
 | k::ks,v::vs,x,hl,h=>by
  rcases List.mem_cons.1 h with rfl|h
  ·exact ⟨v,by simp⟩
  ·obtain ⟨u,hu⟩:=Ri (ks:=ks) (vs:=vs) (by simpa using hl) h
   exact ⟨u,by simp [hu]⟩
theorem Jx {q:IntKind} {z:Int} {ty:TypeDesc} (hty:ty=.int q) : ∀ {es:List MapEntry} {ks:List DV} (n:Nat),RepAll w I ks (es.map MapEntry.key)→freshK q z ks→Instr.findNow ty (.int q z) es n=some none
 | [],_,n,_,_=>rfl
 | e::es,ks,n,hk,hf=>by
  subst hty
  cases hk with
  | @cons c _ cs _ h t =>
   obtain ⟨z',rfl,hz⟩:=hf c (by simp)
   have he:e.key=.int q z':=by
    generalize e.key=u at h
    cases h;rfl
   have hs:Instr.sameNow (.int q) (.int q z) e.key=some false:=by
    rw [he];simp [Instr.sameNow];exact fun h=>hz h.symm
   simp only [Instr.findNow,hs]
   exact Jx rfl (n+1) t fun k hk=>hf k (by simp [hk])
theorem Ms {q:IntKind} {z:Int} {ty:TypeDesc} (hty:ty=.int q) {d:DV} : ∀ {es:List MapEntry} {ks vs:List DV} (n:Nat),RepAll w I ks (es.map MapEntry.key)→RepAll w I vs (es.map MapEntry.val) →
  (∀ k∈ks,∃ z',k=.i q z')→(.i q z,d)∈ks.zip vs→(∀ d',(.i q z,d')∈ks.zip vs→d'=d)→∃ i v,Instr.findNow ty (.int q z) es n=some (some (i,v))∧Rep w I d v
 | [],_,_,n,hk,_,_,hm,_=>by cases hk;simp at hm
 | e::es,ks,vs,n,hk,hv,hi,hm,hu=>by
  subst hty
  cases hk with
  | @cons c _ cs _ h t =>
   cases hv with
   | @cons c2 _ cs2 _ h2 t2 =>
    obtain ⟨z',rfl⟩:=hi c (by simp)
    have he:e.key=.int q z':=by
     generalize e.key=u at h
     cases h;rfl
    by_cases hz:z=z'
    ·subst hz
     have hs:Instr.sameNow (.int q) (.int q z) e.key=some true:=by rw [he];simp [Instr.sameNow]
     refine ⟨n,e.val,by simp only [Instr.findNow,hs],?_⟩
     have:=hu c2 (by simp)
     subst this;exact h2
    ·have hs:Instr.sameNow (.int q) (.int q z) e.key=some false:=by rw [he];simp [Instr.sameNow];exact hz
     simp only [Instr.findNow,hs]
     refine Ms rfl (n+1) t t2 (fun k hk=>hi k (by simp [hk])) ?_ (fun d' hd=>hu d' (by simp [hd]))
     simp only [List.zip_cons_cons,List.mem_cons,Prod.mk.injEq,DV.i.injEq,true_and] at hm
     rcases hm with ⟨h3,_⟩|hm
     ·exact absurd h3 hz
     ·exact hm
theorem Je {kt:TypeId} {q:IntKind} {z:Int} (hk:P.underlying kt=some (.int q)) (b:Bool) (n:Nat) : (Instr.checkKey b (n+1) kt (.int q z)).run P w=.ok () w:=by
 unfold Instr.checkKey
 simp [run_underlying hk]
theorem Hj {kt:TypeId} {q:IntKind} {z:Int} {es:List MapEntry} {r:Option (Nat×Value)} (hk:P.underlying kt=some (.int q)) (hf:Instr.findNow (.int q) (.int q z) es 0=some r) : (Instr.findKey kt (.int q z) es).run P w=.ok r w:=by
 simp [Instr.findKey,run_underlying hk,hf]
theorem No {r:Nat} {es:Array MapEntry} {c:Nat} (hh:w.heap[r]?=some (.map es c)) : (getObj r).run P w=.ok (.map es c) w:=by
 simp [getObj,Sem.run,hh]
theorem P7 {ty kt et:TypeId} {q:IntKind} {r:Nat} {es:Array MapEntry} {clock:Nat} {z:Int} {v:Value} (hu:P.underlying ty=some (.map kt et)) (hk:P.underlying kt=some (.int q)) (hh:w.heap[r]?=some (.map es clock)) (hf:Instr.findNow (.int q) (.int q z) es.toList 0=some none) :
  (Instr.mapUpdate ty (.map (some r)) (.int q z) v).run P w=.ok () {w with heap:=w.heap.setIfInBounds r (.map (es.push {key:=.int q z,val:=v,born:=clock}) (clock+1))}:=by
 have h1:=Je (w:=w) (z:=z) hk false 9999
 have h2:=Hj (w:=w) (z:=z) hk hf
 have h3:=No (P:=P) hh
 unfold Instr.mapUpdate
 simp only [run_underlying hu,Sem.run_bind,Result.andThen_ok,h1,h2,h3]
 simp [setObj,Sem.run,hh]
theorem LG {ty kt et:TypeId} {q:IntKind} {r:Nat} {es:Array MapEntry} {clock:Nat} {z:Int} {i:Nat} {v:Value} (hu:P.underlying ty=some (.map kt et)) (hk:P.underlying kt=some (.int q)) (hh:w.heap[r]?=some (.map es clock)) (hf:Instr.findNow (.int q) (.int q z) es.toList 0=some (some (i,v))) :
  (Instr.lookup ty (.map (some r)) (.int q z) false).run P w=.ok v w:=by
 have h1:=Je (w:=w) (z:=z) hk es.isEmpty 9999
 have h2:=Hj (w:=w) (z:=z) hk hf
 have h3:=No (P:=P) hh
 unfold Instr.lookup
 simp only [run_underlying hu,Sem.run_bind,Sem.run_pure,Result.andThen_ok,h1,h2,h3]
 rfl
theorem Ki {ty kt et:TypeId} {q:IntKind} {r:Nat} {es:Array MapEntry} {clock:Nat} {z:Int} {v:Value} (hu:P.underlying ty=some (.map kt et)) (hk:P.underlying kt=some (.int q)) (hz:(zeroValue et).run P w=.ok v w) (hh:w.heap[r]?=some (.map es clock)) (hf:Instr.findNow (.int q) (.int q z) es.toList 0=some none) :
  (Instr.lookup ty (.map (some r)) (.int q z) false).run P w=.ok v w:=by
 have h1:=Je (w:=w) (z:=z) hk es.isEmpty 9999
 have h2:=Hj (w:=w) (z:=z) hk hf
 have h3:=No (P:=P) hh
 unfold Instr.lookup
 simp only [run_underlying hu,Sem.run_bind,Sem.run_pure,Result.andThen_ok,h1,h2,h3,hz]
 rfl
theorem JI {ks vs ks' vs':List DV} (hp:(ks'.zip vs').Perm (ks.zip vs)) (hl:ks'.length=vs'.length) {k:DV} (h:k∈ks') : k∈ks:=by
 obtain ⟨v,hv⟩:=Ri hl h
 exact (List.of_mem_zip (hp.mem_iff.1 hv)).1
theorem Sim.om_inv (hs:Sim P X env H a w I μ O) {t:Nat} {ks vs:List DV} (hg:get env t=.om ks vs) :
  ∃ blk es c ks' vs',a.tmps.getD t undef=.map (some blk)∧w.heap[blk]?=some (.map es c)∧RepAll w I ks' (es.toList.map MapEntry.key)∧RepAll w I vs' (es.toList.map MapEntry.val)∧(ks'.zip vs').Perm (ks.zip vs)∧ks.length=vs.length∧O blk=some (.t t):=by
 have:=hs.envr t
 rw [hg] at this
 obtain ⟨bs,h1,h2,h3⟩:=this.plain rfl
 generalize a.tmps.getD t undef=v at h1
 cases h1 with
 | om _ _ ks' vs' blk es c hh hk hv hp hl=>exact ⟨blk,es,c,ks',vs',rfl,hh,hk,hv,hp,hl,h3 blk (by simp)⟩
theorem Sim.ins (hs:Sim P X env H a w I μ O) {t:Nat} {ks vs:List DV} (hg:get env t=.om ks vs) {ty kt et:TypeId} {q:IntKind} {z:Int} {d:DV} {v:Value} (hu:P.underlying ty=some (.map kt et)) (hk:P.underlying kt=some (.int q)) (hf:freshK q z ks) (hv:Rep w I d v) :
  ∃ w',(Instr.mapUpdate ty (a.tmps.getD t undef) (.int q z) v).run P w=.ok () w'∧Sim P X ((t,.om (ks++[.i q z]) (vs++[d]))::env) H a w' I μ O:=by
 obtain ⟨blk,es,c,ks',vs',h1,h2,h3,h4,h5,h6,hO⟩:=hs.om_inv hg
 have hl':ks'.length=vs'.length:=by rw [h3.length,h4.length,List.length_map,List.length_map]
 have hfn:=Jx (q:=q) (z:=z) rfl 0 h3 fun k hk=>hf k (JI h5 hl' hk)
 have hlt:blk<w.heap.size:=(hs.own blk _ hO).1
 refine ⟨{w with heap:=w.heap.setIfInBounds blk (.map (es.push {key:=.int q z,val:=v,born:=c}) (c+1))},by rw [h1];exact P7 hu hk h2 hfn,?_⟩
 have hoth:∀ b,b≠blk→(w.heap.setIfInBounds blk (.map (es.push {key:=.int q z,val:=v,born:=c}) (c+1)))[b]?=w.heap[b]?:=fun b hb=>by
  rw [Array.getElem?_setIfInBounds,if_neg (Ne.symm hb)]
 obtain ⟨n1,_,_⟩:=hs.other_blk hO
 refine hs.blkSet (w':={w with heap:=w.heap.setIfInBounds blk (.map (es.push {key:=.int q z,val:=v,born:=c}) (c+1))}) (av:=.om (ks++[.i q z]) (vs++[d])) hO (by rw [hg];rfl) rfl hoth (by simp) rfl rfl rfl ?_
 rw [h1]
 have hI:∀ b,I b→(w.heap.setIfInBounds blk (.map (es.push {key:=.int q z,val:=v,born:=c}) (c+1)))[b]?=w.heap[b]?:=fun b hi=>hoth b (n1 b hi)
 refine .om _ _ (ks'++[.i q z]) (vs'++[d]) blk (es.push {key:=.int q z,val:=v,born:=c}) (c+1) ?_ ?_ ?_ ?_ (by simp [h6])
 ·show (w.heap.setIfInBounds blk _)[blk]?=_
  rw [Array.getElem?_setIfInBounds,if_pos rfl,if_pos hlt]
 ·rw [Array.toList_push,List.map_append]
  exact (h3.keep hI fun _ h=>h).append (.cons (.i _ _) .nil)
 ·rw [Array.toList_push,List.map_append]
  exact (h4.keep hI fun _ h=>h).append (.cons (hv.keep hI fun _ h=>h) .nil)
 ·rw [List.zip_append hl',List.zip_append h6]
  exact List.Perm.append h5 (List.Perm.refl _)
theorem Im {m:Nat} {x y:Operand} {ty kt et:TypeId} {q:IntKind} {z:Int} {ks vs:List DV} {d:DV} (hu:P.underlying ty=some (.map kt et)) (hk:P.underlying kt=some (.int q)) (hf:freshK q z ks) (h:RL P C ops Q (k+1) l ((m,.om (ks++[.i q z]) (vs++[d]))::env) H) (hg:grd ops env o true=true:=by rfl)
  (ho:o.op=.insert ty (.tmp m) x y:=by rfl) (hm:get env m=.om ks vs:=by rfl) (hx:A3 (lk env x)=some (.i q z):=by rfl) (hy:A3 (lk env y)=some d:=by rfl) (hd:o.dst=none:=by rfl):RL P C ops Q k (o::l) env H:=by
 refine .go hg (.done (by simp [ho]) hd (fun X a w I μ O _ _ _ hs=>?_) h)
 have h1:=hs.deep (x:=x) hx
 have h2:=hs.deep (x:=y) hy
 generalize hev:a.eval x=u at h1
 cases h1
 obtain ⟨w',r1,r2⟩:=hs.ins hm hu hk hf h2
 have he:a.eval (.tmp m)=a.tmps.getD m undef:=rfl
 exact ⟨w',I,μ,O,by simp only [execOp,ho,hev,he,r1,Sem.run_bind,Result.andThen_ok,Sem.run_pure],r2⟩
theorem Gh.omf {t:Nat} {ks vs:List DV} (hg:get env t=.om ks vs) : Gh P C env H ((t,.d (.mp ks vs))::env) H:=fun X a w I μ O _ _ _ hs=>by
 obtain ⟨blk,es,c,ks',vs',h1,h2,h3,h4,h5,h6,hO⟩:=hs.om_inv hg
 obtain ⟨n1,n2,n3⟩:=hs.other_blk hO
 refine ⟨_,_,⟨hs.toMem.frz [blk] (fun b hm=>by simp at hm;subst hm;exact (hs.own b _ hO).1) (fun b hm hk=>by simp at hm;exact n2 b hk hm) H rfl ?_,fun s=>?_,hs.nt,hs.dfs⟩⟩
 ·intro id ob ho
  obtain ⟨bb,bs,k1,k2,k3,k4⟩:=hs.heap id ob ho
  refine ⟨bb,bs,k1,k2.mono fun _ h=>.inl h,fun hn=>⟨(k3 hn).1,fun b hb=>?_⟩,k4⟩
  have:b∉[blk]:=by simpa using n3 id ob bb bs ho k1 k3 k4 b hb
  simp only [this,if_false]
  exact (k3 hn).2 b hb
 ·by_cases hst:t=s
  ·subst hst
   rw [show get ((t,.d (.mp ks vs))::env) t=.d (.mp ks vs) by simp [get]]
   refine .of (bs:=[]) ?_ nN (by simp)
   rw [h1]
   exact .d (.mp ks vs ks' vs' blk es c (.inr (by simp)) h2 (h3.keep (fun _ _=>rfl) fun _ h=>.inl h) (h4.keep (fun _ _=>rfl) fun _ h=>.inl h) h5 h6)
  ·rw [show get ((t,.d (.mp ks vs))::env) s=get env s by simp [get,hst]]
   have key:∀ p e xs,AK env H p=.own e xs→AK ((t,AV.d (.mp ks vs))::env) H p=.own e xs:=by
    intro p e' xs hp
    cases p with
    | t r =>
     have hr':t≠r:=fun h=>by subst h;simp only [AK] at hp;rw [hg] at hp;cases hp
     simp only [AK,get,if_neg hr'];exact hp
    | c id off=>exact hp
   have ht:=hs.envr s
   cases hgs:get env s with
   | ref p off len =>
    rw [hgs] at ht
    obtain ⟨e',xs,A,n,c,g1,g2,g3,g4⟩:=ht
    exact ⟨e',xs,A,n,c,key p e' xs g1,g2,g3,g4⟩
   | ep p i k =>
    rw [hgs] at ht
    obtain ⟨e',xs,b,n,c,g1,g2,g3,g4,g5⟩:=ht
    exact ⟨e',xs,b,n,c,key p e' xs g1,g2,g3,g4,g5⟩
   | _ =>
    rw [hgs] at ht
    obtain ⟨bs,g1,g2,g3⟩:=ht.plain rfl
    refine .of (g1.keep (fun _ h=>.inl h) (fun _ _=>rfl) (fun _ _ h=>h) fun _ _=>rfl) g2 fun b hb=>?_
    have:b∉[blk]:=fun hm=>by
     simp at hm;subst hm
     have:=g3 b hb;rw [hO] at this;simp at this;exact hst this
    simp only [this,if_false]
    exact g3 b hb
theorem Xs {x y:Operand} {ty kt et:TypeId} {q:IntKind} {z:Int} {ks vs:List DV} {d:DV} (hu:P.underlying ty=some (.map kt et)) (hk:P.underlying kt=some (.int q)) (hi:∀ k∈ks,∃ z',k=.i q z') (hm:(.i q z,d)∈ks.zip vs) (hq:∀ d',(.i q z,d')∈ks.zip vs→d'=d)
  (ho:o.op=.lookup ty x y false:=by rfl) (hx:A3 (lk env x)=some (.mp ks vs):=by rfl) (hy:A3 (lk env y)=some (.i q z):=by rfl):VOK P C o env H (.d d) :=
 .pv ⟨by simp [ho],fun X a w I μ O _ hs=>by
  have h1:=hs.deep (x:=x) hx
  have h2:=hs.deep (x:=y) hy
  generalize hev:a.eval x=u at h1
  generalize hev2:a.eval y=u2 at h2
  cases h2
  cases h1 with
  | mp _ _ ks' vs' r es c hI hh h3 h4 hp hl =>
   have hl':ks'.length=vs'.length:=by rw [h3.length,h4.length,List.length_map,List.length_map]
   obtain ⟨i,v,e1,e2⟩:=Ms (q:=q) (z:=z) (d:=d) rfl 0 h3 h4 (fun k hk=>hi k (JI hp hl' hk)) (hp.mem_iff.2 hm) fun d' hd=>hq d' (hp.mem_iff.1 hd)
   exact ⟨v,by simp only [execOp,ho,hev,hev2,LG hu hk hh e1,Sem.run_bind,Result.andThen_ok,Sem.run_pure],.of_rep e2⟩⟩
theorem Xj {x y:Operand} {ty kt et:TypeId} {q:IntKind} {z:Int} {ks vs:List DV} {d:DV} {zv:Value} (hu:P.underlying ty=some (.map kt et)) (hk:P.underlying kt=some (.int q)) (hz:∀ w,(zeroValue et).run P w=.ok zv w) (hd:∀ w I,Rep w I d zv) (hf:freshK q z ks)
  (ho:o.op=.lookup ty x y false:=by rfl) (hx:A3 (lk env x)=some (.mp ks vs):=by rfl) (hy:A3 (lk env y)=some (.i q z):=by rfl):VOK P C o env H (.d d) :=
 .pv ⟨by simp [ho],fun X a w I μ O _ hs=>by
  have h1:=hs.deep (x:=x) hx
  have h2:=hs.deep (x:=y) hy
  generalize hev:a.eval x=u at h1
  generalize hev2:a.eval y=u2 at h2
  cases h2
  cases h1 with
  | mp _ _ ks' vs' r es c hI hh h3 h4 hp hl =>
   have hl':ks'.length=vs'.length:=by rw [h3.length,h4.length,List.length_map,List.length_map]
   have e1:=Jx (q:=q) (z:=z) rfl 0 h3 fun k hk=>hf k (JI hp hl' hk)
   exact ⟨zv,by simp only [execOp,ho,hev,hev2,Ki hu hk (hz w) hh e1,Sem.run_bind,Result.andThen_ok,Sem.run_pure],.of_rep (hd w I)⟩⟩
end
end Go.FL
namespace Go.FL
open Go Go.RowKit
section
variable {P:Program} {C:Cx} {X:Snap} {o:Oper} {ops:Array Oper} {Q:Exit→Env→Ac→Prop} {env env':Env} {H H':Ac} {a:Act} {w w':World} {I I':Nat→Prop} {μ μ':List Nat} {O O':Nat→Option Loc}
 {K:Env→Ac→Prop} {k:Nat} {l:List Oper}
def ET (P:Program) (t:TypeId) : Bool:=match P.underlying t with
 | some (.func ..)=>true
 | _=>false
theorem Rp {t:TypeId} (hu:ET P t=true) (f:Go.Fn) (fs cs:Array Value) : (Op.equal t (.func f fs cs) .nilFunc).run P w=.ok false w:=by
 unfold ET at hu
 split at hu
 ·rename_i h
  have e:Op.equal t (.func f fs cs) .nilFunc=Op.equalIn (9999+1) t (.func f fs cs) .nilFunc:=rfl
  rw [e]
  unfold Op.equalIn
  simp only [run_underlying h,Sem.run_bind,Result.andThen_ok,Sem.run_pure]
 ·cases hu
theorem Ry {t:TypeId} (hu:ET P t=true) : (Op.equal t .nilFunc .nilFunc).run P w=.ok true w:=by
 unfold ET at hu
 split at hu
 ·rename_i h
  have e:Op.equal t .nilFunc .nilFunc=Op.equalIn (9999+1) t .nilFunc .nilFunc:=rfl
  rw [e]
  unfold Op.equalIn
  simp only [run_underlying h,Sem.run_bind,Result.andThen_ok,Sem.run_pure]
 ·cases hu
theorem Xi {xt yt:TypeId} {x y:Operand} {f:FuncId} {fs cs:List DV} (hu:ET P xt=true) (ho:o.op=.binOp .eql xt x y yt:=by rfl) (hx:A3 (lk env x)=some (.fn f fs cs):=by rfl) (hy:A3 (lk env y)=some .nf:=by rfl) : VOK P C o env H (.d (.b false)):=by
 refine .same (by simp [ho]) fun X a w I μ O _ hs=>⟨.bool false,?_,.b _⟩
 have h1:=hs.deep hx
 have h2:=hs.deep hy
 generalize hev:a.eval x=v1 at h1
 generalize hev2:a.eval y=v2 at h2
 cases h1;cases h2
 simp [execOp,ho,hev,hev2,binOp,eqGuard,Rp hu]
theorem WH {xt yt:TypeId} {x y:Operand} (hu:ET P xt=true) (ho:o.op=.binOp .eql xt x y yt:=by rfl) (hx:A3 (lk env x)=some .nf:=by rfl) (hy:A3 (lk env y)=some .nf:=by rfl) : VOK P C o env H (.d (.b true)):=by
 refine .same (by simp [ho]) fun X a w I μ O _ hs=>⟨.bool true,?_,.b _⟩
 have h1:=hs.deep hx
 have h2:=hs.deep hy
 generalize hev:a.eval x=v1 at h1
 generalize hev2:a.eval y=v2 at h2
 cases h1;cases h2
 simp [execOp,ho,hev,hev2,binOp,eqGuard,Ry hu]
end
end Go.FL
namespace Go.FL
open Go Go.Proofs
abbrev Ah : Type:=FW (RT) (RT×Int)
abbrev Ce (f:Ah) : Prop:=f.OK Tryz.prog (fun x=>[.ag [.b x.1,.sl (L x.2.1),.sl (L x.2.2)]]) (fun r=>.tup [.d (.ag [.b r.1.1,.sl (L r.1.2.1),.sl (L r.1.2.2)]),.d (.i .i64 r.2)])
abbrev Ak : Type:=FW (Int) (Itm×Int)
abbrev IE (f:Ak) : Prop:=f.OK Tryz.prog (fun x=>[.i .i64 x]) (fun r=>.tup [.d (.ag [.i .u8 r.1.kind,.b r.1.num.1,.sl (L r.1.num.2.1),.sl (L r.1.num.2.2),.i .i32 r.1.char,.sl (Ars r.1.box)]),.d (.i .i64 r.2)])
theorem Vk : Cj Tryz.prog 34=some true:=by kernel_rfl
theorem SX : AC Tryz.prog 34=5:=by kernel_rfl
theorem Rk : BA Tryz.prog 34 0=some (0,1):=by kernel_rfl
theorem WS : C9 Tryz.prog 34=some [(0,1),(1,3),(4,1)]:=by kernel_rfl
theorem Vs : (Tryz.prog.info? 34).bind (·.zero)=some (.agg #[.int .i64 0,.bool false,.slice none 0 0,.slice none 0 0,.int .i64 0]):=by kernel_rfl
theorem U7 (w:World) (I:Nat→Prop) : RepAll w I [.i .i64 0,.b false,.sl [],.sl [],.i .i64 0] (Value.agg #[.int .i64 0,.bool false,.slice none 0 0,.slice none 0 0,.int .i64 0]).cells.toList:=.cons (.i _ _) (.cons (.b _) (.cons (.sl0 _ _) (.cons (.sl0 _ _) (.cons (.i _ _) (.nil)))))
theorem Gb : Cj Tryz.prog 60=some false:=by kernel_rfl
theorem FC : ET Tryz.prog 60=true:=by kernel_rfl
end Go.FL
namespace Go.FL
open Go Go.RowKit
section
variable {P:Program} {C:Cx} {X:Snap} {o:Oper} {ops:Array Oper} {Q:Exit→Env→Ac→Prop} {env env':Env} {H H':Ac} {a:Act} {w w':World} {I I':Nat→Prop} {μ μ':List Nat} {O O':Nat→Option Loc}
 {K:Env→Ac→Prop} {k:Nat} {l:List Oper}
theorem Sim.frzT (hs:Sim P X env H a w I μ O) {n:Nat} {e:TypeId} {xs:List DV} (hp:get env n=.own e xs) : ∃ (bs:List Nat) (O':Nat→Option Loc),Sim P X (Ih (.t n) xs env) H a w (fun b=>I b∨b∈bs) μ O':=by
 obtain ⟨v,bs,hv,hr,hb,hO⟩:=hs.at_place (p:=.t n) hp
 have hO':∀ b∈bs,O b=some (.t n):=fun b hm=>(hO b hm).2.1 n rfl
 refine ⟨bs,_,⟨hs.toMem.frz bs (fun b hm=>(hO b hm).1) (fun b hm hk=>by have:=hs.kO b hk;rw [hO' b hm] at this;cases this) H rfl ?_,hs.frz_env (p:=.t n) hp hv hr hO' (fun _ _ _ _ h=>h),hs.nt,hs.dfs⟩⟩
 intro id o ho
 obtain ⟨blk,cs,h1,h2,h3,h4⟩:=hs.heap id o ho
 refine ⟨blk,cs,h1,h2.mono fun _ h=>.inl h,fun hn=>⟨(h3 hn).1,fun b hb=>?_⟩,h4⟩
 have h5:=(h3 hn).2 b hb
 have:b∉bs:=fun hm=>by have:=hO' b hm;rw [h5] at this;simp at this
 simp [this,h5]
theorem WQ {c:Call} {fo:Operand} {gv:DV} {xs xs0:List DV} {q:IntKind} {n:Int} (s:Nat) {e:TypeId} {ys:List DV} (h:FnV P gv xs (.d (.i q n))) (hp:get env s=.own e ys:=by rfl) (ho:o.op=.call c:=by rfl) (hc:c.callee=.value fo:=by rfl) (hfo:lk env fo=.d gv:=by rfl) (ha:argsD (Ih (.t s) ys env) c.args.toList=some xs0:=by rfl) (hx:xs0=xs:=by simp) : VOK P C o env H (.d (.i q n)):=by
 subst hx
 obtain ⟨f,first,caps,rfl,hcall,hfn⟩:=h
 intro X a w I μ O next Q h1 h2 h3 hs hn
 have hfr0:=hs.deep (x:=fo) (v:=.fn f first caps) (by rw [hfo];rfl)
 obtain ⟨bs0,O2,hs2⟩:=hs.frzT hp
 have hfr:=hfr0.keep (w':=w) (I':=fun b=>I b∨b∈bs0) (fun _ _=>rfl) (fun _ h=>.inl h)
 generalize hev:a.eval fo=u at hfr
 cases hfr with
 | fn _ _ _ fs cs hfs hcs =>
  refine ⟨fun _ _=>trivial,?_⟩
  have hres:=CC (P:=P) (w:=w) (ρ:=a.eval) (ty:=o.type) hc hev
  have hex:(execOp a.eval o).run P w=.ok (.enter f (fs.toArray++c.args.map a.eval++cs.toArray)) w:=by
   simp only [execOp,ho,Sem.run_bind,hres,Result.andThen_ok,invoke,hcall]
  rw [Oper.semAt_eq _ _ _ (by simp [ho]),hex,Oper.uponIn_enter]
  refine ⟨fun h=>(by simp [om] at h),?_⟩
  have hcl:=hfn w _ _ hs2.ilt ((hfs.append (hs2.argsD ha)).append hcs)
  have e:(fs++c.args.toList.map a.eval++cs).toArray=fs.toArray++c.args.map a.eval++cs.toArray:=by
   apply Array.ext';simp
  rw [e] at hcl
  refine ⟨trivial,fun csF hroom=>?_⟩
  obtain ⟨e,w',fr,⟨v,I',bs,rfl,q1,q2,q3,q4,q5,q6⟩,s,x⟩:=hcl.2 csF (room_wide _)
  have hv:∀ J:Nat→Prop,ARep P w' J μ (.d (.i q n)) v []:=by
   intro J
   cases q4 with
   | d h=>cases h;exact .d (.i _ _)
  exact ⟨.returned v,w',fr,hn v w' (fun b=>I' b∧(b<w.heap.size→I b)) [] q1 (fun b hb=>⟨q2 b (.inl hb),fun _=>hb⟩) (fun b hb=>⟨(q3 b hb.1).1,hb.2⟩) (Nt (hv _) rfl) nN (by simp),s,x⟩
theorem T9 {y:Operand} {t ty:Nat} {c c':DV} (hsz:AC P ty=1) (ho:o.op=.store ty (.tmp t) y) (hv:get env t=.nb [c]) (hy:A3 (lk env y)=some c') (h1:c'.leaf=true) (hd:o.dst=none) (hK:K ((t,.nb [c'])::env) H) : OpOK P C o env H K:=by
 refine .done (by simp [ho]) hd (fun X a w I μ O _ _ _ hs=>?_) hK
 have hr:=hs.deep (x:=y) hy
 generalize hev:a.eval y=u at hr
 obtain ⟨blk,cells,e,q1,q2,q3,q4⟩:=hs.nbSet (vs:=[u]) hv (.cons hr .nil)
 refine ⟨_,I,μ,O,?_,q4⟩
 have hone:=hr.one h1
 obtain ⟨old,hold⟩:∃ old,cells=#[old]:=by
  have hl:=q3.length
  match hc:cells.toList,hl with
  | [old],_=>exact ⟨old,by apply Array.ext';simpa using hc⟩
 subst hold
 obtain ⟨i,i1,i2⟩:=HE (P:=P) (t:=ty) (by omega)
 have hx:a.eval (.tmp t)=.pointer (some ⟨blk,0,none⟩):=q1
 have hsi:(P.info? ty).map (·.size)=some 1:=by rw [i1];simp;omega
 simp only [execOp,ho,hx,hev,Instr.storeAt,Instr.sureAddr,Sem.run_bind,Sem.run_pure,Result.andThen_ok,Go.run_storeVar_one w blk e ty old u q2 hsi hone]
theorem Xp {y:Operand} {t ty:Nat} {c c':DV} (h:RL P C ops Q (k+1) l ((t,.nb [c'])::env) H) (hsz:AC P ty=1) (hg:grd ops env o true=true:=by rfl) (ho:o.op=.store ty (.tmp t) y:=by rfl)
  (hv:get env t=.nb [c]:=by rfl) (hy:A3 (lk env y)=some c':=by rfl) (h1:c'.leaf=true:=by rfl) (hd:o.dst=none:=by rfl):RL P C ops Q k (o::l) env H :=
 .go hg (T9 hsz ho hv hy h1 hd h)
theorem mk' {α:Type} {F:List α→List DV} {x0:α} {x c:Operand} {ty t e by_:Nat} {z:Value} {q q':IntKind} {zl:Int} (n:Nat) (hF:List.replicate n (PQ z)=F (List.replicate n x0)) (hn:zl=n) (hb:by_ * n≤281474976710656∧n≤9223372036854775807) (h:RL P C ops Q (k+1) l ((t,.own e (F (List.replicate n x0)))::env) H)
  (hT:Cm P ty=some (e,1,by_,z)) (hz:zok z=true) (hg:grd ops env o true=true:=by rfl) (ho:o.op=.makeSlice ty x c:=by rfl) (hx:lk env x=.d (.i q zl):=by rfl) (hc:lk env c=.d (.i q' zl):=by rfl) (hd:o.dst=some t:=by rfl)
  (hf:Al (get env t)=false:=by rfl) (ht:okT C.nt t:=by rfl):RL P C ops Q k (o::l) env H :=
 mk n ⟨hn,hn⟩ hb (by rw [hF];exact h) hT hz hg ho hx hc hd hf ht
end
end Go.FL
namespace Go.FL
open Go Go.RowKit
def Uu (id:Nat) (cs:List DV) : AV→AV
 | .bp i off=>if i=id then .d (.ptr (cs.drop off)) else .bp i off
 | .d v=>.d v
 | .nl=>.nl
 | .own e xs=>.own e xs
 | .nb xs=>.nb xs
 | .it s p=>.it s p
 | .om k v=>.om k v
 | .ref (.t s) o n=>.ref (.t s) o n
 | .ep (.t s) i k=>.ep (.t s) i k
 | _=>.un
def R0 (id:Nat) (cs:List DV) (env:Env) : Env:=env.map fun x=>(x.1,Uu id cs x.2)
theorem IJ (id:Nat) (cs:List DV) (t:Nat) : ∀ env : Env,get (R0 id cs env) t=Uu id cs (get env t)
 | []=>rfl
 | (s,v)::r=>by
  show (if s=t then Uu id cs v else get (R0 id cs r) t)=Uu id cs (if s=t then v else get r t)
  split
  ·rfl
  ·exact IJ id cs t r
def Va : HO→Bool
 | .box cs=>noBpL cs
section
variable {P:Program} {C:Cx} {X:Snap} {o:Oper} {ops:Array Oper} {Q:Exit→Env→Ac→Prop} {env env':Env} {H H':Ac} {a:Act} {w w':World} {I I':Nat→Prop} {μ μ':List Nat} {O O':Nat→Option Loc}
 {K:Env→Ac→Prop} {k:Nat} {l:List Oper}
theorem ARepAll.deepAll : ∀ {cs:List DV} {vs:List Value} {bs:List Nat},ARepAll P w I μ (cs.map .d) vs bs→bs=[]∧RepAll w I cs vs
 | [],_,_,h=>by cases h;exact ⟨rfl,.nil⟩
 | c::cs,_,_,h=>by
  cases h with
  | cons h t =>
   obtain ⟨e,r⟩:=t.deepAll
   subst e
   cases h with
   | d h=>exact ⟨rfl,.cons h r⟩
theorem Gh2.pop {H0:Ac} {bx:List AV} {cs:List DV} (hH:H=H0++[.box bx]) (hb:bx=cs.map .d) (hb0:H0.all Va=true) (hne:Nat.ble C.ne H0.length=true) : Gh2 P C env H (R0 H0.length cs env) H0:=fun X a w I μ O _ h2 h3 hs=>by
 subst hH hb
 have hne':X.ne≤H0.length:=by rw [h3];exact Nat.le_of_ble_eq_true hne
 have hn0:X.n0≤H0.length:=nT hs.n0le hne'
 have hμl:μ.length=H0.length+1:=by rw [hs.μlen];simp
 obtain ⟨blk,bs,k1,⟨cells,e,m1,m2⟩,k3,_⟩:=hs.heap H0.length (.box (cs.map .d)) (by simp)
 obtain ⟨rfl,m3⟩:=m2.deepAll
 have hO:O blk=some (.o H0.length):=(k3 hn0).2 blk (by simp)
 have hKn:∀ b,X.K b→b≠blk:=fun b hk e=>by subst e;have:=hs.kO _ hk;rw [hO] at this;cases this
 have hμt:∀ i,i<H0.length→(μ.take H0.length)[i]?=μ[i]?:=fun i hi=>by rw [List.getElem?_take,if_pos hi]
 have hOn:∀ b l,O b=some l→l≠.o H0.length→(if b=blk then none else O b)=some l:=fun b l h hl=>by
  rw [if_neg fun e=>by subst e;rw [hO] at h;exact hl (oI h).symm];exact h
 refine ⟨fun b=>I b∨b=blk,μ.take H0.length,fun b=>if b=blk then none else O b,{
  prot:=hs.prot
  kO:=fun b hk=>by rw [if_neg (hKn b hk)];exact hs.kO b hk
  kI:=fun b hk hi=>hi.elim (hs.kI b hk) fun e=>absurd e (hKn b hk)
  mono:=fun b hi=>.inl (hs.mono b hi)
  os:=hs.os,tape:=hs.tape,output:=hs.output,size:=hs.size
  own:=fun b l hl=>by
   by_cases hb:b=blk
   ·rw [if_pos hb] at hl;cases hl
   ·rw [if_neg hb] at hl
    exact ⟨(hs.own b l hl).1,fun hi=>hi.elim (hs.own b l hl).2 hb⟩
  ilt:=fun b hi=>hi.elim (hs.ilt b) fun e=>by rw [e];exact (hs.own blk _ hO).1
  μlen:=by rw [List.length_take];omega
  μpre:=fun i b hi hb=>by rw [hμt i (by omega)];exact hs.μpre i b hi hb
  nle:=hne'
  heap:=fun id ob ho=>?_
  klt:=hs.klt
  n0le:=hs.n0le
  envr:=fun s=>?_
  nt:=hs.nt
  dfs:=hs.dfs}⟩
 ·have hlt:=(lS.1 ho).1
  obtain ⟨bb,bs',q1,q2,q3,q4⟩:=hs.heap id ob (by rw [List.getElem?_append_left hlt];exact ho)
  refine ⟨bb,bs',by rw [hμt id hlt];exact q1,?_,fun hn=>⟨(q3 hn).1,fun b hb=>hOn b _ ((q3 hn).2 b hb) (by simp;omega)⟩,q4⟩
  have hnb:Va ob=true:=List.all_eq_true.1 hb0 ob (List.mem_of_getElem? ho)
  cases ob with
  | box c =>
   obtain ⟨cl,et,n1,n2⟩:=q2
   exact ⟨cl,et,n1,(n2.noBp (μ':=μ.take H0.length) hnb).keep (fun _ h=>.inl h) (fun _ _=>rfl) (fun _ _ h=>h) fun _ _=>rfl⟩
 ·rw [IJ]
  have ht:=hs.envr s
  have plain:∀ av,get env s=av→noBp av=true→AP av=false→TRep P (R0 H0.length cs env) H0 a w (fun b=>I b∨b=blk) (μ.take H0.length) (fun b=>if b=blk then none else O b) s av:=by
   intro av hav hn hr
   rw [hav] at ht
   obtain ⟨bs,g1,g2,g3⟩:=ht.plain hr
   exact .of ((g1.noBp (μ':=μ.take H0.length) hn).keep (fun _ h=>.inl h) (fun _ _=>rfl) (fun _ _ h=>h) fun _ _=>rfl) g2 fun b hb=>hOn b _ (g3 b hb) (by simp)
  cases hgs:get env s with
  | bp i off =>
   rw [hgs] at ht
   obtain ⟨bs,g1,g2,g3⟩:=ht.plain rfl
   show TRep P _ _ a w _ _ _ s (if i=H0.length then .d (.ptr (cs.drop off)) else .bp i off)
   generalize hv:a.tmps.getD s undef=v at g1
   cases g1 with
   | bp _ _ blk' hb' =>
    by_cases hi:i=H0.length
    ·rw [if_pos hi]
     subst hi
     rw [k1] at hb'
     obtain rfl:=oI hb'
     refine .of (bs:=[]) ?_ nN (by simp)
     rw [hv]
     have hh:Has w blk 0 cells.toList:=fun j u hj=>by
      simp [World.cell?,m1]
      simpa using hj
     have hh2:=hh.drop off
     rw [Nat.zero_add] at hh2
     exact .d (.ptr _ blk off (cells.toList.drop off) (.inr rfl) hh2 ((m3.drop off).keep (fun _ _=>rfl) fun _ h=>.inl h))
    ·rw [if_neg hi]
     have hlt:=(lS.1 hb').1
     refine .of (bs:=[]) ?_ nN (by simp)
     rw [hv]
     exact .bp i off blk' (by rw [hμt i (by omega)];exact hb')
  | ref p off len =>
   cases p with
   | c _ _=>exact .un
   | t r =>
    rw [hgs] at ht
    obtain ⟨e',xs,A,n,c,g1,g2,g3,g4⟩:=ht
    refine ⟨e',xs,A,n,c,?_,g2,g3,g4⟩
    show get (R0 H0.length cs env) r=_
    rw [IJ,show get env r=_ from g1];rfl
  | ep p i k =>
   cases p with
   | c _ _=>exact .un
   | t r =>
    rw [hgs] at ht
    obtain ⟨e',xs,b,n,c,g1,g2,g3,g4,g5⟩:=ht
    refine ⟨e',xs,b,n,c,?_,g2,g3,g4,g5⟩
    show get (R0 H0.length cs env) r=_
    rw [IJ,show get env r=_ from g1];rfl
  | d v=>exact plain _ hgs rfl rfl
  | nl=>exact plain _ hgs rfl rfl
  | own e xs=>exact plain _ hgs rfl rfl
  | nb xs=>exact plain _ hgs rfl rfl
  | it s p=>exact plain _ hgs rfl rfl
  | om k v=>exact plain _ hgs rfl rfl
  | un=>exact .un
  | ag _=>exact .un
  | fn _ _ _=>exact .un
  | tup _=>exact .un
end
end Go.FL
namespace Go.FL
open Go Go.RowKit
theorem NL (q:IntKind) : ∀ (ps:List (Int×DV)),(ps.map fun p=>DV.i q p.1).zip (ps.map (·.2))=ps.map fun p=>(DV.i q p.1,p.2)
 | []=>rfl
 | p::ps=>by simp [NL q ps]
section
variable {P:Program} {C:Cx} {X:Snap} {o:Oper} {ops:Array Oper} {Q:Exit→Env→Ac→Prop} {env env' envi:Env} {H H':Ac} {a:Act} {w w':World} {I I':Nat→Prop} {μ μ':List Nat} {O O':Nat→Option Loc}
 {K:Env→Ac→Prop} {k:Nat} {l:List Oper} {av:AV}
def N4 : Nat:=1000000000
def Xr (P:Program) (C:Cx) (ops:Array Oper) (H:Ac) (env0 vals:Env) (tm i0 ty:Nat) (q:IntKind) (i:Nat) (o:Oper) (t:Nat) (v:AV) : Option (Int×DV)→Prop
 | none=>Pg P C ops H env0 vals o t v∧tm∉o.looksAt ops∧t<N4∧(i≠i0→t≠tm)∧(i=i0→t=tm∧v=.om [] [])
 | some (z,d)=>o.dst=none∧o.guard=none∧v=.un∧t=N4+i∧get env0 t=.un∧FM ops i i0=true∧∃ x y,o.op=.insert ty (.tmp tm) x y∧(∀ e,lk e x=.d (.i q z)) ∧
   ((∀ e,lk e y=.d d)∨∃ s,y=.tmp s∧s≠tm∧s∈o.looksAt ops∧get (Bj (o.looksAt ops) vals++env0) s=.d d)
end
end Go.FL
namespace Go.FL
open Go Go.RowKit
section
variable {P:Program} {C:Cx} {X:Snap} {o:Oper} {ops:Array Oper} {Q:Exit→Env→Ac→Prop} {env env' envi env0 vals:Env} {H H':Ac} {a:Act} {w w':World} {I I':Nat→Prop} {μ μ':List Nat} {O O':Nat→Option Loc}
 {k:Nat} {l:List Oper} {av v:AV} {t tm i0 ty n:Nat} {q:IntKind} {ps qs:List (Int×DV)}
inductive DLM (P:Program) (C:Cx) (ops:Array Oper) (H:Ac) (env0:Env) (tm i0 ty:Nat) (q:IntKind) : Nat→Env→List (Int×DV)→List Oper→Env→List (Int×DV)→Prop
 | nil (n:Nat) (vals:Env) (ps:List (Int×DV)):DLM P C ops H env0 tm i0 ty q n vals ps [] vals ps
 | run {n:Nat} {vals fin:Env} {ps qs:List (Int×DV)} {o:Oper} {t:Nat} {v:AV} {l:List Oper} (hi:n≠i0) (hd:o.dst=some t) (ht:okT C.nt t) (h0:PF (get env0 t)=true) (hn:(vals.map (·.1)).contains t=false) (hs:GH t v=true)
   (hg:grd ops (Bj (o.looksAt ops) vals++env0) o true=true) (hv:VOK P C o (Bj (o.looksAt ops) vals++env0) H v) (hr:CO (Bj (o.looksAt ops) vals++env0)=true) (hl:(o.looksAt ops).contains tm=false) (htd:t<N4) (htm:t≠tm)
   (h:DLM P C ops H env0 tm i0 ty q (n+1) ((t,v)::vals) ps l fin qs):DLM P C ops H env0 tm i0 ty q n vals ps (o::l) fin qs
 | mk {vals fin:Env} {ps qs:List (Int×DV)} {o:Oper} {l:List Oper} (hd:o.dst=some tm) (ht:okT C.nt tm) (h0:PF (get env0 tm)=true) (hn:(vals.map (·.1)).contains tm=false)
   (hg:grd ops (Bj (o.looksAt ops) vals++env0) o true=true) (hv:VOK P C o (Bj (o.looksAt ops) vals++env0) H (.om [] [])) (hr:CO (Bj (o.looksAt ops) vals++env0)=true) (hl:(o.looksAt ops).contains tm=false) (htd:tm<N4)
   (h:DLM P C ops H env0 tm i0 ty q (i0+1) ((tm,.om [] [])::vals) ps l fin qs):DLM P C ops H env0 tm i0 ty q i0 vals ps (o::l) fin qs
 | ins {n:Nat} {vals fin:Env} {ps qs:List (Int×DV)} {o:Oper} {l:List Oper} {x y:Operand} {z:Int} {d:DV} (hi:n≠i0) (hd:o.dst=none) (hgn:o.guard=none) (hop:o.op=.insert ty (.tmp tm) x y) (hx:∀ e,lk e x=.d (.i q z))
   (hy:(∀ e,lk e y=.d d)∨∃ s,y=.tmp s∧s≠tm∧s∈o.looksAt ops∧get (Bj (o.looksAt ops) vals++env0) s=.d d) (hdi:FM ops n i0=true) (h0:get env0 (N4+n)=.un)
   (h:DLM P C ops H env0 tm i0 ty q (n+1) ((N4+n,.un)::vals) (ps++[(z,d)]) l fin qs):DLM P C ops H env0 tm i0 ty q n vals ps (o::l) fin qs
theorem DLM.table {n:Nat} {vals fin:Env} {ps qs:List (Int×DV)} {l:List Oper} (h:DLM P C ops H env0 tm i0 ty q n vals ps l fin qs) : ∃ (tv:List (Nat×AV)) (iv:List (Option (Int×DV))),tv.length=l.length∧iv.length=l.length∧fin=tv.reverse++vals∧qs=ps++iv.filterMap id ∧
  ∀ (i:Nat) o,l[i]?=some o→∃ t v p,tv[i]?=some (t,v)∧iv[i]?=some p∧(n+i=i0→p=none)∧Xr P C ops H env0 ((tv.take i).reverse++vals) tm i0 ty q (n+i) o t v p:=by
 induction h with
 | nil n vals ps=>exact ⟨[],[],rfl,rfl,rfl,by simp,fun i o h=>by simp at h⟩
 | @run n vals fin ps qs o t v l hi hd ht h0 hn hs hg hv hr hl htd htm h ih =>
  obtain ⟨tv,iv,k1,k2,k3,k4,k5⟩:=ih
  refine ⟨(t,v)::tv,none::iv,by simp [k1],by simp [k2],by rw [k3];simp,by rw [k4];simp,fun i o' hio=>?_⟩
  cases i with
  | zero =>
   simp at hio;subst hio
   refine ⟨t,v,none,rfl,rfl,fun _=>rfl,⟨hd,ht,KA h0,fun x hx e=>?_,hs,hr,.inl ⟨hg,hv⟩⟩,fun hm=>?_,htd,fun _=>htm,fun e=>absurd e hi⟩
   ·subst e
    have:(vals.map (·.1)).contains x.1=true:=List.contains_iff_mem.2 (List.mem_map_of_mem hx)
    rw [hn] at this;cases this
   ·have:=List.contains_iff_mem.2 hm
    rw [hl] at this;cases this
  | succ i =>
   obtain ⟨t',v',p',m1,m2,m3,m4⟩:=k5 i o' (by simpa using hio)
   have e:n+(i+1)=n+1+i:=by omega
   refine ⟨t',v',p',by simpa using m1,by simpa using m2,by rw [e];exact m3,?_⟩
   rw [e];simpa using m4
 | @mk vals fin ps qs o l hd ht h0 hn hg hv hr hl htd h ih =>
  obtain ⟨tv,iv,k1,k2,k3,k4,k5⟩:=ih
  refine ⟨(tm,.om [] [])::tv,none::iv,by simp [k1],by simp [k2],by rw [k3];simp,by rw [k4];simp,fun i o' hio=>?_⟩
  cases i with
  | zero =>
   simp at hio;subst hio
   refine ⟨tm,.om [] [],none,rfl,rfl,fun _=>rfl,⟨hd,ht,KA h0,fun x hx e=>?_,rfl,hr,.inl ⟨hg,hv⟩⟩,fun hm=>?_,htd,fun e=>absurd rfl e,fun _=>⟨rfl,rfl⟩⟩
   ·subst e
    have:(vals.map (·.1)).contains x.1=true:=List.contains_iff_mem.2 (List.mem_map_of_mem hx)
    rw [hn] at this;cases this
   ·have:=List.contains_iff_mem.2 hm
    rw [hl] at this;cases this
  | succ i =>
   obtain ⟨t',v',p',m1,m2,m3,m4⟩:=k5 i o' (by simpa using hio)
   have e:i0+(i+1)=i0+1+i:=by omega
   refine ⟨t',v',p',by simpa using m1,by simpa using m2,by rw [e];exact m3,?_⟩
   rw [e];simpa using m4
 | @ins n vals fin ps qs o l x y z d hi hd hgn hop hx hy hdi h0 h ih =>
  obtain ⟨tv,iv,k1,k2,k3,k4,k5⟩:=ih
  refine ⟨(N4+n,.un)::tv,some (z,d)::iv,by simp [k1],by simp [k2],by rw [k3];simp,by rw [k4];simp,fun i o' hio=>?_⟩
  cases i with
  | zero =>
   simp at hio;subst hio
   exact ⟨N4+n,.un,some (z,d),rfl,rfl,fun e=>absurd e hi,hd,hgn,rfl,rfl,h0,hdi,x,y,hop,hx,hy⟩
  | succ i =>
   obtain ⟨t',v',p',m1,m2,m3,m4⟩:=k5 i o' (by simpa using hio)
   have e:n+(i+1)=n+1+i:=by omega
   refine ⟨t',v',p',by simpa using m1,by simpa using m2,by rw [e];exact m3,?_⟩
   rw [e];simpa using m4
end
end Go.FL
namespace Go.FL
open Go Go.RowKit
def SK {α β:Type} (T:List (Int×FW α β)) : List (Int×DV):=T.map fun p=>(p.1,p.2.dv)
def UI {α β:Type} (q:IntKind) (T:List (Int×FW α β)) : DV:=.mp ((SK T).map fun p=>.i q p.1) ((SK T).map (·.2))
def Fe {α β:Type} (T:List (Int×FW α β)) (z:Int) : Option (FW α β):=(T.find? fun p=>decide (p.1=z)).map (·.2)
def TL {α β:Type} (x:Option α) (a:β) (f:α→β) : β:=match x with
 | none=>a
 | some y=>f y
theorem St {α β:Type} {x:Option α} {a r:β} {f:α→β} (e:x=none) (h:TL x a f=r) : a=r:=by subst e;exact h
theorem TY {α β:Type} {x:Option α} {y:α} {a r:β} {f:α→β} (e:x=some y) (h:TL x a f=r) : f y=r:=by subst e;exact h
theorem KB {α β:Type} {T:List (Int×FW α β)} {z:Int} {f:FW α β} (h:Fe T z=some f) : (z,f)∈T:=by
 unfold Fe at h
 simp only [Option.map_eq_some_iff] at h
 obtain ⟨p,hp,rfl⟩:=h
 have h1:=List.find?_some hp
 have h2:=List.mem_of_find?_eq_some hp
 have:p.1=z:=by simpa using h1
 rw [← this];exact h2
theorem U4 {α β:Type} {T:List (Int×FW α β)} {z:Int} (h:Fe T z=none) : ∀ p∈T,p.1≠z:=fun p hp=>by
 unfold Fe at h
 rw [Option.map_eq_none_iff,List.find?_eq_none] at h
 simpa using h p hp
theorem QA {α β:Type} (q:IntKind) (T:List (Int×FW α β)) : ((SK T).map fun p=>DV.i q p.1).zip ((SK T).map (·.2))=T.map fun p=>(DV.i q p.1,p.2.dv):=by
 rw [NL];unfold SK;rw [List.map_map];rfl
theorem MI {α β:Type} : ∀ {T:List (Int×FW α β)},(T.map (·.1)).Nodup→∀ {z f g},(z,f)∈T→(z,g)∈T→f=g
 | p::T,hn,z,f,g,h1,h2=>by
  rw [List.map_cons,List.nodup_cons] at hn
  rcases List.mem_cons.1 h1 with e1|h1<;>rcases List.mem_cons.1 h2 with e2|h2
  ·rw [← e1] at e2;cases e2;rfl
  ·exact absurd (List.mem_map.2 ⟨_,h2,by rw [← e1]⟩) hn.1
  ·exact absurd (List.mem_map.2 ⟨_,h1,by rw [← e2]⟩) hn.1
  ·exact MI hn.2 h1 h2
section
variable {P:Program} {C:Cx} {o:Oper} {ops:Array Oper} {Q:Exit→Env→Ac→Prop} {env:Env} {H:Ac} {k:Nat} {l:List Oper}
theorem Vc {α β:Type} {T:List (Int×FW α β)} {z:Int} {f:FW α β} {x y:Operand} {ty kt et:TypeId} {q:IntKind} (hnd:(T.map (·.1)).Nodup) (hu:P.underlying ty=some (.map kt et)) (hk:P.underlying kt=some (.int q)) (h:Fe T z=some f)
  (ho:o.op=.lookup ty x y false:=by rfl) (hx:A3 (lk env x)=some (UI q T):=by rfl) (hy:A3 (lk env y)=some (.i q z):=by rfl):VOK P C o env H (.d f.dv):=by
 refine Xs (q:=q) (z:=z) hu hk (fun k hk=>?_) ?_ (fun d' hd=>?_) ho hx hy
 ·obtain ⟨p,_,rfl⟩:=List.mem_map.1 hk;exact ⟨_,rfl⟩
 ·rw [QA];exact List.mem_map.2 ⟨_,KB h,rfl⟩
 ·rw [QA] at hd
  obtain ⟨p,hp,e⟩:=List.mem_map.1 hd
  simp only [Prod.mk.injEq,DV.i.injEq,true_and] at e
  obtain ⟨e1,rfl⟩:=e
  have:(z,p.2)∈T:=by rw [← e1];exact hp
  rw [MI hnd this (KB h)]
theorem Vd {α β:Type} {T:List (Int×FW α β)} {z:Int} {x y:Operand} {ty kt et:TypeId} {q:IntKind} (hu:P.underlying ty=some (.map kt et)) (hk:P.underlying kt=some (.int q)) (hz:∀ w,(zeroValue et).run P w=.ok .nilFunc w) (h:Fe T z=none)
  (ho:o.op=.lookup ty x y false:=by rfl) (hx:A3 (lk env x)=some (UI q T):=by rfl) (hy:A3 (lk env y)=some (.i q z):=by rfl):VOK P C o env H (.d .nf):=by
 refine Xj (q:=q) (z:=z) hu hk hz (fun _ _=>.nf) (fun k hk=>?_) ho hx hy
 obtain ⟨p,hp,rfl⟩:=List.mem_map.1 hk
 obtain ⟨p',hp',rfl⟩:=List.mem_map.1 hp
 exact ⟨_,rfl,U4 h p' hp'⟩
theorem WO {xt yt:TypeId} {x y:Operand} {d:DV} (hu:ET P xt=true) (hf:∃ f fs cs,d=.fn f fs cs) (ho:o.op=.binOp .eql xt x y yt:=by rfl) (hx:A3 (lk env x)=some d:=by rfl) (hy:A3 (lk env y)=some .nf:=by rfl) : VOK P C o env H (.d (.b false)):=by
 obtain ⟨f,fs,cs,rfl⟩:=hf
 exact Xi hu ho hx hy
end
end Go.FL
namespace Go.FL
open Go Go.Proofs
section
variable {P:Program} {C:Cx} {o:Oper} {ops:Array Oper} {Q:Exit→Env→Ac→Prop} {env:Env} {H:Ac} {k:Nat} {l:List Oper}
theorem asu {x:Operand} {t:Nat} (h:RL P C ops Q (k+1) l ((t,.un)::env) H) (hg:grd ops env o true=true:=by rfl) (ho:o.op=.assign x:=by rfl) (hd:o.dst=some t:=by rfl) (hf:Al (get env t)=false:=by rfl) (ht:okT C.nt t:=by rfl) : RL P C ops Q k (o::l) env H:=by
 rw [← Aj hf] at h
 exact .go hg (.pure (by simp [ho]) hd ht (fun X a w I μ O _ hs=>⟨a.eval x,by simp [execOp,ho],[],.un _,nN,by simp⟩) h)
theorem freshK.nil {q:IntKind} {z:Int} : freshK q z []:=nofun
theorem freshK.snoc {q:IntKind} {z z':Int} {ks:List DV} (h:freshK q z ks) (hz:z'≠z) : freshK q z (ks++[.i q z']):=fun k hk=>by
 rcases List.mem_append.1 hk with h1|h1
 ·exact h k h1
 ·rw [List.mem_singleton] at h1
  exact ⟨z',h1,hz⟩
end
theorem gkR : Tryz.prog.underlying 21=some (.int .i32):=by kernel_rfl
def isF (d:DV) : Prop:=∃ f fs cs,d=.fn f fs cs
theorem MU {n:Nat} : List.replicate n (PQ (.int .i64 0))=Is (List.replicate n 0):=by simp [Is,PQ]
theorem W0 (w:World) (I:Nat→Prop) : RepAll w I [.sl []] (Value.slice none 0 0).cells.toList:=.cons (.sl0 _ _) .nil
abbrev CB : Type:=FW (Arr) (Arr×Int)
abbrev Ft (f:CB) : Prop:=f.OK Tryz.prog (fun x=>[.ag [.sl (Is x.shape),.sl (Its x.items)]]) (fun r=>.tup [.d (.ag [.sl (Is r.1.shape),.sl (Its r.1.items)]),.d (.i .i64 r.2)])
abbrev Cl : Type:=FW ((List Int)) (Int)
abbrev PZ (f:Cl) : Prop:=f.OK Tryz.prog (fun x=>[.sl (Is x)]) (fun r=>.d (.i .i64 r))
theorem Ed : ET Tryz.prog 63=true:=by kernel_rfl
def Cz (a0:Arr) : Option (Itm):=((A5 a0).bind fun x1=>(if x1=true then ((rd? a0.items 0).bind fun x2=>((IT x2).bind fun x3=>(some (x3)))) else (some ((Itm.mk 0 (false,[],[]) 0 [])))))
theorem LJ {a0:Arr} {r:Itm} (h:Cz a0=some r) :
  Fn Tryz.prog 230 [.ag [.sl (Is a0.shape),.sl (Its a0.items)]] (.d (.ag [.i .u8 r.kind,.b r.num.1,.sl (L r.num.2.1),.sl (L r.num.2.2),.i .i32 r.char,.sl (Ars r.box)])):=by
 unfold Cz at h
 refine Fn.ofC (rs:=[.cell 2 83]) (nt:=12) Tryz.func230 rfl rfl rfl (by simp) rfl ?_;refine .sr ?_;refine vk (vbx) ?_;refine vk (van (Ai B6) B9) ?_;refine rk [1,2] ?_;refine .seq ?_;refine .sr ?_;refine vk (AN An Ad) ?_
 obtain ⟨x1,g1,h⟩:=bnd h
 refine vk (Ar (Bw g1) Tryz.call13) ?_;refine vk (vnt) ?_;refine rk [1,2,5] ?_
 rcases brc h with ⟨hc,h⟩|⟨hc,h⟩
 ·refine cnf (ntf hc) ?_
  refine .skip ?_
  show AW _ _ _ _ _ _
  refine .sr ?_;refine vk (vfa BH) ?_;refine vk (As DJ) ?_
  obtain ⟨x2,g2,h⟩:=bnd h
  obtain ⟨n2,p02,q2⟩:=Av g2
  refine vk (vix n2 p02 (Eo q2) rfl D6) ?_;refine vk (AN A8 Az) ?_
  obtain ⟨x3,g3,h⟩:=bnd h
  refine vk (Ar (J9 g3) Tryz.call183) ?_
  refine stn ?_ Az (by decide)
  refine rk [2] ?_;refine .ret ?_
  cases h
  exact ⟨_,⟨.inr rfl,A8,Az,p6⟩,rfl⟩
 refine cnt (ntt (bf hc)) ?_;refine .sr ?_;refine vk (vbd Gy B6 B9) ?_
 refine stn ?_ Az (by decide)
 refine rk [1,2] ?_;refine .ret ?_
 cases h
 exact ⟨_,⟨.inr rfl,A8,Az,p6⟩,rfl⟩
def Fp (a0:Arr) : Option (Arr):=((A5 a0).bind fun x1=>(if x1=true then ((Ca a0 (⟨.fn 173 [] [],fun x=>Fy x⟩ : BS)).bind fun x2=>(some (x2))) else (some ((Arr.mk [] [])))))
theorem L3 {a0:Arr} {r:Arr} (h:Fp a0=some r) :
  Fn Tryz.prog 185 [.ag [.sl (Is a0.shape),.sl (Its a0.items)]] (.d (.ag [.sl (Is r.shape),.sl (Its r.items)])):=by
 unfold Fp at h
 refine Fn.ofC (rs:=[.cell 2 25]) (nt:=9) Tryz.func185 rfl rfl rfl (by simp) rfl ?_;refine .sr ?_;refine vk (vbx) ?_;refine vk (van (Ai A1) A7) ?_;refine rk [1,2] ?_;refine .seq ?_;refine .sr ?_;refine vk (AN An Ad) ?_
 obtain ⟨x1,g1,h⟩:=bnd h
 refine vk (Ar (Bw g1) Tryz.call13) ?_;refine vk (vnt) ?_;refine rk [1,2,5] ?_
 rcases brc h with ⟨hc,h⟩|⟨hc,h⟩
 ·refine cnf (ntf hc) ?_
  refine .skip ?_
  show AW _ _ _ _ _ _
  refine .sr ?_;refine vk (AN An Ad) ?_
  obtain ⟨x2,g2,h⟩:=bnd h
  refine vk (Ar (DD (D5 Tryz.call173 (fun _ _ h=>Gp h)) g2) Tryz.call174) ?_
  refine stn ?_ Ad (by decide)
  refine rk [2] ?_;refine .ret ?_
  cases h
  exact ⟨_,⟨.inr rfl,An,Ad,p2⟩,rfl⟩
 refine cnt (ntt (bf hc)) ?_;refine .sr ?_;refine vk (vbd Ep A1 A7) ?_
 refine stn ?_ Ad (by decide)
 refine rk [1,2] ?_;refine .ret ?_
 cases h
 exact ⟨_,⟨.inr rfl,An,Ad,p2⟩,rfl⟩
def Bo (a0:(List Int)) (K0:(List Int)→Option ((List Int))) : Nat→(List Int)→Int→Int→Option ((List Int))
 | 0,_,_,_=>none
 | k+1,s3,s4,s5=>(if 0≤s5 then ((rd? s3 s5).bind fun x6=>((rd? a0 s5).bind fun x7=>(Bo a0 K0 k (List.set s3 (Int.toNat s5) s4) (w64 (s4 * x7)) (w64 (s5-1))))) else (K0 s3))
def CD (a0:(List Int)) : Option ((List Int)):=((Fs (0≤((List.length a0:Nat) : Int)∧((List.length a0:Nat) : Int)≤17592186044416)).bind fun x1=>(jn (fun (z2:(List Int))=>(some (z2))) fun K0=>(Bo a0 K0 A4 (List.replicate (Int.toNat ((List.length a0:Nat) : Int)) (0:Int)) 1 (w64 (((List.length a0:Nat) : Int)-1)))))
theorem Ex {a0:(List Int)} {r:(List Int)} (h:CD a0=some r) :
  Fn Tryz.prog 187 [.sl (Is a0)] (.d (.sl (Is r))):=by
 unfold CD at h
 refine Fn.o1 2 27 Tryz.func187 ?_;refine .sr ?_;refine asn ?_;refine rk [0,2] ?_;refine .sr ?_;refine vk (Aa) ?_;refine vk (Cc (AB _) (DS _) Dw) ?_
 obtain ⟨x1,g1,h⟩:=bnd h
 have ghx1:=FP g1
 refine mk' (F:=Is) (x0:=0) (zl:=((List.length a0:Nat):Int)) (Int.toNat ((List.length a0:Nat):Int)) MU (by omega) (by omega) ?_ FT (by decide)
 refine aso ?_;refine rk [0,2,3] ?_;refine .sr ?_;refine ar [0,2,3,4] ?_;refine .seq ?_;refine .sr ?_;refine vk (Aa) ?_;refine vk (Cc (AB _) (DS _) Dw) ?_;refine vk (vbi) ?_;refine ar [0,2,3,4,5] ?_
 obtain ⟨K0,hK0,h⟩:=BU h
 refine AW.mr (σ:=(List Int)) (fun p=>K0 p=some r) (fun p=>[(2,.nl),(3,.own 3 (Is p))]) (fun p=>[]) ?_ ?_
 ·skip
  refine .block ?_
  refine .loop (.gk [0,2,3,4,5] ?_)
  refine AL.ind (σ:=Nat×(List Int)×Int×Int) (m:=fun p=>p.1) (e:=fun p=>[(0,.d (.sl (Is a0))),(2,.nl),(3,.own 3 (Is p.2.1)),(4,.d (.i .i64 p.2.2.1)),(5,.d (.i .i64 p.2.2.2))]) (h:=fun p=>[]) (I:=fun p=>Bo a0 K0 p.1 p.2.1 p.2.2.1 p.2.2.2=some r) ?_ (A4,(List.replicate (Int.toNat ((List.length a0:Nat):Int)) (0:Int)),1,(w64 (((List.length a0:Nat):Int)-1))) h
  rintro ⟨k,s3,s4,s5⟩ h ih
  dsimp only at h ih ⊢
  rcases k with _|k
  ·rw [Bo] at h;cases h
  rw [Bo] at h
  refine .seq ?_;refine .sr ?_;refine vk (Aa) ?_;refine vk (vbi) ?_;refine rk [0,2,3,4,5,13] ?_
  rcases brc h with ⟨hc,h⟩|⟨hc,h⟩
  ·refine cnt (dT hc) ?_
   refine .skip ?_
   show AW _ _ _ _ _ _
   refine .seq ?_;refine .block ?_;refine .sr ?_;refine mvo ?_;refine vk (Aa) ?_;refine vk (Aa) ?_
   obtain ⟨x6,g6,h⟩:=bnd h
   obtain ⟨n6,p06,q6⟩:=Av g6
   refine ixr (off:=0) (len:=(Is s3).length) n6 p06 (by rw [AB];exact (lS.1 q6).1) ?_ Cw (by decide)
   refine RC (F:=Is) (D:=fun x=>.i .i64 x) Jr (us:=s3) (n:=n6) (m:=Int.toNat s5) (x:=s4) (by rw [p06];rfl) ⟨_,by rw [Nat.zero_add];exact Cv q6,rfl⟩ ?_ Fl
   refine RL.gk [0,2,3,4,5,13,17,18] ?_;refine rk [0,2,3,4,5] ?_;refine .region ?_;refine vk (Aa) ?_;refine vk (Aa) ?_;refine vk (Aa) ?_
   obtain ⟨x7,g7,h⟩:=bnd h
   obtain ⟨n7,p07,q7⟩:=Av g7
   refine vk (vix n7 p07 (Cv q7) rfl Cw) ?_;refine vk (As A9) ?_;refine vk (vbi) ?_;refine asd ?_;refine .nil ?_
   show AW _ _ _ _ _ _
   refine .gk [0,2,3,4,5] ?_;refine .region ?_;refine vk (Aa) ?_;refine vk (vbi) ?_;refine asd ?_;refine .nil ?_;refine AL.gk [0,2,3,4,5] ?_
   exact ih (k,(List.set s3 (Int.toNat s5) s4),(w64 (s4 * x7)),(w64 (s5-1))) h (Nat.lt_succ_self _)
  refine cnf (dF hc) ?_;refine .gk [2,3] ?_;refine .exit ?_
  exact jr (s3) h
 rintro z2 h
 try dsimp only at h ⊢
 subst hK0
 show AW _ _ _ _ _ _
 refine .sr ?_;refine fz (p:=.t 3) ?_;refine vk (Aa) ?_;refine ar [2] ?_;refine .ret ?_
 cases h
 exact ⟨rfl,rfl⟩
def Co (a0:(List Int)) (a1:(List Int)) (K0:Int→Option (Int)) : Nat→Int→Int→Option (Int)
 | 0,_,_=>none
 | k+1,s2,s3=>(if s3<((List.length a0:Nat):Int) then ((rd? a0 s3).bind fun x4=>((rd? a1 s3).bind fun x5=>(Co a0 a1 K0 k (w64 (s2+(w64 (x4 * x5)))) (w64 (s3+1))))) else (K0 s2))
def DW (a0:(List Int)) (a1:(List Int)) : Option (Int):=(jn (fun (z1:Int)=>(some (z1))) fun K0=>(Co a0 a1 K0 A4 0 0))
theorem Hi {a0:(List Int)} {a1:(List Int)} {r:Int} (h:DW a0 a1=some r) :
  Fn Tryz.prog 190 [.sl (Is a0),.sl (Is a1)] (.d (.i .i64 r)):=by
 unfold DW at h
 refine Fn.o1 4 25 Tryz.func190 ?_;refine .sr ?_;refine ar [0,1,4] ?_;refine .sr ?_;refine ar [0,1,4,5] ?_;refine .seq ?_;refine .sr ?_;refine vk (Aa) ?_;refine vk (Cc (AB _) (DS _) Dw) ?_;refine vk (Aa) ?_;refine rk [1,4,5,8,9,10] ?_
 obtain ⟨K0,hK0,h⟩:=BU h
 refine AW.mr (σ:=Int) (fun p=>K0 p=some r) (fun p=>[(4,.d (.i .i64 0)),(5,.d (.i .i64 p))]) (fun p=>[]) ?_ ?_
 ·skip
  refine .block ?_
  refine .loop (.gk [1,4,5,8,9,10] ?_)
  refine AL.ind (σ:=Nat×Int×Int) (m:=fun p=>p.1) (e:=fun p=>[(1,.d (.sl (Is a1))),(4,.d (.i .i64 0)),(5,.d (.i .i64 p.2.1)),(8,.d (.sl (Is a0))),(9,.d (.i .i64 ((List.length a0:Nat):Int))),(10,.d (.i .i64 p.2.2))]) (h:=fun p=>[]) (I:=fun p=>Co a0 a1 K0 p.1 p.2.1 p.2.2=some r) ?_ (A4,0,0) h
  rintro ⟨k,s2,s3⟩ h ih
  dsimp only at h ih ⊢
  rcases k with _|k
  ·rw [Co] at h;cases h
  rw [Co] at h
  refine .sr ?_;refine vk (vbi) ?_;refine rk [1,4,5,8,9,10,11] ?_;refine .seq ?_
  rcases brc h with ⟨hc,h⟩|⟨hc,h⟩
  ·refine cnt (dT hc) ?_
   refine .skip ?_
   show AW _ _ _ _ _ _
   refine .seq ?_;refine .block ?_;refine .sr ?_;refine vk (Aa) ?_
   obtain ⟨x4,g4,h⟩:=bnd h
   obtain ⟨n4,p04,q4⟩:=Av g4
   refine vk (vix n4 p04 (Cv q4) rfl Cw) ?_;refine vk (As A9) ?_;refine asd ?_;refine ar [1,4,5,6,7,8,9,10] ?_;refine .region ?_;refine vk (Aa) ?_;refine vk (Aa) ?_;refine vk (Aa) ?_;refine vk (Aa) ?_
   obtain ⟨x5,g5,h⟩:=bnd h
   obtain ⟨n5,p05,q5⟩:=Av g5
   refine vk (vix n5 p05 (Cv q5) rfl Cw) ?_;refine vk (As A9) ?_;refine vk (vbi) ?_;refine vk (vbi) ?_;refine asd ?_;refine .nil ?_
   show AW _ _ _ _ _ _
   refine .gk [1,4,5,8,9,10] ?_;refine .region ?_;refine vk (vbi) ?_;refine vk (Aa) ?_;refine .nil ?_;refine AL.gk [1,4,5,8,9,10] ?_
   exact ih (k,(w64 (s2+(w64 (x4 * x5)))),(w64 (s3+1))) h (Nat.lt_succ_self _)
  refine cnf (dF hc) ?_;refine .gk [4,5] ?_;refine .exit ?_
  exact jr (s2) h
 rintro z1 h
 try dsimp only at h ⊢
 subst hK0
 show AW _ _ _ _ _ _
 refine .sr ?_;refine vk (Aa) ?_;refine ar [4] ?_;refine .ret ?_
 cases h
 exact ⟨rfl,rfl⟩
def Ck (a1:(List Int)) (x3:(List Int)) (s8:Int) (K3:(List Int)→Option (Arr×Int)) : Nat→(List Int)→Int→Option (Arr×Int)
 | 0,_,_=>none
 | k+1,s12,s13=>(if s13<((List.length x3:Nat):Int) then ((rd? x3 s13).bind fun x14=>((Fs (x14≠0)).bind fun x15=>((rd? a1 s13).bind fun x16=>((Fs (x16≠0)).bind fun x17=>((rd? s12 s13).bind fun x18=>(Ck a1 x3 s8 K3 k (List.set s12 (Int.toNat s13) (Int.tmod (w64 (Int.tdiv s8 x14)) x16)) (w64 (s13+1)))))))) else (K3 s12))
def BZ (a0:Arr) (a1:(List Int)) (a2:Cl) (x1:Int×Int) (x2:Itm) (x3:(List Int)) (K0:(List Itm)→Option (Arr×Int)) : Nat→(List Int)→(List Itm)→Int→Option (Arr×Int)
 | 0,_,_,_=>none
 | k+1,s6,s7,s8=>(if s8<x1.1 then (jn (fun (z9:(List Int)) (z10:(List Itm))=>(BZ a0 a1 a2 x1 x2 x3 K0 k z9 z10 (w64 (s8+1)))) fun K2=>(jn (fun (z11:(List Int))=>((a2.g z11).bind fun x19=>(if 0≤x19 then ((rd? a0.items x19).bind fun x20=>((ap? 1466015503701 s7 [x20]).bind fun x21=>(K2 z11 x21))) else ((ap? 1466015503701 s7 [x2]).bind fun x22=>(K2 z11 x22))))) fun K3=>(Ck a1 x3 s8 K3 A4 s6 0))) else (K0 s7))
def Ch (a0:Arr) (a1:(List Int)) (a2:Cl) : Option (Arr×Int):=((CU a1).bind fun x1=>(if x1.2=0 then ((Cz a0).bind fun x2=>((CD a1).bind fun x3=>((Fs (0≤((List.length a1:Nat) : Int)∧((List.length a1:Nat) : Int)≤17592186044416)).bind fun x4=>(jn (fun (z5:(List Itm))=>(jn (fun (z23:(List Itm))=>((Ax a1 z23).bind fun x25=>(some (x25.1,x25.2)))) fun K5=>(if x1.1=0 then ((ap? 1466015503701 z5 [x2]).bind fun x24=>(K5 x24)) else (K5 z5)))) fun K0=>(BZ a0 a1 a2 x1 x2 x3 K0 A4 (List.replicate (Int.toNat ((List.length a1:Nat) : Int)) (0:Int)) [] 0))))) else (some ((Arr.mk [] []),x1.2))))
theorem Hx {a0:Arr} {a1:(List Int)} {a2:Cl} (oa2:PZ a2) {r:Arr×Int} (h:Ch a0 a1 a2=some r) :
  Fn Tryz.prog 188 [.ag [.sl (Is a0.shape),.sl (Its a0.items)],.sl (Is a1),a2.dv] (.tup [.d (.ag [.sl (Is r.1.shape),.sl (Its r.1.items)]),.d (.i .i64 r.2)]):=by
 unfold Ch at h
 refine Fn.ofC (rs:=[.cell 6 25,.tmp 7]) (nt:=86) Tryz.func188 rfl rfl rfl (by simp) rfl ?_;refine .sr ?_;refine vk (vbx) ?_;refine vk (van (Ai A1) A7) ?_;refine ar [1,2,3,6,7] ?_;refine .sr ?_;refine vk (Aa) ?_
 obtain ⟨x1,g1,h⟩:=bnd h
 refine vk (VOK.tupd (vs:=[.i .i64 x1.1,.i .i64 x1.2]) (Ar (Dz g1) Tryz.call98)) ?_;refine vk (Aa) ?_;refine vk (vex) ?_;refine vk (vex) ?_;refine asd ?_;refine ar [1,2,3,6,7,8,9] ?_;refine .seq ?_;refine .sr ?_;refine vk (Aa) ?_;refine vk (vbi) ?_;refine rk [1,2,3,6,7,8,9,24] ?_
 rcases brc h with ⟨hc,h⟩|⟨hc,h⟩
 ·refine cnf (ntf (dT hc)) ?_
  refine .skip ?_
  show AW _ _ _ _ _ _
  refine .sr ?_;refine vk (AN An Ad) ?_
  obtain ⟨x2,g2,h⟩:=bnd h
  refine vk (Ar (LJ g2) Tryz.call230) ?_;refine vk (van (Ai B6) B9) ?_
  refine stn ?_ Az (by decide)
  refine rk [1,2,3,6,7,8,10] ?_;refine .sr ?_;refine vk (Aa) ?_
  obtain ⟨x3,g3,h⟩:=bnd h
  refine vk (Ar (Ex g3) Tryz.call187) ?_;refine ar [1,2,3,6,7,8,10,11] ?_;refine .sr ?_;refine vk (Aa) ?_;refine vk (Cc (AB _) (DS _) Dw) ?_
  obtain ⟨x4,g4,h⟩:=bnd h
  have ghx4:=FP g4
  refine mk' (F:=Is) (x0:=0) (zl:=((List.length a1:Nat):Int)) (Int.toNat ((List.length a1:Nat):Int)) MU (by omega) (by omega) ?_ FT (by decide)
  refine aso ?_;refine rk [1,2,3,6,7,8,10,11,12] ?_;refine .sr ?_;refine asn ?_;refine rk [1,2,3,6,7,8,10,11,12,13] ?_;refine .seq ?_;refine .sr ?_;refine vk (Aa) ?_;refine vk (Aa) ?_;refine rk [1,2,3,6,7,8,10,11,12,13,34,35] ?_
  obtain ⟨K0,hK0,h⟩:=BU h
  refine AW.mr (σ:=(List Itm)) (fun p=>K0 p=some r) (fun p=>[(1,.d (.sl (Is a1))),(6,.nb [.sl (Is []),.sl (Its [])]),(7,.d (.i .i64 0)),(8,.d (.i .i64 x1.1)),(10,.nb [.i .u8 x2.kind,.b x2.num.1,.sl (L x2.num.2.1),.sl (L x2.num.2.2),.i .i32 x2.char,.sl (Ars x2.box)]),(13,.own 83 (Its p))]) (fun p=>[]) ?_ ?_
  ·skip
   refine .block ?_;refine .gh (Gh.nlOwn (t:=13) 83 (by rw [Qh];decide) rfl) ?_
   refine .loop (.gk [1,2,3,6,7,8,10,11,12,13,34,35] ?_)
   refine AL.ind (σ:=Nat×(List Int)×(List Itm)×Int) (m:=fun p=>p.1) (e:=fun p=>[(1,.d (.sl (Is a1))),(2,.d (a2.dv)),(3,.d (.ptr [.sl (Is a0.shape),.sl (Its a0.items)])),(6,.nb [.sl (Is []),.sl (Its [])]),(7,.d (.i .i64 0)),(8,.d (.i .i64 x1.1)),(10,.nb [.i .u8 x2.kind,.b x2.num.1,.sl (L x2.num.2.1),.sl (L x2.num.2.2),.i .i32 x2.char,.sl (Ars x2.box)]),(11,.d (.sl (Is x3))),(12,.own 3 (Is p.2.1)),(13,.own 83 (Its p.2.2.1)),(34,.d (.i .i64 x1.1)),(35,.d (.i .i64 p.2.2.2))]) (h:=fun p=>[]) (I:=fun p=>BZ a0 a1 a2 x1 x2 x3 K0 p.1 p.2.1 p.2.2.1 p.2.2.2=some r) ?_ (A4,(List.replicate (Int.toNat ((List.length a1:Nat):Int)) (0:Int)),[],0) h
   rintro ⟨k,s6,s7,s8⟩ h ih
   dsimp only at h ih ⊢
   rcases k with _|k
   ·rw [BZ] at h;cases h
   rw [BZ] at h
   refine .sr ?_;refine vk (vbi) ?_;refine rk [1,2,3,6,7,8,10,11,12,13,34,35,36] ?_;refine .seq ?_
   rcases brc h with ⟨hc,h⟩|⟨hc,h⟩
   ·refine cnt (dT hc) ?_
    refine .skip ?_
    show AW _ _ _ _ _ _
    obtain ⟨K2,hK2,h⟩:=BU h
    refine AW.mj (σ:=(List Int)×(List Itm)) (fun p=>K2 p.1 p.2=some r) (fun p=>[(1,.d (.sl (Is a1))),(2,.d (a2.dv)),(3,.d (.ptr [.sl (Is a0.shape),.sl (Its a0.items)])),(6,.nb [.sl (Is []),.sl (Its [])]),(7,.d (.i .i64 0)),(8,.d (.i .i64 x1.1)),(10,.nb [.i .u8 x2.kind,.b x2.num.1,.sl (L x2.num.2.1),.sl (L x2.num.2.2),.i .i32 x2.char,.sl (Ars x2.box)]),(11,.d (.sl (Is x3))),(12,.own 3 (Is p.1)),(13,.own 83 (Its p.2)),(34,.d (.i .i64 x1.1)),(35,.d (.i .i64 s8))]) (fun p=>[]) ?_ ?_
    ·skip
     refine .block ?_;refine .sr ?_;refine vk (Aa) ?_;refine ar [1,2,3,6,7,8,10,11,12,13,14,34,35] ?_;refine .seq ?_;refine .sr ?_;refine vk (Aa) ?_;refine vk (Cc (AB _) (DS _) Dw) ?_;refine vk (Aa) ?_;refine rk [1,2,3,6,7,8,10,11,12,13,14,34,35,38,39,40] ?_
     obtain ⟨K3,hK3,h⟩:=BU h
     refine AW.mr (σ:=(List Int)) (fun p=>K3 p=some r) (fun p=>[(1,.d (.sl (Is a1))),(2,.d (a2.dv)),(3,.d (.ptr [.sl (Is a0.shape),.sl (Its a0.items)])),(6,.nb [.sl (Is []),.sl (Its [])]),(7,.d (.i .i64 0)),(8,.d (.i .i64 x1.1)),(10,.nb [.i .u8 x2.kind,.b x2.num.1,.sl (L x2.num.2.1),.sl (L x2.num.2.2),.i .i32 x2.char,.sl (Ars x2.box)]),(11,.d (.sl (Is x3))),(12,.own 3 (Is p)),(13,.own 83 (Its s7)),(34,.d (.i .i64 x1.1)),(35,.d (.i .i64 s8))]) (fun p=>[]) ?_ ?_
     ·skip
      refine .block ?_
      refine .loop (.gk [1,2,3,6,7,8,10,11,12,13,14,34,35,38,39,40] ?_)
      refine AL.ind (σ:=Nat×(List Int)×Int) (m:=fun p=>p.1) (e:=fun p=>[(1,.d (.sl (Is a1))),(2,.d (a2.dv)),(3,.d (.ptr [.sl (Is a0.shape),.sl (Its a0.items)])),(6,.nb [.sl (Is []),.sl (Its [])]),(7,.d (.i .i64 0)),(8,.d (.i .i64 x1.1)),(10,.nb [.i .u8 x2.kind,.b x2.num.1,.sl (L x2.num.2.1),.sl (L x2.num.2.2),.i .i32 x2.char,.sl (Ars x2.box)]),(11,.d (.sl (Is x3))),(12,.own 3 (Is p.2.1)),(13,.own 83 (Its s7)),(14,.d (.i .i64 s8)),(34,.d (.i .i64 x1.1)),(35,.d (.i .i64 s8)),(38,.d (.sl (Is x3))),(39,.d (.i .i64 ((List.length x3:Nat):Int))),(40,.d (.i .i64 p.2.2))]) (h:=fun p=>[]) (I:=fun p=>Ck a1 x3 s8 K3 p.1 p.2.1 p.2.2=some r) ?_ (A4,s6,0) h
      rintro ⟨k,s12,s13⟩ h ih
      dsimp only at h ih ⊢
      rcases k with _|k
      ·rw [Ck] at h;cases h
      rw [Ck] at h
      refine .sr ?_;refine vk (vbi) ?_;refine rk [1,2,3,6,7,8,10,11,12,13,14,34,35,38,39,40,41] ?_;refine .seq ?_
      rcases brc h with ⟨hc,h⟩|⟨hc,h⟩
      ·refine cnt (dT hc) ?_
       refine .skip ?_
       show AW _ _ _ _ _ _
       refine .seq ?_;refine .block ?_;refine .sr ?_;refine vk (Aa) ?_
       obtain ⟨x14,g14,h⟩:=bnd h
       obtain ⟨n14,p014,q14⟩:=Av g14
       refine vk (vix n14 p014 (Cv q14) rfl Cw) ?_;refine vk (As A9) ?_;refine asd ?_;refine ar [1,2,3,6,7,8,10,11,12,13,14,15,16,34,35,38,39,40] ?_;refine .drawn 11 BN (by kernel_rfl) ?_;refine dv RO ?_;refine dv (Aa) ?_;refine dv (Aa) ?_;refine dv (Aa) ?_
       obtain ⟨x15,g15,h⟩:=bnd h
       refine dv (NM (FP g15)) ?_;refine dv (Aa) ?_;refine dv (Aa) ?_
       obtain ⟨x16,g16,h⟩:=bnd h
       obtain ⟨n16,p016,q16⟩:=Av g16
       refine dv (vix n16 p016 (Cv q16) rfl Cw) ?_;refine dv (As A9) ?_
       obtain ⟨x17,g17,h⟩:=bnd h
       refine dv (NM (FP g17)) ?_
       obtain ⟨x18,g18,h⟩:=bnd h
       obtain ⟨n18,p018,q18⟩:=Av g18
       refine dv (OY (off:=0) (len:=(Is s12).length) n18 p018 (by rw [AB];exact (lS.1 q18).1) Cw (by decide)) ?_;refine dz ?_
       refine RC (F:=Is) (D:=fun x=>.i .i64 x) Jr (us:=s12) (n:=n18) (m:=Int.toNat s13) (x:=(Int.tmod (w64 (Int.tdiv s8 x14)) x16)) (by rw [p018];rfl) ⟨_,by rw [Nat.zero_add];exact Cv q18,rfl⟩ ?_ Fl
       refine RL.gk [1,2,3,6,7,8,10,11,12,13,14,15,16,34,35,38,39,40,46,47,48,49,50,51,52,53,54] ?_;refine .nil ?_
       show AW _ _ _ _ _ _
       refine .gk [1,2,3,6,7,8,10,11,12,13,14,34,35,38,39,40] ?_;refine .region ?_;refine vk (vbi) ?_;refine vk (Aa) ?_;refine .nil ?_;refine AL.gk [1,2,3,6,7,8,10,11,12,13,14,34,35,38,39,40] ?_
       exact ih (k,(List.set s12 (Int.toNat s13) (Int.tmod (w64 (Int.tdiv s8 x14)) x16)),(w64 (s13+1))) h (Nat.lt_succ_self _)
      refine cnf (dF hc) ?_;refine .gk [1,2,3,6,7,8,10,11,12,13,34,35] ?_;refine .exit ?_
      exact jr (s12) h
     rintro z11 h
     try dsimp only at h ⊢
     subst hK3
     show AW _ _ _ _ _ _
     refine .sr ?_;refine vk (Aa) ?_;refine mvo ?_
     obtain ⟨x19,g19,h⟩:=bnd h
     refine vk (WQ 12 (oa2 _ _ g19)) ?_;refine ar [1,2,3,6,7,8,10,11,12,13,17,34,35] ?_;refine .sr ?_;refine vk (Aa) ?_;refine vk (vbi) ?_;refine rk [1,2,3,6,7,8,10,11,12,13,17,34,35,61] ?_
     rcases brc h with ⟨hc,h⟩|⟨hc,h⟩
     ·refine cnt (dT hc) ?_
      refine .region ?_;refine mvo ?_;refine vk (vfa BH) ?_;refine vk (As DJ) ?_;refine vk (Aa) ?_
      obtain ⟨x20,g20,h⟩:=bnd h
      obtain ⟨n20,p020,q20⟩:=Av g20
      refine vk (vix n20 p020 (Eo q20) rfl D6) ?_;refine vk (AN A8 Az) ?_;refine vk ((FS (FA x20) (EH [x20]) D7).deep) ?_
      obtain ⟨x21,g21,h⟩:=bnd h
      refine T4 HN g21 Jk ?_ Gl A0 D7
      refine aso ?_;refine RL.gk [1,2,3,6,7,8,10,11,12,13,34,35] ?_;refine .nil ?_
      exact jr (z11,x21) h
     refine cnf (dF hc) ?_;refine .region ?_;refine mvo ?_;refine vk (GZ A8 Az) ?_;refine vk ((FS (FA x2) (EH [x2]) D7).deep) ?_
     obtain ⟨x22,g22,h⟩:=bnd h
     refine T4 HN g22 Jk ?_ Gl A0 D7
     refine aso ?_;refine RL.gk [1,2,3,6,7,8,10,11,12,13,34,35] ?_;refine .nil ?_
     exact jr (z11,x22) h
    rintro ⟨z9,z10⟩ h
    try dsimp only at h ⊢
    subst hK2
    refine .region ?_;refine vk (vbi) ?_;refine vk (Aa) ?_;refine .nil ?_;refine AL.gk [1,2,3,6,7,8,10,11,12,13,34,35] ?_
    exact ih (k,z9,z10,(w64 (s8+1))) h (Nat.lt_succ_self _)
   refine cnf (dF hc) ?_;refine .gk [1,6,7,8,10,13] ?_;refine .exit ?_
   exact jr (s7) h
  rintro z5 h
  try dsimp only at h ⊢
  subst hK0
  show AW _ _ _ _ _ _
  refine .seq ?_;refine .sr ?_;refine vk (Aa) ?_;refine vk (vbi) ?_;refine rk [1,6,7,10,13,76] ?_
  obtain ⟨K5,hK5,h⟩:=BU h
  refine AW.mr (σ:=(List Itm)) (fun p=>K5 p=some r) (fun p=>[(1,.d (.sl (Is a1))),(6,.nb [.sl (Is []),.sl (Its [])]),(7,.d (.i .i64 0)),(13,.own 83 (Its p))]) (fun p=>[]) ?_ ?_
  ·skip
   rcases brc h with ⟨hc,h⟩|⟨hc,h⟩
   ·refine cnt (dT hc) ?_
    refine .region ?_;refine mvo ?_;refine vk (GZ A8 Az) ?_;refine vk ((FS (FA x2) (EH [x2]) D7).deep) ?_
    obtain ⟨x24,g24,h⟩:=bnd h
    refine T4 HN g24 Jk ?_ Gl A0 D7
    refine aso ?_;refine RL.gk [1,6,7,13] ?_;refine .nil ?_
    exact jr (x24) h
   refine cnf (dF hc) ?_;refine .gk [1,6,7,13] ?_;refine .skip ?_
   exact jr (z5) h
  rintro z23 h
  try dsimp only at h ⊢
  subst hK5
  show AW _ _ _ _ _ _
  refine .sr ?_;refine vk (Aa) ?_;refine fz (p:=.t 13) ?_;refine vk (Aa) ?_
  obtain ⟨x25,g25,h⟩:=bnd h
  refine vk (VOK.tupd (vs:=[.ag [.sl (Is x25.1.shape),.sl (Its x25.1.items)],.i .i64 x25.2]) (Ar (FF g25) Tryz.call99)) ?_;refine vk (vex) ?_;refine vk (vex) ?_
  refine stn ?_ Ad (by decide)
  refine ar [6,7] ?_;refine .ret ?_
  cases h
  exact ⟨_,_,⟨.inr rfl,An,Ad,p2⟩,rfl,rfl⟩
 refine cnt (ntt (dF hc)) ?_;refine .sr ?_;refine vk (vbd Ep A1 A7) ?_;refine vk (Aa) ?_
 refine stn ?_ Ad (by decide)
 refine ar [1,2,3,6,7,8] ?_;refine .ret ?_
 cases h
 exact ⟨_,_,⟨.inr rfl,An,Ad,p2⟩,rfl,rfl⟩
def C2 (a0:(List Int)) (c0:(List Int)) (c1:Int) (c2:(List Int)) : Option (Int):=((rd? a0 c1).bind fun x1=>((rd? c0 x1).bind fun x2=>(if x2<0 then (some ((-1))) else ((DW c2 a0).bind fun x3=>((rd? c2 c1).bind fun x4=>((rd? a0 c1).bind fun x5=>(some ((w64 (x3+(w64 (x4 * (w64 (x2-x5))))))))))))))
theorem JD {a0:(List Int)} {c0:(List Int)} {c1:Int} {c2:(List Int)} {r:Int} (h:C2 a0 c0 c1 c2=some r) :
  Fn Tryz.prog 229 [.sl (Is a0),.ptr [.sl (Is c0)],.ptr [.i .i64 c1],.ptr [.sl (Is c2)]] (.d (.i .i64 r)):=by
 unfold C2 at h
 refine Fn.o1 5 31 Tryz.func229 ?_;refine .sr ?_;refine ar [0,1,2,3,5] ?_;refine .seq ?_;refine .drawn 7 BN (by kernel_rfl) ?_;refine dv (As Dy) ?_;refine dv (Aa) ?_;refine dv (As A9) ?_
 obtain ⟨x1,g1,h⟩:=bnd h
 obtain ⟨n1,p01,q1⟩:=Av g1
 refine dv (vix n1 p01 (Cv q1) rfl Cw) ?_;refine dv (As A9) ?_
 obtain ⟨x2,g2,h⟩:=bnd h
 obtain ⟨n2,p02,q2⟩:=Av g2
 refine dv (vix n2 p02 (Cv q2) rfl Cw) ?_;refine dv (As A9) ?_;refine dz ?_;refine ar [0,2,3,5,6] ?_;refine .seq ?_;refine .sr ?_;refine vk (Aa) ?_;refine vk (vbi) ?_;refine rk [0,2,3,5,6,15] ?_
 rcases brc h with ⟨hc,h⟩|⟨hc,h⟩
 ·refine cnt (dT hc) ?_
  refine .sr ?_;refine ar [0,2,3,5,6] ?_;refine .ret ?_
  cases h
  exact ⟨rfl,rfl⟩
 refine cnf (dF hc) ?_;refine .skip ?_
 show AW _ _ _ _ _ _
 refine .seq ?_;refine .drawn 15 BN (by kernel_rfl) ?_;refine dv (As Dy) ?_;refine dv (Aa) ?_
 obtain ⟨x3,g3,h⟩:=bnd h
 refine dv (Ar (Hi g3) Tryz.call190) ?_;refine dv (As Dy) ?_;refine dv (As A9) ?_
 obtain ⟨x4,g4,h⟩:=bnd h
 obtain ⟨n4,p04,q4⟩:=Av g4
 refine dv (vix n4 p04 (Cv q4) rfl Cw) ?_;refine dv (As A9) ?_;refine dv (Aa) ?_;refine dv (Aa) ?_;refine dv (As A9) ?_
 obtain ⟨x5,g5,h⟩:=bnd h
 obtain ⟨n5,p05,q5⟩:=Av g5
 refine dv (vix n5 p05 (Cv q5) rfl Cw) ?_;refine dv (As A9) ?_;refine dv (vbi) ?_;refine dv (vbi) ?_;refine dv (vbi) ?_;refine dz ?_;refine ar [5] ?_;refine .ret ?_
 cases h
 exact ⟨rfl,rfl⟩
def Bq (a0:Arr) (a1:Int) (a2:(List Int)) : Option (Arr×Int):=((DM a0.shape).bind fun x1=>((rd? x1 a1).bind fun x2=>((CD a0.shape).bind fun x3=>((Ch a0 (List.set x1 (Int.toNat a1) ((List.length a2:Nat) : Int)) (⟨.fn 229 [] [.ptr [.sl (Is a2)],.ptr [.i .i64 a1],.ptr [.sl (Is x3)]],fun x=>C2 x a2 a1 x3⟩ : Cl)).bind fun x4=>(some (x4.1,x4.2))))))
theorem KX {a0:Arr} {a1:Int} {a2:(List Int)} {r:Arr×Int} (h:Bq a0 a1 a2=some r) :
  Fn Tryz.prog 186 [.ag [.sl (Is a0.shape),.sl (Its a0.items)],.i .i64 a1,.sl (Is a2)] (.tup [.d (.ag [.sl (Is r.1.shape),.sl (Its r.1.items)]),.d (.i .i64 r.2)]):=by
 unfold Bq at h
 refine Fn.ofC (rs:=[.cell 6 25,.tmp 7]) (nt:=27) Tryz.func186 rfl rfl rfl (by simp) rfl ?_;refine .sr ?_;refine vk (vbx) ?_;refine vk (V1) ?_;refine vk (V1) ?_;refine vk (van (Ai A1) A7) ?_;refine ar [3,4,5,6,7] ?_;refine .sr ?_;refine vk (vfa Cn) ?_;refine vk (As Dy) ?_
 obtain ⟨x1,g1,h⟩:=bnd h
 refine vk (Ar (FJ g1) Tryz.call182) ?_;refine aso ?_;refine rk [3,4,5,6,7,8] ?_;refine .sr ?_;refine mvo ?_;refine vk (As A9) ?_;refine vk (As Dy) ?_;refine vk (Cc (AB _) (DS _) Dw) ?_
 obtain ⟨x2,g2,h⟩:=bnd h
 obtain ⟨n2,p02,q2⟩:=Av g2
 refine ixr (off:=0) (len:=(Is x1).length) n2 p02 (by rw [AB];exact (lS.1 q2).1) ?_ Cw (by decide)
 refine RC (F:=Is) (D:=fun x=>.i .i64 x) Jr (us:=x1) (n:=n2) (m:=Int.toNat a1) (x:=((List.length a2:Nat):Int)) (by rw [p02];rfl) ⟨_,by rw [Nat.zero_add];exact Cv q2,rfl⟩ ?_ Fl
 refine RL.gk [3,4,5,6,7,8,14,15,16] ?_;refine rk [3,4,5,6,7,8] ?_;refine .sr ?_;refine vk (vfa Cn) ?_;refine vk (As Dy) ?_
 obtain ⟨x3,g3,h⟩:=bnd h
 refine vk (Ar (Ex g3) Tryz.call187) ?_;refine vk (van (Ai Vj) W0) ?_
 refine Xp ?_ U8
 refine rk [3,4,5,6,7,8,9] ?_;refine .sr ?_;refine vk (AN An Ad) ?_;refine fz (p:=.t 8) ?_;refine vk (Aa) ?_;refine RL.gh (Gh.nbp (t:=9) rfl) ?_;refine vk (VH) ?_
 obtain ⟨x4,g4,h⟩:=bnd h
 refine vk (VOK.tupd (vs:=[.ag [.sl (Is x4.1.shape),.sl (Its x4.1.items)],.i .i64 x4.2]) (Ar (Hx (D5 Tryz.call229 (fun _ _ h=>JD h)) g4) Tryz.call188)) ?_;refine vk (vex) ?_;refine vk (vex) ?_
 refine stn ?_ Ad (by decide)
 refine ar [6,7] ?_;refine .ret ?_
 cases h
 exact ⟨_,_,⟨.inr rfl,An,Ad,p2⟩,rfl,rfl⟩
def F5 (a0:Arr) (a1:Bool) : Option (Int):=(if a1=true then (some (0)) else (some ((if (w64 (((List.length a0.shape:Nat) : Int)-1))<0 then 0 else (w64 (((List.length a0.shape:Nat) : Int)-1))))))
theorem MP {a0:Arr} {a1:Bool} {r:Int} (h:F5 a0 a1=some r) :
  Fn Tryz.prog 102 [.ag [.sl (Is a0.shape),.sl (Its a0.items)],.b a1] (.d (.i .i64 r)):=by
 unfold F5 at h
 refine Fn.o1 4 11 Tryz.func102 ?_;refine .sr ?_;refine vk (vbx) ?_;refine ar [1,2,4] ?_;refine .seq ?_;refine .sr ?_;refine vk (Aa) ?_;refine rk [2,4,5] ?_
 rcases brc h with ⟨hc,h⟩|⟨hc,h⟩
 ·refine cnt hc ?_
  refine .sr ?_;refine ar [2,4] ?_;refine .ret ?_
  cases h
  exact ⟨rfl,rfl⟩
 refine cnf (bf hc) ?_;refine .skip ?_
 show AW _ _ _ _ _ _
 refine .sr ?_;refine vk (vfa Cn) ?_;refine vk (As Dy) ?_;refine vk (Cc (AB _) (DS _) Dw) ?_;refine vk (vbi) ?_;refine vk (vmx) ?_;refine ar [4] ?_;refine .ret ?_
 cases h
 exact ⟨rfl,rfl⟩
def Fq : List Int→List Int×Int
 | []=>([],1)
 | x::xs=>((Fq xs).2::(Fq xs).1,w64 ((Fq xs).2 * x))
theorem JN : ∀ s : List Int,(Fq s).1.length=s.length
 | []=>rfl
 | x::xs=>by rw [Fq,List.length_cons,List.length_cons,JN xs]
theorem IK {a:List Int} (hl:a.length≤17592186044416) (K:List Int→Option (List Int)) : ∀ (i k:Nat),i≤a.length→i<k →
  Bo a K k (List.replicate i 0++(Fq (a.drop i)).1) (Fq (a.drop i)).2 ((i:Int)-1)=K (Fq a).1
 | _,0,_,h=>by omega
 | 0,k+1,_,_=>by rw [Bo,if_neg (by omega)];rfl
 | i+1,k+1,hi,hk=>by
  have hlt:i<a.length:=by omega
  rw [Bo,if_pos (by omega)]
  have e0:((i+1:Nat):Int)-1=(i:Int):=by omega
  have e1:List.replicate (i+1) (0:Int)++(Fq (a.drop (i+1))).1=List.replicate i 0++0::(Fq (a.drop (i+1))).1:=by
   rw [List.replicate_succ',List.append_assoc];rfl
  rw [e0,e1,BT (by simp),oB,BT hlt,oB,Int.toNat_natCast,List.set_append_right _ _ (by simp),List.length_replicate,Nat.sub_self,List.set_cons_zero,show w64 ((i:Int)-1)=(i:Int)-1 from C4 (by omega) (by omega)]
  have e2:a.drop i=a[i]::a.drop (i+1):=lC hlt
  have ih:=IK hl K i k (by omega) (by omega)
  rw [e2] at ih
  exact ih
theorem E9 {a:List Int} (hl:a.length≤17592186044416) : CD a=some (Fq a).1:=by
 unfold CD
 have hg:Fs (0≤((List.length a:Nat):Int)∧((List.length a:Nat):Int)≤17592186044416)=some ():=if_pos (by omega)
 rw [hg,oB,Ds]
 have:=IK hl (fun z=>some z) a.length A4 (Nat.le_refl _) (BE (by omega))
 rw [List.drop_of_length_le (Nat.le_refl _)] at this
 rw [Int.toNat_natCast,C4 (by omega) (by omega)]
 rw [show (Fq []).1=[] from rfl,List.append_nil] at this
 exact this
def pr : List Nat→Nat
 | []=>1
 | x::xs=>x * pr xs
def stN : List Nat→List Nat
 | []=>[]
 | _::xs=>pr xs::stN xs
def atN : List Nat→Nat→List Nat
 | [],_=>[]
 | x::xs,i=>(i / pr xs % x)::atN xs i
def plN : List Nat→List Nat→Nat
 | x::xs,y::ys=>x * y+plN xs ys
 | _,_=>0
def VC : List Nat→List Nat→Prop
 | [],[]=>True
 | x::xs,y::ys=>y<x∧VC xs ys
 | _,_=>False
theorem La : ∀ {t:List Nat},(∀ x∈t,0<x)→0<pr t
 | [],_=>Nat.one_pos
 | x::xs,h=>Nat.mul_pos (h x (by simp)) (La fun y hy=>h y (by simp [hy]))
theorem IN : ∀ (t:List Nat) (i:Nat),plN (stN t) (atN t i)=i % pr t
 | [],i=>by rw [pr,Nat.mod_one];rfl
 | x::xs,i=>by
  show pr xs * (i / pr xs % x)+plN (stN xs) (atN xs i)=i % (x * pr xs)
  rw [IN xs i,Nat.mul_comm x (pr xs),Nat.mod_mul,Nat.add_comm]
theorem Ig : ∀ {t:List Nat} (i:Nat),(∀ x∈t,0<x)→VC t (atN t i)
 | [],_,_=>trivial
 | x::xs,i,h=>⟨Nat.mod_lt _ (h x (by simp)),Ig i fun y hy=>h y (by simp [hy])⟩
theorem M4 : ∀ {t c:List Nat},VC t c→plN (stN t) c<pr t
 | [],[],_=>Nat.one_pos
 | x::xs,y::ys,⟨h1,h2⟩=>by
  have:=M4 h2
  show pr xs * y+plN (stN xs) ys<x * pr xs
  have h3:(y+1) * pr xs≤x * pr xs:=Nat.mul_le_mul_right _ h1
  rw [Nat.add_mul,Nat.one_mul,Nat.mul_comm y] at h3
  omega
 | [],_::_,h=>h.elim
 | _::_,[],h=>h.elim
theorem QI : ∀ (t:List Nat) (y i:Nat),(∀ x∈t,0<x)→atN t (pr t * y+i)=atN t i
 | [],_,_,_=>rfl
 | x::xs,y,i,h=>by
  have hp:=La fun z hz=>h z (List.mem_cons_of_mem _ hz)
  show ((x * pr xs * y+i) / pr xs % x)::atN xs (x * pr xs * y+i)=(i / pr xs % x)::atN xs i
  have e:x * pr xs * y+i=pr xs * (x * y)+i:=by rw [Nat.mul_comm x (pr xs),Nat.mul_assoc]
  rw [e,QI xs (x * y) i fun z hz=>h z (List.mem_cons_of_mem _ hz),Nat.mul_add_div hp,Nat.mul_add_mod]
theorem Iz : ∀ {t c:List Nat},VC t c→atN t (plN (stN t) c)=c
 | [],[],_=>rfl
 | x::xs,y::ys,⟨h1,h2⟩=>by
  have hpos:∀ {t c:List Nat},VC t c→∀ z∈t,0<z:=by
   intro t
   induction t with
   | nil=>intro c _ z hz;cases hz
   | cons u us ih =>
    intro c hc z hz
    cases c with
    | nil=>exact hc.elim
    | cons v vs =>
     rcases List.mem_cons.1 hz with rfl|hz
     ·exact Nat.lt_of_le_of_lt (Nat.zero_le _) hc.1
     ·exact ih hc.2 z hz
  have hp:=hpos h2
  have hr:=M4 h2
  show ((pr xs * y+plN (stN xs) ys) / pr xs % x)::atN xs (pr xs * y+plN (stN xs) ys)=y::ys
  rw [QI xs y _ hp,Iz h2,Nat.mul_add_div (La hp),Nat.div_eq_of_lt hr,Nat.add_zero,Nat.mod_eq_of_lt h1]
 | [],_::_,h=>h.elim
 | _::_,[],h=>h.elim
theorem Mv : ∀ {t c:List Nat},VC t c→c.length=t.length
 | [],[],_=>rfl
 | x::xs,y::ys,⟨_,h⟩=>by rw [List.length_cons,List.length_cons,Mv h]
 | [],_::_,h=>h.elim
 | _::_,[],h=>h.elim
theorem Ja : ∀ {t c:List Nat},VC t c→∀ (k:Nat) (h1:k<c.length) (h2:k<t.length),c[k]<t[k]
 | x::xs,y::ys,⟨h,_⟩,0,_,_=>h
 | x::xs,y::ys,⟨_,h⟩,k+1,h1,h2=>Ja h k (by simpa using h1) (by simpa using h2)
 | [],[],_,_,h1,_=>by simp at h1
 | [],_::_,h,_,_,_=>h.elim
 | _::_,[],h,_,_,_=>h.elim
theorem ST : ∀ {t c:List Nat},c.length=t.length→(∀ (k:Nat) (h1:k<c.length) (h2:k<t.length),c[k]<t[k])→VC t c
 | [],[],_,_=>trivial
 | x::xs,y::ys,hl,h=>⟨h 0 (by simp) (by simp),ST (by simpa using hl) fun k h1 h2=>h (k+1) (by simpa using h1) (by simpa using h2)⟩
 | [],_::_,hl,_=>by simp at hl
 | _::_,[],hl,_=>by simp at hl
theorem CT (t:List Nat) (i:Nat) : (atN t i).length=t.length:=by
 induction t with
 | nil=>rfl
 | cons x xs ih=>rw [atN,List.length_cons,List.length_cons,ih]
theorem CH (t:List Nat) : (stN t).length=t.length:=by
 induction t with
 | nil=>rfl
 | cons x xs ih=>rw [stN,List.length_cons,List.length_cons,ih]
theorem QD : ∀ (l c:List Nat) (k v:Nat) (h1:k<c.length) (h2:k<l.length),plN l (c.set k v)+l[k] * c[k]=plN l c+l[k] * v
 | x::xs,y::ys,0,v,_,_=>by
  show x * v+plN xs ys+x * y=x * y+plN xs ys+x * v
  omega
 | x::xs,y::ys,k+1,v,h1,h2=>by
  have h1':k<ys.length:=by simpa using h1
  have h2':k<xs.length:=by simpa using h2
  have:=QD xs ys k v h1' h2'
  show x * y+plN xs (ys.set k v)+xs[k] * ys[k]=x * y+plN xs ys+xs[k] * v
  omega
 | [],_,_,_,_,h2=>by simp at h2
 | _::_,[],_,_,h1,_=>by simp at h1
def up_ (t:List Nat) : List Int:=t.map fun n : Nat=>((n:Nat) : Int)
theorem Bg (t:List Nat) : (up_ t).length=t.length:=by simp [up_]
theorem Hb : ∀ t : List Nat,Cs (up_ t)=(pr t:Int)
 | []=>rfl
 | x::xs=>by
  have e:Cs (up_ (x::xs))=(x:Int) * Cs (up_ xs):=by
   show Cs ((x:Int)::up_ xs)=_
   unfold Cs;rw [List.foldl_cons,HH,Int.one_mul]
  rw [e,Hb xs,pr]
  exact (Int.natCast_mul _ _).symm
theorem Rc {s:List Int} {n:Nat} (h:szP s=((n:Int),0)) (h0:n≠0) : ∃ t : List Nat,s=up_ t∧(∀ x∈t,0<x∧x≤4096)∧pr t=n∧n≤4096∧t.length≤8:=by
 have hle:=Et s
 unfold szP at h
 split at h
 ·exact absurd (congrArg Prod.snd h) (by simp)
 split at h
 ·exact absurd (congrArg Prod.snd h) (by simp)
 split at h
 ·exact absurd (congrArg Prod.snd h) (by simp)
 split at h
 ·have:=congrArg Prod.fst h
  simp only at this
  omega
 split at h
 ·rename_i h8 hneg hbig hz hp
  have hp1:Cs s=(n:Int):=congrArg Prod.fst h
  have each:∀ x∈s,1≤x∧x≤4096:=fun x hx=>by
   simp only [List.any_eq_true,decide_eq_true_eq,not_exists,not_and] at hneg hbig
   have a:=hneg x hx
   have b:=hbig x hx
   have c:x≠0:=fun e=>hz (e▸hx)
   omega
  have es:s=up_ (s.map Int.toNat):=by
   unfold up_
   rw [List.map_map]
   refine (List.map_id' s).symm.trans (List.map_congr_left fun x hx=>?_)
   have:=each x hx
   show x=((x.toNat:Nat):Int)
   omega
  refine ⟨s.map Int.toNat,es,fun x hx=>?_,?_,by omega,by simp;omega⟩
  ·obtain ⟨y,hy,rfl⟩:=List.mem_map.1 hx
   have:=each y hy
   omega
  ·rw [es,Hb] at hp1
   omega
 ·exact absurd (congrArg Prod.snd h) (by simp)
theorem Vz {t:List Nat} (h8:t.length≤8) (h:∀ x∈t,0<x∧x≤4096) (hp:pr t≤4096) : szP (up_ t)=((pr t:Int),0):=by
 have hm:∀ x∈up_ t,1≤x∧x≤4096:=fun x hx=>by
  obtain ⟨y,hy,rfl⟩:=List.mem_map.1 hx
  have:=h y hy;omega
 unfold szP
 rw [if_neg (by rw [Bg];omega),if_neg,if_neg,if_neg,Hb,if_pos (by omega)]
 ·intro h0;have:=hm 0 h0;omega
 ·simp only [List.any_eq_true,decide_eq_true_eq,not_exists,not_and]
  intro x hx;have:=hm x hx;omega
 ·simp only [List.any_eq_true,decide_eq_true_eq,not_exists,not_and]
  intro x hx;have:=hm x hx;omega
theorem Kv : ∀ {t:List Nat},pr t≤4096→(∀ x∈t,0<x)→Fq (up_ t)=(up_ (stN t),(pr t:Int))
 | [],_,_=>rfl
 | x::xs,h,hp=>by
  have hx:=hp x (by simp)
  have h1:pr xs≤pr (x::xs):=by
   show pr xs≤x * pr xs
   exact Nat.le_mul_of_pos_left _ hx
  have ih:=Kv (t:=xs) (by omega) fun y hy=>hp y (by simp [hy])
  show ((Fq (up_ xs)).2::(Fq (up_ xs)).1,w64 ((Fq (up_ xs)).2 * (x:Int)))=_
  rw [ih]
  have e:(pr xs:Int) * (x:Int)=(pr (x::xs):Int):=by
   rw [← Int.natCast_mul,Nat.mul_comm];rfl
  show ((pr xs:Int)::up_ (stN xs),w64 ((pr xs:Int) * (x:Int)))=_
  rw [e,C4 (by omega) (by omega)]
  rfl
theorem PY : ∀ {t:List Nat},(∀ x∈t,0<x)→∀ y∈stN t,y≤pr t
 | x::xs,h,y,hy=>by
  have hx:=h x (by simp)
  have h1:pr xs≤pr (x::xs):=by
   show pr xs≤x * pr xs
   exact Nat.le_mul_of_pos_left _ hx
  rcases List.mem_cons.1 hy with rfl|hy
  ·exact h1
  ·have:=PY (fun z hz=>h z (List.mem_cons_of_mem _ hz)) y hy
   omega
theorem Rg : ∀ {t:List Nat},(∀ x∈t,0<x)→∀ y∈stN t,0<y
 | x::xs,h,y,hy=>by
  have hp:=La fun z hz=>h z (List.mem_cons_of_mem x hz)
  rcases List.mem_cons.1 hy with rfl|hy
  ·exact hp
  ·exact Rg (fun z hz=>h z (List.mem_cons_of_mem _ hz)) y hy
theorem Pv {t:List Nat} {i:Nat} (h:i<t.length) : (up_ t)[i]'(by rw [Bg];exact h)=(t[i] : Int):=by simp [up_]
theorem I6 {t:List Nat} {i:Nat} (h:i<t.length) : rd? (up_ t) (i:Int)=some (t[i] : Int):=by
 rw [BT (by rw [Bg];exact h),Pv h]
theorem Tm : ∀ (l c:List Nat) (i:Nat) (h1:i<l.length) (h2:i<c.length),plN (l.drop i) (c.drop i)=l[i] * c[i]+plN (l.drop (i+1)) (c.drop (i+1)):=fun l c i h1 h2=>by
 rw [lC h1,lC h2];rfl
theorem JJ {a b:Nat} (ha:a≤4096) (hb:b≤4096) : a * b≤16777216:=Nat.mul_le_mul ha hb
theorem Lg {l c:List Nat} (h8:l.length≤8) (hlen:l.length≤c.length) (hl:∀ x∈l,x≤4096) (hc:∀ x∈c,x≤4096) (K:Int→Option Int) : ∀ (n i k m:Nat),n=l.length-i→i≤l.length→n<k→m≤i * 16777216 →
  Co (up_ l) (up_ c) K k (m:Int) (i:Int)=K ((m+plN (l.drop i) (c.drop i):Nat):Int)
 | _,_,0,_,_,_,h,_=>by omega
 | n,i,k+1,m,hn,hi,hk,hm=>by
  rw [Co]
  by_cases h:i<l.length
  ·have h2:i<c.length:=by omega
   have hb:=JJ (hl _ (List.getElem_mem h)) (hc _ (List.getElem_mem h2))
   rw [if_pos (by rw [Bg];omega),I6 h,oB,I6 h2,oB,← Int.natCast_mul,show w64 ((l[i] * c[i]:Nat):Int)=((l[i] * c[i]:Nat):Int) from C4 (by omega) (by omega),show w64 ((m:Int)+((l[i] * c[i]:Nat):Int))=(m:Int)+((l[i] * c[i]:Nat):Int) from C4 (by omega) (by omega),BF (by omega),← Int.natCast_add,
    Lg h8 hlen hl hc K (n-1) (i+1) k _ (by omega) (by omega) (by omega) (by omega),Tm l c i h h2,Nat.add_assoc]
  ·rw [if_neg (by rw [Bg];omega),List.drop_of_length_le (by omega)]
   simp [plN]
theorem O9 {l c:List Nat} (h8:l.length≤8) (hlen:l.length≤c.length) (hl:∀ x∈l,x≤4096) (hc:∀ x∈c,x≤4096) : DW (up_ l) (up_ c)=some ((plN l c:Nat) : Int):=by
 unfold DW
 rw [Ds]
 have:=Lg h8 hlen hl hc (fun z=>some z) l.length 0 A4 0 rfl (Nat.zero_le _) (BE (by omega)) (by omega)
 rw [List.drop_zero,List.drop_zero,Nat.zero_add] at this
 exact this
theorem IF {a:Arr} (oa:okAr a) (ra:AD a) : Cz a=some (tyI (a.items.headD default)):=by
 have hp:=Mn ra
 unfold Cz
 rw [Dv oa,oB,dT ra,if_pos rfl]
 cases hi:a.items with
 | nil=>rw [hi] at hp;simp at hp
 | cons x xs =>
  obtain ⟨ox,rx⟩:=A6 oa ra (x:=x) (by rw [hi];simp)
  rw [LS,oB,Om ox rx.1];rfl
theorem U6 {a:Arr} (oa:okAr a) (ra:AD a) : Fp a=some a:=by
 unfold Fp
 rw [Dv oa,oB,dT ra,if_pos rfl,JO oa];rfl
theorem QZ : ∀ (t:List Nat) (i j:Nat) (h:j<t.length),(atN t i)[j]'(by rw [CT];exact h)=i / (stN t)[j]'(by rw [CH];exact h) % t[j]
 | x::xs,i,0,_=>rfl
 | x::xs,i,j+1,h=>QZ xs i j (by simpa using h)
 | [],_,_,h=>by simp at h
theorem Ta {α:Type} {L r:List α} {j:Nat} (hl:L.length=r.length) (h:j<L.length) : (L.take j++r.drop j).set j L[j]=L.take (j+1)++r.drop (j+1):=by
 have hj:(L.take j).length=j:=by rw [List.length_take];omega
 have e:r.drop j=r[j]'(by omega)::r.drop (j+1):=lC (by omega)
 rw [e,List.set_append_right _ _ (by omega),hj,Nat.sub_self,List.set_cons_zero,List.take_succ_eq_append_getElem h,List.append_assoc]
 rfl
theorem OZ {t:List Nat} (ht:∀ x∈t,0<x∧x≤4096) (h8:t.length≤8) {i:Nat} (hi:i≤4096) (K:List Int→Option (Arr×Int)) {r:List Int} (hr:r.length=t.length) : ∀ (n j k:Nat),n=t.length-j→j≤t.length→n<k →
  Ck (up_ t) (up_ (stN t)) (i:Int) K k ((up_ (atN t i)).take j++r.drop j) (j:Int)=K (up_ (atN t i))
 | _,_,0,_,_,h=>by omega
 | n,j,k+1,hn,hj,hk=>by
  have hlen:(up_ (atN t i)).length=t.length:=by rw [Bg,CT]
  rw [Ck]
  by_cases h:j<t.length
  ·have hs:j<(stN t).length:=by rw [CH];exact h
   have hsp:=Rg (fun x hx=>(ht x hx).1) _ (List.getElem_mem hs)
   have htp:=(ht _ (List.getElem_mem h)).1
   have hcur:j<((up_ (atN t i)).take j++r.drop j).length:=by rw [List.length_append,List.length_take,List.length_drop];omega
   have g1:Fs (((stN t)[j]:Int)≠0)=some ():=if_pos (by omega)
   have g2:Fs ((t[j]:Int)≠0)=some ():=if_pos (by omega)
   have e1:Int.tdiv (i:Int) ((stN t)[j]:Int)=((i / (stN t)[j]:Nat):Int):=rfl
   have hd:i / (stN t)[j]≤i:=Nat.div_le_self _ _
   have hw:w64 ((i / (stN t)[j]:Nat):Int)=((i / (stN t)[j]:Nat):Int):=by
    generalize i / (stN t)[j]=d at hd ⊢
    exact C4 (by omega) (by omega)
   have e2:Int.tmod ((i / (stN t)[j]:Nat):Int) (t[j]:Int)=((i / (stN t)[j] % t[j]:Nat):Int):=rfl
   have e3:((i / (stN t)[j] % t[j]:Nat):Int)=(up_ (atN t i))[j]'(by rw [hlen];exact h):=by
    rw [Pv (by rw [CT];exact h),QZ t i j h]
   rw [if_pos (by rw [Bg,CH];omega),I6 hs,oB,g1,oB,I6 h,oB,g2,oB,BT hcur,oB,e1,hw,e2,e3,Int.toNat_natCast,BF (by omega),
    Ta (by rw [hlen,hr]) (by rw [hlen];exact h),OZ ht h8 hi K hr (n-1) (j+1) k (by omega) (by omega) (by omega)]
  ·rw [if_neg (by rw [Bg,CH];omega),List.take_of_length_le (by omega),List.drop_of_length_le (by omega),List.append_nil]
def Iw (a:Arr) (p:Itm) (j:Int) : Itm:=if 0≤j then a.items.getD j.toNat default else p
theorem KQ {a:Arr} {t:List Nat} {F:Cl} {p:Itm} {J:Nat→Int} (ht:∀ x∈t,0<x∧x≤4096) (h8:t.length≤8) (hn:pr t≤4096) (hF:∀ i,i<pr t→F.g (up_ (atN t i))=some (J i)∧J i<(a.items.length:Int)) {x1:Int×Int} (hx1:x1.1=(pr t:Int)) (K:List Itm→Option (Arr×Int)) : ∀ (n i k:Nat) (r:List Int),n=pr t-i→i≤pr t→n<k→r.length=t.length →
  BZ a (up_ t) F x1 p (up_ (stN t)) K k r (((List.range (pr t)).map fun i=>Iw a p (J i)).take i) (i:Int)=K ((List.range (pr t)).map fun i=>Iw a p (J i))
 | _,_,0,_,_,_,h,_=>by omega
 | n,i,k+1,r,hn',hi,hk,hr=>by
  have hlen:((List.range (pr t)).map fun i=>Iw a p (J i)).length=pr t:=by simp
  rw [BZ]
  by_cases h:i<pr t
  ·have hb:=fun K=>OZ ht h8 (i:=i) (by omega) K hr t.length 0 A4 rfl (Nat.zero_le _) (BE (by omega))
   rw [List.take_zero,List.nil_append,List.drop_zero,show ((0:Nat):Int)=0 from rfl] at hb
   obtain ⟨f1,f2⟩:=hF i h
   have hg:((List.range (pr t)).map fun i=>Iw a p (J i))[i]'(by rw [hlen];exact h)=Iw a p (J i):=by simp
   have ih:=KQ (p:=p) ht h8 hn hF hx1 K (n-1) (i+1) k (up_ (atN t i)) (by omega) (by omega) (by omega) (by rw [Bg,CT])
   rw [List.take_succ_eq_append_getElem (by rw [hlen];exact h),hg] at ih
   have hcap:(((List.range (pr t)).map fun i=>Iw a p (J i)).take i).length+1≤1466015503701:=by rw [List.length_take];omega
   rw [if_pos (by omega),Ds,Ds,hb,f1,oB]
   by_cases h0:0≤J i
   ·have hj:(J i).toNat<a.items.length:=by omega
    have e:rd? a.items (J i)=some (a.items.getD (J i).toNat default):=by
     unfold rd?
     rw [if_pos h0,lD,lG hj];rfl
    have ep:Iw a p (J i)=a.items.getD (J i).toNat default:=if_pos h0
    rw [if_pos h0,e,oB,GU (by simpa using hcap),oB,BF (by omega),← ep]
    exact ih
   ·have ep:Iw a p (J i)=p:=if_neg h0
    rw [if_neg h0,GU (by simpa using hcap),oB,BF (by omega)]
    rw [ep] at ih
    exact ih
  ·rw [if_neg (by omega),List.take_of_length_le (by omega)]
theorem Mr {a:Arr} {t:List Nat} {F:Cl} {p:Itm} {J:Nat→Int} (hp:Cz a=some p) (ht:∀ x∈t,0<x∧x≤4096) (h8:t.length≤8) (hn:pr t≤4096) (hF:∀ i,i<pr t→F.g (up_ (atN t i))=some (J i)∧J i<(a.items.length:Int)) :
  Ch a (up_ t) F=Ax (up_ t) ((List.range (pr t)).map fun i=>Iw a p (J i)):=by
 have hpp:=La fun x hx=>(ht x hx).1
 have hl:(up_ t).length≤17592186044416:=by rw [Bg];omega
 have hg:Fs (0≤((List.length (up_ t):Nat):Int)∧((List.length (up_ t):Nat):Int)≤17592186044416)=some ():=if_pos (by omega)
 unfold Ch
 rw [GF hl,oB,Vz h8 ht hn,if_pos rfl,hp,oB,E9 hl,oB,hg,oB,Ds,Kv hn fun x hx=>(ht x hx).1]
 have:=fun K=>KQ (p:=p) ht h8 hn hF (x1:=((pr t:Int),0)) rfl K (pr t) 0 A4 (List.replicate (Int.toNat ((List.length (up_ t):Nat):Int)) 0) rfl (Nat.zero_le _) (BE (by omega)) (by simp [Bg])
 rw [List.take_zero,show ((0:Nat):Int)=0 from rfl] at this
 rw [this,Ds,if_neg (by show ¬((pr t:Int)=0);omega)]
 show ((Ax (up_ t) ((List.range (pr t)).map fun i=>Iw a p (J i))).bind fun x25=>some (x25.1,x25.2))=_
 generalize Ax _ _=m
 cases m<;>rfl
theorem Lp {a:Arr} {s:List Int} {F:Cl} {p:Itm} (hp:Cz a=some p) (hl:s.length≤17592186044416) (hs:szP s=(0,0)) : Ch a s F=Ax s [p]:=by
 have hg:Fs (0≤((List.length s:Nat):Int)∧((List.length s:Nat):Int)≤17592186044416)=some ():=if_pos (by omega)
 have hF:A4=999999999999999+1:=rfl
 unfold Ch
 rw [GF hl,oB,hs,if_pos rfl,hp,oB,E9 hl,oB,hg,oB,Ds,hF,BZ,if_neg (by decide),Ds,if_pos rfl,GU (by simp),oB]
 show ((Ax s [p]).bind fun x25=>some (x25.1,x25.2))=_
 generalize Ax _ _=m
 cases m<;>rfl
def Fb (t:List Nat) (ax:Nat) (fr:List Nat) (i:Nat) : Nat:=plN (stN t) ((atN (t.set ax fr.length) i).set ax (fr.getD ((atN (t.set ax fr.length) i).getD ax 0) 0))
theorem Jy {t:List Nat} {ax:Nat} {fr:List Nat} (ht:∀ x∈t,0<x) (hax:ax<t.length) (hfr:∀ x∈fr,x<t[ax]) (h0:0<fr.length) (i:Nat) : VC t ((atN (t.set ax fr.length) i).set ax (fr.getD ((atN (t.set ax fr.length) i).getD ax 0) 0)):=by
 have ht':∀ x∈t.set ax fr.length,0<x:=fun x hx=>by
  rcases List.mem_or_eq_of_mem_set hx with hx|rfl
  ·exact ht x hx
  ·exact h0
 have hv:=Ig (t:=t.set ax fr.length) i ht'
 have hl:(atN (t.set ax fr.length) i).length=t.length:=by rw [CT,List.length_set]
 have hc:(atN (t.set ax fr.length) i).getD ax 0<fr.length:=by
  have:=Ja hv ax (by omega) (by simpa using hax)
  rw [List.getElem_set_self] at this
  rw [lD,lG (by omega)]
  exact this
 refine ST (by rw [List.length_set,hl]) fun k h1 h2=>?_
 rw [List.getElem_set]
 split
 ·rename_i e
  subst e
  refine hfr _ ?_
  rw [lD,lG hc]
  exact List.getElem_mem hc
 ·rename_i e
  have:=Ja hv k (by omega) (by simpa using h2)
  rw [List.getElem_set_ne e] at this
  exact this
theorem Jo {t:List Nat} {ax:Nat} {fr:List Nat} (ht:∀ x∈t,0<x) (hax:ax<t.length) (hfr:∀ x∈fr,x<t[ax]) (h0:0<fr.length) (i:Nat) : Fb t ax fr i<pr t:=M4 (Jy ht hax hfr h0 i)
theorem Ph {P R z v c:Nat} (hpl:R+z * c=P+z * v) (m1:z * c≤16777216) (m2:z * v≤16777216) (hz:z≤4096) (hv:v≤4096) (hc:c≤4096) (hR:R≤4096) : w64 ((P:Int)+w64 ((z:Int) * w64 ((v:Int)-(c:Int))))=(R:Int):=by
 have e1:w64 ((v:Int)-(c:Int))=(v:Int)-(c:Int):=C4 (by omega) (by omega)
 have e2:(z:Int) * ((v:Int)-(c:Int))=((z * v:Nat):Int)-((z * c:Nat):Int):=by rw [Int.mul_sub,Int.natCast_mul,Int.natCast_mul]
 rw [e1,e2]
 generalize z * v=A at *
 generalize z * c=B at *
 have e3:w64 ((A:Int)-(B:Int))=(A:Int)-(B:Int):=C4 (by omega) (by omega)
 rw [e3,show (P:Int)+((A:Int)-(B:Int))=(R:Int) by omega,C4 (by omega) (by omega)]
theorem Uv {t:List Nat} {ax:Nat} {fr:List Nat} (ht:∀ x∈t,0<x∧x≤4096) (h8:t.length≤8) (hn:pr t≤4096) (hax:ax<t.length) (hfr:∀ x∈fr,x<t[ax]) (h0:0<fr.length) (hm:fr.length≤4096) (i:Nat) :
  C2 (up_ (atN (t.set ax fr.length) i)) (up_ fr) (ax:Int) (up_ (stN t))=some ((Fb t ax fr i:Nat):Int):=by
 have ht':∀ x∈t.set ax fr.length,0<x∧x≤4096:=fun x hx=>by
  rcases List.mem_or_eq_of_mem_set hx with hx|rfl
  ·exact ht x hx
  ·exact ⟨h0,hm⟩
 have hv:=Ig (t:=t.set ax fr.length) i fun x hx=>(ht' x hx).1
 have hl:(atN (t.set ax fr.length) i).length=t.length:=by rw [CT,List.length_set]
 have hcv:=Ja hv ax (by omega) (by simpa using hax)
 rw [List.getElem_set_self] at hcv
 have hst:ax<(stN t).length:=by rw [CH];exact hax
 have hcb:∀ x∈atN (t.set ax fr.length) i,x≤4096:=fun x hx=>by
  obtain ⟨k,hk,rfl⟩:=List.getElem_of_mem hx
  have:=Ja hv k hk (by rw [List.length_set];omega)
  have h2:=(ht' _ (List.getElem_mem (show k<(t.set ax fr.length).length by rw [List.length_set];omega))).2
  omega
 have hsb:∀ x∈stN t,x≤4096:=fun x hx=>nT (PY (fun x hx=>(ht x hx).1) x hx) hn
 have hpl:=QD (stN t) (atN (t.set ax fr.length) i) ax (fr.getD ((atN (t.set ax fr.length) i).getD ax 0) 0) (by omega) hst
 have hgd:(atN (t.set ax fr.length) i).getD ax 0=(atN (t.set ax fr.length) i)[ax]'(by omega):=by rw [lD,lG (by omega)];rfl
 have hfd:fr.getD ((atN (t.set ax fr.length) i)[ax]'(by omega)) 0=fr[(atN (t.set ax fr.length) i)[ax]'(by omega)]'hcv:=by rw [lD,lG hcv];rfl
 have hlt:=Jo (fun x hx=>(ht x hx).1) hax hfr h0 i
 unfold Fb at hlt ⊢
 rw [hgd,hfd] at hpl hlt ⊢
 have hf1:=hfr _ (List.getElem_mem hcv)
 have htx:=(ht _ (List.getElem_mem hax)).2
 have hs1:=hsb _ (List.getElem_mem hst)
 have hc1:=hcb _ (List.getElem_mem (show ax<(atN (t.set ax fr.length) i).length by omega))
 have m1:=JJ hs1 hc1
 have m2:=JJ hs1 (show fr[(atN (t.set ax fr.length) i)[ax]'(by omega)]'hcv≤4096 by omega)
 unfold C2
 rw [I6 (by omega),oB,I6 hcv,oB,if_neg (by omega),O9 (by rw [CH];exact h8) (by rw [CH];omega) hsb hcb,oB,I6 hst,oB,oB]
 exact congrArg some (Ph hpl m1 m2 (by omega) (by omega) (by omega) (by omega))
theorem Sb {a:Arr} {t:List Nat} {ax:Nat} {fr:List Nat} {p:Itm} (hp:Cz a=some p) (ha:a.shape=up_ t) (hit:a.items.length=pr t) (ht:∀ x∈t,0<x∧x≤4096) (h8:t.length≤8) (hn:pr t≤4096) (hax:ax<t.length) (hfr:∀ x∈fr,x<t[ax]) (h0:0<fr.length) (hm:fr.length≤4096) (hn':pr (t.set ax fr.length)≤4096) :
  Bq a (ax:Int) (up_ fr)=Ax (up_ (t.set ax fr.length)) ((List.range (pr (t.set ax fr.length))).map fun i=>a.items.getD (Fb t ax fr i) default):=by
 have ht':∀ x∈t.set ax fr.length,0<x∧x≤4096:=fun x hx=>by
  rcases List.mem_or_eq_of_mem_set hx with hx|rfl
  ·exact ht x hx
  ·exact ⟨h0,hm⟩
 have hl:(up_ t).length≤17592186044416:=by rw [Bg];omega
 unfold Bq
 rw [ha,HP hl,oB,I6 hax,oB,E9 hl,oB,Kv hn fun x hx=>(ht x hx).1,Int.toNat_natCast]
 have e:List.set (up_ t) ax ((List.length (up_ fr):Nat):Int)=up_ (t.set ax fr.length):=by
  rw [Bg];unfold up_;rw [List.map_set]
 rw [e]
 have hb:=Mr (F:=(⟨.fn 229 [] [.ptr [.sl (Is (up_ fr))],.ptr [.i .i64 (ax:Int)],.ptr [.sl (Is (up_ (stN t)))]],fun x=>C2 x (up_ fr) (ax:Int) (up_ (stN t))⟩:Cl)) (J:=fun i=>((Fb t ax fr i:Nat):Int)) hp ht' (by rw [List.length_set];exact h8) hn' (fun i _=>⟨Uv ht h8 hn hax hfr h0 hm i,by have:=Jo (fun x hx=>(ht x hx).1) hax hfr h0 i;show ((Fb t ax fr i:Nat):Int)<_;omega⟩)
 rw [hb]
 have e2:((List.range (pr (t.set ax fr.length))).map fun i=>Iw a p ((Fb t ax fr i:Nat):Int))=((List.range (pr (t.set ax fr.length))).map fun i=>a.items.getD (Fb t ax fr i) default):=by
  refine List.map_congr_left fun i _=>?_
  unfold Iw
  rw [if_pos (by omega),Int.toNat_natCast]
 rw [e2]
 generalize Ax _ _=m
 cases m<;>rfl
theorem PW {a:Arr} {ax:Nat} {fr:List Int} {p:Itm} (hp:Cz a=some p) (hl:a.shape.length≤17592186044416) (hax:ax<a.shape.length) (hs:szP (a.shape.set ax ((fr.length:Nat) : Int))=(0,0)) :
  Bq a (ax:Int) fr=Ax (a.shape.set ax ((fr.length:Nat):Int)) [p]:=by
 unfold Bq
 rw [HP hl,oB,BT hax,oB,E9 hl,oB,Int.toNat_natCast,Lp hp (by rw [List.length_set];exact hl) hs]
 generalize Ax _ _=m
 cases m<;>rfl
def FO (g:Nat→Nat) : List Nat→Nat
 | []=>0
 | x::xs=>g x+FO g xs
theorem RK {g:Nat→Nat} {l m:List Nat} (h:l.Perm m) : FO g l=FO g m:=by
 induction h with
 | nil=>rfl
 | cons x _ ih=>rw [FO,FO,ih]
 | swap x y l=>rw [FO,FO,FO,FO];omega
 | trans _ _ a b=>exact a.trans b
theorem Pi (g:Nat→Nat) : ∀ l m : List Nat,FO g (l++m)=FO g l+FO g m
 | [],m=>by rw [List.nil_append,FO,Nat.zero_add]
 | x::l,m=>by rw [List.cons_append,FO,FO,Pi g l m,Nat.add_assoc]
theorem Na (g:Nat→Nat) : ∀ (n:Nat) (L:List Nat),L.Nodup→(∀ x∈L,x<n)→FO g L≤FO g (List.range n)
 | 0,[],_,_=>Nat.le_refl _
 | 0,x::_,_,h=>absurd (h x (by simp)) (by omega)
 | n+1,L,hd,h=>by
  rw [List.range_succ,Pi]
  by_cases hn:n∈L
  ·rw [RK (List.perm_cons_erase hn)]
   have:=Na g n (L.erase n) (hd.erase n) fun x hx=>by
    have h1:=(hd.mem_erase_iff).1 hx
    have:=h x h1.2
    have:=h1.1
    omega
   simp only [FO]
   omega
  ·have:=Na g n L hd fun x hx=>by
    have:=h x hx
    have:x≠n:=fun e=>hn (e▸hx)
    omega
   omega
theorem Qn (xs:List Itm) (L:List Nat) : cIs (L.map fun j=>xs.getD j default)=FO (fun j=>cI (xs.getD j default)) L:=by
 induction L with
 | nil=>rfl
 | cons j L ih=>rw [List.map_cons,cIs,FO,ih]
theorem Ln (xs:List Itm) : (List.range xs.length).map (fun j=>xs.getD j default)=xs:=by
 apply List.ext_getElem
 ·simp
 ·intro i h1 h2
  rw [List.getElem_map,List.getElem_range,lD,lG h2];rfl
theorem VV {xs:List Itm} {d:Nat} (h:∀ x∈xs,dI x≤d) : dIs xs≤d:=by
 induction xs with
 | nil=>exact Nat.zero_le _
 | cons x xs ih =>
  rw [dIs]
  have h1:=h x (by simp)
  have h2:=ih fun y hy=>h y (by simp [hy])
  omega
theorem Me {x:Itm} : ∀ {xs:List Itm},x∈xs→dI x≤dIs xs
 | y::ys,h=>by
  rw [dIs]
  rcases List.mem_cons.1 h with rfl|h
  ·omega
  ·have:=Me h;omega
def BD (a:Arr) (n:Nat) (J:Nat→Nat) : List Itm:=(List.range n).map fun i=>a.items.getD (J i) default
theorem GK {a:Arr} {n:Nat} {J:Nat→Nat} (hJ:∀ i,i<n→J i<a.items.length) : ∀ x∈BD a n J,x∈a.items:=fun x hx=>by
 obtain ⟨i,hi,rfl⟩:=List.mem_map.1 hx
 have:=hJ i (List.mem_range.1 hi)
 rw [lD,lG this]
 exact List.getElem_mem this
theorem Ez (a:Arr) (n:Nat) (J:Nat→Nat) : (BD a n J).length=n:=by simp [BD]
theorem R9 {s:List Int} {xs:List Itm} {n:Nat} (hs64:∀ z∈s,-9223372036854775808≤z∧z≤9223372036854775807) (hl:s.length≤17592186044416) (hsz:szP s=((n:Int),0)) (h0:n≠0) (hlen:xs.length=n) (hx:∀ x∈xs,okI x∧AT x) (hR:AD (.mk s xs)) : Ax s xs=some (.mk s xs,0):=by
 have hn:=Et s
 rw [hsz] at hn
 have hne:¬(xs=[]∨¬∀ x∈xs,AT x):=fun q=>q.elim (fun e=>by rw [e] at hlen;simp at hlen;omega) fun q=>q fun x h=>(hx x h).2
 rw [GM hs64 hl (by omega) (fun x h=>(hx x h).1),hsz,if_neg (fun q=>q rfl),if_neg hne,ES hlen h0,if_pos hR]
theorem Lj {a:Arr} (oa:okAr a) (ra:AD a) {s:List Int} {n:Nat} (hsz:szP s=((n:Int),0)) (h0:n≠0) (hlen:a.items.length=n) {J:Nat→Nat} (hJ:∀ i,i<n→J i<n) (hinj:∀ i j,i<n→j<n→J i=J j→i=j) : AD (.mk s (BD a n J)):=by
 have hJ':∀ i,i<n→J i<a.items.length:=fun i hi=>by rw [hlen];exact hJ i hi
 have hx:∀ x∈BD a n J,okI x∧AT x:=fun x h=>A6 oa ra (GK hJ' x h)
 have hc:cIs (BD a n J)≤cIs a.items:=by
  have e1:BD a n J=((List.range n).map J).map fun j=>a.items.getD j default:=by unfold BD;rw [List.map_map];rfl
  have e2:cIs a.items=FO (fun j=>cI (a.items.getD j default)) (List.range n):=by
   rw [← Qn,← hlen,Ln]
  rw [e1,Qn,e2]
  refine Na _ n _ ?_ fun x hx=>?_
  ·rw [List.Nodup,List.pairwise_map]
   refine List.pairwise_lt_range.imp_of_mem fun {i j} hi hj hij e=>?_
   have:=hinj i j (List.mem_range.1 hi) (List.mem_range.1 hj) e
   omega
  ·obtain ⟨i,hi,rfl⟩:=List.mem_map.1 hx
   exact hJ i (List.mem_range.1 hi)
 have hd:dIs (BD a n J)≤dIs a.items:=VV fun x h=>Me (GK hJ' x h)
 obtain ⟨r1,r2,r3⟩:=ra
 have hri:=(HF r1).2.2
 refine ⟨?_,?_,?_⟩
 ·rw [GX,GQ,Dr,hsz,Dm.2 fun x h=>(hx x h).2.1,Ez]
  simp only [Bool.and_true,decide_true,Bool.true_and,decide_eq_true_eq]
  rw [if_neg (by omega)]
 ·rw [GW,Dr]
  rw [GW] at r2
  split
  ·omega
  ·by_cases hs:AE a=true
   ·have:=(Lh hs (Dm.2 hri)).1
    omega
   ·rw [if_neg hs] at r2;omega
 ·rw [FY,Dr,Ez]
  rw [FY] at r3
  omega
theorem HB {a:Arr} (oa:okAr a) (ra:AD a) {s:List Int} {n:Nat} (hs64:∀ z∈s,-9223372036854775808≤z∧z≤9223372036854775807) (hl:s.length≤17592186044416) (hsz:szP s=((n:Int),0)) (h0:n≠0) (hlen:a.items.length=n) {J:Nat→Nat} (hJ:∀ i,i<n→J i<n) (hinj:∀ i j,i<n→j<n→J i=J j→i=j) :
  Ax s (BD a n J)=some (.mk s (BD a n J),0) :=
 R9 hs64 hl hsz h0 (Ez a n J) (fun x h=>A6 oa ra (GK (fun i hi=>by rw [hlen];exact hJ i hi) x h)) (Lj oa ra hsz h0 hlen hJ hinj)
theorem FZ {a:Arr} (oa:okAr a) (ra:AD a) (hz:szP a.shape=(0,0)) {s:List Int} (hs64:∀ z∈s,-9223372036854775808≤z∧z≤9223372036854775807) (hl:s.length≤17592186044416) (hsz:szP s=(0,0)) {p:Itm} (hp:p=a.items.headD default∨p=tyI (a.items.headD default)) :
  Ax s [p]=some (.mk s [tyI (a.items.headD default)],0):=by
 have hne:=Mn ra
 obtain ⟨r1,r2,r3⟩:=ra
 have hlen:a.items.length=1:=by
  have:=(HF r1).2.1
  rw [hz] at this
  rw [if_pos (by decide)] at this
  omega
 obtain ⟨x,hx⟩:=List.length_eq_one_iff.1 hlen
 have hx':a.items.headD default=x:=by rw [hx];rfl
 rw [hx'] at hp ⊢
 obtain ⟨ox,rx⟩:=A6 oa ⟨r1,r2,r3⟩ (x:=x) (by rw [hx];simp)
 obtain ⟨t1,t2,t3,t4,t5,t6⟩:=Nq ox rx.1
 have hns:∀ {s:List Int} {i:List Itm},szP s=(0,0)→AE (.mk s i)=false:=by
  intro s i h
  unfold AE
  cases s with
  | nil=>exact absurd (congrArg Prod.fst h) (by decide)
  | cons y ys=>rfl
 have hpr:okI p∧AT p∧tyI p=tyI x:=by
  rcases hp with rfl|rfl
  ·exact ⟨ox,rx,rfl⟩
  ·exact ⟨t6,⟨t1,t2▸rx.2.1,t3▸rx.2.2⟩,t4⟩
 have hmk:Bz (szP s).1 [p]=[tyI x]:=by
  rw [hsz];show [tyI p]=_;rw [hpr.2.2]
 have hR:AD (.mk s [tyI x]):=by
  have e1:dA a=1+dI x:=by
   have:AE a=false:=by have:=hns (i:=a.items) hz;rwa [Arr.eta] at this
   rw [GW,this,if_neg (by decide),hx,dIs,dIs,Nat.max_zero]
  have e2:cA a=1+cI x:=by rw [FY,hx];simp [cIs]
  refine ⟨?_,?_,?_⟩
  ·rw [GX,GQ,Dr,hsz,Dm.2 (by simpa using t1)];rfl
  ·rw [GW,hns hsz,if_neg (by decide),Dr,dIs,dIs,Nat.max_zero,t2];omega
  ·rw [FY,Dr];simp only [cIs,List.length_singleton];omega
 have hc:¬([p]=[]∨¬∀ y∈[p],AT y):=fun q=>q.elim (fun e=>by cases e) fun q=>q fun y hy=>by rw [List.mem_singleton] at hy;subst hy;exact hpr.2.1
 rw [GM hs64 hl (by simp) (fun y hy=>by rw [List.mem_singleton] at hy;subst hy;exact hpr.1),hmk,if_neg (by rw [hsz];exact fun q=>q rfl),if_neg hc,if_pos hR]
theorem RN {l:List Nat} (hd:l.Nodup) {i j:Nat} (hi:i<l.length) (hj:j<l.length) (e:l[i]=l[j]) : i=j:=by
 have h:=List.pairwise_iff_getElem.1 hd
 rcases Nat.lt_trichotomy i j with hl|hl|hl
 ·exact absurd e (h i j hi hj hl)
 ·exact hl
 ·exact absurd e.symm (h j i hj hi hl)
theorem P8 {t:List Nat} {ax:Nat} {fr:List Nat} (ht:∀ x∈t,0<x) (hax:ax<t.length) (hfr:∀ x∈fr,x<t[ax]) (hlen:fr.length=t[ax]) (hd:fr.Nodup) : ∀ i j,i<pr t→j<pr t→Fb t ax fr i=Fb t ax fr j→i=j:=by
 intro i j hi hj e
 have h0:0<fr.length:=by rw [hlen];exact ht _ (List.getElem_mem hax)
 have hset:t.set ax fr.length=t:=by rw [hlen];exact List.set_getElem_self hax
 have vi:=Jy ht hax hfr h0 i
 have vj:=Jy ht hax hfr h0 j
 have e2:(atN (t.set ax fr.length) i).set ax (fr.getD ((atN (t.set ax fr.length) i).getD ax 0) 0)=(atN (t.set ax fr.length) j).set ax (fr.getD ((atN (t.set ax fr.length) j).getD ax 0) 0):=by
  rw [← Iz vi,← Iz vj]
  exact congrArg (atN t) e
 rw [hset] at e2
 have hci:=Ig (t:=t) i ht
 have hcj:=Ig (t:=t) j ht
 have li:(atN t i).length=t.length:=CT t i
 have lj:(atN t j).length=t.length:=CT t j
 have key:atN t i=atN t j:=by
  refine List.ext_getElem (by rw [li,lj]) fun k h1 h2=>?_
  by_cases hk:ax=k
  ·subst hk
   have hh:((atN t i).set ax (fr.getD ((atN t i).getD ax 0) 0))[ax]?=((atN t j).set ax (fr.getD ((atN t j).getD ax 0) 0))[ax]?:=by rw [e2]
   rw [List.getElem?_set_self (by omega),List.getElem?_set_self (by omega)] at hh
   have gi:(atN t i).getD ax 0=(atN t i)[ax]:=by rw [lD,lG h1];rfl
   have gj:(atN t j).getD ax 0=(atN t j)[ax]:=by rw [lD,lG h2];rfl
   have bi:=Ja hci ax h1 hax
   have bj:=Ja hcj ax h2 hax
   rw [gi,gj] at hh
   have hh:=oI hh
   rw [lD,lD,lG (by omega),lG (by omega)] at hh
   exact RN hd _ _ hh
  ·have hh:((atN t i).set ax (fr.getD ((atN t i).getD ax 0) 0))[k]?=((atN t j).set ax (fr.getD ((atN t j).getD ax 0) 0))[k]?:=by rw [e2]
   rw [List.getElem?_set_ne hk,List.getElem?_set_ne hk,lG h1,lG h2] at hh
   exact oI hh
 have pi:=IN t i
 have pj:=IN t j
 rw [key,pj,Nat.mod_eq_of_lt hi,Nat.mod_eq_of_lt hj] at pi
 exact pi.symm
def Bv (x2:Int) (K0:(List Int)→Option (Arr×Int)) : Nat→(List Int)→Int→Option (Arr×Int)
 | 0,_,_=>none
 | k+1,s4,s5=>(if s5<x2 then ((ap? 17592186044416 [s5] s4).bind fun x6=>(Bv x2 K0 k x6 (w64 (s5+1)))) else (K0 s4))
def BV (a0:Arr) (a1:Int) : Option (Arr×Int):=(if ((List.length a0.shape:Nat) : Int)=0 then ((Fp a0).bind fun x1=>(some (x1,0))) else ((rd? a0.shape a1).bind fun x2=>(jn (fun (z3:(List Int))=>((Bq a0 a1 z3).bind fun x7=>(some (x7.1,x7.2)))) fun K0=>(Bv x2 K0 A4 [] 0))))
theorem Fv {a0:Arr} {a1:Int} {r:Arr×Int} (h:BV a0 a1=some r) :
  Fn Tryz.prog 101 [.ag [.sl (Is a0.shape),.sl (Its a0.items)],.i .i64 a1] (.tup [.d (.ag [.sl (Is r.1.shape),.sl (Its r.1.items)]),.d (.i .i64 r.2)]):=by
 unfold BV at h
 refine Fn.ofC (rs:=[.cell 4 25,.tmp 5]) (nt:=33) Tryz.func101 rfl rfl rfl (by simp) rfl ?_;refine .sr ?_;refine vk (vbx) ?_;refine vk (van (Ai A1) A7) ?_;refine ar [1,2,4,5] ?_;refine .seq ?_;refine .sr ?_;refine vk (vfa Cn) ?_;refine vk (As Dy) ?_;refine vk (Cc (AB _) (DS _) Dw) ?_;refine vk (vbi) ?_;refine rk [1,2,4,5,11] ?_
 rcases brc h with ⟨hc,h⟩|⟨hc,h⟩
 ·refine cnt (dT hc) ?_
  refine .sr ?_;refine vk (AN An Ad) ?_
  obtain ⟨x1,g1,h⟩:=bnd h
  refine vk (Ar (L3 g1) Tryz.call185) ?_
  refine stn ?_ Ad (by decide)
  refine ar [1,2,4,5] ?_;refine .ret ?_
  cases h
  exact ⟨_,_,⟨.inr rfl,An,Ad,p2⟩,rfl,rfl⟩
 refine cnf (dF hc) ?_;refine .skip ?_
 show AW _ _ _ _ _ _
 refine .sr ?_;refine asn ?_;refine rk [1,2,4,5,6] ?_;refine .seq ?_;refine .sr ?_;refine vk (vfa Cn) ?_;refine vk (As Dy) ?_;refine vk (Aa) ?_
 obtain ⟨x2,g2,h⟩:=bnd h
 obtain ⟨n2,p02,q2⟩:=Av g2
 refine vk (vix n2 p02 (Cv q2) rfl Cw) ?_;refine vk (As A9) ?_;refine vk (Aa) ?_;refine rk [1,2,4,5,6,18,19] ?_
 obtain ⟨K0,hK0,h⟩:=BU h
 refine AW.mr (σ:=(List Int)) (fun p=>K0 p=some r) (fun p=>[(1,.d (.i .i64 a1)),(2,.d (.ptr [.sl (Is a0.shape),.sl (Its a0.items)])),(4,.nb [.sl (Is []),.sl (Its [])]),(5,.d (.i .i64 0)),(6,.d (.sl (Is p)))]) (fun p=>[]) ?_ ?_
 ·skip
  refine .block ?_;refine .gh (Gh.nlD (t:=6) rfl) ?_
  refine .loop (.gk [1,2,4,5,6,18,19] ?_)
  refine AL.ind (σ:=Nat×(List Int)×Int) (m:=fun p=>p.1) (e:=fun p=>[(1,.d (.i .i64 a1)),(2,.d (.ptr [.sl (Is a0.shape),.sl (Its a0.items)])),(4,.nb [.sl (Is []),.sl (Its [])]),(5,.d (.i .i64 0)),(6,.d (.sl (Is p.2.1))),(18,.d (.i .i64 x2)),(19,.d (.i .i64 p.2.2))]) (h:=fun p=>[]) (I:=fun p=>Bv x2 K0 p.1 p.2.1 p.2.2=some r) ?_ (A4,[],0) h
  rintro ⟨k,s4,s5⟩ h ih
  dsimp only at h ih ⊢
  rcases k with _|k
  ·rw [Bv] at h;cases h
  rw [Bv] at h
  refine .sr ?_;refine vk (vbi) ?_;refine rk [1,2,4,5,6,18,19,20] ?_;refine .seq ?_
  rcases brc h with ⟨hc,h⟩|⟨hc,h⟩
  ·refine cnt (dT hc) ?_
   refine .skip ?_
   show AW _ _ _ _ _ _
   refine .seq ?_;refine .block ?_;refine .sr ?_;refine vk (Aa) ?_;refine ar [1,2,4,5,6,7,18,19] ?_;refine .region ?_;refine vk (Aa) ?_;refine vk (IZ (IY [s5]) FT) ?_;refine vk (Aa) ?_
   obtain ⟨x6,g6,h⟩:=bnd h
   refine V0 NA g6 Ra ?_ Ld AB FT
   refine aso ?_;refine .nil ?_
   show AW _ _ _ _ _ _
   refine .gk [1,2,4,5,6,18,19] ?_;refine .region ?_;refine vk (vbi) ?_;refine vk (Aa) ?_;refine .nil ?_;refine AL.gh (Gh.frz (p:=.t 6) rfl (fun _ _ h=>by cases h)) ?_;refine AL.gk [1,2,4,5,6,18,19] ?_
   exact ih (k,x6,(w64 (s5+1))) h (Nat.lt_succ_self _)
  refine cnf (dF hc) ?_;refine .gk [1,2,4,5,6] ?_;refine .exit ?_
  exact jr (s4) h
 rintro z3 h
 try dsimp only at h ⊢
 subst hK0
 show AW _ _ _ _ _ _
 refine .sr ?_;refine vk (AN An Ad) ?_;refine vk (Aa) ?_;refine vk (Aa) ?_
 obtain ⟨x7,g7,h⟩:=bnd h
 refine vk (VOK.tupd (vs:=[.ag [.sl (Is x7.1.shape),.sl (Its x7.1.items)],.i .i64 x7.2]) (Ar (KX g7) Tryz.call186)) ?_;refine vk (vex) ?_;refine vk (vex) ?_
 refine stn ?_ Ad (by decide)
 refine ar [4,5] ?_;refine .ret ?_
 cases h
 exact ⟨_,_,⟨.inr rfl,An,Ad,p2⟩,rfl,rfl⟩
def Bm (a0:(List Int)) (c0:(List Int)) : Option (Int):=((DW c0 a0).bind fun x1=>(some (x1)))
theorem GY {a0:(List Int)} {c0:(List Int)} {r:Int} (h:Bm a0 c0=some r) :
  Fn Tryz.prog 189 [.sl (Is a0),.ptr [.sl (Is c0)]] (.d (.i .i64 r)):=by
 unfold Bm at h
 refine Fn.o1 3 7 Tryz.func189 ?_;refine .sr ?_;refine ar [0,1,3] ?_;refine .sr ?_;refine vk (As Dy) ?_;refine vk (Aa) ?_
 obtain ⟨x1,g1,h⟩:=bnd h
 refine vk (Ar (Hi g1) Tryz.call190) ?_;refine ar [3] ?_;refine .ret ?_
 cases h
 exact ⟨rfl,rfl⟩
def Bh (a2:Int) (K0:(List Int)→Option (Arr×Int)) : Nat→(List Int)→Int→Option (Arr×Int)
 | 0,_,_=>none
 | k+1,s4,s5=>(if s5<((List.length (List.replicate (Int.toNat a2) (0:Int)):Nat):Int) then ((rd? s4 s5).bind fun x6=>(Bh a2 K0 k (List.set s4 (Int.toNat s5) 4096) (w64 (s5+1)))) else (K0 s4))
def Bi (a0:Arr) (a1:(List Int)) (x7:(List Int)) (K2:(List Int)→(List Int)→Option (Arr×Int)) : Nat→(List Int)→Int→(List Int)→Option (Arr×Int)
 | 0,_,_,_=>none
 | k+1,s10,s11,s12=>(if s11<((List.length x7:Nat):Int) then ((rd? x7 s11).bind fun x13=>((rd? a1 s11).bind fun x14=>((rd? a1 s11).bind fun x15=>((rd? s10 x15).bind fun x16=>((rd? a0.shape s11).bind fun x17=>((rd? s10 x14).bind fun x18=>((rd? a1 s11).bind fun x19=>((rd? s12 x19).bind fun x20=>((rd? s12 x19).bind fun x21=>(Bi a0 a1 x7 K2 k (List.set s10 (Int.toNat x14) (if x17<x16 then x17 else x16)) (w64 (s11+1)) (List.set s12 (Int.toNat x19) (w64 (x20+x13))))))))))))) else (K2 s10 s12))
def Dp (a0:Arr) (a1:(List Int)) (a2:Int) : Option (Arr×Int):=((Fs (0≤a2∧a2≤17592186044416)).bind fun x1=>((Fs (0≤a2∧a2≤17592186044416)).bind fun x2=>(jn (fun (z3:(List Int))=>((CD a0.shape).bind fun x7=>(jn (fun (z8:(List Int)) (z9:(List Int))=>((Ch a0 z8 (⟨.fn 189 [] [.ptr [.sl (Is z9)]],fun x=>Bm x z9⟩ : Cl)).bind fun x22=>(some (x22.1,x22.2)))) fun K2=>(Bi a0 a1 x7 K2 A4 z3 0 (List.replicate (Int.toNat a2) (0:Int)))))) fun K0=>(Bh a2 K0 A4 (List.replicate (Int.toNat a2) (0:Int)) 0))))
theorem HT {a0:Arr} {a1:(List Int)} {a2:Int} {r:Arr×Int} (h:Dp a0 a1 a2=some r) :
  Fn Tryz.prog 105 [.ag [.sl (Is a0.shape),.sl (Its a0.items)],.sl (Is a1),.i .i64 a2] (.tup [.d (.ag [.sl (Is r.1.shape),.sl (Its r.1.items)]),.d (.i .i64 r.2)]):=by
 unfold Dp at h
 refine Fn.ofC (rs:=[.cell 6 25,.tmp 7]) (nt:=71) Tryz.func105 rfl rfl rfl (by simp) rfl ?_;refine .sr ?_;refine vk (vbx) ?_;refine vk (van (Ai A1) A7) ?_;refine ar [1,2,3,6,7] ?_;refine .sr ?_;refine vk (Aa) ?_
 obtain ⟨x1,g1,h⟩:=bnd h
 have ghx1:=FP g1
 refine mk' (F:=Is) (x0:=0) (zl:=a2) (Int.toNat a2) MU (by omega) (by omega) ?_ FT (by decide)
 refine aso ?_;refine rk [1,2,3,6,7,8] ?_;refine .sr ?_;refine vk (Aa) ?_
 obtain ⟨x2,g2,h⟩:=bnd h
 have ghx2:=FP g2
 refine mk' (F:=Is) (x0:=0) (zl:=a2) (Int.toNat a2) MU (by omega) (by omega) ?_ FT (by decide)
 refine al ?_ (Ai Vj) (fun w I μ=>Wh w I μ)
 refine Rs (cs:=[.nl]) (c:=.nl) rfl rfl ?_ U8
 refine rk [1,3,6,7,8,9] ?_;refine .seq ?_;refine .sr ?_;refine mvo ?_;refine vk (WL (AB _) Dw) ?_;refine vk (Aa) ?_;refine rk [1,3,6,7,8,9,18,19] ?_
 obtain ⟨K0,hK0,h⟩:=BU h
 refine AW.mr (σ:=(List Int)) (fun p=>K0 p=some r) (fun p=>[(1,.d (.sl (Is a1))),(3,.d (.ptr [.sl (Is a0.shape),.sl (Its a0.items)])),(6,.nb [.sl (Is []),.sl (Its [])]),(7,.d (.i .i64 0)),(8,.own 3 (Is p)),(9,.bp 0 0)]) (fun p=>[HO.box [.own 3 (Is (List.replicate (Int.toNat a2) (0:Int)))]]) ?_ ?_
 ·skip
  refine .block ?_
  refine .loop (.gk [1,3,6,7,8,9,18,19] ?_)
  refine AL.ind (σ:=Nat×(List Int)×Int) (m:=fun p=>p.1) (e:=fun p=>[(1,.d (.sl (Is a1))),(3,.d (.ptr [.sl (Is a0.shape),.sl (Its a0.items)])),(6,.nb [.sl (Is []),.sl (Its [])]),(7,.d (.i .i64 0)),(8,.own 3 (Is p.2.1)),(9,.bp 0 0),(18,.d (.i .i64 ((List.length (List.replicate (Int.toNat a2) (0:Int)):Nat):Int))),(19,.d (.i .i64 p.2.2))]) (h:=fun p=>[HO.box [.own 3 (Is (List.replicate (Int.toNat a2) (0:Int)))]]) (I:=fun p=>Bh a2 K0 p.1 p.2.1 p.2.2=some r) ?_ (A4,(List.replicate (Int.toNat a2) (0:Int)),0) h
  rintro ⟨k,s4,s5⟩ h ih
  dsimp only at h ih ⊢
  rcases k with _|k
  ·rw [Bh] at h;cases h
  rw [Bh] at h
  refine .sr ?_;refine vk (vbi) ?_;refine rk [1,3,6,7,8,9,18,19,20] ?_;refine .seq ?_
  rcases brc h with ⟨hc,h⟩|⟨hc,h⟩
  ·refine cnt (dT hc) ?_
   refine .skip ?_
   show AW _ _ _ _ _ _
   refine .seq ?_;refine .block ?_;refine .sr ?_;refine vk (Aa) ?_;refine ar [1,3,6,7,8,9,10,18,19] ?_;refine .region ?_;refine mvo ?_;refine vk (Aa) ?_
   obtain ⟨x6,g6,h⟩:=bnd h
   obtain ⟨n6,p06,q6⟩:=Av g6
   refine ixr (off:=0) (len:=(Is s4).length) n6 p06 (by rw [AB];exact (lS.1 q6).1) ?_ Cw (by decide)
   refine RC (F:=Is) (D:=fun x=>.i .i64 x) Jr (us:=s4) (n:=n6) (m:=Int.toNat s5) (x:=4096) (by rw [p06];rfl) ⟨_,by rw [Nat.zero_add];exact Cv q6,rfl⟩ ?_ Fl
   refine RL.gk [1,3,6,7,8,9,10,18,19,23] ?_;refine .nil ?_
   show AW _ _ _ _ _ _
   refine .gk [1,3,6,7,8,9,18,19] ?_;refine .region ?_;refine vk (vbi) ?_;refine vk (Aa) ?_;refine .nil ?_;refine AL.gk [1,3,6,7,8,9,18,19] ?_
   exact ih (k,(List.set s4 (Int.toNat s5) 4096),(w64 (s5+1))) h (Nat.lt_succ_self _)
  refine cnf (dF hc) ?_;refine .gk [1,3,6,7,8,9] ?_;refine .exit ?_
  exact jr (s4) h
 rintro z3 h
 try dsimp only at h ⊢
 subst hK0
 show AW _ _ _ _ _ _
 refine .seq ?_;refine .sr ?_;refine vk (vfa Cn) ?_;refine vk (As Dy) ?_
 obtain ⟨x7,g7,h⟩:=bnd h
 refine vk (Ar (Ex g7) Tryz.call187) ?_;refine vk (Cc (AB _) (DS _) Dw) ?_;refine vk (Aa) ?_;refine rk [1,3,6,7,8,9,28,29,30] ?_
 obtain ⟨K2,hK2,h⟩:=BU h
 refine AW.mr (σ:=(List Int)×(List Int)) (fun p=>K2 p.1 p.2=some r) (fun p=>[(3,.d (.ptr [.sl (Is a0.shape),.sl (Its a0.items)])),(6,.nb [.sl (Is []),.sl (Its [])]),(7,.d (.i .i64 0)),(8,.own 3 (Is p.1)),(9,.bp 0 0)]) (fun p=>[HO.box [.own 3 (Is p.2)]]) ?_ ?_
 ·skip
  refine .block ?_
  refine .loop (.gk [1,3,6,7,8,9,28,29,30] ?_)
  refine AL.ind (σ:=Nat×(List Int)×Int×(List Int)) (m:=fun p=>p.1) (e:=fun p=>[(1,.d (.sl (Is a1))),(3,.d (.ptr [.sl (Is a0.shape),.sl (Its a0.items)])),(6,.nb [.sl (Is []),.sl (Its [])]),(7,.d (.i .i64 0)),(8,.own 3 (Is p.2.1)),(9,.bp 0 0),(28,.d (.sl (Is x7))),(29,.d (.i .i64 ((List.length x7:Nat):Int))),(30,.d (.i .i64 p.2.2.1))]) (h:=fun p=>[HO.box [.own 3 (Is p.2.2.2)]]) (I:=fun p=>Bi a0 a1 x7 K2 p.1 p.2.1 p.2.2.1 p.2.2.2=some r) ?_ (A4,z3,0,(List.replicate (Int.toNat a2) (0:Int))) h
  rintro ⟨k,s10,s11,s12⟩ h ih
  dsimp only at h ih ⊢
  rcases k with _|k
  ·rw [Bi] at h;cases h
  rw [Bi] at h
  refine .sr ?_;refine vk (vbi) ?_;refine rk [1,3,6,7,8,9,28,29,30,31] ?_;refine .seq ?_
  rcases brc h with ⟨hc,h⟩|⟨hc,h⟩
  ·refine cnt (dT hc) ?_
   refine .skip ?_
   show AW _ _ _ _ _ _
   refine .seq ?_;refine .block ?_;refine .sr ?_;refine vk (Aa) ?_
   obtain ⟨x13,g13,h⟩:=bnd h
   obtain ⟨n13,p013,q13⟩:=Av g13
   refine vk (vix n13 p013 (Cv q13) rfl Cw) ?_;refine vk (As A9) ?_;refine asd ?_;refine ar [1,3,6,7,8,9,11,12,28,29,30] ?_;refine .seq ?_;refine .drawn 19 BN (by kernel_rfl) ?_;refine dv RO ?_;refine dv (Aa) ?_;refine dv (Aa) ?_
   obtain ⟨x14,g14,h⟩:=bnd h
   obtain ⟨n14,p014,q14⟩:=Av g14
   refine dv (vix n14 p014 (Cv q14) rfl Cw) ?_;refine dv (As A9) ?_;refine dv RO ?_;refine dv (Aa) ?_;refine dv (Aa) ?_
   obtain ⟨x15,g15,h⟩:=bnd h
   obtain ⟨n15,p015,q15⟩:=Av g15
   refine dv (vix n15 p015 (Cv q15) rfl Cw) ?_;refine dv (As A9) ?_
   obtain ⟨x16,g16,h⟩:=bnd h
   obtain ⟨n16,p016,q16⟩:=Av g16
   refine dv (OY (off:=0) (len:=(Is s10).length) n16 p016 (by rw [AB];exact (lS.1 q16).1) Cw (by decide)) ?_;refine dv (Tv (i:=0+n16) (j:=0) (xs:=Is s10) (.i .i64 x16) ⟨_,by rw [Nat.zero_add];exact Cv q16,rfl⟩ A9) ?_;refine dv (vfa Cn) ?_;refine dv (As Dy) ?_;refine dv (Aa) ?_
   obtain ⟨x17,g17,h⟩:=bnd h
   obtain ⟨n17,p017,q17⟩:=Av g17
   refine dv (vix n17 p017 (Cv q17) rfl Cw) ?_;refine dv (As A9) ?_;refine dv (vmn) ?_
   obtain ⟨x18,g18,h⟩:=bnd h
   obtain ⟨n18,p018,q18⟩:=Av g18
   refine dv (OY (off:=0) (len:=(Is s10).length) n18 p018 (by rw [AB];exact (lS.1 q18).1) Cw (by decide)) ?_;refine dz ?_
   refine RC (F:=Is) (D:=fun x=>.i .i64 x) Jr (us:=s10) (n:=n18) (m:=Int.toNat x14) (x:=(if x17<x16 then x17 else x16)) (by rw [p018];rfl) ⟨_,by rw [Nat.zero_add];exact Cv q18,rfl⟩ ?_ Fl
   refine RL.gk [1,3,6,7,8,9,11,12,28,29,30,36,37,38,39,41,42,43,44,46,47,48,49,50,51,52] ?_;refine rk [1,3,6,7,8,9,11,12,28,29,30] ?_;refine .drawn 10 BN (by kernel_rfl) ?_;refine dv (QW (cs:=[.own 3 (Is s12)]) rfl rfl Dy) ?_;refine dv (Aa) ?_;refine dv (Aa) ?_
   obtain ⟨x19,g19,h⟩:=bnd h
   obtain ⟨n19,p019,q19⟩:=Av g19
   refine dv (vix n19 p019 (Cv q19) rfl Cw) ?_;refine dv (As A9) ?_
   obtain ⟨x20,g20,h⟩:=bnd h
   obtain ⟨n20,p020,q20⟩:=Av g20
   refine dv (OY (off:=0) (len:=(Is s12).length) n20 p020 (by rw [AB];exact (lS.1 q20).1) Cw (by decide)) ?_;refine dv (Tv (i:=0+n20) (j:=0) (xs:=Is s12) (.i .i64 x20) ⟨_,by rw [Nat.zero_add];exact Cv q20,rfl⟩ A9) ?_;refine dv (Aa) ?_;refine dv (vbi) ?_
   obtain ⟨x21,g21,h⟩:=bnd h
   obtain ⟨n21,p021,q21⟩:=Av g21
   refine dv (OY (off:=0) (len:=(Is s12).length) n21 p021 (by rw [AB];exact (lS.1 q21).1) Cw (by decide)) ?_;refine dz ?_
   refine RC (F:=Is) (D:=fun x=>.i .i64 x) Jr (us:=s12) (n:=n21) (m:=Int.toNat x19) (x:=(w64 (x20+x13))) (by rw [p021];rfl) ⟨_,by rw [Nat.zero_add];exact Cv q21,rfl⟩ ?_ Fl
   refine RL.gk [1,3,6,7,8,9,11,12,28,29,30,55,56,57,58,60,61,62] ?_;refine .nil ?_
   show AW _ _ _ _ _ _
   refine .gk [1,3,6,7,8,9,28,29,30] ?_;refine .region ?_;refine vk (vbi) ?_;refine vk (Aa) ?_;refine .nil ?_;refine AL.gk [1,3,6,7,8,9,28,29,30] ?_
   exact ih (k,(List.set s10 (Int.toNat x14) (if x17<x16 then x17 else x16)),(w64 (s11+1)),(List.set s12 (Int.toNat x19) (w64 (x20+x13)))) h (Nat.lt_succ_self _)
  refine cnf (dF hc) ?_;refine .gk [3,6,7,8,9] ?_;refine .exit ?_
  exact jr (s10,s12) h
 rintro ⟨z8,z9⟩ h
 try dsimp only at h ⊢
 subst hK2
 show AW _ _ _ _ _ _
 refine .sr ?_;refine vk (AN An Ad) ?_;refine fz (p:=.t 8) ?_;refine vk (Aa) ?_;refine fz (p:=.c 0 0) ?_;refine RL.gh2 (Gh2.pop (H0:=[]) (cs:=[.sl (Is z9)]) rfl rfl rfl rfl) ?_;refine vk (VH) ?_
 obtain ⟨x22,g22,h⟩:=bnd h
 refine vk (VOK.tupd (vs:=[.ag [.sl (Is x22.1.shape),.sl (Its x22.1.items)],.i .i64 x22.2]) (Ar (Hx (D5 Tryz.call189 (fun _ _ h=>GY h)) g22) Tryz.call188)) ?_;refine vk (vex) ?_;refine vk (vex) ?_
 refine stn ?_ Ad (by decide)
 refine ar [6,7] ?_;refine .ret ?_
 cases h
 exact ⟨_,_,⟨.inr rfl,An,Ad,p2⟩,rfl,rfl⟩
def D8 (a0:Arr) : Option (Arr×Int):=((CU a0.shape).bind fun x1=>((Ax ([x1.1]) a0.items).bind fun x2=>(some (x2.1,x2.2))))
theorem Kr {a0:Arr} {r:Arr×Int} (h:D8 a0=some r) :
  Fn Tryz.prog 97 [.ag [.sl (Is a0.shape),.sl (Its a0.items)]] (.tup [.d (.ag [.sl (Is r.1.shape),.sl (Its r.1.items)]),.d (.i .i64 r.2)]):=by
 unfold D8 at h
 refine Fn.ofC (rs:=[.cell 2 25,.tmp 3]) (nt:=19) Tryz.func97 rfl rfl rfl (by simp) rfl ?_;refine .sr ?_;refine vk (vbx) ?_;refine vk (van (Ai A1) A7) ?_;refine ar [1,2,3] ?_;refine .sr ?_;refine vk (vfa Cn) ?_;refine vk (As Dy) ?_
 obtain ⟨x1,g1,h⟩:=bnd h
 refine vk (VOK.tupd (vs:=[.i .i64 x1.1,.i .i64 x1.2]) (Ar (Dz g1) Tryz.call98)) ?_;refine vk (Aa) ?_;refine vk (vex) ?_;refine vk (vex) ?_;refine asd ?_;refine ar [1,2,3,4] ?_;refine .sr ?_;refine vk (Aa) ?_;refine vk ((IZ (IY [x1.1]) FT).deep) ?_;refine vk (vfa BH) ?_;refine vk (As DJ) ?_
 obtain ⟨x2,g2,h⟩:=bnd h
 refine vk (VOK.tupd (vs:=[.ag [.sl (Is x2.1.shape),.sl (Its x2.1.items)],.i .i64 x2.2]) (Ar (FF g2) Tryz.call99)) ?_;refine vk (vex) ?_;refine vk (vex) ?_
 refine stn ?_ Ad (by decide)
 refine ar [2,3] ?_;refine .ret ?_
 cases h
 exact ⟨_,_,⟨.inr rfl,An,Ad,p2⟩,rfl,rfl⟩
def Di (a0:Arr) : Option (Arr×Int):=((F5 a0 false).bind fun x1=>((BV a0 x1).bind fun x2=>(some (x2.1,x2.2))))
theorem Kc {a0:Arr} {r:Arr×Int} (h:Di a0=some r) :
  Fn Tryz.prog 100 [.ag [.sl (Is a0.shape),.sl (Its a0.items)]] (.tup [.d (.ag [.sl (Is r.1.shape),.sl (Its r.1.items)]),.d (.i .i64 r.2)]):=by
 unfold Di at h
 refine Fn.ofC (rs:=[.cell 2 25,.tmp 3]) (nt:=10) Tryz.func100 rfl rfl rfl (by simp) rfl ?_;refine .sr ?_;refine vk (vbx) ?_;refine vk (van (Ai A1) A7) ?_;refine ar [1,2,3] ?_;refine .seq ?_;refine .drawn 6 BN (by kernel_rfl) ?_;refine dv (AN An Ad) ?_;refine dv (AN An Ad) ?_
 obtain ⟨x1,g1,h⟩:=bnd h
 refine dv (Ar (MP g1) Tryz.call102) ?_
 obtain ⟨x2,g2,h⟩:=bnd h
 refine dv (VOK.tupd (vs:=[.ag [.sl (Is x2.1.shape),.sl (Its x2.1.items)],.i .i64 x2.2]) (Ar (Fv g2) Tryz.call101)) ?_;refine dv (vex) ?_;refine dv (vex) ?_;refine dz ?_
 refine stn ?_ Ad (by decide)
 refine ar [2,3] ?_;refine .ret ?_
 cases h
 exact ⟨_,_,⟨.inr rfl,An,Ad,p2⟩,rfl,rfl⟩
def Dk (a0:Arr) : Option (Arr×Int):=((BV a0 0).bind fun x1=>(some (x1.1,x1.2)))
theorem Kk {a0:Arr} {r:Arr×Int} (h:Dk a0=some r) :
  Fn Tryz.prog 103 [.ag [.sl (Is a0.shape),.sl (Its a0.items)]] (.tup [.d (.ag [.sl (Is r.1.shape),.sl (Its r.1.items)]),.d (.i .i64 r.2)]):=by
 unfold Dk at h
 refine Fn.ofC (rs:=[.cell 2 25,.tmp 3]) (nt:=8) Tryz.func103 rfl rfl rfl (by simp) rfl ?_;refine .sr ?_;refine vk (vbx) ?_;refine vk (van (Ai A1) A7) ?_;refine ar [1,2,3] ?_;refine .sr ?_;refine vk (AN An Ad) ?_
 obtain ⟨x1,g1,h⟩:=bnd h
 refine vk (VOK.tupd (vs:=[.ag [.sl (Is x1.1.shape),.sl (Its x1.1.items)],.i .i64 x1.2]) (Ar (Fv g1) Tryz.call101)) ?_;refine vk (vex) ?_;refine vk (vex) ?_
 refine stn ?_ Ad (by decide)
 refine ar [2,3] ?_;refine .ret ?_
 cases h
 exact ⟨_,_,⟨.inr rfl,An,Ad,p2⟩,rfl,rfl⟩
def B7 (a0:Arr) (K0:(List Int)→Option (Arr×Int)) : Nat→(List Int)→Int→Option (Arr×Int)
 | 0,_,_=>none
 | k+1,s2,s3=>(if s3<((List.length a0.shape:Nat):Int) then ((ap? 17592186044416 [s3] s2).bind fun x4=>(B7 a0 K0 k x4 (w64 (s3+1)))) else (K0 s2))
def Dl (a0:Arr) : Option (Arr×Int):=(jn (fun (z1:(List Int))=>((Dp a0 z1 ((List.length z1:Nat) : Int)).bind fun x5=>(some (x5.1,x5.2)))) fun K0=>(B7 a0 K0 A4 [] 0))
theorem Ko {a0:Arr} {r:Arr×Int} (h:Dl a0=some r) :
  Fn Tryz.prog 104 [.ag [.sl (Is a0.shape),.sl (Its a0.items)]] (.tup [.d (.ag [.sl (Is r.1.shape),.sl (Its r.1.items)]),.d (.i .i64 r.2)]):=by
 unfold Dl at h
 refine Fn.ofC (rs:=[.cell 2 25,.tmp 3]) (nt:=24) Tryz.func104 rfl rfl rfl (by simp) rfl ?_;refine .sr ?_;refine vk (vbx) ?_;refine vk (van (Ai A1) A7) ?_;refine ar [1,2,3] ?_;refine .sr ?_;refine asn ?_;refine rk [1,2,3,4] ?_;refine .seq ?_;refine .sr ?_;refine vk (vfa Cn) ?_;refine vk (As Dy) ?_;refine vk (Cc (AB _) (DS _) Dw) ?_;refine vk (Aa) ?_;refine rk [1,2,3,4,8,9] ?_
 obtain ⟨K0,hK0,h⟩:=BU h
 refine AW.mr (σ:=(List Int)) (fun p=>K0 p=some r) (fun p=>[(1,.d (.ptr [.sl (Is a0.shape),.sl (Its a0.items)])),(2,.nb [.sl (Is []),.sl (Its [])]),(3,.d (.i .i64 0)),(4,.d (.sl (Is p)))]) (fun p=>[]) ?_ ?_
 ·skip
  refine .block ?_;refine .gh (Gh.nlD (t:=4) rfl) ?_
  refine .loop (.gk [1,2,3,4,8,9] ?_)
  refine AL.ind (σ:=Nat×(List Int)×Int) (m:=fun p=>p.1) (e:=fun p=>[(1,.d (.ptr [.sl (Is a0.shape),.sl (Its a0.items)])),(2,.nb [.sl (Is []),.sl (Its [])]),(3,.d (.i .i64 0)),(4,.d (.sl (Is p.2.1))),(8,.d (.i .i64 ((List.length a0.shape:Nat):Int))),(9,.d (.i .i64 p.2.2))]) (h:=fun p=>[]) (I:=fun p=>B7 a0 K0 p.1 p.2.1 p.2.2=some r) ?_ (A4,[],0) h
  rintro ⟨k,s2,s3⟩ h ih
  dsimp only at h ih ⊢
  rcases k with _|k
  ·rw [B7] at h;cases h
  rw [B7] at h
  refine .sr ?_;refine vk (vbi) ?_;refine rk [1,2,3,4,8,9,10] ?_;refine .seq ?_
  rcases brc h with ⟨hc,h⟩|⟨hc,h⟩
  ·refine cnt (dT hc) ?_
   refine .skip ?_
   show AW _ _ _ _ _ _
   refine .seq ?_;refine .block ?_;refine .sr ?_;refine vk (Aa) ?_;refine ar [1,2,3,4,5,8,9] ?_;refine .region ?_;refine vk (Aa) ?_;refine vk (IZ (IY [s3]) FT) ?_;refine vk (Aa) ?_
   obtain ⟨x4,g4,h⟩:=bnd h
   refine V0 NA g4 Ra ?_ Ld AB FT
   refine aso ?_;refine .nil ?_
   show AW _ _ _ _ _ _
   refine .gk [1,2,3,4,8,9] ?_;refine .region ?_;refine vk (vbi) ?_;refine vk (Aa) ?_;refine .nil ?_;refine AL.gh (Gh.frz (p:=.t 4) rfl (fun _ _ h=>by cases h)) ?_;refine AL.gk [1,2,3,4,8,9] ?_
   exact ih (k,x4,(w64 (s3+1))) h (Nat.lt_succ_self _)
  refine cnf (dF hc) ?_;refine .gk [1,2,3,4] ?_;refine .exit ?_
  exact jr (s2) h
 rintro z1 h
 try dsimp only at h ⊢
 subst hK0
 show AW _ _ _ _ _ _
 refine .sr ?_;refine vk (AN An Ad) ?_;refine vk (Aa) ?_;refine vk (Aa) ?_;refine vk (Cc (AB _) (DS _) Dw) ?_
 obtain ⟨x5,g5,h⟩:=bnd h
 refine vk (VOK.tupd (vs:=[.ag [.sl (Is x5.1.shape),.sl (Its x5.1.items)],.i .i64 x5.2]) (Ar (HT g5) Tryz.call105)) ?_;refine vk (vex) ?_;refine vk (vex) ?_
 refine stn ?_ Ad (by decide)
 refine ar [2,3] ?_;refine .ret ?_
 cases h
 exact ⟨_,_,⟨.inr rfl,An,Ad,p2⟩,rfl,rfl⟩
def Aq (a0:(List Arr)) (a1:Bu) (K0:Int→Option (Int)) : Nat→Int→Int→Option (Int)
 | 0,_,_=>none
 | k+1,s2,s3=>(if s3<((List.length a0:Nat):Int) then ((rd? a0 s3).bind fun x4=>((a1.g x4).bind fun x5=>(if x5=true then (some (s3)) else (Aq a0 a1 K0 k s2 (w64 (s3+1)))))) else (K0 s2))
def AU (a0:(List Arr)) (a1:Bu) : Option (Int):=(jn (fun (z1:Int)=>(some ((-1)))) fun K0=>(Aq a0 a1 K0 A4 0 0))
theorem Db {a0:(List Arr)} {a1:Bu} (oa1:I7 a1) {r:Int} (h:AU a0 a1=some r) :
  Fn Tryz.prog 191 [.sl (Ars a0),a1.dv] (.d (.i .i64 r)):=by
 unfold AU at h
 refine Fn.o1 4 19 Tryz.func191 ?_;refine .sr ?_;refine ar [0,1,4] ?_;refine .seq ?_;refine .sr ?_;refine vk (Aa) ?_;refine vk (Cc (CF _) (GB _) GD) ?_;refine vk (Aa) ?_;refine rk [0,1,4,7,8] ?_
 obtain ⟨K0,hK0,h⟩:=BU h
 refine AW.mr (σ:=Int) (fun p=>K0 p=some r) (fun p=>[(4,.d (.i .i64 p))]) (fun p=>[]) ?_ ?_
 ·skip
  refine .block ?_
  refine .loop (.gk [0,1,4,7,8] ?_)
  refine AL.ind (σ:=Nat×Int×Int) (m:=fun p=>p.1) (e:=fun p=>[(0,.d (.sl (Ars a0))),(1,.d (a1.dv)),(4,.d (.i .i64 p.2.1)),(7,.d (.i .i64 ((List.length a0:Nat):Int))),(8,.d (.i .i64 p.2.2))]) (h:=fun p=>[]) (I:=fun p=>Aq a0 a1 K0 p.1 p.2.1 p.2.2=some r) ?_ (A4,0,0) h
  rintro ⟨k,s2,s3⟩ h ih
  dsimp only at h ih ⊢
  rcases k with _|k
  ·rw [Aq] at h;cases h
  rw [Aq] at h
  refine .sr ?_;refine vk (vbi) ?_;refine rk [0,1,4,7,8,9] ?_;refine .seq ?_
  rcases brc h with ⟨hc,h⟩|⟨hc,h⟩
  ·refine cnt (dT hc) ?_
   refine .skip ?_
   show AW _ _ _ _ _ _
   refine .seq ?_;refine .block ?_;refine .sr ?_;refine vk (Aa) ?_;refine ar [0,1,4,5,7,8] ?_;refine .sr ?_;refine vk (Aa) ?_;refine vk (Aa) ?_;refine vk (Aa) ?_
   obtain ⟨x4,g4,h⟩:=bnd h
   obtain ⟨n4,p04,q4⟩:=Av g4
   refine vk (vix n4 p04 (GC q4) rfl GI) ?_;refine vk (AN An Ad) ?_
   obtain ⟨x5,g5,h⟩:=bnd h
   refine vk (Nn (oa1 _ _ g5)) ?_;refine rk [0,1,4,5,7,8,16] ?_
   rcases brc h with ⟨hc,h⟩|⟨hc,h⟩
   ·refine cnt hc ?_
    refine .sr ?_;refine vk (Aa) ?_;refine ar [0,1,4,7,8] ?_;refine .ret ?_
    cases h
    exact ⟨rfl,rfl⟩
   refine cnf (bf hc) ?_;refine .skip ?_
   show AW _ _ _ _ _ _
   refine .region ?_;refine vk (vbi) ?_;refine vk (Aa) ?_;refine .nil ?_;refine AL.gk [0,1,4,7,8] ?_
   exact ih (k,s2,(w64 (s3+1))) h (Nat.lt_succ_self _)
  refine cnf (dF hc) ?_;refine .gk [4] ?_;refine .exit ?_
  exact jr (s2) h
 rintro z1 h
 try dsimp only at h ⊢
 subst hK0
 show AW _ _ _ _ _ _
 refine .sr ?_;refine ar [4] ?_;refine .ret ?_
 cases h
 exact ⟨rfl,rfl⟩
def Aw (a0:(List Arr)) (a1:Bu) : Option (Bool):=((AU a0 a1).bind fun x1=>(some ((decide (0≤x1)))))
theorem Bx {a0:(List Arr)} {a1:Bu} (oa1:I7 a1) {r:Bool} (h:Aw a0 a1=some r) :
  Fn Tryz.prog 106 [.sl (Ars a0),a1.dv] (.d (.b r)):=by
 unfold Aw at h
 refine Fn.o1 4 9 Tryz.func106 ?_;refine .sr ?_;refine ar [0,1,4] ?_;refine .sr ?_;refine vk (Aa) ?_;refine vk (Aa) ?_
 obtain ⟨x1,g1,h⟩:=bnd h
 refine vk (Ar (Db oa1 g1) Tryz.call191) ?_;refine vk (vbi) ?_;refine ar [4] ?_;refine .ret ?_
 cases h
 exact ⟨rfl,rfl⟩
def CE (a0:Arr) : Option (Bool):=((A5 a0).bind fun x1=>(some ((!x1))))
theorem Gg {a0:Arr} {r:Bool} (h:CE a0=some r) :
  Fn Tryz.prog 107 [.ag [.sl (Is a0.shape),.sl (Its a0.items)]] (.d (.b r)):=by
 unfold CE at h
 refine Fn.o1 2 6 Tryz.func107 ?_;refine .sr ?_;refine vk (vbx) ?_;refine ar [1,2] ?_;refine .sr ?_;refine vk (AN An Ad) ?_
 obtain ⟨x1,g1,h⟩:=bnd h
 refine vk (Ar (Bw g1) Tryz.call13) ?_;refine vk (vnt) ?_;refine ar [2] ?_;refine .ret ?_
 cases h
 exact ⟨rfl,rfl⟩
def EL (a0:(Int×RT×Int)) (a1:(List Arr)) : Option (Bool):=(Option.bind ((if a0.1=0 then ((Aw a1 (⟨.fn 107 [] [],fun x=>CE x⟩ : Bu)).bind fun x2=>(some (!x2))) else (if a0.1=1 then ((Aw a1 (⟨.fn 107 [] [],fun x=>CE x⟩ : Bu)).bind fun x3=>(some (!x3))) else (some false))) : Option (Bool)) fun (z1:Bool)=>(some (z1)))
theorem Li {a0:(Int×RT×Int)} {a1:(List Arr)} {r:Bool} (h:EL a0 a1=some r) :
  Fn Tryz.prog 35 [.ag [.i .i64 a0.1,.b a0.2.1.1,.sl (L a0.2.1.2.1),.sl (L a0.2.1.2.2),.i .i64 a0.2.2],.sl (Ars a1)] (.d (.b r)):=by
 unfold EL at h
 refine Fn.o1 4 18 Tryz.func35 ?_;refine .sr ?_;refine vk (vbx) ?_;refine ar [1,2,4] ?_;refine .seq ?_
 obtain ⟨z1,hz,h⟩:=bnd h
 refine AW.mr (σ:=Unit) (fun _=>True) (fun _=>[(4,.d (.b z1))]) (fun _=>[]) ?_ ?_
 ·skip
  refine .region ?_;refine vk (vfa Rk) ?_;refine vk (As A9) ?_;refine vk (vbi) ?_
  rcases brc hz with ⟨hc,hz⟩|⟨hc,hz⟩
  ·have hb0:(decide (a0.1=0))=true:=(dT hc)
   refine vk (VOK.lit (Aa) hb0) ?_;refine gf ?_;refine gf ?_;refine gf ?_;refine vk (AF) ?_;refine vk (Aa) ?_;refine vk (Aa) ?_
   obtain ⟨x2,g2,hz⟩:=bnd hz
   refine vk (Ar (Bx (D5 Tryz.call107 (fun _ _ h=>Gg h)) g2) Tryz.call106) ?_;refine vk (vnt) ?_;refine vk (AF) ?_;refine asd ?_;refine RL.gk [4] ?_;refine .nil ?_
   cases hz
   exact jr () trivial
  have hb0:(decide (a0.1=0))=false:=(dF hc)
  refine vk (VOK.lit (Aa) hb0) ?_;refine vk (vfa Rk) ?_;refine vk (As A9) ?_;refine vk (vbi) ?_;refine vk (AF) ?_
  rcases brc hz with ⟨hc,hz⟩|⟨hc,hz⟩
  ·have hb1:(decide (a0.1=1))=true:=(dT hc)
   refine vk (VOK.lit (Aa) hb1) ?_;refine vk (Aa) ?_
   obtain ⟨x3,g3,hz⟩:=bnd hz
   refine vk (Ar (Bx (D5 Tryz.call107 (fun _ _ h=>Gg h)) g3) Tryz.call106) ?_;refine vk (vnt) ?_;refine vk (AF) ?_;refine asd ?_;refine RL.gk [4] ?_;refine .nil ?_
   cases hz
   exact jr () trivial
  have hb1:(decide (a0.1=1))=false:=(dF hc)
  refine vk (VOK.lit (Aa) hb1) ?_;refine gf ?_;refine gf ?_;refine gf ?_;refine vk (AF) ?_;refine asd ?_;refine RL.gk [4] ?_;refine .nil ?_
  cases hz
  exact jr () trivial
 rintro _ _
 refine .ret ?_
 cases h
 exact ⟨rfl,rfl⟩
theorem Ew : Tryz.prog.underlying 65=some (.map 21 63):=by kernel_rfl
theorem RS : ∀ w,(zeroValue 63).run Tryz.prog w=.ok .nilFunc w:=Ai (by kernel_rfl)
def Qw : List (Int×DV):=[(9076,.fn 96 [] []),(44,.fn 97 [] []),(9021,.fn 100 [] []),(8854,.fn 103 [] []),(9033,.fn 104 [] [])]
theorem R3 : Fn Tryz.prog 34 [] (.d (.mp (Qw.map fun p=>.i .i32 p.1) (Qw.map (·.2)))):=by
 refine Fn.o1 0 3 Tryz.func34 ?_;refine .sr ?_;refine asu ?_;refine rn ?_;refine .sr ?_;refine vk (WJ) ?_;refine Im Ew gkR freshK.nil ?_;refine Im Ew gkR (freshK.snoc (z:=44) (z':=9076) freshK.nil (by decide)) ?_;refine Im Ew gkR (freshK.snoc (z:=9021) (z':=44) (freshK.snoc (z:=9021) (z':=9076) freshK.nil (by decide)) (by decide)) ?_;refine Im Ew gkR (freshK.snoc (z:=8854) (z':=9021) (freshK.snoc (z:=8854) (z':=44) (freshK.snoc (z:=8854) (z':=9076) freshK.nil (by decide)) (by decide)) (by decide)) ?_;refine Im Ew gkR (freshK.snoc (z:=9033) (z':=8854) (freshK.snoc (z:=9033) (z':=9021) (freshK.snoc (z:=9033) (z':=44) (freshK.snoc (z:=9033) (z':=9076) freshK.nil (by decide)) (by decide)) (by decide)) (by decide)) ?_;refine RL.gh (Gh.omf (t:=1) rfl) ?_;refine RL.gk [1] ?_;refine vk (Aa) ?_;refine asd ?_;refine rn ?_;refine .ret ?_
 exact ⟨rfl,rfl⟩
def EU : List (Int×CB):=[(9076,⟨.fn 96 [] [],fun _=>none⟩),(44,⟨.fn 97 [] [],fun x=>D8 x⟩),(9021,⟨.fn 100 [] [],fun x=>Di x⟩),(8854,⟨.fn 103 [] [],fun x=>Dk x⟩),(9033,⟨.fn 104 [] [],fun x=>Dl x⟩)]
theorem PP : (EU.map (·.1)).Nodup:=by show List.Nodup [(9076:Int),(44:Int),(9021:Int),(8854:Int),(9033:Int)];decide
theorem Oh : ∀ p∈EU,Ft p.2∧isF p.2.dv:=by
 intro p hp
 simp only [EU,List.mem_cons,List.not_mem_nil,or_false] at hp
 rcases hp with rfl|rfl|rfl|rfl|rfl
 ·exact ⟨D5 Tryz.call96 (fun _ _ h=>nomatch h),_,_,_,rfl⟩
 ·exact ⟨D5 Tryz.call97 (fun _ _ h=>Kr h),_,_,_,rfl⟩
 ·exact ⟨D5 Tryz.call100 (fun _ _ h=>Kc h),_,_,_,rfl⟩
 ·exact ⟨D5 Tryz.call103 (fun _ _ h=>Kk h),_,_,_,rfl⟩
 ·exact ⟨D5 Tryz.call104 (fun _ _ h=>Ko h),_,_,_,rfl⟩
theorem PM {z:Int} {f:CB} (h:Fe EU z=some f) : Ft f∧isF f.dv:=Oh _ (KB h)
theorem PN : Fn Tryz.prog 34 [] (.d (UI .i32 EU)):=R3
def C0 (a0:(Int×RT×Int)) (a1:Int) (a2:Arr) : Option (Arr×Int):=(TL (Fe EU a1) (some ((Arr.mk [] []),23)) fun f1=>((EL a0 ([a2])).bind fun x2=>(if x2=true then ((f1.g a2).bind fun x3=>(some (x3.1,x3.2))) else (some ((Arr.mk [] []),22)))))
theorem F4 {a0:(Int×RT×Int)} {a1:Int} {a2:Arr} {r:Arr×Int} (h:C0 a0 a1 a2=some r) :
  Fn Tryz.prog 12 [.ag [.i .i64 a0.1,.b a0.2.1.1,.sl (L a0.2.1.2.1),.sl (L a0.2.1.2.2),.i .i64 a0.2.2],.i .i32 a1,.ag [.sl (Is a2.shape),.sl (Its a2.items)]] (.tup [.d (.ag [.sl (Is r.1.shape),.sl (Its r.1.items)]),.d (.i .i64 r.2)]):=by
 unfold C0 at h
 refine Fn.ofC (rs:=[.cell 6 25,.tmp 7]) (nt:=28) Tryz.func12 rfl rfl rfl (by simp) rfl ?_;refine .sr ?_;refine vk (vbx) ?_;refine vk (vbx) ?_;refine vk (van (Ai A1) A7) ?_;refine ar [1,3,5,6,7] ?_;refine .sr ?_;refine vk (Ar PN Tryz.call34) ?_;refine vk (Aa) ?_
 rcases hmf1:(Fe EU a1) with _|f1
 ·replace h:=St hmf1 h
  refine vk (Vd Ew gkR RS hmf1) ?_;refine ar [3,5,6,7,8] ?_;refine .seq ?_;refine .block ?_;refine .sr ?_;refine vk (Aa) ?_;refine vk (WH Ed) ?_;refine ar [3,5,6,7,8,12] ?_;refine B1 ?_;refine .sr ?_;refine vk (vbd Ep A1 A7) ?_
  refine stn ?_ Ad (by decide)
  refine ar [5,6,7,8] ?_;refine .ret ?_
  cases h
  exact ⟨_,_,⟨.inr rfl,An,Ad,p2⟩,rfl,rfl⟩
 replace h:=TY hmf1 h
 obtain ⟨of1,isf1⟩:=PM hmf1
 refine vk (Vc PP Ew gkR hmf1) ?_;refine ar [3,5,6,7,8] ?_;refine .seq ?_;refine .block ?_;refine .sr ?_;refine vk (Aa) ?_;refine vk (WO Ed isf1) ?_;refine ar [3,5,6,7,8,12] ?_;refine B4 ?_;refine .sr ?_;refine vk (AN Vk SX) ?_;refine vk (AN An Ad) ?_;refine vk ((FS (Ks a2) (Jb [a2]) Lb).deep) ?_
 obtain ⟨x2,g2,h⟩:=bnd h
 refine vk (Ar (Li g2) Tryz.call35) ?_;refine vk (vnt) ?_;refine ar [5,6,7,8,16] ?_
 rcases brc h with ⟨hc,h⟩|⟨hc,h⟩
 ·refine cnf (ntf hc) ?_
  refine .skip ?_
  show AW _ _ _ _ _ _
  refine .sr ?_;refine vk (Aa) ?_;refine vk (AN An Ad) ?_
  obtain ⟨x3,g3,h⟩:=bnd h
  refine vk (VOK.tupd (vs:=[.ag [.sl (Is x3.1.shape),.sl (Its x3.1.items)],.i .i64 x3.2]) (Nn (of1 _ _ g3))) ?_;refine vk (vex) ?_;refine vk (vex) ?_
  refine stn ?_ Ad (by decide)
  refine ar [6,7] ?_;refine .ret ?_
  cases h
  exact ⟨_,_,⟨.inr rfl,An,Ad,p2⟩,rfl,rfl⟩
 refine cnt (ntt (bf hc)) ?_;refine .sr ?_;refine vk (vbd Ep A1 A7) ?_
 refine stn ?_ Ad (by decide)
 refine ar [5,6,7,8] ?_;refine .ret ?_
 cases h
 exact ⟨_,_,⟨.inr rfl,An,Ad,p2⟩,rfl,rfl⟩
theorem Pe {s:List Int} (h:(szP s).2=0) : (∀ x∈s,0≤x∧x≤4096)∧s.length≤8:=by
 unfold szP at h
 split at h
 ·exact absurd h (by decide)
 split at h
 ·exact absurd h (by decide)
 split at h
 ·exact absurd h (by decide)
 rename_i h8 hneg hbig
 refine ⟨fun x hx=>?_,by omega⟩
 simp only [List.any_eq_true,decide_eq_true_eq,not_exists,not_and] at hneg hbig
 have a:=hneg x hx
 have b:=hbig x hx
 omega
def MK (f:Arr→Option (Arr×Int)) : Prop:=∀ {s:List Int} {n:Nat},szP s=((n:Int),0)→∃ (s':List Int) (J:Nat→Nat),szP s'=((n:Int),0)∧(∀ z∈s',-9223372036854775808≤z∧z≤9223372036854775807)∧s'.length≤17592186044416 ∧
 (n≠0→(∀ i,i<n→J i<n)∧∀ i j,i<n→j<n→J i=J j→i=j) ∧
 ∀ b,okAr b→AD b→b.shape=s→f b=some (.mk s' (if n=0 then [tyI (b.items.headD default)] else BD b n J),0)
theorem GE {s:List Int} (h:∀ x∈s,0≤x∧x≤4096) : ∀ z∈s,-9223372036854775808≤z∧z≤9223372036854775807:=fun z hz=>by
 have:=h z hz;omega
theorem MF {b:Arr} : BD b b.items.length id=b.items:=Ln b.items
theorem G9 {b:Arr} {s:List Int} {n:Nat} (rb:AD b) (hs:b.shape=s) (hsz:szP s=((n:Int),0)) : b.items.length=if n=0 then 1 else n:=by
 obtain ⟨m,hm,hl⟩:=F7 rb
 rw [hs,hsz] at hm
 have:n=m:=by
  have:=congrArg Prod.fst hm
  simp only at this
  omega
 rw [this];exact hl
theorem NI : MK D8:=by
 intro s n hsz
 have hle:=Et s
 rw [hsz] at hle
 have hn:n≤4096:=by have:=hle.2;omega
 have h1:∀ z∈[(n:Int)],-9223372036854775808≤z∧z≤9223372036854775807:=fun z hz=>by rw [List.mem_singleton] at hz;omega
 refine ⟨[(n:Int)],id,MX hn,h1,by simp,fun _=>⟨fun i hi=>hi,fun i j _ _ e=>e⟩,fun b ob rb hs=>?_⟩
 have o:=(AM b).1 ob
 have hl:=G9 rb hs hsz
 unfold D8
 rw [hs,GF (by rw [← hs];exact o.2.1),oB,hsz]
 show ((Ax [(n:Int)] b.items).bind fun x2=>some (x2.1,x2.2))=_
 by_cases h0:n=0
 ·rw [if_pos h0] at hl ⊢
  subst h0
  obtain ⟨x,hx⟩:=List.length_eq_one_iff.1 hl
  have:=FZ ob rb (by rw [hs];exact hsz) (s:=[((0:Nat):Int)]) h1 (by simp) (MX (by omega)) (p:=x) (.inl (by rw [hx];rfl))
  rw [hx] at this ⊢
  rw [this];rfl
 ·rw [if_neg h0] at hl ⊢
  have:=HB ob rb h1 (by simp) (MX hn) h0 hl (J:=id) (fun i hi=>hi) (fun i j _ _ e=>e)
  rw [← hl,MF] at this ⊢
  rw [this];rfl
theorem HW {m:Nat} (hm:m≤4096) (K:List Int→Option (Arr×Int)) : ∀ (n i k:Nat),n=m-i→i≤m→n<k →
  Bv (m:Int) K k (up_ ((List.range i).reverse)) (i:Int)=K (up_ ((List.range m).reverse))
 | _,_,0,_,_,h=>by omega
 | n,i,k+1,hn,hi,hk=>by
  rw [Bv]
  by_cases h:i<m
  ·have e:[(i:Int)]++up_ ((List.range i).reverse)=up_ ((List.range (i+1)).reverse):=by
    rw [List.range_succ,List.reverse_append];rfl
   rw [if_pos (by omega),GU (by simp [Bg];omega),oB,e,BF (by omega),HW hm K (n-1) (i+1) k (by omega) (by omega) (by omega)]
  ·rw [if_neg (by omega),show i=m by omega]
theorem JW {b:Arr} {ax m:Nat} (hl:b.shape.length≤17592186044416) (hax:ax<b.shape.length) (hm:b.shape[ax]=(m:Int)) (hm2:m≤4096) : BV b (ax:Int)=Bq b (ax:Int) (up_ ((List.range m).reverse)):=by
 unfold BV
 rw [if_neg (by omega),BT hax,oB,Ds,hm]
 have:=HW hm2 (fun z3=>(Bq b (ax:Int) z3).bind fun x7=>some (x7.1,x7.2)) m 0 A4 rfl (Nat.zero_le _) (BE (by omega))
 rw [show up_ ((List.range 0).reverse)=[] from rfl,show ((0:Nat):Int)=0 from rfl] at this
 rw [this]
 generalize Bq _ _ _=z
 cases z<;>rfl
theorem Tc {s:List Int} {ax:Nat} (hax:ax<s.length) {z:Int} (h:s[ax]=z) : s.set ax z=s:=by rw [← h];exact List.set_getElem_self hax
theorem JS {fr:Nat→List Nat} (hfr:∀ m,m≤4096→(fr m).length=m∧(∀ x∈fr m,x<m)∧(fr m).Nodup) {f:Arr→Option (Arr×Int)} {axis:List Int→Nat} (hax:∀ s,s≠[]→axis s<s.length) (h0:∀ b,okAr b→AD b→b.shape=[]→f b=some (b,0))
  (hf:∀ (b:Arr) (m:Nat) (h:axis b.shape<b.shape.length),okAr b→AD b→b.shape[axis b.shape]=(m:Int)→m≤4096→f b=Bq b ((axis b.shape:Nat):Int) (up_ (fr m))):MK f:=by
 intro s n hsz
 obtain ⟨hd,h8⟩:=Pe (s:=s) (by rw [hsz])
 by_cases hs:s=[]
 ·subst hs
  have hn:n=1:=by have:=congrArg Prod.fst hsz;simp only at this;rw [show (szP []).1=1 from rfl] at this;omega
  subst hn
  refine ⟨[],id,rfl,by simp,by simp,fun _=>⟨fun i hi=>hi,fun i j _ _ e=>e⟩,fun b ob rb hb=>?_⟩
  have hl:=G9 rb hb hsz
  rw [if_neg (by decide)] at hl ⊢
  rw [h0 b ob rb hb,← hl,MF,← hb,Arr.eta]
 have hx:=hax s hs
 obtain ⟨m,hm⟩:∃ m:Nat,s[axis s]=(m:Int):=⟨(s[axis s]).toNat,by have:=hd _ (List.getElem_mem hx);omega⟩
 have hm2:m≤4096:=by have:=hd _ (List.getElem_mem hx);omega
 obtain ⟨f1,f2,f3⟩:=hfr m hm2
 have hset:s.set (axis s) (((fr m).length:Nat):Int)=s:=Tc hx (by rw [f1];exact hm)
 by_cases h0':n=0
 ·refine ⟨s,id,hsz,GE hd,by omega,fun h=>absurd h0' h,fun b ob rb hb=>?_⟩
  subst hb
  have hz:szP b.shape=(0,0):=by rw [hsz,h0'];rfl
  have e:b.shape.set (axis b.shape) ((List.length (up_ (fr m)):Nat):Int)=b.shape:=by rw [Bg];exact hset
  have o:=(AM b).1 ob
  rw [hf b m hx ob rb hm hm2,PW (IF ob rb) o.2.1 hx (by rw [e];exact hz),e,if_pos h0',FZ ob rb hz o.1 o.2.1 hz (.inr rfl)]
 ·obtain ⟨t,ht,hpos,hp,hn,_⟩:=Rc hsz h0'
  subst ht
  have hxt:axis (up_ t)<t.length:=by rw [Bg] at hx;exact hx
  have hmt:t[axis (up_ t)]=m:=by have:=Pv hxt;rw [hm] at this;omega
  have hlen:(fr m).length=t[axis (up_ t)]:=by rw [f1,hmt]
  have hfl:∀ x∈fr m,x<t[axis (up_ t)]:=fun x hx=>by rw [hmt];exact f2 x hx
  have ht0:∀ x∈t,0<x:=fun x hx=>(hpos x hx).1
  have hst:t.set (axis (up_ t)) (fr m).length=t:=by rw [hlen];exact List.set_getElem_self hxt
  have hf0:0<(fr m).length:=by rw [hlen];exact ht0 _ (List.getElem_mem hxt)
  have hinj:=P8 ht0 hxt hfl hlen f3
  have hlt:=fun i=>Jo ht0 hxt hfl hf0 i
  rw [hp] at hinj hlt
  refine ⟨up_ t,Fb t (axis (up_ t)) (fr m),hsz,GE hd,by omega,fun _=>⟨fun i _=>hlt i,hinj⟩,fun b ob rb hb=>?_⟩
  have hl:=G9 rb hb hsz
  rw [if_neg h0'] at hl ⊢
  have o:=(AM b).1 ob
  have hx':axis b.shape<b.shape.length:=by rw [hb];exact hx
  have hm':b.shape[axis b.shape]=(m:Int):=by simp only [hb];exact hm
  rw [hf b m hx' ob rb hm' hm2,hb,Sb (IF ob rb) hb (by rw [hl,hp]) hpos (by rw [Bg] at h8;exact h8) (by rw [hp];exact hn) hxt hfl hf0 (by rw [f1];exact hm2) (by rw [hst,hp];exact hn),hst,hp]
  exact HB ob rb (GE hd) (by omega) hsz h0' hl (fun i _=>hlt i) hinj
theorem NV (m:Nat) : ((List.range m).reverse).length=m∧(∀ x∈(List.range m).reverse,x<m)∧((List.range m).reverse).Nodup:=by
 refine ⟨by simp,fun x hx=>by simpa using hx,?_⟩
 rw [List.Nodup,List.pairwise_reverse]
 exact List.pairwise_lt_range.imp fun {a b} h=>by omega
theorem IS {b:Arr} (ob:okAr b) (rb:AD b) (h:b.shape=[]) (z:Int) : BV b z=some (b,0):=by
 unfold BV
 rw [if_pos (by rw [h];rfl),U6 ob rb];rfl
theorem NY : MK Dk :=
 JS (fr:=fun m=>(List.range m).reverse) (fun m _=>NV m) (axis:=fun _=>0) (fun s hs=>List.length_pos_iff.2 hs)
  (fun b ob rb hb=>by unfold Dk;rw [IS ob rb hb];rfl)
  (fun b m h ob rb hm hm2=>by
   have o:=(AM b).1 ob
   unfold Dk
   rw [show (0:Int)=((0:Nat):Int) from rfl,JW o.2.1 h hm hm2]
   generalize Bq _ _ _=z
   cases z<;>rfl)
theorem Tb {b:Arr} (hl:b.shape.length≤17592186044416) : F5 b false=some ((b.shape.length-1:Nat) : Int):=by
 unfold F5
 rw [if_neg (by decide),C4 (by omega) (by omega)]
 congr 1
 split<;>omega
theorem Py : MK Di :=
 JS (fr:=fun m=>(List.range m).reverse) (fun m _=>NV m) (axis:=fun s=>s.length-1) (fun s hs=>by have:=List.length_pos_iff.2 hs;omega)
  (fun b ob rb hb=>by unfold Di;rw [Tb ((AM b).1 ob).2.1,oB,IS ob rb hb];rfl)
  (fun b m h ob rb hm hm2=>by
   have o:=(AM b).1 ob
   unfold Di
   rw [Tb o.2.1,oB,JW o.2.1 h hm hm2]
   generalize Bq _ _ _=z
   cases z<;>rfl)
theorem QK {α:Type} (d:Nat) (v w:α) (l:List α) : (List.replicate (d+1) v++l).set d w=List.replicate d v++w::l:=by
 rw [List.replicate_succ',List.append_assoc,List.set_append_right _ _ (by simp),List.length_replicate,Nat.sub_self];rfl
theorem QO (d:Nat) (v:Int) (l:List Int) : rd? (List.replicate (d+1) v++l) (d:Int)=some v:=by
 rw [BT (by simp;omega),List.getElem_append_left (by simp),List.getElem_replicate]
theorem Rr (z:Int) : -9223372036854775808≤w64 z∧w64 z≤9223372036854775807:=by
 have:=wf_wrap .i64 z
 simp [Lit.wf,IntKind.min,IntKind.max,IntKind.signed,IntKind.bits] at this
 exact this
theorem Rf : ∀ s : List Int,(-9223372036854775808≤(Fq s).2∧(Fq s).2≤9223372036854775807)∧∀ z∈(Fq s).1,-9223372036854775808≤z∧z≤9223372036854775807
 | []=>⟨⟨by decide,by decide⟩,by simp [Fq]⟩
 | x::xs=>by
  obtain ⟨h1,h2⟩:=Rf xs
  refine ⟨Rr _,fun z hz=>?_⟩
  rcases List.mem_cons.1 hz with rfl|hz
  ·exact h1
  ·exact h2 z hz
theorem Vn {r:Nat} (hr:r≤8) (K:List Int→Option (Arr×Int)) : ∀ (n i k:Nat),n=r-i→i≤r→n<k →
  Bh (r:Int) K k (List.replicate i 4096++List.replicate (r-i) 0) (i:Int)=K (List.replicate r 4096)
 | _,_,0,_,_,h=>by omega
 | n,i,k+1,hn,hi,hk=>by
  rw [Bh]
  by_cases h:i<r
  ·have e:List.replicate (r-i) (0:Int)=0::List.replicate (r-(i+1)) 0:=by
    rw [show r-i=(r-(i+1))+1 by omega];rfl
   have e2:(List.replicate i (4096:Int)++0::List.replicate (r-(i+1)) 0).set i 4096=List.replicate (i+1) 4096++List.replicate (r-(i+1)) 0:=by
    rw [List.set_append_right _ _ (by simp),List.length_replicate,Nat.sub_self,List.replicate_succ',List.append_assoc];rfl
   have ih:=Vn hr K (n-1) (i+1) k (by omega) (by omega) (by omega)
   rw [if_pos (by simp;omega),BT (by simp;omega),oB,Int.toNat_natCast,BF (by omega),e,e2,ih]
  ·rw [if_neg (by simp;omega),show r-i=0 by omega,show i=r by omega]
   simp
theorem UB {r i:Nat} (h:i<r) : rd? (up_ ((List.range r).reverse)) (i:Int)=some ((r-1-i:Nat) : Int):=by
 rw [I6 (by simpa using h)]
 simp
theorem Vb {a:Arr} {s st:List Int} (ha:a.shape=s) (hs:∀ x∈s,0≤x∧x≤4096) (h8:s.length≤8) (hst:st.length=s.length) (hsr:∀ z∈st,-9223372036854775808≤z∧z≤9223372036854775807) (K:List Int→List Int→Option (Arr×Int)) : ∀ (n i k:Nat),n=s.length-i→i≤s.length→n<k →
  Bi a (up_ ((List.range s.length).reverse)) st K k (List.replicate (s.length-i) 4096++(s.take i).reverse) (i:Int) (List.replicate (s.length-i) 0++(st.take i).reverse)=K s.reverse st.reverse
 | _,_,0,_,_,h=>by omega
 | n,i,k+1,hn,hi,hk=>by
  rw [Bi]
  by_cases h:i<s.length
  ·have hi2:i<st.length:=by omega
   have hb:=hs _ (List.getElem_mem h)
   have hz:=hsr _ (List.getElem_mem hi2)
   have e0:s.length-i=(s.length-1-i)+1:=by omega
   have ih:=Vb ha hs h8 hst hsr K (n-1) (i+1) k (by omega) (by omega) (by omega)
   have e1:(s.take (i+1)).reverse=s[i]::(s.take i).reverse:=by rw [List.take_succ_eq_append_getElem h,List.reverse_append];rfl
   have e2:(st.take (i+1)).reverse=st[i]::(st.take i).reverse:=by rw [List.take_succ_eq_append_getElem hi2,List.reverse_append];rfl
   have e3:(if s[i]<4096 then s[i] else 4096)=s[i]:=by split<;>omega
   rw [e1,e2,show s.length-(i+1)=s.length-1-i by omega] at ih
   rw [if_pos (by omega),BT hi2,oB,UB h,oB,oB,e0,QO,oB,ha,BT h,oB,oB,oB,QO,oB,oB,Int.toNat_natCast,QK,QK,e3,Int.zero_add,C4 hz.1 (by omega),BF (by omega),ih]
  ·rw [if_neg (by omega),show s.length-i=0 by omega,List.take_of_length_le (by omega),List.take_of_length_le (by omega)]
   rfl
theorem QG {a:Arr} (hr:a.shape.length≤8) (K:List Int→Option (Arr×Int)) : ∀ (n i k:Nat),n=a.shape.length-i→i≤a.shape.length→n<k →
  B7 a K k (up_ ((List.range i).reverse)) (i:Int)=K (up_ ((List.range a.shape.length).reverse))
 | _,_,0,_,_,h=>by omega
 | n,i,k+1,hn,hi,hk=>by
  rw [B7]
  by_cases h:i<a.shape.length
  ·have e:[(i:Int)]++up_ ((List.range i).reverse)=up_ ((List.range (i+1)).reverse):=by
    rw [List.range_succ,List.reverse_append];rfl
   rw [if_pos (by omega),GU (by simp [Bg];omega),oB,e,BF (by omega),QG hr K (n-1) (i+1) k (by omega) (by omega) (by omega)]
  ·rw [if_neg (by omega),show i=a.shape.length by omega]
theorem MJ (s t:List Int) : Cs (s++t)=Cs s * Cs t:=by
 unfold Cs
 rw [List.foldl_append,HH]
theorem Mk (x:Int) : Cs [x]=x:=by unfold Cs;simp
theorem P2 (x:Int) (s:List Int) : Cs (x::s)=x * Cs s:=by
 rw [show x::s=[x]++s from rfl,MJ,Mk]
theorem Jw : ∀ s : List Int,Cs s.reverse=Cs s
 | []=>rfl
 | x::s=>by rw [List.reverse_cons,MJ,Mk,P2,Jw s,Int.mul_comm]
theorem UO (s:List Int) : szP s.reverse=szP s:=by
 unfold szP
 rw [List.length_reverse,List.any_reverse,List.any_reverse,Jw]
 simp only [List.mem_reverse]
theorem Rb : ∀ (l1 c1 l2 c2:List Nat),l1.length=c1.length→plN (l1++l2) (c1++c2)=plN l1 c1+plN l2 c2
 | [],[],l2,c2,_=>by simp [plN]
 | x::xs,y::ys,l2,c2,h=>by
  show x * y+plN (xs++l2) (ys++c2)=x * y+plN xs ys+plN l2 c2
  rw [Rb xs ys l2 c2 (by simpa using h),Nat.add_assoc]
 | [],_::_,_,_,h=>by simp at h
 | _::_,[],_,_,h=>by simp at h
theorem QP : ∀ (l c:List Nat),l.length=c.length→plN l.reverse c.reverse=plN l c
 | [],[],_=>rfl
 | x::xs,y::ys,h=>by
  have h':xs.length=ys.length:=by simpa using h
  rw [List.reverse_cons,List.reverse_cons,Rb _ _ _ _ (by simp [h']),QP xs ys h']
  show plN xs ys+(x * y+plN [] [])=x * y+plN xs ys
  simp [plN,Nat.add_comm]
 | [],_::_,h=>by simp at h
 | _::_,[],h=>by simp at h
theorem VB {t c:List Nat} (h:VC t c) : VC t.reverse c.reverse:=by
 have hl:=Mv h
 refine ST (by simp [hl]) fun k h1 h2=>?_
 rw [List.getElem_reverse,List.getElem_reverse]
 have h1':k<c.length:=by simpa using h1
 have:=Ja h (c.length-1-k) (by omega) (by omega)
 simpa [hl] using this
def trN (t:List Nat) (i:Nat) : Nat:=plN (stN t) (atN t.reverse i).reverse
theorem M5 (t:List Nat) : (up_ t).reverse=up_ t.reverse:=by unfold up_;rw [List.map_reverse]
theorem PT (t:List Nat) : pr t.reverse=pr t:=by
 have h1:=Hb t.reverse
 rw [← M5,Jw,Hb] at h1
 omega
theorem PS {t:List Nat} (ht:∀ x∈t,0<x) (i:Nat) : VC t (atN t.reverse i).reverse:=by
 have:=VB (Ig (t:=t.reverse) i fun x hx=>ht x (by simpa using hx))
 rwa [List.reverse_reverse] at this
theorem UV {t:List Nat} (ht:∀ x∈t,0<x) : ∀ i j,i<pr t→j<pr t→trN t i=trN t j→i=j:=by
 intro i j hi hj e
 have e2:(atN t.reverse i).reverse=(atN t.reverse j).reverse:=by
  rw [← Iz (PS ht i),← Iz (PS ht j)]
  exact congrArg (atN t) e
 have e3:=List.reverse_inj.1 e2
 have pi:=IN t.reverse i
 have pj:=IN t.reverse j
 rw [e3,pj,PT,Nat.mod_eq_of_lt hi,Nat.mod_eq_of_lt hj] at pi
 exact pi.symm
theorem Xd {t:List Nat} (ht:∀ x∈t,0<x∧x≤4096) (h8:t.length≤8) (hn:pr t≤4096) (i:Nat) : Bm (up_ (atN t.reverse i)) (up_ (stN t)).reverse=some ((trN t i:Nat) : Int):=by
 unfold Bm
 have hl:(atN t.reverse i).length=t.length:=by rw [CT,List.length_reverse]
 have hc:∀ x∈atN t.reverse i,x≤4096:=fun x hx=>by
  have hv:=Ig (t:=t.reverse) i fun x hx=>(ht x (by simpa using hx)).1
  obtain ⟨k,hk,rfl⟩:=List.getElem_of_mem hx
  have h1:=Ja hv k hk (by rw [List.length_reverse];omega)
  have h2:=(ht _ (by simpa using List.getElem_mem (l:=t.reverse) (n:=k) (by rw [List.length_reverse];omega))).2
  omega
 rw [M5,O9 (by rw [List.length_reverse,CH];exact h8) (by rw [List.length_reverse,CH,hl];exact Nat.le_refl _) (fun x hx=>nT (PY (fun x hx=>(ht x hx).1) x (by simpa using hx)) hn) hc,oB]
 congr 2
 unfold trN
 have:=QP (stN t) (atN t.reverse i).reverse (by rw [CH,List.length_reverse,hl])
 rw [List.reverse_reverse] at this
 exact this
theorem Jn : MK Dl:=by
 intro s n hsz
 obtain ⟨hd,h8⟩:=Pe (s:=s) (by rw [hsz])
 have hszr:szP s.reverse=((n:Int),0):=by rw [UO];exact hsz
 have hdr:∀ x∈s.reverse,0≤x∧x≤4096:=fun x hx=>hd x (by simpa using hx)
 -- the walk, as far as to what is built
 have walk:∀ b,okAr b→b.shape=s→∃ F:Cl,(∀ x,F.g x=Bm x (Fq s).1.reverse)∧Dl b=Ch b s.reverse F:=by
  intro b ob hb
  have o:=(AM b).1 ob
  refine ⟨⟨.fn 189 [] [.ptr [.sl (Is (Fq s).1.reverse)]],fun x=>Bm x (Fq s).1.reverse⟩,fun x=>rfl,?_⟩
  unfold Dl
  rw [Ds]
  have e1:=fun K=>QG (a:=b) (by rw [hb];exact h8) K b.shape.length 0 A4 rfl (Nat.zero_le _) (BE (by rw [hb];omega))
  rw [show up_ ((List.range 0).reverse)=[] from rfl,show ((0:Nat):Int)=0 from rfl] at e1
  rw [e1,hb]
  have hlen:((List.length (up_ ((List.range s.length).reverse)):Nat):Int)=(s.length:Int):=by rw [Bg];simp
  rw [hlen]
  unfold Dp
  have hg:Fs (0≤(s.length:Int)∧(s.length:Int)≤17592186044416)=some ():=if_pos (by omega)
  have e2:=fun K=>Vn h8 K s.length 0 A4 rfl (Nat.zero_le _) (BE (by omega))
  rw [List.replicate_zero,List.nil_append,Nat.sub_zero,show ((0:Nat):Int)=0 from rfl] at e2
  have e3:=fun K=>Vb hb hd h8 (JN s) (Rf s).2 K s.length 0 A4 rfl (Nat.zero_le _) (BE (by omega))
  rw [List.take_zero,List.take_zero,List.reverse_nil,List.append_nil,List.append_nil,Nat.sub_zero,show ((0:Nat):Int)=0 from rfl] at e3
  rw [hg,oB,oB,Ds,Int.toNat_natCast,e2,hb,E9 (by omega),oB,Ds,e3]
  generalize Ch _ _ _=z
  cases z<;>rfl
 by_cases h0:n=0
 ·refine ⟨s.reverse,id,hszr,GE hdr,by simp;omega,fun h=>absurd h0 h,fun b ob rb hb=>?_⟩
  obtain ⟨F,_,e⟩:=walk b ob hb
  have hz:szP s.reverse=(0,0):=by rw [hszr,h0];rfl
  rw [e,if_pos h0,Lp (IF ob rb) (by simp;omega) hz,FZ ob rb (by rw [hb,hsz,h0];rfl) (GE hdr) (by simp;omega) hz (.inr rfl)]
 ·obtain ⟨t,ht,hpos,hp,hn,h8'⟩:=Rc hsz h0
  subst ht
  have ht0:∀ x∈t,0<x:=fun x hx=>(hpos x hx).1
  have hinj:=UV ht0
  have hlt:∀ i,trN t i<pr t:=fun i=>M4 (PS ht0 i)
  rw [hp] at hinj hlt
  refine ⟨(up_ t).reverse,trN t,hszr,GE hdr,by simp;omega,fun _=>⟨fun i _=>hlt i,hinj⟩,fun b ob rb hb=>?_⟩
  obtain ⟨F,hF,e⟩:=walk b ob hb
  have hl:=G9 rb hb hsz
  rw [if_neg h0] at hl ⊢
  have hb2:=Mr (F:=F) (t:=t.reverse) (J:=fun i=>((trN t i:Nat):Int)) (IF ob rb) (fun x hx=>hpos x (by simpa using hx)) (by simpa using h8') (by rw [PT,hp];exact hn) (fun i _=>⟨by
   rw [hF,Kv (by omega) ht0]
   exact Xd hpos h8' (by omega) i,by have:=hlt i;show ((trN t i:Nat):Int)<_;omega⟩)
  rw [e,M5,hb2,PT,hp]
  have e2:((List.range n).map fun i=>Iw b (tyI (b.items.headD default)) ((trN t i:Nat):Int))=BD b n (trN t):=by
   unfold BD
   refine List.map_congr_left fun i _=>?_
   unfold Iw
   rw [if_pos (by omega),Int.toNat_natCast]
  rw [e2,← M5]
  exact HB ob rb (GE hdr) (by simp;omega) hszr h0 hl (fun i _=>hlt i) hinj
theorem GP : Tryz.prog.underlying 61=some (.map 21 60):=by kernel_rfl
def Vq : List (Int×DV):=[(43,.fn 78 [] []),(45,.fn 79 [] []),(8968,.fn 80 [] []),(8970,.fn 81 [] []),(124,.fn 82 [] []),(33,.fn 83 [] []),(42,.fn 84 [] []),(215,.fn 85 [] []),(247,.fn 87 [] []),(126,.fn 89 [] [])]
theorem UD : Fn Tryz.prog 31 [] (.d (.mp (Vq.map fun p=>.i .i32 p.1) (Vq.map (·.2)))):=by
 refine Fn.o1 0 3 Tryz.func31 ?_;refine .sr ?_;refine asu ?_;refine rn ?_;refine .sr ?_;refine vk (WJ) ?_;refine Im GP gkR freshK.nil ?_;refine Im GP gkR (freshK.snoc (z:=45) (z':=43) freshK.nil (by decide)) ?_;refine Im GP gkR (freshK.snoc (z:=8968) (z':=45) (freshK.snoc (z:=8968) (z':=43) freshK.nil (by decide)) (by decide)) ?_;refine Im GP gkR (freshK.snoc (z:=8970) (z':=8968) (freshK.snoc (z:=8970) (z':=45) (freshK.snoc (z:=8970) (z':=43) freshK.nil (by decide)) (by decide)) (by decide)) ?_;refine Im GP gkR (freshK.snoc (z:=124) (z':=8970) (freshK.snoc (z:=124) (z':=8968) (freshK.snoc (z:=124) (z':=45) (freshK.snoc (z:=124) (z':=43) freshK.nil (by decide)) (by decide)) (by decide)) (by decide)) ?_;refine Im GP gkR (freshK.snoc (z:=33) (z':=124) (freshK.snoc (z:=33) (z':=8970) (freshK.snoc (z:=33) (z':=8968) (freshK.snoc (z:=33) (z':=45) (freshK.snoc (z:=33) (z':=43) freshK.nil (by decide)) (by decide)) (by decide)) (by decide)) (by decide)) ?_;refine Im GP gkR (freshK.snoc (z:=42) (z':=33) (freshK.snoc (z:=42) (z':=124) (freshK.snoc (z:=42) (z':=8970) (freshK.snoc (z:=42) (z':=8968) (freshK.snoc (z:=42) (z':=45) (freshK.snoc (z:=42) (z':=43) freshK.nil (by decide)) (by decide)) (by decide)) (by decide)) (by decide)) (by decide)) ?_;refine Im GP gkR (freshK.snoc (z:=215) (z':=42) (freshK.snoc (z:=215) (z':=33) (freshK.snoc (z:=215) (z':=124) (freshK.snoc (z:=215) (z':=8970) (freshK.snoc (z:=215) (z':=8968) (freshK.snoc (z:=215) (z':=45) (freshK.snoc (z:=215) (z':=43) freshK.nil (by decide)) (by decide)) (by decide)) (by decide)) (by decide)) (by decide)) (by decide)) ?_;refine Im GP gkR (freshK.snoc (z:=247) (z':=215) (freshK.snoc (z:=247) (z':=42) (freshK.snoc (z:=247) (z':=33) (freshK.snoc (z:=247) (z':=124) (freshK.snoc (z:=247) (z':=8970) (freshK.snoc (z:=247) (z':=8968) (freshK.snoc (z:=247) (z':=45) (freshK.snoc (z:=247) (z':=43) freshK.nil (by decide)) (by decide)) (by decide)) (by decide)) (by decide)) (by decide)) (by decide)) (by decide)) ?_;refine Im GP gkR (freshK.snoc (z:=126) (z':=247) (freshK.snoc (z:=126) (z':=215) (freshK.snoc (z:=126) (z':=42) (freshK.snoc (z:=126) (z':=33) (freshK.snoc (z:=126) (z':=124) (freshK.snoc (z:=126) (z':=8970) (freshK.snoc (z:=126) (z':=8968) (freshK.snoc (z:=126) (z':=45) (freshK.snoc (z:=126) (z':=43) freshK.nil (by decide)) (by decide)) (by decide)) (by decide)) (by decide)) (by decide)) (by decide)) (by decide)) (by decide)) ?_;refine RL.gh (Gh.omf (t:=1) rfl) ?_;refine RL.gh (Gh.keep [1] rfl) ?_;refine vk (Aa) ?_;refine asd ?_;refine rn ?_;refine .ret ?_
 exact ⟨rfl,rfl⟩
def CP (a0:RT) : Nat→RT→Int→(List Nat)→(List Nat)→Option (RT×Int)
 | 0,_,_,_,_=>none
 | k+1,s5,s6,s7,s8=>((Pc s8 a0.2.1).bind fun x9=>(if x9≤0 then ((OV ([s7,s8])).bind fun x10=>(if 32<((List.length x10:Nat):Int) then (some ((false,[],[]),8)) else (Gz.bind fun x11=>((V8 ([s8,x11])).bind fun x12=>(CP a0 k s5 s6 x10 x12))))) else (Gz.bind fun x13=>(some ((false,s7,x13),0)))))
def FH (a0:RT) : Option (RT×Int):=((EF a0).bind fun x1=>(if x1=true then ((Hp a0).bind fun x2=>(if x2=true then (Gz.bind fun x3=>(Gz.bind fun x4=>(CP a0 A4 (false,[],[]) 0 x3 x4))) else (some ((false,[],[]),3)))) else (some ((false,[],[]),22))))
theorem Jj {a0:RT} {r:RT×Int} (h:FH a0=some r) :
  Fn Tryz.prog 83 [.ag [.b a0.1,.sl (L a0.2.1),.sl (L a0.2.2)]] (.tup [.d (.ag [.b r.1.1,.sl (L r.1.2.1),.sl (L r.1.2.2)]),.d (.i .i64 r.2)]):=by
 unfold FH at h
 refine Fn.ofC (rs:=[.cell 2 32,.tmp 3]) (nt:=38) Tryz.func83 rfl rfl rfl (by simp) rfl ?_;refine .sr ?_;refine vk (vbx) ?_;refine vk (van (Ai DY) DX) ?_;refine ar [1,2,3] ?_;refine .seq ?_;refine .block ?_;refine .sr ?_;refine vk (AN BI AS) ?_
 obtain ⟨x1,g1,h⟩:=bnd h
 refine vk (Ar (DQ g1) Tryz.call45) ?_;refine vk (vnt) ?_;refine ar [1,2,3,6] ?_
 rcases brc h with ⟨hc,h⟩|⟨hc,h⟩
 ·refine cnf (ntf hc) ?_
  refine .sr ?_;refine vk (AN BI AS) ?_
  obtain ⟨x2,g2,h⟩:=bnd h
  refine vk (Ar (Ls g2) Tryz.call163) ?_;refine vk (vnt) ?_;refine ar [1,2,3,11] ?_
  rcases brc h with ⟨hc,h⟩|⟨hc,h⟩
  ·refine cnf (ntf hc) ?_
   refine .skip ?_
   show AW _ _ _ _ _ _
   refine .sr ?_
   obtain ⟨x3,g3,h⟩:=bnd h
   refine vk ((Ar (DU g3) Tryz.call121).deep) ?_;refine ar [1,2,3,4] ?_;refine .seq ?_;refine .sr ?_
   obtain ⟨x4,g4,h⟩:=bnd h
   refine vk ((Ar (DU g4) Tryz.call121).deep) ?_;refine ar [1,2,3,4,5] ?_;refine .block ?_
   refine .loop (.gk [1,2,3,4,5] ?_)
   refine AL.ind (σ:=Nat×RT×Int×(List Nat)×(List Nat)) (m:=fun p=>p.1) (e:=fun p=>[(1,.d (.ptr [.b a0.1,.sl (L a0.2.1),.sl (L a0.2.2)])),(2,.nb [.b p.2.1.1,.sl (L p.2.1.2.1),.sl (L p.2.1.2.2)]),(3,.d (.i .i64 p.2.2.1)),(4,.d (.sl (L p.2.2.2.1))),(5,.d (.sl (L p.2.2.2.2)))]) (h:=fun p=>[]) (I:=fun p=>CP a0 p.1 p.2.1 p.2.2.1 p.2.2.2.1 p.2.2.2.2=some r) ?_ (A4,(false,[],[]),0,x3,x4) h
   rintro ⟨k,s5,s6,s7,s8⟩ h ih
   dsimp only at h ih ⊢
   rcases k with _|k
   ·rw [CP] at h;cases h
   rw [CP] at h
   refine .seq ?_;refine .sr ?_;refine vk (Aa) ?_;refine vk (vfa DG) ?_;refine vk (As E0) ?_
   obtain ⟨x9,g9,h⟩:=bnd h
   refine vk (Ar (Oa g9) Tryz.call164) ?_;refine vk (vbi) ?_;refine rk [1,2,3,4,5,22] ?_
   rcases brc h with ⟨hc,h⟩|⟨hc,h⟩
   ·refine cnt (dT hc) ?_
    refine .skip ?_
    show AW _ _ _ _ _ _
    refine .seq ?_;refine .block ?_;refine .sr ?_;refine vk (Aa) ?_;refine vk (Aa) ?_;refine vk ((IZ (Hy [s7,s8]) S5).deep) ?_
    obtain ⟨x10,g10,h⟩:=bnd h
    refine vk (Ar (Pb g10) Tryz.call166) ?_;refine ar [1,2,3,4,5] ?_;refine .sr ?_;refine vk (Aa) ?_;refine vk (Cc (Ab _) (BW _) Od) ?_;refine vk (vbi) ?_;refine rk [1,2,3,4,5,33] ?_
    rcases brc h with ⟨hc,h⟩|⟨hc,h⟩
    ·refine cnt (dT hc) ?_
     refine .sr ?_;refine vk (vbd Jc DY DX) ?_
     refine stn ?_ AS (by decide)
     refine ar [1,2,3,4,5] ?_;refine .ret ?_
     cases h
     exact ⟨_,_,⟨.inr rfl,BI,AS,p3⟩,rfl,rfl⟩
    refine cnf (dF hc) ?_;refine .skip ?_
    show AW _ _ _ _ _ _
    refine .region ?_;refine vk (Aa) ?_
    obtain ⟨x11,g11,h⟩:=bnd h
    refine vk ((Ar (DU g11) Tryz.call121).deep) ?_;refine vk ((IZ (Hy [s8,x11]) S5).deep) ?_
    obtain ⟨x12,g12,h⟩:=bnd h
    refine vk (Ar (QR g12) Tryz.call165) ?_;refine asd ?_;refine .nil ?_;refine AL.gk [1,2,3,4,5] ?_
    exact ih (k,s5,s6,x10,x12) h (Nat.lt_succ_self _)
   refine cnf (dF hc) ?_;refine .exit ?_
   show AW _ _ _ _ _ _
   refine .sr ?_;refine vk (Aa) ?_
   obtain ⟨x13,g13,h⟩:=bnd h
   refine vk ((Ar (DU g13) Tryz.call121).deep) ?_;refine vk (vbd Jc DY DX) ?_
   refine stn ?_ AS (by decide)
   refine ar [2,3] ?_;refine .ret ?_
   cases h
   exact ⟨_,_,⟨.inr rfl,BI,AS,p3⟩,rfl,rfl⟩
  refine cnt (ntt (bf hc)) ?_;refine .sr ?_;refine vk (vbd Jc DY DX) ?_
  refine stn ?_ AS (by decide)
  refine ar [1,2,3] ?_;refine .ret ?_
  cases h
  exact ⟨_,_,⟨.inr rfl,BI,AS,p3⟩,rfl,rfl⟩
 refine cnt (ntt (bf hc)) ?_;refine .sr ?_;refine vk (vbd Jc DY DX) ?_
 refine stn ?_ AS (by decide)
 refine ar [1,2,3] ?_;refine .ret ?_
 cases h
 exact ⟨_,_,⟨.inr rfl,BI,AS,p3⟩,rfl,rfl⟩
def GA (a0:Bool) : Option (RT):=(if a0=true then ((Dd 1).bind fun x1=>(some (x1))) else ((Dd 0).bind fun x2=>(some (x2))))
theorem Kh {a0:Bool} {r:RT} (h:GA a0=some r) :
  Fn Tryz.prog 91 [.b a0] (.d (.ag [.b r.1,.sl (L r.2.1),.sl (L r.2.2)])):=by
 unfold GA at h
 refine Fn.ofC (rs:=[.cell 2 32]) (nt:=6) Tryz.func91 rfl rfl rfl (by simp) rfl ?_;refine .sr ?_;refine vk (van (Ai DY) DX) ?_;refine rk [0,2] ?_;refine .seq ?_;refine .sr ?_;refine vk (Aa) ?_;refine rk [2,3] ?_
 rcases brc h with ⟨hc,h⟩|⟨hc,h⟩
 ·refine cnt hc ?_
  refine .sr ?_
  obtain ⟨x1,g1,h⟩:=bnd h
  refine vk (Ar (CS g1) Tryz.call72) ?_
  refine stn ?_ AS (by decide)
  refine rk [2] ?_;refine .ret ?_
  cases h
  exact ⟨_,⟨.inr rfl,BI,AS,p3⟩,rfl⟩
 refine cnf (bf hc) ?_;refine .skip ?_
 show AW _ _ _ _ _ _
 refine .sr ?_
 obtain ⟨x2,g2,h⟩:=bnd h
 refine vk (Ar (CS g2) Tryz.call72) ?_
 refine stn ?_ AS (by decide)
 refine rk [2] ?_;refine .ret ?_
 cases h
 exact ⟨_,⟨.inr rfl,BI,AS,p3⟩,rfl⟩
def Io (a0:RT) : Option (Bool×Bool):=((KH a0).bind fun x1=>(some ((decide (x1.1=1)),(x1.2&&((decide (x1.1=0))||(decide (x1.1=1)))))))
theorem LX {a0:RT} {r:Bool×Bool} (h:Io a0=some r) :
  Fn Tryz.prog 90 [.ag [.b a0.1,.sl (L a0.2.1),.sl (L a0.2.2)]] (.tup [.d (.b r.1),.d (.b r.2)]):=by
 unfold Io at h
 refine Fn.of (rs:=[.tmp 2,.tmp 3]) (nt:=22) Tryz.func90 rfl rfl rfl (by simp) rfl ?_;refine .sr ?_;refine vk (vbx) ?_;refine asd ?_;refine ar [1,2,3] ?_;refine .sr ?_;refine vk (AN BI AS) ?_
 obtain ⟨x1,g1,h⟩:=bnd h
 refine vk (VOK.tupd (vs:=[.i .i64 x1.1,.b x1.2]) (Ar (OF g1) Tryz.call171)) ?_;refine vk (Aa) ?_;refine vk (vex) ?_;refine vk (vex) ?_;refine asd ?_;refine ar [2,3,4,5] ?_;refine .seq ?_;refine AW.mr (σ:=Unit) (fun _=>True) (fun _=>[(2,.d (.b (decide (x1.1=1)))),(3,.d (.b (x1.2&&((decide (x1.1=0))||(decide (x1.1=1))))))]) (fun _=>[]) ?_ ?_
 ·skip
  refine .region ?_;refine vk (Aa) ?_;refine vk (vbi) ?_;refine vk (Aa) ?_
  by_cases hc:x1.2=true
  ·have hb0:x1.2=true:=hc
   refine vk (VOK.lit (Aa) hb0) ?_;refine vk (Aa) ?_;refine vk (vbi) ?_
   by_cases hc:x1.1=0
   ·have hb1:(decide (x1.1=0))=true:=(dT hc)
    refine vk (VOK.lit (Aa) hb1) ?_;refine gf ?_;refine gf ?_;refine vk (AF) ?_;refine vk (AF) ?_;refine asd ?_;refine asd ?_;refine RL.gk [2,3] ?_;refine .nil ?_
    exact jr () trivial (by simp only [hb0,hb1];rfl)
   have hb1:(decide (x1.1=0))=false:=(dF hc)
   refine vk (VOK.lit (Aa) hb1) ?_;refine vk (Aa) ?_;refine vk (vbi) ?_;refine vk (AF) ?_;refine vk (AF) ?_;refine asd ?_;refine asd ?_;refine RL.gk [2,3] ?_;refine .nil ?_
   exact jr () trivial (by simp only [hb0,hb1];rfl)
  have hb0:x1.2=false:=(bf hc)
  refine vk (VOK.lit (Aa) hb0) ?_;refine gf ?_;refine gf ?_;refine gfu ?_;refine gf ?_;refine gf ?_;refine gf ?_;refine vk (AF) ?_;refine asd ?_;refine asd ?_;refine RL.gk [2,3] ?_;refine .nil ?_
  exact jr () trivial (by simp only [hb0];rfl)
 rintro _ _
 refine .ret ?_
 cases h
 exact ⟨by decide,rfl,rfl,rfl⟩
def G6 (a0:RT) : Option (RT×Int):=((To ([a0])).bind fun x1=>(some (x1.1,x1.2)))
theorem KC {a0:RT} {r:RT×Int} (h:G6 a0=some r) :
  Fn Tryz.prog 78 [.ag [.b a0.1,.sl (L a0.2.1),.sl (L a0.2.2)]] (.tup [.d (.ag [.b r.1.1,.sl (L r.1.2.1),.sl (L r.1.2.2)]),.d (.i .i64 r.2)]):=by
 unfold G6 at h
 refine Fn.ofC (rs:=[.cell 2 32,.tmp 3]) (nt:=9) Tryz.func78 rfl rfl rfl (by simp) rfl ?_;refine .sr ?_;refine vk (vbx) ?_;refine vk (van (Ai DY) DX) ?_;refine ar [1,2,3] ?_;refine .sr ?_;refine vk (AN BI AS) ?_;refine vk ((IZ (OE [a0]) TK).deep) ?_
 obtain ⟨x1,g1,h⟩:=bnd h
 refine vk (VOK.tupd (vs:=[.ag [.b x1.1.1,.sl (L x1.1.2.1),.sl (L x1.1.2.2)],.i .i64 x1.2]) (Ar (RE g1) Tryz.call133)) ?_;refine vk (vex) ?_;refine vk (vex) ?_
 refine stn ?_ AS (by decide)
 refine ar [2,3] ?_;refine .ret ?_
 cases h
 exact ⟨_,_,⟨.inr rfl,BI,AS,p3⟩,rfl,rfl⟩
def Hr (a0:RT) : Option (RT×Int):=((Hl a0).bind fun x1=>(if x1=0 then ((Dd 1).bind fun x2=>(some (x2,0))) else (some ((false,[],[]),3))))
theorem Le {a0:RT} {r:RT×Int} (h:Hr a0=some r) :
  Fn Tryz.prog 84 [.ag [.b a0.1,.sl (L a0.2.1),.sl (L a0.2.2)]] (.tup [.d (.ag [.b r.1.1,.sl (L r.1.2.1),.sl (L r.1.2.2)]),.d (.i .i64 r.2)]):=by
 unfold Hr at h
 refine Fn.ofC (rs:=[.cell 2 32,.tmp 3]) (nt:=9) Tryz.func84 rfl rfl rfl (by simp) rfl ?_;refine .sr ?_;refine vk (vbx) ?_;refine vk (van (Ai DY) DX) ?_;refine ar [1,2,3] ?_;refine .seq ?_;refine .sr ?_;refine vk (AN BI AS) ?_
 obtain ⟨x1,g1,h⟩:=bnd h
 refine vk (Ar (G8 g1) Tryz.call86) ?_;refine vk (vbi) ?_;refine rk [2,3,6] ?_
 rcases brc h with ⟨hc,h⟩|⟨hc,h⟩
 ·refine cnf (ntf (dT hc)) ?_
  refine .skip ?_
  show AW _ _ _ _ _ _
  refine .sr ?_
  obtain ⟨x2,g2,h⟩:=bnd h
  refine vk (Ar (CS g2) Tryz.call72) ?_
  refine stn ?_ AS (by decide)
  refine ar [2,3] ?_;refine .ret ?_
  cases h
  exact ⟨_,_,⟨.inr rfl,BI,AS,p3⟩,rfl,rfl⟩
 refine cnt (ntt (dF hc)) ?_;refine .sr ?_;refine vk (vbd Jc DY DX) ?_
 refine stn ?_ AS (by decide)
 refine ar [2,3] ?_;refine .ret ?_
 cases h
 exact ⟨_,_,⟨.inr rfl,BI,AS,p3⟩,rfl,rfl⟩
def FN (a0:RT) : Option (RT×Int):=((Hl a0).bind fun x1=>((Dd x1).bind fun x2=>(some (x2,0))))
theorem Jg {a0:RT} {r:RT×Int} (h:FN a0=some r) :
  Fn Tryz.prog 85 [.ag [.b a0.1,.sl (L a0.2.1),.sl (L a0.2.2)]] (.tup [.d (.ag [.b r.1.1,.sl (L r.1.2.1),.sl (L r.1.2.2)]),.d (.i .i64 r.2)]):=by
 unfold FN at h
 refine Fn.ofC (rs:=[.cell 2 32,.tmp 3]) (nt:=7) Tryz.func85 rfl rfl rfl (by simp) rfl ?_;refine .sr ?_;refine vk (vbx) ?_;refine vk (van (Ai DY) DX) ?_;refine ar [1,2,3] ?_;refine .sr ?_;refine vk (AN BI AS) ?_
 obtain ⟨x1,g1,h⟩:=bnd h
 refine vk (Ar (G8 g1) Tryz.call86) ?_
 obtain ⟨x2,g2,h⟩:=bnd h
 refine vk (Ar (CS g2) Tryz.call72) ?_
 refine stn ?_ AS (by decide)
 refine ar [2,3] ?_;refine .ret ?_
 cases h
 exact ⟨_,_,⟨.inr rfl,BI,AS,p3⟩,rfl,rfl⟩
def FG (a0:RT) : Option (RT×Int):=((Hl a0).bind fun x1=>(if x1=0 then (some ((false,[],[]),3)) else ((Dd 1).bind fun x2=>((NE x2 a0).bind fun x3=>(some (x3.1,x3.2))))))
theorem Jq {a0:RT} {r:RT×Int} (h:FG a0=some r) :
  Fn Tryz.prog 87 [.ag [.b a0.1,.sl (L a0.2.1),.sl (L a0.2.2)]] (.tup [.d (.ag [.b r.1.1,.sl (L r.1.2.1),.sl (L r.1.2.2)]),.d (.i .i64 r.2)]):=by
 unfold FG at h
 refine Fn.ofC (rs:=[.cell 2 32,.tmp 3]) (nt:=13) Tryz.func87 rfl rfl rfl (by simp) rfl ?_;refine .sr ?_;refine vk (vbx) ?_;refine vk (van (Ai DY) DX) ?_;refine ar [1,2,3] ?_;refine .seq ?_;refine .sr ?_;refine vk (AN BI AS) ?_
 obtain ⟨x1,g1,h⟩:=bnd h
 refine vk (Ar (G8 g1) Tryz.call86) ?_;refine vk (vbi) ?_;refine rk [1,2,3,6] ?_
 rcases brc h with ⟨hc,h⟩|⟨hc,h⟩
 ·refine cnt (dT hc) ?_
  refine .sr ?_;refine vk (vbd Jc DY DX) ?_
  refine stn ?_ AS (by decide)
  refine ar [1,2,3] ?_;refine .ret ?_
  cases h
  exact ⟨_,_,⟨.inr rfl,BI,AS,p3⟩,rfl,rfl⟩
 refine cnf (dF hc) ?_;refine .skip ?_
 show AW _ _ _ _ _ _
 refine .seq ?_;refine .drawn 5 BN (by kernel_rfl) ?_
 obtain ⟨x2,g2,h⟩:=bnd h
 refine dv (Ar (CS g2) Tryz.call72) ?_;refine dv (AN BI AS) ?_
 obtain ⟨x3,g3,h⟩:=bnd h
 refine dv (VOK.tupd (vs:=[.ag [.b x3.1.1,.sl (L x3.1.2.1),.sl (L x3.1.2.2)],.i .i64 x3.2]) (Ar (Pr g3) Tryz.call88)) ?_;refine dv (vex) ?_;refine dv (vex) ?_;refine dz ?_
 refine stn ?_ AS (by decide)
 refine ar [2,3] ?_;refine .ret ?_
 cases h
 exact ⟨_,_,⟨.inr rfl,BI,AS,p3⟩,rfl,rfl⟩
def FK (a0:RT) : Option (RT×Int):=((Io a0).bind fun x1=>(if x1.2=true then ((GA (!x1.1)).bind fun x2=>(some (x2,0))) else (some ((false,[],[]),3))))
theorem Jp {a0:RT} {r:RT×Int} (h:FK a0=some r) :
  Fn Tryz.prog 89 [.ag [.b a0.1,.sl (L a0.2.1),.sl (L a0.2.2)]] (.tup [.d (.ag [.b r.1.1,.sl (L r.1.2.1),.sl (L r.1.2.2)]),.d (.i .i64 r.2)]):=by
 unfold FK at h
 refine Fn.ofC (rs:=[.cell 2 32,.tmp 3]) (nt:=17) Tryz.func89 rfl rfl rfl (by simp) rfl ?_;refine .sr ?_;refine vk (vbx) ?_;refine vk (van (Ai DY) DX) ?_;refine ar [1,2,3] ?_;refine .sr ?_;refine vk (AN BI AS) ?_
 obtain ⟨x1,g1,h⟩:=bnd h
 refine vk (VOK.tupd (vs:=[.b x1.1,.b x1.2]) (Ar (LX g1) Tryz.call90)) ?_;refine vk (Aa) ?_;refine vk (vex) ?_;refine vk (vex) ?_;refine asd ?_;refine ar [2,3,4,5] ?_;refine .seq ?_;refine .sr ?_;refine vk (Aa) ?_;refine vk (vnt) ?_;refine rk [2,3,4,12] ?_
 rcases brc h with ⟨hc,h⟩|⟨hc,h⟩
 ·refine cnf (ntf hc) ?_
  refine .skip ?_
  show AW _ _ _ _ _ _
  refine .sr ?_;refine vk (Aa) ?_;refine vk (vnt) ?_
  obtain ⟨x2,g2,h⟩:=bnd h
  refine vk (Ar (Kh g2) Tryz.call91) ?_
  refine stn ?_ AS (by decide)
  refine ar [2,3] ?_;refine .ret ?_
  cases h
  exact ⟨_,_,⟨.inr rfl,BI,AS,p3⟩,rfl,rfl⟩
 refine cnt (ntt (bf hc)) ?_;refine .sr ?_;refine vk (vbd Jc DY DX) ?_
 refine stn ?_ AS (by decide)
 refine ar [2,3,4] ?_;refine .ret ?_
 cases h
 exact ⟨_,_,⟨.inr rfl,BI,AS,p3⟩,rfl,rfl⟩
def C1 (a0:RT) : Option (Itm):=(some ((Itm.mk 1 a0 0 [])))
theorem FU {a0:RT} {r:Itm} (h:C1 a0=some r) :
  Fn Tryz.prog 94 [.ag [.b a0.1,.sl (L a0.2.1),.sl (L a0.2.2)]] (.d (.ag [.i .u8 r.kind,.b r.num.1,.sl (L r.num.2.1),.sl (L r.num.2.2),.i .i32 r.char,.sl (Ars r.box)])):=by
 unfold C1 at h
 refine Fn.ofC (rs:=[.cell 2 83]) (nt:=5) Tryz.func94 rfl rfl rfl (by simp) rfl ?_;refine .sr ?_;refine vk (vbx) ?_;refine vk (van (Ai B6) B9) ?_;refine rk [1,2] ?_;refine .sr ?_;refine vk (AN BI AS) ?_;refine vk (vbd Gy B6 B9) ?_
 refine stn ?_ Az (by decide)
 refine rk [2] ?_;refine .ret ?_
 cases h
 exact ⟨_,⟨.inr rfl,A8,Az,p6⟩,rfl⟩
def J3 : List (Int×Ah):=[(43,⟨.fn 78 [] [],fun x=>G6 x⟩),(45,⟨.fn 79 [] [],fun x=>HS x⟩),(8968,⟨.fn 80 [] [],fun x=>Lr x⟩),(8970,⟨.fn 81 [] [],fun x=>JC x⟩),(124,⟨.fn 82 [] [],fun x=>MQ x⟩),(33,⟨.fn 83 [] [],fun x=>FH x⟩),(42,⟨.fn 84 [] [],fun x=>Hr x⟩),(215,⟨.fn 85 [] [],fun x=>FN x⟩),(247,⟨.fn 87 [] [],fun x=>FG x⟩),(126,⟨.fn 89 [] [],fun x=>FK x⟩)]
theorem S0 : (J3.map (·.1)).Nodup:=by show List.Nodup [(43:Int),(45:Int),(8968:Int),(8970:Int),(124:Int),(33:Int),(42:Int),(215:Int),(247:Int),(126:Int)];decide
theorem RY : ∀ p∈J3,Ce p.2∧isF p.2.dv:=by
 intro p hp
 simp only [J3,List.mem_cons,List.not_mem_nil,or_false] at hp
 rcases hp with rfl|rfl|rfl|rfl|rfl|rfl|rfl|rfl|rfl|rfl
 ·exact ⟨D5 Tryz.call78 (fun _ _ h=>KC h),_,_,_,rfl⟩
 ·exact ⟨D5 Tryz.call79 (fun _ _ h=>PJ h),_,_,_,rfl⟩
 ·exact ⟨D5 Tryz.call80 (fun _ _ h=>Ow h),_,_,_,rfl⟩
 ·exact ⟨D5 Tryz.call81 (fun _ _ h=>M9 h),_,_,_,rfl⟩
 ·exact ⟨D5 Tryz.call82 (fun _ _ h=>Qk h),_,_,_,rfl⟩
 ·exact ⟨D5 Tryz.call83 (fun _ _ h=>Jj h),_,_,_,rfl⟩
 ·exact ⟨D5 Tryz.call84 (fun _ _ h=>Le h),_,_,_,rfl⟩
 ·exact ⟨D5 Tryz.call85 (fun _ _ h=>Jg h),_,_,_,rfl⟩
 ·exact ⟨D5 Tryz.call87 (fun _ _ h=>Jq h),_,_,_,rfl⟩
 ·exact ⟨D5 Tryz.call89 (fun _ _ h=>Jp h),_,_,_,rfl⟩
theorem SG {z:Int} {f:Ah} (h:Fe J3 z=some f) : Ce f∧isF f.dv:=RY _ (KB h)
theorem SU : Fn Tryz.prog 31 [] (.d (UI .i32 J3)):=UD
theorem W6 : ∀ w,(zeroValue 60).run Tryz.prog w=.ok .nilFunc w:=Ai (by kernel_rfl)
end Go.FL
namespace Go.FL
open Go Go.RowKit
section
variable {P:Program} {C:Cx} {X:Snap} {o:Oper} {ops:Array Oper} {Q:Exit→Env→Ac→Prop} {env env':Env} {H H':Ac} {a:Act} {w w':World} {I I':Nat→Prop} {μ μ':List Nat} {O O':Nat→Option Loc}
 {K:Env→Ac→Prop} {k:Nat} {l:List Oper}
theorem Pq {s t ty e sz by_:Nat} {hi:Operand} {ah:Option AO} {xs:List DV} {h:Int} (ho:o.op=.slice ty (.tmp s) none (some hi) none) (hfh:Ct (some hi) ah=true) (hd:o.dst=some t) (ht:okT C.nt t) (hty:Cq P ty=some (e,sz,by_)) (hv:get env s=.own e xs)
  (hh:EO env xs.length ah=some h) (h0:0≤h) (h1:h≤xs.length) (hK:K (put (put env s .un) t (.own e (xs.take h.toNat))) H):OpOK P C o env H K :=
 .val (by simp [ho]) hd ht (fun X a w I μ O _ _ _ hs=>by
  obtain ⟨inf,s1,s2,s3,_,s5⟩:=Df hty
  have b1:=hs.bound (x:=none) (ax:=none) rfl (dflt:=0) (n:=0) rfl
  have b2:=hs.bound hfh hh
  obtain ⟨q1,q2⟩:=hs.take s (by rw [hv];rfl)
  rw [hv] at q2
  have hform:∃ A c,a.tmps.getD s undef=.slice A xs.length c∧xs.length≤c∧A.map (·.add 0)=A:=by
   obtain ⟨bs,k1,_,_⟩:=q2
   generalize a.tmps.getD s undef=v at k1
   cases k1 with
   | own _ _ _ vs hsz hown hr =>
    rcases hown with ⟨A,rfl,hn,_⟩|⟨hr2,g,cap,rfl,hc⟩
    ·refine ⟨A,0,by rw [hn],by omega,?_⟩
     cases A<;>simp [Addr.add]
    ·refine ⟨some ⟨g,0,none⟩,cap,rfl,?_,by simp [Addr.add]⟩
     rcases hr2.2 with ⟨h2,h3⟩|⟨g',cap',cur,h2,_,_,h5,_⟩
     ·omega
     ·simp only [Value.slice.injEq] at h2
      omega
  obtain ⟨A,c,hval,hcap,hA⟩:=hform
  have e1:h≤(c:Int):=by omega
  have hb:=E7 (P:=P) (w:=w) (isS:=true) (len:=xs.length) (cap:=c) (Int.le_refl 0) h0 b1 (b2.imp (fun ⟨x,y⟩=>⟨x,y,rfl⟩) fun h=>h) (m:=(c:Int)) (mx:=none) (.inl ⟨rfl,rfl⟩) e1 (Int.le_refl _)
  have hev:a.eval (.tmp s)=.slice A xs.length c:=hval
  refine ⟨.slice A h.toNat c,w,I,μ,_,?_,q1,?_⟩
  ·have hr:=Nd s1 s2 hb (A:=A)
   simp only [Option.map_none,Option.map_some] at hr
   simp only [execOp,ho,hev,Sem.run_bind,Option.map_none,Option.map_some,hr,Result.andThen_ok,Sem.run_pure]
   have e2:(if (c:Int).toNat=(0:Int).toNat then A else A.map (·.add ((0:Int).toNat * inf.size)))=A:=by
    split
    ·rfl
    ·simpa using hA
   rw [e2];simp
  ·rw [hval] at q2
   exact q2.prefix_ (by omega)) hK
theorem slo {s t ty e sz by_:Nat} {hi:Operand} {xs:List DV} {z:Int} (k':Nat) (hz:z=k') (hle:k'≤xs.length) (h:RL P C ops Q (k+1) l ((t,.own e (xs.take k'))::(s,.un)::env) H) (hty:Cq P ty=some (e,sz,by_)) (hg:grd ops env o true=true:=by rfl)
  (ho:o.op=.slice ty (.tmp s) none (some hi) none:=by rfl) (hv:get env s=.own e xs:=by rfl) (hh:EO env xs.length (some (Dj hi))=some z:=by rfl) (hfh:Ct (some hi) (some (Dj hi))=true:=by rfl) (hd:o.dst=some t:=by rfl)
  (hf:Al (get env t)=false:=by rfl) (hr:C6 s env=false:=by rfl) (ht:okT C.nt t:=by rfl):RL P C ops Q k (o::l) env H:=by
 subst hz
 have hst:=E4 hv hf
 refine .go hg (Pq ho hfh hd ht hty hv hh (by omega) (by omega) ?_)
 rw [Int.toNat_natCast]
 refine RL.gh (Gh.same fun r=>?_) h
 have h1:Al (get (put env s .un) t)=false:=by rw [CX hr];simp [get,hst,hf]
 rw [Aj h1]
 simp only [get]
 split
 ·rfl
 ·have:=CX (v:=.un) hr r
  simp only [get] at this
  exact this.symm
end
end Go.FL
namespace Go.FL
open Go Go.Proofs
def Bf (a1:Ak) (x1:Int×Int) (K0:Arr→Int→(List Itm)→Option (Arr×Int)) : Nat→Arr→Int→(List Itm)→Int→Option (Arr×Int)
 | 0,_,_,_,_=>none
 | k+1,s8,s9,s10,s11=>(if s11<x1.1 then ((a1.g s11).bind fun x12=>(if x12.2=0 then ((ap? 1466015503701 s10 [x12.1]).bind fun x13=>(Bf a1 x1 K0 k s8 s9 x13 (w64 (s11+1)))) else (some ((Arr.mk [] []),x12.2)))) else (K0 s8 s9 s10))
def AJ (a0:(List Int)) (a1:Ak) : Option (Arr×Int):=((CU a0).bind fun x1=>((Dd 0).bind fun x2=>((C1 x2).bind fun x3=>((Fs (0≤(if (w64 (1-(if 1<x1.1 then 1 else x1.1)))<1 then (w64 (1-(if 1<x1.1 then 1 else x1.1))) else 1)∧(if (w64 (1-(if 1<x1.1 then 1 else x1.1)))<1 then (w64 (1-(if 1<x1.1 then 1 else x1.1))) else 1)≤((List.length [x3] : Nat) : Int))).bind fun x4=>(jn (fun (z5:Arr) (z6:Int) (z7:(List Itm))=>((Ax a0 z7).bind fun x14=>(some (x14.1,x14.2)))) fun K0=>(Bf a1 x1 K0 A4 (Arr.mk [] []) 0 (List.take (Int.toNat (if (w64 (1-(if 1<x1.1 then 1 else x1.1)))<1 then (w64 (1-(if 1<x1.1 then 1 else x1.1))) else 1)) ([x3])) 0))))))
theorem JK {a0:(List Int)} {a1:Ak} (oa1:IE a1) {r:Arr×Int} (h:AJ a0 a1=some r) :
  Fn Tryz.prog 92 [.sl (Is a0),a1.dv] (.tup [.d (.ag [.sl (Is r.1.shape),.sl (Its r.1.items)]),.d (.i .i64 r.2)]):=by
 unfold AJ at h
 refine Fn.ofC (rs:=[.cell 4 25,.tmp 5]) (nt:=49) Tryz.func92 rfl rfl rfl (by simp) rfl ?_;refine .sr ?_;refine vk (van (Ai A1) A7) ?_;refine ar [0,1,4,5] ?_;refine .sr ?_;refine vk (Aa) ?_
 obtain ⟨x1,g1,h⟩:=bnd h
 refine vk (VOK.tupd (vs:=[.i .i64 x1.1,.i .i64 x1.2]) (Ar (Dz g1) Tryz.call98)) ?_;refine vk (Aa) ?_;refine vk (vex) ?_;refine vk (vex) ?_;refine asd ?_;refine ar [0,1,4,5,6] ?_;refine .sr ?_
 obtain ⟨x2,g2,h⟩:=bnd h
 refine vk (Ar (CS g2) Tryz.call72) ?_
 obtain ⟨x3,g3,h⟩:=bnd h
 refine vk (Ar (FU g3) Tryz.call94) ?_;refine vk (FS (FA x3) (EH [x3]) D7) ?_;refine vk (Aa) ?_;refine vk (vmn) ?_;refine vk (vbi) ?_;refine vk (vmn) ?_
 obtain ⟨x4,g4,h⟩:=bnd h
 have ghx4:=FP g4
 refine slo (xs:=Its [x3]) (z:=(if (w64 (1-(if 1<x1.1 then 1 else x1.1)))<1 then (w64 (1-(if 1<x1.1 then 1 else x1.1))) else 1)) (Int.toNat (if (w64 (1-(if 1<x1.1 then 1 else x1.1)))<1 then (w64 (1-(if 1<x1.1 then 1 else x1.1))) else 1)) (by omega) (by rw [A0];omega) ?_ D6
 rw [WF]
 refine aso ?_;refine rk [0,1,4,5,6,8] ?_;refine .seq ?_;refine .sr ?_;refine vk (Aa) ?_;refine vk (Aa) ?_;refine rk [0,1,4,5,8,25,26] ?_
 obtain ⟨K0,hK0,h⟩:=BU h
 refine AW.mr (σ:=Arr×Int×(List Itm)) (fun p=>K0 p.1 p.2.1 p.2.2=some r) (fun p=>[(0,.d (.sl (Is a0))),(4,.nb [.sl (Is p.1.shape),.sl (Its p.1.items)]),(5,.d (.i .i64 p.2.1)),(8,.own 83 (Its p.2.2))]) (fun p=>[]) ?_ ?_
 ·skip
  refine .block ?_
  refine .loop (.gk [0,1,4,5,8,25,26] ?_)
  refine AL.ind (σ:=Nat×Arr×Int×(List Itm)×Int) (m:=fun p=>p.1) (e:=fun p=>[(0,.d (.sl (Is a0))),(1,.d (a1.dv)),(4,.nb [.sl (Is p.2.1.shape),.sl (Its p.2.1.items)]),(5,.d (.i .i64 p.2.2.1)),(8,.own 83 (Its p.2.2.2.1)),(25,.d (.i .i64 x1.1)),(26,.d (.i .i64 p.2.2.2.2))]) (h:=fun p=>[]) (I:=fun p=>Bf a1 x1 K0 p.1 p.2.1 p.2.2.1 p.2.2.2.1 p.2.2.2.2=some r) ?_ (A4,(Arr.mk [] []),0,(List.take (Int.toNat (if (w64 (1-(if 1<x1.1 then 1 else x1.1)))<1 then (w64 (1-(if 1<x1.1 then 1 else x1.1))) else 1)) ([x3])),0) h
  rintro ⟨k,s8,s9,s10,s11⟩ h ih
  dsimp only at h ih ⊢
  rcases k with _|k
  ·rw [Bf] at h;cases h
  rw [Bf] at h
  refine .sr ?_;refine vk (vbi) ?_;refine rk [0,1,4,5,8,25,26,27] ?_;refine .seq ?_
  rcases brc h with ⟨hc,h⟩|⟨hc,h⟩
  ·refine cnt (dT hc) ?_
   refine .skip ?_
   show AW _ _ _ _ _ _
   refine .seq ?_;refine .block ?_;refine .sr ?_;refine vk (Aa) ?_;refine ar [0,1,4,5,8,9,25,26] ?_;refine .sr ?_;refine vk (Aa) ?_;refine vk (Aa) ?_
   obtain ⟨x12,g12,h⟩:=bnd h
   refine vk (VOK.tupd (vs:=[.ag [.i .u8 x12.1.kind,.b x12.1.num.1,.sl (L x12.1.num.2.1),.sl (L x12.1.num.2.2),.i .i32 x12.1.char,.sl (Ars x12.1.box)],.i .i64 x12.2]) (Nn (oa1 _ _ g12))) ?_;refine vk (Aa) ?_;refine vk (vex) ?_;refine vk (vex) ?_;refine vk (van (Ai B6) B9) ?_
   refine stn ?_ Az (by decide)
   refine ar [0,1,4,5,8,10,11,25,26] ?_;refine .seq ?_;refine .sr ?_;refine vk (Aa) ?_;refine vk (vbi) ?_;refine rk [0,1,4,5,8,10,11,25,26,36] ?_
   rcases brc h with ⟨hc,h⟩|⟨hc,h⟩
   ·refine cnf (ntf (dT hc)) ?_
    refine .skip ?_
    show AW _ _ _ _ _ _
    refine .region ?_;refine mvo ?_;refine vk (GZ A8 Az) ?_;refine vk ((FS (FA x12.1) (EH [x12.1]) D7).deep) ?_
    obtain ⟨x13,g13,h⟩:=bnd h
    refine T4 HN g13 Jk ?_ Gl A0 D7
    refine aso ?_;refine .nil ?_
    show AW _ _ _ _ _ _
    refine .gk [0,1,4,5,8,25,26] ?_;refine .region ?_;refine vk (vbi) ?_;refine vk (Aa) ?_;refine .nil ?_;refine AL.gk [0,1,4,5,8,25,26] ?_
    exact ih (k,s8,s9,x13,(w64 (s11+1))) h (Nat.lt_succ_self _)
   refine cnt (ntt (dF hc)) ?_;refine .sr ?_;refine vk (vbd Ep A1 A7) ?_;refine vk (Aa) ?_
   refine stn ?_ Ad (by decide)
   refine ar [0,1,4,5,8,10,25,26] ?_;refine .ret ?_
   cases h
   exact ⟨_,_,⟨.inr rfl,An,Ad,p2⟩,rfl,rfl⟩
  refine cnf (dF hc) ?_;refine .gk [0,4,5,8] ?_;refine .exit ?_
  exact jr (s8,s9,s10) h
 rintro ⟨z5,z6,z7⟩ h
 try dsimp only at h ⊢
 subst hK0
 show AW _ _ _ _ _ _
 refine .sr ?_;refine vk (Aa) ?_;refine fz (p:=.t 8) ?_;refine vk (Aa) ?_
 obtain ⟨x14,g14,h⟩:=bnd h
 refine vk (VOK.tupd (vs:=[.ag [.sl (Is x14.1.shape),.sl (Its x14.1.items)],.i .i64 x14.2]) (Ar (FF g14) Tryz.call99)) ?_;refine vk (vex) ?_;refine vk (vex) ?_
 refine stn ?_ Ad (by decide)
 refine ar [4,5] ?_;refine .ret ?_
 cases h
 exact ⟨_,_,⟨.inr rfl,An,Ad,p2⟩,rfl,rfl⟩
def C8 (rc_scalar_one_through:Ah→Arr→Option (Arr×Int)) (a0:Int) (c0:Arr) (c1:Ah) : Option (Itm×Int):=((rd? c0.items a0).bind fun x1=>(if x1.kind=1 then ((c1.g x1.num).bind fun x2=>((C1 x2.1).bind fun x3=>(some (x3,x2.2)))) else (if x1.kind=3 then ((rd? x1.box 0).bind fun x4=>((rc_scalar_one_through c1 x4).bind fun x5=>((Bk x5.1).bind fun x6=>(some (x6,x5.2))))) else (some ((Itm.mk 0 (false,[],[]) 0 []),3)))))
theorem P3 {rc_scalar_one_through:Ah→Arr→Option (Arr×Int)} (orc_scalar_one_through:∀ x0 x1 r,Ce x0→rc_scalar_one_through x0 x1=some r→Fn Tryz.prog 32 [x0.dv,.ag [.sl (Is x1.shape),.sl (Its x1.items)]] (.tup [.d (.ag [.sl (Is r.1.shape),.sl (Its r.1.items)]),.d (.i .i64 r.2)])) {a0:Int} {c0:Arr} {c1:Ah} (oc1:Ce c1) {r:Itm×Int} (h:C8 rc_scalar_one_through a0 c0 c1=some r) :
  Fn Tryz.prog 93 [.i .i64 a0,.ptr [.sl (Is c0.shape),.sl (Its c0.items)],.ptr [c1.dv]] (.tup [.d (.ag [.i .u8 r.1.kind,.b r.1.num.1,.sl (L r.1.num.2.1),.sl (L r.1.num.2.2),.i .i32 r.1.char,.sl (Ars r.1.box)]),.d (.i .i64 r.2)]):=by
 unfold C8 at h
 refine Fn.ofC (rs:=[.cell 4 83,.tmp 5]) (nt:=45) Tryz.func93 rfl rfl rfl (by simp) rfl ?_;refine .sr ?_;refine vk (van (Ai B6) B9) ?_;refine ar [0,1,2,4,5] ?_;refine .seq ?_;refine .sr ?_;refine vk (vfa BH) ?_;refine vk (As DJ) ?_;refine vk (Aa) ?_
 obtain ⟨x1,g1,h⟩:=bnd h
 obtain ⟨n1,p01,q1⟩:=Av g1
 refine vk (vix n1 p01 (Eo q1) rfl D6) ?_;refine vk (AN A8 Az) ?_;refine vk (van (Ai B6) B9) ?_
 refine stn ?_ Az (by decide)
 refine rk [2,4,5,6] ?_;refine .seq ?_;refine .gh (Gh.nbp (t:=6) rfl) ?_;refine .region ?_;refine vk (vfa Fm) ?_;refine vk (As Dc) ?_;refine rk [2,4,5,6,17] ?_;refine .block ?_;refine .sr ?_;refine vk (vbi) ?_;refine ar [2,4,5,6,17,18] ?_
 rcases brc h with ⟨hc,h⟩|⟨hc,h⟩
 ·refine cnt (dT hc) ?_
  refine .sr ?_;refine vk (As Gb) ?_;refine vk (vfa CY) ?_;refine vk (AN BI AS) ?_
  obtain ⟨x2,g2,h⟩:=bnd h
  refine vk (VOK.tupd (vs:=[.ag [.b x2.1.1,.sl (L x2.1.2.1),.sl (L x2.1.2.2)],.i .i64 x2.2]) (Nn (oc1 _ _ g2))) ?_;refine vk (Aa) ?_;refine vk (vex) ?_;refine vk (vex) ?_;refine vk (van (Ai DY) DX) ?_
  refine stn ?_ AS (by decide)
  refine ar [4,5,7,8] ?_;refine .sr ?_;refine vk (GZ BI AS) ?_
  obtain ⟨x3,g3,h⟩:=bnd h
  refine vk (Ar (FU g3) Tryz.call94) ?_;refine vk (Aa) ?_
  refine stn ?_ Az (by decide)
  refine ar [4,5] ?_;refine .ret ?_
  cases h
  exact ⟨_,_,⟨.inr rfl,A8,Az,p6⟩,rfl,rfl⟩
 refine cnf (dF hc) ?_;refine .sr ?_;refine vk (vbi) ?_;refine ar [2,4,5,6,30] ?_
 rcases brc h with ⟨hc,h⟩|⟨hc,h⟩
 ·refine cnt (dT hc) ?_
  refine .seq ?_
  obtain ⟨x4,g4,h⟩:=bnd h
  obtain ⟨x5,g5,h⟩:=bnd h
  refine .drawnF 10 [8] [(9,.nb [.sl (Is x5.1.shape),.sl (Its x5.1.items)])] [] BN (by kernel_rfl) rfl ?_;refine dv (As Gb) ?_;refine dv (vfa CN) ?_;refine dv (As EQ) ?_
  obtain ⟨n4,p04,q4⟩:=Av g4
  refine dv (vix n4 p04 (GC q4) rfl GI) ?_;refine dv (AN An Ad) ?_;refine dv (VOK.tupd (vs:=[.ag [.sl (Is x5.1.shape),.sl (Its x5.1.items)],.i .i64 x5.2]) (Ar (orc_scalar_one_through _ _ _ oc1 g5) Tryz.call32)) ?_;refine dv (Aa) ?_;refine dv (vex) ?_;refine dv (vex) ?_;refine dv (van (Ai A1) A7) ?_;refine dz ?_
  refine ⟨?_,?_,?_⟩
  ·intro k hk
   simp only [List.mem_cons,List.not_mem_nil,or_false] at hk
   subst hk
   exact ⟨_,_,_,rfl,rfl,rfl,rfl,rfl,rfl,vex⟩
  ·intro om e hom hge
   cases hom
   exact Il (cs:=[.sl (Is []),.sl (Its [])]) (cs':=[.sl (Is x5.1.shape),.sl (Its x5.1.items)]) Ad (by decide) rfl ((hge 9 (fun k hk v hv=>by
     simp only [List.mem_cons,List.not_mem_nil,or_false] at hk
     subst hk;exact (by decide:¬(some 40=some 9)) (congrArg (Option.map Prod.fst) hv))).trans rfl) ((congrArg A3 (hge 39 (fun k hk v hv=>by
     simp only [List.mem_cons,List.not_mem_nil,or_false] at hk
     subst hk;exact (by decide:¬(some 40=some 39)) (congrArg (Option.map Prod.fst) hv)))).trans rfl) rfl rfl rfl rfl ⟨rfl,rfl⟩
  refine ar [4,5,9,10] ?_;refine .sr ?_;refine vk (GZ An Ad) ?_
  obtain ⟨x6,g6,h⟩:=bnd h
  refine vk (Ar (Jd g6) Tryz.call95) ?_;refine vk (Aa) ?_
  refine stn ?_ Az (by decide)
  refine ar [4,5] ?_;refine .ret ?_
  cases h
  exact ⟨_,_,⟨.inr rfl,A8,Az,p6⟩,rfl,rfl⟩
 refine cnf (dF hc) ?_;refine .skip ?_
 show AW _ _ _ _ _ _
 refine .sr ?_;refine vk (vbd Gy B6 B9) ?_
 refine stn ?_ Az (by decide)
 refine ar [4,5] ?_;refine .ret ?_
 cases h
 exact ⟨_,_,⟨.inr rfl,A8,Az,p6⟩,rfl,rfl⟩
def HL (rc_scalar_one_through:Ah→Arr→Option (Arr×Int)) (a0:Ah) (a1:Arr) : Option (Arr×Int):=((AJ a1.shape (⟨.fn 93 [] [.ptr [.sl (Is a1.shape),.sl (Its a1.items)],.ptr [a0.dv]],fun x=>C8 rc_scalar_one_through x a1 a0⟩ : Ak)).bind fun x1=>(some (x1.1,x1.2)))
theorem Pu {rc_scalar_one_through:Ah→Arr→Option (Arr×Int)} (orc_scalar_one_through:∀ x0 x1 r,Ce x0→rc_scalar_one_through x0 x1=some r→Fn Tryz.prog 32 [x0.dv,.ag [.sl (Is x1.shape),.sl (Its x1.items)]] (.tup [.d (.ag [.sl (Is r.1.shape),.sl (Its r.1.items)]),.d (.i .i64 r.2)])) {a0:Ah} {a1:Arr} (oa0:Ce a0) {r:Arr×Int} (h:HL rc_scalar_one_through a0 a1=some r) :
  Fn Tryz.prog 32 [a0.dv,.ag [.sl (Is a1.shape),.sl (Its a1.items)]] (.tup [.d (.ag [.sl (Is r.1.shape),.sl (Its r.1.items)]),.d (.i .i64 r.2)]):=by
 unfold HL at h
 refine Fn.ofC (rs:=[.cell 4 25,.tmp 5]) (nt:=12) Tryz.func32 rfl rfl rfl (by simp) rfl ?_;refine .sr ?_;refine vk (V1) ?_;refine vk (vbx) ?_;refine vk (van (Ai A1) A7) ?_;refine ar [2,3,4,5] ?_;refine .sr ?_;refine vk (vfa Cn) ?_;refine vk (As Dy) ?_;refine vk (VH) ?_
 obtain ⟨x1,g1,h⟩:=bnd h
 refine vk (VOK.tupd (vs:=[.ag [.sl (Is x1.1.shape),.sl (Its x1.1.items)],.i .i64 x1.2]) (Ar (JK (D5 Tryz.call93 (fun _ _ h=>P3 orc_scalar_one_through oa0 h)) g1) Tryz.call92)) ?_;refine vk (vex) ?_;refine vk (vex) ?_
 refine stn ?_ Ad (by decide)
 refine ar [4,5] ?_;refine .ret ?_
 cases h
 exact ⟨_,_,⟨.inr rfl,An,Ad,p2⟩,rfl,rfl⟩
def AH : Nat→Ah→Arr→Option (Arr×Int)
 | 0,_,_=>none
 | k+1,a0,a1=>HL (AH k) a0 a1
theorem JM : ∀ (k:Nat) (a0:Ah) (a1:Arr) (r:Arr×Int),Ce a0→AH k a0 a1=some r→Fn Tryz.prog 32 [a0.dv,.ag [.sl (Is a1.shape),.sl (Its a1.items)]] (.tup [.d (.ag [.sl (Is r.1.shape),.sl (Its r.1.items)]),.d (.i .i64 r.2)])
 | 0,_,_,_,_,h=>by cases h
 | k+1,a0,a1,_,oa0,h=>Pu (JM k) oa0 (show HL (AH k) a0 a1=some _ from h)
def Hm (a0:Ah) (a1:Arr) : Option (Arr×Int):=AH (a1.size+1) a0 a1
theorem Sc {a0:Ah} {a1:Arr} (oa0:Ce a0) {r:Arr×Int} (h:Hm a0 a1=some r) : Fn Tryz.prog 32 [a0.dv,.ag [.sl (Is a1.shape),.sl (Its a1.items)]] (.tup [.d (.ag [.sl (Is r.1.shape),.sl (Its r.1.items)]),.d (.i .i64 r.2)]):=JM _ a0 a1 r oa0 h
def CQ (a0:(Int×RT×Int)) (a1:Int) (a2:Arr) : Option (Arr×Int):=(TL (Fe J3 a1) (some ((Arr.mk [] []),23)) fun f1=>((A5 a2).bind fun x2=>(if x2=true then ((Hm f1 a2).bind fun x3=>(some (x3.1,x3.2))) else (some ((Arr.mk [] []),22)))))
theorem Fx {a0:(Int×RT×Int)} {a1:Int} {a2:Arr} {r:Arr×Int} (h:CQ a0 a1 a2=some r) :
  Fn Tryz.prog 10 [.ag [.i .i64 a0.1,.b a0.2.1.1,.sl (L a0.2.1.2.1),.sl (L a0.2.1.2.2),.i .i64 a0.2.2],.i .i32 a1,.ag [.sl (Is a2.shape),.sl (Its a2.items)]] (.tup [.d (.ag [.sl (Is r.1.shape),.sl (Its r.1.items)]),.d (.i .i64 r.2)]):=by
 unfold CQ at h
 refine Fn.ofC (rs:=[.cell 6 25,.tmp 7]) (nt:=26) Tryz.func10 rfl rfl rfl (by simp) rfl ?_;refine .sr ?_;refine vk (vbx) ?_;refine vk (vbx) ?_;refine vk (van (Ai A1) A7) ?_;refine ar [1,5,6,7] ?_;refine .sr ?_;refine vk (Ar SU Tryz.call31) ?_;refine vk (Aa) ?_
 rcases hmf1:(Fe J3 a1) with _|f1
 ·replace h:=St hmf1 h
  refine vk (Vd GP gkR W6 hmf1) ?_;refine ar [5,6,7,8] ?_;refine .seq ?_;refine .block ?_;refine .sr ?_;refine vk (Aa) ?_;refine vk (WH FC) ?_;refine ar [5,6,7,8,12] ?_;refine B1 ?_;refine .sr ?_;refine vk (vbd Ep A1 A7) ?_
  refine stn ?_ Ad (by decide)
  refine ar [5,6,7,8] ?_;refine .ret ?_
  cases h
  exact ⟨_,_,⟨.inr rfl,An,Ad,p2⟩,rfl,rfl⟩
 replace h:=TY hmf1 h
 obtain ⟨of1,isf1⟩:=SG hmf1
 refine vk (Vc S0 GP gkR hmf1) ?_;refine ar [5,6,7,8] ?_;refine .seq ?_;refine .block ?_;refine .sr ?_;refine vk (Aa) ?_;refine vk (WO FC isf1) ?_;refine ar [5,6,7,8,12] ?_;refine B4 ?_;refine .sr ?_;refine vk (AN An Ad) ?_
 obtain ⟨x2,g2,h⟩:=bnd h
 refine vk (Ar (Bw g2) Tryz.call13) ?_;refine vk (vnt) ?_;refine ar [5,6,7,8,16] ?_
 rcases brc h with ⟨hc,h⟩|⟨hc,h⟩
 ·refine cnf (ntf hc) ?_
  refine .skip ?_
  show AW _ _ _ _ _ _
  refine .sr ?_;refine vk (Aa) ?_;refine vk (AN An Ad) ?_
  obtain ⟨x3,g3,h⟩:=bnd h
  refine vk (VOK.tupd (vs:=[.ag [.sl (Is x3.1.shape),.sl (Its x3.1.items)],.i .i64 x3.2]) (Ar (Sc of1 g3) Tryz.call32)) ?_;refine vk (vex) ?_;refine vk (vex) ?_
  refine stn ?_ Ad (by decide)
  refine ar [6,7] ?_;refine .ret ?_
  cases h
  exact ⟨_,_,⟨.inr rfl,An,Ad,p2⟩,rfl,rfl⟩
 refine cnt (ntt (bf hc)) ?_;refine .sr ?_;refine vk (vbd Ep A1 A7) ?_
 refine stn ?_ Ad (by decide)
 refine ar [5,6,7,8] ?_;refine .ret ?_
 cases h
 exact ⟨_,_,⟨.inr rfl,An,Ad,p2⟩,rfl,rfl⟩
theorem JV {F:Ak} {xs:List Itm} (hF:∀ (i:Nat) (h:i<xs.length),F.g (i:Int)=some (xs[i],0)) (hl:xs.length≤4096) {x1:Int×Int} (hx1:x1.1=((xs.length:Nat) : Int)) (K:Arr→Int→List Itm→Option (Arr×Int)) (a:Arr) (b:Int) : ∀ (n i k:Nat) (t:List Itm),n=xs.length-i→i≤xs.length→n<k→t.length≤1+i →
  Bf F x1 K k a b t (i:Int)=K a b (t++xs.drop i)
 | _,_,0,_,_,_,h,_=>by omega
 | n,i,k+1,t,hn,hi,hk,ht=>by
  rw [Bf]
  by_cases h:i<xs.length
  ·rw [if_pos (by omega),hF i h,oB,if_pos rfl,GU (by simp;omega),oB,BF (by omega),JV hF hl hx1 K a b (n-1) (i+1) k _ (by omega) (by omega) (by omega) (by simp;omega),lC h,List.append_assoc]
   rfl
  ·rw [if_neg (by omega),List.drop_of_length_le (by omega),List.append_nil]
theorem RJ {s:List Int} {F:Ak} {xs:List Itm} (hsl:s.length≤17592186044416) (hs:szP s=(((xs.length:Nat) : Int),0)) (hF:∀ (i:Nat) (h:i<xs.length),F.g (i:Int)=some (xs[i],0)) :
  AJ s F=Ax s ((if xs.length=0 then [Ec 0] else [])++xs):=by
 have hle:=Et s
 rw [hs] at hle
 have hl:xs.length≤4096:=by have:=hle.2;omega
 unfold AJ
 have hnum:C1 (ofQ ((0:Int):Rat))=some (Ec 0):=rfl
 rw [GF hsl,oB,hs,MT (by omega) (by omega),oB,hnum,oB]
 have hz:(if (w64 (1-(if (1:Int)<((xs.length:Nat):Int) then 1 else ((xs.length:Nat):Int))))<1 then (w64 (1-(if (1:Int)<((xs.length:Nat):Int) then 1 else ((xs.length:Nat):Int)))) else 1)=if xs.length=0 then 1 else 0:=by
  by_cases h0:xs.length=0
  ·rw [h0];rfl
  ·rw [if_neg h0]
   by_cases h1:(1:Int)<((xs.length:Nat):Int)
   ·rw [if_pos h1];rfl
   ·have:((xs.length:Nat):Int)=1:=by omega
    rw [this];rfl
 have hg:Fs (0≤(if xs.length=0 then (1:Int) else 0)∧(if xs.length=0 then (1:Int) else 0)≤((List.length [Ec 0]:Nat):Int))=some ():=if_pos (by split<;>simp)
 rw [hz,hg,oB,Ds]
 have ht:List.take (Int.toNat (if xs.length=0 then 1 else 0)) [Ec 0]=if xs.length=0 then [Ec 0] else []:=by split<;>rfl
 rw [ht]
 have:=JV hF hl (x1:=(((xs.length:Nat):Int),0)) rfl (fun z5 z6 z7=>(Ax s z7).bind fun x14=>some (x14.1,x14.2)) (Arr.mk [] []) 0 xs.length 0 A4 (if xs.length=0 then [Ec 0] else []) rfl (Nat.zero_le _) (BE (by omega)) (by split<;>simp)
 rw [show ((0:Nat):Int)=0 from rfl,List.drop_zero] at this
 rw [this]
 generalize Ax s ((if xs.length=0 then [Ec 0] else [])++xs)=m
 cases m<;>rfl
theorem GS {F:Ak} {xs:List Itm} (hF:∀ (i:Nat) (h:i<xs.length),F.g (i:Int)=some (xs[i],0)) {y:Itm} {e:Int} (he:e≠0) (hy:F.g ((xs.length:Nat) : Int)=some (y,e)) (hl:xs.length≤4096) {x1:Int×Int} (hx1:((xs.length:Nat) : Int)<x1.1) (K:Arr→Int→List Itm→Option (Arr×Int)) (a:Arr) (b:Int) : ∀ (n i k:Nat) (t:List Itm),n=xs.length-i→i≤xs.length→n<k→t.length≤1+i →
  Bf F x1 K k a b t (i:Int)=some (.mk [] [],e)
 | _,_,0,_,_,_,h,_=>by omega
 | n,i,k+1,t,hn,hi,hk,ht=>by
  rw [Bf]
  by_cases h:i<xs.length
  ·rw [if_pos (by omega),hF i h,oB,if_pos rfl,GU (by simp;omega),oB,BF (by omega),GS hF he hy hl hx1 K a b (n-1) (i+1) k _ (by omega) (by omega) (by omega) (by simp;omega)]
  ·obtain rfl:i=xs.length:=by omega
   rw [if_pos hx1,hy,oB,if_neg he]
theorem PG {s:List Int} {F:Ak} {xs:List Itm} {m:Int} (hsl:s.length≤17592186044416) (hs:szP s=(m,0)) (hm:((xs.length:Nat) : Int)<m) (hF:∀ (i:Nat) (h:i<xs.length),F.g (i:Int)=some (xs[i],0)) {y:Itm} {e:Int} (he:e≠0) (hy:F.g ((xs.length:Nat) : Int)=some (y,e)) :
  AJ s F=some (.mk [] [],e):=by
 have hle:=Et s
 rw [hs] at hle
 have hl:xs.length≤4096:=by have:=hle.2;omega
 unfold AJ
 have hnum:C1 (ofQ ((0:Int):Rat))=some (Ec 0):=rfl
 rw [GF hsl,oB,hs,MT (by omega) (by omega),oB,hnum,oB]
 have hz:(if (w64 (1-(if (1:Int)<m then 1 else m)))<1 then (w64 (1-(if (1:Int)<m then 1 else m))) else 1)=0:=by
  by_cases h1:(1:Int)<m
  ·rw [if_pos h1];rfl
  ·have:m=1:=by omega
   rw [this];rfl
 have hg:Fs (0≤(0:Int)∧(0:Int)≤((List.length [Ec 0]:Nat):Int))=some ():=if_pos (by simp)
 rw [hz,hg,oB,Ds]
 exact GS hF he hy hl hm _ (Arr.mk [] []) 0 xs.length 0 A4 _ rfl (Nat.zero_le _) (BE (by omega)) (by simp)
theorem Mi {α β:Type} {y:α} {a:β} {f:α→β} : TL (some y) a f=f y:=rfl
def BL : List (Itm×Int)→Int
 | []=>0
 | r::rs=>if r.2=0 then BL rs else r.2
theorem DT : ∀ {rs:List (Itm×Int)},BL rs=0→∀ r∈rs,r.2=0
 | [],_,_,h=>by cases h
 | r::rs,h,x,hx=>by
  rw [BL] at h
  by_cases h0:r.2=0
  ·rw [if_pos h0] at h
   rcases List.mem_cons.1 hx with rfl|hx
   ·exact h0
   ·exact DT h x hx
  ·rw [if_neg h0] at h;exact absurd h h0
theorem LN : ∀ {rs:List (Itm×Int)},(∀ r∈rs,r.2=0)→BL rs=0
 | [],_=>rfl
 | r::rs,h=>by rw [BL,if_pos (h r (by simp)),LN fun x hx=>h x (by simp [hx])]
theorem IR : ∀ {rs:List (Itm×Int)},BL rs≠0→∃ xs b ys,rs=xs++b::ys∧(∀ r∈xs,r.2=0)∧b.2=BL rs
 | [],h=>absurd rfl h
 | r::rs,h=>by
  rw [BL] at h
  by_cases h0:r.2=0
  ·rw [if_pos h0] at h
   obtain ⟨xs,b,ys,h1,h2,h3⟩:=IR h
   refine ⟨r::xs,b,ys,by rw [h1];rfl,?_,by rw [BL,if_pos h0,h3]⟩
   intro x hx
   rcases List.mem_cons.1 hx with rfl|hx
   ·exact h0
   ·exact h2 x hx
  ·exact ⟨[],r,rs,rfl,by simp,by rw [BL,if_neg h0]⟩
theorem P0 {s:List Int} {F:Ak} {rs:List (Itm×Int)} (hsl:s.length≤17592186044416) (hs:szP s=(((rs.length:Nat) : Int),0)) (hF:∀ (i:Nat) (h:i<rs.length),F.g (i:Int)=some rs[i]) :
  AJ s F=if BL rs=0 then Ax s ((if rs.length=0 then [Ec 0] else [])++rs.map (·.1)) else some (.mk [] [],BL rs):=by
 by_cases h:BL rs=0
 ·rw [if_pos h]
  have hz:=DT h
  have:=RJ (s:=s) (F:=F) (xs:=rs.map (·.1)) hsl (by rw [List.length_map];exact hs) (fun i hi=>by
   rw [List.length_map] at hi
   rw [hF i hi,List.getElem_map,← hz rs[i] (List.getElem_mem hi)])
  rw [this,List.length_map]
 ·rw [if_neg h]
  obtain ⟨xs,b,ys,h1,h2,h3⟩:=IR h
  have hlen:rs.length=xs.length+(ys.length+1):=by rw [h1];simp
  rw [← h3] at h ⊢
  refine PG (xs:=xs.map (·.1)) (y:=b.1) hsl hs (by rw [List.length_map];omega) (fun i hi=>?_) h ?_
  ·rw [List.length_map] at hi
   have e:rs[i]'(by omega)=xs[i]:=by simp [h1,List.getElem_append_left hi]
   rw [hF i (by omega),e,List.getElem_map,← h2 xs[i] (List.getElem_mem hi)]
  ·rw [List.length_map,hF xs.length (by omega)]
   have e:rs[xs.length]'(by omega)=b:=by simp [h1]
   rw [e]
def Bl (F:Ak) (n:Nat) : List (Itm×Int):=(List.range n).map fun i=>(F.g ((i:Nat) : Int)).getD default
theorem Ba (F:Ak) (n:Nat) : (Bl F n).length=n:=by simp [Bl]
theorem CV {s:List Int} {F:Ak} {n:Nat} (hsl:s.length≤17592186044416) (hs:szP s=((n:Int),0)) (hF:∀ i,i<n→∃ r,F.g ((i:Nat) : Int)=some r) :
  AJ s F=if BL (Bl F n)=0 then Ax s ((if n=0 then [Ec 0] else [])++(Bl F n).map (·.1)) else some (.mk [] [],BL (Bl F n)):=by
 have:=P0 (s:=s) (F:=F) (rs:=Bl F n) hsl (by rw [Ba];exact hs) (fun i hi=>by
  rw [Ba] at hi
  obtain ⟨r,hr⟩:=hF i hi
  have e:(Bl F n)[i]'(by rw [Ba];exact hi)=(F.g ((i:Nat):Int)).getD default:=by simp [Bl]
  rw [e,hr];rfl)
 rw [Ba] at this
 exact this
theorem OW {F G:Ak} {n:Nat} (h:∀ i,i<n→F.g ((i:Nat) : Int)=G.g ((i:Nat) : Int)) : Bl F n=Bl G n:=by
 unfold Bl
 refine List.map_congr_left fun i hi=>?_
 rw [h i (List.mem_range.1 hi)]
theorem NB {s:List Int} {F G:Ak} {n:Nat} (hsl:s.length≤17592186044416) (hs:szP s=((n:Int),0)) (hG:∀ i,i<n→∃ r,G.g ((i:Nat) : Int)=some r) (h:∀ i,i<n→F.g ((i:Nat) : Int)=G.g ((i:Nat) : Int)) :
  AJ s F=AJ s G:=by
 rw [CV hsl hs hG,CV hsl hs (fun i hi=>by rw [h i hi];exact hG i hi),OW h]
theorem PL {s:List Int} {F:Ak} {n:Nat} (hs64:∀ z∈s,-9223372036854775808≤z∧z≤9223372036854775807) (hsl:s.length≤17592186044416) (hs:szP s=((n:Int),0))
  (hF:∀ i,i<n→∃ x e,F.g ((i:Nat):Int)=some (x,e)∧(e=0→okI x∧AT x)):Tot (AJ s F) s:=by
 have hn:=Et s
 rw [hs] at hn
 rw [CV hsl hs (fun i hi=>by obtain ⟨x,e,h,_⟩:=hF i hi;exact ⟨_,h⟩)]
 by_cases h:BL (Bl F n)=0
 ·rw [if_pos h]
  refine KM hs64 hsl ?_ ?_ ?_
  ·rw [List.length_append,List.length_map,Ba];split<;>simp<;>omega
  ·intro q
   have:=congrArg List.length q
   rw [List.length_append,List.length_map,Ba] at this
   split at this
   ·simp at this
   ·simp only [List.length_nil] at this;omega
  ·intro x hx
   rcases List.mem_append.1 hx with hx|hx
   ·split at hx
    ·rw [List.mem_singleton] at hx;subst hx;exact Gs
    ·cases hx
   ·obtain ⟨r,hr,rfl⟩:=List.mem_map.1 hx
    have h0:=DT h r hr
    obtain ⟨i,hi,rfl⟩:=List.mem_map.1 hr
    obtain ⟨x,e,h1,h2⟩:=hF i (List.mem_range.1 hi)
    rw [h1] at h0 ⊢
    exact h2 h0
 ·rw [if_neg h]
  exact ⟨_,_,rfl,fun q=>absurd q h,fun _=>rfl⟩
def GV (rc:Ah→Arr→Option (Arr×Int)) (f:Ah) (x:Itm) : Option (Itm×Int) :=
 if x.kind=1 then (f.g x.num).bind fun r=>some (.mk 1 r.1 0 [],r.2) else if x.kind=3 then (rd? x.box 0).bind fun b=>(rc f b).bind fun r=>(Bk r.1).bind fun y=>some (y,r.2) else some (.mk 0 (false,[],[]) 0 [],3)
theorem CW {rc:Ah→Arr→Option (Arr×Int)} {f:Ah} {a:Arr} {i:Nat} {x:Itm} (ha:a.items[i]?=some x) : C8 rc (i:Int) a f=GV rc f x:=by
 unfold C8 GV
 rw [Vp ha,oB]
 rfl
def U0 (f:Ah) : Prop:=∀ x,Be x=true→∃ y e,f.g x=some (y,e)∧(e=0→Be y=true)
theorem MS {rc:Ah→Arr→Option (Arr×Int)} {f:Ah} (hf:U0 f) {x:Itm} (hx:okI x∧AT x) (hrc:∀ b∈x.box,okAr b→AD b→Tot (rc f b) b.shape) : ∃ y e,GV rc f x=some (y,e)∧(e=0→okI y∧AT y):=by
 unfold GV
 rcases Fg hx.2.1 with ⟨k,h,_,_⟩|⟨k,_⟩|⟨k,_,_,b,hb,_⟩
 ·rw [if_pos k]
  obtain ⟨y,e,h1,h2⟩:=hf _ h
  exact ⟨_,e,by rw [h1];rfl,fun q=>Jt (h2 q)⟩
 ·rw [if_neg (by rw [k];decide),if_neg (by rw [k];decide)]
  exact ⟨_,_,rfl,fun q=>absurd q (by decide)⟩
 ·rw [if_neg (by rw [k];decide),if_pos k,hb,LS,oB]
  obtain ⟨ob,rb,_⟩:=HM hx.1 hx.2 b (by simp [hb])
  exact NH (hrc b (by simp [hb]) ob rb)
theorem DO {rc:Ah→Arr→Option (Arr×Int)} {f:Ah} {a:Arr} : HL rc f a=AJ a.shape (⟨.fn 93 [] [.ptr [.sl (Is a.shape),.sl (Its a.items)],.ptr [f.dv]],fun x=>C8 rc x a f⟩ : Ak):=by
 unfold HL
 generalize AJ _ _=m
 cases m<;>rfl
theorem IP {f:Ah} (hf:U0 f) : ∀ (k:Nat) {a:Arr},a.size<k→okAr a→AD a→Tot (AH k f a) a.shape
 | 0,_,h,_,_=>by omega
 | k+1,a,h,oa,ra=>by
  have o:=(AM a).1 oa
  obtain ⟨n,hn,hl⟩:=F7 ra
  rw [AH,DO]
  refine PL o.1 o.2.1 hn fun i hi=>?_
  have hi':i<a.items.length:=by rw [hl];split<;>omega
  have hx:=A6 oa ra (List.getElem_mem hi')
  obtain ⟨y,e,h1,h2⟩:=MS (rc:=AH k) hf hx fun b hb ob rb=>IP hf k (by have:=D3 (List.getElem_mem hi') hb;omega) ob rb
  exact ⟨y,e,by rw [← h1];exact CW (lG hi'),h2⟩
theorem PC {e:Int×RT×Int} {g:Int} {w:Ah} (ht:Fe J3 g=some w) {a:Arr} (oa:okAr a) : CQ e g a=if AD a then Hm w a else some (.mk [] [],22):=by
 unfold CQ
 rw [ht,Mi,Dv oa,oB]
 by_cases h:AD a
 ·rw [if_pos (dT h),if_pos h]
  generalize Hm _ _=m
  cases m<;>rfl
 ·rw [if_neg (by rw [dF h];decide),if_neg h]
theorem Sw {p:Rat} (hp:Ik p) : Ik (-p):=by
 unfold Ik at *
 rw [Rat.neg_num,Rat.neg_den,Int.natAbs_neg];exact hp
def RatF (f:Ah) (h:Rat→Rat) : Prop:=∀ p,Ik p→f.g (ofQ p)=some (ofQ (h p),0)∧Ik (h p)
theorem RatF.tot {f:Ah} {h:Rat→Rat} (hf:RatF f h) : U0 f:=fun x hx=>by
 obtain ⟨p,hp,rfl⟩:=Gd.1 hx
 exact ⟨_,_,(hf p hp).1,fun _=>E2 (hf p hp).2⟩
def RI (x y:Itm) : Prop:=(okI x∧AT x)∧(okI y∧AT y)∧cI x=cI y∧dI x=dI y∧x.kind=y.kind
def RIs : List Itm→List Itm→Prop
 | [],[]=>True
 | x::xs,y::ys=>RI x y∧RIs xs ys
 | _,_=>False
theorem Ni {α:Type} {f g:α→Itm} : ∀ {l:List α},(∀ a∈l,RI (f a) (g a))→RIs (l.map f) (l.map g)
 | [],_=>trivial
 | a::l,h=>⟨h a (by simp),Ni fun b hb=>h b (by simp [hb])⟩
theorem JG : ∀ {xs ys:List Itm},RIs xs ys→xs.length=ys.length∧(∀ x∈xs,okI x∧AT x)∧(∀ y∈ys,okI y∧AT y)∧cIs xs=cIs ys∧dIs xs=dIs ys
 | [],[],_=>⟨rfl,by simp,by simp,rfl,rfl⟩
 | [],_::_,h=>False.elim h
 | _::_,[],h=>False.elim h
 | x::xs,y::ys,⟨h1,h2⟩=>by
  obtain ⟨p1,p2,p3,p4,p5⟩:=JG h2
  refine ⟨by simp [p1],?_,?_,by rw [cIs,cIs,h1.2.2.1,p4],by rw [dIs,dIs,h1.2.2.2.1,p5]⟩
  ·intro z hz;rcases List.mem_cons.1 hz with rfl|hz
   ·exact h1.1
   ·exact p2 z hz
  ·intro z hz;rcases List.mem_cons.1 hz with rfl|hz
   ·exact h1.2.1
   ·exact p3 z hz
theorem Lz {s:List Int} : ∀ {xs ys:List Itm},RIs xs ys→AE (.mk s xs)=AE (.mk s ys)
 | [],[],_=>rfl
 | [],_::_,h=>False.elim h
 | _::_,[],h=>False.elim h
 | [x],[y],⟨h,_⟩=>by unfold AE;rw [GQ,GQ,Dr,Dr];simp only [h.2.2.2.2]
 | _::_::_,_::_::_,_=>rfl
 | [_],_::_::_,⟨_,h⟩=>False.elim h
 | _::_::_,[_],⟨_,h⟩=>False.elim h
def RA (a b:Arr) : Prop:=okAr a∧okAr b∧AD a∧AD b∧a.shape=b.shape∧RIs a.items b.items
theorem RA.counts {a b:Arr} (h:RA a b) : cA a=cA b∧dA a=dA b∧AE a=AE b:=by
 obtain ⟨_,_,_,_,hs,hi⟩:=h
 obtain ⟨p1,_,_,p4,p5⟩:=JG hi
 have e:AE a=AE b:=by
  have:=Lz (s:=a.shape) hi
  rw [Arr.eta] at this
  rw [this,hs,Arr.eta]
 exact ⟨by rw [FY,FY,p1,p4],by rw [GW,GW,e,p5],e⟩
theorem TA {s:List Int} {xs ys:List Itm} {n:Nat} (hs:∀ z∈s,-9223372036854775808≤z∧z≤9223372036854775807) (hl:s.length≤17592186044416) (hn:szP s=((n:Int),0)) (hlen:xs.length=n) (hr:RIs xs ys) :
  ∃ r1 r2 e,Ax s ((if n=0 then [Ec 0] else [])++xs)=some (r1,e)∧Ax s ((if n=0 then [Ec 0] else [])++ys)=some (r2,e)∧(e=0→RA r1 r2∧r1.shape=s∧(n≠0→r1.items=xs∧r2.items=ys))∧(e≠0→r1=.mk [] []∧r2=.mk [] []):=by
 obtain ⟨p1,p2,p3,p4,p5⟩:=JG hr
 have hle:=Et s
 rw [hn] at hle
 by_cases h0:n=0
 ·have e1:xs=[]:=List.eq_nil_of_length_eq_zero (by omega)
  have e2:ys=[]:=List.eq_nil_of_length_eq_zero (by omega)
  subst e1 e2
  rw [if_pos h0,List.append_nil]
  have hx:∀ x∈[Ec 0],okI x∧AT x:=by simpa using Gs
  obtain ⟨r,e,q1,q2,q3⟩:=KM hs hl (by simp) (by simp) hx
  refine ⟨r,r,e,q1,q1,fun h=>?_,fun h=>⟨q3 h,q3 h⟩⟩
  obtain ⟨o,rr,sh⟩:=q2 h
  refine ⟨⟨o,o,rr,rr,rfl,?_⟩,sh,fun q=>absurd h0 q⟩
  have hri:∀ x∈r.items,RI x x:=fun x hx=>⟨A6 o rr hx,A6 o rr hx,rfl,rfl,rfl⟩
  have:=Ni (f:=id) (g:=id) hri
  rwa [List.map_id] at this
 ·rw [if_neg h0,List.nil_append,List.nil_append,GM (xs:=xs) hs hl (by omega) (fun x h=>(p2 x h).1),GM (xs:=ys) hs hl (by omega) (fun x h=>(p3 x h).1),hn]
  have hne:xs≠[]:=by intro q;rw [q,List.length_nil] at hlen;omega
  have hne2:ys≠[]:=by intro q;rw [q,List.length_nil] at p1;omega
  have z0:¬((((n:Int),(0:Int)):Int×Int).2≠0):=fun q=>q rfl
  rw [if_neg z0,if_neg z0,if_neg (show ¬(xs=[]∨¬∀ x∈xs,AT x) from fun q=>q.elim hne fun q=>q fun x h=>(p2 x h).2),if_neg (show ¬(ys=[]∨¬∀ x∈ys,AT x) from fun q=>q.elim hne2 fun q=>q fun x h=>(p3 x h).2),ES hlen h0,ES (by omega) h0]
  have hsim:=Lz (s:=s) hr
  have hcd:cA (.mk s xs)=cA (.mk s ys)∧dA (.mk s xs)=dA (.mk s ys):=⟨by rw [FY,FY,Dr,Dr,p1,p4],by rw [GW,GW,hsim,Dr,Dr,p5]⟩
  have hra:rA (.mk s xs)=true∧rA (.mk s ys)=true:=by
   rw [GX,GX,GQ,GQ,Dr,Dr,hn,Dm.2 fun x h=>(p2 x h).2.1,Dm.2 fun x h=>(p3 x h).2.1]
   simp only [Bool.and_true,decide_true,Bool.true_and,decide_eq_true_eq]
   constructor<;>split<;>omega
  by_cases hR:AD (.mk s xs)
  ·have hR2:AD (.mk s ys):=⟨hra.2,hcd.2▸hR.2.1,hcd.1▸hR.2.2⟩
   rw [if_pos hR,if_pos hR2]
   refine ⟨_,_,_,rfl,rfl,fun _=>⟨⟨?_,?_,hR,hR2,rfl,hr⟩,rfl,fun _=>⟨rfl,rfl⟩⟩,fun q=>absurd rfl q⟩
   ·rw [AM];exact ⟨hs,hl,by show xs.length≤_;omega,fun x h=>(p2 x h).1⟩
   ·rw [AM];exact ⟨hs,hl,by show ys.length≤_;omega,fun x h=>(p3 x h).1⟩
  ·have hR2:¬AD (.mk s ys):=fun q=>hR ⟨hra.1,hcd.2.symm▸q.2.1,hcd.1.symm▸q.2.2⟩
   rw [if_neg hR,if_neg hR2]
   exact ⟨_,_,_,rfl,rfl,fun q=>absurd q (by decide),fun _=>⟨rfl,rfl⟩⟩
theorem NQ {a b:Arr} (h:RA a b) : ∃ x y,Bk a=some x∧Bk b=some y∧RI x y:=by
 obtain ⟨c1,c2,c3⟩:=h.counts
 obtain ⟨oa,ob,ra,rb,hs,hi⟩:=h
 rw [H7 oa ra,H7 ob rb]
 refine ⟨_,_,rfl,rfl,?_⟩
 by_cases hs1:AE a=true
 ·have hs2:AE b=true:=c3▸hs1
  rw [if_pos hs1,if_pos hs2]
  obtain ⟨x,rfl,_⟩:=GG hs1
  obtain ⟨y,rfl,_⟩:=GG hs2
  exact hi.1
 ·have hs2:¬AE b=true:=c3▸hs1
  rw [if_neg hs1,if_neg hs2]
  refine ⟨⟨Kw oa,Ij ra (by simpa using hs1)⟩,⟨Kw ob,Ij rb (by simpa using hs2)⟩,?_,?_,rfl⟩
  ·simp [cI,cBs,c1]
  ·simp [dI,dBs,c2]
theorem Uq {F:Ak} {n i:Nat} (hi:i<n) {x:Itm} {e:Int} (h:F.g ((i:Nat) : Int)=some (x,e)) : (Bl F n)[i]'(by rw [Ba];exact hi)=(x,e):=by
 have:(Bl F n)[i]'(by rw [Ba];exact hi)=(F.g ((i:Nat):Int)).getD default:=by simp [Bl]
 rw [this,h];rfl
theorem Ix : ∀ {rs ts:List (Itm×Int)},rs.map (·.2)=ts.map (·.2)→BL rs=BL ts
 | [],[],_=>rfl
 | [],_::_,h=>by cases h
 | _::_,[],h=>by cases h
 | r::rs,t::ts,h=>by
  rw [List.map_cons,List.map_cons,List.cons.injEq] at h
  rw [BL,BL,h.1,Ix h.2]
theorem PR {s:List Int} {F G:Ak} {n:Nat} (hs64:∀ z∈s,-9223372036854775808≤z∧z≤9223372036854775807) (hsl:s.length≤17592186044416) (hs:szP s=((n:Int),0))
  (hFG:∀ i,i<n→∃ x y e,F.g ((i:Nat):Int)=some (x,e)∧G.g ((i:Nat):Int)=some (y,e)∧(e=0→RI x y)) :
  ∃ r1 r2 e,AJ s F=some (r1,e)∧AJ s G=some (r2,e)∧(e=0→RA r1 r2∧r1.shape=s∧(n≠0→r1.items=(Bl F n).map (·.1)∧r2.items=(Bl G n).map (·.1)∧BL (Bl F n)=0))∧(e≠0→r1=.mk [] []∧r2=.mk [] []):=by
 rw [CV hsl hs (fun i hi=>by obtain ⟨x,y,e,h1,h2,_⟩:=hFG i hi;exact ⟨_,h1⟩),CV hsl hs (fun i hi=>by obtain ⟨x,y,e,h1,h2,_⟩:=hFG i hi;exact ⟨_,h2⟩)]
 have he:BL (Bl F n)=BL (Bl G n):=by
  refine Ix ?_
  unfold Bl
  rw [List.map_map,List.map_map]
  refine List.map_congr_left fun i hi=>?_
  obtain ⟨x,y,e,h1,h2,_⟩:=hFG i (List.mem_range.1 hi)
  simp only [Function.comp,h1,h2];rfl
 by_cases h:BL (Bl F n)=0
 ·rw [if_pos h,if_pos (he.symm.trans h)]
  have hri:RIs ((Bl F n).map (·.1)) ((Bl G n).map (·.1)):=by
   unfold Bl
   rw [List.map_map,List.map_map]
   refine Ni fun i hi=>?_
   have hin:=List.mem_range.1 hi
   obtain ⟨x,y,e,h1,h2,h3⟩:=hFG i hin
   have hm:(Bl F n)[i]'(by rw [Ba];exact hin)=(x,e):=Uq hin h1
   have h0:=DT h _ (List.getElem_mem (by rw [Ba];exact hin))
   rw [hm] at h0
   simp only [Function.comp,h1,h2]
   exact h3 h0
  obtain ⟨r1,r2,e,q1,q2,q3,q4⟩:=TA hs64 hsl hs (by rw [List.length_map,Ba]) hri
  exact ⟨r1,r2,e,q1,q2,fun q=>⟨(q3 q).1,(q3 q).2.1,fun q0=>⟨((q3 q).2.2 q0).1,((q3 q).2.2 q0).2,h⟩⟩,q4⟩
 ·rw [if_neg h,if_neg (fun q=>h (he.trans q)),he]
  exact ⟨_,_,_,rfl,rfl,fun q=>absurd (he.trans q) h,fun _=>⟨rfl,rfl⟩⟩
theorem VZ {rc1 rc2:Ah→Arr→Option (Arr×Int)} {f1 f2:Ah} {h1 h2:Rat→Rat} (g1:RatF f1 h1) (g2:RatF f2 h2) {x:Itm} (hx:okI x∧AT x)
  (hk:∀ b∈x.box,okAr b→AD b→∃ r1 r2 e,rc1 f1 b=some (r1,e)∧rc2 f2 b=some (r2,e)∧(e=0→RA r1 r2∧r1.shape=b.shape)∧(e≠0→r1=.mk [] []∧r2=.mk [] [])) :
  ∃ y z e,GV rc1 f1 x=some (y,e)∧GV rc2 f2 x=some (z,e)∧(e=0→RI y z):=by
 unfold GV
 rcases Fg hx.2.1 with ⟨q,hr,_,_⟩|⟨q,_⟩|⟨q,_,_,b,hb,_⟩
 ·rw [if_pos q,if_pos q]
  obtain ⟨p,hp,e⟩:=Gd.1 hr
  rw [e,(g1 p hp).1,(g2 p hp).1]
  refine ⟨_,_,_,rfl,rfl,fun _=>⟨Jt (E2 (g1 p hp).2),Jt (E2 (g2 p hp).2),?_,?_,rfl⟩⟩
  ·rw [J8,J8];rfl
  ·rw [KE,KE];rfl
 ·rw [if_neg (by rw [q];decide),if_neg (by rw [q];decide),if_neg (by rw [q];decide),if_neg (by rw [q];decide)]
  exact ⟨_,_,_,rfl,rfl,fun q=>absurd q (by decide)⟩
 ·rw [if_neg (by rw [q];decide),if_pos q,if_neg (by rw [q];decide),if_pos q,hb,LS,oB,oB]
  obtain ⟨ob,rb,_⟩:=HM hx.1 hx.2 b (by simp [hb])
  obtain ⟨r1,r2,e,q1,q2,q3,q4⟩:=hk b (by simp [hb]) ob rb
  rw [q1,q2,oB,oB]
  by_cases h0:e=0
  ·obtain ⟨x,y,w1,w2,w3⟩:=NQ (q3 h0).1
   rw [w1,w2]
   exact ⟨_,_,_,rfl,rfl,fun _=>w3⟩
  ·rw [(q4 h0).1,(q4 h0).2,JP]
   exact ⟨_,_,_,rfl,rfl,fun q=>absurd q h0⟩
theorem Qo {f1 f2:Ah} {h1 h2:Rat→Rat} (g1:RatF f1 h1) (g2:RatF f2 h2) : ∀ (k:Nat) {a:Arr},a.size<k→okAr a→AD a →
  ∃ r1 r2 e,AH k f1 a=some (r1,e)∧AH k f2 a=some (r2,e)∧(e=0→RA r1 r2∧r1.shape=a.shape)∧(e≠0→r1=.mk [] []∧r2=.mk [] [])
 | 0,_,h,_,_=>by omega
 | k+1,a,h,oa,ra=>by
  have o:=(AM a).1 oa
  obtain ⟨n,hn,hl⟩:=F7 ra
  rw [AH,AH,DO,DO]
  have:=PR (F:=⟨.fn 93 [] [.ptr [.sl (Is a.shape),.sl (Its a.items)],.ptr [f1.dv]],fun x=>C8 (AH k) x a f1⟩) (G:=⟨.fn 93 [] [.ptr [.sl (Is a.shape),.sl (Its a.items)],.ptr [f2.dv]],fun x=>C8 (AH k) x a f2⟩) o.1 o.2.1 hn fun i hi=>?_
  ·obtain ⟨r1,r2,e,q1,q2,q3,q4⟩:=this
   exact ⟨r1,r2,e,q1,q2,fun q=>⟨(q3 q).1,(q3 q).2.1⟩,q4⟩
  have hi':i<a.items.length:=by rw [hl];split<;>omega
  show ∃ x y e,C8 (AH k) ((i:Nat):Int) a f1=some (x,e)∧C8 (AH k) ((i:Nat):Int) a f2=some (y,e)∧(e=0→RI x y)
  rw [CW (lG hi'),CW (lG hi')]
  exact VZ g1 g2 (A6 oa ra (List.getElem_mem hi')) fun b hb ob rb=>Qo g1 g2 k (by have:=D3 (List.getElem_mem hi') hb;omega) ob rb
end Go.FL
namespace Go.FL
open Go Go.RowKit Go.ChangeShapes Go.WideShapes Go.ChangeAt
section
variable {H:Type}
def OpF (enc:TypeId×Value→H) (P:Program) (W:World) (n:Nat) (t:TypeId) {α:Type} (F:α→List DV) (Q:α→Prop) : Prop :=
 ∀ (fuel:Nat) (cs:List Value) (x:DataW H×List MemPlace),fuel≤n→DataW.trod enc P W 0 (fun _=>true) true fuel t cs=some x→(∀ m∈DataW.weights P t x.1,m≤reachBytes) →
  ∃ a,Q a∧RepAll W (fun b=>b<W.heap.size) (F a) cs∧∀ u∈cs,u.oneCell'=true
variable {enc:TypeId×Value→H} {P:Program} {W:World}
theorem OpF.mono {n m t:Nat} {α:Type} {F:α→List DV} {Q:α→Prop} (h:OpF enc P W n t F Q) (hm:m≤n) : OpF enc P W m t F Q:=fun fuel cs x hf=>h fuel cs x (by omega)
theorem OpF.map {n t:Nat} {α β:Type} {F:α→List DV} {Q:α→Prop} {G:β→List DV} {R:β→Prop} (h:OpF enc P W n t F Q) (f:∀ a,Q a→∃ b,R b∧F a=G b) : OpF enc P W n t G R:=fun fuel cs x hf h1 h2=>by
 obtain ⟨a,q,r,c⟩:=h fuel cs x hf h1 h2
 obtain ⟨b,rb,e⟩:=f a q
 exact ⟨b,rb,e▸r,c⟩
theorem MZ {n t:Nat} {k:IntKind} (ht:P.underlying t=some (.int k)) : OpF enc P W n t (fun z:Int=>[.i k z]) (fun z=>(Lit.int k z).wf=true):=fun fuel cs x _ h _=>by
 obtain ⟨z,rfl,_,hw⟩:=DataW.trod_int ht h
 exact ⟨z,hw,.cons (.i _ _) .nil,by simp [Value.oneCell']⟩
theorem UX {n t:Nat} (ht:P.underlying t=some .bool) : OpF enc P W n t (fun z:Bool=>[.b z]) (fun _=>True):=fun fuel cs x _ h _=>by
 obtain ⟨z,rfl,_⟩:=DataW.trod_bool ht h
 exact ⟨z,trivial,.cons (.b _) .nil,by simp [Value.oneCell']⟩
theorem Ho {e:TypeId} : ∀ {ds:List (DataW H)} {d:DataW H},d∈ds→∀ q∈DataW.weights P e d,q∈DataW.weightsAll P e ds
 | d::ds,d',hd,q,hq=>by
  rw [DataW.weightsAll,List.mem_append]
  rcases List.mem_cons.1 hd with rfl|hd
  ·exact .inl hq
  ·exact .inr (Ho hd q hq)
theorem I5 {n t e sz:Nat} {α:Type} {F:α→List DV} {Q:α→Prop} (D:α→DV) (ht:P.underlying t=some (.slice e)) (hs:P.cellsOf e=sz) (h0:0<sz) (hD:∀ a,(D a).cells=F a) (h:OpF enc P W n e F Q) :
  OpF enc P W (n+1) t (fun xs:List α=>[.sl (xs.map D)]) (fun xs=>(∀ x∈xs,Q x)∧xs.length * P.bytesOf e≤reachBytes):=by
 intro fuel cs x hf hx hw
 rcases DataW.trod_slice ht hx with ⟨rfl,rfl⟩|⟨a,len,cap,elems,rest,m,rfl,rfl,rfl,hb,hl,hm,hlen,hel,_,_⟩
 ·exact ⟨[],⟨by simp,by simp⟩,.cons (.sl0 _ _) .nil,by simp [Value.oneCell']⟩
 ·simp only [DataW.weights,ht] at hw
  have hroom:(elems.length+rest.length) * P.bytesOf e≤reachBytes:=by
   have:=hw ((elems.length+rest.length) * P.bytesOf e) (by simp)
   exact this
  have each:∀ i,i<len→∃ vs y,W.cells? 0 (a.add (i * P.cellsOf e)) (P.cellsOf e)=some vs∧DataW.trod enc P W 0 (fun _=>true) true m e vs=some y∧∀ q∈DataW.weights P e y.1,q≤reachBytes:=by
   intro i hi
   have h1:=hel i hi
   rw [lG (show i<elems.length by omega)] at h1
   obtain ⟨vs,h2,h3⟩:=Option.bind_eq_some_iff.1 h1
   refine ⟨vs,_,h2,h3,fun q hq=>hw q ?_⟩
   simp only [List.mem_cons,List.mem_append]
   exact .inr (.inl (Ho (d:=(elems[i]'(by omega)).1) (List.mem_map_of_mem (List.getElem_mem _)) q hq))
  by_cases hlen0:len=0
  ·subst hlen0
   exact ⟨[],⟨by simp,by simp⟩,.cons (.sl0 _ _) .nil,by simp [Value.oneCell']⟩
  ·obtain ⟨b,off,spot⟩:=a
   have hspot:spot=none:=by
    obtain ⟨vs,y,h1,_,_⟩:=each 0 (by omega)
    obtain ⟨_,k2,k3⟩:=World.cells?_some h1
    have h4:=k3 0 (by omega)
    rw [lG (show 0<vs.length by omega)] at h4
    simpa [Addr.add] using World.cell?_spot h4
   subst hspot
   have build:∀ j,j≤len→∃ (xs:List α) (vs:List Value),xs.length=j∧(∀ x∈xs,Q x)∧Has W b off vs∧RepRows W (fun b=>b<W.heap.size) sz (xs.map D) vs:=by
    intro j
    induction j with
    | zero=>exact fun _=>⟨[],[],rfl,by simp,fun j u hj=>by simp at hj,.nil _⟩
    | succ j ih =>
     intro hj
     obtain ⟨xs,vs,k1,k2,k3,k4⟩:=ih (by omega)
     obtain ⟨us,y,g1,g2,g3⟩:=each j (by omega)
     obtain ⟨_,g4,g5⟩:=World.cells?_some g1
     obtain ⟨x,q1,q2,q3⟩:=h m us y (by omega) g2 g3
     have hvl:=k4.length
     rw [List.length_map,k1] at hvl
     refine ⟨xs++[x],vs++us,by simp [k1],?_,?_,?_⟩
     ·intro z hz
      rcases List.mem_append.1 hz with hz|hz
      ·exact k2 z hz
      ·simp at hz;subst hz;exact q1
     ·intro i u hi
      rw [List.getElem?_append] at hi
      split at hi
      ·exact k3 i u hi
      ·rename_i hge
       have:=g5 (i-vs.length) (by have:=(lS.1 hi).1;omega)
       rw [hi] at this
       rw [← this,hs]
       have e1:off+i=off+j * sz+(i-vs.length):=by omega
       rw [e1,add_plain,add_plain]
     ·rw [List.map_append]
      refine k4.append ?_
      have:=RepRows.cons (sz:=sz) (x:=D x) (xs:=[]) (us:=us) (vs:=[]) (by omega) q3 (by rw [hD];exact q2) (.nil sz)
      simpa using this
   obtain ⟨xs,vs,k1,k2,k3,k4⟩:=build len (Nat.le_refl _)
   have hne:xs≠[]:=fun h=>by subst h;simp at k1;omega
   have hlt:b<W.heap.size:=by
    obtain ⟨us,y,g1,_,_⟩:=each 0 (by omega)
    have:=World.cells?_block g1 (by omega)
    rwa [add_plain] at this
   refine ⟨xs,⟨k2,nT (Nat.mul_le_mul_right _ (by omega)) hroom⟩,.cons ?_ .nil,by simp [Value.oneCell']⟩
   have:=Rep.sl (w:=W) (I:=fun b=>b<W.heap.size) (xs.map D) b off sz cap vs (by simpa using hne) (by rw [List.length_map,k1];exact hl) hlt h0 k3 k4
   rwa [List.length_map,k1] at this
def fTO (P:Program) (t:TypeId) : Option (List (TypeId×Nat)):=match P.underlying t with
 | some (.struct fs)=>some (fs.toList.map fun f=>(f.type,f.offset))
 | _=>none
theorem Lf {t:Nat} {l:List (TypeId×Nat)} (h:fTO P t=some l) : ∃ fs,P.underlying t=some (.struct fs)∧fs.toList.map (fun f=>(f.type,f.offset))=l:=by
 unfold fTO at h
 split at h
 ·rename_i fs hu;exact ⟨fs,hu,oI h⟩
 ·cases h
theorem Qj {α0 α1:Type} {t n:Nat} {T0 s0:Nat} {F0:α0→List DV} {Q0:α0→Prop} {T1 s1:Nat} {F1:α1→List DV} {Q1:α1→Prop} (ht:fTO P t=some [(T0,0),(T1,s0)]) (hc:P.cellsOf t=s0+s1) (z0:P.cellsOf T0=s0) (h0:OpF enc P W n T0 F0 Q0) (z1:P.cellsOf T1=s1) (h1:OpF enc P W n T1 F1 Q1) :
  OpF enc P W (n+1) t (fun a:α0×α1=>F0 a.1++(F1 a.2)) (fun a=>Q0 a.1∧Q1 a.2):=by
 intro fuel cs x hf h hw
 obtain ⟨fs,hu,hfs⟩:=Lf ht
 obtain ⟨xs,m,rfl,rfl,hl,hlen,hfield⟩:=DataW.trod_struct hu h
 have hsz:fs.size=2:=by have:=congrArg List.length hfs;simpa using this
 have hm:m≤n:=by omega
 have each:∀ (i T off:Nat),[(T0,0),(T1,s0)][i]?=some (T,off)→∃ y,DataW.trod enc P W 0 (fun _=>true) true m T ((cs.drop off).take (P.cellsOf T))=some y∧∀ q∈DataW.weights P T y.1,q≤reachBytes:=by
  intro i T off hi
  rw [← hfs] at hi
  obtain ⟨f,hf1,hf2⟩:∃ f,fs[i]?=some f∧(f.type,f.offset)=(T,off):=by
   rw [List.getElem?_map,Option.map_eq_some_iff] at hi
   obtain ⟨f,h1,h2⟩:=hi
   exact ⟨f,by simpa using h1,h2⟩
  cases hf2
  have hi2:i<xs.length:=by have:=(Array.getElem?_eq_some_iff.1 hf1).1;omega
  refine ⟨xs[i],by rw [hfield i f hf1,lG hi2],fun q hq=>hw q ?_⟩
  simp only [DataW.weights,hu]
  exact DataW.weights_mem_each (j:=i) (by simp [hf1]) (by simp [hi2]) q hq
 obtain ⟨y0,e0,w0⟩:=each 0 T0 (0) rfl
 obtain ⟨a0,q0,r0,c0⟩:=h0 m _ y0 hm e0 w0
 rw [z0] at r0 c0
 obtain ⟨y1,e1,w1⟩:=each 1 T1 (s0) rfl
 obtain ⟨a1,q1,r1,c1⟩:=h1 m _ y1 hm e1 w1
 rw [z1] at r1 c1
 have hcs:cs=(cs.drop (0)).take s0++(cs.drop (s0)).take s1:=by
  have hl2:cs.length=s0+s1:=by rw [hl,hc]
  clear each hfield h
  apply List.ext_getElem?
  intro j
  simp only [List.getElem?_append,List.getElem?_take,List.getElem?_drop,List.length_take,List.length_drop]
  repeat' split
  all_goals first|(congr 1;omega)|(rw [List.getElem?_eq_none (by omega)])
 refine ⟨(a0,a1),⟨q0,q1⟩,?_,?_⟩
 ·rw [hcs];exact (r0.append r1)
 ·intro u hu2
  rw [hcs] at hu2
  simp only [List.mem_append] at hu2
  rcases hu2 with hu2|hu2
  ·exact c0 u hu2
  ·exact c1 u hu2
theorem Qa {α0 α1 α2:Type} {t n:Nat} {T0 s0:Nat} {F0:α0→List DV} {Q0:α0→Prop} {T1 s1:Nat} {F1:α1→List DV} {Q1:α1→Prop} {T2 s2:Nat} {F2:α2→List DV} {Q2:α2→Prop} (ht:fTO P t=some [(T0,0),(T1,s0),(T2,s0+s1)]) (hc:P.cellsOf t=s0+s1+s2) (z0:P.cellsOf T0=s0) (h0:OpF enc P W n T0 F0 Q0) (z1:P.cellsOf T1=s1) (h1:OpF enc P W n T1 F1 Q1) (z2:P.cellsOf T2=s2) (h2:OpF enc P W n T2 F2 Q2) :
  OpF enc P W (n+1) t (fun a:α0×α1×α2=>F0 a.1++(F1 a.2.1++(F2 a.2.2))) (fun a=>Q0 a.1∧Q1 a.2.1∧Q2 a.2.2):=by
 intro fuel cs x hf h hw
 obtain ⟨fs,hu,hfs⟩:=Lf ht
 obtain ⟨xs,m,rfl,rfl,hl,hlen,hfield⟩:=DataW.trod_struct hu h
 have hsz:fs.size=3:=by have:=congrArg List.length hfs;simpa using this
 have hm:m≤n:=by omega
 have each:∀ (i T off:Nat),[(T0,0),(T1,s0),(T2,s0+s1)][i]?=some (T,off)→∃ y,DataW.trod enc P W 0 (fun _=>true) true m T ((cs.drop off).take (P.cellsOf T))=some y∧∀ q∈DataW.weights P T y.1,q≤reachBytes:=by
  intro i T off hi
  rw [← hfs] at hi
  obtain ⟨f,hf1,hf2⟩:∃ f,fs[i]?=some f∧(f.type,f.offset)=(T,off):=by
   rw [List.getElem?_map,Option.map_eq_some_iff] at hi
   obtain ⟨f,h1,h2⟩:=hi
   exact ⟨f,by simpa using h1,h2⟩
  cases hf2
  have hi2:i<xs.length:=by have:=(Array.getElem?_eq_some_iff.1 hf1).1;omega
  refine ⟨xs[i],by rw [hfield i f hf1,lG hi2],fun q hq=>hw q ?_⟩
  simp only [DataW.weights,hu]
  exact DataW.weights_mem_each (j:=i) (by simp [hf1]) (by simp [hi2]) q hq
 obtain ⟨y0,e0,w0⟩:=each 0 T0 (0) rfl
 obtain ⟨a0,q0,r0,c0⟩:=h0 m _ y0 hm e0 w0
 rw [z0] at r0 c0
 obtain ⟨y1,e1,w1⟩:=each 1 T1 (s0) rfl
 obtain ⟨a1,q1,r1,c1⟩:=h1 m _ y1 hm e1 w1
 rw [z1] at r1 c1
 obtain ⟨y2,e2,w2⟩:=each 2 T2 (s0+s1) rfl
 obtain ⟨a2,q2,r2,c2⟩:=h2 m _ y2 hm e2 w2
 rw [z2] at r2 c2
 have hcs:cs=(cs.drop (0)).take s0++((cs.drop (s0)).take s1++(cs.drop (s0+s1)).take s2):=by
  have hl2:cs.length=s0+s1+s2:=by rw [hl,hc]
  clear each hfield h
  apply List.ext_getElem?
  intro j
  simp only [List.getElem?_append,List.getElem?_take,List.getElem?_drop,List.length_take,List.length_drop]
  repeat' split
  all_goals first|(congr 1;omega)|(rw [List.getElem?_eq_none (by omega)])
 refine ⟨(a0,a1,a2),⟨q0,q1,q2⟩,?_,?_⟩
 ·rw [hcs];exact (r0.append (r1.append r2))
 ·intro u hu2
  rw [hcs] at hu2
  simp only [List.mem_append] at hu2
  rcases hu2 with hu2|hu2|hu2
  ·exact c0 u hu2
  ·exact c1 u hu2
  ·exact c2 u hu2
theorem PH {α0 α1 α2 α3:Type} {t n:Nat} {T0 s0:Nat} {F0:α0→List DV} {Q0:α0→Prop} {T1 s1:Nat} {F1:α1→List DV} {Q1:α1→Prop} {T2 s2:Nat} {F2:α2→List DV} {Q2:α2→Prop} {T3 s3:Nat} {F3:α3→List DV} {Q3:α3→Prop} (ht:fTO P t=some [(T0,0),(T1,s0),(T2,s0+s1),(T3,s0+s1+s2)]) (hc:P.cellsOf t=s0+s1+s2+s3) (z0:P.cellsOf T0=s0) (h0:OpF enc P W n T0 F0 Q0) (z1:P.cellsOf T1=s1) (h1:OpF enc P W n T1 F1 Q1) (z2:P.cellsOf T2=s2) (h2:OpF enc P W n T2 F2 Q2) (z3:P.cellsOf T3=s3) (h3:OpF enc P W n T3 F3 Q3) :
  OpF enc P W (n+1) t (fun a:α0×α1×α2×α3=>F0 a.1++(F1 a.2.1++(F2 a.2.2.1++(F3 a.2.2.2)))) (fun a=>Q0 a.1∧Q1 a.2.1∧Q2 a.2.2.1∧Q3 a.2.2.2):=by
 intro fuel cs x hf h hw
 obtain ⟨fs,hu,hfs⟩:=Lf ht
 obtain ⟨xs,m,rfl,rfl,hl,hlen,hfield⟩:=DataW.trod_struct hu h
 have hsz:fs.size=4:=by have:=congrArg List.length hfs;simpa using this
 have hm:m≤n:=by omega
 have each:∀ (i T off:Nat),[(T0,0),(T1,s0),(T2,s0+s1),(T3,s0+s1+s2)][i]?=some (T,off)→∃ y,DataW.trod enc P W 0 (fun _=>true) true m T ((cs.drop off).take (P.cellsOf T))=some y∧∀ q∈DataW.weights P T y.1,q≤reachBytes:=by
  intro i T off hi
  rw [← hfs] at hi
  obtain ⟨f,hf1,hf2⟩:∃ f,fs[i]?=some f∧(f.type,f.offset)=(T,off):=by
   rw [List.getElem?_map,Option.map_eq_some_iff] at hi
   obtain ⟨f,h1,h2⟩:=hi
   exact ⟨f,by simpa using h1,h2⟩
  cases hf2
  have hi2:i<xs.length:=by have:=(Array.getElem?_eq_some_iff.1 hf1).1;omega
  refine ⟨xs[i],by rw [hfield i f hf1,lG hi2],fun q hq=>hw q ?_⟩
  simp only [DataW.weights,hu]
  exact DataW.weights_mem_each (j:=i) (by simp [hf1]) (by simp [hi2]) q hq
 obtain ⟨y0,e0,w0⟩:=each 0 T0 (0) rfl
 obtain ⟨a0,q0,r0,c0⟩:=h0 m _ y0 hm e0 w0
 rw [z0] at r0 c0
 obtain ⟨y1,e1,w1⟩:=each 1 T1 (s0) rfl
 obtain ⟨a1,q1,r1,c1⟩:=h1 m _ y1 hm e1 w1
 rw [z1] at r1 c1
 obtain ⟨y2,e2,w2⟩:=each 2 T2 (s0+s1) rfl
 obtain ⟨a2,q2,r2,c2⟩:=h2 m _ y2 hm e2 w2
 rw [z2] at r2 c2
 obtain ⟨y3,e3,w3⟩:=each 3 T3 (s0+s1+s2) rfl
 obtain ⟨a3,q3,r3,c3⟩:=h3 m _ y3 hm e3 w3
 rw [z3] at r3 c3
 have hcs:cs=(cs.drop (0)).take s0++((cs.drop (s0)).take s1++((cs.drop (s0+s1)).take s2++(cs.drop (s0+s1+s2)).take s3)):=by
  have hl2:cs.length=s0+s1+s2+s3:=by rw [hl,hc]
  clear each hfield h
  apply List.ext_getElem?
  intro j
  simp only [List.getElem?_append,List.getElem?_take,List.getElem?_drop,List.length_take,List.length_drop]
  repeat' split
  all_goals first|(congr 1;omega)|(rw [List.getElem?_eq_none (by omega)])
 refine ⟨(a0,a1,a2,a3),⟨q0,q1,q2,q3⟩,?_,?_⟩
 ·rw [hcs];exact (r0.append (r1.append (r2.append r3)))
 ·intro u hu2
  rw [hcs] at hu2
  simp only [List.mem_append] at hu2
  rcases hu2 with hu2|hu2|hu2|hu2
  ·exact c0 u hu2
  ·exact c1 u hu2
  ·exact c2 u hu2
  ·exact c3 u hu2
theorem Ul {t:TypeId} {v:Value} {d:DataW H} {ps:List MemPlace} {α:Type} {F:α→List DV} {Q:α→Prop} (h:∀ n,OpF enc P W n t F Q) (hv:∃ cs,v=.agg cs)
  (hd:DataW.Trod enc P W 0 (fun _=>true) true t v d ps) (hw:∀ m∈DataW.weights P t d,m≤reachBytes):∃ a,Q a∧Rep W (fun b=>b<W.heap.size) (.ag (F a)) v:=by
 obtain ⟨cs,rfl⟩:=hv
 obtain ⟨fuel,hf⟩:=hd
 obtain ⟨a,q,r,_⟩:=h fuel fuel _ _ (Nat.le_refl _) hf hw
 have:=Rep.ag _ _ r
 exact ⟨a,q,by simpa [Value.cells] using this⟩
end
end Go.FL
namespace Go.FL
open Go Go.Proofs
def I3s (xs:List Int) : List DV:=xs.map (.i .i32)
theorem VJ {xs:List Int} {i:Nat} {x:Int} (h:xs[i]?=some x) : (I3s xs)[i]?=some (.i .i32 x):=by simp [I3s,h]
theorem TI (xs:List Int) : ∀ d∈I3s xs,d.flat=true∧d.cells.length=1:=fun x hx=>by
 simp only [I3s,List.mem_map] at hx
 obtain ⟨n,_,rfl⟩:=hx
 exact ⟨by simp [DV.flat,DV.cells,DV.leaf],rfl⟩
theorem VP : Cq Tryz.prog 26=some (21,1,4):=by kernel_rfl
theorem VF : Cm Tryz.prog 26=some (21,1,4,.int .i32 0):=by kernel_rfl
section
variable {H:Type} {enc:TypeId×Value→H} {W:World}
theorem Ru {n:Nat} : OpF enc Tryz.prog W (n+1) 30 (fun a:List Nat=>[.sl (L a)]) (fun a=>okL 35184372087808 a=true):=by
 refine (I5 (α:=Int) (F:=fun z=>[.i .u32 z]) (sz:=1) (fun z=>.i .u32 z) (by kernel_rfl:Tryz.prog.underlying 30=some (.slice 121)) (by kernel_rfl) (by decide) (fun _=>rfl) (MZ (by kernel_rfl))).map fun zs hz=>?_
 obtain ⟨a,h1,h2⟩:=Of zs hz.1
 refine ⟨a,CL.2 ⟨h1,?_⟩,by rw [← h2]⟩
 have h3:=hz.2
 rw [show Tryz.prog.bytesOf 121=4 by kernel_rfl,show reachBytes=140737488351232 by decide] at h3
 have:=congrArg List.length h2
 rw [List.length_map,Ab] at this
 omega
theorem NJ (n:Nat) : OpF enc Tryz.prog W n 30 (fun a:List Nat=>[.sl (L a)]) (fun a=>okL 35184372087808 a=true):=Ru.mono (Nat.le_succ n)
theorem V7 (n:Nat) : OpF enc Tryz.prog W n 32 (fun r:RT=>[.b r.1,.sl (L r.2.1),.sl (L r.2.2)]) (fun r=>G4 r=true):=by
 refine OpF.mono (n:=n+1) ((Qa (t:=32) (T0:=4) (T1:=30) (T2:=30) (s0:=1) (s1:=1) (s2:=1) (by kernel_rfl) (by kernel_rfl) (by kernel_rfl) (UX (by kernel_rfl)) (by kernel_rfl) (NJ n) (by kernel_rfl) (NJ n)).map fun r hr=>?_) (Nat.le_succ n)
 exact ⟨r,by rw [G4,hr.2.1,hr.2.2];rfl,rfl⟩
end
section
variable {H:Type} {enc:TypeId×Value→H} {W:World}
theorem SC {n:Nat} : OpF enc Tryz.prog W (n+1) 22 (fun l:List Int=>[.sl (Is l)]) (fun l=>(∀ z∈l,-9223372036854775808≤z∧z≤9223372036854775807)∧l.length≤17592186044416):=by
 refine (I5 (α:=Int) (F:=fun z=>[.i .i64 z]) (sz:=1) (fun z=>.i .i64 z) (by kernel_rfl:Tryz.prog.underlying 22=some (.slice 3)) (by kernel_rfl) (by decide) (fun _=>rfl) (MZ (by kernel_rfl))).map fun zs hz=>?_
 refine ⟨zs,⟨fun z h=>?_,?_⟩,rfl⟩
 ·have:=hz.1 z h
  simp [Lit.wf,IntKind.min,IntKind.max,IntKind.signed,IntKind.bits] at this
  omega
 ·have h3:=hz.2
  rw [show Tryz.prog.bytesOf 3=8 by kernel_rfl,show reachBytes=140737488351232 by decide] at h3
  omega
theorem UE (n:Nat) : OpF enc Tryz.prog W n 22 (fun l:List Int=>[.sl (Is l)]) (fun l=>(∀ z∈l,-9223372036854775808≤z∧z≤9223372036854775807)∧l.length≤17592186044416):=SC.mono (Nat.le_succ n)
def cI6 (x:Itm) : List DV:=[.i .u8 x.kind,.b x.num.1,.sl (L x.num.2.1),.sl (L x.num.2.2),.i .i32 x.char,.sl (Ars x.box)]
def cA2 (a:Arr) : List DV:=[.sl (Is a.shape),.sl (Its a.items)]
theorem Sr {n:Nat} (h:OpF enc Tryz.prog W n 25 cA2 okAr) : OpF enc Tryz.prog W (n+1) 81 (fun l:List Arr=>[.sl (Ars l)]) (fun l=>l.length≤2932031007402∧∀ a∈l,okAr a):=by
 refine (I5 (α:=Arr) (F:=cA2) (sz:=2) Arr.dv (by kernel_rfl:Tryz.prog.underlying 81=some (.slice 25)) (by kernel_rfl) (by decide) (fun a=>by rw [Arr.dv_eq];rfl) h).map fun zs hz=>?_
 refine ⟨zs,⟨?_,hz.1⟩,by rw [Gt]⟩
 have h3:=hz.2
 rw [show Tryz.prog.bytesOf 25=48 by kernel_rfl,show reachBytes=140737488351232 by decide] at h3
 omega
theorem RG {n:Nat} (h:OpF enc Tryz.prog W n 83 cI6 okI) : OpF enc Tryz.prog W (n+1) 23 (fun l:List Itm=>[.sl (Its l)]) (fun l=>l.length≤1466015503701∧∀ x∈l,okI x):=by
 refine (I5 (α:=Itm) (F:=cI6) (sz:=6) Itm.dv (by kernel_rfl:Tryz.prog.underlying 23=some (.slice 83)) (by kernel_rfl) (by decide) (fun a=>by rw [Itm.dv_eq];rfl) h).map fun zs hz=>?_
 refine ⟨zs,⟨?_,hz.1⟩,by rw [Fu]⟩
 have h3:=hz.2
 rw [show Tryz.prog.bytesOf 83=96 by kernel_rfl,show reachBytes=140737488351232 by decide] at h3
 omega
theorem QY : ∀ n,OpF enc Tryz.prog W n 83 cI6 okI∧OpF enc Tryz.prog W n 25 cA2 okAr
 | 0=>by
  constructor <;>
  ·intro fuel cs x hf h _
   obtain rfl:fuel=0:=by omega
   simp [DataW.trod] at h
 | n+1=>by
  obtain ⟨hI,hA⟩:=QY n
  constructor
  ·refine OpF.mono (n:=n+1+1) ((PH (t:=83) (T0:=80) (T1:=32) (T2:=21) (T3:=81) (s0:=1) (s1:=3) (s2:=1) (s3:=1) (by kernel_rfl) (by kernel_rfl) (by kernel_rfl) (MZ (by kernel_rfl:Tryz.prog.underlying 80=some (.int .u8))) (by kernel_rfl) (V7 (n+1)) (by kernel_rfl) (MZ (by kernel_rfl:Tryz.prog.underlying 21=some (.int .i32))) (by kernel_rfl) (Sr hA)).map fun r hr=>?_) (Nat.le_succ _)
   obtain ⟨k,q,c,b⟩:=r
   obtain ⟨h1,h2,h3,h4⟩:=hr
   refine ⟨.mk k q c b,?_,rfl⟩
   rw [DA]
   refine ⟨?_,h2,?_,h4⟩
   ·simp [Lit.wf,IntKind.min,IntKind.max,IntKind.signed,IntKind.bits] at h1
    show 0≤k∧k<256
    omega
   ·simp [Lit.wf,IntKind.min,IntKind.max,IntKind.signed,IntKind.bits] at h3
    show -2147483648≤c∧c<2147483648
    omega
  ·refine OpF.mono (n:=n+1+1) ((Qj (t:=25) (T0:=22) (T1:=23) (s0:=1) (s1:=1) (by kernel_rfl) (by kernel_rfl) (by kernel_rfl) (UE (n+1)) (by kernel_rfl) (RG hI)).map fun r hr=>?_) (Nat.le_succ _)
   obtain ⟨s,i⟩:=r
   obtain ⟨⟨h1,h2⟩,h3,h4⟩:=hr
   refine ⟨.mk s i,?_,rfl⟩
   rw [AM]
   exact ⟨h1,h2,h3,h4⟩
theorem Wr (n:Nat) : OpF enc Tryz.prog W n 25 (fun a:Arr=>[.sl (Is a.shape),.sl (Its a.items)]) okAr:=(QY n).2
end
end Go.FL
