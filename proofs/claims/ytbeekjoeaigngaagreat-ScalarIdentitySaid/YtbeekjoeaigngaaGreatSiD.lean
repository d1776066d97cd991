/-
  Part 4 of the base of the proofs: a logic of our own over the calculus, the contracts of the functions
-/
import Derived.Test.YtbeekjoeaigngaaGreatSiC
set_option linter.unusedVariables false
namespace Go.FL
open Go Go.Proofs
def okL (k : Nat) (a : List Nat) : Bool:=a.all (fun x=>decide (x<4294967296)) && decide (a.length≤k)
theorem Ci {k : Nat} {a : List Nat} : okL k a=true↔Ok a∧a.length≤k:=by simp [okL,Ok]
theorem SR {k : Nat} {ls : List (List Nat)} (h : ls.all (okL k)=true) : (∀ a ∈ ls,Ok a)∧∀ a ∈ ls,a.length≤k :=
 ⟨fun a ha=>(Ci.1 (List.all_eq_true.1 h a ha)).1,fun a ha=>(Ci.1 (List.all_eq_true.1 h a ha)).2⟩
def GH (r : RT) : Bool:=okL 35184372087808 r.2.1 && okL 35184372087808 r.2.2
theorem Hh {r : RT} : GH r=true↔okR r:=by
 simp only [GH,Bool.and_eq_true,Ci,okR]
 exact ⟨fun ⟨⟨a,b⟩,c,d⟩=>⟨a,c,b,d⟩,fun ⟨a,c,b,d⟩=>⟨⟨a,b⟩,c,d⟩⟩
theorem MF {rs : List RT} (h : rs.all GH=true) : ∀ r ∈ rs,okR r:=fun r hr=>Hh.1 (List.all_eq_true.1 h r hr)
abbrev qR (q : Q3) : RT:=(q.1,Ac q.2.1,Ac q.2.2)
def NJ : QE→RT × Int
 | .error e=>((false,[],[]),e)
 | .ok q=>(qR q,0)
theorem RX (x : QE) : (M8 x).map AV.d=[AV.d (.ag [.b (NJ x).1.1,.sl (L (NJ x).1.2.1),.sl (L (NJ x).1.2.2)]),.d (.i .i64 (NJ x).2)]:=by cases x <;> rfl
abbrev WC (n : (List Nat × List Nat) × Bool) : Q3:=(n.2,val n.1.1,val n.1.2)
abbrev qN (q : Q3) : (List Nat × List Nat) × Bool:=((Ac q.2.1,Ac q.2.2),q.1)
def Nh (ls : List (List Nat)) : Option (List Nat):=if (ls.all (okL 40000) && decide (ls.length≤10))=true then some (Ac (EO ls 1)) else none
theorem LX {ls : List (List Nat)} {r : List Nat} (h : Nh ls=some r) : Fn Tryz.prog 166 [.sl (LL ls)] (.d (.sl (L r))):=by
 obtain ⟨hc,h⟩:=Df h
 cases h
 rw [Bool.and_eq_true,decide_eq_true_eq] at hc
 obtain ⟨h1,h2⟩:=SR hc.1
 exact IU h1 h2 hc.2 (by decide)
def UA (ls : List (List Nat)) : Option (List Nat):=if (ls.all (okL 100000) && decide (ls.length≤1000))=true then some (Ac (ls.map val).sum) else none
theorem MA {ls : List (List Nat)} {r : List Nat} (h : UA ls=some r) : Fn Tryz.prog 165 [.sl (LL ls)] (.d (.sl (L r))):=by
 obtain ⟨hc,h⟩:=Df h
 cases h
 rw [Bool.and_eq_true,decide_eq_true_eq] at hc
 obtain ⟨h1,h2⟩:=SR hc.1
 exact U2 h1 h2 hc.2 (by decide)
def Sd (a : List Nat) (b : List Nat) : Option (List Nat × Bool):=if (okL 500000 a && okL 500000 b)=true then some ((Ac (Pd (val a) (val b)),decide (val b≤val a))) else none
theorem N7 {a : List Nat} {b : List Nat} {r : List Nat × Bool} (h : Sd a b=some r) : Fn Tryz.prog 209 [.sl (L a),.sl (L b)] (.tup [.d (.sl (L r.1)),.d (.b r.2)]):=by
 obtain ⟨hc,h⟩:=Df h
 cases h
 rw [Bool.and_eq_true] at hc
 obtain ⟨⟨h1,h2⟩,h3,h4⟩:=And.intro (Ci.1 hc.1) (Ci.1 hc.2)
 exact Ni h1 h3 (by omega) (by omega)
def Pz (a : List Nat) (b : List Nat) : Option (List Nat × List Nat × Bool):=if (okL 500000 a && okL 500000 b)=true then some ((Ac (val a / val b),Ac (Po (val a) (val b)),decide (val b ≠ 0))) else none
theorem M7 {a : List Nat} {b : List Nat} {r : List Nat × List Nat × Bool} (h : Pz a b=some r) : Fn Tryz.prog 199 [.sl (L a),.sl (L b)] (.tup [.d (.sl (L r.1)),.d (.sl (L r.2.1)),.d (.b r.2.2)]):=by
 obtain ⟨hc,h⟩:=Df h
 cases h
 rw [Bool.and_eq_true] at hc
 obtain ⟨⟨h1,h2⟩,h3,h4⟩:=And.intro (Ci.1 hc.1) (Ci.1 hc.2)
 exact I4 h1 h3 (by omega) (by omega)
def Eg (a : List Nat) (b : List Nat) : Option (Int):=if (okL 35184372087808 a && okL 35184372087808 b)=true then some (FC (val a) (val b)) else none
theorem CV {a : List Nat} {b : List Nat} {r : Int} (h : Eg a b=some r) : Fn Tryz.prog 164 [.sl (L a),.sl (L b)] (.d (.i .i64 r)):=by
 obtain ⟨hc,h⟩:=Df h
 cases h
 rw [Bool.and_eq_true] at hc
 obtain ⟨⟨h1,h2⟩,h3,h4⟩:=And.intro (Ci.1 hc.1) (Ci.1 hc.2)
 exact NB h1 h3 (by omega) (by omega)
def UM (a : List Nat) : Option (Int × Bool):=if okL 1048576 a=true then some (((O0 a : Nat),decide (Br (val a)≤63))) else none
theorem TS {a : List Nat} {r : Int × Bool} (h : UM a=some r) : Fn Tryz.prog 207 [.sl (L a)] (.tup [.d (.i .i64 r.1),.d (.b r.2)]):=by
 obtain ⟨hc,h⟩:=Df h
 cases h
 obtain ⟨h1,h2⟩:=Ci.1 hc
 exact VS h1 (by omega)
def RB (a : List Nat) (n : Int) (m : Int) : Option (List Nat × Bool):=if (okL 1000 a && decide (n<9223372036854775808∧0≤m∧m≤1000))=true then some (if n<0 then ([],false) else (Ac (pwV (val a) n.toNat m.toNat),decide (Pi (val a) n.toNat m.toNat))) else none
theorem Oa {a : List Nat} {n : Int} {m : Int} {r : List Nat × Bool} (h : RB a n m=some r) : Fn Tryz.prog 208 [.sl (L a),.i .i64 n,.i .i64 m] (.tup [.d (.sl (L r.1)),.d (.b r.2)]):=by
 obtain ⟨hc,h⟩:=Df h
 cases h
 rw [Bool.and_eq_true,decide_eq_true_eq] at hc
 obtain ⟨h1,h2⟩:=Ci.1 hc.1
 by_cases hn:n<0
 ·rw [if_pos hn];exact Qm h1 (by omega) hn
 rw [if_neg hn]
 have:=VA h1 (by omega) (n:=n.toNat) (most:=m.toNat) (by omega) (by omega)
 rw [Int.toNat_of_nonneg (by omega),Int.toNat_of_nonneg (by omega)] at this
 exact this
def D9 : Option (List Nat):=if True then some ([1]) else none
theorem B1 {r : List Nat} (h : D9=some r) : Fn Tryz.prog 121 [] (.own 121 (L r)):=by
 obtain ⟨hc,h⟩:=Df h
 cases h
 exact Nl
def FO (a : RT) : Option ((List Nat × List Nat) × Bool):=if True then some (((a.2.1,a.2.2),a.1)) else none
theorem CI {a : RT} {r : (List Nat × List Nat) × Bool} (h : FO a=some r) : Fn Tryz.prog 168 [.ag [.b a.1,.sl (L a.2.1),.sl (L a.2.2)]] (.d (.ag [.sl (L r.1.1),.sl (L r.1.2),.b r.2])):=by
 obtain ⟨hc,h⟩:=Df h
 cases h
 exact Wl _ _ _
def Hg (a : (List Nat × List Nat) × Bool) : Option (RT × Int):=if (okL 100000 a.1.1 && okL 100000 a.1.2)=true then some (NJ (NU a.2 (val a.1.1) (val a.1.2))) else none
theorem FY {a : (List Nat × List Nat) × Bool} {r : RT × Int} (h : Hg a=some r) : Fn Tryz.prog 170 [.ag [.sl (L a.1.1),.sl (L a.1.2),.b a.2]] (.tup [.d (.ag [.b r.1.1,.sl (L r.1.2.1),.sl (L r.1.2.2)]),.d (.i .i64 r.2)]):=by
 obtain ⟨hc,h⟩:=Df h
 cases h
 rw [Bool.and_eq_true] at hc
 obtain ⟨⟨h1,h2⟩,h3,h4⟩:=And.intro (Ci.1 hc.1) (Ci.1 hc.2)
 have:=N2 (b:=a.2) h1 h3 h2 h4 (by decide)
 rw [Rh,RX] at this
 exact this
def PJ (a : (List Nat × List Nat) × Bool) : Option ((List Nat × List Nat) × Bool):=if True then some ((a.1,!a.2)) else none
theorem MD {a : (List Nat × List Nat) × Bool} {r : (List Nat × List Nat) × Bool} (h : PJ a=some r) : Fn Tryz.prog 205 [.ag [.sl (L a.1.1),.sl (L a.1.2),.b a.2]] (.d (.ag [.sl (L r.1.1),.sl (L r.1.2),.b r.2])):=by
 obtain ⟨hc,h⟩:=Df h
 cases h
 exact Xi _ _ _
def PK (a : (List Nat × List Nat) × Bool) (b : (List Nat × List Nat) × Bool) : Option ((List Nat × List Nat) × Bool):=if (okL 4000 a.1.1 && okL 4000 a.1.2 && (okL 4000 b.1.1 && okL 4000 b.1.2))=true then some (qN (Hd (WC a) (WC b))) else none
theorem Nm {a : (List Nat × List Nat) × Bool} {b : (List Nat × List Nat) × Bool} {r : (List Nat × List Nat) × Bool} (h : PK a b=some r) : Fn Tryz.prog 204 [.ag [.sl (L a.1.1),.sl (L a.1.2),.b a.2],.ag [.sl (L b.1.1),.sl (L b.1.2),.b b.2]] (.d (.ag [.sl (L r.1.1),.sl (L r.1.2),.b r.2])):=by
 obtain ⟨hc,h⟩:=Df h
 cases h
 simp only [Bool.and_eq_true,Ci] at hc
 obtain ⟨⟨⟨h1,h2⟩,h3,h4⟩,⟨h5,h6⟩,h7,h8⟩:=hc
 exact SM h1 h3 h5 h7 h2 h4 h6 h8
def Kp (a : (List Nat × List Nat) × Bool) (b : (List Nat × List Nat) × Bool) : Option ((List Nat × List Nat) × Bool):=if (okL 4000 a.1.1 && okL 4000 a.1.2 && (okL 4000 b.1.1 && okL 4000 b.1.2))=true then some (qN (KV (WC a) (WC b))) else none
theorem Iv {a : (List Nat × List Nat) × Bool} {b : (List Nat × List Nat) × Bool} {r : (List Nat × List Nat) × Bool} (h : Kp a b=some r) : Fn Tryz.prog 169 [.ag [.sl (L a.1.1),.sl (L a.1.2),.b a.2],.ag [.sl (L b.1.1),.sl (L b.1.2),.b b.2]] (.d (.ag [.sl (L r.1.1),.sl (L r.1.2),.b r.2])):=by
 obtain ⟨hc,h⟩:=Df h
 cases h
 simp only [Bool.and_eq_true,Ci] at hc
 obtain ⟨⟨⟨h1,h2⟩,h3,h4⟩,⟨h5,h6⟩,h7,h8⟩:=hc
 exact Qr h1 h3 h5 h7 h2 h4 h6 h8
def De (a : List Nat × List Nat) (b : List Nat × List Nat) : Option (List Nat):=if (okL 4000 a.1 && okL 4000 b.2)=true then some (Ac (val a.1 * val b.2)) else none
theorem BU {a : List Nat × List Nat} {b : List Nat × List Nat} {r : List Nat} (h : De a b=some r) : Fn Tryz.prog 239 [.ag [.sl (L a.1),.sl (L a.2)],.ag [.sl (L b.1),.sl (L b.2)]] (.d (.sl (L r))):=by
 obtain ⟨hc,h⟩:=Df h
 cases h
 simp only [Bool.and_eq_true,Ci] at hc
 exact MU hc.1.1 hc.2.1 hc.1.2 hc.2.2
def J3 (a : List Nat) (b : List Nat) : Option (Bool):=if (okL 1048576 a && okL 35184372087808 b)=true then some (decide (a=b)) else none
theorem HV {a : List Nat} {b : List Nat} {r : Bool} (h : J3 a b=some r) : Fn Tryz.prog 112 [.sl (L a),.sl (L b)] (.d (.b r)):=by
 obtain ⟨hc,h⟩:=Df h
 cases h
 simp only [Bool.and_eq_true,Ci] at hc
 exact QH a b hc.1.2 hc.1.1 hc.2.1
def F5 (a : List Nat) : Option (List Nat):=if a.length≤35184372087808 then some (a) else none
theorem E8 {a : List Nat} {r : List Nat} (h : F5 a=some r) : Fn Tryz.prog 215 [.sl (L a)] (.own 121 (L r)):=by
 obtain ⟨hc,h⟩:=Df h
 cases h
 exact M4 _ hc
def DT (a : RT) : Option (Bool):=if GH a=true then some (A8 a) else none
theorem DG {a : RT} {r : Bool} (h : DT a=some r) : Fn Tryz.prog 45 [.ag [.b a.1,.sl (L a.2.1),.sl (L a.2.2)]] (.d (.b r)):=by
 obtain ⟨hc,h⟩:=Df h
 cases h
 obtain ⟨h1,h2,h3,h4⟩:=Hh.1 hc
 exact Og h1 h2 h3 h4
def Ji (a : RT) : Option (Bool):=if GH a=true then some (A8 a) else none
theorem OZ {a : RT} {r : Bool} (h : Ji a=some r) : Fn Tryz.prog 19 [.ag [.b a.1,.sl (L a.2.1),.sl (L a.2.2)]] (.d (.b r)):=by
 obtain ⟨hc,h⟩:=Df h
 cases h
 obtain ⟨h1,h2,h3,h4⟩:=Hh.1 hc
 exact Vx h1 h2 h3 h4
def Dm (rs : List RT) : Option (Bool):=if (rs.all GH && decide (rs.length≤1048576))=true then some (rs.all A8) else none
theorem CK {rs : List RT} {r : Bool} (h : Dm rs=some r) : Fn Tryz.prog 167 [.sl (RVs rs)] (.d (.b r)):=by
 obtain ⟨hc,h⟩:=Df h
 cases h
 rw [Bool.and_eq_true,decide_eq_true_eq] at hc
 exact Ro (MF hc.1) hc.2
def ME (a : RT) (b : RT) : Option (Bool):=if (decide (a.2.1.length≤35184372087808) && decide (a.2.2.length≤35184372087808))=true then some (decide (a=b)) else none
theorem Ql {a : RT} {b : RT} {r : Bool} (h : ME a b=some r) : Fn Tryz.prog 23 [.ag [.b a.1,.sl (L a.2.1),.sl (L a.2.2)],.ag [.b b.1,.sl (L b.2.1),.sl (L b.2.2)]] (.d (.b r)):=by
 obtain ⟨hc,h⟩:=Df h
 cases h
 simp only [Bool.and_eq_true,decide_eq_true_eq] at hc
 have:=Sl a.1 b.1 a.2.1 a.2.2 b.2.1 b.2.2 hc.1 hc.2
 rw [decide_eq_decide.2 (show (a.1=b.1∧a.2.1=b.2.1∧a.2.2=b.2.2)↔a=b by
  obtain ⟨a1,a2,a3⟩:=a;obtain ⟨b1,b2,b3⟩:=b;simp)] at this
 exact this
def BR (z : Int) : Option (RT):=if -9223372036854775808≤z∧z≤9223372036854775807 then some ((decide (z<0),Ac z.natAbs,[1])) else none
theorem Bx {z : Int} {r : RT} (h : BR z=some r) : Fn Tryz.prog 72 [.i .i64 z] (.d (.ag [.b r.1,.sl (L r.2.1),.sl (L r.2.2)])):=by
 obtain ⟨hc,h⟩:=Df h
 cases h
 exact Q5 hc.1 hc.2
def P3 : Option (RT):=if True then some ((false,[],[1])) else none
theorem QX {r : RT} (h : P3=some r) : Fn Tryz.prog 33 [] (.d (.ag [.b r.1,.sl (L r.2.1),.sl (L r.2.2)])):=by
 obtain ⟨hc,h⟩:=Df h
 cases h
 exact Sv
def LD (rs : List RT) : Option (RT × Int):=if (rs.all GH && decide (rs.length≤1048576))=true then some (NJ (T8 rs)) else none
theorem OW {rs : List RT} {r : RT × Int} (h : LD rs=some r) : Fn Tryz.prog 133 [.sl (RVs rs)] (.tup [.d (.ag [.b r.1.1,.sl (L r.1.2.1),.sl (L r.1.2.2)]),.d (.i .i64 r.2)]):=by
 obtain ⟨hc,h⟩:=Df h
 cases h
 rw [Bool.and_eq_true,decide_eq_true_eq] at hc
 have:=WG (MF hc.1) hc.2
 rw [RX] at this
 exact this
def JA (rs : List RT) : Option (RT × Int):=if (rs.all GH && decide (rs.length≤1048576))=true then some (NJ (Tv rs)) else none
theorem KZ {rs : List RT} {r : RT × Int} (h : JA rs=some r) : Fn Tryz.prog 135 [.sl (RVs rs)] (.tup [.d (.ag [.b r.1.1,.sl (L r.1.2.1),.sl (L r.1.2.2)]),.d (.i .i64 r.2)]):=by
 obtain ⟨hc,h⟩:=Df h
 cases h
 rw [Bool.and_eq_true,decide_eq_true_eq] at hc
 have:=WE (MF hc.1) hc.2
 rw [RX] at this
 exact this
def HG (a0 : RT) (a1 : RT) : Option (RT × Int):=((Dm ([a0,a1])).bind fun x1=>(if x1=true then ((FO a0).bind fun x2=>((FO a1).bind fun x3=>((PJ x3).bind fun x4=>((PK x2 x4).bind fun x5=>((Hg x5).bind fun x6=>(some (x6.1,x6.2))))))) else (some ((false,[],[]),22))))
theorem Gm {a0 : RT} {a1 : RT} {r : RT × Int} (h : HG a0 a1=some r) :
  Fn Tryz.prog 136 [.ag [.b a0.1,.sl (L a0.2.1),.sl (L a0.2.2)],.ag [.b a1.1,.sl (L a1.2.1),.sl (L a1.2.2)]] (.tup [.d (.ag [.b r.1.1,.sl (L r.1.2.1),.sl (L r.1.2.2)]),.d (.i .i64 r.2)]):=by
 unfold HG at h
 refine Fn.ofC (rs:=[.cell 4 32,.tmp 5]) (nt:=21) Tryz.func136 rfl rfl rfl (by simp) rfl ?_;refine .sr ?_;refine vk (vbx) ?_;refine vk (vbx) ?_;refine vk (van (Ag BH) BL) ?_;refine ar [2,3,4,5] ?_;refine .seq ?_;refine .sr ?_;refine vk (Ao Au Al) ?_;refine vk (Ao Au Al) ?_;refine vk ((E2 (Dx [a0,a1]) FK).deep) ?_
 obtain ⟨x1,hx1,h⟩:=bnd h
 refine vk (Af (CK hx1) Tryz.call167) ?_;refine vk (vnt) ?_;refine rk [2,3,4,5,10] ?_
 by_cases hc:x1=true
 ·replace h:=Ad hc h
  refine cnf (ntf hc) ?_;refine .skip ?_
  show AW _ _ _ _ _ _
  refine .seq ?_;refine .drawn 9 A9 (by kernel_rfl) ?_;refine dv (Ao Au Al) ?_
  obtain ⟨x2,hx2,h⟩:=bnd h
  refine dv (Af (CI hx2) Tryz.call168) ?_;refine dv (Ao Au Al) ?_
  obtain ⟨x3,hx3,h⟩:=bnd h
  refine dv (Af (CI hx3) Tryz.call168) ?_
  obtain ⟨x4,hx4,h⟩:=bnd h
  refine dv (Af (MD hx4) Tryz.call205) ?_
  obtain ⟨x5,hx5,h⟩:=bnd h
  refine dv (Af (Nm hx5) Tryz.call204) ?_
  obtain ⟨x6,hx6,h⟩:=bnd h
  refine dv (VOK.tupd (vs:=[.ag [.b x6.1.1,.sl (L x6.1.2.1),.sl (L x6.1.2.2)],.i .i64 x6.2]) (Af (FY hx6) Tryz.call170)) ?_;refine dv (vex) ?_;refine dv (vex) ?_;refine dz ?_
  refine stn ?_ Al (by decide)
  refine ar [4,5] ?_;refine .ret ?_
  cases h
  exact ⟨_,_,⟨.inr rfl,Au,Al,(by decide:(0:Nat)<3)⟩,rfl,rfl⟩
 replace h:=Ae hc h
 refine cnt (ntt (bf hc)) ?_;refine .sr ?_;refine vk (vbd Ea BH BL) ?_
 refine stn ?_ Al (by decide)
 refine ar [2,3,4,5] ?_;refine .ret ?_
 cases h
 exact ⟨_,_,⟨.inr rfl,Au,Al,(by decide:(0:Nat)<3)⟩,rfl,rfl⟩
def JY (a0 : RT) (a1 : RT) : Option (RT × Int):=((Dm ([a0,a1])).bind fun x1=>(if x1=true then (if 0<((List.length a1.2.1 : Nat) : Int) then ((FO a0).bind fun x2=>((Kp x2 ((a1.2.2,a1.2.1),a1.1)).bind fun x3=>((Hg x3).bind fun x4=>(some (x4.1,x4.2))))) else (if 0<((List.length a0.2.1 : Nat) : Int) then (some ((false,[],[]),3)) else ((BR 1).bind fun x5=>(some (x5,0))))) else (some ((false,[],[]),22))))
theorem JH {a0 : RT} {a1 : RT} {r : RT × Int} (h : JY a0 a1=some r) :
  Fn Tryz.prog 88 [.ag [.b a0.1,.sl (L a0.2.1),.sl (L a0.2.2)],.ag [.b a1.1,.sl (L a1.2.1),.sl (L a1.2.2)]] (.tup [.d (.ag [.b r.1.1,.sl (L r.1.2.1),.sl (L r.1.2.2)]),.d (.i .i64 r.2)]):=by
 unfold JY at h
 refine Fn.ofC (rs:=[.cell 4 32,.tmp 5]) (nt:=39) Tryz.func88 rfl rfl rfl (by simp) rfl ?_;refine .sr ?_;refine vk (vbx) ?_;refine vk (vbx) ?_;refine vk (van (Ag BH) BL) ?_;refine ar [2,3,4,5] ?_;refine .seq ?_;refine .block ?_;refine .sr ?_;refine vk (Ao Au Al) ?_;refine vk (Ao Au Al) ?_;refine vk ((E2 (Dx [a0,a1]) FK).deep) ?_
 obtain ⟨x1,hx1,h⟩:=bnd h
 refine vk (Af (CK hx1) Tryz.call167) ?_;refine vk (vnt) ?_;refine ar [2,3,4,5,6] ?_
 by_cases hc:x1=true
 ·replace h:=Ad hc h
  refine cnf (ntf hc) ?_;refine .sr ?_;refine vk (vfa BK) ?_;refine vk (Am CS) ?_;refine vk (Bk (Ab _) (A1 _) Io) ?_;refine vk (vbi) ?_;refine ar [2,3,4,5,13] ?_
  by_cases hc:0<((List.length a1.2.1:Nat):Int)
  ·replace h:=Ad hc h
   refine cnt (dT hc) ?_;refine .seq ?_;refine .drawn 14 A9 (by kernel_rfl) ?_;refine dv (Ao Au Al) ?_
   obtain ⟨x2,hx2,h⟩:=bnd h
   refine dv (Af (CI hx2) Tryz.call168) ?_;refine dv (vfa Ev) ?_;refine dv (Am CS) ?_;refine dv (vfa BK) ?_;refine dv (Am CS) ?_;refine dv (vbd XK Wp Ww) ?_;refine dv (vfa CQ) ?_;refine dv (Am BJ) ?_;refine dv (vbd UK QZ P7) ?_
   obtain ⟨x3,hx3,h⟩:=bnd h
   refine dv (Af (Iv hx3) Tryz.call169) ?_
   obtain ⟨x4,hx4,h⟩:=bnd h
   refine dv (VOK.tupd (vs:=[.ag [.b x4.1.1,.sl (L x4.1.2.1),.sl (L x4.1.2.2)],.i .i64 x4.2]) (Af (FY hx4) Tryz.call170)) ?_;refine dv (vex) ?_;refine dv (vex) ?_;refine dz ?_
   refine stn ?_ Al (by decide)
   refine ar [4,5] ?_;refine .ret ?_
   cases h
   exact ⟨_,_,⟨.inr rfl,Au,Al,(by decide:(0:Nat)<3)⟩,rfl,rfl⟩
  replace h:=Ae hc h
  refine cnf (dF hc) ?_;refine .sr ?_;refine vk (vfa BK) ?_;refine vk (Am CS) ?_;refine vk (Bk (Ab _) (A1 _) Io) ?_;refine vk (vbi) ?_;refine ar [4,5,32] ?_
  by_cases hc:0<((List.length a0.2.1:Nat):Int)
  ·replace h:=Ad hc h
   refine cnt (dT hc) ?_;refine .sr ?_;refine vk (vbd Ea BH BL) ?_
   refine stn ?_ Al (by decide)
   refine ar [4,5] ?_;refine .ret ?_
   cases h
   exact ⟨_,_,⟨.inr rfl,Au,Al,(by decide:(0:Nat)<3)⟩,rfl,rfl⟩
  replace h:=Ae hc h
  refine cnf (dF hc) ?_;refine .skip ?_
  show AW _ _ _ _ _ _
  refine .sr ?_
  obtain ⟨x5,hx5,h⟩:=bnd h
  refine vk (Af (Bx hx5) Tryz.call72) ?_
  refine stn ?_ Al (by decide)
  refine ar [4,5] ?_;refine .ret ?_
  cases h
  exact ⟨_,_,⟨.inr rfl,Au,Al,(by decide:(0:Nat)<3)⟩,rfl,rfl⟩
 replace h:=Ae hc h
 refine cnt (ntt (bf hc)) ?_;refine .sr ?_;refine vk (vbd Ea BH BL) ?_
 refine stn ?_ Al (by decide)
 refine ar [4,5] ?_;refine .ret ?_
 cases h
 exact ⟨_,_,⟨.inr rfl,Au,Al,(by decide:(0:Nat)<3)⟩,rfl,rfl⟩
def Gx (a0 : RT) (a1 : Bool) : Option (RT × Int):=((DT a0).bind fun x1=>(if x1=true then (Option.bind ((if a1=true then ((F5 a0.2.1).bind fun x3=>((F5 a0.2.2).bind fun x4=>(some ((decide (0<((List.length a0.2.1 : Nat) : Int))),x3,x4)))) else ((F5 a0.2.1).bind fun x5=>((F5 a0.2.2).bind fun x6=>(some (false,x5,x6))))) : Option (RT)) fun (z2 : RT)=>(some (z2,0))) else (some ((false,[],[]),22))))
theorem GX {a0 : RT} {a1 : Bool} {r : RT × Int} (h : Gx a0 a1=some r) :
  Fn Tryz.prog 161 [.ag [.b a0.1,.sl (L a0.2.1),.sl (L a0.2.2)],.b a1] (.tup [.d (.ag [.b r.1.1,.sl (L r.1.2.1),.sl (L r.1.2.2)]),.d (.i .i64 r.2)]):=by
 unfold Gx at h
 refine Fn.ofC (rs:=[.cell 4 32,.tmp 5]) (nt:=24) Tryz.func161 rfl rfl rfl (by simp) rfl ?_;refine .sr ?_;refine vk (vbx) ?_;refine vk (van (Ag BH) BL) ?_;refine ar [1,2,4,5] ?_;refine .seq ?_;refine .sr ?_;refine vk (Ao Au Al) ?_
 obtain ⟨x1,hx1,h⟩:=bnd h
 refine vk (Af (DG hx1) Tryz.call45) ?_;refine vk (vnt) ?_;refine rk [1,2,4,5,8] ?_
 by_cases hc:x1=true
 ·replace h:=Ad hc h
  refine cnf (ntf hc) ?_;refine .skip ?_
  show AW _ _ _ _ _ _
  refine .seq ?_
  obtain ⟨z2,hz,h⟩:=bnd h
  refine AW.mr (σ:=Unit) (fun _=>True) (fun _=>[(4,.nb [.b z2.1,.sl (L z2.2.1),.sl (L z2.2.2)]),(5,.d (.i .i64 0))]) (fun _=>[]) ?_ ?_
  ·skip
   refine .drawn 14 A9 (by kernel_rfl) ?_;refine dv (Aa) ?_
   by_cases hc:a1=true
   ·replace hz:=Ad hc hz
    have hb0:a1=true:=hc
    refine dv (VOK.lit (Aa) hb0) ?_;refine dv (vfa BK) ?_;refine dv (Am CS) ?_;refine dv (Bk (Ab _) (A1 _) Io) ?_;refine dv (vbi) ?_;refine dv (Ai) ?_;refine dv (vfa BK) ?_;refine dv (Am CS) ?_
    obtain ⟨x3,hx3,hz⟩:=bnd hz
    refine dv ((Af (E8 hx3) Tryz.call215).deep) ?_;refine dv (vfa Ev) ?_;refine dv (Am CS) ?_
    obtain ⟨x4,hx4,hz⟩:=bnd hz
    refine dv ((Af (E8 hx4) Tryz.call215).deep) ?_;refine dv (vbd Ea BH BL) ?_;refine dz ?_
    refine stn ?_ Al (by decide)
    refine asd ?_;refine RL.gk [4,5] ?_;refine .nil ?_
    cases hz
    exact jr () trivial
   replace hz:=Ae hc hz
   have hb0:a1=false:=(bf hc)
   refine dv (VOK.lit (Aa) hb0) ?_;refine dgf ?_;refine dgf ?_;refine dgf ?_;refine dgf ?_;refine dv (Ai) ?_;refine dv (vfa BK) ?_;refine dv (Am CS) ?_
   obtain ⟨x5,hx5,hz⟩:=bnd hz
   refine dv ((Af (E8 hx5) Tryz.call215).deep) ?_;refine dv (vfa Ev) ?_;refine dv (Am CS) ?_
   obtain ⟨x6,hx6,hz⟩:=bnd hz
   refine dv ((Af (E8 hx6) Tryz.call215).deep) ?_;refine dv (vbd Ea BH BL) ?_;refine dz ?_
   refine stn ?_ Al (by decide)
   refine asd ?_;refine RL.gk [4,5] ?_;refine .nil ?_
   cases hz
   exact jr () trivial
  rintro _ _
  refine .ret ?_
  cases h
  exact ⟨_,_,⟨.inr rfl,Au,Al,(by decide:(0:Nat)<3)⟩,rfl,rfl⟩
 replace h:=Ae hc h
 refine cnt (ntt (bf hc)) ?_;refine .sr ?_;refine vk (vbd Ea BH BL) ?_
 refine stn ?_ Al (by decide)
 refine ar [1,2,4,5] ?_;refine .ret ?_
 cases h
 exact ⟨_,_,⟨.inr rfl,Au,Al,(by decide:(0:Nat)<3)⟩,rfl,rfl⟩
def PM (a0 : RT) : Option (RT × Int):=((Gx a0 (!a0.1)).bind fun x1=>(some (x1.1,x1.2)))
theorem R0 {a0 : RT} {r : RT × Int} (h : PM a0=some r) :
  Fn Tryz.prog 79 [.ag [.b a0.1,.sl (L a0.2.1),.sl (L a0.2.2)]] (.tup [.d (.ag [.b r.1.1,.sl (L r.1.2.1),.sl (L r.1.2.2)]),.d (.i .i64 r.2)]):=by
 unfold PM at h
 refine Fn.ofC (rs:=[.cell 2 32,.tmp 3]) (nt:=11) Tryz.func79 rfl rfl rfl (by simp) rfl ?_;refine .sr ?_;refine vk (vbx) ?_;refine vk (van (Ag BH) BL) ?_;refine ar [1,2,3] ?_;refine .sr ?_;refine vk (Ao Au Al) ?_;refine vk (vfa CQ) ?_;refine vk (Am BJ) ?_;refine vk (vnt) ?_
 obtain ⟨x1,hx1,h⟩:=bnd h
 refine vk (VOK.tupd (vs:=[.ag [.b x1.1.1,.sl (L x1.1.2.1),.sl (L x1.1.2.2)],.i .i64 x1.2]) (Af (GX hx1) Tryz.call161)) ?_;refine vk (vex) ?_;refine vk (vex) ?_
 refine stn ?_ Al (by decide)
 refine ar [2,3] ?_;refine .ret ?_
 cases h
 exact ⟨_,_,⟨.inr rfl,Au,Al,(by decide:(0:Nat)<3)⟩,rfl,rfl⟩
def PH (a0 : RT) : Option (RT × Int):=((Gx a0 false).bind fun x1=>(some (x1.1,x1.2)))
theorem Sh {a0 : RT} {r : RT × Int} (h : PH a0=some r) :
  Fn Tryz.prog 82 [.ag [.b a0.1,.sl (L a0.2.1),.sl (L a0.2.2)]] (.tup [.d (.ag [.b r.1.1,.sl (L r.1.2.1),.sl (L r.1.2.2)]),.d (.i .i64 r.2)]):=by
 unfold PH at h
 refine Fn.ofC (rs:=[.cell 2 32,.tmp 3]) (nt:=8) Tryz.func82 rfl rfl rfl (by simp) rfl ?_;refine .sr ?_;refine vk (vbx) ?_;refine vk (van (Ag BH) BL) ?_;refine ar [1,2,3] ?_;refine .sr ?_;refine vk (Ao Au Al) ?_
 obtain ⟨x1,hx1,h⟩:=bnd h
 refine vk (VOK.tupd (vs:=[.ag [.b x1.1.1,.sl (L x1.1.2.1),.sl (L x1.1.2.2)],.i .i64 x1.2]) (Af (GX hx1) Tryz.call161)) ?_;refine vk (vex) ?_;refine vk (vex) ?_
 refine stn ?_ Al (by decide)
 refine ar [2,3] ?_;refine .ret ?_
 cases h
 exact ⟨_,_,⟨.inr rfl,Au,Al,(by decide:(0:Nat)<3)⟩,rfl,rfl⟩
def Jc (a0 : RT) (a1 : Bool) : Option (RT × Int):=((DT a0).bind fun x1=>(if x1=true then ((Pz a0.2.1 a0.2.2).bind fun x2=>(if (a1 && (decide (0<((List.length x2.2.1 : Nat) : Int))))=true then (D9.bind fun x3=>((UA ([x2.1,x3])).bind fun x4=>(D9.bind fun x5=>((Hg ((x4,x5),a0.1)).bind fun x6=>(some (x6.1,x6.2)))))) else (D9.bind fun x7=>((Hg ((x2.1,x7),a0.1)).bind fun x8=>(some (x8.1,x8.2)))))) else (some ((false,[],[]),22))))
theorem KH {a0 : RT} {a1 : Bool} {r : RT × Int} (h : Jc a0 a1=some r) :
  Fn Tryz.prog 162 [.ag [.b a0.1,.sl (L a0.2.1),.sl (L a0.2.2)],.b a1] (.tup [.d (.ag [.b r.1.1,.sl (L r.1.2.1),.sl (L r.1.2.2)]),.d (.i .i64 r.2)]):=by
 unfold Jc at h
 refine Fn.ofC (rs:=[.cell 4 32,.tmp 5]) (nt:=41) Tryz.func162 rfl rfl rfl (by simp) rfl ?_;refine .sr ?_;refine vk (vbx) ?_;refine vk (van (Ag BH) BL) ?_;refine ar [1,2,4,5] ?_;refine .seq ?_;refine .sr ?_;refine vk (Ao Au Al) ?_
 obtain ⟨x1,hx1,h⟩:=bnd h
 refine vk (Af (DG hx1) Tryz.call45) ?_;refine vk (vnt) ?_;refine rk [1,2,4,5,11] ?_
 by_cases hc:x1=true
 ·replace h:=Ad hc h
  refine cnf (ntf hc) ?_;refine .skip ?_
  show AW _ _ _ _ _ _
  refine .sr ?_;refine vk (vfa BK) ?_;refine vk (Am CS) ?_;refine vk (vfa Ev) ?_;refine vk (Am CS) ?_
  obtain ⟨x2,hx2,h⟩:=bnd h
  refine vk (VOK.tupd (vs:=[.sl (L x2.1),.sl (L x2.2.1),.b x2.2.2]) (Af (M7 hx2) Tryz.call199)) ?_;refine vk (Aa) ?_;refine vk (vex) ?_;refine vk (vex) ?_;refine vk (vex) ?_;refine asd ?_;refine asd ?_;refine ar [1,2,4,5,6,7] ?_;refine .seq ?_;refine .seq ?_;refine AW.mr (σ:=Unit) (fun _=>True) (fun _=>[(2,.d (.ptr [.b a0.1,.sl (L a0.2.1),.sl (L a0.2.2)])),(4,.nb [.b false,.sl (L []),.sl (L [])]),(5,.d (.i .i64 0)),(6,.d (.sl (L x2.1))),(27,.d (.b (a1 && (decide (0<((List.length x2.2.1:Nat):Int))))))]) (fun _=>[]) ?_ ?_
  ·skip
   refine .region ?_;refine vk (Aa) ?_
   by_cases hc:a1=true
   ·have hb0:a1=true:=hc
    refine vk (VOK.lit (Aa) hb0) ?_;refine vk (Aa) ?_;refine vk (Bk (Ab _) (A1 _) Io) ?_;refine vk (vbi) ?_;refine vk (Ai) ?_;refine RL.gk [2,4,5,6,27] ?_;refine .nil ?_
    exact jr () trivial (by simp only [hb0];rfl)
   have hb0:a1=false:=(bf hc)
   refine vk (VOK.lit (Aa) hb0) ?_;refine gf ?_;refine gf ?_;refine gf ?_;refine vk (Ai) ?_;refine RL.gk [2,4,5,6,27] ?_;refine .nil ?_
   exact jr () trivial (by simp only [hb0];rfl)
  rintro _ _
  by_cases hc:(a1 && (decide (0<((List.length x2.2.1:Nat):Int))))=true
  ·replace h:=Ad hc h
   refine cnt hc ?_;refine .region ?_;refine vk (Aa) ?_
   obtain ⟨x3,hx3,h⟩:=bnd h
   refine vk ((Af (B1 hx3) Tryz.call121).deep) ?_;refine vk ((E2 (FU [x2.1,x3]) Oj).deep) ?_
   obtain ⟨x4,hx4,h⟩:=bnd h
   refine vk (Af (MA hx4) Tryz.call165) ?_;refine ar [2,4,5,6] ?_;refine .seq ?_;refine .drawn 9 A9 (by kernel_rfl) ?_;refine dv (Aa) ?_
   obtain ⟨x5,hx5,h⟩:=bnd h
   refine dv ((Af (B1 hx5) Tryz.call121).deep) ?_;refine dv (vbd XK Wp Ww) ?_;refine dv (vfa CQ) ?_;refine dv (Am BJ) ?_;refine dv (vbd UK QZ P7) ?_
   obtain ⟨x6,hx6,h⟩:=bnd h
   refine dv (VOK.tupd (vs:=[.ag [.b x6.1.1,.sl (L x6.1.2.1),.sl (L x6.1.2.2)],.i .i64 x6.2]) (Af (FY hx6) Tryz.call170)) ?_;refine dv (vex) ?_;refine dv (vex) ?_;refine dz ?_
   refine stn ?_ Al (by decide)
   refine ar [4,5] ?_;refine .ret ?_
   cases h
   exact ⟨_,_,⟨.inr rfl,Au,Al,(by decide:(0:Nat)<3)⟩,rfl,rfl⟩
  replace h:=Ae hc h
  refine cnf (bf hc) ?_;refine .skip ?_
  show AW _ _ _ _ _ _
  refine .seq ?_;refine .drawn 9 A9 (by kernel_rfl) ?_;refine dv (Aa) ?_
  obtain ⟨x7,hx7,h⟩:=bnd h
  refine dv ((Af (B1 hx7) Tryz.call121).deep) ?_;refine dv (vbd XK Wp Ww) ?_;refine dv (vfa CQ) ?_;refine dv (Am BJ) ?_;refine dv (vbd UK QZ P7) ?_
  obtain ⟨x8,hx8,h⟩:=bnd h
  refine dv (VOK.tupd (vs:=[.ag [.b x8.1.1,.sl (L x8.1.2.1),.sl (L x8.1.2.2)],.i .i64 x8.2]) (Af (FY hx8) Tryz.call170)) ?_;refine dv (vex) ?_;refine dv (vex) ?_;refine dz ?_
  refine stn ?_ Al (by decide)
  refine ar [4,5] ?_;refine .ret ?_
  cases h
  exact ⟨_,_,⟨.inr rfl,Au,Al,(by decide:(0:Nat)<3)⟩,rfl,rfl⟩
 replace h:=Ae hc h
 refine cnt (ntt (bf hc)) ?_;refine .sr ?_;refine vk (vbd Ea BH BL) ?_
 refine stn ?_ Al (by decide)
 refine ar [1,2,4,5] ?_;refine .ret ?_
 cases h
 exact ⟨_,_,⟨.inr rfl,Au,Al,(by decide:(0:Nat)<3)⟩,rfl,rfl⟩
def Jd (a0 : RT) : Option (RT × Int):=((Jc a0 a0.1).bind fun x1=>(some (x1.1,x1.2)))
theorem J5 {a0 : RT} {r : RT × Int} (h : Jd a0=some r) :
  Fn Tryz.prog 81 [.ag [.b a0.1,.sl (L a0.2.1),.sl (L a0.2.2)]] (.tup [.d (.ag [.b r.1.1,.sl (L r.1.2.1),.sl (L r.1.2.2)]),.d (.i .i64 r.2)]):=by
 unfold Jd at h
 refine Fn.ofC (rs:=[.cell 2 32,.tmp 3]) (nt:=10) Tryz.func81 rfl rfl rfl (by simp) rfl ?_;refine .sr ?_;refine vk (vbx) ?_;refine vk (van (Ag BH) BL) ?_;refine ar [1,2,3] ?_;refine .sr ?_;refine vk (Ao Au Al) ?_;refine vk (vfa CQ) ?_;refine vk (Am BJ) ?_
 obtain ⟨x1,hx1,h⟩:=bnd h
 refine vk (VOK.tupd (vs:=[.ag [.b x1.1.1,.sl (L x1.1.2.1),.sl (L x1.1.2.2)],.i .i64 x1.2]) (Af (KH hx1) Tryz.call162)) ?_;refine vk (vex) ?_;refine vk (vex) ?_
 refine stn ?_ Al (by decide)
 refine ar [2,3] ?_;refine .ret ?_
 cases h
 exact ⟨_,_,⟨.inr rfl,Au,Al,(by decide:(0:Nat)<3)⟩,rfl,rfl⟩
def MM (a0 : RT) : Option (RT × Int):=((Jc a0 (!a0.1)).bind fun x1=>(some (x1.1,x1.2)))
theorem QM {a0 : RT} {r : RT × Int} (h : MM a0=some r) :
  Fn Tryz.prog 80 [.ag [.b a0.1,.sl (L a0.2.1),.sl (L a0.2.2)]] (.tup [.d (.ag [.b r.1.1,.sl (L r.1.2.1),.sl (L r.1.2.2)]),.d (.i .i64 r.2)]):=by
 unfold MM at h
 refine Fn.ofC (rs:=[.cell 2 32,.tmp 3]) (nt:=11) Tryz.func80 rfl rfl rfl (by simp) rfl ?_;refine .sr ?_;refine vk (vbx) ?_;refine vk (van (Ag BH) BL) ?_;refine ar [1,2,3] ?_;refine .sr ?_;refine vk (Ao Au Al) ?_;refine vk (vfa CQ) ?_;refine vk (Am BJ) ?_;refine vk (vnt) ?_
 obtain ⟨x1,hx1,h⟩:=bnd h
 refine vk (VOK.tupd (vs:=[.ag [.b x1.1.1,.sl (L x1.1.2.1),.sl (L x1.1.2.2)],.i .i64 x1.2]) (Af (KH hx1) Tryz.call162)) ?_;refine vk (vex) ?_;refine vk (vex) ?_
 refine stn ?_ Al (by decide)
 refine ar [2,3] ?_;refine .ret ?_
 cases h
 exact ⟨_,_,⟨.inr rfl,Au,Al,(by decide:(0:Nat)<3)⟩,rfl,rfl⟩
def GF (a0 : RT) : Option (Int):=((DT a0).bind fun x1=>(if ((!x1) || (decide (((List.length a0.2.1 : Nat) : Int)=0)))=true then (some (0)) else (if a0.1=true then (some ((-1))) else (some (1)))))
theorem FB {a0 : RT} {r : Int} (h : GF a0=some r) :
  Fn Tryz.prog 86 [.ag [.b a0.1,.sl (L a0.2.1),.sl (L a0.2.2)]] (.d (.i .i64 r)):=by
 unfold GF at h
 refine Fn.o1 2 16 Tryz.func86 ?_;refine .sr ?_;refine vk (vbx) ?_;refine ar [1,2] ?_;refine .seq ?_;refine .block ?_;refine .seq ?_
 obtain ⟨x1,hx1,h⟩:=bnd h
 refine AW.mr (σ:=Unit) (fun _=>True) (fun _=>[(1,.d (.ptr [.b a0.1,.sl (L a0.2.1),.sl (L a0.2.2)])),(2,.d (.i .i64 0)),(3,.d (.b ((!x1) || (decide (((List.length a0.2.1:Nat):Int)=0)))))]) (fun _=>[]) ?_ ?_
 ·skip
  refine .region ?_;refine vk (Ao Au Al) ?_;refine vk (Af (DG hx1) Tryz.call45) ?_;refine vk (vnt) ?_
  by_cases hc:x1=true
  ·have hb0:(!x1)=false:=(ntf hc)
   refine vk (VOK.lit (Aa) hb0) ?_;refine vk (vfa BK) ?_;refine vk (Am CS) ?_;refine vk (Bk (Ab _) (A1 _) Io) ?_;refine vk (vbi) ?_;refine vk (Ai) ?_;refine asd ?_;refine RL.gk [1,2,3] ?_;refine .nil ?_
   exact jr () trivial (by simp only [hb0];rfl)
  have hb0:(!x1)=true:=(ntt (bf hc))
  refine vk (VOK.lit (Aa) hb0) ?_;refine gf ?_;refine gf ?_;refine gf ?_;refine gf ?_;refine vk (Ai) ?_;refine asd ?_;refine RL.gk [1,2,3] ?_;refine .nil ?_
  exact jr () trivial (by simp only [hb0];rfl)
 rintro _ _
 by_cases hc:((!x1) || (decide (((List.length a0.2.1:Nat):Int)=0)))=true
 ·replace h:=Ad hc h
  refine cnt hc ?_;refine .sr ?_;refine ar [2] ?_;refine .ret ?_
  cases h
  exact ⟨rfl,rfl⟩
 replace h:=Ae hc h
 refine cnf (bf hc) ?_;refine .sr ?_;refine vk (vfa CQ) ?_;refine vk (Am BJ) ?_;refine ar [2,13] ?_
 by_cases hc:a0.1=true
 ·replace h:=Ad hc h
  refine cnt hc ?_;refine .sr ?_;refine ar [2] ?_;refine .ret ?_
  cases h
  exact ⟨rfl,rfl⟩
 replace h:=Ae hc h
 refine cnf (bf hc) ?_;refine .skip ?_
 show AW _ _ _ _ _ _
 refine .sr ?_;refine ar [2] ?_;refine .ret ?_
 cases h
 exact ⟨rfl,rfl⟩
def Hj (a0 : RT) : Option (Bool):=((DT a0).bind fun x1=>(Option.bind ((if x1=true then (D9.bind fun x3=>((J3 a0.2.2 x3).bind fun x4=>(some x4))) else (some false)) : Option (Bool)) fun (z1 : Bool)=>(some (z1))))
theorem Ia {a0 : RT} {r : Bool} (h : Hj a0=some r) :
  Fn Tryz.prog 206 [.ag [.b a0.1,.sl (L a0.2.1),.sl (L a0.2.2)]] (.d (.b r)):=by
 unfold Hj at h
 refine Fn.o1 2 11 Tryz.func206 ?_;refine .sr ?_;refine vk (vbx) ?_;refine ar [1,2] ?_;refine .seq ?_
 obtain ⟨x1,hx1,h⟩:=bnd h
 obtain ⟨z1,hz,h⟩:=bnd h
 refine AW.mr (σ:=Unit) (fun _=>True) (fun _=>[(2,.d (.b z1))]) (fun _=>[]) ?_ ?_
 ·skip
  refine .drawn 8 A9 (by kernel_rfl) ?_;refine dv (Ao Au Al) ?_;refine dv (Af (DG hx1) Tryz.call45) ?_
  by_cases hc:x1=true
  ·replace hz:=Ad hc hz
   have hb0:x1=true:=hc
   refine dv (VOK.lit (Aa) hb0) ?_;refine dv (vfa Ev) ?_;refine dv (Am CS) ?_
   obtain ⟨x3,hx3,hz⟩:=bnd hz
   refine dv ((Af (B1 hx3) Tryz.call121).deep) ?_
   obtain ⟨x4,hx4,hz⟩:=bnd hz
   refine dv (Af (HV hx4) Tryz.call112) ?_;refine dv (Ai) ?_;refine dz ?_;refine asd ?_;refine RL.gk [2] ?_;refine .nil ?_
   cases hz
   exact jr () trivial
  replace hz:=Ae hc hz
  have hb0:x1=false:=(bf hc)
  refine dv (VOK.lit (Aa) hb0) ?_;refine dgf ?_;refine dgf ?_;refine dgf ?_;refine dgf ?_;refine dv (Ai) ?_;refine dz ?_;refine asd ?_;refine RL.gk [2] ?_;refine .nil ?_
  cases hz
  exact jr () trivial
 rintro _ _
 refine .ret ?_
 cases h
 exact ⟨rfl,rfl⟩
def FH (a0 : RT) : Option (Bool):=((Hj a0).bind fun x1=>(some ((x1 && (!a0.1)))))
theorem Gw {a0 : RT} {r : Bool} (h : FH a0=some r) :
  Fn Tryz.prog 163 [.ag [.b a0.1,.sl (L a0.2.1),.sl (L a0.2.2)]] (.d (.b r)):=by
 unfold FH at h
 refine Fn.o1 2 10 Tryz.func163 ?_;refine .sr ?_;refine vk (vbx) ?_;refine ar [1,2] ?_;refine .seq ?_
 obtain ⟨x1,hx1,h⟩:=bnd h
 refine AW.mr (σ:=Unit) (fun _=>True) (fun _=>[(2,.d (.b (x1 && (!a0.1))))]) (fun _=>[]) ?_ ?_
 ·skip
  refine .region ?_;refine vk (Ao Au Al) ?_;refine vk (Af (Ia hx1) Tryz.call206) ?_
  by_cases hc:x1=true
  ·have hb0:x1=true:=hc
   refine vk (VOK.lit (Aa) hb0) ?_;refine vk (vfa CQ) ?_;refine vk (Am BJ) ?_;refine vk (vnt) ?_;refine vk (Ai) ?_;refine asd ?_;refine RL.gk [2] ?_;refine .nil ?_
   exact jr () trivial (by simp only [hb0];rfl)
  have hb0:x1=false:=(bf hc)
  refine vk (VOK.lit (Aa) hb0) ?_;refine gf ?_;refine gf ?_;refine gf ?_;refine vk (Ai) ?_;refine asd ?_;refine RL.gk [2] ?_;refine .nil ?_
  exact jr () trivial (by simp only [hb0];rfl)
 rintro _ _
 refine .ret ?_
 cases h
 exact ⟨rfl,rfl⟩
def AX (a0 : (List Int)) (a1 : BE) (K0 : Int→Option (Int)) : Nat→Int→Int→Option (Int)
 | 0,_,_=>none
 | k+1,s2,s3=>(if s3<((List.length a0:Nat):Int) then ((rd? a0 s3).bind fun x4=>((a1.g x4).bind fun x5=>(if x5=true then (some (s3)) else (AX a0 a1 K0 k s2 (w64 (s3+1)))))) else (K0 s2))
def B3 (a0 : (List Int)) (a1 : BE) : Option (Int):=(jn (fun (z1 : Int)=>(some ((-1)))) fun K0=>(AX a0 a1 K0 Bi 0 0))
theorem FR {a0 : (List Int)} {a1 : BE} (oa1 : H8 a1) {r : Int} (h : B3 a0 a1=some r) :
  Fn Tryz.prog 225 [.sl (Is a0),a1.dv] (.d (.i .i64 r)):=by
 unfold B3 at h
 refine Fn.o1 4 19 Tryz.func225 ?_;refine .sr ?_;refine ar [0,1,4] ?_;refine .seq ?_;refine .sr ?_;refine vk (Aa) ?_;refine vk (Bk (A5 _) (Ef _) Ec) ?_;refine vk (Aa) ?_;refine rk [0,1,4,7,8] ?_
 obtain ⟨K0,hK0,h⟩:=BS h
 refine AW.mr (σ:=Int) (fun p=>K0 p=some r) (fun p=>[(4,.d (.i .i64 p))]) (fun p=>[]) ?_ ?_
 ·skip
  refine .block ?_
  refine .loop (.gk [0,1,4,7,8] ?_)
  refine AL.ind (σ:=Nat × Int × Int) (m:=fun p=>p.1) (e:=fun p=>[(0,.d (.sl (Is a0))),(1,.d (a1.dv)),(4,.d (.i .i64 p.2.1)),(7,.d (.i .i64 ((List.length a0:Nat):Int))),(8,.d (.i .i64 p.2.2))]) (h:=fun p=>[]) (I:=fun p=>AX a0 a1 K0 p.1 p.2.1 p.2.2=some r) ?_ (Bi,0,0) h
  rintro ⟨k,s2,s3⟩ h ih
  dsimp only at h ih ⊢
  rcases k with _ | k
  ·rw [AX] at h;cases h
  rw [AX] at h
  refine .sr ?_;refine vk (vbi) ?_;refine rk [0,1,4,7,8,9] ?_;refine .seq ?_
  by_cases hc:s3<((List.length a0:Nat):Int)
  ·replace h:=Ad hc h
   refine cnt (dT hc) ?_;refine .skip ?_
   show AW _ _ _ _ _ _
   refine .seq ?_;refine .block ?_;refine .sr ?_;refine vk (Aa) ?_;refine ar [0,1,4,5,7,8] ?_;refine .sr ?_;refine vk (Aa) ?_;refine vk (Aa) ?_;refine vk (Aa) ?_
   obtain ⟨x4,hx4,h⟩:=bnd h
   obtain ⟨nx4,hnx4,hxx4⟩:=AI hx4
   refine vk (vix nx4 hnx4 (GJ hxx4) rfl E4) ?_;refine vk (Am Ca) ?_
   obtain ⟨x5,hx5,h⟩:=bnd h
   refine vk (NN (oa1 _ _ hx5)) ?_;refine rk [0,1,4,5,7,8,16] ?_
   by_cases hc:x5=true
   ·replace h:=Ad hc h
    refine cnt hc ?_;refine .sr ?_;refine vk (Aa) ?_;refine ar [0,1,4,7,8] ?_;refine .ret ?_
    cases h
    exact ⟨rfl,rfl⟩
   replace h:=Ae hc h
   refine cnf (bf hc) ?_;refine .skip ?_
   show AW _ _ _ _ _ _
   refine .region ?_;refine vk (vbi) ?_;refine vk (Aa) ?_;refine .nil ?_;refine AL.gk [0,1,4,7,8] ?_
   exact ih (k,s2,(w64 (s3+1))) h (Nat.lt_succ_self _)
  replace h:=Ae hc h
  refine cnf (dF hc) ?_;refine .gk [4] ?_;refine .exit ?_
  exact jr (s2) h
 rintro z1 h
 try dsimp only at h ⊢
 subst hK0
 show AW _ _ _ _ _ _
 refine .sr ?_;refine ar [4] ?_;refine .ret ?_
 cases h
 exact ⟨rfl,rfl⟩
def A6 (a0 : (List Int)) (a1 : BE) : Option (Bool):=((B3 a0 a1).bind fun x1=>(some ((decide (0≤x1)))))
theorem Da {a0 : (List Int)} {a1 : BE} (oa1 : H8 a1) {r : Bool} (h : A6 a0 a1=some r) :
  Fn Tryz.prog 175 [.sl (Is a0),a1.dv] (.d (.b r)):=by
 unfold A6 at h
 refine Fn.o1 4 9 Tryz.func175 ?_;refine .sr ?_;refine ar [0,1,4] ?_;refine .sr ?_;refine vk (Aa) ?_;refine vk (Aa) ?_
 obtain ⟨x1,hx1,h⟩:=bnd h
 refine vk (Af (FR oa1 hx1) Tryz.call225) ?_;refine vk (vbi) ?_;refine ar [4] ?_;refine .ret ?_
 cases h
 exact ⟨rfl,rfl⟩
def Bd (a0 : (List Int)) (a1 : Int) (K0 : Int→Option (Int)) : Nat→Int→Int→Option (Int)
 | 0,_,_=>none
 | k+1,s2,s3=>(if s3<((List.length a0:Nat):Int) then ((rd? a0 s3).bind fun x4=>(if a1=x4 then (some (s3)) else (Bd a0 a1 K0 k s2 (w64 (s3+1))))) else (K0 s2))
def CW (a0 : (List Int)) (a1 : Int) : Option (Int):=(jn (fun (z1 : Int)=>(some ((-1)))) fun K0=>(Bd a0 a1 K0 Bi 0 0))
theorem HC {a0 : (List Int)} {a1 : Int} {r : Int} (h : CW a0 a1=some r) :
  Fn Tryz.prog 226 [.sl (Is a0),.i .i64 a1] (.d (.i .i64 r)):=by
 unfold CW at h
 refine Fn.o1 4 19 Tryz.func226 ?_;refine .sr ?_;refine ar [0,1,4] ?_;refine .seq ?_;refine .sr ?_;refine vk (Aa) ?_;refine vk (Bk (A5 _) (Ef _) Ec) ?_;refine vk (Aa) ?_;refine rk [0,1,4,7,8] ?_
 obtain ⟨K0,hK0,h⟩:=BS h
 refine AW.mr (σ:=Int) (fun p=>K0 p=some r) (fun p=>[(4,.d (.i .i64 p))]) (fun p=>[]) ?_ ?_
 ·skip
  refine .block ?_
  refine .loop (.gk [0,1,4,7,8] ?_)
  refine AL.ind (σ:=Nat × Int × Int) (m:=fun p=>p.1) (e:=fun p=>[(0,.d (.sl (Is a0))),(1,.d (.i .i64 a1)),(4,.d (.i .i64 p.2.1)),(7,.d (.i .i64 ((List.length a0:Nat):Int))),(8,.d (.i .i64 p.2.2))]) (h:=fun p=>[]) (I:=fun p=>Bd a0 a1 K0 p.1 p.2.1 p.2.2=some r) ?_ (Bi,0,0) h
  rintro ⟨k,s2,s3⟩ h ih
  dsimp only at h ih ⊢
  rcases k with _ | k
  ·rw [Bd] at h;cases h
  rw [Bd] at h
  refine .sr ?_;refine vk (vbi) ?_;refine rk [0,1,4,7,8,9] ?_;refine .seq ?_
  by_cases hc:s3<((List.length a0:Nat):Int)
  ·replace h:=Ad hc h
   refine cnt (dT hc) ?_;refine .skip ?_
   show AW _ _ _ _ _ _
   refine .seq ?_;refine .block ?_;refine .sr ?_;refine vk (Aa) ?_;refine ar [0,1,4,5,7,8] ?_;refine .sr ?_;refine vk (Aa) ?_;refine vk (Aa) ?_;refine vk (Aa) ?_
   obtain ⟨x4,hx4,h⟩:=bnd h
   obtain ⟨nx4,hnx4,hxx4⟩:=AI hx4
   refine vk (vix nx4 hnx4 (GJ hxx4) rfl E4) ?_;refine vk (Am Ca) ?_;refine vk (vbi) ?_;refine rk [0,1,4,5,7,8,16] ?_
   by_cases hc:a1=x4
   ·replace h:=Ad hc h
    refine cnt (dT hc) ?_;refine .sr ?_;refine vk (Aa) ?_;refine ar [0,1,4,7,8] ?_;refine .ret ?_
    cases h
    exact ⟨rfl,rfl⟩
   replace h:=Ae hc h
   refine cnf (dF hc) ?_;refine .skip ?_
   show AW _ _ _ _ _ _
   refine .region ?_;refine vk (vbi) ?_;refine vk (Aa) ?_;refine .nil ?_;refine AL.gk [0,1,4,7,8] ?_
   exact ih (k,s2,(w64 (s3+1))) h (Nat.lt_succ_self _)
  replace h:=Ae hc h
  refine cnf (dF hc) ?_;refine .gk [4] ?_;refine .exit ?_
  exact jr (s2) h
 rintro z1 h
 try dsimp only at h ⊢
 subst hK0
 show AW _ _ _ _ _ _
 refine .sr ?_;refine ar [4] ?_;refine .ret ?_
 cases h
 exact ⟨rfl,rfl⟩
def BG (a0 : (List Int)) (a1 : Int) : Option (Bool):=((CW a0 a1).bind fun x1=>(some ((decide (0≤x1)))))
theorem Gy {a0 : (List Int)} {a1 : Int} {r : Bool} (h : BG a0 a1=some r) :
  Fn Tryz.prog 178 [.sl (Is a0),.i .i64 a1] (.d (.b r)):=by
 unfold BG at h
 refine Fn.o1 4 9 Tryz.func178 ?_;refine .sr ?_;refine ar [0,1,4] ?_;refine .sr ?_;refine vk (Aa) ?_;refine vk (Aa) ?_
 obtain ⟨x1,hx1,h⟩:=bnd h
 refine vk (Af (HC hx1) Tryz.call226) ?_;refine vk (vbi) ?_;refine ar [4] ?_;refine .ret ?_
 cases h
 exact ⟨rfl,rfl⟩
def HF (a0 : Int) : Option (Bool):=(some ((decide (a0<0))))
theorem Mk {a0 : Int} {r : Bool} (h : HF a0=some r) :
  Fn Tryz.prog 176 [.i .i64 a0] (.d (.b r)):=by
 unfold HF at h
 refine Fn.o1 2 5 Tryz.func176 ?_;refine .sr ?_;refine ar [0,2] ?_;refine .sr ?_;refine vk (Aa) ?_;refine vk (vbi) ?_;refine ar [2] ?_;refine .ret ?_
 cases h
 exact ⟨rfl,rfl⟩
def HP (a0 : Int) : Option (Bool):=(some ((decide (4096<a0))))
theorem L9 {a0 : Int} {r : Bool} (h : HP a0=some r) :
  Fn Tryz.prog 177 [.i .i64 a0] (.d (.b r)):=by
 unfold HP at h
 refine Fn.o1 2 5 Tryz.func177 ?_;refine .sr ?_;refine ar [0,2] ?_;refine .sr ?_;refine vk (Aa) ?_;refine vk (vbi) ?_;refine ar [2] ?_;refine .ret ?_
 cases h
 exact ⟨rfl,rfl⟩
def C6 (a0 : (List Int)) (K0 : Int→Int→Int→Option (Int × Int)) : Nat→Int→Int→Int→Int→Option (Int × Int)
 | 0,_,_,_,_=>none
 | k+1,s7,s8,s9,s10=>(if s10<((List.length a0:Nat):Int) then ((rd? a0 s10).bind fun x11=>((Kg (s9 ≠ 0)).bind fun x12=>(if (w64 (Int.tdiv 4096 s9))<x11 then (some (0,8)) else (C6 a0 K0 k s7 s8 (w64 (s9 * x11)) (w64 (s10+1)))))) else (K0 s7 s8 s9))
def Dq (a0 : (List Int)) : Option (Int × Int):=(if 8<((List.length a0 : Nat) : Int) then (some (0,4)) else ((A6 a0 (⟨.fn 176 [] [],fun x=>HF x⟩ : BE)).bind fun x1=>(if x1=true then (some (0,3)) else ((A6 a0 (⟨.fn 177 [] [],fun x=>HP x⟩ : BE)).bind fun x2=>(if x2=true then (some (0,8)) else ((BG a0 0).bind fun x3=>(if x3=true then (some (0,0)) else (jn (fun (z4 : Int) (z5 : Int) (z6 : Int)=>(some (z6,0))) fun K0=>(C6 a0 K0 Bi 0 0 1 0)))))))))
theorem Ei {a0 : (List Int)} {r : Int × Int} (h : Dq a0=some r) :
  Fn Tryz.prog 98 [.sl (Is a0)] (.tup [.d (.i .i64 r.1),.d (.i .i64 r.2)]):=by
 unfold Dq at h
 refine Fn.of (rs:=[.tmp 2,.tmp 3]) (nt:=35) Tryz.func98 rfl rfl rfl (by simp) rfl ?_;refine .sr ?_;refine asd ?_;refine ar [0,2,3] ?_;refine .seq ?_;refine .block ?_;refine .sr ?_;refine vk (Aa) ?_;refine vk (Bk (A5 _) (Ef _) Ec) ?_;refine vk (vbi) ?_;refine ar [0,2,3,7] ?_
 by_cases hc:8<((List.length a0:Nat):Int)
 ·replace h:=Ad hc h
  refine cnt (dT hc) ?_;refine .sr ?_;refine asd ?_;refine ar [0,2,3] ?_;refine .ret ?_
  cases h
  exact ⟨by decide,rfl,rfl,rfl⟩
 replace h:=Ae hc h
 refine cnf (dF hc) ?_;refine .sr ?_;refine vk (Aa) ?_
 obtain ⟨x1,hx1,h⟩:=bnd h
 refine vk (Af (Da (Cp Tryz.call176 (fun _ _ h=>Mk h)) hx1) Tryz.call175) ?_;refine ar [0,2,3,11] ?_
 by_cases hc:x1=true
 ·replace h:=Ad hc h
  refine cnt hc ?_;refine .sr ?_;refine asd ?_;refine ar [0,2,3] ?_;refine .ret ?_
  cases h
  exact ⟨by decide,rfl,rfl,rfl⟩
 replace h:=Ae hc h
 refine cnf (bf hc) ?_;refine .sr ?_;refine vk (Aa) ?_
 obtain ⟨x2,hx2,h⟩:=bnd h
 refine vk (Af (Da (Cp Tryz.call177 (fun _ _ h=>L9 h)) hx2) Tryz.call175) ?_;refine ar [0,2,3,14] ?_
 by_cases hc:x2=true
 ·replace h:=Ad hc h
  refine cnt hc ?_;refine .sr ?_;refine asd ?_;refine ar [0,2,3] ?_;refine .ret ?_
  cases h
  exact ⟨by decide,rfl,rfl,rfl⟩
 replace h:=Ae hc h
 refine cnf (bf hc) ?_;refine .sr ?_;refine vk (Aa) ?_
 obtain ⟨x3,hx3,h⟩:=bnd h
 refine vk (Af (Gy hx3) Tryz.call178) ?_;refine ar [0,2,3,17] ?_
 by_cases hc:x3=true
 ·replace h:=Ad hc h
  refine cnt hc ?_;refine .sr ?_;refine asd ?_;refine ar [0,2,3] ?_;refine .ret ?_
  cases h
  exact ⟨by decide,rfl,rfl,rfl⟩
 replace h:=Ae hc h
 refine cnf (bf hc) ?_;refine .skip ?_
 show AW _ _ _ _ _ _
 refine .sr ?_;refine ar [0,2,3,4] ?_;refine .seq ?_;refine .sr ?_;refine vk (Aa) ?_;refine vk (Bk (A5 _) (Ef _) Ec) ?_;refine vk (Aa) ?_;refine rk [2,3,4,20,21,22] ?_
 obtain ⟨K0,hK0,h⟩:=BS h
 refine AW.mr (σ:=Int × Int × Int) (fun p=>K0 p.1 p.2.1 p.2.2=some r) (fun p=>[(2,.d (.i .i64 p.1)),(3,.d (.i .i64 p.2.1)),(4,.d (.i .i64 p.2.2))]) (fun p=>[]) ?_ ?_
 ·skip
  refine .block ?_
  refine .loop (.gk [2,3,4,20,21,22] ?_)
  refine AL.ind (σ:=Nat × Int × Int × Int × Int) (m:=fun p=>p.1) (e:=fun p=>[(2,.d (.i .i64 p.2.1)),(3,.d (.i .i64 p.2.2.1)),(4,.d (.i .i64 p.2.2.2.1)),(20,.d (.sl (Is a0))),(21,.d (.i .i64 ((List.length a0:Nat):Int))),(22,.d (.i .i64 p.2.2.2.2))]) (h:=fun p=>[]) (I:=fun p=>C6 a0 K0 p.1 p.2.1 p.2.2.1 p.2.2.2.1 p.2.2.2.2=some r) ?_ (Bi,0,0,1,0) h
  rintro ⟨k,s7,s8,s9,s10⟩ h ih
  dsimp only at h ih ⊢
  rcases k with _ | k
  ·rw [C6] at h;cases h
  rw [C6] at h
  refine .sr ?_;refine vk (vbi) ?_;refine rk [2,3,4,20,21,22,23] ?_;refine .seq ?_
  by_cases hc:s10<((List.length a0:Nat):Int)
  ·replace h:=Ad hc h
   refine cnt (dT hc) ?_;refine .skip ?_
   show AW _ _ _ _ _ _
   refine .seq ?_;refine .block ?_;refine .sr ?_
   obtain ⟨x11,hx11,h⟩:=bnd h
   obtain ⟨nx11,hnx11,hxx11⟩:=AI hx11
   refine vk (vix nx11 hnx11 (GJ hxx11) rfl E4) ?_;refine vk (Am Ca) ?_;refine ar [2,3,4,6,20,21,22] ?_;refine .seq ?_;refine .sr ?_;refine vk (Aa) ?_;refine vk (Aa) ?_
   obtain ⟨x12,hx12,h⟩:=bnd h
   refine vk (RY (Lj hx12)) ?_;refine vk (vbi) ?_;refine rk [2,3,4,6,20,21,22,29] ?_
   by_cases hc:(w64 (Int.tdiv 4096 s9))<x11
   ·replace h:=Ad hc h
    refine cnt (dT hc) ?_;refine .sr ?_;refine asd ?_;refine ar [2,3,4,6,20,21,22] ?_;refine .ret ?_
    cases h
    exact ⟨by decide,rfl,rfl,rfl⟩
   replace h:=Ae hc h
   refine cnf (dF hc) ?_;refine .skip ?_
   show AW _ _ _ _ _ _
   refine .region ?_;refine vk (Aa) ?_;refine vk (Aa) ?_;refine vk (vbi) ?_;refine asd ?_;refine .nil ?_
   show AW _ _ _ _ _ _
   refine .gk [2,3,4,20,21,22] ?_;refine .region ?_;refine vk (vbi) ?_;refine vk (Aa) ?_;refine .nil ?_;refine AL.gk [2,3,4,20,21,22] ?_
   exact ih (k,s7,s8,(w64 (s9 * x11)),(w64 (s10+1))) h (Nat.lt_succ_self _)
  replace h:=Ae hc h
  refine cnf (dF hc) ?_;refine .gk [2,3,4] ?_;refine .exit ?_
  exact jr (s7,s8,s9) h
 rintro ⟨z4,z5,z6⟩ h
 try dsimp only at h ⊢
 subst hK0
 show AW _ _ _ _ _ _
 refine .sr ?_;refine vk (Aa) ?_;refine asd ?_;refine ar [2,3] ?_;refine .ret ?_
 cases h
 exact ⟨by decide,rfl,rfl,rfl⟩
def CJ (a0 : Arr) : Option (Bool):=(Option.bind ((if ((List.length a0.shape : Nat) : Int)=0 then (if ((List.length a0.items : Nat) : Int)=1 then ((rd? a0.items 0).bind fun x2=>(some (!(decide (x2.kind=3))))) else (some false)) else (some false)) : Option (Bool)) fun (z1 : Bool)=>(some (z1)))
theorem EU {a0 : Arr} {r : Bool} (h : CJ a0=some r) :
  Fn Tryz.prog 172 [.ag [.sl (Is a0.shape),.sl (Its a0.items)]] (.d (.b r)):=by
 unfold CJ at h
 refine Fn.o1 2 21 Tryz.func172 ?_;refine .sr ?_;refine vk (vbx) ?_;refine ar [1,2] ?_;refine .seq ?_
 obtain ⟨z1,hz,h⟩:=bnd h
 refine AW.mr (σ:=Unit) (fun _=>True) (fun _=>[(2,.d (.b z1))]) (fun _=>[]) ?_ ?_
 ·skip
  refine .region ?_;refine vk (vfa AY) ?_;refine vk (Am CG) ?_;refine vk (Bk (A5 _) (Ef _) Ec) ?_;refine vk (vbi) ?_
  by_cases hc:((List.length a0.shape:Nat):Int)=0
  ·replace hz:=Ad hc hz
   have hb0:(decide (((List.length a0.shape:Nat):Int)=0))=true:=(dT hc)
   refine vk (VOK.lit (Aa) hb0) ?_;refine vk (vfa AH) ?_;refine vk (Am BD) ?_;refine vk (Bk (AE _) (Cr _) Ct) ?_;refine vk (vbi) ?_;refine vk (Ai) ?_
   by_cases hc:((List.length a0.items:Nat):Int)=1
   ·replace hz:=Ad hc hz
    have hb1:(decide (((List.length a0.items:Nat):Int)=1))=true:=(dT hc)
    refine vk (VOK.lit (Aa) hb1) ?_;refine vk (vfa AH) ?_;refine vk (Am BD) ?_
    obtain ⟨x2,hx2,hz⟩:=bnd hz
    obtain ⟨nx2,hnx2,hxx2⟩:=AI hx2
    refine vk (vix nx2 hnx2 (Dn hxx2) rfl Dj) ?_;refine vk (vfa Bv) ?_;refine vk (Am AS) ?_;refine vk (vbi) ?_;refine vk (Ai) ?_;refine asd ?_;refine RL.gk [2] ?_;refine .nil ?_
    cases hz
    exact jr () trivial
   replace hz:=Ae hc hz
   have hb1:(decide (((List.length a0.items:Nat):Int)=1))=false:=(dF hc)
   refine vk (VOK.lit (Aa) hb1) ?_;refine gf ?_;refine gf ?_;refine gf ?_;refine gf ?_;refine gf ?_;refine gf ?_;refine vk (Ai) ?_;refine asd ?_;refine RL.gk [2] ?_;refine .nil ?_
   cases hz
   exact jr () trivial
  replace hz:=Ae hc hz
  have hb0:(decide (((List.length a0.shape:Nat):Int)=0))=false:=(dF hc)
  refine vk (VOK.lit (Aa) hb0) ?_;refine gf ?_;refine gf ?_;refine gf ?_;refine gf ?_;refine vk (Ai) ?_;refine vk (Aa) ?_;refine gf ?_;refine gf ?_;refine gf ?_;refine gf ?_;refine gf ?_;refine gf ?_;refine vk (Ai) ?_;refine asd ?_;refine RL.gk [2] ?_;refine .nil ?_
  cases hz
  exact jr () trivial
 rintro _ _
 refine .ret ?_
 cases h
 exact ⟨rfl,rfl⟩
def FX (a0 : Int) : Option (Bool):=(some (((decide (0≤a0)) && ((decide (a0≤1114111)) && ((decide (a0<55296)) || (decide (57343<a0)))))))
theorem Me {a0 : Int} {r : Bool} (h : FX a0=some r) :
  Fn Tryz.prog 231 [.i .i32 a0] (.d (.b r)):=by
 unfold FX at h
 refine Fn.o1 2 17 Tryz.func231 ?_;refine .sr ?_;refine ar [0,2] ?_;refine .seq ?_;refine AW.mr (σ:=Unit) (fun _=>True) (fun _=>[(2,.d (.b ((decide (0≤a0)) && ((decide (a0≤1114111)) && ((decide (a0<55296)) || (decide (57343<a0)))))))]) (fun _=>[]) ?_ ?_
 ·skip
  refine .region ?_;refine vk (Aa) ?_;refine vk (vbi) ?_
  by_cases hc:0≤a0
  ·have hb0:(decide (0≤a0))=true:=(dT hc)
   refine vk (VOK.lit (Aa) hb0) ?_;refine vk (Aa) ?_;refine vk (vbi) ?_;refine vk (Ai) ?_
   by_cases hc:a0≤1114111
   ·have hb1:(decide (a0≤1114111))=true:=(dT hc)
    refine vk (VOK.lit (Aa) hb1) ?_;refine vk (Aa) ?_;refine vk (vbi) ?_
    by_cases hc:a0<55296
    ·have hb2:(decide (a0<55296))=true:=(dT hc)
     refine vk (VOK.lit (Aa) hb2) ?_;refine gf ?_;refine gf ?_;refine vk (Ai) ?_;refine vk (Ai) ?_;refine asd ?_;refine RL.gk [2] ?_;refine .nil ?_
     exact jr () trivial (by simp only [hb0,hb1,hb2];rfl)
    have hb2:(decide (a0<55296))=false:=(dF hc)
    refine vk (VOK.lit (Aa) hb2) ?_;refine vk (Aa) ?_;refine vk (vbi) ?_;refine vk (Ai) ?_;refine vk (Ai) ?_;refine asd ?_;refine RL.gk [2] ?_;refine .nil ?_
    exact jr () trivial (by simp only [hb0,hb1,hb2];rfl)
   have hb1:(decide (a0≤1114111))=false:=(dF hc)
   refine vk (VOK.lit (Aa) hb1) ?_;refine gf ?_;refine gf ?_;refine gfu ?_;refine gf ?_;refine gf ?_;refine gf ?_;refine vk (Ai) ?_;refine asd ?_;refine RL.gk [2] ?_;refine .nil ?_
   exact jr () trivial (by simp only [hb0,hb1];rfl)
  have hb0:(decide (0≤a0))=false:=(dF hc)
  refine vk (VOK.lit (Aa) hb0) ?_;refine gf ?_;refine gf ?_;refine vk (Ai) ?_;refine vk (Aa) ?_;refine gf ?_;refine gf ?_;refine gfu ?_;refine gf ?_;refine gf ?_;refine gf ?_;refine vk (Ai) ?_;refine asd ?_;refine RL.gk [2] ?_;refine .nil ?_
  exact jr () trivial (by simp only [hb0];rfl)
 rintro _ _
 refine .ret ?_
 cases h
 exact ⟨rfl,rfl⟩
theorem YD : 0<AF Tryz.prog 3:=by rw [La];decide
def Fp (a : (List Int)) : Option ((List Int)):=ap? 17592186044416 [] a
theorem Jr {a r : (List Int)} (h : Fp a=some r) : Fn Tryz.prog 182 [.sl (Is a)] (.own 3 (Is r)):=by
 unfold Fp at h
 refine Fn.o1 2 8 Tryz.func182 ?_;refine .sr ?_;refine asn ?_;refine rn ?_;refine .seq ?_;refine .sr ?_;refine mvd ?_
 refine nq (fun b hb=>?_) (Ef _) Ec
 refine rn ?_
 refine cnd (fun hc=>?_) (fun hc=>?_)
 ·simp only [if_true] at hc
  have h0:Is a=[]:=by
   apply Classical.byContradiction
   intro h;rw [hb h] at hc;cases hc
  have h1:r=[]:=by
   have:=(Kf h).2
   rw [this,List.nil_append]
   exact List.length_eq_zero_iff.1 (by rw [← A5 a,h0];rfl)
  subst h1
  refine .sr ?_;refine asn ?_;refine rn ?_;refine .gh (Gh.nlOwn (t:=2) 3 YD rfl) ?_;refine .ret ?_
  exact ⟨rfl,rfl⟩
 ·refine .skip ?_
  show AW _ _ _ _ _ _
  refine .sr ?_;refine vk (Gv (ds':=Is []) rfl (HX []) Jz) ?_;refine mvd ?_
  refine Zt V2 h Wm ?_ Pa A5 Jz
  refine aso ?_;refine rn ?_;refine .ret ?_
  exact ⟨rfl,rfl⟩
def CT (a0 : RT) : Option (RT):=((F5 a0.2.1).bind fun x1=>((F5 a0.2.2).bind fun x2=>(some ((a0.1,x1,x2)))))
theorem Gk {a0 : RT} {r : RT} (h : CT a0=some r) :
  Fn Tryz.prog 157 [.ag [.b a0.1,.sl (L a0.2.1),.sl (L a0.2.2)]] (.d (.ag [.b r.1,.sl (L r.2.1),.sl (L r.2.2)])):=by
 unfold CT at h
 refine Fn.ofC (rs:=[.cell 2 32]) (nt:=12) Tryz.func157 rfl rfl rfl (by simp) rfl ?_;refine .sr ?_;refine vk (vbx) ?_;refine vk (van (Ag BH) BL) ?_;refine rk [1,2] ?_;refine .seq ?_;refine .drawn 9 A9 (by kernel_rfl) ?_;refine dv (vfa CQ) ?_;refine dv (Am BJ) ?_;refine dv (vfa BK) ?_;refine dv (Am CS) ?_
 obtain ⟨x1,hx1,h⟩:=bnd h
 refine dv ((Af (E8 hx1) Tryz.call215).deep) ?_;refine dv (vfa Ev) ?_;refine dv (Am CS) ?_
 obtain ⟨x2,hx2,h⟩:=bnd h
 refine dv ((Af (E8 hx2) Tryz.call215).deep) ?_;refine dv (vbd Ea BH BL) ?_;refine dz ?_
 refine stn ?_ Al (by decide)
 refine rk [2] ?_;refine .ret ?_
 cases h
 exact ⟨_,⟨.inr rfl,Au,Al,(by decide:(0:Nat)<3)⟩,rfl⟩
def B5 (a0 : RT) : Option (Itm):=((CT a0).bind fun x1=>(some ((Itm.mk 1 x1 0 []))))
theorem Em {a0 : RT} {r : Itm} (h : B5 a0=some r) :
  Fn Tryz.prog 71 [.ag [.b a0.1,.sl (L a0.2.1),.sl (L a0.2.2)]] (.d (.ag [.i .u8 r.kind,.b r.num.1,.sl (L r.num.2.1),.sl (L r.num.2.2),.i .i32 r.char,.sl (Ars r.box)])):=by
 unfold B5 at h
 refine Fn.ofC (rs:=[.cell 2 83]) (nt:=6) Tryz.func71 rfl rfl rfl (by simp) rfl ?_;refine .sr ?_;refine vk (vbx) ?_;refine vk (van (Ag BN) BW) ?_;refine rk [1,2] ?_;refine .sr ?_;refine vk (Ao Au Al) ?_
 obtain ⟨x1,hx1,h⟩:=bnd h
 refine vk (Af (Gk hx1) Tryz.call157) ?_;refine vk (vbd GT BN BW) ?_
 refine stn ?_ Aw (by decide)
 refine rk [2] ?_;refine .ret ?_
 cases h
 exact ⟨_,⟨.inr rfl,AM,Aw,(by decide:(0:Nat)<6)⟩,rfl⟩
def JE (a0 : Int) : Option (Itm):=(some ((Itm.mk 2 (false,[],[]) a0 [])))
theorem NR {a0 : Int} {r : Itm} (h : JE a0=some r) :
  Fn Tryz.prog 228 [.i .i32 a0] (.d (.ag [.i .u8 r.kind,.b r.num.1,.sl (L r.num.2.1),.sl (L r.num.2.2),.i .i32 r.char,.sl (Ars r.box)])):=by
 unfold JE at h
 refine Fn.ofC (rs:=[.cell 2 83]) (nt:=5) Tryz.func228 rfl rfl rfl (by simp) rfl ?_;refine .sr ?_;refine vk (van (Ag BN) BW) ?_;refine rk [0,2] ?_;refine .sr ?_;refine vk (Aa) ?_;refine vk (vbd GT BN BW) ?_
 refine stn ?_ Aw (by decide)
 refine rk [2] ?_;refine .ret ?_
 cases h
 exact ⟨_,⟨.inr rfl,AM,Aw,(by decide:(0:Nat)<6)⟩,rfl⟩
def F7 (a0 : Itm) : Option (Arr):=(some ((Arr.mk [] [a0])))
theorem Ib {a0 : Itm} {r : Arr} (h : F7 a0=some r) :
  Fn Tryz.prog 70 [.ag [.i .u8 a0.kind,.b a0.num.1,.sl (L a0.num.2.1),.sl (L a0.num.2.2),.i .i32 a0.char,.sl (Ars a0.box)]] (.d (.ag [.sl (Is r.shape),.sl (Its r.items)])):=by
 unfold F7 at h
 refine Fn.ofC (rs:=[.cell 2 25]) (nt:=6) Tryz.func70 rfl rfl rfl (by simp) rfl ?_;refine .sr ?_;refine vk (vbx) ?_;refine vk (van (Ag A4) Bh) ?_;refine rk [1,2] ?_;refine .sr ?_;refine vk (Ao AM Aw) ?_;refine vk ((Gv (F4 a0) (EZ [a0]) EQ).deep) ?_;refine vk (vbd EA A4 Bh) ?_
 refine stn ?_ Ah (by decide)
 refine rk [2] ?_;refine .ret ?_
 cases h
 exact ⟨_,⟨.inr rfl,Ar,Ah,(by decide:(0:Nat)<2)⟩,rfl⟩
def Fo (a0 : Int) : Option (Arr):=((BR a0).bind fun x1=>((B5 x1).bind fun x2=>((F7 x2).bind fun x3=>(some (x3)))))
theorem HS {a0 : Int} {r : Arr} (h : Fo a0=some r) :
  Fn Tryz.prog 26 [.i .i64 a0] (.d (.ag [.sl (Is r.shape),.sl (Its r.items)])):=by
 unfold Fo at h
 refine Fn.ofC (rs:=[.cell 2 25]) (nt:=7) Tryz.func26 rfl rfl rfl (by simp) rfl ?_;refine .sr ?_;refine vk (van (Ag A4) Bh) ?_;refine rk [0,2] ?_;refine .sr ?_;refine vk (Aa) ?_
 obtain ⟨x1,hx1,h⟩:=bnd h
 refine vk (Af (Bx hx1) Tryz.call72) ?_
 obtain ⟨x2,hx2,h⟩:=bnd h
 refine vk (Af (Em hx2) Tryz.call71) ?_
 obtain ⟨x3,hx3,h⟩:=bnd h
 refine vk (Af (Ib hx3) Tryz.call70) ?_
 refine stn ?_ Ah (by decide)
 refine rk [2] ?_;refine .ret ?_
 cases h
 exact ⟨_,⟨.inr rfl,Ar,Ah,(by decide:(0:Nat)<2)⟩,rfl⟩
def Cm (a0 : Arr) (a1 : Cc) (K0 : (List Int)→(List Itm)→Option (Arr)) : Nat→Int→(List Int)→(List Itm)→Option (Arr)
 | 0,_,_,_=>none
 | k+1,s4,s5,s6=>(if s4<((List.length a0.items:Nat):Int) then ((rd? a0.items s4).bind fun x7=>((a1.g x7).bind fun x8=>((ap? 1466015503701 s6 [x8]).bind fun x9=>(Cm a0 a1 K0 k (w64 (s4+1)) s5 x9)))) else (K0 s5 s6))
def Cq (a0 : Arr) (a1 : Cc) : Option (Arr):=((Fp a0.shape).bind fun x1=>(jn (fun (z2 : (List Int)) (z3 : (List Itm))=>(some ((Arr.mk z2 z3)))) fun K0=>(Cm a0 a1 K0 Bi 0 x1 [])))
theorem En {a0 : Arr} {a1 : Cc} (oa1 : Q7 a1) {r : Arr} (h : Cq a0 a1=some r) :
  Fn Tryz.prog 174 [.ag [.sl (Is a0.shape),.sl (Its a0.items)],a1.dv] (.d (.ag [.sl (Is r.shape),.sl (Its r.items)])):=by
 unfold Cq at h
 refine Fn.ofC (rs:=[.cell 4 25]) (nt:=29) Tryz.func174 rfl rfl rfl (by simp) rfl ?_;refine .sr ?_;refine vk (vbx) ?_;refine vk (van (Ag A4) Bh) ?_;refine rk [1,2,4] ?_;refine .sr ?_;refine vk (vfa AY) ?_;refine vk (Am CG) ?_
 obtain ⟨x1,hx1,h⟩:=bnd h
 refine vk ((Af (Jr hx1) Tryz.call182).deep) ?_;refine vk (VW EA A4 (fun w I μ=>Mz w I μ)) ?_;refine vk (van (Ag A4) Bh) ?_
 refine Wn ?_ Ah (by decide)
 refine rk [1,2,4,5] ?_;refine .seq ?_;refine .sr ?_;refine vk (vfa AH) ?_;refine vk (Am BD) ?_;refine vk (Bk (AE _) (Cr _) Ct) ?_;refine vk (Aa) ?_;refine rk [1,4,5,13,14,15] ?_
 obtain ⟨K0,hK0,h⟩:=BS h
 refine AW.mr (σ:=(List Int) × (List Itm)) (fun p=>K0 p.1 p.2=some r) (fun p=>[(4,.nb [.sl (Is []),.sl (Its [])]),(5,.bp 0 0)]) (fun p=>[HO.box [.d (.sl (Is p.1)),.own 83 (Its p.2)]]) ?_ ?_
 ·skip
  refine .block ?_;refine .gh (Gh.nlOwnC (id:=0) (off:=1) 83 (by rw [Pj];decide)) ?_
  refine .loop (.gk [1,4,5,13,14,15] ?_)
  refine AL.ind (σ:=Nat × Int × (List Int) × (List Itm)) (m:=fun p=>p.1) (e:=fun p=>[(1,.d (a1.dv)),(4,.nb [.sl (Is []),.sl (Its [])]),(5,.bp 0 0),(13,.d (.sl (Its a0.items))),(14,.d (.i .i64 ((List.length a0.items:Nat):Int))),(15,.d (.i .i64 p.2.1))]) (h:=fun p=>[HO.box [.d (.sl (Is p.2.2.1)),.own 83 (Its p.2.2.2)]]) (I:=fun p=>Cm a0 a1 K0 p.1 p.2.1 p.2.2.1 p.2.2.2=some r) ?_ (Bi,0,x1,[]) h
  rintro ⟨k,s4,s5,s6⟩ h ih
  dsimp only at h ih ⊢
  rcases k with _ | k
  ·rw [Cm] at h;cases h
  rw [Cm] at h
  refine .sr ?_;refine vk (vbi) ?_;refine rk [1,4,5,13,14,15,16] ?_;refine .seq ?_
  by_cases hc:s4<((List.length a0.items:Nat):Int)
  ·replace h:=Ad hc h
   refine cnt (dT hc) ?_;refine .skip ?_
   show AW _ _ _ _ _ _
   refine .seq ?_;refine .block ?_;refine .sr ?_
   obtain ⟨x7,hx7,h⟩:=bnd h
   obtain ⟨nx7,hnx7,hxx7⟩:=AI hx7
   refine vk (vix nx7 hnx7 (Dn hxx7) rfl Dj) ?_;refine vk (Ao AM Aw) ?_;refine vk (van (Ag BN) BW) ?_
   refine stn ?_ Aw (by decide)
   refine rk [1,4,5,7,13,14,15] ?_;refine .drawn 6 A9 (by kernel_rfl) ?_;refine dv (EM AH) ?_;refine dv (QW (cs:=[.d (.sl (Is s5)),.own 83 (Its s6)]) rfl rfl BD) ?_;refine dv (Aa) ?_;refine dv (D4 AM Aw) ?_
   obtain ⟨x8,hx8,h⟩:=bnd h
   refine dv (NN (oa1 _ _ hx8)) ?_;refine dv ((Gv (F4 x8) (EZ [x8]) EQ).deep) ?_;refine dz ?_
   obtain ⟨x9,hx9,h⟩:=bnd h
   refine Ui Kj hx9 rfl rfl Nj ?_ I7 AE EQ
   refine RL.gk [1,4,5,7,13,14,15,19,21,22,23,24,25] ?_;refine vk (EM AH) ?_
   refine Ma (cs:=[.d (.sl (Is s5)),.un]) (c:=.un) rfl rfl ?_ Lp
   refine .nil ?_
   show AW _ _ _ _ _ _
   refine .gk [1,4,5,13,14,15] ?_;refine .region ?_;refine vk (vbi) ?_;refine vk (Aa) ?_;refine .nil ?_;refine AL.gk [1,4,5,13,14,15] ?_
   exact ih (k,(w64 (s4+1)),s5,x9) h (Nat.lt_succ_self _)
  replace h:=Ae hc h
  refine cnf (dF hc) ?_;refine .gk [4,5] ?_;refine .exit ?_
  exact jr (s5,s6) h
 rintro ⟨z2,z3⟩ h
 try dsimp only at h ⊢
 subst hK0
 show AW _ _ _ _ _ _
 refine .sr ?_;refine fz (p:=.c 0 1) ?_;refine vk (IT (cs:=[.d (.sl (Is z2)),.d (.sl (Its z3))]) (ds:=[.sl (Is z2),.sl (Its z3)]) rfl Ar Ah) ?_
 refine stn ?_ Ah (by decide)
 refine rk [4] ?_;refine .ret ?_
 cases h
 exact ⟨_,⟨.inr rfl,Ar,Ah,(by decide:(0:Nat)<2)⟩,rfl⟩
def DJ (rc_array_same : Itm→Option (Itm)) (a0 : Itm) (K0 : Int→Bool→(List Nat)→(List Nat)→Int→(List Arr)→Option (Itm)) : Nat→Int→Int→Bool→(List Nat)→(List Nat)→Int→(List Arr)→Option (Itm)
 | 0,_,_,_,_,_,_,_=>none
 | k+1,s8,s9,s10,s11,s12,s13,s14=>(if s8<((List.length a0.box:Nat):Int) then ((rd? a0.box s8).bind fun x15=>((Cq x15 (⟨.fn 173 [] [],fun x=>rc_array_same x⟩:Cc)).bind fun x16=>((ap? 2932031007402 s14 [x16]).bind fun x17=>(DJ rc_array_same a0 K0 k (w64 (s8+1)) s9 s10 s11 s12 s13 x17)))) else (K0 s9 s10 s11 s12 s13 s14))
def IV (rc_array_same : Itm→Option (Itm)) (a0 : Itm) : Option (Itm):=((CT a0.num).bind fun x1=>(jn (fun (z2 : Int) (z3 : Bool) (z4 : (List Nat)) (z5 : (List Nat)) (z6 : Int) (z7 : (List Arr))=>(some ((Itm.mk z2 (z3,z4,z5) z6 z7)))) fun K0=>(DJ rc_array_same a0 K0 Bi 0 a0.kind x1.1 x1.2.1 x1.2.2 a0.char [])))
theorem Qg {rc_array_same : Itm→Option (Itm)} (orc_array_same : ∀ x0 r,rc_array_same x0=some r→Fn Tryz.prog 173 [.ag [.i .u8 x0.kind,.b x0.num.1,.sl (L x0.num.2.1),.sl (L x0.num.2.2),.i .i32 x0.char,.sl (Ars x0.box)]] (.d (.ag [.i .u8 r.kind,.b r.num.1,.sl (L r.num.2.1),.sl (L r.num.2.2),.i .i32 r.char,.sl (Ars r.box)]))) {a0 : Itm} {r : Itm} (h : IV rc_array_same a0=some r) :
  Fn Tryz.prog 173 [.ag [.i .u8 a0.kind,.b a0.num.1,.sl (L a0.num.2.1),.sl (L a0.num.2.2),.i .i32 a0.char,.sl (Ars a0.box)]] (.d (.ag [.i .u8 r.kind,.b r.num.1,.sl (L r.num.2.1),.sl (L r.num.2.2),.i .i32 r.char,.sl (Ars r.box)])):=by
 unfold IV at h
 refine Fn.ofC (rs:=[.cell 2 83]) (nt:=30) Tryz.func173 rfl rfl rfl (by simp) rfl ?_;refine .sr ?_;refine vk (vbx) ?_;refine vk (van (Ag BN) BW) ?_;refine rk [1,2] ?_;refine .seq ?_;refine .drawn 9 A9 (by kernel_rfl) ?_;refine dv (vfa Bv) ?_;refine dv (Am AS) ?_;refine dv (vfa CX) ?_;refine dv (Am Cb) ?_;refine dv (vfa BB) ?_;refine dv (Ao Au Al) ?_
 obtain ⟨x1,hx1,h⟩:=bnd h
 refine dv (Af (Gk hx1) Tryz.call157) ?_;refine dv (VW GT BN (fun w I μ=>S8 w I μ)) ?_;refine dv (van (Ag BN) BW) ?_;refine dz ?_
 refine Wn ?_ Aw (by decide)
 refine rk [1,2,3] ?_;refine .seq ?_;refine .sr ?_;refine vk (vfa A7) ?_;refine vk (Am B8) ?_;refine vk (Bk (Bs _) (Ey _) Ew) ?_;refine vk (Aa) ?_;refine rk [2,3,15,16,17] ?_
 obtain ⟨K0,hK0,h⟩:=BS h
 refine AW.mr (σ:=Int × Bool × (List Nat) × (List Nat) × Int × (List Arr)) (fun p=>K0 p.1 p.2.1 p.2.2.1 p.2.2.2.1 p.2.2.2.2.1 p.2.2.2.2.2=some r) (fun p=>[(2,.nb [.i .u8 0,.b false,.sl (L []),.sl (L []),.i .i32 0,.sl (Ars [])]),(3,.bp 0 0)]) (fun p=>[HO.box [.d (.i .u8 p.1),.d (.b p.2.1),.d (.sl (L p.2.2.1)),.d (.sl (L p.2.2.2.1)),.d (.i .i32 p.2.2.2.2.1),.own 25 (Ars p.2.2.2.2.2)]]) ?_ ?_
 ·skip
  refine .block ?_;refine .gh (Gh.nlOwnC (id:=0) (off:=5) 25 (by rw [UD];decide)) ?_
  refine .loop (.gk [2,3,15,16,17] ?_)
  refine AL.ind (σ:=Nat × Int × Int × Bool × (List Nat) × (List Nat) × Int × (List Arr)) (m:=fun p=>p.1) (e:=fun p=>[(2,.nb [.i .u8 0,.b false,.sl (L []),.sl (L []),.i .i32 0,.sl (Ars [])]),(3,.bp 0 0),(15,.d (.sl (Ars a0.box))),(16,.d (.i .i64 ((List.length a0.box:Nat):Int))),(17,.d (.i .i64 p.2.1))]) (h:=fun p=>[HO.box [.d (.i .u8 p.2.2.1),.d (.b p.2.2.2.1),.d (.sl (L p.2.2.2.2.1)),.d (.sl (L p.2.2.2.2.2.1)),.d (.i .i32 p.2.2.2.2.2.2.1),.own 25 (Ars p.2.2.2.2.2.2.2)]]) (I:=fun p=>DJ rc_array_same a0 K0 p.1 p.2.1 p.2.2.1 p.2.2.2.1 p.2.2.2.2.1 p.2.2.2.2.2.1 p.2.2.2.2.2.2.1 p.2.2.2.2.2.2.2=some r) ?_ (Bi,0,a0.kind,x1.1,x1.2.1,x1.2.2,a0.char,[]) h
  rintro ⟨k,s8,s9,s10,s11,s12,s13,s14⟩ h ih
  dsimp only at h ih ⊢
  rcases k with _ | k
  ·rw [DJ] at h;cases h
  rw [DJ] at h
  refine .sr ?_;refine vk (vbi) ?_;refine rk [2,3,15,16,17,18] ?_;refine .seq ?_
  by_cases hc:s8<((List.length a0.box:Nat):Int)
  ·replace h:=Ad hc h
   refine cnt (dT hc) ?_;refine .skip ?_
   show AW _ _ _ _ _ _
   refine .seq ?_;refine .block ?_;refine .sr ?_
   obtain ⟨x15,hx15,h⟩:=bnd h
   obtain ⟨nx15,hnx15,hxx15⟩:=AI hx15
   refine vk (vix nx15 hnx15 (EV hxx15) rfl E0) ?_;refine vk (Ao Ar Ah) ?_;refine vk (van (Ag A4) Bh) ?_
   refine stn ?_ Ah (by decide)
   refine rk [2,3,5,15,16,17] ?_;refine .drawn 5 A9 (by kernel_rfl) ?_;refine dv (EM A7) ?_;refine dv (QW (cs:=[.d (.i .u8 s9),.d (.b s10),.d (.sl (L s11)),.d (.sl (L s12)),.d (.i .i32 s13),.own 25 (Ars s14)]) rfl rfl B8) ?_;refine dv (D4 Ar Ah) ?_
   obtain ⟨x16,hx16,h⟩:=bnd h
   refine dv (Af (En (Cp Tryz.call173 (fun _ _ h=>orc_array_same _ _ h)) hx16) Tryz.call174) ?_;refine dv ((Gv (Mn x16) (Kk [x16]) Lr).deep) ?_;refine dz ?_
   obtain ⟨x17,hx17,h⟩:=bnd h
   refine Ui SO hx17 rfl rfl Vn ?_ Ps Bs Lr
   refine RL.gk [2,3,5,15,16,17,21,23,24,25,26] ?_;refine vk (EM A7) ?_
   refine Ma (cs:=[.d (.i .u8 s9),.d (.b s10),.d (.sl (L s11)),.d (.sl (L s12)),.d (.i .i32 s13),.un]) (c:=.un) rfl rfl ?_ V8
   refine .nil ?_
   show AW _ _ _ _ _ _
   refine .gk [2,3,15,16,17] ?_;refine .region ?_;refine vk (vbi) ?_;refine vk (Aa) ?_;refine .nil ?_;refine AL.gk [2,3,15,16,17] ?_
   exact ih (k,(w64 (s8+1)),s9,s10,s11,s12,s13,x17) h (Nat.lt_succ_self _)
  replace h:=Ae hc h
  refine cnf (dF hc) ?_;refine .gk [2,3] ?_;refine .exit ?_
  exact jr (s9,s10,s11,s12,s13,s14) h
 rintro ⟨z2,z3,z4,z5,z6,z7⟩ h
 try dsimp only at h ⊢
 subst hK0
 show AW _ _ _ _ _ _
 refine .sr ?_;refine fz (p:=.c 0 5) ?_;refine vk (IT (cs:=[.d (.i .u8 z2),.d (.b z3),.d (.sl (L z4)),.d (.sl (L z5)),.d (.i .i32 z6),.d (.sl (Ars z7))]) (ds:=[.i .u8 z2,.b z3,.sl (L z4),.sl (L z5),.i .i32 z6,.sl (Ars z7)]) rfl AM Aw) ?_
 refine stn ?_ Aw (by decide)
 refine rk [2] ?_;refine .ret ?_
 cases h
 exact ⟨_,⟨.inr rfl,AM,Aw,(by decide:(0:Nat)<6)⟩,rfl⟩
def Fe : Nat→Itm→Option (Itm)
 | 0,_=>none
 | k+1,a0=>IV (Fe k) a0
theorem Ks : ∀ (k : Nat) (a0 : Itm) (r : Itm),Fe k a0=some r→Fn Tryz.prog 173 [.ag [.i .u8 a0.kind,.b a0.num.1,.sl (L a0.num.2.1),.sl (L a0.num.2.2),.i .i32 a0.char,.sl (Ars a0.box)]] (.d (.ag [.i .u8 r.kind,.b r.num.1,.sl (L r.num.2.1),.sl (L r.num.2.2),.i .i32 r.char,.sl (Ars r.box)]))
 | 0,_,_,h=>by cases h
 | k+1,a0,_,h=>Qg (Ks k) (show IV (Fe k) a0=some _ from h)
def FT (a0 : Itm) : Option (Itm):=Fe (a0.size+1) a0
theorem Gd {a0 : Itm} {r : Itm} (h : FT a0=some r) : Fn Tryz.prog 173 [.ag [.i .u8 a0.kind,.b a0.num.1,.sl (L a0.num.2.1),.sl (L a0.num.2.2),.i .i32 a0.char,.sl (Ars a0.box)]] (.d (.ag [.i .u8 r.kind,.b r.num.1,.sl (L r.num.2.1),.sl (L r.num.2.2),.i .i32 r.char,.sl (Ars r.box)])):=Ks _ a0 r h
def Ho (rc_array_typed : Itm→Option (Itm)) (a0 : Itm) : Option (Itm):=(if a0.kind=1 then ((BR 0).bind fun x1=>((B5 x1).bind fun x2=>(some (x2)))) else (if a0.kind=2 then ((JE 32).bind fun x3=>(some (x3))) else ((rd? a0.box 0).bind fun x4=>((Cq x4 (⟨.fn 183 [] [],fun x=>rc_array_typed x⟩ : Cc)).bind fun x5=>(some ((Itm.mk 3 (false,[],[]) 0 [x5])))))))
theorem Pc {rc_array_typed : Itm→Option (Itm)} (orc_array_typed : ∀ x0 r,rc_array_typed x0=some r→Fn Tryz.prog 183 [.ag [.i .u8 x0.kind,.b x0.num.1,.sl (L x0.num.2.1),.sl (L x0.num.2.2),.i .i32 x0.char,.sl (Ars x0.box)]] (.d (.ag [.i .u8 r.kind,.b r.num.1,.sl (L r.num.2.1),.sl (L r.num.2.2),.i .i32 r.char,.sl (Ars r.box)]))) {a0 : Itm} {r : Itm} (h : Ho rc_array_typed a0=some r) :
  Fn Tryz.prog 183 [.ag [.i .u8 a0.kind,.b a0.num.1,.sl (L a0.num.2.1),.sl (L a0.num.2.2),.i .i32 a0.char,.sl (Ars a0.box)]] (.d (.ag [.i .u8 r.kind,.b r.num.1,.sl (L r.num.2.1),.sl (L r.num.2.2),.i .i32 r.char,.sl (Ars r.box)])):=by
 unfold Ho at h
 refine Fn.ofC (rs:=[.cell 2 83]) (nt:=19) Tryz.func183 rfl rfl rfl (by simp) rfl ?_;refine .sr ?_;refine vk (vbx) ?_;refine vk (van (Ag BN) BW) ?_;refine rk [1,2] ?_;refine .seq ?_;refine .sr ?_;refine vk (vfa Bv) ?_;refine vk (Am AS) ?_;refine rk [1,2,4] ?_;refine .block ?_;refine .sr ?_;refine vk (vbi) ?_;refine ar [1,2,4,5] ?_
 by_cases hc:a0.kind=1
 ·replace h:=Ad hc h
  refine cnt (dT hc) ?_;refine .sr ?_
  obtain ⟨x1,hx1,h⟩:=bnd h
  refine vk (Af (Bx hx1) Tryz.call72) ?_
  obtain ⟨x2,hx2,h⟩:=bnd h
  refine vk (Af (Em hx2) Tryz.call71) ?_
  refine stn ?_ Aw (by decide)
  refine rk [1,2] ?_;refine .ret ?_
  cases h
  exact ⟨_,⟨.inr rfl,AM,Aw,(by decide:(0:Nat)<6)⟩,rfl⟩
 replace h:=Ae hc h
 refine cnf (dF hc) ?_;refine .sr ?_;refine vk (vbi) ?_;refine ar [1,2,9] ?_
 by_cases hc:a0.kind=2
 ·replace h:=Ad hc h
  refine cnt (dT hc) ?_;refine .sr ?_
  obtain ⟨x3,hx3,h⟩:=bnd h
  refine vk (Af (NR hx3) Tryz.call228) ?_
  refine stn ?_ Aw (by decide)
  refine rk [1,2] ?_;refine .ret ?_
  cases h
  exact ⟨_,⟨.inr rfl,AM,Aw,(by decide:(0:Nat)<6)⟩,rfl⟩
 replace h:=Ae hc h
 refine cnf (dF hc) ?_;refine .skip ?_
 show AW _ _ _ _ _ _
 refine .sr ?_;refine vk (vfa A7) ?_;refine vk (Am B8) ?_
 obtain ⟨x4,hx4,h⟩:=bnd h
 obtain ⟨nx4,hnx4,hxx4⟩:=AI hx4
 refine vk (vix nx4 hnx4 (EV hxx4) rfl E0) ?_;refine vk (Ao Ar Ah) ?_
 obtain ⟨x5,hx5,h⟩:=bnd h
 refine vk (Af (En (Cp Tryz.call183 (fun _ _ h=>orc_array_typed _ _ h)) hx5) Tryz.call174) ?_;refine vk ((Gv (Mn x5) (Kk [x5]) Lr).deep) ?_;refine vk (vbd GT BN BW) ?_
 refine stn ?_ Aw (by decide)
 refine rk [2] ?_;refine .ret ?_
 cases h
 exact ⟨_,⟨.inr rfl,AM,Aw,(by decide:(0:Nat)<6)⟩,rfl⟩
def Fd : Nat→Itm→Option (Itm)
 | 0,_=>none
 | k+1,a0=>Ho (Fd k) a0
theorem Jo : ∀ (k : Nat) (a0 : Itm) (r : Itm),Fd k a0=some r→Fn Tryz.prog 183 [.ag [.i .u8 a0.kind,.b a0.num.1,.sl (L a0.num.2.1),.sl (L a0.num.2.2),.i .i32 a0.char,.sl (Ars a0.box)]] (.d (.ag [.i .u8 r.kind,.b r.num.1,.sl (L r.num.2.1),.sl (L r.num.2.2),.i .i32 r.char,.sl (Ars r.box)]))
 | 0,_,_,h=>by cases h
 | k+1,a0,_,h=>Pc (Jo k) (show Ho (Fd k) a0=some _ from h)
def ND (a0 : Itm) : Option (Itm):=Fd (a0.size+1) a0
theorem Qs {a0 : Itm} {r : Itm} (h : ND a0=some r) : Fn Tryz.prog 183 [.ag [.i .u8 a0.kind,.b a0.num.1,.sl (L a0.num.2.1),.sl (L a0.num.2.2),.i .i32 a0.char,.sl (Ars a0.box)]] (.d (.ag [.i .u8 r.kind,.b r.num.1,.sl (L r.num.2.1),.sl (L r.num.2.2),.i .i32 r.char,.sl (Ars r.box)])):=Jo _ a0 r h
def Bb (a0 : (List Int)) (a1 : (List Int)) (K0 : Bool→Option (Bool)) : Nat→Bool→Int→Option (Bool)
 | 0,_,_=>none
 | k+1,s2,s3=>(if s3<((List.length a0:Nat):Int) then ((rd? a0 s3).bind fun x4=>((rd? a1 s3).bind fun x5=>(if x4=x5 then (Bb a0 a1 K0 k s2 (w64 (s3+1))) else (some (false))))) else (K0 s2))
def BI (a0 : (List Int)) (a1 : (List Int)) : Option (Bool):=(if ((List.length a0 : Nat) : Int)=((List.length a1 : Nat) : Int) then (jn (fun (z1 : Bool)=>(some (true))) fun K0=>(Bb a0 a1 K0 Bi false 0)) else (some (false)))
theorem EC {a0 : (List Int)} {a1 : (List Int)} {r : Bool} (h : BI a0 a1=some r) :
  Fn Tryz.prog 109 [.sl (Is a0),.sl (Is a1)] (.d (.b r)):=by
 unfold BI at h
 refine Fn.o1 4 26 Tryz.func109 ?_;refine .sr ?_;refine ar [0,1,4] ?_;refine .seq ?_;refine .sr ?_;refine vk (Aa) ?_;refine vk (Bk (A5 _) (Ef _) Ec) ?_;refine vk (Aa) ?_;refine vk (Bk (A5 _) (Ef _) Ec) ?_;refine vk (vbi) ?_;refine rk [0,1,4,10] ?_
 by_cases hc:((List.length a0:Nat):Int)=((List.length a1:Nat):Int)
 ·replace h:=Ad hc h
  refine cnf (ntf (dT hc)) ?_;refine .skip ?_
  show AW _ _ _ _ _ _
  refine .seq ?_;refine .sr ?_;refine vk (Aa) ?_;refine vk (Bk (A5 _) (Ef _) Ec) ?_;refine vk (Aa) ?_;refine rk [0,1,4,12,13] ?_
  obtain ⟨K0,hK0,h⟩:=BS h
  refine AW.mr (σ:=Bool) (fun p=>K0 p=some r) (fun p=>[(4,.d (.b p))]) (fun p=>[]) ?_ ?_
  ·skip
   refine .block ?_
   refine .loop (.gk [0,1,4,12,13] ?_)
   refine AL.ind (σ:=Nat × Bool × Int) (m:=fun p=>p.1) (e:=fun p=>[(0,.d (.sl (Is a0))),(1,.d (.sl (Is a1))),(4,.d (.b p.2.1)),(12,.d (.i .i64 ((List.length a0:Nat):Int))),(13,.d (.i .i64 p.2.2))]) (h:=fun p=>[]) (I:=fun p=>Bb a0 a1 K0 p.1 p.2.1 p.2.2=some r) ?_ (Bi,false,0) h
   rintro ⟨k,s2,s3⟩ h ih
   dsimp only at h ih ⊢
   rcases k with _ | k
   ·rw [Bb] at h;cases h
   rw [Bb] at h
   refine .sr ?_;refine vk (vbi) ?_;refine rk [0,1,4,12,13,14] ?_;refine .seq ?_
   by_cases hc:s3<((List.length a0:Nat):Int)
   ·replace h:=Ad hc h
    refine cnt (dT hc) ?_;refine .skip ?_
    show AW _ _ _ _ _ _
    refine .seq ?_;refine .block ?_;refine .sr ?_;refine vk (Aa) ?_;refine ar [0,1,4,5,12,13] ?_;refine .seq ?_;refine .drawn 9 A9 (by kernel_rfl) ?_;refine dv (Aa) ?_;refine dv (Aa) ?_
    obtain ⟨x4,hx4,h⟩:=bnd h
    obtain ⟨nx4,hnx4,hxx4⟩:=AI hx4
    refine dv (vix nx4 hnx4 (GJ hxx4) rfl E4) ?_;refine dv (Am Ca) ?_;refine dv (Aa) ?_;refine dv (Aa) ?_
    obtain ⟨x5,hx5,h⟩:=bnd h
    obtain ⟨nx5,hnx5,hxx5⟩:=AI hx5
    refine dv (vix nx5 hnx5 (GJ hxx5) rfl E4) ?_;refine dv (Am Ca) ?_;refine dv (vbi) ?_;refine dz ?_;refine rk [0,1,4,12,13,24] ?_
    by_cases hc:x4=x5
    ·replace h:=Ad hc h
     refine cnf (ntf (dT hc)) ?_;refine .skip ?_
     show AW _ _ _ _ _ _
     refine .region ?_;refine vk (vbi) ?_;refine vk (Aa) ?_;refine .nil ?_;refine AL.gk [0,1,4,12,13] ?_
     exact ih (k,s2,(w64 (s3+1))) h (Nat.lt_succ_self _)
    replace h:=Ae hc h
    refine cnt (ntt (dF hc)) ?_;refine .sr ?_;refine ar [0,1,4,12,13] ?_;refine .ret ?_
    cases h
    exact ⟨rfl,rfl⟩
   replace h:=Ae hc h
   refine cnf (dF hc) ?_;refine .gk [4] ?_;refine .exit ?_
   exact jr (s2) h
  rintro z1 h
  try dsimp only at h ⊢
  subst hK0
  show AW _ _ _ _ _ _
  refine .sr ?_;refine ar [4] ?_;refine .ret ?_
  cases h
  exact ⟨rfl,rfl⟩
 replace h:=Ae hc h
 refine cnt (ntt (dF hc)) ?_;refine .sr ?_;refine ar [0,1,4] ?_;refine .ret ?_
 cases h
 exact ⟨rfl,rfl⟩
def Ax (a0 : (List Itm)) (a1 : (List Itm)) (a2 : Dc) (K0 : Bool→Option (Bool)) : Nat→Bool→Int→Option (Bool)
 | 0,_,_=>none
 | k+1,s2,s3=>(if s3<((List.length a0:Nat):Int) then ((rd? a0 s3).bind fun x4=>((rd? a1 s3).bind fun x5=>((a2.g (x4,x5)).bind fun x6=>(if x6=true then (Ax a0 a1 a2 K0 k s2 (w64 (s3+1))) else (some (false)))))) else (K0 s2))
def AU (a0 : (List Itm)) (a1 : (List Itm)) (a2 : Dc) : Option (Bool):=(if ((List.length a0 : Nat) : Int)=((List.length a1 : Nat) : Int) then (jn (fun (z1 : Bool)=>(some (true))) fun K0=>(Ax a0 a1 a2 K0 Bi false 0)) else (some (false)))
theorem Cd {a0 : (List Itm)} {a1 : (List Itm)} {a2 : Dc} (oa2 : Le a2) {r : Bool} (h : AU a0 a1 a2=some r) :
  Fn Tryz.prog 110 [.sl (Its a0),.sl (Its a1),a2.dv] (.d (.b r)):=by
 unfold AU at h
 refine Fn.o1 6 32 Tryz.func110 ?_;refine .sr ?_;refine ar [0,1,2,6] ?_;refine .seq ?_;refine .sr ?_;refine vk (Aa) ?_;refine vk (Bk (AE _) (Cr _) Ct) ?_;refine vk (Aa) ?_;refine vk (Bk (AE _) (Cr _) Ct) ?_;refine vk (vbi) ?_;refine rk [0,1,2,6,14] ?_
 by_cases hc:((List.length a0:Nat):Int)=((List.length a1:Nat):Int)
 ·replace h:=Ad hc h
  refine cnf (ntf (dT hc)) ?_;refine .skip ?_
  show AW _ _ _ _ _ _
  refine .seq ?_;refine .sr ?_;refine vk (Aa) ?_;refine vk (Bk (AE _) (Cr _) Ct) ?_;refine vk (Aa) ?_;refine rk [1,2,6,15,16,17] ?_
  obtain ⟨K0,hK0,h⟩:=BS h
  refine AW.mr (σ:=Bool) (fun p=>K0 p=some r) (fun p=>[(6,.d (.b p))]) (fun p=>[]) ?_ ?_
  ·skip
   refine .block ?_
   refine .loop (.gk [1,2,6,15,16,17] ?_)
   refine AL.ind (σ:=Nat × Bool × Int) (m:=fun p=>p.1) (e:=fun p=>[(1,.d (.sl (Its a1))),(2,.d (a2.dv)),(6,.d (.b p.2.1)),(15,.d (.sl (Its a0))),(16,.d (.i .i64 ((List.length a0:Nat):Int))),(17,.d (.i .i64 p.2.2))]) (h:=fun p=>[]) (I:=fun p=>Ax a0 a1 a2 K0 p.1 p.2.1 p.2.2=some r) ?_ (Bi,false,0) h
   rintro ⟨k,s2,s3⟩ h ih
   dsimp only at h ih ⊢
   rcases k with _ | k
   ·rw [Ax] at h;cases h
   rw [Ax] at h
   refine .sr ?_;refine vk (vbi) ?_;refine rk [1,2,6,15,16,17,18] ?_;refine .seq ?_
   by_cases hc:s3<((List.length a0:Nat):Int)
   ·replace h:=Ad hc h
    refine cnt (dT hc) ?_;refine .skip ?_
    show AW _ _ _ _ _ _
    refine .seq ?_;refine .block ?_;refine .sr ?_;refine vk (Aa) ?_
    obtain ⟨x4,hx4,h⟩:=bnd h
    obtain ⟨nx4,hnx4,hxx4⟩:=AI hx4
    refine vk (vix nx4 hnx4 (Dn hxx4) rfl Dj) ?_;refine vk (Ao AM Aw) ?_;refine vk (van (Ag BN) BW) ?_;refine asd ?_
    refine stn ?_ Aw (by decide)
    refine rk [1,2,6,7,8,15,16,17] ?_;refine .sr ?_;refine vk (Aa) ?_;refine vk (Aa) ?_
    obtain ⟨x5,hx5,h⟩:=bnd h
    obtain ⟨nx5,hnx5,hxx5⟩:=AI hx5
    refine vk (vix nx5 hnx5 (Dn hxx5) rfl Dj) ?_;refine vk (Ao AM Aw) ?_;refine vk (van (Ag BN) BW) ?_
    refine stn ?_ Aw (by decide)
    refine rk [1,2,6,8,9,15,16,17] ?_;refine .sr ?_;refine vk (Aa) ?_;refine vk (D4 AM Aw) ?_;refine vk (D4 AM Aw) ?_
    obtain ⟨x6,hx6,h⟩:=bnd h
    refine vk (NN (oa2 _ _ hx6)) ?_;refine vk (vnt) ?_;refine rk [1,2,6,15,16,17,30] ?_
    by_cases hc:x6=true
    ·replace h:=Ad hc h
     refine cnf (ntf hc) ?_;refine .skip ?_
     show AW _ _ _ _ _ _
     refine .region ?_;refine vk (vbi) ?_;refine vk (Aa) ?_;refine .nil ?_;refine AL.gk [1,2,6,15,16,17] ?_
     exact ih (k,s2,(w64 (s3+1))) h (Nat.lt_succ_self _)
    replace h:=Ae hc h
    refine cnt (ntt (bf hc)) ?_;refine .sr ?_;refine ar [1,2,6,15,16,17] ?_;refine .ret ?_
    cases h
    exact ⟨rfl,rfl⟩
   replace h:=Ae hc h
   refine cnf (dF hc) ?_;refine .gk [6] ?_;refine .exit ?_
   exact jr (s2) h
  rintro z1 h
  try dsimp only at h ⊢
  subst hK0
  show AW _ _ _ _ _ _
  refine .sr ?_;refine ar [6] ?_;refine .ret ?_
  cases h
  exact ⟨rfl,rfl⟩
 replace h:=Ae hc h
 refine cnt (ntt (dF hc)) ?_;refine .sr ?_;refine ar [0,1,2,6] ?_;refine .ret ?_
 cases h
 exact ⟨rfl,rfl⟩
def Av (a0 : (List Arr)) (a1 : (List Arr)) (a2 : Dl) (K0 : Bool→Option (Bool)) : Nat→Bool→Int→Option (Bool)
 | 0,_,_=>none
 | k+1,s2,s3=>(if s3<((List.length a0:Nat):Int) then ((rd? a0 s3).bind fun x4=>((rd? a1 s3).bind fun x5=>((a2.g (x4,x5)).bind fun x6=>(if x6=true then (Av a0 a1 a2 K0 k s2 (w64 (s3+1))) else (some (false)))))) else (K0 s2))
def AN (a0 : (List Arr)) (a1 : (List Arr)) (a2 : Dl) : Option (Bool):=(if ((List.length a0 : Nat) : Int)=((List.length a1 : Nat) : Int) then (jn (fun (z1 : Bool)=>(some (true))) fun K0=>(Av a0 a1 a2 K0 Bi false 0)) else (some (false)))
theorem BY {a0 : (List Arr)} {a1 : (List Arr)} {a2 : Dl} (oa2 : Ld a2) {r : Bool} (h : AN a0 a1 a2=some r) :
  Fn Tryz.prog 113 [.sl (Ars a0),.sl (Ars a1),a2.dv] (.d (.b r)):=by
 unfold AN at h
 refine Fn.o1 6 32 Tryz.func113 ?_;refine .sr ?_;refine ar [0,1,2,6] ?_;refine .seq ?_;refine .sr ?_;refine vk (Aa) ?_;refine vk (Bk (Bs _) (Ey _) Ew) ?_;refine vk (Aa) ?_;refine vk (Bk (Bs _) (Ey _) Ew) ?_;refine vk (vbi) ?_;refine rk [0,1,2,6,14] ?_
 by_cases hc:((List.length a0:Nat):Int)=((List.length a1:Nat):Int)
 ·replace h:=Ad hc h
  refine cnf (ntf (dT hc)) ?_;refine .skip ?_
  show AW _ _ _ _ _ _
  refine .seq ?_;refine .sr ?_;refine vk (Aa) ?_;refine vk (Bk (Bs _) (Ey _) Ew) ?_;refine vk (Aa) ?_;refine rk [1,2,6,15,16,17] ?_
  obtain ⟨K0,hK0,h⟩:=BS h
  refine AW.mr (σ:=Bool) (fun p=>K0 p=some r) (fun p=>[(6,.d (.b p))]) (fun p=>[]) ?_ ?_
  ·skip
   refine .block ?_
   refine .loop (.gk [1,2,6,15,16,17] ?_)
   refine AL.ind (σ:=Nat × Bool × Int) (m:=fun p=>p.1) (e:=fun p=>[(1,.d (.sl (Ars a1))),(2,.d (a2.dv)),(6,.d (.b p.2.1)),(15,.d (.sl (Ars a0))),(16,.d (.i .i64 ((List.length a0:Nat):Int))),(17,.d (.i .i64 p.2.2))]) (h:=fun p=>[]) (I:=fun p=>Av a0 a1 a2 K0 p.1 p.2.1 p.2.2=some r) ?_ (Bi,false,0) h
   rintro ⟨k,s2,s3⟩ h ih
   dsimp only at h ih ⊢
   rcases k with _ | k
   ·rw [Av] at h;cases h
   rw [Av] at h
   refine .sr ?_;refine vk (vbi) ?_;refine rk [1,2,6,15,16,17,18] ?_;refine .seq ?_
   by_cases hc:s3<((List.length a0:Nat):Int)
   ·replace h:=Ad hc h
    refine cnt (dT hc) ?_;refine .skip ?_
    show AW _ _ _ _ _ _
    refine .seq ?_;refine .block ?_;refine .sr ?_;refine vk (Aa) ?_
    obtain ⟨x4,hx4,h⟩:=bnd h
    obtain ⟨nx4,hnx4,hxx4⟩:=AI hx4
    refine vk (vix nx4 hnx4 (EV hxx4) rfl E0) ?_;refine vk (Ao Ar Ah) ?_;refine vk (van (Ag A4) Bh) ?_;refine asd ?_
    refine stn ?_ Ah (by decide)
    refine rk [1,2,6,7,8,15,16,17] ?_;refine .sr ?_;refine vk (Aa) ?_;refine vk (Aa) ?_
    obtain ⟨x5,hx5,h⟩:=bnd h
    obtain ⟨nx5,hnx5,hxx5⟩:=AI hx5
    refine vk (vix nx5 hnx5 (EV hxx5) rfl E0) ?_;refine vk (Ao Ar Ah) ?_;refine vk (van (Ag A4) Bh) ?_
    refine stn ?_ Ah (by decide)
    refine rk [1,2,6,8,9,15,16,17] ?_;refine .sr ?_;refine vk (Aa) ?_;refine vk (D4 Ar Ah) ?_;refine vk (D4 Ar Ah) ?_
    obtain ⟨x6,hx6,h⟩:=bnd h
    refine vk (NN (oa2 _ _ hx6)) ?_;refine vk (vnt) ?_;refine rk [1,2,6,15,16,17,30] ?_
    by_cases hc:x6=true
    ·replace h:=Ad hc h
     refine cnf (ntf hc) ?_;refine .skip ?_
     show AW _ _ _ _ _ _
     refine .region ?_;refine vk (vbi) ?_;refine vk (Aa) ?_;refine .nil ?_;refine AL.gk [1,2,6,15,16,17] ?_
     exact ih (k,s2,(w64 (s3+1))) h (Nat.lt_succ_self _)
    replace h:=Ae hc h
    refine cnt (ntt (bf hc)) ?_;refine .sr ?_;refine ar [1,2,6,15,16,17] ?_;refine .ret ?_
    cases h
    exact ⟨rfl,rfl⟩
   replace h:=Ae hc h
   refine cnf (dF hc) ?_;refine .gk [6] ?_;refine .exit ?_
   exact jr (s2) h
  rintro z1 h
  try dsimp only at h ⊢
  subst hK0
  show AW _ _ _ _ _ _
  refine .sr ?_;refine ar [6] ?_;refine .ret ?_
  cases h
  exact ⟨rfl,rfl⟩
 replace h:=Ae hc h
 refine cnt (ntt (dF hc)) ?_;refine .sr ?_;refine ar [0,1,2,6] ?_;refine .ret ?_
 cases h
 exact ⟨rfl,rfl⟩
def Lq (rc_array_equal : Arr→Arr→Option (Bool)) (a0 : Itm) (a1 : Itm) : Option (Bool):=(if a0.kind=a1.kind then (Option.bind ((if a0.char=a1.char then (if (a0.num.1 == a1.num.1)=true then ((J3 a0.num.2.1 a1.num.2.1).bind fun x2=>(if x2=true then ((J3 a0.num.2.2 a1.num.2.2).bind fun x3=>(if x3=true then ((AN a0.box a1.box (⟨.fn 37 [] [],fun x=>rc_array_equal x.1 x.2⟩ : Dl)).bind fun x4=>(some x4)) else (some false))) else (some false))) else (some false)) else (some false)) : Option (Bool)) fun (z1 : Bool)=>(some (z1))) else (some (false)))
theorem PL {rc_array_equal : Arr→Arr→Option (Bool)} (orc_array_equal : ∀ x0 x1 r,rc_array_equal x0 x1=some r→Fn Tryz.prog 37 [.ag [.sl (Is x0.shape),.sl (Its x0.items)],.ag [.sl (Is x1.shape),.sl (Its x1.items)]] (.d (.b r))) {a0 : Itm} {a1 : Itm} {r : Bool} (h : Lq rc_array_equal a0 a1=some r) :
  Fn Tryz.prog 111 [.ag [.i .u8 a0.kind,.b a0.num.1,.sl (L a0.num.2.1),.sl (L a0.num.2.2),.i .i32 a0.char,.sl (Ars a0.box)],.ag [.i .u8 a1.kind,.b a1.num.1,.sl (L a1.num.2.1),.sl (L a1.num.2.2),.i .i32 a1.char,.sl (Ars a1.box)]] (.d (.b r)):=by
 unfold Lq at h
 refine Fn.o1 4 50 Tryz.func111 ?_;refine .sr ?_;refine vk (vbx) ?_;refine vk (vbx) ?_;refine ar [2,3,4] ?_;refine .seq ?_;refine .sr ?_;refine vk (vfa Bv) ?_;refine vk (Am AS) ?_;refine rk [2,3,4,6] ?_;refine .block ?_;refine .sr ?_;refine vk (vfa Bv) ?_;refine vk (Am AS) ?_;refine vk (vbi) ?_;refine ar [2,3,4,7] ?_
 by_cases hc:a0.kind=a1.kind
 ·replace h:=Ad hc h
  refine cnt (dT hc) ?_;refine .seq ?_
  obtain ⟨z1,hz,h⟩:=bnd h
  refine AW.mr (σ:=Unit) (fun _=>True) (fun _=>[(4,.d (.b z1))]) (fun _=>[]) ?_ ?_
  ·skip
   refine .region ?_;refine vk (vfa CX) ?_;refine vk (Am Cb) ?_;refine vk (vfa CX) ?_;refine vk (Am Cb) ?_;refine vk (vbi) ?_
   by_cases hc:a0.char=a1.char
   ·replace hz:=Ad hc hz
    have hb0:(decide (a0.char=a1.char))=true:=(dT hc)
    refine vk (VOK.lit (Aa) hb0) ?_;refine vk (vfa BB) ?_;refine vk (vfa CQ) ?_;refine vk (Am BJ) ?_;refine vk (vfa BB) ?_;refine vk (vfa CQ) ?_;refine vk (Am BJ) ?_;refine vk (WF (.inl rfl) bo) ?_;refine vk (Ai) ?_
    by_cases hc:(a0.num.1 == a1.num.1)=true
    ·replace hz:=Ad hc hz
     have hb1:(a0.num.1 == a1.num.1)=true:=hc
     refine vk (VOK.lit (Aa) hb1) ?_;refine vk (vfa BB) ?_;refine vk (vfa BK) ?_;refine vk (Am CS) ?_;refine vk (vfa BB) ?_;refine vk (vfa BK) ?_;refine vk (Am CS) ?_
     obtain ⟨x2,hx2,hz⟩:=bnd hz
     refine vk (Af (HV hx2) Tryz.call112) ?_;refine vk (Ai) ?_
     by_cases hc:x2=true
     ·replace hz:=Ad hc hz
      have hb2:x2=true:=hc
      refine vk (VOK.lit (Aa) hb2) ?_;refine vk (vfa BB) ?_;refine vk (vfa Ev) ?_;refine vk (Am CS) ?_;refine vk (vfa BB) ?_;refine vk (vfa Ev) ?_;refine vk (Am CS) ?_
      obtain ⟨x3,hx3,hz⟩:=bnd hz
      refine vk (Af (HV hx3) Tryz.call112) ?_;refine vk (Ai) ?_
      by_cases hc:x3=true
      ·replace hz:=Ad hc hz
       have hb3:x3=true:=hc
       refine vk (VOK.lit (Aa) hb3) ?_;refine vk (vfa A7) ?_;refine vk (Am B8) ?_;refine vk (vfa A7) ?_;refine vk (Am B8) ?_
       obtain ⟨x4,hx4,hz⟩:=bnd hz
       refine vk (Af (BY (Cp Tryz.call37 (fun _ _ h=>orc_array_equal _ _ _ h)) hx4) Tryz.call113) ?_;refine vk (Ai) ?_;refine asd ?_;refine RL.gk [4] ?_;refine .nil ?_
       cases hz
       exact jr () trivial
      replace hz:=Ae hc hz
      have hb3:x3=false:=(bf hc)
      refine vk (VOK.lit (Aa) hb3) ?_;refine gf ?_;refine gf ?_;refine gf ?_;refine gf ?_;refine gf ?_;refine vk (Ai) ?_;refine asd ?_;refine RL.gk [4] ?_;refine .nil ?_
      cases hz
      exact jr () trivial
     replace hz:=Ae hc hz
     have hb2:x2=false:=(bf hc)
     refine vk (VOK.lit (Aa) hb2) ?_;refine gf ?_;refine gf ?_;refine gf ?_;refine gf ?_;refine gf ?_;refine gf ?_;refine gf ?_;refine vk (Ai) ?_;refine vk (Aa) ?_;refine gf ?_;refine gf ?_;refine gf ?_;refine gf ?_;refine gf ?_;refine vk (Ai) ?_;refine asd ?_;refine RL.gk [4] ?_;refine .nil ?_
     cases hz
     exact jr () trivial
    replace hz:=Ae hc hz
    have hb1:(a0.num.1 == a1.num.1)=false:=(bf hc)
    refine vk (VOK.lit (Aa) hb1) ?_;refine gf ?_;refine gf ?_;refine gf ?_;refine gf ?_;refine gf ?_;refine gf ?_;refine gf ?_;refine vk (Ai) ?_;refine vk (Aa) ?_;refine gf ?_;refine gf ?_;refine gf ?_;refine gf ?_;refine gf ?_;refine gf ?_;refine gf ?_;refine vk (Ai) ?_;refine vk (Aa) ?_;refine gf ?_;refine gf ?_;refine gf ?_;refine gf ?_;refine gf ?_;refine vk (Ai) ?_;refine asd ?_;refine RL.gk [4] ?_;refine .nil ?_
    cases hz
    exact jr () trivial
   replace hz:=Ae hc hz
   have hb0:(decide (a0.char=a1.char))=false:=(dF hc)
   refine vk (VOK.lit (Aa) hb0) ?_;refine gf ?_;refine gf ?_;refine gf ?_;refine gf ?_;refine gf ?_;refine gf ?_;refine gf ?_;refine vk (Ai) ?_;refine vk (Aa) ?_;refine gf ?_;refine gf ?_;refine gf ?_;refine gf ?_;refine gf ?_;refine gf ?_;refine gf ?_;refine vk (Ai) ?_;refine vk (Aa) ?_;refine gf ?_;refine gf ?_;refine gf ?_;refine gf ?_;refine gf ?_;refine gf ?_;refine gf ?_;refine vk (Ai) ?_;refine vk (Aa) ?_;refine gf ?_;refine gf ?_;refine gf ?_;refine gf ?_;refine gf ?_;refine vk (Ai) ?_;refine asd ?_;refine RL.gk [4] ?_;refine .nil ?_
   cases hz
   exact jr () trivial
  rintro _ _
  refine .ret ?_
  cases h
  exact ⟨rfl,rfl⟩
 replace h:=Ae hc h
 refine cnf (dF hc) ?_;refine .skip ?_
 show AW _ _ _ _ _ _
 refine .sr ?_;refine ar [4] ?_;refine .ret ?_
 cases h
 exact ⟨rfl,rfl⟩
def I6 (rc_array_equal : Arr→Arr→Option (Bool)) (a0 : Arr) (a1 : Arr) : Option (Bool):=((BI a0.shape a1.shape).bind fun x1=>(Option.bind ((if x1=true then ((AU a0.items a1.items (⟨.fn 111 [] [],fun x=>Lq rc_array_equal x.1 x.2⟩ : Dc)).bind fun x3=>(some x3)) else (some false)) : Option (Bool)) fun (z1 : Bool)=>(some (z1))))
theorem PO {rc_array_equal : Arr→Arr→Option (Bool)} (orc_array_equal : ∀ x0 x1 r,rc_array_equal x0 x1=some r→Fn Tryz.prog 37 [.ag [.sl (Is x0.shape),.sl (Its x0.items)],.ag [.sl (Is x1.shape),.sl (Its x1.items)]] (.d (.b r))) {a0 : Arr} {a1 : Arr} {r : Bool} (h : I6 rc_array_equal a0 a1=some r) :
  Fn Tryz.prog 37 [.ag [.sl (Is a0.shape),.sl (Its a0.items)],.ag [.sl (Is a1.shape),.sl (Its a1.items)]] (.d (.b r)):=by
 unfold I6 at h
 refine Fn.o1 4 17 Tryz.func37 ?_;refine .sr ?_;refine vk (vbx) ?_;refine vk (vbx) ?_;refine ar [2,3,4] ?_;refine .seq ?_
 obtain ⟨x1,hx1,h⟩:=bnd h
 obtain ⟨z1,hz,h⟩:=bnd h
 refine AW.mr (σ:=Unit) (fun _=>True) (fun _=>[(4,.d (.b z1))]) (fun _=>[]) ?_ ?_
 ·skip
  refine .region ?_;refine vk (vfa AY) ?_;refine vk (Am CG) ?_;refine vk (vfa AY) ?_;refine vk (Am CG) ?_;refine vk (Af (EC hx1) Tryz.call109) ?_
  by_cases hc:x1=true
  ·replace hz:=Ad hc hz
   have hb0:x1=true:=hc
   refine vk (VOK.lit (Aa) hb0) ?_;refine vk (vfa AH) ?_;refine vk (Am BD) ?_;refine vk (vfa AH) ?_;refine vk (Am BD) ?_
   obtain ⟨x3,hx3,hz⟩:=bnd hz
   refine vk (Af (Cd (Cp Tryz.call111 (fun _ _ h=>PL orc_array_equal h)) hx3) Tryz.call110) ?_;refine vk (Ai) ?_;refine asd ?_;refine RL.gk [4] ?_;refine .nil ?_
   cases hz
   exact jr () trivial
  replace hz:=Ae hc hz
  have hb0:x1=false:=(bf hc)
  refine vk (VOK.lit (Aa) hb0) ?_;refine gf ?_;refine gf ?_;refine gf ?_;refine gf ?_;refine gf ?_;refine vk (Ai) ?_;refine asd ?_;refine RL.gk [4] ?_;refine .nil ?_
  cases hz
  exact jr () trivial
 rintro _ _
 refine .ret ?_
 cases h
 exact ⟨rfl,rfl⟩
def HR : Nat→Arr→Arr→Option (Bool)
 | 0,_,_=>none
 | k+1,a0,a1=>I6 (HR k) a0 a1
theorem Jy : ∀ (k : Nat) (a0 : Arr) (a1 : Arr) (r : Bool),HR k a0 a1=some r→Fn Tryz.prog 37 [.ag [.sl (Is a0.shape),.sl (Its a0.items)],.ag [.sl (Is a1.shape),.sl (Its a1.items)]] (.d (.b r))
 | 0,_,_,_,h=>by cases h
 | k+1,a0,a1,_,h=>PO (Jy k) (show I6 (HR k) a0 a1=some _ from h)
def Rl (a0 : Arr) (a1 : Arr) : Option (Bool):=HR (a0.size+1) a0 a1
theorem Rm {a0 : Arr} {a1 : Arr} {r : Bool} (h : Rl a0 a1=some r) : Fn Tryz.prog 37 [.ag [.sl (Is a0.shape),.sl (Its a0.items)],.ag [.sl (Is a1.shape),.sl (Its a1.items)]] (.d (.b r)):=Jy _ a0 a1 r h
abbrev sg (b : Bool) (n : Nat) : Int:=if b=true then -(n : Int) else n
def ofQ (p : Rat) : RT:=(decide (p.num<0),Ac p.num.natAbs,Ac p.den)
def FG (n : Nat) : Prop:=(Ac n).length≤32
instance (n : Nat) : Decidable (FG n):=inferInstanceAs (Decidable (_≤_))
def ES (p : Rat) : Prop:=FG p.num.natAbs∧FG p.den
instance (p : Rat) : Decidable (ES p):=inferInstanceAs (Decidable (_∧_))
abbrev bad (e : Int) : RT × Int:=((false,[],[]),e)
def Ru (p : Rat) : RT × Int:=if ES p then (ofQ p,0) else bad 8
theorem Fi (b : Bool) (n : Nat) : (sg b n).natAbs=n:=by cases b <;> simp [sg]
theorem Vq (b : Bool) (n : Nat) : decide (sg b n<0)=(b && decide (n ≠ 0)):=by
 cases b with
 | false=>simp [sg]
 | true=>simp only [sg,if_true,Bool.true_and];apply decide_eq_decide.2;omega
abbrev q3 (p : Rat) : Q3:=(decide (p.num<0),p.num.natAbs,p.den)
def V4 (p : Rat) : QE:=if ES p then .ok (q3 p) else .error 8
theorem U4 {b : Bool} {n d : Nat} (hd : d ≠ 0) : NU b n d=V4 (mkRat (sg b n) d):=by
 have hg:Nat.gcd n d ≠ 0:=fun h=>hd (Nat.eq_zero_of_gcd_eq_zero_right h)
 have hnum:(mkRat (sg b n) d).num=sg b (n / Nat.gcd n d):=by
  rw [Rat.num_mkRat,if_neg hd,Fi,Nat.gcd_comm]
  cases b with
  | false=>simp [sg]
  | true =>
   simp only [sg,if_true]
   rw [Int.neg_ediv_of_dvd (Int.natCast_dvd_natCast.2 (Nat.gcd_dvd_left n d))]
   simp
 have hden:(mkRat (sg b n) d).den=d / Nat.gcd n d:=by
  rw [Rat.den_mkRat,if_neg hd,Fi,Nat.gcd_comm]
 have hd':32<(Ac (d / Nat.gcd n d)).length↔¬ FG (d / Nat.gcd n d):=by simp only [FG];omega
 have hn':32<(Ac (n / Nat.gcd n d)).length↔¬ FG (n / Nat.gcd n d):=by simp only [FG];omega
 have hf:ES (mkRat (sg b n) d)↔FG (n / Nat.gcd n d)∧FG (d / Nat.gcd n d):=by
  simp only [ES,hnum,hden,Fi]
 unfold NU V4
 rw [if_neg hg]
 by_cases h:FG (n / Nat.gcd n d)∧FG (d / Nat.gcd n d)
 ·rw [if_neg (by rw [hn',hd'];intro h2;exact h2.elim (fun a=>a h.1) (fun a=>a h.2)),if_pos (hf.2 h)]
  simp only [q3,hnum,Fi,hden,Vq]
 ·rw [if_pos (by rw [hn',hd'];by_cases h1:FG (n / Nat.gcd n d);exact .inr (fun h2=>h ⟨h1,h2⟩);exact .inl h1),if_neg (fun h2=>h (hf.1 h2))]
theorem F8 {r : RT} : A8 r=true↔∃ p,ES p∧r=ofQ p:=by
 obtain ⟨b,n,d⟩:=r
 simp only [A8,FJ,decide_eq_true_eq]
 constructor
 ·rintro ⟨h1,h2,h3,h4,h5,h6,h7⟩
  have hd0:val d ≠ 0:=fun h=>h5 (by rw [← h2,h,AC])
  refine ⟨⟨sg b (val n),val d,hd0,by rw [Nat.Coprime,Fi];exact h7⟩,⟨?_,?_⟩,?_⟩
  ·show FG (sg b (val n)).natAbs
   rw [Fi,FG,h1];exact h3
  ·show FG (val d)
   rw [FG,h2];exact h4
  ·simp only [ofQ,Fi,h1,h2]
   rw [Vq]
   congr 1
   cases b with
   | false=>rfl
   | true =>
    have:n ≠ []:=fun h=>by have:=h6 h;cases this
    have hn0:val n ≠ 0:=fun h=>this (by rw [← h1,h,AC])
    simp [hn0]
 ·rintro ⟨p,⟨h1,h2⟩,h⟩
  simp only [ofQ,Prod.mk.injEq] at h
  obtain ⟨rfl,rfl,rfl⟩:=h
  refine ⟨by rw [AB],by rw [AB],h1,h2,?_,?_,?_⟩
  ·intro h
   have:=HZ.1 h
   exact p.den_nz this
  ·intro h
   have:=HZ.1 h
   exact dF (by omega)
  ·rw [AB,AB];exact p.reduced
theorem E7 {p : Rat} (h : ES p) : A8 (ofQ p)=true:=F8.2 ⟨p,h,rfl⟩
theorem U9 {k n : Nat} (h : (Ac n).length≤k) : okL k (Ac n)=true:=Ci.2 ⟨AD n,h⟩
theorem QB {k n : Nat} (h : FG n) (hk : 32≤k) : okL k (Ac n)=true:=U9 (Nat.le_trans h hk)
theorem Hr {p : Rat} (h : ES p) : GH (ofQ p)=true:=by
 simp only [GH,Bool.and_eq_true]
 exact ⟨QB h.1 (by decide),QB h.2 (by decide)⟩
theorem KQ : ES 0:=by
 have e0:Ac 0=[]:=AC
 have e1:Ac 1=[1]:=HB (n:=1) (by decide) (by decide)
 constructor
 ·show (Ac 0).length≤32;rw [e0];decide
 ·show (Ac 1).length≤32;rw [e1];decide
theorem QD : Ac 1=[1]:=HB (n:=1) (by decide) (by decide)
theorem Oi {p : Rat} (h : ES p) : Ru p=(ofQ p,0):=if_pos h
abbrev HT (q : Q3) : Rat:=mkRat (sg q.1 q.2.1) q.2.2
theorem T4 {x y : Q3} (hx : x.2.2 ≠ 0) (hy : y.2.2 ≠ 0) : HT (Hd x y)=HT x+HT y∧(Hd x y).2.2 ≠ 0:=by
 obtain ⟨b,n,d⟩:=x
 obtain ⟨c,m,e⟩:=y
 simp only at hx hy
 have hde:d * e ≠ 0:=Nat.mul_ne_zero hx hy
 rw [show HT (b,n,d)+HT (c,m,e)=mkRat (sg b n * e+sg c m * d) (d * e) from Rat.mkRat_add_mkRat _ _ hx hy]
 have key:∀ (q:Q3),q.2.2=d * e→sg q.1 q.2.1=sg b n * e+sg c m * d→HT q=mkRat (sg b n * e+sg c m * d) (d * e)∧q.2.2 ≠ 0:=fun q h1 h2=>by
  rw [HT,h1,h2];exact ⟨rfl,hde⟩
 unfold Hd
 simp only
 split
 ·rename_i h
  subst h
  refine key _ rfl ?_
  cases b <;> simp [sg]
  rw [Int.neg_add,Int.neg_mul,Int.neg_mul]
 ·rename_i h
  split
  ·rename_i h2
   refine key _ rfl ?_
   cases b <;> cases c <;> simp [sg] at h ⊢
   ·rw [Int.ofNat_sub h2];simp [Int.neg_mul];omega
   ·rw [Int.ofNat_sub h2];simp [Int.neg_mul];omega
  ·rename_i h2
   have h3:n * e≤m * d:=by omega
   refine key _ rfl ?_
   cases b <;> cases c <;> simp [sg] at h ⊢
   ·rw [Int.ofNat_sub h3];simp [Int.neg_mul];omega
   ·rw [Int.ofNat_sub h3];simp [Int.neg_mul];omega
theorem RM {x y : Q3} (hx : x.2.2 ≠ 0) (hy : y.2.2 ≠ 0) : HT (KV x y)=HT x * HT y∧(KV x y).2.2 ≠ 0:=by
 obtain ⟨b,n,d⟩:=x
 obtain ⟨c,m,e⟩:=y
 refine ⟨?_,Nat.mul_ne_zero hx hy⟩
 rw [show HT (b,n,d) * HT (c,m,e)=mkRat (sg b n * sg c m) (d * e) from Rat.mkRat_mul_mkRat _ _ _ _]
 have h:sg (b != c) (n * m)=sg b n * sg c m:=by cases b <;> cases c <;> simp [sg,Int.neg_mul,Int.mul_neg]
 simp only [KV,HT,h]
theorem Tf (p : Rat) : HT (decide (p.num<0),p.num.natAbs,p.den)=p:=by
 have:sg (decide (p.num<0)) p.num.natAbs=p.num:=by
  simp only [sg,decide_eq_true_eq]
  split <;> omega
 rw [HT,this,Rat.mkRat_self]
theorem YN (p : Rat) : rq (ofQ p)=(decide (p.num<0),p.num.natAbs,p.den):=by simp [rq,ofQ,AB]
def Fy (a0 : RT) (a1 : RT) : Option (Int):=((Dm ([a0,a1])).bind fun x1=>(if x1=true then ((GF a0).bind fun x2=>((GF a1).bind fun x3=>(if ((!(decide (x2=x3))) && (decide (x2<x3)))=true then (some ((-1))) else (if x2=x3 then ((FO a0).bind fun x4=>((FO a1).bind fun x5=>((De x4.1 x5.1).bind fun x6=>((FO a1).bind fun x7=>((FO a0).bind fun x8=>((De x7.1 x8.1).bind fun x9=>((Eg x6 x9).bind fun x10=>(some ((w64 (x2 * x10))))))))))) else (some (1)))))) else (some (0))))
theorem Gi {a0 : RT} {a1 : RT} {r : Int} (h : Fy a0 a1=some r) :
  Fn Tryz.prog 211 [.ag [.b a0.1,.sl (L a0.2.1),.sl (L a0.2.2)],.ag [.b a1.1,.sl (L a1.2.1),.sl (L a1.2.2)]] (.d (.i .i64 r)):=by
 unfold Fy at h
 refine Fn.o1 4 46 Tryz.func211 ?_;refine .sr ?_;refine vk (vbx) ?_;refine vk (vbx) ?_;refine ar [2,3,4] ?_;refine .seq ?_;refine .sr ?_;refine vk (Ao Au Al) ?_;refine vk (Ao Au Al) ?_;refine vk ((E2 (Dx [a0,a1]) FK).deep) ?_
 obtain ⟨x1,hx1,h⟩:=bnd h
 refine vk (Af (CK hx1) Tryz.call167) ?_;refine vk (vnt) ?_;refine rk [2,3,4,11] ?_
 by_cases hc:x1=true
 ·replace h:=Ad hc h
  refine cnf (ntf hc) ?_;refine .skip ?_
  show AW _ _ _ _ _ _
  refine .seq ?_;refine .drawn 4 A9 (by kernel_rfl) ?_;refine dv (Ao Au Al) ?_
  obtain ⟨x2,hx2,h⟩:=bnd h
  refine dv (Af (FB hx2) Tryz.call86) ?_;refine dv (Ao Au Al) ?_
  obtain ⟨x3,hx3,h⟩:=bnd h
  refine dv (Af (FB hx3) Tryz.call86) ?_;refine dz ?_;refine asd ?_;refine ar [2,3,4,5,6] ?_;refine .seq ?_;refine .block ?_;refine .seq ?_;refine AW.mr (σ:=Unit) (fun _=>True) (fun _=>[(2,.d (.ptr [.b a0.1,.sl (L a0.2.1),.sl (L a0.2.2)])),(3,.d (.ptr [.b a1.1,.sl (L a1.2.1),.sl (L a1.2.2)])),(4,.d (.i .i64 0)),(5,.d (.i .i64 x2)),(6,.d (.i .i64 x3)),(16,.d (.b ((!(decide (x2=x3))) && (decide (x2<x3)))))]) (fun _=>[]) ?_ ?_
  ·skip
   refine .region ?_;refine vk (Aa) ?_;refine vk (Aa) ?_;refine vk (vbi) ?_
   by_cases hc:x2=x3
   ·have hb0:(!(decide (x2=x3)))=false:=(ntf (dT hc))
    refine vk (VOK.lit (Aa) hb0) ?_;refine gf ?_;refine gf ?_;refine gf ?_;refine vk (Ai) ?_;refine asd ?_;refine RL.gk [2,3,4,5,6,16] ?_;refine .nil ?_
    exact jr () trivial (by simp only [hb0];rfl)
   have hb0:(!(decide (x2=x3)))=true:=(ntt (dF hc))
   refine vk (VOK.lit (Aa) hb0) ?_;refine vk (Aa) ?_;refine vk (Aa) ?_;refine vk (vbi) ?_;refine vk (Ai) ?_;refine asd ?_;refine RL.gk [2,3,4,5,6,16] ?_;refine .nil ?_
   exact jr () trivial (by simp only [hb0];rfl)
  rintro _ _
  by_cases hc:((!(decide (x2=x3))) && (decide (x2<x3)))=true
  ·replace h:=Ad hc h
   refine cnt hc ?_;refine .sr ?_;refine ar [2,3,4,5] ?_;refine .ret ?_
   cases h
   exact ⟨rfl,rfl⟩
  replace h:=Ae hc h
  refine cnf (bf hc) ?_;refine .sr ?_;refine vk (Aa) ?_;refine vk (Aa) ?_;refine vk (vbi) ?_;refine ar [2,3,4,5,25] ?_
  by_cases hc:x2=x3
  ·replace h:=Ad hc h
   refine cnf (ntf (dT hc)) ?_;refine .skip ?_
   show AW _ _ _ _ _ _
   refine .seq ?_;refine .drawn 17 A9 (by kernel_rfl) ?_;refine dv (Aa) ?_;refine dv (Ao Au Al) ?_
   obtain ⟨x4,hx4,h⟩:=bnd h
   refine dv (Af (CI hx4) Tryz.call168) ?_;refine dv (QY B9 IX) ?_;refine dv (Ao Au Al) ?_
   obtain ⟨x5,hx5,h⟩:=bnd h
   refine dv (Af (CI hx5) Tryz.call168) ?_;refine dv (QY B9 IX) ?_
   obtain ⟨x6,hx6,h⟩:=bnd h
   refine dv (Af (BU hx6) Tryz.call239) ?_;refine dv (Ao Au Al) ?_
   obtain ⟨x7,hx7,h⟩:=bnd h
   refine dv (Af (CI hx7) Tryz.call168) ?_;refine dv (QY B9 IX) ?_;refine dv (Ao Au Al) ?_
   obtain ⟨x8,hx8,h⟩:=bnd h
   refine dv (Af (CI hx8) Tryz.call168) ?_;refine dv (QY B9 IX) ?_
   obtain ⟨x9,hx9,h⟩:=bnd h
   refine dv (Af (BU hx9) Tryz.call239) ?_
   obtain ⟨x10,hx10,h⟩:=bnd h
   refine dv (Af (CV hx10) Tryz.call164) ?_;refine dv (vbi) ?_;refine dz ?_;refine ar [4] ?_;refine .ret ?_
   cases h
   exact ⟨rfl,rfl⟩
  replace h:=Ae hc h
  refine cnt (ntt (dF hc)) ?_;refine .sr ?_;refine ar [2,3,4,5] ?_;refine .ret ?_
  cases h
  exact ⟨rfl,rfl⟩
 replace h:=Ae hc h
 refine cnt (ntt (bf hc)) ?_;refine .sr ?_;refine ar [2,3,4] ?_;refine .ret ?_
 cases h
 exact ⟨rfl,rfl⟩
def H6 (a0 : RT) (a1 : RT) (a2 : RT) : Option (Int):=((Dm ([a0,a1,a2])).bind fun x1=>(if x1=true then ((FO a1).bind fun x2=>((FO a2).bind fun x3=>((PJ x3).bind fun x4=>((PK x2 x4).bind fun x5=>((FO a1).bind fun x6=>((FO a2).bind fun x7=>((De x6.1 x7.1).bind fun x8=>((FO a2).bind fun x9=>((De x9.1 x6.1).bind fun x10=>((Eg x8 x10).bind fun x11=>(if x11<0 then ((FO a2).bind fun x12=>((FO a0).bind fun x13=>((Kp x13 (x12.1,false)).bind fun x14=>(Option.bind ((if x14.2=true then (if 0<((List.length x14.1.1 : Nat) : Int) then (some true) else ((De x5.1 x14.1).bind fun x16=>((De x14.1 x5.1).bind fun x17=>((Eg x16 x17).bind fun x18=>(some (decide (0<x18))))))) else ((De x5.1 x14.1).bind fun x19=>((De x14.1 x5.1).bind fun x20=>((Eg x19 x20).bind fun x21=>(some (decide (0<x21))))))) : Option (Bool)) fun (z15 : Bool)=>(if z15=true then ((Fy a1 a2).bind fun x22=>(some (x22))) else (some (0))))))) else ((FO a0).bind fun x23=>((Kp x23 (x6.1,false)).bind fun x24=>(Option.bind ((if x24.2=true then (if 0<((List.length x24.1.1 : Nat) : Int) then (some true) else ((De x5.1 x24.1).bind fun x26=>((De x24.1 x5.1).bind fun x27=>((Eg x26 x27).bind fun x28=>(some (decide (0<x28))))))) else ((De x5.1 x24.1).bind fun x29=>((De x24.1 x5.1).bind fun x30=>((Eg x29 x30).bind fun x31=>(some (decide (0<x31))))))) : Option (Bool)) fun (z25 : Bool)=>(if z25=true then ((Fy a1 a2).bind fun x32=>(some (x32))) else (some (0))))))))))))))))) else (some (0))))
set_option maxHeartbeats 4000000 in
theorem L5 {a0 : RT} {a1 : RT} {a2 : RT} {r : Int} (h : H6 a0 a1 a2=some r) :
  Fn Tryz.prog 213 [.ag [.b a0.1,.sl (L a0.2.1),.sl (L a0.2.2)],.ag [.b a1.1,.sl (L a1.2.1),.sl (L a1.2.2)],.ag [.b a2.1,.sl (L a2.2.1),.sl (L a2.2.2)]] (.d (.i .i64 r)):=by
 unfold H6 at h
 refine Fn.o1 6 71 Tryz.func213 ?_;refine .sr ?_;refine vk (vbx) ?_;refine vk (vbx) ?_;refine vk (vbx) ?_;refine ar [3,4,5,6] ?_;refine .seq ?_;refine .sr ?_;refine vk (Ao Au Al) ?_;refine vk (Ao Au Al) ?_;refine vk (Ao Au Al) ?_;refine vk ((E2 (Dx [a0,a1,a2]) FK).deep) ?_
 obtain ⟨x1,hx1,h⟩:=bnd h
 refine vk (Af (CK hx1) Tryz.call167) ?_;refine vk (vnt) ?_;refine rk [3,4,5,6,15] ?_
 by_cases hc:x1=true
 ·replace h:=Ad hc h
  refine cnf (ntf hc) ?_;refine .skip ?_
  show AW _ _ _ _ _ _
  refine .seq ?_;refine .drawn 7 A9 (by kernel_rfl) ?_;refine dv (Ao Au Al) ?_
  obtain ⟨x2,hx2,h⟩:=bnd h
  refine dv (Af (CI hx2) Tryz.call168) ?_;refine dv (Ao Au Al) ?_
  obtain ⟨x3,hx3,h⟩:=bnd h
  refine dv (Af (CI hx3) Tryz.call168) ?_
  obtain ⟨x4,hx4,h⟩:=bnd h
  refine dv (Af (MD hx4) Tryz.call205) ?_
  obtain ⟨x5,hx5,h⟩:=bnd h
  refine dv (Af (Nm hx5) Tryz.call204) ?_;refine dv (van (Ag QZ) P7) ?_;refine dz ?_
  refine stn ?_ XP (by decide)
  refine rk [3,4,5,6,7] ?_;refine .sr ?_;refine vk (Ao Au Al) ?_
  obtain ⟨x6,hx6,h⟩:=bnd h
  refine vk (Af (CI hx6) Tryz.call168) ?_;refine vk (QY B9 IX) ?_;refine vk (van (Ag Wp) Ww) ?_
  refine stn ?_ GG (by decide)
  refine rk [3,4,5,6,7,8] ?_;refine .seq ?_;refine .seq ?_;refine .drawn 12 A9 (by kernel_rfl) ?_;refine dv (D4 Hu GG) ?_;refine dv (Ao Au Al) ?_
  obtain ⟨x7,hx7,h⟩:=bnd h
  refine dv (Af (CI hx7) Tryz.call168) ?_;refine dv (QY B9 IX) ?_
  obtain ⟨x8,hx8,h⟩:=bnd h
  refine dv (Af (BU hx8) Tryz.call239) ?_;refine dv (Ao Au Al) ?_
  obtain ⟨x9,hx9,h⟩:=bnd h
  refine dv (Af (CI hx9) Tryz.call168) ?_;refine dv (QY B9 IX) ?_;refine dv (D4 Hu GG) ?_
  obtain ⟨x10,hx10,h⟩:=bnd h
  refine dv (Af (BU hx10) Tryz.call239) ?_
  obtain ⟨x11,hx11,h⟩:=bnd h
  refine dv (Af (CV hx11) Tryz.call164) ?_;refine dv (vbi) ?_;refine dz ?_;refine rk [3,4,5,6,7,8,36] ?_
  by_cases hc:x11<0
  ·replace h:=Ad hc h
   refine cnt (dT hc) ?_;refine .region ?_;refine vk (Ao Au Al) ?_
   obtain ⟨x12,hx12,h⟩:=bnd h
   refine vk (Af (CI hx12) Tryz.call168) ?_;refine vk (QY B9 IX) ?_
   refine stn ?_ GG (by decide)
   refine rk [3,4,5,6,7,8] ?_;refine .seq ?_;refine .drawn 6 A9 (by kernel_rfl) ?_;refine dv (Ao Au Al) ?_
   obtain ⟨x13,hx13,h⟩:=bnd h
   refine dv (Af (CI hx13) Tryz.call168) ?_;refine dv (D4 Hu GG) ?_;refine dv (vbd UK QZ P7) ?_
   obtain ⟨x14,hx14,h⟩:=bnd h
   refine dv (Af (Iv hx14) Tryz.call169) ?_;refine dv (van (Ag QZ) P7) ?_;refine dz ?_
   refine stn ?_ XP (by decide)
   refine rk [4,5,6,7,9] ?_;refine .seq ?_;refine .seq ?_;refine .gh (Gh.nbp (t:=9) rfl) ?_;refine .gh (Gh.nbp (t:=7) rfl) ?_
   obtain ⟨z15,hz,h⟩:=bnd h
   refine AW.mr (σ:=Unit) (fun _=>True) (fun _=>[(4,.d (.ptr [.b a1.1,.sl (L a1.2.1),.sl (L a1.2.2)])),(5,.d (.ptr [.b a2.1,.sl (L a2.2.1),.sl (L a2.2.2)])),(6,.d (.i .i64 0)),(67,.d (.b z15))]) (fun _=>[]) ?_ ?_
   ·skip
    refine .drawn 23 A9 (by kernel_rfl) ?_;refine dv (vfa Vl) ?_;refine dv (Am BJ) ?_
    by_cases hc:x14.2=true
    ·replace hz:=Ad hc hz
     have hb0:x14.2=true:=hc
     refine dv (VOK.lit (Aa) hb0) ?_;refine dv (vfa B9) ?_;refine dv (vfa Wh) ?_;refine dv (Am CS) ?_;refine dv (Bk (Ab _) (A1 _) Io) ?_;refine dv (vbi) ?_;refine dv (Ai) ?_
     by_cases hc:0<((List.length x14.1.1:Nat):Int)
     ·replace hz:=Ad hc hz
      have hb1:(decide (0<((List.length x14.1.1:Nat):Int)))=true:=(dT hc)
      refine dv (VOK.lit (Aa) hb1) ?_;refine dgf ?_;refine dgf ?_;refine dgf ?_;refine dgf ?_;refine dgf ?_;refine dgf ?_;refine dgf ?_;refine dgf ?_;refine dgf ?_;refine dgf ?_;refine dgf ?_;refine dgf ?_;refine dv (Ai) ?_;refine dz ?_;refine RL.gk [4,5,6,67] ?_;refine .nil ?_
      cases hz
      exact jr () trivial
     replace hz:=Ae hc hz
     have hb1:(decide (0<((List.length x14.1.1:Nat):Int)))=false:=(dF hc)
     refine dv (VOK.lit (Aa) hb1) ?_;refine dv (vfa B9) ?_;refine dv (Ao Hu GG) ?_;refine dv (vfa B9) ?_;refine dv (Ao Hu GG) ?_
     obtain ⟨x16,hx16,hz⟩:=bnd hz
     refine dv (Af (BU hx16) Tryz.call239) ?_;refine dv (vfa B9) ?_;refine dv (Ao Hu GG) ?_;refine dv (vfa B9) ?_;refine dv (Ao Hu GG) ?_
     obtain ⟨x17,hx17,hz⟩:=bnd hz
     refine dv (Af (BU hx17) Tryz.call239) ?_
     obtain ⟨x18,hx18,hz⟩:=bnd hz
     refine dv (Af (CV hx18) Tryz.call164) ?_;refine dv (vbi) ?_;refine dv (Ai) ?_;refine dz ?_;refine RL.gk [4,5,6,67] ?_;refine .nil ?_
     cases hz
     exact jr () trivial
    replace hz:=Ae hc hz
    have hb0:x14.2=false:=(bf hc)
    refine dv (VOK.lit (Aa) hb0) ?_;refine dgf ?_;refine dgf ?_;refine dgf ?_;refine dgf ?_;refine dgf ?_;refine dv (Ai) ?_;refine dv (Aa) ?_;refine dv (vfa B9) ?_;refine dv (Ao Hu GG) ?_;refine dv (vfa B9) ?_;refine dv (Ao Hu GG) ?_
    obtain ⟨x19,hx19,hz⟩:=bnd hz
    refine dv (Af (BU hx19) Tryz.call239) ?_;refine dv (vfa B9) ?_;refine dv (Ao Hu GG) ?_;refine dv (vfa B9) ?_;refine dv (Ao Hu GG) ?_
    obtain ⟨x20,hx20,hz⟩:=bnd hz
    refine dv (Af (BU hx20) Tryz.call239) ?_
    obtain ⟨x21,hx21,hz⟩:=bnd hz
    refine dv (Af (CV hx21) Tryz.call164) ?_;refine dv (vbi) ?_;refine dv (Ai) ?_;refine dz ?_;refine RL.gk [4,5,6,67] ?_;refine .nil ?_
    cases hz
    exact jr () trivial
   rintro _ _
   by_cases hc:z15=true
   ·replace h:=Ad hc h
    refine cnt hc ?_;refine .sr ?_;refine vk (Ao Au Al) ?_;refine vk (Ao Au Al) ?_
    obtain ⟨x22,hx22,h⟩:=bnd h
    refine vk (Af (Gi hx22) Tryz.call211) ?_;refine ar [6] ?_;refine .ret ?_
    cases h
    exact ⟨rfl,rfl⟩
   replace h:=Ae hc h
   refine cnf (bf hc) ?_;refine .skip ?_
   show AW _ _ _ _ _ _
   refine .sr ?_;refine ar [6] ?_;refine .ret ?_
   cases h
   exact ⟨rfl,rfl⟩
  replace h:=Ae hc h
  refine cnf (dF hc) ?_;refine .skip ?_
  show AW _ _ _ _ _ _
  refine .seq ?_;refine .drawn 6 A9 (by kernel_rfl) ?_;refine dv (Ao Au Al) ?_
  obtain ⟨x23,hx23,h⟩:=bnd h
  refine dv (Af (CI hx23) Tryz.call168) ?_;refine dv (D4 Hu GG) ?_;refine dv (vbd UK QZ P7) ?_
  obtain ⟨x24,hx24,h⟩:=bnd h
  refine dv (Af (Iv hx24) Tryz.call169) ?_;refine dv (van (Ag QZ) P7) ?_;refine dz ?_
  refine stn ?_ XP (by decide)
  refine rk [4,5,6,7,9] ?_;refine .seq ?_;refine .seq ?_;refine .gh (Gh.nbp (t:=9) rfl) ?_;refine .gh (Gh.nbp (t:=7) rfl) ?_
  obtain ⟨z25,hz,h⟩:=bnd h
  refine AW.mr (σ:=Unit) (fun _=>True) (fun _=>[(4,.d (.ptr [.b a1.1,.sl (L a1.2.1),.sl (L a1.2.2)])),(5,.d (.ptr [.b a2.1,.sl (L a2.2.1),.sl (L a2.2.2)])),(6,.d (.i .i64 0)),(67,.d (.b z25))]) (fun _=>[]) ?_ ?_
  ·skip
   refine .drawn 23 A9 (by kernel_rfl) ?_;refine dv (vfa Vl) ?_;refine dv (Am BJ) ?_
   by_cases hc:x24.2=true
   ·replace hz:=Ad hc hz
    have hb0:x24.2=true:=hc
    refine dv (VOK.lit (Aa) hb0) ?_;refine dv (vfa B9) ?_;refine dv (vfa Wh) ?_;refine dv (Am CS) ?_;refine dv (Bk (Ab _) (A1 _) Io) ?_;refine dv (vbi) ?_;refine dv (Ai) ?_
    by_cases hc:0<((List.length x24.1.1:Nat):Int)
    ·replace hz:=Ad hc hz
     have hb1:(decide (0<((List.length x24.1.1:Nat):Int)))=true:=(dT hc)
     refine dv (VOK.lit (Aa) hb1) ?_;refine dgf ?_;refine dgf ?_;refine dgf ?_;refine dgf ?_;refine dgf ?_;refine dgf ?_;refine dgf ?_;refine dgf ?_;refine dgf ?_;refine dgf ?_;refine dgf ?_;refine dgf ?_;refine dv (Ai) ?_;refine dz ?_;refine RL.gk [4,5,6,67] ?_;refine .nil ?_
     cases hz
     exact jr () trivial
    replace hz:=Ae hc hz
    have hb1:(decide (0<((List.length x24.1.1:Nat):Int)))=false:=(dF hc)
    refine dv (VOK.lit (Aa) hb1) ?_;refine dv (vfa B9) ?_;refine dv (Ao Hu GG) ?_;refine dv (vfa B9) ?_;refine dv (Ao Hu GG) ?_
    obtain ⟨x26,hx26,hz⟩:=bnd hz
    refine dv (Af (BU hx26) Tryz.call239) ?_;refine dv (vfa B9) ?_;refine dv (Ao Hu GG) ?_;refine dv (vfa B9) ?_;refine dv (Ao Hu GG) ?_
    obtain ⟨x27,hx27,hz⟩:=bnd hz
    refine dv (Af (BU hx27) Tryz.call239) ?_
    obtain ⟨x28,hx28,hz⟩:=bnd hz
    refine dv (Af (CV hx28) Tryz.call164) ?_;refine dv (vbi) ?_;refine dv (Ai) ?_;refine dz ?_;refine RL.gk [4,5,6,67] ?_;refine .nil ?_
    cases hz
    exact jr () trivial
   replace hz:=Ae hc hz
   have hb0:x24.2=false:=(bf hc)
   refine dv (VOK.lit (Aa) hb0) ?_;refine dgf ?_;refine dgf ?_;refine dgf ?_;refine dgf ?_;refine dgf ?_;refine dv (Ai) ?_;refine dv (Aa) ?_;refine dv (vfa B9) ?_;refine dv (Ao Hu GG) ?_;refine dv (vfa B9) ?_;refine dv (Ao Hu GG) ?_
   obtain ⟨x29,hx29,hz⟩:=bnd hz
   refine dv (Af (BU hx29) Tryz.call239) ?_;refine dv (vfa B9) ?_;refine dv (Ao Hu GG) ?_;refine dv (vfa B9) ?_;refine dv (Ao Hu GG) ?_
   obtain ⟨x30,hx30,hz⟩:=bnd hz
   refine dv (Af (BU hx30) Tryz.call239) ?_
   obtain ⟨x31,hx31,hz⟩:=bnd hz
   refine dv (Af (CV hx31) Tryz.call164) ?_;refine dv (vbi) ?_;refine dv (Ai) ?_;refine dz ?_;refine RL.gk [4,5,6,67] ?_;refine .nil ?_
   cases hz
   exact jr () trivial
  rintro _ _
  by_cases hc:z25=true
  ·replace h:=Ad hc h
   refine cnt hc ?_;refine .sr ?_;refine vk (Ao Au Al) ?_;refine vk (Ao Au Al) ?_
   obtain ⟨x32,hx32,h⟩:=bnd h
   refine vk (Af (Gi hx32) Tryz.call211) ?_;refine ar [6] ?_;refine .ret ?_
   cases h
   exact ⟨rfl,rfl⟩
  replace h:=Ae hc h
  refine cnf (bf hc) ?_;refine .skip ?_
  show AW _ _ _ _ _ _
  refine .sr ?_;refine ar [6] ?_;refine .ret ?_
  cases h
  exact ⟨rfl,rfl⟩
 replace h:=Ae hc h
 refine cnt (ntt (bf hc)) ?_;refine .sr ?_;refine ar [3,4,5,6] ?_;refine .ret ?_
 cases h
 exact ⟨rfl,rfl⟩
def Iu (a0 : RT) (a1 : RT) : Option (RT × Int):=((Dm ([a0,a1])).bind fun x1=>(if x1=true then (if ((List.length a0.2.1 : Nat) : Int)=0 then ((Gx a1 a1.1).bind fun x2=>(some (x2.1,x2.2))) else ((JY a1 a0).bind fun x3=>(if x3.2=0 then ((Jd x3.1).bind fun x4=>(if x4.2=0 then ((JA ([a0,x4.1])).bind fun x5=>(if x5.2=0 then ((HG a1 x5.1).bind fun x6=>(some (x6.1,x6.2))) else (some ((false,[],[]),x5.2)))) else (if x4.2=0 then ((HG a1 x4.1).bind fun x7=>(some (x7.1,x7.2))) else (some ((false,[],[]),x4.2))))) else (if x3.2=0 then ((JA ([a0,x3.1])).bind fun x8=>(if x8.2=0 then ((HG a1 x8.1).bind fun x9=>(some (x9.1,x9.2))) else (some ((false,[],[]),x8.2)))) else (if x3.2=0 then ((HG a1 x3.1).bind fun x10=>(some (x10.1,x10.2))) else (some ((false,[],[]),x3.2))))))) else (some ((false,[],[]),22))))
theorem MK {a0 : RT} {a1 : RT} {r : RT × Int} (h : Iu a0 a1=some r) :
  Fn Tryz.prog 137 [.ag [.b a0.1,.sl (L a0.2.1),.sl (L a0.2.2)],.ag [.b a1.1,.sl (L a1.2.1),.sl (L a1.2.2)]] (.tup [.d (.ag [.b r.1.1,.sl (L r.1.2.1),.sl (L r.1.2.2)]),.d (.i .i64 r.2)]):=by
 unfold Iu at h
 refine Fn.ofC (rs:=[.cell 4 32,.tmp 5]) (nt:=57) Tryz.func137 rfl rfl rfl (by simp) rfl ?_;refine .sr ?_;refine vk (vbx) ?_;refine vk (vbx) ?_;refine vk (van (Ag BH) BL) ?_;refine ar [2,3,4,5] ?_;refine .seq ?_;refine .block ?_;refine .sr ?_;refine vk (Ao Au Al) ?_;refine vk (Ao Au Al) ?_;refine vk ((E2 (Dx [a0,a1]) FK).deep) ?_
 obtain ⟨x1,hx1,h⟩:=bnd h
 refine vk (Af (CK hx1) Tryz.call167) ?_;refine vk (vnt) ?_;refine ar [2,3,4,5,8] ?_
 by_cases hc:x1=true
 ·replace h:=Ad hc h
  refine cnf (ntf hc) ?_;refine .sr ?_;refine vk (vfa BK) ?_;refine vk (Am CS) ?_;refine vk (Bk (Ab _) (A1 _) Io) ?_;refine vk (vbi) ?_;refine ar [2,3,4,5,15] ?_
  by_cases hc:((List.length a0.2.1:Nat):Int)=0
  ·replace h:=Ad hc h
   refine cnt (dT hc) ?_;refine .sr ?_;refine vk (Ao Au Al) ?_;refine vk (vfa CQ) ?_;refine vk (Am BJ) ?_
   obtain ⟨x2,hx2,h⟩:=bnd h
   refine vk (VOK.tupd (vs:=[.ag [.b x2.1.1,.sl (L x2.1.2.1),.sl (L x2.1.2.2)],.i .i64 x2.2]) (Af (GX hx2) Tryz.call161)) ?_;refine vk (vex) ?_;refine vk (vex) ?_
   refine stn ?_ Al (by decide)
   refine ar [2,3,4,5] ?_;refine .ret ?_
   cases h
   exact ⟨_,_,⟨.inr rfl,Au,Al,(by decide:(0:Nat)<3)⟩,rfl,rfl⟩
  replace h:=Ae hc h
  refine cnf (dF hc) ?_;refine .skip ?_
  show AW _ _ _ _ _ _
  refine .sr ?_;refine vk (Ao Au Al) ?_;refine vk (Ao Au Al) ?_
  obtain ⟨x3,hx3,h⟩:=bnd h
  refine vk (VOK.tupd (vs:=[.ag [.b x3.1.1,.sl (L x3.1.2.1),.sl (L x3.1.2.2)],.i .i64 x3.2]) (Af (JH hx3) Tryz.call88)) ?_;refine vk (Aa) ?_;refine vk (vex) ?_;refine vk (vex) ?_;refine vk (van (Ag BH) BL) ?_
  refine stn ?_ Al (by decide)
  refine ar [2,3,4,5,6,7] ?_;refine .seq ?_;refine .sr ?_;refine vk (Aa) ?_;refine vk (vbi) ?_;refine rk [2,3,4,5,6,7,33] ?_
  by_cases hc:x3.2=0
  ·replace h:=Ad hc h
   refine cnt (dT hc) ?_;refine .region ?_;refine vk (D4 Au Al) ?_
   obtain ⟨x4,hx4,h⟩:=bnd h
   refine vk (VOK.tupd (vs:=[.ag [.b x4.1.1,.sl (L x4.1.2.1),.sl (L x4.1.2.2)],.i .i64 x4.2]) (Af (J5 hx4) Tryz.call81)) ?_;refine vk (Aa) ?_;refine vk (vex) ?_;refine vk (vex) ?_
   refine stn ?_ Al (by decide)
   refine ar [2,3,4,5,6,7] ?_;refine .seq ?_;refine .sr ?_;refine vk (Aa) ?_;refine vk (vbi) ?_;refine rk [2,3,4,5,6,7,40] ?_
   by_cases hc:x4.2=0
   ·replace h:=Ad hc h
    refine cnt (dT hc) ?_;refine .region ?_;refine vk (Ao Au Al) ?_;refine vk (D4 Au Al) ?_;refine vk ((E2 (Dx [a0,x4.1]) FK).deep) ?_
    obtain ⟨x5,hx5,h⟩:=bnd h
    refine vk (VOK.tupd (vs:=[.ag [.b x5.1.1,.sl (L x5.1.2.1),.sl (L x5.1.2.2)],.i .i64 x5.2]) (Af (KZ hx5) Tryz.call135)) ?_;refine vk (Aa) ?_;refine vk (vex) ?_;refine vk (vex) ?_
    refine stn ?_ Al (by decide)
    refine ar [3,4,5,6,7] ?_;refine .seq ?_;refine .sr ?_;refine vk (Aa) ?_;refine vk (vbi) ?_;refine rk [3,4,5,6,7,49] ?_
    by_cases hc:x5.2=0
    ·replace h:=Ad hc h
     refine cnf (ntf (dT hc)) ?_;refine .skip ?_
     show AW _ _ _ _ _ _
     refine .sr ?_;refine vk (Ao Au Al) ?_;refine vk (D4 Au Al) ?_
     obtain ⟨x6,hx6,h⟩:=bnd h
     refine vk (VOK.tupd (vs:=[.ag [.b x6.1.1,.sl (L x6.1.2.1),.sl (L x6.1.2.2)],.i .i64 x6.2]) (Af (Gm hx6) Tryz.call136)) ?_;refine vk (vex) ?_;refine vk (vex) ?_
     refine stn ?_ Al (by decide)
     refine ar [4,5] ?_;refine .ret ?_
     cases h
     exact ⟨_,_,⟨.inr rfl,Au,Al,(by decide:(0:Nat)<3)⟩,rfl,rfl⟩
    replace h:=Ae hc h
    refine cnt (ntt (dF hc)) ?_;refine .sr ?_;refine vk (vbd Ea BH BL) ?_;refine vk (Aa) ?_
    refine stn ?_ Al (by decide)
    refine ar [3,4,5,6] ?_;refine .ret ?_
    cases h
    exact ⟨_,_,⟨.inr rfl,Au,Al,(by decide:(0:Nat)<3)⟩,rfl,rfl⟩
   replace h:=Ae hc h
   refine cnf (dF hc) ?_;refine .skip ?_
   show AW _ _ _ _ _ _
   refine .seq ?_;refine .sr ?_;refine vk (Aa) ?_;refine vk (vbi) ?_;refine rk [3,4,5,6,7,49] ?_
   by_cases hc:x4.2=0
   ·replace h:=Ad hc h
    refine cnf (ntf (dT hc)) ?_;refine .skip ?_
    show AW _ _ _ _ _ _
    refine .sr ?_;refine vk (Ao Au Al) ?_;refine vk (D4 Au Al) ?_
    obtain ⟨x7,hx7,h⟩:=bnd h
    refine vk (VOK.tupd (vs:=[.ag [.b x7.1.1,.sl (L x7.1.2.1),.sl (L x7.1.2.2)],.i .i64 x7.2]) (Af (Gm hx7) Tryz.call136)) ?_;refine vk (vex) ?_;refine vk (vex) ?_
    refine stn ?_ Al (by decide)
    refine ar [4,5] ?_;refine .ret ?_
    cases h
    exact ⟨_,_,⟨.inr rfl,Au,Al,(by decide:(0:Nat)<3)⟩,rfl,rfl⟩
   replace h:=Ae hc h
   refine cnt (ntt (dF hc)) ?_;refine .sr ?_;refine vk (vbd Ea BH BL) ?_;refine vk (Aa) ?_
   refine stn ?_ Al (by decide)
   refine ar [3,4,5,6] ?_;refine .ret ?_
   cases h
   exact ⟨_,_,⟨.inr rfl,Au,Al,(by decide:(0:Nat)<3)⟩,rfl,rfl⟩
  replace h:=Ae hc h
  refine cnf (dF hc) ?_;refine .skip ?_
  show AW _ _ _ _ _ _
  refine .seq ?_;refine .sr ?_;refine vk (Aa) ?_;refine vk (vbi) ?_;refine rk [2,3,4,5,6,7,40] ?_
  by_cases hc:x3.2=0
  ·replace h:=Ad hc h
   refine cnt (dT hc) ?_;refine .region ?_;refine vk (Ao Au Al) ?_;refine vk (D4 Au Al) ?_;refine vk ((E2 (Dx [a0,x3.1]) FK).deep) ?_
   obtain ⟨x8,hx8,h⟩:=bnd h
   refine vk (VOK.tupd (vs:=[.ag [.b x8.1.1,.sl (L x8.1.2.1),.sl (L x8.1.2.2)],.i .i64 x8.2]) (Af (KZ hx8) Tryz.call135)) ?_;refine vk (Aa) ?_;refine vk (vex) ?_;refine vk (vex) ?_
   refine stn ?_ Al (by decide)
   refine ar [3,4,5,6,7] ?_;refine .seq ?_;refine .sr ?_;refine vk (Aa) ?_;refine vk (vbi) ?_;refine rk [3,4,5,6,7,49] ?_
   by_cases hc:x8.2=0
   ·replace h:=Ad hc h
    refine cnf (ntf (dT hc)) ?_;refine .skip ?_
    show AW _ _ _ _ _ _
    refine .sr ?_;refine vk (Ao Au Al) ?_;refine vk (D4 Au Al) ?_
    obtain ⟨x9,hx9,h⟩:=bnd h
    refine vk (VOK.tupd (vs:=[.ag [.b x9.1.1,.sl (L x9.1.2.1),.sl (L x9.1.2.2)],.i .i64 x9.2]) (Af (Gm hx9) Tryz.call136)) ?_;refine vk (vex) ?_;refine vk (vex) ?_
    refine stn ?_ Al (by decide)
    refine ar [4,5] ?_;refine .ret ?_
    cases h
    exact ⟨_,_,⟨.inr rfl,Au,Al,(by decide:(0:Nat)<3)⟩,rfl,rfl⟩
   replace h:=Ae hc h
   refine cnt (ntt (dF hc)) ?_;refine .sr ?_;refine vk (vbd Ea BH BL) ?_;refine vk (Aa) ?_
   refine stn ?_ Al (by decide)
   refine ar [3,4,5,6] ?_;refine .ret ?_
   cases h
   exact ⟨_,_,⟨.inr rfl,Au,Al,(by decide:(0:Nat)<3)⟩,rfl,rfl⟩
  replace h:=Ae hc h
  refine cnf (dF hc) ?_;refine .skip ?_
  show AW _ _ _ _ _ _
  refine .seq ?_;refine .sr ?_;refine vk (Aa) ?_;refine vk (vbi) ?_;refine rk [3,4,5,6,7,49] ?_
  by_cases hc:x3.2=0
  ·replace h:=Ad hc h
   refine cnf (ntf (dT hc)) ?_;refine .skip ?_
   show AW _ _ _ _ _ _
   refine .sr ?_;refine vk (Ao Au Al) ?_;refine vk (D4 Au Al) ?_
   obtain ⟨x10,hx10,h⟩:=bnd h
   refine vk (VOK.tupd (vs:=[.ag [.b x10.1.1,.sl (L x10.1.2.1),.sl (L x10.1.2.2)],.i .i64 x10.2]) (Af (Gm hx10) Tryz.call136)) ?_;refine vk (vex) ?_;refine vk (vex) ?_
   refine stn ?_ Al (by decide)
   refine ar [4,5] ?_;refine .ret ?_
   cases h
   exact ⟨_,_,⟨.inr rfl,Au,Al,(by decide:(0:Nat)<3)⟩,rfl,rfl⟩
  replace h:=Ae hc h
  refine cnt (ntt (dF hc)) ?_;refine .sr ?_;refine vk (vbd Ea BH BL) ?_;refine vk (Aa) ?_
  refine stn ?_ Al (by decide)
  refine ar [3,4,5,6] ?_;refine .ret ?_
  cases h
  exact ⟨_,_,⟨.inr rfl,Au,Al,(by decide:(0:Nat)<3)⟩,rfl,rfl⟩
 replace h:=Ae hc h
 refine cnt (ntt (bf hc)) ?_;refine .sr ?_;refine vk (vbd Ea BH BL) ?_
 refine stn ?_ Al (by decide)
 refine ar [2,3,4,5] ?_;refine .ret ?_
 cases h
 exact ⟨_,_,⟨.inr rfl,Au,Al,(by decide:(0:Nat)<3)⟩,rfl,rfl⟩
def K9 (a0 : RT) (a1 : RT) : Option (RT × Int):=((Dm ([a0,a1])).bind fun x1=>(if x1=true then ((Hj a1).bind fun x2=>(if ((!x2) || ((decide (((List.length a0.2.1 : Nat) : Int)=0)) && a1.1))=true then (some ((false,[],[]),3)) else (if ((List.length a1.2.1 : Nat) : Int)=0 then ((BR 1).bind fun x3=>(some (x3,0))) else (if ((List.length a0.2.1 : Nat) : Int)=0 then ((BR 0).bind fun x4=>(some (x4,0))) else (Option.bind ((if a0.1=true then ((rd? a1.2.1 0).bind fun x6=>(some (decide ((bits .and .u32 ((x6 : Nat) : Int) 1)=1)))) else (some false)) : Option (Bool)) fun (z5 : Bool)=>((J3 a0.2.1 a0.2.2).bind fun x7=>(if x7=true then (D9.bind fun x8=>(D9.bind fun x9=>(some ((z5,x8,x9),0)))) else ((UM a1.2.1).bind fun x10=>(if x10.2=true then ((RB a0.2.1 x10.1 32).bind fun x11=>((RB a0.2.2 x10.1 32).bind fun x12=>(if ((!x11.2) || (!x12.2))=true then (some ((false,[],[]),8)) else (if a1.1=true then (some ((z5,x12.1,x11.1),0)) else (some ((z5,x11.1,x12.1),0)))))) else (some ((false,[],[]),8))))))))))) else (some ((false,[],[]),22))))
set_option maxHeartbeats 4000000 in
theorem O9 {a0 : RT} {a1 : RT} {r : RT × Int} (h : K9 a0 a1=some r) :
  Fn Tryz.prog 138 [.ag [.b a0.1,.sl (L a0.2.1),.sl (L a0.2.2)],.ag [.b a1.1,.sl (L a1.2.1),.sl (L a1.2.2)]] (.tup [.d (.ag [.b r.1.1,.sl (L r.1.2.1),.sl (L r.1.2.2)]),.d (.i .i64 r.2)]):=by
 unfold K9 at h
 refine Fn.ofC (rs:=[.cell 4 32,.tmp 5]) (nt:=104) Tryz.func138 rfl rfl rfl (by simp) rfl ?_;refine .sr ?_;refine vk (vbx) ?_;refine vk (vbx) ?_;refine vk (van (Ag BH) BL) ?_;refine ar [2,3,4,5] ?_;refine .seq ?_;refine .block ?_;refine .sr ?_;refine vk (Ao Au Al) ?_;refine vk (Ao Au Al) ?_;refine vk ((E2 (Dx [a0,a1]) FK).deep) ?_
 obtain ⟨x1,hx1,h⟩:=bnd h
 refine vk (Af (CK hx1) Tryz.call167) ?_;refine vk (vnt) ?_;refine ar [2,3,4,5,13] ?_
 by_cases hc:x1=true
 ·replace h:=Ad hc h
  refine cnf (ntf hc) ?_;refine .seq ?_
  obtain ⟨x2,hx2,h⟩:=bnd h
  refine AW.mr (σ:=Unit) (fun _=>True) (fun _=>[(2,.d (.ptr [.b a0.1,.sl (L a0.2.1),.sl (L a0.2.2)])),(3,.d (.ptr [.b a1.1,.sl (L a1.2.1),.sl (L a1.2.2)])),(4,.nb [.b false,.sl (L []),.sl (L [])]),(5,.d (.i .i64 0)),(20,.d (.b ((!x2) || ((decide (((List.length a0.2.1:Nat):Int)=0)) && a1.1))))]) (fun _=>[]) ?_ ?_
  ·skip
   refine .region ?_;refine vk (Ao Au Al) ?_;refine vk (Af (Ia hx2) Tryz.call206) ?_;refine vk (vnt) ?_
   by_cases hc:x2=true
   ·have hb0:(!x2)=false:=(ntf hc)
    refine vk (VOK.lit (Aa) hb0) ?_;refine vk (vfa BK) ?_;refine vk (Am CS) ?_;refine vk (Bk (Ab _) (A1 _) Io) ?_;refine vk (vbi) ?_
    by_cases hc:((List.length a0.2.1:Nat):Int)=0
    ·have hb1:(decide (((List.length a0.2.1:Nat):Int)=0))=true:=(dT hc)
     refine vk (VOK.lit (Aa) hb1) ?_;refine vk (vfa CQ) ?_;refine vk (Am BJ) ?_;refine vk (Ai) ?_;refine vk (Ai) ?_;refine asd ?_;refine RL.gk [2,3,4,5,20] ?_;refine .nil ?_
     exact jr () trivial (by simp only [hb0,hb1];rfl)
    have hb1:(decide (((List.length a0.2.1:Nat):Int)=0))=false:=(dF hc)
    refine vk (VOK.lit (Aa) hb1) ?_;refine gf ?_;refine gf ?_;refine vk (Ai) ?_;refine vk (Ai) ?_;refine asd ?_;refine RL.gk [2,3,4,5,20] ?_;refine .nil ?_
    exact jr () trivial (by simp only [hb0,hb1];rfl)
   have hb0:(!x2)=true:=(ntt (bf hc))
   refine vk (VOK.lit (Aa) hb0) ?_;refine gf ?_;refine gf ?_;refine gf ?_;refine gf ?_;refine gfu ?_;refine gf ?_;refine gf ?_;refine gf ?_;refine vk (Ai) ?_;refine asd ?_;refine RL.gk [2,3,4,5,20] ?_;refine .nil ?_
   exact jr () trivial (by simp only [hb0];rfl)
  rintro _ _
  by_cases hc:((!x2) || ((decide (((List.length a0.2.1:Nat):Int)=0)) && a1.1))=true
  ·replace h:=Ad hc h
   refine cnt hc ?_;refine .sr ?_;refine vk (vbd Ea BH BL) ?_
   refine stn ?_ Al (by decide)
   refine ar [2,3,4,5] ?_;refine .ret ?_
   cases h
   exact ⟨_,_,⟨.inr rfl,Au,Al,(by decide:(0:Nat)<3)⟩,rfl,rfl⟩
  replace h:=Ae hc h
  refine cnf (bf hc) ?_;refine .sr ?_;refine vk (vfa BK) ?_;refine vk (Am CS) ?_;refine vk (Bk (Ab _) (A1 _) Io) ?_;refine vk (vbi) ?_;refine ar [2,3,4,5,35] ?_
  by_cases hc:((List.length a1.2.1:Nat):Int)=0
  ·replace h:=Ad hc h
   refine cnt (dT hc) ?_;refine .sr ?_
   obtain ⟨x3,hx3,h⟩:=bnd h
   refine vk (Af (Bx hx3) Tryz.call72) ?_
   refine stn ?_ Al (by decide)
   refine ar [2,3,4,5] ?_;refine .ret ?_
   cases h
   exact ⟨_,_,⟨.inr rfl,Au,Al,(by decide:(0:Nat)<3)⟩,rfl,rfl⟩
  replace h:=Ae hc h
  refine cnf (dF hc) ?_;refine .sr ?_;refine vk (vfa BK) ?_;refine vk (Am CS) ?_;refine vk (Bk (Ab _) (A1 _) Io) ?_;refine vk (vbi) ?_;refine ar [2,3,4,5,41] ?_
  by_cases hc:((List.length a0.2.1:Nat):Int)=0
  ·replace h:=Ad hc h
   refine cnt (dT hc) ?_;refine .sr ?_
   obtain ⟨x4,hx4,h⟩:=bnd h
   refine vk (Af (Bx hx4) Tryz.call72) ?_
   refine stn ?_ Al (by decide)
   refine ar [2,3,4,5] ?_;refine .ret ?_
   cases h
   exact ⟨_,_,⟨.inr rfl,Au,Al,(by decide:(0:Nat)<3)⟩,rfl,rfl⟩
  replace h:=Ae hc h
  refine cnf (dF hc) ?_;refine .skip ?_
  show AW _ _ _ _ _ _
  refine .seq ?_
  obtain ⟨z5,hz,h⟩:=bnd h
  refine AW.mr (σ:=Unit) (fun _=>True) (fun _=>[(2,.d (.ptr [.b a0.1,.sl (L a0.2.1),.sl (L a0.2.2)])),(3,.d (.ptr [.b a1.1,.sl (L a1.2.1),.sl (L a1.2.2)])),(4,.nb [.b false,.sl (L []),.sl (L [])]),(5,.d (.i .i64 0)),(6,.d (.b z5))]) (fun _=>[]) ?_ ?_
  ·skip
   refine .region ?_;refine vk (vfa CQ) ?_;refine vk (Am BJ) ?_
   by_cases hc:a0.1=true
   ·replace hz:=Ad hc hz
    have hb0:a0.1=true:=hc
    refine vk (VOK.lit (Aa) hb0) ?_;refine vk (vfa BK) ?_;refine vk (Am CS) ?_
    obtain ⟨x6,hx6,hz⟩:=bnd hz
    obtain ⟨nx6,hnx6,hxx6⟩:=AI hx6
    refine vk (vix nx6 hnx6 (C9 hxx6) rfl Zn) ?_;refine vk (Am Tx) ?_;refine vk (vbi) ?_;refine vk (vbi) ?_;refine vk (Ai) ?_;refine asd ?_;refine RL.gk [2,3,4,5,6] ?_;refine .nil ?_
    cases hz
    exact jr () trivial
   replace hz:=Ae hc hz
   have hb0:a0.1=false:=(bf hc)
   refine vk (VOK.lit (Aa) hb0) ?_;refine gf ?_;refine gf ?_;refine gf ?_;refine gf ?_;refine gf ?_;refine gf ?_;refine vk (Ai) ?_;refine asd ?_;refine RL.gk [2,3,4,5,6] ?_;refine .nil ?_
   cases hz
   exact jr () trivial
  rintro _ _
  refine .seq ?_;refine .sr ?_;refine vk (vfa BK) ?_;refine vk (Am CS) ?_;refine vk (vfa Ev) ?_;refine vk (Am CS) ?_
  obtain ⟨x7,hx7,h⟩:=bnd h
  refine vk (Af (HV hx7) Tryz.call112) ?_;refine rk [2,3,4,5,6,61] ?_
  by_cases hc:x7=true
  ·replace h:=Ad hc h
   refine cnt hc ?_;refine .sr ?_;refine vk (Aa) ?_
   obtain ⟨x8,hx8,h⟩:=bnd h
   refine vk ((Af (B1 hx8) Tryz.call121).deep) ?_
   obtain ⟨x9,hx9,h⟩:=bnd h
   refine vk ((Af (B1 hx9) Tryz.call121).deep) ?_;refine vk (vbd Ea BH BL) ?_
   refine stn ?_ Al (by decide)
   refine ar [2,3,4,5,6] ?_;refine .ret ?_
   cases h
   exact ⟨_,_,⟨.inr rfl,Au,Al,(by decide:(0:Nat)<3)⟩,rfl,rfl⟩
  replace h:=Ae hc h
  refine cnf (bf hc) ?_;refine .skip ?_
  show AW _ _ _ _ _ _
  refine .sr ?_;refine vk (vfa BK) ?_;refine vk (Am CS) ?_
  obtain ⟨x10,hx10,h⟩:=bnd h
  refine vk (VOK.tupd (vs:=[.i .i64 x10.1,.b x10.2]) (Af (TS hx10) Tryz.call207)) ?_;refine vk (Aa) ?_;refine vk (vex) ?_;refine vk (vex) ?_;refine asd ?_;refine ar [2,3,4,5,6,7,8] ?_;refine .seq ?_;refine .sr ?_;refine vk (Aa) ?_;refine vk (vnt) ?_;refine rk [2,3,4,5,6,7,73] ?_
  by_cases hc:x10.2=true
  ·replace h:=Ad hc h
   refine cnf (ntf hc) ?_;refine .skip ?_
   show AW _ _ _ _ _ _
   refine .sr ?_;refine vk (vfa BK) ?_;refine vk (Am CS) ?_;refine vk (Aa) ?_
   obtain ⟨x11,hx11,h⟩:=bnd h
   refine vk (VOK.tupd (vs:=[.sl (L x11.1),.b x11.2]) (Af (Oa hx11) Tryz.call208)) ?_;refine vk (Aa) ?_;refine vk (vex) ?_;refine vk (vex) ?_;refine asd ?_;refine ar [2,3,4,5,6,7,9,10] ?_;refine .sr ?_;refine vk (vfa Ev) ?_;refine vk (Am CS) ?_;refine vk (Aa) ?_
   obtain ⟨x12,hx12,h⟩:=bnd h
   refine vk (VOK.tupd (vs:=[.sl (L x12.1),.b x12.2]) (Af (Oa hx12) Tryz.call208)) ?_;refine vk (Aa) ?_;refine vk (vex) ?_;refine vk (vex) ?_;refine asd ?_;refine ar [3,4,5,6,9,10,11,12] ?_;refine .seq ?_;refine .seq ?_;refine AW.mr (σ:=Unit) (fun _=>True) (fun _=>[(3,.d (.ptr [.b a1.1,.sl (L a1.2.1),.sl (L a1.2.2)])),(4,.nb [.b false,.sl (L []),.sl (L [])]),(5,.d (.i .i64 0)),(6,.d (.b z5)),(9,.d (.sl (L x11.1))),(11,.d (.sl (L x12.1))),(94,.d (.b ((!x11.2) || (!x12.2))))]) (fun _=>[]) ?_ ?_
   ·skip
    refine .region ?_;refine vk (Aa) ?_;refine vk (vnt) ?_
    by_cases hc:x11.2=true
    ·have hb0:(!x11.2)=false:=(ntf hc)
     refine vk (VOK.lit (Aa) hb0) ?_;refine vk (Aa) ?_;refine vk (vnt) ?_;refine vk (Ai) ?_;refine RL.gk [3,4,5,6,9,11,94] ?_;refine .nil ?_
     exact jr () trivial (by simp only [hb0];rfl)
    have hb0:(!x11.2)=true:=(ntt (bf hc))
    refine vk (VOK.lit (Aa) hb0) ?_;refine gf ?_;refine gf ?_;refine vk (Ai) ?_;refine RL.gk [3,4,5,6,9,11,94] ?_;refine .nil ?_
    exact jr () trivial (by simp only [hb0];rfl)
   rintro _ _
   by_cases hc:((!x11.2) || (!x12.2))=true
   ·replace h:=Ad hc h
    refine cnt hc ?_;refine .sr ?_;refine vk (vbd Ea BH BL) ?_
    refine stn ?_ Al (by decide)
    refine ar [3,4,5,6,9,11] ?_;refine .ret ?_
    cases h
    exact ⟨_,_,⟨.inr rfl,Au,Al,(by decide:(0:Nat)<3)⟩,rfl,rfl⟩
   replace h:=Ae hc h
   refine cnf (bf hc) ?_;refine .skip ?_
   show AW _ _ _ _ _ _
   refine .seq ?_;refine .sr ?_;refine vk (vfa CQ) ?_;refine vk (Am BJ) ?_;refine rk [4,5,6,9,11,97] ?_
   by_cases hc:a1.1=true
   ·replace h:=Ad hc h
    refine cnt hc ?_;refine .region ?_;refine vk (Aa) ?_;refine vk (Aa) ?_;refine asd ?_;refine ar [4,5,6,9,11] ?_;refine .sr ?_;refine vk (Aa) ?_;refine vk (Aa) ?_;refine vk (Aa) ?_;refine vk (vbd Ea BH BL) ?_
    refine stn ?_ Al (by decide)
    refine ar [4,5] ?_;refine .ret ?_
    cases h
    exact ⟨_,_,⟨.inr rfl,Au,Al,(by decide:(0:Nat)<3)⟩,rfl,rfl⟩
   replace h:=Ae hc h
   refine cnf (bf hc) ?_;refine .skip ?_
   show AW _ _ _ _ _ _
   refine .sr ?_;refine vk (Aa) ?_;refine vk (Aa) ?_;refine vk (Aa) ?_;refine vk (vbd Ea BH BL) ?_
   refine stn ?_ Al (by decide)
   refine ar [4,5] ?_;refine .ret ?_
   cases h
   exact ⟨_,_,⟨.inr rfl,Au,Al,(by decide:(0:Nat)<3)⟩,rfl,rfl⟩
  replace h:=Ae hc h
  refine cnt (ntt (bf hc)) ?_;refine .sr ?_;refine vk (vbd Ea BH BL) ?_
  refine stn ?_ Al (by decide)
  refine ar [2,3,4,5,6,7] ?_;refine .ret ?_
  cases h
  exact ⟨_,_,⟨.inr rfl,Au,Al,(by decide:(0:Nat)<3)⟩,rfl,rfl⟩
 replace h:=Ae hc h
 refine cnt (ntt (bf hc)) ?_;refine .sr ?_;refine vk (vbd Ea BH BL) ?_
 refine stn ?_ Al (by decide)
 refine ar [2,3,4,5] ?_;refine .ret ?_
 cases h
 exact ⟨_,_,⟨.inr rfl,Au,Al,(by decide:(0:Nat)<3)⟩,rfl,rfl⟩
def Dv (a1 : RT) (z6 : (List Nat)) : Nat→RT→Int→(List Nat)→(List Nat)→Option (RT × Int)
 | 0,_,_,_,_=>none
 | k+1,s11,s12,s13,s14=>((Eg s14 z6).bind fun x15=>(if x15≤0 then (D9.bind fun x16=>((UA ([a1.2.1,x16])).bind fun x17=>((Sd x17 s14).bind fun x18=>((Nh ([s13,x18.1])).bind fun x19=>((Pz x19 s14).bind fun x20=>(if 32<((List.length x20.1:Nat):Int) then (some ((false,[],[]),8)) else (D9.bind fun x21=>((UA ([s14,x21])).bind fun x22=>(Dv a1 z6 k s11 s12 x20.1 x22))))))))) else (D9.bind fun x23=>(some ((false,s13,x23),0)))))
def HJ (a0 : RT) (a1 : RT) : Option (RT × Int):=((Dm ([a0,a1])).bind fun x1=>(if x1=true then ((FH a0).bind fun x2=>(Option.bind ((if x2=true then ((FH a1).bind fun x4=>(some (!x4))) else (some true)) : Option (Bool)) fun (z2 : Bool)=>(if z2=true then (some ((false,[],[]),3)) else ((Sd a1.2.1 a0.2.1).bind fun x5=>(jn (fun (z6 : (List Nat))=>(D9.bind fun x9=>(D9.bind fun x10=>(Dv a1 z6 Bi (false,[],[]) 0 x9 x10)))) fun K0=>(if x5.2=true then ((Eg x5.1 a0.2.1).bind fun x7=>(if x7<0 then (K0 x5.1) else (K0 a0.2.1))) else ((BR 0).bind fun x8=>(some (x8,0))))))))) else (some ((false,[],[]),22))))
theorem Mg {a0 : RT} {a1 : RT} {r : RT × Int} (h : HJ a0 a1=some r) :
  Fn Tryz.prog 139 [.ag [.b a0.1,.sl (L a0.2.1),.sl (L a0.2.2)],.ag [.b a1.1,.sl (L a1.2.1),.sl (L a1.2.2)]] (.tup [.d (.ag [.b r.1.1,.sl (L r.1.2.1),.sl (L r.1.2.2)]),.d (.i .i64 r.2)]):=by
 unfold HJ at h
 refine Fn.ofC (rs:=[.cell 4 32,.tmp 5]) (nt:=86) Tryz.func139 rfl rfl rfl (by simp) rfl ?_;refine .sr ?_;refine vk (vbx) ?_;refine vk (vbx) ?_;refine vk (van (Ag BH) BL) ?_;refine ar [2,3,4,5] ?_;refine .seq ?_;refine .block ?_;refine .sr ?_;refine vk (Ao Au Al) ?_;refine vk (Ao Au Al) ?_;refine vk ((E2 (Dx [a0,a1]) FK).deep) ?_
 obtain ⟨x1,hx1,h⟩:=bnd h
 refine vk (Af (CK hx1) Tryz.call167) ?_;refine vk (vnt) ?_;refine ar [2,3,4,5,13] ?_
 by_cases hc:x1=true
 ·replace h:=Ad hc h
  refine cnf (ntf hc) ?_;refine .seq ?_
  obtain ⟨x2,hx2,h⟩:=bnd h
  obtain ⟨z2,hz,h⟩:=bnd h
  refine AW.mr (σ:=Unit) (fun _=>True) (fun _=>[(2,.d (.ptr [.b a0.1,.sl (L a0.2.1),.sl (L a0.2.2)])),(3,.d (.ptr [.b a1.1,.sl (L a1.2.1),.sl (L a1.2.2)])),(4,.nb [.b false,.sl (L []),.sl (L [])]),(5,.d (.i .i64 0)),(20,.d (.b z2))]) (fun _=>[]) ?_ ?_
  ·skip
   refine .region ?_;refine vk (Ao Au Al) ?_;refine vk (Af (Gw hx2) Tryz.call163) ?_;refine vk (vnt) ?_
   by_cases hc:x2=true
   ·replace hz:=Ad hc hz
    have hb0:(!x2)=false:=(ntf hc)
    refine vk (VOK.lit (Aa) hb0) ?_;refine vk (Ao Au Al) ?_
    obtain ⟨x4,hx4,hz⟩:=bnd hz
    refine vk (Af (Gw hx4) Tryz.call163) ?_;refine vk (vnt) ?_;refine vk (Ai) ?_;refine asd ?_;refine RL.gk [2,3,4,5,20] ?_;refine .nil ?_
    cases hz
    exact jr () trivial
   replace hz:=Ae hc hz
   have hb0:(!x2)=true:=(ntt (bf hc))
   refine vk (VOK.lit (Aa) hb0) ?_;refine gf ?_;refine gf ?_;refine gf ?_;refine vk (Ai) ?_;refine asd ?_;refine RL.gk [2,3,4,5,20] ?_;refine .nil ?_
   cases hz
   exact jr () trivial
  rintro _ _
  by_cases hc:z2=true
  ·replace h:=Ad hc h
   refine cnt hc ?_;refine .sr ?_;refine vk (vbd Ea BH BL) ?_
   refine stn ?_ Al (by decide)
   refine ar [2,3,4,5] ?_;refine .ret ?_
   cases h
   exact ⟨_,_,⟨.inr rfl,Au,Al,(by decide:(0:Nat)<3)⟩,rfl,rfl⟩
  replace h:=Ae hc h
  refine cnf (bf hc) ?_;refine .skip ?_
  show AW _ _ _ _ _ _
  refine .sr ?_;refine vk (vfa BK) ?_;refine vk (Am CS) ?_;refine ar [3,4,5,6] ?_;refine .sr ?_;refine vk (vfa BK) ?_;refine vk (Am CS) ?_;refine vk (Aa) ?_
  obtain ⟨x5,hx5,h⟩:=bnd h
  refine vk (VOK.tupd (vs:=[.sl (L x5.1),.b x5.2]) (Af (N7 hx5) Tryz.call209)) ?_;refine vk (Aa) ?_;refine vk (vex) ?_;refine vk (vex) ?_;refine asd ?_;refine ar [3,4,5,6,7,8] ?_
  obtain ⟨K0,hK0,h⟩:=BS h
  refine AW.mj (σ:=(List Nat)) (fun p=>K0 p=some r) (fun p=>[(3,.d (.ptr [.b a1.1,.sl (L a1.2.1),.sl (L a1.2.2)])),(4,.nb [.b false,.sl (L []),.sl (L [])]),(5,.d (.i .i64 0)),(6,.d (.sl (L p)))]) (fun p=>[]) ?_ ?_
  ·skip
   refine .block ?_;refine .sr ?_;refine vk (Aa) ?_;refine vk (vnt) ?_;refine ar [3,4,5,6,7,39] ?_
   by_cases hc:x5.2=true
   ·replace h:=Ad hc h
    refine cnf (ntf hc) ?_;refine .sr ?_;refine vk (Aa) ?_;refine vk (Aa) ?_
    obtain ⟨x7,hx7,h⟩:=bnd h
    refine vk (Af (CV hx7) Tryz.call164) ?_;refine vk (vbi) ?_;refine ar [3,4,5,6,7,43] ?_
    by_cases hc:x7<0
    ·replace h:=Ad hc h
     refine cnt (dT hc) ?_;refine .region ?_;refine vk (Aa) ?_;refine asd ?_;refine RL.gk [3,4,5,6] ?_;refine .nil ?_
     exact jr (x5.1) h
    replace h:=Ae hc h
    refine cnf (dF hc) ?_;refine .gk [3,4,5,6] ?_;refine .skip ?_
    exact jr (a0.2.1) h
   replace h:=Ae hc h
   refine cnt (ntt (bf hc)) ?_;refine .sr ?_
   obtain ⟨x8,hx8,h⟩:=bnd h
   refine vk (Af (Bx hx8) Tryz.call72) ?_
   refine stn ?_ Al (by decide)
   refine ar [3,4,5,6] ?_;refine .ret ?_
   cases h
   exact ⟨_,_,⟨.inr rfl,Au,Al,(by decide:(0:Nat)<3)⟩,rfl,rfl⟩
  rintro z6 h
  try dsimp only at h ⊢
  subst hK0
  refine .sr ?_
  obtain ⟨x9,hx9,h⟩:=bnd h
  refine vk ((Af (B1 hx9) Tryz.call121).deep) ?_;refine ar [3,4,5,6,9] ?_;refine .seq ?_;refine .sr ?_
  obtain ⟨x10,hx10,h⟩:=bnd h
  refine vk ((Af (B1 hx10) Tryz.call121).deep) ?_;refine ar [3,4,5,6,9,10] ?_;refine .block ?_
  refine .loop (.gk [3,4,5,6,9,10] ?_)
  refine AL.ind (σ:=Nat × RT × Int × (List Nat) × (List Nat)) (m:=fun p=>p.1) (e:=fun p=>[(3,.d (.ptr [.b a1.1,.sl (L a1.2.1),.sl (L a1.2.2)])),(4,.nb [.b p.2.1.1,.sl (L p.2.1.2.1),.sl (L p.2.1.2.2)]),(5,.d (.i .i64 p.2.2.1)),(6,.d (.sl (L z6))),(9,.d (.sl (L p.2.2.2.1))),(10,.d (.sl (L p.2.2.2.2)))]) (h:=fun p=>[]) (I:=fun p=>Dv a1 z6 p.1 p.2.1 p.2.2.1 p.2.2.2.1 p.2.2.2.2=some r) ?_ (Bi,(false,[],[]),0,x9,x10) h
  rintro ⟨k,s11,s12,s13,s14⟩ h ih
  dsimp only at h ih ⊢
  rcases k with _ | k
  ·rw [Dv] at h;cases h
  rw [Dv] at h
  refine .seq ?_;refine .sr ?_;refine vk (Aa) ?_;refine vk (Aa) ?_
  obtain ⟨x15,hx15,h⟩:=bnd h
  refine vk (Af (CV hx15) Tryz.call164) ?_;refine vk (vbi) ?_;refine rk [3,4,5,6,9,10,54] ?_
  by_cases hc:x15≤0
  ·replace h:=Ad hc h
   refine cnt (dT hc) ?_;refine .skip ?_
   show AW _ _ _ _ _ _
   refine .seq ?_;refine .block ?_;refine .seq ?_
   obtain ⟨x16,hx16,h⟩:=bnd h
   obtain ⟨x17,hx17,h⟩:=bnd h
   obtain ⟨x18,hx18,h⟩:=bnd h
   refine .drawnF 10 [9] [(11,.d (.sl (L x18.1)))] [] A9 (by kernel_rfl) rfl ?_;refine dv (vfa BK) ?_;refine dv (Am CS) ?_;refine dv ((Af (B1 hx16) Tryz.call121).deep) ?_;refine dv ((E2 (FU [a1.2.1,x16]) Oj).deep) ?_;refine dv (Af (MA hx17) Tryz.call165) ?_;refine dv (Aa) ?_;refine dv (VOK.tupd (vs:=[.sl (L x18.1),.b x18.2]) (Af (N7 hx18) Tryz.call209)) ?_;refine dv (Aa) ?_;refine dv (vex) ?_;refine dv (vex) ?_;refine dz ?_
   refine ⟨?_,?_,?_⟩
   ·intro k hk
    simp only [List.mem_cons,List.not_mem_nil,or_false] at hk
    subst hk
    exact ⟨_,_,_,rfl,rfl,rfl,rfl,rfl,rfl,vex⟩
   ·intro om e hom hge
    cases hom
    exact X3 rfl ((hge 67 (fun k hk v hv=>by
      simp only [List.mem_cons,List.not_mem_nil,or_false] at hk
      subst hk;exact (by decide:¬ (some 68=some 67)) (congrArg (Option.map Prod.fst) hv))).trans rfl) rfl ((congrArg Aq (hge 11 (fun k hk v hv=>by
      simp only [List.mem_cons,List.not_mem_nil,or_false] at hk
      subst hk;exact (by decide:¬ (some 68=some 11)) (congrArg (Option.map Prod.fst) hv)))).trans rfl) rfl ⟨rfl,rfl⟩
   refine ar [3,4,5,6,9,10,11] ?_;refine .sr ?_;refine vk (Aa) ?_;refine vk (Aa) ?_;refine vk ((E2 (FU [s13,x18.1]) Oj).deep) ?_
   obtain ⟨x19,hx19,h⟩:=bnd h
   refine vk (Af (LX hx19) Tryz.call166) ?_;refine vk (Aa) ?_
   obtain ⟨x20,hx20,h⟩:=bnd h
   refine vk (VOK.tupd (vs:=[.sl (L x20.1),.sl (L x20.2.1),.b x20.2.2]) (Af (M7 hx20) Tryz.call199)) ?_;refine vk (Aa) ?_;refine vk (vex) ?_;refine vk (vex) ?_;refine vk (vex) ?_;refine ar [3,4,5,6,9,10] ?_;refine .sr ?_;refine vk (Aa) ?_;refine vk (Bk (Ab _) (A1 _) Io) ?_;refine vk (vbi) ?_;refine rk [3,4,5,6,9,10,81] ?_
   by_cases hc:32<((List.length x20.1:Nat):Int)
   ·replace h:=Ad hc h
    refine cnt (dT hc) ?_;refine .sr ?_;refine vk (vbd Ea BH BL) ?_
    refine stn ?_ Al (by decide)
    refine ar [3,4,5,6,9,10] ?_;refine .ret ?_
    cases h
    exact ⟨_,_,⟨.inr rfl,Au,Al,(by decide:(0:Nat)<3)⟩,rfl,rfl⟩
   replace h:=Ae hc h
   refine cnf (dF hc) ?_;refine .skip ?_
   show AW _ _ _ _ _ _
   refine .region ?_;refine vk (Aa) ?_
   obtain ⟨x21,hx21,h⟩:=bnd h
   refine vk ((Af (B1 hx21) Tryz.call121).deep) ?_;refine vk ((E2 (FU [s14,x21]) Oj).deep) ?_
   obtain ⟨x22,hx22,h⟩:=bnd h
   refine vk (Af (MA hx22) Tryz.call165) ?_;refine asd ?_;refine .nil ?_;refine AL.gk [3,4,5,6,9,10] ?_
   exact ih (k,s11,s12,x20.1,x22) h (Nat.lt_succ_self _)
  replace h:=Ae hc h
  refine cnf (dF hc) ?_;refine .exit ?_
  show AW _ _ _ _ _ _
  refine .sr ?_;refine vk (Aa) ?_
  obtain ⟨x23,hx23,h⟩:=bnd h
  refine vk ((Af (B1 hx23) Tryz.call121).deep) ?_;refine vk (vbd Ea BH BL) ?_
  refine stn ?_ Al (by decide)
  refine ar [4,5] ?_;refine .ret ?_
  cases h
  exact ⟨_,_,⟨.inr rfl,Au,Al,(by decide:(0:Nat)<3)⟩,rfl,rfl⟩
 replace h:=Ae hc h
 refine cnt (ntt (bf hc)) ?_;refine .sr ?_;refine vk (vbd Ea BH BL) ?_
 refine stn ?_ Al (by decide)
 refine ar [2,3,4,5] ?_;refine .ret ?_
 cases h
 exact ⟨_,_,⟨.inr rfl,Au,Al,(by decide:(0:Nat)<3)⟩,rfl,rfl⟩
theorem Fb {z : Int} (h1 : -9223372036854775808≤z) (h2 : z≤9223372036854775807) : w64 z=z:=JM h1 h2
theorem Rg {r : RT} (h : GH r=true) : DT r=some (A8 r):=if_pos h
theorem Pe {r : RT} (h : GH r=true) : Ji r=some (A8 r):=if_pos h
def sm (k : Nat) (x : Q3) : Prop:=(Ac x.2.1).length≤k∧(Ac x.2.2).length≤k
theorem Wi (p : Rat) : (q3 p).2.2 ≠ 0:=p.den_nz
theorem Ms {z : Int} (h1 : -9223372036854775808≤z) (h2 : z≤9223372036854775807) : BR z=some (ofQ z):=by
 have:BR z=some (decide (z<0),Ac z.natAbs,[1]):=if_pos ⟨h1,h2⟩
 rw [this]
 show _=some (decide (z<0),Ac z.natAbs,Ac 1)
 rw [QD]
theorem Vs {z : Int} (h1 : -9223372036854775808≤z) (h2 : z≤9223372036854775808) : ES (z : Rat):=by
 constructor
 ·show (Ac z.natAbs).length≤32
  exact Nat.le_trans (BZ (k:=3) (by omega)) (by decide)
 ·show (Ac 1).length≤32
  rw [QD];decide
mutual
def okI : Itm→Prop
 | .mk k n c b=>(0≤k∧k<256)∧GH n=true∧(-2147483648≤c∧c<2147483648)∧b.length≤2932031007402∧okAs b
def okAr : Arr→Prop
 | .mk s i=>(∀ z ∈ s,-9223372036854775808≤z∧z≤9223372036854775807)∧s.length≤17592186044416∧i.length≤1466015503701∧okIs i
def okIs : List Itm→Prop
 | []=>True
 | x::xs=>okI x∧okIs xs
def okAs : List Arr→Prop
 | []=>True
 | x::xs=>okAr x∧okAs xs
end
theorem Rd : ∀ {xs : List Itm},okIs xs↔∀ x ∈ xs,okI x
 | []=>by simp [okIs]
 | x::xs=>by simp [okIs,Rd (xs:=xs)]
theorem P6 : ∀ {xs : List Arr},okAs xs↔∀ x ∈ xs,okAr x
 | []=>by simp [okAs]
 | x::xs=>by simp [okAs,P6 (xs:=xs)]
theorem Dp (x : Itm) : okI x↔(0≤x.kind∧x.kind<256)∧GH x.num=true∧(-2147483648≤x.char∧x.char<2147483648)∧x.box.length≤2932031007402∧∀ a ∈ x.box,okAr a:=by
 cases x;simp only [okI,P6,Itm.kind,Itm.num,Itm.char,Itm.box]
theorem Bo (a : Arr) : okAr a↔(∀ z ∈ a.shape,-9223372036854775808≤z∧z≤9223372036854775807)∧a.shape.length≤17592186044416∧a.items.length≤1466015503701∧∀ x ∈ a.items,okI x:=by
 cases a;simp only [okAr,Rd,Arr.shape,Arr.items]
theorem OL : ∀ {xs : List Itm} {x : Itm},x ∈ xs→x.size≤itsSize xs
 | y::xs,x,h=>by
  rw [itsSize]
  rcases List.mem_cons.1 h with rfl | h
  ·omega
  ·have:=OL h;omega
theorem Qy : ∀ {xs : List Arr} {x : Arr},x ∈ xs→x.size≤arsSize xs
 | y::xs,x,h=>by
  rw [arsSize]
  rcases List.mem_cons.1 h with rfl | h
  ·omega
  ·have:=Qy h;omega
theorem Fq {a : Arr} {x : Itm} (h : x ∈ a.items) : x.size<a.size:=by
 cases a;have:=OL (xs:=_) h;simp only [Arr.size,Arr.items] at *;omega
theorem Ee {x : Itm} {a : Arr} (h : a ∈ x.box) : a.size<x.size:=by
 cases x;have:=Qy (xs:=_) h;simp only [Itm.size,Itm.box] at *;omega
theorem Ce {n : Nat} (h : n≤140737488355328) : n<Bi:=by unfold Bi;omega
theorem Cf {i : Nat} (h : i≤9223372036854775806) : w64 ((i : Int)+1)=((i+1 : Nat) : Int):=by rw [Fb (by omega) (by omega)];omega
theorem Qa {α : Type} {xs : List α} {i : Nat} {x : α} (h : xs[i]?=some x) : rd? xs (i : Int)=some x:=by
 rw [rd?,if_pos (by omega)];simpa using h
theorem Ck {α : Type} {xs : List α} {i : Nat} (h : i<xs.length) : rd? xs (i : Int)=some xs[i]:=Qa (List.getElem?_eq_getElem h)
theorem Ie {α : Type} {m : Nat} {xs ys : List α} (h : xs.length+ys.length≤m) : ap? m xs ys=some (xs++ys):=if_pos h
theorem MZ {α : Type} {x : α} {xs : List α} : rd? (x::xs) 0=some x:=rfl
theorem L4 {xs : List Int} {f : BE} {p : Int→Bool} (hf : ∀ x ∈ xs,f.g x=some (p x)) (K : Int→Option Int) (hl : xs.length≤17592186044416) : ∀ (n i k : Nat) (s : Int),n=xs.length - i→i≤xs.length→n<k →
  AX xs f K k s (i:Int)=match (xs.drop i).findIdx? p with | some j=>some (((i+j:Nat)):Int) | none=>K s
 | n,i,0,s,_,_,h=>by omega
 | n,i,k+1,s,hn,hi,hk=>by
  rw [AX]
  by_cases hlt:i<xs.length
  ·rw [if_pos (by omega),Ck hlt,oB,hf _ (List.getElem_mem _),oB,List.drop_eq_getElem_cons hlt,List.findIdx?_cons]
   by_cases hp:p xs[i]=true
   ·rw [if_pos hp,if_pos hp];rfl
   ·rw [if_neg hp,if_neg hp,Cf (by omega),L4 hf K hl (n - 1) (i+1) k s (by omega) (by omega) (by omega)]
    cases (xs.drop (i+1)).findIdx? p with
    | none=>rfl
    | some j=>simp only [Option.map_some];congr 1;omega
  ·rw [if_neg (by omega),List.drop_of_length_le (by omega)];rfl
theorem Ig {xs : List Int} {f : BE} {p : Int→Bool} (hf : ∀ x ∈ xs,f.g x=some (p x)) (hl : xs.length≤17592186044416) : A6 xs f=some (xs.any p):=by
 unfold A6 B3
 simp only [jn]
 have:=L4 hf (fun _=>some (-1)) hl xs.length 0 Bi 0 rfl (Nat.zero_le _) (Ce (by omega))
 rw [List.drop_zero] at this
 rw [show ((0:Nat):Int)=0 from rfl] at this
 rw [this]
 cases h:xs.findIdx? p with
 | none =>
  rw [oB]
  rw [List.findIdx?_eq_none_iff] at h
  rw [show (xs.any p)=false by rw [List.any_eq_false];intro x hx;simp [h x hx]]
  rfl
 | some j =>
  rw [oB]
  rw [List.findIdx?_eq_some_iff_getElem] at h
  obtain ⟨hj,h1,_⟩:=h
  rw [show (xs.any p)=true by rw [List.any_eq_true];exact ⟨_,List.getElem_mem hj,h1⟩]
  simp
theorem Kv {xs : List Int} {v : Int} (K : Int→Option Int) (hl : xs.length≤17592186044416) : ∀ (n i k : Nat) (s : Int),n=xs.length - i→i≤xs.length→n<k →
  Bd xs v K k s (i:Int)=match (xs.drop i).findIdx? (fun x=>decide (v=x)) with | some j=>some (((i+j:Nat)):Int) | none=>K s
 | n,i,0,s,_,_,h=>by omega
 | n,i,k+1,s,hn,hi,hk=>by
  rw [Bd]
  by_cases hlt:i<xs.length
  ·rw [if_pos (by omega),Ck hlt,oB,List.drop_eq_getElem_cons hlt,List.findIdx?_cons]
   by_cases hp:v=xs[i]
   ·rw [if_pos hp,if_pos (dT hp)];rfl
   ·rw [if_neg hp,if_neg (by simp [hp]),Cf (by omega),Kv K hl (n - 1) (i+1) k s (by omega) (by omega) (by omega)]
    cases (xs.drop (i+1)).findIdx? (fun x=>decide (v=x)) with
    | none=>rfl
    | some j=>simp only [Option.map_some];congr 1;omega
  ·rw [if_neg (by omega),List.drop_of_length_le (by omega)];rfl
theorem QS {xs : List Int} {v : Int} (hl : xs.length≤17592186044416) : BG xs v=some (decide (v ∈ xs)):=by
 unfold BG CW
 simp only [jn]
 have:=Kv (v:=v) (fun _=>some (-1)) hl xs.length 0 Bi 0 rfl (Nat.zero_le _) (Ce (by omega))
 rw [List.drop_zero] at this
 rw [show ((0:Nat):Int)=0 from rfl] at this
 rw [this]
 cases h:xs.findIdx? (fun x=>decide (v=x)) with
 | none =>
  rw [oB]
  rw [List.findIdx?_eq_none_iff] at h
  rw [show decide (v ∈ xs)=false by rw [decide_eq_false_iff_not];intro hx;have:=h v hx;simp at this]
  rfl
 | some j =>
  rw [oB]
  rw [List.findIdx?_eq_some_iff_getElem] at h
  obtain ⟨hj,h1,_⟩:=h
  rw [show decide (v ∈ xs)=true by rw [decide_eq_true_eq];rw [decide_eq_true_eq] at h1;rw [h1];exact List.getElem_mem hj]
  simp
def Ed (s : List Int) : Int:=s.foldl (· * ·) 1
def szP (s : List Int) : Int × Int :=
 if 8<s.length then (0,4) else if s.any (fun n=>decide (n<0)) then (0,3) else if s.any (fun n=>decide (4096<n)) then (0,8) else if 0 ∈ s then (0,0) else if Ed s≤4096 then (Ed s,0) else (0,8)
theorem KX (s : List Int) : ∀ n : Int,s.foldl (· * ·) n=n * s.foldl (· * ·) 1:=by
 induction s with
 | nil=>intro n;simp
 | cons x xs ih=>intro n;rw [List.foldl_cons,List.foldl_cons,ih (n * x),ih (1 * x),Int.one_mul,Int.mul_assoc]
theorem KS {s : List Int} (h : ∀ x ∈ s,1≤x) : 1≤Ed s:=by
 induction s with
 | nil=>exact Int.le_refl _
 | cons x xs ih =>
  have h1:=h x (by simp)
  have h2:=ih fun y hy=>h y (by simp [hy])
  unfold Ed at *
  rw [List.foldl_cons,KX,Int.one_mul]
  exact Int.le_trans (by omega:(1:Int)≤1 * 1) (Int.mul_le_mul h1 h2 (by omega) (by omega))
theorem N9 {s : List Int} (hl : s.length≤8) (hp : ∀ x ∈ s,1≤x∧x≤4096) (K : Int→Int→Int→Option (Int × Int)) : ∀ (n i k : Nat) (a b m : Int),n=s.length - i→i≤s.length→n<k→1≤m→m≤4096 →
  C6 s K k a b m (i:Int)=if m * Ed (s.drop i)≤4096 then K a b (m * Ed (s.drop i)) else some (0,8)
 | n,i,0,a,b,m,_,_,h,_,_=>by omega
 | n,i,k+1,a,b,m,hn,hi,hk,h1,h2=>by
  rw [C6]
  by_cases hlt:i<s.length
  ·rw [if_pos (by omega),Ck hlt,oB,Kg,if_pos (by omega),oB,List.drop_eq_getElem_cons hlt]
   have hx:=hp s[i] (List.getElem_mem _)
   have hq0:0≤Int.tdiv 4096 m:=Int.tdiv_nonneg (by omega) (by omega)
   have hq1:Int.tdiv 4096 m≤4096:=by rw [Int.tdiv_eq_ediv_of_nonneg (by omega)];exact Int.ediv_le_self _ (by omega)
   rw [Fb (by omega) (by omega)]
   have hpos:1≤Ed (s.drop (i+1)):=KS fun x hx=>(hp x (List.mem_of_mem_drop hx)).1
   have hprod:Ed (s[i]::s.drop (i+1))=s[i] * Ed (s.drop (i+1)):=by unfold Ed;rw [List.foldl_cons,KX,Int.one_mul]
   have hdiv:Int.tdiv 4096 m<s[i]↔4096<m * s[i]:=by
    rw [Int.tdiv_eq_ediv_of_nonneg (by omega),Int.ediv_lt_iff_lt_mul (by omega),Int.mul_comm]
   rw [hprod,← Int.mul_assoc]
   by_cases hc:4096<m * s[i]
   ·rw [if_pos (hdiv.2 hc),if_neg]
    have:m * s[i] * 1≤m * s[i] * Ed (s.drop (i+1)):=Int.mul_le_mul_of_nonneg_left hpos (by omega)
    omega
   ·have hm1:1≤m * s[i]:=Int.le_trans (by omega:(1:Int)≤1 * 1) (Int.mul_le_mul h1 hx.1 (by omega) (by omega))
    rw [if_neg (fun h=>hc (hdiv.1 h)),Cf (by omega),Fb (by omega) (by omega)]
    exact N9 hl hp K (n - 1) (i+1) k a b (m * s[i]) (by omega) (by omega) (by omega) hm1 (by omega)
  ·rw [if_neg (by omega),List.drop_of_length_le (by omega)]
   rw [show Ed []=1 from rfl,Int.mul_one,if_pos h2]
theorem Jh {s : List Int} (hl : s.length≤17592186044416) : Dq s=some (szP s):=by
 unfold Dq szP
 by_cases h8:8<s.length
 ·rw [if_pos (by omega),if_pos h8]
 rw [if_neg (by omega),if_neg h8]
 rw [Ig (p:=fun n=>decide (n<0)) (fun x _=>rfl) hl,oB]
 by_cases h0:s.any (fun n=>decide (n<0))=true
 ·rw [if_pos h0,if_pos h0]
 rw [if_neg h0,if_neg h0]
 rw [Ig (p:=fun n=>decide (4096<n)) (fun x _=>rfl) hl,oB]
 by_cases h1:s.any (fun n=>decide (4096<n))=true
 ·rw [if_pos h1,if_pos h1]
 rw [if_neg h1,if_neg h1,QS hl,oB]
 by_cases h2:0 ∈ s
 ·rw [if_pos (dT h2),if_pos h2]
 rw [if_neg (by simp [h2]),if_neg h2]
 have hp:∀ x ∈ s,1≤x∧x≤4096:=fun x hx=>by
  simp only [List.any_eq_true,decide_eq_true_eq,not_exists,not_and] at h0 h1
  have a:=h0 x hx
  have b:=h1 x hx
  have c:x ≠ 0:=fun e=>h2 (e ▸ hx)
  omega
 have:=N9 (by omega) hp (fun z4 z5 z6=>some (z6,0)) s.length 0 Bi 0 0 1 rfl (Nat.zero_le _) (Ce (by omega)) (by omega) (by omega)
 rw [List.drop_zero,Int.one_mul,show ((0:Nat):Int)=0 from rfl] at this
 simp only [jn]
 rw [this]
 split <;> rfl
theorem HN (s : List Int) : 0≤(szP s).1∧(szP s).1≤4096:=by
 unfold szP
 split
 ·exact ⟨by decide,by decide⟩
 split
 ·exact ⟨by decide,by decide⟩
 split
 ·exact ⟨by decide,by decide⟩
 split
 ·exact ⟨by decide,by decide⟩
 split
 ·rename_i h8 h0 h1 h2 h3
  refine ⟨?_,h3⟩
  have:1≤Ed s:=KS fun x hx=>by
   simp only [List.any_eq_true,decide_eq_true_eq,not_exists,not_and] at h0 h1
   have a:=h0 x hx
   have c:x ≠ 0:=fun e=>h2 (e ▸ hx)
   omega
  omega
 ·exact ⟨by decide,by decide⟩
def Gl (a0 : RT) : Option (RT):=((ap? 35184372088832 [] a0.2.1).bind fun x1=>((ap? 35184372088832 [] a0.2.2).bind fun x2=>(some ((a0.1,x1,x2)))))
theorem NP {a0 : RT} {r : RT} (h : Gl a0=some r) :
  Fn Tryz.prog 47 [.ag [.b a0.1,.sl (L a0.2.1),.sl (L a0.2.2)]] (.d (.ag [.b r.1,.sl (L r.2.1),.sl (L r.2.2)])):=by
 unfold Gl at h
 refine Fn.ofC (rs:=[.cell 2 32]) (nt:=20) Tryz.func47 rfl rfl rfl (by simp) rfl ?_;refine .sr ?_;refine vk (vbx) ?_;refine vk (van (Ag BH) BL) ?_;refine rk [1,2] ?_;refine .sr ?_;refine vk (vfa CQ) ?_;refine vk (Am BJ) ?_;refine vk (VW Ea BH (fun w I μ=>YR w I μ)) ?_;refine vk (van (Ag BH) BL) ?_
 refine Wn ?_ Al (by decide)
 refine rk [1,2,3] ?_;refine .sr ?_;refine vk (EM BK) ?_
 refine ldb (cs:=[.d (.b a0.1),.nl,.nl]) (c:=.nl) rfl rfl ?_ CS
 refine vk (vfa BK) ?_;refine vk (Am CS) ?_
 obtain ⟨x1,hx1,h⟩:=bnd h
 refine YE hx1 YP ?_ Gp Ab Zb
 refine vk (EM BK) ?_
 refine Ma (cs:=[.d (.b a0.1),.nl,.nl]) (c:=.nl) rfl rfl ?_ Y2
 refine rk [1,2,3] ?_;refine .sr ?_;refine vk (EM Ev) ?_
 refine ldb (cs:=[.d (.b a0.1),.own 121 (L x1),.nl]) (c:=.nl) rfl rfl ?_ CS
 refine vk (vfa Ev) ?_;refine vk (Am CS) ?_
 obtain ⟨x2,hx2,h⟩:=bnd h
 refine YE hx2 YP ?_ Gp Ab Zb
 refine vk (EM Ev) ?_
 refine Ma (cs:=[.d (.b a0.1),.own 121 (L x1),.nl]) (c:=.nl) rfl rfl ?_ Y2
 refine rk [2,3] ?_;refine .sr ?_;refine fz (p:=.c 0 1) ?_;refine fz (p:=.c 0 2) ?_;refine vk (IT (cs:=[.d (.b a0.1),.d (.sl (L x1)),.d (.sl (L x2))]) (ds:=[.b a0.1,.sl (L x1),.sl (L x2)]) rfl Au Al) ?_
 refine stn ?_ Al (by decide)
 refine rk [2] ?_;refine .ret ?_
 cases h
 exact ⟨_,⟨.inr rfl,Au,Al,(by decide:(0:Nat)<3)⟩,rfl⟩
def EX (a0 : Int) : Option (Bool):=(some (((decide (0≤a0)) && ((decide (a0≤1114111)) && ((decide (a0<55296)) || (decide (57343<a0)))))))
theorem L8 {a0 : Int} {r : Bool} (h : EX a0=some r) :
  Fn Tryz.prog 216 [.i .i32 a0] (.d (.b r)):=by
 unfold EX at h
 refine Fn.o1 2 17 Tryz.func216 ?_;refine .sr ?_;refine ar [0,2] ?_;refine .seq ?_;refine AW.mr (σ:=Unit) (fun _=>True) (fun _=>[(2,.d (.b ((decide (0≤a0)) && ((decide (a0≤1114111)) && ((decide (a0<55296)) || (decide (57343<a0)))))))]) (fun _=>[]) ?_ ?_
 ·skip
  refine .region ?_;refine vk (Aa) ?_;refine vk (vbi) ?_
  by_cases hc:0≤a0
  ·have hb0:(decide (0≤a0))=true:=(dT hc)
   refine vk (VOK.lit (Aa) hb0) ?_;refine vk (Aa) ?_;refine vk (vbi) ?_;refine vk (Ai) ?_
   by_cases hc:a0≤1114111
   ·have hb1:(decide (a0≤1114111))=true:=(dT hc)
    refine vk (VOK.lit (Aa) hb1) ?_;refine vk (Aa) ?_;refine vk (vbi) ?_
    by_cases hc:a0<55296
    ·have hb2:(decide (a0<55296))=true:=(dT hc)
     refine vk (VOK.lit (Aa) hb2) ?_;refine gf ?_;refine gf ?_;refine vk (Ai) ?_;refine vk (Ai) ?_;refine asd ?_;refine RL.gk [2] ?_;refine .nil ?_
     exact jr () trivial (by simp only [hb0,hb1,hb2];rfl)
    have hb2:(decide (a0<55296))=false:=(dF hc)
    refine vk (VOK.lit (Aa) hb2) ?_;refine vk (Aa) ?_;refine vk (vbi) ?_;refine vk (Ai) ?_;refine vk (Ai) ?_;refine asd ?_;refine RL.gk [2] ?_;refine .nil ?_
    exact jr () trivial (by simp only [hb0,hb1,hb2];rfl)
   have hb1:(decide (a0≤1114111))=false:=(dF hc)
   refine vk (VOK.lit (Aa) hb1) ?_;refine gf ?_;refine gf ?_;refine gfu ?_;refine gf ?_;refine gf ?_;refine gf ?_;refine vk (Ai) ?_;refine asd ?_;refine RL.gk [2] ?_;refine .nil ?_
   exact jr () trivial (by simp only [hb0,hb1];rfl)
  have hb0:(decide (0≤a0))=false:=(dF hc)
  refine vk (VOK.lit (Aa) hb0) ?_;refine gf ?_;refine gf ?_;refine vk (Ai) ?_;refine vk (Aa) ?_;refine gf ?_;refine gf ?_;refine gfu ?_;refine gf ?_;refine gf ?_;refine gf ?_;refine vk (Ai) ?_;refine asd ?_;refine RL.gk [2] ?_;refine .nil ?_
  exact jr () trivial (by simp only [hb0];rfl)
 rintro _ _
 refine .ret ?_
 cases h
 exact ⟨rfl,rfl⟩
def BP (rc_ref03_Same : Arr→Arr→Option (Bool)) (a0 : Itm) (a1 : Itm) (K0 : Bool→Option (Bool)) : Nat→Bool→Int→Option (Bool)
 | 0,_,_=>none
 | k+1,s4,s5=>(if s5<((List.length a0.box:Nat):Int) then ((rd? a0.box s5).bind fun x6=>((rd? a1.box s5).bind fun x7=>((rc_ref03_Same x6 x7).bind fun x8=>(if x8=true then (BP rc_ref03_Same a0 a1 K0 k s4 (w64 (s5+1))) else (some (false)))))) else (K0 s4))
def CN (rc_ref03_Same : Arr→Arr→Option (Bool)) (a0 : Itm) (a1 : Itm) : Option (Bool):=(Option.bind ((if a0.kind=a1.kind then (if a0.char=a1.char then ((ME a0.num a1.num).bind fun x2=>(if x2=true then (some (!(decide (((List.length a0.box : Nat) : Int)=((List.length a1.box : Nat) : Int))))) else (some true))) else (some true)) else (some true)) : Option (Bool)) fun (z1 : Bool)=>(if z1=true then (some (false)) else (jn (fun (z3 : Bool)=>(some (true))) fun K0=>(BP rc_ref03_Same a0 a1 K0 Bi false 0))))
theorem Ke {rc_ref03_Same : Arr→Arr→Option (Bool)} (orc_ref03_Same : ∀ x0 x1 r,rc_ref03_Same x0 x1=some r→Fn Tryz.prog 18 [.ag [.sl (Is x0.shape),.sl (Its x0.items)],.ag [.sl (Is x1.shape),.sl (Its x1.items)]] (.d (.b r))) {a0 : Itm} {a1 : Itm} {r : Bool} (h : CN rc_ref03_Same a0 a1=some r) :
  Fn Tryz.prog 40 [.ag [.i .u8 a0.kind,.b a0.num.1,.sl (L a0.num.2.1),.sl (L a0.num.2.2),.i .i32 a0.char,.sl (Ars a0.box)],.ag [.i .u8 a1.kind,.b a1.num.1,.sl (L a1.num.2.1),.sl (L a1.num.2.2),.i .i32 a1.char,.sl (Ars a1.box)]] (.d (.b r)):=by
 unfold CN at h
 refine Fn.o1 4 54 Tryz.func40 ?_;refine .sr ?_;refine vk (vbx) ?_;refine vk (vbx) ?_;refine ar [2,3,4] ?_;refine .seq ?_;refine .seq ?_
 obtain ⟨z1,hz,h⟩:=bnd h
 refine AW.mr (σ:=Unit) (fun _=>True) (fun _=>[(2,.d (.ptr [.i .u8 a0.kind,.b a0.num.1,.sl (L a0.num.2.1),.sl (L a0.num.2.2),.i .i32 a0.char,.sl (Ars a0.box)])),(3,.d (.ptr [.i .u8 a1.kind,.b a1.num.1,.sl (L a1.num.2.1),.sl (L a1.num.2.2),.i .i32 a1.char,.sl (Ars a1.box)])),(4,.d (.b false)),(34,.d (.b z1))]) (fun _=>[]) ?_ ?_
 ·skip
  refine .region ?_;refine vk (vfa Bv) ?_;refine vk (Am AS) ?_;refine vk (vfa Bv) ?_;refine vk (Am AS) ?_;refine vk (vbi) ?_
  by_cases hc:a0.kind=a1.kind
  ·replace hz:=Ad hc hz
   have hb0:(!(decide (a0.kind=a1.kind)))=false:=(ntf (dT hc))
   refine vk (VOK.lit (Aa) hb0) ?_;refine vk (vfa CX) ?_;refine vk (Am Cb) ?_;refine vk (vfa CX) ?_;refine vk (Am Cb) ?_;refine vk (vbi) ?_;refine vk (Ai) ?_
   by_cases hc:a0.char=a1.char
   ·replace hz:=Ad hc hz
    have hb1:(!(decide (a0.char=a1.char)))=false:=(ntf (dT hc))
    refine vk (VOK.lit (Aa) hb1) ?_;refine vk (vfa BB) ?_;refine vk (Ao Au Al) ?_;refine vk (vfa BB) ?_;refine vk (Ao Au Al) ?_
    obtain ⟨x2,hx2,hz⟩:=bnd hz
    refine vk (Af (Ql hx2) Tryz.call23) ?_;refine vk (vnt) ?_;refine vk (Ai) ?_
    by_cases hc:x2=true
    ·replace hz:=Ad hc hz
     have hb2:(!x2)=false:=(ntf hc)
     refine vk (VOK.lit (Aa) hb2) ?_;refine vk (vfa A7) ?_;refine vk (Am B8) ?_;refine vk (Bk (Bs _) (Ey _) Ew) ?_;refine vk (vfa A7) ?_;refine vk (Am B8) ?_;refine vk (Bk (Bs _) (Ey _) Ew) ?_;refine vk (vbi) ?_;refine vk (Ai) ?_;refine RL.gk [2,3,4,34] ?_;refine .nil ?_
     cases hz
     exact jr () trivial
    replace hz:=Ae hc hz
    have hb2:(!x2)=true:=(ntt (bf hc))
    refine vk (VOK.lit (Aa) hb2) ?_;refine gf ?_;refine gf ?_;refine gf ?_;refine gf ?_;refine gf ?_;refine gf ?_;refine gf ?_;refine vk (Ai) ?_;refine RL.gk [2,3,4,34] ?_;refine .nil ?_
    cases hz
    exact jr () trivial
   replace hz:=Ae hc hz
   have hb1:(!(decide (a0.char=a1.char)))=true:=(ntt (dF hc))
   refine vk (VOK.lit (Aa) hb1) ?_;refine gf ?_;refine gf ?_;refine gf ?_;refine gf ?_;refine gf ?_;refine gf ?_;refine vk (Ai) ?_;refine vk (Aa) ?_;refine gf ?_;refine gf ?_;refine gf ?_;refine gf ?_;refine gf ?_;refine gf ?_;refine gf ?_;refine vk (Ai) ?_;refine RL.gk [2,3,4,34] ?_;refine .nil ?_
   cases hz
   exact jr () trivial
  replace hz:=Ae hc hz
  have hb0:(!(decide (a0.kind=a1.kind)))=true:=(ntt (dF hc))
  refine vk (VOK.lit (Aa) hb0) ?_;refine gf ?_;refine gf ?_;refine gf ?_;refine gf ?_;refine gf ?_;refine vk (Ai) ?_;refine vk (Aa) ?_;refine gf ?_;refine gf ?_;refine gf ?_;refine gf ?_;refine gf ?_;refine gf ?_;refine vk (Ai) ?_;refine vk (Aa) ?_;refine gf ?_;refine gf ?_;refine gf ?_;refine gf ?_;refine gf ?_;refine gf ?_;refine gf ?_;refine vk (Ai) ?_;refine RL.gk [2,3,4,34] ?_;refine .nil ?_
  cases hz
  exact jr () trivial
 rintro _ _
 by_cases hc:z1=true
 ·replace h:=Ad hc h
  refine cnt hc ?_;refine .sr ?_;refine ar [2,3,4] ?_;refine .ret ?_
  cases h
  exact ⟨rfl,rfl⟩
 replace h:=Ae hc h
 refine cnf (bf hc) ?_;refine .skip ?_
 show AW _ _ _ _ _ _
 refine .seq ?_;refine .sr ?_;refine ar [2,3,4,5] ?_
 obtain ⟨K0,hK0,h⟩:=BS h
 refine AW.mr (σ:=Bool) (fun p=>K0 p=some r) (fun p=>[(4,.d (.b p))]) (fun p=>[]) ?_ ?_
 ·skip
  refine .block ?_
  refine .loop (.gk [2,3,4,5] ?_)
  refine AL.ind (σ:=Nat × Bool × Int) (m:=fun p=>p.1) (e:=fun p=>[(2,.d (.ptr [.i .u8 a0.kind,.b a0.num.1,.sl (L a0.num.2.1),.sl (L a0.num.2.2),.i .i32 a0.char,.sl (Ars a0.box)])),(3,.d (.ptr [.i .u8 a1.kind,.b a1.num.1,.sl (L a1.num.2.1),.sl (L a1.num.2.2),.i .i32 a1.char,.sl (Ars a1.box)])),(4,.d (.b p.2.1)),(5,.d (.i .i64 p.2.2))]) (h:=fun p=>[]) (I:=fun p=>BP rc_ref03_Same a0 a1 K0 p.1 p.2.1 p.2.2=some r) ?_ (Bi,false,0) h
  rintro ⟨k,s4,s5⟩ h ih
  dsimp only at h ih ⊢
  rcases k with _ | k
  ·rw [BP] at h;cases h
  rw [BP] at h
  refine .seq ?_;refine .sr ?_;refine vk (Aa) ?_;refine vk (vfa A7) ?_;refine vk (Am B8) ?_;refine vk (Bk (Bs _) (Ey _) Ew) ?_;refine vk (vbi) ?_;refine rk [2,3,4,5,39] ?_
  by_cases hc:s5<((List.length a0.box:Nat):Int)
  ·replace h:=Ad hc h
   refine cnt (dT hc) ?_;refine .skip ?_
   show AW _ _ _ _ _ _
   refine .seq ?_;refine .block ?_;refine .seq ?_;refine .drawn 12 A9 (by kernel_rfl) ?_;refine dv (vfa A7) ?_;refine dv (Am B8) ?_;refine dv (Aa) ?_
   obtain ⟨x6,hx6,h⟩:=bnd h
   obtain ⟨nx6,hnx6,hxx6⟩:=AI hx6
   refine dv (vix nx6 hnx6 (EV hxx6) rfl E0) ?_;refine dv (Ao Ar Ah) ?_;refine dv (vfa A7) ?_;refine dv (Am B8) ?_;refine dv (Aa) ?_
   obtain ⟨x7,hx7,h⟩:=bnd h
   obtain ⟨nx7,hnx7,hxx7⟩:=AI hx7
   refine dv (vix nx7 hnx7 (EV hxx7) rfl E0) ?_;refine dv (Ao Ar Ah) ?_
   obtain ⟨x8,hx8,h⟩:=bnd h
   refine dv (Af (orc_ref03_Same _ _ _ hx8) Tryz.call18) ?_;refine dv (vnt) ?_;refine dz ?_;refine rk [2,3,4,5,53] ?_
   by_cases hc:x8=true
   ·replace h:=Ad hc h
    refine cnf (ntf hc) ?_;refine .skip ?_
    show AW _ _ _ _ _ _
    refine .region ?_;refine vk (Aa) ?_;refine vk (vbi) ?_;refine asd ?_;refine .nil ?_;refine AL.gk [2,3,4,5] ?_
    exact ih (k,s4,(w64 (s5+1))) h (Nat.lt_succ_self _)
   replace h:=Ae hc h
   refine cnt (ntt (bf hc)) ?_;refine .sr ?_;refine ar [2,3,4,5] ?_;refine .ret ?_
   cases h
   exact ⟨rfl,rfl⟩
  replace h:=Ae hc h
  refine cnf (dF hc) ?_;refine .gk [4] ?_;refine .exit ?_
  exact jr (s4) h
 rintro z3 h
 try dsimp only at h ⊢
 subst hK0
 show AW _ _ _ _ _ _
 refine .sr ?_;refine ar [4] ?_;refine .ret ?_
 cases h
 exact ⟨rfl,rfl⟩
def C0 (a0 : Arr) (a1 : Arr) (K0 : Bool→Option (Bool)) : Nat→Bool→Int→Option (Bool)
 | 0,_,_=>none
 | k+1,s2,s3=>(if s3<((List.length a0.shape:Nat):Int) then ((rd? a0.shape s3).bind fun x4=>((rd? a1.shape s3).bind fun x5=>(if x4=x5 then (C0 a0 a1 K0 k s2 (w64 (s3+1))) else (some (false))))) else (K0 s2))
def Cy (rc_ref03_Same : Arr→Arr→Option (Bool)) (a0 : Arr) (a1 : Arr) (K2 : Bool→Option (Bool)) : Nat→Bool→Int→Option (Bool)
 | 0,_,_=>none
 | k+1,s7,s8=>(if s8<((List.length a0.items:Nat):Int) then ((rd? a0.items s8).bind fun x9=>((rd? a1.items s8).bind fun x10=>((CN rc_ref03_Same x9 x10).bind fun x11=>(if x11=true then (Cy rc_ref03_Same a0 a1 K2 k s7 (w64 (s8+1))) else (some (false)))))) else (K2 s7))
def Fa (rc_ref03_Same : Arr→Arr→Option (Bool)) (a0 : Arr) (a1 : Arr) : Option (Bool):=(if ((!(decide (((List.length a0.shape : Nat) : Int)=((List.length a1.shape : Nat) : Int)))) || (!(decide (((List.length a0.items : Nat) : Int)=((List.length a1.items : Nat) : Int)))))=true then (some (false)) else (jn (fun (z1 : Bool)=>(jn (fun (z6 : Bool)=>(some (true))) fun K2=>(Cy rc_ref03_Same a0 a1 K2 Bi z1 0))) fun K0=>(C0 a0 a1 K0 Bi false 0)))
theorem NO {rc_ref03_Same : Arr→Arr→Option (Bool)} (orc_ref03_Same : ∀ x0 x1 r,rc_ref03_Same x0 x1=some r→Fn Tryz.prog 18 [.ag [.sl (Is x0.shape),.sl (Its x0.items)],.ag [.sl (Is x1.shape),.sl (Its x1.items)]] (.d (.b r))) {a0 : Arr} {a1 : Arr} {r : Bool} (h : Fa rc_ref03_Same a0 a1=some r) :
  Fn Tryz.prog 18 [.ag [.sl (Is a0.shape),.sl (Its a0.items)],.ag [.sl (Is a1.shape),.sl (Its a1.items)]] (.d (.b r)):=by
 unfold Fa at h
 refine Fn.o1 4 60 Tryz.func18 ?_;refine .sr ?_;refine vk (vbx) ?_;refine vk (vbx) ?_;refine ar [2,3,4] ?_;refine .seq ?_;refine .seq ?_;refine AW.mr (σ:=Unit) (fun _=>True) (fun _=>[(2,.d (.ptr [.sl (Is a0.shape),.sl (Its a0.items)])),(3,.d (.ptr [.sl (Is a1.shape),.sl (Its a1.items)])),(4,.d (.b false)),(22,.d (.b ((!(decide (((List.length a0.shape:Nat):Int)=((List.length a1.shape:Nat):Int)))) || (!(decide (((List.length a0.items:Nat):Int)=((List.length a1.items:Nat):Int)))))))]) (fun _=>[]) ?_ ?_
 ·skip
  refine .region ?_;refine vk (vfa AY) ?_;refine vk (Am CG) ?_;refine vk (Bk (A5 _) (Ef _) Ec) ?_;refine vk (vfa AY) ?_;refine vk (Am CG) ?_;refine vk (Bk (A5 _) (Ef _) Ec) ?_;refine vk (vbi) ?_
  by_cases hc:((List.length a0.shape:Nat):Int)=((List.length a1.shape:Nat):Int)
  ·have hb0:(!(decide (((List.length a0.shape:Nat):Int)=((List.length a1.shape:Nat):Int))))=false:=(ntf (dT hc))
   refine vk (VOK.lit (Aa) hb0) ?_;refine vk (vfa AH) ?_;refine vk (Am BD) ?_;refine vk (Bk (AE _) (Cr _) Ct) ?_;refine vk (vfa AH) ?_;refine vk (Am BD) ?_;refine vk (Bk (AE _) (Cr _) Ct) ?_;refine vk (vbi) ?_;refine vk (Ai) ?_;refine RL.gk [2,3,4,22] ?_;refine .nil ?_
   exact jr () trivial (by simp only [hb0];rfl)
  have hb0:(!(decide (((List.length a0.shape:Nat):Int)=((List.length a1.shape:Nat):Int))))=true:=(ntt (dF hc))
  refine vk (VOK.lit (Aa) hb0) ?_;refine gf ?_;refine gf ?_;refine gf ?_;refine gf ?_;refine gf ?_;refine gf ?_;refine gf ?_;refine vk (Ai) ?_;refine RL.gk [2,3,4,22] ?_;refine .nil ?_
  exact jr () trivial (by simp only [hb0];rfl)
 rintro _ _
 by_cases hc:((!(decide (((List.length a0.shape:Nat):Int)=((List.length a1.shape:Nat):Int)))) || (!(decide (((List.length a0.items:Nat):Int)=((List.length a1.items:Nat):Int)))))=true
 ·replace h:=Ad hc h
  refine cnt hc ?_;refine .sr ?_;refine ar [2,3,4] ?_;refine .ret ?_
  cases h
  exact ⟨rfl,rfl⟩
 replace h:=Ae hc h
 refine cnf (bf hc) ?_;refine .skip ?_
 show AW _ _ _ _ _ _
 refine .seq ?_;refine .sr ?_;refine ar [2,3,4,5] ?_
 obtain ⟨K0,hK0,h⟩:=BS h
 refine AW.mr (σ:=Bool) (fun p=>K0 p=some r) (fun p=>[(2,.d (.ptr [.sl (Is a0.shape),.sl (Its a0.items)])),(3,.d (.ptr [.sl (Is a1.shape),.sl (Its a1.items)])),(4,.d (.b p))]) (fun p=>[]) ?_ ?_
 ·skip
  refine .block ?_
  refine .loop (.gk [2,3,4,5] ?_)
  refine AL.ind (σ:=Nat × Bool × Int) (m:=fun p=>p.1) (e:=fun p=>[(2,.d (.ptr [.sl (Is a0.shape),.sl (Its a0.items)])),(3,.d (.ptr [.sl (Is a1.shape),.sl (Its a1.items)])),(4,.d (.b p.2.1)),(5,.d (.i .i64 p.2.2))]) (h:=fun p=>[]) (I:=fun p=>C0 a0 a1 K0 p.1 p.2.1 p.2.2=some r) ?_ (Bi,false,0) h
  rintro ⟨k,s2,s3⟩ h ih
  dsimp only at h ih ⊢
  rcases k with _ | k
  ·rw [C0] at h;cases h
  rw [C0] at h
  refine .seq ?_;refine .sr ?_;refine vk (Aa) ?_;refine vk (vfa AY) ?_;refine vk (Am CG) ?_;refine vk (Bk (A5 _) (Ef _) Ec) ?_;refine vk (vbi) ?_;refine rk [2,3,4,5,27] ?_
  by_cases hc:s3<((List.length a0.shape:Nat):Int)
  ·replace h:=Ad hc h
   refine cnt (dT hc) ?_;refine .skip ?_
   show AW _ _ _ _ _ _
   refine .seq ?_;refine .block ?_;refine .seq ?_;refine .drawn 11 A9 (by kernel_rfl) ?_;refine dv (vfa AY) ?_;refine dv (Am CG) ?_;refine dv (Aa) ?_
   obtain ⟨x4,hx4,h⟩:=bnd h
   obtain ⟨nx4,hnx4,hxx4⟩:=AI hx4
   refine dv (vix nx4 hnx4 (GJ hxx4) rfl E4) ?_;refine dv (Am Ca) ?_;refine dv (vfa AY) ?_;refine dv (Am CG) ?_;refine dv (Aa) ?_
   obtain ⟨x5,hx5,h⟩:=bnd h
   obtain ⟨nx5,hnx5,hxx5⟩:=AI hx5
   refine dv (vix nx5 hnx5 (GJ hxx5) rfl E4) ?_;refine dv (Am Ca) ?_;refine dv (vbi) ?_;refine dz ?_;refine rk [2,3,4,5,40] ?_
   by_cases hc:x4=x5
   ·replace h:=Ad hc h
    refine cnf (ntf (dT hc)) ?_;refine .skip ?_
    show AW _ _ _ _ _ _
    refine .region ?_;refine vk (Aa) ?_;refine vk (vbi) ?_;refine asd ?_;refine .nil ?_;refine AL.gk [2,3,4,5] ?_
    exact ih (k,s2,(w64 (s3+1))) h (Nat.lt_succ_self _)
   replace h:=Ae hc h
   refine cnt (ntt (dF hc)) ?_;refine .sr ?_;refine ar [2,3,4,5] ?_;refine .ret ?_
   cases h
   exact ⟨rfl,rfl⟩
  replace h:=Ae hc h
  refine cnf (dF hc) ?_;refine .gk [2,3,4] ?_;refine .exit ?_
  exact jr (s2) h
 rintro z1 h
 try dsimp only at h ⊢
 subst hK0
 show AW _ _ _ _ _ _
 refine .seq ?_;refine .sr ?_;refine ar [2,3,4,6] ?_
 obtain ⟨K2,hK2,h⟩:=BS h
 refine AW.mr (σ:=Bool) (fun p=>K2 p=some r) (fun p=>[(4,.d (.b p))]) (fun p=>[]) ?_ ?_
 ·skip
  refine .block ?_
  refine .loop (.gk [2,3,4,6] ?_)
  refine AL.ind (σ:=Nat × Bool × Int) (m:=fun p=>p.1) (e:=fun p=>[(2,.d (.ptr [.sl (Is a0.shape),.sl (Its a0.items)])),(3,.d (.ptr [.sl (Is a1.shape),.sl (Its a1.items)])),(4,.d (.b p.2.1)),(6,.d (.i .i64 p.2.2))]) (h:=fun p=>[]) (I:=fun p=>Cy rc_ref03_Same a0 a1 K2 p.1 p.2.1 p.2.2=some r) ?_ (Bi,z1,0) h
  rintro ⟨k,s7,s8⟩ h ih
  dsimp only at h ih ⊢
  rcases k with _ | k
  ·rw [Cy] at h;cases h
  rw [Cy] at h
  refine .seq ?_;refine .sr ?_;refine vk (Aa) ?_;refine vk (vfa AH) ?_;refine vk (Am BD) ?_;refine vk (Bk (AE _) (Cr _) Ct) ?_;refine vk (vbi) ?_;refine rk [2,3,4,6,45] ?_
  by_cases hc:s8<((List.length a0.items:Nat):Int)
  ·replace h:=Ad hc h
   refine cnt (dT hc) ?_;refine .skip ?_
   show AW _ _ _ _ _ _
   refine .seq ?_;refine .block ?_;refine .seq ?_;refine .drawn 12 A9 (by kernel_rfl) ?_;refine dv (vfa AH) ?_;refine dv (Am BD) ?_;refine dv (Aa) ?_
   obtain ⟨x9,hx9,h⟩:=bnd h
   obtain ⟨nx9,hnx9,hxx9⟩:=AI hx9
   refine dv (vix nx9 hnx9 (Dn hxx9) rfl Dj) ?_;refine dv (Ao AM Aw) ?_;refine dv (vfa AH) ?_;refine dv (Am BD) ?_;refine dv (Aa) ?_
   obtain ⟨x10,hx10,h⟩:=bnd h
   obtain ⟨nx10,hnx10,hxx10⟩:=AI hx10
   refine dv (vix nx10 hnx10 (Dn hxx10) rfl Dj) ?_;refine dv (Ao AM Aw) ?_
   obtain ⟨x11,hx11,h⟩:=bnd h
   refine dv (Af (Ke orc_ref03_Same hx11) Tryz.call40) ?_;refine dv (vnt) ?_;refine dz ?_;refine rk [2,3,4,6,59] ?_
   by_cases hc:x11=true
   ·replace h:=Ad hc h
    refine cnf (ntf hc) ?_;refine .skip ?_
    show AW _ _ _ _ _ _
    refine .region ?_;refine vk (Aa) ?_;refine vk (vbi) ?_;refine asd ?_;refine .nil ?_;refine AL.gk [2,3,4,6] ?_
    exact ih (k,s7,(w64 (s8+1))) h (Nat.lt_succ_self _)
   replace h:=Ae hc h
   refine cnt (ntt (bf hc)) ?_;refine .sr ?_;refine ar [2,3,4,6] ?_;refine .ret ?_
   cases h
   exact ⟨rfl,rfl⟩
  replace h:=Ae hc h
  refine cnf (dF hc) ?_;refine .gk [4] ?_;refine .exit ?_
  exact jr (s7) h
 rintro z6 h
 try dsimp only at h ⊢
 subst hK2
 show AW _ _ _ _ _ _
 refine .sr ?_;refine ar [4] ?_;refine .ret ?_
 cases h
 exact ⟨rfl,rfl⟩
def EE : Nat→Arr→Arr→Option (Bool)
 | 0,_,_=>none
 | k+1,a0,a1=>Fa (EE k) a0 a1
theorem IA : ∀ (k : Nat) (a0 : Arr) (a1 : Arr) (r : Bool),EE k a0 a1=some r→Fn Tryz.prog 18 [.ag [.sl (Is a0.shape),.sl (Its a0.items)],.ag [.sl (Is a1.shape),.sl (Its a1.items)]] (.d (.b r))
 | 0,_,_,_,h=>by cases h
 | k+1,a0,a1,_,h=>NO (IA k) (show Fa (EE k) a0 a1=some _ from h)
def Hz (a0 : Arr) (a1 : Arr) : Option (Bool):=EE (a0.size+1) a0 a1
theorem HI {a0 : Arr} {a1 : Arr} {r : Bool} (h : Hz a0 a1=some r) : Fn Tryz.prog 18 [.ag [.sl (Is a0.shape),.sl (Its a0.items)],.ag [.sl (Is a1.shape),.sl (Its a1.items)]] (.d (.b r)):=IA _ a0 a1 r h
def Tells (x : Option Bool) (p : Prop) : Prop:=∃ r,x=some r∧(r=true↔p)
theorem Tells.of {x : Option Bool} {p q : Prop} (h : Tells x p) (e : p↔q) : Tells x q:=by
 obtain ⟨r,h1,h2⟩:=h;exact ⟨r,h1,h2.trans e⟩
theorem Tells.yes {x : Option Bool} {p : Prop} (h : Tells x p) (hp : p) : x=some true:=by
 obtain ⟨r,h1,h2⟩:=h;rw [h1,h2.2 hp]
theorem Tells.no {x : Option Bool} {p : Prop} (h : Tells x p) (hp : ¬ p) : x=some false:=by
 obtain ⟨r,h1,h2⟩:=h
 cases r with
 | true=>exact absurd (h2.1 rfl) hp
 | false=>exact h1
theorem Eh {α β : Type} (k : α) (b : α→β) : jn k b=b k:=rfl
theorem OI {s : List Int} (h : s.length≤17592186044416) : Fp s=some s:=by unfold Fp;rw [Ie (by simpa using h),List.nil_append]
theorem Ko {r : RT} (h : GH r=true) : CT r=some r:=by
 have h1:=Hh.1 h
 unfold CT
 rw [F5,if_pos h1.2.2.1,oB,F5,if_pos h1.2.2.2,oB]
theorem LO {r : RT} (h : GH r=true) : B5 r=some (.mk 1 r 0 []):=by
 unfold B5;rw [Ko h,oB]
theorem LF {a : Arr} {f : Cc} {h : Itm→Itm} (hf : ∀ x ∈ a.items,f.g x=some (h x)) (K : List Int→List Itm→Option Arr) (hl : a.items.length≤1466015503701) : ∀ (n i k : Nat) (s : List Int) (t : List Itm),n=a.items.length - i→i≤a.items.length→n<k→t.length=i →
  Cm a f K k (i:Int) s t=K s (t++(a.items.drop i).map h)
 | n,i,0,s,t,_,_,h,_=>by omega
 | n,i,k+1,s,t,hn,hi,hk,ht=>by
  rw [Cm]
  by_cases hlt:i<a.items.length
  ·rw [if_pos (by omega),Ck hlt,oB,hf _ (List.getElem_mem _),oB,Ie (by simp;omega),oB,Cf (by omega),
    LF hf K hl (n - 1) (i+1) k s _ (by omega) (by omega) (by omega) (by simp [ht]),List.drop_eq_getElem_cons hlt,List.map_cons,List.append_assoc]
   rfl
  ·rw [if_neg (by omega),List.drop_of_length_le (by omega)];simp
theorem Lf {a : Arr} {f : Cc} {h : Itm→Itm} (hf : ∀ x ∈ a.items,f.g x=some (h x)) (hs : a.shape.length≤17592186044416) (hl : a.items.length≤1466015503701) : Cq a f=some (.mk a.shape (a.items.map h)):=by
 unfold Cq
 rw [OI hs,oB]
 simp only [jn]
 have:=LF hf (fun z2 z3=>some (Arr.mk z2 z3)) hl a.items.length 0 Bi a.shape [] rfl (Nat.zero_le _) (Ce (by omega)) rfl
 rw [List.drop_zero,show ((0:Nat):Int)=0 from rfl,List.nil_append] at this
 exact this
theorem NA {rc : Itm→Option Itm} {x : Itm} (hb : ∀ a ∈ x.box,okAr a) (hrc : ∀ a ∈ x.box,∀ y ∈ a.items,rc y=some y) (K : Int→Bool→List Nat→List Nat→Int→List Arr→Option Itm) (hl : x.box.length≤2932031007402) : ∀ (n i k : Nat) (s1 : Int) (s2 : Bool) (s3 s4 : List Nat) (s5 : Int) (t : List Arr),n=x.box.length - i→i≤x.box.length→n<k→t.length=i →
  DJ rc x K k (i:Int) s1 s2 s3 s4 s5 t=K s1 s2 s3 s4 s5 (t++x.box.drop i)
 | n,i,0,s1,s2,s3,s4,s5,t,_,_,h,_=>by omega
 | n,i,k+1,s1,s2,s3,s4,s5,t,hn,hi,hk,ht=>by
  rw [DJ]
  by_cases hlt:i<x.box.length
  ·have hm:=List.getElem_mem hlt
   have ho:=(Bo _).1 (hb _ hm)
   have hc:=Lf (a:=x.box[i]) (f:=⟨.fn 173 [] [],fun x=>rc x⟩) (h:=id) (fun y hy=>hrc _ hm y hy) ho.2.1 ho.2.2.1
   rw [List.map_id,Arr.eta] at hc
   rw [if_pos (by omega),Ck hlt,oB,hc,oB,Ie (by simp;omega),oB,Cf (by omega),
    NA hb hrc K hl (n - 1) (i+1) k s1 s2 s3 s4 s5 _ (by omega) (by omega) (by omega) (by simp [ht]),List.drop_eq_getElem_cons hlt,List.append_assoc]
   rfl
  ·rw [if_neg (by omega),List.drop_of_length_le (by omega)];simp
theorem Oy : ∀ (k : Nat) {x : Itm},x.size<k→okI x→Fe k x=some x
 | 0,x,h,_=>by omega
 | k+1,x,h,ho=>by
  have h1:=(Dp x).1 ho
  rw [Fe,IV,Ko h1.2.1,oB]
  simp only [jn]
  have:=NA (rc:=Fe k) (x:=x) h1.2.2.2.2 (fun a ha y hy=>Oy k (by have:=Ee ha;have:=Fq hy;omega) (((Bo a).1 (h1.2.2.2.2 a ha)).2.2.2 y hy))
   (fun z2 z3 z4 z5 z6 z7=>some (Itm.mk z2 (z3,z4,z5) z6 z7)) h1.2.2.2.1 x.box.length 0 Bi x.kind x.num.1 x.num.2.1 x.num.2.2 x.char [] rfl (Nat.zero_le _) (Ce (by omega)) rfl
  rw [List.drop_zero,show ((0:Nat):Int)=0 from rfl,List.nil_append] at this
  rw [this]
  exact congrArg some (Itm.eta x)
theorem IZ {x : Itm} (h : okI x) : FT x=some x:=Oy _ (Nat.lt_succ_self _) h
theorem LG {a : Arr} (h : okAr a) : Cq a (⟨.fn 173 [] [],fun x=>FT x⟩ : Cc)=some a:=by
 have ho:=(Bo a).1 h
 have:=Lf (a:=a) (f:=⟨.fn 173 [] [],fun x=>FT x⟩) (h:=id) (fun y hy=>IZ (ho.2.2.2 y hy)) ho.2.1 ho.2.2.1
 rwa [List.map_id,Arr.eta] at this
theorem Jp {a b : List Int} (hab : a.length=b.length) (K : Bool→Option Bool) (hl : a.length≤17592186044416) : ∀ (n i k : Nat) (s : Bool),n=a.length - i→i≤a.length→n<k →
  Bb a b K k s (i:Int)=if a.drop i=b.drop i then K s else some false
 | n,i,0,s,_,_,h=>by omega
 | n,i,k+1,s,hn,hi,hk=>by
  rw [Bb]
  by_cases hlt:i<a.length
  ·rw [if_pos (by omega),Ck hlt,oB,Ck (by omega:i<b.length),oB,List.drop_eq_getElem_cons hlt,List.drop_eq_getElem_cons (by omega:i<b.length)]
   by_cases hc:a[i]=b[i]
   ·rw [if_pos hc,Cf (by omega),Jp hab K hl (n - 1) (i+1) k s (by omega) (by omega) (by omega)]
    simp only [hc,List.cons.injEq,true_and]
   ·rw [if_neg hc,if_neg (fun h=>hc (List.cons.inj h).1)]
  ·rw [if_neg (by omega),List.drop_of_length_le (by omega),List.drop_of_length_le (by omega),if_pos rfl]
theorem UV {a b : List Int} (hl : a.length≤17592186044416) : BI a b=some (decide (a=b)):=by
 unfold BI
 by_cases hab:a.length=b.length
 ·rw [if_pos (by omega)]
  simp only [jn]
  have:=Jp hab (fun _=>some true) hl a.length 0 Bi false rfl (Nat.zero_le _) (Ce (by omega))
  rw [List.drop_zero,List.drop_zero,show ((0:Nat):Int)=0 from rfl] at this
  rw [this]
  by_cases h:a=b <;> simp [h]
 ·rw [if_neg (by omega)]
  rw [dF fun h=>hab (by rw [h])]
mutual
def smI : Itm→Prop
 | .mk _ n _ b=>okL 1048576 n.2.1=true∧okL 1048576 n.2.2=true∧smAs b
def smA : Arr→Prop
 | .mk _ i=>smIs i
def smIs : List Itm→Prop
 | []=>True
 | x::xs=>smI x∧smIs xs
def smAs : List Arr→Prop
 | []=>True
 | x::xs=>smA x∧smAs xs
end
theorem Itm.ext_iff' (x y : Itm) : x=y↔x.kind=y.kind∧x.char=y.char∧x.num=y.num∧x.box=y.box:=by
 cases x;cases y;simp only [Itm.mk.injEq,Itm.kind,Itm.char,Itm.num,Itm.box]
 constructor
 ·rintro ⟨a,b,c,d⟩;exact ⟨a,c,b,d⟩
 ·rintro ⟨a,b,c,d⟩;exact ⟨a,c,b,d⟩
theorem Arr.ext_iff' (x y : Arr) : x=y↔x.shape=y.shape∧x.items=y.items:=by cases x;cases y;simp only [Arr.mk.injEq,Arr.shape,Arr.items]
theorem N1 {rc : Arr→Arr→Option Bool} {x y : Itm} (hrc : ∀ a ∈ x.box,∀ b ∈ y.box,Tells (rc a b) (a=b)) (hab : x.box.length=y.box.length) (K : Bool→Option Bool) (hK : ∀ s,K s=some true) (hl : x.box.length≤17592186044416) : ∀ (n i k : Nat) (s : Bool),n=x.box.length - i→i≤x.box.length→n<k →
  Tells (BP rc x y K k s (i:Int)) (x.box.drop i=y.box.drop i)
 | n,i,0,s,_,_,h=>by omega
 | n,i,k+1,s,hn,hi,hk=>by
  rw [BP]
  by_cases hlt:i<x.box.length
  ·have hlt2:i<y.box.length:=by omega
   rw [if_pos (by omega),Ck hlt,oB,Ck hlt2,oB,List.drop_eq_getElem_cons hlt,List.drop_eq_getElem_cons hlt2]
   obtain ⟨r,h1,h2⟩:=hrc _ (List.getElem_mem hlt) _ (List.getElem_mem hlt2)
   rw [h1,oB]
   by_cases hc:r=true
   ·rw [if_pos hc,Cf (by omega)]
    refine (N1 hrc hab K hK hl (n - 1) (i+1) k s (by omega) (by omega) (by omega)).of ?_
    rw [List.cons.injEq];exact ⟨fun h=>⟨h2.1 hc,h⟩,fun h=>h.2⟩
   ·rw [if_neg hc]
    exact ⟨false,rfl,⟨nofun,fun h=>absurd (h2.2 (List.cons.inj h).1) hc⟩⟩
  ·rw [if_neg (by omega),List.drop_of_length_le (by omega),List.drop_of_length_le (by omega),hK];exact ⟨true,rfl,by simp⟩
theorem P0 {rc : Arr→Arr→Option Bool} {x y : Itm} (hx : okI x) (hrc : ∀ a ∈ x.box,∀ b ∈ y.box,Tells (rc a b) (a=b)) : Tells (CN rc x y) (x=y):=by
 have ox:=(Dp x).1 hx
 have on:=Hh.1 ox.2.1
 unfold CN
 rw [Itm.ext_iff']
 by_cases h1:x.kind=y.kind
 rotate_left
 ·rw [if_neg h1];exact ⟨false,rfl,by simp [h1]⟩
 rw [if_pos h1]
 by_cases h2:x.char=y.char
 rotate_left
 ·rw [if_neg h2];exact ⟨false,rfl,by simp [h2]⟩
 rw [if_pos h2,ME,if_pos (by simp [on.2.2.1,on.2.2.2]),oB]
 by_cases h3:x.num=y.num
 rotate_left
 ·rw [if_neg (by simpa using h3)];exact ⟨false,rfl,by simp [h3]⟩
 rw [if_pos (by simpa using h3),oB]
 by_cases h4:x.box.length=y.box.length
 rotate_left
 ·rw [if_pos (by simp;omega)];exact ⟨false,rfl,by simp;intro _ _ _ h;rw [h] at h4;exact h4 rfl⟩
 rw [if_neg (by simp;omega)]
 simp only [jn]
 have:=N1 hrc h4 (fun _=>some true) (fun _=>rfl) (Nat.le_trans ox.2.2.2.1 (by decide)) x.box.length 0 Bi false rfl (Nat.zero_le _) (Ce (by omega))
 rw [List.drop_zero,List.drop_zero,show ((0:Nat):Int)=0 from rfl] at this
 exact this.of (by simp [h1,h2,h3])
theorem OB {a b : Arr} (hab : a.shape.length=b.shape.length) (K : Bool→Option Bool) {p : Prop} (hK : ∀ s,Tells (K s) p) (hl : a.shape.length≤17592186044416) : ∀ (n i k : Nat) (s : Bool),n=a.shape.length - i→i≤a.shape.length→n<k →
  Tells (C0 a b K k s (i:Int)) (a.shape.drop i=b.shape.drop i∧p)
 | n,i,0,s,_,_,h=>by omega
 | n,i,k+1,s,hn,hi,hk=>by
  rw [C0]
  by_cases hlt:i<a.shape.length
  ·have hlt2:i<b.shape.length:=by omega
   rw [if_pos (by omega),Ck hlt,oB,Ck hlt2,oB,List.drop_eq_getElem_cons hlt,List.drop_eq_getElem_cons hlt2]
   by_cases hc:a.shape[i]=b.shape[i]
   ·rw [if_pos hc,Cf (by omega)]
    exact (OB hab K hK hl (n - 1) (i+1) k s (by omega) (by omega) (by omega)).of (by rw [List.cons.injEq];exact ⟨fun h=>⟨⟨hc,h.1⟩,h.2⟩,fun h=>⟨h.1.2,h.2⟩⟩)
   ·rw [if_neg hc]
    exact ⟨false,rfl,⟨nofun,fun h=>absurd (List.cons.inj h.1).1 hc⟩⟩
  ·rw [if_neg (by omega),List.drop_of_length_le (by omega),List.drop_of_length_le (by omega)];exact (hK s).of (by simp)
theorem Oz {rc : Arr→Arr→Option Bool} {a b : Arr} (hrc : ∀ x ∈ a.items,∀ y ∈ b.items,Tells (CN rc x y) (x=y)) (hab : a.items.length=b.items.length) (K : Bool→Option Bool) (hK : ∀ s,K s=some true) (hl : a.items.length≤17592186044416) : ∀ (n i k : Nat) (s : Bool),n=a.items.length - i→i≤a.items.length→n<k →
  Tells (Cy rc a b K k s (i:Int)) (a.items.drop i=b.items.drop i)
 | n,i,0,s,_,_,h=>by omega
 | n,i,k+1,s,hn,hi,hk=>by
  rw [Cy]
  by_cases hlt:i<a.items.length
  ·have hlt2:i<b.items.length:=by omega
   rw [if_pos (by omega),Ck hlt,oB,Ck hlt2,oB,List.drop_eq_getElem_cons hlt,List.drop_eq_getElem_cons hlt2]
   obtain ⟨r,h1,h2⟩:=hrc _ (List.getElem_mem hlt) _ (List.getElem_mem hlt2)
   rw [h1,oB]
   by_cases hc:r=true
   ·rw [if_pos hc,Cf (by omega)]
    refine (Oz hrc hab K hK hl (n - 1) (i+1) k s (by omega) (by omega) (by omega)).of ?_
    rw [List.cons.injEq];exact ⟨fun h=>⟨h2.1 hc,h⟩,fun h=>h.2⟩
   ·rw [if_neg hc]
    exact ⟨false,rfl,⟨nofun,fun h=>absurd (h2.2 (List.cons.inj h).1) hc⟩⟩
  ·rw [if_neg (by omega),List.drop_of_length_le (by omega),List.drop_of_length_le (by omega),hK];exact ⟨true,rfl,by simp⟩
theorem UN {rc : Arr→Arr→Option Bool} {a b : Arr} (oa : a.shape.length≤17592186044416∧a.items.length≤1466015503701) (ih : ∀ x ∈ a.items,∀ y ∈ b.items,Tells (CN rc x y) (x=y)) : Tells (Fa rc a b) (a=b):=by
 rw [Fa,Arr.ext_iff']
 by_cases h1:a.shape.length=b.shape.length∧a.items.length=b.items.length
 rotate_left
 ·rw [if_pos (by simp;omega)];exact ⟨false,rfl,by simp;intro e1 e2;exact h1 ⟨by rw [e1],by rw [e2]⟩⟩
 rw [if_neg (by simp;omega)]
 rw [Eh]
 have h2:=OB h1.1 (p:=a.items=b.items) (fun z1=>jn (fun (z6:Bool)=>(some (true))) fun K2=>(Cy rc a b K2 Bi z1 0)) (fun s=>by
  rw [Eh]
  have h3:=Oz ih h1.2 (fun _=>some true) (fun _=>rfl) (Nat.le_trans oa.2 (by decide)) a.items.length 0 Bi s rfl (Nat.zero_le _) (Ce (by omega))
  rw [show ((0:Nat):Int)=0 from rfl,List.drop_zero,List.drop_zero] at h3
  exact h3) oa.1 a.shape.length 0 Bi false rfl (Nat.zero_le _) (Ce (by omega))
 rw [show ((0:Nat):Int)=0 from rfl,List.drop_zero,List.drop_zero] at h2
 exact h2
theorem Ow : ∀ (k : Nat) {a b : Arr},a.size<k→okAr a→Tells (EE k a b) (a=b)
 | 0,a,b,h,_=>by omega
 | k+1,a,b,h,ha=>by
  have oa:=(Bo a).1 ha
  rw [EE]
  exact UN ⟨oa.2.1,oa.2.2.1⟩ fun x hx y hy=>P0 (oa.2.2.2 x hx) fun p hp q hq =>
   Ow k (by have:=Fq hx;have:p.size<x.size:=Ee hp;omega) (((Dp x).1 (oa.2.2.2 x hx)).2.2.2.2 p hp)
theorem PU {a b : Arr} (ha : okAr a) : Tells (Hz a b) (a=b):=Ow _ (Nat.lt_succ_self _) ha
section
variable {S : Type} (step : Itm→S→Option (Bool × S))
def Px : List Itm→S→Int→Option (Int × S)
 | [],s,_=>some (-1,s)
 | x::xs,s,i=>(step x s).bind fun r=>if r.1=true then some (i,r.2) else Px xs r.2 (i+1)
end
theorem YG {z : Int} (h1 : -9223372036854775808≤z) (h2 : z≤9223372036854775807) : w64 z=z:=by
 simp only [w64,IntKind.wrap,IntKind.bits,IntKind.signed];simp;omega
abbrev dvI (x : Itm) : DV:=.ag [.i .u8 x.kind,.b x.num.1,.sl (L x.num.2.1),.sl (L x.num.2.2),.i .i32 x.char,.sl (Ars x.box)]
abbrev dvA (x : Arr) : DV:=.ag [.sl (Is x.shape),.sl (Its x.items)]
set_option maxRecDepth 10000 in
theorem Pr {S : Type} {step : Itm→S→Option (Bool × S)} {st : S→Aj→Prop} {f : FuncId} {caps : List AV} (hcall : ∀ args w,(callFunc f args).run Tryz.prog w=.ok (.enter f args) w) (hnc : noOwnL caps=true)
  (hstep:∀ (x:Itm) s r H,st s H→step x s=some r→FnR Tryz.prog f (.d (dvI x)::caps) H fun v H'=>v=.d (.b r.1)∧st r.2 H')
  {xs:List Itm} {s:S} {r:Int × S} (hl:xs.length≤9223372036854775806) (h:Px step xs s 0=some r) {H:Aj} (hs:st s H) :
  FnR Tryz.prog 227 [.d (.sl (Its xs)),.fn f [] caps] H fun v H'=>v=.d (.i .i64 r.1)∧st r.2 H':=by
 have hfn:noOwn (.fn f [] caps)=true:=by simp [noOwn,noOwnL,hnc]
 refine FnR.of (rs:=[.tmp 4]) 19 Tryz.func227 rfl rfl rfl (by simp) ?_;refine .seq ?_;refine .region ?_;refine asd ?_;refine rn ?_;refine .seq ?_;refine .seq ?_;refine .region ?_;refine vk (Aa) ?_;refine vk (Bk (AE _) (Cr _) Ct) ?_;refine vk (Aa) ?_;refine rn ?_;refine .block ?_
 refine .loop (.gh (Gh.keep [0,1,7,8] rfl) ?_)
 refine AL.ind (σ:=Nat × S × Aj) (m:=fun p=>xs.length - p.1) (e:=fun p=>[(0,.d (.sl (Its xs))),(1,.fn f [] caps),(7,.d (.i .i64 ((List.length xs:Nat):Int))),(8,.d (.i .i64 ((p.1:Nat):Int)))]) (h:=fun p=>p.2.2)
  (I:=fun p=>p.1≤xs.length∧st p.2.1 p.2.2∧Px step (xs.drop p.1) p.2.1 (p.1:Int)=some r) ?_ (0,s,H) ⟨Nat.zero_le _,hs,h⟩
 rintro ⟨i,s,H⟩ ⟨hi,hs,h⟩ ih
 dsimp only at hi hs h ih ⊢
 refine .seq ?_;refine .region ?_;refine vk (vbi) ?_;refine rn ?_;refine .seq ?_
 by_cases hc:((i:Nat):Int)<((List.length xs:Nat):Int)
 ·refine cnt (dT hc) ?_
  have hlt:i<xs.length:=by omega
  rw [List.drop_eq_getElem_cons hlt,Px] at h
  obtain ⟨z,hz,h⟩:=bnd h
  refine .skip ?_
  show AW _ _ _ _ _ _
  refine .seq ?_;refine .block ?_;refine .seq ?_;refine .region ?_;refine vk (Aa) ?_;refine asd ?_;refine rn ?_;refine .seq ?_;refine .region ?_;refine vk (X0 (av:=.fn f [] caps) (hn:=hfn)) ?_;refine vk (Aa) ?_;refine vk (Aa) ?_;refine vk (vix i rfl (Dn (List.getElem?_eq_getElem hlt)) rfl Dj) ?_;refine vk (Ao AM Aw) ?_
  refine Zc (avs:=[.d (dvI xs[i])]) (hstep _ _ _ _ hs hz) hcall (fun v H' hp=>?_) (hnc:=hnc)
  obtain ⟨rfl,hs'⟩:=hp
  refine rn ?_
  by_cases hc:z.1=true
  ·refine cnt hc ?_
   rw [if_pos hc] at h
   cases h
   refine .seq ?_;refine .region ?_;refine vk (Aa) ?_;refine asd ?_;refine rn ?_;refine .ret ?_
   exact ⟨_,⟨rfl,rfl⟩,rfl,hs'⟩
  refine cnf (bf hc) ?_
  rw [if_neg hc] at h
  refine .skip ?_
  show AW _ _ _ _ _ _
  refine .region ?_;refine vk (vbi) ?_;refine vk (Aa) ?_;refine .nil ?_
  have hw:IntKind.wrap .i64 ((i:Int)+1)=((i+1:Nat):Int):=by rw [show IntKind.wrap .i64 ((i:Int)+1)=(i:Int)+1 from YG (by omega) (by omega)];omega
  rw [hw]
  refine AL.gh (Gh.keep [0,1,7,8] rfl) ?_
  exact ih (i+1,z.2,H') ⟨hlt,hs',by rw [← h];simp⟩ (by dsimp only;omega)
 ·refine cnf (dF hc) ?_
  have:i=xs.length:=by omega
  subst this
  rw [List.drop_length,Px] at h
  cases h
  refine .exit ?_
  show AW _ _ _ _ _ _
  refine .seq ?_;refine .region ?_;refine asd ?_;refine rn ?_;refine .ret ?_
  exact ⟨_,⟨rfl,rfl⟩,rfl,hs⟩
theorem Mj {S : Type} {step : Itm→S→Option (Bool × S)} {st : S→Aj→Prop} {f : FuncId} {caps : List AV} (hcall : ∀ args w,(callFunc f args).run Tryz.prog w=.ok (.enter f args) w) (hnc : noOwnL caps=true)
  (hstep:∀ (x:Itm) s r H,st s H→step x s=some r→FnR Tryz.prog f (.d (dvI x)::caps) H fun v H'=>v=.d (.b r.1)∧st r.2 H')
  {xs:List Itm} {s:S} {r:Int × S} (hl:xs.length≤9223372036854775806) (h:Px step xs s 0=some r) {H:Aj} (hs:st s H) :
  FnR Tryz.prog 179 [.d (.sl (Its xs)),.fn f [] caps] H fun v H'=>v=.d (.b (decide (0≤r.1)))∧st r.2 H':=by
 have hfn:noOwn (.fn f [] caps)=true:=by simp [noOwn,noOwnL,hnc]
 refine FnR.of (rs:=[.tmp 4]) 9 Tryz.func179 rfl rfl rfl (by simp) ?_;refine .seq ?_;refine .region ?_;refine asd ?_;refine rn ?_;refine .seq ?_;refine .region ?_;refine vk (Aa) ?_;refine vk (X0 (av:=.fn f [] caps) (hn:=hfn)) ?_
 refine clR (avs:=[.d (.sl (Its xs)),.fn f [] caps]) (Pr hcall hnc hstep hl h hs) Tryz.call227 (fun v H' hp=>?_) (ha:=by simp [argsA,lk,get,hfn,A3,noOwn])
 obtain ⟨rfl,hs'⟩:=hp
 refine vk (vbi) ?_;refine asd ?_;refine rn ?_;refine .ret ?_
 exact ⟨_,⟨rfl,rfl⟩,rfl,hs'⟩
abbrev M3:=Bool × Int × Int
abbrev EB (c d : Int) : HO:=.box [.d (.i .i64 c),.d (.i .i64 d)]
def Upd (H : Aj) (id : Nat) (o : HO) (H' : Aj) : Prop:=H'[id]?=some o∧H.length≤H'.length∧∀ j,j ≠ id→j<H.length→H'[j]?=H[j]?
theorem Upd.same {H : Aj} {id : Nat} {o : HO} (h : H[id]?=some o) : Upd H id o H:=⟨h,Nat.le_refl _,fun _ _ _=>rfl⟩
theorem Upd.trans {H H' H'' : Aj} {id : Nat} {o o' : HO} (h : Upd H id o H') (k : Upd H' id o' H'') : Upd H id o' H'' :=
 ⟨k.1,Nat.le_trans h.2.1 k.2.1,fun j h1 h2=>(k.2.2 j h1 (Nat.lt_of_lt_of_le h2 h.2.1)).trans (h.2.2 j h1 h2)⟩
def PE (id : Nat) (r : M3) (H : Aj) : AV→Aj→Prop:=fun v H'=>v=.d (.b r.1)∧Upd H id (EB r.2.1 r.2.2) H'
theorem PE.refl {id : Nat} {b : Bool} {c d : Int} {H : Aj} (h : H[id]?=some (EB c d)) : PE id (b,c,d) H (.d (.b b)) H:=⟨rfl,.same h⟩
def OA (rc : Arr→Int→Int→Int→Option M3) : Prop:=∀ (a : Arr) (deep c d : Int) (r : M3),rc a deep c d=some r→∀ (H : Aj) (id : Nat),H[id]?=some (EB c d) →
 FnR Tryz.prog 108 [.bp id 0,.d (dvA a),.d (.i .i64 deep)] H (PE id r H)
def Di (a1 : Itm) : Bool:=((!a1.num.1) && ((decide (((List.length a1.num.2.1 : Nat) : Int)=0)) && (decide (((List.length a1.num.2.2 : Nat) : Int)=0))))
def NS (rc : Arr→Int→Int→Int→Option M3) (a1 : Itm) (a2 c d : Int) : Option M3:=(if a1.kind=1 then ((DT a1.num).bind fun x1=>(some ((x1 && ((decide (a1.char=0)) && (decide (((List.length a1.box : Nat) : Int)=0)))),c,d))) else (if a1.kind=2 then ((FX a1.char).bind fun x2=>(some ((x2 && (Di a1 && (decide (((List.length a1.box : Nat) : Int)=0)))),c,d))) else (if a1.kind=3 then (if ((List.length a1.box : Nat) : Int)=1 then (if Di a1=true then (if a1.char=0 then ((rd? a1.box 0).bind fun x4=>((CJ x4).bind fun x5=>(if x5=true then (some (false,c,d)) else ((rd? a1.box 0).bind fun x6=>((rc x6 a2 c d).bind fun x7=>(some x7)))))) else (some (false,c,d))) else (some (false,c,d))) else (some (false,c,d))) else (some (false,c,d)))))
set_option maxHeartbeats 4000000 in
theorem IH {rc : Arr→Int→Int→Int→Option M3} (orc : OA rc) {a1 : Itm} {a2 c d : Int} {r : M3} (h : NS rc a1 a2 c d=some r) {H : Aj} {id : Nat} (hH : H[id]?=some (EB c d)) :
  FnR Tryz.prog 193 [.bp id 0,.d (dvI a1),.d (.i .i64 a2)] H (PE id r H):=by
 unfold NS Di at h
 refine FnR.of (rs:=[.tmp 6]) 89 Tryz.func193 rfl rfl rfl (by simp) ?_;refine .seq ?_;refine .region ?_;refine vk (vbx) ?_;refine asd ?_;refine rn ?_;refine .gh (Gh.keep [0,2,4,6] rfl) ?_;refine .seq ?_;refine AW.mr (σ:=Unit) (fun _=>True) (fun _=>[(0,.bp id 0),(2,.d (.i .i64 a2)),(4,.d (.ptr [.i .u8 a1.kind,.b a1.num.1,.sl (L a1.num.2.1),.sl (L a1.num.2.2),.i .i32 a1.char,.sl (Ars a1.box)])),(6,.d (.b false)),(7,.d (.b ((!a1.num.1) && ((decide (((List.length a1.num.2.1:Nat):Int)=0)) && (decide (((List.length a1.num.2.2:Nat):Int)=0))))))]) (fun _=>H) ?_ ?_
 ·skip
  refine .region ?_;refine vk (vfa BB) ?_;refine vk (vfa CQ) ?_;refine vk (Am BJ) ?_;refine vk (vnt) ?_
  by_cases hc:a1.num.1=true
  ·have hb0:(!a1.num.1)=false:=(ntf hc)
   refine vk (VOK.lit (Aa) hb0) ?_;refine gf ?_;refine gf ?_;refine gf ?_;refine gf ?_;refine gf ?_;refine vk (Ai) ?_;refine vk (Aa) ?_;refine gf ?_;refine gf ?_;refine gf ?_;refine gf ?_;refine gf ?_;refine vk (Ai) ?_;refine asd ?_;refine RL.gh (Gh.keep [0,2,4,6,7] rfl) ?_;refine .nil ?_
   exact jr () trivial (by simp only [hb0];rfl)
  have hb0:(!a1.num.1)=true:=(ntt (bf hc))
  refine vk (VOK.lit (Aa) hb0) ?_;refine vk (vfa BB) ?_;refine vk (vfa BK) ?_;refine vk (Am CS) ?_;refine vk (Bk (Ab _) (A1 _) Io) ?_;refine vk (vbi) ?_;refine vk (Ai) ?_
  by_cases hc:((List.length a1.num.2.1:Nat):Int)=0
  ·have hb1:(decide (((List.length a1.num.2.1:Nat):Int)=0))=true:=(dT hc)
   refine vk (VOK.lit (Aa) hb1) ?_;refine vk (vfa BB) ?_;refine vk (vfa Ev) ?_;refine vk (Am CS) ?_;refine vk (Bk (Ab _) (A1 _) Io) ?_;refine vk (vbi) ?_;refine vk (Ai) ?_;refine asd ?_;refine RL.gh (Gh.keep [0,2,4,6,7] rfl) ?_;refine .nil ?_
   exact jr () trivial (by simp only [hb0,hb1];rfl)
  have hb1:(decide (((List.length a1.num.2.1:Nat):Int)=0))=false:=(dF hc)
  refine vk (VOK.lit (Aa) hb1) ?_;refine gf ?_;refine gf ?_;refine gf ?_;refine gf ?_;refine gf ?_;refine vk (Ai) ?_;refine asd ?_;refine RL.gh (Gh.keep [0,2,4,6,7] rfl) ?_;refine .nil ?_
  exact jr () trivial (by simp only [hb0,hb1];rfl)
 rintro _ _
 refine .seq ?_;refine .seq ?_;refine .region ?_;refine vk (vfa Bv) ?_;refine vk (Am AS) ?_;refine rn ?_;refine .gh (Gh.keep [0,2,4,6,7,27] rfl) ?_;refine .block ?_;refine .seq ?_;refine .region ?_;refine vk (vbi) ?_;refine asd ?_;refine rn ?_;refine .gh (Gh.keep [0,2,4,6,7,27,28] rfl) ?_
 by_cases hc:a1.kind=1
 ·replace h:=Ad hc h
  refine cnt (dT hc) ?_;refine .seq ?_
  obtain ⟨x1,hx1,h⟩:=bnd h
  refine AW.mr (σ:=Unit) (fun _=>True) (fun _=>[(6,.d (.b (x1 && ((decide (a1.char=0)) && (decide (((List.length a1.box:Nat):Int)=0))))))]) (fun _=>H) ?_ ?_
  ·skip
   refine .region ?_;refine vk (vfa BB) ?_;refine vk (Ao Au Al) ?_;refine vk (Af (DG hx1) Tryz.call45) ?_
   by_cases hc:x1=true
   ·have hb0:x1=true:=hc
    refine vk (VOK.lit (Aa) hb0) ?_;refine vk (vfa CX) ?_;refine vk (Am Cb) ?_;refine vk (vbi) ?_;refine vk (Ai) ?_
    by_cases hc:a1.char=0
    ·have hb1:(decide (a1.char=0))=true:=(dT hc)
     refine vk (VOK.lit (Aa) hb1) ?_;refine vk (vfa A7) ?_;refine vk (Am B8) ?_;refine vk (Bk (Bs _) (Ey _) Ew) ?_;refine vk (vbi) ?_;refine vk (Ai) ?_;refine asd ?_;refine RL.gh (Gh.keep [6] rfl) ?_;refine .nil ?_
     exact jr () trivial (by simp only [hb0,hb1];rfl)
    have hb1:(decide (a1.char=0))=false:=(dF hc)
    refine vk (VOK.lit (Aa) hb1) ?_;refine gf ?_;refine gf ?_;refine gf ?_;refine gf ?_;refine vk (Ai) ?_;refine asd ?_;refine RL.gh (Gh.keep [6] rfl) ?_;refine .nil ?_
    exact jr () trivial (by simp only [hb0,hb1];rfl)
   have hb0:x1=false:=(bf hc)
   refine vk (VOK.lit (Aa) hb0) ?_;refine gf ?_;refine gf ?_;refine gf ?_;refine vk (Ai) ?_;refine vk (Aa) ?_;refine gf ?_;refine gf ?_;refine gf ?_;refine gf ?_;refine vk (Ai) ?_;refine asd ?_;refine RL.gh (Gh.keep [6] rfl) ?_;refine .nil ?_
   exact jr () trivial (by simp only [hb0];rfl)
  rintro _ _
  refine .ret ?_
  cases h
  exact ⟨_,⟨rfl,rfl⟩,.refl hH⟩
 replace h:=Ae hc h
 refine cnf (dF hc) ?_;refine .seq ?_;refine .region ?_;refine vk (vbi) ?_;refine asd ?_;refine rn ?_;refine .gh (Gh.keep [0,2,4,6,7,27,44] rfl) ?_
 by_cases hc:a1.kind=2
 ·replace h:=Ad hc h
  refine cnt (dT hc) ?_;refine .seq ?_
  obtain ⟨x2,hx2,h⟩:=bnd h
  refine AW.mr (σ:=Unit) (fun _=>True) (fun _=>[(6,.d (.b (x2 && (((!a1.num.1) && ((decide (((List.length a1.num.2.1:Nat):Int)=0)) && (decide (((List.length a1.num.2.2:Nat):Int)=0)))) && (decide (((List.length a1.box:Nat):Int)=0))))))]) (fun _=>H) ?_ ?_
  ·skip
   refine .region ?_;refine vk (vfa CX) ?_;refine vk (Am Cb) ?_;refine vk (Af (Me hx2) Tryz.call231) ?_
   by_cases hc:x2=true
   ·have hb0:x2=true:=hc
    refine vk (VOK.lit (Aa) hb0) ?_;refine vk (Aa) ?_;refine vk (Ai) ?_
    by_cases hc:((!a1.num.1) && ((decide (((List.length a1.num.2.1:Nat):Int)=0)) && (decide (((List.length a1.num.2.2:Nat):Int)=0))))=true
    ·have hb1:((!a1.num.1) && ((decide (((List.length a1.num.2.1:Nat):Int)=0)) && (decide (((List.length a1.num.2.2:Nat):Int)=0))))=true:=hc
     refine vk (VOK.lit (Aa) hb1) ?_;refine vk (vfa A7) ?_;refine vk (Am B8) ?_;refine vk (Bk (Bs _) (Ey _) Ew) ?_;refine vk (vbi) ?_;refine vk (Ai) ?_;refine asd ?_;refine RL.gh (Gh.keep [6] rfl) ?_;refine .nil ?_
     exact jr () trivial (by simp only [hb0,hb1];rfl)
    have hb1:((!a1.num.1) && ((decide (((List.length a1.num.2.1:Nat):Int)=0)) && (decide (((List.length a1.num.2.2:Nat):Int)=0))))=false:=(bf hc)
    refine vk (VOK.lit (Aa) hb1) ?_;refine gf ?_;refine gf ?_;refine gf ?_;refine gf ?_;refine vk (Ai) ?_;refine asd ?_;refine RL.gh (Gh.keep [6] rfl) ?_;refine .nil ?_
    exact jr () trivial (by simp only [hb0,hb1];rfl)
   have hb0:x2=false:=(bf hc)
   refine vk (VOK.lit (Aa) hb0) ?_;refine gf ?_;refine vk (Ai) ?_;refine vk (Aa) ?_;refine gf ?_;refine gf ?_;refine gf ?_;refine gf ?_;refine vk (Ai) ?_;refine asd ?_;refine RL.gh (Gh.keep [6] rfl) ?_;refine .nil ?_
   exact jr () trivial (by simp only [hb0];rfl)
  rintro _ _
  refine .ret ?_
  cases h
  exact ⟨_,⟨rfl,rfl⟩,.refl hH⟩
 replace h:=Ae hc h
 refine cnf (dF hc) ?_;refine .seq ?_;refine .region ?_;refine vk (vbi) ?_;refine asd ?_;refine rn ?_;refine .gh (Gh.keep [0,2,4,6,7,58] rfl) ?_
 by_cases hc:a1.kind=3
 ·replace h:=Ad hc h
  refine cnt (dT hc) ?_;refine .seq ?_
  ·skip
   refine .region ?_;refine vk (vfa A7) ?_;refine vk (Am B8) ?_;refine vk (Bk (Bs _) (Ey _) Ew) ?_;refine vk (vbi) ?_
   by_cases hc:((List.length a1.box:Nat):Int)=1
   ·replace h:=Ad hc h
    have hb0:(decide (((List.length a1.box:Nat):Int)=1))=true:=(dT hc)
    refine vk (VOK.lit (Aa) hb0) ?_;refine vk (Aa) ?_;refine vk (Ai) ?_
    by_cases hc:((!a1.num.1) && ((decide (((List.length a1.num.2.1:Nat):Int)=0)) && (decide (((List.length a1.num.2.2:Nat):Int)=0))))=true
    ·replace h:=Ad hc h
     have hb1:((!a1.num.1) && ((decide (((List.length a1.num.2.1:Nat):Int)=0)) && (decide (((List.length a1.num.2.2:Nat):Int)=0))))=true:=hc
     refine vk (VOK.lit (Aa) hb1) ?_;refine vk (vfa CX) ?_;refine vk (Am Cb) ?_;refine vk (vbi) ?_;refine vk (Ai) ?_
     by_cases hc:a1.char=0
     ·replace h:=Ad hc h
      have hb2:(decide (a1.char=0))=true:=(dT hc)
      refine vk (VOK.lit (Aa) hb2) ?_;refine vk (vfa A7) ?_;refine vk (Am B8) ?_
      obtain ⟨x4,hx4,h⟩:=bnd h
      obtain ⟨nx4,hnx4,hxx4⟩:=AI hx4
      refine vk (vix nx4 hnx4 (EV hxx4) rfl E0) ?_;refine vk (Ao Ar Ah) ?_
      obtain ⟨x5,hx5,h⟩:=bnd h
      refine vk (Af (EU hx5) Tryz.call172) ?_;refine vk (vnt) ?_;refine vk (Ai) ?_
      by_cases hc:x5=true
      ·replace h:=Ad hc h
       have hb3:(!x5)=false:=(ntf hc)
       refine vk (VOK.lit (Aa) hb3) ?_;refine gf ?_;refine gf ?_;refine gf ?_;refine gf ?_;refine gf ?_;refine gf ?_;refine gf ?_;refine vk (Ai) ?_;refine asd ?_;refine rn ?_;refine .gh (Gh.keep [6] rfl) ?_;refine .ret ?_
       cases h
       exact ⟨_,⟨rfl,rfl⟩,.refl hH⟩
      replace h:=Ae hc h
      have hb3:(!x5)=true:=(ntt (bf hc))
      refine vk (VOK.lit (Aa) hb3) ?_;refine vk (X0 (av:=.bp id 0)) ?_;refine vk (vfa A7) ?_;refine vk (Am B8) ?_
      obtain ⟨x6,hx6,h⟩:=bnd h
      obtain ⟨nx6,hnx6,hxx6⟩:=AI hx6
      refine vk (vix nx6 hnx6 (EV hxx6) rfl E0) ?_;refine vk (Ao Ar Ah) ?_;refine vk (Aa) ?_
      obtain ⟨x7,hx7,h⟩:=bnd h
      refine clR (avs:=[.bp id 0,.d (dvA x6),.d (.i .i64 a2)]) (orc x6 a2 c d x7 hx7 H id hH) Tryz.call108 (fun v H' hp=>?_)
      obtain ⟨rfl,hp⟩:=hp
      refine vk (Ai) ?_;refine asd ?_;refine rn ?_;refine .gh (Gh.keep [6] rfl) ?_;refine .ret ?_
      cases h
      exact ⟨_,⟨rfl,rfl⟩,rfl,hp⟩
     replace h:=Ae hc h
     have hb2:(decide (a1.char=0))=false:=(dF hc)
     refine vk (VOK.lit (Aa) hb2) ?_;refine gf ?_;refine gf ?_;refine gf ?_;refine gf ?_;refine gf ?_;refine gf ?_;refine vk (Ai) ?_;refine vk (Aa) ?_;refine gf ?_;refine gf ?_;refine gf ?_;refine gf ?_;refine gf ?_;refine gf ?_;refine gf ?_;refine vk (Ai) ?_;refine asd ?_;refine rn ?_;refine .gh (Gh.keep [6] rfl) ?_;refine .ret ?_
     cases h
     exact ⟨_,⟨rfl,rfl⟩,.refl hH⟩
    replace h:=Ae hc h
    have hb1:((!a1.num.1) && ((decide (((List.length a1.num.2.1:Nat):Int)=0)) && (decide (((List.length a1.num.2.2:Nat):Int)=0))))=false:=(bf hc)
    refine vk (VOK.lit (Aa) hb1) ?_;refine gf ?_;refine gf ?_;refine gf ?_;refine vk (Ai) ?_;refine vk (Aa) ?_;refine gf ?_;refine gf ?_;refine gf ?_;refine gf ?_;refine gf ?_;refine gf ?_;refine vk (Ai) ?_;refine vk (Aa) ?_;refine gf ?_;refine gf ?_;refine gf ?_;refine gf ?_;refine gf ?_;refine gf ?_;refine gf ?_;refine vk (Ai) ?_;refine asd ?_;refine rn ?_;refine .gh (Gh.keep [6] rfl) ?_;refine .ret ?_
    cases h
    exact ⟨_,⟨rfl,rfl⟩,.refl hH⟩
   replace h:=Ae hc h
   have hb0:(decide (((List.length a1.box:Nat):Int)=1))=false:=(dF hc)
   refine vk (VOK.lit (Aa) hb0) ?_;refine gf ?_;refine vk (Ai) ?_;refine vk (Aa) ?_;refine gf ?_;refine gf ?_;refine gf ?_;refine vk (Ai) ?_;refine vk (Aa) ?_;refine gf ?_;refine gf ?_;refine gf ?_;refine gf ?_;refine gf ?_;refine gf ?_;refine vk (Ai) ?_;refine vk (Aa) ?_;refine gf ?_;refine gf ?_;refine gf ?_;refine gf ?_;refine gf ?_;refine gf ?_;refine gf ?_;refine vk (Ai) ?_;refine asd ?_;refine rn ?_;refine .gh (Gh.keep [6] rfl) ?_;refine .ret ?_
   cases h
   exact ⟨_,⟨rfl,rfl⟩,.refl hH⟩
 replace h:=Ae hc h
 refine cnf (dF hc) ?_;refine .skip ?_
 show AW _ _ _ _ _ _
 refine .seq ?_;refine .region ?_;refine asd ?_;refine rn ?_;refine .gh (Gh.keep [6] rfl) ?_;refine .ret ?_
 cases h
 exact ⟨_,⟨rfl,rfl⟩,.refl hH⟩
def KL (rc : Arr→Int→Int→Int→Option M3) (deep : Int) : List Itm→Int→Int→Option M3
 | [],c,d=>some (true,c,d)
 | x::xs,c,d=>(NS rc x deep c d).bind fun z=>if z.1=true then KL rc deep xs z.2.1 z.2.2 else some (false,z.2.1,z.2.2)
def QR (rc : Arr→Int→Int→Int→Option M3) (deep : Int) (x : Itm) (s : Int × Int) : Option (Bool × (Int × Int)):=(NS rc x deep s.1 s.2).map fun z=>(!z.1,z.2)
theorem Qn {rc : Arr→Int→Int→Int→Option M3} {deep : Int} : ∀ {xs : List Itm} {c d : Int} {z : M3} {i : Int},0≤i→KL rc deep xs c d=some z→∃ n,Px (QR rc deep) xs (c,d) i=some (n,z.2)∧(!decide (0≤n))=z.1
 | [],c,d,z,i,_,h=>by cases h;exact ⟨-1,rfl,rfl⟩
 | x::xs,c,d,z,i,hi,h=>by
  rw [KL] at h
  obtain ⟨y,hy,h⟩:=bnd h
  have hs:QR rc deep x (c,d)=some (!y.1,y.2):=by simp [QR,hy]
  by_cases hc:y.1=true
  ·rw [if_pos hc] at h
   obtain ⟨n,h1,h2⟩:=Qn (i:=i+1) (by omega) h
   refine ⟨n,?_,h2⟩
   rw [Px,hs,oB,if_neg (by simp [hc])];exact h1
  ·rw [if_neg hc] at h
   cases h
   refine ⟨i,?_,by simp [hi]⟩
   rw [Px,hs,oB,if_pos (by simp [hc])]
theorem KP {rc : Arr→Int→Int→Int→Option M3} (orc : OA rc) {x : Itm} {deep c d : Int} {z : M3} (h : NS rc x deep c d=some z) {H : Aj} {id n3 n5 : Nat} (hH : H[id]?=some (EB c d)) (h3 : H[n3]?=some (.box [.bp id 0])) (h5 : H[n5]?=some (.box [.d (.i .i64 deep)])) :
  FnR Tryz.prog 192 [.d (dvI x),.bp n3 0,.bp n5 0] H fun v H'=>v=.d (.b (!z.1))∧Upd H id (EB z.2.1 z.2.2) H':=by
 refine FnR.of (rs:=[.tmp 4]) 10 Tryz.func192 rfl rfl rfl (by simp) ?_;refine .seq ?_;refine .region ?_;refine vk (vbx) ?_;refine asd ?_;refine rn ?_;refine .seq ?_;refine .region ?_;refine vk (Qq (cs:=[.bp id 0]) (c:=.bp id 0) h3 rfl (by kernel_rfl)) ?_;refine vk (Ao AM Aw) ?_;refine vk (RN (cs:=[.d (.i .i64 deep)]) (c:=.i .i64 deep) h5 rfl Ca) ?_
 refine clR (avs:=[.bp id 0,.d (dvI x),.d (.i .i64 deep)]) (IH orc h hH) Tryz.call193 (fun v H' hp=>?_)
 obtain ⟨rfl,hp⟩:=hp
 refine vk (vnt) ?_;refine asd ?_;refine rn ?_;refine .ret ?_
 exact ⟨_,⟨rfl,rfl⟩,rfl,hp⟩
theorem Upd.set_new {H H' : Aj} {id n : Nat} {o x : HO} (k : Upd H id o H') (h1 : H.length≤n) (h2 : n ≠ id) : Upd H id o (H'.set n x) :=
 ⟨by rw [List.getElem?_set_ne h2];exact k.1,by simpa using k.2.1,fun j h3 h4=>by rw [List.getElem?_set_ne (by omega)];exact k.2.2 j h3 h4⟩
theorem Upd.set_id {H H' : Aj} {id : Nat} {o o' : HO} (k : Upd H id o H') : Upd H id o' (H'.set id o') :=
 ⟨List.getElem?_set_self (List.getElem?_eq_some_iff.1 k.1).1,by simpa using k.2.1,fun j h3 h4=>by rw [List.getElem?_set_ne (Ne.symm h3)];exact k.2.2 j h3 h4⟩
def VP (rc : Arr→Int→Int→Int→Option M3) (a : Arr) (deep c d : Int) : Option M3 :=
 (Dq a.shape).bind fun x1 =>
  if x1.2=0 then
   if ((List.length a.items:Nat):Int)=(if x1.1<1 then 1 else x1.1) then
    if 16384<w64 (c+((List.length a.items:Nat):Int)) then some (false,w64 (c+((List.length a.items:Nat):Int)),d) else
    (CJ a).bind fun sm =>
     if sm=true then (if deep≤16 then KL rc deep a.items (w64 (c+((List.length a.items:Nat):Int))) d else some (false,w64 (c+((List.length a.items:Nat):Int)),d))
     else (if w64 (deep+1)≤16 then KL rc (w64 (deep+1)) a.items (w64 (c+((List.length a.items:Nat):Int))) (if d<w64 (deep+1) then w64 (deep+1) else d) else some (false,w64 (c+((List.length a.items:Nat):Int)),(if d<w64 (deep+1) then w64 (deep+1) else d)))
   else some (false,c,d)
  else some (false,c,d)
set_option maxHeartbeats 4000000 in
set_option maxRecDepth 20000 in
theorem Mm {rc : Arr→Int→Int→Int→Option M3} (orc : OA rc) {a : Arr} {deep c d : Int} {r : M3} (hlen : a.items.length≤9223372036854775806) (h : VP rc a deep c d=some r) {H : Aj} {id : Nat} (hH : H[id]?=some (EB c d)) :
  FnR Tryz.prog 108 [.bp id 0,.d (dvA a),.d (.i .i64 deep)] H (PE id r H):=by
 unfold VP at h
 have hid:id<H.length:=(List.getElem?_eq_some_iff.1 hH).1
 refine FnR.of (rs:=[.tmp 6]) 63 Tryz.func108 rfl rfl rfl (by simp) ?_;refine .seq ?_;refine .region ?_;refine bxA (c:=.bp id 0) ?_;refine vk (vbx) ?_;refine bxA (c:=.d (.i .i64 deep)) ?_;refine asd ?_
 have f0:Upd H id (EB c d) (H++[.box [.bp id 0]]++[.box [.d (.i .i64 deep)]]):=by
  refine ⟨?_,by simp,fun j h1 h2=>?_⟩
  ·rw [List.append_assoc,List.getElem?_append_left hid];exact hH
  ·rw [List.append_assoc,List.getElem?_append_left h2]
 have f3:(H++[HO.box [AV.bp id 0]]++[.box [.d (.i .i64 deep)]])[H.length]?=some (.box [.bp id 0]):=by simp
 have f5:(H++[HO.box [AV.bp id 0]]++[.box [.d (.i .i64 deep)]])[(H++[HO.box [AV.bp id 0]]).length]?=some (.box [.d (.i .i64 deep)]):=by
  rw [List.getElem?_append_right (Nat.le_refl _)];simp
 have g3:H.length ≠ id:=by omega
 have g5:(H++[HO.box [AV.bp id 0]]).length ≠ id:=by simp;omega
 have g5':H.length≤(H++[HO.box [AV.bp id 0]]).length:=by simp
 have g35:H.length ≠ (H++[HO.box [AV.bp id 0]]).length:=by simp
 have g3':H.length≤H.length:=Nat.le_refl _
 generalize H++[HO.box [AV.bp id 0]]++[.box [.d (.i .i64 deep)]]=H2 at f0 f3 f5 ⊢
 generalize (H++[HO.box [AV.bp id 0]]).length=n5 at f5 g5 g5' g35 ⊢
 obtain ⟨n3,hn3⟩:∃ n3,n3=H.length:=⟨_,rfl⟩
 rw [← hn3] at f3 g3 g35
 rw [← hn3]
 have f1:=f0.1
 refine rn ?_;refine .gh (Gh.keep [3,4,5] rfl) ?_;refine .seq ?_;refine .region ?_;refine vk (vfa AY) ?_;refine vk (Am CG) ?_
 obtain ⟨x1,hx1,h⟩:=bnd h
 refine vk (VOK.tupd (vs:=[.i .i64 x1.1,.i .i64 x1.2]) (Af (Ei hx1) Tryz.call98)) ?_;refine vk (Aa) ?_;refine vk (vex) ?_;refine vk (vex) ?_;refine asd ?_;refine asd ?_;refine rn ?_;refine .gh (Gh.keep [3,4,5,7,8] rfl) ?_;refine .seq ?_;refine .seq ?_;refine .region ?_;refine vk (Aa) ?_;refine vk (vbi) ?_
 by_cases hc:x1.2=0
 rotate_left
 ·rw [if_neg hc] at h
  cases h
  refine vk (VOK.lit (Aa) (show (!decide (x1.2=0))=true by simp [hc])) ?_;refine gf ?_;refine gf ?_;refine gf ?_;refine gf ?_;refine gf ?_;refine gf ?_;refine vk (Ai) ?_;refine rn ?_;refine cnt rfl ?_;refine .seq ?_;refine .region ?_;refine asd ?_;refine rn ?_;refine .ret ?_
  exact ⟨_,⟨rfl,rfl⟩,rfl,f0⟩
 rw [if_pos hc] at h
 refine vk (VOK.lit (Aa) (show (!decide (x1.2=0))=false by simp [hc])) ?_;refine vk (vfa AH) ?_;refine vk (Am BD) ?_;refine vk (Bk (AE _) (Cr _) Ct) ?_;refine vk (Aa) ?_;refine vk (vmx) ?_;refine vk (vbi) ?_;refine vk (Ai) ?_;refine rn ?_
 by_cases hc:((List.length a.items:Nat):Int)=(if x1.1<1 then 1 else x1.1)
 rotate_left
 ·rw [if_neg hc] at h
  cases h
  refine cnt (ntt (dF hc)) ?_;refine .seq ?_;refine .region ?_;refine asd ?_;refine rn ?_;refine .ret ?_
  exact ⟨_,⟨rfl,rfl⟩,rfl,f0⟩
 rw [if_pos hc] at h
 refine cnf (ntf (dT hc)) ?_;refine .skip ?_
 show AW _ _ _ _ _ _
 refine .gh (Gh.keep [3,4,5] rfl) ?_;refine .seq ?_;refine .drawn 10 A9 (by kernel_rfl) ?_;refine dv (Qq (cs:=[.bp id 0]) (c:=.bp id 0) f3 rfl (by kernel_rfl)) ?_;refine dv (Ux) ?_;refine dv (EM Mv) ?_;refine dv (RN (cs:=[.d (.i .i64 c),.d (.i .i64 d)]) (c:=.i .i64 c) f1 rfl Ca) ?_;refine dv (vfa AH) ?_;refine dv (Am BD) ?_;refine dv (Bk (AE _) (Cr _) Ct) ?_;refine dv (vbi) ?_;refine dv (Ux) ?_;refine dv (EM Mv) ?_;refine dz ?_
 refine stb (cs:=[.d (.i .i64 c),.d (.i .i64 d)]) (c:=.d (.i .i64 c)) f1 rfl ?_ La
 have q0:=f0.set_id (o':=EB (w64 (c+((List.length a.items:Nat):Int))) d)
 have q3:(H2.set id (EB (w64 (c+((List.length a.items:Nat):Int))) d))[n3]?=some (.box [.bp id 0]):=by rw [List.getElem?_set_ne (Ne.symm g3)];exact f3
 have q5:(H2.set id (EB (w64 (c+((List.length a.items:Nat):Int))) d))[n5]?=some (.box [.d (.i .i64 deep)]):=by rw [List.getElem?_set_ne (Ne.symm g5)];exact f5
 refine rn ?_
 change AW _ _ _ _ _ (H2.set id (EB (w64 (c+((List.length a.items:Nat):Int))) d))
 generalize H2.set id (EB (w64 (c+((List.length a.items:Nat):Int))) d)=H3 at q0 q3 q5 ⊢
 generalize w64 (c+((List.length a.items:Nat):Int))=c1 at h q0 ⊢
 have q1:=q0.1
 refine .gh (Gh.keep [3,4,5] rfl) ?_;refine .seq ?_;refine .seq ?_;refine .region ?_;refine vk (Qq (cs:=[.bp id 0]) (c:=.bp id 0) q3 rfl (by kernel_rfl)) ?_;refine vk (Ux) ?_;refine vk (EM Mv) ?_;refine vk (RN (cs:=[.d (.i .i64 c1),.d (.i .i64 d)]) (c:=.i .i64 c1) q1 rfl Ca) ?_;refine vk (vbi) ?_;refine rn ?_
 by_cases hc:16384<c1
 ·rw [if_pos hc] at h
  cases h
  refine cnt (dT hc) ?_;refine .seq ?_;refine .region ?_;refine asd ?_;refine rn ?_;refine .ret ?_
  exact ⟨_,⟨rfl,rfl⟩,rfl,q0⟩
 rw [if_neg hc] at h
 refine cnf (dF hc) ?_;refine .skip ?_
 show AW _ _ _ _ _ _
 refine .gh (Gh.keep [3,4,5] rfl) ?_;refine .seq ?_
 obtain ⟨sm,hsm,h⟩:=bnd h
 refine .seq ?_;refine .region ?_;refine vk (Ao Ar Ah) ?_;refine vk (Af (EU hsm) Tryz.call172) ?_;refine vk (vnt) ?_;refine rn ?_
 refine AW.mr (σ:=Aj × Int × Int) (fun s=>Upd H id (EB c1 s.2.2) s.1∧s.1[n3]?=some (.box [.bp id 0])∧s.1[n5]?=some (.box [.d (.i .i64 s.2.1)])∧(if s.2.1≤16 then KL rc s.2.1 a.items c1 s.2.2 else some (false,c1,s.2.2))=some r)
  (fun _=>[(3,.bp n3 0),(4,.d (.ptr [.sl (Is a.shape),.sl (Its a.items)])),(5,.bp n5 0)]) (fun s=>s.1) ?_ ?_
 ·by_cases hs:sm=true
  ·rw [if_pos hs] at h
   refine cnf (ntf hs) ?_;refine .gh (Gh.keep [3,4,5] rfl) ?_;refine .skip ?_
   exact jr (H3,deep,d) ⟨q0,q3,q5,h⟩
  rw [if_neg hs] at h
  refine cnt (ntt (bf hs)) ?_;refine .seq ?_;refine .region ?_;refine vk (RN (cs:=[.d (.i .i64 deep)]) (c:=.i .i64 deep) q5 rfl Ca) ?_;refine vk (vbi) ?_
  refine stb (cs:=[.d (.i .i64 deep)]) (c:=.d (.i .i64 deep)) q5 rfl ?_ La
  have p0:=q0.set_new (n:=n5) (x:=.box [.d (.i .i64 (w64 (deep+1)))]) g5' g5
  have p3:(H3.set n5 (.box [.d (.i .i64 (w64 (deep+1)))]))[n3]?=some (.box [.bp id 0]):=by rw [List.getElem?_set_ne (Ne.symm g35)];exact q3
  have p5:(H3.set n5 (.box [.d (.i .i64 (w64 (deep+1)))]))[n5]?=some (.box [.d (.i .i64 (w64 (deep+1)))]):=List.getElem?_set_self (List.getElem?_eq_some_iff.1 q5).1
  refine rn ?_
  change AW _ _ _ _ _ (H3.set n5 (.box [.d (.i .i64 (w64 (deep+1)))]))
  generalize H3.set n5 (.box [.d (.i .i64 (w64 (deep+1)))])=H4 at p0 p3 p5 ⊢
  generalize w64 (deep+1)=dp at h p5 ⊢
  have p1:=p0.1
  refine .gh (Gh.keep [3,4,5] rfl) ?_;refine .drawn 9 A9 (by kernel_rfl) ?_;refine dv (Qq (cs:=[.bp id 0]) (c:=.bp id 0) p3 rfl (by kernel_rfl)) ?_;refine dv (Qq (cs:=[.bp id 0]) (c:=.bp id 0) p3 rfl (by kernel_rfl)) ?_;refine dv (Ux) ?_;refine dv (EM S0) ?_;refine dv (RN (cs:=[.d (.i .i64 c1),.d (.i .i64 d)]) (c:=.i .i64 d) p1 rfl Ca) ?_;refine dv (RN (cs:=[.d (.i .i64 dp)]) (c:=.i .i64 dp) p5 rfl Ca) ?_;refine dv (vmx) ?_;refine dv (Ux) ?_;refine dv (EM S0) ?_;refine dz ?_
  refine stb (cs:=[.d (.i .i64 c1),.d (.i .i64 d)]) (c:=.d (.i .i64 d)) p1 rfl ?_ La
  have w0:=p0.set_id (o':=EB c1 (if d<dp then dp else d))
  have w3:(H4.set id (EB c1 (if d<dp then dp else d)))[n3]?=some (.box [.bp id 0]):=by rw [List.getElem?_set_ne (Ne.symm g3)];exact p3
  have w5:(H4.set id (EB c1 (if d<dp then dp else d)))[n5]?=some (.box [.d (.i .i64 dp)]):=by rw [List.getElem?_set_ne (Ne.symm g5)];exact p5
  refine RL.gh (Gh.keep [3,4,5] rfl) ?_;refine .nil ?_
  exact jr (H4.set id (EB c1 (if d<dp then dp else d)),dp,(if d<dp then dp else d)) ⟨w0,w3,w5,h⟩
 rintro ⟨H5,dp,d1⟩ ⟨u0,u3,u5,h⟩
 dsimp only at u0 u3 u5 h ⊢
 show AW _ _ _ _ _ _
 refine .seq ?_;refine .region ?_;refine vk (RN (cs:=[.d (.i .i64 dp)]) (c:=.i .i64 dp) u5 rfl Ca) ?_;refine vk (vbi) ?_
 by_cases hc:dp≤16
 rotate_left
 ·rw [if_neg hc] at h
  cases h
  refine vk (VOK.lit (Aa) (dF hc)) ?_;refine gf ?_;refine gf ?_;refine gf ?_;refine gf ?_;refine gf ?_;refine vk (Ai) ?_;refine asd ?_;refine rn ?_;refine .ret ?_
  exact ⟨_,⟨rfl,rfl⟩,rfl,u0⟩
 rw [if_pos hc] at h
 refine vk (VOK.lit (Aa) (dT hc)) ?_;refine vk (vfa AH) ?_;refine vk (Am BD) ?_;refine Zo (avs:=[.bp n3 0,.bp n5 0]) ?_
 obtain ⟨n,h1,h2⟩:=Qn (Int.le_refl 0) h
 have step:=Mj (S:=Int × Int) (step:=QR rc dp) (st:=fun s H'=>Upd H id (EB s.1 s.2) H'∧H'[n3]?=some (.box [.bp id 0])∧H'[n5]?=some (.box [.d (.i .i64 dp)])) (caps:=[.bp n3 0,.bp n5 0]) Tryz.call192 rfl
  (fun x s y H' hs hy=>by
   obtain ⟨hs0,hs3,hs5⟩:=hs
   simp only [QR,Option.map_eq_some_iff] at hy
   obtain ⟨z,hz,rfl⟩:=hy
   refine (KP orc hz hs0.1 hs3 hs5).mono fun v H'' hp=>⟨hp.1,hs0.trans hp.2,?_,?_⟩
   ·rw [hp.2.2.2 n3 g3 (List.getElem?_eq_some_iff.1 hs3).1];exact hs3
   ·rw [hp.2.2.2 n5 g5 (List.getElem?_eq_some_iff.1 hs5).1];exact hs5)
  hlen h1 (H:=H5) ⟨u0,u3,u5⟩
 refine clR (avs:=[.d (.sl (Its a.items)),.fn 192 [] [.bp n3 0,.bp n5 0]]) step Tryz.call179 (fun v H' hp=>?_)
 obtain ⟨rfl,hp⟩:=hp
 refine vk (vnt) ?_
 rw [h2]
 refine vk (Ai) ?_;refine asd ?_;refine rn ?_;refine .ret ?_
 exact ⟨_,⟨rfl,rfl⟩,rfl,hp.1⟩
def M1 : Nat→Arr→Int→Int→Int→Option M3
 | 0,_,_,_,_=>none
 | k+1,a,deep,c,d=>if a.items.length≤9223372036854775806 then VP (M1 k) a deep c d else none
theorem QA : ∀ k,OA (M1 k)
 | 0=>fun _ _ _ _ _ h=>by cases h
 | k+1=>fun a deep c d r h H id hH=>by
  rw [M1] at h
  obtain ⟨hl,h⟩:=Df h
  exact Mm (QA k) hl h hH
def mAr (a : Arr) (deep c d : Int) : Option M3:=M1 (a.size+1) a deep c d
def mIt (x : Itm) (deep c d : Int) : Option M3:=NS mAr x deep c d
theorem Vw : OA mAr:=fun a deep c d r h=>QA _ a deep c d r h
def E6 (a : Arr) : Option ((Int × Int) × Bool):=(mAr a 0 0 0).map fun z=>if z.1=true then (z.2,true) else ((0,0),false)
theorem Jq {a : Arr} {r : (Int × Int) × Bool} (h : E6 a=some r) : Fn Tryz.prog 36 [dvA a] (.tup [.d (.ag [.i .i64 r.1.1,.i .i64 r.1.2]),.d (.b r.2)]):=by
 simp only [E6,Option.map_eq_some_iff] at h
 obtain ⟨z,hz,rfl⟩:=h
 refine Fn.ofC (rs:=[.cell 2 69,.tmp 3]) (nt:=10) Tryz.func36 rfl rfl rfl (by simp) rfl ?_;refine .seq ?_;refine .region ?_;refine vk (vbx) ?_;refine vk (van (Ag Oc) Ta) ?_;refine asd ?_;refine rn ?_;refine .seq ?_;refine .region ?_
 refine al ?_ (Ag Oc) (fun w I μ=>V7 w I μ)
 refine rn ?_;refine .seq ?_;refine .seq ?_;refine .region ?_;refine vk (Ao Ar Ah) ?_
 refine clR (avs:=[.bp 0 0,.d (dvA a),.d (.i .i64 0)]) (Vw a 0 0 0 z hz _ 0 rfl) Tryz.call108 (fun v H' hp=>?_)
 obtain ⟨rfl,hp⟩:=hp
 refine vk (vnt) ?_;refine rn ?_
 by_cases hc:z.1=true
 ·rw [if_pos hc]
  refine cnf (ntf hc) ?_;refine .skip ?_
  show AW _ _ _ _ _ _
  refine .seq ?_;refine .region ?_;refine vk (IT (cs:=[.d (.i .i64 z.2.1),.d (.i .i64 z.2.2)]) (ds:=[.i .i64 z.2.1,.i .i64 z.2.2]) hp.1 Wa Np) ?_
  refine stn ?_ Np (by decide)
  refine asd ?_;refine rn ?_;refine .ret ?_
  exact ⟨_,_,⟨.inr rfl,Wa,Np,(by decide:(0:Nat)<2)⟩,rfl,rfl⟩
 ·rw [if_neg hc]
  refine cnt (ntt (bf hc)) ?_;refine .seq ?_;refine .region ?_;refine vk (vbd YK Oc Ta) ?_
  refine stn ?_ Np (by decide)
  refine asd ?_;refine rn ?_;refine .ret ?_
  exact ⟨_,_,⟨.inr rfl,Wa,Np,(by decide:(0:Nat)<2)⟩,rfl,rfl⟩
def EL (x : Itm) : Option Bool:=(mIt x 0 0 0).map fun z=>z.1
theorem IR {x : Itm} {r : Bool} (h : EL x=some r) : Fn Tryz.prog 181 [dvI x] (.d (.b r)):=by
 simp only [EL,Option.map_eq_some_iff] at h
 obtain ⟨z,hz,rfl⟩:=h
 refine Fn.of (rs:=[.tmp 2]) (nt:=6) Tryz.func181 rfl rfl rfl (by simp) rfl ?_;refine .seq ?_;refine .region ?_;refine vk (vbx) ?_;refine asd ?_;refine rn ?_;refine .seq ?_;refine .region ?_
 refine al ?_ (Ag Oc) (fun w I μ=>V7 w I μ)
 refine vk (Ao AM Aw) ?_
 refine clR (avs:=[.bp 0 0,.d (dvI x),.d (.i .i64 0)]) (IH Vw hz (id:=0) rfl) Tryz.call193 (fun v H' hp=>?_)
 obtain ⟨rfl,hp⟩:=hp
 refine asd ?_;refine rn ?_;refine .ret ?_
 exact ⟨rfl,rfl⟩
def PZ (s : Bool) (n : Nat) : Int × Bool:=if s=true then (if n≤9223372036854775808 then (-(n : Int),true) else (0,false)) else if n<9223372036854775808 then ((n : Int),true) else (0,false)
def No (a : RT) : Option (Int × Bool):=(Hj a).bind fun b=>if b=true then (if (okL 1048576 a.2.1 && decide (Ac (val a.2.1)=a.2.1))=true then some (if Br (val a.2.1)≤64 then PZ a.1 (val a.2.1) else (0,false)) else none) else some (0,false)
theorem Zs (w : World) : (zeroValue 131).run Tryz.prog w=.ok (.int .u64 0) w:=by
 simp
theorem zu1 : AF Tryz.prog 131=1:=by kernel_rfl
theorem au1 : BT Tryz.prog 131=some false:=by kernel_rfl
theorem Xl {xs : List Nat} (h : Ok xs) (hl : xs.length≤2) : ∀ j,val (xs.drop (j+1))<4294967296:=by
 intro j
 match xs,hl with
 | [],_=>simp [val]
 | [x],_=>cases j <;> simp [val]
 | [x,y],_ =>
  have hy:y<4294967296:=h y (by simp)
  cases j with
  | zero=>simp [val];omega
  | succ j=>cases j <;> simp [val]
theorem UE {n : Nat} (h : n≤9223372036854775808) : IntKind.i64.wrap (IntKind.u64.wrap (0 - (n : Int)))=-(n : Int):=by
 simp only [IntKind.wrap,IntKind.bits,IntKind.signed];simp;omega
theorem Qz {a : RT} {r : Int × Bool} (h : No a=some r) : Fn Tryz.prog 171 [.ag [.b a.1,.sl (L a.2.1),.sl (L a.2.2)]] (.tup [.d (.i .i64 r.1),.d (.b r.2)]):=by
 unfold No at h
 obtain ⟨x1,hx1,h⟩:=bnd h
 refine Fn.ofM (rs:=[.tmp 2,.tmp 3]) (nt:=46) Tryz.func171 rfl rfl rfl (by simp) rfl ?_;refine .seqA ?_;refine .region ?_;refine vk (vbx) ?_;refine asd ?_;refine asd ?_;refine rn ?_
 show AWM _ _ _ _ _ _
 refine .seqA ?_;refine .seq ?_;refine .region ?_;refine vk (Ao Au Al) ?_;refine vk (Af (Ia hx1) Tryz.call206) ?_;refine vk (vnt) ?_
 cases x1 with
 | false =>
  replace h:=Ae (by decide) h
  refine mvd ?_;refine gf ?_;refine gf ?_;refine gf ?_;refine gf ?_;refine vk (Ai) ?_;refine rn ?_;refine cnt rfl ?_;refine .seq ?_;refine .region ?_;refine asd ?_;refine asd ?_;refine rn ?_;refine .ret ?_
  cases h
  exact ⟨by decide,rfl,rfl,rfl⟩
 | true =>
  replace h:=Ad rfl h
  obtain ⟨hc,h⟩:=Df h
  rw [Bool.and_eq_true,Ci] at hc
  obtain ⟨⟨hok,hlen⟩,hdg⟩:=hc
  have hdg:=of_decide_eq_true hdg
  refine mvd ?_;refine vk (vfa BK) ?_;refine vk (Am CS) ?_
  refine cl (xs:=[.sl (L a.2.1)]) ?_ (Tl hok hlen) Tryz.call223
  refine vk (vbi) ?_;refine vk (Ai) ?_;refine rn ?_
  by_cases hb:Br (val a.2.1)≤64
  ·rw [if_pos hb] at h
   cases h
   have hb1:decide ((64:Int)<(Br (val a.2.1):Nat))=false:=dF (by omega)
   refine cnf hb1 ?_;refine .skip ?_
   show AWM _ _ _ _ _ _
   have hv64:val a.2.1<18446744073709551616:=ED.1 hb
   have hlen2:a.2.1.length≤2:=by rw [← hdg];exact BZ (by omega)
   have hvs:=Xl hok hlen2
   refine .seqA ?_;refine .region ?_
   refine al ?_ Zs (fun w I μ=>.cons (c:=.d (.i .u64 0)) (b1:=[]) (.d (.i _ _)) .nil)
   refine stb (cs:=[.d (.i .u64 0)]) (c:=.d (.i .u64 0)) rfl rfl ?_ zu1
   refine rn ?_
   show AWM _ _ _ _ _ _
   refine .seq rfl ?_;refine .seqA ?_;refine .region ?_;refine vk (vfa BK) ?_;refine vk (Am CS) ?_
   refine cl (xs:=[.sl (L a.2.1)]) ?_ (LM (L a.2.1)) Tryz.call224
   refine rn ?_
   show AWM _ _ _ _ _ _
   obtain ⟨s,xs,den⟩:=a
   dsimp only at *
   have hys:∀ ds ∈ Jx (L xs),ds.length=2:=fun ds hds=>by
    obtain ⟨k,hk⟩:=List.getElem?_of_mem hds
    rw [(J7 hk).2];rfl
   have hit:=Xv (L xs) (by intro x hx;simp only [L,List.mem_map] at hx;obtain ⟨n,_,rfl⟩:=hx;rfl) (by rw [Ab];omega)
   refine .block ?_;refine .rangeFunc rfl rfl rfl Tryz.call243 hit hys (by decide) (by decide) rfl (fun k=>[.box [.d (.i .u64 ((val (xs.drop (xs.length - k)):Nat):Int))]]) (by simp [val]) ?_ ?_
   ·intro l k d1 d2 hk
    obtain ⟨hk1,hk2⟩:=J7 hk
    rw [Ab] at hk1 hk2
    have hj:xs.length - 1 - k<xs.length:=by omega
    have hxat:(L xs).getD (xs.length - 1 - k) .np=U xs[xs.length - 1 - k]:=by
     rw [List.getD_eq_getElem?_getD,C9 (List.getElem?_eq_getElem hj)];rfl
    rw [hxat] at hk2
    simp only [List.cons.injEq,and_true] at hk2
    obtain ⟨rfl,rfl⟩:=hk2
    have hva:=UP hj
    have hx:=hok.at (List.getElem?_eq_getElem hj)
    have hsm:=hvs (xs.length - 1 - k)
    have e1:xs.length - 1 - k+1=xs.length - k:=by omega
    have e2:xs.length - (k+1)=xs.length - 1 - k:=by omega
    rw [e1] at hva hsm
    rw [e2]
    generalize xs[xs.length - 1 - k]=x at *
    generalize val (xs.drop (xs.length - k))=n at *
    rw [hva]
    refine .region ?_;refine asd ?_;refine rn ?_
    show AW _ _ _ _ _ _
    refine .block ?_;refine .region ?_
    refine ldb (cs:=[.d (.i .u64 (n:Int))]) (c:=.d (.i .u64 (n:Int))) rfl rfl ?_ au1
    refine bie (.i .u64 ((n * 4294967296:Nat):Int)) ?_ ?_
    ·refine ⟨by decide,?_⟩
     have:IntKind.u64.wrap ((n:Int) * 4294967296)=((n * 4294967296:Nat):Int):=by
      rw [Ga _ (by omega) (by omega)];omega
     rw [← this];simp [IntKind.bits]
    refine mvd ?_
    refine cve (x:Int) (Ga _ (by omega) (by omega)) ?_ u32 u64
    refine bie (.i .u64 ((n * 4294967296+x:Nat):Int)) ?_ ?_
    ·exact ⟨trivial,by rw [Kq hsm hx]⟩
    refine stb (cs:=[.d (.i .u64 (n:Int))]) (c:=.d (.i .u64 (n:Int))) rfl rfl ?_ zu1
    refine .nil ?_
    refine ⟨rfl,?_⟩
    rw [show n * 4294967296+x=x+4294967296 * n by omega]
    rfl
   ·show AWM _ _ _ _ _ _
    refine .lift ?_
    rw [F6,Ab,Nat.sub_self,List.drop_zero]
    have hn:val xs<18446744073709551616:=hv64
    generalize val xs=n at *
    cases s with
    | true =>
     refine .seq ?_;refine .block ?_;refine .seq ?_;refine .region ?_;refine vk (vfa CQ) ?_;refine vk (Am BJ) ?_;refine mvd ?_
     refine ldb (cs:=[.d (.i .u64 (n:Int))]) (c:=.d (.i .u64 (n:Int))) rfl rfl ?_ au1
     refine vk (vbi) ?_;refine vk (Ai) ?_;refine asd ?_;refine rn ?_
     by_cases hle:n≤9223372036854775808
     ·refine cnt (dT (show (n:Int)≤9223372036854775808 by omega)) ?_
      refine .seq ?_;refine .region ?_
      refine ldb (cs:=[.d (.i .u64 (n:Int))]) (c:=.d (.i .u64 (n:Int))) rfl rfl ?_ au1
      refine vk (vng) ?_;refine vk (vcv u64 i64) ?_;refine asd ?_;refine asd ?_;refine rn ?_;refine .ret ?_
      refine ⟨by decide,?_,rfl,rfl⟩
      rw [show PZ true n=(-(n:Int),true) by rw [PZ,if_pos rfl,if_pos hle],← UE hle];rfl
     ·refine cnf (dF (show ¬ ((n:Int)≤9223372036854775808) by omega)) ?_
      refine .seq ?_;refine .region ?_;refine vk (vfa CQ) ?_;refine vk (Am BJ) ?_;refine vk (vnt) ?_;refine mvd ?_;refine gf ?_;refine gf ?_;refine vk (Ai) ?_;refine asd ?_;refine rn ?_;refine cnf rfl ?_;refine .skip ?_
      show AW _ _ _ _ _ _
      refine .seq ?_;refine .region ?_;refine asd ?_;refine asd ?_;refine rn ?_;refine .ret ?_
      exact ⟨by decide,by rw [show PZ true n=(0,false) by rw [PZ,if_pos rfl,if_neg hle]];rfl,rfl,rfl⟩
    | false =>
     refine .seq ?_;refine .block ?_;refine .seq ?_;refine .region ?_;refine vk (vfa CQ) ?_;refine vk (Am BJ) ?_;refine mvd ?_;refine gf ?_;refine gf ?_;refine vk (Ai) ?_;refine asd ?_;refine rn ?_;refine cnf rfl ?_;refine .seq ?_;refine .region ?_;refine vk (vfa CQ) ?_;refine vk (Am BJ) ?_;refine vk (vnt) ?_;refine mvd ?_
     refine ldb (cs:=[.d (.i .u64 (n:Int))]) (c:=.d (.i .u64 (n:Int))) rfl rfl ?_ au1
     refine vk (vbi) ?_;refine vk (Ai) ?_;refine asd ?_;refine rn ?_
     by_cases hlt:n<9223372036854775808
     ·refine cnt (dT (show (n:Int)<9223372036854775808 by omega)) ?_
      refine .seq ?_;refine .region ?_
      refine ldb (cs:=[.d (.i .u64 (n:Int))]) (c:=.d (.i .u64 (n:Int))) rfl rfl ?_ au1
      refine vk (vcv u64 i64) ?_;refine asd ?_;refine asd ?_;refine rn ?_;refine .ret ?_
      refine ⟨by decide,?_,rfl,rfl⟩
      rw [show PZ false n=((n:Int),true) by rw [PZ,if_neg (by decide),if_pos hlt]]
      have:=Hl (n:Int) (by omega) (by omega)
      exact (show AV.tup [.d (.i .i64 (n:Int)),.d (.b true)]=.tup [.d (.i .i64 (IntKind.i64.wrap (n:Int))),.d (.b true)] by rw [this]).trans rfl
     ·refine cnf (dF (show ¬ ((n:Int)<9223372036854775808) by omega)) ?_
      refine .skip ?_
      show AW _ _ _ _ _ _
      refine .seq ?_;refine .region ?_;refine asd ?_;refine asd ?_;refine rn ?_;refine .ret ?_
      exact ⟨by decide,by rw [show PZ false n=(0,false) by rw [PZ,if_neg (by decide),if_neg hlt]];rfl,rfl,rfl⟩
  ·rw [if_neg hb] at h
   cases h
   have hb1:decide ((64:Int)<(Br (val a.2.1):Nat))=true:=dT (by omega)
   refine cnt hb1 ?_;refine .seq ?_;refine .region ?_;refine asd ?_;refine asd ?_;refine rn ?_;refine .ret ?_
   exact ⟨by decide,rfl,rfl,rfl⟩
def Bq (a0 : Arr) : Option (Bool):=((E6 a0).bind fun x1=>(some (x1.2)))
theorem B7 {a0 : Arr} {r : Bool} (h : Bq a0=some r) :
  Fn Tryz.prog 13 [.ag [.sl (Is a0.shape),.sl (Its a0.items)]] (.d (.b r)):=by
 unfold Bq at h
 refine Fn.o1 2 11 Tryz.func13 ?_;refine .sr ?_;refine vk (vbx) ?_;refine ar [1,2] ?_;refine .sr ?_;refine vk (Ao Ar Ah) ?_
 obtain ⟨x1,hx1,h⟩:=bnd h
 refine vk (VOK.tupd (vs:=[.ag [.i .i64 x1.1.1,.i .i64 x1.1.2],.b x1.2]) (Af (Jq hx1) Tryz.call36)) ?_;refine vk (Aa) ?_;refine vk (vex) ?_;refine vk (vex) ?_;refine vk (van (Ag Oc) Ta) ?_
 refine stn ?_ Np (by decide)
 refine ar [2,4] ?_;refine .sr ?_;refine vk (Aa) ?_;refine ar [2] ?_;refine .ret ?_
 cases h
 exact ⟨rfl,rfl⟩
def FA (a0 : Arr) : Option (Int):=((E6 a0).bind fun x1=>(some (x1.1.1)))
theorem Ns {a0 : Arr} {r : Int} (h : FA a0=some r) :
  Fn Tryz.prog 184 [.ag [.sl (Is a0.shape),.sl (Its a0.items)]] (.d (.i .i64 r)):=by
 unfold FA at h
 refine Fn.o1 2 12 Tryz.func184 ?_;refine .sr ?_;refine vk (vbx) ?_;refine ar [1,2] ?_;refine .sr ?_;refine vk (Ao Ar Ah) ?_
 obtain ⟨x1,hx1,h⟩:=bnd h
 refine vk (VOK.tupd (vs:=[.ag [.i .i64 x1.1.1,.i .i64 x1.1.2],.b x1.2]) (Af (Jq hx1) Tryz.call36)) ?_;refine vk (Aa) ?_;refine vk (vex) ?_;refine vk (vex) ?_;refine vk (van (Ag Oc) Ta) ?_
 refine stn ?_ Np (by decide)
 refine ar [2,3] ?_;refine .seq ?_;refine .gh (Gh.nbp (t:=3) rfl) ?_;refine .region ?_;refine vk (vfa Mv) ?_;refine vk (Am Ca) ?_;refine ar [2] ?_;refine .ret ?_
 cases h
 exact ⟨rfl,rfl⟩
def IS (a0 : Arr) (a1 : Arr) : Option (Bool):=((Bq a0).bind fun x1=>(Option.bind ((if x1=true then ((Bq a1).bind fun x3=>(if x3=true then ((Rl a0 a1).bind fun x4=>(some x4)) else (some false))) else (some false)) : Option (Bool)) fun (z1 : Bool)=>(some (z1))))
theorem Nt {a0 : Arr} {a1 : Arr} {r : Bool} (h : IS a0 a1=some r) :
  Fn Tryz.prog 14 [.ag [.sl (Is a0.shape),.sl (Its a0.items)],.ag [.sl (Is a1.shape),.sl (Its a1.items)]] (.d (.b r)):=by
 unfold IS at h
 refine Fn.o1 4 16 Tryz.func14 ?_;refine .sr ?_;refine vk (vbx) ?_;refine vk (vbx) ?_;refine ar [2,3,4] ?_;refine .seq ?_
 obtain ⟨x1,hx1,h⟩:=bnd h
 obtain ⟨z1,hz,h⟩:=bnd h
 refine AW.mr (σ:=Unit) (fun _=>True) (fun _=>[(4,.d (.b z1))]) (fun _=>[]) ?_ ?_
 ·skip
  refine .region ?_;refine vk (Ao Ar Ah) ?_;refine vk (Af (B7 hx1) Tryz.call13) ?_
  by_cases hc:x1=true
  ·replace hz:=Ad hc hz
   have hb0:x1=true:=hc
   refine vk (VOK.lit (Aa) hb0) ?_;refine vk (Ao Ar Ah) ?_
   obtain ⟨x3,hx3,hz⟩:=bnd hz
   refine vk (Af (B7 hx3) Tryz.call13) ?_;refine vk (Ai) ?_
   by_cases hc:x3=true
   ·replace hz:=Ad hc hz
    have hb1:x3=true:=hc
    refine vk (VOK.lit (Aa) hb1) ?_;refine vk (Ao Ar Ah) ?_;refine vk (Ao Ar Ah) ?_
    obtain ⟨x4,hx4,hz⟩:=bnd hz
    refine vk (Af (Rm hx4) Tryz.call37) ?_;refine vk (Ai) ?_;refine asd ?_;refine RL.gk [4] ?_;refine .nil ?_
    cases hz
    exact jr () trivial
   replace hz:=Ae hc hz
   have hb1:x3=false:=(bf hc)
   refine vk (VOK.lit (Aa) hb1) ?_;refine gf ?_;refine gf ?_;refine gf ?_;refine vk (Ai) ?_;refine asd ?_;refine RL.gk [4] ?_;refine .nil ?_
   cases hz
   exact jr () trivial
  replace hz:=Ae hc hz
  have hb0:x1=false:=(bf hc)
  refine vk (VOK.lit (Aa) hb0) ?_;refine gf ?_;refine gf ?_;refine vk (Ai) ?_;refine vk (Aa) ?_;refine gf ?_;refine gf ?_;refine gf ?_;refine vk (Ai) ?_;refine asd ?_;refine RL.gk [4] ?_;refine .nil ?_
  cases hz
  exact jr () trivial
 rintro _ _
 refine .ret ?_
 cases h
 exact ⟨rfl,rfl⟩
def Az (a0 : (List Itm)) (a1 : Cs) (K0 : Int→Option (Int)) : Nat→Int→Int→Option (Int)
 | 0,_,_=>none
 | k+1,s2,s3=>(if s3<((List.length a0:Nat):Int) then ((rd? a0 s3).bind fun x4=>((a1.g x4).bind fun x5=>(if x5=true then (some (s3)) else (Az a0 a1 K0 k s2 (w64 (s3+1)))))) else (K0 s2))
def Bf (a0 : (List Itm)) (a1 : Cs) : Option (Int):=(jn (fun (z1 : Int)=>(some ((-1)))) fun K0=>(Az a0 a1 K0 Bi 0 0))
theorem D8 {a0 : (List Itm)} {a1 : Cs} (oa1 : KB a1) {r : Int} (h : Bf a0 a1=some r) :
  Fn Tryz.prog 227 [.sl (Its a0),a1.dv] (.d (.i .i64 r)):=by
 unfold Bf at h
 refine Fn.o1 4 19 Tryz.func227 ?_;refine .sr ?_;refine ar [0,1,4] ?_;refine .seq ?_;refine .sr ?_;refine vk (Aa) ?_;refine vk (Bk (AE _) (Cr _) Ct) ?_;refine vk (Aa) ?_;refine rk [0,1,4,7,8] ?_
 obtain ⟨K0,hK0,h⟩:=BS h
 refine AW.mr (σ:=Int) (fun p=>K0 p=some r) (fun p=>[(4,.d (.i .i64 p))]) (fun p=>[]) ?_ ?_
 ·skip
  refine .block ?_
  refine .loop (.gk [0,1,4,7,8] ?_)
  refine AL.ind (σ:=Nat × Int × Int) (m:=fun p=>p.1) (e:=fun p=>[(0,.d (.sl (Its a0))),(1,.d (a1.dv)),(4,.d (.i .i64 p.2.1)),(7,.d (.i .i64 ((List.length a0:Nat):Int))),(8,.d (.i .i64 p.2.2))]) (h:=fun p=>[]) (I:=fun p=>Az a0 a1 K0 p.1 p.2.1 p.2.2=some r) ?_ (Bi,0,0) h
  rintro ⟨k,s2,s3⟩ h ih
  dsimp only at h ih ⊢
  rcases k with _ | k
  ·rw [Az] at h;cases h
  rw [Az] at h
  refine .sr ?_;refine vk (vbi) ?_;refine rk [0,1,4,7,8,9] ?_;refine .seq ?_
  by_cases hc:s3<((List.length a0:Nat):Int)
  ·replace h:=Ad hc h
   refine cnt (dT hc) ?_;refine .skip ?_
   show AW _ _ _ _ _ _
   refine .seq ?_;refine .block ?_;refine .sr ?_;refine vk (Aa) ?_;refine ar [0,1,4,5,7,8] ?_;refine .sr ?_;refine vk (Aa) ?_;refine vk (Aa) ?_;refine vk (Aa) ?_
   obtain ⟨x4,hx4,h⟩:=bnd h
   obtain ⟨nx4,hnx4,hxx4⟩:=AI hx4
   refine vk (vix nx4 hnx4 (Dn hxx4) rfl Dj) ?_;refine vk (Ao AM Aw) ?_
   obtain ⟨x5,hx5,h⟩:=bnd h
   refine vk (NN (oa1 _ _ hx5)) ?_;refine rk [0,1,4,5,7,8,16] ?_
   by_cases hc:x5=true
   ·replace h:=Ad hc h
    refine cnt hc ?_;refine .sr ?_;refine vk (Aa) ?_;refine ar [0,1,4,7,8] ?_;refine .ret ?_
    cases h
    exact ⟨rfl,rfl⟩
   replace h:=Ae hc h
   refine cnf (bf hc) ?_;refine .skip ?_
   show AW _ _ _ _ _ _
   refine .region ?_;refine vk (vbi) ?_;refine vk (Aa) ?_;refine .nil ?_;refine AL.gk [0,1,4,7,8] ?_
   exact ih (k,s2,(w64 (s3+1))) h (Nat.lt_succ_self _)
  replace h:=Ae hc h
  refine cnf (dF hc) ?_;refine .gk [4] ?_;refine .exit ?_
  exact jr (s2) h
 rintro z1 h
 try dsimp only at h ⊢
 subst hK0
 show AW _ _ _ _ _ _
 refine .sr ?_;refine ar [4] ?_;refine .ret ?_
 cases h
 exact ⟨rfl,rfl⟩
def AQ (a0 : (List Itm)) (a1 : Cs) : Option (Bool):=((Bf a0 a1).bind fun x1=>(some ((decide (0≤x1)))))
theorem DA {a0 : (List Itm)} {a1 : Cs} (oa1 : KB a1) {r : Bool} (h : AQ a0 a1=some r) :
  Fn Tryz.prog 179 [.sl (Its a0),a1.dv] (.d (.b r)):=by
 unfold AQ at h
 refine Fn.o1 4 9 Tryz.func179 ?_;refine .sr ?_;refine ar [0,1,4] ?_;refine .sr ?_;refine vk (Aa) ?_;refine vk (Aa) ?_
 obtain ⟨x1,hx1,h⟩:=bnd h
 refine vk (Af (D8 oa1 hx1) Tryz.call227) ?_;refine vk (vbi) ?_;refine ar [4] ?_;refine .ret ?_
 cases h
 exact ⟨rfl,rfl⟩
def EN (a0 : Itm) : Option (Bool):=((EL a0).bind fun x1=>(some ((!x1))))
theorem Mf {a0 : Itm} {r : Bool} (h : EN a0=some r) :
  Fn Tryz.prog 180 [.ag [.i .u8 a0.kind,.b a0.num.1,.sl (L a0.num.2.1),.sl (L a0.num.2.2),.i .i32 a0.char,.sl (Ars a0.box)]] (.d (.b r)):=by
 unfold EN at h
 refine Fn.o1 2 6 Tryz.func180 ?_;refine .sr ?_;refine vk (vbx) ?_;refine ar [1,2] ?_;refine .sr ?_;refine vk (Ao AM Aw) ?_
 obtain ⟨x1,hx1,h⟩:=bnd h
 refine vk (Af (IR hx1) Tryz.call181) ?_;refine vk (vnt) ?_;refine ar [2] ?_;refine .ret ?_
 cases h
 exact ⟨rfl,rfl⟩
def CB (x12 : Itm) (K4 : Int→Option (Arr × Int)) : Nat→Int→Int→Option (Arr × Int)
 | 0,_,_=>none
 | k+1,s14,s15=>(if s15<((List.length x12.box:Nat):Int) then ((rd? x12.box s15).bind fun x16=>((FA x16).bind fun x17=>(CB x12 K4 k (w64 (s14+x17)) (w64 (s15+1))))) else (K4 s14))
def B6 (a1 : (List Itm)) (K1 : (List Int)→Option (Arr × Int)) : Nat→(List Int)→Int→Option (Arr × Int)
 | 0,_,_=>none
 | k+1,s9,s10=>(if s10<((List.length a1:Nat):Int) then (jn (fun (z11:(List Int))=>(B6 a1 K1 k z11 (w64 (s10+1)))) fun K3=>((rd? a1 s10).bind fun x12=>(jn (fun (z13:Int)=>((ap? 17592186044416 s9 [z13]).bind fun x18=>(K3 x18))) fun K4=>(CB x12 K4 Bi 1 0)))) else (K1 s9))
def B2 (a1 : (List Itm)) (x1 : Int × Int) (z8 : (List Int)) (K6 : Arr→Int→(List Int)→(List Itm)→Option (Arr × Int)) : Nat→Arr→Int→Int→Int→(List Int)→(List Itm)→Option (Arr × Int)
 | 0,_,_,_,_,_,_=>none
 | k+1,s23,s24,s25,s26,s27,s28=>(if s25<x1.1 then ((Kg (((List.length a1:Nat):Int) ≠ 0)).bind fun x29=>((rd? z8 (Int.tmod s25 ((List.length a1:Nat):Int))).bind fun x30=>(if 16384<(w64 (s26+x30)) then (some ((Arr.mk [] []),8)) else ((Kg (((List.length a1:Nat):Int) ≠ 0)).bind fun x31=>((rd? a1 (Int.tmod s25 ((List.length a1:Nat):Int))).bind fun x32=>((FT x32).bind fun x33=>((ap? 1466015503701 s28 [x33]).bind fun x34=>(B2 a1 x1 z8 K6 k s23 s24 (w64 (s25+1)) (w64 (s26+x30)) s27 x34)))))))) else (K6 s23 s24 s27 s28))
def Cj (a0 : (List Int)) (a1 : (List Itm)) : Option (Arr × Int):=((Dq a0).bind fun x1=>(if x1.2=0 then (Option.bind ((if ((List.length a1 : Nat) : Int)=0 then (some true) else ((AQ a1 (⟨.fn 180 [] [],fun x=>EN x⟩ : Cs)).bind fun x3=>(some x3))) : Option (Bool)) fun (z2 : Bool)=>(if z2=true then (some ((Arr.mk [] []),22)) else ((Fp a0).bind fun x4=>(jn (fun (z5 : (List Itm))=>(jn (fun (z8 : (List Int))=>(jn (fun (z19 : Arr) (z20 : Int) (z21 : (List Int)) (z22 : (List Itm))=>((Bq (Arr.mk z21 z22)).bind fun x35=>(if x35=true then (some ((Arr.mk z21 z22),0)) else (some ((Arr.mk [] []),8))))) fun K6=>(B2 a1 x1 z8 K6 Bi (Arr.mk [] []) 0 0 0 x4 z5))) fun K1=>(B6 a1 K1 Bi [] 0))) fun K0=>(if x1.1=0 then ((rd? a1 0).bind fun x6=>((ND x6).bind fun x7=>(K0 ([x7])))) else (K0 [])))))) else (some ((Arr.mk [] []),x1.2))))
set_option maxHeartbeats 4000000 in
theorem NY {a0 : (List Int)} {a1 : (List Itm)} {r : Arr × Int} (h : Cj a0 a1=some r) :
  Fn Tryz.prog 99 [.sl (Is a0),.sl (Its a1)] (.tup [.d (.ag [.sl (Is r.1.shape),.sl (Its r.1.items)]),.d (.i .i64 r.2)]):=by
 unfold Cj at h
 refine Fn.ofC (rs:=[.cell 4 25,.tmp 5]) (nt:=105) Tryz.func99 rfl rfl rfl (by simp) rfl ?_;refine .sr ?_;refine vk (van (Ag A4) Bh) ?_;refine ar [0,1,4,5] ?_;refine .sr ?_;refine vk (Aa) ?_
 obtain ⟨x1,hx1,h⟩:=bnd h
 refine vk (VOK.tupd (vs:=[.i .i64 x1.1,.i .i64 x1.2]) (Af (Ei hx1) Tryz.call98)) ?_;refine vk (Aa) ?_;refine vk (vex) ?_;refine vk (vex) ?_;refine asd ?_;refine ar [0,1,4,5,6,7] ?_;refine .seq ?_;refine .block ?_;refine .sr ?_;refine vk (Aa) ?_;refine vk (vbi) ?_;refine ar [0,1,4,5,6,7,22] ?_
 by_cases hc:x1.2=0
 ·replace h:=Ad hc h
  refine cnf (ntf (dT hc)) ?_;refine .seq ?_
  obtain ⟨z2,hz,h⟩:=bnd h
  refine AW.mr (σ:=Unit) (fun _=>True) (fun _=>[(0,.d (.sl (Is a0))),(1,.d (.sl (Its a1))),(4,.nb [.sl (Is []),.sl (Its [])]),(5,.d (.i .i64 0)),(6,.d (.i .i64 x1.1)),(27,.d (.b z2))]) (fun _=>[]) ?_ ?_
  ·skip
   refine .region ?_;refine vk (Aa) ?_;refine vk (Bk (AE _) (Cr _) Ct) ?_;refine vk (vbi) ?_
   by_cases hc:((List.length a1:Nat):Int)=0
   ·replace hz:=Ad hc hz
    have hb0:(decide (((List.length a1:Nat):Int)=0))=true:=(dT hc)
    refine vk (VOK.lit (Aa) hb0) ?_;refine gf ?_;refine gf ?_;refine vk (Ai) ?_;refine asd ?_;refine RL.gk [0,1,4,5,6,27] ?_;refine .nil ?_
    cases hz
    exact jr () trivial
   replace hz:=Ae hc hz
   have hb0:(decide (((List.length a1:Nat):Int)=0))=false:=(dF hc)
   refine vk (VOK.lit (Aa) hb0) ?_;refine vk (Aa) ?_
   obtain ⟨x3,hx3,hz⟩:=bnd hz
   refine vk (Af (DA (Cp Tryz.call180 (fun _ _ h=>Mf h)) hx3) Tryz.call179) ?_;refine vk (Ai) ?_;refine asd ?_;refine RL.gk [0,1,4,5,6,27] ?_;refine .nil ?_
   cases hz
   exact jr () trivial
  rintro _ _
  by_cases hc:z2=true
  ·replace h:=Ad hc h
   refine cnt hc ?_;refine .sr ?_;refine vk (vbd EA A4 Bh) ?_
   refine stn ?_ Ah (by decide)
   refine ar [0,1,4,5,6] ?_;refine .ret ?_
   cases h
   exact ⟨_,_,⟨.inr rfl,Ar,Ah,(by decide:(0:Nat)<2)⟩,rfl,rfl⟩
  replace h:=Ae hc h
  refine cnf (bf hc) ?_;refine .skip ?_
  show AW _ _ _ _ _ _
  refine .sr ?_;refine vk (Aa) ?_
  obtain ⟨x4,hx4,h⟩:=bnd h
  refine vk ((Af (Jr hx4) Tryz.call182).deep) ?_;refine vk (VW EA A4 (fun w I μ=>Mz w I μ)) ?_;refine vk (van (Ag A4) Bh) ?_
  refine Wn ?_ Ah (by decide)
  refine rk [1,4,5,6,8] ?_;refine .seq ?_;refine .sr ?_;refine vk (Aa) ?_;refine vk (vbi) ?_;refine rk [1,4,5,6,8,40] ?_
  obtain ⟨K0,hK0,h⟩:=BS h
  refine AW.mr (σ:=(List Itm)) (fun p=>K0 p=some r) (fun p=>[(1,.d (.sl (Its a1))),(4,.nb [.sl (Is []),.sl (Its [])]),(5,.d (.i .i64 0)),(6,.d (.i .i64 x1.1)),(8,.bp 0 0)]) (fun p=>[HO.box [.d (.sl (Is x4)),.own 83 (Its p)]]) ?_ ?_
  ·skip
   by_cases hc:x1.1=0
   ·replace h:=Ad hc h
    refine cnt (dT hc) ?_;refine .region ?_;refine vk (Aa) ?_
    obtain ⟨x6,hx6,h⟩:=bnd h
    obtain ⟨nx6,hnx6,hxx6⟩:=AI hx6
    refine vk (vix nx6 hnx6 (Dn hxx6) rfl Dj) ?_;refine vk (Ao AM Aw) ?_
    obtain ⟨x7,hx7,h⟩:=bnd h
    refine vk (Af (Qs hx7) Tryz.call183) ?_;refine vk (Gv (F4 x7) (EZ [x7]) EQ) ?_;refine vk (EM AH) ?_
    refine Ma (cs:=[.d (.sl (Is x4)),.nl]) (c:=.nl) rfl rfl ?_ Lp
    refine RL.gk [1,4,5,6,8] ?_;refine .nil ?_
    exact jr ([x7]) h
   replace h:=Ae hc h
   refine cnf (dF hc) ?_;refine .gh (Gh.nlOwnC (id:=0) (off:=1) 83 (by rw [Pj];decide)) ?_;refine .gk [1,4,5,6,8] ?_;refine .skip ?_
   exact jr ([]) h
  rintro z5 h
  try dsimp only at h ⊢
  subst hK0
  show AW _ _ _ _ _ _
  refine .sr ?_;refine asn ?_;refine rk [1,4,5,6,8,9] ?_;refine .seq ?_;refine .sr ?_;refine vk (Aa) ?_;refine vk (Bk (AE _) (Cr _) Ct) ?_;refine vk (Aa) ?_;refine rk [1,4,5,6,8,9,47,48,49] ?_
  obtain ⟨K1,hK1,h⟩:=BS h
  refine AW.mr (σ:=(List Int)) (fun p=>K1 p=some r) (fun p=>[(1,.d (.sl (Its a1))),(4,.nb [.sl (Is []),.sl (Its [])]),(5,.d (.i .i64 0)),(6,.d (.i .i64 x1.1)),(8,.bp 0 0),(9,.own 3 (Is p))]) (fun p=>[HO.box [.d (.sl (Is x4)),.own 83 (Its z5)]]) ?_ ?_
  ·skip
   refine .block ?_;refine .gh (Gh.nlOwn (t:=9) 3 (by rw [La];decide) rfl) ?_
   refine .loop (.gk [1,4,5,6,8,9,47,48,49] ?_)
   refine AL.ind (σ:=Nat × (List Int) × Int) (m:=fun p=>p.1) (e:=fun p=>[(1,.d (.sl (Its a1))),(4,.nb [.sl (Is []),.sl (Its [])]),(5,.d (.i .i64 0)),(6,.d (.i .i64 x1.1)),(8,.bp 0 0),(9,.own 3 (Is p.2.1)),(47,.d (.sl (Its a1))),(48,.d (.i .i64 ((List.length a1:Nat):Int))),(49,.d (.i .i64 p.2.2))]) (h:=fun p=>[HO.box [.d (.sl (Is x4)),.own 83 (Its z5)]]) (I:=fun p=>B6 a1 K1 p.1 p.2.1 p.2.2=some r) ?_ (Bi,[],0) h
   rintro ⟨k,s9,s10⟩ h ih
   dsimp only at h ih ⊢
   rcases k with _ | k
   ·rw [B6] at h;cases h
   rw [B6] at h
   refine .sr ?_;refine vk (vbi) ?_;refine rk [1,4,5,6,8,9,47,48,49,50] ?_;refine .seq ?_
   by_cases hc:s10<((List.length a1:Nat):Int)
   ·replace h:=Ad hc h
    refine cnt (dT hc) ?_;refine .skip ?_
    show AW _ _ _ _ _ _
    obtain ⟨K3,hK3,h⟩:=BS h
    refine AW.mj (σ:=(List Int)) (fun p=>K3 p=some r) (fun p=>[(1,.d (.sl (Its a1))),(4,.nb [.sl (Is []),.sl (Its [])]),(5,.d (.i .i64 0)),(6,.d (.i .i64 x1.1)),(8,.bp 0 0),(9,.own 3 (Is p)),(47,.d (.sl (Its a1))),(48,.d (.i .i64 ((List.length a1:Nat):Int))),(49,.d (.i .i64 s10))]) (fun p=>[HO.box [.d (.sl (Is x4)),.own 83 (Its z5)]]) ?_ ?_
    ·skip
     refine .block ?_;refine .sr ?_
     obtain ⟨x12,hx12,h⟩:=bnd h
     obtain ⟨nx12,hnx12,hxx12⟩:=AI hx12
     refine vk (vix nx12 hnx12 (Dn hxx12) rfl Dj) ?_;refine vk (Ao AM Aw) ?_;refine vk (van (Ag BN) BW) ?_
     refine stn ?_ Aw (by decide)
     refine rk [1,4,5,6,8,9,11,47,48,49] ?_;refine .sr ?_;refine ar [1,4,5,6,8,9,11,12,47,48,49] ?_;refine .seq ?_;refine .seq ?_;refine .gh (Gh.nbp (t:=11) rfl) ?_;refine .region ?_;refine vk (vfa A7) ?_;refine vk (Am B8) ?_;refine vk (Bk (Bs _) (Ey _) Ew) ?_;refine vk (Aa) ?_;refine rk [1,4,5,6,8,9,12,47,48,49,54,55,56] ?_
     obtain ⟨K4,hK4,h⟩:=BS h
     refine AW.mr (σ:=Int) (fun p=>K4 p=some r) (fun p=>[(1,.d (.sl (Its a1))),(4,.nb [.sl (Is []),.sl (Its [])]),(5,.d (.i .i64 0)),(6,.d (.i .i64 x1.1)),(8,.bp 0 0),(9,.own 3 (Is s9)),(12,.d (.i .i64 p)),(47,.d (.sl (Its a1))),(48,.d (.i .i64 ((List.length a1:Nat):Int))),(49,.d (.i .i64 s10))]) (fun p=>[HO.box [.d (.sl (Is x4)),.own 83 (Its z5)]]) ?_ ?_
     ·skip
      refine .block ?_
      refine .loop (.gk [1,4,5,6,8,9,12,47,48,49,54,55,56] ?_)
      refine AL.ind (σ:=Nat × Int × Int) (m:=fun p=>p.1) (e:=fun p=>[(1,.d (.sl (Its a1))),(4,.nb [.sl (Is []),.sl (Its [])]),(5,.d (.i .i64 0)),(6,.d (.i .i64 x1.1)),(8,.bp 0 0),(9,.own 3 (Is s9)),(12,.d (.i .i64 p.2.1)),(47,.d (.sl (Its a1))),(48,.d (.i .i64 ((List.length a1:Nat):Int))),(49,.d (.i .i64 s10)),(54,.d (.sl (Ars x12.box))),(55,.d (.i .i64 ((List.length x12.box:Nat):Int))),(56,.d (.i .i64 p.2.2))]) (h:=fun p=>[HO.box [.d (.sl (Is x4)),.own 83 (Its z5)]]) (I:=fun p=>CB x12 K4 p.1 p.2.1 p.2.2=some r) ?_ (Bi,1,0) h
      rintro ⟨k,s14,s15⟩ h ih
      dsimp only at h ih ⊢
      rcases k with _ | k
      ·rw [CB] at h;cases h
      rw [CB] at h
      refine .sr ?_;refine vk (vbi) ?_;refine rk [1,4,5,6,8,9,12,47,48,49,54,55,56,57] ?_;refine .seq ?_
      by_cases hc:s15<((List.length x12.box:Nat):Int)
      ·replace h:=Ad hc h
       refine cnt (dT hc) ?_;refine .skip ?_
       show AW _ _ _ _ _ _
       refine .seq ?_;refine .block ?_;refine .sr ?_
       obtain ⟨x16,hx16,h⟩:=bnd h
       obtain ⟨nx16,hnx16,hxx16⟩:=AI hx16
       refine vk (vix nx16 hnx16 (EV hxx16) rfl E0) ?_;refine vk (Ao Ar Ah) ?_;refine vk (van (Ag A4) Bh) ?_
       refine stn ?_ Ah (by decide)
       refine rk [1,4,5,6,8,9,12,14,47,48,49,54,55,56] ?_;refine .region ?_;refine vk (Aa) ?_;refine vk (D4 Ar Ah) ?_
       obtain ⟨x17,hx17,h⟩:=bnd h
       refine vk (Af (Ns hx17) Tryz.call184) ?_;refine vk (vbi) ?_;refine asd ?_;refine .nil ?_
       show AW _ _ _ _ _ _
       refine .gk [1,4,5,6,8,9,12,47,48,49,54,55,56] ?_;refine .region ?_;refine vk (vbi) ?_;refine vk (Aa) ?_;refine .nil ?_;refine AL.gk [1,4,5,6,8,9,12,47,48,49,54,55,56] ?_
       exact ih (k,(w64 (s14+x17)),(w64 (s15+1))) h (Nat.lt_succ_self _)
      replace h:=Ae hc h
      refine cnf (dF hc) ?_;refine .gk [1,4,5,6,8,9,12,47,48,49] ?_;refine .exit ?_
      exact jr (s14) h
     rintro z13 h
     try dsimp only at h ⊢
     subst hK4
     show AW _ _ _ _ _ _
     refine .region ?_;refine mvo ?_;refine vk (Aa) ?_;refine vk ((E2 (HX [z13]) Jz).deep) ?_
     obtain ⟨x18,hx18,h⟩:=bnd h
     refine Y3 V2 hx18 Wm ?_ Pa A5 Jz
     refine aso ?_;refine RL.gk [1,4,5,6,8,9,47,48,49] ?_;refine .nil ?_
     exact jr (x18) h
    rintro z11 h
    try dsimp only at h ⊢
    subst hK3
    refine .region ?_;refine vk (vbi) ?_;refine vk (Aa) ?_;refine .nil ?_;refine AL.gk [1,4,5,6,8,9,47,48,49] ?_
    exact ih (k,z11,(w64 (s10+1))) h (Nat.lt_succ_self _)
   replace h:=Ae hc h
   refine cnf (dF hc) ?_;refine .gk [1,4,5,6,8,9] ?_;refine .exit ?_
   exact jr (s9) h
  rintro z8 h
  try dsimp only at h ⊢
  subst hK1
  show AW _ _ _ _ _ _
  refine .seq ?_;refine .sr ?_;refine asd ?_;refine ar [1,4,5,6,8,9,15,16] ?_
  obtain ⟨K6,hK6,h⟩:=BS h
  refine AW.mr (σ:=Arr × Int × (List Int) × (List Itm)) (fun p=>K6 p.1 p.2.1 p.2.2.1 p.2.2.2=some r) (fun p=>[(4,.nb [.sl (Is p.1.shape),.sl (Its p.1.items)]),(5,.d (.i .i64 p.2.1)),(8,.bp 0 0)]) (fun p=>[HO.box [.d (.sl (Is p.2.2.1)),.own 83 (Its p.2.2.2)]]) ?_ ?_
  ·skip
   refine .block ?_;refine .gh (Gh.frz (p:=.t 9) rfl (by (intro _ _ h;cases h <;> decide))) ?_
   refine .loop (.gk [1,4,5,6,8,9,15,16] ?_)
   refine AL.ind (σ:=Nat × Arr × Int × Int × Int × (List Int) × (List Itm)) (m:=fun p=>p.1) (e:=fun p=>[(1,.d (.sl (Its a1))),(4,.nb [.sl (Is p.2.1.shape),.sl (Its p.2.1.items)]),(5,.d (.i .i64 p.2.2.1)),(6,.d (.i .i64 x1.1)),(8,.bp 0 0),(9,.d (.sl (Is z8))),(15,.d (.i .i64 p.2.2.2.1)),(16,.d (.i .i64 p.2.2.2.2.1))]) (h:=fun p=>[HO.box [.d (.sl (Is p.2.2.2.2.2.1)),.own 83 (Its p.2.2.2.2.2.2)]]) (I:=fun p=>B2 a1 x1 z8 K6 p.1 p.2.1 p.2.2.1 p.2.2.2.1 p.2.2.2.2.1 p.2.2.2.2.2.1 p.2.2.2.2.2.2=some r) ?_ (Bi,(Arr.mk [] []),0,0,0,x4,z5) h
   rintro ⟨k,s23,s24,s25,s26,s27,s28⟩ h ih
   dsimp only at h ih ⊢
   rcases k with _ | k
   ·rw [B2] at h;cases h
   rw [B2] at h
   refine .seq ?_;refine .sr ?_;refine vk (Aa) ?_;refine vk (Aa) ?_;refine vk (vbi) ?_;refine rk [1,4,5,6,8,9,15,16,72] ?_
   by_cases hc:s25<x1.1
   ·replace h:=Ad hc h
    refine cnt (dT hc) ?_;refine .skip ?_
    show AW _ _ _ _ _ _
    refine .seq ?_;refine .block ?_;refine .seq ?_;refine .sr ?_;refine vk (Aa) ?_;refine vk (Aa) ?_;refine vk (Aa) ?_;refine vk (Aa) ?_;refine vk (Bk (AE _) (Cr _) Ct) ?_
    obtain ⟨x29,hx29,h⟩:=bnd h
    refine vk (RY (Lj hx29)) ?_
    obtain ⟨x30,hx30,h⟩:=bnd h
    obtain ⟨nx30,hnx30,hxx30⟩:=AI hx30
    refine vk (vix nx30 hnx30 (GJ hxx30) rfl E4) ?_;refine vk (Am Ca) ?_;refine vk (vbi) ?_;refine ar [1,4,5,6,8,9,15,16] ?_;refine .sr ?_;refine vk (Aa) ?_;refine vk (vbi) ?_;refine rk [1,4,5,6,8,9,15,16,85] ?_
    by_cases hc:16384<(w64 (s26+x30))
    ·replace h:=Ad hc h
     refine cnt (dT hc) ?_;refine .sr ?_;refine vk (vbd EA A4 Bh) ?_
     refine stn ?_ Ah (by decide)
     refine ar [1,4,5,6,8,9,15,16] ?_;refine .ret ?_
     cases h
     exact ⟨_,_,⟨.inr rfl,Ar,Ah,(by decide:(0:Nat)<2)⟩,rfl,rfl⟩
    replace h:=Ae hc h
    refine cnf (dF hc) ?_;refine .skip ?_
    show AW _ _ _ _ _ _
    refine .drawn 11 A9 (by kernel_rfl) ?_;refine dv (EM AH) ?_;refine dv (QW (cs:=[.d (.sl (Is s27)),.own 83 (Its s28)]) rfl rfl BD) ?_;refine dv (Aa) ?_;refine dv (Aa) ?_;refine dv (Aa) ?_;refine dv (Bk (AE _) (Cr _) Ct) ?_
    obtain ⟨x31,hx31,h⟩:=bnd h
    refine dv (RY (Lj hx31)) ?_
    obtain ⟨x32,hx32,h⟩:=bnd h
    obtain ⟨nx32,hnx32,hxx32⟩:=AI hx32
    refine dv (vix nx32 hnx32 (Dn hxx32) rfl Dj) ?_;refine dv (Ao AM Aw) ?_
    obtain ⟨x33,hx33,h⟩:=bnd h
    refine dv (Af (Gd hx33) Tryz.call173) ?_;refine dv ((Gv (F4 x33) (EZ [x33]) EQ).deep) ?_;refine dz ?_
    obtain ⟨x34,hx34,h⟩:=bnd h
    refine Ui Kj hx34 rfl rfl Nj ?_ I7 AE EQ
    refine RL.gk [1,4,5,6,8,9,15,16,85,87,89,90,91,92,93,94,95,96,97,98] ?_;refine vk (EM AH) ?_
    refine Ma (cs:=[.d (.sl (Is s27)),.un]) (c:=.un) rfl rfl ?_ Lp
    refine .nil ?_
    show AW _ _ _ _ _ _
    refine .gk [1,4,5,6,8,9,15,16] ?_;refine .region ?_;refine vk (Aa) ?_;refine vk (vbi) ?_;refine asd ?_;refine .nil ?_;refine AL.gk [1,4,5,6,8,9,15,16] ?_
    exact ih (k,s23,s24,(w64 (s25+1)),(w64 (s26+x30)),s27,x34) h (Nat.lt_succ_self _)
   replace h:=Ae hc h
   refine cnf (dF hc) ?_;refine .gk [4,5,8] ?_;refine .exit ?_
   exact jr (s23,s24,s27,s28) h
  rintro ⟨z19,z20,z21,z22⟩ h
  try dsimp only at h ⊢
  subst hK6
  show AW _ _ _ _ _ _
  refine .seq ?_;refine .sr ?_;refine fz (p:=.c 0 1) ?_;refine vk (IT (cs:=[.d (.sl (Is z21)),.d (.sl (Its z22))]) (ds:=[.sl (Is z21),.sl (Its z22)]) rfl Ar Ah) ?_
  obtain ⟨x35,hx35,h⟩:=bnd h
  refine vk (Af (B7 hx35) Tryz.call13) ?_;refine vk (vnt) ?_;refine rk [4,5,8,102] ?_
  by_cases hc:x35=true
  ·replace h:=Ad hc h
   refine cnf (ntf hc) ?_;refine .skip ?_
   show AW _ _ _ _ _ _
   refine .sr ?_;refine vk (IT (cs:=[.d (.sl (Is z21)),.d (.sl (Its z22))]) (ds:=[.sl (Is z21),.sl (Its z22)]) rfl Ar Ah) ?_
   refine stn ?_ Ah (by decide)
   refine ar [4,5] ?_;refine .ret ?_
   cases h
   exact ⟨_,_,⟨.inr rfl,Ar,Ah,(by decide:(0:Nat)<2)⟩,rfl,rfl⟩
  replace h:=Ae hc h
  refine cnt (ntt (bf hc)) ?_;refine .sr ?_;refine vk (vbd EA A4 Bh) ?_
  refine stn ?_ Ah (by decide)
  refine ar [4,5,8] ?_;refine .ret ?_
  cases h
  exact ⟨_,_,⟨.inr rfl,Ar,Ah,(by decide:(0:Nat)<2)⟩,rfl,rfl⟩
 replace h:=Ae hc h
 refine cnt (ntt (dF hc)) ?_;refine .sr ?_;refine vk (vbd EA A4 Bh) ?_;refine vk (Aa) ?_
 refine stn ?_ Ah (by decide)
 refine ar [0,1,4,5,6] ?_;refine .ret ?_
 cases h
 exact ⟨_,_,⟨.inr rfl,Ar,Ah,(by decide:(0:Nat)<2)⟩,rfl,rfl⟩
def BA (a0 : Arr) : Option (Itm):=((Bq a0).bind fun x1=>(if x1=true then ((CJ a0).bind fun x2=>(if x2=true then ((rd? a0.items 0).bind fun x3=>((FT x3).bind fun x4=>(some (x4)))) else ((Cq a0 (⟨.fn 173 [] [],fun x=>FT x⟩ : Cc)).bind fun x5=>(some ((Itm.mk 3 (false,[],[]) 0 [x5])))))) else (some ((Itm.mk 0 (false,[],[]) 0 [])))))
theorem Hv {a0 : Arr} {r : Itm} (h : BA a0=some r) :
  Fn Tryz.prog 95 [.ag [.sl (Is a0.shape),.sl (Its a0.items)]] (.d (.ag [.i .u8 r.kind,.b r.num.1,.sl (L r.num.2.1),.sl (L r.num.2.2),.i .i32 r.char,.sl (Ars r.box)])):=by
 unfold BA at h
 refine Fn.ofC (rs:=[.cell 2 83]) (nt:=20) Tryz.func95 rfl rfl rfl (by simp) rfl ?_;refine .sr ?_;refine vk (vbx) ?_;refine vk (van (Ag BN) BW) ?_;refine rk [1,2] ?_;refine .seq ?_;refine .block ?_;refine .sr ?_;refine vk (Ao Ar Ah) ?_
 obtain ⟨x1,hx1,h⟩:=bnd h
 refine vk (Af (B7 hx1) Tryz.call13) ?_;refine vk (vnt) ?_;refine ar [1,2,3] ?_
 by_cases hc:x1=true
 ·replace h:=Ad hc h
  refine cnf (ntf hc) ?_;refine .sr ?_;refine vk (Ao Ar Ah) ?_
  obtain ⟨x2,hx2,h⟩:=bnd h
  refine vk (Af (EU hx2) Tryz.call172) ?_;refine ar [1,2,8] ?_
  by_cases hc:x2=true
  ·replace h:=Ad hc h
   refine cnt hc ?_;refine .sr ?_;refine vk (vfa AH) ?_;refine vk (Am BD) ?_
   obtain ⟨x3,hx3,h⟩:=bnd h
   obtain ⟨nx3,hnx3,hxx3⟩:=AI hx3
   refine vk (vix nx3 hnx3 (Dn hxx3) rfl Dj) ?_;refine vk (Ao AM Aw) ?_
   obtain ⟨x4,hx4,h⟩:=bnd h
   refine vk (Af (Gd hx4) Tryz.call173) ?_
   refine stn ?_ Aw (by decide)
   refine rk [1,2] ?_;refine .ret ?_
   cases h
   exact ⟨_,⟨.inr rfl,AM,Aw,(by decide:(0:Nat)<6)⟩,rfl⟩
  replace h:=Ae hc h
  refine cnf (bf hc) ?_;refine .skip ?_
  show AW _ _ _ _ _ _
  refine .sr ?_;refine vk (Ao Ar Ah) ?_
  obtain ⟨x5,hx5,h⟩:=bnd h
  refine vk (Af (En (Cp Tryz.call173 (fun _ _ h=>Gd h)) hx5) Tryz.call174) ?_;refine vk ((Gv (Mn x5) (Kk [x5]) Lr).deep) ?_;refine vk (vbd GT BN BW) ?_
  refine stn ?_ Aw (by decide)
  refine rk [2] ?_;refine .ret ?_
  cases h
  exact ⟨_,⟨.inr rfl,AM,Aw,(by decide:(0:Nat)<6)⟩,rfl⟩
 replace h:=Ae hc h
 refine cnt (ntt (bf hc)) ?_;refine .sr ?_;refine vk (vbd GT BN BW) ?_
 refine stn ?_ Aw (by decide)
 refine rk [1,2] ?_;refine .ret ?_
 cases h
 exact ⟨_,⟨.inr rfl,AM,Aw,(by decide:(0:Nat)<6)⟩,rfl⟩
def Et (a0 : Itm) : Option (Arr):=((EL a0).bind fun x1=>(if x1=true then (if a0.kind=3 then ((rd? a0.box 0).bind fun x2=>((Cq x2 (⟨.fn 173 [] [],fun x=>FT x⟩ : Cc)).bind fun x3=>(some (x3)))) else ((FT a0).bind fun x4=>((F7 x4).bind fun x5=>(some (x5))))) else (some ((Arr.mk [] [])))))
theorem Jv {a0 : Itm} {r : Arr} (h : Et a0=some r) :
  Fn Tryz.prog 194 [.ag [.i .u8 a0.kind,.b a0.num.1,.sl (L a0.num.2.1),.sl (L a0.num.2.2),.i .i32 a0.char,.sl (Ars a0.box)]] (.d (.ag [.sl (Is r.shape),.sl (Its r.items)])):=by
 unfold Et at h
 refine Fn.ofC (rs:=[.cell 2 25]) (nt:=20) Tryz.func194 rfl rfl rfl (by simp) rfl ?_;refine .sr ?_;refine vk (vbx) ?_;refine vk (van (Ag A4) Bh) ?_;refine rk [1,2] ?_;refine .seq ?_;refine .block ?_;refine .sr ?_;refine vk (Ao AM Aw) ?_
 obtain ⟨x1,hx1,h⟩:=bnd h
 refine vk (Af (IR hx1) Tryz.call181) ?_;refine vk (vnt) ?_;refine ar [1,2,3] ?_
 by_cases hc:x1=true
 ·replace h:=Ad hc h
  refine cnf (ntf hc) ?_;refine .sr ?_;refine vk (vfa Bv) ?_;refine vk (Am AS) ?_;refine vk (vbi) ?_;refine ar [1,2,8] ?_
  by_cases hc:a0.kind=3
  ·replace h:=Ad hc h
   refine cnt (dT hc) ?_;refine .sr ?_;refine vk (vfa A7) ?_;refine vk (Am B8) ?_
   obtain ⟨x2,hx2,h⟩:=bnd h
   obtain ⟨nx2,hnx2,hxx2⟩:=AI hx2
   refine vk (vix nx2 hnx2 (EV hxx2) rfl E0) ?_;refine vk (Ao Ar Ah) ?_
   obtain ⟨x3,hx3,h⟩:=bnd h
   refine vk (Af (En (Cp Tryz.call173 (fun _ _ h=>Gd h)) hx3) Tryz.call174) ?_
   refine stn ?_ Ah (by decide)
   refine rk [1,2] ?_;refine .ret ?_
   cases h
   exact ⟨_,⟨.inr rfl,Ar,Ah,(by decide:(0:Nat)<2)⟩,rfl⟩
  replace h:=Ae hc h
  refine cnf (dF hc) ?_;refine .skip ?_
  show AW _ _ _ _ _ _
  refine .sr ?_;refine vk (Ao AM Aw) ?_
  obtain ⟨x4,hx4,h⟩:=bnd h
  refine vk (Af (Gd hx4) Tryz.call173) ?_
  obtain ⟨x5,hx5,h⟩:=bnd h
  refine vk (Af (Ib hx5) Tryz.call70) ?_
  refine stn ?_ Ah (by decide)
  refine rk [2] ?_;refine .ret ?_
  cases h
  exact ⟨_,⟨.inr rfl,Ar,Ah,(by decide:(0:Nat)<2)⟩,rfl⟩
 replace h:=Ae hc h
 refine cnt (ntt (bf hc)) ?_;refine .sr ?_;refine vk (vbd EA A4 Bh) ?_
 refine stn ?_ Ah (by decide)
 refine rk [1,2] ?_;refine .ret ?_
 cases h
 exact ⟨_,⟨.inr rfl,Ar,Ah,(by decide:(0:Nat)<2)⟩,rfl⟩
def chB (c : Int) : Bool:=decide (0≤c) && (decide (c≤1114111) && (decide (c<55296) || decide (57343<c)))
theorem T9 (c : Int) : FX c=some (chB c):=rfl
def AJ (a : Arr) : Bool:=a.shape.isEmpty && match a.items with
 | [x]=>decide (x.kind ≠ 3)
 | _=>false
theorem Im (a : Arr) : CJ a=some (AJ a):=by
 unfold CJ AJ
 cases hs:a.shape with
 | nil =>
  rw [if_pos (by simp)]
  match hi:a.items with
  | []=>rw [if_neg (by simp)];rfl
  | [x]=>rw [if_pos (by simp),MZ];simp
  | x::y::r=>rw [if_neg (by simp;omega)];rfl
 | cons z zs=>rw [if_neg (by simp;omega)];rfl
mutual
def rI : Itm→Bool
 | .mk k n c b=>if k=1 then (A8 n && (decide (c=0) && decide (b.length=0))) else if k=2 then (chB c && (Di (.mk k n c b) && decide (b.length=0))) else if k=3 then (decide (b.length=1) && (Di (.mk k n c b) && (decide (c=0) && rBs b))) else false
def rA : Arr→Bool
 | .mk s i=>decide ((szP s).2=0) && (decide ((i.length:Int)=if (szP s).1<1 then 1 else (szP s).1) && rIs i)
def rIs : List Itm→Bool
 | []=>true
 | x::xs=>rI x && rIs xs
def rBs : List Arr→Bool
 | []=>true
 | a::r=>(!AJ a && rA a) && rBs r
end
mutual
def cI : Itm→Nat
 | .mk _ _ _ b=>cBs b
def cA : Arr→Nat
 | .mk _ i=>i.length+cIs i
def cIs : List Itm→Nat
 | []=>0
 | x::xs=>cI x+cIs xs
def cBs : List Arr→Nat
 | []=>0
 | a::r=>cA a+cBs r
end
mutual
def dI : Itm→Nat
 | .mk _ _ _ b=>dBs b
def dA : Arr→Nat
 | .mk s i=>if AJ (.mk s i) then 0 else 1+dIs i
def dIs : List Itm→Nat
 | []=>0
 | x::xs=>max (dI x) (dIs xs)
def dBs : List Arr→Nat
 | []=>0
 | a::r=>max (dA a) (dBs r)
end
theorem NC (x : Itm) : rI x=if x.kind=1 then (A8 x.num && (decide (x.char=0) && decide (x.box.length=0))) else if x.kind=2 then (chB x.char && (Di x && decide (x.box.length=0))) else if x.kind=3 then (decide (x.box.length=1) && (Di x && (decide (x.char=0) && rBs x.box))) else false:=by
 cases x;simp only [rI];rfl
theorem LU (a : Arr) : rA a=(decide ((szP a.shape).2=0) && (decide ((a.items.length : Int)=if (szP a.shape).1<1 then 1 else (szP a.shape).1) && rIs a.items)):=by cases a;simp only [rA];rfl
theorem MS (a : Arr) : cA a=a.items.length+cIs a.items:=by cases a;simp only [cA];rfl
theorem KC (x : Itm) : cI x=cBs x.box:=by cases x;simp only [cI];rfl
theorem Nu (a : Arr) : dA a=if AJ a then 0 else 1+dIs a.items:=by cases a;simp only [dA];rfl
theorem LR (x : Itm) : dI x=dBs x.box:=by cases x;simp only [dI];rfl
def up (d deep n : Nat) : Nat:=if n=0 then d else max d (deep+n)
theorem Y0 (d deep n m : Nat) : up (up d deep n) deep m=up d deep (max n m):=by unfold up;split <;> split <;> split <;> omega
theorem YL {d deep n : Nat} (h : d≤16) (h2 : deep+n≤16) : up d deep n≤16:=by unfold up;split <;> omega
def PG (f : Int→Int→Int→Option M3) (r : Bool) (n dp : Nat) : Prop:=∀ deep c d : Nat,deep≤16→c≤16384→d≤16 →
 (r=true→deep+dp≤16→c+n≤16384→f deep c d=some (true,((c+n:Nat):Int),((up d deep dp:Nat):Int))) ∧
 (¬ (r=true∧deep+dp≤16∧c+n≤16384)→∃ z,f deep c d=some (false,z))
theorem Nz (x : Itm) : Di x=true↔x.num=(false,[],[]):=by
 unfold Di
 simp only [Bool.and_eq_true,Bool.not_eq_true',decide_eq_true_eq]
 constructor
 ·rintro ⟨h1,h2,h3⟩
  exact Prod.ext h1 (Prod.ext (List.length_eq_zero_iff.1 (by omega)) (List.length_eq_zero_iff.1 (by omega)))
 ·intro h;rw [h];simp
theorem OC {rc : Arr→Int→Int→Int→Option M3} {x : Itm} (hx : okI x) (hrc : ∀ a ∈ x.box,PG (rc a) (rA a) (cA a) (dA a)) : PG (NS rc x) (rI x) (cI x) (dI x):=by
 have ox:=(Dp x).1 hx
 intro deep c d h1 h2 h3
 unfold NS
 rw [NC,KC,LR]
 have e0:(((x.box.length:Nat):Int)=0)↔x.box.length=0:=by omega
 have e1:(((x.box.length:Nat):Int)=1)↔x.box.length=1:=by omega
 by_cases k1:x.kind=1
 ·rw [if_pos k1,if_pos k1,Rg ox.2.1,oB]
  simp only [e0]
  by_cases hb:x.box.length=0
  ·have:x.box=[]:=List.length_eq_zero_iff.1 hb
   rw [this]
   simp only [cBs,dBs,List.length_nil,decide_true,Bool.and_true,Nat.add_zero]
   refine ⟨fun hr _ _=>by rw [hr];rfl,fun hn=>?_⟩
   have:(A8 x.num && decide (x.char=0))=false:=by
    cases hq:(A8 x.num && decide (x.char=0)) with
    | false=>rfl
    | true=>exact absurd ⟨hq,h1,h2⟩ hn
   rw [this];exact ⟨_,rfl⟩
  ·simp only [hb,decide_false,Bool.and_false]
   exact ⟨fun h=>by simp at h,fun _=>⟨_,rfl⟩⟩
 rw [if_neg k1,if_neg k1]
 by_cases k2:x.kind=2
 ·rw [if_pos k2,if_pos k2,T9,oB]
  simp only [e0]
  by_cases hb:x.box.length=0
  ·have:x.box=[]:=List.length_eq_zero_iff.1 hb
   rw [this]
   simp only [cBs,dBs,List.length_nil,decide_true,Bool.and_true,Nat.add_zero]
   refine ⟨fun hr _ _=>by rw [hr];rfl,fun hn=>?_⟩
   have:(chB x.char && Di x)=false:=by
    cases hq:(chB x.char && Di x) with
    | false=>rfl
    | true=>exact absurd ⟨hq,h1,h2⟩ hn
   rw [this];exact ⟨_,rfl⟩
  ·simp only [hb,decide_false,Bool.and_false]
   exact ⟨fun h=>by simp at h,fun _=>⟨_,rfl⟩⟩
 rw [if_neg k2,if_neg k2]
 by_cases k3:x.kind=3
 ·rw [if_pos k3,if_pos k3]
  simp only [e1]
  by_cases hb:x.box.length=1
  rotate_left
  ·rw [if_neg hb];simp only [hb,decide_false,Bool.false_and]
   exact ⟨fun h=>by simp at h,fun _=>⟨_,rfl⟩⟩
  rw [if_pos hb]
  by_cases hn:Di x=true
  rotate_left
  ·rw [if_neg hn];simp only [hn,hb,decide_true,Bool.true_and,Bool.false_and]
   exact ⟨fun h=>by simp at h,fun _=>⟨_,rfl⟩⟩
  rw [if_pos hn]
  by_cases hc:x.char=0
  rotate_left
  ·rw [if_neg hc];simp only [hn,hb,hc,decide_true,decide_false,Bool.true_and,Bool.false_and]
   exact ⟨fun h=>by simp at h,fun _=>⟨_,rfl⟩⟩
  rw [if_pos hc]
  obtain ⟨a,ha⟩:∃ a,x.box=[a]:=List.length_eq_one_iff.1 hb
  have hm:=hrc a (by rw [ha];simp)
  rw [ha,MZ,oB,Im,oB]
  simp only [hn,hc,decide_true,Bool.true_and,rBs,cBs,dBs,Bool.and_true,Nat.add_zero,Nat.max_zero,List.length_cons,List.length_nil]
  by_cases hs:AJ a=true
  ·rw [if_pos hs];simp only [hs]
   exact ⟨fun h=>by simp at h,fun _=>⟨_,rfl⟩⟩
  rw [if_neg hs,oB]
  have hs':AJ a=false:=by simpa using hs
  simp only [hs',Bool.not_false,Bool.true_and]
  obtain ⟨m1,m2⟩:=hm deep c d h1 h2 h3
  refine ⟨fun hr g1 g2=>by rw [m1 hr g1 g2];rfl,fun hn=>?_⟩
  obtain ⟨z,hz⟩:=m2 hn
  exact ⟨z,by rw [hz];rfl⟩
 ·rw [if_neg k3,if_neg k3]
  exact ⟨fun h=>by simp at h,fun _=>⟨_,rfl⟩⟩
theorem MX {rc : Arr→Int→Int→Int→Option M3} : ∀ {xs : List Itm},(∀ x ∈ xs,PG (NS rc x) (rI x) (cI x) (dI x))→PG (fun deep c d=>KL rc deep xs c d) (rIs xs) (cIs xs) (dIs xs)
 | [],_=>fun deep c d h1 h2 h3=>by
  simp only [KL,rIs,cIs,dIs]
  exact ⟨fun _ _ _=>rfl,fun h=>absurd ⟨trivial,h1,h2⟩ h⟩
 | x::xs,hx=>fun deep c d h1 h2 h3=>by
  obtain ⟨m1,m2⟩:=hx x (by simp) deep c d h1 h2 h3
  have ih:=MX (xs:=xs) fun y hy=>hx y (by simp [hy])
  simp only [KL,rIs,cIs,dIs]
  by_cases hc:rI x=true∧deep+dI x≤16∧c+cI x≤16384
  ·obtain ⟨p1,p2,p3⟩:=hc
   rw [m1 p1 p2 p3,oB,if_pos rfl,p1,Bool.true_and]
   obtain ⟨n1,n2⟩:=ih deep (c+cI x) (up d deep (dI x)) h1 p3 (YL h3 p2)
   refine ⟨fun hr g1 g2=>?_,fun hn=>n2 fun ⟨q1,q2,q3⟩=>hn ⟨q1,by omega,by omega⟩⟩
   have:=n1 hr (by omega) (by omega)
   rw [Y0,Nat.add_assoc] at this
   exact this
  ·obtain ⟨z,hz⟩:=m2 hc
   rw [hz,oB,if_neg (by simp)]
   refine ⟨fun hr g1 g2=>absurd ⟨?_,by omega,by omega⟩ hc,fun _=>⟨_,rfl⟩⟩
   simp only [Bool.and_eq_true] at hr;exact hr.1
theorem Km {a : Arr} (hs : AJ a=true) (hr : rIs a.items=true) : dIs a.items=0∧cIs a.items=0:=by
 unfold AJ at hs
 rw [Bool.and_eq_true] at hs
 match hi:a.items,hs.2 with
 | [x],h2 =>
  rw [hi] at hr
  simp only [rIs,Bool.and_true] at hr
  rw [NC] at hr
  have h3:x.kind ≠ 3:=by simpa using h2
  have hb:x.box=[]:=by
   by_cases k1:x.kind=1
   ·rw [if_pos k1] at hr;simp only [Bool.and_eq_true,decide_eq_true_eq] at hr;exact List.length_eq_zero_iff.1 hr.2.2
   rw [if_neg k1] at hr
   by_cases k2:x.kind=2
   ·rw [if_pos k2] at hr;simp only [Bool.and_eq_true,decide_eq_true_eq] at hr;exact List.length_eq_zero_iff.1 hr.2.2
   rw [if_neg k2,if_neg h3] at hr;cases hr
  simp [dIs,cIs,LR,KC,hb,dBs,cBs]
theorem We {rc : Arr→Int→Int→Int→Option M3} {a : Arr} (ha : okAr a) (hx : ∀ x ∈ a.items,PG (NS rc x) (rI x) (cI x) (dI x)) : PG (VP rc a) (rA a) (cA a) (dA a):=by
 have oa:=(Bo a).1 ha
 intro deep c d h1 h2 h3
 have hl:=HN a.shape
 unfold VP
 rw [Jh oa.2.1,oB,LU,MS,Nu]
 by_cases e1:(szP a.shape).2=0
 rotate_left
 ·rw [if_neg e1];simp only [e1,decide_false,Bool.false_and]
  exact ⟨fun h=>by simp at h,fun _=>⟨_,rfl⟩⟩
 rw [if_pos e1]
 by_cases e2:(a.items.length:Int)=if (szP a.shape).1<1 then 1 else (szP a.shape).1
 rotate_left
 ·rw [if_neg e2];simp only [e1,e2,decide_true,decide_false,Bool.true_and,Bool.false_and]
  exact ⟨fun h=>by simp at h,fun _=>⟨_,rfl⟩⟩
 rw [if_pos e2]
 have hlen:a.items.length≤4096:=by
  split at e2 <;> omega
 simp only [e1,decide_true,Bool.true_and]
 rw [dT e2,Bool.true_and]
 have hw:w64 ((c:Int)+((a.items.length:Nat):Int))=((c+a.items.length:Nat):Int):=by rw [Fb (by omega) (by omega)];omega
 rw [hw]
 by_cases e3:(16384:Int)<((c+a.items.length:Nat):Int)
 ·rw [if_pos e3]
  exact ⟨fun _ _ _=>by omega,fun _=>⟨_,rfl⟩⟩
 rw [if_neg e3,Im,oB]
 have hi:=MX hx
 by_cases hs:AJ a=true
 ·simp only [if_pos hs]
  rw [if_pos (show (deep:Int)≤16 by omega)]
  obtain ⟨m1,m2⟩:=hi deep (c+a.items.length) d h1 (by omega) h3
  refine ⟨fun hr g1 g2=>?_,fun hn=>m2 fun ⟨q1,q2,q3⟩=>hn ⟨q1,by omega,by omega⟩⟩
  obtain ⟨s1,s2⟩:=Km hs hr
  have:=m1 hr (by omega) (by omega)
  rw [s1,Nat.add_assoc] at this
  exact this
 simp only [if_neg hs]
 have hw2:w64 ((deep:Int)+1)=((deep+1:Nat):Int):=by rw [Fb (by omega) (by omega)];omega
 rw [hw2]
 have hmx:(if (d:Int)<((deep+1:Nat):Int) then ((deep+1:Nat):Int) else (d:Int))=((max d (deep+1):Nat):Int):=by split <;> omega
 rw [hmx]
 by_cases e4:((deep+1:Nat):Int)≤16
 rotate_left
 ·rw [if_neg e4]
  exact ⟨fun _ _ _=>by omega,fun _=>⟨_,rfl⟩⟩
 rw [if_pos e4]
 obtain ⟨m1,m2⟩:=hi (deep+1) (c+a.items.length) (max d (deep+1)) (by omega) (by omega) (by omega)
 refine ⟨fun hr g1 g2=>?_,fun hn=>m2 fun ⟨q1,q2,q3⟩=>hn ⟨q1,by omega,by omega⟩⟩
 have:=m1 hr (by omega) (by omega)
 have hup:up (max d (deep+1)) (deep+1) (dIs a.items)=up d deep (1+dIs a.items):=by unfold up;split <;> split <;> omega
 rw [hup,Nat.add_assoc] at this
 exact this
theorem Nq : ∀ (k : Nat) {a : Arr},a.size<k→okAr a→PG (M1 k a) (rA a) (cA a) (dA a)
 | 0,a,h,_=>by omega
 | k+1,a,h,ha=>by
  have oa:=(Bo a).1 ha
  have:=We (rc:=M1 k) ha fun x hx=>OC (oa.2.2.2 x hx) fun b hb=>Nq k (by have:=Fq hx;have:=Ee hb;omega) (((Dp x).1 (oa.2.2.2 x hx)).2.2.2.2 b hb)
  intro deep c d h1 h2 h3
  simp only [M1]
  rw [if_pos (by omega)]
  exact this deep c d h1 h2 h3
theorem Rj {a : Arr} (ha : okAr a) : PG (mAr a) (rA a) (cA a) (dA a):=Nq _ (Nat.lt_succ_self _) ha
theorem VQ {x : Itm} (hx : okI x) : PG (mIt x) (rI x) (cI x) (dI x):=OC hx fun a ha=>Rj (((Dp x).1 hx).2.2.2.2 a ha)
def AT (a : Arr) : Prop:=rA a=true∧dA a≤16∧cA a≤16384
def BC (x : Itm) : Prop:=rI x=true∧dI x≤16∧cI x≤16384
instance (a : Arr) : Decidable (AT a):=by unfold AT;infer_instance
instance (x : Itm) : Decidable (BC x):=by unfold BC;infer_instance
theorem LP {a : Arr} (ha : okAr a) : E6 a=some (if AT a then (((cA a : Nat) : Int),((dA a : Nat) : Int)) else (0,0),decide (AT a)):=by
 obtain ⟨m1,m2⟩:=Rj ha 0 0 0 (by omega) (by omega) (by omega)
 unfold E6
 by_cases h:AT a
 ·have:=m1 h.1 (by have:=h.2.1;omega) (by have:=h.2.2;omega)
  rw [show ((0:Nat):Int)=0 from rfl] at this
  rw [this,if_pos h,dT h]
  have hu:up 0 0 (dA a)=dA a:=by unfold up;split <;> omega
  simp [hu]
 ·obtain ⟨z,hz⟩:=m2 fun ⟨q1,q2,q3⟩=>h ⟨q1,by omega,by omega⟩
  rw [show ((0:Nat):Int)=0 from rfl] at hz
  rw [hz,if_neg h,dF h];rfl
theorem Hq {a : Arr} (ha : okAr a) : Bq a=some (decide (AT a)):=by unfold Bq;rw [LP ha,oB]
theorem VZ {a : Arr} (ha : okAr a) : FA a=some (if AT a then ((cA a : Nat) : Int) else 0):=by
 unfold FA;rw [LP ha,oB];split <;> rfl
theorem J6 {x : Itm} (hx : okI x) : EL x=some (decide (BC x)):=by
 obtain ⟨m1,m2⟩:=VQ hx 0 0 0 (by omega) (by omega) (by omega)
 unfold EL
 by_cases h:BC x
 ·have:=m1 h.1 (by have:=h.2.1;omega) (by have:=h.2.2;omega)
  rw [show ((0:Nat):Int)=0 from rfl] at this
  rw [this,dT h];rfl
 ·obtain ⟨z,hz⟩:=m2 fun ⟨q1,q2,q3⟩=>h ⟨q1,by omega,by omega⟩
  rw [show ((0:Nat):Int)=0 from rfl] at hz
  rw [hz,dF h];rfl
def KI (op : Rat→Rat→Rat) : Rat→List Rat→RT × Int
 | s,[]=>(ofQ s,0)
 | s,p::ps=>if ES (op s p) then KI op (op s p) ps else bad 8
theorem O8 {op : Q3→Q3→Q3} {opR : Rat→Rat→Rat} (hop : ∀ x y : Q3,x.2.2 ≠ 0→y.2.2 ≠ 0→HT (op x y)=opR (HT x) (HT y)∧(op x y).2.2 ≠ 0) : ∀ (l : List Rat) (s : Rat),
  NJ (JZ op (q3 s) (l.map ofQ))=KI opR s l
 | [],s=>rfl
 | p::l,s=>by
  rw [List.map_cons,JZ,KI,YN]
  obtain ⟨h1,h2⟩:=hop (q3 s) (q3 p) (Wi s) (Wi p)
  rw [show Uj (op (q3 s) (q3 p))=V4 (HT (op (q3 s) (q3 p))) from U4 h2,h1,Tf,Tf]
  by_cases h:ES (opR s p)
  ·rw [show V4 (opR s p)=.ok (q3 (opR s p)) from if_pos h,if_pos h]
   exact O8 hop l _
  ·rw [show V4 (opR s p)=.error 8 from if_neg h,if_neg h]
   rfl
theorem OJ {ps : List Rat} (h : ∀ p ∈ ps,ES p) : (ps.map ofQ).all A8=true:=by
 rw [List.all_map,List.all_eq_true];intro p hp;exact E7 (h p hp)
theorem Uo {ps : List Rat} (h : ∀ p ∈ ps,ES p) : (ps.map ofQ).all GH=true:=by
 rw [List.all_map,List.all_eq_true];intro p hp;exact Hr (h p hp)
theorem Wo : q3 0=(false,0,1):=rfl
theorem Yu : q3 1=(false,1,1):=rfl
theorem XI {ps : List Rat} (h : ∀ p ∈ ps,ES p) (hl : ps.length≤1048576) : LD (ps.map ofQ)=some (KI (·+·) 0 ps):=by
 have:LD (ps.map ofQ)=some (NJ (T8 (ps.map ofQ))):=if_pos (by rw [Uo h,Bool.true_and];exact dT (by simpa using hl))
 rw [this,T8,if_pos (OJ h),← Wo,O8 (opR:=(·+·)) fun x y=>T4]
theorem YJ {ps : List Rat} (h : ∀ p ∈ ps,ES p) (hl : ps.length≤1048576) : JA (ps.map ofQ)=some (KI (· * ·) 1 ps):=by
 have:JA (ps.map ofQ)=some (NJ (Tv (ps.map ofQ))):=if_pos (by rw [Uo h,Bool.true_and];exact dT (by simpa using hl))
 rw [this,Tv,if_pos (OJ h),← Yu,O8 (opR:=(· * ·)) fun x y=>RM]
theorem Yk {p q : Rat} (hp : ES p) (hq : ES q) : LD [ofQ p,ofQ q]=some (Ru (p+q)):=by
 have:=XI (ps:=[p,q]) (by simp [hp,hq]) (by simp)
 rw [show [p,q].map ofQ=[ofQ p,ofQ q] from rfl] at this
 rw [this]
 simp only [KI,Rat.zero_add,if_pos hp,Ru]
theorem Yq {p q : Rat} (hp : ES p) (hq : ES q) : JA [ofQ p,ofQ q]=some (Ru (p * q)):=by
 have:=YJ (ps:=[p,q]) (by simp [hp,hq]) (by simp)
 rw [show [p,q].map ofQ=[ofQ p,ofQ q] from rfl] at this
 rw [this]
 simp only [KI,Rat.one_mul,if_pos hp,Ru]
end Go.FL
namespace Go.FL
open Go Go.RowKit
section
variable {P : Program} {C : Cx} {X : Snap} {o : Oper} {ops : Array Oper} {Q : Exit→Env→Aj→Prop} {env env' : Env} {H H' : Aj} {a : Act} {w w' : World} {I I' : Nat→Prop} {μ μ' : List Nat} {O O' : Nat→Option Loc}
 {K:Env→Aj→Prop} {k:Nat} {l:List Oper}
theorem WZ {blk : Nat} {u0 u1 v0 v1 : Value} {e : TypeId} (h : w.heap[blk]?=some (.cells #[u0,u1] e (0,0))) : w.setRow blk #[v0,v1]=(w.setCell ⟨blk,0,none⟩ v0).setCell ⟨blk,1,none⟩ v1:=by
 obtain ⟨hlt,hv⟩:=Array.getElem?_eq_some_iff.1 h
 have e1:w.heap.modify blk (fun | .cells _ elem frozen=>.cells #[v0,v1] elem frozen | o=>o)=(w.heap.modify blk (fun | .cells c elem frozen=>.cells (c.setIfInBounds 0 v0) elem frozen | o=>o)).modify blk (fun | .cells c elem frozen=>.cells (c.setIfInBounds 1 v1) elem frozen | o=>o):=by
  apply Array.ext
  ·simp
  ·intro i h1 h2
   simp only [Array.getElem_modify]
   by_cases hi:blk=i
   ·subst hi;simp only [if_true,hv];simp
   ·simp only [if_neg hi]
 unfold World.setRow World.setCell
 simp only [Option.isSome_none,Bool.false_eq_true,if_false]
 exact congrArg (fun x=>({ w with heap:=x }:World)) e1
theorem bdo {ty s t e : Nat} {parts : Array (Nat × Operand)} {places : List (Nat × Nat)} {z : Value} {xs : List DV} (hp : CZ P ty=some places) (hz : (P.info? ty).bind (·.zero)=some z) (hzr : z=.agg #[.slice none 0 0,.slice none 0 0]) (h : RL P C ops Q (k+1) l ((t,.ag [.own e xs,.nl])::(s,.un)::env) H)
  (hpl:places=[(0,1),(1,1)]:=by rfl) (hg:grd ops env o true=true:=by rfl) (ho:o.op=.build ty parts:=by rfl) (hpa:parts=#[(0,.tmp s)]:=by rfl) (hv:get env s=.own e xs:=by rfl) (hd:o.dst=some t:=by rfl)
  (hf:Aq (get env t)=false:=by rfl) (hr:Ds s env=false:=by rfl) (ht:okT C.nt t:=by rfl):RL P C ops Q k (o::l) env H:=by
 have hst:=E9 hv hf
 subst hpl hzr
 refine .go hg (.val (t:=t) (av:=.ag [.own e xs,.nl]) (env':=put env s .un) (H':=H) (by simp [ho]) hd ht (fun X a w I μ O _ _ _ hs=>?_) ?_)
 ·obtain ⟨k1,bs,k2,k3,k4⟩:=hs.take s (by rw [hv];rfl)
  rw [hv] at k2
  have hb:P.built ty [(0,a.tmps.getD s undef)]=some #[a.tmps.getD s undef,.slice none 0 0]:=by
   unfold CZ at hp
   unfold Program.built
   cases hi:P.info? ty with
   | none=>rw [hi] at hz;cases hz
   | some it =>
    rw [hi] at hz
    simp only [oB] at hz
    split at hp
    ·rename_i fields hu
     simp only [hu,hz,hp]
     have hone:∃ A n c,a.tmps.getD s undef=.slice A n c:=by
      generalize a.tmps.getD s undef=u at k2
      cases k2 with
      | own _ _ _ vs hsz ho' hr' =>
       rcases ho' with ⟨A,h1,_⟩ | ⟨_,g,cap,h1,_⟩ <;> exact ⟨_,_,_,h1⟩
     obtain ⟨A,n,c,hu3⟩:=hone
     rw [hu3]
     simp [Instr.fill,Value.cells]
    ·cases hp
  refine ⟨.agg #[a.tmps.getD s undef,.slice none 0 0],w,I,μ,_,?_,k1,bs,?_,k3,k4⟩
  ·simp only [execOp,ho,hpa,Sem.run_bind]
   have:=run_build (P:=P) w ty #[(0,a.tmps.getD s undef)] #[a.tmps.getD s undef,.slice none 0 0] (by simpa using hb)
   simp only [List.map_toArray,List.map_cons,List.map_nil,Act.eval]
   rw [this]
   simp only [Result.andThen_ok,Sem.run_pure]
  ·have:=ARep.ag (ARepAll.cons k2 (ARepAll.cons (.nl (P:=P) (w:=w) (I:=I) (μ:=μ)) .nil))
   simpa using this
 ·refine RL.gh (Gh.same fun q=>?_) h
  have h1:Aq (get (put env s .un) t)=false:=by rw [CM hr];simp [get,hst,hf]
  rw [An h1]
  simp only [get]
  split
  ·rfl
  ·rw [CM hr];rfl
theorem st2 {x : Operand} {r ty id : Nat} {c0 c1 a0 a1 : AV} (hH : H[id]?=some (.box [c0,c1])) (h : RL P C ops Q (k+1) l ((r,.un)::env) (H.set id (.box [a0,a1]))) (hsz : AF P ty=2) (hg : grd ops env o true=true:=by rfl)
  (ho:o.op=.store ty x (.tmp r):=by rfl) (hv:lk env x=.bp id 0:=by rfl) (hy:get env r=.ag [a0,a1]:=by rfl) (n0:Aq c0=false:=by rfl) (n1:Aq c1=false:=by rfl) (m0:one a0=true:=by rfl) (m1:one a1=true:=by rfl) (hd:o.dst=none:=by rfl) (h0:C.n0=0:=by rfl):RL P C ops Q k (o::l) env H:=by
 obtain ⟨h1,h2⟩:=AA hv (by simp)
 have hlt:id<H.length:=(List.getElem?_eq_some_iff.1 hH).1
 refine .go hg (.done (env':=put env r .un) (H':=H.set id (.box [a0,a1])) (by simp [ho]) hd (fun X a w I μ O _ g2 _ hs=>?_) ?_)
 ·obtain ⟨blk,hm,he⟩:=hs.bp h1 h2
  obtain ⟨k1,bs,k2,k3,k4⟩:=hs.take r (by rw [hy];rfl)
  rw [hy] at k2
  generalize hev:a.tmps.getD r undef=u at k2
  cases k2 with
  | @ag _ vs _ k2 =>
   cases k2 with
   | @cons _ v0 _ _ b0 b1' q0 k2 =>
    cases k2 with
    | @cons _ v1 _ _ b1 b2 q1 k2 =>
     cases k2
     rw [List.append_nil] at k3 k4
     obtain ⟨d0,d1,d2⟩:=List.nodup_append.1 k3
     obtain ⟨s1,⟨y1,w1⟩,f1⟩:=k1.storeC (off:=0) hH rfl hm (by omega) q0 d0 fun b hb=>k4 b (by simp [hb])
     rw [n0] at s1
     have e1:E3 H id 0 a0=H.set id (.box [a0,c1]):=by simp [E3,hH]
     rw [e1] at s1
     have hH1:(H.set id (.box [a0,c1]))[id]?=some (.box [a0,c1]):=List.getElem?_set_self hlt
     have q1':ARep P (w.setCell ⟨blk,0,none⟩ v0) I μ a1 v1 b1:=by
      obtain ⟨blk',bs',g1,⟨cells,et,g3,g4⟩,g5,_⟩:=k1.heap id _ hH
      rw [hm] at g1;cases g1
      have hOb:=(g5 (by omega)).2 blk (by simp)
      refine q1.keep (fun _ h=>h) (fun b hi=>heap_setCell_other w _ b v0 fun e=>?_) (fun _ _ h=>h) fun b hb=>heap_setCell_other w _ b v0 fun e=>?_
      ·have e':b=blk:=e
       subst e';exact (k1.own _ _ hOb).2 hi
      ·have e':b=blk:=e
       subst e'
       have h7:(O b).map (toR r)=some .r:=k4 b (by simp [hb])
       have h8:(O b).map (toR r)=some (.o id):=hOb
       rw [h7] at h8;cases h8
     obtain ⟨s2,⟨y2,w2⟩,f2⟩:=s1.storeC (off:=1) hH1 rfl hm (by omega) q1' d1 fun b hb=>by
      show (if b ∈ b0 then _ else _)=_
      rw [if_neg fun hm=>d2 b hm b hb rfl];exact k4 b (by simp [hb])
     rw [n1] at s2
     have e2:E3 (H.set id (.box [a0,c1])) id 1 a1=H.set id (.box [a0,a1]):=by simp [E3,hH1]
     rw [e2] at s2
     refine ⟨_,I,μ,_,?_,s2⟩
     obtain ⟨blk',bs',g1,⟨cells,et,g3,g4⟩,g5,_⟩:=k1.heap id _ hH
     rw [hm] at g1;cases g1
     have hcl:cells.toList.length=2:=g4.length.symm
     obtain ⟨u0,u1,hcc⟩:∃ u0 u1,cells=#[u0,u1]:=by
      obtain ⟨l⟩:=cells
      match l,hcl with
      | [x,y],_=>exact ⟨x,y,rfl⟩
     rw [hcc] at g3
     have hone0:=HU q0 m0
     have hone1:=HU q1 m1
     obtain ⟨i,i1,i2⟩:=Jk (P:=P) (t:=ty) (by omega)
     have hsi:(P.info? ty).map (·.size)=some (#[v0,v1]:Array Value).size:=by rw [i1];simp;omega
     have hrun:=run_storeVar_row (P:=P) w blk et ty #[u0,u1] #[v0,v1] g3 hsi rfl (by simp [hone0,hone1])
     have hevr:a.eval (.tmp r)=.agg #[v0,v1]:=by show a.tmps.getD r undef=_;rw [hev]
     simp only [execOp,ho,he,hevr,Instr.storeAt,Instr.sureAddr,Sem.run_bind,Sem.run_pure,Result.andThen_ok,hrun]
     rw [WZ g3]
 ·refine RL.gh (Gh.same fun q=>?_) h
  rw [An (by rw [hy];rfl)]
section
variable {nt : Nat × Nat} {J : JT} {ags : List Value} {QJ : Exit→Env→Aj→Nat→Prop} {n : Nat}
end
end
end Go.FL
namespace Go.FL
open Go Go.Proofs
section
variable {S : Type}
end
def W5 (x : Itm) : DV:=.ag [.i .u8 x.kind,.b x.num.1,.sl (L x.num.2.1),.sl (L x.num.2.2),.i .i32 x.char,.sl (Ars x.box)]
def Iy : List Int→Option (List Itm)
 | []=>some []
 | n::ns=>(BR n).bind fun q=>(B5 q).bind fun x=>(Iy ns).bind fun xs=>some (x::xs)
theorem Qw : ∀ {l : List Int} {xs : List Itm},Iy l=some xs→xs.length=l.length∧∀ (i : Nat) n,l[i]?=some n→∃ q x,BR n=some q∧B5 q=some x∧xs[i]?=some x:=by
 intro l
 induction l with
 | nil=>intro xs h;cases h;exact ⟨rfl,fun i n hn=>by simp at hn⟩
 | cons m ns ih =>
  intro xs h
  rw [Iy] at h
  obtain ⟨q,hq,h⟩:=bnd h
  obtain ⟨x,hx,h⟩:=bnd h
  obtain ⟨ys,hy,h⟩:=bnd h
  cases h
  obtain ⟨h1,h2⟩:=ih hy
  refine ⟨by simp [h1],fun i n hn=>?_⟩
  cases i with
  | zero=>simp at hn;subst hn;exact ⟨q,x,hq,hx,rfl⟩
  | succ i=>simpa using h2 i n (by simpa using hn)
def itY (xs : List Itm) : List (List DV):=xs.map fun x=>[W5 x]
theorem XQ {xs : List Itm} {i : Nat} {x : Itm} (h : xs[i]?=some x) : (itY xs)[i]?=some [W5 x]:=by simp [itY,h]
set_option maxRecDepth 10000 in
theorem VC {l : List Int} {xs : List Itm} (h : Iy l=some xs) (hl : l.length≤9223372036854775806) (m : Nat) : ItG Tryz.prog 77 [.ptr [.sl (Is l)]] (itY xs) m:=by
 obtain ⟨hlen,hat⟩:=Qw h
 have hyl:(itY xs).length=l.length:=by simp [itY,hlen]
 refine ItG.of Tryz.func77 rfl rfl (nt:=18) rfl (by simp) fun lp J hJ hR=>?_;refine .seq ?_;refine .lift ?_;refine .region ?_;refine vk (Am CG) ?_;refine vk (Bk (A5 _) (Ef _) Ec) ?_;refine vk (Aa) ?_;refine .nil ?_
 show AWJ _ _ _ _ _ _ _ _ _
 refine .block ?_;refine ALJ.loop ?_;refine ALJ.gh (Gh.keep [0,5,6,7] rfl) ?_
 refine ALJ.ind (σ:=Nat) (m:=fun i=>l.length - i) (e:=fun i=>[(0,.d (.yl lp)),(5,.d (.sl (Is l))),(6,.d (.i .i64 ((List.length l:Nat):Int))),(7,.d (.i .i64 ((i:Nat):Int)))]) (h:=fun _=>[]) (r:=fun i=>i) (I:=fun i=>i≤l.length∧i≤m) ?_ 0 ⟨Nat.zero_le _,Nat.zero_le _⟩
 rintro i ⟨hi,him⟩ ih
 refine .seq ?_;refine .lift ?_;refine .region ?_;refine vk (vbi) ?_;refine .nil ?_
 show AWJ _ _ _ _ _ _ _ _ _
 refine .seq ?_
 by_cases hc:((i:Nat):Int)<((List.length l:Nat):Int)
 ·refine .cond (x:=true) (by show AV.d (.b (decide _))=_;rw [dT hc]) (fun _=>?_) (fun h=>by cases h)
  have hlt:i<l.length:=by omega
  obtain ⟨q,x,hq,hx,hxi⟩:=hat i _ (List.getElem?_eq_getElem hlt)
  refine .skip ?_
  show AWJ _ _ _ _ _ _ _ _ _
  refine .seq ?_;refine .block ?_;refine .seq ?_;refine .lift ?_;refine .region ?_;refine vk (vix i rfl (GJ (List.getElem?_eq_getElem hlt)) rfl E4) ?_;refine vk (Am Ca) ?_;refine asd ?_;refine .nil ?_
  show AWJ _ _ _ _ _ _ _ _ _
  refine .seq ?_;refine .region ?_;refine vkJ (Aa) ?_;refine vkJ (Aa) ?_;refine vkJ (Af (Bx hq) Tryz.call72) ?_;refine vkJ (Af (Em hx) Tryz.call71) ?_;refine yld (hR i [W5 x] (XQ hxi) him) hJ ?_;refine vkJ (vnt) ?_;refine .nil ?_
  show AWJ _ _ _ _ _ _ _ _ _
  by_cases hm:i<m
  ·refine .cond (x:=false) (by show AV.d (.b (!decide _))=_;rw [dT hm];rfl) (fun h=>by cases h) (fun _=>?_)
   refine .skip ?_
   show AWJ _ _ _ _ _ _ _ _ _
   refine .lift ?_;refine .region ?_;refine vk (vbi) ?_;refine vk (Aa) ?_;refine .nil ?_
   show ALJ _ _ _ _ _ _ _ _ _
   have hw:IntKind.wrap .i64 ((i:Int)+1)=((i+1:Nat):Int):=by simp only [IntKind.wrap,IntKind.bits,IntKind.signed];simp;omega
   rw [hw]
   refine ALJ.gh (Gh.keep [0,5,6,7] rfl) ?_
   exact ih (i+1) ⟨hlt,hm⟩ (by omega)
  ·refine .cond (x:=true) (by show AV.d (.b (!decide _))=_;rw [dF hm];rfl) (fun _=>?_) (fun h=>by cases h)
   refine .ret ?_
   exact ⟨.inr rfl,by rw [hyl];omega⟩
 ·refine .cond (x:=false) (by show AV.d (.b (decide _))=_;rw [dF hc]) (fun h=>by cases h) (fun _=>?_)
  refine .exit ?_
  exact ⟨.inl rfl,by rw [hyl];omega⟩
def QK (proto : Itm) (xs : List Itm) : Arr:=.mk [((min xs.length 4096 : Nat) : Int)] (if xs.length=0 then [proto] else xs.take 4096)
abbrev Zm (xs : List Itm) (n : Nat) : Aj:=[.box [.own 3 (Is [((n : Nat) : Int)]),.own 83 (Its (xs.take n))]]
theorem Xn : 0<AF Tryz.prog 83:=by rw [Pj];decide
set_option maxRecDepth 10000 in
set_option maxHeartbeats 4000000 in
theorem Uf {proto : Itm} {xs : List Itm} {f : FuncId} {caps : List DV} (hcall : ∀ args w,(callFunc f args).run Tryz.prog w=.ok (.enter f args) w) (hit : ItG Tryz.prog f caps (itY xs) 4096) :
  Fn Tryz.prog 76 [W5 proto,.fn f [] caps] (.d (.ag [.sl (Is (QK proto xs).shape),.sl (Its (QK proto xs).items)])):=by
 refine Fn.ofMA (rs:=[.cell 4 25]) (nt:=37) Tryz.func76 rfl rfl rfl (by simp) rfl ?_;refine .seqA ?_;refine .region ?_;refine vk (vbx (cs:=[.i .u8 proto.kind,.b proto.num.1,.sl (L proto.num.2.1),.sl (L proto.num.2.2),.i .i32 proto.char,.sl (Ars proto.box)])) ?_;refine vk (van (Ag A4) Bh) ?_;refine .nil ?_
 show AWM _ _ _ _ _ _
 refine .seqA ?_;refine .region ?_;refine vk (Gv (ds':=Is [0]) rfl (HX [0]) Jz) ?_;refine bdo EA A4 rfl ?_
 refine al ?_ (Ag A4) (fun w I μ=>Mz w I μ)
 refine st2 (c0:=.nl) (c1:=.nl) rfl ?_ Ah
 refine .nil ?_
 show AWM _ _ _ _ _ _
 refine .gh (Gh.keep [1,2,4,5] rfl) ?_;refine .gh (Gh.nlOwnC (id:=0) (off:=1) 83 Xn) ?_;refine .seq rfl ?_;refine .seqA ?_;refine .region ?_;refine vk (Aa) ?_;refine .nil ?_
 show AWM _ _ _ _ _ _
 refine .block ?_
 refine AWM.rangeFuncG (ps:=[10]) (f:=f) (caps:=caps) (ys:=itY xs) (m:=4096) (e1:=.exit 0) rfl rfl rfl hcall hit (fun ds hd=>?_) (fun p hp=>?_) rfl (fun k H=>H=Zm xs (min k 4096)) rfl (.inl ⟨0,rfl⟩) (fun l k ds H hk hkm hH=>?_) (fun H hH=>?_)
 ·simp only [itY,List.mem_map] at hd
  obtain ⟨x,_,rfl⟩:=hd;rfl
 ·simp only [List.mem_cons,List.not_mem_nil,or_false] at hp;subst hp;rfl
 ·subst hH
  simp only [itY,List.getElem?_map,Option.map_eq_some_iff] at hk
  obtain ⟨x,hx,rfl⟩:=hk
  rw [Nat.min_eq_left hkm]
  refine .region ?_;refine vk (van (Ag BN) BW) ?_
  refine stn ?_ Aw (by decide)
  refine .nil ?_
  show AW _ _ _ _ _ _
  refine .block ?_;refine .seq ?_;refine .seq ?_;refine .region ?_;refine vk (EM AY) ?_
  refine QU (cs:=[.own 3 (Is [((k:Nat):Int)]),.own 83 (Its (xs.take k))]) rfl rfl ?_ CG
  refine ixr (len:=1) (xs:=Is [((k:Nat):Int)]) 0 rfl (by decide) ?_ E4 (by decide)
  refine lde (xs:=Is [((k:Nat):Int)]) (.i .i64 ((k:Nat):Int)) ⟨_,rfl,rfl⟩ ?_ Ca
  refine vk (vbi) ?_;refine rn ?_
  by_cases hm:((k:Nat):Int)=4096
  ·refine cnt (dT hm) ?_
   refine .exit ?_
   have hk4:k=4096:=by omega
   subst hk4
   exact ⟨rfl,rfl⟩
  refine cnf (dF hm) ?_
  have hlt:k<4096:=by omega
  have hkl:k<xs.length:=(List.getElem?_eq_some_iff.1 hx).1
  refine .skip ?_
  show AW _ _ _ _ _ _
  refine .gh (Gh.keep [5,6] rfl) ?_;refine .seq ?_;refine .region ?_;refine vk (EM AH) ?_
  refine QU (cs:=[.own 3 (Is [((k:Nat):Int)]),.own 83 (Its (xs.take k))]) rfl rfl ?_ BD
  refine vk (D4 AM Aw) ?_;refine vk (Gv (F4 x) (EZ [x]) EQ) ?_
  have hap:ap? 1466015503701 (xs.take k) [x]=some (xs.take (k+1)):=by
   rw [ap?,if_pos (by simp;omega),List.take_add_one,hx];rfl
  refine Ui Kj hap rfl rfl Nj ?_ I7 AE EQ
  refine RL.gh (Gh.keep [5,6,20] rfl) ?_;refine vk (EM AH) ?_
  refine Ma (cs:=[.own 3 (Is [((k:Nat):Int)]),.un]) (c:=.un) rfl rfl ?_ Lp
  refine rn ?_;refine .gh (Gh.keep [5] rfl) ?_;refine .region ?_;refine vk (EM AY) ?_
  refine QU (cs:=[.own 3 (Is [((k:Nat):Int)]),.own 83 (Its (xs.take (k+1)))]) rfl rfl ?_ CG
  refine ixr (len:=1) (xs:=Is [((k:Nat):Int)]) 0 rfl (by decide) ?_ E4 (by decide)
  refine lde (xs:=Is [((k:Nat):Int)]) (.i .i64 ((k:Nat):Int)) ⟨_,rfl,rfl⟩ ?_ Ca
  refine vk (vbi) ?_
  refine ixr (len:=1) (xs:=Is [((k:Nat):Int)]) 0 rfl (by decide) ?_ E4 (by decide)
  refine ste (xs:=Is [((k:Nat):Int)]) ⟨_,rfl,rfl⟩ ?_ La (hn:=fun _ _ _=>Nat.zero_le _)
  refine .nil ?_
  have hw:IntKind.wrap .i64 ((k:Int)+1)=((k+1:Nat):Int):=by simp only [IntKind.wrap,IntKind.bits,IntKind.signed];simp;omega
  refine ⟨by rw [if_pos hlt],?_⟩
  rw [Nat.min_eq_left (by omega:k+1≤4096)]
  show [HO.box [AV.own _ [.i .i64 (IntKind.wrap .i64 ((k:Int)+1))],_]]=_
  rw [hw];rfl
 ·have hlen:(itY xs).length=xs.length:=by simp [itY]
  rw [hlen] at hH ⊢
  have hn:min (min (4096+1) xs.length) 4096=min xs.length 4096:=by omega
  rw [hn] at hH
  subst hH
  by_cases hb:4096<xs.length
  case' pos=>rw [if_pos hb]
  case' neg=>rw [if_neg hb]
  all_goals
   show AWM _ _ _ _ _ _
   refine .lift ?_;refine .gh (Gh.keep [2,4,5] rfl) ?_;refine .seq ?_;refine .seq ?_;refine .region ?_;refine vk (EM AY) ?_
   refine QU (cs:=[.own 3 (Is [((min xs.length 4096:Nat):Int)]),.own 83 (Its (xs.take (min xs.length 4096)))]) rfl rfl ?_ CG
   refine ixr (len:=1) (xs:=Is [((min xs.length 4096:Nat):Int)]) 0 rfl (by decide) ?_ E4 (by decide)
   refine lde (xs:=Is [((min xs.length 4096:Nat):Int)]) (.i .i64 ((min xs.length 4096:Nat):Int)) ⟨_,rfl,rfl⟩ ?_ Ca
   refine vk (vbi) ?_;refine rn ?_;refine .gh (Gh.keep [2,4,5,32] rfl) ?_
   by_cases h0:((min xs.length 4096:Nat):Int)=0
   ·have hx0:xs.length=0:=by omega
    refine cnt (dT h0) ?_;refine .region ?_;refine vk (Ao AM Aw) ?_;refine vk (Gv (F4 proto) (EZ [proto]) EQ) ?_;refine vk (EM AH) ?_
    refine Ma (cs:=[.own 3 (Is [((min xs.length 4096:Nat):Int)]),.own 83 (Its (xs.take (min xs.length 4096)))]) (c:=.own 83 (Its (xs.take (min xs.length 4096)))) rfl rfl ?_ Lp
    refine .nil ?_
    show AW _ _ _ _ _ _
    refine .gh (Gh.keep [4,5] rfl) ?_;refine .seq ?_;refine .region ?_;refine fz (p:=.c 0 0) ?_;refine fz (p:=.c 0 1) ?_;refine vk (IT (cs:=[.d (.sl (Is [((min xs.length 4096:Nat):Int)])),.d (.sl (Its [proto]))]) (ds:=[.sl (Is [((min xs.length 4096:Nat):Int)]),.sl (Its [proto])]) rfl Ar Ah) ?_
    refine stn ?_ Ah (by decide)
    refine rn ?_;refine .ret ?_
    exact ⟨.inr rfl,.inl ⟨_,⟨.inr rfl,Ar,Ah,(by decide:(0:Nat)<2)⟩,by simp only [QK,if_pos hx0];rfl⟩⟩
   ·have hx0:¬ xs.length=0:=by omega
    refine cnf (dF h0) ?_;refine .skip ?_
    show AW _ _ _ _ _ _
    refine .gh (Gh.keep [4,5] rfl) ?_;refine .seq ?_;refine .region ?_;refine fz (p:=.c 0 0) ?_;refine fz (p:=.c 0 1) ?_;refine vk (IT (cs:=[.d (.sl (Is [((min xs.length 4096:Nat):Int)])),.d (.sl (Its (xs.take (min xs.length 4096))))]) (ds:=[.sl (Is [((min xs.length 4096:Nat):Int)]),.sl (Its (xs.take (min xs.length 4096)))]) rfl Ar Ah) ?_
    refine stn ?_ Ah (by decide)
    refine rn ?_;refine .ret ?_
    have ht:xs.take (min xs.length 4096)=xs.take 4096:=by
     rcases Nat.le_total xs.length 4096 with h | h
     ·rw [Nat.min_eq_left h,List.take_of_length_le (Nat.le_refl _),List.take_of_length_le h]
     ·rw [Nat.min_eq_right h]
    exact ⟨.inr rfl,.inl ⟨_,⟨.inr rfl,Ar,Ah,(by decide:(0:Nat)<2)⟩,by simp only [QK,if_neg hx0,ht];rfl⟩⟩
def MH (l : List Int) : Option Arr:=if l.length≤9223372036854775806 then (Iy l).bind fun xs=>(BR 0).bind fun q=>(B5 q).bind fun p=>some (QK p xs) else none
theorem Je {l : List Int} {r : Arr} (h : MH l=some r) : Fn Tryz.prog 30 [.sl (Is l)] (.d (.ag [.sl (Is r.shape),.sl (Its r.items)])):=by
 obtain ⟨hl,h⟩:=Df h
 obtain ⟨xs,hxs,h⟩:=bnd h
 obtain ⟨q,hq,h⟩:=bnd h
 obtain ⟨p,hp,h⟩:=bnd h
 cases h
 refine Fn.ofC (rs:=[.cell 2 25]) (nt:=7) Tryz.func30 rfl rfl rfl (by simp) rfl ?_;refine .seq ?_;refine .region ?_;refine vk (Ut) ?_;refine vk (van (Ag A4) Bh) ?_;refine rn ?_;refine .seq ?_;refine .region ?_;refine vk (Af (Bx hq) Tryz.call72) ?_;refine vk (Af (Em hp) Tryz.call71) ?_;refine vk (Ud) ?_;refine vk (Af (Uf (proto:=p) Tryz.call77 (VC hxs hl 4096)) Tryz.call76) ?_
 refine stn ?_ Ah (by decide)
 refine rn ?_;refine .ret ?_
 exact ⟨_,⟨.inr rfl,Ar,Ah,(by decide:(0:Nat)<2)⟩,rfl⟩
end Go.FL
