/-
  Part 4 of the base of the proofs: a logic of our own over the calculus, the contracts of the functions
-/
import Derived.Test.YtbeekjoeaigngaaGreatSnC
set_option linter.unusedVariables false
namespace Go.FL
open Go Go.Proofs
def okL (k:Nat) (a:List Nat) : Bool:=a.all (fun x=>decide (x<4294967296))&&decide (a.length≤k)
theorem Bd {k:Nat} {a:List Nat} : okL k a=true↔Ok a∧a.length≤k:=by simp [okL,Ok]
theorem TO {k:Nat} {ls:List (List Nat)} (h:ls.all (okL k)=true) : (∀ a∈ls,Ok a)∧∀ a∈ls,a.length≤k :=
 ⟨fun a ha=>(Bd.1 (List.all_eq_true.1 h a ha)).1,fun a ha=>(Bd.1 (List.all_eq_true.1 h a ha)).2⟩
def Dc (r:RT) : Bool:=okL 35184372087808 r.2.1&&okL 35184372087808 r.2.2
theorem Lj {r:RT} : Dc r=true↔okR r:=by
 simp only [Dc,Bool.and_eq_true,Bd,okR]
 exact ⟨fun ⟨⟨a,b⟩,c,d⟩=>⟨a,c,b,d⟩,fun ⟨a,c,b,d⟩=>⟨⟨a,b⟩,c,d⟩⟩
theorem Oc {rs:List RT} (h:rs.all Dc=true) : ∀ r∈rs,okR r:=fun r hr=>Lj.1 (List.all_eq_true.1 h r hr)
abbrev qR (q:Q3) : RT:=(q.1,Ac q.2.1,Ac q.2.2)
def KQ : QE→RT×Int
 | .error e=>((false,[],[]),e)
 | .ok q=>(qR q,0)
theorem PS (x:QE) : (M0 x).map AV.d=[AV.d (.ag [.b (KQ x).1.1,.sl (L (KQ x).1.2.1),.sl (L (KQ x).1.2.2)]),.d (.i .i64 (KQ x).2)]:=by cases x<;>rfl
abbrev OR (n:(List Nat×List Nat)×Bool) : Q3:=(n.2,val n.1.1,val n.1.2)
abbrev qN (q:Q3) : (List Nat×List Nat)×Bool:=((Ac q.2.1,Ac q.2.2),q.1)
def JA (ls:List (List Nat)) : Option (List Nat):=if (ls.all (okL 40000)&&decide (ls.length≤10))=true then some (Ac (EF ls 1)) else none
theorem MC {ls:List (List Nat)} {r:List Nat} (h:JA ls=some r) : Fn Tryz.prog 166 [.sl (LL ls)] (.d (.sl (L r))):=by
 obtain ⟨hc,h⟩:=BV h
 cases h
 rw [Bool.and_eq_true,decide_eq_true_eq] at hc
 obtain ⟨h1,h2⟩:=TO hc.1
 exact JE h1 h2 hc.2 (by decide)
def S4 (ls:List (List Nat)) : Option (List Nat):=if (ls.all (okL 100000)&&decide (ls.length≤1000))=true then some (Ac (ls.map val).sum) else none
theorem Nb {ls:List (List Nat)} {r:List Nat} (h:S4 ls=some r) : Fn Tryz.prog 165 [.sl (LL ls)] (.d (.sl (L r))):=by
 obtain ⟨hc,h⟩:=BV h
 cases h
 rw [Bool.and_eq_true,decide_eq_true_eq] at hc
 obtain ⟨h1,h2⟩:=TO hc.1
 exact Xo h1 h2 hc.2 (by decide)
def N1 (a:List Nat) (b:List Nat) : Option (List Nat×Bool):=if (okL 500000 a&&okL 500000 b)=true then some ((Ac (HR (val a) (val b)),decide (val b≤val a))) else none
theorem Pq {a:List Nat} {b:List Nat} {r:List Nat×Bool} (h:N1 a b=some r) : Fn Tryz.prog 209 [.sl (L a),.sl (L b)] (.tup [.d (.sl (L r.1)),.d (.b r.2)]):=by
 obtain ⟨hc,h⟩:=BV h
 cases h
 rw [Bool.and_eq_true] at hc
 obtain ⟨⟨h1,h2⟩,h3,h4⟩:=And.intro (Bd.1 hc.1) (Bd.1 hc.2)
 exact Oo h1 h3 (by omega) (by omega)
def HA (a:List Nat) (b:List Nat) : Option (List Nat×List Nat×Bool):=if (okL 500000 a&&okL 500000 b)=true then some ((Ac (val a / val b),Ac (I8 (val a) (val b)),decide (val b≠0))) else none
theorem Ny {a:List Nat} {b:List Nat} {r:List Nat×List Nat×Bool} (h:HA a b=some r) : Fn Tryz.prog 199 [.sl (L a),.sl (L b)] (.tup [.d (.sl (L r.1)),.d (.sl (L r.2.1)),.d (.b r.2.2)]):=by
 obtain ⟨hc,h⟩:=BV h
 cases h
 rw [Bool.and_eq_true] at hc
 obtain ⟨⟨h1,h2⟩,h3,h4⟩:=And.intro (Bd.1 hc.1) (Bd.1 hc.2)
 exact JZ h1 h3 (by omega) (by omega)
def CN (a:List Nat) (b:List Nat) : Option (Int):=if (okL 35184372087808 a&&okL 35184372087808 b)=true then some (Cf (val a) (val b)) else none
theorem CR {a:List Nat} {b:List Nat} {r:Int} (h:CN a b=some r) : Fn Tryz.prog 164 [.sl (L a),.sl (L b)] (.d (.i .i64 r)):=by
 obtain ⟨hc,h⟩:=BV h
 cases h
 rw [Bool.and_eq_true] at hc
 obtain ⟨⟨h1,h2⟩,h3,h4⟩:=And.intro (Bd.1 hc.1) (Bd.1 hc.2)
 exact NL h1 h3 (by omega) (by omega)
def QB (a:List Nat) : Option (Int×Bool):=if okL 1048576 a=true then some (((Gg a:Nat),decide (AF (val a)≤63))) else none
theorem UZ {a:List Nat} {r:Int×Bool} (h:QB a=some r) : Fn Tryz.prog 207 [.sl (L a)] (.tup [.d (.i .i64 r.1),.d (.b r.2)]):=by
 obtain ⟨hc,h⟩:=BV h
 cases h
 obtain ⟨h1,h2⟩:=Bd.1 hc
 exact V8 h1 (by omega)
def NT (a:List Nat) (n:Int) (m:Int) : Option (List Nat×Bool):=if (okL 1000 a&&decide (n<9223372036854775808∧0≤m∧m≤1000))=true then some (if n<0 then ([],false) else (Ac (pwV (val a) n.toNat m.toNat),decide (Fi (val a) n.toNat m.toNat))) else none
theorem Pu {a:List Nat} {n:Int} {m:Int} {r:List Nat×Bool} (h:NT a n m=some r) : Fn Tryz.prog 208 [.sl (L a),.i .i64 n,.i .i64 m] (.tup [.d (.sl (L r.1)),.d (.b r.2)]):=by
 obtain ⟨hc,h⟩:=BV h
 cases h
 rw [Bool.and_eq_true,decide_eq_true_eq] at hc
 obtain ⟨h1,h2⟩:=Bd.1 hc.1
 by_cases hn:n<0
 ·rw [if_pos hn];exact Rp h1 (by omega) hn
 rw [if_neg hn]
 have:=V6 h1 (by omega) (n:=n.toNat) (most:=m.toNat) (by omega) (by omega)
 rw [Int.toNat_of_nonneg (by omega),Int.toNat_of_nonneg (by omega)] at this
 exact this
def Dp : Option (List Nat):=if True then some ([1]) else none
theorem Ca {r:List Nat} (h:Dp=some r) : Fn Tryz.prog 121 [] (.own 121 (L r)):=by
 obtain ⟨hc,h⟩:=BV h
 cases h
 exact Ov
def BE : Option (List Nat):=if True then some ([1]) else none
theorem Bk {r:List Nat} (h:BE=some r) : Fn Tryz.prog 44 [] (.own 121 (L r)):=by
 obtain ⟨hc,h⟩:=BV h
 cases h
 exact Kf
def Ft (a:RT) : Option ((List Nat×List Nat)×Bool):=if True then some (((a.2.1,a.2.2),a.1)) else none
theorem CD {a:RT} {r:(List Nat×List Nat)×Bool} (h:Ft a=some r) : Fn Tryz.prog 168 [.ag [.b a.1,.sl (L a.2.1),.sl (L a.2.2)]] (.d (.ag [.sl (L r.1.1),.sl (L r.1.2),.b r.2])):=by
 obtain ⟨hc,h⟩:=BV h
 cases h
 exact V0 _ _ _
def Fb (a:(List Nat×List Nat)×Bool) : Option (RT×Int):=if (okL 100000 a.1.1&&okL 100000 a.1.2)=true then some (KQ (MT a.2 (val a.1.1) (val a.1.2))) else none
theorem GB {a:(List Nat×List Nat)×Bool} {r:RT×Int} (h:Fb a=some r) : Fn Tryz.prog 170 [.ag [.sl (L a.1.1),.sl (L a.1.2),.b a.2]] (.tup [.d (.ag [.b r.1.1,.sl (L r.1.2.1),.sl (L r.1.2.2)]),.d (.i .i64 r.2)]):=by
 obtain ⟨hc,h⟩:=BV h
 cases h
 rw [Bool.and_eq_true] at hc
 obtain ⟨⟨h1,h2⟩,h3,h4⟩:=And.intro (Bd.1 hc.1) (Bd.1 hc.2)
 have:=PN (b:=a.2) h1 h3 h2 h4 (by decide)
 rw [N6,PS] at this
 exact this
def LM (a:(List Nat×List Nat)×Bool) : Option ((List Nat×List Nat)×Bool):=if True then some ((a.1,!a.2)) else none
theorem Ot {a:(List Nat×List Nat)×Bool} {r:(List Nat×List Nat)×Bool} (h:LM a=some r) : Fn Tryz.prog 205 [.ag [.sl (L a.1.1),.sl (L a.1.2),.b a.2]] (.d (.ag [.sl (L r.1.1),.sl (L r.1.2),.b r.2])):=by
 obtain ⟨hc,h⟩:=BV h
 cases h
 exact Ye _ _ _
def Lp (a:(List Nat×List Nat)×Bool) (b:(List Nat×List Nat)×Bool) : Option ((List Nat×List Nat)×Bool):=if (okL 4000 a.1.1&&okL 4000 a.1.2&&(okL 4000 b.1.1&&okL 4000 b.1.2))=true then some (qN (ED (OR a) (OR b))) else none
theorem Nt {a:(List Nat×List Nat)×Bool} {b:(List Nat×List Nat)×Bool} {r:(List Nat×List Nat)×Bool} (h:Lp a b=some r) : Fn Tryz.prog 204 [.ag [.sl (L a.1.1),.sl (L a.1.2),.b a.2],.ag [.sl (L b.1.1),.sl (L b.1.2),.b b.2]] (.d (.ag [.sl (L r.1.1),.sl (L r.1.2),.b r.2])):=by
 obtain ⟨hc,h⟩:=BV h
 cases h
 simp only [Bool.and_eq_true,Bd] at hc
 obtain ⟨⟨⟨h1,h2⟩,h3,h4⟩,⟨h5,h6⟩,h7,h8⟩:=hc
 exact Ud h1 h3 h5 h7 h2 h4 h6 h8
def G4 (a:(List Nat×List Nat)×Bool) (b:(List Nat×List Nat)×Bool) : Option ((List Nat×List Nat)×Bool):=if (okL 4000 a.1.1&&okL 4000 a.1.2&&(okL 4000 b.1.1&&okL 4000 b.1.2))=true then some (qN (Ff (OR a) (OR b))) else none
theorem Jj {a:(List Nat×List Nat)×Bool} {b:(List Nat×List Nat)×Bool} {r:(List Nat×List Nat)×Bool} (h:G4 a b=some r) : Fn Tryz.prog 169 [.ag [.sl (L a.1.1),.sl (L a.1.2),.b a.2],.ag [.sl (L b.1.1),.sl (L b.1.2),.b b.2]] (.d (.ag [.sl (L r.1.1),.sl (L r.1.2),.b r.2])):=by
 obtain ⟨hc,h⟩:=BV h
 cases h
 simp only [Bool.and_eq_true,Bd] at hc
 obtain ⟨⟨⟨h1,h2⟩,h3,h4⟩,⟨h5,h6⟩,h7,h8⟩:=hc
 exact Rt h1 h3 h5 h7 h2 h4 h6 h8
def BS (a:List Nat×List Nat) (b:List Nat×List Nat) : Option (List Nat):=if (okL 4000 a.1&&okL 4000 b.2)=true then some (Ac (val a.1 * val b.2)) else none
theorem B3 {a:List Nat×List Nat} {b:List Nat×List Nat} {r:List Nat} (h:BS a b=some r) : Fn Tryz.prog 239 [.ag [.sl (L a.1),.sl (L a.2)],.ag [.sl (L b.1),.sl (L b.2)]] (.d (.sl (L r))):=by
 obtain ⟨hc,h⟩:=BV h
 cases h
 simp only [Bool.and_eq_true,Bd] at hc
 exact Oa hc.1.1 hc.2.1 hc.1.2 hc.2.2
def Ho (a:List Nat) (b:List Nat) : Option (Bool):=if (okL 1048576 a&&okL 35184372087808 b)=true then some (decide (a=b)) else none
theorem IW {a:List Nat} {b:List Nat} {r:Bool} (h:Ho a b=some r) : Fn Tryz.prog 112 [.sl (L a),.sl (L b)] (.d (.b r)):=by
 obtain ⟨hc,h⟩:=BV h
 cases h
 simp only [Bool.and_eq_true,Bd] at hc
 exact RR a b hc.1.2 hc.1.1 hc.2.1
def FR (a:List Nat) : Option (List Nat):=if a.length≤35184372087808 then some (a) else none
theorem Fv {a:List Nat} {r:List Nat} (h:FR a=some r) : Fn Tryz.prog 215 [.sl (L a)] (.own 121 (L r)):=by
 obtain ⟨hc,h⟩:=BV h
 cases h
 exact Nz _ hc
def C9 (a:RT) : Option (Bool):=if Dc a=true then some (AM a) else none
theorem Ch {a:RT} {r:Bool} (h:C9 a=some r) : Fn Tryz.prog 45 [.ag [.b a.1,.sl (L a.2.1),.sl (L a.2.2)]] (.d (.b r)):=by
 obtain ⟨hc,h⟩:=BV h
 cases h
 obtain ⟨h1,h2,h3,h4⟩:=Lj.1 hc
 exact PJ h1 h2 h3 h4
def AJ (a:RT) : Option (Bool):=if Dc a=true then some (AM a) else none
theorem AC {a:RT} {r:Bool} (h:AJ a=some r) : Fn Tryz.prog 19 [.ag [.b a.1,.sl (L a.2.1),.sl (L a.2.2)]] (.d (.b r)):=by
 obtain ⟨hc,h⟩:=BV h
 cases h
 obtain ⟨h1,h2,h3,h4⟩:=Lj.1 hc
 exact Wp h1 h2 h3 h4
def Cg (rs:List RT) : Option (Bool):=if (rs.all Dc&&decide (rs.length≤1048576))=true then some (rs.all AM) else none
theorem CB {rs:List RT} {r:Bool} (h:Cg rs=some r) : Fn Tryz.prog 167 [.sl (RVs rs)] (.d (.b r)):=by
 obtain ⟨hc,h⟩:=BV h
 cases h
 rw [Bool.and_eq_true,decide_eq_true_eq] at hc
 exact RD (Oc hc.1) hc.2
def Cn (b:Bool) (n:List Nat) (d:List Nat) : Option (RT×Int):=if (okL 100000 n&&okL 100000 d)=true then some (KQ (Q6 b (val n) (val d))) else none
theorem Dg {b:Bool} {n:List Nat} {d:List Nat} {r:RT×Int} (h:Cn b n d=some r) : Fn Tryz.prog 125 [.b b,.sl (L n),.sl (L d)] (.tup [.d (.ag [.b r.1.1,.sl (L r.1.2.1),.sl (L r.1.2.2)]),.d (.i .i64 r.2)]):=by
 obtain ⟨hc,h⟩:=BV h
 cases h
 simp only [Bool.and_eq_true,Bd] at hc
 have:=Tq (b:=b) hc.1.1 hc.2.1 hc.1.2 hc.2.2 (by decide)
 rw [Uv,PS] at this
 exact this
def FZ (a:RT) (b:RT) : Option (Bool):=if (decide (a.2.1.length≤35184372087808)&&decide (a.2.2.length≤35184372087808))=true then some (decide (a=b)) else none
theorem Hx {a:RT} {b:RT} {r:Bool} (h:FZ a b=some r) : Fn Tryz.prog 23 [.ag [.b a.1,.sl (L a.2.1),.sl (L a.2.2)],.ag [.b b.1,.sl (L b.2.1),.sl (L b.2.2)]] (.d (.b r)):=by
 obtain ⟨hc,h⟩:=BV h
 cases h
 simp only [Bool.and_eq_true,decide_eq_true_eq] at hc
 have:=SH a.1 b.1 a.2.1 a.2.2 b.2.1 b.2.2 hc.1 hc.2
 rw [decide_eq_decide.2 (show (a.1=b.1∧a.2.1=b.2.1∧a.2.2=b.2.2)↔a=b by
  obtain ⟨a1,a2,a3⟩:=a;obtain ⟨b1,b2,b3⟩:=b;simp)] at this
 exact this
def B6 (z:Int) : Option (RT):=if -9223372036854775808≤z∧z≤9223372036854775807 then some ((decide (z<0),Ac z.natAbs,[1])) else none
theorem BD {z:Int} {r:RT} (h:B6 z=some r) : Fn Tryz.prog 72 [.i .i64 z] (.d (.ag [.b r.1,.sl (L r.2.1),.sl (L r.2.2)])):=by
 obtain ⟨hc,h⟩:=BV h
 cases h
 exact RC hc.1 hc.2
def Hd : Option (RT):=if True then some ((false,[],[1])) else none
theorem Gf {r:RT} (h:Hd=some r) : Fn Tryz.prog 33 [] (.d (.ag [.b r.1,.sl (L r.2.1),.sl (L r.2.2)])):=by
 obtain ⟨hc,h⟩:=BV h
 cases h
 exact Ta
def My (rs:List RT) : Option (RT×Int):=if (rs.all Dc&&decide (rs.length≤1048576))=true then some (KQ (UD rs)) else none
theorem O0 {rs:List RT} {r:RT×Int} (h:My rs=some r) : Fn Tryz.prog 133 [.sl (RVs rs)] (.tup [.d (.ag [.b r.1.1,.sl (L r.1.2.1),.sl (L r.1.2.2)]),.d (.i .i64 r.2)]):=by
 obtain ⟨hc,h⟩:=BV h
 cases h
 rw [Bool.and_eq_true,decide_eq_true_eq] at hc
 have:=Yu (Oc hc.1) hc.2
 rw [PS] at this
 exact this
def KE (rs:List RT) : Option (RT×Int):=if (rs.all Dc&&decide (rs.length≤1048576))=true then some (KQ (U7 rs)) else none
theorem L9 {rs:List RT} {r:RT×Int} (h:KE rs=some r) : Fn Tryz.prog 135 [.sl (RVs rs)] (.tup [.d (.ag [.b r.1.1,.sl (L r.1.2.1),.sl (L r.1.2.2)]),.d (.i .i64 r.2)]):=by
 obtain ⟨hc,h⟩:=BV h
 cases h
 rw [Bool.and_eq_true,decide_eq_true_eq] at hc
 have:=Yn (Oc hc.1) hc.2
 rw [PS] at this
 exact this
def BJ (a:List Nat) (b:List Nat) : Option (List Nat):=if (okL 400000 a&&okL 400000 b)=true then some (Ac (val a * val b)) else none
theorem Bn {a:List Nat} {b:List Nat} {r:List Nat} (h:BJ a b=some r) : Fn Tryz.prog 126 [.sl (L a),.sl (L b)] (.own 121 (L r)):=by
 obtain ⟨hc,h⟩:=BV h
 cases h
 rw [Bool.and_eq_true] at hc
 obtain ⟨⟨h1,h2⟩,h3,h4⟩:=And.intro (Bd.1 hc.1) (Bd.1 hc.2)
 exact VY h1 h3 (by omega) (by omega)
def Ol (a:List Nat) (b:List Nat) : Option (List Nat):=if (okL 500000 a&&okL 500000 b)=true then some (Ac (val a+val b)) else none
theorem LC {a:List Nat} {b:List Nat} {r:List Nat} (h:Ol a b=some r) : Fn Tryz.prog 128 [.sl (L a),.sl (L b)] (.own 121 (L r)):=by
 obtain ⟨hc,h⟩:=BV h
 cases h
 rw [Bool.and_eq_true] at hc
 obtain ⟨⟨h1,h2⟩,h3,h4⟩:=And.intro (Bd.1 hc.1) (Bd.1 hc.2)
 exact V5 h1 h3 (by omega) (by omega)
def Cw (a:List Nat) (b:List Nat) : Option (Int):=if (okL 35184372087808 a&&okL 35184372087808 b)=true then some (Cf (val a) (val b)) else none
theorem CO {a:List Nat} {b:List Nat} {r:Int} (h:Cw a b=some r) : Fn Tryz.prog 42 [.sl (L a),.sl (L b)] (.d (.i .i64 r)):=by
 obtain ⟨hc,h⟩:=BV h
 cases h
 rw [Bool.and_eq_true] at hc
 obtain ⟨⟨h1,h2⟩,h3,h4⟩:=And.intro (Bd.1 hc.1) (Bd.1 hc.2)
 exact EH h1 h3 (by omega) (by omega)
def Hr (a:List Nat) (b:List Nat) : Option (List Nat×Bool):=if (okL 500000 a&&okL 500000 b)=true then some ((Ac (HR (val a) (val b)),decide (val b≤val a))) else none
theorem Hf {a:List Nat} {b:List Nat} {r:List Nat×Bool} (h:Hr a b=some r) : Fn Tryz.prog 156 [.sl (L a),.sl (L b)] (.tup [.d (.sl (L r.1)),.d (.b r.2)]):=by
 obtain ⟨hc,h⟩:=BV h
 cases h
 rw [Bool.and_eq_true] at hc
 obtain ⟨⟨h1,h2⟩,h3,h4⟩:=And.intro (Bd.1 hc.1) (Bd.1 hc.2)
 exact Hk h1 h3 (by omega) (by omega)
def HZ (a:List Nat) (b:List Nat) : Option (List Nat×List Nat×Bool):=if (okL 100000 a&&okL 100000 b)=true then some ((Ac (val a / val b),Ac (I8 (val a) (val b)),decide (val b≠0))) else none
theorem JD {a:List Nat} {b:List Nat} {r:List Nat×List Nat×Bool} (h:HZ a b=some r) : Fn Tryz.prog 127 [.sl (L a),.sl (L b)] (.tup [.d (.sl (L r.1)),.d (.sl (L r.2.1)),.d (.b r.2.2)]):=by
 obtain ⟨hc,h⟩:=BV h
 cases h
 rw [Bool.and_eq_true] at hc
 obtain ⟨⟨h1,h2⟩,h3,h4⟩:=And.intro (Bd.1 hc.1) (Bd.1 hc.2)
 exact IT h1 h3 (by omega) (by omega)
def Od (a:List Nat) : Option (List Nat):=if okL 35184372087808 a=true then some (Ac (val a)) else none
theorem PA {a:List Nat} {r:List Nat} (h:Od a=some r) : Fn Tryz.prog 117 [.sl (L a)] (.own 121 (L r)):=by
 obtain ⟨hc,h⟩:=BV h
 cases h
 obtain ⟨h1,h2⟩:=Bd.1 hc
 exact Bv h1 (by omega)
def RN (n:Int) : Option (List Nat):=if 0≤n∧n<18446744073709551616 then some (Ac n.toNat) else none
theorem Qc {n:Int} {r:List Nat} (h:RN n=some r) : Fn Tryz.prog 124 [.i .u64 n] (.own 121 (L r)):=by
 obtain ⟨hc,h⟩:=BV h
 cases h
 have:=WU (n:=n.toNat) (by omega)
 rw [Int.toNat_of_nonneg hc.1] at this
 exact this
def NM (a:List Nat) (b:List Nat) : Option (Bool):=if a.length≤35184372087808 then some (decide (a=b)) else none
theorem PO {a:List Nat} {b:List Nat} {r:Bool} (h:NM a b=some r) : Fn Tryz.prog 58 [.sl (L a),.sl (L b)] (.d (.b r)):=by
 obtain ⟨hc,h⟩:=BV h
 cases h
 exact QO a b hc
def Ht (a:List Nat) : Option (Int×Bool):=if okL 1048576 a=true then some (((Gg a:Nat),decide (AF (val a)≤63))) else none
theorem NN {a:List Nat} {r:Int×Bool} (h:Ht a=some r) : Fn Tryz.prog 131 [.sl (L a)] (.tup [.d (.i .i64 r.1),.d (.b r.2)]):=by
 obtain ⟨hc,h⟩:=BV h
 cases h
 obtain ⟨h1,h2⟩:=Bd.1 hc
 exact Q4 h1 (by omega)
def Gx (a0:RT) (a1:RT) : Option (RT×Int):=((Cg ([a0,a1])).bind fun x1=>(if x1=true then ((Ft a0).bind fun x2=>((Ft a1).bind fun x3=>((LM x3).bind fun x4=>((Lp x2 x4).bind fun x5=>((Fb x5).bind fun x6=>(some (x6.1,x6.2))))))) else (some ((false,[],[]),22))))
theorem G6 {a0:RT} {a1:RT} {r:RT×Int} (h:Gx a0 a1=some r) :
  Fn Tryz.prog 136 [.ag [.b a0.1,.sl (L a0.2.1),.sl (L a0.2.2)],.ag [.b a1.1,.sl (L a1.2.1),.sl (L a1.2.2)]] (.tup [.d (.ag [.b r.1.1,.sl (L r.1.2.1),.sl (L r.1.2.2)]),.d (.i .i64 r.2)]):=by
 unfold Gx at h
 refine Fn.ofC (rs:=[.cell 4 32,.tmp 5]) (nt:=21) Tryz.func136 rfl rfl rfl (by simp) rfl ?_;refine .sr ?_;refine vk (vbx) ?_;refine vk (vbx) ?_;refine vk (van (Ai AG) AH) ?_;refine ar [2,3,4,5] ?_;refine .seq ?_;refine .sr ?_;refine vk (Aj Af Ad) ?_;refine vk (Aj Af Ad) ?_;refine vk ((Fr (Dy [a0,a1]) Gj).deep) ?_
 obtain ⟨x1,g1,h⟩:=bnd h
 refine vk (Ae (CB g1) Tryz.call167) ?_;refine vk (vnt) ?_;refine rk [2,3,4,5,10] ?_
 rcases brc h with ⟨hc,h⟩|⟨hc,h⟩
 ·refine cnf (ntf hc) ?_
  refine .skip ?_
  show AW _ _ _ _ _ _
  refine .seq ?_;refine .drawn 9 A4 (by kernel_rfl) ?_;refine dv (Aj Af Ad) ?_
  obtain ⟨x2,g2,h⟩:=bnd h
  refine dv (Ae (CD g2) Tryz.call168) ?_;refine dv (Aj Af Ad) ?_
  obtain ⟨x3,g3,h⟩:=bnd h
  refine dv (Ae (CD g3) Tryz.call168) ?_
  obtain ⟨x4,g4,h⟩:=bnd h
  refine dv (Ae (Ot g4) Tryz.call205) ?_
  obtain ⟨x5,g5,h⟩:=bnd h
  refine dv (Ae (Nt g5) Tryz.call204) ?_
  obtain ⟨x6,g6,h⟩:=bnd h
  refine dv (VOK.tupd (vs:=[.ag [.b x6.1.1,.sl (L x6.1.2.1),.sl (L x6.1.2.2)],.i .i64 x6.2]) (Ae (GB g6) Tryz.call170)) ?_;refine dv (vex) ?_;refine dv (vex) ?_;refine dz ?_
  refine stn ?_ Ad (by decide)
  refine ar [4,5] ?_;refine .ret ?_
  cases h
  exact ⟨_,_,⟨.inr rfl,Af,Ad,p3⟩,rfl,rfl⟩
 refine cnt (ntt (bf hc)) ?_;refine .sr ?_;refine vk (vbd Bq AG AH) ?_
 refine stn ?_ Ad (by decide)
 refine ar [2,3,4,5] ?_;refine .ret ?_
 cases h
 exact ⟨_,_,⟨.inr rfl,Af,Ad,p3⟩,rfl,rfl⟩
def Iu (a0:RT) (a1:RT) : Option (RT×Int):=((Cg ([a0,a1])).bind fun x1=>(if x1=true then (if 0<((List.length a1.2.1:Nat) : Int) then ((Ft a0).bind fun x2=>((G4 x2 ((a1.2.2,a1.2.1),a1.1)).bind fun x3=>((Fb x3).bind fun x4=>(some (x4.1,x4.2))))) else (if 0<((List.length a0.2.1:Nat) : Int) then (some ((false,[],[]),3)) else ((B6 1).bind fun x5=>(some (x5,0))))) else (some ((false,[],[]),22))))
theorem KL {a0:RT} {a1:RT} {r:RT×Int} (h:Iu a0 a1=some r) :
  Fn Tryz.prog 88 [.ag [.b a0.1,.sl (L a0.2.1),.sl (L a0.2.2)],.ag [.b a1.1,.sl (L a1.2.1),.sl (L a1.2.2)]] (.tup [.d (.ag [.b r.1.1,.sl (L r.1.2.1),.sl (L r.1.2.2)]),.d (.i .i64 r.2)]):=by
 unfold Iu at h
 refine Fn.ofC (rs:=[.cell 4 32,.tmp 5]) (nt:=39) Tryz.func88 rfl rfl rfl (by simp) rfl ?_;refine .sr ?_;refine vk (vbx) ?_;refine vk (vbx) ?_;refine vk (van (Ai AG) AH) ?_;refine ar [2,3,4,5] ?_;refine .seq ?_;refine .block ?_;refine .sr ?_;refine vk (Aj Af Ad) ?_;refine vk (Aj Af Ad) ?_;refine vk ((Fr (Dy [a0,a1]) Gj).deep) ?_
 obtain ⟨x1,g1,h⟩:=bnd h
 refine vk (Ae (CB g1) Tryz.call167) ?_;refine vk (vnt) ?_;refine ar [2,3,4,5,6] ?_
 rcases brc h with ⟨hc,h⟩|⟨hc,h⟩
 ·refine cnf (ntf hc) ?_
  refine .sr ?_;refine vk (vfa AA) ?_;refine vk (Ak AQ) ?_;refine vk (A7 (Ab _) (Ax _) B0) ?_;refine vk (vbi) ?_;refine ar [2,3,4,5,13] ?_
  rcases brc h with ⟨hc,h⟩|⟨hc,h⟩
  ·refine cnt (dT hc) ?_
   refine .seq ?_;refine .drawn 14 A4 (by kernel_rfl) ?_;refine dv (Aj Af Ad) ?_
   obtain ⟨x2,g2,h⟩:=bnd h
   refine dv (Ae (CD g2) Tryz.call168) ?_;refine dv (vfa Bg) ?_;refine dv (Ak AQ) ?_;refine dv (vfa AA) ?_;refine dv (Ak AQ) ?_;refine dv (vbd Y1 XS Yp) ?_;refine dv (vfa AT) ?_;refine dv (Ak AD) ?_;refine dv (vbd Xe Re RO) ?_
   obtain ⟨x3,g3,h⟩:=bnd h
   refine dv (Ae (Jj g3) Tryz.call169) ?_
   obtain ⟨x4,g4,h⟩:=bnd h
   refine dv (VOK.tupd (vs:=[.ag [.b x4.1.1,.sl (L x4.1.2.1),.sl (L x4.1.2.2)],.i .i64 x4.2]) (Ae (GB g4) Tryz.call170)) ?_;refine dv (vex) ?_;refine dv (vex) ?_;refine dz ?_
   refine stn ?_ Ad (by decide)
   refine ar [4,5] ?_;refine .ret ?_
   cases h
   exact ⟨_,_,⟨.inr rfl,Af,Ad,p3⟩,rfl,rfl⟩
  refine cnf (dF hc) ?_;refine .sr ?_;refine vk (vfa AA) ?_;refine vk (Ak AQ) ?_;refine vk (A7 (Ab _) (Ax _) B0) ?_;refine vk (vbi) ?_;refine ar [4,5,32] ?_
  rcases brc h with ⟨hc,h⟩|⟨hc,h⟩
  ·refine cnt (dT hc) ?_
   refine .sr ?_;refine vk (vbd Bq AG AH) ?_
   refine stn ?_ Ad (by decide)
   refine ar [4,5] ?_;refine .ret ?_
   cases h
   exact ⟨_,_,⟨.inr rfl,Af,Ad,p3⟩,rfl,rfl⟩
  refine cnf (dF hc) ?_;refine .skip ?_
  show AW _ _ _ _ _ _
  refine .sr ?_
  obtain ⟨x5,g5,h⟩:=bnd h
  refine vk (Ae (BD g5) Tryz.call72) ?_
  refine stn ?_ Ad (by decide)
  refine ar [4,5] ?_;refine .ret ?_
  cases h
  exact ⟨_,_,⟨.inr rfl,Af,Ad,p3⟩,rfl,rfl⟩
 refine cnt (ntt (bf hc)) ?_;refine .sr ?_;refine vk (vbd Bq AG AH) ?_
 refine stn ?_ Ad (by decide)
 refine ar [4,5] ?_;refine .ret ?_
 cases h
 exact ⟨_,_,⟨.inr rfl,Af,Ad,p3⟩,rfl,rfl⟩
def EW (a0:RT) (a1:Bool) : Option (RT×Int):=((C9 a0).bind fun x1=>(if x1=true then (Option.bind ((if a1=true then ((FR a0.2.1).bind fun x3=>((FR a0.2.2).bind fun x4=>(some ((decide (0<((List.length a0.2.1:Nat) : Int))),x3,x4)))) else ((FR a0.2.1).bind fun x5=>((FR a0.2.2).bind fun x6=>(some (false,x5,x6))))) : Option (RT)) fun (z2:RT)=>(some (z2,0))) else (some ((false,[],[]),22))))
theorem HP {a0:RT} {a1:Bool} {r:RT×Int} (h:EW a0 a1=some r) :
  Fn Tryz.prog 161 [.ag [.b a0.1,.sl (L a0.2.1),.sl (L a0.2.2)],.b a1] (.tup [.d (.ag [.b r.1.1,.sl (L r.1.2.1),.sl (L r.1.2.2)]),.d (.i .i64 r.2)]):=by
 unfold EW at h
 refine Fn.ofC (rs:=[.cell 4 32,.tmp 5]) (nt:=24) Tryz.func161 rfl rfl rfl (by simp) rfl ?_;refine .sr ?_;refine vk (vbx) ?_;refine vk (van (Ai AG) AH) ?_;refine ar [1,2,4,5] ?_;refine .seq ?_;refine .sr ?_;refine vk (Aj Af Ad) ?_
 obtain ⟨x1,g1,h⟩:=bnd h
 refine vk (Ae (Ch g1) Tryz.call45) ?_;refine vk (vnt) ?_;refine rk [1,2,4,5,8] ?_
 rcases brc h with ⟨hc,h⟩|⟨hc,h⟩
 ·refine cnf (ntf hc) ?_
  refine .skip ?_
  show AW _ _ _ _ _ _
  refine .seq ?_
  obtain ⟨z2,hz,h⟩:=bnd h
  refine AW.mr (σ:=Unit) (fun _=>True) (fun _=>[(4,.nb [.b z2.1,.sl (L z2.2.1),.sl (L z2.2.2)]),(5,.d (.i .i64 0))]) (fun _=>[]) ?_ ?_
  ·skip
   refine .drawn 14 A4 (by kernel_rfl) ?_;refine dv (Aa) ?_
   rcases brc hz with ⟨hc,hz⟩|⟨hc,hz⟩
   ·have hb0:a1=true:=hc
    refine dv (VOK.lit (Aa) hb0) ?_;refine dv (vfa AA) ?_;refine dv (Ak AQ) ?_;refine dv (A7 (Ab _) (Ax _) B0) ?_;refine dv (vbi) ?_;refine dv (Ah) ?_;refine dv (vfa AA) ?_;refine dv (Ak AQ) ?_
    obtain ⟨x3,g3,hz⟩:=bnd hz
    refine dv ((Ae (Fv g3) Tryz.call215).deep) ?_;refine dv (vfa Bg) ?_;refine dv (Ak AQ) ?_
    obtain ⟨x4,g4,hz⟩:=bnd hz
    refine dv ((Ae (Fv g4) Tryz.call215).deep) ?_;refine dv (vbd Bq AG AH) ?_;refine dz ?_
    refine stn ?_ Ad (by decide)
    refine asd ?_;refine RL.gk [4,5] ?_;refine .nil ?_
    cases hz
    exact jr () trivial
   have hb0:a1=false:=(bf hc)
   refine dv (VOK.lit (Aa) hb0) ?_;refine dgf ?_;refine dgf ?_;refine dgf ?_;refine dgf ?_;refine dv (Ah) ?_;refine dv (vfa AA) ?_;refine dv (Ak AQ) ?_
   obtain ⟨x5,g5,hz⟩:=bnd hz
   refine dv ((Ae (Fv g5) Tryz.call215).deep) ?_;refine dv (vfa Bg) ?_;refine dv (Ak AQ) ?_
   obtain ⟨x6,g6,hz⟩:=bnd hz
   refine dv ((Ae (Fv g6) Tryz.call215).deep) ?_;refine dv (vbd Bq AG AH) ?_;refine dz ?_
   refine stn ?_ Ad (by decide)
   refine asd ?_;refine RL.gk [4,5] ?_;refine .nil ?_
   cases hz
   exact jr () trivial
  rintro _ _
  refine .ret ?_
  cases h
  exact ⟨_,_,⟨.inr rfl,Af,Ad,p3⟩,rfl,rfl⟩
 refine cnt (ntt (bf hc)) ?_;refine .sr ?_;refine vk (vbd Bq AG AH) ?_
 refine stn ?_ Ad (by decide)
 refine ar [1,2,4,5] ?_;refine .ret ?_
 cases h
 exact ⟨_,_,⟨.inr rfl,Af,Ad,p3⟩,rfl,rfl⟩
def LH (a0:RT) : Option (RT×Int):=((EW a0 (!a0.1)).bind fun x1=>(some (x1.1,x1.2)))
theorem S5 {a0:RT} {r:RT×Int} (h:LH a0=some r) :
  Fn Tryz.prog 79 [.ag [.b a0.1,.sl (L a0.2.1),.sl (L a0.2.2)]] (.tup [.d (.ag [.b r.1.1,.sl (L r.1.2.1),.sl (L r.1.2.2)]),.d (.i .i64 r.2)]):=by
 unfold LH at h
 refine Fn.ofC (rs:=[.cell 2 32,.tmp 3]) (nt:=11) Tryz.func79 rfl rfl rfl (by simp) rfl ?_;refine .sr ?_;refine vk (vbx) ?_;refine vk (van (Ai AG) AH) ?_;refine ar [1,2,3] ?_;refine .sr ?_;refine vk (Aj Af Ad) ?_;refine vk (vfa AT) ?_;refine vk (Ak AD) ?_;refine vk (vnt) ?_
 obtain ⟨x1,g1,h⟩:=bnd h
 refine vk (VOK.tupd (vs:=[.ag [.b x1.1.1,.sl (L x1.1.2.1),.sl (L x1.1.2.2)],.i .i64 x1.2]) (Ae (HP g1) Tryz.call161)) ?_;refine vk (vex) ?_;refine vk (vex) ?_
 refine stn ?_ Ad (by decide)
 refine ar [2,3] ?_;refine .ret ?_
 cases h
 exact ⟨_,_,⟨.inr rfl,Af,Ad,p3⟩,rfl,rfl⟩
def Lv (a0:RT) : Option (RT×Int):=((EW a0 false).bind fun x1=>(some (x1.1,x1.2)))
theorem SZ {a0:RT} {r:RT×Int} (h:Lv a0=some r) :
  Fn Tryz.prog 82 [.ag [.b a0.1,.sl (L a0.2.1),.sl (L a0.2.2)]] (.tup [.d (.ag [.b r.1.1,.sl (L r.1.2.1),.sl (L r.1.2.2)]),.d (.i .i64 r.2)]):=by
 unfold Lv at h
 refine Fn.ofC (rs:=[.cell 2 32,.tmp 3]) (nt:=8) Tryz.func82 rfl rfl rfl (by simp) rfl ?_;refine .sr ?_;refine vk (vbx) ?_;refine vk (van (Ai AG) AH) ?_;refine ar [1,2,3] ?_;refine .sr ?_;refine vk (Aj Af Ad) ?_
 obtain ⟨x1,g1,h⟩:=bnd h
 refine vk (VOK.tupd (vs:=[.ag [.b x1.1.1,.sl (L x1.1.2.1),.sl (L x1.1.2.2)],.i .i64 x1.2]) (Ae (HP g1) Tryz.call161)) ?_;refine vk (vex) ?_;refine vk (vex) ?_
 refine stn ?_ Ad (by decide)
 refine ar [2,3] ?_;refine .ret ?_
 cases h
 exact ⟨_,_,⟨.inr rfl,Af,Ad,p3⟩,rfl,rfl⟩
def GK (a0:RT) (a1:Bool) : Option (RT×Int):=((C9 a0).bind fun x1=>(if x1=true then ((HA a0.2.1 a0.2.2).bind fun x2=>(if (a1&&(decide (0<((List.length x2.2.1:Nat) : Int))))=true then (Dp.bind fun x3=>((S4 ([x2.1,x3])).bind fun x4=>(Dp.bind fun x5=>((Fb ((x4,x5),a0.1)).bind fun x6=>(some (x6.1,x6.2)))))) else (Dp.bind fun x7=>((Fb ((x2.1,x7),a0.1)).bind fun x8=>(some (x8.1,x8.2)))))) else (some ((false,[],[]),22))))
theorem La {a0:RT} {a1:Bool} {r:RT×Int} (h:GK a0 a1=some r) :
  Fn Tryz.prog 162 [.ag [.b a0.1,.sl (L a0.2.1),.sl (L a0.2.2)],.b a1] (.tup [.d (.ag [.b r.1.1,.sl (L r.1.2.1),.sl (L r.1.2.2)]),.d (.i .i64 r.2)]):=by
 unfold GK at h
 refine Fn.ofC (rs:=[.cell 4 32,.tmp 5]) (nt:=41) Tryz.func162 rfl rfl rfl (by simp) rfl ?_;refine .sr ?_;refine vk (vbx) ?_;refine vk (van (Ai AG) AH) ?_;refine ar [1,2,4,5] ?_;refine .seq ?_;refine .sr ?_;refine vk (Aj Af Ad) ?_
 obtain ⟨x1,g1,h⟩:=bnd h
 refine vk (Ae (Ch g1) Tryz.call45) ?_;refine vk (vnt) ?_;refine rk [1,2,4,5,11] ?_
 rcases brc h with ⟨hc,h⟩|⟨hc,h⟩
 ·refine cnf (ntf hc) ?_
  refine .skip ?_
  show AW _ _ _ _ _ _
  refine .sr ?_;refine vk (vfa AA) ?_;refine vk (Ak AQ) ?_;refine vk (vfa Bg) ?_;refine vk (Ak AQ) ?_
  obtain ⟨x2,g2,h⟩:=bnd h
  refine vk (VOK.tupd (vs:=[.sl (L x2.1),.sl (L x2.2.1),.b x2.2.2]) (Ae (Ny g2) Tryz.call199)) ?_;refine vk (Aa) ?_;refine vk (vex) ?_;refine vk (vex) ?_;refine vk (vex) ?_;refine asd ?_;refine asd ?_;refine ar [1,2,4,5,6,7] ?_;refine .seq ?_;refine .seq ?_;refine AW.mr (σ:=Unit) (fun _=>True) (fun _=>[(2,.d (.ptr [.b a0.1,.sl (L a0.2.1),.sl (L a0.2.2)])),(4,.nb [.b false,.sl (L []),.sl (L [])]),(5,.d (.i .i64 0)),(6,.d (.sl (L x2.1))),(27,.d (.b (a1&&(decide (0<((List.length x2.2.1:Nat):Int))))))]) (fun _=>[]) ?_ ?_
  ·skip
   refine .region ?_;refine vk (Aa) ?_
   by_cases hc:a1=true
   ·have hb0:a1=true:=hc
    refine vk (VOK.lit (Aa) hb0) ?_;refine vk (Aa) ?_;refine vk (A7 (Ab _) (Ax _) B0) ?_;refine vk (vbi) ?_;refine vk (Ah) ?_;refine RL.gk [2,4,5,6,27] ?_;refine .nil ?_
    exact jr () trivial (by simp only [hb0];rfl)
   have hb0:a1=false:=(bf hc)
   refine vk (VOK.lit (Aa) hb0) ?_;refine gf ?_;refine gf ?_;refine gf ?_;refine vk (Ah) ?_;refine RL.gk [2,4,5,6,27] ?_;refine .nil ?_
   exact jr () trivial (by simp only [hb0];rfl)
  rintro _ _
  rcases brc h with ⟨hc,h⟩|⟨hc,h⟩
  ·refine cnt hc ?_
   refine .region ?_;refine vk (Aa) ?_
   obtain ⟨x3,g3,h⟩:=bnd h
   refine vk ((Ae (Ca g3) Tryz.call121).deep) ?_;refine vk ((Fr (GC [x2.1,x3]) PQ).deep) ?_
   obtain ⟨x4,g4,h⟩:=bnd h
   refine vk (Ae (Nb g4) Tryz.call165) ?_;refine ar [2,4,5,6] ?_;refine .seq ?_;refine .drawn 9 A4 (by kernel_rfl) ?_;refine dv (Aa) ?_
   obtain ⟨x5,g5,h⟩:=bnd h
   refine dv ((Ae (Ca g5) Tryz.call121).deep) ?_;refine dv (vbd Y1 XS Yp) ?_;refine dv (vfa AT) ?_;refine dv (Ak AD) ?_;refine dv (vbd Xe Re RO) ?_
   obtain ⟨x6,g6,h⟩:=bnd h
   refine dv (VOK.tupd (vs:=[.ag [.b x6.1.1,.sl (L x6.1.2.1),.sl (L x6.1.2.2)],.i .i64 x6.2]) (Ae (GB g6) Tryz.call170)) ?_;refine dv (vex) ?_;refine dv (vex) ?_;refine dz ?_
   refine stn ?_ Ad (by decide)
   refine ar [4,5] ?_;refine .ret ?_
   cases h
   exact ⟨_,_,⟨.inr rfl,Af,Ad,p3⟩,rfl,rfl⟩
  refine cnf (bf hc) ?_;refine .skip ?_
  show AW _ _ _ _ _ _
  refine .seq ?_;refine .drawn 9 A4 (by kernel_rfl) ?_;refine dv (Aa) ?_
  obtain ⟨x7,g7,h⟩:=bnd h
  refine dv ((Ae (Ca g7) Tryz.call121).deep) ?_;refine dv (vbd Y1 XS Yp) ?_;refine dv (vfa AT) ?_;refine dv (Ak AD) ?_;refine dv (vbd Xe Re RO) ?_
  obtain ⟨x8,g8,h⟩:=bnd h
  refine dv (VOK.tupd (vs:=[.ag [.b x8.1.1,.sl (L x8.1.2.1),.sl (L x8.1.2.2)],.i .i64 x8.2]) (Ae (GB g8) Tryz.call170)) ?_;refine dv (vex) ?_;refine dv (vex) ?_;refine dz ?_
  refine stn ?_ Ad (by decide)
  refine ar [4,5] ?_;refine .ret ?_
  cases h
  exact ⟨_,_,⟨.inr rfl,Af,Ad,p3⟩,rfl,rfl⟩
 refine cnt (ntt (bf hc)) ?_;refine .sr ?_;refine vk (vbd Bq AG AH) ?_
 refine stn ?_ Ad (by decide)
 refine ar [1,2,4,5] ?_;refine .ret ?_
 cases h
 exact ⟨_,_,⟨.inr rfl,Af,Ad,p3⟩,rfl,rfl⟩
def GL (a0:RT) : Option (RT×Int):=((GK a0 a0.1).bind fun x1=>(some (x1.1,x1.2)))
theorem Lf {a0:RT} {r:RT×Int} (h:GL a0=some r) :
  Fn Tryz.prog 81 [.ag [.b a0.1,.sl (L a0.2.1),.sl (L a0.2.2)]] (.tup [.d (.ag [.b r.1.1,.sl (L r.1.2.1),.sl (L r.1.2.2)]),.d (.i .i64 r.2)]):=by
 unfold GL at h
 refine Fn.ofC (rs:=[.cell 2 32,.tmp 3]) (nt:=10) Tryz.func81 rfl rfl rfl (by simp) rfl ?_;refine .sr ?_;refine vk (vbx) ?_;refine vk (van (Ai AG) AH) ?_;refine ar [1,2,3] ?_;refine .sr ?_;refine vk (Aj Af Ad) ?_;refine vk (vfa AT) ?_;refine vk (Ak AD) ?_
 obtain ⟨x1,g1,h⟩:=bnd h
 refine vk (VOK.tupd (vs:=[.ag [.b x1.1.1,.sl (L x1.1.2.1),.sl (L x1.1.2.2)],.i .i64 x1.2]) (Ae (La g1) Tryz.call162)) ?_;refine vk (vex) ?_;refine vk (vex) ?_
 refine stn ?_ Ad (by decide)
 refine ar [2,3] ?_;refine .ret ?_
 cases h
 exact ⟨_,_,⟨.inr rfl,Af,Ad,p3⟩,rfl,rfl⟩
def JO (a0:RT) : Option (RT×Int):=((GK a0 (!a0.1)).bind fun x1=>(some (x1.1,x1.2)))
theorem Rm {a0:RT} {r:RT×Int} (h:JO a0=some r) :
  Fn Tryz.prog 80 [.ag [.b a0.1,.sl (L a0.2.1),.sl (L a0.2.2)]] (.tup [.d (.ag [.b r.1.1,.sl (L r.1.2.1),.sl (L r.1.2.2)]),.d (.i .i64 r.2)]):=by
 unfold JO at h
 refine Fn.ofC (rs:=[.cell 2 32,.tmp 3]) (nt:=11) Tryz.func80 rfl rfl rfl (by simp) rfl ?_;refine .sr ?_;refine vk (vbx) ?_;refine vk (van (Ai AG) AH) ?_;refine ar [1,2,3] ?_;refine .sr ?_;refine vk (Aj Af Ad) ?_;refine vk (vfa AT) ?_;refine vk (Ak AD) ?_;refine vk (vnt) ?_
 obtain ⟨x1,g1,h⟩:=bnd h
 refine vk (VOK.tupd (vs:=[.ag [.b x1.1.1,.sl (L x1.1.2.1),.sl (L x1.1.2.2)],.i .i64 x1.2]) (Ae (La g1) Tryz.call162)) ?_;refine vk (vex) ?_;refine vk (vex) ?_
 refine stn ?_ Ad (by decide)
 refine ar [2,3] ?_;refine .ret ?_
 cases h
 exact ⟨_,_,⟨.inr rfl,Af,Ad,p3⟩,rfl,rfl⟩
def D5 (a0:RT) : Option (Int):=((C9 a0).bind fun x1=>(if ((!x1)||(decide (((List.length a0.2.1:Nat) : Int)=0)))=true then (some (0)) else (if a0.1=true then (some ((-1))) else (some (1)))))
theorem F7 {a0:RT} {r:Int} (h:D5 a0=some r) :
  Fn Tryz.prog 86 [.ag [.b a0.1,.sl (L a0.2.1),.sl (L a0.2.2)]] (.d (.i .i64 r)):=by
 unfold D5 at h
 refine Fn.o1 2 16 Tryz.func86 ?_;refine .sr ?_;refine vk (vbx) ?_;refine ar [1,2] ?_;refine .seq ?_;refine .block ?_;refine .seq ?_
 obtain ⟨x1,g1,h⟩:=bnd h
 refine AW.mr (σ:=Unit) (fun _=>True) (fun _=>[(1,.d (.ptr [.b a0.1,.sl (L a0.2.1),.sl (L a0.2.2)])),(2,.d (.i .i64 0)),(3,.d (.b ((!x1)||(decide (((List.length a0.2.1:Nat):Int)=0)))))]) (fun _=>[]) ?_ ?_
 ·skip
  refine .region ?_;refine vk (Aj Af Ad) ?_;refine vk (Ae (Ch g1) Tryz.call45) ?_;refine vk (vnt) ?_
  by_cases hc:x1=true
  ·have hb0:(!x1)=false:=(ntf hc)
   refine vk (VOK.lit (Aa) hb0) ?_;refine vk (vfa AA) ?_;refine vk (Ak AQ) ?_;refine vk (A7 (Ab _) (Ax _) B0) ?_;refine vk (vbi) ?_;refine vk (Ah) ?_;refine asd ?_;refine RL.gk [1,2,3] ?_;refine .nil ?_
   exact jr () trivial (by simp only [hb0];rfl)
  have hb0:(!x1)=true:=(ntt (bf hc))
  refine vk (VOK.lit (Aa) hb0) ?_;refine gf ?_;refine gf ?_;refine gf ?_;refine gf ?_;refine vk (Ah) ?_;refine asd ?_;refine RL.gk [1,2,3] ?_;refine .nil ?_
  exact jr () trivial (by simp only [hb0];rfl)
 rintro _ _
 rcases brc h with ⟨hc,h⟩|⟨hc,h⟩
 ·refine cnt hc ?_
  refine .sr ?_;refine ar [2] ?_;refine .ret ?_
  cases h
  exact ⟨rfl,rfl⟩
 refine cnf (bf hc) ?_;refine .sr ?_;refine vk (vfa AT) ?_;refine vk (Ak AD) ?_;refine ar [2,13] ?_
 rcases brc h with ⟨hc,h⟩|⟨hc,h⟩
 ·refine cnt hc ?_
  refine .sr ?_;refine ar [2] ?_;refine .ret ?_
  cases h
  exact ⟨rfl,rfl⟩
 refine cnf (bf hc) ?_;refine .skip ?_
 show AW _ _ _ _ _ _
 refine .sr ?_;refine ar [2] ?_;refine .ret ?_
 cases h
 exact ⟨rfl,rfl⟩
def DD (a0:RT) : Option (Bool):=((C9 a0).bind fun x1=>(Option.bind ((if x1=true then (Dp.bind fun x3=>((Ho a0.2.2 x3).bind fun x4=>(some x4))) else (some false)) : Option (Bool)) fun (z1:Bool)=>(some (z1))))
theorem IA {a0:RT} {r:Bool} (h:DD a0=some r) :
  Fn Tryz.prog 206 [.ag [.b a0.1,.sl (L a0.2.1),.sl (L a0.2.2)]] (.d (.b r)):=by
 unfold DD at h
 refine Fn.o1 2 11 Tryz.func206 ?_;refine .sr ?_;refine vk (vbx) ?_;refine ar [1,2] ?_;refine .seq ?_
 obtain ⟨x1,g1,h⟩:=bnd h
 obtain ⟨z1,hz,h⟩:=bnd h
 refine AW.mr (σ:=Unit) (fun _=>True) (fun _=>[(2,.d (.b z1))]) (fun _=>[]) ?_ ?_
 ·skip
  refine .drawn 8 A4 (by kernel_rfl) ?_;refine dv (Aj Af Ad) ?_;refine dv (Ae (Ch g1) Tryz.call45) ?_
  rcases brc hz with ⟨hc,hz⟩|⟨hc,hz⟩
  ·have hb0:x1=true:=hc
   refine dv (VOK.lit (Aa) hb0) ?_;refine dv (vfa Bg) ?_;refine dv (Ak AQ) ?_
   obtain ⟨x3,g3,hz⟩:=bnd hz
   refine dv ((Ae (Ca g3) Tryz.call121).deep) ?_
   obtain ⟨x4,g4,hz⟩:=bnd hz
   refine dv (Ae (IW g4) Tryz.call112) ?_;refine dv (Ah) ?_;refine dz ?_;refine asd ?_;refine RL.gk [2] ?_;refine .nil ?_
   cases hz
   exact jr () trivial
  have hb0:x1=false:=(bf hc)
  refine dv (VOK.lit (Aa) hb0) ?_;refine dgf ?_;refine dgf ?_;refine dgf ?_;refine dgf ?_;refine dv (Ah) ?_;refine dz ?_;refine asd ?_;refine RL.gk [2] ?_;refine .nil ?_
  cases hz
  exact jr () trivial
 rintro _ _
 refine .ret ?_
 cases h
 exact ⟨rfl,rfl⟩
def DW (a0:RT) : Option (Bool):=((DD a0).bind fun x1=>(some ((x1&&(!a0.1)))))
theorem GS {a0:RT} {r:Bool} (h:DW a0=some r) :
  Fn Tryz.prog 163 [.ag [.b a0.1,.sl (L a0.2.1),.sl (L a0.2.2)]] (.d (.b r)):=by
 unfold DW at h
 refine Fn.o1 2 10 Tryz.func163 ?_;refine .sr ?_;refine vk (vbx) ?_;refine ar [1,2] ?_;refine .seq ?_
 obtain ⟨x1,g1,h⟩:=bnd h
 refine AW.mr (σ:=Unit) (fun _=>True) (fun _=>[(2,.d (.b (x1&&(!a0.1))))]) (fun _=>[]) ?_ ?_
 ·skip
  refine .region ?_;refine vk (Aj Af Ad) ?_;refine vk (Ae (IA g1) Tryz.call206) ?_
  by_cases hc:x1=true
  ·have hb0:x1=true:=hc
   refine vk (VOK.lit (Aa) hb0) ?_;refine vk (vfa AT) ?_;refine vk (Ak AD) ?_;refine vk (vnt) ?_;refine vk (Ah) ?_;refine asd ?_;refine RL.gk [2] ?_;refine .nil ?_
   exact jr () trivial (by simp only [hb0];rfl)
  have hb0:x1=false:=(bf hc)
  refine vk (VOK.lit (Aa) hb0) ?_;refine gf ?_;refine gf ?_;refine gf ?_;refine vk (Ah) ?_;refine asd ?_;refine RL.gk [2] ?_;refine .nil ?_
  exact jr () trivial (by simp only [hb0];rfl)
 rintro _ _
 refine .ret ?_
 cases h
 exact ⟨rfl,rfl⟩
def Bs (a0:(List Int)) (a1:BH) (K0:Int→Option (Int)) : Nat→Int→Int→Option (Int)
 | 0,_,_=>none
 | k+1,s2,s3=>(if s3<((List.length a0:Nat):Int) then ((rd? a0 s3).bind fun x4=>((a1.g x4).bind fun x5=>(if x5=true then (some (s3)) else (Bs a0 a1 K0 k s2 (w64 (s3+1)))))) else (K0 s2))
def CT (a0:(List Int)) (a1:BH) : Option (Int):=(jn (fun (z1:Int)=>(some ((-1)))) fun K0=>(Bs a0 a1 K0 Cm 0 0))
theorem GD {a0:(List Int)} {a1:BH} (oa1:II a1) {r:Int} (h:CT a0 a1=some r) :
  Fn Tryz.prog 225 [.sl (Is a0),a1.dv] (.d (.i .i64 r)):=by
 unfold CT at h
 refine Fn.o1 4 19 Tryz.func225 ?_;refine .sr ?_;refine ar [0,1,4] ?_;refine .seq ?_;refine .sr ?_;refine vk (Aa) ?_;refine vk (A7 (BZ _) (HC _) Hm) ?_;refine vk (Aa) ?_;refine rk [0,1,4,7,8] ?_
 obtain ⟨K0,hK0,h⟩:=Du h
 refine AW.mr (σ:=Int) (fun p=>K0 p=some r) (fun p=>[(4,.d (.i .i64 p))]) (fun p=>[]) ?_ ?_
 ·skip
  refine .block ?_
  refine .loop (.gk [0,1,4,7,8] ?_)
  refine AL.ind (σ:=Nat×Int×Int) (m:=fun p=>p.1) (e:=fun p=>[(0,.d (.sl (Is a0))),(1,.d (a1.dv)),(4,.d (.i .i64 p.2.1)),(7,.d (.i .i64 ((List.length a0:Nat):Int))),(8,.d (.i .i64 p.2.2))]) (h:=fun p=>[]) (I:=fun p=>Bs a0 a1 K0 p.1 p.2.1 p.2.2=some r) ?_ (Cm,0,0) h
  rintro ⟨k,s2,s3⟩ h ih
  dsimp only at h ih ⊢
  rcases k with _|k
  ·rw [Bs] at h;cases h
  rw [Bs] at h
  refine .sr ?_;refine vk (vbi) ?_;refine rk [0,1,4,7,8,9] ?_;refine .seq ?_
  rcases brc h with ⟨hc,h⟩|⟨hc,h⟩
  ·refine cnt (dT hc) ?_
   refine .skip ?_
   show AW _ _ _ _ _ _
   refine .seq ?_;refine .block ?_;refine .sr ?_;refine vk (Aa) ?_;refine ar [0,1,4,5,7,8] ?_;refine .sr ?_;refine vk (Aa) ?_;refine vk (Aa) ?_;refine vk (Aa) ?_
   obtain ⟨x4,g4,h⟩:=bnd h
   obtain ⟨n4,p04,q4⟩:=BA g4
   refine vk (vix n4 p04 (NE q4) rfl JB) ?_;refine vk (Ak Dl) ?_
   obtain ⟨x5,g5,h⟩:=bnd h
   refine vk (N4 (oa1 _ _ g5)) ?_;refine rk [0,1,4,5,7,8,16] ?_
   rcases brc h with ⟨hc,h⟩|⟨hc,h⟩
   ·refine cnt hc ?_
    refine .sr ?_;refine vk (Aa) ?_;refine ar [0,1,4,7,8] ?_;refine .ret ?_
    cases h
    exact ⟨rfl,rfl⟩
   refine cnf (bf hc) ?_;refine .skip ?_
   show AW _ _ _ _ _ _
   refine .region ?_;refine vk (vbi) ?_;refine vk (Aa) ?_;refine .nil ?_;refine AL.gk [0,1,4,7,8] ?_
   exact ih (k,s2,(w64 (s3+1))) h (Nat.lt_succ_self _)
  refine cnf (dF hc) ?_;refine .gk [4] ?_;refine .exit ?_
  exact jr (s2) h
 rintro z1 h
 try dsimp only at h ⊢
 subst hK0
 show AW _ _ _ _ _ _
 refine .sr ?_;refine ar [4] ?_;refine .ret ?_
 cases h
 exact ⟨rfl,rfl⟩
def BP (a0:(List Int)) (a1:BH) : Option (Bool):=((CT a0 a1).bind fun x1=>(some ((decide (0≤x1)))))
theorem Da {a0:(List Int)} {a1:BH} (oa1:II a1) {r:Bool} (h:BP a0 a1=some r) :
  Fn Tryz.prog 175 [.sl (Is a0),a1.dv] (.d (.b r)):=by
 unfold BP at h
 refine Fn.o1 4 9 Tryz.func175 ?_;refine .sr ?_;refine ar [0,1,4] ?_;refine .sr ?_;refine vk (Aa) ?_;refine vk (Aa) ?_
 obtain ⟨x1,g1,h⟩:=bnd h
 refine vk (Ae (GD oa1 g1) Tryz.call225) ?_;refine vk (vbi) ?_;refine ar [4] ?_;refine .ret ?_
 cases h
 exact ⟨rfl,rfl⟩
def BK (a0:(List Int)) (a1:Int) (K0:Int→Option (Int)) : Nat→Int→Int→Option (Int)
 | 0,_,_=>none
 | k+1,s2,s3=>(if s3<((List.length a0:Nat):Int) then ((rd? a0 s3).bind fun x4=>(if a1=x4 then (some (s3)) else (BK a0 a1 K0 k s2 (w64 (s3+1))))) else (K0 s2))
def DZ (a0:(List Int)) (a1:Int) : Option (Int):=(jn (fun (z1:Int)=>(some ((-1)))) fun K0=>(BK a0 a1 K0 Cm 0 0))
theorem Ic {a0:(List Int)} {a1:Int} {r:Int} (h:DZ a0 a1=some r) :
  Fn Tryz.prog 226 [.sl (Is a0),.i .i64 a1] (.d (.i .i64 r)):=by
 unfold DZ at h
 refine Fn.o1 4 19 Tryz.func226 ?_;refine .sr ?_;refine ar [0,1,4] ?_;refine .seq ?_;refine .sr ?_;refine vk (Aa) ?_;refine vk (A7 (BZ _) (HC _) Hm) ?_;refine vk (Aa) ?_;refine rk [0,1,4,7,8] ?_
 obtain ⟨K0,hK0,h⟩:=Du h
 refine AW.mr (σ:=Int) (fun p=>K0 p=some r) (fun p=>[(4,.d (.i .i64 p))]) (fun p=>[]) ?_ ?_
 ·skip
  refine .block ?_
  refine .loop (.gk [0,1,4,7,8] ?_)
  refine AL.ind (σ:=Nat×Int×Int) (m:=fun p=>p.1) (e:=fun p=>[(0,.d (.sl (Is a0))),(1,.d (.i .i64 a1)),(4,.d (.i .i64 p.2.1)),(7,.d (.i .i64 ((List.length a0:Nat):Int))),(8,.d (.i .i64 p.2.2))]) (h:=fun p=>[]) (I:=fun p=>BK a0 a1 K0 p.1 p.2.1 p.2.2=some r) ?_ (Cm,0,0) h
  rintro ⟨k,s2,s3⟩ h ih
  dsimp only at h ih ⊢
  rcases k with _|k
  ·rw [BK] at h;cases h
  rw [BK] at h
  refine .sr ?_;refine vk (vbi) ?_;refine rk [0,1,4,7,8,9] ?_;refine .seq ?_
  rcases brc h with ⟨hc,h⟩|⟨hc,h⟩
  ·refine cnt (dT hc) ?_
   refine .skip ?_
   show AW _ _ _ _ _ _
   refine .seq ?_;refine .block ?_;refine .sr ?_;refine vk (Aa) ?_;refine ar [0,1,4,5,7,8] ?_;refine .sr ?_;refine vk (Aa) ?_;refine vk (Aa) ?_;refine vk (Aa) ?_
   obtain ⟨x4,g4,h⟩:=bnd h
   obtain ⟨n4,p04,q4⟩:=BA g4
   refine vk (vix n4 p04 (NE q4) rfl JB) ?_;refine vk (Ak Dl) ?_;refine vk (vbi) ?_;refine rk [0,1,4,5,7,8,16] ?_
   rcases brc h with ⟨hc,h⟩|⟨hc,h⟩
   ·refine cnt (dT hc) ?_
    refine .sr ?_;refine vk (Aa) ?_;refine ar [0,1,4,7,8] ?_;refine .ret ?_
    cases h
    exact ⟨rfl,rfl⟩
   refine cnf (dF hc) ?_;refine .skip ?_
   show AW _ _ _ _ _ _
   refine .region ?_;refine vk (vbi) ?_;refine vk (Aa) ?_;refine .nil ?_;refine AL.gk [0,1,4,7,8] ?_
   exact ih (k,s2,(w64 (s3+1))) h (Nat.lt_succ_self _)
  refine cnf (dF hc) ?_;refine .gk [4] ?_;refine .exit ?_
  exact jr (s2) h
 rintro z1 h
 try dsimp only at h ⊢
 subst hK0
 show AW _ _ _ _ _ _
 refine .sr ?_;refine ar [4] ?_;refine .ret ?_
 cases h
 exact ⟨rfl,rfl⟩
def Db (a0:(List Int)) (a1:Int) : Option (Bool):=((DZ a0 a1).bind fun x1=>(some ((decide (0≤x1)))))
theorem GY {a0:(List Int)} {a1:Int} {r:Bool} (h:Db a0 a1=some r) :
  Fn Tryz.prog 178 [.sl (Is a0),.i .i64 a1] (.d (.b r)):=by
 unfold Db at h
 refine Fn.o1 4 9 Tryz.func178 ?_;refine .sr ?_;refine ar [0,1,4] ?_;refine .sr ?_;refine vk (Aa) ?_;refine vk (Aa) ?_
 obtain ⟨x1,g1,h⟩:=bnd h
 refine vk (Ae (Ic g1) Tryz.call226) ?_;refine vk (vbi) ?_;refine ar [4] ?_;refine .ret ?_
 cases h
 exact ⟨rfl,rfl⟩
def IP (a0:Int) : Option (Bool):=(some ((decide (a0<0))))
theorem M6 {a0:Int} {r:Bool} (h:IP a0=some r) :
  Fn Tryz.prog 176 [.i .i64 a0] (.d (.b r)):=by
 unfold IP at h
 refine Fn.o1 2 5 Tryz.func176 ?_;refine .sr ?_;refine ar [0,2] ?_;refine .sr ?_;refine vk (Aa) ?_;refine vk (vbi) ?_;refine ar [2] ?_;refine .ret ?_
 cases h
 exact ⟨rfl,rfl⟩
def IL (a0:Int) : Option (Bool):=(some ((decide (4096<a0))))
theorem MY {a0:Int} {r:Bool} (h:IL a0=some r) :
  Fn Tryz.prog 177 [.i .i64 a0] (.d (.b r)):=by
 unfold IL at h
 refine Fn.o1 2 5 Tryz.func177 ?_;refine .sr ?_;refine ar [0,2] ?_;refine .sr ?_;refine vk (Aa) ?_;refine vk (vbi) ?_;refine ar [2] ?_;refine .ret ?_
 cases h
 exact ⟨rfl,rfl⟩
def Ev (a0:(List Int)) (K0:Int→Int→Int→Option (Int×Int)) : Nat→Int→Int→Int→Int→Option (Int×Int)
 | 0,_,_,_,_=>none
 | k+1,s7,s8,s9,s10=>(if s10<((List.length a0:Nat):Int) then ((rd? a0 s10).bind fun x11=>((Q8 (s9≠0)).bind fun x12=>(if (w64 (Int.tdiv 4096 s9))<x11 then (some (0,8)) else (Ev a0 K0 k s7 s8 (w64 (s9 * x11)) (w64 (s10+1)))))) else (K0 s7 s8 s9))
def EZ (a0:(List Int)) : Option (Int×Int):=(if 8<((List.length a0:Nat) : Int) then (some (0,4)) else ((BP a0 (⟨.fn 176 [] [],fun x=>IP x⟩ : BH)).bind fun x1=>(if x1=true then (some (0,3)) else ((BP a0 (⟨.fn 177 [] [],fun x=>IL x⟩ : BH)).bind fun x2=>(if x2=true then (some (0,8)) else ((Db a0 0).bind fun x3=>(if x3=true then (some (0,0)) else (jn (fun (z4:Int) (z5:Int) (z6:Int)=>(some (z6,0))) fun K0=>(Ev a0 K0 Cm 0 0 1 0)))))))))
theorem EE {a0:(List Int)} {r:Int×Int} (h:EZ a0=some r) :
  Fn Tryz.prog 98 [.sl (Is a0)] (.tup [.d (.i .i64 r.1),.d (.i .i64 r.2)]):=by
 unfold EZ at h
 refine Fn.of (rs:=[.tmp 2,.tmp 3]) (nt:=35) Tryz.func98 rfl rfl rfl (by simp) rfl ?_;refine .sr ?_;refine asd ?_;refine ar [0,2,3] ?_;refine .seq ?_;refine .block ?_;refine .sr ?_;refine vk (Aa) ?_;refine vk (A7 (BZ _) (HC _) Hm) ?_;refine vk (vbi) ?_;refine ar [0,2,3,7] ?_
 rcases brc h with ⟨hc,h⟩|⟨hc,h⟩
 ·refine cnt (dT hc) ?_
  refine .sr ?_;refine asd ?_;refine ar [0,2,3] ?_;refine .ret ?_
  cases h
  exact ⟨by decide,rfl,rfl,rfl⟩
 refine cnf (dF hc) ?_;refine .sr ?_;refine vk (Aa) ?_
 obtain ⟨x1,g1,h⟩:=bnd h
 refine vk (Ae (Da (Cr Tryz.call176 (fun _ _ h=>M6 h)) g1) Tryz.call175) ?_;refine ar [0,2,3,11] ?_
 rcases brc h with ⟨hc,h⟩|⟨hc,h⟩
 ·refine cnt hc ?_
  refine .sr ?_;refine asd ?_;refine ar [0,2,3] ?_;refine .ret ?_
  cases h
  exact ⟨by decide,rfl,rfl,rfl⟩
 refine cnf (bf hc) ?_;refine .sr ?_;refine vk (Aa) ?_
 obtain ⟨x2,g2,h⟩:=bnd h
 refine vk (Ae (Da (Cr Tryz.call177 (fun _ _ h=>MY h)) g2) Tryz.call175) ?_;refine ar [0,2,3,14] ?_
 rcases brc h with ⟨hc,h⟩|⟨hc,h⟩
 ·refine cnt hc ?_
  refine .sr ?_;refine asd ?_;refine ar [0,2,3] ?_;refine .ret ?_
  cases h
  exact ⟨by decide,rfl,rfl,rfl⟩
 refine cnf (bf hc) ?_;refine .sr ?_;refine vk (Aa) ?_
 obtain ⟨x3,g3,h⟩:=bnd h
 refine vk (Ae (GY g3) Tryz.call178) ?_;refine ar [0,2,3,17] ?_
 rcases brc h with ⟨hc,h⟩|⟨hc,h⟩
 ·refine cnt hc ?_
  refine .sr ?_;refine asd ?_;refine ar [0,2,3] ?_;refine .ret ?_
  cases h
  exact ⟨by decide,rfl,rfl,rfl⟩
 refine cnf (bf hc) ?_;refine .skip ?_
 show AW _ _ _ _ _ _
 refine .sr ?_;refine ar [0,2,3,4] ?_;refine .seq ?_;refine .sr ?_;refine vk (Aa) ?_;refine vk (A7 (BZ _) (HC _) Hm) ?_;refine vk (Aa) ?_;refine rk [2,3,4,20,21,22] ?_
 obtain ⟨K0,hK0,h⟩:=Du h
 refine AW.mr (σ:=Int×Int×Int) (fun p=>K0 p.1 p.2.1 p.2.2=some r) (fun p=>[(2,.d (.i .i64 p.1)),(3,.d (.i .i64 p.2.1)),(4,.d (.i .i64 p.2.2))]) (fun p=>[]) ?_ ?_
 ·skip
  refine .block ?_
  refine .loop (.gk [2,3,4,20,21,22] ?_)
  refine AL.ind (σ:=Nat×Int×Int×Int×Int) (m:=fun p=>p.1) (e:=fun p=>[(2,.d (.i .i64 p.2.1)),(3,.d (.i .i64 p.2.2.1)),(4,.d (.i .i64 p.2.2.2.1)),(20,.d (.sl (Is a0))),(21,.d (.i .i64 ((List.length a0:Nat):Int))),(22,.d (.i .i64 p.2.2.2.2))]) (h:=fun p=>[]) (I:=fun p=>Ev a0 K0 p.1 p.2.1 p.2.2.1 p.2.2.2.1 p.2.2.2.2=some r) ?_ (Cm,0,0,1,0) h
  rintro ⟨k,s7,s8,s9,s10⟩ h ih
  dsimp only at h ih ⊢
  rcases k with _|k
  ·rw [Ev] at h;cases h
  rw [Ev] at h
  refine .sr ?_;refine vk (vbi) ?_;refine rk [2,3,4,20,21,22,23] ?_;refine .seq ?_
  rcases brc h with ⟨hc,h⟩|⟨hc,h⟩
  ·refine cnt (dT hc) ?_
   refine .skip ?_
   show AW _ _ _ _ _ _
   refine .seq ?_;refine .block ?_;refine .sr ?_
   obtain ⟨x11,g11,h⟩:=bnd h
   obtain ⟨n11,p011,q11⟩:=BA g11
   refine vk (vix n11 p011 (NE q11) rfl JB) ?_;refine vk (Ak Dl) ?_;refine ar [2,3,4,6,20,21,22] ?_;refine .seq ?_;refine .sr ?_;refine vk (Aa) ?_;refine vk (Aa) ?_
   obtain ⟨x12,g12,h⟩:=bnd h
   refine vk (SW (Mk g12)) ?_;refine vk (vbi) ?_;refine rk [2,3,4,6,20,21,22,29] ?_
   rcases brc h with ⟨hc,h⟩|⟨hc,h⟩
   ·refine cnt (dT hc) ?_
    refine .sr ?_;refine asd ?_;refine ar [2,3,4,6,20,21,22] ?_;refine .ret ?_
    cases h
    exact ⟨by decide,rfl,rfl,rfl⟩
   refine cnf (dF hc) ?_;refine .skip ?_
   show AW _ _ _ _ _ _
   refine .region ?_;refine vk (Aa) ?_;refine vk (Aa) ?_;refine vk (vbi) ?_;refine asd ?_;refine .nil ?_
   show AW _ _ _ _ _ _
   refine .gk [2,3,4,20,21,22] ?_;refine .region ?_;refine vk (vbi) ?_;refine vk (Aa) ?_;refine .nil ?_;refine AL.gk [2,3,4,20,21,22] ?_
   exact ih (k,s7,s8,(w64 (s9 * x11)),(w64 (s10+1))) h (Nat.lt_succ_self _)
  refine cnf (dF hc) ?_;refine .gk [2,3,4] ?_;refine .exit ?_
  exact jr (s7,s8,s9) h
 rintro ⟨z4,z5,z6⟩ h
 try dsimp only at h ⊢
 subst hK0
 show AW _ _ _ _ _ _
 refine .sr ?_;refine vk (Aa) ?_;refine asd ?_;refine ar [2,3] ?_;refine .ret ?_
 cases h
 exact ⟨by decide,rfl,rfl,rfl⟩
def D4 (a0:Arr) : Option (Bool):=(Option.bind ((if ((List.length a0.shape:Nat) : Int)=0 then (if ((List.length a0.items:Nat) : Int)=1 then ((rd? a0.items 0).bind fun x2=>(some (!(decide (x2.kind=3))))) else (some false)) else (some false)) : Option (Bool)) fun (z1:Bool)=>(some (z1)))
theorem Fe {a0:Arr} {r:Bool} (h:D4 a0=some r) :
  Fn Tryz.prog 172 [.ag [.sl (Is a0.shape),.sl (Its a0.items)]] (.d (.b r)):=by
 unfold D4 at h
 refine Fn.o1 2 21 Tryz.func172 ?_;refine .sr ?_;refine vk (vbx) ?_;refine ar [1,2] ?_;refine .seq ?_
 obtain ⟨z1,hz,h⟩:=bnd h
 refine AW.mr (σ:=Unit) (fun _=>True) (fun _=>[(2,.d (.b z1))]) (fun _=>[]) ?_ ?_
 ·skip
  refine .region ?_;refine vk (vfa BW) ?_;refine vk (Ak E9) ?_;refine vk (A7 (BZ _) (HC _) Hm) ?_;refine vk (vbi) ?_
  rcases brc hz with ⟨hc,hz⟩|⟨hc,hz⟩
  ·have hb0:(decide (((List.length a0.shape:Nat):Int)=0))=true:=(dT hc)
   refine vk (VOK.lit (Aa) hb0) ?_;refine vk (vfa BG) ?_;refine vk (Ak Ek) ?_;refine vk (A7 (Bi _) (EY _) ET) ?_;refine vk (vbi) ?_;refine vk (Ah) ?_
   rcases brc hz with ⟨hc,hz⟩|⟨hc,hz⟩
   ·have hb1:(decide (((List.length a0.items:Nat):Int)=1))=true:=(dT hc)
    refine vk (VOK.lit (Aa) hb1) ?_;refine vk (vfa BG) ?_;refine vk (Ak Ek) ?_
    obtain ⟨x2,g2,hz⟩:=bnd hz
    obtain ⟨n2,p02,q2⟩:=BA g2
    refine vk (vix n2 p02 (Gl q2) rfl Fw) ?_;refine vk (vfa C6) ?_;refine vk (Ak BN) ?_;refine vk (vbi) ?_;refine vk (Ah) ?_;refine asd ?_;refine RL.gk [2] ?_;refine .nil ?_
    cases hz
    exact jr () trivial
   have hb1:(decide (((List.length a0.items:Nat):Int)=1))=false:=(dF hc)
   refine vk (VOK.lit (Aa) hb1) ?_;refine gf ?_;refine gf ?_;refine gf ?_;refine gf ?_;refine gf ?_;refine gf ?_;refine vk (Ah) ?_;refine asd ?_;refine RL.gk [2] ?_;refine .nil ?_
   cases hz
   exact jr () trivial
  have hb0:(decide (((List.length a0.shape:Nat):Int)=0))=false:=(dF hc)
  refine vk (VOK.lit (Aa) hb0) ?_;refine gf ?_;refine gf ?_;refine gf ?_;refine gf ?_;refine vk (Ah) ?_;refine vk (Aa) ?_;refine gf ?_;refine gf ?_;refine gf ?_;refine gf ?_;refine gf ?_;refine gf ?_;refine vk (Ah) ?_;refine asd ?_;refine RL.gk [2] ?_;refine .nil ?_
  cases hz
  exact jr () trivial
 rintro _ _
 refine .ret ?_
 cases h
 exact ⟨rfl,rfl⟩
def IC (a0:Int) : Option (Bool):=(some (((decide (0≤a0))&&((decide (a0≤1114111))&&((decide (a0<55296))||(decide (57343<a0)))))))
theorem M1 {a0:Int} {r:Bool} (h:IC a0=some r) :
  Fn Tryz.prog 231 [.i .i32 a0] (.d (.b r)):=by
 unfold IC at h
 refine Fn.o1 2 17 Tryz.func231 ?_;refine .sr ?_;refine ar [0,2] ?_;refine .seq ?_;refine AW.mr (σ:=Unit) (fun _=>True) (fun _=>[(2,.d (.b ((decide (0≤a0))&&((decide (a0≤1114111))&&((decide (a0<55296))||(decide (57343<a0)))))))]) (fun _=>[]) ?_ ?_
 ·skip
  refine .region ?_;refine vk (Aa) ?_;refine vk (vbi) ?_
  by_cases hc:0≤a0
  ·have hb0:(decide (0≤a0))=true:=(dT hc)
   refine vk (VOK.lit (Aa) hb0) ?_;refine vk (Aa) ?_;refine vk (vbi) ?_;refine vk (Ah) ?_
   by_cases hc:a0≤1114111
   ·have hb1:(decide (a0≤1114111))=true:=(dT hc)
    refine vk (VOK.lit (Aa) hb1) ?_;refine vk (Aa) ?_;refine vk (vbi) ?_
    by_cases hc:a0<55296
    ·have hb2:(decide (a0<55296))=true:=(dT hc)
     refine vk (VOK.lit (Aa) hb2) ?_;refine gf ?_;refine gf ?_;refine vk (Ah) ?_;refine vk (Ah) ?_;refine asd ?_;refine RL.gk [2] ?_;refine .nil ?_
     exact jr () trivial (by simp only [hb0,hb1,hb2];rfl)
    have hb2:(decide (a0<55296))=false:=(dF hc)
    refine vk (VOK.lit (Aa) hb2) ?_;refine vk (Aa) ?_;refine vk (vbi) ?_;refine vk (Ah) ?_;refine vk (Ah) ?_;refine asd ?_;refine RL.gk [2] ?_;refine .nil ?_
    exact jr () trivial (by simp only [hb0,hb1,hb2];rfl)
   have hb1:(decide (a0≤1114111))=false:=(dF hc)
   refine vk (VOK.lit (Aa) hb1) ?_;refine gf ?_;refine gf ?_;refine gfu ?_;refine gf ?_;refine gf ?_;refine gf ?_;refine vk (Ah) ?_;refine asd ?_;refine RL.gk [2] ?_;refine .nil ?_
   exact jr () trivial (by simp only [hb0,hb1];rfl)
  have hb0:(decide (0≤a0))=false:=(dF hc)
  refine vk (VOK.lit (Aa) hb0) ?_;refine gf ?_;refine gf ?_;refine vk (Ah) ?_;refine vk (Aa) ?_;refine gf ?_;refine gf ?_;refine gfu ?_;refine gf ?_;refine gf ?_;refine gf ?_;refine vk (Ah) ?_;refine asd ?_;refine RL.gk [2] ?_;refine .nil ?_
  exact jr () trivial (by simp only [hb0];rfl)
 rintro _ _
 refine .ret ?_
 cases h
 exact ⟨rfl,rfl⟩
theorem Zy : 0<AK Tryz.prog 3:=by rw [Mj];decide
def IS (a:(List Int)) : Option ((List Int)):=ap? 17592186044416 [] a
theorem Km {a r:(List Int)} (h:IS a=some r) : Fn Tryz.prog 182 [.sl (Is a)] (.own 3 (Is r)):=by
 unfold IS at h
 refine Fn.o1 2 8 Tryz.func182 ?_;refine .sr ?_;refine asn ?_;refine rn ?_;refine .seq ?_;refine .sr ?_;refine mvd ?_
 refine nq (fun b hb=>?_) (HC _) Hm
 refine rn ?_
 refine cnd (fun hc=>?_) (fun hc=>?_)
 ·simp only [if_true] at hc
  have h0:Is a=[]:=by
   apply Classical.byContradiction
   intro h;rw [hb h] at hc;cases hc
  have h1:r=[]:=by
   have:=(K7 h).2
   rw [this,List.nil_append]
   exact List.length_eq_zero_iff.1 (by rw [← BZ a,h0];rfl)
  subst h1
  refine .sr ?_;refine asn ?_;refine rn ?_;refine .gh (Gh.nlOwn (t:=2) 3 Zy rfl) ?_;refine .ret ?_
  exact ⟨rfl,rfl⟩
 ·refine .skip ?_
  show AW _ _ _ _ _ _
  refine .sr ?_;refine vk (Ih (ds':=Is []) rfl (IB []) LI) ?_;refine mvd ?_
  refine Abd Wq h YU ?_ SD BZ LI
  refine aso ?_;refine rn ?_;refine .ret ?_
  exact ⟨rfl,rfl⟩
def EK (a0:RT) : Option (RT):=((FR a0.2.1).bind fun x1=>((FR a0.2.2).bind fun x2=>(some ((a0.1,x1,x2)))))
theorem Hg {a0:RT} {r:RT} (h:EK a0=some r) :
  Fn Tryz.prog 157 [.ag [.b a0.1,.sl (L a0.2.1),.sl (L a0.2.2)]] (.d (.ag [.b r.1,.sl (L r.2.1),.sl (L r.2.2)])):=by
 unfold EK at h
 refine Fn.ofC (rs:=[.cell 2 32]) (nt:=12) Tryz.func157 rfl rfl rfl (by simp) rfl ?_;refine .sr ?_;refine vk (vbx) ?_;refine vk (van (Ai AG) AH) ?_;refine rk [1,2] ?_;refine .seq ?_;refine .drawn 9 A4 (by kernel_rfl) ?_;refine dv (vfa AT) ?_;refine dv (Ak AD) ?_;refine dv (vfa AA) ?_;refine dv (Ak AQ) ?_
 obtain ⟨x1,g1,h⟩:=bnd h
 refine dv ((Ae (Fv g1) Tryz.call215).deep) ?_;refine dv (vfa Bg) ?_;refine dv (Ak AQ) ?_
 obtain ⟨x2,g2,h⟩:=bnd h
 refine dv ((Ae (Fv g2) Tryz.call215).deep) ?_;refine dv (vbd Bq AG AH) ?_;refine dz ?_
 refine stn ?_ Ad (by decide)
 refine rk [2] ?_;refine .ret ?_
 cases h
 exact ⟨_,⟨.inr rfl,Af,Ad,p3⟩,rfl⟩
def Dw (a0:RT) : Option (Itm):=((EK a0).bind fun x1=>(some ((Itm.mk 1 x1 0 []))))
theorem EO {a0:RT} {r:Itm} (h:Dw a0=some r) :
  Fn Tryz.prog 71 [.ag [.b a0.1,.sl (L a0.2.1),.sl (L a0.2.2)]] (.d (.ag [.i .u8 r.kind,.b r.num.1,.sl (L r.num.2.1),.sl (L r.num.2.2),.i .i32 r.char,.sl (Ars r.box)])):=by
 unfold Dw at h
 refine Fn.ofC (rs:=[.cell 2 83]) (nt:=6) Tryz.func71 rfl rfl rfl (by simp) rfl ?_;refine .sr ?_;refine vk (vbx) ?_;refine vk (van (Ai CE) CK) ?_;refine rk [1,2] ?_;refine .sr ?_;refine vk (Aj Af Ad) ?_
 obtain ⟨x1,g1,h⟩:=bnd h
 refine vk (Ae (Hg g1) Tryz.call157) ?_;refine vk (vbd Jb CE CK) ?_
 refine stn ?_ AI (by decide)
 refine rk [2] ?_;refine .ret ?_
 cases h
 exact ⟨_,⟨.inr rfl,Bl,AI,p6⟩,rfl⟩
def KB (a0:Int) : Option (Itm):=(some ((Itm.mk 2 (false,[],[]) a0 [])))
theorem OM {a0:Int} {r:Itm} (h:KB a0=some r) :
  Fn Tryz.prog 228 [.i .i32 a0] (.d (.ag [.i .u8 r.kind,.b r.num.1,.sl (L r.num.2.1),.sl (L r.num.2.2),.i .i32 r.char,.sl (Ars r.box)])):=by
 unfold KB at h
 refine Fn.ofC (rs:=[.cell 2 83]) (nt:=5) Tryz.func228 rfl rfl rfl (by simp) rfl ?_;refine .sr ?_;refine vk (van (Ai CE) CK) ?_;refine rk [0,2] ?_;refine .sr ?_;refine vk (Aa) ?_;refine vk (vbd Jb CE CK) ?_
 refine stn ?_ AI (by decide)
 refine rk [2] ?_;refine .ret ?_
 cases h
 exact ⟨_,⟨.inr rfl,Bl,AI,p6⟩,rfl⟩
def GF (a0:Itm) : Option (Arr):=(some ((Arr.mk [] [a0])))
theorem I5 {a0:Itm} {r:Arr} (h:GF a0=some r) :
  Fn Tryz.prog 70 [.ag [.i .u8 a0.kind,.b a0.num.1,.sl (L a0.num.2.1),.sl (L a0.num.2.2),.i .i32 a0.char,.sl (Ars a0.box)]] (.d (.ag [.sl (Is r.shape),.sl (Its r.items)])):=by
 unfold GF at h
 refine Fn.ofC (rs:=[.cell 2 25]) (nt:=6) Tryz.func70 rfl rfl rfl (by simp) rfl ?_;refine .sr ?_;refine vk (vbx) ?_;refine vk (van (Ai BC) BY) ?_;refine rk [1,2] ?_;refine .sr ?_;refine vk (Aj Bl AI) ?_;refine vk ((Ih (Hy a0) (F9 [a0]) Gt).deep) ?_;refine vk (vbd FC BC BY) ?_
 refine stn ?_ Ap (by decide)
 refine rk [2] ?_;refine .ret ?_
 cases h
 exact ⟨_,⟨.inr rfl,AP,Ap,p2⟩,rfl⟩
def Mv (a0:Int) : Option (Arr):=((B6 a0).bind fun x1=>((Dw x1).bind fun x2=>((GF x2).bind fun x3=>(some (x3)))))
theorem Qf {a0:Int} {r:Arr} (h:Mv a0=some r) :
  Fn Tryz.prog 26 [.i .i64 a0] (.d (.ag [.sl (Is r.shape),.sl (Its r.items)])):=by
 unfold Mv at h
 refine Fn.ofC (rs:=[.cell 2 25]) (nt:=7) Tryz.func26 rfl rfl rfl (by simp) rfl ?_;refine .sr ?_;refine vk (van (Ai BC) BY) ?_;refine rk [0,2] ?_;refine .sr ?_;refine vk (Aa) ?_
 obtain ⟨x1,g1,h⟩:=bnd h
 refine vk (Ae (BD g1) Tryz.call72) ?_
 obtain ⟨x2,g2,h⟩:=bnd h
 refine vk (Ae (EO g2) Tryz.call71) ?_
 obtain ⟨x3,g3,h⟩:=bnd h
 refine vk (Ae (I5 g3) Tryz.call70) ?_
 refine stn ?_ Ap (by decide)
 refine rk [2] ?_;refine .ret ?_
 cases h
 exact ⟨_,⟨.inr rfl,AP,Ap,p2⟩,rfl⟩
def DA (a0:Arr) (a1:Dj) (K0:(List Int)→(List Itm)→Option (Arr)) : Nat→Int→(List Int)→(List Itm)→Option (Arr)
 | 0,_,_,_=>none
 | k+1,s4,s5,s6=>(if s4<((List.length a0.items:Nat):Int) then ((rd? a0.items s4).bind fun x7=>((a1.g x7).bind fun x8=>((ap? 1466015503701 s6 [x8]).bind fun x9=>(DA a0 a1 K0 k (w64 (s4+1)) s5 x9)))) else (K0 s5 s6))
def Ea (a0:Arr) (a1:Dj) : Option (Arr):=((IS a0.shape).bind fun x1=>(jn (fun (z2:(List Int)) (z3:(List Itm))=>(some ((Arr.mk z2 z3)))) fun K0=>(DA a0 a1 K0 Cm 0 x1 [])))
theorem EP {a0:Arr} {a1:Dj} (oa1:RH a1) {r:Arr} (h:Ea a0 a1=some r) :
  Fn Tryz.prog 174 [.ag [.sl (Is a0.shape),.sl (Its a0.items)],a1.dv] (.d (.ag [.sl (Is r.shape),.sl (Its r.items)])):=by
 unfold Ea at h
 refine Fn.ofC (rs:=[.cell 4 25]) (nt:=29) Tryz.func174 rfl rfl rfl (by simp) rfl ?_;refine .sr ?_;refine vk (vbx) ?_;refine vk (van (Ai BC) BY) ?_;refine rk [1,2,4] ?_;refine .sr ?_;refine vk (vfa BW) ?_;refine vk (Ak E9) ?_
 obtain ⟨x1,g1,h⟩:=bnd h
 refine vk ((Ae (Km g1) Tryz.call182).deep) ?_;refine vk (Yq FC BC (fun w I μ=>P8 w I μ)) ?_;refine vk (van (Ai BC) BY) ?_
 refine Ys ?_ Ap (by decide)
 refine rk [1,2,4,5] ?_;refine .seq ?_;refine .sr ?_;refine vk (vfa BG) ?_;refine vk (Ak Ek) ?_;refine vk (A7 (Bi _) (EY _) ET) ?_;refine vk (Aa) ?_;refine rk [1,4,5,13,14,15] ?_
 obtain ⟨K0,hK0,h⟩:=Du h
 refine AW.mr (σ:=(List Int)×(List Itm)) (fun p=>K0 p.1 p.2=some r) (fun p=>[(4,.nb [.sl (Is []),.sl (Its [])]),(5,.bp 0 0)]) (fun p=>[HO.box [.d (.sl (Is p.1)),.own 83 (Its p.2)]]) ?_ ?_
 ·skip
  refine .block ?_;refine .gh (Gh.nlOwnC (id:=0) (off:=1) 83 (by rw [S9];decide)) ?_
  refine .loop (.gk [1,4,5,13,14,15] ?_)
  refine AL.ind (σ:=Nat×Int×(List Int)×(List Itm)) (m:=fun p=>p.1) (e:=fun p=>[(1,.d (a1.dv)),(4,.nb [.sl (Is []),.sl (Its [])]),(5,.bp 0 0),(13,.d (.sl (Its a0.items))),(14,.d (.i .i64 ((List.length a0.items:Nat):Int))),(15,.d (.i .i64 p.2.1))]) (h:=fun p=>[HO.box [.d (.sl (Is p.2.2.1)),.own 83 (Its p.2.2.2)]]) (I:=fun p=>DA a0 a1 K0 p.1 p.2.1 p.2.2.1 p.2.2.2=some r) ?_ (Cm,0,x1,[]) h
  rintro ⟨k,s4,s5,s6⟩ h ih
  dsimp only at h ih ⊢
  rcases k with _|k
  ·rw [DA] at h;cases h
  rw [DA] at h
  refine .sr ?_;refine vk (vbi) ?_;refine rk [1,4,5,13,14,15,16] ?_;refine .seq ?_
  rcases brc h with ⟨hc,h⟩|⟨hc,h⟩
  ·refine cnt (dT hc) ?_
   refine .skip ?_
   show AW _ _ _ _ _ _
   refine .seq ?_;refine .block ?_;refine .sr ?_
   obtain ⟨x7,g7,h⟩:=bnd h
   obtain ⟨n7,p07,q7⟩:=BA g7
   refine vk (vix n7 p07 (Gl q7) rfl Fw) ?_;refine vk (Aj Bl AI) ?_;refine vk (van (Ai CE) CK) ?_
   refine stn ?_ AI (by decide)
   refine rk [1,4,5,7,13,14,15] ?_;refine .drawn 6 A4 (by kernel_rfl) ?_;refine dv (Fo BG) ?_;refine dv (Wb (cs:=[.d (.sl (Is s5)),.own 83 (Its s6)]) rfl rfl Ek) ?_;refine dv (Aa) ?_;refine dv (Eh Bl AI) ?_
   obtain ⟨x8,g8,h⟩:=bnd h
   refine dv (N4 (oa1 _ _ g8)) ?_;refine dv ((Ih (Hy x8) (F9 [x8]) Gt).deep) ?_;refine dz ?_
   obtain ⟨x9,g9,h⟩:=bnd h
   refine XI Nh g9 rfl rfl Qb ?_ Lk Bi Gt
   refine RL.gk [1,4,5,7,13,14,15,19,21,22,23,24,25] ?_;refine vk (Fo BG) ?_
   refine Qo (cs:=[.d (.sl (Is s5)),.un]) (c:=.un) rfl rfl ?_ Oz
   refine .nil ?_
   show AW _ _ _ _ _ _
   refine .gk [1,4,5,13,14,15] ?_;refine .region ?_;refine vk (vbi) ?_;refine vk (Aa) ?_;refine .nil ?_;refine AL.gk [1,4,5,13,14,15] ?_
   exact ih (k,(w64 (s4+1)),s5,x9) h (Nat.lt_succ_self _)
  refine cnf (dF hc) ?_;refine .gk [4,5] ?_;refine .exit ?_
  exact jr (s5,s6) h
 rintro ⟨z2,z3⟩ h
 try dsimp only at h ⊢
 subst hK0
 show AW _ _ _ _ _ _
 refine .sr ?_;refine fz (p:=.c 0 1) ?_;refine vk (JC (cs:=[.d (.sl (Is z2)),.d (.sl (Its z3))]) (ds:=[.sl (Is z2),.sl (Its z3)]) rfl AP Ap) ?_
 refine stn ?_ Ap (by decide)
 refine rk [4] ?_;refine .ret ?_
 cases h
 exact ⟨_,⟨.inr rfl,AP,Ap,p2⟩,rfl⟩
def F6 (rc_array_same:Itm→Option (Itm)) (a0:Itm) (K0:Int→Bool→(List Nat)→(List Nat)→Int→(List Arr)→Option (Itm)) : Nat→Int→Int→Bool→(List Nat)→(List Nat)→Int→(List Arr)→Option (Itm)
 | 0,_,_,_,_,_,_,_=>none
 | k+1,s8,s9,s10,s11,s12,s13,s14=>(if s8<((List.length a0.box:Nat):Int) then ((rd? a0.box s8).bind fun x15=>((Ea x15 (⟨.fn 173 [] [],fun x=>rc_array_same x⟩:Dj)).bind fun x16=>((ap? 2932031007402 s14 [x16]).bind fun x17=>(F6 rc_array_same a0 K0 k (w64 (s8+1)) s9 s10 s11 s12 s13 x17)))) else (K0 s9 s10 s11 s12 s13 s14))
def KP (rc_array_same:Itm→Option (Itm)) (a0:Itm) : Option (Itm):=((EK a0.num).bind fun x1=>(jn (fun (z2:Int) (z3:Bool) (z4:(List Nat)) (z5:(List Nat)) (z6:Int) (z7:(List Arr))=>(some ((Itm.mk z2 (z3,z4,z5) z6 z7)))) fun K0=>(F6 rc_array_same a0 K0 Cm 0 a0.kind x1.1 x1.2.1 x1.2.2 a0.char [])))
theorem RA {rc_array_same:Itm→Option (Itm)} (orc_array_same:∀ x0 r,rc_array_same x0=some r→Fn Tryz.prog 173 [.ag [.i .u8 x0.kind,.b x0.num.1,.sl (L x0.num.2.1),.sl (L x0.num.2.2),.i .i32 x0.char,.sl (Ars x0.box)]] (.d (.ag [.i .u8 r.kind,.b r.num.1,.sl (L r.num.2.1),.sl (L r.num.2.2),.i .i32 r.char,.sl (Ars r.box)]))) {a0:Itm} {r:Itm} (h:KP rc_array_same a0=some r) :
  Fn Tryz.prog 173 [.ag [.i .u8 a0.kind,.b a0.num.1,.sl (L a0.num.2.1),.sl (L a0.num.2.2),.i .i32 a0.char,.sl (Ars a0.box)]] (.d (.ag [.i .u8 r.kind,.b r.num.1,.sl (L r.num.2.1),.sl (L r.num.2.2),.i .i32 r.char,.sl (Ars r.box)])):=by
 unfold KP at h
 refine Fn.ofC (rs:=[.cell 2 83]) (nt:=30) Tryz.func173 rfl rfl rfl (by simp) rfl ?_;refine .sr ?_;refine vk (vbx) ?_;refine vk (van (Ai CE) CK) ?_;refine rk [1,2] ?_;refine .seq ?_;refine .drawn 9 A4 (by kernel_rfl) ?_;refine dv (vfa C6) ?_;refine dv (Ak BN) ?_;refine dv (vfa Ga) ?_;refine dv (Ak DQ) ?_;refine dv (vfa C8) ?_;refine dv (Aj Af Ad) ?_
 obtain ⟨x1,g1,h⟩:=bnd h
 refine dv (Ae (Hg g1) Tryz.call157) ?_;refine dv (Yq Jb CE (fun w I μ=>Xx w I μ)) ?_;refine dv (van (Ai CE) CK) ?_;refine dz ?_
 refine Ys ?_ AI (by decide)
 refine rk [1,2,3] ?_;refine .seq ?_;refine .sr ?_;refine vk (vfa C7) ?_;refine vk (Ak Gu) ?_;refine vk (A7 (Dv _) (Jr _) JI) ?_;refine vk (Aa) ?_;refine rk [2,3,15,16,17] ?_
 obtain ⟨K0,hK0,h⟩:=Du h
 refine AW.mr (σ:=Int×Bool×(List Nat)×(List Nat)×Int×(List Arr)) (fun p=>K0 p.1 p.2.1 p.2.2.1 p.2.2.2.1 p.2.2.2.2.1 p.2.2.2.2.2=some r) (fun p=>[(2,.nb [.i .u8 0,.b false,.sl (L []),.sl (L []),.i .i32 0,.sl (Ars [])]),(3,.bp 0 0)]) (fun p=>[HO.box [.d (.i .u8 p.1),.d (.b p.2.1),.d (.sl (L p.2.2.1)),.d (.sl (L p.2.2.2.1)),.d (.i .i32 p.2.2.2.2.1),.own 25 (Ars p.2.2.2.2.2)]]) ?_ ?_
 ·skip
  refine .block ?_;refine .gh (Gh.nlOwnC (id:=0) (off:=5) 25 (by rw [ZQ];decide)) ?_
  refine .loop (.gk [2,3,15,16,17] ?_)
  refine AL.ind (σ:=Nat×Int×Int×Bool×(List Nat)×(List Nat)×Int×(List Arr)) (m:=fun p=>p.1) (e:=fun p=>[(2,.nb [.i .u8 0,.b false,.sl (L []),.sl (L []),.i .i32 0,.sl (Ars [])]),(3,.bp 0 0),(15,.d (.sl (Ars a0.box))),(16,.d (.i .i64 ((List.length a0.box:Nat):Int))),(17,.d (.i .i64 p.2.1))]) (h:=fun p=>[HO.box [.d (.i .u8 p.2.2.1),.d (.b p.2.2.2.1),.d (.sl (L p.2.2.2.2.1)),.d (.sl (L p.2.2.2.2.2.1)),.d (.i .i32 p.2.2.2.2.2.2.1),.own 25 (Ars p.2.2.2.2.2.2.2)]]) (I:=fun p=>F6 rc_array_same a0 K0 p.1 p.2.1 p.2.2.1 p.2.2.2.1 p.2.2.2.2.1 p.2.2.2.2.2.1 p.2.2.2.2.2.2.1 p.2.2.2.2.2.2.2=some r) ?_ (Cm,0,a0.kind,x1.1,x1.2.1,x1.2.2,a0.char,[]) h
  rintro ⟨k,s8,s9,s10,s11,s12,s13,s14⟩ h ih
  dsimp only at h ih ⊢
  rcases k with _|k
  ·rw [F6] at h;cases h
  rw [F6] at h
  refine .sr ?_;refine vk (vbi) ?_;refine rk [2,3,15,16,17,18] ?_;refine .seq ?_
  rcases brc h with ⟨hc,h⟩|⟨hc,h⟩
  ·refine cnt (dT hc) ?_
   refine .skip ?_
   show AW _ _ _ _ _ _
   refine .seq ?_;refine .block ?_;refine .sr ?_
   obtain ⟨x15,g15,h⟩:=bnd h
   obtain ⟨n15,p015,q15⟩:=BA g15
   refine vk (vix n15 p015 (Jv q15) rfl Js) ?_;refine vk (Aj AP Ap) ?_;refine vk (van (Ai BC) BY) ?_
   refine stn ?_ Ap (by decide)
   refine rk [2,3,5,15,16,17] ?_;refine .drawn 5 A4 (by kernel_rfl) ?_;refine dv (Fo C7) ?_;refine dv (Wb (cs:=[.d (.i .u8 s9),.d (.b s10),.d (.sl (L s11)),.d (.sl (L s12)),.d (.i .i32 s13),.own 25 (Ars s14)]) rfl rfl Gu) ?_;refine dv (Eh AP Ap) ?_
   obtain ⟨x16,g16,h⟩:=bnd h
   refine dv (Ae (EP (Cr Tryz.call173 (fun _ _ h=>orc_array_same _ _ h)) g16) Tryz.call174) ?_;refine dv ((Ih (Qj x16) (NJ [x16]) Qt).deep) ?_;refine dz ?_
   obtain ⟨x17,g17,h⟩:=bnd h
   refine XI Yi g17 rfl rfl ZN ?_ TH Dv Qt
   refine RL.gk [2,3,5,15,16,17,21,23,24,25,26] ?_;refine vk (Fo C7) ?_
   refine Qo (cs:=[.d (.i .u8 s9),.d (.b s10),.d (.sl (L s11)),.d (.sl (L s12)),.d (.i .i32 s13),.un]) (c:=.un) rfl rfl ?_ ZO
   refine .nil ?_
   show AW _ _ _ _ _ _
   refine .gk [2,3,15,16,17] ?_;refine .region ?_;refine vk (vbi) ?_;refine vk (Aa) ?_;refine .nil ?_;refine AL.gk [2,3,15,16,17] ?_
   exact ih (k,(w64 (s8+1)),s9,s10,s11,s12,s13,x17) h (Nat.lt_succ_self _)
  refine cnf (dF hc) ?_;refine .gk [2,3] ?_;refine .exit ?_
  exact jr (s9,s10,s11,s12,s13,s14) h
 rintro ⟨z2,z3,z4,z5,z6,z7⟩ h
 try dsimp only at h ⊢
 subst hK0
 show AW _ _ _ _ _ _
 refine .sr ?_;refine fz (p:=.c 0 5) ?_;refine vk (JC (cs:=[.d (.i .u8 z2),.d (.b z3),.d (.sl (L z4)),.d (.sl (L z5)),.d (.i .i32 z6),.d (.sl (Ars z7))]) (ds:=[.i .u8 z2,.b z3,.sl (L z4),.sl (L z5),.i .i32 z6,.sl (Ars z7)]) rfl Bl AI) ?_
 refine stn ?_ AI (by decide)
 refine rk [2] ?_;refine .ret ?_
 cases h
 exact ⟨_,⟨.inr rfl,Bl,AI,p6⟩,rfl⟩
def JQ : Nat→Itm→Option (Itm)
 | 0,_=>none
 | k+1,a0=>KP (JQ k) a0
theorem Lo : ∀ (k:Nat) (a0:Itm) (r:Itm),JQ k a0=some r→Fn Tryz.prog 173 [.ag [.i .u8 a0.kind,.b a0.num.1,.sl (L a0.num.2.1),.sl (L a0.num.2.2),.i .i32 a0.char,.sl (Ars a0.box)]] (.d (.ag [.i .u8 r.kind,.b r.num.1,.sl (L r.num.2.1),.sl (L r.num.2.2),.i .i32 r.char,.sl (Ars r.box)]))
 | 0,_,_,h=>by cases h
 | k+1,a0,_,h=>RA (Lo k) (show KP (JQ k) a0=some _ from h)
def J5 (a0:Itm) : Option (Itm):=JQ (a0.size+1) a0
theorem Ha {a0:Itm} {r:Itm} (h:J5 a0=some r) : Fn Tryz.prog 173 [.ag [.i .u8 a0.kind,.b a0.num.1,.sl (L a0.num.2.1),.sl (L a0.num.2.2),.i .i32 a0.char,.sl (Ars a0.box)]] (.d (.ag [.i .u8 r.kind,.b r.num.1,.sl (L r.num.2.1),.sl (L r.num.2.2),.i .i32 r.char,.sl (Ars r.box)])):=Lo _ a0 r h
def JY (rc_array_typed:Itm→Option (Itm)) (a0:Itm) : Option (Itm):=(if a0.kind=1 then ((B6 0).bind fun x1=>((Dw x1).bind fun x2=>(some (x2)))) else (if a0.kind=2 then ((KB 32).bind fun x3=>(some (x3))) else ((rd? a0.box 0).bind fun x4=>((Ea x4 (⟨.fn 183 [] [],fun x=>rc_array_typed x⟩ : Dj)).bind fun x5=>(some ((Itm.mk 3 (false,[],[]) 0 [x5])))))))
theorem QR {rc_array_typed:Itm→Option (Itm)} (orc_array_typed:∀ x0 r,rc_array_typed x0=some r→Fn Tryz.prog 183 [.ag [.i .u8 x0.kind,.b x0.num.1,.sl (L x0.num.2.1),.sl (L x0.num.2.2),.i .i32 x0.char,.sl (Ars x0.box)]] (.d (.ag [.i .u8 r.kind,.b r.num.1,.sl (L r.num.2.1),.sl (L r.num.2.2),.i .i32 r.char,.sl (Ars r.box)]))) {a0:Itm} {r:Itm} (h:JY rc_array_typed a0=some r) :
  Fn Tryz.prog 183 [.ag [.i .u8 a0.kind,.b a0.num.1,.sl (L a0.num.2.1),.sl (L a0.num.2.2),.i .i32 a0.char,.sl (Ars a0.box)]] (.d (.ag [.i .u8 r.kind,.b r.num.1,.sl (L r.num.2.1),.sl (L r.num.2.2),.i .i32 r.char,.sl (Ars r.box)])):=by
 unfold JY at h
 refine Fn.ofC (rs:=[.cell 2 83]) (nt:=19) Tryz.func183 rfl rfl rfl (by simp) rfl ?_;refine .sr ?_;refine vk (vbx) ?_;refine vk (van (Ai CE) CK) ?_;refine rk [1,2] ?_;refine .seq ?_;refine .sr ?_;refine vk (vfa C6) ?_;refine vk (Ak BN) ?_;refine rk [1,2,4] ?_;refine .block ?_;refine .sr ?_;refine vk (vbi) ?_;refine ar [1,2,4,5] ?_
 rcases brc h with ⟨hc,h⟩|⟨hc,h⟩
 ·refine cnt (dT hc) ?_
  refine .sr ?_
  obtain ⟨x1,g1,h⟩:=bnd h
  refine vk (Ae (BD g1) Tryz.call72) ?_
  obtain ⟨x2,g2,h⟩:=bnd h
  refine vk (Ae (EO g2) Tryz.call71) ?_
  refine stn ?_ AI (by decide)
  refine rk [1,2] ?_;refine .ret ?_
  cases h
  exact ⟨_,⟨.inr rfl,Bl,AI,p6⟩,rfl⟩
 refine cnf (dF hc) ?_;refine .sr ?_;refine vk (vbi) ?_;refine ar [1,2,9] ?_
 rcases brc h with ⟨hc,h⟩|⟨hc,h⟩
 ·refine cnt (dT hc) ?_
  refine .sr ?_
  obtain ⟨x3,g3,h⟩:=bnd h
  refine vk (Ae (OM g3) Tryz.call228) ?_
  refine stn ?_ AI (by decide)
  refine rk [1,2] ?_;refine .ret ?_
  cases h
  exact ⟨_,⟨.inr rfl,Bl,AI,p6⟩,rfl⟩
 refine cnf (dF hc) ?_;refine .skip ?_
 show AW _ _ _ _ _ _
 refine .sr ?_;refine vk (vfa C7) ?_;refine vk (Ak Gu) ?_
 obtain ⟨x4,g4,h⟩:=bnd h
 obtain ⟨n4,p04,q4⟩:=BA g4
 refine vk (vix n4 p04 (Jv q4) rfl Js) ?_;refine vk (Aj AP Ap) ?_
 obtain ⟨x5,g5,h⟩:=bnd h
 refine vk (Ae (EP (Cr Tryz.call183 (fun _ _ h=>orc_array_typed _ _ h)) g5) Tryz.call174) ?_;refine vk ((Ih (Qj x5) (NJ [x5]) Qt).deep) ?_;refine vk (vbd Jb CE CK) ?_
 refine stn ?_ AI (by decide)
 refine rk [2] ?_;refine .ret ?_
 cases h
 exact ⟨_,⟨.inr rfl,Bl,AI,p6⟩,rfl⟩
def IF : Nat→Itm→Option (Itm)
 | 0,_=>none
 | k+1,a0=>JY (IF k) a0
theorem Ki : ∀ (k:Nat) (a0:Itm) (r:Itm),IF k a0=some r→Fn Tryz.prog 183 [.ag [.i .u8 a0.kind,.b a0.num.1,.sl (L a0.num.2.1),.sl (L a0.num.2.2),.i .i32 a0.char,.sl (Ars a0.box)]] (.d (.ag [.i .u8 r.kind,.b r.num.1,.sl (L r.num.2.1),.sl (L r.num.2.2),.i .i32 r.char,.sl (Ars r.box)]))
 | 0,_,_,h=>by cases h
 | k+1,a0,_,h=>QR (Ki k) (show JY (IF k) a0=some _ from h)
def Sj (a0:Itm) : Option (Itm):=IF (a0.size+1) a0
theorem RF {a0:Itm} {r:Itm} (h:Sj a0=some r) : Fn Tryz.prog 183 [.ag [.i .u8 a0.kind,.b a0.num.1,.sl (L a0.num.2.1),.sl (L a0.num.2.2),.i .i32 a0.char,.sl (Ars a0.box)]] (.d (.ag [.i .u8 r.kind,.b r.num.1,.sl (L r.num.2.1),.sl (L r.num.2.2),.i .i32 r.char,.sl (Ars r.box)])):=Ki _ a0 r h
def BM (a0:(List Int)) (a1:(List Int)) (K0:Bool→Option (Bool)) : Nat→Bool→Int→Option (Bool)
 | 0,_,_=>none
 | k+1,s2,s3=>(if s3<((List.length a0:Nat):Int) then ((rd? a0 s3).bind fun x4=>((rd? a1 s3).bind fun x5=>(if x4=x5 then (BM a0 a1 K0 k s2 (w64 (s3+1))) else (some (false))))) else (K0 s2))
def CP (a0:(List Int)) (a1:(List Int)) : Option (Bool):=(if ((List.length a0:Nat) : Int)=((List.length a1:Nat) : Int) then (jn (fun (z1:Bool)=>(some (true))) fun K0=>(BM a0 a1 K0 Cm false 0)) else (some (false)))
theorem E2 {a0:(List Int)} {a1:(List Int)} {r:Bool} (h:CP a0 a1=some r) :
  Fn Tryz.prog 109 [.sl (Is a0),.sl (Is a1)] (.d (.b r)):=by
 unfold CP at h
 refine Fn.o1 4 26 Tryz.func109 ?_;refine .sr ?_;refine ar [0,1,4] ?_;refine .seq ?_;refine .sr ?_;refine vk (Aa) ?_;refine vk (A7 (BZ _) (HC _) Hm) ?_;refine vk (Aa) ?_;refine vk (A7 (BZ _) (HC _) Hm) ?_;refine vk (vbi) ?_;refine rk [0,1,4,10] ?_
 rcases brc h with ⟨hc,h⟩|⟨hc,h⟩
 ·refine cnf (ntf (dT hc)) ?_
  refine .skip ?_
  show AW _ _ _ _ _ _
  refine .seq ?_;refine .sr ?_;refine vk (Aa) ?_;refine vk (A7 (BZ _) (HC _) Hm) ?_;refine vk (Aa) ?_;refine rk [0,1,4,12,13] ?_
  obtain ⟨K0,hK0,h⟩:=Du h
  refine AW.mr (σ:=Bool) (fun p=>K0 p=some r) (fun p=>[(4,.d (.b p))]) (fun p=>[]) ?_ ?_
  ·skip
   refine .block ?_
   refine .loop (.gk [0,1,4,12,13] ?_)
   refine AL.ind (σ:=Nat×Bool×Int) (m:=fun p=>p.1) (e:=fun p=>[(0,.d (.sl (Is a0))),(1,.d (.sl (Is a1))),(4,.d (.b p.2.1)),(12,.d (.i .i64 ((List.length a0:Nat):Int))),(13,.d (.i .i64 p.2.2))]) (h:=fun p=>[]) (I:=fun p=>BM a0 a1 K0 p.1 p.2.1 p.2.2=some r) ?_ (Cm,false,0) h
   rintro ⟨k,s2,s3⟩ h ih
   dsimp only at h ih ⊢
   rcases k with _|k
   ·rw [BM] at h;cases h
   rw [BM] at h
   refine .sr ?_;refine vk (vbi) ?_;refine rk [0,1,4,12,13,14] ?_;refine .seq ?_
   rcases brc h with ⟨hc,h⟩|⟨hc,h⟩
   ·refine cnt (dT hc) ?_
    refine .skip ?_
    show AW _ _ _ _ _ _
    refine .seq ?_;refine .block ?_;refine .sr ?_;refine vk (Aa) ?_;refine ar [0,1,4,5,12,13] ?_;refine .seq ?_;refine .drawn 9 A4 (by kernel_rfl) ?_;refine dv (Aa) ?_;refine dv (Aa) ?_
    obtain ⟨x4,g4,h⟩:=bnd h
    obtain ⟨n4,p04,q4⟩:=BA g4
    refine dv (vix n4 p04 (NE q4) rfl JB) ?_;refine dv (Ak Dl) ?_;refine dv (Aa) ?_;refine dv (Aa) ?_
    obtain ⟨x5,g5,h⟩:=bnd h
    obtain ⟨n5,p05,q5⟩:=BA g5
    refine dv (vix n5 p05 (NE q5) rfl JB) ?_;refine dv (Ak Dl) ?_;refine dv (vbi) ?_;refine dz ?_;refine rk [0,1,4,12,13,24] ?_
    rcases brc h with ⟨hc,h⟩|⟨hc,h⟩
    ·refine cnf (ntf (dT hc)) ?_
     refine .skip ?_
     show AW _ _ _ _ _ _
     refine .region ?_;refine vk (vbi) ?_;refine vk (Aa) ?_;refine .nil ?_;refine AL.gk [0,1,4,12,13] ?_
     exact ih (k,s2,(w64 (s3+1))) h (Nat.lt_succ_self _)
    refine cnt (ntt (dF hc)) ?_;refine .sr ?_;refine ar [0,1,4,12,13] ?_;refine .ret ?_
    cases h
    exact ⟨rfl,rfl⟩
   refine cnf (dF hc) ?_;refine .gk [4] ?_;refine .exit ?_
   exact jr (s2) h
  rintro z1 h
  try dsimp only at h ⊢
  subst hK0
  show AW _ _ _ _ _ _
  refine .sr ?_;refine ar [4] ?_;refine .ret ?_
  cases h
  exact ⟨rfl,rfl⟩
 refine cnt (ntt (dF hc)) ?_;refine .sr ?_;refine ar [0,1,4] ?_;refine .ret ?_
 cases h
 exact ⟨rfl,rfl⟩
def Av (a0:(List Itm)) (a1:(List Itm)) (a2:De) (K0:Bool→Option (Bool)) : Nat→Bool→Int→Option (Bool)
 | 0,_,_=>none
 | k+1,s2,s3=>(if s3<((List.length a0:Nat):Int) then ((rd? a0 s3).bind fun x4=>((rd? a1 s3).bind fun x5=>((a2.g (x4,x5)).bind fun x6=>(if x6=true then (Av a0 a1 a2 K0 k s2 (w64 (s3+1))) else (some (false)))))) else (K0 s2))
def A2 (a0:(List Itm)) (a1:(List Itm)) (a2:De) : Option (Bool):=(if ((List.length a0:Nat) : Int)=((List.length a1:Nat) : Int) then (jn (fun (z1:Bool)=>(some (true))) fun K0=>(Av a0 a1 a2 K0 Cm false 0)) else (some (false)))
theorem Cj {a0:(List Itm)} {a1:(List Itm)} {a2:De} (oa2:Ms a2) {r:Bool} (h:A2 a0 a1 a2=some r) :
  Fn Tryz.prog 110 [.sl (Its a0),.sl (Its a1),a2.dv] (.d (.b r)):=by
 unfold A2 at h
 refine Fn.o1 6 32 Tryz.func110 ?_;refine .sr ?_;refine ar [0,1,2,6] ?_;refine .seq ?_;refine .sr ?_;refine vk (Aa) ?_;refine vk (A7 (Bi _) (EY _) ET) ?_;refine vk (Aa) ?_;refine vk (A7 (Bi _) (EY _) ET) ?_;refine vk (vbi) ?_;refine rk [0,1,2,6,14] ?_
 rcases brc h with ⟨hc,h⟩|⟨hc,h⟩
 ·refine cnf (ntf (dT hc)) ?_
  refine .skip ?_
  show AW _ _ _ _ _ _
  refine .seq ?_;refine .sr ?_;refine vk (Aa) ?_;refine vk (A7 (Bi _) (EY _) ET) ?_;refine vk (Aa) ?_;refine rk [1,2,6,15,16,17] ?_
  obtain ⟨K0,hK0,h⟩:=Du h
  refine AW.mr (σ:=Bool) (fun p=>K0 p=some r) (fun p=>[(6,.d (.b p))]) (fun p=>[]) ?_ ?_
  ·skip
   refine .block ?_
   refine .loop (.gk [1,2,6,15,16,17] ?_)
   refine AL.ind (σ:=Nat×Bool×Int) (m:=fun p=>p.1) (e:=fun p=>[(1,.d (.sl (Its a1))),(2,.d (a2.dv)),(6,.d (.b p.2.1)),(15,.d (.sl (Its a0))),(16,.d (.i .i64 ((List.length a0:Nat):Int))),(17,.d (.i .i64 p.2.2))]) (h:=fun p=>[]) (I:=fun p=>Av a0 a1 a2 K0 p.1 p.2.1 p.2.2=some r) ?_ (Cm,false,0) h
   rintro ⟨k,s2,s3⟩ h ih
   dsimp only at h ih ⊢
   rcases k with _|k
   ·rw [Av] at h;cases h
   rw [Av] at h
   refine .sr ?_;refine vk (vbi) ?_;refine rk [1,2,6,15,16,17,18] ?_;refine .seq ?_
   rcases brc h with ⟨hc,h⟩|⟨hc,h⟩
   ·refine cnt (dT hc) ?_
    refine .skip ?_
    show AW _ _ _ _ _ _
    refine .seq ?_;refine .block ?_;refine .sr ?_;refine vk (Aa) ?_
    obtain ⟨x4,g4,h⟩:=bnd h
    obtain ⟨n4,p04,q4⟩:=BA g4
    refine vk (vix n4 p04 (Gl q4) rfl Fw) ?_;refine vk (Aj Bl AI) ?_;refine vk (van (Ai CE) CK) ?_;refine asd ?_
    refine stn ?_ AI (by decide)
    refine rk [1,2,6,7,8,15,16,17] ?_;refine .sr ?_;refine vk (Aa) ?_;refine vk (Aa) ?_
    obtain ⟨x5,g5,h⟩:=bnd h
    obtain ⟨n5,p05,q5⟩:=BA g5
    refine vk (vix n5 p05 (Gl q5) rfl Fw) ?_;refine vk (Aj Bl AI) ?_;refine vk (van (Ai CE) CK) ?_
    refine stn ?_ AI (by decide)
    refine rk [1,2,6,8,9,15,16,17] ?_;refine .sr ?_;refine vk (Aa) ?_;refine vk (Eh Bl AI) ?_;refine vk (Eh Bl AI) ?_
    obtain ⟨x6,g6,h⟩:=bnd h
    refine vk (N4 (oa2 _ _ g6)) ?_;refine vk (vnt) ?_;refine rk [1,2,6,15,16,17,30] ?_
    rcases brc h with ⟨hc,h⟩|⟨hc,h⟩
    ·refine cnf (ntf hc) ?_
     refine .skip ?_
     show AW _ _ _ _ _ _
     refine .region ?_;refine vk (vbi) ?_;refine vk (Aa) ?_;refine .nil ?_;refine AL.gk [1,2,6,15,16,17] ?_
     exact ih (k,s2,(w64 (s3+1))) h (Nat.lt_succ_self _)
    refine cnt (ntt (bf hc)) ?_;refine .sr ?_;refine ar [1,2,6,15,16,17] ?_;refine .ret ?_
    cases h
    exact ⟨rfl,rfl⟩
   refine cnf (dF hc) ?_;refine .gk [6] ?_;refine .exit ?_
   exact jr (s2) h
  rintro z1 h
  try dsimp only at h ⊢
  subst hK0
  show AW _ _ _ _ _ _
  refine .sr ?_;refine ar [6] ?_;refine .ret ?_
  cases h
  exact ⟨rfl,rfl⟩
 refine cnt (ntt (dF hc)) ?_;refine .sr ?_;refine ar [0,1,2,6] ?_;refine .ret ?_
 cases h
 exact ⟨rfl,rfl⟩
def As (a0:(List Arr)) (a1:(List Arr)) (a2:C3) (K0:Bool→Option (Bool)) : Nat→Bool→Int→Option (Bool)
 | 0,_,_=>none
 | k+1,s2,s3=>(if s3<((List.length a0:Nat):Int) then ((rd? a0 s3).bind fun x4=>((rd? a1 s3).bind fun x5=>((a2.g (x4,x5)).bind fun x6=>(if x6=true then (As a0 a1 a2 K0 k s2 (w64 (s3+1))) else (some (false)))))) else (K0 s2))
def AU (a0:(List Arr)) (a1:(List Arr)) (a2:C3) : Option (Bool):=(if ((List.length a0:Nat) : Int)=((List.length a1:Nat) : Int) then (jn (fun (z1:Bool)=>(some (true))) fun K0=>(As a0 a1 a2 K0 Cm false 0)) else (some (false)))
theorem B8 {a0:(List Arr)} {a1:(List Arr)} {a2:C3} (oa2:Ma a2) {r:Bool} (h:AU a0 a1 a2=some r) :
  Fn Tryz.prog 113 [.sl (Ars a0),.sl (Ars a1),a2.dv] (.d (.b r)):=by
 unfold AU at h
 refine Fn.o1 6 32 Tryz.func113 ?_;refine .sr ?_;refine ar [0,1,2,6] ?_;refine .seq ?_;refine .sr ?_;refine vk (Aa) ?_;refine vk (A7 (Dv _) (Jr _) JI) ?_;refine vk (Aa) ?_;refine vk (A7 (Dv _) (Jr _) JI) ?_;refine vk (vbi) ?_;refine rk [0,1,2,6,14] ?_
 rcases brc h with ⟨hc,h⟩|⟨hc,h⟩
 ·refine cnf (ntf (dT hc)) ?_
  refine .skip ?_
  show AW _ _ _ _ _ _
  refine .seq ?_;refine .sr ?_;refine vk (Aa) ?_;refine vk (A7 (Dv _) (Jr _) JI) ?_;refine vk (Aa) ?_;refine rk [1,2,6,15,16,17] ?_
  obtain ⟨K0,hK0,h⟩:=Du h
  refine AW.mr (σ:=Bool) (fun p=>K0 p=some r) (fun p=>[(6,.d (.b p))]) (fun p=>[]) ?_ ?_
  ·skip
   refine .block ?_
   refine .loop (.gk [1,2,6,15,16,17] ?_)
   refine AL.ind (σ:=Nat×Bool×Int) (m:=fun p=>p.1) (e:=fun p=>[(1,.d (.sl (Ars a1))),(2,.d (a2.dv)),(6,.d (.b p.2.1)),(15,.d (.sl (Ars a0))),(16,.d (.i .i64 ((List.length a0:Nat):Int))),(17,.d (.i .i64 p.2.2))]) (h:=fun p=>[]) (I:=fun p=>As a0 a1 a2 K0 p.1 p.2.1 p.2.2=some r) ?_ (Cm,false,0) h
   rintro ⟨k,s2,s3⟩ h ih
   dsimp only at h ih ⊢
   rcases k with _|k
   ·rw [As] at h;cases h
   rw [As] at h
   refine .sr ?_;refine vk (vbi) ?_;refine rk [1,2,6,15,16,17,18] ?_;refine .seq ?_
   rcases brc h with ⟨hc,h⟩|⟨hc,h⟩
   ·refine cnt (dT hc) ?_
    refine .skip ?_
    show AW _ _ _ _ _ _
    refine .seq ?_;refine .block ?_;refine .sr ?_;refine vk (Aa) ?_
    obtain ⟨x4,g4,h⟩:=bnd h
    obtain ⟨n4,p04,q4⟩:=BA g4
    refine vk (vix n4 p04 (Jv q4) rfl Js) ?_;refine vk (Aj AP Ap) ?_;refine vk (van (Ai BC) BY) ?_;refine asd ?_
    refine stn ?_ Ap (by decide)
    refine rk [1,2,6,7,8,15,16,17] ?_;refine .sr ?_;refine vk (Aa) ?_;refine vk (Aa) ?_
    obtain ⟨x5,g5,h⟩:=bnd h
    obtain ⟨n5,p05,q5⟩:=BA g5
    refine vk (vix n5 p05 (Jv q5) rfl Js) ?_;refine vk (Aj AP Ap) ?_;refine vk (van (Ai BC) BY) ?_
    refine stn ?_ Ap (by decide)
    refine rk [1,2,6,8,9,15,16,17] ?_;refine .sr ?_;refine vk (Aa) ?_;refine vk (Eh AP Ap) ?_;refine vk (Eh AP Ap) ?_
    obtain ⟨x6,g6,h⟩:=bnd h
    refine vk (N4 (oa2 _ _ g6)) ?_;refine vk (vnt) ?_;refine rk [1,2,6,15,16,17,30] ?_
    rcases brc h with ⟨hc,h⟩|⟨hc,h⟩
    ·refine cnf (ntf hc) ?_
     refine .skip ?_
     show AW _ _ _ _ _ _
     refine .region ?_;refine vk (vbi) ?_;refine vk (Aa) ?_;refine .nil ?_;refine AL.gk [1,2,6,15,16,17] ?_
     exact ih (k,s2,(w64 (s3+1))) h (Nat.lt_succ_self _)
    refine cnt (ntt (bf hc)) ?_;refine .sr ?_;refine ar [1,2,6,15,16,17] ?_;refine .ret ?_
    cases h
    exact ⟨rfl,rfl⟩
   refine cnf (dF hc) ?_;refine .gk [6] ?_;refine .exit ?_
   exact jr (s2) h
  rintro z1 h
  try dsimp only at h ⊢
  subst hK0
  show AW _ _ _ _ _ _
  refine .sr ?_;refine ar [6] ?_;refine .ret ?_
  cases h
  exact ⟨rfl,rfl⟩
 refine cnt (ntt (dF hc)) ?_;refine .sr ?_;refine ar [0,1,2,6] ?_;refine .ret ?_
 cases h
 exact ⟨rfl,rfl⟩
def Mu (rc_array_equal:Arr→Arr→Option (Bool)) (a0:Itm) (a1:Itm) : Option (Bool):=(if a0.kind=a1.kind then (Option.bind ((if a0.char=a1.char then (if (a0.num.1 == a1.num.1)=true then ((Ho a0.num.2.1 a1.num.2.1).bind fun x2=>(if x2=true then ((Ho a0.num.2.2 a1.num.2.2).bind fun x3=>(if x3=true then ((AU a0.box a1.box (⟨.fn 37 [] [],fun x=>rc_array_equal x.1 x.2⟩ : C3)).bind fun x4=>(some x4)) else (some false))) else (some false))) else (some false)) else (some false)) : Option (Bool)) fun (z1:Bool)=>(some (z1))) else (some (false)))
theorem Qd {rc_array_equal:Arr→Arr→Option (Bool)} (orc_array_equal:∀ x0 x1 r,rc_array_equal x0 x1=some r→Fn Tryz.prog 37 [.ag [.sl (Is x0.shape),.sl (Its x0.items)],.ag [.sl (Is x1.shape),.sl (Its x1.items)]] (.d (.b r))) {a0:Itm} {a1:Itm} {r:Bool} (h:Mu rc_array_equal a0 a1=some r) :
  Fn Tryz.prog 111 [.ag [.i .u8 a0.kind,.b a0.num.1,.sl (L a0.num.2.1),.sl (L a0.num.2.2),.i .i32 a0.char,.sl (Ars a0.box)],.ag [.i .u8 a1.kind,.b a1.num.1,.sl (L a1.num.2.1),.sl (L a1.num.2.2),.i .i32 a1.char,.sl (Ars a1.box)]] (.d (.b r)):=by
 unfold Mu at h
 refine Fn.o1 4 50 Tryz.func111 ?_;refine .sr ?_;refine vk (vbx) ?_;refine vk (vbx) ?_;refine ar [2,3,4] ?_;refine .seq ?_;refine .sr ?_;refine vk (vfa C6) ?_;refine vk (Ak BN) ?_;refine rk [2,3,4,6] ?_;refine .block ?_;refine .sr ?_;refine vk (vfa C6) ?_;refine vk (Ak BN) ?_;refine vk (vbi) ?_;refine ar [2,3,4,7] ?_
 rcases brc h with ⟨hc,h⟩|⟨hc,h⟩
 ·refine cnt (dT hc) ?_
  refine .seq ?_
  obtain ⟨z1,hz,h⟩:=bnd h
  refine AW.mr (σ:=Unit) (fun _=>True) (fun _=>[(4,.d (.b z1))]) (fun _=>[]) ?_ ?_
  ·skip
   refine .region ?_;refine vk (vfa Ga) ?_;refine vk (Ak DQ) ?_;refine vk (vfa Ga) ?_;refine vk (Ak DQ) ?_;refine vk (vbi) ?_
   rcases brc hz with ⟨hc,hz⟩|⟨hc,hz⟩
   ·have hb0:(decide (a0.char=a1.char))=true:=(dT hc)
    refine vk (VOK.lit (Aa) hb0) ?_;refine vk (vfa C8) ?_;refine vk (vfa AT) ?_;refine vk (Ak AD) ?_;refine vk (vfa C8) ?_;refine vk (vfa AT) ?_;refine vk (Ak AD) ?_;refine vk (U9 (.inl rfl) bo) ?_;refine vk (Ah) ?_
    rcases brc hz with ⟨hc,hz⟩|⟨hc,hz⟩
    ·have hb1:(a0.num.1 == a1.num.1)=true:=hc
     refine vk (VOK.lit (Aa) hb1) ?_;refine vk (vfa C8) ?_;refine vk (vfa AA) ?_;refine vk (Ak AQ) ?_;refine vk (vfa C8) ?_;refine vk (vfa AA) ?_;refine vk (Ak AQ) ?_
     obtain ⟨x2,g2,hz⟩:=bnd hz
     refine vk (Ae (IW g2) Tryz.call112) ?_;refine vk (Ah) ?_
     rcases brc hz with ⟨hc,hz⟩|⟨hc,hz⟩
     ·have hb2:x2=true:=hc
      refine vk (VOK.lit (Aa) hb2) ?_;refine vk (vfa C8) ?_;refine vk (vfa Bg) ?_;refine vk (Ak AQ) ?_;refine vk (vfa C8) ?_;refine vk (vfa Bg) ?_;refine vk (Ak AQ) ?_
      obtain ⟨x3,g3,hz⟩:=bnd hz
      refine vk (Ae (IW g3) Tryz.call112) ?_;refine vk (Ah) ?_
      rcases brc hz with ⟨hc,hz⟩|⟨hc,hz⟩
      ·have hb3:x3=true:=hc
       refine vk (VOK.lit (Aa) hb3) ?_;refine vk (vfa C7) ?_;refine vk (Ak Gu) ?_;refine vk (vfa C7) ?_;refine vk (Ak Gu) ?_
       obtain ⟨x4,g4,hz⟩:=bnd hz
       refine vk (Ae (B8 (Cr Tryz.call37 (fun _ _ h=>orc_array_equal _ _ _ h)) g4) Tryz.call113) ?_;refine vk (Ah) ?_;refine asd ?_;refine RL.gk [4] ?_;refine .nil ?_
       cases hz
       exact jr () trivial
      have hb3:x3=false:=(bf hc)
      refine vk (VOK.lit (Aa) hb3) ?_;refine gf ?_;refine gf ?_;refine gf ?_;refine gf ?_;refine gf ?_;refine vk (Ah) ?_;refine asd ?_;refine RL.gk [4] ?_;refine .nil ?_
      cases hz
      exact jr () trivial
     have hb2:x2=false:=(bf hc)
     refine vk (VOK.lit (Aa) hb2) ?_;refine gf ?_;refine gf ?_;refine gf ?_;refine gf ?_;refine gf ?_;refine gf ?_;refine gf ?_;refine vk (Ah) ?_;refine vk (Aa) ?_;refine gf ?_;refine gf ?_;refine gf ?_;refine gf ?_;refine gf ?_;refine vk (Ah) ?_;refine asd ?_;refine RL.gk [4] ?_;refine .nil ?_
     cases hz
     exact jr () trivial
    have hb1:(a0.num.1 == a1.num.1)=false:=(bf hc)
    refine vk (VOK.lit (Aa) hb1) ?_;refine gf ?_;refine gf ?_;refine gf ?_;refine gf ?_;refine gf ?_;refine gf ?_;refine gf ?_;refine vk (Ah) ?_;refine vk (Aa) ?_;refine gf ?_;refine gf ?_;refine gf ?_;refine gf ?_;refine gf ?_;refine gf ?_;refine gf ?_;refine vk (Ah) ?_;refine vk (Aa) ?_;refine gf ?_;refine gf ?_;refine gf ?_;refine gf ?_;refine gf ?_;refine vk (Ah) ?_;refine asd ?_;refine RL.gk [4] ?_;refine .nil ?_
    cases hz
    exact jr () trivial
   have hb0:(decide (a0.char=a1.char))=false:=(dF hc)
   refine vk (VOK.lit (Aa) hb0) ?_;refine gf ?_;refine gf ?_;refine gf ?_;refine gf ?_;refine gf ?_;refine gf ?_;refine gf ?_;refine vk (Ah) ?_;refine vk (Aa) ?_;refine gf ?_;refine gf ?_;refine gf ?_;refine gf ?_;refine gf ?_;refine gf ?_;refine gf ?_;refine vk (Ah) ?_;refine vk (Aa) ?_;refine gf ?_;refine gf ?_;refine gf ?_;refine gf ?_;refine gf ?_;refine gf ?_;refine gf ?_;refine vk (Ah) ?_;refine vk (Aa) ?_;refine gf ?_;refine gf ?_;refine gf ?_;refine gf ?_;refine gf ?_;refine vk (Ah) ?_;refine asd ?_;refine RL.gk [4] ?_;refine .nil ?_
   cases hz
   exact jr () trivial
  rintro _ _
  refine .ret ?_
  cases h
  exact ⟨rfl,rfl⟩
 refine cnf (dF hc) ?_;refine .skip ?_
 show AW _ _ _ _ _ _
 refine .sr ?_;refine ar [4] ?_;refine .ret ?_
 cases h
 exact ⟨rfl,rfl⟩
def J9 (rc_array_equal:Arr→Arr→Option (Bool)) (a0:Arr) (a1:Arr) : Option (Bool):=((CP a0.shape a1.shape).bind fun x1=>(Option.bind ((if x1=true then ((A2 a0.items a1.items (⟨.fn 111 [] [],fun x=>Mu rc_array_equal x.1 x.2⟩ : De)).bind fun x3=>(some x3)) else (some false)) : Option (Bool)) fun (z1:Bool)=>(some (z1))))
theorem Qq {rc_array_equal:Arr→Arr→Option (Bool)} (orc_array_equal:∀ x0 x1 r,rc_array_equal x0 x1=some r→Fn Tryz.prog 37 [.ag [.sl (Is x0.shape),.sl (Its x0.items)],.ag [.sl (Is x1.shape),.sl (Its x1.items)]] (.d (.b r))) {a0:Arr} {a1:Arr} {r:Bool} (h:J9 rc_array_equal a0 a1=some r) :
  Fn Tryz.prog 37 [.ag [.sl (Is a0.shape),.sl (Its a0.items)],.ag [.sl (Is a1.shape),.sl (Its a1.items)]] (.d (.b r)):=by
 unfold J9 at h
 refine Fn.o1 4 17 Tryz.func37 ?_;refine .sr ?_;refine vk (vbx) ?_;refine vk (vbx) ?_;refine ar [2,3,4] ?_;refine .seq ?_
 obtain ⟨x1,g1,h⟩:=bnd h
 obtain ⟨z1,hz,h⟩:=bnd h
 refine AW.mr (σ:=Unit) (fun _=>True) (fun _=>[(4,.d (.b z1))]) (fun _=>[]) ?_ ?_
 ·skip
  refine .region ?_;refine vk (vfa BW) ?_;refine vk (Ak E9) ?_;refine vk (vfa BW) ?_;refine vk (Ak E9) ?_;refine vk (Ae (E2 g1) Tryz.call109) ?_
  rcases brc hz with ⟨hc,hz⟩|⟨hc,hz⟩
  ·have hb0:x1=true:=hc
   refine vk (VOK.lit (Aa) hb0) ?_;refine vk (vfa BG) ?_;refine vk (Ak Ek) ?_;refine vk (vfa BG) ?_;refine vk (Ak Ek) ?_
   obtain ⟨x3,g3,hz⟩:=bnd hz
   refine vk (Ae (Cj (Cr Tryz.call111 (fun _ _ h=>Qd orc_array_equal h)) g3) Tryz.call110) ?_;refine vk (Ah) ?_;refine asd ?_;refine RL.gk [4] ?_;refine .nil ?_
   cases hz
   exact jr () trivial
  have hb0:x1=false:=(bf hc)
  refine vk (VOK.lit (Aa) hb0) ?_;refine gf ?_;refine gf ?_;refine gf ?_;refine gf ?_;refine gf ?_;refine vk (Ah) ?_;refine asd ?_;refine RL.gk [4] ?_;refine .nil ?_
  cases hz
  exact jr () trivial
 rintro _ _
 refine .ret ?_
 cases h
 exact ⟨rfl,rfl⟩
def Iz : Nat→Arr→Arr→Option (Bool)
 | 0,_,_=>none
 | k+1,a0,a1=>J9 (Iz k) a0 a1
theorem Kj : ∀ (k:Nat) (a0:Arr) (a1:Arr) (r:Bool),Iz k a0 a1=some r→Fn Tryz.prog 37 [.ag [.sl (Is a0.shape),.sl (Its a0.items)],.ag [.sl (Is a1.shape),.sl (Its a1.items)]] (.d (.b r))
 | 0,_,_,_,h=>by cases h
 | k+1,a0,a1,_,h=>Qq (Kj k) (show J9 (Iz k) a0 a1=some _ from h)
def Ru (a0:Arr) (a1:Arr) : Option (Bool):=Iz (a0.size+1) a0 a1
theorem Sf {a0:Arr} {a1:Arr} {r:Bool} (h:Ru a0 a1=some r) : Fn Tryz.prog 37 [.ag [.sl (Is a0.shape),.sl (Its a0.items)],.ag [.sl (Is a1.shape),.sl (Its a1.items)]] (.d (.b r)):=Kj _ a0 a1 r h
abbrev sg (b:Bool) (n:Nat) : Int:=if b=true then -(n:Int) else n
def ofQ (p:Rat) : RT:=(decide (p.num<0),Ac p.num.natAbs,Ac p.den)
def BT (n:Nat) : Prop:=(Ac n).length≤32
instance (n:Nat) : Decidable (BT n):=inferInstanceAs (Decidable (_≤_))
def AB (p:Rat) : Prop:=BT p.num.natAbs∧BT p.den
instance (p:Rat) : Decidable (AB p):=inferInstanceAs (Decidable (_∧_))
abbrev bad (e:Int) : RT×Int:=((false,[],[]),e)
def Fd (p:Rat) : RT×Int:=if AB p then (ofQ p,0) else bad 8
theorem FE (b:Bool) (n:Nat) : (sg b n).natAbs=n:=by cases b<;>simp [sg]
theorem VD (b:Bool) (n:Nat) : decide (sg b n<0)=(b&&decide (n≠0)):=by
 cases b with
 | false=>simp [sg]
 | true=>simp only [sg,if_true,Bool.true_and];apply decide_eq_decide.2;omega
theorem Ji {m n:Nat} (h:Ac m=Ac n) : m=n:=by rw [← Ag m,h,Ag]
abbrev q3 (p:Rat) : Q3:=(decide (p.num<0),p.num.natAbs,p.den)
def Tg (p:Rat) : QE:=if AB p then .ok (q3 p) else .error 8
theorem PH (p:Rat) : KQ (Tg p)=Fd p:=by
 unfold Tg Fd
 split<;>rfl
theorem Nw {b:Bool} {n d:Nat} (hd:d≠0) : MT b n d=Tg (mkRat (sg b n) d):=by
 have hg:Nat.gcd n d≠0:=fun h=>hd (Nat.eq_zero_of_gcd_eq_zero_right h)
 have hnum:(mkRat (sg b n) d).num=sg b (n / Nat.gcd n d):=by
  rw [Rat.num_mkRat,if_neg hd,FE,Nat.gcd_comm]
  cases b with
  | false=>simp [sg]
  | true =>
   simp only [sg,if_true]
   rw [Int.neg_ediv_of_dvd (Int.natCast_dvd_natCast.2 (Nat.gcd_dvd_left n d))]
   simp
 have hden:(mkRat (sg b n) d).den=d / Nat.gcd n d:=by
  rw [Rat.den_mkRat,if_neg hd,FE,Nat.gcd_comm]
 have hd':32<(Ac (d / Nat.gcd n d)).length↔¬BT (d / Nat.gcd n d):=by simp only [BT];omega
 have hn':32<(Ac (n / Nat.gcd n d)).length↔¬BT (n / Nat.gcd n d):=by simp only [BT];omega
 have hf:AB (mkRat (sg b n) d)↔BT (n / Nat.gcd n d)∧BT (d / Nat.gcd n d):=by
  simp only [AB,hnum,hden,FE]
 unfold MT Tg
 rw [if_neg hg]
 by_cases h:BT (n / Nat.gcd n d)∧BT (d / Nat.gcd n d)
 ·rw [if_neg (by rw [hn',hd'];intro h2;exact h2.elim (fun a=>a h.1) (fun a=>a h.2)),if_pos (hf.2 h)]
  simp only [q3,hnum,FE,hden,VD]
 ·rw [if_pos (by rw [hn',hd'];by_cases h1:BT (n / Nat.gcd n d);exact .inr (fun h2=>h ⟨h1,h2⟩);exact .inl h1),if_neg (fun h2=>h (hf.1 h2))]
theorem XT {p q:Rat} (h:ofQ p=ofQ q) : p=q:=by
 simp only [ofQ,Prod.mk.injEq] at h
 obtain ⟨h1,h2,h3⟩:=h
 have e2:=Ji h2
 have e3:=Ji h3
 have h1':=decide_eq_decide.1 h1
 exact Rat.ext (by omega) e3
theorem L3 {r:RT} : AM r=true↔∃ p,AB p∧r=ofQ p:=by
 obtain ⟨b,n,d⟩:=r
 simp only [AM,Gk,decide_eq_true_eq]
 constructor
 ·rintro ⟨h1,h2,h3,h4,h5,h6,h7⟩
  have hd0:val d≠0:=fun h=>h5 (by rw [← h2,h,Ar])
  refine ⟨⟨sg b (val n),val d,hd0,by rw [Nat.Coprime,FE];exact h7⟩,⟨?_,?_⟩,?_⟩
  ·show BT (sg b (val n)).natAbs
   rw [FE,BT,h1];exact h3
  ·show BT (val d)
   rw [BT,h2];exact h4
  ·simp only [ofQ,FE,h1,h2]
   rw [VD]
   congr 1
   cases b with
   | false=>rfl
   | true =>
    have:n≠[]:=fun h=>by have:=h6 h;cases this
    have hn0:val n≠0:=fun h=>this (by rw [← h1,h,Ar])
    simp [hn0]
 ·rintro ⟨p,⟨h1,h2⟩,h⟩
  simp only [ofQ,Prod.mk.injEq] at h
  obtain ⟨rfl,rfl,rfl⟩:=h
  refine ⟨by rw [Ag],by rw [Ag],h1,h2,?_,?_,?_⟩
  ·intro h
   have:=CS.1 h
   exact p.den_nz this
  ·intro h
   have:=CS.1 h
   exact dF (by omega)
  ·rw [Ag,Ag];exact p.reduced
theorem Ba {p:Rat} (h:AB p) : AM (ofQ p)=true:=L3.2 ⟨p,h,rfl⟩
theorem AE {k n:Nat} (h:(Ac n).length≤k) : okL k (Ac n)=true:=Bd.2 ⟨An n,h⟩
theorem Jc {k n:Nat} (h:BT n) (hk:32≤k) : okL k (Ac n)=true:=AE (nT h hk)
theorem Au {p:Rat} (h:AB p) : Dc (ofQ p)=true:=by
 simp only [Dc,Bool.and_eq_true]
 exact ⟨Jc h.1 (by decide),Jc h.2 (by decide)⟩
theorem FX {r:RT} : AM r=false∨∃ p,AB p∧r=ofQ p:=by
 by_cases h:AM r=true
 ·exact .inr (L3.1 h)
 ·exact .inl (by simpa using h)
theorem Pr : AB 0:=by
 have e0:Ac 0=[]:=Ar
 have e1:Ac 1=[1]:=GZ (n:=1) (by decide) (by decide)
 constructor
 ·show (Ac 0).length≤32;rw [e0];decide
 ·show (Ac 1).length≤32;rw [e1];decide
theorem Bb : Ac 1=[1]:=GZ (n:=1) (by decide) (by decide)
theorem WS : ofQ 0=(false,[],[1]):=by
 show (decide ((0:Int)<0),Ac 0,Ac 1)=_
 rw [Ar,Bb];rfl
theorem DE {p:Rat} (h:AB p) : Fd p=(ofQ p,0):=if_pos h
theorem Eo {p:Rat} (h:¬AB p) : Fd p=bad 8:=if_neg h
abbrev Er (q:Q3) : Rat:=mkRat (sg q.1 q.2.1) q.2.2
theorem LW {x y:Q3} (hx:x.2.2≠0) (hy:y.2.2≠0) : Er (ED x y)=Er x+Er y∧(ED x y).2.2≠0:=by
 obtain ⟨b,n,d⟩:=x
 obtain ⟨c,m,e⟩:=y
 simp only at hx hy
 have hde:d * e≠0:=Nat.mul_ne_zero hx hy
 rw [show Er (b,n,d)+Er (c,m,e)=mkRat (sg b n * e+sg c m * d) (d * e) from Rat.mkRat_add_mkRat _ _ hx hy]
 have key:∀ (q:Q3),q.2.2=d * e→sg q.1 q.2.1=sg b n * e+sg c m * d→Er q=mkRat (sg b n * e+sg c m * d) (d * e)∧q.2.2≠0:=fun q h1 h2=>by
  rw [Er,h1,h2];exact ⟨rfl,hde⟩
 unfold ED
 simp only
 split
 ·rename_i h
  subst h
  refine key _ rfl ?_
  cases b<;>simp [sg]
  rw [Int.neg_add,Int.neg_mul,Int.neg_mul]
 ·rename_i h
  split
  ·rename_i h2
   refine key _ rfl ?_
   cases b<;>cases c<;>simp [sg] at h ⊢
   ·rw [Int.ofNat_sub h2];simp [Int.neg_mul];omega
   ·rw [Int.ofNat_sub h2];simp [Int.neg_mul];omega
  ·rename_i h2
   have h3:n * e≤m * d:=by omega
   refine key _ rfl ?_
   cases b<;>cases c<;>simp [sg] at h ⊢
   ·rw [Int.ofNat_sub h3];simp [Int.neg_mul];omega
   ·rw [Int.ofNat_sub h3];simp [Int.neg_mul];omega
theorem FJ {x y:Q3} (hx:x.2.2≠0) (hy:y.2.2≠0) : Er (Ff x y)=Er x * Er y∧(Ff x y).2.2≠0:=by
 obtain ⟨b,n,d⟩:=x
 obtain ⟨c,m,e⟩:=y
 refine ⟨?_,Nat.mul_ne_zero hx hy⟩
 rw [show Er (b,n,d) * Er (c,m,e)=mkRat (sg b n * sg c m) (d * e) from Rat.mkRat_mul_mkRat _ _ _ _]
 have h:sg (b != c) (n * m)=sg b n * sg c m:=by cases b<;>cases c<;>simp [sg,Int.neg_mul,Int.mul_neg]
 simp only [Ff,Er,h]
theorem ER (p:Rat) : Er (decide (p.num<0),p.num.natAbs,p.den)=p:=by
 have:sg (decide (p.num<0)) p.num.natAbs=p.num:=by
  simp only [sg,decide_eq_true_eq]
  split<;>omega
 rw [Er,this,Rat.mkRat_self]
theorem Aai (p:Rat) : rq (ofQ p)=(decide (p.num<0),p.num.natAbs,p.den):=by simp [rq,ofQ,Ag]
def Dh (a0:RT) (a1:RT) : Option (Int):=((Cg ([a0,a1])).bind fun x1=>(if x1=true then ((D5 a0).bind fun x2=>((D5 a1).bind fun x3=>(if ((!(decide (x2=x3)))&&(decide (x2<x3)))=true then (some ((-1))) else (if x2=x3 then ((Ft a0).bind fun x4=>((Ft a1).bind fun x5=>((BS x4.1 x5.1).bind fun x6=>((Ft a1).bind fun x7=>((Ft a0).bind fun x8=>((BS x7.1 x8.1).bind fun x9=>((CN x6 x9).bind fun x10=>(some ((w64 (x2 * x10))))))))))) else (some (1)))))) else (some (0))))
theorem G0 {a0:RT} {a1:RT} {r:Int} (h:Dh a0 a1=some r) :
  Fn Tryz.prog 211 [.ag [.b a0.1,.sl (L a0.2.1),.sl (L a0.2.2)],.ag [.b a1.1,.sl (L a1.2.1),.sl (L a1.2.2)]] (.d (.i .i64 r)):=by
 unfold Dh at h
 refine Fn.o1 4 46 Tryz.func211 ?_;refine .sr ?_;refine vk (vbx) ?_;refine vk (vbx) ?_;refine ar [2,3,4] ?_;refine .seq ?_;refine .sr ?_;refine vk (Aj Af Ad) ?_;refine vk (Aj Af Ad) ?_;refine vk ((Fr (Dy [a0,a1]) Gj).deep) ?_
 obtain ⟨x1,g1,h⟩:=bnd h
 refine vk (Ae (CB g1) Tryz.call167) ?_;refine vk (vnt) ?_;refine rk [2,3,4,11] ?_
 rcases brc h with ⟨hc,h⟩|⟨hc,h⟩
 ·refine cnf (ntf hc) ?_
  refine .skip ?_
  show AW _ _ _ _ _ _
  refine .seq ?_;refine .drawn 4 A4 (by kernel_rfl) ?_;refine dv (Aj Af Ad) ?_
  obtain ⟨x2,g2,h⟩:=bnd h
  refine dv (Ae (F7 g2) Tryz.call86) ?_;refine dv (Aj Af Ad) ?_
  obtain ⟨x3,g3,h⟩:=bnd h
  refine dv (Ae (F7 g3) Tryz.call86) ?_;refine dz ?_;refine asd ?_;refine ar [2,3,4,5,6] ?_;refine .seq ?_;refine .block ?_;refine .seq ?_;refine AW.mr (σ:=Unit) (fun _=>True) (fun _=>[(2,.d (.ptr [.b a0.1,.sl (L a0.2.1),.sl (L a0.2.2)])),(3,.d (.ptr [.b a1.1,.sl (L a1.2.1),.sl (L a1.2.2)])),(4,.d (.i .i64 0)),(5,.d (.i .i64 x2)),(6,.d (.i .i64 x3)),(16,.d (.b ((!(decide (x2=x3)))&&(decide (x2<x3)))))]) (fun _=>[]) ?_ ?_
  ·skip
   refine .region ?_;refine vk (Aa) ?_;refine vk (Aa) ?_;refine vk (vbi) ?_
   by_cases hc:x2=x3
   ·have hb0:(!(decide (x2=x3)))=false:=(ntf (dT hc))
    refine vk (VOK.lit (Aa) hb0) ?_;refine gf ?_;refine gf ?_;refine gf ?_;refine vk (Ah) ?_;refine asd ?_;refine RL.gk [2,3,4,5,6,16] ?_;refine .nil ?_
    exact jr () trivial (by simp only [hb0];rfl)
   have hb0:(!(decide (x2=x3)))=true:=(ntt (dF hc))
   refine vk (VOK.lit (Aa) hb0) ?_;refine vk (Aa) ?_;refine vk (Aa) ?_;refine vk (vbi) ?_;refine vk (Ah) ?_;refine asd ?_;refine RL.gk [2,3,4,5,6,16] ?_;refine .nil ?_
   exact jr () trivial (by simp only [hb0];rfl)
  rintro _ _
  rcases brc h with ⟨hc,h⟩|⟨hc,h⟩
  ·refine cnt hc ?_
   refine .sr ?_;refine ar [2,3,4,5] ?_;refine .ret ?_
   cases h
   exact ⟨rfl,rfl⟩
  refine cnf (bf hc) ?_;refine .sr ?_;refine vk (Aa) ?_;refine vk (Aa) ?_;refine vk (vbi) ?_;refine ar [2,3,4,5,25] ?_
  rcases brc h with ⟨hc,h⟩|⟨hc,h⟩
  ·refine cnf (ntf (dT hc)) ?_
   refine .skip ?_
   show AW _ _ _ _ _ _
   refine .seq ?_;refine .drawn 17 A4 (by kernel_rfl) ?_;refine dv (Aa) ?_;refine dv (Aj Af Ad) ?_
   obtain ⟨x4,g4,h⟩:=bnd h
   refine dv (Ae (CD g4) Tryz.call168) ?_;refine dv (R0 Ce Je) ?_;refine dv (Aj Af Ad) ?_
   obtain ⟨x5,g5,h⟩:=bnd h
   refine dv (Ae (CD g5) Tryz.call168) ?_;refine dv (R0 Ce Je) ?_
   obtain ⟨x6,g6,h⟩:=bnd h
   refine dv (Ae (B3 g6) Tryz.call239) ?_;refine dv (Aj Af Ad) ?_
   obtain ⟨x7,g7,h⟩:=bnd h
   refine dv (Ae (CD g7) Tryz.call168) ?_;refine dv (R0 Ce Je) ?_;refine dv (Aj Af Ad) ?_
   obtain ⟨x8,g8,h⟩:=bnd h
   refine dv (Ae (CD g8) Tryz.call168) ?_;refine dv (R0 Ce Je) ?_
   obtain ⟨x9,g9,h⟩:=bnd h
   refine dv (Ae (B3 g9) Tryz.call239) ?_
   obtain ⟨x10,g10,h⟩:=bnd h
   refine dv (Ae (CR g10) Tryz.call164) ?_;refine dv (vbi) ?_;refine dz ?_;refine ar [4] ?_;refine .ret ?_
   cases h
   exact ⟨rfl,rfl⟩
  refine cnt (ntt (dF hc)) ?_;refine .sr ?_;refine ar [2,3,4,5] ?_;refine .ret ?_
  cases h
  exact ⟨rfl,rfl⟩
 refine cnt (ntt (bf hc)) ?_;refine .sr ?_;refine ar [2,3,4] ?_;refine .ret ?_
 cases h
 exact ⟨rfl,rfl⟩
def Fj (a0:RT) (a1:RT) (a2:RT) : Option (Int):=((Cg ([a0,a1,a2])).bind fun x1=>(if x1=true then ((Ft a1).bind fun x2=>((Ft a2).bind fun x3=>((LM x3).bind fun x4=>((Lp x2 x4).bind fun x5=>((Ft a1).bind fun x6=>((Ft a2).bind fun x7=>((BS x6.1 x7.1).bind fun x8=>((Ft a2).bind fun x9=>((BS x9.1 x6.1).bind fun x10=>((CN x8 x10).bind fun x11=>(if x11<0 then ((Ft a2).bind fun x12=>((Ft a0).bind fun x13=>((G4 x13 (x12.1,false)).bind fun x14=>(Option.bind ((if x14.2=true then (if 0<((List.length x14.1.1:Nat) : Int) then (some true) else ((BS x5.1 x14.1).bind fun x16=>((BS x14.1 x5.1).bind fun x17=>((CN x16 x17).bind fun x18=>(some (decide (0<x18))))))) else ((BS x5.1 x14.1).bind fun x19=>((BS x14.1 x5.1).bind fun x20=>((CN x19 x20).bind fun x21=>(some (decide (0<x21))))))) : Option (Bool)) fun (z15:Bool)=>(if z15=true then ((Dh a1 a2).bind fun x22=>(some (x22))) else (some (0))))))) else ((Ft a0).bind fun x23=>((G4 x23 (x6.1,false)).bind fun x24=>(Option.bind ((if x24.2=true then (if 0<((List.length x24.1.1:Nat) : Int) then (some true) else ((BS x5.1 x24.1).bind fun x26=>((BS x24.1 x5.1).bind fun x27=>((CN x26 x27).bind fun x28=>(some (decide (0<x28))))))) else ((BS x5.1 x24.1).bind fun x29=>((BS x24.1 x5.1).bind fun x30=>((CN x29 x30).bind fun x31=>(some (decide (0<x31))))))) : Option (Bool)) fun (z25:Bool)=>(if z25=true then ((Dh a1 a2).bind fun x32=>(some (x32))) else (some (0))))))))))))))))) else (some (0))))
set_option maxHeartbeats 4000000 in
theorem MR {a0:RT} {a1:RT} {a2:RT} {r:Int} (h:Fj a0 a1 a2=some r) :
  Fn Tryz.prog 213 [.ag [.b a0.1,.sl (L a0.2.1),.sl (L a0.2.2)],.ag [.b a1.1,.sl (L a1.2.1),.sl (L a1.2.2)],.ag [.b a2.1,.sl (L a2.2.1),.sl (L a2.2.2)]] (.d (.i .i64 r)):=by
 unfold Fj at h
 refine Fn.o1 6 71 Tryz.func213 ?_;refine .sr ?_;refine vk (vbx) ?_;refine vk (vbx) ?_;refine vk (vbx) ?_;refine ar [3,4,5,6] ?_;refine .seq ?_;refine .sr ?_;refine vk (Aj Af Ad) ?_;refine vk (Aj Af Ad) ?_;refine vk (Aj Af Ad) ?_;refine vk ((Fr (Dy [a0,a1,a2]) Gj).deep) ?_
 obtain ⟨x1,g1,h⟩:=bnd h
 refine vk (Ae (CB g1) Tryz.call167) ?_;refine vk (vnt) ?_;refine rk [3,4,5,6,15] ?_
 rcases brc h with ⟨hc,h⟩|⟨hc,h⟩
 ·refine cnf (ntf hc) ?_
  refine .skip ?_
  show AW _ _ _ _ _ _
  refine .seq ?_;refine .drawn 7 A4 (by kernel_rfl) ?_;refine dv (Aj Af Ad) ?_
  obtain ⟨x2,g2,h⟩:=bnd h
  refine dv (Ae (CD g2) Tryz.call168) ?_;refine dv (Aj Af Ad) ?_
  obtain ⟨x3,g3,h⟩:=bnd h
  refine dv (Ae (CD g3) Tryz.call168) ?_
  obtain ⟨x4,g4,h⟩:=bnd h
  refine dv (Ae (Ot g4) Tryz.call205) ?_
  obtain ⟨x5,g5,h⟩:=bnd h
  refine dv (Ae (Nt g5) Tryz.call204) ?_;refine dv (van (Ai Re) RO) ?_;refine dz ?_
  refine stn ?_ Zq (by decide)
  refine rk [3,4,5,6,7] ?_;refine .sr ?_;refine vk (Aj Af Ad) ?_
  obtain ⟨x6,g6,h⟩:=bnd h
  refine vk (Ae (CD g6) Tryz.call168) ?_;refine vk (R0 Ce Je) ?_;refine vk (van (Ai XS) Yp) ?_
  refine stn ?_ Hj (by decide)
  refine rk [3,4,5,6,7,8] ?_;refine .seq ?_;refine .seq ?_;refine .drawn 12 A4 (by kernel_rfl) ?_;refine dv (Eh Ij Hj) ?_;refine dv (Aj Af Ad) ?_
  obtain ⟨x7,g7,h⟩:=bnd h
  refine dv (Ae (CD g7) Tryz.call168) ?_;refine dv (R0 Ce Je) ?_
  obtain ⟨x8,g8,h⟩:=bnd h
  refine dv (Ae (B3 g8) Tryz.call239) ?_;refine dv (Aj Af Ad) ?_
  obtain ⟨x9,g9,h⟩:=bnd h
  refine dv (Ae (CD g9) Tryz.call168) ?_;refine dv (R0 Ce Je) ?_;refine dv (Eh Ij Hj) ?_
  obtain ⟨x10,g10,h⟩:=bnd h
  refine dv (Ae (B3 g10) Tryz.call239) ?_
  obtain ⟨x11,g11,h⟩:=bnd h
  refine dv (Ae (CR g11) Tryz.call164) ?_;refine dv (vbi) ?_;refine dz ?_;refine rk [3,4,5,6,7,8,36] ?_
  rcases brc h with ⟨hc,h⟩|⟨hc,h⟩
  ·refine cnt (dT hc) ?_
   refine .region ?_;refine vk (Aj Af Ad) ?_
   obtain ⟨x12,g12,h⟩:=bnd h
   refine vk (Ae (CD g12) Tryz.call168) ?_;refine vk (R0 Ce Je) ?_
   refine stn ?_ Hj (by decide)
   refine rk [3,4,5,6,7,8] ?_;refine .seq ?_;refine .drawn 6 A4 (by kernel_rfl) ?_;refine dv (Aj Af Ad) ?_
   obtain ⟨x13,g13,h⟩:=bnd h
   refine dv (Ae (CD g13) Tryz.call168) ?_;refine dv (Eh Ij Hj) ?_;refine dv (vbd Xe Re RO) ?_
   obtain ⟨x14,g14,h⟩:=bnd h
   refine dv (Ae (Jj g14) Tryz.call169) ?_;refine dv (van (Ai Re) RO) ?_;refine dz ?_
   refine stn ?_ Zq (by decide)
   refine rk [4,5,6,7,9] ?_;refine .seq ?_;refine .seq ?_;refine .gh (Gh.nbp (t:=9) rfl) ?_;refine .gh (Gh.nbp (t:=7) rfl) ?_
   obtain ⟨z15,hz,h⟩:=bnd h
   refine AW.mr (σ:=Unit) (fun _=>True) (fun _=>[(4,.d (.ptr [.b a1.1,.sl (L a1.2.1),.sl (L a1.2.2)])),(5,.d (.ptr [.b a2.1,.sl (L a2.2.1),.sl (L a2.2.2)])),(6,.d (.i .i64 0)),(67,.d (.b z15))]) (fun _=>[]) ?_ ?_
   ·skip
    refine .drawn 23 A4 (by kernel_rfl) ?_;refine dv (vfa Vt) ?_;refine dv (Ak AD) ?_
    rcases brc hz with ⟨hc,hz⟩|⟨hc,hz⟩
    ·have hb0:x14.2=true:=hc
     refine dv (VOK.lit (Aa) hb0) ?_;refine dv (vfa Ce) ?_;refine dv (vfa Wn) ?_;refine dv (Ak AQ) ?_;refine dv (A7 (Ab _) (Ax _) B0) ?_;refine dv (vbi) ?_;refine dv (Ah) ?_
     rcases brc hz with ⟨hc,hz⟩|⟨hc,hz⟩
     ·have hb1:(decide (0<((List.length x14.1.1:Nat):Int)))=true:=(dT hc)
      refine dv (VOK.lit (Aa) hb1) ?_;refine dgf ?_;refine dgf ?_;refine dgf ?_;refine dgf ?_;refine dgf ?_;refine dgf ?_;refine dgf ?_;refine dgf ?_;refine dgf ?_;refine dgf ?_;refine dgf ?_;refine dgf ?_;refine dv (Ah) ?_;refine dz ?_;refine RL.gk [4,5,6,67] ?_;refine .nil ?_
      cases hz
      exact jr () trivial
     have hb1:(decide (0<((List.length x14.1.1:Nat):Int)))=false:=(dF hc)
     refine dv (VOK.lit (Aa) hb1) ?_;refine dv (vfa Ce) ?_;refine dv (Aj Ij Hj) ?_;refine dv (vfa Ce) ?_;refine dv (Aj Ij Hj) ?_
     obtain ⟨x16,g16,hz⟩:=bnd hz
     refine dv (Ae (B3 g16) Tryz.call239) ?_;refine dv (vfa Ce) ?_;refine dv (Aj Ij Hj) ?_;refine dv (vfa Ce) ?_;refine dv (Aj Ij Hj) ?_
     obtain ⟨x17,g17,hz⟩:=bnd hz
     refine dv (Ae (B3 g17) Tryz.call239) ?_
     obtain ⟨x18,g18,hz⟩:=bnd hz
     refine dv (Ae (CR g18) Tryz.call164) ?_;refine dv (vbi) ?_;refine dv (Ah) ?_;refine dz ?_;refine RL.gk [4,5,6,67] ?_;refine .nil ?_
     cases hz
     exact jr () trivial
    have hb0:x14.2=false:=(bf hc)
    refine dv (VOK.lit (Aa) hb0) ?_;refine dgf ?_;refine dgf ?_;refine dgf ?_;refine dgf ?_;refine dgf ?_;refine dv (Ah) ?_;refine dv (Aa) ?_;refine dv (vfa Ce) ?_;refine dv (Aj Ij Hj) ?_;refine dv (vfa Ce) ?_;refine dv (Aj Ij Hj) ?_
    obtain ⟨x19,g19,hz⟩:=bnd hz
    refine dv (Ae (B3 g19) Tryz.call239) ?_;refine dv (vfa Ce) ?_;refine dv (Aj Ij Hj) ?_;refine dv (vfa Ce) ?_;refine dv (Aj Ij Hj) ?_
    obtain ⟨x20,g20,hz⟩:=bnd hz
    refine dv (Ae (B3 g20) Tryz.call239) ?_
    obtain ⟨x21,g21,hz⟩:=bnd hz
    refine dv (Ae (CR g21) Tryz.call164) ?_;refine dv (vbi) ?_;refine dv (Ah) ?_;refine dz ?_;refine RL.gk [4,5,6,67] ?_;refine .nil ?_
    cases hz
    exact jr () trivial
   rintro _ _
   rcases brc h with ⟨hc,h⟩|⟨hc,h⟩
   ·refine cnt hc ?_
    refine .sr ?_;refine vk (Aj Af Ad) ?_;refine vk (Aj Af Ad) ?_
    obtain ⟨x22,g22,h⟩:=bnd h
    refine vk (Ae (G0 g22) Tryz.call211) ?_;refine ar [6] ?_;refine .ret ?_
    cases h
    exact ⟨rfl,rfl⟩
   refine cnf (bf hc) ?_;refine .skip ?_
   show AW _ _ _ _ _ _
   refine .sr ?_;refine ar [6] ?_;refine .ret ?_
   cases h
   exact ⟨rfl,rfl⟩
  refine cnf (dF hc) ?_;refine .skip ?_
  show AW _ _ _ _ _ _
  refine .seq ?_;refine .drawn 6 A4 (by kernel_rfl) ?_;refine dv (Aj Af Ad) ?_
  obtain ⟨x23,g23,h⟩:=bnd h
  refine dv (Ae (CD g23) Tryz.call168) ?_;refine dv (Eh Ij Hj) ?_;refine dv (vbd Xe Re RO) ?_
  obtain ⟨x24,g24,h⟩:=bnd h
  refine dv (Ae (Jj g24) Tryz.call169) ?_;refine dv (van (Ai Re) RO) ?_;refine dz ?_
  refine stn ?_ Zq (by decide)
  refine rk [4,5,6,7,9] ?_;refine .seq ?_;refine .seq ?_;refine .gh (Gh.nbp (t:=9) rfl) ?_;refine .gh (Gh.nbp (t:=7) rfl) ?_
  obtain ⟨z25,hz,h⟩:=bnd h
  refine AW.mr (σ:=Unit) (fun _=>True) (fun _=>[(4,.d (.ptr [.b a1.1,.sl (L a1.2.1),.sl (L a1.2.2)])),(5,.d (.ptr [.b a2.1,.sl (L a2.2.1),.sl (L a2.2.2)])),(6,.d (.i .i64 0)),(67,.d (.b z25))]) (fun _=>[]) ?_ ?_
  ·skip
   refine .drawn 23 A4 (by kernel_rfl) ?_;refine dv (vfa Vt) ?_;refine dv (Ak AD) ?_
   rcases brc hz with ⟨hc,hz⟩|⟨hc,hz⟩
   ·have hb0:x24.2=true:=hc
    refine dv (VOK.lit (Aa) hb0) ?_;refine dv (vfa Ce) ?_;refine dv (vfa Wn) ?_;refine dv (Ak AQ) ?_;refine dv (A7 (Ab _) (Ax _) B0) ?_;refine dv (vbi) ?_;refine dv (Ah) ?_
    rcases brc hz with ⟨hc,hz⟩|⟨hc,hz⟩
    ·have hb1:(decide (0<((List.length x24.1.1:Nat):Int)))=true:=(dT hc)
     refine dv (VOK.lit (Aa) hb1) ?_;refine dgf ?_;refine dgf ?_;refine dgf ?_;refine dgf ?_;refine dgf ?_;refine dgf ?_;refine dgf ?_;refine dgf ?_;refine dgf ?_;refine dgf ?_;refine dgf ?_;refine dgf ?_;refine dv (Ah) ?_;refine dz ?_;refine RL.gk [4,5,6,67] ?_;refine .nil ?_
     cases hz
     exact jr () trivial
    have hb1:(decide (0<((List.length x24.1.1:Nat):Int)))=false:=(dF hc)
    refine dv (VOK.lit (Aa) hb1) ?_;refine dv (vfa Ce) ?_;refine dv (Aj Ij Hj) ?_;refine dv (vfa Ce) ?_;refine dv (Aj Ij Hj) ?_
    obtain ⟨x26,g26,hz⟩:=bnd hz
    refine dv (Ae (B3 g26) Tryz.call239) ?_;refine dv (vfa Ce) ?_;refine dv (Aj Ij Hj) ?_;refine dv (vfa Ce) ?_;refine dv (Aj Ij Hj) ?_
    obtain ⟨x27,g27,hz⟩:=bnd hz
    refine dv (Ae (B3 g27) Tryz.call239) ?_
    obtain ⟨x28,g28,hz⟩:=bnd hz
    refine dv (Ae (CR g28) Tryz.call164) ?_;refine dv (vbi) ?_;refine dv (Ah) ?_;refine dz ?_;refine RL.gk [4,5,6,67] ?_;refine .nil ?_
    cases hz
    exact jr () trivial
   have hb0:x24.2=false:=(bf hc)
   refine dv (VOK.lit (Aa) hb0) ?_;refine dgf ?_;refine dgf ?_;refine dgf ?_;refine dgf ?_;refine dgf ?_;refine dv (Ah) ?_;refine dv (Aa) ?_;refine dv (vfa Ce) ?_;refine dv (Aj Ij Hj) ?_;refine dv (vfa Ce) ?_;refine dv (Aj Ij Hj) ?_
   obtain ⟨x29,g29,hz⟩:=bnd hz
   refine dv (Ae (B3 g29) Tryz.call239) ?_;refine dv (vfa Ce) ?_;refine dv (Aj Ij Hj) ?_;refine dv (vfa Ce) ?_;refine dv (Aj Ij Hj) ?_
   obtain ⟨x30,g30,hz⟩:=bnd hz
   refine dv (Ae (B3 g30) Tryz.call239) ?_
   obtain ⟨x31,g31,hz⟩:=bnd hz
   refine dv (Ae (CR g31) Tryz.call164) ?_;refine dv (vbi) ?_;refine dv (Ah) ?_;refine dz ?_;refine RL.gk [4,5,6,67] ?_;refine .nil ?_
   cases hz
   exact jr () trivial
  rintro _ _
  rcases brc h with ⟨hc,h⟩|⟨hc,h⟩
  ·refine cnt hc ?_
   refine .sr ?_;refine vk (Aj Af Ad) ?_;refine vk (Aj Af Ad) ?_
   obtain ⟨x32,g32,h⟩:=bnd h
   refine vk (Ae (G0 g32) Tryz.call211) ?_;refine ar [6] ?_;refine .ret ?_
   cases h
   exact ⟨rfl,rfl⟩
  refine cnf (bf hc) ?_;refine .skip ?_
  show AW _ _ _ _ _ _
  refine .sr ?_;refine ar [6] ?_;refine .ret ?_
  cases h
  exact ⟨rfl,rfl⟩
 refine cnt (ntt (bf hc)) ?_;refine .sr ?_;refine ar [3,4,5,6] ?_;refine .ret ?_
 cases h
 exact ⟨rfl,rfl⟩
def FY (a0:RT) (a1:RT) : Option (RT×Int):=((Cg ([a0,a1])).bind fun x1=>(if x1=true then (if ((List.length a0.2.1:Nat) : Int)=0 then ((EW a1 a1.1).bind fun x2=>(some (x2.1,x2.2))) else ((Iu a1 a0).bind fun x3=>(if x3.2=0 then ((GL x3.1).bind fun x4=>(if x4.2=0 then ((KE ([a0,x4.1])).bind fun x5=>(if x5.2=0 then ((Gx a1 x5.1).bind fun x6=>(some (x6.1,x6.2))) else (some ((false,[],[]),x5.2)))) else (if x4.2=0 then ((Gx a1 x4.1).bind fun x7=>(some (x7.1,x7.2))) else (some ((false,[],[]),x4.2))))) else (if x3.2=0 then ((KE ([a0,x3.1])).bind fun x8=>(if x8.2=0 then ((Gx a1 x8.1).bind fun x9=>(some (x9.1,x9.2))) else (some ((false,[],[]),x8.2)))) else (if x3.2=0 then ((Gx a1 x3.1).bind fun x10=>(some (x10.1,x10.2))) else (some ((false,[],[]),x3.2))))))) else (some ((false,[],[]),22))))
theorem Ou {a0:RT} {a1:RT} {r:RT×Int} (h:FY a0 a1=some r) :
  Fn Tryz.prog 137 [.ag [.b a0.1,.sl (L a0.2.1),.sl (L a0.2.2)],.ag [.b a1.1,.sl (L a1.2.1),.sl (L a1.2.2)]] (.tup [.d (.ag [.b r.1.1,.sl (L r.1.2.1),.sl (L r.1.2.2)]),.d (.i .i64 r.2)]):=by
 unfold FY at h
 refine Fn.ofC (rs:=[.cell 4 32,.tmp 5]) (nt:=57) Tryz.func137 rfl rfl rfl (by simp) rfl ?_;refine .sr ?_;refine vk (vbx) ?_;refine vk (vbx) ?_;refine vk (van (Ai AG) AH) ?_;refine ar [2,3,4,5] ?_;refine .seq ?_;refine .block ?_;refine .sr ?_;refine vk (Aj Af Ad) ?_;refine vk (Aj Af Ad) ?_;refine vk ((Fr (Dy [a0,a1]) Gj).deep) ?_
 obtain ⟨x1,g1,h⟩:=bnd h
 refine vk (Ae (CB g1) Tryz.call167) ?_;refine vk (vnt) ?_;refine ar [2,3,4,5,8] ?_
 rcases brc h with ⟨hc,h⟩|⟨hc,h⟩
 ·refine cnf (ntf hc) ?_
  refine .sr ?_;refine vk (vfa AA) ?_;refine vk (Ak AQ) ?_;refine vk (A7 (Ab _) (Ax _) B0) ?_;refine vk (vbi) ?_;refine ar [2,3,4,5,15] ?_
  rcases brc h with ⟨hc,h⟩|⟨hc,h⟩
  ·refine cnt (dT hc) ?_
   refine .sr ?_;refine vk (Aj Af Ad) ?_;refine vk (vfa AT) ?_;refine vk (Ak AD) ?_
   obtain ⟨x2,g2,h⟩:=bnd h
   refine vk (VOK.tupd (vs:=[.ag [.b x2.1.1,.sl (L x2.1.2.1),.sl (L x2.1.2.2)],.i .i64 x2.2]) (Ae (HP g2) Tryz.call161)) ?_;refine vk (vex) ?_;refine vk (vex) ?_
   refine stn ?_ Ad (by decide)
   refine ar [2,3,4,5] ?_;refine .ret ?_
   cases h
   exact ⟨_,_,⟨.inr rfl,Af,Ad,p3⟩,rfl,rfl⟩
  refine cnf (dF hc) ?_;refine .skip ?_
  show AW _ _ _ _ _ _
  refine .sr ?_;refine vk (Aj Af Ad) ?_;refine vk (Aj Af Ad) ?_
  obtain ⟨x3,g3,h⟩:=bnd h
  refine vk (VOK.tupd (vs:=[.ag [.b x3.1.1,.sl (L x3.1.2.1),.sl (L x3.1.2.2)],.i .i64 x3.2]) (Ae (KL g3) Tryz.call88)) ?_;refine vk (Aa) ?_;refine vk (vex) ?_;refine vk (vex) ?_;refine vk (van (Ai AG) AH) ?_
  refine stn ?_ Ad (by decide)
  refine ar [2,3,4,5,6,7] ?_;refine .seq ?_;refine .sr ?_;refine vk (Aa) ?_;refine vk (vbi) ?_;refine rk [2,3,4,5,6,7,33] ?_
  rcases brc h with ⟨hc,h⟩|⟨hc,h⟩
  ·refine cnt (dT hc) ?_
   refine .region ?_;refine vk (Eh Af Ad) ?_
   obtain ⟨x4,g4,h⟩:=bnd h
   refine vk (VOK.tupd (vs:=[.ag [.b x4.1.1,.sl (L x4.1.2.1),.sl (L x4.1.2.2)],.i .i64 x4.2]) (Ae (Lf g4) Tryz.call81)) ?_;refine vk (Aa) ?_;refine vk (vex) ?_;refine vk (vex) ?_
   refine stn ?_ Ad (by decide)
   refine ar [2,3,4,5,6,7] ?_;refine .seq ?_;refine .sr ?_;refine vk (Aa) ?_;refine vk (vbi) ?_;refine rk [2,3,4,5,6,7,40] ?_
   rcases brc h with ⟨hc,h⟩|⟨hc,h⟩
   ·refine cnt (dT hc) ?_
    refine .region ?_;refine vk (Aj Af Ad) ?_;refine vk (Eh Af Ad) ?_;refine vk ((Fr (Dy [a0,x4.1]) Gj).deep) ?_
    obtain ⟨x5,g5,h⟩:=bnd h
    refine vk (VOK.tupd (vs:=[.ag [.b x5.1.1,.sl (L x5.1.2.1),.sl (L x5.1.2.2)],.i .i64 x5.2]) (Ae (L9 g5) Tryz.call135)) ?_;refine vk (Aa) ?_;refine vk (vex) ?_;refine vk (vex) ?_
    refine stn ?_ Ad (by decide)
    refine ar [3,4,5,6,7] ?_;refine .seq ?_;refine .sr ?_;refine vk (Aa) ?_;refine vk (vbi) ?_;refine rk [3,4,5,6,7,49] ?_
    rcases brc h with ⟨hc,h⟩|⟨hc,h⟩
    ·refine cnf (ntf (dT hc)) ?_
     refine .skip ?_
     show AW _ _ _ _ _ _
     refine .sr ?_;refine vk (Aj Af Ad) ?_;refine vk (Eh Af Ad) ?_
     obtain ⟨x6,g6,h⟩:=bnd h
     refine vk (VOK.tupd (vs:=[.ag [.b x6.1.1,.sl (L x6.1.2.1),.sl (L x6.1.2.2)],.i .i64 x6.2]) (Ae (G6 g6) Tryz.call136)) ?_;refine vk (vex) ?_;refine vk (vex) ?_
     refine stn ?_ Ad (by decide)
     refine ar [4,5] ?_;refine .ret ?_
     cases h
     exact ⟨_,_,⟨.inr rfl,Af,Ad,p3⟩,rfl,rfl⟩
    refine cnt (ntt (dF hc)) ?_;refine .sr ?_;refine vk (vbd Bq AG AH) ?_;refine vk (Aa) ?_
    refine stn ?_ Ad (by decide)
    refine ar [3,4,5,6] ?_;refine .ret ?_
    cases h
    exact ⟨_,_,⟨.inr rfl,Af,Ad,p3⟩,rfl,rfl⟩
   refine cnf (dF hc) ?_;refine .skip ?_
   show AW _ _ _ _ _ _
   refine .seq ?_;refine .sr ?_;refine vk (Aa) ?_;refine vk (vbi) ?_;refine rk [3,4,5,6,7,49] ?_
   rcases brc h with ⟨hc,h⟩|⟨hc,h⟩
   ·refine cnf (ntf (dT hc)) ?_
    refine .skip ?_
    show AW _ _ _ _ _ _
    refine .sr ?_;refine vk (Aj Af Ad) ?_;refine vk (Eh Af Ad) ?_
    obtain ⟨x7,g7,h⟩:=bnd h
    refine vk (VOK.tupd (vs:=[.ag [.b x7.1.1,.sl (L x7.1.2.1),.sl (L x7.1.2.2)],.i .i64 x7.2]) (Ae (G6 g7) Tryz.call136)) ?_;refine vk (vex) ?_;refine vk (vex) ?_
    refine stn ?_ Ad (by decide)
    refine ar [4,5] ?_;refine .ret ?_
    cases h
    exact ⟨_,_,⟨.inr rfl,Af,Ad,p3⟩,rfl,rfl⟩
   refine cnt (ntt (dF hc)) ?_;refine .sr ?_;refine vk (vbd Bq AG AH) ?_;refine vk (Aa) ?_
   refine stn ?_ Ad (by decide)
   refine ar [3,4,5,6] ?_;refine .ret ?_
   cases h
   exact ⟨_,_,⟨.inr rfl,Af,Ad,p3⟩,rfl,rfl⟩
  refine cnf (dF hc) ?_;refine .skip ?_
  show AW _ _ _ _ _ _
  refine .seq ?_;refine .sr ?_;refine vk (Aa) ?_;refine vk (vbi) ?_;refine rk [2,3,4,5,6,7,40] ?_
  rcases brc h with ⟨hc,h⟩|⟨hc,h⟩
  ·refine cnt (dT hc) ?_
   refine .region ?_;refine vk (Aj Af Ad) ?_;refine vk (Eh Af Ad) ?_;refine vk ((Fr (Dy [a0,x3.1]) Gj).deep) ?_
   obtain ⟨x8,g8,h⟩:=bnd h
   refine vk (VOK.tupd (vs:=[.ag [.b x8.1.1,.sl (L x8.1.2.1),.sl (L x8.1.2.2)],.i .i64 x8.2]) (Ae (L9 g8) Tryz.call135)) ?_;refine vk (Aa) ?_;refine vk (vex) ?_;refine vk (vex) ?_
   refine stn ?_ Ad (by decide)
   refine ar [3,4,5,6,7] ?_;refine .seq ?_;refine .sr ?_;refine vk (Aa) ?_;refine vk (vbi) ?_;refine rk [3,4,5,6,7,49] ?_
   rcases brc h with ⟨hc,h⟩|⟨hc,h⟩
   ·refine cnf (ntf (dT hc)) ?_
    refine .skip ?_
    show AW _ _ _ _ _ _
    refine .sr ?_;refine vk (Aj Af Ad) ?_;refine vk (Eh Af Ad) ?_
    obtain ⟨x9,g9,h⟩:=bnd h
    refine vk (VOK.tupd (vs:=[.ag [.b x9.1.1,.sl (L x9.1.2.1),.sl (L x9.1.2.2)],.i .i64 x9.2]) (Ae (G6 g9) Tryz.call136)) ?_;refine vk (vex) ?_;refine vk (vex) ?_
    refine stn ?_ Ad (by decide)
    refine ar [4,5] ?_;refine .ret ?_
    cases h
    exact ⟨_,_,⟨.inr rfl,Af,Ad,p3⟩,rfl,rfl⟩
   refine cnt (ntt (dF hc)) ?_;refine .sr ?_;refine vk (vbd Bq AG AH) ?_;refine vk (Aa) ?_
   refine stn ?_ Ad (by decide)
   refine ar [3,4,5,6] ?_;refine .ret ?_
   cases h
   exact ⟨_,_,⟨.inr rfl,Af,Ad,p3⟩,rfl,rfl⟩
  refine cnf (dF hc) ?_;refine .skip ?_
  show AW _ _ _ _ _ _
  refine .seq ?_;refine .sr ?_;refine vk (Aa) ?_;refine vk (vbi) ?_;refine rk [3,4,5,6,7,49] ?_
  rcases brc h with ⟨hc,h⟩|⟨hc,h⟩
  ·refine cnf (ntf (dT hc)) ?_
   refine .skip ?_
   show AW _ _ _ _ _ _
   refine .sr ?_;refine vk (Aj Af Ad) ?_;refine vk (Eh Af Ad) ?_
   obtain ⟨x10,g10,h⟩:=bnd h
   refine vk (VOK.tupd (vs:=[.ag [.b x10.1.1,.sl (L x10.1.2.1),.sl (L x10.1.2.2)],.i .i64 x10.2]) (Ae (G6 g10) Tryz.call136)) ?_;refine vk (vex) ?_;refine vk (vex) ?_
   refine stn ?_ Ad (by decide)
   refine ar [4,5] ?_;refine .ret ?_
   cases h
   exact ⟨_,_,⟨.inr rfl,Af,Ad,p3⟩,rfl,rfl⟩
  refine cnt (ntt (dF hc)) ?_;refine .sr ?_;refine vk (vbd Bq AG AH) ?_;refine vk (Aa) ?_
  refine stn ?_ Ad (by decide)
  refine ar [3,4,5,6] ?_;refine .ret ?_
  cases h
  exact ⟨_,_,⟨.inr rfl,Af,Ad,p3⟩,rfl,rfl⟩
 refine cnt (ntt (bf hc)) ?_;refine .sr ?_;refine vk (vbd Bq AG AH) ?_
 refine stn ?_ Ad (by decide)
 refine ar [2,3,4,5] ?_;refine .ret ?_
 cases h
 exact ⟨_,_,⟨.inr rfl,Af,Ad,p3⟩,rfl,rfl⟩
def HY (a0:RT) (a1:RT) : Option (RT×Int):=((Cg ([a0,a1])).bind fun x1=>(if x1=true then ((DD a1).bind fun x2=>(if ((!x2)||((decide (((List.length a0.2.1:Nat) : Int)=0))&&a1.1))=true then (some ((false,[],[]),3)) else (if ((List.length a1.2.1:Nat) : Int)=0 then ((B6 1).bind fun x3=>(some (x3,0))) else (if ((List.length a0.2.1:Nat) : Int)=0 then ((B6 0).bind fun x4=>(some (x4,0))) else (Option.bind ((if a0.1=true then ((rd? a1.2.1 0).bind fun x6=>(some (decide ((bits .and .u32 ((x6:Nat) : Int) 1)=1)))) else (some false)) : Option (Bool)) fun (z5:Bool)=>((Ho a0.2.1 a0.2.2).bind fun x7=>(if x7=true then (Dp.bind fun x8=>(Dp.bind fun x9=>(some ((z5,x8,x9),0)))) else ((QB a1.2.1).bind fun x10=>(if x10.2=true then ((NT a0.2.1 x10.1 32).bind fun x11=>((NT a0.2.2 x10.1 32).bind fun x12=>(if ((!x11.2)||(!x12.2))=true then (some ((false,[],[]),8)) else (if a1.1=true then (some ((z5,x12.1,x11.1),0)) else (some ((z5,x11.1,x12.1),0)))))) else (some ((false,[],[]),8))))))))))) else (some ((false,[],[]),22))))
set_option maxHeartbeats 4000000 in
theorem Qh {a0:RT} {a1:RT} {r:RT×Int} (h:HY a0 a1=some r) :
  Fn Tryz.prog 138 [.ag [.b a0.1,.sl (L a0.2.1),.sl (L a0.2.2)],.ag [.b a1.1,.sl (L a1.2.1),.sl (L a1.2.2)]] (.tup [.d (.ag [.b r.1.1,.sl (L r.1.2.1),.sl (L r.1.2.2)]),.d (.i .i64 r.2)]):=by
 unfold HY at h
 refine Fn.ofC (rs:=[.cell 4 32,.tmp 5]) (nt:=104) Tryz.func138 rfl rfl rfl (by simp) rfl ?_;refine .sr ?_;refine vk (vbx) ?_;refine vk (vbx) ?_;refine vk (van (Ai AG) AH) ?_;refine ar [2,3,4,5] ?_;refine .seq ?_;refine .block ?_;refine .sr ?_;refine vk (Aj Af Ad) ?_;refine vk (Aj Af Ad) ?_;refine vk ((Fr (Dy [a0,a1]) Gj).deep) ?_
 obtain ⟨x1,g1,h⟩:=bnd h
 refine vk (Ae (CB g1) Tryz.call167) ?_;refine vk (vnt) ?_;refine ar [2,3,4,5,13] ?_
 rcases brc h with ⟨hc,h⟩|⟨hc,h⟩
 ·refine cnf (ntf hc) ?_
  refine .seq ?_
  obtain ⟨x2,g2,h⟩:=bnd h
  refine AW.mr (σ:=Unit) (fun _=>True) (fun _=>[(2,.d (.ptr [.b a0.1,.sl (L a0.2.1),.sl (L a0.2.2)])),(3,.d (.ptr [.b a1.1,.sl (L a1.2.1),.sl (L a1.2.2)])),(4,.nb [.b false,.sl (L []),.sl (L [])]),(5,.d (.i .i64 0)),(20,.d (.b ((!x2)||((decide (((List.length a0.2.1:Nat):Int)=0))&&a1.1))))]) (fun _=>[]) ?_ ?_
  ·skip
   refine .region ?_;refine vk (Aj Af Ad) ?_;refine vk (Ae (IA g2) Tryz.call206) ?_;refine vk (vnt) ?_
   by_cases hc:x2=true
   ·have hb0:(!x2)=false:=(ntf hc)
    refine vk (VOK.lit (Aa) hb0) ?_;refine vk (vfa AA) ?_;refine vk (Ak AQ) ?_;refine vk (A7 (Ab _) (Ax _) B0) ?_;refine vk (vbi) ?_
    by_cases hc:((List.length a0.2.1:Nat):Int)=0
    ·have hb1:(decide (((List.length a0.2.1:Nat):Int)=0))=true:=(dT hc)
     refine vk (VOK.lit (Aa) hb1) ?_;refine vk (vfa AT) ?_;refine vk (Ak AD) ?_;refine vk (Ah) ?_;refine vk (Ah) ?_;refine asd ?_;refine RL.gk [2,3,4,5,20] ?_;refine .nil ?_
     exact jr () trivial (by simp only [hb0,hb1];rfl)
    have hb1:(decide (((List.length a0.2.1:Nat):Int)=0))=false:=(dF hc)
    refine vk (VOK.lit (Aa) hb1) ?_;refine gf ?_;refine gf ?_;refine vk (Ah) ?_;refine vk (Ah) ?_;refine asd ?_;refine RL.gk [2,3,4,5,20] ?_;refine .nil ?_
    exact jr () trivial (by simp only [hb0,hb1];rfl)
   have hb0:(!x2)=true:=(ntt (bf hc))
   refine vk (VOK.lit (Aa) hb0) ?_;refine gf ?_;refine gf ?_;refine gf ?_;refine gf ?_;refine gfu ?_;refine gf ?_;refine gf ?_;refine gf ?_;refine vk (Ah) ?_;refine asd ?_;refine RL.gk [2,3,4,5,20] ?_;refine .nil ?_
   exact jr () trivial (by simp only [hb0];rfl)
  rintro _ _
  rcases brc h with ⟨hc,h⟩|⟨hc,h⟩
  ·refine cnt hc ?_
   refine .sr ?_;refine vk (vbd Bq AG AH) ?_
   refine stn ?_ Ad (by decide)
   refine ar [2,3,4,5] ?_;refine .ret ?_
   cases h
   exact ⟨_,_,⟨.inr rfl,Af,Ad,p3⟩,rfl,rfl⟩
  refine cnf (bf hc) ?_;refine .sr ?_;refine vk (vfa AA) ?_;refine vk (Ak AQ) ?_;refine vk (A7 (Ab _) (Ax _) B0) ?_;refine vk (vbi) ?_;refine ar [2,3,4,5,35] ?_
  rcases brc h with ⟨hc,h⟩|⟨hc,h⟩
  ·refine cnt (dT hc) ?_
   refine .sr ?_
   obtain ⟨x3,g3,h⟩:=bnd h
   refine vk (Ae (BD g3) Tryz.call72) ?_
   refine stn ?_ Ad (by decide)
   refine ar [2,3,4,5] ?_;refine .ret ?_
   cases h
   exact ⟨_,_,⟨.inr rfl,Af,Ad,p3⟩,rfl,rfl⟩
  refine cnf (dF hc) ?_;refine .sr ?_;refine vk (vfa AA) ?_;refine vk (Ak AQ) ?_;refine vk (A7 (Ab _) (Ax _) B0) ?_;refine vk (vbi) ?_;refine ar [2,3,4,5,41] ?_
  rcases brc h with ⟨hc,h⟩|⟨hc,h⟩
  ·refine cnt (dT hc) ?_
   refine .sr ?_
   obtain ⟨x4,g4,h⟩:=bnd h
   refine vk (Ae (BD g4) Tryz.call72) ?_
   refine stn ?_ Ad (by decide)
   refine ar [2,3,4,5] ?_;refine .ret ?_
   cases h
   exact ⟨_,_,⟨.inr rfl,Af,Ad,p3⟩,rfl,rfl⟩
  refine cnf (dF hc) ?_;refine .skip ?_
  show AW _ _ _ _ _ _
  refine .seq ?_
  obtain ⟨z5,hz,h⟩:=bnd h
  refine AW.mr (σ:=Unit) (fun _=>True) (fun _=>[(2,.d (.ptr [.b a0.1,.sl (L a0.2.1),.sl (L a0.2.2)])),(3,.d (.ptr [.b a1.1,.sl (L a1.2.1),.sl (L a1.2.2)])),(4,.nb [.b false,.sl (L []),.sl (L [])]),(5,.d (.i .i64 0)),(6,.d (.b z5))]) (fun _=>[]) ?_ ?_
  ·skip
   refine .region ?_;refine vk (vfa AT) ?_;refine vk (Ak AD) ?_
   rcases brc hz with ⟨hc,hz⟩|⟨hc,hz⟩
   ·have hb0:a0.1=true:=hc
    refine vk (VOK.lit (Aa) hb0) ?_;refine vk (vfa AA) ?_;refine vk (Ak AQ) ?_
    obtain ⟨x6,g6,hz⟩:=bnd hz
    obtain ⟨n6,p06,q6⟩:=BA g6
    refine vk (vix n6 p06 (CA q6) rfl Aas) ?_;refine vk (Ak Pi) ?_;refine vk (vbi) ?_;refine vk (vbi) ?_;refine vk (Ah) ?_;refine asd ?_;refine RL.gk [2,3,4,5,6] ?_;refine .nil ?_
    cases hz
    exact jr () trivial
   have hb0:a0.1=false:=(bf hc)
   refine vk (VOK.lit (Aa) hb0) ?_;refine gf ?_;refine gf ?_;refine gf ?_;refine gf ?_;refine gf ?_;refine gf ?_;refine vk (Ah) ?_;refine asd ?_;refine RL.gk [2,3,4,5,6] ?_;refine .nil ?_
   cases hz
   exact jr () trivial
  rintro _ _
  refine .seq ?_;refine .sr ?_;refine vk (vfa AA) ?_;refine vk (Ak AQ) ?_;refine vk (vfa Bg) ?_;refine vk (Ak AQ) ?_
  obtain ⟨x7,g7,h⟩:=bnd h
  refine vk (Ae (IW g7) Tryz.call112) ?_;refine rk [2,3,4,5,6,61] ?_
  rcases brc h with ⟨hc,h⟩|⟨hc,h⟩
  ·refine cnt hc ?_
   refine .sr ?_;refine vk (Aa) ?_
   obtain ⟨x8,g8,h⟩:=bnd h
   refine vk ((Ae (Ca g8) Tryz.call121).deep) ?_
   obtain ⟨x9,g9,h⟩:=bnd h
   refine vk ((Ae (Ca g9) Tryz.call121).deep) ?_;refine vk (vbd Bq AG AH) ?_
   refine stn ?_ Ad (by decide)
   refine ar [2,3,4,5,6] ?_;refine .ret ?_
   cases h
   exact ⟨_,_,⟨.inr rfl,Af,Ad,p3⟩,rfl,rfl⟩
  refine cnf (bf hc) ?_;refine .skip ?_
  show AW _ _ _ _ _ _
  refine .sr ?_;refine vk (vfa AA) ?_;refine vk (Ak AQ) ?_
  obtain ⟨x10,g10,h⟩:=bnd h
  refine vk (VOK.tupd (vs:=[.i .i64 x10.1,.b x10.2]) (Ae (UZ g10) Tryz.call207)) ?_;refine vk (Aa) ?_;refine vk (vex) ?_;refine vk (vex) ?_;refine asd ?_;refine ar [2,3,4,5,6,7,8] ?_;refine .seq ?_;refine .sr ?_;refine vk (Aa) ?_;refine vk (vnt) ?_;refine rk [2,3,4,5,6,7,73] ?_
  rcases brc h with ⟨hc,h⟩|⟨hc,h⟩
  ·refine cnf (ntf hc) ?_
   refine .skip ?_
   show AW _ _ _ _ _ _
   refine .sr ?_;refine vk (vfa AA) ?_;refine vk (Ak AQ) ?_;refine vk (Aa) ?_
   obtain ⟨x11,g11,h⟩:=bnd h
   refine vk (VOK.tupd (vs:=[.sl (L x11.1),.b x11.2]) (Ae (Pu g11) Tryz.call208)) ?_;refine vk (Aa) ?_;refine vk (vex) ?_;refine vk (vex) ?_;refine asd ?_;refine ar [2,3,4,5,6,7,9,10] ?_;refine .sr ?_;refine vk (vfa Bg) ?_;refine vk (Ak AQ) ?_;refine vk (Aa) ?_
   obtain ⟨x12,g12,h⟩:=bnd h
   refine vk (VOK.tupd (vs:=[.sl (L x12.1),.b x12.2]) (Ae (Pu g12) Tryz.call208)) ?_;refine vk (Aa) ?_;refine vk (vex) ?_;refine vk (vex) ?_;refine asd ?_;refine ar [3,4,5,6,9,10,11,12] ?_;refine .seq ?_;refine .seq ?_;refine AW.mr (σ:=Unit) (fun _=>True) (fun _=>[(3,.d (.ptr [.b a1.1,.sl (L a1.2.1),.sl (L a1.2.2)])),(4,.nb [.b false,.sl (L []),.sl (L [])]),(5,.d (.i .i64 0)),(6,.d (.b z5)),(9,.d (.sl (L x11.1))),(11,.d (.sl (L x12.1))),(94,.d (.b ((!x11.2)||(!x12.2))))]) (fun _=>[]) ?_ ?_
   ·skip
    refine .region ?_;refine vk (Aa) ?_;refine vk (vnt) ?_
    by_cases hc:x11.2=true
    ·have hb0:(!x11.2)=false:=(ntf hc)
     refine vk (VOK.lit (Aa) hb0) ?_;refine vk (Aa) ?_;refine vk (vnt) ?_;refine vk (Ah) ?_;refine RL.gk [3,4,5,6,9,11,94] ?_;refine .nil ?_
     exact jr () trivial (by simp only [hb0];rfl)
    have hb0:(!x11.2)=true:=(ntt (bf hc))
    refine vk (VOK.lit (Aa) hb0) ?_;refine gf ?_;refine gf ?_;refine vk (Ah) ?_;refine RL.gk [3,4,5,6,9,11,94] ?_;refine .nil ?_
    exact jr () trivial (by simp only [hb0];rfl)
   rintro _ _
   rcases brc h with ⟨hc,h⟩|⟨hc,h⟩
   ·refine cnt hc ?_
    refine .sr ?_;refine vk (vbd Bq AG AH) ?_
    refine stn ?_ Ad (by decide)
    refine ar [3,4,5,6,9,11] ?_;refine .ret ?_
    cases h
    exact ⟨_,_,⟨.inr rfl,Af,Ad,p3⟩,rfl,rfl⟩
   refine cnf (bf hc) ?_;refine .skip ?_
   show AW _ _ _ _ _ _
   refine .seq ?_;refine .sr ?_;refine vk (vfa AT) ?_;refine vk (Ak AD) ?_;refine rk [4,5,6,9,11,97] ?_
   rcases brc h with ⟨hc,h⟩|⟨hc,h⟩
   ·refine cnt hc ?_
    refine .region ?_;refine vk (Aa) ?_;refine vk (Aa) ?_;refine asd ?_;refine ar [4,5,6,9,11] ?_;refine .sr ?_;refine vk (Aa) ?_;refine vk (Aa) ?_;refine vk (Aa) ?_;refine vk (vbd Bq AG AH) ?_
    refine stn ?_ Ad (by decide)
    refine ar [4,5] ?_;refine .ret ?_
    cases h
    exact ⟨_,_,⟨.inr rfl,Af,Ad,p3⟩,rfl,rfl⟩
   refine cnf (bf hc) ?_;refine .skip ?_
   show AW _ _ _ _ _ _
   refine .sr ?_;refine vk (Aa) ?_;refine vk (Aa) ?_;refine vk (Aa) ?_;refine vk (vbd Bq AG AH) ?_
   refine stn ?_ Ad (by decide)
   refine ar [4,5] ?_;refine .ret ?_
   cases h
   exact ⟨_,_,⟨.inr rfl,Af,Ad,p3⟩,rfl,rfl⟩
  refine cnt (ntt (bf hc)) ?_;refine .sr ?_;refine vk (vbd Bq AG AH) ?_
  refine stn ?_ Ad (by decide)
  refine ar [2,3,4,5,6,7] ?_;refine .ret ?_
  cases h
  exact ⟨_,_,⟨.inr rfl,Af,Ad,p3⟩,rfl,rfl⟩
 refine cnt (ntt (bf hc)) ?_;refine .sr ?_;refine vk (vbd Bq AG AH) ?_
 refine stn ?_ Ad (by decide)
 refine ar [2,3,4,5] ?_;refine .ret ?_
 cases h
 exact ⟨_,_,⟨.inr rfl,Af,Ad,p3⟩,rfl,rfl⟩
def B1 (a1:RT) (z6:(List Nat)) : Nat→RT→Int→(List Nat)→(List Nat)→Option (RT×Int)
 | 0,_,_,_,_=>none
 | k+1,s11,s12,s13,s14=>((CN s14 z6).bind fun x15=>(if x15≤0 then (Dp.bind fun x16=>((S4 ([a1.2.1,x16])).bind fun x17=>((N1 x17 s14).bind fun x18=>((JA ([s13,x18.1])).bind fun x19=>((HA x19 s14).bind fun x20=>(if 32<((List.length x20.1:Nat):Int) then (some ((false,[],[]),8)) else (Dp.bind fun x21=>((S4 ([s14,x21])).bind fun x22=>(B1 a1 z6 k s11 s12 x20.1 x22))))))))) else (Dp.bind fun x23=>(some ((false,s13,x23),0)))))
def Fq (a0:RT) (a1:RT) : Option (RT×Int):=((Cg ([a0,a1])).bind fun x1=>(if x1=true then ((DW a0).bind fun x2=>(Option.bind ((if x2=true then ((DW a1).bind fun x4=>(some (!x4))) else (some true)) : Option (Bool)) fun (z2:Bool)=>(if z2=true then (some ((false,[],[]),3)) else ((N1 a1.2.1 a0.2.1).bind fun x5=>(jn (fun (z6:(List Nat))=>(Dp.bind fun x9=>(Dp.bind fun x10=>(B1 a1 z6 Cm (false,[],[]) 0 x9 x10)))) fun K0=>(if x5.2=true then ((CN x5.1 a0.2.1).bind fun x7=>(if x7<0 then (K0 x5.1) else (K0 a0.2.1))) else ((B6 0).bind fun x8=>(some (x8,0))))))))) else (some ((false,[],[]),22))))
theorem MZ {a0:RT} {a1:RT} {r:RT×Int} (h:Fq a0 a1=some r) :
  Fn Tryz.prog 139 [.ag [.b a0.1,.sl (L a0.2.1),.sl (L a0.2.2)],.ag [.b a1.1,.sl (L a1.2.1),.sl (L a1.2.2)]] (.tup [.d (.ag [.b r.1.1,.sl (L r.1.2.1),.sl (L r.1.2.2)]),.d (.i .i64 r.2)]):=by
 unfold Fq at h
 refine Fn.ofC (rs:=[.cell 4 32,.tmp 5]) (nt:=86) Tryz.func139 rfl rfl rfl (by simp) rfl ?_;refine .sr ?_;refine vk (vbx) ?_;refine vk (vbx) ?_;refine vk (van (Ai AG) AH) ?_;refine ar [2,3,4,5] ?_;refine .seq ?_;refine .block ?_;refine .sr ?_;refine vk (Aj Af Ad) ?_;refine vk (Aj Af Ad) ?_;refine vk ((Fr (Dy [a0,a1]) Gj).deep) ?_
 obtain ⟨x1,g1,h⟩:=bnd h
 refine vk (Ae (CB g1) Tryz.call167) ?_;refine vk (vnt) ?_;refine ar [2,3,4,5,13] ?_
 rcases brc h with ⟨hc,h⟩|⟨hc,h⟩
 ·refine cnf (ntf hc) ?_
  refine .seq ?_
  obtain ⟨x2,g2,h⟩:=bnd h
  obtain ⟨z2,hz,h⟩:=bnd h
  refine AW.mr (σ:=Unit) (fun _=>True) (fun _=>[(2,.d (.ptr [.b a0.1,.sl (L a0.2.1),.sl (L a0.2.2)])),(3,.d (.ptr [.b a1.1,.sl (L a1.2.1),.sl (L a1.2.2)])),(4,.nb [.b false,.sl (L []),.sl (L [])]),(5,.d (.i .i64 0)),(20,.d (.b z2))]) (fun _=>[]) ?_ ?_
  ·skip
   refine .region ?_;refine vk (Aj Af Ad) ?_;refine vk (Ae (GS g2) Tryz.call163) ?_;refine vk (vnt) ?_
   rcases brc hz with ⟨hc,hz⟩|⟨hc,hz⟩
   ·have hb0:(!x2)=false:=(ntf hc)
    refine vk (VOK.lit (Aa) hb0) ?_;refine vk (Aj Af Ad) ?_
    obtain ⟨x4,g4,hz⟩:=bnd hz
    refine vk (Ae (GS g4) Tryz.call163) ?_;refine vk (vnt) ?_;refine vk (Ah) ?_;refine asd ?_;refine RL.gk [2,3,4,5,20] ?_;refine .nil ?_
    cases hz
    exact jr () trivial
   have hb0:(!x2)=true:=(ntt (bf hc))
   refine vk (VOK.lit (Aa) hb0) ?_;refine gf ?_;refine gf ?_;refine gf ?_;refine vk (Ah) ?_;refine asd ?_;refine RL.gk [2,3,4,5,20] ?_;refine .nil ?_
   cases hz
   exact jr () trivial
  rintro _ _
  rcases brc h with ⟨hc,h⟩|⟨hc,h⟩
  ·refine cnt hc ?_
   refine .sr ?_;refine vk (vbd Bq AG AH) ?_
   refine stn ?_ Ad (by decide)
   refine ar [2,3,4,5] ?_;refine .ret ?_
   cases h
   exact ⟨_,_,⟨.inr rfl,Af,Ad,p3⟩,rfl,rfl⟩
  refine cnf (bf hc) ?_;refine .skip ?_
  show AW _ _ _ _ _ _
  refine .sr ?_;refine vk (vfa AA) ?_;refine vk (Ak AQ) ?_;refine ar [3,4,5,6] ?_;refine .sr ?_;refine vk (vfa AA) ?_;refine vk (Ak AQ) ?_;refine vk (Aa) ?_
  obtain ⟨x5,g5,h⟩:=bnd h
  refine vk (VOK.tupd (vs:=[.sl (L x5.1),.b x5.2]) (Ae (Pq g5) Tryz.call209)) ?_;refine vk (Aa) ?_;refine vk (vex) ?_;refine vk (vex) ?_;refine asd ?_;refine ar [3,4,5,6,7,8] ?_
  obtain ⟨K0,hK0,h⟩:=Du h
  refine AW.mj (σ:=(List Nat)) (fun p=>K0 p=some r) (fun p=>[(3,.d (.ptr [.b a1.1,.sl (L a1.2.1),.sl (L a1.2.2)])),(4,.nb [.b false,.sl (L []),.sl (L [])]),(5,.d (.i .i64 0)),(6,.d (.sl (L p)))]) (fun p=>[]) ?_ ?_
  ·skip
   refine .block ?_;refine .sr ?_;refine vk (Aa) ?_;refine vk (vnt) ?_;refine ar [3,4,5,6,7,39] ?_
   rcases brc h with ⟨hc,h⟩|⟨hc,h⟩
   ·refine cnf (ntf hc) ?_
    refine .sr ?_;refine vk (Aa) ?_;refine vk (Aa) ?_
    obtain ⟨x7,g7,h⟩:=bnd h
    refine vk (Ae (CR g7) Tryz.call164) ?_;refine vk (vbi) ?_;refine ar [3,4,5,6,7,43] ?_
    rcases brc h with ⟨hc,h⟩|⟨hc,h⟩
    ·refine cnt (dT hc) ?_
     refine .region ?_;refine vk (Aa) ?_;refine asd ?_;refine RL.gk [3,4,5,6] ?_;refine .nil ?_
     exact jr (x5.1) h
    refine cnf (dF hc) ?_;refine .gk [3,4,5,6] ?_;refine .skip ?_
    exact jr (a0.2.1) h
   refine cnt (ntt (bf hc)) ?_;refine .sr ?_
   obtain ⟨x8,g8,h⟩:=bnd h
   refine vk (Ae (BD g8) Tryz.call72) ?_
   refine stn ?_ Ad (by decide)
   refine ar [3,4,5,6] ?_;refine .ret ?_
   cases h
   exact ⟨_,_,⟨.inr rfl,Af,Ad,p3⟩,rfl,rfl⟩
  rintro z6 h
  try dsimp only at h ⊢
  subst hK0
  refine .sr ?_
  obtain ⟨x9,g9,h⟩:=bnd h
  refine vk ((Ae (Ca g9) Tryz.call121).deep) ?_;refine ar [3,4,5,6,9] ?_;refine .seq ?_;refine .sr ?_
  obtain ⟨x10,g10,h⟩:=bnd h
  refine vk ((Ae (Ca g10) Tryz.call121).deep) ?_;refine ar [3,4,5,6,9,10] ?_;refine .block ?_
  refine .loop (.gk [3,4,5,6,9,10] ?_)
  refine AL.ind (σ:=Nat×RT×Int×(List Nat)×(List Nat)) (m:=fun p=>p.1) (e:=fun p=>[(3,.d (.ptr [.b a1.1,.sl (L a1.2.1),.sl (L a1.2.2)])),(4,.nb [.b p.2.1.1,.sl (L p.2.1.2.1),.sl (L p.2.1.2.2)]),(5,.d (.i .i64 p.2.2.1)),(6,.d (.sl (L z6))),(9,.d (.sl (L p.2.2.2.1))),(10,.d (.sl (L p.2.2.2.2)))]) (h:=fun p=>[]) (I:=fun p=>B1 a1 z6 p.1 p.2.1 p.2.2.1 p.2.2.2.1 p.2.2.2.2=some r) ?_ (Cm,(false,[],[]),0,x9,x10) h
  rintro ⟨k,s11,s12,s13,s14⟩ h ih
  dsimp only at h ih ⊢
  rcases k with _|k
  ·rw [B1] at h;cases h
  rw [B1] at h
  refine .seq ?_;refine .sr ?_;refine vk (Aa) ?_;refine vk (Aa) ?_
  obtain ⟨x15,g15,h⟩:=bnd h
  refine vk (Ae (CR g15) Tryz.call164) ?_;refine vk (vbi) ?_;refine rk [3,4,5,6,9,10,54] ?_
  rcases brc h with ⟨hc,h⟩|⟨hc,h⟩
  ·refine cnt (dT hc) ?_
   refine .skip ?_
   show AW _ _ _ _ _ _
   refine .seq ?_;refine .block ?_;refine .seq ?_
   obtain ⟨x16,g16,h⟩:=bnd h
   obtain ⟨x17,g17,h⟩:=bnd h
   obtain ⟨x18,g18,h⟩:=bnd h
   refine .drawnF 10 [9] [(11,.d (.sl (L x18.1)))] [] A4 (by kernel_rfl) rfl ?_;refine dv (vfa AA) ?_;refine dv (Ak AQ) ?_;refine dv ((Ae (Ca g16) Tryz.call121).deep) ?_;refine dv ((Fr (GC [a1.2.1,x16]) PQ).deep) ?_;refine dv (Ae (Nb g17) Tryz.call165) ?_;refine dv (Aa) ?_;refine dv (VOK.tupd (vs:=[.sl (L x18.1),.b x18.2]) (Ae (Pq g18) Tryz.call209)) ?_;refine dv (Aa) ?_;refine dv (vex) ?_;refine dv (vex) ?_;refine dz ?_
   refine ⟨?_,?_,?_⟩
   ·intro k hk
    simp only [List.mem_cons,List.not_mem_nil,or_false] at hk
    subst hk
    exact ⟨_,_,_,rfl,rfl,rfl,rfl,rfl,rfl,vex⟩
   ·intro om e hom hge
    cases hom
    exact Kr rfl ((hge 67 (fun k hk v hv=>by
      simp only [List.mem_cons,List.not_mem_nil,or_false] at hk
      subst hk;exact (by decide:¬(some 68=some 67)) (congrArg (Option.map Prod.fst) hv))).trans rfl) rfl ((congrArg Ao (hge 11 (fun k hk v hv=>by
      simp only [List.mem_cons,List.not_mem_nil,or_false] at hk
      subst hk;exact (by decide:¬(some 68=some 11)) (congrArg (Option.map Prod.fst) hv)))).trans rfl) rfl ⟨rfl,rfl⟩
   refine ar [3,4,5,6,9,10,11] ?_;refine .sr ?_;refine vk (Aa) ?_;refine vk (Aa) ?_;refine vk ((Fr (GC [s13,x18.1]) PQ).deep) ?_
   obtain ⟨x19,g19,h⟩:=bnd h
   refine vk (Ae (MC g19) Tryz.call166) ?_;refine vk (Aa) ?_
   obtain ⟨x20,g20,h⟩:=bnd h
   refine vk (VOK.tupd (vs:=[.sl (L x20.1),.sl (L x20.2.1),.b x20.2.2]) (Ae (Ny g20) Tryz.call199)) ?_;refine vk (Aa) ?_;refine vk (vex) ?_;refine vk (vex) ?_;refine vk (vex) ?_;refine ar [3,4,5,6,9,10] ?_;refine .sr ?_;refine vk (Aa) ?_;refine vk (A7 (Ab _) (Ax _) B0) ?_;refine vk (vbi) ?_;refine rk [3,4,5,6,9,10,81] ?_
   rcases brc h with ⟨hc,h⟩|⟨hc,h⟩
   ·refine cnt (dT hc) ?_
    refine .sr ?_;refine vk (vbd Bq AG AH) ?_
    refine stn ?_ Ad (by decide)
    refine ar [3,4,5,6,9,10] ?_;refine .ret ?_
    cases h
    exact ⟨_,_,⟨.inr rfl,Af,Ad,p3⟩,rfl,rfl⟩
   refine cnf (dF hc) ?_;refine .skip ?_
   show AW _ _ _ _ _ _
   refine .region ?_;refine vk (Aa) ?_
   obtain ⟨x21,g21,h⟩:=bnd h
   refine vk ((Ae (Ca g21) Tryz.call121).deep) ?_;refine vk ((Fr (GC [s14,x21]) PQ).deep) ?_
   obtain ⟨x22,g22,h⟩:=bnd h
   refine vk (Ae (Nb g22) Tryz.call165) ?_;refine asd ?_;refine .nil ?_;refine AL.gk [3,4,5,6,9,10] ?_
   exact ih (k,s11,s12,x20.1,x22) h (Nat.lt_succ_self _)
  refine cnf (dF hc) ?_;refine .exit ?_
  show AW _ _ _ _ _ _
  refine .sr ?_;refine vk (Aa) ?_
  obtain ⟨x23,g23,h⟩:=bnd h
  refine vk ((Ae (Ca g23) Tryz.call121).deep) ?_;refine vk (vbd Bq AG AH) ?_
  refine stn ?_ Ad (by decide)
  refine ar [4,5] ?_;refine .ret ?_
  cases h
  exact ⟨_,_,⟨.inr rfl,Af,Ad,p3⟩,rfl,rfl⟩
 refine cnt (ntt (bf hc)) ?_;refine .sr ?_;refine vk (vbd Bq AG AH) ?_
 refine stn ?_ Ad (by decide)
 refine ar [2,3,4,5] ?_;refine .ret ?_
 cases h
 exact ⟨_,_,⟨.inr rfl,Af,Ad,p3⟩,rfl,rfl⟩
theorem Xs {z:Int} (h1:-9223372036854775808≤z) (h2:z≤9223372036854775807) : w64 z=z:=Kw h1 h2
theorem Az {α β:Type} {x:Option α} {a:α} {f:α→Option β} {r:Option β} (h:x=some a) (h2:f a=r) : x.bind f=r:=by rw [h];exact h2
theorem Bw {r:RT} (h:Dc r=true) : C9 r=some (AM r):=if_pos h
theorem A1 {r:RT} (h:Dc r=true) : AJ r=some (AM r):=if_pos h
theorem Pp {l:List RT} (h:l.all Dc=true) (hl:l.length≤1048576) : Cg l=some (l.all AM):=if_pos (by rw [h,Bool.true_and];exact dT hl)
theorem JS {a b:RT} (ha:Dc a=true) (hb:Dc b=true) : Cg [a,b]=some (AM a&&AM b):=by
 rw [Pp (by simp [ha,hb]) (by simp)];simp
theorem X1 {a b c:RT} (ha:Dc a=true) (hb:Dc b=true) (hc:Dc c=true) : Cg [a,b,c]=some (AM a&&(AM b&&AM c)):=by
 rw [Pp (by simp [ha,hb,hc]) (by simp)];simp
theorem W5 (a:RT) : Ft a=some ((a.2.1,a.2.2),a.1):=if_pos trivial
theorem Sy (a:(List Nat×List Nat)×Bool) : LM a=some (a.1,!a.2):=if_pos trivial
theorem C5 : Dp=some [1]:=if_pos trivial
theorem BU : BE=some [1]:=if_pos trivial
theorem HB : Hd=some (ofQ 0):=by rw [WS];exact if_pos trivial
theorem Fh (p:Rat) : Ft (ofQ p)=some (qN (q3 p)):=W5 _
theorem Xu (x:Q3) : LM (qN x)=some (qN (!x.1,x.2.1,x.2.2)):=Sy _
theorem Nf (x:Q3) : OR (qN x)=x:=by simp [OR,Ag]
def sm (k:Nat) (x:Q3) : Prop:=(Ac x.2.1).length≤k∧(Ac x.2.2).length≤k
theorem B4 {k l:Nat} {x:Q3} (h:sm k x) (hl:k≤l) : sm l x:=⟨nT h.1 hl,nT h.2 hl⟩
theorem F5 {p:Rat} (h:AB p) : sm 32 (q3 p):=h
theorem Vm {x y:Q3} (hx:sm 4000 x) (hy:sm 4000 y) : Lp (qN x) (qN y)=some (qN (ED x y)):=by
 have:Lp (qN x) (qN y)=some (qN (ED (OR (qN x)) (OR (qN y)))):=if_pos (by
  simp only [Bool.and_eq_true]
  exact ⟨⟨AE hx.1,AE hx.2⟩,AE hy.1,AE hy.2⟩)
 rw [this,Nf,Nf]
theorem TZ {x y:Q3} (hx:sm 4000 x) (hy:sm 4000 y) : G4 (qN x) (qN y)=some (qN (Ff x y)):=by
 have:G4 (qN x) (qN y)=some (qN (Ff (OR (qN x)) (OR (qN y)))):=if_pos (by
  simp only [Bool.and_eq_true]
  exact ⟨⟨AE hx.1,AE hx.2⟩,AE hy.1,AE hy.2⟩)
 rw [this,Nf,Nf]
theorem WN {x:Q3} (hx:sm 100000 x) (h0:x.2.2≠0) : Fb (qN x)=some (Fd (Er x)):=by
 have:Fb (qN x)=some (KQ (MT x.1 (val (Ac x.2.1)) (val (Ac x.2.2)))):=if_pos (by
  simp only [Bool.and_eq_true]
  exact ⟨AE hx.1,AE hx.2⟩)
 rw [this,Ag,Ag,Nw h0,PH]
theorem Uh {x y:Q3} {k:Nat} (hx:sm k x) (hy:sm k y) : sm (2 * k+1) (ED x y):=by
 have l1:=EL (An x.2.1) (An y.2.2) hx.1 hy.2
 have l2:=EL (An y.2.1) (An x.2.2) hy.1 hx.2
 have l3:=EL (An x.2.2) (An y.2.2) hx.2 hy.2
 rw [Ag,Ag] at l1 l2 l3
 have h2:(ED x y).2.2=x.2.2 * y.2.2:=by simp only [ED];split<;>first|rfl|(split<;>rfl)
 refine ⟨?_,by rw [h2];omega⟩
 simp only [ED]
 generalize x.2.1 * y.2.2=a at *
 generalize y.2.1 * x.2.2=b at *
 split
 ·exact KW l1 l2
 ·split
  ·exact nT (Nn l1) (by omega)
  ·exact nT (Nn l2) (by omega)
theorem Rx {x y:Q3} {k:Nat} (hx:sm k x) (hy:sm k y) : sm (2 * k) (Ff x y):=by
 have l1:=EL (An x.2.1) (An y.2.1) hx.1 hy.1
 have l3:=EL (An x.2.2) (An y.2.2) hx.2 hy.2
 rw [Ag,Ag] at l1 l3
 exact ⟨l1,l3⟩
theorem Rl (x:Q3) : Er (!x.1,x.2.1,x.2.2)=- Er x:=by
 rw [Rat.neg_mkRat]
 have:sg (!x.1) x.2.1=- sg x.1 x.2.1:=by cases x.1<;>simp [sg]
 rw [Er,this]
theorem M9 {x:Q3} {k:Nat} (hx:sm k x) : sm k (!x.1,x.2.1,x.2.2):=hx
theorem Gn (p:Rat) : (q3 p).2.2≠0:=p.den_nz
theorem CL {p q:Rat} (hp:AB p) (hq:AB q) : (AM (ofQ p)&&AM (ofQ q))=true:=by rw [Ba hp,Ba hq];rfl
theorem YO {p q:Rat} (hp:AB p) (hq:AB q) : Gx (ofQ p) (ofQ q)=some (Fd (p-q)):=by
 unfold Gx
 have s1:=B4 (F5 hp) (show 32≤4000 by decide)
 have s2:=B4 (F5 hq) (show 32≤4000 by decide)
 obtain ⟨v1,v2⟩:=LW (x:=q3 p) (y:=(!(q3 q).1,(q3 q).2.1,(q3 q).2.2)) (Gn p) (Gn q)
 refine Az (JS (Au hp) (Au hq)) ?_
 rw [CL hp hq,if_pos rfl]
 refine Az (Fh p) (Az (Fh q) (Az (Xu _) (Az (Vm s1 (M9 s2)) (Az (WN (B4 (Uh (F5 hp) (M9 (F5 hq))) (by decide)) v2) ?_))))
 rw [v1,Rl,ER,ER,Rat.sub_eq_add_neg]
theorem ID {p:Rat} : (0:Int)<((List.length (ofQ p).2.1 : Nat) : Int)↔p≠0:=by
 show (0:Int)<(((Ac p.num.natAbs).length:Nat):Int)↔_
 constructor
 ·rintro h rfl
  rw [show (0:Rat).num.natAbs=0 from rfl,Ar] at h;simp at h
 ·intro h
  have:p.num≠0:=fun h2=>h (Rat.num_eq_zero.1 h2)
  have:Ac p.num.natAbs≠[]:=fun h2=>this (by have:=CS.1 h2;omega)
  have:=List.length_pos_iff.2 this
  omega
theorem C4 {p:Rat} : ((List.length (ofQ p).2.1 : Nat) : Int)=0↔p=0:=by
 have:=@ID p
 constructor
 ·intro h
  by_cases hp:p=0
  ·exact hp
  ·have:=this.2 hp;omega
 ·intro h
  by_cases h0:((List.length (ofQ p).2.1:Nat):Int)=0
  ·exact h0
  ·exact absurd h (this.1 (by omega))
theorem Ef {z:Int} (h1:-9223372036854775808≤z) (h2:z≤9223372036854775807) : B6 z=some (ofQ z):=by
 have:B6 z=some (decide (z<0),Ac z.natAbs,[1]):=if_pos ⟨h1,h2⟩
 rw [this]
 show _=some (decide (z<0),Ac z.natAbs,Ac 1)
 rw [Bb]
theorem Vq {z:Int} (h1:-9223372036854775808≤z) (h2:z≤9223372036854775808) : AB (z:Rat):=by
 constructor
 ·show (Ac z.natAbs).length≤32
  exact nT (Bh (k:=3) (by omega)) (by decide)
 ·show (Ac 1).length≤32
  rw [Bb];decide
theorem Uf {p:Rat} (h:p≠0) : Er ((q3 p).1,(q3 p).2.2,(q3 p).2.1)=p⁻¹:=by
 have hn:p.num≠0:=fun h2=>h (Rat.num_eq_zero.1 h2)
 rw [Rat.inv_def,Er]
 simp only [sg,decide_eq_true_eq]
 rw [← Rat.divInt_ofNat]
 by_cases h3:p.num<0
 ·rw [if_pos h3,show ((p.num.natAbs:Nat):Int)=- p.num by omega,← Rat.neg_divInt_neg];simp
 ·rw [if_neg h3,show ((p.num.natAbs:Nat):Int)=p.num by omega]
theorem VG {p q:Rat} (hp:AB p) (hq:AB q) : Iu (ofQ p) (ofQ q)=some (if q=0 then (if p=0 then (ofQ 1,0) else bad 3) else Fd (p / q)):=by
 unfold Iu
 refine Az (JS (Au hp) (Au hq)) ?_
 rw [CL hp hq,if_pos rfl]
 by_cases h:q=0
 ·rw [if_neg (by rw [ID];simp [h]),if_pos h]
  by_cases h2:p=0
  ·rw [if_neg (by rw [ID];simp [h2]),if_pos h2]
   exact Az (Ef (z:=1) (by decide) (by decide)) rfl
  ·rw [if_pos (by rw [ID];exact h2),if_neg h2]
 ·rw [if_pos (ID.2 h),if_neg h]
  have s1:=B4 (F5 hp) (show 32≤4000 by decide)
  have hn:q.num≠0:=fun h2=>h (Rat.num_eq_zero.1 h2)
  have s2:sm 32 ((q3 q).1,(q3 q).2.2,(q3 q).2.1):=⟨hq.2,hq.1⟩
  obtain ⟨v1,v2⟩:=FJ (x:=q3 p) (y:=((q3 q).1,(q3 q).2.2,(q3 q).2.1)) (Gn p) (by show q.num.natAbs≠0;omega)
  refine Az (Fh p) (Az (TZ (y:=((q3 q).1,(q3 q).2.2,(q3 q).2.1)) s1 (B4 s2 (by decide))) (Az (WN (B4 (Rx (F5 hp) s2) (by decide)) v2) ?_))
  rw [v1,ER,Uf h,Rat.div_def]
mutual
def okI : Itm→Prop
 | .mk k n c b=>(0≤k∧k<256)∧Dc n=true∧(-2147483648≤c∧c<2147483648)∧b.length≤2932031007402∧okAs b
def okAr : Arr→Prop
 | .mk s i=>(∀ z∈s,-9223372036854775808≤z∧z≤9223372036854775807)∧s.length≤17592186044416∧i.length≤1466015503701∧okIs i
def okIs : List Itm→Prop
 | []=>True
 | x::xs=>okI x∧okIs xs
def okAs : List Arr→Prop
 | []=>True
 | x::xs=>okAr x∧okAs xs
end
theorem X9 {n:Nat} (h:n≤140737488355328) : n<Cm:=by unfold Cm;omega
theorem YW {α:Type} {m:Nat} {xs ys:List α} (h:xs.length+ys.length≤m) : ap? m xs ys=some (xs++ys):=if_pos h
def YZ (s:List Int) : Int:=s.foldl (· * ·) 1
def szP (s:List Int) : Int×Int :=
 if 8<s.length then (0,4) else if s.any (fun n=>decide (n<0)) then (0,3) else if s.any (fun n=>decide (4096<n)) then (0,8) else if 0∈s then (0,0) else if YZ s≤4096 then (YZ s,0) else (0,8)
def Ci (a0:Int) : Option (RT):=(if a0<0 then ((RN (IntKind.wrap .u64 (0-(IntKind.wrap .u64 a0)))).bind fun x1=>(BE.bind fun x2=>(some (((decide (a0<0)),x1,x2))))) else ((RN (IntKind.wrap .u64 a0)).bind fun x3=>(BE.bind fun x4=>(some (((decide (a0<0)),x3,x4))))))
theorem CH {a0:Int} {r:RT} (h:Ci a0=some r) :
  Fn Tryz.prog 49 [.i .i64 a0] (.d (.ag [.b r.1,.sl (L r.2.1),.sl (L r.2.2)])):=by
 unfold Ci at h
 refine Fn.ofC (rs:=[.cell 2 32]) (nt:=16) Tryz.func49 rfl rfl rfl (by simp) rfl ?_;refine .sr ?_;refine vk (van (Ai AG) AH) ?_;refine rk [0,2] ?_;refine .sr ?_;refine vk (Aa) ?_;refine vk (vcv Xr OV) ?_;refine ar [0,2,3] ?_;refine .seq ?_;refine .sr ?_;refine vk (Aa) ?_;refine vk (vbi) ?_;refine rk [0,2,3,7] ?_
 rcases brc h with ⟨hc,h⟩|⟨hc,h⟩
 ·refine cnt (dT hc) ?_
  refine .region ?_;refine vk (Aa) ?_;refine vk (vng) ?_;refine ar [0,2,3] ?_;refine .sr ?_;refine vk (Aa) ?_;refine vk (vbi) ?_;refine vk (Aa) ?_
  obtain ⟨x1,g1,h⟩:=bnd h
  refine vk ((Ae (Qc g1) Tryz.call124).deep) ?_
  obtain ⟨x2,g2,h⟩:=bnd h
  refine vk ((Ae (Bk g2) Tryz.call44).deep) ?_;refine vk (vbd Bq AG AH) ?_
  refine stn ?_ Ad (by decide)
  refine rk [2] ?_;refine .ret ?_
  cases h
  exact ⟨_,⟨.inr rfl,Af,Ad,p3⟩,rfl⟩
 refine cnf (dF hc) ?_;refine .skip ?_
 show AW _ _ _ _ _ _
 refine .sr ?_;refine vk (Aa) ?_;refine vk (vbi) ?_;refine vk (Aa) ?_
 obtain ⟨x3,g3,h⟩:=bnd h
 refine vk ((Ae (Qc g3) Tryz.call124).deep) ?_
 obtain ⟨x4,g4,h⟩:=bnd h
 refine vk ((Ae (Bk g4) Tryz.call44).deep) ?_;refine vk (vbd Bq AG AH) ?_
 refine stn ?_ Ad (by decide)
 refine rk [2] ?_;refine .ret ?_
 cases h
 exact ⟨_,⟨.inr rfl,Af,Ad,p3⟩,rfl⟩
def Dm (a0:RT) : Option (RT):=((Od a0.2.1).bind fun x1=>((Od a0.2.2).bind fun x2=>(some ((a0.1,x1,x2)))))
theorem Gr {a0:RT} {r:RT} (h:Dm a0=some r) :
  Fn Tryz.prog 129 [.ag [.b a0.1,.sl (L a0.2.1),.sl (L a0.2.2)]] (.d (.ag [.b r.1,.sl (L r.2.1),.sl (L r.2.2)])):=by
 unfold Dm at h
 refine Fn.ofC (rs:=[.cell 2 32]) (nt:=12) Tryz.func129 rfl rfl rfl (by simp) rfl ?_;refine .sr ?_;refine vk (vbx) ?_;refine vk (van (Ai AG) AH) ?_;refine rk [1,2] ?_;refine .seq ?_;refine .drawn 9 A4 (by kernel_rfl) ?_;refine dv (vfa AT) ?_;refine dv (Ak AD) ?_;refine dv (vfa AA) ?_;refine dv (Ak AQ) ?_
 obtain ⟨x1,g1,h⟩:=bnd h
 refine dv ((Ae (PA g1) Tryz.call117).deep) ?_;refine dv (vfa Bg) ?_;refine dv (Ak AQ) ?_
 obtain ⟨x2,g2,h⟩:=bnd h
 refine dv ((Ae (PA g2) Tryz.call117).deep) ?_;refine dv (vbd Bq AG AH) ?_;refine dz ?_
 refine stn ?_ Ad (by decide)
 refine rk [2] ?_;refine .ret ?_
 cases h
 exact ⟨_,⟨.inr rfl,Af,Ad,p3⟩,rfl⟩
def Cq (a0:(List Nat)) (a1:Bool) (a2:(List Nat)) (a3:Bool) : Option ((List Nat)×Bool):=(if (a1 == a3)=true then ((Ol a0 a2).bind fun x1=>(some (x1,a1))) else ((Cw a0 a2).bind fun x2=>(if 0≤x2 then ((Hr a0 a2).bind fun x3=>(some (x3.1,a1))) else ((Hr a2 a0).bind fun x4=>(some (x4.1,a3))))))
theorem Gi {a0:(List Nat)} {a1:Bool} {a2:(List Nat)} {a3:Bool} {r:(List Nat)×Bool} (h:Cq a0 a1 a2 a3=some r) :
  Fn Tryz.prog 153 [.sl (L a0),.b a1,.sl (L a2),.b a3] (.tup [.d (.sl (L r.1)),.d (.b r.2)]):=by
 unfold Cq at h
 refine Fn.of (rs:=[.tmp 8,.tmp 9]) (nt:=41) Tryz.func153 rfl rfl rfl (by simp) rfl ?_;refine .sr ?_;refine asn ?_;refine ar [0,1,2,3,8,9] ?_;refine .seq ?_;refine .sr ?_;refine vk (Aa) ?_;refine vk (Aa) ?_;refine vk (U9 (.inl rfl) bo) ?_;refine rk [0,1,2,3,8,9,16] ?_
 rcases brc h with ⟨hc,h⟩|⟨hc,h⟩
 ·refine cnt hc ?_
  refine .sr ?_;refine vk (Aa) ?_;refine vk (Aa) ?_
  obtain ⟨x1,g1,h⟩:=bnd h
  refine vk ((Ae (LC g1) Tryz.call128).deep) ?_;refine vk (Aa) ?_;refine asd ?_;refine ar [0,1,2,3,8,9] ?_;refine .ret ?_
  cases h
  exact ⟨by decide,rfl,rfl,rfl⟩
 refine cnf (bf hc) ?_;refine .skip ?_
 show AW _ _ _ _ _ _
 refine .seq ?_;refine .sr ?_;refine vk (Aa) ?_;refine vk (Aa) ?_
 obtain ⟨x2,g2,h⟩:=bnd h
 refine vk (Ae (CO g2) Tryz.call42) ?_;refine vk (vbi) ?_;refine rk [0,1,2,3,8,9,24] ?_
 rcases brc h with ⟨hc,h⟩|⟨hc,h⟩
 ·refine cnt (dT hc) ?_
  refine .sr ?_;refine vk (Aa) ?_;refine vk (Aa) ?_
  obtain ⟨x3,g3,h⟩:=bnd h
  refine vk (VOK.tupd (vs:=[.sl (L x3.1),.b x3.2]) (Ae (Hf g3) Tryz.call156)) ?_;refine vk (Aa) ?_;refine vk (vex) ?_;refine vk (vex) ?_;refine asd ?_;refine ar [0,1,2,3,8,9,10] ?_;refine .sr ?_;refine vk (Aa) ?_;refine vk (Aa) ?_;refine asd ?_;refine ar [0,2,3,8,9] ?_;refine .ret ?_
  cases h
  exact ⟨by decide,rfl,rfl,rfl⟩
 refine cnf (dF hc) ?_;refine .skip ?_
 show AW _ _ _ _ _ _
 refine .sr ?_;refine vk (Aa) ?_;refine vk (Aa) ?_
 obtain ⟨x4,g4,h⟩:=bnd h
 refine vk (VOK.tupd (vs:=[.sl (L x4.1),.b x4.2]) (Ae (Hf g4) Tryz.call156)) ?_;refine vk (Aa) ?_;refine vk (vex) ?_;refine vk (vex) ?_;refine asd ?_;refine ar [3,8,9,12] ?_;refine .sr ?_;refine vk (Aa) ?_;refine vk (Aa) ?_;refine asd ?_;refine ar [8,9] ?_;refine .ret ?_
 cases h
 exact ⟨by decide,rfl,rfl,rfl⟩
def FF (a0:RT) (a1:RT) : Option (RT×Int):=((BJ a0.2.1 a1.2.2).bind fun x1=>((BJ a1.2.1 a0.2.2).bind fun x2=>((Cq x1 a0.1 x2 a1.1).bind fun x3=>((BJ a0.2.2 a1.2.2).bind fun x4=>((Cn x3.2 x3.1 x4).bind fun x5=>(some (x5.1,x5.2)))))))
theorem Ix {a0:RT} {a1:RT} {r:RT×Int} (h:FF a0 a1=some r) :
  Fn Tryz.prog 62 [.ag [.b a0.1,.sl (L a0.2.1),.sl (L a0.2.2)],.ag [.b a1.1,.sl (L a1.2.1),.sl (L a1.2.2)]] (.tup [.d (.ag [.b r.1.1,.sl (L r.1.2.1),.sl (L r.1.2.2)]),.d (.i .i64 r.2)]):=by
 unfold FF at h
 refine Fn.ofC (rs:=[.cell 4 32,.tmp 5]) (nt:=36) Tryz.func62 rfl rfl rfl (by simp) rfl ?_;refine .sr ?_;refine vk (vbx) ?_;refine vk (vbx) ?_;refine vk (van (Ai AG) AH) ?_;refine ar [2,3,4,5] ?_;refine .seq ?_
 obtain ⟨x1,g1,h⟩:=bnd h
 obtain ⟨x2,g2,h⟩:=bnd h
 obtain ⟨x3,g3,h⟩:=bnd h
 refine .drawnF 18 [17] [(6,.d (.sl (L x3.1)))] [] A4 (by kernel_rfl) rfl ?_;refine dv (vfa AA) ?_;refine dv (Ak AQ) ?_;refine dv (vfa Bg) ?_;refine dv (Ak AQ) ?_;refine dv ((Ae (Bn g1) Tryz.call126).deep) ?_;refine dv (vfa AT) ?_;refine dv (Ak AD) ?_;refine dv (vfa AA) ?_;refine dv (Ak AQ) ?_;refine dv (vfa Bg) ?_;refine dv (Ak AQ) ?_;refine dv ((Ae (Bn g2) Tryz.call126).deep) ?_;refine dv (vfa AT) ?_;refine dv (Ak AD) ?_;refine dv (VOK.tupd (vs:=[.sl (L x3.1),.b x3.2]) (Ae (Gi g3) Tryz.call153)) ?_;refine dv (Aa) ?_;refine dv (vex) ?_;refine dv (vex) ?_;refine dz ?_
 refine ⟨?_,?_,?_⟩
 ·intro k hk
  simp only [List.mem_cons,List.not_mem_nil,or_false] at hk
  subst hk
  exact ⟨_,_,_,rfl,rfl,rfl,rfl,rfl,rfl,vex⟩
 ·intro om e hom hge
  cases hom
  exact Kr rfl ((hge 24 (fun k hk v hv=>by
    simp only [List.mem_cons,List.not_mem_nil,or_false] at hk
    subst hk;exact (by decide:¬(some 25=some 24)) (congrArg (Option.map Prod.fst) hv))).trans rfl) rfl ((congrArg Ao (hge 6 (fun k hk v hv=>by
    simp only [List.mem_cons,List.not_mem_nil,or_false] at hk
    subst hk;exact (by decide:¬(some 25=some 6)) (congrArg (Option.map Prod.fst) hv)))).trans rfl) rfl ⟨rfl,rfl⟩
 refine ar [2,3,4,5,6,7] ?_;refine .sr ?_;refine vk (Aa) ?_;refine vk (Aa) ?_;refine vk (vfa Bg) ?_;refine vk (Ak AQ) ?_;refine vk (vfa Bg) ?_;refine vk (Ak AQ) ?_
 obtain ⟨x4,g4,h⟩:=bnd h
 refine vk ((Ae (Bn g4) Tryz.call126).deep) ?_
 obtain ⟨x5,g5,h⟩:=bnd h
 refine vk (VOK.tupd (vs:=[.ag [.b x5.1.1,.sl (L x5.1.2.1),.sl (L x5.1.2.2)],.i .i64 x5.2]) (Ae (Dg g5) Tryz.call125)) ?_;refine vk (vex) ?_;refine vk (vex) ?_
 refine stn ?_ Ad (by decide)
 refine ar [4,5] ?_;refine .ret ?_
 cases h
 exact ⟨_,_,⟨.inr rfl,Af,Ad,p3⟩,rfl,rfl⟩
def Fa (a0:RT) (a1:RT) : Option (RT×Int):=((BJ a0.2.1 a1.2.1).bind fun x1=>((BJ a0.2.2 a1.2.2).bind fun x2=>((Cn (a0.1 != a1.1) x1 x2).bind fun x3=>(some (x3.1,x3.2)))))
theorem Jz {a0:RT} {a1:RT} {r:RT×Int} (h:Fa a0 a1=some r) :
  Fn Tryz.prog 64 [.ag [.b a0.1,.sl (L a0.2.1),.sl (L a0.2.2)],.ag [.b a1.1,.sl (L a1.2.1),.sl (L a1.2.2)]] (.tup [.d (.ag [.b r.1.1,.sl (L r.1.2.1),.sl (L r.1.2.2)]),.d (.i .i64 r.2)]):=by
 unfold Fa at h
 refine Fn.ofC (rs:=[.cell 4 32,.tmp 5]) (nt:=24) Tryz.func64 rfl rfl rfl (by simp) rfl ?_;refine .sr ?_;refine vk (vbx) ?_;refine vk (vbx) ?_;refine vk (van (Ai AG) AH) ?_;refine ar [2,3,4,5] ?_;refine .seq ?_;refine .drawn 18 A4 (by kernel_rfl) ?_;refine dv (vfa AT) ?_;refine dv (Ak AD) ?_;refine dv (vfa AT) ?_;refine dv (Ak AD) ?_;refine dv (U9 (.inr rfl) bo) ?_;refine dv (vfa AA) ?_;refine dv (Ak AQ) ?_;refine dv (vfa AA) ?_;refine dv (Ak AQ) ?_
 obtain ⟨x1,g1,h⟩:=bnd h
 refine dv ((Ae (Bn g1) Tryz.call126).deep) ?_;refine dv (vfa Bg) ?_;refine dv (Ak AQ) ?_;refine dv (vfa Bg) ?_;refine dv (Ak AQ) ?_
 obtain ⟨x2,g2,h⟩:=bnd h
 refine dv ((Ae (Bn g2) Tryz.call126).deep) ?_
 obtain ⟨x3,g3,h⟩:=bnd h
 refine dv (VOK.tupd (vs:=[.ag [.b x3.1.1,.sl (L x3.1.2.1),.sl (L x3.1.2.2)],.i .i64 x3.2]) (Ae (Dg g3) Tryz.call125)) ?_;refine dv (vex) ?_;refine dv (vex) ?_;refine dz ?_
 refine stn ?_ Ad (by decide)
 refine ar [4,5] ?_;refine .ret ?_
 cases h
 exact ⟨_,_,⟨.inr rfl,Af,Ad,p3⟩,rfl,rfl⟩
def Ej (a0:RT) : Option (RT):=((Dm a0).bind fun x1=>(some ((((!x1.1)&&(decide (0<((List.length x1.2.1:Nat) : Int)))),x1.2.1,x1.2.2))))
theorem Fm {a0:RT} {r:RT} (h:Ej a0=some r) :
  Fn Tryz.prog 123 [.ag [.b a0.1,.sl (L a0.2.1),.sl (L a0.2.2)]] (.d (.ag [.b r.1,.sl (L r.2.1),.sl (L r.2.2)])):=by
 unfold Ej at h
 refine Fn.ofC (rs:=[.cell 2 32]) (nt:=17) Tryz.func123 rfl rfl rfl (by simp) rfl ?_;refine .sr ?_;refine vk (vbx) ?_;refine vk (van (Ai AG) AH) ?_;refine rk [1,2] ?_;refine .sr ?_;refine vk (Aj Af Ad) ?_
 obtain ⟨x1,g1,h⟩:=bnd h
 refine vk (Ae (Gr g1) Tryz.call129) ?_;refine vk (van (Ai AG) AH) ?_
 refine stn ?_ Ad (by decide)
 refine RL.gh2 (Gh.nbb (t:=3) rfl) ?_;refine rk [2,3] ?_;refine .seq ?_;refine AW.mr (σ:=Unit) (fun _=>True) (fun _=>[(2,.nb [.b false,.sl (L []),.sl (L [])]),(3,.bp 0 0)]) (fun _=>[HO.box [.d (.b ((!x1.1)&&(decide (0<((List.length x1.2.1:Nat):Int))))),.d (.sl (L x1.2.1)),.d (.sl (L x1.2.2))]]) ?_ ?_
 ·skip
  refine .region ?_;refine vk (Fo AT) ?_;refine vk (Qr (cs:=[.d (.b x1.1),.d (.sl (L x1.2.1)),.d (.sl (L x1.2.2))]) (c:=.b x1.1) rfl rfl AD) ?_;refine vk (vnt) ?_
  by_cases hc:x1.1=true
  ·have hb0:(!x1.1)=false:=(ntf hc)
   refine vk (VOK.lit (Aa) hb0) ?_;refine gf ?_;refine gf ?_;refine gf ?_;refine gf ?_;refine vk (Ah) ?_;refine vk (Fo AT) ?_
   refine stb (cs:=[.d (.b x1.1),.d (.sl (L x1.2.1)),.d (.sl (L x1.2.2))]) (c:=.d (.b x1.1)) rfl rfl ?_ Qe
   refine RL.gk [2,3] ?_;refine .nil ?_
   exact jr () trivial (by simp only [hb0];rfl) (by simp only [hb0];rfl)
  have hb0:(!x1.1)=true:=(ntt (bf hc))
  refine vk (VOK.lit (Aa) hb0) ?_;refine vk (Fo AA) ?_;refine vk (Qr (cs:=[.d (.b x1.1),.d (.sl (L x1.2.1)),.d (.sl (L x1.2.2))]) (c:=.sl (L x1.2.1)) rfl rfl AQ) ?_;refine vk (A7 (Ab _) (Ax _) B0) ?_;refine vk (vbi) ?_;refine vk (Ah) ?_;refine vk (Fo AT) ?_
  refine stb (cs:=[.d (.b x1.1),.d (.sl (L x1.2.1)),.d (.sl (L x1.2.2))]) (c:=.d (.b x1.1)) rfl rfl ?_ Qe
  refine RL.gk [2,3] ?_;refine .nil ?_
  exact jr () trivial (by simp only [hb0];rfl) (by simp only [hb0];rfl)
 rintro _ _
 refine .sr ?_;refine vk (JC (cs:=[.d (.b ((!x1.1)&&(decide (0<((List.length x1.2.1:Nat):Int))))),.d (.sl (L x1.2.1)),.d (.sl (L x1.2.2))]) (ds:=[.b ((!x1.1)&&(decide (0<((List.length x1.2.1:Nat):Int)))),.sl (L x1.2.1),.sl (L x1.2.2)]) rfl Af Ad) ?_
 refine stn ?_ Ad (by decide)
 refine rk [2] ?_;refine .ret ?_
 cases h
 exact ⟨_,⟨.inr rfl,Af,Ad,p3⟩,rfl⟩
def H6 (a0:RT) (a1:RT) : Option (RT×Int):=((AJ a0).bind fun x1=>(Option.bind ((if x1=true then ((AJ a1).bind fun x3=>(some (!x3))) else (some true)) : Option (Bool)) fun (z1:Bool)=>(if z1=true then (some ((false,[],[]),22)) else ((Ej a1).bind fun x4=>((FF a0 x4).bind fun x5=>(some (x5.1,x5.2)))))))
theorem QG {a0:RT} {a1:RT} {r:RT×Int} (h:H6 a0 a1=some r) :
  Fn Tryz.prog 63 [.ag [.b a0.1,.sl (L a0.2.1),.sl (L a0.2.2)],.ag [.b a1.1,.sl (L a1.2.1),.sl (L a1.2.2)]] (.tup [.d (.ag [.b r.1.1,.sl (L r.1.2.1),.sl (L r.1.2.2)]),.d (.i .i64 r.2)]):=by
 unfold H6 at h
 refine Fn.ofC (rs:=[.cell 4 32,.tmp 5]) (nt:=21) Tryz.func63 rfl rfl rfl (by simp) rfl ?_;refine .sr ?_;refine vk (vbx) ?_;refine vk (vbx) ?_;refine vk (van (Ai AG) AH) ?_;refine ar [2,3,4,5] ?_;refine .seq ?_;refine .seq ?_
 obtain ⟨x1,g1,h⟩:=bnd h
 obtain ⟨z1,hz,h⟩:=bnd h
 refine AW.mr (σ:=Unit) (fun _=>True) (fun _=>[(2,.d (.ptr [.b a0.1,.sl (L a0.2.1),.sl (L a0.2.2)])),(3,.d (.ptr [.b a1.1,.sl (L a1.2.1),.sl (L a1.2.2)])),(4,.nb [.b false,.sl (L []),.sl (L [])]),(5,.d (.i .i64 0)),(13,.d (.b z1))]) (fun _=>[]) ?_ ?_
 ·skip
  refine .region ?_;refine vk (Aj Af Ad) ?_;refine vk (Ae (AC g1) Tryz.call19) ?_;refine vk (vnt) ?_
  rcases brc hz with ⟨hc,hz⟩|⟨hc,hz⟩
  ·have hb0:(!x1)=false:=(ntf hc)
   refine vk (VOK.lit (Aa) hb0) ?_;refine vk (Aj Af Ad) ?_
   obtain ⟨x3,g3,hz⟩:=bnd hz
   refine vk (Ae (AC g3) Tryz.call19) ?_;refine vk (vnt) ?_;refine vk (Ah) ?_;refine RL.gk [2,3,4,5,13] ?_;refine .nil ?_
   cases hz
   exact jr () trivial
  have hb0:(!x1)=true:=(ntt (bf hc))
  refine vk (VOK.lit (Aa) hb0) ?_;refine gf ?_;refine gf ?_;refine gf ?_;refine vk (Ah) ?_;refine RL.gk [2,3,4,5,13] ?_;refine .nil ?_
  cases hz
  exact jr () trivial
 rintro _ _
 rcases brc h with ⟨hc,h⟩|⟨hc,h⟩
 ·refine cnt hc ?_
  refine .sr ?_;refine vk (vbd Bq AG AH) ?_
  refine stn ?_ Ad (by decide)
  refine ar [2,3,4,5] ?_;refine .ret ?_
  cases h
  exact ⟨_,_,⟨.inr rfl,Af,Ad,p3⟩,rfl,rfl⟩
 refine cnf (bf hc) ?_;refine .skip ?_
 show AW _ _ _ _ _ _
 refine .seq ?_;refine .drawn 6 A4 (by kernel_rfl) ?_;refine dv (Aj Af Ad) ?_;refine dv (Aj Af Ad) ?_
 obtain ⟨x4,g4,h⟩:=bnd h
 refine dv (Ae (Fm g4) Tryz.call123) ?_
 obtain ⟨x5,g5,h⟩:=bnd h
 refine dv (VOK.tupd (vs:=[.ag [.b x5.1.1,.sl (L x5.1.2.1),.sl (L x5.1.2.2)],.i .i64 x5.2]) (Ae (Ix g5) Tryz.call62)) ?_;refine dv (vex) ?_;refine dv (vex) ?_;refine dz ?_
 refine stn ?_ Ad (by decide)
 refine ar [4,5] ?_;refine .ret ?_
 cases h
 exact ⟨_,_,⟨.inr rfl,Af,Ad,p3⟩,rfl,rfl⟩
def Fz (a0:RT) (a1:RT) : Option (RT×Int):=((AJ a0).bind fun x1=>(Option.bind ((if x1=true then ((AJ a1).bind fun x3=>(some (!x3))) else (some true)) : Option (Bool)) fun (z1:Bool)=>(if z1=true then (some ((false,[],[]),22)) else (if ((decide (((List.length a1.2.1:Nat) : Int)=0))&&(decide (((List.length a0.2.1:Nat) : Int)=0)))=true then ((Ci 1).bind fun x4=>(some (x4,0))) else (if ((List.length a1.2.1:Nat) : Int)=0 then (some ((false,[],[]),3)) else ((BJ a0.2.1 a1.2.2).bind fun x5=>((BJ a0.2.2 a1.2.1).bind fun x6=>((Cn (a0.1 != a1.1) x5 x6).bind fun x7=>(some (x7.1,x7.2))))))))))
theorem IR {a0:RT} {a1:RT} {r:RT×Int} (h:Fz a0 a1=some r) :
  Fn Tryz.prog 51 [.ag [.b a0.1,.sl (L a0.2.1),.sl (L a0.2.2)],.ag [.b a1.1,.sl (L a1.2.1),.sl (L a1.2.2)]] (.tup [.d (.ag [.b r.1.1,.sl (L r.1.2.1),.sl (L r.1.2.2)]),.d (.i .i64 r.2)]):=by
 unfold Fz at h
 refine Fn.ofC (rs:=[.cell 4 32,.tmp 5]) (nt:=52) Tryz.func51 rfl rfl rfl (by simp) rfl ?_;refine .sr ?_;refine vk (vbx) ?_;refine vk (vbx) ?_;refine vk (van (Ai AG) AH) ?_;refine ar [2,3,4,5] ?_;refine .seq ?_;refine .block ?_;refine .seq ?_
 obtain ⟨x1,g1,h⟩:=bnd h
 obtain ⟨z1,hz,h⟩:=bnd h
 refine AW.mr (σ:=Unit) (fun _=>True) (fun _=>[(2,.d (.ptr [.b a0.1,.sl (L a0.2.1),.sl (L a0.2.2)])),(3,.d (.ptr [.b a1.1,.sl (L a1.2.1),.sl (L a1.2.2)])),(4,.nb [.b false,.sl (L []),.sl (L [])]),(5,.d (.i .i64 0)),(6,.d (.b z1))]) (fun _=>[]) ?_ ?_
 ·skip
  refine .region ?_;refine vk (Aj Af Ad) ?_;refine vk (Ae (AC g1) Tryz.call19) ?_;refine vk (vnt) ?_
  rcases brc hz with ⟨hc,hz⟩|⟨hc,hz⟩
  ·have hb0:(!x1)=false:=(ntf hc)
   refine vk (VOK.lit (Aa) hb0) ?_;refine vk (Aj Af Ad) ?_
   obtain ⟨x3,g3,hz⟩:=bnd hz
   refine vk (Ae (AC g3) Tryz.call19) ?_;refine vk (vnt) ?_;refine vk (Ah) ?_;refine asd ?_;refine RL.gk [2,3,4,5,6] ?_;refine .nil ?_
   cases hz
   exact jr () trivial
  have hb0:(!x1)=true:=(ntt (bf hc))
  refine vk (VOK.lit (Aa) hb0) ?_;refine gf ?_;refine gf ?_;refine gf ?_;refine vk (Ah) ?_;refine asd ?_;refine RL.gk [2,3,4,5,6] ?_;refine .nil ?_
  cases hz
  exact jr () trivial
 rintro _ _
 rcases brc h with ⟨hc,h⟩|⟨hc,h⟩
 ·refine cnt hc ?_
  refine .sr ?_;refine vk (vbd Bq AG AH) ?_
  refine stn ?_ Ad (by decide)
  refine ar [2,3,4,5] ?_;refine .ret ?_
  cases h
  exact ⟨_,_,⟨.inr rfl,Af,Ad,p3⟩,rfl,rfl⟩
 refine cnf (bf hc) ?_;refine .seq ?_;refine AW.mr (σ:=Unit) (fun _=>True) (fun _=>[(2,.d (.ptr [.b a0.1,.sl (L a0.2.1),.sl (L a0.2.2)])),(3,.d (.ptr [.b a1.1,.sl (L a1.2.1),.sl (L a1.2.2)])),(4,.nb [.b false,.sl (L []),.sl (L [])]),(5,.d (.i .i64 0)),(16,.d (.b ((decide (((List.length a1.2.1:Nat):Int)=0))&&(decide (((List.length a0.2.1:Nat):Int)=0)))))]) (fun _=>[]) ?_ ?_
 ·skip
  refine .region ?_;refine vk (vfa AA) ?_;refine vk (Ak AQ) ?_;refine vk (A7 (Ab _) (Ax _) B0) ?_;refine vk (vbi) ?_
  by_cases hc:((List.length a1.2.1:Nat):Int)=0
  ·have hb0:(decide (((List.length a1.2.1:Nat):Int)=0))=true:=(dT hc)
   refine vk (VOK.lit (Aa) hb0) ?_;refine vk (vfa AA) ?_;refine vk (Ak AQ) ?_;refine vk (A7 (Ab _) (Ax _) B0) ?_;refine vk (vbi) ?_;refine vk (Ah) ?_;refine asd ?_;refine RL.gk [2,3,4,5,16] ?_;refine .nil ?_
   exact jr () trivial (by simp only [hb0];rfl)
  have hb0:(decide (((List.length a1.2.1:Nat):Int)=0))=false:=(dF hc)
  refine vk (VOK.lit (Aa) hb0) ?_;refine gf ?_;refine gf ?_;refine gf ?_;refine gf ?_;refine vk (Ah) ?_;refine asd ?_;refine RL.gk [2,3,4,5,16] ?_;refine .nil ?_
  exact jr () trivial (by simp only [hb0];rfl)
 rintro _ _
 rcases brc h with ⟨hc,h⟩|⟨hc,h⟩
 ·refine cnt hc ?_
  refine .sr ?_
  obtain ⟨x4,g4,h⟩:=bnd h
  refine vk (Ae (CH g4) Tryz.call49) ?_
  refine stn ?_ Ad (by decide)
  refine ar [2,3,4,5] ?_;refine .ret ?_
  cases h
  exact ⟨_,_,⟨.inr rfl,Af,Ad,p3⟩,rfl,rfl⟩
 refine cnf (bf hc) ?_;refine .sr ?_;refine vk (vfa AA) ?_;refine vk (Ak AQ) ?_;refine vk (A7 (Ab _) (Ax _) B0) ?_;refine vk (vbi) ?_;refine ar [2,3,4,5,28] ?_
 rcases brc h with ⟨hc,h⟩|⟨hc,h⟩
 ·refine cnt (dT hc) ?_
  refine .sr ?_;refine vk (vbd Bq AG AH) ?_
  refine stn ?_ Ad (by decide)
  refine ar [2,3,4,5] ?_;refine .ret ?_
  cases h
  exact ⟨_,_,⟨.inr rfl,Af,Ad,p3⟩,rfl,rfl⟩
 refine cnf (dF hc) ?_;refine .skip ?_
 show AW _ _ _ _ _ _
 refine .seq ?_;refine .drawn 18 A4 (by kernel_rfl) ?_;refine dv (vfa AT) ?_;refine dv (Ak AD) ?_;refine dv (vfa AT) ?_;refine dv (Ak AD) ?_;refine dv (U9 (.inr rfl) bo) ?_;refine dv (vfa AA) ?_;refine dv (Ak AQ) ?_;refine dv (vfa Bg) ?_;refine dv (Ak AQ) ?_
 obtain ⟨x5,g5,h⟩:=bnd h
 refine dv ((Ae (Bn g5) Tryz.call126).deep) ?_;refine dv (vfa Bg) ?_;refine dv (Ak AQ) ?_;refine dv (vfa AA) ?_;refine dv (Ak AQ) ?_
 obtain ⟨x6,g6,h⟩:=bnd h
 refine dv ((Ae (Bn g6) Tryz.call126).deep) ?_
 obtain ⟨x7,g7,h⟩:=bnd h
 refine dv (VOK.tupd (vs:=[.ag [.b x7.1.1,.sl (L x7.1.2.1),.sl (L x7.1.2.2)],.i .i64 x7.2]) (Ae (Dg g7) Tryz.call125)) ?_;refine dv (vex) ?_;refine dv (vex) ?_;refine dz ?_
 refine stn ?_ Ad (by decide)
 refine ar [4,5] ?_;refine .ret ?_
 cases h
 exact ⟨_,_,⟨.inr rfl,Af,Ad,p3⟩,rfl,rfl⟩
def Iq (a0:RT) : Option (RT×Int):=((AJ a0).bind fun x1=>(if x1=true then ((Ej a0).bind fun x2=>(some (x2,0))) else (some ((false,[],[]),22))))
theorem PU {a0:RT} {r:RT×Int} (h:Iq a0=some r) :
  Fn Tryz.prog 48 [.ag [.b a0.1,.sl (L a0.2.1),.sl (L a0.2.2)]] (.tup [.d (.ag [.b r.1.1,.sl (L r.1.2.1),.sl (L r.1.2.2)]),.d (.i .i64 r.2)]):=by
 unfold Iq at h
 refine Fn.ofC (rs:=[.cell 2 32,.tmp 3]) (nt:=10) Tryz.func48 rfl rfl rfl (by simp) rfl ?_;refine .sr ?_;refine vk (vbx) ?_;refine vk (van (Ai AG) AH) ?_;refine ar [1,2,3] ?_;refine .seq ?_;refine .sr ?_;refine vk (Aj Af Ad) ?_
 obtain ⟨x1,g1,h⟩:=bnd h
 refine vk (Ae (AC g1) Tryz.call19) ?_;refine vk (vnt) ?_;refine rk [1,2,3,6] ?_
 rcases brc h with ⟨hc,h⟩|⟨hc,h⟩
 ·refine cnf (ntf hc) ?_
  refine .skip ?_
  show AW _ _ _ _ _ _
  refine .sr ?_;refine vk (Aj Af Ad) ?_
  obtain ⟨x2,g2,h⟩:=bnd h
  refine vk (Ae (Fm g2) Tryz.call123) ?_
  refine stn ?_ Ad (by decide)
  refine ar [2,3] ?_;refine .ret ?_
  cases h
  exact ⟨_,_,⟨.inr rfl,Af,Ad,p3⟩,rfl,rfl⟩
 refine cnt (ntt (bf hc)) ?_;refine .sr ?_;refine vk (vbd Bq AG AH) ?_
 refine stn ?_ Ad (by decide)
 refine ar [1,2,3] ?_;refine .ret ?_
 cases h
 exact ⟨_,_,⟨.inr rfl,Af,Ad,p3⟩,rfl,rfl⟩
def H8 (a0:RT) : Option (RT×Int):=((AJ a0).bind fun x1=>(if x1=true then ((Dm a0).bind fun x2=>(some ((false,x2.2.1,x2.2.2),0))) else (some ((false,[],[]),22))))
theorem Qi {a0:RT} {r:RT×Int} (h:H8 a0=some r) :
  Fn Tryz.prog 54 [.ag [.b a0.1,.sl (L a0.2.1),.sl (L a0.2.2)]] (.tup [.d (.ag [.b r.1.1,.sl (L r.1.2.1),.sl (L r.1.2.2)]),.d (.i .i64 r.2)]):=by
 unfold H8 at h
 refine Fn.ofC (rs:=[.cell 2 32,.tmp 3]) (nt:=13) Tryz.func54 rfl rfl rfl (by simp) rfl ?_;refine .sr ?_;refine vk (vbx) ?_;refine vk (van (Ai AG) AH) ?_;refine ar [1,2,3] ?_;refine .seq ?_;refine .sr ?_;refine vk (Aj Af Ad) ?_
 obtain ⟨x1,g1,h⟩:=bnd h
 refine vk (Ae (AC g1) Tryz.call19) ?_;refine vk (vnt) ?_;refine rk [1,2,3,7] ?_
 rcases brc h with ⟨hc,h⟩|⟨hc,h⟩
 ·refine cnf (ntf hc) ?_
  refine .skip ?_
  show AW _ _ _ _ _ _
  refine .sr ?_;refine vk (Aj Af Ad) ?_
  obtain ⟨x2,g2,h⟩:=bnd h
  refine vk (Ae (Gr g2) Tryz.call129) ?_;refine vk (van (Ai AG) AH) ?_
  refine stn ?_ Ad (by decide)
  refine RL.gh2 (Gh.nbb (t:=4) rfl) ?_;refine rk [2,3,4] ?_;refine .sr ?_;refine vk (Fo AT) ?_
  refine stb (cs:=[.d (.b x2.1),.d (.sl (L x2.2.1)),.d (.sl (L x2.2.2))]) (c:=.d (.b x2.1)) rfl rfl ?_ Qe
  refine rk [2,3,4] ?_;refine .sr ?_;refine vk (JC (cs:=[.d (.b false),.d (.sl (L x2.2.1)),.d (.sl (L x2.2.2))]) (ds:=[.b false,.sl (L x2.2.1),.sl (L x2.2.2)]) rfl Af Ad) ?_
  refine stn ?_ Ad (by decide)
  refine ar [2,3] ?_;refine .ret ?_
  cases h
  exact ⟨_,_,⟨.inr rfl,Af,Ad,p3⟩,rfl,rfl⟩
 refine cnt (ntt (bf hc)) ?_;refine .sr ?_;refine vk (vbd Bq AG AH) ?_
 refine stn ?_ Ad (by decide)
 refine ar [1,2,3] ?_;refine .ret ?_
 cases h
 exact ⟨_,_,⟨.inr rfl,Af,Ad,p3⟩,rfl,rfl⟩
def D2 (a0:RT) : Option (RT×Int):=((AJ a0).bind fun x1=>(if x1=true then ((HZ a0.2.1 a0.2.2).bind fun x2=>(if (a0.1&&(decide (0<((List.length x2.2.1:Nat) : Int))))=true then (BE.bind fun x3=>((Ol x2.1 x3).bind fun x4=>(BE.bind fun x5=>((Cn a0.1 x4 x5).bind fun x6=>(some (x6.1,x6.2)))))) else (BE.bind fun x7=>((Cn a0.1 x2.1 x7).bind fun x8=>(some (x8.1,x8.2)))))) else (some ((false,[],[]),22))))
theorem GV {a0:RT} {r:RT×Int} (h:D2 a0=some r) :
  Fn Tryz.prog 53 [.ag [.b a0.1,.sl (L a0.2.1),.sl (L a0.2.2)]] (.tup [.d (.ag [.b r.1.1,.sl (L r.1.2.1),.sl (L r.1.2.2)]),.d (.i .i64 r.2)]):=by
 unfold D2 at h
 refine Fn.ofC (rs:=[.cell 2 32,.tmp 3]) (nt:=37) Tryz.func53 rfl rfl rfl (by simp) rfl ?_;refine .sr ?_;refine vk (vbx) ?_;refine vk (van (Ai AG) AH) ?_;refine ar [1,2,3] ?_;refine .seq ?_;refine .sr ?_;refine vk (Aj Af Ad) ?_
 obtain ⟨x1,g1,h⟩:=bnd h
 refine vk (Ae (AC g1) Tryz.call19) ?_;refine vk (vnt) ?_;refine rk [1,2,3,9] ?_
 rcases brc h with ⟨hc,h⟩|⟨hc,h⟩
 ·refine cnf (ntf hc) ?_
  refine .skip ?_
  show AW _ _ _ _ _ _
  refine .sr ?_;refine vk (vfa AA) ?_;refine vk (Ak AQ) ?_;refine vk (vfa Bg) ?_;refine vk (Ak AQ) ?_
  obtain ⟨x2,g2,h⟩:=bnd h
  refine vk (VOK.tupd (vs:=[.sl (L x2.1),.sl (L x2.2.1),.b x2.2.2]) (Ae (JD g2) Tryz.call127)) ?_;refine vk (Aa) ?_;refine vk (vex) ?_;refine vk (vex) ?_;refine vk (vex) ?_;refine asd ?_;refine asd ?_;refine ar [1,2,3,4,5] ?_;refine .seq ?_;refine .seq ?_;refine AW.mr (σ:=Unit) (fun _=>True) (fun _=>[(1,.d (.ptr [.b a0.1,.sl (L a0.2.1),.sl (L a0.2.2)])),(2,.nb [.b false,.sl (L []),.sl (L [])]),(3,.d (.i .i64 0)),(4,.d (.sl (L x2.1))),(26,.d (.b (a0.1&&(decide (0<((List.length x2.2.1:Nat):Int))))))]) (fun _=>[]) ?_ ?_
  ·skip
   refine .region ?_;refine vk (vfa AT) ?_;refine vk (Ak AD) ?_
   by_cases hc:a0.1=true
   ·have hb0:a0.1=true:=hc
    refine vk (VOK.lit (Aa) hb0) ?_;refine vk (Aa) ?_;refine vk (A7 (Ab _) (Ax _) B0) ?_;refine vk (vbi) ?_;refine vk (Ah) ?_;refine RL.gk [1,2,3,4,26] ?_;refine .nil ?_
    exact jr () trivial (by simp only [hb0];rfl)
   have hb0:a0.1=false:=(bf hc)
   refine vk (VOK.lit (Aa) hb0) ?_;refine gf ?_;refine gf ?_;refine gf ?_;refine vk (Ah) ?_;refine RL.gk [1,2,3,4,26] ?_;refine .nil ?_
   exact jr () trivial (by simp only [hb0];rfl)
  rintro _ _
  rcases brc h with ⟨hc,h⟩|⟨hc,h⟩
  ·refine cnt hc ?_
   refine .region ?_;refine vk (Aa) ?_
   obtain ⟨x3,g3,h⟩:=bnd h
   refine vk ((Ae (Bk g3) Tryz.call44).deep) ?_
   obtain ⟨x4,g4,h⟩:=bnd h
   refine vk ((Ae (LC g4) Tryz.call128).deep) ?_;refine ar [1,2,3,4] ?_;refine .seq ?_;refine .drawn 7 A4 (by kernel_rfl) ?_;refine dv (vfa AT) ?_;refine dv (Ak AD) ?_;refine dv (Aa) ?_
   obtain ⟨x5,g5,h⟩:=bnd h
   refine dv ((Ae (Bk g5) Tryz.call44).deep) ?_
   obtain ⟨x6,g6,h⟩:=bnd h
   refine dv (VOK.tupd (vs:=[.ag [.b x6.1.1,.sl (L x6.1.2.1),.sl (L x6.1.2.2)],.i .i64 x6.2]) (Ae (Dg g6) Tryz.call125)) ?_;refine dv (vex) ?_;refine dv (vex) ?_;refine dz ?_
   refine stn ?_ Ad (by decide)
   refine ar [2,3] ?_;refine .ret ?_
   cases h
   exact ⟨_,_,⟨.inr rfl,Af,Ad,p3⟩,rfl,rfl⟩
  refine cnf (bf hc) ?_;refine .skip ?_
  show AW _ _ _ _ _ _
  refine .seq ?_;refine .drawn 7 A4 (by kernel_rfl) ?_;refine dv (vfa AT) ?_;refine dv (Ak AD) ?_;refine dv (Aa) ?_
  obtain ⟨x7,g7,h⟩:=bnd h
  refine dv ((Ae (Bk g7) Tryz.call44).deep) ?_
  obtain ⟨x8,g8,h⟩:=bnd h
  refine dv (VOK.tupd (vs:=[.ag [.b x8.1.1,.sl (L x8.1.2.1),.sl (L x8.1.2.2)],.i .i64 x8.2]) (Ae (Dg g8) Tryz.call125)) ?_;refine dv (vex) ?_;refine dv (vex) ?_;refine dz ?_
  refine stn ?_ Ad (by decide)
  refine ar [2,3] ?_;refine .ret ?_
  cases h
  exact ⟨_,_,⟨.inr rfl,Af,Ad,p3⟩,rfl,rfl⟩
 refine cnt (ntt (bf hc)) ?_;refine .sr ?_;refine vk (vbd Bq AG AH) ?_
 refine stn ?_ Ad (by decide)
 refine ar [1,2,3] ?_;refine .ret ?_
 cases h
 exact ⟨_,_,⟨.inr rfl,Af,Ad,p3⟩,rfl,rfl⟩
def GX (a0:RT) : Option (RT×Int):=((AJ a0).bind fun x1=>(if x1=true then ((Ej a0).bind fun x2=>((D2 x2).bind fun x3=>(if x3.2=0 then ((Ej x3.1).bind fun x4=>(some (x4,0))) else (some ((false,[],[]),x3.2))))) else (some ((false,[],[]),22))))
theorem OH {a0:RT} {r:RT×Int} (h:GX a0=some r) :
  Fn Tryz.prog 52 [.ag [.b a0.1,.sl (L a0.2.1),.sl (L a0.2.2)]] (.tup [.d (.ag [.b r.1.1,.sl (L r.1.2.1),.sl (L r.1.2.2)]),.d (.i .i64 r.2)]):=by
 unfold GX at h
 refine Fn.ofC (rs:=[.cell 2 32,.tmp 3]) (nt:=22) Tryz.func52 rfl rfl rfl (by simp) rfl ?_;refine .sr ?_;refine vk (vbx) ?_;refine vk (van (Ai AG) AH) ?_;refine ar [1,2,3] ?_;refine .seq ?_;refine .sr ?_;refine vk (Aj Af Ad) ?_
 obtain ⟨x1,g1,h⟩:=bnd h
 refine vk (Ae (AC g1) Tryz.call19) ?_;refine vk (vnt) ?_;refine rk [1,2,3,8] ?_
 rcases brc h with ⟨hc,h⟩|⟨hc,h⟩
 ·refine cnf (ntf hc) ?_
  refine .skip ?_
  show AW _ _ _ _ _ _
  refine .sr ?_;refine vk (Aj Af Ad) ?_
  obtain ⟨x2,g2,h⟩:=bnd h
  refine vk (Ae (Fm g2) Tryz.call123) ?_
  obtain ⟨x3,g3,h⟩:=bnd h
  refine vk (VOK.tupd (vs:=[.ag [.b x3.1.1,.sl (L x3.1.2.1),.sl (L x3.1.2.2)],.i .i64 x3.2]) (Ae (GV g3) Tryz.call53)) ?_;refine vk (Aa) ?_;refine vk (vex) ?_;refine vk (vex) ?_;refine vk (van (Ai AG) AH) ?_
  refine stn ?_ Ad (by decide)
  refine ar [2,3,4,5] ?_;refine .seq ?_;refine .sr ?_;refine vk (Aa) ?_;refine vk (vbi) ?_;refine rk [2,3,4,5,17] ?_
  rcases brc h with ⟨hc,h⟩|⟨hc,h⟩
  ·refine cnf (ntf (dT hc)) ?_
   refine .skip ?_
   show AW _ _ _ _ _ _
   refine .sr ?_;refine vk (Eh Af Ad) ?_
   obtain ⟨x4,g4,h⟩:=bnd h
   refine vk (Ae (Fm g4) Tryz.call123) ?_
   refine stn ?_ Ad (by decide)
   refine ar [2,3] ?_;refine .ret ?_
   cases h
   exact ⟨_,_,⟨.inr rfl,Af,Ad,p3⟩,rfl,rfl⟩
  refine cnt (ntt (dF hc)) ?_;refine .sr ?_;refine vk (vbd Bq AG AH) ?_;refine vk (Aa) ?_
  refine stn ?_ Ad (by decide)
  refine ar [2,3,4] ?_;refine .ret ?_
  cases h
  exact ⟨_,_,⟨.inr rfl,Af,Ad,p3⟩,rfl,rfl⟩
 refine cnt (ntt (bf hc)) ?_;refine .sr ?_;refine vk (vbd Bq AG AH) ?_
 refine stn ?_ Ad (by decide)
 refine ar [1,2,3] ?_;refine .ret ?_
 cases h
 exact ⟨_,_,⟨.inr rfl,Af,Ad,p3⟩,rfl,rfl⟩
def FG (a0:RT) : Option (Int):=((AJ a0).bind fun x1=>(if ((!x1)||(decide (((List.length a0.2.1:Nat) : Int)=0)))=true then (some (0)) else (if a0.1=true then (some ((-1))) else (some (1)))))
theorem OS {a0:RT} {r:Int} (h:FG a0=some r) :
  Fn Tryz.prog 50 [.ag [.b a0.1,.sl (L a0.2.1),.sl (L a0.2.2)]] (.d (.i .i64 r)):=by
 unfold FG at h
 refine Fn.o1 2 16 Tryz.func50 ?_;refine .sr ?_;refine vk (vbx) ?_;refine ar [1,2] ?_;refine .seq ?_;refine .block ?_;refine .seq ?_
 obtain ⟨x1,g1,h⟩:=bnd h
 refine AW.mr (σ:=Unit) (fun _=>True) (fun _=>[(1,.d (.ptr [.b a0.1,.sl (L a0.2.1),.sl (L a0.2.2)])),(2,.d (.i .i64 0)),(3,.d (.b ((!x1)||(decide (((List.length a0.2.1:Nat):Int)=0)))))]) (fun _=>[]) ?_ ?_
 ·skip
  refine .region ?_;refine vk (Aj Af Ad) ?_;refine vk (Ae (AC g1) Tryz.call19) ?_;refine vk (vnt) ?_
  by_cases hc:x1=true
  ·have hb0:(!x1)=false:=(ntf hc)
   refine vk (VOK.lit (Aa) hb0) ?_;refine vk (vfa AA) ?_;refine vk (Ak AQ) ?_;refine vk (A7 (Ab _) (Ax _) B0) ?_;refine vk (vbi) ?_;refine vk (Ah) ?_;refine asd ?_;refine RL.gk [1,2,3] ?_;refine .nil ?_
   exact jr () trivial (by simp only [hb0];rfl)
  have hb0:(!x1)=true:=(ntt (bf hc))
  refine vk (VOK.lit (Aa) hb0) ?_;refine gf ?_;refine gf ?_;refine gf ?_;refine gf ?_;refine vk (Ah) ?_;refine asd ?_;refine RL.gk [1,2,3] ?_;refine .nil ?_
  exact jr () trivial (by simp only [hb0];rfl)
 rintro _ _
 rcases brc h with ⟨hc,h⟩|⟨hc,h⟩
 ·refine cnt hc ?_
  refine .sr ?_;refine ar [2] ?_;refine .ret ?_
  cases h
  exact ⟨rfl,rfl⟩
 refine cnf (bf hc) ?_;refine .sr ?_;refine vk (vfa AT) ?_;refine vk (Ak AD) ?_;refine ar [2,13] ?_
 rcases brc h with ⟨hc,h⟩|⟨hc,h⟩
 ·refine cnt hc ?_
  refine .sr ?_;refine ar [2] ?_;refine .ret ?_
  cases h
  exact ⟨rfl,rfl⟩
 refine cnf (bf hc) ?_;refine .skip ?_
 show AW _ _ _ _ _ _
 refine .sr ?_;refine ar [2] ?_;refine .ret ?_
 cases h
 exact ⟨rfl,rfl⟩
def D3 (a0:RT) : Option (Bool):=((AJ a0).bind fun x1=>(Option.bind ((if x1=true then (BE.bind fun x3=>((Cw a0.2.2 x3).bind fun x4=>(some (decide (x4=0))))) else (some false)) : Option (Bool)) fun (z1:Bool)=>(some (z1))))
theorem Jo {a0:RT} {r:Bool} (h:D3 a0=some r) :
  Fn Tryz.prog 154 [.ag [.b a0.1,.sl (L a0.2.1),.sl (L a0.2.2)]] (.d (.b r)):=by
 unfold D3 at h
 refine Fn.o1 2 12 Tryz.func154 ?_;refine .sr ?_;refine vk (vbx) ?_;refine ar [1,2] ?_;refine .seq ?_
 obtain ⟨x1,g1,h⟩:=bnd h
 obtain ⟨z1,hz,h⟩:=bnd h
 refine AW.mr (σ:=Unit) (fun _=>True) (fun _=>[(2,.d (.b z1))]) (fun _=>[]) ?_ ?_
 ·skip
  refine .drawn 9 A4 (by kernel_rfl) ?_;refine dv (Aj Af Ad) ?_;refine dv (Ae (AC g1) Tryz.call19) ?_
  rcases brc hz with ⟨hc,hz⟩|⟨hc,hz⟩
  ·have hb0:x1=true:=hc
   refine dv (VOK.lit (Aa) hb0) ?_;refine dv (vfa Bg) ?_;refine dv (Ak AQ) ?_
   obtain ⟨x3,g3,hz⟩:=bnd hz
   refine dv ((Ae (Bk g3) Tryz.call44).deep) ?_
   obtain ⟨x4,g4,hz⟩:=bnd hz
   refine dv (Ae (CO g4) Tryz.call42) ?_;refine dv (vbi) ?_;refine dv (Ah) ?_;refine dz ?_;refine asd ?_;refine RL.gk [2] ?_;refine .nil ?_
   cases hz
   exact jr () trivial
  have hb0:x1=false:=(bf hc)
  refine dv (VOK.lit (Aa) hb0) ?_;refine dgf ?_;refine dgf ?_;refine dgf ?_;refine dgf ?_;refine dgf ?_;refine dv (Ah) ?_;refine dz ?_;refine asd ?_;refine RL.gk [2] ?_;refine .nil ?_
  cases hz
  exact jr () trivial
 rintro _ _
 refine .ret ?_
 cases h
 exact ⟨rfl,rfl⟩
def Cu (a0:RT) (a1:RT) : Option (Int):=((AJ a0).bind fun x1=>(Option.bind ((if x1=true then ((AJ a1).bind fun x3=>(some (!x3))) else (some true)) : Option (Bool)) fun (z1:Bool)=>(if z1=true then (some (0)) else ((BJ a0.2.1 a1.2.2).bind fun x4=>((BJ a1.2.1 a0.2.2).bind fun x5=>((Cq x4 a0.1 x5 (!a1.1)).bind fun x6=>(if ((List.length x6.1:Nat) : Int)=0 then (some (0)) else (if x6.2=true then (some ((-1))) else (some (1))))))))))
theorem Eb {a0:RT} {a1:RT} {r:Int} (h:Cu a0 a1=some r) :
  Fn Tryz.prog 65 [.ag [.b a0.1,.sl (L a0.2.1),.sl (L a0.2.2)],.ag [.b a1.1,.sl (L a1.2.1),.sl (L a1.2.2)]] (.d (.i .i64 r)):=by
 unfold Cu at h
 refine Fn.o1 4 40 Tryz.func65 ?_;refine .sr ?_;refine vk (vbx) ?_;refine vk (vbx) ?_;refine ar [2,3,4] ?_;refine .seq ?_;refine .seq ?_
 obtain ⟨x1,g1,h⟩:=bnd h
 obtain ⟨z1,hz,h⟩:=bnd h
 refine AW.mr (σ:=Unit) (fun _=>True) (fun _=>[(2,.d (.ptr [.b a0.1,.sl (L a0.2.1),.sl (L a0.2.2)])),(3,.d (.ptr [.b a1.1,.sl (L a1.2.1),.sl (L a1.2.2)])),(4,.d (.i .i64 0)),(14,.d (.b z1))]) (fun _=>[]) ?_ ?_
 ·skip
  refine .region ?_;refine vk (Aj Af Ad) ?_;refine vk (Ae (AC g1) Tryz.call19) ?_;refine vk (vnt) ?_
  rcases brc hz with ⟨hc,hz⟩|⟨hc,hz⟩
  ·have hb0:(!x1)=false:=(ntf hc)
   refine vk (VOK.lit (Aa) hb0) ?_;refine vk (Aj Af Ad) ?_
   obtain ⟨x3,g3,hz⟩:=bnd hz
   refine vk (Ae (AC g3) Tryz.call19) ?_;refine vk (vnt) ?_;refine vk (Ah) ?_;refine RL.gk [2,3,4,14] ?_;refine .nil ?_
   cases hz
   exact jr () trivial
  have hb0:(!x1)=true:=(ntt (bf hc))
  refine vk (VOK.lit (Aa) hb0) ?_;refine gf ?_;refine gf ?_;refine gf ?_;refine vk (Ah) ?_;refine RL.gk [2,3,4,14] ?_;refine .nil ?_
  cases hz
  exact jr () trivial
 rintro _ _
 rcases brc h with ⟨hc,h⟩|⟨hc,h⟩
 ·refine cnt hc ?_
  refine .sr ?_;refine ar [2,3,4] ?_;refine .ret ?_
  cases h
  exact ⟨rfl,rfl⟩
 refine cnf (bf hc) ?_;refine .skip ?_
 show AW _ _ _ _ _ _
 refine .seq ?_
 obtain ⟨x4,g4,h⟩:=bnd h
 obtain ⟨x5,g5,h⟩:=bnd h
 obtain ⟨x6,g6,h⟩:=bnd h
 refine .drawnF 19 [18] [(5,.d (.sl (L x6.1)))] [] A4 (by kernel_rfl) rfl ?_;refine dv (vfa AA) ?_;refine dv (Ak AQ) ?_;refine dv (vfa Bg) ?_;refine dv (Ak AQ) ?_;refine dv ((Ae (Bn g4) Tryz.call126).deep) ?_;refine dv (vfa AT) ?_;refine dv (Ak AD) ?_;refine dv (vfa AA) ?_;refine dv (Ak AQ) ?_;refine dv (vfa Bg) ?_;refine dv (Ak AQ) ?_;refine dv ((Ae (Bn g5) Tryz.call126).deep) ?_;refine dv (vfa AT) ?_;refine dv (Ak AD) ?_;refine dv (vnt) ?_;refine dv (VOK.tupd (vs:=[.sl (L x6.1),.b x6.2]) (Ae (Gi g6) Tryz.call153)) ?_;refine dv (Aa) ?_;refine dv (vex) ?_;refine dv (vex) ?_;refine dz ?_
 refine ⟨?_,?_,?_⟩
 ·intro k hk
  simp only [List.mem_cons,List.not_mem_nil,or_false] at hk
  subst hk
  exact ⟨_,_,_,rfl,rfl,rfl,rfl,rfl,rfl,vex⟩
 ·intro om e hom hge
  cases hom
  exact Kr rfl ((hge 32 (fun k hk v hv=>by
    simp only [List.mem_cons,List.not_mem_nil,or_false] at hk
    subst hk;exact (by decide:¬(some 33=some 32)) (congrArg (Option.map Prod.fst) hv))).trans rfl) rfl ((congrArg Ao (hge 5 (fun k hk v hv=>by
    simp only [List.mem_cons,List.not_mem_nil,or_false] at hk
    subst hk;exact (by decide:¬(some 33=some 5)) (congrArg (Option.map Prod.fst) hv)))).trans rfl) rfl ⟨rfl,rfl⟩
 refine ar [4,5,6] ?_;refine .seq ?_;refine .block ?_;refine .sr ?_;refine vk (Aa) ?_;refine vk (A7 (Ab _) (Ax _) B0) ?_;refine vk (vbi) ?_;refine ar [4,6,34] ?_
 rcases brc h with ⟨hc,h⟩|⟨hc,h⟩
 ·refine cnt (dT hc) ?_
  refine .sr ?_;refine ar [4] ?_;refine .ret ?_
  cases h
  exact ⟨rfl,rfl⟩
 refine cnf (dF hc) ?_;refine .sr ?_;refine vk (Aa) ?_;refine ar [4,38] ?_
 rcases brc h with ⟨hc,h⟩|⟨hc,h⟩
 ·refine cnt hc ?_
  refine .sr ?_;refine ar [4] ?_;refine .ret ?_
  cases h
  exact ⟨rfl,rfl⟩
 refine cnf (bf hc) ?_;refine .skip ?_
 show AW _ _ _ _ _ _
 refine .sr ?_;refine ar [4] ?_;refine .ret ?_
 cases h
 exact ⟨rfl,rfl⟩
def Ds (a0:RT) : Option (RT):=((ap? 35184372088832 [] a0.2.1).bind fun x1=>((ap? 35184372088832 [] a0.2.2).bind fun x2=>(some ((a0.1,x1,x2)))))
theorem Em {a0:RT} {r:RT} (h:Ds a0=some r) :
  Fn Tryz.prog 47 [.ag [.b a0.1,.sl (L a0.2.1),.sl (L a0.2.2)]] (.d (.ag [.b r.1,.sl (L r.2.1),.sl (L r.2.2)])):=by
 unfold Ds at h
 refine Fn.ofC (rs:=[.cell 2 32]) (nt:=20) Tryz.func47 rfl rfl rfl (by simp) rfl ?_;refine .sr ?_;refine vk (vbx) ?_;refine vk (van (Ai AG) AH) ?_;refine rk [1,2] ?_;refine .sr ?_;refine vk (vfa AT) ?_;refine vk (Ak AD) ?_;refine vk (Yq Bq AG (fun w I μ=>Aau w I μ)) ?_;refine vk (van (Ai AG) AH) ?_
 refine Ys ?_ Ad (by decide)
 refine rk [1,2,3] ?_;refine .sr ?_;refine vk (Fo AA) ?_
 refine ldb (cs:=[.d (.b a0.1),.nl,.nl]) (c:=.nl) rfl rfl ?_ AQ
 refine vk (vfa AA) ?_;refine vk (Ak AQ) ?_
 obtain ⟨x1,g1,h⟩:=bnd h
 refine Aag g1 Aad ?_ GN Ab Aak
 refine vk (Fo AA) ?_
 refine Qo (cs:=[.d (.b a0.1),.nl,.nl]) (c:=.nl) rfl rfl ?_ Aal
 refine rk [1,2,3] ?_;refine .sr ?_;refine vk (Fo Bg) ?_
 refine ldb (cs:=[.d (.b a0.1),.own 121 (L x1),.nl]) (c:=.nl) rfl rfl ?_ AQ
 refine vk (vfa Bg) ?_;refine vk (Ak AQ) ?_
 obtain ⟨x2,g2,h⟩:=bnd h
 refine Aag g2 Aad ?_ GN Ab Aak
 refine vk (Fo Bg) ?_
 refine Qo (cs:=[.d (.b a0.1),.own 121 (L x1),.nl]) (c:=.nl) rfl rfl ?_ Aal
 refine rk [2,3] ?_;refine .sr ?_;refine fz (p:=.c 0 1) ?_;refine fz (p:=.c 0 2) ?_;refine vk (JC (cs:=[.d (.b a0.1),.d (.sl (L x1)),.d (.sl (L x2))]) (ds:=[.b a0.1,.sl (L x1),.sl (L x2)]) rfl Af Ad) ?_
 refine stn ?_ Ad (by decide)
 refine rk [2] ?_;refine .ret ?_
 cases h
 exact ⟨_,⟨.inr rfl,Af,Ad,p3⟩,rfl⟩
def Tells (x:Option Bool) (p:Prop) : Prop:=∃ r,x=some r∧(r=true↔p)
theorem Tells.of {x:Option Bool} {p q:Prop} (h:Tells x p) (e:p↔q) : Tells x q:=by
 obtain ⟨r,h1,h2⟩:=h;exact ⟨r,h1,h2.trans e⟩
theorem Tells.yes {x:Option Bool} {p:Prop} (h:Tells x p) (hp:p) : x=some true:=by
 obtain ⟨r,h1,h2⟩:=h;rw [h1,h2.2 hp]
theorem Tells.no {x:Option Bool} {p:Prop} (h:Tells x p) (hp:¬p) : x=some false:=by
 obtain ⟨r,h1,h2⟩:=h
 cases r with
 | true=>exact absurd (h2.1 rfl) hp
 | false=>exact h1
theorem Z8 {α β:Type} (k:α) (b:α→β) : jn k b=b k:=rfl
mutual
def smI : Itm→Prop
 | .mk _ n _ b=>okL 1048576 n.2.1=true∧okL 1048576 n.2.2=true∧smAs b
def smA : Arr→Prop
 | .mk _ i=>smIs i
def smIs : List Itm→Prop
 | []=>True
 | x::xs=>smI x∧smIs xs
def smAs : List Arr→Prop
 | []=>True
 | x::xs=>smA x∧smAs xs
end
section
variable {S:Type} (step:Itm→S→Option (Bool×S))
def QL : List Itm→S→Int→Option (Int×S)
 | [],s,_=>some (-1,s)
 | x::xs,s,i=>(step x s).bind fun r=>if r.1=true then some (i,r.2) else QL xs r.2 (i+1)
end
theorem Zx {z:Int} (h1:-9223372036854775808≤z) (h2:z≤9223372036854775807) : w64 z=z:=by
 simp only [w64,IntKind.wrap,IntKind.bits,IntKind.signed];simp;omega
abbrev dvI (x:Itm) : DV:=.ag [.i .u8 x.kind,.b x.num.1,.sl (L x.num.2.1),.sl (L x.num.2.2),.i .i32 x.char,.sl (Ars x.box)]
abbrev dvA (x:Arr) : DV:=.ag [.sl (Is x.shape),.sl (Its x.items)]
set_option maxRecDepth 10000 in
theorem QK {S:Type} {step:Itm→S→Option (Bool×S)} {st:S→Al→Prop} {f:FuncId} {caps:List AV} (hcall:∀ args w,(callFunc f args).run Tryz.prog w=.ok (.enter f args) w) (hnc:noOwnL caps=true)
  (hstep:∀ (x:Itm) s r H,st s H→step x s=some r→FnR Tryz.prog f (.d (dvI x)::caps) H fun v H'=>v=.d (.b r.1)∧st r.2 H')
  {xs:List Itm} {s:S} {r:Int×S} (hl:xs.length≤9223372036854775806) (h:QL step xs s 0=some r) {H:Al} (hs:st s H) :
  FnR Tryz.prog 227 [.d (.sl (Its xs)),.fn f [] caps] H fun v H'=>v=.d (.i .i64 r.1)∧st r.2 H':=by
 have hfn:noOwn (.fn f [] caps)=true:=by simp [noOwn,noOwnL,hnc]
 refine FnR.of (rs:=[.tmp 4]) 19 Tryz.func227 rfl rfl rfl (by simp) ?_;refine .sr ?_;refine asd ?_;refine rn ?_;refine .seq ?_;refine .sr ?_;refine vk (Aa) ?_;refine vk (A7 (Bi _) (EY _) ET) ?_;refine vk (Aa) ?_;refine rn ?_;refine .block ?_
 refine .loop (.gh (Gh.keep [0,1,7,8] rfl) ?_)
 refine AL.ind (σ:=Nat×S×Al) (m:=fun p=>xs.length-p.1) (e:=fun p=>[(0,.d (.sl (Its xs))),(1,.fn f [] caps),(7,.d (.i .i64 ((List.length xs:Nat):Int))),(8,.d (.i .i64 ((p.1:Nat):Int)))]) (h:=fun p=>p.2.2)
  (I:=fun p=>p.1≤xs.length∧st p.2.1 p.2.2∧QL step (xs.drop p.1) p.2.1 (p.1:Int)=some r) ?_ (0,s,H) ⟨Nat.zero_le _,hs,h⟩
 rintro ⟨i,s,H⟩ ⟨hi,hs,h⟩ ih
 dsimp only at hi hs h ih ⊢
 refine .sr ?_;refine vk (vbi) ?_;refine rn ?_;refine .seq ?_
 by_cases hc:((i:Nat):Int)<((List.length xs:Nat):Int)
 ·refine cnt (dT hc) ?_
  have hlt:i<xs.length:=by omega
  rw [lC hlt,QL] at h
  obtain ⟨z,hz,h⟩:=bnd h
  refine .skip ?_
  show AW _ _ _ _ _ _
  refine .seq ?_;refine .block ?_;refine .sr ?_;refine vk (Aa) ?_;refine asd ?_;refine rn ?_;refine .sr ?_;refine vk (ZU (av:=.fn f [] caps) (hn:=hfn)) ?_;refine vk (Aa) ?_;refine vk (Aa) ?_;refine vk (vix i rfl (Gl (lG hlt)) rfl Fw) ?_;refine vk (Aj Bl AI) ?_
  refine Aaw (avs:=[.d (dvI xs[i])]) (hstep _ _ _ _ hs hz) hcall (fun v H' hp=>?_) (hnc:=hnc)
  obtain ⟨rfl,hs'⟩:=hp
  refine rn ?_
  by_cases hc:z.1=true
  ·refine cnt hc ?_
   rw [if_pos hc] at h
   cases h
   refine .sr ?_;refine vk (Aa) ?_;refine asd ?_;refine rn ?_;refine .ret ?_
   exact ⟨_,⟨rfl,rfl⟩,rfl,hs'⟩
  refine cnf (bf hc) ?_
  rw [if_neg hc] at h
  refine .skip ?_
  show AW _ _ _ _ _ _
  refine .region ?_;refine vk (vbi) ?_;refine vk (Aa) ?_;refine .nil ?_
  have hw:IntKind.wrap .i64 ((i:Int)+1)=((i+1:Nat):Int):=by rw [show IntKind.wrap .i64 ((i:Int)+1)=(i:Int)+1 from Zx (by omega) (by omega)];omega
  rw [hw]
  refine AL.gh (Gh.keep [0,1,7,8] rfl) ?_
  exact ih (i+1,z.2,H') ⟨hlt,hs',by rw [← h];simp⟩ (by dsimp only;omega)
 ·refine cnf (dF hc) ?_
  have:i=xs.length:=by omega
  subst this
  rw [List.drop_length,QL] at h
  cases h
  refine .exit ?_
  show AW _ _ _ _ _ _
  refine .sr ?_;refine asd ?_;refine rn ?_;refine .ret ?_
  exact ⟨_,⟨rfl,rfl⟩,rfl,hs⟩
theorem MX {S:Type} {step:Itm→S→Option (Bool×S)} {st:S→Al→Prop} {f:FuncId} {caps:List AV} (hcall:∀ args w,(callFunc f args).run Tryz.prog w=.ok (.enter f args) w) (hnc:noOwnL caps=true)
  (hstep:∀ (x:Itm) s r H,st s H→step x s=some r→FnR Tryz.prog f (.d (dvI x)::caps) H fun v H'=>v=.d (.b r.1)∧st r.2 H')
  {xs:List Itm} {s:S} {r:Int×S} (hl:xs.length≤9223372036854775806) (h:QL step xs s 0=some r) {H:Al} (hs:st s H) :
  FnR Tryz.prog 179 [.d (.sl (Its xs)),.fn f [] caps] H fun v H'=>v=.d (.b (decide (0≤r.1)))∧st r.2 H':=by
 have hfn:noOwn (.fn f [] caps)=true:=by simp [noOwn,noOwnL,hnc]
 refine FnR.of (rs:=[.tmp 4]) 9 Tryz.func179 rfl rfl rfl (by simp) ?_;refine .sr ?_;refine asd ?_;refine rn ?_;refine .sr ?_;refine vk (Aa) ?_;refine vk (ZU (av:=.fn f [] caps) (hn:=hfn)) ?_
 refine clR (avs:=[.d (.sl (Its xs)),.fn f [] caps]) (QK hcall hnc hstep hl h hs) Tryz.call227 (fun v H' hp=>?_) (ha:=by simp [argsA,lk,get,hfn,Bc,noOwn])
 obtain ⟨rfl,hs'⟩:=hp
 refine vk (vbi) ?_;refine asd ?_;refine rn ?_;refine .ret ?_
 exact ⟨_,⟨rfl,rfl⟩,rfl,hs'⟩
abbrev M3:=Bool×Int×Int
abbrev EB (c d:Int) : HO:=.box [.d (.i .i64 c),.d (.i .i64 d)]
def Upd (H:Al) (id:Nat) (o:HO) (H':Al) : Prop:=H'[id]?=some o∧H.length≤H'.length∧∀ j,j≠id→j<H.length→H'[j]?=H[j]?
theorem Upd.same {H:Al} {id:Nat} {o:HO} (h:H[id]?=some o) : Upd H id o H:=⟨h,Nat.le_refl _,fun _ _ _=>rfl⟩
theorem Upd.trans {H H' H'':Al} {id:Nat} {o o':HO} (h:Upd H id o H') (k:Upd H' id o' H'') : Upd H id o' H'' :=
 ⟨k.1,nT h.2.1 k.2.1,fun j h1 h2=>(k.2.2 j h1 (nL h2 h.2.1)).trans (h.2.2 j h1 h2)⟩
def PE (id:Nat) (r:M3) (H:Al) : AV→Al→Prop:=fun v H'=>v=.d (.b r.1)∧Upd H id (EB r.2.1 r.2.2) H'
theorem PE.refl {id:Nat} {b:Bool} {c d:Int} {H:Al} (h:H[id]?=some (EB c d)) : PE id (b,c,d) H (.d (.b b)) H:=⟨rfl,.same h⟩
def OA (rc:Arr→Int→Int→Int→Option M3) : Prop:=∀ (a:Arr) (deep c d:Int) (r:M3),rc a deep c d=some r→∀ (H:Al) (id:Nat),H[id]?=some (EB c d) →
 FnR Tryz.prog 108 [.bp id 0,.d (dvA a),.d (.i .i64 deep)] H (PE id r H)
def NU (a1:Itm) : Bool:=((!a1.num.1)&&((decide (((List.length a1.num.2.1:Nat) : Int)=0))&&(decide (((List.length a1.num.2.2:Nat) : Int)=0))))
def Uw (rc:Arr→Int→Int→Int→Option M3) (a1:Itm) (a2 c d:Int) : Option M3:=(if a1.kind=1 then ((C9 a1.num).bind fun x1=>(some ((x1&&((decide (a1.char=0))&&(decide (((List.length a1.box:Nat) : Int)=0)))),c,d))) else (if a1.kind=2 then ((IC a1.char).bind fun x2=>(some ((x2&&(NU a1&&(decide (((List.length a1.box:Nat) : Int)=0)))),c,d))) else (if a1.kind=3 then (if ((List.length a1.box:Nat) : Int)=1 then (if NU a1=true then (if a1.char=0 then ((rd? a1.box 0).bind fun x4=>((D4 x4).bind fun x5=>(if x5=true then (some (false,c,d)) else ((rd? a1.box 0).bind fun x6=>((rc x6 a2 c d).bind fun x7=>(some x7)))))) else (some (false,c,d))) else (some (false,c,d))) else (some (false,c,d))) else (some (false,c,d)))))
set_option maxHeartbeats 4000000 in
theorem Jf {rc:Arr→Int→Int→Int→Option M3} (orc:OA rc) {a1:Itm} {a2 c d:Int} {r:M3} (h:Uw rc a1 a2 c d=some r) {H:Al} {id:Nat} (hH:H[id]?=some (EB c d)) :
  FnR Tryz.prog 193 [.bp id 0,.d (dvI a1),.d (.i .i64 a2)] H (PE id r H):=by
 unfold Uw NU at h
 refine FnR.of (rs:=[.tmp 6]) 89 Tryz.func193 rfl rfl rfl (by simp) ?_;refine .sr ?_;refine vk (vbx) ?_;refine asd ?_;refine rn ?_;refine .gh (Gh.keep [0,2,4,6] rfl) ?_;refine .seq ?_;refine AW.mr (σ:=Unit) (fun _=>True) (fun _=>[(0,.bp id 0),(2,.d (.i .i64 a2)),(4,.d (.ptr [.i .u8 a1.kind,.b a1.num.1,.sl (L a1.num.2.1),.sl (L a1.num.2.2),.i .i32 a1.char,.sl (Ars a1.box)])),(6,.d (.b false)),(7,.d (.b ((!a1.num.1)&&((decide (((List.length a1.num.2.1:Nat):Int)=0))&&(decide (((List.length a1.num.2.2:Nat):Int)=0))))))]) (fun _=>H) ?_ ?_
 ·skip
  refine .region ?_;refine vk (vfa C8) ?_;refine vk (vfa AT) ?_;refine vk (Ak AD) ?_;refine vk (vnt) ?_
  by_cases hc:a1.num.1=true
  ·have hb0:(!a1.num.1)=false:=(ntf hc)
   refine vk (VOK.lit (Aa) hb0) ?_;refine gf ?_;refine gf ?_;refine gf ?_;refine gf ?_;refine gf ?_;refine vk (Ah) ?_;refine vk (Aa) ?_;refine gf ?_;refine gf ?_;refine gf ?_;refine gf ?_;refine gf ?_;refine vk (Ah) ?_;refine asd ?_;refine RL.gh (Gh.keep [0,2,4,6,7] rfl) ?_;refine .nil ?_
   exact jr () trivial (by simp only [hb0];rfl)
  have hb0:(!a1.num.1)=true:=(ntt (bf hc))
  refine vk (VOK.lit (Aa) hb0) ?_;refine vk (vfa C8) ?_;refine vk (vfa AA) ?_;refine vk (Ak AQ) ?_;refine vk (A7 (Ab _) (Ax _) B0) ?_;refine vk (vbi) ?_;refine vk (Ah) ?_
  by_cases hc:((List.length a1.num.2.1:Nat):Int)=0
  ·have hb1:(decide (((List.length a1.num.2.1:Nat):Int)=0))=true:=(dT hc)
   refine vk (VOK.lit (Aa) hb1) ?_;refine vk (vfa C8) ?_;refine vk (vfa Bg) ?_;refine vk (Ak AQ) ?_;refine vk (A7 (Ab _) (Ax _) B0) ?_;refine vk (vbi) ?_;refine vk (Ah) ?_;refine asd ?_;refine RL.gh (Gh.keep [0,2,4,6,7] rfl) ?_;refine .nil ?_
   exact jr () trivial (by simp only [hb0,hb1];rfl)
  have hb1:(decide (((List.length a1.num.2.1:Nat):Int)=0))=false:=(dF hc)
  refine vk (VOK.lit (Aa) hb1) ?_;refine gf ?_;refine gf ?_;refine gf ?_;refine gf ?_;refine gf ?_;refine vk (Ah) ?_;refine asd ?_;refine RL.gh (Gh.keep [0,2,4,6,7] rfl) ?_;refine .nil ?_
  exact jr () trivial (by simp only [hb0,hb1];rfl)
 rintro _ _
 refine .seq ?_;refine .sr ?_;refine vk (vfa C6) ?_;refine vk (Ak BN) ?_;refine rn ?_;refine .gh (Gh.keep [0,2,4,6,7,27] rfl) ?_;refine .block ?_;refine .sr ?_;refine vk (vbi) ?_;refine asd ?_;refine rn ?_;refine .gh (Gh.keep [0,2,4,6,7,27,28] rfl) ?_
 rcases brc h with ⟨hc,h⟩|⟨hc,h⟩
 ·refine cnt (dT hc) ?_
  refine .seq ?_
  obtain ⟨x1,hx1,h⟩:=bnd h
  refine AW.mr (σ:=Unit) (fun _=>True) (fun _=>[(6,.d (.b (x1&&((decide (a1.char=0))&&(decide (((List.length a1.box:Nat):Int)=0))))))]) (fun _=>H) ?_ ?_
  ·skip
   refine .region ?_;refine vk (vfa C8) ?_;refine vk (Aj Af Ad) ?_;refine vk (Ae (Ch hx1) Tryz.call45) ?_
   by_cases hc:x1=true
   ·have hb0:x1=true:=hc
    refine vk (VOK.lit (Aa) hb0) ?_;refine vk (vfa Ga) ?_;refine vk (Ak DQ) ?_;refine vk (vbi) ?_;refine vk (Ah) ?_
    by_cases hc:a1.char=0
    ·have hb1:(decide (a1.char=0))=true:=(dT hc)
     refine vk (VOK.lit (Aa) hb1) ?_;refine vk (vfa C7) ?_;refine vk (Ak Gu) ?_;refine vk (A7 (Dv _) (Jr _) JI) ?_;refine vk (vbi) ?_;refine vk (Ah) ?_;refine asd ?_;refine RL.gh (Gh.keep [6] rfl) ?_;refine .nil ?_
     exact jr () trivial (by simp only [hb0,hb1];rfl)
    have hb1:(decide (a1.char=0))=false:=(dF hc)
    refine vk (VOK.lit (Aa) hb1) ?_;refine gf ?_;refine gf ?_;refine gf ?_;refine gf ?_;refine vk (Ah) ?_;refine asd ?_;refine RL.gh (Gh.keep [6] rfl) ?_;refine .nil ?_
    exact jr () trivial (by simp only [hb0,hb1];rfl)
   have hb0:x1=false:=(bf hc)
   refine vk (VOK.lit (Aa) hb0) ?_;refine gf ?_;refine gf ?_;refine gf ?_;refine vk (Ah) ?_;refine vk (Aa) ?_;refine gf ?_;refine gf ?_;refine gf ?_;refine gf ?_;refine vk (Ah) ?_;refine asd ?_;refine RL.gh (Gh.keep [6] rfl) ?_;refine .nil ?_
   exact jr () trivial (by simp only [hb0];rfl)
  rintro _ _
  refine .ret ?_
  cases h
  exact ⟨_,⟨rfl,rfl⟩,.refl hH⟩
 refine cnf (dF hc) ?_;refine .sr ?_;refine vk (vbi) ?_;refine asd ?_;refine rn ?_;refine .gh (Gh.keep [0,2,4,6,7,27,44] rfl) ?_
 rcases brc h with ⟨hc,h⟩|⟨hc,h⟩
 ·refine cnt (dT hc) ?_
  refine .seq ?_
  obtain ⟨x2,hx2,h⟩:=bnd h
  refine AW.mr (σ:=Unit) (fun _=>True) (fun _=>[(6,.d (.b (x2&&(((!a1.num.1)&&((decide (((List.length a1.num.2.1:Nat):Int)=0))&&(decide (((List.length a1.num.2.2:Nat):Int)=0))))&&(decide (((List.length a1.box:Nat):Int)=0))))))]) (fun _=>H) ?_ ?_
  ·skip
   refine .region ?_;refine vk (vfa Ga) ?_;refine vk (Ak DQ) ?_;refine vk (Ae (M1 hx2) Tryz.call231) ?_
   by_cases hc:x2=true
   ·have hb0:x2=true:=hc
    refine vk (VOK.lit (Aa) hb0) ?_;refine vk (Aa) ?_;refine vk (Ah) ?_
    by_cases hc:((!a1.num.1)&&((decide (((List.length a1.num.2.1:Nat):Int)=0))&&(decide (((List.length a1.num.2.2:Nat):Int)=0))))=true
    ·have hb1:((!a1.num.1)&&((decide (((List.length a1.num.2.1:Nat):Int)=0))&&(decide (((List.length a1.num.2.2:Nat):Int)=0))))=true:=hc
     refine vk (VOK.lit (Aa) hb1) ?_;refine vk (vfa C7) ?_;refine vk (Ak Gu) ?_;refine vk (A7 (Dv _) (Jr _) JI) ?_;refine vk (vbi) ?_;refine vk (Ah) ?_;refine asd ?_;refine RL.gh (Gh.keep [6] rfl) ?_;refine .nil ?_
     exact jr () trivial (by simp only [hb0,hb1];rfl)
    have hb1:((!a1.num.1)&&((decide (((List.length a1.num.2.1:Nat):Int)=0))&&(decide (((List.length a1.num.2.2:Nat):Int)=0))))=false:=(bf hc)
    refine vk (VOK.lit (Aa) hb1) ?_;refine gf ?_;refine gf ?_;refine gf ?_;refine gf ?_;refine vk (Ah) ?_;refine asd ?_;refine RL.gh (Gh.keep [6] rfl) ?_;refine .nil ?_
    exact jr () trivial (by simp only [hb0,hb1];rfl)
   have hb0:x2=false:=(bf hc)
   refine vk (VOK.lit (Aa) hb0) ?_;refine gf ?_;refine vk (Ah) ?_;refine vk (Aa) ?_;refine gf ?_;refine gf ?_;refine gf ?_;refine gf ?_;refine vk (Ah) ?_;refine asd ?_;refine RL.gh (Gh.keep [6] rfl) ?_;refine .nil ?_
   exact jr () trivial (by simp only [hb0];rfl)
  rintro _ _
  refine .ret ?_
  cases h
  exact ⟨_,⟨rfl,rfl⟩,.refl hH⟩
 refine cnf (dF hc) ?_;refine .sr ?_;refine vk (vbi) ?_;refine asd ?_;refine rn ?_;refine .gh (Gh.keep [0,2,4,6,7,58] rfl) ?_
 rcases brc h with ⟨hc,h⟩|⟨hc,h⟩
 ·refine cnt (dT hc) ?_
  refine .seq ?_
  ·skip
   refine .region ?_;refine vk (vfa C7) ?_;refine vk (Ak Gu) ?_;refine vk (A7 (Dv _) (Jr _) JI) ?_;refine vk (vbi) ?_
   rcases brc h with ⟨hc,h⟩|⟨hc,h⟩
   ·have hb0:(decide (((List.length a1.box:Nat):Int)=1))=true:=(dT hc)
    refine vk (VOK.lit (Aa) hb0) ?_;refine vk (Aa) ?_;refine vk (Ah) ?_
    rcases brc h with ⟨hc,h⟩|⟨hc,h⟩
    ·have hb1:((!a1.num.1)&&((decide (((List.length a1.num.2.1:Nat):Int)=0))&&(decide (((List.length a1.num.2.2:Nat):Int)=0))))=true:=hc
     refine vk (VOK.lit (Aa) hb1) ?_;refine vk (vfa Ga) ?_;refine vk (Ak DQ) ?_;refine vk (vbi) ?_;refine vk (Ah) ?_
     rcases brc h with ⟨hc,h⟩|⟨hc,h⟩
     ·have hb2:(decide (a1.char=0))=true:=(dT hc)
      refine vk (VOK.lit (Aa) hb2) ?_;refine vk (vfa C7) ?_;refine vk (Ak Gu) ?_
      obtain ⟨x4,hx4,h⟩:=bnd h
      obtain ⟨nx4,hnx4,hxx4⟩:=BA hx4
      refine vk (vix nx4 hnx4 (Jv hxx4) rfl Js) ?_;refine vk (Aj AP Ap) ?_
      obtain ⟨x5,hx5,h⟩:=bnd h
      refine vk (Ae (Fe hx5) Tryz.call172) ?_;refine vk (vnt) ?_;refine vk (Ah) ?_
      rcases brc h with ⟨hc,h⟩|⟨hc,h⟩
      ·have hb3:(!x5)=false:=(ntf hc)
       refine vk (VOK.lit (Aa) hb3) ?_;refine gf ?_;refine gf ?_;refine gf ?_;refine gf ?_;refine gf ?_;refine gf ?_;refine gf ?_;refine vk (Ah) ?_;refine asd ?_;refine rn ?_;refine .gh (Gh.keep [6] rfl) ?_;refine .ret ?_
       cases h
       exact ⟨_,⟨rfl,rfl⟩,.refl hH⟩
      have hb3:(!x5)=true:=(ntt (bf hc))
      refine vk (VOK.lit (Aa) hb3) ?_;refine vk (ZU (av:=.bp id 0)) ?_;refine vk (vfa C7) ?_;refine vk (Ak Gu) ?_
      obtain ⟨x6,hx6,h⟩:=bnd h
      obtain ⟨nx6,hnx6,hxx6⟩:=BA hx6
      refine vk (vix nx6 hnx6 (Jv hxx6) rfl Js) ?_;refine vk (Aj AP Ap) ?_;refine vk (Aa) ?_
      obtain ⟨x7,hx7,h⟩:=bnd h
      refine clR (avs:=[.bp id 0,.d (dvA x6),.d (.i .i64 a2)]) (orc x6 a2 c d x7 hx7 H id hH) Tryz.call108 (fun v H' hp=>?_)
      obtain ⟨rfl,hp⟩:=hp
      refine vk (Ah) ?_;refine asd ?_;refine rn ?_;refine .gh (Gh.keep [6] rfl) ?_;refine .ret ?_
      cases h
      exact ⟨_,⟨rfl,rfl⟩,rfl,hp⟩
     have hb2:(decide (a1.char=0))=false:=(dF hc)
     refine vk (VOK.lit (Aa) hb2) ?_;refine gf ?_;refine gf ?_;refine gf ?_;refine gf ?_;refine gf ?_;refine gf ?_;refine vk (Ah) ?_;refine vk (Aa) ?_;refine gf ?_;refine gf ?_;refine gf ?_;refine gf ?_;refine gf ?_;refine gf ?_;refine gf ?_;refine vk (Ah) ?_;refine asd ?_;refine rn ?_;refine .gh (Gh.keep [6] rfl) ?_;refine .ret ?_
     cases h
     exact ⟨_,⟨rfl,rfl⟩,.refl hH⟩
    have hb1:((!a1.num.1)&&((decide (((List.length a1.num.2.1:Nat):Int)=0))&&(decide (((List.length a1.num.2.2:Nat):Int)=0))))=false:=(bf hc)
    refine vk (VOK.lit (Aa) hb1) ?_;refine gf ?_;refine gf ?_;refine gf ?_;refine vk (Ah) ?_;refine vk (Aa) ?_;refine gf ?_;refine gf ?_;refine gf ?_;refine gf ?_;refine gf ?_;refine gf ?_;refine vk (Ah) ?_;refine vk (Aa) ?_;refine gf ?_;refine gf ?_;refine gf ?_;refine gf ?_;refine gf ?_;refine gf ?_;refine gf ?_;refine vk (Ah) ?_;refine asd ?_;refine rn ?_;refine .gh (Gh.keep [6] rfl) ?_;refine .ret ?_
    cases h
    exact ⟨_,⟨rfl,rfl⟩,.refl hH⟩
   have hb0:(decide (((List.length a1.box:Nat):Int)=1))=false:=(dF hc)
   refine vk (VOK.lit (Aa) hb0) ?_;refine gf ?_;refine vk (Ah) ?_;refine vk (Aa) ?_;refine gf ?_;refine gf ?_;refine gf ?_;refine vk (Ah) ?_;refine vk (Aa) ?_;refine gf ?_;refine gf ?_;refine gf ?_;refine gf ?_;refine gf ?_;refine gf ?_;refine vk (Ah) ?_;refine vk (Aa) ?_;refine gf ?_;refine gf ?_;refine gf ?_;refine gf ?_;refine gf ?_;refine gf ?_;refine gf ?_;refine vk (Ah) ?_;refine asd ?_;refine rn ?_;refine .gh (Gh.keep [6] rfl) ?_;refine .ret ?_
   cases h
   exact ⟨_,⟨rfl,rfl⟩,.refl hH⟩
 refine cnf (dF hc) ?_;refine .skip ?_
 show AW _ _ _ _ _ _
 refine .sr ?_;refine asd ?_;refine rn ?_;refine .gh (Gh.keep [6] rfl) ?_;refine .ret ?_
 cases h
 exact ⟨_,⟨rfl,rfl⟩,.refl hH⟩
def PB (rc:Arr→Int→Int→Int→Option M3) (deep:Int) : List Itm→Int→Int→Option M3
 | [],c,d=>some (true,c,d)
 | x::xs,c,d=>(Uw rc x deep c d).bind fun z=>if z.1=true then PB rc deep xs z.2.1 z.2.2 else some (false,z.2.1,z.2.2)
def Sb (rc:Arr→Int→Int→Int→Option M3) (deep:Int) (x:Itm) (s:Int×Int) : Option (Bool×(Int×Int)):=(Uw rc x deep s.1 s.2).map fun z=>(!z.1,z.2)
theorem R4 {rc:Arr→Int→Int→Int→Option M3} {deep:Int} : ∀ {xs:List Itm} {c d:Int} {z:M3} {i:Int},0≤i→PB rc deep xs c d=some z→∃ n,QL (Sb rc deep) xs (c,d) i=some (n,z.2)∧(!decide (0≤n))=z.1
 | [],c,d,z,i,_,h=>by cases h;exact ⟨-1,rfl,rfl⟩
 | x::xs,c,d,z,i,hi,h=>by
  rw [PB] at h
  obtain ⟨y,hy,h⟩:=bnd h
  have hs:Sb rc deep x (c,d)=some (!y.1,y.2):=by simp [Sb,hy]
  by_cases hc:y.1=true
  ·rw [if_pos hc] at h
   obtain ⟨n,h1,h2⟩:=R4 (i:=i+1) (by omega) h
   refine ⟨n,?_,h2⟩
   rw [QL,hs,oB,if_neg (by simp [hc])];exact h1
  ·rw [if_neg hc] at h
   cases h
   refine ⟨i,?_,by simp [hi]⟩
   rw [QL,hs,oB,if_pos (by simp [hc])]
theorem Mq {rc:Arr→Int→Int→Int→Option M3} (orc:OA rc) {x:Itm} {deep c d:Int} {z:M3} (h:Uw rc x deep c d=some z) {H:Al} {id n3 n5:Nat} (hH:H[id]?=some (EB c d)) (h3:H[n3]?=some (.box [.bp id 0])) (h5:H[n5]?=some (.box [.d (.i .i64 deep)])) :
  FnR Tryz.prog 192 [.d (dvI x),.bp n3 0,.bp n5 0] H fun v H'=>v=.d (.b (!z.1))∧Upd H id (EB z.2.1 z.2.2) H':=by
 refine FnR.of (rs:=[.tmp 4]) 10 Tryz.func192 rfl rfl rfl (by simp) ?_;refine .sr ?_;refine vk (vbx) ?_;refine asd ?_;refine rn ?_;refine .sr ?_;refine vk (Sd (cs:=[.bp id 0]) (c:=.bp id 0) h3 rfl (by kernel_rfl)) ?_;refine vk (Aj Bl AI) ?_;refine vk (Qr (cs:=[.d (.i .i64 deep)]) (c:=.i .i64 deep) h5 rfl Dl) ?_
 refine clR (avs:=[.bp id 0,.d (dvI x),.d (.i .i64 deep)]) (Jf orc h hH) Tryz.call193 (fun v H' hp=>?_)
 obtain ⟨rfl,hp⟩:=hp
 refine vk (vnt) ?_;refine asd ?_;refine rn ?_;refine .ret ?_
 exact ⟨_,⟨rfl,rfl⟩,rfl,hp⟩
theorem Upd.set_new {H H':Al} {id n:Nat} {o x:HO} (k:Upd H id o H') (h1:H.length≤n) (h2:n≠id) : Upd H id o (H'.set n x) :=
 ⟨by rw [List.getElem?_set_ne h2];exact k.1,by simpa using k.2.1,fun j h3 h4=>by rw [List.getElem?_set_ne (by omega)];exact k.2.2 j h3 h4⟩
theorem Upd.set_id {H H':Al} {id:Nat} {o o':HO} (k:Upd H id o H') : Upd H id o' (H'.set id o') :=
 ⟨List.getElem?_set_self (lS.1 k.1).1,by simpa using k.2.1,fun j h3 h4=>by rw [List.getElem?_set_ne (Ne.symm h3)];exact k.2.2 j h3 h4⟩
def ZM (rc:Arr→Int→Int→Int→Option M3) (a:Arr) (deep c d:Int) : Option M3 :=
 (EZ a.shape).bind fun x1 =>
  if x1.2=0 then
   if ((List.length a.items:Nat):Int)=(if x1.1<1 then 1 else x1.1) then
    if 16384<w64 (c+((List.length a.items:Nat):Int)) then some (false,w64 (c+((List.length a.items:Nat):Int)),d) else
    (D4 a).bind fun sm =>
     if sm=true then (if deep≤16 then PB rc deep a.items (w64 (c+((List.length a.items:Nat):Int))) d else some (false,w64 (c+((List.length a.items:Nat):Int)),d))
     else (if w64 (deep+1)≤16 then PB rc (w64 (deep+1)) a.items (w64 (c+((List.length a.items:Nat):Int))) (if d<w64 (deep+1) then w64 (deep+1) else d) else some (false,w64 (c+((List.length a.items:Nat):Int)),(if d<w64 (deep+1) then w64 (deep+1) else d)))
   else some (false,c,d)
  else some (false,c,d)
set_option maxHeartbeats 4000000 in
set_option maxRecDepth 20000 in
theorem MQ {rc:Arr→Int→Int→Int→Option M3} (orc:OA rc) {a:Arr} {deep c d:Int} {r:M3} (hlen:a.items.length≤9223372036854775806) (h:ZM rc a deep c d=some r) {H:Al} {id:Nat} (hH:H[id]?=some (EB c d)) :
  FnR Tryz.prog 108 [.bp id 0,.d (dvA a),.d (.i .i64 deep)] H (PE id r H):=by
 unfold ZM at h
 have hid:id<H.length:=(lS.1 hH).1
 refine FnR.of (rs:=[.tmp 6]) 63 Tryz.func108 rfl rfl rfl (by simp) ?_;refine .sr ?_;refine bxA (c:=.bp id 0) ?_;refine vk (vbx) ?_;refine bxA (c:=.d (.i .i64 deep)) ?_;refine asd ?_
 have f0:Upd H id (EB c d) (H++[.box [.bp id 0]]++[.box [.d (.i .i64 deep)]]):=by
  refine ⟨?_,by simp,fun j h1 h2=>?_⟩
  ·rw [List.append_assoc,List.getElem?_append_left hid];exact hH
  ·rw [List.append_assoc,List.getElem?_append_left h2]
 have f3:(H++[HO.box [AV.bp id 0]]++[.box [.d (.i .i64 deep)]])[H.length]?=some (.box [.bp id 0]):=by simp
 have f5:(H++[HO.box [AV.bp id 0]]++[.box [.d (.i .i64 deep)]])[(H++[HO.box [AV.bp id 0]]).length]?=some (.box [.d (.i .i64 deep)]):=by
  rw [List.getElem?_append_right (Nat.le_refl _)];simp
 have g3:H.length≠id:=by omega
 have g5:(H++[HO.box [AV.bp id 0]]).length≠id:=by simp;omega
 have g5':H.length≤(H++[HO.box [AV.bp id 0]]).length:=by simp
 have g35:H.length≠(H++[HO.box [AV.bp id 0]]).length:=by simp
 have g3':H.length≤H.length:=Nat.le_refl _
 generalize H++[HO.box [AV.bp id 0]]++[.box [.d (.i .i64 deep)]]=H2 at f0 f3 f5 ⊢
 generalize (H++[HO.box [AV.bp id 0]]).length=n5 at f5 g5 g5' g35 ⊢
 obtain ⟨n3,hn3⟩:∃ n3,n3=H.length:=⟨_,rfl⟩
 rw [← hn3] at f3 g3 g35
 rw [← hn3]
 have f1:=f0.1
 refine rn ?_;refine .gh (Gh.keep [3,4,5] rfl) ?_;refine .sr ?_;refine vk (vfa BW) ?_;refine vk (Ak E9) ?_
 obtain ⟨x1,hx1,h⟩:=bnd h
 refine vk (VOK.tupd (vs:=[.i .i64 x1.1,.i .i64 x1.2]) (Ae (EE hx1) Tryz.call98)) ?_;refine vk (Aa) ?_;refine vk (vex) ?_;refine vk (vex) ?_;refine asd ?_;refine asd ?_;refine rn ?_;refine .gh (Gh.keep [3,4,5,7,8] rfl) ?_;refine .seq ?_;refine .sr ?_;refine vk (Aa) ?_;refine vk (vbi) ?_
 by_cases hc:x1.2=0
 rotate_left
 ·rw [if_neg hc] at h
  cases h
  refine vk (VOK.lit (Aa) (show (!decide (x1.2=0))=true by simp [hc])) ?_;refine gf ?_;refine gf ?_;refine gf ?_;refine gf ?_;refine gf ?_;refine gf ?_;refine vk (Ah) ?_;refine rn ?_;refine cnt rfl ?_;refine .sr ?_;refine asd ?_;refine rn ?_;refine .ret ?_
  exact ⟨_,⟨rfl,rfl⟩,rfl,f0⟩
 rw [if_pos hc] at h
 refine vk (VOK.lit (Aa) (show (!decide (x1.2=0))=false by simp [hc])) ?_;refine vk (vfa BG) ?_;refine vk (Ak Ek) ?_;refine vk (A7 (Bi _) (EY _) ET) ?_;refine vk (Aa) ?_;refine vk (vmx) ?_;refine vk (vbi) ?_;refine vk (Ah) ?_;refine rn ?_
 by_cases hc:((List.length a.items:Nat):Int)=(if x1.1<1 then 1 else x1.1)
 rotate_left
 ·rw [if_neg hc] at h
  cases h
  refine cnt (ntt (dF hc)) ?_;refine .sr ?_;refine asd ?_;refine rn ?_;refine .ret ?_
  exact ⟨_,⟨rfl,rfl⟩,rfl,f0⟩
 rw [if_pos hc] at h
 refine cnf (ntf (dT hc)) ?_;refine .skip ?_
 show AW _ _ _ _ _ _
 refine .gh (Gh.keep [3,4,5] rfl) ?_;refine .seq ?_;refine .drawn 10 A4 (by kernel_rfl) ?_;refine dv (Sd (cs:=[.bp id 0]) (c:=.bp id 0) f3 rfl (by kernel_rfl)) ?_;refine dv (WM) ?_;refine dv (Fo Ni) ?_;refine dv (Qr (cs:=[.d (.i .i64 c),.d (.i .i64 d)]) (c:=.i .i64 c) f1 rfl Dl) ?_;refine dv (vfa BG) ?_;refine dv (Ak Ek) ?_;refine dv (A7 (Bi _) (EY _) ET) ?_;refine dv (vbi) ?_;refine dv (WM) ?_;refine dv (Fo Ni) ?_;refine dz ?_
 refine stb (cs:=[.d (.i .i64 c),.d (.i .i64 d)]) (c:=.d (.i .i64 c)) f1 rfl ?_ Mj
 have q0:=f0.set_id (o':=EB (w64 (c+((List.length a.items:Nat):Int))) d)
 have q3:(H2.set id (EB (w64 (c+((List.length a.items:Nat):Int))) d))[n3]?=some (.box [.bp id 0]):=by rw [List.getElem?_set_ne (Ne.symm g3)];exact f3
 have q5:(H2.set id (EB (w64 (c+((List.length a.items:Nat):Int))) d))[n5]?=some (.box [.d (.i .i64 deep)]):=by rw [List.getElem?_set_ne (Ne.symm g5)];exact f5
 refine rn ?_
 change AW _ _ _ _ _ (H2.set id (EB (w64 (c+((List.length a.items:Nat):Int))) d))
 generalize H2.set id (EB (w64 (c+((List.length a.items:Nat):Int))) d)=H3 at q0 q3 q5 ⊢
 generalize w64 (c+((List.length a.items:Nat):Int))=c1 at h q0 ⊢
 have q1:=q0.1
 refine .gh (Gh.keep [3,4,5] rfl) ?_;refine .seq ?_;refine .sr ?_;refine vk (Sd (cs:=[.bp id 0]) (c:=.bp id 0) q3 rfl (by kernel_rfl)) ?_;refine vk (WM) ?_;refine vk (Fo Ni) ?_;refine vk (Qr (cs:=[.d (.i .i64 c1),.d (.i .i64 d)]) (c:=.i .i64 c1) q1 rfl Dl) ?_;refine vk (vbi) ?_;refine rn ?_
 by_cases hc:16384<c1
 ·rw [if_pos hc] at h
  cases h
  refine cnt (dT hc) ?_;refine .sr ?_;refine asd ?_;refine rn ?_;refine .ret ?_
  exact ⟨_,⟨rfl,rfl⟩,rfl,q0⟩
 rw [if_neg hc] at h
 refine cnf (dF hc) ?_;refine .skip ?_
 show AW _ _ _ _ _ _
 refine .gh (Gh.keep [3,4,5] rfl) ?_;refine .seq ?_
 obtain ⟨sm,hsm,h⟩:=bnd h
 refine .sr ?_;refine vk (Aj AP Ap) ?_;refine vk (Ae (Fe hsm) Tryz.call172) ?_;refine vk (vnt) ?_;refine rn ?_
 refine AW.mr (σ:=Al×Int×Int) (fun s=>Upd H id (EB c1 s.2.2) s.1∧s.1[n3]?=some (.box [.bp id 0])∧s.1[n5]?=some (.box [.d (.i .i64 s.2.1)])∧(if s.2.1≤16 then PB rc s.2.1 a.items c1 s.2.2 else some (false,c1,s.2.2))=some r)
  (fun _=>[(3,.bp n3 0),(4,.d (.ptr [.sl (Is a.shape),.sl (Its a.items)])),(5,.bp n5 0)]) (fun s=>s.1) ?_ ?_
 ·by_cases hs:sm=true
  ·rw [if_pos hs] at h
   refine cnf (ntf hs) ?_;refine .gh (Gh.keep [3,4,5] rfl) ?_;refine .skip ?_
   exact jr (H3,deep,d) ⟨q0,q3,q5,h⟩
  rw [if_neg hs] at h
  refine cnt (ntt (bf hs)) ?_;refine .sr ?_;refine vk (Qr (cs:=[.d (.i .i64 deep)]) (c:=.i .i64 deep) q5 rfl Dl) ?_;refine vk (vbi) ?_
  refine stb (cs:=[.d (.i .i64 deep)]) (c:=.d (.i .i64 deep)) q5 rfl ?_ Mj
  have p0:=q0.set_new (n:=n5) (x:=.box [.d (.i .i64 (w64 (deep+1)))]) g5' g5
  have p3:(H3.set n5 (.box [.d (.i .i64 (w64 (deep+1)))]))[n3]?=some (.box [.bp id 0]):=by rw [List.getElem?_set_ne (Ne.symm g35)];exact q3
  have p5:(H3.set n5 (.box [.d (.i .i64 (w64 (deep+1)))]))[n5]?=some (.box [.d (.i .i64 (w64 (deep+1)))]):=List.getElem?_set_self (lS.1 q5).1
  refine rn ?_
  change AW _ _ _ _ _ (H3.set n5 (.box [.d (.i .i64 (w64 (deep+1)))]))
  generalize H3.set n5 (.box [.d (.i .i64 (w64 (deep+1)))])=H4 at p0 p3 p5 ⊢
  generalize w64 (deep+1)=dp at h p5 ⊢
  have p1:=p0.1
  refine .gh (Gh.keep [3,4,5] rfl) ?_;refine .drawn 9 A4 (by kernel_rfl) ?_;refine dv (Sd (cs:=[.bp id 0]) (c:=.bp id 0) p3 rfl (by kernel_rfl)) ?_;refine dv (Sd (cs:=[.bp id 0]) (c:=.bp id 0) p3 rfl (by kernel_rfl)) ?_;refine dv (WM) ?_;refine dv (Fo Tz) ?_;refine dv (Qr (cs:=[.d (.i .i64 c1),.d (.i .i64 d)]) (c:=.i .i64 d) p1 rfl Dl) ?_;refine dv (Qr (cs:=[.d (.i .i64 dp)]) (c:=.i .i64 dp) p5 rfl Dl) ?_;refine dv (vmx) ?_;refine dv (WM) ?_;refine dv (Fo Tz) ?_;refine dz ?_
  refine stb (cs:=[.d (.i .i64 c1),.d (.i .i64 d)]) (c:=.d (.i .i64 d)) p1 rfl ?_ Mj
  have w0:=p0.set_id (o':=EB c1 (if d<dp then dp else d))
  have w3:(H4.set id (EB c1 (if d<dp then dp else d)))[n3]?=some (.box [.bp id 0]):=by rw [List.getElem?_set_ne (Ne.symm g3)];exact p3
  have w5:(H4.set id (EB c1 (if d<dp then dp else d)))[n5]?=some (.box [.d (.i .i64 dp)]):=by rw [List.getElem?_set_ne (Ne.symm g5)];exact p5
  refine RL.gh (Gh.keep [3,4,5] rfl) ?_;refine .nil ?_
  exact jr (H4.set id (EB c1 (if d<dp then dp else d)),dp,(if d<dp then dp else d)) ⟨w0,w3,w5,h⟩
 rintro ⟨H5,dp,d1⟩ ⟨u0,u3,u5,h⟩
 dsimp only at u0 u3 u5 h ⊢
 show AW _ _ _ _ _ _
 refine .sr ?_;refine vk (Qr (cs:=[.d (.i .i64 dp)]) (c:=.i .i64 dp) u5 rfl Dl) ?_;refine vk (vbi) ?_
 by_cases hc:dp≤16
 rotate_left
 ·rw [if_neg hc] at h
  cases h
  refine vk (VOK.lit (Aa) (dF hc)) ?_;refine gf ?_;refine gf ?_;refine gf ?_;refine gf ?_;refine gf ?_;refine vk (Ah) ?_;refine asd ?_;refine rn ?_;refine .ret ?_
  exact ⟨_,⟨rfl,rfl⟩,rfl,u0⟩
 rw [if_pos hc] at h
 refine vk (VOK.lit (Aa) (dT hc)) ?_;refine vk (vfa BG) ?_;refine vk (Ak Ek) ?_;refine Aba (avs:=[.bp n3 0,.bp n5 0]) ?_
 obtain ⟨n,h1,h2⟩:=R4 (Int.le_refl 0) h
 have step:=MX (S:=Int×Int) (step:=Sb rc dp) (st:=fun s H'=>Upd H id (EB s.1 s.2) H'∧H'[n3]?=some (.box [.bp id 0])∧H'[n5]?=some (.box [.d (.i .i64 dp)])) (caps:=[.bp n3 0,.bp n5 0]) Tryz.call192 rfl
  (fun x s y H' hs hy=>by
   obtain ⟨hs0,hs3,hs5⟩:=hs
   simp only [Sb,Option.map_eq_some_iff] at hy
   obtain ⟨z,hz,rfl⟩:=hy
   refine (Mq orc hz hs0.1 hs3 hs5).mono fun v H'' hp=>⟨hp.1,hs0.trans hp.2,?_,?_⟩
   ·rw [hp.2.2.2 n3 g3 (lS.1 hs3).1];exact hs3
   ·rw [hp.2.2.2 n5 g5 (lS.1 hs5).1];exact hs5)
  hlen h1 (H:=H5) ⟨u0,u3,u5⟩
 refine clR (avs:=[.d (.sl (Its a.items)),.fn 192 [] [.bp n3 0,.bp n5 0]]) step Tryz.call179 (fun v H' hp=>?_)
 obtain ⟨rfl,hp⟩:=hp
 refine vk (vnt) ?_
 rw [h2]
 refine vk (Ah) ?_;refine asd ?_;refine rn ?_;refine .ret ?_
 exact ⟨_,⟨rfl,rfl⟩,rfl,hp.1⟩
def TN : Nat→Arr→Int→Int→Int→Option M3
 | 0,_,_,_,_=>none
 | k+1,a,deep,c,d=>if a.items.length≤9223372036854775806 then ZM (TN k) a deep c d else none
theorem RQ : ∀ k,OA (TN k)
 | 0=>fun _ _ _ _ _ h=>by cases h
 | k+1=>fun a deep c d r h H id hH=>by
  rw [TN] at h
  obtain ⟨hl,h⟩:=BV h
  exact MQ (RQ k) hl h hH
def mAr (a:Arr) (deep c d:Int) : Option M3:=TN (a.size+1) a deep c d
def mIt (x:Itm) (deep c d:Int) : Option M3:=Uw mAr x deep c d
theorem WJ : OA mAr:=fun a deep c d r h=>RQ _ a deep c d r h
def IX (a:Arr) : Option ((Int×Int)×Bool):=(mAr a 0 0 0).map fun z=>if z.1=true then (z.2,true) else ((0,0),false)
theorem Kl {a:Arr} {r:(Int×Int)×Bool} (h:IX a=some r) : Fn Tryz.prog 36 [dvA a] (.tup [.d (.ag [.i .i64 r.1.1,.i .i64 r.1.2]),.d (.b r.2)]):=by
 simp only [IX,Option.map_eq_some_iff] at h
 obtain ⟨z,hz,rfl⟩:=h
 refine Fn.ofC (rs:=[.cell 2 69,.tmp 3]) (nt:=10) Tryz.func36 rfl rfl rfl (by simp) rfl ?_;refine .sr ?_;refine vk (vbx) ?_;refine vk (van (Ai Pj) T8) ?_;refine asd ?_;refine rn ?_;refine .sr ?_
 refine al ?_ (Ai Pj) (fun w I μ=>VC w I μ)
 refine rn ?_;refine .seq ?_;refine .sr ?_;refine vk (Aj AP Ap) ?_
 refine clR (avs:=[.bp 0 0,.d (dvA a),.d (.i .i64 0)]) (WJ a 0 0 0 z hz _ 0 rfl) Tryz.call108 (fun v H' hp=>?_)
 obtain ⟨rfl,hp⟩:=hp
 refine vk (vnt) ?_;refine rn ?_
 by_cases hc:z.1=true
 ·rw [if_pos hc]
  refine cnf (ntf hc) ?_;refine .skip ?_
  show AW _ _ _ _ _ _
  refine .sr ?_;refine vk (JC (cs:=[.d (.i .i64 z.2.1),.d (.i .i64 z.2.2)]) (ds:=[.i .i64 z.2.1,.i .i64 z.2.2]) hp.1 WT NR) ?_
  refine stn ?_ NR (by decide)
  refine asd ?_;refine rn ?_;refine .ret ?_
  exact ⟨_,_,⟨.inr rfl,WT,NR,p2⟩,rfl,rfl⟩
 ·rw [if_neg hc]
  refine cnt (ntt (bf hc)) ?_;refine .sr ?_;refine vk (vbd Z3 Pj T8) ?_
  refine stn ?_ NR (by decide)
  refine asd ?_;refine rn ?_;refine .ret ?_
  exact ⟨_,_,⟨.inr rfl,WT,NR,p2⟩,rfl,rfl⟩
def Hl (x:Itm) : Option Bool:=(mIt x 0 0 0).map fun z=>z.1
theorem JP {x:Itm} {r:Bool} (h:Hl x=some r) : Fn Tryz.prog 181 [dvI x] (.d (.b r)):=by
 simp only [Hl,Option.map_eq_some_iff] at h
 obtain ⟨z,hz,rfl⟩:=h
 refine Fn.o1 2 6 Tryz.func181 ?_;refine .sr ?_;refine vk (vbx) ?_;refine asd ?_;refine rn ?_;refine .sr ?_
 refine al ?_ (Ai Pj) (fun w I μ=>VC w I μ)
 refine vk (Aj Bl AI) ?_
 refine clR (avs:=[.bp 0 0,.d (dvI x),.d (.i .i64 0)]) (Jf WJ hz (id:=0) rfl) Tryz.call193 (fun v H' hp=>?_)
 obtain ⟨rfl,hp⟩:=hp
 refine asd ?_;refine rn ?_;refine .ret ?_
 exact ⟨rfl,rfl⟩
def LY (s:Bool) (n:Nat) : Int×Bool:=if s=true then (if n≤9223372036854775808 then (-(n:Int),true) else (0,false)) else if n<9223372036854775808 then ((n:Int),true) else (0,false)
def JG (a:RT) : Option (Int×Bool):=(DD a).bind fun b=>if b=true then (if (okL 1048576 a.2.1&&decide (Ac (val a.2.1)=a.2.1))=true then some (if AF (val a.2.1)≤64 then LY a.1 (val a.2.1) else (0,false)) else none) else some (0,false)
theorem Aaz (w:World) : (zeroValue 131).run Tryz.prog w=.ok (.int .u64 0) w:=by
 simp
theorem zu1 : AK Tryz.prog 131=1:=by kernel_rfl
theorem au1 : B7 Tryz.prog 131=some false:=by kernel_rfl
theorem XY {xs:List Nat} (h:Ok xs) (hl:xs.length≤2) : ∀ j,val (xs.drop (j+1))<4294967296:=by
 intro j
 match xs,hl with
 | [],_=>simp [val]
 | [x],_=>cases j<;>simp [val]
 | [x,y],_ =>
  have hy:y<4294967296:=h y (by simp)
  cases j with
  | zero=>simp [val];omega
  | succ j=>cases j<;>simp [val]
theorem WG {n:Nat} (h:n≤9223372036854775808) : IntKind.i64.wrap (IntKind.u64.wrap (0-(n:Int)))=-(n:Int):=by
 simp only [IntKind.wrap,IntKind.bits,IntKind.signed];simp;omega
theorem RE {a:RT} {r:Int×Bool} (h:JG a=some r) : Fn Tryz.prog 171 [.ag [.b a.1,.sl (L a.2.1),.sl (L a.2.2)]] (.tup [.d (.i .i64 r.1),.d (.b r.2)]):=by
 unfold JG at h
 obtain ⟨x1,hx1,h⟩:=bnd h
 refine Fn.ofM (rs:=[.tmp 2,.tmp 3]) (nt:=46) Tryz.func171 rfl rfl rfl (by simp) rfl ?_;refine .seqA ?_;refine .region ?_;refine vk (vbx) ?_;refine asd ?_;refine asd ?_;refine rn ?_
 show AWM _ _ _ _ _ _
 refine .seqA ?_;refine .seq ?_;refine .region ?_;refine vk (Aj Af Ad) ?_;refine vk (Ae (IA hx1) Tryz.call206) ?_;refine vk (vnt) ?_
 cases x1 with
 | false =>
  replace h:=YR (by decide) h
  refine mvd ?_;refine gf ?_;refine gf ?_;refine gf ?_;refine gf ?_;refine vk (Ah) ?_;refine rn ?_;refine cnt rfl ?_;refine .seq ?_;refine .region ?_;refine asd ?_;refine asd ?_;refine rn ?_;refine .ret ?_
  cases h
  exact ⟨by decide,rfl,rfl,rfl⟩
 | true =>
  replace h:=YI rfl h
  obtain ⟨hc,h⟩:=BV h
  rw [Bool.and_eq_true,Bd] at hc
  obtain ⟨⟨hok,hlen⟩,hdg⟩:=hc
  have hdg:=of_decide_eq_true hdg
  refine mvd ?_;refine vk (vfa AA) ?_;refine vk (Ak AQ) ?_
  refine cl (xs:=[.sl (L a.2.1)]) ?_ (T7 hok hlen) Tryz.call223
  refine vk (vbi) ?_;refine vk (Ah) ?_;refine rn ?_
  by_cases hb:AF (val a.2.1)≤64
  ·rw [if_pos hb] at h
   cases h
   have hb1:decide ((64:Int)<(AF (val a.2.1):Nat))=false:=dF (by omega)
   refine cnf hb1 ?_;refine .skip ?_
   show AWM _ _ _ _ _ _
   have hv64:val a.2.1<18446744073709551616:=BL.1 hb
   have hlen2:a.2.1.length≤2:=by rw [← hdg];exact Bh (by omega)
   have hvs:=XY hok hlen2
   refine .seqA ?_;refine .region ?_
   refine al ?_ Aaz (fun w I μ=>.cons (c:=.d (.i .u64 0)) (b1:=[]) (.d (.i _ _)) .nil)
   refine stb (cs:=[.d (.i .u64 0)]) (c:=.d (.i .u64 0)) rfl rfl ?_ zu1
   refine rn ?_
   show AWM _ _ _ _ _ _
   refine .seq rfl ?_;refine .seqA ?_;refine .region ?_;refine vk (vfa AA) ?_;refine vk (Ak AQ) ?_
   refine cl (xs:=[.sl (L a.2.1)]) ?_ (MI (L a.2.1)) Tryz.call224
   refine rn ?_
   show AWM _ _ _ _ _ _
   obtain ⟨s,xs,den⟩:=a
   dsimp only at *
   have hys:∀ ds∈Kh (L xs),ds.length=2:=fun ds hds=>by
    obtain ⟨k,hk⟩:=List.getElem?_of_mem hds
    rw [(KT hk).2];rfl
   have hit:=YM (L xs) (by intro x hx;simp only [L,List.mem_map] at hx;obtain ⟨n,_,rfl⟩:=hx;rfl) (by rw [Ab];omega)
   refine .block ?_;refine .rangeFunc rfl rfl rfl Tryz.call243 hit hys (by decide) (by decide) rfl (fun k=>[.box [.d (.i .u64 ((val (xs.drop (xs.length-k)):Nat):Int))]]) (by simp [val]) ?_ ?_
   ·intro l k d1 d2 hk
    obtain ⟨hk1,hk2⟩:=KT hk
    rw [Ab] at hk1 hk2
    have hj:xs.length-1-k<xs.length:=by omega
    have hxat:(L xs).getD (xs.length-1-k) .np=U xs[xs.length-1-k]:=by
     rw [lD,CA (lG hj)];rfl
    rw [hxat] at hk2
    simp only [List.cons.injEq,and_true] at hk2
    obtain ⟨rfl,rfl⟩:=hk2
    have hva:=Tf hj
    have hx:=hok.at (lG hj)
    have hsm:=hvs (xs.length-1-k)
    have e1:xs.length-1-k+1=xs.length-k:=by omega
    have e2:xs.length-(k+1)=xs.length-1-k:=by omega
    rw [e1] at hva hsm
    rw [e2]
    generalize xs[xs.length-1-k]=x at *
    generalize val (xs.drop (xs.length-k))=n at *
    rw [hva]
    refine .region ?_;refine asd ?_;refine rn ?_
    show AW _ _ _ _ _ _
    refine .block ?_;refine .region ?_
    refine ldb (cs:=[.d (.i .u64 (n:Int))]) (c:=.d (.i .u64 (n:Int))) rfl rfl ?_ au1
    refine bie (.i .u64 ((n * 4294967296:Nat):Int)) ?_ ?_
    ·refine ⟨by decide,?_⟩
     have:IntKind.u64.wrap ((n:Int) * 4294967296)=((n * 4294967296:Nat):Int):=by
      rw [FD _ (by omega) (by omega)];omega
     rw [← this];simp [IntKind.bits]
    refine mvd ?_
    refine cve (x:Int) (FD _ (by omega) (by omega)) ?_ u32 u64
    refine bie (.i .u64 ((n * 4294967296+x:Nat):Int)) ?_ ?_
    ·exact ⟨trivial,by rw [Lq hsm hx]⟩
    refine stb (cs:=[.d (.i .u64 (n:Int))]) (c:=.d (.i .u64 (n:Int))) rfl rfl ?_ zu1
    refine .nil ?_
    refine ⟨rfl,?_⟩
    rw [show n * 4294967296+x=x+4294967296 * n by omega]
    rfl
   ·show AWM _ _ _ _ _ _
    refine .lift ?_
    rw [GA,Ab,Nat.sub_self,List.drop_zero]
    have hn:val xs<18446744073709551616:=hv64
    generalize val xs=n at *
    cases s with
    | true =>
     refine .seq ?_;refine .block ?_;refine .seq ?_;refine .region ?_;refine vk (vfa AT) ?_;refine vk (Ak AD) ?_;refine mvd ?_
     refine ldb (cs:=[.d (.i .u64 (n:Int))]) (c:=.d (.i .u64 (n:Int))) rfl rfl ?_ au1
     refine vk (vbi) ?_;refine vk (Ah) ?_;refine asd ?_;refine rn ?_
     by_cases hle:n≤9223372036854775808
     ·refine cnt (dT (show (n:Int)≤9223372036854775808 by omega)) ?_
      refine .seq ?_;refine .region ?_
      refine ldb (cs:=[.d (.i .u64 (n:Int))]) (c:=.d (.i .u64 (n:Int))) rfl rfl ?_ au1
      refine vk (vng) ?_;refine vk (vcv u64 i64) ?_;refine asd ?_;refine asd ?_;refine rn ?_;refine .ret ?_
      refine ⟨by decide,?_,rfl,rfl⟩
      rw [show LY true n=(-(n:Int),true) by rw [LY,if_pos rfl,if_pos hle],← WG hle];rfl
     ·refine cnf (dF (show ¬((n:Int)≤9223372036854775808) by omega)) ?_
      refine .seq ?_;refine .region ?_;refine vk (vfa AT) ?_;refine vk (Ak AD) ?_;refine vk (vnt) ?_;refine mvd ?_;refine gf ?_;refine gf ?_;refine vk (Ah) ?_;refine asd ?_;refine rn ?_;refine cnf rfl ?_;refine .skip ?_
      show AW _ _ _ _ _ _
      refine .seq ?_;refine .region ?_;refine asd ?_;refine asd ?_;refine rn ?_;refine .ret ?_
      exact ⟨by decide,by rw [show LY true n=(0,false) by rw [LY,if_pos rfl,if_neg hle]];rfl,rfl,rfl⟩
    | false =>
     refine .seq ?_;refine .block ?_;refine .seq ?_;refine .region ?_;refine vk (vfa AT) ?_;refine vk (Ak AD) ?_;refine mvd ?_;refine gf ?_;refine gf ?_;refine vk (Ah) ?_;refine asd ?_;refine rn ?_;refine cnf rfl ?_;refine .seq ?_;refine .region ?_;refine vk (vfa AT) ?_;refine vk (Ak AD) ?_;refine vk (vnt) ?_;refine mvd ?_
     refine ldb (cs:=[.d (.i .u64 (n:Int))]) (c:=.d (.i .u64 (n:Int))) rfl rfl ?_ au1
     refine vk (vbi) ?_;refine vk (Ah) ?_;refine asd ?_;refine rn ?_
     by_cases hlt:n<9223372036854775808
     ·refine cnt (dT (show (n:Int)<9223372036854775808 by omega)) ?_
      refine .seq ?_;refine .region ?_
      refine ldb (cs:=[.d (.i .u64 (n:Int))]) (c:=.d (.i .u64 (n:Int))) rfl rfl ?_ au1
      refine vk (vcv u64 i64) ?_;refine asd ?_;refine asd ?_;refine rn ?_;refine .ret ?_
      refine ⟨by decide,?_,rfl,rfl⟩
      rw [show LY false n=((n:Int),true) by rw [LY,if_neg (by decide),if_pos hlt]]
      have:=E5 (n:Int) (by omega) (by omega)
      exact (show AV.tup [.d (.i .i64 (n:Int)),.d (.b true)]=.tup [.d (.i .i64 (IntKind.i64.wrap (n:Int))),.d (.b true)] by rw [this]).trans rfl
     ·refine cnf (dF (show ¬((n:Int)<9223372036854775808) by omega)) ?_
      refine .skip ?_
      show AW _ _ _ _ _ _
      refine .seq ?_;refine .region ?_;refine asd ?_;refine asd ?_;refine rn ?_;refine .ret ?_
      exact ⟨by decide,by rw [show LY false n=(0,false) by rw [LY,if_neg (by decide),if_neg hlt]];rfl,rfl,rfl⟩
  ·rw [if_neg hb] at h
   cases h
   have hb1:decide ((64:Int)<(AF (val a.2.1):Nat))=true:=dT (by omega)
   refine cnt hb1 ?_;refine .seq ?_;refine .region ?_;refine asd ?_;refine asd ?_;refine rn ?_;refine .ret ?_
   exact ⟨by decide,rfl,rfl,rfl⟩
def Di (a0:Arr) : Option (Bool):=((IX a0).bind fun x1=>(some (x1.2)))
theorem CZ {a0:Arr} {r:Bool} (h:Di a0=some r) :
  Fn Tryz.prog 13 [.ag [.sl (Is a0.shape),.sl (Its a0.items)]] (.d (.b r)):=by
 unfold Di at h
 refine Fn.o1 2 11 Tryz.func13 ?_;refine .sr ?_;refine vk (vbx) ?_;refine ar [1,2] ?_;refine .sr ?_;refine vk (Aj AP Ap) ?_
 obtain ⟨x1,g1,h⟩:=bnd h
 refine vk (VOK.tupd (vs:=[.ag [.i .i64 x1.1.1,.i .i64 x1.1.2],.b x1.2]) (Ae (Kl g1) Tryz.call36)) ?_;refine vk (Aa) ?_;refine vk (vex) ?_;refine vk (vex) ?_;refine vk (van (Ai Pj) T8) ?_
 refine stn ?_ NR (by decide)
 refine ar [2,4] ?_;refine .sr ?_;refine vk (Aa) ?_;refine ar [2] ?_;refine .ret ?_
 cases h
 exact ⟨rfl,rfl⟩
def JF (a0:Arr) : Option (Int):=((IX a0).bind fun x1=>(some (x1.1.1)))
theorem Ox {a0:Arr} {r:Int} (h:JF a0=some r) :
  Fn Tryz.prog 184 [.ag [.sl (Is a0.shape),.sl (Its a0.items)]] (.d (.i .i64 r)):=by
 unfold JF at h
 refine Fn.o1 2 12 Tryz.func184 ?_;refine .sr ?_;refine vk (vbx) ?_;refine ar [1,2] ?_;refine .sr ?_;refine vk (Aj AP Ap) ?_
 obtain ⟨x1,g1,h⟩:=bnd h
 refine vk (VOK.tupd (vs:=[.ag [.i .i64 x1.1.1,.i .i64 x1.1.2],.b x1.2]) (Ae (Kl g1) Tryz.call36)) ?_;refine vk (Aa) ?_;refine vk (vex) ?_;refine vk (vex) ?_;refine vk (van (Ai Pj) T8) ?_
 refine stn ?_ NR (by decide)
 refine ar [2,3] ?_;refine .seq ?_;refine .gh (Gh.nbp (t:=3) rfl) ?_;refine .region ?_;refine vk (vfa Ni) ?_;refine vk (Ak Dl) ?_;refine ar [2] ?_;refine .ret ?_
 cases h
 exact ⟨rfl,rfl⟩
def Jw (a0:Arr) (a1:Arr) : Option (Bool):=((Di a0).bind fun x1=>(Option.bind ((if x1=true then ((Di a1).bind fun x3=>(if x3=true then ((Ru a0 a1).bind fun x4=>(some x4)) else (some false))) else (some false)) : Option (Bool)) fun (z1:Bool)=>(some (z1))))
theorem NV {a0:Arr} {a1:Arr} {r:Bool} (h:Jw a0 a1=some r) :
  Fn Tryz.prog 14 [.ag [.sl (Is a0.shape),.sl (Its a0.items)],.ag [.sl (Is a1.shape),.sl (Its a1.items)]] (.d (.b r)):=by
 unfold Jw at h
 refine Fn.o1 4 16 Tryz.func14 ?_;refine .sr ?_;refine vk (vbx) ?_;refine vk (vbx) ?_;refine ar [2,3,4] ?_;refine .seq ?_
 obtain ⟨x1,g1,h⟩:=bnd h
 obtain ⟨z1,hz,h⟩:=bnd h
 refine AW.mr (σ:=Unit) (fun _=>True) (fun _=>[(4,.d (.b z1))]) (fun _=>[]) ?_ ?_
 ·skip
  refine .region ?_;refine vk (Aj AP Ap) ?_;refine vk (Ae (CZ g1) Tryz.call13) ?_
  rcases brc hz with ⟨hc,hz⟩|⟨hc,hz⟩
  ·have hb0:x1=true:=hc
   refine vk (VOK.lit (Aa) hb0) ?_;refine vk (Aj AP Ap) ?_
   obtain ⟨x3,g3,hz⟩:=bnd hz
   refine vk (Ae (CZ g3) Tryz.call13) ?_;refine vk (Ah) ?_
   rcases brc hz with ⟨hc,hz⟩|⟨hc,hz⟩
   ·have hb1:x3=true:=hc
    refine vk (VOK.lit (Aa) hb1) ?_;refine vk (Aj AP Ap) ?_;refine vk (Aj AP Ap) ?_
    obtain ⟨x4,g4,hz⟩:=bnd hz
    refine vk (Ae (Sf g4) Tryz.call37) ?_;refine vk (Ah) ?_;refine asd ?_;refine RL.gk [4] ?_;refine .nil ?_
    cases hz
    exact jr () trivial
   have hb1:x3=false:=(bf hc)
   refine vk (VOK.lit (Aa) hb1) ?_;refine gf ?_;refine gf ?_;refine gf ?_;refine vk (Ah) ?_;refine asd ?_;refine RL.gk [4] ?_;refine .nil ?_
   cases hz
   exact jr () trivial
  have hb0:x1=false:=(bf hc)
  refine vk (VOK.lit (Aa) hb0) ?_;refine gf ?_;refine gf ?_;refine vk (Ah) ?_;refine vk (Aa) ?_;refine gf ?_;refine gf ?_;refine gf ?_;refine vk (Ah) ?_;refine asd ?_;refine RL.gk [4] ?_;refine .nil ?_
  cases hz
  exact jr () trivial
 rintro _ _
 refine .ret ?_
 cases h
 exact ⟨rfl,rfl⟩
def AX (a0:(List Itm)) (a1:Dt) (K0:Int→Option (Int)) : Nat→Int→Int→Option (Int)
 | 0,_,_=>none
 | k+1,s2,s3=>(if s3<((List.length a0:Nat):Int) then ((rd? a0 s3).bind fun x4=>((a1.g x4).bind fun x5=>(if x5=true then (some (s3)) else (AX a0 a1 K0 k s2 (w64 (s3+1)))))) else (K0 s2))
def BI (a0:(List Itm)) (a1:Dt) : Option (Int):=(jn (fun (z1:Int)=>(some ((-1)))) fun K0=>(AX a0 a1 K0 Cm 0 0))
theorem D9 {a0:(List Itm)} {a1:Dt} (oa1:LF a1) {r:Int} (h:BI a0 a1=some r) :
  Fn Tryz.prog 227 [.sl (Its a0),a1.dv] (.d (.i .i64 r)):=by
 unfold BI at h
 refine Fn.o1 4 19 Tryz.func227 ?_;refine .sr ?_;refine ar [0,1,4] ?_;refine .seq ?_;refine .sr ?_;refine vk (Aa) ?_;refine vk (A7 (Bi _) (EY _) ET) ?_;refine vk (Aa) ?_;refine rk [0,1,4,7,8] ?_
 obtain ⟨K0,hK0,h⟩:=Du h
 refine AW.mr (σ:=Int) (fun p=>K0 p=some r) (fun p=>[(4,.d (.i .i64 p))]) (fun p=>[]) ?_ ?_
 ·skip
  refine .block ?_
  refine .loop (.gk [0,1,4,7,8] ?_)
  refine AL.ind (σ:=Nat×Int×Int) (m:=fun p=>p.1) (e:=fun p=>[(0,.d (.sl (Its a0))),(1,.d (a1.dv)),(4,.d (.i .i64 p.2.1)),(7,.d (.i .i64 ((List.length a0:Nat):Int))),(8,.d (.i .i64 p.2.2))]) (h:=fun p=>[]) (I:=fun p=>AX a0 a1 K0 p.1 p.2.1 p.2.2=some r) ?_ (Cm,0,0) h
  rintro ⟨k,s2,s3⟩ h ih
  dsimp only at h ih ⊢
  rcases k with _|k
  ·rw [AX] at h;cases h
  rw [AX] at h
  refine .sr ?_;refine vk (vbi) ?_;refine rk [0,1,4,7,8,9] ?_;refine .seq ?_
  rcases brc h with ⟨hc,h⟩|⟨hc,h⟩
  ·refine cnt (dT hc) ?_
   refine .skip ?_
   show AW _ _ _ _ _ _
   refine .seq ?_;refine .block ?_;refine .sr ?_;refine vk (Aa) ?_;refine ar [0,1,4,5,7,8] ?_;refine .sr ?_;refine vk (Aa) ?_;refine vk (Aa) ?_;refine vk (Aa) ?_
   obtain ⟨x4,g4,h⟩:=bnd h
   obtain ⟨n4,p04,q4⟩:=BA g4
   refine vk (vix n4 p04 (Gl q4) rfl Fw) ?_;refine vk (Aj Bl AI) ?_
   obtain ⟨x5,g5,h⟩:=bnd h
   refine vk (N4 (oa1 _ _ g5)) ?_;refine rk [0,1,4,5,7,8,16] ?_
   rcases brc h with ⟨hc,h⟩|⟨hc,h⟩
   ·refine cnt hc ?_
    refine .sr ?_;refine vk (Aa) ?_;refine ar [0,1,4,7,8] ?_;refine .ret ?_
    cases h
    exact ⟨rfl,rfl⟩
   refine cnf (bf hc) ?_;refine .skip ?_
   show AW _ _ _ _ _ _
   refine .region ?_;refine vk (vbi) ?_;refine vk (Aa) ?_;refine .nil ?_;refine AL.gk [0,1,4,7,8] ?_
   exact ih (k,s2,(w64 (s3+1))) h (Nat.lt_succ_self _)
  refine cnf (dF hc) ?_;refine .gk [4] ?_;refine .exit ?_
  exact jr (s2) h
 rintro z1 h
 try dsimp only at h ⊢
 subst hK0
 show AW _ _ _ _ _ _
 refine .sr ?_;refine ar [4] ?_;refine .ret ?_
 cases h
 exact ⟨rfl,rfl⟩
def BB (a0:(List Itm)) (a1:Dt) : Option (Bool):=((BI a0 a1).bind fun x1=>(some ((decide (0≤x1)))))
theorem DF {a0:(List Itm)} {a1:Dt} (oa1:LF a1) {r:Bool} (h:BB a0 a1=some r) :
  Fn Tryz.prog 179 [.sl (Its a0),a1.dv] (.d (.b r)):=by
 unfold BB at h
 refine Fn.o1 4 9 Tryz.func179 ?_;refine .sr ?_;refine ar [0,1,4] ?_;refine .sr ?_;refine vk (Aa) ?_;refine vk (Aa) ?_
 obtain ⟨x1,g1,h⟩:=bnd h
 refine vk (Ae (D9 oa1 g1) Tryz.call227) ?_;refine vk (vbi) ?_;refine ar [4] ?_;refine .ret ?_
 cases h
 exact ⟨rfl,rfl⟩
def IK (a0:Itm) : Option (Bool):=((Hl a0).bind fun x1=>(some ((!x1))))
theorem M5 {a0:Itm} {r:Bool} (h:IK a0=some r) :
  Fn Tryz.prog 180 [.ag [.i .u8 a0.kind,.b a0.num.1,.sl (L a0.num.2.1),.sl (L a0.num.2.2),.i .i32 a0.char,.sl (Ars a0.box)]] (.d (.b r)):=by
 unfold IK at h
 refine Fn.o1 2 6 Tryz.func180 ?_;refine .sr ?_;refine vk (vbx) ?_;refine ar [1,2] ?_;refine .sr ?_;refine vk (Aj Bl AI) ?_
 obtain ⟨x1,g1,h⟩:=bnd h
 refine vk (Ae (JP g1) Tryz.call181) ?_;refine vk (vnt) ?_;refine ar [2] ?_;refine .ret ?_
 cases h
 exact ⟨rfl,rfl⟩
def En (x12:Itm) (K4:Int→Option (Arr×Int)) : Nat→Int→Int→Option (Arr×Int)
 | 0,_,_=>none
 | k+1,s14,s15=>(if s15<((List.length x12.box:Nat):Int) then ((rd? x12.box s15).bind fun x16=>((JF x16).bind fun x17=>(En x12 K4 k (w64 (s14+x17)) (w64 (s15+1))))) else (K4 s14))
def EI (a1:(List Itm)) (K1:(List Int)→Option (Arr×Int)) : Nat→(List Int)→Int→Option (Arr×Int)
 | 0,_,_=>none
 | k+1,s9,s10=>(if s10<((List.length a1:Nat):Int) then (jn (fun (z11:(List Int))=>(EI a1 K1 k z11 (w64 (s10+1)))) fun K3=>((rd? a1 s10).bind fun x12=>(jn (fun (z13:Int)=>((ap? 17592186044416 s9 [z13]).bind fun x18=>(K3 x18))) fun K4=>(En x12 K4 Cm 1 0)))) else (K1 s9))
def EC (a1:(List Itm)) (x1:Int×Int) (z8:(List Int)) (K6:Arr→Int→(List Int)→(List Itm)→Option (Arr×Int)) : Nat→Arr→Int→Int→Int→(List Int)→(List Itm)→Option (Arr×Int)
 | 0,_,_,_,_,_,_=>none
 | k+1,s23,s24,s25,s26,s27,s28=>(if s25<x1.1 then ((Q8 (((List.length a1:Nat):Int)≠0)).bind fun x29=>((rd? z8 (Int.tmod s25 ((List.length a1:Nat):Int))).bind fun x30=>(if 16384<(w64 (s26+x30)) then (some ((Arr.mk [] []),8)) else ((Q8 (((List.length a1:Nat):Int)≠0)).bind fun x31=>((rd? a1 (Int.tmod s25 ((List.length a1:Nat):Int))).bind fun x32=>((J5 x32).bind fun x33=>((ap? 1466015503701 s28 [x33]).bind fun x34=>(EC a1 x1 z8 K6 k s23 s24 (w64 (s25+1)) (w64 (s26+x30)) s27 x34)))))))) else (K6 s23 s24 s27 s28))
def Kz (a0:(List Int)) (a1:(List Itm)) : Option (Arr×Int):=((EZ a0).bind fun x1=>(if x1.2=0 then (Option.bind ((if ((List.length a1:Nat) : Int)=0 then (some true) else ((BB a1 (⟨.fn 180 [] [],fun x=>IK x⟩ : Dt)).bind fun x3=>(some x3))) : Option (Bool)) fun (z2:Bool)=>(if z2=true then (some ((Arr.mk [] []),22)) else ((IS a0).bind fun x4=>(jn (fun (z5:(List Itm))=>(jn (fun (z8:(List Int))=>(jn (fun (z19:Arr) (z20:Int) (z21:(List Int)) (z22:(List Itm))=>((Di (Arr.mk z21 z22)).bind fun x35=>(if x35=true then (some ((Arr.mk z21 z22),0)) else (some ((Arr.mk [] []),8))))) fun K6=>(EC a1 x1 z8 K6 Cm (Arr.mk [] []) 0 0 0 x4 z5))) fun K1=>(EI a1 K1 Cm [] 0))) fun K0=>(if x1.1=0 then ((rd? a1 0).bind fun x6=>((Sj x6).bind fun x7=>(K0 ([x7])))) else (K0 [])))))) else (some ((Arr.mk [] []),x1.2))))
set_option maxHeartbeats 4000000 in
theorem OQ {a0:(List Int)} {a1:(List Itm)} {r:Arr×Int} (h:Kz a0 a1=some r) :
  Fn Tryz.prog 99 [.sl (Is a0),.sl (Its a1)] (.tup [.d (.ag [.sl (Is r.1.shape),.sl (Its r.1.items)]),.d (.i .i64 r.2)]):=by
 unfold Kz at h
 refine Fn.ofC (rs:=[.cell 4 25,.tmp 5]) (nt:=105) Tryz.func99 rfl rfl rfl (by simp) rfl ?_;refine .sr ?_;refine vk (van (Ai BC) BY) ?_;refine ar [0,1,4,5] ?_;refine .sr ?_;refine vk (Aa) ?_
 obtain ⟨x1,g1,h⟩:=bnd h
 refine vk (VOK.tupd (vs:=[.i .i64 x1.1,.i .i64 x1.2]) (Ae (EE g1) Tryz.call98)) ?_;refine vk (Aa) ?_;refine vk (vex) ?_;refine vk (vex) ?_;refine asd ?_;refine ar [0,1,4,5,6,7] ?_;refine .seq ?_;refine .block ?_;refine .sr ?_;refine vk (Aa) ?_;refine vk (vbi) ?_;refine ar [0,1,4,5,6,7,22] ?_
 rcases brc h with ⟨hc,h⟩|⟨hc,h⟩
 ·refine cnf (ntf (dT hc)) ?_
  refine .seq ?_
  obtain ⟨z2,hz,h⟩:=bnd h
  refine AW.mr (σ:=Unit) (fun _=>True) (fun _=>[(0,.d (.sl (Is a0))),(1,.d (.sl (Its a1))),(4,.nb [.sl (Is []),.sl (Its [])]),(5,.d (.i .i64 0)),(6,.d (.i .i64 x1.1)),(27,.d (.b z2))]) (fun _=>[]) ?_ ?_
  ·skip
   refine .region ?_;refine vk (Aa) ?_;refine vk (A7 (Bi _) (EY _) ET) ?_;refine vk (vbi) ?_
   rcases brc hz with ⟨hc,hz⟩|⟨hc,hz⟩
   ·have hb0:(decide (((List.length a1:Nat):Int)=0))=true:=(dT hc)
    refine vk (VOK.lit (Aa) hb0) ?_;refine gf ?_;refine gf ?_;refine vk (Ah) ?_;refine asd ?_;refine RL.gk [0,1,4,5,6,27] ?_;refine .nil ?_
    cases hz
    exact jr () trivial
   have hb0:(decide (((List.length a1:Nat):Int)=0))=false:=(dF hc)
   refine vk (VOK.lit (Aa) hb0) ?_;refine vk (Aa) ?_
   obtain ⟨x3,g3,hz⟩:=bnd hz
   refine vk (Ae (DF (Cr Tryz.call180 (fun _ _ h=>M5 h)) g3) Tryz.call179) ?_;refine vk (Ah) ?_;refine asd ?_;refine RL.gk [0,1,4,5,6,27] ?_;refine .nil ?_
   cases hz
   exact jr () trivial
  rintro _ _
  rcases brc h with ⟨hc,h⟩|⟨hc,h⟩
  ·refine cnt hc ?_
   refine .sr ?_;refine vk (vbd FC BC BY) ?_
   refine stn ?_ Ap (by decide)
   refine ar [0,1,4,5,6] ?_;refine .ret ?_
   cases h
   exact ⟨_,_,⟨.inr rfl,AP,Ap,p2⟩,rfl,rfl⟩
  refine cnf (bf hc) ?_;refine .skip ?_
  show AW _ _ _ _ _ _
  refine .sr ?_;refine vk (Aa) ?_
  obtain ⟨x4,g4,h⟩:=bnd h
  refine vk ((Ae (Km g4) Tryz.call182).deep) ?_;refine vk (Yq FC BC (fun w I μ=>P8 w I μ)) ?_;refine vk (van (Ai BC) BY) ?_
  refine Ys ?_ Ap (by decide)
  refine rk [1,4,5,6,8] ?_;refine .seq ?_;refine .sr ?_;refine vk (Aa) ?_;refine vk (vbi) ?_;refine rk [1,4,5,6,8,40] ?_
  obtain ⟨K0,hK0,h⟩:=Du h
  refine AW.mr (σ:=(List Itm)) (fun p=>K0 p=some r) (fun p=>[(1,.d (.sl (Its a1))),(4,.nb [.sl (Is []),.sl (Its [])]),(5,.d (.i .i64 0)),(6,.d (.i .i64 x1.1)),(8,.bp 0 0)]) (fun p=>[HO.box [.d (.sl (Is x4)),.own 83 (Its p)]]) ?_ ?_
  ·skip
   rcases brc h with ⟨hc,h⟩|⟨hc,h⟩
   ·refine cnt (dT hc) ?_
    refine .region ?_;refine vk (Aa) ?_
    obtain ⟨x6,g6,h⟩:=bnd h
    obtain ⟨n6,p06,q6⟩:=BA g6
    refine vk (vix n6 p06 (Gl q6) rfl Fw) ?_;refine vk (Aj Bl AI) ?_
    obtain ⟨x7,g7,h⟩:=bnd h
    refine vk (Ae (RF g7) Tryz.call183) ?_;refine vk (Ih (Hy x7) (F9 [x7]) Gt) ?_;refine vk (Fo BG) ?_
    refine Qo (cs:=[.d (.sl (Is x4)),.nl]) (c:=.nl) rfl rfl ?_ Oz
    refine RL.gk [1,4,5,6,8] ?_;refine .nil ?_
    exact jr ([x7]) h
   refine cnf (dF hc) ?_;refine .gh (Gh.nlOwnC (id:=0) (off:=1) 83 (by rw [S9];decide)) ?_;refine .gk [1,4,5,6,8] ?_;refine .skip ?_
   exact jr ([]) h
  rintro z5 h
  try dsimp only at h ⊢
  subst hK0
  show AW _ _ _ _ _ _
  refine .sr ?_;refine asn ?_;refine rk [1,4,5,6,8,9] ?_;refine .seq ?_;refine .sr ?_;refine vk (Aa) ?_;refine vk (A7 (Bi _) (EY _) ET) ?_;refine vk (Aa) ?_;refine rk [1,4,5,6,8,9,47,48,49] ?_
  obtain ⟨K1,hK1,h⟩:=Du h
  refine AW.mr (σ:=(List Int)) (fun p=>K1 p=some r) (fun p=>[(1,.d (.sl (Its a1))),(4,.nb [.sl (Is []),.sl (Its [])]),(5,.d (.i .i64 0)),(6,.d (.i .i64 x1.1)),(8,.bp 0 0),(9,.own 3 (Is p))]) (fun p=>[HO.box [.d (.sl (Is x4)),.own 83 (Its z5)]]) ?_ ?_
  ·skip
   refine .block ?_;refine .gh (Gh.nlOwn (t:=9) 3 (by rw [Mj];decide) rfl) ?_
   refine .loop (.gk [1,4,5,6,8,9,47,48,49] ?_)
   refine AL.ind (σ:=Nat×(List Int)×Int) (m:=fun p=>p.1) (e:=fun p=>[(1,.d (.sl (Its a1))),(4,.nb [.sl (Is []),.sl (Its [])]),(5,.d (.i .i64 0)),(6,.d (.i .i64 x1.1)),(8,.bp 0 0),(9,.own 3 (Is p.2.1)),(47,.d (.sl (Its a1))),(48,.d (.i .i64 ((List.length a1:Nat):Int))),(49,.d (.i .i64 p.2.2))]) (h:=fun p=>[HO.box [.d (.sl (Is x4)),.own 83 (Its z5)]]) (I:=fun p=>EI a1 K1 p.1 p.2.1 p.2.2=some r) ?_ (Cm,[],0) h
   rintro ⟨k,s9,s10⟩ h ih
   dsimp only at h ih ⊢
   rcases k with _|k
   ·rw [EI] at h;cases h
   rw [EI] at h
   refine .sr ?_;refine vk (vbi) ?_;refine rk [1,4,5,6,8,9,47,48,49,50] ?_;refine .seq ?_
   rcases brc h with ⟨hc,h⟩|⟨hc,h⟩
   ·refine cnt (dT hc) ?_
    refine .skip ?_
    show AW _ _ _ _ _ _
    obtain ⟨K3,hK3,h⟩:=Du h
    refine AW.mj (σ:=(List Int)) (fun p=>K3 p=some r) (fun p=>[(1,.d (.sl (Its a1))),(4,.nb [.sl (Is []),.sl (Its [])]),(5,.d (.i .i64 0)),(6,.d (.i .i64 x1.1)),(8,.bp 0 0),(9,.own 3 (Is p)),(47,.d (.sl (Its a1))),(48,.d (.i .i64 ((List.length a1:Nat):Int))),(49,.d (.i .i64 s10))]) (fun p=>[HO.box [.d (.sl (Is x4)),.own 83 (Its z5)]]) ?_ ?_
    ·skip
     refine .block ?_;refine .sr ?_
     obtain ⟨x12,g12,h⟩:=bnd h
     obtain ⟨n12,p012,q12⟩:=BA g12
     refine vk (vix n12 p012 (Gl q12) rfl Fw) ?_;refine vk (Aj Bl AI) ?_;refine vk (van (Ai CE) CK) ?_
     refine stn ?_ AI (by decide)
     refine rk [1,4,5,6,8,9,11,47,48,49] ?_;refine .sr ?_;refine ar [1,4,5,6,8,9,11,12,47,48,49] ?_;refine .seq ?_;refine .seq ?_;refine .gh (Gh.nbp (t:=11) rfl) ?_;refine .region ?_;refine vk (vfa C7) ?_;refine vk (Ak Gu) ?_;refine vk (A7 (Dv _) (Jr _) JI) ?_;refine vk (Aa) ?_;refine rk [1,4,5,6,8,9,12,47,48,49,54,55,56] ?_
     obtain ⟨K4,hK4,h⟩:=Du h
     refine AW.mr (σ:=Int) (fun p=>K4 p=some r) (fun p=>[(1,.d (.sl (Its a1))),(4,.nb [.sl (Is []),.sl (Its [])]),(5,.d (.i .i64 0)),(6,.d (.i .i64 x1.1)),(8,.bp 0 0),(9,.own 3 (Is s9)),(12,.d (.i .i64 p)),(47,.d (.sl (Its a1))),(48,.d (.i .i64 ((List.length a1:Nat):Int))),(49,.d (.i .i64 s10))]) (fun p=>[HO.box [.d (.sl (Is x4)),.own 83 (Its z5)]]) ?_ ?_
     ·skip
      refine .block ?_
      refine .loop (.gk [1,4,5,6,8,9,12,47,48,49,54,55,56] ?_)
      refine AL.ind (σ:=Nat×Int×Int) (m:=fun p=>p.1) (e:=fun p=>[(1,.d (.sl (Its a1))),(4,.nb [.sl (Is []),.sl (Its [])]),(5,.d (.i .i64 0)),(6,.d (.i .i64 x1.1)),(8,.bp 0 0),(9,.own 3 (Is s9)),(12,.d (.i .i64 p.2.1)),(47,.d (.sl (Its a1))),(48,.d (.i .i64 ((List.length a1:Nat):Int))),(49,.d (.i .i64 s10)),(54,.d (.sl (Ars x12.box))),(55,.d (.i .i64 ((List.length x12.box:Nat):Int))),(56,.d (.i .i64 p.2.2))]) (h:=fun p=>[HO.box [.d (.sl (Is x4)),.own 83 (Its z5)]]) (I:=fun p=>En x12 K4 p.1 p.2.1 p.2.2=some r) ?_ (Cm,1,0) h
      rintro ⟨k,s14,s15⟩ h ih
      dsimp only at h ih ⊢
      rcases k with _|k
      ·rw [En] at h;cases h
      rw [En] at h
      refine .sr ?_;refine vk (vbi) ?_;refine rk [1,4,5,6,8,9,12,47,48,49,54,55,56,57] ?_;refine .seq ?_
      rcases brc h with ⟨hc,h⟩|⟨hc,h⟩
      ·refine cnt (dT hc) ?_
       refine .skip ?_
       show AW _ _ _ _ _ _
       refine .seq ?_;refine .block ?_;refine .sr ?_
       obtain ⟨x16,g16,h⟩:=bnd h
       obtain ⟨n16,p016,q16⟩:=BA g16
       refine vk (vix n16 p016 (Jv q16) rfl Js) ?_;refine vk (Aj AP Ap) ?_;refine vk (van (Ai BC) BY) ?_
       refine stn ?_ Ap (by decide)
       refine rk [1,4,5,6,8,9,12,14,47,48,49,54,55,56] ?_;refine .region ?_;refine vk (Aa) ?_;refine vk (Eh AP Ap) ?_
       obtain ⟨x17,g17,h⟩:=bnd h
       refine vk (Ae (Ox g17) Tryz.call184) ?_;refine vk (vbi) ?_;refine asd ?_;refine .nil ?_
       show AW _ _ _ _ _ _
       refine .gk [1,4,5,6,8,9,12,47,48,49,54,55,56] ?_;refine .region ?_;refine vk (vbi) ?_;refine vk (Aa) ?_;refine .nil ?_;refine AL.gk [1,4,5,6,8,9,12,47,48,49,54,55,56] ?_
       exact ih (k,(w64 (s14+x17)),(w64 (s15+1))) h (Nat.lt_succ_self _)
      refine cnf (dF hc) ?_;refine .gk [1,4,5,6,8,9,12,47,48,49] ?_;refine .exit ?_
      exact jr (s14) h
     rintro z13 h
     try dsimp only at h ⊢
     subst hK4
     show AW _ _ _ _ _ _
     refine .region ?_;refine mvo ?_;refine vk (Aa) ?_;refine vk ((Fr (IB [z13]) LI).deep) ?_
     obtain ⟨x18,g18,h⟩:=bnd h
     refine Aab Wq g18 YU ?_ SD BZ LI
     refine aso ?_;refine RL.gk [1,4,5,6,8,9,47,48,49] ?_;refine .nil ?_
     exact jr (x18) h
    rintro z11 h
    try dsimp only at h ⊢
    subst hK3
    refine .region ?_;refine vk (vbi) ?_;refine vk (Aa) ?_;refine .nil ?_;refine AL.gk [1,4,5,6,8,9,47,48,49] ?_
    exact ih (k,z11,(w64 (s10+1))) h (Nat.lt_succ_self _)
   refine cnf (dF hc) ?_;refine .gk [1,4,5,6,8,9] ?_;refine .exit ?_
   exact jr (s9) h
  rintro z8 h
  try dsimp only at h ⊢
  subst hK1
  show AW _ _ _ _ _ _
  refine .seq ?_;refine .sr ?_;refine asd ?_;refine ar [1,4,5,6,8,9,15,16] ?_
  obtain ⟨K6,hK6,h⟩:=Du h
  refine AW.mr (σ:=Arr×Int×(List Int)×(List Itm)) (fun p=>K6 p.1 p.2.1 p.2.2.1 p.2.2.2=some r) (fun p=>[(4,.nb [.sl (Is p.1.shape),.sl (Its p.1.items)]),(5,.d (.i .i64 p.2.1)),(8,.bp 0 0)]) (fun p=>[HO.box [.d (.sl (Is p.2.2.1)),.own 83 (Its p.2.2.2)]]) ?_ ?_
  ·skip
   refine .block ?_;refine .gh (Gh.frz (p:=.t 9) rfl (by (intro _ _ h;cases h<;>decide))) ?_
   refine .loop (.gk [1,4,5,6,8,9,15,16] ?_)
   refine AL.ind (σ:=Nat×Arr×Int×Int×Int×(List Int)×(List Itm)) (m:=fun p=>p.1) (e:=fun p=>[(1,.d (.sl (Its a1))),(4,.nb [.sl (Is p.2.1.shape),.sl (Its p.2.1.items)]),(5,.d (.i .i64 p.2.2.1)),(6,.d (.i .i64 x1.1)),(8,.bp 0 0),(9,.d (.sl (Is z8))),(15,.d (.i .i64 p.2.2.2.1)),(16,.d (.i .i64 p.2.2.2.2.1))]) (h:=fun p=>[HO.box [.d (.sl (Is p.2.2.2.2.2.1)),.own 83 (Its p.2.2.2.2.2.2)]]) (I:=fun p=>EC a1 x1 z8 K6 p.1 p.2.1 p.2.2.1 p.2.2.2.1 p.2.2.2.2.1 p.2.2.2.2.2.1 p.2.2.2.2.2.2=some r) ?_ (Cm,(Arr.mk [] []),0,0,0,x4,z5) h
   rintro ⟨k,s23,s24,s25,s26,s27,s28⟩ h ih
   dsimp only at h ih ⊢
   rcases k with _|k
   ·rw [EC] at h;cases h
   rw [EC] at h
   refine .seq ?_;refine .sr ?_;refine vk (Aa) ?_;refine vk (Aa) ?_;refine vk (vbi) ?_;refine rk [1,4,5,6,8,9,15,16,72] ?_
   rcases brc h with ⟨hc,h⟩|⟨hc,h⟩
   ·refine cnt (dT hc) ?_
    refine .skip ?_
    show AW _ _ _ _ _ _
    refine .seq ?_;refine .block ?_;refine .seq ?_;refine .sr ?_;refine vk (Aa) ?_;refine vk (Aa) ?_;refine vk (Aa) ?_;refine vk (Aa) ?_;refine vk (A7 (Bi _) (EY _) ET) ?_
    obtain ⟨x29,g29,h⟩:=bnd h
    refine vk (SW (Mk g29)) ?_
    obtain ⟨x30,g30,h⟩:=bnd h
    obtain ⟨n30,p030,q30⟩:=BA g30
    refine vk (vix n30 p030 (NE q30) rfl JB) ?_;refine vk (Ak Dl) ?_;refine vk (vbi) ?_;refine ar [1,4,5,6,8,9,15,16] ?_;refine .sr ?_;refine vk (Aa) ?_;refine vk (vbi) ?_;refine rk [1,4,5,6,8,9,15,16,85] ?_
    rcases brc h with ⟨hc,h⟩|⟨hc,h⟩
    ·refine cnt (dT hc) ?_
     refine .sr ?_;refine vk (vbd FC BC BY) ?_
     refine stn ?_ Ap (by decide)
     refine ar [1,4,5,6,8,9,15,16] ?_;refine .ret ?_
     cases h
     exact ⟨_,_,⟨.inr rfl,AP,Ap,p2⟩,rfl,rfl⟩
    refine cnf (dF hc) ?_;refine .skip ?_
    show AW _ _ _ _ _ _
    refine .drawn 11 A4 (by kernel_rfl) ?_;refine dv (Fo BG) ?_;refine dv (Wb (cs:=[.d (.sl (Is s27)),.own 83 (Its s28)]) rfl rfl Ek) ?_;refine dv (Aa) ?_;refine dv (Aa) ?_;refine dv (Aa) ?_;refine dv (A7 (Bi _) (EY _) ET) ?_
    obtain ⟨x31,g31,h⟩:=bnd h
    refine dv (SW (Mk g31)) ?_
    obtain ⟨x32,g32,h⟩:=bnd h
    obtain ⟨n32,p032,q32⟩:=BA g32
    refine dv (vix n32 p032 (Gl q32) rfl Fw) ?_;refine dv (Aj Bl AI) ?_
    obtain ⟨x33,g33,h⟩:=bnd h
    refine dv (Ae (Ha g33) Tryz.call173) ?_;refine dv ((Ih (Hy x33) (F9 [x33]) Gt).deep) ?_;refine dz ?_
    obtain ⟨x34,g34,h⟩:=bnd h
    refine XI Nh g34 rfl rfl Qb ?_ Lk Bi Gt
    refine RL.gk [1,4,5,6,8,9,15,16,85,87,89,90,91,92,93,94,95,96,97,98] ?_;refine vk (Fo BG) ?_
    refine Qo (cs:=[.d (.sl (Is s27)),.un]) (c:=.un) rfl rfl ?_ Oz
    refine .nil ?_
    show AW _ _ _ _ _ _
    refine .gk [1,4,5,6,8,9,15,16] ?_;refine .region ?_;refine vk (Aa) ?_;refine vk (vbi) ?_;refine asd ?_;refine .nil ?_;refine AL.gk [1,4,5,6,8,9,15,16] ?_
    exact ih (k,s23,s24,(w64 (s25+1)),(w64 (s26+x30)),s27,x34) h (Nat.lt_succ_self _)
   refine cnf (dF hc) ?_;refine .gk [4,5,8] ?_;refine .exit ?_
   exact jr (s23,s24,s27,s28) h
  rintro ⟨z19,z20,z21,z22⟩ h
  try dsimp only at h ⊢
  subst hK6
  show AW _ _ _ _ _ _
  refine .seq ?_;refine .sr ?_;refine fz (p:=.c 0 1) ?_;refine vk (JC (cs:=[.d (.sl (Is z21)),.d (.sl (Its z22))]) (ds:=[.sl (Is z21),.sl (Its z22)]) rfl AP Ap) ?_
  obtain ⟨x35,g35,h⟩:=bnd h
  refine vk (Ae (CZ g35) Tryz.call13) ?_;refine vk (vnt) ?_;refine rk [4,5,8,102] ?_
  rcases brc h with ⟨hc,h⟩|⟨hc,h⟩
  ·refine cnf (ntf hc) ?_
   refine .skip ?_
   show AW _ _ _ _ _ _
   refine .sr ?_;refine vk (JC (cs:=[.d (.sl (Is z21)),.d (.sl (Its z22))]) (ds:=[.sl (Is z21),.sl (Its z22)]) rfl AP Ap) ?_
   refine stn ?_ Ap (by decide)
   refine ar [4,5] ?_;refine .ret ?_
   cases h
   exact ⟨_,_,⟨.inr rfl,AP,Ap,p2⟩,rfl,rfl⟩
  refine cnt (ntt (bf hc)) ?_;refine .sr ?_;refine vk (vbd FC BC BY) ?_
  refine stn ?_ Ap (by decide)
  refine ar [4,5,8] ?_;refine .ret ?_
  cases h
  exact ⟨_,_,⟨.inr rfl,AP,Ap,p2⟩,rfl,rfl⟩
 refine cnt (ntt (dF hc)) ?_;refine .sr ?_;refine vk (vbd FC BC BY) ?_;refine vk (Aa) ?_
 refine stn ?_ Ap (by decide)
 refine ar [0,1,4,5,6] ?_;refine .ret ?_
 cases h
 exact ⟨_,_,⟨.inr rfl,AP,Ap,p2⟩,rfl,rfl⟩
def HG (a0:Arr) : Option (Itm):=((Di a0).bind fun x1=>(if x1=true then ((D4 a0).bind fun x2=>(if x2=true then ((rd? a0.items 0).bind fun x3=>((J5 x3).bind fun x4=>(some (x4)))) else ((Ea a0 (⟨.fn 173 [] [],fun x=>J5 x⟩ : Dj)).bind fun x5=>(some ((Itm.mk 3 (false,[],[]) 0 [x5])))))) else (some ((Itm.mk 0 (false,[],[]) 0 [])))))
theorem Mp {a0:Arr} {r:Itm} (h:HG a0=some r) :
  Fn Tryz.prog 95 [.ag [.sl (Is a0.shape),.sl (Its a0.items)]] (.d (.ag [.i .u8 r.kind,.b r.num.1,.sl (L r.num.2.1),.sl (L r.num.2.2),.i .i32 r.char,.sl (Ars r.box)])):=by
 unfold HG at h
 refine Fn.ofC (rs:=[.cell 2 83]) (nt:=20) Tryz.func95 rfl rfl rfl (by simp) rfl ?_;refine .sr ?_;refine vk (vbx) ?_;refine vk (van (Ai CE) CK) ?_;refine rk [1,2] ?_;refine .seq ?_;refine .block ?_;refine .sr ?_;refine vk (Aj AP Ap) ?_
 obtain ⟨x1,g1,h⟩:=bnd h
 refine vk (Ae (CZ g1) Tryz.call13) ?_;refine vk (vnt) ?_;refine ar [1,2,3] ?_
 rcases brc h with ⟨hc,h⟩|⟨hc,h⟩
 ·refine cnf (ntf hc) ?_
  refine .sr ?_;refine vk (Aj AP Ap) ?_
  obtain ⟨x2,g2,h⟩:=bnd h
  refine vk (Ae (Fe g2) Tryz.call172) ?_;refine ar [1,2,8] ?_
  rcases brc h with ⟨hc,h⟩|⟨hc,h⟩
  ·refine cnt hc ?_
   refine .sr ?_;refine vk (vfa BG) ?_;refine vk (Ak Ek) ?_
   obtain ⟨x3,g3,h⟩:=bnd h
   obtain ⟨n3,p03,q3⟩:=BA g3
   refine vk (vix n3 p03 (Gl q3) rfl Fw) ?_;refine vk (Aj Bl AI) ?_
   obtain ⟨x4,g4,h⟩:=bnd h
   refine vk (Ae (Ha g4) Tryz.call173) ?_
   refine stn ?_ AI (by decide)
   refine rk [1,2] ?_;refine .ret ?_
   cases h
   exact ⟨_,⟨.inr rfl,Bl,AI,p6⟩,rfl⟩
  refine cnf (bf hc) ?_;refine .skip ?_
  show AW _ _ _ _ _ _
  refine .sr ?_;refine vk (Aj AP Ap) ?_
  obtain ⟨x5,g5,h⟩:=bnd h
  refine vk (Ae (EP (Cr Tryz.call173 (fun _ _ h=>Ha h)) g5) Tryz.call174) ?_;refine vk ((Ih (Qj x5) (NJ [x5]) Qt).deep) ?_;refine vk (vbd Jb CE CK) ?_
  refine stn ?_ AI (by decide)
  refine rk [2] ?_;refine .ret ?_
  cases h
  exact ⟨_,⟨.inr rfl,Bl,AI,p6⟩,rfl⟩
 refine cnt (ntt (bf hc)) ?_;refine .sr ?_;refine vk (vbd Jb CE CK) ?_
 refine stn ?_ AI (by decide)
 refine rk [1,2] ?_;refine .ret ?_
 cases h
 exact ⟨_,⟨.inr rfl,Bl,AI,p6⟩,rfl⟩
def IN (a0:Itm) : Option (Arr):=((Hl a0).bind fun x1=>(if x1=true then (if a0.kind=3 then ((rd? a0.box 0).bind fun x2=>((Ea x2 (⟨.fn 173 [] [],fun x=>J5 x⟩ : Dj)).bind fun x3=>(some (x3)))) else ((J5 a0).bind fun x4=>((GF x4).bind fun x5=>(some (x5))))) else (some ((Arr.mk [] [])))))
theorem Ko {a0:Itm} {r:Arr} (h:IN a0=some r) :
  Fn Tryz.prog 194 [.ag [.i .u8 a0.kind,.b a0.num.1,.sl (L a0.num.2.1),.sl (L a0.num.2.2),.i .i32 a0.char,.sl (Ars a0.box)]] (.d (.ag [.sl (Is r.shape),.sl (Its r.items)])):=by
 unfold IN at h
 refine Fn.ofC (rs:=[.cell 2 25]) (nt:=20) Tryz.func194 rfl rfl rfl (by simp) rfl ?_;refine .sr ?_;refine vk (vbx) ?_;refine vk (van (Ai BC) BY) ?_;refine rk [1,2] ?_;refine .seq ?_;refine .block ?_;refine .sr ?_;refine vk (Aj Bl AI) ?_
 obtain ⟨x1,g1,h⟩:=bnd h
 refine vk (Ae (JP g1) Tryz.call181) ?_;refine vk (vnt) ?_;refine ar [1,2,3] ?_
 rcases brc h with ⟨hc,h⟩|⟨hc,h⟩
 ·refine cnf (ntf hc) ?_
  refine .sr ?_;refine vk (vfa C6) ?_;refine vk (Ak BN) ?_;refine vk (vbi) ?_;refine ar [1,2,8] ?_
  rcases brc h with ⟨hc,h⟩|⟨hc,h⟩
  ·refine cnt (dT hc) ?_
   refine .sr ?_;refine vk (vfa C7) ?_;refine vk (Ak Gu) ?_
   obtain ⟨x2,g2,h⟩:=bnd h
   obtain ⟨n2,p02,q2⟩:=BA g2
   refine vk (vix n2 p02 (Jv q2) rfl Js) ?_;refine vk (Aj AP Ap) ?_
   obtain ⟨x3,g3,h⟩:=bnd h
   refine vk (Ae (EP (Cr Tryz.call173 (fun _ _ h=>Ha h)) g3) Tryz.call174) ?_
   refine stn ?_ Ap (by decide)
   refine rk [1,2] ?_;refine .ret ?_
   cases h
   exact ⟨_,⟨.inr rfl,AP,Ap,p2⟩,rfl⟩
  refine cnf (dF hc) ?_;refine .skip ?_
  show AW _ _ _ _ _ _
  refine .sr ?_;refine vk (Aj Bl AI) ?_
  obtain ⟨x4,g4,h⟩:=bnd h
  refine vk (Ae (Ha g4) Tryz.call173) ?_
  obtain ⟨x5,g5,h⟩:=bnd h
  refine vk (Ae (I5 g5) Tryz.call70) ?_
  refine stn ?_ Ap (by decide)
  refine rk [2] ?_;refine .ret ?_
  cases h
  exact ⟨_,⟨.inr rfl,AP,Ap,p2⟩,rfl⟩
 refine cnt (ntt (bf hc)) ?_;refine .sr ?_;refine vk (vbd FC BC BY) ?_
 refine stn ?_ Ap (by decide)
 refine rk [1,2] ?_;refine .ret ?_
 cases h
 exact ⟨_,⟨.inr rfl,AP,Ap,p2⟩,rfl⟩
def chB (c:Int) : Bool:=decide (0≤c)&&(decide (c≤1114111)&&(decide (c<55296)||decide (57343<c)))
def TD (a:Arr) : Bool:=a.shape.isEmpty&&match a.items with
 | [x]=>decide (x.kind≠3)
 | _=>false
mutual
def rI : Itm→Bool
 | .mk k n c b=>if k=1 then (AM n&&(decide (c=0)&&decide (b.length=0))) else if k=2 then (chB c&&(NU (.mk k n c b)&&decide (b.length=0))) else if k=3 then (decide (b.length=1)&&(NU (.mk k n c b)&&(decide (c=0)&&rBs b))) else false
def rA : Arr→Bool
 | .mk s i=>decide ((szP s).2=0)&&(decide ((i.length:Int)=if (szP s).1<1 then 1 else (szP s).1)&&rIs i)
def rIs : List Itm→Bool
 | []=>true
 | x::xs=>rI x&&rIs xs
def rBs : List Arr→Bool
 | []=>true
 | a::r=>(!TD a&&rA a)&&rBs r
end
mutual
def cI : Itm→Nat
 | .mk _ _ _ b=>cBs b
def cA : Arr→Nat
 | .mk _ i=>i.length+cIs i
def cIs : List Itm→Nat
 | []=>0
 | x::xs=>cI x+cIs xs
def cBs : List Arr→Nat
 | []=>0
 | a::r=>cA a+cBs r
end
mutual
def dI : Itm→Nat
 | .mk _ _ _ b=>dBs b
def dA : Arr→Nat
 | .mk s i=>if TD (.mk s i) then 0 else 1+dIs i
def dIs : List Itm→Nat
 | []=>0
 | x::xs=>max (dI x) (dIs xs)
def dBs : List Arr→Nat
 | []=>0
 | a::r=>max (dA a) (dBs r)
end
def up (d deep n:Nat) : Nat:=if n=0 then d else max d (deep+n)
def Wk (a:Arr) : Prop:=rA a=true∧dA a≤16∧cA a≤16384
def Xd (x:Itm) : Prop:=rI x=true∧dI x≤16∧cI x≤16384
instance (a:Arr) : Decidable (Wk a):=by unfold Wk;infer_instance
instance (x:Itm) : Decidable (Xd x):=by unfold Xd;infer_instance
theorem QV {a:List Nat} (h:a.length≤35184372087808) : FR a=some a:=if_pos h
theorem NS {p:Rat} (hp:AB p) (b:Bool) : EW (ofQ p) b=some ((b&&decide (p≠0),Ac p.num.natAbs,Ac p.den),0):=by
 unfold EW
 rw [Bw (Au hp),Ba hp]
 have h1:FR (ofQ p).2.1=some (Ac p.num.natAbs):=QV (nT hp.1 (by decide))
 have h2:FR (ofQ p).2.2=some (Ac p.den):=QV (nT hp.2 (by decide))
 have h3:decide (0<((List.length (ofQ p).2.1:Nat):Int))=decide (p≠0):=decide_eq_decide.2 ID
 cases b with
 | true=>rw [oB,if_pos rfl,if_pos rfl,h1,h2,h3];rfl
 | false=>rw [oB,if_pos rfl,if_neg (by simp),h1,h2];rfl
theorem K8 {p:Rat} : (!decide (p.num<0)&&decide (p≠0))=decide ((-p).num<0):=by
 have h:p≠0↔p.num≠0:=not_congr Rat.num_eq_zero.symm
 have h':decide (p≠0)=decide (p.num≠0):=decide_eq_decide.2 h
 rw [Rat.neg_num,h']
 by_cases h1:p.num<0
 ·rw [dT h1,dF (show ¬-p.num<0 by omega)];rfl
 ·rw [dF h1,Bool.not_false,Bool.true_and];exact decide_eq_decide.2 (show p.num≠0↔-p.num<0 by omega)
theorem TA (p:Rat) : ofQ (-p)=(decide ((-p).num<0),Ac p.num.natAbs,Ac p.den):=by
 simp only [ofQ,Rat.neg_num,Rat.neg_den,Int.natAbs_neg]
theorem Jd {p:Rat} (h:AB p) : AB (-p):=by
 simp only [AB,Rat.neg_num,Rat.neg_den,Int.natAbs_neg] at h ⊢;exact h
theorem Aaf {p:Rat} (hp:AB p) : LH (ofQ p)=some (ofQ (-p),0):=by
 unfold LH
 refine Az (NS hp _) ?_
 rw [TA,← K8];rfl
theorem Aam {p:Rat} (hp:AB p) : Lv (ofQ p)=some ((false,Ac p.num.natAbs,Ac p.den),0):=by
 unfold Lv
 exact Az (NS hp _) rfl
theorem Qx {m n:Nat} (h:n≠0) : I8 m n=m % n:=if_neg h
theorem WR {p:Rat} (hp:AB p) : HA (ofQ p).2.1 (ofQ p).2.2=some (Ac (p.num.natAbs / p.den),Ac (p.num.natAbs % p.den),true):=by
 have:HA (Ac p.num.natAbs) (Ac p.den)=some (Ac (val (Ac p.num.natAbs) / val (Ac p.den)),Ac (I8 (val (Ac p.num.natAbs)) (val (Ac p.den))),decide (val (Ac p.den)≠0)):=if_pos (by
  rw [Bool.and_eq_true];exact ⟨Jc hp.1 (by decide),Jc hp.2 (by decide)⟩)
 show HA (Ac p.num.natAbs) (Ac p.den)=_
 rw [this,Ag,Ag,Qx p.den_nz,dT p.den_nz]
theorem Fl {n:Nat} : (0:Int)<((List.length (Ac n) : Nat) : Int)↔n≠0:=by
 constructor
 ·rintro h rfl;rw [Ar] at h;simp at h
 ·intro h
  have:Ac n≠[]:=fun h2=>h (CS.1 h2)
  have:=List.length_pos_iff.2 this
  omega
theorem Ng {n:Nat} (h:(Ac n).length≤100000) : S4 [Ac n,[1]]=some (Ac (n+1)):=by
 have:S4 [Ac n,[1]]=some (Ac (([Ac n,[1]].map val).sum)):=if_pos (by
  simp only [List.all_cons,List.all_nil,AE h,Bool.and_true,Bool.true_and];rfl)
 rw [this];simp [Ag,val]
theorem TU {p:Rat} (hp:AB p) (a:Bool) : GK (ofQ p) a=some (Fd ((sg (decide (p.num<0)) (p.num.natAbs / p.den+if (a&&decide (p.num.natAbs % p.den≠0))=true then 1 else 0) : Int) : Rat)):=by
 unfold GK
 have hl:(Ac (p.num.natAbs / p.den)).length≤32:=nT (Cc (Nat.div_le_self _ _)) hp.1
 refine Az (Bw (Au hp)) ?_
 rw [Ba hp,if_pos rfl]
 refine Az (WR hp) ?_
 have hc:(a&&decide ((0:Int)<((List.length (Ac (p.num.natAbs % p.den)):Nat):Int)))=(a&&decide (p.num.natAbs % p.den≠0)):=by rw [decide_eq_decide.2 Fl]
 have low:∀ n,(Ac n).length≤100→Fb ((Ac n,[1]),(ofQ p).1)=some (Fd ((sg (decide (p.num<0)) n:Int):Rat)):=fun n hn=>by
  have:=WN (x:=(decide (p.num<0),n,1)) ⟨by show (Ac n).length≤_;omega,by show (Ac 1).length≤_;rw [Bb];decide⟩ (show (1:Nat)≠0 by decide)
  simp only [qN,Bb] at this
  rw [show (ofQ p).1=decide (p.num<0) from rfl,this]
  show some (Fd (mkRat _ 1))=_
  rw [show mkRat (sg (decide (p.num<0)) n) 1=((sg (decide (p.num<0)) n:Int):Rat) by
   refine Rat.ext ?_ ?_
   ·rw [Rat.num_mkRat];simp
   ·rw [Rat.den_mkRat];simp]
 simp only [hc]
 by_cases h:(a&&decide (p.num.natAbs % p.den≠0))=true
 ·rw [if_pos h,if_pos h]
  refine Az C5 (Az (Ng (by omega)) (Az C5 (Az (low _ ?_) rfl)))
  exact nT (KW (k:=32) hl (by rw [Bb];decide)) (by decide)
 ·rw [if_neg h,if_neg h]
  exact Az C5 (Az (low _ (by omega)) rfl)
theorem Mr (p:Rat) : p.floor=sg (decide (p.num<0)) (p.num.natAbs / p.den+if (decide (p.num<0)&&decide (p.num.natAbs % p.den≠0))=true then 1 else 0):=by
 rw [Rat.floor_def]
 have hd:(p.den:Int) > 0:=by have:=p.den_nz;omega
 have e1:=Int.mul_ediv_add_emod p.num p.den
 have e2:=Int.emod_nonneg p.num (show (p.den:Int)≠0 by omega)
 have e3:=Int.emod_lt_of_pos p.num hd
 have f1:=Nat.div_add_mod p.num.natAbs p.den
 have f2:=Nat.mod_lt p.num.natAbs (show p.den > 0 by omega)
 simp only [sg,decide_eq_true_eq,Bool.and_eq_true]
 have f1':(p.den:Int) * ((p.num.natAbs / p.den:Nat):Int)+((p.num.natAbs % p.den:Nat):Int)=(p.num.natAbs:Int):=by exact_mod_cast f1
 generalize p.num.natAbs / p.den=a at *
 generalize p.num.natAbs % p.den=b at *
 by_cases h:p.num<0
 ·rw [if_pos h]
  by_cases h2:b≠0
  ·rw [if_pos ⟨h,h2⟩,Int.ediv_eq_iff_of_pos hd]
   have e:-((a+1:Nat):Int) * p.den=- (p.den * (a:Int))-p.den:=by grind
   rw [e];omega
  ·rw [if_neg (fun h3=>h2 h3.2),Int.ediv_eq_iff_of_pos hd]
   have e:-((a+0:Nat):Int) * p.den=- (p.den * (a:Int)):=by grind
   rw [e];omega
 ·rw [if_neg h,if_neg (fun h2=>h h2.1),Int.ediv_eq_iff_of_pos hd]
  have e:((a+0:Nat):Int) * p.den=(p.den * (a:Int)):=by grind
  rw [e];omega
theorem Xt (p:Rat) : p.ceil=sg (decide (p.num<0)) (p.num.natAbs / p.den+if (!decide (p.num<0)&&decide (p.num.natAbs % p.den≠0))=true then 1 else 0):=by
 rw [Rat.ceil_eq_neg_floor_neg,Mr]
 rw [Rat.neg_num,Rat.neg_den,Int.natAbs_neg]
 simp only [sg,decide_eq_true_eq,Bool.and_eq_true,Bool.not_eq_true',decide_eq_false_iff_not]
 have f2:p.num=0→p.num.natAbs / p.den=0:=fun h=>by rw [h];simp
 have f3:p.num=0→p.num.natAbs % p.den=0:=fun h=>by rw [h];simp
 generalize p.num.natAbs % p.den=b at *
 generalize p.num.natAbs / p.den=a at *
 by_cases h1:p.num<0
 ·rw [if_neg (show ¬-p.num<0 by omega),if_pos h1,if_neg (fun h=>absurd h.1 (by omega)),if_neg (fun h=>h.1 h1)]
 ·rw [if_neg h1]
  by_cases h2:p.num=0
  ·have:=f2 h2;have:=f3 h2
   subst b;subst a
   simp [h2]
  ·rw [if_pos (show -p.num<0 by omega)]
   by_cases h3:b≠0
   ·rw [if_pos ⟨by omega,h3⟩,if_pos ⟨h1,h3⟩];omega
   ·rw [if_neg (fun h=>h3 h.2),if_neg (fun h=>h3 h.2)];omega
theorem TL {p:Rat} : (ofQ p).2.1=[]↔p=0:=by
 rw [← C4,← List.length_eq_zero_iff];omega
theorem TE {p:Rat} (hp:AB p) : GL (ofQ p)=some (Fd (p.floor:Rat)):=by
 unfold GL
 rw [show (ofQ p).1=decide (p.num<0) from rfl,TU hp,← Mr];rfl
theorem Z0 {p:Rat} (hp:AB p) : JO (ofQ p)=some (Fd (p.ceil:Rat)):=by
 unfold JO
 rw [show (ofQ p).1=decide (p.num<0) from rfl,TU hp,← Xt];rfl
def CV (p q:Rat) : Int:=if p<q then -1 else if p=q then 0 else 1
theorem Ue {p:Rat} : p.num<0↔p<0:=by
 rw [Rat.lt_iff];simp
theorem MA {p:Rat} (hp:AB p) : D5 (ofQ p)=some (CV p 0):=by
 unfold D5
 rw [Bw (Au hp),Ba hp,oB]
 unfold CV
 by_cases h:p=0
 ·subst h
  rw [if_pos (by simp [TL]),if_neg Rat.lt_irrefl,if_pos rfl]
 ·rw [if_neg (by simp [TL,h])]
  show (if decide (p.num<0)=true then some (-1) else some 1)=_
  by_cases h2:p<0
  ·rw [if_pos h2,if_pos (dT (Ue.2 h2))]
  ·rw [if_neg h2,if_neg (by simpa using fun h3=>h2 (Ue.1 h3)),if_neg h]
theorem Yt {a:RT} (ha:Dc a=true) (h:AM a=false) : DD a=some false:=by
 unfold DD;rw [Bw ha,h];rfl
theorem Px {a b:List Nat} (ha:okL 1048576 a=true) (hb:okL 35184372087808 b=true) : Ho a b=some (decide (a=b)):=if_pos (by rw [ha,hb];rfl)
theorem JW {p:Rat} (hp:AB p) : DD (ofQ p)=some (decide (p.den=1)):=by
 unfold DD
 rw [Bw (Au hp),Ba hp,oB,if_pos rfl,C5,oB]
 rw [show Ho (ofQ p).2.2 [1]=some (decide (Ac p.den=[1])) from Px (Jc hp.2 (by decide)) (by rfl),oB,oB]
 congr 1
 exact decide_eq_decide.2 KZ
theorem J0 {x y:Q3} (hx:sm 4000 x) (hy:sm 4000 y) : BS (qN x).1 (qN y).1=some (Ac (x.2.1 * y.2.2)):=by
 have:BS (qN x).1 (qN y).1=some (Ac (val (Ac x.2.1) * val (Ac y.2.2))):=if_pos (by
  rw [Bool.and_eq_true];exact ⟨AE hx.1,AE hy.2⟩)
 rw [this,Ag,Ag]
theorem E6 {m n:Nat} (hm:(Ac m).length≤1048576) (hn:(Ac n).length≤1048576) : CN (Ac m) (Ac n)=some (Cf m n):=by
 have:CN (Ac m) (Ac n)=some (Cf (val (Ac m)) (val (Ac n))):=if_pos (by
  rw [Bool.and_eq_true];exact ⟨AE (by omega),AE (by omega)⟩)
 rw [this,Ag,Ag]
theorem Ia {x y:Q3} {k:Nat} (hx:sm k x) (hy:sm k y) : (Ac (x.2.1 * y.2.2)).length≤2 * k:=by
 have l1:=EL (An x.2.1) (An y.2.2) hx.1 hy.2
 rwa [Ag,Ag] at l1
theorem Oe {p q:Rat} : CV p q=if p.num * q.den<q.num * p.den then -1 else if p.num * q.den=q.num * p.den then 0 else 1:=by
 unfold CV
 simp only [Rat.lt_iff,Rat.eq_iff_mul_eq_mul]
theorem G9 {p:Rat} : CV p 0=if p.num<0 then -1 else if p.num=0 then 0 else 1:=by
 rw [Oe];simp
theorem Vi {p q:Rat} (h:CV p 0=CV q 0) : CV p 0 * Cf (p.num.natAbs * q.den) (q.num.natAbs * p.den)=CV p q:=by
 rw [G9,G9] at h
 rw [G9,Oe]
 have hp:(0:Int)<p.den:=by have:=p.den_nz;omega
 have hq:(0:Int)<q.den:=by have:=q.den_nz;omega
 unfold Cf
 by_cases h1:p.num<0
 ·rw [if_pos h1] at h ⊢
  have h2:q.num<0:=by
   by_cases h2:q.num<0
   ·exact h2
   ·rw [if_neg h2] at h;split at h<;>cases h
  have e1:((p.num.natAbs * q.den:Nat):Int)=-(p.num * q.den):=by rw [Int.natCast_mul,show ((p.num.natAbs:Nat):Int)=-p.num by omega,Int.neg_mul]
  have e2:((q.num.natAbs * p.den:Nat):Int)=-(q.num * p.den):=by rw [Int.natCast_mul,show ((q.num.natAbs:Nat):Int)=-q.num by omega,Int.neg_mul]
  generalize p.num.natAbs * q.den=a at *
  generalize q.num.natAbs * p.den=b at *
  generalize p.num * q.den=c at *
  generalize q.num * p.den=d at *
  split<;>split<;>(try split)<;>(try split)<;>omega
 ·rw [if_neg h1] at h ⊢
  by_cases h0:p.num=0
  ·rw [if_pos h0] at h ⊢
   have h2:q.num=0:=by
    by_cases h2:q.num<0
    ·rw [if_pos h2] at h;cases h
    ·rw [if_neg h2] at h
     by_cases h3:q.num=0
     ·exact h3
     ·rw [if_neg h3] at h;cases h
   rw [h0,h2];simp
  ·rw [if_neg h0] at h ⊢
   have h2:0<q.num:=by
    by_cases h2:q.num<0
    ·rw [if_pos h2] at h;cases h
    ·rw [if_neg h2] at h
     by_cases h3:q.num=0
     ·rw [if_pos h3] at h;cases h
     ·omega
   have e1:((p.num.natAbs * q.den:Nat):Int)=p.num * q.den:=by rw [Int.natCast_mul,show ((p.num.natAbs:Nat):Int)=p.num by omega]
   have e2:((q.num.natAbs * p.den:Nat):Int)=q.num * p.den:=by rw [Int.natCast_mul,show ((q.num.natAbs:Nat):Int)=q.num by omega]
   generalize p.num.natAbs * q.den=a at *
   generalize q.num.natAbs * p.den=b at *
   generalize p.num * q.den=c at *
   generalize q.num * p.den=d at *
   split<;>split<;>(try split)<;>(try split)<;>omega
theorem L6 (p q:Rat) : CV p q=-1∨CV p q=0∨CV p q=1:=by
 unfold CV;split
 ·exact .inl rfl
 ·split
  ·exact .inr (.inl rfl)
  ·exact .inr (.inr rfl)
theorem Um {p q:Rat} (h:¬CV p 0=CV q 0) : CV p q=if CV p 0<CV q 0 then -1 else 1:=by
 rw [G9,G9] at h
 rw [G9,G9,Oe]
 have hp0:(0:Int)<p.den:=by have:=p.den_nz;omega
 have hq0:(0:Int)<q.den:=by have:=q.den_nz;omega
 have m1:p.num<0→p.num * q.den<0:=fun h=>Int.mul_neg_of_neg_of_pos h hq0
 have m2:0<p.num→0<p.num * q.den:=fun h=>Int.mul_pos h hq0
 have m3:p.num=0→p.num * q.den=0:=fun h=>by rw [h,Int.zero_mul]
 have k1:q.num<0→q.num * p.den<0:=fun h=>Int.mul_neg_of_neg_of_pos h hp0
 have k2:0<q.num→0<q.num * p.den:=fun h=>Int.mul_pos h hp0
 have k3:q.num=0→q.num * p.den=0:=fun h=>by rw [h,Int.zero_mul]
 generalize p.num * q.den=c at *
 generalize q.num * p.den=d at *
 by_cases a1:p.num<0
 ·rw [if_pos a1] at h ⊢
  by_cases a3:q.num<0
  ·rw [if_pos a3] at h;exact absurd rfl h
  ·rw [if_neg a3] at h ⊢
   have:(if q.num=0 then (0:Int) else 1) > -1:=by split<;>decide
   rw [if_pos this,if_pos]
   omega
 ·rw [if_neg a1] at h ⊢
  by_cases a2:p.num=0
  ·rw [if_pos a2] at h ⊢
   by_cases a3:q.num<0
   ·rw [if_pos a3,if_neg (show ¬c<d by omega),if_neg (show ¬c=d by omega),if_neg (by decide)]
   ·rw [if_neg a3] at h ⊢
    by_cases a4:q.num=0
    ·rw [if_pos a4] at h;exact absurd rfl h
    ·rw [if_neg a4,if_pos (show c<d by omega),if_pos (by decide)]
  ·rw [if_neg a2] at h ⊢
   by_cases a3:q.num<0
   ·rw [if_pos a3,if_neg (show ¬c<d by omega),if_neg (show ¬c=d by omega),if_neg (by decide)]
   ·rw [if_neg a3] at h ⊢
    by_cases a4:q.num=0
    ·rw [if_pos a4,if_neg (show ¬c<d by omega),if_neg (show ¬c=d by omega),if_neg (by decide)]
    ·rw [if_neg a4] at h;exact absurd rfl h
theorem PR {p q:Rat} (hp:AB p) (hq:AB q) : Dh (ofQ p) (ofQ q)=some (CV p q):=by
 unfold Dh
 refine Az (JS (Au hp) (Au hq)) ?_
 rw [CL hp hq,if_pos rfl]
 refine Az (MA hp) (Az (MA hq) ?_)
 have s1:=B4 (F5 hp) (show 32≤4000 by decide)
 have s2:=B4 (F5 hq) (show 32≤4000 by decide)
 by_cases h:CV p 0=CV q 0
 ·rw [if_neg (by simp [h]),if_pos h]
  refine Az (Fh p) (Az (Fh q) (Az (J0 s1 s2) (Az (Fh q) (Az (Fh p) (Az (J0 s2 s1) (Az (E6 ?_ ?_) ?_))))))
  ·exact nT (Ia (F5 hp) (F5 hq)) (by decide)
  ·exact nT (Ia (F5 hq) (F5 hp)) (by decide)
  ·rw [Vi h,Xs]<;>rcases L6 p q with h|h|h<;>rw [h]<;>decide
 ·rw [if_neg h,Um h]
  by_cases h2:CV p 0<CV q 0
  ·rw [if_pos (by simp [h,h2]),if_pos h2]
  ·rw [if_neg (by simp [h2]),if_neg h2]
def KR (op:Rat→Rat→Rat) : Rat→List Rat→RT×Int
 | s,[]=>(ofQ s,0)
 | s,p::ps=>if AB (op s p) then KR op (op s p) ps else bad 8
theorem Qz {op:Q3→Q3→Q3} {opR:Rat→Rat→Rat} (hop:∀ x y : Q3,x.2.2≠0→y.2.2≠0→Er (op x y)=opR (Er x) (Er y)∧(op x y).2.2≠0) : ∀ (l:List Rat) (s:Rat),
  KQ (Ls op (q3 s) (l.map ofQ))=KR opR s l
 | [],s=>rfl
 | p::l,s=>by
  rw [List.map_cons,Ls,KR,Aai]
  obtain ⟨h1,h2⟩:=hop (q3 s) (q3 p) (Gn s) (Gn p)
  rw [show UN (op (q3 s) (q3 p))=Tg (Er (op (q3 s) (q3 p))) from Nw h2,h1,ER,ER]
  by_cases h:AB (opR s p)
  ·rw [show Tg (opR s p)=.ok (q3 (opR s p)) from if_pos h,if_pos h]
   exact Qz hop l _
  ·rw [show Tg (opR s p)=.error 8 from if_neg h,if_neg h]
   rfl
theorem Pa {ps:List Rat} (h:∀ p∈ps,AB p) : (ps.map ofQ).all AM=true:=by
 rw [List.all_map,List.all_eq_true];intro p hp;exact Ba (h p hp)
theorem W6 {ps:List Rat} (h:∀ p∈ps,AB p) : (ps.map ofQ).all Dc=true:=by
 rw [List.all_map,List.all_eq_true];intro p hp;exact Au (h p hp)
theorem XH : q3 0=(false,0,1):=rfl
theorem Zk : q3 1=(false,1,1):=rfl
theorem YN {ps:List Rat} (h:∀ p∈ps,AB p) (hl:ps.length≤1048576) : My (ps.map ofQ)=some (KR (·+·) 0 ps):=by
 have:My (ps.map ofQ)=some (KQ (UD (ps.map ofQ))):=if_pos (by rw [W6 h,Bool.true_and];exact dT (by simpa using hl))
 rw [this,UD,if_pos (Pa h),← XH,Qz (opR:=(·+·)) fun x y=>LW]
theorem Aaj {ps:List Rat} (h:∀ p∈ps,AB p) (hl:ps.length≤1048576) : KE (ps.map ofQ)=some (KR (· * ·) 1 ps):=by
 have:KE (ps.map ofQ)=some (KQ (U7 (ps.map ofQ))):=if_pos (by rw [W6 h,Bool.true_and];exact dT (by simpa using hl))
 rw [this,U7,if_pos (Pa h),← Zk,Qz (opR:=(· * ·)) fun x y=>FJ]
theorem ZZ {p q:Rat} (hp:AB p) (hq:AB q) : My [ofQ p,ofQ q]=some (Fd (p+q)):=by
 have:=YN (ps:=[p,q]) (by simp [hp,hq]) (by simp)
 rw [show [p,q].map ofQ=[ofQ p,ofQ q] from rfl] at this
 rw [this]
 simp only [KR,Rat.zero_add,if_pos hp,Fd]
theorem VS {p q:Rat} (hp:AB p) (hq:AB q) : KE [ofQ p,ofQ q]=some (Fd (p * q)):=by
 have:=Aaj (ps:=[p,q]) (by simp [hp,hq]) (by simp)
 rw [show [p,q].map ofQ=[ofQ p,ofQ q] from rfl] at this
 rw [this]
 simp only [KR,Rat.one_mul,if_pos hp,Fd]
theorem B9 {m n:Nat} (hm:(Ac m).length≤400000) (hn:(Ac n).length≤400000) : BJ (Ac m) (Ac n)=some (Ac (m * n)):=by
 have:BJ (Ac m) (Ac n)=some (Ac (val (Ac m) * val (Ac n))):=if_pos (by rw [Bool.and_eq_true];exact ⟨AE hm,AE hn⟩)
 rw [this,Ag,Ag]
theorem Om {m n:Nat} (hm:(Ac m).length≤500000) (hn:(Ac n).length≤500000) : Ol (Ac m) (Ac n)=some (Ac (m+n)):=by
 have:Ol (Ac m) (Ac n)=some (Ac (val (Ac m)+val (Ac n))):=if_pos (by rw [Bool.and_eq_true];exact ⟨AE hm,AE hn⟩)
 rw [this,Ag,Ag]
theorem Ee {m n:Nat} (hm:(Ac m).length≤500000) (hn:(Ac n).length≤500000) : Cw (Ac m) (Ac n)=some (Cf m n):=by
 have:Cw (Ac m) (Ac n)=some (Cf (val (Ac m)) (val (Ac n))):=if_pos (by rw [Bool.and_eq_true];exact ⟨AE (by omega),AE (by omega)⟩)
 rw [this,Ag,Ag]
theorem Iw {m n:Nat} (hm:(Ac m).length≤500000) (hn:(Ac n).length≤500000) : Hr (Ac m) (Ac n)=some (Ac (HR m n),decide (n≤m)):=by
 have:Hr (Ac m) (Ac n)=some (Ac (HR (val (Ac m)) (val (Ac n))),decide (val (Ac n)≤val (Ac m))):=if_pos (by rw [Bool.and_eq_true];exact ⟨AE hm,AE hn⟩)
 rw [this,Ag,Ag]
theorem PM {m:Nat} (hm:(Ac m).length≤500000) : Od (Ac m)=some (Ac m):=by
 have:Od (Ac m)=some (Ac (val (Ac m))):=if_pos (AE (by omega))
 rw [this,Ag]
theorem MG {m n:Nat} (hm:(Ac m).length≤100000) (hn:(Ac n).length≤100000) (h:n≠0) : HZ (Ac m) (Ac n)=some (Ac (m / n),Ac (m % n),true):=by
 have:HZ (Ac m) (Ac n)=some (Ac (val (Ac m) / val (Ac n)),Ac (I8 (val (Ac m)) (val (Ac n))),decide (val (Ac n)≠0)):=if_pos (by rw [Bool.and_eq_true];exact ⟨AE hm,AE hn⟩)
 rw [this,Ag,Ag,Qx h,dT h]
def I7 (a:Nat) (c:Bool) (b:Nat) (d:Bool) : Nat×Bool:=if c=d then (a+b,c) else if b≤a then (a-b,c) else (b-a,d)
theorem W9 (a:Nat) (c:Bool) (b:Nat) (d:Bool) : sg (I7 a c b d).2 (I7 a c b d).1=sg c a+sg d b:=by
 unfold I7
 split
 ·rename_i h;subst h;cases c<;>simp [sg];omega
 ·rename_i h
  split
  ·rename_i h2
   cases c<;>cases d<;>simp [sg] at h ⊢<;>omega
  ·rename_i h2
   cases c<;>cases d<;>simp [sg] at h ⊢<;>omega
theorem Vr (a:Nat) (c:Bool) (b:Nat) (d:Bool) : (I7 a c b d).1≤a+b:=by
 unfold I7;split
 ·exact Nat.le_refl _
 ·split<;>simp<;>omega
theorem Mm {a b:Nat} (c d:Bool) (ha:(Ac a).length≤500000) (hb:(Ac b).length≤500000) : Cq (Ac a) c (Ac b) d=some (Ac (I7 a c b d).1,(I7 a c b d).2):=by
 unfold Cq I7
 by_cases h:c=d
 ·subst h
  rw [if_pos (by simp),if_pos rfl,Om ha hb];rfl
 ·rw [if_neg (by simpa using h),if_neg h,Ee ha hb,oB]
  by_cases h2:b≤a
  ·have:0≤Cf a b:=by unfold Cf;rw [if_neg (by omega)];split<;>decide
   rw [if_pos this,if_pos h2,Iw ha hb,oB,HR,if_pos h2]
  ·have:¬0≤Cf a b:=by unfold Cf;rw [if_pos (by omega)];decide
   rw [if_neg this,if_neg h2,Iw hb ha,oB,HR,if_pos (by omega)]
theorem E3 {b:Bool} {n d:Nat} (hn:(Ac n).length≤100000) (hd:(Ac d).length≤100000) (h:d≠0) : Cn b (Ac n) (Ac d)=some (Fd (mkRat (sg b n) d)):=by
 have:Cn b (Ac n) (Ac d)=some (KQ (Q6 b (val (Ac n)) (val (Ac d)))):=if_pos (by rw [Bool.and_eq_true];exact ⟨AE hn,AE hd⟩)
 rw [this,Ag,Ag,Q6,if_neg h,Nw h,PH]
theorem I9 {a b:Nat} {k:Nat} (ha:(Ac a).length≤k) (hb:(Ac b).length≤k) : (Ac (a * b)).length≤2 * k:=by
 have:=EL (An a) (An b) ha hb
 rwa [Ag,Ag] at this
theorem Ju (p:Rat) : sg (decide (p.num<0)) p.num.natAbs=p.num:=by
 simp only [sg,decide_eq_true_eq];split<;>omega
theorem SC (b:Bool) (n m:Nat) : sg b (n * m)=sg b n * (m:Int):=by cases b<;>simp [sg,Int.neg_mul]
theorem VL {p q:Rat} (hp:AB p) (hq:AB q) : FF (ofQ p) (ofQ q)=some (Fd (p+q)):=by
 unfold FF
 have l1:=I9 hp.1 hq.2
 have l2:=I9 hq.1 hp.2
 have l3:=I9 hp.2 hq.2
 have hs:=W9 (p.num.natAbs * q.den) (decide (p.num<0)) (q.num.natAbs * p.den) (decide (q.num<0))
 have hl:=Vr (p.num.natAbs * q.den) (decide (p.num<0)) (q.num.natAbs * p.den) (decide (q.num<0))
 have hl2:=nT (Cc hl) (KW l1 l2)
 refine Az (B9 (nT hp.1 (by decide)) (nT hq.2 (by decide))) (Az (B9 (nT hq.1 (by decide)) (nT hp.2 (by decide))) (Az (Mm _ _ (by omega) (by omega))
  (Az (B9 (nT hp.2 (by decide)) (nT hq.2 (by decide))) (Az (E3 (nT hl2 (by decide)) (by omega) (Nat.mul_ne_zero p.den_nz q.den_nz)) ?_))))
 have e:p+q=mkRat (sg (I7 (p.num.natAbs * q.den) (decide (p.num<0)) (q.num.natAbs * p.den) (decide (q.num<0))).2 (I7 (p.num.natAbs * q.den) (decide (p.num<0)) (q.num.natAbs * p.den) (decide (q.num<0))).1) (p.den * q.den):=by
  rw [Rat.add_def',hs]
  congr 1
  rw [SC,SC,Ju,Ju]
 rw [e];rfl
theorem MP {p q:Rat} (hp:AB p) (hq:AB q) : Fa (ofQ p) (ofQ q)=some (Fd (p * q)):=by
 unfold Fa
 have l1:=I9 hp.1 hq.1
 have l3:=I9 hp.2 hq.2
 refine Az (B9 (nT hp.1 (by decide)) (nT hq.1 (by decide))) (Az (B9 (nT hp.2 (by decide)) (nT hq.2 (by decide))) (Az (E3 (by omega) (by omega) (Nat.mul_ne_zero p.den_nz q.den_nz)) ?_))
 have h:sg ((ofQ p).1 != (ofQ q).1) (p.num.natAbs * q.num.natAbs)=p.num * q.num:=by
  rw [← Ju p,← Ju q]
  simp only [Ju,ofQ]
  have e1:=Ju p
  have e2:=Ju q
  cases h1:decide (p.num<0)<;>cases h2:decide (q.num<0)<;>rw [h1] at e1<;>rw [h2] at e2<;>rw [← e1,← e2]<;>simp [sg,Int.neg_mul,Int.mul_neg]
 rw [h,Rat.mul_def']
theorem IE {p:Rat} (hp:AB p) : Dm (ofQ p)=some (ofQ p):=by
 unfold Dm
 exact Az (PM (nT hp.1 (by decide))) (Az (PM (nT hp.2 (by decide))) rfl)
theorem Ib {p:Rat} (hp:AB p) : Ej (ofQ p)=some (ofQ (-p)):=by
 unfold Ej
 refine Az (IE hp) ?_
 have h3:decide (0<((List.length (ofQ p).2.1:Nat):Int))=decide (p≠0):=decide_eq_decide.2 ID
 rw [h3,TA,← K8];rfl
theorem GJ {a b:RT} (ha:Dc a=true) (hb:Dc b=true) {β:Type} (f:Bool→Option β) : ((AJ a).bind fun x1=>Option.bind (if x1=true then ((AJ b).bind fun x3=>some (!x3)) else some true) f)=f (!(AM a&&AM b)):=by
 rw [A1 ha,oB]
 cases h:AM a with
 | false=>rfl
 | true=>rw [if_pos rfl,A1 hb];rfl
theorem Vh {p q:Rat} (hp:AB p) (hq:AB q) : H6 (ofQ p) (ofQ q)=some (Fd (p-q)):=by
 unfold H6
 rw [GJ (Au hp) (Au hq),CL hp hq]
 rw [if_neg (by decide)]
 refine Az (Ib hq) (Az (VL hp (Jd hq)) ?_)
 rw [Rat.sub_eq_add_neg]
theorem DT {z:Int} (h1:-9223372036854775808≤z) (h2:z≤9223372036854775807) : Ci z=some (ofQ z):=by
 unfold Ci
 have hof:∀ n:Nat,n<18446744073709551616→RN (n:Int)=some (Ac n):=fun n hn=>by
  have:RN (n:Int)=some (Ac ((n:Int).toNat)):=if_pos (by omega)
  rw [this,Int.toNat_natCast]
 have e:ofQ (z:Rat)=(decide (z<0),Ac z.natAbs,[1]):=by
  show (decide (z<0),Ac z.natAbs,Ac 1)=_
  rw [Bb]
 by_cases h:z<0
 ·rw [if_pos h,Ub h h1,hof _ (by omega),BU,e];rfl
 ·rw [if_neg h,Wa (by omega) h2,hof _ (by omega),BU,e];rfl
theorem Me {p q:Rat} (hp:AB p) (hq:AB q) : Fz (ofQ p) (ofQ q)=some (if q=0 then (if p=0 then (ofQ 1,0) else bad 3) else Fd (p / q)):=by
 unfold Fz
 rw [GJ (Au hp) (Au hq),CL hp hq]
 rw [if_neg (by decide)]
 by_cases h:q=0
 ·rw [if_pos h]
  by_cases h2:p=0
  ·rw [if_pos (by rw [dT (C4.2 h),dT (C4.2 h2)];rfl),if_pos h2]
   exact Az (DT (z:=1) (by decide) (by decide)) rfl
  ·rw [if_neg (by rw [dF (fun h3=>h2 (C4.1 h3))];simp),if_pos (C4.2 h),if_neg h2]
 ·rw [if_neg (by rw [dF (fun h3=>h (C4.1 h3))];simp),if_neg (fun h3=>h (C4.1 h3)),if_neg h]
  have hn:q.num≠0:=fun h2=>h (Rat.num_eq_zero.1 h2)
  have l1:=I9 hp.1 hq.2
  have l3:=I9 hp.2 hq.1
  refine Az (B9 (nT hp.1 (by decide)) (nT hq.2 (by decide))) (Az (B9 (nT hp.2 (by decide)) (nT hq.1 (by decide))) (Az (E3 (by omega) (by omega) (Nat.mul_ne_zero p.den_nz (by omega))) ?_))
  obtain ⟨v1,_⟩:=FJ (x:=q3 p) (y:=((q3 q).1,(q3 q).2.2,(q3 q).2.1)) (Gn p) (by show q.num.natAbs≠0;omega)
  rw [ER,Uf h,← Rat.div_def] at v1
  rw [← v1];rfl
theorem Lm : AB 1:=⟨by show (Ac 1).length≤32;rw [Bb];decide,by show (Ac 1).length≤32;rw [Bb];decide⟩
theorem RK {a:RT} (ha:Dc a=true) : FG a=D5 a:=by
 unfold FG D5;rw [A1 ha,Bw ha]
theorem Ld {a:RT} (ha:Dc a=true) : D3 a=DD a:=by
 rcases FX (r:=a) with h|⟨p,hp,rfl⟩
 ·rw [Yt ha h];unfold D3;rw [A1 ha,h];rfl
 ·rw [JW hp];unfold D3
  rw [A1 ha,Ba hp,oB,if_pos rfl,BU,oB,← Bb]
  rw [show Cw (ofQ p).2.2 (Ac 1)=some (Cf p.den 1) from Ee (nT hp.2 (by decide)) (by rw [Bb];decide),oB,oB]
  congr 1
  refine decide_eq_decide.2 ?_
  have:=p.den_nz
  unfold Cf
  rw [if_neg (by omega)]
  constructor
  ·intro h;by_cases h2:p.den=1
   ·exact h2
   ·rw [if_neg h2] at h;cases h
  ·intro h;rw [if_pos h]
theorem SX {p:Rat} (hp:AB p) : Iq (ofQ p)=some (ofQ (-p),0):=by
 unfold Iq;rw [A1 (Au hp),Ba hp,oB,if_pos rfl,Ib hp];rfl
theorem UB {p:Rat} (hp:AB p) : H8 (ofQ p)=some ((false,Ac p.num.natAbs,Ac p.den),0):=by
 unfold H8;rw [A1 (Au hp),Ba hp,oB,if_pos rfl,IE hp];rfl
theorem Pc (z:Int) : mkRat z 1=(z:Rat):=by
 refine Rat.ext ?_ ?_
 ·rw [Rat.num_mkRat];simp
 ·rw [Rat.den_mkRat];simp
theorem Jl {p:Rat} (hp:AB p) : D2 (ofQ p)=some (Fd (p.floor:Rat)):=by
 unfold D2
 have hl:(Ac (p.num.natAbs / p.den)).length≤32:=nT (Cc (Nat.div_le_self _ _)) hp.1
 rw [A1 (Au hp),Ba hp,oB,if_pos rfl]
 refine Az (MG (nT hp.1 (by decide)) (nT hp.2 (by decide)) p.den_nz) ?_
 have hc:((ofQ p).1&&decide ((0:Int)<((List.length (Ac (p.num.natAbs % p.den)):Nat):Int)))=(decide (p.num<0)&&decide (p.num.natAbs % p.den≠0)):=by rw [decide_eq_decide.2 Fl];rfl
 simp only [hc]
 rw [Mr]
 have low:∀ n,(Ac n).length≤100→Cn (ofQ p).1 (Ac n) [1]=some (Fd ((sg (decide (p.num<0)) n:Int):Rat)):=fun n hn=>by
  rw [← Bb,E3 (by omega) (by rw [Bb];decide) (by decide),Pc];rfl
 by_cases h:(decide (p.num<0)&&decide (p.num.natAbs % p.den≠0))=true
 ·rw [if_pos h,if_pos h]
  have h1:=Om (m:=p.num.natAbs / p.den) (n:=1) (by omega) (by rw [Bb];decide)
  rw [Bb] at h1
  exact Az BU (Az h1 (Az BU (Az (low _ (nT (KW (k:=32) hl (by rw [Bb];decide)) (by decide))) rfl)))
 ·rw [if_neg h,if_neg h]
  exact Az BU (Az (low _ (by omega)) rfl)
theorem S1 {p:Rat} (hp:AB p) : GX (ofQ p)=some (Fd (p.ceil:Rat)):=by
 unfold GX
 rw [A1 (Au hp),Ba hp,oB,if_pos rfl]
 refine Az (Ib hp) (Az (Jl (Jd hp)) ?_)
 have e:((p.ceil:Int):Rat)=-(((-p).floor:Int):Rat):=by rw [Rat.ceil_eq_neg_floor_neg];simp
 rw [e]
 by_cases h:AB (((-p).floor:Int):Rat)
 ·rw [DE h,if_pos rfl,DE (Jd h)]
  exact Az (Ib h) rfl
 ·rw [Eo h,if_neg (by decide),Eo (fun h2=>h (by have:=Jd h2;rwa [Rat.neg_neg] at this))]
end Go.FL
namespace Go.FL
open Go Go.RowKit
section
variable {P:Program} {C:Cx} {X:Snap} {o:Oper} {ops:Array Oper} {Q:Exit→Env→Al→Prop} {env env':Env} {H H':Al} {a:Act} {w w':World} {I I':Nat→Prop} {μ μ':List Nat} {O O':Nat→Option Loc}
 {K:Env→Al→Prop} {k:Nat} {l:List Oper}
theorem XA {blk:Nat} {u0 u1 v0 v1:Value} {e:TypeId} (h:w.heap[blk]?=some (.cells #[u0,u1] e (0,0))) : w.setRow blk #[v0,v1]=(w.setCell ⟨blk,0,none⟩ v0).setCell ⟨blk,1,none⟩ v1:=by
 obtain ⟨hlt,hv⟩:=Array.getElem?_eq_some_iff.1 h
 have e1:w.heap.modify blk (fun|.cells _ elem frozen=>.cells #[v0,v1] elem frozen|o=>o)=(w.heap.modify blk (fun|.cells c elem frozen=>.cells (c.setIfInBounds 0 v0) elem frozen|o=>o)).modify blk (fun|.cells c elem frozen=>.cells (c.setIfInBounds 1 v1) elem frozen|o=>o):=by
  apply Array.ext
  ·simp
  ·intro i h1 h2
   simp only [Array.getElem_modify]
   by_cases hi:blk=i
   ·subst hi;simp only [if_true,hv];simp
   ·simp only [if_neg hi]
 unfold World.setRow World.setCell
 simp only [Option.isSome_none,Bool.false_eq_true,if_false]
 exact congrArg (fun x=>({w with heap:=x}:World)) e1
theorem bdo {ty s t e:Nat} {parts:Array (Nat×Operand)} {places:List (Nat×Nat)} {z:Value} {xs:List DV} (hp:CM P ty=some places) (hz:(P.info? ty).bind (·.zero)=some z) (hzr:z=.agg #[.slice none 0 0,.slice none 0 0]) (h:RL P C ops Q (k+1) l ((t,.ag [.own e xs,.nl])::(s,.un)::env) H)
  (hpl:places=[(0,1),(1,1)]:=by rfl) (hg:grd ops env o true=true:=by rfl) (ho:o.op=.build ty parts:=by rfl) (hpa:parts=#[(0,.tmp s)]:=by rfl) (hv:get env s=.own e xs:=by rfl) (hd:o.dst=some t:=by rfl)
  (hf:Ao (get env t)=false:=by rfl) (hr:Dr s env=false:=by rfl) (ht:okT C.nt t:=by rfl):RL P C ops Q k (o::l) env H:=by
 have hst:=FK hv hf
 subst hpl hzr
 refine .go hg (.val (t:=t) (av:=.ag [.own e xs,.nl]) (env':=put env s .un) (H':=H) (by simp [ho]) hd ht (fun X a w I μ O _ _ _ hs=>?_) ?_)
 ·obtain ⟨k1,bs,k2,k3,k4⟩:=hs.take s (by rw [hv];rfl)
  rw [hv] at k2
  have hb:P.built ty [(0,a.tmps.getD s undef)]=some #[a.tmps.getD s undef,.slice none 0 0]:=by
   unfold CM at hp
   unfold Program.built
   cases hi:P.info? ty with
   | none=>rw [hi] at hz;cases hz
   | some it =>
    rw [hi] at hz
    simp only [oB] at hz
    split at hp
    ·rename_i fields hu
     simp only [hu,hz,hp]
     have hone:∃ A n c,a.tmps.getD s undef=.slice A n c:=by
      generalize a.tmps.getD s undef=u at k2
      cases k2 with
      | own _ _ _ vs hsz ho' hr' =>
       rcases ho' with ⟨A,h1,_⟩|⟨_,g,cap,h1,_⟩<;>exact ⟨_,_,_,h1⟩
     obtain ⟨A,n,c,hu3⟩:=hone
     rw [hu3]
     simp [Instr.fill,Value.cells]
    ·cases hp
  refine ⟨.agg #[a.tmps.getD s undef,.slice none 0 0],w,I,μ,_,?_,k1,bs,?_,k3,k4⟩
  ·simp only [execOp,ho,hpa,Sem.run_bind]
   have:=run_build (P:=P) w ty #[(0,a.tmps.getD s undef)] #[a.tmps.getD s undef,.slice none 0 0] (by simpa using hb)
   simp only [List.map_toArray,List.map_cons,List.map_nil,Act.eval]
   rw [this]
   simp only [Result.andThen_ok,Sem.run_pure]
  ·have:=ARep.ag (ARepAll.cons k2 (ARepAll.cons (.nl (P:=P) (w:=w) (I:=I) (μ:=μ)) .nil))
   simpa using this
 ·refine RL.gh (Gh.same fun q=>?_) h
  have h1:Ao (get (put env s .un) t)=false:=by rw [CC hr];simp [get,hst,hf]
  rw [Am h1]
  simp only [get]
  split
  ·rfl
  ·rw [CC hr];rfl
theorem st2 {x:Operand} {r ty id:Nat} {c0 c1 a0 a1:AV} (hH:H[id]?=some (.box [c0,c1])) (h:RL P C ops Q (k+1) l ((r,.un)::env) (H.set id (.box [a0,a1]))) (hsz:AK P ty=2) (hg:grd ops env o true=true:=by rfl)
  (ho:o.op=.store ty x (.tmp r):=by rfl) (hv:lk env x=.bp id 0:=by rfl) (hy:get env r=.ag [a0,a1]:=by rfl) (n0:Ao c0=false:=by rfl) (n1:Ao c1=false:=by rfl) (m0:one a0=true:=by rfl) (m1:one a1=true:=by rfl) (hd:o.dst=none:=by rfl) (h0:C.n0=0:=by rfl):RL P C ops Q k (o::l) env H:=by
 obtain ⟨h1,h2⟩:=Ay hv (by simp)
 have hlt:id<H.length:=(lS.1 hH).1
 refine .go hg (.done (env':=put env r .un) (H':=H.set id (.box [a0,a1])) (by simp [ho]) hd (fun X a w I μ O _ g2 _ hs=>?_) ?_)
 ·obtain ⟨blk,hm,he⟩:=hs.bp h1 h2
  obtain ⟨k1,bs,k2,k3,k4⟩:=hs.take r (by rw [hy];rfl)
  rw [hy] at k2
  generalize hev:a.tmps.getD r undef=u at k2
  cases k2 with
  | @ag _ vs _ k2 =>
   cases k2 with
   | @cons _ v0 _ _ b0 b1' q0 k2 =>
    cases k2 with
    | @cons _ v1 _ _ b1 b2 q1 k2 =>
     cases k2
     rw [List.append_nil] at k3 k4
     obtain ⟨d0,d1,d2⟩:=List.nodup_append.1 k3
     obtain ⟨s1,⟨y1,w1⟩,f1⟩:=k1.storeC (off:=0) hH rfl hm (by omega) q0 d0 fun b hb=>k4 b (by simp [hb])
     rw [n0] at s1
     have e1:Fs H id 0 a0=H.set id (.box [a0,c1]):=by simp [Fs,hH]
     rw [e1] at s1
     have hH1:(H.set id (.box [a0,c1]))[id]?=some (.box [a0,c1]):=List.getElem?_set_self hlt
     have q1':ARep P (w.setCell ⟨blk,0,none⟩ v0) I μ a1 v1 b1:=by
      obtain ⟨blk',bs',g1,⟨cells,et,g3,g4⟩,g5,_⟩:=k1.heap id _ hH
      rw [hm] at g1;cases g1
      have hOb:=(g5 (by omega)).2 blk (by simp)
      refine q1.keep (fun _ h=>h) (fun b hi=>heap_setCell_other w _ b v0 fun e=>?_) (fun _ _ h=>h) fun b hb=>heap_setCell_other w _ b v0 fun e=>?_
      ·have e':b=blk:=e
       subst e';exact (k1.own _ _ hOb).2 hi
      ·have e':b=blk:=e
       subst e'
       have h7:(O b).map (toR r)=some .r:=k4 b (by simp [hb])
       have h8:(O b).map (toR r)=some (.o id):=hOb
       rw [h7] at h8;cases h8
     obtain ⟨s2,⟨y2,w2⟩,f2⟩:=s1.storeC (off:=1) hH1 rfl hm (by omega) q1' d1 fun b hb=>by
      show (if b∈b0 then _ else _)=_
      rw [if_neg fun hm=>d2 b hm b hb rfl];exact k4 b (by simp [hb])
     rw [n1] at s2
     have e2:Fs (H.set id (.box [a0,c1])) id 1 a1=H.set id (.box [a0,a1]):=by simp [Fs,hH1]
     rw [e2] at s2
     refine ⟨_,I,μ,_,?_,s2⟩
     obtain ⟨blk',bs',g1,⟨cells,et,g3,g4⟩,g5,_⟩:=k1.heap id _ hH
     rw [hm] at g1;cases g1
     have hcl:cells.toList.length=2:=g4.length.symm
     obtain ⟨u0,u1,hcc⟩:∃ u0 u1,cells=#[u0,u1]:=by
      obtain ⟨l⟩:=cells
      match l,hcl with
      | [x,y],_=>exact ⟨x,y,rfl⟩
     rw [hcc] at g3
     have hone0:=IU q0 m0
     have hone1:=IU q1 m1
     obtain ⟨i,i1,i2⟩:=Im (P:=P) (t:=ty) (by omega)
     have hsi:(P.info? ty).map (·.size)=some (#[v0,v1]:Array Value).size:=by rw [i1];simp;omega
     have hrun:=run_storeVar_row (P:=P) w blk et ty #[u0,u1] #[v0,v1] g3 hsi rfl (by simp [hone0,hone1])
     have hevr:a.eval (.tmp r)=.agg #[v0,v1]:=by show a.tmps.getD r undef=_;rw [hev]
     simp only [execOp,ho,he,hevr,Instr.storeAt,Instr.sureAddr,Sem.run_bind,Sem.run_pure,Result.andThen_ok,hrun]
     rw [XA g3]
 ·refine RL.gh (Gh.same fun q=>?_) h
  rw [Am (by rw [hy];rfl)]
section
variable {nt:Nat×Nat} {J:JT} {ags:List Value} {QJ:Exit→Env→Al→Nat→Prop} {n:Nat}
end
end
end Go.FL
namespace Go.FL
open Go Go.Proofs
def Yl (x:Itm) : DV:=.ag [.i .u8 x.kind,.b x.num.1,.sl (L x.num.2.1),.sl (L x.num.2.2),.i .i32 x.char,.sl (Ars x.box)]
def JM : List Int→Option (List Itm)
 | []=>some []
 | n::ns=>(B6 n).bind fun q=>(Dw q).bind fun x=>(JM ns).bind fun xs=>some (x::xs)
theorem Q9 : ∀ {l:List Int} {xs:List Itm},JM l=some xs→xs.length=l.length∧∀ (i:Nat) n,l[i]?=some n→∃ q x,B6 n=some q∧Dw q=some x∧xs[i]?=some x:=by
 intro l
 induction l with
 | nil=>intro xs h;cases h;exact ⟨rfl,fun i n hn=>by simp at hn⟩
 | cons m ns ih =>
  intro xs h
  rw [JM] at h
  obtain ⟨q,hq,h⟩:=bnd h
  obtain ⟨x,hx,h⟩:=bnd h
  obtain ⟨ys,hy,h⟩:=bnd h
  cases h
  obtain ⟨h1,h2⟩:=ih hy
  refine ⟨by simp [h1],fun i n hn=>?_⟩
  cases i with
  | zero=>simp at hn;subst hn;exact ⟨q,x,hq,hx,rfl⟩
  | succ i=>simpa using h2 i n (by simpa using hn)
def itY (xs:List Itm) : List (List DV):=xs.map fun x=>[Yl x]
theorem Y3 {xs:List Itm} {i:Nat} {x:Itm} (h:xs[i]?=some x) : (itY xs)[i]?=some [Yl x]:=by simp [itY,h]
set_option maxRecDepth 10000 in
theorem Wd {l:List Int} {xs:List Itm} (h:JM l=some xs) (hl:l.length≤9223372036854775806) (m:Nat) : ItG Tryz.prog 77 [.ptr [.sl (Is l)]] (itY xs) m:=by
 obtain ⟨hlen,hat⟩:=Q9 h
 have hyl:(itY xs).length=l.length:=by simp [itY,hlen]
 refine ItG.of Tryz.func77 rfl rfl (nt:=18) rfl (by simp) fun lp J hJ hR=>?_;refine .seq ?_;refine .lift ?_;refine .region ?_;refine vk (Ak E9) ?_;refine vk (A7 (BZ _) (HC _) Hm) ?_;refine vk (Aa) ?_;refine .nil ?_
 show AWJ _ _ _ _ _ _ _ _ _
 refine .block ?_;refine ALJ.loop ?_;refine ALJ.gh (Gh.keep [0,5,6,7] rfl) ?_
 refine ALJ.ind (σ:=Nat) (m:=fun i=>l.length-i) (e:=fun i=>[(0,.d (.yl lp)),(5,.d (.sl (Is l))),(6,.d (.i .i64 ((List.length l:Nat):Int))),(7,.d (.i .i64 ((i:Nat):Int)))]) (h:=fun _=>[]) (r:=fun i=>i) (I:=fun i=>i≤l.length∧i≤m) ?_ 0 ⟨Nat.zero_le _,Nat.zero_le _⟩
 rintro i ⟨hi,him⟩ ih
 refine .seq ?_;refine .lift ?_;refine .region ?_;refine vk (vbi) ?_;refine .nil ?_
 show AWJ _ _ _ _ _ _ _ _ _
 refine .seq ?_
 by_cases hc:((i:Nat):Int)<((List.length l:Nat):Int)
 ·refine .cond (x:=true) (by show AV.d (.b (decide _))=_;rw [dT hc]) (fun _=>?_) (fun h=>by cases h)
  have hlt:i<l.length:=by omega
  obtain ⟨q,x,hq,hx,hxi⟩:=hat i _ (lG hlt)
  refine .skip ?_
  show AWJ _ _ _ _ _ _ _ _ _
  refine .seq ?_;refine .block ?_;refine .seq ?_;refine .lift ?_;refine .region ?_;refine vk (vix i rfl (NE (lG hlt)) rfl JB) ?_;refine vk (Ak Dl) ?_;refine asd ?_;refine .nil ?_
  show AWJ _ _ _ _ _ _ _ _ _
  refine .seq ?_;refine .region ?_;refine vkJ (Aa) ?_;refine vkJ (Aa) ?_;refine vkJ (Ae (BD hq) Tryz.call72) ?_;refine vkJ (Ae (EO hx) Tryz.call71) ?_;refine yld (hR i [Yl x] (Y3 hxi) him) hJ ?_;refine vkJ (vnt) ?_;refine .nil ?_
  show AWJ _ _ _ _ _ _ _ _ _
  by_cases hm:i<m
  ·refine .cond (x:=false) (by show AV.d (.b (!decide _))=_;rw [dT hm];rfl) (fun h=>by cases h) (fun _=>?_)
   refine .skip ?_
   show AWJ _ _ _ _ _ _ _ _ _
   refine .lift ?_;refine .region ?_;refine vk (vbi) ?_;refine vk (Aa) ?_;refine .nil ?_
   show ALJ _ _ _ _ _ _ _ _ _
   have hw:IntKind.wrap .i64 ((i:Int)+1)=((i+1:Nat):Int):=by simp only [IntKind.wrap,IntKind.bits,IntKind.signed];simp;omega
   rw [hw]
   refine ALJ.gh (Gh.keep [0,5,6,7] rfl) ?_
   exact ih (i+1) ⟨hlt,hm⟩ (by omega)
  ·refine .cond (x:=true) (by show AV.d (.b (!decide _))=_;rw [dF hm];rfl) (fun _=>?_) (fun h=>by cases h)
   refine .ret ?_
   exact ⟨.inr rfl,by rw [hyl];omega⟩
 ·refine .cond (x:=false) (by show AV.d (.b (decide _))=_;rw [dF hc]) (fun h=>by cases h) (fun _=>?_)
  refine .exit ?_
  exact ⟨.inl rfl,by rw [hyl];omega⟩
def Df (s:ByteArray) : Nat→Nat→List Int
 | 0,_=>[]
 | k+1,pos=>if pos<s.size then W4 s pos::Df s k (HX s pos) else []
def T3 (s:ByteArray) : List Int:=Df s s.size 0
theorem N5 (s:ByteArray) (pos:Nat) : pos<HX s pos:=by
 have:=Lib.width_pos s pos
 unfold HX;omega
theorem Rh (s:ByteArray) : ∀ (k j pos:Nat),s.size≤pos+k→s.size≤pos+j→Df s k pos=Df s j pos:=by
 intro k
 induction k with
 | zero =>
  intro j pos h1 h2
  cases j with
  | zero=>rfl
  | succ j=>rw [Df,Df,if_neg (by omega)]
 | succ k ih =>
  intro j pos h1 h2
  cases j with
  | zero=>rw [Df,Df,if_neg (by omega)]
  | succ j =>
   rw [Df,Df]
   split
   ·have:=N5 s pos
    rw [ih j (HX s pos) (by omega) (by omega)]
   ·rfl
theorem Sn {s:ByteArray} {pos:Nat} (h:pos<s.size) : Df s s.size pos=W4 s pos::Df s s.size (HX s pos):=by
 have:=N5 s pos
 cases hs:s.size with
 | zero=>omega
 | succ k =>
  rw [Df,if_pos h,Rh s k (k+1) (HX s pos) (by omega) (by omega)]
theorem Tj {s:ByteArray} {pos:Nat} (h:¬pos<s.size) : Df s s.size pos=[]:=by
 cases hs:s.size with
 | zero=>rfl
 | succ k=>rw [Df,if_neg h]
end Go.FL
