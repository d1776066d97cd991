/-
  Part 5 of the base of the proofs: a logic of our own over the calculus, the contracts of the functions
-/
import Derived.Test.YtginckjifacnhaaGreatPfD
set_option linter.unusedVariables false
namespace Go.FL
open Go Go.Proofs
def Fb (a0:Int) : Option (Bool):=(some ((!(decide (a0=a0)))))
theorem GY {a0:Int} {r:Bool} (h:Fb a0=some r) :
  Fn Tryz.prog 193 [.i .i64 a0] (.d (.b r)):=by
 unfold Fb at h
 refine Fn.o1 2 6 Tryz.func193 ?_;refine .sr<|kR [0,2] zj<|.sr<|kA zj<|kA zj<|kB zj<|kR [2] zj<|.ret ?_
 cases h
 exact ⟨rfl,rfl⟩
def EN (a0:Int) : Option (Bool):=(some ((!(decide (a0=a0)))))
theorem GE {a0:Int} {r:Bool} (h:EN a0=some r) :
  Fn Tryz.prog 192 [.i .i32 a0] (.d (.b r)):=by
 unfold EN at h
 refine Fn.o1 2 6 Tryz.func192 ?_;refine .sr<|kR [0,2] zj<|.sr<|kA zj<|kA zj<|kB zj<|kR [2] zj<|.ret ?_
 cases h
 exact ⟨rfl,rfl⟩
def Cl (a0:Int) : Option (Bool):=(some ((!(decide (a0=a0)))))
theorem D0 {a0:Int} {r:Bool} (h:Cl a0=some r) :
  Fn Tryz.prog 187 [.i .u8 a0] (.d (.b r)):=by
 unfold Cl at h
 refine Fn.o1 2 6 Tryz.func187 ?_;refine .sr<|kR [0,2] zj<|.sr<|kA zj<|kA zj<|kB zj<|kR [2] zj<|.ret ?_
 cases h
 exact ⟨rfl,rfl⟩
def Eg (a0:Int) (a1:Int) : Option (Int):=((Fb a0).bind fun x1=>((Fb a1).bind fun x2=>(if x1=true then (if x2=true then (some (0)) else (some ((-1)))) else (if x2=true then (some (1)) else (if a0<a1 then (some ((-1))) else (if a1<a0 then (some (1)) else (some (0))))))))
theorem Gn {a0:Int} {a1:Int} {r:Int} (h:Eg a0 a1=some r) :
  Fn Tryz.prog 141 [.i .i64 a0,.i .i64 a1] (.d (.i .i64 r)):=by
 unfold Eg at h
 refine Fn.o1 4 20 Tryz.func141 ?_;refine .sr<|kR [0,1,4] zj<|.sr<|kA zj ?_
 obtain ⟨x1,g1,h⟩:=bnd h
 refine kK (Ag (GY g1) Tryz.call193)<|kR [0,1,4,5] zj<|.sr<|kA zj ?_
 obtain ⟨x2,g2,h⟩:=bnd h
 refine kK (Ag (GY g2) Tryz.call193)<|kR [0,1,4,5,6] zj<|.seq<|.sr<|kA zj<|rk [0,1,4,6,11] ?_
 rcases brc h with ⟨hc,h⟩|⟨hc,h⟩
 ·refine cnt hc ?_
  refine .seq<|.sr<|kA zj<|rk [0,1,4,6,12] ?_
  rcases brc h with ⟨hc,h⟩|⟨hc,h⟩
  ·refine cnt hc ?_
   refine .sr<|kR [0,1,4,6] zj<|.ret ?_
   cases h
   exact ⟨rfl,rfl⟩
  refine cnf (bf hc) ?_;refine .sk ?_;refine .sr<|kR [0,1,4,6] zj<|.ret ?_
  cases h
  exact ⟨rfl,rfl⟩
 refine cnf (bf hc) ?_;refine .sk ?_;refine .seq<|.sr<|kA zj<|rk [0,1,4,13] ?_
 rcases brc h with ⟨hc,h⟩|⟨hc,h⟩
 ·refine cnt hc ?_
  refine .sr<|kR [0,1,4] zj<|.ret ?_
  cases h
  exact ⟨rfl,rfl⟩
 refine cnf (bf hc) ?_;refine .sk ?_;refine .seq<|.sr<|kA zj<|kA zj<|kB zj<|rk [0,1,4,16] ?_
 rcases brc h with ⟨hc,h⟩|⟨hc,h⟩
 ·refine cnt (dT hc) ?_
  refine .sr<|kR [0,1,4] zj<|.ret ?_
  cases h
  exact ⟨rfl,rfl⟩
 refine cnf (dF hc) ?_;refine .sk ?_;refine .seq<|.sr<|kA zj<|kA zj<|kB zj<|rk [4,19] ?_
 rcases brc h with ⟨hc,h⟩|⟨hc,h⟩
 ·refine cnt (dT hc) ?_
  refine .sr<|kR [4] zj<|.ret ?_
  cases h
  exact ⟨rfl,rfl⟩
 refine cnf (dF hc) ?_;refine .sk ?_;refine .sr<|kR [4] zj<|.ret ?_
 cases h
 exact ⟨rfl,rfl⟩
def EZ (a0:Int) (a1:Int) : Option (Int):=((EN a0).bind fun x1=>((EN a1).bind fun x2=>(if x1=true then (if x2=true then (some (0)) else (some ((-1)))) else (if x2=true then (some (1)) else (if a0<a1 then (some ((-1))) else (if a1<a0 then (some (1)) else (some (0))))))))
theorem Jh {a0:Int} {a1:Int} {r:Int} (h:EZ a0 a1=some r) :
  Fn Tryz.prog 139 [.i .i32 a0,.i .i32 a1] (.d (.i .i64 r)):=by
 unfold EZ at h
 refine Fn.o1 4 20 Tryz.func139 ?_;refine .sr<|kR [0,1,4] zj<|.sr<|kA zj ?_
 obtain ⟨x1,g1,h⟩:=bnd h
 refine kK (Ag (GE g1) Tryz.call192)<|kR [0,1,4,5] zj<|.sr<|kA zj ?_
 obtain ⟨x2,g2,h⟩:=bnd h
 refine kK (Ag (GE g2) Tryz.call192)<|kR [0,1,4,5,6] zj<|.seq<|.sr<|kA zj<|rk [0,1,4,6,11] ?_
 rcases brc h with ⟨hc,h⟩|⟨hc,h⟩
 ·refine cnt hc ?_
  refine .seq<|.sr<|kA zj<|rk [0,1,4,6,12] ?_
  rcases brc h with ⟨hc,h⟩|⟨hc,h⟩
  ·refine cnt hc ?_
   refine .sr<|kR [0,1,4,6] zj<|.ret ?_
   cases h
   exact ⟨rfl,rfl⟩
  refine cnf (bf hc) ?_;refine .sk ?_;refine .sr<|kR [0,1,4,6] zj<|.ret ?_
  cases h
  exact ⟨rfl,rfl⟩
 refine cnf (bf hc) ?_;refine .sk ?_;refine .seq<|.sr<|kA zj<|rk [0,1,4,13] ?_
 rcases brc h with ⟨hc,h⟩|⟨hc,h⟩
 ·refine cnt hc ?_
  refine .sr<|kR [0,1,4] zj<|.ret ?_
  cases h
  exact ⟨rfl,rfl⟩
 refine cnf (bf hc) ?_;refine .sk ?_;refine .seq<|.sr<|kA zj<|kA zj<|kB zj<|rk [0,1,4,16] ?_
 rcases brc h with ⟨hc,h⟩|⟨hc,h⟩
 ·refine cnt (dT hc) ?_
  refine .sr<|kR [0,1,4] zj<|.ret ?_
  cases h
  exact ⟨rfl,rfl⟩
 refine cnf (dF hc) ?_;refine .sk ?_;refine .seq<|.sr<|kA zj<|kA zj<|kB zj<|rk [4,19] ?_
 rcases brc h with ⟨hc,h⟩|⟨hc,h⟩
 ·refine cnt (dT hc) ?_
  refine .sr<|kR [4] zj<|.ret ?_
  cases h
  exact ⟨rfl,rfl⟩
 refine cnf (dF hc) ?_;refine .sk ?_;refine .sr<|kR [4] zj<|.ret ?_
 cases h
 exact ⟨rfl,rfl⟩
def CM (a0:Int) (a1:Int) : Option (Int):=((Cl a0).bind fun x1=>((Cl a1).bind fun x2=>(if x1=true then (if x2=true then (some (0)) else (some ((-1)))) else (if x2=true then (some (1)) else (if a0<a1 then (some ((-1))) else (if a1<a0 then (some (1)) else (some (0))))))))
theorem FU {a0:Int} {a1:Int} {r:Int} (h:CM a0 a1=some r) :
  Fn Tryz.prog 137 [.i .u8 a0,.i .u8 a1] (.d (.i .i64 r)):=by
 unfold CM at h
 refine Fn.o1 4 20 Tryz.func137 ?_;refine .sr<|kR [0,1,4] zj<|.sr<|kA zj ?_
 obtain ⟨x1,g1,h⟩:=bnd h
 refine kK (Ag (D0 g1) Tryz.call187)<|kR [0,1,4,5] zj<|.sr<|kA zj ?_
 obtain ⟨x2,g2,h⟩:=bnd h
 refine kK (Ag (D0 g2) Tryz.call187)<|kR [0,1,4,5,6] zj<|.seq<|.sr<|kA zj<|rk [0,1,4,6,11] ?_
 rcases brc h with ⟨hc,h⟩|⟨hc,h⟩
 ·refine cnt hc ?_
  refine .seq<|.sr<|kA zj<|rk [0,1,4,6,12] ?_
  rcases brc h with ⟨hc,h⟩|⟨hc,h⟩
  ·refine cnt hc ?_
   refine .sr<|kR [0,1,4,6] zj<|.ret ?_
   cases h
   exact ⟨rfl,rfl⟩
  refine cnf (bf hc) ?_;refine .sk ?_;refine .sr<|kR [0,1,4,6] zj<|.ret ?_
  cases h
  exact ⟨rfl,rfl⟩
 refine cnf (bf hc) ?_;refine .sk ?_;refine .seq<|.sr<|kA zj<|rk [0,1,4,13] ?_
 rcases brc h with ⟨hc,h⟩|⟨hc,h⟩
 ·refine cnt hc ?_
  refine .sr<|kR [0,1,4] zj<|.ret ?_
  cases h
  exact ⟨rfl,rfl⟩
 refine cnf (bf hc) ?_;refine .sk ?_;refine .seq<|.sr<|kA zj<|kA zj<|kB zj<|rk [0,1,4,16] ?_
 rcases brc h with ⟨hc,h⟩|⟨hc,h⟩
 ·refine cnt (dT hc) ?_
  refine .sr<|kR [0,1,4] zj<|.ret ?_
  cases h
  exact ⟨rfl,rfl⟩
 refine cnf (dF hc) ?_;refine .sk ?_;refine .seq<|.sr<|kA zj<|kA zj<|kB zj<|rk [4,19] ?_
 rcases brc h with ⟨hc,h⟩|⟨hc,h⟩
 ·refine cnt (dT hc) ?_
  refine .sr<|kR [4] zj<|.ret ?_
  cases h
  exact ⟨rfl,rfl⟩
 refine cnf (dF hc) ?_;refine .sk ?_;refine .sr<|kR [4] zj<|.ret ?_
 cases h
 exact ⟨rfl,rfl⟩
def D8 (a0:(List Int)) (K0:Int→Option (Int)) : Nat→Int→Int→Option (Int)
 | 0,_,_=>none
 | k+1,s2,s3=>(if s3<((List.length a0:Nat):Int) then ((rd? a0 s3).bind fun x4=>(if x4=0 then (D8 a0 K0 k s2 (w64 (s3+1))) else (some (x4)))) else (K0 s2))
def Jv (a0:(List Int)) : Option (Int):=(jn (fun (z1:Int)=>(some (0))) fun K0=>(D8 a0 K0 AH 0 0))
theorem NU {a0:(List Int)} {r:Int} (h:Jv a0=some r) :
  Fn Tryz.prog 140 [.sl (Is a0)] (.d (.i .i64 r)):=by
 unfold Jv at h
 refine Fn.o1 2 18 Tryz.func140 ?_;refine .sr<|kR [0,2] zj<|.sr<|kR [0,2,3] zj<|.seq<|.sr<|kA zj<|kK (AX (Az _) (C7 _) CQ)<|kA zj<|rk [2,3,6,7,8] ?_
 obtain ⟨K0,hK0,h⟩:=A1 h
 refine AW.mr (σ:=Int) (fun p=>K0 p=some r) (fun p=>[(2,.d (.i .i64 p)),(3,.d (.i .i64 0))]) (fun p=>[]) ?_ ?_
 ·skip
  refine .block ?_
  refine .loop (.gk [2,3,6,7,8] ?_)
  refine AL.ind (σ:=Nat×Int×Int) (m:=fun p=>p.1) (e:=fun p=>[(2,.d (.i .i64 p.2.1)),(3,.d (.i .i64 0)),(6,.d (.sl (Is a0))),(7,.d (.i .i64 ((List.length a0:Nat):Int))),(8,.d (.i .i64 p.2.2))]) (h:=fun p=>[]) (I:=fun p=>D8 a0 K0 p.1 p.2.1 p.2.2=some r) ?_ (AH,0,0) h
  rintro ⟨k,s2,s3⟩ h ih
  dsimp only at h ih ⊢
  rcases k with _|k
  ·rw [D8] at h;cases h
  rw [D8] at h
  refine .sr<|kB zj<|rk [2,3,6,7,8,9]<|.seq ?_
  rcases brc h with ⟨hc,h⟩|⟨hc,h⟩
  ·refine cnt (dT hc) ?_
   refine .sk ?_;refine .seq<|.block<|.sr ?_
   obtain ⟨x4,g4,h⟩:=bnd h
   obtain ⟨n4,p04,q4⟩:=Aq g4
   refine kK (vix n4 p04 (Ep q4) rfl Dw)<|kK (Al Bh)<|kR [2,3,5,6,7,8] zj<|.sr<|kA zj<|kA zj<|kB zj<|rk [2,3,5,6,7,8,14] ?_
   rcases brc h with ⟨hc,h⟩|⟨hc,h⟩
   ·refine cnf (ntf (dT hc)) ?_
    refine .sk ?_;refine .region<|kB zj<|kA zj<|.nil ?_;refine AL.gk [2,3,6,7,8] ?_
    exact ih (k,s2,(w64 (s3+1))) h (Nat.lt_succ_self _)
   refine cnt (ntt (dF hc)) ?_;refine .sr<|kA zj<|kR [2,3,6,7,8] zj<|.ret ?_
   cases h
   exact ⟨rfl,rfl⟩
  refine cnf (dF hc) ?_;refine .gk [2,3]<|.exit ?_
  exact jr (s2) h
 rintro z1 h
 try dsimp only at h ⊢
 subst hK0
 refine aw<|.sr<|kA zj<|kR [2] zj<|.ret ?_
 cases h
 exact ⟨rfl,rfl⟩
def Bt (a0:(List Int)) (a1:(List Int)) (K0:Int→Option (Int)) : Nat→Int→Int→Option (Int)
 | 0,_,_=>none
 | k+1,s2,s3=>(if s3<((List.length a0:Nat):Int) then ((rd? a0 s3).bind fun x4=>(if ((List.length a1:Nat):Int)≤s3 then (some (1)) else ((rd? a1 s3).bind fun x5=>((Eg x4 x5).bind fun x6=>(if x6=0 then (Bt a0 a1 K0 k s2 (w64 (s3+1))) else (some (x6))))))) else (K0 s2))
def Db (a0:(List Int)) (a1:(List Int)) : Option (Int):=(jn (fun (z1:Int)=>(if ((List.length a0:Nat) : Int)<((List.length a1:Nat) : Int) then (some ((-1))) else (some (0)))) fun K0=>(Bt a0 a1 K0 AH 0 0))
theorem Gx {a0:(List Int)} {a1:(List Int)} {r:Int} (h:Db a0 a1=some r) :
  Fn Tryz.prog 142 [.sl (Is a0),.sl (Is a1)] (.d (.i .i64 r)):=by
 unfold Db at h
 refine Fn.o1 4 36 Tryz.func142 ?_;refine .sr<|kR [0,1,4] zj<|.seq<|.sr<|kA zj<|kK (AX (Az _) (C7 _) CQ)<|kA zj<|rk [0,1,4,9,10,11] ?_
 obtain ⟨K0,hK0,h⟩:=A1 h
 refine AW.mr (σ:=Int) (fun p=>K0 p=some r) (fun p=>[(0,.d (.sl (Is a0))),(1,.d (.sl (Is a1))),(4,.d (.i .i64 p))]) (fun p=>[]) ?_ ?_
 ·skip
  refine .block ?_
  refine .loop (.gk [0,1,4,9,10,11] ?_)
  refine AL.ind (σ:=Nat×Int×Int) (m:=fun p=>p.1) (e:=fun p=>[(0,.d (.sl (Is a0))),(1,.d (.sl (Is a1))),(4,.d (.i .i64 p.2.1)),(9,.d (.sl (Is a0))),(10,.d (.i .i64 ((List.length a0:Nat):Int))),(11,.d (.i .i64 p.2.2))]) (h:=fun p=>[]) (I:=fun p=>Bt a0 a1 K0 p.1 p.2.1 p.2.2=some r) ?_ (AH,0,0) h
  rintro ⟨k,s2,s3⟩ h ih
  dsimp only at h ih ⊢
  rcases k with _|k
  ·rw [Bt] at h;cases h
  rw [Bt] at h
  refine .sr<|kB zj<|rk [0,1,4,9,10,11,12]<|.seq ?_
  rcases brc h with ⟨hc,h⟩|⟨hc,h⟩
  ·refine cnt (dT hc) ?_
   refine .sk ?_;refine .seq<|.block<|.sr<|kA zj ?_
   obtain ⟨x4,g4,h⟩:=bnd h
   obtain ⟨n4,p04,q4⟩:=Aq g4
   refine kK (vix n4 p04 (Ep q4) rfl Dw)<|kK (Al Bh)<|kD zj<|kR [0,1,4,5,6,9,10,11] zj<|.seq<|.sr<|kA zj<|kA zj<|kK (AX (Az _) (C7 _) CQ)<|kB zj<|rk [0,1,4,5,6,9,10,11,19] ?_
   rcases brc h with ⟨hc,h⟩|⟨hc,h⟩
   ·refine cnt (dT hc) ?_
    refine .sr<|kR [0,1,4,5,6,9,10,11] zj<|.ret ?_
    cases h
    exact ⟨rfl,rfl⟩
   refine cnf (dF hc) ?_;refine .sk ?_;refine .sr<|kA zj<|kA zj ?_
   obtain ⟨x5,g5,h⟩:=bnd h
   obtain ⟨n5,p05,q5⟩:=Aq g5
   refine kK (vix n5 p05 (Ep q5) rfl Dw)<|kK (Al Bh)<|kR [0,1,4,6,7,9,10,11] zj<|.sr<|kA zj<|kA zj ?_
   obtain ⟨x6,g6,h⟩:=bnd h
   refine kK (Ag (Gn g6) Tryz.call141)<|kR [0,1,4,8,9,10,11] zj<|.sr<|kA zj<|kB zj<|rk [0,1,4,8,9,10,11,28] ?_
   rcases brc h with ⟨hc,h⟩|⟨hc,h⟩
   ·refine cnf (ntf (dT hc)) ?_
    refine .sk ?_;refine .region<|kB zj<|kA zj<|.nil ?_;refine AL.gk [0,1,4,9,10,11] ?_
    exact ih (k,s2,(w64 (s3+1))) h (Nat.lt_succ_self _)
   refine cnt (ntt (dF hc)) ?_;refine .sr<|kA zj<|kR [0,1,4,9,10,11] zj<|.ret ?_
   cases h
   exact ⟨rfl,rfl⟩
  refine cnf (dF hc) ?_;refine .gk [0,1,4]<|.exit ?_
  exact jr (s2) h
 rintro z1 h
 try dsimp only at h ⊢
 subst hK0
 refine aw<|.seq<|.sr<|kA zj<|kK (AX (Az _) (C7 _) CQ)<|kA zj<|kK (AX (Az _) (C7 _) CQ)<|kB zj<|rk [4,35] ?_
 rcases brc h with ⟨hc,h⟩|⟨hc,h⟩
 ·refine cnt (dT hc) ?_
  refine .sr<|kR [4] zj<|.ret ?_
  cases h
  exact ⟨rfl,rfl⟩
 refine cnf (dF hc) ?_;refine .sk ?_;refine .sr<|kR [4] zj<|.ret ?_
 cases h
 exact ⟨rfl,rfl⟩
def As (a0:(List Itm)) (a1:(List Itm)) (a2:Dh) (K0:Int→Option (Int)) : Nat→Int→Int→Option (Int)
 | 0,_,_=>none
 | k+1,s2,s3=>(if s3<((List.length a0:Nat):Int) then ((rd? a0 s3).bind fun x4=>(if ((List.length a1:Nat):Int)≤s3 then (some (1)) else ((rd? a1 s3).bind fun x5=>((a2.g (x4,x5)).bind fun x6=>(if x6=0 then (As a0 a1 a2 K0 k s2 (w64 (s3+1))) else (some (x6))))))) else (K0 s2))
def AJ (a0:(List Itm)) (a1:(List Itm)) (a2:Dh) : Option (Int):=(jn (fun (z1:Int)=>(if ((List.length a0:Nat) : Int)<((List.length a1:Nat) : Int) then (some ((-1))) else (some (0)))) fun K0=>(As a0 a1 a2 K0 AH 0 0))
theorem Ca {a0:(List Itm)} {a1:(List Itm)} {a2:Dh} (oa2:LP a2) {r:Int} (h:AJ a0 a1 a2=some r) :
  Fn Tryz.prog 143 [.sl (Its a0),.sl (Its a1),a2.dv] (.d (.i .i64 r)):=by
 unfold AJ at h
 refine Fn.o1 6 39 Tryz.func143 ?_;refine .sr<|kR [0,1,2,6] zj<|.seq<|.sr<|kA zj<|kK (AX (Ai _) (Bg _) Ba)<|kA zj<|rk [0,1,2,6,11,12,13] ?_
 obtain ⟨K0,hK0,h⟩:=A1 h
 refine AW.mr (σ:=Int) (fun p=>K0 p=some r) (fun p=>[(0,.d (.sl (Its a0))),(1,.d (.sl (Its a1))),(6,.d (.i .i64 p))]) (fun p=>[]) ?_ ?_
 ·skip
  refine .block ?_
  refine .loop (.gk [0,1,2,6,11,12,13] ?_)
  refine AL.ind (σ:=Nat×Int×Int) (m:=fun p=>p.1) (e:=fun p=>[(0,.d (.sl (Its a0))),(1,.d (.sl (Its a1))),(2,.d (a2.dv)),(6,.d (.i .i64 p.2.1)),(11,.d (.sl (Its a0))),(12,.d (.i .i64 ((List.length a0:Nat):Int))),(13,.d (.i .i64 p.2.2))]) (h:=fun p=>[]) (I:=fun p=>As a0 a1 a2 K0 p.1 p.2.1 p.2.2=some r) ?_ (AH,0,0) h
  rintro ⟨k,s2,s3⟩ h ih
  dsimp only at h ih ⊢
  rcases k with _|k
  ·rw [As] at h;cases h
  rw [As] at h
  refine .sr<|kB zj<|rk [0,1,2,6,11,12,13,14]<|.seq ?_
  rcases brc h with ⟨hc,h⟩|⟨hc,h⟩
  ·refine cnt (dT hc) ?_
   refine .sk ?_;refine .seq<|.block<|.sr<|kA zj ?_
   obtain ⟨x4,g4,h⟩:=bnd h
   obtain ⟨n4,p04,q4⟩:=Aq g4
   refine kK (vix n4 p04 (BC q4) rfl Bs)<|kK (Ap AE Am)<|kK (van (Ae Cd) Cf)<|kD zj ?_
   refine stn ?_ Am (by decide)
   refine rk [0,1,2,6,7,8,11,12,13]<|.seq<|.sr<|kA zj<|kA zj<|kK (AX (Ai _) (Bg _) Ba)<|kB zj<|rk [0,1,2,6,7,8,11,12,13,21] ?_
   rcases brc h with ⟨hc,h⟩|⟨hc,h⟩
   ·refine cnt (dT hc) ?_
    refine .sr<|kR [0,1,2,6,7,8,11,12,13] zj<|.ret ?_
    cases h
    exact ⟨rfl,rfl⟩
   refine cnf (dF hc) ?_;refine .sk ?_;refine .sr<|kA zj<|kA zj ?_
   obtain ⟨x5,g5,h⟩:=bnd h
   obtain ⟨n5,p05,q5⟩:=Aq g5
   refine kK (vix n5 p05 (BC q5) rfl Bs)<|kK (Ap AE Am)<|kK (van (Ae Cd) Cf) ?_
   refine stn ?_ Am (by decide)
   refine rk [0,1,2,6,8,9,11,12,13]<|.sr<|kA zj<|kK (Dv AE Am)<|kK (Dv AE Am) ?_
   obtain ⟨x6,g6,h⟩:=bnd h
   refine kK (NP (oa2 _ _ g6))<|kR [0,1,2,6,10,11,12,13] zj<|.sr<|kA zj<|kB zj<|rk [0,1,2,6,10,11,12,13,31] ?_
   rcases brc h with ⟨hc,h⟩|⟨hc,h⟩
   ·refine cnf (ntf (dT hc)) ?_
    refine .sk ?_;refine .region<|kB zj<|kA zj<|.nil ?_;refine AL.gk [0,1,2,6,11,12,13] ?_
    exact ih (k,s2,(w64 (s3+1))) h (Nat.lt_succ_self _)
   refine cnt (ntt (dF hc)) ?_;refine .sr<|kA zj<|kR [0,1,2,6,11,12,13] zj<|.ret ?_
   cases h
   exact ⟨rfl,rfl⟩
  refine cnf (dF hc) ?_;refine .gk [0,1,6]<|.exit ?_
  exact jr (s2) h
 rintro z1 h
 try dsimp only at h ⊢
 subst hK0
 refine aw<|.seq<|.sr<|kA zj<|kK (AX (Ai _) (Bg _) Ba)<|kA zj<|kK (AX (Ai _) (Bg _) Ba)<|kB zj<|rk [6,38] ?_
 rcases brc h with ⟨hc,h⟩|⟨hc,h⟩
 ·refine cnt (dT hc) ?_
  refine .sr<|kR [6] zj<|.ret ?_
  cases h
  exact ⟨rfl,rfl⟩
 refine cnf (dF hc) ?_;refine .sk ?_;refine .sr<|kR [6] zj<|.ret ?_
 cases h
 exact ⟨rfl,rfl⟩
def I6 (rc_pick_order:Itm→Itm→Option (Int)) (a0:Itm) (a1:Itm) : Option (Int):=(if a0.kind=a1.kind then (if a0.kind=1 then ((Ie a0.num a1.num).bind fun x1=>(some (x1))) else (if a0.kind=2 then ((EZ a0.char a1.char).bind fun x2=>(some (x2))) else ((rd? a0.box 0).bind fun x3=>((rd? a1.box 0).bind fun x4=>((Eg ((List.length x3.shape:Nat) : Int) ((List.length x4.shape:Nat) : Int)).bind fun x5=>((Db x3.shape x4.shape).bind fun x6=>((AJ x3.items x4.items (⟨.fn 85 [] [],fun x=>rc_pick_order x.1 x.2⟩ : Dh)).bind fun x7=>((Jv ([x5,x6,x7])).bind fun x8=>(some (x8)))))))))) else ((CM a0.kind a1.kind).bind fun x9=>(some (x9))))
theorem Pz {rc_pick_order:Itm→Itm→Option (Int)} (orc_pick_order:∀ x0 x1 r,rc_pick_order x0 x1=some r→Fn Tryz.prog 85 [.ag [.i .u8 x0.kind,.b x0.num.1,.sl (L x0.num.2.1),.sl (L x0.num.2.2),.i .i32 x0.char,.sl (Ars x0.box)],.ag [.i .u8 x1.kind,.b x1.num.1,.sl (L x1.num.2.1),.sl (L x1.num.2.2),.i .i32 x1.char,.sl (Ars x1.box)]] (.d (.i .i64 r))) {a0:Itm} {a1:Itm} {r:Int} (h:I6 rc_pick_order a0 a1=some r) :
  Fn Tryz.prog 85 [.ag [.i .u8 a0.kind,.b a0.num.1,.sl (L a0.num.2.1),.sl (L a0.num.2.2),.i .i32 a0.char,.sl (Ars a0.box)],.ag [.i .u8 a1.kind,.b a1.num.1,.sl (L a1.num.2.1),.sl (L a1.num.2.2),.i .i32 a1.char,.sl (Ars a1.box)]] (.d (.i .i64 r)):=by
 unfold I6 at h
 refine Fn.o1 4 60 Tryz.func85 ?_;refine .sr<|kK vbx<|kK vbx<|kR [2,3,4] zj<|.seq<|.sr<|kK (vfa BS)<|kK (Al AY)<|kK (vfa BS)<|kK (Al AY)<|kB zj<|rk [2,3,4,11] ?_
 rcases brc h with ⟨hc,h⟩|⟨hc,h⟩
 ·refine cnf (ntf (dT hc)) ?_
  refine .sk ?_;refine .seq<|.sr<|kK (vfa BS)<|kK (Al AY)<|rk [2,3,4,18]<|.block<|.sr<|kB zj<|kR [2,3,4,18,19] zj ?_
  rcases brc h with ⟨hc,h⟩|⟨hc,h⟩
  ·refine cnt (dT hc) ?_
   refine .sr<|kK (vfa BJ)<|kK (Ap AU AD)<|kK (vfa BJ)<|kK (Ap AU AD) ?_
   obtain ⟨x1,g1,h⟩:=bnd h
   refine kK (Ag (Ng g1) Tryz.call138)<|kR [2,3,4] zj<|.ret ?_
   cases h
   exact ⟨rfl,rfl⟩
  refine cnf (dF hc) ?_;refine .sr<|kB zj<|kR [2,3,4,26] zj ?_
  rcases brc h with ⟨hc,h⟩|⟨hc,h⟩
  ·refine cnt (dT hc) ?_
   refine .sr<|kK (vfa CU)<|kK (Al CT)<|kK (vfa CU)<|kK (Al CT) ?_
   obtain ⟨x2,g2,h⟩:=bnd h
   refine kK (Ag (Jh g2) Tryz.call139)<|kR [2,3,4] zj<|.ret ?_
   cases h
   exact ⟨rfl,rfl⟩
  refine cnf (dF hc) ?_;refine .sk ?_;refine .seq ?_
  obtain ⟨x3,g3,h⟩:=bnd h
  obtain ⟨x4,g4,h⟩:=bnd h
  refine .drawnF 10 [4,5,6,7] [(5,.nb [.sl (Is x3.shape),.sl (Its x3.items)])] [] AS (by kernel_rfl) rfl ?_;refine kV (vfa A5)<|kV (Al B2) ?_
  obtain ⟨n3,p03,q3⟩:=Aq g3
  refine kV (vix n3 p03 (Dr q3) rfl Du)<|kV (Ap Ah Ad)<|kV (vfa A5)<|kV (Al B2) ?_
  obtain ⟨n4,p04,q4⟩:=Aq g4
  refine kV (vix n4 p04 (Dr q4) rfl Du)<|kV (Ap Ah Ad)<|kV (van (Ae AP) AZ)<|kV (van (Ae AP) AZ)<|dz ?_
  refine ⟨?_,?_,?_⟩
  ·intro k hk
   simp only [List.mem_cons,List.not_mem_nil,or_false] at hk
   rcases hk with rfl|rfl|rfl|rfl
   ·exact ⟨_,_,_,rfl,rfl,rfl,rfl,rfl,rfl,(vfa A5)⟩
   ·exact ⟨_,_,_,rfl,rfl,rfl,rfl,rfl,rfl,(Al B2)⟩
   ·exact ⟨_,_,_,rfl,rfl,rfl,rfl,rfl,rfl,(vix n4 p04 (Dr q4) rfl Du)⟩
   ·exact ⟨_,_,_,rfl,rfl,rfl,rfl,rfl,rfl,(Ap Ah Ad)⟩
  ·intro om e hom hge
   cases hom
   exact HE (cs:=[.sl (Is []),.sl (Its [])]) (cs':=[.sl (Is x3.shape),.sl (Its x3.items)]) Ad (by decide) rfl ((hge 5 (fun k hk v hv=>by
     simp only [List.mem_cons,List.not_mem_nil,or_false] at hk
     rcases hk with rfl|rfl|rfl|rfl
     ·exact (by decide:¬(some 37=some 5)) (congrArg (Option.map Prod.fst) hv)
     ·exact (by decide:¬(some 38=some 5)) (congrArg (Option.map Prod.fst) hv)
     ·exact (by decide:¬(some 39=some 5)) (congrArg (Option.map Prod.fst) hv)
     ·exact (by decide:¬(some 40=some 5)) (congrArg (Option.map Prod.fst) hv))).trans rfl) ((congrArg A0 (hge 36 (fun k hk v hv=>by
     simp only [List.mem_cons,List.not_mem_nil,or_false] at hk
     rcases hk with rfl|rfl|rfl|rfl
     ·exact (by decide:¬(some 37=some 36)) (congrArg (Option.map Prod.fst) hv)
     ·exact (by decide:¬(some 38=some 36)) (congrArg (Option.map Prod.fst) hv)
     ·exact (by decide:¬(some 39=some 36)) (congrArg (Option.map Prod.fst) hv)
     ·exact (by decide:¬(some 40=some 36)) (congrArg (Option.map Prod.fst) hv)))).trans rfl) rfl rfl rfl rfl ⟨rfl,rfl⟩
  refine stn ?_ Ad (by decide)
  refine rk [4,5,6]<|.seq<|.gh (Gh.nbp (t:=5) rfl)<|.gh (Gh.nbp (t:=6) rfl)<|.drawn 19 AS (by kernel_rfl) ?_;refine kV (vfa A6)<|kV (Al Cy)<|kV (AX (Az _) (C7 _) CQ)<|kV (vfa A6)<|kV (Al Cy)<|kV (AX (Az _) (C7 _) CQ) ?_
  obtain ⟨x5,g5,h⟩:=bnd h
  refine kV (Ag (Gn g5) Tryz.call141)<|kV (vfa A6)<|kV (Al Cy)<|kV (vfa A6)<|kV (Al Cy) ?_
  obtain ⟨x6,g6,h⟩:=bnd h
  refine kV (Ag (Gx g6) Tryz.call142)<|kV (vfa AM)<|kV (Al Bl)<|kV (vfa AM)<|kV (Al Bl) ?_
  obtain ⟨x7,g7,h⟩:=bnd h
  refine kV (Ag (Ca (Jf Tryz.call85 (fun _ _ h=>orc_pick_order _ _ _ h)) g7) Tryz.call143)<|kV ((GN (Fc [x5,x6,x7]) Gt).deep) ?_
  obtain ⟨x8,g8,h⟩:=bnd h
  refine kV (Ag (NU g8) Tryz.call140)<|dz ?_;refine kR [4] zj<|.ret ?_
  cases h
  exact ⟨rfl,rfl⟩
 refine cnt (ntt (dF hc)) ?_;refine .sr<|kK (vfa BS)<|kK (Al AY)<|kK (vfa BS)<|kK (Al AY) ?_
 obtain ⟨x9,g9,h⟩:=bnd h
 refine kK (Ag (FU g9) Tryz.call137)<|kR [2,3,4] zj<|.ret ?_
 cases h
 exact ⟨rfl,rfl⟩
def Hv : Nat→Itm→Itm→Option (Int)
 | 0,_,_=>none
 | k+1,a0,a1=>I6 (Hv k) a0 a1
theorem Jt : ∀ (k:Nat) (a0:Itm) (a1:Itm) (r:Int),Hv k a0 a1=some r→Fn Tryz.prog 85 [.ag [.i .u8 a0.kind,.b a0.num.1,.sl (L a0.num.2.1),.sl (L a0.num.2.2),.i .i32 a0.char,.sl (Ars a0.box)],.ag [.i .u8 a1.kind,.b a1.num.1,.sl (L a1.num.2.1),.sl (L a1.num.2.2),.i .i32 a1.char,.sl (Ars a1.box)]] (.d (.i .i64 r))
 | 0,_,_,_,h=>by cases h
 | k+1,a0,a1,_,h=>Pz (Jt k)  (show I6 (Hv k) a0 a1=some _ from h)
def RE (a0:Itm) (a1:Itm) : Option (Int):=Hv (a0.size+1) a0 a1
theorem Rg {a0:Itm} {a1:Itm} {r:Int} (h:RE a0 a1=some r) : Fn Tryz.prog 85 [.ag [.i .u8 a0.kind,.b a0.num.1,.sl (L a0.num.2.1),.sl (L a0.num.2.2),.i .i32 a0.char,.sl (Ars a0.box)],.ag [.i .u8 a1.kind,.b a1.num.1,.sl (L a1.num.2.1),.sl (L a1.num.2.2),.i .i32 a1.char,.sl (Ars a1.box)]] (.d (.i .i64 r)):=Jt _ a0 a1 r  h
def C6 (a0:Int) : Option (Itm):=((DG a0).bind fun x1=>(some ((Itm.mk 1 x1 0 []))))
theorem Gg {a0:Int} {r:Itm} (h:C6 a0=some r) :
  Fn Tryz.prog 94 [.i .i64 a0] (.d (.ag [.i .u8 r.kind,.b r.num.1,.sl (L r.num.2.1),.sl (L r.num.2.2),.i .i32 r.char,.sl (Ars r.box)])):=by
 unfold C6 at h
 refine Fn.ofC (rs:=[.cell 2 44]) (nt:=6) Tryz.func94 rfl rfl rfl (by simp) rfl ?_;refine .sr<|kK (van (Ae Cd) Cf)<|rk [0,2]<|.sr<|kA zj ?_
 obtain ⟨x1,g1,h⟩:=bnd h
 refine kK (Ag (DI g1) Tryz.call69)<|kK (vbd KA Cd Cf) ?_
 refine stn ?_ Am (by decide)
 refine rk [2]<|.ret ?_
 cases h
 exact ⟨_,⟨.inr rfl,AE,Am,p6⟩,rfl⟩
def HD (a0:Int) (a1:Int) (c0:Int) (c1:(List Itm)) (c2:(Int×RT×Int)) : Option (Int):=((rd? c1 (w64 (a0-c2.1))).bind fun x1=>((rd? c1 (w64 (a1-c2.1))).bind fun x2=>((RE x1 x2).bind fun x3=>(some ((w64 (c0 * x3)))))))
theorem L1 {a0:Int} {a1:Int} {c0:Int} {c1:(List Itm)} {c2:(Int×RT×Int)} {r:Int} (h:HD a0 a1 c0 c1 c2=some r) :
  Fn Tryz.prog 84 [.i .i64 a0,.i .i64 a1,.ptr [.i .i64 c0],.ptr [.sl (Its c1)],.ptr [.i .i64 c2.1,.b c2.2.1.1,.sl (L c2.2.1.2.1),.sl (L c2.2.1.2.2),.i .i64 c2.2.2]] (.d (.i .i64 r)):=by
 unfold HD at h
 refine Fn.o1 7 25 Tryz.func84 ?_;refine .sr<|kR [0,1,2,3,4,7] zj<|.seq<|.drawn 17 AS (by kernel_rfl) ?_;refine kV (Al Bh)<|kV (Al Bl)<|kV Ac<|kV (vfa Hp)<|kV (Al Bh)<|kV vbi ?_
 obtain ⟨x1,g1,h⟩:=bnd h
 obtain ⟨n1,p01,q1⟩:=Aq g1
 refine kV (vix n1 p01 (BC q1) rfl Bs)<|kV (Ap AE Am)<|kV (Al Bl)<|kV Ac<|kV (vfa Hp)<|kV (Al Bh)<|kV vbi ?_
 obtain ⟨x2,g2,h⟩:=bnd h
 obtain ⟨n2,p02,q2⟩:=Aq g2
 refine kV (vix n2 p02 (BC q2) rfl Bs)<|kV (Ap AE Am) ?_
 obtain ⟨x3,g3,h⟩:=bnd h
 refine kV (Ag (Rg g3) Tryz.call85)<|kV vbi<|dz ?_;refine kR [7] zj<|.ret ?_
 cases h
 exact ⟨rfl,rfl⟩
def D4 (a0:(Int×RT×Int)) (a1:(List Itm)) (K0:(List Int)→Option (Arr)) : Nat→(List Int)→Int→Option (Arr)
 | 0,_,_=>none
 | k+1,s3,s4=>(if s4<((List.length (List.replicate (Int.toNat ((List.length a1:Nat):Int)) (0:Int)):Nat):Int) then ((rd? s3 s4).bind fun x5=>(D4 a0 a1 K0 k (List.set s3 (Int.toNat s4) (w64 (s4+a0.1))) (w64 (s4+1)))) else (K0 s3))
def JK (a0:(Int×RT×Int)) (a1:(List Itm)) (a2:Int) : Option (Arr):=((Gk (0≤((List.length a1:Nat) : Int)∧((List.length a1:Nat) : Int)≤17592186044416)).bind fun x1=>(jn (fun (z2:(List Int))=>((PG z2 (⟨.fn 84 [] [.ptr [.i .i64 a2],.ptr [.sl (Its a1)],.ptr [.i .i64 a0.1,.b a0.2.1.1,.sl (L a0.2.1.2.1),.sl (L a0.2.1.2.2),.i .i64 a0.2.2]],fun x=>HD x.1 x.2 a2 a1 a0⟩ : Be)).bind fun x6=>((KP x6).bind fun x7=>(some (x7))))) fun K0=>(D4 a0 a1 K0 AH (List.replicate (Int.toNat ((List.length a1:Nat) : Int)) (0:Int)) 0)))
theorem NS {a0:(Int×RT×Int)} {a1:(List Itm)} {a2:Int} {r:Arr} (h:JK a0 a1 a2=some r) :
  Fn Tryz.prog 38 [.ag [.i .i64 a0.1,.b a0.2.1.1,.sl (L a0.2.1.2.1),.sl (L a0.2.1.2.2),.i .i64 a0.2.2],.sl (Its a1),.i .i64 a2] (.d (.ag [.sl (Is r.shape),.sl (Its r.items)])):=by
 unfold JK at h
 refine Fn.ofC (rs:=[.cell 6 25]) (nt:=30) Tryz.func38 rfl rfl rfl (by simp) rfl ?_;refine .sr<|kK vbx<|kK Zm<|kK Zm<|kK (van (Ae AP) AZ)<|rk [3,4,5,6]<|.sr<|kK (Al Bl)<|kK (AX (Ai _) (Bg _) Ba) ?_
 obtain ⟨x1,g1,h⟩:=bnd h
 have ghx1:=HC g1
 refine mk' (F:=Is) (x0:=0) (zl:=((List.length a1:Nat):Int)) (Int.toNat ((List.length a1:Nat):Int)) Z3 (by omega) (by omega) ?_ Gt (by decide)
 refine aso ?_;refine rk [3,4,5,6,7]<|.seq<|.sr<|mvo ?_;refine kK (Q7 (Az _) CQ)<|kA zj<|rk [3,4,5,6,7,13,14] ?_
 obtain ⟨K0,hK0,h⟩:=A1 h
 refine AW.mr (σ:=(List Int)) (fun p=>K0 p=some r) (fun p=>[(3,.d (.ptr [.i .i64 a0.1,.b a0.2.1.1,.sl (L a0.2.1.2.1),.sl (L a0.2.1.2.2),.i .i64 a0.2.2])),(4,.d (.ptr [.sl (Its a1)])),(5,.d (.ptr [.i .i64 a2])),(6,.nb [.sl (Is []),.sl (Its [])]),(7,.own 3 (Is p))]) (fun p=>[]) ?_ ?_
 ·skip
  refine .block ?_
  refine .loop (.gk [3,4,5,6,7,13,14] ?_)
  refine AL.ind (σ:=Nat×(List Int)×Int) (m:=fun p=>p.1) (e:=fun p=>[(3,.d (.ptr [.i .i64 a0.1,.b a0.2.1.1,.sl (L a0.2.1.2.1),.sl (L a0.2.1.2.2),.i .i64 a0.2.2])),(4,.d (.ptr [.sl (Its a1)])),(5,.d (.ptr [.i .i64 a2])),(6,.nb [.sl (Is []),.sl (Its [])]),(7,.own 3 (Is p.2.1)),(13,.d (.i .i64 ((List.length (List.replicate (Int.toNat ((List.length a1:Nat):Int)) (0:Int)):Nat):Int))),(14,.d (.i .i64 p.2.2))]) (h:=fun p=>[]) (I:=fun p=>D4 a0 a1 K0 p.1 p.2.1 p.2.2=some r) ?_ (AH,(List.replicate (Int.toNat ((List.length a1:Nat):Int)) (0:Int)),0) h
  rintro ⟨k,s3,s4⟩ h ih
  dsimp only at h ih ⊢
  rcases k with _|k
  ·rw [D4] at h;cases h
  rw [D4] at h
  refine .sr<|kB zj<|rk [3,4,5,6,7,13,14,15]<|.seq ?_
  rcases brc h with ⟨hc,h⟩|⟨hc,h⟩
  ·refine cnt (dT hc) ?_
   refine .sk ?_;refine .seq<|.block<|.sr<|kA zj<|kR [3,4,5,6,7,8,13,14] zj<|.region<|mvo ?_;refine kA zj<|kA zj<|kK (vfa Hp)<|kK (Al Bh)<|kB zj ?_
   obtain ⟨x5,g5,h⟩:=bnd h
   obtain ⟨n5,p05,q5⟩:=Aq g5
   refine ixr (off:=0) (len:=(Is s3).length) n5 p05 (by rw [Az];exact (lS.1 q5).1) ?_ Dw (by decide)
   refine Z9 (F:=Is) (D:=fun x=>.i .i64 x) SC (us:=s3) (n:=n5) (m:=Int.toNat s4) (x:=(w64 (s4+a0.1))) (by rw [p05];rfl) ⟨_,by rw [Nat.zero_add];exact Ep q5,rfl⟩ ?_ GS
   refine RL.gk [3,4,5,6,7,8,13,14,17,18,19,20,21,22]<|.nil ?_;refine aw<|.gk [3,4,5,6,7,13,14]<|.region<|kB zj<|kA zj<|.nil ?_;refine AL.gk [3,4,5,6,7,13,14] ?_
   exact ih (k,(List.set s3 (Int.toNat s4) (w64 (s4+a0.1))),(w64 (s4+1))) h (Nat.lt_succ_self _)
  refine cnf (dF hc) ?_;refine .gk [3,4,5,6,7]<|.exit ?_
  exact jr (s3) h
 rintro z2 h
 try dsimp only at h ⊢
 subst hK0
 refine aw<|.sr<|mvo ?_;refine kK X0 ?_
 obtain ⟨x6,g6,h⟩:=bnd h
 refine XF (Is x6) ?_ (SF (Jf Tryz.call84 (fun _ _ h=>L1 h)) g6) Tryz.call83
 refine RL.gk [3,4,5,6,7,26,27]<|rk [6,7]<|.sr<|fz (p:=.t 7) ?_;refine kA zj ?_
 obtain ⟨x7,g7,h⟩:=bnd h
 refine vk (Ag (G4 g7) Tryz.call26) ?_
 refine stn ?_ Ad (by decide)
 refine rk [6]<|.ret ?_
 cases h
 exact ⟨_,⟨.inr rfl,Ah,Ad,p2⟩,rfl⟩
def Dg (a0:Arr) : Option (Bool):=((Bw a0).bind fun x1=>(some ((!x1))))
theorem HY {a0:Arr} {r:Bool} (h:Dg a0=some r) :
  Fn Tryz.prog 78 [.ag [.sl (Is a0.shape),.sl (Its a0.items)]] (.d (.b r)):=by
 unfold Dg at h
 refine Fn.o1 2 6 Tryz.func78 ?_;refine .sr<|kK vbx<|kR [1,2] zj<|.sr<|kK (Ap Ah Ad) ?_
 obtain ⟨x1,g1,h⟩:=bnd h
 refine kK (Ag (C1 g1) Tryz.call25)<|kK vnt<|kR [2] zj<|.ret ?_
 cases h
 exact ⟨rfl,rfl⟩
def El (a0:(Int×RT×Int)) (a1:(List Arr)) : Option (Bool):=(Option.bind ((if a0.1=0 then ((AC a1 (⟨.fn 78 [] [],fun x=>Dg x⟩ : BQ)).bind fun x2=>(some (!x2))) else (if a0.1=1 then ((AC a1 (⟨.fn 78 [] [],fun x=>Dg x⟩ : BQ)).bind fun x3=>(some (!x3))) else (some false))) : Option (Bool)) fun (z1:Bool)=>(some (z1)))
theorem Jk {a0:(Int×RT×Int)} {a1:(List Arr)} {r:Bool} (h:El a0 a1=some r) :
  Fn Tryz.prog 30 [.ag [.i .i64 a0.1,.b a0.2.1.1,.sl (L a0.2.1.2.1),.sl (L a0.2.1.2.2),.i .i64 a0.2.2],.sl (Ars a1)] (.d (.b r)):=by
 unfold El at h
 refine Fn.o1 4 18 Tryz.func30 ?_;refine .sr<|kK vbx<|kR [1,2,4] zj<|.seq ?_
 obtain ⟨z1,hz,h⟩:=bnd h
 refine AW.mr (σ:=Unit) (fun _=>True) (fun _=>[(4,.d (.b z1))]) (fun _=>[]) ?_ ?_
 ·skip
  refine .region<|kK (vfa Hp)<|kK (Al Bh)<|kB zj ?_
  rcases brc hz with ⟨hc,hz⟩|⟨hc,hz⟩
  ·have hb0:(decide (a0.1=0))=true:=(dT hc)
   refine kC zj hb0<|gf3 ?_;refine kK Ao<|kA zj<|kA zj ?_
   obtain ⟨x2,g2,hz⟩:=bnd hz
   refine kK (Ag (BR (Jf Tryz.call78 (fun _ _ h=>HY h)) g2) Tryz.call77)<|kK vnt<|kK Ao<|kD zj<|RL.gk [4]<|.nil ?_
   cases hz
   exact jr () trivial
  have hb0:(decide (a0.1=0))=false:=(dF hc)
  refine kC zj hb0<|kK (vfa Hp)<|kK (Al Bh)<|kB zj<|kK Ao ?_
  rcases brc hz with ⟨hc,hz⟩|⟨hc,hz⟩
  ·have hb1:(decide (a0.1=1))=true:=(dT hc)
   refine kC zj hb1<|kA zj ?_
   obtain ⟨x3,g3,hz⟩:=bnd hz
   refine kK (Ag (BR (Jf Tryz.call78 (fun _ _ h=>HY h)) g3) Tryz.call77)<|kK vnt<|kK Ao<|kD zj<|RL.gk [4]<|.nil ?_
   cases hz
   exact jr () trivial
  have hb1:(decide (a0.1=1))=false:=(dF hc)
  refine kC zj hb1<|gf3 ?_;refine kK Ao<|kD zj<|RL.gk [4]<|.nil ?_
  cases hz
  exact jr () trivial
 rintro _ _
 refine .ret ?_
 cases h
 exact ⟨rfl,rfl⟩
def BB (a0:(List (List Int))) (K0:Int→Option ((List Int))) : Nat→Int→Int→Option ((List Int))
 | 0,_,_=>none
 | k+1,s2,s3=>(if s3<((List.length a0:Nat):Int) then (jn (fun (z4:Int)=>(BB a0 K0 k z4 (w64 (s3+1)))) fun K2=>((rd? a0 s3).bind fun x5=>((Gk (¬((w64 (s2+((List.length x5:Nat):Int)))<0))).bind fun x6=>(K2 (w64 (s2+((List.length x5:Nat):Int))))))) else (K0 s2))
def Bz (a0:(List (List Int))) (K3:(List Int)→Option ((List Int))) : Nat→(List Int)→Int→Option ((List Int))
 | 0,_,_=>none
 | k+1,s9,s10=>(if s10<((List.length a0:Nat):Int) then ((rd? a0 s10).bind fun x11=>((ap? 17592186044416 s9 x11).bind fun x12=>(Bz a0 K3 k x12 (w64 (s10+1))))) else (K3 s9))
def Dp (a0:(List (List Int))) : Option ((List Int)):=(jn (fun (z1:Int)=>((Gk (0≤z1∧z1≤VA)).bind fun x7=>(jn (fun (z8:(List Int))=>(some (z8))) fun K3=>(Bz a0 K3 AH [] 0)))) fun K0=>(BB a0 K0 AH 0 0))
theorem GV {a0:(List (List Int))} {r:(List Int)} (h:Dp a0=some r) :
  Fn Tryz.prog 80 [.sl (IsS a0)] (.d (.sl (Is r))):=by
 unfold Dp at h
 refine Fn.o1 2 36 Tryz.func80 ?_;refine .sr<|asn ?_;refine rk [0,2]<|.sr<|kR [0,2,3] zj<|.seq<|.sr<|kA zj<|kK (AX (Nj _) (Wl _) WN)<|kA zj<|rk [0,2,3,9,10,11] ?_
 obtain ⟨K0,hK0,h⟩:=A1 h
 refine AW.mr (σ:=Int) (fun p=>K0 p=some r) (fun p=>[(0,.d (.sl (IsS a0))),(2,.nl),(3,.d (.i .i64 p))]) (fun p=>[]) ?_ ?_
 ·skip
  refine .block ?_
  refine .loop (.gk [0,2,3,9,10,11] ?_)
  refine AL.ind (σ:=Nat×Int×Int) (m:=fun p=>p.1) (e:=fun p=>[(0,.d (.sl (IsS a0))),(2,.nl),(3,.d (.i .i64 p.2.1)),(9,.d (.sl (IsS a0))),(10,.d (.i .i64 ((List.length a0:Nat):Int))),(11,.d (.i .i64 p.2.2))]) (h:=fun p=>[]) (I:=fun p=>BB a0 K0 p.1 p.2.1 p.2.2=some r) ?_ (AH,0,0) h
  rintro ⟨k,s2,s3⟩ h ih
  dsimp only at h ih ⊢
  rcases k with _|k
  ·rw [BB] at h;cases h
  rw [BB] at h
  refine .sr<|kB zj<|rk [0,2,3,9,10,11,12]<|.seq ?_
  rcases brc h with ⟨hc,h⟩|⟨hc,h⟩
  ·refine cnt (dT hc) ?_
   refine .sk ?_
   obtain ⟨K2,hK2,h⟩:=A1 h
   refine AW.mj (σ:=Int) (fun p=>K2 p=some r) (fun p=>[(0,.d (.sl (IsS a0))),(2,.nl),(3,.d (.i .i64 p)),(9,.d (.sl (IsS a0))),(10,.d (.i .i64 ((List.length a0:Nat):Int))),(11,.d (.i .i64 s3))]) (fun p=>[]) ?_ ?_
   ·skip
    refine .block<|.sr ?_
    obtain ⟨x5,g5,h⟩:=bnd h
    obtain ⟨n5,p05,q5⟩:=Aq g5
    refine kK (vix n5 p05 (VJ q5) rfl Wv)<|kK (Al Cy)<|kR [0,2,3,5,9,10,11] zj<|.sr<|kA zj<|kA zj<|kK (AX (Az _) (C7 _) CQ)<|kB zj<|kR [0,2,3,9,10,11] zj<|.sr<|kA zj<|kB zj<|rk [0,2,3,9,10,11,20] ?_
    obtain ⟨x6,g6,h⟩:=bnd h
    have hc:=HC g6
    refine cnf (dF hc) ?_;refine .gk [0,2,3,9,10,11]<|.skip ?_
    exact jr ((w64 (s2+((List.length x5:Nat):Int)))) h
   rintro z4 h
   try dsimp only at h ⊢
   subst hK2
   refine .region<|kB zj<|kA zj<|.nil ?_;refine AL.gk [0,2,3,9,10,11] ?_
   exact ih (k,z4,(w64 (s3+1))) h (Nat.lt_succ_self _)
  refine cnf (dF hc) ?_;refine .gk [0,2,3]<|.exit ?_
  exact jr (s2) h
 rintro z1 h
 try dsimp only at h ⊢
 subst hK0
 refine aw<|.sr<|kA zj ?_
 obtain ⟨x7,g7,h⟩:=bnd h
 refine clR (avs:=[.nl,.d (.i .i64 z1)]) (Ya WR W0 (HC g7)) Tryz.call125 (fun r' H' hp=>?_)
 obtain ⟨rfl,rfl⟩:=hp
 refine aso ?_;refine rk [0,2,6]<|.seq<|.sr<|kA zj<|kK (AX (Nj _) (Wl _) WN)<|kA zj<|rk [2,6,25,26,27] ?_
 obtain ⟨K3,hK3,h⟩:=A1 h
 refine AW.mr (σ:=(List Int)) (fun p=>K3 p=some r) (fun p=>[(2,.nl),(6,.own 3 (Is p))]) (fun p=>[]) ?_ ?_
 ·skip
  refine .block ?_
  refine .loop (.gk [2,6,25,26,27] ?_)
  refine AL.ind (σ:=Nat×(List Int)×Int) (m:=fun p=>p.1) (e:=fun p=>[(2,.nl),(6,.own 3 (Is p.2.1)),(25,.d (.sl (IsS a0))),(26,.d (.i .i64 ((List.length a0:Nat):Int))),(27,.d (.i .i64 p.2.2))]) (h:=fun p=>[]) (I:=fun p=>Bz a0 K3 p.1 p.2.1 p.2.2=some r) ?_ (AH,[],0) h
  rintro ⟨k,s9,s10⟩ h ih
  dsimp only at h ih ⊢
  rcases k with _|k
  ·rw [Bz] at h;cases h
  rw [Bz] at h
  refine .sr<|kB zj<|rk [2,6,25,26,27,28]<|.seq ?_
  rcases brc h with ⟨hc,h⟩|⟨hc,h⟩
  ·refine cnt (dT hc) ?_
   refine .sk ?_;refine .seq<|.block<|.sr ?_
   obtain ⟨x11,g11,h⟩:=bnd h
   obtain ⟨n11,p011,q11⟩:=Aq g11
   refine kK (vix n11 p011 (VJ q11) rfl Wv)<|kK (Al Cy)<|kR [2,6,8,25,26,27] zj<|.region<|mvo ?_;refine kA zj ?_
   obtain ⟨x12,g12,h⟩:=bnd h
   refine WJ RX g12 UZ ?_ PF Az Gt
   refine aso ?_;refine .nil ?_;refine aw<|.gk [2,6,25,26,27]<|.region<|kB zj<|kA zj<|.nil ?_;refine AL.gk [2,6,25,26,27] ?_
   exact ih (k,x12,(w64 (s10+1))) h (Nat.lt_succ_self _)
  refine cnf (dF hc) ?_;refine .gk [2,6]<|.exit ?_
  exact jr (s9) h
 rintro z8 h
 try dsimp only at h ⊢
 subst hK3
 refine aw<|.sr<|fz (p:=.t 6) ?_;refine kA zj<|kR [2] zj<|.ret ?_
 cases h
 exact ⟨rfl,rfl⟩
def Ga (a0:Int) : Option (Bool):=((U5 (⟨#[226,138,130,226,138,131,226,134,145,226,136,138,226,141,139,226,141,146,226,136,170,226,137,161,226,137,162,226,141,179]⟩ : ByteArray) a0).bind fun x1=>(some (x1)))
theorem J6 {a0:Int} {r:Bool} (h:Ga a0=some r) :
  Fn Tryz.prog 29 [.i .i32 a0] (.d (.b r)):=by
 unfold Ga at h
 refine Fn.o1 2 5 Tryz.func29 ?_;refine .sr<|kR [0,2] zj<|.sr<|kA zj ?_
 obtain ⟨x1,g1,h⟩:=bnd h
 refine kK (Ag (Vm g1) Tryz.call76)<|kR [2] zj<|.ret ?_
 cases h
 exact ⟨rfl,rfl⟩
theorem Q8 {l:List Arr} (hl:l.length≤17592186044416) (ho:∀ a∈l,okAr a) : El (1,(false,[],[]),0) l=some (!l.any fun a=>!decide (BL a)):=by
 have hc:=NV (xs:=l) (f:=(⟨.fn 78 [] [],fun x=>Dg x⟩:BQ)) (p:=fun a=>!decide (BL a)) (fun a ha=>by
  show Dg a=_
  unfold Dg;rw [Ip (ho a ha)];rfl) hl
 unfold El
 rw [if_neg (show ¬((1:Int)=0) by decide),if_pos rfl,hc];rfl
theorem OO {a b:Arr} (oa:okAr a) (ra:BL a) (ob:okAr b) (rb:BL b) : El (1,(false,[],[]),0) [a,b]=some true:=by
 rw [Q8 (by simp) (by simp [oa,ob])];simp [ra,rb]
theorem Qy {js:List Int} (h0:js≠[]) (hl:js.length≤4096) : Z5 js=vec (js.map Cj):=by
 have:js.length≠0:=by simpa using h0
 unfold Z5 Mt vec
 rw [List.length_map,Nat.min_eq_left hl,if_neg this,List.take_of_length_le (by simpa using hl)]
def BO (a0:Itm) (a1:Itm) (K0:Bool→Option (Bool)) : Nat→Bool→Int→Option (Bool)
 | 0,_,_=>none
 | k+1,s4,s5=>(if s5<((List.length a0.box:Nat):Int) then ((rd? a0.box s5).bind fun x6=>((rd? a1.box s5).bind fun x7=>((Hd x6 x7).bind fun x8=>(if x8=true then (BO a0 a1 K0 k s4 (w64 (s5+1))) else (some (false)))))) else (K0 s4))
def C0 (a0:Itm) (a1:Itm) : Option (Bool):=(Option.bind ((if a0.kind=a1.kind then (if a0.char=a1.char then ((J9 a0.num a1.num).bind fun x2=>(if x2=true then (some (!(decide (((List.length a0.box:Nat) : Int)=((List.length a1.box:Nat) : Int))))) else (some true))) else (some true)) else (some true)) : Option (Bool)) fun (z1:Bool)=>(if z1=true then (some (false)) else (jn (fun (z3:Bool)=>(some (true))) fun K0=>(BO a0 a1 K0 AH false 0))))
theorem Kl {a0:Itm} {a1:Itm} {r:Bool} (h:C0 a0 a1=some r) :
  Fn Tryz.prog 16 [.ag [.i .u8 a0.kind,.b a0.num.1,.sl (L a0.num.2.1),.sl (L a0.num.2.2),.i .i32 a0.char,.sl (Ars a0.box)],.ag [.i .u8 a1.kind,.b a1.num.1,.sl (L a1.num.2.1),.sl (L a1.num.2.2),.i .i32 a1.char,.sl (Ars a1.box)]] (.d (.b r)):=by
 unfold C0 at h
 refine Fn.o1 4 54 Tryz.func16 ?_;refine .sr<|kK vbx<|kK vbx<|kR [2,3,4] zj<|.seq<|.seq ?_
 obtain ⟨z1,hz,h⟩:=bnd h
 refine AW.mr (σ:=Unit) (fun _=>True) (fun _=>[(2,.d (.ptr [.i .u8 a0.kind,.b a0.num.1,.sl (L a0.num.2.1),.sl (L a0.num.2.2),.i .i32 a0.char,.sl (Ars a0.box)])),(3,.d (.ptr [.i .u8 a1.kind,.b a1.num.1,.sl (L a1.num.2.1),.sl (L a1.num.2.2),.i .i32 a1.char,.sl (Ars a1.box)])),(4,.d (.b false)),(34,.d (.b z1))]) (fun _=>[]) ?_ ?_
 ·skip
  refine .region<|kK (vfa BS)<|kK (Al AY)<|kK (vfa BS)<|kK (Al AY)<|kB zj ?_
  rcases brc hz with ⟨hc,hz⟩|⟨hc,hz⟩
  ·have hb0:(!(decide (a0.kind=a1.kind)))=false:=(ntf (dT hc))
   refine kC zj hb0<|kK (vfa CU)<|kK (Al CT)<|kK (vfa CU)<|kK (Al CT)<|kB zj<|kK Ao ?_
   rcases brc hz with ⟨hc,hz⟩|⟨hc,hz⟩
   ·have hb1:(!(decide (a0.char=a1.char)))=false:=(ntf (dT hc))
    refine kC zj hb1<|kK (vfa BJ)<|kK (Ap AU AD)<|kK (vfa BJ)<|kK (Ap AU AD) ?_
    obtain ⟨x2,g2,hz⟩:=bnd hz
    refine kK (Ag (LC g2) Tryz.call12)<|kK vnt<|kK Ao ?_
    rcases brc hz with ⟨hc,hz⟩|⟨hc,hz⟩
    ·have hb2:(!x2)=false:=(ntf hc)
     refine kC zj hb2<|kK (vfa A5)<|kK (Al B2)<|kK (AX (Bu _) (Ek _) Ei)<|kK (vfa A5)<|kK (Al B2)<|kK (AX (Bu _) (Ek _) Ei)<|kB zj<|kK Ao<|RL.gk [2,3,4,34]<|.nil ?_
     cases hz
     exact jr () trivial
    have hb2:(!x2)=true:=(ntt (bf hc))
    refine kC zj hb2<|gf4 ?_;refine gf3 ?_;refine kK Ao<|RL.gk [2,3,4,34]<|.nil ?_
    cases hz
    exact jr () trivial
   have hb1:(!(decide (a0.char=a1.char)))=true:=(ntt (dF hc))
   refine kC zj hb1<|gf4 ?_;refine gf2 ?_;refine kK Ao<|kA zj<|gf4 ?_;refine gf3 ?_;refine kK Ao<|RL.gk [2,3,4,34]<|.nil ?_
   cases hz
   exact jr () trivial
  have hb0:(!(decide (a0.kind=a1.kind)))=true:=(ntt (dF hc))
  refine kC zj hb0<|gf4 ?_;refine kG<|kK Ao<|kA zj<|gf4 ?_;refine gf2 ?_;refine kK Ao<|kA zj<|gf4 ?_;refine gf3 ?_;refine kK Ao<|RL.gk [2,3,4,34]<|.nil ?_
  cases hz
  exact jr () trivial
 rintro _ _
 rcases brc h with ⟨hc,h⟩|⟨hc,h⟩
 ·refine cnt hc ?_
  refine .sr<|kR [2,3,4] zj<|.ret ?_
  cases h
  exact ⟨rfl,rfl⟩
 refine cnf (bf hc) ?_;refine .sk ?_;refine .seq<|.sr<|kR [2,3,4,5] zj ?_
 obtain ⟨K0,hK0,h⟩:=A1 h
 refine AW.mr (σ:=Bool) (fun p=>K0 p=some r) (fun p=>[(4,.d (.b p))]) (fun p=>[]) ?_ ?_
 ·skip
  refine .block ?_
  refine .loop (.gk [2,3,4,5] ?_)
  refine AL.ind (σ:=Nat×Bool×Int) (m:=fun p=>p.1) (e:=fun p=>[(2,.d (.ptr [.i .u8 a0.kind,.b a0.num.1,.sl (L a0.num.2.1),.sl (L a0.num.2.2),.i .i32 a0.char,.sl (Ars a0.box)])),(3,.d (.ptr [.i .u8 a1.kind,.b a1.num.1,.sl (L a1.num.2.1),.sl (L a1.num.2.2),.i .i32 a1.char,.sl (Ars a1.box)])),(4,.d (.b p.2.1)),(5,.d (.i .i64 p.2.2))]) (h:=fun p=>[]) (I:=fun p=>BO a0 a1 K0 p.1 p.2.1 p.2.2=some r) ?_ (AH,false,0) h
  rintro ⟨k,s4,s5⟩ h ih
  dsimp only at h ih ⊢
  rcases k with _|k
  ·rw [BO] at h;cases h
  rw [BO] at h
  refine .seq<|.sr<|kA zj<|kK (vfa A5)<|kK (Al B2)<|kK (AX (Bu _) (Ek _) Ei)<|kB zj<|rk [2,3,4,5,39] ?_
  rcases brc h with ⟨hc,h⟩|⟨hc,h⟩
  ·refine cnt (dT hc) ?_
   refine .sk ?_;refine .seq<|.block<|.seq<|.drawn 12 AS (by kernel_rfl) ?_;refine kV (vfa A5)<|kV (Al B2)<|kV Ac ?_
   obtain ⟨x6,g6,h⟩:=bnd h
   obtain ⟨n6,p06,q6⟩:=Aq g6
   refine kV (vix n6 p06 (Dr q6) rfl Du)<|kV (Ap Ah Ad)<|kV (vfa A5)<|kV (Al B2)<|kV Ac ?_
   obtain ⟨x7,g7,h⟩:=bnd h
   obtain ⟨n7,p07,q7⟩:=Aq g7
   refine kV (vix n7 p07 (Dr q7) rfl Du)<|kV (Ap Ah Ad) ?_
   obtain ⟨x8,g8,h⟩:=bnd h
   refine kV (Ag (PC g8) Tryz.call10)<|kV vnt<|dz ?_;refine rk [2,3,4,5,53] ?_
   rcases brc h with ⟨hc,h⟩|⟨hc,h⟩
   ·refine cnf (ntf hc) ?_
    refine .sk ?_;refine .region<|kA zj<|kB zj<|kD zj<|.nil ?_;refine AL.gk [2,3,4,5] ?_
    exact ih (k,s4,(w64 (s5+1))) h (Nat.lt_succ_self _)
   refine cnt (ntt (bf hc)) ?_;refine .sr<|kR [2,3,4,5] zj<|.ret ?_
   cases h
   exact ⟨rfl,rfl⟩
  refine cnf (dF hc) ?_;refine .gk [4]<|.exit ?_
  exact jr (s4) h
 rintro z3 h
 try dsimp only at h ⊢
 subst hK0
 refine aw<|.sr<|kR [4] zj<|.ret ?_
 cases h
 exact ⟨rfl,rfl⟩
theorem P6 (x y:Itm) (K:Bool→Option Bool) : ∀ (k:Nat) (s:Bool) (i:Int),BO x y K k s i=Bj Hd x y K k s i
 | 0,_,_=>rfl
 | k+1,s,i=>by
  rw [BO,Bj]
  simp only [P6 x y K k]
theorem QM {x y:Itm} (hx:okI x) : Tells (C0 x y) (x=y):=by
 have e:C0 x y=BT Hd x y:=by
  unfold C0 BT
  simp only [P6]
 rw [e]
 exact Kr hx fun a ha b _=>XZ (((Eb x).1 hx).2.2.2.2 a ha)
end Go.FL
namespace Go.FL
open Go
structure Ord3 {α:Type} (c:α→α→Int) : Prop where
 asym:∀ x y,c x y<0→¬c y x<0
 trans:∀ x y z,¬c y x<0→¬c z y<0→¬c z x<0
section
variable {α:Type} {c:α→α→Int}
end
end Go.FL
namespace Go.FL
open Go
structure Cmp3 {α:Type} (f:α→α→Int) : Prop where
 vals:∀ x y,f x y=-1∨f x y=0∨f x y=1
 anti:∀ x y,f y x=- f x y
 trans:∀ x y z,f x y≤0→f y z≤0→f x z≤0
end Go.FL
namespace Go.FL
open Go Go.Proofs
def En (x4:Arr) (K0:ByteArray→Option (ByteArray)) : Nat→ByteArray→Int→Option (ByteArray)
 | 0,_,_=>none
 | k+1,s6,s7=>(if s7<((List.length x4.shape:Nat):Int) then ((rd? x4.shape s7).bind fun x8=>((DG x8).bind fun x9=>((Ew x9).bind fun x10=>((FF x10 (⟨#[32]⟩:ByteArray)).bind fun x11=>((FF s6 x11).bind fun x12=>(En x4 K0 k x12 (w64 (s7+1)))))))) else (K0 s6))
def DJ (rc_pick_key:Itm→Option (ByteArray)) (x14:Arr) (K2:ByteArray→Option (ByteArray)) : Nat→ByteArray→Int→Option (ByteArray)
 | 0,_,_=>none
 | k+1,s16,s17=>(if s17<((List.length x14.items:Nat):Int) then ((rd? x14.items s17).bind fun x18=>((rc_pick_key x18).bind fun x19=>((FF s16 x19).bind fun x20=>(DJ rc_pick_key x14 K2 k x20 (w64 (s17+1)))))) else (K2 s16))
def Ki (rc_pick_key:Itm→Option (ByteArray)) (a0:Itm) : Option (ByteArray):=(if a0.kind=1 then ((Ew a0.num).bind fun x1=>((FF x1 (⟨#[59]⟩ : ByteArray)).bind fun x2=>(some (x2)))) else (if a0.kind=2 then ((FF (⟨#[39]⟩ : ByteArray) (Utf8.encode a0.char)).bind fun x3=>(some (x3))) else ((rd? a0.box 0).bind fun x4=>(jn (fun (z5:ByteArray)=>((FF z5 (⟨#[58]⟩ : ByteArray)).bind fun x13=>((rd? a0.box 0).bind fun x14=>(jn (fun (z15:ByteArray)=>((FF z15 (⟨#[41]⟩ : ByteArray)).bind fun x21=>(some (x21)))) fun K2=>(DJ rc_pick_key x14 K2 AH x13 0))))) fun K0=>(En x4 K0 AH (⟨#[40]⟩ : ByteArray) 0)))))
theorem Sm {rc_pick_key:Itm→Option (ByteArray)} (orc_pick_key:∀ x0 r,rc_pick_key x0=some r→Fn Tryz.prog 102 [.ag [.i .u8 x0.kind,.b x0.num.1,.sl (L x0.num.2.1),.sl (L x0.num.2.2),.i .i32 x0.char,.sl (Ars x0.box)]] (.d (.s r))) {a0:Itm} {r:ByteArray} (h:Ki rc_pick_key a0=some r) :
  Fn Tryz.prog 102 [.ag [.i .u8 a0.kind,.b a0.num.1,.sl (L a0.num.2.1),.sl (L a0.num.2.2),.i .i32 a0.char,.sl (Ars a0.box)]] (.d (.s r)):=by
 unfold Ki at h
 refine Fn.o1 2 58 Tryz.func102 ?_;refine .sr<|kK vbx<|kR [1,2] zj<|.seq<|.sr<|kK (vfa BS)<|kK (Al AY)<|rk [1,2,9]<|.block<|.sr<|kB zj<|kR [1,2,9,10] zj ?_
 rcases brc h with ⟨hc,h⟩|⟨hc,h⟩
 ·refine cnt (dT hc) ?_
  refine .sr<|kK (vfa BJ)<|kK (Ap AU AD) ?_
  obtain ⟨x1,g1,h⟩:=bnd h
  refine vk (Ag (Kc g1) Tryz.call154) ?_
  obtain ⟨x2,g2,h⟩:=bnd h
  refine kK (vsa g2)<|kR [1,2] zj<|.ret ?_
  cases h
  exact ⟨rfl,rfl⟩
 refine cnf (dF hc) ?_;refine .sr<|kB zj<|kR [1,2,16] zj ?_
 rcases brc h with ⟨hc,h⟩|⟨hc,h⟩
 ·refine cnt (dT hc) ?_
  refine .sr<|kK (vfa CU)<|kK (Al CT)<|kK (Abw (by rw [Rh];rfl) st) ?_
  obtain ⟨x3,g3,h⟩:=bnd h
  refine kK (vsa g3)<|kR [1,2] zj<|.ret ?_
  cases h
  exact ⟨rfl,rfl⟩
 refine cnf (dF hc) ?_;refine .sk ?_;refine .sr<|kR [1,2,3] zj<|.seq<|.sr<|kK (vfa A5)<|kK (Al B2) ?_
 obtain ⟨x4,g4,h⟩:=bnd h
 obtain ⟨n4,p04,q4⟩:=Aq g4
 refine kK (vix n4 p04 (Dr q4) rfl Du)<|kK (vfa A6)<|kK (Al Cy)<|kK (AX (Az _) (C7 _) CQ)<|kA zj<|rk [1,2,3,26,27,28] ?_
 obtain ⟨K0,hK0,h⟩:=A1 h
 refine AW.mr (σ:=ByteArray) (fun p=>K0 p=some r) (fun p=>[(1,.d (.ptr [.i .u8 a0.kind,.b a0.num.1,.sl (L a0.num.2.1),.sl (L a0.num.2.2),.i .i32 a0.char,.sl (Ars a0.box)])),(2,.d (.s (⟨#[]⟩:ByteArray))),(3,.d (.s p))]) (fun p=>[]) ?_ ?_
 ·skip
  refine .block ?_
  refine .loop (.gk [1,2,3,26,27,28] ?_)
  refine AL.ind (σ:=Nat×ByteArray×Int) (m:=fun p=>p.1) (e:=fun p=>[(1,.d (.ptr [.i .u8 a0.kind,.b a0.num.1,.sl (L a0.num.2.1),.sl (L a0.num.2.2),.i .i32 a0.char,.sl (Ars a0.box)])),(2,.d (.s (⟨#[]⟩:ByteArray))),(3,.d (.s p.2.1)),(26,.d (.sl (Is x4.shape))),(27,.d (.i .i64 ((List.length x4.shape:Nat):Int))),(28,.d (.i .i64 p.2.2))]) (h:=fun p=>[]) (I:=fun p=>En x4 K0 p.1 p.2.1 p.2.2=some r) ?_ (AH,(⟨#[40]⟩:ByteArray),0) h
  rintro ⟨k,s6,s7⟩ h ih
  dsimp only at h ih ⊢
  rcases k with _|k
  ·rw [En] at h;cases h
  rw [En] at h
  refine .sr<|kB zj<|rk [1,2,3,26,27,28,29]<|.seq ?_
  rcases brc h with ⟨hc,h⟩|⟨hc,h⟩
  ·refine cnt (dT hc) ?_
   refine .sk ?_;refine .seq<|.block<|.sr ?_
   obtain ⟨x8,g8,h⟩:=bnd h
   obtain ⟨n8,p08,q8⟩:=Aq g8
   refine kK (vix n8 p08 (Ep q8) rfl Dw)<|kK (Al Bh)<|kR [1,2,3,5,26,27,28] zj<|.region<|kA zj<|kA zj ?_
   obtain ⟨x9,g9,h⟩:=bnd h
   refine vk (Ag (DI g9) Tryz.call69) ?_
   obtain ⟨x10,g10,h⟩:=bnd h
   refine vk (Ag (Kc g10) Tryz.call154) ?_
   obtain ⟨x11,g11,h⟩:=bnd h
   refine vk (vsa g11) ?_
   obtain ⟨x12,g12,h⟩:=bnd h
   refine kK (vsa g12)<|kD zj<|.nil ?_;refine aw<|.gk [1,2,3,26,27,28]<|.region<|kB zj<|kA zj<|.nil ?_;refine AL.gk [1,2,3,26,27,28] ?_
   exact ih (k,x12,(w64 (s7+1))) h (Nat.lt_succ_self _)
  refine cnf (dF hc) ?_;refine .gk [1,2,3]<|.exit ?_
  exact jr (s6) h
 rintro z5 h
 try dsimp only at h ⊢
 subst hK0
 refine aw<|.sr<|kA zj ?_
 obtain ⟨x13,g13,h⟩:=bnd h
 refine kK (vsa g13)<|kR [1,2,3] zj<|.seq<|.sr<|kK (vfa A5)<|kK (Al B2) ?_
 obtain ⟨x14,g14,h⟩:=bnd h
 obtain ⟨n14,p014,q14⟩:=Aq g14
 refine kK (vix n14 p014 (Dr q14) rfl Du)<|kK (vfa AM)<|kK (Al Bl)<|kK (AX (Ai _) (Bg _) Ba)<|kA zj<|rk [2,3,45,46,47] ?_
 obtain ⟨K2,hK2,h⟩:=A1 h
 refine AW.mr (σ:=ByteArray) (fun p=>K2 p=some r) (fun p=>[(2,.d (.s (⟨#[]⟩:ByteArray))),(3,.d (.s p))]) (fun p=>[]) ?_ ?_
 ·skip
  refine .block ?_
  refine .loop (.gk [2,3,45,46,47] ?_)
  refine AL.ind (σ:=Nat×ByteArray×Int) (m:=fun p=>p.1) (e:=fun p=>[(2,.d (.s (⟨#[]⟩:ByteArray))),(3,.d (.s p.2.1)),(45,.d (.sl (Its x14.items))),(46,.d (.i .i64 ((List.length x14.items:Nat):Int))),(47,.d (.i .i64 p.2.2))]) (h:=fun p=>[]) (I:=fun p=>DJ rc_pick_key x14 K2 p.1 p.2.1 p.2.2=some r) ?_ (AH,x13,0) h
  rintro ⟨k,s16,s17⟩ h ih
  dsimp only at h ih ⊢
  rcases k with _|k
  ·rw [DJ] at h;cases h
  rw [DJ] at h
  refine .sr<|kB zj<|rk [2,3,45,46,47,48]<|.seq ?_
  rcases brc h with ⟨hc,h⟩|⟨hc,h⟩
  ·refine cnt (dT hc) ?_
   refine .sk ?_;refine .seq<|.block<|.sr ?_
   obtain ⟨x18,g18,h⟩:=bnd h
   obtain ⟨n18,p018,q18⟩:=Aq g18
   refine kK (vix n18 p018 (BC q18) rfl Bs)<|kK (Ap AE Am)<|kK (van (Ae Cd) Cf) ?_
   refine stn ?_ Am (by decide)
   refine rk [2,3,7,45,46,47]<|.region<|kA zj<|kK (Dv AE Am) ?_
   obtain ⟨x19,g19,h⟩:=bnd h
   refine vk (Ag (orc_pick_key _ _ g19) Tryz.call102) ?_
   obtain ⟨x20,g20,h⟩:=bnd h
   refine kK (vsa g20)<|kD zj<|.nil ?_;refine aw<|.gk [2,3,45,46,47]<|.region<|kB zj<|kA zj<|.nil ?_;refine AL.gk [2,3,45,46,47] ?_
   exact ih (k,x20,(w64 (s17+1))) h (Nat.lt_succ_self _)
  refine cnf (dF hc) ?_;refine .gk [2,3]<|.exit ?_
  exact jr (s16) h
 rintro z15 h
 try dsimp only at h ⊢
 subst hK2
 refine aw<|.sr<|kA zj ?_
 obtain ⟨x21,g21,h⟩:=bnd h
 refine kK (vsa g21)<|kR [2] zj<|.ret ?_
 cases h
 exact ⟨rfl,rfl⟩
def Fj : Nat→Itm→Option (ByteArray)
 | 0,_=>none
 | k+1,a0=>Ki (Fj k) a0
theorem Lp : ∀ (k:Nat) (a0:Itm) (r:ByteArray),Fj k a0=some r→Fn Tryz.prog 102 [.ag [.i .u8 a0.kind,.b a0.num.1,.sl (L a0.num.2.1),.sl (L a0.num.2.2),.i .i32 a0.char,.sl (Ars a0.box)]] (.d (.s r))
 | 0,_,_,h=>by cases h
 | k+1,a0,_,h=>Sm (Lp k)  (show Ki (Fj k) a0=some _ from h)
def KZ (a0:Itm) : Option (ByteArray):=Fj (a0.size+1) a0
theorem IZ {a0:Itm} {r:ByteArray} (h:KZ a0=some r) : Fn Tryz.prog 102 [.ag [.i .u8 a0.kind,.b a0.num.1,.sl (L a0.num.2.1),.sl (L a0.num.2.2),.i .i32 a0.char,.sl (Ars a0.box)]] (.d (.s r)):=Lp _ a0 r  h
def Wp (p:Rat) : Rat:=if p<0 then -p else p
def Ab3 (p q:Rat) : Rat:=if Wp p<Wp q then Wp q else Wp p
def ZZ (c p q:Rat) : Prop:=Wp (p-q)≤c * Ab3 p q
instance (c p q:Rat) : Decidable (ZZ c p q):=inferInstanceAs (Decidable (_≤_))
theorem Sg {m n:Nat} (hm:(Af m).length≤1048576) (hn:(Af n).length≤1048576) : Fa (Af m) (Af n)=some (decide (m=n)):=by
 rw [Oo (Ib hm) (Ib (by omega))]
 congr 1
 exact decide_eq_decide.2 ⟨WU,fun h=>by rw [h]⟩
theorem OS {n:Nat} (h:(Af n).length≤1048576) : IC (Af n)=some (Ck (DU n)):=by
 unfold IC;rw [if_pos (Ib h),AK]
def Jd (p:Rat) : List Nat:=(if p.num<0 then [194,175] else [])++(DU p.num.natAbs++(if p.den=1 then [] else 114::DU p.den))
theorem OV {a b:List Nat} (h:a.length+b.length≤100000) : FF (Ck a) (Ck b)=some (Ck (a++b)):=by
 unfold FF
 rw [if_pos,Ls]
 have h1:∀ l:List Nat,(Ck l).size=l.length:=fun l=>by simp [Ck,ByteArray.size]
 rw [h1,h1];exact nT h (by decide)
theorem Wu {n:Nat} (h:Jj n) : n<4294967296 ^ 32:=by
 have:=Cn (Bf n)
 rw [AK] at this
 exact nL this (Nat.pow_le_pow_right (by decide) h)
set_option exponentiation.threshold 2000 in
theorem I8 {n:Nat} (h:Jj n) : (DU n).length≤310:=Wm (k:=309) (Nat.lt_trans (Wu h) (by decide))
theorem Tk {p:Rat} (hp:KS p) : Ew (ofQ p)=some (Ck (Jd p)):=by
 unfold Ew
 have l1:=I8 hp.1
 have l2:=I8 hp.2
 have e1:IC (ofQ p).2.1=some (Ck (DU p.num.natAbs)):=OS (nT hp.1 (by decide))
 have e2:IC (ofQ p).2.2=some (Ck (DU p.den)):=OS (nT hp.2 (by decide))
 have e3:Fa (ofQ p).2.2 [1]=some (decide (p.den=1)):=by rw [← Kv];exact Sg (nT hp.2 (by decide)) (by rw [Kv];decide)
 have s1:FF (⟨#[194,175]⟩:ByteArray) (Ck (DU p.num.natAbs))=some (Ck ([194,175]++DU p.num.natAbs)):=OV (a:=[194,175]) (by simp;omega)
 have s2:FF (⟨#[114]⟩:ByteArray) (Ck (DU p.den))=some (Ck ([114]++DU p.den)):=OV (a:=[114]) (by simp;omega)
 rw [IE (Ii hp),I9 hp,oB,if_pos rfl,e1,oB,N2]
 show (if decide (p.num<0)=true then _ else _)=_
 unfold Jd
 by_cases hs:p.num<0
 ·rw [if_pos (dT hs),s1,oB,oB,e3,oB,if_pos hs]
  by_cases hd:p.den=1
  ·rw [if_pos (dT hd),if_pos hd,List.append_nil]
  ·rw [if_neg (by simpa using hd),e2,oB,s2,oB,OV (by simp;omega),oB,if_neg hd,List.append_assoc];rfl
 ·rw [if_neg (by simpa using hs),oB,e3,oB,if_neg hs,List.nil_append]
  by_cases hd:p.den=1
  ·rw [if_pos (dT hd),if_pos hd,List.append_nil]
  ·rw [if_neg (by simpa using hd),e2,oB,s2,oB,OV (by simp;omega),oB,if_neg hd];rfl
end Go.FL
namespace Go.FL
open Go
theorem T4 {c:Nat} (h:c<128) : AT (Utf8.encode (c:Int))=[c]:=by
 have hv:Utf8.valid (c:Int)=true:=by simp [Utf8.valid];omega
 unfold Utf8.encode
 rw [if_pos hv,Int.toNat_natCast]
 simp only
 rw [if_pos h]
 show [(UInt8.ofNat c).toNat]=[c]
 rw [UInt8.toNat_ofNat',Nat.mod_eq_of_lt (by omega)]
theorem TY {r:Int} (h:128≤r) : AT (Utf8.encode r)≠[]∧(AT (Utf8.encode r)).length≤4∧∀ x∈AT (Utf8.encode r),128≤x:=by
 have key:∀ c:Nat,128≤c→c≤1114111 →
   AT (if c<128 then (⟨#[UInt8.ofNat c]⟩:ByteArray) else if c<2048 then ⟨#[UInt8.ofNat (192+c / 64),UInt8.ofNat (128+c % 64)]⟩ else if c<65536 then ⟨#[UInt8.ofNat (224+c / 4096),UInt8.ofNat (128+c / 64 % 64),UInt8.ofNat (128+c % 64)]⟩ else ⟨#[UInt8.ofNat (240+c / 262144),UInt8.ofNat (128+c / 4096 % 64),UInt8.ofNat (128+c / 64 % 64),UInt8.ofNat (128+c % 64)]⟩)≠[] ∧
   (AT (if c<128 then (⟨#[UInt8.ofNat c]⟩:ByteArray) else if c<2048 then ⟨#[UInt8.ofNat (192+c / 64),UInt8.ofNat (128+c % 64)]⟩ else if c<65536 then ⟨#[UInt8.ofNat (224+c / 4096),UInt8.ofNat (128+c / 64 % 64),UInt8.ofNat (128+c % 64)]⟩ else ⟨#[UInt8.ofNat (240+c / 262144),UInt8.ofNat (128+c / 4096 % 64),UInt8.ofNat (128+c / 64 % 64),UInt8.ofNat (128+c % 64)]⟩)).length≤4 ∧
   ∀ x∈AT (if c<128 then (⟨#[UInt8.ofNat c]⟩:ByteArray) else if c<2048 then ⟨#[UInt8.ofNat (192+c / 64),UInt8.ofNat (128+c % 64)]⟩ else if c<65536 then ⟨#[UInt8.ofNat (224+c / 4096),UInt8.ofNat (128+c / 64 % 64),UInt8.ofNat (128+c % 64)]⟩ else ⟨#[UInt8.ofNat (240+c / 262144),UInt8.ofNat (128+c / 4096 % 64),UInt8.ofNat (128+c / 64 % 64),UInt8.ofNat (128+c % 64)]⟩),128≤x:=by
  intro c h1 h2
  rw [if_neg (show ¬c<128 by omega)]
  split
  ·simp [AT,UInt8.toNat_ofNat'];omega
  ·split
   ·simp [AT,UInt8.toNat_ofNat'];omega
   ·simp [AT,UInt8.toNat_ofNat'];omega
 unfold Utf8.encode
 by_cases hv:Utf8.valid r=true
 ·rw [if_pos hv]
  simp [Utf8.valid] at hv
  exact key r.toNat (by omega) (by omega)
 ·rw [if_neg hv]
  exact key 65533 (by decide) (by decide)
end Go.FL
namespace Go.FL
open Go Go.Proofs
def txN (r:RT) : List Nat:=AT ((Ew r).getD ⟨#[]⟩)
def txS : List Int→List Nat
 | []=>[]
 | z::s=>txN (ofQ (z:Rat))++[32]++txS s
mutual
def kyI : Itm→List Nat
 | .mk k n c b=>if k=1 then txN n++[59] else if k=2 then 39::AT (Utf8.encode c) else kyB b
def kyB : List Arr→List Nat
 | []=>[]
 | a::_=>kyA a
def kyA : Arr→List Nat
 | .mk s i=>[40]++txS s++[58]++kyIs i++[41]
def kyIs : List Itm→List Nat
 | []=>[]
 | x::xs=>kyI x++kyIs xs
end
theorem JM (x:Itm) : kyI x=if x.kind=1 then txN x.num++[59] else if x.kind=2 then 39::AT (Utf8.encode x.char) else kyB x.box:=by cases x;simp only [kyI];rfl
theorem F8 (a:Arr) : kyA a=[40]++txS a.shape++[58]++kyIs a.items++[41]:=by cases a;simp only [kyA];rfl
theorem Ug (s:ByteArray) : Ck (AT s)=s:=by
 apply ByteArray.ext
 apply Array.ext'
 simp only [Ck,AT,List.map_map]
 rw [show (UInt8.ofNat ∘ UInt8.toNat)=id from funext fun x=>by simp]
 simp
theorem SA {a b:List Nat} (h:a.length+b.length≤1000000000) : FF (Ck a) (Ck b)=some (Ck (a++b)):=by
 unfold FF
 rw [if_pos,Ls]
 rw [NX,NX];exact nT h (by decide)
theorem VS {p:Rat} (hp:KS p) : (Jd p).length≤630:=by
 have l1:=I8 hp.1
 have l2:=I8 hp.2
 unfold Jd
 split<;>split<;>simp<;>omega
theorem Pq {p:Rat} : ∀ x∈Jd p,x<256:=by
 intro x hx
 unfold Jd at hx
 simp only [List.mem_append] at hx
 rcases hx with hx|hx|hx
 ·split at hx
  ·simp at hx;rcases hx with rfl|rfl<;>decide
  ·cases hx
 ·exact P7 _ x hx
 ·split at hx
  ·cases hx
  ·rcases List.mem_cons.1 hx with rfl|hx
   ·decide
   ·exact P7 _ x hx
theorem LN {p:Rat} (hp:KS p) : txN (ofQ p)=Jd p:=by
 unfold txN
 rw [Tk hp]
 exact Lh Pq
theorem Tz {p:Rat} (hp:KS p) : Ew (ofQ p)=some (Ck (txN (ofQ p))):=by rw [LN hp,Tk hp]
theorem Mq {p:Rat} (hp:KS p) : (txN (ofQ p)).length≤630:=by rw [LN hp];exact VS hp
theorem Mg : ∀ {s:List Int},(∀ z∈s,EJ z)→(txS s).length≤631 * s.length
 | [],_=>Nat.zero_le _
 | z::s,h=>by
  have h1:=Mq (C2 (h z (by simp)))
  have h2:=Mg (s:=s) fun z hz=>h z (by simp [hz])
  simp only [txS,List.length_append,List.length_cons,List.length_nil]
  omega
theorem Ty {c:Int} (h0:0≤c) : (AT (Utf8.encode c)).length≤4:=by
 by_cases h:c<128
 ·obtain ⟨n,rfl⟩:∃ n:Nat,c=(n:Int):=⟨c.toNat,by omega⟩
  rw [T4 (by omega)];simp
 ·exact (TY (by omega)).2.1
theorem Ih {s:List Int} (h:(szP s).2=0) : (∀ z∈s,EJ z)∧s.length≤8:=by
 have:=QC h
 exact ⟨fun z hz=>by have:=this.1 z hz;exact ⟨by omega,by omega⟩,this.2⟩
theorem IA {a:Arr} (h:rA a=true) : (szP a.shape).2=0∧∀ x∈a.items,rI x=true:=by
 have h2:=h
 rw [Jo] at h2
 simp only [Bool.and_eq_true,decide_eq_true_eq] at h2
 exact ⟨h2.1,Ff.1 h2.2.2⟩
theorem Tq : ∀ (k:Nat) {x:Itm},x.size<k→rI x=true→(kyI x).length≤6000 * (1+cI x)
 | 0,x,h,_=>by omega
 | k+1,x,h,hr=>by
  rw [JM]
  rcases D5 hr with ⟨kx,qx,_,_⟩|⟨kx,cx,_,_⟩|⟨kx,_,_,a,hb,hs,ha⟩
  ·obtain ⟨p,fp,ep⟩:=IY.1 qx
   rw [if_pos kx,ep]
   have:=Mq fp
   simp only [List.length_append,List.length_cons,List.length_nil]
   omega
  ·rw [if_neg (by omega),if_pos kx]
   have h0:0≤x.char:=by simp [chB] at cx;omega
   have:=Ty h0
   simp only [List.length_cons]
   omega
  ·rw [if_neg (by omega),if_neg (by omega),hb,kyB,F8,OM,hb,cBs,cBs,Nat.add_zero,Jr]
   obtain ⟨h1,h2⟩:=IA ha
   obtain ⟨h3,h4⟩:=Ih h1
   have h5:=Mg h3
   have items:∀ (l:List Itm),(∀ y∈l,y∈a.items)→(kyIs l).length≤6000 * (l.length+cIs l):=by
    intro l
    induction l with
    | nil=>intro _;simp [kyIs]
    | cons y l ih =>
     intro hl
     have hy:=hl y (by simp)
     have s1:=FI hy
     have s2:=EO (x:=x) (a:=a) (by rw [hb];simp)
     have e1:=Tq k (x:=y) (by omega) (h2 y hy)
     have e2:=ih fun z hz=>hl z (by simp [hz])
     rw [kyIs,cIs,List.length_append,List.length_cons]
     omega
   have h6:=items a.items fun _ h=>h
   simp only [List.length_append,List.length_cons,List.length_nil]
   omega
theorem Ol {l:List Itm} {i:Nat} (h:i<l.length) : kyIs (l.take (i+1))=kyIs (l.take i)++kyI l[i]:=by
 have app:∀ (u v:List Itm),kyIs (u++v)=kyIs u++kyIs v:=by
  intro u v
  induction u with
  | nil=>simp [kyIs]
  | cons x u ih=>simp [kyIs,ih]
 rw [List.take_add_one,lG h,Option.toList_some,app]
 simp [kyIs]
theorem Vg {l:List Int} {i:Nat} (h:i<l.length) : txS (l.take (i+1))=txS (l.take i)++(txN (ofQ ((l[i] : Int) : Rat))++[32]):=by
 have app:∀ (u v:List Int),txS (u++v)=txS u++txS v:=by
  intro u v
  induction u with
  | nil=>simp [txS]
  | cons x u ih=>simp [txS,ih]
 rw [List.take_add_one,lG h,Option.toList_some,app]
 simp [txS]
theorem Xf {l:List Int} {i:Nat} : (txS (l.take i)).length≤(txS l).length:=by
 have app:∀ (u v:List Int),txS (u++v)=txS u++txS v:=by
  intro u v
  induction u with
  | nil=>simp [txS]
  | cons x u ih=>simp [txS,ih]
 conv=>rhs;rw [← List.take_append_drop i l,app,List.length_append]
 omega
theorem V1 {l:List Itm} {i:Nat} : (kyIs (l.take i)).length≤(kyIs l).length:=by
 have app:∀ (u v:List Itm),kyIs (u++v)=kyIs u++kyIs v:=by
  intro u v
  induction u with
  | nil=>simp [kyIs]
  | cons x u ih=>simp [kyIs,ih]
 conv=>rhs;rw [← List.take_append_drop i l,app,List.length_append]
 omega
theorem UL {a:Arr} (h64:∀ z∈a.shape,EJ z) (h8:a.shape.length≤8) (K:ByteArray→Option ByteArray) : ∀ (n i k:Nat),n=a.shape.length-i→i≤a.shape.length→n<k →
  En a K k (Ck ([40]++txS (a.shape.take i))) (i:Int)=K (Ck ([40]++txS a.shape))
 | n,i,0,_,_,h=>by omega
 | n,i,k+1,hn,hi,hk=>by
  rw [En]
  have hS:=Mg h64
  by_cases hlt:i<a.shape.length
  ·have hz:=h64 _ (List.getElem_mem hlt)
   have hf:=C2 hz
   have hl:=Mq hf
   have hp:=Xf (l:=a.shape) (i:=i)
   rw [if_pos (by omega),Ci hlt,oB,PH hz.1 (by have:=hz.2;omega),oB,Tz hf,oB,show (⟨#[32]⟩:ByteArray)=Ck [32] from rfl,SA (by simp;omega),oB,SA (by simp;omega),oB,Cz (by omega),List.append_assoc,← Vg hlt]
   exact UL h64 h8 K (n-1) (i+1) k (by omega) (by omega) (by omega)
  ·rw [if_neg (by omega),List.take_of_length_le (by omega)]
theorem VW {rc:Itm→Option ByteArray} {a:Arr} (pre:List Nat) (hpre:pre.length≤10000) (hrc:∀ x∈a.items,rc x=some (Ck (kyI x))) (hlen:(kyIs a.items).length≤200000000) (hl:a.items.length≤17592186044416) (K:ByteArray→Option ByteArray) : ∀ (n i k:Nat),n=a.items.length-i→i≤a.items.length→n<k →
  DJ rc a K k (Ck (pre++kyIs (a.items.take i))) (i:Int)=K (Ck (pre++kyIs a.items))
 | n,i,0,_,_,h=>by omega
 | n,i,k+1,hn,hi,hk=>by
  rw [DJ]
  by_cases hlt:i<a.items.length
  ·have hp:=V1 (l:=a.items) (i:=i+1)
   have e:=congrArg List.length (Ol hlt)
   rw [List.length_append] at e
   rw [if_pos (by omega),Ci hlt,oB,hrc _ (List.getElem_mem hlt),oB,SA (by simp;omega),oB,Cz (by omega),List.append_assoc,← Ol hlt]
   exact VW pre hpre hrc hlen hl K (n-1) (i+1) k (by omega) (by omega) (by omega)
  ·rw [if_neg (by omega),List.take_of_length_le (by omega)]
theorem Yw : ∀ (k:Nat) {x:Itm},x.size<k→okI x→BZ x→Fj k x=some (Ck (kyI x))
 | 0,x,h,_,_=>by omega
 | k+1,x,h,ox,rx=>by
  rw [Fj]
  unfold Ki
  rw [JM]
  rcases D5 rx.1 with ⟨kx,qx,_,_⟩|⟨kx,cx,_,_⟩|⟨kx,_,_,a,hb,hs,hr⟩
  ·obtain ⟨p,fp,ep⟩:=IY.1 qx
   rw [if_pos kx,if_pos kx,ep,Tz fp,oB,show (⟨#[59]⟩:ByteArray)=Ck [59] from rfl,SA (by have:=Mq fp;simp;omega)];rfl
  ·have h0:0≤x.char:=by simp [chB] at cx;omega
   have:=Ty h0
   rw [if_neg (by omega),if_pos kx,if_neg (by omega),if_pos kx,show (⟨#[39]⟩:ByteArray)=Ck [39] from rfl]
   conv=>lhs;rw [← Ug (Utf8.encode x.char)]
   rw [SA (by simp;omega)];rfl
  ·have ma:a∈x.box:=by rw [hb];simp
   obtain ⟨oa,ra,hc,_⟩:=NY ox rx a ma
   have oa':=(Ce a).1 oa
   obtain ⟨h1,h2⟩:=IA hr
   obtain ⟨h3,h4⟩:=Ih h1
   have h5:=Mg h3
   have hrc:∀ y∈a.items,Fj k y=some (Ck (kyI y)):=fun y hy=>by
    have s1:=FI hy
    have s2:=EO ma
    have u2:=GI oa ra hy
    exact Yw k (by omega) u2.1 u2.2
   have hlen:=Tq _ (Nat.lt_succ_self _) rx.1
   have hcells:=rx.2.2
   rw [JM,if_neg (by omega),if_neg (by omega),hb,kyB,F8] at hlen
   simp only [List.length_append,List.length_cons,List.length_nil] at hlen
   rw [if_neg (by omega),if_neg (by omega),if_neg (by omega),if_neg (by omega),hb,show rd? [a] 0=some a from rfl,oB,DA]
   have e1:=UL h3 h4 (fun z5=>(FF z5 (⟨#[58]⟩:ByteArray)).bind fun x13=>(some a).bind fun x14=>(jn (fun (z15:ByteArray)=>((FF z15 (⟨#[41]⟩:ByteArray)).bind fun x21=>(some (x21)))) fun K2=>(DJ (Fj k) x14 K2 AH x13 0))) a.shape.length 0 AH rfl (Nat.zero_le _) (CE (by omega))
   rw [List.take_zero,show txS []=[] from rfl,List.append_nil] at e1
   refine e1.trans ?_
   rw [show (⟨#[58]⟩:ByteArray)=Ck [58] from rfl,SA (by simp;omega),oB,oB,DA]
   have e3:=VW ([40]++txS a.shape++[58]) (by simp;omega) hrc (by omega) (by omega) (fun z15=>(FF z15 (⟨#[41]⟩:ByteArray)).bind fun x21=>some x21) a.items.length 0 AH rfl (Nat.zero_le _) (CE (by omega))
   rw [List.take_zero,show kyIs []=[] by simp [kyIs],List.append_nil] at e3
   refine e3.trans ?_
   rw [show (⟨#[41]⟩:ByteArray)=Ck [41] from rfl,SA (by simp;omega),oB,kyB,F8]
theorem PI {x:Itm} (ox:okI x) (rx:BZ x) : KZ x=some (Ck (kyI x)):=Yw _ (Nat.lt_succ_self _) ox rx
end Go.FL
namespace Go.FL
open Go Go.RowKit
def ALM (P:Program) (C:Cx) (c:Code) (Q:Exit→Env→Ab→Prop) (env:Env) (H:Ab) : Prop :=
 ∀ X a w I μ O,X.nt=C.nt→X.n0=C.n0→X.ne=C.ne→Sim P X env H a w I μ O→LB (om C.ro) 0 P c (PostM P X Q) a w
section
variable {P:Program} {C:Cx} {X:Snap} {o:Oper} {ops:Array Oper} {Q:Exit→Env→Ab→Prop} {env env':Env} {H H':Ab} {a:Act} {w w':World} {I I':Nat→Prop} {μ μ':List Nat} {O O':Nat→Option Loc}
 {K:Env→Ab→Prop} {k:Nat} {l:List Oper}
theorem AWM.loop {c:Code} (h:ALM P C c Q env H) : AWM P C (.loop c) Q env H:=fun X a w I μ O h1 h2 h3 hs=>(h X a w I μ O h1 h2 h3 hs).loop
theorem ALM.gh {c:Code} (g:Gh P C env H env' H') (h:ALM P C c Q env' H') : ALM P C c Q env H:=fun X a w I μ O h1 h2 h3 hs =>
 let ⟨I',O',hs'⟩:=g X a w I μ O h1 h2 h3 hs;h X a w I' μ O' h1 h2 h3 hs'
theorem PostM.over {ms:List Deferred} {a1:Act} {w1:World} {env1:Env} {H1:Ab} {I1:Nat→Prop} {μ1:List Nat} {O1:Nat→Option Loc} (hX0:X.n0=0) (s:Sim P {X with dfs:=ms++X.dfs} env1 H1 a1 w1 I1 μ1 O1) (hm:Marks X.K w1 I1 O1 ms) :
  ∃ Y:Snap,Y.nt=X.nt∧Y.n0=X.n0∧Y.ne=X.ne∧Sim P Y env1 H1 a1 w1 I1 μ1 O1∧∀ e a2 w2,PostM P Y Q e a2 w2→PostM P X Q e a2 w2:=by
 obtain ⟨K',hKd⟩:∃ K':Nat→Prop,K'=fun b=>X.K b∨∃ m∈ms,m={target:=.collected b,args:=#[]}:=⟨_,rfl⟩
 have hK':∀ b,K' b→O1 b=none∧b<w1.heap.size:=fun b hb=>by
  rw [hKd] at hb
  rcases hb with hb|⟨m,hm1,hm2⟩
  ·exact ⟨s.kO b hb,nL (s.klt b hb) s.size⟩
  ·obtain ⟨D,e1,e2,e3,e4,_⟩:=hm.2 m hm1
   rw [hm2] at e1;simp at e1;subst e1
   exact ⟨e3,(Array.getElem?_eq_some_iff.1 e2).1⟩
 have hr:=s.recast (s.toMem.reroot hX0 hK') rfl rfl rfl
 refine ⟨{X with w:=w1,I:=I1,K:=K',μ:=μ1,dfs:=ms++X.dfs},rfl,rfl,rfl,hr,fun e a2 w2 ⟨env2,H2,I2,μ2,O2,ms2,s2,q2,hm2⟩=>?_⟩
 refine ⟨env2,H2,I2,μ2,O2,ms2++ms,?_,q2,?_⟩
 ·have hu:Mem P X H2 w2 I2 μ2 O2:=(s.toMem.cast (Y:=X) rfl rfl rfl rfl rfl rfl).unroot hX0 (K':=K') (fun b hb=>by rw [hKd];exact .inl hb) (s2.toMem.cast rfl rfl rfl rfl rfl rfl)
  exact ⟨hu.cast rfl rfl rfl rfl rfl rfl,s2.envr,s2.nt,by rw [s2.dfs.1];simp,s2.dfs.2⟩
 ·refine ⟨List.nodup_append.2 ⟨hm2.1,hm.1,fun x hx y hy e=>?_⟩,fun m hmm=>?_⟩
  ·subst e
   obtain ⟨D,rfl,_,_,_,hk⟩:=hm2.2 x hx
   exact hk (by show K' D;rw [hKd];exact .inr ⟨_,hy,rfl⟩)
  rcases List.mem_append.1 hmm with hmm|hmm
  ·obtain ⟨D,e1,e2,e3,e4,e5⟩:=hm2.2 m hmm
   exact ⟨D,e1,e2,e3,e4,fun hk=>e5 (by show K' D;rw [hKd];exact .inl hk)⟩
  ·obtain ⟨D,rfl,e2,e3,e4,e5⟩:=hm.2 m hmm
   have hkD:K' D:=by rw [hKd];exact .inr ⟨_,hmm,rfl⟩
   exact ⟨D,rfl,(s2.prot D hkD).trans e2,s2.kO D hkD,fun hi=>e4 (s2.kI D hkD hi),e5⟩
theorem ALM.round (h0:C.n0=0) {c:Code} (h:AWM P C c (FB (ALM P C c Q) Q) env H) : ALM P C c Q env H:=fun X a w I μ O h1 h2 h3 hs =>
 .round (wpIn_mono (h X a w I μ O h1 h2 h3 hs) fun e a1 w1 ⟨env',H',I',μ',O',ms,s,q,hm⟩=>by
  cases e with
  | normal =>
   obtain ⟨Y,y1,y2,y3,y4,y5⟩:=PostM.over (Q:=Q) (by omega) s hm
   have hl:=q Y a1 w1 I' μ' O' (y1.trans h1) (y2.trans h2) (y3.trans h3) y4
   intro b k cs hro hb hr
   obtain ⟨e2,a2,w2,p1,p2⟩:=hl b k cs hro hb hr
   exact ⟨e2,a2,w2,y5 _ _ _ p1,p2⟩
  | _=>exact ⟨env',H',I',μ',O',ms,s,q,hm⟩)
theorem ALM.ind (h0:C.n0=0) {c:Code} {σ:Type} (m:σ→Nat) (e:σ→Env) (h:σ→Ab) (I:σ→Prop)
  (step:∀ s,I s→(∀ s',I s'→m s'<m s→ALM P C c Q (e s') (h s'))→AWM P C c (FB (ALM P C c Q) Q) (e s) (h s)):∀ s,I s→ALM P C c Q (e s) (h s):=by
 suffices H:∀ n s,m s=n→I s→ALM P C c Q (e s) (h s) from fun s hs=>H _ s rfl hs
 intro n
 induction n using Nat.strongRecOn with
 | ind n ih =>
  intro s hm hs
  exact .round h0 (step s hs fun s' h1 h2=>ih (m s') (by omega) s' rfl h1)
theorem Sim.storeBA {id blk:Nat} (hm:μ[id]?=some blk) (hn:X.n0≤id) : ∀ (us:List Value) (k:Nat) (ds zs:List DV) (H:Ab) (w:World) (O:Nat→Option Loc),Sim P X env H a w I μ O→H[id]?=some (.box (zs.map .d))→zs.length=k+us.length →
  RepAll w I ds us→(∀ u∈us,u.oneCell'=true)→∃ w' O',(storeCells ⟨blk,0,none⟩ us k).run P w=.ok () w'∧Sim P X env (H.set id (.box ((zs.take k++ds).map .d))) a w' I μ O'
 | [],k,ds,zs,H,w,O,hs,hH,hl,hr,h1=>by
  cases hr
  rw [List.append_nil,List.take_of_length_le (by simp at hl;omega),List.set_same _ _ hH]
  exact ⟨w,O,rfl,hs⟩
 | u::us,k,ds,zs,H,w,O,hs,hH,hl,hr,h1=>by
  cases hr with
  | @cons d _ ds _ hd ht =>
   rw [List.length_cons] at hl
   have hu:=h1 u (by simp)
   have hkl:k<zs.length:=by omega
   obtain ⟨q1,⟨u0,q2⟩,q3⟩:=hs.storeC (off:=k) (c:=.d zs[k]) (av:=.d d) (v:=u) (hbs:=[]) hH (by rw [List.getElem?_map,lG hkl];rfl) hm hn (.d hd) nN (by simp)
   have hIb:¬I blk:=by
    obtain ⟨blk',bs,g1,g2,g3,g4⟩:=hs.heap id _ hH
    rw [hm] at g1;cases g1
    exact (hs.own blk _ ((g3 hn).2 blk (by simp))).2
   have hst:(store ((⟨blk,0,none⟩:Addr).add k) u).run P w=.ok () (w.setCell ⟨blk,k,none⟩ u):=by
    have hadd:(⟨blk,0,none⟩:Addr).add k=⟨blk,k,none⟩:=by unfold Addr.add;split<;>simp_all
    rw [hadd,run_store P w _ u _ hu,q2]
    simp [q3]
   have hset:Da H id k (.d d)=H.set id (.box ((zs.set k d).map .d)):=by
    simp only [Da,hH];rw [List.map_set]
   rw [hset] at q1
   have hid:id<H.length:=(lS.1 hH).1
   obtain ⟨w2,O2,z1,z2⟩:=Sim.storeBA hm hn us (k+1) ds (zs.set k d) _ _ _ (show Sim P X env _ a _ I μ _ from q1) (by simp [hid]) (by simp;omega)
    (ht.keep (fun b' hb'=>heap_setCell_other w ⟨blk,k,none⟩ b' u fun e=>hIb (by rw [← (show b'=blk from e)];exact hb')) fun _ h=>h) fun u hu=>h1 u (by simp [hu])
   refine ⟨w2,O2,?_,?_⟩
   ·simp only [storeCells,Sem.run_bind,hst,Result.andThen_ok,z1]
   ·have t1:(zs.set k d).take (k+1)=zs.take k++[d]:=by
     rw [List.take_add_one,List.getElem?_set_self (by omega),List.take_set_of_le (Nat.le_refl k)];rfl
    rw [t1,List.set_set] at z2
    simpa using z2
theorem Aby {x y:Operand} {ty id:Nat} {zs ds:List DV} {bx:List AV} (hH:H[id]?=some (.box bx)) (hb:bx=zs.map .d) (hl:zs.length=ds.length) (h:RL P C ops Q (k+1) l env (H.set id (.box (ds.map .d)))) (hsz:Av P ty=ds.length) (hp:0<ds.length) (hg:grd ops env o true=true:=by rfl)
  (ho:o.op=.store ty x y:=by rfl) (hv:lk env x=.bp id 0:=by rfl) (hy:lk env y=.d (.ag ds):=by rfl) (h1:ds.all DV.leaf=true:=by rfl) (hd:o.dst=none:=by rfl) (h0:C.n0=0:=by rfl):RL P C ops Q k (o::l) env H:=by
 subst hb
 obtain ⟨g1,g2⟩:=Ar hv (by simp)
 refine .go hg (.done (by simp [ho]) hd (fun X a w I μ O _ e2 _ hs=>?_) h)
 have hr:=hs.deep (x:=y) (v:=.ag ds) (by rw [hy];rfl)
 generalize hev:a.eval y=u at hr
 cases hr with
 | ag _ vs hr =>
  obtain ⟨blk,hm,he⟩:=hs.bp g1 g2
  have hvl:vs.length=ds.length:=hr.length.symm
  obtain ⟨w',O',z1,z2⟩:=Sim.storeBA hm (by omega) vs 0 ds zs H w O hs hH (by omega) hr (hr.one h1)
  refine ⟨w',I,μ,O',?_,?_⟩
  ·have hs':(sizeOf ty).run P w=.ok vs.length w:=by rw [hvl,← hsz];exact GL (by omega)
   have hsv:(storeVar ty ⟨blk,0,none⟩ (.agg vs.toArray)).run P w=.ok () w':=by
    simp [storeVar,hs',Value.cells,z1]
   simp only [execOp,ho,he,hev,Instr.storeAt,Instr.sureAddr,Sem.run_bind,Sem.run_pure,Result.andThen_ok,hsv]
  ·simpa using z2
end
def Ns {α σ:Type} (f:Int→α→σ→Option σ) (xs:List α) : Nat→σ→Option σ
 | 0,s=>some s
 | n+1,s=>(xs[n]?).bind fun x=>(f ((n:Nat):Int) x s).bind fun s'=>Ns f xs n s'
theorem Px {α σ:Type} {f:Int→α→σ→Option σ} {xs:List α} : ∀ (n:Nat) {s z:σ},Ns f xs n s=some z→∃ T : Nat→σ,T 0=s∧T n=z∧∀ k,k<n→∃ x,xs[n-1-k]?=some x∧f ((n-1-k:Nat) : Int) x (T k)=some (T (k+1))
 | 0,s,z,h=>⟨fun _=>s,rfl,oI h,fun k hk=>absurd hk (Nat.not_lt_zero k)⟩
 | n+1,s,z,h=>by
  simp only [Ns,Option.bind_eq_some_iff] at h
  obtain ⟨x,hx,s',hf,h⟩:=h
  obtain ⟨T,t1,t2,t3⟩:=Px n h
  refine ⟨fun k=>if k=0 then s else T (k-1),rfl,by simp [t2],fun k hk=>?_⟩
  cases k with
  | zero=>exact ⟨x,by simpa using hx,by simpa [t1] using hf⟩
  | succ k =>
   obtain ⟨y,y1,y2⟩:=t3 k (by omega)
   rw [show n+1-1-(k+1)=n-1-k by omega]
   exact ⟨y,y1,by simpa using y2⟩
theorem OE (cells:Array Value) (n:Nat) : (madeCells cells ((n+1) * cells.size)).toList=cells.toList++(madeCells cells (n * cells.size)).toList:=by
 apply List.ext_getElem
 ·simp [madeCells,Nat.add_mul,Nat.add_comm]
 ·intro j h1 h2
  rw [List.getElem_append]
  split
  ·rename_i hj
   simp only [Array.length_toList] at hj
   simp [madeCells,Nat.mod_eq_of_lt hj,hj]
  ·rename_i hj
   simp only [Array.length_toList,Nat.not_lt] at hj
   simp [madeCells,Nat.mod_eq_sub_mod hj]
theorem Ob {w:World} {I:Nat→Prop} {cs:List DV} {cells:Array Value} (h:RepAll w I cs cells.toList) (h1:∀ u∈cells.toList,u.oneCell'=true) : ∀ n,RepRows w I cells.size (List.replicate n (.ag cs)) (madeCells cells (n * cells.size)).toList
 | 0=>by
  have:(madeCells cells (0 * cells.size)).toList=[]:=by simp [madeCells]
  rw [this];exact .nil _
 | n+1=>by
  rw [OE cells n,List.replicate_succ]
  exact .cons (by simp) h1 h (Ob h h1 n)
section
variable {P:Program} {C:Cx} {o:Oper} {ops:Array Oper} {Q:Exit→Env→Ab→Prop} {env:Env} {H:Ab} {K:Env→Ab→Prop} {k:Nat} {l:List Oper}
theorem UV {l c:Operand} {ty t e by_ sz:Nat} {z:Value} {cs:List DV} {k k':IntKind} {n:Nat} (ho:o.op=.makeSlice ty l c) (hd:o.dst=some t) (ht:okT C.nt t) (hT:Cb P ty=some (e,sz,by_,z)) (hzs:z.cells.size=sz) (h0:0<sz) (hz:∀ w I,RepAll w I cs z.cells.toList) (hlf:cs.all DV.leaf=true)
  (hl:lk env l=.d (.i k n)) (hc:lk env c=.d (.i k' n)) (hby:by_ * n≤281474976710656) (h63:n≤maxLen)
  (hK:K (put env t (.own e (List.replicate n (.ag cs)))) H):OpOK P C o env H K :=
 .val (by simp [ho]) hd ht (fun X a w I μ O _ _ _ hs=>by
  obtain ⟨i,i1,i2,i3,i4,i5,i6,i7,i8⟩:=CL hT
  have e1:a.eval l=.int k n:=by
   have hr:=hs.deep (x:=l) (v:=.i k n) (by rw [hl];rfl)
   generalize a.eval l=u at hr
   cases hr;rfl
  have e2:a.eval c=.int k' n:=by
   have hr:=hs.deep (x:=c) (v:=.i k' n) (by rw [hc];rfl)
   generalize a.eval c=u at hr
   cases hr;rfl
  obtain ⟨w',q1,q2,q3⟩:=run_make_full w 0 ty e i z sz i1 i2 i3 i4 k k' n (by rw [i5];exact hby) h63 (Nat.zero_le _)
  have h2:=hs.grownR q3 fun b hb=>(by cases hb)
  have hO:∀ b,w.heap.size≤b→O b=none:=fun b hb=>by
   cases hx:O b with
   | none=>rfl
   | some l=>have:=(hs.own b l hx).1;omega
  have h3:=h2.newR (Bv (.slice (some ⟨w.heap.size,0,none⟩) n n)) fun b hb=>by
   have hlt:=(OwnR.of q2).lt b hb
   have:b=w.heap.size:=by
    simp only [Bv] at hb
    split at hb<;>simp at hb
    exact hb
   subst this
   exact ⟨hlt,.inl (hO _ (Nat.le_refl _)),fun hi=>by have:=hs.ilt _ hi;omega,fun hk=>by have:=hs.klt _ hk;have:=hs.size;omega⟩
  refine ⟨.slice (some ⟨w.heap.size,0,none⟩) n n,w',I,μ,_,?_,h3,Bv (.slice (some ⟨w.heap.size,0,none⟩) n n),?_,GD _,fun b hb=>by simp [hb]⟩
  ·simp only [execOp,ho,e1,e2,q1,Sem.run_bind,Result.andThen_ok,Sem.run_pure]
  ·have hrow:=Ob (cs:=cs) (cells:=z.cells) (hz w' I) ((hz w' I).one hlf) n
   rw [hzs] at hrow
   exact .own e _ _ _ (by omega) (by rw [List.length_replicate,i8];exact .of q2) (by rw [i8];exact hrow)) hK
theorem Abz {α:Type} {F:List α→List DV} {x0:α} {x c:Operand} {ty t e by_ sz:Nat} {z:Value} {cs:List DV} {q q':IntKind} {zl:Int} (n:Nat) (hF:List.replicate n (.ag cs)=F (List.replicate n x0)) (hn:zl=n) (hb:by_ * n≤281474976710656∧n≤9223372036854775807) (h:RL P C ops Q (k+1) l ((t,.own e (F (List.replicate n x0)))::env) H)
  (hT:Cb P ty=some (e,sz,by_,z)) (hz:∀ w I,RepAll w I cs z.cells.toList) (hzs:z.cells.size=sz:=by rfl) (h0:0<sz:=by decide) (hlf:cs.all DV.leaf=true:=by rfl) (hg:grd ops env o true=true:=by rfl) (ho:o.op=.makeSlice ty x c:=by rfl) (hx:lk env x=.d (.i q zl):=by rfl) (hc:lk env c=.d (.i q' zl):=by rfl) (hd:o.dst=some t:=by rfl)
  (hf:Aj (get env t)=false:=by rfl) (ht:okT C.nt t:=by rfl):RL P C ops Q k (o::l) env H:=by
 subst hn
 rw [← Ak hf] at h
 exact .go hg (UV ho hd ht hT hzs h0 hz hlf hx hc hb.1 (by simpa [maxLen] using hb.2) (by rw [hF];exact h))
end
def Rx (n:Nat) : AV→Bool
 | .bp i _=>Nat.blt i n
 | .ref (.c i _) _ _=>Nat.blt i n
 | .ep (.c i _) _ _=>Nat.blt i n
 | av=>noBp av
section
variable {P:Program} {C:Cx} {X:Snap} {o:Oper} {ops:Array Oper} {Q:Exit→Env→Ab→Prop} {env env':Env} {H H':Ab} {a:Act} {w w':World} {I I':Nat→Prop} {μ μ':List Nat} {O O':Nat→Option Loc}
 {K:Env→Ab→Prop} {k:Nat} {l:List Oper}
theorem AL.gh2 {c:Code} (g:Gh2 P C env H env' H') (h:AL P C c Q env' H') : AL P C c Q env H:=fun X a w I μ O h1 h2 h3 hs =>
 let ⟨I',μ',O',hs'⟩:=g X a w I μ O h1 h2 h3 hs;h X a w I' μ' O' h1 h2 h3 hs'
theorem ALM.gh2 {c:Code} (g:Gh2 P C env H env' H') (h:ALM P C c Q env' H') : ALM P C c Q env H:=fun X a w I μ O h1 h2 h3 hs =>
 let ⟨I',μ',O',hs'⟩:=g X a w I μ O h1 h2 h3 hs;h X a w I' μ' O' h1 h2 h3 hs'
theorem Gh2.cut {H0:Ab} (G:Ab) (hH:H=H0++G) (hb:(env.all fun x=>Rx H0.length x.2)=true) (hb0:H0.all S2=true) (hne:Nat.ble C.ne H0.length=true) : Gh2 P C env H env H0:=fun X a w I μ O _ h2 h3 hs=>by
 subst hH
 have hne':X.ne≤H0.length:=by rw [h3];exact Nat.le_of_ble_eq_true hne
 have hμt:∀ i,i<H0.length→(μ.take H0.length)[i]?=μ[i]?:=fun i hi=>by rw [List.getElem?_take,if_pos hi]
 refine ⟨I,μ.take H0.length,O,{
  prot:=hs.prot,kO:=hs.kO,kI:=hs.kI,mono:=hs.mono,os:=hs.os,tape:=hs.tape,output:=hs.output,size:=hs.size,own:=hs.own,ilt:=hs.ilt
  μlen:=by rw [List.length_take,hs.μlen];simp
  μpre:=fun i b hi hb=>by rw [hμt i (by omega)];exact hs.μpre i b hi hb
  nle:=hne'
  heap:=fun id ob ho=>?_
  klt:=hs.klt
  n0le:=hs.n0le
  envr:=fun s=>?_
  nt:=hs.nt
  dfs:=hs.dfs}⟩
 ·have hlt:=(lS.1 ho).1
  obtain ⟨bb,bs',q1,q2,q3,q4⟩:=hs.heap id ob (by rw [List.getElem?_append_left hlt];exact ho)
  refine ⟨bb,bs',by rw [hμt id hlt];exact q1,?_,q3,q4⟩
  have hnb:S2 ob=true:=List.all_eq_true.1 hb0 ob (List.mem_of_getElem? ho)
  cases ob with
  | box c =>
   obtain ⟨cl,et,n1,n2⟩:=q2
   exact ⟨cl,et,n1,n2.noBp (μ':=μ.take H0.length) hnb⟩
  | mo _ _=>exact q2
 ·have hp:=Mi (p:=Rx H0.length) rfl hb s
  have ht:=hs.envr s
  have plain:∀ av,get env s=av→noBp av=true→AI av=false→TRep P env H0 a w I (μ.take H0.length) O s av:=by
   intro av hav hn hr
   rw [hav] at ht
   obtain ⟨bs,g1,g2,g3⟩:=ht.plain hr
   exact .of (g1.noBp (μ':=μ.take H0.length) hn) g2 g3
  have place:∀ (p:Pl) e xs,(∀ id off,p=.c id off→id<H0.length)→AB env (H0++G) p=.own e xs→AB env H0 p=.own e xs∧∀ v,AR a w μ p=some v→AR a w (μ.take H0.length) p=some v:=fun p e xs hl hp=>by
   cases p with
   | t n=>exact ⟨hp,fun v hv=>hv⟩
   | c id off =>
    have hid:=hl id off rfl
    refine ⟨?_,fun v hv=>?_⟩
    ·simp only [AB] at hp ⊢
     rw [List.getElem?_append_left hid] at hp;exact hp
    ·simp only [AR] at hv ⊢
     rw [hμt id hid];exact hv
  cases hgs:get env s with
  | bp i off =>
   rw [hgs] at hp ht
   obtain ⟨bs,g1,g2,g3⟩:=ht.plain rfl
   have hi:i<H0.length:=by simp [Rx,Nat.blt] at hp;omega
   refine .of (bs:=bs) ?_ g2 g3
   generalize a.tmps.getD s undef=v at g1
   cases g1 with
   | bp _ _ blk' hb'=>exact .bp i off blk' (by rw [hμt i hi];exact hb')
  | ref p off len =>
   rw [hgs] at hp ht
   obtain ⟨e',xs,A,n,c,g1,g2,g3,g4⟩:=ht
   obtain ⟨p1,p2⟩:=place p e' xs (fun id off h=>by subst h;simp [Rx,Nat.blt] at hp;omega) g1
   exact ⟨e',xs,A,n,c,p1,p2 _ g2,g3,g4⟩
  | ep p i k =>
   rw [hgs] at hp ht
   obtain ⟨e',xs,b,n,c,g1,g2,g3,g4,g5⟩:=ht
   obtain ⟨p1,p2⟩:=place p e' xs (fun id off h=>by subst h;simp [Rx,Nat.blt] at hp;omega) g1
   exact ⟨e',xs,b,n,c,p1,p2 _ g2,g3,g4,g5⟩
  | _ =>
   rw [hgs] at hp
   exact plain _ hgs hp rfl
end
end Go.FL
namespace Go.FL
open Go Go.RowKit
def BU : List (ByteArray×Int)→ByteArray→Option Int
 | [],_=>none
 | p::r,k=>if p.1=k then some p.2 else BU r k
def Fr : List (ByteArray×Int)→ByteArray→Int→List (ByteArray×Int)
 | [],k,v=>[(k,v)]
 | p::r,k,v=>if p.1=k then (k,v)::r else p::Fr r k v
theorem MS : ∀ (l:List (ByteArray×Int)) (k:ByteArray) (v:Int),(Fr l k v).map Prod.fst=if (BU l k).isSome then l.map Prod.fst else l.map Prod.fst++[k]
 | [],k,v=>rfl
 | p::r,k,v=>by
  by_cases h:p.1=k
  ·simp [Fr,BU,h]
  ·simp only [Fr,BU,if_neg h,List.map_cons,MS r k v]
   split<;>rfl
theorem Nc : ∀ {l:List (ByteArray×Int)} {k:ByteArray},BU l k=none↔k∉l.map Prod.fst
 | [],k=>by simp [BU]
 | p::r,k=>by
  by_cases h:p.1=k
  ·simp [BU,h]
  ·rw [BU,if_neg h,Nc]
   simp [Ne.symm h]
theorem Qm {l:List (ByteArray×Int)} (h:(l.map Prod.fst).Nodup) (k:ByteArray) (v:Int) : ((Fr l k v).map Prod.fst).Nodup:=by
 rw [MS]
 cases hg:BU l k with
 | some x=>exact h
 | none =>
  have:=Nc.1 hg
  simp only [Option.isSome_none,Bool.false_eq_true,if_false]
  exact List.nodup_append.2 ⟨h,by simp,fun a ha b hb e=>by simp at hb;subst hb;subst e;exact this ha⟩
theorem KD : ∀ (l:List (ByteArray×Int)) (k:ByteArray) (v:Int) (k':ByteArray),BU (Fr l k v) k'=if k=k' then some v else BU l k'
 | [],k,v,k'=>rfl
 | p::r,k,v,k'=>by
  by_cases h:p.1=k
  ·by_cases h':k=k'
   ·simp [Fr,BU,h,h']
   ·simp [Fr,BU,h,h']
  ·by_cases h':k=k'
   ·subst h';simp only [Fr,BU,if_neg h,KD r k v,if_true]
   ·simp only [Fr,BU,if_neg h,KD r k v,if_neg h']
theorem Ss {l m:List (ByteArray×Int)} (h:l.Perm m) (hn:(l.map Prod.fst).Nodup) (k:ByteArray) : BU l k=BU m k:=by
 induction h with
 | nil=>rfl
 | cons x _ ih =>
  simp only [List.map_cons,List.nodup_cons] at hn
  simp only [BU,ih hn.2]
 | swap x y l =>
  simp only [List.map_cons,List.nodup_cons,List.mem_cons,not_or] at hn
  by_cases h1:x.1=k
  ·by_cases h2:y.1=k
   ·exact absurd (h2.trans h1.symm) hn.1.1
   ·simp [BU,h1,h2]
  ·simp [BU,h1]
 | trans h1 _ ih1 ih2=>exact (ih1 hn).trans (ih2 ((h1.map _).nodup hn))
abbrev SM : Type:={l:List (ByteArray×Int) // (l.map Prod.fst).Nodup}
def SM.nil : SM:=⟨[],nN⟩
def SM.get (m:SM) (k:ByteArray) : Option Int:=BU m.1 k
def SM.set (m:SM) (k:ByteArray) (v:Int) : SM:=⟨Fr m.1 k v,Qm m.2 k v⟩
def SM.len (m:SM) : Nat:=m.1.length
def smK (l:List (ByteArray×Int)) : List DV:=l.map fun p=>.s p.1
def smV (l:List (ByteArray×Int)) : List DV:=l.map fun p=>.i .i64 p.2
abbrev SM.mo (m:SM) : HO:=.mo (smK m.1) (smV m.1)
abbrev SM.mp (m:SM) : DV:=.mp (smK m.1) (smV m.1)
section
variable {P:Program} {C:Cx} {X:Snap} {o:Oper} {ops:Array Oper} {Q:Exit→Env→Ab→Prop} {env env':Env} {H H':Ab} {a:Act} {w w':World} {I I':Nat→Prop} {μ μ':List Nat} {O O':Nat→Option Loc}
 {K:Env→Ab→Prop} {k:Nat} {l:List Oper}
def EntS (es:List MapEntry) (m:List (ByteArray×Int)) : Prop:=es.map (fun e=>(e.key,e.val))=m.map fun p=>(Value.string p.1,Value.int .i64 p.2)
theorem Pu : ∀ {es:List MapEntry} {m:List (ByteArray×Int)},RepAll w I (smK m) (es.map MapEntry.key)→RepAll w I (smV m) (es.map MapEntry.val)→EntS es m
 | [],[],_,_=>rfl
 | [],_::_,h,_=>by cases h
 | _::_,[],h,_=>by cases h
 | e::es,p::m,hk,hv=>by
  cases hk with
  | @cons _ _ _ _ h1 t1 =>
   cases hv with
   | @cons _ _ _ _ h2 t2 =>
    have ih:=Pu t1 t2
    generalize hek:e.key=u at h1
    generalize hev:e.val=u2 at h2
    cases h1;cases h2
    unfold EntS at ih ⊢
    simp only [List.map_cons,ih,hek,hev]
theorem EntS.reps : ∀ {es:List MapEntry} {m:List (ByteArray×Int)},EntS es m→RepAll w I (smK m) (es.map MapEntry.key)∧RepAll w I (smV m) (es.map MapEntry.val)
 | [],[],_=>⟨.nil,.nil⟩
 | [],_::_,h=>by cases h
 | _::_,[],h=>by cases h
 | e::es,p::m,h=>by
  unfold EntS at h
  simp only [List.map_cons,List.cons.injEq,Prod.mk.injEq] at h
  obtain ⟨⟨h1,h2⟩,h3⟩:=h
  obtain ⟨k1,k2⟩:=EntS.reps h3
  exact ⟨.cons (h1▸.s _) k1,.cons (h2▸.i _ _) k2⟩
theorem bab (a b:ByteArray) : (a == b)=decide (a=b):=by
 obtain ⟨x⟩:=a
 obtain ⟨y⟩:=b
 show (x == y)=_
 by_cases h:x=y
 ·subst h;simp
 ·rw [dF (fun e=>h (by injection e))]
  exact beq_eq_false_iff_ne.2 h
theorem No (a b:ByteArray) : Instr.sameNow .string (.string a) (.string b)=some (decide (a=b)):=by
 show some (a == b)=_
 rw [bab]
theorem Jz {k:ByteArray} : ∀ {es:List MapEntry} {m:List (ByteArray×Int)} (n:Nat),EntS es m→BU m k=none→Instr.findNow .string (.string k) es n=some none
 | [],_,n,_,_=>rfl
 | e::es,[],n,h,_=>by cases h
 | e::es,p::m,n,h,hg=>by
  unfold EntS at h
  simp only [List.map_cons,List.cons.injEq,Prod.mk.injEq] at h
  obtain ⟨⟨h1,_⟩,h3⟩:=h
  by_cases hk:p.1=k
  ·rw [BU,if_pos hk] at hg;cases hg
  ·rw [BU,if_neg hk] at hg
   have hs:Instr.sameNow .string (.string k) e.key=some false:=by
    rw [h1,No,dF fun h=>hk h.symm]
   simp only [Instr.findNow,hs]
   exact Jz (n+1) h3 hg
theorem JB {k:ByteArray} {v:Int} : ∀ {es:List MapEntry} {m:List (ByteArray×Int)} (n:Nat),EntS es m→BU m k=some v→∃ i,Instr.findNow .string (.string k) es n=some (some (n+i,.int .i64 v))∧(∃ e,es[i]?=some e∧e.key=.string k) ∧
   ∀ (u:Int),EntS (es.modify i fun e=>{e with key:=.string k,val:=.int .i64 u}) (Fr m k u)
 | [],[],n,_,hg=>by cases hg
 | [],_::_,n,h,_=>by cases h
 | e::es,[],n,h,_=>by cases h
 | e::es,p::m,n,h,hg=>by
  have h0:=h
  unfold EntS at h
  simp only [List.map_cons,List.cons.injEq,Prod.mk.injEq] at h
  obtain ⟨⟨h1,h2⟩,h3⟩:=h
  by_cases hk:p.1=k
  ·rw [BU,if_pos hk] at hg
   simp only [Option.some.injEq] at hg
   subst hg
   have hs:Instr.sameNow .string (.string k) e.key=some true:=by rw [h1,No,dT hk.symm]
   refine ⟨0,?_,⟨e,rfl,by rw [h1,hk]⟩,fun u=>?_⟩
   ·simp only [Instr.findNow,hs,h2,Nat.add_zero]
   ·unfold EntS
    simp only [List.modify_zero_cons,List.map_cons,Fr,if_pos hk,List.cons.injEq,true_and]
    exact h3
  ·rw [BU,if_neg hk] at hg
   have hs:Instr.sameNow .string (.string k) e.key=some false:=by
    rw [h1,No,dF fun h=>hk h.symm]
   obtain ⟨i,k1,⟨e',k2,k3⟩,k4⟩:=JB (n+1) h3 hg
   refine ⟨i+1,?_,⟨e',by simpa using k2,k3⟩,fun u=>?_⟩
   ·simp only [Instr.findNow,hs]
    rw [k1,show n+1+i=n+(i+1) by omega]
   ·have:=k4 u
    unfold EntS at this ⊢
    simp only [List.modify_succ_cons,List.map_cons,Fr,if_neg hk,this,h1,h2]
theorem Mu {kt:TypeId} {z:ByteArray} (hk:P.underlying kt=some .string) (b:Bool) (n:Nat) : (Instr.checkKey b (n+1) kt (.string z)).run P w=.ok () w:=by
 unfold Instr.checkKey
 simp [run_underlying hk]
theorem FG {kt:TypeId} {z:ByteArray} {es:List MapEntry} {r:Option (Nat×Value)} (hk:P.underlying kt=some .string) (hf:Instr.findNow .string (.string z) es 0=some r) : (Instr.findKey kt (.string z) es).run P w=.ok r w:=by
 simp [Instr.findKey,run_underlying hk,hf]
theorem Lu {ty kt et:TypeId} {r:Nat} {es:Array MapEntry} {clock:Nat} {z:ByteArray} {m:List (ByteArray×Int)} (hu:P.underlying ty=some (.map kt et)) (hk:P.underlying kt=some .string) (hz:(zeroValue et).run P w=.ok (.int .i64 0) w) (hh:w.heap[r]?=some (.map es clock)) (he:EntS es.toList m) :
  (Instr.lookup ty (.map (some r)) (.string z) true).run P w=.ok (.tuple #[.int .i64 ((BU m z).getD 0),.bool (BU m z).isSome]) w:=by
 have h1:=Mu (w:=w) (z:=z) hk es.isEmpty 9999
 have h3:=IU (P:=P) hh
 cases hg:BU m z with
 | none =>
  have h2:=FG (w:=w) (z:=z) hk (Jz 0 he hg)
  unfold Instr.lookup
  simp only [run_underlying hu,Sem.run_bind,Sem.run_pure,Result.andThen_ok,h1,h2,h3,hz]
  rfl
 | some v =>
  obtain ⟨i,k1,_⟩:=JB 0 he hg
  have h2:=FG (w:=w) (z:=z) hk k1
  unfold Instr.lookup
  simp only [run_underlying hu,Sem.run_bind,Sem.run_pure,Result.andThen_ok,h1,h2,h3]
  rfl
theorem Qk {ty kt et:TypeId} {r:Nat} {es:Array MapEntry} {clock:Nat} {z:ByteArray} {v:Int} {m:List (ByteArray×Int)} (hu:P.underlying ty=some (.map kt et)) (hk:P.underlying kt=some .string) (hh:w.heap[r]?=some (.map es clock)) (he:EntS es.toList m) :
  ∃ es' c',(Instr.mapUpdate ty (.map (some r)) (.string z) (.int .i64 v)).run P w=.ok () {w with heap:=w.heap.setIfInBounds r (.map es' c')}∧EntS es'.toList (Fr m z v):=by
 have h1:=Mu (w:=w) (z:=z) hk false 9999
 have h3:=IU (P:=P) hh
 cases hg:BU m z with
 | none =>
  have h2:=FG (w:=w) (z:=z) hk (Jz 0 he hg)
  refine ⟨es.push {key:=.string z,val:=.int .i64 v,born:=clock},clock+1,?_,?_⟩
  ·unfold Instr.mapUpdate
   simp only [run_underlying hu,Sem.run_bind,Result.andThen_ok,h1,h2,h3]
   simp [setObj,Sem.run,hh]
  ·have hset:∀ {m:List (ByteArray×Int)},BU m z=none→Fr m z v=m++[(z,v)]:=by
    intro m
    induction m with
    | nil=>intro _;rfl
    | cons p m ih =>
     intro h
     by_cases hp:p.1=z
     ·rw [BU,if_pos hp] at h;cases h
     ·rw [BU,if_neg hp] at h
      rw [Fr,if_neg hp,ih h];rfl
   unfold EntS at he ⊢
   rw [hset hg,Array.toList_push,List.map_append,List.map_append,he]
   rfl
 | some u =>
  obtain ⟨i,k1,⟨e,k2,k3⟩,k4⟩:=JB 0 he hg
  rw [Nat.zero_add] at k1
  have h2:=FG (w:=w) (z:=z) hk k1
  have hei:es[i]?=some e:=by simpa using k2
  have hstay:(Instr.keyThatStays (((es[i]?).map (·.key)).getD (.string z)) (.string z)).run P w=.ok (.string z) w:=by
   rw [hei]
   simp only [Option.map_some,Option.getD_some,k3]
   unfold Instr.keyThatStays
   have:Instr.sameBits 10000 (.string z) (.string z)=true:=by
    show ((z:ByteArray) == z)=true
    rw [bab];simp
   rw [this];rfl
  refine ⟨es.modify i fun e=>{e with key:=.string z,val:=.int .i64 v},clock,?_,?_⟩
  ·unfold Instr.mapUpdate
   simp only [run_underlying hu,Sem.run_bind,Result.andThen_ok,h1,h2,h3,hstay]
   simp [setObj,Sem.run,hh]
  ·rw [Array.toList_modify];exact k4 v
theorem Gh2.omr {t:Nat} (hg:get env t=.om [] []) : Gh2 P C env H ((t,.mr H.length)::env) (H++[.mo [] []]):=fun X a w I μ O _ _ _ hs=>by
 obtain ⟨blk,es,c,ks',vs',h1,h2,h3,h4,h5,h6,hO⟩:=hs.om_inv hg
 obtain ⟨n1,n2,n3⟩:=hs.other_blk hO
 have hes:es.toList=[]:=by
  have hl:(ks'.zip vs').length=0:=by rw [h5.length_eq];rfl
  rw [List.length_zip,h3.length,h4.length,List.length_map,List.length_map,Nat.min_self] at hl
  exact List.eq_nil_of_length_eq_zero hl
 have hμ:∀ (i b:Nat),μ[i]?=some b→(μ++[blk])[i]?=some b:=fun i b h=>by
  rw [List.getElem?_append_left (lS.1 h).1];exact h
 have hlast:(μ++[blk])[H.length]?=some blk:=by rw [← hs.μlen];simp
 have hO':∀ b l,O b=some l→b≠blk→(if b=blk then some (Loc.o H.length) else O b)=some l:=fun b l h hb=>by rw [if_neg hb];exact h
 have hOt:∀ b s,O b=some (.t s)→s≠t→b≠blk:=fun b s h hst e=>by subst e;rw [hO] at h;simp at h;exact hst h.symm
 refine ⟨I,μ++[blk],fun b=>if b=blk then some (.o H.length) else O b,{hs.toMem with
  kO:=fun b hk=>by rw [if_neg (n2 b hk)];exact hs.kO b hk
  own:=fun b l hl=>by
   by_cases hb:b=blk
   ·subst hb;exact hs.own b _ hO
   ·rw [if_neg hb] at hl;exact hs.own b l hl
  μlen:=by simp [hs.μlen]
  μpre:=fun i b hi hb=>hμ i b (hs.μpre i b hi hb)
  nle:=by simp;have:=hs.nle;omega
  heap:=fun id ob ho=>?_
  envr:=fun s=>?_
  nt:=hs.nt
  dfs:=hs.dfs}⟩
 ·rcases Nat.lt_or_ge id H.length with hlt|hge
  ·rw [List.getElem?_append_left hlt] at ho
   obtain ⟨bb,bs,k1,k2,k3,k4⟩:=hs.heap id ob ho
   have hne:=n3 id ob bb bs ho k1 k3 k4
   refine ⟨bb,bs,hμ _ _ k1,?_,fun hn=>⟨(k3 hn).1,fun b hb=>hO' b _ ((k3 hn).2 b hb) (hne b hb)⟩,k4⟩
   cases ob with
   | box c =>
    obtain ⟨cl,et,m1,m2⟩:=k2
    exact ⟨cl,et,m1,m2.keep (fun _ h=>h) (fun _ _=>rfl) hμ fun _ _=>rfl⟩
   | mo _ _=>exact k2
  ·rw [List.getElem?_append_right hge] at ho
   have hid:id=H.length:=by
    have:=(lS.1 ho).1;simp at this;omega
   subst hid
   simp at ho;subst ho
   refine ⟨blk,[],hlast,⟨rfl,es,c,h2,by rw [hes];exact .nil,by rw [hes];exact .nil⟩,fun _=>⟨by simp,fun b hb=>?_⟩,fun hn=>?_⟩
   ·simp at hb;subst hb;rw [if_pos rfl]
   ·have:=hs.nle;have:=hs.n0le;omega
 ·by_cases hst:t=s
  ·subst hst
   rw [show get ((t,.mr H.length)::env) t=.mr H.length by simp [get]]
   refine .of (bs:=[]) ?_ nN (by simp)
   rw [h1]
   exact .mr _ _ hlast
  ·rw [show get ((t,.mr H.length)::env) s=get env s by simp [get,hst]]
   have key:∀ p e xs,AB env H p=.own e xs→AB ((t,AV.mr H.length)::env) (H++[.mo [] []]) p=.own e xs∧∀ v,AR a w μ p=some v→AR a w (μ++[blk]) p=some v:=by
    intro p e' xs hp
    cases p with
    | t r =>
     have hr':t≠r:=fun h=>by subst h;simp only [AB] at hp;rw [hg] at hp;cases hp
     exact ⟨by simp only [AB,get,if_neg hr'];exact hp,fun v hv=>hv⟩
    | c id off =>
     refine ⟨?_,fun v hv=>?_⟩
     ·simp only [AB] at hp ⊢
      cases hH:H[id]? with
      | none=>rw [hH] at hp;cases hp
      | some ob=>rw [List.getElem?_append_left (lS.1 hH).1,hH];rw [hH] at hp;exact hp
     ·simp only [AR,Option.bind_eq_some_iff] at hv ⊢
      obtain ⟨bb,hb1,hb2⟩:=hv
      exact ⟨bb,hμ _ _ hb1,hb2⟩
   have ht:=hs.envr s
   cases hgs:get env s with
   | ref p off len =>
    rw [hgs] at ht
    obtain ⟨e',xs,A,n,c,g1,g2,g3,g4⟩:=ht
    exact ⟨e',xs,A,n,c,(key p e' xs g1).1,(key p e' xs g1).2 _ g2,g3,g4⟩
   | ep p i k =>
    rw [hgs] at ht
    obtain ⟨e',xs,b,n,c,g1,g2,g3,g4,g5⟩:=ht
    exact ⟨e',xs,b,n,c,(key p e' xs g1).1,(key p e' xs g1).2 _ g2,g3,g4,g5⟩
   | _ =>
    rw [hgs] at ht
    obtain ⟨bs,g1,g2,g3⟩:=ht.plain rfl
    exact .of (g1.keep (fun _ h=>h) (fun _ _=>rfl) hμ fun _ _=>rfl) g2 fun b hb=>hO' b _ (g3 b hb) (hOt b s (g3 b hb) fun e=>hst e.symm)
end
end Go.FL
namespace Go.FL
open Go Go.RowKit
theorem Ri {α β:Type} {f:α→β} {z y:List β} (h:z.Perm y) : ∀ {l:List α},l.map f=y→∃ l' : List α,l'.Perm l∧l'.map f=z:=by
 induction h with
 | nil =>
  intro l hl
  have:l=[]:=by simpa using hl
  subst this;exact ⟨[],.nil,rfl⟩
 | cons x _ ih =>
  intro l hl
  cases l with
  | nil=>cases hl
  | cons a l =>
   simp only [List.map_cons,List.cons.injEq] at hl
   obtain ⟨l',h1,h2⟩:=ih hl.2
   exact ⟨a::l',h1.cons a,by simp [h2,hl.1]⟩
 | swap x y r =>
  intro l hl
  cases l with
  | nil=>cases hl
  | cons a l =>
   cases l with
   | nil=>cases hl
   | cons b l =>
    simp only [List.map_cons,List.cons.injEq] at hl
    obtain ⟨h1,h2,h3⟩:=hl
    exact ⟨b::a::l,.swap a b l,by simp [h1,h2,h3]⟩
 | trans _ _ ih1 ih2 =>
  intro l hl
  obtain ⟨l1,h1,h2⟩:=ih2 hl
  obtain ⟨l2,h3,h4⟩:=ih1 h2
  exact ⟨l2,h3.trans h1,h4⟩
theorem XU (l:List (ByteArray×Int)) : (smK l).zip (smV l)=l.map fun p=>(DV.s p.1,DV.i .i64 p.2):=by
 induction l with
 | nil=>rfl
 | cons p l ih=>simp only [smK,smV,List.map_cons,List.zip_cons_cons] at ih ⊢;rw [ih]
section
variable {P:Program} {C:Cx} {X:Snap} {o:Oper} {ops:Array Oper} {Q:Exit→Env→Ab→Prop} {env env':Env} {H H':Ab} {a:Act} {w w':World} {I I':Nat→Prop} {μ μ':List Nat} {O O':Nat→Option Loc}
 {K:Env→Ab→Prop} {k:Nat} {l:List Oper}
theorem Sim.mr (hs:Sim P X env H a w I μ O) {x:Operand} {id:Nat} (hv:Go.FL.lk env x=.mr id) : ∃ blk,μ[id]?=some blk∧a.eval x=.map (some blk):=by
 obtain ⟨bs,h⟩:=hs.lk (x:=x) (by rw [hv];rfl)
 rw [hv] at h
 generalize a.eval x=u at h
 cases h with
 | mr _ blk h=>exact ⟨blk,h,rfl⟩
theorem Sim.moAt (hs:Sim P X env H a w I μ O) {id:Nat} {m:List (ByteArray×Int)} (hH:H[id]?=some (.mo (smK m) (smV m))) {blk:Nat} (hm:μ[id]?=some blk) : ∃ es c,w.heap[blk]?=some (.map es c)∧EntS es.toList m:=by
 obtain ⟨b,bs,h1,⟨_,es,c,h2,h3,h4⟩,_⟩:=hs.heap id _ hH
 rw [hm] at h1;cases h1
 exact ⟨es,c,h2,Pu h3 h4⟩
theorem Aam (v:Int) (b:Bool) : Rep w I (.tup [.i .i64 v,.b b]) (.tuple #[.int .i64 v,.bool b]):=.tup _ [.int .i64 v,.bool b] (.cons (.i _ _) (.cons (.b _) .nil))
theorem Abx {x y:Operand} {ty kt et id:Nat} {z:ByteArray} (m:SM) (hH:H[id]?=some m.mo) (hu:P.underlying ty=some (.map kt et)) (hk:P.underlying kt=some .string) (hz:∀ w,(zeroValue et).run P w=.ok (.int .i64 0) w)
  (ho:o.op=.lookup ty x y true:=by rfl) (hx:lk env x=.mr id:=by rfl) (hy:A0 (lk env y)=some (.s z):=by rfl):VOK P C o env H (.d (.tup [.i .i64 ((m.get z).getD 0),.b (m.get z).isSome])) :=
 .same (by simp [ho]) fun X a w I μ O _ hs=>by
  obtain ⟨blk,h1,h2⟩:=hs.mr hx
  obtain ⟨es,c,h3,h4⟩:=hs.moAt hH h1
  have h5:=hs.deep (x:=y) hy
  generalize hev:a.eval y=u at h5
  cases h5
  exact ⟨.tuple #[.int .i64 ((BU m.1 z).getD 0),.bool (BU m.1 z).isSome],by simp only [execOp,ho,h2,hev,Lu hu hk (hz w) h3 h4,Sem.run_bind,Result.andThen_ok,Sem.run_pure],Aam _ _⟩
theorem Aac {x y:Operand} {ty kt et:Nat} {z:ByteArray} (m:SM) (hu:P.underlying ty=some (.map kt et)) (hk:P.underlying kt=some .string) (hz:∀ w,(zeroValue et).run P w=.ok (.int .i64 0) w)
  (ho:o.op=.lookup ty x y true:=by rfl) (hx:A0 (lk env x)=some m.mp:=by rfl) (hy:A0 (lk env y)=some (.s z):=by rfl):VOK P C o env H (.d (.tup [.i .i64 ((m.get z).getD 0),.b (m.get z).isSome])) :=
 .same (by simp [ho]) fun X a w I μ O _ hs=>by
  have h1:=hs.deep (x:=x) hx
  have h5:=hs.deep (x:=y) hy
  generalize hev:a.eval y=u at h5
  cases h5
  generalize hev2:a.eval x=u2 at h1
  cases h1 with
  | mp _ _ ks' vs' r es c hI hh h3 h4 hp hl =>
   rw [XU] at hp
   obtain ⟨l',q1,q2⟩:=Ri (f:=fun p:ByteArray×Int=>(DV.s p.1,DV.i .i64 p.2)) (l:=m.1) hp rfl
   have hl':ks'.length=vs'.length:=by rw [h3.length,h4.length,List.length_map,List.length_map]
   have e1:ks'=smK l':=by
    have:(ks'.zip vs').map Prod.fst=ks':=by rw [List.map_fst_zip (by omega)]
    rw [← this,← q2,smK,List.map_map];rfl
   have e2:vs'=smV l':=by
    have:(ks'.zip vs').map Prod.snd=vs':=by rw [List.map_snd_zip (by omega)]
    rw [← this,← q2,smV,List.map_map];rfl
   subst e1 e2
   have hg:BU l' z=m.get z:=Ss q1 ((q1.map Prod.fst).symm.nodup m.2) z
   refine ⟨.tuple #[.int .i64 ((BU l' z).getD 0),.bool (BU l' z).isSome],by simp only [execOp,ho,hev,hev2,Lu hu hk (hz w) hh (Pu h3 h4),Sem.run_bind,Result.andThen_ok,Sem.run_pure],?_⟩
   rw [hg];exact Aam _ _
theorem Abo {c:Call} {x:Operand} {ty kt et id:Nat} (m:SM) (hH:H[id]?=some m.mo) (hu:P.underlying ty=some (.map kt et)) (ho:o.op=.call c:=by rfl) (hc:c.callee=.builtin .len:=by rfl) (hx:c.args=#[x]:=by rfl) (hty:c.argTypes=#[ty]:=by rfl)
  (hv:lk env x=.mr id:=by rfl):VOK P C o env H (.d (.i .i64 m.len)) :=
 .same (by simp [ho]) fun X a w I μ O _ hs=>by
  obtain ⟨blk,h1,h2⟩:=hs.mr hv
  obtain ⟨es,cl,h3,h4⟩:=hs.moAt hH h1
  have hn:es.size=m.len:=by
   have:=congrArg List.length h4
   simpa [SM.len] using this
  refine ⟨.int .i64 m.len,?_,.i _ _⟩
  have hr:(Builtin.len_ #[ty] o.type #[.map (some blk)]).run P w=.ok (goInt m.len) w:=by
   simp [Builtin.len_,run_underlying hu,IU h3,hn]
  simp [execOp,ho,resolve,hc,hx,hty,invoke,builtin,h2,hr,goInt]
theorem Sim.moSet (hs:Sim P X env H a w I μ O) {id blk:Nat} {ks vs ks' vs':List DV} {es:Array MapEntry} {c:Nat} (hH:H[id]?=some (.mo ks vs)) (hm:μ[id]?=some blk) (hn:X.n0≤id) (hk:RepAll w I ks' (es.toList.map MapEntry.key)) (hv:RepAll w I vs' (es.toList.map MapEntry.val)) :
  Sim P X env (H.set id (.mo ks' vs')) a {w with heap:=w.heap.setIfInBounds blk (.map es c)} I μ O:=by
 have hlt:id<H.length:=(lS.1 hH).1
 obtain ⟨b0,bs0,h1,⟨h2,_⟩,h3,_⟩:=hs.heap id _ hH
 rw [hm] at h1;cases h1
 subst h2
 have hOb:O blk=some (.o id):=(h3 hn).2 blk (by simp)
 have hbl:blk<w.heap.size:=(hs.own blk _ hOb).1
 have hoth:∀ b,b≠blk→(w.heap.setIfInBounds blk (.map es c))[b]?=w.heap[b]?:=fun b hb=>by rw [Array.getElem?_setIfInBounds,if_neg (Ne.symm hb)]
 have hI:∀ b,I b→b≠blk:=fun b hi e=>by subst e;exact (hs.own b _ hOb).2 hi
 have hobj:∀ id' ob bb bs,id'≠id→H[id']?=some ob→μ[id']?=some bb→(X.n0≤id'→(bb::bs).Nodup∧∀ b∈bb::bs,O b=some (.o id'))→(id'<X.n0→∀ b∈bb::bs,X.K b)→∀ b∈bb::bs,b≠blk:=fun id' ob bb bs hne _ _ g3 g4 b hb e=>by
  subst e
  rcases Nat.lt_or_ge id' X.n0 with h|h
  ·have:=hs.kO _ (g4 h b hb);rw [hOb] at this;cases this
  ·have:=(g3 h).2 b hb;rw [hOb] at this;simp at this;exact hne this.symm
 have hII:∀ b,I b→(w.heap.setIfInBounds blk (.map es c))[b]?=w.heap[b]?:=fun b hi=>hoth b (hI b hi)
 refine {hs.toMem with
  prot:=fun b hk=>(hoth b fun e=>by subst e;have:=hs.kO b hk;rw [hOb] at this;cases this).trans (hs.prot b hk)
  size:=by simpa using hs.size
  own:=fun b l h=>by simpa using hs.own b l h
  ilt:=fun b hi=>by simpa using hs.ilt b hi
  μlen:=by simpa using hs.μlen
  nle:=by simpa using hs.nle
  heap:=fun id' ob ho=>?_
  envr:=fun t=>?_
  nt:=hs.nt
  dfs:=hs.dfs}
 ·by_cases hid:id=id'
  ·subst hid
   rw [List.getElem?_set_self hlt] at ho
   cases ho
   refine ⟨blk,[],hm,⟨rfl,es,c,?_,hk.keep hII fun _ h=>h,hv.keep hII fun _ h=>h⟩,h3,fun h=>absurd h (by omega)⟩
   show (w.heap.setIfInBounds blk _)[blk]?=_
   rw [Array.getElem?_setIfInBounds,if_pos rfl,if_pos hbl]
  ·rw [List.getElem?_set_ne hid] at ho
   obtain ⟨bb,bs,g1,g2,g3,g4⟩:=hs.heap id' ob ho
   have hne:=hobj id' ob bb bs (Ne.symm hid) ho g1 g3 g4
   refine ⟨bb,bs,g1,?_,g3,g4⟩
   cases ob with
   | box cs =>
    obtain ⟨cells,e,k1,k2⟩:=g2
    exact ⟨cells,e,(hoth bb (hne bb (by simp))).trans k1,k2.keep (fun _ h=>h) hII (fun _ _ h=>h) fun b hb=>hoth b (hne b (by simp [hb]))⟩
   | mo _ _=>exact ⟨g2.1,g2.2.keep (hoth bb (hne bb (by simp))) hII fun _ h=>h⟩
 ·refine (hs.envr t).keepG (fun _ h=>h) hII (fun _ _ h=>h) (fun b hb=>⟨hoth b fun e=>by subst e;rw [hOb] at hb;simp at hb,hb⟩) fun p e xs hp=>?_
  cases p with
  | t r=>exact ⟨hp,fun v hv=>hv⟩
  | c id' off =>
   have hne:id≠id':=fun e=>by subst e;simp only [AB,hH] at hp;cases hp
   refine ⟨by simp only [AB] at hp ⊢;rw [List.getElem?_set_ne hne];exact hp,fun v hv=>?_⟩
   simp only [AR,Option.bind_eq_some_iff] at hv ⊢
   obtain ⟨b,q1,q2⟩:=hv
   refine ⟨b,q1,?_⟩
   have hid':id'<H.length:=by rw [← hs.μlen];exact (lS.1 q1).1
   obtain ⟨bb,bs,g1,g2,g3,g4⟩:=hs.heap id' _ (lG hid')
   rw [q1] at g1;cases g1
   have:=hobj id' _ b bs (Ne.symm hne) (lG hid') q1 g3 g4 b (by simp)
   rw [World.cell?_of_block (w:=w) (a:=⟨b,off,none⟩) (hoth b this)];exact q2
theorem YC {x y z:Operand} {ty kt et id:Nat} {ky:ByteArray} {v:Int} (m:SM) (hH:H[id]?=some m.mo) (hu:P.underlying ty=some (.map kt et)) (hk:P.underlying kt=some .string) (h:RL P C ops Q (k+1) l env (H.set id (m.set ky v).mo)) (hn:C.n0≤id:=by exact Nat.zero_le _) (hg:grd ops env o true=true:=by rfl)
  (ho:o.op=.mapUpdate ty x y z:=by rfl) (hx:lk env x=.mr id:=by rfl) (hy:A0 (lk env y)=some (.s ky):=by rfl) (hz:A0 (lk env z)=some (.i .i64 v):=by rfl) (hd:o.dst=none:=by rfl):RL P C ops Q k (o::l) env H:=by
 refine .go hg (.done (by simp [ho]) hd (fun X a w I μ O _ g2 _ hs=>?_) h)
 obtain ⟨blk,h1,h2⟩:=hs.mr hx
 obtain ⟨es,c,h3,h4⟩:=hs.moAt hH h1
 have h5:=hs.deep (x:=y) hy
 have h6:=hs.deep (x:=z) hz
 generalize hev:a.eval y=u at h5
 generalize hev2:a.eval z=u2 at h6
 cases h5;cases h6
 obtain ⟨es',c',r1,r2⟩:=Qk (v:=v) (z:=ky) hu hk h3 h4
 obtain ⟨q1,q2⟩:=r2.reps (w:=w) (I:=I)
 exact ⟨{w with heap:=w.heap.setIfInBounds blk (.map es' c')},I,μ,O,by simp only [execOp,ho,h2,hev,hev2,r1,Sem.run_bind,Result.andThen_ok,Sem.run_pure],hs.moSet hH h1 (by omega) q1 q2⟩
end
end Go.FL
namespace Go.FL
open Go Go.RowKit
def FnO (P:Program) (f:FuncId) (args:List AV) (H:Ab) (post:AV→Ab→Prop) (args':List AV) : Prop :=
 ∀ (X:Snap) (w:World) (I:Nat→Prop) (μ:List Nat) (O:Nat→Option Loc) (vs:List Value) (bs:List Nat),X.w=w→X.I=I→X.n0=0→X.ne=H.length→X.μ=μ→Mem P X H w I μ O→ARepAll P w I μ args vs bs→bs.Nodup→(∀ b∈bs,O b=some .r) →
  CallsIn (om none) 0 P f vs.toArray w fun e w'=>∃ v I' μ' O' H' r rs bs',e=.returned v∧Mem P X H' w' I' μ' O'∧ARep P w' I' μ' r v rs∧ARepAll P w' I' μ' args' (vs.take args'.length) bs'∧(rs++bs').Nodup∧(∀ b∈rs++bs',∃ n,O' b=some (.t n))∧post r H'
def Abu (rs:List ResultVar) (post:AV→Ab→Prop) (args':List AV) : Exit→Env→Ab→Prop
 | .normal,env,H=>∃ r,ES env r rs∧(∀ (i:Nat) c,args'[i]?=some c→get env i=c∧AI c=false∧.tmp i∉rs)∧post r H
 | .ret,env,H=>∃ r,ES env r rs∧(∀ (i:Nat) c,args'[i]?=some c→get env i=c∧AI c=false∧.tmp i∉rs)∧post r H
 | _,_,_=>False
def mpV (id:Nat) (d:DV) : AV→AV
 | .mr i=>if i=id then .d d else .mr i
 | .bp i off=>if i<id then .bp i off else .un
 | .d v=>.d v
 | .nl=>.nl
 | .own e xs=>.own e xs
 | .nb xs=>.nb xs
 | .it s p=>.it s p
 | .om k v=>.om k v
 | .ref (.t s) o n=>.ref (.t s) o n
 | .ep (.t s) i k=>.ep (.t s) i k
 | _=>.un
def mpE (id:Nat) (d:DV) (env:Env) : Env:=env.map fun x=>(x.1,mpV id d x.2)
theorem Mb (id:Nat) (d:DV) (t:Nat) : ∀ env : Env,get (mpE id d env) t=mpV id d (get env t)
 | []=>rfl
 | (s,v)::r=>by
  show (if s=t then mpV id d v else get (mpE id d r) t)=mpV id d (if s=t then v else get r t)
  split
  ·rfl
  ·exact Mb id d t r
def mpC (id:Nat) : AV→Bool
 | .mr i=>Nat.ble i id
 | .bp i _=>Nat.blt i id
 | c=>noBp c
def mpO (id:Nat) (d:DV) : HO→HO
 | .box cs=>.box (cs.map fun c=>match c with
  | .mr i=>if i=id then .d d else .mr i
  | c=>c)
 | o=>o
def Aaq (id:Nat) : HO→Bool
 | .box cs=>cs.all (mpC id)
 | _=>true
section
variable {P:Program} {C:Cx} {X:Snap} {o:Oper} {ops:Array Oper} {Q:Exit→Env→Ab→Prop} {env env':Env} {H H':Ab} {a:Act} {w w':World} {I I':Nat→Prop} {μ μ':List Nat} {O O':Nat→Option Loc}
 {K:Env→Ab→Prop} {k:Nat} {l:List Oper}
theorem FnO.of {f:FuncId} {fn:Func} {c:Code} {args args':List AV} {post:AV→Ab→Prop} {rs:List ResultVar} (lo nt:Nat) (hf:P.funcs[f]?=some fn) (hb:fn.body=some c) (hrs:fn.results=rs.toArray) (hnt:fn.ntmps=nt) (hn:args.length≤nt) (hlo:args'.length≤lo)
  (hlo':lo≤args.length) (h:AW P {nt:=(lo,nt),n0:=0,ne:=H.length} c (Abu rs post args') (Qz 0 args []) H):FnO P f args H post args':=by
 intro X w I μ O vs bs e1 e2 e3 e4 e5 hm ha hnd hbO
 refine callsIn_of_wp hf hb trivial ?_
 have hlen:=ha.length
 let a:Act:={tmps:=vs.toArray++Array.replicate (fn.ntmps-vs.toArray.size) undef,defers:=[]}
 let Y:Snap:={X with nt:=(lo,nt),dfs:=[],args:=vs}
 have hat:∀ (j:Nat) (v:Value),vs[j]?=some v→a.tmps.getD j undef=v:=fun j v hj=>by
  have hjl:j<vs.length:=(lS.1 hj).1
  have e2:(vs.toArray++Array.replicate (fn.ntmps-vs.length) undef)[j]?=some v:=by
   rw [Array.getElem?_append_left (by simpa using hjl)];simpa using hj
  simp [a,e2]
 have hs0:Sim P Y [] H a w I μ O:=by
  refine ⟨hm.cast rfl rfl rfl rfl rfl rfl,fun t=>.un,by simp [a,Y,hnt];omega,rfl,fun t ht=>?_⟩
  have htl:t<vs.length:=by simp only [Y] at ht;omega
  rw [hat t vs[t] (lG htl)]
  simp [Y,List.getD_eq_getElem?_getD,htl]
 obtain ⟨O1,hs⟩:=hs0.adoptAll (k:=0) ha hnd hbO (fun _ _=>rfl) fun j v hj=>by rw [Nat.zero_add];exact hat j v hj
 have hw:=h Y a w I μ O1 rfl e3 e4 hs
 refine wpIn_mono hw fun e a' w' hp=>?_
 obtain ⟨env',He,I',μ',O',s,q⟩:=hp
 have fin:(∃ r,ES env' r rs∧(∀ (i:Nat) c,args'[i]?=some c→get env' i=c∧AI c=false∧.tmp i∉rs)∧post r He)→a'.defers=[]∧∃ v,(results fn a'.tmps).run P w'=.ok v w' ∧
   ∃ v' I' μ' O' H' r rs bs',Ending.returned v=.returned v'∧Mem P X H' w' I' μ' O'∧ARep P w' I' μ' r v' rs∧ARepAll P w' I' μ' args' (vs.take args'.length) bs'∧(rs++bs').Nodup∧(∀ b∈rs++bs',∃ n,O' b=some (.t n))∧post r H':=by
  rintro ⟨r,hres,hargs,hpost⟩
  obtain ⟨v,b1,h1,h2,h3,h4⟩:=s.gives hrs hres
  obtain ⟨b2,k1,k2,k3⟩:=s.firsts rs (cs:=args') (vs:=vs) 0 (fun i c hi=>by rw [Nat.zero_add];exact hargs i c hi) fun i hi=>by
   have htl:i<vs.length:=by omega
   rw [Nat.zero_add,s.dfs.2 i (by simp only [Y];omega)]
   simp [Y,List.getD_eq_getElem?_getD,htl]
  refine ⟨s.dfs.1,v,h1,v,I',μ',O',He,r,b1,b2,rfl,s.toMem.cast rfl rfl rfl rfl rfl rfl,h2,k1,?_,fun b hb=>?_,hpost⟩
  ·refine List.nodup_append.2 ⟨h3,k2,fun x hx y hy e=>?_⟩
   subst e
   obtain ⟨t,g1,g2⟩:=h4 x hx
   obtain ⟨t',_,g3,g4⟩:=k3 x hy
   rw [g1] at g3;simp at g3;subst g3
   exact g4 g2
  ·rcases List.mem_append.1 hb with hb|hb
   ·obtain ⟨t,g1,_⟩:=h4 b hb;exact ⟨t,g1⟩
   ·obtain ⟨t,_,g1,_⟩:=k3 b hb;exact ⟨t,g1⟩
 cases e with
 | normal=>exact fin q
 | ret=>exact fin q
 | _=>exact q.elim
theorem OpOK.callOL {c:Call} {f:FuncId} {avs:List AV} {post:AV→Ab→Prop} {s t0:Nat} {xa:List Operand} {e:TypeId} {xs xs':List DV} (ho:o.op=.call c) (hc:c.callee=.value (.func f)) (hx:c.args.toList=.tmp s::xa) (hv:get env s=.ref (.t t0) 0 xs.length) (hp:get env t0=.own e xs)
  (ha:argsA (put env t0 .un) xa=some avs) (hcr:Bm (put env t0 .un)=false) (hn0:C.n0=0)
  (hcall:∀ args w,(callFunc f args).run P w=.ok (.enter f args) w) (hfn:FnO P f (.own e xs::avs) H post [.own e xs']) (hd:∀ t,o.dst=some t→okT C.nt t)
  (hK:∀ r H',post r H'→K (match o.dst with|some t=>put ((t0,.own e xs')::put env t0 .un) t r|none=>(t0,.own e xs')::put env t0 .un) H'):OpOK P C o env H K:=by
 intro X a w I μ O next Q h1 h2 h3 hs hn
 refine ⟨fun _ _=>trivial,?_⟩
 rw [Oper.semAt_eq _ _ _ (by simp [ho]),I0 ho hc hcall,Oper.uponIn_enter]
 refine ⟨fun h=>(by simp [om] at h),?_⟩
 have hrs:=hs.envr s
 rw [hv] at hrs
 obtain ⟨e',ys,A,n,cc,g1,g2,g3,A',c',p1,p2,p3,p4⟩:=hrs
 have hee:AV.own e xs=.own e' ys:=hp.symm.trans g1
 cases hee
 obtain ⟨rfl,rfl⟩:=p3 rfl
 simp only [AR,Option.some.injEq] at g2
 obtain ⟨k1,bs,k2,k3,k4⟩:=hs.take t0 (by rw [hp];rfl)
 rw [hp,g2] at k2
 have hnl:n=xs.length:=(DX k2).1
 subst hnl
 have hval:a.eval (.tmp s)=a.tmps.getD t0 undef:=by rw [g2];exact p1
 obtain ⟨Y,O2,y1,y2,y3,y4,y5,ym,yb,yk⟩:=k1.over (by omega) hcr bs k4
 have hargs:ARepAll P w I μ (.own e xs::avs) (c.args.toList.map a.eval) bs:=by
  rw [hx,List.map_cons,hval,g2]
  have:=ARepAll.cons k2 (k1.argsA ha)
  simpa using this
 have hcl:=hfn Y w I μ O2 _ bs y1 y2 y3 y4 y5 ym hargs k3 yb
 refine ⟨trivial,fun csF hroom=>?_⟩
 obtain ⟨e',w',fr,⟨v,I',μ',O',Hn,r,rs,bs',rfl,q1,q2,q3,q4,q5,q6⟩,s',x⟩:=hcl.2 csF (room_wide _)
 refine ⟨.returned v,w',fr,?_,s',x⟩
 obtain ⟨On,m1,m2⟩:=yk q1 (rs:=rs++bs') q5
 obtain ⟨n1,n2,n3⟩:=List.nodup_append.1 q4
 have hq3:ARep P w' I' μ' (.own e xs') (a.tmps.getD t0 undef) bs':=by
  rw [hx,List.map_cons,hval] at q3
  simp only [List.length_cons,List.length_nil,Nat.zero_add,List.take_succ_cons,List.take_zero] at q3
  cases q3 with
  | cons h t=>cases t;simpa using h
 have j1:=m1.adopt hq3 n2 (fun b hb=>m2 b (by simp [hb])) (by simp [put,get,Aj])
 have hh:Hand P w' I' μ' (fun b=>if b∈bs' then some (.t t0) else On b) r v:=⟨rs,q2,n1,fun b hb=>by show (if b∈bs' then _ else _)=_;rw [if_neg fun hm=>n3 b hb b hm rfl];exact m2 b (by simp [hb])⟩
 show next (a.put o.dst v) w'
 have hK:=hK r Hn q6
 cases hdst:o.dst with
 | none=>exact hn _ _ _ _ _ _ _ j1 (by rw [hdst] at hK;exact hK)
 | some t=>exact hn _ _ _ _ _ _ _ (j1.put_hand (by rw [h1];exact hd t hdst) hh) (by rw [hdst] at hK;exact hK)
theorem OpOK.callOM {c:Call} {f:FuncId} {as1 as2:List AV} {post:AV→Ab→Prop} {s t0:Nat} {x1 x2:List Operand} {e:TypeId} {xs:List DV} (ho:o.op=.call c) (hc:c.callee=.value (.func f)) (hx:c.args.toList=x1++.tmp s::x2) (hv:get env s=.ref (.t t0) 0 xs.length∨s=t0) (hp:get env t0=.own e xs)
  (ha1:argsA (put env t0 .un) x1=some as1) (ha2:argsA (put env t0 .un) x2=some as2) (hcr:Bm (put env t0 .un)=false) (hn0:C.n0=0)
  (hcall:∀ args w,(callFunc f args).run P w=.ok (.enter f args) w) (hfn:FnO P f (as1++.own e xs::as2) H post []) (hd:∀ t,o.dst=some t→okT C.nt t)
  (hK:∀ r H',post r H'→K (match o.dst with|some t=>put (put env t0 .un) t r|none=>put env t0 .un) H'):OpOK P C o env H K:=by
 intro X a w I μ O next Q h1 h2 h3 hs hn
 refine ⟨fun _ _=>trivial,?_⟩
 rw [Oper.semAt_eq _ _ _ (by simp [ho]),I0 ho hc hcall,Oper.uponIn_enter]
 refine ⟨fun h=>(by simp [om] at h),?_⟩
 obtain ⟨k1,bs,k2,k3,k4⟩:=hs.take t0 (by rw [hp];rfl)
 rw [hp] at k2
 have hval:a.eval (.tmp s)=a.tmps.getD t0 undef:=by
  rcases hv with hv|rfl
  ·have hrs:=hs.envr s
   rw [hv] at hrs
   obtain ⟨e',ys,A,n,cc,g1,g2,g3,A',c',p1,p2,p3,p4⟩:=hrs
   have hee:AV.own e xs=.own e' ys:=hp.symm.trans g1
   cases hee
   obtain ⟨rfl,rfl⟩:=p3 rfl
   simp only [AR,Option.some.injEq] at g2
   rw [g2] at k2
   have hnl:n=xs.length:=(DX k2).1
   subst hnl
   rw [g2];exact p1
  ·rfl
 obtain ⟨Y,O2,y1,y2,y3,y4,y5,ym,yb,yk⟩:=k1.over (by omega) hcr bs k4
 have hargs:ARepAll P w I μ (as1++.own e xs::as2) (c.args.toList.map a.eval) bs:=by
  rw [hx,List.map_append,List.map_cons,hval]
  have:=(k1.argsA ha1).append (ARepAll.cons k2 (k1.argsA ha2))
  simpa using this
 have hcl:=hfn Y w I μ O2 _ bs y1 y2 y3 y4 y5 ym hargs k3 yb
 refine ⟨trivial,fun csF hroom=>?_⟩
 obtain ⟨e',w',fr,⟨v,I',μ',O',Hn,r,rs,bs',rfl,q1,q2,q3,q4,q5,q6⟩,s',x⟩:=hcl.2 csF (room_wide _)
 refine ⟨.returned v,w',fr,?_,s',x⟩
 obtain ⟨On,m1,m2⟩:=yk q1 (rs:=rs++bs') q5
 obtain ⟨n1,n2,n3⟩:=List.nodup_append.1 q4
 have hh:Hand P w' I' μ' On r v:=⟨rs,q2,n1,fun b hb=>m2 b (by simp [hb])⟩
 show next (a.put o.dst v) w'
 have hK:=hK r Hn q6
 cases hdst:o.dst with
 | none=>exact hn _ _ _ _ _ _ _ m1 (by rw [hdst] at hK;exact hK)
 | some t=>exact hn _ _ _ _ _ _ _ (m1.put_hand (by rw [h1];exact hd t hdst) hh) (by rw [hdst] at hK;exact hK)
theorem Abs {c:Call} {f t s t0:Nat} {avs:List AV} {post:AV→Ab→Prop} {xa:List Operand} {e:TypeId} {xs xs':List DV} (hfn:FnO P f (.own e xs::avs) H post [.own e xs']) (hcall:∀ args w,(callFunc f args).run P w=.ok (.enter f args) w)
  (h:∀ r H',post r H'→RL P C ops Q (k+1) l (put ((t0,.own e xs')::put env t0 .un) t r) H') (hg:grd ops env o true=true:=by rfl) (ho:o.op=.call c:=by rfl) (hc:c.callee=.value (.func f):=by rfl) (hx:c.args.toList=.tmp s::xa:=by rfl) (hv:get env s=.ref (.t t0) 0 xs.length:=by rfl) (hp:get env t0=.own e xs:=by rfl)
  (ha:argsA (put env t0 .un) xa=some avs:=by rfl) (hcr:Bm (put env t0 .un)=false:=by rfl) (hd:o.dst=some t:=by rfl) (ht:okT C.nt t:=by rfl) (h0:C.n0=0:=by rfl):RL P C ops Q k (o::l) env H :=
 .go hg (OpOK.callOL ho hc hx hv hp ha hcr h0 hcall hfn (fun t' h'=>by rw [hd] at h';cases h';exact ht) fun r H' hp=>by rw [hd];exact h r H' hp)
theorem Aap {c:Call} {f t s t0:Nat} {as1 as2:List AV} {post:AV→Ab→Prop} (x1 x2:List Operand) {e:TypeId} {xs:List DV} (hfn:FnO P f (as1++.own e xs::as2) H post []) (hcall:∀ args w,(callFunc f args).run P w=.ok (.enter f args) w)
  (h:∀ r H',post r H'→RL P C ops Q (k+1) l (put (put env t0 .un) t r) H') (hv:get env s=.ref (.t t0) 0 xs.length∨s=t0) (hg:grd ops env o true=true:=by rfl) (ho:o.op=.call c:=by rfl) (hc:c.callee=.value (.func f):=by rfl) (hx:c.args.toList=x1++.tmp s::x2:=by rfl) (hp:get env t0=.own e xs:=by rfl)
  (ha1:argsA (put env t0 .un) x1=some as1:=by rfl) (ha2:argsA (put env t0 .un) x2=some as2:=by rfl) (hcr:Bm (put env t0 .un)=false:=by rfl) (hd:o.dst=some t:=by rfl) (ht:okT C.nt t:=by rfl) (h0:C.n0=0:=by rfl):RL P C ops Q k (o::l) env H :=
 .go hg (OpOK.callOM ho hc hx hv hp ha1 ha2 hcr h0 hcall hfn (fun t' h'=>by rw [hd] at h';cases h';exact ht) fun r H' hp=>by rw [hd];exact h r H' hp)
theorem Gh2.popMo {H0:Ab} {ks vs:List DV} (hH:H=H0++[.mo ks vs]) (hkv:ks.length=vs.length) (hb0:H0.all (Aaq H0.length)=true) (hne:Nat.ble C.ne H0.length=true) : Gh2 P C env H (mpE H0.length (.mp ks vs) env) (H0.map (mpO H0.length (.mp ks vs))):=fun X a w I μ O _ h2 h3 hs=>by
 subst hH
 obtain ⟨blk,bs,k1,⟨m0,es,cl,m1,m2,m3⟩,k3,_⟩:=hs.heap H0.length (.mo ks vs) (by simp)
 have hne':X.ne≤H0.length:=by rw [h3];exact Nat.le_of_ble_eq_true hne
 have hn0:X.n0≤H0.length:=nT hs.n0le hne'
 have hOb:O blk=some (.o H0.length):=(k3 hn0).2 blk (by simp)
 have hbl:blk<w.heap.size:=(hs.own blk _ hOb).1
 have hμt:∀ i,i<H0.length→(μ.take H0.length)[i]?=μ[i]?:=fun i hi=>by rw [List.getElem?_take,if_pos hi]
 have hOn:∀ b l,O b=some l→l≠.o H0.length→(if b=blk then none else O b)=some l:=fun b l h hl=>by
  rw [if_neg fun e=>hl (by subst e;rw [hOb] at h;exact (oI h).symm)];exact h
 have hd:Rep w (fun b=>I b∨b=blk) (.mp ks vs) (.map (some blk)):=.mp ks vs ks vs blk es cl (.inr rfl) m1 (m2.keep (fun _ _=>rfl) fun _ h=>.inl h) (m3.keep (fun _ _=>rfl) fun _ h=>.inl h) (List.Perm.refl _) hkv
 have hcell:∀ {c:AV} {v:Value} {b2:List Nat},mpC H0.length c=true→ARep P w I μ c v b2→ARep P w (fun b=>I b∨b=blk) (μ.take H0.length) (match c with|.mr i=>if i=H0.length then .d (.mp ks vs) else .mr i|c=>c) v b2:=by
  intro c v b2 hc hr
  cases hr with
  | mr id b hb =>
   show ARep P w _ _ (if id=H0.length then .d (.mp ks vs) else .mr id) _ _
   by_cases hi:id=H0.length
   ·rw [if_pos hi]
    subst hi
    rw [k1] at hb;cases hb
    exact .d hd
   ·rw [if_neg hi]
    have:id≤H0.length:=Nat.le_of_ble_eq_true hc
    exact .mr id b (by rw [hμt id (by omega)];exact hb)
  | bp id off b hb =>
   have:id<H0.length:=by
    have h0:=hc
    simp [mpC,Nat.blt] at h0
    omega
   exact .bp id off b (by rw [hμt id this];exact hb)
  | un v=>exact .un v
  | d h=>exact .d (h.keep (fun _ _=>rfl) fun _ h=>.inl h)
  | nl=>exact .nl
  | own e xs v vs h1 h2 h3=>exact ((ARep.own (μ:=μ) e xs v vs h1 h2 h3).noBp (μ':=μ.take H0.length) hc).keep (fun _ h=>.inl h) (fun _ _=>rfl) (fun _ _ h=>h) fun _ _=>rfl
  | ag h=>exact ((ARep.ag h).noBp (μ':=μ.take H0.length) hc).keep (fun _ h=>.inl h) (fun _ _=>rfl) (fun _ _ h=>h) fun _ _=>rfl
  | fn h1 h2=>exact ((ARep.fn h1 h2).noBp (μ':=μ.take H0.length) hc).keep (fun _ h=>.inl h) (fun _ _=>rfl) (fun _ _ h=>h) fun _ _=>rfl
  | tup h=>exact ((ARep.tup h).noBp (μ':=μ.take H0.length) hc).keep (fun _ h=>.inl h) (fun _ _=>rfl) (fun _ _ h=>h) fun _ _=>rfl
  | nb cs b cells e hh hr=>exact ((ARep.nb (P:=P) (μ:=μ) cs b cells e hh hr).noBp (μ':=μ.take H0.length) hc).keep (fun _ h=>.inl h) (fun _ _=>rfl) (fun _ _ h=>h) fun _ _=>rfl
  | it s pos b hh=>exact .it s pos b hh
  | om a1 a2 a3 a4 b es c hh hk hv hp hl=>exact .om a1 a2 a3 a4 b es c hh (hk.keep (fun _ _=>rfl) fun _ h=>.inl h) (hv.keep (fun _ _=>rfl) fun _ h=>.inl h) hp hl
 have hcells:∀ {cs:List AV} {us:List Value} {b2:List Nat},cs.all (mpC H0.length)=true→ARepAll P w I μ cs us b2→ARepAll P w (fun b=>I b∨b=blk) (μ.take H0.length) (cs.map fun c=>match c with|.mr i=>if i=H0.length then .d (.mp ks vs) else .mr i|c=>c) us b2:=by
  intro cs
  induction cs with
  | nil=>intro us b2 _ h;cases h;exact .nil
  | cons c cs ih =>
   intro us b2 hc h
   simp only [List.all_cons,Bool.and_eq_true] at hc
   cases h with
   | cons h t=>exact .cons (hcell hc.1 h) (ih hc.2 t)
 refine ⟨fun b=>I b∨b=blk,μ.take H0.length,fun b=>if b=blk then none else O b,{
  prot:=hs.prot
  kO:=fun b hk=>by
   by_cases hb:b=blk
   ·rw [if_pos hb]
   ·rw [if_neg hb];exact hs.kO b hk
  kI:=fun b hk hi=>hi.elim (hs.kI b hk) fun e=>by subst e;have:=hs.kO _ hk;rw [hOb] at this;cases this
  mono:=fun b hi=>.inl (hs.mono b hi)
  os:=hs.os,tape:=hs.tape,output:=hs.output,size:=hs.size
  own:=fun b l hl=>by
   by_cases hb:b=blk
   ·rw [if_pos hb] at hl;cases hl
   ·rw [if_neg hb] at hl;exact ⟨(hs.own b l hl).1,fun hi=>hi.elim (hs.own b l hl).2 hb⟩
  ilt:=fun b hi=>hi.elim (hs.ilt b) fun e=>by rw [e];exact hbl
  μlen:=by rw [List.length_take,hs.μlen];simp
  μpre:=fun i b hi hb=>by rw [hμt i (by omega)];exact hs.μpre i b hi hb
  nle:=by rw [List.length_map];exact hne'
  heap:=fun id ob ho=>?_
  klt:=hs.klt
  n0le:=hs.n0le
  envr:=fun s=>?_
  nt:=hs.nt
  dfs:=hs.dfs}⟩
 ·rw [List.getElem?_map] at ho
  cases hx:H0[id]? with
  | none=>rw [hx] at ho;cases ho
  | some ob0 =>
   rw [hx] at ho
   simp only [Option.map_some,Option.some.injEq] at ho
   subst ho
   have hlt:=(lS.1 hx).1
   obtain ⟨bb,bs',q1,q2,q3,q4⟩:=hs.heap id ob0 (by rw [List.getElem?_append_left hlt];exact hx)
   refine ⟨bb,bs',by rw [hμt id hlt];exact q1,?_,fun hn=>⟨(q3 hn).1,fun b hb=>hOn b _ ((q3 hn).2 b hb) (by simp;omega)⟩,q4⟩
   have hok:Aaq H0.length ob0=true:=List.all_eq_true.1 hb0 ob0 (List.mem_of_getElem? hx)
   cases ob0 with
   | box c =>
    obtain ⟨cl,et,n1,n2⟩:=q2
    exact ⟨cl,et,n1,hcells hok n2⟩
   | mo _ _=>exact ⟨q2.1,q2.2.keep rfl (fun _ _=>rfl) fun _ h=>.inl h⟩
 ·rw [Mb]
  have ht:=hs.envr s
  have plain:∀ av,get env s=av→noBp av=true→AI av=false→TRep P (mpE H0.length (.mp ks vs) env) (H0.map (mpO H0.length (.mp ks vs))) a w (fun b=>I b∨b=blk) (μ.take H0.length) (fun b=>if b=blk then none else O b) s av:=by
   intro av hav hn hr
   rw [hav] at ht
   obtain ⟨bs,g1,g2,g3⟩:=ht.plain hr
   exact .of ((g1.noBp (μ':=μ.take H0.length) hn).keep (fun _ h=>.inl h) (fun _ _=>rfl) (fun _ _ h=>h) fun _ _=>rfl) g2 fun b hb=>hOn b _ (g3 b hb) (by simp)
  cases hgs:get env s with
  | mr i =>
   rw [hgs] at ht
   obtain ⟨bs,g1,g2,g3⟩:=ht.plain rfl
   show TRep P _ _ a w _ _ _ s (if i=H0.length then .d (.mp ks vs) else .mr i)
   generalize hv:a.tmps.getD s undef=v at g1
   cases g1 with
   | mr _ b hb =>
    by_cases hi:i=H0.length
    ·rw [if_pos hi]
     subst hi
     rw [k1] at hb;cases hb
     refine .of (bs:=[]) ?_ nN (by simp)
     rw [hv];exact .d hd
    ·rw [if_neg hi]
     have hlt:=(lS.1 hb).1
     have:=hs.μlen
     simp at this
     refine .of (bs:=[]) ?_ nN (by simp)
     rw [hv]
     exact .mr i b (by rw [hμt i (by omega)];exact hb)
  | bp i off =>
   rw [hgs] at ht
   obtain ⟨bs,g1,g2,g3⟩:=ht.plain rfl
   show TRep P _ _ a w _ _ _ s (if i<H0.length then .bp i off else .un)
   split
   ·rename_i hi
    generalize hv:a.tmps.getD s undef=v at g1
    cases g1 with
    | bp _ _ b hb =>
     refine .of (bs:=[]) ?_ nN (by simp)
     rw [hv]
     exact .bp i off b (by rw [hμt i hi];exact hb)
   ·exact .un
  | ref p off len =>
   cases p with
   | c _ _=>exact .un
   | t r =>
    rw [hgs] at ht
    obtain ⟨e',xs,A,n,c,g1,g2,g3,g4⟩:=ht
    refine ⟨e',xs,A,n,c,?_,g2,g3,g4⟩
    show get (mpE H0.length (.mp ks vs) env) r=_
    rw [Mb,show get env r=_ from g1];rfl
  | ep p i k =>
   cases p with
   | c _ _=>exact .un
   | t r =>
    rw [hgs] at ht
    obtain ⟨e',xs,b,n,c,g1,g2,g3,g4,g5⟩:=ht
    refine ⟨e',xs,b,n,c,?_,g2,g3,g4,g5⟩
    show get (mpE H0.length (.mp ks vs) env) r=_
    rw [Mb,show get env r=_ from g1];rfl
  | d v=>exact plain _ hgs rfl rfl
  | nl=>exact plain _ hgs rfl rfl
  | own e xs=>exact plain _ hgs rfl rfl
  | nb xs=>exact plain _ hgs rfl rfl
  | it s p=>exact plain _ hgs rfl rfl
  | om k v=>exact plain _ hgs rfl rfl
  | un=>exact .un
  | ag _=>exact .un
  | fn _ _ _=>exact .un
  | tup _=>exact .un
end
end Go.FL
namespace Go.FL
open Go Go.RowKit
section
variable {P:Program} {C:Cx} {X:Snap} {o:Oper} {ops:Array Oper} {Q:Exit→Env→Ab→Prop} {env env':Env} {H H':Ab} {a:Act} {w w':World} {I I':Nat→Prop} {μ μ':List Nat} {O O':Nat→Option Loc}
 {K:Env→Ab→Prop} {k:Nat} {l:List Oper}
theorem Sim.storeAt {t0 i b n c oo:Nat} {e:TypeId} (ha:a.tmps.getD t0 undef=.slice (some ⟨b,0,none⟩) n c) : ∀ (us:List Value) (q k:Nat) (ds zs:List DV) (env:Env) (w:World) (xs:List DV),Sim P X env H a w I μ O →
  get env t0=.own e xs→xs[i]?=some (.ag zs)→zs.length=Av P e→oo+q=i * Av P e+k→k+us.length≤zs.length→(∀ w,RepAll w I ds us)→(∀ u∈us,u.oneCell'=true) →
  ∃ w',(∀ rest,(storeCells ⟨b,oo,none⟩ (us++rest) q).run P w=(storeCells ⟨b,oo,none⟩ rest (q+us.length)).run P w')∧Sim P X ((t0,.own e (xs.set i (.ag (zs.take k++ds++zs.drop (k+us.length)))))::env) H a w' I μ O
 | [],q,k,ds,zs,env,w,xs,hs,hp,hx,hl,hq,hk,hr,h1=>by
  have hr0:=hr w
  cases hr0
  have e1:xs.set i (.ag (zs.take k++[]++zs.drop (k+([]:List Value).length)))=xs:=by
   rw [List.append_nil,List.length_nil,Nat.add_zero,List.take_append_drop,List.set_same _ _ hx]
  rw [e1]
  exact ⟨w,fun rest=>rfl,hs.same fun s=>by simp only [get];split<;>simp_all⟩
 | u::us,q,k,ds,zs,env,w,xs,hs,hp,hx,hl,hq,hk,hr,h1=>by
  cases ds with
  | nil=>have:=hr w;cases this
  | cons d ds =>
   have hd:Rep w I d u:=by have:=hr w;cases this;assumption
   have ht:∀ w,RepAll w I ds us:=fun w=>by have:=hr w;cases this;assumption
   rw [List.length_cons] at hk
   have hil:i<xs.length:=(lS.1 hx).1
   have hek:Kq P env H a w μ (.t t0) i k (.pointer (some ⟨b,i * Av P e+k,none⟩)):=⟨e,xs,b,n,c,hp,by simp only [AR];rw [ha],hil,by omega,rfl⟩
   have hu:=h1 u (by simp)
   obtain ⟨b',off,q1,⟨u0,q2⟩,q3,q4⟩:=hs.storeE (p:=.t t0) (e:=e) (xs:=xs) hp (fun _ _ h=>by cases h) hek (x':=.ag (zs.set k d)) (x0:=d) hx rfl hd hu
   simp only [Value.pointer.injEq,Option.some.injEq,Addr.mk.injEq,and_true] at q1
   obtain ⟨rfl,rfl⟩:=q1
   have hst:(store ((⟨b,oo,none⟩:Addr).add q) u).run P w=.ok () (w.setCell ⟨b,i * Av P e+k,none⟩ u):=by
    have hadd:(⟨b,oo,none⟩:Addr).add q=⟨b,i * Av P e+k,none⟩:=by unfold Addr.add;split<;>simp_all
    rw [hadd,run_store P w _ u _ hu,q2]
    simp [q3]
   have hkl:k<zs.length:=by omega
   have hset:(xs.set i (.ag (zs.set k d)))[i]?=some (.ag (zs.set k d)):=by simp [hil]
   have hg':get (FJ (.t t0) (.own e (xs.set i (.ag (zs.set k d)))) env) t0=.own e (xs.set i (.ag (zs.set k d))):=by simp [FJ,get]
   obtain ⟨w2,z1,z2⟩:=Sim.storeAt (oo:=oo) ha us (q+1) (k+1) ds (zs.set k d) _ _ _ q4 hg' hset (by simpa using hl) (by omega) (by simp;omega) ht fun u hu=>h1 u (by simp [hu])
   refine ⟨w2,fun rest=>?_,?_⟩
   ·simp only [List.cons_append,storeCells,Sem.run_bind,hst,Result.andThen_ok]
    rw [z1,List.length_cons,show q+(us.length+1)=q+1+us.length by omega]
   ·have e1:(zs.set k d).take (k+1)++ds++(zs.set k d).drop (k+1+us.length)=zs.take k++d::ds++zs.drop (k+(u::us).length):=by
     have t1:(zs.set k d).take (k+1)=zs.take k++[d]:=by
      rw [List.take_add_one,List.getElem?_set_self (by omega),List.take_set_of_le (Nat.le_refl k)];rfl
     have t2:(zs.set k d).drop (k+1+us.length)=zs.drop (k+1+us.length):=by
      rw [List.drop_set_of_lt (by omega)]
     rw [t1,t2,List.length_cons,show k+(us.length+1)=k+1+us.length by omega];simp
    rw [e1,List.set_set] at z2
    exact z2.same fun s=>by simp only [FJ,get];split<;>rfl
theorem Sim.storeRows {t0 b n c oo:Nat} {e:TypeId} {z:DV} {zc:List Value} {cs:List DV} (ha:a.tmps.getD t0 undef=.slice (some ⟨b,0,none⟩) n c) (hz:z=.ag cs) (hcl:cs.length=Av P e) (hzr:∀ w,RepAll w I cs zc) (h1:∀ u∈zc,u.oneCell'=true) : ∀ (m i q:Nat) (env:Env) (w:World) (xs:List DV),Sim P X env H a w I μ O →
  get env t0=.own e xs→(∀ x∈xs,∃ cs,x=.ag cs∧cs.length=Av P e)→oo+q=i * Av P e→i+m=xs.length →
  ∃ w',(storeCells ⟨b,oo,none⟩ (List.replicate m zc).flatten q).run P w=.ok () w'∧Sim P X ((t0,.own e (xs.take i++List.replicate m z))::env) H a w' I μ O
 | 0,i,q,env,w,xs,hs,hp,hx,hq,hm=>by
  have e1:xs.take i++List.replicate 0 z=xs:=by rw [List.take_of_length_le (by omega)];simp
  rw [e1]
  exact ⟨w,rfl,hs.same fun s=>by simp only [get];split<;>simp_all⟩
 | m+1,i,q,env,w,xs,hs,hp,hx,hq,hm=>by
  have hil:i<xs.length:=by omega
  obtain ⟨zs,hzs,hzl⟩:=hx xs[i] (List.getElem_mem hil)
  have hlen:=(hzr w).length
  obtain ⟨w1,r1,s1⟩:=Sim.storeAt (oo:=oo) (i:=i) ha zc q 0 cs zs env w xs hs hp (by rw [lG hil,hzs]) hzl (by omega) (by omega) hzr h1
  have e1:zs.take 0++cs++zs.drop (0+zc.length)=cs:=by rw [Nat.zero_add,List.drop_of_length_le (by omega)];simp
  rw [e1,← hz] at s1
  obtain ⟨w2,r2,s2⟩:=Sim.storeRows (oo:=oo) ha hz hcl hzr h1 m (i+1) (q+zc.length) _ w1 (xs.set i z) s1 (by simp [get]) (fun x hm=>by
   rcases List.mem_or_eq_of_mem_set hm with h|h
   ·exact hx x h
   ·exact ⟨cs,h.trans hz,hcl⟩) (by rw [Nat.succ_mul];omega) (by simp;omega)
  refine ⟨w2,?_,?_⟩
  ·rw [List.replicate_succ,List.flatten_cons,r1,r2]
  ·have e2:(xs.set i z).take (i+1)++List.replicate m z=xs.take i++List.replicate (m+1) z:=by
    rw [List.take_add_one,List.getElem?_set_self hil,List.take_set_of_le (Nat.le_refl i),List.replicate_succ];simp
   rw [e2] at s2
   exact s2.same fun s=>by simp only [get];split<;>rfl
theorem N7 (zc:Array Value) : ∀ n,(Builtin.zeroCells zc n).toList=(List.replicate n zc.toList).flatten
 | 0=>by simp [Builtin.zeroCells]
 | n+1=>by
  have:=OE zc n
  rw [List.replicate_succ,List.flatten_cons,← N7 zc n]
  exact this
theorem Abq {α:Type} {F:List α→List DV} {x0:α} {us:List α} {cl:Call} {r t0 ty e sz by_ off len:Nat} {z:Value} {cs:List DV} (hF:∀ m,(F us).take off++List.replicate m (.ag cs)=F (us.take off++List.replicate m x0)) (hT:Cb P ty=some (e,sz,by_,z)) (hzv:∀ w,(zeroValue e).run P w=.ok z w) (hzs:z.cells.size=sz)
  (hz:∀ w I,RepAll w I cs z.cells.toList) (hlf:cs.all DV.leaf=true) (hx:∀ x∈F us,∃ cs,x=.ag cs∧cs.length=sz) (hlen:off+len=(F us).length)
  (h:RL P C ops Q (k+1) l ((t0,.own e (F (us.take off++List.replicate len x0)))::env) H) (hg:grd ops env o true=true:=by rfl)
  (ho:o.op=.call cl:=by rfl) (hc:cl.callee=.builtin .clear:=by rfl) (hxa:cl.args=#[.tmp r]:=by rfl) (hty:cl.argTypes=#[ty]:=by rfl) (hv:get env r=.ref (.t t0) off len:=by rfl) (hp:get env t0=.own e (F us):=by rfl) (hd:o.dst=none:=by rfl):RL P C ops Q k (o::l) env H:=by
 obtain ⟨i,i1,i2,i3,i4,i5,i6,i7,i8⟩:=CL hT
 refine .go hg fun X a w I μ O next Q' n1 n2 n3 hs hn=>?_
 have hrs:=hs.envr r
 rw [hv] at hrs
 obtain ⟨e',ys,A,n,c,g1,g2,g3,A',c',p1,p2,p3,p4⟩:=hrs
 have hee:AV.own e (F us)=.own e' ys:=hp.symm.trans g1
 cases hee
 simp only [AR,Option.some.injEq] at g2
 have hrun:∃ w',(Builtin.clear_ #[ty] o.type #[a.eval (.tmp r)]).run P w=.ok (.tuple #[]) w'∧Sim P X ((t0,.own e (F (us.take off++List.replicate len x0)))::env) H a w' I μ O:=by
  have hev:a.eval (.tmp r)=.slice A' len c':=p1
  rw [hev]
  by_cases h0:len=0
  ·subst h0
   refine ⟨w,?_,?_⟩
   ·cases A'<;>simp [Builtin.clear_,run_underlying i1]
   ·rw [← hF 0]
    have e1:(F us).take off++List.replicate 0 (DV.ag cs)=F us:=by rw [List.take_of_length_le (by omega)];simp
    rw [e1]
    exact hs.same fun s=>by
     simp only [get]
     split
     ·rename_i h;subst h;exact hp.symm
     ·rfl
  ·have hA:=p4 (by omega)
   obtain ⟨b,rfl⟩:∃ b,A=some ⟨b,0,none⟩:=by
    have ht:=hs.envr t0
    rw [hp] at ht
    obtain ⟨bs,q1,_,_⟩:=ht.plain rfl
    rw [g2] at q1
    cases q1 with
    | own _ _ _ vs h1 h2 h3 =>
     rcases h2 with ⟨A2,h4,h5,_⟩|⟨_,g,cap,h4,_⟩
     ·omega
     ·cases h4;exact ⟨g,rfl⟩
   have hA':A'=some ⟨b,off * Av P e,none⟩:=by
    rw [hA]
    simp [Addr.add]
    exact fun h=>h.symm
   subst hA'
   obtain ⟨w',r1,r2⟩:=Sim.storeRows (z:=.ag cs) (zc:=z.cells.toList) (oo:=off * Av P e) (cs:=cs) g2 rfl (by rw [(hz w I).length,Array.length_toList,hzs,i8]) (fun w=>hz w I) ((hz w I).one hlf) len off 0 env w (F us) hs hp (fun x hm=>by rw [i8];exact hx x hm) (by omega) hlen
   refine ⟨w',?_,?_⟩
   ·rw [← N7] at r1
    obtain ⟨len',rfl⟩:∃ m,len=m+1:=⟨len-1,by omega⟩
    simp [Builtin.clear_,run_underlying i1,hzv w,r1]
   ·rw [hF len] at r2;exact r2
 obtain ⟨w',r1,r2⟩:=hrun
 refine ⟨fun _ _=>trivial,?_⟩
 have hx':(execOp a.eval o).run P w=.ok (.value (.tuple #[])) w':=by simp [execOp,ho,resolve,hc,hxa,hty,invoke,builtin,r1]
 rw [Oper.semAt_eq _ _ _ (by simp [ho]),hx',Oper.uponIn_value,hd]
 exact hn _ _ _ _ _ _ _ r2 h
end
end Go.FL
namespace Go.FL
open Go Go.Proofs
section
variable {P:Program} {C:Cx} {o:Oper} {ops:Array Oper} {Q:Exit→Env→Ab→Prop} {env:Env} {H:Ab} {k:Nat} {l:List Oper}
theorem YD {s ty n i e:Nat} {p:Pl} {xs:List DV} (zs:List DV) (hx:xs[i]?=some (.ag zs)) (hz:(DV.ag zs).cells=zs) (hag:BH P ty=some true) (hn:Av P ty=n) (hzn:zs.length=n) (hn0:0<n:=by decide)
  (ho:o.op=.load ty (.tmp s):=by rfl) (hv:get env s=.ep p i 0:=by rfl) (hp:AB env H p=.own e xs:=by rfl):VOK P C o env H (.d (.ag zs)):=by
 have e1:(xs.getD i default).cells=zs:=by rw [lD,hx];exact hz
 have h:=TT (C:=C) (H:=H) ho (by simp [AA]) hag hn hn0 hv hp (by rw [e1];omega)
 rw [e1,List.drop_zero,List.take_of_length_le (by omega)] at h
 exact .pv h
end
theorem Mo : Tryz.prog.underlying 71=some (.map 9 3):=by kernel_rfl
theorem JW : Tryz.prog.underlying 9=some .string:=by kernel_rfl
theorem Pe (w:World) : (zeroValue 3).run Tryz.prog w=.ok (.int .i64 0) w:=Ae V6 w
def IV (m:SM) (x:Itm) : Option (Bool×SM):=(KZ x).bind fun k=>some (if (m.get k).isSome=true then (false,m) else (true,m.set k (m.len:Int)))
def J1 (m:SM) (x:Itm) : Option Bool:=(KZ x).bind fun k=>some (m.get k).isSome
theorem Aab {x:Itm} {m:SM} {r:Bool×SM} {H:Ab} {id:Nat} (hH:H[id]?=some m.mo) (h:IV m x=some r) :
  FnR Tryz.prog 88 [.mr id,.d (dvI x)] H fun v H'=>v=.d (.b r.1)∧H'=H.set id r.2.mo:=by
 unfold IV at h
 obtain ⟨ky,hk,h⟩:=bnd h
 simp only [Option.some.injEq] at h
 refine FnR.of (rs:=[.tmp 4]) 21 Tryz.func88 rfl rfl rfl (by simp) ?_;refine .seq<|.region<|kK (vbx)<|kD zj<|rn<|.gh (Gh.keep [0,3,4] rfl)<|.seq<|.region<|kK (Ap AE Am)<|kK (Ag (IZ hk) Tryz.call102)<|kD zj<|rn<|.gh (Gh.keep [0,4,5] rfl)<|.seq<|.seq<|.region<|kK (Pf (av:=.mr id))<|kK (Ac)<|kK (Abx (x:=.tmp 11) m hH Mo JW Pe)<|kK (Ac)<|kK (vex)<|kK (vex)<|kD zj<|kD zj<|rn<|.gh (Gh.keep [0,4,5,7] rfl)<|.seq<|.region<|kK (Ac)<|rn ?_
 by_cases hc:(m.get ky).isSome=true
 ·rw [if_pos hc] at h
  subst h
  refine cnt hc ?_;refine .seq<|.region<|kD zj<|rn<|.ret ?_
  exact ⟨_,⟨rfl,rfl⟩,rfl,(List.set_same _ _ hH).symm⟩
 rw [if_neg hc] at h
 subst h
 refine cnf (bf hc) ?_;refine .skip<|aw<|.seq<|.region<|kK (Pf (av:=.mr id))<|kK (Ac)<|kK (Pf (av:=.mr id))<|kK (Abo (x:=.tmp 19) m hH Mo)<|YC (ky:=ky) (v:=(m.len:Int)) m hH Mo JW ?_;refine rn<|.gh (Gh.keep [4] rfl)<|.seq<|.region<|kD zj<|rn<|.ret ?_
 exact ⟨_,⟨rfl,rfl⟩,rfl,rfl⟩
theorem Zn {x:Itm} {m:SM} {r:Bool} (h:J1 m x=some r) : Fn Tryz.prog 50 [m.mp,dvI x] (.d (.b r)):=by
 unfold J1 at h
 obtain ⟨ky,hk,h⟩:=bnd h
 simp only [Option.some.injEq] at h
 subst h
 refine Fn.of (rs:=[.tmp 4]) (nt:=15) Tryz.func50 rfl rfl rfl (by simp) rfl ?_;refine .seq<|.region<|kK (vbx)<|kD zj<|rn<|.gh (Gh.keep [0,3,4] rfl)<|.seq<|.region<|kK (Ac)<|kK (Ap AE Am)<|kK (Ag (IZ hk) Tryz.call102)<|kK (Aac (x:=.tmp 8) m Mo JW Pe)<|kK (Ac)<|kK (vex)<|kK (vex)<|kD zj<|kD zj<|rn<|.gh (Gh.keep [4,6] rfl)<|.seq<|.region<|kK (Ac)<|kD zj<|rn<|.ret ?_
 exact ⟨rfl,rfl⟩
def Gy (x:Itm) (m:SM) : Option (Bool×SM):=(IV m x).map fun r=>(!r.1,r.2)
theorem UT {x:Itm} {m:SM} {r:Bool×SM} {H:Ab} {id n:Nat} (hH:H[id]?=some m.mo) (hB:H[n]?=some (.box [.mr id])) (h:Gy x m=some r) :
  FnR Tryz.prog 87 [.d (dvI x),.bp n 0] H fun v H'=>v=.d (.b r.1)∧H'=H.set id r.2.mo:=by
 simp only [Gy,Option.map_eq_some_iff] at h
 obtain ⟨y,hy,rfl⟩:=h
 refine FnR.of (rs:=[.tmp 3]) 8 Tryz.func87 rfl rfl rfl (by simp) ?_;refine .seq<|.region<|kK (vbx)<|kD zj<|rn<|.seq<|.region<|kK (LM (cs:=[.mr id]) (c:=.mr id) hB rfl (by kernel_rfl))<|kK (Ap AE Am) ?_
 refine clR (avs:=[.mr id,.d (dvI x)]) (Aab hH hy) Tryz.call88 (fun v H' hp=>?_)
 obtain ⟨rfl,rfl⟩:=hp
 refine kK (vnt)<|kD zj<|rn<|.ret ?_
 exact ⟨_,⟨rfl,rfl⟩,rfl,rfl⟩
theorem YG {env:Env} {c:AV} {rs:List ResultVar} (h:get env 0=c) (h1:AI c=false) (h2:.tmp 0∉rs) : ∀ (i:Nat) c',[c][i]?=some c'→get env i=c'∧AI c'=false∧.tmp i∉rs:=fun i c' hi=>by
 cases i with
 | zero=>cases hi;exact ⟨h,h1,h2⟩
 | succ i=>simp at hi
set_option maxRecDepth 10000 in
theorem PW {S:Type} {step:Itm→S→Option (Bool×S)} {st:S→Ab→Prop} {f:FuncId} {caps:List AV} (hcall:∀ args w,(callFunc f args).run Tryz.prog w=.ok (.enter f args) w) (hnc:noOwnL caps=true)
  (hstep:∀ (x:Itm) s r H,st s H→step x s=some r→FnR Tryz.prog f (.d (dvI x)::caps) H fun v H'=>v=.d (.b r.1)∧st r.2 H')
  {xs:List Itm} {s:S} {r:Int×S} (hl:xs.length≤9223372036854775806) (h:Jg step xs s 0=some r) {H:Ab} (hs:st s H) :
  FnO Tryz.prog 66 [.own 44 (Its xs),.fn f [] caps] H (fun v H'=>v=.d (.i .i64 r.1)∧st r.2 H') [.own 44 (Its xs)]:=by
 have hfn:noOwn (.fn f [] caps)=true:=by simp [noOwn,noOwnL,hnc]
 refine FnO.of (rs:=[.tmp 4]) 1 19 Tryz.func66 rfl rfl rfl (by simp) (by simp) (by simp) ?_;refine .seq<|.region<|kD zj<|rn<|.seq<|.seq<|.region<|mvo ?_;refine kK (Q7 (Ai _) Ba)<|kK (Ac)<|rn<|.block ?_
 refine .loop (.gh (Gh.keep [0,1,7,8] rfl) ?_)
 refine AL.ind (σ:=Nat×S×Ab) (m:=fun p=>xs.length-p.1) (e:=fun p=>[(0,.own 44 (Its xs)),(1,.fn f [] caps),(7,.d (.i .i64 ((List.length xs:Nat):Int))),(8,.d (.i .i64 ((p.1:Nat):Int)))]) (h:=fun p=>p.2.2)
  (I:=fun p=>p.1≤xs.length∧st p.2.1 p.2.2∧Jg step (xs.drop p.1) p.2.1 (p.1:Int)=some r) ?_ (0,s,H) ⟨Nat.zero_le _,hs,h⟩
 rintro ⟨i,s,H⟩ ⟨hi,hs,h⟩ ih
 dsimp only at hi hs h ih ⊢
 refine .seq<|.region<|kK (vbi)<|rn<|.seq ?_
 by_cases hc:((i:Nat):Int)<((List.length xs:Nat):Int)
 ·refine cnt (dT hc) ?_
  have hlt:i<xs.length:=by omega
  rw [lC hlt,Jg] at h
  obtain ⟨z,hz,h⟩:=bnd h
  refine .skip<|aw<|.seq<|.block<|.seq<|.region<|kK (Ac)<|kD zj<|rn<|.seq<|.region<|kK (Pf (av:=.fn f [] caps) (hn:=hfn))<|mvo ?_;refine kK (Ac) ?_
  refine ixr (off:=0) (len:=(Its xs).length) i rfl (by rw [Ai];exact hlt) ?_ Bs (by decide)
  refine vk (YD (i:=0+i) (xs:=Its xs) [.i .u8 xs[i].kind,.b xs[i].num.1,.sl (L xs[i].num.2.1),.sl (L xs[i].num.2.2),.i .i32 xs[i].char,.sl (Ars xs[i].box)] (by rw [Nat.zero_add];exact BC (lG hlt)) (by simp [DV.cells]) AE Am rfl) ?_
  refine Zi (avs:=[.d (dvI xs[i])]) (hstep _ _ _ _ hs hz) hcall (fun v H' hp=>?_) (hnc:=hnc)
  obtain ⟨rfl,hs'⟩:=hp
  refine rn ?_
  by_cases hc:z.1=true
  ·refine cnt hc ?_
   rw [if_pos hc] at h
   cases h
   refine .seq<|.region<|kK (Ac)<|kD zj<|rn<|.ret ?_
   exact ⟨_,⟨rfl,rfl⟩,YG rfl rfl (by simp),rfl,hs'⟩
  refine cnf (bf hc) ?_
  rw [if_neg hc] at h
  refine .skip<|aw<|.region<|kK (vbi)<|kK (Ac)<|.nil ?_
  have hw:IntKind.wrap .i64 ((i:Int)+1)=((i+1:Nat):Int):=by rw [show IntKind.wrap .i64 ((i:Int)+1)=(i:Int)+1 from R9 (by omega) (by omega)];omega
  rw [hw]
  refine AL.gh (Gh.keep [0,1,7,8] rfl) ?_
  exact ih (i+1,z.2,H') ⟨hlt,hs',by rw [← h];simp⟩ (by dsimp only;omega)
 ·refine cnf (dF hc) ?_
  have:i=xs.length:=by omega
  subst this
  rw [List.drop_length,Jg] at h
  cases h
  refine .exit ?_;refine aw<|.seq<|.region<|kD zj<|rn<|.ret ?_
  exact ⟨_,⟨rfl,rfl⟩,YG rfl rfl (by simp),rfl,hs⟩
end Go.FL
namespace Go.FL
open Go Go.RowKit
section
variable {P:Program} {C:Cx} {X:Snap} {o:Oper} {ops:Array Oper} {Q:Exit→Env→Ab→Prop} {env env':Env} {H H':Ab} {a:Act} {w w':World} {I I':Nat→Prop} {μ μ':List Nat} {O O':Nat→Option Loc}
 {K:Env→Ab→Prop} {k:Nat} {l:List Oper}
theorem R3 {s t ty e sz by_:Nat} {hi:Operand} {ah:Option AO} {xs:List DV} {h:Int} (ho:o.op=.slice ty (.tmp s) none (some hi) none) (hfh:Cc (some hi) ah=true) (hd:o.dst=some t) (ht:okT C.nt t) (hty:B3 P ty=some (e,sz,by_)) (hv:get env s=.own e xs)
  (hh:D7 env xs.length ah=some h) (h0:0≤h) (h1:h≤xs.length) (hK:K (put (put env s .un) t (.own e (xs.take h.toNat))) H):OpOK P C o env H K :=
 .val (by simp [ho]) hd ht (fun X a w I μ O _ _ _ hs=>by
  obtain ⟨inf,s1,s2,s3,_,s5⟩:=C9 hty
  have b1:=hs.bound (x:=none) (ax:=none) rfl (dflt:=0) (n:=0) rfl
  have b2:=hs.bound hfh hh
  obtain ⟨q1,q2⟩:=hs.take s (by rw [hv];rfl)
  rw [hv] at q2
  have hform:∃ A c,a.tmps.getD s undef=.slice A xs.length c∧xs.length≤c∧A.map (·.add 0)=A:=by
   obtain ⟨bs,k1,_,_⟩:=q2
   generalize a.tmps.getD s undef=v at k1
   cases k1 with
   | own _ _ _ vs hsz hown hr =>
    rcases hown with ⟨A,rfl,hn,_⟩|⟨hr2,g,cap,rfl,hc⟩
    ·refine ⟨A,0,by rw [hn],by omega,?_⟩
     cases A<;>simp [Addr.add]
    ·refine ⟨some ⟨g,0,none⟩,cap,rfl,?_,by simp [Addr.add]⟩
     rcases hr2.2 with ⟨h2,h3⟩|⟨g',cap',cur,h2,_,_,h5,_⟩
     ·omega
     ·simp only [Value.slice.injEq] at h2
      omega
  obtain ⟨A,c,hval,hcap,hA⟩:=hform
  have e1:h≤(c:Int):=by omega
  have hb:=E5 (P:=P) (w:=w) (isS:=true) (len:=xs.length) (cap:=c) (Int.le_refl 0) h0 b1 (b2.imp (fun ⟨x,y⟩=>⟨x,y,rfl⟩) fun h=>h) (m:=(c:Int)) (mx:=none) (.inl ⟨rfl,rfl⟩) e1 (Int.le_refl _)
  have hev:a.eval (.tmp s)=.slice A xs.length c:=hval
  refine ⟨.slice A h.toNat c,w,I,μ,_,?_,q1,?_⟩
  ·have hr:=Md s1 s2 hb (A:=A)
   simp only [Option.map_none,Option.map_some] at hr
   simp only [execOp,ho,hev,Sem.run_bind,Option.map_none,Option.map_some,hr,Result.andThen_ok,Sem.run_pure]
   have e2:(if (c:Int).toNat=(0:Int).toNat then A else A.map (·.add ((0:Int).toNat * inf.size)))=A:=by
    split
    ·rfl
    ·simpa using hA
   rw [e2];simp
  ·rw [hval] at q2
   exact q2.prefix_ (by omega)) hK
theorem slo {s t ty e sz by_:Nat} {hi:Operand} {xs:List DV} {z:Int} (k':Nat) (hz:z=k') (hle:k'≤xs.length) (h:RL P C ops Q (k+1) l ((t,.own e (xs.take k'))::(s,.un)::env) H) (hty:B3 P ty=some (e,sz,by_)) (hg:grd ops env o true=true:=by rfl)
  (ho:o.op=.slice ty (.tmp s) none (some hi) none:=by rfl) (hv:get env s=.own e xs:=by rfl) (hh:D7 env xs.length (some (C5 hi))=some z:=by rfl) (hfh:Cc (some hi) (some (C5 hi))=true:=by rfl) (hd:o.dst=some t:=by rfl)
  (hf:Aj (get env t)=false:=by rfl) (hr:CY s env=false:=by rfl) (ht:okT C.nt t:=by rfl):RL P C ops Q k (o::l) env H:=by
 subst hz
 have hst:=EX hv hf
 refine .go hg (R3 ho hfh hd ht hty hv hh (by omega) (by omega) ?_)
 rw [Int.toNat_natCast]
 refine RL.gh (Gh.same fun r=>?_) h
 have h1:Aj (get (put env s .un) t)=false:=by rw [Cw hr];simp [get,hst,hf]
 rw [Ak h1]
 simp only [get]
 split
 ·rfl
 ·have:=Cw (v:=.un) hr r
  simp only [get] at this
  exact this.symm
end
end Go.FL
namespace Go.FL
open Go Go.Proofs
section
variable {S:Type} (step:Itm→S→Option (Bool×S))
def Np : List Itm→S→Option (List Itm×S)
 | [],s=>some ([],s)
 | x::xs,s=>(step x s).bind fun r=>(Np xs r.2).bind fun z=>some (if r.1=true then z.1 else x::z.1,z.2)
theorem SS : ∀ {xs:List Itm} {s:S} {z:List Itm×S} (i:Nat),Np step xs s=some z→∃ r,Jg step xs s (i:Int)=some r ∧
  ((r.1=-1∧z=(xs,r.2))∨∃ n:Nat,r.1=((i+n:Nat):Int)∧n<xs.length∧∃ z2,Np step (xs.drop (n+1)) r.2=some z2∧z=(xs.take n++z2.1,z2.2))
 | [],s,z,i,h=>by cases h;exact ⟨(-1,s),rfl,.inl ⟨rfl,rfl⟩⟩
 | x::xs,s,z,i,h=>by
  rw [Np] at h
  obtain ⟨y,hy,h⟩:=bnd h
  obtain ⟨u,hu,h⟩:=bnd h
  cases h
  by_cases hc:y.1=true
  ·refine ⟨((i:Int),y.2),by rw [Jg,hy,oB,if_pos hc],.inr ⟨0,by simp,by simp,u,hu,?_⟩⟩
   simp [hc]
  ·obtain ⟨r,h1,h2⟩:=SS (i+1) hu
   refine ⟨r,by rw [Jg,hy,oB,if_neg hc];simpa using h1,?_⟩
   rcases h2 with ⟨h2,h3⟩|⟨n,h2,h3,z2,h4,h5⟩
   ·exact .inl ⟨h2,by simp [hc,h3]⟩
   ·refine .inr ⟨n+1,by rw [h2];omega,by simp;omega,z2,by simpa using h4,?_⟩
    simp [hc,h5]
end
theorem X5 (xs:List Itm) : ∀ x∈Its xs,∃ cs,x=.ag cs∧cs.length=6:=fun x hx=>by
 rw [CH] at hx
 obtain ⟨y,_,rfl⟩:=List.mem_map.1 hx
 rw [Itm.dv_eq];exact ⟨_,rfl,rfl⟩
theorem Yn (us:List Itm) (off:Nat) (m:Nat) : (Its us).take off++List.replicate m (.ag [.i .u8 0,.b false,.sl [],.sl [],.i .i32 0,.sl []])=Its (us.take off++List.replicate m (Itm.mk 0 (false,[],[]) 0 [])):=by
 rw [QF,CH,CH,CH,List.map_append,List.map_take]
set_option maxRecDepth 10000 in
theorem NT {S:Type} {step:Itm→S→Option (Bool×S)} {st:S→Ab→Prop} {f:FuncId} {caps:List AV} (hcall:∀ args w,(callFunc f args).run Tryz.prog w=.ok (.enter f args) w) (hnc:noOwnL caps=true)
  (hstep:∀ (x:Itm) s r H,st s H→step x s=some r→FnR Tryz.prog f (.d (dvI x)::caps) H fun v H'=>v=.d (.b r.1)∧st r.2 H')
  {xs:List Itm} {s:S} {z:List Itm×S} (hl:xs.length≤1000000000000) (h:Np step xs s=some z) {H:Ab} (hs:st s H) :
  FnO Tryz.prog 86 [.own 44 (Its xs),.fn f [] caps] H (fun v H'=>v=.own 44 (Its z.1)∧st z.2 H') []:=by
 have hfn:noOwn (.fn f [] caps)=true:=by simp [noOwn,noOwnL,hnc]
 obtain ⟨r,hr,hcase⟩:=SS step 0 h
 refine FnO.of (rs:=[.tmp 4]) 0 42 Tryz.func86 rfl rfl rfl (by simp) (by simp) (by simp) ?_;refine .seq<|.region<|asn ?_;refine rn<|.seq<|.region<|mvo ?_;refine kK (Pf (av:=.fn f [] caps) (hn:=hfn)) ?_
 refine Abs (t0:=0) (avs:=[.fn f [] caps]) (PW hcall hnc hstep (by omega) hr hs) Tryz.call66 (fun v H' hp=>?_) (ha:=by
  change (if (noOwn (AV.fn f [] caps)&&!AI (AV.fn f [] caps))=true then some [AV.fn f [] caps] else none)=some [AV.fn f [] caps]
  rw [hfn];rfl)
 obtain ⟨rfl,hs'⟩:=hp
 refine kD zj<|rn<|.gh (Gh.keep [0,1,4,5] rfl)<|.seq<|.seq<|.region<|kK (Ac)<|kK (vbi)<|rn<|.gh (Gh.keep [0,1,4,5,12] rfl) ?_
 rcases hcase with ⟨h1,h2⟩|⟨n,h1,hn,z2,h2,h3⟩
 ·subst h2
  refine cnt (dT h1) ?_;refine .seq<|.region<|Y5 ?_;refine aso ?_;refine rn<|.ret ?_
  exact ⟨_,⟨rfl,rfl⟩,by simp,rfl,hs'⟩
 subst h3
 rw [Nat.zero_add] at h1
 rw [h1]
 have hne:¬((n:Nat):Int)=-1:=by omega
 refine cnf (dF hne) ?_;refine .skip<|aw<|.gh (Gh.keep [0,1,4,5] rfl)<|.seq<|.seq<|.region<|kK (Ac)<|kK (vbi)<|kD zj<|rn<|.gh (Gh.keep [0,1,4,5,6] rfl) ?_
 have hw:∀ i:Nat,i<xs.length→IntKind.wrap .i64 ((i:Int)+1)=((i+1:Nat):Int):=fun i hi=>by rw [show IntKind.wrap .i64 ((i:Int)+1)=(i:Int)+1 from R9 (by omega) (by omega)];omega
 rw [hw n hn]
 refine AW.mr (σ:=Nat×List Itm×S×Ab) (fun p=>p.1≤xs.length∧p.2.1.length=xs.length∧st p.2.2.1 p.2.2.2∧p.2.1.take p.1=xs.take n++z2.1∧p.2.2.1=z2.2) (fun p=>[(0,.own 44 (Its p.2.1)),(4,.nl),(5,.d (.i .i64 ((p.1:Nat):Int)))]) (fun p=>p.2.2.2) ?_ ?_
 ·skip
  refine .block ?_
  refine .loop (.gh (Gh.keep [0,1,4,5,6] rfl) ?_)
  refine AL.ind (σ:=Nat×Nat×List Itm×S×Ab) (m:=fun p=>xs.length-p.1) (e:=fun p=>[(0,.own 44 (Its p.2.2.1)),(1,.fn f [] caps),(4,.nl),(5,.d (.i .i64 ((p.2.1:Nat):Int))),(6,.d (.i .i64 ((p.1:Nat):Int)))]) (h:=fun p=>p.2.2.2.2)
   (I:=fun p=>p.1≤xs.length∧p.2.1<p.1∧p.2.2.1.length=xs.length∧st p.2.2.2.1 p.2.2.2.2∧p.2.2.1.drop p.1=xs.drop p.1∧∃ zz,Np step (xs.drop p.1) p.2.2.2.1=some zz∧p.2.2.1.take p.2.1++zz.1=xs.take n++z2.1∧zz.2=z2.2) ?_ (n+1,n,xs,r.2,H') ⟨hn,Nat.lt_succ_self _,rfl,hs',rfl,z2,h2,rfl,rfl⟩
  rintro ⟨j,i,cur,s,H⟩ ⟨hj,hij,hcl,hs,hdr,zz,hz,hz1,hz2⟩ ih
  dsimp only at hj hij hcl hs hdr hz hz1 hz2 ih ⊢
  refine .seq<|.seq<|.region<|kK (Ac)<|mvo ?_;refine kK (Q7 (Ai _) Ba)<|kK (vbi)<|rn<|.gh (Gh.keep [0,1,4,5,6,19] rfl) ?_
  by_cases hc:((j:Nat):Int)<((List.length cur:Nat):Int)
  ·refine cnt (dT hc) ?_
   have hlt:j<xs.length:=by omega
   have hlc:j<cur.length:=by omega
   have hcj:cur[j]=xs[j]:=by
    have e1:=congrArg (·[0]?) hdr
    simp only [List.getElem?_drop,Nat.add_zero] at e1
    rw [lG hlc,lG hlt] at e1
    exact oI e1
   rw [lC hlt,Np] at hz
   obtain ⟨y,hy,hz⟩:=bnd hz
   obtain ⟨z3,hz3,hz⟩:=bnd hz
   cases hz
   refine .skip<|aw<|.seq<|.block<|.seq<|.region<|mvo ?_;refine kK (Ac) ?_
   refine ixr (off:=0) (len:=(Its cur).length) j rfl (by rw [Ai];exact hlc) ?_ Bs (by decide)
   refine kK (YD (i:=0+j) (xs:=Its cur) [.i .u8 xs[j].kind,.b xs[j].num.1,.sl (L xs[j].num.2.1),.sl (L xs[j].num.2.2),.i .i32 xs[j].char,.sl (Ars xs[j].box)] (by rw [Nat.zero_add];exact BC (by rw [lG hlc,hcj])) (by simp [DV.cells]) AE Am rfl)<|kK (van (Ae Cd) Cf) ?_
   refine stn ?_ Am (by decide)
   refine rn<|.gh (Gh.keep [0,1,4,5,6,7] rfl)<|.seq<|.region<|kK (Pf (av:=.fn f [] caps) (hn:=hfn))<|kK (Dv AE Am) ?_
   refine Zi (avs:=[.d (dvI xs[j])]) (hstep _ _ _ _ hs hy) hcall (fun v H' hp=>?_) (hnc:=hnc)
   obtain ⟨rfl,hs'⟩:=hp
   refine kK (vnt)<|rn<|.gh (Gh.keep [0,1,4,5,6,7,29] rfl) ?_
   have hic:i<cur.length:=by omega
   by_cases hc2:y.1=true
   ·refine cnf (ntf hc2) ?_
    rw [if_pos hc2] at hz1
    refine .skip<|aw<|.gh (Gh.keep [0,1,4,5,6] rfl)<|.region<|kK (Ac)<|kK (vbi)<|kD zj<|.nil ?_
    rw [hw j hlt]
    refine AL.gh (Gh.keep [0,1,4,5,6] rfl) ?_
    exact ih (j+1,i,cur,y.2,H') ⟨hlt,by show i<j+1;omega,hcl,hs',by rw [← List.drop_drop,hdr,List.drop_drop],z3,hz3,hz1,hz2⟩ (by dsimp only;omega)
   ·refine cnt (ntt (bf hc2)) ?_
    rw [if_neg hc2] at hz1
    refine .seq<|.region<|mvo ?_;refine kK (Ac)<|kK (Dv AE Am) ?_
    refine ixr (off:=0) (len:=(Its cur).length) i rfl (by rw [Ai];exact hic) ?_ Bs (by decide)
    refine Y7 (F:=Its) (zs:=[.i .u8 cur[i].kind,.b cur[i].num.1,.sl (L cur[i].num.2.1),.sl (L cur[i].num.2.2),.i .i32 cur[i].char,.sl (Ars cur[i].box)]) (us:=cur) (n:=i) (m:=i) (x:=xs[j]) (MA (Itm.dv_eq xs[j]).symm) rfl (by rw [Nat.zero_add];exact BC (lG hic)) rfl ?_ Am Am (Nat.succ_pos _)
    refine rn<|.gh (Gh.keep [0,1,4,5,6] rfl)<|.region<|kK (Ac)<|kK (vbi)<|kD zj<|.nil ?_
    rw [hw i (by omega)]
    refine aw<|.gh (Gh.keep [0,1,4,5,6] rfl)<|.region<|kK (Ac)<|kK (vbi)<|kD zj<|.nil ?_
    rw [hw j hlt]
    refine AL.gh (Gh.keep [0,1,4,5,6] rfl) ?_
    refine ih (j+1,i+1,cur.set i xs[j],y.2,H') ⟨hlt,by show i+1<j+1;omega,by rw [List.length_set];exact hcl,hs',by rw [List.drop_set_of_lt (by omega),← List.drop_drop,hdr,List.drop_drop],z3,hz3,?_,hz2⟩ (by dsimp only;omega)
    dsimp only
    rw [List.take_add_one,List.getElem?_set_self hic,List.take_set_of_le (Nat.le_refl i),← hz1]
    simp
  ·refine cnf (dF hc) ?_
   have hje:j=xs.length:=by omega
   subst hje
   rw [List.drop_length,Np] at hz
   cases hz
   rw [List.append_nil] at hz1
   refine .gh (Gh.keep [0,4,5] rfl)<|.exit ?_
   exact jr (i,cur,s,H) ⟨by omega,hcl,hs,hz1,hz2⟩
 rintro ⟨i,cur,s,H⟩ ⟨hi,hcl,hs,hz1,hz2⟩
 dsimp only at hi hcl hs hz1 hz2 ⊢
 refine aw<|.seq<|.region<|mvo ?_;refine kK (Ac) ?_
 refine slr (zl:=(i:Int)) (zh:=((Its cur).length:Nat)) i (Its cur).length ⟨rfl,rfl,by rw [Ai];omega,Nat.le_refl _⟩ ?_ Bs
 refine Abq (us:=cur) (off:=0+i) (len:=(Its cur).length-i) (cs:=[.i .u8 0,.b false,.sl [],.sl [],.i .i32 0,.sl []]) (by rw [Nat.zero_add];exact Yn cur i) DF (Ae Cd) rfl Cf rfl (X5 cur) (by rw [Ai];omega) ?_;refine rn<|.gh (Gh.keep [0,4,5] rfl)<|.seq<|.region<|Y5 ?_;refine kK (Ac) ?_
 have hlen:(Its (cur.take (0+i)++List.replicate ((Its cur).length-i) (Itm.mk 0 (false,[],[]) 0 []))).length=xs.length:=by
  rw [Ai,List.length_append,List.length_take,List.length_replicate,Ai];omega
 refine slo (z:=(i:Int)) (xs:=Its (cur.take (0+i)++List.replicate ((Its cur).length-i) (Itm.mk 0 (false,[],[]) 0 []))) i rfl (by rw [hlen];exact hi) ?_ Bs
 refine aso ?_;refine rn<|.ret ?_
 have hfin:(Its (cur.take (0+i)++List.replicate ((Its cur).length-i) (Itm.mk 0 (false,[],[]) 0 []))).take i=Its (xs.take n++z2.1):=by
  rw [← hz1,CH,CH,Nat.zero_add,List.map_append,List.map_take,List.take_append,List.take_of_length_le (by simp;omega)]
  have:i-(List.take i (List.map Itm.dv cur)).length=0:=by simp;omega
  rw [this];simp [CH]
 refine ⟨_,⟨rfl,rfl⟩,by simp,?_,hz2▸hs⟩
 exact congrArg (AV.own _) hfin
def G6 (m:SM) (l:List Itm) : Option (List Itm×SM):=if l.length≤1000000000000 then Np Gy l m else none
theorem Xl {m:SM} {l:List Itm} {r:List Itm×SM} {H:Ab} {id:Nat} (hH:H[id]?=some m.mo) (h:G6 m l=some r) :
  FnO Tryz.prog 39 [.mr id,.own 44 (Its l)] H (fun v H'=>v=.own 44 (Its r.1)∧∃ G,H'=H.set id r.2.mo++G) []:=by
 unfold G6 at h
 obtain ⟨hl,h⟩:=D1 h
 have hid:id<H.length:=(lS.1 hH).1
 refine FnO.of (rs:=[.tmp 4]) 0 8 Tryz.func39 rfl rfl rfl (by simp) (by simp) (by simp) ?_;refine .seq<|.region<|bxA (c:=.mr id) ?_;refine asn ?_;refine rn<|.gh (Gh.keep [1,2,4] rfl)<|.seq<|.region<|mvo ?_;refine Aaj (avs:=[.bp H.length 0]) ?_
 refine Aap (t0:=1) [] [.tmp 6] (as1:=[]) (as2:=[.fn 87 [] [.bp H.length 0]]) (NT (step:=Gy) (st:=fun (m:SM) H'=>H'=H.set id m.mo++[.box [.mr id]]) Tryz.call87 rfl (fun x s y H' hs hy=>?_) hl h (by rw [List.set_same _ _ hH])) Tryz.call86 (fun v H' hp=>?_) (.inl rfl)
 ·subst hs
  have e1:(H.set id s.mo++[HO.box [.mr id]])[id]?=some s.mo:=by
   rw [List.getElem?_append_left (by simpa using hid),List.getElem?_set_self hid]
  have e2:(H.set id s.mo++[HO.box [.mr id]])[H.length]?=some (.box [.mr id]):=by
   rw [List.getElem?_append_right (by simp)];simp
  refine (UT e1 e2 hy).mono fun v H'' hq=>⟨hq.1,?_⟩
  rw [hq.2,List.set_append_left _ _ (by simpa using hid),List.set_set]
 obtain ⟨rfl,rfl⟩:=hp
 refine aso ?_;refine rn<|.ret ?_
 exact ⟨_,⟨rfl,rfl⟩,by simp,rfl,_,rfl⟩
end Go.FL
namespace Go.FL
open Go Go.RowKit
def R7 (n:Nat) : AV→Bool
 | .bp i _=>Nat.blt i n
 | .mr i=>Nat.blt i n
 | .ref (.c _ _) _ _=>false
 | .ep (.c _ _) _ _=>false
 | av=>noBp av
def Aba (n:Nat) : HO→Bool
 | .box cs=>cs.all (R7 n)
 | _=>true
section
variable {P:Program} {C:Cx} {X:Snap} {o:Oper} {ops:Array Oper} {Q:Exit→Env→Ab→Prop} {env env':Env} {H H':Ab} {a:Act} {w w':World} {I I':Nat→Prop} {μ μ':List Nat} {O O':Nat→Option Loc}
 {K:Env→Ab→Prop} {k:Nat} {l:List Oper}
theorem stm {x y:Operand} {ty id off i:Nat} {cs:List AV} {c:AV} (hH:H[id]?=some (.box cs)) (hc:cs[off]?=some c) (hco:Aj c=false) (h:RL P C ops Q (k+1) l env (H.set id (.box (cs.set off (.mr i))))) (hsz:Av P ty=1) (hn:C.n0≤id:=by exact Nat.zero_le _)
  (hg:grd ops env o true=true:=by rfl) (ho:o.op=.store ty x y:=by rfl) (hx:lk env x=.bp id off:=by rfl) (hy:lk env y=.mr i:=by rfl) (hd:o.dst=none:=by rfl):RL P C ops Q k (o::l) env H:=by
 obtain ⟨h1,h2⟩:=Ar hx (by simp)
 obtain ⟨h3,h4⟩:=Ar hy (by simp)
 refine .go hg (KN ho h1 h3 hd hsz h2 hH hc hn (by rw [h4];rfl) (.inl (by rw [h4];rfl)) ?_)
 have e1:K8 env (C5 y)=env:=by
  unfold K8
  cases haf:C5 y with
  | t s =>
   rw [haf] at h4
   have:noOwn (get env s)=true:=by rw [show get env s=_ from h4];rfl
   simp only [this,if_true]
  | _=>rfl
 rw [hco,e1,h4,show Da H id off (.mr i)=H.set id (.box (cs.set off (.mr i))) by simp [Da,hH]]
 exact h
theorem Gh2.cutM {H0:Ab} (G:Ab) (hH:H=H0++G) (hb:(env.all fun x=>R7 H0.length x.2)=true) (hb0:H0.all (Aba H0.length)=true) (hne:Nat.ble C.ne H0.length=true) : Gh2 P C env H env H0:=fun X a w I μ O _ h2 h3 hs=>by
 subst hH
 have hne':X.ne≤H0.length:=by rw [h3];exact Nat.le_of_ble_eq_true hne
 have hμt:∀ i,i<H0.length→(μ.take H0.length)[i]?=μ[i]?:=fun i hi=>by rw [List.getElem?_take,if_pos hi]
 have hcell:∀ {c:AV} {v:Value} {b2:List Nat},R7 H0.length c=true→ARep P w I μ c v b2→ARep P w I (μ.take H0.length) c v b2:=by
  intro c v b2 hc hr
  cases c with
  | mr i =>
   have hi:i<H0.length:=by simp [R7,Nat.blt] at hc;omega
   cases hr with
   | mr _ b hb=>exact .mr i b (by rw [hμt i hi];exact hb)
  | bp i off =>
   have hi:i<H0.length:=by simp [R7,Nat.blt] at hc;omega
   cases hr with
   | bp _ _ b hb=>exact .bp i off b (by rw [hμt i hi];exact hb)
  | ref _ _ _=>cases hr
  | ep _ _ _=>cases hr
  | _=>exact hr.noBp hc
 have hcells:∀ {cs:List AV} {us:List Value} {b2:List Nat},cs.all (R7 H0.length)=true→ARepAll P w I μ cs us b2→ARepAll P w I (μ.take H0.length) cs us b2:=by
  intro cs
  induction cs with
  | nil=>intro us b2 _ h;cases h;exact .nil
  | cons c cs ih =>
   intro us b2 hc h
   simp only [List.all_cons,Bool.and_eq_true] at hc
   cases h with
   | cons h t=>exact .cons (hcell hc.1 h) (ih hc.2 t)
 refine ⟨I,μ.take H0.length,O,{
  prot:=hs.prot,kO:=hs.kO,kI:=hs.kI,mono:=hs.mono,os:=hs.os,tape:=hs.tape,output:=hs.output,size:=hs.size,own:=hs.own,ilt:=hs.ilt
  μlen:=by rw [List.length_take,hs.μlen];simp
  μpre:=fun i b hi hb=>by rw [hμt i (by omega)];exact hs.μpre i b hi hb
  nle:=hne'
  heap:=fun id ob ho=>?_
  klt:=hs.klt
  n0le:=hs.n0le
  envr:=fun s=>?_
  nt:=hs.nt
  dfs:=hs.dfs}⟩
 ·have hlt:=(lS.1 ho).1
  obtain ⟨bb,bs',q1,q2,q3,q4⟩:=hs.heap id ob (by rw [List.getElem?_append_left hlt];exact ho)
  refine ⟨bb,bs',by rw [hμt id hlt];exact q1,?_,q3,q4⟩
  have hok:Aba H0.length ob=true:=List.all_eq_true.1 hb0 ob (List.mem_of_getElem? ho)
  cases ob with
  | box c =>
   obtain ⟨cl,et,n1,n2⟩:=q2
   exact ⟨cl,et,n1,hcells hok n2⟩
  | mo _ _=>exact q2
 ·have hp:=Mi (p:=R7 H0.length) rfl hb s
  have ht:=hs.envr s
  cases hgs:get env s with
  | ref p off len =>
   rw [hgs] at hp ht
   obtain ⟨e',xs,A,n,c,g1,g2,g3,g4⟩:=ht
   cases p with
   | c _ _=>cases hp
   | t r=>exact ⟨e',xs,A,n,c,g1,g2,g3,g4⟩
  | ep p i k =>
   rw [hgs] at hp ht
   obtain ⟨e',xs,b,n,c,g1,g2,g3,g4,g5⟩:=ht
   cases p with
   | c _ _=>cases hp
   | t r=>exact ⟨e',xs,b,n,c,g1,g2,g3,g4,g5⟩
  | _ =>
   rw [hgs] at hp ht
   obtain ⟨bs,g1,g2,g3⟩:=ht.plain rfl
   exact .of (hcell hp g1) g2 g3
end
end Go.FL
namespace Go.FL
open Go Go.RowKit
def Ws (P:Program) (env:Env) (H:Ab) (r:AV) : List ResultVar→Prop
 | [.cell t ty]=>∃ id cs,get env t=.bp id 0∧H[id]?=some (.box cs)∧r=.ag cs∧BH P ty=some true∧Av P ty=cs.length∧0<cs.length
 | _=>False
def Abh (P:Program) (rs:List ResultVar) (r:AV) : Exit→Env→Ab→Prop
 | .normal,env,H=>Ws P env H r rs
 | .ret,env,H=>Ws P env H r rs
 | _,_,_=>False
section
variable {P:Program} {C:Cx} {X:Snap} {o:Oper} {ops:Array Oper} {Q:Exit→Env→Ab→Prop} {env env':Env} {H H':Ab} {a:Act} {w w':World} {I I':Nat→Prop} {μ μ':List Nat} {O O':Nat→Option Loc}
 {K:Env→Ab→Prop} {k:Nat} {l:List Oper}
theorem Sim.resultsX (hs:Sim P X env H a w I μ O) (h0:X.n0=0) {fn:Func} {rs:List ResultVar} (hrs:fn.results=rs.toArray) {r:AV} (h:Ws P env H r rs) :
  ∃ v bs,(Go.results fn a.tmps).run P w=.ok v w∧ARep P w I μ r v bs∧bs.Nodup∧∀ b∈bs,∃ l,O b=some l:=by
 unfold Ws at h
 split at h
 ·rename_i t ty
  obtain ⟨id,cs,g1,g2,rfl,g4,g5,g6⟩:=h
  obtain ⟨blk,bs,k1,⟨cells,e,k2,k3⟩,k4,_⟩:=hs.heap id _ g2
  have hp:a.tmps.getD t undef=.pointer (some ⟨blk,0,none⟩):=by
   have:=hs.envr t
   rw [g1] at this
   obtain ⟨bs',q1,_⟩:=this.plain rfl
   generalize a.tmps.getD t undef=u at q1
   cases q1 with
   | bp _ _ b hb=>rw [k1] at hb;cases hb;rfl
  have hh:Has w blk 0 cells.toList:=fun j u hj=>by simp only [World.cell?,k2,Nat.zero_add];simpa using hj
  have hlen:cells.toList.length=cs.length:=k3.length.symm
  refine ⟨.agg cells.toList.toArray,bs,?_,.ag k3,(List.nodup_cons.1 (k4 (by omega)).1).2,fun b hb=>⟨_,(k4 (by omega)).2 b (by simp [hb])⟩⟩
  have hx:(do let x ← (do loadVar ty (← asAddr (a.tmps.getD t undef)));pure x).run P w=.ok (.agg cells.toList.toArray) w:=by rw [hp];simp [asAddr,BX g4 g5 g6 hh hlen]
  simp only [Go.results,hrs]
  simpa using hx
 ·exact h.elim
theorem Fn.ofX {f:FuncId} {fn:Func} {c:Code} {args:List DV} {r:AV} {rs:List ResultVar} {nt:Nat} (hf:P.funcs[f]?=some fn) (hb:fn.body=some c) (hrs:fn.results=rs.toArray) (hnt:fn.ntmps=nt) (hn:args.length≤nt) (hbp:noBp r=true)
  (h:AW P {nt:=(0,nt),n0:=0,ne:=0} c (Abh P rs r) (CI 0 args) []):Fn P f args r:=by
 intro w I vs hI ha
 refine callsIn_of_wp hf hb trivial ?_
 have hlen:=ha.length
 let X:Snap:={w:=w,I:=I,K:=fun b=>b<w.heap.size,n0:=0,ne:=0,μ:=[],nt:=(0,nt),dfs:=[]}
 let a:Act:={tmps:=vs.toArray++Array.replicate (fn.ntmps-vs.toArray.size) undef,defers:=[]}
 have hs:Sim P X (CI 0 args) [] a w I [] (fun _=>none):=by
  refine ⟨{prot:=fun _ _=>rfl,kO:=fun _ _=>rfl,kI:=fun _ _ h=>h,mono:=fun _ h=>h,os:=rfl,tape:=rfl,output:=rfl,size:=Nat.le_refl _,own:=(fun b l h=>by simp at h),ilt:=hI,μlen:=rfl,μpre:=(fun i b hi _=>by simp [X] at hi),nle:=(by simp [X]),heap:=(fun id o h=>by simp at h),klt:=fun b hb=>hb,n0le:=(by simp [X])},fun t=>?_,?_,rfl,fun t h=>absurd h (by simp [X])⟩
  ·rcases DT (tmps:=a.tmps) (k:=0) ha (fun j v hj=>by
    have hjl:j<vs.length:=(lS.1 hj).1
    have e2:(vs.toArray++Array.replicate (fn.ntmps-vs.length) undef)[j]?=some v:=by
     rw [Array.getElem?_append_left (by simpa using hjl)];simpa using hj
    simp [a,e2]) t with h0|⟨d,h0,h1⟩
   ·rw [h0];exact .un
   ·rw [h0];exact .of (bs:=[]) (.d h1) nN (by simp)
  ·simp [a,X,hnt];omega
 have hw:=h X a w I [] (fun _=>none) rfl rfl rfl hs
 refine wpIn_mono hw fun e a' w' hp=>?_
 obtain ⟨env',H',I',μ',O',s,q⟩:=hp
 have fin:Ws P env' H' r rs→a'.defers=[]∧∃ v,(Go.results fn a'.tmps).run P w'=.ok v w'∧∃ v' I' bs,Ending.returned v=.returned v'∧Below w.heap.size w w'∧(∀ b,I b→I' b) ∧
   (∀ b,I' b→b<w'.heap.size∧(b<w.heap.size→I b))∧ARep P w' I' [] r v' bs∧bs.Nodup∧∀ b∈bs,w.heap.size≤b∧b<w'.heap.size∧¬I' b:=by
  intro hres
  obtain ⟨v,bs,h1,h2,h3,h4⟩:=s.resultsX rfl hrs hres
  refine ⟨s.dfs.1,v,h1,v,I',bs,rfl,⟨s.os,s.tape,s.output,s.size,fun b hb=>s.prot b hb⟩,s.mono,fun b hi=>⟨s.ilt b hi,fun hb=>s.kI b hb hi⟩,h2.noBp hbp,h3,fun b hm=>?_⟩
  obtain ⟨l,hl⟩:=h4 b hm
  refine ⟨?_,(s.own b l hl).1,(s.own b l hl).2⟩
  rcases Nat.lt_or_ge b w.heap.size with hlt|hge
  ·have:=s.kO b hlt;rw [this] at hl;cases hl
  ·exact hge
 cases e with
 | normal=>exact fin q
 | ret=>exact fin q
 | _=>exact q.elim
theorem Abg {x:Operand} {ty t n id off:Nat} {cs:List AV} (hH:H[id]?=some (.box cs)) (h:RL P C ops Q (k+1) l (put (GT id off n cs env H).1 t (Yg ((cs.drop off).take n))) (GT id off n cs env H).2) (hag:BH P ty=some true) (hn:Av P ty=n) (hn0:0<n:=by decide) (hc:off+n≤cs.length:=by decide)
  (hg:grd ops env o true=true:=by rfl) (ho:o.op=.load ty x:=by rfl) (hv:lk env x=.bp id off:=by rfl) (hd:o.dst=some t:=by rfl) (ht:okT C.nt t:=by rfl) (h0:C.n0=0:=by rfl):RL P C ops Q k (o::l) env H:=by
 obtain ⟨h1,h2⟩:=Ar hv (by simp)
 exact .go hg (SH ho h1 hd ht hag hn hn0 h2 hH hc (.inl (by omega)) h)
theorem Abj {s t ty f off:Nat} {ds:List AV} {e:TypeId} {xs:List DV} (hf:Br P ty f=some (off,1)) (hgf:R8 P ty f=some false) (h:RL P C ops Q (k+1) l ((t,.own e xs)::(s,.un)::env) H) (hg:grd ops env o true=true:=by rfl) (ho:o.op=.field ty (.tmp s) f:=by rfl)
  (hv:get env s=.ag ds:=by rfl) (hc:ds[off]?=some (.own e xs):=by rfl) (hd:o.dst=some t:=by rfl) (hfr:Aj (get env t)=false:=by rfl) (ht:okT C.nt t:=by rfl) (hst:s≠t:=by decide):RL P C ops Q k (o::l) env H:=by
 have hput:put ((s,AV.un)::env) t (.own e xs)=(t,.own e xs)::(s,.un)::env:=Ak (by simp [get,hst,hfr])
 rw [← hput] at h
 refine .go hg (.val (env':=(s,.un)::env) (H':=H) (by simp [ho]) hd ht (fun X a w I μ O _ _ _ hs=>?_) h)
 obtain ⟨fs,fl,i,g1,g2,g3,g4,g5⟩:=Gz hf
 obtain ⟨fs',fl',e1,e2,e3⟩:=KY hgf
 rw [g1] at e1;cases e1
 rw [g2] at e2;cases e2
 obtain ⟨k1,bs,k2,k3,k4⟩:=hs.take s (by rw [hv];rfl)
 rw [hv] at k2
 generalize hval:a.tmps.getD s undef=u at k2
 cases k2 with
 | @ag _ us _ hr =>
  obtain ⟨v,b1,bk,b2,m1,m2,m3,_⟩:=hr.at off _ hc
  subst m3
  have hnd:=List.nodup_append.1 k3
  have hnd2:=List.nodup_append.1 hnd.2.1
  refine ⟨v,w,I,μ,_,?_,k1.same fun r=>?_,bk,m2,hnd2.1,fun b hb=>k4 b (by simp [hb])⟩
  ·have hev:a.eval (.tmp s)=.agg us.toArray:=hval
   have hoff:us[fl.offset]?=some v:=by rw [g3];exact m1
   simp [execOp,ho,hev,Instr.field,run_underlying g1,g2,part,Hm e3,asAgg,hoff]
  ·simp [put,hv,Aj]
end
end Go.FL
namespace Go.FL
open Go Go.Proofs
set_option maxHeartbeats 4000000 in
theorem Lf {a0:Arr} {a1:BV} (oa1:LH a1) {r:Arr} (h:BP a0 a1=some r) :
  Fn Tryz.prog 60 [.ag [.sl (Is a0.shape),.sl (Its a0.items)],a1.dv] (.ag [.d (.sl (Is r.shape)),.own 44 (Its r.items)]):=by
 unfold BP at h
 refine Fn.ofX (rs:=[.cell 4 25]) (nt:=29) Tryz.func60 rfl rfl rfl (by simp) rfl ?_;refine .seq<|.region<|kK (vbx)<|kK (van (Ae AP) AZ)<|rn<|.gh (Gh.keep [1,2,4] rfl)<|.seq<|.region<|kK (vfa A6)<|kK (Al Cy) ?_
 obtain ⟨x1,hx1,h⟩:=bnd h
 refine kK ((Ag (GR hx1) Tryz.call21).deep)<|kK (Yi Dc AP (fun w I μ=>Mj w I μ))<|kK (van (Ae AP) AZ) ?_
 refine XL ?_ Ad (by decide)
 refine rn<|.gh (Gh.keep [1,2,4,5] rfl)<|.seq<|.seq<|.region<|kK (vfa AM)<|kK (Al Bl)<|kK (AX (Ai _) (Bg _) Ba)<|kK (Ac)<|rn<|.gh (Gh.keep [1,4,5,13,14,15] rfl) ?_
 obtain ⟨K0,hK0,h⟩:=A1 h
 refine AW.mr (σ:=(List Int)×(List Itm)) (fun p=>K0 p.1 p.2=some r) (fun p=>[(4,.nb [.sl (Is []),.sl (Its [])]),(5,.bp 0 0)]) (fun p=>[HO.box [.d (.sl (Is p.1)),.own 44 (Its p.2)]]) ?_ ?_
 ·skip
  refine .block<|.gh (Gh.nlOwnC (id:=0) (off:=1) 44 (by rw [Lm];decide)) ?_
  refine .loop (.gh (Gh.keep [1,4,5,13,14,15] rfl) ?_)
  refine AL.ind (σ:=Nat×Int×(List Int)×(List Itm)) (m:=fun p=>p.1) (e:=fun p=>[(1,.d (a1.dv)),(4,.nb [.sl (Is []),.sl (Its [])]),(5,.bp 0 0),(13,.d (.sl (Its a0.items))),(14,.d (.i .i64 ((List.length a0.items:Nat):Int))),(15,.d (.i .i64 p.2.1))]) (h:=fun p=>[HO.box [.d (.sl (Is p.2.2.1)),.own 44 (Its p.2.2.2)]]) (I:=fun p=>Bp a0 a1 K0 p.1 p.2.1 p.2.2.1 p.2.2.2=some r) ?_ (AH,0,x1,[]) h
  rintro ⟨k,s4,s5,s6⟩ h ih
  dsimp only at h ih ⊢
  rcases k with _|k
  ·rw [Bp] at h;cases h
  rw [Bp] at h
  refine .seq<|.region<|kK (vbi)<|rn<|.gh (Gh.keep [1,4,5,13,14,15,16] rfl)<|.seq ?_
  by_cases hc:s4<((List.length a0.items:Nat):Int)
  ·replace h:=H8 hc h
   refine cnt (dT hc) ?_;refine .skip<|aw<|.seq<|.block<|.seq<|.region ?_
   obtain ⟨x7,hx7,h⟩:=bnd h
   obtain ⟨nx7,hnx7,hxx7⟩:=Aq hx7
   refine kK (vix nx7 hnx7 (BC hxx7) rfl Bs)<|kK (Ap AE Am)<|kK (van (Ae Cd) Cf) ?_
   refine stn ?_ Am (by decide)
   refine rn<|.gh (Gh.keep [1,4,5,7,13,14,15] rfl)<|.drawn 6 AS (by kernel_rfl) ?_;refine kV (Gw AM)<|kV (QN (cs:=[.d (.sl (Is s5)),.own 44 (Its s6)]) rfl rfl Bl)<|kV (Ac)<|kV (Dv AE Am) ?_
   obtain ⟨x8,hx8,h⟩:=bnd h
   refine kV (NP (oa1 _ _ hx8))<|kV ((Gs (FO x8) (ER [x8]) DF).deep)<|dz ?_
   obtain ⟨x9,hx9,h⟩:=bnd h
   refine UK Ja hx9 rfl rfl KV ?_ Hy Ai DF
   refine RL.gh (Gh.keep [1,4,5,7,13,14,15,19,21,22,23,24,25] rfl)<|kK (Gw AM) ?_
   refine O0 (cs:=[.d (.sl (Is s5)),.un]) (c:=.un) rfl rfl ?_ II
   refine .nil ?_;refine aw<|.gh (Gh.keep [1,4,5,13,14,15] rfl)<|.region<|kK (vbi)<|kK (Ac)<|.nil ?_;refine AL.gh (Gh.keep [1,4,5,13,14,15] rfl) ?_
   exact ih (k,(w64 (s4+1)),s5,x9) h (Nat.lt_succ_self _)
  replace h:=IQ hc h
  refine cnf (dF hc) ?_;refine .gh (Gh.keep [4,5] rfl)<|.exit ?_
  exact jr (s5,s6) h
 rintro ⟨z2,z3⟩ h
 try dsimp only at h ⊢
 subst hK0
 refine aw<|.seq<|.gh2 (Gh.nbb (t:=4) rfl) ?_;refine .region ?_
 refine Abg (id:=0) (off:=0) (n:=2) (cs:=[.d (.sl (Is z2)),.own 44 (Its z3)]) rfl ?_ Ah Ad (hc:=Nat.le_refl 2)
 refine st2 (id:=1) (r:=28) (c0:=.d (.sl (Is []))) (c1:=.d (.sl (Its []))) (a0:=.d (.sl (Is z2))) (a1:=.own 44 (Its z3)) rfl ?_ Ad
 refine rn<|.gh (Gh.keep [4] rfl)<|.ret ?_
 cases h
 exact ⟨1,_,rfl,rfl,rfl,Ah,Ad,(by decide:(0:Nat)<2)⟩
theorem L4 {a0:Arr} {r:(List Itm)} (h:Bx a0=some r) :
  Fn Tryz.prog 31 [.ag [.sl (Is a0.shape),.sl (Its a0.items)]] (.own 44 (Its r)):=by
 unfold Bx at h
 refine Fn.of (rs:=[.tmp 2]) (nt:=21) Tryz.func31 rfl rfl rfl (by simp) rfl ?_;refine .seq<|.region<|kK (vbx)<|asn ?_;refine rn<|.gh (Gh.keep [1,2] rfl)<|.seq<|.seq<|.region<|kK (vfa A6)<|kK (Al Cy) ?_
 obtain ⟨x1,hx1,h⟩:=bnd h
 refine kK (VOK.tupd (vs:=[.i .i64 x1.1,.i .i64 x1.2]) (Ag (D9 hx1) Tryz.call17))<|kK (Ac)<|kK (vex)<|kK (vex)<|kD zj<|kD zj<|rn<|.gh (Gh.keep [1,2,3] rfl)<|.seq ?_
 obtain ⟨z2,hz,h⟩:=bnd h
 refine AW.mr (σ:=Unit) (fun _=>True) (fun _=>[(1,.d (.ptr [.sl (Is a0.shape),.sl (Its a0.items)])),(2,.nl),(17,.d (.b z2))]) (fun _=>[]) ?_ ?_
 ·skip
  refine .region<|kK (Ac)<|kK (vbi) ?_
  by_cases hc:x1.1=0
  ·replace hz:=H8 hc hz
   have hb0:(decide (x1.1=0))=true:=(dT hc)
   refine kK (VOK.lit (Ac) hb0)<|gf3 ?_;refine kK (Ao)<|RL.gh (Gh.keep [1,2,17] rfl)<|.nil ?_
   cases hz
   exact jr () trivial
  replace hz:=IQ hc hz
  have hb0:(decide (x1.1=0))=false:=(dF hc)
  refine kK (VOK.lit (Ac) hb0)<|kK (Ap Ah Ad) ?_
  obtain ⟨x3,hx3,hz⟩:=bnd hz
  refine kK (Ag (C1 hx3) Tryz.call25)<|kK (vnt)<|kK (Ao)<|RL.gh (Gh.keep [1,2,17] rfl)<|.nil ?_
  cases hz
  exact jr () trivial
 rintro _ _
 by_cases hc:z2=true
 ·replace h:=H8 hc h
  refine cnt hc ?_;refine .seq<|.region<|asn ?_;refine rn<|.gh (Gh.keep [1,2] rfl)<|.gh (Gh.nlOwn (t:=2) 44 (by rw [Lm];decide) rfl)<|.ret ?_
  cases h
  exact ⟨rfl,rfl⟩
 replace h:=IQ hc h
 refine cnf (bf hc) ?_;refine .skip<|aw<|.seq<|.region<|kK (Ap Ah Ad) ?_
 obtain ⟨x4,hx4,h⟩:=bnd h
 refine kK (Ag (Lf (Jf Tryz.call24 (fun _ _ h=>Gu h)) hx4) Tryz.call60)<|Abj AM Ra ?_;refine aso ?_;refine rn<|.gh (Gh.keep [2] rfl)<|.ret ?_
 cases h
 exact ⟨rfl,rfl⟩
def Rc (xs:List RT) : List (List DV):=(List.range xs.length).map fun k=>match xs[xs.length-1-k]? with
 | some x=>[.i .i64 ((xs.length-1-k:Nat):Int),.ag [.b x.1,.sl (L x.2.1),.sl (L x.2.2)]]
 | none=>[]
theorem Pa {xs:List RT} {k:Nat} {x:RT} (hk:k<xs.length) (h:xs[xs.length-1-k]?=some x) : (Rc xs)[k]?=some [.i .i64 ((xs.length-1-k:Nat) : Int),.ag [.b x.1,.sl (L x.2.1),.sl (L x.2.2)]]:=by simp [Rc,hk,h]
theorem Il (xs:List RT) : (Rc xs).length=xs.length:=by simp [Rc]
theorem Wd (xs:List RT) : ∀ ds∈Rc xs,ds.length=2:=fun ds hd=>by
 obtain ⟨k,hk⟩:=List.getElem?_of_mem hd
 have hkl:k<xs.length:=by rw [← Il];exact (lS.1 hk).1
 rw [Pa hkl (lG (by omega))] at hk
 cases hk;rfl
theorem Z0 (xs:List DV) : Fn Tryz.prog 95 [.sl xs] (.d (.fn 146 [] [.ptr [.sl xs]])):=by
 refine Fn.of (rs:=[.tmp 2]) (nt:=4) Tryz.func95 rfl rfl rfl (by simp) rfl ?_;refine .seq<|.region<|bxd ?_;refine kD zj<|rn<|.seq<|.region<|mkf ?_;refine kD zj<|rn<|.ret ?_
 exact ⟨rfl,rfl⟩
set_option maxRecDepth 10000 in
theorem Zh {xs:List RT} (hl:xs.length≤9223372036854775806) {m:Nat} (hm:xs.length≤m) : ItG Tryz.prog 146 [.ptr [.sl (RVs xs)]] (Rc xs) m:=by
 have hyl:=Il xs
 refine ItG.of Tryz.func146 rfl rfl (nt:=19) rfl (by simp) fun lp J hJ hR=>?_;refine .seq<|.lift ?_;refine .region<|kK (Al PJ)<|kK (AX (DH _) (Nu _) SB)<|kK (vbi)<|kD zj<|.nil ?_
 show AWJ _ _ _ _ _ _ _ _ _
 refine .block<|ALJ.loop ?_;refine ALJ.gh (Gh.keep [0,1,3] rfl) ?_
 rw [show DV.i .i64 (IntKind.wrap .i64 (((List.length xs:Nat):Int)-1))=.i .i64 (((List.length xs:Nat):Int)-1-((0:Nat):Int)) from by
  congr 1;simp only [IntKind.wrap,IntKind.bits,IntKind.signed];simp;omega]
 refine ALJ.ind (σ:=Nat) (m:=fun i=>xs.length-i) (e:=fun i=>[(0,.d (.yl lp)),(1,.d (.ptr [.sl (RVs xs)])),(3,.d (.i .i64 (((List.length xs:Nat):Int)-1-((i:Nat):Int))))]) (h:=fun _=>[]) (r:=fun i=>i) (I:=fun i=>i≤xs.length) ?_ 0 (Nat.zero_le _)
 rintro i hi ih
 refine .seq<|.seq<|.lift ?_;refine .region<|kK (Ac)<|kK (vbi)<|.nil ?_
 show AWJ _ _ _ _ _ _ _ _ _
 by_cases hc:(0:Int)≤((List.length xs:Nat):Int)-1-((i:Nat):Int)
 ·refine .cond (x:=true) (by show AV.d (.b (decide _))=_;rw [dT hc]) (fun _=>?_) (fun h=>by cases h)
  have hlt:i<xs.length:=by omega
  have hj:xs.length-1-i<xs.length:=by omega
  have hij:((List.length xs:Nat):Int)-1-((i:Nat):Int)=((xs.length-1-i:Nat):Int):=by omega
  have hxi:=lG hj
  generalize xs[xs.length-1-i]=x at hxi
  refine .skip ?_
  show AWJ _ _ _ _ _ _ _ _ _
  refine .seq<|.block<|.seq<|.region<|vkJ (Ac) ?_;refine vkJ (Ac) ?_;refine vkJ (Al PJ) ?_;refine vkJ (Ac) ?_;refine vkJ (vix (xs.length-1-i) hij (OW hxi) rfl VO) ?_;refine vkJ (Ap AU AD) ?_
  refine yld (hR i [.i .i64 ((xs.length-1-i:Nat):Int),.ag [.b x.1,.sl (L x.2.1),.sl (L x.2.2)]] (Pa hlt hxi) (by omega)) hJ ?_ (ha:=by show some _=some _;rw [hij];rfl)
  refine vkJ (vnt) ?_;refine .nil ?_
  show AWJ _ _ _ _ _ _ _ _ _
  refine .cond (x:=false) (by show AV.d (.b (!decide _))=_;rw [dT (by omega:i<m)];rfl) (fun h=>by cases h) (fun _=>?_)
  refine .skip ?_
  show AWJ _ _ _ _ _ _ _ _ _
  refine .lift ?_;refine .region<|kK (Ac)<|kK (vbi)<|kD zj<|.nil ?_
  show ALJ _ _ _ _ _ _ _ _ _
  have hw:IntKind.wrap .i64 (((List.length xs:Nat):Int)-1-((i:Nat):Int)-1)=((List.length xs:Nat):Int)-1-((i+1:Nat):Int):=by simp only [IntKind.wrap,IntKind.bits,IntKind.signed];simp;omega
  rw [hw]
  refine ALJ.gh (Gh.keep [0,1,3] rfl) ?_
  exact ih (i+1) hlt (by omega)
 ·refine .cond (x:=false) (by show AV.d (.b (decide _))=_;rw [dF hc]) (fun h=>by cases h) (fun _=>?_)
  refine .exit ?_
  exact ⟨.inl rfl,by rw [hyl];omega⟩
end Go.FL
namespace Go.FL
open Go Go.RowKit
def cell1 (P:Program) (env:Env) (t ty:Nat) (d:DV) : Prop:=(get env t=.d (.ptr [d])∨get env t=.nb [d])∧BH P ty=some false
def YR (P:Program) (env:Env) (r:AV) : List ResultVar→Prop
 | [.cell x tx,.cell y ty]=>∃ cs d,cellD P env x tx cs∧cell1 P env y ty d∧r=.tup [.d (.ag cs),.d d]
 | _=>False
def Aax (P:Program) (rs:List ResultVar) (r:AV) : Exit→Env→Ab→Prop:=fun e env _=>(e=.normal∨e=.ret)∧YR P env r rs
section
variable {P:Program} {X:Snap} {env:Env} {H:Ab} {a:Act} {w:World} {I:Nat→Prop} {μ:List Nat} {O:Nat→Option Loc}
theorem Sim.cell1 (hs:Sim P X env H a w I μ O) {t ty:Nat} {d:DV} (h:Go.FL.cell1 P env t ty d) : ∃ p v,a.tmps.getD t undef=.pointer (some p)∧(loadVar ty p).run P w=.ok v w∧Rep w I d v:=by
 obtain ⟨h1,h2⟩:=h
 rcases h1 with h1|h1
 ·have:=hs.envr t
  rw [h1] at this
  obtain ⟨bs,g1,_⟩:=this.plain rfl
  generalize a.tmps.getD t undef=u at g1
  cases g1 with
  | d g1 =>
   cases g1 with
   | ptr _ b off vs k1 k2 k3 =>
    cases k3 with
    | @cons _ v _ _ hd t =>
     cases t
     exact ⟨_,v,rfl,Bo h2 (by have:=k2 0 v rfl;simpa using this),hd⟩
 ·obtain ⟨blk,cells,e,g1,g2,g3,_⟩:=hs.nb_inv h1
  generalize hc:cells.toList=l at g3
  cases g3 with
  | @cons _ v _ _ hd t =>
   cases t
   refine ⟨_,v,g1,Bo h2 ?_,hd⟩
   have:cells[0]?=some v:=by rw [← Array.getElem?_toList,hc];rfl
   simp [World.cell?,g2,this]
theorem Sim.resultsB (hs:Sim P X env H a w I μ O) {fn:Func} {rs:List ResultVar} (hrs:fn.results=rs.toArray) {r:AV} (h:YR P env r rs) :
  ∃ v bs,(Go.results fn a.tmps).run P w=.ok v w∧ARep P w I μ r v bs∧bs.Nodup∧∀ b∈bs,∃ l,O b=some l:=by
 unfold YR at h
 split at h
 ·obtain ⟨cs,d,kx,ky,rfl⟩:=h
  obtain ⟨px,wx,ex,fx,rx⟩:=hs.cellD kx
  obtain ⟨py,wy,ey,fy,ry⟩:=hs.cell1 ky
  exact ⟨_,[],Ou (by rw [hrs]) (by simp [HG,ex,asAddr,fx]) (by simp [HG,ey,asAddr,fy]),.tup (ARepAll.cons (b1:=[]) (b2:=[]) (.d rx) (ARepAll.cons (b1:=[]) (b2:=[]) (.d ry) .nil)),nN,by simp⟩
 ·exact h.elim
theorem Fn.ofMB {f:FuncId} {fn:Func} {c:Code} {args:List DV} {r:AV} {rs:List ResultVar} {nt:Nat} (hf:P.funcs[f]?=some fn) (hb:fn.body=some c) (hrs:fn.results=rs.toArray) (hnt:fn.ntmps=nt) (hn:args.length≤nt) (hbp:noBp r=true)
  (h:AWM P {nt:=(0,nt),n0:=0,ne:=0} c (Aax P rs r) (CI 0 args) []):Fn P f args r:=by
 intro w I vs hI ha
 refine callsIn_of_wp_marks hf hb trivial ?_
 have hlen:=ha.length
 let X:Snap:={w:=w,I:=I,K:=fun b=>b<w.heap.size,n0:=0,ne:=0,μ:=[],nt:=(0,nt),dfs:=[]}
 let a:Act:={tmps:=vs.toArray++Array.replicate (fn.ntmps-vs.toArray.size) undef,defers:=[]}
 have hs:Sim P X (CI 0 args) [] a w I [] (fun _=>none):=by
  refine ⟨{prot:=fun _ _=>rfl,kO:=fun _ _=>rfl,kI:=fun _ _ h=>h,mono:=fun _ h=>h,os:=rfl,tape:=rfl,output:=rfl,size:=Nat.le_refl _,own:=(fun b l h=>by simp at h),ilt:=hI,μlen:=rfl,μpre:=(fun i b hi _=>by simp [X] at hi),nle:=(by simp [X]),heap:=(fun id o h=>by simp at h),klt:=fun b hb=>hb,n0le:=(by simp [X])},fun t=>?_,?_,rfl,fun t h=>absurd h (by simp [X])⟩
  ·rcases DT (tmps:=a.tmps) (k:=0) ha (fun j v hj=>by
    have hjl:j<vs.length:=(lS.1 hj).1
    have e2:(vs.toArray++Array.replicate (fn.ntmps-vs.length) undef)[j]?=some v:=by
     rw [Array.getElem?_append_left (by simpa using hjl)];simpa using hj
    simp [a,e2]) t with h0|⟨d,h0,h1⟩
   ·rw [h0];exact .un
   ·rw [h0];exact .of (bs:=[]) (.d h1) nN (by simp)
  ·simp [a,X,hnt];omega
 have hw:=h X a w I [] (fun _=>none) rfl rfl rfl hs
 refine wpIn_mono hw fun e a' w' hp=>?_
 obtain ⟨env',H',I',μ',O',ms,s,⟨he,q⟩,hm⟩:=hp
 have hdf:a'.defers=ms:=by rw [s.dfs.1];simp [X]
 have fin:LeavesInM (om none) 0 P fn a'.tmps (fun e w'=>∃ v I' bs,e=.returned v∧Below w.heap.size w w'∧(∀ b,I b→I' b) ∧
   (∀ b,I' b→b<w'.heap.size∧(b<w.heap.size→I b))∧ARep P w' I' [] r v bs∧bs.Nodup∧∀ b∈bs,w.heap.size≤b∧b<w'.heap.size∧¬I' b) a'.defers .returning w':=by
  rw [hdf]
  refine HP (fun w4 s4=>?_) ms w' s hm
  obtain ⟨v,bs,h1,h2,h3,h4⟩:=s4.resultsB hrs q
  refine ⟨v,h1,v,I',bs,rfl,⟨s4.os,s4.tape,s4.output,s4.size,fun b hb=>s4.prot b hb⟩,s4.mono,fun b hi=>⟨s4.ilt b hi,fun hb=>s4.kI b hb hi⟩,h2.noBp hbp,h3,fun b hm=>?_⟩
  obtain ⟨l,hl⟩:=h4 b hm
  refine ⟨?_,(s4.own b l hl).1,(s4.own b l hl).2⟩
  rcases Nat.lt_or_ge b w.heap.size with hlt|hge
  ·have:=s4.kO b hlt;rw [this] at hl;cases hl
  ·exact hge
 rcases he with rfl|rfl<;>exact fin
end
end Go.FL
namespace Go.FL
open Go Go.Proofs
def Dk (x1:(List Itm)) (K0:(List RT)→Int→(List RT)→Option ((List RT)×Int)) : Nat→(List RT)→Int→(List RT)→Int→Option ((List RT)×Int)
 | 0,_,_,_,_=>none
 | k+1,s5,s6,s7,s8=>(if s8<((List.length x1:Nat):Int) then ((rd? x1 s8).bind fun x9=>(if x9.kind=1 then ((ap? 2513169434916 s7 [x9.num]).bind fun x10=>(Dk x1 K0 k s5 s6 x10 (w64 (s8+1)))) else (some ([],3)))) else (K0 s5 s6 s7))
def FD (a0:Arr) : Option ((List RT)×Int):=((Bx a0).bind fun x1=>(jn (fun (z2:(List RT)) (z3:Int) (z4:(List RT))=>(some (z4,0))) fun K0=>(Dk x1 K0 AH [] 0 [] 0)))
theorem HZ {a0:Arr} {r:(List RT)×Int} (h:FD a0=some r) :
  Fn Tryz.prog 145 [.ag [.sl (Is a0.shape),.sl (Its a0.items)]] (.tup [.d (.sl (RVs r.1)),.d (.i .i64 r.2)]):=by
 unfold FD at h
 refine Fn.of (rs:=[.tmp 2,.tmp 3]) (nt:=24) Tryz.func145 rfl rfl rfl (by simp) rfl ?_;refine .sr<|kK vbx<|asn ?_;refine kR [1,2,3] zj<|.sr<|asn ?_;refine rk [1,2,3,4]<|.seq<|.sr<|kK (Ap Ah Ad) ?_
 obtain ⟨x1,g1,h⟩:=bnd h
 refine kK (Ag (DD g1) Tryz.call31)<|kK (AX (Ai _) (Bg _) Ba)<|kA zj<|rk [2,3,4,8,9,10] ?_
 obtain ⟨K0,hK0,h⟩:=A1 h
 refine AW.mr (σ:=(List RT)×Int×(List RT)) (fun p=>K0 p.1 p.2.1 p.2.2=some r) (fun p=>[(2,.d (.sl (RVs p.1))),(3,.d (.i .i64 p.2.1)),(4,.own 33 (RVs p.2.2))]) (fun p=>[]) ?_ ?_
 ·skip
  refine .block<|.gh (Gh.nlD (t:=2) rfl)<|.gh (Gh.nlOwn (t:=4) 33 (by rw [Ab0];decide) rfl) ?_
  refine .loop (.gk [2,3,4,8,9,10] ?_)
  refine AL.ind (σ:=Nat×(List RT)×Int×(List RT)×Int) (m:=fun p=>p.1) (e:=fun p=>[(2,.d (.sl (RVs p.2.1))),(3,.d (.i .i64 p.2.2.1)),(4,.own 33 (RVs p.2.2.2.1)),(8,.d (.sl (Its x1))),(9,.d (.i .i64 ((List.length x1:Nat):Int))),(10,.d (.i .i64 p.2.2.2.2))]) (h:=fun p=>[]) (I:=fun p=>Dk x1 K0 p.1 p.2.1 p.2.2.1 p.2.2.2.1 p.2.2.2.2=some r) ?_ (AH,[],0,[],0) h
  rintro ⟨k,s5,s6,s7,s8⟩ h ih
  dsimp only at h ih ⊢
  rcases k with _|k
  ·rw [Dk] at h;cases h
  rw [Dk] at h
  refine .sr<|kB zj<|rk [2,3,4,8,9,10,11]<|.seq ?_
  rcases brc h with ⟨hc,h⟩|⟨hc,h⟩
  ·refine cnt (dT hc) ?_
   refine .sk ?_;refine .seq<|.block<|.sr ?_
   obtain ⟨x9,g9,h⟩:=bnd h
   obtain ⟨n9,p09,q9⟩:=Aq g9
   refine kK (vix n9 p09 (BC q9) rfl Bs)<|kK (Ap AE Am)<|kK (van (Ae Cd) Cf) ?_
   refine stn ?_ Am (by decide)
   refine rk [2,3,4,6,8,9,10]<|.seq<|.seq<|.gh (Gh.nbp (t:=6) rfl)<|.region<|kK (vfa BS)<|kK (Al AY)<|kB zj<|rk [2,3,4,6,8,9,10,16] ?_
   rcases brc h with ⟨hc,h⟩|⟨hc,h⟩
   ·refine cnf (ntf (dT hc)) ?_
    refine .sk ?_;refine .region<|mvo ?_;refine kK (vfa BJ)<|kK (Ap AU AD)<|kK ((GN (Gr [x9.num]) Ik).deep) ?_
    obtain ⟨x10,g10,h⟩:=bnd h
    refine WJ Xb g10 Y3 ?_ XT DH Ik
    refine aso ?_;refine .nil ?_;refine aw<|.gk [2,3,4,8,9,10]<|.region<|kB zj<|kA zj<|.nil ?_;refine AL.gk [2,3,4,8,9,10] ?_
    exact ih (k,s5,s6,x10,(w64 (s8+1))) h (Nat.lt_succ_self _)
   refine cnt (ntt (dF hc)) ?_;refine .sr<|asn ?_;refine kR [2,3,4,6,8,9,10] zj<|.gh (Gh.nlD (t:=2) rfl)<|.ret ?_
   cases h
   exact ⟨by decide,rfl,rfl,rfl⟩
  refine cnf (dF hc) ?_;refine .gk [2,3,4]<|.exit ?_
  exact jr (s5,s6,s7) h
 rintro ⟨z2,z3,z4⟩ h
 try dsimp only at h ⊢
 subst hK0
 refine aw<|.sr<|fz (p:=.t 4) ?_;refine kA zj<|kD zj<|kR [2,3] zj<|.ret ?_
 cases h
 exact ⟨by decide,rfl,rfl,rfl⟩
def KE (a0:Arr) (a1:Arr) : Option ((List RT)×(List RT)×Int):=((FD a0).bind fun x1=>(jn (fun (z2:(List RT)) (z3:Int)=>(some (x1.1,z2,z3))) fun K0=>(if x1.2=0 then ((FD a1).bind fun x4=>(K0 x4.1 x4.2)) else (K0 [] x1.2))))
theorem PY {a0:Arr} {a1:Arr} {r:(List RT)×(List RT)×Int} (h:KE a0 a1=some r) :
  Fn Tryz.prog 93 [.ag [.sl (Is a0.shape),.sl (Its a0.items)],.ag [.sl (Is a1.shape),.sl (Its a1.items)]] (.tup [.d (.sl (RVs r.1)),.d (.sl (RVs r.2.1)),.d (.i .i64 r.2.2)]):=by
 unfold KE at h
 refine Fn.of (rs:=[.tmp 4,.tmp 5,.tmp 6]) (nt:=22) Tryz.func93 rfl rfl rfl (by simp) rfl ?_;refine .sr<|kK vbx<|kK vbx<|asn ?_;refine asn ?_;refine kR [2,3,4,5,6] zj<|.seq<|.sr<|kK (Ap Ah Ad) ?_
 obtain ⟨x1,g1,h⟩:=bnd h
 refine kK (VOK.tupd (vs:=[.sl (RVs x1.1),.i .i64 x1.2]) (Ag (HZ g1) Tryz.call145))<|kA zj<|kK vex<|kK vex<|kD zj<|kR [3,4,5,6] zj<|.sr<|kA zj<|kB zj<|rk [3,4,5,6,13] ?_
 obtain ⟨K0,hK0,h⟩:=A1 h
 refine AW.mr (σ:=(List RT)×Int) (fun p=>K0 p.1 p.2=some r) (fun p=>[(4,.d (.sl (RVs x1.1))),(5,.d (.sl (RVs p.1))),(6,.d (.i .i64 p.2))]) (fun p=>[]) ?_ ?_
 ·skip
  rcases brc h with ⟨hc,h⟩|⟨hc,h⟩
  ·refine cnt (dT hc) ?_
   refine .region<|kK (Ap Ah Ad) ?_
   obtain ⟨x4,g4,h⟩:=bnd h
   refine kK (VOK.tupd (vs:=[.sl (RVs x4.1),.i .i64 x4.2]) (Ag (HZ g4) Tryz.call145))<|kA zj<|kK vex<|kK vex<|kD zj<|kD zj<|RL.gk [4,5,6]<|.nil ?_
   exact jr (x4.1,x4.2) h
  refine cnf (dF hc) ?_;refine .gh (Gh.nlD (t:=5) rfl)<|.gk [4,5,6]<|.skip ?_
  exact jr ([],x1.2) h
 rintro ⟨z2,z3⟩ h
 try dsimp only at h ⊢
 subst hK0
 refine aw<|.sr<|kA zj<|kA zj<|kA zj<|kD zj<|kD zj<|kR [4,5,6] zj<|.ret ?_
 cases h
 exact ⟨⟨by decide,by decide,by decide⟩,rfl,rfl,rfl,rfl⟩
def JH (a0:RT) (a1:RT) : Option (RT×RT×Int):=((IJ a0 a1).bind fun x1=>(Option.bind ((if x1.2=0 then ((Iv a0).bind fun x3=>(some (decide (x3=0)))) else (some true)) : Option (Bool)) fun (z2:Bool)=>(if z2=true then none else ((Hq a1 x1.1).bind fun x4=>(jn (fun (z5:RT) (z6:Int)=>(some (x1.1,z5,z6))) fun K0=>(if x4.2=0 then ((Mf x4.1 a0).bind fun x7=>(K0 x7.1 x7.2)) else (K0 x4.1 x4.2)))))))
theorem NN {a0:RT} {a1:RT} {r:RT×RT×Int} (h:JH a0 a1=some r) :
  Fn Tryz.prog 96 [.ag [.b a0.1,.sl (L a0.2.1),.sl (L a0.2.2)],.ag [.b a1.1,.sl (L a1.2.1),.sl (L a1.2.2)]] (.tup [.d (.ag [.b r.1.1,.sl (L r.1.2.1),.sl (L r.1.2.2)]),.d (.ag [.b r.2.1.1,.sl (L r.2.1.2.1),.sl (L r.2.1.2.2)]),.d (.i .i64 r.2.2)]):=by
 unfold JH at h
 refine Fn.ofA (rs:=[.cell 4 33,.cell 5 33,.tmp 6]) (nt:=40) Tryz.func96 rfl rfl rfl (by simp) rfl ?_;refine .sr<|kK vbx<|kK vbx<|kK (van (Ae Fv) Fq)<|kK (van (Ae Fv) Fq)<|kR [2,3,4,5,6] zj<|.seq<|.sr<|kK (Ap AU AD)<|kK (Ap AU AD) ?_
 obtain ⟨x1,g1,h⟩:=bnd h
 refine kK (VOK.tupd (vs:=[.ag [.b x1.1.1,.sl (L x1.1.2.1),.sl (L x1.1.2.2)],.i .i64 x1.2]) (Ag (MJ g1) Tryz.call147))<|kA zj<|kK vex<|kK vex ?_
 refine stn ?_ AD (by decide)
 refine kR [2,3,4,5,6] zj<|.seq ?_
 obtain ⟨z2,hz,h⟩:=bnd h
 refine AW.mr (σ:=Unit) (fun _=>True) (fun _=>[(2,.d (.ptr [.b a0.1,.sl (L a0.2.1),.sl (L a0.2.2)])),(3,.d (.ptr [.b a1.1,.sl (L a1.2.1),.sl (L a1.2.2)])),(4,.nb [.b x1.1.1,.sl (L x1.1.2.1),.sl (L x1.1.2.2)]),(5,.nb [.b false,.sl (L []),.sl (L [])]),(6,.d (.i .i64 x1.2)),(19,.d (.b z2))]) (fun _=>[]) ?_ ?_
 ·skip
  refine .region<|kA zj<|kB zj ?_
  rcases brc hz with ⟨hc,hz⟩|⟨hc,hz⟩
  ·have hb0:(!(decide (x1.2=0)))=false:=(ntf (dT hc))
   refine kC zj hb0<|kK (Ap AU AD) ?_
   obtain ⟨x3,g3,hz⟩:=bnd hz
   refine kK (Ag (H7 g3) Tryz.call90)<|kB zj<|kK Ao<|RL.gk [2,3,4,5,6,19]<|.nil ?_
   cases hz
   exact jr () trivial
  have hb0:(!(decide (x1.2=0)))=true:=(ntt (dF hc))
  refine kC zj hb0<|gf3 ?_;refine kK Ao<|RL.gk [2,3,4,5,6,19]<|.nil ?_
  cases hz
  exact jr () trivial
 rintro _ _
 rcases brc h with ⟨hc,h⟩|⟨hc,h⟩
 ·exact nomatch h
 refine cnf (bf hc) ?_;refine .sk ?_;refine .seq<|.sr<|kK (Ap AU AD)<|kK (Dv AU AD) ?_
 obtain ⟨x4,g4,h⟩:=bnd h
 refine kK (VOK.tupd (vs:=[.ag [.b x4.1.1,.sl (L x4.1.2.1),.sl (L x4.1.2.2)],.i .i64 x4.2]) (Ag (Gi g4) Tryz.call148))<|kA zj<|kK vex<|kK vex ?_
 refine stn ?_ AD (by decide)
 refine kR [2,4,5,6] zj<|.sr<|kA zj<|kB zj<|rk [2,4,5,6,30] ?_
 obtain ⟨K0,hK0,h⟩:=A1 h
 refine AW.mr (σ:=RT×Int) (fun p=>K0 p.1 p.2=some r) (fun p=>[(4,.nb [.b x1.1.1,.sl (L x1.1.2.1),.sl (L x1.1.2.2)]),(5,.nb [.b p.1.1,.sl (L p.1.2.1),.sl (L p.1.2.2)]),(6,.d (.i .i64 p.2))]) (fun p=>[]) ?_ ?_
 ·skip
  rcases brc h with ⟨hc,h⟩|⟨hc,h⟩
  ·refine cnt (dT hc) ?_
   refine .region<|kK (Dv AU AD)<|kK (Ap AU AD) ?_
   obtain ⟨x7,g7,h⟩:=bnd h
   refine kK (VOK.tupd (vs:=[.ag [.b x7.1.1,.sl (L x7.1.2.1),.sl (L x7.1.2.2)],.i .i64 x7.2]) (Ag (M5 g7) Tryz.call149))<|kA zj<|kK vex<|kK vex ?_
   refine stn ?_ AD (by decide)
   refine kD zj<|RL.gk [4,5,6]<|.nil ?_
   exact jr (x7.1,x7.2) h
  refine cnf (dF hc) ?_;refine .gk [4,5,6]<|.skip ?_
  exact jr (x4.1,x4.2) h
 rintro ⟨z5,z6⟩ h
 try dsimp only at h ⊢
 subst hK0
 refine aw<|.seq<|.drawnI 3 AS (by kernel_rfl) ?_;refine kV (Dv AU AD)<|kV (Dv AU AD)<|kV Ac<|dz ?_
 refine ⟨?_,?_⟩
 ·intro i o hi ho e hj hn
  have hi2:=(Array.getElem?_eq_some_iff.1 ho).1
  have hi3:i=3∨i=4∨i=5:=by change i<6 at hi2;omega
  rcases hi3 with rfl|rfl|rfl<;>cases ho
  ·exact HE (cs:=[.b x1.1.1,.sl (L x1.1.2.1),.sl (L x1.1.2.2)]) (cs':=[.b x1.1.1,.sl (L x1.1.2.1),.sl (L x1.1.2.2)]) AD (by decide) rfl ((hn 4 (N6 rfl)).trans rfl) ((congrArg A0 (hj 0 37 _ (by kernel_rfl) rfl)).trans rfl) rfl rfl rfl rfl ⟨MN ((hn 4 (N6 rfl)).trans rfl),rfl⟩
  ·exact HE (cs:=[.b z5.1,.sl (L z5.2.1),.sl (L z5.2.2)]) (cs':=[.b z5.1,.sl (L z5.2.1),.sl (L z5.2.2)]) AD (by decide) rfl ((hn 5 (N6 rfl)).trans rfl) ((congrArg A0 (hj 1 38 _ (by kernel_rfl) rfl)).trans rfl) rfl rfl rfl rfl ⟨MN ((hn 5 (N6 rfl)).trans rfl),rfl⟩
  ·exact ZN rfl ((hj 2 39 _ (by kernel_rfl) rfl).trans rfl) rfl ((congrArg Aj (hn 6 (N6 rfl))).trans rfl) rfl ⟨MN ((hn 6 (N6 rfl)).trans rfl),rfl⟩
 refine rk [4,5,6]<|.ret ?_
 cases h
 exact ⟨_,_,_,⟨_,⟨.inr rfl,AU,AD,p3⟩,rfl⟩,⟨_,⟨.inr rfl,AU,AD,p3⟩,rfl⟩,rfl,rfl⟩
def DE (x1:(List RT)×(List RT)×Int) (x2:(List Int)) : Nat→Arr→Int→Int→Int→(List Itm)→Option (Arr×Int)
 | 0,_,_,_,_,_=>none
 | k+1,s7,s8,s9,s10,s11=>(if s9<((List.length x1.2.1:Nat):Int) then ((rd? x1.2.1 s9).bind fun x12=>((Gk (((List.length x1.1:Nat):Int)≤1000000)).bind fun x13=>((Ns (fun (i25:Int) (x26:RT) (p:Int×(List Itm)×Bool×(List Nat)×(List Nat))=>((JH x26 (p.2.2.1,p.2.2.2.1,p.2.2.2.2)).bind fun x27=>(if x27.2.2=0 then ((rd? p.2.1 (w64 ((w64 (i25 * ((List.length x1.2.1:Nat):Int)))+s9))).bind fun x28=>(some (x27.2.2,(List.set p.2.1 (Int.toNat (w64 ((w64 (i25 * ((List.length x1.2.1:Nat):Int)))+s9))) (Itm.mk 1 x27.1 0 [])),x27.2.1.1,x27.2.1.2.1,x27.2.1.2.2))) else none))) x1.1 (List.length x1.1) (s10,s11,x12.1,x12.2.1,x12.2.2)).bind fun z24=>(DE x1 x2 k s7 s8 (w64 (s9+1)) z24.1 z24.2.1)))) else ((Bi x2 s11).bind fun x29=>(some (x29.1,x29.2))))
def Ic (a0:Arr) (a1:Arr) : Option (Arr×Int):=(if 1<((List.length a0.shape:Nat) : Int) then (some ((Arr.mk [] []),4)) else ((KE a0 a1).bind fun x1=>(if x1.2.2=0 then ((Dp ([a0.shape,a1.shape])).bind fun x2=>((Df x2).bind fun x3=>(if x3.2=0 then ((Gk (0≤(if x3.1<1 then 1 else x3.1)∧(if x3.1<1 then 1 else x3.1)≤1466015503701)).bind fun x4=>((C6 0).bind fun x5=>((rd? (List.replicate (Int.toNat (if x3.1<1 then 1 else x3.1)) (Itm.mk 0 (false,[],[]) 0 [])) 0).bind fun x6=>(DE x1 x2 AH (Arr.mk [] []) 0 0 x3.2 (List.set (List.replicate (Int.toNat (if x3.1<1 then 1 else x3.1)) (Itm.mk 0 (false,[],[]) 0 [])) (Int.toNat 0) x5))))) else (some ((Arr.mk [] []),x3.2))))) else (some ((Arr.mk [] []),x1.2.2)))))
theorem MI {a0:Arr} {a1:Arr} {r:Arr×Int} (h:Ic a0 a1=some r) :
  Fn Tryz.prog 44 [.ag [.sl (Is a0.shape),.sl (Its a0.items)],.ag [.sl (Is a1.shape),.sl (Its a1.items)]] (.tup [.d (.ag [.sl (Is r.1.shape),.sl (Its r.1.items)]),.d (.i .i64 r.2)]):=by
 unfold Ic at h
 refine Fn.ofMB (rs:=[.cell 4 25,.cell 5 26]) (nt:=92) Tryz.func44 rfl rfl rfl (by simp) rfl ?_;refine .seqA ?_;refine .region<|kK vbx<|kK vbx<|kK (van (Ae AP) AZ)<|kK (van (Ae Rk) VB)<|rn<|.gh (Gh.keep [2,3,4,5] rfl)<|.seqA ?_;refine .seq<|.region<|kK (vfa A6)<|kK (Al Cy)<|kK (AX (Az _) (C7 _) CQ)<|kB zj<|rn<|.gh (Gh.keep [2,3,4,5,20] rfl) ?_
 by_cases hc:1<((List.length a0.shape:Nat):Int)
 ·replace h:=H8 hc h
  refine cnt (dT hc) ?_;refine .seq<|.region<|kK (vbd Dc AP AZ) ?_
  refine stn ?_ Ad (by decide)
  refine UM ?_ Gm
  refine rn<|.gh (Gh.keep [2,3,4,5] rfl)<|.ret ?_
  cases h
  exact ⟨.inr rfl,_,_,⟨.inr rfl,Ah,Ad,(by decide:(0:Nat)<2)⟩,⟨.inr rfl,DQ⟩,rfl⟩
 replace h:=IQ hc h
 refine cnf (dF hc) ?_;refine .skip ?_
 show AWM _ _ _ _ _ _
 refine .seqA ?_;refine .region<|kK (Ap Ah Ad)<|kK (Ap Ah Ad) ?_
 obtain ⟨x1,hx1,h⟩:=bnd h
 refine kK (VOK.tupd (vs:=[.sl (RVs x1.1),.sl (RVs x1.2.1),.i .i64 x1.2.2]) (Ag (PY hx1) Tryz.call93))<|kA zj<|kK vex<|kK vex<|kK vex ?_
 refine al ?_ (Ae Zg) (fun w I μ=>Yb w I μ)
 refine al ?_ (Ae Rk) (fun w I μ=>Ua w I μ)
 refine asd ?_
 refine stb (cs:=[.nl]) (c:=.nl) rfl rfl ?_ Zs
 refine stb (cs:=[.d (.i .i64 0)]) (c:=.d (.i .i64 0)) rfl rfl ?_ Gm
 refine rn<|.gh (Gh.keep [2,3,4,5,6,7,8] rfl)<|.seqA ?_;refine .seq<|.region<|kK (H6 (cs:=[.d (.i .i64 x1.2.2)]) (c:=.i .i64 x1.2.2) rfl rfl DQ)<|kB zj<|rn<|.gh (Gh.keep [2,3,4,5,6,7,8,30] rfl) ?_
 by_cases hc:x1.2.2=0
 ·replace h:=H8 hc h
  refine cnf (ntf (dT hc)) ?_;refine .skip ?_
  show AWM _ _ _ _ _ _
  refine .seqA ?_;refine .region<|kK (vfa A6)<|kK (Al Cy)<|kK (vfa A6)<|kK (Al Cy)<|kK ((GN (U6 [a0.shape,a1.shape]) Y9).deep) ?_
  obtain ⟨x2,hx2,h⟩:=bnd h
  refine kK (Ag (GV hx2) Tryz.call80)<|kD zj<|rn<|.gh (Gh.keep [4,5,6,7,8,9] rfl)<|.seqA ?_;refine .region<|kA zj ?_
  obtain ⟨x3,hx3,h⟩:=bnd h
  refine kK (VOK.tupd (vs:=[.i .i64 x3.1,.i .i64 x3.2]) (Ag (D9 hx3) Tryz.call17))<|kA zj<|kK vex<|kK vex<|kD zj ?_
  refine stb (cs:=[.d (.i .i64 x1.2.2)]) (c:=.d (.i .i64 x1.2.2)) rfl rfl ?_ Gm
  refine rn<|.gh (Gh.keep [4,5,6,7,8,9,10] rfl)<|.seqA ?_;refine .seq<|.region<|kK (H6 (cs:=[.d (.i .i64 x3.2)]) (c:=.i .i64 x3.2) rfl rfl DQ)<|kB zj<|rn<|.gh (Gh.keep [4,5,6,7,8,9,10,45] rfl) ?_
  by_cases hc:x3.2=0
  ·replace h:=H8 hc h
   refine cnf (ntf (dT hc)) ?_;refine .skip ?_
   show AWM _ _ _ _ _ _
   refine .seqA ?_;refine .region<|kA zj<|kK vmx ?_
   obtain ⟨x4,hx4,h⟩:=bnd h
   have ghx4:=HC hx4
   refine Abz (F:=Its) (x0:=(Itm.mk 0 (false,[],[]) 0 [])) (zl:=(if x3.1<1 then 1 else x3.1)) (Int.toNat (if x3.1<1 then 1 else x3.1)) QF (by omega) (by omega) ?_ DF Cf
   refine al ?_ (Ae VH) (fun w I μ=>Yj w I μ)
   refine O0 (cs:=[.nl]) (c:=.nl) rfl rfl ?_ II
   refine rn<|.gh (Gh.keep [4,5,6,7,8,9,11] rfl)<|.seqA ?_;refine .drawn 3 AS (by kernel_rfl) ?_;refine kV (QN (cs:=[.own 44 (Its (List.replicate (Int.toNat (if x3.1<1 then 1 else x3.1)) (Itm.mk 0 (false,[],[]) 0 [])))]) rfl rfl Bl) ?_
   obtain ⟨x5,hx5,h⟩:=bnd h
   refine dv (Ag (Gg hx5) Tryz.call94) ?_
   obtain ⟨x6,hx6,h⟩:=bnd h
   obtain ⟨nx6,hnx6,hxx6⟩:=Aq hx6
   refine kV (LR (off:=0) (len:=(Its (List.replicate (Int.toNat (if x3.1<1 then 1 else x3.1)) (Itm.mk 0 (false,[],[]) 0 []))).length) nx6 hnx6 (by rw [Ai];exact (lS.1 hxx6).1) Bs (by decide))<|dz ?_
   refine Y7 (F:=Its) (zs:=[.i .u8 x6.kind,.b x6.num.1,.sl (L x6.num.2.1),.sl (L x6.num.2.2),.i .i32 x6.char,.sl (Ars x6.box)]) (us:=(List.replicate (Int.toNat (if x3.1<1 then 1 else x3.1)) (Itm.mk 0 (false,[],[]) 0 []))) (n:=nx6) (m:=Int.toNat 0) (x:=x5) (MA (Itm.dv_eq x5).symm) (by rw [hnx6];rfl) (by rw [Nat.zero_add];exact BC hxx6) rfl ?_ Am Am (Nat.succ_pos _) (hn:=fun _ _ _=>Nat.zero_le _)
   refine RL.gh (Gh.keep [4,5,6,7,8,9,11,51,52] rfl)<|rn<|.gh (Gh.keep [4,5,6,7,8,9,11] rfl)<|.seq rfl<|.seqA ?_;refine .region<|kK (H6 (cs:=[.d (.sl (RVs x1.2.1))]) (c:=.sl (RVs x1.2.1)) rfl rfl PJ)<|kK (AX (DH _) (Nu _) SB)<|kA zj<|rn<|.gh (Gh.keep [4,5,6,7,8,9,11,54,55,56] rfl)<|.block ?_
   refine .loop (.gh (Gh.keep [4,5,6,7,8,9,11,54,55,56] rfl) ?_)
   refine ALM.ind rfl (σ:=Nat×Arr×Int×Int×Int×(List Itm)) (m:=fun p=>p.1) (e:=fun p=>[(4,.nb [.sl (Is p.2.1.shape),.sl (Its p.2.1.items)]),(5,.nb [.i .i64 p.2.2.1]),(6,.d (.sl (RVs x1.1))),(7,.bp 0 0),(8,.bp 1 0),(9,.d (.sl (Is x2))),(11,.bp 2 0),(54,.d (.sl (RVs x1.2.1))),(55,.d (.i .i64 ((List.length x1.2.1:Nat):Int))),(56,.d (.i .i64 p.2.2.2.1))]) (h:=fun p=>[HO.box [.d (.sl (RVs x1.2.1))],HO.box [.d (.i .i64 p.2.2.2.2.1)],HO.box [.own 44 (Its p.2.2.2.2.2)]]) (I:=fun p=>DE x1 x2 p.1 p.2.1 p.2.2.1 p.2.2.2.1 p.2.2.2.2.1 p.2.2.2.2.2=some r) ?_ (AH,(Arr.mk [] []),0,0,x3.2,(List.set (List.replicate (Int.toNat (if x3.1<1 then 1 else x3.1)) (Itm.mk 0 (false,[],[]) 0 [])) (Int.toNat 0) x5)) h
   rintro ⟨k,s7,s8,s9,s10,s11⟩ h ih
   dsimp only at h ih ⊢
   rcases k with _|k
   ·rw [DE] at h;cases h
   rw [DE] at h
   refine .seqA ?_;refine .region<|kB zj<|rn<|.gh (Gh.keep [4,5,6,7,8,9,11,54,55,56,57] rfl)<|.seqA ?_
   by_cases hc:s9<((List.length x1.2.1:Nat):Int)
   ·replace h:=H8 hc h
    refine cnt (dT hc) ?_;refine .skip ?_
    show AWM _ _ _ _ _ _
    refine .seq rfl<|.block<|.seqA ?_;refine .region<|kA zj ?_
    obtain ⟨x12,hx12,h⟩:=bnd h
    obtain ⟨nx12,hnx12,hxx12⟩:=Aq hx12
    refine kK (vix nx12 hnx12 (OW hxx12) rfl VO)<|kK (Ap AU AD) ?_
    refine al ?_ (Ae V6) (fun w I μ=>XX w I μ)
    refine vk (van (Ae Fv) Fq) ?_
    refine stb (cs:=[.d (.i .i64 0)]) (c:=.d (.i .i64 0)) rfl rfl ?_ GS
    refine stn ?_ AD (by decide)
    refine RL.gh2 (Gh.nbb (t:=13) rfl) ?_;refine rn<|.gh (Gh.keep [4,5,6,7,8,9,11,12,13,54,55,56] rfl)<|.seqA ?_;refine .region<|kA zj<|kK (Ag (Z0 (RVs x1.1)) Tryz.call95)<|rn<|.gh (Gh.keep [4,5,6,7,8,9,11,12,13,54,55,56,62] rfl)<|.block ?_
    obtain ⟨x13,hx13,h⟩:=bnd h
    have ghx13:=HC hx13
    obtain ⟨z24,hz24,h⟩:=bnd h
    obtain ⟨Tz24,hTz240,hTz24n,hTz24t⟩:=Px _ hz24
    refine AWM.rangeFuncG (ps:=[63,64]) (f:=146) (caps:=[.ptr [.sl (RVs x1.1)]]) (ys:=Rc x1.1) (m:=List.length x1.1) (e1:=.ret) rfl rfl rfl Tryz.call146 (Zh (by omega) (Nat.le_refl _)) (fun ds hd=>Wd _ ds hd) (fun p hp=>by simp only [List.mem_cons,List.not_mem_nil,or_false] at hp;rcases hp with rfl|rfl<;>rfl) rfl (fun k H=>H=[HO.box [.d (.sl (RVs x1.2.1))],HO.box [.d (.i .i64 (Tz24 k).1)],HO.box [.own 44 (Its (Tz24 k).2.1)],HO.box [.d (.i .i64 s9)],HO.box [.d (.b (Tz24 k).2.2.1),.d (.sl (L (Tz24 k).2.2.2.1)),.d (.sl (L (Tz24 k).2.2.2.2))]]) (by rw [hTz240];try rfl) (.inr rfl) (fun l k ds H hk hkm hH=>?_) (fun H hH=>?_)
    ·subst hH
     have hkl:k<List.length x1.1:=by rw [← Il];exact (lS.1 hk).1
     obtain ⟨x26,hx26,h⟩:=hTz24t k hkl
     rw [Pa hkl hx26] at hk
     cases hk
     generalize ((List.length x1.1-1-k:Nat):Int)=i25 at h ⊢
     clear hx26
     generalize Tz24 k=s0 at h ⊢
     generalize Tz24 (k+1)=s1 at h ⊢
     obtain ⟨s14,s15,s16,s17,s18⟩:=s0
     dsimp only at h ⊢
     refine .seq<|.region<|kD zj<|rn<|.gh (Gh.keep [7,8,11,12,13,14,64] rfl)<|.region<|kK (van (Ae Fv) Fq) ?_
     refine stn ?_ AD (by decide)
     refine rn<|.gh (Gh.keep [7,8,11,12,13,14,15] rfl)<|.block<|.seq<|.region<|kK (van (Ae Fv) Fq)<|rn<|.gh (Gh.keep [7,8,11,12,13,14,15,16] rfl)<|.seq<|.seq<|.region<|kK (Dv AU AD)<|kK (Kn (cs:=[.d (.b s16),.d (.sl (L s17)),.d (.sl (L s18))]) (ds:=[.b s16,.sl (L s17),.sl (L s18)]) rfl AU AD) ?_
     obtain ⟨x27,hx27,h⟩:=bnd h
     refine kK (VOK.tupd (vs:=[.ag [.b x27.1.1,.sl (L x27.1.2.1),.sl (L x27.1.2.2)],.ag [.b x27.2.1.1,.sl (L x27.2.1.2.1),.sl (L x27.2.1.2.2)],.i .i64 x27.2.2]) (Ag (NN hx27) Tryz.call96))<|kA zj<|kK vex<|kK vex<|kK vex ?_
     refine stn ?_ AD (by decide)
     refine Aby (bx:=[.d (.b s16),.d (.sl (L s17)),.d (.sl (L s18))]) (zs:=[.b s16,.sl (L s17),.sl (L s18)]) (ds:=[.b x27.2.1.1,.sl (L x27.2.1.2.1),.sl (L x27.2.1.2.2)]) rfl rfl rfl ?_ AD (Nat.succ_pos _)
     refine stb (cs:=[.d (.i .i64 s14)]) (c:=.d (.i .i64 s14)) rfl rfl ?_ Gm
     refine rn<|.gh (Gh.keep [7,8,11,12,14,16] rfl)<|.seq<|.region<|kK (H6 (cs:=[.d (.i .i64 x27.2.2)]) (c:=.i .i64 x27.2.2) rfl rfl DQ)<|kB zj<|rn<|.gh (Gh.keep [7,8,11,12,14,16,73] rfl) ?_
     by_cases hc:x27.2.2=0
     ·replace h:=H8 hc h
      refine cnf (ntf (dT hc)) ?_;refine .sk ?_;refine .region ?_
      refine Pk (cs:=[.own 44 (Its s15)]) rfl rfl ?_ Bl
      refine kA zj<|kK (H6 (cs:=[.d (.sl (RVs x1.2.1))]) (c:=.sl (RVs x1.2.1)) rfl rfl PJ)<|kK (AX (DH _) (Nu _) SB)<|kB zj<|kK (H6 (cs:=[.d (.i .i64 s9)]) (c:=.i .i64 s9) rfl rfl Bh)<|kB zj<|kK (Dv AU AD)<|kK (vbd KA Cd Cf) ?_
      obtain ⟨x28,hx28,h⟩:=bnd h
      obtain ⟨nx28,hnx28,hxx28⟩:=Aq hx28
      refine ixr (off:=0) (len:=(Its s15).length) nx28 hnx28 (by rw [Ai];exact (lS.1 hxx28).1) ?_ Bs (by decide)
      refine Y7 (F:=Its) (zs:=[.i .u8 x28.kind,.b x28.num.1,.sl (L x28.num.2.1),.sl (L x28.num.2.2),.i .i32 x28.char,.sl (Ars x28.box)]) (us:=s15) (n:=nx28) (m:=Int.toNat (w64 ((w64 (i25 * ((List.length x1.2.1:Nat):Int)))+s9))) (x:=(Itm.mk 1 x27.1 0 [])) (MA (Itm.dv_eq (Itm.mk 1 x27.1 0 [])).symm) (by rw [hnx28];rfl) (by rw [Nat.zero_add];exact BC hxx28) rfl ?_ Am Am (Nat.succ_pos _) (hn:=fun _ _ _=>Nat.zero_le _)
      refine RL.gh (Gh.keep [7,8,11,12,14,16,73,76,77,78,79,80,81,82,83,84] rfl)<|.nil ?_
      cases h
      exact ⟨by rw [if_pos hkl],rfl⟩
     replace h:=IQ hc h
     exact nomatch h
    have hmn:min (List.length x1.1+1) (Rc x1.1).length=List.length x1.1:=by rw [Il];omega
    rw [hmn,hTz24n] at hH
    subst hH
    rw [if_neg (by rw [Il];omega)]
    clear hz24 hTz240 hTz24n hTz24t
    obtain ⟨z19,z20,z21,z22,z23⟩:=z24
    dsimp only at h ⊢
    show AWM _ _ _ _ _ _
    refine .lift ?_;refine .region<|kB zj<|kA zj<|.nil ?_;refine ALM.gh (Gh.keep [4,5,6,7,8,9,11,54,55,56] rfl) ?_;refine ALM.gh2 (Gh2.cut (H0:=[HO.box [.d (.sl (RVs x1.2.1))],HO.box [.d (.i .i64 z19)],HO.box [.own 44 (Its z20)]]) [HO.box [.d (.i .i64 s9)],HO.box [.d (.b z21),.d (.sl (L z22)),.d (.sl (L z23))]] rfl rfl rfl rfl) ?_;refine ALM.gh (Gh.keep [4,5,6,7,8,9,11,54,55,56] rfl) ?_
    exact ih (k,s7,s8,(w64 (s9+1)),z19,z20) h (Nat.lt_succ_self _)
   replace h:=IQ hc h
   refine cnf (dF hc) ?_;refine .exit ?_
   show AWM _ _ _ _ _ _
   refine .lift ?_;refine .seq<|.region<|kA zj<|fz (p:=.c 2 0) ?_;refine kK (H6 (cs:=[.d (.sl (Its s11))]) (c:=.sl (Its s11)) rfl rfl Bl) ?_
   obtain ⟨x29,hx29,h⟩:=bnd h
   refine kK (VOK.tupd (vs:=[.ag [.sl (Is x29.1.shape),.sl (Its x29.1.items)],.i .i64 x29.2]) (Ag (Fd hx29) Tryz.call5))<|kK vex<|kK vex ?_
   refine stn ?_ Ad (by decide)
   refine UM ?_ Gm
   refine rn<|.gh (Gh.keep [4,5] rfl)<|.ret ?_
   cases h
   exact ⟨.inr rfl,_,_,⟨.inr rfl,Ah,Ad,(by decide:(0:Nat)<2)⟩,⟨.inr rfl,DQ⟩,rfl⟩
  replace h:=IQ hc h
  refine cnt (ntt (dF hc)) ?_;refine .seq<|.drawnF 2 [1] [(4,.nb [.sl (Is []),.sl (Its [])])] [HO.box [.d (.sl (RVs x1.2.1))],HO.box [.d (.i .i64 x3.2)]] AS (by kernel_rfl) rfl ?_;refine kV (vbd Dc AP AZ)<|kV (H6 (cs:=[.d (.i .i64 x3.2)]) (c:=.i .i64 x3.2) rfl rfl DQ)<|dz ?_
  refine ⟨?_,?_,?_⟩
  ·intro k hk
   simp only [List.mem_cons,List.not_mem_nil,or_false] at hk
   subst hk
   exact ⟨_,_,_,rfl,rfl,rfl,rfl,rfl,rfl,(H6 (cs:=[.d (.i .i64 x3.2)]) (c:=.i .i64 x3.2) rfl rfl DQ)⟩
  ·intro om e hom hge
   cases hom
   exact HE (cs:=[.sl (Is []),.sl (Its [])]) (cs':=[.sl (Is []),.sl (Its [])]) Ad (by decide) rfl ((hge 4 (fun k hk v hv=>by
     simp only [List.mem_cons,List.not_mem_nil,or_false] at hk
     subst hk;exact (by decide:¬(some 47=some 4)) (congrArg (Option.map Prod.fst) hv))).trans rfl) ((congrArg A0 (hge 46 (fun k hk v hv=>by
     simp only [List.mem_cons,List.not_mem_nil,or_false] at hk
     subst hk;exact (by decide:¬(some 47=some 46)) (congrArg (Option.map Prod.fst) hv)))).trans rfl) rfl rfl rfl rfl ⟨rfl,rfl⟩
  refine UM ?_ Gm
  refine rn<|.gh (Gh.keep [4,5,6,7,8,9,10] rfl)<|.ret ?_
  cases h
  exact ⟨.inr rfl,_,_,⟨.inr rfl,Ah,Ad,(by decide:(0:Nat)<2)⟩,⟨.inr rfl,DQ⟩,rfl⟩
 replace h:=IQ hc h
 refine cnt (ntt (dF hc)) ?_;refine .seq<|.drawnF 2 [1] [(4,.nb [.sl (Is []),.sl (Its [])])] [HO.box [.d (.sl (RVs x1.2.1))],HO.box [.d (.i .i64 x1.2.2)]] AS (by kernel_rfl) rfl ?_;refine kV (vbd Dc AP AZ)<|kV (H6 (cs:=[.d (.i .i64 x1.2.2)]) (c:=.i .i64 x1.2.2) rfl rfl DQ)<|dz ?_
 refine ⟨?_,?_,?_⟩
 ·intro k hk
  simp only [List.mem_cons,List.not_mem_nil,or_false] at hk
  subst hk
  exact ⟨_,_,_,rfl,rfl,rfl,rfl,rfl,rfl,(H6 (cs:=[.d (.i .i64 x1.2.2)]) (c:=.i .i64 x1.2.2) rfl rfl DQ)⟩
 ·intro om e hom hge
  cases hom
  exact HE (cs:=[.sl (Is []),.sl (Its [])]) (cs':=[.sl (Is []),.sl (Its [])]) Ad (by decide) rfl ((hge 4 (fun k hk v hv=>by
    simp only [List.mem_cons,List.not_mem_nil,or_false] at hk
    subst hk;exact (by decide:¬(some 32=some 4)) (congrArg (Option.map Prod.fst) hv))).trans rfl) ((congrArg A0 (hge 31 (fun k hk v hv=>by
    simp only [List.mem_cons,List.not_mem_nil,or_false] at hk
    subst hk;exact (by decide:¬(some 32=some 31)) (congrArg (Option.map Prod.fst) hv)))).trans rfl) rfl rfl rfl rfl ⟨rfl,rfl⟩
 refine UM ?_ Gm
 refine rn<|.gh (Gh.keep [2,3,4,5,6,7,8] rfl)<|.ret ?_
 cases h
 exact ⟨.inr rfl,_,_,⟨.inr rfl,Ah,Ad,(by decide:(0:Nat)<2)⟩,⟨.inr rfl,DQ⟩,rfl⟩
def HH (a0:Bool) : Option (Int):=(if a0=true then (some (1)) else (some (0)))
theorem NM {a0:Bool} {r:Int} (h:HH a0=some r) :
  Fn Tryz.prog 46 [.b a0] (.d (.i .i64 r)):=by
 unfold HH at h
 refine Fn.o1 2 4 Tryz.func46 ?_;refine .sr<|kR [0,2] zj<|.seq<|.sr<|kA zj<|rk [2,3] ?_
 rcases brc h with ⟨hc,h⟩|⟨hc,h⟩
 ·refine cnt hc ?_
  refine .sr<|kR [2] zj<|.ret ?_
  cases h
  exact ⟨rfl,rfl⟩
 refine cnf (bf hc) ?_;refine .sk ?_;refine .sr<|kR [2] zj<|.ret ?_
 cases h
 exact ⟨rfl,rfl⟩
def De (a1:DM) (x1:(List Itm)) (K0:(List Itm)→Option (Arr×Int)) : Nat→(List Itm)→Int→Option (Arr×Int)
 | 0,_,_=>none
 | k+1,s3,s4=>(if s4<((List.length x1:Nat):Int) then ((rd? x1 s4).bind fun x5=>((a1.g x5).bind fun x6=>((C6 x6).bind fun x7=>((ap? 1466015503701 s3 [x7]).bind fun x8=>(De a1 x1 K0 k x8 (w64 (s4+1))))))) else (K0 s3))
def F6 (a0:Arr) (a1:DM) : Option (Arr×Int):=((Bx a0).bind fun x1=>(jn (fun (z2:(List Itm))=>(jn (fun (z9:(List Itm))=>((Bi a0.shape z9).bind fun x12=>(some (x12.1,x12.2)))) fun K2=>(if ((List.length z2:Nat) : Int)=0 then ((C6 0).bind fun x10=>((ap? 1466015503701 z2 [x10]).bind fun x11=>(K2 x11))) else (K2 z2)))) fun K0=>(De a1 x1 K0 AH [] 0)))
theorem J7 {a0:Arr} {a1:DM} (oa1:RB a1) {r:Arr×Int} (h:F6 a0 a1=some r) :
  Fn Tryz.prog 48 [.ag [.sl (Is a0.shape),.sl (Its a0.items)],a1.dv] (.tup [.d (.ag [.sl (Is r.1.shape),.sl (Its r.1.items)]),.d (.i .i64 r.2)]):=by
 unfold F6 at h
 refine Fn.ofC (rs:=[.cell 4 25,.tmp 5]) (nt:=37) Tryz.func48 rfl rfl rfl (by simp) rfl ?_;refine .sr<|kK vbx<|kK (van (Ae AP) AZ)<|kR [1,2,4,5] zj<|.sr<|asn ?_;refine rk [1,2,4,5,6]<|.seq<|.sr<|kK (Ap Ah Ad) ?_
 obtain ⟨x1,g1,h⟩:=bnd h
 refine kK (Ag (DD g1) Tryz.call31)<|kK (AX (Ai _) (Bg _) Ba)<|kA zj<|rk [1,2,4,5,6,10,11,12] ?_
 obtain ⟨K0,hK0,h⟩:=A1 h
 refine AW.mr (σ:=(List Itm)) (fun p=>K0 p=some r) (fun p=>[(2,.d (.ptr [.sl (Is a0.shape),.sl (Its a0.items)])),(4,.nb [.sl (Is []),.sl (Its [])]),(5,.d (.i .i64 0)),(6,.own 44 (Its p))]) (fun p=>[]) ?_ ?_
 ·skip
  refine .block<|.gh (Gh.nlOwn (t:=6) 44 (by rw [Lm];decide) rfl) ?_
  refine .loop (.gk [1,2,4,5,6,10,11,12] ?_)
  refine AL.ind (σ:=Nat×(List Itm)×Int) (m:=fun p=>p.1) (e:=fun p=>[(1,.d (a1.dv)),(2,.d (.ptr [.sl (Is a0.shape),.sl (Its a0.items)])),(4,.nb [.sl (Is []),.sl (Its [])]),(5,.d (.i .i64 0)),(6,.own 44 (Its p.2.1)),(10,.d (.sl (Its x1))),(11,.d (.i .i64 ((List.length x1:Nat):Int))),(12,.d (.i .i64 p.2.2))]) (h:=fun p=>[]) (I:=fun p=>De a1 x1 K0 p.1 p.2.1 p.2.2=some r) ?_ (AH,[],0) h
  rintro ⟨k,s3,s4⟩ h ih
  dsimp only at h ih ⊢
  rcases k with _|k
  ·rw [De] at h;cases h
  rw [De] at h
  refine .sr<|kB zj<|rk [1,2,4,5,6,10,11,12,13]<|.seq ?_
  rcases brc h with ⟨hc,h⟩|⟨hc,h⟩
  ·refine cnt (dT hc) ?_
   refine .sk ?_;refine .seq<|.block<|.sr ?_
   obtain ⟨x5,g5,h⟩:=bnd h
   obtain ⟨n5,p05,q5⟩:=Aq g5
   refine kK (vix n5 p05 (BC q5) rfl Bs)<|kK (Ap AE Am)<|kK (van (Ae Cd) Cf) ?_
   refine stn ?_ Am (by decide)
   refine rk [1,2,4,5,6,8,10,11,12]<|.region<|mvo ?_;refine kA zj<|kK (Dv AE Am) ?_
   obtain ⟨x6,g6,h⟩:=bnd h
   refine vk (NP (oa1 _ _ g6)) ?_
   obtain ⟨x7,g7,h⟩:=bnd h
   refine kK (Ag (Gg g7) Tryz.call94)<|kK ((Gs (FO x7) (ER [x7]) DF).deep) ?_
   obtain ⟨x8,g8,h⟩:=bnd h
   refine WJ Ja g8 KV ?_ Hy Ai DF
   refine aso ?_;refine .nil ?_;refine aw<|.gk [1,2,4,5,6,10,11,12]<|.region<|kB zj<|kA zj<|.nil ?_;refine AL.gk [1,2,4,5,6,10,11,12] ?_
   exact ih (k,x8,(w64 (s4+1))) h (Nat.lt_succ_self _)
  refine cnf (dF hc) ?_;refine .gk [2,4,5,6]<|.exit ?_
  exact jr (s3) h
 rintro z2 h
 try dsimp only at h ⊢
 subst hK0
 refine aw<|.seq<|.sr<|mvo ?_;refine kK (Q7 (Ai _) Ba)<|kB zj<|rk [2,4,5,6,26] ?_
 obtain ⟨K2,hK2,h⟩:=A1 h
 refine AW.mr (σ:=(List Itm)) (fun p=>K2 p=some r) (fun p=>[(2,.d (.ptr [.sl (Is a0.shape),.sl (Its a0.items)])),(4,.nb [.sl (Is []),.sl (Its [])]),(5,.d (.i .i64 0)),(6,.own 44 (Its p))]) (fun p=>[]) ?_ ?_
 ·skip
  rcases brc h with ⟨hc,h⟩|⟨hc,h⟩
  ·refine cnt (dT hc) ?_
   refine .region<|mvo ?_
   obtain ⟨x10,g10,h⟩:=bnd h
   refine kK (Ag (Gg g10) Tryz.call94)<|kK ((Gs (FO x10) (ER [x10]) DF).deep) ?_
   obtain ⟨x11,g11,h⟩:=bnd h
   refine WJ Ja g11 KV ?_ Hy Ai DF
   refine aso ?_;refine RL.gk [2,4,5,6]<|.nil ?_
   exact jr (x11) h
  refine cnf (dF hc) ?_;refine .gk [2,4,5,6]<|.skip ?_
  exact jr (z2) h
 rintro z9 h
 try dsimp only at h ⊢
 subst hK2
 refine aw<|.sr<|kK (vfa A6)<|kK (Al Cy)<|fz (p:=.t 6) ?_;refine kA zj ?_
 obtain ⟨x12,g12,h⟩:=bnd h
 refine kK (VOK.tupd (vs:=[.ag [.sl (Is x12.1.shape),.sl (Its x12.1.items)],.i .i64 x12.2]) (Ag (Fd g12) Tryz.call5))<|kK vex<|kK vex ?_
 refine stn ?_ Ad (by decide)
 refine kR [4,5] zj<|.ret ?_
 cases h
 exact ⟨_,_,⟨.inr rfl,Ah,Ad,p2⟩,rfl,rfl⟩
abbrev kk (x:Itm) : ByteArray:=Ck (kyI x)
theorem SM.get_set (m:SM) (k:ByteArray) (v:Int) (k':ByteArray) : (m.set k v).get k'=if k=k' then some v else m.get k':=KD _ _ _ _
theorem SM.get_nil (k:ByteArray) : SM.nil.get k=none:=rfl
def frL : List Itm→SM→List Itm×SM
 | [],m=>([],m)
 | x::l,m=>if (m.get (kk x)).isSome=true then frL l m else (x::(frL l (m.set (kk x) (m.len:Int))).1,(frL l (m.set (kk x) (m.len:Int))).2)
theorem KM : ∀ {l:List Itm},(∀ x∈l,okI x∧BZ x)→∀ m,Np Gy l m=some (frL l m)
 | [],_,m=>rfl
 | x::l,h,m=>by
  have hx:=h x (by simp)
  have hl:∀ y∈l,okI y∧BZ y:=fun y hy=>h y (by simp [hy])
  rw [Np]
  unfold Gy IV
  rw [PI hx.1 hx.2,oB,Option.map_some,oB]
  by_cases hc:(m.get (kk x)).isSome=true
  ·rw [if_pos hc]
   dsimp only
   have e:=KM hl m
   unfold Gy IV at e
   rw [e,oB,frL,if_pos hc]
   simp
  ·rw [if_neg hc]
   dsimp only
   have e:=KM hl (m.set (kk x) (m.len:Int))
   unfold Gy IV at e
   rw [e,oB,frL,if_neg hc]
   simp
theorem WO {l:List Itm} (h:∀ x∈l,okI x∧BZ x) (hl:l.length≤4096) (m:SM) : G6 m l=some (frL l m):=by
 unfold G6
 rw [if_pos (by omega),KM h]
theorem IS : ∀ (l:List Itm) (m:SM) (k:ByteArray),((frL l m).2.get k).isSome=true↔(m.get k).isSome=true∨∃ x∈l,kk x=k
 | [],m,k=>by simp [frL]
 | x::l,m,k=>by
  rw [frL]
  split
  ·rename_i hc
   rw [IS l m k]
   constructor
   ·rintro (h|⟨y,hy,rfl⟩)
    ·exact .inl h
    ·exact .inr ⟨y,by simp [hy],rfl⟩
   ·rintro (h|⟨y,hy,rfl⟩)
    ·exact .inl h
    ·rcases List.mem_cons.1 hy with rfl|hy
     ·exact .inl hc
     ·exact .inr ⟨y,hy,rfl⟩
  ·dsimp only
   rw [IS l _ k,SM.get_set]
   by_cases hk:kk x=k
   ·rw [if_pos hk]
    simp [hk]
   ·rw [if_neg hk]
    constructor
    ·rintro (h|⟨y,hy,rfl⟩)
     ·exact .inl h
     ·exact .inr ⟨y,by simp [hy],rfl⟩
    ·rintro (h|⟨y,hy,rfl⟩)
     ·exact .inl h
     ·rcases List.mem_cons.1 hy with rfl|hy
      ·exact absurd rfl hk
      ·exact .inr ⟨y,hy,rfl⟩
theorem ZV {m:SM} {x:Itm} (ox:okI x) (rx:BZ x) : J1 m x=some (m.get (kk x)).isSome:=by
 unfold J1
 rw [PI ox rx];rfl
theorem KC {l:List Itm} (v:VR l) : Bx (vec l)=some l:=by
 rw [Na v.ok,v.sz,if_neg]
 ·rfl
 ·rintro (h|h)
  ·have:=v.pos
   have h':((l.length:Nat):Int)=0:=h
   omega
  ·exact h v.2.2.2
theorem Uw {l:List Int} (h:∀ z∈l,EJ z) (h0:l≠[]) (hl:l.length≤4096) : Bi [(l.length:Int)] (l.map Cj)=some (Z5 l,0):=by
 have e:∀ l:List Int,dIs (l.map Cj)=0∧cIs (l.map Cj)=0:=fun l=>by
  induction l with
  | nil=>exact ⟨rfl,rfl⟩
  | cons z l ih=>exact ⟨by rw [List.map_cons,dIs,ih.1];rfl,by rw [List.map_cons,cIs,ih.2];rfl⟩
 have v:VR (l.map Cj):=VR.of (by simpa using h0) (by simpa using hl) (fun x hx=>⟨Aan h x hx,(Aaa h x hx).1⟩) (by rw [(e l).1];omega) (by rw [(e l).2,List.length_map];omega)
 have:=v.make
 rw [List.length_map] at this
 rw [this,Qy h0 hl]
theorem U0 {z:Int} (h:EJ z) : C6 z=some (Cj z):=by
 unfold C6
 rw [PH h.1 (by have:=h.2;omega)];rfl
theorem NW {w:DM} {l:List Itm} {f:Itm→Int} (hf:∀ x∈l,w.g x=some (f x)∧EJ (f x)) (hl:l.length≤4096) (K:List Itm→Option (Arr×Int)) : ∀ (n i k:Nat),n=l.length-i→i≤l.length→n<k →
  De w l K k ((l.take i).map fun x=>Cj (f x)) (i:Int)=K (l.map fun x=>Cj (f x))
 | n,i,0,_,_,h=>by omega
 | n,i,k+1,hn,hi,hk=>by
  rw [De]
  by_cases hlt:i<l.length
  ·have hx:=hf _ (List.getElem_mem hlt)
   rw [if_pos (by omega),Ci hlt,oB,hx.1,oB,U0 hx.2,oB,Lv (by simp;omega),oB,Cz (by omega)]
   have e:((l.take i).map fun x=>Cj (f x))++[Cj (f l[i])]=(l.take (i+1)).map fun x=>Cj (f x):=by
    rw [List.take_add_one,lG hlt,List.map_append];rfl
   rw [e]
   exact NW hf hl K (n-1) (i+1) k (by omega) (by omega) (by omega)
  ·rw [if_neg (by omega),List.take_of_length_le (by omega)]
theorem SU {w:DM} {l:List Itm} {f:Itm→Int} (v:VR l) (hf:∀ x∈l,w.g x=some (f x)∧EJ (f x)) : F6 (vec l) w=some (vec ((l.map f).map Cj),0):=by
 have h2:=v.2.1
 have hp:=v.pos
 unfold F6
 rw [KC v,oB,DA]
 have e:=NW hf h2 (fun (z2:(List Itm))=>(jn (fun (z9:(List Itm))=>((Bi (vec l).shape z9).bind fun x12=>(some (x12.1,x12.2)))) fun K2=>(if ((List.length z2:Nat):Int)=0 then ((C6 0).bind fun x10=>((ap? 1466015503701 z2 [x10]).bind fun x11=>(K2 x11))) else (K2 z2)))) l.length 0 AH rfl (Nat.zero_le _) (CE (by omega))
 rw [List.take_zero,List.map_nil] at e
 refine e.trans ?_
 rw [DA,if_neg (by rw [List.length_map];omega)]
 have hne:l.map f≠[]:=fun h=>by simp at h;exact v.1 h
 have hm:=Uw (l:=l.map f) (fun z hz=>by obtain ⟨x,hx,rfl⟩:=List.mem_map.1 hz;exact (hf x hx).2) hne (by simpa using h2)
 rw [List.length_map] at hm
 rw [Qy hne (by simpa using h2)] at hm
 rw [show (l.map fun x=>Cj (f x))=(l.map f).map Cj by simp,show (vec l).shape=[(l.length:Int)] from rfl]
 dsimp only
 rw [hm]
 rfl
theorem St {s:Nat} : ∀ {a b r r':List Nat},(∀ x∈a,x≠s)→(∀ x∈b,x≠s)→a++s::r=b++s::r'→a=b∧r=r'
 | [],[],r,r',_,_,h=>by
  simp only [List.nil_append,List.cons.injEq,true_and] at h;exact ⟨rfl,h⟩
 | [],y::b,r,r',_,hb,h=>by
  simp only [List.nil_append,List.cons_append,List.cons.injEq] at h
  exact absurd h.1.symm (hb y (by simp))
 | x::a,[],r,r',ha,_,h=>by
  simp only [List.nil_append,List.cons_append,List.cons.injEq] at h
  exact absurd h.1 (ha x (by simp))
 | x::a,y::b,r,r',ha,hb,h=>by
  simp only [List.cons_append,List.cons.injEq] at h
  obtain ⟨rfl,h⟩:=h
  obtain ⟨e1,e2⟩:=St (fun z hz=>ha z (by simp [hz])) (fun z hz=>hb z (by simp [hz])) h
  exact ⟨by rw [e1],e2⟩
theorem OU (n:Nat) : ∀ x∈DU n,48≤x∧x≤57:=by
 unfold DU
 split
 ·simp
 ·intro x hx
  exact MU n x (by simpa using hx)
theorem SZ {m n:Nat} (h:DU m=DU n) : m=n:=by
 have h1:=Tf m
 rw [h,Tf n] at h1
 exact (oI h1).symm
theorem Qs : ∀ {a b X Y:List Nat},(∀ x∈a,x≠114)→(∀ x∈b,x≠114)→(X=[]∨∃ u,X=114::u)→(Y=[]∨∃ u,Y=114::u)→a++X=b++Y→a=b∧X=Y
 | [],[],X,Y,_,_,_,_,h=>⟨rfl,h⟩
 | [],y::b,X,Y,_,hb,hX,_,h=>by
  rcases hX with rfl|⟨u,rfl⟩
  ·cases h
  ·simp only [List.nil_append,List.cons_append,List.cons.injEq] at h
   exact absurd h.1.symm (hb y (by simp))
 | x::a,[],X,Y,ha,_,_,hY,h=>by
  rcases hY with rfl|⟨u,rfl⟩
  ·cases h
  ·simp only [List.nil_append,List.cons_append,List.cons.injEq] at h
   exact absurd h.1 (ha x (by simp))
 | x::a,y::b,X,Y,ha,hb,hX,hY,h=>by
  simp only [List.cons_append,List.cons.injEq] at h
  obtain ⟨rfl,h⟩:=h
  obtain ⟨e1,e2⟩:=Qs (fun z hz=>ha z (by simp [hz])) (fun z hz=>hb z (by simp [hz])) hX hY h
  exact ⟨by rw [e1],e2⟩
theorem GB {p:Rat} : ∀ x∈Jd p,x=194∨x=175∨x=114∨(48≤x∧x≤57):=by
 intro x hx
 unfold Jd at hx
 simp only [List.mem_append] at hx
 rcases hx with hx|hx|hx
 ·split at hx
  ·simp at hx;omega
  ·cases hx
 ·exact .inr (.inr (.inr (OU _ x hx)))
 ·split at hx
  ·cases hx
  ·rcases List.mem_cons.1 hx with rfl|hx
   ·omega
   ·exact .inr (.inr (.inr (OU _ x hx)))
theorem Jb (p:Rat) : ∃ t u,Jd p=t::u:=by
 unfold Jd
 split
 ·exact ⟨_,_,rfl⟩
 ·cases h:DU p.num.natAbs with
  | nil=>exact absurd h (ST _)
  | cons t u=>exact ⟨_,_,rfl⟩
theorem Qj {p q:Rat} (h:Jd p=Jd q) : p=q:=by
 have dg:∀ n,∀ x∈DU n,x≠114:=fun n x hx=>by have:=OU n x hx;omega
 have tl:∀ r:Rat,(if r.den=1 then ([]:List Nat) else 114::DU r.den)=[]∨∃ u,(if r.den=1 then ([]:List Nat) else 114::DU r.den)=114::u:=fun r=>by
  split
  ·exact .inl rfl
  ·exact .inr ⟨_,rfl⟩
 have key:DU p.num.natAbs++(if p.den=1 then ([]:List Nat) else 114::DU p.den)=DU q.num.natAbs++(if q.den=1 then [] else 114::DU q.den)→p.num.natAbs=q.num.natAbs∧p.den=q.den:=fun e=>by
  obtain ⟨e1,e2⟩:=Qs (dg _) (dg _) (tl p) (tl q) e
  refine ⟨SZ e1,?_⟩
  split at e2<;>split at e2
  ·omega
  ·cases e2
  ·cases e2
  ·simp only [List.cons.injEq,true_and] at e2
   exact SZ e2
 have hd:∀ (n:Nat) (X u:List Nat),DU n++X=194::u→False:=fun n X u e=>by
  cases hh:DU n with
  | nil=>exact ST _ hh
  | cons t v =>
   rw [hh] at e
   simp only [List.cons_append,List.cons.injEq] at e
   have:=OU n t (by rw [hh];simp)
   omega
 unfold Jd at h
 by_cases hp:p.num<0<;>by_cases hq:q.num<0
 ·rw [if_pos hp,if_pos hq] at h
  simp only [List.cons_append,List.nil_append,List.cons.injEq,true_and] at h
  obtain ⟨e1,e2⟩:=key h
  exact Rat.ext (by omega) e2
 ·rw [if_pos hp,if_neg hq] at h
  exact absurd h.symm fun e=>hd _ _ _ e
 ·rw [if_neg hp,if_pos hq] at h
  exact absurd h fun e=>hd _ _ _ e
 ·rw [if_neg hp,if_neg hq] at h
  obtain ⟨e1,e2⟩:=key h
  exact Rat.ext (by omega) e2
def Se (c:Nat) : List Nat:=if c<128 then [c] else if c<2048 then [192+c / 64,128+c % 64] else if c<65536 then [224+c / 4096,128+c / 64 % 64,128+c % 64] else [240+c / 262144,128+c / 4096 % 64,128+c / 64 % 64,128+c % 64]
theorem u8k {n:Nat} (h:n<256) : (UInt8.ofNat n).toNat=n:=by rw [UInt8.toNat_ofNat',Nat.mod_eq_of_lt h]
theorem LO {c:Int} (h:chB c=true) : AT (Utf8.encode c)=Se c.toNat∧(c.toNat:Int)=c∧c.toNat≤1114111:=by
 simp only [chB,Bool.and_eq_true,Bool.or_eq_true,decide_eq_true_eq] at h
 have hv:Utf8.valid c=true:=by simp [Utf8.valid];omega
 have hc:c.toNat≤1114111:=by omega
 refine ⟨?_,by omega,hc⟩
 generalize hn:c.toNat=n at hc
 unfold Utf8.encode
 rw [if_pos hv,hn]
 unfold Se
 simp only
 split
 ·simp only [AT,List.map_cons,List.map_nil];rw [u8k (by omega)]
 ·split
  ·simp only [AT,List.map_cons,List.map_nil];rw [u8k (by omega),u8k (by omega)]
  ·split
   ·simp only [AT,List.map_cons,List.map_nil];rw [u8k (by omega),u8k (by omega),u8k (by omega)]
   ·simp only [AT,List.map_cons,List.map_nil];rw [u8k (by omega),u8k (by omega),u8k (by omega),u8k (by omega)]
theorem Xj {c:Nat} (h:c≤1114111) : ∀ x∈Se c,x<256:=by
 intro x hx
 unfold Se at hx
 split at hx
 ·simp at hx;omega
 ·split at hx
  ·simp at hx;omega
  ·split at hx<;>(simp at hx;omega)
theorem VE {c d:Nat} {r r':List Nat} (hc:c≤1114111) (hd:d≤1114111) (h:Se c++r=Se d++r') : c=d∧r=r':=by
 unfold Se at h
 split at h<;>split at h<;>(try split at h)<;>(try split at h)<;>(try split at h)<;>(try split at h)<;>simp only [List.cons_append,List.nil_append,List.cons.injEq] at h
 all_goals first
  | omega
  | (refine ⟨by omega,?_⟩;simp only [h])
theorem Et {n:RT} (h:BM n=true) : ∃ p,n=ofQ p∧txN n=Jd p:=by
 obtain ⟨p,fp,ep⟩:=IY.1 h
 exact ⟨p,ep,by rw [ep,LN fp]⟩
theorem QV {x:Itm} (h:rI x=true) : ∃ t u,kyI x=t::u∧t≠41:=by
 rw [JM]
 rcases D5 h with ⟨kx,qx,_,_⟩|⟨kx,cx,_,_⟩|⟨kx,_,_,a,hb,hs,ha⟩
 ·obtain ⟨p,_,e⟩:=Et qx
  obtain ⟨t,u,e2⟩:=Jb p
  rw [if_pos kx,e,e2]
  have:=GB (p:=p) t (by rw [e2];simp)
  exact ⟨_,_,rfl,by omega⟩
 ·rw [if_neg (by omega),if_pos kx];exact ⟨_,_,rfl,by decide⟩
 ·rw [if_neg (by omega),if_neg (by omega),hb,kyB,F8];exact ⟨40,_,rfl,by decide⟩
theorem TH : ∀ {s s':List Int} {r r':List Nat},(∀ z∈s,EJ z)→(∀ z∈s',EJ z)→txS s++58::r=txS s'++58::r'→s=s'∧r=r'
 | [],[],r,r',_,_,h=>by
  simp only [txS,List.nil_append,List.cons.injEq,true_and] at h;exact ⟨rfl,h⟩
 | [],z::s,r,r',_,hs,h=>by
  obtain ⟨t,u,e⟩:=Jb (z:Rat)
  simp only [txS] at h
  rw [LN (C2 (hs z (by simp))),e] at h
  simp only [List.nil_append,List.cons_append,List.cons.injEq] at h
  have:=GB (p:=(z:Rat)) t (by rw [e];simp)
  omega
 | z::s,[],r,r',hs,_,h=>by
  obtain ⟨t,u,e⟩:=Jb (z:Rat)
  simp only [txS] at h
  rw [LN (C2 (hs z (by simp))),e] at h
  simp only [List.nil_append,List.cons_append,List.cons.injEq] at h
  have:=GB (p:=(z:Rat)) t (by rw [e];simp)
  omega
 | z::s,y::s',r,r',hs,hs',h=>by
  rw [txS,txS,LN (C2 (hs z (by simp))),LN (C2 (hs' y (by simp)))] at h
  simp only [List.append_assoc,List.cons_append,List.nil_append] at h
  obtain ⟨e1,e2⟩:=St (fun x hx=>by have:=GB x hx;omega) (fun x hx=>by have:=GB x hx;omega) h
  obtain ⟨rfl,e3⟩:=TH (fun w hw=>hs w (by simp [hw])) (fun w hw=>hs' w (by simp [hw])) e2
  have:=Qj e1
  have:z=y:=by simpa using this
  exact ⟨by rw [this],e3⟩
theorem Wb : ∀ (k:Nat) {x y:Itm} {r r':List Nat},x.size<k→rI x=true→rI y=true→kyI x++r=kyI y++r'→x=y∧r=r'
 | 0,x,_,_,_,h,_,_,_=>by omega
 | k+1,x,y,r,r',hk,hx,hy,h=>by
  rw [JM,JM] at h
  have n1:∀ {p:Rat} {u v w:List Nat} {t:Nat},(t=39∨t=40)→Jd p++u++v=t::w→False:=fun {p u v w t} ht e=>by
   obtain ⟨t',u',e2⟩:=Jb p
   have:=GB (p:=p) t' (by rw [e2];simp)
   rw [e2] at e
   simp only [List.cons_append,List.cons.injEq] at e
   omega
  rcases D5 hx with ⟨kx,qx,cx,bx⟩|⟨kx,cx,nx,bx⟩|⟨kx,nx,cx,a,bx,_,ax⟩<;>rcases D5 hy with ⟨ky,qy,cy,by'⟩|⟨ky,cy,ny,by'⟩|⟨ky,ny,cy,b,by',_,ay⟩
  ·obtain ⟨p,e1,e2⟩:=Et qx
   obtain ⟨q,e3,e4⟩:=Et qy
   rw [if_pos kx,if_pos ky,e2,e4] at h
   simp only [List.append_assoc,List.cons_append,List.nil_append] at h
   obtain ⟨f1,f2⟩:=St (fun z hz=>by have:=GB z hz;omega) (fun z hz=>by have:=GB z hz;omega) h
   have f3:=Qj f1
   refine ⟨?_,f2⟩
   obtain ⟨_,_,_,_⟩:=x;obtain ⟨_,_,_,_⟩:=y
   simp only [Itm.kind,Itm.num,Itm.char,Itm.box] at *
   rw [kx,ky,e1,e3,f3,cx,cy,bx,by']
  ·obtain ⟨p,e1,e2⟩:=Et qx
   rw [if_pos kx,if_neg (by omega),if_pos ky,e2] at h
   exact (n1 (.inl rfl) h).elim
  ·obtain ⟨p,e1,e2⟩:=Et qx
   rw [if_pos kx,if_neg (by omega),if_neg (by omega),e2,by',kyB,F8] at h
   exact (n1 (.inr rfl) h).elim
  ·obtain ⟨p,e1,e2⟩:=Et qy
   rw [if_pos ky,if_neg (by omega),if_pos kx,e2] at h
   exact (n1 (.inl rfl) h.symm).elim
  ·rw [if_neg (by omega),if_pos kx,if_neg (by omega),if_pos ky,(LO cx).1,(LO cy).1] at h
   simp only [List.cons_append,List.cons.injEq,true_and] at h
   obtain ⟨e1,e2⟩:=VE (LO cx).2.2 (LO cy).2.2 h
   have e3:x.char=y.char:=by rw [← (LO cx).2.1,← (LO cy).2.1,e1]
   refine ⟨?_,e2⟩
   obtain ⟨_,_,_,_⟩:=x;obtain ⟨_,_,_,_⟩:=y
   simp only [Itm.kind,Itm.num,Itm.char,Itm.box] at *
   rw [kx,ky,nx,ny,e3,bx,by']
  ·rw [if_neg (by omega),if_pos kx,if_neg (by omega),if_neg (by omega),by',kyB,F8] at h
   simp only [List.cons_append,List.cons.injEq] at h
   exact absurd h.1 (by decide)
  ·obtain ⟨p,e1,e2⟩:=Et qy
   rw [if_pos ky,if_neg (by omega),if_neg (by omega),e2,bx,kyB,F8] at h
   exact (n1 (.inr rfl) h.symm).elim
  ·rw [if_neg (by omega),if_neg (by omega),if_neg (by omega),if_pos ky,bx,kyB,F8] at h
   simp only [List.cons_append,List.cons.injEq] at h
   exact absurd h.1 (by decide)
  ·rw [if_neg (by omega),if_neg (by omega),if_neg (by omega),if_neg (by omega),bx,by',kyB,kyB,F8,F8] at h
   simp only [List.append_assoc,List.cons_append,List.nil_append,List.cons.injEq,true_and] at h
   obtain ⟨p1,p2⟩:=IA ax
   obtain ⟨q1,q2⟩:=IA ay
   obtain ⟨e1,e2⟩:=TH (Ih p1).1 (Ih q1).1 h
   have items:∀ (l m:List Itm) {r r':List Nat},(∀ z∈l,z∈a.items)→(∀ z∈m,rI z=true)→kyIs l++41::r=kyIs m++41::r'→l=m∧r=r':=by
    intro l
    induction l with
    | nil =>
     intro m r r' _ hm e
     cases m with
     | nil=>simp only [kyIs,List.nil_append,List.cons.injEq,true_and] at e;exact ⟨rfl,e⟩
     | cons z m =>
      obtain ⟨t,u,e3,e4⟩:=QV (hm z (by simp))
      rw [kyIs,kyIs,e3] at e
      simp only [List.nil_append,List.cons_append,List.cons.injEq] at e
      exact absurd e.1.symm e4
    | cons w l ih =>
     intro m r r' hl hm e
     cases m with
     | nil =>
      obtain ⟨t,u,e3,e4⟩:=QV (p2 w (hl w (by simp)))
      rw [kyIs,kyIs,e3] at e
      simp only [List.nil_append,List.cons_append,List.cons.injEq] at e
      exact absurd e.1 e4
     | cons z m =>
      have s1:=FI (hl w (by simp))
      have s2:=EO (x:=x) (a:=a) (by rw [bx];simp)
      rw [kyIs,kyIs,List.append_assoc,List.append_assoc] at e
      obtain ⟨rfl,e5⟩:=Wb k (by omega) (p2 w (hl w (by simp))) (hm z (by simp)) e
      obtain ⟨rfl,e6⟩:=ih m (fun z hz=>hl z (by simp [hz])) (fun z hz=>hm z (by simp [hz])) e5
      exact ⟨rfl,e6⟩
   obtain ⟨e3,e4⟩:=items a.items b.items (fun _ h=>h) q2 e2
   refine ⟨?_,e4⟩
   have e5:a=b:=by
    obtain ⟨_,_⟩:=a;obtain ⟨_,_⟩:=b
    simp only [Arr.shape,Arr.items] at *
    rw [e1,e3]
   obtain ⟨_,_,_,_⟩:=x;obtain ⟨_,_,_,_⟩:=y
   simp only [Itm.kind,Itm.num,Itm.char,Itm.box] at *
   rw [kx,ky,nx,ny,cx,cy,bx,by',e5]
theorem U9 : ∀ {s:List Int},(∀ z∈s,EJ z)→∀ x∈txS s,x<256
 | [],_,x,hx=>by cases hx
 | z::s,h,x,hx=>by
  rw [txS,LN (C2 (h z (by simp)))] at hx
  simp only [List.mem_append,List.mem_singleton] at hx
  rcases hx with (hx|rfl)|hx
  ·exact Pq x hx
  ·decide
  ·exact U9 (fun w hw=>h w (by simp [hw])) x hx
theorem SE : ∀ (k:Nat) {x:Itm},x.size<k→rI x=true→∀ t∈kyI x,t<256
 | 0,x,h,_,_,_=>by omega
 | k+1,x,h,hr,t,ht=>by
  rw [JM] at ht
  rcases D5 hr with ⟨kx,qx,_,_⟩|⟨kx,cx,_,_⟩|⟨kx,_,_,a,hb,hs,ha⟩
  ·obtain ⟨p,e,e2⟩:=Et qx
   rw [if_pos kx,e2] at ht
   rcases List.mem_append.1 ht with ht|ht
   ·exact Pq t ht
   ·simp at ht;omega
  ·rw [if_neg (by omega),if_pos kx,(LO cx).1] at ht
   rcases List.mem_cons.1 ht with rfl|ht
   ·decide
   ·exact Xj (LO cx).2.2 t ht
  ·rw [if_neg (by omega),if_neg (by omega),hb,kyB,F8] at ht
   obtain ⟨h1,h2⟩:=IA ha
   have items:∀ (l:List Itm),(∀ y∈l,y∈a.items)→∀ t∈kyIs l,t<256:=by
    intro l
    induction l with
    | nil=>intro _ t ht;simp [kyIs] at ht
    | cons y l ih =>
     intro hl t ht
     have hy:=hl y (by simp)
     have s1:=FI hy
     have s2:=EO (x:=x) (a:=a) (by rw [hb];simp)
     rw [kyIs] at ht
     rcases List.mem_append.1 ht with ht|ht
     ·exact SE k (by omega) (h2 y hy) t ht
     ·exact ih (fun z hz=>hl z (by simp [hz])) t ht
   simp only [List.mem_append,List.mem_singleton] at ht
   rcases ht with (((rfl|ht)|rfl)|ht)|rfl
   ·decide
   ·exact U9 (Ih h1).1 t ht
   ·decide
   ·exact items _ (fun _ h=>h) t ht
   ·decide
theorem Y4 {x y:Itm} (hx:rI x=true) (hy:rI y=true) (h:Ck (kyI x)=Ck (kyI y)) : x=y:=by
 have e:kyI x=kyI y:=by
  have:=congrArg AT h
  rwa [Lh (SE _ (Nat.lt_succ_self _) hx),Lh (SE _ (Nat.lt_succ_self _) hy)] at this
 exact (Wb (r:=[]) (r':=[]) _ (Nat.lt_succ_self _) hx hy (by rw [e])).1
def Rs (xs:List Itm) : List (List DV):=(List.range xs.length).map fun k=>match xs[xs.length-1-k]? with
 | some x=>[.i .i64 ((xs.length-1-k:Nat):Int),R6 x]
 | none=>[]
theorem O7 {xs:List Itm} {k:Nat} {x:Itm} (hk:k<xs.length) (h:xs[xs.length-1-k]?=some x) : (Rs xs)[k]?=some [.i .i64 ((xs.length-1-k:Nat) : Int),R6 x]:=by simp [Rs,hk,h]
theorem Ix (xs:List Itm) : (Rs xs).length=xs.length:=by simp [Rs]
theorem WH (xs:List Itm) : ∀ ds∈Rs xs,ds.length=2:=fun ds hd=>by
 obtain ⟨k,hk⟩:=List.getElem?_of_mem hd
 have hkl:k<xs.length:=by rw [← Ix];exact (lS.1 hk).1
 rw [O7 hkl (lG (by omega))] at hk
 cases hk;rfl
theorem ZH (xs:List DV) : Fn Tryz.prog 101 [.sl xs] (.d (.fn 153 [] [.ptr [.sl xs]])):=by
 refine Fn.of (rs:=[.tmp 2]) (nt:=4) Tryz.func101 rfl rfl rfl (by simp) rfl ?_;refine .seq<|.region<|bxd ?_;refine kD zj<|rn<|.seq<|.region<|mkf ?_;refine kD zj<|rn<|.ret ?_
 exact ⟨rfl,rfl⟩
set_option maxRecDepth 10000 in
theorem ZF {xs:List Itm} (hl:xs.length≤9223372036854775806) {m:Nat} (hm:xs.length≤m) : ItG Tryz.prog 153 [.ptr [.sl (Its xs)]] (Rs xs) m:=by
 have hyl:=Ix xs
 refine ItG.of Tryz.func153 rfl rfl (nt:=19) rfl (by simp) fun lp J hJ hR=>?_;refine .seq<|.lift ?_;refine .region<|kK (Al Bl)<|kK (AX (Ai _) (Bg _) Ba)<|kK (vbi)<|kD zj<|.nil ?_
 show AWJ _ _ _ _ _ _ _ _ _
 refine .block<|ALJ.loop ?_;refine ALJ.gh (Gh.keep [0,1,3] rfl) ?_
 rw [show DV.i .i64 (IntKind.wrap .i64 (((List.length xs:Nat):Int)-1))=.i .i64 (((List.length xs:Nat):Int)-1-((0:Nat):Int)) from by
  congr 1;simp only [IntKind.wrap,IntKind.bits,IntKind.signed];simp;omega]
 refine ALJ.ind (σ:=Nat) (m:=fun i=>xs.length-i) (e:=fun i=>[(0,.d (.yl lp)),(1,.d (.ptr [.sl (Its xs)])),(3,.d (.i .i64 (((List.length xs:Nat):Int)-1-((i:Nat):Int))))]) (h:=fun _=>[]) (r:=fun i=>i) (I:=fun i=>i≤xs.length) ?_ 0 (Nat.zero_le _)
 rintro i hi ih
 refine .seq<|.seq<|.lift ?_;refine .region<|kK (Ac)<|kK (vbi)<|.nil ?_
 show AWJ _ _ _ _ _ _ _ _ _
 by_cases hc:(0:Int)≤((List.length xs:Nat):Int)-1-((i:Nat):Int)
 ·refine .cond (x:=true) (by show AV.d (.b (decide _))=_;rw [dT hc]) (fun _=>?_) (fun h=>by cases h)
  have hlt:i<xs.length:=by omega
  have hj:xs.length-1-i<xs.length:=by omega
  have hij:((List.length xs:Nat):Int)-1-((i:Nat):Int)=((xs.length-1-i:Nat):Int):=by omega
  have hxi:=lG hj
  generalize xs[xs.length-1-i]=x at hxi
  refine .skip ?_
  show AWJ _ _ _ _ _ _ _ _ _
  refine .seq<|.block<|.seq<|.region<|vkJ (Ac) ?_;refine vkJ (Ac) ?_;refine vkJ (Al Bl) ?_;refine vkJ (Ac) ?_;refine vkJ (vix (xs.length-1-i) hij (BC hxi) rfl Bs) ?_;refine vkJ (Ap AE Am) ?_
  refine yld (hR i [.i .i64 ((xs.length-1-i:Nat):Int),R6 x] (O7 hlt hxi) (by omega)) hJ ?_ (ha:=by show some _=some _;rw [hij];rfl)
  refine vkJ (vnt) ?_;refine .nil ?_
  show AWJ _ _ _ _ _ _ _ _ _
  refine .cond (x:=false) (by show AV.d (.b (!decide _))=_;rw [dT (by omega:i<m)];rfl) (fun h=>by cases h) (fun _=>?_)
  refine .skip ?_
  show AWJ _ _ _ _ _ _ _ _ _
  refine .lift ?_;refine .region<|kK (Ac)<|kK (vbi)<|kD zj<|.nil ?_
  show ALJ _ _ _ _ _ _ _ _ _
  have hw:IntKind.wrap .i64 (((List.length xs:Nat):Int)-1-((i:Nat):Int)-1)=((List.length xs:Nat):Int)-1-((i+1:Nat):Int):=by simp only [IntKind.wrap,IntKind.bits,IntKind.signed];simp;omega
  rw [hw]
  refine ALJ.gh (Gh.keep [0,1,3] rfl) ?_
  exact ih (i+1) hlt (by omega)
 ·refine .cond (x:=false) (by show AV.d (.b (decide _))=_;rw [dF hc]) (fun h=>by cases h) (fun _=>?_)
  refine .exit ?_
  exact ⟨.inl rfl,by rw [hyl];omega⟩
theorem Ys : Tryz.prog.underlying 70=some (.map 9 3):=by kernel_rfl
theorem To : BH Tryz.prog 71=some false:=by kernel_rfl
theorem Yq : BH Tryz.prog 70=some false:=by kernel_rfl
theorem Xq : Av Tryz.prog 71=1:=by kernel_rfl
theorem Aak : Av Tryz.prog 70=1:=by kernel_rfl
theorem Ym : (Tryz.prog.info? 71).bind (·.zero)=some (.map none):=by kernel_rfl
theorem Aah : (Tryz.prog.info? 70).bind (·.zero)=some (.map none):=by kernel_rfl
theorem gZU (w:World) (I:Nat→Prop) (μ:List Nat) : ARepAll Tryz.prog w I μ [.un] (Value.cells (.map none)).toList []:=.cons (b1:=[]) (b2:=[]) (.un _) .nil
def D3 (x:Itm) (m:SM) : Option Int:=(J1 m x).bind fun b=>(HH b).bind fun n=>some n
theorem KR {x:Itm} {m:SM} {r:Int} (h:D3 x m=some r) : Fn Tryz.prog 49 [dvI x,.ptr [m.mp]] (.d (.i .i64 r)):=by
 unfold D3 at h
 obtain ⟨b,hb,h⟩:=bnd h
 obtain ⟨n,hn,h⟩:=bnd h
 refine Fn.of (rs:=[.tmp 3]) (nt:=8) Tryz.func49 rfl rfl rfl (by simp) rfl ?_;refine .seq<|.region<|kK (vbx)<|kD zj<|rn<|.seq<|.region<|kK (Al To)<|kK (Ap AE Am)<|kK (Ag (Zn hb) Tryz.call50)<|kK (Ag (NM hn) Tryz.call46)<|kD zj<|rn<|.ret ?_
 cases h
 exact ⟨rfl,rfl⟩
def DN (x:Itm) (m:SM) (e:Int×RT×Int) (l:List Itm) : Option Int:=(KZ x).bind fun k=>some (if (m.get k).isSome=true then w64 ((m.get k).getD 0+e.1) else w64 (((List.length l:Nat) : Int)+e.1))
theorem Kk {x:Itm} {m:SM} {e:Int×RT×Int} {l:List Itm} {r:Int} (h:DN x m e l=some r) :
  Fn Tryz.prog 103 [dvI x,.ptr [m.mp],.ptr [.i .i64 e.1,.b e.2.1.1,.sl (L e.2.1.2.1),.sl (L e.2.1.2.2),.i .i64 e.2.2],.ptr [.sl (Its l)]] (.d (.i .i64 r)):=by
 unfold DN at h
 obtain ⟨ky,hk,h⟩:=bnd h
 simp only [Option.some.injEq] at h
 refine Fn.of (rs:=[.tmp 5]) (nt:=25) Tryz.func103 rfl rfl rfl (by simp) rfl ?_;refine .seq<|.region<|kK (vbx)<|kD zj<|rn<|.gh (Gh.keep [1,2,3,4,5] rfl)<|.seq<|.seq<|.drawn 8 AS (by kernel_rfl) ?_;refine kV (Al Yq)<|kV (Ap AE Am)<|kV (Ag (IZ hk) Tryz.call102)<|kV (Aac (x:=.tmp 9) m Ys JW Pe)<|kV (Ac)<|kV (vex)<|kV (vex)<|kV (WY)<|dz ?_;refine kD zj<|rn<|.gh (Gh.keep [2,3,5,6,7] rfl)<|.seq<|.region<|kK (Ac)<|rn ?_
 by_cases hc:(m.get ky).isSome=true
 ·rw [if_pos hc] at h
  subst h
  refine cnt hc ?_;refine .seq<|.region<|kK (Ac)<|kK (vfa Hp)<|kK (Al Bh)<|kK (vbi)<|kD zj<|rn<|.ret ?_
  exact ⟨rfl,rfl⟩
 rw [if_neg hc] at h
 subst h
 refine cnf (bf hc) ?_;refine .skip<|aw<|.seq<|.region<|kK (Al Bl)<|kK (AX (Ai _) (Bg _) Ba)<|kK (vfa Hp)<|kK (Al Bh)<|kK (vbi)<|kD zj<|rn<|.ret ?_
 exact ⟨rfl,rfl⟩
theorem Yo (w:World) (I:Nat→Prop) : RepAll w I [.sl []] (Value.cells (.slice none 0 0)).toList:=.cons (.sl0 _ _) .nil
def Mr (i:Int) (x:Itm) (m:SM) : Option SM:=(KZ x).bind fun k=>some (m.set k i)
def ED (e:Int×RT×Int) (a b:Arr) : Option (Arr×Int) :=
 if ((List.length a.shape:Nat):Int)=1 then (Bx a).bind fun l=>(Gk (((List.length l:Nat):Int)≤1000000)).bind fun _=>(Ns Mr l (List.length l) SM.nil).bind fun m =>
  (F6 b ⟨.fn 103 [] [.ptr [m.mp],.ptr [.i .i64 e.1,.b e.2.1.1,.sl (L e.2.1.2.1),.sl (L e.2.1.2.2),.i .i64 e.2.2],.ptr [.sl (Its l)]],fun x=>DN x m e l⟩).bind fun z=>some (z.1,z.2)
 else none
set_option maxHeartbeats 4000000 in
theorem LV {e:Int×RT×Int} {a b:Arr} {r:Arr×Int} (h:ED e a b=some r) :
  Fn Tryz.prog 47 [.ag [.i .i64 e.1,.b e.2.1.1,.sl (L e.2.1.2.1),.sl (L e.2.1.2.2),.i .i64 e.2.2],.ag [.sl (Is a.shape),.sl (Its a.items)],.ag [.sl (Is b.shape),.sl (Its b.items)]] (.tup [.d (.ag [.sl (Is r.1.shape),.sl (Its r.1.items)]),.d (.i .i64 r.2)]):=by
 unfold ED at h
 by_cases hc:((List.length a.shape:Nat):Int)=1
 rotate_left
 ·rw [if_neg hc] at h;cases h
 rw [if_pos hc] at h
 obtain ⟨l,hl,h⟩:=bnd h
 obtain ⟨g0,hg,h⟩:=bnd h
 have hgl:=HC hg
 obtain ⟨m,hm,h⟩:=bnd h
 obtain ⟨T,hT0,hTn,hTt⟩:=Px _ hm
 obtain ⟨z,hz,h⟩:=bnd h
 refine Fn.ofMA (rs:=[.cell 6 25,.tmp 7]) (nt:=33) Tryz.func47 rfl rfl rfl (by simp) rfl ?_;refine .seqA ?_;refine .region<|kK (vbx)<|kK (vbx)<|kK (vbx)<|kK (van (Ae AP) AZ)<|kD zj<|rn<|.gh (Gh.keep [3,4,5,6,7] rfl)<|.seqA ?_;refine .seq<|.region<|kK (vfa A6)<|kK (Al Cy)<|kK (AX (Az _) (C7 _) CQ)<|kK (vbi)<|rn<|cnf (ntf (dT hc)) ?_;refine .skip ?_
 show AWM _ _ _ _ _ _
 refine .gh (Gh.keep [3,4,5,6,7] rfl)<|.seqA ?_;refine .region<|kK (ZK) ?_
 refine al (cs:=[.un]) ?_ (Ae Aah) gZU
 refine RL.gh2 (Gh2.omr (t:=17) rfl) ?_
 refine stm (id:=0) (off:=0) (cs:=[.un]) (c:=.un) (i:=1) rfl rfl rfl ?_ Aak
 refine rn<|.gh (Gh.keep [3,4,5,6,7,8] rfl)<|.seqA ?_;refine .region<|kK (Ap Ah Ad)<|kK (Ag (DD hl) Tryz.call31)<|kK (van (Ae VH) Yo) ?_
 refine UM ?_ II
 refine rn<|.gh (Gh.nbp (t:=9) rfl)<|.gh (Gh.keep [3,5,6,7,8,9] rfl)<|.seq rfl<|.seqA ?_;refine .region<|kK (Al Bl)<|kK (Ag (ZH (Its l)) Tryz.call101)<|rn<|.gh (Gh.keep [3,5,6,7,8,9,21] rfl)<|.block ?_
 refine AWM.rangeFuncG (ps:=[22,23]) (f:=153) (caps:=[.ptr [.sl (Its l)]]) (ys:=Rs l) (m:=List.length l) (e1:=.ret) rfl rfl rfl Tryz.call153 (ZF (by omega) (Nat.le_refl _)) (fun ds hd=>WH _ ds hd) (fun p hp=>by simp only [List.mem_cons,List.not_mem_nil,or_false] at hp;rcases hp with rfl|rfl<;>rfl) rfl (fun k H=>H=[HO.box [.mr 1],(T k).mo]) (by rw [hT0];rfl) (.inr rfl) (fun lp k ds H hk hkm hH=>?_) (fun H hH=>?_)
 ·subst hH
  have hkl:k<List.length l:=by rw [← Ix];exact (lS.1 hk).1
  obtain ⟨x,hx,ht⟩:=hTt k hkl
  rw [O7 hkl hx] at hk
  cases hk
  generalize ((List.length l-1-k:Nat):Int)=i at ht ⊢
  clear hx
  generalize T k=s0 at ht ⊢
  generalize T (k+1)=s1 at ht ⊢
  unfold Mr at ht
  obtain ⟨ky,hky,ht⟩:=bnd ht
  simp only [Option.some.injEq] at ht
  subst ht
  refine .seq<|.region<|kD zj<|rn<|.gh (Gh.keep [8,10,23] rfl)<|.region<|kK (van (Ae Cd) Cf) ?_
  refine stn ?_ Am (by decide)
  refine rn<|.gh (Gh.keep [8,10,11] rfl)<|.block<|.drawn 4 AS (by kernel_rfl) ?_;refine kV (LM (cs:=[.mr 1]) (c:=.mr 1) rfl rfl Yq)<|kV (Dv AE Am)<|kV (Ag (IZ hky) Tryz.call102)<|kV (Ac)<|dz ?_;refine YC (id:=1) (ky:=ky) (v:=i) s0 rfl Ys JW ?_;refine .nil ?_
  exact ⟨by rw [if_pos hkl],rfl⟩
 have hmn:min (List.length l+1) (Rs l).length=List.length l:=by rw [Ix];omega
 rw [hmn,hTn] at hH
 subst hH
 rw [if_neg (by rw [Ix];omega)]
 clear hm hT0 hTn hTt
 show AWM _ _ _ _ _ _
 refine .lift ?_;refine .gh2 (Gh2.popMo (H0:=[.box [.mr 1]]) rfl (by simp [smK,smV]) rfl rfl) ?_;refine .gh2 (Gh2.pop (H0:=[]) (cs:=[m.mp]) rfl rfl rfl rfl) ?_;refine .gh (Gh.keep [3,5,6,7,8,9] rfl)<|.seq<|.region<|kK (Ap Ah Ad)<|kK (X0)<|kK (VOK.tupd (vs:=[.ag [.sl (Is z.1.shape),.sl (Its z.1.items)],.i .i64 z.2]) (Ag (J7 (Jf Tryz.call103 (fun _ _ h=>Kk h)) hz) Tryz.call48))<|kK (vex)<|kK (vex) ?_
 refine stn ?_ Ad (by decide)
 refine kD zj<|rn<|.gh (Gh.keep [6,7] rfl)<|.ret ?_
 cases h
 exact ⟨.inr rfl,.inl ⟨_,_,⟨.inr rfl,Ah,Ad,(by decide:(0:Nat)<2)⟩,rfl,rfl⟩⟩
def Hu (a0:(Int×RT×Int)) (a1:Int) (a2:Arr) : Option (Arr×Int):=((Ga a1).bind fun x1=>(if x1=true then ((El a0 ([a2])).bind fun x2=>(if x2=true then ((Bx a2).bind fun x3=>(if a1=8834 then none else (if a1=8835 then none else (if a1=8593 then (jn (((rd? x3 0).bind fun x4=>none)) fun K0=>(if ((List.length x3:Nat) : Int)=0 then none else (K0))) else (if a1=8714 then none else (jn (fun (z5:Bool)=>(if z5=true then (if ((List.length a2.shape:Nat) : Int)=1 then ((JK a0 x3 (TP [(9035,1),(9042,(-1))] a1)).bind fun x6=>(some (x6,0))) else (some ((Arr.mk [] []),4))) else (if a1=8746 then (if 1<((List.length a2.shape:Nat) : Int) then (some ((Arr.mk [] []),4)) else none) else (if a1=8801 then none else (if a1=8802 then none else none))))) fun K1=>(if a1=9035 then (K1 (decide (a1=9035))) else (K1 (decide (a1=9042)))))))))) else (some ((Arr.mk [] []),22)))) else (some ((Arr.mk [] []),23))))
theorem LY {a0:(Int×RT×Int)} {a1:Int} {a2:Arr} {r:Arr×Int} (h:Hu a0 a1 a2=some r) :
  Fn Tryz.prog 7 [.ag [.i .i64 a0.1,.b a0.2.1.1,.sl (L a0.2.1.2.1),.sl (L a0.2.1.2.2),.i .i64 a0.2.2],.i .i32 a1,.ag [.sl (Is a2.shape),.sl (Its a2.items)]] (.tup [.d (.ag [.sl (Is r.1.shape),.sl (Its r.1.items)]),.d (.i .i64 r.2)]):=by
 unfold Hu at h
 refine Fn.ofC (rs:=[.cell 6 25,.tmp 7]) (nt:=121) Tryz.func7 rfl rfl rfl (by simp) rfl ?_;refine .sr<|kK vbx<|kK vbx<|kK (van (Ae AP) AZ)<|kR [1,3,5,6,7] zj<|.seq<|.block<|.sr<|kA zj ?_
 obtain ⟨x1,g1,h⟩:=bnd h
 refine kK (Ag (J6 g1) Tryz.call29)<|kK vnt<|kR [1,3,5,6,7,9] zj ?_
 rcases brc h with ⟨hc,h⟩|⟨hc,h⟩
 ·refine cnf (ntf hc) ?_
  refine .sr<|kK (Ap LG J4)<|kK (Ap Ah Ad)<|kK ((Gs (O6 a2) (Ko [a2]) MR).deep) ?_
  obtain ⟨x2,g2,h⟩:=bnd h
  refine kK (Ag (Jk g2) Tryz.call30)<|kK vnt<|kR [1,3,5,6,7,14] zj ?_
  rcases brc h with ⟨hc,h⟩|⟨hc,h⟩
  ·refine cnf (ntf hc) ?_
   refine .sk ?_;refine .sr<|kK (Ap Ah Ad) ?_
   obtain ⟨x3,g3,h⟩:=bnd h
   refine kK (Ag (DD g3) Tryz.call31)<|kR [1,3,5,6,7,8] zj<|.seq<|.sr<|kA zj<|rk [1,3,5,6,7,8,23]<|.block<|.sr<|kB zj<|kR [1,3,5,6,7,8,23,24] zj ?_
   rcases brc h with ⟨hc,h⟩|⟨hc,h⟩
   ·refine cnt (dT hc) ?_
    refine .sr<|kK (Ap Ah Ad) ?_
    exact nomatch h
   refine cnf (dF hc) ?_;refine .sr<|kB zj<|kR [1,3,5,6,7,8,23,32] zj ?_
   rcases brc h with ⟨hc,h⟩|⟨hc,h⟩
   ·refine cnt (dT hc) ?_
    refine .sr<|kK (Ap Ah Ad) ?_
    exact nomatch h
   refine cnf (dF hc) ?_;refine .sr<|kB zj<|kR [1,3,5,6,7,8,23,38] zj ?_
   rcases brc h with ⟨hc,h⟩|⟨hc,h⟩
   ·refine cnt (dT hc) ?_
    refine .seq<|.sr<|kA zj<|kK (AX (Ai _) (Bg _) Ba)<|kB zj<|rk [3,5,6,7,8,42] ?_
    obtain ⟨K0,hK0,h⟩:=A1 h
    refine AW.mr (σ:=Unit) (fun p=>K0=some r) (fun p=>[(3,.d (.ptr [.i .i64 a0.1,.b a0.2.1.1,.sl (L a0.2.1.2.1),.sl (L a0.2.1.2.2),.i .i64 a0.2.2])),(5,.d (.ptr [.sl (Is a2.shape),.sl (Its a2.items)])),(6,.nb [.sl (Is []),.sl (Its [])]),(7,.d (.i .i64 0)),(8,.d (.sl (Its x3)))]) (fun p=>[]) ?_ ?_
    ·skip
     rcases brc h with ⟨hc,h⟩|⟨hc,h⟩
     ·refine cnt (dT hc) ?_
      refine .region<|kK (Ap Ah Ad) ?_
      exact nomatch h
     refine cnf (dF hc) ?_;refine .gk [3,5,6,7,8]<|.skip ?_
     exact jr () h
    rintro _ h
    subst hK0
    refine aw<|.sr<|kA zj ?_
    obtain ⟨x4,g4,h⟩:=bnd h
    obtain ⟨n4,p04,q4⟩:=Aq g4
    refine kK (vix n4 p04 (BC q4) rfl Bs)<|kK (Ap AE Am) ?_
    exact nomatch h
   refine cnf (dF hc) ?_;refine .sr<|kB zj<|kR [1,3,5,6,7,8,23,50] zj ?_
   rcases brc h with ⟨hc,h⟩|⟨hc,h⟩
   ·refine cnt (dT hc) ?_
    refine .seq<|.drawn 13 AS (by kernel_rfl) ?_;refine kV Ac ?_
    exact nomatch h
   refine cnf (dF hc) ?_;refine .seq<|.sr<|kB zj<|kR [1,3,5,6,7,8,23,65] zj ?_
   obtain ⟨K1,hK1,h⟩:=A1 h
   refine AW.mr (σ:=Bool) (fun p=>K1 p=some r) (fun p=>[(1,.d (.i .i32 a1)),(3,.d (.ptr [.i .i64 a0.1,.b a0.2.1.1,.sl (L a0.2.1.2.1),.sl (L a0.2.1.2.2),.i .i64 a0.2.2])),(5,.d (.ptr [.sl (Is a2.shape),.sl (Its a2.items)])),(6,.nb [.sl (Is []),.sl (Its [])]),(7,.d (.i .i64 0)),(8,.d (.sl (Its x3))),(23,.d (.i .i32 a1)),(65,.d (.b p))]) (fun p=>[]) ?_ ?_
   ·skip
    rcases brc h with ⟨hc,h⟩|⟨hc,h⟩
    ·refine cnt (dT hc) ?_
     refine .gk [1,3,5,6,7,8,23,65]<|.skip ?_
     exact jr ((decide (a1=9035))) h
    refine cnf (dF hc) ?_;refine .region<|kB zj<|kD zj<|RL.gk [1,3,5,6,7,8,23,65]<|.nil ?_
    exact jr ((decide (a1=9042))) h
   rintro z5 h
   try dsimp only at h ⊢
   subst hK1
   refine aw ?_
   rcases brc h with ⟨hc,h⟩|⟨hc,h⟩
   ·refine cnt hc ?_
    refine .seq<|.sr<|kK (vfa A6)<|kK (Al Cy)<|kK (AX (Az _) (C7 _) CQ)<|kB zj<|rk [1,3,5,6,7,8,71] ?_
    rcases brc h with ⟨hc,h⟩|⟨hc,h⟩
    ·refine cnf (ntf (dT hc)) ?_
     refine .sk ?_;refine .sr<|kK (Ap LG J4)<|kA zj<|kK ZK<|Aad E8 gkR freshK.nil ?_;refine Aad E8 gkR (freshK.snoc (z:=9042) (z':=9035) freshK.nil (by decide)) ?_;refine RL.gh (Gh.omf (t:=75) rfl)<|kA zj<|kA zj<|kK (Z8 (T:=[(9035,1),(9042,(-1))]) (by decide) E8 gkR Kt) ?_
     obtain ⟨x6,g6,h⟩:=bnd h
     refine vk (Ag (NS g6) Tryz.call38) ?_
     refine stn ?_ Ad (by decide)
     refine kR [3,5,6,7] zj<|.ret ?_
     cases h
     exact ⟨_,_,⟨.inr rfl,Ah,Ad,p2⟩,rfl,rfl⟩
    refine cnt (ntt (dF hc)) ?_;refine .sr<|kK (vbd Dc AP AZ) ?_
    refine stn ?_ Ad (by decide)
    refine kR [1,3,5,6,7,8] zj<|.ret ?_
    cases h
    exact ⟨_,_,⟨.inr rfl,Ah,Ad,p2⟩,rfl,rfl⟩
   refine cnf (bf hc) ?_;refine .sr<|kB zj<|kR [3,5,6,7,8,23,80] zj ?_
   rcases brc h with ⟨hc,h⟩|⟨hc,h⟩
   ·refine cnt (dT hc) ?_
    refine .seq<|.sr<|kK (vfa A6)<|kK (Al Cy)<|kK (AX (Az _) (C7 _) CQ)<|kB zj<|rk [3,5,6,7,8,85] ?_
    rcases brc h with ⟨hc,h⟩|⟨hc,h⟩
    ·refine cnt (dT hc) ?_
     refine .sr<|kK (vbd Dc AP AZ) ?_
     refine stn ?_ Ad (by decide)
     refine kR [3,5,6,7,8] zj<|.ret ?_
     cases h
     exact ⟨_,_,⟨.inr rfl,Ah,Ad,p2⟩,rfl,rfl⟩
    exact nomatch h
   refine cnf (dF hc) ?_;refine .sr<|kB zj<|kR [3,5,6,7,23,95] zj ?_
   rcases brc h with ⟨hc,h⟩|⟨hc,h⟩
   ·refine cnt (dT hc) ?_
    refine .sr<|kK (Ap Ah Ad) ?_
    exact nomatch h
   refine cnf (dF hc) ?_;refine .sr<|kB zj<|kR [3,5,6,7,100] zj ?_
   rcases brc h with ⟨hc,h⟩|⟨hc,h⟩
   ·exact nomatch h
   refine cnf (dF hc) ?_;refine .sk ?_;refine .sr<|kK (Ap LG J4)<|kK (Ap Ah Ad) ?_
   exact nomatch h
  refine cnt (ntt (bf hc)) ?_;refine .sr<|kK (vbd Dc AP AZ) ?_
  refine stn ?_ Ad (by decide)
  refine kR [1,3,5,6,7] zj<|.ret ?_
  cases h
  exact ⟨_,_,⟨.inr rfl,Ah,Ad,p2⟩,rfl,rfl⟩
 refine cnt (ntt (bf hc)) ?_;refine .sr<|kK (vbd Dc AP AZ) ?_
 refine stn ?_ Ad (by decide)
 refine kR [1,3,5,6,7] zj<|.ret ?_
 cases h
 exact ⟨_,_,⟨.inr rfl,Ah,Ad,p2⟩,rfl,rfl⟩
end Go.FL
namespace Go.FL
open Go Go.RowKit
def Abk (l:Nat) (J:Env→Ab→Prop) (Q:Exit→Env→Ab→Prop) : Exit→Env→Ab→Prop
 | .goto l',env,H=>l'=l∧J env H
 | e,env,H=>Q e env H
theorem AW.scopeJ {P:Program} {C:Cx} {c rest:Code} {Q:Exit→Env→Ab→Prop} {env:Env} {H:Ab} (l:Nat) (J:Env→Ab→Prop) (hf:findLabel c l=some rest) (first:AW P C c (Abk l J Q) env H) (after:∀ env' H',J env' H'→AW P C rest (noG Q) env' H') : AW P C (.scope c) Q env H:=by
 intro X a w I μ O h1 h2 h3 hs b k cs hro hb hr
 have h0:(lone (b.atR a (.code (.scope c)::k)) cs w).fenced P (om C.ro):=fenced_calm hb hr rfl
 have hg:gotoIn l (.inScope c::k)=some (.code rest::.inScope c::k):=by simp [gotoIn,hf]
 have leave:∀ {e:Exit} {env':Env} {H':Ab} {a₁:Act} {w₁:World} {I':Nat→Prop} {μ':List Nat} {O':Nat→Option Loc} {m:Machine},(∀ l',e≠.goto l')→Sim P X env' H' a₁ w₁ I' μ' O'→Q e env' H'→ArrivesIn (Machine.fenced P (om C.ro)) P m b (.inScope c::k) cs e a₁ w₁ →
   ∃ e a' w',Post P X Q e a' w'∧ArrivesIn (Machine.fenced P (om C.ro)) P m b k cs e a' w':=by
  intro e env' H' a₁ w₁ I' μ' O' m hne s q harr
  cases e with
  | normal=>exact ⟨.normal,a₁,w₁,⟨env',H',I',μ',O',s,q⟩,StepsIn.trans harr (.one (fenced_calm hb hr rfl) OP)⟩
  | exit id =>
   have hx:exitTo id (.inScope c::k)=exitTo id k:=by simp [exitTo]
   exact ⟨.exit id,a₁,w₁,⟨env',H',I',μ',O',s,q⟩,fun k' hk=>harr.1 k' (by rw [hx];exact hk),
    fun hr' hk=>let ⟨k₁,h1,h2⟩:=harr.2 hr' (by rw [hx];exact hk);⟨k₁,h1,h2⟩⟩
  | goto l'=>exact absurd rfl (hne l')
  | ret=>exact ⟨_,a₁,w₁,⟨env',H',I',μ',O',s,q⟩,harr⟩
  | panic ch=>exact ⟨_,a₁,w₁,⟨env',H',I',μ',O',s,q⟩,harr⟩
  | outgrown=>exact ⟨_,a₁,w₁,⟨env',H',I',μ',O',s,q⟩,harr⟩
 obtain ⟨e,a₁,w₁,hq,harr⟩:=first X a w I μ O h1 h2 h3 hs b (.inScope c::k) cs hro hb hr
 obtain ⟨env',H',I',μ',O',s,q⟩:=hq
 by_cases hgo:∃ l',e=.goto l'
 ·obtain ⟨l',rfl⟩:=hgo
  obtain ⟨rfl,hJ⟩:=q
  obtain ⟨e₂,a₂,w₂,hq₂,harr₂⟩:=after env' H' hJ X a₁ w₁ I' μ' O' h1 h2 h3 s b (.inScope c::k) cs hro hb hr
  obtain ⟨env₂,H₂,I₂,μ₂,O₂,s₂,q₂⟩:=hq₂
  have hne:∀ l',e₂≠.goto l':=fun l' e=>by subst e;exact q₂
  have q₃:Q e₂ env₂ H₂:=by cases e₂<;>first|exact q₂|exact absurd rfl (hne _)
  obtain ⟨e₃,a₃,w₃,p₃,r₃⟩:=leave hne s₂ q₃ harr₂
  exact ⟨e₃,a₃,w₃,p₃,.of_steps (.head h0 Fs (harr.1 _ hg)) r₃⟩
 ·have hne:∀ l',e≠.goto l':=fun l' h=>hgo ⟨l',h⟩
  have q₃:Q e env' H':=by cases e<;>first|exact q|exact absurd rfl (hne _)
  obtain ⟨e₃,a₃,w₃,p₃,r₃⟩:=leave hne s q₃ harr
  exact ⟨e₃,a₃,w₃,p₃,.of_steps (.one h0 Fs) r₃⟩
theorem AW.goto {P:Program} {C:Cx} {Q:Exit→Env→Ab→Prop} {env:Env} {H:Ab} {l:Nat} (h:Q (.goto l) env H) : AW P C (.goto l) Q env H:=fun _ _ _ I μ O _ _ _ hs=>wpIn_goto ⟨env,H,I,μ,O,hs,h⟩
end Go.FL
namespace Go.FL
open Go Go.Proofs Go.RowKit
theorem Uc (s:ByteArray) (i:Nat) : AT (s.extract i s.size)=(AT s).drop i:=by
 have:(s.extract i s.size).data.toList=s.data.toList.drop i:=by
  rw [ByteArray.data_extract,Array.toList_extract,List.extract_eq_take_drop]
  refine List.take_of_length_le ?_
  rw [List.length_drop]
  exact Nat.le_refl _
 unfold AT
 rw [this,List.map_drop]
theorem PZ {l:List UInt8} {k x:Nat} (hx:x<256) : l[k]?=some (x:Int).toNat.toUInt8↔(l.map UInt8.toNat)[k]?=some x:=by
 rw [List.getElem?_map]
 have e:(x:Int).toNat.toUInt8.toNat=x:=by
  rw [Int.toNat_natCast]
  simp;omega
 constructor
 ·intro h;rw [h,Option.map_some,e]
 ·intro h
  cases hl:l[k]? with
  | none=>rw [hl] at h;cases h
  | some b =>
   rw [hl,Option.map_some,Option.some.injEq] at h
   congr 1
   apply UInt8.toNat.inj
   rw [h,e]
theorem U2 (s:ByteArray) (i:Nat) {x:Nat} (hx:x<256) :
  (Fx (s.extract (i+1) s.size) x=-1∧∀ q,i<q→(AT s)[q]?≠some x) ∨
  ∃ k:Nat,Fx (s.extract (i+1) s.size) x=(k:Int)∧(AT s)[i+1+k]?=some x∧∀ q,i<q→q<i+1+k→(AT s)[q]?≠some x:=by
 have hb:=Uc s (i+1)
 have hg:∀ k,(AT s)[i+1+k]?=(AT (s.extract (i+1) s.size))[k]?:=fun k=>by rw [hb,List.getElem?_drop]
 by_cases h:Fx (s.extract (i+1) s.size) x=-1
 ·refine .inl ⟨h,fun q hq e=>?_⟩
  have:=Lib.indexByte_none h (q-(i+1))
  refine this ((PZ hx).2 ?_)
  have:=hg (q-(i+1))
  rw [show i+1+(q-(i+1))=q by omega,e] at this
  exact this.symm
 ·have hge:=Lib.indexByte_ge (s.extract (i+1) s.size).data.toList (x:Int).toNat.toUInt8
  have hge':-1≤Fx (s.extract (i+1) s.size) x:=hge
  obtain ⟨k,hk⟩:∃ k:Nat,Fx (s.extract (i+1) s.size) x=(k:Int):=⟨(Fx (s.extract (i+1) s.size) x).toNat,by omega⟩
  obtain ⟨h1,h2⟩:=Lib.indexByte_some hk
  refine .inr ⟨k,hk,?_,fun q hq hq2 e=>?_⟩
  ·rw [hg];exact (PZ hx).1 h1
  ·have:=h2 (q-(i+1)) (by omega)
   refine this ((PZ hx).2 ?_)
   have:=hg (q-(i+1))
   rw [show i+1+(q-(i+1))=q by omega,e] at this
   exact this.symm
def mtc (bs es:List Nat) (p:Nat) : Bool:=(List.range es.length).all fun j=>bs[p-j]? == es[es.length-1-j]?
def frl (bs es:List Nat) (i:Nat) : Option Nat:=((List.range bs.length).drop i).find? (mtc bs es)
theorem L8 {bs es:List Nat} {i:Nat} (h:bs.length≤i) : frl bs es i=none:=by
 unfold frl
 rw [List.drop_of_length_le (by simpa using h)];rfl
theorem X2 {bs es:List Nat} {i:Nat} (h:i<bs.length) (hm:mtc bs es i=true) : frl bs es i=some i:=by
 unfold frl
 rw [lC (by simpa using h),List.getElem_range,List.find?_cons,hm]
theorem VL {bs es:List Nat} {i:Nat} (h:i<bs.length) (hm:mtc bs es i=false) : frl bs es i=frl bs es (i+1):=by
 unfold frl
 rw [lC (by simpa using h),List.getElem_range,List.find?_cons,hm]
theorem Nf {bs es:List Nat} : ∀ (d i:Nat),(∀ q,i≤q→q<i+d→mtc bs es q=false)→frl bs es i=frl bs es (i+d)
 | 0,_,_=>rfl
 | d+1,i,h=>by
  by_cases hi:i<bs.length
  ·rw [VL hi (h i (Nat.le_refl _) (by omega)),Nf d (i+1) fun q h1 h2=>h q (by omega) (by omega)]
   congr 1;omega
  ·rw [L8 (by omega),L8 (by omega)]
theorem M9 {bs es:List Nat} {p x:Nat} (h0:es≠[]) (hx:es[es.length-1]?=some x) (h:bs[p]?≠some x) : mtc bs es p=false:=by
 have hp:=List.length_pos_iff.2 h0
 unfold mtc
 rw [List.all_eq_false]
 refine ⟨0,List.mem_range.2 hp,?_⟩
 rw [Nat.sub_zero,Nat.sub_zero,hx]
 simpa using h
end Go.FL
namespace Go.FL
open Go Go.Proofs
def B4 (a0:Int) : Option (Int):=(some ((w64 (Int.tdiv (w64 (a0+16)) 8))))
theorem FY {a0:Int} {r:Int} (h:B4 a0=some r) :
  Fn Tryz.prog 169 [.i .i64 a0] (.d (.i .i64 r)):=by
 unfold B4 at h
 refine Fn.o1 2 6 Tryz.func169 ?_;refine .sr<|kR [0,2] zj<|.sr<|kA zj<|kB zj<|kK (TX (c:=(8:Int)≠0) (by decide))<|kR [2] zj<|.ret ?_
 cases h
 exact ⟨rfl,rfl⟩
def L3 (bs:List Nat) (x i:Nat) : Nat:=((bs.take i).filter fun y=>y == x).length
theorem TV {bs:List Nat} {x i j:Nat} (h:i≤j) : L3 bs x i≤L3 bs x j:=by
 unfold L3
 have:(bs.take i).Sublist (bs.take j):=by
  have e:bs.take i=(bs.take j).take i:=by rw [List.take_take,Nat.min_eq_left h]
  rw [e];exact List.take_sublist _ _
 exact (this.filter _).length_le
theorem N5 {bs:List Nat} {x i:Nat} (h:bs[i]?=some x) : L3 bs x (i+1)=L3 bs x i+1:=by
 obtain ⟨hi,hx⟩:=lS.1 h
 unfold L3
 rw [List.take_succ_eq_append_getElem hi,List.filter_append,List.length_append,hx]
 simp
theorem S8 {bs es:List Nat} {p:Nat} : mtc bs es p=true↔∀ j,j<es.length→bs[p-j]?=es[es.length-1-j]?:=by
 unfold mtc
 rw [List.all_eq_true]
 constructor
 ·intro h j hj
  have:=h j (List.mem_range.2 hj)
  simpa using this
 ·intro h j hj
  have:=h j (List.mem_range.1 hj)
  simpa using this
def atR (bs es:List Nat) : Int:=match frl bs es (es.length-1) with
 | some p=>(p:Int)-((es.length-1:Nat):Int)
 | none=>-1
set_option maxHeartbeats 1000000 in
theorem Qp (s:ByteArray) (r:Int) {es:List Nat} {x:Nat} (h0:128≤r) (hne:r≠65533) (hvr:BA r=some true) (he:AT (Utf8.encode r)=es) (n2:2≤es.length) (n4:es.length≤4) (hx:es[es.length-1]?=some x) (hx8:x<256) (hs:s.size≤1000)
  (hcut:∀ i,i≤s.size→L3 (AT s) x i≤(i+16) / 8):Fn Tryz.prog 123 [.s s,.i .i32 r] (.d (.i .i64 (atR (AT s) es))):=by
 have hes:(Utf8.encode r).size=es.length:=by rw [← C8,he]
 have hbl:(AT s).length=s.size:=C8 s
 obtain ⟨L,hL⟩:∃ L,es.length=L+1:=⟨es.length-1,by omega⟩
 have hL1:es.length-1=L:=by omega
 have hsub:DV.i .i64 (IntKind.i64.wrap (((Utf8.encode r).size:Int)-1))=.i .i64 (L:Int):=by rw [hes,show IntKind.i64.wrap ((es.length:Int)-1)=(es.length:Int)-1 from GO (by omega) (by omega),hL];congr 1;omega
 rw [hL1] at hx
 have hne0:es≠[]:=fun q=>by rw [q] at n2;simp at n2
 have hx':es[es.length-1]?=some x:=by rw [hL1];exact hx
 refine Fn.of (rs:=[.tmp 4]) (nt:=187) Tryz.func123 rfl rfl rfl (by simp) rfl ?_;refine .seq<|.region<|kD zj<|rn<|.gh (Gh.keep [0,1,4] rfl)<|.block<|.seq<|.region<|kK (Ac)<|kK (vbi) ?_
 have hb0:(decide (0≤r))=true:=dT (by omega)
 refine kK (VOK.lit (Ac) hb0)<|kK (Ac)<|kK (vbi)<|kK (Ao)<|kD zj<|rn<|.gh (Gh.keep [0,1,4,160] rfl)<|cnf (show decide (r<128)=false from dF (by omega)) ?_;refine .seq<|.region<|kK (Ac)<|kK (vbi)<|kD zj<|rn<|.gh (Gh.keep [0,1,4,171] rfl)<|cnf (show decide (r=65533)=false from dF hne) ?_;refine .seq<|.region<|kK (Ac)<|kK (Ag (Dx hvr) Tryz.call168)<|kK (vnt)<|kD zj<|rn<|.gh (Gh.keep [0,1,4,183] rfl)<|BD ?_;refine .scope ?_;refine .seq<|.region<|kK (Ac)<|kK (YQ (by kernel_rfl) stS)<|kD zj<|rn<|.gh (Gh.keep [0,1,4,7] rfl)<|.seq<|.region<|kK (Ac)<|kK (QG stS)<|kK (R2 (.i .i64 (L:Int)) ⟨trivial,hsub⟩)<|kD zj<|rn<|.gh (Gh.keep [0,1,4,7,8] rfl)<|.seq<|.region<|kK (Ac)<|kD zj<|rn<|.gh (Gh.keep [0,1,4,7,8,9] rfl)<|.seq<|.region<|kD zj<|rn<|.gh (Gh.keep [0,1,4,7,8,9,10] rfl)<|.seq<|.block<|.loop ?_
 refine AL.ind (σ:=Nat×Nat) (m:=fun p=>s.size+5-p.1) (e:=fun p=>[(0,.d (.s s)),(1,.d (.i .i32 r)),(4,.d (.i .i64 0)),(7,.d (.s (Utf8.encode r))),(8,.d (.i .i64 (L:Int))),(9,.d (.i .i64 (p.1:Int))),(10,.d (.i .i64 (p.2:Int)))]) (h:=fun _=>[]) (I:=fun p=>L≤p.1∧p.1≤s.size+L∧frl (AT s) es p.1=frl (AT s) es L∧p.2≤L3 (AT s) x p.1) ?_ (L,0) ⟨Nat.le_refl _,Nat.le_add_left _ _,rfl,Nat.zero_le _⟩
 rintro ⟨i,fl⟩ ⟨i1,i2,i3,i4⟩ ih
 dsimp only at i1 i2 i3 i4 ih ⊢
 refine .seq<|.seq<|.region<|kK (Ac)<|kK (Ac)<|kK (QG stS)<|kK (vbi)<|rn<|.gh (Gh.keep [0,1,4,7,8,9,10,26] rfl) ?_
 by_cases hlt:i<s.size
 rotate_left
 ·refine cnf (show decide ((i:Int)<((s.size:Nat):Int))=false from dF (by omega)) ?_
  refine .exit ?_;refine aw<|.seq<|.seq<|.region<|kD zj<|rn<|.gh (Gh.keep [4] rfl)<|.ret ?_
  have e:atR (AT s) es=-1:=by unfold atR;rw [hL1,← i3,L8 (by rw [hbl];omega)]
  rw [e]
  exact ⟨rfl,rfl⟩
 refine cnt (show decide ((i:Int)<((s.size:Nat):Int))=true from dT (by omega)) ?_;refine .skip<|aw<|.block<|.scopeJ 0 (fun env H=>∃ (q j:Nat),L≤q∧q<s.size∧i≤q∧(AT s)[q]?=some x∧frl (AT s) es q=frl (AT s) es L∧fl≤L3 (AT s) x q∧mtc (AT s) es q=false∧H=[]∧env=[(0,.d (.s s)),(1,.d (.i .i32 r)),(4,.d (.i .i64 0)),(7,.d (.s (Utf8.encode r))),(8,.d (.i .i64 (L:Int))),(9,.d (.i .i64 (q:Int))),(10,.d (.i .i64 (fl:Int))),(12,.d (.i .i64 (j:Int)))]) rfl ?_ ?_
 ·obtain ⟨y,hy⟩:∃ y,(AT s)[i]?=some y:=⟨_,lG (by rw [hbl];exact hlt)⟩
  refine .seq<|.seq<|.drawn 7 AS (by kernel_rfl) ?_;refine kV (Ac)<|kV (Ac)<|kV (KI i y rfl hy stS)<|kV (Ac)<|kV (Ac)<|kV (KI L x rfl (by rw [he];exact hx) stS)<|kV (vbi)<|dz ?_;refine rn<|.gh (Gh.keep [0,1,4,7,8,9,10,33] rfl)<|AW.mr (σ:=Nat) (fun q=>L≤q∧q<s.size∧i≤q∧(AT s)[q]?=some x∧frl (AT s) es q=frl (AT s) es L∧fl≤L3 (AT s) x q) (fun q=>[(0,.d (.s s)),(1,.d (.i .i32 r)),(4,.d (.i .i64 0)),(7,.d (.s (Utf8.encode r))),(8,.d (.i .i64 (L:Int))),(9,.d (.i .i64 (q:Int))),(10,.d (.i .i64 (fl:Int)))]) (fun _=>[]) ?_ ?_
  ·skip
   by_cases hyx:y=x
   ·refine cnf (ntf (dT (show (y:Int)=x by omega))) ?_
    refine .gh (Gh.keep [0,1,4,7,8,9,10] rfl)<|.skip ?_
    exact jr i ⟨i1,hlt,Nat.le_refl _,by rw [hy,hyx],i3,i4⟩
   have hno:mtc (AT s) es i=false:=M9 hne0 hx' (by rw [hy];exact fun q=>hyx (oI q))
   have hI:=Hj (s.extract (i+1) s.size) x
   refine cnt (ntt (dF (show ¬(y:Int)=x by omega))) ?_;refine .seq<|.drawn 8 AS (by kernel_rfl) ?_;refine kV (Ac)<|kV (Ac)<|kV (vad (m:=(i:Int)) (n:=1) ((i+1:Nat):Int) ⟨by omega,by omega,by omega⟩)<|kV (Zp (s:=s) (i+1) ⟨rfl,by omega⟩ stS)<|kV (Ac)<|kV (Ac)<|kV (KI L x rfl (by rw [he];exact hx) stS)<|kV (Ag hI Tryz.call167)<|dz ?_;refine kD zj<|rn<|.gh (Gh.keep [0,1,4,7,8,9,10,11] rfl)<|.seq<|.seq<|.region<|kK (Ac)<|kK (vbi)<|rn<|.gh (Gh.keep [0,1,4,7,8,9,10,11,43] rfl) ?_
   rcases U2 s i hx8 with ⟨k1,k2⟩|⟨k,k1,k2,k3⟩
   ·refine cnt (show decide (Fx (s.extract (i+1) s.size) x<0)=true from dT (by rw [k1];decide)) ?_
    refine .seq<|.region<|kD zj<|rn<|.gh (Gh.keep [4] rfl)<|.ret ?_
    have e:atR (AT s) es=-1:=by
     unfold atR
     rw [hL1,← i3,Nf (s.size-i) i (fun q q1 q2=>by
      by_cases hq:q=i
      ·subst hq;exact hno
      ·exact M9 hne0 hx' (k2 q (by omega))),L8 (by rw [hbl];omega)]
    rw [e]
    exact ⟨rfl,rfl⟩
   refine cnf (show decide (Fx (s.extract (i+1) s.size) x<0)=false from dF (by rw [k1];omega)) ?_;refine .skip<|aw ?_
   have hkl:i+1+k<s.size:=by
    have:=(lS.1 k2).1
    rw [hbl] at this;exact this
   refine .region<|kK (Ac)<|kK (Ac)<|kK (vad (m:=Fx (s.extract (i+1) s.size) x) (n:=1) ((k+1:Nat):Int) ⟨by rw [k1];omega,by omega,by omega⟩)<|kK (vad (m:=(i:Int)) (n:=((k+1:Nat):Int)) ((i+1+k:Nat):Int) ⟨by omega,by omega,by omega⟩)<|kD zj<|RL.gh (Gh.keep [0,1,4,7,8,9,10] rfl)<|.nil ?_
   refine jr (i+1+k) ⟨by omega,hkl,by omega,k2,?_,nT i4 (TV (by omega))⟩
   rw [← i3,Nf (k+1) i (fun q q1 q2=>by
    by_cases hq:q=i
    ·subst hq;exact hno
    ·exact M9 hne0 hx' (k3 q (by omega) (by omega)))]
   congr 1;omega
  rintro q ⟨q1,q2,q3,q4,q5,q6⟩
  refine .seq<|.seq<|.region<|kD zj<|rn<|.gh (Gh.keep [0,1,4,7,8,9,10,12] rfl)<|.block<|.loop ?_
  refine AL.ind (σ:=Nat) (m:=fun j=>L+1-j) (e:=fun j=>[(0,.d (.s s)),(1,.d (.i .i32 r)),(4,.d (.i .i64 0)),(7,.d (.s (Utf8.encode r))),(8,.d (.i .i64 (L:Int))),(9,.d (.i .i64 (q:Int))),(10,.d (.i .i64 (fl:Int))),(12,.d (.i .i64 (j:Int)))]) (h:=fun _=>[]) (I:=fun j=>1≤j∧j≤L+1∧∀ t,t<j→(AT s)[q-t]?=es[es.length-1-t]?) ?_ 1 ⟨by omega,by omega,fun t ht=>by
   have:t=0:=by omega
   subst this
   rw [Nat.sub_zero,Nat.sub_zero,q4,hx']⟩
  rintro j ⟨j1,j2,j3⟩ ih2
  refine .seq<|.seq<|.region<|kK (Ac)<|kK (Ac)<|kK (QG stS)<|kK (vbi)<|rn<|.gh (Gh.keep [0,1,4,7,8,9,10,12,51] rfl) ?_
  by_cases hj:j<L+1
  ·refine cnt (show decide ((j:Int)<(((Utf8.encode r).size:Nat):Int))=true from dT (by rw [hes];omega)) ?_
   refine .skip<|aw ?_
   obtain ⟨a,hA⟩:∃ a,(AT s)[q-j]?=some a:=⟨_,lG (by rw [hbl];omega)⟩
   obtain ⟨b,hB⟩:∃ b,es[L-j]?=some b:=⟨_,lG (by omega)⟩
   refine .seq<|.block<|.seq<|.drawn 11 AS (by kernel_rfl) ?_;refine kV (Ac)<|kV (Ac)<|kV (Ac)<|kV (vsu (m:=(q:Int)) (n:=(j:Int)) (((q-j:Nat)):Int) ⟨by omega,by omega,by omega⟩)<|kV (KI (q-j) a rfl hA stS)<|kV (Ac)<|kV (Ac)<|kV (Ac)<|kV (vsu (m:=(L:Int)) (n:=(j:Int)) (((L-j:Nat)):Int) ⟨by omega,by omega,by omega⟩)<|kV (KI (L-j) b rfl (by rw [he];exact hB) stS)<|kV (vbi)<|dz ?_;refine rn<|.gh (Gh.keep [0,1,4,7,8,9,10,12,64] rfl) ?_
   by_cases hab:a=b
   ·refine cnf (ntf (dT (show (a:Int)=b by omega))) ?_
    refine .skip<|aw<|.region<|kK (Ac)<|kK (vad (m:=(j:Int)) (n:=1) ((j+1:Nat):Int) ⟨by omega,by omega,by omega⟩)<|kD zj<|.nil ?_;refine AL.gh (Gh.keep [0,1,4,7,8,9,10,12] rfl) ?_
    refine ih2 (j+1) ⟨by omega,by omega,fun t ht=>?_⟩ (by omega)
    by_cases htj:t=j
    ·subst htj;rw [hA,hL1,hB,hab]
    ·exact j3 t (by omega)
   ·refine cnt (ntt (dF (show ¬(a:Int)=b by omega))) ?_
    refine .gh (Gh.keep [0,1,4,7,8,9,10,12] rfl)<|.goto ?_
    refine ⟨rfl,q,j,q1,q2,q3,q4,q5,q6,?_,rfl,rfl⟩
    cases hm:mtc (AT s) es q with
    | false=>rfl
    | true =>
     have:=S8.1 hm j (by omega)
     rw [hA,hL1,hB] at this
     exact absurd (oI this) hab
  refine cnf (show decide ((j:Int)<(((Utf8.encode r).size:Nat):Int))=false from dF (by rw [hes];omega)) ?_;refine .exit ?_;refine aw<|.seq<|.seq<|.region<|kK (Ac)<|kK (Ac)<|kK (vsu (m:=(q:Int)) (n:=(L:Int)) ((q:Int)-(L:Int)) ⟨by omega,by omega,by omega⟩)<|kD zj<|rn<|.gh (Gh.keep [4] rfl)<|.ret ?_
  have hm:mtc (AT s) es q=true:=S8.2 fun t ht=>j3 t (by omega)
  have e:atR (AT s) es=(q:Int)-(L:Int):=by unfold atR;rw [hL1,← q5,X2 (by rw [hbl];exact q2) hm]
  rw [e]
  exact ⟨rfl,rfl⟩
 ·rintro env' H' ⟨q,j,q1,q2,q3,q4,q5,q6,q7,rfl,rfl⟩
  have hC:=hcut (q+1) (by omega)
  rw [N5 q4] at hC
  have hcu:B4 ((q+1:Nat):Int)=some (((q+1+16) / 8:Nat):Int):=by
   unfold B4
   have e1:w64 (((q+1:Nat):Int)+16)=((q+1+16:Nat):Int):=by rw [show w64 (((q+1:Nat):Int)+16)=((q+1:Nat):Int)+16 from GO (by omega) (by omega)];omega
   rw [e1,show Int.tdiv ((q+1+16:Nat):Int) 8=(((q+1+16) / 8:Nat):Int) from rfl,show w64 (((q+1+16) / 8:Nat):Int)=(((q+1+16) / 8:Nat):Int) from GO (by omega) (by omega)]
  refine .seq<|.skip<|aw<|.seq<|.region<|kK (Ac)<|kK (vad (m:=(fl:Int)) (n:=1) ((fl+1:Nat):Int) ⟨by omega,by omega,by omega⟩)<|kD zj<|rn<|.gh (Gh.keep [0,1,4,7,8,9,10] rfl)<|.seq<|.region<|kK (Ac)<|kK (vad (m:=(q:Int)) (n:=1) ((q+1:Nat):Int) ⟨by omega,by omega,by omega⟩)<|kD zj<|rn<|.gh (Gh.keep [0,1,4,7,8,9,10] rfl)<|.seq<|.region<|kK (Ac)<|kK (Ac)<|kK (Ac)<|kK (Ag (FY hcu) Tryz.call169)<|kK (vbi)<|kK (Ao) ?_
  have hgt:decide ((((q+1+16) / 8:Nat):Int)<((fl+1:Nat):Int))=false:=dF (by omega)
  refine kK (VOK.lit (Ac) hgt)<|gf4 ?_;refine kK (Ao)<|kK (Ac)<|kK (Ac)<|gf4 ?_;refine kG<|kK (Ao)<|kK (Ac)<|gf4 ?_;refine kK (Ao)<|kK (Ao)<|rn<|.gh (Gh.keep [0,1,4,7,8,9,10,98] rfl)<|BD ?_;refine .skip<|AL.gh (Gh.keep [0,1,4,7,8,9,10] rfl) ?_
  refine ih (q+1,fl+1) ⟨by omega,by omega,?_,?_⟩ (by dsimp only;omega)
  ·dsimp only
   rw [← q5,VL (by rw [hbl];exact q2) q7]
  ·dsimp only
   rw [N5 q4];omega
def YI (s:ByteArray) (b:Int) : Option Int:=some (Fx s b)
theorem UJ {s:ByteArray} {b z:Int} (h:YI s b=some z) : Fn Tryz.prog 167 [.s s,.i .u8 b] (.d (.i .i64 z)):=by
 cases h;exact Hj s b
def G5 (a0:ByteArray) (K0:Int→Option (Int)) : Nat→Int→Nat→Option (Int)
 | 0,_,_=>none
 | k+1,s3,s4=>(if s4<ByteArray.size a0 then (if (Abl a0 s4)=65533 then (some (((s4:Nat):Int))) else (G5 a0 K0 k s3 (Yx a0 s4))) else (K0 s3))
def Sq (a0:ByteArray) (a1:Int) : Option (Int):=(if ((decide (0≤a1))&&(decide (a1<128)))=true then ((YI a0 (IntKind.wrap .u8 a1)).bind fun x1=>(some (x1))) else (if a1=65533 then (jn (fun (z2:Int)=>(some ((-1)))) fun K0=>(G5 a0 K0 AH 0 0)) else ((BA a1).bind fun x5=>(if x5=true then none else (some ((-1)))))))
theorem UD {a0:ByteArray} {a1:Int} {r:Int} (h:Sq a0 a1=some r) :
  Fn Tryz.prog 123 [.s a0,.i .i32 a1] (.d (.i .i64 r)):=by
 unfold Sq at h
 refine Fn.o1 4 187 Tryz.func123 ?_;refine .sr<|kR [0,1,4] zj<|.block<|.seq<|AW.mr (σ:=Unit) (fun _=>True) (fun _=>[(0,.d (.s a0)),(1,.d (.i .i32 a1)),(4,.d (.i .i64 0)),(160,.d (.b ((decide (0≤a1))&&(decide (a1<128)))))]) (fun _=>[]) ?_ ?_
 ·skip
  refine .region<|kA zj<|kB zj ?_
  by_cases hc:0≤a1
  ·have hb0:(decide (0≤a1))=true:=(dT hc)
   refine kC zj hb0<|kA zj<|kB zj<|kK Ao<|kD zj<|RL.gk [0,1,4,160]<|.nil ?_
   exact jr () trivial (by simp only [hb0];rfl)
  have hb0:(decide (0≤a1))=false:=(dF hc)
  refine kC zj hb0<|gf2 ?_;refine kK Ao<|kD zj<|RL.gk [0,1,4,160]<|.nil ?_
  exact jr () trivial (by simp only [hb0];rfl)
 rintro _ _
 rcases brc h with ⟨hc,h⟩|⟨hc,h⟩
 ·refine cnt hc ?_
  refine .sr<|kA zj<|kA zj<|kK (vcv Rh WL) ?_
  obtain ⟨x1,g1,h⟩:=bnd h
  refine kK (Ag (UJ g1) Tryz.call167)<|kR [4] zj<|.ret ?_
  cases h
  exact ⟨rfl,rfl⟩
 refine cnf (bf hc) ?_;refine .sr<|kA zj<|kB zj<|kR [0,1,4,171] zj ?_
 rcases brc h with ⟨hc,h⟩|⟨hc,h⟩
 ·refine cnt (dT hc) ?_
  refine .seq<|.sr<|kA zj<|kK (Abr st)<|rk [4,175] ?_
  obtain ⟨K0,hK0,h⟩:=A1 h
  refine AW.mr (σ:=Int) (fun p=>K0 p=some r) (fun p=>[(4,.d (.i .i64 p))]) (fun p=>[]) ?_ ?_
  ·skip
   refine .block ?_
   refine .loop (.gk [4,175] ?_)
   refine AL.ind (σ:=Nat×Int×Nat) (m:=fun p=>p.1) (e:=fun p=>[(4,.d (.i .i64 p.2.1)),(175,.it a0 p.2.2)]) (h:=fun p=>[]) (I:=fun p=>G5 a0 K0 p.1 p.2.1 p.2.2=some r) ?_ (AH,0,0) h
   rintro ⟨k,s3,s4⟩ h ih
   dsimp only at h ih ⊢
   rcases k with _|k
   ·rw [G5] at h;cases h
   rw [G5] at h
   refine .sr ?_
   rcases brc h with ⟨hc,h⟩|⟨hc,h⟩
   ·refine nxt ?_ hc
    refine kK vex<|rk [4,175,176,177]<|.seq<|BN ?_;refine .sk ?_;refine .block<|.sr<|kK vex<|kK vex<|kD zj<|kR [4,5,6,175] zj<|.sr<|kA zj<|kB zj<|rk [4,5,175,181] ?_
    rcases brc h with ⟨hc,h⟩|⟨hc,h⟩
    ·refine cnt (dT hc) ?_
     refine .sr<|kA zj<|kR [4,175] zj<|.ret ?_
     cases h
     exact ⟨rfl,rfl⟩
    refine cnf (dF hc) ?_;refine .gk [4,175]<|.skip ?_
    exact ih (k,s3,(Yx a0 s4)) h (Nat.lt_succ_self _)
   refine nxe ?_ hc
   refine kK vex<|rk [4,175,176,177]<|.seq<|BD ?_;refine .gk [4]<|.exit ?_
   exact jr (s3) h
  rintro z2 h
  try dsimp only at h ⊢
  subst hK0
  refine aw<|.sr<|kR [4] zj<|.ret ?_
  cases h
  exact ⟨rfl,rfl⟩
 refine cnf (dF hc) ?_;refine .sr<|kA zj ?_
 obtain ⟨x5,g5,h⟩:=bnd h
 refine kK (Ag (Dx g5) Tryz.call168)<|kK vnt<|kR [0,1,4,183] zj ?_
 rcases brc h with ⟨hc,h⟩|⟨hc,h⟩
 ·exact nomatch h
 refine cnt (ntt (bf hc)) ?_;refine .sr<|kR [4] zj<|.ret ?_
 cases h
 exact ⟨rfl,rfl⟩
theorem Wq {r:Int} (h:128≤r) (hv:Utf8.valid r=true) : 2≤(AT (Utf8.encode r)).length∧(AT (Utf8.encode r)).length≤4∧∃ t,t<64∧(AT (Utf8.encode r))[(AT (Utf8.encode r)).length-1]?=some (128+t):=by
 have hm:∀ c:Nat,(UInt8.ofNat (128+c % 64)).toNat=128+c % 64:=fun c=>by rw [UInt8.toNat_ofNat',Nat.mod_eq_of_lt (by omega)]
 unfold Utf8.encode
 rw [if_pos hv]
 simp only
 generalize hc:r.toNat=c
 have h8:128≤c:=by omega
 rw [if_neg (show ¬c<128 by omega)]
 split
 ·refine ⟨by simp [AT],by simp [AT],c % 64,Nat.mod_lt _ (by decide),?_⟩
  show some (UInt8.ofNat (128+c % 64)).toNat=_
  rw [hm]
 ·split
  ·refine ⟨by simp [AT],by simp [AT],c % 64,Nat.mod_lt _ (by decide),?_⟩
   show some (UInt8.ofNat (128+c % 64)).toNat=_
   rw [hm]
  ·refine ⟨by simp [AT],by simp [AT],c % 64,Nat.mod_lt _ (by decide),?_⟩
   show some (UInt8.ofNat (128+c % 64)).toNat=_
   rw [hm]
def SQ (bs:List Nat) : Bool:=(List.range 64).all fun t=>(List.range (bs.length+1)).all fun i=>Nat.ble (L3 bs (128+t) i) ((i+16) / 8)
theorem Wy {bs:List Nat} (h:SQ bs=true) {t i:Nat} (ht:t<64) (hi:i≤bs.length) : L3 bs (128+t) i≤(i+16) / 8:=by
 unfold SQ at h
 have h1:=List.all_eq_true.1 h t (List.mem_range.2 ht)
 have h2:=List.all_eq_true.1 h1 i (List.mem_range.2 (by omega))
 exact Nat.le_of_ble_eq_true h2
theorem Pp (r:Int) : BA r=some (Utf8.valid r):=by
 unfold BA Utf8.valid
 by_cases h1:((decide (0≤r))&&(decide (r<55296)))=true
 ·rw [if_pos h1];simp at h1 ⊢;omega
 ·rw [if_neg h1]
  by_cases h2:((decide (57343<r))&&(decide (r≤1114111)))=true
  ·rw [if_pos h2];simp at h1 h2 ⊢;omega
  ·rw [if_neg h2];simp at h1 h2 ⊢;omega
def PL (s:ByteArray) (r:Int) : Option Int:=if 128≤r∧r≠65533∧Utf8.valid r=true then (if SQ (AT s)=true∧s.size≤1000 then some (atR (AT s) (AT (Utf8.encode r))) else none) else Sq s r
theorem T7 {s:ByteArray} {r z:Int} (h:PL s r=some z) : Fn Tryz.prog 123 [.s s,.i .i32 r] (.d (.i .i64 z)):=by
 unfold PL at h
 by_cases h1:128≤r∧r≠65533∧Utf8.valid r=true
 ·rw [if_pos h1] at h
  by_cases h2:SQ (AT s)=true∧s.size≤1000
  ·rw [if_pos h2] at h
   cases h
   obtain ⟨l2,l4,t,ht,hx⟩:=Wq h1.1 h1.2.2
   refine Qp s r h1.1 h1.2.1 (by rw [Pp,h1.2.2]) rfl l2 l4 hx (by omega) h2.2 fun i hi=>Wy h2.1 ht (by rw [C8];exact hi)
  ·rw [if_neg h2] at h;cases h
 ·rw [if_neg h1] at h
  exact UD h
def Sc (s:ByteArray) (r:Int) : Option Bool:=(PL s r).map fun z=>decide (0≤z)
theorem Uq {s:ByteArray} {r:Int} {b:Bool} (h:Sc s r=some b) : Fn Tryz.prog 76 [.s s,.i .i32 r] (.d (.b b)):=by
 unfold Sc at h
 rcases hz:PL s r with _|z
 ·rw [hz] at h;cases h
 rw [hz] at h
 cases h
 refine Fn.of (rs:=[.tmp 4]) (nt:=9) Tryz.func76 rfl rfl rfl (by simp) rfl ?_;refine .seq<|.region<|kD zj<|rn<|.seq<|.region<|kK (Ac)<|kK (Ac)<|kK (Ag (T7 hz) Tryz.call123)<|kK (vbi)<|kD zj<|rn<|.ret ?_
 exact ⟨rfl,rfl⟩
def DO (a0:Int) : Option (Bool):=((Sc (⟨#[226,138,131,226,141,179,226,136,138,126,226,136,170,226,137,161,226,137,162,226,138,164,226,138,165,226,140,183]⟩ : ByteArray) a0).bind fun x1=>(some (x1)))
theorem J8 {a0:Int} {r:Bool} (h:DO a0=some r) :
  Fn Tryz.prog 42 [.i .i32 a0] (.d (.b r)):=by
 unfold DO at h
 refine Fn.o1 2 5 Tryz.func42 ?_;refine .sr<|kR [0,2] zj<|.sr<|kA zj ?_
 obtain ⟨x1,g1,h⟩:=bnd h
 refine kK (Ag (Uq g1) Tryz.call76)<|kR [2] zj<|.ret ?_
 cases h
 exact ⟨rfl,rfl⟩
def CJ (a0:(Int×RT×Int)) (a1:Int) (a2:Arr) (a3:Arr) : Option (Arr×Int):=((DO a1).bind fun x1=>(if x1=true then ((El a0 ([a2,a3])).bind fun x2=>(if x2=true then (if a1=8835 then none else (if a1=8868 then ((Ic a2 a3).bind fun x3=>(some (x3.1,x3.2))) else (if a1=8869 then none else (jn (fun (z4:Bool)=>(if z4=true then none else (if a1=9075 then ((ED a0 a2 a3).bind fun x5=>(some (x5.1,x5.2))) else (if a1=8714 then ((Bx a3).bind fun x6=>((G6 SM.nil x6).bind fun x7=>((F6 a2 (⟨.fn 49 [] [.ptr [x7.2.mp]],fun x=>D3 x x7.2⟩ : DM)).bind fun x8=>(some (x8.1,x8.2))))) else (if a1=9015 then none else none))))) fun K0=>(if a1=8801 then (K0 (decide (a1=8801))) else (K0 (decide (a1=8802)))))))) else (some ((Arr.mk [] []),22)))) else (some ((Arr.mk [] []),23))))
theorem Gf {a0:(Int×RT×Int)} {a1:Int} {a2:Arr} {a3:Arr} {r:Arr×Int} (h:CJ a0 a1 a2 a3=some r) :
  Fn Tryz.prog 9 [.ag [.i .i64 a0.1,.b a0.2.1.1,.sl (L a0.2.1.2.1),.sl (L a0.2.1.2.2),.i .i64 a0.2.2],.i .i32 a1,.ag [.sl (Is a2.shape),.sl (Its a2.items)],.ag [.sl (Is a3.shape),.sl (Its a3.items)]] (.tup [.d (.ag [.sl (Is r.1.shape),.sl (Its r.1.items)]),.d (.i .i64 r.2)]):=by
 unfold CJ at h
 refine Fn.ofC (rs:=[.cell 8 25,.tmp 9]) (nt:=92) Tryz.func9 rfl rfl rfl (by simp) rfl ?_;refine .sr<|kK vbx<|kK vbx<|kK vbx<|kK (van (Ae AP) AZ)<|kR [1,4,6,7,8,9] zj<|.seq<|.block<|.sr<|kA zj ?_
 obtain ⟨x1,g1,h⟩:=bnd h
 refine kK (Ag (J8 g1) Tryz.call42)<|kK vnt<|kR [1,4,6,7,8,9,11] zj ?_
 rcases brc h with ⟨hc,h⟩|⟨hc,h⟩
 ·refine cnf (ntf hc) ?_
  refine .sr<|kK (Ap LG J4)<|kK (Ap Ah Ad)<|kK (Ap Ah Ad)<|kK ((Gs (XN a2 a3) (Ko [a2,a3]) MR).deep) ?_
  obtain ⟨x2,g2,h⟩:=bnd h
  refine kK (Ag (Jk g2) Tryz.call30)<|kK vnt<|kR [1,4,6,7,8,9,16] zj ?_
  rcases brc h with ⟨hc,h⟩|⟨hc,h⟩
  ·refine cnf (ntf hc) ?_
   refine .sk ?_;refine .seq<|.sr<|kA zj<|rk [1,4,6,7,8,9,24]<|.block<|.sr<|kB zj<|kR [1,4,6,7,8,9,24,25] zj ?_
   rcases brc h with ⟨hc,h⟩|⟨hc,h⟩
   ·refine cnt (dT hc) ?_
    refine .sr<|kK (Ap LG J4)<|kK (Ap Ah Ad)<|kK (Ap Ah Ad) ?_
    exact nomatch h
   refine cnf (dF hc) ?_;refine .sr<|kB zj<|kR [1,4,6,7,8,9,24,33] zj ?_
   rcases brc h with ⟨hc,h⟩|⟨hc,h⟩
   ·refine cnt (dT hc) ?_
    refine .sr<|kK (Ap Ah Ad)<|kK (Ap Ah Ad) ?_
    obtain ⟨x3,g3,h⟩:=bnd h
    refine kK (VOK.tupd (vs:=[.ag [.sl (Is x3.1.shape),.sl (Its x3.1.items)],.i .i64 x3.2]) (Ag (MI g3) Tryz.call44))<|kK vex<|kK vex ?_
    refine stn ?_ Ad (by decide)
    refine kR [1,6,7,8,9] zj<|.ret ?_
    cases h
    exact ⟨_,_,⟨.inr rfl,Ah,Ad,p2⟩,rfl,rfl⟩
   refine cnf (dF hc) ?_;refine .sr<|kB zj<|kR [1,4,6,7,8,9,24,40] zj ?_
   rcases brc h with ⟨hc,h⟩|⟨hc,h⟩
   ·refine cnt (dT hc) ?_
    refine .sr<|kK (Ap Ah Ad)<|kK (Ap Ah Ad) ?_
    exact nomatch h
   refine cnf (dF hc) ?_;refine .seq<|.sr<|kB zj<|kR [1,4,6,7,8,9,24,47] zj ?_
   obtain ⟨K0,hK0,h⟩:=A1 h
   refine AW.mr (σ:=Bool) (fun p=>K0 p=some r) (fun p=>[(1,.d (.i .i32 a1)),(4,.d (.ptr [.i .i64 a0.1,.b a0.2.1.1,.sl (L a0.2.1.2.1),.sl (L a0.2.1.2.2),.i .i64 a0.2.2])),(6,.d (.ptr [.sl (Is a2.shape),.sl (Its a2.items)])),(7,.d (.ptr [.sl (Is a3.shape),.sl (Its a3.items)])),(8,.nb [.sl (Is []),.sl (Its [])]),(9,.d (.i .i64 0)),(24,.d (.i .i32 a1)),(47,.d (.b p))]) (fun p=>[]) ?_ ?_
   ·skip
    rcases brc h with ⟨hc,h⟩|⟨hc,h⟩
    ·refine cnt (dT hc) ?_
     refine .gk [1,4,6,7,8,9,24,47]<|.skip ?_
     exact jr ((decide (a1=8801))) h
    refine cnf (dF hc) ?_;refine .region<|kB zj<|kD zj<|RL.gk [1,4,6,7,8,9,24,47]<|.nil ?_
    exact jr ((decide (a1=8802))) h
   rintro z4 h
   try dsimp only at h ⊢
   subst hK0
   refine aw ?_
   rcases brc h with ⟨hc,h⟩|⟨hc,h⟩
   ·refine cnt hc ?_
    refine .sr<|kK (Ap Ah Ad)<|kK (Ap Ah Ad) ?_
    exact nomatch h
   refine cnf (bf hc) ?_;refine .sr<|kB zj<|kR [1,4,6,7,8,9,24,58] zj ?_
   rcases brc h with ⟨hc,h⟩|⟨hc,h⟩
   ·refine cnt (dT hc) ?_
    refine .sr<|kK (Ap LG J4)<|kK (Ap Ah Ad)<|kK (Ap Ah Ad) ?_
    obtain ⟨x5,g5,h⟩:=bnd h
    refine kK (VOK.tupd (vs:=[.ag [.sl (Is x5.1.shape),.sl (Its x5.1.items)],.i .i64 x5.2]) (Ag (LV g5) Tryz.call47))<|kK vex<|kK vex ?_
    refine stn ?_ Ad (by decide)
    refine kR [1,6,7,8,9] zj<|.ret ?_
    cases h
    exact ⟨_,_,⟨.inr rfl,Ah,Ad,p2⟩,rfl,rfl⟩
   refine cnf (dF hc) ?_;refine .sr<|kB zj<|kR [1,4,6,7,8,9,24,66] zj ?_
   rcases brc h with ⟨hc,h⟩|⟨hc,h⟩
   ·refine cnt (dT hc) ?_
    refine .seq ?_
    obtain ⟨x6,g6,h⟩:=bnd h
    obtain ⟨x7,g7,h⟩:=bnd h
    obtain ⟨x8,g8,h⟩:=bnd h
    refine .region<|kK ZK ?_
    refine al (cs:=[.un]) ?_ (Ae Ym) gZU
    refine RL.gh2 (Gh2.omr (t:=68) rfl) ?_
    refine stm (id:=0) (off:=0) (cs:=[.un]) (c:=.un) (i:=1) rfl rfl rfl ?_ Xq
    refine rk [6,7,8,10]<|.seq<|.drawn 3 AS (by kernel_rfl) ?_;refine kV (LM (cs:=[.mr 1]) (c:=.mr 1) rfl rfl To)<|kV (Ap Ah Ad)<|kV (Ag (L4 g6) Tryz.call31)<|dz ?_
    refine Aap (s:=71) (t0:=71) [.tmp 69] [] (as1:=[.mr 1]) (as2:=[]) (Xl (id:=1) (m:=SM.nil) rfl g7) Tryz.call39 (fun v H' hp=>?_) (.inr rfl)
    obtain ⟨rfl,G,rfl⟩:=hp
    refine rk [6,8,10]<|.gh2 (Gh2.cutM (H0:=[.box [.mr 1],x7.2.mo]) G rfl rfl rfl rfl) ?_;refine .gh2 (Gh2.popMo (H0:=[.box [.mr 1]]) rfl (by simp [smK,smV]) rfl rfl) ?_;refine .gh2 (Gh2.pop (H0:=[]) (cs:=[x7.2.mp]) rfl rfl rfl rfl) ?_;refine .gk [6,8,10]<|.sr<|kK (Ap Ah Ad)<|kK X0<|kK (VOK.tupd (vs:=[.ag [.sl (Is x8.1.shape),.sl (Its x8.1.items)],.i .i64 x8.2]) (Ag (J7 (Jf Tryz.call49 (fun _ _ h=>KR h)) g8) Tryz.call48))<|kK vex<|kK vex ?_
    refine stn ?_ Ad (by decide)
    refine kR [8,9] zj<|.ret ?_
    cases h
    exact ⟨_,_,⟨.inr rfl,Ah,Ad,p2⟩,rfl,rfl⟩
   refine cnf (dF hc) ?_;refine .sr<|kB zj<|kR [1,4,6,7,8,9,78] zj ?_
   rcases brc h with ⟨hc,h⟩|⟨hc,h⟩
   ·refine cnt (dT hc) ?_
    refine .sr<|kK (Ap LG J4)<|kK (Ap Ah Ad)<|kK (Ap Ah Ad) ?_
    exact nomatch h
   refine cnf (dF hc) ?_;refine .sk ?_;refine .sr<|kA zj<|kK (Ap Ah Ad)<|kK (Ap Ah Ad) ?_
   exact nomatch h
  refine cnt (ntt (bf hc)) ?_;refine .sr<|kK (vbd Dc AP AZ) ?_
  refine stn ?_ Ad (by decide)
  refine kR [1,4,6,7,8,9] zj<|.ret ?_
  cases h
  exact ⟨_,_,⟨.inr rfl,Ah,Ad,p2⟩,rfl,rfl⟩
 refine cnt (ntt (bf hc)) ?_;refine .sr<|kK (vbd Dc AP AZ) ?_
 refine stn ?_ Ad (by decide)
 refine kR [1,4,6,7,8,9] zj<|.ret ?_
 cases h
 exact ⟨_,_,⟨.inr rfl,Ah,Ad,p2⟩,rfl,rfl⟩
def E7 : Option ((Int×RT×Int)):=(some ((1,(false,[],[]),0)))
theorem FM {r:(Int×RT×Int)} (h:E7=some r) :
  Fn Tryz.prog 8 [] (.d (.ag [.i .i64 r.1,.b r.2.1.1,.sl (L r.2.1.2.1),.sl (L r.2.1.2.2),.i .i64 r.2.2])):=by
 unfold E7 at h
 refine Fn.ofC (rs:=[.cell 0 35]) (nt:=2) Tryz.func8 rfl rfl rfl (by simp) rfl ?_;refine .sr<|kK (van (Ae YB) Yp)<|rk [0]<|.sr<|kK (vbd Aay YB Yp) ?_
 refine stn ?_ J4 (by decide)
 refine rk [0]<|.ret ?_
 cases h
 exact ⟨_,⟨.inr rfl,LG,J4,(by decide:(0:Nat)<5)⟩,rfl⟩
def Gc : Option (Bool):=(E7.bind fun x1=>((KP ([3,1,2])).bind fun x2=>((Hu x1 9035 x2).bind fun x3=>(E7.bind fun x4=>((KP ([10,10])).bind fun x5=>((Lj 37).bind fun x6=>((CJ x4 8868 x5 x6).bind fun x7=>(Option.bind ((if x3.2=0 then ((KP ([2,3,1])).bind fun x9=>((GK x3.1 x9).bind fun x10=>(if x10=true then (if x7.2=0 then ((KP ([3,7])).bind fun x11=>((GK x7.1 x11).bind fun x12=>(some x12))) else (some false)) else (some false)))) else (some false)) : Option (Bool)) fun (z8:Bool)=>(some (z8))))))))))
theorem Ji {r:Bool} (h:Gc=some r) :
  Fn Tryz.prog 6 [] (.d (.b r)):=by
 unfold Gc at h
 refine Fn.o1 0 38 Tryz.func6 ?_;refine .sr<|kR [0] zj<|.sr ?_
 obtain ⟨x1,g1,h⟩:=bnd h
 refine kK (Ag (FM g1) Tryz.call8)<|kK ((GN (Fc [3,1,2]) Gt).deep) ?_
 obtain ⟨x2,g2,h⟩:=bnd h
 refine vk (Ag (G4 g2) Tryz.call26) ?_
 obtain ⟨x3,g3,h⟩:=bnd h
 refine kK (VOK.tupd (vs:=[.ag [.sl (Is x3.1.shape),.sl (Its x3.1.items)],.i .i64 x3.2]) (Ag (LY g3) Tryz.call7))<|kA zj<|kK vex<|kK vex<|kK (van (Ae AP) AZ) ?_
 refine stn ?_ Ad (by decide)
 refine kR [0,1,2] zj<|.sr ?_
 obtain ⟨x4,g4,h⟩:=bnd h
 refine kK (Ag (FM g4) Tryz.call8)<|kK ((GN (Fc [10,10]) Gt).deep) ?_
 obtain ⟨x5,g5,h⟩:=bnd h
 refine vk (Ag (G4 g5) Tryz.call26) ?_
 obtain ⟨x6,g6,h⟩:=bnd h
 refine vk (Ag (PN g6) Tryz.call27) ?_
 obtain ⟨x7,g7,h⟩:=bnd h
 refine kK (VOK.tupd (vs:=[.ag [.sl (Is x7.1.shape),.sl (Its x7.1.items)],.i .i64 x7.2]) (Ag (Gf g7) Tryz.call9))<|kA zj<|kK vex<|kK vex<|kK (van (Ae AP) AZ) ?_
 refine stn ?_ Ad (by decide)
 refine kR [0,1,2,3,4] zj<|.seq ?_
 obtain ⟨z8,hz,h⟩:=bnd h
 refine AW.mr (σ:=Unit) (fun _=>True) (fun _=>[(0,.d (.b z8))]) (fun _=>[]) ?_ ?_
 ·skip
  refine .drawn 18 AS (by kernel_rfl) ?_;refine kV Ac<|kV vbi ?_
  rcases brc hz with ⟨hc,hz⟩|⟨hc,hz⟩
  ·have hb0:(decide (x3.2=0))=true:=(dT hc)
   refine kV (VOK.lit (Ac) hb0)<|kV (Dv Ah Ad)<|kV ((GN (Fc [2,3,1]) Gt).deep) ?_
   obtain ⟨x9,g9,hz⟩:=bnd hz
   refine dv (Ag (G4 g9) Tryz.call26) ?_
   obtain ⟨x10,g10,hz⟩:=bnd hz
   refine kV (Ag (IB g10) Tryz.call28)<|kV Ao ?_
   rcases brc hz with ⟨hc,hz⟩|⟨hc,hz⟩
   ·have hb1:x10=true:=hc
    refine kV (VOK.lit (Ac) hb1)<|kV Ac<|kV vbi<|kV Ao ?_
    rcases brc hz with ⟨hc,hz⟩|⟨hc,hz⟩
    ·have hb2:(decide (x7.2=0))=true:=(dT hc)
     refine kV (VOK.lit (Ac) hb2)<|kV (Dv Ah Ad)<|kV ((GN (Fc [3,7]) Gt).deep) ?_
     obtain ⟨x11,g11,hz⟩:=bnd hz
     refine dv (Ag (G4 g11) Tryz.call26) ?_
     obtain ⟨x12,g12,hz⟩:=bnd hz
     refine kV (Ag (IB g12) Tryz.call28)<|kV Ao<|dz ?_;refine kD zj<|RL.gk [0]<|.nil ?_
     cases hz
     exact jr () trivial
    have hb2:(decide (x7.2=0))=false:=(dF hc)
    refine kV (VOK.lit (Ac) hb2)<|dgf ?_;refine dgf ?_;refine dgf ?_;refine dgf ?_;refine kV Ao<|dz ?_;refine kD zj<|RL.gk [0]<|.nil ?_
    cases hz
    exact jr () trivial
   have hb1:x10=false:=(bf hc)
   refine kV (VOK.lit (Ac) hb1)<|dgf ?_;refine dgf ?_;refine kV Ao<|kV Ac<|dgf ?_;refine dgf ?_;refine dgf ?_;refine dgf ?_;refine kV Ao<|dz ?_;refine kD zj<|RL.gk [0]<|.nil ?_
   cases hz
   exact jr () trivial
  have hb0:(decide (x3.2=0))=false:=(dF hc)
  refine kV (VOK.lit (Ac) hb0)<|dgf ?_;refine dgf ?_;refine dgf ?_;refine dgf ?_;refine kV Ao<|kV Ac<|dgf ?_;refine dgf ?_;refine kV Ao<|kV Ac<|dgf ?_;refine dgf ?_;refine dgf ?_;refine dgf ?_;refine kV Ao<|dz ?_;refine kD zj<|RL.gk [0]<|.nil ?_
  cases hz
  exact jr () trivial
 rintro _ _
 refine .ret ?_
 cases h
 exact ⟨rfl,rfl⟩
end Go.FL
namespace Go.FL
open Go
theorem Aar : Gc=some true:=by kernel_rfl
end Go.FL
namespace Go.FL
open Go Go.RowKit Go.ChangeShapes Go.WideShapes Go.ChangeAt
section
variable {H:Type}
def OpF (enc:TypeId×Value→H) (P:Program) (W:World) (n:Nat) (t:TypeId) {α:Type} (F:α→List DV) (Q:α→Prop) : Prop :=
 ∀ (fuel:Nat) (cs:List Value) (x:DataW H×List MemPlace),fuel≤n→DataW.trod enc P W 0 (fun _=>true) true fuel t cs=some x→(∀ m∈DataW.weights P t x.1,m≤reachBytes) →
  ∃ a,Q a∧RepAll W (fun b=>b<W.heap.size) (F a) cs∧∀ u∈cs,u.oneCell'=true
variable {enc:TypeId×Value→H} {P:Program} {W:World}
theorem OpF.mono {n m t:Nat} {α:Type} {F:α→List DV} {Q:α→Prop} (h:OpF enc P W n t F Q) (hm:m≤n) : OpF enc P W m t F Q:=fun fuel cs x hf=>h fuel cs x (by omega)
theorem OpF.map {n t:Nat} {α β:Type} {F:α→List DV} {Q:α→Prop} {G:β→List DV} {R:β→Prop} (h:OpF enc P W n t F Q) (f:∀ a,Q a→∃ b,R b∧F a=G b) : OpF enc P W n t G R:=fun fuel cs x hf h1 h2=>by
 obtain ⟨a,q,r,c⟩:=h fuel cs x hf h1 h2
 obtain ⟨b,rb,e⟩:=f a q
 exact ⟨b,rb,e▸r,c⟩
theorem PP {n t:Nat} {k:IntKind} (ht:P.underlying t=some (.int k)) : OpF enc P W n t (fun z:Int=>[.i k z]) (fun z=>(Lit.int k z).wf=true):=fun fuel cs x _ h _=>by
 obtain ⟨z,rfl,_,hw⟩:=DataW.trod_int ht h
 exact ⟨z,hw,.cons (.i _ _) .nil,by simp [Value.oneCell']⟩
theorem Xn {n t:Nat} (ht:P.underlying t=some .bool) : OpF enc P W n t (fun z:Bool=>[.b z]) (fun _=>True):=fun fuel cs x _ h _=>by
 obtain ⟨z,rfl,_⟩:=DataW.trod_bool ht h
 exact ⟨z,trivial,.cons (.b _) .nil,by simp [Value.oneCell']⟩
theorem Iq {e:TypeId} : ∀ {ds:List (DataW H)} {d:DataW H},d∈ds→∀ q∈DataW.weights P e d,q∈DataW.weightsAll P e ds
 | d::ds,d',hd,q,hq=>by
  rw [DataW.weightsAll,List.mem_append]
  rcases List.mem_cons.1 hd with rfl|hd
  ·exact .inl hq
  ·exact .inr (Iq hd q hq)
theorem JY {n t e sz:Nat} {α:Type} {F:α→List DV} {Q:α→Prop} (D:α→DV) (ht:P.underlying t=some (.slice e)) (hs:P.cellsOf e=sz) (h0:0<sz) (hD:∀ a,(D a).cells=F a) (h:OpF enc P W n e F Q) :
  OpF enc P W (n+1) t (fun xs:List α=>[.sl (xs.map D)]) (fun xs=>(∀ x∈xs,Q x)∧xs.length * P.bytesOf e≤reachBytes):=by
 intro fuel cs x hf hx hw
 rcases DataW.trod_slice ht hx with ⟨rfl,rfl⟩|⟨a,len,cap,elems,rest,m,rfl,rfl,rfl,hb,hl,hm,hlen,hel,_,_⟩
 ·exact ⟨[],⟨by simp,by simp⟩,.cons (.sl0 _ _) .nil,by simp [Value.oneCell']⟩
 ·simp only [DataW.weights,ht] at hw
  have hroom:(elems.length+rest.length) * P.bytesOf e≤reachBytes:=by
   have:=hw ((elems.length+rest.length) * P.bytesOf e) (by simp)
   exact this
  have each:∀ i,i<len→∃ vs y,W.cells? 0 (a.add (i * P.cellsOf e)) (P.cellsOf e)=some vs∧DataW.trod enc P W 0 (fun _=>true) true m e vs=some y∧∀ q∈DataW.weights P e y.1,q≤reachBytes:=by
   intro i hi
   have h1:=hel i hi
   rw [lG (show i<elems.length by omega)] at h1
   obtain ⟨vs,h2,h3⟩:=Option.bind_eq_some_iff.1 h1
   refine ⟨vs,_,h2,h3,fun q hq=>hw q ?_⟩
   simp only [List.mem_cons,List.mem_append]
   exact .inr (.inl (Iq (d:=(elems[i]'(by omega)).1) (List.mem_map_of_mem (List.getElem_mem _)) q hq))
  by_cases hlen0:len=0
  ·subst hlen0
   exact ⟨[],⟨by simp,by simp⟩,.cons (.sl0 _ _) .nil,by simp [Value.oneCell']⟩
  ·obtain ⟨b,off,spot⟩:=a
   have hspot:spot=none:=by
    obtain ⟨vs,y,h1,_,_⟩:=each 0 (by omega)
    obtain ⟨_,k2,k3⟩:=World.cells?_some h1
    have h4:=k3 0 (by omega)
    rw [lG (show 0<vs.length by omega)] at h4
    simpa [Addr.add] using World.cell?_spot h4
   subst hspot
   have build:∀ j,j≤len→∃ (xs:List α) (vs:List Value),xs.length=j∧(∀ x∈xs,Q x)∧Has W b off vs∧RepRows W (fun b=>b<W.heap.size) sz (xs.map D) vs:=by
    intro j
    induction j with
    | zero=>exact fun _=>⟨[],[],rfl,by simp,fun j u hj=>by simp at hj,.nil _⟩
    | succ j ih =>
     intro hj
     obtain ⟨xs,vs,k1,k2,k3,k4⟩:=ih (by omega)
     obtain ⟨us,y,g1,g2,g3⟩:=each j (by omega)
     obtain ⟨_,g4,g5⟩:=World.cells?_some g1
     obtain ⟨x,q1,q2,q3⟩:=h m us y (by omega) g2 g3
     have hvl:=k4.length
     rw [List.length_map,k1] at hvl
     refine ⟨xs++[x],vs++us,by simp [k1],?_,?_,?_⟩
     ·intro z hz
      rcases List.mem_append.1 hz with hz|hz
      ·exact k2 z hz
      ·simp at hz;subst hz;exact q1
     ·intro i u hi
      rw [List.getElem?_append] at hi
      split at hi
      ·exact k3 i u hi
      ·rename_i hge
       have:=g5 (i-vs.length) (by have:=(lS.1 hi).1;omega)
       rw [hi] at this
       rw [← this,hs]
       have e1:off+i=off+j * sz+(i-vs.length):=by omega
       rw [e1,add_plain,add_plain]
     ·rw [List.map_append]
      refine k4.append ?_
      have:=RepRows.cons (sz:=sz) (x:=D x) (xs:=[]) (us:=us) (vs:=[]) (by omega) q3 (by rw [hD];exact q2) (.nil sz)
      simpa using this
   obtain ⟨xs,vs,k1,k2,k3,k4⟩:=build len (Nat.le_refl _)
   have hne:xs≠[]:=fun h=>by subst h;simp at k1;omega
   have hlt:b<W.heap.size:=by
    obtain ⟨us,y,g1,_,_⟩:=each 0 (by omega)
    have:=World.cells?_block g1 (by omega)
    rwa [add_plain] at this
   refine ⟨xs,⟨k2,nT (Nat.mul_le_mul_right _ (by omega)) hroom⟩,.cons ?_ .nil,by simp [Value.oneCell']⟩
   have:=Rep.sl (w:=W) (I:=fun b=>b<W.heap.size) (xs.map D) b off sz cap vs (by simpa using hne) (by rw [List.length_map,k1];exact hl) hlt h0 k3 k4
   rwa [List.length_map,k1] at this
def fTO (P:Program) (t:TypeId) : Option (List (TypeId×Nat)):=match P.underlying t with
 | some (.struct fs)=>some (fs.toList.map fun f=>(f.type,f.offset))
 | _=>none
theorem NC {t:Nat} {l:List (TypeId×Nat)} (h:fTO P t=some l) : ∃ fs,P.underlying t=some (.struct fs)∧fs.toList.map (fun f=>(f.type,f.offset))=l:=by
 unfold fTO at h
 split at h
 ·rename_i fs hu;exact ⟨fs,hu,oI h⟩
 ·cases h
theorem Sk {α0 α1:Type} {t n:Nat} {T0 s0:Nat} {F0:α0→List DV} {Q0:α0→Prop} {T1 s1:Nat} {F1:α1→List DV} {Q1:α1→Prop} (ht:fTO P t=some [(T0,0),(T1,s0)]) (hc:P.cellsOf t=s0+s1) (z0:P.cellsOf T0=s0) (h0:OpF enc P W n T0 F0 Q0) (z1:P.cellsOf T1=s1) (h1:OpF enc P W n T1 F1 Q1) :
  OpF enc P W (n+1) t (fun a:α0×α1=>F0 a.1++(F1 a.2)) (fun a=>Q0 a.1∧Q1 a.2):=by
 intro fuel cs x hf h hw
 obtain ⟨fs,hu,hfs⟩:=NC ht
 obtain ⟨xs,m,rfl,rfl,hl,hlen,hfield⟩:=DataW.trod_struct hu h
 have hsz:fs.size=2:=by have:=congrArg List.length hfs;simpa using this
 have hm:m≤n:=by omega
 have each:∀ (i T off:Nat),[(T0,0),(T1,s0)][i]?=some (T,off)→∃ y,DataW.trod enc P W 0 (fun _=>true) true m T ((cs.drop off).take (P.cellsOf T))=some y∧∀ q∈DataW.weights P T y.1,q≤reachBytes:=by
  intro i T off hi
  rw [← hfs] at hi
  obtain ⟨f,hf1,hf2⟩:∃ f,fs[i]?=some f∧(f.type,f.offset)=(T,off):=by
   rw [List.getElem?_map,Option.map_eq_some_iff] at hi
   obtain ⟨f,h1,h2⟩:=hi
   exact ⟨f,by simpa using h1,h2⟩
  cases hf2
  have hi2:i<xs.length:=by have:=(Array.getElem?_eq_some_iff.1 hf1).1;omega
  refine ⟨xs[i],by rw [hfield i f hf1,lG hi2],fun q hq=>hw q ?_⟩
  simp only [DataW.weights,hu]
  exact DataW.weights_mem_each (j:=i) (by simp [hf1]) (by simp [hi2]) q hq
 obtain ⟨y0,e0,w0⟩:=each 0 T0 (0) rfl
 obtain ⟨a0,q0,r0,c0⟩:=h0 m _ y0 hm e0 w0
 rw [z0] at r0 c0
 obtain ⟨y1,e1,w1⟩:=each 1 T1 (s0) rfl
 obtain ⟨a1,q1,r1,c1⟩:=h1 m _ y1 hm e1 w1
 rw [z1] at r1 c1
 have hcs:cs=(cs.drop (0)).take s0++(cs.drop (s0)).take s1:=by
  have hl2:cs.length=s0+s1:=by rw [hl,hc]
  clear each hfield h
  apply List.ext_getElem?
  intro j
  simp only [List.getElem?_append,List.getElem?_take,List.getElem?_drop,List.length_take,List.length_drop]
  repeat' split
  all_goals first|(congr 1;omega)|(rw [List.getElem?_eq_none (by omega)])
 refine ⟨(a0,a1),⟨q0,q1⟩,?_,?_⟩
 ·rw [hcs];exact (r0.append r1)
 ·intro u hu2
  rw [hcs] at hu2
  simp only [List.mem_append] at hu2
  rcases hu2 with hu2|hu2
  ·exact c0 u hu2
  ·exact c1 u hu2
theorem Sp {α0 α1 α2:Type} {t n:Nat} {T0 s0:Nat} {F0:α0→List DV} {Q0:α0→Prop} {T1 s1:Nat} {F1:α1→List DV} {Q1:α1→Prop} {T2 s2:Nat} {F2:α2→List DV} {Q2:α2→Prop} (ht:fTO P t=some [(T0,0),(T1,s0),(T2,s0+s1)]) (hc:P.cellsOf t=s0+s1+s2) (z0:P.cellsOf T0=s0) (h0:OpF enc P W n T0 F0 Q0) (z1:P.cellsOf T1=s1) (h1:OpF enc P W n T1 F1 Q1) (z2:P.cellsOf T2=s2) (h2:OpF enc P W n T2 F2 Q2) :
  OpF enc P W (n+1) t (fun a:α0×α1×α2=>F0 a.1++(F1 a.2.1++(F2 a.2.2))) (fun a=>Q0 a.1∧Q1 a.2.1∧Q2 a.2.2):=by
 intro fuel cs x hf h hw
 obtain ⟨fs,hu,hfs⟩:=NC ht
 obtain ⟨xs,m,rfl,rfl,hl,hlen,hfield⟩:=DataW.trod_struct hu h
 have hsz:fs.size=3:=by have:=congrArg List.length hfs;simpa using this
 have hm:m≤n:=by omega
 have each:∀ (i T off:Nat),[(T0,0),(T1,s0),(T2,s0+s1)][i]?=some (T,off)→∃ y,DataW.trod enc P W 0 (fun _=>true) true m T ((cs.drop off).take (P.cellsOf T))=some y∧∀ q∈DataW.weights P T y.1,q≤reachBytes:=by
  intro i T off hi
  rw [← hfs] at hi
  obtain ⟨f,hf1,hf2⟩:∃ f,fs[i]?=some f∧(f.type,f.offset)=(T,off):=by
   rw [List.getElem?_map,Option.map_eq_some_iff] at hi
   obtain ⟨f,h1,h2⟩:=hi
   exact ⟨f,by simpa using h1,h2⟩
  cases hf2
  have hi2:i<xs.length:=by have:=(Array.getElem?_eq_some_iff.1 hf1).1;omega
  refine ⟨xs[i],by rw [hfield i f hf1,lG hi2],fun q hq=>hw q ?_⟩
  simp only [DataW.weights,hu]
  exact DataW.weights_mem_each (j:=i) (by simp [hf1]) (by simp [hi2]) q hq
 obtain ⟨y0,e0,w0⟩:=each 0 T0 (0) rfl
 obtain ⟨a0,q0,r0,c0⟩:=h0 m _ y0 hm e0 w0
 rw [z0] at r0 c0
 obtain ⟨y1,e1,w1⟩:=each 1 T1 (s0) rfl
 obtain ⟨a1,q1,r1,c1⟩:=h1 m _ y1 hm e1 w1
 rw [z1] at r1 c1
 obtain ⟨y2,e2,w2⟩:=each 2 T2 (s0+s1) rfl
 obtain ⟨a2,q2,r2,c2⟩:=h2 m _ y2 hm e2 w2
 rw [z2] at r2 c2
 have hcs:cs=(cs.drop (0)).take s0++((cs.drop (s0)).take s1++(cs.drop (s0+s1)).take s2):=by
  have hl2:cs.length=s0+s1+s2:=by rw [hl,hc]
  clear each hfield h
  apply List.ext_getElem?
  intro j
  simp only [List.getElem?_append,List.getElem?_take,List.getElem?_drop,List.length_take,List.length_drop]
  repeat' split
  all_goals first|(congr 1;omega)|(rw [List.getElem?_eq_none (by omega)])
 refine ⟨(a0,a1,a2),⟨q0,q1,q2⟩,?_,?_⟩
 ·rw [hcs];exact (r0.append (r1.append r2))
 ·intro u hu2
  rw [hcs] at hu2
  simp only [List.mem_append] at hu2
  rcases hu2 with hu2|hu2|hu2
  ·exact c0 u hu2
  ·exact c1 u hu2
  ·exact c2 u hu2
theorem R0 {α0 α1 α2 α3:Type} {t n:Nat} {T0 s0:Nat} {F0:α0→List DV} {Q0:α0→Prop} {T1 s1:Nat} {F1:α1→List DV} {Q1:α1→Prop} {T2 s2:Nat} {F2:α2→List DV} {Q2:α2→Prop} {T3 s3:Nat} {F3:α3→List DV} {Q3:α3→Prop} (ht:fTO P t=some [(T0,0),(T1,s0),(T2,s0+s1),(T3,s0+s1+s2)]) (hc:P.cellsOf t=s0+s1+s2+s3) (z0:P.cellsOf T0=s0) (h0:OpF enc P W n T0 F0 Q0) (z1:P.cellsOf T1=s1) (h1:OpF enc P W n T1 F1 Q1) (z2:P.cellsOf T2=s2) (h2:OpF enc P W n T2 F2 Q2) (z3:P.cellsOf T3=s3) (h3:OpF enc P W n T3 F3 Q3) :
  OpF enc P W (n+1) t (fun a:α0×α1×α2×α3=>F0 a.1++(F1 a.2.1++(F2 a.2.2.1++(F3 a.2.2.2)))) (fun a=>Q0 a.1∧Q1 a.2.1∧Q2 a.2.2.1∧Q3 a.2.2.2):=by
 intro fuel cs x hf h hw
 obtain ⟨fs,hu,hfs⟩:=NC ht
 obtain ⟨xs,m,rfl,rfl,hl,hlen,hfield⟩:=DataW.trod_struct hu h
 have hsz:fs.size=4:=by have:=congrArg List.length hfs;simpa using this
 have hm:m≤n:=by omega
 have each:∀ (i T off:Nat),[(T0,0),(T1,s0),(T2,s0+s1),(T3,s0+s1+s2)][i]?=some (T,off)→∃ y,DataW.trod enc P W 0 (fun _=>true) true m T ((cs.drop off).take (P.cellsOf T))=some y∧∀ q∈DataW.weights P T y.1,q≤reachBytes:=by
  intro i T off hi
  rw [← hfs] at hi
  obtain ⟨f,hf1,hf2⟩:∃ f,fs[i]?=some f∧(f.type,f.offset)=(T,off):=by
   rw [List.getElem?_map,Option.map_eq_some_iff] at hi
   obtain ⟨f,h1,h2⟩:=hi
   exact ⟨f,by simpa using h1,h2⟩
  cases hf2
  have hi2:i<xs.length:=by have:=(Array.getElem?_eq_some_iff.1 hf1).1;omega
  refine ⟨xs[i],by rw [hfield i f hf1,lG hi2],fun q hq=>hw q ?_⟩
  simp only [DataW.weights,hu]
  exact DataW.weights_mem_each (j:=i) (by simp [hf1]) (by simp [hi2]) q hq
 obtain ⟨y0,e0,w0⟩:=each 0 T0 (0) rfl
 obtain ⟨a0,q0,r0,c0⟩:=h0 m _ y0 hm e0 w0
 rw [z0] at r0 c0
 obtain ⟨y1,e1,w1⟩:=each 1 T1 (s0) rfl
 obtain ⟨a1,q1,r1,c1⟩:=h1 m _ y1 hm e1 w1
 rw [z1] at r1 c1
 obtain ⟨y2,e2,w2⟩:=each 2 T2 (s0+s1) rfl
 obtain ⟨a2,q2,r2,c2⟩:=h2 m _ y2 hm e2 w2
 rw [z2] at r2 c2
 obtain ⟨y3,e3,w3⟩:=each 3 T3 (s0+s1+s2) rfl
 obtain ⟨a3,q3,r3,c3⟩:=h3 m _ y3 hm e3 w3
 rw [z3] at r3 c3
 have hcs:cs=(cs.drop (0)).take s0++((cs.drop (s0)).take s1++((cs.drop (s0+s1)).take s2++(cs.drop (s0+s1+s2)).take s3)):=by
  have hl2:cs.length=s0+s1+s2+s3:=by rw [hl,hc]
  clear each hfield h
  apply List.ext_getElem?
  intro j
  simp only [List.getElem?_append,List.getElem?_take,List.getElem?_drop,List.length_take,List.length_drop]
  repeat' split
  all_goals first|(congr 1;omega)|(rw [List.getElem?_eq_none (by omega)])
 refine ⟨(a0,a1,a2,a3),⟨q0,q1,q2,q3⟩,?_,?_⟩
 ·rw [hcs];exact (r0.append (r1.append (r2.append r3)))
 ·intro u hu2
  rw [hcs] at hu2
  simp only [List.mem_append] at hu2
  rcases hu2 with hu2|hu2|hu2|hu2
  ·exact c0 u hu2
  ·exact c1 u hu2
  ·exact c2 u hu2
  ·exact c3 u hu2
theorem P3 {t:TypeId} {v:Value} {d:DataW H} {ps:List MemPlace} {α:Type} {D:α→DV} {Q:α→Prop} (h:∀ n,OpF enc P W n t (fun a=>[D a]) Q) (hv:v.cells.toList=[v])
  (hd:DataW.Trod enc P W 0 (fun _=>true) true t v d ps) (hw:∀ m∈DataW.weights P t d,m≤reachBytes):∃ a,Q a∧Rep W (fun b=>b<W.heap.size) (D a) v:=by
 obtain ⟨fuel,hf⟩:=hd
 obtain ⟨a,q,r,_⟩:=h fuel fuel _ _ (Nat.le_refl _) hf hw
 rw [hv] at r
 cases r with
 | cons r _=>exact ⟨a,q,r⟩
end
end Go.FL
