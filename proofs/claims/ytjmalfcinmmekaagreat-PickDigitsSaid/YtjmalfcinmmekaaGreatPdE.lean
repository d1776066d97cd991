/-
  Part 5 of the base of the proofs: a logic of our own over the calculus, the contracts of the functions
-/
import Derived.Test.YtjmalfcinmmekaaGreatPdD
set_option linter.unusedVariables false
namespace Go.FL
open Go Go.Proofs
def ET (a0:Int) : Option (Bool):=(some ((!(decide (a0=a0)))))
theorem GO {a0:Int} {r:Bool} (h:ET a0=some r) :
  Fn Tryz.prog 195 [.i .i64 a0] (.d (.b r)):=by
 unfold ET at h
 refine Fn.o1 2 6 Tryz.func195 ?_;refine .sr ?_;refine ar [0,2] ?_;refine .sr ?_;refine va ?_;refine va ?_;refine vb ?_;refine ar [2] ?_;refine .ret ?_
 cases h
 exact ⟨rfl,rfl⟩
def Ek (a0:Int) : Option (Bool):=(some ((!(decide (a0=a0)))))
theorem Gl {a0:Int} {r:Bool} (h:Ek a0=some r) :
  Fn Tryz.prog 194 [.i .i32 a0] (.d (.b r)):=by
 unfold Ek at h
 refine Fn.o1 2 6 Tryz.func194 ?_;refine .sr ?_;refine ar [0,2] ?_;refine .sr ?_;refine va ?_;refine va ?_;refine vb ?_;refine ar [2] ?_;refine .ret ?_
 cases h
 exact ⟨rfl,rfl⟩
def Cf (a0:Int) : Option (Bool):=(some ((!(decide (a0=a0)))))
theorem DN {a0:Int} {r:Bool} (h:Cf a0=some r) :
  Fn Tryz.prog 189 [.i .u8 a0] (.d (.b r)):=by
 unfold Cf at h
 refine Fn.o1 2 6 Tryz.func189 ?_;refine .sr ?_;refine ar [0,2] ?_;refine .sr ?_;refine va ?_;refine va ?_;refine vb ?_;refine ar [2] ?_;refine .ret ?_
 cases h
 exact ⟨rfl,rfl⟩
def DZ (a0:Int) (a1:Int) : Option (Int):=((ET a0).bind fun x1=>((ET a1).bind fun x2=>(if x1=true then (if x2=true then (some (0)) else (some ((-1)))) else (if x2=true then (some (1)) else (if a0<a1 then (some ((-1))) else (if a1<a0 then (some (1)) else (some (0))))))))
theorem FO {a0:Int} {a1:Int} {r:Int} (h:DZ a0 a1=some r) :
  Fn Tryz.prog 144 [.i .i64 a0,.i .i64 a1] (.d (.i .i64 r)):=by
 unfold DZ at h
 refine Fn.o1 4 20 Tryz.func144 ?_;refine .sr ?_;refine ar [0,1,4] ?_;refine .sr ?_;refine va ?_
 obtain ⟨x1,g1,h⟩:=bnd h
 refine vk (An (GO g1) Tryz.call195) ?_;refine ar [0,1,4,5] ?_;refine .sr ?_;refine va ?_
 obtain ⟨x2,g2,h⟩:=bnd h
 refine vk (An (GO g2) Tryz.call195) ?_;refine ar [0,1,4,5,6] ?_;refine .seq ?_;refine .sr ?_;refine va ?_;refine rk [0,1,4,6,11] ?_
 rcases brc h with ⟨hc,h⟩|⟨hc,h⟩
 ·refine cnt hc ?_
  refine .seq ?_;refine .sr ?_;refine va ?_;refine rk [0,1,4,6,12] ?_
  rcases brc h with ⟨hc,h⟩|⟨hc,h⟩
  ·refine cnt hc ?_
   refine .sr ?_;refine ar [0,1,4,6] ?_;refine .ret ?_
   cases h
   exact ⟨rfl,rfl⟩
  refine cnf (bf hc) ?_;refine .sk ?_;refine .sr ?_;refine ar [0,1,4,6] ?_;refine .ret ?_
  cases h
  exact ⟨rfl,rfl⟩
 refine cnf (bf hc) ?_;refine .sk ?_;refine .seq ?_;refine .sr ?_;refine va ?_;refine rk [0,1,4,13] ?_
 rcases brc h with ⟨hc,h⟩|⟨hc,h⟩
 ·refine cnt hc ?_
  refine .sr ?_;refine ar [0,1,4] ?_;refine .ret ?_
  cases h
  exact ⟨rfl,rfl⟩
 refine cnf (bf hc) ?_;refine .sk ?_;refine .seq ?_;refine .sr ?_;refine va ?_;refine va ?_;refine vb ?_;refine rk [0,1,4,16] ?_
 rcases brc h with ⟨hc,h⟩|⟨hc,h⟩
 ·refine cnt (dT hc) ?_
  refine .sr ?_;refine ar [0,1,4] ?_;refine .ret ?_
  cases h
  exact ⟨rfl,rfl⟩
 refine cnf (dF hc) ?_;refine .sk ?_;refine .seq ?_;refine .sr ?_;refine va ?_;refine va ?_;refine vb ?_;refine rk [4,19] ?_
 rcases brc h with ⟨hc,h⟩|⟨hc,h⟩
 ·refine cnt (dT hc) ?_
  refine .sr ?_;refine ar [4] ?_;refine .ret ?_
  cases h
  exact ⟨rfl,rfl⟩
 refine cnf (dF hc) ?_;refine .sk ?_;refine .sr ?_;refine ar [4] ?_;refine .ret ?_
 cases h
 exact ⟨rfl,rfl⟩
def EC (a0:Int) (a1:Int) : Option (Int):=((Ek a0).bind fun x1=>((Ek a1).bind fun x2=>(if x1=true then (if x2=true then (some (0)) else (some ((-1)))) else (if x2=true then (some (1)) else (if a0<a1 then (some ((-1))) else (if a1<a0 then (some (1)) else (some (0))))))))
theorem IM {a0:Int} {a1:Int} {r:Int} (h:EC a0 a1=some r) :
  Fn Tryz.prog 142 [.i .i32 a0,.i .i32 a1] (.d (.i .i64 r)):=by
 unfold EC at h
 refine Fn.o1 4 20 Tryz.func142 ?_;refine .sr ?_;refine ar [0,1,4] ?_;refine .sr ?_;refine va ?_
 obtain ⟨x1,g1,h⟩:=bnd h
 refine vk (An (Gl g1) Tryz.call194) ?_;refine ar [0,1,4,5] ?_;refine .sr ?_;refine va ?_
 obtain ⟨x2,g2,h⟩:=bnd h
 refine vk (An (Gl g2) Tryz.call194) ?_;refine ar [0,1,4,5,6] ?_;refine .seq ?_;refine .sr ?_;refine va ?_;refine rk [0,1,4,6,11] ?_
 rcases brc h with ⟨hc,h⟩|⟨hc,h⟩
 ·refine cnt hc ?_
  refine .seq ?_;refine .sr ?_;refine va ?_;refine rk [0,1,4,6,12] ?_
  rcases brc h with ⟨hc,h⟩|⟨hc,h⟩
  ·refine cnt hc ?_
   refine .sr ?_;refine ar [0,1,4,6] ?_;refine .ret ?_
   cases h
   exact ⟨rfl,rfl⟩
  refine cnf (bf hc) ?_;refine .sk ?_;refine .sr ?_;refine ar [0,1,4,6] ?_;refine .ret ?_
  cases h
  exact ⟨rfl,rfl⟩
 refine cnf (bf hc) ?_;refine .sk ?_;refine .seq ?_;refine .sr ?_;refine va ?_;refine rk [0,1,4,13] ?_
 rcases brc h with ⟨hc,h⟩|⟨hc,h⟩
 ·refine cnt hc ?_
  refine .sr ?_;refine ar [0,1,4] ?_;refine .ret ?_
  cases h
  exact ⟨rfl,rfl⟩
 refine cnf (bf hc) ?_;refine .sk ?_;refine .seq ?_;refine .sr ?_;refine va ?_;refine va ?_;refine vb ?_;refine rk [0,1,4,16] ?_
 rcases brc h with ⟨hc,h⟩|⟨hc,h⟩
 ·refine cnt (dT hc) ?_
  refine .sr ?_;refine ar [0,1,4] ?_;refine .ret ?_
  cases h
  exact ⟨rfl,rfl⟩
 refine cnf (dF hc) ?_;refine .sk ?_;refine .seq ?_;refine .sr ?_;refine va ?_;refine va ?_;refine vb ?_;refine rk [4,19] ?_
 rcases brc h with ⟨hc,h⟩|⟨hc,h⟩
 ·refine cnt (dT hc) ?_
  refine .sr ?_;refine ar [4] ?_;refine .ret ?_
  cases h
  exact ⟨rfl,rfl⟩
 refine cnf (dF hc) ?_;refine .sk ?_;refine .sr ?_;refine ar [4] ?_;refine .ret ?_
 cases h
 exact ⟨rfl,rfl⟩
def CH (a0:Int) (a1:Int) : Option (Int):=((Cf a0).bind fun x1=>((Cf a1).bind fun x2=>(if x1=true then (if x2=true then (some (0)) else (some ((-1)))) else (if x2=true then (some (1)) else (if a0<a1 then (some ((-1))) else (if a1<a0 then (some (1)) else (some (0))))))))
theorem FA {a0:Int} {a1:Int} {r:Int} (h:CH a0 a1=some r) :
  Fn Tryz.prog 140 [.i .u8 a0,.i .u8 a1] (.d (.i .i64 r)):=by
 unfold CH at h
 refine Fn.o1 4 20 Tryz.func140 ?_;refine .sr ?_;refine ar [0,1,4] ?_;refine .sr ?_;refine va ?_
 obtain ⟨x1,g1,h⟩:=bnd h
 refine vk (An (DN g1) Tryz.call189) ?_;refine ar [0,1,4,5] ?_;refine .sr ?_;refine va ?_
 obtain ⟨x2,g2,h⟩:=bnd h
 refine vk (An (DN g2) Tryz.call189) ?_;refine ar [0,1,4,5,6] ?_;refine .seq ?_;refine .sr ?_;refine va ?_;refine rk [0,1,4,6,11] ?_
 rcases brc h with ⟨hc,h⟩|⟨hc,h⟩
 ·refine cnt hc ?_
  refine .seq ?_;refine .sr ?_;refine va ?_;refine rk [0,1,4,6,12] ?_
  rcases brc h with ⟨hc,h⟩|⟨hc,h⟩
  ·refine cnt hc ?_
   refine .sr ?_;refine ar [0,1,4,6] ?_;refine .ret ?_
   cases h
   exact ⟨rfl,rfl⟩
  refine cnf (bf hc) ?_;refine .sk ?_;refine .sr ?_;refine ar [0,1,4,6] ?_;refine .ret ?_
  cases h
  exact ⟨rfl,rfl⟩
 refine cnf (bf hc) ?_;refine .sk ?_;refine .seq ?_;refine .sr ?_;refine va ?_;refine rk [0,1,4,13] ?_
 rcases brc h with ⟨hc,h⟩|⟨hc,h⟩
 ·refine cnt hc ?_
  refine .sr ?_;refine ar [0,1,4] ?_;refine .ret ?_
  cases h
  exact ⟨rfl,rfl⟩
 refine cnf (bf hc) ?_;refine .sk ?_;refine .seq ?_;refine .sr ?_;refine va ?_;refine va ?_;refine vb ?_;refine rk [0,1,4,16] ?_
 rcases brc h with ⟨hc,h⟩|⟨hc,h⟩
 ·refine cnt (dT hc) ?_
  refine .sr ?_;refine ar [0,1,4] ?_;refine .ret ?_
  cases h
  exact ⟨rfl,rfl⟩
 refine cnf (dF hc) ?_;refine .sk ?_;refine .seq ?_;refine .sr ?_;refine va ?_;refine va ?_;refine vb ?_;refine rk [4,19] ?_
 rcases brc h with ⟨hc,h⟩|⟨hc,h⟩
 ·refine cnt (dT hc) ?_
  refine .sr ?_;refine ar [4] ?_;refine .ret ?_
  cases h
  exact ⟨rfl,rfl⟩
 refine cnf (dF hc) ?_;refine .sk ?_;refine .sr ?_;refine ar [4] ?_;refine .ret ?_
 cases h
 exact ⟨rfl,rfl⟩
def DQ (a0:(List Int)) (K0:Int→Option (Int)) : Nat→Int→Int→Option (Int)
 | 0,_,_=>none
 | k+1,s2,s3=>(if s3<((List.length a0:Nat):Int) then ((rd? a0 s3).bind fun x4=>(if x4=0 then (DQ a0 K0 k s2 (w64 (s3+1))) else (some (x4)))) else (K0 s2))
def IY (a0:(List Int)) : Option (Int):=(jn (fun (z1:Int)=>(some (0))) fun K0=>(DQ a0 K0 AH 0 0))
theorem MY {a0:(List Int)} {r:Int} (h:IY a0=some r) :
  Fn Tryz.prog 143 [.sl (Is a0)] (.d (.i .i64 r)):=by
 unfold IY at h
 refine Fn.o1 2 18 Tryz.func143 ?_;refine .sr ?_;refine ar [0,2] ?_;refine .sr ?_;refine ar [0,2,3] ?_;refine .seq ?_;refine .sr ?_;refine va ?_;refine vk (Bg (Al _) (Dv _) Db) ?_;refine va ?_;refine rk [2,3,6,7,8] ?_
 obtain ⟨K0,hK0,h⟩:=AQ h
 refine AW.mr (σ:=Int) (fun p=>K0 p=some r) (fun p=>[(2,.d (.i .i64 p)),(3,.d (.i .i64 0))]) (fun p=>[]) ?_ ?_
 ·skip
  refine .block ?_
  refine .loop (.gk [2,3,6,7,8] ?_)
  refine AL.ind (σ:=Nat×Int×Int) (m:=fun p=>p.1) (e:=fun p=>[(2,.d (.i .i64 p.2.1)),(3,.d (.i .i64 0)),(6,.d (.sl (Is a0))),(7,.d (.i .i64 ((List.length a0:Nat):Int))),(8,.d (.i .i64 p.2.2))]) (h:=fun p=>[]) (I:=fun p=>DQ a0 K0 p.1 p.2.1 p.2.2=some r) ?_ (AH,0,0) h
  rintro ⟨k,s2,s3⟩ h ih
  dsimp only at h ih ⊢
  rcases k with _|k
  ·rw [DQ] at h;cases h
  rw [DQ] at h
  refine .sr ?_;refine vb ?_;refine rk [2,3,6,7,8,9] ?_;refine .seq ?_
  rcases brc h with ⟨hc,h⟩|⟨hc,h⟩
  ·refine cnt (dT hc) ?_
   refine .sk ?_;refine .seq ?_;refine .block ?_;refine .sr ?_
   obtain ⟨x4,g4,h⟩:=bnd h
   obtain ⟨n4,p04,q4⟩:=Ao g4
   refine vk (vix n4 p04 (BW q4) rfl BE) ?_;refine vk (AA AX) ?_;refine ar [2,3,5,6,7,8] ?_;refine .sr ?_;refine va ?_;refine va ?_;refine vb ?_;refine rk [2,3,5,6,7,8,14] ?_
   rcases brc h with ⟨hc,h⟩|⟨hc,h⟩
   ·refine cnf (ntf (dT hc)) ?_
    refine .sk ?_;refine .region ?_;refine vb ?_;refine va ?_;refine .nil ?_;refine AL.gk [2,3,6,7,8] ?_
    exact ih (k,s2,(w64 (s3+1))) h (Nat.lt_succ_self _)
   refine cnt (ntt (dF hc)) ?_;refine .sr ?_;refine va ?_;refine ar [2,3,6,7,8] ?_;refine .ret ?_
   cases h
   exact ⟨rfl,rfl⟩
  refine cnf (dF hc) ?_;refine .gk [2,3] ?_;refine .exit ?_
  exact jr (s2) h
 rintro z1 h
 try dsimp only at h ⊢
 subst hK0
 refine aw ?_;refine .sr ?_;refine va ?_;refine ar [2] ?_;refine .ret ?_
 cases h
 exact ⟨rfl,rfl⟩
def Bh (a0:(List Int)) (a1:(List Int)) (K0:Int→Option (Int)) : Nat→Int→Int→Option (Int)
 | 0,_,_=>none
 | k+1,s2,s3=>(if s3<((List.length a0:Nat):Int) then ((rd? a0 s3).bind fun x4=>(if ((List.length a1:Nat):Int)≤s3 then (some (1)) else ((rd? a1 s3).bind fun x5=>((DZ x4 x5).bind fun x6=>(if x6=0 then (Bh a0 a1 K0 k s2 (w64 (s3+1))) else (some (x6))))))) else (K0 s2))
def C0 (a0:(List Int)) (a1:(List Int)) : Option (Int):=(jn (fun (z1:Int)=>(if ((List.length a0:Nat) : Int)<((List.length a1:Nat) : Int) then (some ((-1))) else (some (0)))) fun K0=>(Bh a0 a1 K0 AH 0 0))
theorem Gg {a0:(List Int)} {a1:(List Int)} {r:Int} (h:C0 a0 a1=some r) :
  Fn Tryz.prog 145 [.sl (Is a0),.sl (Is a1)] (.d (.i .i64 r)):=by
 unfold C0 at h
 refine Fn.o1 4 36 Tryz.func145 ?_;refine .sr ?_;refine ar [0,1,4] ?_;refine .seq ?_;refine .sr ?_;refine va ?_;refine vk (Bg (Al _) (Dv _) Db) ?_;refine va ?_;refine rk [0,1,4,9,10,11] ?_
 obtain ⟨K0,hK0,h⟩:=AQ h
 refine AW.mr (σ:=Int) (fun p=>K0 p=some r) (fun p=>[(0,.d (.sl (Is a0))),(1,.d (.sl (Is a1))),(4,.d (.i .i64 p))]) (fun p=>[]) ?_ ?_
 ·skip
  refine .block ?_
  refine .loop (.gk [0,1,4,9,10,11] ?_)
  refine AL.ind (σ:=Nat×Int×Int) (m:=fun p=>p.1) (e:=fun p=>[(0,.d (.sl (Is a0))),(1,.d (.sl (Is a1))),(4,.d (.i .i64 p.2.1)),(9,.d (.sl (Is a0))),(10,.d (.i .i64 ((List.length a0:Nat):Int))),(11,.d (.i .i64 p.2.2))]) (h:=fun p=>[]) (I:=fun p=>Bh a0 a1 K0 p.1 p.2.1 p.2.2=some r) ?_ (AH,0,0) h
  rintro ⟨k,s2,s3⟩ h ih
  dsimp only at h ih ⊢
  rcases k with _|k
  ·rw [Bh] at h;cases h
  rw [Bh] at h
  refine .sr ?_;refine vb ?_;refine rk [0,1,4,9,10,11,12] ?_;refine .seq ?_
  rcases brc h with ⟨hc,h⟩|⟨hc,h⟩
  ·refine cnt (dT hc) ?_
   refine .sk ?_;refine .seq ?_;refine .block ?_;refine .sr ?_;refine va ?_
   obtain ⟨x4,g4,h⟩:=bnd h
   obtain ⟨n4,p04,q4⟩:=Ao g4
   refine vk (vix n4 p04 (BW q4) rfl BE) ?_;refine vk (AA AX) ?_;refine asd ?_;refine ar [0,1,4,5,6,9,10,11] ?_;refine .seq ?_;refine .sr ?_;refine va ?_;refine va ?_;refine vk (Bg (Al _) (Dv _) Db) ?_;refine vb ?_;refine rk [0,1,4,5,6,9,10,11,19] ?_
   rcases brc h with ⟨hc,h⟩|⟨hc,h⟩
   ·refine cnt (dT hc) ?_
    refine .sr ?_;refine ar [0,1,4,5,6,9,10,11] ?_;refine .ret ?_
    cases h
    exact ⟨rfl,rfl⟩
   refine cnf (dF hc) ?_;refine .sk ?_;refine .sr ?_;refine va ?_;refine va ?_
   obtain ⟨x5,g5,h⟩:=bnd h
   obtain ⟨n5,p05,q5⟩:=Ao g5
   refine vk (vix n5 p05 (BW q5) rfl BE) ?_;refine vk (AA AX) ?_;refine ar [0,1,4,6,7,9,10,11] ?_;refine .sr ?_;refine va ?_;refine va ?_
   obtain ⟨x6,g6,h⟩:=bnd h
   refine vk (An (FO g6) Tryz.call144) ?_;refine ar [0,1,4,8,9,10,11] ?_;refine .sr ?_;refine va ?_;refine vb ?_;refine rk [0,1,4,8,9,10,11,28] ?_
   rcases brc h with ⟨hc,h⟩|⟨hc,h⟩
   ·refine cnf (ntf (dT hc)) ?_
    refine .sk ?_;refine .region ?_;refine vb ?_;refine va ?_;refine .nil ?_;refine AL.gk [0,1,4,9,10,11] ?_
    exact ih (k,s2,(w64 (s3+1))) h (Nat.lt_succ_self _)
   refine cnt (ntt (dF hc)) ?_;refine .sr ?_;refine va ?_;refine ar [0,1,4,9,10,11] ?_;refine .ret ?_
   cases h
   exact ⟨rfl,rfl⟩
  refine cnf (dF hc) ?_;refine .gk [0,1,4] ?_;refine .exit ?_
  exact jr (s2) h
 rintro z1 h
 try dsimp only at h ⊢
 subst hK0
 refine aw ?_;refine .seq ?_;refine .sr ?_;refine va ?_;refine vk (Bg (Al _) (Dv _) Db) ?_;refine va ?_;refine vk (Bg (Al _) (Dv _) Db) ?_;refine vb ?_;refine rk [4,35] ?_
 rcases brc h with ⟨hc,h⟩|⟨hc,h⟩
 ·refine cnt (dT hc) ?_
  refine .sr ?_;refine ar [4] ?_;refine .ret ?_
  cases h
  exact ⟨rfl,rfl⟩
 refine cnf (dF hc) ?_;refine .sk ?_;refine .sr ?_;refine ar [4] ?_;refine .ret ?_
 cases h
 exact ⟨rfl,rfl⟩
def Ap (a0:(List Itm)) (a1:(List Itm)) (a2:Da) (K0:Int→Option (Int)) : Nat→Int→Int→Option (Int)
 | 0,_,_=>none
 | k+1,s2,s3=>(if s3<((List.length a0:Nat):Int) then ((rd? a0 s3).bind fun x4=>(if ((List.length a1:Nat):Int)≤s3 then (some (1)) else ((rd? a1 s3).bind fun x5=>((a2.g (x4,x5)).bind fun x6=>(if x6=0 then (Ap a0 a1 a2 K0 k s2 (w64 (s3+1))) else (some (x6))))))) else (K0 s2))
def AJ (a0:(List Itm)) (a1:(List Itm)) (a2:Da) : Option (Int):=(jn (fun (z1:Int)=>(if ((List.length a0:Nat) : Int)<((List.length a1:Nat) : Int) then (some ((-1))) else (some (0)))) fun K0=>(Ap a0 a1 a2 K0 AH 0 0))
theorem BT {a0:(List Itm)} {a1:(List Itm)} {a2:Da} (oa2:KP a2) {r:Int} (h:AJ a0 a1 a2=some r) :
  Fn Tryz.prog 146 [.sl (Its a0),.sl (Its a1),a2.dv] (.d (.i .i64 r)):=by
 unfold AJ at h
 refine Fn.o1 6 39 Tryz.func146 ?_;refine .sr ?_;refine ar [0,1,2,6] ?_;refine .seq ?_;refine .sr ?_;refine va ?_;refine vk (Bg (AK _) (CM _) CU) ?_;refine va ?_;refine rk [0,1,2,6,11,12,13] ?_
 obtain ⟨K0,hK0,h⟩:=AQ h
 refine AW.mr (σ:=Int) (fun p=>K0 p=some r) (fun p=>[(0,.d (.sl (Its a0))),(1,.d (.sl (Its a1))),(6,.d (.i .i64 p))]) (fun p=>[]) ?_ ?_
 ·skip
  refine .block ?_
  refine .loop (.gk [0,1,2,6,11,12,13] ?_)
  refine AL.ind (σ:=Nat×Int×Int) (m:=fun p=>p.1) (e:=fun p=>[(0,.d (.sl (Its a0))),(1,.d (.sl (Its a1))),(2,.d (a2.dv)),(6,.d (.i .i64 p.2.1)),(11,.d (.sl (Its a0))),(12,.d (.i .i64 ((List.length a0:Nat):Int))),(13,.d (.i .i64 p.2.2))]) (h:=fun p=>[]) (I:=fun p=>Ap a0 a1 a2 K0 p.1 p.2.1 p.2.2=some r) ?_ (AH,0,0) h
  rintro ⟨k,s2,s3⟩ h ih
  dsimp only at h ih ⊢
  rcases k with _|k
  ·rw [Ap] at h;cases h
  rw [Ap] at h
  refine .sr ?_;refine vb ?_;refine rk [0,1,2,6,11,12,13,14] ?_;refine .seq ?_
  rcases brc h with ⟨hc,h⟩|⟨hc,h⟩
  ·refine cnt (dT hc) ?_
   refine .sk ?_;refine .seq ?_;refine .block ?_;refine .sr ?_;refine va ?_
   obtain ⟨x4,g4,h⟩:=bnd h
   obtain ⟨n4,p04,q4⟩:=Ao g4
   refine vk (vix n4 p04 (DD q4) rfl DB) ?_;refine vk (Ay Bk AG) ?_;refine vk (van (Ah CQ) CL) ?_;refine asd ?_
   refine stn ?_ AG (by decide)
   refine rk [0,1,2,6,7,8,11,12,13] ?_;refine .seq ?_;refine .sr ?_;refine va ?_;refine va ?_;refine vk (Bg (AK _) (CM _) CU) ?_;refine vb ?_;refine rk [0,1,2,6,7,8,11,12,13,21] ?_
   rcases brc h with ⟨hc,h⟩|⟨hc,h⟩
   ·refine cnt (dT hc) ?_
    refine .sr ?_;refine ar [0,1,2,6,7,8,11,12,13] ?_;refine .ret ?_
    cases h
    exact ⟨rfl,rfl⟩
   refine cnf (dF hc) ?_;refine .sk ?_;refine .sr ?_;refine va ?_;refine va ?_
   obtain ⟨x5,g5,h⟩:=bnd h
   obtain ⟨n5,p05,q5⟩:=Ao g5
   refine vk (vix n5 p05 (DD q5) rfl DB) ?_;refine vk (Ay Bk AG) ?_;refine vk (van (Ah CQ) CL) ?_
   refine stn ?_ AG (by decide)
   refine rk [0,1,2,6,8,9,11,12,13] ?_;refine .sr ?_;refine va ?_;refine vk (Dq Bk AG) ?_;refine vk (Dq Bk AG) ?_
   obtain ⟨x6,g6,h⟩:=bnd h
   refine vk (Mz (oa2 _ _ g6)) ?_;refine ar [0,1,2,6,10,11,12,13] ?_;refine .sr ?_;refine va ?_;refine vb ?_;refine rk [0,1,2,6,10,11,12,13,31] ?_
   rcases brc h with ⟨hc,h⟩|⟨hc,h⟩
   ·refine cnf (ntf (dT hc)) ?_
    refine .sk ?_;refine .region ?_;refine vb ?_;refine va ?_;refine .nil ?_;refine AL.gk [0,1,2,6,11,12,13] ?_
    exact ih (k,s2,(w64 (s3+1))) h (Nat.lt_succ_self _)
   refine cnt (ntt (dF hc)) ?_;refine .sr ?_;refine va ?_;refine ar [0,1,2,6,11,12,13] ?_;refine .ret ?_
   cases h
   exact ⟨rfl,rfl⟩
  refine cnf (dF hc) ?_;refine .gk [0,1,6] ?_;refine .exit ?_
  exact jr (s2) h
 rintro z1 h
 try dsimp only at h ⊢
 subst hK0
 refine aw ?_;refine .seq ?_;refine .sr ?_;refine va ?_;refine vk (Bg (AK _) (CM _) CU) ?_;refine va ?_;refine vk (Bg (AK _) (CM _) CU) ?_;refine vb ?_;refine rk [6,38] ?_
 rcases brc h with ⟨hc,h⟩|⟨hc,h⟩
 ·refine cnt (dT hc) ?_
  refine .sr ?_;refine ar [6] ?_;refine .ret ?_
  cases h
  exact ⟨rfl,rfl⟩
 refine cnf (dF hc) ?_;refine .sk ?_;refine .sr ?_;refine ar [6] ?_;refine .ret ?_
 cases h
 exact ⟨rfl,rfl⟩
def IB (rc_pick_order:Itm→Itm→Option (Int)) (a0:Itm) (a1:Itm) : Option (Int):=(if a0.kind=a1.kind then (if a0.kind=1 then ((H6 a0.num a1.num).bind fun x1=>(some (x1))) else (if a0.kind=2 then ((EC a0.char a1.char).bind fun x2=>(some (x2))) else ((rd? a0.box 0).bind fun x3=>((rd? a1.box 0).bind fun x4=>((DZ ((List.length x3.shape:Nat) : Int) ((List.length x4.shape:Nat) : Int)).bind fun x5=>((C0 x3.shape x4.shape).bind fun x6=>((AJ x3.items x4.items (⟨.fn 83 [] [],fun x=>rc_pick_order x.1 x.2⟩ : Da)).bind fun x7=>((IY ([x5,x6,x7])).bind fun x8=>(some (x8)))))))))) else ((CH a0.kind a1.kind).bind fun x9=>(some (x9))))
theorem NV {rc_pick_order:Itm→Itm→Option (Int)} (orc_pick_order:∀ x0 x1 r,rc_pick_order x0 x1=some r→Fn Tryz.prog 83 [.ag [.i .u8 x0.kind,.b x0.num.1,.sl (L x0.num.2.1),.sl (L x0.num.2.2),.i .i32 x0.char,.sl (Ars x0.box)],.ag [.i .u8 x1.kind,.b x1.num.1,.sl (L x1.num.2.1),.sl (L x1.num.2.2),.i .i32 x1.char,.sl (Ars x1.box)]] (.d (.i .i64 r))) {a0:Itm} {a1:Itm} {r:Int} (h:IB rc_pick_order a0 a1=some r) :
  Fn Tryz.prog 83 [.ag [.i .u8 a0.kind,.b a0.num.1,.sl (L a0.num.2.1),.sl (L a0.num.2.2),.i .i32 a0.char,.sl (Ars a0.box)],.ag [.i .u8 a1.kind,.b a1.num.1,.sl (L a1.num.2.1),.sl (L a1.num.2.2),.i .i32 a1.char,.sl (Ars a1.box)]] (.d (.i .i64 r)):=by
 unfold IB at h
 refine Fn.o1 4 60 Tryz.func83 ?_;refine .sr ?_;refine vk vbx ?_;refine vk vbx ?_;refine ar [2,3,4] ?_;refine .seq ?_;refine .sr ?_;refine vk (vfa C7) ?_;refine vk (AA BG) ?_;refine vk (vfa C7) ?_;refine vk (AA BG) ?_;refine vb ?_;refine rk [2,3,4,11] ?_
 rcases brc h with ⟨hc,h⟩|⟨hc,h⟩
 ·refine cnf (ntf (dT hc)) ?_
  refine .sk ?_;refine .seq ?_;refine .sr ?_;refine vk (vfa C7) ?_;refine vk (AA BG) ?_;refine rk [2,3,4,18] ?_;refine .block ?_;refine .sr ?_;refine vb ?_;refine ar [2,3,4,18,19] ?_
  rcases brc h with ⟨hc,h⟩|⟨hc,h⟩
  ·refine cnt (dT hc) ?_
   refine .sr ?_;refine vk (vfa Cw) ?_;refine vk (Ay AT Az) ?_;refine vk (vfa Cw) ?_;refine vk (Ay AT Az) ?_
   obtain ⟨x1,g1,h⟩:=bnd h
   refine vk (An (LH g1) Tryz.call141) ?_;refine ar [2,3,4] ?_;refine .ret ?_
   cases h
   exact ⟨rfl,rfl⟩
  refine cnf (dF hc) ?_;refine .sr ?_;refine vb ?_;refine ar [2,3,4,26] ?_
  rcases brc h with ⟨hc,h⟩|⟨hc,h⟩
  ·refine cnt (dT hc) ?_
   refine .sr ?_;refine vk (vfa Fc) ?_;refine vk (AA E6) ?_;refine vk (vfa Fc) ?_;refine vk (AA E6) ?_
   obtain ⟨x2,g2,h⟩:=bnd h
   refine vk (An (IM g2) Tryz.call142) ?_;refine ar [2,3,4] ?_;refine .ret ?_
   cases h
   exact ⟨rfl,rfl⟩
  refine cnf (dF hc) ?_;refine .sk ?_;refine .seq ?_
  obtain ⟨x3,g3,h⟩:=bnd h
  obtain ⟨x4,g4,h⟩:=bnd h
  refine .drawnF 10 [4,5,6,7] [(5,.nb [.sl (Is x3.shape),.sl (Its x3.items)])] [] A9 (by kernel_rfl) rfl ?_;refine dv (vfa Cm) ?_;refine dv (AA Ej) ?_
  obtain ⟨n3,p03,q3⟩:=Ao g3
  refine dv (vix n3 p03 (FM q3) rfl FR) ?_;refine dv (Ay Ai Ac) ?_;refine dv (vfa Cm) ?_;refine dv (AA Ej) ?_
  obtain ⟨n4,p04,q4⟩:=Ao g4
  refine dv (vix n4 p04 (FM q4) rfl FR) ?_;refine dv (Ay Ai Ac) ?_;refine dv (van (Ah AS) AY) ?_;refine dv (van (Ah AS) AY) ?_;refine dz ?_
  refine ⟨?_,?_,?_⟩
  ·intro k hk
   simp only [List.mem_cons,List.not_mem_nil,or_false] at hk
   rcases hk with rfl|rfl|rfl|rfl
   ·exact ⟨_,_,_,rfl,rfl,rfl,rfl,rfl,rfl,(vfa Cm)⟩
   ·exact ⟨_,_,_,rfl,rfl,rfl,rfl,rfl,rfl,(AA Ej)⟩
   ·exact ⟨_,_,_,rfl,rfl,rfl,rfl,rfl,rfl,(vix n4 p04 (FM q4) rfl FR)⟩
   ·exact ⟨_,_,_,rfl,rfl,rfl,rfl,rfl,rfl,(Ay Ai Ac)⟩
  ·intro om e hom hge
   cases hom
   exact Gc (cs:=[.sl (Is []),.sl (Its [])]) (cs':=[.sl (Is x3.shape),.sl (Its x3.items)]) Ac (by decide) rfl ((hge 5 (fun k hk v hv=>by
     simp only [List.mem_cons,List.not_mem_nil,or_false] at hk
     rcases hk with rfl|rfl|rfl|rfl
     ·exact (by decide:¬(some 37=some 5)) (congrArg (Option.map Prod.fst) hv)
     ·exact (by decide:¬(some 38=some 5)) (congrArg (Option.map Prod.fst) hv)
     ·exact (by decide:¬(some 39=some 5)) (congrArg (Option.map Prod.fst) hv)
     ·exact (by decide:¬(some 40=some 5)) (congrArg (Option.map Prod.fst) hv))).trans rfl) ((congrArg A7 (hge 36 (fun k hk v hv=>by
     simp only [List.mem_cons,List.not_mem_nil,or_false] at hk
     rcases hk with rfl|rfl|rfl|rfl
     ·exact (by decide:¬(some 37=some 36)) (congrArg (Option.map Prod.fst) hv)
     ·exact (by decide:¬(some 38=some 36)) (congrArg (Option.map Prod.fst) hv)
     ·exact (by decide:¬(some 39=some 36)) (congrArg (Option.map Prod.fst) hv)
     ·exact (by decide:¬(some 40=some 36)) (congrArg (Option.map Prod.fst) hv)))).trans rfl) rfl rfl rfl rfl ⟨rfl,rfl⟩
  refine stn ?_ Ac (by decide)
  refine rk [4,5,6] ?_;refine .seq ?_;refine .gh (Gh.nbp (t:=5) rfl) ?_;refine .gh (Gh.nbp (t:=6) rfl) ?_;refine .drawn 19 A9 (by kernel_rfl) ?_;refine dv (vfa Br) ?_;refine dv (AA Du) ?_;refine dv (Bg (Al _) (Dv _) Db) ?_;refine dv (vfa Br) ?_;refine dv (AA Du) ?_;refine dv (Bg (Al _) (Dv _) Db) ?_
  obtain ⟨x5,g5,h⟩:=bnd h
  refine dv (An (FO g5) Tryz.call144) ?_;refine dv (vfa Br) ?_;refine dv (AA Du) ?_;refine dv (vfa Br) ?_;refine dv (AA Du) ?_
  obtain ⟨x6,g6,h⟩:=bnd h
  refine dv (An (Gg g6) Tryz.call145) ?_;refine dv (vfa Bx) ?_;refine dv (AA CZ) ?_;refine dv (vfa Bx) ?_;refine dv (AA CZ) ?_
  obtain ⟨x7,g7,h⟩:=bnd h
  refine dv (An (BT (KQ Tryz.call83 (fun _ _ h=>orc_pick_order _ _ _ h)) g7) Tryz.call146) ?_;refine dv ((F3 (Fx [x5,x6,x7]) FN).deep) ?_
  obtain ⟨x8,g8,h⟩:=bnd h
  refine dv (An (MY g8) Tryz.call143) ?_;refine dz ?_;refine ar [4] ?_;refine .ret ?_
  cases h
  exact ⟨rfl,rfl⟩
 refine cnt (ntt (dF hc)) ?_;refine .sr ?_;refine vk (vfa C7) ?_;refine vk (AA BG) ?_;refine vk (vfa C7) ?_;refine vk (AA BG) ?_
 obtain ⟨x9,g9,h⟩:=bnd h
 refine vk (An (FA g9) Tryz.call140) ?_;refine ar [2,3,4] ?_;refine .ret ?_
 cases h
 exact ⟨rfl,rfl⟩
def Hd : Nat→Itm→Itm→Option (Int)
 | 0,_,_=>none
 | k+1,a0,a1=>IB (Hd k) a0 a1
theorem IR : ∀ (k:Nat) (a0:Itm) (a1:Itm) (r:Int),Hd k a0 a1=some r→Fn Tryz.prog 83 [.ag [.i .u8 a0.kind,.b a0.num.1,.sl (L a0.num.2.1),.sl (L a0.num.2.2),.i .i32 a0.char,.sl (Ars a0.box)],.ag [.i .u8 a1.kind,.b a1.num.1,.sl (L a1.num.2.1),.sl (L a1.num.2.2),.i .i32 a1.char,.sl (Ars a1.box)]] (.d (.i .i64 r))
 | 0,_,_,_,h=>by cases h
 | k+1,a0,a1,_,h=>NV (IR k)  (show IB (Hd k) a0 a1=some _ from h)
def P2 (a0:Itm) (a1:Itm) : Option (Int):=Hd (a0.size+1) a0 a1
theorem O0 {a0:Itm} {a1:Itm} {r:Int} (h:P2 a0 a1=some r) : Fn Tryz.prog 83 [.ag [.i .u8 a0.kind,.b a0.num.1,.sl (L a0.num.2.1),.sl (L a0.num.2.2),.i .i32 a0.char,.sl (Ars a0.box)],.ag [.i .u8 a1.kind,.b a1.num.1,.sl (L a1.num.2.1),.sl (L a1.num.2.2),.i .i32 a1.char,.sl (Ars a1.box)]] (.d (.i .i64 r)):=IR _ a0 a1 r  h
def E4 (a0:Int) : Option (Itm):=((BZ a0).bind fun x1=>(some ((Itm.mk 1 x1 0 []))))
theorem MG {a0:Int} {r:Itm} (h:E4 a0=some r) :
  Fn Tryz.prog 101 [.i .i64 a0] (.d (.ag [.i .u8 r.kind,.b r.num.1,.sl (L r.num.2.1),.sl (L r.num.2.2),.i .i32 r.char,.sl (Ars r.box)])):=by
 unfold E4 at h
 refine Fn.ofC (rs:=[.cell 2 51]) (nt:=6) Tryz.func101 rfl rfl rfl (by simp) rfl ?_;refine .sr ?_;refine vk (van (Ah CQ) CL) ?_;refine rk [0,2] ?_;refine .sr ?_;refine va ?_
 obtain ⟨x1,g1,h⟩:=bnd h
 refine vk (An (CY g1) Tryz.call37) ?_;refine vk (vbd Kt CQ CL) ?_
 refine stn ?_ AG (by decide)
 refine rk [2] ?_;refine .ret ?_
 cases h
 exact ⟨_,⟨.inr rfl,Bk,AG,p6⟩,rfl⟩
def G0 (a0:Int) (a1:Int) (c0:Int) (c1:(List Itm)) (c2:(Int×RT×Int)) : Option (Int):=((rd? c1 (w64 (a0-c2.1))).bind fun x1=>((rd? c1 (w64 (a1-c2.1))).bind fun x2=>((P2 x1 x2).bind fun x3=>(some ((w64 (c0 * x3)))))))
theorem La {a0:Int} {a1:Int} {c0:Int} {c1:(List Itm)} {c2:(Int×RT×Int)} {r:Int} (h:G0 a0 a1 c0 c1 c2=some r) :
  Fn Tryz.prog 128 [.i .i64 a0,.i .i64 a1,.ptr [.i .i64 c0],.ptr [.sl (Its c1)],.ptr [.i .i64 c2.1,.b c2.2.1.1,.sl (L c2.2.1.2.1),.sl (L c2.2.1.2.2),.i .i64 c2.2.2]] (.d (.i .i64 r)):=by
 unfold G0 at h
 refine Fn.o1 7 25 Tryz.func128 ?_;refine .sr ?_;refine ar [0,1,2,3,4,7] ?_;refine .seq ?_;refine .drawn 17 A9 (by kernel_rfl) ?_;refine dv (AA AX) ?_;refine dv (AA CZ) ?_;refine dv Ae ?_;refine dv (vfa Js) ?_;refine dv (AA AX) ?_;refine dv vbi ?_
 obtain ⟨x1,g1,h⟩:=bnd h
 obtain ⟨n1,p01,q1⟩:=Ao g1
 refine dv (vix n1 p01 (DD q1) rfl DB) ?_;refine dv (Ay Bk AG) ?_;refine dv (AA CZ) ?_;refine dv Ae ?_;refine dv (vfa Js) ?_;refine dv (AA AX) ?_;refine dv vbi ?_
 obtain ⟨x2,g2,h⟩:=bnd h
 obtain ⟨n2,p02,q2⟩:=Ao g2
 refine dv (vix n2 p02 (DD q2) rfl DB) ?_;refine dv (Ay Bk AG) ?_
 obtain ⟨x3,g3,h⟩:=bnd h
 refine dv (An (O0 g3) Tryz.call83) ?_;refine dv vbi ?_;refine dz ?_;refine ar [7] ?_;refine .ret ?_
 cases h
 exact ⟨rfl,rfl⟩
def DT (a0:(Int×RT×Int)) (a1:(List Itm)) (K0:(List Int)→Option (Arr)) : Nat→(List Int)→Int→Option (Arr)
 | 0,_,_=>none
 | k+1,s3,s4=>(if s4<((List.length (List.replicate (Int.toNat ((List.length a1:Nat):Int)) (0:Int)):Nat):Int) then ((rd? s3 s4).bind fun x5=>(DT a0 a1 K0 k (List.set s3 (Int.toNat s4) (w64 (s4+a0.1))) (w64 (s4+1)))) else (K0 s3))
def Jf (a0:(Int×RT×Int)) (a1:(List Itm)) (a2:Int) : Option (Arr):=((Gf (0≤((List.length a1:Nat) : Int)∧((List.length a1:Nat) : Int)≤17592186044416)).bind fun x1=>(jn (fun (z2:(List Int))=>((N3 z2 (⟨.fn 128 [] [.ptr [.i .i64 a2],.ptr [.sl (Its a1)],.ptr [.i .i64 a0.1,.b a0.2.1.1,.sl (L a0.2.1.2.1),.sl (L a0.2.1.2.2),.i .i64 a0.2.2]],fun x=>G0 x.1 x.2 a2 a1 a0⟩ : Ak)).bind fun x6=>((FK x6).bind fun x7=>(some (x7))))) fun K0=>(DT a0 a1 K0 AH (List.replicate (Int.toNat ((List.length a1:Nat) : Int)) (0:Int)) 0)))
theorem MN {a0:(Int×RT×Int)} {a1:(List Itm)} {a2:Int} {r:Arr} (h:Jf a0 a1 a2=some r) :
  Fn Tryz.prog 70 [.ag [.i .i64 a0.1,.b a0.2.1.1,.sl (L a0.2.1.2.1),.sl (L a0.2.1.2.2),.i .i64 a0.2.2],.sl (Its a1),.i .i64 a2] (.d (.ag [.sl (Is r.shape),.sl (Its r.items)])):=by
 unfold Jf at h
 refine Fn.ofC (rs:=[.cell 6 27]) (nt:=30) Tryz.func70 rfl rfl rfl (by simp) rfl ?_;refine .sr ?_;refine vk vbx ?_;refine vk WI ?_;refine vk WI ?_;refine vk (van (Ah AS) AY) ?_;refine rk [3,4,5,6] ?_;refine .sr ?_;refine vk (AA CZ) ?_;refine vk (Bg (AK _) (CM _) CU) ?_
 obtain ⟨x1,g1,h⟩:=bnd h
 have ghx1:=Hf g1
 refine mk' (F:=Is) (x0:=0) (zl:=((List.length a1:Nat):Int)) (Int.toNat ((List.length a1:Nat):Int)) WJ (by omega) (by omega) ?_ FN (by decide)
 refine aso ?_;refine rk [3,4,5,6,7] ?_;refine .seq ?_;refine .sr ?_;refine mvo ?_;refine vk (VZ (Al _) Db) ?_;refine va ?_;refine rk [3,4,5,6,7,13,14] ?_
 obtain ⟨K0,hK0,h⟩:=AQ h
 refine AW.mr (σ:=(List Int)) (fun p=>K0 p=some r) (fun p=>[(3,.d (.ptr [.i .i64 a0.1,.b a0.2.1.1,.sl (L a0.2.1.2.1),.sl (L a0.2.1.2.2),.i .i64 a0.2.2])),(4,.d (.ptr [.sl (Its a1)])),(5,.d (.ptr [.i .i64 a2])),(6,.nb [.sl (Is []),.sl (Its [])]),(7,.own 3 (Is p))]) (fun p=>[]) ?_ ?_
 ·skip
  refine .block ?_
  refine .loop (.gk [3,4,5,6,7,13,14] ?_)
  refine AL.ind (σ:=Nat×(List Int)×Int) (m:=fun p=>p.1) (e:=fun p=>[(3,.d (.ptr [.i .i64 a0.1,.b a0.2.1.1,.sl (L a0.2.1.2.1),.sl (L a0.2.1.2.2),.i .i64 a0.2.2])),(4,.d (.ptr [.sl (Its a1)])),(5,.d (.ptr [.i .i64 a2])),(6,.nb [.sl (Is []),.sl (Its [])]),(7,.own 3 (Is p.2.1)),(13,.d (.i .i64 ((List.length (List.replicate (Int.toNat ((List.length a1:Nat):Int)) (0:Int)):Nat):Int))),(14,.d (.i .i64 p.2.2))]) (h:=fun p=>[]) (I:=fun p=>DT a0 a1 K0 p.1 p.2.1 p.2.2=some r) ?_ (AH,(List.replicate (Int.toNat ((List.length a1:Nat):Int)) (0:Int)),0) h
  rintro ⟨k,s3,s4⟩ h ih
  dsimp only at h ih ⊢
  rcases k with _|k
  ·rw [DT] at h;cases h
  rw [DT] at h
  refine .sr ?_;refine vb ?_;refine rk [3,4,5,6,7,13,14,15] ?_;refine .seq ?_
  rcases brc h with ⟨hc,h⟩|⟨hc,h⟩
  ·refine cnt (dT hc) ?_
   refine .sk ?_;refine .seq ?_;refine .block ?_;refine .sr ?_;refine va ?_;refine ar [3,4,5,6,7,8,13,14] ?_;refine .region ?_;refine mvo ?_;refine va ?_;refine va ?_;refine vk (vfa Js) ?_;refine vk (AA AX) ?_;refine vb ?_
   obtain ⟨x5,g5,h⟩:=bnd h
   obtain ⟨n5,p05,q5⟩:=Ao g5
   refine ixr (off:=0) (len:=(Is s3).length) n5 p05 (by rw [Al];exact (lS.1 q5).1) ?_ BE (by decide)
   refine Ti (F:=Is) (D:=fun x=>.i .i64 x) G7 (us:=s3) (n:=n5) (m:=Int.toNat s4) (x:=(w64 (s4+a0.1))) (by rw [p05];rfl) ⟨_,by rw [Nat.zero_add];exact BW q5,rfl⟩ ?_ Ds
   refine RL.gk [3,4,5,6,7,8,13,14,17,18,19,20,21,22] ?_;refine .nil ?_;refine aw ?_;refine .gk [3,4,5,6,7,13,14] ?_;refine .region ?_;refine vb ?_;refine va ?_;refine .nil ?_;refine AL.gk [3,4,5,6,7,13,14] ?_
   exact ih (k,(List.set s3 (Int.toNat s4) (w64 (s4+a0.1))),(w64 (s4+1))) h (Nat.lt_succ_self _)
  refine cnf (dF hc) ?_;refine .gk [3,4,5,6,7] ?_;refine .exit ?_
  exact jr (s3) h
 rintro z2 h
 try dsimp only at h ⊢
 subst hK0
 refine aw ?_;refine .sr ?_;refine mvo ?_;refine vk X0 ?_
 obtain ⟨x6,g6,h⟩:=bnd h
 refine Lb (Is x6) ?_ (Q0 (KQ Tryz.call128 (fun _ _ h=>La h)) g6) Tryz.call127
 refine RL.gk [3,4,5,6,7,26,27] ?_;refine rk [6,7] ?_;refine .sr ?_;refine fz (p:=.t 7) ?_;refine va ?_
 obtain ⟨x7,g7,h⟩:=bnd h
 refine vk (An (EA g7) Tryz.call15) ?_
 refine stn ?_ Ac (by decide)
 refine rk [6] ?_;refine .ret ?_
 cases h
 exact ⟨_,⟨.inr rfl,Ai,Ac,p2⟩,rfl⟩
def C2 (a0:Arr) : Option (Bool):=((Bl a0).bind fun x1=>(some ((!x1))))
theorem HD {a0:Arr} {r:Bool} (h:C2 a0=some r) :
  Fn Tryz.prog 96 [.ag [.sl (Is a0.shape),.sl (Its a0.items)]] (.d (.b r)):=by
 unfold C2 at h
 refine Fn.o1 2 6 Tryz.func96 ?_;refine .sr ?_;refine vk vbx ?_;refine ar [1,2] ?_;refine .sr ?_;refine vk (Ay Ai Ac) ?_
 obtain ⟨x1,g1,h⟩:=bnd h
 refine vk (An (DC g1) Tryz.call54) ?_;refine vk vnt ?_;refine ar [2] ?_;refine .ret ?_
 cases h
 exact ⟨rfl,rfl⟩
def D6 (a0:(Int×RT×Int)) (a1:(List Arr)) : Option (Bool):=(Option.bind ((if a0.1=0 then ((AB a1 (⟨.fn 96 [] [],fun x=>C2 x⟩ : BA)).bind fun x2=>(some (!x2))) else (if a0.1=1 then ((AB a1 (⟨.fn 96 [] [],fun x=>C2 x⟩ : BA)).bind fun x3=>(some (!x3))) else (some false))) : Option (Bool)) fun (z1:Bool)=>(some (z1)))
theorem IT {a0:(Int×RT×Int)} {a1:(List Arr)} {r:Bool} (h:D6 a0 a1=some r) :
  Fn Tryz.prog 39 [.ag [.i .i64 a0.1,.b a0.2.1.1,.sl (L a0.2.1.2.1),.sl (L a0.2.1.2.2),.i .i64 a0.2.2],.sl (Ars a1)] (.d (.b r)):=by
 unfold D6 at h
 refine Fn.o1 4 18 Tryz.func39 ?_;refine .sr ?_;refine vk vbx ?_;refine ar [1,2,4] ?_;refine .seq ?_
 obtain ⟨z1,hz,h⟩:=bnd h
 refine AW.mr (σ:=Unit) (fun _=>True) (fun _=>[(4,.d (.b z1))]) (fun _=>[]) ?_ ?_
 ·skip
  refine .region ?_;refine vk (vfa Js) ?_;refine vk (AA AX) ?_;refine vb ?_
  rcases brc hz with ⟨hc,hz⟩|⟨hc,hz⟩
  ·have hb0:(decide (a0.1=0))=true:=(dT hc)
   refine vL hb0 ?_;refine gf3 ?_;refine vk AC ?_;refine va ?_;refine va ?_
   obtain ⟨x2,g2,hz⟩:=bnd hz
   refine vk (An (BD (KQ Tryz.call96 (fun _ _ h=>HD h)) g2) Tryz.call95) ?_;refine vk vnt ?_;refine vk AC ?_;refine asd ?_;refine RL.gk [4] ?_;refine .nil ?_
   cases hz
   exact jr () trivial
  have hb0:(decide (a0.1=0))=false:=(dF hc)
  refine vL hb0 ?_;refine vk (vfa Js) ?_;refine vk (AA AX) ?_;refine vb ?_;refine vk AC ?_
  rcases brc hz with ⟨hc,hz⟩|⟨hc,hz⟩
  ·have hb1:(decide (a0.1=1))=true:=(dT hc)
   refine vL hb1 ?_;refine va ?_
   obtain ⟨x3,g3,hz⟩:=bnd hz
   refine vk (An (BD (KQ Tryz.call96 (fun _ _ h=>HD h)) g3) Tryz.call95) ?_;refine vk vnt ?_;refine vk AC ?_;refine asd ?_;refine RL.gk [4] ?_;refine .nil ?_
   cases hz
   exact jr () trivial
  have hb1:(decide (a0.1=1))=false:=(dF hc)
  refine vL hb1 ?_;refine gf3 ?_;refine vk AC ?_;refine asd ?_;refine RL.gk [4] ?_;refine .nil ?_
  cases hz
  exact jr () trivial
 rintro _ _
 refine .ret ?_
 cases h
 exact ⟨rfl,rfl⟩
def AP (a0:(List (List Int))) (K0:Int→Option ((List Int))) : Nat→Int→Int→Option ((List Int))
 | 0,_,_=>none
 | k+1,s2,s3=>(if s3<((List.length a0:Nat):Int) then (jn (fun (z4:Int)=>(AP a0 K0 k z4 (w64 (s3+1)))) fun K2=>((rd? a0 s3).bind fun x5=>((Gf (¬((w64 (s2+((List.length x5:Nat):Int)))<0))).bind fun x6=>(K2 (w64 (s2+((List.length x5:Nat):Int))))))) else (K0 s2))
def AN (a0:(List (List Int))) (K3:(List Int)→Option ((List Int))) : Nat→(List Int)→Int→Option ((List Int))
 | 0,_,_=>none
 | k+1,s9,s10=>(if s10<((List.length a0:Nat):Int) then ((rd? a0 s10).bind fun x11=>((ap? 17592186044416 s9 x11).bind fun x12=>(AN a0 K3 k x12 (w64 (s10+1))))) else (K3 s9))
def Bo (a0:(List (List Int))) : Option ((List Int)):=(jn (fun (z1:Int)=>((Gf (0≤z1∧z1≤Py)).bind fun x7=>(jn (fun (z8:(List Int))=>(some (z8))) fun K3=>(AN a0 K3 AH [] 0)))) fun K0=>(AP a0 K0 AH 0 0))
theorem GB {a0:(List (List Int))} {r:(List Int)} (h:Bo a0=some r) :
  Fn Tryz.prog 100 [.sl (IsS a0)] (.d (.sl (Is r))):=by
 unfold Bo at h
 refine Fn.o1 2 36 Tryz.func100 ?_;refine .sr ?_;refine asn ?_;refine rk [0,2] ?_;refine .sr ?_;refine ar [0,2,3] ?_;refine .seq ?_;refine .sr ?_;refine va ?_;refine vk (Bg (Mv _) (TM _) TJ) ?_;refine va ?_;refine rk [0,2,3,9,10,11] ?_
 obtain ⟨K0,hK0,h⟩:=AQ h
 refine AW.mr (σ:=Int) (fun p=>K0 p=some r) (fun p=>[(0,.d (.sl (IsS a0))),(2,.nl),(3,.d (.i .i64 p))]) (fun p=>[]) ?_ ?_
 ·skip
  refine .block ?_
  refine .loop (.gk [0,2,3,9,10,11] ?_)
  refine AL.ind (σ:=Nat×Int×Int) (m:=fun p=>p.1) (e:=fun p=>[(0,.d (.sl (IsS a0))),(2,.nl),(3,.d (.i .i64 p.2.1)),(9,.d (.sl (IsS a0))),(10,.d (.i .i64 ((List.length a0:Nat):Int))),(11,.d (.i .i64 p.2.2))]) (h:=fun p=>[]) (I:=fun p=>AP a0 K0 p.1 p.2.1 p.2.2=some r) ?_ (AH,0,0) h
  rintro ⟨k,s2,s3⟩ h ih
  dsimp only at h ih ⊢
  rcases k with _|k
  ·rw [AP] at h;cases h
  rw [AP] at h
  refine .sr ?_;refine vb ?_;refine rk [0,2,3,9,10,11,12] ?_;refine .seq ?_
  rcases brc h with ⟨hc,h⟩|⟨hc,h⟩
  ·refine cnt (dT hc) ?_
   refine .sk ?_
   obtain ⟨K2,hK2,h⟩:=AQ h
   refine AW.mj (σ:=Int) (fun p=>K2 p=some r) (fun p=>[(0,.d (.sl (IsS a0))),(2,.nl),(3,.d (.i .i64 p)),(9,.d (.sl (IsS a0))),(10,.d (.i .i64 ((List.length a0:Nat):Int))),(11,.d (.i .i64 s3))]) (fun p=>[]) ?_ ?_
   ·skip
    refine .block ?_;refine .sr ?_
    obtain ⟨x5,g5,h⟩:=bnd h
    obtain ⟨n5,p05,q5⟩:=Ao g5
    refine vk (vix n5 p05 (Tb q5) rfl S2) ?_;refine vk (AA Du) ?_;refine ar [0,2,3,5,9,10,11] ?_;refine .sr ?_;refine va ?_;refine va ?_;refine vk (Bg (Al _) (Dv _) Db) ?_;refine vb ?_;refine ar [0,2,3,9,10,11] ?_;refine .sr ?_;refine va ?_;refine vb ?_;refine rk [0,2,3,9,10,11,20] ?_
    obtain ⟨x6,g6,h⟩:=bnd h
    have hc:=Hf g6
    refine cnf (dF hc) ?_;refine .gk [0,2,3,9,10,11] ?_;refine .skip ?_
    exact jr ((w64 (s2+((List.length x5:Nat):Int)))) h
   rintro z4 h
   try dsimp only at h ⊢
   subst hK2
   refine .region ?_;refine vb ?_;refine va ?_;refine .nil ?_;refine AL.gk [0,2,3,9,10,11] ?_
   exact ih (k,z4,(w64 (s3+1))) h (Nat.lt_succ_self _)
  refine cnf (dF hc) ?_;refine .gk [0,2,3] ?_;refine .exit ?_
  exact jr (s2) h
 rintro z1 h
 try dsimp only at h ⊢
 subst hK0
 refine aw ?_;refine .sr ?_;refine va ?_
 obtain ⟨x7,g7,h⟩:=bnd h
 refine clR (avs:=[.nl,.d (.i .i64 z1)]) (VP Uu VL (Hf g7)) Tryz.call157 (fun r' H' hp=>?_)
 obtain ⟨rfl,rfl⟩:=hp
 refine aso ?_;refine rk [0,2,6] ?_;refine .seq ?_;refine .sr ?_;refine va ?_;refine vk (Bg (Mv _) (TM _) TJ) ?_;refine va ?_;refine rk [2,6,25,26,27] ?_
 obtain ⟨K3,hK3,h⟩:=AQ h
 refine AW.mr (σ:=(List Int)) (fun p=>K3 p=some r) (fun p=>[(2,.nl),(6,.own 3 (Is p))]) (fun p=>[]) ?_ ?_
 ·skip
  refine .block ?_
  refine .loop (.gk [2,6,25,26,27] ?_)
  refine AL.ind (σ:=Nat×(List Int)×Int) (m:=fun p=>p.1) (e:=fun p=>[(2,.nl),(6,.own 3 (Is p.2.1)),(25,.d (.sl (IsS a0))),(26,.d (.i .i64 ((List.length a0:Nat):Int))),(27,.d (.i .i64 p.2.2))]) (h:=fun p=>[]) (I:=fun p=>AN a0 K3 p.1 p.2.1 p.2.2=some r) ?_ (AH,[],0) h
  rintro ⟨k,s9,s10⟩ h ih
  dsimp only at h ih ⊢
  rcases k with _|k
  ·rw [AN] at h;cases h
  rw [AN] at h
  refine .sr ?_;refine vb ?_;refine rk [2,6,25,26,27,28] ?_;refine .seq ?_
  rcases brc h with ⟨hc,h⟩|⟨hc,h⟩
  ·refine cnt (dT hc) ?_
   refine .sk ?_;refine .seq ?_;refine .block ?_;refine .sr ?_
   obtain ⟨x11,g11,h⟩:=bnd h
   obtain ⟨n11,p011,q11⟩:=Ao g11
   refine vk (vix n11 p011 (Tb q11) rfl S2) ?_;refine vk (AA Du) ?_;refine ar [2,6,8,25,26,27] ?_;refine .region ?_;refine mvo ?_;refine va ?_
   obtain ⟨x12,g12,h⟩:=bnd h
   refine Vp Ow g12 Ry ?_ Ls Al FN
   refine aso ?_;refine .nil ?_;refine aw ?_;refine .gk [2,6,25,26,27] ?_;refine .region ?_;refine vb ?_;refine va ?_;refine .nil ?_;refine AL.gk [2,6,25,26,27] ?_
   exact ih (k,x12,(w64 (s10+1))) h (Nat.lt_succ_self _)
  refine cnf (dF hc) ?_;refine .gk [2,6] ?_;refine .exit ?_
  exact jr (s9) h
 rintro z8 h
 try dsimp only at h ⊢
 subst hK3
 refine aw ?_;refine .sr ?_;refine fz (p:=.t 6) ?_;refine va ?_;refine ar [2] ?_;refine .ret ?_
 cases h
 exact ⟨rfl,rfl⟩
def F0 (a0:Int) : Option (Bool):=((Lt (⟨#[226,138,130,226,138,131,226,134,145,226,136,138,226,141,139,226,141,146,226,136,170,226,137,161,226,137,162,226,141,179]⟩ : ByteArray) a0).bind fun x1=>(some (x1)))
theorem JG {a0:Int} {r:Bool} (h:F0 a0=some r) :
  Fn Tryz.prog 64 [.i .i32 a0] (.d (.b r)):=by
 unfold F0 at h
 refine Fn.o1 2 5 Tryz.func64 ?_;refine .sr ?_;refine ar [0,2] ?_;refine .sr ?_;refine va ?_
 obtain ⟨x1,g1,h⟩:=bnd h
 refine vk (An (P5 g1) Tryz.call94) ?_;refine ar [2] ?_;refine .ret ?_
 cases h
 exact ⟨rfl,rfl⟩
def DS (a0:Int) : Option (Bool):=((Lt (⟨#[226,138,131,226,141,179,226,136,138,126,226,136,170,226,137,161,226,137,162,226,138,164,226,138,165,226,140,183]⟩ : ByteArray) a0).bind fun x1=>(some (x1)))
theorem J8 {a0:Int} {r:Bool} (h:DS a0=some r) :
  Fn Tryz.prog 38 [.i .i32 a0] (.d (.b r)):=by
 unfold DS at h
 refine Fn.o1 2 5 Tryz.func38 ?_;refine .sr ?_;refine ar [0,2] ?_;refine .sr ?_;refine va ?_
 obtain ⟨x1,g1,h⟩:=bnd h
 refine vk (An (P5 g1) Tryz.call94) ?_;refine ar [2] ?_;refine .ret ?_
 cases h
 exact ⟨rfl,rfl⟩
theorem J1 {p:Prop} [Decidable p] (h:p) : Gf p=some ():=if_pos h
theorem Li {α:Type} {xs:List α} {d:α} {i:Nat} (h:i<xs.length) : xs.getD i d=xs[i]:=by simp [List.getD,lG h]
theorem OY {l:List Arr} (hl:l.length≤17592186044416) (ho:∀ a∈l,okAr a) : D6 (1,(false,[],[]),0) l=some (!l.any fun a=>!decide (Ba a)):=by
 have hc:=MO (xs:=l) (f:=(⟨.fn 96 [] [],fun x=>C2 x⟩:BA)) (p:=fun a=>!decide (Ba a)) (fun a ha=>by
  show C2 a=_
  unfold C2;rw [Ga (ho a ha)];rfl) hl
 unfold D6
 rw [if_neg (show ¬((1:Int)=0) by decide),if_pos rfl,hc];rfl
theorem NJ {a b:Arr} (oa:okAr a) (ra:Ba a) (ob:okAr b) (rb:Ba b) : D6 (1,(false,[],[]),0) [a,b]=some true:=by
 rw [OY (by simp) (by simp [oa,ob])];simp [ra,rb]
theorem Ts (n:Nat) (h:n≤140737488355328:=by decide) : ∃ k,AH=k+n:=⟨AH-n,by have:=Ct h;omega⟩
theorem Ub {js:List Int} (h0:js≠[]) (hl:js.length≤4096) : Fi js=vec (js.map BK):=by
 have:js.length≠0:=by simpa using h0
 unfold Fi FT vec
 rw [List.length_map,Nat.min_eq_left hl,if_neg this,List.take_of_length_le (by simpa using hl)]
theorem NP {x:Itm} : ∀ {xs:List Itm},x∈xs→cI x≤cIs xs
 | y::ys,h=>by
  rw [cIs]
  rcases List.mem_cons.1 h with rfl|h
  ·omega
  ·have:=NP h;omega
theorem SA {x:Itm} (hr:rI x=true) (hd:dI x≤15) (hc:1+cI x≤16384) : Ba (.mk [] [x]):=by
 refine ⟨?_,?_,?_⟩
 ·rw [rA];simp [rIs,hr,Jm]
 ·rw [H9]
  have:dIs [x]=dI x:=by simp [dIs]
  simp only [Arr.items,this]
  split<;>omega
 ·have:cA (.mk [] [x])=1+cI x:=by simp [cA,cIs]
  omega
theorem VR.one {xs:List Itm} (h:VR xs) {x:Itm} (hx:x∈xs) : okI x∧Ba (.mk [] [x])∧Be [] [x]=some (.mk [] [x],0):=by
 have hi:=h.items x hx
 have hp:=h.parts
 have hd:=Iu hx
 have hc:=NP hx
 have hpos:=h.pos
 have r:=SA hi.2.1 (by omega) (by omega)
 refine ⟨hi.1,r,?_⟩
 rw [Lp (by simp) (by simp) (by simp) (by simpa using hi.1),if_neg (by rw [Jm];simp),if_neg (by simp [hi.2]),Jm,show Ce 1 [x]=[x] from JJ (n:=1) rfl (by decide),if_pos r]
end Go.FL
namespace Go.FL
open Go Go.RowKit
def ALM (P:Program) (C:Cx) (c:Code) (Q:Exit→Env→Ab→Prop) (env:Env) (H:Ab) : Prop :=
 ∀ X a w I μ O,X.nt=C.nt→X.n0=C.n0→X.ne=C.ne→Sim P X env H a w I μ O→LB (om C.ro) 0 P c (PostM P X Q) a w
section
variable {P:Program} {C:Cx} {X:Snap} {o:Oper} {ops:Array Oper} {Q:Exit→Env→Ab→Prop} {env env':Env} {H H':Ab} {a:Act} {w w':World} {I I':Nat→Prop} {μ μ':List Nat} {O O':Nat→Option Loc}
 {K:Env→Ab→Prop} {k:Nat} {l:List Oper}
theorem AWM.loop {c:Code} (h:ALM P C c Q env H) : AWM P C (.loop c) Q env H:=fun X a w I μ O h1 h2 h3 hs=>(h X a w I μ O h1 h2 h3 hs).loop
theorem ALM.gh {c:Code} (g:Gh P C env H env' H') (h:ALM P C c Q env' H') : ALM P C c Q env H:=fun X a w I μ O h1 h2 h3 hs =>
 let ⟨I',O',hs'⟩:=g X a w I μ O h1 h2 h3 hs;h X a w I' μ O' h1 h2 h3 hs'
theorem AWM.skip (h:Q .normal env H) : AWM P C .skip Q env H:=.lift (.skip h)
theorem AWM.exit {id:Nat} (h:Q (.exit id) env H) : AWM P C (.exit id) Q env H:=.lift (.exit h)
theorem AWM.mj {x y:Code} {σ:Type} (I:σ→Prop) (e:σ→Env) (g:σ→Ab) (h1:AW P C x (Fh (JR I e g) Q) env H) (h2:∀ s,I s→AWM P C y Q (e s) (g s)) : AWM P C (.seq x y) Q env H :=
 .seqA (h1.mono fun ex env' H' h=>by
  cases ex with
  | normal=>obtain ⟨s,hi,he,hg⟩:=h;subst he;subst hg;exact h2 s hi
  | _=>exact h)
theorem PostM.over {ms:List Deferred} {a1:Act} {w1:World} {env1:Env} {H1:Ab} {I1:Nat→Prop} {μ1:List Nat} {O1:Nat→Option Loc} (hX0:X.n0=0) (s:Sim P {X with dfs:=ms++X.dfs} env1 H1 a1 w1 I1 μ1 O1) (hm:Marks X.K w1 I1 O1 ms) :
  ∃ Y:Snap,Y.nt=X.nt∧Y.n0=X.n0∧Y.ne=X.ne∧Sim P Y env1 H1 a1 w1 I1 μ1 O1∧∀ e a2 w2,PostM P Y Q e a2 w2→PostM P X Q e a2 w2:=by
 obtain ⟨K',hKd⟩:∃ K':Nat→Prop,K'=fun b=>X.K b∨∃ m∈ms,m={target:=.collected b,args:=#[]}:=⟨_,rfl⟩
 have hK':∀ b,K' b→O1 b=none∧b<w1.heap.size:=fun b hb=>by
  rw [hKd] at hb
  rcases hb with hb|⟨m,hm1,hm2⟩
  ·exact ⟨s.kO b hb,nL (s.klt b hb) s.size⟩
  ·obtain ⟨D,e1,e2,e3,e4,_⟩:=hm.2 m hm1
   rw [hm2] at e1;simp at e1;subst e1
   exact ⟨e3,(Array.getElem?_eq_some_iff.1 e2).1⟩
 have hr:=s.recast (s.toMem.reroot hX0 hK') rfl rfl rfl
 refine ⟨{X with w:=w1,I:=I1,K:=K',μ:=μ1,dfs:=ms++X.dfs},rfl,rfl,rfl,hr,fun e a2 w2 ⟨env2,H2,I2,μ2,O2,ms2,s2,q2,hm2⟩=>?_⟩
 refine ⟨env2,H2,I2,μ2,O2,ms2++ms,?_,q2,?_⟩
 ·have hu:Mem P X H2 w2 I2 μ2 O2:=(s.toMem.cast (Y:=X) rfl rfl rfl rfl rfl rfl).unroot hX0 (K':=K') (fun b hb=>by rw [hKd];exact .inl hb) (s2.toMem.cast rfl rfl rfl rfl rfl rfl)
  exact ⟨hu.cast rfl rfl rfl rfl rfl rfl,s2.envr,s2.nt,by rw [s2.dfs.1];simp,s2.dfs.2⟩
 ·refine ⟨List.nodup_append.2 ⟨hm2.1,hm.1,fun x hx y hy e=>?_⟩,fun m hmm=>?_⟩
  ·subst e
   obtain ⟨D,rfl,_,_,_,hk⟩:=hm2.2 x hx
   exact hk (by show K' D;rw [hKd];exact .inr ⟨_,hy,rfl⟩)
  rcases List.mem_append.1 hmm with hmm|hmm
  ·obtain ⟨D,e1,e2,e3,e4,e5⟩:=hm2.2 m hmm
   exact ⟨D,e1,e2,e3,e4,fun hk=>e5 (by show K' D;rw [hKd];exact .inl hk)⟩
  ·obtain ⟨D,rfl,e2,e3,e4,e5⟩:=hm.2 m hmm
   have hkD:K' D:=by rw [hKd];exact .inr ⟨_,hmm,rfl⟩
   exact ⟨D,rfl,(s2.prot D hkD).trans e2,s2.kO D hkD,fun hi=>e4 (s2.kI D hkD hi),e5⟩
theorem ALM.round (h0:C.n0=0) {c:Code} (h:AWM P C c (Fh (ALM P C c Q) Q) env H) : ALM P C c Q env H:=fun X a w I μ O h1 h2 h3 hs =>
 .round (wpIn_mono (h X a w I μ O h1 h2 h3 hs) fun e a1 w1 ⟨env',H',I',μ',O',ms,s,q,hm⟩=>by
  cases e with
  | normal =>
   obtain ⟨Y,y1,y2,y3,y4,y5⟩:=PostM.over (Q:=Q) (by omega) s hm
   have hl:=q Y a1 w1 I' μ' O' (y1.trans h1) (y2.trans h2) (y3.trans h3) y4
   intro b k cs hro hb hr
   obtain ⟨e2,a2,w2,p1,p2⟩:=hl b k cs hro hb hr
   exact ⟨e2,a2,w2,y5 _ _ _ p1,p2⟩
  | _=>exact ⟨env',H',I',μ',O',ms,s,q,hm⟩)
theorem ALM.ind (h0:C.n0=0) {c:Code} {σ:Type} (m:σ→Nat) (e:σ→Env) (h:σ→Ab) (I:σ→Prop)
  (step:∀ s,I s→(∀ s',I s'→m s'<m s→ALM P C c Q (e s') (h s'))→AWM P C c (Fh (ALM P C c Q) Q) (e s) (h s)):∀ s,I s→ALM P C c Q (e s) (h s):=by
 suffices H:∀ n s,m s=n→I s→ALM P C c Q (e s) (h s) from fun s hs=>H _ s rfl hs
 intro n
 induction n using Nat.strongRecOn with
 | ind n ih =>
  intro s hm hs
  exact .round h0 (step s hs fun s' h1 h2=>ih (m s') (by omega) s' rfl h1)
theorem Sim.storeBA {id blk:Nat} (hm:μ[id]?=some blk) (hn:X.n0≤id) : ∀ (us:List Value) (k:Nat) (ds zs:List DV) (H:Ab) (w:World) (O:Nat→Option Loc),Sim P X env H a w I μ O→H[id]?=some (.box (zs.map .d))→zs.length=k+us.length →
  RepAll w I ds us→(∀ u∈us,u.oneCell'=true)→∃ w' O',(storeCells ⟨blk,0,none⟩ us k).run P w=.ok () w'∧Sim P X env (H.set id (.box ((zs.take k++ds).map .d))) a w' I μ O'
 | [],k,ds,zs,H,w,O,hs,hH,hl,hr,h1=>by
  cases hr
  rw [List.append_nil,List.take_of_length_le (by simp at hl;omega),List.set_same _ _ hH]
  exact ⟨w,O,rfl,hs⟩
 | u::us,k,ds,zs,H,w,O,hs,hH,hl,hr,h1=>by
  cases hr with
  | @cons d _ ds _ hd ht =>
   rw [List.length_cons] at hl
   have hu:=h1 u (by simp)
   have hkl:k<zs.length:=by omega
   obtain ⟨q1,⟨u0,q2⟩,q3⟩:=hs.storeC (off:=k) (c:=.d zs[k]) (av:=.d d) (v:=u) (hbs:=[]) hH (by rw [List.getElem?_map,lG hkl];rfl) hm hn (.d hd) nN (by simp)
   have hIb:¬I blk:=by
    obtain ⟨blk',bs,g1,g2,g3,g4⟩:=hs.heap id _ hH
    rw [hm] at g1;cases g1
    exact (hs.own blk _ ((g3 hn).2 blk (by simp))).2
   have hst:(store ((⟨blk,0,none⟩:Addr).add k) u).run P w=.ok () (w.setCell ⟨blk,k,none⟩ u):=by
    have hadd:(⟨blk,0,none⟩:Addr).add k=⟨blk,k,none⟩:=by unfold Addr.add;split<;>simp_all
    rw [hadd,run_store P w _ u _ hu,q2]
    simp [q3]
   have hset:DO H id k (.d d)=H.set id (.box ((zs.set k d).map .d)):=by
    simp only [DO,hH];rw [List.map_set]
   rw [hset] at q1
   have hid:id<H.length:=(lS.1 hH).1
   obtain ⟨w2,O2,z1,z2⟩:=Sim.storeBA hm hn us (k+1) ds (zs.set k d) _ _ _ (show Sim P X env _ a _ I μ _ from q1) (by simp [hid]) (by simp;omega)
    (ht.keep (fun b' hb'=>heap_setCell_other w ⟨blk,k,none⟩ b' u fun e=>hIb (by rw [← (show b'=blk from e)];exact hb')) fun _ h=>h) fun u hu=>h1 u (by simp [hu])
   refine ⟨w2,O2,?_,?_⟩
   ·simp only [storeCells,Sem.run_bind,hst,Result.andThen_ok,z1]
   ·have t1:(zs.set k d).take (k+1)=zs.take k++[d]:=by
     rw [List.take_add_one,List.getElem?_set_self (by omega),List.take_set_of_le (Nat.le_refl k)];rfl
    rw [t1,List.set_set] at z2
    simpa using z2
theorem Ys {x y:Operand} {ty id:Nat} {zs ds:List DV} {bx:List AV} (hH:H[id]?=some (.box bx)) (hb:bx=zs.map .d) (hl:zs.length=ds.length) (h:RL P C ops Q (k+1) l env (H.set id (.box (ds.map .d)))) (hsz:Ax P ty=ds.length) (hp:0<ds.length) (hg:grd ops env o true=true:=by rfl)
  (ho:o.op=.store ty x y:=by rfl) (hv:lk env x=.bp id 0:=by rfl) (hy:lk env y=.d (.ag ds):=by rfl) (h1:ds.all DV.leaf=true:=by rfl) (hd:o.dst=none:=by rfl) (h0:C.n0=0:=by rfl):RL P C ops Q k (o::l) env H:=by
 subst hb
 obtain ⟨g1,g2⟩:=As hv (by simp)
 refine .go hg (.done (by simp [ho]) hd (fun X a w I μ O _ e2 _ hs=>?_) h)
 have hr:=hs.deep (x:=y) (v:=.ag ds) (by rw [hy];rfl)
 generalize hev:a.eval y=u at hr
 cases hr with
 | ag _ vs hr =>
  obtain ⟨blk,hm,he⟩:=hs.bp g1 g2
  have hvl:vs.length=ds.length:=hr.length.symm
  obtain ⟨w',O',z1,z2⟩:=Sim.storeBA hm (by omega) vs 0 ds zs H w O hs hH (by omega) hr (hr.one h1)
  refine ⟨w',I,μ,O',?_,?_⟩
  ·have hs':(sizeOf ty).run P w=.ok vs.length w:=by rw [hvl,← hsz];exact Gi (by omega)
   have hsv:(storeVar ty ⟨blk,0,none⟩ (.agg vs.toArray)).run P w=.ok () w':=by
    simp [storeVar,hs',Value.cells,z1]
   simp only [execOp,ho,he,hev,Instr.storeAt,Instr.sureAddr,Sem.run_bind,Sem.run_pure,Result.andThen_ok,hsv]
  ·simpa using z2
end
def KF {α σ:Type} (f:Int→α→σ→Option σ) (xs:List α) : Nat→σ→Option σ
 | 0,s=>some s
 | n+1,s=>(xs[n]?).bind fun x=>(f ((n:Nat):Int) x s).bind fun s'=>KF f xs n s'
theorem Ro {α σ:Type} {f:Int→α→σ→Option σ} {xs:List α} : ∀ (n:Nat) {s z:σ},KF f xs n s=some z→∃ T : Nat→σ,T 0=s∧T n=z∧∀ k,k<n→∃ x,xs[n-1-k]?=some x∧f ((n-1-k:Nat) : Int) x (T k)=some (T (k+1))
 | 0,s,z,h=>⟨fun _=>s,rfl,oI h,fun k hk=>absurd hk (Nat.not_lt_zero k)⟩
 | n+1,s,z,h=>by
  simp only [KF,Option.bind_eq_some_iff] at h
  obtain ⟨x,hx,s',hf,h⟩:=h
  obtain ⟨T,t1,t2,t3⟩:=Ro n h
  refine ⟨fun k=>if k=0 then s else T (k-1),rfl,by simp [t2],fun k hk=>?_⟩
  cases k with
  | zero=>exact ⟨x,by simpa using hx,by simpa [t1] using hf⟩
  | succ k =>
   obtain ⟨y,y1,y2⟩:=t3 k (by omega)
   rw [show n+1-1-(k+1)=n-1-k by omega]
   exact ⟨y,y1,by simpa using y2⟩
theorem Sj (cells:Array Value) (n:Nat) : (madeCells cells ((n+1) * cells.size)).toList=cells.toList++(madeCells cells (n * cells.size)).toList:=by
 apply List.ext_getElem
 ·simp [madeCells,Nat.add_mul,Nat.add_comm]
 ·intro j h1 h2
  rw [List.getElem_append]
  split
  ·rename_i hj
   simp only [Array.length_toList] at hj
   simp [madeCells,Nat.mod_eq_of_lt hj,hj]
  ·rename_i hj
   simp only [Array.length_toList,Nat.not_lt] at hj
   simp [madeCells,Nat.mod_eq_sub_mod hj]
theorem NM {w:World} {I:Nat→Prop} {cs:List DV} {cells:Array Value} (h:RepAll w I cs cells.toList) (h1:∀ u∈cells.toList,u.oneCell'=true) : ∀ n,RepRows w I cells.size (List.replicate n (.ag cs)) (madeCells cells (n * cells.size)).toList
 | 0=>by
  have:(madeCells cells (0 * cells.size)).toList=[]:=by simp [madeCells]
  rw [this];exact .nil _
 | n+1=>by
  rw [Sj cells n,List.replicate_succ]
  exact .cons (by simp) h1 h (NM h h1 n)
section
variable {P:Program} {C:Cx} {o:Oper} {ops:Array Oper} {Q:Exit→Env→Ab→Prop} {env:Env} {H:Ab} {K:Env→Ab→Prop} {k:Nat} {l:List Oper}
theorem TQ {l c:Operand} {ty t e by_ sz:Nat} {z:Value} {cs:List DV} {k k':IntKind} {n:Nat} (ho:o.op=.makeSlice ty l c) (hd:o.dst=some t) (ht:okT C.nt t) (hT:B3 P ty=some (e,sz,by_,z)) (hzs:z.cells.size=sz) (h0:0<sz) (hz:∀ w I,RepAll w I cs z.cells.toList) (hlf:cs.all DV.leaf=true)
  (hl:lk env l=.d (.i k n)) (hc:lk env c=.d (.i k' n)) (hby:by_ * n≤281474976710656) (h63:n≤maxLen)
  (hK:K (put env t (.own e (List.replicate n (.ag cs)))) H):OpOK P C o env H K :=
 .val (by simp [ho]) hd ht (fun X a w I μ O _ _ _ hs=>by
  obtain ⟨i,i1,i2,i3,i4,i5,i6,i7,i8⟩:=C5 hT
  have e1:a.eval l=.int k n:=by
   have hr:=hs.deep (x:=l) (v:=.i k n) (by rw [hl];rfl)
   generalize a.eval l=u at hr
   cases hr;rfl
  have e2:a.eval c=.int k' n:=by
   have hr:=hs.deep (x:=c) (v:=.i k' n) (by rw [hc];rfl)
   generalize a.eval c=u at hr
   cases hr;rfl
  obtain ⟨w',q1,q2,q3⟩:=run_make_full w 0 ty e i z sz i1 i2 i3 i4 k k' n (by rw [i5];exact hby) h63 (Nat.zero_le _)
  have h2:=hs.grownR q3 fun b hb=>(by cases hb)
  have hO:∀ b,w.heap.size≤b→O b=none:=fun b hb=>by
   cases hx:O b with
   | none=>rfl
   | some l=>have:=(hs.own b l hx).1;omega
  have h3:=h2.newR (Bn (.slice (some ⟨w.heap.size,0,none⟩) n n)) fun b hb=>by
   have hlt:=(OwnR.of q2).lt b hb
   have:b=w.heap.size:=by
    simp only [Bn] at hb
    split at hb<;>simp at hb
    exact hb
   subst this
   exact ⟨hlt,.inl (hO _ (Nat.le_refl _)),fun hi=>by have:=hs.ilt _ hi;omega,fun hk=>by have:=hs.klt _ hk;have:=hs.size;omega⟩
  refine ⟨.slice (some ⟨w.heap.size,0,none⟩) n n,w',I,μ,_,?_,h3,Bn (.slice (some ⟨w.heap.size,0,none⟩) n n),?_,Gj _,fun b hb=>by simp [hb]⟩
  ·simp only [execOp,ho,e1,e2,q1,Sem.run_bind,Result.andThen_ok,Sem.run_pure]
  ·have hrow:=NM (cs:=cs) (cells:=z.cells) (hz w' I) ((hz w' I).one hlf) n
   rw [hzs] at hrow
   exact .own e _ _ _ (by omega) (by rw [List.length_replicate,i8];exact .of q2) (by rw [i8];exact hrow)) hK
theorem Yy {α:Type} {F:List α→List DV} {x0:α} {x c:Operand} {ty t e by_ sz:Nat} {z:Value} {cs:List DV} {q q':IntKind} {zl:Int} (n:Nat) (hF:List.replicate n (.ag cs)=F (List.replicate n x0)) (hn:zl=n) (hb:by_ * n≤281474976710656∧n≤9223372036854775807) (h:RL P C ops Q (k+1) l ((t,.own e (F (List.replicate n x0)))::env) H)
  (hT:B3 P ty=some (e,sz,by_,z)) (hz:∀ w I,RepAll w I cs z.cells.toList) (hzs:z.cells.size=sz:=by rfl) (h0:0<sz:=by decide) (hlf:cs.all DV.leaf=true:=by rfl) (hg:grd ops env o true=true:=by rfl) (ho:o.op=.makeSlice ty x c:=by rfl) (hx:lk env x=.d (.i q zl):=by rfl) (hc:lk env c=.d (.i q' zl):=by rfl) (hd:o.dst=some t:=by rfl)
  (hf:Am (get env t)=false:=by rfl) (ht:okT C.nt t:=by rfl):RL P C ops Q k (o::l) env H:=by
 subst hn
 rw [← Aj hf] at h
 exact .go hg (TQ ho hd ht hT hzs h0 hz hlf hx hc hb.1 (by simpa [maxLen] using hb.2) (by rw [hF];exact h))
end
def O6 (n:Nat) : AV→Bool
 | .bp i _=>Nat.blt i n
 | .ref (.c i _) _ _=>Nat.blt i n
 | .ep (.c i _) _ _=>Nat.blt i n
 | av=>noBp av
section
variable {P:Program} {C:Cx} {X:Snap} {o:Oper} {ops:Array Oper} {Q:Exit→Env→Ab→Prop} {env env':Env} {H H':Ab} {a:Act} {w w':World} {I I':Nat→Prop} {μ μ':List Nat} {O O':Nat→Option Loc}
 {K:Env→Ab→Prop} {k:Nat} {l:List Oper}
theorem AL.gh2 {c:Code} (g:Gh2 P C env H env' H') (h:AL P C c Q env' H') : AL P C c Q env H:=fun X a w I μ O h1 h2 h3 hs =>
 let ⟨I',μ',O',hs'⟩:=g X a w I μ O h1 h2 h3 hs;h X a w I' μ' O' h1 h2 h3 hs'
theorem ALM.gh2 {c:Code} (g:Gh2 P C env H env' H') (h:ALM P C c Q env' H') : ALM P C c Q env H:=fun X a w I μ O h1 h2 h3 hs =>
 let ⟨I',μ',O',hs'⟩:=g X a w I μ O h1 h2 h3 hs;h X a w I' μ' O' h1 h2 h3 hs'
theorem AWM.gh2 {c:Code} (g:Gh2 P C env H env' H') (h:AWM P C c Q env' H') : AWM P C c Q env H:=fun X a w I μ O h1 h2 h3 hs =>
 let ⟨I',μ',O',hs'⟩:=g X a w I μ O h1 h2 h3 hs;h X a w I' μ' O' h1 h2 h3 hs'
theorem Gh2.cut {H0:Ab} (G:Ab) (hH:H=H0++G) (hb:(env.all fun x=>O6 H0.length x.2)=true) (hb0:H0.all V1=true) (hne:Nat.ble C.ne H0.length=true) : Gh2 P C env H env H0:=fun X a w I μ O _ h2 h3 hs=>by
 subst hH
 have hne':X.ne≤H0.length:=by rw [h3];exact Nat.le_of_ble_eq_true hne
 have hμt:∀ i,i<H0.length→(μ.take H0.length)[i]?=μ[i]?:=fun i hi=>by rw [List.getElem?_take,if_pos hi]
 refine ⟨I,μ.take H0.length,O,{
  prot:=hs.prot,kO:=hs.kO,kI:=hs.kI,mono:=hs.mono,os:=hs.os,tape:=hs.tape,output:=hs.output,size:=hs.size,own:=hs.own,ilt:=hs.ilt
  μlen:=by rw [List.length_take,hs.μlen];simp
  μpre:=fun i b hi hb=>by rw [hμt i (by omega)];exact hs.μpre i b hi hb
  nle:=hne'
  heap:=fun id ob ho=>?_
  klt:=hs.klt
  n0le:=hs.n0le
  envr:=fun s=>?_
  nt:=hs.nt
  dfs:=hs.dfs}⟩
 ·have hlt:=(lS.1 ho).1
  obtain ⟨bb,bs',q1,q2,q3,q4⟩:=hs.heap id ob (by rw [List.getElem?_append_left hlt];exact ho)
  refine ⟨bb,bs',by rw [hμt id hlt];exact q1,?_,q3,q4⟩
  have hnb:V1 ob=true:=List.all_eq_true.1 hb0 ob (List.mem_of_getElem? ho)
  cases ob with
  | box c =>
   obtain ⟨cl,et,n1,n2⟩:=q2
   exact ⟨cl,et,n1,n2.noBp (μ':=μ.take H0.length) hnb⟩
 ·have hp:=NT (p:=O6 H0.length) rfl hb s
  have ht:=hs.envr s
  have plain:∀ av,get env s=av→noBp av=true→AU av=false→TRep P env H0 a w I (μ.take H0.length) O s av:=by
   intro av hav hn hr
   rw [hav] at ht
   obtain ⟨bs,g1,g2,g3⟩:=ht.plain hr
   exact .of (g1.noBp (μ':=μ.take H0.length) hn) g2 g3
  have place:∀ (p:Pl) e xs,(∀ id off,p=.c id off→id<H0.length)→AE env (H0++G) p=.own e xs→AE env H0 p=.own e xs∧∀ v,A2 a w μ p=some v→A2 a w (μ.take H0.length) p=some v:=fun p e xs hl hp=>by
   cases p with
   | t n=>exact ⟨hp,fun v hv=>hv⟩
   | c id off =>
    have hid:=hl id off rfl
    refine ⟨?_,fun v hv=>?_⟩
    ·simp only [AE] at hp ⊢
     rw [List.getElem?_append_left hid] at hp;exact hp
    ·simp only [A2] at hv ⊢
     rw [hμt id hid];exact hv
  cases hgs:get env s with
  | bp i off =>
   rw [hgs] at hp ht
   obtain ⟨bs,g1,g2,g3⟩:=ht.plain rfl
   have hi:i<H0.length:=by simp [O6,Nat.blt] at hp;omega
   refine .of (bs:=bs) ?_ g2 g3
   generalize a.tmps.getD s undef=v at g1
   cases g1 with
   | bp _ _ blk' hb'=>exact .bp i off blk' (by rw [hμt i hi];exact hb')
  | ref p off len =>
   rw [hgs] at hp ht
   obtain ⟨e',xs,A,n,c,g1,g2,g3,g4⟩:=ht
   obtain ⟨p1,p2⟩:=place p e' xs (fun id off h=>by subst h;simp [O6,Nat.blt] at hp;omega) g1
   exact ⟨e',xs,A,n,c,p1,p2 _ g2,g3,g4⟩
  | ep p i k =>
   rw [hgs] at hp ht
   obtain ⟨e',xs,b,n,c,g1,g2,g3,g4,g5⟩:=ht
   obtain ⟨p1,p2⟩:=place p e' xs (fun id off h=>by subst h;simp [O6,Nat.blt] at hp;omega) g1
   exact ⟨e',xs,b,n,c,p1,p2 _ g2,g3,g4,g5⟩
  | _ =>
   rw [hgs] at hp
   exact plain _ hgs hp rfl
end
end Go.FL
namespace Go.FL
open Go Go.Proofs
def P0 (xs:List RT) : List (List DV):=(List.range xs.length).map fun k=>match xs[xs.length-1-k]? with
 | some x=>[.i .i64 ((xs.length-1-k:Nat):Int),.ag [.b x.1,.sl (L x.2.1),.sl (L x.2.2)]]
 | none=>[]
theorem Ol {xs:List RT} {k:Nat} {x:RT} (hk:k<xs.length) (h:xs[xs.length-1-k]?=some x) : (P0 xs)[k]?=some [.i .i64 ((xs.length-1-k:Nat) : Int),.ag [.b x.1,.sl (L x.2.1),.sl (L x.2.2)]]:=by simp [P0,hk,h]
theorem HR (xs:List RT) : (P0 xs).length=xs.length:=by simp [P0]
theorem SZ (xs:List RT) : ∀ ds∈P0 xs,ds.length=2:=fun ds hd=>by
 obtain ⟨k,hk⟩:=List.getElem?_of_mem hd
 have hkl:k<xs.length:=by rw [← HR];exact (lS.1 hk).1
 rw [Ol hkl (lG (by omega))] at hk
 cases hk;rfl
theorem Wn (xs:List DV) : Fn Tryz.prog 102 [.sl xs] (.d (.fn 158 [] [.ptr [.sl xs]])):=by
 refine Fn.of (rs:=[.tmp 2]) (nt:=4) Tryz.func102 rfl rfl rfl (by simp) rfl ?_;refine .seq ?_;refine .region ?_;refine bxd ?_;refine asd ?_;refine rn ?_;refine .seq ?_;refine .region ?_;refine mkf ?_;refine asd ?_;refine rn ?_;refine .ret ?_
 exact ⟨rfl,rfl⟩
set_option maxRecDepth 10000 in
theorem Xd {xs:List RT} (hl:xs.length≤9223372036854775806) {m:Nat} (hm:xs.length≤m) : ItG Tryz.prog 158 [.ptr [.sl (RVs xs)]] (P0 xs) m:=by
 have hyl:=HR xs
 refine ItG.of Tryz.func158 rfl rfl (nt:=19) rfl (by simp) fun lp J hJ hR=>?_;refine .seq ?_;refine .lift ?_;refine .region ?_;refine vk (AA Oo) ?_;refine vk (Bg (BN _) (GC _) Ig) ?_;refine vk (vbi) ?_;refine asd ?_;refine .nil ?_
 show AWJ _ _ _ _ _ _ _ _ _
 refine .block ?_;refine ALJ.loop ?_;refine ALJ.gh (Gh.keep [0,1,3] rfl) ?_
 rw [show DV.i .i64 (IntKind.wrap .i64 (((List.length xs:Nat):Int)-1))=.i .i64 (((List.length xs:Nat):Int)-1-((0:Nat):Int)) from by
  congr 1;simp only [IntKind.wrap,IntKind.bits,IntKind.signed];simp;omega]
 refine ALJ.ind (σ:=Nat) (m:=fun i=>xs.length-i) (e:=fun i=>[(0,.d (.yl lp)),(1,.d (.ptr [.sl (RVs xs)])),(3,.d (.i .i64 (((List.length xs:Nat):Int)-1-((i:Nat):Int))))]) (h:=fun _=>[]) (r:=fun i=>i) (I:=fun i=>i≤xs.length) ?_ 0 (Nat.zero_le _)
 rintro i hi ih
 refine .seq ?_;refine .seq ?_;refine .lift ?_;refine .region ?_;refine vk (Ae) ?_;refine vk (vbi) ?_;refine .nil ?_
 show AWJ _ _ _ _ _ _ _ _ _
 by_cases hc:(0:Int)≤((List.length xs:Nat):Int)-1-((i:Nat):Int)
 ·refine .cond (x:=true) (by show AV.d (.b (decide _))=_;rw [dT hc]) (fun _=>?_) (fun h=>by cases h)
  have hlt:i<xs.length:=by omega
  have hj:xs.length-1-i<xs.length:=by omega
  have hij:((List.length xs:Nat):Int)-1-((i:Nat):Int)=((xs.length-1-i:Nat):Int):=by omega
  have hxi:=lG hj
  generalize xs[xs.length-1-i]=x at hxi
  refine .skip ?_
  show AWJ _ _ _ _ _ _ _ _ _
  refine .seq ?_;refine .block ?_;refine .seq ?_;refine .region ?_;refine vkJ (Ae) ?_;refine vkJ (Ae) ?_;refine vkJ (AA Oo) ?_;refine vkJ (Ae) ?_;refine vkJ (vix (xs.length-1-i) hij (Kr hxi) rfl Oz) ?_;refine vkJ (Ay AT Az) ?_
  refine yld (hR i [.i .i64 ((xs.length-1-i:Nat):Int),.ag [.b x.1,.sl (L x.2.1),.sl (L x.2.2)]] (Ol hlt hxi) (by omega)) hJ ?_ (ha:=by show some _=some _;rw [hij];rfl)
  refine vkJ (vnt) ?_;refine .nil ?_
  show AWJ _ _ _ _ _ _ _ _ _
  refine .cond (x:=false) (by show AV.d (.b (!decide _))=_;rw [dT (by omega:i<m)];rfl) (fun h=>by cases h) (fun _=>?_)
  refine .skip ?_
  show AWJ _ _ _ _ _ _ _ _ _
  refine .lift ?_;refine .region ?_;refine vk (Ae) ?_;refine vk (vbi) ?_;refine asd ?_;refine .nil ?_
  show ALJ _ _ _ _ _ _ _ _ _
  have hw:IntKind.wrap .i64 (((List.length xs:Nat):Int)-1-((i:Nat):Int)-1)=((List.length xs:Nat):Int)-1-((i+1:Nat):Int):=by simp only [IntKind.wrap,IntKind.bits,IntKind.signed];simp;omega
  rw [hw]
  refine ALJ.gh (Gh.keep [0,1,3] rfl) ?_
  exact ih (i+1) hlt (by omega)
 ·refine .cond (x:=false) (by show AV.d (.b (decide _))=_;rw [dF hc]) (fun h=>by cases h) (fun _=>?_)
  refine .exit ?_
  exact ⟨.inl rfl,by rw [hyl];omega⟩
end Go.FL
namespace Go.FL
open Go Go.RowKit
def cell1 (P:Program) (env:Env) (t ty:Nat) (d:DV) : Prop:=(get env t=.d (.ptr [d])∨get env t=.nb [d])∧BV P ty=some false
def Xq (P:Program) (env:Env) (r:AV) : List ResultVar→Prop
 | [.cell x tx,.cell y ty]=>∃ cs d,cellD P env x tx cs∧cell1 P env y ty d∧r=.tup [.d (.ag cs),.d d]
 | _=>False
def XE (P:Program) (rs:List ResultVar) (r:AV) : Exit→Env→Ab→Prop:=fun e env _=>(e=.normal∨e=.ret)∧Xq P env r rs
section
variable {P:Program} {X:Snap} {env:Env} {H:Ab} {a:Act} {w:World} {I:Nat→Prop} {μ:List Nat} {O:Nat→Option Loc}
theorem Sim.cell1 (hs:Sim P X env H a w I μ O) {t ty:Nat} {d:DV} (h:Go.FL.cell1 P env t ty d) : ∃ p v,a.tmps.getD t undef=.pointer (some p)∧(loadVar ty p).run P w=.ok v w∧Rep w I d v:=by
 obtain ⟨h1,h2⟩:=h
 rcases h1 with h1|h1
 ·have:=hs.envr t
  rw [h1] at this
  obtain ⟨bs,g1,_⟩:=this.plain rfl
  generalize a.tmps.getD t undef=u at g1
  cases g1 with
  | d g1 =>
   cases g1 with
   | ptr _ b off vs k1 k2 k3 =>
    cases k3 with
    | @cons _ v _ _ hd t =>
     cases t
     exact ⟨_,v,rfl,Bf h2 (by have:=k2 0 v rfl;simpa using this),hd⟩
 ·obtain ⟨blk,cells,e,g1,g2,g3,_⟩:=hs.nb_inv h1
  generalize hc:cells.toList=l at g3
  cases g3 with
  | @cons _ v _ _ hd t =>
   cases t
   refine ⟨_,v,g1,Bf h2 ?_,hd⟩
   have:cells[0]?=some v:=by rw [← Array.getElem?_toList,hc];rfl
   simp [World.cell?,g2,this]
theorem Sim.resultsB (hs:Sim P X env H a w I μ O) {fn:Func} {rs:List ResultVar} (hrs:fn.results=rs.toArray) {r:AV} (h:Xq P env r rs) :
  ∃ v bs,(Go.results fn a.tmps).run P w=.ok v w∧ARep P w I μ r v bs∧bs.Nodup∧∀ b∈bs,∃ l,O b=some l:=by
 unfold Xq at h
 split at h
 ·obtain ⟨cs,d,kx,ky,rfl⟩:=h
  obtain ⟨px,wx,ex,fx,rx⟩:=hs.cellD kx
  obtain ⟨py,wy,ey,fy,ry⟩:=hs.cell1 ky
  exact ⟨_,[],NI (by rw [hrs]) (by simp [Hw,ex,asAddr,fx]) (by simp [Hw,ey,asAddr,fy]),.tup (ARepAll.cons (b1:=[]) (b2:=[]) (.d rx) (ARepAll.cons (b1:=[]) (b2:=[]) (.d ry) .nil)),nN,by simp⟩
 ·exact h.elim
theorem Fn.ofMB {f:FuncId} {fn:Func} {c:Code} {args:List DV} {r:AV} {rs:List ResultVar} {nt:Nat} (hf:P.funcs[f]?=some fn) (hb:fn.body=some c) (hrs:fn.results=rs.toArray) (hnt:fn.ntmps=nt) (hn:args.length≤nt) (hbp:noBp r=true)
  (h:AWM P {nt:=(0,nt),n0:=0,ne:=0} c (XE P rs r) (Dp 0 args) []):Fn P f args r:=by
 intro w I vs hI ha
 refine callsIn_of_wp_marks hf hb trivial ?_
 have hlen:=ha.length
 let X:Snap:={w:=w,I:=I,K:=fun b=>b<w.heap.size,n0:=0,ne:=0,μ:=[],nt:=(0,nt),dfs:=[]}
 let a:Act:={tmps:=vs.toArray++Array.replicate (fn.ntmps-vs.toArray.size) undef,defers:=[]}
 have hs:Sim P X (Dp 0 args) [] a w I [] (fun _=>none):=by
  refine ⟨{prot:=fun _ _=>rfl,kO:=fun _ _=>rfl,kI:=fun _ _ h=>h,mono:=fun _ h=>h,os:=rfl,tape:=rfl,output:=rfl,size:=Nat.le_refl _,own:=(fun b l h=>by simp at h),ilt:=hI,μlen:=rfl,μpre:=(fun i b hi _=>by simp [X] at hi),nle:=(by simp [X]),heap:=(fun id o h=>by simp at h),klt:=fun b hb=>hb,n0le:=(by simp [X])},fun t=>?_,?_,rfl,fun t h=>absurd h (by simp [X])⟩
  ·rcases ED (tmps:=a.tmps) (k:=0) ha (fun j v hj=>by
    have hjl:j<vs.length:=(lS.1 hj).1
    have e2:(vs.toArray++Array.replicate (fn.ntmps-vs.length) undef)[j]?=some v:=by
     rw [Array.getElem?_append_left (by simpa using hjl)];simpa using hj
    simp [a,e2]) t with h0|⟨d,h0,h1⟩
   ·rw [h0];exact .un
   ·rw [h0];exact .of (bs:=[]) (.d h1) nN (by simp)
  ·simp [a,X,hnt];omega
 have hw:=h X a w I [] (fun _=>none) rfl rfl rfl hs
 refine wpIn_mono hw fun e a' w' hp=>?_
 obtain ⟨env',H',I',μ',O',ms,s,⟨he,q⟩,hm⟩:=hp
 have hdf:a'.defers=ms:=by rw [s.dfs.1];simp [X]
 have fin:LeavesInM (om none) 0 P fn a'.tmps (fun e w'=>∃ v I' bs,e=.returned v∧Below w.heap.size w w'∧(∀ b,I b→I' b) ∧
   (∀ b,I' b→b<w'.heap.size∧(b<w.heap.size→I b))∧ARep P w' I' [] r v bs∧bs.Nodup∧∀ b∈bs,w.heap.size≤b∧b<w'.heap.size∧¬I' b) a'.defers .returning w':=by
  rw [hdf]
  refine JU (fun w4 s4=>?_) ms w' s hm
  obtain ⟨v,bs,h1,h2,h3,h4⟩:=s4.resultsB hrs q
  refine ⟨v,h1,v,I',bs,rfl,⟨s4.os,s4.tape,s4.output,s4.size,fun b hb=>s4.prot b hb⟩,s4.mono,fun b hi=>⟨s4.ilt b hi,fun hb=>s4.kI b hb hi⟩,h2.noBp hbp,h3,fun b hm=>?_⟩
  obtain ⟨l,hl⟩:=h4 b hm
  refine ⟨?_,(s4.own b l hl).1,(s4.own b l hl).2⟩
  rcases Nat.lt_or_ge b w.heap.size with hlt|hge
  ·have:=s4.kO b hlt;rw [this] at hl;cases hl
  ·exact hge
 rcases he with rfl|rfl<;>exact fin
end
end Go.FL
namespace Go.FL
open Go Go.Proofs
def B7 (x1:(List Itm)) (K0:(List RT)→Int→(List RT)→Option ((List RT)×Int)) : Nat→(List RT)→Int→(List RT)→Int→Option ((List RT)×Int)
 | 0,_,_,_,_=>none
 | k+1,s5,s6,s7,s8=>(if s8<((List.length x1:Nat):Int) then ((rd? x1 s8).bind fun x9=>(if x9.kind=1 then ((ap? 2513169434916 s7 [x9.num]).bind fun x10=>(B7 x1 K0 k s5 s6 x10 (w64 (s8+1)))) else (some ([],3)))) else (K0 s5 s6 s7))
def DM (a0:Arr) : Option ((List RT)×Int):=((Bt a0).bind fun x1=>(jn (fun (z2:(List RT)) (z3:Int) (z4:(List RT))=>(some (z4,0))) fun K0=>(B7 x1 K0 AH [] 0 [] 0)))
theorem HE {a0:Arr} {r:(List RT)×Int} (h:DM a0=some r) :
  Fn Tryz.prog 156 [.ag [.sl (Is a0.shape),.sl (Its a0.items)]] (.tup [.d (.sl (RVs r.1)),.d (.i .i64 r.2)]):=by
 unfold DM at h
 refine Fn.of (rs:=[.tmp 2,.tmp 3]) (nt:=24) Tryz.func156 rfl rfl rfl (by simp) rfl ?_;refine .sr ?_;refine vk vbx ?_;refine asn ?_;refine ar [1,2,3] ?_;refine .sr ?_;refine asn ?_;refine rk [1,2,3,4] ?_;refine .seq ?_;refine .sr ?_;refine vk (Ay Ai Ac) ?_
 obtain ⟨x1,g1,h⟩:=bnd h
 refine vk (An (HN g1) Tryz.call46) ?_;refine vk (Bg (AK _) (CM _) CU) ?_;refine va ?_;refine rk [2,3,4,8,9,10] ?_
 obtain ⟨K0,hK0,h⟩:=AQ h
 refine AW.mr (σ:=(List RT)×Int×(List RT)) (fun p=>K0 p.1 p.2.1 p.2.2=some r) (fun p=>[(2,.d (.sl (RVs p.1))),(3,.d (.i .i64 p.2.1)),(4,.own 34 (RVs p.2.2))]) (fun p=>[]) ?_ ?_
 ·skip
  refine .block ?_;refine .gh (Gh.nlD (t:=2) rfl) ?_;refine .gh (Gh.nlOwn (t:=4) 34 (by rw [Yv];decide) rfl) ?_
  refine .loop (.gk [2,3,4,8,9,10] ?_)
  refine AL.ind (σ:=Nat×(List RT)×Int×(List RT)×Int) (m:=fun p=>p.1) (e:=fun p=>[(2,.d (.sl (RVs p.2.1))),(3,.d (.i .i64 p.2.2.1)),(4,.own 34 (RVs p.2.2.2.1)),(8,.d (.sl (Its x1))),(9,.d (.i .i64 ((List.length x1:Nat):Int))),(10,.d (.i .i64 p.2.2.2.2))]) (h:=fun p=>[]) (I:=fun p=>B7 x1 K0 p.1 p.2.1 p.2.2.1 p.2.2.2.1 p.2.2.2.2=some r) ?_ (AH,[],0,[],0) h
  rintro ⟨k,s5,s6,s7,s8⟩ h ih
  dsimp only at h ih ⊢
  rcases k with _|k
  ·rw [B7] at h;cases h
  rw [B7] at h
  refine .sr ?_;refine vb ?_;refine rk [2,3,4,8,9,10,11] ?_;refine .seq ?_
  rcases brc h with ⟨hc,h⟩|⟨hc,h⟩
  ·refine cnt (dT hc) ?_
   refine .sk ?_;refine .seq ?_;refine .block ?_;refine .sr ?_
   obtain ⟨x9,g9,h⟩:=bnd h
   obtain ⟨n9,p09,q9⟩:=Ao g9
   refine vk (vix n9 p09 (DD q9) rfl DB) ?_;refine vk (Ay Bk AG) ?_;refine vk (van (Ah CQ) CL) ?_
   refine stn ?_ AG (by decide)
   refine rk [2,3,4,6,8,9,10] ?_;refine .seq ?_;refine .seq ?_;refine .gh (Gh.nbp (t:=6) rfl) ?_;refine .region ?_;refine vk (vfa C7) ?_;refine vk (AA BG) ?_;refine vb ?_;refine rk [2,3,4,6,8,9,10,16] ?_
   rcases brc h with ⟨hc,h⟩|⟨hc,h⟩
   ·refine cnf (ntf (dT hc)) ?_
    refine .sk ?_;refine .region ?_;refine mvo ?_;refine vk (vfa Cw) ?_;refine vk (Ay AT Az) ?_;refine vk ((F3 (DR [x9.num]) FS).deep) ?_
    obtain ⟨x10,g10,h⟩:=bnd h
    refine Vp VC g10 Xp ?_ US BN FS
    refine aso ?_;refine .nil ?_;refine aw ?_;refine .gk [2,3,4,8,9,10] ?_;refine .region ?_;refine vb ?_;refine va ?_;refine .nil ?_;refine AL.gk [2,3,4,8,9,10] ?_
    exact ih (k,s5,s6,x10,(w64 (s8+1))) h (Nat.lt_succ_self _)
   refine cnt (ntt (dF hc)) ?_;refine .sr ?_;refine asn ?_;refine ar [2,3,4,6,8,9,10] ?_;refine .gh (Gh.nlD (t:=2) rfl) ?_;refine .ret ?_
   cases h
   exact ⟨by decide,rfl,rfl,rfl⟩
  refine cnf (dF hc) ?_;refine .gk [2,3,4] ?_;refine .exit ?_
  exact jr (s5,s6,s7) h
 rintro ⟨z2,z3,z4⟩ h
 try dsimp only at h ⊢
 subst hK0
 refine aw ?_;refine .sr ?_;refine fz (p:=.t 4) ?_;refine va ?_;refine asd ?_;refine ar [2,3] ?_;refine .ret ?_
 cases h
 exact ⟨by decide,rfl,rfl,rfl⟩
def FH (a0:Arr) (a1:Arr) : Option ((List RT)×(List RT)×Int):=((DM a0).bind fun x1=>(jn (fun (z2:(List RT)) (z3:Int)=>(some (x1.1,z2,z3))) fun K0=>(if x1.2=0 then ((DM a1).bind fun x4=>(K0 x4.1 x4.2)) else (K0 [] x1.2))))
theorem Jx {a0:Arr} {a1:Arr} {r:(List RT)×(List RT)×Int} (h:FH a0 a1=some r) :
  Fn Tryz.prog 99 [.ag [.sl (Is a0.shape),.sl (Its a0.items)],.ag [.sl (Is a1.shape),.sl (Its a1.items)]] (.tup [.d (.sl (RVs r.1)),.d (.sl (RVs r.2.1)),.d (.i .i64 r.2.2)]):=by
 unfold FH at h
 refine Fn.of (rs:=[.tmp 4,.tmp 5,.tmp 6]) (nt:=22) Tryz.func99 rfl rfl rfl (by simp) rfl ?_;refine .sr ?_;refine vk vbx ?_;refine vk vbx ?_;refine asn ?_;refine asn ?_;refine ar [2,3,4,5,6] ?_;refine .seq ?_;refine .sr ?_;refine vk (Ay Ai Ac) ?_
 obtain ⟨x1,g1,h⟩:=bnd h
 refine vk (VOK.tupd (vs:=[.sl (RVs x1.1),.i .i64 x1.2]) (An (HE g1) Tryz.call156)) ?_;refine va ?_;refine vk vex ?_;refine vk vex ?_;refine asd ?_;refine ar [3,4,5,6] ?_;refine .sr ?_;refine va ?_;refine vb ?_;refine rk [3,4,5,6,13] ?_
 obtain ⟨K0,hK0,h⟩:=AQ h
 refine AW.mr (σ:=(List RT)×Int) (fun p=>K0 p.1 p.2=some r) (fun p=>[(4,.d (.sl (RVs x1.1))),(5,.d (.sl (RVs p.1))),(6,.d (.i .i64 p.2))]) (fun p=>[]) ?_ ?_
 ·skip
  rcases brc h with ⟨hc,h⟩|⟨hc,h⟩
  ·refine cnt (dT hc) ?_
   refine .region ?_;refine vk (Ay Ai Ac) ?_
   obtain ⟨x4,g4,h⟩:=bnd h
   refine vk (VOK.tupd (vs:=[.sl (RVs x4.1),.i .i64 x4.2]) (An (HE g4) Tryz.call156)) ?_;refine va ?_;refine vk vex ?_;refine vk vex ?_;refine asd ?_;refine asd ?_;refine RL.gk [4,5,6] ?_;refine .nil ?_
   exact jr (x4.1,x4.2) h
  refine cnf (dF hc) ?_;refine .gh (Gh.nlD (t:=5) rfl) ?_;refine .gk [4,5,6] ?_;refine .skip ?_
  exact jr ([],x1.2) h
 rintro ⟨z2,z3⟩ h
 try dsimp only at h ⊢
 subst hK0
 refine aw ?_;refine .sr ?_;refine va ?_;refine va ?_;refine va ?_;refine asd ?_;refine asd ?_;refine ar [4,5,6] ?_;refine .ret ?_
 cases h
 exact ⟨⟨by decide,by decide,by decide⟩,rfl,rfl,rfl,rfl⟩
def D3 (a0:RT) (a1:RT) : Option (RT×RT×Int):=((E2 a0 a1).bind fun x1=>(Option.bind ((if x1.2=0 then ((F5 a0).bind fun x3=>(some (decide (x3=0)))) else (some true)) : Option (Bool)) fun (z2:Bool)=>(if z2=true then none else ((Fz a1 x1.1).bind fun x4=>(jn (fun (z5:RT) (z6:Int)=>(some (x1.1,z5,z6))) fun K0=>(if x4.2=0 then ((Ir x4.1 a0).bind fun x7=>(K0 x7.1 x7.2)) else (K0 x4.1 x4.2)))))))
theorem MX {a0:RT} {a1:RT} {r:RT×RT×Int} (h:D3 a0 a1=some r) :
  Fn Tryz.prog 103 [.ag [.b a0.1,.sl (L a0.2.1),.sl (L a0.2.2)],.ag [.b a1.1,.sl (L a1.2.1),.sl (L a1.2.2)]] (.tup [.d (.ag [.b r.1.1,.sl (L r.1.2.1),.sl (L r.1.2.2)]),.d (.ag [.b r.2.1.1,.sl (L r.2.1.2.1),.sl (L r.2.1.2.2)]),.d (.i .i64 r.2.2)]):=by
 unfold D3 at h
 refine Fn.ofA (rs:=[.cell 4 34,.cell 5 34,.tmp 6]) (nt:=40) Tryz.func103 rfl rfl rfl (by simp) rfl ?_;refine .sr ?_;refine vk vbx ?_;refine vk vbx ?_;refine vk (van (Ah Es) Et) ?_;refine vk (van (Ah Es) Et) ?_;refine ar [2,3,4,5,6] ?_;refine .seq ?_;refine .sr ?_;refine vk (Ay AT Az) ?_;refine vk (Ay AT Az) ?_
 obtain ⟨x1,g1,h⟩:=bnd h
 refine vk (VOK.tupd (vs:=[.ag [.b x1.1.1,.sl (L x1.1.2.1),.sl (L x1.1.2.2)],.i .i64 x1.2]) (An (L3 g1) Tryz.call159)) ?_;refine va ?_;refine vk vex ?_;refine vk vex ?_
 refine stn ?_ Az (by decide)
 refine ar [2,3,4,5,6] ?_;refine .seq ?_
 obtain ⟨z2,hz,h⟩:=bnd h
 refine AW.mr (σ:=Unit) (fun _=>True) (fun _=>[(2,.d (.ptr [.b a0.1,.sl (L a0.2.1),.sl (L a0.2.2)])),(3,.d (.ptr [.b a1.1,.sl (L a1.2.1),.sl (L a1.2.2)])),(4,.nb [.b x1.1.1,.sl (L x1.1.2.1),.sl (L x1.1.2.2)]),(5,.nb [.b false,.sl (L []),.sl (L [])]),(6,.d (.i .i64 x1.2)),(19,.d (.b z2))]) (fun _=>[]) ?_ ?_
 ·skip
  refine .region ?_;refine va ?_;refine vb ?_
  rcases brc hz with ⟨hc,hz⟩|⟨hc,hz⟩
  ·have hb0:(!(decide (x1.2=0)))=false:=(ntf (dT hc))
   refine vL hb0 ?_;refine vk (Ay AT Az) ?_
   obtain ⟨x3,g3,hz⟩:=bnd hz
   refine vk (An (HQ g3) Tryz.call130) ?_;refine vb ?_;refine vk AC ?_;refine RL.gk [2,3,4,5,6,19] ?_;refine .nil ?_
   cases hz
   exact jr () trivial
  have hb0:(!(decide (x1.2=0)))=true:=(ntt (dF hc))
  refine vL hb0 ?_;refine gf3 ?_;refine vk AC ?_;refine RL.gk [2,3,4,5,6,19] ?_;refine .nil ?_
  cases hz
  exact jr () trivial
 rintro _ _
 rcases brc h with ⟨hc,h⟩|⟨hc,h⟩
 ·exact nomatch h
 refine cnf (bf hc) ?_;refine .sk ?_;refine .seq ?_;refine .sr ?_;refine vk (Ay AT Az) ?_;refine vk (Dq AT Az) ?_
 obtain ⟨x4,g4,h⟩:=bnd h
 refine vk (VOK.tupd (vs:=[.ag [.b x4.1.1,.sl (L x4.1.2.1),.sl (L x4.1.2.2)],.i .i64 x4.2]) (An (F7 g4) Tryz.call160)) ?_;refine va ?_;refine vk vex ?_;refine vk vex ?_
 refine stn ?_ Az (by decide)
 refine ar [2,4,5,6] ?_;refine .sr ?_;refine va ?_;refine vb ?_;refine rk [2,4,5,6,30] ?_
 obtain ⟨K0,hK0,h⟩:=AQ h
 refine AW.mr (σ:=RT×Int) (fun p=>K0 p.1 p.2=some r) (fun p=>[(4,.nb [.b x1.1.1,.sl (L x1.1.2.1),.sl (L x1.1.2.2)]),(5,.nb [.b p.1.1,.sl (L p.1.2.1),.sl (L p.1.2.2)]),(6,.d (.i .i64 p.2))]) (fun p=>[]) ?_ ?_
 ·skip
  rcases brc h with ⟨hc,h⟩|⟨hc,h⟩
  ·refine cnt (dT hc) ?_
   refine .region ?_;refine vk (Dq AT Az) ?_;refine vk (Ay AT Az) ?_
   obtain ⟨x7,g7,h⟩:=bnd h
   refine vk (VOK.tupd (vs:=[.ag [.b x7.1.1,.sl (L x7.1.2.1),.sl (L x7.1.2.2)],.i .i64 x7.2]) (An (Mg g7) Tryz.call161)) ?_;refine va ?_;refine vk vex ?_;refine vk vex ?_
   refine stn ?_ Az (by decide)
   refine asd ?_;refine RL.gk [4,5,6] ?_;refine .nil ?_
   exact jr (x7.1,x7.2) h
  refine cnf (dF hc) ?_;refine .gk [4,5,6] ?_;refine .skip ?_
  exact jr (x4.1,x4.2) h
 rintro ⟨z5,z6⟩ h
 try dsimp only at h ⊢
 subst hK0
 refine aw ?_;refine .seq ?_;refine .drawnI 3 A9 (by kernel_rfl) ?_;refine dv (Dq AT Az) ?_;refine dv (Dq AT Az) ?_;refine dv Ae ?_;refine dz ?_
 refine ⟨?_,?_⟩
 ·intro i o hi ho e hj hn
  have hi2:=(Array.getElem?_eq_some_iff.1 ho).1
  have hi3:i=3∨i=4∨i=5:=by change i<6 at hi2;omega
  rcases hi3 with rfl|rfl|rfl<;>cases ho
  ·exact Gc (cs:=[.b x1.1.1,.sl (L x1.1.2.1),.sl (L x1.1.2.2)]) (cs':=[.b x1.1.1,.sl (L x1.1.2.1),.sl (L x1.1.2.2)]) Az (by decide) rfl ((hn 4 (NO rfl)).trans rfl) ((congrArg A7 (hj 0 37 _ (by kernel_rfl) rfl)).trans rfl) rfl rfl rfl rfl ⟨LC ((hn 4 (NO rfl)).trans rfl),rfl⟩
  ·exact Gc (cs:=[.b z5.1,.sl (L z5.2.1),.sl (L z5.2.2)]) (cs':=[.b z5.1,.sl (L z5.2.1),.sl (L z5.2.2)]) Az (by decide) rfl ((hn 5 (NO rfl)).trans rfl) ((congrArg A7 (hj 1 38 _ (by kernel_rfl) rfl)).trans rfl) rfl rfl rfl rfl ⟨LC ((hn 5 (NO rfl)).trans rfl),rfl⟩
  ·exact W0 rfl ((hj 2 39 _ (by kernel_rfl) rfl).trans rfl) rfl ((congrArg Am (hn 6 (NO rfl))).trans rfl) rfl ⟨LC ((hn 6 (NO rfl)).trans rfl),rfl⟩
 refine rk [4,5,6] ?_;refine .ret ?_
 cases h
 exact ⟨_,_,_,⟨_,⟨.inr rfl,AT,Az,p3⟩,rfl⟩,⟨_,⟨.inr rfl,AT,Az,p3⟩,rfl⟩,rfl,rfl⟩
def Cl (x1:(List RT)×(List RT)×Int) (x2:(List Int)) : Nat→Arr→Int→Int→Int→(List Itm)→Option (Arr×Int)
 | 0,_,_,_,_,_=>none
 | k+1,s7,s8,s9,s10,s11=>(if s9<((List.length x1.2.1:Nat):Int) then ((rd? x1.2.1 s9).bind fun x12=>((Gf (((List.length x1.1:Nat):Int)≤1000000)).bind fun x13=>((KF (fun (i25:Int) (x26:RT) (p:Int×(List Itm)×Bool×(List Nat)×(List Nat))=>((D3 x26 (p.2.2.1,p.2.2.2.1,p.2.2.2.2)).bind fun x27=>(if x27.2.2=0 then ((rd? p.2.1 (w64 ((w64 (i25 * ((List.length x1.2.1:Nat):Int)))+s9))).bind fun x28=>(some (x27.2.2,(List.set p.2.1 (Int.toNat (w64 ((w64 (i25 * ((List.length x1.2.1:Nat):Int)))+s9))) (Itm.mk 1 x27.1 0 [])),x27.2.1.1,x27.2.1.2.1,x27.2.1.2.2))) else none))) x1.1 (List.length x1.1) (s10,s11,x12.1,x12.2.1,x12.2.2)).bind fun z24=>(Cl x1 x2 k s7 s8 (w64 (s9+1)) z24.1 z24.2.1)))) else ((Be x2 s11).bind fun x29=>(some (x29.1,x29.2))))
def E8 (a0:Arr) (a1:Arr) : Option (Arr×Int):=(if 1<((List.length a0.shape:Nat) : Int) then (some ((Arr.mk [] []),4)) else ((FH a0 a1).bind fun x1=>(if x1.2.2=0 then ((Bo ([a0.shape,a1.shape])).bind fun x2=>((C6 x2).bind fun x3=>(if x3.2=0 then ((Gf (0≤(if x3.1<1 then 1 else x3.1)∧(if x3.1<1 then 1 else x3.1)≤1466015503701)).bind fun x4=>((E4 0).bind fun x5=>((rd? (List.replicate (Int.toNat (if x3.1<1 then 1 else x3.1)) (Itm.mk 0 (false,[],[]) 0 [])) 0).bind fun x6=>(Cl x1 x2 AH (Arr.mk [] []) 0 0 x3.2 (List.set (List.replicate (Int.toNat (if x3.1<1 then 1 else x3.1)) (Itm.mk 0 (false,[],[]) 0 [])) (Int.toNat 0) x5))))) else (some ((Arr.mk [] []),x3.2))))) else (some ((Arr.mk [] []),x1.2.2)))))
theorem LP {a0:Arr} {a1:Arr} {r:Arr×Int} (h:E8 a0 a1=some r) :
  Fn Tryz.prog 41 [.ag [.sl (Is a0.shape),.sl (Its a0.items)],.ag [.sl (Is a1.shape),.sl (Its a1.items)]] (.tup [.d (.ag [.sl (Is r.1.shape),.sl (Its r.1.items)]),.d (.i .i64 r.2)]):=by
 unfold E8 at h
 refine Fn.ofMB (rs:=[.cell 4 27,.cell 5 29]) (nt:=92) Tryz.func41 rfl rfl rfl (by simp) rfl ?_;refine .seqA ?_;refine .region ?_;refine vk vbx ?_;refine vk vbx ?_;refine vk (van (Ah AS) AY) ?_;refine vk (van (Ah Pr) Us) ?_;refine rn ?_;refine .gh (Gh.keep [2,3,4,5] rfl) ?_;refine .seqA ?_;refine .seq ?_;refine .region ?_;refine vk (vfa Br) ?_;refine vk (AA Du) ?_;refine vk (Bg (Al _) (Dv _) Db) ?_;refine vb ?_;refine rn ?_;refine .gh (Gh.keep [2,3,4,5,20] rfl) ?_
 by_cases hc:1<((List.length a0.shape:Nat):Int)
 ·replace h:=LM hc h
  refine cnt (dT hc) ?_;refine .seq ?_;refine .region ?_;refine vk (vbd CC AS AY) ?_
  refine stn ?_ Ac (by decide)
  refine U9 ?_ F8
  refine rn ?_;refine .gh (Gh.keep [2,3,4,5] rfl) ?_;refine .ret ?_
  cases h
  exact ⟨.inr rfl,_,_,⟨.inr rfl,Ai,Ac,(by decide:(0:Nat)<2)⟩,⟨.inr rfl,DA⟩,rfl⟩
 replace h:=Mb hc h
 refine cnf (dF hc) ?_;refine .skip ?_
 show AWM _ _ _ _ _ _
 refine .seqA ?_;refine .region ?_;refine vk (Ay Ai Ac) ?_;refine vk (Ay Ai Ac) ?_
 obtain ⟨x1,hx1,h⟩:=bnd h
 refine vk (VOK.tupd (vs:=[.sl (RVs x1.1),.sl (RVs x1.2.1),.i .i64 x1.2.2]) (An (Jx hx1) Tryz.call99)) ?_;refine va ?_;refine vk vex ?_;refine vk vex ?_;refine vk vex ?_
 refine al ?_ (Ah Xt) (fun w I μ=>VE w I μ)
 refine al ?_ (Ah Pr) (fun w I μ=>SN w I μ)
 refine asd ?_
 refine stb (cs:=[.nl]) (c:=.nl) rfl rfl ?_ Xr
 refine stb (cs:=[.d (.i .i64 0)]) (c:=.d (.i .i64 0)) rfl rfl ?_ F8
 refine rn ?_;refine .gh (Gh.keep [2,3,4,5,6,7,8] rfl) ?_;refine .seqA ?_;refine .seq ?_;refine .region ?_;refine vk (HJ (cs:=[.d (.i .i64 x1.2.2)]) (c:=.i .i64 x1.2.2) rfl rfl DA) ?_;refine vb ?_;refine rn ?_;refine .gh (Gh.keep [2,3,4,5,6,7,8,30] rfl) ?_
 by_cases hc:x1.2.2=0
 ·replace h:=LM hc h
  refine cnf (ntf (dT hc)) ?_;refine .skip ?_
  show AWM _ _ _ _ _ _
  refine .seqA ?_;refine .region ?_;refine vk (vfa Br) ?_;refine vk (AA Du) ?_;refine vk (vfa Br) ?_;refine vk (AA Du) ?_;refine vk ((F3 (SY [a0.shape,a1.shape]) W4).deep) ?_
  obtain ⟨x2,hx2,h⟩:=bnd h
  refine vk (An (GB hx2) Tryz.call100) ?_;refine asd ?_;refine rn ?_;refine .gh (Gh.keep [4,5,6,7,8,9] rfl) ?_;refine .seqA ?_;refine .region ?_;refine va ?_
  obtain ⟨x3,hx3,h⟩:=bnd h
  refine vk (VOK.tupd (vs:=[.i .i64 x3.1,.i .i64 x3.2]) (An (EW hx3) Tryz.call56)) ?_;refine va ?_;refine vk vex ?_;refine vk vex ?_;refine asd ?_
  refine stb (cs:=[.d (.i .i64 x1.2.2)]) (c:=.d (.i .i64 x1.2.2)) rfl rfl ?_ F8
  refine rn ?_;refine .gh (Gh.keep [4,5,6,7,8,9,10] rfl) ?_;refine .seqA ?_;refine .seq ?_;refine .region ?_;refine vk (HJ (cs:=[.d (.i .i64 x3.2)]) (c:=.i .i64 x3.2) rfl rfl DA) ?_;refine vb ?_;refine rn ?_;refine .gh (Gh.keep [4,5,6,7,8,9,10,45] rfl) ?_
  by_cases hc:x3.2=0
  ·replace h:=LM hc h
   refine cnf (ntf (dT hc)) ?_;refine .skip ?_
   show AWM _ _ _ _ _ _
   refine .seqA ?_;refine .region ?_;refine va ?_;refine vk vmx ?_
   obtain ⟨x4,hx4,h⟩:=bnd h
   have ghx4:=Hf hx4
   refine Yy (F:=Its) (x0:=(Itm.mk 0 (false,[],[]) 0 [])) (zl:=(if x3.1<1 then 1 else x3.1)) (Int.toNat (if x3.1<1 then 1 else x3.1)) Ud (by omega) (by omega) ?_ Gv CL
   refine al ?_ (Ah Wm) (fun w I μ=>UH w I μ)
   refine OT (cs:=[.nl]) (c:=.nl) rfl rfl ?_ Ka
   refine rn ?_;refine .gh (Gh.keep [4,5,6,7,8,9,11] rfl) ?_;refine .seqA ?_;refine .drawn 3 A9 (by kernel_rfl) ?_;refine dv (Q5 (cs:=[.own 51 (Its (List.replicate (Int.toNat (if x3.1<1 then 1 else x3.1)) (Itm.mk 0 (false,[],[]) 0 [])))]) rfl rfl CZ) ?_
   obtain ⟨x5,hx5,h⟩:=bnd h
   refine dv (An (MG hx5) Tryz.call101) ?_
   obtain ⟨x6,hx6,h⟩:=bnd h
   obtain ⟨nx6,hnx6,hxx6⟩:=Ao hx6
   refine dv (Fo (off:=0) (len:=(Its (List.replicate (Int.toNat (if x3.1<1 then 1 else x3.1)) (Itm.mk 0 (false,[],[]) 0 []))).length) nx6 hnx6 (by rw [AK];exact (lS.1 hxx6).1) DB (by decide)) ?_;refine dz ?_
   refine X8 (F:=Its) (zs:=[.i .u8 x6.kind,.b x6.num.1,.sl (L x6.num.2.1),.sl (L x6.num.2.2),.i .i32 x6.char,.sl (Ars x6.box)]) (us:=(List.replicate (Int.toNat (if x3.1<1 then 1 else x3.1)) (Itm.mk 0 (false,[],[]) 0 []))) (n:=nx6) (m:=Int.toNat 0) (x:=x5) (Pq (Itm.dv_eq x5).symm) (by rw [hnx6];rfl) (by rw [Nat.zero_add];exact DD hxx6) rfl ?_ AG AG (Nat.succ_pos _) (hn:=fun _ _ _=>Nat.zero_le _)
   refine RL.gh (Gh.keep [4,5,6,7,8,9,11,51,52] rfl) ?_;refine rn ?_;refine .gh (Gh.keep [4,5,6,7,8,9,11] rfl) ?_;refine .seq rfl ?_;refine .seqA ?_;refine .region ?_;refine vk (HJ (cs:=[.d (.sl (RVs x1.2.1))]) (c:=.sl (RVs x1.2.1)) rfl rfl Oo) ?_;refine vk (Bg (BN _) (GC _) Ig) ?_;refine va ?_;refine rn ?_;refine .gh (Gh.keep [4,5,6,7,8,9,11,54,55,56] rfl) ?_;refine .block ?_
   refine .loop (.gh (Gh.keep [4,5,6,7,8,9,11,54,55,56] rfl) ?_)
   refine ALM.ind rfl (σ:=Nat×Arr×Int×Int×Int×(List Itm)) (m:=fun p=>p.1) (e:=fun p=>[(4,.nb [.sl (Is p.2.1.shape),.sl (Its p.2.1.items)]),(5,.nb [.i .i64 p.2.2.1]),(6,.d (.sl (RVs x1.1))),(7,.bp 0 0),(8,.bp 1 0),(9,.d (.sl (Is x2))),(11,.bp 2 0),(54,.d (.sl (RVs x1.2.1))),(55,.d (.i .i64 ((List.length x1.2.1:Nat):Int))),(56,.d (.i .i64 p.2.2.2.1))]) (h:=fun p=>[HO.box [.d (.sl (RVs x1.2.1))],HO.box [.d (.i .i64 p.2.2.2.2.1)],HO.box [.own 51 (Its p.2.2.2.2.2)]]) (I:=fun p=>Cl x1 x2 p.1 p.2.1 p.2.2.1 p.2.2.2.1 p.2.2.2.2.1 p.2.2.2.2.2=some r) ?_ (AH,(Arr.mk [] []),0,0,x3.2,(List.set (List.replicate (Int.toNat (if x3.1<1 then 1 else x3.1)) (Itm.mk 0 (false,[],[]) 0 [])) (Int.toNat 0) x5)) h
   rintro ⟨k,s7,s8,s9,s10,s11⟩ h ih
   dsimp only at h ih ⊢
   rcases k with _|k
   ·rw [Cl] at h;cases h
   rw [Cl] at h
   refine .seqA ?_;refine .region ?_;refine vb ?_;refine rn ?_;refine .gh (Gh.keep [4,5,6,7,8,9,11,54,55,56,57] rfl) ?_;refine .seqA ?_
   by_cases hc:s9<((List.length x1.2.1:Nat):Int)
   ·replace h:=LM hc h
    refine cnt (dT hc) ?_;refine .skip ?_
    show AWM _ _ _ _ _ _
    refine .seq rfl ?_;refine .block ?_;refine .seqA ?_;refine .region ?_;refine va ?_
    obtain ⟨x12,hx12,h⟩:=bnd h
    obtain ⟨nx12,hnx12,hxx12⟩:=Ao hx12
    refine vk (vix nx12 hnx12 (Kr hxx12) rfl Oz) ?_;refine vk (Ay AT Az) ?_
    refine al ?_ (Ah Wc) (fun w I μ=>Ve w I μ)
    refine vk (van (Ah Es) Et) ?_
    refine stb (cs:=[.d (.i .i64 0)]) (c:=.d (.i .i64 0)) rfl rfl ?_ Ds
    refine stn ?_ Az (by decide)
    refine RL.gh2 (Gh.nbb (t:=13) rfl) ?_;refine rn ?_;refine .gh (Gh.keep [4,5,6,7,8,9,11,12,13,54,55,56] rfl) ?_;refine .seqA ?_;refine .region ?_;refine va ?_;refine vk (An (Wn (RVs x1.1)) Tryz.call102) ?_;refine rn ?_;refine .gh (Gh.keep [4,5,6,7,8,9,11,12,13,54,55,56,62] rfl) ?_;refine .block ?_
    obtain ⟨x13,hx13,h⟩:=bnd h
    have ghx13:=Hf hx13
    obtain ⟨z24,hz24,h⟩:=bnd h
    obtain ⟨Tz24,hTz240,hTz24n,hTz24t⟩:=Ro _ hz24
    refine AWM.rangeFuncG (ps:=[63,64]) (f:=158) (caps:=[.ptr [.sl (RVs x1.1)]]) (ys:=P0 x1.1) (m:=List.length x1.1) (e1:=.ret) rfl rfl rfl Tryz.call158 (Xd (by omega) (Nat.le_refl _)) (fun ds hd=>SZ _ ds hd) (fun p hp=>by simp only [List.mem_cons,List.not_mem_nil,or_false] at hp;rcases hp with rfl|rfl<;>rfl) rfl (fun k H=>H=[HO.box [.d (.sl (RVs x1.2.1))],HO.box [.d (.i .i64 (Tz24 k).1)],HO.box [.own 51 (Its (Tz24 k).2.1)],HO.box [.d (.i .i64 s9)],HO.box [.d (.b (Tz24 k).2.2.1),.d (.sl (L (Tz24 k).2.2.2.1)),.d (.sl (L (Tz24 k).2.2.2.2))]]) (by rw [hTz240];try rfl) (.inr rfl) (fun l k ds H hk hkm hH=>?_) (fun H hH=>?_)
    ·subst hH
     have hkl:k<List.length x1.1:=by rw [← HR];exact (lS.1 hk).1
     obtain ⟨x26,hx26,h⟩:=hTz24t k hkl
     rw [Ol hkl hx26] at hk
     cases hk
     generalize ((List.length x1.1-1-k:Nat):Int)=i25 at h ⊢
     clear hx26
     generalize Tz24 k=s0 at h ⊢
     generalize Tz24 (k+1)=s1 at h ⊢
     obtain ⟨s14,s15,s16,s17,s18⟩:=s0
     dsimp only at h ⊢
     refine .seq ?_;refine .region ?_;refine asd ?_;refine rn ?_;refine .gh (Gh.keep [7,8,11,12,13,14,64] rfl) ?_;refine .region ?_;refine vk (van (Ah Es) Et) ?_
     refine stn ?_ Az (by decide)
     refine rn ?_;refine .gh (Gh.keep [7,8,11,12,13,14,15] rfl) ?_;refine .block ?_;refine .seq ?_;refine .region ?_;refine vk (van (Ah Es) Et) ?_;refine rn ?_;refine .gh (Gh.keep [7,8,11,12,13,14,15,16] rfl) ?_;refine .seq ?_;refine .seq ?_;refine .region ?_;refine vk (Dq AT Az) ?_;refine vk (Jl (cs:=[.d (.b s16),.d (.sl (L s17)),.d (.sl (L s18))]) (ds:=[.b s16,.sl (L s17),.sl (L s18)]) rfl AT Az) ?_
     obtain ⟨x27,hx27,h⟩:=bnd h
     refine vk (VOK.tupd (vs:=[.ag [.b x27.1.1,.sl (L x27.1.2.1),.sl (L x27.1.2.2)],.ag [.b x27.2.1.1,.sl (L x27.2.1.2.1),.sl (L x27.2.1.2.2)],.i .i64 x27.2.2]) (An (MX hx27) Tryz.call103)) ?_;refine va ?_;refine vk vex ?_;refine vk vex ?_;refine vk vex ?_
     refine stn ?_ Az (by decide)
     refine Ys (bx:=[.d (.b s16),.d (.sl (L s17)),.d (.sl (L s18))]) (zs:=[.b s16,.sl (L s17),.sl (L s18)]) (ds:=[.b x27.2.1.1,.sl (L x27.2.1.2.1),.sl (L x27.2.1.2.2)]) rfl rfl rfl ?_ Az (Nat.succ_pos _)
     refine stb (cs:=[.d (.i .i64 s14)]) (c:=.d (.i .i64 s14)) rfl rfl ?_ F8
     refine rn ?_;refine .gh (Gh.keep [7,8,11,12,14,16] rfl) ?_;refine .seq ?_;refine .region ?_;refine vk (HJ (cs:=[.d (.i .i64 x27.2.2)]) (c:=.i .i64 x27.2.2) rfl rfl DA) ?_;refine vb ?_;refine rn ?_;refine .gh (Gh.keep [7,8,11,12,14,16,73] rfl) ?_
     by_cases hc:x27.2.2=0
     ·replace h:=LM hc h
      refine cnf (ntf (dT hc)) ?_;refine .sk ?_;refine .region ?_
      refine Og (cs:=[.own 51 (Its s15)]) rfl rfl ?_ CZ
      refine va ?_;refine vk (HJ (cs:=[.d (.sl (RVs x1.2.1))]) (c:=.sl (RVs x1.2.1)) rfl rfl Oo) ?_;refine vk (Bg (BN _) (GC _) Ig) ?_;refine vb ?_;refine vk (HJ (cs:=[.d (.i .i64 s9)]) (c:=.i .i64 s9) rfl rfl AX) ?_;refine vb ?_;refine vk (Dq AT Az) ?_;refine vk (vbd Kt CQ CL) ?_
      obtain ⟨x28,hx28,h⟩:=bnd h
      obtain ⟨nx28,hnx28,hxx28⟩:=Ao hx28
      refine ixr (off:=0) (len:=(Its s15).length) nx28 hnx28 (by rw [AK];exact (lS.1 hxx28).1) ?_ DB (by decide)
      refine X8 (F:=Its) (zs:=[.i .u8 x28.kind,.b x28.num.1,.sl (L x28.num.2.1),.sl (L x28.num.2.2),.i .i32 x28.char,.sl (Ars x28.box)]) (us:=s15) (n:=nx28) (m:=Int.toNat (w64 ((w64 (i25 * ((List.length x1.2.1:Nat):Int)))+s9))) (x:=(Itm.mk 1 x27.1 0 [])) (Pq (Itm.dv_eq (Itm.mk 1 x27.1 0 [])).symm) (by rw [hnx28];rfl) (by rw [Nat.zero_add];exact DD hxx28) rfl ?_ AG AG (Nat.succ_pos _) (hn:=fun _ _ _=>Nat.zero_le _)
      refine RL.gh (Gh.keep [7,8,11,12,14,16,73,76,77,78,79,80,81,82,83,84] rfl) ?_;refine .nil ?_
      cases h
      exact ⟨by rw [if_pos hkl],rfl⟩
     replace h:=Mb hc h
     exact nomatch h
    have hmn:min (List.length x1.1+1) (P0 x1.1).length=List.length x1.1:=by rw [HR];omega
    rw [hmn,hTz24n] at hH
    subst hH
    rw [if_neg (by rw [HR];omega)]
    clear hz24 hTz240 hTz24n hTz24t
    obtain ⟨z19,z20,z21,z22,z23⟩:=z24
    dsimp only at h ⊢
    show AWM _ _ _ _ _ _
    refine .lift ?_;refine .region ?_;refine vb ?_;refine va ?_;refine .nil ?_;refine ALM.gh (Gh.keep [4,5,6,7,8,9,11,54,55,56] rfl) ?_;refine ALM.gh2 (Gh2.cut (H0:=[HO.box [.d (.sl (RVs x1.2.1))],HO.box [.d (.i .i64 z19)],HO.box [.own 51 (Its z20)]]) [HO.box [.d (.i .i64 s9)],HO.box [.d (.b z21),.d (.sl (L z22)),.d (.sl (L z23))]] rfl rfl rfl rfl) ?_;refine ALM.gh (Gh.keep [4,5,6,7,8,9,11,54,55,56] rfl) ?_
    exact ih (k,s7,s8,(w64 (s9+1)),z19,z20) h (Nat.lt_succ_self _)
   replace h:=Mb hc h
   refine cnf (dF hc) ?_;refine .exit ?_
   show AWM _ _ _ _ _ _
   refine .lift ?_;refine .seq ?_;refine .region ?_;refine va ?_;refine fz (p:=.c 2 0) ?_;refine vk (HJ (cs:=[.d (.sl (Its s11))]) (c:=.sl (Its s11)) rfl rfl CZ) ?_
   obtain ⟨x29,hx29,h⟩:=bnd h
   refine vk (VOK.tupd (vs:=[.ag [.sl (Is x29.1.shape),.sl (Its x29.1.items)],.i .i64 x29.2]) (An (MS hx29) Tryz.call18)) ?_;refine vk vex ?_;refine vk vex ?_
   refine stn ?_ Ac (by decide)
   refine U9 ?_ F8
   refine rn ?_;refine .gh (Gh.keep [4,5] rfl) ?_;refine .ret ?_
   cases h
   exact ⟨.inr rfl,_,_,⟨.inr rfl,Ai,Ac,(by decide:(0:Nat)<2)⟩,⟨.inr rfl,DA⟩,rfl⟩
  replace h:=Mb hc h
  refine cnt (ntt (dF hc)) ?_;refine .seq ?_;refine .drawnF 2 [1] [(4,.nb [.sl (Is []),.sl (Its [])])] [HO.box [.d (.sl (RVs x1.2.1))],HO.box [.d (.i .i64 x3.2)]] A9 (by kernel_rfl) rfl ?_;refine dv (vbd CC AS AY) ?_;refine dv (HJ (cs:=[.d (.i .i64 x3.2)]) (c:=.i .i64 x3.2) rfl rfl DA) ?_;refine dz ?_
  refine ⟨?_,?_,?_⟩
  ·intro k hk
   simp only [List.mem_cons,List.not_mem_nil,or_false] at hk
   subst hk
   exact ⟨_,_,_,rfl,rfl,rfl,rfl,rfl,rfl,(HJ (cs:=[.d (.i .i64 x3.2)]) (c:=.i .i64 x3.2) rfl rfl DA)⟩
  ·intro om e hom hge
   cases hom
   exact Gc (cs:=[.sl (Is []),.sl (Its [])]) (cs':=[.sl (Is []),.sl (Its [])]) Ac (by decide) rfl ((hge 4 (fun k hk v hv=>by
     simp only [List.mem_cons,List.not_mem_nil,or_false] at hk
     subst hk;exact (by decide:¬(some 47=some 4)) (congrArg (Option.map Prod.fst) hv))).trans rfl) ((congrArg A7 (hge 46 (fun k hk v hv=>by
     simp only [List.mem_cons,List.not_mem_nil,or_false] at hk
     subst hk;exact (by decide:¬(some 47=some 46)) (congrArg (Option.map Prod.fst) hv)))).trans rfl) rfl rfl rfl rfl ⟨rfl,rfl⟩
  refine U9 ?_ F8
  refine rn ?_;refine .gh (Gh.keep [4,5,6,7,8,9,10] rfl) ?_;refine .ret ?_
  cases h
  exact ⟨.inr rfl,_,_,⟨.inr rfl,Ai,Ac,(by decide:(0:Nat)<2)⟩,⟨.inr rfl,DA⟩,rfl⟩
 replace h:=Mb hc h
 refine cnt (ntt (dF hc)) ?_;refine .seq ?_;refine .drawnF 2 [1] [(4,.nb [.sl (Is []),.sl (Its [])])] [HO.box [.d (.sl (RVs x1.2.1))],HO.box [.d (.i .i64 x1.2.2)]] A9 (by kernel_rfl) rfl ?_;refine dv (vbd CC AS AY) ?_;refine dv (HJ (cs:=[.d (.i .i64 x1.2.2)]) (c:=.i .i64 x1.2.2) rfl rfl DA) ?_;refine dz ?_
 refine ⟨?_,?_,?_⟩
 ·intro k hk
  simp only [List.mem_cons,List.not_mem_nil,or_false] at hk
  subst hk
  exact ⟨_,_,_,rfl,rfl,rfl,rfl,rfl,rfl,(HJ (cs:=[.d (.i .i64 x1.2.2)]) (c:=.i .i64 x1.2.2) rfl rfl DA)⟩
 ·intro om e hom hge
  cases hom
  exact Gc (cs:=[.sl (Is []),.sl (Its [])]) (cs':=[.sl (Is []),.sl (Its [])]) Ac (by decide) rfl ((hge 4 (fun k hk v hv=>by
    simp only [List.mem_cons,List.not_mem_nil,or_false] at hk
    subst hk;exact (by decide:¬(some 32=some 4)) (congrArg (Option.map Prod.fst) hv))).trans rfl) ((congrArg A7 (hge 31 (fun k hk v hv=>by
    simp only [List.mem_cons,List.not_mem_nil,or_false] at hk
    subst hk;exact (by decide:¬(some 32=some 31)) (congrArg (Option.map Prod.fst) hv)))).trans rfl) rfl rfl rfl rfl ⟨rfl,rfl⟩
 refine U9 ?_ F8
 refine rn ?_;refine .gh (Gh.keep [2,3,4,5,6,7,8] rfl) ?_;refine .ret ?_
 cases h
 exact ⟨.inr rfl,_,_,⟨.inr rfl,Ai,Ac,(by decide:(0:Nat)<2)⟩,⟨.inr rfl,DA⟩,rfl⟩
def Bp (x1:(List RT)×(List RT)×Int) (K1:Int→RT→Option (Arr×Int)) : Nat→Int→RT→RT→Int→Option (Arr×Int)
 | 0,_,_,_,_=>none
 | k+1,s7,s8,s9,s10=>(if ((decide (0≤s10))&&(decide (s7=0)))=true then (jn (fun (z11:Int) (z12:RT) (z13:RT)=>(Bp x1 K1 k z11 z12 z13 (w64 (s10-1)))) fun K3=>((rd? x1.2.1 s10).bind fun x14=>((GA ([x14,s9])).bind fun x15=>(jn (fun (z16:Int) (z17:RT)=>(if ((decide (0<s10))&&(decide (z16=0)))=true then ((rd? x1.1 s10).bind fun x19=>((GA ([s9,x19])).bind fun x20=>(K3 x20.2 z17 x20.1))) else (K3 z16 z17 s9))) fun K4=>(if x15.2=0 then ((Ke ([s8,x15.1])).bind fun x18=>(K4 x18.2 x18.1)) else (K4 x15.2 s8)))))) else (K1 s7 s8))
def Fd (a0:Arr) (a1:Arr) : Option (Arr×Int):=(if ((decide (1<((List.length a0.shape:Nat) : Int)))||(decide (1<((List.length a1.shape:Nat) : Int))))=true then (some ((Arr.mk [] []),4)) else ((FH a0 a1).bind fun x1=>(jn (fun (z2:Int)=>((BZ 0).bind fun x3=>((BZ 1).bind fun x4=>(jn (fun (z5:Int) (z6:RT)=>(if z5=0 then ((FE z6).bind fun x21=>(some (x21,0))) else (some ((Arr.mk [] []),z5)))) fun K1=>(Bp x1 K1 AH x1.2.2 x3 x4 (w64 (z2-1))))))) fun K0=>(if x1.2.2=0 then (if ((List.length x1.2.1:Nat) : Int)=0 then (K0 0) else (if ((List.length x1.1:Nat) : Int)=((List.length x1.2.1:Nat) : Int) then (K0 ((List.length x1.1:Nat) : Int)) else (if ((List.length x1.1:Nat) : Int)=1 then none else (if ((List.length x1.2.1:Nat) : Int)=1 then none else (some ((Arr.mk [] []),5)))))) else (some ((Arr.mk [] []),x1.2.2))))))
set_option maxHeartbeats 4000000 in
theorem ME {a0:Arr} {a1:Arr} {r:Arr×Int} (h:Fd a0 a1=some r) :
  Fn Tryz.prog 42 [.ag [.sl (Is a0.shape),.sl (Its a0.items)],.ag [.sl (Is a1.shape),.sl (Its a1.items)]] (.tup [.d (.ag [.sl (Is r.1.shape),.sl (Its r.1.items)]),.d (.i .i64 r.2)]):=by
 unfold Fd at h
 refine Fn.ofC (rs:=[.cell 4 27,.tmp 5]) (nt:=117) Tryz.func42 rfl rfl rfl (by simp) rfl ?_;refine .sr ?_;refine vk vbx ?_;refine vk vbx ?_;refine vk (van (Ah AS) AY) ?_;refine ar [2,3,4,5] ?_;refine .seq ?_;refine .seq ?_;refine AW.mr (σ:=Unit) (fun _=>True) (fun _=>[(2,.d (.ptr [.sl (Is a0.shape),.sl (Its a0.items)])),(3,.d (.ptr [.sl (Is a1.shape),.sl (Its a1.items)])),(4,.nb [.sl (Is []),.sl (Its [])]),(5,.d (.i .i64 0)),(23,.d (.b ((decide (1<((List.length a0.shape:Nat):Int)))||(decide (1<((List.length a1.shape:Nat):Int))))))]) (fun _=>[]) ?_ ?_
 ·skip
  refine .region ?_;refine vk (vfa Br) ?_;refine vk (AA Du) ?_;refine vk (Bg (Al _) (Dv _) Db) ?_;refine vb ?_
  by_cases hc:1<((List.length a0.shape:Nat):Int)
  ·have hb0:(decide (1<((List.length a0.shape:Nat):Int)))=true:=(dT hc)
   refine vL hb0 ?_;refine gf4 ?_;refine vk AC ?_;refine RL.gk [2,3,4,5,23] ?_;refine .nil ?_
   exact jr () trivial (by simp only [hb0];rfl)
  have hb0:(decide (1<((List.length a0.shape:Nat):Int)))=false:=(dF hc)
  refine vL hb0 ?_;refine vk (vfa Br) ?_;refine vk (AA Du) ?_;refine vk (Bg (Al _) (Dv _) Db) ?_;refine vb ?_;refine vk AC ?_;refine RL.gk [2,3,4,5,23] ?_;refine .nil ?_
  exact jr () trivial (by simp only [hb0];rfl)
 rintro _ _
 rcases brc h with ⟨hc,h⟩|⟨hc,h⟩
 ·refine cnt hc ?_
  refine .sr ?_;refine vk (vbd CC AS AY) ?_
  refine stn ?_ Ac (by decide)
  refine ar [2,3,4,5] ?_;refine .ret ?_
  cases h
  exact ⟨_,_,⟨.inr rfl,Ai,Ac,p2⟩,rfl,rfl⟩
 refine cnf (bf hc) ?_;refine .sk ?_;refine .sr ?_;refine vk (Ay Ai Ac) ?_;refine vk (Ay Ai Ac) ?_
 obtain ⟨x1,g1,h⟩:=bnd h
 refine vk (VOK.tupd (vs:=[.sl (RVs x1.1),.sl (RVs x1.2.1),.i .i64 x1.2.2]) (An (Jx g1) Tryz.call99)) ?_;refine va ?_;refine vk vex ?_;refine vk vex ?_;refine vk vex ?_;refine asd ?_;refine asd ?_;refine ar [4,5,6,7,8] ?_;refine .sr ?_;refine va ?_;refine vk (Bg (BN _) (GC _) Ig) ?_;refine ar [4,5,6,7,8,9] ?_
 obtain ⟨K0,hK0,h⟩:=AQ h
 refine AW.mj (σ:=Int) (fun p=>K0 p=some r) (fun p=>[(4,.nb [.sl (Is []),.sl (Its [])]),(5,.d (.i .i64 0)),(6,.d (.sl (RVs x1.1))),(7,.d (.sl (RVs x1.2.1))),(8,.d (.i .i64 x1.2.2)),(9,.d (.i .i64 p))]) (fun p=>[]) ?_ ?_
 ·skip
  refine .block ?_;refine .sr ?_;refine va ?_;refine vb ?_;refine ar [4,5,6,7,8,9,35] ?_
  rcases brc h with ⟨hc,h⟩|⟨hc,h⟩
  ·refine cnf (ntf (dT hc)) ?_
   refine .sr ?_;refine va ?_;refine vk (Bg (BN _) (GC _) Ig) ?_;refine vb ?_;refine ar [4,5,6,7,8,9,40] ?_
   rcases brc h with ⟨hc,h⟩|⟨hc,h⟩
   ·refine cnt (dT hc) ?_
    refine .region ?_;refine asd ?_;refine RL.gk [4,5,6,7,8,9] ?_;refine .nil ?_
    exact jr (0) h
   refine cnf (dF hc) ?_;refine .sr ?_;refine va ?_;refine va ?_;refine vk (Bg (BN _) (GC _) Ig) ?_;refine vb ?_;refine ar [4,5,6,7,8,9,44] ?_
   rcases brc h with ⟨hc,h⟩|⟨hc,h⟩
   ·refine cnt (dT hc) ?_
    refine .gk [4,5,6,7,8,9] ?_;refine .skip ?_
    exact jr (((List.length x1.1:Nat):Int)) h
   refine cnf (dF hc) ?_;refine .sr ?_;refine va ?_;refine vb ?_;refine ar [4,5,6,7,8,9,49] ?_
   rcases brc h with ⟨hc,h⟩|⟨hc,h⟩
   ·refine cnt (dT hc) ?_
    refine .sr ?_;refine va ?_;refine vk (Bg (BN _) (GC _) Ig) ?_;refine ar [4,5,6,7,8,9] ?_;refine .region ?_;refine va ?_;refine va ?_
    exact nomatch h
   refine cnf (dF hc) ?_;refine .sr ?_;refine va ?_;refine vk (Bg (BN _) (GC _) Ig) ?_;refine vb ?_;refine ar [4,5,6,7,8,9,57] ?_
   rcases brc h with ⟨hc,h⟩|⟨hc,h⟩
   ·refine cnt (dT hc) ?_
    refine .region ?_;refine va ?_;refine va ?_
    exact nomatch h
   refine cnf (dF hc) ?_;refine .sr ?_;refine vk (vbd CC AS AY) ?_
   refine stn ?_ Ac (by decide)
   refine ar [4,5,6,7,8,9] ?_;refine .ret ?_
   cases h
   exact ⟨_,_,⟨.inr rfl,Ai,Ac,p2⟩,rfl,rfl⟩
  refine cnt (ntt (dF hc)) ?_;refine .sr ?_;refine vk (vbd CC AS AY) ?_;refine va ?_
  refine stn ?_ Ac (by decide)
  refine ar [4,5,6,7,8,9] ?_;refine .ret ?_
  cases h
  exact ⟨_,_,⟨.inr rfl,Ai,Ac,p2⟩,rfl,rfl⟩
 rintro z2 h
 try dsimp only at h ⊢
 subst hK0
 refine .sr ?_
 obtain ⟨x3,g3,h⟩:=bnd h
 refine vk (An (CY g3) Tryz.call37) ?_
 obtain ⟨x4,g4,h⟩:=bnd h
 refine vk (An (CY g4) Tryz.call37) ?_;refine vk (van (Ah Es) Et) ?_;refine vk (van (Ah Es) Et) ?_
 refine stn ?_ Az (by decide)
 refine stn ?_ Az (by decide)
 refine rk [4,5,6,7,8,9,10,11] ?_;refine .seq ?_;refine .sr ?_;refine va ?_;refine vb ?_;refine ar [4,5,6,7,8,10,11,12] ?_
 obtain ⟨K1,hK1,h⟩:=AQ h
 refine AW.mr (σ:=Int×RT) (fun p=>K1 p.1 p.2=some r) (fun p=>[(4,.nb [.sl (Is []),.sl (Its [])]),(5,.d (.i .i64 0)),(8,.d (.i .i64 p.1)),(10,.nb [.b p.2.1,.sl (L p.2.2.1),.sl (L p.2.2.2)])]) (fun p=>[]) ?_ ?_
 ·skip
  refine .block ?_
  refine .loop (.gk [4,5,6,7,8,10,11,12] ?_)
  refine AL.ind (σ:=Nat×Int×RT×RT×Int) (m:=fun p=>p.1) (e:=fun p=>[(4,.nb [.sl (Is []),.sl (Its [])]),(5,.d (.i .i64 0)),(6,.d (.sl (RVs x1.1))),(7,.d (.sl (RVs x1.2.1))),(8,.d (.i .i64 p.2.1)),(10,.nb [.b p.2.2.1.1,.sl (L p.2.2.1.2.1),.sl (L p.2.2.1.2.2)]),(11,.nb [.b p.2.2.2.1.1,.sl (L p.2.2.2.1.2.1),.sl (L p.2.2.2.1.2.2)]),(12,.d (.i .i64 p.2.2.2.2))]) (h:=fun p=>[]) (I:=fun p=>Bp x1 K1 p.1 p.2.1 p.2.2.1 p.2.2.2.1 p.2.2.2.2=some r) ?_ (AH,x1.2.2,x3,x4,(w64 (z2-1))) h
  rintro ⟨k,s7,s8,s9,s10⟩ h ih
  dsimp only at h ih ⊢
  rcases k with _|k
  ·rw [Bp] at h;cases h
  rw [Bp] at h
  refine .seq ?_;refine .seq ?_;refine AW.mr (σ:=Unit) (fun _=>True) (fun _=>[(4,.nb [.sl (Is []),.sl (Its [])]),(5,.d (.i .i64 0)),(6,.d (.sl (RVs x1.1))),(7,.d (.sl (RVs x1.2.1))),(8,.d (.i .i64 s7)),(10,.nb [.b s8.1,.sl (L s8.2.1),.sl (L s8.2.2)]),(11,.nb [.b s9.1,.sl (L s9.2.1),.sl (L s9.2.2)]),(12,.d (.i .i64 s10)),(73,.d (.b ((decide (0≤s10))&&(decide (s7=0)))))]) (fun _=>[]) ?_ ?_
  ·skip
   refine .region ?_;refine va ?_;refine vb ?_
   by_cases hc:0≤s10
   ·have hb0:(decide (0≤s10))=true:=(dT hc)
    refine vL hb0 ?_;refine va ?_;refine vb ?_;refine vk AC ?_;refine RL.gk [4,5,6,7,8,10,11,12,73] ?_;refine .nil ?_
    exact jr () trivial (by simp only [hb0];rfl)
   have hb0:(decide (0≤s10))=false:=(dF hc)
   refine vL hb0 ?_;refine gf2 ?_;refine vk AC ?_;refine RL.gk [4,5,6,7,8,10,11,12,73] ?_;refine .nil ?_
   exact jr () trivial (by simp only [hb0];rfl)
  rintro _ _
  rcases brc h with ⟨hc,h⟩|⟨hc,h⟩
  ·refine cnt hc ?_
   refine .sk ?_
   obtain ⟨K3,hK3,h⟩:=AQ h
   refine AW.mj (σ:=Int×RT×RT) (fun p=>K3 p.1 p.2.1 p.2.2=some r) (fun p=>[(4,.nb [.sl (Is []),.sl (Its [])]),(5,.d (.i .i64 0)),(6,.d (.sl (RVs x1.1))),(7,.d (.sl (RVs x1.2.1))),(8,.d (.i .i64 p.1)),(10,.nb [.b p.2.1.1,.sl (L p.2.1.2.1),.sl (L p.2.1.2.2)]),(11,.nb [.b p.2.2.1,.sl (L p.2.2.2.1),.sl (L p.2.2.2.2)]),(12,.d (.i .i64 s10))]) (fun p=>[]) ?_ ?_
   ·skip
    refine .block ?_;refine .sr ?_;refine vk (van (Ah Es) Et) ?_;refine rk [4,5,6,7,10,11,12,13] ?_;refine .seq ?_;refine .seq ?_
    obtain ⟨x14,g14,h⟩:=bnd h
    obtain ⟨x15,g15,h⟩:=bnd h
    refine .drawnF 10 [9] [(13,.nb [.b x15.1.1,.sl (L x15.1.2.1),.sl (L x15.1.2.2)])] [] A9 (by kernel_rfl) rfl ?_;refine dv Ae ?_;refine dv Ae ?_
    obtain ⟨n14,p014,q14⟩:=Ao g14
    refine dv (vix n14 p014 (Kr q14) rfl Oz) ?_;refine dv (Ay AT Az) ?_;refine dv (Dq AT Az) ?_;refine dv ((F3 (DR [x14,s9]) FS).deep) ?_;refine dv (VOK.tupd (vs:=[.ag [.b x15.1.1,.sl (L x15.1.2.1),.sl (L x15.1.2.2)],.i .i64 x15.2]) (An (IJ g15) Tryz.call105)) ?_;refine dv Ae ?_;refine dv vex ?_;refine dv vex ?_;refine dz ?_
    refine ⟨?_,?_,?_⟩
    ·intro k hk
     simp only [List.mem_cons,List.not_mem_nil,or_false] at hk
     subst hk
     exact ⟨_,_,_,rfl,rfl,rfl,rfl,rfl,rfl,vex⟩
    ·intro om e hom hge
     cases hom
     exact Gc (cs:=[.b false,.sl (L []),.sl (L [])]) (cs':=[.b x15.1.1,.sl (L x15.1.2.1),.sl (L x15.1.2.2)]) Az (by decide) rfl ((hge 13 (fun k hk v hv=>by
       simp only [List.mem_cons,List.not_mem_nil,or_false] at hk
       subst hk;exact (by decide:¬(some 85=some 13)) (congrArg (Option.map Prod.fst) hv))).trans rfl) ((congrArg A7 (hge 84 (fun k hk v hv=>by
       simp only [List.mem_cons,List.not_mem_nil,or_false] at hk
       subst hk;exact (by decide:¬(some 85=some 84)) (congrArg (Option.map Prod.fst) hv)))).trans rfl) rfl rfl rfl rfl ⟨rfl,rfl⟩
    refine ar [4,5,6,7,8,10,11,12,13] ?_;refine .sr ?_;refine va ?_;refine vb ?_;refine rk [4,5,6,7,8,10,11,12,13,87] ?_
    obtain ⟨K4,hK4,h⟩:=AQ h
    refine AW.mr (σ:=Int×RT) (fun p=>K4 p.1 p.2=some r) (fun p=>[(4,.nb [.sl (Is []),.sl (Its [])]),(5,.d (.i .i64 0)),(6,.d (.sl (RVs x1.1))),(7,.d (.sl (RVs x1.2.1))),(8,.d (.i .i64 p.1)),(10,.nb [.b p.2.1,.sl (L p.2.2.1),.sl (L p.2.2.2)]),(11,.nb [.b s9.1,.sl (L s9.2.1),.sl (L s9.2.2)]),(12,.d (.i .i64 s10))]) (fun p=>[]) ?_ ?_
    ·skip
     rcases brc h with ⟨hc,h⟩|⟨hc,h⟩
     ·refine cnt (dT hc) ?_
      refine .region ?_;refine vk (Dq AT Az) ?_;refine vk (Dq AT Az) ?_;refine vk ((F3 (DR [s8,x15.1]) FS).deep) ?_
      obtain ⟨x18,g18,h⟩:=bnd h
      refine vk (VOK.tupd (vs:=[.ag [.b x18.1.1,.sl (L x18.1.2.1),.sl (L x18.1.2.2)],.i .i64 x18.2]) (An (Sv g18) Tryz.call106)) ?_;refine va ?_;refine vk vex ?_;refine vk vex ?_
      refine stn ?_ Az (by decide)
      refine asd ?_;refine RL.gk [4,5,6,7,8,10,11,12] ?_;refine .nil ?_
      exact jr (x18.2,x18.1) h
     refine cnf (dF hc) ?_;refine .gk [4,5,6,7,8,10,11,12] ?_;refine .skip ?_
     exact jr (x15.2,s8) h
    rintro ⟨z16,z17⟩ h
    try dsimp only at h ⊢
    subst hK4
    refine aw ?_;refine .seq ?_;refine AW.mr (σ:=Unit) (fun _=>True) (fun _=>[(4,.nb [.sl (Is []),.sl (Its [])]),(5,.d (.i .i64 0)),(6,.d (.sl (RVs x1.1))),(7,.d (.sl (RVs x1.2.1))),(8,.d (.i .i64 z16)),(10,.nb [.b z17.1,.sl (L z17.2.1),.sl (L z17.2.2)]),(11,.nb [.b s9.1,.sl (L s9.2.1),.sl (L s9.2.2)]),(12,.d (.i .i64 s10)),(100,.d (.b ((decide (0<s10))&&(decide (z16=0)))))]) (fun _=>[]) ?_ ?_
    ·skip
     refine .region ?_;refine va ?_;refine vb ?_
     by_cases hc:0<s10
     ·have hb0:(decide (0<s10))=true:=(dT hc)
      refine vL hb0 ?_;refine va ?_;refine vb ?_;refine vk AC ?_;refine RL.gk [4,5,6,7,8,10,11,12,100] ?_;refine .nil ?_
      exact jr () trivial (by simp only [hb0];rfl)
     have hb0:(decide (0<s10))=false:=(dF hc)
     refine vL hb0 ?_;refine gf2 ?_;refine vk AC ?_;refine RL.gk [4,5,6,7,8,10,11,12,100] ?_;refine .nil ?_
     exact jr () trivial (by simp only [hb0];rfl)
    rintro _ _
    rcases brc h with ⟨hc,h⟩|⟨hc,h⟩
    ·refine cnt hc ?_
     obtain ⟨x19,g19,h⟩:=bnd h
     obtain ⟨x20,g20,h⟩:=bnd h
     refine .drawnF 10 [9] [(11,.nb [.b x20.1.1,.sl (L x20.1.2.1),.sl (L x20.1.2.2)])] [] A9 (by kernel_rfl) rfl ?_;refine dv (Dq AT Az) ?_;refine dv Ae ?_;refine dv Ae ?_
     obtain ⟨n19,p019,q19⟩:=Ao g19
     refine dv (vix n19 p019 (Kr q19) rfl Oz) ?_;refine dv (Ay AT Az) ?_;refine dv ((F3 (DR [s9,x19]) FS).deep) ?_;refine dv (VOK.tupd (vs:=[.ag [.b x20.1.1,.sl (L x20.1.2.1),.sl (L x20.1.2.2)],.i .i64 x20.2]) (An (IJ g20) Tryz.call105)) ?_;refine dv Ae ?_;refine dv vex ?_;refine dv vex ?_;refine dz ?_
     refine ⟨?_,?_,?_⟩
     ·intro k hk
      simp only [List.mem_cons,List.not_mem_nil,or_false] at hk
      subst hk
      exact ⟨_,_,_,rfl,rfl,rfl,rfl,rfl,rfl,vex⟩
     ·intro om e hom hge
      cases hom
      exact Gc (cs:=[.b s9.1,.sl (L s9.2.1),.sl (L s9.2.2)]) (cs':=[.b x20.1.1,.sl (L x20.1.2.1),.sl (L x20.1.2.2)]) Az (by decide) rfl ((hge 11 (fun k hk v hv=>by
        simp only [List.mem_cons,List.not_mem_nil,or_false] at hk
        subst hk;exact (by decide:¬(some 110=some 11)) (congrArg (Option.map Prod.fst) hv))).trans rfl) ((congrArg A7 (hge 109 (fun k hk v hv=>by
        simp only [List.mem_cons,List.not_mem_nil,or_false] at hk
        subst hk;exact (by decide:¬(some 110=some 109)) (congrArg (Option.map Prod.fst) hv)))).trans rfl) rfl rfl rfl rfl ⟨rfl,rfl⟩
     refine asd ?_;refine RL.gk [4,5,6,7,8,10,11,12] ?_;refine .nil ?_
     exact jr (x20.2,z17,x20.1) h
    refine cnf (bf hc) ?_;refine .gk [4,5,6,7,8,10,11,12] ?_;refine .skip ?_
    exact jr (z16,z17,s9) h
   rintro ⟨z11,z12,z13⟩ h
   try dsimp only at h ⊢
   subst hK3
   refine .region ?_;refine va ?_;refine vb ?_;refine asd ?_;refine .nil ?_;refine AL.gk [4,5,6,7,8,10,11,12] ?_
   exact ih (k,z11,z12,z13,(w64 (s10-1))) h (Nat.lt_succ_self _)
  refine cnf (bf hc) ?_;refine .gk [4,5,8,10] ?_;refine .exit ?_
  exact jr (s7,s8) h
 rintro ⟨z5,z6⟩ h
 try dsimp only at h ⊢
 subst hK1
 refine aw ?_;refine .seq ?_;refine .sr ?_;refine va ?_;refine vb ?_;refine rk [4,5,8,10,112] ?_
 rcases brc h with ⟨hc,h⟩|⟨hc,h⟩
 ·refine cnf (ntf (dT hc)) ?_
  refine .sk ?_;refine .sr ?_;refine vk (Dq AT Az) ?_
  obtain ⟨x21,g21,h⟩:=bnd h
  refine vk (An (NU g21) Tryz.call107) ?_
  refine stn ?_ Ac (by decide)
  refine ar [4,5] ?_;refine .ret ?_
  cases h
  exact ⟨_,_,⟨.inr rfl,Ai,Ac,p2⟩,rfl,rfl⟩
 refine cnt (ntt (dF hc)) ?_;refine .sr ?_;refine vk (vbd CC AS AY) ?_;refine va ?_
 refine stn ?_ Ac (by decide)
 refine ar [4,5,10] ?_;refine .ret ?_
 cases h
 exact ⟨_,_,⟨.inr rfl,Ai,Ac,p2⟩,rfl,rfl⟩
theorem X5 {a c:Int} {b d:Nat} (hb:b≠0) (hd:d≠0) : mkRat a b≤mkRat c d↔a * d≤c * b:=by
 rw [Rat.mkRat_eq_div,Rat.mkRat_eq_div]
 have hb':(0:Rat)<((b:Int):Rat):=by exact_mod_cast Rat.intCast_lt_intCast.2 (show (0:Int)<b by omega)
 have hd':(0:Rat)<((d:Int):Rat):=by exact_mod_cast Rat.intCast_lt_intCast.2 (show (0:Int)<d by omega)
 have e1:((a:Rat) / (b:Rat)) * ((b:Int):Rat)=a:=Rat.div_mul_cancel (Rat.ne_of_gt hb')
 have e2:((c:Rat) / (d:Rat)) * ((d:Int):Rat)=c:=Rat.div_mul_cancel (Rat.ne_of_gt hd')
 generalize (a:Rat) / (b:Rat)=x at *
 generalize (c:Rat) / (d:Rat)=y at *
 have hbd:=Rat.mul_pos hb' hd'
 have key:a * d≤c * b↔x * (((b:Int):Rat) * ((d:Int):Rat))≤y * (((b:Int):Rat) * ((d:Int):Rat)):=by
  rw [← Rat.intCast_le_intCast,Rat.intCast_mul,Rat.intCast_mul,← e1,← e2]
  have h1:x * ((b:Int):Rat) * ((d:Int):Rat)=x * (((b:Int):Rat) * ((d:Int):Rat)):=by grind
  have h2:y * ((d:Int):Rat) * ((b:Int):Rat)=y * (((b:Int):Rat) * ((d:Int):Rat)):=by grind
  rw [h1,h2]
 rw [key]
 constructor
 ·intro h;exact Rat.mul_le_mul_of_nonneg_right h (Rat.le_of_lt hbd)
 ·intro h
  apply Rat.not_lt.1
  intro h2
  exact absurd (Rat.mul_lt_mul_of_pos_right h2 hbd) (Rat.not_lt.2 h)
def U5 (p q:Rat) : RT×Int:=if p=0 then (ofQ q,0) else if B0 (q / p) then (if B0 ((q / p).floor : Rat) then (if B0 (p * ((q / p).floor : Rat)) then IN (q-p * ((q / p).floor : Rat)) else bad 8) else bad 8) else bad 8
theorem SM {p q:Rat} (hp:B0 p) (hq:B0 q) : E2 (ofQ p) (ofQ q)=some (U5 p q):=by
 unfold E2 U5
 rw [Oe (BX hp) (BX hq),Km hp hq,oB,if_pos rfl]
 by_cases h0:p=0
 ·rw [if_pos h0,if_pos (L2.2 h0),Uz hq,oB]
  have e:(decide (q.num<0)&&decide (q≠0))=decide (q.num<0):=by
   by_cases h:q=0
   ·subst h;rfl
   ·rw [dT (p:=q≠0) h,Bool.and_true]
  show some (((decide (q.num<0)&&decide (q≠0)),_,_),_)=_
  rw [e];rfl
 rw [if_neg h0,if_neg (fun h=>h0 (L2.1 h)),V6 hq hp,if_neg h0,oB]
 by_cases h1:B0 (q / p)
 ·rw [if_pos h1,DH h1,if_pos rfl,VM h1,oB]
  by_cases h2:B0 ((q / p).floor:Rat)
  ·rw [if_pos h2,DH h2,if_pos rfl,Qi hp h2,oB]
   by_cases h3:B0 (p * ((q / p).floor:Rat))
   ·rw [if_pos h3,DH h3,if_pos rfl,V0 hq h3];rfl
   ·rw [if_neg h3,MF h3,if_neg (by decide)]
  ·rw [if_neg h2,MF h2,if_neg (by decide),if_neg (by decide)]
 ·rw [if_neg h1,MF h1,if_neg (by decide),if_neg (by decide),if_neg (by decide)]
theorem Mt (v r:Nat) : ((v:Int) : Rat) / ((r:Int) : Rat)=mkRat (v:Int) r:=by
 rw [Rat.mkRat_eq_div];rfl
theorem Tn {v r:Nat} (hv:v<4294967296) (hr:r≠0) (hr2:r<4294967296) : B0 (mkRat (v:Int) r):=by
 have h1:(mkRat (v:Int) r).num.natAbs≤v:=by
  rw [Rat.num_mkRat,if_neg hr]
  have:((v:Int) / ((r.gcd (v:Int).natAbs:Nat):Int)).natAbs=v / (r.gcd (v:Int).natAbs):=by
   rw [← Int.natCast_ediv,Int.natAbs_natCast]
  rw [this];exact Nat.div_le_self _ _
 have h2:(mkRat (v:Int) r).den≤r:=by
  rw [Rat.den_mkRat,if_neg hr];exact Nat.div_le_self _ _
 have few:∀ {n:Nat},n<4294967296→(Ad n).length≤32:=fun h=>nT (Cu (k:=1) (by simpa using h)) (by decide)
 exact ⟨few (by omega),few (by omega)⟩
theorem Su {v r:Nat} (hr:r≠0) : (mkRat (v:Int) r).floor=((v / r:Nat) : Int):=by
 have h:∀ x:Int,x≤(mkRat (v:Int) r).floor↔x≤((v / r:Nat):Int):=fun x=>by
  have e1:mkRat x 1=(x:Rat):=Rat.ext (by rw [Rat.num_mkRat];simp) (by rw [Rat.den_mkRat];simp)
  rw [Rat.le_floor_iff,← e1,X5 (by decide) hr,Int.natCast_ediv,Int.le_ediv_iff_mul_le (by omega)]
  simp
 have a1:=(h _).1 (Int.le_refl _)
 have a2:=(h _).2 (Int.le_refl _)
 omega
def Qn (n:Nat) : RT:=ofQ (((n:Int)) : Rat)
theorem I0 {n:Nat} (h:n≤9223372036854775807) : B0 ((n:Int) : Rat):=FI ⟨by omega,by omega⟩
theorem Vr {r v:Nat} (hr:0<r) (hr2:r≤100) (hv:v<4294967296) : D3 (Qn r) (Qn v)=some (Qn (v % r),Qn (v / r),0):=by
 have fr:=I0 (n:=r) (by omega)
 have fv:=I0 (n:=v) (by omega)
 have hr0:((r:Int):Rat)≠0:=fun h=>by
  have:((r:Int):Rat)=((0:Int):Rat):=h
  have:=Rat.intCast_inj.1 this
  omega
 have hmul:v=r * (v / r)+v % r:=(Nat.div_add_mod v r).symm
 have hlt:=Nat.mod_lt v hr
 have hdl:v / r≤v:=Nat.div_le_self v r
 have f1:B0 (((v:Int):Rat) / ((r:Int):Rat)):=by rw [Mt];exact Tn hv (by omega) (by omega)
 have e1:(((v:Int):Rat) / ((r:Int):Rat)).floor=((v / r:Nat):Int):=by rw [Mt];exact Su (by omega)
 have e2:((r:Int):Rat) * (((v / r:Nat):Int):Rat)=(((r * (v / r):Nat):Int):Rat):=by rw [← Rat.intCast_mul];norm_cast
 have hle:r * (v / r)≤v:=by omega
 have e3:((v:Int):Rat)-(((r * (v / r):Nat):Int):Rat)=(((v % r:Nat):Int):Rat):=by
  rw [← Rat.intCast_sub];congr 1;omega
 have e4:((v:Int):Rat)-(((v % r:Nat):Int):Rat)=(((r * (v / r):Nat):Int):Rat):=by
  rw [← Rat.intCast_sub];congr 1;omega
 have e5:(((r * (v / r):Nat):Int):Rat) / ((r:Int):Rat)=(((v / r:Nat):Int):Rat):=by
  rw [← e2,Rat.div_def,Rat.mul_comm (((r:Int):Rat)),Rat.mul_assoc,Rat.mul_inv_cancel _ hr0,Rat.mul_one]
 have fm:=I0 (n:=v % r) (by omega)
 have fd:=I0 (n:=v / r) (by omega)
 have fp:=I0 (n:=r * (v / r)) (by omega)
 have hmod:U5 ((r:Int):Rat) ((v:Int):Rat)=(Qn (v % r),0):=by
  unfold U5
  rw [if_neg hr0,if_pos f1,e1,if_pos fd,e2,if_pos fp,e3,DH fm];rfl
 have hs:Vv ((r:Int):Rat) 0≠0:=fun h=>by
  unfold Vv at h
  rw [if_neg hr0] at h
  split at h<;>cases h
 unfold D3
 rw [show Qn r=ofQ ((r:Int):Rat) from rfl,show Qn v=ofQ ((v:Int):Rat) from rfl,SM fr fv,hmod,oB,if_pos rfl,WF fr,oB,oB,if_neg (by simpa using hs),show Qn (v % r)=ofQ (((v % r:Nat):Int):Rat) from rfl,V0 fv fm,e4,DH fp,oB,CX,if_pos rfl,V6 fp fr,if_neg hr0,e5,DH fd]
 rfl
def Zn (l:List Nat) : List Int:=l.map fun (n:Nat)=>(n:Int)
theorem BO (l:List Nat) : (Zn l).length=l.length:=by simp [Zn]
theorem KD {js:List Nat} (hl:js.length≤4096) (K:List RT→Int→List RT→Option (List RT×Int)) (u:List RT) (v:Int) : ∀ (m i k:Nat) (t:List RT),m=js.length-i→i≤js.length→m<k→t.length=i →
  B7 ((Zn js).map BK) K k u v t (i:Int)=K u v (t++(js.drop i).map Qn)
 | m,i,0,t,_,_,h,_=>by omega
 | m,i,k+1,t,hm,hi,hk,ht=>by
  rw [B7,List.length_map,BO]
  by_cases hlt:i<js.length
  ·rw [if_pos (by omega),Cp (i:=i) (by rw [List.length_map,BO];exact hlt),oB,List.getElem_map,show (Zn js)[i]'(by rw [BO];exact hlt)=(js[i]:Int) from by simp [Zn],if_pos (show (BK (js[i]:Int)).kind=1 from rfl),H8 (by simp;omega),oB,C4 (by omega),KD hl K u v (m-1) (i+1) k _ (by omega) (by omega) (by omega) (by simp [ht]),lC hlt,List.map_cons,List.append_assoc]
   rfl
  ·rw [if_neg (by omega),List.drop_of_length_le (by omega)];simp
theorem Nc {a:Arr} {js:List Nat} (hi:Bt a=some ((Zn js).map BK)) (hl:js.length≤4096) : DM a=some (js.map Qn,0):=by
 unfold DM
 rw [hi,oB,CX]
 have:=KD hl (fun _ _ (z4:List RT)=>some (z4,(0:Int))) [] 0 js.length 0 AH [] rfl (Nat.zero_le _) (Ct (by omega)) rfl
 rw [List.drop_zero,List.nil_append,show ((0:Nat):Int)=0 from rfl] at this
 exact this
theorem NC {a b:Arr} {js ks:List Nat} (hi:Bt a=some ((Zn js).map BK)) (hl:js.length≤4096) (hi2:Bt b=some ((Zn ks).map BK)) (hl2:ks.length≤4096) : FH a b=some (js.map Qn,ks.map Qn,0):=by
 unfold FH
 rw [Nc hi hl,oB,CX,if_pos rfl,Nc hi2 hl2];rfl
theorem O9 {a b:List Int} (h:a.length+b.length≤100) : Bo [a,b]=some (a++b):=by
 obtain ⟨k,hk⟩:=Ts 3
 unfold Bo
 have w1:w64 (0+((List.length a:Nat):Int))=((List.length a:Nat):Int):=by rw [CT (by omega) (by omega)];omega
 have w2:w64 (((List.length a:Nat):Int)+((List.length b:Nat):Int))=((List.length a+List.length b:Nat):Int):=by rw [CT (by omega) (by omega)];omega
 rw [CX,hk,AP,if_pos (by simp),CX,show rd? [a,b] 0=some a from rfl,oB,w1,J1 (by omega),oB]
 dsimp only
 rw [AP,if_pos (by rw [show w64 (0+1)=1 from rfl];simp),CX,show rd? [a,b] (w64 (0+1))=some b from rfl,oB,w2,J1 (by omega),oB]
 dsimp only
 rw [AP,if_neg (by rw [show w64 (w64 (0+1)+1)=2 from rfl];simp),J1 (by unfold Py;omega),oB,CX,
  AN,if_pos (by simp),show rd? [a,b] 0=some a from rfl,oB,H8 (by simp;omega),oB,List.nil_append,AN,if_pos (by rw [show w64 (0+1)=1 from rfl];simp),show rd? [a,b] (w64 (0+1))=some b from rfl,oB,H8 (by omega),oB,
  AN,if_neg (by rw [show w64 (w64 (0+1)+1)=2 from rfl];simp)]
theorem Sf {l:List Int} (h:∀ z∈l,Gb z) (h0:l≠[]) (hl:l.length≤4096) : Be [(l.length:Int)] (l.map BK)=some (Fi l,0):=by
 have e:∀ l:List Int,dIs (l.map BK)=0∧cIs (l.map BK)=0:=fun l=>by
  induction l with
  | nil=>exact ⟨rfl,rfl⟩
  | cons z l ih=>exact ⟨by rw [List.map_cons,dIs,ih.1];rfl,by rw [List.map_cons,cIs,ih.2];rfl⟩
 have v:VR (l.map BK):=VR.of (by simpa using h0) (by simpa using hl) (fun x hx=>⟨V7 h x hx,(RI h x hx).1⟩) (by rw [(e l).1];omega) (by rw [(e l).2,List.length_map];omega)
 have:=v.make
 rw [List.length_map] at this
 rw [this,Ub h0 hl]
theorem Qs {l:List Nat} (h:∀ n∈l,n≤1000000000) : ∀ z∈Zn l,Gb z:=fun z hz=>by
 simp only [Zn,List.mem_map] at hz
 obtain ⟨n,hn,rfl⟩:=hz
 have:=h n hn
 exact ⟨by omega,by omega⟩
theorem IZ {l:List Int} (hl:l.length≤4096) : (Fi l).shape=[(l.length:Int)]:=by
 unfold Fi FT;simp [Arr.shape];omega
def dgs (rs:List Nat) : Nat→Nat→List Nat
 | 0,_=>[]
 | n+1,v=>dgs rs n (v / rs.getD n 1)++[v % rs.getD n 1]
theorem Bz (rs:List Nat) : ∀ n v,(dgs rs n v).length=n
 | 0,_=>rfl
 | n+1,v=>by rw [dgs,List.length_append,Bz rs n];rfl
theorem OI (rs:List Nat) : ∀ n v,∀ d∈dgs rs n v,d≤v
 | 0,_,d,h=>by simp [dgs] at h
 | n+1,v,d,h=>by
  rw [dgs] at h
  rcases List.mem_append.1 h with h|h
  ·exact nT (OI rs n _ d h) (Nat.div_le_self _ _)
  ·rw [List.mem_singleton] at h;subst h;exact Nat.mod_le _ _
def prN (rs:List Nat) : Nat→Nat
 | 0=>1
 | n+1=>prN rs n * rs.getD n 1
abbrev Wd (m s9:Int) : Int→RT→Int×List Itm×Bool×List Nat×List Nat→Option (Int×List Itm×Bool×List Nat×List Nat) :=
 fun (i25:Int) (x26:RT) (p:Int×(List Itm)×Bool×(List Nat)×(List Nat))=>((D3 x26 (p.2.2.1,p.2.2.2.1,p.2.2.2.2)).bind fun x27=>(if x27.2.2=0 then ((rd? p.2.1 (w64 ((w64 (i25 * m))+s9))).bind fun x28=>(some (x27.2.2,(List.set p.2.1 (Int.toNat (w64 ((w64 (i25 * m))+s9))) (Itm.mk 1 x27.1 0 [])),x27.2.1.1,x27.2.1.2.1,x27.2.1.2.2))) else none))
theorem Q8 {rs:List Nat} (hr:∀ r∈rs,0<r∧r≤100) (h4:rs.length≤4) : ∀ (n:Nat) (v:Nat) (its:List Itm),n≤rs.length→n≤its.length→v<4294967296 →
  ∃ w:Nat,KF (Wd 1 0) (rs.map Qn) n (0,its,Qn v)=some (0,(Zn (dgs rs n v)).map BK++its.drop n,Qn w)
 | 0,v,its,_,_,_=>⟨v,by rw [KF,dgs,List.drop_zero];rfl⟩
 | n+1,v,its,hn,hi,hv=>by
  have hlt:n<rs.length:=hn
  have hin:n<its.length:=hi
  have hx:(rs.map Qn)[n]?=some (Qn rs[n]):=by simp [hlt]
  have hrn:=hr _ (List.getElem_mem hlt)
  have eg:rs.getD n 1=rs[n]:=Li hlt
  have w1:w64 (w64 (((n:Nat):Int) * 1)+0)=(n:Int):=by rw [Int.mul_one,Int.add_zero,CT (z:=(n:Int)) (by omega) (by omega),CT (by omega) (by omega)]
  obtain ⟨w,hw⟩:=Q8 hr h4 n (v / rs[n]) (its.set n (BK ((v % rs[n]:Nat):Int))) (by omega) (by rw [List.length_set];omega) (Nat.lt_of_le_of_lt (Nat.div_le_self _ _) hv)
  refine ⟨w,?_⟩
  rw [KF,hx,oB]
  have step:Wd 1 0 ((n:Nat):Int) (Qn rs[n]) (0,its,Qn v)=some (0,its.set n (BK ((v % rs[n]:Nat):Int)),Qn (v / rs[n])):=by
   show ((D3 (Qn rs[n]) (Qn v)).bind _)=_
   rw [Vr hrn.1 hrn.2 hv,oB]
   dsimp only
   rw [if_pos rfl,w1,Cp hin,oB,Int.toNat_natCast];rfl
  rw [step,oB,hw,dgs,eg]
  have e1:∀ d:Itm,(its.set n d).drop n=d::its.drop (n+1):=fun d=>by
   rw [lC (show n<(its.set n d).length by rw [List.length_set];exact hin),List.getElem_set_self,List.drop_set,if_pos (by omega)]
  rw [e1]
  simp [Zn]
theorem Of {rs:List Nat} (hr:∀ r∈rs,0<r∧r≤100) (h4:rs.length≤4) {ds:List RT} {n0:Nat} (hn0:n0≤rs.length) (K:Int→RT→Option (Arr×Int)) : ∀ (n v k s w:Nat),n≤n0→n<k→v<prN rs n→s+w * v≤1000000000→w * prN rs n≤1000000000 →
  (∀ i,i<n→ds[i]?=(dgs rs n v)[i]?.map Qn)→Bp (rs.map Qn,ds,0) K k 0 (Qn s) (Qn w) ((n:Int)-1)=K 0 (Qn (s+w * v))
 | n,v,0,s,w,_,h,_,_,_,_=>by omega
 | 0,v,k+1,s,w,_,_,hv,_,_,_=>by
  have:v=0:=by simp [prN] at hv;exact hv
  subst this
  rw [Bp,if_neg (by simp),Nat.mul_zero,Nat.add_zero]
 | n+1,v,k+1,s,w,hn,hk,hv,hb,hw,hd=>by
  have hlt:n<rs.length:=by omega
  have hrn:=hr _ (List.getElem_mem hlt)
  have eg:rs.getD n 1=rs[n]:=Li hlt
  have hdn:=hd n (by omega)
  rw [dgs,eg] at hdn
  have hdn':ds[n]?=some (Qn (v % rs[n])):=by
   rw [hdn,List.getElem?_append_right (by rw [Bz];exact Nat.le_refl _),Bz,Nat.sub_self];rfl
  have hv2:v / rs[n]<prN rs n:=by
   rw [prN,eg] at hv
   exact Nat.div_lt_of_lt_mul (by rw [Nat.mul_comm];exact hv)
  have hdm:=Nat.div_add_mod v rs[n]
  have hmod:=Nat.mod_lt v hrn.1
  have hmle:=Nat.mod_le v rs[n]
  have b1:w * (v % rs[n])≤w * v:=Nat.mul_le_mul_left _ hmle
  have e0:((n+1:Nat):Int)-1=(n:Int):=by omega
  have fq:∀ {x:Nat},x≤1000000000→B0 ((x:Int):Rat):=fun h=>I0 (by omega)
  have hwle:w≤1000000000:=by
   have hp:0<prN rs (n+1):=by omega
   exact nT (Nat.le_mul_of_pos_right w hp) hw
  have em:GA [Qn (v % rs[n]),Qn w]=some (Qn (w * (v % rs[n])),0):=by
   have f1:B0 (((w * (v % rs[n]):Nat):Int):Rat):=fq (by omega)
   have:=Qi (fq (x:=v % rs[n]) (by omega)) (fq hwle)
   rw [← Rat.intCast_mul,show ((v % rs[n]:Nat):Int) * (w:Int)=((w * (v % rs[n]):Nat):Int) by rw [Int.mul_comm,Int.natCast_mul],DH f1] at this
   exact this
  have ea:Ke [Qn s,Qn (w * (v % rs[n]))]=some (Qn (s+w * (v % rs[n])),0):=by
   have f1:B0 (((s+w * (v % rs[n]):Nat):Int):Rat):=fq (by omega)
   have:=W9 (fq (x:=s) (by omega)) (fq (x:=w * (v % rs[n])) (by omega))
   rw [← Rat.intCast_add,show ((s:Nat):Int)+((w * (v % rs[n]):Nat):Int)=((s+w * (v % rs[n]):Nat):Int) by rw [Int.natCast_add],DH f1] at this
   exact this
  rw [Bp,e0,if_pos (by simp),CX,Uj hdn',oB,em,oB,CX,if_pos rfl,ea,oB]
  dsimp only
  have w1:w64 ((n:Int)-1)=(n:Int)-1:=CT (by omega) (by omega)
  have hd2:∀ i,i<n→ds[i]?=(dgs rs n (v / rs[n]))[i]?.map Qn:=fun i hi=>by
   have:=hd i (by omega)
   rw [dgs,eg] at this
   rw [this,List.getElem?_append_left (by rw [Bz];exact hi)]
  have e9:w * rs[n] * (v / rs[n])=w * (rs[n] * (v / rs[n])):=Nat.mul_assoc _ _ _
  have e8:w * (rs[n] * (v / rs[n]))+w * (v % rs[n])=w * v:=by rw [← Nat.mul_add,hdm]
  by_cases h0:n=0
  ·subst h0
   have hq:v / rs[0]=0:=by simpa [prN] using hv2
   rw [if_neg (by simp),w1]
   have:=Of (ds:=ds) hr h4 hn0 K 0 (v / rs[0]) k (s+w * (v % rs[0])) w (by omega) (by omega) hv2 (by rw [hq];omega) (by simp [prN];exact hwle) (fun i hi=>by omega)
   rw [show (((0:Nat):Int))-1=(0:Int)-1 from rfl] at this
   show Bp _ K k 0 _ _ ((0:Int)-1)=_
   rw [this,hq,Nat.mul_zero,Nat.add_zero]
   congr 2
   rw [hq,Nat.mul_zero,Nat.mul_zero] at e8
   omega
  ·have ew:GA [Qn w,Qn rs[n]]=some (Qn (w * rs[n]),0):=by
    have hle:w * rs[n]≤1000000000:=by
     have hp:0<prN rs n:=Nat.lt_of_le_of_lt (Nat.zero_le _) hv2
     have:w * rs[n]≤w * prN rs (n+1):=by
      rw [prN,eg];exact Nat.mul_le_mul_left _ (Nat.le_mul_of_pos_left _ hp)
     exact nT this hw
    have f1:B0 (((w * rs[n]:Nat):Int):Rat):=fq hle
    have:=Qi (fq hwle) (fq (x:=rs[n]) (by omega))
    rw [← Rat.intCast_mul,show (w:Int) * ((rs[n]:Nat):Int)=((w * rs[n]:Nat):Int) by rw [Int.natCast_mul],DH f1] at this
    exact this
   have hgr:rd? (rs.map Qn) ((n:Nat):Int)=some (Qn rs[n]):=Uj (by simp [hlt])
   rw [if_pos (by simp;omega),hgr,oB,ew,oB]
   dsimp only
   rw [w1]
   have hwp:w * rs[n] * prN rs n=w * prN rs (n+1):=by rw [prN,eg,Nat.mul_assoc,Nat.mul_comm rs[n]]
   rw [Of hr h4 hn0 K n (v / rs[n]) k (s+w * (v % rs[n])) (w * rs[n]) (by omega) (by omega) hv2 (by omega) (by omega) hd2]
   congr 2
   omega
theorem Vm {v:Nat} (hv:v≤1000000000) : Bt (.mk [] [BK (v:Int)])=some ((Zn [v]).map BK):=by
 have o:=OF (z:=(v:Int)) ⟨by omega,by omega⟩
 rw [LA o.1,if_neg (by
  rintro (q|q)
  ·exact absurd q (by show ¬((1:Int)=0);decide)
  ·exact q o.2)];rfl
theorem Lz {l:List Nat} (h:∀ n∈l,n≤1000000000) (hl:l.length≤4096) : Bt (Fi (Zn l))=some ((Zn l).map BK):=by
 rw [Qu (Qs h),List.take_of_length_le (by rw [BO];exact hl)]
theorem Sy {rs:List Nat} (hr:∀ r∈rs,0<r∧r≤100) (h4:rs.length≤4) {v:Nat} (hv:v≤1000000000) : E8 (Fi (Zn rs)) (.mk [] [BK (v:Int)])=some (Fi (Zn (dgs rs rs.length v)),0):=by
 have hrs:∀ n∈rs,n≤1000000000:=fun n hn=>by have:=hr n hn;omega
 have hsh:(Fi (Zn rs)).shape=[(rs.length:Int)]:=by rw [IZ (by rw [BO];omega),BO]
 have hds:∀ n∈dgs rs rs.length v,n≤1000000000:=fun n hn=>by have:=OI rs _ v n hn;omega
 obtain ⟨k,hk⟩:=Ts 2
 unfold E8
 have hb:=NC (Lz hrs (by omega)) (by omega) (Vm hv) (by simp)
 have hc:Bo [[(rs.length:Int)],[]]=some ([(rs.length:Int)]++[]):=O9 (by simp)
 rw [hsh,if_neg (by simp),hb,oB,if_pos rfl,show (Arr.mk [] [BK (v:Int)]).shape=[] from rfl,hc,oB,List.append_nil,Jy (by simp),JK (by omega),oB,if_pos rfl]
 have hn:(if ((rs.length:Nat):Int)<1 then (1:Int) else ((rs.length:Nat):Int))=((max rs.length 1:Nat):Int):=by
  split<;>omega
 have hnum:E4 0=some (BK 0):=by
  unfold E4
  rw [IH (z:=0) (by omega) (by omega)];rfl
 dsimp only
 rw [hn,J1 (by omega),oB,hnum,oB,Int.toNat_natCast]
 have hrd:∃ x,rd? (List.replicate (max rs.length 1) (Itm.mk 0 (false,[],[]) 0 [])) 0=some x:=⟨_,Cp (i:=0) (by rw [List.length_replicate];omega)⟩
 obtain ⟨x,hx⟩:=hrd
 rw [hx,oB,show Int.toNat 0=0 from rfl]
 have hlen:((List.replicate (max rs.length 1) (Itm.mk 0 (false,[],[]) 0 [])).set 0 (BK 0)).length=max rs.length 1:=by simp
 have hone:rs.length=0→(List.replicate (max rs.length 1) (Itm.mk 0 (false,[],[]) 0 [])).set 0 (BK 0)=[BK 0]:=fun h=>by rw [h];rfl
 generalize hits:(List.replicate (max rs.length 1) (Itm.mk 0 (false,[],[]) 0 [])).set 0 (BK 0)=its at hlen hone
 obtain ⟨w,hw⟩:=Q8 hr h4 rs.length v its (Nat.le_refl _) (by omega) (by omega)
 rw [hk,Cl,if_pos (by simp),show rd? ([v].map Qn) 0=some (Qn v) from rfl,oB,J1 (by rw [List.length_map];omega),oB,List.length_map]
 have hw':KF (Wd 1 0) (rs.map Qn) (rs.map Qn).length (0,its,Qn v)=some (0,(Zn (dgs rs rs.length v)).map BK++its.drop rs.length,Qn w):=by rw [List.length_map];exact hw
 refine B4 hw' ?_
 dsimp only
 rw [Cl,if_neg (by rw [show w64 (0+1)=1 from rfl];simp)]
 by_cases h0:rs.length=0
 ·have:rs=[]:=List.length_eq_zero_iff.1 h0
  subst this
  rw [hone rfl]
  show ((Be [0] [BK 0]).bind _)=_
  rw [show Be [0] [BK 0]=some (Fi [],0) by kernel_rfl];rfl
 ·have hmk:=Sf (l:=Zn (dgs rs rs.length v)) (Qs hds) (fun q=>by have:=congrArg List.length q;rw [BO,Bz,List.length_nil] at this;exact h0 this) (by rw [BO,Bz];omega)
  rw [BO,Bz] at hmk
  rw [List.drop_of_length_le (by omega),List.append_nil,hmk];rfl
theorem X9 {v:Nat} (hv:v≤1000000000) : FE (Qn v)=some (.mk [] [BK (v:Int)]):=by
 have f:=I0 (n:=v) (by omega)
 unfold FE
 rw [show Qn v=ofQ ((v:Int):Rat) from rfl,D8 (BX f),oB,Di f,if_pos rfl,Im (BX f),oB];rfl
theorem RV {rs:List Nat} (hr:∀ r∈rs,0<r∧r≤100) (h4:rs.length≤4) {v:Nat} (hv:v<prN rs rs.length) (hp:prN rs rs.length≤1000000000) : Fd (Fi (Zn rs)) (Fi (Zn (dgs rs rs.length v)))=some (.mk [] [BK (v:Int)],0):=by
 have hrs:∀ n∈rs,n≤1000000000:=fun n hn=>by have:=hr n hn;omega
 have hds:∀ n∈dgs rs rs.length v,n≤1000000000:=fun n hn=>by have:=OI rs _ v n hn;omega
 have hsh:(Fi (Zn rs)).shape=[(rs.length:Int)]:=by rw [IZ (by rw [BO];omega),BO]
 have hsh2:(Fi (Zn (dgs rs rs.length v))).shape=[(rs.length:Int)]:=by rw [IZ (by rw [BO,Bz];omega),BO,Bz]
 have hb:=NC (Lz hrs (by omega)) (by omega) (Lz hds (by rw [Bz];omega)) (by rw [Bz];omega)
 unfold Fd
 rw [hsh,hsh2,if_neg (by simp),hb,oB,CX,if_pos rfl]
 have K:∀ z2:Int,z2=(rs.length:Int)→((BZ 0).bind fun x3=>((BZ 1).bind fun x4=>(jn (fun (z5:Int) (z6:RT)=>(if z5=0 then ((FE z6).bind fun x21=>(some (x21,(0:Int)))) else (some ((Arr.mk [] []),z5)))) fun K1=>(Bp (rs.map Qn,(dgs rs rs.length v).map Qn,0) K1 AH 0 x3 x4 (w64 (z2-1))))))=some (.mk [] [BK (v:Int)],0):=by
  rintro _ rfl
  rw [show BZ 0=some (Qn 0) from IH (z:=0) (by omega) (by omega),oB,show BZ 1=some (Qn 1) from IH (z:=1) (by omega) (by omega),oB,CX,CT (by omega) (by omega),
   Of hr h4 (Nat.le_refl _) _ rs.length v AH 0 1 (Nat.le_refl _) (Ct (by omega)) hv (by omega) (by omega) (fun i _=>by rw [List.getElem?_map])]
  rw [if_pos rfl,Nat.zero_add,Nat.one_mul,X9 (by omega)];rfl
 by_cases h0:rs.length=0
 ·have e0:((List.length ((dgs rs rs.length v).map Qn):Nat):Int)=0:=by rw [List.length_map,Bz,h0];rfl
  rw [if_pos e0]
  exact K 0 (by rw [h0];rfl)
 ·rw [if_neg (by rw [List.length_map,Bz];omega),if_pos (by rw [List.length_map,List.length_map,Bz])]
  exact K _ (by rw [List.length_map])
def Hm (a0:(Int×RT×Int)) (a1:Int) (a2:Arr) : Option (Arr×Int):=((F0 a1).bind fun x1=>(if x1=true then ((D6 a0 ([a2])).bind fun x2=>(if x2=true then ((Bt a2).bind fun x3=>(if a1=8834 then none else (if a1=8835 then none else (if a1=8593 then (jn (((rd? x3 0).bind fun x4=>none)) fun K0=>(if ((List.length x3:Nat) : Int)=0 then none else (K0))) else (if a1=8714 then none else (jn (fun (z5:Bool)=>(if z5=true then (if ((List.length a2.shape:Nat) : Int)=1 then ((Jf a0 x3 (RY [(9035,1),(9042,(-1))] a1)).bind fun x6=>(some (x6,0))) else (some ((Arr.mk [] []),4))) else (if a1=8746 then (if 1<((List.length a2.shape:Nat) : Int) then (some ((Arr.mk [] []),4)) else none) else (if a1=8801 then none else (if a1=8802 then none else none))))) fun K1=>(if a1=9035 then (K1 (decide (a1=9035))) else (K1 (decide (a1=9042)))))))))) else (some ((Arr.mk [] []),22)))) else (some ((Arr.mk [] []),23))))
theorem KY {a0:(Int×RT×Int)} {a1:Int} {a2:Arr} {r:Arr×Int} (h:Hm a0 a1 a2=some r) :
  Fn Tryz.prog 19 [.ag [.i .i64 a0.1,.b a0.2.1.1,.sl (L a0.2.1.2.1),.sl (L a0.2.1.2.2),.i .i64 a0.2.2],.i .i32 a1,.ag [.sl (Is a2.shape),.sl (Its a2.items)]] (.tup [.d (.ag [.sl (Is r.1.shape),.sl (Its r.1.items)]),.d (.i .i64 r.2)]):=by
 unfold Hm at h
 refine Fn.ofC (rs:=[.cell 6 27,.tmp 7]) (nt:=121) Tryz.func19 rfl rfl rfl (by simp) rfl ?_;refine .sr ?_;refine vk vbx ?_;refine vk vbx ?_;refine vk (van (Ah AS) AY) ?_;refine ar [1,3,5,6,7] ?_;refine .seq ?_;refine .block ?_;refine .sr ?_;refine va ?_
 obtain ⟨x1,g1,h⟩:=bnd h
 refine vk (An (JG g1) Tryz.call64) ?_;refine vk vnt ?_;refine ar [1,3,5,6,7,9] ?_
 rcases brc h with ⟨hc,h⟩|⟨hc,h⟩
 ·refine cnf (ntf hc) ?_
  refine .sr ?_;refine vk (Ay KM JS) ?_;refine vk (Ay Ai Ac) ?_;refine vk ((HH (Oa a2) (Jo [a2]) L4).deep) ?_
  obtain ⟨x2,g2,h⟩:=bnd h
  refine vk (An (IT g2) Tryz.call39) ?_;refine vk vnt ?_;refine ar [1,3,5,6,7,14] ?_
  rcases brc h with ⟨hc,h⟩|⟨hc,h⟩
  ·refine cnf (ntf hc) ?_
   refine .sk ?_;refine .sr ?_;refine vk (Ay Ai Ac) ?_
   obtain ⟨x3,g3,h⟩:=bnd h
   refine vk (An (HN g3) Tryz.call46) ?_;refine ar [1,3,5,6,7,8] ?_;refine .seq ?_;refine .sr ?_;refine va ?_;refine rk [1,3,5,6,7,8,23] ?_;refine .block ?_;refine .sr ?_;refine vb ?_;refine ar [1,3,5,6,7,8,23,24] ?_
   rcases brc h with ⟨hc,h⟩|⟨hc,h⟩
   ·refine cnt (dT hc) ?_
    refine .sr ?_;refine vk (Ay Ai Ac) ?_
    exact nomatch h
   refine cnf (dF hc) ?_;refine .sr ?_;refine vb ?_;refine ar [1,3,5,6,7,8,23,32] ?_
   rcases brc h with ⟨hc,h⟩|⟨hc,h⟩
   ·refine cnt (dT hc) ?_
    refine .sr ?_;refine vk (Ay Ai Ac) ?_
    exact nomatch h
   refine cnf (dF hc) ?_;refine .sr ?_;refine vb ?_;refine ar [1,3,5,6,7,8,23,38] ?_
   rcases brc h with ⟨hc,h⟩|⟨hc,h⟩
   ·refine cnt (dT hc) ?_
    refine .seq ?_;refine .sr ?_;refine va ?_;refine vk (Bg (AK _) (CM _) CU) ?_;refine vb ?_;refine rk [3,5,6,7,8,42] ?_
    obtain ⟨K0,hK0,h⟩:=AQ h
    refine AW.mr (σ:=Unit) (fun p=>K0=some r) (fun p=>[(3,.d (.ptr [.i .i64 a0.1,.b a0.2.1.1,.sl (L a0.2.1.2.1),.sl (L a0.2.1.2.2),.i .i64 a0.2.2])),(5,.d (.ptr [.sl (Is a2.shape),.sl (Its a2.items)])),(6,.nb [.sl (Is []),.sl (Its [])]),(7,.d (.i .i64 0)),(8,.d (.sl (Its x3)))]) (fun p=>[]) ?_ ?_
    ·skip
     rcases brc h with ⟨hc,h⟩|⟨hc,h⟩
     ·refine cnt (dT hc) ?_
      refine .region ?_;refine vk (Ay Ai Ac) ?_
      exact nomatch h
     refine cnf (dF hc) ?_;refine .gk [3,5,6,7,8] ?_;refine .skip ?_
     exact jr () h
    rintro _ h
    subst hK0
    refine aw ?_;refine .sr ?_;refine va ?_
    obtain ⟨x4,g4,h⟩:=bnd h
    obtain ⟨n4,p04,q4⟩:=Ao g4
    refine vk (vix n4 p04 (DD q4) rfl DB) ?_;refine vk (Ay Bk AG) ?_
    exact nomatch h
   refine cnf (dF hc) ?_;refine .sr ?_;refine vb ?_;refine ar [1,3,5,6,7,8,23,50] ?_
   rcases brc h with ⟨hc,h⟩|⟨hc,h⟩
   ·refine cnt (dT hc) ?_
    refine .seq ?_;refine .drawn 13 A9 (by kernel_rfl) ?_;refine dv Ae ?_
    exact nomatch h
   refine cnf (dF hc) ?_;refine .seq ?_;refine .sr ?_;refine vb ?_;refine ar [1,3,5,6,7,8,23,65] ?_
   obtain ⟨K1,hK1,h⟩:=AQ h
   refine AW.mr (σ:=Bool) (fun p=>K1 p=some r) (fun p=>[(1,.d (.i .i32 a1)),(3,.d (.ptr [.i .i64 a0.1,.b a0.2.1.1,.sl (L a0.2.1.2.1),.sl (L a0.2.1.2.2),.i .i64 a0.2.2])),(5,.d (.ptr [.sl (Is a2.shape),.sl (Its a2.items)])),(6,.nb [.sl (Is []),.sl (Its [])]),(7,.d (.i .i64 0)),(8,.d (.sl (Its x3))),(23,.d (.i .i32 a1)),(65,.d (.b p))]) (fun p=>[]) ?_ ?_
   ·skip
    rcases brc h with ⟨hc,h⟩|⟨hc,h⟩
    ·refine cnt (dT hc) ?_
     refine .gk [1,3,5,6,7,8,23,65] ?_;refine .skip ?_
     exact jr ((decide (a1=9035))) h
    refine cnf (dF hc) ?_;refine .region ?_;refine vb ?_;refine asd ?_;refine RL.gk [1,3,5,6,7,8,23,65] ?_;refine .nil ?_
    exact jr ((decide (a1=9042))) h
   rintro z5 h
   try dsimp only at h ⊢
   subst hK1
   refine aw ?_
   rcases brc h with ⟨hc,h⟩|⟨hc,h⟩
   ·refine cnt hc ?_
    refine .seq ?_;refine .sr ?_;refine vk (vfa Br) ?_;refine vk (AA Du) ?_;refine vk (Bg (Al _) (Dv _) Db) ?_;refine vb ?_;refine rk [1,3,5,6,7,8,71] ?_
    rcases brc h with ⟨hc,h⟩|⟨hc,h⟩
    ·refine cnf (ntf (dT hc)) ?_
     refine .sk ?_;refine .sr ?_;refine vk (Ay KM JS) ?_;refine va ?_;refine vk Yf ?_;refine XI EM gkR freshK.nil ?_;refine XI EM gkR (freshK.snoc (z:=9042) (z':=9035) freshK.nil (by decide)) ?_;refine RL.gh (Gh.omf (t:=75) rfl) ?_;refine va ?_;refine va ?_;refine vk (X3 (T:=[(9035,1),(9042,(-1))]) (by decide) EM gkR Jt) ?_
     obtain ⟨x6,g6,h⟩:=bnd h
     refine vk (An (MN g6) Tryz.call70) ?_
     refine stn ?_ Ac (by decide)
     refine ar [3,5,6,7] ?_;refine .ret ?_
     cases h
     exact ⟨_,_,⟨.inr rfl,Ai,Ac,p2⟩,rfl,rfl⟩
    refine cnt (ntt (dF hc)) ?_;refine .sr ?_;refine vk (vbd CC AS AY) ?_
    refine stn ?_ Ac (by decide)
    refine ar [1,3,5,6,7,8] ?_;refine .ret ?_
    cases h
    exact ⟨_,_,⟨.inr rfl,Ai,Ac,p2⟩,rfl,rfl⟩
   refine cnf (bf hc) ?_;refine .sr ?_;refine vb ?_;refine ar [3,5,6,7,8,23,80] ?_
   rcases brc h with ⟨hc,h⟩|⟨hc,h⟩
   ·refine cnt (dT hc) ?_
    refine .seq ?_;refine .sr ?_;refine vk (vfa Br) ?_;refine vk (AA Du) ?_;refine vk (Bg (Al _) (Dv _) Db) ?_;refine vb ?_;refine rk [3,5,6,7,8,85] ?_
    rcases brc h with ⟨hc,h⟩|⟨hc,h⟩
    ·refine cnt (dT hc) ?_
     refine .sr ?_;refine vk (vbd CC AS AY) ?_
     refine stn ?_ Ac (by decide)
     refine ar [3,5,6,7,8] ?_;refine .ret ?_
     cases h
     exact ⟨_,_,⟨.inr rfl,Ai,Ac,p2⟩,rfl,rfl⟩
    exact nomatch h
   refine cnf (dF hc) ?_;refine .sr ?_;refine vb ?_;refine ar [3,5,6,7,23,95] ?_
   rcases brc h with ⟨hc,h⟩|⟨hc,h⟩
   ·refine cnt (dT hc) ?_
    refine .sr ?_;refine vk (Ay Ai Ac) ?_
    exact nomatch h
   refine cnf (dF hc) ?_;refine .sr ?_;refine vb ?_;refine ar [3,5,6,7,100] ?_
   rcases brc h with ⟨hc,h⟩|⟨hc,h⟩
   ·exact nomatch h
   refine cnf (dF hc) ?_;refine .sk ?_;refine .sr ?_;refine vk (Ay KM JS) ?_;refine vk (Ay Ai Ac) ?_
   exact nomatch h
  refine cnt (ntt (bf hc)) ?_;refine .sr ?_;refine vk (vbd CC AS AY) ?_
  refine stn ?_ Ac (by decide)
  refine ar [1,3,5,6,7] ?_;refine .ret ?_
  cases h
  exact ⟨_,_,⟨.inr rfl,Ai,Ac,p2⟩,rfl,rfl⟩
 refine cnt (ntt (bf hc)) ?_;refine .sr ?_;refine vk (vbd CC AS AY) ?_
 refine stn ?_ Ac (by decide)
 refine ar [1,3,5,6,7] ?_;refine .ret ?_
 cases h
 exact ⟨_,_,⟨.inr rfl,Ai,Ac,p2⟩,rfl,rfl⟩
def CA (a0:(Int×RT×Int)) (a1:Int) (a2:Arr) (a3:Arr) : Option (Arr×Int):=((DS a1).bind fun x1=>(if x1=true then ((D6 a0 ([a2,a3])).bind fun x2=>(if x2=true then (if a1=8835 then none else (if a1=8868 then ((E8 a2 a3).bind fun x3=>(some (x3.1,x3.2))) else (if a1=8869 then ((Fd a2 a3).bind fun x4=>(some (x4.1,x4.2))) else (jn (fun (z5:Bool)=>(if z5=true then none else (if a1=9075 then none else (if a1=8714 then none else (if a1=9015 then none else none))))) fun K0=>(if a1=8801 then (K0 (decide (a1=8801))) else (K0 (decide (a1=8802)))))))) else (some ((Arr.mk [] []),22)))) else (some ((Arr.mk [] []),23))))
theorem F1 {a0:(Int×RT×Int)} {a1:Int} {a2:Arr} {a3:Arr} {r:Arr×Int} (h:CA a0 a1 a2 a3=some r) :
  Fn Tryz.prog 13 [.ag [.i .i64 a0.1,.b a0.2.1.1,.sl (L a0.2.1.2.1),.sl (L a0.2.1.2.2),.i .i64 a0.2.2],.i .i32 a1,.ag [.sl (Is a2.shape),.sl (Its a2.items)],.ag [.sl (Is a3.shape),.sl (Its a3.items)]] (.tup [.d (.ag [.sl (Is r.1.shape),.sl (Its r.1.items)]),.d (.i .i64 r.2)]):=by
 unfold CA at h
 refine Fn.ofC (rs:=[.cell 8 27,.tmp 9]) (nt:=92) Tryz.func13 rfl rfl rfl (by simp) rfl ?_;refine .sr ?_;refine vk vbx ?_;refine vk vbx ?_;refine vk vbx ?_;refine vk (van (Ah AS) AY) ?_;refine ar [1,4,6,7,8,9] ?_;refine .seq ?_;refine .block ?_;refine .sr ?_;refine va ?_
 obtain ⟨x1,g1,h⟩:=bnd h
 refine vk (An (J8 g1) Tryz.call38) ?_;refine vk vnt ?_;refine ar [1,4,6,7,8,9,11] ?_
 rcases brc h with ⟨hc,h⟩|⟨hc,h⟩
 ·refine cnf (ntf hc) ?_
  refine .sr ?_;refine vk (Ay KM JS) ?_;refine vk (Ay Ai Ac) ?_;refine vk (Ay Ai Ac) ?_;refine vk ((HH (UR a2 a3) (Jo [a2,a3]) L4).deep) ?_
  obtain ⟨x2,g2,h⟩:=bnd h
  refine vk (An (IT g2) Tryz.call39) ?_;refine vk vnt ?_;refine ar [1,4,6,7,8,9,16] ?_
  rcases brc h with ⟨hc,h⟩|⟨hc,h⟩
  ·refine cnf (ntf hc) ?_
   refine .sk ?_;refine .seq ?_;refine .sr ?_;refine va ?_;refine rk [1,4,6,7,8,9,24] ?_;refine .block ?_;refine .sr ?_;refine vb ?_;refine ar [1,4,6,7,8,9,24,25] ?_
   rcases brc h with ⟨hc,h⟩|⟨hc,h⟩
   ·refine cnt (dT hc) ?_
    refine .sr ?_;refine vk (Ay KM JS) ?_;refine vk (Ay Ai Ac) ?_;refine vk (Ay Ai Ac) ?_
    exact nomatch h
   refine cnf (dF hc) ?_;refine .sr ?_;refine vb ?_;refine ar [1,4,6,7,8,9,24,33] ?_
   rcases brc h with ⟨hc,h⟩|⟨hc,h⟩
   ·refine cnt (dT hc) ?_
    refine .sr ?_;refine vk (Ay Ai Ac) ?_;refine vk (Ay Ai Ac) ?_
    obtain ⟨x3,g3,h⟩:=bnd h
    refine vk (VOK.tupd (vs:=[.ag [.sl (Is x3.1.shape),.sl (Its x3.1.items)],.i .i64 x3.2]) (An (LP g3) Tryz.call41)) ?_;refine vk vex ?_;refine vk vex ?_
    refine stn ?_ Ac (by decide)
    refine ar [1,6,7,8,9] ?_;refine .ret ?_
    cases h
    exact ⟨_,_,⟨.inr rfl,Ai,Ac,p2⟩,rfl,rfl⟩
   refine cnf (dF hc) ?_;refine .sr ?_;refine vb ?_;refine ar [1,4,6,7,8,9,24,40] ?_
   rcases brc h with ⟨hc,h⟩|⟨hc,h⟩
   ·refine cnt (dT hc) ?_
    refine .sr ?_;refine vk (Ay Ai Ac) ?_;refine vk (Ay Ai Ac) ?_
    obtain ⟨x4,g4,h⟩:=bnd h
    refine vk (VOK.tupd (vs:=[.ag [.sl (Is x4.1.shape),.sl (Its x4.1.items)],.i .i64 x4.2]) (An (ME g4) Tryz.call42)) ?_;refine vk vex ?_;refine vk vex ?_
    refine stn ?_ Ac (by decide)
    refine ar [1,6,7,8,9] ?_;refine .ret ?_
    cases h
    exact ⟨_,_,⟨.inr rfl,Ai,Ac,p2⟩,rfl,rfl⟩
   refine cnf (dF hc) ?_;refine .seq ?_;refine .sr ?_;refine vb ?_;refine ar [1,4,6,7,8,9,24,47] ?_
   obtain ⟨K0,hK0,h⟩:=AQ h
   refine AW.mr (σ:=Bool) (fun p=>K0 p=some r) (fun p=>[(1,.d (.i .i32 a1)),(4,.d (.ptr [.i .i64 a0.1,.b a0.2.1.1,.sl (L a0.2.1.2.1),.sl (L a0.2.1.2.2),.i .i64 a0.2.2])),(6,.d (.ptr [.sl (Is a2.shape),.sl (Its a2.items)])),(7,.d (.ptr [.sl (Is a3.shape),.sl (Its a3.items)])),(8,.nb [.sl (Is []),.sl (Its [])]),(9,.d (.i .i64 0)),(24,.d (.i .i32 a1)),(47,.d (.b p))]) (fun p=>[]) ?_ ?_
   ·skip
    rcases brc h with ⟨hc,h⟩|⟨hc,h⟩
    ·refine cnt (dT hc) ?_
     refine .gk [1,4,6,7,8,9,24,47] ?_;refine .skip ?_
     exact jr ((decide (a1=8801))) h
    refine cnf (dF hc) ?_;refine .region ?_;refine vb ?_;refine asd ?_;refine RL.gk [1,4,6,7,8,9,24,47] ?_;refine .nil ?_
    exact jr ((decide (a1=8802))) h
   rintro z5 h
   try dsimp only at h ⊢
   subst hK0
   refine aw ?_
   rcases brc h with ⟨hc,h⟩|⟨hc,h⟩
   ·refine cnt hc ?_
    refine .sr ?_;refine vk (Ay Ai Ac) ?_;refine vk (Ay Ai Ac) ?_
    exact nomatch h
   refine cnf (bf hc) ?_;refine .sr ?_;refine vb ?_;refine ar [1,4,6,7,8,9,24,58] ?_
   rcases brc h with ⟨hc,h⟩|⟨hc,h⟩
   ·refine cnt (dT hc) ?_
    refine .sr ?_;refine vk (Ay KM JS) ?_;refine vk (Ay Ai Ac) ?_;refine vk (Ay Ai Ac) ?_
    exact nomatch h
   refine cnf (dF hc) ?_;refine .sr ?_;refine vb ?_;refine ar [1,4,6,7,8,9,24,66] ?_
   rcases brc h with ⟨hc,h⟩|⟨hc,h⟩
   ·exact nomatch h
   refine cnf (dF hc) ?_;refine .sr ?_;refine vb ?_;refine ar [1,4,6,7,8,9,78] ?_
   rcases brc h with ⟨hc,h⟩|⟨hc,h⟩
   ·refine cnt (dT hc) ?_
    refine .sr ?_;refine vk (Ay KM JS) ?_;refine vk (Ay Ai Ac) ?_;refine vk (Ay Ai Ac) ?_
    exact nomatch h
   refine cnf (dF hc) ?_;refine .sk ?_;refine .sr ?_;refine va ?_;refine vk (Ay Ai Ac) ?_;refine vk (Ay Ai Ac) ?_
   exact nomatch h
  refine cnt (ntt (bf hc)) ?_;refine .sr ?_;refine vk (vbd CC AS AY) ?_
  refine stn ?_ Ac (by decide)
  refine ar [1,4,6,7,8,9] ?_;refine .ret ?_
  cases h
  exact ⟨_,_,⟨.inr rfl,Ai,Ac,p2⟩,rfl,rfl⟩
 refine cnt (ntt (bf hc)) ?_;refine .sr ?_;refine vk (vbd CC AS AY) ?_
 refine stn ?_ Ac (by decide)
 refine ar [1,4,6,7,8,9] ?_;refine .ret ?_
 cases h
 exact ⟨_,_,⟨.inr rfl,Ai,Ac,p2⟩,rfl,rfl⟩
def EF : Option ((Int×RT×Int)):=(some ((1,(false,[],[]),0)))
theorem Fr {r:(Int×RT×Int)} (h:EF=some r) :
  Fn Tryz.prog 14 [] (.d (.ag [.i .i64 r.1,.b r.2.1.1,.sl (L r.2.1.2.1),.sl (L r.2.1.2.2),.i .i64 r.2.2])):=by
 unfold EF at h
 refine Fn.ofC (rs:=[.cell 0 36]) (nt:=2) Tryz.func14 rfl rfl rfl (by simp) rfl ?_;refine .sr ?_;refine vk (van (Ah V2) V4) ?_;refine rk [0] ?_;refine .sr ?_;refine vk (vbd XX V2 V4) ?_
 refine stn ?_ JS (by decide)
 refine rk [0] ?_;refine .ret ?_
 cases h
 exact ⟨_,⟨.inr rfl,KM,JS,(by decide:(0:Nat)<5)⟩,rfl⟩
def Hb : Option (Bool):=(EF.bind fun x1=>((FK ([3,1,2])).bind fun x2=>((Hm x1 9035 x2).bind fun x3=>(EF.bind fun x4=>((FK ([10,10])).bind fun x5=>((EN 37).bind fun x6=>((CA x4 8868 x5 x6).bind fun x7=>(Option.bind ((if x3.2=0 then ((FK ([2,3,1])).bind fun x9=>((Dt x3.1 x9).bind fun x10=>(if x10=true then (if x7.2=0 then ((FK ([3,7])).bind fun x11=>((Dt x7.1 x11).bind fun x12=>(some x12))) else (some false)) else (some false)))) else (some false)) : Option (Bool)) fun (z8:Bool)=>(some (z8))))))))))
theorem MU {r:Bool} (h:Hb=some r) :
  Fn Tryz.prog 16 [] (.d (.b r)):=by
 unfold Hb at h
 refine Fn.o1 0 38 Tryz.func16 ?_;refine .sr ?_;refine ar [0] ?_;refine .sr ?_
 obtain ⟨x1,g1,h⟩:=bnd h
 refine vk (An (Fr g1) Tryz.call14) ?_;refine vk ((F3 (Fx [3,1,2]) FN).deep) ?_
 obtain ⟨x2,g2,h⟩:=bnd h
 refine vk (An (EA g2) Tryz.call15) ?_
 obtain ⟨x3,g3,h⟩:=bnd h
 refine vk (VOK.tupd (vs:=[.ag [.sl (Is x3.1.shape),.sl (Its x3.1.items)],.i .i64 x3.2]) (An (KY g3) Tryz.call19)) ?_;refine va ?_;refine vk vex ?_;refine vk vex ?_;refine vk (van (Ah AS) AY) ?_
 refine stn ?_ Ac (by decide)
 refine ar [0,1,2] ?_;refine .sr ?_
 obtain ⟨x4,g4,h⟩:=bnd h
 refine vk (An (Fr g4) Tryz.call14) ?_;refine vk ((F3 (Fx [10,10]) FN).deep) ?_
 obtain ⟨x5,g5,h⟩:=bnd h
 refine vk (An (EA g5) Tryz.call15) ?_
 obtain ⟨x6,g6,h⟩:=bnd h
 refine vk (An (Hr g6) Tryz.call12) ?_
 obtain ⟨x7,g7,h⟩:=bnd h
 refine vk (VOK.tupd (vs:=[.ag [.sl (Is x7.1.shape),.sl (Its x7.1.items)],.i .i64 x7.2]) (An (F1 g7) Tryz.call13)) ?_;refine va ?_;refine vk vex ?_;refine vk vex ?_;refine vk (van (Ah AS) AY) ?_
 refine stn ?_ Ac (by decide)
 refine ar [0,1,2,3,4] ?_;refine .seq ?_
 obtain ⟨z8,hz,h⟩:=bnd h
 refine AW.mr (σ:=Unit) (fun _=>True) (fun _=>[(0,.d (.b z8))]) (fun _=>[]) ?_ ?_
 ·skip
  refine .drawn 18 A9 (by kernel_rfl) ?_;refine dv Ae ?_;refine dv vbi ?_
  rcases brc hz with ⟨hc,hz⟩|⟨hc,hz⟩
  ·have hb0:(decide (x3.2=0))=true:=(dT hc)
   refine dv (VOK.lit (Ae) hb0) ?_;refine dv (Dq Ai Ac) ?_;refine dv ((F3 (Fx [2,3,1]) FN).deep) ?_
   obtain ⟨x9,g9,hz⟩:=bnd hz
   refine dv (An (EA g9) Tryz.call15) ?_
   obtain ⟨x10,g10,hz⟩:=bnd hz
   refine dv (An (FU g10) Tryz.call17) ?_;refine dv AC ?_
   rcases brc hz with ⟨hc,hz⟩|⟨hc,hz⟩
   ·have hb1:x10=true:=hc
    refine dv (VOK.lit (Ae) hb1) ?_;refine dv Ae ?_;refine dv vbi ?_;refine dv AC ?_
    rcases brc hz with ⟨hc,hz⟩|⟨hc,hz⟩
    ·have hb2:(decide (x7.2=0))=true:=(dT hc)
     refine dv (VOK.lit (Ae) hb2) ?_;refine dv (Dq Ai Ac) ?_;refine dv ((F3 (Fx [3,7]) FN).deep) ?_
     obtain ⟨x11,g11,hz⟩:=bnd hz
     refine dv (An (EA g11) Tryz.call15) ?_
     obtain ⟨x12,g12,hz⟩:=bnd hz
     refine dv (An (FU g12) Tryz.call17) ?_;refine dv AC ?_;refine dz ?_;refine asd ?_;refine RL.gk [0] ?_;refine .nil ?_
     cases hz
     exact jr () trivial
    have hb2:(decide (x7.2=0))=false:=(dF hc)
    refine dv (VOK.lit (Ae) hb2) ?_;refine dgf ?_;refine dgf ?_;refine dgf ?_;refine dgf ?_;refine dv AC ?_;refine dz ?_;refine asd ?_;refine RL.gk [0] ?_;refine .nil ?_
    cases hz
    exact jr () trivial
   have hb1:x10=false:=(bf hc)
   refine dv (VOK.lit (Ae) hb1) ?_;refine dgf ?_;refine dgf ?_;refine dv AC ?_;refine dv Ae ?_;refine dgf ?_;refine dgf ?_;refine dgf ?_;refine dgf ?_;refine dv AC ?_;refine dz ?_;refine asd ?_;refine RL.gk [0] ?_;refine .nil ?_
   cases hz
   exact jr () trivial
  have hb0:(decide (x3.2=0))=false:=(dF hc)
  refine dv (VOK.lit (Ae) hb0) ?_;refine dgf ?_;refine dgf ?_;refine dgf ?_;refine dgf ?_;refine dv AC ?_;refine dv Ae ?_;refine dgf ?_;refine dgf ?_;refine dv AC ?_;refine dv Ae ?_;refine dgf ?_;refine dgf ?_;refine dgf ?_;refine dgf ?_;refine dv AC ?_;refine dz ?_;refine asd ?_;refine RL.gk [0] ?_;refine .nil ?_
  cases hz
  exact jr () trivial
 rintro _ _
 refine .ret ?_
 cases h
 exact ⟨rfl,rfl⟩
end Go.FL
namespace Go.FL
open Go
theorem XQ : Hb=some true:=by kernel_rfl
end Go.FL
namespace Go.FL
open Go Go.Proofs
def Bu (xs:List Nat) : List DV:=xs.map fun n : Nat=>.i .u8 (n:Int)
theorem RS (xs:List Nat) : (Bu xs).length=xs.length:=by simp [Bu]
theorem XT {xs:List Nat} {i n:Nat} (h:xs[i]?=some n) : (Bu xs)[i]?=some (.i .u8 (n:Int)):=by simp [Bu,h]
theorem WU (xs:List Nat) : ∀ x∈Bu xs,x.cells.length=1:=fun x hx=>by
 simp only [Bu,List.mem_map] at hx
 obtain ⟨n,_,rfl⟩:=hx;rfl
theorem XW (xs:List Nat) : ∃ sz,∀ x∈Bu xs,x.cells.length=sz:=⟨1,WU xs⟩
theorem XK : Cc Tryz.prog 22=some (5,1,1):=by kernel_rfl
theorem XF : Tryz.prog.underlying 22=some (.slice (Tryz.prog.elem 22)):=by kernel_rfl
end Go.FL
namespace Go.FL
open Go Go.RowKit Go.ChangeShapes Go.WideShapes Go.ChangeAt
section
variable {H:Type}
def OpF (enc:TypeId×Value→H) (P:Program) (W:World) (n:Nat) (t:TypeId) {α:Type} (F:α→List DV) (Q:α→Prop) : Prop :=
 ∀ (fuel:Nat) (cs:List Value) (x:DataW H×List MemPlace),fuel≤n→DataW.trod enc P W 0 (fun _=>true) true fuel t cs=some x→(∀ m∈DataW.weights P t x.1,m≤reachBytes) →
  ∃ a,Q a∧RepAll W (fun b=>b<W.heap.size) (F a) cs∧∀ u∈cs,u.oneCell'=true
variable {enc:TypeId×Value→H} {P:Program} {W:World}
theorem OpF.mono {n m t:Nat} {α:Type} {F:α→List DV} {Q:α→Prop} (h:OpF enc P W n t F Q) (hm:m≤n) : OpF enc P W m t F Q:=fun fuel cs x hf=>h fuel cs x (by omega)
theorem OpF.map {n t:Nat} {α β:Type} {F:α→List DV} {Q:α→Prop} {G:β→List DV} {R:β→Prop} (h:OpF enc P W n t F Q) (f:∀ a,Q a→∃ b,R b∧F a=G b) : OpF enc P W n t G R:=fun fuel cs x hf h1 h2=>by
 obtain ⟨a,q,r,c⟩:=h fuel cs x hf h1 h2
 obtain ⟨b,rb,e⟩:=f a q
 exact ⟨b,rb,e▸r,c⟩
theorem Wv {n t:Nat} {k:IntKind} (ht:P.underlying t=some (.int k)) : OpF enc P W n t (fun z:Int=>[.i k z]) (fun z=>(Lit.int k z).wf=true):=fun fuel cs x _ h _=>by
 obtain ⟨z,rfl,_,hw⟩:=DataW.trod_int ht h
 exact ⟨z,hw,.cons (.i _ _) .nil,by simp [Value.oneCell']⟩
theorem Ia {e:TypeId} : ∀ {ds:List (DataW H)} {d:DataW H},d∈ds→∀ q∈DataW.weights P e d,q∈DataW.weightsAll P e ds
 | d::ds,d',hd,q,hq=>by
  rw [DataW.weightsAll,List.mem_append]
  rcases List.mem_cons.1 hd with rfl|hd
  ·exact .inl hq
  ·exact .inr (Ia hd q hq)
theorem Uw {n t e sz:Nat} {α:Type} {F:α→List DV} {Q:α→Prop} (D:α→DV) (ht:P.underlying t=some (.slice e)) (hs:P.cellsOf e=sz) (h0:0<sz) (hD:∀ a,(D a).cells=F a) (h:OpF enc P W n e F Q) :
  OpF enc P W (n+1) t (fun xs:List α=>[.sl (xs.map D)]) (fun xs=>(∀ x∈xs,Q x)∧xs.length * P.bytesOf e≤reachBytes):=by
 intro fuel cs x hf hx hw
 rcases DataW.trod_slice ht hx with ⟨rfl,rfl⟩|⟨a,len,cap,elems,rest,m,rfl,rfl,rfl,hb,hl,hm,hlen,hel,_,_⟩
 ·exact ⟨[],⟨by simp,by simp⟩,.cons (.sl0 _ _) .nil,by simp [Value.oneCell']⟩
 ·simp only [DataW.weights,ht] at hw
  have hroom:(elems.length+rest.length) * P.bytesOf e≤reachBytes:=by
   have:=hw ((elems.length+rest.length) * P.bytesOf e) (by simp)
   exact this
  have each:∀ i,i<len→∃ vs y,W.cells? 0 (a.add (i * P.cellsOf e)) (P.cellsOf e)=some vs∧DataW.trod enc P W 0 (fun _=>true) true m e vs=some y∧∀ q∈DataW.weights P e y.1,q≤reachBytes:=by
   intro i hi
   have h1:=hel i hi
   rw [lG (show i<elems.length by omega)] at h1
   obtain ⟨vs,h2,h3⟩:=Option.bind_eq_some_iff.1 h1
   refine ⟨vs,_,h2,h3,fun q hq=>hw q ?_⟩
   simp only [List.mem_cons,List.mem_append]
   exact .inr (.inl (Ia (d:=(elems[i]'(by omega)).1) (List.mem_map_of_mem (List.getElem_mem _)) q hq))
  by_cases hlen0:len=0
  ·subst hlen0
   exact ⟨[],⟨by simp,by simp⟩,.cons (.sl0 _ _) .nil,by simp [Value.oneCell']⟩
  ·obtain ⟨b,off,spot⟩:=a
   have hspot:spot=none:=by
    obtain ⟨vs,y,h1,_,_⟩:=each 0 (by omega)
    obtain ⟨_,k2,k3⟩:=World.cells?_some h1
    have h4:=k3 0 (by omega)
    rw [lG (show 0<vs.length by omega)] at h4
    simpa [Addr.add] using World.cell?_spot h4
   subst hspot
   have build:∀ j,j≤len→∃ (xs:List α) (vs:List Value),xs.length=j∧(∀ x∈xs,Q x)∧Has W b off vs∧RepRows W (fun b=>b<W.heap.size) sz (xs.map D) vs:=by
    intro j
    induction j with
    | zero=>exact fun _=>⟨[],[],rfl,by simp,fun j u hj=>by simp at hj,.nil _⟩
    | succ j ih =>
     intro hj
     obtain ⟨xs,vs,k1,k2,k3,k4⟩:=ih (by omega)
     obtain ⟨us,y,g1,g2,g3⟩:=each j (by omega)
     obtain ⟨_,g4,g5⟩:=World.cells?_some g1
     obtain ⟨x,q1,q2,q3⟩:=h m us y (by omega) g2 g3
     have hvl:=k4.length
     rw [List.length_map,k1] at hvl
     refine ⟨xs++[x],vs++us,by simp [k1],?_,?_,?_⟩
     ·intro z hz
      rcases List.mem_append.1 hz with hz|hz
      ·exact k2 z hz
      ·simp at hz;subst hz;exact q1
     ·intro i u hi
      rw [List.getElem?_append] at hi
      split at hi
      ·exact k3 i u hi
      ·rename_i hge
       have:=g5 (i-vs.length) (by have:=(lS.1 hi).1;omega)
       rw [hi] at this
       rw [← this,hs]
       have e1:off+i=off+j * sz+(i-vs.length):=by omega
       rw [e1,add_plain,add_plain]
     ·rw [List.map_append]
      refine k4.append ?_
      have:=RepRows.cons (sz:=sz) (x:=D x) (xs:=[]) (us:=us) (vs:=[]) (by omega) q3 (by rw [hD];exact q2) (.nil sz)
      simpa using this
   obtain ⟨xs,vs,k1,k2,k3,k4⟩:=build len (Nat.le_refl _)
   have hne:xs≠[]:=fun h=>by subst h;simp at k1;omega
   have hlt:b<W.heap.size:=by
    obtain ⟨us,y,g1,_,_⟩:=each 0 (by omega)
    have:=World.cells?_block g1 (by omega)
    rwa [add_plain] at this
   refine ⟨xs,⟨k2,nT (Nat.mul_le_mul_right _ (by omega)) hroom⟩,.cons ?_ .nil,by simp [Value.oneCell']⟩
   have:=Rep.sl (w:=W) (I:=fun b=>b<W.heap.size) (xs.map D) b off sz cap vs (by simpa using hne) (by rw [List.length_map,k1];exact hl) hlt h0 k3 k4
   rwa [List.length_map,k1] at this
theorem UA {t:TypeId} {v:Value} {d:DataW H} {ps:List MemPlace} {α:Type} {D:α→DV} {Q:α→Prop} (h:∀ n,OpF enc P W n t (fun a=>[D a]) Q) (hv:v.cells.toList=[v])
  (hd:DataW.Trod enc P W 0 (fun _=>true) true t v d ps) (hw:∀ m∈DataW.weights P t d,m≤reachBytes):∃ a,Q a∧Rep W (fun b=>b<W.heap.size) (D a) v:=by
 obtain ⟨fuel,hf⟩:=hd
 obtain ⟨a,q,r,_⟩:=h fuel fuel _ _ (Nat.le_refl _) hf hw
 rw [hv] at r
 cases r with
 | cons r _=>exact ⟨a,q,r⟩
end
end Go.FL
namespace Go.FL
open Go Go.Proofs Go.DataW
section
variable {H:Type} {enc:TypeId×Value→H} {W:World}
theorem TW (n:Nat) : OpF enc Tryz.prog W n 22 (fun l:List Nat=>[.sl (Bu l)]) (fun l=>l.length≤140737488355328∧∀ x∈l,x≤255):=by
 refine OpF.mono (n:=n+1) ((Uw (α:=Int) (F:=fun z=>[.i .u8 z]) (sz:=1) (fun z=>.i .u8 z) (by kernel_rfl:Tryz.prog.underlying 22=some (.slice 5)) (by kernel_rfl) (by decide) (fun _=>rfl) (Wv (by kernel_rfl))).map fun zs hz=>?_) (Nat.le_succ _)
 have h3:=hz.2
 have h0:∀ z∈zs,0≤z∧z≤255:=fun z hz'=>by
  have:=hz.1 z hz'
  simp [Lit.wf,IntKind.min,IntKind.max,IntKind.signed,IntKind.bits] at this
  exact ⟨this.1,by omega⟩
 rw [show Tryz.prog.bytesOf 5=1 by kernel_rfl,show reachBytes=140737488351232 by decide] at h3
 refine ⟨zs.map Int.toNat,⟨by rw [List.length_map];omega,fun x hx=>?_⟩,?_⟩
 ·obtain ⟨z,hz',rfl⟩:=List.mem_map.1 hx
  have:=h0 z hz';omega
 ·show [DV.sl (zs.map fun z=>.i .u8 z)]=[DV.sl ((zs.map Int.toNat).map fun n:Nat=>.i .u8 (n:Int))]
  rw [List.map_map]
  congr 2
  refine List.map_congr_left fun z hz'=>?_
  have:=h0 z hz'
  show DV.i .u8 z=DV.i .u8 ((z.toNat:Nat):Int)
  rw [Int.toNat_of_nonneg this.1]
end
end Go.FL
