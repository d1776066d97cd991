/-
  Part 4 of the base of the proofs: a logic of our own over the calculus, the contracts of the functions
-/
import Derived.Test.YtbeekjoeaigngaaGreatSlC
set_option linter.unusedVariables false
namespace Go.FL
open Go Go.Proofs
def AI (a0 : (List Int)) (a1 : Bn) (K0 : Int→Option (Int)) : Nat→Int→Int→Option (Int)
 | 0,_,_=>none
 | k+1,s2,s3=>(if s3<((List.length a0:Nat):Int) then ((rd? a0 s3).bind fun x4=>((a1.g x4).bind fun x5=>(if x5=true then (some (s3)) else (AI a0 a1 K0 k s2 (w64 (s3+1)))))) else (K0 s2))
def BT (a0 : (List Int)) (a1 : Bn) : Option (Int):=(jn (fun (z1 : Int)=>(some ((-1)))) fun K0=>(AI a0 a1 K0 BC 0 0))
theorem Fq {a0 : (List Int)} {a1 : Bn} (oa1 : Hj a1) {r : Int} (h : BT a0 a1=some r) :
  Fn Tryz.prog 225 [.sl (Is a0),a1.dv] (.d (.i .i64 r)):=by
 unfold BT at h
 refine Fn.o1 4 19 Tryz.func225 ?_;refine .sr ?_;refine ar [0,1,4] ?_;refine .seq ?_;refine .sr ?_;refine vk (Aa) ?_;refine vk (Bz (Bh _) (E5 _) E7) ?_;refine vk (Aa) ?_;refine rk [0,1,4,7,8] ?_
 obtain ⟨K0,hK0,h⟩:=CX h
 refine AW.mr (σ:=Int) (fun p=>K0 p=some r) (fun p=>[(4,.d (.i .i64 p))]) (fun p=>[]) ?_ ?_
 ·skip
  refine .block ?_
  refine .loop (.gk [0,1,4,7,8] ?_)
  refine AL.ind (σ:=Nat × Int × Int) (m:=fun p=>p.1) (e:=fun p=>[(0,.d (.sl (Is a0))),(1,.d (a1.dv)),(4,.d (.i .i64 p.2.1)),(7,.d (.i .i64 ((List.length a0:Nat):Int))),(8,.d (.i .i64 p.2.2))]) (h:=fun p=>[]) (I:=fun p=>AI a0 a1 K0 p.1 p.2.1 p.2.2=some r) ?_ (BC,0,0) h
  rintro ⟨k,s2,s3⟩ h ih
  dsimp only at h ih ⊢
  rcases k with _ | k
  ·rw [AI] at h;cases h
  rw [AI] at h
  refine .sr ?_;refine vk (vbi) ?_;refine rk [0,1,4,7,8,9] ?_;refine .seq ?_
  by_cases hc:s3<((List.length a0:Nat):Int)
  ·replace h:=Aj hc h
   refine cnt (dT hc) ?_;refine .skip ?_
   show AW _ _ _ _ _ _
   refine .seq ?_;refine .block ?_;refine .sr ?_;refine vk (Aa) ?_;refine ar [0,1,4,5,7,8] ?_;refine .sr ?_;refine vk (Aa) ?_;refine vk (Aa) ?_;refine vk (Aa) ?_
   obtain ⟨x4,hx4,h⟩:=bnd h
   obtain ⟨nx4,hnx4,hxx4⟩:=AS hx4
   refine vk (vix nx4 hnx4 (Jw hxx4) rfl GN) ?_;refine vk (An CK) ?_
   obtain ⟨x5,hx5,h⟩:=bnd h
   refine vk (MQ (oa1 _ _ hx5)) ?_;refine rk [0,1,4,5,7,8,16] ?_
   by_cases hc:x5=true
   ·replace h:=Aj hc h
    refine cnt hc ?_;refine .sr ?_;refine vk (Aa) ?_;refine ar [0,1,4,7,8] ?_;refine .ret ?_
    cases h
    exact ⟨rfl,rfl⟩
   replace h:=Ai hc h
   refine cnf (bf hc) ?_;refine .skip ?_
   show AW _ _ _ _ _ _
   refine .region ?_;refine vk (vbi) ?_;refine vk (Aa) ?_;refine .nil ?_;refine AL.gk [0,1,4,7,8] ?_
   exact ih (k,s2,(w64 (s3+1))) h (Nat.lt_succ_self _)
  replace h:=Ai hc h
  refine cnf (dF hc) ?_;refine .gk [4] ?_;refine .exit ?_
  exact jr (s2) h
 rintro z1 h
 try dsimp only at h ⊢
 subst hK0
 show AW _ _ _ _ _ _
 refine .sr ?_;refine ar [4] ?_;refine .ret ?_
 cases h
 exact ⟨rfl,rfl⟩
def AZ (a0 : (List Int)) (a1 : Bn) : Option (Bool):=((BT a0 a1).bind fun x1=>(some ((decide (0≤x1)))))
theorem CV {a0 : (List Int)} {a1 : Bn} (oa1 : Hj a1) {r : Bool} (h : AZ a0 a1=some r) :
  Fn Tryz.prog 175 [.sl (Is a0),a1.dv] (.d (.b r)):=by
 unfold AZ at h
 refine Fn.o1 4 9 Tryz.func175 ?_;refine .sr ?_;refine ar [0,1,4] ?_;refine .sr ?_;refine vk (Aa) ?_;refine vk (Aa) ?_
 obtain ⟨x1,hx1,h⟩:=bnd h
 refine vk (Ad (Fq oa1 hx1) Tryz.call225) ?_;refine vk (vbi) ?_;refine ar [4] ?_;refine .ret ?_
 cases h
 exact ⟨rfl,rfl⟩
def A4 (a0 : (List Int)) (a1 : Int) (K0 : Int→Option (Int)) : Nat→Int→Int→Option (Int)
 | 0,_,_=>none
 | k+1,s2,s3=>(if s3<((List.length a0:Nat):Int) then ((rd? a0 s3).bind fun x4=>(if a1=x4 then (some (s3)) else (A4 a0 a1 K0 k s2 (w64 (s3+1))))) else (K0 s2))
def CI (a0 : (List Int)) (a1 : Int) : Option (Int):=(jn (fun (z1 : Int)=>(some ((-1)))) fun K0=>(A4 a0 a1 K0 BC 0 0))
theorem GJ {a0 : (List Int)} {a1 : Int} {r : Int} (h : CI a0 a1=some r) :
  Fn Tryz.prog 226 [.sl (Is a0),.i .i64 a1] (.d (.i .i64 r)):=by
 unfold CI at h
 refine Fn.o1 4 19 Tryz.func226 ?_;refine .sr ?_;refine ar [0,1,4] ?_;refine .seq ?_;refine .sr ?_;refine vk (Aa) ?_;refine vk (Bz (Bh _) (E5 _) E7) ?_;refine vk (Aa) ?_;refine rk [0,1,4,7,8] ?_
 obtain ⟨K0,hK0,h⟩:=CX h
 refine AW.mr (σ:=Int) (fun p=>K0 p=some r) (fun p=>[(4,.d (.i .i64 p))]) (fun p=>[]) ?_ ?_
 ·skip
  refine .block ?_
  refine .loop (.gk [0,1,4,7,8] ?_)
  refine AL.ind (σ:=Nat × Int × Int) (m:=fun p=>p.1) (e:=fun p=>[(0,.d (.sl (Is a0))),(1,.d (.i .i64 a1)),(4,.d (.i .i64 p.2.1)),(7,.d (.i .i64 ((List.length a0:Nat):Int))),(8,.d (.i .i64 p.2.2))]) (h:=fun p=>[]) (I:=fun p=>A4 a0 a1 K0 p.1 p.2.1 p.2.2=some r) ?_ (BC,0,0) h
  rintro ⟨k,s2,s3⟩ h ih
  dsimp only at h ih ⊢
  rcases k with _ | k
  ·rw [A4] at h;cases h
  rw [A4] at h
  refine .sr ?_;refine vk (vbi) ?_;refine rk [0,1,4,7,8,9] ?_;refine .seq ?_
  by_cases hc:s3<((List.length a0:Nat):Int)
  ·replace h:=Aj hc h
   refine cnt (dT hc) ?_;refine .skip ?_
   show AW _ _ _ _ _ _
   refine .seq ?_;refine .block ?_;refine .sr ?_;refine vk (Aa) ?_;refine ar [0,1,4,5,7,8] ?_;refine .sr ?_;refine vk (Aa) ?_;refine vk (Aa) ?_;refine vk (Aa) ?_
   obtain ⟨x4,hx4,h⟩:=bnd h
   obtain ⟨nx4,hnx4,hxx4⟩:=AS hx4
   refine vk (vix nx4 hnx4 (Jw hxx4) rfl GN) ?_;refine vk (An CK) ?_;refine vk (vbi) ?_;refine rk [0,1,4,5,7,8,16] ?_
   by_cases hc:a1=x4
   ·replace h:=Aj hc h
    refine cnt (dT hc) ?_;refine .sr ?_;refine vk (Aa) ?_;refine ar [0,1,4,7,8] ?_;refine .ret ?_
    cases h
    exact ⟨rfl,rfl⟩
   replace h:=Ai hc h
   refine cnf (dF hc) ?_;refine .skip ?_
   show AW _ _ _ _ _ _
   refine .region ?_;refine vk (vbi) ?_;refine vk (Aa) ?_;refine .nil ?_;refine AL.gk [0,1,4,7,8] ?_
   exact ih (k,s2,(w64 (s3+1))) h (Nat.lt_succ_self _)
  replace h:=Ai hc h
  refine cnf (dF hc) ?_;refine .gk [4] ?_;refine .exit ?_
  exact jr (s2) h
 rintro z1 h
 try dsimp only at h ⊢
 subst hK0
 show AW _ _ _ _ _ _
 refine .sr ?_;refine ar [4] ?_;refine .ret ?_
 cases h
 exact ⟨rfl,rfl⟩
def Bt (a0 : (List Int)) (a1 : Int) : Option (Bool):=((CI a0 a1).bind fun x1=>(some ((decide (0≤x1)))))
theorem FM {a0 : (List Int)} {a1 : Int} {r : Bool} (h : Bt a0 a1=some r) :
  Fn Tryz.prog 178 [.sl (Is a0),.i .i64 a1] (.d (.b r)):=by
 unfold Bt at h
 refine Fn.o1 4 9 Tryz.func178 ?_;refine .sr ?_;refine ar [0,1,4] ?_;refine .sr ?_;refine vk (Aa) ?_;refine vk (Aa) ?_
 obtain ⟨x1,hx1,h⟩:=bnd h
 refine vk (Ad (GJ hx1) Tryz.call226) ?_;refine vk (vbi) ?_;refine ar [4] ?_;refine .ret ?_
 cases h
 exact ⟨rfl,rfl⟩
def Hh (a0 : Int) : Option (Bool):=(some ((decide (a0<0))))
theorem K7 {a0 : Int} {r : Bool} (h : Hh a0=some r) :
  Fn Tryz.prog 176 [.i .i64 a0] (.d (.b r)):=by
 unfold Hh at h
 refine Fn.o1 2 5 Tryz.func176 ?_;refine .sr ?_;refine ar [0,2] ?_;refine .sr ?_;refine vk (Aa) ?_;refine vk (vbi) ?_;refine ar [2] ?_;refine .ret ?_
 cases h
 exact ⟨rfl,rfl⟩
def Hb (a0 : Int) : Option (Bool):=(some ((decide (4096<a0))))
theorem KZ {a0 : Int} {r : Bool} (h : Hb a0=some r) :
  Fn Tryz.prog 177 [.i .i64 a0] (.d (.b r)):=by
 unfold Hb at h
 refine Fn.o1 2 5 Tryz.func177 ?_;refine .sr ?_;refine ar [0,2] ?_;refine .sr ?_;refine vk (Aa) ?_;refine vk (vbi) ?_;refine ar [2] ?_;refine .ret ?_
 cases h
 exact ⟨rfl,rfl⟩
def CJ (a0 : (List Int)) (K0 : Int→Int→Int→Option (Int × Int)) : Nat→Int→Int→Int→Int→Option (Int × Int)
 | 0,_,_,_,_=>none
 | k+1,s7,s8,s9,s10=>(if s10<((List.length a0:Nat):Int) then ((rd? a0 s10).bind fun x11=>((JO (s9 ≠ 0)).bind fun x12=>(if (w64 (Int.tdiv 4096 s9))<x11 then (some (0,8)) else (CJ a0 K0 k s7 s8 (w64 (s9 * x11)) (w64 (s10+1)))))) else (K0 s7 s8 s9))
def C6 (a0 : (List Int)) : Option (Int × Int):=(if 8<((List.length a0 : Nat) : Int) then (some (0,4)) else ((AZ a0 (⟨.fn 176 [] [],fun x=>Hh x⟩ : Bn)).bind fun x1=>(if x1=true then (some (0,3)) else ((AZ a0 (⟨.fn 177 [] [],fun x=>Hb x⟩ : Bn)).bind fun x2=>(if x2=true then (some (0,8)) else ((Bt a0 0).bind fun x3=>(if x3=true then (some (0,0)) else (jn (fun (z4 : Int) (z5 : Int) (z6 : Int)=>(some (z6,0))) fun K0=>(CJ a0 K0 BC 0 0 1 0)))))))))
theorem DQ {a0 : (List Int)} {r : Int × Int} (h : C6 a0=some r) :
  Fn Tryz.prog 98 [.sl (Is a0)] (.tup [.d (.i .i64 r.1),.d (.i .i64 r.2)]):=by
 unfold C6 at h
 refine Fn.of (rs:=[.tmp 2,.tmp 3]) (nt:=35) Tryz.func98 rfl rfl rfl (by simp) rfl ?_;refine .sr ?_;refine asd ?_;refine ar [0,2,3] ?_;refine .seq ?_;refine .block ?_;refine .sr ?_;refine vk (Aa) ?_;refine vk (Bz (Bh _) (E5 _) E7) ?_;refine vk (vbi) ?_;refine ar [0,2,3,7] ?_
 by_cases hc:8<((List.length a0:Nat):Int)
 ·replace h:=Aj hc h
  refine cnt (dT hc) ?_;refine .sr ?_;refine asd ?_;refine ar [0,2,3] ?_;refine .ret ?_
  cases h
  exact ⟨by decide,rfl,rfl,rfl⟩
 replace h:=Ai hc h
 refine cnf (dF hc) ?_;refine .sr ?_;refine vk (Aa) ?_
 obtain ⟨x1,hx1,h⟩:=bnd h
 refine vk (Ad (CV (Cp Tryz.call176 (fun _ _ h=>K7 h)) hx1) Tryz.call175) ?_;refine ar [0,2,3,11] ?_
 by_cases hc:x1=true
 ·replace h:=Aj hc h
  refine cnt hc ?_;refine .sr ?_;refine asd ?_;refine ar [0,2,3] ?_;refine .ret ?_
  cases h
  exact ⟨by decide,rfl,rfl,rfl⟩
 replace h:=Ai hc h
 refine cnf (bf hc) ?_;refine .sr ?_;refine vk (Aa) ?_
 obtain ⟨x2,hx2,h⟩:=bnd h
 refine vk (Ad (CV (Cp Tryz.call177 (fun _ _ h=>KZ h)) hx2) Tryz.call175) ?_;refine ar [0,2,3,14] ?_
 by_cases hc:x2=true
 ·replace h:=Aj hc h
  refine cnt hc ?_;refine .sr ?_;refine asd ?_;refine ar [0,2,3] ?_;refine .ret ?_
  cases h
  exact ⟨by decide,rfl,rfl,rfl⟩
 replace h:=Ai hc h
 refine cnf (bf hc) ?_;refine .sr ?_;refine vk (Aa) ?_
 obtain ⟨x3,hx3,h⟩:=bnd h
 refine vk (Ad (FM hx3) Tryz.call178) ?_;refine ar [0,2,3,17] ?_
 by_cases hc:x3=true
 ·replace h:=Aj hc h
  refine cnt hc ?_;refine .sr ?_;refine asd ?_;refine ar [0,2,3] ?_;refine .ret ?_
  cases h
  exact ⟨by decide,rfl,rfl,rfl⟩
 replace h:=Ai hc h
 refine cnf (bf hc) ?_;refine .skip ?_
 show AW _ _ _ _ _ _
 refine .sr ?_;refine ar [0,2,3,4] ?_;refine .seq ?_;refine .sr ?_;refine vk (Aa) ?_;refine vk (Bz (Bh _) (E5 _) E7) ?_;refine vk (Aa) ?_;refine rk [2,3,4,20,21,22] ?_
 obtain ⟨K0,hK0,h⟩:=CX h
 refine AW.mr (σ:=Int × Int × Int) (fun p=>K0 p.1 p.2.1 p.2.2=some r) (fun p=>[(2,.d (.i .i64 p.1)),(3,.d (.i .i64 p.2.1)),(4,.d (.i .i64 p.2.2))]) (fun p=>[]) ?_ ?_
 ·skip
  refine .block ?_
  refine .loop (.gk [2,3,4,20,21,22] ?_)
  refine AL.ind (σ:=Nat × Int × Int × Int × Int) (m:=fun p=>p.1) (e:=fun p=>[(2,.d (.i .i64 p.2.1)),(3,.d (.i .i64 p.2.2.1)),(4,.d (.i .i64 p.2.2.2.1)),(20,.d (.sl (Is a0))),(21,.d (.i .i64 ((List.length a0:Nat):Int))),(22,.d (.i .i64 p.2.2.2.2))]) (h:=fun p=>[]) (I:=fun p=>CJ a0 K0 p.1 p.2.1 p.2.2.1 p.2.2.2.1 p.2.2.2.2=some r) ?_ (BC,0,0,1,0) h
  rintro ⟨k,s7,s8,s9,s10⟩ h ih
  dsimp only at h ih ⊢
  rcases k with _ | k
  ·rw [CJ] at h;cases h
  rw [CJ] at h
  refine .sr ?_;refine vk (vbi) ?_;refine rk [2,3,4,20,21,22,23] ?_;refine .seq ?_
  by_cases hc:s10<((List.length a0:Nat):Int)
  ·replace h:=Aj hc h
   refine cnt (dT hc) ?_;refine .skip ?_
   show AW _ _ _ _ _ _
   refine .seq ?_;refine .block ?_;refine .sr ?_
   obtain ⟨x11,hx11,h⟩:=bnd h
   obtain ⟨nx11,hnx11,hxx11⟩:=AS hx11
   refine vk (vix nx11 hnx11 (Jw hxx11) rfl GN) ?_;refine vk (An CK) ?_;refine ar [2,3,4,6,20,21,22] ?_;refine .seq ?_;refine .sr ?_;refine vk (Aa) ?_;refine vk (Aa) ?_
   obtain ⟨x12,hx12,h⟩:=bnd h
   refine vk (P5 (J9 hx12)) ?_;refine vk (vbi) ?_;refine rk [2,3,4,6,20,21,22,29] ?_
   by_cases hc:(w64 (Int.tdiv 4096 s9))<x11
   ·replace h:=Aj hc h
    refine cnt (dT hc) ?_;refine .sr ?_;refine asd ?_;refine ar [2,3,4,6,20,21,22] ?_;refine .ret ?_
    cases h
    exact ⟨by decide,rfl,rfl,rfl⟩
   replace h:=Ai hc h
   refine cnf (dF hc) ?_;refine .skip ?_
   show AW _ _ _ _ _ _
   refine .region ?_;refine vk (Aa) ?_;refine vk (Aa) ?_;refine vk (vbi) ?_;refine asd ?_;refine .nil ?_
   show AW _ _ _ _ _ _
   refine .gk [2,3,4,20,21,22] ?_;refine .region ?_;refine vk (vbi) ?_;refine vk (Aa) ?_;refine .nil ?_;refine AL.gk [2,3,4,20,21,22] ?_
   exact ih (k,s7,s8,(w64 (s9 * x11)),(w64 (s10+1))) h (Nat.lt_succ_self _)
  replace h:=Ai hc h
  refine cnf (dF hc) ?_;refine .gk [2,3,4] ?_;refine .exit ?_
  exact jr (s7,s8,s9) h
 rintro ⟨z4,z5,z6⟩ h
 try dsimp only at h ⊢
 subst hK0
 show AW _ _ _ _ _ _
 refine .sr ?_;refine vk (Aa) ?_;refine asd ?_;refine ar [2,3] ?_;refine .ret ?_
 cases h
 exact ⟨by decide,rfl,rfl,rfl⟩
def Cs (a0 : Arr) : Option (Bool):=(Option.bind ((if ((List.length a0.shape : Nat) : Int)=0 then (if ((List.length a0.items : Nat) : Int)=1 then ((rd? a0.items 0).bind fun x2=>(some (!(decide (x2.kind=3))))) else (some false)) else (some false)) : Option (Bool)) fun (z1 : Bool)=>(some (z1)))
theorem Et {a0 : Arr} {r : Bool} (h : Cs a0=some r) :
  Fn Tryz.prog 172 [.ag [.sl (Is a0.shape),.sl (Its a0.items)]] (.d (.b r)):=by
 unfold Cs at h
 refine Fn.o1 2 21 Tryz.func172 ?_;refine .sr ?_;refine vk (vbx) ?_;refine ar [1,2] ?_;refine .seq ?_
 obtain ⟨z1,hz,h⟩:=bnd h
 refine AW.mr (σ:=Unit) (fun _=>True) (fun _=>[(2,.d (.b z1))]) (fun _=>[]) ?_ ?_
 ·skip
  refine .region ?_;refine vk (vfa Bc) ?_;refine vk (An C3) ?_;refine vk (Bz (Bh _) (E5 _) E7) ?_;refine vk (vbi) ?_
  by_cases hc:((List.length a0.shape:Nat):Int)=0
  ·replace hz:=Aj hc hz
   have hb0:(decide (((List.length a0.shape:Nat):Int)=0))=true:=(dT hc)
   refine vk (VOK.lit (Aa) hb0) ?_;refine vk (vfa A6) ?_;refine vk (An CC) ?_;refine vk (Bz (AN _) (Dr _) Dl) ?_;refine vk (vbi) ?_;refine vk (Am) ?_
   by_cases hc:((List.length a0.items:Nat):Int)=1
   ·replace hz:=Aj hc hz
    have hb1:(decide (((List.length a0.items:Nat):Int)=1))=true:=(dT hc)
    refine vk (VOK.lit (Aa) hb1) ?_;refine vk (vfa A6) ?_;refine vk (An CC) ?_
    obtain ⟨x2,hx2,hz⟩:=bnd hz
    obtain ⟨nx2,hnx2,hxx2⟩:=AS hx2
    refine vk (vix nx2 hnx2 (Ec hxx2) rfl DO) ?_;refine vk (vfa Cd) ?_;refine vk (An Be) ?_;refine vk (vbi) ?_;refine vk (Am) ?_;refine asd ?_;refine RL.gk [2] ?_;refine .nil ?_
    cases hz
    exact jr () trivial
   replace hz:=Ai hc hz
   have hb1:(decide (((List.length a0.items:Nat):Int)=1))=false:=(dF hc)
   refine vk (VOK.lit (Aa) hb1) ?_;refine gf ?_;refine gf ?_;refine gf ?_;refine gf ?_;refine gf ?_;refine gf ?_;refine vk (Am) ?_;refine asd ?_;refine RL.gk [2] ?_;refine .nil ?_
   cases hz
   exact jr () trivial
  replace hz:=Ai hc hz
  have hb0:(decide (((List.length a0.shape:Nat):Int)=0))=false:=(dF hc)
  refine vk (VOK.lit (Aa) hb0) ?_;refine gf ?_;refine gf ?_;refine gf ?_;refine gf ?_;refine vk (Am) ?_;refine vk (Aa) ?_;refine gf ?_;refine gf ?_;refine gf ?_;refine gf ?_;refine gf ?_;refine gf ?_;refine vk (Am) ?_;refine asd ?_;refine RL.gk [2] ?_;refine .nil ?_
  cases hz
  exact jr () trivial
 rintro _ _
 refine .ret ?_
 cases h
 exact ⟨rfl,rfl⟩
def Fp (a0 : Int) : Option (Bool):=(some (((decide (0≤a0)) && ((decide (a0≤1114111)) && ((decide (a0<55296)) || (decide (57343<a0)))))))
theorem KW {a0 : Int} {r : Bool} (h : Fp a0=some r) :
  Fn Tryz.prog 231 [.i .i32 a0] (.d (.b r)):=by
 unfold Fp at h
 refine Fn.o1 2 17 Tryz.func231 ?_;refine .sr ?_;refine ar [0,2] ?_;refine .seq ?_;refine AW.mr (σ:=Unit) (fun _=>True) (fun _=>[(2,.d (.b ((decide (0≤a0)) && ((decide (a0≤1114111)) && ((decide (a0<55296)) || (decide (57343<a0)))))))]) (fun _=>[]) ?_ ?_
 ·skip
  refine .region ?_;refine vk (Aa) ?_;refine vk (vbi) ?_
  by_cases hc:0≤a0
  ·have hb0:(decide (0≤a0))=true:=(dT hc)
   refine vk (VOK.lit (Aa) hb0) ?_;refine vk (Aa) ?_;refine vk (vbi) ?_;refine vk (Am) ?_
   by_cases hc:a0≤1114111
   ·have hb1:(decide (a0≤1114111))=true:=(dT hc)
    refine vk (VOK.lit (Aa) hb1) ?_;refine vk (Aa) ?_;refine vk (vbi) ?_
    by_cases hc:a0<55296
    ·have hb2:(decide (a0<55296))=true:=(dT hc)
     refine vk (VOK.lit (Aa) hb2) ?_;refine gf ?_;refine gf ?_;refine vk (Am) ?_;refine vk (Am) ?_;refine asd ?_;refine RL.gk [2] ?_;refine .nil ?_
     exact jr () trivial (by simp only [hb0,hb1,hb2];rfl)
    have hb2:(decide (a0<55296))=false:=(dF hc)
    refine vk (VOK.lit (Aa) hb2) ?_;refine vk (Aa) ?_;refine vk (vbi) ?_;refine vk (Am) ?_;refine vk (Am) ?_;refine asd ?_;refine RL.gk [2] ?_;refine .nil ?_
    exact jr () trivial (by simp only [hb0,hb1,hb2];rfl)
   have hb1:(decide (a0≤1114111))=false:=(dF hc)
   refine vk (VOK.lit (Aa) hb1) ?_;refine gf ?_;refine gf ?_;refine gfu ?_;refine gf ?_;refine gf ?_;refine gf ?_;refine vk (Am) ?_;refine asd ?_;refine RL.gk [2] ?_;refine .nil ?_
   exact jr () trivial (by simp only [hb0,hb1];rfl)
  have hb0:(decide (0≤a0))=false:=(dF hc)
  refine vk (VOK.lit (Aa) hb0) ?_;refine gf ?_;refine gf ?_;refine vk (Am) ?_;refine vk (Aa) ?_;refine gf ?_;refine gf ?_;refine gfu ?_;refine gf ?_;refine gf ?_;refine gf ?_;refine vk (Am) ?_;refine asd ?_;refine RL.gk [2] ?_;refine .nil ?_
  exact jr () trivial (by simp only [hb0];rfl)
 rintro _ _
 refine .ret ?_
 cases h
 exact ⟨rfl,rfl⟩
theorem W6 : 0<AB Tryz.prog 3:=by rw [I9];decide
def EF (a : (List Int)) : Option ((List Int)):=ap? 17592186044416 [] a
theorem IK {a r : (List Int)} (h : EF a=some r) : Fn Tryz.prog 182 [.sl (Is a)] (.own 3 (Is r)):=by
 unfold EF at h
 refine Fn.o1 2 8 Tryz.func182 ?_;refine .sr ?_;refine asn ?_;refine rn ?_;refine .seq ?_;refine .sr ?_;refine mvd ?_
 refine nq (fun b hb=>?_) (E5 _) E7
 refine rn ?_
 refine cnd (fun hc=>?_) (fun hc=>?_)
 ·simp only [if_true] at hc
  have h0:Is a=[]:=by
   apply Classical.byContradiction
   intro h;rw [hb h] at hc;cases hc
  have h1:r=[]:=by
   have:=(Lj h).2
   rw [this,List.nil_append]
   exact List.length_eq_zero_iff.1 (by rw [← Bh a,h0];rfl)
  subst h1
  refine .sr ?_;refine asn ?_;refine rn ?_;refine .gh (Gh.nlOwn (t:=2) 3 W6 rfl) ?_;refine .ret ?_
  exact ⟨rfl,rfl⟩
 ·refine .skip ?_
  show AW _ _ _ _ _ _
  refine .sr ?_;refine vk (GD (ds':=Is []) rfl (Gj []) HV) ?_;refine mvd ?_
  refine Z2 QB h TB ?_ Ou Bh HV
  refine aso ?_;refine rn ?_;refine .ret ?_
  exact ⟨rfl,rfl⟩
def CE (a0 : RT) : Option (RT):=((Ey a0.2.1).bind fun x1=>((Ey a0.2.2).bind fun x2=>(some ((a0.1,x1,x2)))))
theorem FR {a0 : RT} {r : RT} (h : CE a0=some r) :
  Fn Tryz.prog 157 [.ag [.b a0.1,.sl (L a0.2.1),.sl (L a0.2.2)]] (.d (.ag [.b r.1,.sl (L r.2.1),.sl (L r.2.2)])):=by
 unfold CE at h
 refine Fn.ofC (rs:=[.cell 2 32]) (nt:=12) Tryz.func157 rfl rfl rfl (by simp) rfl ?_;refine .sr ?_;refine vk (vbx) ?_;refine vk (van (Ah BO) BN) ?_;refine rk [1,2] ?_;refine .seq ?_;refine .drawn 9 Ba (by kernel_rfl) ?_;refine dv (vfa CY) ?_;refine dv (An BF) ?_;refine dv (vfa BY) ?_;refine dv (An C7) ?_
 obtain ⟨x1,hx1,h⟩:=bnd h
 refine dv ((Ad (EK hx1) Tryz.call215).deep) ?_;refine dv (vfa FE) ?_;refine dv (An C7) ?_
 obtain ⟨x2,hx2,h⟩:=bnd h
 refine dv ((Ad (EK hx2) Tryz.call215).deep) ?_;refine dv (vbd Ee BO BN) ?_;refine dz ?_
 refine stn ?_ Ak (by decide)
 refine rk [2] ?_;refine .ret ?_
 cases h
 exact ⟨_,⟨.inr rfl,Au,Ak,(by decide:(0:Nat)<3)⟩,rfl⟩
def BW (a0 : RT) : Option (Itm):=((CE a0).bind fun x1=>(some ((Itm.mk 1 x1 0 []))))
theorem DY {a0 : RT} {r : Itm} (h : BW a0=some r) :
  Fn Tryz.prog 71 [.ag [.b a0.1,.sl (L a0.2.1),.sl (L a0.2.2)]] (.d (.ag [.i .u8 r.kind,.b r.num.1,.sl (L r.num.2.1),.sl (L r.num.2.2),.i .i32 r.char,.sl (Ars r.box)])):=by
 unfold BW at h
 refine Fn.ofC (rs:=[.cell 2 83]) (nt:=6) Tryz.func71 rfl rfl rfl (by simp) rfl ?_;refine .sr ?_;refine vk (vbx) ?_;refine vk (van (Ah B2) Cb) ?_;refine rk [1,2] ?_;refine .sr ?_;refine vk (Ap Au Ak) ?_
 obtain ⟨x1,hx1,h⟩:=bnd h
 refine vk (Ad (FR hx1) Tryz.call157) ?_;refine vk (vbd Hr B2 Cb) ?_
 refine stn ?_ Ay (by decide)
 refine rk [2] ?_;refine .ret ?_
 cases h
 exact ⟨_,⟨.inr rfl,AP,Ay,(by decide:(0:Nat)<6)⟩,rfl⟩
def Ja (a0 : Int) : Option (Itm):=(some ((Itm.mk 2 (false,[],[]) a0 [])))
theorem MM {a0 : Int} {r : Itm} (h : Ja a0=some r) :
  Fn Tryz.prog 228 [.i .i32 a0] (.d (.ag [.i .u8 r.kind,.b r.num.1,.sl (L r.num.2.1),.sl (L r.num.2.2),.i .i32 r.char,.sl (Ars r.box)])):=by
 unfold Ja at h
 refine Fn.ofC (rs:=[.cell 2 83]) (nt:=5) Tryz.func228 rfl rfl rfl (by simp) rfl ?_;refine .sr ?_;refine vk (van (Ah B2) Cb) ?_;refine rk [0,2] ?_;refine .sr ?_;refine vk (Aa) ?_;refine vk (vbd Hr B2 Cb) ?_
 refine stn ?_ Ay (by decide)
 refine rk [2] ?_;refine .ret ?_
 cases h
 exact ⟨_,⟨.inr rfl,AP,Ay,(by decide:(0:Nat)<6)⟩,rfl⟩
def Fr (a0 : Itm) : Option (Arr):=(some ((Arr.mk [] [a0])))
theorem Ho {a0 : Itm} {r : Arr} (h : Fr a0=some r) :
  Fn Tryz.prog 70 [.ag [.i .u8 a0.kind,.b a0.num.1,.sl (L a0.num.2.1),.sl (L a0.num.2.2),.i .i32 a0.char,.sl (Ars a0.box)]] (.d (.ag [.sl (Is r.shape),.sl (Its r.items)])):=by
 unfold Fr at h
 refine Fn.ofC (rs:=[.cell 2 25]) (nt:=6) Tryz.func70 rfl rfl rfl (by simp) rfl ?_;refine .sr ?_;refine vk (vbx) ?_;refine vk (van (Ah AU) A7) ?_;refine rk [1,2] ?_;refine .sr ?_;refine vk (Ap AP Ay) ?_;refine vk ((GD (Gi a0) (EX [a0]) Fc).deep) ?_;refine vk (vbd Ef AU A7) ?_
 refine stn ?_ Ag (by decide)
 refine rk [2] ?_;refine .ret ?_
 cases h
 exact ⟨_,⟨.inr rfl,As,Ag,(by decide:(0:Nat)<2)⟩,rfl⟩
def HA (a0 : Int) : Option (Arr):=((BM a0).bind fun x1=>((BW x1).bind fun x2=>((Fr x2).bind fun x3=>(some (x3)))))
theorem Lr {a0 : Int} {r : Arr} (h : HA a0=some r) :
  Fn Tryz.prog 26 [.i .i64 a0] (.d (.ag [.sl (Is r.shape),.sl (Its r.items)])):=by
 unfold HA at h
 refine Fn.ofC (rs:=[.cell 2 25]) (nt:=7) Tryz.func26 rfl rfl rfl (by simp) rfl ?_;refine .sr ?_;refine vk (van (Ah AU) A7) ?_;refine rk [0,2] ?_;refine .sr ?_;refine vk (Aa) ?_
 obtain ⟨x1,hx1,h⟩:=bnd h
 refine vk (Ad (Br hx1) Tryz.call72) ?_
 obtain ⟨x2,hx2,h⟩:=bnd h
 refine vk (Ad (DY hx2) Tryz.call71) ?_
 obtain ⟨x3,hx3,h⟩:=bnd h
 refine vk (Ad (Ho hx3) Tryz.call70) ?_
 refine stn ?_ Ag (by decide)
 refine rk [2] ?_;refine .ret ?_
 cases h
 exact ⟨_,⟨.inr rfl,As,Ag,(by decide:(0:Nat)<2)⟩,rfl⟩
def B5 (a0 : Arr) (a1 : B1) (K0 : (List Int)→(List Itm)→Option (Arr)) : Nat→Int→(List Int)→(List Itm)→Option (Arr)
 | 0,_,_,_=>none
 | k+1,s4,s5,s6=>(if s4<((List.length a0.items:Nat):Int) then ((rd? a0.items s4).bind fun x7=>((a1.g x7).bind fun x8=>((ap? 1466015503701 s6 [x8]).bind fun x9=>(B5 a0 a1 K0 k (w64 (s4+1)) s5 x9)))) else (K0 s5 s6))
def Cn (a0 : Arr) (a1 : B1) : Option (Arr):=((EF a0.shape).bind fun x1=>(jn (fun (z2 : (List Int)) (z3 : (List Itm))=>(some ((Arr.mk z2 z3)))) fun K0=>(B5 a0 a1 K0 BC 0 x1 [])))
theorem DZ {a0 : Arr} {a1 : B1} (oa1 : PG a1) {r : Arr} (h : Cn a0 a1=some r) :
  Fn Tryz.prog 174 [.ag [.sl (Is a0.shape),.sl (Its a0.items)],a1.dv] (.d (.ag [.sl (Is r.shape),.sl (Its r.items)])):=by
 unfold Cn at h
 refine Fn.ofC (rs:=[.cell 4 25]) (nt:=29) Tryz.func174 rfl rfl rfl (by simp) rfl ?_;refine .sr ?_;refine vk (vbx) ?_;refine vk (van (Ah AU) A7) ?_;refine rk [1,2,4] ?_;refine .sr ?_;refine vk (vfa Bc) ?_;refine vk (An C3) ?_
 obtain ⟨x1,hx1,h⟩:=bnd h
 refine vk ((Ad (IK hx1) Tryz.call182).deep) ?_;refine vk (XF Ef AU (fun w I μ=>Om w I μ)) ?_;refine vk (van (Ah AU) A7) ?_
 refine Xk ?_ Ag (by decide)
 refine rk [1,2,4,5] ?_;refine .seq ?_;refine .sr ?_;refine vk (vfa A6) ?_;refine vk (An CC) ?_;refine vk (Bz (AN _) (Dr _) Dl) ?_;refine vk (Aa) ?_;refine rk [1,4,5,13,14,15] ?_
 obtain ⟨K0,hK0,h⟩:=CX h
 refine AW.mr (σ:=(List Int) × (List Itm)) (fun p=>K0 p.1 p.2=some r) (fun p=>[(4,.nb [.sl (Is []),.sl (Its [])]),(5,.bp 0 0)]) (fun p=>[HO.box [.d (.sl (Is p.1)),.own 83 (Its p.2)]]) ?_ ?_
 ·skip
  refine .block ?_;refine .gh (Gh.nlOwnC (id:=0) (off:=1) 83 (by rw [QC];decide)) ?_
  refine .loop (.gk [1,4,5,13,14,15] ?_)
  refine AL.ind (σ:=Nat × Int × (List Int) × (List Itm)) (m:=fun p=>p.1) (e:=fun p=>[(1,.d (a1.dv)),(4,.nb [.sl (Is []),.sl (Its [])]),(5,.bp 0 0),(13,.d (.sl (Its a0.items))),(14,.d (.i .i64 ((List.length a0.items:Nat):Int))),(15,.d (.i .i64 p.2.1))]) (h:=fun p=>[HO.box [.d (.sl (Is p.2.2.1)),.own 83 (Its p.2.2.2)]]) (I:=fun p=>B5 a0 a1 K0 p.1 p.2.1 p.2.2.1 p.2.2.2=some r) ?_ (BC,0,x1,[]) h
  rintro ⟨k,s4,s5,s6⟩ h ih
  dsimp only at h ih ⊢
  rcases k with _ | k
  ·rw [B5] at h;cases h
  rw [B5] at h
  refine .sr ?_;refine vk (vbi) ?_;refine rk [1,4,5,13,14,15,16] ?_;refine .seq ?_
  by_cases hc:s4<((List.length a0.items:Nat):Int)
  ·replace h:=Aj hc h
   refine cnt (dT hc) ?_;refine .skip ?_
   show AW _ _ _ _ _ _
   refine .seq ?_;refine .block ?_;refine .sr ?_
   obtain ⟨x7,hx7,h⟩:=bnd h
   obtain ⟨nx7,hnx7,hxx7⟩:=AS hx7
   refine vk (vix nx7 hnx7 (Ec hxx7) rfl DO) ?_;refine vk (Ap AP Ay) ?_;refine vk (van (Ah B2) Cb) ?_
   refine stn ?_ Ay (by decide)
   refine rk [1,4,5,7,13,14,15] ?_;refine .drawn 6 Ba (by kernel_rfl) ?_;refine dv (GM A6) ?_;refine dv (Ul (cs:=[.d (.sl (Is s5)),.own 83 (Its s6)]) rfl rfl CC) ?_;refine dv (Aa) ?_;refine dv (C8 AP Ay) ?_
   obtain ⟨x8,hx8,h⟩:=bnd h
   refine dv (MQ (oa1 _ _ hx8)) ?_;refine dv ((GD (Gi x8) (EX [x8]) Fc).deep) ?_;refine dz ?_
   obtain ⟨x9,hx9,h⟩:=bnd h
   refine VN Lg hx9 rfl rfl N8 ?_ JD AN Fc
   refine RL.gk [1,4,5,7,13,14,15,19,21,22,23,24,25] ?_;refine vk (GM A6) ?_
   refine Qm (cs:=[.d (.sl (Is s5)),.un]) (c:=.un) rfl rfl ?_ LI
   refine .nil ?_
   show AW _ _ _ _ _ _
   refine .gk [1,4,5,13,14,15] ?_;refine .region ?_;refine vk (vbi) ?_;refine vk (Aa) ?_;refine .nil ?_;refine AL.gk [1,4,5,13,14,15] ?_
   exact ih (k,(w64 (s4+1)),s5,x9) h (Nat.lt_succ_self _)
  replace h:=Ai hc h
  refine cnf (dF hc) ?_;refine .gk [4,5] ?_;refine .exit ?_
  exact jr (s5,s6) h
 rintro ⟨z2,z3⟩ h
 try dsimp only at h ⊢
 subst hK0
 show AW _ _ _ _ _ _
 refine .sr ?_;refine fz (p:=.c 0 1) ?_;refine vk (KJ (cs:=[.d (.sl (Is z2)),.d (.sl (Its z3))]) (ds:=[.sl (Is z2),.sl (Its z3)]) rfl As Ag) ?_
 refine stn ?_ Ag (by decide)
 refine rk [4] ?_;refine .ret ?_
 cases h
 exact ⟨_,⟨.inr rfl,As,Ag,(by decide:(0:Nat)<2)⟩,rfl⟩
def DD (rc_array_same : Itm→Option (Itm)) (a0 : Itm) (K0 : Int→Bool→(List Nat)→(List Nat)→Int→(List Arr)→Option (Itm)) : Nat→Int→Int→Bool→(List Nat)→(List Nat)→Int→(List Arr)→Option (Itm)
 | 0,_,_,_,_,_,_,_=>none
 | k+1,s8,s9,s10,s11,s12,s13,s14=>(if s8<((List.length a0.box:Nat):Int) then ((rd? a0.box s8).bind fun x15=>((Cn x15 (⟨.fn 173 [] [],fun x=>rc_array_same x⟩:B1)).bind fun x16=>((ap? 2932031007402 s14 [x16]).bind fun x17=>(DD rc_array_same a0 K0 k (w64 (s8+1)) s9 s10 s11 s12 s13 x17)))) else (K0 s9 s10 s11 s12 s13 s14))
def HM (rc_array_same : Itm→Option (Itm)) (a0 : Itm) : Option (Itm):=((CE a0.num).bind fun x1=>(jn (fun (z2 : Int) (z3 : Bool) (z4 : (List Nat)) (z5 : (List Nat)) (z6 : Int) (z7 : (List Arr))=>(some ((Itm.mk z2 (z3,z4,z5) z6 z7)))) fun K0=>(DD rc_array_same a0 K0 BC 0 a0.kind x1.1 x1.2.1 x1.2.2 a0.char [])))
theorem PR {rc_array_same : Itm→Option (Itm)} (orc_array_same : ∀ x0 r,rc_array_same x0=some r→Fn Tryz.prog 173 [.ag [.i .u8 x0.kind,.b x0.num.1,.sl (L x0.num.2.1),.sl (L x0.num.2.2),.i .i32 x0.char,.sl (Ars x0.box)]] (.d (.ag [.i .u8 r.kind,.b r.num.1,.sl (L r.num.2.1),.sl (L r.num.2.2),.i .i32 r.char,.sl (Ars r.box)]))) {a0 : Itm} {r : Itm} (h : HM rc_array_same a0=some r) :
  Fn Tryz.prog 173 [.ag [.i .u8 a0.kind,.b a0.num.1,.sl (L a0.num.2.1),.sl (L a0.num.2.2),.i .i32 a0.char,.sl (Ars a0.box)]] (.d (.ag [.i .u8 r.kind,.b r.num.1,.sl (L r.num.2.1),.sl (L r.num.2.2),.i .i32 r.char,.sl (Ars r.box)])):=by
 unfold HM at h
 refine Fn.ofC (rs:=[.cell 2 83]) (nt:=30) Tryz.func173 rfl rfl rfl (by simp) rfl ?_;refine .sr ?_;refine vk (vbx) ?_;refine vk (van (Ah B2) Cb) ?_;refine rk [1,2] ?_;refine .seq ?_;refine .drawn 9 Ba (by kernel_rfl) ?_;refine dv (vfa Cd) ?_;refine dv (An Be) ?_;refine dv (vfa DT) ?_;refine dv (An CP) ?_;refine dv (vfa Cc) ?_;refine dv (Ap Au Ak) ?_
 obtain ⟨x1,hx1,h⟩:=bnd h
 refine dv (Ad (FR hx1) Tryz.call157) ?_;refine dv (XF Hr B2 (fun w I μ=>Vt w I μ)) ?_;refine dv (van (Ah B2) Cb) ?_;refine dz ?_
 refine Xk ?_ Ay (by decide)
 refine rk [1,2,3] ?_;refine .seq ?_;refine .sr ?_;refine vk (vfa BE) ?_;refine vk (An Dt) ?_;refine vk (Bz (B6 _) (FJ _) FF) ?_;refine vk (Aa) ?_;refine rk [2,3,15,16,17] ?_
 obtain ⟨K0,hK0,h⟩:=CX h
 refine AW.mr (σ:=Int × Bool × (List Nat) × (List Nat) × Int × (List Arr)) (fun p=>K0 p.1 p.2.1 p.2.2.1 p.2.2.2.1 p.2.2.2.2.1 p.2.2.2.2.2=some r) (fun p=>[(2,.nb [.i .u8 0,.b false,.sl (L []),.sl (L []),.i .i32 0,.sl (Ars [])]),(3,.bp 0 0)]) (fun p=>[HO.box [.d (.i .u8 p.1),.d (.b p.2.1),.d (.sl (L p.2.2.1)),.d (.sl (L p.2.2.2.1)),.d (.i .i32 p.2.2.2.2.1),.own 25 (Ars p.2.2.2.2.2)]]) ?_ ?_
 ·skip
  refine .block ?_;refine .gh (Gh.nlOwnC (id:=0) (off:=5) 25 (by rw [Xl];decide)) ?_
  refine .loop (.gk [2,3,15,16,17] ?_)
  refine AL.ind (σ:=Nat × Int × Int × Bool × (List Nat) × (List Nat) × Int × (List Arr)) (m:=fun p=>p.1) (e:=fun p=>[(2,.nb [.i .u8 0,.b false,.sl (L []),.sl (L []),.i .i32 0,.sl (Ars [])]),(3,.bp 0 0),(15,.d (.sl (Ars a0.box))),(16,.d (.i .i64 ((List.length a0.box:Nat):Int))),(17,.d (.i .i64 p.2.1))]) (h:=fun p=>[HO.box [.d (.i .u8 p.2.2.1),.d (.b p.2.2.2.1),.d (.sl (L p.2.2.2.2.1)),.d (.sl (L p.2.2.2.2.2.1)),.d (.i .i32 p.2.2.2.2.2.2.1),.own 25 (Ars p.2.2.2.2.2.2.2)]]) (I:=fun p=>DD rc_array_same a0 K0 p.1 p.2.1 p.2.2.1 p.2.2.2.1 p.2.2.2.2.1 p.2.2.2.2.2.1 p.2.2.2.2.2.2.1 p.2.2.2.2.2.2.2=some r) ?_ (BC,0,a0.kind,x1.1,x1.2.1,x1.2.2,a0.char,[]) h
  rintro ⟨k,s8,s9,s10,s11,s12,s13,s14⟩ h ih
  dsimp only at h ih ⊢
  rcases k with _ | k
  ·rw [DD] at h;cases h
  rw [DD] at h
  refine .sr ?_;refine vk (vbi) ?_;refine rk [2,3,15,16,17,18] ?_;refine .seq ?_
  by_cases hc:s8<((List.length a0.box:Nat):Int)
  ·replace h:=Aj hc h
   refine cnt (dT hc) ?_;refine .skip ?_
   show AW _ _ _ _ _ _
   refine .seq ?_;refine .block ?_;refine .sr ?_
   obtain ⟨x15,hx15,h⟩:=bnd h
   obtain ⟨nx15,hnx15,hxx15⟩:=AS hx15
   refine vk (vix nx15 hnx15 (F6 hxx15) rfl F5) ?_;refine vk (Ap As Ag) ?_;refine vk (van (Ah AU) A7) ?_
   refine stn ?_ Ag (by decide)
   refine rk [2,3,5,15,16,17] ?_;refine .drawn 5 Ba (by kernel_rfl) ?_;refine dv (GM BE) ?_;refine dv (Ul (cs:=[.d (.i .u8 s9),.d (.b s10),.d (.sl (L s11)),.d (.sl (L s12)),.d (.i .i32 s13),.own 25 (Ars s14)]) rfl rfl Dt) ?_;refine dv (C8 As Ag) ?_
   obtain ⟨x16,hx16,h⟩:=bnd h
   refine dv (Ad (DZ (Cp Tryz.call173 (fun _ _ h=>orc_array_same _ _ h)) hx16) Tryz.call174) ?_;refine dv ((GD (NX x16) (LP [x16]) Ob).deep) ?_;refine dz ?_
   obtain ⟨x17,hx17,h⟩:=bnd h
   refine VN V6 hx17 rfl rfl XB ?_ RO B6 Ob
   refine RL.gk [2,3,5,15,16,17,21,23,24,25,26] ?_;refine vk (GM BE) ?_
   refine Qm (cs:=[.d (.i .u8 s9),.d (.b s10),.d (.sl (L s11)),.d (.sl (L s12)),.d (.i .i32 s13),.un]) (c:=.un) rfl rfl ?_ Xs
   refine .nil ?_
   show AW _ _ _ _ _ _
   refine .gk [2,3,15,16,17] ?_;refine .region ?_;refine vk (vbi) ?_;refine vk (Aa) ?_;refine .nil ?_;refine AL.gk [2,3,15,16,17] ?_
   exact ih (k,(w64 (s8+1)),s9,s10,s11,s12,s13,x17) h (Nat.lt_succ_self _)
  replace h:=Ai hc h
  refine cnf (dF hc) ?_;refine .gk [2,3] ?_;refine .exit ?_
  exact jr (s9,s10,s11,s12,s13,s14) h
 rintro ⟨z2,z3,z4,z5,z6,z7⟩ h
 try dsimp only at h ⊢
 subst hK0
 show AW _ _ _ _ _ _
 refine .sr ?_;refine fz (p:=.c 0 5) ?_;refine vk (KJ (cs:=[.d (.i .u8 z2),.d (.b z3),.d (.sl (L z4)),.d (.sl (L z5)),.d (.i .i32 z6),.d (.sl (Ars z7))]) (ds:=[.i .u8 z2,.b z3,.sl (L z4),.sl (L z5),.i .i32 z6,.sl (Ars z7)]) rfl AP Ay) ?_
 refine stn ?_ Ay (by decide)
 refine rk [2] ?_;refine .ret ?_
 cases h
 exact ⟨_,⟨.inr rfl,AP,Ay,(by decide:(0:Nat)<6)⟩,rfl⟩
def EO : Nat→Itm→Option (Itm)
 | 0,_=>none
 | k+1,a0=>HM (EO k) a0
theorem Jr : ∀ (k : Nat) (a0 : Itm) (r : Itm),EO k a0=some r→Fn Tryz.prog 173 [.ag [.i .u8 a0.kind,.b a0.num.1,.sl (L a0.num.2.1),.sl (L a0.num.2.2),.i .i32 a0.char,.sl (Ars a0.box)]] (.d (.ag [.i .u8 r.kind,.b r.num.1,.sl (L r.num.2.1),.sl (L r.num.2.2),.i .i32 r.char,.sl (Ars r.box)]))
 | 0,_,_,h=>by cases h
 | k+1,a0,_,h=>PR (Jr k) (show HM (EO k) a0=some _ from h)
def FY (a0 : Itm) : Option (Itm):=EO (a0.size+1) a0
theorem FK {a0 : Itm} {r : Itm} (h : FY a0=some r) : Fn Tryz.prog 173 [.ag [.i .u8 a0.kind,.b a0.num.1,.sl (L a0.num.2.1),.sl (L a0.num.2.2),.i .i32 a0.char,.sl (Ars a0.box)]] (.d (.ag [.i .u8 r.kind,.b r.num.1,.sl (L r.num.2.1),.sl (L r.num.2.2),.i .i32 r.char,.sl (Ars r.box)])):=Jr _ a0 r h
def GI (rc_array_typed : Itm→Option (Itm)) (a0 : Itm) : Option (Itm):=(if a0.kind=1 then ((BM 0).bind fun x1=>((BW x1).bind fun x2=>(some (x2)))) else (if a0.kind=2 then ((Ja 32).bind fun x3=>(some (x3))) else ((rd? a0.box 0).bind fun x4=>((Cn x4 (⟨.fn 183 [] [],fun x=>rc_array_typed x⟩ : B1)).bind fun x5=>(some ((Itm.mk 3 (false,[],[]) 0 [x5])))))))
theorem Ox {rc_array_typed : Itm→Option (Itm)} (orc_array_typed : ∀ x0 r,rc_array_typed x0=some r→Fn Tryz.prog 183 [.ag [.i .u8 x0.kind,.b x0.num.1,.sl (L x0.num.2.1),.sl (L x0.num.2.2),.i .i32 x0.char,.sl (Ars x0.box)]] (.d (.ag [.i .u8 r.kind,.b r.num.1,.sl (L r.num.2.1),.sl (L r.num.2.2),.i .i32 r.char,.sl (Ars r.box)]))) {a0 : Itm} {r : Itm} (h : GI rc_array_typed a0=some r) :
  Fn Tryz.prog 183 [.ag [.i .u8 a0.kind,.b a0.num.1,.sl (L a0.num.2.1),.sl (L a0.num.2.2),.i .i32 a0.char,.sl (Ars a0.box)]] (.d (.ag [.i .u8 r.kind,.b r.num.1,.sl (L r.num.2.1),.sl (L r.num.2.2),.i .i32 r.char,.sl (Ars r.box)])):=by
 unfold GI at h
 refine Fn.ofC (rs:=[.cell 2 83]) (nt:=19) Tryz.func183 rfl rfl rfl (by simp) rfl ?_;refine .sr ?_;refine vk (vbx) ?_;refine vk (van (Ah B2) Cb) ?_;refine rk [1,2] ?_;refine .seq ?_;refine .sr ?_;refine vk (vfa Cd) ?_;refine vk (An Be) ?_;refine rk [1,2,4] ?_;refine .block ?_;refine .sr ?_;refine vk (vbi) ?_;refine ar [1,2,4,5] ?_
 by_cases hc:a0.kind=1
 ·replace h:=Aj hc h
  refine cnt (dT hc) ?_;refine .sr ?_
  obtain ⟨x1,hx1,h⟩:=bnd h
  refine vk (Ad (Br hx1) Tryz.call72) ?_
  obtain ⟨x2,hx2,h⟩:=bnd h
  refine vk (Ad (DY hx2) Tryz.call71) ?_
  refine stn ?_ Ay (by decide)
  refine rk [1,2] ?_;refine .ret ?_
  cases h
  exact ⟨_,⟨.inr rfl,AP,Ay,(by decide:(0:Nat)<6)⟩,rfl⟩
 replace h:=Ai hc h
 refine cnf (dF hc) ?_;refine .sr ?_;refine vk (vbi) ?_;refine ar [1,2,9] ?_
 by_cases hc:a0.kind=2
 ·replace h:=Aj hc h
  refine cnt (dT hc) ?_;refine .sr ?_
  obtain ⟨x3,hx3,h⟩:=bnd h
  refine vk (Ad (MM hx3) Tryz.call228) ?_
  refine stn ?_ Ay (by decide)
  refine rk [1,2] ?_;refine .ret ?_
  cases h
  exact ⟨_,⟨.inr rfl,AP,Ay,(by decide:(0:Nat)<6)⟩,rfl⟩
 replace h:=Ai hc h
 refine cnf (dF hc) ?_;refine .skip ?_
 show AW _ _ _ _ _ _
 refine .sr ?_;refine vk (vfa BE) ?_;refine vk (An Dt) ?_
 obtain ⟨x4,hx4,h⟩:=bnd h
 obtain ⟨nx4,hnx4,hxx4⟩:=AS hx4
 refine vk (vix nx4 hnx4 (F6 hxx4) rfl F5) ?_;refine vk (Ap As Ag) ?_
 obtain ⟨x5,hx5,h⟩:=bnd h
 refine vk (Ad (DZ (Cp Tryz.call183 (fun _ _ h=>orc_array_typed _ _ h)) hx5) Tryz.call174) ?_;refine vk ((GD (NX x5) (LP [x5]) Ob).deep) ?_;refine vk (vbd Hr B2 Cb) ?_
 refine stn ?_ Ay (by decide)
 refine rk [2] ?_;refine .ret ?_
 cases h
 exact ⟨_,⟨.inr rfl,AP,Ay,(by decide:(0:Nat)<6)⟩,rfl⟩
def EI : Nat→Itm→Option (Itm)
 | 0,_=>none
 | k+1,a0=>GI (EI k) a0
theorem IT : ∀ (k : Nat) (a0 : Itm) (r : Itm),EI k a0=some r→Fn Tryz.prog 183 [.ag [.i .u8 a0.kind,.b a0.num.1,.sl (L a0.num.2.1),.sl (L a0.num.2.2),.i .i32 a0.char,.sl (Ars a0.box)]] (.d (.ag [.i .u8 r.kind,.b r.num.1,.sl (L r.num.2.1),.sl (L r.num.2.2),.i .i32 r.char,.sl (Ars r.box)]))
 | 0,_,_,h=>by cases h
 | k+1,a0,_,h=>Ox (IT k) (show GI (EI k) a0=some _ from h)
def L6 (a0 : Itm) : Option (Itm):=EI (a0.size+1) a0
theorem PK {a0 : Itm} {r : Itm} (h : L6 a0=some r) : Fn Tryz.prog 183 [.ag [.i .u8 a0.kind,.b a0.num.1,.sl (L a0.num.2.1),.sl (L a0.num.2.2),.i .i32 a0.char,.sl (Ars a0.box)]] (.d (.ag [.i .u8 r.kind,.b r.num.1,.sl (L r.num.2.1),.sl (L r.num.2.2),.i .i32 r.char,.sl (Ars r.box)])):=IT _ a0 r h
def A5 (a0 : (List Int)) (a1 : (List Int)) (K0 : Bool→Option (Bool)) : Nat→Bool→Int→Option (Bool)
 | 0,_,_=>none
 | k+1,s2,s3=>(if s3<((List.length a0:Nat):Int) then ((rd? a0 s3).bind fun x4=>((rd? a1 s3).bind fun x5=>(if x4=x5 then (A5 a0 a1 K0 k s2 (w64 (s3+1))) else (some (false))))) else (K0 s2))
def Bu (a0 : (List Int)) (a1 : (List Int)) : Option (Bool):=(if ((List.length a0 : Nat) : Int)=((List.length a1 : Nat) : Int) then (jn (fun (z1 : Bool)=>(some (true))) fun K0=>(A5 a0 a1 K0 BC false 0)) else (some (false)))
theorem Ed {a0 : (List Int)} {a1 : (List Int)} {r : Bool} (h : Bu a0 a1=some r) :
  Fn Tryz.prog 109 [.sl (Is a0),.sl (Is a1)] (.d (.b r)):=by
 unfold Bu at h
 refine Fn.o1 4 26 Tryz.func109 ?_;refine .sr ?_;refine ar [0,1,4] ?_;refine .seq ?_;refine .sr ?_;refine vk (Aa) ?_;refine vk (Bz (Bh _) (E5 _) E7) ?_;refine vk (Aa) ?_;refine vk (Bz (Bh _) (E5 _) E7) ?_;refine vk (vbi) ?_;refine rk [0,1,4,10] ?_
 by_cases hc:((List.length a0:Nat):Int)=((List.length a1:Nat):Int)
 ·replace h:=Aj hc h
  refine cnf (ntf (dT hc)) ?_;refine .skip ?_
  show AW _ _ _ _ _ _
  refine .seq ?_;refine .sr ?_;refine vk (Aa) ?_;refine vk (Bz (Bh _) (E5 _) E7) ?_;refine vk (Aa) ?_;refine rk [0,1,4,12,13] ?_
  obtain ⟨K0,hK0,h⟩:=CX h
  refine AW.mr (σ:=Bool) (fun p=>K0 p=some r) (fun p=>[(4,.d (.b p))]) (fun p=>[]) ?_ ?_
  ·skip
   refine .block ?_
   refine .loop (.gk [0,1,4,12,13] ?_)
   refine AL.ind (σ:=Nat × Bool × Int) (m:=fun p=>p.1) (e:=fun p=>[(0,.d (.sl (Is a0))),(1,.d (.sl (Is a1))),(4,.d (.b p.2.1)),(12,.d (.i .i64 ((List.length a0:Nat):Int))),(13,.d (.i .i64 p.2.2))]) (h:=fun p=>[]) (I:=fun p=>A5 a0 a1 K0 p.1 p.2.1 p.2.2=some r) ?_ (BC,false,0) h
   rintro ⟨k,s2,s3⟩ h ih
   dsimp only at h ih ⊢
   rcases k with _ | k
   ·rw [A5] at h;cases h
   rw [A5] at h
   refine .sr ?_;refine vk (vbi) ?_;refine rk [0,1,4,12,13,14] ?_;refine .seq ?_
   by_cases hc:s3<((List.length a0:Nat):Int)
   ·replace h:=Aj hc h
    refine cnt (dT hc) ?_;refine .skip ?_
    show AW _ _ _ _ _ _
    refine .seq ?_;refine .block ?_;refine .sr ?_;refine vk (Aa) ?_;refine ar [0,1,4,5,12,13] ?_;refine .seq ?_;refine .drawn 9 Ba (by kernel_rfl) ?_;refine dv (Aa) ?_;refine dv (Aa) ?_
    obtain ⟨x4,hx4,h⟩:=bnd h
    obtain ⟨nx4,hnx4,hxx4⟩:=AS hx4
    refine dv (vix nx4 hnx4 (Jw hxx4) rfl GN) ?_;refine dv (An CK) ?_;refine dv (Aa) ?_;refine dv (Aa) ?_
    obtain ⟨x5,hx5,h⟩:=bnd h
    obtain ⟨nx5,hnx5,hxx5⟩:=AS hx5
    refine dv (vix nx5 hnx5 (Jw hxx5) rfl GN) ?_;refine dv (An CK) ?_;refine dv (vbi) ?_;refine dz ?_;refine rk [0,1,4,12,13,24] ?_
    by_cases hc:x4=x5
    ·replace h:=Aj hc h
     refine cnf (ntf (dT hc)) ?_;refine .skip ?_
     show AW _ _ _ _ _ _
     refine .region ?_;refine vk (vbi) ?_;refine vk (Aa) ?_;refine .nil ?_;refine AL.gk [0,1,4,12,13] ?_
     exact ih (k,s2,(w64 (s3+1))) h (Nat.lt_succ_self _)
    replace h:=Ai hc h
    refine cnt (ntt (dF hc)) ?_;refine .sr ?_;refine ar [0,1,4,12,13] ?_;refine .ret ?_
    cases h
    exact ⟨rfl,rfl⟩
   replace h:=Ai hc h
   refine cnf (dF hc) ?_;refine .gk [4] ?_;refine .exit ?_
   exact jr (s2) h
  rintro z1 h
  try dsimp only at h ⊢
  subst hK0
  show AW _ _ _ _ _ _
  refine .sr ?_;refine ar [4] ?_;refine .ret ?_
  cases h
  exact ⟨rfl,rfl⟩
 replace h:=Ai hc h
 refine cnt (ntt (dF hc)) ?_;refine .sr ?_;refine ar [0,1,4] ?_;refine .ret ?_
 cases h
 exact ⟨rfl,rfl⟩
def Av (a0 : (List Itm)) (a1 : (List Itm)) (a2 : CU) (K0 : Bool→Option (Bool)) : Nat→Bool→Int→Option (Bool)
 | 0,_,_=>none
 | k+1,s2,s3=>(if s3<((List.length a0:Nat):Int) then ((rd? a0 s3).bind fun x4=>((rd? a1 s3).bind fun x5=>((a2.g (x4,x5)).bind fun x6=>(if x6=true then (Av a0 a1 a2 K0 k s2 (w64 (s3+1))) else (some (false)))))) else (K0 s2))
def AJ (a0 : (List Itm)) (a1 : (List Itm)) (a2 : CU) : Option (Bool):=(if ((List.length a0 : Nat) : Int)=((List.length a1 : Nat) : Int) then (jn (fun (z1 : Bool)=>(some (true))) fun K0=>(Av a0 a1 a2 K0 BC false 0)) else (some (false)))
theorem B0 {a0 : (List Itm)} {a1 : (List Itm)} {a2 : CU} (oa2 : Ki a2) {r : Bool} (h : AJ a0 a1 a2=some r) :
  Fn Tryz.prog 110 [.sl (Its a0),.sl (Its a1),a2.dv] (.d (.b r)):=by
 unfold AJ at h
 refine Fn.o1 6 32 Tryz.func110 ?_;refine .sr ?_;refine ar [0,1,2,6] ?_;refine .seq ?_;refine .sr ?_;refine vk (Aa) ?_;refine vk (Bz (AN _) (Dr _) Dl) ?_;refine vk (Aa) ?_;refine vk (Bz (AN _) (Dr _) Dl) ?_;refine vk (vbi) ?_;refine rk [0,1,2,6,14] ?_
 by_cases hc:((List.length a0:Nat):Int)=((List.length a1:Nat):Int)
 ·replace h:=Aj hc h
  refine cnf (ntf (dT hc)) ?_;refine .skip ?_
  show AW _ _ _ _ _ _
  refine .seq ?_;refine .sr ?_;refine vk (Aa) ?_;refine vk (Bz (AN _) (Dr _) Dl) ?_;refine vk (Aa) ?_;refine rk [1,2,6,15,16,17] ?_
  obtain ⟨K0,hK0,h⟩:=CX h
  refine AW.mr (σ:=Bool) (fun p=>K0 p=some r) (fun p=>[(6,.d (.b p))]) (fun p=>[]) ?_ ?_
  ·skip
   refine .block ?_
   refine .loop (.gk [1,2,6,15,16,17] ?_)
   refine AL.ind (σ:=Nat × Bool × Int) (m:=fun p=>p.1) (e:=fun p=>[(1,.d (.sl (Its a1))),(2,.d (a2.dv)),(6,.d (.b p.2.1)),(15,.d (.sl (Its a0))),(16,.d (.i .i64 ((List.length a0:Nat):Int))),(17,.d (.i .i64 p.2.2))]) (h:=fun p=>[]) (I:=fun p=>Av a0 a1 a2 K0 p.1 p.2.1 p.2.2=some r) ?_ (BC,false,0) h
   rintro ⟨k,s2,s3⟩ h ih
   dsimp only at h ih ⊢
   rcases k with _ | k
   ·rw [Av] at h;cases h
   rw [Av] at h
   refine .sr ?_;refine vk (vbi) ?_;refine rk [1,2,6,15,16,17,18] ?_;refine .seq ?_
   by_cases hc:s3<((List.length a0:Nat):Int)
   ·replace h:=Aj hc h
    refine cnt (dT hc) ?_;refine .skip ?_
    show AW _ _ _ _ _ _
    refine .seq ?_;refine .block ?_;refine .sr ?_;refine vk (Aa) ?_
    obtain ⟨x4,hx4,h⟩:=bnd h
    obtain ⟨nx4,hnx4,hxx4⟩:=AS hx4
    refine vk (vix nx4 hnx4 (Ec hxx4) rfl DO) ?_;refine vk (Ap AP Ay) ?_;refine vk (van (Ah B2) Cb) ?_;refine asd ?_
    refine stn ?_ Ay (by decide)
    refine rk [1,2,6,7,8,15,16,17] ?_;refine .sr ?_;refine vk (Aa) ?_;refine vk (Aa) ?_
    obtain ⟨x5,hx5,h⟩:=bnd h
    obtain ⟨nx5,hnx5,hxx5⟩:=AS hx5
    refine vk (vix nx5 hnx5 (Ec hxx5) rfl DO) ?_;refine vk (Ap AP Ay) ?_;refine vk (van (Ah B2) Cb) ?_
    refine stn ?_ Ay (by decide)
    refine rk [1,2,6,8,9,15,16,17] ?_;refine .sr ?_;refine vk (Aa) ?_;refine vk (C8 AP Ay) ?_;refine vk (C8 AP Ay) ?_
    obtain ⟨x6,hx6,h⟩:=bnd h
    refine vk (MQ (oa2 _ _ hx6)) ?_;refine vk (vnt) ?_;refine rk [1,2,6,15,16,17,30] ?_
    by_cases hc:x6=true
    ·replace h:=Aj hc h
     refine cnf (ntf hc) ?_;refine .skip ?_
     show AW _ _ _ _ _ _
     refine .region ?_;refine vk (vbi) ?_;refine vk (Aa) ?_;refine .nil ?_;refine AL.gk [1,2,6,15,16,17] ?_
     exact ih (k,s2,(w64 (s3+1))) h (Nat.lt_succ_self _)
    replace h:=Ai hc h
    refine cnt (ntt (bf hc)) ?_;refine .sr ?_;refine ar [1,2,6,15,16,17] ?_;refine .ret ?_
    cases h
    exact ⟨rfl,rfl⟩
   replace h:=Ai hc h
   refine cnf (dF hc) ?_;refine .gk [6] ?_;refine .exit ?_
   exact jr (s2) h
  rintro z1 h
  try dsimp only at h ⊢
  subst hK0
  show AW _ _ _ _ _ _
  refine .sr ?_;refine ar [6] ?_;refine .ret ?_
  cases h
  exact ⟨rfl,rfl⟩
 replace h:=Ai hc h
 refine cnt (ntt (dF hc)) ?_;refine .sr ?_;refine ar [0,1,2,6] ?_;refine .ret ?_
 cases h
 exact ⟨rfl,rfl⟩
def Ar (a0 : (List Arr)) (a1 : (List Arr)) (a2 : CW) (K0 : Bool→Option (Bool)) : Nat→Bool→Int→Option (Bool)
 | 0,_,_=>none
 | k+1,s2,s3=>(if s3<((List.length a0:Nat):Int) then ((rd? a0 s3).bind fun x4=>((rd? a1 s3).bind fun x5=>((a2.g (x4,x5)).bind fun x6=>(if x6=true then (Ar a0 a1 a2 K0 k s2 (w64 (s3+1))) else (some (false)))))) else (K0 s2))
def AE (a0 : (List Arr)) (a1 : (List Arr)) (a2 : CW) : Option (Bool):=(if ((List.length a0 : Nat) : Int)=((List.length a1 : Nat) : Int) then (jn (fun (z1 : Bool)=>(some (true))) fun K0=>(Ar a0 a1 a2 K0 BC false 0)) else (some (false)))
theorem BK {a0 : (List Arr)} {a1 : (List Arr)} {a2 : CW} (oa2 : Ka a2) {r : Bool} (h : AE a0 a1 a2=some r) :
  Fn Tryz.prog 113 [.sl (Ars a0),.sl (Ars a1),a2.dv] (.d (.b r)):=by
 unfold AE at h
 refine Fn.o1 6 32 Tryz.func113 ?_;refine .sr ?_;refine ar [0,1,2,6] ?_;refine .seq ?_;refine .sr ?_;refine vk (Aa) ?_;refine vk (Bz (B6 _) (FJ _) FF) ?_;refine vk (Aa) ?_;refine vk (Bz (B6 _) (FJ _) FF) ?_;refine vk (vbi) ?_;refine rk [0,1,2,6,14] ?_
 by_cases hc:((List.length a0:Nat):Int)=((List.length a1:Nat):Int)
 ·replace h:=Aj hc h
  refine cnf (ntf (dT hc)) ?_;refine .skip ?_
  show AW _ _ _ _ _ _
  refine .seq ?_;refine .sr ?_;refine vk (Aa) ?_;refine vk (Bz (B6 _) (FJ _) FF) ?_;refine vk (Aa) ?_;refine rk [1,2,6,15,16,17] ?_
  obtain ⟨K0,hK0,h⟩:=CX h
  refine AW.mr (σ:=Bool) (fun p=>K0 p=some r) (fun p=>[(6,.d (.b p))]) (fun p=>[]) ?_ ?_
  ·skip
   refine .block ?_
   refine .loop (.gk [1,2,6,15,16,17] ?_)
   refine AL.ind (σ:=Nat × Bool × Int) (m:=fun p=>p.1) (e:=fun p=>[(1,.d (.sl (Ars a1))),(2,.d (a2.dv)),(6,.d (.b p.2.1)),(15,.d (.sl (Ars a0))),(16,.d (.i .i64 ((List.length a0:Nat):Int))),(17,.d (.i .i64 p.2.2))]) (h:=fun p=>[]) (I:=fun p=>Ar a0 a1 a2 K0 p.1 p.2.1 p.2.2=some r) ?_ (BC,false,0) h
   rintro ⟨k,s2,s3⟩ h ih
   dsimp only at h ih ⊢
   rcases k with _ | k
   ·rw [Ar] at h;cases h
   rw [Ar] at h
   refine .sr ?_;refine vk (vbi) ?_;refine rk [1,2,6,15,16,17,18] ?_;refine .seq ?_
   by_cases hc:s3<((List.length a0:Nat):Int)
   ·replace h:=Aj hc h
    refine cnt (dT hc) ?_;refine .skip ?_
    show AW _ _ _ _ _ _
    refine .seq ?_;refine .block ?_;refine .sr ?_;refine vk (Aa) ?_
    obtain ⟨x4,hx4,h⟩:=bnd h
    obtain ⟨nx4,hnx4,hxx4⟩:=AS hx4
    refine vk (vix nx4 hnx4 (F6 hxx4) rfl F5) ?_;refine vk (Ap As Ag) ?_;refine vk (van (Ah AU) A7) ?_;refine asd ?_
    refine stn ?_ Ag (by decide)
    refine rk [1,2,6,7,8,15,16,17] ?_;refine .sr ?_;refine vk (Aa) ?_;refine vk (Aa) ?_
    obtain ⟨x5,hx5,h⟩:=bnd h
    obtain ⟨nx5,hnx5,hxx5⟩:=AS hx5
    refine vk (vix nx5 hnx5 (F6 hxx5) rfl F5) ?_;refine vk (Ap As Ag) ?_;refine vk (van (Ah AU) A7) ?_
    refine stn ?_ Ag (by decide)
    refine rk [1,2,6,8,9,15,16,17] ?_;refine .sr ?_;refine vk (Aa) ?_;refine vk (C8 As Ag) ?_;refine vk (C8 As Ag) ?_
    obtain ⟨x6,hx6,h⟩:=bnd h
    refine vk (MQ (oa2 _ _ hx6)) ?_;refine vk (vnt) ?_;refine rk [1,2,6,15,16,17,30] ?_
    by_cases hc:x6=true
    ·replace h:=Aj hc h
     refine cnf (ntf hc) ?_;refine .skip ?_
     show AW _ _ _ _ _ _
     refine .region ?_;refine vk (vbi) ?_;refine vk (Aa) ?_;refine .nil ?_;refine AL.gk [1,2,6,15,16,17] ?_
     exact ih (k,s2,(w64 (s3+1))) h (Nat.lt_succ_self _)
    replace h:=Ai hc h
    refine cnt (ntt (bf hc)) ?_;refine .sr ?_;refine ar [1,2,6,15,16,17] ?_;refine .ret ?_
    cases h
    exact ⟨rfl,rfl⟩
   replace h:=Ai hc h
   refine cnf (dF hc) ?_;refine .gk [6] ?_;refine .exit ?_
   exact jr (s2) h
  rintro z1 h
  try dsimp only at h ⊢
  subst hK0
  show AW _ _ _ _ _ _
  refine .sr ?_;refine ar [6] ?_;refine .ret ?_
  cases h
  exact ⟨rfl,rfl⟩
 replace h:=Ai hc h
 refine cnt (ntt (dF hc)) ?_;refine .sr ?_;refine ar [0,1,2,6] ?_;refine .ret ?_
 cases h
 exact ⟨rfl,rfl⟩
def JY (rc_array_equal : Arr→Arr→Option (Bool)) (a0 : Itm) (a1 : Itm) : Option (Bool):=(if a0.kind=a1.kind then (Option.bind ((if a0.char=a1.char then (if (a0.num.1 == a1.num.1)=true then ((Iw a0.num.2.1 a1.num.2.1).bind fun x2=>(if x2=true then ((Iw a0.num.2.2 a1.num.2.2).bind fun x3=>(if x3=true then ((AE a0.box a1.box (⟨.fn 37 [] [],fun x=>rc_array_equal x.1 x.2⟩ : CW)).bind fun x4=>(some x4)) else (some false))) else (some false))) else (some false)) else (some false)) : Option (Bool)) fun (z1 : Bool)=>(some (z1))) else (some (false)))
theorem N6 {rc_array_equal : Arr→Arr→Option (Bool)} (orc_array_equal : ∀ x0 x1 r,rc_array_equal x0 x1=some r→Fn Tryz.prog 37 [.ag [.sl (Is x0.shape),.sl (Its x0.items)],.ag [.sl (Is x1.shape),.sl (Its x1.items)]] (.d (.b r))) {a0 : Itm} {a1 : Itm} {r : Bool} (h : JY rc_array_equal a0 a1=some r) :
  Fn Tryz.prog 111 [.ag [.i .u8 a0.kind,.b a0.num.1,.sl (L a0.num.2.1),.sl (L a0.num.2.2),.i .i32 a0.char,.sl (Ars a0.box)],.ag [.i .u8 a1.kind,.b a1.num.1,.sl (L a1.num.2.1),.sl (L a1.num.2.2),.i .i32 a1.char,.sl (Ars a1.box)]] (.d (.b r)):=by
 unfold JY at h
 refine Fn.o1 4 50 Tryz.func111 ?_;refine .sr ?_;refine vk (vbx) ?_;refine vk (vbx) ?_;refine ar [2,3,4] ?_;refine .seq ?_;refine .sr ?_;refine vk (vfa Cd) ?_;refine vk (An Be) ?_;refine rk [2,3,4,6] ?_;refine .block ?_;refine .sr ?_;refine vk (vfa Cd) ?_;refine vk (An Be) ?_;refine vk (vbi) ?_;refine ar [2,3,4,7] ?_
 by_cases hc:a0.kind=a1.kind
 ·replace h:=Aj hc h
  refine cnt (dT hc) ?_;refine .seq ?_
  obtain ⟨z1,hz,h⟩:=bnd h
  refine AW.mr (σ:=Unit) (fun _=>True) (fun _=>[(4,.d (.b z1))]) (fun _=>[]) ?_ ?_
  ·skip
   refine .region ?_;refine vk (vfa DT) ?_;refine vk (An CP) ?_;refine vk (vfa DT) ?_;refine vk (An CP) ?_;refine vk (vbi) ?_
   by_cases hc:a0.char=a1.char
   ·replace hz:=Aj hc hz
    have hb0:(decide (a0.char=a1.char))=true:=(dT hc)
    refine vk (VOK.lit (Aa) hb0) ?_;refine vk (vfa Cc) ?_;refine vk (vfa CY) ?_;refine vk (An BF) ?_;refine vk (vfa Cc) ?_;refine vk (vfa CY) ?_;refine vk (An BF) ?_;refine vk (XW (.inl rfl) bo) ?_;refine vk (Am) ?_
    by_cases hc:(a0.num.1 == a1.num.1)=true
    ·replace hz:=Aj hc hz
     have hb1:(a0.num.1 == a1.num.1)=true:=hc
     refine vk (VOK.lit (Aa) hb1) ?_;refine vk (vfa Cc) ?_;refine vk (vfa BY) ?_;refine vk (An C7) ?_;refine vk (vfa Cc) ?_;refine vk (vfa BY) ?_;refine vk (An C7) ?_
     obtain ⟨x2,hx2,hz⟩:=bnd hz
     refine vk (Ad (Hk hx2) Tryz.call112) ?_;refine vk (Am) ?_
     by_cases hc:x2=true
     ·replace hz:=Aj hc hz
      have hb2:x2=true:=hc
      refine vk (VOK.lit (Aa) hb2) ?_;refine vk (vfa Cc) ?_;refine vk (vfa FE) ?_;refine vk (An C7) ?_;refine vk (vfa Cc) ?_;refine vk (vfa FE) ?_;refine vk (An C7) ?_
      obtain ⟨x3,hx3,hz⟩:=bnd hz
      refine vk (Ad (Hk hx3) Tryz.call112) ?_;refine vk (Am) ?_
      by_cases hc:x3=true
      ·replace hz:=Aj hc hz
       have hb3:x3=true:=hc
       refine vk (VOK.lit (Aa) hb3) ?_;refine vk (vfa BE) ?_;refine vk (An Dt) ?_;refine vk (vfa BE) ?_;refine vk (An Dt) ?_
       obtain ⟨x4,hx4,hz⟩:=bnd hz
       refine vk (Ad (BK (Cp Tryz.call37 (fun _ _ h=>orc_array_equal _ _ _ h)) hx4) Tryz.call113) ?_;refine vk (Am) ?_;refine asd ?_;refine RL.gk [4] ?_;refine .nil ?_
       cases hz
       exact jr () trivial
      replace hz:=Ai hc hz
      have hb3:x3=false:=(bf hc)
      refine vk (VOK.lit (Aa) hb3) ?_;refine gf ?_;refine gf ?_;refine gf ?_;refine gf ?_;refine gf ?_;refine vk (Am) ?_;refine asd ?_;refine RL.gk [4] ?_;refine .nil ?_
      cases hz
      exact jr () trivial
     replace hz:=Ai hc hz
     have hb2:x2=false:=(bf hc)
     refine vk (VOK.lit (Aa) hb2) ?_;refine gf ?_;refine gf ?_;refine gf ?_;refine gf ?_;refine gf ?_;refine gf ?_;refine gf ?_;refine vk (Am) ?_;refine vk (Aa) ?_;refine gf ?_;refine gf ?_;refine gf ?_;refine gf ?_;refine gf ?_;refine vk (Am) ?_;refine asd ?_;refine RL.gk [4] ?_;refine .nil ?_
     cases hz
     exact jr () trivial
    replace hz:=Ai hc hz
    have hb1:(a0.num.1 == a1.num.1)=false:=(bf hc)
    refine vk (VOK.lit (Aa) hb1) ?_;refine gf ?_;refine gf ?_;refine gf ?_;refine gf ?_;refine gf ?_;refine gf ?_;refine gf ?_;refine vk (Am) ?_;refine vk (Aa) ?_;refine gf ?_;refine gf ?_;refine gf ?_;refine gf ?_;refine gf ?_;refine gf ?_;refine gf ?_;refine vk (Am) ?_;refine vk (Aa) ?_;refine gf ?_;refine gf ?_;refine gf ?_;refine gf ?_;refine gf ?_;refine vk (Am) ?_;refine asd ?_;refine RL.gk [4] ?_;refine .nil ?_
    cases hz
    exact jr () trivial
   replace hz:=Ai hc hz
   have hb0:(decide (a0.char=a1.char))=false:=(dF hc)
   refine vk (VOK.lit (Aa) hb0) ?_;refine gf ?_;refine gf ?_;refine gf ?_;refine gf ?_;refine gf ?_;refine gf ?_;refine gf ?_;refine vk (Am) ?_;refine vk (Aa) ?_;refine gf ?_;refine gf ?_;refine gf ?_;refine gf ?_;refine gf ?_;refine gf ?_;refine gf ?_;refine vk (Am) ?_;refine vk (Aa) ?_;refine gf ?_;refine gf ?_;refine gf ?_;refine gf ?_;refine gf ?_;refine gf ?_;refine gf ?_;refine vk (Am) ?_;refine vk (Aa) ?_;refine gf ?_;refine gf ?_;refine gf ?_;refine gf ?_;refine gf ?_;refine vk (Am) ?_;refine asd ?_;refine RL.gk [4] ?_;refine .nil ?_
   cases hz
   exact jr () trivial
  rintro _ _
  refine .ret ?_
  cases h
  exact ⟨rfl,rfl⟩
 replace h:=Ai hc h
 refine cnf (dF hc) ?_;refine .skip ?_
 show AW _ _ _ _ _ _
 refine .sr ?_;refine ar [4] ?_;refine .ret ?_
 cases h
 exact ⟨rfl,rfl⟩
def Io (rc_array_equal : Arr→Arr→Option (Bool)) (a0 : Arr) (a1 : Arr) : Option (Bool):=((Bu a0.shape a1.shape).bind fun x1=>(Option.bind ((if x1=true then ((AJ a0.items a1.items (⟨.fn 111 [] [],fun x=>JY rc_array_equal x.1 x.2⟩ : CU)).bind fun x3=>(some x3)) else (some false)) : Option (Bool)) fun (z1 : Bool)=>(some (z1))))
theorem Oq {rc_array_equal : Arr→Arr→Option (Bool)} (orc_array_equal : ∀ x0 x1 r,rc_array_equal x0 x1=some r→Fn Tryz.prog 37 [.ag [.sl (Is x0.shape),.sl (Its x0.items)],.ag [.sl (Is x1.shape),.sl (Its x1.items)]] (.d (.b r))) {a0 : Arr} {a1 : Arr} {r : Bool} (h : Io rc_array_equal a0 a1=some r) :
  Fn Tryz.prog 37 [.ag [.sl (Is a0.shape),.sl (Its a0.items)],.ag [.sl (Is a1.shape),.sl (Its a1.items)]] (.d (.b r)):=by
 unfold Io at h
 refine Fn.o1 4 17 Tryz.func37 ?_;refine .sr ?_;refine vk (vbx) ?_;refine vk (vbx) ?_;refine ar [2,3,4] ?_;refine .seq ?_
 obtain ⟨x1,hx1,h⟩:=bnd h
 obtain ⟨z1,hz,h⟩:=bnd h
 refine AW.mr (σ:=Unit) (fun _=>True) (fun _=>[(4,.d (.b z1))]) (fun _=>[]) ?_ ?_
 ·skip
  refine .region ?_;refine vk (vfa Bc) ?_;refine vk (An C3) ?_;refine vk (vfa Bc) ?_;refine vk (An C3) ?_;refine vk (Ad (Ed hx1) Tryz.call109) ?_
  by_cases hc:x1=true
  ·replace hz:=Aj hc hz
   have hb0:x1=true:=hc
   refine vk (VOK.lit (Aa) hb0) ?_;refine vk (vfa A6) ?_;refine vk (An CC) ?_;refine vk (vfa A6) ?_;refine vk (An CC) ?_
   obtain ⟨x3,hx3,hz⟩:=bnd hz
   refine vk (Ad (B0 (Cp Tryz.call111 (fun _ _ h=>N6 orc_array_equal h)) hx3) Tryz.call110) ?_;refine vk (Am) ?_;refine asd ?_;refine RL.gk [4] ?_;refine .nil ?_
   cases hz
   exact jr () trivial
  replace hz:=Ai hc hz
  have hb0:x1=false:=(bf hc)
  refine vk (VOK.lit (Aa) hb0) ?_;refine gf ?_;refine gf ?_;refine gf ?_;refine gf ?_;refine gf ?_;refine vk (Am) ?_;refine asd ?_;refine RL.gk [4] ?_;refine .nil ?_
  cases hz
  exact jr () trivial
 rintro _ _
 refine .ret ?_
 cases h
 exact ⟨rfl,rfl⟩
def GZ : Nat→Arr→Arr→Option (Bool)
 | 0,_,_=>none
 | k+1,a0,a1=>Io (GZ k) a0 a1
theorem IR : ∀ (k : Nat) (a0 : Arr) (a1 : Arr) (r : Bool),GZ k a0 a1=some r→Fn Tryz.prog 37 [.ag [.sl (Is a0.shape),.sl (Its a0.items)],.ag [.sl (Is a1.shape),.sl (Its a1.items)]] (.d (.b r))
 | 0,_,_,_,h=>by cases h
 | k+1,a0,a1,_,h=>Oq (IR k) (show Io (GZ k) a0 a1=some _ from h)
def PW (a0 : Arr) (a1 : Arr) : Option (Bool):=GZ (a0.size+1) a0 a1
theorem PM {a0 : Arr} {a1 : Arr} {r : Bool} (h : PW a0 a1=some r) : Fn Tryz.prog 37 [.ag [.sl (Is a0.shape),.sl (Its a0.items)],.ag [.sl (Is a1.shape),.sl (Its a1.items)]] (.d (.b r)):=IR _ a0 a1 r h
abbrev sg (b : Bool) (n : Nat) : Int:=if b=true then -(n : Int) else n
def ofQ (p : Rat) : RT:=(decide (p.num<0),Ae p.num.natAbs,Ae p.den)
def F4 (n : Nat) : Prop:=(Ae n).length≤32
instance (n : Nat) : Decidable (F4 n):=inferInstanceAs (Decidable (_≤_))
def CZ (p : Rat) : Prop:=F4 p.num.natAbs∧F4 p.den
instance (p : Rat) : Decidable (CZ p):=inferInstanceAs (Decidable (_∧_))
abbrev bad (e : Int) : RT × Int:=((false,[],[]),e)
def R8 (p : Rat) : RT × Int:=if CZ p then (ofQ p,0) else bad 8
theorem FB (b : Bool) (n : Nat) : (sg b n).natAbs=n:=by cases b <;> simp [sg]
theorem U6 (b : Bool) (n : Nat) : decide (sg b n<0)=(b && decide (n ≠ 0)):=by
 cases b with
 | false=>simp [sg]
 | true=>simp only [sg,if_true,Bool.true_and];apply decide_eq_decide.2;omega
abbrev q3 (p : Rat) : Q3:=(decide (p.num<0),p.num.natAbs,p.den)
def WG (p : Rat) : QE:=if CZ p then .ok (q3 p) else .error 8
theorem WV {b : Bool} {n d : Nat} (hd : d ≠ 0) : Na b n d=WG (mkRat (sg b n) d):=by
 have hg:Nat.gcd n d ≠ 0:=fun h=>hd (Nat.eq_zero_of_gcd_eq_zero_right h)
 have hnum:(mkRat (sg b n) d).num=sg b (n / Nat.gcd n d):=by
  rw [Rat.num_mkRat,if_neg hd,FB,Nat.gcd_comm]
  cases b with
  | false=>simp [sg]
  | true =>
   simp only [sg,if_true]
   rw [Int.neg_ediv_of_dvd (Int.natCast_dvd_natCast.2 (Nat.gcd_dvd_left n d))]
   simp
 have hden:(mkRat (sg b n) d).den=d / Nat.gcd n d:=by
  rw [Rat.den_mkRat,if_neg hd,FB,Nat.gcd_comm]
 have hd':32<(Ae (d / Nat.gcd n d)).length↔¬ F4 (d / Nat.gcd n d):=by simp only [F4];omega
 have hn':32<(Ae (n / Nat.gcd n d)).length↔¬ F4 (n / Nat.gcd n d):=by simp only [F4];omega
 have hf:CZ (mkRat (sg b n) d)↔F4 (n / Nat.gcd n d)∧F4 (d / Nat.gcd n d):=by
  simp only [CZ,hnum,hden,FB]
 unfold Na WG
 rw [if_neg hg]
 by_cases h:F4 (n / Nat.gcd n d)∧F4 (d / Nat.gcd n d)
 ·rw [if_neg (by rw [hn',hd'];intro h2;exact h2.elim (fun a=>a h.1) (fun a=>a h.2)),if_pos (hf.2 h)]
  simp only [q3,hnum,FB,hden,U6]
 ·rw [if_pos (by rw [hn',hd'];by_cases h1:F4 (n / Nat.gcd n d);exact .inr (fun h2=>h ⟨h1,h2⟩);exact .inl h1),if_neg (fun h2=>h (hf.1 h2))]
theorem Fy {r : RT} : AQ r=true↔∃ p,CZ p∧r=ofQ p:=by
 obtain ⟨b,n,d⟩:=r
 simp only [AQ,G5,decide_eq_true_eq]
 constructor
 ·rintro ⟨h1,h2,h3,h4,h5,h6,h7⟩
  have hd0:val d ≠ 0:=fun h=>h5 (by rw [← h2,h,AF])
  refine ⟨⟨sg b (val n),val d,hd0,by rw [Nat.Coprime,FB];exact h7⟩,⟨?_,?_⟩,?_⟩
  ·show F4 (sg b (val n)).natAbs
   rw [FB,F4,h1];exact h3
  ·show F4 (val d)
   rw [F4,h2];exact h4
  ·simp only [ofQ,FB,h1,h2]
   rw [U6]
   congr 1
   cases b with
   | false=>rfl
   | true =>
    have:n ≠ []:=fun h=>by have:=h6 h;cases this
    have hn0:val n ≠ 0:=fun h=>this (by rw [← h1,h,AF])
    simp [hn0]
 ·rintro ⟨p,⟨h1,h2⟩,h⟩
  simp only [ofQ,Prod.mk.injEq] at h
  obtain ⟨rfl,rfl,rfl⟩:=h
  refine ⟨by rw [AD],by rw [AD],h1,h2,?_,?_,?_⟩
  ·intro h
   have:=E9.1 h
   exact p.den_nz this
  ·intro h
   have:=E9.1 h
   exact dF (by omega)
  ·rw [AD,AD];exact p.reduced
theorem CO {p : Rat} (h : CZ p) : AQ (ofQ p)=true:=Fy.2 ⟨p,h,rfl⟩
theorem Fi {k n : Nat} (h : (Ae n).length≤k) : okL k (Ae n)=true:=B9.2 ⟨AK n,h⟩
theorem Nc {k n : Nat} (h : F4 n) (hk : 32≤k) : okL k (Ae n)=true:=Fi (Nat.le_trans h hk)
theorem Eh {p : Rat} (h : CZ p) : Gl (ofQ p)=true:=by
 simp only [Gl,Bool.and_eq_true]
 exact ⟨Nc h.1 (by decide),Nc h.2 (by decide)⟩
theorem J4 : CZ 0:=by
 have e0:Ae 0=[]:=AF
 have e1:Ae 1=[1]:=GG (n:=1) (by decide) (by decide)
 constructor
 ·show (Ae 0).length≤32;rw [e0];decide
 ·show (Ae 1).length≤32;rw [e1];decide
theorem O7 : Ae 1=[1]:=GG (n:=1) (by decide) (by decide)
theorem QS {p : Rat} (h : CZ p) : R8 p=(ofQ p,0):=if_pos h
theorem Zm {p : Rat} (h : ¬ CZ p) : R8 p=bad 8:=if_neg h
abbrev Hc (q : Q3) : Rat:=mkRat (sg q.1 q.2.1) q.2.2
theorem Sj {x y : Q3} (hx : x.2.2 ≠ 0) (hy : y.2.2 ≠ 0) : Hc (Fl x y)=Hc x+Hc y∧(Fl x y).2.2 ≠ 0:=by
 obtain ⟨b,n,d⟩:=x
 obtain ⟨c,m,e⟩:=y
 simp only at hx hy
 have hde:d * e ≠ 0:=Nat.mul_ne_zero hx hy
 rw [show Hc (b,n,d)+Hc (c,m,e)=mkRat (sg b n * e+sg c m * d) (d * e) from Rat.mkRat_add_mkRat _ _ hx hy]
 have key:∀ (q:Q3),q.2.2=d * e→sg q.1 q.2.1=sg b n * e+sg c m * d→Hc q=mkRat (sg b n * e+sg c m * d) (d * e)∧q.2.2 ≠ 0:=fun q h1 h2=>by
  rw [Hc,h1,h2];exact ⟨rfl,hde⟩
 unfold Fl
 simp only
 split
 ·rename_i h
  subst h
  refine key _ rfl ?_
  cases b <;> simp [sg]
  rw [Int.neg_add,Int.neg_mul,Int.neg_mul]
 ·rename_i h
  split
  ·rename_i h2
   refine key _ rfl ?_
   cases b <;> cases c <;> simp [sg] at h ⊢
   ·rw [Int.ofNat_sub h2];simp [Int.neg_mul];omega
   ·rw [Int.ofNat_sub h2];simp [Int.neg_mul];omega
  ·rename_i h2
   have h3:n * e≤m * d:=by omega
   refine key _ rfl ?_
   cases b <;> cases c <;> simp [sg] at h ⊢
   ·rw [Int.ofNat_sub h3];simp [Int.neg_mul];omega
   ·rw [Int.ofNat_sub h3];simp [Int.neg_mul];omega
theorem N3 {x y : Q3} (hx : x.2.2 ≠ 0) (hy : y.2.2 ≠ 0) : Hc (GW x y)=Hc x * Hc y∧(GW x y).2.2 ≠ 0:=by
 obtain ⟨b,n,d⟩:=x
 obtain ⟨c,m,e⟩:=y
 refine ⟨?_,Nat.mul_ne_zero hx hy⟩
 rw [show Hc (b,n,d) * Hc (c,m,e)=mkRat (sg b n * sg c m) (d * e) from Rat.mkRat_mul_mkRat _ _ _ _]
 have h:sg (b != c) (n * m)=sg b n * sg c m:=by cases b <;> cases c <;> simp [sg,Int.neg_mul,Int.mul_neg]
 simp only [GW,Hc,h]
theorem Mu (p : Rat) : Hc (decide (p.num<0),p.num.natAbs,p.den)=p:=by
 have:sg (decide (p.num<0)) p.num.natAbs=p.num:=by
  simp only [sg,decide_eq_true_eq]
  split <;> omega
 rw [Hc,this,Rat.mkRat_self]
theorem ZV (p : Rat) : rq (ofQ p)=(decide (p.num<0),p.num.natAbs,p.den):=by simp [rq,ofQ,AD]
def DN (a0 : RT) (a1 : RT) : Option (Int):=((Cw ([a0,a1])).bind fun x1=>(if x1=true then ((Fv a0).bind fun x2=>((Fv a1).bind fun x3=>(if ((!(decide (x2=x3))) && (decide (x2<x3)))=true then (some ((-1))) else (if x2=x3 then ((EZ a0).bind fun x4=>((EZ a1).bind fun x5=>((Ca x4.1 x5.1).bind fun x6=>((EZ a1).bind fun x7=>((EZ a0).bind fun x8=>((Ca x7.1 x8.1).bind fun x9=>((Dh x6 x9).bind fun x10=>(some ((w64 (x2 * x10))))))))))) else (some (1)))))) else (some (0))))
theorem FH {a0 : RT} {a1 : RT} {r : Int} (h : DN a0 a1=some r) :
  Fn Tryz.prog 211 [.ag [.b a0.1,.sl (L a0.2.1),.sl (L a0.2.2)],.ag [.b a1.1,.sl (L a1.2.1),.sl (L a1.2.2)]] (.d (.i .i64 r)):=by
 unfold DN at h
 refine Fn.o1 4 46 Tryz.func211 ?_;refine .sr ?_;refine vk (vbx) ?_;refine vk (vbx) ?_;refine ar [2,3,4] ?_;refine .seq ?_;refine .sr ?_;refine vk (Ap Au Ak) ?_;refine vk (Ap Au Ak) ?_;refine vk ((Ev (Da [a0,a1]) Fb).deep) ?_
 obtain ⟨x1,hx1,h⟩:=bnd h
 refine vk (Ad (Ct hx1) Tryz.call167) ?_;refine vk (vnt) ?_;refine rk [2,3,4,11] ?_
 by_cases hc:x1=true
 ·replace h:=Aj hc h
  refine cnf (ntf hc) ?_;refine .skip ?_
  show AW _ _ _ _ _ _
  refine .seq ?_;refine .drawn 4 Ba (by kernel_rfl) ?_;refine dv (Ap Au Ak) ?_
  obtain ⟨x2,hx2,h⟩:=bnd h
  refine dv (Ad (FZ hx2) Tryz.call86) ?_;refine dv (Ap Au Ak) ?_
  obtain ⟨x3,hx3,h⟩:=bnd h
  refine dv (Ad (FZ hx3) Tryz.call86) ?_;refine dz ?_;refine asd ?_;refine ar [2,3,4,5,6] ?_;refine .seq ?_;refine .block ?_;refine .seq ?_;refine AW.mr (σ:=Unit) (fun _=>True) (fun _=>[(2,.d (.ptr [.b a0.1,.sl (L a0.2.1),.sl (L a0.2.2)])),(3,.d (.ptr [.b a1.1,.sl (L a1.2.1),.sl (L a1.2.2)])),(4,.d (.i .i64 0)),(5,.d (.i .i64 x2)),(6,.d (.i .i64 x3)),(16,.d (.b ((!(decide (x2=x3))) && (decide (x2<x3)))))]) (fun _=>[]) ?_ ?_
  ·skip
   refine .region ?_;refine vk (Aa) ?_;refine vk (Aa) ?_;refine vk (vbi) ?_
   by_cases hc:x2=x3
   ·have hb0:(!(decide (x2=x3)))=false:=(ntf (dT hc))
    refine vk (VOK.lit (Aa) hb0) ?_;refine gf ?_;refine gf ?_;refine gf ?_;refine vk (Am) ?_;refine asd ?_;refine RL.gk [2,3,4,5,6,16] ?_;refine .nil ?_
    exact jr () trivial (by simp only [hb0];rfl)
   have hb0:(!(decide (x2=x3)))=true:=(ntt (dF hc))
   refine vk (VOK.lit (Aa) hb0) ?_;refine vk (Aa) ?_;refine vk (Aa) ?_;refine vk (vbi) ?_;refine vk (Am) ?_;refine asd ?_;refine RL.gk [2,3,4,5,6,16] ?_;refine .nil ?_
   exact jr () trivial (by simp only [hb0];rfl)
  rintro _ _
  by_cases hc:((!(decide (x2=x3))) && (decide (x2<x3)))=true
  ·replace h:=Aj hc h
   refine cnt hc ?_;refine .sr ?_;refine ar [2,3,4,5] ?_;refine .ret ?_
   cases h
   exact ⟨rfl,rfl⟩
  replace h:=Ai hc h
  refine cnf (bf hc) ?_;refine .sr ?_;refine vk (Aa) ?_;refine vk (Aa) ?_;refine vk (vbi) ?_;refine ar [2,3,4,5,25] ?_
  by_cases hc:x2=x3
  ·replace h:=Aj hc h
   refine cnf (ntf (dT hc)) ?_;refine .skip ?_
   show AW _ _ _ _ _ _
   refine .seq ?_;refine .drawn 17 Ba (by kernel_rfl) ?_;refine dv (Aa) ?_;refine dv (Ap Au Ak) ?_
   obtain ⟨x4,hx4,h⟩:=bnd h
   refine dv (Ad (Cu hx4) Tryz.call168) ?_;refine dv (Py BU HP) ?_;refine dv (Ap Au Ak) ?_
   obtain ⟨x5,hx5,h⟩:=bnd h
   refine dv (Ad (Cu hx5) Tryz.call168) ?_;refine dv (Py BU HP) ?_
   obtain ⟨x6,hx6,h⟩:=bnd h
   refine dv (Ad (BH hx6) Tryz.call239) ?_;refine dv (Ap Au Ak) ?_
   obtain ⟨x7,hx7,h⟩:=bnd h
   refine dv (Ad (Cu hx7) Tryz.call168) ?_;refine dv (Py BU HP) ?_;refine dv (Ap Au Ak) ?_
   obtain ⟨x8,hx8,h⟩:=bnd h
   refine dv (Ad (Cu hx8) Tryz.call168) ?_;refine dv (Py BU HP) ?_
   obtain ⟨x9,hx9,h⟩:=bnd h
   refine dv (Ad (BH hx9) Tryz.call239) ?_
   obtain ⟨x10,hx10,h⟩:=bnd h
   refine dv (Ad (CN hx10) Tryz.call164) ?_;refine dv (vbi) ?_;refine dz ?_;refine ar [4] ?_;refine .ret ?_
   cases h
   exact ⟨rfl,rfl⟩
  replace h:=Ai hc h
  refine cnt (ntt (dF hc)) ?_;refine .sr ?_;refine ar [2,3,4,5] ?_;refine .ret ?_
  cases h
  exact ⟨rfl,rfl⟩
 replace h:=Ai hc h
 refine cnt (ntt (bf hc)) ?_;refine .sr ?_;refine ar [2,3,4] ?_;refine .ret ?_
 cases h
 exact ⟨rfl,rfl⟩
def ET (a0 : RT) (a1 : RT) (a2 : RT) : Option (Int):=((Cw ([a0,a1,a2])).bind fun x1=>(if x1=true then ((EZ a1).bind fun x2=>((EZ a2).bind fun x3=>((Lo x3).bind fun x4=>((Li x2 x4).bind fun x5=>((EZ a1).bind fun x6=>((EZ a2).bind fun x7=>((Ca x6.1 x7.1).bind fun x8=>((EZ a2).bind fun x9=>((Ca x9.1 x6.1).bind fun x10=>((Dh x8 x10).bind fun x11=>(if x11<0 then ((EZ a2).bind fun x12=>((EZ a0).bind fun x13=>((Hm x13 (x12.1,false)).bind fun x14=>(Option.bind ((if x14.2=true then (if 0<((List.length x14.1.1 : Nat) : Int) then (some true) else ((Ca x5.1 x14.1).bind fun x16=>((Ca x14.1 x5.1).bind fun x17=>((Dh x16 x17).bind fun x18=>(some (decide (0<x18))))))) else ((Ca x5.1 x14.1).bind fun x19=>((Ca x14.1 x5.1).bind fun x20=>((Dh x19 x20).bind fun x21=>(some (decide (0<x21))))))) : Option (Bool)) fun (z15 : Bool)=>(if z15=true then ((DN a1 a2).bind fun x22=>(some (x22))) else (some (0))))))) else ((EZ a0).bind fun x23=>((Hm x23 (x6.1,false)).bind fun x24=>(Option.bind ((if x24.2=true then (if 0<((List.length x24.1.1 : Nat) : Int) then (some true) else ((Ca x5.1 x24.1).bind fun x26=>((Ca x24.1 x5.1).bind fun x27=>((Dh x26 x27).bind fun x28=>(some (decide (0<x28))))))) else ((Ca x5.1 x24.1).bind fun x29=>((Ca x24.1 x5.1).bind fun x30=>((Dh x29 x30).bind fun x31=>(some (decide (0<x31))))))) : Option (Bool)) fun (z25 : Bool)=>(if z25=true then ((DN a1 a2).bind fun x32=>(some (x32))) else (some (0))))))))))))))))) else (some (0))))
set_option maxHeartbeats 4000000 in
theorem KX {a0 : RT} {a1 : RT} {a2 : RT} {r : Int} (h : ET a0 a1 a2=some r) :
  Fn Tryz.prog 213 [.ag [.b a0.1,.sl (L a0.2.1),.sl (L a0.2.2)],.ag [.b a1.1,.sl (L a1.2.1),.sl (L a1.2.2)],.ag [.b a2.1,.sl (L a2.2.1),.sl (L a2.2.2)]] (.d (.i .i64 r)):=by
 unfold ET at h
 refine Fn.o1 6 71 Tryz.func213 ?_;refine .sr ?_;refine vk (vbx) ?_;refine vk (vbx) ?_;refine vk (vbx) ?_;refine ar [3,4,5,6] ?_;refine .seq ?_;refine .sr ?_;refine vk (Ap Au Ak) ?_;refine vk (Ap Au Ak) ?_;refine vk (Ap Au Ak) ?_;refine vk ((Ev (Da [a0,a1,a2]) Fb).deep) ?_
 obtain ⟨x1,hx1,h⟩:=bnd h
 refine vk (Ad (Ct hx1) Tryz.call167) ?_;refine vk (vnt) ?_;refine rk [3,4,5,6,15] ?_
 by_cases hc:x1=true
 ·replace h:=Aj hc h
  refine cnf (ntf hc) ?_;refine .skip ?_
  show AW _ _ _ _ _ _
  refine .seq ?_;refine .drawn 7 Ba (by kernel_rfl) ?_;refine dv (Ap Au Ak) ?_
  obtain ⟨x2,hx2,h⟩:=bnd h
  refine dv (Ad (Cu hx2) Tryz.call168) ?_;refine dv (Ap Au Ak) ?_
  obtain ⟨x3,hx3,h⟩:=bnd h
  refine dv (Ad (Cu hx3) Tryz.call168) ?_
  obtain ⟨x4,hx4,h⟩:=bnd h
  refine dv (Ad (Mk hx4) Tryz.call205) ?_
  obtain ⟨x5,hx5,h⟩:=bnd h
  refine dv (Ad (Ma hx5) Tryz.call204) ?_;refine dv (van (Ah Pj) Pn) ?_;refine dz ?_
  refine stn ?_ XL (by decide)
  refine rk [3,4,5,6,7] ?_;refine .sr ?_;refine vk (Ap Au Ak) ?_
  obtain ⟨x6,hx6,h⟩:=bnd h
  refine vk (Ad (Cu hx6) Tryz.call168) ?_;refine vk (Py BU HP) ?_;refine vk (van (Ah Vx) VW) ?_
  refine stn ?_ F7 (by decide)
  refine rk [3,4,5,6,7,8] ?_;refine .seq ?_;refine .seq ?_;refine .drawn 12 Ba (by kernel_rfl) ?_;refine dv (C8 GS F7) ?_;refine dv (Ap Au Ak) ?_
  obtain ⟨x7,hx7,h⟩:=bnd h
  refine dv (Ad (Cu hx7) Tryz.call168) ?_;refine dv (Py BU HP) ?_
  obtain ⟨x8,hx8,h⟩:=bnd h
  refine dv (Ad (BH hx8) Tryz.call239) ?_;refine dv (Ap Au Ak) ?_
  obtain ⟨x9,hx9,h⟩:=bnd h
  refine dv (Ad (Cu hx9) Tryz.call168) ?_;refine dv (Py BU HP) ?_;refine dv (C8 GS F7) ?_
  obtain ⟨x10,hx10,h⟩:=bnd h
  refine dv (Ad (BH hx10) Tryz.call239) ?_
  obtain ⟨x11,hx11,h⟩:=bnd h
  refine dv (Ad (CN hx11) Tryz.call164) ?_;refine dv (vbi) ?_;refine dz ?_;refine rk [3,4,5,6,7,8,36] ?_
  by_cases hc:x11<0
  ·replace h:=Aj hc h
   refine cnt (dT hc) ?_;refine .region ?_;refine vk (Ap Au Ak) ?_
   obtain ⟨x12,hx12,h⟩:=bnd h
   refine vk (Ad (Cu hx12) Tryz.call168) ?_;refine vk (Py BU HP) ?_
   refine stn ?_ F7 (by decide)
   refine rk [3,4,5,6,7,8] ?_;refine .seq ?_;refine .drawn 6 Ba (by kernel_rfl) ?_;refine dv (Ap Au Ak) ?_
   obtain ⟨x13,hx13,h⟩:=bnd h
   refine dv (Ad (Cu hx13) Tryz.call168) ?_;refine dv (C8 GS F7) ?_;refine dv (vbd S8 Pj Pn) ?_
   obtain ⟨x14,hx14,h⟩:=bnd h
   refine dv (Ad (HS hx14) Tryz.call169) ?_;refine dv (van (Ah Pj) Pn) ?_;refine dz ?_
   refine stn ?_ XL (by decide)
   refine rk [4,5,6,7,9] ?_;refine .seq ?_;refine .seq ?_;refine .gh (Gh.nbp (t:=9) rfl) ?_;refine .gh (Gh.nbp (t:=7) rfl) ?_
   obtain ⟨z15,hz,h⟩:=bnd h
   refine AW.mr (σ:=Unit) (fun _=>True) (fun _=>[(4,.d (.ptr [.b a1.1,.sl (L a1.2.1),.sl (L a1.2.2)])),(5,.d (.ptr [.b a2.1,.sl (L a2.2.1),.sl (L a2.2.2)])),(6,.d (.i .i64 0)),(67,.d (.b z15))]) (fun _=>[]) ?_ ?_
   ·skip
    refine .drawn 23 Ba (by kernel_rfl) ?_;refine dv (vfa TR) ?_;refine dv (An BF) ?_
    by_cases hc:x14.2=true
    ·replace hz:=Aj hc hz
     have hb0:x14.2=true:=hc
     refine dv (VOK.lit (Aa) hb0) ?_;refine dv (vfa BU) ?_;refine dv (vfa TK) ?_;refine dv (An C7) ?_;refine dv (Bz (Ab _) (Bo _) Jf) ?_;refine dv (vbi) ?_;refine dv (Am) ?_
     by_cases hc:0<((List.length x14.1.1:Nat):Int)
     ·replace hz:=Aj hc hz
      have hb1:(decide (0<((List.length x14.1.1:Nat):Int)))=true:=(dT hc)
      refine dv (VOK.lit (Aa) hb1) ?_;refine dgf ?_;refine dgf ?_;refine dgf ?_;refine dgf ?_;refine dgf ?_;refine dgf ?_;refine dgf ?_;refine dgf ?_;refine dgf ?_;refine dgf ?_;refine dgf ?_;refine dgf ?_;refine dv (Am) ?_;refine dz ?_;refine RL.gk [4,5,6,67] ?_;refine .nil ?_
      cases hz
      exact jr () trivial
     replace hz:=Ai hc hz
     have hb1:(decide (0<((List.length x14.1.1:Nat):Int)))=false:=(dF hc)
     refine dv (VOK.lit (Aa) hb1) ?_;refine dv (vfa BU) ?_;refine dv (Ap GS F7) ?_;refine dv (vfa BU) ?_;refine dv (Ap GS F7) ?_
     obtain ⟨x16,hx16,hz⟩:=bnd hz
     refine dv (Ad (BH hx16) Tryz.call239) ?_;refine dv (vfa BU) ?_;refine dv (Ap GS F7) ?_;refine dv (vfa BU) ?_;refine dv (Ap GS F7) ?_
     obtain ⟨x17,hx17,hz⟩:=bnd hz
     refine dv (Ad (BH hx17) Tryz.call239) ?_
     obtain ⟨x18,hx18,hz⟩:=bnd hz
     refine dv (Ad (CN hx18) Tryz.call164) ?_;refine dv (vbi) ?_;refine dv (Am) ?_;refine dz ?_;refine RL.gk [4,5,6,67] ?_;refine .nil ?_
     cases hz
     exact jr () trivial
    replace hz:=Ai hc hz
    have hb0:x14.2=false:=(bf hc)
    refine dv (VOK.lit (Aa) hb0) ?_;refine dgf ?_;refine dgf ?_;refine dgf ?_;refine dgf ?_;refine dgf ?_;refine dv (Am) ?_;refine dv (Aa) ?_;refine dv (vfa BU) ?_;refine dv (Ap GS F7) ?_;refine dv (vfa BU) ?_;refine dv (Ap GS F7) ?_
    obtain ⟨x19,hx19,hz⟩:=bnd hz
    refine dv (Ad (BH hx19) Tryz.call239) ?_;refine dv (vfa BU) ?_;refine dv (Ap GS F7) ?_;refine dv (vfa BU) ?_;refine dv (Ap GS F7) ?_
    obtain ⟨x20,hx20,hz⟩:=bnd hz
    refine dv (Ad (BH hx20) Tryz.call239) ?_
    obtain ⟨x21,hx21,hz⟩:=bnd hz
    refine dv (Ad (CN hx21) Tryz.call164) ?_;refine dv (vbi) ?_;refine dv (Am) ?_;refine dz ?_;refine RL.gk [4,5,6,67] ?_;refine .nil ?_
    cases hz
    exact jr () trivial
   rintro _ _
   by_cases hc:z15=true
   ·replace h:=Aj hc h
    refine cnt hc ?_;refine .sr ?_;refine vk (Ap Au Ak) ?_;refine vk (Ap Au Ak) ?_
    obtain ⟨x22,hx22,h⟩:=bnd h
    refine vk (Ad (FH hx22) Tryz.call211) ?_;refine ar [6] ?_;refine .ret ?_
    cases h
    exact ⟨rfl,rfl⟩
   replace h:=Ai hc h
   refine cnf (bf hc) ?_;refine .skip ?_
   show AW _ _ _ _ _ _
   refine .sr ?_;refine ar [6] ?_;refine .ret ?_
   cases h
   exact ⟨rfl,rfl⟩
  replace h:=Ai hc h
  refine cnf (dF hc) ?_;refine .skip ?_
  show AW _ _ _ _ _ _
  refine .seq ?_;refine .drawn 6 Ba (by kernel_rfl) ?_;refine dv (Ap Au Ak) ?_
  obtain ⟨x23,hx23,h⟩:=bnd h
  refine dv (Ad (Cu hx23) Tryz.call168) ?_;refine dv (C8 GS F7) ?_;refine dv (vbd S8 Pj Pn) ?_
  obtain ⟨x24,hx24,h⟩:=bnd h
  refine dv (Ad (HS hx24) Tryz.call169) ?_;refine dv (van (Ah Pj) Pn) ?_;refine dz ?_
  refine stn ?_ XL (by decide)
  refine rk [4,5,6,7,9] ?_;refine .seq ?_;refine .seq ?_;refine .gh (Gh.nbp (t:=9) rfl) ?_;refine .gh (Gh.nbp (t:=7) rfl) ?_
  obtain ⟨z25,hz,h⟩:=bnd h
  refine AW.mr (σ:=Unit) (fun _=>True) (fun _=>[(4,.d (.ptr [.b a1.1,.sl (L a1.2.1),.sl (L a1.2.2)])),(5,.d (.ptr [.b a2.1,.sl (L a2.2.1),.sl (L a2.2.2)])),(6,.d (.i .i64 0)),(67,.d (.b z25))]) (fun _=>[]) ?_ ?_
  ·skip
   refine .drawn 23 Ba (by kernel_rfl) ?_;refine dv (vfa TR) ?_;refine dv (An BF) ?_
   by_cases hc:x24.2=true
   ·replace hz:=Aj hc hz
    have hb0:x24.2=true:=hc
    refine dv (VOK.lit (Aa) hb0) ?_;refine dv (vfa BU) ?_;refine dv (vfa TK) ?_;refine dv (An C7) ?_;refine dv (Bz (Ab _) (Bo _) Jf) ?_;refine dv (vbi) ?_;refine dv (Am) ?_
    by_cases hc:0<((List.length x24.1.1:Nat):Int)
    ·replace hz:=Aj hc hz
     have hb1:(decide (0<((List.length x24.1.1:Nat):Int)))=true:=(dT hc)
     refine dv (VOK.lit (Aa) hb1) ?_;refine dgf ?_;refine dgf ?_;refine dgf ?_;refine dgf ?_;refine dgf ?_;refine dgf ?_;refine dgf ?_;refine dgf ?_;refine dgf ?_;refine dgf ?_;refine dgf ?_;refine dgf ?_;refine dv (Am) ?_;refine dz ?_;refine RL.gk [4,5,6,67] ?_;refine .nil ?_
     cases hz
     exact jr () trivial
    replace hz:=Ai hc hz
    have hb1:(decide (0<((List.length x24.1.1:Nat):Int)))=false:=(dF hc)
    refine dv (VOK.lit (Aa) hb1) ?_;refine dv (vfa BU) ?_;refine dv (Ap GS F7) ?_;refine dv (vfa BU) ?_;refine dv (Ap GS F7) ?_
    obtain ⟨x26,hx26,hz⟩:=bnd hz
    refine dv (Ad (BH hx26) Tryz.call239) ?_;refine dv (vfa BU) ?_;refine dv (Ap GS F7) ?_;refine dv (vfa BU) ?_;refine dv (Ap GS F7) ?_
    obtain ⟨x27,hx27,hz⟩:=bnd hz
    refine dv (Ad (BH hx27) Tryz.call239) ?_
    obtain ⟨x28,hx28,hz⟩:=bnd hz
    refine dv (Ad (CN hx28) Tryz.call164) ?_;refine dv (vbi) ?_;refine dv (Am) ?_;refine dz ?_;refine RL.gk [4,5,6,67] ?_;refine .nil ?_
    cases hz
    exact jr () trivial
   replace hz:=Ai hc hz
   have hb0:x24.2=false:=(bf hc)
   refine dv (VOK.lit (Aa) hb0) ?_;refine dgf ?_;refine dgf ?_;refine dgf ?_;refine dgf ?_;refine dgf ?_;refine dv (Am) ?_;refine dv (Aa) ?_;refine dv (vfa BU) ?_;refine dv (Ap GS F7) ?_;refine dv (vfa BU) ?_;refine dv (Ap GS F7) ?_
   obtain ⟨x29,hx29,hz⟩:=bnd hz
   refine dv (Ad (BH hx29) Tryz.call239) ?_;refine dv (vfa BU) ?_;refine dv (Ap GS F7) ?_;refine dv (vfa BU) ?_;refine dv (Ap GS F7) ?_
   obtain ⟨x30,hx30,hz⟩:=bnd hz
   refine dv (Ad (BH hx30) Tryz.call239) ?_
   obtain ⟨x31,hx31,hz⟩:=bnd hz
   refine dv (Ad (CN hx31) Tryz.call164) ?_;refine dv (vbi) ?_;refine dv (Am) ?_;refine dz ?_;refine RL.gk [4,5,6,67] ?_;refine .nil ?_
   cases hz
   exact jr () trivial
  rintro _ _
  by_cases hc:z25=true
  ·replace h:=Aj hc h
   refine cnt hc ?_;refine .sr ?_;refine vk (Ap Au Ak) ?_;refine vk (Ap Au Ak) ?_
   obtain ⟨x32,hx32,h⟩:=bnd h
   refine vk (Ad (FH hx32) Tryz.call211) ?_;refine ar [6] ?_;refine .ret ?_
   cases h
   exact ⟨rfl,rfl⟩
  replace h:=Ai hc h
  refine cnf (bf hc) ?_;refine .skip ?_
  show AW _ _ _ _ _ _
  refine .sr ?_;refine ar [6] ?_;refine .ret ?_
  cases h
  exact ⟨rfl,rfl⟩
 replace h:=Ai hc h
 refine cnt (ntt (bf hc)) ?_;refine .sr ?_;refine ar [3,4,5,6] ?_;refine .ret ?_
 cases h
 exact ⟨rfl,rfl⟩
def HR (a0 : RT) (a1 : RT) : Option (RT × Int):=((Cw ([a0,a1])).bind fun x1=>(if x1=true then (if ((List.length a0.2.1 : Nat) : Int)=0 then ((Fa a1 a1.1).bind fun x2=>(some (x2.1,x2.2))) else ((JU a1 a0).bind fun x3=>(if x3.2=0 then ((IH x3.1).bind fun x4=>(if x4.2=0 then ((JS ([a0,x4.1])).bind fun x5=>(if x5.2=0 then ((G8 a1 x5.1).bind fun x6=>(some (x6.1,x6.2))) else (some ((false,[],[]),x5.2)))) else (if x4.2=0 then ((G8 a1 x4.1).bind fun x7=>(some (x7.1,x7.2))) else (some ((false,[],[]),x4.2))))) else (if x3.2=0 then ((JS ([a0,x3.1])).bind fun x8=>(if x8.2=0 then ((G8 a1 x8.1).bind fun x9=>(some (x9.1,x9.2))) else (some ((false,[],[]),x8.2)))) else (if x3.2=0 then ((G8 a1 x3.1).bind fun x10=>(some (x10.1,x10.2))) else (some ((false,[],[]),x3.2))))))) else (some ((false,[],[]),22))))
theorem Mm {a0 : RT} {a1 : RT} {r : RT × Int} (h : HR a0 a1=some r) :
  Fn Tryz.prog 137 [.ag [.b a0.1,.sl (L a0.2.1),.sl (L a0.2.2)],.ag [.b a1.1,.sl (L a1.2.1),.sl (L a1.2.2)]] (.tup [.d (.ag [.b r.1.1,.sl (L r.1.2.1),.sl (L r.1.2.2)]),.d (.i .i64 r.2)]):=by
 unfold HR at h
 refine Fn.ofC (rs:=[.cell 4 32,.tmp 5]) (nt:=57) Tryz.func137 rfl rfl rfl (by simp) rfl ?_;refine .sr ?_;refine vk (vbx) ?_;refine vk (vbx) ?_;refine vk (van (Ah BO) BN) ?_;refine ar [2,3,4,5] ?_;refine .seq ?_;refine .block ?_;refine .sr ?_;refine vk (Ap Au Ak) ?_;refine vk (Ap Au Ak) ?_;refine vk ((Ev (Da [a0,a1]) Fb).deep) ?_
 obtain ⟨x1,hx1,h⟩:=bnd h
 refine vk (Ad (Ct hx1) Tryz.call167) ?_;refine vk (vnt) ?_;refine ar [2,3,4,5,8] ?_
 by_cases hc:x1=true
 ·replace h:=Aj hc h
  refine cnf (ntf hc) ?_;refine .sr ?_;refine vk (vfa BY) ?_;refine vk (An C7) ?_;refine vk (Bz (Ab _) (Bo _) Jf) ?_;refine vk (vbi) ?_;refine ar [2,3,4,5,15] ?_
  by_cases hc:((List.length a0.2.1:Nat):Int)=0
  ·replace h:=Aj hc h
   refine cnt (dT hc) ?_;refine .sr ?_;refine vk (Ap Au Ak) ?_;refine vk (vfa CY) ?_;refine vk (An BF) ?_
   obtain ⟨x2,hx2,h⟩:=bnd h
   refine vk (VOK.tupd (vs:=[.ag [.b x2.1.1,.sl (L x2.1.2.1),.sl (L x2.1.2.2)],.i .i64 x2.2]) (Ad (Hy hx2) Tryz.call161)) ?_;refine vk (vex) ?_;refine vk (vex) ?_
   refine stn ?_ Ak (by decide)
   refine ar [2,3,4,5] ?_;refine .ret ?_
   cases h
   exact ⟨_,_,⟨.inr rfl,Au,Ak,(by decide:(0:Nat)<3)⟩,rfl,rfl⟩
  replace h:=Ai hc h
  refine cnf (dF hc) ?_;refine .skip ?_
  show AW _ _ _ _ _ _
  refine .sr ?_;refine vk (Ap Au Ak) ?_;refine vk (Ap Au Ak) ?_
  obtain ⟨x3,hx3,h⟩:=bnd h
  refine vk (VOK.tupd (vs:=[.ag [.b x3.1.1,.sl (L x3.1.2.1),.sl (L x3.1.2.2)],.i .i64 x3.2]) (Ad (JG hx3) Tryz.call88)) ?_;refine vk (Aa) ?_;refine vk (vex) ?_;refine vk (vex) ?_;refine vk (van (Ah BO) BN) ?_
  refine stn ?_ Ak (by decide)
  refine ar [2,3,4,5,6,7] ?_;refine .seq ?_;refine .sr ?_;refine vk (Aa) ?_;refine vk (vbi) ?_;refine rk [2,3,4,5,6,7,33] ?_
  by_cases hc:x3.2=0
  ·replace h:=Aj hc h
   refine cnt (dT hc) ?_;refine .region ?_;refine vk (C8 Au Ak) ?_
   obtain ⟨x4,hx4,h⟩:=bnd h
   refine vk (VOK.tupd (vs:=[.ag [.b x4.1.1,.sl (L x4.1.2.1),.sl (L x4.1.2.2)],.i .i64 x4.2]) (Ad (Kv hx4) Tryz.call81)) ?_;refine vk (Aa) ?_;refine vk (vex) ?_;refine vk (vex) ?_
   refine stn ?_ Ak (by decide)
   refine ar [2,3,4,5,6,7] ?_;refine .seq ?_;refine .sr ?_;refine vk (Aa) ?_;refine vk (vbi) ?_;refine rk [2,3,4,5,6,7,40] ?_
   by_cases hc:x4.2=0
   ·replace h:=Aj hc h
    refine cnt (dT hc) ?_;refine .region ?_;refine vk (Ap Au Ak) ?_;refine vk (C8 Au Ak) ?_;refine vk ((Ev (Da [a0,x4.1]) Fb).deep) ?_
    obtain ⟨x5,hx5,h⟩:=bnd h
    refine vk (VOK.tupd (vs:=[.ag [.b x5.1.1,.sl (L x5.1.2.1),.sl (L x5.1.2.2)],.i .i64 x5.2]) (Ad (JZ hx5) Tryz.call135)) ?_;refine vk (Aa) ?_;refine vk (vex) ?_;refine vk (vex) ?_
    refine stn ?_ Ak (by decide)
    refine ar [3,4,5,6,7] ?_;refine .seq ?_;refine .sr ?_;refine vk (Aa) ?_;refine vk (vbi) ?_;refine rk [3,4,5,6,7,49] ?_
    by_cases hc:x5.2=0
    ·replace h:=Aj hc h
     refine cnf (ntf (dT hc)) ?_;refine .skip ?_
     show AW _ _ _ _ _ _
     refine .sr ?_;refine vk (Ap Au Ak) ?_;refine vk (C8 Au Ak) ?_
     obtain ⟨x6,hx6,h⟩:=bnd h
     refine vk (VOK.tupd (vs:=[.ag [.b x6.1.1,.sl (L x6.1.2.1),.sl (L x6.1.2.2)],.i .i64 x6.2]) (Ad (FP hx6) Tryz.call136)) ?_;refine vk (vex) ?_;refine vk (vex) ?_
     refine stn ?_ Ak (by decide)
     refine ar [4,5] ?_;refine .ret ?_
     cases h
     exact ⟨_,_,⟨.inr rfl,Au,Ak,(by decide:(0:Nat)<3)⟩,rfl,rfl⟩
    replace h:=Ai hc h
    refine cnt (ntt (dF hc)) ?_;refine .sr ?_;refine vk (vbd Ee BO BN) ?_;refine vk (Aa) ?_
    refine stn ?_ Ak (by decide)
    refine ar [3,4,5,6] ?_;refine .ret ?_
    cases h
    exact ⟨_,_,⟨.inr rfl,Au,Ak,(by decide:(0:Nat)<3)⟩,rfl,rfl⟩
   replace h:=Ai hc h
   refine cnf (dF hc) ?_;refine .skip ?_
   show AW _ _ _ _ _ _
   refine .seq ?_;refine .sr ?_;refine vk (Aa) ?_;refine vk (vbi) ?_;refine rk [3,4,5,6,7,49] ?_
   by_cases hc:x4.2=0
   ·replace h:=Aj hc h
    refine cnf (ntf (dT hc)) ?_;refine .skip ?_
    show AW _ _ _ _ _ _
    refine .sr ?_;refine vk (Ap Au Ak) ?_;refine vk (C8 Au Ak) ?_
    obtain ⟨x7,hx7,h⟩:=bnd h
    refine vk (VOK.tupd (vs:=[.ag [.b x7.1.1,.sl (L x7.1.2.1),.sl (L x7.1.2.2)],.i .i64 x7.2]) (Ad (FP hx7) Tryz.call136)) ?_;refine vk (vex) ?_;refine vk (vex) ?_
    refine stn ?_ Ak (by decide)
    refine ar [4,5] ?_;refine .ret ?_
    cases h
    exact ⟨_,_,⟨.inr rfl,Au,Ak,(by decide:(0:Nat)<3)⟩,rfl,rfl⟩
   replace h:=Ai hc h
   refine cnt (ntt (dF hc)) ?_;refine .sr ?_;refine vk (vbd Ee BO BN) ?_;refine vk (Aa) ?_
   refine stn ?_ Ak (by decide)
   refine ar [3,4,5,6] ?_;refine .ret ?_
   cases h
   exact ⟨_,_,⟨.inr rfl,Au,Ak,(by decide:(0:Nat)<3)⟩,rfl,rfl⟩
  replace h:=Ai hc h
  refine cnf (dF hc) ?_;refine .skip ?_
  show AW _ _ _ _ _ _
  refine .seq ?_;refine .sr ?_;refine vk (Aa) ?_;refine vk (vbi) ?_;refine rk [2,3,4,5,6,7,40] ?_
  by_cases hc:x3.2=0
  ·replace h:=Aj hc h
   refine cnt (dT hc) ?_;refine .region ?_;refine vk (Ap Au Ak) ?_;refine vk (C8 Au Ak) ?_;refine vk ((Ev (Da [a0,x3.1]) Fb).deep) ?_
   obtain ⟨x8,hx8,h⟩:=bnd h
   refine vk (VOK.tupd (vs:=[.ag [.b x8.1.1,.sl (L x8.1.2.1),.sl (L x8.1.2.2)],.i .i64 x8.2]) (Ad (JZ hx8) Tryz.call135)) ?_;refine vk (Aa) ?_;refine vk (vex) ?_;refine vk (vex) ?_
   refine stn ?_ Ak (by decide)
   refine ar [3,4,5,6,7] ?_;refine .seq ?_;refine .sr ?_;refine vk (Aa) ?_;refine vk (vbi) ?_;refine rk [3,4,5,6,7,49] ?_
   by_cases hc:x8.2=0
   ·replace h:=Aj hc h
    refine cnf (ntf (dT hc)) ?_;refine .skip ?_
    show AW _ _ _ _ _ _
    refine .sr ?_;refine vk (Ap Au Ak) ?_;refine vk (C8 Au Ak) ?_
    obtain ⟨x9,hx9,h⟩:=bnd h
    refine vk (VOK.tupd (vs:=[.ag [.b x9.1.1,.sl (L x9.1.2.1),.sl (L x9.1.2.2)],.i .i64 x9.2]) (Ad (FP hx9) Tryz.call136)) ?_;refine vk (vex) ?_;refine vk (vex) ?_
    refine stn ?_ Ak (by decide)
    refine ar [4,5] ?_;refine .ret ?_
    cases h
    exact ⟨_,_,⟨.inr rfl,Au,Ak,(by decide:(0:Nat)<3)⟩,rfl,rfl⟩
   replace h:=Ai hc h
   refine cnt (ntt (dF hc)) ?_;refine .sr ?_;refine vk (vbd Ee BO BN) ?_;refine vk (Aa) ?_
   refine stn ?_ Ak (by decide)
   refine ar [3,4,5,6] ?_;refine .ret ?_
   cases h
   exact ⟨_,_,⟨.inr rfl,Au,Ak,(by decide:(0:Nat)<3)⟩,rfl,rfl⟩
  replace h:=Ai hc h
  refine cnf (dF hc) ?_;refine .skip ?_
  show AW _ _ _ _ _ _
  refine .seq ?_;refine .sr ?_;refine vk (Aa) ?_;refine vk (vbi) ?_;refine rk [3,4,5,6,7,49] ?_
  by_cases hc:x3.2=0
  ·replace h:=Aj hc h
   refine cnf (ntf (dT hc)) ?_;refine .skip ?_
   show AW _ _ _ _ _ _
   refine .sr ?_;refine vk (Ap Au Ak) ?_;refine vk (C8 Au Ak) ?_
   obtain ⟨x10,hx10,h⟩:=bnd h
   refine vk (VOK.tupd (vs:=[.ag [.b x10.1.1,.sl (L x10.1.2.1),.sl (L x10.1.2.2)],.i .i64 x10.2]) (Ad (FP hx10) Tryz.call136)) ?_;refine vk (vex) ?_;refine vk (vex) ?_
   refine stn ?_ Ak (by decide)
   refine ar [4,5] ?_;refine .ret ?_
   cases h
   exact ⟨_,_,⟨.inr rfl,Au,Ak,(by decide:(0:Nat)<3)⟩,rfl,rfl⟩
  replace h:=Ai hc h
  refine cnt (ntt (dF hc)) ?_;refine .sr ?_;refine vk (vbd Ee BO BN) ?_;refine vk (Aa) ?_
  refine stn ?_ Ak (by decide)
  refine ar [3,4,5,6] ?_;refine .ret ?_
  cases h
  exact ⟨_,_,⟨.inr rfl,Au,Ak,(by decide:(0:Nat)<3)⟩,rfl,rfl⟩
 replace h:=Ai hc h
 refine cnt (ntt (bf hc)) ?_;refine .sr ?_;refine vk (vbd Ee BO BN) ?_
 refine stn ?_ Ak (by decide)
 refine ar [2,3,4,5] ?_;refine .ret ?_
 cases h
 exact ⟨_,_,⟨.inr rfl,Au,Ak,(by decide:(0:Nat)<3)⟩,rfl,rfl⟩
def J7 (a0 : RT) (a1 : RT) : Option (RT × Int):=((Cw ([a0,a1])).bind fun x1=>(if x1=true then ((Fx a1).bind fun x2=>(if ((!x2) || ((decide (((List.length a0.2.1 : Nat) : Int)=0)) && a1.1))=true then (some ((false,[],[]),3)) else (if ((List.length a1.2.1 : Nat) : Int)=0 then ((BM 1).bind fun x3=>(some (x3,0))) else (if ((List.length a0.2.1 : Nat) : Int)=0 then ((BM 0).bind fun x4=>(some (x4,0))) else (Option.bind ((if a0.1=true then ((rd? a1.2.1 0).bind fun x6=>(some (decide ((bits .and .u32 ((x6 : Nat) : Int) 1)=1)))) else (some false)) : Option (Bool)) fun (z5 : Bool)=>((Iw a0.2.1 a0.2.2).bind fun x7=>(if x7=true then (DS.bind fun x8=>(DS.bind fun x9=>(some ((z5,x8,x9),0)))) else ((Ti a1.2.1).bind fun x10=>(if x10.2=true then ((Qi a0.2.1 x10.1 32).bind fun x11=>((Qi a0.2.2 x10.1 32).bind fun x12=>(if ((!x11.2) || (!x12.2))=true then (some ((false,[],[]),8)) else (if a1.1=true then (some ((z5,x12.1,x11.1),0)) else (some ((z5,x11.1,x12.1),0)))))) else (some ((false,[],[]),8))))))))))) else (some ((false,[],[]),22))))
set_option maxHeartbeats 4000000 in
theorem Oo {a0 : RT} {a1 : RT} {r : RT × Int} (h : J7 a0 a1=some r) :
  Fn Tryz.prog 138 [.ag [.b a0.1,.sl (L a0.2.1),.sl (L a0.2.2)],.ag [.b a1.1,.sl (L a1.2.1),.sl (L a1.2.2)]] (.tup [.d (.ag [.b r.1.1,.sl (L r.1.2.1),.sl (L r.1.2.2)]),.d (.i .i64 r.2)]):=by
 unfold J7 at h
 refine Fn.ofC (rs:=[.cell 4 32,.tmp 5]) (nt:=104) Tryz.func138 rfl rfl rfl (by simp) rfl ?_;refine .sr ?_;refine vk (vbx) ?_;refine vk (vbx) ?_;refine vk (van (Ah BO) BN) ?_;refine ar [2,3,4,5] ?_;refine .seq ?_;refine .block ?_;refine .sr ?_;refine vk (Ap Au Ak) ?_;refine vk (Ap Au Ak) ?_;refine vk ((Ev (Da [a0,a1]) Fb).deep) ?_
 obtain ⟨x1,hx1,h⟩:=bnd h
 refine vk (Ad (Ct hx1) Tryz.call167) ?_;refine vk (vnt) ?_;refine ar [2,3,4,5,13] ?_
 by_cases hc:x1=true
 ·replace h:=Aj hc h
  refine cnf (ntf hc) ?_;refine .seq ?_
  obtain ⟨x2,hx2,h⟩:=bnd h
  refine AW.mr (σ:=Unit) (fun _=>True) (fun _=>[(2,.d (.ptr [.b a0.1,.sl (L a0.2.1),.sl (L a0.2.2)])),(3,.d (.ptr [.b a1.1,.sl (L a1.2.1),.sl (L a1.2.2)])),(4,.nb [.b false,.sl (L []),.sl (L [])]),(5,.d (.i .i64 0)),(20,.d (.b ((!x2) || ((decide (((List.length a0.2.1:Nat):Int)=0)) && a1.1))))]) (fun _=>[]) ?_ ?_
  ·skip
   refine .region ?_;refine vk (Ap Au Ak) ?_;refine vk (Ad (Hg hx2) Tryz.call206) ?_;refine vk (vnt) ?_
   by_cases hc:x2=true
   ·have hb0:(!x2)=false:=(ntf hc)
    refine vk (VOK.lit (Aa) hb0) ?_;refine vk (vfa BY) ?_;refine vk (An C7) ?_;refine vk (Bz (Ab _) (Bo _) Jf) ?_;refine vk (vbi) ?_
    by_cases hc:((List.length a0.2.1:Nat):Int)=0
    ·have hb1:(decide (((List.length a0.2.1:Nat):Int)=0))=true:=(dT hc)
     refine vk (VOK.lit (Aa) hb1) ?_;refine vk (vfa CY) ?_;refine vk (An BF) ?_;refine vk (Am) ?_;refine vk (Am) ?_;refine asd ?_;refine RL.gk [2,3,4,5,20] ?_;refine .nil ?_
     exact jr () trivial (by simp only [hb0,hb1];rfl)
    have hb1:(decide (((List.length a0.2.1:Nat):Int)=0))=false:=(dF hc)
    refine vk (VOK.lit (Aa) hb1) ?_;refine gf ?_;refine gf ?_;refine vk (Am) ?_;refine vk (Am) ?_;refine asd ?_;refine RL.gk [2,3,4,5,20] ?_;refine .nil ?_
    exact jr () trivial (by simp only [hb0,hb1];rfl)
   have hb0:(!x2)=true:=(ntt (bf hc))
   refine vk (VOK.lit (Aa) hb0) ?_;refine gf ?_;refine gf ?_;refine gf ?_;refine gf ?_;refine gfu ?_;refine gf ?_;refine gf ?_;refine gf ?_;refine vk (Am) ?_;refine asd ?_;refine RL.gk [2,3,4,5,20] ?_;refine .nil ?_
   exact jr () trivial (by simp only [hb0];rfl)
  rintro _ _
  by_cases hc:((!x2) || ((decide (((List.length a0.2.1:Nat):Int)=0)) && a1.1))=true
  ·replace h:=Aj hc h
   refine cnt hc ?_;refine .sr ?_;refine vk (vbd Ee BO BN) ?_
   refine stn ?_ Ak (by decide)
   refine ar [2,3,4,5] ?_;refine .ret ?_
   cases h
   exact ⟨_,_,⟨.inr rfl,Au,Ak,(by decide:(0:Nat)<3)⟩,rfl,rfl⟩
  replace h:=Ai hc h
  refine cnf (bf hc) ?_;refine .sr ?_;refine vk (vfa BY) ?_;refine vk (An C7) ?_;refine vk (Bz (Ab _) (Bo _) Jf) ?_;refine vk (vbi) ?_;refine ar [2,3,4,5,35] ?_
  by_cases hc:((List.length a1.2.1:Nat):Int)=0
  ·replace h:=Aj hc h
   refine cnt (dT hc) ?_;refine .sr ?_
   obtain ⟨x3,hx3,h⟩:=bnd h
   refine vk (Ad (Br hx3) Tryz.call72) ?_
   refine stn ?_ Ak (by decide)
   refine ar [2,3,4,5] ?_;refine .ret ?_
   cases h
   exact ⟨_,_,⟨.inr rfl,Au,Ak,(by decide:(0:Nat)<3)⟩,rfl,rfl⟩
  replace h:=Ai hc h
  refine cnf (dF hc) ?_;refine .sr ?_;refine vk (vfa BY) ?_;refine vk (An C7) ?_;refine vk (Bz (Ab _) (Bo _) Jf) ?_;refine vk (vbi) ?_;refine ar [2,3,4,5,41] ?_
  by_cases hc:((List.length a0.2.1:Nat):Int)=0
  ·replace h:=Aj hc h
   refine cnt (dT hc) ?_;refine .sr ?_
   obtain ⟨x4,hx4,h⟩:=bnd h
   refine vk (Ad (Br hx4) Tryz.call72) ?_
   refine stn ?_ Ak (by decide)
   refine ar [2,3,4,5] ?_;refine .ret ?_
   cases h
   exact ⟨_,_,⟨.inr rfl,Au,Ak,(by decide:(0:Nat)<3)⟩,rfl,rfl⟩
  replace h:=Ai hc h
  refine cnf (dF hc) ?_;refine .skip ?_
  show AW _ _ _ _ _ _
  refine .seq ?_
  obtain ⟨z5,hz,h⟩:=bnd h
  refine AW.mr (σ:=Unit) (fun _=>True) (fun _=>[(2,.d (.ptr [.b a0.1,.sl (L a0.2.1),.sl (L a0.2.2)])),(3,.d (.ptr [.b a1.1,.sl (L a1.2.1),.sl (L a1.2.2)])),(4,.nb [.b false,.sl (L []),.sl (L [])]),(5,.d (.i .i64 0)),(6,.d (.b z5))]) (fun _=>[]) ?_ ?_
  ·skip
   refine .region ?_;refine vk (vfa CY) ?_;refine vk (An BF) ?_
   by_cases hc:a0.1=true
   ·replace hz:=Aj hc hz
    have hb0:a0.1=true:=hc
    refine vk (VOK.lit (Aa) hb0) ?_;refine vk (vfa BY) ?_;refine vk (An C7) ?_
    obtain ⟨x6,hx6,hz⟩:=bnd hz
    obtain ⟨nx6,hnx6,hxx6⟩:=AS hx6
    refine vk (vix nx6 hnx6 (E3 hxx6) rfl Aas) ?_;refine vk (An R1) ?_;refine vk (vbi) ?_;refine vk (vbi) ?_;refine vk (Am) ?_;refine asd ?_;refine RL.gk [2,3,4,5,6] ?_;refine .nil ?_
    cases hz
    exact jr () trivial
   replace hz:=Ai hc hz
   have hb0:a0.1=false:=(bf hc)
   refine vk (VOK.lit (Aa) hb0) ?_;refine gf ?_;refine gf ?_;refine gf ?_;refine gf ?_;refine gf ?_;refine gf ?_;refine vk (Am) ?_;refine asd ?_;refine RL.gk [2,3,4,5,6] ?_;refine .nil ?_
   cases hz
   exact jr () trivial
  rintro _ _
  refine .seq ?_;refine .sr ?_;refine vk (vfa BY) ?_;refine vk (An C7) ?_;refine vk (vfa FE) ?_;refine vk (An C7) ?_
  obtain ⟨x7,hx7,h⟩:=bnd h
  refine vk (Ad (Hk hx7) Tryz.call112) ?_;refine rk [2,3,4,5,6,61] ?_
  by_cases hc:x7=true
  ·replace h:=Aj hc h
   refine cnt hc ?_;refine .sr ?_;refine vk (Aa) ?_
   obtain ⟨x8,hx8,h⟩:=bnd h
   refine vk ((Ad (B3 hx8) Tryz.call121).deep) ?_
   obtain ⟨x9,hx9,h⟩:=bnd h
   refine vk ((Ad (B3 hx9) Tryz.call121).deep) ?_;refine vk (vbd Ee BO BN) ?_
   refine stn ?_ Ak (by decide)
   refine ar [2,3,4,5,6] ?_;refine .ret ?_
   cases h
   exact ⟨_,_,⟨.inr rfl,Au,Ak,(by decide:(0:Nat)<3)⟩,rfl,rfl⟩
  replace h:=Ai hc h
  refine cnf (bf hc) ?_;refine .skip ?_
  show AW _ _ _ _ _ _
  refine .sr ?_;refine vk (vfa BY) ?_;refine vk (An C7) ?_
  obtain ⟨x10,hx10,h⟩:=bnd h
  refine vk (VOK.tupd (vs:=[.i .i64 x10.1,.b x10.2]) (Ad (St hx10) Tryz.call207)) ?_;refine vk (Aa) ?_;refine vk (vex) ?_;refine vk (vex) ?_;refine asd ?_;refine ar [2,3,4,5,6,7,8] ?_;refine .seq ?_;refine .sr ?_;refine vk (Aa) ?_;refine vk (vnt) ?_;refine rk [2,3,4,5,6,7,73] ?_
  by_cases hc:x10.2=true
  ·replace h:=Aj hc h
   refine cnf (ntf hc) ?_;refine .skip ?_
   show AW _ _ _ _ _ _
   refine .sr ?_;refine vk (vfa BY) ?_;refine vk (An C7) ?_;refine vk (Aa) ?_
   obtain ⟨x11,hx11,h⟩:=bnd h
   refine vk (VOK.tupd (vs:=[.sl (L x11.1),.b x11.2]) (Ad (M6 hx11) Tryz.call208)) ?_;refine vk (Aa) ?_;refine vk (vex) ?_;refine vk (vex) ?_;refine asd ?_;refine ar [2,3,4,5,6,7,9,10] ?_;refine .sr ?_;refine vk (vfa FE) ?_;refine vk (An C7) ?_;refine vk (Aa) ?_
   obtain ⟨x12,hx12,h⟩:=bnd h
   refine vk (VOK.tupd (vs:=[.sl (L x12.1),.b x12.2]) (Ad (M6 hx12) Tryz.call208)) ?_;refine vk (Aa) ?_;refine vk (vex) ?_;refine vk (vex) ?_;refine asd ?_;refine ar [3,4,5,6,9,10,11,12] ?_;refine .seq ?_;refine .seq ?_;refine AW.mr (σ:=Unit) (fun _=>True) (fun _=>[(3,.d (.ptr [.b a1.1,.sl (L a1.2.1),.sl (L a1.2.2)])),(4,.nb [.b false,.sl (L []),.sl (L [])]),(5,.d (.i .i64 0)),(6,.d (.b z5)),(9,.d (.sl (L x11.1))),(11,.d (.sl (L x12.1))),(94,.d (.b ((!x11.2) || (!x12.2))))]) (fun _=>[]) ?_ ?_
   ·skip
    refine .region ?_;refine vk (Aa) ?_;refine vk (vnt) ?_
    by_cases hc:x11.2=true
    ·have hb0:(!x11.2)=false:=(ntf hc)
     refine vk (VOK.lit (Aa) hb0) ?_;refine vk (Aa) ?_;refine vk (vnt) ?_;refine vk (Am) ?_;refine RL.gk [3,4,5,6,9,11,94] ?_;refine .nil ?_
     exact jr () trivial (by simp only [hb0];rfl)
    have hb0:(!x11.2)=true:=(ntt (bf hc))
    refine vk (VOK.lit (Aa) hb0) ?_;refine gf ?_;refine gf ?_;refine vk (Am) ?_;refine RL.gk [3,4,5,6,9,11,94] ?_;refine .nil ?_
    exact jr () trivial (by simp only [hb0];rfl)
   rintro _ _
   by_cases hc:((!x11.2) || (!x12.2))=true
   ·replace h:=Aj hc h
    refine cnt hc ?_;refine .sr ?_;refine vk (vbd Ee BO BN) ?_
    refine stn ?_ Ak (by decide)
    refine ar [3,4,5,6,9,11] ?_;refine .ret ?_
    cases h
    exact ⟨_,_,⟨.inr rfl,Au,Ak,(by decide:(0:Nat)<3)⟩,rfl,rfl⟩
   replace h:=Ai hc h
   refine cnf (bf hc) ?_;refine .skip ?_
   show AW _ _ _ _ _ _
   refine .seq ?_;refine .sr ?_;refine vk (vfa CY) ?_;refine vk (An BF) ?_;refine rk [4,5,6,9,11,97] ?_
   by_cases hc:a1.1=true
   ·replace h:=Aj hc h
    refine cnt hc ?_;refine .region ?_;refine vk (Aa) ?_;refine vk (Aa) ?_;refine asd ?_;refine ar [4,5,6,9,11] ?_;refine .sr ?_;refine vk (Aa) ?_;refine vk (Aa) ?_;refine vk (Aa) ?_;refine vk (vbd Ee BO BN) ?_
    refine stn ?_ Ak (by decide)
    refine ar [4,5] ?_;refine .ret ?_
    cases h
    exact ⟨_,_,⟨.inr rfl,Au,Ak,(by decide:(0:Nat)<3)⟩,rfl,rfl⟩
   replace h:=Ai hc h
   refine cnf (bf hc) ?_;refine .skip ?_
   show AW _ _ _ _ _ _
   refine .sr ?_;refine vk (Aa) ?_;refine vk (Aa) ?_;refine vk (Aa) ?_;refine vk (vbd Ee BO BN) ?_
   refine stn ?_ Ak (by decide)
   refine ar [4,5] ?_;refine .ret ?_
   cases h
   exact ⟨_,_,⟨.inr rfl,Au,Ak,(by decide:(0:Nat)<3)⟩,rfl,rfl⟩
  replace h:=Ai hc h
  refine cnt (ntt (bf hc)) ?_;refine .sr ?_;refine vk (vbd Ee BO BN) ?_
  refine stn ?_ Ak (by decide)
  refine ar [2,3,4,5,6,7] ?_;refine .ret ?_
  cases h
  exact ⟨_,_,⟨.inr rfl,Au,Ak,(by decide:(0:Nat)<3)⟩,rfl,rfl⟩
 replace h:=Ai hc h
 refine cnt (ntt (bf hc)) ?_;refine .sr ?_;refine vk (vbd Ee BO BN) ?_
 refine stn ?_ Ak (by decide)
 refine ar [2,3,4,5] ?_;refine .ret ?_
 cases h
 exact ⟨_,_,⟨.inr rfl,Au,Ak,(by decide:(0:Nat)<3)⟩,rfl,rfl⟩
def Dc (a1 : RT) (z6 : (List Nat)) : Nat→RT→Int→(List Nat)→(List Nat)→Option (RT × Int)
 | 0,_,_,_,_=>none
 | k+1,s11,s12,s13,s14=>((Dh s14 z6).bind fun x15=>(if x15≤0 then (DS.bind fun x16=>((UY ([a1.2.1,x16])).bind fun x17=>((Qs x17 s14).bind fun x18=>((MD ([s13,x18.1])).bind fun x19=>((Og x19 s14).bind fun x20=>(if 32<((List.length x20.1:Nat):Int) then (some ((false,[],[]),8)) else (DS.bind fun x21=>((UY ([s14,x21])).bind fun x22=>(Dc a1 z6 k s11 s12 x20.1 x22))))))))) else (DS.bind fun x23=>(some ((false,s13,x23),0)))))
def Ha (a0 : RT) (a1 : RT) : Option (RT × Int):=((Cw ([a0,a1])).bind fun x1=>(if x1=true then ((Ff a0).bind fun x2=>(Option.bind ((if x2=true then ((Ff a1).bind fun x4=>(some (!x4))) else (some true)) : Option (Bool)) fun (z2 : Bool)=>(if z2=true then (some ((false,[],[]),3)) else ((Qs a1.2.1 a0.2.1).bind fun x5=>(jn (fun (z6 : (List Nat))=>(DS.bind fun x9=>(DS.bind fun x10=>(Dc a1 z6 BC (false,[],[]) 0 x9 x10)))) fun K0=>(if x5.2=true then ((Dh x5.1 a0.2.1).bind fun x7=>(if x7<0 then (K0 x5.1) else (K0 a0.2.1))) else ((BM 0).bind fun x8=>(some (x8,0))))))))) else (some ((false,[],[]),22))))
theorem La {a0 : RT} {a1 : RT} {r : RT × Int} (h : Ha a0 a1=some r) :
  Fn Tryz.prog 139 [.ag [.b a0.1,.sl (L a0.2.1),.sl (L a0.2.2)],.ag [.b a1.1,.sl (L a1.2.1),.sl (L a1.2.2)]] (.tup [.d (.ag [.b r.1.1,.sl (L r.1.2.1),.sl (L r.1.2.2)]),.d (.i .i64 r.2)]):=by
 unfold Ha at h
 refine Fn.ofC (rs:=[.cell 4 32,.tmp 5]) (nt:=86) Tryz.func139 rfl rfl rfl (by simp) rfl ?_;refine .sr ?_;refine vk (vbx) ?_;refine vk (vbx) ?_;refine vk (van (Ah BO) BN) ?_;refine ar [2,3,4,5] ?_;refine .seq ?_;refine .block ?_;refine .sr ?_;refine vk (Ap Au Ak) ?_;refine vk (Ap Au Ak) ?_;refine vk ((Ev (Da [a0,a1]) Fb).deep) ?_
 obtain ⟨x1,hx1,h⟩:=bnd h
 refine vk (Ad (Ct hx1) Tryz.call167) ?_;refine vk (vnt) ?_;refine ar [2,3,4,5,13] ?_
 by_cases hc:x1=true
 ·replace h:=Aj hc h
  refine cnf (ntf hc) ?_;refine .seq ?_
  obtain ⟨x2,hx2,h⟩:=bnd h
  obtain ⟨z2,hz,h⟩:=bnd h
  refine AW.mr (σ:=Unit) (fun _=>True) (fun _=>[(2,.d (.ptr [.b a0.1,.sl (L a0.2.1),.sl (L a0.2.2)])),(3,.d (.ptr [.b a1.1,.sl (L a1.2.1),.sl (L a1.2.2)])),(4,.nb [.b false,.sl (L []),.sl (L [])]),(5,.d (.i .i64 0)),(20,.d (.b z2))]) (fun _=>[]) ?_ ?_
  ·skip
   refine .region ?_;refine vk (Ap Au Ak) ?_;refine vk (Ad (Gd hx2) Tryz.call163) ?_;refine vk (vnt) ?_
   by_cases hc:x2=true
   ·replace hz:=Aj hc hz
    have hb0:(!x2)=false:=(ntf hc)
    refine vk (VOK.lit (Aa) hb0) ?_;refine vk (Ap Au Ak) ?_
    obtain ⟨x4,hx4,hz⟩:=bnd hz
    refine vk (Ad (Gd hx4) Tryz.call163) ?_;refine vk (vnt) ?_;refine vk (Am) ?_;refine asd ?_;refine RL.gk [2,3,4,5,20] ?_;refine .nil ?_
    cases hz
    exact jr () trivial
   replace hz:=Ai hc hz
   have hb0:(!x2)=true:=(ntt (bf hc))
   refine vk (VOK.lit (Aa) hb0) ?_;refine gf ?_;refine gf ?_;refine gf ?_;refine vk (Am) ?_;refine asd ?_;refine RL.gk [2,3,4,5,20] ?_;refine .nil ?_
   cases hz
   exact jr () trivial
  rintro _ _
  by_cases hc:z2=true
  ·replace h:=Aj hc h
   refine cnt hc ?_;refine .sr ?_;refine vk (vbd Ee BO BN) ?_
   refine stn ?_ Ak (by decide)
   refine ar [2,3,4,5] ?_;refine .ret ?_
   cases h
   exact ⟨_,_,⟨.inr rfl,Au,Ak,(by decide:(0:Nat)<3)⟩,rfl,rfl⟩
  replace h:=Ai hc h
  refine cnf (bf hc) ?_;refine .skip ?_
  show AW _ _ _ _ _ _
  refine .sr ?_;refine vk (vfa BY) ?_;refine vk (An C7) ?_;refine ar [3,4,5,6] ?_;refine .sr ?_;refine vk (vfa BY) ?_;refine vk (An C7) ?_;refine vk (Aa) ?_
  obtain ⟨x5,hx5,h⟩:=bnd h
  refine vk (VOK.tupd (vs:=[.sl (L x5.1),.b x5.2]) (Ad (Nm hx5) Tryz.call209)) ?_;refine vk (Aa) ?_;refine vk (vex) ?_;refine vk (vex) ?_;refine asd ?_;refine ar [3,4,5,6,7,8] ?_
  obtain ⟨K0,hK0,h⟩:=CX h
  refine AW.mj (σ:=(List Nat)) (fun p=>K0 p=some r) (fun p=>[(3,.d (.ptr [.b a1.1,.sl (L a1.2.1),.sl (L a1.2.2)])),(4,.nb [.b false,.sl (L []),.sl (L [])]),(5,.d (.i .i64 0)),(6,.d (.sl (L p)))]) (fun p=>[]) ?_ ?_
  ·skip
   refine .block ?_;refine .sr ?_;refine vk (Aa) ?_;refine vk (vnt) ?_;refine ar [3,4,5,6,7,39] ?_
   by_cases hc:x5.2=true
   ·replace h:=Aj hc h
    refine cnf (ntf hc) ?_;refine .sr ?_;refine vk (Aa) ?_;refine vk (Aa) ?_
    obtain ⟨x7,hx7,h⟩:=bnd h
    refine vk (Ad (CN hx7) Tryz.call164) ?_;refine vk (vbi) ?_;refine ar [3,4,5,6,7,43] ?_
    by_cases hc:x7<0
    ·replace h:=Aj hc h
     refine cnt (dT hc) ?_;refine .region ?_;refine vk (Aa) ?_;refine asd ?_;refine RL.gk [3,4,5,6] ?_;refine .nil ?_
     exact jr (x5.1) h
    replace h:=Ai hc h
    refine cnf (dF hc) ?_;refine .gk [3,4,5,6] ?_;refine .skip ?_
    exact jr (a0.2.1) h
   replace h:=Ai hc h
   refine cnt (ntt (bf hc)) ?_;refine .sr ?_
   obtain ⟨x8,hx8,h⟩:=bnd h
   refine vk (Ad (Br hx8) Tryz.call72) ?_
   refine stn ?_ Ak (by decide)
   refine ar [3,4,5,6] ?_;refine .ret ?_
   cases h
   exact ⟨_,_,⟨.inr rfl,Au,Ak,(by decide:(0:Nat)<3)⟩,rfl,rfl⟩
  rintro z6 h
  try dsimp only at h ⊢
  subst hK0
  refine .sr ?_
  obtain ⟨x9,hx9,h⟩:=bnd h
  refine vk ((Ad (B3 hx9) Tryz.call121).deep) ?_;refine ar [3,4,5,6,9] ?_;refine .seq ?_;refine .sr ?_
  obtain ⟨x10,hx10,h⟩:=bnd h
  refine vk ((Ad (B3 hx10) Tryz.call121).deep) ?_;refine ar [3,4,5,6,9,10] ?_;refine .block ?_
  refine .loop (.gk [3,4,5,6,9,10] ?_)
  refine AL.ind (σ:=Nat × RT × Int × (List Nat) × (List Nat)) (m:=fun p=>p.1) (e:=fun p=>[(3,.d (.ptr [.b a1.1,.sl (L a1.2.1),.sl (L a1.2.2)])),(4,.nb [.b p.2.1.1,.sl (L p.2.1.2.1),.sl (L p.2.1.2.2)]),(5,.d (.i .i64 p.2.2.1)),(6,.d (.sl (L z6))),(9,.d (.sl (L p.2.2.2.1))),(10,.d (.sl (L p.2.2.2.2)))]) (h:=fun p=>[]) (I:=fun p=>Dc a1 z6 p.1 p.2.1 p.2.2.1 p.2.2.2.1 p.2.2.2.2=some r) ?_ (BC,(false,[],[]),0,x9,x10) h
  rintro ⟨k,s11,s12,s13,s14⟩ h ih
  dsimp only at h ih ⊢
  rcases k with _ | k
  ·rw [Dc] at h;cases h
  rw [Dc] at h
  refine .seq ?_;refine .sr ?_;refine vk (Aa) ?_;refine vk (Aa) ?_
  obtain ⟨x15,hx15,h⟩:=bnd h
  refine vk (Ad (CN hx15) Tryz.call164) ?_;refine vk (vbi) ?_;refine rk [3,4,5,6,9,10,54] ?_
  by_cases hc:x15≤0
  ·replace h:=Aj hc h
   refine cnt (dT hc) ?_;refine .skip ?_
   show AW _ _ _ _ _ _
   refine .seq ?_;refine .block ?_;refine .seq ?_
   obtain ⟨x16,hx16,h⟩:=bnd h
   obtain ⟨x17,hx17,h⟩:=bnd h
   obtain ⟨x18,hx18,h⟩:=bnd h
   refine .drawnF 10 [9] [(11,.d (.sl (L x18.1)))] [] Ba (by kernel_rfl) rfl ?_;refine dv (vfa BY) ?_;refine dv (An C7) ?_;refine dv ((Ad (B3 hx16) Tryz.call121).deep) ?_;refine dv ((Ev (FX [a1.2.1,x16]) OG).deep) ?_;refine dv (Ad (Mt hx17) Tryz.call165) ?_;refine dv (Aa) ?_;refine dv (VOK.tupd (vs:=[.sl (L x18.1),.b x18.2]) (Ad (Nm hx18) Tryz.call209)) ?_;refine dv (Aa) ?_;refine dv (vex) ?_;refine dv (vex) ?_;refine dz ?_
   refine ⟨?_,?_,?_⟩
   ·intro k hk
    simp only [List.mem_cons,List.not_mem_nil,or_false] at hk
    subst hk
    exact ⟨_,_,_,rfl,rfl,rfl,rfl,rfl,rfl,vex⟩
   ·intro om e hom hge
    cases hom
    exact XM rfl ((hge 67 (fun k hk v hv=>by
      simp only [List.mem_cons,List.not_mem_nil,or_false] at hk
      subst hk;exact (by decide:¬ (some 68=some 67)) (congrArg (Option.map Prod.fst) hv))).trans rfl) rfl ((congrArg Ao (hge 11 (fun k hk v hv=>by
      simp only [List.mem_cons,List.not_mem_nil,or_false] at hk
      subst hk;exact (by decide:¬ (some 68=some 11)) (congrArg (Option.map Prod.fst) hv)))).trans rfl) rfl ⟨rfl,rfl⟩
   refine ar [3,4,5,6,9,10,11] ?_;refine .sr ?_;refine vk (Aa) ?_;refine vk (Aa) ?_;refine vk ((Ev (FX [s13,x18.1]) OG).deep) ?_
   obtain ⟨x19,hx19,h⟩:=bnd h
   refine vk (Ad (Lt hx19) Tryz.call166) ?_;refine vk (Aa) ?_
   obtain ⟨x20,hx20,h⟩:=bnd h
   refine vk (VOK.tupd (vs:=[.sl (L x20.1),.sl (L x20.2.1),.b x20.2.2]) (Ad (L4 hx20) Tryz.call199)) ?_;refine vk (Aa) ?_;refine vk (vex) ?_;refine vk (vex) ?_;refine vk (vex) ?_;refine ar [3,4,5,6,9,10] ?_;refine .sr ?_;refine vk (Aa) ?_;refine vk (Bz (Ab _) (Bo _) Jf) ?_;refine vk (vbi) ?_;refine rk [3,4,5,6,9,10,81] ?_
   by_cases hc:32<((List.length x20.1:Nat):Int)
   ·replace h:=Aj hc h
    refine cnt (dT hc) ?_;refine .sr ?_;refine vk (vbd Ee BO BN) ?_
    refine stn ?_ Ak (by decide)
    refine ar [3,4,5,6,9,10] ?_;refine .ret ?_
    cases h
    exact ⟨_,_,⟨.inr rfl,Au,Ak,(by decide:(0:Nat)<3)⟩,rfl,rfl⟩
   replace h:=Ai hc h
   refine cnf (dF hc) ?_;refine .skip ?_
   show AW _ _ _ _ _ _
   refine .region ?_;refine vk (Aa) ?_
   obtain ⟨x21,hx21,h⟩:=bnd h
   refine vk ((Ad (B3 hx21) Tryz.call121).deep) ?_;refine vk ((Ev (FX [s14,x21]) OG).deep) ?_
   obtain ⟨x22,hx22,h⟩:=bnd h
   refine vk (Ad (Mt hx22) Tryz.call165) ?_;refine asd ?_;refine .nil ?_;refine AL.gk [3,4,5,6,9,10] ?_
   exact ih (k,s11,s12,x20.1,x22) h (Nat.lt_succ_self _)
  replace h:=Ai hc h
  refine cnf (dF hc) ?_;refine .exit ?_
  show AW _ _ _ _ _ _
  refine .sr ?_;refine vk (Aa) ?_
  obtain ⟨x23,hx23,h⟩:=bnd h
  refine vk ((Ad (B3 hx23) Tryz.call121).deep) ?_;refine vk (vbd Ee BO BN) ?_
  refine stn ?_ Ak (by decide)
  refine ar [4,5] ?_;refine .ret ?_
  cases h
  exact ⟨_,_,⟨.inr rfl,Au,Ak,(by decide:(0:Nat)<3)⟩,rfl,rfl⟩
 replace h:=Ai hc h
 refine cnt (ntt (bf hc)) ?_;refine .sr ?_;refine vk (vbd Ee BO BN) ?_
 refine stn ?_ Ak (by decide)
 refine ar [2,3,4,5] ?_;refine .ret ?_
 cases h
 exact ⟨_,_,⟨.inr rfl,Au,Ak,(by decide:(0:Nat)<3)⟩,rfl,rfl⟩
theorem Iz {z : Int} (h1 : -9223372036854775808≤z) (h2 : z≤9223372036854775807) : w64 z=z:=Jd h1 h2
theorem Jl {α β : Type} {x : Option α} {a : α} {f : α→Option β} {r : Option β} (h : x=some a) (h2 : f a=r) : x.bind f=r:=by rw [h];exact h2
theorem Jj {r : RT} (h : Gl r=true) : Dx r=some (AQ r):=if_pos h
theorem Vh {l : List RT} (h : l.all Gl=true) (hl : l.length≤1048576) : Cw l=some (l.all AQ):=if_pos (by rw [h,Bool.true_and];exact dT hl)
theorem ZK {a b : RT} (ha : Gl a=true) (hb : Gl b=true) : Cw [a,b]=some (AQ a && AQ b):=by
 rw [Vh (by simp [ha,hb]) (by simp)];simp
theorem ZG {a b c : RT} (ha : Gl a=true) (hb : Gl b=true) (hc : Gl c=true) : Cw [a,b,c]=some (AQ a && (AQ b && AQ c)):=by
 rw [Vh (by simp [ha,hb,hc]) (by simp)];simp
theorem YV (a : RT) : EZ a=some ((a.2.1,a.2.2),a.1):=if_pos trivial
theorem Xm (a : (List Nat × List Nat) × Bool) : Lo a=some (a.1,!a.2):=if_pos trivial
theorem Yt : DS=some [1]:=if_pos trivial
theorem MA (p : Rat) : EZ (ofQ p)=some (qN (q3 p)):=YV _
theorem Aab (x : Q3) : Lo (qN x)=some (qN (!x.1,x.2.1,x.2.2)):=Xm _
theorem SX (x : Q3) : QN (qN x)=x:=by simp [QN,AD]
def sm (k : Nat) (x : Q3) : Prop:=(Ae x.2.1).length≤k∧(Ae x.2.2).length≤k
theorem GA {k l : Nat} {x : Q3} (h : sm k x) (hl : k≤l) : sm l x:=⟨Nat.le_trans h.1 hl,Nat.le_trans h.2 hl⟩
theorem Ny {p : Rat} (h : CZ p) : sm 32 (q3 p):=h
theorem Aac {x y : Q3} (hx : sm 4000 x) (hy : sm 4000 y) : Li (qN x) (qN y)=some (qN (Fl x y)):=by
 have:Li (qN x) (qN y)=some (qN (Fl (QN (qN x)) (QN (qN y)))):=if_pos (by
  simp only [Bool.and_eq_true]
  exact ⟨⟨Fi hx.1,Fi hx.2⟩,Fi hy.1,Fi hy.2⟩)
 rw [this,SX,SX]
theorem ZB {x y : Q3} (hx : sm 4000 x) (hy : sm 4000 y) : Hm (qN x) (qN y)=some (qN (GW x y)):=by
 have:Hm (qN x) (qN y)=some (qN (GW (QN (qN x)) (QN (qN y)))):=if_pos (by
  simp only [Bool.and_eq_true]
  exact ⟨⟨Fi hx.1,Fi hx.2⟩,Fi hy.1,Fi hy.2⟩)
 rw [this,SX,SX]
theorem ZJ {x y : Q3} {k : Nat} (hx : sm k x) (hy : sm k y) : sm (2 * k+1) (Fl x y):=by
 have l1:=Gb (AK x.2.1) (AK y.2.2) hx.1 hy.2
 have l2:=Gb (AK y.2.1) (AK x.2.2) hy.1 hx.2
 have l3:=Gb (AK x.2.2) (AK y.2.2) hx.2 hy.2
 rw [AD,AD] at l1 l2 l3
 have h2:(Fl x y).2.2=x.2.2 * y.2.2:=by simp only [Fl];split <;> first | rfl | (split <;> rfl)
 refine ⟨?_,by rw [h2];omega⟩
 simp only [Fl]
 generalize x.2.1 * y.2.2=a at *
 generalize y.2.1 * x.2.2=b at *
 split
 ·exact SW l1 l2
 ·split
  ·exact Nat.le_trans (Of l1) (by omega)
  ·exact Nat.le_trans (Of l2) (by omega)
theorem Za {x y : Q3} {k : Nat} (hx : sm k x) (hy : sm k y) : sm (2 * k) (GW x y):=by
 have l1:=Gb (AK x.2.1) (AK y.2.1) hx.1 hy.1
 have l3:=Gb (AK x.2.2) (AK y.2.2) hx.2 hy.2
 rw [AD,AD] at l1 l3
 exact ⟨l1,l3⟩
theorem Zh (x : Q3) : Hc (!x.1,x.2.1,x.2.2)=- Hc x:=by
 rw [Rat.neg_mkRat]
 have:sg (!x.1) x.2.1=- sg x.1 x.2.1:=by cases x.1 <;> simp [sg]
 rw [Hc,this]
theorem Yi {x : Q3} {k : Nat} (hx : sm k x) : sm k (!x.1,x.2.1,x.2.2):=hx
theorem OJ (p : Rat) : (q3 p).2.2 ≠ 0:=p.den_nz
theorem Yr {p q : Rat} (hp : CZ p) (hq : CZ q) : (AQ (ofQ p) && AQ (ofQ q))=true:=by rw [CO hp,CO hq];rfl
theorem WY {p : Rat} : (0 : Int)<((List.length (ofQ p).2.1 : Nat) : Int)↔p ≠ 0:=by
 show (0:Int)<(((Ae p.num.natAbs).length:Nat):Int)↔_
 constructor
 ·rintro h rfl
  rw [show (0:Rat).num.natAbs=0 from rfl,AF] at h;simp at h
 ·intro h
  have:p.num ≠ 0:=fun h2=>h (Rat.num_eq_zero.1 h2)
  have:Ae p.num.natAbs ≠ []:=fun h2=>this (by have:=E9.1 h2;omega)
  have:=List.length_pos_iff.2 this
  omega
theorem Zp {p : Rat} : ((List.length (ofQ p).2.1 : Nat) : Int)=0↔p=0:=by
 have:=@WY p
 constructor
 ·intro h
  by_cases hp:p=0
  ·exact hp
  ·have:=this.2 hp;omega
 ·intro h
  by_cases h0:((List.length (ofQ p).2.1:Nat):Int)=0
  ·exact h0
  ·exact absurd h (this.1 (by omega))
theorem Kw {z : Int} (h1 : -9223372036854775808≤z) (h2 : z≤9223372036854775807) : BM z=some (ofQ z):=by
 have:BM z=some (decide (z<0),Ae z.natAbs,[1]):=if_pos ⟨h1,h2⟩
 rw [this]
 show _=some (decide (z<0),Ae z.natAbs,Ae 1)
 rw [O7]
theorem T6 {z : Int} (h1 : -9223372036854775808≤z) (h2 : z≤9223372036854775808) : CZ (z : Rat):=by
 constructor
 ·show (Ae z.natAbs).length≤32
  exact Nat.le_trans (Ch (k:=3) (by omega)) (by decide)
 ·show (Ae 1).length≤32
  rw [O7];decide
mutual
def okI : Itm→Prop
 | .mk k n c b=>(0≤k∧k<256)∧Gl n=true∧(-2147483648≤c∧c<2147483648)∧b.length≤2932031007402∧okAs b
def okAr : Arr→Prop
 | .mk s i=>(∀ z ∈ s,-9223372036854775808≤z∧z≤9223372036854775807)∧s.length≤17592186044416∧i.length≤1466015503701∧okIs i
def okIs : List Itm→Prop
 | []=>True
 | x::xs=>okI x∧okIs xs
def okAs : List Arr→Prop
 | []=>True
 | x::xs=>okAr x∧okAs xs
end
theorem Pp : ∀ {xs : List Itm},okIs xs↔∀ x ∈ xs,okI x
 | []=>by simp [okIs]
 | x::xs=>by simp [okIs,Pp (xs:=xs)]
theorem PN : ∀ {xs : List Arr},okAs xs↔∀ x ∈ xs,okAr x
 | []=>by simp [okAs]
 | x::xs=>by simp [okAs,PN (xs:=xs)]
theorem Ez (x : Itm) : okI x↔(0≤x.kind∧x.kind<256)∧Gl x.num=true∧(-2147483648≤x.char∧x.char<2147483648)∧x.box.length≤2932031007402∧∀ a ∈ x.box,okAr a:=by
 cases x;simp only [okI,PN,Itm.kind,Itm.num,Itm.char,Itm.box]
theorem Bm (a : Arr) : okAr a↔(∀ z ∈ a.shape,-9223372036854775808≤z∧z≤9223372036854775807)∧a.shape.length≤17592186044416∧a.items.length≤1466015503701∧∀ x ∈ a.items,okI x:=by
 cases a;simp only [okAr,Pp,Arr.shape,Arr.items]
theorem Nw : ∀ {xs : List Itm} {x : Itm},x ∈ xs→x.size≤itsSize xs
 | y::xs,x,h=>by
  rw [itsSize]
  rcases List.mem_cons.1 h with rfl | h
  ·omega
  ·have:=Nw h;omega
theorem Po : ∀ {xs : List Arr} {x : Arr},x ∈ xs→x.size≤arsSize xs
 | y::xs,x,h=>by
  rw [arsSize]
  rcases List.mem_cons.1 h with rfl | h
  ·omega
  ·have:=Po h;omega
theorem Ga {a : Arr} {x : Itm} (h : x ∈ a.items) : x.size<a.size:=by
 cases a;have:=Nw (xs:=_) h;simp only [Arr.size,Arr.items] at *;omega
theorem Gg {x : Itm} {a : Arr} (h : a ∈ x.box) : a.size<x.size:=by
 cases x;have:=Po (xs:=_) h;simp only [Itm.size,Itm.box] at *;omega
theorem Di {n : Nat} (h : n≤140737488355328) : n<BC:=by unfold BC;omega
theorem Dj {i : Nat} (h : i≤9223372036854775806) : w64 ((i : Int)+1)=((i+1 : Nat) : Int):=by rw [Iz (by omega) (by omega)];omega
theorem Rn {α : Type} {xs : List α} {i : Nat} {x : α} (h : xs[i]?=some x) : rd? xs (i : Int)=some x:=by
 rw [rd?,if_pos (by omega)];simpa using h
theorem Dp {α : Type} {xs : List α} {i : Nat} (h : i<xs.length) : rd? xs (i : Int)=some xs[i]:=Rn (List.getElem?_eq_getElem h)
theorem KT {α : Type} {m : Nat} {xs ys : List α} (h : xs.length+ys.length≤m) : ap? m xs ys=some (xs++ys):=if_pos h
theorem NY {α : Type} {x : α} {xs : List α} : rd? (x::xs) 0=some x:=rfl
theorem KB {xs : List Int} {f : Bn} {p : Int→Bool} (hf : ∀ x ∈ xs,f.g x=some (p x)) (K : Int→Option Int) (hl : xs.length≤17592186044416) : ∀ (n i k : Nat) (s : Int),n=xs.length - i→i≤xs.length→n<k →
  AI xs f K k s (i:Int)=match (xs.drop i).findIdx? p with | some j=>some (((i+j:Nat)):Int) | none=>K s
 | n,i,0,s,_,_,h=>by omega
 | n,i,k+1,s,hn,hi,hk=>by
  rw [AI]
  by_cases hlt:i<xs.length
  ·rw [if_pos (by omega),Dp hlt,oB,hf _ (List.getElem_mem _),oB,List.drop_eq_getElem_cons hlt,List.findIdx?_cons]
   by_cases hp:p xs[i]=true
   ·rw [if_pos hp,if_pos hp];rfl
   ·rw [if_neg hp,if_neg hp,Dj (by omega),KB hf K hl (n - 1) (i+1) k s (by omega) (by omega) (by omega)]
    cases (xs.drop (i+1)).findIdx? p with
    | none=>rfl
    | some j=>simp only [Option.map_some];congr 1;omega
  ·rw [if_neg (by omega),List.drop_of_length_le (by omega)];rfl
theorem Hp {xs : List Int} {f : Bn} {p : Int→Bool} (hf : ∀ x ∈ xs,f.g x=some (p x)) (hl : xs.length≤17592186044416) : AZ xs f=some (xs.any p):=by
 unfold AZ BT
 simp only [jn]
 have:=KB hf (fun _=>some (-1)) hl xs.length 0 BC 0 rfl (Nat.zero_le _) (Di (by omega))
 rw [List.drop_zero] at this
 rw [show ((0:Nat):Int)=0 from rfl] at this
 rw [this]
 cases h:xs.findIdx? p with
 | none =>
  rw [oB]
  rw [List.findIdx?_eq_none_iff] at h
  rw [show (xs.any p)=false by rw [List.any_eq_false];intro x hx;simp [h x hx]]
  rfl
 | some j =>
  rw [oB]
  rw [List.findIdx?_eq_some_iff_getElem] at h
  obtain ⟨hj,h1,_⟩:=h
  rw [show (xs.any p)=true by rw [List.any_eq_true];exact ⟨_,List.getElem_mem hj,h1⟩]
  simp
theorem Js {xs : List Int} {v : Int} (K : Int→Option Int) (hl : xs.length≤17592186044416) : ∀ (n i k : Nat) (s : Int),n=xs.length - i→i≤xs.length→n<k →
  A4 xs v K k s (i:Int)=match (xs.drop i).findIdx? (fun x=>decide (v=x)) with | some j=>some (((i+j:Nat)):Int) | none=>K s
 | n,i,0,s,_,_,h=>by omega
 | n,i,k+1,s,hn,hi,hk=>by
  rw [A4]
  by_cases hlt:i<xs.length
  ·rw [if_pos (by omega),Dp hlt,oB,List.drop_eq_getElem_cons hlt,List.findIdx?_cons]
   by_cases hp:v=xs[i]
   ·rw [if_pos hp,if_pos (dT hp)];rfl
   ·rw [if_neg hp,if_neg (by simp [hp]),Dj (by omega),Js K hl (n - 1) (i+1) k s (by omega) (by omega) (by omega)]
    cases (xs.drop (i+1)).findIdx? (fun x=>decide (v=x)) with
    | none=>rfl
    | some j=>simp only [Option.map_some];congr 1;omega
  ·rw [if_neg (by omega),List.drop_of_length_le (by omega)];rfl
theorem P0 {xs : List Int} {v : Int} (hl : xs.length≤17592186044416) : Bt xs v=some (decide (v ∈ xs)):=by
 unfold Bt CI
 simp only [jn]
 have:=Js (v:=v) (fun _=>some (-1)) hl xs.length 0 BC 0 rfl (Nat.zero_le _) (Di (by omega))
 rw [List.drop_zero] at this
 rw [show ((0:Nat):Int)=0 from rfl] at this
 rw [this]
 cases h:xs.findIdx? (fun x=>decide (v=x)) with
 | none =>
  rw [oB]
  rw [List.findIdx?_eq_none_iff] at h
  rw [show decide (v ∈ xs)=false by rw [decide_eq_false_iff_not];intro hx;have:=h v hx;simp at this]
  rfl
 | some j =>
  rw [oB]
  rw [List.findIdx?_eq_some_iff_getElem] at h
  obtain ⟨hj,h1,_⟩:=h
  rw [show decide (v ∈ xs)=true by rw [decide_eq_true_eq];rw [decide_eq_true_eq] at h1;rw [h1];exact List.getElem_mem hj]
  simp
def Fw (s : List Int) : Int:=s.foldl (· * ·) 1
def szP (s : List Int) : Int × Int :=
 if 8<s.length then (0,4) else if s.any (fun n=>decide (n<0)) then (0,3) else if s.any (fun n=>decide (4096<n)) then (0,8) else if 0 ∈ s then (0,0) else if Fw s≤4096 then (Fw s,0) else (0,8)
theorem Lv (s : List Int) : ∀ n : Int,s.foldl (· * ·) n=n * s.foldl (· * ·) 1:=by
 induction s with
 | nil=>intro n;simp
 | cons x xs ih=>intro n;rw [List.foldl_cons,List.foldl_cons,ih (n * x),ih (1 * x),Int.one_mul,Int.mul_assoc]
theorem Lu {s : List Int} (h : ∀ x ∈ s,1≤x) : 1≤Fw s:=by
 induction s with
 | nil=>exact Int.le_refl _
 | cons x xs ih =>
  have h1:=h x (by simp)
  have h2:=ih fun y hy=>h y (by simp [hy])
  unfold Fw at *
  rw [List.foldl_cons,Lv,Int.one_mul]
  exact Int.le_trans (by omega:(1:Int)≤1 * 1) (Int.mul_le_mul h1 h2 (by omega) (by omega))
theorem M1 {s : List Int} (hl : s.length≤8) (hp : ∀ x ∈ s,1≤x∧x≤4096) (K : Int→Int→Int→Option (Int × Int)) : ∀ (n i k : Nat) (a b m : Int),n=s.length - i→i≤s.length→n<k→1≤m→m≤4096 →
  CJ s K k a b m (i:Int)=if m * Fw (s.drop i)≤4096 then K a b (m * Fw (s.drop i)) else some (0,8)
 | n,i,0,a,b,m,_,_,h,_,_=>by omega
 | n,i,k+1,a,b,m,hn,hi,hk,h1,h2=>by
  rw [CJ]
  by_cases hlt:i<s.length
  ·rw [if_pos (by omega),Dp hlt,oB,JO,if_pos (by omega),oB,List.drop_eq_getElem_cons hlt]
   have hx:=hp s[i] (List.getElem_mem _)
   have hq0:0≤Int.tdiv 4096 m:=Int.tdiv_nonneg (by omega) (by omega)
   have hq1:Int.tdiv 4096 m≤4096:=by rw [Int.tdiv_eq_ediv_of_nonneg (by omega)];exact Int.ediv_le_self _ (by omega)
   rw [Iz (by omega) (by omega)]
   have hpos:1≤Fw (s.drop (i+1)):=Lu fun x hx=>(hp x (List.mem_of_mem_drop hx)).1
   have hprod:Fw (s[i]::s.drop (i+1))=s[i] * Fw (s.drop (i+1)):=by unfold Fw;rw [List.foldl_cons,Lv,Int.one_mul]
   have hdiv:Int.tdiv 4096 m<s[i]↔4096<m * s[i]:=by
    rw [Int.tdiv_eq_ediv_of_nonneg (by omega),Int.ediv_lt_iff_lt_mul (by omega),Int.mul_comm]
   rw [hprod,← Int.mul_assoc]
   by_cases hc:4096<m * s[i]
   ·rw [if_pos (hdiv.2 hc),if_neg]
    have:m * s[i] * 1≤m * s[i] * Fw (s.drop (i+1)):=Int.mul_le_mul_of_nonneg_left hpos (by omega)
    omega
   ·have hm1:1≤m * s[i]:=Int.le_trans (by omega:(1:Int)≤1 * 1) (Int.mul_le_mul h1 hx.1 (by omega) (by omega))
    rw [if_neg (fun h=>hc (hdiv.1 h)),Dj (by omega),Iz (by omega) (by omega)]
    exact M1 hl hp K (n - 1) (i+1) k a b (m * s[i]) (by omega) (by omega) (by omega) hm1 (by omega)
  ·rw [if_neg (by omega),List.drop_of_length_le (by omega)]
   rw [show Fw []=1 from rfl,Int.mul_one,if_pos h2]
theorem ID {s : List Int} (hl : s.length≤17592186044416) : C6 s=some (szP s):=by
 unfold C6 szP
 by_cases h8:8<s.length
 ·rw [if_pos (by omega),if_pos h8]
 rw [if_neg (by omega),if_neg h8]
 rw [Hp (p:=fun n=>decide (n<0)) (fun x _=>rfl) hl,oB]
 by_cases h0:s.any (fun n=>decide (n<0))=true
 ·rw [if_pos h0,if_pos h0]
 rw [if_neg h0,if_neg h0]
 rw [Hp (p:=fun n=>decide (4096<n)) (fun x _=>rfl) hl,oB]
 by_cases h1:s.any (fun n=>decide (4096<n))=true
 ·rw [if_pos h1,if_pos h1]
 rw [if_neg h1,if_neg h1,P0 hl,oB]
 by_cases h2:0 ∈ s
 ·rw [if_pos (dT h2),if_pos h2]
 rw [if_neg (by simp [h2]),if_neg h2]
 have hp:∀ x ∈ s,1≤x∧x≤4096:=fun x hx=>by
  simp only [List.any_eq_true,decide_eq_true_eq,not_exists,not_and] at h0 h1
  have a:=h0 x hx
  have b:=h1 x hx
  have c:x ≠ 0:=fun e=>h2 (e ▸ hx)
  omega
 have:=M1 (by omega) hp (fun z4 z5 z6=>some (z6,0)) s.length 0 BC 0 0 1 rfl (Nat.zero_le _) (Di (by omega)) (by omega) (by omega)
 rw [List.drop_zero,Int.one_mul,show ((0:Nat):Int)=0 from rfl] at this
 simp only [jn]
 rw [this]
 split <;> rfl
theorem IA (s : List Int) : 0≤(szP s).1∧(szP s).1≤4096:=by
 unfold szP
 split
 ·exact ⟨by decide,by decide⟩
 split
 ·exact ⟨by decide,by decide⟩
 split
 ·exact ⟨by decide,by decide⟩
 split
 ·exact ⟨by decide,by decide⟩
 split
 ·rename_i h8 h0 h1 h2 h3
  refine ⟨?_,h3⟩
  have:1≤Fw s:=Lu fun x hx=>by
   simp only [List.any_eq_true,decide_eq_true_eq,not_exists,not_and] at h0 h1
   have a:=h0 x hx
   have c:x ≠ 0:=fun e=>h2 (e ▸ hx)
   omega
  omega
 ·exact ⟨by decide,by decide⟩
section
variable {H : Type} {enc : TypeId × Value→H} {W : World}
theorem Wv {n : Nat} : OpF enc Tryz.prog W (n+1) 22 (fun l : List Int=>[.sl (Is l)]) (fun l=>(∀ z ∈ l,-9223372036854775808≤z∧z≤9223372036854775807)∧l.length≤17592186044416):=by
 refine (Kz (α:=Int) (F:=fun z=>[.i .i64 z]) (sz:=1) (fun z=>.i .i64 z) (by kernel_rfl:Tryz.prog.underlying 22=some (.slice 3)) (by kernel_rfl) (by decide) (fun _=>rfl) (Q7 (by kernel_rfl))).map fun zs hz=>?_
 refine ⟨zs,⟨fun z h=>?_,?_⟩,rfl⟩
 ·have:=hz.1 z h
  simp [Lit.wf,IntKind.min,IntKind.max,IntKind.signed,IntKind.bits] at this
  omega
 ·have h3:=hz.2
  rw [show Tryz.prog.bytesOf 3=8 by kernel_rfl,show reachBytes=140737488351232 by decide] at h3
  omega
theorem Yk (n : Nat) : OpF enc Tryz.prog W n 22 (fun l : List Int=>[.sl (Is l)]) (fun l=>(∀ z ∈ l,-9223372036854775808≤z∧z≤9223372036854775807)∧l.length≤17592186044416):=Wv.mono (Nat.le_succ n)
def cI6 (x : Itm) : List DV:=[.i .u8 x.kind,.b x.num.1,.sl (L x.num.2.1),.sl (L x.num.2.2),.i .i32 x.char,.sl (Ars x.box)]
def cA2 (a : Arr) : List DV:=[.sl (Is a.shape),.sl (Its a.items)]
theorem WM {n : Nat} (h : OpF enc Tryz.prog W n 25 cA2 okAr) : OpF enc Tryz.prog W (n+1) 81 (fun l : List Arr=>[.sl (Ars l)]) (fun l=>l.length≤2932031007402∧∀ a ∈ l,okAr a):=by
 refine (Kz (α:=Arr) (F:=cA2) (sz:=2) Arr.dv (by kernel_rfl:Tryz.prog.underlying 81=some (.slice 25)) (by kernel_rfl) (by decide) (fun a=>by rw [Arr.dv_eq];rfl) h).map fun zs hz=>?_
 refine ⟨zs,⟨?_,hz.1⟩,by rw [Ht]⟩
 have h3:=hz.2
 rw [show Tryz.prog.bytesOf 25=48 by kernel_rfl,show reachBytes=140737488351232 by decide] at h3
 omega
theorem Vj {n : Nat} (h : OpF enc Tryz.prog W n 83 cI6 okI) : OpF enc Tryz.prog W (n+1) 23 (fun l : List Itm=>[.sl (Its l)]) (fun l=>l.length≤1466015503701∧∀ x ∈ l,okI x):=by
 refine (Kz (α:=Itm) (F:=cI6) (sz:=6) Itm.dv (by kernel_rfl:Tryz.prog.underlying 23=some (.slice 83)) (by kernel_rfl) (by decide) (fun a=>by rw [Itm.dv_eq];rfl) h).map fun zs hz=>?_
 refine ⟨zs,⟨?_,hz.1⟩,by rw [Gy]⟩
 have h3:=hz.2
 rw [show Tryz.prog.bytesOf 83=96 by kernel_rfl,show reachBytes=140737488351232 by decide] at h3
 omega
theorem U1 : ∀ n,OpF enc Tryz.prog W n 83 cI6 okI∧OpF enc Tryz.prog W n 25 cA2 okAr
 | 0=>by
  constructor <;>
  ·intro fuel cs x hf h _
   obtain rfl:fuel=0:=by omega
   simp [DataW.trod] at h
 | n+1=>by
  obtain ⟨hI,hA⟩:=U1 n
  constructor
  ·refine OpF.mono (n:=n+1+1) ((Tw (t:=83) (T0:=80) (T1:=32) (T2:=21) (T3:=81) (s0:=1) (s1:=3) (s2:=1) (s3:=1) (by kernel_rfl) (by kernel_rfl) (by kernel_rfl) (Q7 (by kernel_rfl:Tryz.prog.underlying 80=some (.int .u8))) (by kernel_rfl) (Zo (n+1)) (by kernel_rfl) (Q7 (by kernel_rfl:Tryz.prog.underlying 21=some (.int .i32))) (by kernel_rfl) (WM hA)).map fun r hr=>?_) (Nat.le_succ _)
   obtain ⟨k,q,c,b⟩:=r
   obtain ⟨h1,h2,h3,h4⟩:=hr
   refine ⟨.mk k q c b,?_,rfl⟩
   rw [Ez]
   refine ⟨?_,h2,?_,h4⟩
   ·simp [Lit.wf,IntKind.min,IntKind.max,IntKind.signed,IntKind.bits] at h1
    show 0≤k∧k<256
    omega
   ·simp [Lit.wf,IntKind.min,IntKind.max,IntKind.signed,IntKind.bits] at h3
    show -2147483648≤c∧c<2147483648
    omega
  ·refine OpF.mono (n:=n+1+1) ((TW (t:=25) (T0:=22) (T1:=23) (s0:=1) (s1:=1) (by kernel_rfl) (by kernel_rfl) (by kernel_rfl) (Yk (n+1)) (by kernel_rfl) (Vj hI)).map fun r hr=>?_) (Nat.le_succ _)
   obtain ⟨s,i⟩:=r
   obtain ⟨⟨h1,h2⟩,h3,h4⟩:=hr
   refine ⟨.mk s i,?_,rfl⟩
   rw [Bm]
   exact ⟨h1,h2,h3,h4⟩
theorem Yu (n : Nat) : OpF enc Tryz.prog W n 25 (fun a : Arr=>[.sl (Is a.shape),.sl (Its a.items)]) okAr:=(U1 n).2
end
end Go.FL
namespace Go.FL
open Go Go.RowKit
section
variable {P : Program} {C : Cx} {X : Snap} {o : Oper} {ops : Array Oper} {Q : Exit→Env→Af→Prop} {env env' : Env} {H H' : Af} {a : Act} {w w' : World} {I I' : Nat→Prop} {μ μ' : List Nat} {O O' : Nat→Option Loc}
 {K:Env→Af→Prop} {k:Nat} {l:List Oper}
theorem Wj {blk : Nat} {u0 u1 v0 v1 : Value} {e : TypeId} (h : w.heap[blk]?=some (.cells #[u0,u1] e (0,0))) : w.setRow blk #[v0,v1]=(w.setCell ⟨blk,0,none⟩ v0).setCell ⟨blk,1,none⟩ v1:=by
 obtain ⟨hlt,hv⟩:=Array.getElem?_eq_some_iff.1 h
 have e1:w.heap.modify blk (fun | .cells _ elem frozen=>.cells #[v0,v1] elem frozen | o=>o)=(w.heap.modify blk (fun | .cells c elem frozen=>.cells (c.setIfInBounds 0 v0) elem frozen | o=>o)).modify blk (fun | .cells c elem frozen=>.cells (c.setIfInBounds 1 v1) elem frozen | o=>o):=by
  apply Array.ext
  ·simp
  ·intro i h1 h2
   simp only [Array.getElem_modify]
   by_cases hi:blk=i
   ·subst hi;simp only [if_true,hv];simp
   ·simp only [if_neg hi]
 unfold World.setRow World.setCell
 simp only [Option.isSome_none,Bool.false_eq_true,if_false]
 exact congrArg (fun x=>({ w with heap:=x }:World)) e1
theorem bdo {ty s t e : Nat} {parts : Array (Nat × Operand)} {places : List (Nat × Nat)} {z : Value} {xs : List DV} (hp : CH P ty=some places) (hz : (P.info? ty).bind (·.zero)=some z) (hzr : z=.agg #[.slice none 0 0,.slice none 0 0]) (h : RL P C ops Q (k+1) l ((t,.ag [.own e xs,.nl])::(s,.un)::env) H)
  (hpl:places=[(0,1),(1,1)]:=by rfl) (hg:grd ops env o true=true:=by rfl) (ho:o.op=.build ty parts:=by rfl) (hpa:parts=#[(0,.tmp s)]:=by rfl) (hv:get env s=.own e xs:=by rfl) (hd:o.dst=some t:=by rfl)
  (hf:Ao (get env t)=false:=by rfl) (hr:C5 s env=false:=by rfl) (ht:okT C.nt t:=by rfl):RL P C ops Q k (o::l) env H:=by
 have hst:=ED hv hf
 subst hpl hzr
 refine .go hg (.val (t:=t) (av:=.ag [.own e xs,.nl]) (env':=put env s .un) (H':=H) (by simp [ho]) hd ht (fun X a w I μ O _ _ _ hs=>?_) ?_)
 ·obtain ⟨k1,bs,k2,k3,k4⟩:=hs.take s (by rw [hv];rfl)
  rw [hv] at k2
  have hb:P.built ty [(0,a.tmps.getD s undef)]=some #[a.tmps.getD s undef,.slice none 0 0]:=by
   unfold CH at hp
   unfold Program.built
   cases hi:P.info? ty with
   | none=>rw [hi] at hz;cases hz
   | some it =>
    rw [hi] at hz
    simp only [oB] at hz
    split at hp
    ·rename_i fields hu
     simp only [hu,hz,hp]
     have hone:∃ A n c,a.tmps.getD s undef=.slice A n c:=by
      generalize a.tmps.getD s undef=u at k2
      cases k2 with
      | own _ _ _ vs hsz ho' hr' =>
       rcases ho' with ⟨A,h1,_⟩ | ⟨_,g,cap,h1,_⟩ <;> exact ⟨_,_,_,h1⟩
     obtain ⟨A,n,c,hu3⟩:=hone
     rw [hu3]
     simp [Instr.fill,Value.cells]
    ·cases hp
  refine ⟨.agg #[a.tmps.getD s undef,.slice none 0 0],w,I,μ,_,?_,k1,bs,?_,k3,k4⟩
  ·simp only [execOp,ho,hpa,Sem.run_bind]
   have:=run_build (P:=P) w ty #[(0,a.tmps.getD s undef)] #[a.tmps.getD s undef,.slice none 0 0] (by simpa using hb)
   simp only [List.map_toArray,List.map_cons,List.map_nil,Act.eval]
   rw [this]
   simp only [Result.andThen_ok,Sem.run_pure]
  ·have:=ARep.ag (ARepAll.cons k2 (ARepAll.cons (.nl (P:=P) (w:=w) (I:=I) (μ:=μ)) .nil))
   simpa using this
 ·refine RL.gh (Gh.same fun q=>?_) h
  have h1:Ao (get (put env s .un) t)=false:=by rw [Cq hr];simp [get,hst,hf]
  rw [Al h1]
  simp only [get]
  split
  ·rfl
  ·rw [Cq hr];rfl
theorem st2 {x : Operand} {r ty id : Nat} {c0 c1 a0 a1 : AV} (hH : H[id]?=some (.box [c0,c1])) (h : RL P C ops Q (k+1) l ((r,.un)::env) (H.set id (.box [a0,a1]))) (hsz : AB P ty=2) (hg : grd ops env o true=true:=by rfl)
  (ho:o.op=.store ty x (.tmp r):=by rfl) (hv:lk env x=.bp id 0:=by rfl) (hy:get env r=.ag [a0,a1]:=by rfl) (n0:Ao c0=false:=by rfl) (n1:Ao c1=false:=by rfl) (m0:one a0=true:=by rfl) (m1:one a1=true:=by rfl) (hd:o.dst=none:=by rfl) (h0:C.n0=0:=by rfl):RL P C ops Q k (o::l) env H:=by
 obtain ⟨h1,h2⟩:=Ax hv (by simp)
 have hlt:id<H.length:=(List.getElem?_eq_some_iff.1 hH).1
 refine .go hg (.done (env':=put env r .un) (H':=H.set id (.box [a0,a1])) (by simp [ho]) hd (fun X a w I μ O _ g2 _ hs=>?_) ?_)
 ·obtain ⟨blk,hm,he⟩:=hs.bp h1 h2
  obtain ⟨k1,bs,k2,k3,k4⟩:=hs.take r (by rw [hy];rfl)
  rw [hy] at k2
  generalize hev:a.tmps.getD r undef=u at k2
  cases k2 with
  | @ag _ vs _ k2 =>
   cases k2 with
   | @cons _ v0 _ _ b0 b1' q0 k2 =>
    cases k2 with
    | @cons _ v1 _ _ b1 b2 q1 k2 =>
     cases k2
     rw [List.append_nil] at k3 k4
     obtain ⟨d0,d1,d2⟩:=List.nodup_append.1 k3
     obtain ⟨s1,⟨y1,w1⟩,f1⟩:=k1.storeC (off:=0) hH rfl hm (by omega) q0 d0 fun b hb=>k4 b (by simp [hb])
     rw [n0] at s1
     have e1:Ew H id 0 a0=H.set id (.box [a0,c1]):=by simp [Ew,hH]
     rw [e1] at s1
     have hH1:(H.set id (.box [a0,c1]))[id]?=some (.box [a0,c1]):=List.getElem?_set_self hlt
     have q1':ARep P (w.setCell ⟨blk,0,none⟩ v0) I μ a1 v1 b1:=by
      obtain ⟨blk',bs',g1,⟨cells,et,g3,g4⟩,g5,_⟩:=k1.heap id _ hH
      rw [hm] at g1;cases g1
      have hOb:=(g5 (by omega)).2 blk (by simp)
      refine q1.keep (fun _ h=>h) (fun b hi=>heap_setCell_other w _ b v0 fun e=>?_) (fun _ _ h=>h) fun b hb=>heap_setCell_other w _ b v0 fun e=>?_
      ·have e':b=blk:=e
       subst e';exact (k1.own _ _ hOb).2 hi
      ·have e':b=blk:=e
       subst e'
       have h7:(O b).map (toR r)=some .r:=k4 b (by simp [hb])
       have h8:(O b).map (toR r)=some (.o id):=hOb
       rw [h7] at h8;cases h8
     obtain ⟨s2,⟨y2,w2⟩,f2⟩:=s1.storeC (off:=1) hH1 rfl hm (by omega) q1' d1 fun b hb=>by
      show (if b ∈ b0 then _ else _)=_
      rw [if_neg fun hm=>d2 b hm b hb rfl];exact k4 b (by simp [hb])
     rw [n1] at s2
     have e2:Ew (H.set id (.box [a0,c1])) id 1 a1=H.set id (.box [a0,a1]):=by simp [Ew,hH1]
     rw [e2] at s2
     refine ⟨_,I,μ,_,?_,s2⟩
     obtain ⟨blk',bs',g1,⟨cells,et,g3,g4⟩,g5,_⟩:=k1.heap id _ hH
     rw [hm] at g1;cases g1
     have hcl:cells.toList.length=2:=g4.length.symm
     obtain ⟨u0,u1,hcc⟩:∃ u0 u1,cells=#[u0,u1]:=by
      obtain ⟨l⟩:=cells
      match l,hcl with
      | [x,y],_=>exact ⟨x,y,rfl⟩
     rw [hcc] at g3
     have hone0:=G0 q0 m0
     have hone1:=G0 q1 m1
     obtain ⟨i,i1,i2⟩:=Hw (P:=P) (t:=ty) (by omega)
     have hsi:(P.info? ty).map (·.size)=some (#[v0,v1]:Array Value).size:=by rw [i1];simp;omega
     have hrun:=run_storeVar_row (P:=P) w blk et ty #[u0,u1] #[v0,v1] g3 hsi rfl (by simp [hone0,hone1])
     have hevr:a.eval (.tmp r)=.agg #[v0,v1]:=by show a.tmps.getD r undef=_;rw [hev]
     simp only [execOp,ho,he,hevr,Instr.storeAt,Instr.sureAddr,Sem.run_bind,Sem.run_pure,Result.andThen_ok,hrun]
     rw [Wj g3]
 ·refine RL.gh (Gh.same fun q=>?_) h
  rw [Al (by rw [hy];rfl)]
section
variable {nt : Nat × Nat} {J : JT} {ags : List Value} {QJ : Exit→Env→Af→Nat→Prop} {n : Nat}
end
end
end Go.FL
namespace Go.FL
open Go Go.RowKit
def FnN (P : Program) (f : FuncId) (args : List DV) (r : AV) : Prop :=
 ∀ (w:World) (I:Nat→Prop) (vs:List Value),(∀ b,I b→b<w.heap.size)→RepAll w I args vs →
  CallsIn (om none) 0 P f (Value.slice none 0 0::vs).toArray w fun e w'=>∃ v I' bs,e=.returned v∧Below w.heap.size w w'∧(∀ b,I b→I' b) ∧
   (∀ b,I' b→b<w'.heap.size∧(b<w.heap.size→I b))∧ARep P w' I' [] r v bs∧bs.Nodup∧∀ b ∈ bs,w.heap.size≤b∧b<w'.heap.size∧¬ I' b
section
variable {P : Program} {H : Af}
def Y5 (P : Program) (f : FuncId) (e : TypeId) (M : Nat) : Prop:=∀ (n : Nat) (w : World),n≤M →
 Calls P f #[.slice none 0 0,.int .i64 n] w fun x w'=>(x=.returned (.slice none 0 0)∧w'=w) ∨
  (∃ (cap:Nat) (cells:Array Value),0<cap∧cap≤maxLen∧cells.size=cap * AB P e∧x=.returned (.slice (some ⟨w.heap.size,0,none⟩) 0 cap)∧w'=w.drew.alloc (.cells cells e))
theorem FnN.grow {f e M : Nat} (hsz : 0<AB P e) (h : Y5 P f e M) {n : Nat} (hn : n≤M) : FnN P f [.i .i64 n] (.own e []):=by
 intro w I vs hI ha
 have hvs:vs=[.int .i64 n]:=by
  cases ha with
  | cons h1 ha=>cases ha;cases h1;rfl
 subst hvs
 rw [We]
 refine callsIn_wide.2 ((h n w hn).mono fun x w' hx=>?_)
 rcases hx with ⟨rfl,rfl⟩ | ⟨cap,cells,h0,hm,hc,rfl,rfl⟩
 ·refine ⟨_,I,[],rfl,Below.refl _ _,fun _ h=>h,fun b hb=>⟨hI b hb,fun _=>hb⟩,?_,List.nodup_nil,nofun⟩
  exact .own e [] (.slice none 0 0) [] hsz (.inl ⟨none,rfl,rfl,rfl⟩) (.nil _)
 ·have hlt:w.heap.size<(w.drew.alloc (.cells cells e)).heap.size:=(Array.getElem?_eq_some_iff.1 (heap_alloc_new w.drew (.cells cells e))).1
  have ho:OwnR (w.drew.alloc (.cells cells e)) e (AB P e) (.slice (some ⟨w.heap.size,0,none⟩) 0 cap) 0 []:=by
   refine .inr ⟨⟨by simp,.inr ⟨w.heap.size,cap,cells,rfl,Nat.zero_le _,heap_alloc_new w.drew _,Nat.zero_le _,hm,hc,by simp⟩⟩,w.heap.size,cap,rfl,h0⟩
  refine ⟨_,I,[w.heap.size],rfl,?_,fun _ h=>h,fun b hb=>⟨Nat.lt_trans (hI b hb) hlt,fun _=>hb⟩,?_,by simp,fun b hb=>?_⟩
  ·exact ((Below.refl _ w).drew).alloc (Nat.le_refl _) _
  ·have:[w.heap.size]=BA (.slice (some ⟨w.heap.size,0,none⟩) 0 cap):=by simp [BA,Nat.pos_iff_ne_zero.1 h0]
   rw [this]
   exact .own e [] _ [] hsz ho (.nil _)
  ·rw [List.mem_singleton] at hb
   subst hb
   exact ⟨Nat.le_refl _,hlt,fun hi=>by have:=hI _ hi;omega⟩
end
section
variable {P : Program} {C : Cx} {o : Oper} {ops : Array Oper} {Q : Exit→Env→Af→Prop} {env : Env} {H : Af} {k : Nat} {l : List Oper}
end
end Go.FL
namespace Go.FL
open Go Go.RowKit
section
variable {P : Program} {C : Cx} {X : Snap} {o : Oper} {ops : Array Oper} {Q : Exit→Env→Af→Prop} {env env' : Env} {H H' : Af} {a : Act} {w w' : World} {I I' : Nat→Prop} {μ μ' : List Nat} {O O' : Nat→Option Loc}
 {K:Env→Af→Prop} {k:Nat} {l:List Oper}
theorem Zt {ty : Nat} (ho : o.op=.makeMap ty none:=by rfl) : VOK P C o env H (.om [] []) :=
 .val (by simp [ho]) fun X a w I μ O _ _ _ hs =>
  ⟨.map (some w.heap.size),w.alloc (.map #[] 0),I,[w.heap.size],by simp [execOp,ho,Instr.makeMap,newObj,Sem.run],Bd _,fun b hi=>hi,fun b hi=>⟨Nat.lt_of_lt_of_le (hs.ilt b hi) (Bd _).size,fun _=>hi⟩,
   ARep.om [] [] [] [] w.heap.size #[] 0 (heap_alloc_new w _) .nil .nil (List.Perm.refl _) rfl,by simp,fun b hb=>by
    simp at hb;subst hb
    exact ⟨Nat.le_refl _,by simp,fun hi=>by have:=hs.ilt _ hi;omega⟩⟩
def freshK (q : IntKind) (z : Int) (ks : List DV) : Prop:=∀ k ∈ ks,∃ z',k=.i q z'∧z' ≠ z
theorem QY {α β : Type} : ∀ {ks : List α} {vs : List β} {x : α},ks.length=vs.length→x ∈ ks→∃ v,(x,v) ∈ ks.zip vs
 | k::ks,v::vs,x,hl,h=>by
  rcases List.mem_cons.1 h with rfl | h
  ·exact ⟨v,by simp⟩
  ·obtain ⟨u,hu⟩:=QY (ks:=ks) (vs:=vs) (by simpa using hl) h
   exact ⟨u,by simp [hu]⟩
theorem Kf {q : IntKind} {z : Int} {ty : TypeDesc} (hty : ty=.int q) : ∀ {es : List MapEntry} {ks : List DV} (n : Nat),RepAll w I ks (es.map MapEntry.key)→freshK q z ks→Instr.findNow ty (.int q z) es n=some none
 | [],_,n,_,_=>rfl
 | e::es,ks,n,hk,hf=>by
  subst hty
  cases hk with
  | @cons c _ cs _ h t =>
   obtain ⟨z',rfl,hz⟩:=hf c (by simp)
   have he:e.key=.int q z':=by
    generalize e.key=u at h
    cases h;rfl
   have hs:Instr.sameNow (.int q) (.int q z) e.key=some false:=by
    rw [he];simp [Instr.sameNow];exact fun h=>hz h.symm
   simp only [Instr.findNow,hs]
   exact Kf rfl (n+1) t fun k hk=>hf k (by simp [hk])
theorem MS {q : IntKind} {z : Int} {ty : TypeDesc} (hty : ty=.int q) {d : DV} : ∀ {es : List MapEntry} {ks vs : List DV} (n : Nat),RepAll w I ks (es.map MapEntry.key)→RepAll w I vs (es.map MapEntry.val) →
  (∀ k ∈ ks,∃ z',k=.i q z')→(.i q z,d) ∈ ks.zip vs→(∀ d',(.i q z,d') ∈ ks.zip vs→d'=d)→∃ i v,Instr.findNow ty (.int q z) es n=some (some (i,v))∧Rep w I d v
 | [],_,_,n,hk,_,_,hm,_=>by cases hk;simp at hm
 | e::es,ks,vs,n,hk,hv,hi,hm,hu=>by
  subst hty
  cases hk with
  | @cons c _ cs _ h t =>
   cases hv with
   | @cons c2 _ cs2 _ h2 t2 =>
    obtain ⟨z',rfl⟩:=hi c (by simp)
    have he:e.key=.int q z':=by
     generalize e.key=u at h
     cases h;rfl
    by_cases hz:z=z'
    ·subst hz
     have hs:Instr.sameNow (.int q) (.int q z) e.key=some true:=by rw [he];simp [Instr.sameNow]
     refine ⟨n,e.val,by simp only [Instr.findNow,hs],?_⟩
     have:=hu c2 (by simp)
     subst this;exact h2
    ·have hs:Instr.sameNow (.int q) (.int q z) e.key=some false:=by rw [he];simp [Instr.sameNow];exact hz
     simp only [Instr.findNow,hs]
     refine MS rfl (n+1) t t2 (fun k hk=>hi k (by simp [hk])) ?_ (fun d' hd=>hu d' (by simp [hd]))
     simp only [List.zip_cons_cons,List.mem_cons,Prod.mk.injEq,DV.i.injEq,true_and] at hm
     rcases hm with ⟨h3,_⟩ | hm
     ·exact absurd h3 hz
     ·exact hm
theorem J3 {kt : TypeId} {q : IntKind} {z : Int} (hk : P.underlying kt=some (.int q)) (b : Bool) (n : Nat) : (Instr.checkKey b (n+1) kt (.int q z)).run P w=.ok () w:=by
 unfold Instr.checkKey
 simp [run_underlying hk]
theorem HK {kt : TypeId} {q : IntKind} {z : Int} {es : List MapEntry} {r : Option (Nat × Value)} (hk : P.underlying kt=some (.int q)) (hf : Instr.findNow (.int q) (.int q z) es 0=some r) : (Instr.findKey kt (.int q z) es).run P w=.ok r w:=by
 simp [Instr.findKey,run_underlying hk,hf]
theorem NR {r : Nat} {es : Array MapEntry} {c : Nat} (hh : w.heap[r]?=some (.map es c)) : (getObj r).run P w=.ok (.map es c) w:=by
 simp [getObj,Sem.run,hh]
theorem QI {ty kt et : TypeId} {q : IntKind} {r : Nat} {es : Array MapEntry} {clock : Nat} {z : Int} {v : Value} (hu : P.underlying ty=some (.map kt et)) (hk : P.underlying kt=some (.int q)) (hh : w.heap[r]?=some (.map es clock)) (hf : Instr.findNow (.int q) (.int q z) es.toList 0=some none) :
  (Instr.mapUpdate ty (.map (some r)) (.int q z) v).run P w=.ok () { w with heap:=w.heap.setIfInBounds r (.map (es.push { key:=.int q z,val:=v,born:=clock }) (clock+1)) }:=by
 have h1:=J3 (w:=w) (z:=z) hk false 9999
 have h2:=HK (w:=w) (z:=z) hk hf
 have h3:=NR (P:=P) hh
 unfold Instr.mapUpdate
 simp only [run_underlying hu,Sem.run_bind,Result.andThen_ok,h1,h2,h3]
 simp [setObj,Sem.run,hh]
theorem L9 {ty kt et : TypeId} {q : IntKind} {r : Nat} {es : Array MapEntry} {clock : Nat} {z : Int} {i : Nat} {v : Value} (hu : P.underlying ty=some (.map kt et)) (hk : P.underlying kt=some (.int q)) (hh : w.heap[r]?=some (.map es clock)) (hf : Instr.findNow (.int q) (.int q z) es.toList 0=some (some (i,v))) :
  (Instr.lookup ty (.map (some r)) (.int q z) false).run P w=.ok v w:=by
 have h1:=J3 (w:=w) (z:=z) hk es.isEmpty 9999
 have h2:=HK (w:=w) (z:=z) hk hf
 have h3:=NR (P:=P) hh
 unfold Instr.lookup
 simp only [run_underlying hu,Sem.run_bind,Sem.run_pure,Result.andThen_ok,h1,h2,h3]
 rfl
theorem KV {ty kt et : TypeId} {q : IntKind} {r : Nat} {es : Array MapEntry} {clock : Nat} {z : Int} {v : Value} (hu : P.underlying ty=some (.map kt et)) (hk : P.underlying kt=some (.int q)) (hz : (zeroValue et).run P w=.ok v w) (hh : w.heap[r]?=some (.map es clock)) (hf : Instr.findNow (.int q) (.int q z) es.toList 0=some none) :
  (Instr.lookup ty (.map (some r)) (.int q z) false).run P w=.ok v w:=by
 have h1:=J3 (w:=w) (z:=z) hk es.isEmpty 9999
 have h2:=HK (w:=w) (z:=z) hk hf
 have h3:=NR (P:=P) hh
 unfold Instr.lookup
 simp only [run_underlying hu,Sem.run_bind,Sem.run_pure,Result.andThen_ok,h1,h2,h3,hz]
 rfl
theorem Kl {ks vs ks' vs' : List DV} (hp : (ks'.zip vs').Perm (ks.zip vs)) (hl : ks'.length=vs'.length) {k : DV} (h : k ∈ ks') : k ∈ ks:=by
 obtain ⟨v,hv⟩:=QY hl h
 exact (List.of_mem_zip (hp.mem_iff.1 hv)).1
theorem Sim.om_inv (hs : Sim P X env H a w I μ O) {t : Nat} {ks vs : List DV} (hg : get env t=.om ks vs) :
  ∃ blk es c ks' vs',a.tmps.getD t undef=.map (some blk)∧w.heap[blk]?=some (.map es c)∧RepAll w I ks' (es.toList.map MapEntry.key)∧RepAll w I vs' (es.toList.map MapEntry.val)∧(ks'.zip vs').Perm (ks.zip vs)∧ks.length=vs.length∧O blk=some (.t t):=by
 have:=hs.envr t
 rw [hg] at this
 obtain ⟨bs,h1,h2,h3⟩:=this.plain rfl
 generalize a.tmps.getD t undef=v at h1
 cases h1 with
 | om _ _ ks' vs' blk es c hh hk hv hp hl=>exact ⟨blk,es,c,ks',vs',rfl,hh,hk,hv,hp,hl,h3 blk (by simp)⟩
theorem Sim.ins (hs : Sim P X env H a w I μ O) {t : Nat} {ks vs : List DV} (hg : get env t=.om ks vs) {ty kt et : TypeId} {q : IntKind} {z : Int} {d : DV} {v : Value} (hu : P.underlying ty=some (.map kt et)) (hk : P.underlying kt=some (.int q)) (hf : freshK q z ks) (hv : Rep w I d v) :
  ∃ w',(Instr.mapUpdate ty (a.tmps.getD t undef) (.int q z) v).run P w=.ok () w'∧Sim P X ((t,.om (ks++[.i q z]) (vs++[d]))::env) H a w' I μ O:=by
 obtain ⟨blk,es,c,ks',vs',h1,h2,h3,h4,h5,h6,hO⟩:=hs.om_inv hg
 have hl':ks'.length=vs'.length:=by rw [h3.length,h4.length,List.length_map,List.length_map]
 have hfn:=Kf (q:=q) (z:=z) rfl 0 h3 fun k hk=>hf k (Kl h5 hl' hk)
 have hlt:blk<w.heap.size:=(hs.own blk _ hO).1
 refine ⟨{ w with heap:=w.heap.setIfInBounds blk (.map (es.push { key:=.int q z,val:=v,born:=c }) (c+1)) },by rw [h1];exact QI hu hk h2 hfn,?_⟩
 have hoth:∀ b,b ≠ blk→(w.heap.setIfInBounds blk (.map (es.push { key:=.int q z,val:=v,born:=c }) (c+1)))[b]?=w.heap[b]?:=fun b hb=>by
  rw [Array.getElem?_setIfInBounds,if_neg (Ne.symm hb)]
 obtain ⟨n1,_,_⟩:=hs.other_blk hO
 refine hs.blkSet (w':={ w with heap:=w.heap.setIfInBounds blk (.map (es.push { key:=.int q z,val:=v,born:=c }) (c+1)) }) (av:=.om (ks++[.i q z]) (vs++[d])) hO (by rw [hg];rfl) rfl hoth (by simp) rfl rfl rfl ?_
 rw [h1]
 have hI:∀ b,I b→(w.heap.setIfInBounds blk (.map (es.push { key:=.int q z,val:=v,born:=c }) (c+1)))[b]?=w.heap[b]?:=fun b hi=>hoth b (n1 b hi)
 refine .om _ _ (ks'++[.i q z]) (vs'++[d]) blk (es.push { key:=.int q z,val:=v,born:=c }) (c+1) ?_ ?_ ?_ ?_ (by simp [h6])
 ·show (w.heap.setIfInBounds blk _)[blk]?=_
  rw [Array.getElem?_setIfInBounds,if_pos rfl,if_pos hlt]
 ·rw [Array.toList_push,List.map_append]
  exact (h3.keep hI fun _ h=>h).append (.cons (.i _ _) .nil)
 ·rw [Array.toList_push,List.map_append]
  exact (h4.keep hI fun _ h=>h).append (.cons (hv.keep hI fun _ h=>h) .nil)
 ·rw [List.zip_append hl',List.zip_append h6]
  exact List.Perm.append h5 (List.Perm.refl _)
theorem P7 {m : Nat} {x y : Operand} {ty kt et : TypeId} {q : IntKind} {z : Int} {ks vs : List DV} {d : DV} (hu : P.underlying ty=some (.map kt et)) (hk : P.underlying kt=some (.int q)) (hf : freshK q z ks) (h : RL P C ops Q (k+1) l ((m,.om (ks++[.i q z]) (vs++[d]))::env) H) (hg : grd ops env o true=true:=by rfl)
  (ho:o.op=.insert ty (.tmp m) x y:=by rfl) (hm:get env m=.om ks vs:=by rfl) (hx:AX (lk env x)=some (.i q z):=by rfl) (hy:AX (lk env y)=some d:=by rfl) (hd:o.dst=none:=by rfl):RL P C ops Q k (o::l) env H:=by
 refine .go hg (.done (by simp [ho]) hd (fun X a w I μ O _ _ _ hs=>?_) h)
 have h1:=hs.deep (x:=x) hx
 have h2:=hs.deep (x:=y) hy
 generalize hev:a.eval x=u at h1
 cases h1
 obtain ⟨w',r1,r2⟩:=hs.ins hm hu hk hf h2
 have he:a.eval (.tmp m)=a.tmps.getD m undef:=rfl
 exact ⟨w',I,μ,O,by simp only [execOp,ho,hev,he,r1,Sem.run_bind,Result.andThen_ok,Sem.run_pure],r2⟩
theorem Gh.omf {t : Nat} {ks vs : List DV} (hg : get env t=.om ks vs) : Gh P C env H ((t,.d (.mp ks vs))::env) H:=fun X a w I μ O _ _ _ hs=>by
 obtain ⟨blk,es,c,ks',vs',h1,h2,h3,h4,h5,h6,hO⟩:=hs.om_inv hg
 obtain ⟨n1,n2,n3⟩:=hs.other_blk hO
 refine ⟨_,_,⟨hs.toMem.frz [blk] (fun b hm=>by simp at hm;subst hm;exact (hs.own b _ hO).1) (fun b hm hk=>by simp at hm;exact n2 b hk hm) H rfl ?_,fun s=>?_,hs.nt,hs.dfs⟩⟩
 ·intro id ob ho
  obtain ⟨bb,bs,k1,k2,k3,k4⟩:=hs.heap id ob ho
  refine ⟨bb,bs,k1,k2.mono fun _ h=>.inl h,fun hn=>⟨(k3 hn).1,fun b hb=>?_⟩,k4⟩
  have:b ∉ [blk]:=by simpa using n3 id ob bb bs ho k1 k3 k4 b hb
  simp only [this,if_false]
  exact (k3 hn).2 b hb
 ·by_cases hst:t=s
  ·subst hst
   rw [show get ((t,.d (.mp ks vs))::env) t=.d (.mp ks vs) by simp [get]]
   refine .of (bs:=[]) ?_ List.nodup_nil (by simp)
   rw [h1]
   exact .d (.mp ks vs ks' vs' blk es c (.inr (by simp)) h2 (h3.keep (fun _ _=>rfl) fun _ h=>.inl h) (h4.keep (fun _ _=>rfl) fun _ h=>.inl h) h5 h6)
  ·rw [show get ((t,.d (.mp ks vs))::env) s=get env s by simp [get,hst]]
   have key:∀ p e xs,AH env H p=.own e xs→AH ((t,AV.d (.mp ks vs))::env) H p=.own e xs:=by
    intro p e' xs hp
    cases p with
    | t r =>
     have hr':t ≠ r:=fun h=>by subst h;simp only [AH] at hp;rw [hg] at hp;cases hp
     simp only [AH,get,if_neg hr'];exact hp
    | c id off=>exact hp
   have ht:=hs.envr s
   cases hgs:get env s with
   | ref p off len =>
    rw [hgs] at ht
    obtain ⟨e',xs,A,n,c,g1,g2,g3,g4⟩:=ht
    exact ⟨e',xs,A,n,c,key p e' xs g1,g2,g3,g4⟩
   | ep p i k =>
    rw [hgs] at ht
    obtain ⟨e',xs,b,n,c,g1,g2,g3,g4,g5⟩:=ht
    exact ⟨e',xs,b,n,c,key p e' xs g1,g2,g3,g4,g5⟩
   | _ =>
    rw [hgs] at ht
    obtain ⟨bs,g1,g2,g3⟩:=ht.plain rfl
    refine .of (g1.keep (fun _ h=>.inl h) (fun _ _=>rfl) (fun _ _ h=>h) fun _ _=>rfl) g2 fun b hb=>?_
    have:b ∉ [blk]:=fun hm=>by
     simp at hm;subst hm
     have:=g3 b hb;rw [hO] at this;simp at this;exact hst this
    simp only [this,if_false]
    exact g3 b hb
theorem Z0 {x y : Operand} {ty kt et : TypeId} {q : IntKind} {z : Int} {ks vs : List DV} {d : DV} (hu : P.underlying ty=some (.map kt et)) (hk : P.underlying kt=some (.int q)) (hi : ∀ k ∈ ks,∃ z',k=.i q z') (hm : (.i q z,d) ∈ ks.zip vs) (hq : ∀ d',(.i q z,d') ∈ ks.zip vs→d'=d)
  (ho:o.op=.lookup ty x y false:=by rfl) (hx:AX (lk env x)=some (.mp ks vs):=by rfl) (hy:AX (lk env y)=some (.i q z):=by rfl):VOK P C o env H (.d d) :=
 .pv ⟨by simp [ho],fun X a w I μ O _ hs=>by
  have h1:=hs.deep (x:=x) hx
  have h2:=hs.deep (x:=y) hy
  generalize hev:a.eval x=u at h1
  generalize hev2:a.eval y=u2 at h2
  cases h2
  cases h1 with
  | mp _ _ ks' vs' r es c hI hh h3 h4 hp hl =>
   have hl':ks'.length=vs'.length:=by rw [h3.length,h4.length,List.length_map,List.length_map]
   obtain ⟨i,v,e1,e2⟩:=MS (q:=q) (z:=z) (d:=d) rfl 0 h3 h4 (fun k hk=>hi k (Kl hp hl' hk)) (hp.mem_iff.2 hm) fun d' hd=>hq d' (hp.mem_iff.1 hd)
   exact ⟨v,by simp only [execOp,ho,hev,hev2,L9 hu hk hh e1,Sem.run_bind,Result.andThen_ok,Sem.run_pure],.of_rep e2⟩⟩
theorem Z6 {x y : Operand} {ty kt et : TypeId} {q : IntKind} {z : Int} {ks vs : List DV} {d : DV} {zv : Value} (hu : P.underlying ty=some (.map kt et)) (hk : P.underlying kt=some (.int q)) (hz : ∀ w,(zeroValue et).run P w=.ok zv w) (hd : ∀ w I,Rep w I d zv) (hf : freshK q z ks)
  (ho:o.op=.lookup ty x y false:=by rfl) (hx:AX (lk env x)=some (.mp ks vs):=by rfl) (hy:AX (lk env y)=some (.i q z):=by rfl):VOK P C o env H (.d d) :=
 .pv ⟨by simp [ho],fun X a w I μ O _ hs=>by
  have h1:=hs.deep (x:=x) hx
  have h2:=hs.deep (x:=y) hy
  generalize hev:a.eval x=u at h1
  generalize hev2:a.eval y=u2 at h2
  cases h2
  cases h1 with
  | mp _ _ ks' vs' r es c hI hh h3 h4 hp hl =>
   have hl':ks'.length=vs'.length:=by rw [h3.length,h4.length,List.length_map,List.length_map]
   have e1:=Kf (q:=q) (z:=z) rfl 0 h3 fun k hk=>hf k (Kl hp hl' hk)
   exact ⟨zv,by simp only [execOp,ho,hev,hev2,KV hu hk (hz w) hh e1,Sem.run_bind,Result.andThen_ok,Sem.run_pure],.of_rep (hd w I)⟩⟩
end
end Go.FL
namespace Go.FL
open Go Go.RowKit
section
variable {P : Program} {C : Cx} {X : Snap} {o : Oper} {ops : Array Oper} {Q : Exit→Env→Af→Prop} {env env' : Env} {H H' : Af} {a : Act} {w w' : World} {I I' : Nat→Prop} {μ μ' : List Nat} {O O' : Nat→Option Loc}
 {K:Env→Af→Prop} {k:Nat} {l:List Oper}
def FD (P : Program) (t : TypeId) : Bool:=match P.underlying t with
 | some (.func ..)=>true
 | _=>false
theorem R9 {t : TypeId} (hu : FD P t=true) (f : Go.Fn) (fs cs : Array Value) : (Op.equal t (.func f fs cs) .nilFunc).run P w=.ok false w:=by
 unfold FD at hu
 split at hu
 ·rename_i h
  have e:Op.equal t (.func f fs cs) .nilFunc=Op.equalIn (9999+1) t (.func f fs cs) .nilFunc:=rfl
  rw [e]
  unfold Op.equalIn
  simp only [run_underlying h,Sem.run_bind,Result.andThen_ok,Sem.run_pure]
 ·cases hu
theorem Sn {t : TypeId} (hu : FD P t=true) : (Op.equal t .nilFunc .nilFunc).run P w=.ok true w:=by
 unfold FD at hu
 split at hu
 ·rename_i h
  have e:Op.equal t .nilFunc .nilFunc=Op.equalIn (9999+1) t .nilFunc .nilFunc:=rfl
  rw [e]
  unfold Op.equalIn
  simp only [run_underlying h,Sem.run_bind,Result.andThen_ok,Sem.run_pure]
 ·cases hu
theorem Aai {xt yt : TypeId} {x y : Operand} {f : FuncId} {fs cs : List DV} (hu : FD P xt=true) (ho : o.op=.binOp .eql xt x y yt:=by rfl) (hx : AX (lk env x)=some (.fn f fs cs):=by rfl) (hy : AX (lk env y)=some .nf:=by rfl) : VOK P C o env H (.d (.b false)):=by
 refine .same (by simp [ho]) fun X a w I μ O _ hs=>⟨.bool false,?_,.b _⟩
 have h1:=hs.deep hx
 have h2:=hs.deep hy
 generalize hev:a.eval x=v1 at h1
 generalize hev2:a.eval y=v2 at h2
 cases h1;cases h2
 simp [execOp,ho,hev,hev2,binOp,eqGuard,R9 hu]
theorem Zs {xt yt : TypeId} {x y : Operand} (hu : FD P xt=true) (ho : o.op=.binOp .eql xt x y yt:=by rfl) (hx : AX (lk env x)=some .nf:=by rfl) (hy : AX (lk env y)=some .nf:=by rfl) : VOK P C o env H (.d (.b true)):=by
 refine .same (by simp [ho]) fun X a w I μ O _ hs=>⟨.bool true,?_,.b _⟩
 have h1:=hs.deep hx
 have h2:=hs.deep hy
 generalize hev:a.eval x=v1 at h1
 generalize hev2:a.eval y=v2 at h2
 cases h1;cases h2
 simp [execOp,ho,hev,hev2,binOp,eqGuard,Sn hu]
end
end Go.FL
namespace Go.FL
open Go Go.Proofs
abbrev AA : Type:=FW (RT) (RT × Int)
abbrev Du (f : AA) : Prop:=f.OK Tryz.prog (fun x=>[.ag [.b x.1,.sl (L x.2.1),.sl (L x.2.2)]]) (fun r=>.tup [.d (.ag [.b r.1.1,.sl (L r.1.2.1),.sl (L r.1.2.2)]),.d (.i .i64 r.2)])
abbrev Ac : Type:=FW (RT × RT) (RT × Int)
abbrev Bb (f : Ac) : Prop:=f.OK Tryz.prog (fun x=>[.ag [.b x.1.1,.sl (L x.1.2.1),.sl (L x.1.2.2)],.ag [.b x.2.1,.sl (L x.2.2.1),.sl (L x.2.2.2)]]) (fun r=>.tup [.d (.ag [.b r.1.1,.sl (L r.1.2.1),.sl (L r.1.2.2)]),.d (.i .i64 r.2)])
abbrev Dw : Type:=FW (Bool × Bool) (Bool)
abbrev IY (f : Dw) : Prop:=f.OK Tryz.prog (fun x=>[.b x.1,.b x.2]) (fun r=>.d (.b r))
abbrev Az : Type:=FW (Int) (Itm × Int)
abbrev Jn (f : Az) : Prop:=f.OK Tryz.prog (fun x=>[.i .i64 x]) (fun r=>.tup [.d (.ag [.i .u8 r.1.kind,.b r.1.num.1,.sl (L r.1.num.2.1),.sl (L r.1.num.2.2),.i .i32 r.1.char,.sl (Ars r.1.box)]),.d (.i .i64 r.2)])
theorem WE : BJ Tryz.prog 34=some true:=by kernel_rfl
theorem UJ : AB Tryz.prog 34=5:=by kernel_rfl
theorem QZ : Bj Tryz.prog 34 1=some (1,3):=by kernel_rfl
theorem YH : CH Tryz.prog 34=some [(0,1),(1,3),(4,1)]:=by kernel_rfl
theorem Wr : (Tryz.prog.info? 34).bind (·.zero)=some (.agg #[.int .i64 0,.bool false,.slice none 0 0,.slice none 0 0,.int .i64 0]):=by kernel_rfl
theorem Wu (w : World) (I : Nat→Prop) : RepAll w I [.i .i64 0,.b false,.sl [],.sl [],.i .i64 0] (Value.agg #[.int .i64 0,.bool false,.slice none 0 0,.slice none 0 0,.int .i64 0]).cells.toList:=.cons (.i _ _) (.cons (.b _) (.cons (.sl0 _ _) (.cons (.sl0 _ _) (.cons (.i _ _) (.nil)))))
theorem NB : BJ Tryz.prog 75=some true:=by kernel_rfl
theorem HZ : AB Tryz.prog 75=2:=by kernel_rfl
theorem Wc : Bj Tryz.prog 75 0=some (0,1):=by kernel_rfl
theorem N0 : Bj Tryz.prog 75 1=some (1,1):=by kernel_rfl
theorem T4 : CH Tryz.prog 75=some [(0,1),(1,1)]:=by kernel_rfl
theorem NC : (Tryz.prog.info? 75).bind (·.zero)=some (.agg #[.nilFunc,.int .i32 0]):=by kernel_rfl
theorem MX (w : World) (I : Nat→Prop) : RepAll w I [.nf,.i .i32 0] (Value.agg #[.nilFunc,.int .i32 0]).cells.toList:=.cons .nf (.cons (.i _ _) .nil)
theorem Jh : BJ Tryz.prog 60=some false:=by kernel_rfl
theorem IE : FD Tryz.prog 60=true:=by kernel_rfl
theorem I8 : BJ Tryz.prog 73=some false:=by kernel_rfl
theorem Fg : FD Tryz.prog 73=true:=by kernel_rfl
theorem K5 : BJ Tryz.prog 141=some false:=by kernel_rfl
theorem HB : BJ Tryz.prog 143=some false:=by kernel_rfl
def Bls (xs : List Bool) : List DV:=xs.map .b
theorem Ua (xs : List Bool) : (Bls xs).length=xs.length:=by simp [Bls]
theorem Zd {xs : List Bool} {i : Nat} {x : Bool} (h : xs[i]?=some x) : (Bls xs)[i]?=some (.b x):=by simp [Bls,h]
theorem ZF (xs : List Bool) : ∀ x ∈ Bls xs,x.cells.length=1:=fun x hx=>by
 simp only [Bls,List.mem_map] at hx
 obtain ⟨b,_,rfl⟩:=hx;rfl
theorem YR (xs : List Bool) : ∃ sz,∀ x ∈ Bls xs,x.cells.length=sz:=⟨1,ZF xs⟩
theorem Y2 : Ce Tryz.prog 55=some (4,1,1):=by kernel_rfl
theorem Zf : Tryz.prog.underlying 55=some (.slice (Tryz.prog.elem 55)):=by kernel_rfl
end Go.FL
namespace Go.FL
open Go Go.Proofs Go.DataW
section
variable {H : Type} {enc : TypeId × Value→H} {W : World}
theorem WP (n : Nat) : OpF enc Tryz.prog W n 55 (fun l : List Bool=>[.sl (Bls l)]) (fun l=>l.length≤140737488355328):=by
 refine OpF.mono (n:=n+1) ((Kz (α:=Bool) (F:=fun z=>[.b z]) (sz:=1) (fun z=>.b z) (by kernel_rfl:Tryz.prog.underlying 55=some (.slice 4)) (by kernel_rfl) (by decide) (fun _=>rfl) (U0 (by kernel_rfl))).map fun zs hz=>?_) (Nat.le_succ _)
 refine ⟨zs,?_,rfl⟩
 have h3:=hz.2
 rw [show Tryz.prog.bytesOf 4=1 by kernel_rfl,show reachBytes=140737488351232 by decide] at h3
 omega
end
end Go.FL
namespace Go.FL
open Go Go.Proofs
def BD (rc_ref03_Same : Arr→Arr→Option (Bool)) (a0 : Itm) (a1 : Itm) (K0 : Bool→Option (Bool)) : Nat→Bool→Int→Option (Bool)
 | 0,_,_=>none
 | k+1,s4,s5=>(if s5<((List.length a0.box:Nat):Int) then ((rd? a0.box s5).bind fun x6=>((rd? a1.box s5).bind fun x7=>((rc_ref03_Same x6 x7).bind fun x8=>(if x8=true then (BD rc_ref03_Same a0 a1 K0 k s4 (w64 (s5+1))) else (some (false)))))) else (K0 s4))
def Cr (rc_ref03_Same : Arr→Arr→Option (Bool)) (a0 : Itm) (a1 : Itm) : Option (Bool):=(Option.bind ((if a0.kind=a1.kind then (if a0.char=a1.char then ((L3 a0.num a1.num).bind fun x2=>(if x2=true then (some (!(decide (((List.length a0.box : Nat) : Int)=((List.length a1.box : Nat) : Int))))) else (some true))) else (some true)) else (some true)) : Option (Bool)) fun (z1 : Bool)=>(if z1=true then (some (false)) else (jn (fun (z3 : Bool)=>(some (true))) fun K0=>(BD rc_ref03_Same a0 a1 K0 BC false 0))))
theorem Jp {rc_ref03_Same : Arr→Arr→Option (Bool)} (orc_ref03_Same : ∀ x0 x1 r,rc_ref03_Same x0 x1=some r→Fn Tryz.prog 18 [.ag [.sl (Is x0.shape),.sl (Its x0.items)],.ag [.sl (Is x1.shape),.sl (Its x1.items)]] (.d (.b r))) {a0 : Itm} {a1 : Itm} {r : Bool} (h : Cr rc_ref03_Same a0 a1=some r) :
  Fn Tryz.prog 40 [.ag [.i .u8 a0.kind,.b a0.num.1,.sl (L a0.num.2.1),.sl (L a0.num.2.2),.i .i32 a0.char,.sl (Ars a0.box)],.ag [.i .u8 a1.kind,.b a1.num.1,.sl (L a1.num.2.1),.sl (L a1.num.2.2),.i .i32 a1.char,.sl (Ars a1.box)]] (.d (.b r)):=by
 unfold Cr at h
 refine Fn.o1 4 54 Tryz.func40 ?_;refine .sr ?_;refine vk (vbx) ?_;refine vk (vbx) ?_;refine ar [2,3,4] ?_;refine .seq ?_;refine .seq ?_
 obtain ⟨z1,hz,h⟩:=bnd h
 refine AW.mr (σ:=Unit) (fun _=>True) (fun _=>[(2,.d (.ptr [.i .u8 a0.kind,.b a0.num.1,.sl (L a0.num.2.1),.sl (L a0.num.2.2),.i .i32 a0.char,.sl (Ars a0.box)])),(3,.d (.ptr [.i .u8 a1.kind,.b a1.num.1,.sl (L a1.num.2.1),.sl (L a1.num.2.2),.i .i32 a1.char,.sl (Ars a1.box)])),(4,.d (.b false)),(34,.d (.b z1))]) (fun _=>[]) ?_ ?_
 ·skip
  refine .region ?_;refine vk (vfa Cd) ?_;refine vk (An Be) ?_;refine vk (vfa Cd) ?_;refine vk (An Be) ?_;refine vk (vbi) ?_
  by_cases hc:a0.kind=a1.kind
  ·replace hz:=Aj hc hz
   have hb0:(!(decide (a0.kind=a1.kind)))=false:=(ntf (dT hc))
   refine vk (VOK.lit (Aa) hb0) ?_;refine vk (vfa DT) ?_;refine vk (An CP) ?_;refine vk (vfa DT) ?_;refine vk (An CP) ?_;refine vk (vbi) ?_;refine vk (Am) ?_
   by_cases hc:a0.char=a1.char
   ·replace hz:=Aj hc hz
    have hb1:(!(decide (a0.char=a1.char)))=false:=(ntf (dT hc))
    refine vk (VOK.lit (Aa) hb1) ?_;refine vk (vfa Cc) ?_;refine vk (Ap Au Ak) ?_;refine vk (vfa Cc) ?_;refine vk (Ap Au Ak) ?_
    obtain ⟨x2,hx2,hz⟩:=bnd hz
    refine vk (Ad (PB hx2) Tryz.call23) ?_;refine vk (vnt) ?_;refine vk (Am) ?_
    by_cases hc:x2=true
    ·replace hz:=Aj hc hz
     have hb2:(!x2)=false:=(ntf hc)
     refine vk (VOK.lit (Aa) hb2) ?_;refine vk (vfa BE) ?_;refine vk (An Dt) ?_;refine vk (Bz (B6 _) (FJ _) FF) ?_;refine vk (vfa BE) ?_;refine vk (An Dt) ?_;refine vk (Bz (B6 _) (FJ _) FF) ?_;refine vk (vbi) ?_;refine vk (Am) ?_;refine RL.gk [2,3,4,34] ?_;refine .nil ?_
     cases hz
     exact jr () trivial
    replace hz:=Ai hc hz
    have hb2:(!x2)=true:=(ntt (bf hc))
    refine vk (VOK.lit (Aa) hb2) ?_;refine gf ?_;refine gf ?_;refine gf ?_;refine gf ?_;refine gf ?_;refine gf ?_;refine gf ?_;refine vk (Am) ?_;refine RL.gk [2,3,4,34] ?_;refine .nil ?_
    cases hz
    exact jr () trivial
   replace hz:=Ai hc hz
   have hb1:(!(decide (a0.char=a1.char)))=true:=(ntt (dF hc))
   refine vk (VOK.lit (Aa) hb1) ?_;refine gf ?_;refine gf ?_;refine gf ?_;refine gf ?_;refine gf ?_;refine gf ?_;refine vk (Am) ?_;refine vk (Aa) ?_;refine gf ?_;refine gf ?_;refine gf ?_;refine gf ?_;refine gf ?_;refine gf ?_;refine gf ?_;refine vk (Am) ?_;refine RL.gk [2,3,4,34] ?_;refine .nil ?_
   cases hz
   exact jr () trivial
  replace hz:=Ai hc hz
  have hb0:(!(decide (a0.kind=a1.kind)))=true:=(ntt (dF hc))
  refine vk (VOK.lit (Aa) hb0) ?_;refine gf ?_;refine gf ?_;refine gf ?_;refine gf ?_;refine gf ?_;refine vk (Am) ?_;refine vk (Aa) ?_;refine gf ?_;refine gf ?_;refine gf ?_;refine gf ?_;refine gf ?_;refine gf ?_;refine vk (Am) ?_;refine vk (Aa) ?_;refine gf ?_;refine gf ?_;refine gf ?_;refine gf ?_;refine gf ?_;refine gf ?_;refine gf ?_;refine vk (Am) ?_;refine RL.gk [2,3,4,34] ?_;refine .nil ?_
  cases hz
  exact jr () trivial
 rintro _ _
 by_cases hc:z1=true
 ·replace h:=Aj hc h
  refine cnt hc ?_;refine .sr ?_;refine ar [2,3,4] ?_;refine .ret ?_
  cases h
  exact ⟨rfl,rfl⟩
 replace h:=Ai hc h
 refine cnf (bf hc) ?_;refine .skip ?_
 show AW _ _ _ _ _ _
 refine .seq ?_;refine .sr ?_;refine ar [2,3,4,5] ?_
 obtain ⟨K0,hK0,h⟩:=CX h
 refine AW.mr (σ:=Bool) (fun p=>K0 p=some r) (fun p=>[(4,.d (.b p))]) (fun p=>[]) ?_ ?_
 ·skip
  refine .block ?_
  refine .loop (.gk [2,3,4,5] ?_)
  refine AL.ind (σ:=Nat × Bool × Int) (m:=fun p=>p.1) (e:=fun p=>[(2,.d (.ptr [.i .u8 a0.kind,.b a0.num.1,.sl (L a0.num.2.1),.sl (L a0.num.2.2),.i .i32 a0.char,.sl (Ars a0.box)])),(3,.d (.ptr [.i .u8 a1.kind,.b a1.num.1,.sl (L a1.num.2.1),.sl (L a1.num.2.2),.i .i32 a1.char,.sl (Ars a1.box)])),(4,.d (.b p.2.1)),(5,.d (.i .i64 p.2.2))]) (h:=fun p=>[]) (I:=fun p=>BD rc_ref03_Same a0 a1 K0 p.1 p.2.1 p.2.2=some r) ?_ (BC,false,0) h
  rintro ⟨k,s4,s5⟩ h ih
  dsimp only at h ih ⊢
  rcases k with _ | k
  ·rw [BD] at h;cases h
  rw [BD] at h
  refine .seq ?_;refine .sr ?_;refine vk (Aa) ?_;refine vk (vfa BE) ?_;refine vk (An Dt) ?_;refine vk (Bz (B6 _) (FJ _) FF) ?_;refine vk (vbi) ?_;refine rk [2,3,4,5,39] ?_
  by_cases hc:s5<((List.length a0.box:Nat):Int)
  ·replace h:=Aj hc h
   refine cnt (dT hc) ?_;refine .skip ?_
   show AW _ _ _ _ _ _
   refine .seq ?_;refine .block ?_;refine .seq ?_;refine .drawn 12 Ba (by kernel_rfl) ?_;refine dv (vfa BE) ?_;refine dv (An Dt) ?_;refine dv (Aa) ?_
   obtain ⟨x6,hx6,h⟩:=bnd h
   obtain ⟨nx6,hnx6,hxx6⟩:=AS hx6
   refine dv (vix nx6 hnx6 (F6 hxx6) rfl F5) ?_;refine dv (Ap As Ag) ?_;refine dv (vfa BE) ?_;refine dv (An Dt) ?_;refine dv (Aa) ?_
   obtain ⟨x7,hx7,h⟩:=bnd h
   obtain ⟨nx7,hnx7,hxx7⟩:=AS hx7
   refine dv (vix nx7 hnx7 (F6 hxx7) rfl F5) ?_;refine dv (Ap As Ag) ?_
   obtain ⟨x8,hx8,h⟩:=bnd h
   refine dv (Ad (orc_ref03_Same _ _ _ hx8) Tryz.call18) ?_;refine dv (vnt) ?_;refine dz ?_;refine rk [2,3,4,5,53] ?_
   by_cases hc:x8=true
   ·replace h:=Aj hc h
    refine cnf (ntf hc) ?_;refine .skip ?_
    show AW _ _ _ _ _ _
    refine .region ?_;refine vk (Aa) ?_;refine vk (vbi) ?_;refine asd ?_;refine .nil ?_;refine AL.gk [2,3,4,5] ?_
    exact ih (k,s4,(w64 (s5+1))) h (Nat.lt_succ_self _)
   replace h:=Ai hc h
   refine cnt (ntt (bf hc)) ?_;refine .sr ?_;refine ar [2,3,4,5] ?_;refine .ret ?_
   cases h
   exact ⟨rfl,rfl⟩
  replace h:=Ai hc h
  refine cnf (dF hc) ?_;refine .gk [4] ?_;refine .exit ?_
  exact jr (s4) h
 rintro z3 h
 try dsimp only at h ⊢
 subst hK0
 show AW _ _ _ _ _ _
 refine .sr ?_;refine ar [4] ?_;refine .ret ?_
 cases h
 exact ⟨rfl,rfl⟩
def CM (a0 : Arr) (a1 : Arr) (K0 : Bool→Option (Bool)) : Nat→Bool→Int→Option (Bool)
 | 0,_,_=>none
 | k+1,s2,s3=>(if s3<((List.length a0.shape:Nat):Int) then ((rd? a0.shape s3).bind fun x4=>((rd? a1.shape s3).bind fun x5=>(if x4=x5 then (CM a0 a1 K0 k s2 (w64 (s3+1))) else (some (false))))) else (K0 s2))
def Cg (rc_ref03_Same : Arr→Arr→Option (Bool)) (a0 : Arr) (a1 : Arr) (K2 : Bool→Option (Bool)) : Nat→Bool→Int→Option (Bool)
 | 0,_,_=>none
 | k+1,s7,s8=>(if s8<((List.length a0.items:Nat):Int) then ((rd? a0.items s8).bind fun x9=>((rd? a1.items s8).bind fun x10=>((Cr rc_ref03_Same x9 x10).bind fun x11=>(if x11=true then (Cg rc_ref03_Same a0 a1 K2 k s7 (w64 (s8+1))) else (some (false)))))) else (K2 s7))
def EC (rc_ref03_Same : Arr→Arr→Option (Bool)) (a0 : Arr) (a1 : Arr) : Option (Bool):=(if ((!(decide (((List.length a0.shape : Nat) : Int)=((List.length a1.shape : Nat) : Int)))) || (!(decide (((List.length a0.items : Nat) : Int)=((List.length a1.items : Nat) : Int)))))=true then (some (false)) else (jn (fun (z1 : Bool)=>(jn (fun (z6 : Bool)=>(some (true))) fun K2=>(Cg rc_ref03_Same a0 a1 K2 BC z1 0))) fun K0=>(CM a0 a1 K0 BC false 0)))
theorem MH {rc_ref03_Same : Arr→Arr→Option (Bool)} (orc_ref03_Same : ∀ x0 x1 r,rc_ref03_Same x0 x1=some r→Fn Tryz.prog 18 [.ag [.sl (Is x0.shape),.sl (Its x0.items)],.ag [.sl (Is x1.shape),.sl (Its x1.items)]] (.d (.b r))) {a0 : Arr} {a1 : Arr} {r : Bool} (h : EC rc_ref03_Same a0 a1=some r) :
  Fn Tryz.prog 18 [.ag [.sl (Is a0.shape),.sl (Its a0.items)],.ag [.sl (Is a1.shape),.sl (Its a1.items)]] (.d (.b r)):=by
 unfold EC at h
 refine Fn.o1 4 60 Tryz.func18 ?_;refine .sr ?_;refine vk (vbx) ?_;refine vk (vbx) ?_;refine ar [2,3,4] ?_;refine .seq ?_;refine .seq ?_;refine AW.mr (σ:=Unit) (fun _=>True) (fun _=>[(2,.d (.ptr [.sl (Is a0.shape),.sl (Its a0.items)])),(3,.d (.ptr [.sl (Is a1.shape),.sl (Its a1.items)])),(4,.d (.b false)),(22,.d (.b ((!(decide (((List.length a0.shape:Nat):Int)=((List.length a1.shape:Nat):Int)))) || (!(decide (((List.length a0.items:Nat):Int)=((List.length a1.items:Nat):Int)))))))]) (fun _=>[]) ?_ ?_
 ·skip
  refine .region ?_;refine vk (vfa Bc) ?_;refine vk (An C3) ?_;refine vk (Bz (Bh _) (E5 _) E7) ?_;refine vk (vfa Bc) ?_;refine vk (An C3) ?_;refine vk (Bz (Bh _) (E5 _) E7) ?_;refine vk (vbi) ?_
  by_cases hc:((List.length a0.shape:Nat):Int)=((List.length a1.shape:Nat):Int)
  ·have hb0:(!(decide (((List.length a0.shape:Nat):Int)=((List.length a1.shape:Nat):Int))))=false:=(ntf (dT hc))
   refine vk (VOK.lit (Aa) hb0) ?_;refine vk (vfa A6) ?_;refine vk (An CC) ?_;refine vk (Bz (AN _) (Dr _) Dl) ?_;refine vk (vfa A6) ?_;refine vk (An CC) ?_;refine vk (Bz (AN _) (Dr _) Dl) ?_;refine vk (vbi) ?_;refine vk (Am) ?_;refine RL.gk [2,3,4,22] ?_;refine .nil ?_
   exact jr () trivial (by simp only [hb0];rfl)
  have hb0:(!(decide (((List.length a0.shape:Nat):Int)=((List.length a1.shape:Nat):Int))))=true:=(ntt (dF hc))
  refine vk (VOK.lit (Aa) hb0) ?_;refine gf ?_;refine gf ?_;refine gf ?_;refine gf ?_;refine gf ?_;refine gf ?_;refine gf ?_;refine vk (Am) ?_;refine RL.gk [2,3,4,22] ?_;refine .nil ?_
  exact jr () trivial (by simp only [hb0];rfl)
 rintro _ _
 by_cases hc:((!(decide (((List.length a0.shape:Nat):Int)=((List.length a1.shape:Nat):Int)))) || (!(decide (((List.length a0.items:Nat):Int)=((List.length a1.items:Nat):Int)))))=true
 ·replace h:=Aj hc h
  refine cnt hc ?_;refine .sr ?_;refine ar [2,3,4] ?_;refine .ret ?_
  cases h
  exact ⟨rfl,rfl⟩
 replace h:=Ai hc h
 refine cnf (bf hc) ?_;refine .skip ?_
 show AW _ _ _ _ _ _
 refine .seq ?_;refine .sr ?_;refine ar [2,3,4,5] ?_
 obtain ⟨K0,hK0,h⟩:=CX h
 refine AW.mr (σ:=Bool) (fun p=>K0 p=some r) (fun p=>[(2,.d (.ptr [.sl (Is a0.shape),.sl (Its a0.items)])),(3,.d (.ptr [.sl (Is a1.shape),.sl (Its a1.items)])),(4,.d (.b p))]) (fun p=>[]) ?_ ?_
 ·skip
  refine .block ?_
  refine .loop (.gk [2,3,4,5] ?_)
  refine AL.ind (σ:=Nat × Bool × Int) (m:=fun p=>p.1) (e:=fun p=>[(2,.d (.ptr [.sl (Is a0.shape),.sl (Its a0.items)])),(3,.d (.ptr [.sl (Is a1.shape),.sl (Its a1.items)])),(4,.d (.b p.2.1)),(5,.d (.i .i64 p.2.2))]) (h:=fun p=>[]) (I:=fun p=>CM a0 a1 K0 p.1 p.2.1 p.2.2=some r) ?_ (BC,false,0) h
  rintro ⟨k,s2,s3⟩ h ih
  dsimp only at h ih ⊢
  rcases k with _ | k
  ·rw [CM] at h;cases h
  rw [CM] at h
  refine .seq ?_;refine .sr ?_;refine vk (Aa) ?_;refine vk (vfa Bc) ?_;refine vk (An C3) ?_;refine vk (Bz (Bh _) (E5 _) E7) ?_;refine vk (vbi) ?_;refine rk [2,3,4,5,27] ?_
  by_cases hc:s3<((List.length a0.shape:Nat):Int)
  ·replace h:=Aj hc h
   refine cnt (dT hc) ?_;refine .skip ?_
   show AW _ _ _ _ _ _
   refine .seq ?_;refine .block ?_;refine .seq ?_;refine .drawn 11 Ba (by kernel_rfl) ?_;refine dv (vfa Bc) ?_;refine dv (An C3) ?_;refine dv (Aa) ?_
   obtain ⟨x4,hx4,h⟩:=bnd h
   obtain ⟨nx4,hnx4,hxx4⟩:=AS hx4
   refine dv (vix nx4 hnx4 (Jw hxx4) rfl GN) ?_;refine dv (An CK) ?_;refine dv (vfa Bc) ?_;refine dv (An C3) ?_;refine dv (Aa) ?_
   obtain ⟨x5,hx5,h⟩:=bnd h
   obtain ⟨nx5,hnx5,hxx5⟩:=AS hx5
   refine dv (vix nx5 hnx5 (Jw hxx5) rfl GN) ?_;refine dv (An CK) ?_;refine dv (vbi) ?_;refine dz ?_;refine rk [2,3,4,5,40] ?_
   by_cases hc:x4=x5
   ·replace h:=Aj hc h
    refine cnf (ntf (dT hc)) ?_;refine .skip ?_
    show AW _ _ _ _ _ _
    refine .region ?_;refine vk (Aa) ?_;refine vk (vbi) ?_;refine asd ?_;refine .nil ?_;refine AL.gk [2,3,4,5] ?_
    exact ih (k,s2,(w64 (s3+1))) h (Nat.lt_succ_self _)
   replace h:=Ai hc h
   refine cnt (ntt (dF hc)) ?_;refine .sr ?_;refine ar [2,3,4,5] ?_;refine .ret ?_
   cases h
   exact ⟨rfl,rfl⟩
  replace h:=Ai hc h
  refine cnf (dF hc) ?_;refine .gk [2,3,4] ?_;refine .exit ?_
  exact jr (s2) h
 rintro z1 h
 try dsimp only at h ⊢
 subst hK0
 show AW _ _ _ _ _ _
 refine .seq ?_;refine .sr ?_;refine ar [2,3,4,6] ?_
 obtain ⟨K2,hK2,h⟩:=CX h
 refine AW.mr (σ:=Bool) (fun p=>K2 p=some r) (fun p=>[(4,.d (.b p))]) (fun p=>[]) ?_ ?_
 ·skip
  refine .block ?_
  refine .loop (.gk [2,3,4,6] ?_)
  refine AL.ind (σ:=Nat × Bool × Int) (m:=fun p=>p.1) (e:=fun p=>[(2,.d (.ptr [.sl (Is a0.shape),.sl (Its a0.items)])),(3,.d (.ptr [.sl (Is a1.shape),.sl (Its a1.items)])),(4,.d (.b p.2.1)),(6,.d (.i .i64 p.2.2))]) (h:=fun p=>[]) (I:=fun p=>Cg rc_ref03_Same a0 a1 K2 p.1 p.2.1 p.2.2=some r) ?_ (BC,z1,0) h
  rintro ⟨k,s7,s8⟩ h ih
  dsimp only at h ih ⊢
  rcases k with _ | k
  ·rw [Cg] at h;cases h
  rw [Cg] at h
  refine .seq ?_;refine .sr ?_;refine vk (Aa) ?_;refine vk (vfa A6) ?_;refine vk (An CC) ?_;refine vk (Bz (AN _) (Dr _) Dl) ?_;refine vk (vbi) ?_;refine rk [2,3,4,6,45] ?_
  by_cases hc:s8<((List.length a0.items:Nat):Int)
  ·replace h:=Aj hc h
   refine cnt (dT hc) ?_;refine .skip ?_
   show AW _ _ _ _ _ _
   refine .seq ?_;refine .block ?_;refine .seq ?_;refine .drawn 12 Ba (by kernel_rfl) ?_;refine dv (vfa A6) ?_;refine dv (An CC) ?_;refine dv (Aa) ?_
   obtain ⟨x9,hx9,h⟩:=bnd h
   obtain ⟨nx9,hnx9,hxx9⟩:=AS hx9
   refine dv (vix nx9 hnx9 (Ec hxx9) rfl DO) ?_;refine dv (Ap AP Ay) ?_;refine dv (vfa A6) ?_;refine dv (An CC) ?_;refine dv (Aa) ?_
   obtain ⟨x10,hx10,h⟩:=bnd h
   obtain ⟨nx10,hnx10,hxx10⟩:=AS hx10
   refine dv (vix nx10 hnx10 (Ec hxx10) rfl DO) ?_;refine dv (Ap AP Ay) ?_
   obtain ⟨x11,hx11,h⟩:=bnd h
   refine dv (Ad (Jp orc_ref03_Same hx11) Tryz.call40) ?_;refine dv (vnt) ?_;refine dz ?_;refine rk [2,3,4,6,59] ?_
   by_cases hc:x11=true
   ·replace h:=Aj hc h
    refine cnf (ntf hc) ?_;refine .skip ?_
    show AW _ _ _ _ _ _
    refine .region ?_;refine vk (Aa) ?_;refine vk (vbi) ?_;refine asd ?_;refine .nil ?_;refine AL.gk [2,3,4,6] ?_
    exact ih (k,s7,(w64 (s8+1))) h (Nat.lt_succ_self _)
   replace h:=Ai hc h
   refine cnt (ntt (bf hc)) ?_;refine .sr ?_;refine ar [2,3,4,6] ?_;refine .ret ?_
   cases h
   exact ⟨rfl,rfl⟩
  replace h:=Ai hc h
  refine cnf (dF hc) ?_;refine .gk [4] ?_;refine .exit ?_
  exact jr (s7) h
 rintro z6 h
 try dsimp only at h ⊢
 subst hK2
 show AW _ _ _ _ _ _
 refine .sr ?_;refine ar [4] ?_;refine .ret ?_
 cases h
 exact ⟨rfl,rfl⟩
def D9 : Nat→Arr→Arr→Option (Bool)
 | 0,_,_=>none
 | k+1,a0,a1=>EC (D9 k) a0 a1
theorem H9 : ∀ (k : Nat) (a0 : Arr) (a1 : Arr) (r : Bool),D9 k a0 a1=some r→Fn Tryz.prog 18 [.ag [.sl (Is a0.shape),.sl (Its a0.items)],.ag [.sl (Is a1.shape),.sl (Its a1.items)]] (.d (.b r))
 | 0,_,_,_,h=>by cases h
 | k+1,a0,a1,_,h=>MH (H9 k) (show EC (D9 k) a0 a1=some _ from h)
def GC (a0 : Arr) (a1 : Arr) : Option (Bool):=D9 (a0.size+1) a0 a1
theorem Ip {a0 : Arr} {a1 : Arr} {r : Bool} (h : GC a0 a1=some r) : Fn Tryz.prog 18 [.ag [.sl (Is a0.shape),.sl (Its a0.items)],.ag [.sl (Is a1.shape),.sl (Its a1.items)]] (.d (.b r)):=H9 _ a0 a1 r h
def Tells (x : Option Bool) (p : Prop) : Prop:=∃ r,x=some r∧(r=true↔p)
theorem Tells.of {x : Option Bool} {p q : Prop} (h : Tells x p) (e : p↔q) : Tells x q:=by
 obtain ⟨r,h1,h2⟩:=h;exact ⟨r,h1,h2.trans e⟩
theorem Tells.yes {x : Option Bool} {p : Prop} (h : Tells x p) (hp : p) : x=some true:=by
 obtain ⟨r,h1,h2⟩:=h;rw [h1,h2.2 hp]
theorem Tells.no {x : Option Bool} {p : Prop} (h : Tells x p) (hp : ¬ p) : x=some false:=by
 obtain ⟨r,h1,h2⟩:=h
 cases r with
 | true=>exact absurd (h2.1 rfl) hp
 | false=>exact h1
theorem HF {α β : Type} (k : α) (b : α→β) : jn k b=b k:=rfl
theorem Nn {s : List Int} (h : s.length≤17592186044416) : EF s=some s:=by unfold EF;rw [KT (by simpa using h),List.nil_append]
theorem JF {r : RT} (h : Gl r=true) : CE r=some r:=by
 have h1:=Jo.1 h
 unfold CE
 rw [Ey,if_pos h1.2.2.1,oB,Ey,if_pos h1.2.2.2,oB]
theorem Ls {r : RT} (h : Gl r=true) : BW r=some (.mk 1 r 0 []):=by
 unfold BW;rw [JF h,oB]
theorem KK {a : Arr} {f : B1} {h : Itm→Itm} (hf : ∀ x ∈ a.items,f.g x=some (h x)) (K : List Int→List Itm→Option Arr) (hl : a.items.length≤1466015503701) : ∀ (n i k : Nat) (s : List Int) (t : List Itm),n=a.items.length - i→i≤a.items.length→n<k→t.length=i →
  B5 a f K k (i:Int) s t=K s (t++(a.items.drop i).map h)
 | n,i,0,s,t,_,_,h,_=>by omega
 | n,i,k+1,s,t,hn,hi,hk,ht=>by
  rw [B5]
  by_cases hlt:i<a.items.length
  ·rw [if_pos (by omega),Dp hlt,oB,hf _ (List.getElem_mem _),oB,KT (by simp;omega),oB,Dj (by omega),
    KK hf K hl (n - 1) (i+1) k s _ (by omega) (by omega) (by omega) (by simp [ht]),List.drop_eq_getElem_cons hlt,List.map_cons,List.append_assoc]
   rfl
  ·rw [if_neg (by omega),List.drop_of_length_le (by omega)];simp
theorem KR {a : Arr} {f : B1} {h : Itm→Itm} (hf : ∀ x ∈ a.items,f.g x=some (h x)) (hs : a.shape.length≤17592186044416) (hl : a.items.length≤1466015503701) : Cn a f=some (.mk a.shape (a.items.map h)):=by
 unfold Cn
 rw [Nn hs,oB]
 simp only [jn]
 have:=KK hf (fun z2 z3=>some (Arr.mk z2 z3)) hl a.items.length 0 BC a.shape [] rfl (Nat.zero_le _) (Di (by omega)) rfl
 rw [List.drop_zero,show ((0:Nat):Int)=0 from rfl,List.nil_append] at this
 exact this
theorem LF {rc : Itm→Option Itm} {x : Itm} (hb : ∀ a ∈ x.box,okAr a) (hrc : ∀ a ∈ x.box,∀ y ∈ a.items,rc y=some y) (K : Int→Bool→List Nat→List Nat→Int→List Arr→Option Itm) (hl : x.box.length≤2932031007402) : ∀ (n i k : Nat) (s1 : Int) (s2 : Bool) (s3 s4 : List Nat) (s5 : Int) (t : List Arr),n=x.box.length - i→i≤x.box.length→n<k→t.length=i →
  DD rc x K k (i:Int) s1 s2 s3 s4 s5 t=K s1 s2 s3 s4 s5 (t++x.box.drop i)
 | n,i,0,s1,s2,s3,s4,s5,t,_,_,h,_=>by omega
 | n,i,k+1,s1,s2,s3,s4,s5,t,hn,hi,hk,ht=>by
  rw [DD]
  by_cases hlt:i<x.box.length
  ·have hm:=List.getElem_mem hlt
   have ho:=(Bm _).1 (hb _ hm)
   have hc:=KR (a:=x.box[i]) (f:=⟨.fn 173 [] [],fun x=>rc x⟩) (h:=id) (fun y hy=>hrc _ hm y hy) ho.2.1 ho.2.2.1
   rw [List.map_id,Arr.eta] at hc
   rw [if_pos (by omega),Dp hlt,oB,hc,oB,KT (by simp;omega),oB,Dj (by omega),
    LF hb hrc K hl (n - 1) (i+1) k s1 s2 s3 s4 s5 _ (by omega) (by omega) (by omega) (by simp [ht]),List.drop_eq_getElem_cons hlt,List.append_assoc]
   rfl
  ·rw [if_neg (by omega),List.drop_of_length_le (by omega)];simp
theorem Nd : ∀ (k : Nat) {x : Itm},x.size<k→okI x→EO k x=some x
 | 0,x,h,_=>by omega
 | k+1,x,h,ho=>by
  have h1:=(Ez x).1 ho
  rw [EO,HM,JF h1.2.1,oB]
  simp only [jn]
  have:=LF (rc:=EO k) (x:=x) h1.2.2.2.2 (fun a ha y hy=>Nd k (by have:=Gg ha;have:=Ga hy;omega) (((Bm a).1 (h1.2.2.2.2 a ha)).2.2.2 y hy))
   (fun z2 z3 z4 z5 z6 z7=>some (Itm.mk z2 (z3,z4,z5) z6 z7)) h1.2.2.2.1 x.box.length 0 BC x.kind x.num.1 x.num.2.1 x.num.2.2 x.char [] rfl (Nat.zero_le _) (Di (by omega)) rfl
  rw [List.drop_zero,show ((0:Nat):Int)=0 from rfl,List.nil_append] at this
  rw [this]
  exact congrArg some (Itm.eta x)
theorem JN {x : Itm} (h : okI x) : FY x=some x:=Nd _ (Nat.lt_succ_self _) h
theorem NN {a : Arr} (h : okAr a) : Cn a (⟨.fn 173 [] [],fun x=>FY x⟩ : B1)=some a:=by
 have ho:=(Bm a).1 h
 have:=KR (a:=a) (f:=⟨.fn 173 [] [],fun x=>FY x⟩) (h:=id) (fun y hy=>JN (ho.2.2.2 y hy)) ho.2.1 ho.2.2.1
 rwa [List.map_id,Arr.eta] at this
theorem IP {a b : List Int} (hab : a.length=b.length) (K : Bool→Option Bool) (hl : a.length≤17592186044416) : ∀ (n i k : Nat) (s : Bool),n=a.length - i→i≤a.length→n<k →
  A5 a b K k s (i:Int)=if a.drop i=b.drop i then K s else some false
 | n,i,0,s,_,_,h=>by omega
 | n,i,k+1,s,hn,hi,hk=>by
  rw [A5]
  by_cases hlt:i<a.length
  ·rw [if_pos (by omega),Dp hlt,oB,Dp (by omega:i<b.length),oB,List.drop_eq_getElem_cons hlt,List.drop_eq_getElem_cons (by omega:i<b.length)]
   by_cases hc:a[i]=b[i]
   ·rw [if_pos hc,Dj (by omega),IP hab K hl (n - 1) (i+1) k s (by omega) (by omega) (by omega)]
    simp only [hc,List.cons.injEq,true_and]
   ·rw [if_neg hc,if_neg (fun h=>hc (List.cons.inj h).1)]
  ·rw [if_neg (by omega),List.drop_of_length_le (by omega),List.drop_of_length_le (by omega),if_pos rfl]
theorem UI {a b : List Int} (hl : a.length≤17592186044416) : Bu a b=some (decide (a=b)):=by
 unfold Bu
 by_cases hab:a.length=b.length
 ·rw [if_pos (by omega)]
  simp only [jn]
  have:=IP hab (fun _=>some true) hl a.length 0 BC false rfl (Nat.zero_le _) (Di (by omega))
  rw [List.drop_zero,List.drop_zero,show ((0:Nat):Int)=0 from rfl] at this
  rw [this]
  by_cases h:a=b <;> simp [h]
 ·rw [if_neg (by omega)]
  rw [dF fun h=>hab (by rw [h])]
mutual
def smI : Itm→Prop
 | .mk _ n _ b=>okL 1048576 n.2.1=true∧okL 1048576 n.2.2=true∧smAs b
def smA : Arr→Prop
 | .mk _ i=>smIs i
def smIs : List Itm→Prop
 | []=>True
 | x::xs=>smI x∧smIs xs
def smAs : List Arr→Prop
 | []=>True
 | x::xs=>smA x∧smAs xs
end
theorem Itm.ext_iff' (x y : Itm) : x=y↔x.kind=y.kind∧x.char=y.char∧x.num=y.num∧x.box=y.box:=by
 cases x;cases y;simp only [Itm.mk.injEq,Itm.kind,Itm.char,Itm.num,Itm.box]
 constructor
 ·rintro ⟨a,b,c,d⟩;exact ⟨a,c,b,d⟩
 ·rintro ⟨a,b,c,d⟩;exact ⟨a,c,b,d⟩
theorem Arr.ext_iff' (x y : Arr) : x=y↔x.shape=y.shape∧x.items=y.items:=by cases x;cases y;simp only [Arr.mk.injEq,Arr.shape,Arr.items]
theorem MY {rc : Arr→Arr→Option Bool} {x y : Itm} (hrc : ∀ a ∈ x.box,∀ b ∈ y.box,Tells (rc a b) (a=b)) (hab : x.box.length=y.box.length) (K : Bool→Option Bool) (hK : ∀ s,K s=some true) (hl : x.box.length≤17592186044416) : ∀ (n i k : Nat) (s : Bool),n=x.box.length - i→i≤x.box.length→n<k →
  Tells (BD rc x y K k s (i:Int)) (x.box.drop i=y.box.drop i)
 | n,i,0,s,_,_,h=>by omega
 | n,i,k+1,s,hn,hi,hk=>by
  rw [BD]
  by_cases hlt:i<x.box.length
  ·have hlt2:i<y.box.length:=by omega
   rw [if_pos (by omega),Dp hlt,oB,Dp hlt2,oB,List.drop_eq_getElem_cons hlt,List.drop_eq_getElem_cons hlt2]
   obtain ⟨r,h1,h2⟩:=hrc _ (List.getElem_mem hlt) _ (List.getElem_mem hlt2)
   rw [h1,oB]
   by_cases hc:r=true
   ·rw [if_pos hc,Dj (by omega)]
    refine (MY hrc hab K hK hl (n - 1) (i+1) k s (by omega) (by omega) (by omega)).of ?_
    rw [List.cons.injEq];exact ⟨fun h=>⟨h2.1 hc,h⟩,fun h=>h.2⟩
   ·rw [if_neg hc]
    exact ⟨false,rfl,⟨nofun,fun h=>absurd (h2.2 (List.cons.inj h).1) hc⟩⟩
  ·rw [if_neg (by omega),List.drop_of_length_le (by omega),List.drop_of_length_le (by omega),hK];exact ⟨true,rfl,by simp⟩
theorem N2 {rc : Arr→Arr→Option Bool} {x y : Itm} (hx : okI x) (hrc : ∀ a ∈ x.box,∀ b ∈ y.box,Tells (rc a b) (a=b)) : Tells (Cr rc x y) (x=y):=by
 have ox:=(Ez x).1 hx
 have on:=Jo.1 ox.2.1
 unfold Cr
 rw [Itm.ext_iff']
 by_cases h1:x.kind=y.kind
 rotate_left
 ·rw [if_neg h1];exact ⟨false,rfl,by simp [h1]⟩
 rw [if_pos h1]
 by_cases h2:x.char=y.char
 rotate_left
 ·rw [if_neg h2];exact ⟨false,rfl,by simp [h2]⟩
 rw [if_pos h2,L3,if_pos (by simp [on.2.2.1,on.2.2.2]),oB]
 by_cases h3:x.num=y.num
 rotate_left
 ·rw [if_neg (by simpa using h3)];exact ⟨false,rfl,by simp [h3]⟩
 rw [if_pos (by simpa using h3),oB]
 by_cases h4:x.box.length=y.box.length
 rotate_left
 ·rw [if_pos (by simp;omega)];exact ⟨false,rfl,by simp;intro _ _ _ h;rw [h] at h4;exact h4 rfl⟩
 rw [if_neg (by simp;omega)]
 simp only [jn]
 have:=MY hrc h4 (fun _=>some true) (fun _=>rfl) (Nat.le_trans ox.2.2.2.1 (by decide)) x.box.length 0 BC false rfl (Nat.zero_le _) (Di (by omega))
 rw [List.drop_zero,List.drop_zero,show ((0:Nat):Int)=0 from rfl] at this
 exact this.of (by simp [h1,h2,h3])
theorem NF {a b : Arr} (hab : a.shape.length=b.shape.length) (K : Bool→Option Bool) {p : Prop} (hK : ∀ s,Tells (K s) p) (hl : a.shape.length≤17592186044416) : ∀ (n i k : Nat) (s : Bool),n=a.shape.length - i→i≤a.shape.length→n<k →
  Tells (CM a b K k s (i:Int)) (a.shape.drop i=b.shape.drop i∧p)
 | n,i,0,s,_,_,h=>by omega
 | n,i,k+1,s,hn,hi,hk=>by
  rw [CM]
  by_cases hlt:i<a.shape.length
  ·have hlt2:i<b.shape.length:=by omega
   rw [if_pos (by omega),Dp hlt,oB,Dp hlt2,oB,List.drop_eq_getElem_cons hlt,List.drop_eq_getElem_cons hlt2]
   by_cases hc:a.shape[i]=b.shape[i]
   ·rw [if_pos hc,Dj (by omega)]
    exact (NF hab K hK hl (n - 1) (i+1) k s (by omega) (by omega) (by omega)).of (by rw [List.cons.injEq];exact ⟨fun h=>⟨⟨hc,h.1⟩,h.2⟩,fun h=>⟨h.1.2,h.2⟩⟩)
   ·rw [if_neg hc]
    exact ⟨false,rfl,⟨nofun,fun h=>absurd (List.cons.inj h.1).1 hc⟩⟩
  ·rw [if_neg (by omega),List.drop_of_length_le (by omega),List.drop_of_length_le (by omega)];exact (hK s).of (by simp)
theorem Ng {rc : Arr→Arr→Option Bool} {a b : Arr} (hrc : ∀ x ∈ a.items,∀ y ∈ b.items,Tells (Cr rc x y) (x=y)) (hab : a.items.length=b.items.length) (K : Bool→Option Bool) (hK : ∀ s,K s=some true) (hl : a.items.length≤17592186044416) : ∀ (n i k : Nat) (s : Bool),n=a.items.length - i→i≤a.items.length→n<k →
  Tells (Cg rc a b K k s (i:Int)) (a.items.drop i=b.items.drop i)
 | n,i,0,s,_,_,h=>by omega
 | n,i,k+1,s,hn,hi,hk=>by
  rw [Cg]
  by_cases hlt:i<a.items.length
  ·have hlt2:i<b.items.length:=by omega
   rw [if_pos (by omega),Dp hlt,oB,Dp hlt2,oB,List.drop_eq_getElem_cons hlt,List.drop_eq_getElem_cons hlt2]
   obtain ⟨r,h1,h2⟩:=hrc _ (List.getElem_mem hlt) _ (List.getElem_mem hlt2)
   rw [h1,oB]
   by_cases hc:r=true
   ·rw [if_pos hc,Dj (by omega)]
    refine (Ng hrc hab K hK hl (n - 1) (i+1) k s (by omega) (by omega) (by omega)).of ?_
    rw [List.cons.injEq];exact ⟨fun h=>⟨h2.1 hc,h⟩,fun h=>h.2⟩
   ·rw [if_neg hc]
    exact ⟨false,rfl,⟨nofun,fun h=>absurd (h2.2 (List.cons.inj h).1) hc⟩⟩
  ·rw [if_neg (by omega),List.drop_of_length_le (by omega),List.drop_of_length_le (by omega),hK];exact ⟨true,rfl,by simp⟩
theorem S9 {rc : Arr→Arr→Option Bool} {a b : Arr} (oa : a.shape.length≤17592186044416∧a.items.length≤1466015503701) (ih : ∀ x ∈ a.items,∀ y ∈ b.items,Tells (Cr rc x y) (x=y)) : Tells (EC rc a b) (a=b):=by
 rw [EC,Arr.ext_iff']
 by_cases h1:a.shape.length=b.shape.length∧a.items.length=b.items.length
 rotate_left
 ·rw [if_pos (by simp;omega)];exact ⟨false,rfl,by simp;intro e1 e2;exact h1 ⟨by rw [e1],by rw [e2]⟩⟩
 rw [if_neg (by simp;omega)]
 rw [HF]
 have h2:=NF h1.1 (p:=a.items=b.items) (fun z1=>jn (fun (z6:Bool)=>(some (true))) fun K2=>(Cg rc a b K2 BC z1 0)) (fun s=>by
  rw [HF]
  have h3:=Ng ih h1.2 (fun _=>some true) (fun _=>rfl) (Nat.le_trans oa.2 (by decide)) a.items.length 0 BC s rfl (Nat.zero_le _) (Di (by omega))
  rw [show ((0:Nat):Int)=0 from rfl,List.drop_zero,List.drop_zero] at h3
  exact h3) oa.1 a.shape.length 0 BC false rfl (Nat.zero_le _) (Di (by omega))
 rw [show ((0:Nat):Int)=0 from rfl,List.drop_zero,List.drop_zero] at h2
 exact h2
theorem MT : ∀ (k : Nat) {a b : Arr},a.size<k→okAr a→Tells (D9 k a b) (a=b)
 | 0,a,b,h,_=>by omega
 | k+1,a,b,h,ha=>by
  have oa:=(Bm a).1 ha
  rw [D9]
  exact S9 ⟨oa.2.1,oa.2.2.1⟩ fun x hx y hy=>N2 (oa.2.2.2 x hx) fun p hp q hq =>
   MT k (by have:=Ga hx;have:p.size<x.size:=Gg hp;omega) (((Ez x).1 (oa.2.2.2 x hx)).2.2.2.2 p hp)
theorem RB {a b : Arr} (ha : okAr a) : Tells (GC a b) (a=b):=MT _ (Nat.lt_succ_self _) ha
section
variable {S : Type} (step : Itm→S→Option (Bool × S))
def N9 : List Itm→S→Int→Option (Int × S)
 | [],s,_=>some (-1,s)
 | x::xs,s,i=>(step x s).bind fun r=>if r.1=true then some (i,r.2) else N9 xs r.2 (i+1)
end
theorem XO {z : Int} (h1 : -9223372036854775808≤z) (h2 : z≤9223372036854775807) : w64 z=z:=by
 simp only [w64,IntKind.wrap,IntKind.bits,IntKind.signed];simp;omega
abbrev dvI (x : Itm) : DV:=.ag [.i .u8 x.kind,.b x.num.1,.sl (L x.num.2.1),.sl (L x.num.2.2),.i .i32 x.char,.sl (Ars x.box)]
abbrev dvA (x : Arr) : DV:=.ag [.sl (Is x.shape),.sl (Its x.items)]
set_option maxRecDepth 10000 in
theorem NV {S : Type} {step : Itm→S→Option (Bool × S)} {st : S→Af→Prop} {f : FuncId} {caps : List AV} (hcall : ∀ args w,(callFunc f args).run Tryz.prog w=.ok (.enter f args) w) (hnc : noOwnL caps=true)
  (hstep:∀ (x:Itm) s r H,st s H→step x s=some r→FnR Tryz.prog f (.d (dvI x)::caps) H fun v H'=>v=.d (.b r.1)∧st r.2 H')
  {xs:List Itm} {s:S} {r:Int × S} (hl:xs.length≤9223372036854775806) (h:N9 step xs s 0=some r) {H:Af} (hs:st s H) :
  FnR Tryz.prog 227 [.d (.sl (Its xs)),.fn f [] caps] H fun v H'=>v=.d (.i .i64 r.1)∧st r.2 H':=by
 have hfn:noOwn (.fn f [] caps)=true:=by simp [noOwn,noOwnL,hnc]
 refine FnR.of (rs:=[.tmp 4]) 19 Tryz.func227 rfl rfl rfl (by simp) ?_;refine .seq ?_;refine .region ?_;refine asd ?_;refine rn ?_;refine .seq ?_;refine .seq ?_;refine .region ?_;refine vk (Aa) ?_;refine vk (Bz (AN _) (Dr _) Dl) ?_;refine vk (Aa) ?_;refine rn ?_;refine .block ?_
 refine .loop (.gh (Gh.keep [0,1,7,8] rfl) ?_)
 refine AL.ind (σ:=Nat × S × Af) (m:=fun p=>xs.length - p.1) (e:=fun p=>[(0,.d (.sl (Its xs))),(1,.fn f [] caps),(7,.d (.i .i64 ((List.length xs:Nat):Int))),(8,.d (.i .i64 ((p.1:Nat):Int)))]) (h:=fun p=>p.2.2)
  (I:=fun p=>p.1≤xs.length∧st p.2.1 p.2.2∧N9 step (xs.drop p.1) p.2.1 (p.1:Int)=some r) ?_ (0,s,H) ⟨Nat.zero_le _,hs,h⟩
 rintro ⟨i,s,H⟩ ⟨hi,hs,h⟩ ih
 dsimp only at hi hs h ih ⊢
 refine .seq ?_;refine .region ?_;refine vk (vbi) ?_;refine rn ?_;refine .seq ?_
 by_cases hc:((i:Nat):Int)<((List.length xs:Nat):Int)
 ·refine cnt (dT hc) ?_
  have hlt:i<xs.length:=by omega
  rw [List.drop_eq_getElem_cons hlt,N9] at h
  obtain ⟨z,hz,h⟩:=bnd h
  refine .skip ?_
  show AW _ _ _ _ _ _
  refine .seq ?_;refine .block ?_;refine .seq ?_;refine .region ?_;refine vk (Aa) ?_;refine asd ?_;refine rn ?_;refine .seq ?_;refine .region ?_;refine vk (X5 (av:=.fn f [] caps) (hn:=hfn)) ?_;refine vk (Aa) ?_;refine vk (Aa) ?_;refine vk (vix i rfl (Ec (List.getElem?_eq_getElem hlt)) rfl DO) ?_;refine vk (Ap AP Ay) ?_
  refine Aaj (avs:=[.d (dvI xs[i])]) (hstep _ _ _ _ hs hz) hcall (fun v H' hp=>?_) (hnc:=hnc)
  obtain ⟨rfl,hs'⟩:=hp
  refine rn ?_
  by_cases hc:z.1=true
  ·refine cnt hc ?_
   rw [if_pos hc] at h
   cases h
   refine .seq ?_;refine .region ?_;refine vk (Aa) ?_;refine asd ?_;refine rn ?_;refine .ret ?_
   exact ⟨_,⟨rfl,rfl⟩,rfl,hs'⟩
  refine cnf (bf hc) ?_
  rw [if_neg hc] at h
  refine .skip ?_
  show AW _ _ _ _ _ _
  refine .region ?_;refine vk (vbi) ?_;refine vk (Aa) ?_;refine .nil ?_
  have hw:IntKind.wrap .i64 ((i:Int)+1)=((i+1:Nat):Int):=by rw [show IntKind.wrap .i64 ((i:Int)+1)=(i:Int)+1 from XO (by omega) (by omega)];omega
  rw [hw]
  refine AL.gh (Gh.keep [0,1,7,8] rfl) ?_
  exact ih (i+1,z.2,H') ⟨hlt,hs',by rw [← h];simp⟩ (by dsimp only;omega)
 ·refine cnf (dF hc) ?_
  have:i=xs.length:=by omega
  subst this
  rw [List.drop_length,N9] at h
  cases h
  refine .exit ?_
  show AW _ _ _ _ _ _
  refine .seq ?_;refine .region ?_;refine asd ?_;refine rn ?_;refine .ret ?_
  exact ⟨_,⟨rfl,rfl⟩,rfl,hs⟩
theorem K9 {S : Type} {step : Itm→S→Option (Bool × S)} {st : S→Af→Prop} {f : FuncId} {caps : List AV} (hcall : ∀ args w,(callFunc f args).run Tryz.prog w=.ok (.enter f args) w) (hnc : noOwnL caps=true)
  (hstep:∀ (x:Itm) s r H,st s H→step x s=some r→FnR Tryz.prog f (.d (dvI x)::caps) H fun v H'=>v=.d (.b r.1)∧st r.2 H')
  {xs:List Itm} {s:S} {r:Int × S} (hl:xs.length≤9223372036854775806) (h:N9 step xs s 0=some r) {H:Af} (hs:st s H) :
  FnR Tryz.prog 179 [.d (.sl (Its xs)),.fn f [] caps] H fun v H'=>v=.d (.b (decide (0≤r.1)))∧st r.2 H':=by
 have hfn:noOwn (.fn f [] caps)=true:=by simp [noOwn,noOwnL,hnc]
 refine FnR.of (rs:=[.tmp 4]) 9 Tryz.func179 rfl rfl rfl (by simp) ?_;refine .seq ?_;refine .region ?_;refine asd ?_;refine rn ?_;refine .seq ?_;refine .region ?_;refine vk (Aa) ?_;refine vk (X5 (av:=.fn f [] caps) (hn:=hfn)) ?_
 refine clR (avs:=[.d (.sl (Its xs)),.fn f [] caps]) (NV hcall hnc hstep hl h hs) Tryz.call227 (fun v H' hp=>?_) (ha:=by simp [argsA,lk,get,hfn,AY,noOwn])
 obtain ⟨rfl,hs'⟩:=hp
 refine vk (vbi) ?_;refine asd ?_;refine rn ?_;refine .ret ?_
 exact ⟨_,⟨rfl,rfl⟩,rfl,hs'⟩
abbrev M3:=Bool × Int × Int
abbrev EB (c d : Int) : HO:=.box [.d (.i .i64 c),.d (.i .i64 d)]
def Upd (H : Af) (id : Nat) (o : HO) (H' : Af) : Prop:=H'[id]?=some o∧H.length≤H'.length∧∀ j,j ≠ id→j<H.length→H'[j]?=H[j]?
theorem Upd.same {H : Af} {id : Nat} {o : HO} (h : H[id]?=some o) : Upd H id o H:=⟨h,Nat.le_refl _,fun _ _ _=>rfl⟩
theorem Upd.trans {H H' H'' : Af} {id : Nat} {o o' : HO} (h : Upd H id o H') (k : Upd H' id o' H'') : Upd H id o' H'' :=
 ⟨k.1,Nat.le_trans h.2.1 k.2.1,fun j h1 h2=>(k.2.2 j h1 (Nat.lt_of_lt_of_le h2 h.2.1)).trans (h.2.2 j h1 h2)⟩
def PE (id : Nat) (r : M3) (H : Af) : AV→Af→Prop:=fun v H'=>v=.d (.b r.1)∧Upd H id (EB r.2.1 r.2.2) H'
theorem PE.refl {id : Nat} {b : Bool} {c d : Int} {H : Af} (h : H[id]?=some (EB c d)) : PE id (b,c,d) H (.d (.b b)) H:=⟨rfl,.same h⟩
def OA (rc : Arr→Int→Int→Int→Option M3) : Prop:=∀ (a : Arr) (deep c d : Int) (r : M3),rc a deep c d=some r→∀ (H : Af) (id : Nat),H[id]?=some (EB c d) →
 FnR Tryz.prog 108 [.bp id 0,.d (dvA a),.d (.i .i64 deep)] H (PE id r H)
def Er (a1 : Itm) : Bool:=((!a1.num.1) && ((decide (((List.length a1.num.2.1 : Nat) : Int)=0)) && (decide (((List.length a1.num.2.2 : Nat) : Int)=0))))
def ML (rc : Arr→Int→Int→Int→Option M3) (a1 : Itm) (a2 c d : Int) : Option M3:=(if a1.kind=1 then ((Dx a1.num).bind fun x1=>(some ((x1 && ((decide (a1.char=0)) && (decide (((List.length a1.box : Nat) : Int)=0)))),c,d))) else (if a1.kind=2 then ((Fp a1.char).bind fun x2=>(some ((x2 && (Er a1 && (decide (((List.length a1.box : Nat) : Int)=0)))),c,d))) else (if a1.kind=3 then (if ((List.length a1.box : Nat) : Int)=1 then (if Er a1=true then (if a1.char=0 then ((rd? a1.box 0).bind fun x4=>((Cs x4).bind fun x5=>(if x5=true then (some (false,c,d)) else ((rd? a1.box 0).bind fun x6=>((rc x6 a2 c d).bind fun x7=>(some x7)))))) else (some (false,c,d))) else (some (false,c,d))) else (some (false,c,d))) else (some (false,c,d)))))
set_option maxHeartbeats 4000000 in
theorem H0 {rc : Arr→Int→Int→Int→Option M3} (orc : OA rc) {a1 : Itm} {a2 c d : Int} {r : M3} (h : ML rc a1 a2 c d=some r) {H : Af} {id : Nat} (hH : H[id]?=some (EB c d)) :
  FnR Tryz.prog 193 [.bp id 0,.d (dvI a1),.d (.i .i64 a2)] H (PE id r H):=by
 unfold ML Er at h
 refine FnR.of (rs:=[.tmp 6]) 89 Tryz.func193 rfl rfl rfl (by simp) ?_;refine .seq ?_;refine .region ?_;refine vk (vbx) ?_;refine asd ?_;refine rn ?_;refine .gh (Gh.keep [0,2,4,6] rfl) ?_;refine .seq ?_;refine AW.mr (σ:=Unit) (fun _=>True) (fun _=>[(0,.bp id 0),(2,.d (.i .i64 a2)),(4,.d (.ptr [.i .u8 a1.kind,.b a1.num.1,.sl (L a1.num.2.1),.sl (L a1.num.2.2),.i .i32 a1.char,.sl (Ars a1.box)])),(6,.d (.b false)),(7,.d (.b ((!a1.num.1) && ((decide (((List.length a1.num.2.1:Nat):Int)=0)) && (decide (((List.length a1.num.2.2:Nat):Int)=0))))))]) (fun _=>H) ?_ ?_
 ·skip
  refine .region ?_;refine vk (vfa Cc) ?_;refine vk (vfa CY) ?_;refine vk (An BF) ?_;refine vk (vnt) ?_
  by_cases hc:a1.num.1=true
  ·have hb0:(!a1.num.1)=false:=(ntf hc)
   refine vk (VOK.lit (Aa) hb0) ?_;refine gf ?_;refine gf ?_;refine gf ?_;refine gf ?_;refine gf ?_;refine vk (Am) ?_;refine vk (Aa) ?_;refine gf ?_;refine gf ?_;refine gf ?_;refine gf ?_;refine gf ?_;refine vk (Am) ?_;refine asd ?_;refine RL.gh (Gh.keep [0,2,4,6,7] rfl) ?_;refine .nil ?_
   exact jr () trivial (by simp only [hb0];rfl)
  have hb0:(!a1.num.1)=true:=(ntt (bf hc))
  refine vk (VOK.lit (Aa) hb0) ?_;refine vk (vfa Cc) ?_;refine vk (vfa BY) ?_;refine vk (An C7) ?_;refine vk (Bz (Ab _) (Bo _) Jf) ?_;refine vk (vbi) ?_;refine vk (Am) ?_
  by_cases hc:((List.length a1.num.2.1:Nat):Int)=0
  ·have hb1:(decide (((List.length a1.num.2.1:Nat):Int)=0))=true:=(dT hc)
   refine vk (VOK.lit (Aa) hb1) ?_;refine vk (vfa Cc) ?_;refine vk (vfa FE) ?_;refine vk (An C7) ?_;refine vk (Bz (Ab _) (Bo _) Jf) ?_;refine vk (vbi) ?_;refine vk (Am) ?_;refine asd ?_;refine RL.gh (Gh.keep [0,2,4,6,7] rfl) ?_;refine .nil ?_
   exact jr () trivial (by simp only [hb0,hb1];rfl)
  have hb1:(decide (((List.length a1.num.2.1:Nat):Int)=0))=false:=(dF hc)
  refine vk (VOK.lit (Aa) hb1) ?_;refine gf ?_;refine gf ?_;refine gf ?_;refine gf ?_;refine gf ?_;refine vk (Am) ?_;refine asd ?_;refine RL.gh (Gh.keep [0,2,4,6,7] rfl) ?_;refine .nil ?_
  exact jr () trivial (by simp only [hb0,hb1];rfl)
 rintro _ _
 refine .seq ?_;refine .seq ?_;refine .region ?_;refine vk (vfa Cd) ?_;refine vk (An Be) ?_;refine rn ?_;refine .gh (Gh.keep [0,2,4,6,7,27] rfl) ?_;refine .block ?_;refine .seq ?_;refine .region ?_;refine vk (vbi) ?_;refine asd ?_;refine rn ?_;refine .gh (Gh.keep [0,2,4,6,7,27,28] rfl) ?_
 by_cases hc:a1.kind=1
 ·replace h:=Aj hc h
  refine cnt (dT hc) ?_;refine .seq ?_
  obtain ⟨x1,hx1,h⟩:=bnd h
  refine AW.mr (σ:=Unit) (fun _=>True) (fun _=>[(6,.d (.b (x1 && ((decide (a1.char=0)) && (decide (((List.length a1.box:Nat):Int)=0))))))]) (fun _=>H) ?_ ?_
  ·skip
   refine .region ?_;refine vk (vfa Cc) ?_;refine vk (Ap Au Ak) ?_;refine vk (Ad (DJ hx1) Tryz.call45) ?_
   by_cases hc:x1=true
   ·have hb0:x1=true:=hc
    refine vk (VOK.lit (Aa) hb0) ?_;refine vk (vfa DT) ?_;refine vk (An CP) ?_;refine vk (vbi) ?_;refine vk (Am) ?_
    by_cases hc:a1.char=0
    ·have hb1:(decide (a1.char=0))=true:=(dT hc)
     refine vk (VOK.lit (Aa) hb1) ?_;refine vk (vfa BE) ?_;refine vk (An Dt) ?_;refine vk (Bz (B6 _) (FJ _) FF) ?_;refine vk (vbi) ?_;refine vk (Am) ?_;refine asd ?_;refine RL.gh (Gh.keep [6] rfl) ?_;refine .nil ?_
     exact jr () trivial (by simp only [hb0,hb1];rfl)
    have hb1:(decide (a1.char=0))=false:=(dF hc)
    refine vk (VOK.lit (Aa) hb1) ?_;refine gf ?_;refine gf ?_;refine gf ?_;refine gf ?_;refine vk (Am) ?_;refine asd ?_;refine RL.gh (Gh.keep [6] rfl) ?_;refine .nil ?_
    exact jr () trivial (by simp only [hb0,hb1];rfl)
   have hb0:x1=false:=(bf hc)
   refine vk (VOK.lit (Aa) hb0) ?_;refine gf ?_;refine gf ?_;refine gf ?_;refine vk (Am) ?_;refine vk (Aa) ?_;refine gf ?_;refine gf ?_;refine gf ?_;refine gf ?_;refine vk (Am) ?_;refine asd ?_;refine RL.gh (Gh.keep [6] rfl) ?_;refine .nil ?_
   exact jr () trivial (by simp only [hb0];rfl)
  rintro _ _
  refine .ret ?_
  cases h
  exact ⟨_,⟨rfl,rfl⟩,.refl hH⟩
 replace h:=Ai hc h
 refine cnf (dF hc) ?_;refine .seq ?_;refine .region ?_;refine vk (vbi) ?_;refine asd ?_;refine rn ?_;refine .gh (Gh.keep [0,2,4,6,7,27,44] rfl) ?_
 by_cases hc:a1.kind=2
 ·replace h:=Aj hc h
  refine cnt (dT hc) ?_;refine .seq ?_
  obtain ⟨x2,hx2,h⟩:=bnd h
  refine AW.mr (σ:=Unit) (fun _=>True) (fun _=>[(6,.d (.b (x2 && (((!a1.num.1) && ((decide (((List.length a1.num.2.1:Nat):Int)=0)) && (decide (((List.length a1.num.2.2:Nat):Int)=0)))) && (decide (((List.length a1.box:Nat):Int)=0))))))]) (fun _=>H) ?_ ?_
  ·skip
   refine .region ?_;refine vk (vfa DT) ?_;refine vk (An CP) ?_;refine vk (Ad (KW hx2) Tryz.call231) ?_
   by_cases hc:x2=true
   ·have hb0:x2=true:=hc
    refine vk (VOK.lit (Aa) hb0) ?_;refine vk (Aa) ?_;refine vk (Am) ?_
    by_cases hc:((!a1.num.1) && ((decide (((List.length a1.num.2.1:Nat):Int)=0)) && (decide (((List.length a1.num.2.2:Nat):Int)=0))))=true
    ·have hb1:((!a1.num.1) && ((decide (((List.length a1.num.2.1:Nat):Int)=0)) && (decide (((List.length a1.num.2.2:Nat):Int)=0))))=true:=hc
     refine vk (VOK.lit (Aa) hb1) ?_;refine vk (vfa BE) ?_;refine vk (An Dt) ?_;refine vk (Bz (B6 _) (FJ _) FF) ?_;refine vk (vbi) ?_;refine vk (Am) ?_;refine asd ?_;refine RL.gh (Gh.keep [6] rfl) ?_;refine .nil ?_
     exact jr () trivial (by simp only [hb0,hb1];rfl)
    have hb1:((!a1.num.1) && ((decide (((List.length a1.num.2.1:Nat):Int)=0)) && (decide (((List.length a1.num.2.2:Nat):Int)=0))))=false:=(bf hc)
    refine vk (VOK.lit (Aa) hb1) ?_;refine gf ?_;refine gf ?_;refine gf ?_;refine gf ?_;refine vk (Am) ?_;refine asd ?_;refine RL.gh (Gh.keep [6] rfl) ?_;refine .nil ?_
    exact jr () trivial (by simp only [hb0,hb1];rfl)
   have hb0:x2=false:=(bf hc)
   refine vk (VOK.lit (Aa) hb0) ?_;refine gf ?_;refine vk (Am) ?_;refine vk (Aa) ?_;refine gf ?_;refine gf ?_;refine gf ?_;refine gf ?_;refine vk (Am) ?_;refine asd ?_;refine RL.gh (Gh.keep [6] rfl) ?_;refine .nil ?_
   exact jr () trivial (by simp only [hb0];rfl)
  rintro _ _
  refine .ret ?_
  cases h
  exact ⟨_,⟨rfl,rfl⟩,.refl hH⟩
 replace h:=Ai hc h
 refine cnf (dF hc) ?_;refine .seq ?_;refine .region ?_;refine vk (vbi) ?_;refine asd ?_;refine rn ?_;refine .gh (Gh.keep [0,2,4,6,7,58] rfl) ?_
 by_cases hc:a1.kind=3
 ·replace h:=Aj hc h
  refine cnt (dT hc) ?_;refine .seq ?_
  ·skip
   refine .region ?_;refine vk (vfa BE) ?_;refine vk (An Dt) ?_;refine vk (Bz (B6 _) (FJ _) FF) ?_;refine vk (vbi) ?_
   by_cases hc:((List.length a1.box:Nat):Int)=1
   ·replace h:=Aj hc h
    have hb0:(decide (((List.length a1.box:Nat):Int)=1))=true:=(dT hc)
    refine vk (VOK.lit (Aa) hb0) ?_;refine vk (Aa) ?_;refine vk (Am) ?_
    by_cases hc:((!a1.num.1) && ((decide (((List.length a1.num.2.1:Nat):Int)=0)) && (decide (((List.length a1.num.2.2:Nat):Int)=0))))=true
    ·replace h:=Aj hc h
     have hb1:((!a1.num.1) && ((decide (((List.length a1.num.2.1:Nat):Int)=0)) && (decide (((List.length a1.num.2.2:Nat):Int)=0))))=true:=hc
     refine vk (VOK.lit (Aa) hb1) ?_;refine vk (vfa DT) ?_;refine vk (An CP) ?_;refine vk (vbi) ?_;refine vk (Am) ?_
     by_cases hc:a1.char=0
     ·replace h:=Aj hc h
      have hb2:(decide (a1.char=0))=true:=(dT hc)
      refine vk (VOK.lit (Aa) hb2) ?_;refine vk (vfa BE) ?_;refine vk (An Dt) ?_
      obtain ⟨x4,hx4,h⟩:=bnd h
      obtain ⟨nx4,hnx4,hxx4⟩:=AS hx4
      refine vk (vix nx4 hnx4 (F6 hxx4) rfl F5) ?_;refine vk (Ap As Ag) ?_
      obtain ⟨x5,hx5,h⟩:=bnd h
      refine vk (Ad (Et hx5) Tryz.call172) ?_;refine vk (vnt) ?_;refine vk (Am) ?_
      by_cases hc:x5=true
      ·replace h:=Aj hc h
       have hb3:(!x5)=false:=(ntf hc)
       refine vk (VOK.lit (Aa) hb3) ?_;refine gf ?_;refine gf ?_;refine gf ?_;refine gf ?_;refine gf ?_;refine gf ?_;refine gf ?_;refine vk (Am) ?_;refine asd ?_;refine rn ?_;refine .gh (Gh.keep [6] rfl) ?_;refine .ret ?_
       cases h
       exact ⟨_,⟨rfl,rfl⟩,.refl hH⟩
      replace h:=Ai hc h
      have hb3:(!x5)=true:=(ntt (bf hc))
      refine vk (VOK.lit (Aa) hb3) ?_;refine vk (X5 (av:=.bp id 0)) ?_;refine vk (vfa BE) ?_;refine vk (An Dt) ?_
      obtain ⟨x6,hx6,h⟩:=bnd h
      obtain ⟨nx6,hnx6,hxx6⟩:=AS hx6
      refine vk (vix nx6 hnx6 (F6 hxx6) rfl F5) ?_;refine vk (Ap As Ag) ?_;refine vk (Aa) ?_
      obtain ⟨x7,hx7,h⟩:=bnd h
      refine clR (avs:=[.bp id 0,.d (dvA x6),.d (.i .i64 a2)]) (orc x6 a2 c d x7 hx7 H id hH) Tryz.call108 (fun v H' hp=>?_)
      obtain ⟨rfl,hp⟩:=hp
      refine vk (Am) ?_;refine asd ?_;refine rn ?_;refine .gh (Gh.keep [6] rfl) ?_;refine .ret ?_
      cases h
      exact ⟨_,⟨rfl,rfl⟩,rfl,hp⟩
     replace h:=Ai hc h
     have hb2:(decide (a1.char=0))=false:=(dF hc)
     refine vk (VOK.lit (Aa) hb2) ?_;refine gf ?_;refine gf ?_;refine gf ?_;refine gf ?_;refine gf ?_;refine gf ?_;refine vk (Am) ?_;refine vk (Aa) ?_;refine gf ?_;refine gf ?_;refine gf ?_;refine gf ?_;refine gf ?_;refine gf ?_;refine gf ?_;refine vk (Am) ?_;refine asd ?_;refine rn ?_;refine .gh (Gh.keep [6] rfl) ?_;refine .ret ?_
     cases h
     exact ⟨_,⟨rfl,rfl⟩,.refl hH⟩
    replace h:=Ai hc h
    have hb1:((!a1.num.1) && ((decide (((List.length a1.num.2.1:Nat):Int)=0)) && (decide (((List.length a1.num.2.2:Nat):Int)=0))))=false:=(bf hc)
    refine vk (VOK.lit (Aa) hb1) ?_;refine gf ?_;refine gf ?_;refine gf ?_;refine vk (Am) ?_;refine vk (Aa) ?_;refine gf ?_;refine gf ?_;refine gf ?_;refine gf ?_;refine gf ?_;refine gf ?_;refine vk (Am) ?_;refine vk (Aa) ?_;refine gf ?_;refine gf ?_;refine gf ?_;refine gf ?_;refine gf ?_;refine gf ?_;refine gf ?_;refine vk (Am) ?_;refine asd ?_;refine rn ?_;refine .gh (Gh.keep [6] rfl) ?_;refine .ret ?_
    cases h
    exact ⟨_,⟨rfl,rfl⟩,.refl hH⟩
   replace h:=Ai hc h
   have hb0:(decide (((List.length a1.box:Nat):Int)=1))=false:=(dF hc)
   refine vk (VOK.lit (Aa) hb0) ?_;refine gf ?_;refine vk (Am) ?_;refine vk (Aa) ?_;refine gf ?_;refine gf ?_;refine gf ?_;refine vk (Am) ?_;refine vk (Aa) ?_;refine gf ?_;refine gf ?_;refine gf ?_;refine gf ?_;refine gf ?_;refine gf ?_;refine vk (Am) ?_;refine vk (Aa) ?_;refine gf ?_;refine gf ?_;refine gf ?_;refine gf ?_;refine gf ?_;refine gf ?_;refine gf ?_;refine vk (Am) ?_;refine asd ?_;refine rn ?_;refine .gh (Gh.keep [6] rfl) ?_;refine .ret ?_
   cases h
   exact ⟨_,⟨rfl,rfl⟩,.refl hH⟩
 replace h:=Ai hc h
 refine cnf (dF hc) ?_;refine .skip ?_
 show AW _ _ _ _ _ _
 refine .seq ?_;refine .region ?_;refine asd ?_;refine rn ?_;refine .gh (Gh.keep [6] rfl) ?_;refine .ret ?_
 cases h
 exact ⟨_,⟨rfl,rfl⟩,.refl hH⟩
def Jx (rc : Arr→Int→Int→Int→Option M3) (deep : Int) : List Itm→Int→Int→Option M3
 | [],c,d=>some (true,c,d)
 | x::xs,c,d=>(ML rc x deep c d).bind fun z=>if z.1=true then Jx rc deep xs z.2.1 z.2.2 else some (false,z.2.1,z.2.2)
def Pt (rc : Arr→Int→Int→Int→Option M3) (deep : Int) (x : Itm) (s : Int × Int) : Option (Bool × (Int × Int)):=(ML rc x deep s.1 s.2).map fun z=>(!z.1,z.2)
theorem PY {rc : Arr→Int→Int→Int→Option M3} {deep : Int} : ∀ {xs : List Itm} {c d : Int} {z : M3} {i : Int},0≤i→Jx rc deep xs c d=some z→∃ n,N9 (Pt rc deep) xs (c,d) i=some (n,z.2)∧(!decide (0≤n))=z.1
 | [],c,d,z,i,_,h=>by cases h;exact ⟨-1,rfl,rfl⟩
 | x::xs,c,d,z,i,hi,h=>by
  rw [Jx] at h
  obtain ⟨y,hy,h⟩:=bnd h
  have hs:Pt rc deep x (c,d)=some (!y.1,y.2):=by simp [Pt,hy]
  by_cases hc:y.1=true
  ·rw [if_pos hc] at h
   obtain ⟨n,h1,h2⟩:=PY (i:=i+1) (by omega) h
   refine ⟨n,?_,h2⟩
   rw [N9,hs,oB,if_neg (by simp [hc])];exact h1
  ·rw [if_neg hc] at h
   cases h
   refine ⟨i,?_,by simp [hi]⟩
   rw [N9,hs,oB,if_pos (by simp [hc])]
theorem Kg {rc : Arr→Int→Int→Int→Option M3} (orc : OA rc) {x : Itm} {deep c d : Int} {z : M3} (h : ML rc x deep c d=some z) {H : Af} {id n3 n5 : Nat} (hH : H[id]?=some (EB c d)) (h3 : H[n3]?=some (.box [.bp id 0])) (h5 : H[n5]?=some (.box [.d (.i .i64 deep)])) :
  FnR Tryz.prog 192 [.d (dvI x),.bp n3 0,.bp n5 0] H fun v H'=>v=.d (.b (!z.1))∧Upd H id (EB z.2.1 z.2.2) H':=by
 refine FnR.of (rs:=[.tmp 4]) 10 Tryz.func192 rfl rfl rfl (by simp) ?_;refine .seq ?_;refine .region ?_;refine vk (vbx) ?_;refine asd ?_;refine rn ?_;refine .seq ?_;refine .region ?_;refine vk (Ph (cs:=[.bp id 0]) (c:=.bp id 0) h3 rfl (by kernel_rfl)) ?_;refine vk (Ap AP Ay) ?_;refine vk (Qt (cs:=[.d (.i .i64 deep)]) (c:=.i .i64 deep) h5 rfl CK) ?_
 refine clR (avs:=[.bp id 0,.d (dvI x),.d (.i .i64 deep)]) (H0 orc h hH) Tryz.call193 (fun v H' hp=>?_)
 obtain ⟨rfl,hp⟩:=hp
 refine vk (vnt) ?_;refine asd ?_;refine rn ?_;refine .ret ?_
 exact ⟨_,⟨rfl,rfl⟩,rfl,hp⟩
theorem Upd.set_new {H H' : Af} {id n : Nat} {o x : HO} (k : Upd H id o H') (h1 : H.length≤n) (h2 : n ≠ id) : Upd H id o (H'.set n x) :=
 ⟨by rw [List.getElem?_set_ne h2];exact k.1,by simpa using k.2.1,fun j h3 h4=>by rw [List.getElem?_set_ne (by omega)];exact k.2.2 j h3 h4⟩
theorem Upd.set_id {H H' : Af} {id : Nat} {o o' : HO} (k : Upd H id o H') : Upd H id o' (H'.set id o') :=
 ⟨List.getElem?_set_self (List.getElem?_eq_some_iff.1 k.1).1,by simpa using k.2.1,fun j h3 h4=>by rw [List.getElem?_set_ne (Ne.symm h3)];exact k.2.2 j h3 h4⟩
def Tn (rc : Arr→Int→Int→Int→Option M3) (a : Arr) (deep c d : Int) : Option M3 :=
 (C6 a.shape).bind fun x1 =>
  if x1.2=0 then
   if ((List.length a.items:Nat):Int)=(if x1.1<1 then 1 else x1.1) then
    if 16384<w64 (c+((List.length a.items:Nat):Int)) then some (false,w64 (c+((List.length a.items:Nat):Int)),d) else
    (Cs a).bind fun sm =>
     if sm=true then (if deep≤16 then Jx rc deep a.items (w64 (c+((List.length a.items:Nat):Int))) d else some (false,w64 (c+((List.length a.items:Nat):Int)),d))
     else (if w64 (deep+1)≤16 then Jx rc (w64 (deep+1)) a.items (w64 (c+((List.length a.items:Nat):Int))) (if d<w64 (deep+1) then w64 (deep+1) else d) else some (false,w64 (c+((List.length a.items:Nat):Int)),(if d<w64 (deep+1) then w64 (deep+1) else d)))
   else some (false,c,d)
  else some (false,c,d)
set_option maxHeartbeats 4000000 in
set_option maxRecDepth 20000 in
theorem Ld {rc : Arr→Int→Int→Int→Option M3} (orc : OA rc) {a : Arr} {deep c d : Int} {r : M3} (hlen : a.items.length≤9223372036854775806) (h : Tn rc a deep c d=some r) {H : Af} {id : Nat} (hH : H[id]?=some (EB c d)) :
  FnR Tryz.prog 108 [.bp id 0,.d (dvA a),.d (.i .i64 deep)] H (PE id r H):=by
 unfold Tn at h
 have hid:id<H.length:=(List.getElem?_eq_some_iff.1 hH).1
 refine FnR.of (rs:=[.tmp 6]) 63 Tryz.func108 rfl rfl rfl (by simp) ?_;refine .seq ?_;refine .region ?_;refine bxA (c:=.bp id 0) ?_;refine vk (vbx) ?_;refine bxA (c:=.d (.i .i64 deep)) ?_;refine asd ?_
 have f0:Upd H id (EB c d) (H++[.box [.bp id 0]]++[.box [.d (.i .i64 deep)]]):=by
  refine ⟨?_,by simp,fun j h1 h2=>?_⟩
  ·rw [List.append_assoc,List.getElem?_append_left hid];exact hH
  ·rw [List.append_assoc,List.getElem?_append_left h2]
 have f3:(H++[HO.box [AV.bp id 0]]++[.box [.d (.i .i64 deep)]])[H.length]?=some (.box [.bp id 0]):=by simp
 have f5:(H++[HO.box [AV.bp id 0]]++[.box [.d (.i .i64 deep)]])[(H++[HO.box [AV.bp id 0]]).length]?=some (.box [.d (.i .i64 deep)]):=by
  rw [List.getElem?_append_right (Nat.le_refl _)];simp
 have g3:H.length ≠ id:=by omega
 have g5:(H++[HO.box [AV.bp id 0]]).length ≠ id:=by simp;omega
 have g5':H.length≤(H++[HO.box [AV.bp id 0]]).length:=by simp
 have g35:H.length ≠ (H++[HO.box [AV.bp id 0]]).length:=by simp
 have g3':H.length≤H.length:=Nat.le_refl _
 generalize H++[HO.box [AV.bp id 0]]++[.box [.d (.i .i64 deep)]]=H2 at f0 f3 f5 ⊢
 generalize (H++[HO.box [AV.bp id 0]]).length=n5 at f5 g5 g5' g35 ⊢
 obtain ⟨n3,hn3⟩:∃ n3,n3=H.length:=⟨_,rfl⟩
 rw [← hn3] at f3 g3 g35
 rw [← hn3]
 have f1:=f0.1
 refine rn ?_;refine .gh (Gh.keep [3,4,5] rfl) ?_;refine .seq ?_;refine .region ?_;refine vk (vfa Bc) ?_;refine vk (An C3) ?_
 obtain ⟨x1,hx1,h⟩:=bnd h
 refine vk (VOK.tupd (vs:=[.i .i64 x1.1,.i .i64 x1.2]) (Ad (DQ hx1) Tryz.call98)) ?_;refine vk (Aa) ?_;refine vk (vex) ?_;refine vk (vex) ?_;refine asd ?_;refine asd ?_;refine rn ?_;refine .gh (Gh.keep [3,4,5,7,8] rfl) ?_;refine .seq ?_;refine .seq ?_;refine .region ?_;refine vk (Aa) ?_;refine vk (vbi) ?_
 by_cases hc:x1.2=0
 rotate_left
 ·rw [if_neg hc] at h
  cases h
  refine vk (VOK.lit (Aa) (show (!decide (x1.2=0))=true by simp [hc])) ?_;refine gf ?_;refine gf ?_;refine gf ?_;refine gf ?_;refine gf ?_;refine gf ?_;refine vk (Am) ?_;refine rn ?_;refine cnt rfl ?_;refine .seq ?_;refine .region ?_;refine asd ?_;refine rn ?_;refine .ret ?_
  exact ⟨_,⟨rfl,rfl⟩,rfl,f0⟩
 rw [if_pos hc] at h
 refine vk (VOK.lit (Aa) (show (!decide (x1.2=0))=false by simp [hc])) ?_;refine vk (vfa A6) ?_;refine vk (An CC) ?_;refine vk (Bz (AN _) (Dr _) Dl) ?_;refine vk (Aa) ?_;refine vk (vmx) ?_;refine vk (vbi) ?_;refine vk (Am) ?_;refine rn ?_
 by_cases hc:((List.length a.items:Nat):Int)=(if x1.1<1 then 1 else x1.1)
 rotate_left
 ·rw [if_neg hc] at h
  cases h
  refine cnt (ntt (dF hc)) ?_;refine .seq ?_;refine .region ?_;refine asd ?_;refine rn ?_;refine .ret ?_
  exact ⟨_,⟨rfl,rfl⟩,rfl,f0⟩
 rw [if_pos hc] at h
 refine cnf (ntf (dT hc)) ?_;refine .skip ?_
 show AW _ _ _ _ _ _
 refine .gh (Gh.keep [3,4,5] rfl) ?_;refine .seq ?_;refine .drawn 10 Ba (by kernel_rfl) ?_;refine dv (Ph (cs:=[.bp id 0]) (c:=.bp id 0) f3 rfl (by kernel_rfl)) ?_;refine dv (Tp) ?_;refine dv (GM Lp) ?_;refine dv (Qt (cs:=[.d (.i .i64 c),.d (.i .i64 d)]) (c:=.i .i64 c) f1 rfl CK) ?_;refine dv (vfa A6) ?_;refine dv (An CC) ?_;refine dv (Bz (AN _) (Dr _) Dl) ?_;refine dv (vbi) ?_;refine dv (Tp) ?_;refine dv (GM Lp) ?_;refine dz ?_
 refine stb (cs:=[.d (.i .i64 c),.d (.i .i64 d)]) (c:=.d (.i .i64 c)) f1 rfl ?_ I9
 have q0:=f0.set_id (o':=EB (w64 (c+((List.length a.items:Nat):Int))) d)
 have q3:(H2.set id (EB (w64 (c+((List.length a.items:Nat):Int))) d))[n3]?=some (.box [.bp id 0]):=by rw [List.getElem?_set_ne (Ne.symm g3)];exact f3
 have q5:(H2.set id (EB (w64 (c+((List.length a.items:Nat):Int))) d))[n5]?=some (.box [.d (.i .i64 deep)]):=by rw [List.getElem?_set_ne (Ne.symm g5)];exact f5
 refine rn ?_
 change AW _ _ _ _ _ (H2.set id (EB (w64 (c+((List.length a.items:Nat):Int))) d))
 generalize H2.set id (EB (w64 (c+((List.length a.items:Nat):Int))) d)=H3 at q0 q3 q5 ⊢
 generalize w64 (c+((List.length a.items:Nat):Int))=c1 at h q0 ⊢
 have q1:=q0.1
 refine .gh (Gh.keep [3,4,5] rfl) ?_;refine .seq ?_;refine .seq ?_;refine .region ?_;refine vk (Ph (cs:=[.bp id 0]) (c:=.bp id 0) q3 rfl (by kernel_rfl)) ?_;refine vk (Tp) ?_;refine vk (GM Lp) ?_;refine vk (Qt (cs:=[.d (.i .i64 c1),.d (.i .i64 d)]) (c:=.i .i64 c1) q1 rfl CK) ?_;refine vk (vbi) ?_;refine rn ?_
 by_cases hc:16384<c1
 ·rw [if_pos hc] at h
  cases h
  refine cnt (dT hc) ?_;refine .seq ?_;refine .region ?_;refine asd ?_;refine rn ?_;refine .ret ?_
  exact ⟨_,⟨rfl,rfl⟩,rfl,q0⟩
 rw [if_neg hc] at h
 refine cnf (dF hc) ?_;refine .skip ?_
 show AW _ _ _ _ _ _
 refine .gh (Gh.keep [3,4,5] rfl) ?_;refine .seq ?_
 obtain ⟨sm,hsm,h⟩:=bnd h
 refine .seq ?_;refine .region ?_;refine vk (Ap As Ag) ?_;refine vk (Ad (Et hsm) Tryz.call172) ?_;refine vk (vnt) ?_;refine rn ?_
 refine AW.mr (σ:=Af × Int × Int) (fun s=>Upd H id (EB c1 s.2.2) s.1∧s.1[n3]?=some (.box [.bp id 0])∧s.1[n5]?=some (.box [.d (.i .i64 s.2.1)])∧(if s.2.1≤16 then Jx rc s.2.1 a.items c1 s.2.2 else some (false,c1,s.2.2))=some r)
  (fun _=>[(3,.bp n3 0),(4,.d (.ptr [.sl (Is a.shape),.sl (Its a.items)])),(5,.bp n5 0)]) (fun s=>s.1) ?_ ?_
 ·by_cases hs:sm=true
  ·rw [if_pos hs] at h
   refine cnf (ntf hs) ?_;refine .gh (Gh.keep [3,4,5] rfl) ?_;refine .skip ?_
   exact jr (H3,deep,d) ⟨q0,q3,q5,h⟩
  rw [if_neg hs] at h
  refine cnt (ntt (bf hs)) ?_;refine .seq ?_;refine .region ?_;refine vk (Qt (cs:=[.d (.i .i64 deep)]) (c:=.i .i64 deep) q5 rfl CK) ?_;refine vk (vbi) ?_
  refine stb (cs:=[.d (.i .i64 deep)]) (c:=.d (.i .i64 deep)) q5 rfl ?_ I9
  have p0:=q0.set_new (n:=n5) (x:=.box [.d (.i .i64 (w64 (deep+1)))]) g5' g5
  have p3:(H3.set n5 (.box [.d (.i .i64 (w64 (deep+1)))]))[n3]?=some (.box [.bp id 0]):=by rw [List.getElem?_set_ne (Ne.symm g35)];exact q3
  have p5:(H3.set n5 (.box [.d (.i .i64 (w64 (deep+1)))]))[n5]?=some (.box [.d (.i .i64 (w64 (deep+1)))]):=List.getElem?_set_self (List.getElem?_eq_some_iff.1 q5).1
  refine rn ?_
  change AW _ _ _ _ _ (H3.set n5 (.box [.d (.i .i64 (w64 (deep+1)))]))
  generalize H3.set n5 (.box [.d (.i .i64 (w64 (deep+1)))])=H4 at p0 p3 p5 ⊢
  generalize w64 (deep+1)=dp at h p5 ⊢
  have p1:=p0.1
  refine .gh (Gh.keep [3,4,5] rfl) ?_;refine .drawn 9 Ba (by kernel_rfl) ?_;refine dv (Ph (cs:=[.bp id 0]) (c:=.bp id 0) p3 rfl (by kernel_rfl)) ?_;refine dv (Ph (cs:=[.bp id 0]) (c:=.bp id 0) p3 rfl (by kernel_rfl)) ?_;refine dv (Tp) ?_;refine dv (GM Rg) ?_;refine dv (Qt (cs:=[.d (.i .i64 c1),.d (.i .i64 d)]) (c:=.i .i64 d) p1 rfl CK) ?_;refine dv (Qt (cs:=[.d (.i .i64 dp)]) (c:=.i .i64 dp) p5 rfl CK) ?_;refine dv (vmx) ?_;refine dv (Tp) ?_;refine dv (GM Rg) ?_;refine dz ?_
  refine stb (cs:=[.d (.i .i64 c1),.d (.i .i64 d)]) (c:=.d (.i .i64 d)) p1 rfl ?_ I9
  have w0:=p0.set_id (o':=EB c1 (if d<dp then dp else d))
  have w3:(H4.set id (EB c1 (if d<dp then dp else d)))[n3]?=some (.box [.bp id 0]):=by rw [List.getElem?_set_ne (Ne.symm g3)];exact p3
  have w5:(H4.set id (EB c1 (if d<dp then dp else d)))[n5]?=some (.box [.d (.i .i64 dp)]):=by rw [List.getElem?_set_ne (Ne.symm g5)];exact p5
  refine RL.gh (Gh.keep [3,4,5] rfl) ?_;refine .nil ?_
  exact jr (H4.set id (EB c1 (if d<dp then dp else d)),dp,(if d<dp then dp else d)) ⟨w0,w3,w5,h⟩
 rintro ⟨H5,dp,d1⟩ ⟨u0,u3,u5,h⟩
 dsimp only at u0 u3 u5 h ⊢
 show AW _ _ _ _ _ _
 refine .seq ?_;refine .region ?_;refine vk (Qt (cs:=[.d (.i .i64 dp)]) (c:=.i .i64 dp) u5 rfl CK) ?_;refine vk (vbi) ?_
 by_cases hc:dp≤16
 rotate_left
 ·rw [if_neg hc] at h
  cases h
  refine vk (VOK.lit (Aa) (dF hc)) ?_;refine gf ?_;refine gf ?_;refine gf ?_;refine gf ?_;refine gf ?_;refine vk (Am) ?_;refine asd ?_;refine rn ?_;refine .ret ?_
  exact ⟨_,⟨rfl,rfl⟩,rfl,u0⟩
 rw [if_pos hc] at h
 refine vk (VOK.lit (Aa) (dT hc)) ?_;refine vk (vfa A6) ?_;refine vk (An CC) ?_;refine Z7 (avs:=[.bp n3 0,.bp n5 0]) ?_
 obtain ⟨n,h1,h2⟩:=PY (Int.le_refl 0) h
 have step:=K9 (S:=Int × Int) (step:=Pt rc dp) (st:=fun s H'=>Upd H id (EB s.1 s.2) H'∧H'[n3]?=some (.box [.bp id 0])∧H'[n5]?=some (.box [.d (.i .i64 dp)])) (caps:=[.bp n3 0,.bp n5 0]) Tryz.call192 rfl
  (fun x s y H' hs hy=>by
   obtain ⟨hs0,hs3,hs5⟩:=hs
   simp only [Pt,Option.map_eq_some_iff] at hy
   obtain ⟨z,hz,rfl⟩:=hy
   refine (Kg orc hz hs0.1 hs3 hs5).mono fun v H'' hp=>⟨hp.1,hs0.trans hp.2,?_,?_⟩
   ·rw [hp.2.2.2 n3 g3 (List.getElem?_eq_some_iff.1 hs3).1];exact hs3
   ·rw [hp.2.2.2 n5 g5 (List.getElem?_eq_some_iff.1 hs5).1];exact hs5)
  hlen h1 (H:=H5) ⟨u0,u3,u5⟩
 refine clR (avs:=[.d (.sl (Its a.items)),.fn 192 [] [.bp n3 0,.bp n5 0]]) step Tryz.call179 (fun v H' hp=>?_)
 obtain ⟨rfl,hp⟩:=hp
 refine vk (vnt) ?_
 rw [h2]
 refine vk (Am) ?_;refine asd ?_;refine rn ?_;refine .ret ?_
 exact ⟨_,⟨rfl,rfl⟩,rfl,hp.1⟩
def Mq : Nat→Arr→Int→Int→Int→Option M3
 | 0,_,_,_,_=>none
 | k+1,a,deep,c,d=>if a.items.length≤9223372036854775806 then Tn (Mq k) a deep c d else none
theorem PA : ∀ k,OA (Mq k)
 | 0=>fun _ _ _ _ _ h=>by cases h
 | k+1=>fun a deep c d r h H id hH=>by
  rw [Mq] at h
  obtain ⟨hl,h⟩:=C0 h
  exact Ld (PA k) hl h hH
def mAr (a : Arr) (deep c d : Int) : Option M3:=Mq (a.size+1) a deep c d
def mIt (x : Itm) (deep c d : Int) : Option M3:=ML mAr x deep c d
theorem UN : OA mAr:=fun a deep c d r h=>PA _ a deep c d r h
def EM (a : Arr) : Option ((Int × Int) × Bool):=(mAr a 0 0 0).map fun z=>if z.1=true then (z.2,true) else ((0,0),false)
theorem IS {a : Arr} {r : (Int × Int) × Bool} (h : EM a=some r) : Fn Tryz.prog 36 [dvA a] (.tup [.d (.ag [.i .i64 r.1.1,.i .i64 r.1.2]),.d (.b r.2)]):=by
 simp only [EM,Option.map_eq_some_iff] at h
 obtain ⟨z,hz,rfl⟩:=h
 refine Fn.ofC (rs:=[.cell 2 69,.tmp 3]) (nt:=10) Tryz.func36 rfl rfl rfl (by simp) rfl ?_;refine .seq ?_;refine .region ?_;refine vk (vbx) ?_;refine vk (van (Ah M0) Rm) ?_;refine asd ?_;refine rn ?_;refine .seq ?_;refine .region ?_
 refine al ?_ (Ah M0) (fun w I μ=>UW w I μ)
 refine rn ?_;refine .seq ?_;refine .seq ?_;refine .region ?_;refine vk (Ap As Ag) ?_
 refine clR (avs:=[.bp 0 0,.d (dvA a),.d (.i .i64 0)]) (UN a 0 0 0 z hz _ 0 rfl) Tryz.call108 (fun v H' hp=>?_)
 obtain ⟨rfl,hp⟩:=hp
 refine vk (vnt) ?_;refine rn ?_
 by_cases hc:z.1=true
 ·rw [if_pos hc]
  refine cnf (ntf hc) ?_;refine .skip ?_
  show AW _ _ _ _ _ _
  refine .seq ?_;refine .region ?_;refine vk (KJ (cs:=[.d (.i .i64 z.2.1),.d (.i .i64 z.2.2)]) (ds:=[.i .i64 z.2.1,.i .i64 z.2.2]) hp.1 Tg LG) ?_
  refine stn ?_ LG (by decide)
  refine asd ?_;refine rn ?_;refine .ret ?_
  exact ⟨_,_,⟨.inr rfl,Tg,LG,(by decide:(0:Nat)<2)⟩,rfl,rfl⟩
 ·rw [if_neg hc]
  refine cnt (ntt (bf hc)) ?_;refine .seq ?_;refine .region ?_;refine vk (vbd YN M0 Rm) ?_
  refine stn ?_ LG (by decide)
  refine asd ?_;refine rn ?_;refine .ret ?_
  exact ⟨_,_,⟨.inr rfl,Tg,LG,(by decide:(0:Nat)<2)⟩,rfl,rfl⟩
def D6 (x : Itm) : Option Bool:=(mIt x 0 0 0).map fun z=>z.1
theorem HY {x : Itm} {r : Bool} (h : D6 x=some r) : Fn Tryz.prog 181 [dvI x] (.d (.b r)):=by
 simp only [D6,Option.map_eq_some_iff] at h
 obtain ⟨z,hz,rfl⟩:=h
 refine Fn.of (rs:=[.tmp 2]) (nt:=6) Tryz.func181 rfl rfl rfl (by simp) rfl ?_;refine .seq ?_;refine .region ?_;refine vk (vbx) ?_;refine asd ?_;refine rn ?_;refine .seq ?_;refine .region ?_
 refine al ?_ (Ah M0) (fun w I μ=>UW w I μ)
 refine vk (Ap AP Ay) ?_
 refine clR (avs:=[.bp 0 0,.d (dvI x),.d (.i .i64 0)]) (H0 UN hz (id:=0) rfl) Tryz.call193 (fun v H' hp=>?_)
 obtain ⟨rfl,hp⟩:=hp
 refine asd ?_;refine rn ?_;refine .ret ?_
 exact ⟨rfl,rfl⟩
def Nb (s : Bool) (n : Nat) : Int × Bool:=if s=true then (if n≤9223372036854775808 then (-(n : Int),true) else (0,false)) else if n<9223372036854775808 then ((n : Int),true) else (0,false)
def Jt (a : RT) : Option (Int × Bool):=(Fx a).bind fun b=>if b=true then (if (okL 1048576 a.2.1 && decide (Ae (val a.2.1)=a.2.1))=true then some (if Bi (val a.2.1)≤64 then Nb a.1 (val a.2.1) else (0,false)) else none) else some (0,false)
theorem Z8 (w : World) : (zeroValue 131).run Tryz.prog w=.ok (.int .u64 0) w:=by
 simp
theorem zu1 : AB Tryz.prog 131=1:=by kernel_rfl
theorem au1 : BJ Tryz.prog 131=some false:=by kernel_rfl
theorem VL {xs : List Nat} (h : Ok xs) (hl : xs.length≤2) : ∀ j,val (xs.drop (j+1))<4294967296:=by
 intro j
 match xs,hl with
 | [],_=>simp [val]
 | [x],_=>cases j <;> simp [val]
 | [x,y],_ =>
  have hy:y<4294967296:=h y (by simp)
  cases j with
  | zero=>simp [val];omega
  | succ j=>cases j <;> simp [val]
theorem TG {n : Nat} (h : n≤9223372036854775808) : IntKind.i64.wrap (IntKind.u64.wrap (0 - (n : Int)))=-(n : Int):=by
 simp only [IntKind.wrap,IntKind.bits,IntKind.signed];simp;omega
theorem PD {a : RT} {r : Int × Bool} (h : Jt a=some r) : Fn Tryz.prog 171 [.ag [.b a.1,.sl (L a.2.1),.sl (L a.2.2)]] (.tup [.d (.i .i64 r.1),.d (.b r.2)]):=by
 unfold Jt at h
 obtain ⟨x1,hx1,h⟩:=bnd h
 refine Fn.ofM (rs:=[.tmp 2,.tmp 3]) (nt:=46) Tryz.func171 rfl rfl rfl (by simp) rfl ?_;refine .seqA ?_;refine .region ?_;refine vk (vbx) ?_;refine asd ?_;refine asd ?_;refine rn ?_
 show AWM _ _ _ _ _ _
 refine .seqA ?_;refine .seq ?_;refine .region ?_;refine vk (Ap Au Ak) ?_;refine vk (Ad (Hg hx1) Tryz.call206) ?_;refine vk (vnt) ?_
 cases x1 with
 | false =>
  replace h:=Ai (by decide) h
  refine mvd ?_;refine gf ?_;refine gf ?_;refine gf ?_;refine gf ?_;refine vk (Am) ?_;refine rn ?_;refine cnt rfl ?_;refine .seq ?_;refine .region ?_;refine asd ?_;refine asd ?_;refine rn ?_;refine .ret ?_
  cases h
  exact ⟨by decide,rfl,rfl,rfl⟩
 | true =>
  replace h:=Aj rfl h
  obtain ⟨hc,h⟩:=C0 h
  rw [Bool.and_eq_true,B9] at hc
  obtain ⟨⟨hok,hlen⟩,hdg⟩:=hc
  have hdg:=of_decide_eq_true hdg
  refine mvd ?_;refine vk (vfa BY) ?_;refine vk (An C7) ?_
  refine cl (xs:=[.sl (L a.2.1)]) ?_ (RU hok hlen) Tryz.call223
  refine vk (vbi) ?_;refine vk (Am) ?_;refine rn ?_
  by_cases hb:Bi (val a.2.1)≤64
  ·rw [if_pos hb] at h
   cases h
   have hb1:decide ((64:Int)<(Bi (val a.2.1):Nat))=false:=dF (by omega)
   refine cnf hb1 ?_;refine .skip ?_
   show AWM _ _ _ _ _ _
   have hv64:val a.2.1<18446744073709551616:=Ea.1 hb
   have hlen2:a.2.1.length≤2:=by rw [← hdg];exact Ch (by omega)
   have hvs:=VL hok hlen2
   refine .seqA ?_;refine .region ?_
   refine al ?_ Z8 (fun w I μ=>.cons (c:=.d (.i .u64 0)) (b1:=[]) (.d (.i _ _)) .nil)
   refine stb (cs:=[.d (.i .u64 0)]) (c:=.d (.i .u64 0)) rfl rfl ?_ zu1
   refine rn ?_
   show AWM _ _ _ _ _ _
   refine .seq rfl ?_;refine .seqA ?_;refine .region ?_;refine vk (vfa BY) ?_;refine vk (An C7) ?_
   refine cl (xs:=[.sl (L a.2.1)]) ?_ (KI (L a.2.1)) Tryz.call224
   refine rn ?_
   show AWM _ _ _ _ _ _
   obtain ⟨s,xs,den⟩:=a
   dsimp only at *
   have hys:∀ ds ∈ II (L xs),ds.length=2:=fun ds hds=>by
    obtain ⟨k,hk⟩:=List.getElem?_of_mem hds
    rw [(JL hk).2];rfl
   have hit:=Wt (L xs) (by intro x hx;simp only [L,List.mem_map] at hx;obtain ⟨n,_,rfl⟩:=hx;rfl) (by rw [Ab];omega)
   refine .block ?_;refine .rangeFunc rfl rfl rfl Tryz.call243 hit hys (by decide) (by decide) rfl (fun k=>[.box [.d (.i .u64 ((val (xs.drop (xs.length - k)):Nat):Int))]]) (by simp [val]) ?_ ?_
   ·intro l k d1 d2 hk
    obtain ⟨hk1,hk2⟩:=JL hk
    rw [Ab] at hk1 hk2
    have hj:xs.length - 1 - k<xs.length:=by omega
    have hxat:(L xs).getD (xs.length - 1 - k) .np=U xs[xs.length - 1 - k]:=by
     rw [List.getD_eq_getElem?_getD,E3 (List.getElem?_eq_getElem hj)];rfl
    rw [hxat] at hk2
    simp only [List.cons.injEq,and_true] at hk2
    obtain ⟨rfl,rfl⟩:=hk2
    have hva:=TI hj
    have hx:=hok.at (List.getElem?_eq_getElem hj)
    have hsm:=hvs (xs.length - 1 - k)
    have e1:xs.length - 1 - k+1=xs.length - k:=by omega
    have e2:xs.length - (k+1)=xs.length - 1 - k:=by omega
    rw [e1] at hva hsm
    rw [e2]
    generalize xs[xs.length - 1 - k]=x at *
    generalize val (xs.drop (xs.length - k))=n at *
    rw [hva]
    refine .region ?_;refine asd ?_;refine rn ?_
    show AW _ _ _ _ _ _
    refine .block ?_;refine .region ?_
    refine ldb (cs:=[.d (.i .u64 (n:Int))]) (c:=.d (.i .u64 (n:Int))) rfl rfl ?_ au1
    refine bie (.i .u64 ((n * 4294967296:Nat):Int)) ?_ ?_
    ·refine ⟨by decide,?_⟩
     have:IntKind.u64.wrap ((n:Int) * 4294967296)=((n * 4294967296:Nat):Int):=by
      rw [GP _ (by omega) (by omega)];omega
     rw [← this];simp [IntKind.bits]
    refine mvd ?_
    refine cve (x:Int) (GP _ (by omega) (by omega)) ?_ u32 u64
    refine bie (.i .u64 ((n * 4294967296+x:Nat):Int)) ?_ ?_
    ·exact ⟨trivial,by rw [JE hsm hx]⟩
    refine stb (cs:=[.d (.i .u64 (n:Int))]) (c:=.d (.i .u64 (n:Int))) rfl rfl ?_ zu1
    refine .nil ?_
    refine ⟨rfl,?_⟩
    rw [show n * 4294967296+x=x+4294967296 * n by omega]
    rfl
   ·show AWM _ _ _ _ _ _
    refine .lift ?_
    rw [Fo,Ab,Nat.sub_self,List.drop_zero]
    have hn:val xs<18446744073709551616:=hv64
    generalize val xs=n at *
    cases s with
    | true =>
     refine .seq ?_;refine .block ?_;refine .seq ?_;refine .region ?_;refine vk (vfa CY) ?_;refine vk (An BF) ?_;refine mvd ?_
     refine ldb (cs:=[.d (.i .u64 (n:Int))]) (c:=.d (.i .u64 (n:Int))) rfl rfl ?_ au1
     refine vk (vbi) ?_;refine vk (Am) ?_;refine asd ?_;refine rn ?_
     by_cases hle:n≤9223372036854775808
     ·refine cnt (dT (show (n:Int)≤9223372036854775808 by omega)) ?_
      refine .seq ?_;refine .region ?_
      refine ldb (cs:=[.d (.i .u64 (n:Int))]) (c:=.d (.i .u64 (n:Int))) rfl rfl ?_ au1
      refine vk (vng) ?_;refine vk (vcv u64 i64) ?_;refine asd ?_;refine asd ?_;refine rn ?_;refine .ret ?_
      refine ⟨by decide,?_,rfl,rfl⟩
      rw [show Nb true n=(-(n:Int),true) by rw [Nb,if_pos rfl,if_pos hle],← TG hle];rfl
     ·refine cnf (dF (show ¬ ((n:Int)≤9223372036854775808) by omega)) ?_
      refine .seq ?_;refine .region ?_;refine vk (vfa CY) ?_;refine vk (An BF) ?_;refine vk (vnt) ?_;refine mvd ?_;refine gf ?_;refine gf ?_;refine vk (Am) ?_;refine asd ?_;refine rn ?_;refine cnf rfl ?_;refine .skip ?_
      show AW _ _ _ _ _ _
      refine .seq ?_;refine .region ?_;refine asd ?_;refine asd ?_;refine rn ?_;refine .ret ?_
      exact ⟨by decide,by rw [show Nb true n=(0,false) by rw [Nb,if_pos rfl,if_neg hle]];rfl,rfl,rfl⟩
    | false =>
     refine .seq ?_;refine .block ?_;refine .seq ?_;refine .region ?_;refine vk (vfa CY) ?_;refine vk (An BF) ?_;refine mvd ?_;refine gf ?_;refine gf ?_;refine vk (Am) ?_;refine asd ?_;refine rn ?_;refine cnf rfl ?_;refine .seq ?_;refine .region ?_;refine vk (vfa CY) ?_;refine vk (An BF) ?_;refine vk (vnt) ?_;refine mvd ?_
     refine ldb (cs:=[.d (.i .u64 (n:Int))]) (c:=.d (.i .u64 (n:Int))) rfl rfl ?_ au1
     refine vk (vbi) ?_;refine vk (Am) ?_;refine asd ?_;refine rn ?_
     by_cases hlt:n<9223372036854775808
     ·refine cnt (dT (show (n:Int)<9223372036854775808 by omega)) ?_
      refine .seq ?_;refine .region ?_
      refine ldb (cs:=[.d (.i .u64 (n:Int))]) (c:=.d (.i .u64 (n:Int))) rfl rfl ?_ au1
      refine vk (vcv u64 i64) ?_;refine asd ?_;refine asd ?_;refine rn ?_;refine .ret ?_
      refine ⟨by decide,?_,rfl,rfl⟩
      rw [show Nb false n=((n:Int),true) by rw [Nb,if_neg (by decide),if_pos hlt]]
      have:=GR (n:Int) (by omega) (by omega)
      exact (show AV.tup [.d (.i .i64 (n:Int)),.d (.b true)]=.tup [.d (.i .i64 (IntKind.i64.wrap (n:Int))),.d (.b true)] by rw [this]).trans rfl
     ·refine cnf (dF (show ¬ ((n:Int)<9223372036854775808) by omega)) ?_
      refine .skip ?_
      show AW _ _ _ _ _ _
      refine .seq ?_;refine .region ?_;refine asd ?_;refine asd ?_;refine rn ?_;refine .ret ?_
      exact ⟨by decide,by rw [show Nb false n=(0,false) by rw [Nb,if_neg (by decide),if_neg hlt]];rfl,rfl,rfl⟩
  ·rw [if_neg hb] at h
   cases h
   have hb1:decide ((64:Int)<(Bi (val a.2.1):Nat))=true:=dT (by omega)
   refine cnt hb1 ?_;refine .seq ?_;refine .region ?_;refine asd ?_;refine asd ?_;refine rn ?_;refine .ret ?_
   exact ⟨by decide,rfl,rfl,rfl⟩
def Bk (a0 : Arr) : Option (Bool):=((EM a0).bind fun x1=>(some (x1.2)))
theorem Cj {a0 : Arr} {r : Bool} (h : Bk a0=some r) :
  Fn Tryz.prog 13 [.ag [.sl (Is a0.shape),.sl (Its a0.items)]] (.d (.b r)):=by
 unfold Bk at h
 refine Fn.o1 2 11 Tryz.func13 ?_;refine .sr ?_;refine vk (vbx) ?_;refine ar [1,2] ?_;refine .sr ?_;refine vk (Ap As Ag) ?_
 obtain ⟨x1,hx1,h⟩:=bnd h
 refine vk (VOK.tupd (vs:=[.ag [.i .i64 x1.1.1,.i .i64 x1.1.2],.b x1.2]) (Ad (IS hx1) Tryz.call36)) ?_;refine vk (Aa) ?_;refine vk (vex) ?_;refine vk (vex) ?_;refine vk (van (Ah M0) Rm) ?_
 refine stn ?_ LG (by decide)
 refine ar [2,4] ?_;refine .sr ?_;refine vk (Aa) ?_;refine ar [2] ?_;refine .ret ?_
 cases h
 exact ⟨rfl,rfl⟩
def EY (a0 : Arr) : Option (Int):=((EM a0).bind fun x1=>(some (x1.1.1)))
theorem Lx {a0 : Arr} {r : Int} (h : EY a0=some r) :
  Fn Tryz.prog 184 [.ag [.sl (Is a0.shape),.sl (Its a0.items)]] (.d (.i .i64 r)):=by
 unfold EY at h
 refine Fn.o1 2 12 Tryz.func184 ?_;refine .sr ?_;refine vk (vbx) ?_;refine ar [1,2] ?_;refine .sr ?_;refine vk (Ap As Ag) ?_
 obtain ⟨x1,hx1,h⟩:=bnd h
 refine vk (VOK.tupd (vs:=[.ag [.i .i64 x1.1.1,.i .i64 x1.1.2],.b x1.2]) (Ad (IS hx1) Tryz.call36)) ?_;refine vk (Aa) ?_;refine vk (vex) ?_;refine vk (vex) ?_;refine vk (van (Ah M0) Rm) ?_
 refine stn ?_ LG (by decide)
 refine ar [2,3] ?_;refine .seq ?_;refine .gh (Gh.nbp (t:=3) rfl) ?_;refine .region ?_;refine vk (vfa Lp) ?_;refine vk (An CK) ?_;refine ar [2] ?_;refine .ret ?_
 cases h
 exact ⟨rfl,rfl⟩
def HT (a0 : Arr) (a1 : Arr) : Option (Bool):=((Bk a0).bind fun x1=>(Option.bind ((if x1=true then ((Bk a1).bind fun x3=>(if x3=true then ((PW a0 a1).bind fun x4=>(some x4)) else (some false))) else (some false)) : Option (Bool)) fun (z1 : Bool)=>(some (z1))))
theorem LX {a0 : Arr} {a1 : Arr} {r : Bool} (h : HT a0 a1=some r) :
  Fn Tryz.prog 14 [.ag [.sl (Is a0.shape),.sl (Its a0.items)],.ag [.sl (Is a1.shape),.sl (Its a1.items)]] (.d (.b r)):=by
 unfold HT at h
 refine Fn.o1 4 16 Tryz.func14 ?_;refine .sr ?_;refine vk (vbx) ?_;refine vk (vbx) ?_;refine ar [2,3,4] ?_;refine .seq ?_
 obtain ⟨x1,hx1,h⟩:=bnd h
 obtain ⟨z1,hz,h⟩:=bnd h
 refine AW.mr (σ:=Unit) (fun _=>True) (fun _=>[(4,.d (.b z1))]) (fun _=>[]) ?_ ?_
 ·skip
  refine .region ?_;refine vk (Ap As Ag) ?_;refine vk (Ad (Cj hx1) Tryz.call13) ?_
  by_cases hc:x1=true
  ·replace hz:=Aj hc hz
   have hb0:x1=true:=hc
   refine vk (VOK.lit (Aa) hb0) ?_;refine vk (Ap As Ag) ?_
   obtain ⟨x3,hx3,hz⟩:=bnd hz
   refine vk (Ad (Cj hx3) Tryz.call13) ?_;refine vk (Am) ?_
   by_cases hc:x3=true
   ·replace hz:=Aj hc hz
    have hb1:x3=true:=hc
    refine vk (VOK.lit (Aa) hb1) ?_;refine vk (Ap As Ag) ?_;refine vk (Ap As Ag) ?_
    obtain ⟨x4,hx4,hz⟩:=bnd hz
    refine vk (Ad (PM hx4) Tryz.call37) ?_;refine vk (Am) ?_;refine asd ?_;refine RL.gk [4] ?_;refine .nil ?_
    cases hz
    exact jr () trivial
   replace hz:=Ai hc hz
   have hb1:x3=false:=(bf hc)
   refine vk (VOK.lit (Aa) hb1) ?_;refine gf ?_;refine gf ?_;refine gf ?_;refine vk (Am) ?_;refine asd ?_;refine RL.gk [4] ?_;refine .nil ?_
   cases hz
   exact jr () trivial
  replace hz:=Ai hc hz
  have hb0:x1=false:=(bf hc)
  refine vk (VOK.lit (Aa) hb0) ?_;refine gf ?_;refine gf ?_;refine vk (Am) ?_;refine vk (Aa) ?_;refine gf ?_;refine gf ?_;refine gf ?_;refine vk (Am) ?_;refine asd ?_;refine RL.gk [4] ?_;refine .nil ?_
  cases hz
  exact jr () trivial
 rintro _ _
 refine .ret ?_
 cases h
 exact ⟨rfl,rfl⟩
def Aw (a0 : (List Itm)) (a1 : Cf) (K0 : Int→Option (Int)) : Nat→Int→Int→Option (Int)
 | 0,_,_=>none
 | k+1,s2,s3=>(if s3<((List.length a0:Nat):Int) then ((rd? a0 s3).bind fun x4=>((a1.g x4).bind fun x5=>(if x5=true then (some (s3)) else (Aw a0 a1 K0 k s2 (w64 (s3+1)))))) else (K0 s2))
def A8 (a0 : (List Itm)) (a1 : Cf) : Option (Int):=(jn (fun (z1 : Int)=>(some ((-1)))) fun K0=>(Aw a0 a1 K0 BC 0 0))
theorem DE {a0 : (List Itm)} {a1 : Cf} (oa1 : JH a1) {r : Int} (h : A8 a0 a1=some r) :
  Fn Tryz.prog 227 [.sl (Its a0),a1.dv] (.d (.i .i64 r)):=by
 unfold A8 at h
 refine Fn.o1 4 19 Tryz.func227 ?_;refine .sr ?_;refine ar [0,1,4] ?_;refine .seq ?_;refine .sr ?_;refine vk (Aa) ?_;refine vk (Bz (AN _) (Dr _) Dl) ?_;refine vk (Aa) ?_;refine rk [0,1,4,7,8] ?_
 obtain ⟨K0,hK0,h⟩:=CX h
 refine AW.mr (σ:=Int) (fun p=>K0 p=some r) (fun p=>[(4,.d (.i .i64 p))]) (fun p=>[]) ?_ ?_
 ·skip
  refine .block ?_
  refine .loop (.gk [0,1,4,7,8] ?_)
  refine AL.ind (σ:=Nat × Int × Int) (m:=fun p=>p.1) (e:=fun p=>[(0,.d (.sl (Its a0))),(1,.d (a1.dv)),(4,.d (.i .i64 p.2.1)),(7,.d (.i .i64 ((List.length a0:Nat):Int))),(8,.d (.i .i64 p.2.2))]) (h:=fun p=>[]) (I:=fun p=>Aw a0 a1 K0 p.1 p.2.1 p.2.2=some r) ?_ (BC,0,0) h
  rintro ⟨k,s2,s3⟩ h ih
  dsimp only at h ih ⊢
  rcases k with _ | k
  ·rw [Aw] at h;cases h
  rw [Aw] at h
  refine .sr ?_;refine vk (vbi) ?_;refine rk [0,1,4,7,8,9] ?_;refine .seq ?_
  by_cases hc:s3<((List.length a0:Nat):Int)
  ·replace h:=Aj hc h
   refine cnt (dT hc) ?_;refine .skip ?_
   show AW _ _ _ _ _ _
   refine .seq ?_;refine .block ?_;refine .sr ?_;refine vk (Aa) ?_;refine ar [0,1,4,5,7,8] ?_;refine .sr ?_;refine vk (Aa) ?_;refine vk (Aa) ?_;refine vk (Aa) ?_
   obtain ⟨x4,hx4,h⟩:=bnd h
   obtain ⟨nx4,hnx4,hxx4⟩:=AS hx4
   refine vk (vix nx4 hnx4 (Ec hxx4) rfl DO) ?_;refine vk (Ap AP Ay) ?_
   obtain ⟨x5,hx5,h⟩:=bnd h
   refine vk (MQ (oa1 _ _ hx5)) ?_;refine rk [0,1,4,5,7,8,16] ?_
   by_cases hc:x5=true
   ·replace h:=Aj hc h
    refine cnt hc ?_;refine .sr ?_;refine vk (Aa) ?_;refine ar [0,1,4,7,8] ?_;refine .ret ?_
    cases h
    exact ⟨rfl,rfl⟩
   replace h:=Ai hc h
   refine cnf (bf hc) ?_;refine .skip ?_
   show AW _ _ _ _ _ _
   refine .region ?_;refine vk (vbi) ?_;refine vk (Aa) ?_;refine .nil ?_;refine AL.gk [0,1,4,7,8] ?_
   exact ih (k,s2,(w64 (s3+1))) h (Nat.lt_succ_self _)
  replace h:=Ai hc h
  refine cnf (dF hc) ?_;refine .gk [4] ?_;refine .exit ?_
  exact jr (s2) h
 rintro z1 h
 try dsimp only at h ⊢
 subst hK0
 show AW _ _ _ _ _ _
 refine .sr ?_;refine ar [4] ?_;refine .ret ?_
 cases h
 exact ⟨rfl,rfl⟩
def AG (a0 : (List Itm)) (a1 : Cf) : Option (Bool):=((A8 a0 a1).bind fun x1=>(some ((decide (0≤x1)))))
theorem Dk {a0 : (List Itm)} {a1 : Cf} (oa1 : JH a1) {r : Bool} (h : AG a0 a1=some r) :
  Fn Tryz.prog 179 [.sl (Its a0),a1.dv] (.d (.b r)):=by
 unfold AG at h
 refine Fn.o1 4 9 Tryz.func179 ?_;refine .sr ?_;refine ar [0,1,4] ?_;refine .sr ?_;refine vk (Aa) ?_;refine vk (Aa) ?_
 obtain ⟨x1,hx1,h⟩:=bnd h
 refine vk (Ad (DE oa1 hx1) Tryz.call227) ?_;refine vk (vbi) ?_;refine ar [4] ?_;refine .ret ?_
 cases h
 exact ⟨rfl,rfl⟩
def En (a0 : Itm) : Option (Bool):=((D6 a0).bind fun x1=>(some ((!x1))))
theorem KU {a0 : Itm} {r : Bool} (h : En a0=some r) :
  Fn Tryz.prog 180 [.ag [.i .u8 a0.kind,.b a0.num.1,.sl (L a0.num.2.1),.sl (L a0.num.2.2),.i .i32 a0.char,.sl (Ars a0.box)]] (.d (.b r)):=by
 unfold En at h
 refine Fn.o1 2 6 Tryz.func180 ?_;refine .sr ?_;refine vk (vbx) ?_;refine ar [1,2] ?_;refine .sr ?_;refine vk (Ap AP Ay) ?_
 obtain ⟨x1,hx1,h⟩:=bnd h
 refine vk (Ad (HY hx1) Tryz.call181) ?_;refine vk (vnt) ?_;refine ar [2] ?_;refine .ret ?_
 cases h
 exact ⟨rfl,rfl⟩
def Ci (x12 : Itm) (K4 : Int→Option (Arr × Int)) : Nat→Int→Int→Option (Arr × Int)
 | 0,_,_=>none
 | k+1,s14,s15=>(if s15<((List.length x12.box:Nat):Int) then ((rd? x12.box s15).bind fun x16=>((EY x16).bind fun x17=>(Ci x12 K4 k (w64 (s14+x17)) (w64 (s15+1))))) else (K4 s14))
def BR (a1 : (List Itm)) (K1 : (List Int)→Option (Arr × Int)) : Nat→(List Int)→Int→Option (Arr × Int)
 | 0,_,_=>none
 | k+1,s9,s10=>(if s10<((List.length a1:Nat):Int) then (jn (fun (z11:(List Int))=>(BR a1 K1 k z11 (w64 (s10+1)))) fun K3=>((rd? a1 s10).bind fun x12=>(jn (fun (z13:Int)=>((ap? 17592186044416 s9 [z13]).bind fun x18=>(K3 x18))) fun K4=>(Ci x12 K4 BC 1 0)))) else (K1 s9))
def BS (a1 : (List Itm)) (x1 : Int × Int) (z8 : (List Int)) (K6 : Arr→Int→(List Int)→(List Itm)→Option (Arr × Int)) : Nat→Arr→Int→Int→Int→(List Int)→(List Itm)→Option (Arr × Int)
 | 0,_,_,_,_,_,_=>none
 | k+1,s23,s24,s25,s26,s27,s28=>(if s25<x1.1 then ((JO (((List.length a1:Nat):Int) ≠ 0)).bind fun x29=>((rd? z8 (Int.tmod s25 ((List.length a1:Nat):Int))).bind fun x30=>(if 16384<(w64 (s26+x30)) then (some ((Arr.mk [] []),8)) else ((JO (((List.length a1:Nat):Int) ≠ 0)).bind fun x31=>((rd? a1 (Int.tmod s25 ((List.length a1:Nat):Int))).bind fun x32=>((FY x32).bind fun x33=>((ap? 1466015503701 s28 [x33]).bind fun x34=>(BS a1 x1 z8 K6 k s23 s24 (w64 (s25+1)) (w64 (s26+x30)) s27 x34)))))))) else (K6 s23 s24 s27 s28))
def BQ (a0 : (List Int)) (a1 : (List Itm)) : Option (Arr × Int):=((C6 a0).bind fun x1=>(if x1.2=0 then (Option.bind ((if ((List.length a1 : Nat) : Int)=0 then (some true) else ((AG a1 (⟨.fn 180 [] [],fun x=>En x⟩ : Cf)).bind fun x3=>(some x3))) : Option (Bool)) fun (z2 : Bool)=>(if z2=true then (some ((Arr.mk [] []),22)) else ((EF a0).bind fun x4=>(jn (fun (z5 : (List Itm))=>(jn (fun (z8 : (List Int))=>(jn (fun (z19 : Arr) (z20 : Int) (z21 : (List Int)) (z22 : (List Itm))=>((Bk (Arr.mk z21 z22)).bind fun x35=>(if x35=true then (some ((Arr.mk z21 z22),0)) else (some ((Arr.mk [] []),8))))) fun K6=>(BS a1 x1 z8 K6 BC (Arr.mk [] []) 0 0 0 x4 z5))) fun K1=>(BR a1 K1 BC [] 0))) fun K0=>(if x1.1=0 then ((rd? a1 0).bind fun x6=>((L6 x6).bind fun x7=>(K0 ([x7])))) else (K0 [])))))) else (some ((Arr.mk [] []),x1.2))))
set_option maxHeartbeats 4000000 in
theorem MK {a0 : (List Int)} {a1 : (List Itm)} {r : Arr × Int} (h : BQ a0 a1=some r) :
  Fn Tryz.prog 99 [.sl (Is a0),.sl (Its a1)] (.tup [.d (.ag [.sl (Is r.1.shape),.sl (Its r.1.items)]),.d (.i .i64 r.2)]):=by
 unfold BQ at h
 refine Fn.ofC (rs:=[.cell 4 25,.tmp 5]) (nt:=105) Tryz.func99 rfl rfl rfl (by simp) rfl ?_;refine .sr ?_;refine vk (van (Ah AU) A7) ?_;refine ar [0,1,4,5] ?_;refine .sr ?_;refine vk (Aa) ?_
 obtain ⟨x1,hx1,h⟩:=bnd h
 refine vk (VOK.tupd (vs:=[.i .i64 x1.1,.i .i64 x1.2]) (Ad (DQ hx1) Tryz.call98)) ?_;refine vk (Aa) ?_;refine vk (vex) ?_;refine vk (vex) ?_;refine asd ?_;refine ar [0,1,4,5,6,7] ?_;refine .seq ?_;refine .block ?_;refine .sr ?_;refine vk (Aa) ?_;refine vk (vbi) ?_;refine ar [0,1,4,5,6,7,22] ?_
 by_cases hc:x1.2=0
 ·replace h:=Aj hc h
  refine cnf (ntf (dT hc)) ?_;refine .seq ?_
  obtain ⟨z2,hz,h⟩:=bnd h
  refine AW.mr (σ:=Unit) (fun _=>True) (fun _=>[(0,.d (.sl (Is a0))),(1,.d (.sl (Its a1))),(4,.nb [.sl (Is []),.sl (Its [])]),(5,.d (.i .i64 0)),(6,.d (.i .i64 x1.1)),(27,.d (.b z2))]) (fun _=>[]) ?_ ?_
  ·skip
   refine .region ?_;refine vk (Aa) ?_;refine vk (Bz (AN _) (Dr _) Dl) ?_;refine vk (vbi) ?_
   by_cases hc:((List.length a1:Nat):Int)=0
   ·replace hz:=Aj hc hz
    have hb0:(decide (((List.length a1:Nat):Int)=0))=true:=(dT hc)
    refine vk (VOK.lit (Aa) hb0) ?_;refine gf ?_;refine gf ?_;refine vk (Am) ?_;refine asd ?_;refine RL.gk [0,1,4,5,6,27] ?_;refine .nil ?_
    cases hz
    exact jr () trivial
   replace hz:=Ai hc hz
   have hb0:(decide (((List.length a1:Nat):Int)=0))=false:=(dF hc)
   refine vk (VOK.lit (Aa) hb0) ?_;refine vk (Aa) ?_
   obtain ⟨x3,hx3,hz⟩:=bnd hz
   refine vk (Ad (Dk (Cp Tryz.call180 (fun _ _ h=>KU h)) hx3) Tryz.call179) ?_;refine vk (Am) ?_;refine asd ?_;refine RL.gk [0,1,4,5,6,27] ?_;refine .nil ?_
   cases hz
   exact jr () trivial
  rintro _ _
  by_cases hc:z2=true
  ·replace h:=Aj hc h
   refine cnt hc ?_;refine .sr ?_;refine vk (vbd Ef AU A7) ?_
   refine stn ?_ Ag (by decide)
   refine ar [0,1,4,5,6] ?_;refine .ret ?_
   cases h
   exact ⟨_,_,⟨.inr rfl,As,Ag,(by decide:(0:Nat)<2)⟩,rfl,rfl⟩
  replace h:=Ai hc h
  refine cnf (bf hc) ?_;refine .skip ?_
  show AW _ _ _ _ _ _
  refine .sr ?_;refine vk (Aa) ?_
  obtain ⟨x4,hx4,h⟩:=bnd h
  refine vk ((Ad (IK hx4) Tryz.call182).deep) ?_;refine vk (XF Ef AU (fun w I μ=>Om w I μ)) ?_;refine vk (van (Ah AU) A7) ?_
  refine Xk ?_ Ag (by decide)
  refine rk [1,4,5,6,8] ?_;refine .seq ?_;refine .sr ?_;refine vk (Aa) ?_;refine vk (vbi) ?_;refine rk [1,4,5,6,8,40] ?_
  obtain ⟨K0,hK0,h⟩:=CX h
  refine AW.mr (σ:=(List Itm)) (fun p=>K0 p=some r) (fun p=>[(1,.d (.sl (Its a1))),(4,.nb [.sl (Is []),.sl (Its [])]),(5,.d (.i .i64 0)),(6,.d (.i .i64 x1.1)),(8,.bp 0 0)]) (fun p=>[HO.box [.d (.sl (Is x4)),.own 83 (Its p)]]) ?_ ?_
  ·skip
   by_cases hc:x1.1=0
   ·replace h:=Aj hc h
    refine cnt (dT hc) ?_;refine .region ?_;refine vk (Aa) ?_
    obtain ⟨x6,hx6,h⟩:=bnd h
    obtain ⟨nx6,hnx6,hxx6⟩:=AS hx6
    refine vk (vix nx6 hnx6 (Ec hxx6) rfl DO) ?_;refine vk (Ap AP Ay) ?_
    obtain ⟨x7,hx7,h⟩:=bnd h
    refine vk (Ad (PK hx7) Tryz.call183) ?_;refine vk (GD (Gi x7) (EX [x7]) Fc) ?_;refine vk (GM A6) ?_
    refine Qm (cs:=[.d (.sl (Is x4)),.nl]) (c:=.nl) rfl rfl ?_ LI
    refine RL.gk [1,4,5,6,8] ?_;refine .nil ?_
    exact jr ([x7]) h
   replace h:=Ai hc h
   refine cnf (dF hc) ?_;refine .gh (Gh.nlOwnC (id:=0) (off:=1) 83 (by rw [QC];decide)) ?_;refine .gk [1,4,5,6,8] ?_;refine .skip ?_
   exact jr ([]) h
  rintro z5 h
  try dsimp only at h ⊢
  subst hK0
  show AW _ _ _ _ _ _
  refine .sr ?_;refine asn ?_;refine rk [1,4,5,6,8,9] ?_;refine .seq ?_;refine .sr ?_;refine vk (Aa) ?_;refine vk (Bz (AN _) (Dr _) Dl) ?_;refine vk (Aa) ?_;refine rk [1,4,5,6,8,9,47,48,49] ?_
  obtain ⟨K1,hK1,h⟩:=CX h
  refine AW.mr (σ:=(List Int)) (fun p=>K1 p=some r) (fun p=>[(1,.d (.sl (Its a1))),(4,.nb [.sl (Is []),.sl (Its [])]),(5,.d (.i .i64 0)),(6,.d (.i .i64 x1.1)),(8,.bp 0 0),(9,.own 3 (Is p))]) (fun p=>[HO.box [.d (.sl (Is x4)),.own 83 (Its z5)]]) ?_ ?_
  ·skip
   refine .block ?_;refine .gh (Gh.nlOwn (t:=9) 3 (by rw [I9];decide) rfl) ?_
   refine .loop (.gk [1,4,5,6,8,9,47,48,49] ?_)
   refine AL.ind (σ:=Nat × (List Int) × Int) (m:=fun p=>p.1) (e:=fun p=>[(1,.d (.sl (Its a1))),(4,.nb [.sl (Is []),.sl (Its [])]),(5,.d (.i .i64 0)),(6,.d (.i .i64 x1.1)),(8,.bp 0 0),(9,.own 3 (Is p.2.1)),(47,.d (.sl (Its a1))),(48,.d (.i .i64 ((List.length a1:Nat):Int))),(49,.d (.i .i64 p.2.2))]) (h:=fun p=>[HO.box [.d (.sl (Is x4)),.own 83 (Its z5)]]) (I:=fun p=>BR a1 K1 p.1 p.2.1 p.2.2=some r) ?_ (BC,[],0) h
   rintro ⟨k,s9,s10⟩ h ih
   dsimp only at h ih ⊢
   rcases k with _ | k
   ·rw [BR] at h;cases h
   rw [BR] at h
   refine .sr ?_;refine vk (vbi) ?_;refine rk [1,4,5,6,8,9,47,48,49,50] ?_;refine .seq ?_
   by_cases hc:s10<((List.length a1:Nat):Int)
   ·replace h:=Aj hc h
    refine cnt (dT hc) ?_;refine .skip ?_
    show AW _ _ _ _ _ _
    obtain ⟨K3,hK3,h⟩:=CX h
    refine AW.mj (σ:=(List Int)) (fun p=>K3 p=some r) (fun p=>[(1,.d (.sl (Its a1))),(4,.nb [.sl (Is []),.sl (Its [])]),(5,.d (.i .i64 0)),(6,.d (.i .i64 x1.1)),(8,.bp 0 0),(9,.own 3 (Is p)),(47,.d (.sl (Its a1))),(48,.d (.i .i64 ((List.length a1:Nat):Int))),(49,.d (.i .i64 s10))]) (fun p=>[HO.box [.d (.sl (Is x4)),.own 83 (Its z5)]]) ?_ ?_
    ·skip
     refine .block ?_;refine .sr ?_
     obtain ⟨x12,hx12,h⟩:=bnd h
     obtain ⟨nx12,hnx12,hxx12⟩:=AS hx12
     refine vk (vix nx12 hnx12 (Ec hxx12) rfl DO) ?_;refine vk (Ap AP Ay) ?_;refine vk (van (Ah B2) Cb) ?_
     refine stn ?_ Ay (by decide)
     refine rk [1,4,5,6,8,9,11,47,48,49] ?_;refine .sr ?_;refine ar [1,4,5,6,8,9,11,12,47,48,49] ?_;refine .seq ?_;refine .seq ?_;refine .gh (Gh.nbp (t:=11) rfl) ?_;refine .region ?_;refine vk (vfa BE) ?_;refine vk (An Dt) ?_;refine vk (Bz (B6 _) (FJ _) FF) ?_;refine vk (Aa) ?_;refine rk [1,4,5,6,8,9,12,47,48,49,54,55,56] ?_
     obtain ⟨K4,hK4,h⟩:=CX h
     refine AW.mr (σ:=Int) (fun p=>K4 p=some r) (fun p=>[(1,.d (.sl (Its a1))),(4,.nb [.sl (Is []),.sl (Its [])]),(5,.d (.i .i64 0)),(6,.d (.i .i64 x1.1)),(8,.bp 0 0),(9,.own 3 (Is s9)),(12,.d (.i .i64 p)),(47,.d (.sl (Its a1))),(48,.d (.i .i64 ((List.length a1:Nat):Int))),(49,.d (.i .i64 s10))]) (fun p=>[HO.box [.d (.sl (Is x4)),.own 83 (Its z5)]]) ?_ ?_
     ·skip
      refine .block ?_
      refine .loop (.gk [1,4,5,6,8,9,12,47,48,49,54,55,56] ?_)
      refine AL.ind (σ:=Nat × Int × Int) (m:=fun p=>p.1) (e:=fun p=>[(1,.d (.sl (Its a1))),(4,.nb [.sl (Is []),.sl (Its [])]),(5,.d (.i .i64 0)),(6,.d (.i .i64 x1.1)),(8,.bp 0 0),(9,.own 3 (Is s9)),(12,.d (.i .i64 p.2.1)),(47,.d (.sl (Its a1))),(48,.d (.i .i64 ((List.length a1:Nat):Int))),(49,.d (.i .i64 s10)),(54,.d (.sl (Ars x12.box))),(55,.d (.i .i64 ((List.length x12.box:Nat):Int))),(56,.d (.i .i64 p.2.2))]) (h:=fun p=>[HO.box [.d (.sl (Is x4)),.own 83 (Its z5)]]) (I:=fun p=>Ci x12 K4 p.1 p.2.1 p.2.2=some r) ?_ (BC,1,0) h
      rintro ⟨k,s14,s15⟩ h ih
      dsimp only at h ih ⊢
      rcases k with _ | k
      ·rw [Ci] at h;cases h
      rw [Ci] at h
      refine .sr ?_;refine vk (vbi) ?_;refine rk [1,4,5,6,8,9,12,47,48,49,54,55,56,57] ?_;refine .seq ?_
      by_cases hc:s15<((List.length x12.box:Nat):Int)
      ·replace h:=Aj hc h
       refine cnt (dT hc) ?_;refine .skip ?_
       show AW _ _ _ _ _ _
       refine .seq ?_;refine .block ?_;refine .sr ?_
       obtain ⟨x16,hx16,h⟩:=bnd h
       obtain ⟨nx16,hnx16,hxx16⟩:=AS hx16
       refine vk (vix nx16 hnx16 (F6 hxx16) rfl F5) ?_;refine vk (Ap As Ag) ?_;refine vk (van (Ah AU) A7) ?_
       refine stn ?_ Ag (by decide)
       refine rk [1,4,5,6,8,9,12,14,47,48,49,54,55,56] ?_;refine .region ?_;refine vk (Aa) ?_;refine vk (C8 As Ag) ?_
       obtain ⟨x17,hx17,h⟩:=bnd h
       refine vk (Ad (Lx hx17) Tryz.call184) ?_;refine vk (vbi) ?_;refine asd ?_;refine .nil ?_
       show AW _ _ _ _ _ _
       refine .gk [1,4,5,6,8,9,12,47,48,49,54,55,56] ?_;refine .region ?_;refine vk (vbi) ?_;refine vk (Aa) ?_;refine .nil ?_;refine AL.gk [1,4,5,6,8,9,12,47,48,49,54,55,56] ?_
       exact ih (k,(w64 (s14+x17)),(w64 (s15+1))) h (Nat.lt_succ_self _)
      replace h:=Ai hc h
      refine cnf (dF hc) ?_;refine .gk [1,4,5,6,8,9,12,47,48,49] ?_;refine .exit ?_
      exact jr (s14) h
     rintro z13 h
     try dsimp only at h ⊢
     subst hK4
     show AW _ _ _ _ _ _
     refine .region ?_;refine mvo ?_;refine vk (Aa) ?_;refine vk ((Ev (Gj [z13]) HV).deep) ?_
     obtain ⟨x18,hx18,h⟩:=bnd h
     refine Xb QB hx18 TB ?_ Ou Bh HV
     refine aso ?_;refine RL.gk [1,4,5,6,8,9,47,48,49] ?_;refine .nil ?_
     exact jr (x18) h
    rintro z11 h
    try dsimp only at h ⊢
    subst hK3
    refine .region ?_;refine vk (vbi) ?_;refine vk (Aa) ?_;refine .nil ?_;refine AL.gk [1,4,5,6,8,9,47,48,49] ?_
    exact ih (k,z11,(w64 (s10+1))) h (Nat.lt_succ_self _)
   replace h:=Ai hc h
   refine cnf (dF hc) ?_;refine .gk [1,4,5,6,8,9] ?_;refine .exit ?_
   exact jr (s9) h
  rintro z8 h
  try dsimp only at h ⊢
  subst hK1
  show AW _ _ _ _ _ _
  refine .seq ?_;refine .sr ?_;refine asd ?_;refine ar [1,4,5,6,8,9,15,16] ?_
  obtain ⟨K6,hK6,h⟩:=CX h
  refine AW.mr (σ:=Arr × Int × (List Int) × (List Itm)) (fun p=>K6 p.1 p.2.1 p.2.2.1 p.2.2.2=some r) (fun p=>[(4,.nb [.sl (Is p.1.shape),.sl (Its p.1.items)]),(5,.d (.i .i64 p.2.1)),(8,.bp 0 0)]) (fun p=>[HO.box [.d (.sl (Is p.2.2.1)),.own 83 (Its p.2.2.2)]]) ?_ ?_
  ·skip
   refine .block ?_;refine .gh (Gh.frz (p:=.t 9) rfl (by (intro _ _ h;cases h <;> decide))) ?_
   refine .loop (.gk [1,4,5,6,8,9,15,16] ?_)
   refine AL.ind (σ:=Nat × Arr × Int × Int × Int × (List Int) × (List Itm)) (m:=fun p=>p.1) (e:=fun p=>[(1,.d (.sl (Its a1))),(4,.nb [.sl (Is p.2.1.shape),.sl (Its p.2.1.items)]),(5,.d (.i .i64 p.2.2.1)),(6,.d (.i .i64 x1.1)),(8,.bp 0 0),(9,.d (.sl (Is z8))),(15,.d (.i .i64 p.2.2.2.1)),(16,.d (.i .i64 p.2.2.2.2.1))]) (h:=fun p=>[HO.box [.d (.sl (Is p.2.2.2.2.2.1)),.own 83 (Its p.2.2.2.2.2.2)]]) (I:=fun p=>BS a1 x1 z8 K6 p.1 p.2.1 p.2.2.1 p.2.2.2.1 p.2.2.2.2.1 p.2.2.2.2.2.1 p.2.2.2.2.2.2=some r) ?_ (BC,(Arr.mk [] []),0,0,0,x4,z5) h
   rintro ⟨k,s23,s24,s25,s26,s27,s28⟩ h ih
   dsimp only at h ih ⊢
   rcases k with _ | k
   ·rw [BS] at h;cases h
   rw [BS] at h
   refine .seq ?_;refine .sr ?_;refine vk (Aa) ?_;refine vk (Aa) ?_;refine vk (vbi) ?_;refine rk [1,4,5,6,8,9,15,16,72] ?_
   by_cases hc:s25<x1.1
   ·replace h:=Aj hc h
    refine cnt (dT hc) ?_;refine .skip ?_
    show AW _ _ _ _ _ _
    refine .seq ?_;refine .block ?_;refine .seq ?_;refine .sr ?_;refine vk (Aa) ?_;refine vk (Aa) ?_;refine vk (Aa) ?_;refine vk (Aa) ?_;refine vk (Bz (AN _) (Dr _) Dl) ?_
    obtain ⟨x29,hx29,h⟩:=bnd h
    refine vk (P5 (J9 hx29)) ?_
    obtain ⟨x30,hx30,h⟩:=bnd h
    obtain ⟨nx30,hnx30,hxx30⟩:=AS hx30
    refine vk (vix nx30 hnx30 (Jw hxx30) rfl GN) ?_;refine vk (An CK) ?_;refine vk (vbi) ?_;refine ar [1,4,5,6,8,9,15,16] ?_;refine .sr ?_;refine vk (Aa) ?_;refine vk (vbi) ?_;refine rk [1,4,5,6,8,9,15,16,85] ?_
    by_cases hc:16384<(w64 (s26+x30))
    ·replace h:=Aj hc h
     refine cnt (dT hc) ?_;refine .sr ?_;refine vk (vbd Ef AU A7) ?_
     refine stn ?_ Ag (by decide)
     refine ar [1,4,5,6,8,9,15,16] ?_;refine .ret ?_
     cases h
     exact ⟨_,_,⟨.inr rfl,As,Ag,(by decide:(0:Nat)<2)⟩,rfl,rfl⟩
    replace h:=Ai hc h
    refine cnf (dF hc) ?_;refine .skip ?_
    show AW _ _ _ _ _ _
    refine .drawn 11 Ba (by kernel_rfl) ?_;refine dv (GM A6) ?_;refine dv (Ul (cs:=[.d (.sl (Is s27)),.own 83 (Its s28)]) rfl rfl CC) ?_;refine dv (Aa) ?_;refine dv (Aa) ?_;refine dv (Aa) ?_;refine dv (Bz (AN _) (Dr _) Dl) ?_
    obtain ⟨x31,hx31,h⟩:=bnd h
    refine dv (P5 (J9 hx31)) ?_
    obtain ⟨x32,hx32,h⟩:=bnd h
    obtain ⟨nx32,hnx32,hxx32⟩:=AS hx32
    refine dv (vix nx32 hnx32 (Ec hxx32) rfl DO) ?_;refine dv (Ap AP Ay) ?_
    obtain ⟨x33,hx33,h⟩:=bnd h
    refine dv (Ad (FK hx33) Tryz.call173) ?_;refine dv ((GD (Gi x33) (EX [x33]) Fc).deep) ?_;refine dz ?_
    obtain ⟨x34,hx34,h⟩:=bnd h
    refine VN Lg hx34 rfl rfl N8 ?_ JD AN Fc
    refine RL.gk [1,4,5,6,8,9,15,16,85,87,89,90,91,92,93,94,95,96,97,98] ?_;refine vk (GM A6) ?_
    refine Qm (cs:=[.d (.sl (Is s27)),.un]) (c:=.un) rfl rfl ?_ LI
    refine .nil ?_
    show AW _ _ _ _ _ _
    refine .gk [1,4,5,6,8,9,15,16] ?_;refine .region ?_;refine vk (Aa) ?_;refine vk (vbi) ?_;refine asd ?_;refine .nil ?_;refine AL.gk [1,4,5,6,8,9,15,16] ?_
    exact ih (k,s23,s24,(w64 (s25+1)),(w64 (s26+x30)),s27,x34) h (Nat.lt_succ_self _)
   replace h:=Ai hc h
   refine cnf (dF hc) ?_;refine .gk [4,5,8] ?_;refine .exit ?_
   exact jr (s23,s24,s27,s28) h
  rintro ⟨z19,z20,z21,z22⟩ h
  try dsimp only at h ⊢
  subst hK6
  show AW _ _ _ _ _ _
  refine .seq ?_;refine .sr ?_;refine fz (p:=.c 0 1) ?_;refine vk (KJ (cs:=[.d (.sl (Is z21)),.d (.sl (Its z22))]) (ds:=[.sl (Is z21),.sl (Its z22)]) rfl As Ag) ?_
  obtain ⟨x35,hx35,h⟩:=bnd h
  refine vk (Ad (Cj hx35) Tryz.call13) ?_;refine vk (vnt) ?_;refine rk [4,5,8,102] ?_
  by_cases hc:x35=true
  ·replace h:=Aj hc h
   refine cnf (ntf hc) ?_;refine .skip ?_
   show AW _ _ _ _ _ _
   refine .sr ?_;refine vk (KJ (cs:=[.d (.sl (Is z21)),.d (.sl (Its z22))]) (ds:=[.sl (Is z21),.sl (Its z22)]) rfl As Ag) ?_
   refine stn ?_ Ag (by decide)
   refine ar [4,5] ?_;refine .ret ?_
   cases h
   exact ⟨_,_,⟨.inr rfl,As,Ag,(by decide:(0:Nat)<2)⟩,rfl,rfl⟩
  replace h:=Ai hc h
  refine cnt (ntt (bf hc)) ?_;refine .sr ?_;refine vk (vbd Ef AU A7) ?_
  refine stn ?_ Ag (by decide)
  refine ar [4,5,8] ?_;refine .ret ?_
  cases h
  exact ⟨_,_,⟨.inr rfl,As,Ag,(by decide:(0:Nat)<2)⟩,rfl,rfl⟩
 replace h:=Ai hc h
 refine cnt (ntt (dF hc)) ?_;refine .sr ?_;refine vk (vbd Ef AU A7) ?_;refine vk (Aa) ?_
 refine stn ?_ Ag (by decide)
 refine ar [0,1,4,5,6] ?_;refine .ret ?_
 cases h
 exact ⟨_,_,⟨.inr rfl,As,Ag,(by decide:(0:Nat)<2)⟩,rfl,rfl⟩
def Bx (a0 : Arr) : Option (Itm):=((Bk a0).bind fun x1=>(if x1=true then ((Cs a0).bind fun x2=>(if x2=true then ((rd? a0.items 0).bind fun x3=>((FY x3).bind fun x4=>(some (x4)))) else ((Cn a0 (⟨.fn 173 [] [],fun x=>FY x⟩ : B1)).bind fun x5=>(some ((Itm.mk 3 (false,[],[]) 0 [x5])))))) else (some ((Itm.mk 0 (false,[],[]) 0 [])))))
theorem Hv {a0 : Arr} {r : Itm} (h : Bx a0=some r) :
  Fn Tryz.prog 95 [.ag [.sl (Is a0.shape),.sl (Its a0.items)]] (.d (.ag [.i .u8 r.kind,.b r.num.1,.sl (L r.num.2.1),.sl (L r.num.2.2),.i .i32 r.char,.sl (Ars r.box)])):=by
 unfold Bx at h
 refine Fn.ofC (rs:=[.cell 2 83]) (nt:=20) Tryz.func95 rfl rfl rfl (by simp) rfl ?_;refine .sr ?_;refine vk (vbx) ?_;refine vk (van (Ah B2) Cb) ?_;refine rk [1,2] ?_;refine .seq ?_;refine .block ?_;refine .sr ?_;refine vk (Ap As Ag) ?_
 obtain ⟨x1,hx1,h⟩:=bnd h
 refine vk (Ad (Cj hx1) Tryz.call13) ?_;refine vk (vnt) ?_;refine ar [1,2,3] ?_
 by_cases hc:x1=true
 ·replace h:=Aj hc h
  refine cnf (ntf hc) ?_;refine .sr ?_;refine vk (Ap As Ag) ?_
  obtain ⟨x2,hx2,h⟩:=bnd h
  refine vk (Ad (Et hx2) Tryz.call172) ?_;refine ar [1,2,8] ?_
  by_cases hc:x2=true
  ·replace h:=Aj hc h
   refine cnt hc ?_;refine .sr ?_;refine vk (vfa A6) ?_;refine vk (An CC) ?_
   obtain ⟨x3,hx3,h⟩:=bnd h
   obtain ⟨nx3,hnx3,hxx3⟩:=AS hx3
   refine vk (vix nx3 hnx3 (Ec hxx3) rfl DO) ?_;refine vk (Ap AP Ay) ?_
   obtain ⟨x4,hx4,h⟩:=bnd h
   refine vk (Ad (FK hx4) Tryz.call173) ?_
   refine stn ?_ Ay (by decide)
   refine rk [1,2] ?_;refine .ret ?_
   cases h
   exact ⟨_,⟨.inr rfl,AP,Ay,(by decide:(0:Nat)<6)⟩,rfl⟩
  replace h:=Ai hc h
  refine cnf (bf hc) ?_;refine .skip ?_
  show AW _ _ _ _ _ _
  refine .sr ?_;refine vk (Ap As Ag) ?_
  obtain ⟨x5,hx5,h⟩:=bnd h
  refine vk (Ad (DZ (Cp Tryz.call173 (fun _ _ h=>FK h)) hx5) Tryz.call174) ?_;refine vk ((GD (NX x5) (LP [x5]) Ob).deep) ?_;refine vk (vbd Hr B2 Cb) ?_
  refine stn ?_ Ay (by decide)
  refine rk [2] ?_;refine .ret ?_
  cases h
  exact ⟨_,⟨.inr rfl,AP,Ay,(by decide:(0:Nat)<6)⟩,rfl⟩
 replace h:=Ai hc h
 refine cnt (ntt (bf hc)) ?_;refine .sr ?_;refine vk (vbd Hr B2 Cb) ?_
 refine stn ?_ Ay (by decide)
 refine rk [1,2] ?_;refine .ret ?_
 cases h
 exact ⟨_,⟨.inr rfl,AP,Ay,(by decide:(0:Nat)<6)⟩,rfl⟩
def Ex (a0 : Itm) : Option (Arr):=((D6 a0).bind fun x1=>(if x1=true then (if a0.kind=3 then ((rd? a0.box 0).bind fun x2=>((Cn x2 (⟨.fn 173 [] [],fun x=>FY x⟩ : B1)).bind fun x3=>(some (x3)))) else ((FY a0).bind fun x4=>((Fr x4).bind fun x5=>(some (x5))))) else (some ((Arr.mk [] [])))))
theorem IQ {a0 : Itm} {r : Arr} (h : Ex a0=some r) :
  Fn Tryz.prog 194 [.ag [.i .u8 a0.kind,.b a0.num.1,.sl (L a0.num.2.1),.sl (L a0.num.2.2),.i .i32 a0.char,.sl (Ars a0.box)]] (.d (.ag [.sl (Is r.shape),.sl (Its r.items)])):=by
 unfold Ex at h
 refine Fn.ofC (rs:=[.cell 2 25]) (nt:=20) Tryz.func194 rfl rfl rfl (by simp) rfl ?_;refine .sr ?_;refine vk (vbx) ?_;refine vk (van (Ah AU) A7) ?_;refine rk [1,2] ?_;refine .seq ?_;refine .block ?_;refine .sr ?_;refine vk (Ap AP Ay) ?_
 obtain ⟨x1,hx1,h⟩:=bnd h
 refine vk (Ad (HY hx1) Tryz.call181) ?_;refine vk (vnt) ?_;refine ar [1,2,3] ?_
 by_cases hc:x1=true
 ·replace h:=Aj hc h
  refine cnf (ntf hc) ?_;refine .sr ?_;refine vk (vfa Cd) ?_;refine vk (An Be) ?_;refine vk (vbi) ?_;refine ar [1,2,8] ?_
  by_cases hc:a0.kind=3
  ·replace h:=Aj hc h
   refine cnt (dT hc) ?_;refine .sr ?_;refine vk (vfa BE) ?_;refine vk (An Dt) ?_
   obtain ⟨x2,hx2,h⟩:=bnd h
   obtain ⟨nx2,hnx2,hxx2⟩:=AS hx2
   refine vk (vix nx2 hnx2 (F6 hxx2) rfl F5) ?_;refine vk (Ap As Ag) ?_
   obtain ⟨x3,hx3,h⟩:=bnd h
   refine vk (Ad (DZ (Cp Tryz.call173 (fun _ _ h=>FK h)) hx3) Tryz.call174) ?_
   refine stn ?_ Ag (by decide)
   refine rk [1,2] ?_;refine .ret ?_
   cases h
   exact ⟨_,⟨.inr rfl,As,Ag,(by decide:(0:Nat)<2)⟩,rfl⟩
  replace h:=Ai hc h
  refine cnf (dF hc) ?_;refine .skip ?_
  show AW _ _ _ _ _ _
  refine .sr ?_;refine vk (Ap AP Ay) ?_
  obtain ⟨x4,hx4,h⟩:=bnd h
  refine vk (Ad (FK hx4) Tryz.call173) ?_
  obtain ⟨x5,hx5,h⟩:=bnd h
  refine vk (Ad (Ho hx5) Tryz.call70) ?_
  refine stn ?_ Ag (by decide)
  refine rk [2] ?_;refine .ret ?_
  cases h
  exact ⟨_,⟨.inr rfl,As,Ag,(by decide:(0:Nat)<2)⟩,rfl⟩
 replace h:=Ai hc h
 refine cnt (ntt (bf hc)) ?_;refine .sr ?_;refine vk (vbd Ef AU A7) ?_
 refine stn ?_ Ag (by decide)
 refine rk [1,2] ?_;refine .ret ?_
 cases h
 exact ⟨_,⟨.inr rfl,As,Ag,(by decide:(0:Nat)<2)⟩,rfl⟩
def chB (c : Int) : Bool:=decide (0≤c) && (decide (c≤1114111) && (decide (c<55296) || decide (57343<c)))
theorem Sg (c : Int) : Fp c=some (chB c):=rfl
def AT (a : Arr) : Bool:=a.shape.isEmpty && match a.items with
 | [x]=>decide (x.kind ≠ 3)
 | _=>false
theorem IC (a : Arr) : Cs a=some (AT a):=by
 unfold Cs AT
 cases hs:a.shape with
 | nil =>
  rw [if_pos (by simp)]
  match hi:a.items with
  | []=>rw [if_neg (by simp)];rfl
  | [x]=>rw [if_pos (by simp),NY];simp
  | x::y::r=>rw [if_neg (by simp;omega)];rfl
 | cons z zs=>rw [if_neg (by simp;omega)];rfl
mutual
def rI : Itm→Bool
 | .mk k n c b=>if k=1 then (AQ n && (decide (c=0) && decide (b.length=0))) else if k=2 then (chB c && (Er (.mk k n c b) && decide (b.length=0))) else if k=3 then (decide (b.length=1) && (Er (.mk k n c b) && (decide (c=0) && rBs b))) else false
def rA : Arr→Bool
 | .mk s i=>decide ((szP s).2=0) && (decide ((i.length:Int)=if (szP s).1<1 then 1 else (szP s).1) && rIs i)
def rIs : List Itm→Bool
 | []=>true
 | x::xs=>rI x && rIs xs
def rBs : List Arr→Bool
 | []=>true
 | a::r=>(!AT a && rA a) && rBs r
end
mutual
def cI : Itm→Nat
 | .mk _ _ _ b=>cBs b
def cA : Arr→Nat
 | .mk _ i=>i.length+cIs i
def cIs : List Itm→Nat
 | []=>0
 | x::xs=>cI x+cIs xs
def cBs : List Arr→Nat
 | []=>0
 | a::r=>cA a+cBs r
end
mutual
def dI : Itm→Nat
 | .mk _ _ _ b=>dBs b
def dA : Arr→Nat
 | .mk s i=>if AT (.mk s i) then 0 else 1+dIs i
def dIs : List Itm→Nat
 | []=>0
 | x::xs=>max (dI x) (dIs xs)
def dBs : List Arr→Nat
 | []=>0
 | a::r=>max (dA a) (dBs r)
end
theorem UQ (x : Itm) : rI x=if x.kind=1 then (AQ x.num && (decide (x.char=0) && decide (x.box.length=0))) else if x.kind=2 then (chB x.char && (Er x && decide (x.box.length=0))) else if x.kind=3 then (decide (x.box.length=1) && (Er x && (decide (x.char=0) && rBs x.box))) else false:=by
 cases x;simp only [rI];rfl
theorem KN (a : Arr) : rA a=(decide ((szP a.shape).2=0) && (decide ((a.items.length : Int)=if (szP a.shape).1<1 then 1 else (szP a.shape).1) && rIs a.items)):=by cases a;simp only [rA];rfl
theorem KQ (a : Arr) : cA a=a.items.length+cIs a.items:=by cases a;simp only [cA];rfl
theorem KM (x : Itm) : cI x=cBs x.box:=by cases x;simp only [cI];rfl
theorem Mv (a : Arr) : dA a=if AT a then 0 else 1+dIs a.items:=by cases a;simp only [dA];rfl
theorem Ml (x : Itm) : dI x=dBs x.box:=by cases x;simp only [dI];rfl
def up (d deep n : Nat) : Nat:=if n=0 then d else max d (deep+n)
theorem Y8 (d deep n m : Nat) : up (up d deep n) deep m=up d deep (max n m):=by unfold up;split <;> split <;> split <;> omega
theorem YW {d deep n : Nat} (h : d≤16) (h2 : deep+n≤16) : up d deep n≤16:=by unfold up;split <;> omega
def Ot (f : Int→Int→Int→Option M3) (r : Bool) (n dp : Nat) : Prop:=∀ deep c d : Nat,deep≤16→c≤16384→d≤16 →
 (r=true→deep+dp≤16→c+n≤16384→f deep c d=some (true,((c+n:Nat):Int),((up d deep dp:Nat):Int))) ∧
 (¬ (r=true∧deep+dp≤16∧c+n≤16384)→∃ z,f deep c d=some (false,z))
theorem LO (x : Itm) : Er x=true↔x.num=(false,[],[]):=by
 unfold Er
 simp only [Bool.and_eq_true,Bool.not_eq_true',decide_eq_true_eq]
 constructor
 ·rintro ⟨h1,h2,h3⟩
  exact Prod.ext h1 (Prod.ext (List.length_eq_zero_iff.1 (by omega)) (List.length_eq_zero_iff.1 (by omega)))
 ·intro h;rw [h];simp
theorem M5 {rc : Arr→Int→Int→Int→Option M3} {x : Itm} (hx : okI x) (hrc : ∀ a ∈ x.box,Ot (rc a) (rA a) (cA a) (dA a)) : Ot (ML rc x) (rI x) (cI x) (dI x):=by
 have ox:=(Ez x).1 hx
 intro deep c d h1 h2 h3
 unfold ML
 rw [UQ,KM,Ml]
 have e0:(((x.box.length:Nat):Int)=0)↔x.box.length=0:=by omega
 have e1:(((x.box.length:Nat):Int)=1)↔x.box.length=1:=by omega
 by_cases k1:x.kind=1
 ·rw [if_pos k1,if_pos k1,Jj ox.2.1,oB]
  simp only [e0]
  by_cases hb:x.box.length=0
  ·have:x.box=[]:=List.length_eq_zero_iff.1 hb
   rw [this]
   simp only [cBs,dBs,List.length_nil,decide_true,Bool.and_true,Nat.add_zero]
   refine ⟨fun hr _ _=>by rw [hr];rfl,fun hn=>?_⟩
   have:(AQ x.num && decide (x.char=0))=false:=by
    cases hq:(AQ x.num && decide (x.char=0)) with
    | false=>rfl
    | true=>exact absurd ⟨hq,h1,h2⟩ hn
   rw [this];exact ⟨_,rfl⟩
  ·simp only [hb,decide_false,Bool.and_false]
   exact ⟨fun h=>by simp at h,fun _=>⟨_,rfl⟩⟩
 rw [if_neg k1,if_neg k1]
 by_cases k2:x.kind=2
 ·rw [if_pos k2,if_pos k2,Sg,oB]
  simp only [e0]
  by_cases hb:x.box.length=0
  ·have:x.box=[]:=List.length_eq_zero_iff.1 hb
   rw [this]
   simp only [cBs,dBs,List.length_nil,decide_true,Bool.and_true,Nat.add_zero]
   refine ⟨fun hr _ _=>by rw [hr];rfl,fun hn=>?_⟩
   have:(chB x.char && Er x)=false:=by
    cases hq:(chB x.char && Er x) with
    | false=>rfl
    | true=>exact absurd ⟨hq,h1,h2⟩ hn
   rw [this];exact ⟨_,rfl⟩
  ·simp only [hb,decide_false,Bool.and_false]
   exact ⟨fun h=>by simp at h,fun _=>⟨_,rfl⟩⟩
 rw [if_neg k2,if_neg k2]
 by_cases k3:x.kind=3
 ·rw [if_pos k3,if_pos k3]
  simp only [e1]
  by_cases hb:x.box.length=1
  rotate_left
  ·rw [if_neg hb];simp only [hb,decide_false,Bool.false_and]
   exact ⟨fun h=>by simp at h,fun _=>⟨_,rfl⟩⟩
  rw [if_pos hb]
  by_cases hn:Er x=true
  rotate_left
  ·rw [if_neg hn];simp only [hn,hb,decide_true,Bool.true_and,Bool.false_and]
   exact ⟨fun h=>by simp at h,fun _=>⟨_,rfl⟩⟩
  rw [if_pos hn]
  by_cases hc:x.char=0
  rotate_left
  ·rw [if_neg hc];simp only [hn,hb,hc,decide_true,decide_false,Bool.true_and,Bool.false_and]
   exact ⟨fun h=>by simp at h,fun _=>⟨_,rfl⟩⟩
  rw [if_pos hc]
  obtain ⟨a,ha⟩:∃ a,x.box=[a]:=List.length_eq_one_iff.1 hb
  have hm:=hrc a (by rw [ha];simp)
  rw [ha,NY,oB,IC,oB]
  simp only [hn,hc,decide_true,Bool.true_and,rBs,cBs,dBs,Bool.and_true,Nat.add_zero,Nat.max_zero,List.length_cons,List.length_nil]
  by_cases hs:AT a=true
  ·rw [if_pos hs];simp only [hs]
   exact ⟨fun h=>by simp at h,fun _=>⟨_,rfl⟩⟩
  rw [if_neg hs,oB]
  have hs':AT a=false:=by simpa using hs
  simp only [hs',Bool.not_false,Bool.true_and]
  obtain ⟨m1,m2⟩:=hm deep c d h1 h2 h3
  refine ⟨fun hr g1 g2=>by rw [m1 hr g1 g2];rfl,fun hn=>?_⟩
  obtain ⟨z,hz⟩:=m2 hn
  exact ⟨z,by rw [hz];rfl⟩
 ·rw [if_neg k3,if_neg k3]
  exact ⟨fun h=>by simp at h,fun _=>⟨_,rfl⟩⟩
theorem LR {rc : Arr→Int→Int→Int→Option M3} : ∀ {xs : List Itm},(∀ x ∈ xs,Ot (ML rc x) (rI x) (cI x) (dI x))→Ot (fun deep c d=>Jx rc deep xs c d) (rIs xs) (cIs xs) (dIs xs)
 | [],_=>fun deep c d h1 h2 h3=>by
  simp only [Jx,rIs,cIs,dIs]
  exact ⟨fun _ _ _=>rfl,fun h=>absurd ⟨trivial,h1,h2⟩ h⟩
 | x::xs,hx=>fun deep c d h1 h2 h3=>by
  obtain ⟨m1,m2⟩:=hx x (by simp) deep c d h1 h2 h3
  have ih:=LR (xs:=xs) fun y hy=>hx y (by simp [hy])
  simp only [Jx,rIs,cIs,dIs]
  by_cases hc:rI x=true∧deep+dI x≤16∧c+cI x≤16384
  ·obtain ⟨p1,p2,p3⟩:=hc
   rw [m1 p1 p2 p3,oB,if_pos rfl,p1,Bool.true_and]
   obtain ⟨n1,n2⟩:=ih deep (c+cI x) (up d deep (dI x)) h1 p3 (YW h3 p2)
   refine ⟨fun hr g1 g2=>?_,fun hn=>n2 fun ⟨q1,q2,q3⟩=>hn ⟨q1,by omega,by omega⟩⟩
   have:=n1 hr (by omega) (by omega)
   rw [Y8,Nat.add_assoc] at this
   exact this
  ·obtain ⟨z,hz⟩:=m2 hc
   rw [hz,oB,if_neg (by simp)]
   refine ⟨fun hr g1 g2=>absurd ⟨?_,by omega,by omega⟩ hc,fun _=>⟨_,rfl⟩⟩
   simp only [Bool.and_eq_true] at hr;exact hr.1
theorem P9 {a : Arr} (hs : AT a=true) (hr : rIs a.items=true) : dIs a.items=0∧cIs a.items=0:=by
 unfold AT at hs
 rw [Bool.and_eq_true] at hs
 match hi:a.items,hs.2 with
 | [x],h2 =>
  rw [hi] at hr
  simp only [rIs,Bool.and_true] at hr
  rw [UQ] at hr
  have h3:x.kind ≠ 3:=by simpa using h2
  have hb:x.box=[]:=by
   by_cases k1:x.kind=1
   ·rw [if_pos k1] at hr;simp only [Bool.and_eq_true,decide_eq_true_eq] at hr;exact List.length_eq_zero_iff.1 hr.2.2
   rw [if_neg k1] at hr
   by_cases k2:x.kind=2
   ·rw [if_pos k2] at hr;simp only [Bool.and_eq_true,decide_eq_true_eq] at hr;exact List.length_eq_zero_iff.1 hr.2.2
   rw [if_neg k2,if_neg h3] at hr;cases hr
  simp [dIs,cIs,Ml,KM,hb,dBs,cBs]
theorem TO {rc : Arr→Int→Int→Int→Option M3} {a : Arr} (ha : okAr a) (hx : ∀ x ∈ a.items,Ot (ML rc x) (rI x) (cI x) (dI x)) : Ot (Tn rc a) (rA a) (cA a) (dA a):=by
 have oa:=(Bm a).1 ha
 intro deep c d h1 h2 h3
 have hl:=IA a.shape
 unfold Tn
 rw [ID oa.2.1,oB,KN,KQ,Mv]
 by_cases e1:(szP a.shape).2=0
 rotate_left
 ·rw [if_neg e1];simp only [e1,decide_false,Bool.false_and]
  exact ⟨fun h=>by simp at h,fun _=>⟨_,rfl⟩⟩
 rw [if_pos e1]
 by_cases e2:(a.items.length:Int)=if (szP a.shape).1<1 then 1 else (szP a.shape).1
 rotate_left
 ·rw [if_neg e2];simp only [e1,e2,decide_true,decide_false,Bool.true_and,Bool.false_and]
  exact ⟨fun h=>by simp at h,fun _=>⟨_,rfl⟩⟩
 rw [if_pos e2]
 have hlen:a.items.length≤4096:=by
  split at e2 <;> omega
 simp only [e1,decide_true,Bool.true_and]
 rw [dT e2,Bool.true_and]
 have hw:w64 ((c:Int)+((a.items.length:Nat):Int))=((c+a.items.length:Nat):Int):=by rw [Iz (by omega) (by omega)];omega
 rw [hw]
 by_cases e3:(16384:Int)<((c+a.items.length:Nat):Int)
 ·rw [if_pos e3]
  exact ⟨fun _ _ _=>by omega,fun _=>⟨_,rfl⟩⟩
 rw [if_neg e3,IC,oB]
 have hi:=LR hx
 by_cases hs:AT a=true
 ·simp only [if_pos hs]
  rw [if_pos (show (deep:Int)≤16 by omega)]
  obtain ⟨m1,m2⟩:=hi deep (c+a.items.length) d h1 (by omega) h3
  refine ⟨fun hr g1 g2=>?_,fun hn=>m2 fun ⟨q1,q2,q3⟩=>hn ⟨q1,by omega,by omega⟩⟩
  obtain ⟨s1,s2⟩:=P9 hs hr
  have:=m1 hr (by omega) (by omega)
  rw [s1,Nat.add_assoc] at this
  exact this
 simp only [if_neg hs]
 have hw2:w64 ((deep:Int)+1)=((deep+1:Nat):Int):=by rw [Iz (by omega) (by omega)];omega
 rw [hw2]
 have hmx:(if (d:Int)<((deep+1:Nat):Int) then ((deep+1:Nat):Int) else (d:Int))=((max d (deep+1):Nat):Int):=by split <;> omega
 rw [hmx]
 by_cases e4:((deep+1:Nat):Int)≤16
 rotate_left
 ·rw [if_neg e4]
  exact ⟨fun _ _ _=>by omega,fun _=>⟨_,rfl⟩⟩
 rw [if_pos e4]
 obtain ⟨m1,m2⟩:=hi (deep+1) (c+a.items.length) (max d (deep+1)) (by omega) (by omega) (by omega)
 refine ⟨fun hr g1 g2=>?_,fun hn=>m2 fun ⟨q1,q2,q3⟩=>hn ⟨q1,by omega,by omega⟩⟩
 have:=m1 hr (by omega) (by omega)
 have hup:up (max d (deep+1)) (deep+1) (dIs a.items)=up d deep (1+dIs a.items):=by unfold up;split <;> split <;> omega
 rw [hup,Nat.add_assoc] at this
 exact this
theorem L8 : ∀ (k : Nat) {a : Arr},a.size<k→okAr a→Ot (Mq k a) (rA a) (cA a) (dA a)
 | 0,a,h,_=>by omega
 | k+1,a,h,ha=>by
  have oa:=(Bm a).1 ha
  have:=TO (rc:=Mq k) ha fun x hx=>M5 (oa.2.2.2 x hx) fun b hb=>L8 k (by have:=Ga hx;have:=Gg hb;omega) (((Ez x).1 (oa.2.2.2 x hx)).2.2.2.2 b hb)
  intro deep c d h1 h2 h3
  simp only [Mq]
  rw [if_pos (by omega)]
  exact this deep c d h1 h2 h3
theorem Pw {a : Arr} (ha : okAr a) : Ot (mAr a) (rA a) (cA a) (dA a):=L8 _ (Nat.lt_succ_self _) ha
theorem UG {x : Itm} (hx : okI x) : Ot (mIt x) (rI x) (cI x) (dI x):=M5 hx fun a ha=>Pw (((Ez x).1 hx).2.2.2.2 a ha)
def A0 (a : Arr) : Prop:=rA a=true∧dA a≤16∧cA a≤16384
def Bl (x : Itm) : Prop:=rI x=true∧dI x≤16∧cI x≤16384
instance (a : Arr) : Decidable (A0 a):=by unfold A0;infer_instance
instance (x : Itm) : Decidable (Bl x):=by unfold Bl;infer_instance
theorem KE {a : Arr} (ha : okAr a) : EM a=some (if A0 a then (((cA a : Nat) : Int),((dA a : Nat) : Int)) else (0,0),decide (A0 a)):=by
 obtain ⟨m1,m2⟩:=Pw ha 0 0 0 (by omega) (by omega) (by omega)
 unfold EM
 by_cases h:A0 a
 ·have:=m1 h.1 (by have:=h.2.1;omega) (by have:=h.2.2;omega)
  rw [show ((0:Nat):Int)=0 from rfl] at this
  rw [this,if_pos h,dT h]
  have hu:up 0 0 (dA a)=dA a:=by unfold up;split <;> omega
  simp [hu]
 ·obtain ⟨z,hz⟩:=m2 fun ⟨q1,q2,q3⟩=>h ⟨q1,by omega,by omega⟩
  rw [show ((0:Nat):Int)=0 from rfl] at hz
  rw [hz,if_neg h,dF h];rfl
theorem GX {a : Arr} (ha : okAr a) : Bk a=some (decide (A0 a)):=by unfold Bk;rw [KE ha,oB]
theorem Uh {a : Arr} (ha : okAr a) : EY a=some (if A0 a then ((cA a : Nat) : Int) else 0):=by
 unfold EY;rw [KE ha,oB];split <;> rfl
theorem Kt {x : Itm} (hx : okI x) : D6 x=some (decide (Bl x)):=by
 obtain ⟨m1,m2⟩:=UG hx 0 0 0 (by omega) (by omega) (by omega)
 unfold D6
 by_cases h:Bl x
 ·have:=m1 h.1 (by have:=h.2.1;omega) (by have:=h.2.2;omega)
  rw [show ((0:Nat):Int)=0 from rfl] at this
  rw [this,dT h];rfl
 ·obtain ⟨z,hz⟩:=m2 fun ⟨q1,q2,q3⟩=>h ⟨q1,by omega,by omega⟩
  rw [show ((0:Nat):Int)=0 from rfl] at hz
  rw [hz,dF h];rfl
theorem WB {a : List Nat} (h : a.length≤35184372087808) : Ey a=some a:=if_pos h
theorem YG {p : Rat} (hp : CZ p) (b : Bool) : Fa (ofQ p) b=some ((b && decide (p ≠ 0),Ae p.num.natAbs,Ae p.den),0):=by
 unfold Fa
 rw [Jj (Eh hp),CO hp]
 have h1:Ey (ofQ p).2.1=some (Ae p.num.natAbs):=WB (Nat.le_trans hp.1 (by decide))
 have h2:Ey (ofQ p).2.2=some (Ae p.den):=WB (Nat.le_trans hp.2 (by decide))
 have h3:decide (0<((List.length (ofQ p).2.1:Nat):Int))=decide (p ≠ 0):=decide_eq_decide.2 WY
 cases b with
 | true=>rw [oB,if_pos rfl,if_pos rfl,h1,h2,h3];rfl
 | false=>rw [oB,if_pos rfl,if_neg (by simp),h1,h2];rfl
theorem Vw {p : Rat} : (!decide (p.num<0) && decide (p ≠ 0))=decide ((-p).num<0):=by
 have h:p ≠ 0↔p.num ≠ 0:=not_congr Rat.num_eq_zero.symm
 have h':decide (p ≠ 0)=decide (p.num ≠ 0):=decide_eq_decide.2 h
 rw [Rat.neg_num,h']
 by_cases h1:p.num<0
 ·rw [dT h1,dF (show ¬ -p.num<0 by omega)];rfl
 ·rw [dF h1,Bool.not_false,Bool.true_and];exact decide_eq_decide.2 (show p.num ≠ 0↔-p.num<0 by omega)
theorem ZC (p : Rat) : ofQ (-p)=(decide ((-p).num<0),Ae p.num.natAbs,Ae p.den):=by
 simp only [ofQ,Rat.neg_num,Rat.neg_den,Int.natAbs_neg]
theorem ZS {p : Rat} (hp : CZ p) : MB (ofQ p)=some (ofQ (-p),0):=by
 unfold MB
 refine Jl (YG hp _) ?_
 rw [ZC,← Vw];rfl
theorem Rw {n : Nat} : (0 : Int)<((List.length (Ae n) : Nat) : Int)↔n ≠ 0:=by
 constructor
 ·rintro h rfl;rw [AF] at h;simp at h
 ·intro h
  have:Ae n ≠ []:=fun h2=>h (E9.1 h2)
  have:=List.length_pos_iff.2 this
  omega
theorem Yh {p : Rat} : (ofQ p).2.1=[]↔p=0:=by
 rw [← Zp,← List.length_eq_zero_iff];omega
def HE (p q : Rat) : Int:=if p<q then -1 else if p=q then 0 else 1
theorem Yj {p : Rat} : p.num<0↔p<0:=by
 rw [Rat.lt_iff];simp
theorem YJ {p : Rat} (hp : CZ p) : Fv (ofQ p)=some (HE p 0):=by
 unfold Fv
 rw [Jj (Eh hp),CO hp,oB]
 unfold HE
 by_cases h:p=0
 ·subst h
  rw [if_pos (by simp [Yh]),if_neg Rat.lt_irrefl,if_pos rfl]
 ·rw [if_neg (by simp [Yh,h])]
  show (if decide (p.num<0)=true then some (-1) else some 1)=_
  by_cases h2:p<0
  ·rw [if_pos h2,if_pos (dT (Yj.2 h2))]
  ·rw [if_neg h2,if_neg (by simpa using fun h3=>h2 (Yj.1 h3)),if_neg h]
theorem Ys {a b : List Nat} (ha : okL 1048576 a=true) (hb : okL 35184372087808 b=true) : Iw a b=some (decide (a=b)):=if_pos (by rw [ha,hb];rfl)
theorem Zw {p : Rat} (hp : CZ p) : Fx (ofQ p)=some (decide (p.den=1)):=by
 unfold Fx
 rw [Jj (Eh hp),CO hp,oB,if_pos rfl,Yt,oB]
 rw [show Iw (ofQ p).2.2 [1]=some (decide (Ae p.den=[1])) from Ys (Nc hp.2 (by decide)) (by rfl),oB,oB]
 congr 1
 exact decide_eq_decide.2 Lh
theorem P3 {x y : Q3} (hx : sm 4000 x) (hy : sm 4000 y) : Ca (qN x).1 (qN y).1=some (Ae (x.2.1 * y.2.2)):=by
 have:Ca (qN x).1 (qN y).1=some (Ae (val (Ae x.2.1) * val (Ae y.2.2))):=if_pos (by
  rw [Bool.and_eq_true];exact ⟨Fi hx.1,Fi hy.2⟩)
 rw [this,AD,AD]
theorem Pz {m n : Nat} (hm : (Ae m).length≤1048576) (hn : (Ae n).length≤1048576) : Dh (Ae m) (Ae n)=some (Iv m n):=by
 have:Dh (Ae m) (Ae n)=some (Iv (val (Ae m)) (val (Ae n))):=if_pos (by
  rw [Bool.and_eq_true];exact ⟨Fi (by omega),Fi (by omega)⟩)
 rw [this,AD,AD]
theorem M9 {x y : Q3} {k : Nat} (hx : sm k x) (hy : sm k y) : (Ae (x.2.1 * y.2.2)).length≤2 * k:=by
 have l1:=Gb (AK x.2.1) (AK y.2.2) hx.1 hy.2
 rwa [AD,AD] at l1
theorem Tl {p q : Rat} : HE p q=if p.num * q.den<q.num * p.den then -1 else if p.num * q.den=q.num * p.den then 0 else 1:=by
 unfold HE
 simp only [Rat.lt_iff,Rat.eq_iff_mul_eq_mul]
theorem LK {p : Rat} : HE p 0=if p.num<0 then -1 else if p.num=0 then 0 else 1:=by
 rw [Tl];simp
theorem YC {p q : Rat} (h : HE p 0=HE q 0) : HE p 0 * Iv (p.num.natAbs * q.den) (q.num.natAbs * p.den)=HE p q:=by
 rw [LK,LK] at h
 rw [LK,Tl]
 have hp:(0:Int)<p.den:=by have:=p.den_nz;omega
 have hq:(0:Int)<q.den:=by have:=q.den_nz;omega
 unfold Iv
 by_cases h1:p.num<0
 ·rw [if_pos h1] at h ⊢
  have h2:q.num<0:=by
   by_cases h2:q.num<0
   ·exact h2
   ·rw [if_neg h2] at h;split at h <;> cases h
  have e1:((p.num.natAbs * q.den:Nat):Int)=-(p.num * q.den):=by rw [Int.natCast_mul,show ((p.num.natAbs:Nat):Int)=-p.num by omega,Int.neg_mul]
  have e2:((q.num.natAbs * p.den:Nat):Int)=-(q.num * p.den):=by rw [Int.natCast_mul,show ((q.num.natAbs:Nat):Int)=-q.num by omega,Int.neg_mul]
  generalize p.num.natAbs * q.den=a at *
  generalize q.num.natAbs * p.den=b at *
  generalize p.num * q.den=c at *
  generalize q.num * p.den=d at *
  split <;> split <;> (try split) <;> (try split) <;> omega
 ·rw [if_neg h1] at h ⊢
  by_cases h0:p.num=0
  ·rw [if_pos h0] at h ⊢
   have h2:q.num=0:=by
    by_cases h2:q.num<0
    ·rw [if_pos h2] at h;cases h
    ·rw [if_neg h2] at h
     by_cases h3:q.num=0
     ·exact h3
     ·rw [if_neg h3] at h;cases h
   rw [h0,h2];simp
  ·rw [if_neg h0] at h ⊢
   have h2:0<q.num:=by
    by_cases h2:q.num<0
    ·rw [if_pos h2] at h;cases h
    ·rw [if_neg h2] at h
     by_cases h3:q.num=0
     ·rw [if_pos h3] at h;cases h
     ·omega
   have e1:((p.num.natAbs * q.den:Nat):Int)=p.num * q.den:=by rw [Int.natCast_mul,show ((p.num.natAbs:Nat):Int)=p.num by omega]
   have e2:((q.num.natAbs * p.den:Nat):Int)=q.num * p.den:=by rw [Int.natCast_mul,show ((q.num.natAbs:Nat):Int)=q.num by omega]
   generalize p.num.natAbs * q.den=a at *
   generalize q.num.natAbs * p.den=b at *
   generalize p.num * q.den=c at *
   generalize q.num * p.den=d at *
   split <;> split <;> (try split) <;> (try split) <;> omega
theorem Sq (p q : Rat) : HE p q=-1∨HE p q=0∨HE p q=1:=by
 unfold HE;split
 ·exact .inl rfl
 ·split
  ·exact .inr (.inl rfl)
  ·exact .inr (.inr rfl)
theorem Yv {p q : Rat} (h : ¬ HE p 0=HE q 0) : HE p q=if HE p 0<HE q 0 then -1 else 1:=by
 rw [LK,LK] at h
 rw [LK,LK,Tl]
 have hp0:(0:Int)<p.den:=by have:=p.den_nz;omega
 have hq0:(0:Int)<q.den:=by have:=q.den_nz;omega
 have m1:p.num<0→p.num * q.den<0:=fun h=>Int.mul_neg_of_neg_of_pos h hq0
 have m2:0<p.num→0<p.num * q.den:=fun h=>Int.mul_pos h hq0
 have m3:p.num=0→p.num * q.den=0:=fun h=>by rw [h,Int.zero_mul]
 have k1:q.num<0→q.num * p.den<0:=fun h=>Int.mul_neg_of_neg_of_pos h hp0
 have k2:0<q.num→0<q.num * p.den:=fun h=>Int.mul_pos h hp0
 have k3:q.num=0→q.num * p.den=0:=fun h=>by rw [h,Int.zero_mul]
 generalize p.num * q.den=c at *
 generalize q.num * p.den=d at *
 by_cases a1:p.num<0
 ·rw [if_pos a1] at h ⊢
  by_cases a3:q.num<0
  ·rw [if_pos a3] at h;exact absurd rfl h
  ·rw [if_neg a3] at h ⊢
   have:(if q.num=0 then (0:Int) else 1) > -1:=by split <;> decide
   rw [if_pos this,if_pos]
   omega
 ·rw [if_neg a1] at h ⊢
  by_cases a2:p.num=0
  ·rw [if_pos a2] at h ⊢
   by_cases a3:q.num<0
   ·rw [if_pos a3,if_neg (show ¬ c<d by omega),if_neg (show ¬ c=d by omega),if_neg (by decide)]
   ·rw [if_neg a3] at h ⊢
    by_cases a4:q.num=0
    ·rw [if_pos a4] at h;exact absurd rfl h
    ·rw [if_neg a4,if_pos (show c<d by omega),if_pos (by decide)]
  ·rw [if_neg a2] at h ⊢
   by_cases a3:q.num<0
   ·rw [if_pos a3,if_neg (show ¬ c<d by omega),if_neg (show ¬ c=d by omega),if_neg (by decide)]
   ·rw [if_neg a3] at h ⊢
    by_cases a4:q.num=0
    ·rw [if_pos a4,if_neg (show ¬ c<d by omega),if_neg (show ¬ c=d by omega),if_neg (by decide)]
    ·rw [if_neg a4] at h;exact absurd rfl h
theorem Vk {p q : Rat} (hp : CZ p) (hq : CZ q) : DN (ofQ p) (ofQ q)=some (HE p q):=by
 unfold DN
 refine Jl (ZK (Eh hp) (Eh hq)) ?_
 rw [Yr hp hq,if_pos rfl]
 refine Jl (YJ hp) (Jl (YJ hq) ?_)
 have s1:=GA (Ny hp) (show 32≤4000 by decide)
 have s2:=GA (Ny hq) (show 32≤4000 by decide)
 by_cases h:HE p 0=HE q 0
 ·rw [if_neg (by simp [h]),if_pos h]
  refine Jl (MA p) (Jl (MA q) (Jl (P3 s1 s2) (Jl (MA q) (Jl (MA p) (Jl (P3 s2 s1) (Jl (Pz ?_ ?_) ?_))))))
  ·exact Nat.le_trans (M9 (Ny hp) (Ny hq)) (by decide)
  ·exact Nat.le_trans (M9 (Ny hq) (Ny hp)) (by decide)
  ·rw [YC h,Iz] <;> rcases Sq p q with h | h | h <;> rw [h] <;> decide
 ·rw [if_neg h,Yv h]
  by_cases h2:HE p 0<HE q 0
  ·rw [if_pos (by simp [h,h2]),if_pos h2]
  ·rw [if_neg (by simp [h2]),if_neg h2]
def Nz (op : Rat→Rat→Rat) : Rat→List Rat→RT × Int
 | s,[]=>(ofQ s,0)
 | s,p::ps=>if CZ (op s p) then Nz op (op s p) ps else bad 8
theorem Re {op : Q3→Q3→Q3} {opR : Rat→Rat→Rat} (hop : ∀ x y : Q3,x.2.2 ≠ 0→y.2.2 ≠ 0→Hc (op x y)=opR (Hc x) (Hc y)∧(op x y).2.2 ≠ 0) : ∀ (l : List Rat) (s : Rat),
  NM (JV op (q3 s) (l.map ofQ))=Nz opR s l
 | [],s=>rfl
 | p::l,s=>by
  rw [List.map_cons,JV,Nz,ZV]
  obtain ⟨h1,h2⟩:=hop (q3 s) (q3 p) (OJ s) (OJ p)
  rw [show SL (op (q3 s) (q3 p))=WG (Hc (op (q3 s) (q3 p))) from WV h2,h1,Mu,Mu]
  by_cases h:CZ (opR s p)
  ·rw [show WG (opR s p)=.ok (q3 (opR s p)) from if_pos h,if_pos h]
   exact Re hop l _
  ·rw [show WG (opR s p)=.error 8 from if_neg h,if_neg h]
   rfl
theorem QT {ps : List Rat} (h : ∀ p ∈ ps,CZ p) : (ps.map ofQ).all AQ=true:=by
 rw [List.all_map,List.all_eq_true];intro p hp;exact CO (h p hp)
theorem WL {ps : List Rat} (h : ∀ p ∈ ps,CZ p) : (ps.map ofQ).all Gl=true:=by
 rw [List.all_map,List.all_eq_true];intro p hp;exact Eh (h p hp)
theorem Ye : q3 0=(false,0,1):=rfl
theorem Zl : q3 1=(false,1,1):=rfl
theorem Zq {ps : List Rat} (h : ∀ p ∈ ps,CZ p) (hl : ps.length≤1048576) : Ll (ps.map ofQ)=some (Nz (·+·) 0 ps):=by
 have:Ll (ps.map ofQ)=some (NM (SS (ps.map ofQ))):=if_pos (by rw [WL h,Bool.true_and];exact dT (by simpa using hl))
 rw [this,SS,if_pos (QT h),← Ye,Re (opR:=(·+·)) fun x y=>Sj]
theorem ZU {ps : List Rat} (h : ∀ p ∈ ps,CZ p) (hl : ps.length≤1048576) : JS (ps.map ofQ)=some (Nz (· * ·) 1 ps):=by
 have:JS (ps.map ofQ)=some (NM (ST (ps.map ofQ))):=if_pos (by rw [WL h,Bool.true_and];exact dT (by simpa using hl))
 rw [this,ST,if_pos (QT h),← Zl,Re (opR:=(· * ·)) fun x y=>N3]
theorem YX {p q : Rat} (hp : CZ p) (hq : CZ q) : Ll [ofQ p,ofQ q]=some (R8 (p+q)):=by
 have:=Zq (ps:=[p,q]) (by simp [hp,hq]) (by simp)
 rw [show [p,q].map ofQ=[ofQ p,ofQ q] from rfl] at this
 rw [this]
 simp only [Nz,Rat.zero_add,if_pos hp,R8]
theorem Y9 {p q : Rat} (hp : CZ p) (hq : CZ q) : JS [ofQ p,ofQ q]=some (R8 (p * q)):=by
 have:=ZU (ps:=[p,q]) (by simp [hp,hq]) (by simp)
 rw [show [p,q].map ofQ=[ofQ p,ofQ q] from rfl] at this
 rw [this]
 simp only [Nz,Rat.one_mul,if_pos hp,R8]
section
variable {S : Type}
end
def VO (x : Itm) : DV:=.ag [.i .u8 x.kind,.b x.num.1,.sl (L x.num.2.1),.sl (L x.num.2.2),.i .i32 x.char,.sl (Ars x.box)]
def GB : List Int→Option (List Itm)
 | []=>some []
 | n::ns=>(BM n).bind fun q=>(BW q).bind fun x=>(GB ns).bind fun xs=>some (x::xs)
theorem PH : ∀ {l : List Int} {xs : List Itm},GB l=some xs→xs.length=l.length∧∀ (i : Nat) n,l[i]?=some n→∃ q x,BM n=some q∧BW q=some x∧xs[i]?=some x:=by
 intro l
 induction l with
 | nil=>intro xs h;cases h;exact ⟨rfl,fun i n hn=>by simp at hn⟩
 | cons m ns ih =>
  intro xs h
  rw [GB] at h
  obtain ⟨q,hq,h⟩:=bnd h
  obtain ⟨x,hx,h⟩:=bnd h
  obtain ⟨ys,hy,h⟩:=bnd h
  cases h
  obtain ⟨h1,h2⟩:=ih hy
  refine ⟨by simp [h1],fun i n hn=>?_⟩
  cases i with
  | zero=>simp at hn;subst hn;exact ⟨q,x,hq,hx,rfl⟩
  | succ i=>simpa using h2 i n (by simpa using hn)
def itY (xs : List Itm) : List (List DV):=xs.map fun x=>[VO x]
theorem XP {xs : List Itm} {i : Nat} {x : Itm} (h : xs[i]?=some x) : (itY xs)[i]?=some [VO x]:=by simp [itY,h]
set_option maxRecDepth 10000 in
theorem UT {l : List Int} {xs : List Itm} (h : GB l=some xs) (hl : l.length≤9223372036854775806) (m : Nat) : ItG Tryz.prog 77 [.ptr [.sl (Is l)]] (itY xs) m:=by
 obtain ⟨hlen,hat⟩:=PH h
 have hyl:(itY xs).length=l.length:=by simp [itY,hlen]
 refine ItG.of Tryz.func77 rfl rfl (nt:=18) rfl (by simp) fun lp J hJ hR=>?_;refine .seq ?_;refine .lift ?_;refine .region ?_;refine vk (An C3) ?_;refine vk (Bz (Bh _) (E5 _) E7) ?_;refine vk (Aa) ?_;refine .nil ?_
 show AWJ _ _ _ _ _ _ _ _ _
 refine .block ?_;refine ALJ.loop ?_;refine ALJ.gh (Gh.keep [0,5,6,7] rfl) ?_
 refine ALJ.ind (σ:=Nat) (m:=fun i=>l.length - i) (e:=fun i=>[(0,.d (.yl lp)),(5,.d (.sl (Is l))),(6,.d (.i .i64 ((List.length l:Nat):Int))),(7,.d (.i .i64 ((i:Nat):Int)))]) (h:=fun _=>[]) (r:=fun i=>i) (I:=fun i=>i≤l.length∧i≤m) ?_ 0 ⟨Nat.zero_le _,Nat.zero_le _⟩
 rintro i ⟨hi,him⟩ ih
 refine .seq ?_;refine .lift ?_;refine .region ?_;refine vk (vbi) ?_;refine .nil ?_
 show AWJ _ _ _ _ _ _ _ _ _
 refine .seq ?_
 by_cases hc:((i:Nat):Int)<((List.length l:Nat):Int)
 ·refine .cond (x:=true) (by show AV.d (.b (decide _))=_;rw [dT hc]) (fun _=>?_) (fun h=>by cases h)
  have hlt:i<l.length:=by omega
  obtain ⟨q,x,hq,hx,hxi⟩:=hat i _ (List.getElem?_eq_getElem hlt)
  refine .skip ?_
  show AWJ _ _ _ _ _ _ _ _ _
  refine .seq ?_;refine .block ?_;refine .seq ?_;refine .lift ?_;refine .region ?_;refine vk (vix i rfl (Jw (List.getElem?_eq_getElem hlt)) rfl GN) ?_;refine vk (An CK) ?_;refine asd ?_;refine .nil ?_
  show AWJ _ _ _ _ _ _ _ _ _
  refine .seq ?_;refine .region ?_;refine vkJ (Aa) ?_;refine vkJ (Aa) ?_;refine vkJ (Ad (Br hq) Tryz.call72) ?_;refine vkJ (Ad (DY hx) Tryz.call71) ?_;refine yld (hR i [VO x] (XP hxi) him) hJ ?_;refine vkJ (vnt) ?_;refine .nil ?_
  show AWJ _ _ _ _ _ _ _ _ _
  by_cases hm:i<m
  ·refine .cond (x:=false) (by show AV.d (.b (!decide _))=_;rw [dT hm];rfl) (fun h=>by cases h) (fun _=>?_)
   refine .skip ?_
   show AWJ _ _ _ _ _ _ _ _ _
   refine .lift ?_;refine .region ?_;refine vk (vbi) ?_;refine vk (Aa) ?_;refine .nil ?_
   show ALJ _ _ _ _ _ _ _ _ _
   have hw:IntKind.wrap .i64 ((i:Int)+1)=((i+1:Nat):Int):=by simp only [IntKind.wrap,IntKind.bits,IntKind.signed];simp;omega
   rw [hw]
   refine ALJ.gh (Gh.keep [0,5,6,7] rfl) ?_
   exact ih (i+1) ⟨hlt,hm⟩ (by omega)
  ·refine .cond (x:=true) (by show AV.d (.b (!decide _))=_;rw [dF hm];rfl) (fun _=>?_) (fun h=>by cases h)
   refine .ret ?_
   exact ⟨.inr rfl,by rw [hyl];omega⟩
 ·refine .cond (x:=false) (by show AV.d (.b (decide _))=_;rw [dF hc]) (fun h=>by cases h) (fun _=>?_)
  refine .exit ?_
  exact ⟨.inl rfl,by rw [hyl];omega⟩
def JK (proto : Itm) (xs : List Itm) : Arr:=.mk [((min xs.length 4096 : Nat) : Int)] (if xs.length=0 then [proto] else xs.take 4096)
abbrev ZY (xs : List Itm) (n : Nat) : Af:=[.box [.own 3 (Is [((n : Nat) : Int)]),.own 83 (Its (xs.take n))]]
theorem V0 : 0<AB Tryz.prog 83:=by rw [QC];decide
set_option maxRecDepth 10000 in
set_option maxHeartbeats 4000000 in
theorem SD {proto : Itm} {xs : List Itm} {f : FuncId} {caps : List DV} (hcall : ∀ args w,(callFunc f args).run Tryz.prog w=.ok (.enter f args) w) (hit : ItG Tryz.prog f caps (itY xs) 4096) :
  Fn Tryz.prog 76 [VO proto,.fn f [] caps] (.d (.ag [.sl (Is (JK proto xs).shape),.sl (Its (JK proto xs).items)])):=by
 refine Fn.ofMA (rs:=[.cell 4 25]) (nt:=37) Tryz.func76 rfl rfl rfl (by simp) rfl ?_;refine .seqA ?_;refine .region ?_;refine vk (vbx (cs:=[.i .u8 proto.kind,.b proto.num.1,.sl (L proto.num.2.1),.sl (L proto.num.2.2),.i .i32 proto.char,.sl (Ars proto.box)])) ?_;refine vk (van (Ah AU) A7) ?_;refine .nil ?_
 show AWM _ _ _ _ _ _
 refine .seqA ?_;refine .region ?_;refine vk (GD (ds':=Is [0]) rfl (Gj [0]) HV) ?_;refine bdo Ef AU rfl ?_
 refine al ?_ (Ah AU) (fun w I μ=>Om w I μ)
 refine st2 (c0:=.nl) (c1:=.nl) rfl ?_ Ag
 refine .nil ?_
 show AWM _ _ _ _ _ _
 refine .gh (Gh.keep [1,2,4,5] rfl) ?_;refine .gh (Gh.nlOwnC (id:=0) (off:=1) 83 V0) ?_;refine .seq rfl ?_;refine .seqA ?_;refine .region ?_;refine vk (Aa) ?_;refine .nil ?_
 show AWM _ _ _ _ _ _
 refine .block ?_
 refine AWM.rangeFuncG (ps:=[10]) (f:=f) (caps:=caps) (ys:=itY xs) (m:=4096) (e1:=.exit 0) rfl rfl rfl hcall hit (fun ds hd=>?_) (fun p hp=>?_) rfl (fun k H=>H=ZY xs (min k 4096)) rfl (.inl ⟨0,rfl⟩) (fun l k ds H hk hkm hH=>?_) (fun H hH=>?_)
 ·simp only [itY,List.mem_map] at hd
  obtain ⟨x,_,rfl⟩:=hd;rfl
 ·simp only [List.mem_cons,List.not_mem_nil,or_false] at hp;subst hp;rfl
 ·subst hH
  simp only [itY,List.getElem?_map,Option.map_eq_some_iff] at hk
  obtain ⟨x,hx,rfl⟩:=hk
  rw [Nat.min_eq_left hkm]
  refine .region ?_;refine vk (van (Ah B2) Cb) ?_
  refine stn ?_ Ay (by decide)
  refine .nil ?_
  show AW _ _ _ _ _ _
  refine .block ?_;refine .seq ?_;refine .seq ?_;refine .region ?_;refine vk (GM Bc) ?_
  refine PZ (cs:=[.own 3 (Is [((k:Nat):Int)]),.own 83 (Its (xs.take k))]) rfl rfl ?_ C3
  refine ixr (len:=1) (xs:=Is [((k:Nat):Int)]) 0 rfl (by decide) ?_ GN (by decide)
  refine lde (xs:=Is [((k:Nat):Int)]) (.i .i64 ((k:Nat):Int)) ⟨_,rfl,rfl⟩ ?_ CK
  refine vk (vbi) ?_;refine rn ?_
  by_cases hm:((k:Nat):Int)=4096
  ·refine cnt (dT hm) ?_
   refine .exit ?_
   have hk4:k=4096:=by omega
   subst hk4
   exact ⟨rfl,rfl⟩
  refine cnf (dF hm) ?_
  have hlt:k<4096:=by omega
  have hkl:k<xs.length:=(List.getElem?_eq_some_iff.1 hx).1
  refine .skip ?_
  show AW _ _ _ _ _ _
  refine .gh (Gh.keep [5,6] rfl) ?_;refine .seq ?_;refine .region ?_;refine vk (GM A6) ?_
  refine PZ (cs:=[.own 3 (Is [((k:Nat):Int)]),.own 83 (Its (xs.take k))]) rfl rfl ?_ CC
  refine vk (C8 AP Ay) ?_;refine vk (GD (Gi x) (EX [x]) Fc) ?_
  have hap:ap? 1466015503701 (xs.take k) [x]=some (xs.take (k+1)):=by
   rw [ap?,if_pos (by simp;omega),List.take_add_one,hx];rfl
  refine VN Lg hap rfl rfl N8 ?_ JD AN Fc
  refine RL.gh (Gh.keep [5,6,20] rfl) ?_;refine vk (GM A6) ?_
  refine Qm (cs:=[.own 3 (Is [((k:Nat):Int)]),.un]) (c:=.un) rfl rfl ?_ LI
  refine rn ?_;refine .gh (Gh.keep [5] rfl) ?_;refine .region ?_;refine vk (GM Bc) ?_
  refine PZ (cs:=[.own 3 (Is [((k:Nat):Int)]),.own 83 (Its (xs.take (k+1)))]) rfl rfl ?_ C3
  refine ixr (len:=1) (xs:=Is [((k:Nat):Int)]) 0 rfl (by decide) ?_ GN (by decide)
  refine lde (xs:=Is [((k:Nat):Int)]) (.i .i64 ((k:Nat):Int)) ⟨_,rfl,rfl⟩ ?_ CK
  refine vk (vbi) ?_
  refine ixr (len:=1) (xs:=Is [((k:Nat):Int)]) 0 rfl (by decide) ?_ GN (by decide)
  refine ste (xs:=Is [((k:Nat):Int)]) ⟨_,rfl,rfl⟩ ?_ I9 (hn:=fun _ _ _=>Nat.zero_le _)
  refine .nil ?_
  have hw:IntKind.wrap .i64 ((k:Int)+1)=((k+1:Nat):Int):=by simp only [IntKind.wrap,IntKind.bits,IntKind.signed];simp;omega
  refine ⟨by rw [if_pos hlt],?_⟩
  rw [Nat.min_eq_left (by omega:k+1≤4096)]
  show [HO.box [AV.own _ [.i .i64 (IntKind.wrap .i64 ((k:Int)+1))],_]]=_
  rw [hw];rfl
 ·have hlen:(itY xs).length=xs.length:=by simp [itY]
  rw [hlen] at hH ⊢
  have hn:min (min (4096+1) xs.length) 4096=min xs.length 4096:=by omega
  rw [hn] at hH
  subst hH
  by_cases hb:4096<xs.length
  case' pos=>rw [if_pos hb]
  case' neg=>rw [if_neg hb]
  all_goals
   show AWM _ _ _ _ _ _
   refine .lift ?_;refine .gh (Gh.keep [2,4,5] rfl) ?_;refine .seq ?_;refine .seq ?_;refine .region ?_;refine vk (GM Bc) ?_
   refine PZ (cs:=[.own 3 (Is [((min xs.length 4096:Nat):Int)]),.own 83 (Its (xs.take (min xs.length 4096)))]) rfl rfl ?_ C3
   refine ixr (len:=1) (xs:=Is [((min xs.length 4096:Nat):Int)]) 0 rfl (by decide) ?_ GN (by decide)
   refine lde (xs:=Is [((min xs.length 4096:Nat):Int)]) (.i .i64 ((min xs.length 4096:Nat):Int)) ⟨_,rfl,rfl⟩ ?_ CK
   refine vk (vbi) ?_;refine rn ?_;refine .gh (Gh.keep [2,4,5,32] rfl) ?_
   by_cases h0:((min xs.length 4096:Nat):Int)=0
   ·have hx0:xs.length=0:=by omega
    refine cnt (dT h0) ?_;refine .region ?_;refine vk (Ap AP Ay) ?_;refine vk (GD (Gi proto) (EX [proto]) Fc) ?_;refine vk (GM A6) ?_
    refine Qm (cs:=[.own 3 (Is [((min xs.length 4096:Nat):Int)]),.own 83 (Its (xs.take (min xs.length 4096)))]) (c:=.own 83 (Its (xs.take (min xs.length 4096)))) rfl rfl ?_ LI
    refine .nil ?_
    show AW _ _ _ _ _ _
    refine .gh (Gh.keep [4,5] rfl) ?_;refine .seq ?_;refine .region ?_;refine fz (p:=.c 0 0) ?_;refine fz (p:=.c 0 1) ?_;refine vk (KJ (cs:=[.d (.sl (Is [((min xs.length 4096:Nat):Int)])),.d (.sl (Its [proto]))]) (ds:=[.sl (Is [((min xs.length 4096:Nat):Int)]),.sl (Its [proto])]) rfl As Ag) ?_
    refine stn ?_ Ag (by decide)
    refine rn ?_;refine .ret ?_
    exact ⟨.inr rfl,.inl ⟨_,⟨.inr rfl,As,Ag,(by decide:(0:Nat)<2)⟩,by simp only [JK,if_pos hx0];rfl⟩⟩
   ·have hx0:¬ xs.length=0:=by omega
    refine cnf (dF h0) ?_;refine .skip ?_
    show AW _ _ _ _ _ _
    refine .gh (Gh.keep [4,5] rfl) ?_;refine .seq ?_;refine .region ?_;refine fz (p:=.c 0 0) ?_;refine fz (p:=.c 0 1) ?_;refine vk (KJ (cs:=[.d (.sl (Is [((min xs.length 4096:Nat):Int)])),.d (.sl (Its (xs.take (min xs.length 4096))))]) (ds:=[.sl (Is [((min xs.length 4096:Nat):Int)]),.sl (Its (xs.take (min xs.length 4096)))]) rfl As Ag) ?_
    refine stn ?_ Ag (by decide)
    refine rn ?_;refine .ret ?_
    have ht:xs.take (min xs.length 4096)=xs.take 4096:=by
     rcases Nat.le_total xs.length 4096 with h | h
     ·rw [Nat.min_eq_left h,List.take_of_length_le (Nat.le_refl _),List.take_of_length_le h]
     ·rw [Nat.min_eq_right h]
    exact ⟨.inr rfl,.inl ⟨_,⟨.inr rfl,As,Ag,(by decide:(0:Nat)<2)⟩,by simp only [JK,if_neg hx0,ht];rfl⟩⟩
def IB (l : List Int) : Option Arr:=if l.length≤9223372036854775806 then (GB l).bind fun xs=>(BM 0).bind fun q=>(BW q).bind fun p=>some (JK p xs) else none
theorem GK {l : List Int} {r : Arr} (h : IB l=some r) : Fn Tryz.prog 30 [.sl (Is l)] (.d (.ag [.sl (Is r.shape),.sl (Its r.items)])):=by
 obtain ⟨hl,h⟩:=C0 h
 obtain ⟨xs,hxs,h⟩:=bnd h
 obtain ⟨q,hq,h⟩:=bnd h
 obtain ⟨p,hp,h⟩:=bnd h
 cases h
 refine Fn.ofC (rs:=[.cell 2 25]) (nt:=7) Tryz.func30 rfl rfl rfl (by simp) rfl ?_;refine .seq ?_;refine .region ?_;refine vk (UX) ?_;refine vk (van (Ah AU) A7) ?_;refine rn ?_;refine .seq ?_;refine .region ?_;refine vk (Ad (Br hq) Tryz.call72) ?_;refine vk (Ad (DY hp) Tryz.call71) ?_;refine vk (SO) ?_;refine vk (Ad (SD (proto:=p) Tryz.call77 (UT hxs hl 4096)) Tryz.call76) ?_
 refine stn ?_ Ag (by decide)
 refine rn ?_;refine .ret ?_
 exact ⟨_,⟨.inr rfl,As,Ag,(by decide:(0:Nat)<2)⟩,rfl⟩
end Go.FL
