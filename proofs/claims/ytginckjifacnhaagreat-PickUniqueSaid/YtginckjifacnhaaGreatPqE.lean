/-
  Part 5 of the base of the proofs: a logic of our own over the calculus, the contracts of the functions
-/
import Derived.Test.YtginckjifacnhaaGreatPqD
set_option linter.unusedVariables false
namespace Go.FL
open Go Go.Proofs
def C8 (a0:Int) : Option (Itm):=((DJ a0).bind fun x1=>(some ((Itm.mk 1 x1 0 []))))
theorem Gf {a0:Int} {r:Itm} (h:C8 a0=some r) :
  Fn Tryz.prog 94 [.i .i64 a0] (.d (.ag [.i .u8 r.kind,.b r.num.1,.sl (L r.num.2.1),.sl (L r.num.2.2),.i .i32 r.char,.sl (Ars r.box)])):=by
 unfold C8 at h
 refine Fn.ofC (rs:=[.cell 2 44]) (nt:=6) Tryz.func94 rfl rfl rfl (by simp) rfl ?_;refine .sr<|kK (van (Ai BL) BQ)<|rk [0,2]<|.sr<|kA zj ?_
 obtain ⟨x1,g1,h⟩:=bnd h
 refine kK (Al (DR g1) Tryz.call69)<|kK (vbd JB BL BQ) ?_
 refine stn ?_ An (by decide)
 refine rk [2]<|.ret ?_
 cases h
 exact ⟨_,⟨.inr rfl,AF,An,p6⟩,rfl⟩
def C6 (a0:(List Itm)) (a1:Itm) : Option (Arr×Int):=(jn (fun (z1:(List Itm))=>((A9 ([((List.length a0:Nat) : Int)]) z1).bind fun x2=>(some (x2.1,x2.2)))) fun K0=>(if ((List.length a0:Nat) : Int)=0 then (K0 ([a1])) else (K0 a0)))
theorem H6 {a0:(List Itm)} {a1:Itm} {r:Arr×Int} (h:C6 a0 a1=some r) :
  Fn Tryz.prog 35 [.sl (Its a0),.ag [.i .u8 a1.kind,.b a1.num.1,.sl (L a1.num.2.1),.sl (L a1.num.2.2),.i .i32 a1.char,.sl (Ars a1.box)]] (.tup [.d (.ag [.sl (Is r.1.shape),.sl (Its r.1.items)]),.d (.i .i64 r.2)]):=by
 unfold C6 at h
 refine Fn.ofC (rs:=[.cell 4 25,.tmp 5]) (nt:=19) Tryz.func35 rfl rfl rfl (by simp) rfl ?_;refine .sr<|kK vbx<|kK (van (Ai AR) A0)<|kR [0,3,4,5] zj<|.sr<|kA zj<|kK (A8 (Af _) (BD _) Bh)<|kR [0,3,4,5,6] zj<|.seq<|.sr<|kA zj<|kB zj<|rk [0,3,4,5,6,10] ?_
 obtain ⟨K0,hK0,h⟩:=AX h
 refine AW.mr (σ:=(List Itm)) (fun p=>K0 p=some r) (fun p=>[(0,.d (.sl (Its p))),(4,.nb [.sl (Is []),.sl (Its [])]),(5,.d (.i .i64 0)),(6,.d (.i .i64 ((List.length a0:Nat):Int)))]) (fun p=>[]) ?_ ?_
 ·skip
  rcases brc h with ⟨hc,h⟩|⟨hc,h⟩
  ·refine cnt (dT hc) ?_
   refine .region<|kK (Au AF An)<|kK ((FG (Fa a1) (D7 [a1]) Dc).deep)<|kD zj<|RL.gk [0,4,5,6]<|.nil ?_
   exact jr ([a1]) h
  refine cnf (dF hc) ?_;refine .gk [0,4,5,6]<|.skip ?_
  exact jr (a0) h
 rintro z1 h
 try dsimp only at h ⊢
 subst hK0
 refine aw<|.sr<|kA zj<|kK ((GK (Fb [((List.length a0:Nat):Int)]) Ga).deep)<|kA zj ?_
 obtain ⟨x2,g2,h⟩:=bnd h
 refine kK (VOK.tupd (vs:=[.ag [.sl (Is x2.1.shape),.sl (Its x2.1.items)],.i .i64 x2.2]) (Al (Fc g2) Tryz.call5))<|kK vex<|kK vex ?_
 refine stn ?_ Ac (by decide)
 refine kR [4,5] zj<|.ret ?_
 cases h
 exact ⟨_,_,⟨.inr rfl,Ag,Ac,p2⟩,rfl,rfl⟩
def HL (a0:Int) (a1:Int) (c0:Int) (c1:(List Itm)) (c2:(Int×RT×Int)) : Option (Int):=((rd? c1 (w64 (a0-c2.1))).bind fun x1=>((rd? c1 (w64 (a1-c2.1))).bind fun x2=>((Q5 x1 x2).bind fun x3=>(some ((w64 (c0 * x3)))))))
theorem LS {a0:Int} {a1:Int} {c0:Int} {c1:(List Itm)} {c2:(Int×RT×Int)} {r:Int} (h:HL a0 a1 c0 c1 c2=some r) :
  Fn Tryz.prog 84 [.i .i64 a0,.i .i64 a1,.ptr [.i .i64 c0],.ptr [.sl (Its c1)],.ptr [.i .i64 c2.1,.b c2.2.1.1,.sl (L c2.2.1.2.1),.sl (L c2.2.1.2.2),.i .i64 c2.2.2]] (.d (.i .i64 r)):=by
 unfold HL at h
 refine Fn.o1 7 25 Tryz.func84 ?_;refine .sr<|kR [0,1,2,3,4,7] zj<|.seq<|.drawn 17 A5 (by kernel_rfl) ?_;refine kV (Am Bd)<|kV (Am BG)<|kV Ad<|kV (vfa J3)<|kV (Am Bd)<|kV vbi ?_
 obtain ⟨x1,g1,h⟩:=bnd h
 obtain ⟨n1,p01,q1⟩:=Ar g1
 refine kV (vix n1 p01 (BI q1) rfl Bp)<|kV (Au AF An)<|kV (Am BG)<|kV Ad<|kV (vfa J3)<|kV (Am Bd)<|kV vbi ?_
 obtain ⟨x2,g2,h⟩:=bnd h
 obtain ⟨n2,p02,q2⟩:=Ar g2
 refine kV (vix n2 p02 (BI q2) rfl Bp)<|kV (Au AF An) ?_
 obtain ⟨x3,g3,h⟩:=bnd h
 refine kV (Al (Rh g3) Tryz.call85)<|kV vbi<|dz ?_;refine kR [7] zj<|.ret ?_
 cases h
 exact ⟨rfl,rfl⟩
def D6 (a0:(Int×RT×Int)) (a1:(List Itm)) (K0:(List Int)→Option (Arr)) : Nat→(List Int)→Int→Option (Arr)
 | 0,_,_=>none
 | k+1,s3,s4=>(if s4<((List.length (List.replicate (Int.toNat ((List.length a1:Nat):Int)) (0:Int)):Nat):Int) then ((rd? s3 s4).bind fun x5=>(D6 a0 a1 K0 k (List.set s3 (Int.toNat s4) (w64 (s4+a0.1))) (w64 (s4+1)))) else (K0 s3))
def Js (a0:(Int×RT×Int)) (a1:(List Itm)) (a2:Int) : Option (Arr):=((GY (0≤((List.length a1:Nat) : Int)∧((List.length a1:Nat) : Int)≤17592186044416)).bind fun x1=>(jn (fun (z2:(List Int))=>((Qa z2 (⟨.fn 84 [] [.ptr [.i .i64 a2],.ptr [.sl (Its a1)],.ptr [.i .i64 a0.1,.b a0.2.1.1,.sl (L a0.2.1.2.1),.sl (L a0.2.1.2.2),.i .i64 a0.2.2]],fun x=>HL x.1 x.2 a2 a1 a0⟩ : Bf)).bind fun x6=>((KX x6).bind fun x7=>(some (x7))))) fun K0=>(D6 a0 a1 K0 AJ (List.replicate (Int.toNat ((List.length a1:Nat) : Int)) (0:Int)) 0)))
theorem NR {a0:(Int×RT×Int)} {a1:(List Itm)} {a2:Int} {r:Arr} (h:Js a0 a1 a2=some r) :
  Fn Tryz.prog 38 [.ag [.i .i64 a0.1,.b a0.2.1.1,.sl (L a0.2.1.2.1),.sl (L a0.2.1.2.2),.i .i64 a0.2.2],.sl (Its a1),.i .i64 a2] (.d (.ag [.sl (Is r.shape),.sl (Its r.items)])):=by
 unfold Js at h
 refine Fn.ofC (rs:=[.cell 6 25]) (nt:=30) Tryz.func38 rfl rfl rfl (by simp) rfl ?_;refine .sr<|kK vbx<|kK Y6<|kK Y6<|kK (van (Ai AR) A0)<|rk [3,4,5,6]<|.sr<|kK (Am BG)<|kK (A8 (Af _) (BD _) Bh) ?_
 obtain ⟨x1,g1,h⟩:=bnd h
 have ghx1:=H8 g1
 refine mk' (F:=Is) (x0:=0) (zl:=((List.length a1:Nat):Int)) (Int.toNat ((List.length a1:Nat):Int)) YY (by omega) (by omega) ?_ Ga (by decide)
 refine aso ?_;refine rk [3,4,5,6,7]<|.seq<|.sr<|mvo ?_;refine kK (Ll (Az _) Cu)<|kA zj<|rk [3,4,5,6,7,13,14] ?_
 obtain ⟨K0,hK0,h⟩:=AX h
 refine AW.mr (σ:=(List Int)) (fun p=>K0 p=some r) (fun p=>[(3,.d (.ptr [.i .i64 a0.1,.b a0.2.1.1,.sl (L a0.2.1.2.1),.sl (L a0.2.1.2.2),.i .i64 a0.2.2])),(4,.d (.ptr [.sl (Its a1)])),(5,.d (.ptr [.i .i64 a2])),(6,.nb [.sl (Is []),.sl (Its [])]),(7,.own 3 (Is p))]) (fun p=>[]) ?_ ?_
 ·skip
  refine .block ?_
  refine .loop (.gk [3,4,5,6,7,13,14] ?_)
  refine AL.ind (σ:=Nat×(List Int)×Int) (m:=fun p=>p.1) (e:=fun p=>[(3,.d (.ptr [.i .i64 a0.1,.b a0.2.1.1,.sl (L a0.2.1.2.1),.sl (L a0.2.1.2.2),.i .i64 a0.2.2])),(4,.d (.ptr [.sl (Its a1)])),(5,.d (.ptr [.i .i64 a2])),(6,.nb [.sl (Is []),.sl (Its [])]),(7,.own 3 (Is p.2.1)),(13,.d (.i .i64 ((List.length (List.replicate (Int.toNat ((List.length a1:Nat):Int)) (0:Int)):Nat):Int))),(14,.d (.i .i64 p.2.2))]) (h:=fun p=>[]) (I:=fun p=>D6 a0 a1 K0 p.1 p.2.1 p.2.2=some r) ?_ (AJ,(List.replicate (Int.toNat ((List.length a1:Nat):Int)) (0:Int)),0) h
  rintro ⟨k,s3,s4⟩ h ih
  dsimp only at h ih ⊢
  rcases k with _|k
  ·rw [D6] at h;cases h
  rw [D6] at h
  refine .sr<|kB zj<|rk [3,4,5,6,7,13,14,15]<|.seq ?_
  rcases brc h with ⟨hc,h⟩|⟨hc,h⟩
  ·refine cnt (dT hc) ?_
   refine .sk ?_;refine .seq<|.block<|.sr<|kA zj<|kR [3,4,5,6,7,8,13,14] zj<|.region<|mvo ?_;refine kA zj<|kA zj<|kK (vfa J3)<|kK (Am Bd)<|kB zj ?_
   obtain ⟨x5,g5,h⟩:=bnd h
   obtain ⟨n5,p05,q5⟩:=Ar g5
   refine ixr (off:=0) (len:=(Is s3).length) n5 p05 (by rw [Az];exact (lS.1 q5).1) ?_ CF (by decide)
   refine Aax (F:=Is) (D:=fun x=>.i .i64 x) RZ (us:=s3) (n:=n5) (m:=Int.toNat s4) (x:=(w64 (s4+a0.1))) (by rw [p05];rfl) ⟨_,by rw [Nat.zero_add];exact Dj q5,rfl⟩ ?_ GO
   refine RL.gk [3,4,5,6,7,8,13,14,17,18,19,20,21,22]<|.nil ?_;refine aw<|.gk [3,4,5,6,7,13,14]<|.region<|kB zj<|kA zj<|.nil ?_;refine AL.gk [3,4,5,6,7,13,14] ?_
   exact ih (k,(List.set s3 (Int.toNat s4) (w64 (s4+a0.1))),(w64 (s4+1))) h (Nat.lt_succ_self _)
  refine cnf (dF hc) ?_;refine .gk [3,4,5,6,7]<|.exit ?_
  exact jr (s3) h
 rintro z2 h
 try dsimp only at h ⊢
 subst hK0
 refine aw<|.sr<|mvo ?_;refine kK ZI ?_
 obtain ⟨x6,g6,h⟩:=bnd h
 refine Xi (Is x6) ?_ (RY (JQ Tryz.call84 (fun _ _ h=>LS h)) g6) Tryz.call83
 refine RL.gk [3,4,5,6,7,26,27]<|rk [6,7]<|.sr<|fz (p:=.t 7) ?_;refine kA zj ?_
 obtain ⟨x7,g7,h⟩:=bnd h
 refine vk (Al (GT g7) Tryz.call26) ?_
 refine stn ?_ Ac (by decide)
 refine rk [6]<|.ret ?_
 cases h
 exact ⟨_,⟨.inr rfl,Ag,Ac,p2⟩,rfl⟩
def Dh (a0:Arr) : Option (Bool):=((Bz a0).bind fun x1=>(some ((!x1))))
theorem HT {a0:Arr} {r:Bool} (h:Dh a0=some r) :
  Fn Tryz.prog 78 [.ag [.sl (Is a0.shape),.sl (Its a0.items)]] (.d (.b r)):=by
 unfold Dh at h
 refine Fn.o1 2 6 Tryz.func78 ?_;refine .sr<|kK vbx<|kR [1,2] zj<|.sr<|kK (Au Ag Ac) ?_
 obtain ⟨x1,g1,h⟩:=bnd h
 refine kK (Al (Cw g1) Tryz.call25)<|kK vnt<|kR [2] zj<|.ret ?_
 cases h
 exact ⟨rfl,rfl⟩
def DQ (a0:(Int×RT×Int)) (a1:(List Arr)) : Option (Bool):=(Option.bind ((if a0.1=0 then ((AC a1 (⟨.fn 78 [] [],fun x=>Dh x⟩ : BS)).bind fun x2=>(some (!x2))) else (if a0.1=1 then ((AC a1 (⟨.fn 78 [] [],fun x=>Dh x⟩ : BS)).bind fun x3=>(some (!x3))) else (some false))) : Option (Bool)) fun (z1:Bool)=>(some (z1)))
theorem Jl {a0:(Int×RT×Int)} {a1:(List Arr)} {r:Bool} (h:DQ a0 a1=some r) :
  Fn Tryz.prog 30 [.ag [.i .i64 a0.1,.b a0.2.1.1,.sl (L a0.2.1.2.1),.sl (L a0.2.1.2.2),.i .i64 a0.2.2],.sl (Ars a1)] (.d (.b r)):=by
 unfold DQ at h
 refine Fn.o1 4 18 Tryz.func30 ?_;refine .sr<|kK vbx<|kR [1,2,4] zj<|.seq ?_
 obtain ⟨z1,hz,h⟩:=bnd h
 refine AW.mr (σ:=Unit) (fun _=>True) (fun _=>[(4,.d (.b z1))]) (fun _=>[]) ?_ ?_
 ·skip
  refine .region<|kK (vfa J3)<|kK (Am Bd)<|kB zj ?_
  rcases brc hz with ⟨hc,hz⟩|⟨hc,hz⟩
  ·have hb0:(decide (a0.1=0))=true:=(dT hc)
   refine kC zj hb0<|gf3 ?_;refine kK As<|kA zj<|kA zj ?_
   obtain ⟨x2,g2,hz⟩:=bnd hz
   refine kK (Al (BR (JQ Tryz.call78 (fun _ _ h=>HT h)) g2) Tryz.call77)<|kK vnt<|kK As<|kD zj<|RL.gk [4]<|.nil ?_
   cases hz
   exact jr () trivial
  have hb0:(decide (a0.1=0))=false:=(dF hc)
  refine kC zj hb0<|kK (vfa J3)<|kK (Am Bd)<|kB zj<|kK As ?_
  rcases brc hz with ⟨hc,hz⟩|⟨hc,hz⟩
  ·have hb1:(decide (a0.1=1))=true:=(dT hc)
   refine kC zj hb1<|kA zj ?_
   obtain ⟨x3,g3,hz⟩:=bnd hz
   refine kK (Al (BR (JQ Tryz.call78 (fun _ _ h=>HT h)) g3) Tryz.call77)<|kK vnt<|kK As<|kD zj<|RL.gk [4]<|.nil ?_
   cases hz
   exact jr () trivial
  have hb1:(decide (a0.1=1))=false:=(dF hc)
  refine kC zj hb1<|gf3 ?_;refine kK As<|kD zj<|RL.gk [4]<|.nil ?_
  cases hz
  exact jr () trivial
 rintro _ _
 refine .ret ?_
 cases h
 exact ⟨rfl,rfl⟩
def BB (a0:(List (List Int))) (K0:Int→Option ((List Int))) : Nat→Int→Int→Option ((List Int))
 | 0,_,_=>none
 | k+1,s2,s3=>(if s3<((List.length a0:Nat):Int) then (jn (fun (z4:Int)=>(BB a0 K0 k z4 (w64 (s3+1)))) fun K2=>((rd? a0 s3).bind fun x5=>((GY (¬((w64 (s2+((List.length x5:Nat):Int)))<0))).bind fun x6=>(K2 (w64 (s2+((List.length x5:Nat):Int))))))) else (K0 s2))
def BA (a0:(List (List Int))) (K3:(List Int)→Option ((List Int))) : Nat→(List Int)→Int→Option ((List Int))
 | 0,_,_=>none
 | k+1,s9,s10=>(if s10<((List.length a0:Nat):Int) then ((rd? a0 s10).bind fun x11=>((ap? 17592186044416 s9 x11).bind fun x12=>(BA a0 K3 k x12 (w64 (s10+1))))) else (K3 s9))
def Dq (a0:(List (List Int))) : Option ((List Int)):=(jn (fun (z1:Int)=>((GY (0≤z1∧z1≤WJ)).bind fun x7=>(jn (fun (z8:(List Int))=>(some (z8))) fun K3=>(BA a0 K3 AJ [] 0)))) fun K0=>(BB a0 K0 AJ 0 0))
theorem GL {a0:(List (List Int))} {r:(List Int)} (h:Dq a0=some r) :
  Fn Tryz.prog 80 [.sl (IsS a0)] (.d (.sl (Is r))):=by
 unfold Dq at h
 refine Fn.o1 2 36 Tryz.func80 ?_;refine .sr<|asn ?_;refine rk [0,2]<|.sr<|kR [0,2,3] zj<|.seq<|.sr<|kA zj<|kK (A8 (M6 _) (Wt _) U5)<|kA zj<|rk [0,2,3,9,10,11] ?_
 obtain ⟨K0,hK0,h⟩:=AX h
 refine AW.mr (σ:=Int) (fun p=>K0 p=some r) (fun p=>[(0,.d (.sl (IsS a0))),(2,.nl),(3,.d (.i .i64 p))]) (fun p=>[]) ?_ ?_
 ·skip
  refine .block ?_
  refine .loop (.gk [0,2,3,9,10,11] ?_)
  refine AL.ind (σ:=Nat×Int×Int) (m:=fun p=>p.1) (e:=fun p=>[(0,.d (.sl (IsS a0))),(2,.nl),(3,.d (.i .i64 p.2.1)),(9,.d (.sl (IsS a0))),(10,.d (.i .i64 ((List.length a0:Nat):Int))),(11,.d (.i .i64 p.2.2))]) (h:=fun p=>[]) (I:=fun p=>BB a0 K0 p.1 p.2.1 p.2.2=some r) ?_ (AJ,0,0) h
  rintro ⟨k,s2,s3⟩ h ih
  dsimp only at h ih ⊢
  rcases k with _|k
  ·rw [BB] at h;cases h
  rw [BB] at h
  refine .sr<|kB zj<|rk [0,2,3,9,10,11,12]<|.seq ?_
  rcases brc h with ⟨hc,h⟩|⟨hc,h⟩
  ·refine cnt (dT hc) ?_
   refine .sk ?_
   obtain ⟨K2,hK2,h⟩:=AX h
   refine AW.mj (σ:=Int) (fun p=>K2 p=some r) (fun p=>[(0,.d (.sl (IsS a0))),(2,.nl),(3,.d (.i .i64 p)),(9,.d (.sl (IsS a0))),(10,.d (.i .i64 ((List.length a0:Nat):Int))),(11,.d (.i .i64 s3))]) (fun p=>[]) ?_ ?_
   ·skip
    refine .block<|.sr ?_
    obtain ⟨x5,g5,h⟩:=bnd h
    obtain ⟨n5,p05,q5⟩:=Ar g5
    refine kK (vix n5 p05 (Wx q5) rfl VH)<|kK (Am Co)<|kR [0,2,3,5,9,10,11] zj<|.sr<|kA zj<|kA zj<|kK (A8 (Az _) (CI _) Cu)<|kB zj<|kR [0,2,3,9,10,11] zj<|.sr<|kA zj<|kB zj<|rk [0,2,3,9,10,11,20] ?_
    obtain ⟨x6,g6,h⟩:=bnd h
    have hc:=H8 g6
    refine cnf (dF hc) ?_;refine .gk [0,2,3,9,10,11]<|.skip ?_
    exact jr ((w64 (s2+((List.length x5:Nat):Int)))) h
   rintro z4 h
   try dsimp only at h ⊢
   subst hK2
   refine .region<|kB zj<|kA zj<|.nil ?_;refine AL.gk [0,2,3,9,10,11] ?_
   exact ih (k,z4,(w64 (s3+1))) h (Nat.lt_succ_self _)
  refine cnf (dF hc) ?_;refine .gk [0,2,3]<|.exit ?_
  exact jr (s2) h
 rintro z1 h
 try dsimp only at h ⊢
 subst hK0
 refine aw<|.sr<|kA zj ?_
 obtain ⟨x7,g7,h⟩:=bnd h
 refine clR (avs:=[.nl,.d (.i .i64 z1)]) (Xf UW Yt (H8 g7)) Tryz.call125 (fun r' H' hp=>?_)
 obtain ⟨rfl,rfl⟩:=hp
 refine aso ?_;refine rk [0,2,6]<|.seq<|.sr<|kA zj<|kK (A8 (M6 _) (Wt _) U5)<|kA zj<|rk [2,6,25,26,27] ?_
 obtain ⟨K3,hK3,h⟩:=AX h
 refine AW.mr (σ:=(List Int)) (fun p=>K3 p=some r) (fun p=>[(2,.nl),(6,.own 3 (Is p))]) (fun p=>[]) ?_ ?_
 ·skip
  refine .block ?_
  refine .loop (.gk [2,6,25,26,27] ?_)
  refine AL.ind (σ:=Nat×(List Int)×Int) (m:=fun p=>p.1) (e:=fun p=>[(2,.nl),(6,.own 3 (Is p.2.1)),(25,.d (.sl (IsS a0))),(26,.d (.i .i64 ((List.length a0:Nat):Int))),(27,.d (.i .i64 p.2.2))]) (h:=fun p=>[]) (I:=fun p=>BA a0 K3 p.1 p.2.1 p.2.2=some r) ?_ (AJ,[],0) h
  rintro ⟨k,s9,s10⟩ h ih
  dsimp only at h ih ⊢
  rcases k with _|k
  ·rw [BA] at h;cases h
  rw [BA] at h
  refine .sr<|kB zj<|rk [2,6,25,26,27,28]<|.seq ?_
  rcases brc h with ⟨hc,h⟩|⟨hc,h⟩
  ·refine cnt (dT hc) ?_
   refine .sk ?_;refine .seq<|.block<|.sr ?_
   obtain ⟨x11,g11,h⟩:=bnd h
   obtain ⟨n11,p011,q11⟩:=Ar g11
   refine kK (vix n11 p011 (Wx q11) rfl VH)<|kK (Am Co)<|kR [2,6,8,25,26,27] zj<|.region<|mvo ?_;refine kA zj ?_
   obtain ⟨x12,g12,h⟩:=bnd h
   refine Wq Sg g12 U2 ?_ Pp Az Ga
   refine aso ?_;refine .nil ?_;refine aw<|.gk [2,6,25,26,27]<|.region<|kB zj<|kA zj<|.nil ?_;refine AL.gk [2,6,25,26,27] ?_
   exact ih (k,x12,(w64 (s10+1))) h (Nat.lt_succ_self _)
  refine cnf (dF hc) ?_;refine .gk [2,6]<|.exit ?_
  exact jr (s9) h
 rintro z8 h
 try dsimp only at h ⊢
 subst hK3
 refine aw<|.sr<|fz (p:=.t 6) ?_;refine kA zj<|kR [2] zj<|.ret ?_
 cases h
 exact ⟨rfl,rfl⟩
def Dp (a0:(List Int)) (K0:Int→Int→Bool→Bool→Option (Int×Int)) : Nat→Int→Int→Bool→Bool→Int→Option (Int×Int)
 | 0,_,_,_,_,_=>none
 | k+1,s5,s6,s7,s8,s9=>(if s9<((List.length a0:Nat):Int) then ((rd? a0 s9).bind fun x10=>(if x10<0 then (some (0,3)) else (Option.bind ((if s7=true then (some true) else ((rd? a0 s9).bind fun x12=>(some (decide (x12=0))))):Option (Bool)) fun (z11:Bool)=>(if s8=true then (Dp a0 K0 k s5 s6 z11 true (w64 (s9+1))) else ((rd? a0 s9).bind fun x13=>(Dp a0 K0 k s5 s6 z11 (decide (4096<x13)) (w64 (s9+1)))))))) else (K0 s5 s6 s7 s8))
def D5 (a0:(List Int)) (K2:Int→Int→Int→Option (Int×Int)) : Nat→Int→Int→Int→Int→Option (Int×Int)
 | 0,_,_,_,_=>none
 | k+1,s17,s18,s19,s20=>(if s20<((List.length a0:Nat):Int) then ((rd? a0 s20).bind fun x21=>(if 4096<(w64 (s19 * x21)) then (some (0,8)) else ((rd? a0 s20).bind fun x22=>(D5 a0 K2 k s17 s18 (w64 (s19 * x22)) (w64 (s20+1)))))) else (K2 s17 s18 s19))
def JN (a0:(List Int)) : Option (Int×Int):=(if 8<((List.length a0:Nat) : Int) then (some (0,4)) else (jn (fun (z1:Int) (z2:Int) (z3:Bool) (z4:Bool)=>(if z4=true then (some (0,8)) else (if z3=true then (some (0,0)) else (jn (fun (z14:Int) (z15:Int) (z16:Int)=>(some (z16,0))) fun K2=>(D5 a0 K2 AJ z1 z2 1 0))))) fun K0=>(Dp a0 K0 AJ 0 0 false false 0)))
theorem NS {a0:(List Int)} {r:Int×Int} (h:JN a0=some r) :
  Fn Tryz.prog 53 [.sl (Is a0)] (.tup [.d (.i .i64 r.1),.d (.i .i64 r.2)]):=by
 unfold JN at h
 refine Fn.of (rs:=[.tmp 2,.tmp 3]) (nt:=61) Tryz.func53 rfl rfl rfl (by simp) rfl ?_;refine .sr<|kD zj<|kR [0,2,3] zj<|.seq<|.sr<|kA zj<|kK (A8 (Az _) (CI _) Cu)<|kB zj<|rk [0,2,3,11] ?_
 rcases brc h with ⟨hc,h⟩|⟨hc,h⟩
 ·refine cnt (dT hc) ?_
  refine .sr<|kD zj<|kR [0,2,3] zj<|.ret ?_
  cases h
  exact ⟨by decide,rfl,rfl,rfl⟩
 refine cnf (dF hc) ?_;refine .sk ?_;refine .sr<|kD zj<|kR [0,2,3,4,5] zj<|.seq<|.sr<|kR [0,2,3,4,5,6] zj ?_
 obtain ⟨K0,hK0,h⟩:=AX h
 refine AW.mr (σ:=Int×Int×Bool×Bool) (fun p=>K0 p.1 p.2.1 p.2.2.1 p.2.2.2=some r) (fun p=>[(0,.d (.sl (Is a0))),(2,.d (.i .i64 p.1)),(3,.d (.i .i64 p.2.1)),(4,.d (.b p.2.2.1)),(5,.d (.b p.2.2.2))]) (fun p=>[]) ?_ ?_
 ·skip
  refine .block ?_
  refine .loop (.gk [0,2,3,4,5,6] ?_)
  refine AL.ind (σ:=Nat×Int×Int×Bool×Bool×Int) (m:=fun p=>p.1) (e:=fun p=>[(0,.d (.sl (Is a0))),(2,.d (.i .i64 p.2.1)),(3,.d (.i .i64 p.2.2.1)),(4,.d (.b p.2.2.2.1)),(5,.d (.b p.2.2.2.2.1)),(6,.d (.i .i64 p.2.2.2.2.2))]) (h:=fun p=>[]) (I:=fun p=>Dp a0 K0 p.1 p.2.1 p.2.2.1 p.2.2.2.1 p.2.2.2.2.1 p.2.2.2.2.2=some r) ?_ (AJ,0,0,false,false,0) h
  rintro ⟨k,s5,s6,s7,s8,s9⟩ h ih
  dsimp only at h ih ⊢
  rcases k with _|k
  ·rw [Dp] at h;cases h
  rw [Dp] at h
  refine .seq<|.sr<|kA zj<|kA zj<|kK (A8 (Az _) (CI _) Cu)<|kB zj<|rk [0,2,3,4,5,6,15] ?_
  rcases brc h with ⟨hc,h⟩|⟨hc,h⟩
  ·refine cnt (dT hc) ?_
   refine .sk ?_;refine .seq<|.block<|.seq<|.sr<|kA zj<|kA zj ?_
   obtain ⟨x10,g10,h⟩:=bnd h
   obtain ⟨n10,p010,q10⟩:=Ar g10
   refine kK (vix n10 p010 (Dj q10) rfl CF)<|kK (Am Bd)<|kB zj<|rk [0,2,3,4,5,6,22] ?_
   rcases brc h with ⟨hc,h⟩|⟨hc,h⟩
   ·refine cnt (dT hc) ?_
    refine .sr<|kD zj<|kR [0,2,3,4,5,6] zj<|.ret ?_
    cases h
    exact ⟨by decide,rfl,rfl,rfl⟩
   refine cnf (dF hc) ?_;refine .sk ?_;refine .seq ?_
   obtain ⟨z11,hz,h⟩:=bnd h
   refine AW.mr (σ:=Unit) (fun _=>True) (fun _=>[(0,.d (.sl (Is a0))),(2,.d (.i .i64 s5)),(3,.d (.i .i64 s6)),(4,.d (.b z11)),(5,.d (.b s8)),(6,.d (.i .i64 s9))]) (fun _=>[]) ?_ ?_
   ·skip
    refine .region<|kA zj ?_
    rcases brc hz with ⟨hc,hz⟩|⟨hc,hz⟩
    ·have hb0:s7=true:=hc
     refine kC zj hb0<|gf4 ?_;refine kG<|kK As<|kD zj<|RL.gk [0,2,3,4,5,6]<|.nil ?_
     cases hz
     exact jr () trivial
    have hb0:s7=false:=(bf hc)
    refine kC zj hb0<|kA zj<|kA zj ?_
    obtain ⟨x12,g12,hz⟩:=bnd hz
    obtain ⟨n12,p012,q12⟩:=Ar g12
    refine kK (vix n12 p012 (Dj q12) rfl CF)<|kK (Am Bd)<|kB zj<|kK As<|kD zj<|RL.gk [0,2,3,4,5,6]<|.nil ?_
    cases hz
    exact jr () trivial
   rintro _ _
   refine .region<|kA zj ?_
   rcases brc h with ⟨hc,h⟩|⟨hc,h⟩
   ·have hb0:s8=true:=hc
    refine kC zj hb0<|gf4 ?_;refine kG<|kK As<|kD zj<|.nil ?_;refine aw<|.gk [0,2,3,4,5,6]<|.region<|kA zj<|kB zj<|kD zj<|.nil ?_;refine AL.gk [0,2,3,4,5,6] ?_
    exact ih (k,s5,s6,z11,true,(w64 (s9+1))) h (Nat.lt_succ_self _)
   have hb0:s8=false:=(bf hc)
   refine kC zj hb0<|kA zj<|kA zj ?_
   obtain ⟨x13,g13,h⟩:=bnd h
   obtain ⟨n13,p013,q13⟩:=Ar g13
   refine kK (vix n13 p013 (Dj q13) rfl CF)<|kK (Am Bd)<|kB zj<|kK As<|kD zj<|.nil ?_;refine aw<|.gk [0,2,3,4,5,6]<|.region<|kA zj<|kB zj<|kD zj<|.nil ?_;refine AL.gk [0,2,3,4,5,6] ?_
   exact ih (k,s5,s6,z11,(decide (4096<x13)),(w64 (s9+1))) h (Nat.lt_succ_self _)
  refine cnf (dF hc) ?_;refine .gk [0,2,3,4,5]<|.exit ?_
  exact jr (s5,s6,s7,s8) h
 rintro ⟨z1,z2,z3,z4⟩ h
 try dsimp only at h ⊢
 subst hK0
 refine aw<|.seq<|.sr<|kA zj<|rk [0,2,3,4,39] ?_
 rcases brc h with ⟨hc,h⟩|⟨hc,h⟩
 ·refine cnt hc ?_
  refine .sr<|kD zj<|kR [0,2,3,4] zj<|.ret ?_
  cases h
  exact ⟨by decide,rfl,rfl,rfl⟩
 refine cnf (bf hc) ?_;refine .sk ?_;refine .seq<|.sr<|kA zj<|rk [0,2,3,40] ?_
 rcases brc h with ⟨hc,h⟩|⟨hc,h⟩
 ·refine cnt hc ?_
  refine .sr<|kD zj<|kR [0,2,3] zj<|.ret ?_
  cases h
  exact ⟨by decide,rfl,rfl,rfl⟩
 refine cnf (bf hc) ?_;refine .sk ?_;refine .sr<|kR [0,2,3,7] zj<|.seq<|.sr<|kR [0,2,3,7,8] zj ?_
 obtain ⟨K2,hK2,h⟩:=AX h
 refine AW.mr (σ:=Int×Int×Int) (fun p=>K2 p.1 p.2.1 p.2.2=some r) (fun p=>[(2,.d (.i .i64 p.1)),(3,.d (.i .i64 p.2.1)),(7,.d (.i .i64 p.2.2))]) (fun p=>[]) ?_ ?_
 ·skip
  refine .block ?_
  refine .loop (.gk [0,2,3,7,8] ?_)
  refine AL.ind (σ:=Nat×Int×Int×Int×Int) (m:=fun p=>p.1) (e:=fun p=>[(0,.d (.sl (Is a0))),(2,.d (.i .i64 p.2.1)),(3,.d (.i .i64 p.2.2.1)),(7,.d (.i .i64 p.2.2.2.1)),(8,.d (.i .i64 p.2.2.2.2))]) (h:=fun p=>[]) (I:=fun p=>D5 a0 K2 p.1 p.2.1 p.2.2.1 p.2.2.2.1 p.2.2.2.2=some r) ?_ (AJ,z1,z2,1,0) h
  rintro ⟨k,s17,s18,s19,s20⟩ h ih
  dsimp only at h ih ⊢
  rcases k with _|k
  ·rw [D5] at h;cases h
  rw [D5] at h
  refine .seq<|.sr<|kA zj<|kA zj<|kK (A8 (Az _) (CI _) Cu)<|kB zj<|rk [0,2,3,7,8,44] ?_
  rcases brc h with ⟨hc,h⟩|⟨hc,h⟩
  ·refine cnt (dT hc) ?_
   refine .sk ?_;refine .seq<|.block<|.seq<|.sr<|kA zj<|kA zj<|kA zj ?_
   obtain ⟨x21,g21,h⟩:=bnd h
   obtain ⟨n21,p021,q21⟩:=Ar g21
   refine kK (vix n21 p021 (Dj q21) rfl CF)<|kK (Am Bd)<|kB zj<|kB zj<|rk [0,2,3,7,8,53] ?_
   rcases brc h with ⟨hc,h⟩|⟨hc,h⟩
   ·refine cnt (dT hc) ?_
    refine .sr<|kD zj<|kR [0,2,3,7,8] zj<|.ret ?_
    cases h
    exact ⟨by decide,rfl,rfl,rfl⟩
   refine cnf (dF hc) ?_;refine .sk ?_;refine .region<|kA zj<|kA zj<|kA zj ?_
   obtain ⟨x22,g22,h⟩:=bnd h
   obtain ⟨n22,p022,q22⟩:=Ar g22
   refine kK (vix n22 p022 (Dj q22) rfl CF)<|kK (Am Bd)<|kB zj<|kD zj<|.nil ?_;refine aw<|.gk [0,2,3,7,8]<|.region<|kA zj<|kB zj<|kD zj<|.nil ?_;refine AL.gk [0,2,3,7,8] ?_
   exact ih (k,s17,s18,(w64 (s19 * x22)),(w64 (s20+1))) h (Nat.lt_succ_self _)
  refine cnf (dF hc) ?_;refine .gk [2,3,7]<|.exit ?_
  exact jr (s17,s18,s19) h
 rintro ⟨z14,z15,z16⟩ h
 try dsimp only at h ⊢
 subst hK2
 refine aw<|.sr<|kA zj<|kD zj<|kR [2,3] zj<|.ret ?_
 cases h
 exact ⟨by decide,rfl,rfl,rfl⟩
theorem Lm {l:List Arr} (hl:l.length≤17592186044416) (ho:∀ a∈l,okAr a) : DQ (1,(false,[],[]),0) l=some (!l.any fun a=>!decide (Bu a)):=by
 have hc:=NU (xs:=l) (f:=(⟨.fn 78 [] [],fun x=>Dh x⟩:BS)) (p:=fun a=>!decide (Bu a)) (fun a ha=>by
  show Dh a=_
  unfold Dh;rw [IG (ho a ha)];rfl) hl
 unfold DQ
 rw [if_neg (show ¬((1:Int)=0) by decide),if_pos rfl,hc];rfl
theorem TS {a:Arr} (oa:okAr a) (ra:Bu a) : DQ (1,(false,[],[]),0) [a]=some true:=by
 rw [Lm (by simp) (by simpa using oa)];simp [ra]
theorem OB {a b:Arr} (oa:okAr a) (ra:Bu a) (ob:okAr b) (rb:Bu b) : DQ (1,(false,[],[]),0) [a,b]=some true:=by
 rw [Lm (by simp) (by simp [oa,ob])];simp [ra,rb]
theorem QN {js:List Int} (h0:js≠[]) (hl:js.length≤4096) : ZP js=vec (js.map Da):=by
 have:js.length≠0:=by simpa using h0
 unfold ZP M5 vec
 rw [List.length_map,Nat.min_eq_left hl,if_neg this,List.take_of_length_le (by simpa using hl)]
end Go.FL
namespace Go.FL
open Go
structure Ord3 {α:Type} (c:α→α→Int) : Prop where
 asym:∀ x y,c x y<0→¬c y x<0
 trans:∀ x y z,¬c y x<0→¬c z y<0→¬c z x<0
section
variable {α:Type} {c:α→α→Int}
end
end Go.FL
namespace Go.FL
open Go
structure Cmp3 {α:Type} (f:α→α→Int) : Prop where
 vals:∀ x y,f x y=-1∨f x y=0∨f x y=1
 anti:∀ x y,f y x=- f x y
 trans:∀ x y z,f x y≤0→f y z≤0→f x z≤0
end Go.FL
namespace Go.FL
open Go Go.Proofs
def Ek (x4:Arr) (K0:ByteArray→Option (ByteArray)) : Nat→ByteArray→Int→Option (ByteArray)
 | 0,_,_=>none
 | k+1,s6,s7=>(if s7<((List.length x4.shape:Nat):Int) then ((rd? x4.shape s7).bind fun x8=>((DJ x8).bind fun x9=>((Et x9).bind fun x10=>((FP x10 (⟨#[32]⟩:ByteArray)).bind fun x11=>((FP s6 x11).bind fun x12=>(Ek x4 K0 k x12 (w64 (s7+1)))))))) else (K0 s6))
def DM (rc_pick_key:Itm→Option (ByteArray)) (x14:Arr) (K2:ByteArray→Option (ByteArray)) : Nat→ByteArray→Int→Option (ByteArray)
 | 0,_,_=>none
 | k+1,s16,s17=>(if s17<((List.length x14.items:Nat):Int) then ((rd? x14.items s17).bind fun x18=>((rc_pick_key x18).bind fun x19=>((FP s16 x19).bind fun x20=>(DM rc_pick_key x14 K2 k x20 (w64 (s17+1)))))) else (K2 s16))
def J9 (rc_pick_key:Itm→Option (ByteArray)) (a0:Itm) : Option (ByteArray):=(if a0.kind=1 then ((Et a0.num).bind fun x1=>((FP x1 (⟨#[59]⟩ : ByteArray)).bind fun x2=>(some (x2)))) else (if a0.kind=2 then ((FP (⟨#[39]⟩ : ByteArray) (Utf8.encode a0.char)).bind fun x3=>(some (x3))) else ((rd? a0.box 0).bind fun x4=>(jn (fun (z5:ByteArray)=>((FP z5 (⟨#[58]⟩ : ByteArray)).bind fun x13=>((rd? a0.box 0).bind fun x14=>(jn (fun (z15:ByteArray)=>((FP z15 (⟨#[41]⟩ : ByteArray)).bind fun x21=>(some (x21)))) fun K2=>(DM rc_pick_key x14 K2 AJ x13 0))))) fun K0=>(Ek x4 K0 AJ (⟨#[40]⟩ : ByteArray) 0)))))
theorem Sx {rc_pick_key:Itm→Option (ByteArray)} (orc_pick_key:∀ x0 r,rc_pick_key x0=some r→Fn Tryz.prog 102 [.ag [.i .u8 x0.kind,.b x0.num.1,.sl (L x0.num.2.1),.sl (L x0.num.2.2),.i .i32 x0.char,.sl (Ars x0.box)]] (.d (.s r))) {a0:Itm} {r:ByteArray} (h:J9 rc_pick_key a0=some r) :
  Fn Tryz.prog 102 [.ag [.i .u8 a0.kind,.b a0.num.1,.sl (L a0.num.2.1),.sl (L a0.num.2.2),.i .i32 a0.char,.sl (Ars a0.box)]] (.d (.s r)):=by
 unfold J9 at h
 refine Fn.o1 2 58 Tryz.func102 ?_;refine .sr<|kK vbx<|kR [1,2] zj<|.seq<|.sr<|kK (vfa Cz)<|kK (Am Bm)<|rk [1,2,9]<|.block<|.sr<|kB zj<|kR [1,2,9,10] zj ?_
 rcases brc h with ⟨hc,h⟩|⟨hc,h⟩
 ·refine cnt (dT hc) ?_
  refine .sr<|kK (vfa BY)<|kK (Au A1 AD) ?_
  obtain ⟨x1,g1,h⟩:=bnd h
  refine vk (Al (Ks g1) Tryz.call154) ?_
  obtain ⟨x2,g2,h⟩:=bnd h
  refine kK (vsa g2)<|kR [1,2] zj<|.ret ?_
  cases h
  exact ⟨rfl,rfl⟩
 refine cnf (dF hc) ?_;refine .sr<|kB zj<|kR [1,2,16] zj ?_
 rcases brc h with ⟨hc,h⟩|⟨hc,h⟩
 ·refine cnt (dT hc) ?_
  refine .sr<|kK (vfa DE)<|kK (Am DF)<|kK (Acb (by rw [QK];rfl) st) ?_
  obtain ⟨x3,g3,h⟩:=bnd h
  refine kK (vsa g3)<|kR [1,2] zj<|.ret ?_
  cases h
  exact ⟨rfl,rfl⟩
 refine cnf (dF hc) ?_;refine .sk ?_;refine .sr<|kR [1,2,3] zj<|.seq<|.sr<|kK (vfa Bs)<|kK (Am CM) ?_
 obtain ⟨x4,g4,h⟩:=bnd h
 obtain ⟨n4,p04,q4⟩:=Ar g4
 refine kK (vix n4 p04 (Ei q4) rfl El)<|kK (vfa AZ)<|kK (Am Co)<|kK (A8 (Az _) (CI _) Cu)<|kA zj<|rk [1,2,3,26,27,28] ?_
 obtain ⟨K0,hK0,h⟩:=AX h
 refine AW.mr (σ:=ByteArray) (fun p=>K0 p=some r) (fun p=>[(1,.d (.ptr [.i .u8 a0.kind,.b a0.num.1,.sl (L a0.num.2.1),.sl (L a0.num.2.2),.i .i32 a0.char,.sl (Ars a0.box)])),(2,.d (.s (⟨#[]⟩:ByteArray))),(3,.d (.s p))]) (fun p=>[]) ?_ ?_
 ·skip
  refine .block ?_
  refine .loop (.gk [1,2,3,26,27,28] ?_)
  refine AL.ind (σ:=Nat×ByteArray×Int) (m:=fun p=>p.1) (e:=fun p=>[(1,.d (.ptr [.i .u8 a0.kind,.b a0.num.1,.sl (L a0.num.2.1),.sl (L a0.num.2.2),.i .i32 a0.char,.sl (Ars a0.box)])),(2,.d (.s (⟨#[]⟩:ByteArray))),(3,.d (.s p.2.1)),(26,.d (.sl (Is x4.shape))),(27,.d (.i .i64 ((List.length x4.shape:Nat):Int))),(28,.d (.i .i64 p.2.2))]) (h:=fun p=>[]) (I:=fun p=>Ek x4 K0 p.1 p.2.1 p.2.2=some r) ?_ (AJ,(⟨#[40]⟩:ByteArray),0) h
  rintro ⟨k,s6,s7⟩ h ih
  dsimp only at h ih ⊢
  rcases k with _|k
  ·rw [Ek] at h;cases h
  rw [Ek] at h
  refine .sr<|kB zj<|rk [1,2,3,26,27,28,29]<|.seq ?_
  rcases brc h with ⟨hc,h⟩|⟨hc,h⟩
  ·refine cnt (dT hc) ?_
   refine .sk ?_;refine .seq<|.block<|.sr ?_
   obtain ⟨x8,g8,h⟩:=bnd h
   obtain ⟨n8,p08,q8⟩:=Ar g8
   refine kK (vix n8 p08 (Dj q8) rfl CF)<|kK (Am Bd)<|kR [1,2,3,5,26,27,28] zj<|.region<|kA zj<|kA zj ?_
   obtain ⟨x9,g9,h⟩:=bnd h
   refine vk (Al (DR g9) Tryz.call69) ?_
   obtain ⟨x10,g10,h⟩:=bnd h
   refine vk (Al (Ks g10) Tryz.call154) ?_
   obtain ⟨x11,g11,h⟩:=bnd h
   refine vk (vsa g11) ?_
   obtain ⟨x12,g12,h⟩:=bnd h
   refine kK (vsa g12)<|kD zj<|.nil ?_;refine aw<|.gk [1,2,3,26,27,28]<|.region<|kB zj<|kA zj<|.nil ?_;refine AL.gk [1,2,3,26,27,28] ?_
   exact ih (k,x12,(w64 (s7+1))) h (Nat.lt_succ_self _)
  refine cnf (dF hc) ?_;refine .gk [1,2,3]<|.exit ?_
  exact jr (s6) h
 rintro z5 h
 try dsimp only at h ⊢
 subst hK0
 refine aw<|.sr<|kA zj ?_
 obtain ⟨x13,g13,h⟩:=bnd h
 refine kK (vsa g13)<|kR [1,2,3] zj<|.seq<|.sr<|kK (vfa Bs)<|kK (Am CM) ?_
 obtain ⟨x14,g14,h⟩:=bnd h
 obtain ⟨n14,p014,q14⟩:=Ar g14
 refine kK (vix n14 p014 (Ei q14) rfl El)<|kK (vfa AP)<|kK (Am BG)<|kK (A8 (Af _) (BD _) Bh)<|kA zj<|rk [2,3,45,46,47] ?_
 obtain ⟨K2,hK2,h⟩:=AX h
 refine AW.mr (σ:=ByteArray) (fun p=>K2 p=some r) (fun p=>[(2,.d (.s (⟨#[]⟩:ByteArray))),(3,.d (.s p))]) (fun p=>[]) ?_ ?_
 ·skip
  refine .block ?_
  refine .loop (.gk [2,3,45,46,47] ?_)
  refine AL.ind (σ:=Nat×ByteArray×Int) (m:=fun p=>p.1) (e:=fun p=>[(2,.d (.s (⟨#[]⟩:ByteArray))),(3,.d (.s p.2.1)),(45,.d (.sl (Its x14.items))),(46,.d (.i .i64 ((List.length x14.items:Nat):Int))),(47,.d (.i .i64 p.2.2))]) (h:=fun p=>[]) (I:=fun p=>DM rc_pick_key x14 K2 p.1 p.2.1 p.2.2=some r) ?_ (AJ,x13,0) h
  rintro ⟨k,s16,s17⟩ h ih
  dsimp only at h ih ⊢
  rcases k with _|k
  ·rw [DM] at h;cases h
  rw [DM] at h
  refine .sr<|kB zj<|rk [2,3,45,46,47,48]<|.seq ?_
  rcases brc h with ⟨hc,h⟩|⟨hc,h⟩
  ·refine cnt (dT hc) ?_
   refine .sk ?_;refine .seq<|.block<|.sr ?_
   obtain ⟨x18,g18,h⟩:=bnd h
   obtain ⟨n18,p018,q18⟩:=Ar g18
   refine kK (vix n18 p018 (BI q18) rfl Bp)<|kK (Au AF An)<|kK (van (Ai BL) BQ) ?_
   refine stn ?_ An (by decide)
   refine rk [2,3,7,45,46,47]<|.region<|kA zj<|kK (CR AF An) ?_
   obtain ⟨x19,g19,h⟩:=bnd h
   refine vk (Al (orc_pick_key _ _ g19) Tryz.call102) ?_
   obtain ⟨x20,g20,h⟩:=bnd h
   refine kK (vsa g20)<|kD zj<|.nil ?_;refine aw<|.gk [2,3,45,46,47]<|.region<|kB zj<|kA zj<|.nil ?_;refine AL.gk [2,3,45,46,47] ?_
   exact ih (k,x20,(w64 (s17+1))) h (Nat.lt_succ_self _)
  refine cnf (dF hc) ?_;refine .gk [2,3]<|.exit ?_
  exact jr (s16) h
 rintro z15 h
 try dsimp only at h ⊢
 subst hK2
 refine aw<|.sr<|kA zj ?_
 obtain ⟨x21,g21,h⟩:=bnd h
 refine kK (vsa g21)<|kR [2] zj<|.ret ?_
 cases h
 exact ⟨rfl,rfl⟩
def Fm : Nat→Itm→Option (ByteArray)
 | 0,_=>none
 | k+1,a0=>J9 (Fm k) a0
theorem Lp : ∀ (k:Nat) (a0:Itm) (r:ByteArray),Fm k a0=some r→Fn Tryz.prog 102 [.ag [.i .u8 a0.kind,.b a0.num.1,.sl (L a0.num.2.1),.sl (L a0.num.2.2),.i .i32 a0.char,.sl (Ars a0.box)]] (.d (.s r))
 | 0,_,_,h=>by cases h
 | k+1,a0,_,h=>Sx (Lp k)  (show J9 (Fm k) a0=some _ from h)
def Pb (a0:Itm) : Option (ByteArray):=Fm (a0.size+1) a0
theorem OQ {a0:Itm} {r:ByteArray} (h:Pb a0=some r) : Fn Tryz.prog 102 [.ag [.i .u8 a0.kind,.b a0.num.1,.sl (L a0.num.2.1),.sl (L a0.num.2.2),.i .i32 a0.char,.sl (Ars a0.box)]] (.d (.s r)):=Lp _ a0 r  h
theorem Qf {a c:RT} (h1:a.2.1.length≤35184372087808) (h2:a.2.2.length≤35184372087808) : Ha a c=some (decide (a=c)):=if_pos (by rw [dT h1,dT h2];rfl)
theorem NC {a:RT} (ha:Ir a=true) : Ha a a=some true:=by
 obtain ⟨_,_,h1,h2⟩:=IA.1 ha
 rw [Qf h1 h2];simp
def VL (p:Rat) : Rat:=if p<0 then -p else p
def Ab6 (p q:Rat) : Rat:=if VL p<VL q then VL q else VL p
def Z3 (c p q:Rat) : Prop:=VL (p-q)≤c * Ab6 p q
instance (c p q:Rat) : Decidable (Z3 c p q):=inferInstanceAs (Decidable (_≤_))
theorem SN {m n:Nat} (hm:(Ah m).length≤1048576) (hn:(Ah n).length≤1048576) : E9 (Ah m) (Ah n)=some (decide (m=n)):=by
 rw [OE (H7 hm) (H7 (by omega))]
 congr 1
 exact decide_eq_decide.2 ⟨VT,fun h=>by rw [h]⟩
theorem Oh {n:Nat} (h:(Ah n).length≤1048576) : IC (Ah n)=some (Cs (Ie n)):=by
 unfold IC;rw [if_pos (H7 h),AN]
def SE (p:Rat) : List Nat:=(if p.num<0 then [194,175] else [])++(Ie p.num.natAbs++(if p.den=1 then [] else 114::Ie p.den))
theorem Pw {a b:List Nat} (h:a.length+b.length≤100000) : FP (Cs a) (Cs b)=some (Cs (a++b)):=by
 unfold FP
 rw [if_pos,Lv]
 have h1:∀ l:List Nat,(Cs l).size=l.length:=fun l=>by simp [Cs,ByteArray.size]
 rw [h1,h1];exact nT h (by decide)
theorem WR {n:Nat} (h:Jj n) : n<4294967296 ^ 32:=by
 have:=Ci (Bg n)
 rw [AN] at this
 exact nL this (Nat.pow_le_pow_right (by decide) h)
set_option exponentiation.threshold 2000 in
theorem IW {n:Nat} (h:Jj n) : (Ie n).length≤310:=WG (k:=309) (Nat.lt_trans (WR h) (by decide))
theorem TF {p:Rat} (hp:KC p) : Et (ofQ p)=some (Cs (SE p)):=by
 unfold Et
 have l1:=IW hp.1
 have l2:=IW hp.2
 have e1:IC (ofQ p).2.1=some (Cs (Ie p.num.natAbs)):=Oh (nT hp.1 (by decide))
 have e2:IC (ofQ p).2.2=some (Cs (Ie p.den)):=Oh (nT hp.2 (by decide))
 have e3:E9 (ofQ p).2.2 [1]=some (decide (p.den=1)):=by rw [← Ii];exact SN (nT hp.2 (by decide)) (by rw [Ii];decide)
 have s1:FP (⟨#[194,175]⟩:ByteArray) (Cs (Ie p.num.natAbs))=some (Cs ([194,175]++Ie p.num.natAbs)):=Pw (a:=[194,175]) (by simp;omega)
 have s2:FP (⟨#[114]⟩:ByteArray) (Cs (Ie p.den))=some (Cs ([114]++Ie p.den)):=Pw (a:=[114]) (by simp;omega)
 rw [II (G0 hp),Ja hp,oB,if_pos rfl,e1,oB,Ou]
 show (if decide (p.num<0)=true then _ else _)=_
 unfold SE
 by_cases hs:p.num<0
 ·rw [if_pos (dT hs),s1,oB,oB,e3,oB,if_pos hs]
  by_cases hd:p.den=1
  ·rw [if_pos (dT hd),if_pos hd,List.append_nil]
  ·rw [if_neg (by simpa using hd),e2,oB,s2,oB,Pw (by simp;omega),oB,if_neg hd,List.append_assoc];rfl
 ·rw [if_neg (by simpa using hs),oB,e3,oB,if_neg hs,List.nil_append]
  by_cases hd:p.den=1
  ·rw [if_pos (dT hd),if_pos hd,List.append_nil]
  ·rw [if_neg (by simpa using hd),e2,oB,s2,oB,Pw (by simp;omega),oB,if_neg hd];rfl
end Go.FL
namespace Go.FL
open Go
theorem Uz {c:Nat} (h:c<128) : Bi (Utf8.encode (c:Int))=[c]:=by
 have hv:Utf8.valid (c:Int)=true:=by simp [Utf8.valid];omega
 unfold Utf8.encode
 rw [if_pos hv,Int.toNat_natCast]
 simp only
 rw [if_pos h]
 show [(UInt8.ofNat c).toNat]=[c]
 rw [UInt8.toNat_ofNat',Nat.mod_eq_of_lt (by omega)]
theorem Uv {r:Int} (h:128≤r) : Bi (Utf8.encode r)≠[]∧(Bi (Utf8.encode r)).length≤4∧∀ x∈Bi (Utf8.encode r),128≤x:=by
 have key:∀ c:Nat,128≤c→c≤1114111 →
   Bi (if c<128 then (⟨#[UInt8.ofNat c]⟩:ByteArray) else if c<2048 then ⟨#[UInt8.ofNat (192+c / 64),UInt8.ofNat (128+c % 64)]⟩ else if c<65536 then ⟨#[UInt8.ofNat (224+c / 4096),UInt8.ofNat (128+c / 64 % 64),UInt8.ofNat (128+c % 64)]⟩ else ⟨#[UInt8.ofNat (240+c / 262144),UInt8.ofNat (128+c / 4096 % 64),UInt8.ofNat (128+c / 64 % 64),UInt8.ofNat (128+c % 64)]⟩)≠[] ∧
   (Bi (if c<128 then (⟨#[UInt8.ofNat c]⟩:ByteArray) else if c<2048 then ⟨#[UInt8.ofNat (192+c / 64),UInt8.ofNat (128+c % 64)]⟩ else if c<65536 then ⟨#[UInt8.ofNat (224+c / 4096),UInt8.ofNat (128+c / 64 % 64),UInt8.ofNat (128+c % 64)]⟩ else ⟨#[UInt8.ofNat (240+c / 262144),UInt8.ofNat (128+c / 4096 % 64),UInt8.ofNat (128+c / 64 % 64),UInt8.ofNat (128+c % 64)]⟩)).length≤4 ∧
   ∀ x∈Bi (if c<128 then (⟨#[UInt8.ofNat c]⟩:ByteArray) else if c<2048 then ⟨#[UInt8.ofNat (192+c / 64),UInt8.ofNat (128+c % 64)]⟩ else if c<65536 then ⟨#[UInt8.ofNat (224+c / 4096),UInt8.ofNat (128+c / 64 % 64),UInt8.ofNat (128+c % 64)]⟩ else ⟨#[UInt8.ofNat (240+c / 262144),UInt8.ofNat (128+c / 4096 % 64),UInt8.ofNat (128+c / 64 % 64),UInt8.ofNat (128+c % 64)]⟩),128≤x:=by
  intro c h1 h2
  rw [if_neg (show ¬c<128 by omega)]
  split
  ·simp [Bi,UInt8.toNat_ofNat'];omega
  ·split
   ·simp [Bi,UInt8.toNat_ofNat'];omega
   ·simp [Bi,UInt8.toNat_ofNat'];omega
 unfold Utf8.encode
 by_cases hv:Utf8.valid r=true
 ·rw [if_pos hv]
  simp [Utf8.valid] at hv
  exact key r.toNat (by omega) (by omega)
 ·rw [if_neg hv]
  exact key 65533 (by decide) (by decide)
end Go.FL
namespace Go.FL
open Go Go.Proofs
def txN (r:RT) : List Nat:=Bi ((Et r).getD ⟨#[]⟩)
def txS : List Int→List Nat
 | []=>[]
 | z::s=>txN (ofQ (z:Rat))++[32]++txS s
mutual
def kyI : Itm→List Nat
 | .mk k n c b=>if k=1 then txN n++[59] else if k=2 then 39::Bi (Utf8.encode c) else kyB b
def kyB : List Arr→List Nat
 | []=>[]
 | a::_=>kyA a
def kyA : Arr→List Nat
 | .mk s i=>[40]++txS s++[58]++kyIs i++[41]
def kyIs : List Itm→List Nat
 | []=>[]
 | x::xs=>kyI x++kyIs xs
end
theorem SP (x:Itm) : kyI x=if x.kind=1 then txN x.num++[59] else if x.kind=2 then 39::Bi (Utf8.encode x.char) else kyB x.box:=by cases x;simp only [kyI];rfl
theorem St (a:Arr) : kyA a=[40]++txS a.shape++[58]++kyIs a.items++[41]:=by cases a;simp only [kyA];rfl
theorem UR (s:ByteArray) : Cs (Bi s)=s:=by
 apply ByteArray.ext
 apply Array.ext'
 simp only [Cs,Bi,List.map_map]
 rw [show (UInt8.ofNat ∘ UInt8.toNat)=id from funext fun x=>by simp]
 simp
theorem R7 {a b:List Nat} (h:a.length+b.length≤1000000000) : FP (Cs a) (Cs b)=some (Cs (a++b)):=by
 unfold FP
 rw [if_pos,Lv]
 rw [OF,OF];exact nT h (by decide)
theorem V7 {p:Rat} (hp:KC p) : (SE p).length≤630:=by
 have l1:=IW hp.1
 have l2:=IW hp.2
 unfold SE
 split<;>split<;>simp<;>omega
theorem XZ {p:Rat} : ∀ x∈SE p,x<256:=by
 intro x hx
 unfold SE at hx
 simp only [List.mem_append] at hx
 rcases hx with hx|hx|hx
 ·split at hx
  ·simp at hx;rcases hx with rfl|rfl<;>decide
  ·cases hx
 ·exact Qw _ x hx
 ·split at hx
  ·cases hx
  ·rcases List.mem_cons.1 hx with rfl|hx
   ·decide
   ·exact Qw _ x hx
theorem YG {p:Rat} (hp:KC p) : txN (ofQ p)=SE p:=by
 unfold txN
 rw [TF hp]
 exact Ul XZ
theorem Ty {p:Rat} (hp:KC p) : Et (ofQ p)=some (Cs (txN (ofQ p))):=by rw [YG hp,TF hp]
theorem Me {p:Rat} (hp:KC p) : (txN (ofQ p)).length≤630:=by rw [YG hp];exact V7 hp
theorem Ma : ∀ {s:List Int},(∀ z∈s,Hw z)→(txS s).length≤631 * s.length
 | [],_=>Nat.zero_le _
 | z::s,h=>by
  have h1:=Me (EV (h z (by simp)))
  have h2:=Ma (s:=s) fun z hz=>h z (by simp [hz])
  simp only [txS,List.length_append,List.length_cons,List.length_nil]
  omega
theorem Tk {c:Int} (h0:0≤c) : (Bi (Utf8.encode c)).length≤4:=by
 by_cases h:c<128
 ·obtain ⟨n,rfl⟩:∃ n:Nat,c=(n:Int):=⟨c.toNat,by omega⟩
  rw [Uz (by omega)];simp
 ·exact (Uv (by omega)).2.1
theorem RI {s:List Int} (h:(szP s).2=0) : (∀ z∈s,Hw z)∧s.length≤8:=by
 have:=QD h
 exact ⟨fun z hz=>by have:=this.1 z hz;exact ⟨by omega,by omega⟩,this.2⟩
theorem QB {a:Arr} (h:rA a=true) : (szP a.shape).2=0∧∀ x∈a.items,rI x=true:=by
 have h2:=h
 rw [IM] at h2
 simp only [Bool.and_eq_true,decide_eq_true_eq] at h2
 exact ⟨h2.1,EI.1 h2.2.2⟩
theorem S5 : ∀ (k:Nat) {x:Itm},x.size<k→rI x=true→(kyI x).length≤6000 * (1+cI x)
 | 0,x,h,_=>by omega
 | k+1,x,h,hr=>by
  rw [SP]
  rcases IH hr with ⟨kx,qx,_,_⟩|⟨kx,cx,_,_⟩|⟨kx,_,_,a,hb,hs,ha⟩
  ·obtain ⟨p,fp,ep⟩:=KE.1 qx
   rw [if_pos kx,ep]
   have:=Me fp
   simp only [List.length_append,List.length_cons,List.length_nil]
   omega
  ·rw [if_neg (by omega),if_pos kx]
   have h0:0≤x.char:=by simp [chB] at cx;omega
   have:=Tk h0
   simp only [List.length_cons]
   omega
  ·rw [if_neg (by omega),if_neg (by omega),hb,kyB,St,Ov,hb,cBs,cBs,Nat.add_zero,HR]
   obtain ⟨h1,h2⟩:=QB ha
   obtain ⟨h3,h4⟩:=RI h1
   have h5:=Ma h3
   have items:∀ (l:List Itm),(∀ y∈l,y∈a.items)→(kyIs l).length≤6000 * (l.length+cIs l):=by
    intro l
    induction l with
    | nil=>intro _;simp [kyIs]
    | cons y l ih =>
     intro hl
     have hy:=hl y (by simp)
     have s1:=Hq hy
     have s2:=Gn (x:=x) (a:=a) (by rw [hb];simp)
     have e1:=S5 k (x:=y) (by omega) (h2 y hy)
     have e2:=ih fun z hz=>hl z (by simp [hz])
     rw [kyIs,cIs,List.length_append,List.length_cons]
     omega
   have h6:=items a.items fun _ h=>h
   simp only [List.length_append,List.length_cons,List.length_nil]
   omega
theorem Ow {l:List Itm} {i:Nat} (h:i<l.length) : kyIs (l.take (i+1))=kyIs (l.take i)++kyI l[i]:=by
 have app:∀ (u v:List Itm),kyIs (u++v)=kyIs u++kyIs v:=by
  intro u v
  induction u with
  | nil=>simp [kyIs]
  | cons x u ih=>simp [kyIs,ih]
 rw [List.take_add_one,lG h,Option.toList_some,app]
 simp [kyIs]
theorem Wb {l:List Int} {i:Nat} (h:i<l.length) : txS (l.take (i+1))=txS (l.take i)++(txN (ofQ ((l[i] : Int) : Rat))++[32]):=by
 have app:∀ (u v:List Int),txS (u++v)=txS u++txS v:=by
  intro u v
  induction u with
  | nil=>simp [txS]
  | cons x u ih=>simp [txS,ih]
 rw [List.take_add_one,lG h,Option.toList_some,app]
 simp [txS]
theorem Yn {l:List Int} {i:Nat} : (txS (l.take i)).length≤(txS l).length:=by
 have app:∀ (u v:List Int),txS (u++v)=txS u++txS v:=by
  intro u v
  induction u with
  | nil=>simp [txS]
  | cons x u ih=>simp [txS,ih]
 conv=>rhs;rw [← List.take_append_drop i l,app,List.length_append]
 omega
theorem Vb {l:List Itm} {i:Nat} : (kyIs (l.take i)).length≤(kyIs l).length:=by
 have app:∀ (u v:List Itm),kyIs (u++v)=kyIs u++kyIs v:=by
  intro u v
  induction u with
  | nil=>simp [kyIs]
  | cons x u ih=>simp [kyIs,ih]
 conv=>rhs;rw [← List.take_append_drop i l,app,List.length_append]
 omega
theorem Wk {a:Arr} (h64:∀ z∈a.shape,Hw z) (h8:a.shape.length≤8) (K:ByteArray→Option ByteArray) : ∀ (n i k:Nat),n=a.shape.length-i→i≤a.shape.length→n<k →
  Ek a K k (Cs ([40]++txS (a.shape.take i))) (i:Int)=K (Cs ([40]++txS a.shape))
 | n,i,0,_,_,h=>by omega
 | n,i,k+1,hn,hi,hk=>by
  rw [Ek]
  have hS:=Ma h64
  by_cases hlt:i<a.shape.length
  ·have hz:=h64 _ (List.getElem_mem hlt)
   have hf:=EV hz
   have hl:=Me hf
   have hp:=Yn (l:=a.shape) (i:=i)
   rw [if_pos (by omega),CC hlt,oB,PA hz.1 (by have:=hz.2;omega),oB,Ty hf,oB,show (⟨#[32]⟩:ByteArray)=Cs [32] from rfl,R7 (by simp;omega),oB,R7 (by simp;omega),oB,CU (by omega),List.append_assoc,← Wb hlt]
   exact Wk h64 h8 K (n-1) (i+1) k (by omega) (by omega) (by omega)
  ·rw [if_neg (by omega),List.take_of_length_le (by omega)]
theorem WW {rc:Itm→Option ByteArray} {a:Arr} (pre:List Nat) (hpre:pre.length≤10000) (hrc:∀ x∈a.items,rc x=some (Cs (kyI x))) (hlen:(kyIs a.items).length≤200000000) (hl:a.items.length≤17592186044416) (K:ByteArray→Option ByteArray) : ∀ (n i k:Nat),n=a.items.length-i→i≤a.items.length→n<k →
  DM rc a K k (Cs (pre++kyIs (a.items.take i))) (i:Int)=K (Cs (pre++kyIs a.items))
 | n,i,0,_,_,h=>by omega
 | n,i,k+1,hn,hi,hk=>by
  rw [DM]
  by_cases hlt:i<a.items.length
  ·have hp:=Vb (l:=a.items) (i:=i+1)
   have e:=congrArg List.length (Ow hlt)
   rw [List.length_append] at e
   rw [if_pos (by omega),CC hlt,oB,hrc _ (List.getElem_mem hlt),oB,R7 (by simp;omega),oB,CU (by omega),List.append_assoc,← Ow hlt]
   exact WW pre hpre hrc hlen hl K (n-1) (i+1) k (by omega) (by omega) (by omega)
  ·rw [if_neg (by omega),List.take_of_length_le (by omega)]
theorem YE : ∀ (k:Nat) {x:Itm},x.size<k→okI x→BN x→Fm k x=some (Cs (kyI x))
 | 0,x,h,_,_=>by omega
 | k+1,x,h,ox,rx=>by
  rw [Fm]
  unfold J9
  rw [SP]
  rcases IH rx.1 with ⟨kx,qx,_,_⟩|⟨kx,cx,_,_⟩|⟨kx,_,_,a,hb,hs,hr⟩
  ·obtain ⟨p,fp,ep⟩:=KE.1 qx
   rw [if_pos kx,if_pos kx,ep,Ty fp,oB,show (⟨#[59]⟩:ByteArray)=Cs [59] from rfl,R7 (by have:=Me fp;simp;omega)];rfl
  ·have h0:0≤x.char:=by simp [chB] at cx;omega
   have:=Tk h0
   rw [if_neg (by omega),if_pos kx,if_neg (by omega),if_pos kx,show (⟨#[39]⟩:ByteArray)=Cs [39] from rfl]
   conv=>lhs;rw [← UR (Utf8.encode x.char)]
   rw [R7 (by simp;omega)];rfl
  ·have ma:a∈x.box:=by rw [hb];simp
   obtain ⟨oa,ra,hc,_⟩:=N7 ox rx a ma
   have oa':=(BZ a).1 oa
   obtain ⟨h1,h2⟩:=QB hr
   obtain ⟨h3,h4⟩:=RI h1
   have h5:=Ma h3
   have hrc:∀ y∈a.items,Fm k y=some (Cs (kyI y)):=fun y hy=>by
    have s1:=Hq hy
    have s2:=Gn ma
    have u2:=Gz oa ra hy
    exact YE k (by omega) u2.1 u2.2
   have hlen:=S5 _ (Nat.lt_succ_self _) rx.1
   have hcells:=rx.2.2
   rw [SP,if_neg (by omega),if_neg (by omega),hb,kyB,St] at hlen
   simp only [List.length_append,List.length_cons,List.length_nil] at hlen
   rw [if_neg (by omega),if_neg (by omega),if_neg (by omega),if_neg (by omega),hb,show rd? [a] 0=some a from rfl,oB,C9]
   have e1:=Wk h3 h4 (fun z5=>(FP z5 (⟨#[58]⟩:ByteArray)).bind fun x13=>(some a).bind fun x14=>(jn (fun (z15:ByteArray)=>((FP z15 (⟨#[41]⟩:ByteArray)).bind fun x21=>(some (x21)))) fun K2=>(DM (Fm k) x14 K2 AJ x13 0))) a.shape.length 0 AJ rfl (Nat.zero_le _) (CL (by omega))
   rw [List.take_zero,show txS []=[] from rfl,List.append_nil] at e1
   refine e1.trans ?_
   rw [show (⟨#[58]⟩:ByteArray)=Cs [58] from rfl,R7 (by simp;omega),oB,oB,C9]
   have e3:=WW ([40]++txS a.shape++[58]) (by simp;omega) hrc (by omega) (by omega) (fun z15=>(FP z15 (⟨#[41]⟩:ByteArray)).bind fun x21=>some x21) a.items.length 0 AJ rfl (Nat.zero_le _) (CL (by omega))
   rw [List.take_zero,show kyIs []=[] by simp [kyIs],List.append_nil] at e3
   refine e3.trans ?_
   rw [show (⟨#[41]⟩:ByteArray)=Cs [41] from rfl,R7 (by simp;omega),oB,kyB,St]
theorem Wn {x:Itm} (ox:okI x) (rx:BN x) : Pb x=some (Cs (kyI x)):=YE _ (Nat.lt_succ_self _) ox rx
end Go.FL
namespace Go.FL
open Go Go.RowKit
def ALM (P:Program) (C:Cx) (c:Code) (Q:Exit→Env→Ab→Prop) (env:Env) (H:Ab) : Prop :=
 ∀ X a w I μ O,X.nt=C.nt→X.n0=C.n0→X.ne=C.ne→Sim P X env H a w I μ O→LB (om C.ro) 0 P c (PostM P X Q) a w
section
variable {P:Program} {C:Cx} {X:Snap} {o:Oper} {ops:Array Oper} {Q:Exit→Env→Ab→Prop} {env env':Env} {H H':Ab} {a:Act} {w w':World} {I I':Nat→Prop} {μ μ':List Nat} {O O':Nat→Option Loc}
 {K:Env→Ab→Prop} {k:Nat} {l:List Oper}
theorem AWM.loop {c:Code} (h:ALM P C c Q env H) : AWM P C (.loop c) Q env H:=fun X a w I μ O h1 h2 h3 hs=>(h X a w I μ O h1 h2 h3 hs).loop
theorem ALM.gh {c:Code} (g:Gh P C env H env' H') (h:ALM P C c Q env' H') : ALM P C c Q env H:=fun X a w I μ O h1 h2 h3 hs =>
 let ⟨I',O',hs'⟩:=g X a w I μ O h1 h2 h3 hs;h X a w I' μ O' h1 h2 h3 hs'
theorem PostM.over {ms:List Deferred} {a1:Act} {w1:World} {env1:Env} {H1:Ab} {I1:Nat→Prop} {μ1:List Nat} {O1:Nat→Option Loc} (hX0:X.n0=0) (s:Sim P {X with dfs:=ms++X.dfs} env1 H1 a1 w1 I1 μ1 O1) (hm:Marks X.K w1 I1 O1 ms) :
  ∃ Y:Snap,Y.nt=X.nt∧Y.n0=X.n0∧Y.ne=X.ne∧Sim P Y env1 H1 a1 w1 I1 μ1 O1∧∀ e a2 w2,PostM P Y Q e a2 w2→PostM P X Q e a2 w2:=by
 obtain ⟨K',hKd⟩:∃ K':Nat→Prop,K'=fun b=>X.K b∨∃ m∈ms,m={target:=.collected b,args:=#[]}:=⟨_,rfl⟩
 have hK':∀ b,K' b→O1 b=none∧b<w1.heap.size:=fun b hb=>by
  rw [hKd] at hb
  rcases hb with hb|⟨m,hm1,hm2⟩
  ·exact ⟨s.kO b hb,nL (s.klt b hb) s.size⟩
  ·obtain ⟨D,e1,e2,e3,e4,_⟩:=hm.2 m hm1
   rw [hm2] at e1;simp at e1;subst e1
   exact ⟨e3,(Array.getElem?_eq_some_iff.1 e2).1⟩
 have hr:=s.recast (s.toMem.reroot hX0 hK') rfl rfl rfl
 refine ⟨{X with w:=w1,I:=I1,K:=K',μ:=μ1,dfs:=ms++X.dfs},rfl,rfl,rfl,hr,fun e a2 w2 ⟨env2,H2,I2,μ2,O2,ms2,s2,q2,hm2⟩=>?_⟩
 refine ⟨env2,H2,I2,μ2,O2,ms2++ms,?_,q2,?_⟩
 ·have hu:Mem P X H2 w2 I2 μ2 O2:=(s.toMem.cast (Y:=X) rfl rfl rfl rfl rfl rfl).unroot hX0 (K':=K') (fun b hb=>by rw [hKd];exact .inl hb) (s2.toMem.cast rfl rfl rfl rfl rfl rfl)
  exact ⟨hu.cast rfl rfl rfl rfl rfl rfl,s2.envr,s2.nt,by rw [s2.dfs.1];simp,s2.dfs.2⟩
 ·refine ⟨List.nodup_append.2 ⟨hm2.1,hm.1,fun x hx y hy e=>?_⟩,fun m hmm=>?_⟩
  ·subst e
   obtain ⟨D,rfl,_,_,_,hk⟩:=hm2.2 x hx
   exact hk (by show K' D;rw [hKd];exact .inr ⟨_,hy,rfl⟩)
  rcases List.mem_append.1 hmm with hmm|hmm
  ·obtain ⟨D,e1,e2,e3,e4,e5⟩:=hm2.2 m hmm
   exact ⟨D,e1,e2,e3,e4,fun hk=>e5 (by show K' D;rw [hKd];exact .inl hk)⟩
  ·obtain ⟨D,rfl,e2,e3,e4,e5⟩:=hm.2 m hmm
   have hkD:K' D:=by rw [hKd];exact .inr ⟨_,hmm,rfl⟩
   exact ⟨D,rfl,(s2.prot D hkD).trans e2,s2.kO D hkD,fun hi=>e4 (s2.kI D hkD hi),e5⟩
theorem ALM.round (h0:C.n0=0) {c:Code} (h:AWM P C c (FH (ALM P C c Q) Q) env H) : ALM P C c Q env H:=fun X a w I μ O h1 h2 h3 hs =>
 .round (wpIn_mono (h X a w I μ O h1 h2 h3 hs) fun e a1 w1 ⟨env',H',I',μ',O',ms,s,q,hm⟩=>by
  cases e with
  | normal =>
   obtain ⟨Y,y1,y2,y3,y4,y5⟩:=PostM.over (Q:=Q) (by omega) s hm
   have hl:=q Y a1 w1 I' μ' O' (y1.trans h1) (y2.trans h2) (y3.trans h3) y4
   intro b k cs hro hb hr
   obtain ⟨e2,a2,w2,p1,p2⟩:=hl b k cs hro hb hr
   exact ⟨e2,a2,w2,y5 _ _ _ p1,p2⟩
  | _=>exact ⟨env',H',I',μ',O',ms,s,q,hm⟩)
theorem ALM.ind (h0:C.n0=0) {c:Code} {σ:Type} (m:σ→Nat) (e:σ→Env) (h:σ→Ab) (I:σ→Prop)
  (step:∀ s,I s→(∀ s',I s'→m s'<m s→ALM P C c Q (e s') (h s'))→AWM P C c (FH (ALM P C c Q) Q) (e s) (h s)):∀ s,I s→ALM P C c Q (e s) (h s):=by
 suffices H:∀ n s,m s=n→I s→ALM P C c Q (e s) (h s) from fun s hs=>H _ s rfl hs
 intro n
 induction n using Nat.strongRecOn with
 | ind n ih =>
  intro s hm hs
  exact .round h0 (step s hs fun s' h1 h2=>ih (m s') (by omega) s' rfl h1)
theorem Sim.storeBA {id blk:Nat} (hm:μ[id]?=some blk) (hn:X.n0≤id) : ∀ (us:List Value) (k:Nat) (ds zs:List DV) (H:Ab) (w:World) (O:Nat→Option Loc),Sim P X env H a w I μ O→H[id]?=some (.box (zs.map .d))→zs.length=k+us.length →
  RepAll w I ds us→(∀ u∈us,u.oneCell'=true)→∃ w' O',(storeCells ⟨blk,0,none⟩ us k).run P w=.ok () w'∧Sim P X env (H.set id (.box ((zs.take k++ds).map .d))) a w' I μ O'
 | [],k,ds,zs,H,w,O,hs,hH,hl,hr,h1=>by
  cases hr
  rw [List.append_nil,List.take_of_length_le (by simp at hl;omega),List.set_same _ _ hH]
  exact ⟨w,O,rfl,hs⟩
 | u::us,k,ds,zs,H,w,O,hs,hH,hl,hr,h1=>by
  cases hr with
  | @cons d _ ds _ hd ht =>
   rw [List.length_cons] at hl
   have hu:=h1 u (by simp)
   have hkl:k<zs.length:=by omega
   obtain ⟨q1,⟨u0,q2⟩,q3⟩:=hs.storeC (off:=k) (c:=.d zs[k]) (av:=.d d) (v:=u) (hbs:=[]) hH (by rw [List.getElem?_map,lG hkl];rfl) hm hn (.d hd) nN (by simp)
   have hIb:¬I blk:=by
    obtain ⟨blk',bs,g1,g2,g3,g4⟩:=hs.heap id _ hH
    rw [hm] at g1;cases g1
    exact (hs.own blk _ ((g3 hn).2 blk (by simp))).2
   have hst:(store ((⟨blk,0,none⟩:Addr).add k) u).run P w=.ok () (w.setCell ⟨blk,k,none⟩ u):=by
    have hadd:(⟨blk,0,none⟩:Addr).add k=⟨blk,k,none⟩:=by unfold Addr.add;split<;>simp_all
    rw [hadd,run_store P w _ u _ hu,q2]
    simp [q3]
   have hset:Db H id k (.d d)=H.set id (.box ((zs.set k d).map .d)):=by
    simp only [Db,hH];rw [List.map_set]
   rw [hset] at q1
   have hid:id<H.length:=(lS.1 hH).1
   obtain ⟨w2,O2,z1,z2⟩:=Sim.storeBA hm hn us (k+1) ds (zs.set k d) _ _ _ (show Sim P X env _ a _ I μ _ from q1) (by simp [hid]) (by simp;omega)
    (ht.keep (fun b' hb'=>heap_setCell_other w ⟨blk,k,none⟩ b' u fun e=>hIb (by rw [← (show b'=blk from e)];exact hb')) fun _ h=>h) fun u hu=>h1 u (by simp [hu])
   refine ⟨w2,O2,?_,?_⟩
   ·simp only [storeCells,Sem.run_bind,hst,Result.andThen_ok,z1]
   ·have t1:(zs.set k d).take (k+1)=zs.take k++[d]:=by
     rw [List.take_add_one,List.getElem?_set_self (by omega),List.take_set_of_le (Nat.le_refl k)];rfl
    rw [t1,List.set_set] at z2
    simpa using z2
theorem Abk {x y:Operand} {ty id:Nat} {zs ds:List DV} {bx:List AV} (hH:H[id]?=some (.box bx)) (hb:bx=zs.map .d) (hl:zs.length=ds.length) (h:RL P C ops Q (k+1) l env (H.set id (.box (ds.map .d)))) (hsz:Ax P ty=ds.length) (hp:0<ds.length) (hg:grd ops env o true=true:=by rfl)
  (ho:o.op=.store ty x y:=by rfl) (hv:lk env x=.bp id 0:=by rfl) (hy:lk env y=.d (.ag ds):=by rfl) (h1:ds.all DV.leaf=true:=by rfl) (hd:o.dst=none:=by rfl) (h0:C.n0=0:=by rfl):RL P C ops Q k (o::l) env H:=by
 subst hb
 obtain ⟨g1,g2⟩:=Ap hv (by simp)
 refine .go hg (.done (by simp [ho]) hd (fun X a w I μ O _ e2 _ hs=>?_) h)
 have hr:=hs.deep (x:=y) (v:=.ag ds) (by rw [hy];rfl)
 generalize hev:a.eval y=u at hr
 cases hr with
 | ag _ vs hr =>
  obtain ⟨blk,hm,he⟩:=hs.bp g1 g2
  have hvl:vs.length=ds.length:=hr.length.symm
  obtain ⟨w',O',z1,z2⟩:=Sim.storeBA hm (by omega) vs 0 ds zs H w O hs hH (by omega) hr (hr.one h1)
  refine ⟨w',I,μ,O',?_,?_⟩
  ·have hs':(sizeOf ty).run P w=.ok vs.length w:=by rw [hvl,← hsz];exact GD (by omega)
   have hsv:(storeVar ty ⟨blk,0,none⟩ (.agg vs.toArray)).run P w=.ok () w':=by
    simp [storeVar,hs',Value.cells,z1]
   simp only [execOp,ho,he,hev,Instr.storeAt,Instr.sureAddr,Sem.run_bind,Sem.run_pure,Result.andThen_ok,hsv]
  ·simpa using z2
end
def Ts {α σ:Type} (f:Int→α→σ→Option σ) (xs:List α) : Nat→σ→Option σ
 | 0,s=>some s
 | n+1,s=>(xs[n]?).bind fun x=>(f ((n:Nat):Int) x s).bind fun s'=>Ts f xs n s'
theorem TI {α σ:Type} {f:Int→α→σ→Option σ} {xs:List α} : ∀ (n:Nat) {s z:σ},Ts f xs n s=some z→∃ T : Nat→σ,T 0=s∧T n=z∧∀ k,k<n→∃ x,xs[n-1-k]?=some x∧f ((n-1-k:Nat) : Int) x (T k)=some (T (k+1))
 | 0,s,z,h=>⟨fun _=>s,rfl,oI h,fun k hk=>absurd hk (Nat.not_lt_zero k)⟩
 | n+1,s,z,h=>by
  simp only [Ts,Option.bind_eq_some_iff] at h
  obtain ⟨x,hx,s',hf,h⟩:=h
  obtain ⟨T,t1,t2,t3⟩:=TI n h
  refine ⟨fun k=>if k=0 then s else T (k-1),rfl,by simp [t2],fun k hk=>?_⟩
  cases k with
  | zero=>exact ⟨x,by simpa using hx,by simpa [t1] using hf⟩
  | succ k =>
   obtain ⟨y,y1,y2⟩:=t3 k (by omega)
   rw [show n+1-1-(k+1)=n-1-k by omega]
   exact ⟨y,y1,by simpa using y2⟩
theorem Ox (cells:Array Value) (n:Nat) : (madeCells cells ((n+1) * cells.size)).toList=cells.toList++(madeCells cells (n * cells.size)).toList:=by
 apply List.ext_getElem
 ·simp [madeCells,Nat.add_mul,Nat.add_comm]
 ·intro j h1 h2
  rw [List.getElem_append]
  split
  ·rename_i hj
   simp only [Array.length_toList] at hj
   simp [madeCells,Nat.mod_eq_of_lt hj,hj]
  ·rename_i hj
   simp only [Array.length_toList,Nat.not_lt] at hj
   simp [madeCells,Nat.mod_eq_sub_mod hj]
theorem OU {w:World} {I:Nat→Prop} {cs:List DV} {cells:Array Value} (h:RepAll w I cs cells.toList) (h1:∀ u∈cells.toList,u.oneCell'=true) : ∀ n,RepRows w I cells.size (List.replicate n (.ag cs)) (madeCells cells (n * cells.size)).toList
 | 0=>by
  have:(madeCells cells (0 * cells.size)).toList=[]:=by simp [madeCells]
  rw [this];exact .nil _
 | n+1=>by
  rw [Ox cells n,List.replicate_succ]
  exact .cons (by simp) h1 h (OU h h1 n)
section
variable {P:Program} {C:Cx} {o:Oper} {ops:Array Oper} {Q:Exit→Env→Ab→Prop} {env:Env} {H:Ab} {K:Env→Ab→Prop} {k:Nat} {l:List Oper}
theorem VA {l c:Operand} {ty t e by_ sz:Nat} {z:Value} {cs:List DV} {k k':IntKind} {n:Nat} (ho:o.op=.makeSlice ty l c) (hd:o.dst=some t) (ht:okT C.nt t) (hT:BX P ty=some (e,sz,by_,z)) (hzs:z.cells.size=sz) (h0:0<sz) (hz:∀ w I,RepAll w I cs z.cells.toList) (hlf:cs.all DV.leaf=true)
  (hl:lk env l=.d (.i k n)) (hc:lk env c=.d (.i k' n)) (hby:by_ * n≤281474976710656) (h63:n≤maxLen)
  (hK:K (put env t (.own e (List.replicate n (.ag cs)))) H):OpOK P C o env H K :=
 .val (by simp [ho]) hd ht (fun X a w I μ O _ _ _ hs=>by
  obtain ⟨i,i1,i2,i3,i4,i5,i6,i7,i8⟩:=Cr hT
  have e1:a.eval l=.int k n:=by
   have hr:=hs.deep (x:=l) (v:=.i k n) (by rw [hl];rfl)
   generalize a.eval l=u at hr
   cases hr;rfl
  have e2:a.eval c=.int k' n:=by
   have hr:=hs.deep (x:=c) (v:=.i k' n) (by rw [hc];rfl)
   generalize a.eval c=u at hr
   cases hr;rfl
  obtain ⟨w',q1,q2,q3⟩:=run_make_full w 0 ty e i z sz i1 i2 i3 i4 k k' n (by rw [i5];exact hby) h63 (Nat.zero_le _)
  have h2:=hs.grownR q3 fun b hb=>(by cases hb)
  have hO:∀ b,w.heap.size≤b→O b=none:=fun b hb=>by
   cases hx:O b with
   | none=>rfl
   | some l=>have:=(hs.own b l hx).1;omega
  have h3:=h2.newR (Bw (.slice (some ⟨w.heap.size,0,none⟩) n n)) fun b hb=>by
   have hlt:=(OwnR.of q2).lt b hb
   have:b=w.heap.size:=by
    simp only [Bw] at hb
    split at hb<;>simp at hb
    exact hb
   subst this
   exact ⟨hlt,.inl (hO _ (Nat.le_refl _)),fun hi=>by have:=hs.ilt _ hi;omega,fun hk=>by have:=hs.klt _ hk;have:=hs.size;omega⟩
  refine ⟨.slice (some ⟨w.heap.size,0,none⟩) n n,w',I,μ,_,?_,h3,Bw (.slice (some ⟨w.heap.size,0,none⟩) n n),?_,Gv _,fun b hb=>by simp [hb]⟩
  ·simp only [execOp,ho,e1,e2,q1,Sem.run_bind,Result.andThen_ok,Sem.run_pure]
  ·have hrow:=OU (cs:=cs) (cells:=z.cells) (hz w' I) ((hz w' I).one hlf) n
   rw [hzs] at hrow
   exact .own e _ _ _ (by omega) (by rw [List.length_replicate,i8];exact .of q2) (by rw [i8];exact hrow)) hK
theorem Ab7 {α:Type} {F:List α→List DV} {x0:α} {x c:Operand} {ty t e by_ sz:Nat} {z:Value} {cs:List DV} {q q':IntKind} {zl:Int} (n:Nat) (hF:List.replicate n (.ag cs)=F (List.replicate n x0)) (hn:zl=n) (hb:by_ * n≤281474976710656∧n≤9223372036854775807) (h:RL P C ops Q (k+1) l ((t,.own e (F (List.replicate n x0)))::env) H)
  (hT:BX P ty=some (e,sz,by_,z)) (hz:∀ w I,RepAll w I cs z.cells.toList) (hzs:z.cells.size=sz:=by rfl) (h0:0<sz:=by decide) (hlf:cs.all DV.leaf=true:=by rfl) (hg:grd ops env o true=true:=by rfl) (ho:o.op=.makeSlice ty x c:=by rfl) (hx:lk env x=.d (.i q zl):=by rfl) (hc:lk env c=.d (.i q' zl):=by rfl) (hd:o.dst=some t:=by rfl)
  (hf:Ak (get env t)=false:=by rfl) (ht:okT C.nt t:=by rfl):RL P C ops Q k (o::l) env H:=by
 subst hn
 rw [← Aj hf] at h
 exact .go hg (VA ho hd ht hT hzs h0 hz hlf hx hc hb.1 (by simpa [maxLen] using hb.2) (by rw [hF];exact h))
end
def Rq (n:Nat) : AV→Bool
 | .bp i _=>Nat.blt i n
 | .ref (.c i _) _ _=>Nat.blt i n
 | .ep (.c i _) _ _=>Nat.blt i n
 | av=>noBp av
section
variable {P:Program} {C:Cx} {X:Snap} {o:Oper} {ops:Array Oper} {Q:Exit→Env→Ab→Prop} {env env':Env} {H H':Ab} {a:Act} {w w':World} {I I':Nat→Prop} {μ μ':List Nat} {O O':Nat→Option Loc}
 {K:Env→Ab→Prop} {k:Nat} {l:List Oper}
theorem AL.gh2 {c:Code} (g:Gh2 P C env H env' H') (h:AL P C c Q env' H') : AL P C c Q env H:=fun X a w I μ O h1 h2 h3 hs =>
 let ⟨I',μ',O',hs'⟩:=g X a w I μ O h1 h2 h3 hs;h X a w I' μ' O' h1 h2 h3 hs'
theorem ALM.gh2 {c:Code} (g:Gh2 P C env H env' H') (h:ALM P C c Q env' H') : ALM P C c Q env H:=fun X a w I μ O h1 h2 h3 hs =>
 let ⟨I',μ',O',hs'⟩:=g X a w I μ O h1 h2 h3 hs;h X a w I' μ' O' h1 h2 h3 hs'
theorem Gh2.cut {H0:Ab} (G:Ab) (hH:H=H0++G) (hb:(env.all fun x=>Rq H0.length x.2)=true) (hb0:H0.all SV=true) (hne:Nat.ble C.ne H0.length=true) : Gh2 P C env H env H0:=fun X a w I μ O _ h2 h3 hs=>by
 subst hH
 have hne':X.ne≤H0.length:=by rw [h3];exact Nat.le_of_ble_eq_true hne
 have hμt:∀ i,i<H0.length→(μ.take H0.length)[i]?=μ[i]?:=fun i hi=>by rw [List.getElem?_take,if_pos hi]
 refine ⟨I,μ.take H0.length,O,{
  prot:=hs.prot,kO:=hs.kO,kI:=hs.kI,mono:=hs.mono,os:=hs.os,tape:=hs.tape,output:=hs.output,size:=hs.size,own:=hs.own,ilt:=hs.ilt
  μlen:=by rw [List.length_take,hs.μlen];simp
  μpre:=fun i b hi hb=>by rw [hμt i (by omega)];exact hs.μpre i b hi hb
  nle:=hne'
  heap:=fun id ob ho=>?_
  klt:=hs.klt
  n0le:=hs.n0le
  envr:=fun s=>?_
  nt:=hs.nt
  dfs:=hs.dfs}⟩
 ·have hlt:=(lS.1 ho).1
  obtain ⟨bb,bs',q1,q2,q3,q4⟩:=hs.heap id ob (by rw [List.getElem?_append_left hlt];exact ho)
  refine ⟨bb,bs',by rw [hμt id hlt];exact q1,?_,q3,q4⟩
  have hnb:SV ob=true:=List.all_eq_true.1 hb0 ob (List.mem_of_getElem? ho)
  cases ob with
  | box c =>
   obtain ⟨cl,et,n1,n2⟩:=q2
   exact ⟨cl,et,n1,n2.noBp (μ':=μ.take H0.length) hnb⟩
  | mo _ _=>exact q2
 ·have hp:=L0 (p:=Rq H0.length) rfl hb s
  have ht:=hs.envr s
  have plain:∀ av,get env s=av→noBp av=true→AH av=false→TRep P env H0 a w I (μ.take H0.length) O s av:=by
   intro av hav hn hr
   rw [hav] at ht
   obtain ⟨bs,g1,g2,g3⟩:=ht.plain hr
   exact .of (g1.noBp (μ':=μ.take H0.length) hn) g2 g3
  have place:∀ (p:Pl) e xs,(∀ id off,p=.c id off→id<H0.length)→AB env (H0++G) p=.own e xs→AB env H0 p=.own e xs∧∀ v,AT a w μ p=some v→AT a w (μ.take H0.length) p=some v:=fun p e xs hl hp=>by
   cases p with
   | t n=>exact ⟨hp,fun v hv=>hv⟩
   | c id off =>
    have hid:=hl id off rfl
    refine ⟨?_,fun v hv=>?_⟩
    ·simp only [AB] at hp ⊢
     rw [List.getElem?_append_left hid] at hp;exact hp
    ·simp only [AT] at hv ⊢
     rw [hμt id hid];exact hv
  cases hgs:get env s with
  | bp i off =>
   rw [hgs] at hp ht
   obtain ⟨bs,g1,g2,g3⟩:=ht.plain rfl
   have hi:i<H0.length:=by simp [Rq,Nat.blt] at hp;omega
   refine .of (bs:=bs) ?_ g2 g3
   generalize a.tmps.getD s undef=v at g1
   cases g1 with
   | bp _ _ blk' hb'=>exact .bp i off blk' (by rw [hμt i hi];exact hb')
  | ref p off len =>
   rw [hgs] at hp ht
   obtain ⟨e',xs,A,n,c,g1,g2,g3,g4⟩:=ht
   obtain ⟨p1,p2⟩:=place p e' xs (fun id off h=>by subst h;simp [Rq,Nat.blt] at hp;omega) g1
   exact ⟨e',xs,A,n,c,p1,p2 _ g2,g3,g4⟩
  | ep p i k =>
   rw [hgs] at hp ht
   obtain ⟨e',xs,b,n,c,g1,g2,g3,g4,g5⟩:=ht
   obtain ⟨p1,p2⟩:=place p e' xs (fun id off h=>by subst h;simp [Rq,Nat.blt] at hp;omega) g1
   exact ⟨e',xs,b,n,c,p1,p2 _ g2,g3,g4,g5⟩
  | _ =>
   rw [hgs] at hp
   exact plain _ hgs hp rfl
end
end Go.FL
namespace Go.FL
open Go Go.RowKit
def BO : List (ByteArray×Int)→ByteArray→Option Int
 | [],_=>none
 | p::r,k=>if p.1=k then some p.2 else BO r k
def Fi : List (ByteArray×Int)→ByteArray→Int→List (ByteArray×Int)
 | [],k,v=>[(k,v)]
 | p::r,k,v=>if p.1=k then (k,v)::r else p::Fi r k v
theorem ME : ∀ (l:List (ByteArray×Int)) (k:ByteArray) (v:Int),(Fi l k v).map Prod.fst=if (BO l k).isSome then l.map Prod.fst else l.map Prod.fst++[k]
 | [],k,v=>rfl
 | p::r,k,v=>by
  by_cases h:p.1=k
  ·simp [Fi,BO,h]
  ·simp only [Fi,BO,if_neg h,List.map_cons,ME r k v]
   split<;>rfl
theorem MV : ∀ {l:List (ByteArray×Int)} {k:ByteArray},BO l k=none↔k∉l.map Prod.fst
 | [],k=>by simp [BO]
 | p::r,k=>by
  by_cases h:p.1=k
  ·simp [BO,h]
  ·rw [BO,if_neg h,MV]
   simp [Ne.symm h]
theorem Qe {l:List (ByteArray×Int)} (h:(l.map Prod.fst).Nodup) (k:ByteArray) (v:Int) : ((Fi l k v).map Prod.fst).Nodup:=by
 rw [ME]
 cases hg:BO l k with
 | some x=>exact h
 | none =>
  have:=MV.1 hg
  simp only [Option.isSome_none,Bool.false_eq_true,if_false]
  exact List.nodup_append.2 ⟨h,by simp,fun a ha b hb e=>by simp at hb;subst hb;subst e;exact this ha⟩
theorem KB : ∀ (l:List (ByteArray×Int)) (k:ByteArray) (v:Int) (k':ByteArray),BO (Fi l k v) k'=if k=k' then some v else BO l k'
 | [],k,v,k'=>rfl
 | p::r,k,v,k'=>by
  by_cases h:p.1=k
  ·by_cases h':k=k'
   ·simp [Fi,BO,h,h']
   ·simp [Fi,BO,h,h']
  ·by_cases h':k=k'
   ·subst h';simp only [Fi,BO,if_neg h,KB r k v,if_true]
   ·simp only [Fi,BO,if_neg h,KB r k v,if_neg h']
theorem Se {l m:List (ByteArray×Int)} (h:l.Perm m) (hn:(l.map Prod.fst).Nodup) (k:ByteArray) : BO l k=BO m k:=by
 induction h with
 | nil=>rfl
 | cons x _ ih =>
  simp only [List.map_cons,List.nodup_cons] at hn
  simp only [BO,ih hn.2]
 | swap x y l =>
  simp only [List.map_cons,List.nodup_cons,List.mem_cons,not_or] at hn
  by_cases h1:x.1=k
  ·by_cases h2:y.1=k
   ·exact absurd (h2.trans h1.symm) hn.1.1
   ·simp [BO,h1,h2]
  ·simp [BO,h1]
 | trans h1 _ ih1 ih2=>exact (ih1 hn).trans (ih2 ((h1.map _).nodup hn))
abbrev SM : Type:={l:List (ByteArray×Int) // (l.map Prod.fst).Nodup}
def SM.nil : SM:=⟨[],nN⟩
def SM.get (m:SM) (k:ByteArray) : Option Int:=BO m.1 k
def SM.set (m:SM) (k:ByteArray) (v:Int) : SM:=⟨Fi m.1 k v,Qe m.2 k v⟩
def SM.len (m:SM) : Nat:=m.1.length
def smK (l:List (ByteArray×Int)) : List DV:=l.map fun p=>.s p.1
def smV (l:List (ByteArray×Int)) : List DV:=l.map fun p=>.i .i64 p.2
abbrev SM.mo (m:SM) : HO:=.mo (smK m.1) (smV m.1)
abbrev SM.mp (m:SM) : DV:=.mp (smK m.1) (smV m.1)
section
variable {P:Program} {C:Cx} {X:Snap} {o:Oper} {ops:Array Oper} {Q:Exit→Env→Ab→Prop} {env env':Env} {H H':Ab} {a:Act} {w w':World} {I I':Nat→Prop} {μ μ':List Nat} {O O':Nat→Option Loc}
 {K:Env→Ab→Prop} {k:Nat} {l:List Oper}
def EntS (es:List MapEntry) (m:List (ByteArray×Int)) : Prop:=es.map (fun e=>(e.key,e.val))=m.map fun p=>(Value.string p.1,Value.int .i64 p.2)
theorem P3 : ∀ {es:List MapEntry} {m:List (ByteArray×Int)},RepAll w I (smK m) (es.map MapEntry.key)→RepAll w I (smV m) (es.map MapEntry.val)→EntS es m
 | [],[],_,_=>rfl
 | [],_::_,h,_=>by cases h
 | _::_,[],h,_=>by cases h
 | e::es,p::m,hk,hv=>by
  cases hk with
  | @cons _ _ _ _ h1 t1 =>
   cases hv with
   | @cons _ _ _ _ h2 t2 =>
    have ih:=P3 t1 t2
    generalize hek:e.key=u at h1
    generalize hev:e.val=u2 at h2
    cases h1;cases h2
    unfold EntS at ih ⊢
    simp only [List.map_cons,ih,hek,hev]
theorem EntS.reps : ∀ {es:List MapEntry} {m:List (ByteArray×Int)},EntS es m→RepAll w I (smK m) (es.map MapEntry.key)∧RepAll w I (smV m) (es.map MapEntry.val)
 | [],[],_=>⟨.nil,.nil⟩
 | [],_::_,h=>by cases h
 | _::_,[],h=>by cases h
 | e::es,p::m,h=>by
  unfold EntS at h
  simp only [List.map_cons,List.cons.injEq,Prod.mk.injEq] at h
  obtain ⟨⟨h1,h2⟩,h3⟩:=h
  obtain ⟨k1,k2⟩:=EntS.reps h3
  exact ⟨.cons (h1▸.s _) k1,.cons (h2▸.i _ _) k2⟩
theorem bab (a b:ByteArray) : (a == b)=decide (a=b):=by
 obtain ⟨x⟩:=a
 obtain ⟨y⟩:=b
 show (x == y)=_
 by_cases h:x=y
 ·subst h;simp
 ·rw [dF (fun e=>h (by injection e))]
  exact beq_eq_false_iff_ne.2 h
theorem MZ (a b:ByteArray) : Instr.sameNow .string (.string a) (.string b)=some (decide (a=b)):=by
 show some (a == b)=_
 rw [bab]
theorem JL {k:ByteArray} : ∀ {es:List MapEntry} {m:List (ByteArray×Int)} (n:Nat),EntS es m→BO m k=none→Instr.findNow .string (.string k) es n=some none
 | [],_,n,_,_=>rfl
 | e::es,[],n,h,_=>by cases h
 | e::es,p::m,n,h,hg=>by
  unfold EntS at h
  simp only [List.map_cons,List.cons.injEq,Prod.mk.injEq] at h
  obtain ⟨⟨h1,_⟩,h3⟩:=h
  by_cases hk:p.1=k
  ·rw [BO,if_pos hk] at hg;cases hg
  ·rw [BO,if_neg hk] at hg
   have hs:Instr.sameNow .string (.string k) e.key=some false:=by
    rw [h1,MZ,dF fun h=>hk h.symm]
   simp only [Instr.findNow,hs]
   exact JL (n+1) h3 hg
theorem JF {k:ByteArray} {v:Int} : ∀ {es:List MapEntry} {m:List (ByteArray×Int)} (n:Nat),EntS es m→BO m k=some v→∃ i,Instr.findNow .string (.string k) es n=some (some (n+i,.int .i64 v))∧(∃ e,es[i]?=some e∧e.key=.string k) ∧
   ∀ (u:Int),EntS (es.modify i fun e=>{e with key:=.string k,val:=.int .i64 u}) (Fi m k u)
 | [],[],n,_,hg=>by cases hg
 | [],_::_,n,h,_=>by cases h
 | e::es,[],n,h,_=>by cases h
 | e::es,p::m,n,h,hg=>by
  have h0:=h
  unfold EntS at h
  simp only [List.map_cons,List.cons.injEq,Prod.mk.injEq] at h
  obtain ⟨⟨h1,h2⟩,h3⟩:=h
  by_cases hk:p.1=k
  ·rw [BO,if_pos hk] at hg
   simp only [Option.some.injEq] at hg
   subst hg
   have hs:Instr.sameNow .string (.string k) e.key=some true:=by rw [h1,MZ,dT hk.symm]
   refine ⟨0,?_,⟨e,rfl,by rw [h1,hk]⟩,fun u=>?_⟩
   ·simp only [Instr.findNow,hs,h2,Nat.add_zero]
   ·unfold EntS
    simp only [List.modify_zero_cons,List.map_cons,Fi,if_pos hk,List.cons.injEq,true_and]
    exact h3
  ·rw [BO,if_neg hk] at hg
   have hs:Instr.sameNow .string (.string k) e.key=some false:=by
    rw [h1,MZ,dF fun h=>hk h.symm]
   obtain ⟨i,k1,⟨e',k2,k3⟩,k4⟩:=JF (n+1) h3 hg
   refine ⟨i+1,?_,⟨e',by simpa using k2,k3⟩,fun u=>?_⟩
   ·simp only [Instr.findNow,hs]
    rw [k1,show n+1+i=n+(i+1) by omega]
   ·have:=k4 u
    unfold EntS at this ⊢
    simp only [List.modify_succ_cons,List.map_cons,Fi,if_neg hk,this,h1,h2]
theorem M4 {kt:TypeId} {z:ByteArray} (hk:P.underlying kt=some .string) (b:Bool) (n:Nat) : (Instr.checkKey b (n+1) kt (.string z)).run P w=.ok () w:=by
 unfold Instr.checkKey
 simp [run_underlying hk]
theorem FQ {kt:TypeId} {z:ByteArray} {es:List MapEntry} {r:Option (Nat×Value)} (hk:P.underlying kt=some .string) (hf:Instr.findNow .string (.string z) es 0=some r) : (Instr.findKey kt (.string z) es).run P w=.ok r w:=by
 simp [Instr.findKey,run_underlying hk,hf]
theorem Lr {ty kt et:TypeId} {r:Nat} {es:Array MapEntry} {clock:Nat} {z:ByteArray} {m:List (ByteArray×Int)} (hu:P.underlying ty=some (.map kt et)) (hk:P.underlying kt=some .string) (hz:(zeroValue et).run P w=.ok (.int .i64 0) w) (hh:w.heap[r]?=some (.map es clock)) (he:EntS es.toList m) :
  (Instr.lookup ty (.map (some r)) (.string z) true).run P w=.ok (.tuple #[.int .i64 ((BO m z).getD 0),.bool (BO m z).isSome]) w:=by
 have h1:=M4 (w:=w) (z:=z) hk es.isEmpty 9999
 have h3:=I4 (P:=P) hh
 cases hg:BO m z with
 | none =>
  have h2:=FQ (w:=w) (z:=z) hk (JL 0 he hg)
  unfold Instr.lookup
  simp only [run_underlying hu,Sem.run_bind,Sem.run_pure,Result.andThen_ok,h1,h2,h3,hz]
  rfl
 | some v =>
  obtain ⟨i,k1,_⟩:=JF 0 he hg
  have h2:=FQ (w:=w) (z:=z) hk k1
  unfold Instr.lookup
  simp only [run_underlying hu,Sem.run_bind,Sem.run_pure,Result.andThen_ok,h1,h2,h3]
  rfl
theorem Rr {ty kt et:TypeId} {r:Nat} {es:Array MapEntry} {clock:Nat} {z:ByteArray} {v:Int} {m:List (ByteArray×Int)} (hu:P.underlying ty=some (.map kt et)) (hk:P.underlying kt=some .string) (hh:w.heap[r]?=some (.map es clock)) (he:EntS es.toList m) :
  ∃ es' c',(Instr.mapUpdate ty (.map (some r)) (.string z) (.int .i64 v)).run P w=.ok () {w with heap:=w.heap.setIfInBounds r (.map es' c')}∧EntS es'.toList (Fi m z v):=by
 have h1:=M4 (w:=w) (z:=z) hk false 9999
 have h3:=I4 (P:=P) hh
 cases hg:BO m z with
 | none =>
  have h2:=FQ (w:=w) (z:=z) hk (JL 0 he hg)
  refine ⟨es.push {key:=.string z,val:=.int .i64 v,born:=clock},clock+1,?_,?_⟩
  ·unfold Instr.mapUpdate
   simp only [run_underlying hu,Sem.run_bind,Result.andThen_ok,h1,h2,h3]
   simp [setObj,Sem.run,hh]
  ·have hset:∀ {m:List (ByteArray×Int)},BO m z=none→Fi m z v=m++[(z,v)]:=by
    intro m
    induction m with
    | nil=>intro _;rfl
    | cons p m ih =>
     intro h
     by_cases hp:p.1=z
     ·rw [BO,if_pos hp] at h;cases h
     ·rw [BO,if_neg hp] at h
      rw [Fi,if_neg hp,ih h];rfl
   unfold EntS at he ⊢
   rw [hset hg,Array.toList_push,List.map_append,List.map_append,he]
   rfl
 | some u =>
  obtain ⟨i,k1,⟨e,k2,k3⟩,k4⟩:=JF 0 he hg
  rw [Nat.zero_add] at k1
  have h2:=FQ (w:=w) (z:=z) hk k1
  have hei:es[i]?=some e:=by simpa using k2
  have hstay:(Instr.keyThatStays (((es[i]?).map (·.key)).getD (.string z)) (.string z)).run P w=.ok (.string z) w:=by
   rw [hei]
   simp only [Option.map_some,Option.getD_some,k3]
   unfold Instr.keyThatStays
   have:Instr.sameBits 10000 (.string z) (.string z)=true:=by
    show ((z:ByteArray) == z)=true
    rw [bab];simp
   rw [this];rfl
  refine ⟨es.modify i fun e=>{e with key:=.string z,val:=.int .i64 v},clock,?_,?_⟩
  ·unfold Instr.mapUpdate
   simp only [run_underlying hu,Sem.run_bind,Result.andThen_ok,h1,h2,h3,hstay]
   simp [setObj,Sem.run,hh]
  ·rw [Array.toList_modify];exact k4 v
theorem Gh2.omr {t:Nat} (hg:get env t=.om [] []) : Gh2 P C env H ((t,.mr H.length)::env) (H++[.mo [] []]):=fun X a w I μ O _ _ _ hs=>by
 obtain ⟨blk,es,c,ks',vs',h1,h2,h3,h4,h5,h6,hO⟩:=hs.om_inv hg
 obtain ⟨n1,n2,n3⟩:=hs.other_blk hO
 have hes:es.toList=[]:=by
  have hl:(ks'.zip vs').length=0:=by rw [h5.length_eq];rfl
  rw [List.length_zip,h3.length,h4.length,List.length_map,List.length_map,Nat.min_self] at hl
  exact List.eq_nil_of_length_eq_zero hl
 have hμ:∀ (i b:Nat),μ[i]?=some b→(μ++[blk])[i]?=some b:=fun i b h=>by
  rw [List.getElem?_append_left (lS.1 h).1];exact h
 have hlast:(μ++[blk])[H.length]?=some blk:=by rw [← hs.μlen];simp
 have hO':∀ b l,O b=some l→b≠blk→(if b=blk then some (Loc.o H.length) else O b)=some l:=fun b l h hb=>by rw [if_neg hb];exact h
 have hOt:∀ b s,O b=some (.t s)→s≠t→b≠blk:=fun b s h hst e=>by subst e;rw [hO] at h;simp at h;exact hst h.symm
 refine ⟨I,μ++[blk],fun b=>if b=blk then some (.o H.length) else O b,{hs.toMem with
  kO:=fun b hk=>by rw [if_neg (n2 b hk)];exact hs.kO b hk
  own:=fun b l hl=>by
   by_cases hb:b=blk
   ·subst hb;exact hs.own b _ hO
   ·rw [if_neg hb] at hl;exact hs.own b l hl
  μlen:=by simp [hs.μlen]
  μpre:=fun i b hi hb=>hμ i b (hs.μpre i b hi hb)
  nle:=by simp;have:=hs.nle;omega
  heap:=fun id ob ho=>?_
  envr:=fun s=>?_
  nt:=hs.nt
  dfs:=hs.dfs}⟩
 ·rcases Nat.lt_or_ge id H.length with hlt|hge
  ·rw [List.getElem?_append_left hlt] at ho
   obtain ⟨bb,bs,k1,k2,k3,k4⟩:=hs.heap id ob ho
   have hne:=n3 id ob bb bs ho k1 k3 k4
   refine ⟨bb,bs,hμ _ _ k1,?_,fun hn=>⟨(k3 hn).1,fun b hb=>hO' b _ ((k3 hn).2 b hb) (hne b hb)⟩,k4⟩
   cases ob with
   | box c =>
    obtain ⟨cl,et,m1,m2⟩:=k2
    exact ⟨cl,et,m1,m2.keep (fun _ h=>h) (fun _ _=>rfl) hμ fun _ _=>rfl⟩
   | mo _ _=>exact k2
  ·rw [List.getElem?_append_right hge] at ho
   have hid:id=H.length:=by
    have:=(lS.1 ho).1;simp at this;omega
   subst hid
   simp at ho;subst ho
   refine ⟨blk,[],hlast,⟨rfl,es,c,h2,by rw [hes];exact .nil,by rw [hes];exact .nil⟩,fun _=>⟨by simp,fun b hb=>?_⟩,fun hn=>?_⟩
   ·simp at hb;subst hb;rw [if_pos rfl]
   ·have:=hs.nle;have:=hs.n0le;omega
 ·by_cases hst:t=s
  ·subst hst
   rw [show get ((t,.mr H.length)::env) t=.mr H.length by simp [get]]
   refine .of (bs:=[]) ?_ nN (by simp)
   rw [h1]
   exact .mr _ _ hlast
  ·rw [show get ((t,.mr H.length)::env) s=get env s by simp [get,hst]]
   have key:∀ p e xs,AB env H p=.own e xs→AB ((t,AV.mr H.length)::env) (H++[.mo [] []]) p=.own e xs∧∀ v,AT a w μ p=some v→AT a w (μ++[blk]) p=some v:=by
    intro p e' xs hp
    cases p with
    | t r =>
     have hr':t≠r:=fun h=>by subst h;simp only [AB] at hp;rw [hg] at hp;cases hp
     exact ⟨by simp only [AB,get,if_neg hr'];exact hp,fun v hv=>hv⟩
    | c id off =>
     refine ⟨?_,fun v hv=>?_⟩
     ·simp only [AB] at hp ⊢
      cases hH:H[id]? with
      | none=>rw [hH] at hp;cases hp
      | some ob=>rw [List.getElem?_append_left (lS.1 hH).1,hH];rw [hH] at hp;exact hp
     ·simp only [AT,Option.bind_eq_some_iff] at hv ⊢
      obtain ⟨bb,hb1,hb2⟩:=hv
      exact ⟨bb,hμ _ _ hb1,hb2⟩
   have ht:=hs.envr s
   cases hgs:get env s with
   | ref p off len =>
    rw [hgs] at ht
    obtain ⟨e',xs,A,n,c,g1,g2,g3,g4⟩:=ht
    exact ⟨e',xs,A,n,c,(key p e' xs g1).1,(key p e' xs g1).2 _ g2,g3,g4⟩
   | ep p i k =>
    rw [hgs] at ht
    obtain ⟨e',xs,b,n,c,g1,g2,g3,g4,g5⟩:=ht
    exact ⟨e',xs,b,n,c,(key p e' xs g1).1,(key p e' xs g1).2 _ g2,g3,g4,g5⟩
   | _ =>
    rw [hgs] at ht
    obtain ⟨bs,g1,g2,g3⟩:=ht.plain rfl
    exact .of (g1.keep (fun _ h=>h) (fun _ _=>rfl) hμ fun _ _=>rfl) g2 fun b hb=>hO' b _ (g3 b hb) (hOt b s (g3 b hb) fun e=>hst e.symm)
end
end Go.FL
namespace Go.FL
open Go Go.RowKit
theorem Ra {α β:Type} {f:α→β} {z y:List β} (h:z.Perm y) : ∀ {l:List α},l.map f=y→∃ l' : List α,l'.Perm l∧l'.map f=z:=by
 induction h with
 | nil =>
  intro l hl
  have:l=[]:=by simpa using hl
  subst this;exact ⟨[],.nil,rfl⟩
 | cons x _ ih =>
  intro l hl
  cases l with
  | nil=>cases hl
  | cons a l =>
   simp only [List.map_cons,List.cons.injEq] at hl
   obtain ⟨l',h1,h2⟩:=ih hl.2
   exact ⟨a::l',h1.cons a,by simp [h2,hl.1]⟩
 | swap x y r =>
  intro l hl
  cases l with
  | nil=>cases hl
  | cons a l =>
   cases l with
   | nil=>cases hl
   | cons b l =>
    simp only [List.map_cons,List.cons.injEq] at hl
    obtain ⟨h1,h2,h3⟩:=hl
    exact ⟨b::a::l,.swap a b l,by simp [h1,h2,h3]⟩
 | trans _ _ ih1 ih2 =>
  intro l hl
  obtain ⟨l1,h1,h2⟩:=ih2 hl
  obtain ⟨l2,h3,h4⟩:=ih1 h2
  exact ⟨l2,h3.trans h1,h4⟩
theorem Yp (l:List (ByteArray×Int)) : (smK l).zip (smV l)=l.map fun p=>(DV.s p.1,DV.i .i64 p.2):=by
 induction l with
 | nil=>rfl
 | cons p l ih=>simp only [smK,smV,List.map_cons,List.zip_cons_cons] at ih ⊢;rw [ih]
section
variable {P:Program} {C:Cx} {X:Snap} {o:Oper} {ops:Array Oper} {Q:Exit→Env→Ab→Prop} {env env':Env} {H H':Ab} {a:Act} {w w':World} {I I':Nat→Prop} {μ μ':List Nat} {O O':Nat→Option Loc}
 {K:Env→Ab→Prop} {k:Nat} {l:List Oper}
theorem Sim.mr (hs:Sim P X env H a w I μ O) {x:Operand} {id:Nat} (hv:Go.FL.lk env x=.mr id) : ∃ blk,μ[id]?=some blk∧a.eval x=.map (some blk):=by
 obtain ⟨bs,h⟩:=hs.lk (x:=x) (by rw [hv];rfl)
 rw [hv] at h
 generalize a.eval x=u at h
 cases h with
 | mr _ blk h=>exact ⟨blk,h,rfl⟩
theorem Sim.moAt (hs:Sim P X env H a w I μ O) {id:Nat} {m:List (ByteArray×Int)} (hH:H[id]?=some (.mo (smK m) (smV m))) {blk:Nat} (hm:μ[id]?=some blk) : ∃ es c,w.heap[blk]?=some (.map es c)∧EntS es.toList m:=by
 obtain ⟨b,bs,h1,⟨_,es,c,h2,h3,h4⟩,_⟩:=hs.heap id _ hH
 rw [hm] at h1;cases h1
 exact ⟨es,c,h2,P3 h3 h4⟩
theorem Aac (v:Int) (b:Bool) : Rep w I (.tup [.i .i64 v,.b b]) (.tuple #[.int .i64 v,.bool b]):=.tup _ [.int .i64 v,.bool b] (.cons (.i _ _) (.cons (.b _) .nil))
theorem Ab3 {x y:Operand} {ty kt et id:Nat} {z:ByteArray} (m:SM) (hH:H[id]?=some m.mo) (hu:P.underlying ty=some (.map kt et)) (hk:P.underlying kt=some .string) (hz:∀ w,(zeroValue et).run P w=.ok (.int .i64 0) w)
  (ho:o.op=.lookup ty x y true:=by rfl) (hx:lk env x=.mr id:=by rfl) (hy:AU (lk env y)=some (.s z):=by rfl):VOK P C o env H (.d (.tup [.i .i64 ((m.get z).getD 0),.b (m.get z).isSome])) :=
 .same (by simp [ho]) fun X a w I μ O _ hs=>by
  obtain ⟨blk,h1,h2⟩:=hs.mr hx
  obtain ⟨es,c,h3,h4⟩:=hs.moAt hH h1
  have h5:=hs.deep (x:=y) hy
  generalize hev:a.eval y=u at h5
  cases h5
  exact ⟨.tuple #[.int .i64 ((BO m.1 z).getD 0),.bool (BO m.1 z).isSome],by simp only [execOp,ho,h2,hev,Lr hu hk (hz w) h3 h4,Sem.run_bind,Result.andThen_ok,Sem.run_pure],Aac _ _⟩
theorem Ab9 {x y:Operand} {ty kt et:Nat} {z:ByteArray} (m:SM) (hu:P.underlying ty=some (.map kt et)) (hk:P.underlying kt=some .string) (hz:∀ w,(zeroValue et).run P w=.ok (.int .i64 0) w)
  (ho:o.op=.lookup ty x y true:=by rfl) (hx:AU (lk env x)=some m.mp:=by rfl) (hy:AU (lk env y)=some (.s z):=by rfl):VOK P C o env H (.d (.tup [.i .i64 ((m.get z).getD 0),.b (m.get z).isSome])) :=
 .same (by simp [ho]) fun X a w I μ O _ hs=>by
  have h1:=hs.deep (x:=x) hx
  have h5:=hs.deep (x:=y) hy
  generalize hev:a.eval y=u at h5
  cases h5
  generalize hev2:a.eval x=u2 at h1
  cases h1 with
  | mp _ _ ks' vs' r es c hI hh h3 h4 hp hl =>
   rw [Yp] at hp
   obtain ⟨l',q1,q2⟩:=Ra (f:=fun p:ByteArray×Int=>(DV.s p.1,DV.i .i64 p.2)) (l:=m.1) hp rfl
   have hl':ks'.length=vs'.length:=by rw [h3.length,h4.length,List.length_map,List.length_map]
   have e1:ks'=smK l':=by
    have:(ks'.zip vs').map Prod.fst=ks':=by rw [List.map_fst_zip (by omega)]
    rw [← this,← q2,smK,List.map_map];rfl
   have e2:vs'=smV l':=by
    have:(ks'.zip vs').map Prod.snd=vs':=by rw [List.map_snd_zip (by omega)]
    rw [← this,← q2,smV,List.map_map];rfl
   subst e1 e2
   have hg:BO l' z=m.get z:=Se q1 ((q1.map Prod.fst).symm.nodup m.2) z
   refine ⟨.tuple #[.int .i64 ((BO l' z).getD 0),.bool (BO l' z).isSome],by simp only [execOp,ho,hev,hev2,Lr hu hk (hz w) hh (P3 h3 h4),Sem.run_bind,Result.andThen_ok,Sem.run_pure],?_⟩
   rw [hg];exact Aac _ _
theorem Abq {c:Call} {x:Operand} {ty kt et id:Nat} (m:SM) (hH:H[id]?=some m.mo) (hu:P.underlying ty=some (.map kt et)) (ho:o.op=.call c:=by rfl) (hc:c.callee=.builtin .len:=by rfl) (hx:c.args=#[x]:=by rfl) (hty:c.argTypes=#[ty]:=by rfl)
  (hv:lk env x=.mr id:=by rfl):VOK P C o env H (.d (.i .i64 m.len)) :=
 .same (by simp [ho]) fun X a w I μ O _ hs=>by
  obtain ⟨blk,h1,h2⟩:=hs.mr hv
  obtain ⟨es,cl,h3,h4⟩:=hs.moAt hH h1
  have hn:es.size=m.len:=by
   have:=congrArg List.length h4
   simpa [SM.len] using this
  refine ⟨.int .i64 m.len,?_,.i _ _⟩
  have hr:(Builtin.len_ #[ty] o.type #[.map (some blk)]).run P w=.ok (goInt m.len) w:=by
   simp [Builtin.len_,run_underlying hu,I4 h3,hn]
  simp [execOp,ho,resolve,hc,hx,hty,invoke,builtin,h2,hr,goInt]
theorem Sim.moSet (hs:Sim P X env H a w I μ O) {id blk:Nat} {ks vs ks' vs':List DV} {es:Array MapEntry} {c:Nat} (hH:H[id]?=some (.mo ks vs)) (hm:μ[id]?=some blk) (hn:X.n0≤id) (hk:RepAll w I ks' (es.toList.map MapEntry.key)) (hv:RepAll w I vs' (es.toList.map MapEntry.val)) :
  Sim P X env (H.set id (.mo ks' vs')) a {w with heap:=w.heap.setIfInBounds blk (.map es c)} I μ O:=by
 have hlt:id<H.length:=(lS.1 hH).1
 obtain ⟨b0,bs0,h1,⟨h2,_⟩,h3,_⟩:=hs.heap id _ hH
 rw [hm] at h1;cases h1
 subst h2
 have hOb:O blk=some (.o id):=(h3 hn).2 blk (by simp)
 have hbl:blk<w.heap.size:=(hs.own blk _ hOb).1
 have hoth:∀ b,b≠blk→(w.heap.setIfInBounds blk (.map es c))[b]?=w.heap[b]?:=fun b hb=>by rw [Array.getElem?_setIfInBounds,if_neg (Ne.symm hb)]
 have hI:∀ b,I b→b≠blk:=fun b hi e=>by subst e;exact (hs.own b _ hOb).2 hi
 have hobj:∀ id' ob bb bs,id'≠id→H[id']?=some ob→μ[id']?=some bb→(X.n0≤id'→(bb::bs).Nodup∧∀ b∈bb::bs,O b=some (.o id'))→(id'<X.n0→∀ b∈bb::bs,X.K b)→∀ b∈bb::bs,b≠blk:=fun id' ob bb bs hne _ _ g3 g4 b hb e=>by
  subst e
  rcases Nat.lt_or_ge id' X.n0 with h|h
  ·have:=hs.kO _ (g4 h b hb);rw [hOb] at this;cases this
  ·have:=(g3 h).2 b hb;rw [hOb] at this;simp at this;exact hne this.symm
 have hII:∀ b,I b→(w.heap.setIfInBounds blk (.map es c))[b]?=w.heap[b]?:=fun b hi=>hoth b (hI b hi)
 refine {hs.toMem with
  prot:=fun b hk=>(hoth b fun e=>by subst e;have:=hs.kO b hk;rw [hOb] at this;cases this).trans (hs.prot b hk)
  size:=by simpa using hs.size
  own:=fun b l h=>by simpa using hs.own b l h
  ilt:=fun b hi=>by simpa using hs.ilt b hi
  μlen:=by simpa using hs.μlen
  nle:=by simpa using hs.nle
  heap:=fun id' ob ho=>?_
  envr:=fun t=>?_
  nt:=hs.nt
  dfs:=hs.dfs}
 ·by_cases hid:id=id'
  ·subst hid
   rw [List.getElem?_set_self hlt] at ho
   cases ho
   refine ⟨blk,[],hm,⟨rfl,es,c,?_,hk.keep hII fun _ h=>h,hv.keep hII fun _ h=>h⟩,h3,fun h=>absurd h (by omega)⟩
   show (w.heap.setIfInBounds blk _)[blk]?=_
   rw [Array.getElem?_setIfInBounds,if_pos rfl,if_pos hbl]
  ·rw [List.getElem?_set_ne hid] at ho
   obtain ⟨bb,bs,g1,g2,g3,g4⟩:=hs.heap id' ob ho
   have hne:=hobj id' ob bb bs (Ne.symm hid) ho g1 g3 g4
   refine ⟨bb,bs,g1,?_,g3,g4⟩
   cases ob with
   | box cs =>
    obtain ⟨cells,e,k1,k2⟩:=g2
    exact ⟨cells,e,(hoth bb (hne bb (by simp))).trans k1,k2.keep (fun _ h=>h) hII (fun _ _ h=>h) fun b hb=>hoth b (hne b (by simp [hb]))⟩
   | mo _ _=>exact ⟨g2.1,g2.2.keep (hoth bb (hne bb (by simp))) hII fun _ h=>h⟩
 ·refine (hs.envr t).keepG (fun _ h=>h) hII (fun _ _ h=>h) (fun b hb=>⟨hoth b fun e=>by subst e;rw [hOb] at hb;simp at hb,hb⟩) fun p e xs hp=>?_
  cases p with
  | t r=>exact ⟨hp,fun v hv=>hv⟩
  | c id' off =>
   have hne:id≠id':=fun e=>by subst e;simp only [AB,hH] at hp;cases hp
   refine ⟨by simp only [AB] at hp ⊢;rw [List.getElem?_set_ne hne];exact hp,fun v hv=>?_⟩
   simp only [AT,Option.bind_eq_some_iff] at hv ⊢
   obtain ⟨b,q1,q2⟩:=hv
   refine ⟨b,q1,?_⟩
   have hid':id'<H.length:=by rw [← hs.μlen];exact (lS.1 q1).1
   obtain ⟨bb,bs,g1,g2,g3,g4⟩:=hs.heap id' _ (lG hid')
   rw [q1] at g1;cases g1
   have:=hobj id' _ b bs (Ne.symm hne) (lG hid') q1 g3 g4 b (by simp)
   rw [World.cell?_of_block (w:=w) (a:=⟨b,off,none⟩) (hoth b this)];exact q2
theorem Aal {x y z:Operand} {ty kt et id:Nat} {ky:ByteArray} {v:Int} (m:SM) (hH:H[id]?=some m.mo) (hu:P.underlying ty=some (.map kt et)) (hk:P.underlying kt=some .string) (h:RL P C ops Q (k+1) l env (H.set id (m.set ky v).mo)) (hn:C.n0≤id:=by exact Nat.zero_le _) (hg:grd ops env o true=true:=by rfl)
  (ho:o.op=.mapUpdate ty x y z:=by rfl) (hx:lk env x=.mr id:=by rfl) (hy:AU (lk env y)=some (.s ky):=by rfl) (hz:AU (lk env z)=some (.i .i64 v):=by rfl) (hd:o.dst=none:=by rfl):RL P C ops Q k (o::l) env H:=by
 refine .go hg (.done (by simp [ho]) hd (fun X a w I μ O _ g2 _ hs=>?_) h)
 obtain ⟨blk,h1,h2⟩:=hs.mr hx
 obtain ⟨es,c,h3,h4⟩:=hs.moAt hH h1
 have h5:=hs.deep (x:=y) hy
 have h6:=hs.deep (x:=z) hz
 generalize hev:a.eval y=u at h5
 generalize hev2:a.eval z=u2 at h6
 cases h5;cases h6
 obtain ⟨es',c',r1,r2⟩:=Rr (v:=v) (z:=ky) hu hk h3 h4
 obtain ⟨q1,q2⟩:=r2.reps (w:=w) (I:=I)
 exact ⟨{w with heap:=w.heap.setIfInBounds blk (.map es' c')},I,μ,O,by simp only [execOp,ho,h2,hev,hev2,r1,Sem.run_bind,Result.andThen_ok,Sem.run_pure],hs.moSet hH h1 (by omega) q1 q2⟩
end
end Go.FL
namespace Go.FL
open Go Go.RowKit
def FnO (P:Program) (f:FuncId) (args:List AV) (H:Ab) (post:AV→Ab→Prop) (args':List AV) : Prop :=
 ∀ (X:Snap) (w:World) (I:Nat→Prop) (μ:List Nat) (O:Nat→Option Loc) (vs:List Value) (bs:List Nat),X.w=w→X.I=I→X.n0=0→X.ne=H.length→X.μ=μ→Mem P X H w I μ O→ARepAll P w I μ args vs bs→bs.Nodup→(∀ b∈bs,O b=some .r) →
  CallsIn (om none) 0 P f vs.toArray w fun e w'=>∃ v I' μ' O' H' r rs bs',e=.returned v∧Mem P X H' w' I' μ' O'∧ARep P w' I' μ' r v rs∧ARepAll P w' I' μ' args' (vs.take args'.length) bs'∧(rs++bs').Nodup∧(∀ b∈rs++bs',∃ n,O' b=some (.t n))∧post r H'
def Abt (rs:List ResultVar) (post:AV→Ab→Prop) (args':List AV) : Exit→Env→Ab→Prop
 | .normal,env,H=>∃ r,EM env r rs∧(∀ (i:Nat) c,args'[i]?=some c→get env i=c∧AH c=false∧.tmp i∉rs)∧post r H
 | .ret,env,H=>∃ r,EM env r rs∧(∀ (i:Nat) c,args'[i]?=some c→get env i=c∧AH c=false∧.tmp i∉rs)∧post r H
 | _,_,_=>False
def mpV (id:Nat) (d:DV) : AV→AV
 | .mr i=>if i=id then .d d else .mr i
 | .bp i off=>if i<id then .bp i off else .un
 | .d v=>.d v
 | .nl=>.nl
 | .own e xs=>.own e xs
 | .nb xs=>.nb xs
 | .it s p=>.it s p
 | .om k v=>.om k v
 | .ref (.t s) o n=>.ref (.t s) o n
 | .ep (.t s) i k=>.ep (.t s) i k
 | _=>.un
def mpE (id:Nat) (d:DV) (env:Env) : Env:=env.map fun x=>(x.1,mpV id d x.2)
theorem Mf (id:Nat) (d:DV) (t:Nat) : ∀ env : Env,get (mpE id d env) t=mpV id d (get env t)
 | []=>rfl
 | (s,v)::r=>by
  show (if s=t then mpV id d v else get (mpE id d r) t)=mpV id d (if s=t then v else get r t)
  split
  ·rfl
  ·exact Mf id d t r
def mpC (id:Nat) : AV→Bool
 | .mr i=>Nat.ble i id
 | .bp i _=>Nat.blt i id
 | c=>noBp c
def mpO (id:Nat) (d:DV) : HO→HO
 | .box cs=>.box (cs.map fun c=>match c with
  | .mr i=>if i=id then .d d else .mr i
  | c=>c)
 | o=>o
def Aau (id:Nat) : HO→Bool
 | .box cs=>cs.all (mpC id)
 | _=>true
section
variable {P:Program} {C:Cx} {X:Snap} {o:Oper} {ops:Array Oper} {Q:Exit→Env→Ab→Prop} {env env':Env} {H H':Ab} {a:Act} {w w':World} {I I':Nat→Prop} {μ μ':List Nat} {O O':Nat→Option Loc}
 {K:Env→Ab→Prop} {k:Nat} {l:List Oper}
theorem FnO.of {f:FuncId} {fn:Func} {c:Code} {args args':List AV} {post:AV→Ab→Prop} {rs:List ResultVar} (lo nt:Nat) (hf:P.funcs[f]?=some fn) (hb:fn.body=some c) (hrs:fn.results=rs.toArray) (hnt:fn.ntmps=nt) (hn:args.length≤nt) (hlo:args'.length≤lo)
  (hlo':lo≤args.length) (h:AW P {nt:=(lo,nt),n0:=0,ne:=H.length} c (Abt rs post args') (RC 0 args []) H):FnO P f args H post args':=by
 intro X w I μ O vs bs e1 e2 e3 e4 e5 hm ha hnd hbO
 refine callsIn_of_wp hf hb trivial ?_
 have hlen:=ha.length
 let a:Act:={tmps:=vs.toArray++Array.replicate (fn.ntmps-vs.toArray.size) undef,defers:=[]}
 let Y:Snap:={X with nt:=(lo,nt),dfs:=[],args:=vs}
 have hat:∀ (j:Nat) (v:Value),vs[j]?=some v→a.tmps.getD j undef=v:=fun j v hj=>by
  have hjl:j<vs.length:=(lS.1 hj).1
  have e2:(vs.toArray++Array.replicate (fn.ntmps-vs.length) undef)[j]?=some v:=by
   rw [Array.getElem?_append_left (by simpa using hjl)];simpa using hj
  simp [a,e2]
 have hs0:Sim P Y [] H a w I μ O:=by
  refine ⟨hm.cast rfl rfl rfl rfl rfl rfl,fun t=>.un,by simp [a,Y,hnt];omega,rfl,fun t ht=>?_⟩
  have htl:t<vs.length:=by simp only [Y] at ht;omega
  rw [hat t vs[t] (lG htl)]
  simp [Y,List.getD_eq_getElem?_getD,htl]
 obtain ⟨O1,hs⟩:=hs0.adoptAll (k:=0) ha hnd hbO (fun _ _=>rfl) fun j v hj=>by rw [Nat.zero_add];exact hat j v hj
 have hw:=h Y a w I μ O1 rfl e3 e4 hs
 refine wpIn_mono hw fun e a' w' hp=>?_
 obtain ⟨env',He,I',μ',O',s,q⟩:=hp
 have fin:(∃ r,EM env' r rs∧(∀ (i:Nat) c,args'[i]?=some c→get env' i=c∧AH c=false∧.tmp i∉rs)∧post r He)→a'.defers=[]∧∃ v,(results fn a'.tmps).run P w'=.ok v w' ∧
   ∃ v' I' μ' O' H' r rs bs',Ending.returned v=.returned v'∧Mem P X H' w' I' μ' O'∧ARep P w' I' μ' r v' rs∧ARepAll P w' I' μ' args' (vs.take args'.length) bs'∧(rs++bs').Nodup∧(∀ b∈rs++bs',∃ n,O' b=some (.t n))∧post r H':=by
  rintro ⟨r,hres,hargs,hpost⟩
  obtain ⟨v,b1,h1,h2,h3,h4⟩:=s.gives hrs hres
  obtain ⟨b2,k1,k2,k3⟩:=s.firsts rs (cs:=args') (vs:=vs) 0 (fun i c hi=>by rw [Nat.zero_add];exact hargs i c hi) fun i hi=>by
   have htl:i<vs.length:=by omega
   rw [Nat.zero_add,s.dfs.2 i (by simp only [Y];omega)]
   simp [Y,List.getD_eq_getElem?_getD,htl]
  refine ⟨s.dfs.1,v,h1,v,I',μ',O',He,r,b1,b2,rfl,s.toMem.cast rfl rfl rfl rfl rfl rfl,h2,k1,?_,fun b hb=>?_,hpost⟩
  ·refine List.nodup_append.2 ⟨h3,k2,fun x hx y hy e=>?_⟩
   subst e
   obtain ⟨t,g1,g2⟩:=h4 x hx
   obtain ⟨t',_,g3,g4⟩:=k3 x hy
   rw [g1] at g3;simp at g3;subst g3
   exact g4 g2
  ·rcases List.mem_append.1 hb with hb|hb
   ·obtain ⟨t,g1,_⟩:=h4 b hb;exact ⟨t,g1⟩
   ·obtain ⟨t,_,g1,_⟩:=k3 b hb;exact ⟨t,g1⟩
 cases e with
 | normal=>exact fin q
 | ret=>exact fin q
 | _=>exact q.elim
theorem OpOK.callOL {c:Call} {f:FuncId} {avs:List AV} {post:AV→Ab→Prop} {s t0:Nat} {xa:List Operand} {e:TypeId} {xs xs':List DV} (ho:o.op=.call c) (hc:c.callee=.value (.func f)) (hx:c.args.toList=.tmp s::xa) (hv:get env s=.ref (.t t0) 0 xs.length) (hp:get env t0=.own e xs)
  (ha:argsA (put env t0 .un) xa=some avs) (hcr:Bl (put env t0 .un)=false) (hn0:C.n0=0)
  (hcall:∀ args w,(callFunc f args).run P w=.ok (.enter f args) w) (hfn:FnO P f (.own e xs::avs) H post [.own e xs']) (hd:∀ t,o.dst=some t→okT C.nt t)
  (hK:∀ r H',post r H'→K (match o.dst with|some t=>put ((t0,.own e xs')::put env t0 .un) t r|none=>(t0,.own e xs')::put env t0 .un) H'):OpOK P C o env H K:=by
 intro X a w I μ O next Q h1 h2 h3 hs hn
 refine ⟨fun _ _=>trivial,?_⟩
 rw [Oper.semAt_eq _ _ _ (by simp [ho]),I9 ho hc hcall,Oper.uponIn_enter]
 refine ⟨fun h=>(by simp [om] at h),?_⟩
 have hrs:=hs.envr s
 rw [hv] at hrs
 obtain ⟨e',ys,A,n,cc,g1,g2,g3,A',c',p1,p2,p3,p4⟩:=hrs
 have hee:AV.own e xs=.own e' ys:=hp.symm.trans g1
 cases hee
 obtain ⟨rfl,rfl⟩:=p3 rfl
 simp only [AT,Option.some.injEq] at g2
 obtain ⟨k1,bs,k2,k3,k4⟩:=hs.take t0 (by rw [hp];rfl)
 rw [hp,g2] at k2
 have hnl:n=xs.length:=(D0 k2).1
 subst hnl
 have hval:a.eval (.tmp s)=a.tmps.getD t0 undef:=by rw [g2];exact p1
 obtain ⟨Y,O2,y1,y2,y3,y4,y5,ym,yb,yk⟩:=k1.over (by omega) hcr bs k4
 have hargs:ARepAll P w I μ (.own e xs::avs) (c.args.toList.map a.eval) bs:=by
  rw [hx,List.map_cons,hval,g2]
  have:=ARepAll.cons k2 (k1.argsA ha)
  simpa using this
 have hcl:=hfn Y w I μ O2 _ bs y1 y2 y3 y4 y5 ym hargs k3 yb
 refine ⟨trivial,fun csF hroom=>?_⟩
 obtain ⟨e',w',fr,⟨v,I',μ',O',Hn,r,rs,bs',rfl,q1,q2,q3,q4,q5,q6⟩,s',x⟩:=hcl.2 csF (room_wide _)
 refine ⟨.returned v,w',fr,?_,s',x⟩
 obtain ⟨On,m1,m2⟩:=yk q1 (rs:=rs++bs') q5
 obtain ⟨n1,n2,n3⟩:=List.nodup_append.1 q4
 have hq3:ARep P w' I' μ' (.own e xs') (a.tmps.getD t0 undef) bs':=by
  rw [hx,List.map_cons,hval] at q3
  simp only [List.length_cons,List.length_nil,Nat.zero_add,List.take_succ_cons,List.take_zero] at q3
  cases q3 with
  | cons h t=>cases t;simpa using h
 have j1:=m1.adopt hq3 n2 (fun b hb=>m2 b (by simp [hb])) (by simp [put,get,Ak])
 have hh:Hand P w' I' μ' (fun b=>if b∈bs' then some (.t t0) else On b) r v:=⟨rs,q2,n1,fun b hb=>by show (if b∈bs' then _ else _)=_;rw [if_neg fun hm=>n3 b hb b hm rfl];exact m2 b (by simp [hb])⟩
 show next (a.put o.dst v) w'
 have hK:=hK r Hn q6
 cases hdst:o.dst with
 | none=>exact hn _ _ _ _ _ _ _ j1 (by rw [hdst] at hK;exact hK)
 | some t=>exact hn _ _ _ _ _ _ _ (j1.put_hand (by rw [h1];exact hd t hdst) hh) (by rw [hdst] at hK;exact hK)
theorem OpOK.callOM {c:Call} {f:FuncId} {as1 as2:List AV} {post:AV→Ab→Prop} {s t0:Nat} {x1 x2:List Operand} {e:TypeId} {xs:List DV} (ho:o.op=.call c) (hc:c.callee=.value (.func f)) (hx:c.args.toList=x1++.tmp s::x2) (hv:get env s=.ref (.t t0) 0 xs.length∨s=t0) (hp:get env t0=.own e xs)
  (ha1:argsA (put env t0 .un) x1=some as1) (ha2:argsA (put env t0 .un) x2=some as2) (hcr:Bl (put env t0 .un)=false) (hn0:C.n0=0)
  (hcall:∀ args w,(callFunc f args).run P w=.ok (.enter f args) w) (hfn:FnO P f (as1++.own e xs::as2) H post []) (hd:∀ t,o.dst=some t→okT C.nt t)
  (hK:∀ r H',post r H'→K (match o.dst with|some t=>put (put env t0 .un) t r|none=>put env t0 .un) H'):OpOK P C o env H K:=by
 intro X a w I μ O next Q h1 h2 h3 hs hn
 refine ⟨fun _ _=>trivial,?_⟩
 rw [Oper.semAt_eq _ _ _ (by simp [ho]),I9 ho hc hcall,Oper.uponIn_enter]
 refine ⟨fun h=>(by simp [om] at h),?_⟩
 obtain ⟨k1,bs,k2,k3,k4⟩:=hs.take t0 (by rw [hp];rfl)
 rw [hp] at k2
 have hval:a.eval (.tmp s)=a.tmps.getD t0 undef:=by
  rcases hv with hv|rfl
  ·have hrs:=hs.envr s
   rw [hv] at hrs
   obtain ⟨e',ys,A,n,cc,g1,g2,g3,A',c',p1,p2,p3,p4⟩:=hrs
   have hee:AV.own e xs=.own e' ys:=hp.symm.trans g1
   cases hee
   obtain ⟨rfl,rfl⟩:=p3 rfl
   simp only [AT,Option.some.injEq] at g2
   rw [g2] at k2
   have hnl:n=xs.length:=(D0 k2).1
   subst hnl
   rw [g2];exact p1
  ·rfl
 obtain ⟨Y,O2,y1,y2,y3,y4,y5,ym,yb,yk⟩:=k1.over (by omega) hcr bs k4
 have hargs:ARepAll P w I μ (as1++.own e xs::as2) (c.args.toList.map a.eval) bs:=by
  rw [hx,List.map_append,List.map_cons,hval]
  have:=(k1.argsA ha1).append (ARepAll.cons k2 (k1.argsA ha2))
  simpa using this
 have hcl:=hfn Y w I μ O2 _ bs y1 y2 y3 y4 y5 ym hargs k3 yb
 refine ⟨trivial,fun csF hroom=>?_⟩
 obtain ⟨e',w',fr,⟨v,I',μ',O',Hn,r,rs,bs',rfl,q1,q2,q3,q4,q5,q6⟩,s',x⟩:=hcl.2 csF (room_wide _)
 refine ⟨.returned v,w',fr,?_,s',x⟩
 obtain ⟨On,m1,m2⟩:=yk q1 (rs:=rs++bs') q5
 obtain ⟨n1,n2,n3⟩:=List.nodup_append.1 q4
 have hh:Hand P w' I' μ' On r v:=⟨rs,q2,n1,fun b hb=>m2 b (by simp [hb])⟩
 show next (a.put o.dst v) w'
 have hK:=hK r Hn q6
 cases hdst:o.dst with
 | none=>exact hn _ _ _ _ _ _ _ m1 (by rw [hdst] at hK;exact hK)
 | some t=>exact hn _ _ _ _ _ _ _ (m1.put_hand (by rw [h1];exact hd t hdst) hh) (by rw [hdst] at hK;exact hK)
theorem Aa5 {c:Call} {f t s t0:Nat} {avs:List AV} {post:AV→Ab→Prop} {xa:List Operand} {e:TypeId} {xs xs':List DV} (hfn:FnO P f (.own e xs::avs) H post [.own e xs']) (hcall:∀ args w,(callFunc f args).run P w=.ok (.enter f args) w)
  (h:∀ r H',post r H'→RL P C ops Q (k+1) l (put ((t0,.own e xs')::put env t0 .un) t r) H') (hg:grd ops env o true=true:=by rfl) (ho:o.op=.call c:=by rfl) (hc:c.callee=.value (.func f):=by rfl) (hx:c.args.toList=.tmp s::xa:=by rfl) (hv:get env s=.ref (.t t0) 0 xs.length:=by rfl) (hp:get env t0=.own e xs:=by rfl)
  (ha:argsA (put env t0 .un) xa=some avs:=by rfl) (hcr:Bl (put env t0 .un)=false:=by rfl) (hd:o.dst=some t:=by rfl) (ht:okT C.nt t:=by rfl) (h0:C.n0=0:=by rfl):RL P C ops Q k (o::l) env H :=
 .go hg (OpOK.callOL ho hc hx hv hp ha hcr h0 hcall hfn (fun t' h'=>by rw [hd] at h';cases h';exact ht) fun r H' hp=>by rw [hd];exact h r H' hp)
theorem YN {c:Call} {f t s t0:Nat} {as1 as2:List AV} {post:AV→Ab→Prop} (x1 x2:List Operand) {e:TypeId} {xs:List DV} (hfn:FnO P f (as1++.own e xs::as2) H post []) (hcall:∀ args w,(callFunc f args).run P w=.ok (.enter f args) w)
  (h:∀ r H',post r H'→RL P C ops Q (k+1) l (put (put env t0 .un) t r) H') (hv:get env s=.ref (.t t0) 0 xs.length∨s=t0) (hg:grd ops env o true=true:=by rfl) (ho:o.op=.call c:=by rfl) (hc:c.callee=.value (.func f):=by rfl) (hx:c.args.toList=x1++.tmp s::x2:=by rfl) (hp:get env t0=.own e xs:=by rfl)
  (ha1:argsA (put env t0 .un) x1=some as1:=by rfl) (ha2:argsA (put env t0 .un) x2=some as2:=by rfl) (hcr:Bl (put env t0 .un)=false:=by rfl) (hd:o.dst=some t:=by rfl) (ht:okT C.nt t:=by rfl) (h0:C.n0=0:=by rfl):RL P C ops Q k (o::l) env H :=
 .go hg (OpOK.callOM ho hc hx hv hp ha1 ha2 hcr h0 hcall hfn (fun t' h'=>by rw [hd] at h';cases h';exact ht) fun r H' hp=>by rw [hd];exact h r H' hp)
theorem Gh2.popMo {H0:Ab} {ks vs:List DV} (hH:H=H0++[.mo ks vs]) (hkv:ks.length=vs.length) (hb0:H0.all (Aau H0.length)=true) (hne:Nat.ble C.ne H0.length=true) : Gh2 P C env H (mpE H0.length (.mp ks vs) env) (H0.map (mpO H0.length (.mp ks vs))):=fun X a w I μ O _ h2 h3 hs=>by
 subst hH
 obtain ⟨blk,bs,k1,⟨m0,es,cl,m1,m2,m3⟩,k3,_⟩:=hs.heap H0.length (.mo ks vs) (by simp)
 have hne':X.ne≤H0.length:=by rw [h3];exact Nat.le_of_ble_eq_true hne
 have hn0:X.n0≤H0.length:=nT hs.n0le hne'
 have hOb:O blk=some (.o H0.length):=(k3 hn0).2 blk (by simp)
 have hbl:blk<w.heap.size:=(hs.own blk _ hOb).1
 have hμt:∀ i,i<H0.length→(μ.take H0.length)[i]?=μ[i]?:=fun i hi=>by rw [List.getElem?_take,if_pos hi]
 have hOn:∀ b l,O b=some l→l≠.o H0.length→(if b=blk then none else O b)=some l:=fun b l h hl=>by
  rw [if_neg fun e=>hl (by subst e;rw [hOb] at h;exact (oI h).symm)];exact h
 have hd:Rep w (fun b=>I b∨b=blk) (.mp ks vs) (.map (some blk)):=.mp ks vs ks vs blk es cl (.inr rfl) m1 (m2.keep (fun _ _=>rfl) fun _ h=>.inl h) (m3.keep (fun _ _=>rfl) fun _ h=>.inl h) (List.Perm.refl _) hkv
 have hcell:∀ {c:AV} {v:Value} {b2:List Nat},mpC H0.length c=true→ARep P w I μ c v b2→ARep P w (fun b=>I b∨b=blk) (μ.take H0.length) (match c with|.mr i=>if i=H0.length then .d (.mp ks vs) else .mr i|c=>c) v b2:=by
  intro c v b2 hc hr
  cases hr with
  | mr id b hb =>
   show ARep P w _ _ (if id=H0.length then .d (.mp ks vs) else .mr id) _ _
   by_cases hi:id=H0.length
   ·rw [if_pos hi]
    subst hi
    rw [k1] at hb;cases hb
    exact .d hd
   ·rw [if_neg hi]
    have:id≤H0.length:=Nat.le_of_ble_eq_true hc
    exact .mr id b (by rw [hμt id (by omega)];exact hb)
  | bp id off b hb =>
   have:id<H0.length:=by
    have h0:=hc
    simp [mpC,Nat.blt] at h0
    omega
   exact .bp id off b (by rw [hμt id this];exact hb)
  | un v=>exact .un v
  | d h=>exact .d (h.keep (fun _ _=>rfl) fun _ h=>.inl h)
  | nl=>exact .nl
  | own e xs v vs h1 h2 h3=>exact ((ARep.own (μ:=μ) e xs v vs h1 h2 h3).noBp (μ':=μ.take H0.length) hc).keep (fun _ h=>.inl h) (fun _ _=>rfl) (fun _ _ h=>h) fun _ _=>rfl
  | ag h=>exact ((ARep.ag h).noBp (μ':=μ.take H0.length) hc).keep (fun _ h=>.inl h) (fun _ _=>rfl) (fun _ _ h=>h) fun _ _=>rfl
  | fn h1 h2=>exact ((ARep.fn h1 h2).noBp (μ':=μ.take H0.length) hc).keep (fun _ h=>.inl h) (fun _ _=>rfl) (fun _ _ h=>h) fun _ _=>rfl
  | tup h=>exact ((ARep.tup h).noBp (μ':=μ.take H0.length) hc).keep (fun _ h=>.inl h) (fun _ _=>rfl) (fun _ _ h=>h) fun _ _=>rfl
  | nb cs b cells e hh hr=>exact ((ARep.nb (P:=P) (μ:=μ) cs b cells e hh hr).noBp (μ':=μ.take H0.length) hc).keep (fun _ h=>.inl h) (fun _ _=>rfl) (fun _ _ h=>h) fun _ _=>rfl
  | it s pos b hh=>exact .it s pos b hh
  | om a1 a2 a3 a4 b es c hh hk hv hp hl=>exact .om a1 a2 a3 a4 b es c hh (hk.keep (fun _ _=>rfl) fun _ h=>.inl h) (hv.keep (fun _ _=>rfl) fun _ h=>.inl h) hp hl
 have hcells:∀ {cs:List AV} {us:List Value} {b2:List Nat},cs.all (mpC H0.length)=true→ARepAll P w I μ cs us b2→ARepAll P w (fun b=>I b∨b=blk) (μ.take H0.length) (cs.map fun c=>match c with|.mr i=>if i=H0.length then .d (.mp ks vs) else .mr i|c=>c) us b2:=by
  intro cs
  induction cs with
  | nil=>intro us b2 _ h;cases h;exact .nil
  | cons c cs ih =>
   intro us b2 hc h
   simp only [List.all_cons,Bool.and_eq_true] at hc
   cases h with
   | cons h t=>exact .cons (hcell hc.1 h) (ih hc.2 t)
 refine ⟨fun b=>I b∨b=blk,μ.take H0.length,fun b=>if b=blk then none else O b,{
  prot:=hs.prot
  kO:=fun b hk=>by
   by_cases hb:b=blk
   ·rw [if_pos hb]
   ·rw [if_neg hb];exact hs.kO b hk
  kI:=fun b hk hi=>hi.elim (hs.kI b hk) fun e=>by subst e;have:=hs.kO _ hk;rw [hOb] at this;cases this
  mono:=fun b hi=>.inl (hs.mono b hi)
  os:=hs.os,tape:=hs.tape,output:=hs.output,size:=hs.size
  own:=fun b l hl=>by
   by_cases hb:b=blk
   ·rw [if_pos hb] at hl;cases hl
   ·rw [if_neg hb] at hl;exact ⟨(hs.own b l hl).1,fun hi=>hi.elim (hs.own b l hl).2 hb⟩
  ilt:=fun b hi=>hi.elim (hs.ilt b) fun e=>by rw [e];exact hbl
  μlen:=by rw [List.length_take,hs.μlen];simp
  μpre:=fun i b hi hb=>by rw [hμt i (by omega)];exact hs.μpre i b hi hb
  nle:=by rw [List.length_map];exact hne'
  heap:=fun id ob ho=>?_
  klt:=hs.klt
  n0le:=hs.n0le
  envr:=fun s=>?_
  nt:=hs.nt
  dfs:=hs.dfs}⟩
 ·rw [List.getElem?_map] at ho
  cases hx:H0[id]? with
  | none=>rw [hx] at ho;cases ho
  | some ob0 =>
   rw [hx] at ho
   simp only [Option.map_some,Option.some.injEq] at ho
   subst ho
   have hlt:=(lS.1 hx).1
   obtain ⟨bb,bs',q1,q2,q3,q4⟩:=hs.heap id ob0 (by rw [List.getElem?_append_left hlt];exact hx)
   refine ⟨bb,bs',by rw [hμt id hlt];exact q1,?_,fun hn=>⟨(q3 hn).1,fun b hb=>hOn b _ ((q3 hn).2 b hb) (by simp;omega)⟩,q4⟩
   have hok:Aau H0.length ob0=true:=List.all_eq_true.1 hb0 ob0 (List.mem_of_getElem? hx)
   cases ob0 with
   | box c =>
    obtain ⟨cl,et,n1,n2⟩:=q2
    exact ⟨cl,et,n1,hcells hok n2⟩
   | mo _ _=>exact ⟨q2.1,q2.2.keep rfl (fun _ _=>rfl) fun _ h=>.inl h⟩
 ·rw [Mf]
  have ht:=hs.envr s
  have plain:∀ av,get env s=av→noBp av=true→AH av=false→TRep P (mpE H0.length (.mp ks vs) env) (H0.map (mpO H0.length (.mp ks vs))) a w (fun b=>I b∨b=blk) (μ.take H0.length) (fun b=>if b=blk then none else O b) s av:=by
   intro av hav hn hr
   rw [hav] at ht
   obtain ⟨bs,g1,g2,g3⟩:=ht.plain hr
   exact .of ((g1.noBp (μ':=μ.take H0.length) hn).keep (fun _ h=>.inl h) (fun _ _=>rfl) (fun _ _ h=>h) fun _ _=>rfl) g2 fun b hb=>hOn b _ (g3 b hb) (by simp)
  cases hgs:get env s with
  | mr i =>
   rw [hgs] at ht
   obtain ⟨bs,g1,g2,g3⟩:=ht.plain rfl
   show TRep P _ _ a w _ _ _ s (if i=H0.length then .d (.mp ks vs) else .mr i)
   generalize hv:a.tmps.getD s undef=v at g1
   cases g1 with
   | mr _ b hb =>
    by_cases hi:i=H0.length
    ·rw [if_pos hi]
     subst hi
     rw [k1] at hb;cases hb
     refine .of (bs:=[]) ?_ nN (by simp)
     rw [hv];exact .d hd
    ·rw [if_neg hi]
     have hlt:=(lS.1 hb).1
     have:=hs.μlen
     simp at this
     refine .of (bs:=[]) ?_ nN (by simp)
     rw [hv]
     exact .mr i b (by rw [hμt i (by omega)];exact hb)
  | bp i off =>
   rw [hgs] at ht
   obtain ⟨bs,g1,g2,g3⟩:=ht.plain rfl
   show TRep P _ _ a w _ _ _ s (if i<H0.length then .bp i off else .un)
   split
   ·rename_i hi
    generalize hv:a.tmps.getD s undef=v at g1
    cases g1 with
    | bp _ _ b hb =>
     refine .of (bs:=[]) ?_ nN (by simp)
     rw [hv]
     exact .bp i off b (by rw [hμt i hi];exact hb)
   ·exact .un
  | ref p off len =>
   cases p with
   | c _ _=>exact .un
   | t r =>
    rw [hgs] at ht
    obtain ⟨e',xs,A,n,c,g1,g2,g3,g4⟩:=ht
    refine ⟨e',xs,A,n,c,?_,g2,g3,g4⟩
    show get (mpE H0.length (.mp ks vs) env) r=_
    rw [Mf,show get env r=_ from g1];rfl
  | ep p i k =>
   cases p with
   | c _ _=>exact .un
   | t r =>
    rw [hgs] at ht
    obtain ⟨e',xs,b,n,c,g1,g2,g3,g4,g5⟩:=ht
    refine ⟨e',xs,b,n,c,?_,g2,g3,g4,g5⟩
    show get (mpE H0.length (.mp ks vs) env) r=_
    rw [Mf,show get env r=_ from g1];rfl
  | d v=>exact plain _ hgs rfl rfl
  | nl=>exact plain _ hgs rfl rfl
  | own e xs=>exact plain _ hgs rfl rfl
  | nb xs=>exact plain _ hgs rfl rfl
  | it s p=>exact plain _ hgs rfl rfl
  | om k v=>exact plain _ hgs rfl rfl
  | un=>exact .un
  | ag _=>exact .un
  | fn _ _ _=>exact .un
  | tup _=>exact .un
end
end Go.FL
namespace Go.FL
open Go Go.RowKit
section
variable {P:Program} {C:Cx} {X:Snap} {o:Oper} {ops:Array Oper} {Q:Exit→Env→Ab→Prop} {env env':Env} {H H':Ab} {a:Act} {w w':World} {I I':Nat→Prop} {μ μ':List Nat} {O O':Nat→Option Loc}
 {K:Env→Ab→Prop} {k:Nat} {l:List Oper}
theorem Sim.storeAt {t0 i b n c oo:Nat} {e:TypeId} (ha:a.tmps.getD t0 undef=.slice (some ⟨b,0,none⟩) n c) : ∀ (us:List Value) (q k:Nat) (ds zs:List DV) (env:Env) (w:World) (xs:List DV),Sim P X env H a w I μ O →
  get env t0=.own e xs→xs[i]?=some (.ag zs)→zs.length=Ax P e→oo+q=i * Ax P e+k→k+us.length≤zs.length→(∀ w,RepAll w I ds us)→(∀ u∈us,u.oneCell'=true) →
  ∃ w',(∀ rest,(storeCells ⟨b,oo,none⟩ (us++rest) q).run P w=(storeCells ⟨b,oo,none⟩ rest (q+us.length)).run P w')∧Sim P X ((t0,.own e (xs.set i (.ag (zs.take k++ds++zs.drop (k+us.length)))))::env) H a w' I μ O
 | [],q,k,ds,zs,env,w,xs,hs,hp,hx,hl,hq,hk,hr,h1=>by
  have hr0:=hr w
  cases hr0
  have e1:xs.set i (.ag (zs.take k++[]++zs.drop (k+([]:List Value).length)))=xs:=by
   rw [List.append_nil,List.length_nil,Nat.add_zero,List.take_append_drop,List.set_same _ _ hx]
  rw [e1]
  exact ⟨w,fun rest=>rfl,hs.same fun s=>by simp only [get];split<;>simp_all⟩
 | u::us,q,k,ds,zs,env,w,xs,hs,hp,hx,hl,hq,hk,hr,h1=>by
  cases ds with
  | nil=>have:=hr w;cases this
  | cons d ds =>
   have hd:Rep w I d u:=by have:=hr w;cases this;assumption
   have ht:∀ w,RepAll w I ds us:=fun w=>by have:=hr w;cases this;assumption
   rw [List.length_cons] at hk
   have hil:i<xs.length:=(lS.1 hx).1
   have hek:Kd P env H a w μ (.t t0) i k (.pointer (some ⟨b,i * Ax P e+k,none⟩)):=⟨e,xs,b,n,c,hp,by simp only [AT];rw [ha],hil,by omega,rfl⟩
   have hu:=h1 u (by simp)
   obtain ⟨b',off,q1,⟨u0,q2⟩,q3,q4⟩:=hs.storeE (p:=.t t0) (e:=e) (xs:=xs) hp (fun _ _ h=>by cases h) hek (x':=.ag (zs.set k d)) (x0:=d) hx rfl hd hu
   simp only [Value.pointer.injEq,Option.some.injEq,Addr.mk.injEq,and_true] at q1
   obtain ⟨rfl,rfl⟩:=q1
   have hst:(store ((⟨b,oo,none⟩:Addr).add q) u).run P w=.ok () (w.setCell ⟨b,i * Ax P e+k,none⟩ u):=by
    have hadd:(⟨b,oo,none⟩:Addr).add q=⟨b,i * Ax P e+k,none⟩:=by unfold Addr.add;split<;>simp_all
    rw [hadd,run_store P w _ u _ hu,q2]
    simp [q3]
   have hkl:k<zs.length:=by omega
   have hset:(xs.set i (.ag (zs.set k d)))[i]?=some (.ag (zs.set k d)):=by simp [hil]
   have hg':get (FR (.t t0) (.own e (xs.set i (.ag (zs.set k d)))) env) t0=.own e (xs.set i (.ag (zs.set k d))):=by simp [FR,get]
   obtain ⟨w2,z1,z2⟩:=Sim.storeAt (oo:=oo) ha us (q+1) (k+1) ds (zs.set k d) _ _ _ q4 hg' hset (by simpa using hl) (by omega) (by simp;omega) ht fun u hu=>h1 u (by simp [hu])
   refine ⟨w2,fun rest=>?_,?_⟩
   ·simp only [List.cons_append,storeCells,Sem.run_bind,hst,Result.andThen_ok]
    rw [z1,List.length_cons,show q+(us.length+1)=q+1+us.length by omega]
   ·have e1:(zs.set k d).take (k+1)++ds++(zs.set k d).drop (k+1+us.length)=zs.take k++d::ds++zs.drop (k+(u::us).length):=by
     have t1:(zs.set k d).take (k+1)=zs.take k++[d]:=by
      rw [List.take_add_one,List.getElem?_set_self (by omega),List.take_set_of_le (Nat.le_refl k)];rfl
     have t2:(zs.set k d).drop (k+1+us.length)=zs.drop (k+1+us.length):=by
      rw [List.drop_set_of_lt (by omega)]
     rw [t1,t2,List.length_cons,show k+(us.length+1)=k+1+us.length by omega];simp
    rw [e1,List.set_set] at z2
    exact z2.same fun s=>by simp only [FR,get];split<;>rfl
theorem Sim.storeRows {t0 b n c oo:Nat} {e:TypeId} {z:DV} {zc:List Value} {cs:List DV} (ha:a.tmps.getD t0 undef=.slice (some ⟨b,0,none⟩) n c) (hz:z=.ag cs) (hcl:cs.length=Ax P e) (hzr:∀ w,RepAll w I cs zc) (h1:∀ u∈zc,u.oneCell'=true) : ∀ (m i q:Nat) (env:Env) (w:World) (xs:List DV),Sim P X env H a w I μ O →
  get env t0=.own e xs→(∀ x∈xs,∃ cs,x=.ag cs∧cs.length=Ax P e)→oo+q=i * Ax P e→i+m=xs.length →
  ∃ w',(storeCells ⟨b,oo,none⟩ (List.replicate m zc).flatten q).run P w=.ok () w'∧Sim P X ((t0,.own e (xs.take i++List.replicate m z))::env) H a w' I μ O
 | 0,i,q,env,w,xs,hs,hp,hx,hq,hm=>by
  have e1:xs.take i++List.replicate 0 z=xs:=by rw [List.take_of_length_le (by omega)];simp
  rw [e1]
  exact ⟨w,rfl,hs.same fun s=>by simp only [get];split<;>simp_all⟩
 | m+1,i,q,env,w,xs,hs,hp,hx,hq,hm=>by
  have hil:i<xs.length:=by omega
  obtain ⟨zs,hzs,hzl⟩:=hx xs[i] (List.getElem_mem hil)
  have hlen:=(hzr w).length
  obtain ⟨w1,r1,s1⟩:=Sim.storeAt (oo:=oo) (i:=i) ha zc q 0 cs zs env w xs hs hp (by rw [lG hil,hzs]) hzl (by omega) (by omega) hzr h1
  have e1:zs.take 0++cs++zs.drop (0+zc.length)=cs:=by rw [Nat.zero_add,List.drop_of_length_le (by omega)];simp
  rw [e1,← hz] at s1
  obtain ⟨w2,r2,s2⟩:=Sim.storeRows (oo:=oo) ha hz hcl hzr h1 m (i+1) (q+zc.length) _ w1 (xs.set i z) s1 (by simp [get]) (fun x hm=>by
   rcases List.mem_or_eq_of_mem_set hm with h|h
   ·exact hx x h
   ·exact ⟨cs,h.trans hz,hcl⟩) (by rw [Nat.succ_mul];omega) (by simp;omega)
  refine ⟨w2,?_,?_⟩
  ·rw [List.replicate_succ,List.flatten_cons,r1,r2]
  ·have e2:(xs.set i z).take (i+1)++List.replicate m z=xs.take i++List.replicate (m+1) z:=by
    rw [List.take_add_one,List.getElem?_set_self hil,List.take_set_of_le (Nat.le_refl i),List.replicate_succ];simp
   rw [e2] at s2
   exact s2.same fun s=>by simp only [get];split<;>rfl
theorem N4 (zc:Array Value) : ∀ n,(Builtin.zeroCells zc n).toList=(List.replicate n zc.toList).flatten
 | 0=>by simp [Builtin.zeroCells]
 | n+1=>by
  have:=Ox zc n
  rw [List.replicate_succ,List.flatten_cons,← N4 zc n]
  exact this
theorem Abd {α:Type} {F:List α→List DV} {x0:α} {us:List α} {cl:Call} {r t0 ty e sz by_ off len:Nat} {z:Value} {cs:List DV} (hF:∀ m,(F us).take off++List.replicate m (.ag cs)=F (us.take off++List.replicate m x0)) (hT:BX P ty=some (e,sz,by_,z)) (hzv:∀ w,(zeroValue e).run P w=.ok z w) (hzs:z.cells.size=sz)
  (hz:∀ w I,RepAll w I cs z.cells.toList) (hlf:cs.all DV.leaf=true) (hx:∀ x∈F us,∃ cs,x=.ag cs∧cs.length=sz) (hlen:off+len=(F us).length)
  (h:RL P C ops Q (k+1) l ((t0,.own e (F (us.take off++List.replicate len x0)))::env) H) (hg:grd ops env o true=true:=by rfl)
  (ho:o.op=.call cl:=by rfl) (hc:cl.callee=.builtin .clear:=by rfl) (hxa:cl.args=#[.tmp r]:=by rfl) (hty:cl.argTypes=#[ty]:=by rfl) (hv:get env r=.ref (.t t0) off len:=by rfl) (hp:get env t0=.own e (F us):=by rfl) (hd:o.dst=none:=by rfl):RL P C ops Q k (o::l) env H:=by
 obtain ⟨i,i1,i2,i3,i4,i5,i6,i7,i8⟩:=Cr hT
 refine .go hg fun X a w I μ O next Q' n1 n2 n3 hs hn=>?_
 have hrs:=hs.envr r
 rw [hv] at hrs
 obtain ⟨e',ys,A,n,c,g1,g2,g3,A',c',p1,p2,p3,p4⟩:=hrs
 have hee:AV.own e (F us)=.own e' ys:=hp.symm.trans g1
 cases hee
 simp only [AT,Option.some.injEq] at g2
 have hrun:∃ w',(Builtin.clear_ #[ty] o.type #[a.eval (.tmp r)]).run P w=.ok (.tuple #[]) w'∧Sim P X ((t0,.own e (F (us.take off++List.replicate len x0)))::env) H a w' I μ O:=by
  have hev:a.eval (.tmp r)=.slice A' len c':=p1
  rw [hev]
  by_cases h0:len=0
  ·subst h0
   refine ⟨w,?_,?_⟩
   ·cases A'<;>simp [Builtin.clear_,run_underlying i1]
   ·rw [← hF 0]
    have e1:(F us).take off++List.replicate 0 (DV.ag cs)=F us:=by rw [List.take_of_length_le (by omega)];simp
    rw [e1]
    exact hs.same fun s=>by
     simp only [get]
     split
     ·rename_i h;subst h;exact hp.symm
     ·rfl
  ·have hA:=p4 (by omega)
   obtain ⟨b,rfl⟩:∃ b,A=some ⟨b,0,none⟩:=by
    have ht:=hs.envr t0
    rw [hp] at ht
    obtain ⟨bs,q1,_,_⟩:=ht.plain rfl
    rw [g2] at q1
    cases q1 with
    | own _ _ _ vs h1 h2 h3 =>
     rcases h2 with ⟨A2,h4,h5,_⟩|⟨_,g,cap,h4,_⟩
     ·omega
     ·cases h4;exact ⟨g,rfl⟩
   have hA':A'=some ⟨b,off * Ax P e,none⟩:=by
    rw [hA]
    simp [Addr.add]
    exact fun h=>h.symm
   subst hA'
   obtain ⟨w',r1,r2⟩:=Sim.storeRows (z:=.ag cs) (zc:=z.cells.toList) (oo:=off * Ax P e) (cs:=cs) g2 rfl (by rw [(hz w I).length,Array.length_toList,hzs,i8]) (fun w=>hz w I) ((hz w I).one hlf) len off 0 env w (F us) hs hp (fun x hm=>by rw [i8];exact hx x hm) (by omega) hlen
   refine ⟨w',?_,?_⟩
   ·rw [← N4] at r1
    obtain ⟨len',rfl⟩:∃ m,len=m+1:=⟨len-1,by omega⟩
    simp [Builtin.clear_,run_underlying i1,hzv w,r1]
   ·rw [hF len] at r2;exact r2
 obtain ⟨w',r1,r2⟩:=hrun
 refine ⟨fun _ _=>trivial,?_⟩
 have hx':(execOp a.eval o).run P w=.ok (.value (.tuple #[])) w':=by simp [execOp,ho,resolve,hc,hxa,hty,invoke,builtin,r1]
 rw [Oper.semAt_eq _ _ _ (by simp [ho]),hx',Oper.uponIn_value,hd]
 exact hn _ _ _ _ _ _ _ r2 h
end
end Go.FL
namespace Go.FL
open Go Go.Proofs
section
variable {P:Program} {C:Cx} {o:Oper} {ops:Array Oper} {Q:Exit→Env→Ab→Prop} {env:Env} {H:Ab} {k:Nat} {l:List Oper}
theorem QW {s ty n i e:Nat} {p:Pl} {xs:List DV} (zs:List DV) (hx:xs[i]?=some (.ag zs)) (hz:(DV.ag zs).cells=zs) (hag:BK P ty=some true) (hn:Ax P ty=n) (hzn:zs.length=n) (hn0:0<n:=by decide)
  (ho:o.op=.load ty (.tmp s):=by rfl) (hv:get env s=.ep p i 0:=by rfl) (hp:AB env H p=.own e xs:=by rfl):VOK P C o env H (.d (.ag zs)):=by
 have e1:(xs.getD i default).cells=zs:=by rw [lD,hx];exact hz
 have h:=Uy (C:=C) (H:=H) ho (by simp [AA]) hag hn hn0 hv hp (by rw [e1];omega)
 rw [e1,List.drop_zero,List.take_of_length_le (by omega)] at h
 exact .pv h
end
theorem L9 : Tryz.prog.underlying 71=some (.map 9 3):=by kernel_rfl
theorem P5 : Tryz.prog.underlying 9=some .string:=by kernel_rfl
theorem Tx (w:World) : (zeroValue 3).run Tryz.prog w=.ok (.int .i64 0) w:=Ai Wo w
def IR (m:SM) (x:Itm) : Option (Bool×SM):=(Pb x).bind fun k=>some (if (m.get k).isSome=true then (false,m) else (true,m.set k (m.len:Int)))
def Hz (m:SM) (x:Itm) : Option Bool:=(Pb x).bind fun k=>some (m.get k).isSome
theorem Aas {x:Itm} {m:SM} {r:Bool×SM} {H:Ab} {id:Nat} (hH:H[id]?=some m.mo) (h:IR m x=some r) :
  FnR Tryz.prog 88 [.mr id,.d (dvI x)] H fun v H'=>v=.d (.b r.1)∧H'=H.set id r.2.mo:=by
 unfold IR at h
 obtain ⟨ky,hk,h⟩:=bnd h
 simp only [Option.some.injEq] at h
 refine FnR.of (rs:=[.tmp 4]) 21 Tryz.func88 rfl rfl rfl (by simp) ?_;refine .seq<|.region<|kK (vbx)<|kD zj<|rn<|.gh (Gh.keep [0,3,4] rfl)<|.seq<|.region<|kK (Au AF An)<|kK (Al (OQ hk) Tryz.call102)<|kD zj<|rn<|.gh (Gh.keep [0,4,5] rfl)<|.seq<|.seq<|.region<|kK (NB (av:=.mr id))<|kK (Ad)<|kK (Ab3 (x:=.tmp 11) m hH L9 P5 Tx)<|kK (Ad)<|kK (vex)<|kK (vex)<|kD zj<|kD zj<|rn<|.gh (Gh.keep [0,4,5,7] rfl)<|.seq<|.region<|kK (Ad)<|rn ?_
 by_cases hc:(m.get ky).isSome=true
 ·rw [if_pos hc] at h
  subst h
  refine cnt hc ?_;refine .seq<|.region<|kD zj<|rn<|.ret ?_
  exact ⟨_,⟨rfl,rfl⟩,rfl,(List.set_same _ _ hH).symm⟩
 rw [if_neg hc] at h
 subst h
 refine cnf (bf hc) ?_;refine .skip<|aw<|.seq<|.region<|kK (NB (av:=.mr id))<|kK (Ad)<|kK (NB (av:=.mr id))<|kK (Abq (x:=.tmp 19) m hH L9)<|Aal (ky:=ky) (v:=(m.len:Int)) m hH L9 P5 ?_;refine rn<|.gh (Gh.keep [4] rfl)<|.seq<|.region<|kD zj<|rn<|.ret ?_
 exact ⟨_,⟨rfl,rfl⟩,rfl,rfl⟩
theorem WA {x:Itm} {m:SM} {r:Bool} (h:Hz m x=some r) : Fn Tryz.prog 50 [m.mp,dvI x] (.d (.b r)):=by
 unfold Hz at h
 obtain ⟨ky,hk,h⟩:=bnd h
 simp only [Option.some.injEq] at h
 subst h
 refine Fn.of (rs:=[.tmp 4]) (nt:=15) Tryz.func50 rfl rfl rfl (by simp) rfl ?_;refine .seq<|.region<|kK (vbx)<|kD zj<|rn<|.gh (Gh.keep [0,3,4] rfl)<|.seq<|.region<|kK (Ad)<|kK (Au AF An)<|kK (Al (OQ hk) Tryz.call102)<|kK (Ab9 (x:=.tmp 8) m L9 P5 Tx)<|kK (Ad)<|kK (vex)<|kK (vex)<|kD zj<|kD zj<|rn<|.gh (Gh.keep [4,6] rfl)<|.seq<|.region<|kK (Ad)<|kD zj<|rn<|.ret ?_
 exact ⟨rfl,rfl⟩
def GA (x:Itm) (m:SM) : Option (Bool×SM):=(IR m x).map fun r=>(!r.1,r.2)
theorem WT {x:Itm} {m:SM} {r:Bool×SM} {H:Ab} {id n:Nat} (hH:H[id]?=some m.mo) (hB:H[n]?=some (.box [.mr id])) (h:GA x m=some r) :
  FnR Tryz.prog 87 [.d (dvI x),.bp n 0] H fun v H'=>v=.d (.b r.1)∧H'=H.set id r.2.mo:=by
 simp only [GA,Option.map_eq_some_iff] at h
 obtain ⟨y,hy,rfl⟩:=h
 refine FnR.of (rs:=[.tmp 3]) 8 Tryz.func87 rfl rfl rfl (by simp) ?_;refine .seq<|.region<|kK (vbx)<|kD zj<|rn<|.seq<|.region<|kK (Nx (cs:=[.mr id]) (c:=.mr id) hB rfl (by kernel_rfl))<|kK (Au AF An) ?_
 refine clR (avs:=[.mr id,.d (dvI x)]) (Aas hH hy) Tryz.call88 (fun v H' hp=>?_)
 obtain ⟨rfl,rfl⟩:=hp
 refine kK (vnt)<|kD zj<|rn<|.ret ?_
 exact ⟨_,⟨rfl,rfl⟩,rfl,rfl⟩
theorem S9 {env:Env} {c:AV} {rs:List ResultVar} (h:get env 0=c) (h1:AH c=false) (h2:.tmp 0∉rs) : ∀ (i:Nat) c',[c][i]?=some c'→get env i=c'∧AH c'=false∧.tmp i∉rs:=fun i c' hi=>by
 cases i with
 | zero=>cases hi;exact ⟨h,h1,h2⟩
 | succ i=>simp at hi
set_option maxRecDepth 10000 in
theorem O9 {S:Type} {step:Itm→S→Option (Bool×S)} {st:S→Ab→Prop} {f:FuncId} {caps:List AV} (hcall:∀ args w,(callFunc f args).run Tryz.prog w=.ok (.enter f args) w) (hnc:noOwnL caps=true)
  (hstep:∀ (x:Itm) s r H,st s H→step x s=some r→FnR Tryz.prog f (.d (dvI x)::caps) H fun v H'=>v=.d (.b r.1)∧st r.2 H')
  {xs:List Itm} {s:S} {r:Int×S} (hl:xs.length≤9223372036854775806) (h:GV step xs s 0=some r) {H:Ab} (hs:st s H) :
  FnO Tryz.prog 66 [.own 44 (Its xs),.fn f [] caps] H (fun v H'=>v=.d (.i .i64 r.1)∧st r.2 H') [.own 44 (Its xs)]:=by
 have hfn:noOwn (.fn f [] caps)=true:=by simp [noOwn,noOwnL,hnc]
 refine FnO.of (rs:=[.tmp 4]) 1 19 Tryz.func66 rfl rfl rfl (by simp) (by simp) (by simp) ?_;refine .seq<|.region<|kD zj<|rn<|.seq<|.seq<|.region<|mvo ?_;refine kK (Ll (Af _) Bh)<|kK (Ad)<|rn<|.block ?_
 refine .loop (.gh (Gh.keep [0,1,7,8] rfl) ?_)
 refine AL.ind (σ:=Nat×S×Ab) (m:=fun p=>xs.length-p.1) (e:=fun p=>[(0,.own 44 (Its xs)),(1,.fn f [] caps),(7,.d (.i .i64 ((List.length xs:Nat):Int))),(8,.d (.i .i64 ((p.1:Nat):Int)))]) (h:=fun p=>p.2.2)
  (I:=fun p=>p.1≤xs.length∧st p.2.1 p.2.2∧GV step (xs.drop p.1) p.2.1 (p.1:Int)=some r) ?_ (0,s,H) ⟨Nat.zero_le _,hs,h⟩
 rintro ⟨i,s,H⟩ ⟨hi,hs,h⟩ ih
 dsimp only at hi hs h ih ⊢
 refine .seq<|.region<|kK (vbi)<|rn<|.seq ?_
 by_cases hc:((i:Nat):Int)<((List.length xs:Nat):Int)
 ·refine cnt (dT hc) ?_
  have hlt:i<xs.length:=by omega
  rw [lC hlt,GV] at h
  obtain ⟨z,hz,h⟩:=bnd h
  refine .skip<|aw<|.seq<|.block<|.seq<|.region<|kK (Ad)<|kD zj<|rn<|.seq<|.region<|kK (NB (av:=.fn f [] caps) (hn:=hfn))<|mvo ?_;refine kK (Ad) ?_
  refine ixr (off:=0) (len:=(Its xs).length) i rfl (by rw [Af];exact hlt) ?_ Bp (by decide)
  refine vk (QW (i:=0+i) (xs:=Its xs) [.i .u8 xs[i].kind,.b xs[i].num.1,.sl (L xs[i].num.2.1),.sl (L xs[i].num.2.2),.i .i32 xs[i].char,.sl (Ars xs[i].box)] (by rw [Nat.zero_add];exact BI (lG hlt)) (by simp [DV.cells]) AF An rfl) ?_
  refine Z2 (avs:=[.d (dvI xs[i])]) (hstep _ _ _ _ hs hz) hcall (fun v H' hp=>?_) (hnc:=hnc)
  obtain ⟨rfl,hs'⟩:=hp
  refine rn ?_
  by_cases hc:z.1=true
  ·refine cnt hc ?_
   rw [if_pos hc] at h
   cases h
   refine .seq<|.region<|kK (Ad)<|kD zj<|rn<|.ret ?_
   exact ⟨_,⟨rfl,rfl⟩,S9 rfl rfl (by simp),rfl,hs'⟩
  refine cnf (bf hc) ?_
  rw [if_neg hc] at h
  refine .skip<|aw<|.region<|kK (vbi)<|kK (Ad)<|.nil ?_
  have hw:IntKind.wrap .i64 ((i:Int)+1)=((i+1:Nat):Int):=by rw [show IntKind.wrap .i64 ((i:Int)+1)=(i:Int)+1 from MS (by omega) (by omega)];omega
  rw [hw]
  refine AL.gh (Gh.keep [0,1,7,8] rfl) ?_
  exact ih (i+1,z.2,H') ⟨hlt,hs',by rw [← h];simp⟩ (by dsimp only;omega)
 ·refine cnf (dF hc) ?_
  have:i=xs.length:=by omega
  subst this
  rw [List.drop_length,GV] at h
  cases h
  refine .exit ?_;refine aw<|.seq<|.region<|kD zj<|rn<|.ret ?_
  exact ⟨_,⟨rfl,rfl⟩,S9 rfl rfl (by simp),rfl,hs⟩
end Go.FL
namespace Go.FL
open Go Go.RowKit
section
variable {P:Program} {C:Cx} {X:Snap} {o:Oper} {ops:Array Oper} {Q:Exit→Env→Ab→Prop} {env env':Env} {H H':Ab} {a:Act} {w w':World} {I I':Nat→Prop} {μ μ':List Nat} {O O':Nat→Option Loc}
 {K:Env→Ab→Prop} {k:Nat} {l:List Oper}
theorem RP {s t ty e sz by_:Nat} {hi:Operand} {ah:Option AO} {xs:List DV} {h:Int} (ho:o.op=.slice ty (.tmp s) none (some hi) none) (hfh:Cb (some hi) ah=true) (hd:o.dst=some t) (ht:okT C.nt t) (hty:B1 P ty=some (e,sz,by_)) (hv:get env s=.own e xs)
  (hh:D9 env xs.length ah=some h) (h0:0≤h) (h1:h≤xs.length) (hK:K (put (put env s .un) t (.own e (xs.take h.toNat))) H):OpOK P C o env H K :=
 .val (by simp [ho]) hd ht (fun X a w I μ O _ _ _ hs=>by
  obtain ⟨inf,s1,s2,s3,_,s5⟩:=C7 hty
  have b1:=hs.bound (x:=none) (ax:=none) rfl (dflt:=0) (n:=0) rfl
  have b2:=hs.bound hfh hh
  obtain ⟨q1,q2⟩:=hs.take s (by rw [hv];rfl)
  rw [hv] at q2
  have hform:∃ A c,a.tmps.getD s undef=.slice A xs.length c∧xs.length≤c∧A.map (·.add 0)=A:=by
   obtain ⟨bs,k1,_,_⟩:=q2
   generalize a.tmps.getD s undef=v at k1
   cases k1 with
   | own _ _ _ vs hsz hown hr =>
    rcases hown with ⟨A,rfl,hn,_⟩|⟨hr2,g,cap,rfl,hc⟩
    ·refine ⟨A,0,by rw [hn],by omega,?_⟩
     cases A<;>simp [Addr.add]
    ·refine ⟨some ⟨g,0,none⟩,cap,rfl,?_,by simp [Addr.add]⟩
     rcases hr2.2 with ⟨h2,h3⟩|⟨g',cap',cur,h2,_,_,h5,_⟩
     ·omega
     ·simp only [Value.slice.injEq] at h2
      omega
  obtain ⟨A,c,hval,hcap,hA⟩:=hform
  have e1:h≤(c:Int):=by omega
  have hb:=EY (P:=P) (w:=w) (isS:=true) (len:=xs.length) (cap:=c) (Int.le_refl 0) h0 b1 (b2.imp (fun ⟨x,y⟩=>⟨x,y,rfl⟩) fun h=>h) (m:=(c:Int)) (mx:=none) (.inl ⟨rfl,rfl⟩) e1 (Int.le_refl _)
  have hev:a.eval (.tmp s)=.slice A xs.length c:=hval
  refine ⟨.slice A h.toNat c,w,I,μ,_,?_,q1,?_⟩
  ·have hr:=Mc s1 s2 hb (A:=A)
   simp only [Option.map_none,Option.map_some] at hr
   simp only [execOp,ho,hev,Sem.run_bind,Option.map_none,Option.map_some,hr,Result.andThen_ok,Sem.run_pure]
   have e2:(if (c:Int).toNat=(0:Int).toNat then A else A.map (·.add ((0:Int).toNat * inf.size)))=A:=by
    split
    ·rfl
    ·simpa using hA
   rw [e2];simp
  ·rw [hval] at q2
   exact q2.prefix_ (by omega)) hK
theorem slo {s t ty e sz by_:Nat} {hi:Operand} {xs:List DV} {z:Int} (k':Nat) (hz:z=k') (hle:k'≤xs.length) (h:RL P C ops Q (k+1) l ((t,.own e (xs.take k'))::(s,.un)::env) H) (hty:B1 P ty=some (e,sz,by_)) (hg:grd ops env o true=true:=by rfl)
  (ho:o.op=.slice ty (.tmp s) none (some hi) none:=by rfl) (hv:get env s=.own e xs:=by rfl) (hh:D9 env xs.length (some (C4 hi))=some z:=by rfl) (hfh:Cb (some hi) (some (C4 hi))=true:=by rfl) (hd:o.dst=some t:=by rfl)
  (hf:Ak (get env t)=false:=by rfl) (hr:CW s env=false:=by rfl) (ht:okT C.nt t:=by rfl):RL P C ops Q k (o::l) env H:=by
 subst hz
 have hst:=EP hv hf
 refine .go hg (RP ho hfh hd ht hty hv hh (by omega) (by omega) ?_)
 rw [Int.toNat_natCast]
 refine RL.gh (Gh.same fun r=>?_) h
 have h1:Ak (get (put env s .un) t)=false:=by rw [Cy hr];simp [get,hst,hf]
 rw [Aj h1]
 simp only [get]
 split
 ·rfl
 ·have:=Cy (v:=.un) hr r
  simp only [get] at this
  exact this.symm
end
end Go.FL
namespace Go.FL
open Go Go.Proofs
section
variable {S:Type} (step:Itm→S→Option (Bool×S))
def HW : List Itm→S→Option (List Itm×S)
 | [],s=>some ([],s)
 | x::xs,s=>(step x s).bind fun r=>(HW xs r.2).bind fun z=>some (if r.1=true then z.1 else x::z.1,z.2)
theorem P9 : ∀ {xs:List Itm} {s:S} {z:List Itm×S} (i:Nat),HW step xs s=some z→∃ r,GV step xs s (i:Int)=some r ∧
  ((r.1=-1∧z=(xs,r.2))∨∃ n:Nat,r.1=((i+n:Nat):Int)∧n<xs.length∧∃ z2,HW step (xs.drop (n+1)) r.2=some z2∧z=(xs.take n++z2.1,z2.2))
 | [],s,z,i,h=>by cases h;exact ⟨(-1,s),rfl,.inl ⟨rfl,rfl⟩⟩
 | x::xs,s,z,i,h=>by
  rw [HW] at h
  obtain ⟨y,hy,h⟩:=bnd h
  obtain ⟨u,hu,h⟩:=bnd h
  cases h
  by_cases hc:y.1=true
  ·refine ⟨((i:Int),y.2),by rw [GV,hy,oB,if_pos hc],.inr ⟨0,by simp,by simp,u,hu,?_⟩⟩
   simp [hc]
  ·obtain ⟨r,h1,h2⟩:=P9 (i+1) hu
   refine ⟨r,by rw [GV,hy,oB,if_neg hc];simpa using h1,?_⟩
   rcases h2 with ⟨h2,h3⟩|⟨n,h2,h3,z2,h4,h5⟩
   ·exact .inl ⟨h2,by simp [hc,h3]⟩
   ·refine .inr ⟨n+1,by rw [h2];omega,by simp;omega,z2,by simpa using h4,?_⟩
    simp [hc,h5]
end
theorem SS (xs:List Itm) : ∀ x∈Its xs,∃ cs,x=.ag cs∧cs.length=6:=fun x hx=>by
 rw [Ce] at hx
 obtain ⟨y,_,rfl⟩:=List.mem_map.1 hx
 rw [Itm.dv_eq];exact ⟨_,rfl,rfl⟩
theorem TP (us:List Itm) (off:Nat) (m:Nat) : (Its us).take off++List.replicate m (.ag [.i .u8 0,.b false,.sl [],.sl [],.i .i32 0,.sl []])=Its (us.take off++List.replicate m (Itm.mk 0 (false,[],[]) 0 [])):=by
 rw [Rb,Ce,Ce,Ce,List.map_append,List.map_take]
set_option maxRecDepth 10000 in
theorem NL {S:Type} {step:Itm→S→Option (Bool×S)} {st:S→Ab→Prop} {f:FuncId} {caps:List AV} (hcall:∀ args w,(callFunc f args).run Tryz.prog w=.ok (.enter f args) w) (hnc:noOwnL caps=true)
  (hstep:∀ (x:Itm) s r H,st s H→step x s=some r→FnR Tryz.prog f (.d (dvI x)::caps) H fun v H'=>v=.d (.b r.1)∧st r.2 H')
  {xs:List Itm} {s:S} {z:List Itm×S} (hl:xs.length≤1000000000000) (h:HW step xs s=some z) {H:Ab} (hs:st s H) :
  FnO Tryz.prog 86 [.own 44 (Its xs),.fn f [] caps] H (fun v H'=>v=.own 44 (Its z.1)∧st z.2 H') []:=by
 have hfn:noOwn (.fn f [] caps)=true:=by simp [noOwn,noOwnL,hnc]
 obtain ⟨r,hr,hcase⟩:=P9 step 0 h
 refine FnO.of (rs:=[.tmp 4]) 0 42 Tryz.func86 rfl rfl rfl (by simp) (by simp) (by simp) ?_;refine .seq<|.region<|asn ?_;refine rn<|.seq<|.region<|mvo ?_;refine kK (NB (av:=.fn f [] caps) (hn:=hfn)) ?_
 refine Aa5 (t0:=0) (avs:=[.fn f [] caps]) (O9 hcall hnc hstep (by omega) hr hs) Tryz.call66 (fun v H' hp=>?_) (ha:=by
  change (if (noOwn (AV.fn f [] caps)&&!AH (AV.fn f [] caps))=true then some [AV.fn f [] caps] else none)=some [AV.fn f [] caps]
  rw [hfn];rfl)
 obtain ⟨rfl,hs'⟩:=hp
 refine kD zj<|rn<|.gh (Gh.keep [0,1,4,5] rfl)<|.seq<|.seq<|.region<|kK (Ad)<|kK (vbi)<|rn<|.gh (Gh.keep [0,1,4,5,12] rfl) ?_
 rcases hcase with ⟨h1,h2⟩|⟨n,h1,hn,z2,h2,h3⟩
 ·subst h2
  refine cnt (dT h1) ?_;refine .seq<|.region<|WO ?_;refine aso ?_;refine rn<|.ret ?_
  exact ⟨_,⟨rfl,rfl⟩,by simp,rfl,hs'⟩
 subst h3
 rw [Nat.zero_add] at h1
 rw [h1]
 have hne:¬((n:Nat):Int)=-1:=by omega
 refine cnf (dF hne) ?_;refine .skip<|aw<|.gh (Gh.keep [0,1,4,5] rfl)<|.seq<|.seq<|.region<|kK (Ad)<|kK (vbi)<|kD zj<|rn<|.gh (Gh.keep [0,1,4,5,6] rfl) ?_
 have hw:∀ i:Nat,i<xs.length→IntKind.wrap .i64 ((i:Int)+1)=((i+1:Nat):Int):=fun i hi=>by rw [show IntKind.wrap .i64 ((i:Int)+1)=(i:Int)+1 from MS (by omega) (by omega)];omega
 rw [hw n hn]
 refine AW.mr (σ:=Nat×List Itm×S×Ab) (fun p=>p.1≤xs.length∧p.2.1.length=xs.length∧st p.2.2.1 p.2.2.2∧p.2.1.take p.1=xs.take n++z2.1∧p.2.2.1=z2.2) (fun p=>[(0,.own 44 (Its p.2.1)),(4,.nl),(5,.d (.i .i64 ((p.1:Nat):Int)))]) (fun p=>p.2.2.2) ?_ ?_
 ·skip
  refine .block ?_
  refine .loop (.gh (Gh.keep [0,1,4,5,6] rfl) ?_)
  refine AL.ind (σ:=Nat×Nat×List Itm×S×Ab) (m:=fun p=>xs.length-p.1) (e:=fun p=>[(0,.own 44 (Its p.2.2.1)),(1,.fn f [] caps),(4,.nl),(5,.d (.i .i64 ((p.2.1:Nat):Int))),(6,.d (.i .i64 ((p.1:Nat):Int)))]) (h:=fun p=>p.2.2.2.2)
   (I:=fun p=>p.1≤xs.length∧p.2.1<p.1∧p.2.2.1.length=xs.length∧st p.2.2.2.1 p.2.2.2.2∧p.2.2.1.drop p.1=xs.drop p.1∧∃ zz,HW step (xs.drop p.1) p.2.2.2.1=some zz∧p.2.2.1.take p.2.1++zz.1=xs.take n++z2.1∧zz.2=z2.2) ?_ (n+1,n,xs,r.2,H') ⟨hn,Nat.lt_succ_self _,rfl,hs',rfl,z2,h2,rfl,rfl⟩
  rintro ⟨j,i,cur,s,H⟩ ⟨hj,hij,hcl,hs,hdr,zz,hz,hz1,hz2⟩ ih
  dsimp only at hj hij hcl hs hdr hz hz1 hz2 ih ⊢
  refine .seq<|.seq<|.region<|kK (Ad)<|mvo ?_;refine kK (Ll (Af _) Bh)<|kK (vbi)<|rn<|.gh (Gh.keep [0,1,4,5,6,19] rfl) ?_
  by_cases hc:((j:Nat):Int)<((List.length cur:Nat):Int)
  ·refine cnt (dT hc) ?_
   have hlt:j<xs.length:=by omega
   have hlc:j<cur.length:=by omega
   have hcj:cur[j]=xs[j]:=by
    have e1:=congrArg (·[0]?) hdr
    simp only [List.getElem?_drop,Nat.add_zero] at e1
    rw [lG hlc,lG hlt] at e1
    exact oI e1
   rw [lC hlt,HW] at hz
   obtain ⟨y,hy,hz⟩:=bnd hz
   obtain ⟨z3,hz3,hz⟩:=bnd hz
   cases hz
   refine .skip<|aw<|.seq<|.block<|.seq<|.region<|mvo ?_;refine kK (Ad) ?_
   refine ixr (off:=0) (len:=(Its cur).length) j rfl (by rw [Af];exact hlc) ?_ Bp (by decide)
   refine kK (QW (i:=0+j) (xs:=Its cur) [.i .u8 xs[j].kind,.b xs[j].num.1,.sl (L xs[j].num.2.1),.sl (L xs[j].num.2.2),.i .i32 xs[j].char,.sl (Ars xs[j].box)] (by rw [Nat.zero_add];exact BI (by rw [lG hlc,hcj])) (by simp [DV.cells]) AF An rfl)<|kK (van (Ai BL) BQ) ?_
   refine stn ?_ An (by decide)
   refine rn<|.gh (Gh.keep [0,1,4,5,6,7] rfl)<|.seq<|.region<|kK (NB (av:=.fn f [] caps) (hn:=hfn))<|kK (CR AF An) ?_
   refine Z2 (avs:=[.d (dvI xs[j])]) (hstep _ _ _ _ hs hy) hcall (fun v H' hp=>?_) (hnc:=hnc)
   obtain ⟨rfl,hs'⟩:=hp
   refine kK (vnt)<|rn<|.gh (Gh.keep [0,1,4,5,6,7,29] rfl) ?_
   have hic:i<cur.length:=by omega
   by_cases hc2:y.1=true
   ·refine cnf (ntf hc2) ?_
    rw [if_pos hc2] at hz1
    refine .skip<|aw<|.gh (Gh.keep [0,1,4,5,6] rfl)<|.region<|kK (Ad)<|kK (vbi)<|kD zj<|.nil ?_
    rw [hw j hlt]
    refine AL.gh (Gh.keep [0,1,4,5,6] rfl) ?_
    exact ih (j+1,i,cur,y.2,H') ⟨hlt,by show i<j+1;omega,hcl,hs',by rw [← List.drop_drop,hdr,List.drop_drop],z3,hz3,hz1,hz2⟩ (by dsimp only;omega)
   ·refine cnt (ntt (bf hc2)) ?_
    rw [if_neg hc2] at hz1
    refine .seq<|.region<|mvo ?_;refine kK (Ad)<|kK (CR AF An) ?_
    refine ixr (off:=0) (len:=(Its cur).length) i rfl (by rw [Af];exact hic) ?_ Bp (by decide)
    refine X5 (F:=Its) (zs:=[.i .u8 cur[i].kind,.b cur[i].num.1,.sl (L cur[i].num.2.1),.sl (L cur[i].num.2.2),.i .i32 cur[i].char,.sl (Ars cur[i].box)]) (us:=cur) (n:=i) (m:=i) (x:=xs[j]) (JS (Itm.dv_eq xs[j]).symm) rfl (by rw [Nat.zero_add];exact BI (lG hic)) rfl ?_ An An (Nat.succ_pos _)
    refine rn<|.gh (Gh.keep [0,1,4,5,6] rfl)<|.region<|kK (Ad)<|kK (vbi)<|kD zj<|.nil ?_
    rw [hw i (by omega)]
    refine aw<|.gh (Gh.keep [0,1,4,5,6] rfl)<|.region<|kK (Ad)<|kK (vbi)<|kD zj<|.nil ?_
    rw [hw j hlt]
    refine AL.gh (Gh.keep [0,1,4,5,6] rfl) ?_
    refine ih (j+1,i+1,cur.set i xs[j],y.2,H') ⟨hlt,by show i+1<j+1;omega,by rw [List.length_set];exact hcl,hs',by rw [List.drop_set_of_lt (by omega),← List.drop_drop,hdr,List.drop_drop],z3,hz3,?_,hz2⟩ (by dsimp only;omega)
    dsimp only
    rw [List.take_add_one,List.getElem?_set_self hic,List.take_set_of_le (Nat.le_refl i),← hz1]
    simp
  ·refine cnf (dF hc) ?_
   have hje:j=xs.length:=by omega
   subst hje
   rw [List.drop_length,HW] at hz
   cases hz
   rw [List.append_nil] at hz1
   refine .gh (Gh.keep [0,4,5] rfl)<|.exit ?_
   exact jr (i,cur,s,H) ⟨by omega,hcl,hs,hz1,hz2⟩
 rintro ⟨i,cur,s,H⟩ ⟨hi,hcl,hs,hz1,hz2⟩
 dsimp only at hi hcl hs hz1 hz2 ⊢
 refine aw<|.seq<|.region<|mvo ?_;refine kK (Ad) ?_
 refine slr (zl:=(i:Int)) (zh:=((Its cur).length:Nat)) i (Its cur).length ⟨rfl,rfl,by rw [Af];omega,Nat.le_refl _⟩ ?_ Bp
 refine Abd (us:=cur) (off:=0+i) (len:=(Its cur).length-i) (cs:=[.i .u8 0,.b false,.sl [],.sl [],.i .i32 0,.sl []]) (by rw [Nat.zero_add];exact TP cur i) Dc (Ai BL) rfl BQ rfl (SS cur) (by rw [Af];omega) ?_;refine rn<|.gh (Gh.keep [0,4,5] rfl)<|.seq<|.region<|WO ?_;refine kK (Ad) ?_
 have hlen:(Its (cur.take (0+i)++List.replicate ((Its cur).length-i) (Itm.mk 0 (false,[],[]) 0 []))).length=xs.length:=by
  rw [Af,List.length_append,List.length_take,List.length_replicate,Af];omega
 refine slo (z:=(i:Int)) (xs:=Its (cur.take (0+i)++List.replicate ((Its cur).length-i) (Itm.mk 0 (false,[],[]) 0 []))) i rfl (by rw [hlen];exact hi) ?_ Bp
 refine aso ?_;refine rn<|.ret ?_
 have hfin:(Its (cur.take (0+i)++List.replicate ((Its cur).length-i) (Itm.mk 0 (false,[],[]) 0 []))).take i=Its (xs.take n++z2.1):=by
  rw [← hz1,Ce,Ce,Nat.zero_add,List.map_append,List.map_take,List.take_append,List.take_of_length_le (by simp;omega)]
  have:i-(List.take i (List.map Itm.dv cur)).length=0:=by simp;omega
  rw [this];simp [Ce]
 refine ⟨_,⟨rfl,rfl⟩,by simp,?_,hz2▸hs⟩
 exact congrArg (AV.own _) hfin
def E1 (m:SM) (l:List Itm) : Option (List Itm×SM):=if l.length≤1000000000000 then HW GA l m else none
theorem L7 {m:SM} {l:List Itm} {r:List Itm×SM} {H:Ab} {id:Nat} (hH:H[id]?=some m.mo) (h:E1 m l=some r) :
  FnO Tryz.prog 39 [.mr id,.own 44 (Its l)] H (fun v H'=>v=.own 44 (Its r.1)∧∃ G,H'=H.set id r.2.mo++G) []:=by
 unfold E1 at h
 obtain ⟨hl,h⟩:=Dw h
 have hid:id<H.length:=(lS.1 hH).1
 refine FnO.of (rs:=[.tmp 4]) 0 8 Tryz.func39 rfl rfl rfl (by simp) (by simp) (by simp) ?_;refine .seq<|.region<|bxA (c:=.mr id) ?_;refine asn ?_;refine rn<|.gh (Gh.keep [1,2,4] rfl)<|.seq<|.region<|mvo ?_;refine Aa6 (avs:=[.bp H.length 0]) ?_
 refine YN (t0:=1) [] [.tmp 6] (as1:=[]) (as2:=[.fn 87 [] [.bp H.length 0]]) (NL (step:=GA) (st:=fun (m:SM) H'=>H'=H.set id m.mo++[.box [.mr id]]) Tryz.call87 rfl (fun x s y H' hs hy=>?_) hl h (by rw [List.set_same _ _ hH])) Tryz.call86 (fun v H' hp=>?_) (.inl rfl)
 ·subst hs
  have e1:(H.set id s.mo++[HO.box [.mr id]])[id]?=some s.mo:=by
   rw [List.getElem?_append_left (by simpa using hid),List.getElem?_set_self hid]
  have e2:(H.set id s.mo++[HO.box [.mr id]])[H.length]?=some (.box [.mr id]):=by
   rw [List.getElem?_append_right (by simp)];simp
  refine (WT e1 e2 hy).mono fun v H'' hq=>⟨hq.1,?_⟩
  rw [hq.2,List.set_append_left _ _ (by simpa using hid),List.set_set]
 obtain ⟨rfl,rfl⟩:=hp
 refine aso ?_;refine rn<|.ret ?_
 exact ⟨_,⟨rfl,rfl⟩,by simp,rfl,_,rfl⟩
set_option maxRecDepth 10000 in
theorem Pk {S:Type} {step:Itm→S→Option (Bool×S)} {st:S→Ab→Prop} {gv:DV} (hstep:∀ (x:Itm) s r,step x s=some r→FnV Tryz.prog gv [dvI x] (.d (.b r.1))∧∀ H,st s H→st r.2 H)
  {xs:List Itm} {s:S} {r:Int×S} (hl:xs.length≤9223372036854775806) (h:GV step xs s 0=some r) {H:Ab} (hs:st s H) :
  FnO Tryz.prog 66 [.own 44 (Its xs),.d gv] H (fun v H'=>v=.d (.i .i64 r.1)∧st r.2 H') [.own 44 (Its xs)]:=by
 refine FnO.of (rs:=[.tmp 4]) 1 19 Tryz.func66 rfl rfl rfl (by simp) (by simp) (by simp) ?_;refine .seq<|.region<|kD zj<|rn<|.seq<|.seq<|.region<|mvo ?_;refine kK (Ll (Af _) Bh)<|kK (Ad)<|rn<|.block ?_
 refine .loop (.gh (Gh.keep [0,1,7,8] rfl) ?_)
 refine AL.ind (σ:=Nat×S×Ab) (m:=fun p=>xs.length-p.1) (e:=fun p=>[(0,.own 44 (Its xs)),(1,.d gv),(7,.d (.i .i64 ((List.length xs:Nat):Int))),(8,.d (.i .i64 ((p.1:Nat):Int)))]) (h:=fun p=>p.2.2)
  (I:=fun p=>p.1≤xs.length∧st p.2.1 p.2.2∧GV step (xs.drop p.1) p.2.1 (p.1:Int)=some r) ?_ (0,s,H) ⟨Nat.zero_le _,hs,h⟩
 rintro ⟨i,s,H⟩ ⟨hi,hs,h⟩ ih
 dsimp only at hi hs h ih ⊢
 refine .seq<|.region<|kK (vbi)<|rn<|.seq ?_
 by_cases hc:((i:Nat):Int)<((List.length xs:Nat):Int)
 ·refine cnt (dT hc) ?_
  have hlt:i<xs.length:=by omega
  rw [lC hlt,GV] at h
  obtain ⟨z,hz,h⟩:=bnd h
  refine .skip<|aw<|.seq<|.block<|.seq<|.region<|kK (Ad)<|kD zj<|rn<|.seq<|.region<|kK (Ad)<|mvo ?_;refine kK (Ad) ?_
  refine ixr (off:=0) (len:=(Its xs).length) i rfl (by rw [Af];exact hlt) ?_ Bp (by decide)
  refine kK (QW (i:=0+i) (xs:=Its xs) [.i .u8 xs[i].kind,.b xs[i].num.1,.sl (L xs[i].num.2.1),.sl (L xs[i].num.2.2),.i .i32 xs[i].char,.sl (Ars xs[i].box)] (by rw [Nat.zero_add];exact BI (lG hlt)) (by simp [DV.cells]) AF An rfl)<|kK (LF (hstep _ _ _ hz).1) ?_
  have hs':=(hstep _ _ _ hz).2 _ hs
  refine rn ?_
  by_cases hc:z.1=true
  ·refine cnt hc ?_
   rw [if_pos hc] at h
   cases h
   refine .seq<|.region<|kK (Ad)<|kD zj<|rn<|.ret ?_
   exact ⟨_,⟨rfl,rfl⟩,S9 rfl rfl (by simp),rfl,hs'⟩
  refine cnf (bf hc) ?_
  rw [if_neg hc] at h
  refine .skip<|aw<|.region<|kK (vbi)<|kK (Ad)<|.nil ?_
  have hw:IntKind.wrap .i64 ((i:Int)+1)=((i+1:Nat):Int):=by rw [show IntKind.wrap .i64 ((i:Int)+1)=(i:Int)+1 from MS (by omega) (by omega)];omega
  rw [hw]
  refine AL.gh (Gh.keep [0,1,7,8] rfl) ?_
  exact ih (i+1,z.2,H) ⟨hlt,hs',by rw [← h];simp⟩ (by dsimp only;omega)
 ·refine cnf (dF hc) ?_
  have:i=xs.length:=by omega
  subst this
  rw [List.drop_length,GV] at h
  cases h
  refine .exit ?_;refine aw<|.seq<|.region<|kD zj<|rn<|.ret ?_
  exact ⟨_,⟨rfl,rfl⟩,S9 rfl rfl (by simp),rfl,hs⟩
set_option maxRecDepth 10000 in
theorem Nz {S:Type} {step:Itm→S→Option (Bool×S)} {st:S→Ab→Prop} {gv:DV} (hstep:∀ (x:Itm) s r,step x s=some r→FnV Tryz.prog gv [dvI x] (.d (.b r.1))∧∀ H,st s H→st r.2 H)
  {xs:List Itm} {s:S} {z:List Itm×S} (hl:xs.length≤1000000000000) (h:HW step xs s=some z) {H:Ab} (hs:st s H) :
  FnO Tryz.prog 86 [.own 44 (Its xs),.d gv] H (fun v H'=>v=.own 44 (Its z.1)∧st z.2 H') []:=by
 obtain ⟨r,hr,hcase⟩:=P9 step 0 h
 refine FnO.of (rs:=[.tmp 4]) 0 42 Tryz.func86 rfl rfl rfl (by simp) (by simp) (by simp) ?_;refine .seq<|.region<|asn ?_;refine rn<|.seq<|.region<|mvo ?_;refine kK (Ad) ?_
 refine Aa5 (t0:=0) (avs:=[.d gv]) (Pk hstep (by omega) hr hs) Tryz.call66 (fun v H' hp=>?_) 
 obtain ⟨rfl,hs'⟩:=hp
 refine kD zj<|rn<|.gh (Gh.keep [0,1,4,5] rfl)<|.seq<|.seq<|.region<|kK (Ad)<|kK (vbi)<|rn<|.gh (Gh.keep [0,1,4,5,12] rfl) ?_
 rcases hcase with ⟨h1,h2⟩|⟨n,h1,hn,z2,h2,h3⟩
 ·subst h2
  refine cnt (dT h1) ?_;refine .seq<|.region<|WO ?_;refine aso ?_;refine rn<|.ret ?_
  exact ⟨_,⟨rfl,rfl⟩,by simp,rfl,hs'⟩
 subst h3
 rw [Nat.zero_add] at h1
 rw [h1]
 have hne:¬((n:Nat):Int)=-1:=by omega
 refine cnf (dF hne) ?_;refine .skip<|aw<|.gh (Gh.keep [0,1,4,5] rfl)<|.seq<|.seq<|.region<|kK (Ad)<|kK (vbi)<|kD zj<|rn<|.gh (Gh.keep [0,1,4,5,6] rfl) ?_
 have hw:∀ i:Nat,i<xs.length→IntKind.wrap .i64 ((i:Int)+1)=((i+1:Nat):Int):=fun i hi=>by rw [show IntKind.wrap .i64 ((i:Int)+1)=(i:Int)+1 from MS (by omega) (by omega)];omega
 rw [hw n hn]
 refine AW.mr (σ:=Nat×List Itm×S×Ab) (fun p=>p.1≤xs.length∧p.2.1.length=xs.length∧st p.2.2.1 p.2.2.2∧p.2.1.take p.1=xs.take n++z2.1∧p.2.2.1=z2.2) (fun p=>[(0,.own 44 (Its p.2.1)),(4,.nl),(5,.d (.i .i64 ((p.1:Nat):Int)))]) (fun p=>p.2.2.2) ?_ ?_
 ·skip
  refine .block ?_
  refine .loop (.gh (Gh.keep [0,1,4,5,6] rfl) ?_)
  refine AL.ind (σ:=Nat×Nat×List Itm×S×Ab) (m:=fun p=>xs.length-p.1) (e:=fun p=>[(0,.own 44 (Its p.2.2.1)),(1,.d gv),(4,.nl),(5,.d (.i .i64 ((p.2.1:Nat):Int))),(6,.d (.i .i64 ((p.1:Nat):Int)))]) (h:=fun p=>p.2.2.2.2)
   (I:=fun p=>p.1≤xs.length∧p.2.1<p.1∧p.2.2.1.length=xs.length∧st p.2.2.2.1 p.2.2.2.2∧p.2.2.1.drop p.1=xs.drop p.1∧∃ zz,HW step (xs.drop p.1) p.2.2.2.1=some zz∧p.2.2.1.take p.2.1++zz.1=xs.take n++z2.1∧zz.2=z2.2) ?_ (n+1,n,xs,r.2,H') ⟨hn,Nat.lt_succ_self _,rfl,hs',rfl,z2,h2,rfl,rfl⟩
  rintro ⟨j,i,cur,s,H⟩ ⟨hj,hij,hcl,hs,hdr,zz,hz,hz1,hz2⟩ ih
  dsimp only at hj hij hcl hs hdr hz hz1 hz2 ih ⊢
  refine .seq<|.seq<|.region<|kK (Ad)<|mvo ?_;refine kK (Ll (Af _) Bh)<|kK (vbi)<|rn<|.gh (Gh.keep [0,1,4,5,6,19] rfl) ?_
  by_cases hc:((j:Nat):Int)<((List.length cur:Nat):Int)
  ·refine cnt (dT hc) ?_
   have hlt:j<xs.length:=by omega
   have hlc:j<cur.length:=by omega
   have hcj:cur[j]=xs[j]:=by
    have e1:=congrArg (·[0]?) hdr
    simp only [List.getElem?_drop,Nat.add_zero] at e1
    rw [lG hlc,lG hlt] at e1
    exact oI e1
   rw [lC hlt,HW] at hz
   obtain ⟨y,hy,hz⟩:=bnd hz
   obtain ⟨z3,hz3,hz⟩:=bnd hz
   cases hz
   refine .skip<|aw<|.seq<|.block<|.seq<|.region<|mvo ?_;refine kK (Ad) ?_
   refine ixr (off:=0) (len:=(Its cur).length) j rfl (by rw [Af];exact hlc) ?_ Bp (by decide)
   refine kK (QW (i:=0+j) (xs:=Its cur) [.i .u8 xs[j].kind,.b xs[j].num.1,.sl (L xs[j].num.2.1),.sl (L xs[j].num.2.2),.i .i32 xs[j].char,.sl (Ars xs[j].box)] (by rw [Nat.zero_add];exact BI (by rw [lG hlc,hcj])) (by simp [DV.cells]) AF An rfl)<|kK (van (Ai BL) BQ) ?_
   refine stn ?_ An (by decide)
   refine rn<|.gh (Gh.keep [0,1,4,5,6,7] rfl)<|.seq<|.region<|kK (Ad)<|kK (CR AF An)<|kK (LF (hstep _ _ _ hy).1) ?_
   have hs':=(hstep _ _ _ hy).2 _ hs
   refine kK (vnt)<|rn<|.gh (Gh.keep [0,1,4,5,6,7,29] rfl) ?_
   have hic:i<cur.length:=by omega
   by_cases hc2:y.1=true
   ·refine cnf (ntf hc2) ?_
    rw [if_pos hc2] at hz1
    refine .skip<|aw<|.gh (Gh.keep [0,1,4,5,6] rfl)<|.region<|kK (Ad)<|kK (vbi)<|kD zj<|.nil ?_
    rw [hw j hlt]
    refine AL.gh (Gh.keep [0,1,4,5,6] rfl) ?_
    exact ih (j+1,i,cur,y.2,H) ⟨hlt,by show i<j+1;omega,hcl,hs',by rw [← List.drop_drop,hdr,List.drop_drop],z3,hz3,hz1,hz2⟩ (by dsimp only;omega)
   ·refine cnt (ntt (bf hc2)) ?_
    rw [if_neg hc2] at hz1
    refine .seq<|.region<|mvo ?_;refine kK (Ad)<|kK (CR AF An) ?_
    refine ixr (off:=0) (len:=(Its cur).length) i rfl (by rw [Af];exact hic) ?_ Bp (by decide)
    refine X5 (F:=Its) (zs:=[.i .u8 cur[i].kind,.b cur[i].num.1,.sl (L cur[i].num.2.1),.sl (L cur[i].num.2.2),.i .i32 cur[i].char,.sl (Ars cur[i].box)]) (us:=cur) (n:=i) (m:=i) (x:=xs[j]) (JS (Itm.dv_eq xs[j]).symm) rfl (by rw [Nat.zero_add];exact BI (lG hic)) rfl ?_ An An (Nat.succ_pos _)
    refine rn<|.gh (Gh.keep [0,1,4,5,6] rfl)<|.region<|kK (Ad)<|kK (vbi)<|kD zj<|.nil ?_
    rw [hw i (by omega)]
    refine aw<|.gh (Gh.keep [0,1,4,5,6] rfl)<|.region<|kK (Ad)<|kK (vbi)<|kD zj<|.nil ?_
    rw [hw j hlt]
    refine AL.gh (Gh.keep [0,1,4,5,6] rfl) ?_
    refine ih (j+1,i+1,cur.set i xs[j],y.2,H) ⟨hlt,by show i+1<j+1;omega,by rw [List.length_set];exact hcl,hs',by rw [List.drop_set_of_lt (by omega),← List.drop_drop,hdr,List.drop_drop],z3,hz3,?_,hz2⟩ (by dsimp only;omega)
    dsimp only
    rw [List.take_add_one,List.getElem?_set_self hic,List.take_set_of_le (Nat.le_refl i),← hz1]
    simp
  ·refine cnf (dF hc) ?_
   have hje:j=xs.length:=by omega
   subst hje
   rw [List.drop_length,HW] at hz
   cases hz
   rw [List.append_nil] at hz1
   refine .gh (Gh.keep [0,4,5] rfl)<|.exit ?_
   exact jr (i,cur,s,H) ⟨by omega,hcl,hs,hz1,hz2⟩
 rintro ⟨i,cur,s,H⟩ ⟨hi,hcl,hs,hz1,hz2⟩
 dsimp only at hi hcl hs hz1 hz2 ⊢
 refine aw<|.seq<|.region<|mvo ?_;refine kK (Ad) ?_
 refine slr (zl:=(i:Int)) (zh:=((Its cur).length:Nat)) i (Its cur).length ⟨rfl,rfl,by rw [Af];omega,Nat.le_refl _⟩ ?_ Bp
 refine Abd (us:=cur) (off:=0+i) (len:=(Its cur).length-i) (cs:=[.i .u8 0,.b false,.sl [],.sl [],.i .i32 0,.sl []]) (by rw [Nat.zero_add];exact TP cur i) Dc (Ai BL) rfl BQ rfl (SS cur) (by rw [Af];omega) ?_;refine rn<|.gh (Gh.keep [0,4,5] rfl)<|.seq<|.region<|WO ?_;refine kK (Ad) ?_
 have hlen:(Its (cur.take (0+i)++List.replicate ((Its cur).length-i) (Itm.mk 0 (false,[],[]) 0 []))).length=xs.length:=by
  rw [Af,List.length_append,List.length_take,List.length_replicate,Af];omega
 refine slo (z:=(i:Int)) (xs:=Its (cur.take (0+i)++List.replicate ((Its cur).length-i) (Itm.mk 0 (false,[],[]) 0 []))) i rfl (by rw [hlen];exact hi) ?_ Bp
 refine aso ?_;refine rn<|.ret ?_
 have hfin:(Its (cur.take (0+i)++List.replicate ((Its cur).length-i) (Itm.mk 0 (false,[],[]) 0 []))).take i=Its (xs.take n++z2.1):=by
  rw [← hz1,Ce,Ce,Nat.zero_add,List.map_append,List.map_take,List.take_append,List.take_of_length_le (by simp;omega)]
  have:i-(List.take i (List.map Itm.dv cur)).length=0:=by simp;omega
  rw [this];simp [Ce]
 refine ⟨_,⟨rfl,rfl⟩,by simp,?_,hz2▸hs⟩
 exact congrArg (AV.own _) hfin
end Go.FL
namespace Go.FL
open Go Go.RowKit
section
variable {P:Program} {C:Cx} {X:Snap} {o:Oper} {ops:Array Oper} {Q:Exit→Env→Ab→Prop} {env env' envi:Env} {H H' H1:Ab} {a:Act} {w w':World} {I I':Nat→Prop} {μ μ':List Nat} {O O':Nat→Option Loc}
 {K:Env→Ab→Prop} {k:Nat} {l:List Oper} {av:AV}
theorem OO {pre:Env} {m p1 i:Nat} {env0:Env} {tv:List (Nat×AV)} (hdr:∀ (i:Nat) o,p1≤i→i<m→ops[i]?=some o→(∀ t∈o.looksAt ops,t<Fs)∧∀ j,p1≤j→j<m→∃ oj t,ops[j]?=some oj∧oj.dst=some t∧(t∈o.looksAt ops→j<i∧C1 ops i j=true)) (hdum:∀ j,j<p1→tv[j]?=some (Fs+j,.un)) (h0d:∀ j,get env0 (Fs+j)=.un) (hpi:p1≤i) (hlen:tv.length=m) (hle:m≤ops.size)
  (hone:∀ i,p1≤i→i<m→∃ o t v,ops[i]?=some o∧tv[i]?=some (t,v)∧Jq P C ops H env0 (tv.take i).reverse o t v) (hdist:∀ (i j t:Nat) v u,tv[i]?=some (t,v)→tv[j]?=some (t,u)→i=j)
  (n1:X.nt=C.nt) (n2:X.n0=C.n0) (n3:X.ne=C.ne) {L:Array Bool} (hL:L.size=ops.size) (him:i<m) (hi:i∈Region.ready .any ops L) {QQ:Exit→Act→World→Prop} {N:Act→World→Prop}
  (hs:Sim P X (pre++Bk tv env0 L) H a w I μ O) (hp0:∀ s,get (pre++Bk tv env0 L) s≠get (Bk tv env0 L) s→get env0 s=.un∧∀ (j:Nat) v,tv[j]?≠some (s,v)) (hp1:∀ (L':Array Bool) s,(∀ (j:Nat) v,tv[j]?≠some (s,v))→get (pre++Bk tv env0 L') s=get (pre++Bk tv env0 L) s) (hp2:∀ (L':Array Bool) (j:Nat) s v,tv[j]?=some (s,v)→get (pre++Bk tv env0 L') s=get (Bk tv env0 L') s) (hN:∀ a' w' I' O',Sim P X (pre++Bk tv env0 (L.setIfInBounds i true)) H a' w' I' μ O'→N a' w'):wpOpIn (om C.ro) 0 P ops QQ i N a w:=by
 obtain ⟨h1,o,ho,h2⟩:=mem_ready.1 hi
 have hlt:=(Array.getElem?_eq_some_iff.1 ho).1
 rw [Bj (by omega)] at h1
 obtain ⟨o',t,v,ho',htv,hd,htn,h0t,hnt,hself,hrk,hrun⟩:=hone i hpi him
 rw [ho] at ho';cases ho'
 -- what it looks at is known
 have hdir:∀ (j s:Nat) u,tv[j]?=some (s,u)→s∈o.looksAt ops→L.getD j false=true:=fun j s u hj hm=>by
  have hjm:j<m:=by have:=(lS.1 hj).1;omega
  have hjp:p1≤j:=by
   rcases Nat.lt_or_ge j p1 with h|h
   ·have:=hdum j h
    rw [hj] at this;cases this
    exact absurd ((hdr i o hpi him ho).1 _ hm) (Nat.not_lt.2 (Nat.le_add_right _ _))
   ·exact h
  obtain ⟨oj,tj,q1,q2,q3⟩:=(hdr i o hpi him ho).2 j hjp hjm
  obtain ⟨oj',tj',vj',r1,r2,r3⟩:=hone j hjp hjm
  rw [q1] at r1;cases r1
  rw [hj] at r2;cases r2
  have:tj=s:=by have:=r3.1;rw [q2] at this;exact oI this
  subst this
  obtain ⟨o2,ho2,e,he,hb,rfl⟩:=Eu (q3 hm).2
  rw [ho] at ho2;cases ho2
  exact h2 e he hb
 have hle1':∀ s,get (Bb (o.looksAt ops) (tv.take i).reverse++env0) s=.un∨get (Bb (o.looksAt ops) (tv.take i).reverse++env0) s=get (Bk tv env0 L) s:=fun s=>by
  rw [AG]
  split
  ·rename_i hc
   obtain ⟨x,hx,rfl⟩:=List.mem_map.1 (List.contains_iff_mem.1 hc)
   have hx':=List.mem_filter.1 hx
   have hin:=List.mem_reverse.1 hx'.1
   obtain ⟨j,hj⟩:=List.getElem?_of_mem (List.mem_of_mem_take hin)
   have hlk:x.1∈o.looksAt ops:=List.contains_iff_mem.1 hx'.2
   refine .inr ?_
   rw [AY hdist (hdir j x.1 x.2 hj hlk) hj]
   refine Cg hx fun u hu=>?_
   have hu':=List.mem_reverse.1 (List.mem_filter.1 hu).1
   obtain ⟨j',hj'⟩:=List.getElem?_of_mem (List.mem_of_mem_take hu')
   have:=hdist j j' x.1 x.2 u hj hj'
   subst this
   rw [hj] at hj'
   simp only [Option.some.injEq] at hj'
   rw [hj']
  ·by_cases hex:∃ (j:Nat) (u:AV),tv[j]?=some (s,u)
   ·obtain ⟨j,u,hj⟩:=hex
    have hjm:j<m:=by have:=(lS.1 hj).1;omega
    rcases Nat.lt_or_ge j p1 with h|h
    ·have:=hdum j h
     rw [hj] at this;cases this
     exact .inl (h0d j)
    ·obtain ⟨oj,tj,vj,_,r2,r3⟩:=hone j h hjm
     rw [hj] at r2;cases r2
     exact .inl r3.2.2.1
   ·exact .inr (AE fun j u _ hj=>hex ⟨j,u,hj⟩).symm
 have hle1:∀ s,get (Bb (o.looksAt ops) (tv.take i).reverse++env0) s=.un∨get (Bb (o.looksAt ops) (tv.take i).reverse++env0) s=get (pre++Bk tv env0 L) s:=fun s=>by
  by_cases hq:get (pre++Bk tv env0 L) s=get (Bk tv env0 L) s
  ·rw [hq];exact hle1' s
  ·obtain ⟨q1,q2⟩:=hp0 s hq
   left
   rw [AG,if_neg]
   ·exact q1
   ·intro hc
    obtain ⟨x,hx,rfl⟩:=List.mem_map.1 (List.contains_iff_mem.1 hc)
    have hin:=List.mem_reverse.1 (List.mem_filter.1 hx).1
    obtain ⟨j,hj⟩:=List.getElem?_of_mem (List.mem_of_mem_take hin)
    exact q2 j x.2 hj
 have hkn:∀ s,Ak (get (Bb (o.looksAt ops) (tv.take i).reverse++env0) s)=true→get (Bb (o.looksAt ops) (tv.take i).reverse++env0) s=get (pre++Bk tv env0 L) s:=fun s hs=>by
  rcases hle1 s with h|h
  ·rw [h] at hs;cases hs
  ·exact h
 have hle2:∀ s q off len,get (Bb (o.looksAt ops) (tv.take i).reverse++env0) s=.ref (.t q) off len→get (Bb (o.looksAt ops) (tv.take i).reverse++env0) q=get (pre++Bk tv env0 L) q:=fun s q off len h=>by
  have:=List.all_eq_true.1 hrk _ (Dv h (by simp))
  exact hkn q (by simpa using this)
 have hle3:∀ s q x y,get (Bb (o.looksAt ops) (tv.take i).reverse++env0) s=.ep (.t q) x y→get (Bb (o.looksAt ops) (tv.take i).reverse++env0) q=get (pre++Bk tv env0 L) q:=fun s q x y h=>by
  have:=List.all_eq_true.1 hrk _ (Dv h (by simp))
  exact hkn q (by simpa using this)
 have htL:get (pre++Bk tv env0 L) t=.un:=by
  rw [hp2 L i t v htv,AE fun j u hl hj=>by
   have:=hdist i j t v u htv hj
   subst this;rw [h1] at hl;cases hl]
  exact h0t
 have hsi:=hs.less hle1 hle2 hle3
 have hnext:∀ a' w' I' O',Sim P X ((t,v)::(pre++Bk tv env0 L)) H a' w' I' μ O'→N a' w':=fun a' w' I' O' hs'=>by
  refine hN a' w' I' O' (hs'.same fun s=>?_)
  by_cases hts:t=s
  ·subst hts
   rw [hp2 _ i t v htv,AY hdist (by rw [Ae (by omega),if_pos rfl]) htv]
   simp [get]
  ·simp only [get,if_neg hts]
   by_cases hex:∃ (j:Nat) (u:AV),tv[j]?=some (s,u)
   ·obtain ⟨j,u,hj⟩:=hex
    rw [hp2 _ j s u hj,hp2 _ j s u hj]
    have hij:i≠j:=fun e=>by subst e;rw [htv] at hj;cases hj;exact hts rfl
    cases hl:L.getD j false with
    | true=>rw [AY hdist hl hj,AY hdist (by rw [Ae (by omega),if_neg hij];exact hl) hj]
    | false =>
     have none:∀ (L':Array Bool),L'.getD j false=false→get (Bk tv env0 L') s=get env0 s:=fun L' h'=>AE fun k u' hk hk'=>by
      have:=hdist k j s u' u hk' hj
      subst this;rw [h'] at hk;cases hk
     rw [none L hl,none _ (by rw [Ae (by omega),if_neg hij];exact hl)]
   ·exact hp1 _ s fun j u hj=>hex ⟨j,u,hj⟩
 unfold wpOpIn
 simp only [ho]
 rcases hrun with ⟨hg,hv⟩|⟨hg,hv⟩
 ·rw [if_pos (E4 hsi hg)]
  refine hv.step hd htn hle1 hle2 hle3 (by rw [htL];rfl) (fun p hp e=>?_) n1 n2 n3 hs hnext
  subst e
  rcases hp with ⟨off,len,rfl⟩|⟨x,y,rfl⟩<;>simp [Gs] at hself
 ·have:=E4 hsi hg
  rw [if_neg (by rw [this];simp)]
  refine ⟨fun _ _=>trivial,?_⟩
  rw [hd]
  rcases hv with rfl|rfl
  ·have hp:=hs.put_un t (by rw [n1];exact htn) undef
   rw [Aj (by rw [htL];rfl)] at hp
   exact hnext _ _ _ _ hp
  ·have hp:=hs.put_hand (t:=t) (by rw [n1];exact htn) (av:=.tup []) (v:=undef) ⟨[],.tup .nil,nN,by simp⟩
   rw [Aj (by rw [htL];rfl)] at hp
   exact hnext _ _ _ _ hp
def J1 (ops:Array Oper) (p m:Nat) : Bool :=
 ((List.range ops.size).all fun i=>match ops[i]? with
  | some o=>o.after.all (fun e=>!Region.binds .any e||decide (e.on<i))&&(match o.op with|.select ..=>false|_=>true)&&(o.looksAt ops).all (fun t=>decide (t<Fs)) &&
   (if i<p then (List.range p).all fun j=>match ops[j]? with
     | some oj=>match oj.dst with
      | some t=>!(o.looksAt ops).contains t||(decide (j<i)&&C1 ops i j)
      | none=>false
     | none=>false
    else if i=p then (List.range i).all fun j=>Fk ops i i j
    else (decide (i=p+1)||Fk ops i i p)&&(if i<m then (List.range (m-(p+1))).all fun j=>match ops[p+1+j]? with
     | some oj=>match oj.dst with
      | some t=>!(o.looksAt ops).contains t||(decide (p+1+j<i)&&C1 ops i (p+1+j))
      | none=>false
     | none=>false else (List.range i).all fun j=>Fk ops i i j))
  | none=>false)&&decide (p+1<m)&&decide (m≤ops.size)&&(match ops[p]? with|some o=>o.guard.isNone|none=>false)
theorem Jr {p m:Nat} (h:J1 ops p m=true) : p+1<m∧m≤ops.size∧(∃ o,ops[p]?=some o∧o.guard=none)∧∀ (i:Nat) o,ops[i]?=some o →
  (∀ e∈o.after,Region.binds .any e=true→e.on<i)∧(∀ t∈o.looksAt ops,t<Fs) ∧
  (i<p→∀ j,j<p→∃ oj t,ops[j]?=some oj∧oj.dst=some t∧(t∈o.looksAt ops→j<i∧C1 ops i j=true))∧(i=p→∀ j,j<i→Fk ops i i j=true)∧(p+1<i→Fk ops i i p=true) ∧
  (p<i→i<m→∀ j,p+1≤j→j<m→∃ oj t,ops[j]?=some oj∧oj.dst=some t∧(t∈o.looksAt ops→j<i∧C1 ops i j=true))∧(m≤i→∀ j,j<i→Fk ops i i j=true):=by
 unfold J1 at h
 simp only [Bool.and_eq_true,decide_eq_true_eq] at h
 obtain ⟨⟨⟨h,hpm⟩,hm⟩,hg⟩:=h
 refine ⟨hpm,hm,?_,fun i o ho=>?_⟩
 ·split at hg
  ·rename_i o ho;exact ⟨o,ho,by simpa using hg⟩
  ·cases hg
 have hi:i<ops.size:=(Array.getElem?_eq_some_iff.1 ho).1
 have:=List.all_eq_true.1 h i (List.mem_range.2 hi)
 rw [ho] at this
 simp only [Bool.and_eq_true] at this
 obtain ⟨⟨⟨h1,_⟩,h4⟩,h3⟩:=this
 have one:∀ {b:Bool} {j:Nat},(match ops[j]? with
     | some oj=>match oj.dst with
      | some t=>!(o.looksAt ops).contains t||(decide (j<i)&&C1 ops i j)
      | none=>false
     | none=>false)=true→∃ oj t,ops[j]?=some oj∧oj.dst=some t∧(t∈o.looksAt ops→j<i∧C1 ops i j=true):=by
  intro b j this
  split at this
  ·rename_i oj hoj
   split at this
   ·rename_i t ht
    refine ⟨oj,t,hoj,ht,fun hm=>?_⟩
    have hc:(o.looksAt ops).contains t=true:=List.contains_iff_mem.2 hm
    rw [hc] at this
    simpa using this
   ·cases this
  ·cases this
 refine ⟨fun e he hb=>?_,fun t ht=>by simpa using List.all_eq_true.1 h4 t ht,fun him j hj=>?_,fun him j hj=>?_,fun him=>?_,fun him him2 j hj1 hj2=>?_,fun him j hj=>?_⟩
 ·obtain ⟨k,hk,rfl⟩:=Array.mem_iff_getElem.1 he
  have:=Array.all_eq_true.1 h1 k hk
  rw [hb] at this
  simpa using this
 ·rw [if_pos him] at h3
  exact one (b:=true) (List.all_eq_true.1 h3 j (List.mem_range.2 hj))
 ·rw [if_neg (by omega),if_pos him] at h3
  exact List.all_eq_true.1 h3 j (List.mem_range.2 (by omega))
 ·rw [if_neg (by omega),if_neg (by omega)] at h3
  simp only [Bool.and_eq_true,Bool.or_eq_true,decide_eq_true_eq] at h3
  exact h3.1.resolve_left (by omega)
 ·rw [if_neg (by omega),if_neg (by omega)] at h3
  simp only [Bool.and_eq_true] at h3
  have h5:=h3.2
  rw [if_pos him2] at h5
  have:=List.all_eq_true.1 h5 (j-(p+1)) (List.mem_range.2 (by omega))
  rw [show p+1+(j-(p+1))=j by omega] at this
  exact one (b:=true) this
 ·rw [if_neg (by omega),if_neg (by omega)] at h3
  simp only [Bool.and_eq_true] at h3
  have h5:=h3.2
  rw [if_neg (by omega)] at h5
  exact List.all_eq_true.1 h5 j (List.mem_range.2 hj)
def Hl (p:Nat) : Env:=(List.range p).map fun i=>(Fs+i,.un)
theorem Tl {p j:Nat} (h:j<p) : (Hl p)[j]?=some (Fs+j,.un):=by simp [Hl,h]
theorem Fv (p:Nat) : (Hl p).length=p:=by simp [Hl]
def Ia (p tq:Nat) (vq:AV) (L:Array Bool) : Env:=if L.getD (p+1) false=true then [(tq,vq)] else []
theorem Nu {p tq:Nat} {vq:AV} {L:Array Bool} {e:Env} {s:Nat} (h:s≠tq) : get (Ia p tq vq L++e) s=get e s:=by
 unfold Ia
 split
 ·simp [get,Ne.symm h]
 ·rfl
theorem UV {p m:Nat} {env0:Env} {tv:List (Nat×AV)} (hok:J1 ops p m=true) (hlen:tv.length=m) (hdum:∀ j,j<p+1→tv[j]?=some (Fs+j,.un)) (h0d:∀ j,get env0 (Fs+j)=.un)
  (hone:∀ i,p+1≤i→i<m→∃ o t v,ops[i]?=some o∧tv[i]?=some (t,v)∧Jq P C ops H env0 (tv.take i).reverse o t v) (hdist:∀ (i j t:Nat) v u,tv[i]?=some (t,v)→tv[j]?=some (t,u)→i=j)
  (hsuf:RL P C ops Q m (ops.toList.drop m) (tv.reverse++env0) H) (n1:X.nt=C.nt) (n2:X.n0=C.n0) (n3:X.ne=C.ne):∀ (fuel:Nat) (L:Array Bool) (a:Act) (w:World) (I:Nat→Prop) (O:Nat→Option Loc),L.size=ops.size→NP ops L→(∀ j,j<p+1→L.getD j false=true)→(∀ j,m≤j→L.getD j false=false) →
   (List.range m).countP (fun i=>!L.getD i false)+(ops.size-m)≤fuel→Sim P X (Bk tv env0 L) H a w I μ O→wpAnyIn (om C.ro) 0 P .any ops (Post P X Q) fuel L a w:=by
 obtain ⟨hpm,hm,_,hat⟩:=Jr hok
 have fin:∀ (fuel:Nat) (L:Array Bool) (a:Act) (w:World) (I:Nat→Prop) (O:Nat→Option Loc),L.size=ops.size→(∀ j,m≤j→L.getD j false=false)→(∀ j,j<m→L.getD j false=true)→ops.size-m≤fuel →
   Sim P X (Bk tv env0 L) H a w I μ O→wpAnyIn (om C.ro) 0 P .any ops (Post P X Q) fuel L a w:=by
  intro fuel L a w I O hL hup hall hf hs
  refine U1 (fun i o ho=>(hat i o ho).1) (fun i o ho hi=>(hat i o ho).2.2.2.2.2.2 hi) (ops.size-m) m fuel L a w (Nat.le_refl _) (by omega) hf hL (fun j hj=>⟨fun h=>?_,hall j⟩) ?_
  ·rcases Nat.lt_or_ge j m with hx|hx
   ·exact hx
   ·rw [hup j hx] at h;cases h
  have hs':=hs.same (env':=tv.reverse++env0) fun t=>by
   by_cases hex:∃ (j:Nat) (v:AV),tv[j]?=some (t,v)
   ·obtain ⟨j,v,hj⟩:=hex
    rw [AY hdist (hall j (by have:=(lS.1 hj).1;omega)) hj]
    have hmem:(t,v)∈tv.reverse:=List.mem_reverse.2 (List.mem_of_getElem? hj)
    rw [AG,if_pos (List.contains_iff_mem.2 (List.mem_map_of_mem (f:=(·.1)) hmem))]
    refine Cg hmem fun u hu=>?_
    obtain ⟨j',hj'⟩:=List.getElem?_of_mem (List.mem_reverse.1 hu)
    have:=hdist j j' t v u hj hj'
    subst this
    rw [hj] at hj';simp only [Option.some.injEq,Prod.mk.injEq,true_and] at hj';exact hj'.symm
   ·rw [AE fun j v _ hj=>hex ⟨j,v,hj⟩,AG,if_neg]
    intro hc
    obtain ⟨x,hx,rfl⟩:=List.mem_map.1 (List.contains_iff_mem.1 hc)
    obtain ⟨j,hj⟩:=List.getElem?_of_mem (List.mem_reverse.1 hx)
    exact hex ⟨j,x.2,hj⟩
  have:=hsuf rfl X a w I μ O n1 n2 n3 hs'
  rw [List.length_drop,Array.length_toList] at this
  exact this
 intro fuel
 induction fuel with
 | zero =>
  intro L a w I O hL hD hlo hup hf hs
  refine fin 0 L a w I O hL hup (fun j hj=>?_) (by omega) hs
  cases hv:L.getD j false with
  | true=>rfl
  | false =>
   have:0<(List.range m).countP (fun i=>!L.getD i false):=List.countP_pos_iff.2 ⟨j,List.mem_range.2 hj,by rw [hv];rfl⟩
   omega
 | succ fuel ih =>
  intro L a w I O hL hD hlo hup hf hs
  by_cases hall:∀ j,j<m→L.getD j false=true
  ·exact fin _ L a w I O hL hup hall (by omega) hs
  have hex:∃ j,j<m∧L.getD j false=false:=by
   apply Classical.byContradiction
   intro hno
   refine hall fun j hj=>?_
   cases hv:L.getD j false with
   | true=>rfl
   | false=>exact absurd ⟨j,hj,hv⟩ hno
  obtain ⟨j0,⟨hj0,hj1⟩,hmin⟩:∃ j,(j<m∧L.getD j false=false)∧∀ k,k<j→L.getD k false=true:=by
   obtain ⟨j,hj⟩:=hex
   induction j using Nat.strongRecOn with
   | ind j ihj =>
    by_cases hk:∃ k,k<j∧L.getD k false=false
    ·obtain ⟨k,hk1,hk2⟩:=hk
     exact ihj k hk1 ⟨by omega,hk2⟩
    ·refine ⟨j,hj,fun k hk1=>?_⟩
     cases hv:L.getD k false with
     | true=>rfl
     | false=>exact absurd ⟨k,hk1,hv⟩ hk
  have hr0:j0∈Region.ready .any ops L:=mem_ready.2 ⟨by rw [Bj (by omega)];exact hj1,_,Array.getElem?_eq_getElem (by omega),fun e he hb=>hmin _ ((hat j0 _ (Array.getElem?_eq_getElem (by omega))).1 e he hb)⟩
  refine ⟨fun h0=>(by rw [h0] at hr0;cases hr0),fun i hi=>?_⟩
  obtain ⟨h1,o,ho,h2⟩:=mem_ready.1 hi
  have hlt:=(Array.getElem?_eq_some_iff.1 ho).1
  rw [Bj (by omega)] at h1
  have him:i<m:=by
   rcases Nat.lt_or_ge i m with hx|hx
   ·exact hx
   ·have:=DN hD _ _ _ ((hat i o ho).2.2.2.2.2.2 hx j0 (by omega)) fun o' ho' e he hb=>by rw [ho] at ho';cases ho';exact h2 e he hb
    rw [hj1] at this;cases this
  have hip:p+1≤i:=by
   rcases Nat.lt_or_ge i (p+1) with hx|hx
   ·rw [hlo i hx] at h1;cases h1
   ·exact hx
  refine OO (pre:=[]) (p1:=p+1) (m:=m) (fun i o h1 h2 ho=>⟨(hat i o ho).2.1,fun j hj1 hj2=>(hat i o ho).2.2.2.2.2.1 (by omega) h2 j hj1 hj2⟩) hdum h0d hip hlen hm hone hdist n1 n2 n3 hL him hi hs (fun s hq=>absurd rfl hq) (fun L' s hn=>?_) (fun L' j s v hj=>rfl) fun a' w' I' O' hs'=>?_
  ·show get (Bk tv env0 L') s=get (Bk tv env0 L) s
   rw [AE fun j u _ hj=>hn j u hj,AE fun j u _ hj=>hn j u hj]
  ·refine ih _ a' w' I' O' (by simpa using hL) (fun k ok hk hok' e he hb=>?_) (fun j hj=>?_) (fun j hj=>?_) ?_ hs'
   ·rw [Ae (by omega)] at hk ⊢
    split at hk
    ·rename_i hik;subst hik
     rw [ho] at hok';cases hok'
     split
     ·rfl
     ·exact h2 e he hb
    ·split
     ·rfl
     ·exact hD k ok hk hok' e he hb
   ·rw [Ae (by omega)]
    split
    ·rfl
    ·exact hlo j hj
   ·rw [Ae (by omega),if_neg (by omega)];exact hup j hj
   ·have:=E5 (fun i=>!L.getD i false) (fun k=>!(L.setIfInBounds i true).getD k false) i (by simp only [h1];rfl) (by simp only [Ae (by omega:i<L.size),if_true];rfl)
     (fun j hj=>by simp only [Ae (by omega:i<L.size)];rw [if_neg (Ne.symm hj)]) (List.range m) (List.mem_range.2 him) List.nodup_range
    omega
theorem Zp {p m tq:Nat} {vq:AV} {env0 E0:Env} {tv:List (Nat×AV)} {oq op:Oper} (hok:J1 ops p m=true) (hlen:tv.length=p) (hone:∀ i,i<p→∃ o t v,ops[i]?=some o∧tv[i]?=some (t,v)∧Jq P C ops H env0 (tv.take i).reverse o t v)
  (hdist:∀ (i j t:Nat) v u,tv[i]?=some (t,v)→tv[j]?=some (t,u)→i=j) (hoq:ops[p+1]?=some oq) (hop:ops[p]?=some op) (hqd:oq.dst=some tq) (hqg:oq.guard=none) (hqt:okT C.nt tq) (hq0:get env0 tq=.un) (hqn:∀ (j:Nat) v,tv[j]?≠some (tq,v))
  (hqr:AH vq=false) (hqv:VOK P C oq env0 H vq) (hrk:Ch env0=true)
  (hst1:OpOK P C op (tv.reverse++env0) H fun e' H'=>Gh P C e' H' E0 H') (hst2:OpOK P C op ((tq,vq)::(tv.reverse++env0)) H fun e' H'=>Gh P C e' H' ((tq,vq)::E0) H')
  (h0d0:∀ j,get env0 (Fs+j)=.un) (h0d:∀ j,get E0 (Fs+j)=.un)
  (hsuf:∀ Hn,∃ tf:List (Nat×AV),tf.length=m∧(∀ j,j<p+1→tf[j]?=some (Fs+j,.un))∧tf[p+1]?=some (tq,vq)∧(∀ i,p+1≤i→i<m→∃ o t v,ops[i]?=some o∧tf[i]?=some (t,v)∧Jq P C ops Hn E0 (tf.take i).reverse o t v)∧(∀ (i j t:Nat) v u,tf[i]?=some (t,v)→tf[j]?=some (t,u)→i=j)∧RL P C ops Q m (ops.toList.drop m) (tf.reverse++E0) Hn)
  (n1:X.nt=C.nt) (n2:X.n0=C.n0) (n3:X.ne=C.ne):∀ (fuel:Nat) (L:Array Bool) (a:Act) (w:World) (I:Nat→Prop) (O:Nat→Option Loc),L.size=ops.size→NP ops L→L.getD p false=false→(∀ j,p+2≤j→L.getD j false=false) →
   (List.range p).countP (fun i=>!L.getD i false)+(if L.getD (p+1) false=true then 0 else 1)+(ops.size-(p+1))≤fuel→Sim P X (Ia p tq vq L++Bk tv env0 L) H a w I μ O→wpAnyIn (om C.ro) 0 P .any ops (Post P X Q) fuel L a w:=by
 obtain ⟨hpm,hm,⟨op',hop',hog⟩,hat⟩:=Jr hok
 rw [hop] at hop';cases hop'
 have hevn:∀ (e:Env),(∀ x,x∈e↔x∈tv)→∀ (L:Array Bool),(∀ j,j<p→L.getD j false=true)→∀ s,get (Bk tv env0 L) s=get (e++env0) s:=fun e he L hall s=>by
  by_cases hex:∃ (j:Nat) (v:AV),tv[j]?=some (s,v)
  ·obtain ⟨j,v,hj⟩:=hex
   rw [AY hdist (hall j (by have:=(lS.1 hj).1;omega)) hj]
   have hmem:(s,v)∈e:=(he _).2 (List.mem_of_getElem? hj)
   rw [AG,if_pos (List.contains_iff_mem.2 (List.mem_map_of_mem (f:=(·.1)) hmem))]
   refine (Cg hmem fun u hu=>?_).symm
   obtain ⟨j',hj'⟩:=List.getElem?_of_mem ((he _).1 hu)
   have:=hdist j j' s v u hj hj'
   subst this
   rw [hj] at hj';simp only [Option.some.injEq,Prod.mk.injEq,true_and] at hj';exact hj'.symm
  ·rw [AE fun j v _ hj=>hex ⟨j,v,hj⟩,AG,if_neg]
   intro hc
   obtain ⟨x,hx,rfl⟩:=List.mem_map.1 (List.contains_iff_mem.1 hc)
   obtain ⟨j,hj⟩:=List.getElem?_of_mem ((he _).1 hx)
   exact hex ⟨j,x.2,hj⟩
 have htL:∀ (L:Array Bool),get (Bk tv env0 L) tq=.un:=fun L=>by rw [AE fun j u _ hj=>hqn j u hj];exact hq0
 intro fuel
 induction fuel with
 | zero=>intro L a w I O hL hD hp hup hf hs;omega
 | succ fuel ih =>
  intro L a w I O hL hD hp hup hf hs
  obtain ⟨j0,⟨hj0,hj1⟩,hmin⟩:∃ j,(j≤p∧L.getD j false=false)∧∀ k,k<j→L.getD k false=true:=by
   have hex:∃ j,j≤p∧L.getD j false=false:=⟨p,Nat.le_refl _,hp⟩
   obtain ⟨j,hj⟩:=hex
   induction j using Nat.strongRecOn with
   | ind j ihj =>
    by_cases hk:∃ k,k<j∧L.getD k false=false
    ·obtain ⟨k,hk1,hk2⟩:=hk
     exact ihj k hk1 ⟨by omega,hk2⟩
    ·refine ⟨j,hj,fun k hk1=>?_⟩
     cases hv:L.getD k false with
     | true=>rfl
     | false=>exact absurd ⟨k,hk1,hv⟩ hk
  have hr0:j0∈Region.ready .any ops L:=mem_ready.2 ⟨by rw [Bj (by omega)];exact hj1,_,Array.getElem?_eq_getElem (by omega),fun e he hb=>hmin _ ((hat j0 _ (Array.getElem?_eq_getElem (by omega))).1 e he hb)⟩
  refine ⟨fun h0=>(by rw [h0] at hr0;cases hr0),fun i hi=>?_⟩
  obtain ⟨h1,o,ho,h2⟩:=mem_ready.1 hi
  have hlt:=(Array.getElem?_eq_some_iff.1 ho).1
  rw [Bj (by omega)] at h1
  have hpred:∀ o',ops[i]?=some o'→∀ e∈o'.after,Region.binds .any e=true→L.getD e.on false=true:=fun o' ho' e he hb=>by rw [ho] at ho';cases ho';exact h2 e he hb
  have hdown:NP ops (L.setIfInBounds i true):=fun k ok hk hok' e he hb=>by
   rw [Ae (by omega)] at hk ⊢
   split at hk
   ·rename_i hik;subst hik
    rw [ho] at hok';cases hok'
    split
    ·rfl
    ·exact h2 e he hb
   ·split
    ·rfl
    ·exact hD k ok hk hok' e he hb
  have hbig:¬p+1<i:=fun him=>by
   have:=DN hD _ _ _ ((hat i o ho).2.2.2.2.1 him) hpred
   rw [hp] at this;cases this
  rcases Nat.lt_trichotomy i p with him|him|him
  ·refine OO (pre:=Ia p tq vq L) (p1:=0) (m:=p) (fun i o _ hi ho=>⟨(hat i o ho).2.1,fun j _ hj=>(hat i o ho).2.2.1 hi j hj⟩) (fun j hj=>absurd hj (Nat.not_lt_zero j)) h0d0 (Nat.zero_le _) hlen (by omega) (fun i _ hi=>hone i hi) hdist n1 n2 n3 hL him hi hs (fun s hq=>?_) (fun L' s hsn=>?_) (fun L' j s v hj=>?_) fun a' w' I' O' hs'=>?_
   ·by_cases hst:s=tq
    ·subst hst;exact ⟨hq0,hqn⟩
    ·exact absurd (Nu hst) hq
   ·rw [AG,AG]
    split
    ·rfl
    ·rw [AE fun j u _ hj=>hsn j u hj,AE fun j u _ hj=>hsn j u hj]
   ·exact Nu fun e=>by subst e;exact hqn j v hj
   ·have e0:=Ae (L:=L) (i:=i) (j:=p+1) (by omega)
    rw [if_neg (by omega)] at e0
    have e1:Ia p tq vq (L.setIfInBounds i true)=Ia p tq vq L:=by unfold Ia;rw [e0]
    refine ih _ a' w' I' O' (by simpa using hL) hdown (by rw [Ae (by omega),if_neg (by omega)];exact hp) (fun j hj=>by rw [Ae (by omega),if_neg (by omega)];exact hup j hj) ?_ (by rw [e1];exact hs')
    have:=E5 (fun i=>!L.getD i false) (fun k=>!(L.setIfInBounds i true).getD k false) i (by simp only [h1];rfl) (by simp only [Ae (by omega:i<L.size),if_true];rfl)
     (fun j hj=>by simp only [Ae (by omega:i<L.size)];rw [if_neg (Ne.symm hj)]) (List.range p) (List.mem_range.2 him) List.nodup_range
    rw [e0]
    omega
  ·subst him
   have hA:∀ j,j<i→L.getD j false=true:=fun j hj=>DN hD _ _ _ ((hat i o ho).2.2.2.1 rfl j hj) hpred
   rw [hop] at ho;cases ho
   unfold wpOpIn
   simp only [hop]
   rw [if_pos (by simp [Region.wanted,hog])]
   have hA1:∀ j,j<i+1→(L.setIfInBounds i true).getD j false=true:=fun j hj=>by
    rw [Ae (by omega)]
    split
    ·rfl
    ·exact hA j (by omega)
   have hlisted:∀ j,i+1≤j→(L.setIfInBounds i true).getD j false=true→j=i+1:=fun j hj e=>by
    rw [Ae (by omega),if_neg (by omega)] at e
    rcases Nat.lt_or_ge j (i+2) with h|h
    ·omega
    ·rw [hup j h] at e;cases e
   have hget:∀ (tf:List (Nat×AV)),tf.length=m→(∀ j,j<i+1→tf[j]?=some (Fs+j,.un))→(∀ (i j t:Nat) v u,tf[i]?=some (t,v)→tf[j]?=some (t,u)→i=j)→∀ s,(∀ j,i+1≤j→∀ v,tf[j]?=some (s,v)→¬(L.setIfInBounds i true).getD j false=true)→get (Bk tf E0 (L.setIfInBounds i true)) s=get E0 s:=fun tf _ t2 t5 s hno=>by
    by_cases hex:∃ (j:Nat) (v:AV),(L.setIfInBounds i true).getD j false=true∧tf[j]?=some (s,v)
    ·obtain ⟨j,v,e1,e2⟩:=hex
     rcases Nat.lt_or_ge j (i+1) with h|h
     ·have:=t2 j h
      rw [e2] at this;cases this
      rw [AY t5 e1 e2,h0d]
     ·exact absurd e1 (hno j h v e2)
    ·exact AE fun j v e1 e2=>hex ⟨j,v,e1,e2⟩
   have hcnt:(List.range m).countP (fun k=>!(L.setIfInBounds i true).getD k false)+(ops.size-m)≤fuel:=by
    have hsplit:List.range m=List.range (i+1)++(List.range (m-(i+1))).map (i+1+·):=by
     rw [← List.range_add];congr 1;omega
    rw [hsplit,List.countP_append]
    have c1:(List.range (i+1)).countP (fun k=>!(L.setIfInBounds i true).getD k false)=0:=by
     rw [List.countP_eq_zero]
     intro j hj
     rw [hA1 j (List.mem_range.1 hj)];simp
    have c2:=List.countP_le_length (p:=fun k=>!(L.setIfInBounds i true).getD k false) (l:=(List.range (m-(i+1))).map (i+1+·))
    rw [List.length_map,List.length_range] at c2
    by_cases hq:L.getD (i+1) false=true
    ·rw [if_pos hq] at hf
     have c3:((List.range (m-(i+1))).map (i+1+·)).countP (fun k=>!(L.setIfInBounds i true).getD k false)≤m-(i+1)-1:=by
      obtain ⟨d,hd⟩:∃ d,m-(i+1)=d+1:=⟨m-(i+1)-1,by omega⟩
      rw [hd,List.range_succ_eq_map,List.map_cons,List.countP_cons]
      have e0:(L.setIfInBounds i true).getD (i+1+0) false=true:=by rw [Ae (by omega),if_neg (by omega)];exact hq
      have c4:=List.countP_le_length (p:=fun k=>!(L.setIfInBounds i true).getD k false) (l:=List.map (i+1+·) (List.map Nat.succ (List.range d)))
      rw [List.length_map,List.length_map,List.length_range] at c4
      rw [e0]
      simp only [Bool.not_true,Bool.false_eq_true,if_false]
      omega
     omega
    ·rw [if_neg hq] at hf;omega
   by_cases hq:L.getD (i+1) false=true
   ·have hs2:Sim P X ((tq,vq)::(tv.reverse++env0)) H a w I μ O:=hs.same fun s=>by
     by_cases hst:s=tq
     ·subst hst;simp [Ia,hq,get]
     ·rw [Nu hst,hevn _ (fun x=>List.mem_reverse) L hA];simp [get,Ne.symm hst]
    refine hst2 X a w I μ O _ _ n1 n2 n3 hs2 fun env' H' a' w' I' μ' O' hs' hK=>?_
    obtain ⟨I2,O2,hs3⟩:=hK X a' w' I' μ' O' n1 n2 n3 hs'
    obtain ⟨tf,t1,t2,t3,t4,t5,t6⟩:=hsuf H'
    refine UV hok t1 t2 h0d t4 t5 t6 n1 n2 n3 fuel _ a' w' I2 O2 (by simpa using hL) hdown hA1 (fun j hj=>by rw [Ae (by omega),if_neg (by omega)];exact hup j (by omega)) hcnt (hs3.same fun s=>?_)
    by_cases hst:s=tq
    ·subst hst
     rw [AY t5 (by rw [Ae (by omega),if_neg (by omega)];exact hq) t3];simp [get]
    ·simp only [get,if_neg (Ne.symm hst)]
     exact hget tf t1 t2 t5 s fun j hj v hv e=>by
      have:j=i+1:=hlisted j hj e
      subst this
      rw [t3] at hv;cases hv;exact hst rfl
   ·have hs1:Sim P X (tv.reverse++env0) H a w I μ O:=hs.same fun s=>by
     have:Ia i tq vq L=[]:=by unfold Ia;rw [if_neg hq]
     rw [this,List.nil_append,hevn _ (fun x=>List.mem_reverse) L hA]
    refine hst1 X a w I μ O _ _ n1 n2 n3 hs1 fun env' H' a' w' I' μ' O' hs' hK=>?_
    obtain ⟨I2,O2,hs3⟩:=hK X a' w' I' μ' O' n1 n2 n3 hs'
    obtain ⟨tf,t1,t2,t3,t4,t5,t6⟩:=hsuf H'
    refine UV hok t1 t2 h0d t4 t5 t6 n1 n2 n3 fuel _ a' w' I2 O2 (by simpa using hL) hdown hA1 (fun j hj=>by rw [Ae (by omega),if_neg (by omega)];exact hup j (by omega)) hcnt (hs3.same fun s=>?_)
    exact hget tf t1 t2 t5 s fun j hj v hv e=>by
     have:j=i+1:=hlisted j hj e
     subst this
     rw [Ae (by omega),if_neg (by omega)] at e
     exact hq e
  ·have:i=p+1:=by omega
   subst this
   rw [hoq] at ho;cases ho
   unfold wpOpIn
   simp only [hoq]
   rw [if_pos (by simp [Region.wanted,hqg])]
   have hpre:Ia p tq vq L=[]:=by unfold Ia;rw [h1];rfl
   rw [hpre,List.nil_append] at hs
   have hun:∀ (j s:Nat) u,tv[j]?=some (s,u)→get env0 s=.un:=fun j s u hj=>by
    obtain ⟨oj,tj,vj,_,r2,r3⟩:=hone j (by have:=(lS.1 hj).1;omega)
    rw [hj] at r2;cases r2
    exact r3.2.2.1
   have hle:∀ s,get env0 s=.un∨get env0 s=get (Bk tv env0 L) s:=fun s=>by
    by_cases hex:∃ (j:Nat) (u:AV),tv[j]?=some (s,u)
    ·obtain ⟨j,u,hj⟩:=hex;exact .inl (hun j s u hj)
    ·exact .inr (AE fun j u _ hj=>hex ⟨j,u,hj⟩).symm
   have hkn:∀ s,Ak (get env0 s)=true→get env0 s=get (Bk tv env0 L) s:=fun s h=>by
    rcases hle s with h'|h'
    ·rw [h'] at h;cases h
    ·exact h'
   refine hqv.step hqd hqt hle (fun s q off len h=>?_) (fun s q x y h=>?_) (by rw [htL];rfl) (fun p' hp' e=>?_) n1 n2 n3 hs fun a' w' I' O' hs'=>?_
   ·have:=List.all_eq_true.1 hrk _ (Dv h (by simp));exact hkn q (by simpa using this)
   ·have:=List.all_eq_true.1 hrk _ (Dv h (by simp));exact hkn q (by simpa using this)
   ·rcases hp' with ⟨off,len,rfl⟩|⟨x,y,rfl⟩<;>simp [AH] at hqr
   ·have e1:Bk tv env0 (L.setIfInBounds (p+1) true)=Bk tv env0 L:=by
     have hfm:∀ (l:List Nat),(∀ j∈l,j<p)→l.filterMap (fun j=>if (L.setIfInBounds (p+1) true).getD j false=true then tv[j]? else none)=l.filterMap fun j=>if L.getD j false=true then tv[j]? else none:=by
      intro l
      induction l with
      | nil=>intro _;rfl
      | cons x l ihl =>
       intro hx
       have:=hx x (by simp)
       have e1:=Ae (L:=L) (i:=p+1) (j:=x) (by omega)
       rw [if_neg (by omega)] at e1
       simp only [List.filterMap_cons,e1,ihl fun j hj=>hx j (by simp [hj])]
     unfold Bk
     rw [hfm _ fun j hj=>by have:=List.mem_range.1 hj;omega]
    refine ih _ a' w' I' O' (by simpa using hL) hdown (by rw [Ae (by omega),if_neg (by omega)];exact hp) (fun j hj=>by rw [Ae (by omega),if_neg (by omega)];exact hup j hj) ?_ ?_
    ·have hc:(List.range p).countP (fun k=>!(L.setIfInBounds (p+1) true).getD k false)=(List.range p).countP (fun k=>!L.getD k false):=List.countP_congr fun j hj=>by
      have:=List.mem_range.1 hj
      rw [Ae (by omega),if_neg (by omega)]
     rw [hc,Ae (by omega),if_pos rfl,if_pos rfl]
     rw [h1] at hf
     simp at hf ⊢
     omega
    ·rw [e1]
     have:Ia p tq vq (L.setIfInBounds (p+1) true)=[(tq,vq)]:=by unfold Ia;rw [Ae (by omega),if_pos rfl,if_pos rfl]
     rw [this];exact hs'
def QL : Nat→Env
 | 0=>[]
 | n+1=>(Fs+n,.un)::QL n
theorem Uw (n:Nat) : Hl (n+1)=Hl n++[(Fs+n,.un)]:=by simp [Hl,List.range_succ]
theorem MT : ∀ n,QL n=(Hl n).reverse
 | 0=>rfl
 | n+1=>by rw [QL,MT n,Uw];simp
theorem Tp {E:Env} (h:(E.all fun x=>Nat.blt x.1 Fs)=true) (j:Nat) : get E (Fs+j)=.un:=by
 induction E with
 | nil=>rfl
 | cons x E ih =>
  obtain ⟨s,v⟩:=x
  simp only [List.all_cons,Bool.and_eq_true] at h
  have hs:s<Fs:=by
   have h1:=h.1
   simp [Nat.blt] at h1
   omega
  have:s≠Fs+j:=by omega
  simp only [get,if_neg this]
  exact ih h.2
theorem AW.drawnU {id:Nat} (p m tq:Nat) (vq:AV) (E0:Env) {env0:Env} (hmix:P.follows .mixedOrders=true) (hok:J1 ops p m=true) (hqt:okT C.nt tq) (hq0:Qb (get env0 tq)=true) (hqr:AH vq=false) (hrk:Ch env0=true) (hE1:(env0.all fun x=>Nat.blt x.1 Fs)=true) (hE0:(E0.all fun x=>Nat.blt x.1 Fs)=true)
  (hq:∀ oq,ops[p+1]?=some oq→oq.dst=some tq∧oq.guard=none∧VOK P C oq env0 H vq)
  (h:DK P C ops H env0 [] (ops.toList.take p) fun fin=>(fin.map (·.1)).contains tq=false∧∀ op,ops[p]?=some op →
   OpOK P C op (fin++env0) H (fun e' H'=>Gh P C e' H' E0 H')∧OpOK P C op ((tq,vq)::(fin++env0)) H (fun e' H'=>Gh P C e' H' ((tq,vq)::E0) H'))
  (hsuf:∀ Hn,DK P C ops Hn E0 (QL (p+1)) ((ops.toList.drop (p+1)).take (m-(p+1))) fun fin=>get fin tq=vq∧RL P C ops Q m (ops.toList.drop m) (fin++E0) Hn):AW P C (.region id ops true) Q env0 H:=fun X a w I μ O n1 n2 n3 hs=>by
 obtain ⟨fin,hDL,hfq,hst⟩:=h
 obtain ⟨tv,k1,k2,k3⟩:=hDL.table
 rw [List.append_nil] at k2
 subst k2
 obtain ⟨hpm,hm,_,hat⟩:=Jr hok
 have hoq:ops[p+1]?=some ops[p+1]:=Array.getElem?_eq_getElem (by omega)
 have hop:ops[p]?=some ops[p]:=Array.getElem?_eq_getElem (by omega)
 obtain ⟨hqd,hqg,hqv⟩:=hq _ hoq
 obtain ⟨hst1,hst2⟩:=hst _ hop
 have hlen:tv.length=p:=by rw [k1];simp;omega
 refine wpIn_region_any hmix ?_
 have hz:∀ j,(Array.replicate ops.size false).getD j false=false:=fun j=>by
  simp only [Array.getD_eq_getD_getElem?,Array.getElem?_replicate]
  split<;>rfl
 have hs':Sim P X (Ia p tq vq (Array.replicate ops.size false)++Bk tv env0 (Array.replicate ops.size false)) H a {w with drawn:=w.drawn+1} I μ O :=
  (hs.grow (w':={w with drawn:=w.drawn+1}) ⟨rfl,rfl,rfl,Nat.le_refl _,fun _ _=>rfl⟩).same fun t=>by
   have:Ia p tq vq (Array.replicate ops.size false)=[]:=by unfold Ia;rw [hz];rfl
   rw [this,List.nil_append]
   exact AE fun i v h=>by rw [hz] at h;cases h
 have hone:∀ i,i<p→∃ o t v,ops[i]?=some o∧tv[i]?=some (t,v)∧Jq P C ops H env0 (tv.take i).reverse o t v:=fun i hi=>by
  have ho:ops[i]?=some ops[i]:=Array.getElem?_eq_getElem (by omega)
  obtain ⟨t,v,m1,m2⟩:=k3 i ops[i] (by rw [List.getElem?_take_of_lt hi];simp)
  exact ⟨_,t,v,ho,m1,by simpa using m2⟩
 have hdist:∀ (i j t:Nat) v u,tv[i]?=some (t,v)→tv[j]?=some (t,u)→i=j:=by
  have lt:∀ (i j t:Nat) v u,tv[i]?=some (t,v)→tv[j]?=some (t,u)→¬i<j:=fun i j t v u hi hj hij=>by
   have hjm:j<p:=by have:=(lS.1 hj).1;omega
   obtain ⟨o,t',v',_,k1,k2⟩:=hone j hjm
   rw [hj] at k1;cases k1
   refine k2.2.2.2.1 (t,v) ?_ rfl
   rw [List.mem_reverse]
   exact List.mem_of_getElem? (by rw [List.getElem?_take_of_lt hij];exact hi)
  intro i j t v u hi hj
  have h1:=lt i j t v u hi hj
  have h2:=lt j i t u v hj hi
  omega
 have hqn:∀ (j:Nat) v,tv[j]?≠some (tq,v):=fun j v hj=>by
  have:(tv.reverse.map (·.1)).contains tq=true:=List.contains_iff_mem.2 (List.mem_map.2 ⟨(tq,v),List.mem_reverse.2 (List.mem_of_getElem? hj),rfl⟩)
  rw [hfq] at this;cases this
 refine Zp hok hlen hone hdist hoq hop hqd hqg hqt (PL hq0) hqn hqr hqv hrk hst1 hst2 (Tp hE1) (Tp hE0) (fun Hn=>?_) n1 n2 n3 ops.size _ a _ I O (by simp) (fun i o h=>by rw [hz] at h;cases h) (hz p) (fun j _=>hz j) ?_ hs'
 ·obtain ⟨fin2,hD2,hgq,hr⟩:=hsuf Hn
  obtain ⟨t2,j1,j2,j3⟩:=hD2.table
  have hl2:t2.length=m-(p+1):=by rw [j1];simp;omega
  have hfin:(Hl (p+1)++t2).reverse=fin2:=by rw [j2,MT];simp
  have hat2:∀ i,p+1≤i→(Hl (p+1)++t2)[i]?=t2[i-(p+1)]?:=fun i hi=>by rw [List.getElem?_append_right (by rw [Fv];exact hi),Fv]
  have hone2:∀ i,p+1≤i→i<m→∃ o t v,ops[i]?=some o∧(Hl (p+1)++t2)[i]?=some (t,v)∧Jq P C ops Hn E0 ((Hl (p+1)++t2).take i).reverse o t v:=fun i h1 h2=>by
   have ho:ops[i]?=some ops[i]:=Array.getElem?_eq_getElem (by omega)
   obtain ⟨t,v,m1,m2⟩:=j3 (i-(p+1)) ops[i] (by
    rw [List.getElem?_take_of_lt (by omega),List.getElem?_drop,show p+1+(i-(p+1))=i by omega];simp)
   refine ⟨_,t,v,ho,by rw [hat2 i h1];exact m1,?_⟩
   have:((Hl (p+1)++t2).take i).reverse=(t2.take (i-(p+1))).reverse++QL (p+1):=by
    rw [List.take_append,List.take_of_length_le (by rw [Fv];exact h1),Fv,MT];simp
   rw [this];exact m2
  have hdist2:∀ (i j t:Nat) v u,(Hl (p+1)++t2)[i]?=some (t,v)→(Hl (p+1)++t2)[j]?=some (t,u)→i=j:=by
   have hd:∀ {i t:Nat} {v:AV},i<p+1→(Hl (p+1)++t2)[i]?=some (t,v)→t=Fs+i:=fun {i t v} hi he=>by
    rw [List.getElem?_append_left (by rw [Fv];exact hi),Tl hi] at he
    cases he;rfl
   have lt:∀ (i j t:Nat) v u,(Hl (p+1)++t2)[i]?=some (t,v)→(Hl (p+1)++t2)[j]?=some (t,u)→¬i<j:=fun i j t v u hi hj hij=>by
    have hjm:j<m:=by have:=(lS.1 hj).1;rw [List.length_append,Fv] at this;omega
    rcases Nat.lt_or_ge j (p+1) with h|h
    ·have e1:=hd h hj
     have e2:=hd (by omega) hi
     omega
    ·obtain ⟨o,t',v',_,q1,q2⟩:=hone2 j h hjm
     rw [hj] at q1;cases q1
     refine q2.2.2.2.1 (t,v) ?_ rfl
     rw [List.mem_reverse]
     exact List.mem_of_getElem? (by rw [List.getElem?_take_of_lt hij];exact hi)
   intro i j t v u hi hj
   have h1:=lt i j t v u hi hj
   have h2:=lt j i t u v hj hi
   omega
  refine ⟨Hl (p+1)++t2,by rw [List.length_append,Fv];omega,fun j hj=>by rw [List.getElem?_append_left (by rw [Fv];exact hj)];exact Tl hj,?_,hone2,hdist2,by rw [hfin];exact hr⟩
  obtain ⟨o,t,v,q1,q2,q3⟩:=hone2 (p+1) (Nat.le_refl _) hpm
  rw [hoq] at q1;cases q1
  have:t=tq:=by have:=q3.1;rw [hqd] at this;exact (oI this).symm
  subst this
  rw [q2]
  have hm2:(t,v)∈fin2:=by rw [← hfin];exact List.mem_reverse.2 (List.mem_of_getElem? q2)
  have:get fin2 t=v:=Cg hm2 fun u hu=>by
   rw [← hfin] at hu
   obtain ⟨j,hj⟩:=List.getElem?_of_mem (List.mem_reverse.1 hu)
   have:=hdist2 _ _ _ _ _ q2 hj
   subst this
   rw [q2] at hj
   simp only [Option.some.injEq,Prod.mk.injEq,true_and] at hj
   exact hj.symm
  rw [← this,hgq]
 ·have h1:=List.countP_le_length (p:=fun i=>!(Array.replicate ops.size false).getD i false) (l:=List.range p)
  rw [List.length_range] at h1
  rw [hz]
  simp only [Bool.false_eq_true,if_false]
  omega
end
end Go.FL
namespace Go.FL
open Go Go.RowKit
def SB (n:Nat) : AV→Bool
 | .bp i _=>Nat.blt i n
 | .mr i=>Nat.blt i n
 | .ref (.c _ _) _ _=>false
 | .ep (.c _ _) _ _=>false
 | av=>noBp av
def Aad (n:Nat) : HO→Bool
 | .box cs=>cs.all (SB n)
 | _=>true
section
variable {P:Program} {C:Cx} {X:Snap} {o:Oper} {ops:Array Oper} {Q:Exit→Env→Ab→Prop} {env env':Env} {H H':Ab} {a:Act} {w w':World} {I I':Nat→Prop} {μ μ':List Nat} {O O':Nat→Option Loc}
 {K:Env→Ab→Prop} {k:Nat} {l:List Oper}
theorem OpOK.gh2 (g:Gh2 P C env H env' H') (h:OpOK P C o env' H' K) : OpOK P C o env H K:=fun X a w I μ O next Q h1 h2 h3 hs hn =>
 let ⟨I',μ',O',hs'⟩:=g X a w I μ O h1 h2 h3 hs;h X a w I' μ' O' next Q h1 h2 h3 hs' hn
theorem Aca {x:Operand} {av:AV} (ho:o.op=.assign x:=by rfl) (hv:lk env x=av:=by rfl) (hu:av≠.un:=by simp) (hr:AH av=false:=by rfl) (hn:noOwn av=true:=by rfl) : VOK P C o env H av:=by
 obtain ⟨h1,h2⟩:=Ap hv hu
 have:=HI (P:=P) (C:=C) (env:=env) (H:=H) (.inr ho) h1 (by rw [h2];exact hr) (by rw [h2];exact hn)
 rw [h2] at this;exact .pv this hr
theorem stm {x y:Operand} {ty id off i:Nat} {cs:List AV} {c:AV} (hH:H[id]?=some (.box cs)) (hc:cs[off]?=some c) (hco:Ak c=false) (h:RL P C ops Q (k+1) l env (H.set id (.box (cs.set off (.mr i))))) (hsz:Ax P ty=1) (hn:C.n0≤id:=by exact Nat.zero_le _)
  (hg:grd ops env o true=true:=by rfl) (ho:o.op=.store ty x y:=by rfl) (hx:lk env x=.bp id off:=by rfl) (hy:lk env y=.mr i:=by rfl) (hd:o.dst=none:=by rfl):RL P C ops Q k (o::l) env H:=by
 obtain ⟨h1,h2⟩:=Ap hx (by simp)
 obtain ⟨h3,h4⟩:=Ap hy (by simp)
 refine .go hg (KF ho h1 h3 hd hsz h2 hH hc hn (by rw [h4];rfl) (.inl (by rw [h4];rfl)) ?_)
 have e1:K8 env (C4 y)=env:=by
  unfold K8
  cases haf:C4 y with
  | t s =>
   rw [haf] at h4
   have:noOwn (get env s)=true:=by rw [show get env s=_ from h4];rfl
   simp only [this,if_true]
  | _=>rfl
 rw [hco,e1,h4,show Db H id off (.mr i)=H.set id (.box (cs.set off (.mr i))) by simp [Db,hH]]
 exact h
theorem Gh2.cutM {H0:Ab} (G:Ab) (hH:H=H0++G) (hb:(env.all fun x=>SB H0.length x.2)=true) (hb0:H0.all (Aad H0.length)=true) (hne:Nat.ble C.ne H0.length=true) : Gh2 P C env H env H0:=fun X a w I μ O _ h2 h3 hs=>by
 subst hH
 have hne':X.ne≤H0.length:=by rw [h3];exact Nat.le_of_ble_eq_true hne
 have hμt:∀ i,i<H0.length→(μ.take H0.length)[i]?=μ[i]?:=fun i hi=>by rw [List.getElem?_take,if_pos hi]
 have hcell:∀ {c:AV} {v:Value} {b2:List Nat},SB H0.length c=true→ARep P w I μ c v b2→ARep P w I (μ.take H0.length) c v b2:=by
  intro c v b2 hc hr
  cases c with
  | mr i =>
   have hi:i<H0.length:=by simp [SB,Nat.blt] at hc;omega
   cases hr with
   | mr _ b hb=>exact .mr i b (by rw [hμt i hi];exact hb)
  | bp i off =>
   have hi:i<H0.length:=by simp [SB,Nat.blt] at hc;omega
   cases hr with
   | bp _ _ b hb=>exact .bp i off b (by rw [hμt i hi];exact hb)
  | ref _ _ _=>cases hr
  | ep _ _ _=>cases hr
  | _=>exact hr.noBp hc
 have hcells:∀ {cs:List AV} {us:List Value} {b2:List Nat},cs.all (SB H0.length)=true→ARepAll P w I μ cs us b2→ARepAll P w I (μ.take H0.length) cs us b2:=by
  intro cs
  induction cs with
  | nil=>intro us b2 _ h;cases h;exact .nil
  | cons c cs ih =>
   intro us b2 hc h
   simp only [List.all_cons,Bool.and_eq_true] at hc
   cases h with
   | cons h t=>exact .cons (hcell hc.1 h) (ih hc.2 t)
 refine ⟨I,μ.take H0.length,O,{
  prot:=hs.prot,kO:=hs.kO,kI:=hs.kI,mono:=hs.mono,os:=hs.os,tape:=hs.tape,output:=hs.output,size:=hs.size,own:=hs.own,ilt:=hs.ilt
  μlen:=by rw [List.length_take,hs.μlen];simp
  μpre:=fun i b hi hb=>by rw [hμt i (by omega)];exact hs.μpre i b hi hb
  nle:=hne'
  heap:=fun id ob ho=>?_
  klt:=hs.klt
  n0le:=hs.n0le
  envr:=fun s=>?_
  nt:=hs.nt
  dfs:=hs.dfs}⟩
 ·have hlt:=(lS.1 ho).1
  obtain ⟨bb,bs',q1,q2,q3,q4⟩:=hs.heap id ob (by rw [List.getElem?_append_left hlt];exact ho)
  refine ⟨bb,bs',by rw [hμt id hlt];exact q1,?_,q3,q4⟩
  have hok:Aad H0.length ob=true:=List.all_eq_true.1 hb0 ob (List.mem_of_getElem? ho)
  cases ob with
  | box c =>
   obtain ⟨cl,et,n1,n2⟩:=q2
   exact ⟨cl,et,n1,hcells hok n2⟩
  | mo _ _=>exact q2
 ·have hp:=L0 (p:=SB H0.length) rfl hb s
  have ht:=hs.envr s
  cases hgs:get env s with
  | ref p off len =>
   rw [hgs] at hp ht
   obtain ⟨e',xs,A,n,c,g1,g2,g3,g4⟩:=ht
   cases p with
   | c _ _=>cases hp
   | t r=>exact ⟨e',xs,A,n,c,g1,g2,g3,g4⟩
  | ep p i k =>
   rw [hgs] at hp ht
   obtain ⟨e',xs,b,n,c,g1,g2,g3,g4,g5⟩:=ht
   cases p with
   | c _ _=>cases hp
   | t r=>exact ⟨e',xs,b,n,c,g1,g2,g3,g4,g5⟩
  | _ =>
   rw [hgs] at hp ht
   obtain ⟨bs,g1,g2,g3⟩:=ht.plain rfl
   exact .of (hcell hp g1) g2 g3
end
end Go.FL
namespace Go.FL
open Go Go.RowKit
def Vo (P:Program) (env:Env) (H:Ab) (r:AV) : List ResultVar→Prop
 | [.cell t ty]=>∃ id cs,get env t=.bp id 0∧H[id]?=some (.box cs)∧r=.ag cs∧BK P ty=some true∧Ax P ty=cs.length∧0<cs.length
 | _=>False
def Ab1 (P:Program) (rs:List ResultVar) (r:AV) : Exit→Env→Ab→Prop
 | .normal,env,H=>Vo P env H r rs
 | .ret,env,H=>Vo P env H r rs
 | _,_,_=>False
section
variable {P:Program} {C:Cx} {X:Snap} {o:Oper} {ops:Array Oper} {Q:Exit→Env→Ab→Prop} {env env':Env} {H H':Ab} {a:Act} {w w':World} {I I':Nat→Prop} {μ μ':List Nat} {O O':Nat→Option Loc}
 {K:Env→Ab→Prop} {k:Nat} {l:List Oper}
theorem Sim.resultsX (hs:Sim P X env H a w I μ O) (h0:X.n0=0) {fn:Func} {rs:List ResultVar} (hrs:fn.results=rs.toArray) {r:AV} (h:Vo P env H r rs) :
  ∃ v bs,(Go.results fn a.tmps).run P w=.ok v w∧ARep P w I μ r v bs∧bs.Nodup∧∀ b∈bs,∃ l,O b=some l:=by
 unfold Vo at h
 split at h
 ·rename_i t ty
  obtain ⟨id,cs,g1,g2,rfl,g4,g5,g6⟩:=h
  obtain ⟨blk,bs,k1,⟨cells,e,k2,k3⟩,k4,_⟩:=hs.heap id _ g2
  have hp:a.tmps.getD t undef=.pointer (some ⟨blk,0,none⟩):=by
   have:=hs.envr t
   rw [g1] at this
   obtain ⟨bs',q1,_⟩:=this.plain rfl
   generalize a.tmps.getD t undef=u at q1
   cases q1 with
   | bp _ _ b hb=>rw [k1] at hb;cases hb;rfl
  have hh:Has w blk 0 cells.toList:=fun j u hj=>by simp only [World.cell?,k2,Nat.zero_add];simpa using hj
  have hlen:cells.toList.length=cs.length:=k3.length.symm
  refine ⟨.agg cells.toList.toArray,bs,?_,.ag k3,(List.nodup_cons.1 (k4 (by omega)).1).2,fun b hb=>⟨_,(k4 (by omega)).2 b (by simp [hb])⟩⟩
  have hx:(do let x ← (do loadVar ty (← asAddr (a.tmps.getD t undef)));pure x).run P w=.ok (.agg cells.toList.toArray) w:=by rw [hp];simp [asAddr,BU g4 g5 g6 hh hlen]
  simp only [Go.results,hrs]
  simpa using hx
 ·exact h.elim
theorem Fn.ofX {f:FuncId} {fn:Func} {c:Code} {args:List DV} {r:AV} {rs:List ResultVar} {nt:Nat} (hf:P.funcs[f]?=some fn) (hb:fn.body=some c) (hrs:fn.results=rs.toArray) (hnt:fn.ntmps=nt) (hn:args.length≤nt) (hbp:noBp r=true)
  (h:AW P {nt:=(0,nt),n0:=0,ne:=0} c (Ab1 P rs r) (CE 0 args) []):Fn P f args r:=by
 intro w I vs hI ha
 refine callsIn_of_wp hf hb trivial ?_
 have hlen:=ha.length
 let X:Snap:={w:=w,I:=I,K:=fun b=>b<w.heap.size,n0:=0,ne:=0,μ:=[],nt:=(0,nt),dfs:=[]}
 let a:Act:={tmps:=vs.toArray++Array.replicate (fn.ntmps-vs.toArray.size) undef,defers:=[]}
 have hs:Sim P X (CE 0 args) [] a w I [] (fun _=>none):=by
  refine ⟨{prot:=fun _ _=>rfl,kO:=fun _ _=>rfl,kI:=fun _ _ h=>h,mono:=fun _ h=>h,os:=rfl,tape:=rfl,output:=rfl,size:=Nat.le_refl _,own:=(fun b l h=>by simp at h),ilt:=hI,μlen:=rfl,μpre:=(fun i b hi _=>by simp [X] at hi),nle:=(by simp [X]),heap:=(fun id o h=>by simp at h),klt:=fun b hb=>hb,n0le:=(by simp [X])},fun t=>?_,?_,rfl,fun t h=>absurd h (by simp [X])⟩
  ·rcases DH (tmps:=a.tmps) (k:=0) ha (fun j v hj=>by
    have hjl:j<vs.length:=(lS.1 hj).1
    have e2:(vs.toArray++Array.replicate (fn.ntmps-vs.length) undef)[j]?=some v:=by
     rw [Array.getElem?_append_left (by simpa using hjl)];simpa using hj
    simp [a,e2]) t with h0|⟨d,h0,h1⟩
   ·rw [h0];exact .un
   ·rw [h0];exact .of (bs:=[]) (.d h1) nN (by simp)
  ·simp [a,X,hnt];omega
 have hw:=h X a w I [] (fun _=>none) rfl rfl rfl hs
 refine wpIn_mono hw fun e a' w' hp=>?_
 obtain ⟨env',H',I',μ',O',s,q⟩:=hp
 have fin:Vo P env' H' r rs→a'.defers=[]∧∃ v,(Go.results fn a'.tmps).run P w'=.ok v w'∧∃ v' I' bs,Ending.returned v=.returned v'∧Below w.heap.size w w'∧(∀ b,I b→I' b) ∧
   (∀ b,I' b→b<w'.heap.size∧(b<w.heap.size→I b))∧ARep P w' I' [] r v' bs∧bs.Nodup∧∀ b∈bs,w.heap.size≤b∧b<w'.heap.size∧¬I' b:=by
  intro hres
  obtain ⟨v,bs,h1,h2,h3,h4⟩:=s.resultsX rfl hrs hres
  refine ⟨s.dfs.1,v,h1,v,I',bs,rfl,⟨s.os,s.tape,s.output,s.size,fun b hb=>s.prot b hb⟩,s.mono,fun b hi=>⟨s.ilt b hi,fun hb=>s.kI b hb hi⟩,h2.noBp hbp,h3,fun b hm=>?_⟩
  obtain ⟨l,hl⟩:=h4 b hm
  refine ⟨?_,(s.own b l hl).1,(s.own b l hl).2⟩
  rcases Nat.lt_or_ge b w.heap.size with hlt|hge
  ·have:=s.kO b hlt;rw [this] at hl;cases hl
  ·exact hge
 cases e with
 | normal=>exact fin q
 | ret=>exact fin q
 | _=>exact q.elim
theorem Abx {x:Operand} {ty t n id off:Nat} {cs:List AV} (hH:H[id]?=some (.box cs)) (h:RL P C ops Q (k+1) l (put (GQ id off n cs env H).1 t (XI ((cs.drop off).take n))) (GQ id off n cs env H).2) (hag:BK P ty=some true) (hn:Ax P ty=n) (hn0:0<n:=by decide) (hc:off+n≤cs.length:=by decide)
  (hg:grd ops env o true=true:=by rfl) (ho:o.op=.load ty x:=by rfl) (hv:lk env x=.bp id off:=by rfl) (hd:o.dst=some t:=by rfl) (ht:okT C.nt t:=by rfl) (h0:C.n0=0:=by rfl):RL P C ops Q k (o::l) env H:=by
 obtain ⟨h1,h2⟩:=Ap hv (by simp)
 exact .go hg (R4 ho h1 hd ht hag hn hn0 h2 hH hc (.inl (by omega)) h)
theorem Ab5 {s t ty f off:Nat} {ds:List AV} {e:TypeId} {xs:List DV} (hf:Bq P ty f=some (off,1)) (hgf:R2 P ty f=some false) (h:RL P C ops Q (k+1) l ((t,.own e xs)::(s,.un)::env) H) (hg:grd ops env o true=true:=by rfl) (ho:o.op=.field ty (.tmp s) f:=by rfl)
  (hv:get env s=.ag ds:=by rfl) (hc:ds[off]?=some (.own e xs):=by rfl) (hd:o.dst=some t:=by rfl) (hfr:Ak (get env t)=false:=by rfl) (ht:okT C.nt t:=by rfl) (hst:s≠t:=by decide):RL P C ops Q k (o::l) env H:=by
 have hput:put ((s,AV.un)::env) t (.own e xs)=(t,.own e xs)::(s,.un)::env:=Aj (by simp [get,hst,hfr])
 rw [← hput] at h
 refine .go hg (.val (env':=(s,.un)::env) (H':=H) (by simp [ho]) hd ht (fun X a w I μ O _ _ _ hs=>?_) h)
 obtain ⟨fs,fl,i,g1,g2,g3,g4,g5⟩:=Gy hf
 obtain ⟨fs',fl',e1,e2,e3⟩:=KU hgf
 rw [g1] at e1;cases e1
 rw [g2] at e2;cases e2
 obtain ⟨k1,bs,k2,k3,k4⟩:=hs.take s (by rw [hv];rfl)
 rw [hv] at k2
 generalize hval:a.tmps.getD s undef=u at k2
 cases k2 with
 | @ag _ us _ hr =>
  obtain ⟨v,b1,bk,b2,m1,m2,m3,_⟩:=hr.at off _ hc
  subst m3
  have hnd:=List.nodup_append.1 k3
  have hnd2:=List.nodup_append.1 hnd.2.1
  refine ⟨v,w,I,μ,_,?_,k1.same fun r=>?_,bk,m2,hnd2.1,fun b hb=>k4 b (by simp [hb])⟩
  ·have hev:a.eval (.tmp s)=.agg us.toArray:=hval
   have hoff:us[fl.offset]?=some v:=by rw [g3];exact m1
   simp [execOp,ho,hev,Instr.field,run_underlying g1,g2,part,Hi e3,asAgg,hoff]
  ·simp [put,hv,Ak]
end
end Go.FL
namespace Go.FL
open Go Go.Proofs
set_option maxHeartbeats 4000000 in
theorem Ky {a0:Arr} {a1:Cc} (oa1:Ls a1) {r:Arr} (h:B7 a0 a1=some r) :
  Fn Tryz.prog 60 [.ag [.sl (Is a0.shape),.sl (Its a0.items)],a1.dv] (.ag [.d (.sl (Is r.shape)),.own 44 (Its r.items)]):=by
 unfold B7 at h
 refine Fn.ofX (rs:=[.cell 4 25]) (nt:=29) Tryz.func60 rfl rfl rfl (by simp) rfl ?_;refine .seq<|.region<|kK (vbx)<|kK (van (Ai AR) A0)<|rn<|.gh (Gh.keep [1,2,4] rfl)<|.seq<|.region<|kK (vfa AZ)<|kK (Am Co) ?_
 obtain ⟨x1,hx1,h⟩:=bnd h
 refine kK ((Al (GP hx1) Tryz.call21).deep)<|kK (XE Ds AR (fun w I μ=>Mb w I μ))<|kK (van (Ai AR) A0) ?_
 refine X0 ?_ Ac (by decide)
 refine rn<|.gh (Gh.keep [1,2,4,5] rfl)<|.seq<|.seq<|.region<|kK (vfa AP)<|kK (Am BG)<|kK (A8 (Af _) (BD _) Bh)<|kK (Ad)<|rn<|.gh (Gh.keep [1,4,5,13,14,15] rfl) ?_
 obtain ⟨K0,hK0,h⟩:=AX h
 refine AW.mr (σ:=(List Int)×(List Itm)) (fun p=>K0 p.1 p.2=some r) (fun p=>[(4,.nb [.sl (Is []),.sl (Its [])]),(5,.bp 0 0)]) (fun p=>[HO.box [.d (.sl (Is p.1)),.own 44 (Its p.2)]]) ?_ ?_
 ·skip
  refine .block<|.gh (Gh.nlOwnC (id:=0) (off:=1) 44 (by rw [K7];decide)) ?_
  refine .loop (.gh (Gh.keep [1,4,5,13,14,15] rfl) ?_)
  refine AL.ind (σ:=Nat×Int×(List Int)×(List Itm)) (m:=fun p=>p.1) (e:=fun p=>[(1,.d (a1.dv)),(4,.nb [.sl (Is []),.sl (Its [])]),(5,.bp 0 0),(13,.d (.sl (Its a0.items))),(14,.d (.i .i64 ((List.length a0.items:Nat):Int))),(15,.d (.i .i64 p.2.1))]) (h:=fun p=>[HO.box [.d (.sl (Is p.2.2.1)),.own 44 (Its p.2.2.2)]]) (I:=fun p=>Bn a0 a1 K0 p.1 p.2.1 p.2.2.1 p.2.2.2=some r) ?_ (AJ,0,x1,[]) h
  rintro ⟨k,s4,s5,s6⟩ h ih
  dsimp only at h ih ⊢
  rcases k with _|k
  ·rw [Bn] at h;cases h
  rw [Bn] at h
  refine .seq<|.region<|kK (vbi)<|rn<|.gh (Gh.keep [1,4,5,13,14,15,16] rfl)<|.seq ?_
  by_cases hc:s4<((List.length a0.items:Nat):Int)
  ·replace h:=Je hc h
   refine cnt (dT hc) ?_;refine .skip<|aw<|.seq<|.block<|.seq<|.region ?_
   obtain ⟨x7,hx7,h⟩:=bnd h
   obtain ⟨nx7,hnx7,hxx7⟩:=Ar hx7
   refine kK (vix nx7 hnx7 (BI hxx7) rfl Bp)<|kK (Au AF An)<|kK (van (Ai BL) BQ) ?_
   refine stn ?_ An (by decide)
   refine rn<|.gh (Gh.keep [1,4,5,7,13,14,15] rfl)<|.drawn 6 A5 (by kernel_rfl) ?_;refine kV (Gt AP)<|kV (QH (cs:=[.d (.sl (Is s5)),.own 44 (Its s6)]) rfl rfl BG)<|kV (Ad)<|kV (CR AF An) ?_
   obtain ⟨x8,hx8,h⟩:=bnd h
   refine kV (LF (oa1 _ _ hx8))<|kV ((FG (Fa x8) (D7 [x8]) Dc).deep)<|dz ?_
   obtain ⟨x9,hx9,h⟩:=bnd h
   refine U9 IV hx9 rfl rfl KW ?_ Hx Af Dc
   refine RL.gh (Gh.keep [1,4,5,7,13,14,15,19,21,22,23,24,25] rfl)<|kK (Gt AP) ?_
   refine Pz (cs:=[.d (.sl (Is s5)),.un]) (c:=.un) rfl rfl ?_ JH
   refine .nil ?_;refine aw<|.gh (Gh.keep [1,4,5,13,14,15] rfl)<|.region<|kK (vbi)<|kK (Ad)<|.nil ?_;refine AL.gh (Gh.keep [1,4,5,13,14,15] rfl) ?_
   exact ih (k,(w64 (s4+1)),s5,x9) h (Nat.lt_succ_self _)
  replace h:=Jn hc h
  refine cnf (dF hc) ?_;refine .gh (Gh.keep [4,5] rfl)<|.exit ?_
  exact jr (s5,s6) h
 rintro ⟨z2,z3⟩ h
 try dsimp only at h ⊢
 subst hK0
 refine aw<|.seq<|.gh2 (Gh.nbb (t:=4) rfl) ?_;refine .region ?_
 refine Abx (id:=0) (off:=0) (n:=2) (cs:=[.d (.sl (Is z2)),.own 44 (Its z3)]) rfl ?_ Ag Ac (hc:=Nat.le_refl 2)
 refine st2 (id:=1) (r:=28) (c0:=.d (.sl (Is []))) (c1:=.d (.sl (Its []))) (a0:=.d (.sl (Is z2))) (a1:=.own 44 (Its z3)) rfl ?_ Ac
 refine rn<|.gh (Gh.keep [4] rfl)<|.ret ?_
 cases h
 exact ⟨1,_,rfl,rfl,rfl,Ag,Ac,(by decide:(0:Nat)<2)⟩
theorem Ed {a0:Arr} {r:(List Itm)} (h:Bx a0=some r) :
  Fn Tryz.prog 31 [.ag [.sl (Is a0.shape),.sl (Its a0.items)]] (.own 44 (Its r)):=by
 unfold Bx at h
 refine Fn.of (rs:=[.tmp 2]) (nt:=21) Tryz.func31 rfl rfl rfl (by simp) rfl ?_;refine .seq<|.region<|kK (vbx)<|asn ?_;refine rn<|.gh (Gh.keep [1,2] rfl)<|.seq<|.seq<|.region<|kK (vfa AZ)<|kK (Am Co) ?_
 obtain ⟨x1,hx1,h⟩:=bnd h
 refine kK (VOK.tupd (vs:=[.i .i64 x1.1,.i .i64 x1.2]) (Al (D3 hx1) Tryz.call17))<|kK (Ad)<|kK (vex)<|kK (vex)<|kD zj<|kD zj<|rn<|.gh (Gh.keep [1,2,3] rfl)<|.seq ?_
 obtain ⟨z2,hz,h⟩:=bnd h
 refine AW.mr (σ:=Unit) (fun _=>True) (fun _=>[(1,.d (.ptr [.sl (Is a0.shape),.sl (Its a0.items)])),(2,.nl),(17,.d (.b z2))]) (fun _=>[]) ?_ ?_
 ·skip
  refine .region<|kK (Ad)<|kK (vbi) ?_
  by_cases hc:x1.1=0
  ·replace hz:=Je hc hz
   have hb0:(decide (x1.1=0))=true:=(dT hc)
   refine kK (VOK.lit (Ad) hb0)<|gf3 ?_;refine kK (As)<|RL.gh (Gh.keep [1,2,17] rfl)<|.nil ?_
   cases hz
   exact jr () trivial
  replace hz:=Jn hc hz
  have hb0:(decide (x1.1=0))=false:=(dF hc)
  refine kK (VOK.lit (Ad) hb0)<|kK (Au Ag Ac) ?_
  obtain ⟨x3,hx3,hz⟩:=bnd hz
  refine kK (Al (Cw hx3) Tryz.call25)<|kK (vnt)<|kK (As)<|RL.gh (Gh.keep [1,2,17] rfl)<|.nil ?_
  cases hz
  exact jr () trivial
 rintro _ _
 by_cases hc:z2=true
 ·replace h:=Je hc h
  refine cnt hc ?_;refine .seq<|.region<|asn ?_;refine rn<|.gh (Gh.keep [1,2] rfl)<|.gh (Gh.nlOwn (t:=2) 44 (by rw [K7];decide) rfl)<|.ret ?_
  cases h
  exact ⟨rfl,rfl⟩
 replace h:=Jn hc h
 refine cnf (bf hc) ?_;refine .skip<|aw<|.seq<|.region<|kK (Au Ag Ac) ?_
 obtain ⟨x4,hx4,h⟩:=bnd h
 refine kK (Al (Ky (JQ Tryz.call24 (fun _ _ h=>Jv h)) hx4) Tryz.call60)<|Ab5 AP Nf ?_;refine aso ?_;refine rn<|.gh (Gh.keep [2] rfl)<|.ret ?_
 cases h
 exact ⟨rfl,rfl⟩
def Qt (xs:List RT) : List (List DV):=(List.range xs.length).map fun k=>match xs[xs.length-1-k]? with
 | some x=>[.i .i64 ((xs.length-1-k:Nat):Int),.ag [.b x.1,.sl (L x.2.1),.sl (L x.2.2)]]
 | none=>[]
theorem PI {xs:List RT} {k:Nat} {x:RT} (hk:k<xs.length) (h:xs[xs.length-1-k]?=some x) : (Qt xs)[k]?=some [.i .i64 ((xs.length-1-k:Nat) : Int),.ag [.b x.1,.sl (L x.2.1),.sl (L x.2.2)]]:=by simp [Qt,hk,h]
theorem Il (xs:List RT) : (Qt xs).length=xs.length:=by simp [Qt]
theorem Vf (xs:List RT) : ∀ ds∈Qt xs,ds.length=2:=fun ds hd=>by
 obtain ⟨k,hk⟩:=List.getElem?_of_mem hd
 have hkl:k<xs.length:=by rw [← Il];exact (lS.1 hk).1
 rw [PI hkl (lG (by omega))] at hk
 cases hk;rfl
theorem ZN (xs:List DV) : Fn Tryz.prog 95 [.sl xs] (.d (.fn 146 [] [.ptr [.sl xs]])):=by
 refine Fn.of (rs:=[.tmp 2]) (nt:=4) Tryz.func95 rfl rfl rfl (by simp) rfl ?_;refine .seq<|.region<|bxd ?_;refine kD zj<|rn<|.seq<|.region<|mkf ?_;refine kD zj<|rn<|.ret ?_
 exact ⟨rfl,rfl⟩
set_option maxRecDepth 10000 in
theorem ZT {xs:List RT} (hl:xs.length≤9223372036854775806) {m:Nat} (hm:xs.length≤m) : ItG Tryz.prog 146 [.ptr [.sl (RVs xs)]] (Qt xs) m:=by
 have hyl:=Il xs
 refine ItG.of Tryz.func146 rfl rfl (nt:=19) rfl (by simp) fun lp J hJ hR=>?_;refine .seq<|.lift ?_;refine .region<|kK (Am O8)<|kK (A8 (DB _) (Nb _) RX)<|kK (vbi)<|kD zj<|.nil ?_
 show AWJ _ _ _ _ _ _ _ _ _
 refine .block<|ALJ.loop ?_;refine ALJ.gh (Gh.keep [0,1,3] rfl) ?_
 rw [show DV.i .i64 (IntKind.wrap .i64 (((List.length xs:Nat):Int)-1))=.i .i64 (((List.length xs:Nat):Int)-1-((0:Nat):Int)) from by
  congr 1;simp only [IntKind.wrap,IntKind.bits,IntKind.signed];simp;omega]
 refine ALJ.ind (σ:=Nat) (m:=fun i=>xs.length-i) (e:=fun i=>[(0,.d (.yl lp)),(1,.d (.ptr [.sl (RVs xs)])),(3,.d (.i .i64 (((List.length xs:Nat):Int)-1-((i:Nat):Int))))]) (h:=fun _=>[]) (r:=fun i=>i) (I:=fun i=>i≤xs.length) ?_ 0 (Nat.zero_le _)
 rintro i hi ih
 refine .seq<|.seq<|.lift ?_;refine .region<|kK (Ad)<|kK (vbi)<|.nil ?_
 show AWJ _ _ _ _ _ _ _ _ _
 by_cases hc:(0:Int)≤((List.length xs:Nat):Int)-1-((i:Nat):Int)
 ·refine .cond (x:=true) (by show AV.d (.b (decide _))=_;rw [dT hc]) (fun _=>?_) (fun h=>by cases h)
  have hlt:i<xs.length:=by omega
  have hj:xs.length-1-i<xs.length:=by omega
  have hij:((List.length xs:Nat):Int)-1-((i:Nat):Int)=((xs.length-1-i:Nat):Int):=by omega
  have hxi:=lG hj
  generalize xs[xs.length-1-i]=x at hxi
  refine .skip ?_
  show AWJ _ _ _ _ _ _ _ _ _
  refine .seq<|.block<|.seq<|.region<|vkJ (Ad) ?_;refine vkJ (Ad) ?_;refine vkJ (Am O8) ?_;refine vkJ (Ad) ?_;refine vkJ (vix (xs.length-1-i) hij (PO hxi) rfl W5) ?_;refine vkJ (Au A1 AD) ?_
  refine yld (hR i [.i .i64 ((xs.length-1-i:Nat):Int),.ag [.b x.1,.sl (L x.2.1),.sl (L x.2.2)]] (PI hlt hxi) (by omega)) hJ ?_ (ha:=by show some _=some _;rw [hij];rfl)
  refine vkJ (vnt) ?_;refine .nil ?_
  show AWJ _ _ _ _ _ _ _ _ _
  refine .cond (x:=false) (by show AV.d (.b (!decide _))=_;rw [dT (by omega:i<m)];rfl) (fun h=>by cases h) (fun _=>?_)
  refine .skip ?_
  show AWJ _ _ _ _ _ _ _ _ _
  refine .lift ?_;refine .region<|kK (Ad)<|kK (vbi)<|kD zj<|.nil ?_
  show ALJ _ _ _ _ _ _ _ _ _
  have hw:IntKind.wrap .i64 (((List.length xs:Nat):Int)-1-((i:Nat):Int)-1)=((List.length xs:Nat):Int)-1-((i+1:Nat):Int):=by simp only [IntKind.wrap,IntKind.bits,IntKind.signed];simp;omega
  rw [hw]
  refine ALJ.gh (Gh.keep [0,1,3] rfl) ?_
  exact ih (i+1) hlt (by omega)
 ·refine .cond (x:=false) (by show AV.d (.b (decide _))=_;rw [dF hc]) (fun h=>by cases h) (fun _=>?_)
  refine .exit ?_
  exact ⟨.inl rfl,by rw [hyl];omega⟩
end Go.FL
namespace Go.FL
open Go Go.RowKit
def cell1 (P:Program) (env:Env) (t ty:Nat) (d:DV) : Prop:=(get env t=.d (.ptr [d])∨get env t=.nb [d])∧BK P ty=some false
def Z1 (P:Program) (env:Env) (r:AV) : List ResultVar→Prop
 | [.cell x tx,.cell y ty]=>∃ cs d,cellD P env x tx cs∧cell1 P env y ty d∧r=.tup [.d (.ag cs),.d d]
 | _=>False
def Aba (P:Program) (rs:List ResultVar) (r:AV) : Exit→Env→Ab→Prop:=fun e env _=>(e=.normal∨e=.ret)∧Z1 P env r rs
section
variable {P:Program} {X:Snap} {env:Env} {H:Ab} {a:Act} {w:World} {I:Nat→Prop} {μ:List Nat} {O:Nat→Option Loc}
theorem Sim.cell1 (hs:Sim P X env H a w I μ O) {t ty:Nat} {d:DV} (h:Go.FL.cell1 P env t ty d) : ∃ p v,a.tmps.getD t undef=.pointer (some p)∧(loadVar ty p).run P w=.ok v w∧Rep w I d v:=by
 obtain ⟨h1,h2⟩:=h
 rcases h1 with h1|h1
 ·have:=hs.envr t
  rw [h1] at this
  obtain ⟨bs,g1,_⟩:=this.plain rfl
  generalize a.tmps.getD t undef=u at g1
  cases g1 with
  | d g1 =>
   cases g1 with
   | ptr _ b off vs k1 k2 k3 =>
    cases k3 with
    | @cons _ v _ _ hd t =>
     cases t
     exact ⟨_,v,rfl,Bo h2 (by have:=k2 0 v rfl;simpa using this),hd⟩
 ·obtain ⟨blk,cells,e,g1,g2,g3,_⟩:=hs.nb_inv h1
  generalize hc:cells.toList=l at g3
  cases g3 with
  | @cons _ v _ _ hd t =>
   cases t
   refine ⟨_,v,g1,Bo h2 ?_,hd⟩
   have:cells[0]?=some v:=by rw [← Array.getElem?_toList,hc];rfl
   simp [World.cell?,g2,this]
theorem Sim.resultsB (hs:Sim P X env H a w I μ O) {fn:Func} {rs:List ResultVar} (hrs:fn.results=rs.toArray) {r:AV} (h:Z1 P env r rs) :
  ∃ v bs,(Go.results fn a.tmps).run P w=.ok v w∧ARep P w I μ r v bs∧bs.Nodup∧∀ b∈bs,∃ l,O b=some l:=by
 unfold Z1 at h
 split at h
 ·obtain ⟨cs,d,kx,ky,rfl⟩:=h
  obtain ⟨px,wx,ex,fx,rx⟩:=hs.cellD kx
  obtain ⟨py,wy,ey,fy,ry⟩:=hs.cell1 ky
  exact ⟨_,[],Ot (by rw [hrs]) (by simp [Hu,ex,asAddr,fx]) (by simp [Hu,ey,asAddr,fy]),.tup (ARepAll.cons (b1:=[]) (b2:=[]) (.d rx) (ARepAll.cons (b1:=[]) (b2:=[]) (.d ry) .nil)),nN,by simp⟩
 ·exact h.elim
theorem Fn.ofMB {f:FuncId} {fn:Func} {c:Code} {args:List DV} {r:AV} {rs:List ResultVar} {nt:Nat} (hf:P.funcs[f]?=some fn) (hb:fn.body=some c) (hrs:fn.results=rs.toArray) (hnt:fn.ntmps=nt) (hn:args.length≤nt) (hbp:noBp r=true)
  (h:AWM P {nt:=(0,nt),n0:=0,ne:=0} c (Aba P rs r) (CE 0 args) []):Fn P f args r:=by
 intro w I vs hI ha
 refine callsIn_of_wp_marks hf hb trivial ?_
 have hlen:=ha.length
 let X:Snap:={w:=w,I:=I,K:=fun b=>b<w.heap.size,n0:=0,ne:=0,μ:=[],nt:=(0,nt),dfs:=[]}
 let a:Act:={tmps:=vs.toArray++Array.replicate (fn.ntmps-vs.toArray.size) undef,defers:=[]}
 have hs:Sim P X (CE 0 args) [] a w I [] (fun _=>none):=by
  refine ⟨{prot:=fun _ _=>rfl,kO:=fun _ _=>rfl,kI:=fun _ _ h=>h,mono:=fun _ h=>h,os:=rfl,tape:=rfl,output:=rfl,size:=Nat.le_refl _,own:=(fun b l h=>by simp at h),ilt:=hI,μlen:=rfl,μpre:=(fun i b hi _=>by simp [X] at hi),nle:=(by simp [X]),heap:=(fun id o h=>by simp at h),klt:=fun b hb=>hb,n0le:=(by simp [X])},fun t=>?_,?_,rfl,fun t h=>absurd h (by simp [X])⟩
  ·rcases DH (tmps:=a.tmps) (k:=0) ha (fun j v hj=>by
    have hjl:j<vs.length:=(lS.1 hj).1
    have e2:(vs.toArray++Array.replicate (fn.ntmps-vs.length) undef)[j]?=some v:=by
     rw [Array.getElem?_append_left (by simpa using hjl)];simpa using hj
    simp [a,e2]) t with h0|⟨d,h0,h1⟩
   ·rw [h0];exact .un
   ·rw [h0];exact .of (bs:=[]) (.d h1) nN (by simp)
  ·simp [a,X,hnt];omega
 have hw:=h X a w I [] (fun _=>none) rfl rfl rfl hs
 refine wpIn_mono hw fun e a' w' hp=>?_
 obtain ⟨env',H',I',μ',O',ms,s,⟨he,q⟩,hm⟩:=hp
 have hdf:a'.defers=ms:=by rw [s.dfs.1];simp [X]
 have fin:LeavesInM (om none) 0 P fn a'.tmps (fun e w'=>∃ v I' bs,e=.returned v∧Below w.heap.size w w'∧(∀ b,I b→I' b) ∧
   (∀ b,I' b→b<w'.heap.size∧(b<w.heap.size→I b))∧ARep P w' I' [] r v bs∧bs.Nodup∧∀ b∈bs,w.heap.size≤b∧b<w'.heap.size∧¬I' b) a'.defers .returning w':=by
  rw [hdf]
  refine Ht (fun w4 s4=>?_) ms w' s hm
  obtain ⟨v,bs,h1,h2,h3,h4⟩:=s4.resultsB hrs q
  refine ⟨v,h1,v,I',bs,rfl,⟨s4.os,s4.tape,s4.output,s4.size,fun b hb=>s4.prot b hb⟩,s4.mono,fun b hi=>⟨s4.ilt b hi,fun hb=>s4.kI b hb hi⟩,h2.noBp hbp,h3,fun b hm=>?_⟩
  obtain ⟨l,hl⟩:=h4 b hm
  refine ⟨?_,(s4.own b l hl).1,(s4.own b l hl).2⟩
  rcases Nat.lt_or_ge b w.heap.size with hlt|hge
  ·have:=s4.kO b hlt;rw [this] at hl;cases hl
  ·exact hge
 rcases he with rfl|rfl<;>exact fin
end
end Go.FL
namespace Go.FL
open Go Go.Proofs
def Di (x1:(List Itm)) (K0:(List RT)→Int→(List RT)→Option ((List RT)×Int)) : Nat→(List RT)→Int→(List RT)→Int→Option ((List RT)×Int)
 | 0,_,_,_,_=>none
 | k+1,s5,s6,s7,s8=>(if s8<((List.length x1:Nat):Int) then ((rd? x1 s8).bind fun x9=>(if x9.kind=1 then ((ap? 2513169434916 s7 [x9.num]).bind fun x10=>(Di x1 K0 k s5 s6 x10 (w64 (s8+1)))) else (some ([],3)))) else (K0 s5 s6 s7))
def FZ (a0:Arr) : Option ((List RT)×Int):=((Bx a0).bind fun x1=>(jn (fun (z2:(List RT)) (z3:Int) (z4:(List RT))=>(some (z4,0))) fun K0=>(Di x1 K0 AJ [] 0 [] 0)))
theorem HQ {a0:Arr} {r:(List RT)×Int} (h:FZ a0=some r) :
  Fn Tryz.prog 145 [.ag [.sl (Is a0.shape),.sl (Its a0.items)]] (.tup [.d (.sl (RVs r.1)),.d (.i .i64 r.2)]):=by
 unfold FZ at h
 refine Fn.of (rs:=[.tmp 2,.tmp 3]) (nt:=24) Tryz.func145 rfl rfl rfl (by simp) rfl ?_;refine .sr<|kK vbx<|asn ?_;refine kR [1,2,3] zj<|.sr<|asn ?_;refine rk [1,2,3,4]<|.seq<|.sr<|kK (Au Ag Ac) ?_
 obtain ⟨x1,g1,h⟩:=bnd h
 refine kK (Al (Io g1) Tryz.call31)<|kK (A8 (Af _) (BD _) Bh)<|kA zj<|rk [2,3,4,8,9,10] ?_
 obtain ⟨K0,hK0,h⟩:=AX h
 refine AW.mr (σ:=(List RT)×Int×(List RT)) (fun p=>K0 p.1 p.2.1 p.2.2=some r) (fun p=>[(2,.d (.sl (RVs p.1))),(3,.d (.i .i64 p.2.1)),(4,.own 33 (RVs p.2.2))]) (fun p=>[]) ?_ ?_
 ·skip
  refine .block<|.gh (Gh.nlD (t:=2) rfl)<|.gh (Gh.nlOwn (t:=4) 33 (by rw [Abg];decide) rfl) ?_
  refine .loop (.gk [2,3,4,8,9,10] ?_)
  refine AL.ind (σ:=Nat×(List RT)×Int×(List RT)×Int) (m:=fun p=>p.1) (e:=fun p=>[(2,.d (.sl (RVs p.2.1))),(3,.d (.i .i64 p.2.2.1)),(4,.own 33 (RVs p.2.2.2.1)),(8,.d (.sl (Its x1))),(9,.d (.i .i64 ((List.length x1:Nat):Int))),(10,.d (.i .i64 p.2.2.2.2))]) (h:=fun p=>[]) (I:=fun p=>Di x1 K0 p.1 p.2.1 p.2.2.1 p.2.2.2.1 p.2.2.2.2=some r) ?_ (AJ,[],0,[],0) h
  rintro ⟨k,s5,s6,s7,s8⟩ h ih
  dsimp only at h ih ⊢
  rcases k with _|k
  ·rw [Di] at h;cases h
  rw [Di] at h
  refine .sr<|kB zj<|rk [2,3,4,8,9,10,11]<|.seq ?_
  rcases brc h with ⟨hc,h⟩|⟨hc,h⟩
  ·refine cnt (dT hc) ?_
   refine .sk ?_;refine .seq<|.block<|.sr ?_
   obtain ⟨x9,g9,h⟩:=bnd h
   obtain ⟨n9,p09,q9⟩:=Ar g9
   refine kK (vix n9 p09 (BI q9) rfl Bp)<|kK (Au AF An)<|kK (van (Ai BL) BQ) ?_
   refine stn ?_ An (by decide)
   refine rk [2,3,4,6,8,9,10]<|.seq<|.seq<|.gh (Gh.nbp (t:=6) rfl)<|.region<|kK (vfa Cz)<|kK (Am Bm)<|kB zj<|rk [2,3,4,6,8,9,10,16] ?_
   rcases brc h with ⟨hc,h⟩|⟨hc,h⟩
   ·refine cnf (ntf (dT hc)) ?_
    refine .sk ?_;refine .region<|mvo ?_;refine kK (vfa BY)<|kK (Au A1 AD)<|kK ((GK (F9 [x9.num]) IK).deep) ?_
    obtain ⟨x10,g10,h⟩:=bnd h
    refine Wq XP g10 YZ ?_ Yo DB IK
    refine aso ?_;refine .nil ?_;refine aw<|.gk [2,3,4,8,9,10]<|.region<|kB zj<|kA zj<|.nil ?_;refine AL.gk [2,3,4,8,9,10] ?_
    exact ih (k,s5,s6,x10,(w64 (s8+1))) h (Nat.lt_succ_self _)
   refine cnt (ntt (dF hc)) ?_;refine .sr<|asn ?_;refine kR [2,3,4,6,8,9,10] zj<|.gh (Gh.nlD (t:=2) rfl)<|.ret ?_
   cases h
   exact ⟨by decide,rfl,rfl,rfl⟩
  refine cnf (dF hc) ?_;refine .gk [2,3,4]<|.exit ?_
  exact jr (s5,s6,s7) h
 rintro ⟨z2,z3,z4⟩ h
 try dsimp only at h ⊢
 subst hK0
 refine aw<|.sr<|fz (p:=.t 4) ?_;refine kA zj<|kD zj<|kR [2,3] zj<|.ret ?_
 cases h
 exact ⟨by decide,rfl,rfl,rfl⟩
def KH (a0:Arr) (a1:Arr) : Option ((List RT)×(List RT)×Int):=((FZ a0).bind fun x1=>(jn (fun (z2:(List RT)) (z3:Int)=>(some (x1.1,z2,z3))) fun K0=>(if x1.2=0 then ((FZ a1).bind fun x4=>(K0 x4.1 x4.2)) else (K0 [] x1.2))))
theorem Pu {a0:Arr} {a1:Arr} {r:(List RT)×(List RT)×Int} (h:KH a0 a1=some r) :
  Fn Tryz.prog 93 [.ag [.sl (Is a0.shape),.sl (Its a0.items)],.ag [.sl (Is a1.shape),.sl (Its a1.items)]] (.tup [.d (.sl (RVs r.1)),.d (.sl (RVs r.2.1)),.d (.i .i64 r.2.2)]):=by
 unfold KH at h
 refine Fn.of (rs:=[.tmp 4,.tmp 5,.tmp 6]) (nt:=22) Tryz.func93 rfl rfl rfl (by simp) rfl ?_;refine .sr<|kK vbx<|kK vbx<|asn ?_;refine asn ?_;refine kR [2,3,4,5,6] zj<|.seq<|.sr<|kK (Au Ag Ac) ?_
 obtain ⟨x1,g1,h⟩:=bnd h
 refine kK (VOK.tupd (vs:=[.sl (RVs x1.1),.i .i64 x1.2]) (Al (HQ g1) Tryz.call145))<|kA zj<|kK vex<|kK vex<|kD zj<|kR [3,4,5,6] zj<|.sr<|kA zj<|kB zj<|rk [3,4,5,6,13] ?_
 obtain ⟨K0,hK0,h⟩:=AX h
 refine AW.mr (σ:=(List RT)×Int) (fun p=>K0 p.1 p.2=some r) (fun p=>[(4,.d (.sl (RVs x1.1))),(5,.d (.sl (RVs p.1))),(6,.d (.i .i64 p.2))]) (fun p=>[]) ?_ ?_
 ·skip
  rcases brc h with ⟨hc,h⟩|⟨hc,h⟩
  ·refine cnt (dT hc) ?_
   refine .region<|kK (Au Ag Ac) ?_
   obtain ⟨x4,g4,h⟩:=bnd h
   refine kK (VOK.tupd (vs:=[.sl (RVs x4.1),.i .i64 x4.2]) (Al (HQ g4) Tryz.call145))<|kA zj<|kK vex<|kK vex<|kD zj<|kD zj<|RL.gk [4,5,6]<|.nil ?_
   exact jr (x4.1,x4.2) h
  refine cnf (dF hc) ?_;refine .gh (Gh.nlD (t:=5) rfl)<|.gk [4,5,6]<|.skip ?_
  exact jr ([],x1.2) h
 rintro ⟨z2,z3⟩ h
 try dsimp only at h ⊢
 subst hK0
 refine aw<|.sr<|kA zj<|kA zj<|kA zj<|kD zj<|kD zj<|kR [4,5,6] zj<|.ret ?_
 cases h
 exact ⟨⟨by decide,by decide,by decide⟩,rfl,rfl,rfl,rfl⟩
def Jp (a0:RT) (a1:RT) : Option (RT×RT×Int):=((HZ a0 a1).bind fun x1=>(Option.bind ((if x1.2=0 then ((IP a0).bind fun x3=>(some (decide (x3=0)))) else (some true)) : Option (Bool)) fun (z2:Bool)=>(if z2=true then none else ((HK a1 x1.1).bind fun x4=>(jn (fun (z5:RT) (z6:Int)=>(some (x1.1,z5,z6))) fun K0=>(if x4.2=0 then ((Mg x4.1 a0).bind fun x7=>(K0 x7.1 x7.2)) else (K0 x4.1 x4.2)))))))
theorem NQ {a0:RT} {a1:RT} {r:RT×RT×Int} (h:Jp a0 a1=some r) :
  Fn Tryz.prog 96 [.ag [.b a0.1,.sl (L a0.2.1),.sl (L a0.2.2)],.ag [.b a1.1,.sl (L a1.2.1),.sl (L a1.2.2)]] (.tup [.d (.ag [.b r.1.1,.sl (L r.1.2.1),.sl (L r.1.2.2)]),.d (.ag [.b r.2.1.1,.sl (L r.2.1.2.1),.sl (L r.2.1.2.2)]),.d (.i .i64 r.2.2)]):=by
 unfold Jp at h
 refine Fn.ofA (rs:=[.cell 4 33,.cell 5 33,.tmp 6]) (nt:=40) Tryz.func96 rfl rfl rfl (by simp) rfl ?_;refine .sr<|kK vbx<|kK vbx<|kK (van (Ai EE) Ev)<|kK (van (Ai EE) Ev)<|kR [2,3,4,5,6] zj<|.seq<|.sr<|kK (Au A1 AD)<|kK (Au A1 AD) ?_
 obtain ⟨x1,g1,h⟩:=bnd h
 refine kK (VOK.tupd (vs:=[.ag [.b x1.1.1,.sl (L x1.1.2.1),.sl (L x1.1.2.2)],.i .i64 x1.2]) (Al (MB g1) Tryz.call147))<|kA zj<|kK vex<|kK vex ?_
 refine stn ?_ AD (by decide)
 refine kR [2,3,4,5,6] zj<|.seq ?_
 obtain ⟨z2,hz,h⟩:=bnd h
 refine AW.mr (σ:=Unit) (fun _=>True) (fun _=>[(2,.d (.ptr [.b a0.1,.sl (L a0.2.1),.sl (L a0.2.2)])),(3,.d (.ptr [.b a1.1,.sl (L a1.2.1),.sl (L a1.2.2)])),(4,.nb [.b x1.1.1,.sl (L x1.1.2.1),.sl (L x1.1.2.2)]),(5,.nb [.b false,.sl (L []),.sl (L [])]),(6,.d (.i .i64 x1.2)),(19,.d (.b z2))]) (fun _=>[]) ?_ ?_
 ·skip
  refine .region<|kA zj<|kB zj ?_
  rcases brc hz with ⟨hc,hz⟩|⟨hc,hz⟩
  ·have hb0:(!(decide (x1.2=0)))=false:=(ntf (dT hc))
   refine kC zj hb0<|kK (Au A1 AD) ?_
   obtain ⟨x3,g3,hz⟩:=bnd hz
   refine kK (Al (Ip g3) Tryz.call90)<|kB zj<|kK As<|RL.gk [2,3,4,5,6,19]<|.nil ?_
   cases hz
   exact jr () trivial
  have hb0:(!(decide (x1.2=0)))=true:=(ntt (dF hc))
  refine kC zj hb0<|gf3 ?_;refine kK As<|RL.gk [2,3,4,5,6,19]<|.nil ?_
  cases hz
  exact jr () trivial
 rintro _ _
 rcases brc h with ⟨hc,h⟩|⟨hc,h⟩
 ·exact nomatch h
 refine cnf (bf hc) ?_;refine .sk ?_;refine .seq<|.sr<|kK (Au A1 AD)<|kK (CR A1 AD) ?_
 obtain ⟨x4,g4,h⟩:=bnd h
 refine kK (VOK.tupd (vs:=[.ag [.b x4.1.1,.sl (L x4.1.2.1),.sl (L x4.1.2.2)],.i .i64 x4.2]) (Al (Gk g4) Tryz.call148))<|kA zj<|kK vex<|kK vex ?_
 refine stn ?_ AD (by decide)
 refine kR [2,4,5,6] zj<|.sr<|kA zj<|kB zj<|rk [2,4,5,6,30] ?_
 obtain ⟨K0,hK0,h⟩:=AX h
 refine AW.mr (σ:=RT×Int) (fun p=>K0 p.1 p.2=some r) (fun p=>[(4,.nb [.b x1.1.1,.sl (L x1.1.2.1),.sl (L x1.1.2.2)]),(5,.nb [.b p.1.1,.sl (L p.1.2.1),.sl (L p.1.2.2)]),(6,.d (.i .i64 p.2))]) (fun p=>[]) ?_ ?_
 ·skip
  rcases brc h with ⟨hc,h⟩|⟨hc,h⟩
  ·refine cnt (dT hc) ?_
   refine .region<|kK (CR A1 AD)<|kK (Au A1 AD) ?_
   obtain ⟨x7,g7,h⟩:=bnd h
   refine kK (VOK.tupd (vs:=[.ag [.b x7.1.1,.sl (L x7.1.2.1),.sl (L x7.1.2.2)],.i .i64 x7.2]) (Al (Ml g7) Tryz.call149))<|kA zj<|kK vex<|kK vex ?_
   refine stn ?_ AD (by decide)
   refine kD zj<|RL.gk [4,5,6]<|.nil ?_
   exact jr (x7.1,x7.2) h
  refine cnf (dF hc) ?_;refine .gk [4,5,6]<|.skip ?_
  exact jr (x4.1,x4.2) h
 rintro ⟨z5,z6⟩ h
 try dsimp only at h ⊢
 subst hK0
 refine aw<|.seq<|.drawnI 3 A5 (by kernel_rfl) ?_;refine kV (CR A1 AD)<|kV (CR A1 AD)<|kV Ad<|dz ?_
 refine ⟨?_,?_⟩
 ·intro i o hi ho e hj hn
  have hi2:=(Array.getElem?_eq_some_iff.1 ho).1
  have hi3:i=3∨i=4∨i=5:=by change i<6 at hi2;omega
  rcases hi3 with rfl|rfl|rfl<;>cases ho
  ·exact Gb (cs:=[.b x1.1.1,.sl (L x1.1.2.1),.sl (L x1.1.2.2)]) (cs':=[.b x1.1.1,.sl (L x1.1.2.1),.sl (L x1.1.2.2)]) AD (by decide) rfl ((hn 4 (NY rfl)).trans rfl) ((congrArg AU (hj 0 37 _ (by kernel_rfl) rfl)).trans rfl) rfl rfl rfl rfl ⟨Ny ((hn 4 (NY rfl)).trans rfl),rfl⟩
  ·exact Gb (cs:=[.b z5.1,.sl (L z5.2.1),.sl (L z5.2.2)]) (cs':=[.b z5.1,.sl (L z5.2.1),.sl (L z5.2.2)]) AD (by decide) rfl ((hn 5 (NY rfl)).trans rfl) ((congrArg AU (hj 1 38 _ (by kernel_rfl) rfl)).trans rfl) rfl rfl rfl rfl ⟨Ny ((hn 5 (NY rfl)).trans rfl),rfl⟩
  ·exact Zu rfl ((hj 2 39 _ (by kernel_rfl) rfl).trans rfl) rfl ((congrArg Ak (hn 6 (NY rfl))).trans rfl) rfl ⟨Ny ((hn 6 (NY rfl)).trans rfl),rfl⟩
 refine rk [4,5,6]<|.ret ?_
 cases h
 exact ⟨_,_,_,⟨_,⟨.inr rfl,A1,AD,p3⟩,rfl⟩,⟨_,⟨.inr rfl,A1,AD,p3⟩,rfl⟩,rfl,rfl⟩
def DO (x1:(List RT)×(List RT)×Int) (x2:(List Int)) : Nat→Arr→Int→Int→Int→(List Itm)→Option (Arr×Int)
 | 0,_,_,_,_,_=>none
 | k+1,s7,s8,s9,s10,s11=>(if s9<((List.length x1.2.1:Nat):Int) then ((rd? x1.2.1 s9).bind fun x12=>((GY (((List.length x1.1:Nat):Int)≤1000000)).bind fun x13=>((Ts (fun (i25:Int) (x26:RT) (p:Int×(List Itm)×Bool×(List Nat)×(List Nat))=>((Jp x26 (p.2.2.1,p.2.2.2.1,p.2.2.2.2)).bind fun x27=>(if x27.2.2=0 then ((rd? p.2.1 (w64 ((w64 (i25 * ((List.length x1.2.1:Nat):Int)))+s9))).bind fun x28=>(some (x27.2.2,(List.set p.2.1 (Int.toNat (w64 ((w64 (i25 * ((List.length x1.2.1:Nat):Int)))+s9))) (Itm.mk 1 x27.1 0 [])),x27.2.1.1,x27.2.1.2.1,x27.2.1.2.2))) else none))) x1.1 (List.length x1.1) (s10,s11,x12.1,x12.2.1,x12.2.2)).bind fun z24=>(DO x1 x2 k s7 s8 (w64 (s9+1)) z24.1 z24.2.1)))) else ((A9 x2 s11).bind fun x29=>(some (x29.1,x29.2))))
def Iz (a0:Arr) (a1:Arr) : Option (Arr×Int):=(if 1<((List.length a0.shape:Nat) : Int) then (some ((Arr.mk [] []),4)) else ((KH a0 a1).bind fun x1=>(if x1.2.2=0 then ((Dq ([a0.shape,a1.shape])).bind fun x2=>((Df x2).bind fun x3=>(if x3.2=0 then ((GY (0≤(if x3.1<1 then 1 else x3.1)∧(if x3.1<1 then 1 else x3.1)≤1466015503701)).bind fun x4=>((C8 0).bind fun x5=>((rd? (List.replicate (Int.toNat (if x3.1<1 then 1 else x3.1)) (Itm.mk 0 (false,[],[]) 0 [])) 0).bind fun x6=>(DO x1 x2 AJ (Arr.mk [] []) 0 0 x3.2 (List.set (List.replicate (Int.toNat (if x3.1<1 then 1 else x3.1)) (Itm.mk 0 (false,[],[]) 0 [])) (Int.toNat 0) x5))))) else (some ((Arr.mk [] []),x3.2))))) else (some ((Arr.mk [] []),x1.2.2)))))
theorem Ns {a0:Arr} {a1:Arr} {r:Arr×Int} (h:Iz a0 a1=some r) :
  Fn Tryz.prog 44 [.ag [.sl (Is a0.shape),.sl (Its a0.items)],.ag [.sl (Is a1.shape),.sl (Its a1.items)]] (.tup [.d (.ag [.sl (Is r.1.shape),.sl (Its r.1.items)]),.d (.i .i64 r.2)]):=by
 unfold Iz at h
 refine Fn.ofMB (rs:=[.cell 4 25,.cell 5 26]) (nt:=92) Tryz.func44 rfl rfl rfl (by simp) rfl ?_;refine .seqA ?_;refine .region<|kK vbx<|kK vbx<|kK (van (Ai AR) A0)<|kK (van (Ai Qi) U6)<|rn<|.gh (Gh.keep [2,3,4,5] rfl)<|.seqA ?_;refine .seq<|.region<|kK (vfa AZ)<|kK (Am Co)<|kK (A8 (Az _) (CI _) Cu)<|kB zj<|rn<|.gh (Gh.keep [2,3,4,5,20] rfl) ?_
 by_cases hc:1<((List.length a0.shape:Nat):Int)
 ·replace h:=Je hc h
  refine cnt (dT hc) ?_;refine .seq<|.region<|kK (vbd Ds AR A0) ?_
  refine stn ?_ Ac (by decide)
  refine Yl ?_ Gr
  refine rn<|.gh (Gh.keep [2,3,4,5] rfl)<|.ret ?_
  cases h
  exact ⟨.inr rfl,_,_,⟨.inr rfl,Ag,Ac,(by decide:(0:Nat)<2)⟩,⟨.inr rfl,DD⟩,rfl⟩
 replace h:=Jn hc h
 refine cnf (dF hc) ?_;refine .skip ?_
 show AWM _ _ _ _ _ _
 refine .seqA ?_;refine .region<|kK (Au Ag Ac)<|kK (Au Ag Ac) ?_
 obtain ⟨x1,hx1,h⟩:=bnd h
 refine kK (VOK.tupd (vs:=[.sl (RVs x1.1),.sl (RVs x1.2.1),.i .i64 x1.2.2]) (Al (Pu hx1) Tryz.call93))<|kA zj<|kK vex<|kK vex<|kK vex ?_
 refine al ?_ (Ai YU) (fun w I μ=>XC w I μ)
 refine al ?_ (Ai Qi) (fun w I μ=>UL w I μ)
 refine asd ?_
 refine stb (cs:=[.nl]) (c:=.nl) rfl rfl ?_ Zn
 refine stb (cs:=[.d (.i .i64 0)]) (c:=.d (.i .i64 0)) rfl rfl ?_ Gr
 refine rn<|.gh (Gh.keep [2,3,4,5,6,7,8] rfl)<|.seqA ?_;refine .seq<|.region<|kK (HY (cs:=[.d (.i .i64 x1.2.2)]) (c:=.i .i64 x1.2.2) rfl rfl DD)<|kB zj<|rn<|.gh (Gh.keep [2,3,4,5,6,7,8,30] rfl) ?_
 by_cases hc:x1.2.2=0
 ·replace h:=Je hc h
  refine cnf (ntf (dT hc)) ?_;refine .skip ?_
  show AWM _ _ _ _ _ _
  refine .seqA ?_;refine .region<|kK (vfa AZ)<|kK (Am Co)<|kK (vfa AZ)<|kK (Am Co)<|kK ((GK (Vc [a0.shape,a1.shape]) ZJ).deep) ?_
  obtain ⟨x2,hx2,h⟩:=bnd h
  refine kK (Al (GL hx2) Tryz.call80)<|kD zj<|rn<|.gh (Gh.keep [4,5,6,7,8,9] rfl)<|.seqA ?_;refine .region<|kA zj ?_
  obtain ⟨x3,hx3,h⟩:=bnd h
  refine kK (VOK.tupd (vs:=[.i .i64 x3.1,.i .i64 x3.2]) (Al (D3 hx3) Tryz.call17))<|kA zj<|kK vex<|kK vex<|kD zj ?_
  refine stb (cs:=[.d (.i .i64 x1.2.2)]) (c:=.d (.i .i64 x1.2.2)) rfl rfl ?_ Gr
  refine rn<|.gh (Gh.keep [4,5,6,7,8,9,10] rfl)<|.seqA ?_;refine .seq<|.region<|kK (HY (cs:=[.d (.i .i64 x3.2)]) (c:=.i .i64 x3.2) rfl rfl DD)<|kB zj<|rn<|.gh (Gh.keep [4,5,6,7,8,9,10,45] rfl) ?_
  by_cases hc:x3.2=0
  ·replace h:=Je hc h
   refine cnf (ntf (dT hc)) ?_;refine .skip ?_
   show AWM _ _ _ _ _ _
   refine .seqA ?_;refine .region<|kA zj<|kK vmx ?_
   obtain ⟨x4,hx4,h⟩:=bnd h
   have ghx4:=H8 hx4
   refine Ab7 (F:=Its) (x0:=(Itm.mk 0 (false,[],[]) 0 [])) (zl:=(if x3.1<1 then 1 else x3.1)) (Int.toNat (if x3.1<1 then 1 else x3.1)) Rb (by omega) (by omega) ?_ Dc BQ
   refine al ?_ (Ai ZD) (fun w I μ=>Ys w I μ)
   refine Pz (cs:=[.nl]) (c:=.nl) rfl rfl ?_ JH
   refine rn<|.gh (Gh.keep [4,5,6,7,8,9,11] rfl)<|.seqA ?_;refine .drawn 3 A5 (by kernel_rfl) ?_;refine kV (QH (cs:=[.own 44 (Its (List.replicate (Int.toNat (if x3.1<1 then 1 else x3.1)) (Itm.mk 0 (false,[],[]) 0 [])))]) rfl rfl BG) ?_
   obtain ⟨x5,hx5,h⟩:=bnd h
   refine dv (Al (Gf hx5) Tryz.call94) ?_
   obtain ⟨x6,hx6,h⟩:=bnd h
   obtain ⟨nx6,hnx6,hxx6⟩:=Ar hx6
   refine kV (LV (off:=0) (len:=(Its (List.replicate (Int.toNat (if x3.1<1 then 1 else x3.1)) (Itm.mk 0 (false,[],[]) 0 []))).length) nx6 hnx6 (by rw [Af];exact (lS.1 hxx6).1) Bp (by decide))<|dz ?_
   refine X5 (F:=Its) (zs:=[.i .u8 x6.kind,.b x6.num.1,.sl (L x6.num.2.1),.sl (L x6.num.2.2),.i .i32 x6.char,.sl (Ars x6.box)]) (us:=(List.replicate (Int.toNat (if x3.1<1 then 1 else x3.1)) (Itm.mk 0 (false,[],[]) 0 []))) (n:=nx6) (m:=Int.toNat 0) (x:=x5) (JS (Itm.dv_eq x5).symm) (by rw [hnx6];rfl) (by rw [Nat.zero_add];exact BI hxx6) rfl ?_ An An (Nat.succ_pos _) (hn:=fun _ _ _=>Nat.zero_le _)
   refine RL.gh (Gh.keep [4,5,6,7,8,9,11,51,52] rfl)<|rn<|.gh (Gh.keep [4,5,6,7,8,9,11] rfl)<|.seq rfl<|.seqA ?_;refine .region<|kK (HY (cs:=[.d (.sl (RVs x1.2.1))]) (c:=.sl (RVs x1.2.1)) rfl rfl O8)<|kK (A8 (DB _) (Nb _) RX)<|kA zj<|rn<|.gh (Gh.keep [4,5,6,7,8,9,11,54,55,56] rfl)<|.block ?_
   refine .loop (.gh (Gh.keep [4,5,6,7,8,9,11,54,55,56] rfl) ?_)
   refine ALM.ind rfl (σ:=Nat×Arr×Int×Int×Int×(List Itm)) (m:=fun p=>p.1) (e:=fun p=>[(4,.nb [.sl (Is p.2.1.shape),.sl (Its p.2.1.items)]),(5,.nb [.i .i64 p.2.2.1]),(6,.d (.sl (RVs x1.1))),(7,.bp 0 0),(8,.bp 1 0),(9,.d (.sl (Is x2))),(11,.bp 2 0),(54,.d (.sl (RVs x1.2.1))),(55,.d (.i .i64 ((List.length x1.2.1:Nat):Int))),(56,.d (.i .i64 p.2.2.2.1))]) (h:=fun p=>[HO.box [.d (.sl (RVs x1.2.1))],HO.box [.d (.i .i64 p.2.2.2.2.1)],HO.box [.own 44 (Its p.2.2.2.2.2)]]) (I:=fun p=>DO x1 x2 p.1 p.2.1 p.2.2.1 p.2.2.2.1 p.2.2.2.2.1 p.2.2.2.2.2=some r) ?_ (AJ,(Arr.mk [] []),0,0,x3.2,(List.set (List.replicate (Int.toNat (if x3.1<1 then 1 else x3.1)) (Itm.mk 0 (false,[],[]) 0 [])) (Int.toNat 0) x5)) h
   rintro ⟨k,s7,s8,s9,s10,s11⟩ h ih
   dsimp only at h ih ⊢
   rcases k with _|k
   ·rw [DO] at h;cases h
   rw [DO] at h
   refine .seqA ?_;refine .region<|kB zj<|rn<|.gh (Gh.keep [4,5,6,7,8,9,11,54,55,56,57] rfl)<|.seqA ?_
   by_cases hc:s9<((List.length x1.2.1:Nat):Int)
   ·replace h:=Je hc h
    refine cnt (dT hc) ?_;refine .skip ?_
    show AWM _ _ _ _ _ _
    refine .seq rfl<|.block<|.seqA ?_;refine .region<|kA zj ?_
    obtain ⟨x12,hx12,h⟩:=bnd h
    obtain ⟨nx12,hnx12,hxx12⟩:=Ar hx12
    refine kK (vix nx12 hnx12 (PO hxx12) rfl W5)<|kK (Au A1 AD) ?_
    refine al ?_ (Ai Wo) (fun w I μ=>XR w I μ)
    refine vk (van (Ai EE) Ev) ?_
    refine stb (cs:=[.d (.i .i64 0)]) (c:=.d (.i .i64 0)) rfl rfl ?_ GO
    refine stn ?_ AD (by decide)
    refine RL.gh2 (Gh.nbb (t:=13) rfl) ?_;refine rn<|.gh (Gh.keep [4,5,6,7,8,9,11,12,13,54,55,56] rfl)<|.seqA ?_;refine .region<|kA zj<|kK (Al (ZN (RVs x1.1)) Tryz.call95)<|rn<|.gh (Gh.keep [4,5,6,7,8,9,11,12,13,54,55,56,62] rfl)<|.block ?_
    obtain ⟨x13,hx13,h⟩:=bnd h
    have ghx13:=H8 hx13
    obtain ⟨z24,hz24,h⟩:=bnd h
    obtain ⟨Tz24,hTz240,hTz24n,hTz24t⟩:=TI _ hz24
    refine AWM.rangeFuncG (ps:=[63,64]) (f:=146) (caps:=[.ptr [.sl (RVs x1.1)]]) (ys:=Qt x1.1) (m:=List.length x1.1) (e1:=.ret) rfl rfl rfl Tryz.call146 (ZT (by omega) (Nat.le_refl _)) (fun ds hd=>Vf _ ds hd) (fun p hp=>by simp only [List.mem_cons,List.not_mem_nil,or_false] at hp;rcases hp with rfl|rfl<;>rfl) rfl (fun k H=>H=[HO.box [.d (.sl (RVs x1.2.1))],HO.box [.d (.i .i64 (Tz24 k).1)],HO.box [.own 44 (Its (Tz24 k).2.1)],HO.box [.d (.i .i64 s9)],HO.box [.d (.b (Tz24 k).2.2.1),.d (.sl (L (Tz24 k).2.2.2.1)),.d (.sl (L (Tz24 k).2.2.2.2))]]) (by rw [hTz240];try rfl) (.inr rfl) (fun l k ds H hk hkm hH=>?_) (fun H hH=>?_)
    ·subst hH
     have hkl:k<List.length x1.1:=by rw [← Il];exact (lS.1 hk).1
     obtain ⟨x26,hx26,h⟩:=hTz24t k hkl
     rw [PI hkl hx26] at hk
     cases hk
     generalize ((List.length x1.1-1-k:Nat):Int)=i25 at h ⊢
     clear hx26
     generalize Tz24 k=s0 at h ⊢
     generalize Tz24 (k+1)=s1 at h ⊢
     obtain ⟨s14,s15,s16,s17,s18⟩:=s0
     dsimp only at h ⊢
     refine .seq<|.region<|kD zj<|rn<|.gh (Gh.keep [7,8,11,12,13,14,64] rfl)<|.region<|kK (van (Ai EE) Ev) ?_
     refine stn ?_ AD (by decide)
     refine rn<|.gh (Gh.keep [7,8,11,12,13,14,15] rfl)<|.block<|.seq<|.region<|kK (van (Ai EE) Ev)<|rn<|.gh (Gh.keep [7,8,11,12,13,14,15,16] rfl)<|.seq<|.seq<|.region<|kK (CR A1 AD)<|kK (Ko (cs:=[.d (.b s16),.d (.sl (L s17)),.d (.sl (L s18))]) (ds:=[.b s16,.sl (L s17),.sl (L s18)]) rfl A1 AD) ?_
     obtain ⟨x27,hx27,h⟩:=bnd h
     refine kK (VOK.tupd (vs:=[.ag [.b x27.1.1,.sl (L x27.1.2.1),.sl (L x27.1.2.2)],.ag [.b x27.2.1.1,.sl (L x27.2.1.2.1),.sl (L x27.2.1.2.2)],.i .i64 x27.2.2]) (Al (NQ hx27) Tryz.call96))<|kA zj<|kK vex<|kK vex<|kK vex ?_
     refine stn ?_ AD (by decide)
     refine Abk (bx:=[.d (.b s16),.d (.sl (L s17)),.d (.sl (L s18))]) (zs:=[.b s16,.sl (L s17),.sl (L s18)]) (ds:=[.b x27.2.1.1,.sl (L x27.2.1.2.1),.sl (L x27.2.1.2.2)]) rfl rfl rfl ?_ AD (Nat.succ_pos _)
     refine stb (cs:=[.d (.i .i64 s14)]) (c:=.d (.i .i64 s14)) rfl rfl ?_ Gr
     refine rn<|.gh (Gh.keep [7,8,11,12,14,16] rfl)<|.seq<|.region<|kK (HY (cs:=[.d (.i .i64 x27.2.2)]) (c:=.i .i64 x27.2.2) rfl rfl DD)<|kB zj<|rn<|.gh (Gh.keep [7,8,11,12,14,16,73] rfl) ?_
     by_cases hc:x27.2.2=0
     ·replace h:=Je hc h
      refine cnf (ntf (dT hc)) ?_;refine .sk ?_;refine .region ?_
      refine Py (cs:=[.own 44 (Its s15)]) rfl rfl ?_ BG
      refine kA zj<|kK (HY (cs:=[.d (.sl (RVs x1.2.1))]) (c:=.sl (RVs x1.2.1)) rfl rfl O8)<|kK (A8 (DB _) (Nb _) RX)<|kB zj<|kK (HY (cs:=[.d (.i .i64 s9)]) (c:=.i .i64 s9) rfl rfl Bd)<|kB zj<|kK (CR A1 AD)<|kK (vbd JB BL BQ) ?_
      obtain ⟨x28,hx28,h⟩:=bnd h
      obtain ⟨nx28,hnx28,hxx28⟩:=Ar hx28
      refine ixr (off:=0) (len:=(Its s15).length) nx28 hnx28 (by rw [Af];exact (lS.1 hxx28).1) ?_ Bp (by decide)
      refine X5 (F:=Its) (zs:=[.i .u8 x28.kind,.b x28.num.1,.sl (L x28.num.2.1),.sl (L x28.num.2.2),.i .i32 x28.char,.sl (Ars x28.box)]) (us:=s15) (n:=nx28) (m:=Int.toNat (w64 ((w64 (i25 * ((List.length x1.2.1:Nat):Int)))+s9))) (x:=(Itm.mk 1 x27.1 0 [])) (JS (Itm.dv_eq (Itm.mk 1 x27.1 0 [])).symm) (by rw [hnx28];rfl) (by rw [Nat.zero_add];exact BI hxx28) rfl ?_ An An (Nat.succ_pos _) (hn:=fun _ _ _=>Nat.zero_le _)
      refine RL.gh (Gh.keep [7,8,11,12,14,16,73,76,77,78,79,80,81,82,83,84] rfl)<|.nil ?_
      cases h
      exact ⟨by rw [if_pos hkl],rfl⟩
     replace h:=Jn hc h
     exact nomatch h
    have hmn:min (List.length x1.1+1) (Qt x1.1).length=List.length x1.1:=by rw [Il];omega
    rw [hmn,hTz24n] at hH
    subst hH
    rw [if_neg (by rw [Il];omega)]
    clear hz24 hTz240 hTz24n hTz24t
    obtain ⟨z19,z20,z21,z22,z23⟩:=z24
    dsimp only at h ⊢
    show AWM _ _ _ _ _ _
    refine .lift ?_;refine .region<|kB zj<|kA zj<|.nil ?_;refine ALM.gh (Gh.keep [4,5,6,7,8,9,11,54,55,56] rfl) ?_;refine ALM.gh2 (Gh2.cut (H0:=[HO.box [.d (.sl (RVs x1.2.1))],HO.box [.d (.i .i64 z19)],HO.box [.own 44 (Its z20)]]) [HO.box [.d (.i .i64 s9)],HO.box [.d (.b z21),.d (.sl (L z22)),.d (.sl (L z23))]] rfl rfl rfl rfl) ?_;refine ALM.gh (Gh.keep [4,5,6,7,8,9,11,54,55,56] rfl) ?_
    exact ih (k,s7,s8,(w64 (s9+1)),z19,z20) h (Nat.lt_succ_self _)
   replace h:=Jn hc h
   refine cnf (dF hc) ?_;refine .exit ?_
   show AWM _ _ _ _ _ _
   refine .lift ?_;refine .seq<|.region<|kA zj<|fz (p:=.c 2 0) ?_;refine kK (HY (cs:=[.d (.sl (Its s11))]) (c:=.sl (Its s11)) rfl rfl BG) ?_
   obtain ⟨x29,hx29,h⟩:=bnd h
   refine kK (VOK.tupd (vs:=[.ag [.sl (Is x29.1.shape),.sl (Its x29.1.items)],.i .i64 x29.2]) (Al (Fc hx29) Tryz.call5))<|kK vex<|kK vex ?_
   refine stn ?_ Ac (by decide)
   refine Yl ?_ Gr
   refine rn<|.gh (Gh.keep [4,5] rfl)<|.ret ?_
   cases h
   exact ⟨.inr rfl,_,_,⟨.inr rfl,Ag,Ac,(by decide:(0:Nat)<2)⟩,⟨.inr rfl,DD⟩,rfl⟩
  replace h:=Jn hc h
  refine cnt (ntt (dF hc)) ?_;refine .seq<|.drawnF 2 [1] [(4,.nb [.sl (Is []),.sl (Its [])])] [HO.box [.d (.sl (RVs x1.2.1))],HO.box [.d (.i .i64 x3.2)]] A5 (by kernel_rfl) rfl ?_;refine kV (vbd Ds AR A0)<|kV (HY (cs:=[.d (.i .i64 x3.2)]) (c:=.i .i64 x3.2) rfl rfl DD)<|dz ?_
  refine ⟨?_,?_,?_⟩
  ·intro k hk
   simp only [List.mem_cons,List.not_mem_nil,or_false] at hk
   subst hk
   exact ⟨_,_,_,rfl,rfl,rfl,rfl,rfl,rfl,(HY (cs:=[.d (.i .i64 x3.2)]) (c:=.i .i64 x3.2) rfl rfl DD)⟩
  ·intro om e hom hge
   cases hom
   exact Gb (cs:=[.sl (Is []),.sl (Its [])]) (cs':=[.sl (Is []),.sl (Its [])]) Ac (by decide) rfl ((hge 4 (fun k hk v hv=>by
     simp only [List.mem_cons,List.not_mem_nil,or_false] at hk
     subst hk;exact (by decide:¬(some 47=some 4)) (congrArg (Option.map Prod.fst) hv))).trans rfl) ((congrArg AU (hge 46 (fun k hk v hv=>by
     simp only [List.mem_cons,List.not_mem_nil,or_false] at hk
     subst hk;exact (by decide:¬(some 47=some 46)) (congrArg (Option.map Prod.fst) hv)))).trans rfl) rfl rfl rfl rfl ⟨rfl,rfl⟩
  refine Yl ?_ Gr
  refine rn<|.gh (Gh.keep [4,5,6,7,8,9,10] rfl)<|.ret ?_
  cases h
  exact ⟨.inr rfl,_,_,⟨.inr rfl,Ag,Ac,(by decide:(0:Nat)<2)⟩,⟨.inr rfl,DD⟩,rfl⟩
 replace h:=Jn hc h
 refine cnt (ntt (dF hc)) ?_;refine .seq<|.drawnF 2 [1] [(4,.nb [.sl (Is []),.sl (Its [])])] [HO.box [.d (.sl (RVs x1.2.1))],HO.box [.d (.i .i64 x1.2.2)]] A5 (by kernel_rfl) rfl ?_;refine kV (vbd Ds AR A0)<|kV (HY (cs:=[.d (.i .i64 x1.2.2)]) (c:=.i .i64 x1.2.2) rfl rfl DD)<|dz ?_
 refine ⟨?_,?_,?_⟩
 ·intro k hk
  simp only [List.mem_cons,List.not_mem_nil,or_false] at hk
  subst hk
  exact ⟨_,_,_,rfl,rfl,rfl,rfl,rfl,rfl,(HY (cs:=[.d (.i .i64 x1.2.2)]) (c:=.i .i64 x1.2.2) rfl rfl DD)⟩
 ·intro om e hom hge
  cases hom
  exact Gb (cs:=[.sl (Is []),.sl (Its [])]) (cs':=[.sl (Is []),.sl (Its [])]) Ac (by decide) rfl ((hge 4 (fun k hk v hv=>by
    simp only [List.mem_cons,List.not_mem_nil,or_false] at hk
    subst hk;exact (by decide:¬(some 32=some 4)) (congrArg (Option.map Prod.fst) hv))).trans rfl) ((congrArg AU (hge 31 (fun k hk v hv=>by
    simp only [List.mem_cons,List.not_mem_nil,or_false] at hk
    subst hk;exact (by decide:¬(some 32=some 31)) (congrArg (Option.map Prod.fst) hv)))).trans rfl) rfl rfl rfl rfl ⟨rfl,rfl⟩
 refine Yl ?_ Gr
 refine rn<|.gh (Gh.keep [2,3,4,5,6,7,8] rfl)<|.ret ?_
 cases h
 exact ⟨.inr rfl,_,_,⟨.inr rfl,Ag,Ac,(by decide:(0:Nat)<2)⟩,⟨.inr rfl,DD⟩,rfl⟩
def HA (a0:Bool) : Option (Int):=(if a0=true then (some (1)) else (some (0)))
theorem NF {a0:Bool} {r:Int} (h:HA a0=some r) :
  Fn Tryz.prog 46 [.b a0] (.d (.i .i64 r)):=by
 unfold HA at h
 refine Fn.o1 2 4 Tryz.func46 ?_;refine .sr<|kR [0,2] zj<|.seq<|.sr<|kA zj<|rk [2,3] ?_
 rcases brc h with ⟨hc,h⟩|⟨hc,h⟩
 ·refine cnt hc ?_
  refine .sr<|kR [2] zj<|.ret ?_
  cases h
  exact ⟨rfl,rfl⟩
 refine cnf (bf hc) ?_;refine .sk ?_;refine .sr<|kR [2] zj<|.ret ?_
 cases h
 exact ⟨rfl,rfl⟩
def Dg (a1:Dz) (x1:(List Itm)) (K0:(List Itm)→Option (Arr×Int)) : Nat→(List Itm)→Int→Option (Arr×Int)
 | 0,_,_=>none
 | k+1,s3,s4=>(if s4<((List.length x1:Nat):Int) then ((rd? x1 s4).bind fun x5=>((a1.g x5).bind fun x6=>((C8 x6).bind fun x7=>((ap? 1466015503701 s3 [x7]).bind fun x8=>(Dg a1 x1 K0 k x8 (w64 (s4+1))))))) else (K0 s3))
def Hg (a0:Arr) (a1:Dz) : Option (Arr×Int):=((Bx a0).bind fun x1=>(jn (fun (z2:(List Itm))=>(jn (fun (z9:(List Itm))=>((A9 a0.shape z9).bind fun x12=>(some (x12.1,x12.2)))) fun K2=>(if ((List.length z2:Nat) : Int)=0 then ((C8 0).bind fun x10=>((ap? 1466015503701 z2 [x10]).bind fun x11=>(K2 x11))) else (K2 z2)))) fun K0=>(Dg a1 x1 K0 AJ [] 0)))
theorem PP {a0:Arr} {a1:Dz} (oa1:RG a1) {r:Arr×Int} (h:Hg a0 a1=some r) :
  Fn Tryz.prog 48 [.ag [.sl (Is a0.shape),.sl (Its a0.items)],a1.dv] (.tup [.d (.ag [.sl (Is r.1.shape),.sl (Its r.1.items)]),.d (.i .i64 r.2)]):=by
 unfold Hg at h
 refine Fn.ofC (rs:=[.cell 4 25,.tmp 5]) (nt:=37) Tryz.func48 rfl rfl rfl (by simp) rfl ?_;refine .sr<|kK vbx<|kK (van (Ai AR) A0)<|kR [1,2,4,5] zj<|.sr<|asn ?_;refine rk [1,2,4,5,6]<|.seq<|.sr<|kK (Au Ag Ac) ?_
 obtain ⟨x1,g1,h⟩:=bnd h
 refine kK (Al (Io g1) Tryz.call31)<|kK (A8 (Af _) (BD _) Bh)<|kA zj<|rk [1,2,4,5,6,10,11,12] ?_
 obtain ⟨K0,hK0,h⟩:=AX h
 refine AW.mr (σ:=(List Itm)) (fun p=>K0 p=some r) (fun p=>[(2,.d (.ptr [.sl (Is a0.shape),.sl (Its a0.items)])),(4,.nb [.sl (Is []),.sl (Its [])]),(5,.d (.i .i64 0)),(6,.own 44 (Its p))]) (fun p=>[]) ?_ ?_
 ·skip
  refine .block<|.gh (Gh.nlOwn (t:=6) 44 (by rw [K7];decide) rfl) ?_
  refine .loop (.gk [1,2,4,5,6,10,11,12] ?_)
  refine AL.ind (σ:=Nat×(List Itm)×Int) (m:=fun p=>p.1) (e:=fun p=>[(1,.d (a1.dv)),(2,.d (.ptr [.sl (Is a0.shape),.sl (Its a0.items)])),(4,.nb [.sl (Is []),.sl (Its [])]),(5,.d (.i .i64 0)),(6,.own 44 (Its p.2.1)),(10,.d (.sl (Its x1))),(11,.d (.i .i64 ((List.length x1:Nat):Int))),(12,.d (.i .i64 p.2.2))]) (h:=fun p=>[]) (I:=fun p=>Dg a1 x1 K0 p.1 p.2.1 p.2.2=some r) ?_ (AJ,[],0) h
  rintro ⟨k,s3,s4⟩ h ih
  dsimp only at h ih ⊢
  rcases k with _|k
  ·rw [Dg] at h;cases h
  rw [Dg] at h
  refine .sr<|kB zj<|rk [1,2,4,5,6,10,11,12,13]<|.seq ?_
  rcases brc h with ⟨hc,h⟩|⟨hc,h⟩
  ·refine cnt (dT hc) ?_
   refine .sk ?_;refine .seq<|.block<|.sr ?_
   obtain ⟨x5,g5,h⟩:=bnd h
   obtain ⟨n5,p05,q5⟩:=Ar g5
   refine kK (vix n5 p05 (BI q5) rfl Bp)<|kK (Au AF An)<|kK (van (Ai BL) BQ) ?_
   refine stn ?_ An (by decide)
   refine rk [1,2,4,5,6,8,10,11,12]<|.region<|mvo ?_;refine kA zj<|kK (CR AF An) ?_
   obtain ⟨x6,g6,h⟩:=bnd h
   refine vk (LF (oa1 _ _ g6)) ?_
   obtain ⟨x7,g7,h⟩:=bnd h
   refine kK (Al (Gf g7) Tryz.call94)<|kK ((FG (Fa x7) (D7 [x7]) Dc).deep) ?_
   obtain ⟨x8,g8,h⟩:=bnd h
   refine Wq IV g8 KW ?_ Hx Af Dc
   refine aso ?_;refine .nil ?_;refine aw<|.gk [1,2,4,5,6,10,11,12]<|.region<|kB zj<|kA zj<|.nil ?_;refine AL.gk [1,2,4,5,6,10,11,12] ?_
   exact ih (k,x8,(w64 (s4+1))) h (Nat.lt_succ_self _)
  refine cnf (dF hc) ?_;refine .gk [2,4,5,6]<|.exit ?_
  exact jr (s3) h
 rintro z2 h
 try dsimp only at h ⊢
 subst hK0
 refine aw<|.seq<|.sr<|mvo ?_;refine kK (Ll (Af _) Bh)<|kB zj<|rk [2,4,5,6,26] ?_
 obtain ⟨K2,hK2,h⟩:=AX h
 refine AW.mr (σ:=(List Itm)) (fun p=>K2 p=some r) (fun p=>[(2,.d (.ptr [.sl (Is a0.shape),.sl (Its a0.items)])),(4,.nb [.sl (Is []),.sl (Its [])]),(5,.d (.i .i64 0)),(6,.own 44 (Its p))]) (fun p=>[]) ?_ ?_
 ·skip
  rcases brc h with ⟨hc,h⟩|⟨hc,h⟩
  ·refine cnt (dT hc) ?_
   refine .region<|mvo ?_
   obtain ⟨x10,g10,h⟩:=bnd h
   refine kK (Al (Gf g10) Tryz.call94)<|kK ((FG (Fa x10) (D7 [x10]) Dc).deep) ?_
   obtain ⟨x11,g11,h⟩:=bnd h
   refine Wq IV g11 KW ?_ Hx Af Dc
   refine aso ?_;refine RL.gk [2,4,5,6]<|.nil ?_
   exact jr (x11) h
  refine cnf (dF hc) ?_;refine .gk [2,4,5,6]<|.skip ?_
  exact jr (z2) h
 rintro z9 h
 try dsimp only at h ⊢
 subst hK2
 refine aw<|.sr<|kK (vfa AZ)<|kK (Am Co)<|fz (p:=.t 6) ?_;refine kA zj ?_
 obtain ⟨x12,g12,h⟩:=bnd h
 refine kK (VOK.tupd (vs:=[.ag [.sl (Is x12.1.shape),.sl (Its x12.1.items)],.i .i64 x12.2]) (Al (Fc g12) Tryz.call5))<|kK vex<|kK vex ?_
 refine stn ?_ Ac (by decide)
 refine kR [4,5] zj<|.ret ?_
 cases h
 exact ⟨_,_,⟨.inr rfl,Ag,Ac,p2⟩,rfl,rfl⟩
section
variable {P:Program} {C:Cx} {o:Oper} {env:Env} {H:Ab}
theorem Aa3 {f:FuncId} {fst cap:Array Operand} {fs ds:List DV} (ho:o.op=.makeFunc (.func f) fst cap:=by rfl) (hf:argsD env fst.toList=some fs:=by rfl) (ha:argsD env cap.toList=some ds:=by rfl) : VOK P C o env H (.d (.fn f fs ds)) :=
 .pv ⟨by simp [ho],fun X a w I μ O _ hs=>⟨.func (.func f) (fst.map a.eval) (cap.map a.eval),by simp [execOp,ho,Instr.makeFunc],.d (by
  have:=Rep.fn f fs ds (fst.toList.map a.eval) (cap.toList.map a.eval) (hs.argsD hf) (hs.argsD ha)
  have e:(cap.toList.map a.eval).toArray=cap.map a.eval:=by apply Array.ext';simp
  have e2:(fst.toList.map a.eval).toArray=fst.map a.eval:=by apply Array.ext';simp
  rw [e,e2] at this
  exact this)⟩⟩
end
def Kn (m:SM) (l:List Itm) : Option (List Itm):=if l.length≤1000000000000 then (HW (fun x (u:Unit)=>(Hz m x).map fun b=>(b,u)) l ()).map (·.1) else none
theorem Oi {m:SM} {l r:List Itm} (h:Kn m l=some r) (H:Ab) :
  FnO Tryz.prog 86 [.own 44 (Its l),.d (.fn 50 [m.mp] [])] H (fun v H'=>v=.own 44 (Its r)∧H'=H) []:=by
 unfold Kn at h
 obtain ⟨hl,h⟩:=Dw h
 simp only [Option.map_eq_some_iff] at h
 obtain ⟨z,hz,rfl⟩:=h
 exact Nz (st:=fun _ H'=>H'=H) (fun x s r hx=>by
  simp only [Option.map_eq_some_iff] at hx
  obtain ⟨b,hb,rfl⟩:=hx
  exact ⟨⟨_,_,_,rfl,Tryz.call50,WA hb⟩,fun _ h=>h⟩) hl hz rfl
def G7 (a0:Int) (a1 a2:Arr) : Option (Arr×Int) :=
 if 1<((List.length a1.shape:Nat):Int) then none else if a0=8746 then none else
 (Bx a1).bind fun x1=>(Bx a2).bind fun x2=>(E1 SM.nil x2).bind fun x3=>(Kn x3.2 x1).bind fun x4=>(C5 a1).bind fun x5=>(C6 x4 x5).bind fun x6=>some (x6.1,x6.2)
set_option maxHeartbeats 4000000 in
theorem PX {a0:Int} {a1 a2:Arr} {r:Arr×Int} (h:G7 a0 a1 a2=some r) :
  Fn Tryz.prog 52 [.i .i32 a0,.ag [.sl (Is a1.shape),.sl (Its a1.items)],.ag [.sl (Is a2.shape),.sl (Its a2.items)]] (.tup [.d (.ag [.sl (Is r.1.shape),.sl (Its r.1.items)]),.d (.i .i64 r.2)]):=by
 unfold G7 at h
 by_cases h1:1<((List.length a1.shape:Nat):Int)
 ·rw [if_pos h1] at h;cases h
 rw [if_neg h1] at h
 by_cases h2:a0=8746
 ·rw [if_pos h2] at h;cases h
 rw [if_neg h2] at h
 obtain ⟨x1,hx1,h⟩:=bnd h
 obtain ⟨x2,hx2,h⟩:=bnd h
 obtain ⟨x3,hx3,h⟩:=bnd h
 obtain ⟨x4,hx4,h⟩:=bnd h
 obtain ⟨x5,hx5,h⟩:=bnd h
 obtain ⟨x6,hx6,h⟩:=bnd h
 refine Fn.ofC (rs:=[.cell 6 25,.tmp 7]) (nt:=67) Tryz.func52 rfl rfl rfl (by simp) rfl ?_;refine .seq<|.region<|kK (vbx)<|kK (vbx)<|kK (van (Ai AR) A0)<|kD zj<|rn<|.gh (Gh.keep [0,4,5,6,7] rfl)<|.seq<|.seq<|.region<|kK (vfa AZ)<|kK (Am Co)<|kK (A8 (Az _) (CI _) Cu)<|kK (vbi)<|kK (VOK.lit (Ad) (dF h1))<|kK (Ad)<|kK (vbi)<|kK (VOK.lit (Ad) (dF h2))<|gf4 ?_;refine kK (As)<|kK (As)<|rn<|cnf rfl ?_;refine .skip<|aw<|.gh (Gh.keep [0,4,5,6,7] rfl)<|.seq<|.drawn 7 A5 (by kernel_rfl) ?_;refine kV (Au Ag Ac)<|kV (Al (Ed hx1) Tryz.call31)<|kV (Au Ag Ac)<|kV (Al (Ed hx2) Tryz.call31)<|kV (Xl)<|kV Z0<|kV Z0<|dz ?_;refine RL.gh2 (Gh2.omr (t:=32) rfl) ?_;refine kK (Aca (av:=.mr 0))<|rn<|.gh (Gh.swap (s:=29) (t:=8) rfl rfl rfl)<|.gh (Gh.swap (s:=31) (t:=9) rfl rfl rfl)<|.gh (Gh.keep [0,4,6,7,8,9,10] rfl)<|.seq<|.seq<|.region<|kK (Ad)<|kK (vbi)<|rn<|cnf (dF h2) ?_;refine .skip<|aw<|.gh (Gh.keep [4,6,7,8,9,10] rfl)<|.seq<|.region<|kK (NB (av:=.mr 0))<|mvo ?_
 refine YN (s:=56) (t0:=9) [.tmp 55] [] (as1:=[.mr 0]) (as2:=[]) (L7 (id:=0) (m:=SM.nil) rfl hx3) Tryz.call39 (fun v H' hp=>?_) (.inl rfl)
 obtain ⟨rfl,G,rfl⟩:=hp
 refine rn<|.gh (Gh.keep [4,6,7,8,10] rfl)<|.gh2 (Gh2.cutM (H0:=[x3.2.mo]) G rfl rfl rfl rfl) ?_;refine .gh2 (Gh2.popMo (H0:=[]) rfl (by simp [smK,smV]) rfl rfl) ?_;refine .gh (Gh.keep [4,6,7,8,10] rfl)<|.seq<|.drawnU 3 9 62 (.d (.ag [.sl (Is a1.shape),.sl (Its a1.items)])) [(4,.d (.ptr [.sl (Is a1.shape),.sl (Its a1.items)])),(6,.nb [.sl (Is []),.sl (Its [])]),(61,.d (.sl (Its x4)))] A5 (by kernel_rfl) rfl rfl rfl rfl rfl rfl ?_ ?_ fun Hn=>?_
 ·intro oq ho
  cases ho
  exact ⟨rfl,rfl,Au (cs:=[.sl (Is a1.shape),.sl (Its a1.items)]) Ag Ac⟩
 ·refine dv Iv ?_
  refine kV Ad<|kV (Aa3)<|dz ?_
  refine ⟨rfl,fun op hop=>?_⟩
  cases hop
  refine ⟨?_,?_⟩
  ·refine OpOK.callOM (s:=58) (t0:=8) (x1:=[]) (x2:=[.tmp 60]) (as1:=[]) (as2:=[.d (.fn 50 [x3.2.mp] [])]) rfl rfl rfl (.inl rfl) rfl rfl rfl rfl rfl Tryz.call86 (Oi hx4 _) (fun t ht=>by cases ht;rfl) (fun v H' hp=>?_)
   obtain ⟨rfl,rfl⟩:=hp
   exact (Gh.frz (p:=.t 61) (e:=44) (xs:=Its x4) rfl (fun _ _ h=>by cases h)).trans (Gh.keep [4,6,61] rfl)
  ·refine OpOK.callOM (s:=58) (t0:=8) (x1:=[]) (x2:=[.tmp 60]) (as1:=[]) (as2:=[.d (.fn 50 [x3.2.mp] [])]) rfl rfl rfl (.inl rfl) rfl rfl rfl rfl rfl Tryz.call86 (Oi hx4 _) (fun t ht=>by cases ht;rfl) (fun v H' hp=>?_)
   obtain ⟨rfl,rfl⟩:=hp
   exact (Gh.frz (p:=.t 61) (e:=44) (xs:=Its x4) rfl (fun _ _ h=>by cases h)).trans (Gh.keep [62,4,6,61] rfl)
 refine kV (Au Ag Ac)<|kV (Al (Im hx5) Tryz.call34)<|kV (VOK.tupd (vs:=[.ag [.sl (Is x6.1.shape),.sl (Its x6.1.items)],.i .i64 x6.2]) (Al (H6 hx6) Tryz.call35))<|kV (vex)<|kV (vex)<|dz ?_
 refine ⟨rfl,?_⟩
 refine stn ?_ Ac (by decide)
 refine kD zj<|rn<|.ret ?_
 cases h
 exact ⟨_,_,⟨.inr rfl,Ag,Ac,(by decide:(0:Nat)<2)⟩,rfl,rfl⟩
abbrev kk (x:Itm) : ByteArray:=Cs (kyI x)
theorem SM.get_set (m:SM) (k:ByteArray) (v:Int) (k':ByteArray) : (m.set k v).get k'=if k=k' then some v else m.get k':=KB _ _ _ _
theorem SM.get_nil (k:ByteArray) : SM.nil.get k=none:=rfl
def frL : List Itm→SM→List Itm×SM
 | [],m=>([],m)
 | x::l,m=>if (m.get (kk x)).isSome=true then frL l m else (x::(frL l (m.set (kk x) (m.len:Int))).1,(frL l (m.set (kk x) (m.len:Int))).2)
theorem KM : ∀ {l:List Itm},(∀ x∈l,okI x∧BN x)→∀ m,HW GA l m=some (frL l m)
 | [],_,m=>rfl
 | x::l,h,m=>by
  have hx:=h x (by simp)
  have hl:∀ y∈l,okI y∧BN y:=fun y hy=>h y (by simp [hy])
  rw [HW]
  unfold GA IR
  rw [Wn hx.1 hx.2,oB,Option.map_some,oB]
  by_cases hc:(m.get (kk x)).isSome=true
  ·rw [if_pos hc]
   dsimp only
   have e:=KM hl m
   unfold GA IR at e
   rw [e,oB,frL,if_pos hc]
   simp
  ·rw [if_neg hc]
   dsimp only
   have e:=KM hl (m.set (kk x) (m.len:Int))
   unfold GA IR at e
   rw [e,oB,frL,if_neg hc]
   simp
theorem MX {l:List Itm} (h:∀ x∈l,okI x∧BN x) (hl:l.length≤4096) (m:SM) : E1 m l=some (frL l m):=by
 unfold E1
 rw [if_pos (by omega),KM h]
theorem PH : ∀ (l:List Itm) (m:SM),(frL l m).1.Sublist l
 | [],m=>.slnil
 | x::l,m=>by
  rw [frL]
  split
  ·exact (PH l m).cons _
  ·exact (PH l _).cons_cons _
theorem KO : ∀ (l:List Itm) (m:SM) (k:ByteArray),((frL l m).2.get k).isSome=true↔(m.get k).isSome=true∨∃ x∈l,kk x=k
 | [],m,k=>by simp [frL]
 | x::l,m,k=>by
  rw [frL]
  split
  ·rename_i hc
   rw [KO l m k]
   constructor
   ·rintro (h|⟨y,hy,rfl⟩)
    ·exact .inl h
    ·exact .inr ⟨y,by simp [hy],rfl⟩
   ·rintro (h|⟨y,hy,rfl⟩)
    ·exact .inl h
    ·rcases List.mem_cons.1 hy with rfl|hy
     ·exact .inl hc
     ·exact .inr ⟨y,hy,rfl⟩
  ·dsimp only
   rw [KO l _ k,SM.get_set]
   by_cases hk:kk x=k
   ·rw [if_pos hk]
    simp [hk]
   ·rw [if_neg hk]
    constructor
    ·rintro (h|⟨y,hy,rfl⟩)
     ·exact .inl h
     ·exact .inr ⟨y,by simp [hy],rfl⟩
    ·rintro (h|⟨y,hy,rfl⟩)
     ·exact .inl h
     ·rcases List.mem_cons.1 hy with rfl|hy
      ·exact absurd rfl hk
      ·exact .inr ⟨y,hy,rfl⟩
theorem PC : ∀ (l:List Itm) (m:SM),((frL l m).1.map kk).Nodup∧∀ x∈(frL l m).1,m.get (kk x)=none
 | [],m=>⟨nN,fun x hx=>by cases hx⟩
 | x::l,m=>by
  rw [frL]
  split
  ·exact PC l m
  ·rename_i hc
   dsimp only
   obtain ⟨h1,h2⟩:=PC l (m.set (kk x) (m.len:Int))
   have h3:∀ y∈(frL l (m.set (kk x) (m.len:Int))).1,kk x≠kk y∧m.get (kk y)=none:=fun y hy=>by
    have:=h2 y hy
    rw [SM.get_set] at this
    split at this
    ·cases this
    ·rename_i h;exact ⟨h,this⟩
   refine ⟨?_,fun y hy=>?_⟩
   ·rw [List.map_cons,List.nodup_cons]
    refine ⟨fun hm=>?_,h1⟩
    obtain ⟨y,hy,e⟩:=List.mem_map.1 hm
    exact (h3 y hy).1 e.symm
   ·rcases List.mem_cons.1 hy with rfl|hy
    ·simpa using hc
    ·exact (h3 y hy).2
theorem Pe : ∀ (l:List Itm) (m:SM),∀ x∈l,(m.get (kk x)).isSome=true∨∃ y∈(frL l m).1,kk y=kk x
 | [],m,x,hx=>by cases hx
 | z::l,m,x,hx=>by
  rw [frL]
  split
  ·rename_i hc
   rcases List.mem_cons.1 hx with rfl|hx
   ·exact .inl hc
   ·exact Pe l m x hx
  ·dsimp only
   rcases List.mem_cons.1 hx with rfl|hx
   ·exact .inr ⟨x,by simp,rfl⟩
   ·rcases Pe l (m.set (kk z) (m.len:Int)) x hx with h|⟨y,hy,e⟩
    ·rw [SM.get_set] at h
     by_cases hk:kk z=kk x
     ·exact .inr ⟨z,by simp,hk⟩
     ·rw [if_neg hk] at h;exact .inl h
    ·exact .inr ⟨y,by simp [hy],e⟩
theorem VU : ∀ {l:List Itm} {m:SM},(l.map kk).Nodup→(∀ x∈l,m.get (kk x)=none)→(frL l m).1=l
 | [],m,_,_=>rfl
 | x::l,m,hn,h=>by
  rw [List.map_cons,List.nodup_cons] at hn
  rw [frL,if_neg (by rw [h x (by simp)];simp)]
  dsimp only
  rw [VU hn.2 fun y hy=>by
   rw [SM.get_set,if_neg fun e=>hn.1 (by rw [e];exact List.mem_map_of_mem hy)]
   exact h y (by simp [hy])]
theorem VD {m:SM} {x:Itm} (ox:okI x) (rx:BN x) : Hz m x=some (m.get (kk x)).isSome:=by
 unfold Hz
 rw [Wn ox rx];rfl
theorem Tt {m:SM} : ∀ {l:List Itm},(∀ x∈l,(okI x∧BN x)∧(m.get (kk x)).isSome=true)→HW (fun x (u:Unit)=>(Hz m x).map fun b=>(b,u)) l ()=some ([],())
 | [],_=>rfl
 | x::l,h=>by
  have hx:=h x (by simp)
  rw [HW,VD hx.1.1 hx.1.2,hx.2,Option.map_some,oB,Tt fun y hy=>h y (by simp [hy])]
  rfl
theorem G5 {l:List Itm} (v:VR l) : Bx (vec l)=some l:=by
 rw [RN v.ok,v.sz,if_neg]
 ·rfl
 ·rintro (h|h)
  ·have:=v.pos
   have h':((l.length:Nat):Int)=0:=h
   omega
  ·exact h v.2.2.2
theorem TX {l:List Int} (h:∀ z∈l,Hw z) (h0:l≠[]) (hl:l.length≤4096) : A9 [(l.length:Int)] (l.map Da)=some (ZP l,0):=by
 have e:∀ l:List Int,dIs (l.map Da)=0∧cIs (l.map Da)=0:=fun l=>by
  induction l with
  | nil=>exact ⟨rfl,rfl⟩
  | cons z l ih=>exact ⟨by rw [List.map_cons,dIs,ih.1];rfl,by rw [List.map_cons,cIs,ih.2];rfl⟩
 have v:VR (l.map Da):=VR.of (by simpa using h0) (by simpa using hl) (fun x hx=>⟨Aaq h x hx,(Aae h x hx).1⟩) (by rw [(e l).1];omega) (by rw [(e l).2,List.length_map];omega)
 have:=v.make
 rw [List.length_map] at this
 rw [this,QN h0 hl]
theorem UT {z:Int} (h:Hw z) : C8 z=some (Da z):=by
 unfold C8
 rw [PA h.1 (by have:=h.2;omega)];rfl
theorem Oy {w:Dz} {l:List Itm} {f:Itm→Int} (hf:∀ x∈l,w.g x=some (f x)∧Hw (f x)) (hl:l.length≤4096) (K:List Itm→Option (Arr×Int)) : ∀ (n i k:Nat),n=l.length-i→i≤l.length→n<k →
  Dg w l K k ((l.take i).map fun x=>Da (f x)) (i:Int)=K (l.map fun x=>Da (f x))
 | n,i,0,_,_,h=>by omega
 | n,i,k+1,hn,hi,hk=>by
  rw [Dg]
  by_cases hlt:i<l.length
  ·have hx:=hf _ (List.getElem_mem hlt)
   rw [if_pos (by omega),CC hlt,oB,hx.1,oB,UT hx.2,oB,Ly (by simp;omega),oB,CU (by omega)]
   have e:((l.take i).map fun x=>Da (f x))++[Da (f l[i])]=(l.take (i+1)).map fun x=>Da (f x):=by
    rw [List.take_add_one,lG hlt,List.map_append];rfl
   rw [e]
   exact Oy hf hl K (n-1) (i+1) k (by omega) (by omega) (by omega)
  ·rw [if_neg (by omega),List.take_of_length_le (by omega)]
theorem XO {w:Dz} {l:List Itm} {f:Itm→Int} (v:VR l) (hf:∀ x∈l,w.g x=some (f x)∧Hw (f x)) : Hg (vec l) w=some (vec ((l.map f).map Da),0):=by
 have h2:=v.2.1
 have hp:=v.pos
 unfold Hg
 rw [G5 v,oB,C9]
 have e:=Oy hf h2 (fun (z2:(List Itm))=>(jn (fun (z9:(List Itm))=>((A9 (vec l).shape z9).bind fun x12=>(some (x12.1,x12.2)))) fun K2=>(if ((List.length z2:Nat):Int)=0 then ((C8 0).bind fun x10=>((ap? 1466015503701 z2 [x10]).bind fun x11=>(K2 x11))) else (K2 z2)))) l.length 0 AJ rfl (Nat.zero_le _) (CL (by omega))
 rw [List.take_zero,List.map_nil] at e
 refine e.trans ?_
 rw [C9,if_neg (by rw [List.length_map];omega)]
 have hne:l.map f≠[]:=fun h=>by simp at h;exact v.1 h
 have hm:=TX (l:=l.map f) (fun z hz=>by obtain ⟨x,hx,rfl⟩:=List.mem_map.1 hz;exact (hf x hx).2) hne (by simpa using h2)
 rw [List.length_map] at hm
 rw [QN hne (by simpa using h2)] at hm
 rw [show (l.map fun x=>Da (f x))=(l.map f).map Da by simp,show (vec l).shape=[(l.length:Int)] from rfl]
 dsimp only
 rw [hm]
 rfl
end Go.FL
namespace Go.FL
open Go Go.RowKit
def Ab4 (l:Nat) (J:Env→Ab→Prop) (Q:Exit→Env→Ab→Prop) : Exit→Env→Ab→Prop
 | .goto l',env,H=>l'=l∧J env H
 | e,env,H=>Q e env H
theorem AW.scopeJ {P:Program} {C:Cx} {c rest:Code} {Q:Exit→Env→Ab→Prop} {env:Env} {H:Ab} (l:Nat) (J:Env→Ab→Prop) (hf:findLabel c l=some rest) (first:AW P C c (Ab4 l J Q) env H) (after:∀ env' H',J env' H'→AW P C rest (noG Q) env' H') : AW P C (.scope c) Q env H:=by
 intro X a w I μ O h1 h2 h3 hs b k cs hro hb hr
 have h0:(lone (b.atR a (.code (.scope c)::k)) cs w).fenced P (om C.ro):=fenced_calm hb hr rfl
 have hg:gotoIn l (.inScope c::k)=some (.code rest::.inScope c::k):=by simp [gotoIn,hf]
 have leave:∀ {e:Exit} {env':Env} {H':Ab} {a₁:Act} {w₁:World} {I':Nat→Prop} {μ':List Nat} {O':Nat→Option Loc} {m:Machine},(∀ l',e≠.goto l')→Sim P X env' H' a₁ w₁ I' μ' O'→Q e env' H'→ArrivesIn (Machine.fenced P (om C.ro)) P m b (.inScope c::k) cs e a₁ w₁ →
   ∃ e a' w',Post P X Q e a' w'∧ArrivesIn (Machine.fenced P (om C.ro)) P m b k cs e a' w':=by
  intro e env' H' a₁ w₁ I' μ' O' m hne s q harr
  cases e with
  | normal=>exact ⟨.normal,a₁,w₁,⟨env',H',I',μ',O',s,q⟩,StepsIn.trans harr (.one (fenced_calm hb hr rfl) N8)⟩
  | exit id =>
   have hx:exitTo id (.inScope c::k)=exitTo id k:=by simp [exitTo]
   exact ⟨.exit id,a₁,w₁,⟨env',H',I',μ',O',s,q⟩,fun k' hk=>harr.1 k' (by rw [hx];exact hk),
    fun hr' hk=>let ⟨k₁,h1,h2⟩:=harr.2 hr' (by rw [hx];exact hk);⟨k₁,h1,h2⟩⟩
  | goto l'=>exact absurd rfl (hne l')
  | ret=>exact ⟨_,a₁,w₁,⟨env',H',I',μ',O',s,q⟩,harr⟩
  | panic ch=>exact ⟨_,a₁,w₁,⟨env',H',I',μ',O',s,q⟩,harr⟩
  | outgrown=>exact ⟨_,a₁,w₁,⟨env',H',I',μ',O',s,q⟩,harr⟩
 obtain ⟨e,a₁,w₁,hq,harr⟩:=first X a w I μ O h1 h2 h3 hs b (.inScope c::k) cs hro hb hr
 obtain ⟨env',H',I',μ',O',s,q⟩:=hq
 by_cases hgo:∃ l',e=.goto l'
 ·obtain ⟨l',rfl⟩:=hgo
  obtain ⟨rfl,hJ⟩:=q
  obtain ⟨e₂,a₂,w₂,hq₂,harr₂⟩:=after env' H' hJ X a₁ w₁ I' μ' O' h1 h2 h3 s b (.inScope c::k) cs hro hb hr
  obtain ⟨env₂,H₂,I₂,μ₂,O₂,s₂,q₂⟩:=hq₂
  have hne:∀ l',e₂≠.goto l':=fun l' e=>by subst e;exact q₂
  have q₃:Q e₂ env₂ H₂:=by cases e₂<;>first|exact q₂|exact absurd rfl (hne _)
  obtain ⟨e₃,a₃,w₃,p₃,r₃⟩:=leave hne s₂ q₃ harr₂
  exact ⟨e₃,a₃,w₃,p₃,.of_steps (.head h0 Ft (harr.1 _ hg)) r₃⟩
 ·have hne:∀ l',e≠.goto l':=fun l' h=>hgo ⟨l',h⟩
  have q₃:Q e env' H':=by cases e<;>first|exact q|exact absurd rfl (hne _)
  obtain ⟨e₃,a₃,w₃,p₃,r₃⟩:=leave hne s q₃ harr
  exact ⟨e₃,a₃,w₃,p₃,.of_steps (.one h0 Ft) r₃⟩
theorem AW.goto {P:Program} {C:Cx} {Q:Exit→Env→Ab→Prop} {env:Env} {H:Ab} {l:Nat} (h:Q (.goto l) env H) : AW P C (.goto l) Q env H:=fun _ _ _ I μ O _ _ _ hs=>wpIn_goto ⟨env,H,I,μ,O,hs,h⟩
end Go.FL
namespace Go.FL
open Go Go.Proofs Go.RowKit
theorem Ug (s:ByteArray) (i:Nat) : Bi (s.extract i s.size)=(Bi s).drop i:=by
 have:(s.extract i s.size).data.toList=s.data.toList.drop i:=by
  rw [ByteArray.data_extract,Array.toList_extract,List.extract_eq_take_drop]
  refine List.take_of_length_le ?_
  rw [List.length_drop]
  exact Nat.le_refl _
 unfold Bi
 rw [this,List.map_drop]
theorem PS {l:List UInt8} {k x:Nat} (hx:x<256) : l[k]?=some (x:Int).toNat.toUInt8↔(l.map UInt8.toNat)[k]?=some x:=by
 rw [List.getElem?_map]
 have e:(x:Int).toNat.toUInt8.toNat=x:=by
  rw [Int.toNat_natCast]
  simp;omega
 constructor
 ·intro h;rw [h,Option.map_some,e]
 ·intro h
  cases hl:l[k]? with
  | none=>rw [hl] at h;cases h
  | some b =>
   rw [hl,Option.map_some,Option.some.injEq] at h
   congr 1
   apply UInt8.toNat.inj
   rw [h,e]
theorem VQ (s:ByteArray) (i:Nat) {x:Nat} (hx:x<256) :
  (HX (s.extract (i+1) s.size) x=-1∧∀ q,i<q→(Bi s)[q]?≠some x) ∨
  ∃ k:Nat,HX (s.extract (i+1) s.size) x=(k:Int)∧(Bi s)[i+1+k]?=some x∧∀ q,i<q→q<i+1+k→(Bi s)[q]?≠some x:=by
 have hb:=Ug s (i+1)
 have hg:∀ k,(Bi s)[i+1+k]?=(Bi (s.extract (i+1) s.size))[k]?:=fun k=>by rw [hb,List.getElem?_drop]
 by_cases h:HX (s.extract (i+1) s.size) x=-1
 ·refine .inl ⟨h,fun q hq e=>?_⟩
  have:=Lib.indexByte_none h (q-(i+1))
  refine this ((PS hx).2 ?_)
  have:=hg (q-(i+1))
  rw [show i+1+(q-(i+1))=q by omega,e] at this
  exact this.symm
 ·have hge:=Lib.indexByte_ge (s.extract (i+1) s.size).data.toList (x:Int).toNat.toUInt8
  have hge':-1≤HX (s.extract (i+1) s.size) x:=hge
  obtain ⟨k,hk⟩:∃ k:Nat,HX (s.extract (i+1) s.size) x=(k:Int):=⟨(HX (s.extract (i+1) s.size) x).toNat,by omega⟩
  obtain ⟨h1,h2⟩:=Lib.indexByte_some hk
  refine .inr ⟨k,hk,?_,fun q hq hq2 e=>?_⟩
  ·rw [hg];exact (PS hx).1 h1
  ·have:=h2 (q-(i+1)) (by omega)
   refine this ((PS hx).2 ?_)
   have:=hg (q-(i+1))
   rw [show i+1+(q-(i+1))=q by omega,e] at this
   exact this.symm
def mtc (bs es:List Nat) (p:Nat) : Bool:=(List.range es.length).all fun j=>bs[p-j]? == es[es.length-1-j]?
def frl (bs es:List Nat) (i:Nat) : Option Nat:=((List.range bs.length).drop i).find? (mtc bs es)
theorem L4 {bs es:List Nat} {i:Nat} (h:bs.length≤i) : frl bs es i=none:=by
 unfold frl
 rw [List.drop_of_length_le (by simpa using h)];rfl
theorem XQ {bs es:List Nat} {i:Nat} (h:i<bs.length) (hm:mtc bs es i=true) : frl bs es i=some i:=by
 unfold frl
 rw [lC (by simpa using h),List.getElem_range,List.find?_cons,hm]
theorem V9 {bs es:List Nat} {i:Nat} (h:i<bs.length) (hm:mtc bs es i=false) : frl bs es i=frl bs es (i+1):=by
 unfold frl
 rw [lC (by simpa using h),List.getElem_range,List.find?_cons,hm]
theorem M7 {bs es:List Nat} : ∀ (d i:Nat),(∀ q,i≤q→q<i+d→mtc bs es q=false)→frl bs es i=frl bs es (i+d)
 | 0,_,_=>rfl
 | d+1,i,h=>by
  by_cases hi:i<bs.length
  ·rw [V9 hi (h i (Nat.le_refl _) (by omega)),M7 d (i+1) fun q h1 h2=>h q (by omega) (by omega)]
   congr 1;omega
  ·rw [L4 (by omega),L4 (by omega)]
theorem MK {bs es:List Nat} {p x:Nat} (h0:es≠[]) (hx:es[es.length-1]?=some x) (h:bs[p]?≠some x) : mtc bs es p=false:=by
 have hp:=List.length_pos_iff.2 h0
 unfold mtc
 rw [List.all_eq_false]
 refine ⟨0,List.mem_range.2 hp,?_⟩
 rw [Nat.sub_zero,Nat.sub_zero,hx]
 simpa using h
end Go.FL
namespace Go.FL
open Go Go.Proofs
def B6 (a0:Int) : Option (Int):=(some ((w64 (Int.tdiv (w64 (a0+16)) 8))))
theorem FI {a0:Int} {r:Int} (h:B6 a0=some r) :
  Fn Tryz.prog 169 [.i .i64 a0] (.d (.i .i64 r)):=by
 unfold B6 at h
 refine Fn.o1 2 6 Tryz.func169 ?_;refine .sr<|kR [0,2] zj<|.sr<|kA zj<|kB zj<|kK (Um (c:=(8:Int)≠0) (by decide))<|kR [2] zj<|.ret ?_
 cases h
 exact ⟨rfl,rfl⟩
def LG (bs:List Nat) (x i:Nat) : Nat:=((bs.take i).filter fun y=>y == x).length
theorem Ua {bs:List Nat} {x i j:Nat} (h:i≤j) : LG bs x i≤LG bs x j:=by
 unfold LG
 have:(bs.take i).Sublist (bs.take j):=by
  have e:bs.take i=(bs.take j).take i:=by rw [List.take_take,Nat.min_eq_left h]
  rw [e];exact List.take_sublist _ _
 exact (this.filter _).length_le
theorem N6 {bs:List Nat} {x i:Nat} (h:bs[i]?=some x) : LG bs x (i+1)=LG bs x i+1:=by
 obtain ⟨hi,hx⟩:=lS.1 h
 unfold LG
 rw [List.take_succ_eq_append_getElem hi,List.filter_append,List.length_append,hx]
 simp
theorem TC {bs es:List Nat} {p:Nat} : mtc bs es p=true↔∀ j,j<es.length→bs[p-j]?=es[es.length-1-j]?:=by
 unfold mtc
 rw [List.all_eq_true]
 constructor
 ·intro h j hj
  have:=h j (List.mem_range.2 hj)
  simpa using this
 ·intro h j hj
  have:=h j (List.mem_range.1 hj)
  simpa using this
def atR (bs es:List Nat) : Int:=match frl bs es (es.length-1) with
 | some p=>(p:Int)-((es.length-1:Nat):Int)
 | none=>-1
set_option maxHeartbeats 1000000 in
theorem Qp (s:ByteArray) (r:Int) {es:List Nat} {x:Nat} (h0:128≤r) (hne:r≠65533) (hvr:CZ r=some true) (he:Bi (Utf8.encode r)=es) (n2:2≤es.length) (n4:es.length≤4) (hx:es[es.length-1]?=some x) (hx8:x<256) (hs:s.size≤1000)
  (hcut:∀ i,i≤s.size→LG (Bi s) x i≤(i+16) / 8):Fn Tryz.prog 123 [.s s,.i .i32 r] (.d (.i .i64 (atR (Bi s) es))):=by
 have hes:(Utf8.encode r).size=es.length:=by rw [← GG,he]
 have hbl:(Bi s).length=s.size:=GG s
 obtain ⟨L,hL⟩:∃ L,es.length=L+1:=⟨es.length-1,by omega⟩
 have hL1:es.length-1=L:=by omega
 have hsub:DV.i .i64 (IntKind.i64.wrap (((Utf8.encode r).size:Int)-1))=.i .i64 (L:Int):=by rw [hes,show IntKind.i64.wrap ((es.length:Int)-1)=(es.length:Int)-1 from GN (by omega) (by omega),hL];congr 1;omega
 rw [hL1] at hx
 have hne0:es≠[]:=fun q=>by rw [q] at n2;simp at n2
 have hx':es[es.length-1]?=some x:=by rw [hL1];exact hx
 refine Fn.of (rs:=[.tmp 4]) (nt:=187) Tryz.func123 rfl rfl rfl (by simp) rfl ?_;refine .seq<|.region<|kD zj<|rn<|.gh (Gh.keep [0,1,4] rfl)<|.block<|.seq<|.region<|kK (Ad)<|kK (vbi) ?_
 have hb0:(decide (0≤r))=true:=dT (by omega)
 refine kK (VOK.lit (Ad) hb0)<|kK (Ad)<|kK (vbi)<|kK (As)<|kD zj<|rn<|.gh (Gh.keep [0,1,4,160] rfl)<|cnf (show decide (r<128)=false from dF (by omega)) ?_;refine .seq<|.region<|kK (Ad)<|kK (vbi)<|kD zj<|rn<|.gh (Gh.keep [0,1,4,171] rfl)<|cnf (show decide (r=65533)=false from dF hne) ?_;refine .seq<|.region<|kK (Ad)<|kK (Al (Gw hvr) Tryz.call168)<|kK (vnt)<|kD zj<|rn<|.gh (Gh.keep [0,1,4,183] rfl)<|BC ?_;refine .scope ?_;refine .seq<|.region<|kK (Ad)<|kK (Abf (by kernel_rfl) stS)<|kD zj<|rn<|.gh (Gh.keep [0,1,4,7] rfl)<|.seq<|.region<|kK (Ad)<|kK (Zk stS)<|kK (WC (.i .i64 (L:Int)) ⟨trivial,hsub⟩)<|kD zj<|rn<|.gh (Gh.keep [0,1,4,7,8] rfl)<|.seq<|.region<|kK (Ad)<|kD zj<|rn<|.gh (Gh.keep [0,1,4,7,8,9] rfl)<|.seq<|.region<|kD zj<|rn<|.gh (Gh.keep [0,1,4,7,8,9,10] rfl)<|.seq<|.block<|.loop ?_
 refine AL.ind (σ:=Nat×Nat) (m:=fun p=>s.size+5-p.1) (e:=fun p=>[(0,.d (.s s)),(1,.d (.i .i32 r)),(4,.d (.i .i64 0)),(7,.d (.s (Utf8.encode r))),(8,.d (.i .i64 (L:Int))),(9,.d (.i .i64 (p.1:Int))),(10,.d (.i .i64 (p.2:Int)))]) (h:=fun _=>[]) (I:=fun p=>L≤p.1∧p.1≤s.size+L∧frl (Bi s) es p.1=frl (Bi s) es L∧p.2≤LG (Bi s) x p.1) ?_ (L,0) ⟨Nat.le_refl _,Nat.le_add_left _ _,rfl,Nat.zero_le _⟩
 rintro ⟨i,fl⟩ ⟨i1,i2,i3,i4⟩ ih
 dsimp only at i1 i2 i3 i4 ih ⊢
 refine .seq<|.seq<|.region<|kK (Ad)<|kK (Ad)<|kK (Zk stS)<|kK (vbi)<|rn<|.gh (Gh.keep [0,1,4,7,8,9,10,26] rfl) ?_
 by_cases hlt:i<s.size
 rotate_left
 ·refine cnf (show decide ((i:Int)<((s.size:Nat):Int))=false from dF (by omega)) ?_
  refine .exit ?_;refine aw<|.seq<|.seq<|.region<|kD zj<|rn<|.gh (Gh.keep [4] rfl)<|.ret ?_
  have e:atR (Bi s) es=-1:=by unfold atR;rw [hL1,← i3,L4 (by rw [hbl];omega)]
  rw [e]
  exact ⟨rfl,rfl⟩
 refine cnt (show decide ((i:Int)<((s.size:Nat):Int))=true from dT (by omega)) ?_;refine .skip<|aw<|.block<|.scopeJ 0 (fun env H=>∃ (q j:Nat),L≤q∧q<s.size∧i≤q∧(Bi s)[q]?=some x∧frl (Bi s) es q=frl (Bi s) es L∧fl≤LG (Bi s) x q∧mtc (Bi s) es q=false∧H=[]∧env=[(0,.d (.s s)),(1,.d (.i .i32 r)),(4,.d (.i .i64 0)),(7,.d (.s (Utf8.encode r))),(8,.d (.i .i64 (L:Int))),(9,.d (.i .i64 (q:Int))),(10,.d (.i .i64 (fl:Int))),(12,.d (.i .i64 (j:Int)))]) rfl ?_ ?_
 ·obtain ⟨y,hy⟩:∃ y,(Bi s)[i]?=some y:=⟨_,lG (by rw [hbl];exact hlt)⟩
  refine .seq<|.seq<|.drawn 7 A5 (by kernel_rfl) ?_;refine kV (Ad)<|kV (Ad)<|kV (VW i y rfl hy stS)<|kV (Ad)<|kV (Ad)<|kV (VW L x rfl (by rw [he];exact hx) stS)<|kV (vbi)<|dz ?_;refine rn<|.gh (Gh.keep [0,1,4,7,8,9,10,33] rfl)<|AW.mr (σ:=Nat) (fun q=>L≤q∧q<s.size∧i≤q∧(Bi s)[q]?=some x∧frl (Bi s) es q=frl (Bi s) es L∧fl≤LG (Bi s) x q) (fun q=>[(0,.d (.s s)),(1,.d (.i .i32 r)),(4,.d (.i .i64 0)),(7,.d (.s (Utf8.encode r))),(8,.d (.i .i64 (L:Int))),(9,.d (.i .i64 (q:Int))),(10,.d (.i .i64 (fl:Int)))]) (fun _=>[]) ?_ ?_
  ·skip
   by_cases hyx:y=x
   ·refine cnf (ntf (dT (show (y:Int)=x by omega))) ?_
    refine .gh (Gh.keep [0,1,4,7,8,9,10] rfl)<|.skip ?_
    exact jr i ⟨i1,hlt,Nat.le_refl _,by rw [hy,hyx],i3,i4⟩
   have hno:mtc (Bi s) es i=false:=MK hne0 hx' (by rw [hy];exact fun q=>hyx (oI q))
   have hI:=OM (s.extract (i+1) s.size) x
   refine cnt (ntt (dF (show ¬(y:Int)=x by omega))) ?_;refine .seq<|.drawn 8 A5 (by kernel_rfl) ?_;refine kV (Ad)<|kV (Ad)<|kV (vad (m:=(i:Int)) (n:=1) ((i+1:Nat):Int) ⟨by omega,by omega,by omega⟩)<|kV (Abn (s:=s) (i+1) ⟨rfl,by omega⟩ stS)<|kV (Ad)<|kV (Ad)<|kV (VW L x rfl (by rw [he];exact hx) stS)<|kV (Al hI Tryz.call167)<|dz ?_;refine kD zj<|rn<|.gh (Gh.keep [0,1,4,7,8,9,10,11] rfl)<|.seq<|.seq<|.region<|kK (Ad)<|kK (vbi)<|rn<|.gh (Gh.keep [0,1,4,7,8,9,10,11,43] rfl) ?_
   rcases VQ s i hx8 with ⟨k1,k2⟩|⟨k,k1,k2,k3⟩
   ·refine cnt (show decide (HX (s.extract (i+1) s.size) x<0)=true from dT (by rw [k1];decide)) ?_
    refine .seq<|.region<|kD zj<|rn<|.gh (Gh.keep [4] rfl)<|.ret ?_
    have e:atR (Bi s) es=-1:=by
     unfold atR
     rw [hL1,← i3,M7 (s.size-i) i (fun q q1 q2=>by
      by_cases hq:q=i
      ·subst hq;exact hno
      ·exact MK hne0 hx' (k2 q (by omega))),L4 (by rw [hbl];omega)]
    rw [e]
    exact ⟨rfl,rfl⟩
   refine cnf (show decide (HX (s.extract (i+1) s.size) x<0)=false from dF (by rw [k1];omega)) ?_;refine .skip<|aw ?_
   have hkl:i+1+k<s.size:=by
    have:=(lS.1 k2).1
    rw [hbl] at this;exact this
   refine .region<|kK (Ad)<|kK (Ad)<|kK (vad (m:=HX (s.extract (i+1) s.size) x) (n:=1) ((k+1:Nat):Int) ⟨by rw [k1];omega,by omega,by omega⟩)<|kK (vad (m:=(i:Int)) (n:=((k+1:Nat):Int)) ((i+1+k:Nat):Int) ⟨by omega,by omega,by omega⟩)<|kD zj<|RL.gh (Gh.keep [0,1,4,7,8,9,10] rfl)<|.nil ?_
   refine jr (i+1+k) ⟨by omega,hkl,by omega,k2,?_,nT i4 (Ua (by omega))⟩
   rw [← i3,M7 (k+1) i (fun q q1 q2=>by
    by_cases hq:q=i
    ·subst hq;exact hno
    ·exact MK hne0 hx' (k3 q (by omega) (by omega)))]
   congr 1;omega
  rintro q ⟨q1,q2,q3,q4,q5,q6⟩
  refine .seq<|.seq<|.region<|kD zj<|rn<|.gh (Gh.keep [0,1,4,7,8,9,10,12] rfl)<|.block<|.loop ?_
  refine AL.ind (σ:=Nat) (m:=fun j=>L+1-j) (e:=fun j=>[(0,.d (.s s)),(1,.d (.i .i32 r)),(4,.d (.i .i64 0)),(7,.d (.s (Utf8.encode r))),(8,.d (.i .i64 (L:Int))),(9,.d (.i .i64 (q:Int))),(10,.d (.i .i64 (fl:Int))),(12,.d (.i .i64 (j:Int)))]) (h:=fun _=>[]) (I:=fun j=>1≤j∧j≤L+1∧∀ t,t<j→(Bi s)[q-t]?=es[es.length-1-t]?) ?_ 1 ⟨by omega,by omega,fun t ht=>by
   have:t=0:=by omega
   subst this
   rw [Nat.sub_zero,Nat.sub_zero,q4,hx']⟩
  rintro j ⟨j1,j2,j3⟩ ih2
  refine .seq<|.seq<|.region<|kK (Ad)<|kK (Ad)<|kK (Zk stS)<|kK (vbi)<|rn<|.gh (Gh.keep [0,1,4,7,8,9,10,12,51] rfl) ?_
  by_cases hj:j<L+1
  ·refine cnt (show decide ((j:Int)<(((Utf8.encode r).size:Nat):Int))=true from dT (by rw [hes];omega)) ?_
   refine .skip<|aw ?_
   obtain ⟨a,hA⟩:∃ a,(Bi s)[q-j]?=some a:=⟨_,lG (by rw [hbl];omega)⟩
   obtain ⟨b,hB⟩:∃ b,es[L-j]?=some b:=⟨_,lG (by omega)⟩
   refine .seq<|.block<|.seq<|.drawn 11 A5 (by kernel_rfl) ?_;refine kV (Ad)<|kV (Ad)<|kV (Ad)<|kV (vsu (m:=(q:Int)) (n:=(j:Int)) (((q-j:Nat)):Int) ⟨by omega,by omega,by omega⟩)<|kV (VW (q-j) a rfl hA stS)<|kV (Ad)<|kV (Ad)<|kV (Ad)<|kV (vsu (m:=(L:Int)) (n:=(j:Int)) (((L-j:Nat)):Int) ⟨by omega,by omega,by omega⟩)<|kV (VW (L-j) b rfl (by rw [he];exact hB) stS)<|kV (vbi)<|dz ?_;refine rn<|.gh (Gh.keep [0,1,4,7,8,9,10,12,64] rfl) ?_
   by_cases hab:a=b
   ·refine cnf (ntf (dT (show (a:Int)=b by omega))) ?_
    refine .skip<|aw<|.region<|kK (Ad)<|kK (vad (m:=(j:Int)) (n:=1) ((j+1:Nat):Int) ⟨by omega,by omega,by omega⟩)<|kD zj<|.nil ?_;refine AL.gh (Gh.keep [0,1,4,7,8,9,10,12] rfl) ?_
    refine ih2 (j+1) ⟨by omega,by omega,fun t ht=>?_⟩ (by omega)
    by_cases htj:t=j
    ·subst htj;rw [hA,hL1,hB,hab]
    ·exact j3 t (by omega)
   ·refine cnt (ntt (dF (show ¬(a:Int)=b by omega))) ?_
    refine .gh (Gh.keep [0,1,4,7,8,9,10,12] rfl)<|.goto ?_
    refine ⟨rfl,q,j,q1,q2,q3,q4,q5,q6,?_,rfl,rfl⟩
    cases hm:mtc (Bi s) es q with
    | false=>rfl
    | true =>
     have:=TC.1 hm j (by omega)
     rw [hA,hL1,hB] at this
     exact absurd (oI this) hab
  refine cnf (show decide ((j:Int)<(((Utf8.encode r).size:Nat):Int))=false from dF (by rw [hes];omega)) ?_;refine .exit ?_;refine aw<|.seq<|.seq<|.region<|kK (Ad)<|kK (Ad)<|kK (vsu (m:=(q:Int)) (n:=(L:Int)) ((q:Int)-(L:Int)) ⟨by omega,by omega,by omega⟩)<|kD zj<|rn<|.gh (Gh.keep [4] rfl)<|.ret ?_
  have hm:mtc (Bi s) es q=true:=TC.2 fun t ht=>j3 t (by omega)
  have e:atR (Bi s) es=(q:Int)-(L:Int):=by unfold atR;rw [hL1,← q5,XQ (by rw [hbl];exact q2) hm]
  rw [e]
  exact ⟨rfl,rfl⟩
 ·rintro env' H' ⟨q,j,q1,q2,q3,q4,q5,q6,q7,rfl,rfl⟩
  have hC:=hcut (q+1) (by omega)
  rw [N6 q4] at hC
  have hcu:B6 ((q+1:Nat):Int)=some (((q+1+16) / 8:Nat):Int):=by
   unfold B6
   have e1:w64 (((q+1:Nat):Int)+16)=((q+1+16:Nat):Int):=by rw [show w64 (((q+1:Nat):Int)+16)=((q+1:Nat):Int)+16 from GN (by omega) (by omega)];omega
   rw [e1,show Int.tdiv ((q+1+16:Nat):Int) 8=(((q+1+16) / 8:Nat):Int) from rfl,show w64 (((q+1+16) / 8:Nat):Int)=(((q+1+16) / 8:Nat):Int) from GN (by omega) (by omega)]
  refine .seq<|.skip<|aw<|.seq<|.region<|kK (Ad)<|kK (vad (m:=(fl:Int)) (n:=1) ((fl+1:Nat):Int) ⟨by omega,by omega,by omega⟩)<|kD zj<|rn<|.gh (Gh.keep [0,1,4,7,8,9,10] rfl)<|.seq<|.region<|kK (Ad)<|kK (vad (m:=(q:Int)) (n:=1) ((q+1:Nat):Int) ⟨by omega,by omega,by omega⟩)<|kD zj<|rn<|.gh (Gh.keep [0,1,4,7,8,9,10] rfl)<|.seq<|.region<|kK (Ad)<|kK (Ad)<|kK (Ad)<|kK (Al (FI hcu) Tryz.call169)<|kK (vbi)<|kK (As) ?_
  have hgt:decide ((((q+1+16) / 8:Nat):Int)<((fl+1:Nat):Int))=false:=dF (by omega)
  refine kK (VOK.lit (Ad) hgt)<|gf4 ?_;refine kK (As)<|kK (Ad)<|kK (Ad)<|gf4 ?_;refine kG<|kK (As)<|kK (Ad)<|gf4 ?_;refine kK (As)<|kK (As)<|rn<|.gh (Gh.keep [0,1,4,7,8,9,10,98] rfl)<|BC ?_;refine .skip<|AL.gh (Gh.keep [0,1,4,7,8,9,10] rfl) ?_
  refine ih (q+1,fl+1) ⟨by omega,by omega,?_,?_⟩ (by dsimp only;omega)
  ·dsimp only
   rw [← q5,V9 (by rw [hbl];exact q2) q7]
  ·dsimp only
   rw [N6 q4];omega
def Yw (s:ByteArray) (b:Int) : Option Int:=some (HX s b)
theorem Vh {s:ByteArray} {b z:Int} (h:Yw s b=some z) : Fn Tryz.prog 167 [.s s,.i .u8 b] (.d (.i .i64 z)):=by
 cases h;exact OM s b
def GW (a0:ByteArray) (K0:Int→Option (Int)) : Nat→Int→Nat→Option (Int)
 | 0,_,_=>none
 | k+1,s3,s4=>(if s4<ByteArray.size a0 then (if (Abl a0 s4)=65533 then (some (((s4:Nat):Int))) else (GW a0 K0 k s3 (YI a0 s4))) else (K0 s3))
def RV (a0:ByteArray) (a1:Int) : Option (Int):=(if ((decide (0≤a1))&&(decide (a1<128)))=true then ((Yw a0 (IntKind.wrap .u8 a1)).bind fun x1=>(some (x1))) else (if a1=65533 then (jn (fun (z2:Int)=>(some ((-1)))) fun K0=>(GW a0 K0 AJ 0 0)) else ((CZ a1).bind fun x5=>(if x5=true then none else (some ((-1)))))))
theorem Ub {a0:ByteArray} {a1:Int} {r:Int} (h:RV a0 a1=some r) :
  Fn Tryz.prog 123 [.s a0,.i .i32 a1] (.d (.i .i64 r)):=by
 unfold RV at h
 refine Fn.o1 4 187 Tryz.func123 ?_;refine .sr<|kR [0,1,4] zj<|.block<|.seq<|AW.mr (σ:=Unit) (fun _=>True) (fun _=>[(0,.d (.s a0)),(1,.d (.i .i32 a1)),(4,.d (.i .i64 0)),(160,.d (.b ((decide (0≤a1))&&(decide (a1<128)))))]) (fun _=>[]) ?_ ?_
 ·skip
  refine .region<|kA zj<|kB zj ?_
  by_cases hc:0≤a1
  ·have hb0:(decide (0≤a1))=true:=(dT hc)
   refine kC zj hb0<|kA zj<|kB zj<|kK As<|kD zj<|RL.gk [0,1,4,160]<|.nil ?_
   exact jr () trivial (by simp only [hb0];rfl)
  have hb0:(decide (0≤a1))=false:=(dF hc)
  refine kC zj hb0<|gf2 ?_;refine kK As<|kD zj<|RL.gk [0,1,4,160]<|.nil ?_
  exact jr () trivial (by simp only [hb0];rfl)
 rintro _ _
 rcases brc h with ⟨hc,h⟩|⟨hc,h⟩
 ·refine cnt hc ?_
  refine .sr<|kA zj<|kA zj<|kK (vcv QK WM) ?_
  obtain ⟨x1,g1,h⟩:=bnd h
  refine kK (Al (Vh g1) Tryz.call167)<|kR [4] zj<|.ret ?_
  cases h
  exact ⟨rfl,rfl⟩
 refine cnf (bf hc) ?_;refine .sr<|kA zj<|kB zj<|kR [0,1,4,171] zj ?_
 rcases brc h with ⟨hc,h⟩|⟨hc,h⟩
 ·refine cnt (dT hc) ?_
  refine .seq<|.sr<|kA zj<|kK (Ab0 st)<|rk [4,175] ?_
  obtain ⟨K0,hK0,h⟩:=AX h
  refine AW.mr (σ:=Int) (fun p=>K0 p=some r) (fun p=>[(4,.d (.i .i64 p))]) (fun p=>[]) ?_ ?_
  ·skip
   refine .block ?_
   refine .loop (.gk [4,175] ?_)
   refine AL.ind (σ:=Nat×Int×Nat) (m:=fun p=>p.1) (e:=fun p=>[(4,.d (.i .i64 p.2.1)),(175,.it a0 p.2.2)]) (h:=fun p=>[]) (I:=fun p=>GW a0 K0 p.1 p.2.1 p.2.2=some r) ?_ (AJ,0,0) h
   rintro ⟨k,s3,s4⟩ h ih
   dsimp only at h ih ⊢
   rcases k with _|k
   ·rw [GW] at h;cases h
   rw [GW] at h
   refine .sr ?_
   rcases brc h with ⟨hc,h⟩|⟨hc,h⟩
   ·refine nxt ?_ hc
    refine kK vex<|rk [4,175,176,177]<|.seq<|BJ ?_;refine .sk ?_;refine .block<|.sr<|kK vex<|kK vex<|kD zj<|kR [4,5,6,175] zj<|.sr<|kA zj<|kB zj<|rk [4,5,175,181] ?_
    rcases brc h with ⟨hc,h⟩|⟨hc,h⟩
    ·refine cnt (dT hc) ?_
     refine .sr<|kA zj<|kR [4,175] zj<|.ret ?_
     cases h
     exact ⟨rfl,rfl⟩
    refine cnf (dF hc) ?_;refine .gk [4,175]<|.skip ?_
    exact ih (k,s3,(YI a0 s4)) h (Nat.lt_succ_self _)
   refine nxe ?_ hc
   refine kK vex<|rk [4,175,176,177]<|.seq<|BC ?_;refine .gk [4]<|.exit ?_
   exact jr (s3) h
  rintro z2 h
  try dsimp only at h ⊢
  subst hK0
  refine aw<|.sr<|kR [4] zj<|.ret ?_
  cases h
  exact ⟨rfl,rfl⟩
 refine cnf (dF hc) ?_;refine .sr<|kA zj ?_
 obtain ⟨x5,g5,h⟩:=bnd h
 refine kK (Al (Gw g5) Tryz.call168)<|kK vnt<|kR [0,1,4,183] zj ?_
 rcases brc h with ⟨hc,h⟩|⟨hc,h⟩
 ·exact nomatch h
 refine cnt (ntt (bf hc)) ?_;refine .sr<|kR [4] zj<|.ret ?_
 cases h
 exact ⟨rfl,rfl⟩
theorem Vp {r:Int} (h:128≤r) (hv:Utf8.valid r=true) : 2≤(Bi (Utf8.encode r)).length∧(Bi (Utf8.encode r)).length≤4∧∃ t,t<64∧(Bi (Utf8.encode r))[(Bi (Utf8.encode r)).length-1]?=some (128+t):=by
 have hm:∀ c:Nat,(UInt8.ofNat (128+c % 64)).toNat=128+c % 64:=fun c=>by rw [UInt8.toNat_ofNat',Nat.mod_eq_of_lt (by omega)]
 unfold Utf8.encode
 rw [if_pos hv]
 simp only
 generalize hc:r.toNat=c
 have h8:128≤c:=by omega
 rw [if_neg (show ¬c<128 by omega)]
 split
 ·refine ⟨by simp [Bi],by simp [Bi],c % 64,Nat.mod_lt _ (by decide),?_⟩
  show some (UInt8.ofNat (128+c % 64)).toNat=_
  rw [hm]
 ·split
  ·refine ⟨by simp [Bi],by simp [Bi],c % 64,Nat.mod_lt _ (by decide),?_⟩
   show some (UInt8.ofNat (128+c % 64)).toNat=_
   rw [hm]
  ·refine ⟨by simp [Bi],by simp [Bi],c % 64,Nat.mod_lt _ (by decide),?_⟩
   show some (UInt8.ofNat (128+c % 64)).toNat=_
   rw [hm]
def TH (bs:List Nat) : Bool:=(List.range 64).all fun t=>(List.range (bs.length+1)).all fun i=>Nat.ble (LG bs (128+t) i) ((i+16) / 8)
theorem VE {bs:List Nat} (h:TH bs=true) {t i:Nat} (ht:t<64) (hi:i≤bs.length) : LG bs (128+t) i≤(i+16) / 8:=by
 unfold TH at h
 have h1:=List.all_eq_true.1 h t (List.mem_range.2 ht)
 have h2:=List.all_eq_true.1 h1 i (List.mem_range.2 (by omega))
 exact Nat.le_of_ble_eq_true h2
theorem Ps (r:Int) : CZ r=some (Utf8.valid r):=by
 unfold CZ Utf8.valid
 by_cases h1:((decide (0≤r))&&(decide (r<55296)))=true
 ·rw [if_pos h1];simp at h1 ⊢;omega
 ·rw [if_neg h1]
  by_cases h2:((decide (57343<r))&&(decide (r≤1114111)))=true
  ·rw [if_pos h2];simp at h1 h2 ⊢;omega
  ·rw [if_neg h2];simp at h1 h2 ⊢;omega
def P8 (s:ByteArray) (r:Int) : Option Int:=if 128≤r∧r≠65533∧Utf8.valid r=true then (if TH (Bi s)=true∧s.size≤1000 then some (atR (Bi s) (Bi (Utf8.encode r))) else none) else RV s r
theorem Ur {s:ByteArray} {r z:Int} (h:P8 s r=some z) : Fn Tryz.prog 123 [.s s,.i .i32 r] (.d (.i .i64 z)):=by
 unfold P8 at h
 by_cases h1:128≤r∧r≠65533∧Utf8.valid r=true
 ·rw [if_pos h1] at h
  by_cases h2:TH (Bi s)=true∧s.size≤1000
  ·rw [if_pos h2] at h
   cases h
   obtain ⟨l2,l4,t,ht,hx⟩:=Vp h1.1 h1.2.2
   refine Qp s r h1.1 h1.2.1 (by rw [Ps,h1.2.2]) rfl l2 l4 hx (by omega) h2.2 fun i hi=>VE h2.1 ht (by rw [GG];exact hi)
  ·rw [if_neg h2] at h;cases h
 ·rw [if_neg h1] at h
  exact Ub h
def PM (s:ByteArray) (r:Int) : Option Bool:=(P8 s r).map fun z=>decide (0≤z)
theorem Og {s:ByteArray} {r:Int} {b:Bool} (h:PM s r=some b) : Fn Tryz.prog 76 [.s s,.i .i32 r] (.d (.b b)):=by
 unfold PM at h
 rcases hz:P8 s r with _|z
 ·rw [hz] at h;cases h
 rw [hz] at h
 cases h
 refine Fn.of (rs:=[.tmp 4]) (nt:=9) Tryz.func76 rfl rfl rfl (by simp) rfl ?_;refine .seq<|.region<|kD zj<|rn<|.seq<|.region<|kK (Ad)<|kK (Ad)<|kK (Al (Ur hz) Tryz.call123)<|kK (vbi)<|kD zj<|rn<|.ret ?_
 exact ⟨rfl,rfl⟩
def Ee (a0:Int) : Option (Bool):=((PM (⟨#[226,138,130,226,138,131,226,134,145,226,136,138,226,141,139,226,141,146,226,136,170,226,137,161,226,137,162,226,141,179]⟩ : ByteArray) a0).bind fun x1=>(some (x1)))
theorem JE {a0:Int} {r:Bool} (h:Ee a0=some r) :
  Fn Tryz.prog 29 [.i .i32 a0] (.d (.b r)):=by
 unfold Ee at h
 refine Fn.o1 2 5 Tryz.func29 ?_;refine .sr<|kR [0,2] zj<|.sr<|kA zj ?_
 obtain ⟨x1,g1,h⟩:=bnd h
 refine kK (Al (Og g1) Tryz.call76)<|kR [2] zj<|.ret ?_
 cases h
 exact ⟨rfl,rfl⟩
def DA (a0:Int) : Option (Bool):=((PM (⟨#[226,138,131,226,141,179,226,136,138,126,226,136,170,226,137,161,226,137,162,226,138,164,226,138,165,226,140,183]⟩ : ByteArray) a0).bind fun x1=>(some (x1)))
theorem Kt {a0:Int} {r:Bool} (h:DA a0=some r) :
  Fn Tryz.prog 42 [.i .i32 a0] (.d (.b r)):=by
 unfold DA at h
 refine Fn.o1 2 5 Tryz.func42 ?_;refine .sr<|kR [0,2] zj<|.sr<|kA zj ?_
 obtain ⟨x1,g1,h⟩:=bnd h
 refine kK (Al (Og g1) Tryz.call76)<|kR [2] zj<|.ret ?_
 cases h
 exact ⟨rfl,rfl⟩
theorem TB : BK Tryz.prog 71=some false:=by kernel_rfl
theorem XT : Ax Tryz.prog 71=1:=by kernel_rfl
theorem Yb : (Tryz.prog.info? 71).bind (·.zero)=some (.map none):=by kernel_rfl
theorem gZU (w:World) (I:Nat→Prop) (μ:List Nat) : ARepAll Tryz.prog w I μ [.un] (Value.cells (.map none)).toList []:=.cons (b1:=[]) (b2:=[]) (.un _) .nil
def D4 (x:Itm) (m:SM) : Option Int:=(Hz m x).bind fun b=>(HA b).bind fun n=>some n
theorem KK {x:Itm} {m:SM} {r:Int} (h:D4 x m=some r) : Fn Tryz.prog 49 [dvI x,.ptr [m.mp]] (.d (.i .i64 r)):=by
 unfold D4 at h
 obtain ⟨b,hb,h⟩:=bnd h
 obtain ⟨n,hn,h⟩:=bnd h
 refine Fn.of (rs:=[.tmp 3]) (nt:=8) Tryz.func49 rfl rfl rfl (by simp) rfl ?_;refine .seq<|.region<|kK (vbx)<|kD zj<|rn<|.seq<|.region<|kK (Am TB)<|kK (Au AF An)<|kK (Al (WA hb) Tryz.call50)<|kK (Al (NF hn) Tryz.call46)<|kD zj<|rn<|.ret ?_
 cases h
 exact ⟨rfl,rfl⟩
def Dd (a0:(Int×RT×Int)) (a1:Int) (a2:Arr) : Option (Arr×Int):=((Ee a1).bind fun x1=>(if x1=true then ((DQ a0 ([a2])).bind fun x2=>(if x2=true then ((Bx a2).bind fun x3=>(if a1=8834 then none else (if a1=8835 then none else (if a1=8593 then (jn (((rd? x3 0).bind fun x4=>none)) fun K0=>(if ((List.length x3:Nat) : Int)=0 then none else (K0))) else (if a1=8714 then none else (jn (fun (z5:Bool)=>(if z5=true then (if ((List.length a2.shape:Nat) : Int)=1 then ((Js a0 x3 (UG [(9035,1),(9042,(-1))] a1)).bind fun x6=>(some (x6,0))) else (some ((Arr.mk [] []),4))) else (if a1=8746 then (if 1<((List.length a2.shape:Nat) : Int) then (some ((Arr.mk [] []),4)) else ((E1 SM.nil x3).bind fun x7=>((C5 a2).bind fun x8=>((C6 x7.1 x8).bind fun x9=>(some (x9.1,x9.2)))))) else (if a1=8801 then none else (if a1=8802 then none else none))))) fun K1=>(if a1=9035 then (K1 (decide (a1=9035))) else (K1 (decide (a1=9042)))))))))) else (some ((Arr.mk [] []),22)))) else (some ((Arr.mk [] []),23))))
set_option maxHeartbeats 4000000 in
theorem Fy {a0:(Int×RT×Int)} {a1:Int} {a2:Arr} {r:Arr×Int} (h:Dd a0 a1 a2=some r) :
  Fn Tryz.prog 7 [.ag [.i .i64 a0.1,.b a0.2.1.1,.sl (L a0.2.1.2.1),.sl (L a0.2.1.2.2),.i .i64 a0.2.2],.i .i32 a1,.ag [.sl (Is a2.shape),.sl (Its a2.items)]] (.tup [.d (.ag [.sl (Is r.1.shape),.sl (Its r.1.items)]),.d (.i .i64 r.2)]):=by
 unfold Dd at h
 refine Fn.ofC (rs:=[.cell 6 25,.tmp 7]) (nt:=121) Tryz.func7 rfl rfl rfl (by simp) rfl ?_;refine .sr<|kK vbx<|kK vbx<|kK (van (Ai AR) A0)<|kR [1,3,5,6,7] zj<|.seq<|.block<|.sr<|kA zj ?_
 obtain ⟨x1,g1,h⟩:=bnd h
 refine kK (Al (JE g1) Tryz.call29)<|kK vnt<|kR [1,3,5,6,7,9] zj ?_
 rcases brc h with ⟨hc,h⟩|⟨hc,h⟩
 ·refine cnf (ntf hc) ?_
  refine .sr<|kK (Au Lj Kl)<|kK (Au Ag Ac)<|kK ((FG (Po a2) (J2 [a2]) MQ).deep) ?_
  obtain ⟨x2,g2,h⟩:=bnd h
  refine kK (Al (Jl g2) Tryz.call30)<|kK vnt<|kR [1,3,5,6,7,14] zj ?_
  rcases brc h with ⟨hc,h⟩|⟨hc,h⟩
  ·refine cnf (ntf hc) ?_
   refine .sk ?_;refine .sr<|kK (Au Ag Ac) ?_
   obtain ⟨x3,g3,h⟩:=bnd h
   refine kK (Al (Ed g3) Tryz.call31)<|aso ?_;refine rk [1,3,5,6,7,8]<|.seq<|.sr<|kA zj<|rk [1,3,5,6,7,8,23]<|.block<|.sr<|kB zj<|kR [1,3,5,6,7,8,23,24] zj ?_
   rcases brc h with ⟨hc,h⟩|⟨hc,h⟩
   ·refine cnt (dT hc) ?_
    refine .sr<|kK (Au Ag Ac) ?_
    exact nomatch h
   refine cnf (dF hc) ?_;refine .sr<|kB zj<|kR [1,3,5,6,7,8,23,32] zj ?_
   rcases brc h with ⟨hc,h⟩|⟨hc,h⟩
   ·refine cnt (dT hc) ?_
    refine .sr<|kK (Au Ag Ac) ?_
    exact nomatch h
   refine cnf (dF hc) ?_;refine .sr<|kB zj<|kR [1,3,5,6,7,8,23,38] zj ?_
   rcases brc h with ⟨hc,h⟩|⟨hc,h⟩
   ·refine cnt (dT hc) ?_
    refine .seq<|.sr<|mvo ?_;refine kK (Ll (Af _) Bh)<|kB zj<|rk [3,5,6,7,8,42] ?_
    obtain ⟨K0,hK0,h⟩:=AX h
    refine AW.mr (σ:=Unit) (fun p=>K0=some r) (fun p=>[(3,.d (.ptr [.i .i64 a0.1,.b a0.2.1.1,.sl (L a0.2.1.2.1),.sl (L a0.2.1.2.2),.i .i64 a0.2.2])),(5,.d (.ptr [.sl (Is a2.shape),.sl (Its a2.items)])),(6,.nb [.sl (Is []),.sl (Its [])]),(7,.d (.i .i64 0)),(8,.own 44 (Its x3))]) (fun p=>[]) ?_ ?_
    ·skip
     rcases brc h with ⟨hc,h⟩|⟨hc,h⟩
     ·refine cnt (dT hc) ?_
      refine .region<|kK (Au Ag Ac) ?_
      exact nomatch h
     refine cnf (dF hc) ?_;refine .gk [3,5,6,7,8]<|.skip ?_
     exact jr () h
    rintro _ h
    subst hK0
    refine aw<|.sr<|mvo ?_
    obtain ⟨x4,g4,h⟩:=bnd h
    obtain ⟨n4,p04,q4⟩:=Ar g4
    refine ixr (off:=0) (len:=(Its x3).length) n4 p04 (by rw [Af];exact (lS.1 q4).1) ?_ Bp (by decide)
    refine vk (QW (i:=0+n4) (xs:=Its x3) [.i .u8 x4.kind,.b x4.num.1,.sl (L x4.num.2.1),.sl (L x4.num.2.2),.i .i32 x4.char,.sl (Ars x4.box)] (by rw [Nat.zero_add];exact BI q4) (by simp [DV.cells]) AF An rfl) ?_
    exact nomatch h
   refine cnf (dF hc) ?_;refine .sr<|kB zj<|kR [1,3,5,6,7,8,23,50] zj ?_
   rcases brc h with ⟨hc,h⟩|⟨hc,h⟩
   ·refine cnt (dT hc) ?_
    refine .seq<|.gh (Gh.frz (p:=.t 8) rfl (by (intro _ _ h;cases h<;>decide)))<|.drawn 13 A5 (by kernel_rfl) ?_;refine kV Ad ?_
    exact nomatch h
   refine cnf (dF hc) ?_;refine .seq<|.sr<|kB zj<|kR [1,3,5,6,7,8,23,65] zj ?_
   obtain ⟨K1,hK1,h⟩:=AX h
   refine AW.mr (σ:=Bool) (fun p=>K1 p=some r) (fun p=>[(1,.d (.i .i32 a1)),(3,.d (.ptr [.i .i64 a0.1,.b a0.2.1.1,.sl (L a0.2.1.2.1),.sl (L a0.2.1.2.2),.i .i64 a0.2.2])),(5,.d (.ptr [.sl (Is a2.shape),.sl (Its a2.items)])),(6,.nb [.sl (Is []),.sl (Its [])]),(7,.d (.i .i64 0)),(8,.own 44 (Its x3)),(23,.d (.i .i32 a1)),(65,.d (.b p))]) (fun p=>[]) ?_ ?_
   ·skip
    rcases brc h with ⟨hc,h⟩|⟨hc,h⟩
    ·refine cnt (dT hc) ?_
     refine .gk [1,3,5,6,7,8,23,65]<|.skip ?_
     exact jr ((decide (a1=9035))) h
    refine cnf (dF hc) ?_;refine .region<|kB zj<|kD zj<|RL.gk [1,3,5,6,7,8,23,65]<|.nil ?_
    exact jr ((decide (a1=9042))) h
   rintro z5 h
   try dsimp only at h ⊢
   subst hK1
   refine aw ?_
   rcases brc h with ⟨hc,h⟩|⟨hc,h⟩
   ·refine cnt hc ?_
    refine .seq<|.sr<|kK (vfa AZ)<|kK (Am Co)<|kK (A8 (Az _) (CI _) Cu)<|kB zj<|rk [1,3,5,6,7,8,71] ?_
    rcases brc h with ⟨hc,h⟩|⟨hc,h⟩
    ·refine cnf (ntf (dT hc)) ?_
     refine .sk ?_;refine .sr<|kK (Au Lj Kl)<|fz (p:=.t 8) ?_;refine kA zj<|kK Xl<|Z9 EO gkR freshK.nil ?_;refine Z9 EO gkR (freshK.snoc (z:=9042) (z':=9035) freshK.nil (by decide)) ?_;refine RL.gh (Gh.omf (t:=75) rfl)<|kA zj<|kA zj<|kK (Aak (T:=[(9035,1),(9042,(-1))]) (by decide) EO gkR Kh) ?_
     obtain ⟨x6,g6,h⟩:=bnd h
     refine vk (Al (NR g6) Tryz.call38) ?_
     refine stn ?_ Ac (by decide)
     refine kR [3,5,6,7] zj<|.ret ?_
     cases h
     exact ⟨_,_,⟨.inr rfl,Ag,Ac,p2⟩,rfl,rfl⟩
    refine cnt (ntt (dF hc)) ?_;refine .sr<|kK (vbd Ds AR A0) ?_
    refine stn ?_ Ac (by decide)
    refine kR [1,3,5,6,7,8] zj<|.ret ?_
    cases h
    exact ⟨_,_,⟨.inr rfl,Ag,Ac,p2⟩,rfl,rfl⟩
   refine cnf (bf hc) ?_;refine .sr<|kB zj<|kR [3,5,6,7,8,23,80] zj ?_
   rcases brc h with ⟨hc,h⟩|⟨hc,h⟩
   ·refine cnt (dT hc) ?_
    refine .seq<|.sr<|kK (vfa AZ)<|kK (Am Co)<|kK (A8 (Az _) (CI _) Cu)<|kB zj<|rk [3,5,6,7,8,85] ?_
    rcases brc h with ⟨hc,h⟩|⟨hc,h⟩
    ·refine cnt (dT hc) ?_
     refine .sr<|kK (vbd Ds AR A0) ?_
     refine stn ?_ Ac (by decide)
     refine kR [3,5,6,7,8] zj<|.ret ?_
     cases h
     exact ⟨_,_,⟨.inr rfl,Ag,Ac,p2⟩,rfl,rfl⟩
    refine cnf (dF hc) ?_;refine .sk ?_;refine .seq ?_
    obtain ⟨x7,g7,h⟩:=bnd h
    obtain ⟨x8,g8,h⟩:=bnd h
    obtain ⟨x9,g9,h⟩:=bnd h
    refine .gk [5,6,7,8]<|.drawnU 2 8 90 (.d (.ag [.sl (Is a2.shape),.sl (Its a2.items)])) [(5,.d (.ptr [.sl (Is a2.shape),.sl (Its a2.items)])),(6,.nb [.sl (Is []),.sl (Its [])]),(89,.d (.sl (Its x7.1)))] A5 (by kernel_rfl) rfl rfl rfl rfl rfl rfl ?_ ?_ fun Hn=>?_
    ·intro oq ho
     cases ho
     exact ⟨rfl,rfl,Au (cs:=[.sl (Is a2.shape),.sl (Its a2.items)]) Ag Ac⟩
    ·refine dv Xl ?_
     refine kV Iv<|dz ?_
     refine ⟨rfl,fun op hop=>?_⟩
     cases hop
     refine ⟨?_,?_⟩
     ·refine OpOK.gh2 (Gh2.omr (t:=87) rfl) ?_
      refine OpOK.callOM (s:=88) (t0:=8) (x1:=[.tmp 87]) (x2:=[]) (as1:=[.mr 0]) (as2:=[]) rfl rfl rfl (.inl rfl) rfl rfl rfl rfl rfl Tryz.call39 (L7 (id:=0) (m:=SM.nil) rfl g7) (fun t ht=>by cases ht;rfl) (fun v H' hp=>?_)
      obtain ⟨rfl,G,rfl⟩:=hp
      exact (Gh.frz (p:=.t 89) (e:=44) (xs:=Its x7.1) rfl (fun _ _ h=>by cases h)).trans (Gh.keep [5,6,89] rfl)
     ·refine OpOK.gh2 (Gh2.omr (t:=87) rfl) ?_
      refine OpOK.callOM (s:=88) (t0:=8) (x1:=[.tmp 87]) (x2:=[]) (as1:=[.mr 0]) (as2:=[]) rfl rfl rfl (.inl rfl) rfl rfl rfl rfl rfl Tryz.call39 (L7 (id:=0) (m:=SM.nil) rfl g7) (fun t ht=>by cases ht;rfl) (fun v H' hp=>?_)
      obtain ⟨rfl,G,rfl⟩:=hp
      exact (Gh.frz (p:=.t 89) (e:=44) (xs:=Its x7.1) rfl (fun _ _ h=>by cases h)).trans (Gh.keep [90,5,6,89] rfl)
    refine kV (Au Ag Ac)<|kV (Al (Im g8) Tryz.call34)<|kV (VOK.tupd (vs:=[.ag [.sl (Is x9.1.shape),.sl (Its x9.1.items)],.i .i64 x9.2]) (Al (H6 g9) Tryz.call35))<|kV vex<|kV vex<|dz ?_
    refine ⟨rfl,?_⟩
    refine stn ?_ Ac (by decide)
    refine kD zj<|rn<|.ret ?_
    cases h
    exact ⟨_,_,⟨.inr rfl,Ag,Ac,p2⟩,rfl,rfl⟩
   refine cnf (dF hc) ?_;refine .sr<|kB zj<|kR [3,5,6,7,23,95] zj ?_
   rcases brc h with ⟨hc,h⟩|⟨hc,h⟩
   ·refine cnt (dT hc) ?_
    refine .sr<|kK (Au Ag Ac) ?_
    exact nomatch h
   refine cnf (dF hc) ?_;refine .sr<|kB zj<|kR [3,5,6,7,100] zj ?_
   rcases brc h with ⟨hc,h⟩|⟨hc,h⟩
   ·exact nomatch h
   refine cnf (dF hc) ?_;refine .sk ?_;refine .sr<|kK (Au Lj Kl)<|kK (Au Ag Ac) ?_
   exact nomatch h
  refine cnt (ntt (bf hc)) ?_;refine .sr<|kK (vbd Ds AR A0) ?_
  refine stn ?_ Ac (by decide)
  refine kR [1,3,5,6,7] zj<|.ret ?_
  cases h
  exact ⟨_,_,⟨.inr rfl,Ag,Ac,p2⟩,rfl,rfl⟩
 refine cnt (ntt (bf hc)) ?_;refine .sr<|kK (vbd Ds AR A0) ?_
 refine stn ?_ Ac (by decide)
 refine kR [1,3,5,6,7] zj<|.ret ?_
 cases h
 exact ⟨_,_,⟨.inr rfl,Ag,Ac,p2⟩,rfl,rfl⟩
def CH (a0:(Int×RT×Int)) (a1:Int) (a2:Arr) (a3:Arr) : Option (Arr×Int):=((DA a1).bind fun x1=>(if x1=true then ((DQ a0 ([a2,a3])).bind fun x2=>(if x2=true then (if a1=8835 then none else (if a1=8868 then ((Iz a2 a3).bind fun x3=>(some (x3.1,x3.2))) else (if a1=8869 then none else (jn (fun (z4:Bool)=>(if z4=true then none else (if a1=9075 then none else (if a1=8714 then ((Bx a3).bind fun x5=>((E1 SM.nil x5).bind fun x6=>((Hg a2 (⟨.fn 49 [] [.ptr [x6.2.mp]],fun x=>D4 x x6.2⟩ : Dz)).bind fun x7=>(some (x7.1,x7.2))))) else (if a1=9015 then none else ((G7 a1 a2 a3).bind fun x8=>(some (x8.1,x8.2)))))))) fun K0=>(if a1=8801 then (K0 (decide (a1=8801))) else (K0 (decide (a1=8802)))))))) else (some ((Arr.mk [] []),22)))) else (some ((Arr.mk [] []),23))))
theorem F6 {a0:(Int×RT×Int)} {a1:Int} {a2:Arr} {a3:Arr} {r:Arr×Int} (h:CH a0 a1 a2 a3=some r) :
  Fn Tryz.prog 9 [.ag [.i .i64 a0.1,.b a0.2.1.1,.sl (L a0.2.1.2.1),.sl (L a0.2.1.2.2),.i .i64 a0.2.2],.i .i32 a1,.ag [.sl (Is a2.shape),.sl (Its a2.items)],.ag [.sl (Is a3.shape),.sl (Its a3.items)]] (.tup [.d (.ag [.sl (Is r.1.shape),.sl (Its r.1.items)]),.d (.i .i64 r.2)]):=by
 unfold CH at h
 refine Fn.ofC (rs:=[.cell 8 25,.tmp 9]) (nt:=92) Tryz.func9 rfl rfl rfl (by simp) rfl ?_;refine .sr<|kK vbx<|kK vbx<|kK vbx<|kK (van (Ai AR) A0)<|kR [1,4,6,7,8,9] zj<|.seq<|.block<|.sr<|kA zj ?_
 obtain ⟨x1,g1,h⟩:=bnd h
 refine kK (Al (Kt g1) Tryz.call42)<|kK vnt<|kR [1,4,6,7,8,9,11] zj ?_
 rcases brc h with ⟨hc,h⟩|⟨hc,h⟩
 ·refine cnf (ntf hc) ?_
  refine .sr<|kK (Au Lj Kl)<|kK (Au Ag Ac)<|kK (Au Ag Ac)<|kK ((FG (XS a2 a3) (J2 [a2,a3]) MQ).deep) ?_
  obtain ⟨x2,g2,h⟩:=bnd h
  refine kK (Al (Jl g2) Tryz.call30)<|kK vnt<|kR [1,4,6,7,8,9,16] zj ?_
  rcases brc h with ⟨hc,h⟩|⟨hc,h⟩
  ·refine cnf (ntf hc) ?_
   refine .sk ?_;refine .seq<|.sr<|kA zj<|rk [1,4,6,7,8,9,24]<|.block<|.sr<|kB zj<|kR [1,4,6,7,8,9,24,25] zj ?_
   rcases brc h with ⟨hc,h⟩|⟨hc,h⟩
   ·refine cnt (dT hc) ?_
    refine .sr<|kK (Au Lj Kl)<|kK (Au Ag Ac)<|kK (Au Ag Ac) ?_
    exact nomatch h
   refine cnf (dF hc) ?_;refine .sr<|kB zj<|kR [1,4,6,7,8,9,24,33] zj ?_
   rcases brc h with ⟨hc,h⟩|⟨hc,h⟩
   ·refine cnt (dT hc) ?_
    refine .sr<|kK (Au Ag Ac)<|kK (Au Ag Ac) ?_
    obtain ⟨x3,g3,h⟩:=bnd h
    refine kK (VOK.tupd (vs:=[.ag [.sl (Is x3.1.shape),.sl (Its x3.1.items)],.i .i64 x3.2]) (Al (Ns g3) Tryz.call44))<|kK vex<|kK vex ?_
    refine stn ?_ Ac (by decide)
    refine kR [1,6,7,8,9] zj<|.ret ?_
    cases h
    exact ⟨_,_,⟨.inr rfl,Ag,Ac,p2⟩,rfl,rfl⟩
   refine cnf (dF hc) ?_;refine .sr<|kB zj<|kR [1,4,6,7,8,9,24,40] zj ?_
   rcases brc h with ⟨hc,h⟩|⟨hc,h⟩
   ·refine cnt (dT hc) ?_
    refine .sr<|kK (Au Ag Ac)<|kK (Au Ag Ac) ?_
    exact nomatch h
   refine cnf (dF hc) ?_;refine .seq<|.sr<|kB zj<|kR [1,4,6,7,8,9,24,47] zj ?_
   obtain ⟨K0,hK0,h⟩:=AX h
   refine AW.mr (σ:=Bool) (fun p=>K0 p=some r) (fun p=>[(1,.d (.i .i32 a1)),(4,.d (.ptr [.i .i64 a0.1,.b a0.2.1.1,.sl (L a0.2.1.2.1),.sl (L a0.2.1.2.2),.i .i64 a0.2.2])),(6,.d (.ptr [.sl (Is a2.shape),.sl (Its a2.items)])),(7,.d (.ptr [.sl (Is a3.shape),.sl (Its a3.items)])),(8,.nb [.sl (Is []),.sl (Its [])]),(9,.d (.i .i64 0)),(24,.d (.i .i32 a1)),(47,.d (.b p))]) (fun p=>[]) ?_ ?_
   ·skip
    rcases brc h with ⟨hc,h⟩|⟨hc,h⟩
    ·refine cnt (dT hc) ?_
     refine .gk [1,4,6,7,8,9,24,47]<|.skip ?_
     exact jr ((decide (a1=8801))) h
    refine cnf (dF hc) ?_;refine .region<|kB zj<|kD zj<|RL.gk [1,4,6,7,8,9,24,47]<|.nil ?_
    exact jr ((decide (a1=8802))) h
   rintro z4 h
   try dsimp only at h ⊢
   subst hK0
   refine aw ?_
   rcases brc h with ⟨hc,h⟩|⟨hc,h⟩
   ·refine cnt hc ?_
    refine .sr<|kK (Au Ag Ac)<|kK (Au Ag Ac) ?_
    exact nomatch h
   refine cnf (bf hc) ?_;refine .sr<|kB zj<|kR [1,4,6,7,8,9,24,58] zj ?_
   rcases brc h with ⟨hc,h⟩|⟨hc,h⟩
   ·refine cnt (dT hc) ?_
    refine .sr<|kK (Au Lj Kl)<|kK (Au Ag Ac)<|kK (Au Ag Ac) ?_
    exact nomatch h
   refine cnf (dF hc) ?_;refine .sr<|kB zj<|kR [1,4,6,7,8,9,24,66] zj ?_
   rcases brc h with ⟨hc,h⟩|⟨hc,h⟩
   ·refine cnt (dT hc) ?_
    refine .seq ?_
    obtain ⟨x5,g5,h⟩:=bnd h
    obtain ⟨x6,g6,h⟩:=bnd h
    obtain ⟨x7,g7,h⟩:=bnd h
    refine .region<|kK Xl ?_
    refine al (cs:=[.un]) ?_ (Ai Yb) gZU
    refine RL.gh2 (Gh2.omr (t:=68) rfl) ?_
    refine stm (id:=0) (off:=0) (cs:=[.un]) (c:=.un) (i:=1) rfl rfl rfl ?_ XT
    refine rk [6,7,8,10]<|.seq<|.drawn 3 A5 (by kernel_rfl) ?_;refine kV (Nx (cs:=[.mr 1]) (c:=.mr 1) rfl rfl TB)<|kV (Au Ag Ac)<|kV (Al (Ed g5) Tryz.call31)<|dz ?_
    refine YN (s:=71) (t0:=71) [.tmp 69] [] (as1:=[.mr 1]) (as2:=[]) (L7 (id:=1) (m:=SM.nil) rfl g6) Tryz.call39 (fun v H' hp=>?_) (.inr rfl)
    obtain ⟨rfl,G,rfl⟩:=hp
    refine rk [6,8,10]<|.gh2 (Gh2.cutM (H0:=[.box [.mr 1],x6.2.mo]) G rfl rfl rfl rfl) ?_;refine .gh2 (Gh2.popMo (H0:=[.box [.mr 1]]) rfl (by simp [smK,smV]) rfl rfl) ?_;refine .gh2 (Gh2.pop (H0:=[]) (cs:=[x6.2.mp]) rfl rfl rfl rfl) ?_;refine .gk [6,8,10]<|.sr<|kK (Au Ag Ac)<|kK ZI<|kK (VOK.tupd (vs:=[.ag [.sl (Is x7.1.shape),.sl (Its x7.1.items)],.i .i64 x7.2]) (Al (PP (JQ Tryz.call49 (fun _ _ h=>KK h)) g7) Tryz.call48))<|kK vex<|kK vex ?_
    refine stn ?_ Ac (by decide)
    refine kR [8,9] zj<|.ret ?_
    cases h
    exact ⟨_,_,⟨.inr rfl,Ag,Ac,p2⟩,rfl,rfl⟩
   refine cnf (dF hc) ?_;refine .sr<|kB zj<|kR [1,4,6,7,8,9,78] zj ?_
   rcases brc h with ⟨hc,h⟩|⟨hc,h⟩
   ·refine cnt (dT hc) ?_
    refine .sr<|kK (Au Lj Kl)<|kK (Au Ag Ac)<|kK (Au Ag Ac) ?_
    exact nomatch h
   refine cnf (dF hc) ?_;refine .sk ?_;refine .sr<|kA zj<|kK (Au Ag Ac)<|kK (Au Ag Ac) ?_
   obtain ⟨x8,g8,h⟩:=bnd h
   refine kK (VOK.tupd (vs:=[.ag [.sl (Is x8.1.shape),.sl (Its x8.1.items)],.i .i64 x8.2]) (Al (PX g8) Tryz.call52))<|kK vex<|kK vex ?_
   refine stn ?_ Ac (by decide)
   refine kR [8,9] zj<|.ret ?_
   cases h
   exact ⟨_,_,⟨.inr rfl,Ag,Ac,p2⟩,rfl,rfl⟩
  refine cnt (ntt (bf hc)) ?_;refine .sr<|kK (vbd Ds AR A0) ?_
  refine stn ?_ Ac (by decide)
  refine kR [1,4,6,7,8,9] zj<|.ret ?_
  cases h
  exact ⟨_,_,⟨.inr rfl,Ag,Ac,p2⟩,rfl,rfl⟩
 refine cnt (ntt (bf hc)) ?_;refine .sr<|kK (vbd Ds AR A0) ?_
 refine stn ?_ Ac (by decide)
 refine kR [1,4,6,7,8,9] zj<|.ret ?_
 cases h
 exact ⟨_,_,⟨.inr rfl,Ag,Ac,p2⟩,rfl,rfl⟩
end Go.FL
