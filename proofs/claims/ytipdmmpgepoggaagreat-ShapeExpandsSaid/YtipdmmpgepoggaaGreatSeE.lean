/-
  Part 5 of the base of the proofs: a logic of our own over the calculus, the contracts of the functions
-/
import Derived.Test.YtipdmmpgepoggaaGreatSeD
set_option linter.unusedVariables false
namespace Go.FL
open Go Go.Proofs
def Dd (a0:(List Int)) (c0:(List Int)) (c1:Arr) (c2:(List Int)) (c3:(List Int)) (K0:Int→Int→Option (Int)) : Nat→Int→Int→Int→Option (Int)
 | 0,_,_,_=>none
 | k+1,s3,s4,s5=>(if s5<((List.length a0:Nat):Int) then ((rd? a0 s5).bind fun x6=>((rd? c0 s5).bind fun x7=>(jn (fun (z8:Int)=>(Option.bind ((if z8<0 then (some true) else ((rd? c1.shape s5).bind fun x12=>(some (decide (x12≤z8))))):Option (Bool)) fun (z11:Bool)=>(if z11=true then (some ((-1))) else ((rd? c3 s5).bind fun x13=>(Dd a0 c0 c1 c2 c3 K0 k s3 (w64 (s4+(w64 (z8 * x13)))) (w64 (s5+1))))))) fun K2=>(if x7<0 then ((rd? c1.shape s5).bind fun x9=>((rd? c2 s5).bind fun x10=>(K2 (w64 (x6+(w64 (x9-x10))))))) else (K2 x6))))) else (K0 s3 s4))
def GD (a0:(List Int)) (c0:(List Int)) (c1:Arr) (c2:(List Int)) (c3:(List Int)) : Option (Int):=(jn (fun (z1:Int) (z2:Int)=>(some (z2))) fun K0=>(Dd a0 c0 c1 c2 c3 K0 AK 0 0 0))
theorem Kv {a0:(List Int)} {c0:(List Int)} {c1:Arr} {c2:(List Int)} {c3:(List Int)} {r:Int} (h:GD a0 c0 c1 c2 c3=some r) :
  Fn Tryz.prog 77 [.sl (Is a0),.ptr [.sl (Is c0)],.ptr [.sl (Is c1.shape),.sl (Its c1.items)],.ptr [.sl (Is c2)],.ptr [.sl (Is c3)]] (.d (.i .i64 r)):=by
 unfold GD at h
 refine Fn.o1 6 55 Tryz.func77 ?_;refine .sr ?_;refine ar [0,1,2,3,4,6] ?_;refine .sr ?_;refine ar [0,1,2,3,4,6,7] ?_;refine .seq ?_;refine .sr ?_;refine vk (Aa) ?_;refine vk (AR (Ad _) (A0 _) AS) ?_;refine vk (Aa) ?_;refine rk [1,2,3,4,6,7,10,11,12] ?_
 obtain ⟨K0,hK0,h⟩:=AQ h
 refine AW.mr (σ:=Int×Int) (fun p=>K0 p.1 p.2=some r) (fun p=>[(6,.d (.i .i64 p.1)),(7,.d (.i .i64 p.2))]) (fun p=>[]) ?_ ?_
 ·skip
  refine .block ?_
  refine .loop (.gk [1,2,3,4,6,7,10,11,12] ?_)
  refine AL.ind (σ:=Nat×Int×Int×Int) (m:=fun p=>p.1) (e:=fun p=>[(1,.d (.ptr [.sl (Is c0)])),(2,.d (.ptr [.sl (Is c1.shape),.sl (Its c1.items)])),(3,.d (.ptr [.sl (Is c2)])),(4,.d (.ptr [.sl (Is c3)])),(6,.d (.i .i64 p.2.1)),(7,.d (.i .i64 p.2.2.1)),(10,.d (.sl (Is a0))),(11,.d (.i .i64 ((List.length a0:Nat):Int))),(12,.d (.i .i64 p.2.2.2))]) (h:=fun p=>[]) (I:=fun p=>Dd a0 c0 c1 c2 c3 K0 p.1 p.2.1 p.2.2.1 p.2.2.2=some r) ?_ (AK,0,0,0) h
  rintro ⟨k,s3,s4,s5⟩ h ih
  dsimp only at h ih ⊢
  rcases k with _|k
  ·rw [Dd] at h;cases h
  rw [Dd] at h
  refine .sr ?_;refine vk (vbi) ?_;refine rk [1,2,3,4,6,7,10,11,12,13] ?_;refine .seq ?_
  rcases brc h with ⟨hc,h⟩|⟨hc,h⟩
  ·refine cnt (dT hc) ?_
   refine .skip ?_
   show AW _ _ _ _ _ _
   refine .seq ?_;refine .block ?_;refine .sr ?_;refine vk (Aa) ?_
   obtain ⟨x6,g6,h⟩:=bnd h
   obtain ⟨n6,p06,q6⟩:=Ag g6
   refine vk (vix n6 p06 (AT q6) rfl AJ) ?_;refine vk (Ah Ap) ?_;refine asd ?_;refine ar [1,2,3,4,6,7,8,9,10,11,12] ?_;refine .seq ?_;refine .sr ?_;refine vk (Ah Ax) ?_;refine vk (Aa) ?_
   obtain ⟨x7,g7,h⟩:=bnd h
   obtain ⟨n7,p07,q7⟩:=Ag g7
   refine vk (vix n7 p07 (AT q7) rfl AJ) ?_;refine vk (Ah Ap) ?_;refine vk (vbi) ?_;refine rk [1,2,3,4,6,7,8,9,10,11,12,21] ?_
   obtain ⟨K2,hK2,h⟩:=AQ h
   refine AW.mr (σ:=Int) (fun p=>K2 p=some r) (fun p=>[(1,.d (.ptr [.sl (Is c0)])),(2,.d (.ptr [.sl (Is c1.shape),.sl (Its c1.items)])),(3,.d (.ptr [.sl (Is c2)])),(4,.d (.ptr [.sl (Is c3)])),(6,.d (.i .i64 s3)),(7,.d (.i .i64 s4)),(8,.d (.i .i64 s5)),(9,.d (.i .i64 p)),(10,.d (.sl (Is a0))),(11,.d (.i .i64 ((List.length a0:Nat):Int))),(12,.d (.i .i64 s5))]) (fun p=>[]) ?_ ?_
   ·skip
    rcases brc h with ⟨hc,h⟩|⟨hc,h⟩
    ·refine cnt (dT hc) ?_
     refine .drawn 12 Bb (by kernel_rfl) ?_;refine dv (Aa) ?_;refine dv (vfa Ai) ?_;refine dv (Ah Ax) ?_;refine dv (Aa) ?_
     obtain ⟨x9,g9,h⟩:=bnd h
     obtain ⟨n9,p09,q9⟩:=Ag g9
     refine dv (vix n9 p09 (AT q9) rfl AJ) ?_;refine dv (Ah Ap) ?_;refine dv (Ah Ax) ?_;refine dv (Aa) ?_
     obtain ⟨x10,g10,h⟩:=bnd h
     obtain ⟨n10,p010,q10⟩:=Ag g10
     refine dv (vix n10 p010 (AT q10) rfl AJ) ?_;refine dv (Ah Ap) ?_;refine dv (vbi) ?_;refine dv (vbi) ?_;refine dz ?_;refine asd ?_;refine RL.gk [1,2,3,4,6,7,8,9,10,11,12] ?_;refine .nil ?_
     exact jr ((w64 (x6+(w64 (x9-x10))))) h
    refine cnf (dF hc) ?_;refine .gk [1,2,3,4,6,7,8,9,10,11,12] ?_;refine .skip ?_
    exact jr (x6) h
   rintro z8 h
   try dsimp only at h ⊢
   subst hK2
   show AW _ _ _ _ _ _
   refine .seq ?_;refine .seq ?_
   obtain ⟨z11,hz,h⟩:=bnd h
   refine AW.mr (σ:=Unit) (fun _=>True) (fun _=>[(1,.d (.ptr [.sl (Is c0)])),(2,.d (.ptr [.sl (Is c1.shape),.sl (Its c1.items)])),(3,.d (.ptr [.sl (Is c2)])),(4,.d (.ptr [.sl (Is c3)])),(6,.d (.i .i64 s3)),(7,.d (.i .i64 s4)),(8,.d (.i .i64 s5)),(9,.d (.i .i64 z8)),(10,.d (.sl (Is a0))),(11,.d (.i .i64 ((List.length a0:Nat):Int))),(12,.d (.i .i64 s5)),(44,.d (.b z11))]) (fun _=>[]) ?_ ?_
   ·skip
    refine .region ?_;refine vk (Aa) ?_;refine vk (vbi) ?_
    rcases brc hz with ⟨hc,hz⟩|⟨hc,hz⟩
    ·have hb0:(decide (z8<0))=true:=(dT hc)
     refine vk (VOK.lit (Aa) hb0) ?_;refine gf ?_;refine gf ?_;refine gf ?_;refine gf ?_;refine gf ?_;refine gf ?_;refine gf ?_;refine vk (An) ?_;refine RL.gk [1,2,3,4,6,7,8,9,10,11,12,44] ?_;refine .nil ?_
     cases hz
     exact jr () trivial
    have hb0:(decide (z8<0))=false:=(dF hc)
    refine vk (VOK.lit (Aa) hb0) ?_;refine vk (Aa) ?_;refine vk (vfa Ai) ?_;refine vk (Ah Ax) ?_;refine vk (Aa) ?_
    obtain ⟨x12,g12,hz⟩:=bnd hz
    obtain ⟨n12,p012,q12⟩:=Ag g12
    refine vk (vix n12 p012 (AT q12) rfl AJ) ?_;refine vk (Ah Ap) ?_;refine vk (vbi) ?_;refine vk (An) ?_;refine RL.gk [1,2,3,4,6,7,8,9,10,11,12,44] ?_;refine .nil ?_
    cases hz
    exact jr () trivial
   rintro _ _
   rcases brc h with ⟨hc,h⟩|⟨hc,h⟩
   ·refine cnt hc ?_
    refine .sr ?_;refine ar [1,2,3,4,6,7,8,9,10,11,12] ?_;refine .ret ?_
    cases h
    exact ⟨rfl,rfl⟩
   refine cnf (bf hc) ?_;refine .skip ?_
   show AW _ _ _ _ _ _
   refine .region ?_;refine vk (Aa) ?_;refine vk (Aa) ?_;refine vk (Ah Ax) ?_;refine vk (Aa) ?_
   obtain ⟨x13,g13,h⟩:=bnd h
   obtain ⟨n13,p013,q13⟩:=Ag g13
   refine vk (vix n13 p013 (AT q13) rfl AJ) ?_;refine vk (Ah Ap) ?_;refine vk (vbi) ?_;refine vk (vbi) ?_;refine asd ?_;refine .nil ?_
   show AW _ _ _ _ _ _
   refine .gk [1,2,3,4,6,7,10,11,12] ?_;refine .region ?_;refine vk (vbi) ?_;refine vk (Aa) ?_;refine .nil ?_;refine AL.gk [1,2,3,4,6,7,10,11,12] ?_
   exact ih (k,s3,(w64 (s4+(w64 (z8 * x13)))),(w64 (s5+1))) h (Nat.lt_succ_self _)
  refine cnf (dF hc) ?_;refine .gk [6,7] ?_;refine .exit ?_
  exact jr (s3,s4) h
 rintro ⟨z1,z2⟩ h
 try dsimp only at h ⊢
 subst hK0
 show AW _ _ _ _ _ _
 refine .sr ?_;refine vk (Aa) ?_;refine ar [6] ?_;refine .ret ?_
 cases h
 exact ⟨rfl,rfl⟩
def DI (x1:(List Int)×Arr×Int) (K0:Arr→Int→(List Int)→Option (Arr×Int)) : Nat→Arr→Int→Int→(List Int)→Option (Arr×Int)
 | 0,_,_,_,_=>none
 | k+1,s6,s7,s8,s9=>(if s8<((List.length x1.1:Nat):Int) then ((rd? x1.1 s8).bind fun x10=>(if x10<(-4096) then (some ((Arr.mk [] []),8)) else ((rd? s9 s8).bind fun x11=>(DI x1 K0 k s6 s7 (w64 (s8+1)) (List.set s9 (Int.toNat s8) (if x10<(IntKind.wrap .i64 (0-x10)) then (IntKind.wrap .i64 (0-x10)) else x10)))))) else (K0 s6 s7 s9))
def IE (a0:Arr) (a1:Arr) : Option (Arr×Int):=((Dz a0 a1).bind fun x1=>(if x1.2.2=0 then ((D4 (0≤((List.length x1.1:Nat) : Int)∧((List.length x1.1:Nat) : Int)≤17592186044416)).bind fun x2=>(jn (fun (z3:Arr) (z4:Int) (z5:(List Int))=>((Bj x1.2.1.shape).bind fun x12=>((BC x1.2.1 z5 (⟨.fn 77 [] [.ptr [.sl (Is x1.1)],.ptr [.sl (Is x1.2.1.shape),.sl (Its x1.2.1.items)],.ptr [.sl (Is z5)],.ptr [.sl (Is x12)]],fun x=>GD x x1.1 x1.2.1 z5 x12⟩ : Bv)).bind fun x13=>(some (x13.1,x13.2))))) fun K0=>(DI x1 K0 AK (Arr.mk [] []) 0 0 (List.replicate (Int.toNat ((List.length x1.1:Nat) : Int)) (0:Int))))) else (some ((Arr.mk [] []),x1.2.2))))
theorem LV {a0:Arr} {a1:Arr} {r:Arr×Int} (h:IE a0 a1=some r) :
  Fn Tryz.prog 36 [.ag [.sl (Is a0.shape),.sl (Its a0.items)],.ag [.sl (Is a1.shape),.sl (Its a1.items)]] (.tup [.d (.ag [.sl (Is r.1.shape),.sl (Its r.1.items)]),.d (.i .i64 r.2)]):=by
 unfold IE at h
 refine Fn.ofC (rs:=[.cell 4 27,.tmp 5]) (nt:=53) Tryz.func36 rfl rfl rfl (by simp) rfl ?_;refine .sr ?_;refine vk (vbx) ?_;refine vk (vbn) ?_;refine vk (van (Aj As) Aw) ?_;refine ar [2,3,4,5] ?_;refine .sr ?_;refine vk (AH Ac Ab) ?_;refine vk (Fs Ac Ab) ?_
 obtain ⟨x1,g1,h⟩:=bnd h
 refine vk (VOK.tupd (vs:=[.sl (Is x1.1),.ag [.sl (Is x1.2.1.shape),.sl (Its x1.2.1.items)],.i .i64 x1.2.2]) (Am (GZ g1) Tryz.call74)) ?_;refine vk (Aa) ?_;refine vk (vex) ?_;refine vk (vex) ?_;refine vk (vex) ?_;refine vk (van (Aj IP) Mc) ?_
 refine QB ?_ H7
 refine RL.gh (Gh.nbp (t:=6) rfl) ?_
 refine stn ?_ Ab (by decide)
 refine ar [3,4,5,6,7] ?_;refine .seq ?_;refine .sr ?_;refine vk (Aa) ?_;refine vk (vbi) ?_;refine rk [3,4,5,6,7,20] ?_
 rcases brc h with ⟨hc,h⟩|⟨hc,h⟩
 ·refine cnf (ntf (dT hc)) ?_
  refine .skip ?_
  show AW _ _ _ _ _ _
  refine .sr ?_;refine vk (Ah Ax) ?_;refine vk (AR (Ad _) (A0 _) AS) ?_
  obtain ⟨x2,g2,h⟩:=bnd h
  have ghx2:=CJ g2
  refine mk' (F:=Is) (x0:=0) (zl:=((List.length x1.1:Nat):Int)) (Int.toNat ((List.length x1.1:Nat):Int)) Fi (by omega) (by omega) ?_ BL (by decide)
  refine al ?_ (Aj IP) (fun w I μ=>O7 w I μ)
  refine IN (cs:=[.nl]) (c:=.nl) rfl rfl ?_ H7
  refine rk [3,4,5,6,8] ?_;refine .seq ?_;refine .sr ?_;refine vk (Ah Ax) ?_;refine vk (AR (Ad _) (A0 _) AS) ?_;refine vk (Aa) ?_;refine rk [3,4,5,6,8,26,27,28] ?_
  obtain ⟨K0,hK0,h⟩:=AQ h
  refine AW.mr (σ:=Arr×Int×(List Int)) (fun p=>K0 p.1 p.2.1 p.2.2=some r) (fun p=>[(3,.nb [.sl (Is x1.2.1.shape),.sl (Its x1.2.1.items)]),(4,.nb [.sl (Is p.1.shape),.sl (Its p.1.items)]),(5,.d (.i .i64 p.2.1)),(6,.d (.ptr [.sl (Is x1.1)])),(8,.bp 0 0)]) (fun p=>[HO.box [.own 3 (Is p.2.2)]]) ?_ ?_
  ·skip
   refine .block ?_
   refine .loop (.gk [3,4,5,6,8,26,27,28] ?_)
   refine AL.ind (σ:=Nat×Arr×Int×Int×(List Int)) (m:=fun p=>p.1) (e:=fun p=>[(3,.nb [.sl (Is x1.2.1.shape),.sl (Its x1.2.1.items)]),(4,.nb [.sl (Is p.2.1.shape),.sl (Its p.2.1.items)]),(5,.d (.i .i64 p.2.2.1)),(6,.d (.ptr [.sl (Is x1.1)])),(8,.bp 0 0),(26,.d (.sl (Is x1.1))),(27,.d (.i .i64 ((List.length x1.1:Nat):Int))),(28,.d (.i .i64 p.2.2.2.1))]) (h:=fun p=>[HO.box [.own 3 (Is p.2.2.2.2)]]) (I:=fun p=>DI x1 K0 p.1 p.2.1 p.2.2.1 p.2.2.2.1 p.2.2.2.2=some r) ?_ (AK,(Arr.mk [] []),0,0,(List.replicate (Int.toNat ((List.length x1.1:Nat):Int)) (0:Int))) h
   rintro ⟨k,s6,s7,s8,s9⟩ h ih
   dsimp only at h ih ⊢
   rcases k with _|k
   ·rw [DI] at h;cases h
   rw [DI] at h
   refine .sr ?_;refine vk (vbi) ?_;refine rk [3,4,5,6,8,26,27,28,29] ?_;refine .seq ?_
   rcases brc h with ⟨hc,h⟩|⟨hc,h⟩
   ·refine cnt (dT hc) ?_
    refine .skip ?_
    show AW _ _ _ _ _ _
    refine .seq ?_;refine .block ?_;refine .sr ?_;refine vk (Aa) ?_
    obtain ⟨x10,g10,h⟩:=bnd h
    obtain ⟨n10,p010,q10⟩:=Ag g10
    refine vk (vix n10 p010 (AT q10) rfl AJ) ?_;refine vk (Ah Ap) ?_;refine asd ?_;refine ar [3,4,5,6,8,9,10,26,27,28] ?_;refine .seq ?_;refine .sr ?_;refine vk (Aa) ?_;refine vk (vbi) ?_;refine rk [3,4,5,6,8,9,10,26,27,28,34] ?_
    rcases brc h with ⟨hc,h⟩|⟨hc,h⟩
    ·refine cnt (dT hc) ?_
     refine .sr ?_;refine vk (vbd Bl As Aw) ?_
     refine stn ?_ Ab (by decide)
     refine ar [3,4,5,6,8,9,10,26,27,28] ?_;refine .ret ?_
     cases h
     exact ⟨_,_,⟨.inr rfl,Ac,Ab,p2⟩,rfl,rfl⟩
    refine cnf (dF hc) ?_;refine .skip ?_
    show AW _ _ _ _ _ _
    refine .region ?_
    refine Ox (cs:=[.own 3 (Is s9)]) rfl rfl ?_ Ax
    refine vk (Aa) ?_;refine vk (Aa) ?_;refine vk (Aa) ?_;refine vk (vng) ?_;refine vk (vmx) ?_
    obtain ⟨x11,g11,h⟩:=bnd h
    obtain ⟨n11,p011,q11⟩:=Ag g11
    refine ixr (off:=0) (len:=(Is s9).length) n11 p011 (by rw [Ad];exact (lS.1 q11).1) ?_ AJ (by decide)
    refine IQ (F:=Is) (D:=fun x=>.i .i64 x) Ej (us:=s9) (n:=n11) (m:=Int.toNat s8) (x:=(if x10<(IntKind.wrap .i64 (0-x10)) then (IntKind.wrap .i64 (0-x10)) else x10)) (by rw [p011];rfl) ⟨_,by rw [Nat.zero_add];exact AT q11,rfl⟩ ?_ B4
    refine RL.gk [3,4,5,6,8,9,10,26,27,28,34,37,38,39,40,41] ?_;refine .nil ?_
    show AW _ _ _ _ _ _
    refine .gk [3,4,5,6,8,26,27,28] ?_;refine .region ?_;refine vk (vbi) ?_;refine vk (Aa) ?_;refine .nil ?_;refine AL.gk [3,4,5,6,8,26,27,28] ?_
    exact ih (k,s6,s7,(w64 (s8+1)),(List.set s9 (Int.toNat s8) (if x10<(IntKind.wrap .i64 (0-x10)) then (IntKind.wrap .i64 (0-x10)) else x10))) h (Nat.lt_succ_self _)
   refine cnf (dF hc) ?_;refine .gk [3,4,5,6,8] ?_;refine .exit ?_
   exact jr (s6,s7,s9) h
  rintro ⟨z3,z4,z5⟩ h
  try dsimp only at h ⊢
  subst hK0
  show AW _ _ _ _ _ _
  refine .seq ?_;refine .gh (Gh.nbp (t:=3) rfl) ?_;refine .region ?_;refine vk (vfa Ai) ?_;refine vk (Ah Ax) ?_
  obtain ⟨x12,g12,h⟩:=bnd h
  refine vk (Am (Bz g12) Tryz.call75) ?_;refine vk (van (Aj IP) Mc) ?_
  refine QB ?_ H7
  refine RL.gh (Gh.nbp (t:=11) rfl) ?_;refine rk [3,4,5,6,8,11] ?_;refine .sr ?_;refine vk (AH Ac Ab) ?_;refine fz (p:=.c 0 0) ?_;refine vk (Kr (cs:=[.d (.sl (Is z5))]) (c:=.sl (Is z5)) rfl rfl Ax) ?_;refine RL.gh2 (Gh2.pop (H0:=[]) (cs:=[.sl (Is z5)]) rfl rfl rfl rfl) ?_;refine vk (Qw) ?_
  obtain ⟨x13,g13,h⟩:=bnd h
  refine vk (VOK.tupd (vs:=[.ag [.sl (Is x13.1.shape),.sl (Its x13.1.items)],.i .i64 x13.2]) (Am (Ep (DY Tryz.call77 (fun _ _ h=>Kv h)) g13) Tryz.call76)) ?_;refine vk (vex) ?_;refine vk (vex) ?_
  refine stn ?_ Ab (by decide)
  refine ar [4,5] ?_;refine .ret ?_
  cases h
  exact ⟨_,_,⟨.inr rfl,Ac,Ab,p2⟩,rfl,rfl⟩
 refine cnt (ntt (dF hc)) ?_;refine .sr ?_;refine vk (vbd Bl As Aw) ?_;refine vk (Aa) ?_
 refine stn ?_ Ab (by decide)
 refine ar [3,4,5,6] ?_;refine .ret ?_
 cases h
 exact ⟨_,_,⟨.inr rfl,Ac,Ab,p2⟩,rfl,rfl⟩
def C1 (a0:Int) : Option (Bool):=((GY (⟨#[226,141,180,44,226,141,170,226,134,145,226,134,147,226,140,189,226,138,150,226,141,137,47,226,140,191,92,226,141,128]⟩ : ByteArray) a0).bind fun x1=>(some (x1)))
theorem FD {a0:Int} {r:Bool} (h:C1 a0=some r) :
  Fn Tryz.prog 21 [.i .i32 a0] (.d (.b r)):=by
 unfold C1 at h
 refine Fn.o1 2 5 Tryz.func21 ?_;refine .sr ?_;refine ar [0,2] ?_;refine .sr ?_;refine vk (Aa) ?_
 obtain ⟨x1,g1,h⟩:=bnd h
 refine vk (Am (KO g1) Tryz.call42) ?_;refine ar [2] ?_;refine .ret ?_
 cases h
 exact ⟨rfl,rfl⟩
def DG (a0:Int) (a1:Arr) (a2:Arr) : Option (Arr):=((GY (⟨#[44,226,141,170]⟩ : ByteArray) a0).bind fun x1=>(if (x1&&(decide (((List.length a2.shape:Nat) : Int)<((List.length a1.shape:Nat) : Int))))=true then (some (a1)) else (some (a2))))
theorem JO {a0:Int} {a1:Arr} {a2:Arr} {r:Arr} (h:DG a0 a1 a2=some r) :
  Fn Tryz.prog 41 [.i .i32 a0,.ag [.sl (Is a1.shape),.sl (Its a1.items)],.ag [.sl (Is a2.shape),.sl (Its a2.items)]] (.d (.ag [.sl (Is r.shape),.sl (Its r.items)])):=by
 unfold DG at h
 refine Fn.ofC (rs:=[.cell 6 27]) (nt:=20) Tryz.func41 rfl rfl rfl (by simp) rfl ?_;refine .sr ?_;refine vk (vbx) ?_;refine vk (vbx) ?_;refine vk (van (Aj As) Aw) ?_;refine rk [0,4,5,6] ?_;refine .seq ?_;refine .seq ?_
 obtain ⟨x1,g1,h⟩:=bnd h
 refine AW.mr (σ:=Unit) (fun _=>True) (fun _=>[(4,.d (.ptr [.sl (Is a1.shape),.sl (Its a1.items)])),(5,.d (.ptr [.sl (Is a2.shape),.sl (Its a2.items)])),(6,.nb [.sl (Is []),.sl (Its [])]),(17,.d (.b (x1&&(decide (((List.length a2.shape:Nat):Int)<((List.length a1.shape:Nat):Int))))))]) (fun _=>[]) ?_ ?_
 ·skip
  refine .region ?_;refine vk (Aa) ?_;refine vk (Am (KO g1) Tryz.call42) ?_
  by_cases hc:x1=true
  ·have hb0:x1=true:=hc
   refine vk (VOK.lit (Aa) hb0) ?_;refine vk (vfa Ai) ?_;refine vk (Ah Ax) ?_;refine vk (AR (Ad _) (A0 _) AS) ?_;refine vk (vfa Ai) ?_;refine vk (Ah Ax) ?_;refine vk (AR (Ad _) (A0 _) AS) ?_;refine vk (vbi) ?_;refine vk (An) ?_;refine RL.gk [4,5,6,17] ?_;refine .nil ?_
   exact jr () trivial (by simp only [hb0];rfl)
  have hb0:x1=false:=(bf hc)
  refine vk (VOK.lit (Aa) hb0) ?_;refine gf ?_;refine gf ?_;refine gf ?_;refine gf ?_;refine gf ?_;refine gf ?_;refine gf ?_;refine vk (An) ?_;refine RL.gk [4,5,6,17] ?_;refine .nil ?_
  exact jr () trivial (by simp only [hb0];rfl)
 rintro _ _
 rcases brc h with ⟨hc,h⟩|⟨hc,h⟩
 ·refine cnt hc ?_
  refine .sr ?_;refine vk (AH Ac Ab) ?_
  refine stn ?_ Ab (by decide)
  refine rk [5,6] ?_;refine .ret ?_
  cases h
  exact ⟨_,⟨.inr rfl,Ac,Ab,p2⟩,rfl⟩
 refine cnf (bf hc) ?_;refine .skip ?_
 show AW _ _ _ _ _ _
 refine .sr ?_;refine vk (AH Ac Ab) ?_
 refine stn ?_ Ab (by decide)
 refine rk [6] ?_;refine .ret ?_
 cases h
 exact ⟨_,⟨.inr rfl,Ac,Ab,p2⟩,rfl⟩
def Cd (a0:(Int×RT×Int)) (a1:Int) (a2:Arr) (a3:Arr) : Option (Arr×Int):=((C1 a1).bind fun x1=>(if x1=true then ((Dw a0 ([a2,a3])).bind fun x2=>(if x2=true then (if a1=9076 then ((BG a2).bind fun x3=>(if x3.2=0 then ((AE x3.1 a3.items).bind fun x4=>(some (x4.1,x4.2))) else (some ((Arr.mk [] []),x3.2)))) else (if a1=8593 then ((IE a2 a3).bind fun x5=>(some (x5.1,x5.2))) else (if a1=8595 then ((EI a2 a3).bind fun x6=>(some (x6.1,x6.2))) else (if a1=9033 then none else ((Gb JY a1).bind fun x7=>((DG a1 a2 a3).bind fun x8=>((GY (⟨#[226,141,170,226,138,150,226,140,191,226,141,128]⟩ : ByteArray) a1).bind fun x9=>((D9 x8 x9).bind fun x10=>((x7.g (a2,a3,x10)).bind fun x11=>(some (x11.1,x11.2))))))))))) else (some ((Arr.mk [] []),22)))) else (some ((Arr.mk [] []),23))))
theorem E3 {a0:(Int×RT×Int)} {a1:Int} {a2:Arr} {a3:Arr} {r:Arr×Int} (h:Cd a0 a1 a2 a3=some r) :
  Fn Tryz.prog 11 [.ag [.i .i64 a0.1,.b a0.2.1.1,.sl (L a0.2.1.2.1),.sl (L a0.2.1.2.2),.i .i64 a0.2.2],.i .i32 a1,.ag [.sl (Is a2.shape),.sl (Its a2.items)],.ag [.sl (Is a3.shape),.sl (Its a3.items)]] (.tup [.d (.ag [.sl (Is r.1.shape),.sl (Its r.1.items)]),.d (.i .i64 r.2)]):=by
 unfold Cd at h
 refine Fn.ofC (rs:=[.cell 8 27,.tmp 9]) (nt:=80) Tryz.func11 rfl rfl rfl (by simp) rfl ?_;refine .sr ?_;refine vk (vbx) ?_;refine vk (vbx) ?_;refine vk (vbx) ?_;refine vk (van (Aj As) Aw) ?_;refine ar [1,4,6,7,8,9] ?_;refine .seq ?_;refine .block ?_;refine .sr ?_;refine vk (Aa) ?_
 obtain ⟨x1,g1,h⟩:=bnd h
 refine vk (Am (FD g1) Tryz.call21) ?_;refine vk (vnt) ?_;refine ar [1,4,6,7,8,9,12] ?_
 rcases brc h with ⟨hc,h⟩|⟨hc,h⟩
 ·refine cnf (ntf hc) ?_
  refine .sr ?_;refine vk (AH Pz Nw) ?_;refine vk (AH Ac Ab) ?_;refine vk (AH Ac Ab) ?_;refine vk ((Em (Th a2 a3) (Hf [a2,a3]) IH).deep) ?_
  obtain ⟨x2,g2,h⟩:=bnd h
  refine vk (Am (HD g2) Tryz.call34) ?_;refine vk (vnt) ?_;refine ar [1,4,6,7,8,9,17] ?_
  rcases brc h with ⟨hc,h⟩|⟨hc,h⟩
  ·refine cnf (ntf hc) ?_
   refine .skip ?_
   show AW _ _ _ _ _ _
   refine .seq ?_;refine .sr ?_;refine vk (Aa) ?_;refine rk [1,4,6,7,8,9,25] ?_;refine .block ?_;refine .sr ?_;refine vk (vbi) ?_;refine ar [1,4,6,7,8,9,25,26] ?_
   rcases brc h with ⟨hc,h⟩|⟨hc,h⟩
   ·refine cnt (dT hc) ?_
    refine .sr ?_;refine vk (AH Ac Ab) ?_
    obtain ⟨x3,g3,h⟩:=bnd h
    refine vk (VOK.tupd (vs:=[.sl (Is x3.1),.i .i64 x3.2]) (Am (DA g3) Tryz.call35)) ?_;refine vk (Aa) ?_;refine vk (vex) ?_;refine vk (vex) ?_;refine asd ?_;refine ar [1,6,7,8,9,10,11] ?_;refine .seq ?_;refine .sr ?_;refine vk (Aa) ?_;refine vk (vbi) ?_;refine rk [1,6,7,8,9,10,11,34] ?_
    rcases brc h with ⟨hc,h⟩|⟨hc,h⟩
    ·refine cnf (ntf (dT hc)) ?_
     refine .skip ?_
     show AW _ _ _ _ _ _
     refine .sr ?_;refine vk (Aa) ?_;refine vk (vfa AD) ?_;refine vk (Ah Bm) ?_
     obtain ⟨x4,g4,h⟩:=bnd h
     refine vk (VOK.tupd (vs:=[.ag [.sl (Is x4.1.shape),.sl (Its x4.1.items)],.i .i64 x4.2]) (Am (CK g4) Tryz.call10)) ?_;refine vk (vex) ?_;refine vk (vex) ?_
     refine stn ?_ Ab (by decide)
     refine ar [1,6,7,8,9] ?_;refine .ret ?_
     cases h
     exact ⟨_,_,⟨.inr rfl,Ac,Ab,p2⟩,rfl,rfl⟩
    refine cnt (ntt (dF hc)) ?_;refine .sr ?_;refine vk (vbd Bl As Aw) ?_;refine vk (Aa) ?_
    refine stn ?_ Ab (by decide)
    refine ar [1,6,7,8,9,10] ?_;refine .ret ?_
    cases h
    exact ⟨_,_,⟨.inr rfl,Ac,Ab,p2⟩,rfl,rfl⟩
   refine cnf (dF hc) ?_;refine .sr ?_;refine vk (vbi) ?_;refine ar [1,4,6,7,8,9,25,43] ?_
   rcases brc h with ⟨hc,h⟩|⟨hc,h⟩
   ·refine cnt (dT hc) ?_
    refine .sr ?_;refine vk (AH Ac Ab) ?_;refine vk (AH Ac Ab) ?_
    obtain ⟨x5,g5,h⟩:=bnd h
    refine vk (VOK.tupd (vs:=[.ag [.sl (Is x5.1.shape),.sl (Its x5.1.items)],.i .i64 x5.2]) (Am (LV g5) Tryz.call36)) ?_;refine vk (vex) ?_;refine vk (vex) ?_
    refine stn ?_ Ab (by decide)
    refine ar [1,6,7,8,9] ?_;refine .ret ?_
    cases h
    exact ⟨_,_,⟨.inr rfl,Ac,Ab,p2⟩,rfl,rfl⟩
   refine cnf (dF hc) ?_;refine .sr ?_;refine vk (vbi) ?_;refine ar [1,4,6,7,8,9,25,50] ?_
   rcases brc h with ⟨hc,h⟩|⟨hc,h⟩
   ·refine cnt (dT hc) ?_
    refine .sr ?_;refine vk (AH Ac Ab) ?_;refine vk (AH Ac Ab) ?_
    obtain ⟨x6,g6,h⟩:=bnd h
    refine vk (VOK.tupd (vs:=[.ag [.sl (Is x6.1.shape),.sl (Its x6.1.items)],.i .i64 x6.2]) (Am (LK g6) Tryz.call37)) ?_;refine vk (vex) ?_;refine vk (vex) ?_
    refine stn ?_ Ab (by decide)
    refine ar [1,6,7,8,9] ?_;refine .ret ?_
    cases h
    exact ⟨_,_,⟨.inr rfl,Ac,Ab,p2⟩,rfl,rfl⟩
   refine cnf (dF hc) ?_;refine .sr ?_;refine vk (vbi) ?_;refine ar [1,4,6,7,8,9,57] ?_
   rcases brc h with ⟨hc,h⟩|⟨hc,h⟩
   ·refine cnt (dT hc) ?_
    refine .sr ?_;refine vk (AH Pz Nw) ?_;refine vk (AH Ac Ab) ?_;refine vk (AH Ac Ab) ?_
    exact nomatch h
   refine cnf (dF hc) ?_;refine .skip ?_
   show AW _ _ _ _ _ _
   refine .seq ?_;refine .drawn 15 Bb (by kernel_rfl) ?_;refine dv (Am Rt Tryz.call39) ?_;refine dv (Aa) ?_
   obtain ⟨x7,g7,h⟩:=bnd h
   obtain ⟨ox7,isx7⟩:=SK g7
   refine dv (T6 Sl Fb gkR g7) ?_;refine dv (AH Ac Ab) ?_;refine dv (AH Ac Ab) ?_;refine dv (Aa) ?_;refine dv (AH Ac Ab) ?_;refine dv (AH Ac Ab) ?_
   obtain ⟨x8,g8,h⟩:=bnd h
   refine dv (Am (JO g8) Tryz.call41) ?_;refine dv (Aa) ?_
   obtain ⟨x9,g9,h⟩:=bnd h
   refine dv (Am (KO g9) Tryz.call42) ?_
   obtain ⟨x10,g10,h⟩:=bnd h
   refine dv (Am (IU g10) Tryz.call40) ?_
   obtain ⟨x11,g11,h⟩:=bnd h
   refine dv (VOK.tupd (vs:=[.ag [.sl (Is x11.1.shape),.sl (Its x11.1.items)],.i .i64 x11.2]) (N9 (ox7 _ _ g11))) ?_;refine dv (vex) ?_;refine dv (vex) ?_;refine dz ?_
   refine stn ?_ Ab (by decide)
   refine ar [8,9] ?_;refine .ret ?_
   cases h
   exact ⟨_,_,⟨.inr rfl,Ac,Ab,p2⟩,rfl,rfl⟩
  refine cnt (ntt (bf hc)) ?_;refine .sr ?_;refine vk (vbd Bl As Aw) ?_
  refine stn ?_ Ab (by decide)
  refine ar [1,4,6,7,8,9] ?_;refine .ret ?_
  cases h
  exact ⟨_,_,⟨.inr rfl,Ac,Ab,p2⟩,rfl,rfl⟩
 refine cnt (ntt (bf hc)) ?_;refine .sr ?_;refine vk (vbd Bl As Aw) ?_
 refine stn ?_ Ab (by decide)
 refine ar [1,4,6,7,8,9] ?_;refine .ret ?_
 cases h
 exact ⟨_,_,⟨.inr rfl,Ac,Ab,p2⟩,rfl,rfl⟩
def Ey : Option ((Int×RT×Int)):=(some ((1,(false,[],[]),0)))
theorem Fa {r:(Int×RT×Int)} (h:Ey=some r) :
  Fn Tryz.prog 12 [] (.d (.ag [.i .i64 r.1,.b r.2.1.1,.sl (L r.2.1.2.1),.sl (L r.2.1.2.2),.i .i64 r.2.2])):=by
 unfold Ey at h
 refine Fn.ofC (rs:=[.cell 0 36]) (nt:=2) Tryz.func12 rfl rfl rfl (by simp) rfl ?_;refine .sr ?_;refine vk (van (Aj TW) TU) ?_;refine rk [0] ?_;refine .sr ?_;refine vk (vbd Vp TW TU) ?_
 refine stn ?_ Nw (by decide)
 refine rk [0] ?_;refine .ret ?_
 cases h
 exact ⟨_,⟨.inr rfl,Pz,Nw,(by decide:(0:Nat)<5)⟩,rfl⟩
def DZ : Option (Bool):=(Ey.bind fun x1=>((Ho ([2,2])).bind fun x2=>((Ho ([1,2,3])).bind fun x3=>((Cd x1 9076 x2 x3).bind fun x4=>(Ey.bind fun x5=>((FY x5 9033 x4.1).bind fun x6=>(Option.bind ((if x4.2=0 then (if x6.2=0 then (if ((List.length x6.1.items:Nat) : Int)=4 then ((A8 x6.1).bind fun x8=>(if x8=true then ((MB x6.1).bind fun x9=>((HR x6.1 x9).bind fun x10=>(if x10=true then ((C1 9066).bind fun x11=>(if x11=true then ((Ha x4.1 x6.1).bind fun x12=>(some (!x12))) else (some false))) else (some false)))) else (some false))) else (some false)) else (some false)) else (some false)) : Option (Bool)) fun (z7:Bool)=>(some (z7)))))))))
theorem EP {r:Bool} (h:DZ=some r) :
  Fn Tryz.prog 9 [] (.d (.b r)):=by
 unfold DZ at h
 refine Fn.o1 0 51 Tryz.func9 ?_;refine .sr ?_;refine ar [0] ?_;refine .sr ?_
 obtain ⟨x1,g1,h⟩:=bnd h
 refine vk (Am (Fa g1) Tryz.call12) ?_;refine vk ((G5 (Cy [2,2]) BL).deep) ?_
 obtain ⟨x2,g2,h⟩:=bnd h
 refine vk (Am (HN g2) Tryz.call13) ?_;refine vk ((G5 (Cy [1,2,3]) BL).deep) ?_
 obtain ⟨x3,g3,h⟩:=bnd h
 refine vk (Am (HN g3) Tryz.call13) ?_
 obtain ⟨x4,g4,h⟩:=bnd h
 refine vk (VOK.tupd (vs:=[.ag [.sl (Is x4.1.shape),.sl (Its x4.1.items)],.i .i64 x4.2]) (Am (E3 g4) Tryz.call11)) ?_;refine vk (Aa) ?_;refine vk (vex) ?_;refine vk (vex) ?_;refine vk (van (Aj As) Aw) ?_
 refine stn ?_ Ab (by decide)
 refine ar [0,1,2] ?_;refine .seq ?_
 obtain ⟨x5,g5,h⟩:=bnd h
 obtain ⟨x6,g6,h⟩:=bnd h
 refine .drawnF 7 [5] [(3,.nb [.sl (Is x6.1.shape),.sl (Its x6.1.items)])] [] Bb (by kernel_rfl) rfl ?_;refine dv (Am (Fa g5) Tryz.call12) ?_;refine dv (Fs Ac Ab) ?_;refine dv (VOK.tupd (vs:=[.ag [.sl (Is x6.1.shape),.sl (Its x6.1.items)],.i .i64 x6.2]) (Am (Jp g6) Tryz.call17)) ?_;refine dv (Aa) ?_;refine dv (vex) ?_;refine dv (vex) ?_;refine dv (van (Aj As) Aw) ?_;refine dz ?_
 refine ⟨?_,?_,?_⟩
 ·intro k hk
  simp only [List.mem_cons,List.not_mem_nil,or_false] at hk
  subst hk
  exact ⟨_,_,_,rfl,rfl,rfl,rfl,rfl,rfl,vex⟩
 ·intro om e hom hge
  cases hom
  exact MQ (cs:=[.sl (Is []),.sl (Its [])]) (cs':=[.sl (Is x6.1.shape),.sl (Its x6.1.items)]) Ab (by decide) rfl ((hge 3 (fun k hk v hv=>by
    simp only [List.mem_cons,List.not_mem_nil,or_false] at hk
    subst hk;exact (by decide:¬(some 19=some 3)) (congrArg (Option.map Prod.fst) hv))).trans rfl) ((congrArg A7 (hge 18 (fun k hk v hv=>by
    simp only [List.mem_cons,List.not_mem_nil,or_false] at hk
    subst hk;exact (by decide:¬(some 19=some 18)) (congrArg (Option.map Prod.fst) hv)))).trans rfl) rfl rfl rfl rfl ⟨rfl,rfl⟩
 refine ar [0,1,2,3,4] ?_;refine .seq ?_;refine .gh (Gh.nbp (t:=3) rfl) ?_
 obtain ⟨z7,hz,h⟩:=bnd h
 refine AW.mr (σ:=Unit) (fun _=>True) (fun _=>[(0,.d (.b z7))]) (fun _=>[]) ?_ ?_
 ·skip
  refine .drawn 31 Bb (by kernel_rfl) ?_;refine dv (Aa) ?_;refine dv (vbi) ?_
  rcases brc hz with ⟨hc,hz⟩|⟨hc,hz⟩
  ·have hb0:(decide (x4.2=0))=true:=(dT hc)
   refine dv (VOK.lit (Aa) hb0) ?_;refine dv (Aa) ?_;refine dv (vbi) ?_;refine dv (An) ?_
   rcases brc hz with ⟨hc,hz⟩|⟨hc,hz⟩
   ·have hb1:(decide (x6.2=0))=true:=(dT hc)
    refine dv (VOK.lit (Aa) hb1) ?_;refine dv (vfa AD) ?_;refine dv (Ah Bm) ?_;refine dv (AR (Ay _) (CD _) CC) ?_;refine dv (vbi) ?_;refine dv (An) ?_
    rcases brc hz with ⟨hc,hz⟩|⟨hc,hz⟩
    ·have hb2:(decide (((List.length x6.1.items:Nat):Int)=4))=true:=(dT hc)
     refine dv (VOK.lit (Aa) hb2) ?_;refine dv (AH Ac Ab) ?_
     obtain ⟨x8,g8,hz⟩:=bnd hz
     refine dv (Am (Bs g8) Tryz.call15) ?_;refine dv (An) ?_
     rcases brc hz with ⟨hc,hz⟩|⟨hc,hz⟩
     ·have hb3:x8=true:=hc
      refine dv (VOK.lit (Aa) hb3) ?_;refine dv (AH Ac Ab) ?_;refine dv (AH Ac Ab) ?_
      obtain ⟨x9,g9,hz⟩:=bnd hz
      refine dv (Am (MP g9) Tryz.call16) ?_
      obtain ⟨x10,g10,hz⟩:=bnd hz
      refine dv (Am (Jc g10) Tryz.call14) ?_;refine dv (An) ?_
      rcases brc hz with ⟨hc,hz⟩|⟨hc,hz⟩
      ·have hb4:x10=true:=hc
       refine dv (VOK.lit (Aa) hb4) ?_
       obtain ⟨x11,g11,hz⟩:=bnd hz
       refine dv (Am (FD g11) Tryz.call21) ?_;refine dv (An) ?_
       rcases brc hz with ⟨hc,hz⟩|⟨hc,hz⟩
       ·have hb5:x11=true:=hc
        refine dv (VOK.lit (Aa) hb5) ?_;refine dv (Fs Ac Ab) ?_;refine dv (AH Ac Ab) ?_
        obtain ⟨x12,g12,hz⟩:=bnd hz
        refine dv (Am (LF g12) Tryz.call25) ?_;refine dv (vnt) ?_;refine dv (An) ?_;refine dz ?_;refine asd ?_;refine RL.gk [0] ?_;refine .nil ?_
        cases hz
        exact jr () trivial
       have hb5:x11=false:=(bf hc)
       refine dv (VOK.lit (Aa) hb5) ?_;refine dgf ?_;refine dgf ?_;refine dgf ?_;refine dgf ?_;refine dv (An) ?_;refine dz ?_;refine asd ?_;refine RL.gk [0] ?_;refine .nil ?_
       cases hz
       exact jr () trivial
      have hb4:x10=false:=(bf hc)
      refine dv (VOK.lit (Aa) hb4) ?_;refine dgf ?_;refine dv (An) ?_;refine dv (Aa) ?_;refine dgf ?_;refine dgf ?_;refine dgf ?_;refine dgf ?_;refine dv (An) ?_;refine dz ?_;refine asd ?_;refine RL.gk [0] ?_;refine .nil ?_
      cases hz
      exact jr () trivial
     have hb3:x8=false:=(bf hc)
     refine dv (VOK.lit (Aa) hb3) ?_;refine dgf ?_;refine dgf ?_;refine dgf ?_;refine dgf ?_;refine dv (An) ?_;refine dv (Aa) ?_;refine dgf ?_;refine dv (An) ?_;refine dv (Aa) ?_;refine dgf ?_;refine dgf ?_;refine dgf ?_;refine dgf ?_;refine dv (An) ?_;refine dz ?_;refine asd ?_;refine RL.gk [0] ?_;refine .nil ?_
     cases hz
     exact jr () trivial
    have hb2:(decide (((List.length x6.1.items:Nat):Int)=4))=false:=(dF hc)
    refine dv (VOK.lit (Aa) hb2) ?_;refine dgf ?_;refine dgf ?_;refine dv (An) ?_;refine dv (Aa) ?_;refine dgf ?_;refine dgf ?_;refine dgf ?_;refine dgf ?_;refine dv (An) ?_;refine dv (Aa) ?_;refine dgf ?_;refine dv (An) ?_;refine dv (Aa) ?_;refine dgf ?_;refine dgf ?_;refine dgf ?_;refine dgf ?_;refine dv (An) ?_;refine dz ?_;refine asd ?_;refine RL.gk [0] ?_;refine .nil ?_
    cases hz
    exact jr () trivial
   have hb1:(decide (x6.2=0))=false:=(dF hc)
   refine dv (VOK.lit (Aa) hb1) ?_;refine dgf ?_;refine dgf ?_;refine dgf ?_;refine dgf ?_;refine dv (An) ?_;refine dv (Aa) ?_;refine dgf ?_;refine dgf ?_;refine dv (An) ?_;refine dv (Aa) ?_;refine dgf ?_;refine dgf ?_;refine dgf ?_;refine dgf ?_;refine dv (An) ?_;refine dv (Aa) ?_;refine dgf ?_;refine dv (An) ?_;refine dv (Aa) ?_;refine dgf ?_;refine dgf ?_;refine dgf ?_;refine dgf ?_;refine dv (An) ?_;refine dz ?_;refine asd ?_;refine RL.gk [0] ?_;refine .nil ?_
   cases hz
   exact jr () trivial
  have hb0:(decide (x4.2=0))=false:=(dF hc)
  refine dv (VOK.lit (Aa) hb0) ?_;refine dgf ?_;refine dgf ?_;refine dv (An) ?_;refine dv (Aa) ?_;refine dgf ?_;refine dgf ?_;refine dgf ?_;refine dgf ?_;refine dv (An) ?_;refine dv (Aa) ?_;refine dgf ?_;refine dgf ?_;refine dv (An) ?_;refine dv (Aa) ?_;refine dgf ?_;refine dgf ?_;refine dgf ?_;refine dgf ?_;refine dv (An) ?_;refine dv (Aa) ?_;refine dgf ?_;refine dv (An) ?_;refine dv (Aa) ?_;refine dgf ?_;refine dgf ?_;refine dgf ?_;refine dgf ?_;refine dv (An) ?_;refine dz ?_;refine asd ?_;refine RL.gk [0] ?_;refine .nil ?_
  cases hz
  exact jr () trivial
 rintro _ _
 refine .ret ?_
 cases h
 exact ⟨rfl,rfl⟩
theorem TY : DZ=some true:=by kernel_rfl
theorem VL : Ey=some (1,(false,[],[]),0):=by kernel_rfl
theorem RN {a b:Arr} {e:Int×RT×Int} (he:e.1=0∨e.1=1) (oa:okAr a) (ob:okAr b) (ra:Bc a) (rb:Bc b) : Dw e [a,b]=some true:=by
 rw [RW he (by simp) (by simpa using ⟨oa,ob⟩)]
 simp [ra,rb]
def bz (b:Bool) : Int:=if b then 1 else 0
def C4 (B:List Bool) : List Int:=B.map bz
def DC : List Bool→Nat
 | []=>0
 | b::bs=>(if b then 1 else 0)+DC bs
def exF : List Bool→Nat→List Int
 | [],_=>[]
 | b::bs,r=>(if b then (r:Int) else -1)::exF bs (if b then r+1 else r)
def Gc : List Bool→Nat→List Nat
 | [],_=>[]
 | b::bs,i=>if b then i::Gc bs (i+1) else Gc bs (i+1)
def exI (p:Itm) : List Bool→List Itm→List Itm
 | [],_=>[]
 | b::bs,xs=>(if b then xs.headD p else p)::exI p bs (if b then xs.tail else xs)
theorem Bo (B:List Bool) : (C4 B).length=B.length:=by simp [C4]
theorem M7 {B:List Bool} : ∀ z∈C4 B,z=0∨z=1:=fun z hz=>by
 obtain ⟨b,_,rfl⟩:=List.mem_map.1 hz
 cases b
 ·exact .inl rfl
 ·exact .inr rfl
theorem KH {B:List Bool} : ∀ z∈C4 B,FZ z:=fun z hz=>by
 rcases M7 z hz with rfl|rfl<;>exact ⟨by omega,by omega⟩
theorem KG : ∀ B : List Bool,DC B≤B.length
 | []=>Nat.le_refl _
 | b::bs=>by
  have:=KG bs
  rw [DC,List.length_cons]
  split<;>omega
theorem GT : ∀ (B:List Bool) (r:Nat),(exF B r).length=B.length
 | [],_=>rfl
 | b::bs,r=>by rw [exF,List.length_cons,List.length_cons,GT bs]
theorem KL (p:Itm) : ∀ (B:List Bool) (xs:List Itm),(exI p B xs).length=B.length
 | [],_=>rfl
 | b::bs,xs=>by rw [exI,List.length_cons,List.length_cons,KL p bs]
theorem HA : ∀ (B:List Bool) (i:Nat),(Gc B i).length=DC B
 | [],_=>rfl
 | b::bs,i=>by
  rw [Gc,DC]
  split
  ·rw [List.length_cons,HA bs];omega
  ·rw [HA bs];omega
theorem PY : ∀ (B:List Bool) (i:Nat),∀ j∈Gc B i,j<i+B.length
 | [],_,j,h=>by cases h
 | b::bs,i,j,h=>by
  have ih:=PY bs (i+1)
  rw [List.length_cons]
  rw [Gc] at h
  split at h
  ·rcases List.mem_cons.1 h with rfl|h
   ·omega
   ·have:=ih j h;omega
  ·have:=ih j h;omega
theorem Om : ∀ (B:List Bool) (r:Nat),∀ k∈exF B r,-1≤k∧k<((r+DC B:Nat) : Int)
 | [],_,k,h=>by cases h
 | b::bs,r,k,h=>by
  rw [exF] at h
  rw [DC]
  cases b
  ·rcases List.mem_cons.1 h with rfl|h
   ·exact ⟨by simp,by simp;omega⟩
   ·have:=Om bs r k h
    simp only [Bool.false_eq_true,if_false];omega
  ·rcases List.mem_cons.1 h with rfl|h
   ·simp only [if_true];omega
   ·have:=Om bs (r+1) k h
    simp only [if_true];omega
theorem Lm {a:Arr} {p:Itm} : ∀ (B:List Bool) (r:Nat),r+DC B≤a.items.length→(exF B r).map (G4 a p)=exI p B (a.items.drop r)
 | [],_,_=>rfl
 | b::bs,r,h=>by
  rw [DC] at h
  cases b
  ·simp only [Bool.false_eq_true,if_false] at h
   rw [exF,exI,List.map_cons]
   simp only [Bool.false_eq_true,if_false]
   rw [Lm bs r (by omega)]
   rfl
  ·simp only [if_true] at h
   have hr:r<a.items.length:=by omega
   rw [exF,exI,List.map_cons]
   simp only [if_true]
   rw [Lm bs (r+1) (by omega),lC hr]
   unfold G4
   rw [if_pos (by omega),Int.toNat_natCast,lD,lG hr];rfl
theorem JM {p:Itm} : ∀ (B:List Bool) (i:Nat) (pre xs:List Itm),pre.length=i→DC B=xs.length→(Gc B i).map (fun j=>(pre++exI p B xs).getD j default)=xs
 | [],_,_,xs,_,h=>by
  have:xs=[]:=List.eq_nil_of_length_eq_zero h.symm
  rw [this];rfl
 | b::bs,i,pre,xs,hp,h=>by
  rw [DC] at h
  cases b
  ·simp only [Bool.false_eq_true,if_false] at h
   have:=JM (p:=p) bs (i+1) (pre++[p]) xs (by simp [hp]) (by omega)
   rw [Gc,exI]
   simp only [Bool.false_eq_true,if_false]
   rw [List.append_assoc] at this
   exact this
  ·simp only [if_true] at h
   obtain ⟨x,ys,rfl⟩:=List.exists_cons_of_ne_nil (l:=xs) (by intro e;rw [e] at h;simp at h)
   rw [List.length_cons] at h
   have:=JM (p:=p) bs (i+1) (pre++[x]) ys (by simp [hp]) (by omega)
   rw [Gc,exI]
   simp only [if_true]
   rw [List.map_cons]
   rw [List.append_assoc] at this
   show (pre++x::exI p bs ys).getD i default::(Gc bs (i+1)).map (fun j=>(pre++x::exI p bs ys).getD j default)=x::ys
   have e:(Gc bs (i+1)).map (fun j=>(pre++x::exI p bs ys).getD j default)=ys:=this
   rw [e,lD,List.getElem?_append_right (by omega),hp,Nat.sub_self];rfl
theorem L6 {n:Nat} {xs:List Itm} {fr:List Int} {p:Itm} (hp:CI (.mk [(n:Int)] xs)=some p) (hn:n≤4096) (hx:n≤xs.length) (h0:0<fr.length) (hm:fr.length≤4096) (hfr:∀ k∈fr,-1≤k∧k<(n:Int)) :
  C5 (.mk [(n:Int)] xs) 0 fr=AE [((fr.length:Nat):Int)] (fr.map (G4 (.mk [(n:Int)] xs) p)):=by
 have hpr:pr [fr.length]=fr.length:=by show fr.length * 1=_;omega
 have st:(HV [(n:Int)]).1=[1]:=rfl
 unfold C5
 rw [DH,Ju (by simp),oB,Js,oB,GE (by simp),oB,st]
 have hset:List.set [(n:Int)] (Int.toNat 0) ((List.length fr:Nat):Int)=[((fr.length:Nat):Int)]:=rfl
 rw [hset]
 have hb:=Qn (a:=.mk [(n:Int)] xs) (t:=[fr.length]) (J:=fun i=>fr.getD i 0) (F:=⟨.fn 168 [] [.ptr [.sl (Is fr)],.ptr [.i .i64 0],.ptr [.sl (Is [1])]],fun x=>Di x fr 0 [1]⟩) hp
  (fun x hx=>by rw [List.mem_singleton] at hx;omega) (by simp) (by rw [hpr];exact hm) (fun i hi=>by
   rw [hpr] at hi
   have ea:atN [fr.length] i=[i]:=by
    show [i / 1 % fr.length]=_
    rw [Nat.div_one,Nat.mod_eq_of_lt hi]
   have hg:fr.getD i 0=fr[i]:=by rw [lD,lG hi];rfl
   obtain ⟨k1,k2⟩:=hfr _ (List.getElem_mem hi)
   refine ⟨?_,by rw [hg];show fr[i]<(xs.length:Int);omega⟩
   rw [ea,hg]
   show Di [(i:Int)] fr 0 [1]=_
   unfold Di
   rw [Js,oB,CM hi,oB]
   by_cases hk:fr[i]<0
   ·rw [if_pos hk]
    have:fr[i]=-1:=by omega
    rw [this]
   ·have hpl:Cj [1] [(i:Int)]=some (i:Int):=by
     have:=RA (l:=[1]) (c:=[i]) (by simp) (by simp) (by simp) (by simp;omega)
     have ep:plN [1] [i]=i:=by show 1 * i+0=i;omega
     rw [ep] at this
     exact this
    rw [if_neg hk,hpl,oB,Js,oB,oB]
    generalize fr[i]=k at k1 k2 hk
    have e1:w64 (k-(i:Int))=k-(i:Int):=BP (by omega) (by omega)
    have e2:w64 (1 * (k-(i:Int)))=k-(i:Int):=by rw [Int.one_mul];exact BP (by omega) (by omega)
    have e3:w64 ((i:Int)+(k-(i:Int)))=k:=by rw [BP (by omega) (by omega)];omega
    rw [e1,e2,e3])
 rw [hpr] at hb
 have hmap:((List.range fr.length).map fun i=>G4 (.mk [(n:Int)] xs) p (fr.getD i 0))=fr.map (G4 (.mk [(n:Int)] xs) p):=by
  refine List.ext_getElem (by simp) fun i h1 h2=>?_
  have hi:i<fr.length:=by simpa using h1
  rw [List.getElem_map,List.getElem_range,List.getElem_map,lD,lG hi];rfl
 rw [hmap] at hb
 have key:∀ m o:Option (Arr×Int),m=o→(m.bind fun x24=>some (x24.1,x24.2))=o:=fun m o h=>by subst h;cases m<;>rfl
 exact key _ _ hb
theorem Of (A B:List Bool) : C4 (A++B)=C4 A++C4 B:=by simp [C4]
theorem LC {α:Type} {xs ys:List α} {y:α} {i:Nat} (h:xs.length=i) : rd? (xs++y::ys) (i:Int)=some y:=by
 refine TX ?_
 rw [List.getElem?_append_right (by omega),h,Nat.sub_self];rfl
theorem PB {α:Type} {xs ys:List α} {y z:α} {i:Nat} (h:xs.length=i) : (xs++y::ys).set i z=xs++z::ys:=by
 rw [List.set_append_right _ _ (by omega),h,Nat.sub_self];rfl
theorem Kf {B:List Bool} (h:B.length≤50) : BG (Ix (C4 B))=some (C4 B,0):=by
 unfold BG
 rw [if_neg (show ¬(1:Int)<(((Ix (C4 B)).shape.length:Nat):Int) by unfold Ix Fk;rw [DH];simp),LX KH,List.take_of_length_le (by rw [Bo];omega)];rfl
theorem M0 {B0:List Bool} (hB:B0.length≤50) (K:List Int→Int→Option (Arr×Int)) : ∀ (B pre:List Bool) (done:List Int) (r k:Nat),B0=pre++B→done.length=pre.length→r≤pre.length→B.length<k →
  Bn (C4 B0,0) K k (done++List.replicate B.length 0) (r:Int) (pre.length:Int)=K (done++exF B r) ((r+DC B:Nat):Int)
 | _,_,_,_,0,_,_,_,h=>by omega
 | [],pre,done,r,k+1,h0,_,_,_=>by
  rw [Bn,if_neg (by rw [Bo,h0];simp)]
  rfl
 | b::bs,pre,done,r,k+1,h0,hd,hr,hk=>by
  have hl:B0.length=pre.length+(bs.length+1):=by rw [h0];simp
  have hrow:C4 B0=C4 pre++bz b::C4 bs:=by rw [h0,Of];rfl
  have e1:rd? (C4 B0) (pre.length:Int)=some (bz b):=by rw [hrow];exact LC (Bo pre)
  have e2:List.replicate (b::bs).length (0:Int)=0::List.replicate bs.length 0:=rfl
  have hw:w64 ((pre.length:Int)+1)=(((pre++[b]).length:Nat):Int):=by rw [BP (by omega) (by omega)];simp
  rw [Bn,if_pos (by rw [Bo];omega),CW]
  show ((rd? (C4 B0) (pre.length:Int)).bind _)=_
  rw [e1,oB,e2,LC hd,oB,Int.toNat_natCast,PB hd]
  cases b
  ·rw [if_neg (by decide),hw]
   have:=M0 hB K bs (pre++[false]) (done++[-1]) r k (by rw [h0];simp) (by simp [hd]) (by simp;omega) (by simp at hk;omega)
   rw [List.append_assoc,List.append_assoc] at this
   refine Eq.trans this ?_
   rw [exF,DC]
   simp
  ·rw [if_pos (by decide),LC hd,oB,PB hd,hw]
   have hw2:w64 ((r:Int)+1)=((r+1:Nat):Int):=by rw [BP (by omega) (by omega)];omega
   rw [hw2]
   have:=M0 hB K bs (pre++[true]) (done++[(r:Int)]) (r+1) k (by rw [h0];simp) (by simp [hd]) (by simp;omega) (by simp at hk;omega)
   rw [List.append_assoc,List.append_assoc] at this
   refine Eq.trans this ?_
   rw [exF,DC]
   simp only [if_true]
   congr 1
   omega
theorem MW {B:List Bool} {xs:List Itm} (h:VR xs) (hB:B.length≤50) (hc:DC B=xs.length) : Bq (Ix (C4 B)) (vec xs) 0=AE [((B.length:Nat) : Int)] (exI (tyI (xs.headD default)) B xs):=by
 have h2:=h.2.1
 have hp:=h.pos
 have hcl:=KG B
 have hP:=Lo h.ok h.2.2.2
 have hany:(C4 B).any (fun z=>(!(decide (z=0)))&&(!(decide (z=1))))=false:=List.any_eq_false.2 fun z hz=>by
  rcases M7 z hz with rfl|rfl<;>decide
 unfold Bq
 rw [Kf hB,oB,if_pos rfl,DM (p:=fun z=>(!(decide (z=0)))&&(!(decide (z=1)))) (fun x _=>rfl) (by rw [Bo];omega),hany,oB,if_neg (by decide),TP (by rw [Bo];omega),oB,CW]
 have hrep:List.replicate (Int.toNat ((List.length (C4 B):Nat):Int)) (0:Int)=[]++List.replicate B.length 0:=by rw [Bo];rfl
 have hl:=fun K=>M0 hB K B [] [] 0 AK rfl rfl (Nat.le_refl _) (Ch (by omega))
 rw [show (([]:List Bool).length:Int)=0 from rfl,show ((0:Nat):Int)=0 from rfl] at hl
 rw [hrep,hl,List.nil_append]
 have hrow:Fg (vec xs) ((0+DC B:Nat):Int)=some (vec xs):=if_neg (by show ¬(((1:Nat):Int)=0);decide)
 rw [hrow,oB]
 have r1:rd? (vec xs).shape 0=some (xs.length:Int):=rfl
 rw [r1,oB,if_pos (by omega)]
 have ha:=L6 (n:=xs.length) (xs:=xs) (fr:=exF B 0) (p:=tyI (xs.headD default)) hP h2 (Nat.le_refl _) (by rw [GT];omega) (by rw [GT];omega) (fun k hk=>by have:=Om B 0 k hk;omega)
 rw [GT] at ha
 have hpk:=Lm (a:=.mk [(xs.length:Int)] xs) (p:=tyI (xs.headD default)) B 0 (by show 0+DC B≤xs.length;omega)
 rw [hpk] at ha
 have key:∀ m o:Option (Arr×Int),m=o→(m.bind fun x24=>some (x24.1,x24.2))=o:=fun m o h=>by subst h;cases m<;>rfl
 exact key _ _ ha
theorem ML {B0:List Bool} (hB:B0.length≤50) (K:Arr→Int→List Int→Option (Arr×Int)) : ∀ (B pre:List Bool) (acc:List Nat) (k:Nat),B0=pre++B→acc.length≤pre.length→B.length<k →
  Bg (C4 B0) K k (.mk [] []) 0 (up_ acc) (pre.length:Int)=K (.mk [] []) 0 (up_ (acc++Gc B pre.length))
 | _,_,_,0,_,_,h=>by omega
 | [],pre,acc,k+1,h0,_,_=>by
  rw [Bg,if_neg (by rw [Bo,h0];simp),Gc,List.append_nil]
 | b::bs,pre,acc,k+1,h0,hd,hk=>by
  have hl:B0.length=pre.length+(bs.length+1):=by rw [h0];simp
  have hrow:C4 B0=C4 pre++bz b::C4 bs:=by rw [h0,Of];rfl
  have e1:rd? (C4 B0) (pre.length:Int)=some (bz b):=by rw [hrow];exact LC (Bo pre)
  have hw:w64 ((pre.length:Int)+1)=(((pre++[b]).length:Nat):Int):=by rw [BP (by omega) (by omega)];simp
  have hw2:w64 (4096-((List.length (up_ acc):Nat):Int))=4096-(acc.length:Int):=by rw [BR];exact BP (by omega) (by omega)
  rw [Bg,if_pos (by rw [Bo];omega),e1,oB,hw2,hw]
  cases b
  ·have r0:Ow [(pre.length:Int)] (bz false)=some []:=rfl
   rw [if_neg (by show ¬(4096-(acc.length:Int)<0);omega),r0,oB,Gk (by rw [BR];simp;omega),oB,List.append_nil]
   have:=ML hB K bs (pre++[false]) acc k (by rw [h0];simp) (by simp;omega) (by simp at hk;omega)
   refine Eq.trans this ?_
   rw [Gc]
   simp
  ·have r1:Ow [(pre.length:Int)] (bz true)=some [(pre.length:Int)]:=rfl
   rw [if_neg (by show ¬(4096-(acc.length:Int)<1);omega),r1,oB,Gk (by rw [BR];simp;omega),oB]
   have:=ML hB K bs (pre++[true]) (acc++[pre.length]) k (by rw [h0];simp) (by simp;omega) (by simp at hk;omega)
   have eu:up_ (acc++[pre.length])=up_ acc++[(pre.length:Int)]:=by simp [up_]
   rw [eu] at this
   refine Eq.trans this ?_
   rw [Gc]
   simp
theorem KR {B:List Bool} {E:List Itm} (h:VR E) (hB:B.length≤50) (hc:0<DC B) (hE:E.length=B.length) : Be (Ix (C4 B)) (vec E) 0=AE [((DC B:Nat) : Int)] ((Gc B 0).map fun j=>E.getD j default):=by
 have h2:=h.2.1
 have hp:=h.pos
 have hcl:=KG B
 have hP:=Lo h.ok h.2.2.2
 have hany:(C4 B).any (fun z=>decide (z<0))=false:=List.any_eq_false.2 fun z hz=>by
  rcases M7 z hz with rfl|rfl<;>decide
 have r1:rd? (vec E).shape 0=some (E.length:Int):=rfl
 have hrow:Fg (vec E) ((List.length (C4 B):Nat):Int)=some (vec E):=if_neg (by show ¬(((1:Nat):Int)=0);decide)
 unfold Be
 rw [Kf hB,oB,if_pos rfl,hrow,oB,CW]
 have hk:∀ K0:List Int→Option (Arr×Int),(if ((List.length (C4 B):Nat):Int)=1 then ((rd? (vec E).shape 0).bind fun x4=>((Ow (C4 B) x4).bind fun x5=>(K0 x5))) else (K0 (C4 B)))=K0 (C4 B):=by
  intro K0
  by_cases h1:((List.length (C4 B):Nat):Int)=1
  ·rw [if_pos h1,r1,oB]
   have hl1:(C4 B).length=1:=by omega
   obtain ⟨z,hz⟩:=List.length_eq_one_iff.1 hl1
   have hE1:(E.length:Int)=1:=by rw [hE];rw [Bo] at hl1;omega
   rw [hz,hE1]
   rfl
  ·rw [if_neg h1]
 refine Eq.trans (hk _) ?_
 rw [r1,oB,if_pos (by rw [Bo,hE]),DM (p:=fun z=>decide (z<0)) (fun x _=>rfl) (by rw [Bo];omega),hany,oB,if_neg (by decide),CW]
 have hl:=fun K=>ML hB K B [] [] AK rfl (Nat.le_refl _) (Ch (by omega))
 rw [show (([]:List Bool).length:Int)=0 from rfl,show up_ []=[] from rfl] at hl
 rw [hl,List.nil_append]
 have hul:(up_ (Gc B 0)).length=DC B:=by rw [BR,HA]
 have ha:=L6 (n:=E.length) (xs:=E) (fr:=up_ (Gc B 0)) (p:=tyI (E.headD default)) hP h2 (Nat.le_refl _) (by omega) (by omega) (fun k hk=>by
  obtain ⟨j,hj,rfl⟩:=List.mem_map.1 hk
  have:=PY B 0 j hj
  omega)
 rw [hul] at ha
 have hmap:(up_ (Gc B 0)).map (G4 (.mk [(E.length:Int)] E) (tyI (E.headD default)))=(Gc B 0).map fun j=>E.getD j default:=by
  unfold up_
  rw [List.map_map]
  refine List.map_congr_left fun j _=>?_
  show G4 _ _ (j:Int)=_
  unfold G4
  rw [if_pos (by omega),Int.toNat_natCast]
  rfl
 rw [hmap] at ha
 have key:∀ m o:Option (Arr×Int),m=o→(m.bind fun x24=>some (x24.1,x24.2))=o:=fun m o h=>by subst h;cases m<;>rfl
 exact key _ _ ha
def rb (m:Nat) : List Bool→Nat→List Bool
 | [],_=>[]
 | b::bs,n=>(b&&decide (n<m))::rb m bs (if (b&&decide (n<m))=true then n+1 else n)
theorem L5 (m:Nat) : ∀ (bs:List Bool) (n:Nat),(rb m bs n).length=bs.length
 | [],_=>rfl
 | b::bs,n=>by rw [rb,List.length_cons,List.length_cons,L5 m bs]
theorem Oq (m:Nat) : ∀ (bs:List Bool) (n:Nat),n≤m→n+DC (rb m bs n)≤m
 | [],n,h=>h
 | b::bs,n,h=>by
  rw [rb,DC]
  by_cases hc:(b&&decide (n<m))=true
  ·have hn:n<m:=by rw [Bool.and_eq_true,decide_eq_true_eq] at hc;exact hc.2
   rw [if_pos hc]
   have:=Oq m bs (n+1) hn
   rw [if_pos hc];omega
  ·rw [if_neg hc,if_neg hc]
   have:=Oq m bs n h
   omega
def Bls (xs:List Bool) : List DV:=xs.map .b
theorem OW (xs:List Bool) : (Bls xs).length=xs.length:=by simp [Bls]
theorem Vc {xs:List Bool} {i:Nat} {x:Bool} (h:xs[i]?=some x) : (Bls xs)[i]?=some (.b x):=by simp [Bls,h]
theorem Tl (xs:List Bool) : ∀ x∈Bls xs,x.cells.length=1:=fun x hx=>by
 simp only [Bls,List.mem_map] at hx
 obtain ⟨b,_,rfl⟩:=hx;rfl
theorem UA (xs:List Bool) : ∃ sz,∀ x∈Bls xs,x.cells.length=sz:=⟨1,Tl xs⟩
theorem UB : CR Tryz.prog 22=some (4,1,1):=by kernel_rfl
theorem UG : Tryz.prog.underlying 22=some (.slice (Tryz.prog.elem 22)):=by kernel_rfl
end Go.FL
namespace Go.FL
open Go Go.RowKit Go.ChangeShapes Go.WideShapes Go.ChangeAt
section
variable {H:Type}
def OpF (enc:TypeId×Value→H) (P:Program) (W:World) (n:Nat) (t:TypeId) {α:Type} (F:α→List DV) (Q:α→Prop) : Prop :=
 ∀ (fuel:Nat) (cs:List Value) (x:DataW H×List MemPlace),fuel≤n→DataW.trod enc P W 0 (fun _=>true) true fuel t cs=some x→(∀ m∈DataW.weights P t x.1,m≤reachBytes) →
  ∃ a,Q a∧RepAll W (fun b=>b<W.heap.size) (F a) cs∧∀ u∈cs,u.oneCell'=true
variable {enc:TypeId×Value→H} {P:Program} {W:World}
theorem OpF.mono {n m t:Nat} {α:Type} {F:α→List DV} {Q:α→Prop} (h:OpF enc P W n t F Q) (hm:m≤n) : OpF enc P W m t F Q:=fun fuel cs x hf=>h fuel cs x (by omega)
theorem OpF.map {n t:Nat} {α β:Type} {F:α→List DV} {Q:α→Prop} {G:β→List DV} {R:β→Prop} (h:OpF enc P W n t F Q) (f:∀ a,Q a→∃ b,R b∧F a=G b) : OpF enc P W n t G R:=fun fuel cs x hf h1 h2=>by
 obtain ⟨a,q,r,c⟩:=h fuel cs x hf h1 h2
 obtain ⟨b,rb,e⟩:=f a q
 exact ⟨b,rb,e▸r,c⟩
theorem MO {n t:Nat} {k:IntKind} (ht:P.underlying t=some (.int k)) : OpF enc P W n t (fun z:Int=>[.i k z]) (fun z=>(Lit.int k z).wf=true):=fun fuel cs x _ h _=>by
 obtain ⟨z,rfl,_,hw⟩:=DataW.trod_int ht h
 exact ⟨z,hw,.cons (.i _ _) .nil,by simp [Value.oneCell']⟩
theorem P4 {n t:Nat} (ht:P.underlying t=some .bool) : OpF enc P W n t (fun z:Bool=>[.b z]) (fun _=>True):=fun fuel cs x _ h _=>by
 obtain ⟨z,rfl,_⟩:=DataW.trod_bool ht h
 exact ⟨z,trivial,.cons (.b _) .nil,by simp [Value.oneCell']⟩
theorem Hl {e:TypeId} : ∀ {ds:List (DataW H)} {d:DataW H},d∈ds→∀ q∈DataW.weights P e d,q∈DataW.weightsAll P e ds
 | d::ds,d',hd,q,hq=>by
  rw [DataW.weightsAll,List.mem_append]
  rcases List.mem_cons.1 hd with rfl|hd
  ·exact .inl hq
  ·exact .inr (Hl hd q hq)
theorem Hv {n t e sz:Nat} {α:Type} {F:α→List DV} {Q:α→Prop} (D:α→DV) (ht:P.underlying t=some (.slice e)) (hs:P.cellsOf e=sz) (h0:0<sz) (hD:∀ a,(D a).cells=F a) (h:OpF enc P W n e F Q) :
  OpF enc P W (n+1) t (fun xs:List α=>[.sl (xs.map D)]) (fun xs=>(∀ x∈xs,Q x)∧xs.length * P.bytesOf e≤reachBytes):=by
 intro fuel cs x hf hx hw
 rcases DataW.trod_slice ht hx with ⟨rfl,rfl⟩|⟨a,len,cap,elems,rest,m,rfl,rfl,rfl,hb,hl,hm,hlen,hel,_,_⟩
 ·exact ⟨[],⟨by simp,by simp⟩,.cons (.sl0 _ _) .nil,by simp [Value.oneCell']⟩
 ·simp only [DataW.weights,ht] at hw
  have hroom:(elems.length+rest.length) * P.bytesOf e≤reachBytes:=by
   have:=hw ((elems.length+rest.length) * P.bytesOf e) (by simp)
   exact this
  have each:∀ i,i<len→∃ vs y,W.cells? 0 (a.add (i * P.cellsOf e)) (P.cellsOf e)=some vs∧DataW.trod enc P W 0 (fun _=>true) true m e vs=some y∧∀ q∈DataW.weights P e y.1,q≤reachBytes:=by
   intro i hi
   have h1:=hel i hi
   rw [lG (show i<elems.length by omega)] at h1
   obtain ⟨vs,h2,h3⟩:=Option.bind_eq_some_iff.1 h1
   refine ⟨vs,_,h2,h3,fun q hq=>hw q ?_⟩
   simp only [List.mem_cons,List.mem_append]
   exact .inr (.inl (Hl (d:=(elems[i]'(by omega)).1) (List.mem_map_of_mem (List.getElem_mem _)) q hq))
  by_cases hlen0:len=0
  ·subst hlen0
   exact ⟨[],⟨by simp,by simp⟩,.cons (.sl0 _ _) .nil,by simp [Value.oneCell']⟩
  ·obtain ⟨b,off,spot⟩:=a
   have hspot:spot=none:=by
    obtain ⟨vs,y,h1,_,_⟩:=each 0 (by omega)
    obtain ⟨_,k2,k3⟩:=World.cells?_some h1
    have h4:=k3 0 (by omega)
    rw [lG (show 0<vs.length by omega)] at h4
    simpa [Addr.add] using World.cell?_spot h4
   subst hspot
   have build:∀ j,j≤len→∃ (xs:List α) (vs:List Value),xs.length=j∧(∀ x∈xs,Q x)∧Has W b off vs∧RepRows W (fun b=>b<W.heap.size) sz (xs.map D) vs:=by
    intro j
    induction j with
    | zero=>exact fun _=>⟨[],[],rfl,by simp,fun j u hj=>by simp at hj,.nil _⟩
    | succ j ih =>
     intro hj
     obtain ⟨xs,vs,k1,k2,k3,k4⟩:=ih (by omega)
     obtain ⟨us,y,g1,g2,g3⟩:=each j (by omega)
     obtain ⟨_,g4,g5⟩:=World.cells?_some g1
     obtain ⟨x,q1,q2,q3⟩:=h m us y (by omega) g2 g3
     have hvl:=k4.length
     rw [List.length_map,k1] at hvl
     refine ⟨xs++[x],vs++us,by simp [k1],?_,?_,?_⟩
     ·intro z hz
      rcases List.mem_append.1 hz with hz|hz
      ·exact k2 z hz
      ·simp at hz;subst hz;exact q1
     ·intro i u hi
      rw [List.getElem?_append] at hi
      split at hi
      ·exact k3 i u hi
      ·rename_i hge
       have:=g5 (i-vs.length) (by have:=(lS.1 hi).1;omega)
       rw [hi] at this
       rw [← this,hs]
       have e1:off+i=off+j * sz+(i-vs.length):=by omega
       rw [e1,add_plain,add_plain]
     ·rw [List.map_append]
      refine k4.append ?_
      have:=RepRows.cons (sz:=sz) (x:=D x) (xs:=[]) (us:=us) (vs:=[]) (by omega) q3 (by rw [hD];exact q2) (.nil sz)
      simpa using this
   obtain ⟨xs,vs,k1,k2,k3,k4⟩:=build len (Nat.le_refl _)
   have hne:xs≠[]:=fun h=>by subst h;simp at k1;omega
   have hlt:b<W.heap.size:=by
    obtain ⟨us,y,g1,_,_⟩:=each 0 (by omega)
    have:=World.cells?_block g1 (by omega)
    rwa [add_plain] at this
   refine ⟨xs,⟨k2,nT (Nat.mul_le_mul_right _ (by omega)) hroom⟩,.cons ?_ .nil,by simp [Value.oneCell']⟩
   have:=Rep.sl (w:=W) (I:=fun b=>b<W.heap.size) (xs.map D) b off sz cap vs (by simpa using hne) (by rw [List.length_map,k1];exact hl) hlt h0 k3 k4
   rwa [List.length_map,k1] at this
def fTO (P:Program) (t:TypeId) : Option (List (TypeId×Nat)):=match P.underlying t with
 | some (.struct fs)=>some (fs.toList.map fun f=>(f.type,f.offset))
 | _=>none
theorem K9 {t:Nat} {l:List (TypeId×Nat)} (h:fTO P t=some l) : ∃ fs,P.underlying t=some (.struct fs)∧fs.toList.map (fun f=>(f.type,f.offset))=l:=by
 unfold fTO at h
 split at h
 ·rename_i fs hu;exact ⟨fs,hu,oI h⟩
 ·cases h
theorem OM {α0 α1:Type} {t n:Nat} {T0 s0:Nat} {F0:α0→List DV} {Q0:α0→Prop} {T1 s1:Nat} {F1:α1→List DV} {Q1:α1→Prop} (ht:fTO P t=some [(T0,0),(T1,s0)]) (hc:P.cellsOf t=s0+s1) (z0:P.cellsOf T0=s0) (h0:OpF enc P W n T0 F0 Q0) (z1:P.cellsOf T1=s1) (h1:OpF enc P W n T1 F1 Q1) :
  OpF enc P W (n+1) t (fun a:α0×α1=>F0 a.1++(F1 a.2)) (fun a=>Q0 a.1∧Q1 a.2):=by
 intro fuel cs x hf h hw
 obtain ⟨fs,hu,hfs⟩:=K9 ht
 obtain ⟨xs,m,rfl,rfl,hl,hlen,hfield⟩:=DataW.trod_struct hu h
 have hsz:fs.size=2:=by have:=congrArg List.length hfs;simpa using this
 have hm:m≤n:=by omega
 have each:∀ (i T off:Nat),[(T0,0),(T1,s0)][i]?=some (T,off)→∃ y,DataW.trod enc P W 0 (fun _=>true) true m T ((cs.drop off).take (P.cellsOf T))=some y∧∀ q∈DataW.weights P T y.1,q≤reachBytes:=by
  intro i T off hi
  rw [← hfs] at hi
  obtain ⟨f,hf1,hf2⟩:∃ f,fs[i]?=some f∧(f.type,f.offset)=(T,off):=by
   rw [List.getElem?_map,Option.map_eq_some_iff] at hi
   obtain ⟨f,h1,h2⟩:=hi
   exact ⟨f,by simpa using h1,h2⟩
  cases hf2
  have hi2:i<xs.length:=by have:=(Array.getElem?_eq_some_iff.1 hf1).1;omega
  refine ⟨xs[i],by rw [hfield i f hf1,lG hi2],fun q hq=>hw q ?_⟩
  simp only [DataW.weights,hu]
  exact DataW.weights_mem_each (j:=i) (by simp [hf1]) (by simp [hi2]) q hq
 obtain ⟨y0,e0,w0⟩:=each 0 T0 (0) rfl
 obtain ⟨a0,q0,r0,c0⟩:=h0 m _ y0 hm e0 w0
 rw [z0] at r0 c0
 obtain ⟨y1,e1,w1⟩:=each 1 T1 (s0) rfl
 obtain ⟨a1,q1,r1,c1⟩:=h1 m _ y1 hm e1 w1
 rw [z1] at r1 c1
 have hcs:cs=(cs.drop (0)).take s0++(cs.drop (s0)).take s1:=by
  have hl2:cs.length=s0+s1:=by rw [hl,hc]
  clear each hfield h
  apply List.ext_getElem?
  intro j
  simp only [List.getElem?_append,List.getElem?_take,List.getElem?_drop,List.length_take,List.length_drop]
  repeat' split
  all_goals first|(congr 1;omega)|(rw [List.getElem?_eq_none (by omega)])
 refine ⟨(a0,a1),⟨q0,q1⟩,?_,?_⟩
 ·rw [hcs];exact (r0.append r1)
 ·intro u hu2
  rw [hcs] at hu2
  simp only [List.mem_append] at hu2
  rcases hu2 with hu2|hu2
  ·exact c0 u hu2
  ·exact c1 u hu2
theorem OP {α0 α1 α2:Type} {t n:Nat} {T0 s0:Nat} {F0:α0→List DV} {Q0:α0→Prop} {T1 s1:Nat} {F1:α1→List DV} {Q1:α1→Prop} {T2 s2:Nat} {F2:α2→List DV} {Q2:α2→Prop} (ht:fTO P t=some [(T0,0),(T1,s0),(T2,s0+s1)]) (hc:P.cellsOf t=s0+s1+s2) (z0:P.cellsOf T0=s0) (h0:OpF enc P W n T0 F0 Q0) (z1:P.cellsOf T1=s1) (h1:OpF enc P W n T1 F1 Q1) (z2:P.cellsOf T2=s2) (h2:OpF enc P W n T2 F2 Q2) :
  OpF enc P W (n+1) t (fun a:α0×α1×α2=>F0 a.1++(F1 a.2.1++(F2 a.2.2))) (fun a=>Q0 a.1∧Q1 a.2.1∧Q2 a.2.2):=by
 intro fuel cs x hf h hw
 obtain ⟨fs,hu,hfs⟩:=K9 ht
 obtain ⟨xs,m,rfl,rfl,hl,hlen,hfield⟩:=DataW.trod_struct hu h
 have hsz:fs.size=3:=by have:=congrArg List.length hfs;simpa using this
 have hm:m≤n:=by omega
 have each:∀ (i T off:Nat),[(T0,0),(T1,s0),(T2,s0+s1)][i]?=some (T,off)→∃ y,DataW.trod enc P W 0 (fun _=>true) true m T ((cs.drop off).take (P.cellsOf T))=some y∧∀ q∈DataW.weights P T y.1,q≤reachBytes:=by
  intro i T off hi
  rw [← hfs] at hi
  obtain ⟨f,hf1,hf2⟩:∃ f,fs[i]?=some f∧(f.type,f.offset)=(T,off):=by
   rw [List.getElem?_map,Option.map_eq_some_iff] at hi
   obtain ⟨f,h1,h2⟩:=hi
   exact ⟨f,by simpa using h1,h2⟩
  cases hf2
  have hi2:i<xs.length:=by have:=(Array.getElem?_eq_some_iff.1 hf1).1;omega
  refine ⟨xs[i],by rw [hfield i f hf1,lG hi2],fun q hq=>hw q ?_⟩
  simp only [DataW.weights,hu]
  exact DataW.weights_mem_each (j:=i) (by simp [hf1]) (by simp [hi2]) q hq
 obtain ⟨y0,e0,w0⟩:=each 0 T0 (0) rfl
 obtain ⟨a0,q0,r0,c0⟩:=h0 m _ y0 hm e0 w0
 rw [z0] at r0 c0
 obtain ⟨y1,e1,w1⟩:=each 1 T1 (s0) rfl
 obtain ⟨a1,q1,r1,c1⟩:=h1 m _ y1 hm e1 w1
 rw [z1] at r1 c1
 obtain ⟨y2,e2,w2⟩:=each 2 T2 (s0+s1) rfl
 obtain ⟨a2,q2,r2,c2⟩:=h2 m _ y2 hm e2 w2
 rw [z2] at r2 c2
 have hcs:cs=(cs.drop (0)).take s0++((cs.drop (s0)).take s1++(cs.drop (s0+s1)).take s2):=by
  have hl2:cs.length=s0+s1+s2:=by rw [hl,hc]
  clear each hfield h
  apply List.ext_getElem?
  intro j
  simp only [List.getElem?_append,List.getElem?_take,List.getElem?_drop,List.length_take,List.length_drop]
  repeat' split
  all_goals first|(congr 1;omega)|(rw [List.getElem?_eq_none (by omega)])
 refine ⟨(a0,a1,a2),⟨q0,q1,q2⟩,?_,?_⟩
 ·rw [hcs];exact (r0.append (r1.append r2))
 ·intro u hu2
  rw [hcs] at hu2
  simp only [List.mem_append] at hu2
  rcases hu2 with hu2|hu2|hu2
  ·exact c0 u hu2
  ·exact c1 u hu2
  ·exact c2 u hu2
theorem O0 {α0 α1 α2 α3:Type} {t n:Nat} {T0 s0:Nat} {F0:α0→List DV} {Q0:α0→Prop} {T1 s1:Nat} {F1:α1→List DV} {Q1:α1→Prop} {T2 s2:Nat} {F2:α2→List DV} {Q2:α2→Prop} {T3 s3:Nat} {F3:α3→List DV} {Q3:α3→Prop} (ht:fTO P t=some [(T0,0),(T1,s0),(T2,s0+s1),(T3,s0+s1+s2)]) (hc:P.cellsOf t=s0+s1+s2+s3) (z0:P.cellsOf T0=s0) (h0:OpF enc P W n T0 F0 Q0) (z1:P.cellsOf T1=s1) (h1:OpF enc P W n T1 F1 Q1) (z2:P.cellsOf T2=s2) (h2:OpF enc P W n T2 F2 Q2) (z3:P.cellsOf T3=s3) (h3:OpF enc P W n T3 F3 Q3) :
  OpF enc P W (n+1) t (fun a:α0×α1×α2×α3=>F0 a.1++(F1 a.2.1++(F2 a.2.2.1++(F3 a.2.2.2)))) (fun a=>Q0 a.1∧Q1 a.2.1∧Q2 a.2.2.1∧Q3 a.2.2.2):=by
 intro fuel cs x hf h hw
 obtain ⟨fs,hu,hfs⟩:=K9 ht
 obtain ⟨xs,m,rfl,rfl,hl,hlen,hfield⟩:=DataW.trod_struct hu h
 have hsz:fs.size=4:=by have:=congrArg List.length hfs;simpa using this
 have hm:m≤n:=by omega
 have each:∀ (i T off:Nat),[(T0,0),(T1,s0),(T2,s0+s1),(T3,s0+s1+s2)][i]?=some (T,off)→∃ y,DataW.trod enc P W 0 (fun _=>true) true m T ((cs.drop off).take (P.cellsOf T))=some y∧∀ q∈DataW.weights P T y.1,q≤reachBytes:=by
  intro i T off hi
  rw [← hfs] at hi
  obtain ⟨f,hf1,hf2⟩:∃ f,fs[i]?=some f∧(f.type,f.offset)=(T,off):=by
   rw [List.getElem?_map,Option.map_eq_some_iff] at hi
   obtain ⟨f,h1,h2⟩:=hi
   exact ⟨f,by simpa using h1,h2⟩
  cases hf2
  have hi2:i<xs.length:=by have:=(Array.getElem?_eq_some_iff.1 hf1).1;omega
  refine ⟨xs[i],by rw [hfield i f hf1,lG hi2],fun q hq=>hw q ?_⟩
  simp only [DataW.weights,hu]
  exact DataW.weights_mem_each (j:=i) (by simp [hf1]) (by simp [hi2]) q hq
 obtain ⟨y0,e0,w0⟩:=each 0 T0 (0) rfl
 obtain ⟨a0,q0,r0,c0⟩:=h0 m _ y0 hm e0 w0
 rw [z0] at r0 c0
 obtain ⟨y1,e1,w1⟩:=each 1 T1 (s0) rfl
 obtain ⟨a1,q1,r1,c1⟩:=h1 m _ y1 hm e1 w1
 rw [z1] at r1 c1
 obtain ⟨y2,e2,w2⟩:=each 2 T2 (s0+s1) rfl
 obtain ⟨a2,q2,r2,c2⟩:=h2 m _ y2 hm e2 w2
 rw [z2] at r2 c2
 obtain ⟨y3,e3,w3⟩:=each 3 T3 (s0+s1+s2) rfl
 obtain ⟨a3,q3,r3,c3⟩:=h3 m _ y3 hm e3 w3
 rw [z3] at r3 c3
 have hcs:cs=(cs.drop (0)).take s0++((cs.drop (s0)).take s1++((cs.drop (s0+s1)).take s2++(cs.drop (s0+s1+s2)).take s3)):=by
  have hl2:cs.length=s0+s1+s2+s3:=by rw [hl,hc]
  clear each hfield h
  apply List.ext_getElem?
  intro j
  simp only [List.getElem?_append,List.getElem?_take,List.getElem?_drop,List.length_take,List.length_drop]
  repeat' split
  all_goals first|(congr 1;omega)|(rw [List.getElem?_eq_none (by omega)])
 refine ⟨(a0,a1,a2,a3),⟨q0,q1,q2,q3⟩,?_,?_⟩
 ·rw [hcs];exact (r0.append (r1.append (r2.append r3)))
 ·intro u hu2
  rw [hcs] at hu2
  simp only [List.mem_append] at hu2
  rcases hu2 with hu2|hu2|hu2|hu2
  ·exact c0 u hu2
  ·exact c1 u hu2
  ·exact c2 u hu2
  ·exact c3 u hu2
theorem NU {t:TypeId} {v:Value} {d:DataW H} {ps:List MemPlace} {α:Type} {D:α→DV} {Q:α→Prop} (h:∀ n,OpF enc P W n t (fun a=>[D a]) Q) (hv:v.cells.toList=[v])
  (hd:DataW.Trod enc P W 0 (fun _=>true) true t v d ps) (hw:∀ m∈DataW.weights P t d,m≤reachBytes):∃ a,Q a∧Rep W (fun b=>b<W.heap.size) (D a) v:=by
 obtain ⟨fuel,hf⟩:=hd
 obtain ⟨a,q,r,_⟩:=h fuel fuel _ _ (Nat.le_refl _) hf hw
 rw [hv] at r
 cases r with
 | cons r _=>exact ⟨a,q,r⟩
end
end Go.FL
namespace Go.FL
open Go Go.Proofs
section
variable {H:Type} {enc:TypeId×Value→H} {W:World}
theorem QT {n:Nat} : OpF enc Tryz.prog W (n+1) 32 (fun a:List Nat=>[.sl (L a)]) (fun a=>okL 35184372087808 a=true):=by
 refine (Hv (α:=Int) (F:=fun z=>[.i .u32 z]) (sz:=1) (fun z=>.i .u32 z) (by kernel_rfl:Tryz.prog.underlying 32=some (.slice 128)) (by kernel_rfl) (by decide) (fun _=>rfl) (MO (by kernel_rfl))).map fun zs hz=>?_
 obtain ⟨a,h1,h2⟩:=Oa zs hz.1
 refine ⟨a,IM.2 ⟨h1,?_⟩,by rw [← h2]⟩
 have h3:=hz.2
 rw [show Tryz.prog.bytesOf 128=4 by kernel_rfl,show reachBytes=140737488351232 by decide] at h3
 have:=congrArg List.length h2
 rw [List.length_map,Ae] at this
 omega
theorem Nr (n:Nat) : OpF enc Tryz.prog W n 32 (fun a:List Nat=>[.sl (L a)]) (fun a=>okL 35184372087808 a=true):=QT.mono (Nat.le_succ n)
theorem UN (n:Nat) : OpF enc Tryz.prog W n 34 (fun r:RT=>[.b r.1,.sl (L r.2.1),.sl (L r.2.2)]) (fun r=>Jz r=true):=by
 refine OpF.mono (n:=n+1) ((OP (t:=34) (T0:=4) (T1:=32) (T2:=32) (s0:=1) (s1:=1) (s2:=1) (by kernel_rfl) (by kernel_rfl) (by kernel_rfl) (P4 (by kernel_rfl)) (by kernel_rfl) (Nr n) (by kernel_rfl) (Nr n)).map fun r hr=>?_) (Nat.le_succ n)
 exact ⟨r,by rw [Jz,hr.2.1,hr.2.2];rfl,rfl⟩
end
section
variable {H:Type} {enc:TypeId×Value→H} {W:World}
theorem RY {n:Nat} : OpF enc Tryz.prog W (n+1) 24 (fun l:List Int=>[.sl (Is l)]) (fun l=>(∀ z∈l,-9223372036854775808≤z∧z≤9223372036854775807)∧l.length≤17592186044416):=by
 refine (Hv (α:=Int) (F:=fun z=>[.i .i64 z]) (sz:=1) (fun z=>.i .i64 z) (by kernel_rfl:Tryz.prog.underlying 24=some (.slice 3)) (by kernel_rfl) (by decide) (fun _=>rfl) (MO (by kernel_rfl))).map fun zs hz=>?_
 refine ⟨zs,⟨fun z h=>?_,?_⟩,rfl⟩
 ·have:=hz.1 z h
  simp [Lit.wf,IntKind.min,IntKind.max,IntKind.signed,IntKind.bits] at this
  omega
 ·have h3:=hz.2
  rw [show Tryz.prog.bytesOf 3=8 by kernel_rfl,show reachBytes=140737488351232 by decide] at h3
  omega
theorem TM (n:Nat) : OpF enc Tryz.prog W n 24 (fun l:List Int=>[.sl (Is l)]) (fun l=>(∀ z∈l,-9223372036854775808≤z∧z≤9223372036854775807)∧l.length≤17592186044416):=RY.mono (Nat.le_succ n)
def cI6 (x:Itm) : List DV:=[.i .u8 x.kind,.b x.num.1,.sl (L x.num.2.1),.sl (L x.num.2.2),.i .i32 x.char,.sl (Ars x.box)]
def cA2 (a:Arr) : List DV:=[.sl (Is a.shape),.sl (Its a.items)]
theorem Sq {n:Nat} (h:OpF enc Tryz.prog W n 27 cA2 okAr) : OpF enc Tryz.prog W (n+1) 56 (fun l:List Arr=>[.sl (Ars l)]) (fun l=>l.length≤2932031007402∧∀ a∈l,okAr a):=by
 refine (Hv (α:=Arr) (F:=cA2) (sz:=2) Arr.dv (by kernel_rfl:Tryz.prog.underlying 56=some (.slice 27)) (by kernel_rfl) (by decide) (fun a=>by rw [Arr.dv_eq];rfl) h).map fun zs hz=>?_
 refine ⟨zs,⟨?_,hz.1⟩,by rw [FE]⟩
 have h3:=hz.2
 rw [show Tryz.prog.bytesOf 27=48 by kernel_rfl,show reachBytes=140737488351232 by decide] at h3
 omega
theorem Mt {n:Nat} (h:OpF enc Tryz.prog W n 58 cI6 okI) : OpF enc Tryz.prog W (n+1) 23 (fun l:List Itm=>[.sl (Its l)]) (fun l=>l.length≤1466015503701∧∀ x∈l,okI x):=by
 refine (Hv (α:=Itm) (F:=cI6) (sz:=6) Itm.dv (by kernel_rfl:Tryz.prog.underlying 23=some (.slice 58)) (by kernel_rfl) (by decide) (fun a=>by rw [Itm.dv_eq];rfl) h).map fun zs hz=>?_
 refine ⟨zs,⟨?_,hz.1⟩,by rw [ET]⟩
 have h3:=hz.2
 rw [show Tryz.prog.bytesOf 58=96 by kernel_rfl,show reachBytes=140737488351232 by decide] at h3
 omega
theorem Pa : ∀ n,OpF enc Tryz.prog W n 58 cI6 okI∧OpF enc Tryz.prog W n 27 cA2 okAr
 | 0=>by
  constructor <;>
  ·intro fuel cs x hf h _
   obtain rfl:fuel=0:=by omega
   simp [DataW.trod] at h
 | n+1=>by
  obtain ⟨hI,hA⟩:=Pa n
  constructor
  ·refine OpF.mono (n:=n+1+1) ((O0 (t:=58) (T0:=55) (T1:=34) (T2:=21) (T3:=56) (s0:=1) (s1:=3) (s2:=1) (s3:=1) (by kernel_rfl) (by kernel_rfl) (by kernel_rfl) (MO (by kernel_rfl:Tryz.prog.underlying 55=some (.int .u8))) (by kernel_rfl) (UN (n+1)) (by kernel_rfl) (MO (by kernel_rfl:Tryz.prog.underlying 21=some (.int .i32))) (by kernel_rfl) (Sq hA)).map fun r hr=>?_) (Nat.le_succ _)
   obtain ⟨k,q,c,b⟩:=r
   obtain ⟨h1,h2,h3,h4⟩:=hr
   refine ⟨.mk k q c b,?_,rfl⟩
   rw [ER]
   refine ⟨?_,h2,?_,h4⟩
   ·simp [Lit.wf,IntKind.min,IntKind.max,IntKind.signed,IntKind.bits] at h1
    show 0≤k∧k<256
    omega
   ·simp [Lit.wf,IntKind.min,IntKind.max,IntKind.signed,IntKind.bits] at h3
    show -2147483648≤c∧c<2147483648
    omega
  ·refine OpF.mono (n:=n+1+1) ((OM (t:=27) (T0:=24) (T1:=23) (s0:=1) (s1:=1) (by kernel_rfl) (by kernel_rfl) (by kernel_rfl) (TM (n+1)) (by kernel_rfl) (Mt hI)).map fun r hr=>?_) (Nat.le_succ _)
   obtain ⟨s,i⟩:=r
   obtain ⟨⟨h1,h2⟩,h3,h4⟩:=hr
   refine ⟨.mk s i,?_,rfl⟩
   rw [BN]
   exact ⟨h1,h2,h3,h4⟩
theorem Rl (n:Nat) : OpF enc Tryz.prog W n 23 (fun l:List Itm=>[.sl (Its l)]) (fun l=>l.length≤1466015503701∧∀ x∈l,okI x):=(Mt (Pa n).1).mono (Nat.le_succ n)
end
end Go.FL
namespace Go.FL
open Go Go.Proofs Go.DataW
section
variable {H:Type} {enc:TypeId×Value→H} {W:World}
theorem Sp (n:Nat) : OpF enc Tryz.prog W n 22 (fun l:List Bool=>[.sl (Bls l)]) (fun l=>l.length≤140737488355328):=by
 refine OpF.mono (n:=n+1) ((Hv (α:=Bool) (F:=fun z=>[.b z]) (sz:=1) (fun z=>.b z) (by kernel_rfl:Tryz.prog.underlying 22=some (.slice 4)) (by kernel_rfl) (by decide) (fun _=>rfl) (P4 (by kernel_rfl))).map fun zs hz=>?_) (Nat.le_succ _)
 refine ⟨zs,?_,rfl⟩
 have h3:=hz.2
 rw [show Tryz.prog.bytesOf 4=1 by kernel_rfl,show reachBytes=140737488351232 by decide] at h3
 omega
end
end Go.FL
