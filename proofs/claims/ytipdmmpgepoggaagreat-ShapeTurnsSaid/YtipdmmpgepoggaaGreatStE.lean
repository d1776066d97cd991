/-
  Part 5 of the base of the proofs: a logic of our own over the calculus, the contracts of the functions
-/
import Derived.Test.YtipdmmpgepoggaaGreatStD
set_option linter.unusedVariables false
namespace Go.FL
open Go Go.Proofs
def Cb (a0:(List Int)) (K0:Int→Int→Bool→Bool→Option (Int×Int)) : Nat→Int→Int→Bool→Bool→Int→Option (Int×Int)
 | 0,_,_,_,_,_=>none
 | k+1,s5,s6,s7,s8,s9=>(if s9<((List.length a0:Nat):Int) then ((rd? a0 s9).bind fun x10=>(if x10<0 then (some (0,3)) else (Option.bind ((if s7=true then (some true) else ((rd? a0 s9).bind fun x12=>(some (decide (x12=0))))):Option (Bool)) fun (z11:Bool)=>(if s8=true then (Cb a0 K0 k s5 s6 z11 true (w64 (s9+1))) else ((rd? a0 s9).bind fun x13=>(Cb a0 K0 k s5 s6 z11 (decide (4096<x13)) (w64 (s9+1)))))))) else (K0 s5 s6 s7 s8))
def CE (a0:(List Int)) (K2:Int→Int→Int→Option (Int×Int)) : Nat→Int→Int→Int→Int→Option (Int×Int)
 | 0,_,_,_,_=>none
 | k+1,s17,s18,s19,s20=>(if s20<((List.length a0:Nat):Int) then ((rd? a0 s20).bind fun x21=>(if 4096<(w64 (s19 * x21)) then (some (0,8)) else ((rd? a0 s20).bind fun x22=>(CE a0 K2 k s17 s18 (w64 (s19 * x22)) (w64 (s20+1)))))) else (K2 s17 s18 s19))
def Ex (a0:(List Int)) : Option (Int×Int):=(if 8<((List.length a0:Nat) : Int) then (some (0,4)) else (jn (fun (z1:Int) (z2:Int) (z3:Bool) (z4:Bool)=>(if z4=true then (some (0,8)) else (if z3=true then (some (0,0)) else (jn (fun (z14:Int) (z15:Int) (z16:Int)=>(some (z16,0))) fun K2=>(CE a0 K2 AQ z1 z2 1 0))))) fun K0=>(Cb a0 K0 AQ 0 0 false false 0)))
theorem LN {a0:(List Int)} {r:Int×Int} (h:Ex a0=some r) :
  Fn Tryz.prog 98 [.sl (Is a0)] (.tup [.d (.i .i64 r.1),.d (.i .i64 r.2)]):=by
 unfold Ex at h
 refine Fn.of (rs:=[.tmp 2,.tmp 3]) (nt:=61) Tryz.func98 rfl rfl rfl (by simp) rfl ?_;refine .sr ?_;refine asd ?_;refine ar [0,2,3] ?_;refine .seq ?_;refine .sr ?_;refine vk (Aa) ?_;refine vk (A2 (Ag _) (Bt _) Bk) ?_;refine vk (vbi) ?_;refine rk [0,2,3,11] ?_
 rcases brc h with ⟨hc,h⟩|⟨hc,h⟩
 ·refine cnt (dT hc) ?_
  refine .sr ?_;refine asd ?_;refine ar [0,2,3] ?_;refine .ret ?_
  cases h
  exact ⟨by decide,rfl,rfl,rfl⟩
 refine cnf (dF hc) ?_;refine .skip ?_
 show AW _ _ _ _ _ _
 refine .sr ?_;refine asd ?_;refine ar [0,2,3,4,5] ?_;refine .seq ?_;refine .sr ?_;refine ar [0,2,3,4,5,6] ?_
 obtain ⟨K0,hK0,h⟩:=AZ h
 refine AW.mr (σ:=Int×Int×Bool×Bool) (fun p=>K0 p.1 p.2.1 p.2.2.1 p.2.2.2=some r) (fun p=>[(0,.d (.sl (Is a0))),(2,.d (.i .i64 p.1)),(3,.d (.i .i64 p.2.1)),(4,.d (.b p.2.2.1)),(5,.d (.b p.2.2.2))]) (fun p=>[]) ?_ ?_
 ·skip
  refine .block ?_
  refine .loop (.gk [0,2,3,4,5,6] ?_)
  refine AL.ind (σ:=Nat×Int×Int×Bool×Bool×Int) (m:=fun p=>p.1) (e:=fun p=>[(0,.d (.sl (Is a0))),(2,.d (.i .i64 p.2.1)),(3,.d (.i .i64 p.2.2.1)),(4,.d (.b p.2.2.2.1)),(5,.d (.b p.2.2.2.2.1)),(6,.d (.i .i64 p.2.2.2.2.2))]) (h:=fun p=>[]) (I:=fun p=>Cb a0 K0 p.1 p.2.1 p.2.2.1 p.2.2.2.1 p.2.2.2.2.1 p.2.2.2.2.2=some r) ?_ (AQ,0,0,false,false,0) h
  rintro ⟨k,s5,s6,s7,s8,s9⟩ h ih
  dsimp only at h ih ⊢
  rcases k with _|k
  ·rw [Cb] at h;cases h
  rw [Cb] at h
  refine .seq ?_;refine .sr ?_;refine vk (Aa) ?_;refine vk (Aa) ?_;refine vk (A2 (Ag _) (Bt _) Bk) ?_;refine vk (vbi) ?_;refine rk [0,2,3,4,5,6,15] ?_
  rcases brc h with ⟨hc,h⟩|⟨hc,h⟩
  ·refine cnt (dT hc) ?_
   refine .skip ?_
   show AW _ _ _ _ _ _
   refine .seq ?_;refine .block ?_;refine .seq ?_;refine .sr ?_;refine vk (Aa) ?_;refine vk (Aa) ?_
   obtain ⟨x10,g10,h⟩:=bnd h
   obtain ⟨n10,p010,q10⟩:=Aj g10
   refine vk (vix n10 p010 (Bg q10) rfl Bc) ?_;refine vk (Ah AD) ?_;refine vk (vbi) ?_;refine rk [0,2,3,4,5,6,22] ?_
   rcases brc h with ⟨hc,h⟩|⟨hc,h⟩
   ·refine cnt (dT hc) ?_
    refine .sr ?_;refine asd ?_;refine ar [0,2,3,4,5,6] ?_;refine .ret ?_
    cases h
    exact ⟨by decide,rfl,rfl,rfl⟩
   refine cnf (dF hc) ?_;refine .skip ?_
   show AW _ _ _ _ _ _
   refine .seq ?_
   obtain ⟨z11,hz,h⟩:=bnd h
   refine AW.mr (σ:=Unit) (fun _=>True) (fun _=>[(0,.d (.sl (Is a0))),(2,.d (.i .i64 s5)),(3,.d (.i .i64 s6)),(4,.d (.b z11)),(5,.d (.b s8)),(6,.d (.i .i64 s9))]) (fun _=>[]) ?_ ?_
   ·skip
    refine .region ?_;refine vk (Aa) ?_
    rcases brc hz with ⟨hc,hz⟩|⟨hc,hz⟩
    ·have hb0:s7=true:=hc
     refine vk (VOK.lit (Aa) hb0) ?_;refine gf ?_;refine gf ?_;refine gf ?_;refine gf ?_;refine gf ?_;refine vk (Af) ?_;refine asd ?_;refine RL.gk [0,2,3,4,5,6] ?_;refine .nil ?_
     cases hz
     exact jr () trivial
    have hb0:s7=false:=(bf hc)
    refine vk (VOK.lit (Aa) hb0) ?_;refine vk (Aa) ?_;refine vk (Aa) ?_
    obtain ⟨x12,g12,hz⟩:=bnd hz
    obtain ⟨n12,p012,q12⟩:=Aj g12
    refine vk (vix n12 p012 (Bg q12) rfl Bc) ?_;refine vk (Ah AD) ?_;refine vk (vbi) ?_;refine vk (Af) ?_;refine asd ?_;refine RL.gk [0,2,3,4,5,6] ?_;refine .nil ?_
    cases hz
    exact jr () trivial
   rintro _ _
   refine .region ?_;refine vk (Aa) ?_
   rcases brc h with ⟨hc,h⟩|⟨hc,h⟩
   ·have hb0:s8=true:=hc
    refine vk (VOK.lit (Aa) hb0) ?_;refine gf ?_;refine gf ?_;refine gf ?_;refine gf ?_;refine gf ?_;refine vk (Af) ?_;refine asd ?_;refine .nil ?_
    show AW _ _ _ _ _ _
    refine .gk [0,2,3,4,5,6] ?_;refine .region ?_;refine vk (Aa) ?_;refine vk (vbi) ?_;refine asd ?_;refine .nil ?_;refine AL.gk [0,2,3,4,5,6] ?_
    exact ih (k,s5,s6,z11,true,(w64 (s9+1))) h (Nat.lt_succ_self _)
   have hb0:s8=false:=(bf hc)
   refine vk (VOK.lit (Aa) hb0) ?_;refine vk (Aa) ?_;refine vk (Aa) ?_
   obtain ⟨x13,g13,h⟩:=bnd h
   obtain ⟨n13,p013,q13⟩:=Aj g13
   refine vk (vix n13 p013 (Bg q13) rfl Bc) ?_;refine vk (Ah AD) ?_;refine vk (vbi) ?_;refine vk (Af) ?_;refine asd ?_;refine .nil ?_
   show AW _ _ _ _ _ _
   refine .gk [0,2,3,4,5,6] ?_;refine .region ?_;refine vk (Aa) ?_;refine vk (vbi) ?_;refine asd ?_;refine .nil ?_;refine AL.gk [0,2,3,4,5,6] ?_
   exact ih (k,s5,s6,z11,(decide (4096<x13)),(w64 (s9+1))) h (Nat.lt_succ_self _)
  refine cnf (dF hc) ?_;refine .gk [0,2,3,4,5] ?_;refine .exit ?_
  exact jr (s5,s6,s7,s8) h
 rintro ⟨z1,z2,z3,z4⟩ h
 try dsimp only at h ⊢
 subst hK0
 show AW _ _ _ _ _ _
 refine .seq ?_;refine .sr ?_;refine vk (Aa) ?_;refine rk [0,2,3,4,39] ?_
 rcases brc h with ⟨hc,h⟩|⟨hc,h⟩
 ·refine cnt hc ?_
  refine .sr ?_;refine asd ?_;refine ar [0,2,3,4] ?_;refine .ret ?_
  cases h
  exact ⟨by decide,rfl,rfl,rfl⟩
 refine cnf (bf hc) ?_;refine .skip ?_
 show AW _ _ _ _ _ _
 refine .seq ?_;refine .sr ?_;refine vk (Aa) ?_;refine rk [0,2,3,40] ?_
 rcases brc h with ⟨hc,h⟩|⟨hc,h⟩
 ·refine cnt hc ?_
  refine .sr ?_;refine asd ?_;refine ar [0,2,3] ?_;refine .ret ?_
  cases h
  exact ⟨by decide,rfl,rfl,rfl⟩
 refine cnf (bf hc) ?_;refine .skip ?_
 show AW _ _ _ _ _ _
 refine .sr ?_;refine ar [0,2,3,7] ?_;refine .seq ?_;refine .sr ?_;refine ar [0,2,3,7,8] ?_
 obtain ⟨K2,hK2,h⟩:=AZ h
 refine AW.mr (σ:=Int×Int×Int) (fun p=>K2 p.1 p.2.1 p.2.2=some r) (fun p=>[(2,.d (.i .i64 p.1)),(3,.d (.i .i64 p.2.1)),(7,.d (.i .i64 p.2.2))]) (fun p=>[]) ?_ ?_
 ·skip
  refine .block ?_
  refine .loop (.gk [0,2,3,7,8] ?_)
  refine AL.ind (σ:=Nat×Int×Int×Int×Int) (m:=fun p=>p.1) (e:=fun p=>[(0,.d (.sl (Is a0))),(2,.d (.i .i64 p.2.1)),(3,.d (.i .i64 p.2.2.1)),(7,.d (.i .i64 p.2.2.2.1)),(8,.d (.i .i64 p.2.2.2.2))]) (h:=fun p=>[]) (I:=fun p=>CE a0 K2 p.1 p.2.1 p.2.2.1 p.2.2.2.1 p.2.2.2.2=some r) ?_ (AQ,z1,z2,1,0) h
  rintro ⟨k,s17,s18,s19,s20⟩ h ih
  dsimp only at h ih ⊢
  rcases k with _|k
  ·rw [CE] at h;cases h
  rw [CE] at h
  refine .seq ?_;refine .sr ?_;refine vk (Aa) ?_;refine vk (Aa) ?_;refine vk (A2 (Ag _) (Bt _) Bk) ?_;refine vk (vbi) ?_;refine rk [0,2,3,7,8,44] ?_
  rcases brc h with ⟨hc,h⟩|⟨hc,h⟩
  ·refine cnt (dT hc) ?_
   refine .skip ?_
   show AW _ _ _ _ _ _
   refine .seq ?_;refine .block ?_;refine .seq ?_;refine .sr ?_;refine vk (Aa) ?_;refine vk (Aa) ?_;refine vk (Aa) ?_
   obtain ⟨x21,g21,h⟩:=bnd h
   obtain ⟨n21,p021,q21⟩:=Aj g21
   refine vk (vix n21 p021 (Bg q21) rfl Bc) ?_;refine vk (Ah AD) ?_;refine vk (vbi) ?_;refine vk (vbi) ?_;refine rk [0,2,3,7,8,53] ?_
   rcases brc h with ⟨hc,h⟩|⟨hc,h⟩
   ·refine cnt (dT hc) ?_
    refine .sr ?_;refine asd ?_;refine ar [0,2,3,7,8] ?_;refine .ret ?_
    cases h
    exact ⟨by decide,rfl,rfl,rfl⟩
   refine cnf (dF hc) ?_;refine .skip ?_
   show AW _ _ _ _ _ _
   refine .region ?_;refine vk (Aa) ?_;refine vk (Aa) ?_;refine vk (Aa) ?_
   obtain ⟨x22,g22,h⟩:=bnd h
   obtain ⟨n22,p022,q22⟩:=Aj g22
   refine vk (vix n22 p022 (Bg q22) rfl Bc) ?_;refine vk (Ah AD) ?_;refine vk (vbi) ?_;refine asd ?_;refine .nil ?_
   show AW _ _ _ _ _ _
   refine .gk [0,2,3,7,8] ?_;refine .region ?_;refine vk (Aa) ?_;refine vk (vbi) ?_;refine asd ?_;refine .nil ?_;refine AL.gk [0,2,3,7,8] ?_
   exact ih (k,s17,s18,(w64 (s19 * x22)),(w64 (s20+1))) h (Nat.lt_succ_self _)
  refine cnf (dF hc) ?_;refine .gk [2,3,7] ?_;refine .exit ?_
  exact jr (s17,s18,s19) h
 rintro ⟨z14,z15,z16⟩ h
 try dsimp only at h ⊢
 subst hK2
 show AW _ _ _ _ _ _
 refine .sr ?_;refine vk (Aa) ?_;refine asd ?_;refine ar [2,3] ?_;refine .ret ?_
 cases h
 exact ⟨by decide,rfl,rfl,rfl⟩
def Co (a0:Arr) : Option (Bool):=(Option.bind ((if ((List.length a0.shape:Nat) : Int)=0 then (if ((List.length a0.items:Nat) : Int)=1 then ((rd? a0.items 0).bind fun x2=>(some (!(decide (x2.kind=3))))) else (some false)) else (some false)) : Option (Bool)) fun (z1:Bool)=>(some (z1)))
theorem Fz {a0:Arr} {r:Bool} (h:Co a0=some r) :
  Fn Tryz.prog 109 [.ag [.sl (Is a0.shape),.sl (Its a0.items)]] (.d (.b r)):=by
 unfold Co at h
 refine Fn.o1 2 21 Tryz.func109 ?_;refine .sr ?_;refine vk (vbx) ?_;refine ar [1,2] ?_;refine .seq ?_
 obtain ⟨z1,hz,h⟩:=bnd h
 refine AW.mr (σ:=Unit) (fun _=>True) (fun _=>[(2,.d (.b z1))]) (fun _=>[]) ?_ ?_
 ·skip
  refine .region ?_;refine vk (vfa Aw) ?_;refine vk (Ah A9) ?_;refine vk (A2 (Ag _) (Bt _) Bk) ?_;refine vk (vbi) ?_
  rcases brc hz with ⟨hc,hz⟩|⟨hc,hz⟩
  ·have hb0:(decide (((List.length a0.shape:Nat):Int)=0))=true:=(dT hc)
   refine vk (VOK.lit (Aa) hb0) ?_;refine vk (vfa AC) ?_;refine vk (Ah Bx) ?_;refine vk (A2 (Ay _) (Cp _) Cq) ?_;refine vk (vbi) ?_;refine vk (Af) ?_
   rcases brc hz with ⟨hc,hz⟩|⟨hc,hz⟩
   ·have hb1:(decide (((List.length a0.items:Nat):Int)=1))=true:=(dT hc)
    refine vk (VOK.lit (Aa) hb1) ?_;refine vk (vfa AC) ?_;refine vk (Ah Bx) ?_
    obtain ⟨x2,g2,hz⟩:=bnd hz
    obtain ⟨n2,p02,q2⟩:=Aj g2
    refine vk (vix n2 p02 (Db q2) rfl C9) ?_;refine vk (vfa Cm) ?_;refine vk (Ah Bd) ?_;refine vk (vbi) ?_;refine vk (Af) ?_;refine asd ?_;refine RL.gk [2] ?_;refine .nil ?_
    cases hz
    exact jr () trivial
   have hb1:(decide (((List.length a0.items:Nat):Int)=1))=false:=(dF hc)
   refine vk (VOK.lit (Aa) hb1) ?_;refine gf ?_;refine gf ?_;refine gf ?_;refine gf ?_;refine gf ?_;refine gf ?_;refine vk (Af) ?_;refine asd ?_;refine RL.gk [2] ?_;refine .nil ?_
   cases hz
   exact jr () trivial
  have hb0:(decide (((List.length a0.shape:Nat):Int)=0))=false:=(dF hc)
  refine vk (VOK.lit (Aa) hb0) ?_;refine gf ?_;refine gf ?_;refine gf ?_;refine gf ?_;refine vk (Af) ?_;refine vk (Aa) ?_;refine gf ?_;refine gf ?_;refine gf ?_;refine gf ?_;refine gf ?_;refine gf ?_;refine vk (Af) ?_;refine asd ?_;refine RL.gk [2] ?_;refine .nil ?_
  cases hz
  exact jr () trivial
 rintro _ _
 refine .ret ?_
 cases h
 exact ⟨rfl,rfl⟩
def Dp (a0:Itm) : Option (Bool):=(some (((!a0.num.1)&&((decide (((List.length a0.num.2.1:Nat) : Int)=0))&&(decide (((List.length a0.num.2.2:Nat) : Int)=0))))))
theorem G1 {a0:Itm} {r:Bool} (h:Dp a0=some r) :
  Fn Tryz.prog 108 [.ag [.i .u8 a0.kind,.b a0.num.1,.sl (L a0.num.2.1),.sl (L a0.num.2.2),.i .i32 a0.char,.sl (Ars a0.box)]] (.d (.b r)):=by
 unfold Dp at h
 refine Fn.o1 2 21 Tryz.func108 ?_;refine .sr ?_;refine vk (vbx) ?_;refine ar [1,2] ?_;refine .seq ?_;refine AW.mr (σ:=Unit) (fun _=>True) (fun _=>[(2,.d (.b ((!a0.num.1)&&((decide (((List.length a0.num.2.1:Nat):Int)=0))&&(decide (((List.length a0.num.2.2:Nat):Int)=0))))))]) (fun _=>[]) ?_ ?_
 ·skip
  refine .region ?_;refine vk (vfa Bs) ?_;refine vk (vfa FH) ?_;refine vk (Ah EN) ?_;refine vk (vnt) ?_
  by_cases hc:a0.num.1=true
  ·have hb0:(!a0.num.1)=false:=(ntf hc)
   refine vk (VOK.lit (Aa) hb0) ?_;refine gf ?_;refine gf ?_;refine gf ?_;refine gf ?_;refine gf ?_;refine vk (Af) ?_;refine vk (Aa) ?_;refine gf ?_;refine gf ?_;refine gf ?_;refine gf ?_;refine gf ?_;refine vk (Af) ?_;refine asd ?_;refine RL.gk [2] ?_;refine .nil ?_
   exact jr () trivial (by simp only [hb0];rfl)
  have hb0:(!a0.num.1)=true:=(ntt (bf hc))
  refine vk (VOK.lit (Aa) hb0) ?_;refine vk (vfa Bs) ?_;refine vk (vfa FA) ?_;refine vk (Ah G4) ?_;refine vk (A2 (Ab _) (Bn _) TF) ?_;refine vk (vbi) ?_;refine vk (Af) ?_
  by_cases hc:((List.length a0.num.2.1:Nat):Int)=0
  ·have hb1:(decide (((List.length a0.num.2.1:Nat):Int)=0))=true:=(dT hc)
   refine vk (VOK.lit (Aa) hb1) ?_;refine vk (vfa Bs) ?_;refine vk (vfa Gi) ?_;refine vk (Ah G4) ?_;refine vk (A2 (Ab _) (Bn _) TF) ?_;refine vk (vbi) ?_;refine vk (Af) ?_;refine asd ?_;refine RL.gk [2] ?_;refine .nil ?_
   exact jr () trivial (by simp only [hb0,hb1];rfl)
  have hb1:(decide (((List.length a0.num.2.1:Nat):Int)=0))=false:=(dF hc)
  refine vk (VOK.lit (Aa) hb1) ?_;refine gf ?_;refine gf ?_;refine gf ?_;refine gf ?_;refine gf ?_;refine vk (Af) ?_;refine asd ?_;refine RL.gk [2] ?_;refine .nil ?_
  exact jr () trivial (by simp only [hb0,hb1];rfl)
 rintro _ _
 refine .ret ?_
 cases h
 exact ⟨rfl,rfl⟩
def AI (rc_ref03_measure:Arr→Int→Int→Option (Bool×Int×Int)) (a0:Arr) (a1:Int) (a2:Int) (K1:Bool→Int→Int→Int→Int→Option (Bool×Int×Int)) : Nat→Bool→Int→Int→Int→Int→Int→Option (Bool×Int×Int)
 | 0,_,_,_,_,_,_=>none
 | k+1,s8,s9,s10,s11,s12,s13=>(if s13<((List.length a0.items:Nat):Int) then (jn (fun (z14:Int) (z15:Int)=>(AI rc_ref03_measure a0 a1 a2 K1 k s8 s9 s10 z14 z15 (w64 (s13+1)))) fun K3=>((rd? a0.items s13).bind fun x16=>(Option.bind ((if x16.kind=1 then ((Hu x16.num).bind fun x18=>(if x18=true then (if x16.char=0 then (some (decide (((List.length x16.box:Nat):Int)=0))) else (some false)) else (some false))) else (some false)):Option (Bool)) fun (z17:Bool)=>(if z17=true then (K3 s11 s12) else (Option.bind ((if x16.kind=2 then ((Eb x16.char).bind fun x20=>(if x20=true then ((Dp x16).bind fun x21=>(if x21=true then (some (decide (((List.length x16.box:Nat):Int)=0))) else (some false))) else (some false))) else (some false)):Option (Bool)) fun (z19:Bool)=>(if z19=true then (K3 s11 s12) else (Option.bind ((if x16.kind=3 then (if ((List.length x16.box:Nat):Int)=1 then ((Dp x16).bind fun x23=>(if x23=true then (if x16.char=0 then ((rd? x16.box 0).bind fun x24=>((Co x24).bind fun x25=>(some (!x25)))) else (some false)) else (some false))) else (some false)) else (some false)):Option (Bool)) fun (z22:Bool)=>(if z22=true then ((rd? x16.box 0).bind fun x26=>((rc_ref03_measure x26 (w64 (a1+1)) (w64 (a2-s12))).bind fun x27=>(if x27.1=true then (jn (fun (z28:Int)=>(K3 z28 (w64 (s12+x27.2.2)))) fun K4=>(if s11<x27.2.1 then (K4 x27.2.1) else (K4 s11))) else (some (false,0,0))))) else (some (false,0,0)))))))))) else (K1 s8 s9 s10 s11 s12))
def CJ (rc_ref03_measure:Arr→Int→Int→Option (Bool×Int×Int)) (a0:Arr) (a1:Int) (a2:Int) : Option (Bool×Int×Int):=((Ex a0.shape).bind fun x1=>(if ((!(decide (x1.2=0)))||(decide (16<a1)))=true then (some (false,0,0)) else (jn (fun (z2:Int)=>(if ((!(decide (((List.length a0.items:Nat) : Int)=z2)))||(decide (a2<z2)))=true then (some (false,0,0)) else (jn (fun (z3:Bool) (z4:Int) (z5:Int) (z6:Int) (z7:Int)=>((Co a0).bind fun x29=>(jn (fun (z30:Int)=>(some ((decide (z7≤a2)),z30,z7))) fun K5=>(if x29=true then (K5 z6) else (K5 (w64 (z6+1))))))) fun K1=>(AI rc_ref03_measure a0 a1 a2 K1 AQ false 0 0 0 z2 0)))) fun K0=>(if x1.1=0 then (K0 1) else (K0 x1.1)))))
set_option maxHeartbeats 4000000 in
theorem Jq {rc_ref03_measure:Arr→Int→Int→Option (Bool×Int×Int)} (orc_ref03_measure:∀ x0 x1 x2 r,rc_ref03_measure x0 x1 x2=some r→Fn Tryz.prog 60 [.ag [.sl (Is x0.shape),.sl (Its x0.items)],.i .i64 x1,.i .i64 x2] (.tup [.d (.b r.1),.d (.i .i64 r.2.1),.d (.i .i64 r.2.2)])) {a0:Arr} {a1:Int} {a2:Int} {r:Bool×Int×Int} (h:CJ rc_ref03_measure a0 a1 a2=some r) :
  Fn Tryz.prog 60 [.ag [.sl (Is a0.shape),.sl (Its a0.items)],.i .i64 a1,.i .i64 a2] (.tup [.d (.b r.1),.d (.i .i64 r.2.1),.d (.i .i64 r.2.2)]):=by
 unfold CJ at h
 refine Fn.of (rs:=[.tmp 6,.tmp 7,.tmp 8]) (nt:=154) Tryz.func60 rfl rfl rfl (by simp) rfl ?_;refine .sr ?_;refine vk (vbx) ?_;refine asd ?_;refine asd ?_;refine ar [1,2,3,6,7,8] ?_;refine .sr ?_;refine vk (vfa Aw) ?_;refine vk (Ah A9) ?_
 obtain ⟨x1,g1,h⟩:=bnd h
 refine vk (VOK.tupd (vs:=[.i .i64 x1.1,.i .i64 x1.2]) (Aq (LN g1) Tryz.call98)) ?_;refine vk (Aa) ?_;refine vk (vex) ?_;refine vk (vex) ?_;refine asd ?_;refine ar [1,2,3,6,7,8,9,10] ?_;refine .seq ?_;refine .seq ?_;refine AW.mr (σ:=Unit) (fun _=>True) (fun _=>[(1,.d (.i .i64 a1)),(2,.d (.i .i64 a2)),(3,.d (.ptr [.sl (Is a0.shape),.sl (Its a0.items)])),(6,.d (.b false)),(7,.d (.i .i64 0)),(8,.d (.i .i64 0)),(9,.d (.i .i64 x1.1)),(29,.d (.b ((!(decide (x1.2=0)))||(decide (16<a1)))))]) (fun _=>[]) ?_ ?_
 ·skip
  refine .region ?_;refine vk (Aa) ?_;refine vk (vbi) ?_
  by_cases hc:x1.2=0
  ·have hb0:(!(decide (x1.2=0)))=false:=(ntf (dT hc))
   refine vk (VOK.lit (Aa) hb0) ?_;refine vk (Aa) ?_;refine vk (vbi) ?_;refine vk (Af) ?_;refine RL.gk [1,2,3,6,7,8,9,29] ?_;refine .nil ?_
   exact jr () trivial (by simp only [hb0];rfl)
  have hb0:(!(decide (x1.2=0)))=true:=(ntt (dF hc))
  refine vk (VOK.lit (Aa) hb0) ?_;refine gf ?_;refine gf ?_;refine vk (Af) ?_;refine RL.gk [1,2,3,6,7,8,9,29] ?_;refine .nil ?_
  exact jr () trivial (by simp only [hb0];rfl)
 rintro _ _
 rcases brc h with ⟨hc,h⟩|⟨hc,h⟩
 ·refine cnt hc ?_
  refine .sr ?_;refine asd ?_;refine asd ?_;refine ar [1,2,3,6,7,8,9] ?_;refine .ret ?_
  cases h
  exact ⟨⟨by decide,by decide,by decide⟩,rfl,rfl,rfl,rfl⟩
 refine cnf (bf hc) ?_;refine .skip ?_
 show AW _ _ _ _ _ _
 refine .seq ?_;refine .sr ?_;refine vk (Aa) ?_;refine vk (vbi) ?_;refine rk [1,2,3,6,7,8,9,31] ?_
 obtain ⟨K0,hK0,h⟩:=AZ h
 refine AW.mr (σ:=Int) (fun p=>K0 p=some r) (fun p=>[(1,.d (.i .i64 a1)),(2,.d (.i .i64 a2)),(3,.d (.ptr [.sl (Is a0.shape),.sl (Its a0.items)])),(6,.d (.b false)),(7,.d (.i .i64 0)),(8,.d (.i .i64 0)),(9,.d (.i .i64 p))]) (fun p=>[]) ?_ ?_
 ·skip
  rcases brc h with ⟨hc,h⟩|⟨hc,h⟩
  ·refine cnt (dT hc) ?_
   refine .region ?_;refine asd ?_;refine RL.gk [1,2,3,6,7,8,9] ?_;refine .nil ?_
   exact jr (1) h
  refine cnf (dF hc) ?_;refine .gk [1,2,3,6,7,8,9] ?_;refine .skip ?_
  exact jr (x1.1) h
 rintro z2 h
 try dsimp only at h ⊢
 subst hK0
 show AW _ _ _ _ _ _
 refine .seq ?_;refine .seq ?_;refine AW.mr (σ:=Unit) (fun _=>True) (fun _=>[(1,.d (.i .i64 a1)),(2,.d (.i .i64 a2)),(3,.d (.ptr [.sl (Is a0.shape),.sl (Its a0.items)])),(6,.d (.b false)),(7,.d (.i .i64 0)),(8,.d (.i .i64 0)),(9,.d (.i .i64 z2)),(41,.d (.b ((!(decide (((List.length a0.items:Nat):Int)=z2)))||(decide (a2<z2)))))]) (fun _=>[]) ?_ ?_
 ·skip
  refine .region ?_;refine vk (vfa AC) ?_;refine vk (Ah Bx) ?_;refine vk (A2 (Ay _) (Cp _) Cq) ?_;refine vk (Aa) ?_;refine vk (vbi) ?_
  by_cases hc:((List.length a0.items:Nat):Int)=z2
  ·have hb0:(!(decide (((List.length a0.items:Nat):Int)=z2)))=false:=(ntf (dT hc))
   refine vk (VOK.lit (Aa) hb0) ?_;refine vk (Aa) ?_;refine vk (Aa) ?_;refine vk (vbi) ?_;refine vk (Af) ?_;refine RL.gk [1,2,3,6,7,8,9,41] ?_;refine .nil ?_
   exact jr () trivial (by simp only [hb0];rfl)
  have hb0:(!(decide (((List.length a0.items:Nat):Int)=z2)))=true:=(ntt (dF hc))
  refine vk (VOK.lit (Aa) hb0) ?_;refine gf ?_;refine gf ?_;refine gf ?_;refine vk (Af) ?_;refine RL.gk [1,2,3,6,7,8,9,41] ?_;refine .nil ?_
  exact jr () trivial (by simp only [hb0];rfl)
 rintro _ _
 rcases brc h with ⟨hc,h⟩|⟨hc,h⟩
 ·refine cnt hc ?_
  refine .sr ?_;refine asd ?_;refine asd ?_;refine ar [1,2,3,6,7,8,9] ?_;refine .ret ?_
  cases h
  exact ⟨⟨by decide,by decide,by decide⟩,rfl,rfl,rfl,rfl⟩
 refine cnf (bf hc) ?_;refine .skip ?_
 show AW _ _ _ _ _ _
 refine .sr ?_;refine ar [1,2,3,6,7,8,9,11] ?_;refine .sr ?_;refine vk (Aa) ?_;refine ar [1,2,3,6,7,8,11,12] ?_;refine .seq ?_;refine .sr ?_;refine ar [1,2,3,6,7,8,11,12,13] ?_
 obtain ⟨K1,hK1,h⟩:=AZ h
 refine AW.mr (σ:=Bool×Int×Int×Int×Int) (fun p=>K1 p.1 p.2.1 p.2.2.1 p.2.2.2.1 p.2.2.2.2=some r) (fun p=>[(2,.d (.i .i64 a2)),(3,.d (.ptr [.sl (Is a0.shape),.sl (Its a0.items)])),(6,.d (.b p.1)),(7,.d (.i .i64 p.2.1)),(8,.d (.i .i64 p.2.2.1)),(11,.d (.i .i64 p.2.2.2.1)),(12,.d (.i .i64 p.2.2.2.2))]) (fun p=>[]) ?_ ?_
 ·skip
  refine .block ?_
  refine .loop (.gk [1,2,3,6,7,8,11,12,13] ?_)
  refine AL.ind (σ:=Nat×Bool×Int×Int×Int×Int×Int) (m:=fun p=>p.1) (e:=fun p=>[(1,.d (.i .i64 a1)),(2,.d (.i .i64 a2)),(3,.d (.ptr [.sl (Is a0.shape),.sl (Its a0.items)])),(6,.d (.b p.2.1)),(7,.d (.i .i64 p.2.2.1)),(8,.d (.i .i64 p.2.2.2.1)),(11,.d (.i .i64 p.2.2.2.2.1)),(12,.d (.i .i64 p.2.2.2.2.2.1)),(13,.d (.i .i64 p.2.2.2.2.2.2))]) (h:=fun p=>[]) (I:=fun p=>AI rc_ref03_measure a0 a1 a2 K1 p.1 p.2.1 p.2.2.1 p.2.2.2.1 p.2.2.2.2.1 p.2.2.2.2.2.1 p.2.2.2.2.2.2=some r) ?_ (AQ,false,0,0,0,z2,0) h
  rintro ⟨k,s8,s9,s10,s11,s12,s13⟩ h ih
  dsimp only at h ih ⊢
  rcases k with _|k
  ·rw [AI] at h;cases h
  rw [AI] at h
  refine .seq ?_;refine .sr ?_;refine vk (Aa) ?_;refine vk (vfa AC) ?_;refine vk (Ah Bx) ?_;refine vk (A2 (Ay _) (Cp _) Cq) ?_;refine vk (vbi) ?_;refine rk [1,2,3,6,7,8,11,12,13,47] ?_
  rcases brc h with ⟨hc,h⟩|⟨hc,h⟩
  ·refine cnt (dT hc) ?_
   refine .skip ?_
   show AW _ _ _ _ _ _
   obtain ⟨K3,hK3,h⟩:=AZ h
   refine AW.mj (σ:=Int×Int) (fun p=>K3 p.1 p.2=some r) (fun p=>[(1,.d (.i .i64 a1)),(2,.d (.i .i64 a2)),(3,.d (.ptr [.sl (Is a0.shape),.sl (Its a0.items)])),(6,.d (.b s8)),(7,.d (.i .i64 s9)),(8,.d (.i .i64 s10)),(11,.d (.i .i64 p.1)),(12,.d (.i .i64 p.2)),(13,.d (.i .i64 s13))]) (fun p=>[]) ?_ ?_
   ·skip
    refine .block ?_;refine .sr ?_;refine vk (vfa AC) ?_;refine vk (Ah Bx) ?_;refine vk (Aa) ?_
    obtain ⟨x16,g16,h⟩:=bnd h
    obtain ⟨n16,p016,q16⟩:=Aj g16
    refine vk (vix n16 p016 (Db q16) rfl C9) ?_;refine vk (AE A4 AA) ?_;refine vk (van (Am CI) CZ) ?_
    refine stn ?_ AA (by decide)
    refine rk [1,2,3,6,7,8,11,12,13,14] ?_;refine .block ?_;refine .seq ?_;refine .gh (Gh.nbp (t:=14) rfl) ?_
    obtain ⟨z17,hz,h⟩:=bnd h
    refine AW.mr (σ:=Unit) (fun _=>True) (fun _=>[(1,.d (.i .i64 a1)),(2,.d (.i .i64 a2)),(3,.d (.ptr [.sl (Is a0.shape),.sl (Its a0.items)])),(6,.d (.b s8)),(7,.d (.i .i64 s9)),(8,.d (.i .i64 s10)),(11,.d (.i .i64 s11)),(12,.d (.i .i64 s12)),(13,.d (.i .i64 s13)),(14,.d (.ptr [.i .u8 x16.kind,.b x16.num.1,.sl (L x16.num.2.1),.sl (L x16.num.2.2),.i .i32 x16.char,.sl (Ars x16.box)])),(55,.d (.b z17))]) (fun _=>[]) ?_ ?_
    ·skip
     refine .region ?_;refine vk (vfa Cm) ?_;refine vk (Ah Bd) ?_;refine vk (vbi) ?_
     rcases brc hz with ⟨hc,hz⟩|⟨hc,hz⟩
     ·have hb0:(decide (x16.kind=1))=true:=(dT hc)
      refine vk (VOK.lit (Aa) hb0) ?_;refine vk (vfa Bs) ?_;refine vk (AE II G7) ?_
      obtain ⟨x18,g18,hz⟩:=bnd hz
      refine vk (Aq (MA g18) Tryz.call106) ?_;refine vk (Af) ?_
      rcases brc hz with ⟨hc,hz⟩|⟨hc,hz⟩
      ·have hb1:x18=true:=hc
       refine vk (VOK.lit (Aa) hb1) ?_;refine vk (vfa C1) ?_;refine vk (Ah C3) ?_;refine vk (vbi) ?_;refine vk (Af) ?_
       rcases brc hz with ⟨hc,hz⟩|⟨hc,hz⟩
       ·have hb2:(decide (x16.char=0))=true:=(dT hc)
        refine vk (VOK.lit (Aa) hb2) ?_;refine vk (vfa A3) ?_;refine vk (Ah B7) ?_;refine vk (A2 (Bb _) (DA _) Dz) ?_;refine vk (vbi) ?_;refine vk (Af) ?_;refine asd ?_;refine RL.gk [1,2,3,6,7,8,11,12,13,14,55] ?_;refine .nil ?_
        cases hz
        exact jr () trivial
       have hb2:(decide (x16.char=0))=false:=(dF hc)
       refine vk (VOK.lit (Aa) hb2) ?_;refine gf ?_;refine gf ?_;refine gf ?_;refine gf ?_;refine vk (Af) ?_;refine asd ?_;refine RL.gk [1,2,3,6,7,8,11,12,13,14,55] ?_;refine .nil ?_
       cases hz
       exact jr () trivial
      have hb1:x18=false:=(bf hc)
      refine vk (VOK.lit (Aa) hb1) ?_;refine gf ?_;refine gf ?_;refine gf ?_;refine vk (Af) ?_;refine vk (Aa) ?_;refine gf ?_;refine gf ?_;refine gf ?_;refine gf ?_;refine vk (Af) ?_;refine asd ?_;refine RL.gk [1,2,3,6,7,8,11,12,13,14,55] ?_;refine .nil ?_
      cases hz
      exact jr () trivial
     have hb0:(decide (x16.kind=1))=false:=(dF hc)
     refine vk (VOK.lit (Aa) hb0) ?_;refine gf ?_;refine gf ?_;refine gf ?_;refine vk (Af) ?_;refine vk (Aa) ?_;refine gf ?_;refine gf ?_;refine gf ?_;refine vk (Af) ?_;refine vk (Aa) ?_;refine gf ?_;refine gf ?_;refine gf ?_;refine gf ?_;refine vk (Af) ?_;refine asd ?_;refine RL.gk [1,2,3,6,7,8,11,12,13,14,55] ?_;refine .nil ?_
     cases hz
     exact jr () trivial
    rintro _ _
    rcases brc h with ⟨hc,h⟩|⟨hc,h⟩
    ·refine cnt hc ?_
     refine .gk [1,2,3,6,7,8,11,12,13] ?_;refine .skip ?_
     exact jr (s11,s12) h
    refine cnf (bf hc) ?_;refine .seq ?_
    obtain ⟨z19,hz,h⟩:=bnd h
    refine AW.mr (σ:=Unit) (fun _=>True) (fun _=>[(1,.d (.i .i64 a1)),(2,.d (.i .i64 a2)),(3,.d (.ptr [.sl (Is a0.shape),.sl (Its a0.items)])),(6,.d (.b s8)),(7,.d (.i .i64 s9)),(8,.d (.i .i64 s10)),(11,.d (.i .i64 s11)),(12,.d (.i .i64 s12)),(13,.d (.i .i64 s13)),(14,.d (.ptr [.i .u8 x16.kind,.b x16.num.1,.sl (L x16.num.2.1),.sl (L x16.num.2.2),.i .i32 x16.char,.sl (Ars x16.box)])),(75,.d (.b z19))]) (fun _=>[]) ?_ ?_
    ·skip
     refine .region ?_;refine vk (vfa Cm) ?_;refine vk (Ah Bd) ?_;refine vk (vbi) ?_
     rcases brc hz with ⟨hc,hz⟩|⟨hc,hz⟩
     ·have hb0:(decide (x16.kind=2))=true:=(dT hc)
      refine vk (VOK.lit (Aa) hb0) ?_;refine vk (vfa C1) ?_;refine vk (Ah C3) ?_
      obtain ⟨x20,g20,hz⟩:=bnd hz
      refine vk (Aq (J8 g20) Tryz.call107) ?_;refine vk (Af) ?_
      rcases brc hz with ⟨hc,hz⟩|⟨hc,hz⟩
      ·have hb1:x20=true:=hc
       refine vk (VOK.lit (Aa) hb1) ?_;refine vk (AE A4 AA) ?_
       obtain ⟨x21,g21,hz⟩:=bnd hz
       refine vk (Aq (G1 g21) Tryz.call108) ?_;refine vk (Af) ?_
       rcases brc hz with ⟨hc,hz⟩|⟨hc,hz⟩
       ·have hb2:x21=true:=hc
        refine vk (VOK.lit (Aa) hb2) ?_;refine vk (vfa A3) ?_;refine vk (Ah B7) ?_;refine vk (A2 (Bb _) (DA _) Dz) ?_;refine vk (vbi) ?_;refine vk (Af) ?_;refine asd ?_;refine RL.gk [1,2,3,6,7,8,11,12,13,14,75] ?_;refine .nil ?_
        cases hz
        exact jr () trivial
       have hb2:x21=false:=(bf hc)
       refine vk (VOK.lit (Aa) hb2) ?_;refine gf ?_;refine gf ?_;refine gf ?_;refine gf ?_;refine vk (Af) ?_;refine asd ?_;refine RL.gk [1,2,3,6,7,8,11,12,13,14,75] ?_;refine .nil ?_
       cases hz
       exact jr () trivial
      have hb1:x20=false:=(bf hc)
      refine vk (VOK.lit (Aa) hb1) ?_;refine gf ?_;refine gf ?_;refine vk (Af) ?_;refine vk (Aa) ?_;refine gf ?_;refine gf ?_;refine gf ?_;refine gf ?_;refine vk (Af) ?_;refine asd ?_;refine RL.gk [1,2,3,6,7,8,11,12,13,14,75] ?_;refine .nil ?_
      cases hz
      exact jr () trivial
     have hb0:(decide (x16.kind=2))=false:=(dF hc)
     refine vk (VOK.lit (Aa) hb0) ?_;refine gf ?_;refine gf ?_;refine gf ?_;refine vk (Af) ?_;refine vk (Aa) ?_;refine gf ?_;refine gf ?_;refine vk (Af) ?_;refine vk (Aa) ?_;refine gf ?_;refine gf ?_;refine gf ?_;refine gf ?_;refine vk (Af) ?_;refine asd ?_;refine RL.gk [1,2,3,6,7,8,11,12,13,14,75] ?_;refine .nil ?_
     cases hz
     exact jr () trivial
    rintro _ _
    rcases brc h with ⟨hc,h⟩|⟨hc,h⟩
    ·refine cnt hc ?_
     refine .gk [1,2,3,6,7,8,11,12,13] ?_;refine .skip ?_
     exact jr (s11,s12) h
    refine cnf (bf hc) ?_;refine .seq ?_
    obtain ⟨z22,hz,h⟩:=bnd h
    refine AW.mr (σ:=Unit) (fun _=>True) (fun _=>[(1,.d (.i .i64 a1)),(2,.d (.i .i64 a2)),(3,.d (.ptr [.sl (Is a0.shape),.sl (Its a0.items)])),(6,.d (.b s8)),(7,.d (.i .i64 s9)),(8,.d (.i .i64 s10)),(11,.d (.i .i64 s11)),(12,.d (.i .i64 s12)),(13,.d (.i .i64 s13)),(14,.d (.ptr [.i .u8 x16.kind,.b x16.num.1,.sl (L x16.num.2.1),.sl (L x16.num.2.2),.i .i32 x16.char,.sl (Ars x16.box)])),(94,.d (.b z22))]) (fun _=>[]) ?_ ?_
    ·skip
     refine .region ?_;refine vk (vfa Cm) ?_;refine vk (Ah Bd) ?_;refine vk (vbi) ?_
     rcases brc hz with ⟨hc,hz⟩|⟨hc,hz⟩
     ·have hb0:(decide (x16.kind=3))=true:=(dT hc)
      refine vk (VOK.lit (Aa) hb0) ?_;refine vk (vfa A3) ?_;refine vk (Ah B7) ?_;refine vk (A2 (Bb _) (DA _) Dz) ?_;refine vk (vbi) ?_;refine vk (Af) ?_
      rcases brc hz with ⟨hc,hz⟩|⟨hc,hz⟩
      ·have hb1:(decide (((List.length x16.box:Nat):Int)=1))=true:=(dT hc)
       refine vk (VOK.lit (Aa) hb1) ?_;refine vk (AE A4 AA) ?_
       obtain ⟨x23,g23,hz⟩:=bnd hz
       refine vk (Aq (G1 g23) Tryz.call108) ?_;refine vk (Af) ?_
       rcases brc hz with ⟨hc,hz⟩|⟨hc,hz⟩
       ·have hb2:x23=true:=hc
        refine vk (VOK.lit (Aa) hb2) ?_;refine vk (vfa C1) ?_;refine vk (Ah C3) ?_;refine vk (vbi) ?_;refine vk (Af) ?_
        rcases brc hz with ⟨hc,hz⟩|⟨hc,hz⟩
        ·have hb3:(decide (x16.char=0))=true:=(dT hc)
         refine vk (VOK.lit (Aa) hb3) ?_;refine vk (vfa A3) ?_;refine vk (Ah B7) ?_
         obtain ⟨x24,g24,hz⟩:=bnd hz
         obtain ⟨n24,p024,q24⟩:=Aj g24
         refine vk (vix n24 p024 (En q24) rfl Ev) ?_;refine vk (AE Ad Ac) ?_
         obtain ⟨x25,g25,hz⟩:=bnd hz
         refine vk (Aq (Fz g25) Tryz.call109) ?_;refine vk (vnt) ?_;refine vk (Af) ?_;refine asd ?_;refine RL.gk [1,2,3,6,7,8,11,12,13,14,94] ?_;refine .nil ?_
         cases hz
         exact jr () trivial
        have hb3:(decide (x16.char=0))=false:=(dF hc)
        refine vk (VOK.lit (Aa) hb3) ?_;refine gf ?_;refine gf ?_;refine gf ?_;refine gf ?_;refine gf ?_;refine gf ?_;refine vk (Af) ?_;refine asd ?_;refine RL.gk [1,2,3,6,7,8,11,12,13,14,94] ?_;refine .nil ?_
        cases hz
        exact jr () trivial
       have hb2:x23=false:=(bf hc)
       refine vk (VOK.lit (Aa) hb2) ?_;refine gf ?_;refine gf ?_;refine gf ?_;refine vk (Af) ?_;refine vk (Aa) ?_;refine gf ?_;refine gf ?_;refine gf ?_;refine gf ?_;refine gf ?_;refine gf ?_;refine vk (Af) ?_;refine asd ?_;refine RL.gk [1,2,3,6,7,8,11,12,13,14,94] ?_;refine .nil ?_
       cases hz
       exact jr () trivial
      have hb1:(decide (((List.length x16.box:Nat):Int)=1))=false:=(dF hc)
      refine vk (VOK.lit (Aa) hb1) ?_;refine gf ?_;refine gf ?_;refine vk (Af) ?_;refine vk (Aa) ?_;refine gf ?_;refine gf ?_;refine gf ?_;refine vk (Af) ?_;refine vk (Aa) ?_;refine gf ?_;refine gf ?_;refine gf ?_;refine gf ?_;refine gf ?_;refine gf ?_;refine vk (Af) ?_;refine asd ?_;refine RL.gk [1,2,3,6,7,8,11,12,13,14,94] ?_;refine .nil ?_
      cases hz
      exact jr () trivial
     have hb0:(decide (x16.kind=3))=false:=(dF hc)
     refine vk (VOK.lit (Aa) hb0) ?_;refine gf ?_;refine gf ?_;refine gf ?_;refine gf ?_;refine vk (Af) ?_;refine vk (Aa) ?_;refine gf ?_;refine gf ?_;refine vk (Af) ?_;refine vk (Aa) ?_;refine gf ?_;refine gf ?_;refine gf ?_;refine vk (Af) ?_;refine vk (Aa) ?_;refine gf ?_;refine gf ?_;refine gf ?_;refine gf ?_;refine gf ?_;refine gf ?_;refine vk (Af) ?_;refine asd ?_;refine RL.gk [1,2,3,6,7,8,11,12,13,14,94] ?_;refine .nil ?_
     cases hz
     exact jr () trivial
    rintro _ _
    rcases brc h with ⟨hc,h⟩|⟨hc,h⟩
    ·refine cnt hc ?_
     refine .sr ?_;refine vk (vfa A3) ?_;refine vk (Ah B7) ?_
     obtain ⟨x26,g26,h⟩:=bnd h
     obtain ⟨n26,p026,q26⟩:=Aj g26
     refine vk (vix n26 p026 (En q26) rfl Ev) ?_;refine vk (AE Ad Ac) ?_;refine vk (Aa) ?_;refine vk (vbi) ?_;refine vk (Aa) ?_;refine vk (Aa) ?_;refine vk (vbi) ?_
     obtain ⟨x27,g27,h⟩:=bnd h
     refine vk (VOK.tupd (vs:=[.b x27.1,.i .i64 x27.2.1,.i .i64 x27.2.2]) (Aq (orc_ref03_measure _ _ _ _ g27) Tryz.call60)) ?_;refine vk (Aa) ?_;refine vk (vex) ?_;refine vk (vex) ?_;refine vk (vex) ?_;refine asd ?_;refine asd ?_;refine ar [1,2,3,6,7,8,11,12,13,15,16,17] ?_;refine .seq ?_;refine .sr ?_;refine vk (Aa) ?_;refine vk (vnt) ?_;refine rk [1,2,3,6,7,8,11,12,13,16,17,136] ?_
     rcases brc h with ⟨hc,h⟩|⟨hc,h⟩
     ·refine cnf (ntf hc) ?_
      refine .skip ?_
      show AW _ _ _ _ _ _
      refine .seq ?_;refine .sr ?_;refine vk (Aa) ?_;refine vk (Aa) ?_;refine vk (vbi) ?_;refine rk [1,2,3,6,7,8,11,12,13,16,17,139] ?_
      obtain ⟨K4,hK4,h⟩:=AZ h
      refine AW.mr (σ:=Int) (fun p=>K4 p=some r) (fun p=>[(1,.d (.i .i64 a1)),(2,.d (.i .i64 a2)),(3,.d (.ptr [.sl (Is a0.shape),.sl (Its a0.items)])),(6,.d (.b s8)),(7,.d (.i .i64 s9)),(8,.d (.i .i64 s10)),(11,.d (.i .i64 p)),(12,.d (.i .i64 s12)),(13,.d (.i .i64 s13)),(17,.d (.i .i64 x27.2.2))]) (fun p=>[]) ?_ ?_
      ·skip
       rcases brc h with ⟨hc,h⟩|⟨hc,h⟩
       ·refine cnt (dT hc) ?_
        refine .region ?_;refine vk (Aa) ?_;refine asd ?_;refine RL.gk [1,2,3,6,7,8,11,12,13,17] ?_;refine .nil ?_
        exact jr (x27.2.1) h
       refine cnf (dF hc) ?_;refine .gk [1,2,3,6,7,8,11,12,13,17] ?_;refine .skip ?_
       exact jr (s11) h
      rintro z28 h
      try dsimp only at h ⊢
      subst hK4
      show AW _ _ _ _ _ _
      refine .region ?_;refine vk (Aa) ?_;refine vk (Aa) ?_;refine vk (vbi) ?_;refine asd ?_;refine RL.gk [1,2,3,6,7,8,11,12,13] ?_;refine .nil ?_
      exact jr (z28,(w64 (s12+x27.2.2))) h
     refine cnt (ntt (bf hc)) ?_;refine .sr ?_;refine asd ?_;refine asd ?_;refine ar [1,2,3,6,7,8,11,12,13,16,17] ?_;refine .ret ?_
     cases h
     exact ⟨⟨by decide,by decide,by decide⟩,rfl,rfl,rfl,rfl⟩
    refine cnf (bf hc) ?_;refine .sr ?_;refine asd ?_;refine asd ?_;refine ar [1,2,3,6,7,8,11,12,13] ?_;refine .ret ?_
    cases h
    exact ⟨⟨by decide,by decide,by decide⟩,rfl,rfl,rfl,rfl⟩
   rintro ⟨z14,z15⟩ h
   try dsimp only at h ⊢
   subst hK3
   refine .region ?_;refine vk (Aa) ?_;refine vk (vbi) ?_;refine asd ?_;refine .nil ?_;refine AL.gk [1,2,3,6,7,8,11,12,13] ?_
   exact ih (k,s8,s9,s10,z14,z15,(w64 (s13+1))) h (Nat.lt_succ_self _)
  refine cnf (dF hc) ?_;refine .gk [2,3,6,7,8,11,12] ?_;refine .exit ?_
  exact jr (s8,s9,s10,s11,s12) h
 rintro ⟨z3,z4,z5,z6,z7⟩ h
 try dsimp only at h ⊢
 subst hK1
 show AW _ _ _ _ _ _
 refine .seq ?_;refine .sr ?_;refine vk (AE Ad Ac) ?_
 obtain ⟨x29,g29,h⟩:=bnd h
 refine vk (Aq (Fz g29) Tryz.call109) ?_;refine vk (vnt) ?_;refine rk [2,6,7,8,11,12,146] ?_
 obtain ⟨K5,hK5,h⟩:=AZ h
 refine AW.mr (σ:=Int) (fun p=>K5 p=some r) (fun p=>[(2,.d (.i .i64 a2)),(6,.d (.b z3)),(7,.d (.i .i64 z4)),(8,.d (.i .i64 z5)),(11,.d (.i .i64 p)),(12,.d (.i .i64 z7))]) (fun p=>[]) ?_ ?_
 ·skip
  rcases brc h with ⟨hc,h⟩|⟨hc,h⟩
  ·refine cnf (ntf hc) ?_
   refine .gk [2,6,7,8,11,12] ?_;refine .skip ?_
   exact jr (z6) h
  refine cnt (ntt (bf hc)) ?_;refine .region ?_;refine vk (Aa) ?_;refine vk (vbi) ?_;refine asd ?_;refine RL.gk [2,6,7,8,11,12] ?_;refine .nil ?_
  exact jr ((w64 (z6+1))) h
 rintro z30 h
 try dsimp only at h ⊢
 subst hK5
 show AW _ _ _ _ _ _
 refine .sr ?_;refine vk (Aa) ?_;refine vk (Aa) ?_;refine vk (vbi) ?_;refine vk (Aa) ?_;refine vk (Aa) ?_;refine asd ?_;refine asd ?_;refine ar [6,7,8] ?_;refine .ret ?_
 cases h
 exact ⟨⟨by decide,by decide,by decide⟩,rfl,rfl,rfl,rfl⟩
def CU : Nat→Arr→Int→Int→Option (Bool×Int×Int)
 | 0,_,_,_=>none
 | k+1,a0,a1,a2=>CJ (CU k) a0 a1 a2
theorem Fr : ∀ (k:Nat) (a0:Arr) (a1:Int) (a2:Int) (r:Bool×Int×Int),CU k a0 a1 a2=some r→Fn Tryz.prog 60 [.ag [.sl (Is a0.shape),.sl (Its a0.items)],.i .i64 a1,.i .i64 a2] (.tup [.d (.b r.1),.d (.i .i64 r.2.1),.d (.i .i64 r.2.2)])
 | 0,_,_,_,_,h=>by cases h
 | k+1,a0,a1,a2,_,h=>Jq (Fr k)  (show CJ (CU k) a0 a1 a2=some _ from h)
def Gy (a0:Arr) (a1:Int) (a2:Int) : Option (Bool×Int×Int):=CU (a0.size+1) a0 a1 a2
theorem J5 {a0:Arr} {a1:Int} {a2:Int} {r:Bool×Int×Int} (h:Gy a0 a1 a2=some r) : Fn Tryz.prog 60 [.ag [.sl (Is a0.shape),.sl (Its a0.items)],.i .i64 a1,.i .i64 a2] (.tup [.d (.b r.1),.d (.i .i64 r.2.1),.d (.i .i64 r.2.2)]):=Fr _ a0 a1 a2 r  h
def EP (a0:Arr) : Option (Bool):=((Gy a0 0 16384).bind fun x1=>(some ((x1.1&&(decide (x1.2.1≤16))))))
theorem K9 {a0:Arr} {r:Bool} (h:EP a0=some r) :
  Fn Tryz.prog 24 [.ag [.sl (Is a0.shape),.sl (Its a0.items)]] (.d (.b r)):=by
 unfold EP at h
 refine Fn.o1 2 17 Tryz.func24 ?_;refine .sr ?_;refine vk (vbx) ?_;refine ar [1,2] ?_;refine .sr ?_;refine vk (AE Ad Ac) ?_
 obtain ⟨x1,g1,h⟩:=bnd h
 refine vk (VOK.tupd (vs:=[.b x1.1,.i .i64 x1.2.1,.i .i64 x1.2.2]) (Aq (J5 g1) Tryz.call60)) ?_;refine vk (Aa) ?_;refine vk (vex) ?_;refine vk (vex) ?_;refine vk (vex) ?_;refine asd ?_;refine asd ?_;refine ar [2,3,4] ?_;refine .seq ?_;refine AW.mr (σ:=Unit) (fun _=>True) (fun _=>[(2,.d (.b (x1.1&&(decide (x1.2.1≤16)))))]) (fun _=>[]) ?_ ?_
 ·skip
  refine .region ?_;refine vk (Aa) ?_
  by_cases hc:x1.1=true
  ·have hb0:x1.1=true:=hc
   refine vk (VOK.lit (Aa) hb0) ?_;refine vk (Aa) ?_;refine vk (vbi) ?_;refine vk (Af) ?_;refine asd ?_;refine RL.gk [2] ?_;refine .nil ?_
   exact jr () trivial (by simp only [hb0];rfl)
  have hb0:x1.1=false:=(bf hc)
  refine vk (VOK.lit (Aa) hb0) ?_;refine gf ?_;refine gf ?_;refine vk (Af) ?_;refine asd ?_;refine RL.gk [2] ?_;refine .nil ?_
  exact jr () trivial (by simp only [hb0];rfl)
 rintro _ _
 refine .ret ?_
 cases h
 exact ⟨rfl,rfl⟩
def Cz (rc_ref03_Copy:Arr→Option (Arr)) (a0:Itm) (K0:Int→Bool→(List Nat)→(List Nat)→Int→(List Arr)→Option (Itm)) : Nat→Int→Int→Bool→(List Nat)→(List Nat)→Int→(List Arr)→Option (Itm)
 | 0,_,_,_,_,_,_,_=>none
 | k+1,s8,s9,s10,s11,s12,s13,s14=>(if s8<((List.length a0.box:Nat):Int) then ((rd? a0.box s8).bind fun x15=>((rc_ref03_Copy x15).bind fun x16=>((ap? 2932031007402 s14 [x16]).bind fun x17=>(Cz rc_ref03_Copy a0 K0 k (w64 (s8+1)) s9 s10 s11 s12 s13 x17)))) else (K0 s9 s10 s11 s12 s13 s14))
def Fg (rc_ref03_Copy:Arr→Option (Arr)) (a0:Itm) : Option (Itm):=((HZ a0.num).bind fun x1=>(jn (fun (z2:Int) (z3:Bool) (z4:(List Nat)) (z5:(List Nat)) (z6:Int) (z7:(List Arr))=>(some ((Itm.mk z2 (z3,z4,z5) z6 z7)))) fun K0=>(Cz rc_ref03_Copy a0 K0 AQ 0 a0.kind x1.1 x1.2.1 x1.2.2 a0.char [])))
theorem I0 {rc_ref03_Copy:Arr→Option (Arr)} (orc_ref03_Copy:∀ x0 r,rc_ref03_Copy x0=some r→Fn Tryz.prog 16 [.ag [.sl (Is x0.shape),.sl (Its x0.items)]] (.d (.ag [.sl (Is r.shape),.sl (Its r.items)]))) {a0:Itm} {r:Itm} (h:Fg rc_ref03_Copy a0=some r) :
  Fn Tryz.prog 49 [.ag [.i .u8 a0.kind,.b a0.num.1,.sl (L a0.num.2.1),.sl (L a0.num.2.2),.i .i32 a0.char,.sl (Ars a0.box)]] (.d (.ag [.i .u8 r.kind,.b r.num.1,.sl (L r.num.2.1),.sl (L r.num.2.2),.i .i32 r.char,.sl (Ars r.box)])):=by
 unfold Fg at h
 refine Fn.ofC (rs:=[.cell 2 58]) (nt:=32) Tryz.func49 rfl rfl rfl (by simp) rfl ?_;refine .sr ?_;refine vk (vbx) ?_;refine vk (van (Am CI) CZ) ?_;refine rk [1,2] ?_;refine .seq ?_;refine .drawn 9 Bh (by kernel_rfl) ?_;refine dv (vfa Cm) ?_;refine dv (Ah Bd) ?_;refine dv (vfa C1) ?_;refine dv (Ah C3) ?_;refine dv (vfa Bs) ?_;refine dv (AE II G7) ?_
 obtain ⟨x1,g1,h⟩:=bnd h
 refine dv (Aq (LC g1) Tryz.call90) ?_;refine dv (SM Ju CI (fun w I μ=>Py w I μ)) ?_;refine dv (van (Am CI) CZ) ?_;refine dz ?_
 refine SN ?_ AA (by decide)
 refine rk [1,2,3] ?_;refine .seq ?_;refine .sr ?_;refine ar [1,2,3,4] ?_
 obtain ⟨K0,hK0,h⟩:=AZ h
 refine AW.mr (σ:=Int×Bool×(List Nat)×(List Nat)×Int×(List Arr)) (fun p=>K0 p.1 p.2.1 p.2.2.1 p.2.2.2.1 p.2.2.2.2.1 p.2.2.2.2.2=some r) (fun p=>[(2,.nb [.i .u8 0,.b false,.sl (L []),.sl (L []),.i .i32 0,.sl (Ars [])]),(3,.bp 0 0)]) (fun p=>[HO.box [.d (.i .u8 p.1),.d (.b p.2.1),.d (.sl (L p.2.2.1)),.d (.sl (L p.2.2.2.1)),.d (.i .i32 p.2.2.2.2.1),.own 27 (Ars p.2.2.2.2.2)]]) ?_ ?_
 ·skip
  refine .block ?_;refine .gh (Gh.nlOwnC (id:=0) (off:=5) 27 (by rw [Sw];decide)) ?_
  refine .loop (.gk [1,2,3,4] ?_)
  refine AL.ind (σ:=Nat×Int×Int×Bool×(List Nat)×(List Nat)×Int×(List Arr)) (m:=fun p=>p.1) (e:=fun p=>[(1,.d (.ptr [.i .u8 a0.kind,.b a0.num.1,.sl (L a0.num.2.1),.sl (L a0.num.2.2),.i .i32 a0.char,.sl (Ars a0.box)])),(2,.nb [.i .u8 0,.b false,.sl (L []),.sl (L []),.i .i32 0,.sl (Ars [])]),(3,.bp 0 0),(4,.d (.i .i64 p.2.1))]) (h:=fun p=>[HO.box [.d (.i .u8 p.2.2.1),.d (.b p.2.2.2.1),.d (.sl (L p.2.2.2.2.1)),.d (.sl (L p.2.2.2.2.2.1)),.d (.i .i32 p.2.2.2.2.2.2.1),.own 27 (Ars p.2.2.2.2.2.2.2)]]) (I:=fun p=>Cz rc_ref03_Copy a0 K0 p.1 p.2.1 p.2.2.1 p.2.2.2.1 p.2.2.2.2.1 p.2.2.2.2.2.1 p.2.2.2.2.2.2.1 p.2.2.2.2.2.2.2=some r) ?_ (AQ,0,a0.kind,x1.1,x1.2.1,x1.2.2,a0.char,[]) h
  rintro ⟨k,s8,s9,s10,s11,s12,s13,s14⟩ h ih
  dsimp only at h ih ⊢
  rcases k with _|k
  ·rw [Cz] at h;cases h
  rw [Cz] at h
  refine .seq ?_;refine .sr ?_;refine vk (Aa) ?_;refine vk (vfa A3) ?_;refine vk (Ah B7) ?_;refine vk (A2 (Bb _) (DA _) Dz) ?_;refine vk (vbi) ?_;refine rk [1,2,3,4,17] ?_
  rcases brc h with ⟨hc,h⟩|⟨hc,h⟩
  ·refine cnt (dT hc) ?_
   refine .skip ?_
   show AW _ _ _ _ _ _
   refine .seq ?_;refine .block ?_;refine .drawn 9 Bh (by kernel_rfl) ?_;refine dv (DR A3) ?_;refine dv (Mj (cs:=[.d (.i .u8 s9),.d (.b s10),.d (.sl (L s11)),.d (.sl (L s12)),.d (.i .i32 s13),.own 27 (Ars s14)]) rfl rfl B7) ?_;refine dv (vfa A3) ?_;refine dv (Ah B7) ?_;refine dv (Aa) ?_
   obtain ⟨x15,g15,h⟩:=bnd h
   obtain ⟨n15,p015,q15⟩:=Aj g15
   refine dv (vix n15 p015 (En q15) rfl Ev) ?_;refine dv (AE Ad Ac) ?_
   obtain ⟨x16,g16,h⟩:=bnd h
   refine dv (Aq (orc_ref03_Copy _ _ g16) Tryz.call16) ?_;refine dv ((ET (Kj x16) (G8 [x16]) Ih).deep) ?_;refine dz ?_
   obtain ⟨x17,g17,h⟩:=bnd h
   refine Pn P1 g17 rfl rfl So ?_ Mv Bb Ih
   refine RL.gk [1,2,3,4,17,20,22,23,24,25,26,27,28,29] ?_;refine vk (DR A3) ?_
   refine Ja (cs:=[.d (.i .u8 s9),.d (.b s10),.d (.sl (L s11)),.d (.sl (L s12)),.d (.i .i32 s13),.un]) (c:=.un) rfl rfl ?_ Ry
   refine .nil ?_
   show AW _ _ _ _ _ _
   refine .gk [1,2,3,4] ?_;refine .region ?_;refine vk (Aa) ?_;refine vk (vbi) ?_;refine asd ?_;refine .nil ?_;refine AL.gk [1,2,3,4] ?_
   exact ih (k,(w64 (s8+1)),s9,s10,s11,s12,s13,x17) h (Nat.lt_succ_self _)
  refine cnf (dF hc) ?_;refine .gk [2,3] ?_;refine .exit ?_
  exact jr (s9,s10,s11,s12,s13,s14) h
 rintro ⟨z2,z3,z4,z5,z6,z7⟩ h
 try dsimp only at h ⊢
 subst hK0
 show AW _ _ _ _ _ _
 refine .sr ?_;refine fz (p:=.c 0 5) ?_;refine vk (GN (cs:=[.d (.i .u8 z2),.d (.b z3),.d (.sl (L z4)),.d (.sl (L z5)),.d (.i .i32 z6),.d (.sl (Ars z7))]) (ds:=[.i .u8 z2,.b z3,.sl (L z4),.sl (L z5),.i .i32 z6,.sl (Ars z7)]) rfl A4 AA) ?_
 refine stn ?_ AA (by decide)
 refine rk [2] ?_;refine .ret ?_
 cases h
 exact ⟨_,⟨.inr rfl,A4,AA,p6⟩,rfl⟩
def DE (rc_ref03_Copy:Arr→Option (Arr)) (a0:Arr) (K0:(List Int)→(List Itm)→Option (Arr)) : Nat→Int→(List Int)→(List Itm)→Option (Arr)
 | 0,_,_,_=>none
 | k+1,s4,s5,s6=>(if s4<((List.length a0.items:Nat):Int) then ((rd? a0.items s4).bind fun x7=>((Fg rc_ref03_Copy x7).bind fun x8=>((ap? 1466015503701 s6 [x8]).bind fun x9=>(DE rc_ref03_Copy a0 K0 k (w64 (s4+1)) s5 x9)))) else (K0 s5 s6))
def GE (rc_ref03_Copy:Arr→Option (Arr)) (a0:Arr) : Option (Arr):=((ap? 17592186044416 [] a0.shape).bind fun x1=>(jn (fun (z2:(List Int)) (z3:(List Itm))=>(some ((Arr.mk z2 z3)))) fun K0=>(DE rc_ref03_Copy a0 K0 AQ 0 x1 [])))
theorem LO {rc_ref03_Copy:Arr→Option (Arr)} (orc_ref03_Copy:∀ x0 r,rc_ref03_Copy x0=some r→Fn Tryz.prog 16 [.ag [.sl (Is x0.shape),.sl (Its x0.items)]] (.d (.ag [.sl (Is r.shape),.sl (Its r.items)]))) {a0:Arr} {r:Arr} (h:GE rc_ref03_Copy a0=some r) :
  Fn Tryz.prog 16 [.ag [.sl (Is a0.shape),.sl (Its a0.items)]] (.d (.ag [.sl (Is r.shape),.sl (Its r.items)])):=by
 unfold GE at h
 refine Fn.ofC (rs:=[.cell 2 27]) (nt:=30) Tryz.func16 rfl rfl rfl (by simp) rfl ?_;refine .sr ?_;refine vk (vbx) ?_;refine vk (van (Am AB) AJ) ?_;refine rk [1,2] ?_;refine .sr ?_
 refine al ?_ (Am AB) (fun w I μ=>Kp w I μ)
 refine rk [1,2,3] ?_;refine .sr ?_;refine vk (DR Aw) ?_
 refine ldb (cs:=[.nl,.nl]) (c:=.nl) rfl rfl ?_ A9
 refine vk (vfa Aw) ?_;refine vk (Ah A9) ?_
 obtain ⟨x1,g1,h⟩:=bnd h
 refine Un g1 Mi ?_ Ie Ag Dw
 refine vk (DR Aw) ?_
 refine Ja (cs:=[.nl,.nl]) (c:=.nl) rfl rfl ?_ Nd
 refine rk [1,2,3] ?_;refine .seq ?_;refine .sr ?_;refine ar [1,2,3,4] ?_
 obtain ⟨K0,hK0,h⟩:=AZ h
 refine AW.mr (σ:=(List Int)×(List Itm)) (fun p=>K0 p.1 p.2=some r) (fun p=>[(2,.nb [.sl (Is []),.sl (Its [])]),(3,.bp 0 0)]) (fun p=>[HO.box [.own 3 (Is p.1),.own 58 (Its p.2)]]) ?_ ?_
 ·skip
  refine .block ?_;refine .gh (Gh.nlOwnC (id:=0) (off:=1) 58 (by rw [Ll];decide)) ?_
  refine .loop (.gk [1,2,3,4] ?_)
  refine AL.ind (σ:=Nat×Int×(List Int)×(List Itm)) (m:=fun p=>p.1) (e:=fun p=>[(1,.d (.ptr [.sl (Is a0.shape),.sl (Its a0.items)])),(2,.nb [.sl (Is []),.sl (Its [])]),(3,.bp 0 0),(4,.d (.i .i64 p.2.1))]) (h:=fun p=>[HO.box [.own 3 (Is p.2.2.1),.own 58 (Its p.2.2.2)]]) (I:=fun p=>DE rc_ref03_Copy a0 K0 p.1 p.2.1 p.2.2.1 p.2.2.2=some r) ?_ (AQ,0,x1,[]) h
  rintro ⟨k,s4,s5,s6⟩ h ih
  dsimp only at h ih ⊢
  rcases k with _|k
  ·rw [DE] at h;cases h
  rw [DE] at h
  refine .seq ?_;refine .sr ?_;refine vk (Aa) ?_;refine vk (vfa AC) ?_;refine vk (Ah Bx) ?_;refine vk (A2 (Ay _) (Cp _) Cq) ?_;refine vk (vbi) ?_;refine rk [1,2,3,4,15] ?_
  rcases brc h with ⟨hc,h⟩|⟨hc,h⟩
  ·refine cnt (dT hc) ?_
   refine .skip ?_
   show AW _ _ _ _ _ _
   refine .seq ?_;refine .block ?_;refine .drawn 9 Bh (by kernel_rfl) ?_;refine dv (DR AC) ?_;refine dv (Mj (cs:=[.own 3 (Is s5),.own 58 (Its s6)]) rfl rfl Bx) ?_;refine dv (vfa AC) ?_;refine dv (Ah Bx) ?_;refine dv (Aa) ?_
   obtain ⟨x7,g7,h⟩:=bnd h
   obtain ⟨n7,p07,q7⟩:=Aj g7
   refine dv (vix n7 p07 (Db q7) rfl C9) ?_;refine dv (AE A4 AA) ?_
   obtain ⟨x8,g8,h⟩:=bnd h
   refine dv (Aq (I0 orc_ref03_Copy g8) Tryz.call49) ?_;refine dv ((ET (EK x8) (DB [x8]) Dm).deep) ?_;refine dz ?_
   obtain ⟨x9,g9,h⟩:=bnd h
   refine Pn F9 g9 rfl rfl Ib ?_ Fk Ay Dm
   refine RL.gk [1,2,3,4,15,18,20,21,22,23,24,25,26,27] ?_;refine vk (DR AC) ?_
   refine Ja (cs:=[.own 3 (Is s5),.un]) (c:=.un) rfl rfl ?_ Jj
   refine .nil ?_
   show AW _ _ _ _ _ _
   refine .gk [1,2,3,4] ?_;refine .region ?_;refine vk (Aa) ?_;refine vk (vbi) ?_;refine asd ?_;refine .nil ?_;refine AL.gk [1,2,3,4] ?_
   exact ih (k,(w64 (s4+1)),s5,x9) h (Nat.lt_succ_self _)
  refine cnf (dF hc) ?_;refine .gk [2,3] ?_;refine .exit ?_
  exact jr (s5,s6) h
 rintro ⟨z2,z3⟩ h
 try dsimp only at h ⊢
 subst hK0
 show AW _ _ _ _ _ _
 refine .sr ?_;refine fz (p:=.c 0 0) ?_;refine fz (p:=.c 0 1) ?_;refine vk (GN (cs:=[.d (.sl (Is z2)),.d (.sl (Its z3))]) (ds:=[.sl (Is z2),.sl (Its z3)]) rfl Ad Ac) ?_
 refine stn ?_ Ac (by decide)
 refine rk [2] ?_;refine .ret ?_
 cases h
 exact ⟨_,⟨.inr rfl,Ad,Ac,p2⟩,rfl⟩
def Fl : Nat→Arr→Option (Arr)
 | 0,_=>none
 | k+1,a0=>GE (Fl k) a0
theorem GU : ∀ (k:Nat) (a0:Arr) (r:Arr),Fl k a0=some r→Fn Tryz.prog 16 [.ag [.sl (Is a0.shape),.sl (Its a0.items)]] (.d (.ag [.sl (Is r.shape),.sl (Its r.items)]))
 | 0,_,_,h=>by cases h
 | k+1,a0,_,h=>LO (GU k)  (show GE (Fl k) a0=some _ from h)
def Mc (a0:Arr) : Option (Arr):=Fl (a0.size+1) a0
theorem MO {a0:Arr} {r:Arr} (h:Mc a0=some r) : Fn Tryz.prog 16 [.ag [.sl (Is a0.shape),.sl (Its a0.items)]] (.d (.ag [.sl (Is r.shape),.sl (Its r.items)])):=GU _ a0 r  h
theorem Ma {s:List Int} (hl:s.length≤8) (K:Int→Int→Bool→Bool→Option (Int×Int)) (u v:Int) : ∀ (n i k:Nat) (b g:Bool),n=s.length-i→i≤s.length→n<k →
  Cb s K k u v b g (i:Int)=if (s.drop i).any (fun n=>decide (n<0)) then some (0,3) else K u v (b||decide (0∈s.drop i)) (g||(s.drop i).any (fun n=>decide (4096<n)))
 | _,_,0,_,_,_,_,h=>by omega
 | n,i,k+1,b,g,hn,hi,hk=>by
  rw [Cb]
  by_cases hlt:i<s.length
  ·rw [if_pos (by omega),BJ hlt,oB,lC hlt,List.any_cons]
   by_cases h0:s[i]<0
   ·rw [if_pos h0,if_pos (by simp [h0])]
   ·have e:(Option.bind (if b=true then some true else (rd? s (i:Int)).bind fun x12=>some (decide (x12=0))):(Bool→Option (Int×Int))→_)=fun f=>f (b||decide (s[i]=0)):=by
     funext f
     cases b
     ·rw [if_neg (by decide),BJ hlt];rfl
     ·rw [if_pos rfl];rfl
    rw [if_neg h0,BJ hlt] at *
    rw [oB] at e
    rw [oB,e]
    have ih:=fun b g=>Ma hl K u v (n-1) (i+1) k b g (by omega) (by omega) (by omega)
    rw [BX (by omega)]
    have hm:decide (0∈s[i]::s.drop (i+1))=(decide (s[i]=0)||decide (0∈s.drop (i+1))):=by
     rw [Bool.eq_iff_iff];simp only [List.mem_cons,Bool.or_eq_true,decide_eq_true_eq]
     exact ⟨fun h=>h.imp Eq.symm id,fun h=>h.imp Eq.symm id⟩
    rw [hm,List.any_cons,dF h0,Bool.false_or]
    dsimp only
    cases g
    ·rw [if_neg (by decide),oB,ih,Bool.or_assoc,Bool.false_or]
    ·rw [if_pos (rfl:true=true),ih,Bool.or_assoc,Bool.true_or,Bool.true_or]
  ·rw [if_neg (by omega),List.drop_of_length_le (by omega)]
   simp
theorem Mn {s:List Int} (hl:s.length≤8) (hp:∀ x∈s,1≤x∧x≤4096) (K:Int→Int→Int→Option (Int×Int)) : ∀ (n i k:Nat) (a b m:Int),n=s.length-i→i≤s.length→n<k→1≤m→m≤4096 →
  CE s K k a b m (i:Int)=if m * CO (s.drop i)≤4096 then K a b (m * CO (s.drop i)) else some (0,8)
 | n,i,0,a,b,m,_,_,h,_,_=>by omega
 | n,i,k+1,a,b,m,hn,hi,hk,h1,h2=>by
  rw [CE]
  by_cases hlt:i<s.length
  ·rw [if_pos (by omega),BJ hlt,oB,lC hlt]
   have hx:=hp s[i] (List.getElem_mem _)
   have hpos:1≤CO (s.drop (i+1)):=Jn fun x hx=>(hp x (List.mem_of_mem_drop hx)).1
   have hprod:CO (s[i]::s.drop (i+1))=s[i] * CO (s.drop (i+1)):=by unfold CO;rw [List.foldl_cons,Hq,Int.one_mul]
   have hup:m * s[i]≤4096 * 4096:=Int.le_trans (Int.mul_le_mul_of_nonneg_right h2 (by omega)) (Int.mul_le_mul_of_nonneg_left hx.2 (by omega))
   have hm1:1≤m * s[i]:=Int.le_trans (by omega:(1:Int)≤1 * 1) (Int.mul_le_mul h1 hx.1 (by omega) (by omega))
   rw [hprod,← Int.mul_assoc,B1 (by omega) (by omega)]
   by_cases hc:4096<m * s[i]
   ·rw [if_pos hc,if_neg]
    have:m * s[i] * 1≤m * s[i] * CO (s.drop (i+1)):=Int.mul_le_mul_of_nonneg_left hpos (by omega)
    omega
   ·rw [if_neg hc,oB,BX (by omega),B1 (by omega) (by omega)]
    exact Mn hl hp K (n-1) (i+1) k a b (m * s[i]) (by omega) (by omega) (by omega) hm1 (by omega)
  ·rw [if_neg (by omega),List.drop_of_length_le (by omega)]
   rw [show CO []=1 from rfl,Int.mul_one,if_pos h2]
theorem Rs (s:List Int) : Ex s=some (szP s):=by
 unfold Ex szP
 by_cases h8:8<s.length
 ·rw [if_pos (by omega),if_pos h8]
 rw [if_neg (by omega),if_neg h8,CX]
 have e1:=fun K=>Ma (s:=s) (by omega) K 0 0 s.length 0 AQ false false rfl (Nat.zero_le _) (B0 (by omega))
 simp only [List.drop_zero,Bool.false_or] at e1
 rw [show ((0:Nat):Int)=0 from rfl] at e1
 rw [e1]
 by_cases h0:s.any (fun n=>decide (n<0))=true
 ·rw [if_pos h0,if_pos h0]
 rw [if_neg h0,if_neg h0]
 by_cases h1:s.any (fun n=>decide (4096<n))=true
 ·rw [if_pos h1,if_pos h1]
 rw [if_neg h1,if_neg h1]
 by_cases h2:0∈s
 ·rw [if_pos (dT h2),if_pos h2]
 rw [if_neg (by simp [h2]),if_neg h2,CX]
 have hp:∀ x∈s,1≤x∧x≤4096:=fun x hx=>by
  simp only [List.any_eq_true,decide_eq_true_eq,not_exists,not_and] at h0 h1
  have a:=h0 x hx
  have b:=h1 x hx
  have c:x≠0:=fun e=>h2 (e▸hx)
  omega
 have:=Mn (by omega) hp (fun z4 z5 z6=>some (z6,0)) s.length 0 AQ 0 0 1 rfl (Nat.zero_le _) (B0 (by omega)) (by omega) (by omega)
 rw [List.drop_zero,Int.one_mul,show ((0:Nat):Int)=0 from rfl] at this
 rw [this]
 split<;>rfl
theorem KX (x:Itm) : Dp x=some (CM x):=by
 unfold Dp CM
 simp
theorem Jz (a:Arr) : Co a=some (AG a):=by
 unfold Co AG
 by_cases h:a.shape=[]
 ·rw [if_pos (by rw [h];rfl),h]
  match hi:a.items with
  | []=>rfl
  | [x]=>simp [rd?]
  | x::y::r =>
   rw [if_neg (by simp only [List.length_cons];omega)]
   rfl
 ·rw [if_neg]
  ·have:a.shape.isEmpty=false:=by simpa using h
   rw [this];rfl
  ·intro q
   exact h (List.length_eq_zero_iff.1 (by omega))
def PI (f:Int→Int→Option (Bool×Int×Int)) (r:Bool) (n dp:Nat) : Prop:=∀ (deep:Nat) (most:Int),deep≤17→-16384≤most→most≤16384 →
 ∃ b d c,f (deep:Int) most=some (b,d,c)∧(b=true→r=true∧d=(dp:Int)∧c=(n:Int)∧(n:Int)≤most∧deep+dp≤17)∧(r=true→deep+dp≤17→deep≤16→(n:Int)≤most→b=true)
theorem JL {rc:Arr→Int→Int→Option (Bool×Int×Int)} {a:Arr} {deep:Nat} {most:Int} (hd:deep≤16) (hm1:most≤16384) (ho:∀ x∈a.items,okI x) (hlen:a.items.length≤4096) (hrc:∀ x∈a.items,∀ b∈x.box,PI (rc b) (rA b) (cA b) (dA b))
  (hns:∀ x∈a.items,∀ b∈x.box,AG b=false→1≤dA b) (K:Bool→Int→Int→Int→Int→Option (Bool×Int×Int)) (u:Bool) (v w:Int):∀ (n i k:Nat) (D C:Nat),n=a.items.length-i→i≤a.items.length→n<k→(C:Int)≤most→D≤17 →
  (AI rc a (deep:Int) most K k u v w (D:Int) (C:Int) (i:Int)=some (false,0,0)∧¬(rIs (a.items.drop i)=true∧(dIs (a.items.drop i)=0∨deep+1+dIs (a.items.drop i)≤17)∧((C+cIs (a.items.drop i):Nat):Int)≤most)) ∨
  (AI rc a (deep:Int) most K k u v w (D:Int) (C:Int) (i:Int)=K u v w ((max D (dIs (a.items.drop i)):Nat):Int) ((C+cIs (a.items.drop i):Nat):Int)∧rIs (a.items.drop i)=true∧((C+cIs (a.items.drop i):Nat):Int)≤most∧(dIs (a.items.drop i)=0∨deep+1+dIs (a.items.drop i)≤17))
 | _,_,0,_,_,_,_,h,_,_=>by omega
 | n,i,k+1,D,C,hn,hi,hk,hC,hD=>by
  rw [AI]
  by_cases hlt:i<a.items.length
  rotate_left
  ·rw [if_neg (by omega),List.drop_of_length_le (by omega)]
   refine .inr ⟨?_,rfl,by simpa [cIs] using hC,.inl rfl⟩
   simp [dIs,cIs]
  have ih:=fun D C=>JL hd hm1 ho hlen hrc hns K u v w (n-1) (i+1) k D C (by omega) (by omega) (by omega)
  have hmem:=List.getElem_mem hlt
  have hox:=(DN _).1 (ho _ hmem)
  have hrb:=hrc _ hmem
  have hnb:=hns _ hmem
  rw [if_pos (by omega),BJ hlt,lC hlt,CX,oB,BX (by omega)]
  simp only [rIs,dIs,cIs]
  generalize a.items[i]=x at *
  generalize a.items.drop (i+1)=xs at *
  have e0:(((x.box.length:Nat):Int)=0)↔x.box.length=0:=by omega
  have e1:(((x.box.length:Nat):Int)=1)↔x.box.length=1:=by omega
  -- an item without a box that is right
  have plain:rI x=true→x.box=[] →
    (AI rc a (deep:Int) most K k u v w (D:Int) (C:Int) ((i+1:Nat):Int)=some (false,0,0)∧¬((rI x&&rIs xs)=true∧(max (dI x) (dIs xs)=0∨deep+1+max (dI x) (dIs xs)≤17)∧((C+(cI x+cIs xs):Nat):Int)≤most)) ∨
    (AI rc a (deep:Int) most K k u v w (D:Int) (C:Int) ((i+1:Nat):Int)=K u v w ((max D (max (dI x) (dIs xs)):Nat):Int) ((C+(cI x+cIs xs):Nat):Int)∧(rI x&&rIs xs)=true∧((C+(cI x+cIs xs):Nat):Int)≤most∧(max (dI x) (dIs xs)=0∨deep+1+max (dI x) (dIs xs)≤17)):=by
   intro hr hb
   have hd0:dI x=0:=by rw [LV,hb];simp [dBs]
   have hc0:cI x=0:=by rw [Kw,hb];simp [cBs]
   rw [hr,hd0,hc0,Bool.true_and,Nat.zero_add,Nat.zero_max]
   exact ih D C hC hD
  have bad:rI x=false→(some (false,(0:Int),(0:Int))=some (false,(0:Int),(0:Int))∧¬((rI x&&rIs xs)=true∧(max (dI x) (dIs xs)=0∨deep+1+max (dI x) (dIs xs)≤17)∧((C+(cI x+cIs xs):Nat):Int)≤most)) ∨
    (some (false,(0:Int),(0:Int))=K u v w ((max D (max (dI x) (dIs xs)):Nat):Int) ((C+(cI x+cIs xs):Nat):Int)∧(rI x&&rIs xs)=true∧((C+(cI x+cIs xs):Nat):Int)≤most∧(max (dI x) (dIs xs)=0∨deep+1+max (dI x) (dIs xs)≤17)):=fun hr=>.inl ⟨rfl,by rw [hr];simp⟩
  by_cases k1:x.kind=1
  ·have hrI:rI x=(DS x.num&&(decide (x.char=0)&&decide (x.box.length=0))):=by rw [K8,if_pos k1]
   have c1:∀ f:Bool→Option (Bool×Int×Int),Option.bind (if x.kind=1 then (Hu x.num).bind fun x18=>if x18=true then if x.char=0 then some (decide (((List.length x.box:Nat):Int)=0)) else some false else some false else some false) f=f (rI x):=by
    intro f
    rw [if_pos k1,M0 hox.2.1,oB,hrI]
    cases DS x.num
    ·rfl
    ·by_cases hc:x.char=0
     ·rw [if_pos rfl,if_pos hc,oB,dT hc,decide_eq_decide.2 e0];rfl
     ·rw [if_pos rfl,if_neg hc,dF hc];rfl
   rw [c1]
   by_cases hr:rI x=true
   ·rw [if_pos hr]
    refine plain hr ?_
    rw [hrI] at hr
    simp only [Bool.and_eq_true,decide_eq_true_eq] at hr
    exact List.length_eq_zero_iff.1 hr.2.2
   ·rw [if_neg hr,if_neg (by omega),oB,if_neg (by decide),if_neg (by omega),oB,if_neg (by decide)]
    exact bad (by simpa using hr)
  rw [if_neg k1,oB,if_neg (by decide)]
  by_cases k2:x.kind=2
  ·have hrI:rI x=(chB x.char&&(CM x&&decide (x.box.length=0))):=by rw [K8,if_neg k1,if_pos k2]
   have c1:∀ f:Bool→Option (Bool×Int×Int),Option.bind (if x.kind=2 then (Eb x.char).bind fun x20=>if x20=true then (Dp x).bind fun x21=>if x21=true then some (decide (((List.length x.box:Nat):Int)=0)) else some false else some false else some false) f=f (rI x):=by
    intro f
    rw [if_pos k2,show Eb x.char=some (chB x.char) from rfl,oB,hrI]
    cases chB x.char
    ·rfl
    ·rw [if_pos rfl,KX,oB]
     cases CM x
     ·rfl
     ·rw [if_pos rfl,oB,decide_eq_decide.2 e0];rfl
   rw [c1]
   by_cases hr:rI x=true
   ·rw [if_pos hr]
    refine plain hr ?_
    rw [hrI] at hr
    simp only [Bool.and_eq_true,decide_eq_true_eq] at hr
    exact List.length_eq_zero_iff.1 hr.2.2
   ·rw [if_neg hr,if_neg (by omega),oB,if_neg (by decide)]
    exact bad (by simpa using hr)
  rw [if_neg k2,oB,if_neg (by decide)]
  by_cases k3:x.kind=3
  rotate_left
  ·rw [if_neg k3,oB,if_neg (by decide)]
   exact bad (by rw [K8,if_neg k1,if_neg k2,if_neg k3])
  have hrI:rI x=(decide (x.box.length=1)&&(CM x&&(decide (x.char=0)&&rBs x.box))):=by rw [K8,if_neg k1,if_neg k2,if_pos k3]
  rw [if_pos k3]
  by_cases h1:x.box.length=1
  rotate_left
  ·rw [if_neg (by omega),oB,if_neg (by decide)]
   exact bad (by rw [hrI,dF h1];rfl)
  obtain ⟨b,hb⟩:=List.length_eq_one_iff.1 h1
  rw [if_pos (by omega),KX,oB]
  by_cases h2:CM x=true
  rotate_left
  ·rw [if_neg h2,oB,if_neg (by decide)]
   exact bad (by rw [hrI,Bool.eq_false_iff.2 h2];simp)
  rw [if_pos h2]
  by_cases h3:x.char=0
  rotate_left
  ·rw [if_neg h3,oB,if_neg (by decide)]
   exact bad (by rw [hrI,dF h3];simp)
  rw [if_pos h3,hb,N1,oB,Jz,oB,oB]
  have hrI':rI x=(!AG b&&rA b):=by rw [hrI,dT h1,h2,dT h3,hb];simp [rBs]
  by_cases h4:AG b=true
  ·rw [if_neg (by rw [h4];decide)]
   exact bad (by rw [hrI',h4];rfl)
  have h4':AG b=false:=by simpa using h4
  rw [if_pos (by rw [h4'];rfl),oB,B1 (by omega) (by omega),B1 (by omega) (by omega)]
  have hbm:b∈x.box:=by simp [hb]
  have hdI:dI x=dA b:=by rw [LV,hb];simp [dBs]
  have hcI:cI x=cA b:=by rw [Kw,hb];simp [cBs]
  have hd1:=hnb b hbm h4'
  obtain ⟨bb,d,c,hf,p1,p2⟩:=hrb b hbm (deep+1) (most-(C:Int)) (by omega) (by omega) (by omega)
  rw [show ((deep:Int)+1)=((deep+1:Nat):Int) by omega,hf,oB]
  rw [hdI,hcI,hrI',h4']
  simp only [Bool.not_false,Bool.true_and]
  by_cases hbb:bb=true
  ·obtain ⟨q1,q2,q3,q4,q5⟩:=p1 hbb
   subst q2 q3
   rw [if_pos hbb,CX,B1 (by omega) (by omega),q1,Bool.true_and]
   have hmax:(if (D:Int)<(dA b:Int) then (AI rc a (deep:Int) most K k u v w (dA b:Int) ((C:Int)+(cA b:Int)) ((i+1:Nat):Int)) else (AI rc a (deep:Int) most K k u v w (D:Int) ((C:Int)+(cA b:Int)) ((i+1:Nat):Int)))=AI rc a (deep:Int) most K k u v w ((max D (dA b):Nat):Int) ((C+cA b:Nat):Int) ((i+1:Nat):Int):=by
    split
    ·rw [show max D (dA b)=dA b by omega];rfl
    ·rw [show max D (dA b)=D by omega];rfl
   rw [hmax]
   rcases ih (max D (dA b)) (C+cA b) (by omega) (by omega) with ⟨g1,g2⟩|⟨g1,g2,g3,g4⟩
   ·refine .inl ⟨g1,fun ⟨w1,w2,w3⟩=>g2 ⟨w1,?_,by omega⟩⟩
    rcases w2 with w2|w2
    ·omega
    ·exact .inr (by omega)
   ·refine .inr ⟨?_,g2,by omega,.inr (by omega)⟩
    rw [g1,Nat.max_assoc,Nat.add_assoc]
  ·rw [if_neg hbb]
   refine .inl ⟨rfl,fun ⟨w1,w2,w3⟩=>hbb (p2 ?_ ?_ ?_ ?_)⟩
   ·simp only [Bool.and_eq_true] at w1;exact w1.1
   ·rcases w2 with w2|w2<;>omega
   ·rcases w2 with w2|w2<;>omega
   ·omega
theorem Ss {a:Arr} (h:AG a=false) : 1≤dA a:=by rw [GX,if_neg (by rw [h];decide)];omega
def Px (rc:Arr→Int→Int→Option (Bool×Int×Int)) (a0:Arr) (a1 a2 z2:Int) : Option (Bool×Int×Int):=(if ((!(decide (((List.length a0.items:Nat) : Int)=z2)))||(decide (a2<z2)))=true then (some (false,0,0)) else (jn (fun (_:Bool) (_:Int) (_:Int) (z6:Int) (z7:Int)=>((Co a0).bind fun x29=>(jn (fun (z30:Int)=>(some ((decide (z7≤a2)),z30,z7))) fun K5=>(if x29=true then (K5 z6) else (K5 (w64 (z6+1))))))) fun K1=>(AI rc a0 a1 a2 K1 AQ false 0 0 0 z2 0)))
theorem VP (rc:Arr→Int→Int→Option (Bool×Int×Int)) (a0:Arr) (a1 a2:Int) : CJ rc a0 a1 a2=(Ex a0.shape).bind fun x1=>if (!decide (x1.2=0)||decide (16<a1))=true then some (false,0,0) else Px rc a0 a1 a2 (if x1.1=0 then 1 else x1.1):=by
 unfold CJ
 congr 1
 funext x1
 by_cases h:(!decide (x1.2=0)||decide (16<a1))=true
 ·rw [if_pos h,if_pos h]
 ·rw [if_neg h,if_neg h,CX]
  by_cases q:x1.1=0
  ·rw [if_pos q,if_pos q];rfl
  ·rw [if_neg q,if_neg q];rfl
theorem OH {rc:Arr→Int→Int→Option (Bool×Int×Int)} {a:Arr} (oa:okAr a) (hrc:∀ x∈a.items,∀ b∈x.box,PI (rc b) (rA b) (cA b) (dA b)) : PI (CJ rc a) (rA a) (cA a) (dA a):=by
 intro deep most h1 h2 h3
 have o:=(Bj a).1 oa
 have hz:=Gx a.shape
 rw [VP,Rs,oB]
 have hrA:=HR a
 by_cases g1:(szP a.shape).2=0∧deep≤16
 rotate_left
 ·rw [if_pos]
  ·refine ⟨_,_,_,rfl,fun q=>absurd q (by decide),fun q1 q2 q3=>?_⟩
   rw [hrA] at q1
   simp only [Bool.and_eq_true,decide_eq_true_eq] at q1
   exact absurd ⟨q1.1,q3⟩ g1
  ·simp only [Bool.or_eq_true,Bool.not_eq_true',decide_eq_false_iff_not,decide_eq_true_eq]
   by_cases q:(szP a.shape).2=0
   ·exact .inr (by have:¬deep≤16:=fun w=>g1 ⟨q,w⟩;omega)
   ·exact .inl q
 rw [if_neg (by
  simp only [Bool.or_eq_true,Bool.not_eq_true',decide_eq_false_iff_not,decide_eq_true_eq]
  rintro (q|q)
  ·exact q g1.1
  ·omega)]
 have hK:(if (szP a.shape).1=0 then 1 else (szP a.shape).1)=(if (szP a.shape).1<1 then 1 else (szP a.shape).1):=by
  by_cases q:(szP a.shape).1=0
  ·rw [if_pos q,if_pos (by omega)]
  ·rw [if_neg q,if_neg (by omega)]
 rw [hK]
 unfold Px
 by_cases g2:(a.items.length:Int)=(if (szP a.shape).1<1 then 1 else (szP a.shape).1)
 rotate_left
 ·rw [if_pos (by simp [g2])]
  refine ⟨_,_,_,rfl,fun q=>absurd q (by decide),fun q1 q2 q3=>?_⟩
  rw [hrA] at q1
  simp only [Bool.and_eq_true,decide_eq_true_eq] at q1
  exact absurd q1.2.1 g2
 have hcA:=G0 a
 have hdA:=GX a
 have hlen:a.items.length≤4096:=by split at g2<;>omega
 rw [← g2]
 by_cases g3:most<(a.items.length:Int)
 ·rw [if_pos (by simp [g3])]
  exact ⟨_,_,_,rfl,fun q=>absurd q (by decide),fun _ _ _ q=>by omega⟩
 rw [if_neg (by simpa using g3),CX]
 have hrA':rA a=rIs a.items:=by rw [hrA,dT g1.1,dT g2];rfl
 have loop:=fun K=>JL (rc:=rc) (a:=a) (deep:=deep) (most:=most) g1.2 h3 o.2.2.2 hlen hrc (fun _ _ b _=>Ss) K false 0 0 a.items.length 0 AQ 0 a.items.length rfl (Nat.zero_le _) (B0 (by omega)) (by omega) (by omega)
 simp only [List.drop_zero] at loop
 rw [show ((0:Nat):Int)=0 from rfl] at loop
 rcases loop _ with ⟨q1,q2⟩|⟨q1,q2,q3,q4⟩
 ·rw [q1]
  refine ⟨_,_,_,rfl,fun q=>absurd q (by decide),fun w1 w2 w3 w4=>?_⟩
  refine absurd ⟨hrA'▸w1,?_,by rw [← hcA];exact w4⟩ q2
  by_cases hs:AG a=true
  ·exact .inl (Hf hs (hrA'▸w1)).1
  ·rw [if_neg hs] at hdA;exact .inr (by omega)
 ·rw [q1,Jz,oB,CX,Nat.zero_max]
  have hdI:dIs a.items≤17:=by omega
  have hdone:(dA a:Int)=if AG a=true then ((dIs a.items:Nat):Int) else w64 (((dIs a.items:Nat):Int)+1):=by
   by_cases hs:AG a=true
   ·rw [if_pos hs,(Hf hs q2).1,hdA,if_pos hs]
   ·rw [if_neg hs,hdA,if_neg hs,B1 (by omega) (by omega)];omega
  have hle:decide (((a.items.length+cIs a.items:Nat):Int)≤most)=true:=dT q3
  have hdp:deep+dA a≤17:=by
   rw [hdA]
   by_cases hs:AG a=true
   ·rw [if_pos hs];omega
   ·rw [if_neg hs];omega
  refine ⟨true,(dA a:Int),(cA a:Int),?_,fun _=>⟨by rw [hrA',q2],rfl,rfl,by rw [hcA];exact q3,hdp⟩,fun _ _ _ _=>rfl⟩
  rw [hdone,hcA]
  by_cases hs:AG a=true
  ·rw [if_pos hs,if_pos hs,hle]
  ·rw [if_neg hs,if_neg hs,hle]
theorem Na : ∀ (k:Nat) {a:Arr},a.size<k→okAr a→PI (CU k a) (rA a) (cA a) (dA a)
 | 0,_,h,_=>by omega
 | k+1,a,h,oa=>by
  have o:=(Bj a).1 oa
  have:=OH (rc:=CU k) oa fun x hx b hb=>Na k (by have:=Ht hx;have:=FQ hb;omega) (((DN x).1 (o.2.2.2 x hx)).2.2.2.2 b hb)
  exact this
theorem OL {a:Arr} (oa:okAr a) : EP a=some (decide (AT a)):=by
 obtain ⟨b,d,c,h1,h2,h3⟩:=Na _ (Nat.lt_succ_self _) oa 0 16384 (by omega) (by omega) (by omega)
 unfold EP Gy
 rw [show ((0:Nat):Int)=0 from rfl] at h1
 rw [h1,oB]
 show some (b&&decide (d≤16))=_
 congr 1
 by_cases hb:b=true
 ·obtain ⟨q1,q2,q3,q4,q5⟩:=h2 hb
  rw [hb,q2,Bool.true_and]
  refine decide_eq_decide.2 ⟨fun w=>⟨q1,by omega,by omega⟩,fun w=>?_⟩
  have:=w.2.1;omega
 ·have hb':b=false:=by simpa using hb
  rw [hb',Bool.false_and]
  refine (dF fun w=>hb (h3 w.1 ?_ (by omega) ?_)).symm
  ·have:=w.2.1;omega
  ·have:=w.2.2;omega
theorem EX : Tryz.prog.underlying 70=some (.map 21 69):=by kernel_rfl
def Uf : List (Int×DV):=[(44,.fn 81 [] []),(9066,.fn 81 [] []),(9021,.fn 82 [] []),(8854,.fn 82 [] []),(47,.fn 83 [] []),(9023,.fn 83 [] []),(92,.fn 84 [] []),(9024,.fn 84 [] [])]
theorem S8 : Fn Tryz.prog 39 [] (.d (.mp (Uf.map fun p=>.i .i32 p.1) (Uf.map (·.2)))):=by
 refine Fn.o1 0 3 Tryz.func39 ?_;refine .sr ?_;refine asu ?_;refine rn ?_;refine .sr ?_;refine vk (VF) ?_;refine I7 EX gkR freshK.nil ?_;refine I7 EX gkR (freshK.snoc (z:=9066) (z':=44) freshK.nil (by decide)) ?_;refine I7 EX gkR (freshK.snoc (z:=9021) (z':=9066) (freshK.snoc (z:=9021) (z':=44) freshK.nil (by decide)) (by decide)) ?_;refine I7 EX gkR (freshK.snoc (z:=8854) (z':=9021) (freshK.snoc (z:=8854) (z':=9066) (freshK.snoc (z:=8854) (z':=44) freshK.nil (by decide)) (by decide)) (by decide)) ?_;refine I7 EX gkR (freshK.snoc (z:=47) (z':=8854) (freshK.snoc (z:=47) (z':=9021) (freshK.snoc (z:=47) (z':=9066) (freshK.snoc (z:=47) (z':=44) freshK.nil (by decide)) (by decide)) (by decide)) (by decide)) ?_;refine I7 EX gkR (freshK.snoc (z:=9023) (z':=47) (freshK.snoc (z:=9023) (z':=8854) (freshK.snoc (z:=9023) (z':=9021) (freshK.snoc (z:=9023) (z':=9066) (freshK.snoc (z:=9023) (z':=44) freshK.nil (by decide)) (by decide)) (by decide)) (by decide)) (by decide)) ?_;refine I7 EX gkR (freshK.snoc (z:=92) (z':=9023) (freshK.snoc (z:=92) (z':=47) (freshK.snoc (z:=92) (z':=8854) (freshK.snoc (z:=92) (z':=9021) (freshK.snoc (z:=92) (z':=9066) (freshK.snoc (z:=92) (z':=44) freshK.nil (by decide)) (by decide)) (by decide)) (by decide)) (by decide)) (by decide)) ?_;refine I7 EX gkR (freshK.snoc (z:=9024) (z':=92) (freshK.snoc (z:=9024) (z':=9023) (freshK.snoc (z:=9024) (z':=47) (freshK.snoc (z:=9024) (z':=8854) (freshK.snoc (z:=9024) (z':=9021) (freshK.snoc (z:=9024) (z':=9066) (freshK.snoc (z:=9024) (z':=44) freshK.nil (by decide)) (by decide)) (by decide)) (by decide)) (by decide)) (by decide)) (by decide)) ?_;refine RL.gh (Gh.omf (t:=1) rfl) ?_;refine RL.gk [1] ?_;refine vk (Aa) ?_;refine asd ?_;refine rn ?_;refine .ret ?_
 exact ⟨rfl,rfl⟩
def KS : List (Int×Cr):=[(44,⟨.fn 81 [] [],fun _=>none⟩),(9066,⟨.fn 81 [] [],fun _=>none⟩),(9021,⟨.fn 82 [] [],fun x=>A7 x.1 x.2.1 x.2.2⟩),(8854,⟨.fn 82 [] [],fun x=>A7 x.1 x.2.1 x.2.2⟩),(47,⟨.fn 83 [] [],fun _=>none⟩),(9023,⟨.fn 83 [] [],fun _=>none⟩),(92,⟨.fn 84 [] [],fun _=>none⟩),(9024,⟨.fn 84 [] [],fun _=>none⟩)]
theorem SY : (KS.map (·.1)).Nodup:=by show List.Nodup [(44:Int),(9066:Int),(9021:Int),(8854:Int),(47:Int),(9023:Int),(92:Int),(9024:Int)];decide
theorem Q8 : ∀ p∈KS,Dx p.2∧isF p.2.dv:=by
 intro p hp
 simp only [KS,List.mem_cons,List.not_mem_nil,or_false] at hp
 rcases hp with rfl|rfl|rfl|rfl|rfl|rfl|rfl|rfl
 ·exact ⟨Ek Tryz.call81 (fun _ _ h=>nomatch h),_,_,_,rfl⟩
 ·exact ⟨Ek Tryz.call81 (fun _ _ h=>nomatch h),_,_,_,rfl⟩
 ·exact ⟨Ek Tryz.call82 (fun _ _ h=>F4 h),_,_,_,rfl⟩
 ·exact ⟨Ek Tryz.call82 (fun _ _ h=>F4 h),_,_,_,rfl⟩
 ·exact ⟨Ek Tryz.call83 (fun _ _ h=>nomatch h),_,_,_,rfl⟩
 ·exact ⟨Ek Tryz.call83 (fun _ _ h=>nomatch h),_,_,_,rfl⟩
 ·exact ⟨Ek Tryz.call84 (fun _ _ h=>nomatch h),_,_,_,rfl⟩
 ·exact ⟨Ek Tryz.call84 (fun _ _ h=>nomatch h),_,_,_,rfl⟩
theorem SQ {z:Int} {f:Cr} (h:GO KS z=some f) : Dx f∧isF f.dv:=Q8 _ (Kk h)
theorem Sb : Fn Tryz.prog 39 [] (.d (TW .i32 KS)):=S8
def Dk (a0:Int) : Option (Bool):=((HM (⟨#[226,141,180,44,226,141,170,226,134,145,226,134,147,226,140,189,226,138,150,226,141,137,47,226,140,191,92,226,141,128]⟩ : ByteArray) a0).bind fun x1=>(some (x1)))
theorem Fm {a0:Int} {r:Bool} (h:Dk a0=some r) :
  Fn Tryz.prog 21 [.i .i32 a0] (.d (.b r)):=by
 unfold Dk at h
 refine Fn.o1 2 5 Tryz.func21 ?_;refine .sr ?_;refine ar [0,2] ?_;refine .sr ?_;refine vk (Aa) ?_
 obtain ⟨x1,g1,h⟩:=bnd h
 refine vk (Aq (KJ g1) Tryz.call42) ?_;refine ar [2] ?_;refine .ret ?_
 cases h
 exact ⟨rfl,rfl⟩
def ED (a0:Int) (a1:Arr) (a2:Arr) : Option (Arr):=((HM (⟨#[44,226,141,170]⟩ : ByteArray) a0).bind fun x1=>(if (x1&&(decide (((List.length a2.shape:Nat) : Int)<((List.length a1.shape:Nat) : Int))))=true then (some (a1)) else (some (a2))))
theorem Jl {a0:Int} {a1:Arr} {a2:Arr} {r:Arr} (h:ED a0 a1 a2=some r) :
  Fn Tryz.prog 41 [.i .i32 a0,.ag [.sl (Is a1.shape),.sl (Its a1.items)],.ag [.sl (Is a2.shape),.sl (Its a2.items)]] (.d (.ag [.sl (Is r.shape),.sl (Its r.items)])):=by
 unfold ED at h
 refine Fn.ofC (rs:=[.cell 6 27]) (nt:=20) Tryz.func41 rfl rfl rfl (by simp) rfl ?_;refine .sr ?_;refine vk (vbx) ?_;refine vk (vbx) ?_;refine vk (van (Am AB) AJ) ?_;refine rk [0,4,5,6] ?_;refine .seq ?_;refine .seq ?_
 obtain ⟨x1,g1,h⟩:=bnd h
 refine AW.mr (σ:=Unit) (fun _=>True) (fun _=>[(4,.d (.ptr [.sl (Is a1.shape),.sl (Its a1.items)])),(5,.d (.ptr [.sl (Is a2.shape),.sl (Its a2.items)])),(6,.nb [.sl (Is []),.sl (Its [])]),(17,.d (.b (x1&&(decide (((List.length a2.shape:Nat):Int)<((List.length a1.shape:Nat):Int))))))]) (fun _=>[]) ?_ ?_
 ·skip
  refine .region ?_;refine vk (Aa) ?_;refine vk (Aq (KJ g1) Tryz.call42) ?_
  by_cases hc:x1=true
  ·have hb0:x1=true:=hc
   refine vk (VOK.lit (Aa) hb0) ?_;refine vk (vfa Aw) ?_;refine vk (Ah A9) ?_;refine vk (A2 (Ag _) (Bt _) Bk) ?_;refine vk (vfa Aw) ?_;refine vk (Ah A9) ?_;refine vk (A2 (Ag _) (Bt _) Bk) ?_;refine vk (vbi) ?_;refine vk (Af) ?_;refine RL.gk [4,5,6,17] ?_;refine .nil ?_
   exact jr () trivial (by simp only [hb0];rfl)
  have hb0:x1=false:=(bf hc)
  refine vk (VOK.lit (Aa) hb0) ?_;refine gf ?_;refine gf ?_;refine gf ?_;refine gf ?_;refine gf ?_;refine gf ?_;refine gf ?_;refine vk (Af) ?_;refine RL.gk [4,5,6,17] ?_;refine .nil ?_
  exact jr () trivial (by simp only [hb0];rfl)
 rintro _ _
 rcases brc h with ⟨hc,h⟩|⟨hc,h⟩
 ·refine cnt hc ?_
  refine .sr ?_;refine vk (AE Ad Ac) ?_
  refine stn ?_ Ac (by decide)
  refine rk [5,6] ?_;refine .ret ?_
  cases h
  exact ⟨_,⟨.inr rfl,Ad,Ac,p2⟩,rfl⟩
 refine cnf (bf hc) ?_;refine .skip ?_
 show AW _ _ _ _ _ _
 refine .sr ?_;refine vk (AE Ad Ac) ?_
 refine stn ?_ Ac (by decide)
 refine rk [6] ?_;refine .ret ?_
 cases h
 exact ⟨_,⟨.inr rfl,Ad,Ac,p2⟩,rfl⟩
def CC (a0:(Int×RT×Int)) (a1:Int) (a2:Arr) (a3:Arr) : Option (Arr×Int):=((Dk a1).bind fun x1=>(if x1=true then ((Dg a0 ([a2,a3])).bind fun x2=>(if x2=true then (if a1=9076 then ((EA a2).bind fun x3=>(if x3.2=0 then ((AU x3.1 a3.items).bind fun x4=>(some (x4.1,x4.2))) else (some ((Arr.mk [] []),x3.2)))) else (if a1=8593 then none else (if a1=8595 then ((Im a2 a3).bind fun x5=>(some (x5.1,x5.2))) else (if a1=9033 then none else ((GO KS a1).bind fun x6=>((ED a1 a2 a3).bind fun x7=>((HM (⟨#[226,141,170,226,138,150,226,140,191,226,141,128]⟩ : ByteArray) a1).bind fun x8=>((HB x7 x8).bind fun x9=>((x6.g (a2,a3,x9)).bind fun x10=>(some (x10.1,x10.2))))))))))) else (some ((Arr.mk [] []),22)))) else (some ((Arr.mk [] []),23))))
theorem DO {a0:(Int×RT×Int)} {a1:Int} {a2:Arr} {a3:Arr} {r:Arr×Int} (h:CC a0 a1 a2 a3=some r) :
  Fn Tryz.prog 11 [.ag [.i .i64 a0.1,.b a0.2.1.1,.sl (L a0.2.1.2.1),.sl (L a0.2.1.2.2),.i .i64 a0.2.2],.i .i32 a1,.ag [.sl (Is a2.shape),.sl (Its a2.items)],.ag [.sl (Is a3.shape),.sl (Its a3.items)]] (.tup [.d (.ag [.sl (Is r.1.shape),.sl (Its r.1.items)]),.d (.i .i64 r.2)]):=by
 unfold CC at h
 refine Fn.ofC (rs:=[.cell 8 27,.tmp 9]) (nt:=80) Tryz.func11 rfl rfl rfl (by simp) rfl ?_;refine .sr ?_;refine vk (vbx) ?_;refine vk (vbx) ?_;refine vk (vbx) ?_;refine vk (van (Am AB) AJ) ?_;refine ar [1,4,6,7,8,9] ?_;refine .seq ?_;refine .block ?_;refine .sr ?_;refine vk (Aa) ?_
 obtain ⟨x1,g1,h⟩:=bnd h
 refine vk (Aq (Fm g1) Tryz.call21) ?_;refine vk (vnt) ?_;refine ar [1,4,6,7,8,9,12] ?_
 rcases brc h with ⟨hc,h⟩|⟨hc,h⟩
 ·refine cnf (ntf hc) ?_
  refine .sr ?_;refine vk (AE PH Nn) ?_;refine vk (AE Ad Ac) ?_;refine vk (AE Ad Ac) ?_;refine vk ((ET (TS a2 a3) (G8 [a2,a3]) Ih).deep) ?_
  obtain ⟨x2,g2,h⟩:=bnd h
  refine vk (Aq (GT g2) Tryz.call34) ?_;refine vk (vnt) ?_;refine ar [1,4,6,7,8,9,17] ?_
  rcases brc h with ⟨hc,h⟩|⟨hc,h⟩
  ·refine cnf (ntf hc) ?_
   refine .skip ?_
   show AW _ _ _ _ _ _
   refine .seq ?_;refine .sr ?_;refine vk (Aa) ?_;refine rk [1,4,6,7,8,9,25] ?_;refine .block ?_;refine .sr ?_;refine vk (vbi) ?_;refine ar [1,4,6,7,8,9,25,26] ?_
   rcases brc h with ⟨hc,h⟩|⟨hc,h⟩
   ·refine cnt (dT hc) ?_
    refine .sr ?_;refine vk (AE Ad Ac) ?_
    obtain ⟨x3,g3,h⟩:=bnd h
    refine vk (VOK.tupd (vs:=[.sl (Is x3.1),.i .i64 x3.2]) (Aq (FN g3) Tryz.call35)) ?_;refine vk (Aa) ?_;refine vk (vex) ?_;refine vk (vex) ?_;refine asd ?_;refine ar [1,6,7,8,9,10,11] ?_;refine .seq ?_;refine .sr ?_;refine vk (Aa) ?_;refine vk (vbi) ?_;refine rk [1,6,7,8,9,10,11,34] ?_
    rcases brc h with ⟨hc,h⟩|⟨hc,h⟩
    ·refine cnf (ntf (dT hc)) ?_
     refine .skip ?_
     show AW _ _ _ _ _ _
     refine .sr ?_;refine vk (Aa) ?_;refine vk (vfa AC) ?_;refine vk (Ah Bx) ?_
     obtain ⟨x4,g4,h⟩:=bnd h
     refine vk (VOK.tupd (vs:=[.ag [.sl (Is x4.1.shape),.sl (Its x4.1.items)],.i .i64 x4.2]) (Aq (FC g4) Tryz.call10)) ?_;refine vk (vex) ?_;refine vk (vex) ?_
     refine stn ?_ Ac (by decide)
     refine ar [1,6,7,8,9] ?_;refine .ret ?_
     cases h
     exact ⟨_,_,⟨.inr rfl,Ad,Ac,p2⟩,rfl,rfl⟩
    refine cnt (ntt (dF hc)) ?_;refine .sr ?_;refine vk (vbd CG AB AJ) ?_;refine vk (Aa) ?_
    refine stn ?_ Ac (by decide)
    refine ar [1,6,7,8,9,10] ?_;refine .ret ?_
    cases h
    exact ⟨_,_,⟨.inr rfl,Ad,Ac,p2⟩,rfl,rfl⟩
   refine cnf (dF hc) ?_;refine .sr ?_;refine vk (vbi) ?_;refine ar [1,4,6,7,8,9,25,43] ?_
   rcases brc h with ⟨hc,h⟩|⟨hc,h⟩
   ·refine cnt (dT hc) ?_
    refine .sr ?_;refine vk (AE Ad Ac) ?_;refine vk (AE Ad Ac) ?_
    exact nomatch h
   refine cnf (dF hc) ?_;refine .sr ?_;refine vk (vbi) ?_;refine ar [1,4,6,7,8,9,25,50] ?_
   rcases brc h with ⟨hc,h⟩|⟨hc,h⟩
   ·refine cnt (dT hc) ?_
    refine .sr ?_;refine vk (AE Ad Ac) ?_;refine vk (AE Ad Ac) ?_
    obtain ⟨x5,g5,h⟩:=bnd h
    refine vk (VOK.tupd (vs:=[.ag [.sl (Is x5.1.shape),.sl (Its x5.1.items)],.i .i64 x5.2]) (Aq (LA g5) Tryz.call37)) ?_;refine vk (vex) ?_;refine vk (vex) ?_
    refine stn ?_ Ac (by decide)
    refine ar [1,6,7,8,9] ?_;refine .ret ?_
    cases h
    exact ⟨_,_,⟨.inr rfl,Ad,Ac,p2⟩,rfl,rfl⟩
   refine cnf (dF hc) ?_;refine .sr ?_;refine vk (vbi) ?_;refine ar [1,4,6,7,8,9,57] ?_
   rcases brc h with ⟨hc,h⟩|⟨hc,h⟩
   ·refine cnt (dT hc) ?_
    refine .sr ?_;refine vk (AE PH Nn) ?_;refine vk (AE Ad Ac) ?_;refine vk (AE Ad Ac) ?_
    exact nomatch h
   refine cnf (dF hc) ?_;refine .skip ?_
   show AW _ _ _ _ _ _
   refine .seq ?_;refine .drawn 15 Bh (by kernel_rfl) ?_;refine dv (Aq Sb Tryz.call39) ?_;refine dv (Aa) ?_
   obtain ⟨x6,g6,h⟩:=bnd h
   obtain ⟨ox6,isx6⟩:=SQ g6
   refine dv (Uc SY EX gkR g6) ?_;refine dv (AE Ad Ac) ?_;refine dv (AE Ad Ac) ?_;refine dv (Aa) ?_;refine dv (AE Ad Ac) ?_;refine dv (AE Ad Ac) ?_
   obtain ⟨x7,g7,h⟩:=bnd h
   refine dv (Aq (Jl g7) Tryz.call41) ?_;refine dv (Aa) ?_
   obtain ⟨x8,g8,h⟩:=bnd h
   refine dv (Aq (KJ g8) Tryz.call42) ?_
   obtain ⟨x9,g9,h⟩:=bnd h
   refine dv (Aq (IJ g9) Tryz.call40) ?_
   obtain ⟨x10,g10,h⟩:=bnd h
   refine dv (VOK.tupd (vs:=[.ag [.sl (Is x10.1.shape),.sl (Its x10.1.items)],.i .i64 x10.2]) (NJ (ox6 _ _ g10))) ?_;refine dv (vex) ?_;refine dv (vex) ?_;refine dz ?_
   refine stn ?_ Ac (by decide)
   refine ar [8,9] ?_;refine .ret ?_
   cases h
   exact ⟨_,_,⟨.inr rfl,Ad,Ac,p2⟩,rfl,rfl⟩
  refine cnt (ntt (bf hc)) ?_;refine .sr ?_;refine vk (vbd CG AB AJ) ?_
  refine stn ?_ Ac (by decide)
  refine ar [1,4,6,7,8,9] ?_;refine .ret ?_
  cases h
  exact ⟨_,_,⟨.inr rfl,Ad,Ac,p2⟩,rfl,rfl⟩
 refine cnt (ntt (bf hc)) ?_;refine .sr ?_;refine vk (vbd CG AB AJ) ?_
 refine stn ?_ Ac (by decide)
 refine ar [1,4,6,7,8,9] ?_;refine .ret ?_
 cases h
 exact ⟨_,_,⟨.inr rfl,Ad,Ac,p2⟩,rfl,rfl⟩
def D4 : Option ((Int×RT×Int)):=(some ((1,(false,[],[]),0)))
theorem D8 {r:(Int×RT×Int)} (h:D4=some r) :
  Fn Tryz.prog 12 [] (.d (.ag [.i .i64 r.1,.b r.2.1.1,.sl (L r.2.1.2.1),.sl (L r.2.1.2.2),.i .i64 r.2.2])):=by
 unfold D4 at h
 refine Fn.ofC (rs:=[.cell 0 36]) (nt:=2) Tryz.func12 rfl rfl rfl (by simp) rfl ?_;refine .sr ?_;refine vk (van (Am TZ) T7) ?_;refine rk [0] ?_;refine .sr ?_;refine vk (vbd VL TZ T7) ?_
 refine stn ?_ Nn (by decide)
 refine rk [0] ?_;refine .ret ?_
 cases h
 exact ⟨_,⟨.inr rfl,PH,Nn,(by decide:(0:Nat)<5)⟩,rfl⟩
def Fe : Option (Bool):=(D4.bind fun x1=>((O6 ([2,2])).bind fun x2=>((O6 ([1,2,3])).bind fun x3=>((CC x1 9076 x2 x3).bind fun x4=>(D4.bind fun x5=>((FI x5 9033 x4.1).bind fun x6=>(Option.bind ((if x4.2=0 then (if x6.2=0 then (if ((List.length x6.1.items:Nat) : Int)=4 then ((Ba x6.1).bind fun x8=>(if x8=true then ((Mc x6.1).bind fun x9=>((HC x6.1 x9).bind fun x10=>(if x10=true then ((Dk 9066).bind fun x11=>(if x11=true then ((Hp x4.1 x6.1).bind fun x12=>(some (!x12))) else (some false))) else (some false)))) else (some false))) else (some false)) else (some false)) else (some false)) : Option (Bool)) fun (z7:Bool)=>(some (z7)))))))))
theorem HS {r:Bool} (h:Fe=some r) :
  Fn Tryz.prog 9 [] (.d (.b r)):=by
 unfold Fe at h
 refine Fn.o1 0 51 Tryz.func9 ?_;refine .sr ?_;refine ar [0] ?_;refine .sr ?_
 obtain ⟨x1,g1,h⟩:=bnd h
 refine vk (Aq (D8 g1) Tryz.call12) ?_;refine vk ((LD (EG [2,2]) Dw).deep) ?_
 obtain ⟨x2,g2,h⟩:=bnd h
 refine vk (Aq (LW g2) Tryz.call13) ?_;refine vk ((LD (EG [1,2,3]) Dw).deep) ?_
 obtain ⟨x3,g3,h⟩:=bnd h
 refine vk (Aq (LW g3) Tryz.call13) ?_
 obtain ⟨x4,g4,h⟩:=bnd h
 refine vk (VOK.tupd (vs:=[.ag [.sl (Is x4.1.shape),.sl (Its x4.1.items)],.i .i64 x4.2]) (Aq (DO g4) Tryz.call11)) ?_;refine vk (Aa) ?_;refine vk (vex) ?_;refine vk (vex) ?_;refine vk (van (Am AB) AJ) ?_
 refine stn ?_ Ac (by decide)
 refine ar [0,1,2] ?_;refine .seq ?_
 obtain ⟨x5,g5,h⟩:=bnd h
 obtain ⟨x6,g6,h⟩:=bnd h
 refine .drawnF 7 [5] [(3,.nb [.sl (Is x6.1.shape),.sl (Its x6.1.items)])] [] Bh (by kernel_rfl) rfl ?_;refine dv (Aq (D8 g5) Tryz.call12) ?_;refine dv (HL Ad Ac) ?_;refine dv (VOK.tupd (vs:=[.ag [.sl (Is x6.1.shape),.sl (Its x6.1.items)],.i .i64 x6.2]) (Aq (Jh g6) Tryz.call17)) ?_;refine dv (Aa) ?_;refine dv (vex) ?_;refine dv (vex) ?_;refine dv (van (Am AB) AJ) ?_;refine dz ?_
 refine ⟨?_,?_,?_⟩
 ·intro k hk
  simp only [List.mem_cons,List.not_mem_nil,or_false] at hk
  subst hk
  exact ⟨_,_,_,rfl,rfl,rfl,rfl,rfl,rfl,vex⟩
 ·intro om e hom hge
  cases hom
  exact Lp (cs:=[.sl (Is []),.sl (Its [])]) (cs':=[.sl (Is x6.1.shape),.sl (Its x6.1.items)]) Ac (by decide) rfl ((hge 3 (fun k hk v hv=>by
    simp only [List.mem_cons,List.not_mem_nil,or_false] at hk
    subst hk;exact (by decide:¬(some 19=some 3)) (congrArg (Option.map Prod.fst) hv))).trans rfl) ((congrArg A1 (hge 18 (fun k hk v hv=>by
    simp only [List.mem_cons,List.not_mem_nil,or_false] at hk
    subst hk;exact (by decide:¬(some 19=some 18)) (congrArg (Option.map Prod.fst) hv)))).trans rfl) rfl rfl rfl rfl ⟨rfl,rfl⟩
 refine ar [0,1,2,3,4] ?_;refine .seq ?_;refine .gh (Gh.nbp (t:=3) rfl) ?_
 obtain ⟨z7,hz,h⟩:=bnd h
 refine AW.mr (σ:=Unit) (fun _=>True) (fun _=>[(0,.d (.b z7))]) (fun _=>[]) ?_ ?_
 ·skip
  refine .drawn 31 Bh (by kernel_rfl) ?_;refine dv (Aa) ?_;refine dv (vbi) ?_
  rcases brc hz with ⟨hc,hz⟩|⟨hc,hz⟩
  ·have hb0:(decide (x4.2=0))=true:=(dT hc)
   refine dv (VOK.lit (Aa) hb0) ?_;refine dv (Aa) ?_;refine dv (vbi) ?_;refine dv (Af) ?_
   rcases brc hz with ⟨hc,hz⟩|⟨hc,hz⟩
   ·have hb1:(decide (x6.2=0))=true:=(dT hc)
    refine dv (VOK.lit (Aa) hb1) ?_;refine dv (vfa AC) ?_;refine dv (Ah Bx) ?_;refine dv (A2 (Ay _) (Cp _) Cq) ?_;refine dv (vbi) ?_;refine dv (Af) ?_
    rcases brc hz with ⟨hc,hz⟩|⟨hc,hz⟩
    ·have hb2:(decide (((List.length x6.1.items:Nat):Int)=4))=true:=(dT hc)
     refine dv (VOK.lit (Aa) hb2) ?_;refine dv (AE Ad Ac) ?_
     obtain ⟨x8,g8,hz⟩:=bnd hz
     refine dv (Aq (BC g8) Tryz.call15) ?_;refine dv (Af) ?_
     rcases brc hz with ⟨hc,hz⟩|⟨hc,hz⟩
     ·have hb3:x8=true:=hc
      refine dv (VOK.lit (Aa) hb3) ?_;refine dv (AE Ad Ac) ?_;refine dv (AE Ad Ac) ?_
      obtain ⟨x9,g9,hz⟩:=bnd hz
      refine dv (Aq (MO g9) Tryz.call16) ?_
      obtain ⟨x10,g10,hz⟩:=bnd hz
      refine dv (Aq (IG g10) Tryz.call14) ?_;refine dv (Af) ?_
      rcases brc hz with ⟨hc,hz⟩|⟨hc,hz⟩
      ·have hb4:x10=true:=hc
       refine dv (VOK.lit (Aa) hb4) ?_
       obtain ⟨x11,g11,hz⟩:=bnd hz
       refine dv (Aq (Fm g11) Tryz.call21) ?_;refine dv (Af) ?_
       rcases brc hz with ⟨hc,hz⟩|⟨hc,hz⟩
       ·have hb5:x11=true:=hc
        refine dv (VOK.lit (Aa) hb5) ?_;refine dv (HL Ad Ac) ?_;refine dv (AE Ad Ac) ?_
        obtain ⟨x12,g12,hz⟩:=bnd hz
        refine dv (Aq (Li g12) Tryz.call25) ?_;refine dv (vnt) ?_;refine dv (Af) ?_;refine dz ?_;refine asd ?_;refine RL.gk [0] ?_;refine .nil ?_
        cases hz
        exact jr () trivial
       have hb5:x11=false:=(bf hc)
       refine dv (VOK.lit (Aa) hb5) ?_;refine dgf ?_;refine dgf ?_;refine dgf ?_;refine dgf ?_;refine dv (Af) ?_;refine dz ?_;refine asd ?_;refine RL.gk [0] ?_;refine .nil ?_
       cases hz
       exact jr () trivial
      have hb4:x10=false:=(bf hc)
      refine dv (VOK.lit (Aa) hb4) ?_;refine dgf ?_;refine dv (Af) ?_;refine dv (Aa) ?_;refine dgf ?_;refine dgf ?_;refine dgf ?_;refine dgf ?_;refine dv (Af) ?_;refine dz ?_;refine asd ?_;refine RL.gk [0] ?_;refine .nil ?_
      cases hz
      exact jr () trivial
     have hb3:x8=false:=(bf hc)
     refine dv (VOK.lit (Aa) hb3) ?_;refine dgf ?_;refine dgf ?_;refine dgf ?_;refine dgf ?_;refine dv (Af) ?_;refine dv (Aa) ?_;refine dgf ?_;refine dv (Af) ?_;refine dv (Aa) ?_;refine dgf ?_;refine dgf ?_;refine dgf ?_;refine dgf ?_;refine dv (Af) ?_;refine dz ?_;refine asd ?_;refine RL.gk [0] ?_;refine .nil ?_
     cases hz
     exact jr () trivial
    have hb2:(decide (((List.length x6.1.items:Nat):Int)=4))=false:=(dF hc)
    refine dv (VOK.lit (Aa) hb2) ?_;refine dgf ?_;refine dgf ?_;refine dv (Af) ?_;refine dv (Aa) ?_;refine dgf ?_;refine dgf ?_;refine dgf ?_;refine dgf ?_;refine dv (Af) ?_;refine dv (Aa) ?_;refine dgf ?_;refine dv (Af) ?_;refine dv (Aa) ?_;refine dgf ?_;refine dgf ?_;refine dgf ?_;refine dgf ?_;refine dv (Af) ?_;refine dz ?_;refine asd ?_;refine RL.gk [0] ?_;refine .nil ?_
    cases hz
    exact jr () trivial
   have hb1:(decide (x6.2=0))=false:=(dF hc)
   refine dv (VOK.lit (Aa) hb1) ?_;refine dgf ?_;refine dgf ?_;refine dgf ?_;refine dgf ?_;refine dv (Af) ?_;refine dv (Aa) ?_;refine dgf ?_;refine dgf ?_;refine dv (Af) ?_;refine dv (Aa) ?_;refine dgf ?_;refine dgf ?_;refine dgf ?_;refine dgf ?_;refine dv (Af) ?_;refine dv (Aa) ?_;refine dgf ?_;refine dv (Af) ?_;refine dv (Aa) ?_;refine dgf ?_;refine dgf ?_;refine dgf ?_;refine dgf ?_;refine dv (Af) ?_;refine dz ?_;refine asd ?_;refine RL.gk [0] ?_;refine .nil ?_
   cases hz
   exact jr () trivial
  have hb0:(decide (x4.2=0))=false:=(dF hc)
  refine dv (VOK.lit (Aa) hb0) ?_;refine dgf ?_;refine dgf ?_;refine dv (Af) ?_;refine dv (Aa) ?_;refine dgf ?_;refine dgf ?_;refine dgf ?_;refine dgf ?_;refine dv (Af) ?_;refine dv (Aa) ?_;refine dgf ?_;refine dgf ?_;refine dv (Af) ?_;refine dv (Aa) ?_;refine dgf ?_;refine dgf ?_;refine dgf ?_;refine dgf ?_;refine dv (Af) ?_;refine dv (Aa) ?_;refine dgf ?_;refine dv (Af) ?_;refine dv (Aa) ?_;refine dgf ?_;refine dgf ?_;refine dgf ?_;refine dgf ?_;refine dv (Af) ?_;refine dz ?_;refine asd ?_;refine RL.gk [0] ?_;refine .nil ?_
  cases hz
  exact jr () trivial
 rintro _ _
 refine .ret ?_
 cases h
 exact ⟨rfl,rfl⟩
end Go.FL
namespace Go.FL
open Go Go.RowKit Go.ChangeShapes Go.WideShapes Go.ChangeAt
section
variable {H:Type}
def OpF (enc:TypeId×Value→H) (P:Program) (W:World) (n:Nat) (t:TypeId) {α:Type} (F:α→List DV) (Q:α→Prop) : Prop :=
 ∀ (fuel:Nat) (cs:List Value) (x:DataW H×List MemPlace),fuel≤n→DataW.trod enc P W 0 (fun _=>true) true fuel t cs=some x→(∀ m∈DataW.weights P t x.1,m≤reachBytes) →
  ∃ a,Q a∧RepAll W (fun b=>b<W.heap.size) (F a) cs∧∀ u∈cs,u.oneCell'=true
variable {enc:TypeId×Value→H} {P:Program} {W:World}
theorem OpF.mono {n m t:Nat} {α:Type} {F:α→List DV} {Q:α→Prop} (h:OpF enc P W n t F Q) (hm:m≤n) : OpF enc P W m t F Q:=fun fuel cs x hf=>h fuel cs x (by omega)
theorem OpF.map {n t:Nat} {α β:Type} {F:α→List DV} {Q:α→Prop} {G:β→List DV} {R:β→Prop} (h:OpF enc P W n t F Q) (f:∀ a,Q a→∃ b,R b∧F a=G b) : OpF enc P W n t G R:=fun fuel cs x hf h1 h2=>by
 obtain ⟨a,q,r,c⟩:=h fuel cs x hf h1 h2
 obtain ⟨b,rb,e⟩:=f a q
 exact ⟨b,rb,e▸r,c⟩
theorem MT {n t:Nat} {k:IntKind} (ht:P.underlying t=some (.int k)) : OpF enc P W n t (fun z:Int=>[.i k z]) (fun z=>(Lit.int k z).wf=true):=fun fuel cs x _ h _=>by
 obtain ⟨z,rfl,_,hw⟩:=DataW.trod_int ht h
 exact ⟨z,hw,.cons (.i _ _) .nil,by simp [Value.oneCell']⟩
theorem Tb {n t:Nat} (ht:P.underlying t=some .bool) : OpF enc P W n t (fun z:Bool=>[.b z]) (fun _=>True):=fun fuel cs x _ h _=>by
 obtain ⟨z,rfl,_⟩:=DataW.trod_bool ht h
 exact ⟨z,trivial,.cons (.b _) .nil,by simp [Value.oneCell']⟩
theorem Hi {e:TypeId} : ∀ {ds:List (DataW H)} {d:DataW H},d∈ds→∀ q∈DataW.weights P e d,q∈DataW.weightsAll P e ds
 | d::ds,d',hd,q,hq=>by
  rw [DataW.weightsAll,List.mem_append]
  rcases List.mem_cons.1 hd with rfl|hd
  ·exact .inl hq
  ·exact .inr (Hi hd q hq)
theorem Iz {n t e sz:Nat} {α:Type} {F:α→List DV} {Q:α→Prop} (D:α→DV) (ht:P.underlying t=some (.slice e)) (hs:P.cellsOf e=sz) (h0:0<sz) (hD:∀ a,(D a).cells=F a) (h:OpF enc P W n e F Q) :
  OpF enc P W (n+1) t (fun xs:List α=>[.sl (xs.map D)]) (fun xs=>(∀ x∈xs,Q x)∧xs.length * P.bytesOf e≤reachBytes):=by
 intro fuel cs x hf hx hw
 rcases DataW.trod_slice ht hx with ⟨rfl,rfl⟩|⟨a,len,cap,elems,rest,m,rfl,rfl,rfl,hb,hl,hm,hlen,hel,_,_⟩
 ·exact ⟨[],⟨by simp,by simp⟩,.cons (.sl0 _ _) .nil,by simp [Value.oneCell']⟩
 ·simp only [DataW.weights,ht] at hw
  have hroom:(elems.length+rest.length) * P.bytesOf e≤reachBytes:=by
   have:=hw ((elems.length+rest.length) * P.bytesOf e) (by simp)
   exact this
  have each:∀ i,i<len→∃ vs y,W.cells? 0 (a.add (i * P.cellsOf e)) (P.cellsOf e)=some vs∧DataW.trod enc P W 0 (fun _=>true) true m e vs=some y∧∀ q∈DataW.weights P e y.1,q≤reachBytes:=by
   intro i hi
   have h1:=hel i hi
   rw [lG (show i<elems.length by omega)] at h1
   obtain ⟨vs,h2,h3⟩:=Option.bind_eq_some_iff.1 h1
   refine ⟨vs,_,h2,h3,fun q hq=>hw q ?_⟩
   simp only [List.mem_cons,List.mem_append]
   exact .inr (.inl (Hi (d:=(elems[i]'(by omega)).1) (List.mem_map_of_mem (List.getElem_mem _)) q hq))
  by_cases hlen0:len=0
  ·subst hlen0
   exact ⟨[],⟨by simp,by simp⟩,.cons (.sl0 _ _) .nil,by simp [Value.oneCell']⟩
  ·obtain ⟨b,off,spot⟩:=a
   have hspot:spot=none:=by
    obtain ⟨vs,y,h1,_,_⟩:=each 0 (by omega)
    obtain ⟨_,k2,k3⟩:=World.cells?_some h1
    have h4:=k3 0 (by omega)
    rw [lG (show 0<vs.length by omega)] at h4
    simpa [Addr.add] using World.cell?_spot h4
   subst hspot
   have build:∀ j,j≤len→∃ (xs:List α) (vs:List Value),xs.length=j∧(∀ x∈xs,Q x)∧Has W b off vs∧RepRows W (fun b=>b<W.heap.size) sz (xs.map D) vs:=by
    intro j
    induction j with
    | zero=>exact fun _=>⟨[],[],rfl,by simp,fun j u hj=>by simp at hj,.nil _⟩
    | succ j ih =>
     intro hj
     obtain ⟨xs,vs,k1,k2,k3,k4⟩:=ih (by omega)
     obtain ⟨us,y,g1,g2,g3⟩:=each j (by omega)
     obtain ⟨_,g4,g5⟩:=World.cells?_some g1
     obtain ⟨x,q1,q2,q3⟩:=h m us y (by omega) g2 g3
     have hvl:=k4.length
     rw [List.length_map,k1] at hvl
     refine ⟨xs++[x],vs++us,by simp [k1],?_,?_,?_⟩
     ·intro z hz
      rcases List.mem_append.1 hz with hz|hz
      ·exact k2 z hz
      ·simp at hz;subst hz;exact q1
     ·intro i u hi
      rw [List.getElem?_append] at hi
      split at hi
      ·exact k3 i u hi
      ·rename_i hge
       have:=g5 (i-vs.length) (by have:=(lS.1 hi).1;omega)
       rw [hi] at this
       rw [← this,hs]
       have e1:off+i=off+j * sz+(i-vs.length):=by omega
       rw [e1,add_plain,add_plain]
     ·rw [List.map_append]
      refine k4.append ?_
      have:=RepRows.cons (sz:=sz) (x:=D x) (xs:=[]) (us:=us) (vs:=[]) (by omega) q3 (by rw [hD];exact q2) (.nil sz)
      simpa using this
   obtain ⟨xs,vs,k1,k2,k3,k4⟩:=build len (Nat.le_refl _)
   have hne:xs≠[]:=fun h=>by subst h;simp at k1;omega
   have hlt:b<W.heap.size:=by
    obtain ⟨us,y,g1,_,_⟩:=each 0 (by omega)
    have:=World.cells?_block g1 (by omega)
    rwa [add_plain] at this
   refine ⟨xs,⟨k2,nT (Nat.mul_le_mul_right _ (by omega)) hroom⟩,.cons ?_ .nil,by simp [Value.oneCell']⟩
   have:=Rep.sl (w:=W) (I:=fun b=>b<W.heap.size) (xs.map D) b off sz cap vs (by simpa using hne) (by rw [List.length_map,k1];exact hl) hlt h0 k3 k4
   rwa [List.length_map,k1] at this
def fTO (P:Program) (t:TypeId) : Option (List (TypeId×Nat)):=match P.underlying t with
 | some (.struct fs)=>some (fs.toList.map fun f=>(f.type,f.offset))
 | _=>none
theorem KI {t:Nat} {l:List (TypeId×Nat)} (h:fTO P t=some l) : ∃ fs,P.underlying t=some (.struct fs)∧fs.toList.map (fun f=>(f.type,f.offset))=l:=by
 unfold fTO at h
 split at h
 ·rename_i fs hu;exact ⟨fs,hu,oI h⟩
 ·cases h
theorem Pe {α0 α1:Type} {t n:Nat} {T0 s0:Nat} {F0:α0→List DV} {Q0:α0→Prop} {T1 s1:Nat} {F1:α1→List DV} {Q1:α1→Prop} (ht:fTO P t=some [(T0,0),(T1,s0)]) (hc:P.cellsOf t=s0+s1) (z0:P.cellsOf T0=s0) (h0:OpF enc P W n T0 F0 Q0) (z1:P.cellsOf T1=s1) (h1:OpF enc P W n T1 F1 Q1) :
  OpF enc P W (n+1) t (fun a:α0×α1=>F0 a.1++(F1 a.2)) (fun a=>Q0 a.1∧Q1 a.2):=by
 intro fuel cs x hf h hw
 obtain ⟨fs,hu,hfs⟩:=KI ht
 obtain ⟨xs,m,rfl,rfl,hl,hlen,hfield⟩:=DataW.trod_struct hu h
 have hsz:fs.size=2:=by have:=congrArg List.length hfs;simpa using this
 have hm:m≤n:=by omega
 have each:∀ (i T off:Nat),[(T0,0),(T1,s0)][i]?=some (T,off)→∃ y,DataW.trod enc P W 0 (fun _=>true) true m T ((cs.drop off).take (P.cellsOf T))=some y∧∀ q∈DataW.weights P T y.1,q≤reachBytes:=by
  intro i T off hi
  rw [← hfs] at hi
  obtain ⟨f,hf1,hf2⟩:∃ f,fs[i]?=some f∧(f.type,f.offset)=(T,off):=by
   rw [List.getElem?_map,Option.map_eq_some_iff] at hi
   obtain ⟨f,h1,h2⟩:=hi
   exact ⟨f,by simpa using h1,h2⟩
  cases hf2
  have hi2:i<xs.length:=by have:=(Array.getElem?_eq_some_iff.1 hf1).1;omega
  refine ⟨xs[i],by rw [hfield i f hf1,lG hi2],fun q hq=>hw q ?_⟩
  simp only [DataW.weights,hu]
  exact DataW.weights_mem_each (j:=i) (by simp [hf1]) (by simp [hi2]) q hq
 obtain ⟨y0,e0,w0⟩:=each 0 T0 (0) rfl
 obtain ⟨a0,q0,r0,c0⟩:=h0 m _ y0 hm e0 w0
 rw [z0] at r0 c0
 obtain ⟨y1,e1,w1⟩:=each 1 T1 (s0) rfl
 obtain ⟨a1,q1,r1,c1⟩:=h1 m _ y1 hm e1 w1
 rw [z1] at r1 c1
 have hcs:cs=(cs.drop (0)).take s0++(cs.drop (s0)).take s1:=by
  have hl2:cs.length=s0+s1:=by rw [hl,hc]
  clear each hfield h
  apply List.ext_getElem?
  intro j
  simp only [List.getElem?_append,List.getElem?_take,List.getElem?_drop,List.length_take,List.length_drop]
  repeat' split
  all_goals first|(congr 1;omega)|(rw [List.getElem?_eq_none (by omega)])
 refine ⟨(a0,a1),⟨q0,q1⟩,?_,?_⟩
 ·rw [hcs];exact (r0.append r1)
 ·intro u hu2
  rw [hcs] at hu2
  simp only [List.mem_append] at hu2
  rcases hu2 with hu2|hu2
  ·exact c0 u hu2
  ·exact c1 u hu2
theorem Pb {α0 α1 α2:Type} {t n:Nat} {T0 s0:Nat} {F0:α0→List DV} {Q0:α0→Prop} {T1 s1:Nat} {F1:α1→List DV} {Q1:α1→Prop} {T2 s2:Nat} {F2:α2→List DV} {Q2:α2→Prop} (ht:fTO P t=some [(T0,0),(T1,s0),(T2,s0+s1)]) (hc:P.cellsOf t=s0+s1+s2) (z0:P.cellsOf T0=s0) (h0:OpF enc P W n T0 F0 Q0) (z1:P.cellsOf T1=s1) (h1:OpF enc P W n T1 F1 Q1) (z2:P.cellsOf T2=s2) (h2:OpF enc P W n T2 F2 Q2) :
  OpF enc P W (n+1) t (fun a:α0×α1×α2=>F0 a.1++(F1 a.2.1++(F2 a.2.2))) (fun a=>Q0 a.1∧Q1 a.2.1∧Q2 a.2.2):=by
 intro fuel cs x hf h hw
 obtain ⟨fs,hu,hfs⟩:=KI ht
 obtain ⟨xs,m,rfl,rfl,hl,hlen,hfield⟩:=DataW.trod_struct hu h
 have hsz:fs.size=3:=by have:=congrArg List.length hfs;simpa using this
 have hm:m≤n:=by omega
 have each:∀ (i T off:Nat),[(T0,0),(T1,s0),(T2,s0+s1)][i]?=some (T,off)→∃ y,DataW.trod enc P W 0 (fun _=>true) true m T ((cs.drop off).take (P.cellsOf T))=some y∧∀ q∈DataW.weights P T y.1,q≤reachBytes:=by
  intro i T off hi
  rw [← hfs] at hi
  obtain ⟨f,hf1,hf2⟩:∃ f,fs[i]?=some f∧(f.type,f.offset)=(T,off):=by
   rw [List.getElem?_map,Option.map_eq_some_iff] at hi
   obtain ⟨f,h1,h2⟩:=hi
   exact ⟨f,by simpa using h1,h2⟩
  cases hf2
  have hi2:i<xs.length:=by have:=(Array.getElem?_eq_some_iff.1 hf1).1;omega
  refine ⟨xs[i],by rw [hfield i f hf1,lG hi2],fun q hq=>hw q ?_⟩
  simp only [DataW.weights,hu]
  exact DataW.weights_mem_each (j:=i) (by simp [hf1]) (by simp [hi2]) q hq
 obtain ⟨y0,e0,w0⟩:=each 0 T0 (0) rfl
 obtain ⟨a0,q0,r0,c0⟩:=h0 m _ y0 hm e0 w0
 rw [z0] at r0 c0
 obtain ⟨y1,e1,w1⟩:=each 1 T1 (s0) rfl
 obtain ⟨a1,q1,r1,c1⟩:=h1 m _ y1 hm e1 w1
 rw [z1] at r1 c1
 obtain ⟨y2,e2,w2⟩:=each 2 T2 (s0+s1) rfl
 obtain ⟨a2,q2,r2,c2⟩:=h2 m _ y2 hm e2 w2
 rw [z2] at r2 c2
 have hcs:cs=(cs.drop (0)).take s0++((cs.drop (s0)).take s1++(cs.drop (s0+s1)).take s2):=by
  have hl2:cs.length=s0+s1+s2:=by rw [hl,hc]
  clear each hfield h
  apply List.ext_getElem?
  intro j
  simp only [List.getElem?_append,List.getElem?_take,List.getElem?_drop,List.length_take,List.length_drop]
  repeat' split
  all_goals first|(congr 1;omega)|(rw [List.getElem?_eq_none (by omega)])
 refine ⟨(a0,a1,a2),⟨q0,q1,q2⟩,?_,?_⟩
 ·rw [hcs];exact (r0.append (r1.append r2))
 ·intro u hu2
  rw [hcs] at hu2
  simp only [List.mem_append] at hu2
  rcases hu2 with hu2|hu2|hu2
  ·exact c0 u hu2
  ·exact c1 u hu2
  ·exact c2 u hu2
theorem Ot {α0 α1 α2 α3:Type} {t n:Nat} {T0 s0:Nat} {F0:α0→List DV} {Q0:α0→Prop} {T1 s1:Nat} {F1:α1→List DV} {Q1:α1→Prop} {T2 s2:Nat} {F2:α2→List DV} {Q2:α2→Prop} {T3 s3:Nat} {F3:α3→List DV} {Q3:α3→Prop} (ht:fTO P t=some [(T0,0),(T1,s0),(T2,s0+s1),(T3,s0+s1+s2)]) (hc:P.cellsOf t=s0+s1+s2+s3) (z0:P.cellsOf T0=s0) (h0:OpF enc P W n T0 F0 Q0) (z1:P.cellsOf T1=s1) (h1:OpF enc P W n T1 F1 Q1) (z2:P.cellsOf T2=s2) (h2:OpF enc P W n T2 F2 Q2) (z3:P.cellsOf T3=s3) (h3:OpF enc P W n T3 F3 Q3) :
  OpF enc P W (n+1) t (fun a:α0×α1×α2×α3=>F0 a.1++(F1 a.2.1++(F2 a.2.2.1++(F3 a.2.2.2)))) (fun a=>Q0 a.1∧Q1 a.2.1∧Q2 a.2.2.1∧Q3 a.2.2.2):=by
 intro fuel cs x hf h hw
 obtain ⟨fs,hu,hfs⟩:=KI ht
 obtain ⟨xs,m,rfl,rfl,hl,hlen,hfield⟩:=DataW.trod_struct hu h
 have hsz:fs.size=4:=by have:=congrArg List.length hfs;simpa using this
 have hm:m≤n:=by omega
 have each:∀ (i T off:Nat),[(T0,0),(T1,s0),(T2,s0+s1),(T3,s0+s1+s2)][i]?=some (T,off)→∃ y,DataW.trod enc P W 0 (fun _=>true) true m T ((cs.drop off).take (P.cellsOf T))=some y∧∀ q∈DataW.weights P T y.1,q≤reachBytes:=by
  intro i T off hi
  rw [← hfs] at hi
  obtain ⟨f,hf1,hf2⟩:∃ f,fs[i]?=some f∧(f.type,f.offset)=(T,off):=by
   rw [List.getElem?_map,Option.map_eq_some_iff] at hi
   obtain ⟨f,h1,h2⟩:=hi
   exact ⟨f,by simpa using h1,h2⟩
  cases hf2
  have hi2:i<xs.length:=by have:=(Array.getElem?_eq_some_iff.1 hf1).1;omega
  refine ⟨xs[i],by rw [hfield i f hf1,lG hi2],fun q hq=>hw q ?_⟩
  simp only [DataW.weights,hu]
  exact DataW.weights_mem_each (j:=i) (by simp [hf1]) (by simp [hi2]) q hq
 obtain ⟨y0,e0,w0⟩:=each 0 T0 (0) rfl
 obtain ⟨a0,q0,r0,c0⟩:=h0 m _ y0 hm e0 w0
 rw [z0] at r0 c0
 obtain ⟨y1,e1,w1⟩:=each 1 T1 (s0) rfl
 obtain ⟨a1,q1,r1,c1⟩:=h1 m _ y1 hm e1 w1
 rw [z1] at r1 c1
 obtain ⟨y2,e2,w2⟩:=each 2 T2 (s0+s1) rfl
 obtain ⟨a2,q2,r2,c2⟩:=h2 m _ y2 hm e2 w2
 rw [z2] at r2 c2
 obtain ⟨y3,e3,w3⟩:=each 3 T3 (s0+s1+s2) rfl
 obtain ⟨a3,q3,r3,c3⟩:=h3 m _ y3 hm e3 w3
 rw [z3] at r3 c3
 have hcs:cs=(cs.drop (0)).take s0++((cs.drop (s0)).take s1++((cs.drop (s0+s1)).take s2++(cs.drop (s0+s1+s2)).take s3)):=by
  have hl2:cs.length=s0+s1+s2+s3:=by rw [hl,hc]
  clear each hfield h
  apply List.ext_getElem?
  intro j
  simp only [List.getElem?_append,List.getElem?_take,List.getElem?_drop,List.length_take,List.length_drop]
  repeat' split
  all_goals first|(congr 1;omega)|(rw [List.getElem?_eq_none (by omega)])
 refine ⟨(a0,a1,a2,a3),⟨q0,q1,q2,q3⟩,?_,?_⟩
 ·rw [hcs];exact (r0.append (r1.append (r2.append r3)))
 ·intro u hu2
  rw [hcs] at hu2
  simp only [List.mem_append] at hu2
  rcases hu2 with hu2|hu2|hu2|hu2
  ·exact c0 u hu2
  ·exact c1 u hu2
  ·exact c2 u hu2
  ·exact c3 u hu2
theorem TK {t:TypeId} {v:Value} {d:DataW H} {ps:List MemPlace} {α:Type} {F:α→List DV} {Q:α→Prop} (h:∀ n,OpF enc P W n t F Q) (hv:∃ cs,v=.agg cs)
  (hd:DataW.Trod enc P W 0 (fun _=>true) true t v d ps) (hw:∀ m∈DataW.weights P t d,m≤reachBytes):∃ a,Q a∧Rep W (fun b=>b<W.heap.size) (.ag (F a)) v:=by
 obtain ⟨cs,rfl⟩:=hv
 obtain ⟨fuel,hf⟩:=hd
 obtain ⟨a,q,r,_⟩:=h fuel fuel _ _ (Nat.le_refl _) hf hw
 have:=Rep.ag _ _ r
 exact ⟨a,q,by simpa [Value.cells] using this⟩
end
end Go.FL
namespace Go.FL
open Go Go.Proofs
section
variable {H:Type} {enc:TypeId×Value→H} {W:World}
theorem QF {n:Nat} : OpF enc Tryz.prog W (n+1) 32 (fun a:List Nat=>[.sl (L a)]) (fun a=>okL 35184372087808 a=true):=by
 refine (Iz (α:=Int) (F:=fun z=>[.i .u32 z]) (sz:=1) (fun z=>.i .u32 z) (by kernel_rfl:Tryz.prog.underlying 32=some (.slice 128)) (by kernel_rfl) (by decide) (fun _=>rfl) (MT (by kernel_rfl))).map fun zs hz=>?_
 obtain ⟨a,h1,h2⟩:=NA zs hz.1
 refine ⟨a,Iu.2 ⟨h1,?_⟩,by rw [← h2]⟩
 have h3:=hz.2
 rw [show Tryz.prog.bytesOf 128=4 by kernel_rfl,show reachBytes=140737488351232 by decide] at h3
 have:=congrArg List.length h2
 rw [List.length_map,Ab] at this
 omega
theorem NE (n:Nat) : OpF enc Tryz.prog W n 32 (fun a:List Nat=>[.sl (L a)]) (fun a=>okL 35184372087808 a=true):=QF.mono (Nat.le_succ n)
theorem UV (n:Nat) : OpF enc Tryz.prog W n 34 (fun r:RT=>[.b r.1,.sl (L r.2.1),.sl (L r.2.2)]) (fun r=>Ia r=true):=by
 refine OpF.mono (n:=n+1) ((Pb (t:=34) (T0:=4) (T1:=32) (T2:=32) (s0:=1) (s1:=1) (s2:=1) (by kernel_rfl) (by kernel_rfl) (by kernel_rfl) (Tb (by kernel_rfl)) (by kernel_rfl) (NE n) (by kernel_rfl) (NE n)).map fun r hr=>?_) (Nat.le_succ n)
 exact ⟨r,by rw [Ia,hr.2.1,hr.2.2];rfl,rfl⟩
end
section
variable {H:Type} {enc:TypeId×Value→H} {W:World}
theorem Sn {n:Nat} : OpF enc Tryz.prog W (n+1) 24 (fun l:List Int=>[.sl (Is l)]) (fun l=>(∀ z∈l,-9223372036854775808≤z∧z≤9223372036854775807)∧l.length≤17592186044416):=by
 refine (Iz (α:=Int) (F:=fun z=>[.i .i64 z]) (sz:=1) (fun z=>.i .i64 z) (by kernel_rfl:Tryz.prog.underlying 24=some (.slice 3)) (by kernel_rfl) (by decide) (fun _=>rfl) (MT (by kernel_rfl))).map fun zs hz=>?_
 refine ⟨zs,⟨fun z h=>?_,?_⟩,rfl⟩
 ·have:=hz.1 z h
  simp [Lit.wf,IntKind.min,IntKind.max,IntKind.signed,IntKind.bits] at this
  omega
 ·have h3:=hz.2
  rw [show Tryz.prog.bytesOf 3=8 by kernel_rfl,show reachBytes=140737488351232 by decide] at h3
  omega
theorem To (n:Nat) : OpF enc Tryz.prog W n 24 (fun l:List Int=>[.sl (Is l)]) (fun l=>(∀ z∈l,-9223372036854775808≤z∧z≤9223372036854775807)∧l.length≤17592186044416):=Sn.mono (Nat.le_succ n)
def cI6 (x:Itm) : List DV:=[.i .u8 x.kind,.b x.num.1,.sl (L x.num.2.1),.sl (L x.num.2.2),.i .i32 x.char,.sl (Ars x.box)]
def cA2 (a:Arr) : List DV:=[.sl (Is a.shape),.sl (Its a.items)]
theorem RD {n:Nat} (h:OpF enc Tryz.prog W n 27 cA2 okAr) : OpF enc Tryz.prog W (n+1) 56 (fun l:List Arr=>[.sl (Ars l)]) (fun l=>l.length≤2932031007402∧∀ a∈l,okAr a):=by
 refine (Iz (α:=Arr) (F:=cA2) (sz:=2) Arr.dv (by kernel_rfl:Tryz.prog.underlying 56=some (.slice 27)) (by kernel_rfl) (by decide) (fun a=>by rw [Arr.dv_eq];rfl) h).map fun zs hz=>?_
 refine ⟨zs,⟨?_,hz.1⟩,by rw [Fu]⟩
 have h3:=hz.2
 rw [show Tryz.prog.bytesOf 27=48 by kernel_rfl,show reachBytes=140737488351232 by decide] at h3
 omega
theorem Qx {n:Nat} (h:OpF enc Tryz.prog W n 58 cI6 okI) : OpF enc Tryz.prog W (n+1) 23 (fun l:List Itm=>[.sl (Its l)]) (fun l=>l.length≤1466015503701∧∀ x∈l,okI x):=by
 refine (Iz (α:=Itm) (F:=cI6) (sz:=6) Itm.dv (by kernel_rfl:Tryz.prog.underlying 23=some (.slice 58)) (by kernel_rfl) (by decide) (fun a=>by rw [Itm.dv_eq];rfl) h).map fun zs hz=>?_
 refine ⟨zs,⟨?_,hz.1⟩,by rw [Gn]⟩
 have h3:=hz.2
 rw [show Tryz.prog.bytesOf 58=96 by kernel_rfl,show reachBytes=140737488351232 by decide] at h3
 omega
theorem PD : ∀ n,OpF enc Tryz.prog W n 58 cI6 okI∧OpF enc Tryz.prog W n 27 cA2 okAr
 | 0=>by
  constructor <;>
  ·intro fuel cs x hf h _
   obtain rfl:fuel=0:=by omega
   simp [DataW.trod] at h
 | n+1=>by
  obtain ⟨hI,hA⟩:=PD n
  constructor
  ·refine OpF.mono (n:=n+1+1) ((Ot (t:=58) (T0:=55) (T1:=34) (T2:=21) (T3:=56) (s0:=1) (s1:=3) (s2:=1) (s3:=1) (by kernel_rfl) (by kernel_rfl) (by kernel_rfl) (MT (by kernel_rfl:Tryz.prog.underlying 55=some (.int .u8))) (by kernel_rfl) (UV (n+1)) (by kernel_rfl) (MT (by kernel_rfl:Tryz.prog.underlying 21=some (.int .i32))) (by kernel_rfl) (RD hA)).map fun r hr=>?_) (Nat.le_succ _)
   obtain ⟨k,q,c,b⟩:=r
   obtain ⟨h1,h2,h3,h4⟩:=hr
   refine ⟨.mk k q c b,?_,rfl⟩
   rw [DN]
   refine ⟨?_,h2,?_,h4⟩
   ·simp [Lit.wf,IntKind.min,IntKind.max,IntKind.signed,IntKind.bits] at h1
    show 0≤k∧k<256
    omega
   ·simp [Lit.wf,IntKind.min,IntKind.max,IntKind.signed,IntKind.bits] at h3
    show -2147483648≤c∧c<2147483648
    omega
  ·refine OpF.mono (n:=n+1+1) ((Pe (t:=27) (T0:=24) (T1:=23) (s0:=1) (s1:=1) (by kernel_rfl) (by kernel_rfl) (by kernel_rfl) (To (n+1)) (by kernel_rfl) (Qx hI)).map fun r hr=>?_) (Nat.le_succ _)
   obtain ⟨s,i⟩:=r
   obtain ⟨⟨h1,h2⟩,h3,h4⟩:=hr
   refine ⟨.mk s i,?_,rfl⟩
   rw [Bj]
   exact ⟨h1,h2,h3,h4⟩
theorem Uw (n:Nat) : OpF enc Tryz.prog W n 27 (fun a:Arr=>[.sl (Is a.shape),.sl (Its a.items)]) okAr:=(PD n).2
end
end Go.FL
