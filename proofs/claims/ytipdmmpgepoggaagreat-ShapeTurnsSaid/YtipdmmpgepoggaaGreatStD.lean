/-
  Part 4 of the base of the proofs: a logic of our own over the calculus, the contracts of the functions
-/
import Derived.Test.YtipdmmpgepoggaaGreatStC
set_option linter.unusedVariables false
namespace Go.FL
open Go Go.Proofs
def Ba (a0:Arr) : Option (Bool):=((Ep a0).bind fun x1=>(some (x1.2)))
theorem BC {a0:Arr} {r:Bool} (h:Ba a0=some r) :
  Fn Tryz.prog 15 [.ag [.sl (Is a0.shape),.sl (Its a0.items)]] (.d (.b r)):=by
 unfold Ba at h
 refine Fn.o1 2 11 Tryz.func15 ?_;refine .sr ?_;refine vk (vbx) ?_;refine ar [1,2] ?_;refine .sr ?_;refine vk (AE Ad Ac) ?_
 obtain ⟨x1,g1,h⟩:=bnd h
 refine vk (VOK.tupd (vs:=[.ag [.i .i64 x1.1.1,.i .i64 x1.1.2],.b x1.2]) (Aq (HU g1) Tryz.call48)) ?_;refine vk (Aa) ?_;refine vk (vex) ?_;refine vk (vex) ?_;refine vk (van (Am LU) PP) ?_
 refine stn ?_ KV (by decide)
 refine ar [2,4] ?_;refine .sr ?_;refine vk (Aa) ?_;refine ar [2] ?_;refine .ret ?_
 cases h
 exact ⟨rfl,rfl⟩
def EO (a0:Arr) : Option (Int):=((Ep a0).bind fun x1=>(some (x1.1.1)))
theorem KR {a0:Arr} {r:Int} (h:EO a0=some r) :
  Fn Tryz.prog 32 [.ag [.sl (Is a0.shape),.sl (Its a0.items)]] (.d (.i .i64 r)):=by
 unfold EO at h
 refine Fn.o1 2 12 Tryz.func32 ?_;refine .sr ?_;refine vk (vbx) ?_;refine ar [1,2] ?_;refine .sr ?_;refine vk (AE Ad Ac) ?_
 obtain ⟨x1,g1,h⟩:=bnd h
 refine vk (VOK.tupd (vs:=[.ag [.i .i64 x1.1.1,.i .i64 x1.1.2],.b x1.2]) (Aq (HU g1) Tryz.call48)) ?_;refine vk (Aa) ?_;refine vk (vex) ?_;refine vk (vex) ?_;refine vk (van (Am LU) PP) ?_
 refine stn ?_ KV (by decide)
 refine ar [2,3] ?_;refine .seq ?_;refine .gh (Gh.nbp (t:=3) rfl) ?_;refine .region ?_;refine vk (vfa Km) ?_;refine vk (Ah AD) ?_;refine ar [2] ?_;refine .ret ?_
 cases h
 exact ⟨rfl,rfl⟩
def Hp (a0:Arr) (a1:Arr) : Option (Bool):=((Ba a0).bind fun x1=>(Option.bind ((if x1=true then ((Ba a1).bind fun x3=>(if x3=true then ((Nv a0 a1).bind fun x4=>(some x4)) else (some false))) else (some false)) : Option (Bool)) fun (z1:Bool)=>(some (z1))))
theorem Li {a0:Arr} {a1:Arr} {r:Bool} (h:Hp a0 a1=some r) :
  Fn Tryz.prog 25 [.ag [.sl (Is a0.shape),.sl (Its a0.items)],.ag [.sl (Is a1.shape),.sl (Its a1.items)]] (.d (.b r)):=by
 unfold Hp at h
 refine Fn.o1 4 16 Tryz.func25 ?_;refine .sr ?_;refine vk (vbx) ?_;refine vk (vbx) ?_;refine ar [2,3,4] ?_;refine .seq ?_
 obtain ⟨x1,g1,h⟩:=bnd h
 obtain ⟨z1,hz,h⟩:=bnd h
 refine AW.mr (σ:=Unit) (fun _=>True) (fun _=>[(4,.d (.b z1))]) (fun _=>[]) ?_ ?_
 ·skip
  refine .region ?_;refine vk (AE Ad Ac) ?_;refine vk (Aq (BC g1) Tryz.call15) ?_
  rcases brc hz with ⟨hc,hz⟩|⟨hc,hz⟩
  ·have hb0:x1=true:=hc
   refine vk (VOK.lit (Aa) hb0) ?_;refine vk (AE Ad Ac) ?_
   obtain ⟨x3,g3,hz⟩:=bnd hz
   refine vk (Aq (BC g3) Tryz.call15) ?_;refine vk (Af) ?_
   rcases brc hz with ⟨hc,hz⟩|⟨hc,hz⟩
   ·have hb1:x3=true:=hc
    refine vk (VOK.lit (Aa) hb1) ?_;refine vk (AE Ad Ac) ?_;refine vk (AE Ad Ac) ?_
    obtain ⟨x4,g4,hz⟩:=bnd hz
    refine vk (Aq (Oe g4) Tryz.call61) ?_;refine vk (Af) ?_;refine asd ?_;refine RL.gk [4] ?_;refine .nil ?_
    cases hz
    exact jr () trivial
   have hb1:x3=false:=(bf hc)
   refine vk (VOK.lit (Aa) hb1) ?_;refine gf ?_;refine gf ?_;refine gf ?_;refine vk (Af) ?_;refine asd ?_;refine RL.gk [4] ?_;refine .nil ?_
   cases hz
   exact jr () trivial
  have hb0:x1=false:=(bf hc)
  refine vk (VOK.lit (Aa) hb0) ?_;refine gf ?_;refine gf ?_;refine vk (Af) ?_;refine vk (Aa) ?_;refine gf ?_;refine gf ?_;refine gf ?_;refine vk (Af) ?_;refine asd ?_;refine RL.gk [4] ?_;refine .nil ?_
  cases hz
  exact jr () trivial
 rintro _ _
 refine .ret ?_
 cases h
 exact ⟨rfl,rfl⟩
def Ap (a0:(List Itm)) (a1:B6) (K0:Int→Option (Int)) : Nat→Int→Int→Option (Int)
 | 0,_,_=>none
 | k+1,s2,s3=>(if s3<((List.length a0:Nat):Int) then ((rd? a0 s3).bind fun x4=>((a1.g x4).bind fun x5=>(if x5=true then (some (s3)) else (Ap a0 a1 K0 k s2 (w64 (s3+1)))))) else (K0 s2))
def A5 (a0:(List Itm)) (a1:B6) : Option (Int):=(jn (fun (z1:Int)=>(some ((-1)))) fun K0=>(Ap a0 a1 K0 AQ 0 0))
theorem Dt {a0:(List Itm)} {a1:B6} (oa1:Iq a1) {r:Int} (h:A5 a0 a1=some r) :
  Fn Tryz.prog 66 [.sl (Its a0),a1.dv] (.d (.i .i64 r)):=by
 unfold A5 at h
 refine Fn.o1 4 19 Tryz.func66 ?_;refine .sr ?_;refine ar [0,1,4] ?_;refine .seq ?_;refine .sr ?_;refine vk (Aa) ?_;refine vk (A2 (Ay _) (Cp _) Cq) ?_;refine vk (Aa) ?_;refine rk [0,1,4,7,8] ?_
 obtain ⟨K0,hK0,h⟩:=AZ h
 refine AW.mr (σ:=Int) (fun p=>K0 p=some r) (fun p=>[(4,.d (.i .i64 p))]) (fun p=>[]) ?_ ?_
 ·skip
  refine .block ?_
  refine .loop (.gk [0,1,4,7,8] ?_)
  refine AL.ind (σ:=Nat×Int×Int) (m:=fun p=>p.1) (e:=fun p=>[(0,.d (.sl (Its a0))),(1,.d (a1.dv)),(4,.d (.i .i64 p.2.1)),(7,.d (.i .i64 ((List.length a0:Nat):Int))),(8,.d (.i .i64 p.2.2))]) (h:=fun p=>[]) (I:=fun p=>Ap a0 a1 K0 p.1 p.2.1 p.2.2=some r) ?_ (AQ,0,0) h
  rintro ⟨k,s2,s3⟩ h ih
  dsimp only at h ih ⊢
  rcases k with _|k
  ·rw [Ap] at h;cases h
  rw [Ap] at h
  refine .sr ?_;refine vk (vbi) ?_;refine rk [0,1,4,7,8,9] ?_;refine .seq ?_
  rcases brc h with ⟨hc,h⟩|⟨hc,h⟩
  ·refine cnt (dT hc) ?_
   refine .skip ?_
   show AW _ _ _ _ _ _
   refine .seq ?_;refine .block ?_;refine .sr ?_;refine vk (Aa) ?_;refine ar [0,1,4,5,7,8] ?_;refine .sr ?_;refine vk (Aa) ?_;refine vk (Aa) ?_;refine vk (Aa) ?_
   obtain ⟨x4,g4,h⟩:=bnd h
   obtain ⟨n4,p04,q4⟩:=Aj g4
   refine vk (vix n4 p04 (Db q4) rfl C9) ?_;refine vk (AE A4 AA) ?_
   obtain ⟨x5,g5,h⟩:=bnd h
   refine vk (NJ (oa1 _ _ g5)) ?_;refine rk [0,1,4,5,7,8,16] ?_
   rcases brc h with ⟨hc,h⟩|⟨hc,h⟩
   ·refine cnt hc ?_
    refine .sr ?_;refine vk (Aa) ?_;refine ar [0,1,4,7,8] ?_;refine .ret ?_
    cases h
    exact ⟨rfl,rfl⟩
   refine cnf (bf hc) ?_;refine .skip ?_
   show AW _ _ _ _ _ _
   refine .region ?_;refine vk (vbi) ?_;refine vk (Aa) ?_;refine .nil ?_;refine AL.gk [0,1,4,7,8] ?_
   exact ih (k,s2,(w64 (s3+1))) h (Nat.lt_succ_self _)
  refine cnf (dF hc) ?_;refine .gk [4] ?_;refine .exit ?_
  exact jr (s2) h
 rintro z1 h
 try dsimp only at h ⊢
 subst hK0
 show AW _ _ _ _ _ _
 refine .sr ?_;refine ar [4] ?_;refine .ret ?_
 cases h
 exact ⟨rfl,rfl⟩
def AH (a0:(List Itm)) (a1:B6) : Option (Bool):=((A5 a0 a1).bind fun x1=>(some ((decide (0≤x1)))))
theorem Dc {a0:(List Itm)} {a1:B6} (oa1:Iq a1) {r:Bool} (h:AH a0 a1=some r) :
  Fn Tryz.prog 27 [.sl (Its a0),a1.dv] (.d (.b r)):=by
 unfold AH at h
 refine Fn.o1 4 9 Tryz.func27 ?_;refine .sr ?_;refine ar [0,1,4] ?_;refine .sr ?_;refine vk (Aa) ?_;refine vk (Aa) ?_
 obtain ⟨x1,g1,h⟩:=bnd h
 refine vk (Aq (Dt oa1 g1) Tryz.call66) ?_;refine vk (vbi) ?_;refine ar [4] ?_;refine .ret ?_
 cases h
 exact ⟨rfl,rfl⟩
def Ed (a0:Itm) : Option (Bool):=((EU a0).bind fun x1=>(some ((!x1))))
theorem J4 {a0:Itm} {r:Bool} (h:Ed a0=some r) :
  Fn Tryz.prog 28 [.ag [.i .u8 a0.kind,.b a0.num.1,.sl (L a0.num.2.1),.sl (L a0.num.2.2),.i .i32 a0.char,.sl (Ars a0.box)]] (.d (.b r)):=by
 unfold Ed at h
 refine Fn.o1 2 6 Tryz.func28 ?_;refine .sr ?_;refine vk (vbx) ?_;refine ar [1,2] ?_;refine .sr ?_;refine vk (AE A4 AA) ?_
 obtain ⟨x1,g1,h⟩:=bnd h
 refine vk (Aq (KH g1) Tryz.call29) ?_;refine vk (vnt) ?_;refine ar [2] ?_;refine .ret ?_
 cases h
 exact ⟨rfl,rfl⟩
def Ca (x12:Itm) (K4:Int→Option (Arr×Int)) : Nat→Int→Int→Option (Arr×Int)
 | 0,_,_=>none
 | k+1,s14,s15=>(if s15<((List.length x12.box:Nat):Int) then ((rd? x12.box s15).bind fun x16=>((EO x16).bind fun x17=>(Ca x12 K4 k (w64 (s14+x17)) (w64 (s15+1))))) else (K4 s14))
def BS (a1:(List Itm)) (K1:(List Int)→Option (Arr×Int)) : Nat→(List Int)→Int→Option (Arr×Int)
 | 0,_,_=>none
 | k+1,s9,s10=>(if s10<((List.length a1:Nat):Int) then (jn (fun (z11:(List Int))=>(BS a1 K1 k z11 (w64 (s10+1)))) fun K3=>((rd? a1 s10).bind fun x12=>(jn (fun (z13:Int)=>((ap? 17592186044416 s9 [z13]).bind fun x18=>(K3 x18))) fun K4=>(Ca x12 K4 AQ 1 0)))) else (K1 s9))
def BN (a1:(List Itm)) (x1:Int×Int) (z8:(List Int)) (K6:Arr→Int→(List Int)→(List Itm)→Option (Arr×Int)) : Nat→Arr→Int→Int→Int→(List Int)→(List Itm)→Option (Arr×Int)
 | 0,_,_,_,_,_,_=>none
 | k+1,s23,s24,s25,s26,s27,s28=>(if s25<x1.1 then ((EW (((List.length a1:Nat):Int)≠0)).bind fun x29=>((rd? z8 (Int.tmod s25 ((List.length a1:Nat):Int))).bind fun x30=>(if 16384<(w64 (s26+x30)) then (some ((Arr.mk [] []),8)) else ((EW (((List.length a1:Nat):Int)≠0)).bind fun x31=>((rd? a1 (Int.tmod s25 ((List.length a1:Nat):Int))).bind fun x32=>((GF x32).bind fun x33=>((ap? 1466015503701 s28 [x33]).bind fun x34=>(BN a1 x1 z8 K6 k s23 s24 (w64 (s25+1)) (w64 (s26+x30)) s27 x34)))))))) else (K6 s23 s24 s27 s28))
def AU (a0:(List Int)) (a1:(List Itm)) : Option (Arr×Int):=((CD a0).bind fun x1=>(if x1.2=0 then (Option.bind ((if ((List.length a1:Nat) : Int)=0 then (some true) else ((AH a1 (⟨.fn 28 [] [],fun x=>Ed x⟩ : B6)).bind fun x3=>(some x3))) : Option (Bool)) fun (z2:Bool)=>(if z2=true then (some ((Arr.mk [] []),22)) else ((DX a0).bind fun x4=>(jn (fun (z5:(List Itm))=>(jn (fun (z8:(List Int))=>(jn (fun (z19:Arr) (z20:Int) (z21:(List Int)) (z22:(List Itm))=>((Ba (Arr.mk z21 z22)).bind fun x35=>(if x35=true then (some ((Arr.mk z21 z22),0)) else (some ((Arr.mk [] []),8))))) fun K6=>(BN a1 x1 z8 K6 AQ (Arr.mk [] []) 0 0 0 x4 z5))) fun K1=>(BS a1 K1 AQ [] 0))) fun K0=>(if x1.1=0 then ((rd? a1 0).bind fun x6=>((IW x6).bind fun x7=>(K0 ([x7])))) else (K0 [])))))) else (some ((Arr.mk [] []),x1.2))))
set_option maxHeartbeats 4000000 in
theorem FC {a0:(List Int)} {a1:(List Itm)} {r:Arr×Int} (h:AU a0 a1=some r) :
  Fn Tryz.prog 10 [.sl (Is a0),.sl (Its a1)] (.tup [.d (.ag [.sl (Is r.1.shape),.sl (Its r.1.items)]),.d (.i .i64 r.2)]):=by
 unfold AU at h
 refine Fn.ofC (rs:=[.cell 4 27,.tmp 5]) (nt:=105) Tryz.func10 rfl rfl rfl (by simp) rfl ?_;refine .sr ?_;refine vk (van (Am AB) AJ) ?_;refine ar [0,1,4,5] ?_;refine .sr ?_;refine vk (Aa) ?_
 obtain ⟨x1,g1,h⟩:=bnd h
 refine vk (VOK.tupd (vs:=[.i .i64 x1.1,.i .i64 x1.2]) (Aq (C6 g1) Tryz.call26)) ?_;refine vk (Aa) ?_;refine vk (vex) ?_;refine vk (vex) ?_;refine asd ?_;refine ar [0,1,4,5,6,7] ?_;refine .seq ?_;refine .block ?_;refine .sr ?_;refine vk (Aa) ?_;refine vk (vbi) ?_;refine ar [0,1,4,5,6,7,22] ?_
 rcases brc h with ⟨hc,h⟩|⟨hc,h⟩
 ·refine cnf (ntf (dT hc)) ?_
  refine .seq ?_
  obtain ⟨z2,hz,h⟩:=bnd h
  refine AW.mr (σ:=Unit) (fun _=>True) (fun _=>[(0,.d (.sl (Is a0))),(1,.d (.sl (Its a1))),(4,.nb [.sl (Is []),.sl (Its [])]),(5,.d (.i .i64 0)),(6,.d (.i .i64 x1.1)),(27,.d (.b z2))]) (fun _=>[]) ?_ ?_
  ·skip
   refine .region ?_;refine vk (Aa) ?_;refine vk (A2 (Ay _) (Cp _) Cq) ?_;refine vk (vbi) ?_
   rcases brc hz with ⟨hc,hz⟩|⟨hc,hz⟩
   ·have hb0:(decide (((List.length a1:Nat):Int)=0))=true:=(dT hc)
    refine vk (VOK.lit (Aa) hb0) ?_;refine gf ?_;refine gf ?_;refine vk (Af) ?_;refine asd ?_;refine RL.gk [0,1,4,5,6,27] ?_;refine .nil ?_
    cases hz
    exact jr () trivial
   have hb0:(decide (((List.length a1:Nat):Int)=0))=false:=(dF hc)
   refine vk (VOK.lit (Aa) hb0) ?_;refine vk (Aa) ?_
   obtain ⟨x3,g3,hz⟩:=bnd hz
   refine vk (Aq (Dc (Ek Tryz.call28 (fun _ _ h=>J4 h)) g3) Tryz.call27) ?_;refine vk (Af) ?_;refine asd ?_;refine RL.gk [0,1,4,5,6,27] ?_;refine .nil ?_
   cases hz
   exact jr () trivial
  rintro _ _
  rcases brc h with ⟨hc,h⟩|⟨hc,h⟩
  ·refine cnt hc ?_
   refine .sr ?_;refine vk (vbd CG AB AJ) ?_
   refine stn ?_ Ac (by decide)
   refine ar [0,1,4,5,6] ?_;refine .ret ?_
   cases h
   exact ⟨_,_,⟨.inr rfl,Ad,Ac,p2⟩,rfl,rfl⟩
  refine cnf (bf hc) ?_;refine .skip ?_
  show AW _ _ _ _ _ _
  refine .sr ?_;refine vk (Aa) ?_
  obtain ⟨x4,g4,h⟩:=bnd h
  refine vk ((Aq (FD g4) Tryz.call30).deep) ?_;refine vk (SM CG AB (fun w I μ=>Kp w I μ)) ?_;refine vk (van (Am AB) AJ) ?_
  refine SN ?_ Ac (by decide)
  refine rk [1,4,5,6,8] ?_;refine .seq ?_;refine .sr ?_;refine vk (Aa) ?_;refine vk (vbi) ?_;refine rk [1,4,5,6,8,40] ?_
  obtain ⟨K0,hK0,h⟩:=AZ h
  refine AW.mr (σ:=(List Itm)) (fun p=>K0 p=some r) (fun p=>[(1,.d (.sl (Its a1))),(4,.nb [.sl (Is []),.sl (Its [])]),(5,.d (.i .i64 0)),(6,.d (.i .i64 x1.1)),(8,.bp 0 0)]) (fun p=>[HO.box [.d (.sl (Is x4)),.own 58 (Its p)]]) ?_ ?_
  ·skip
   rcases brc h with ⟨hc,h⟩|⟨hc,h⟩
   ·refine cnt (dT hc) ?_
    refine .region ?_;refine vk (Aa) ?_
    obtain ⟨x6,g6,h⟩:=bnd h
    obtain ⟨n6,p06,q6⟩:=Aj g6
    refine vk (vix n6 p06 (Db q6) rfl C9) ?_;refine vk (AE A4 AA) ?_
    obtain ⟨x7,g7,h⟩:=bnd h
    refine vk (Aq (JI g7) Tryz.call31) ?_;refine vk (ET (EK x7) (DB [x7]) Dm) ?_;refine vk (DR AC) ?_
    refine Ja (cs:=[.d (.sl (Is x4)),.nl]) (c:=.nl) rfl rfl ?_ Jj
    refine RL.gk [1,4,5,6,8] ?_;refine .nil ?_
    exact jr ([x7]) h
   refine cnf (dF hc) ?_;refine .gh (Gh.nlOwnC (id:=0) (off:=1) 58 (by rw [Ll];decide)) ?_;refine .gk [1,4,5,6,8] ?_;refine .skip ?_
   exact jr ([]) h
  rintro z5 h
  try dsimp only at h ⊢
  subst hK0
  show AW _ _ _ _ _ _
  refine .sr ?_;refine asn ?_;refine rk [1,4,5,6,8,9] ?_;refine .seq ?_;refine .sr ?_;refine vk (Aa) ?_;refine vk (A2 (Ay _) (Cp _) Cq) ?_;refine vk (Aa) ?_;refine rk [1,4,5,6,8,9,47,48,49] ?_
  obtain ⟨K1,hK1,h⟩:=AZ h
  refine AW.mr (σ:=(List Int)) (fun p=>K1 p=some r) (fun p=>[(1,.d (.sl (Its a1))),(4,.nb [.sl (Is []),.sl (Its [])]),(5,.d (.i .i64 0)),(6,.d (.i .i64 x1.1)),(8,.bp 0 0),(9,.own 3 (Is p))]) (fun p=>[HO.box [.d (.sl (Is x4)),.own 58 (Its z5)]]) ?_ ?_
  ·skip
   refine .block ?_;refine .gh (Gh.nlOwn (t:=9) 3 (by rw [C8];decide) rfl) ?_
   refine .loop (.gk [1,4,5,6,8,9,47,48,49] ?_)
   refine AL.ind (σ:=Nat×(List Int)×Int) (m:=fun p=>p.1) (e:=fun p=>[(1,.d (.sl (Its a1))),(4,.nb [.sl (Is []),.sl (Its [])]),(5,.d (.i .i64 0)),(6,.d (.i .i64 x1.1)),(8,.bp 0 0),(9,.own 3 (Is p.2.1)),(47,.d (.sl (Its a1))),(48,.d (.i .i64 ((List.length a1:Nat):Int))),(49,.d (.i .i64 p.2.2))]) (h:=fun p=>[HO.box [.d (.sl (Is x4)),.own 58 (Its z5)]]) (I:=fun p=>BS a1 K1 p.1 p.2.1 p.2.2=some r) ?_ (AQ,[],0) h
   rintro ⟨k,s9,s10⟩ h ih
   dsimp only at h ih ⊢
   rcases k with _|k
   ·rw [BS] at h;cases h
   rw [BS] at h
   refine .sr ?_;refine vk (vbi) ?_;refine rk [1,4,5,6,8,9,47,48,49,50] ?_;refine .seq ?_
   rcases brc h with ⟨hc,h⟩|⟨hc,h⟩
   ·refine cnt (dT hc) ?_
    refine .skip ?_
    show AW _ _ _ _ _ _
    obtain ⟨K3,hK3,h⟩:=AZ h
    refine AW.mj (σ:=(List Int)) (fun p=>K3 p=some r) (fun p=>[(1,.d (.sl (Its a1))),(4,.nb [.sl (Is []),.sl (Its [])]),(5,.d (.i .i64 0)),(6,.d (.i .i64 x1.1)),(8,.bp 0 0),(9,.own 3 (Is p)),(47,.d (.sl (Its a1))),(48,.d (.i .i64 ((List.length a1:Nat):Int))),(49,.d (.i .i64 s10))]) (fun p=>[HO.box [.d (.sl (Is x4)),.own 58 (Its z5)]]) ?_ ?_
    ·skip
     refine .block ?_;refine .sr ?_
     obtain ⟨x12,g12,h⟩:=bnd h
     obtain ⟨n12,p012,q12⟩:=Aj g12
     refine vk (vix n12 p012 (Db q12) rfl C9) ?_;refine vk (AE A4 AA) ?_;refine vk (van (Am CI) CZ) ?_
     refine stn ?_ AA (by decide)
     refine rk [1,4,5,6,8,9,11,47,48,49] ?_;refine .sr ?_;refine ar [1,4,5,6,8,9,11,12,47,48,49] ?_;refine .seq ?_;refine .seq ?_;refine .gh (Gh.nbp (t:=11) rfl) ?_;refine .region ?_;refine vk (vfa A3) ?_;refine vk (Ah B7) ?_;refine vk (A2 (Bb _) (DA _) Dz) ?_;refine vk (Aa) ?_;refine rk [1,4,5,6,8,9,12,47,48,49,54,55,56] ?_
     obtain ⟨K4,hK4,h⟩:=AZ h
     refine AW.mr (σ:=Int) (fun p=>K4 p=some r) (fun p=>[(1,.d (.sl (Its a1))),(4,.nb [.sl (Is []),.sl (Its [])]),(5,.d (.i .i64 0)),(6,.d (.i .i64 x1.1)),(8,.bp 0 0),(9,.own 3 (Is s9)),(12,.d (.i .i64 p)),(47,.d (.sl (Its a1))),(48,.d (.i .i64 ((List.length a1:Nat):Int))),(49,.d (.i .i64 s10))]) (fun p=>[HO.box [.d (.sl (Is x4)),.own 58 (Its z5)]]) ?_ ?_
     ·skip
      refine .block ?_
      refine .loop (.gk [1,4,5,6,8,9,12,47,48,49,54,55,56] ?_)
      refine AL.ind (σ:=Nat×Int×Int) (m:=fun p=>p.1) (e:=fun p=>[(1,.d (.sl (Its a1))),(4,.nb [.sl (Is []),.sl (Its [])]),(5,.d (.i .i64 0)),(6,.d (.i .i64 x1.1)),(8,.bp 0 0),(9,.own 3 (Is s9)),(12,.d (.i .i64 p.2.1)),(47,.d (.sl (Its a1))),(48,.d (.i .i64 ((List.length a1:Nat):Int))),(49,.d (.i .i64 s10)),(54,.d (.sl (Ars x12.box))),(55,.d (.i .i64 ((List.length x12.box:Nat):Int))),(56,.d (.i .i64 p.2.2))]) (h:=fun p=>[HO.box [.d (.sl (Is x4)),.own 58 (Its z5)]]) (I:=fun p=>Ca x12 K4 p.1 p.2.1 p.2.2=some r) ?_ (AQ,1,0) h
      rintro ⟨k,s14,s15⟩ h ih
      dsimp only at h ih ⊢
      rcases k with _|k
      ·rw [Ca] at h;cases h
      rw [Ca] at h
      refine .sr ?_;refine vk (vbi) ?_;refine rk [1,4,5,6,8,9,12,47,48,49,54,55,56,57] ?_;refine .seq ?_
      rcases brc h with ⟨hc,h⟩|⟨hc,h⟩
      ·refine cnt (dT hc) ?_
       refine .skip ?_
       show AW _ _ _ _ _ _
       refine .seq ?_;refine .block ?_;refine .sr ?_
       obtain ⟨x16,g16,h⟩:=bnd h
       obtain ⟨n16,p016,q16⟩:=Aj g16
       refine vk (vix n16 p016 (En q16) rfl Ev) ?_;refine vk (AE Ad Ac) ?_;refine vk (van (Am AB) AJ) ?_
       refine stn ?_ Ac (by decide)
       refine rk [1,4,5,6,8,9,12,14,47,48,49,54,55,56] ?_;refine .region ?_;refine vk (Aa) ?_;refine vk (HL Ad Ac) ?_
       obtain ⟨x17,g17,h⟩:=bnd h
       refine vk (Aq (KR g17) Tryz.call32) ?_;refine vk (vbi) ?_;refine asd ?_;refine .nil ?_
       show AW _ _ _ _ _ _
       refine .gk [1,4,5,6,8,9,12,47,48,49,54,55,56] ?_;refine .region ?_;refine vk (vbi) ?_;refine vk (Aa) ?_;refine .nil ?_;refine AL.gk [1,4,5,6,8,9,12,47,48,49,54,55,56] ?_
       exact ih (k,(w64 (s14+x17)),(w64 (s15+1))) h (Nat.lt_succ_self _)
      refine cnf (dF hc) ?_;refine .gk [1,4,5,6,8,9,12,47,48,49] ?_;refine .exit ?_
      exact jr (s14) h
     rintro z13 h
     try dsimp only at h ⊢
     subst hK4
     show AW _ _ _ _ _ _
     refine .region ?_;refine mvo ?_;refine vk (Aa) ?_;refine vk ((LD (EG [z13]) Dw).deep) ?_
     obtain ⟨x18,g18,h⟩:=bnd h
     refine Ts Lk g18 Mi ?_ Ie Ag Dw
     refine aso ?_;refine RL.gk [1,4,5,6,8,9,47,48,49] ?_;refine .nil ?_
     exact jr (x18) h
    rintro z11 h
    try dsimp only at h ⊢
    subst hK3
    refine .region ?_;refine vk (vbi) ?_;refine vk (Aa) ?_;refine .nil ?_;refine AL.gk [1,4,5,6,8,9,47,48,49] ?_
    exact ih (k,z11,(w64 (s10+1))) h (Nat.lt_succ_self _)
   refine cnf (dF hc) ?_;refine .gk [1,4,5,6,8,9] ?_;refine .exit ?_
   exact jr (s9) h
  rintro z8 h
  try dsimp only at h ⊢
  subst hK1
  show AW _ _ _ _ _ _
  refine .seq ?_;refine .sr ?_;refine asd ?_;refine ar [1,4,5,6,8,9,15,16] ?_
  obtain ⟨K6,hK6,h⟩:=AZ h
  refine AW.mr (σ:=Arr×Int×(List Int)×(List Itm)) (fun p=>K6 p.1 p.2.1 p.2.2.1 p.2.2.2=some r) (fun p=>[(4,.nb [.sl (Is p.1.shape),.sl (Its p.1.items)]),(5,.d (.i .i64 p.2.1)),(8,.bp 0 0)]) (fun p=>[HO.box [.d (.sl (Is p.2.2.1)),.own 58 (Its p.2.2.2)]]) ?_ ?_
  ·skip
   refine .block ?_;refine .gh (Gh.frz (p:=.t 9) rfl (by (intro _ _ h;cases h<;>decide))) ?_
   refine .loop (.gk [1,4,5,6,8,9,15,16] ?_)
   refine AL.ind (σ:=Nat×Arr×Int×Int×Int×(List Int)×(List Itm)) (m:=fun p=>p.1) (e:=fun p=>[(1,.d (.sl (Its a1))),(4,.nb [.sl (Is p.2.1.shape),.sl (Its p.2.1.items)]),(5,.d (.i .i64 p.2.2.1)),(6,.d (.i .i64 x1.1)),(8,.bp 0 0),(9,.d (.sl (Is z8))),(15,.d (.i .i64 p.2.2.2.1)),(16,.d (.i .i64 p.2.2.2.2.1))]) (h:=fun p=>[HO.box [.d (.sl (Is p.2.2.2.2.2.1)),.own 58 (Its p.2.2.2.2.2.2)]]) (I:=fun p=>BN a1 x1 z8 K6 p.1 p.2.1 p.2.2.1 p.2.2.2.1 p.2.2.2.2.1 p.2.2.2.2.2.1 p.2.2.2.2.2.2=some r) ?_ (AQ,(Arr.mk [] []),0,0,0,x4,z5) h
   rintro ⟨k,s23,s24,s25,s26,s27,s28⟩ h ih
   dsimp only at h ih ⊢
   rcases k with _|k
   ·rw [BN] at h;cases h
   rw [BN] at h
   refine .seq ?_;refine .sr ?_;refine vk (Aa) ?_;refine vk (Aa) ?_;refine vk (vbi) ?_;refine rk [1,4,5,6,8,9,15,16,72] ?_
   rcases brc h with ⟨hc,h⟩|⟨hc,h⟩
   ·refine cnt (dT hc) ?_
    refine .skip ?_
    show AW _ _ _ _ _ _
    refine .seq ?_;refine .block ?_;refine .seq ?_;refine .sr ?_;refine vk (Aa) ?_;refine vk (Aa) ?_;refine vk (Aa) ?_;refine vk (Aa) ?_;refine vk (A2 (Ay _) (Cp _) Cq) ?_
    obtain ⟨x29,g29,h⟩:=bnd h
    refine vk (Ly (Ea g29)) ?_
    obtain ⟨x30,g30,h⟩:=bnd h
    obtain ⟨n30,p030,q30⟩:=Aj g30
    refine vk (vix n30 p030 (Bg q30) rfl Bc) ?_;refine vk (Ah AD) ?_;refine vk (vbi) ?_;refine ar [1,4,5,6,8,9,15,16] ?_;refine .sr ?_;refine vk (Aa) ?_;refine vk (vbi) ?_;refine rk [1,4,5,6,8,9,15,16,85] ?_
    rcases brc h with ⟨hc,h⟩|⟨hc,h⟩
    ·refine cnt (dT hc) ?_
     refine .sr ?_;refine vk (vbd CG AB AJ) ?_
     refine stn ?_ Ac (by decide)
     refine ar [1,4,5,6,8,9,15,16] ?_;refine .ret ?_
     cases h
     exact ⟨_,_,⟨.inr rfl,Ad,Ac,p2⟩,rfl,rfl⟩
    refine cnf (dF hc) ?_;refine .skip ?_
    show AW _ _ _ _ _ _
    refine .drawn 11 Bh (by kernel_rfl) ?_;refine dv (DR AC) ?_;refine dv (Mj (cs:=[.d (.sl (Is s27)),.own 58 (Its s28)]) rfl rfl Bx) ?_;refine dv (Aa) ?_;refine dv (Aa) ?_;refine dv (Aa) ?_;refine dv (A2 (Ay _) (Cp _) Cq) ?_
    obtain ⟨x31,g31,h⟩:=bnd h
    refine dv (Ly (Ea g31)) ?_
    obtain ⟨x32,g32,h⟩:=bnd h
    obtain ⟨n32,p032,q32⟩:=Aj g32
    refine dv (vix n32 p032 (Db q32) rfl C9) ?_;refine dv (AE A4 AA) ?_
    obtain ⟨x33,g33,h⟩:=bnd h
    refine dv (Aq (HV g33) Tryz.call33) ?_;refine dv ((ET (EK x33) (DB [x33]) Dm).deep) ?_;refine dz ?_
    obtain ⟨x34,g34,h⟩:=bnd h
    refine Pn F9 g34 rfl rfl Ib ?_ Fk Ay Dm
    refine RL.gk [1,4,5,6,8,9,15,16,85,87,89,90,91,92,93,94,95,96,97,98] ?_;refine vk (DR AC) ?_
    refine Ja (cs:=[.d (.sl (Is s27)),.un]) (c:=.un) rfl rfl ?_ Jj
    refine .nil ?_
    show AW _ _ _ _ _ _
    refine .gk [1,4,5,6,8,9,15,16] ?_;refine .region ?_;refine vk (Aa) ?_;refine vk (vbi) ?_;refine asd ?_;refine .nil ?_;refine AL.gk [1,4,5,6,8,9,15,16] ?_
    exact ih (k,s23,s24,(w64 (s25+1)),(w64 (s26+x30)),s27,x34) h (Nat.lt_succ_self _)
   refine cnf (dF hc) ?_;refine .gk [4,5,8] ?_;refine .exit ?_
   exact jr (s23,s24,s27,s28) h
  rintro ⟨z19,z20,z21,z22⟩ h
  try dsimp only at h ⊢
  subst hK6
  show AW _ _ _ _ _ _
  refine .seq ?_;refine .sr ?_;refine fz (p:=.c 0 1) ?_;refine vk (GN (cs:=[.d (.sl (Is z21)),.d (.sl (Its z22))]) (ds:=[.sl (Is z21),.sl (Its z22)]) rfl Ad Ac) ?_
  obtain ⟨x35,g35,h⟩:=bnd h
  refine vk (Aq (BC g35) Tryz.call15) ?_;refine vk (vnt) ?_;refine rk [4,5,8,102] ?_
  rcases brc h with ⟨hc,h⟩|⟨hc,h⟩
  ·refine cnf (ntf hc) ?_
   refine .skip ?_
   show AW _ _ _ _ _ _
   refine .sr ?_;refine vk (GN (cs:=[.d (.sl (Is z21)),.d (.sl (Its z22))]) (ds:=[.sl (Is z21),.sl (Its z22)]) rfl Ad Ac) ?_
   refine stn ?_ Ac (by decide)
   refine ar [4,5] ?_;refine .ret ?_
   cases h
   exact ⟨_,_,⟨.inr rfl,Ad,Ac,p2⟩,rfl,rfl⟩
  refine cnt (ntt (bf hc)) ?_;refine .sr ?_;refine vk (vbd CG AB AJ) ?_
  refine stn ?_ Ac (by decide)
  refine ar [4,5,8] ?_;refine .ret ?_
  cases h
  exact ⟨_,_,⟨.inr rfl,Ad,Ac,p2⟩,rfl,rfl⟩
 refine cnt (ntt (dF hc)) ?_;refine .sr ?_;refine vk (vbd CG AB AJ) ?_;refine vk (Aa) ?_
 refine stn ?_ Ac (by decide)
 refine ar [0,1,4,5,6] ?_;refine .ret ?_
 cases h
 exact ⟨_,_,⟨.inr rfl,Ad,Ac,p2⟩,rfl,rfl⟩
def D7 (a0:Arr) : Option ((List Itm)):=((CD a0.shape).bind fun x1=>(Option.bind ((if x1.1=0 then (some true) else ((Ba a0).bind fun x3=>(some (!x3)))) : Option (Bool)) fun (z2:Bool)=>(if z2=true then (some ([])) else ((B8 a0 (⟨.fn 33 [] [],fun x=>GF x⟩ : BU)).bind fun x4=>(some (x4.items))))))
theorem G9 {a0:Arr} {r:(List Itm)} (h:D7 a0=some r) :
  Fn Tryz.prog 158 [.ag [.sl (Is a0.shape),.sl (Its a0.items)]] (.d (.sl (Its r))):=by
 unfold D7 at h
 refine Fn.o1 2 21 Tryz.func158 ?_;refine .sr ?_;refine vk (vbx) ?_;refine asn ?_;refine rk [1,2] ?_;refine .seq ?_;refine .sr ?_;refine vk (vfa Aw) ?_;refine vk (Ah A9) ?_
 obtain ⟨x1,g1,h⟩:=bnd h
 refine vk (VOK.tupd (vs:=[.i .i64 x1.1,.i .i64 x1.2]) (Aq (C6 g1) Tryz.call26)) ?_;refine vk (Aa) ?_;refine vk (vex) ?_;refine vk (vex) ?_;refine asd ?_;refine ar [1,2,3] ?_;refine .seq ?_
 obtain ⟨z2,hz,h⟩:=bnd h
 refine AW.mr (σ:=Unit) (fun _=>True) (fun _=>[(1,.d (.ptr [.sl (Is a0.shape),.sl (Its a0.items)])),(2,.nl),(17,.d (.b z2))]) (fun _=>[]) ?_ ?_
 ·skip
  refine .region ?_;refine vk (Aa) ?_;refine vk (vbi) ?_
  rcases brc hz with ⟨hc,hz⟩|⟨hc,hz⟩
  ·have hb0:(decide (x1.1=0))=true:=(dT hc)
   refine vk (VOK.lit (Aa) hb0) ?_;refine gf ?_;refine gf ?_;refine gf ?_;refine vk (Af) ?_;refine RL.gk [1,2,17] ?_;refine .nil ?_
   cases hz
   exact jr () trivial
  have hb0:(decide (x1.1=0))=false:=(dF hc)
  refine vk (VOK.lit (Aa) hb0) ?_;refine vk (AE Ad Ac) ?_
  obtain ⟨x3,g3,hz⟩:=bnd hz
  refine vk (Aq (BC g3) Tryz.call15) ?_;refine vk (vnt) ?_;refine vk (Af) ?_;refine RL.gk [1,2,17] ?_;refine .nil ?_
  cases hz
  exact jr () trivial
 rintro _ _
 rcases brc h with ⟨hc,h⟩|⟨hc,h⟩
 ·refine cnt hc ?_
  refine .sr ?_;refine asn ?_;refine rk [1,2] ?_;refine .gh (Gh.nlD (t:=2) rfl) ?_;refine .ret ?_
  cases h
  exact ⟨rfl,rfl⟩
 refine cnf (bf hc) ?_;refine .skip ?_
 show AW _ _ _ _ _ _
 refine .sr ?_;refine vk (AE Ad Ac) ?_
 obtain ⟨x4,g4,h⟩:=bnd h
 refine vk (Aq (DM (Ek Tryz.call33 (fun _ _ h=>HV h)) g4) Tryz.call69) ?_;refine vk (We AC Rt) ?_;refine ar [2] ?_;refine .ret ?_
 cases h
 exact ⟨rfl,rfl⟩
def ES (a0:Arr) : Option (Int×Bool):=((D7 a0).bind fun x1=>(Option.bind ((if ((List.length x1:Nat) : Int)=1 then ((rd? x1 0).bind fun x3=>(some (!(decide (x3.kind=1))))) else (some true)) : Option (Bool)) fun (z2:Bool)=>(if z2=true then (some (0,false)) else ((rd? x1 0).bind fun x4=>((FT x4.num).bind fun x5=>(some (x5.1,x5.2)))))))
theorem KM {a0:Arr} {r:Int×Bool} (h:ES a0=some r) :
  Fn Tryz.prog 133 [.ag [.sl (Is a0.shape),.sl (Its a0.items)]] (.tup [.d (.i .i64 r.1),.d (.b r.2)]):=by
 unfold ES at h
 refine Fn.of (rs:=[.tmp 2,.tmp 3]) (nt:=24) Tryz.func133 rfl rfl rfl (by simp) rfl ?_;refine .sr ?_;refine vk (vbx) ?_;refine asd ?_;refine ar [1,2,3] ?_;refine .sr ?_;refine vk (AE Ad Ac) ?_
 obtain ⟨x1,g1,h⟩:=bnd h
 refine vk (Aq (G9 g1) Tryz.call158) ?_;refine ar [2,3,4] ?_;refine .seq ?_;refine .seq ?_
 obtain ⟨z2,hz,h⟩:=bnd h
 refine AW.mr (σ:=Unit) (fun _=>True) (fun _=>[(2,.d (.i .i64 0)),(3,.d (.b false)),(4,.d (.sl (Its x1))),(16,.d (.b z2))]) (fun _=>[]) ?_ ?_
 ·skip
  refine .region ?_;refine vk (Aa) ?_;refine vk (A2 (Ay _) (Cp _) Cq) ?_;refine vk (vbi) ?_
  rcases brc hz with ⟨hc,hz⟩|⟨hc,hz⟩
  ·have hb0:(!(decide (((List.length x1:Nat):Int)=1)))=false:=(ntf (dT hc))
   refine vk (VOK.lit (Aa) hb0) ?_;refine vk (Aa) ?_
   obtain ⟨x3,g3,hz⟩:=bnd hz
   obtain ⟨n3,p03,q3⟩:=Aj g3
   refine vk (vix n3 p03 (Db q3) rfl C9) ?_;refine vk (vfa Cm) ?_;refine vk (Ah Bd) ?_;refine vk (vbi) ?_;refine vk (Af) ?_;refine RL.gk [2,3,4,16] ?_;refine .nil ?_
   cases hz
   exact jr () trivial
  have hb0:(!(decide (((List.length x1:Nat):Int)=1)))=true:=(ntt (dF hc))
  refine vk (VOK.lit (Aa) hb0) ?_;refine gf ?_;refine gf ?_;refine gf ?_;refine gf ?_;refine gf ?_;refine vk (Af) ?_;refine RL.gk [2,3,4,16] ?_;refine .nil ?_
  cases hz
  exact jr () trivial
 rintro _ _
 rcases brc h with ⟨hc,h⟩|⟨hc,h⟩
 ·refine cnt hc ?_
  refine .sr ?_;refine asd ?_;refine ar [2,3,4] ?_;refine .ret ?_
  cases h
  exact ⟨by decide,rfl,rfl,rfl⟩
 refine cnf (bf hc) ?_;refine .skip ?_
 show AW _ _ _ _ _ _
 refine .sr ?_;refine vk (Aa) ?_
 obtain ⟨x4,g4,h⟩:=bnd h
 obtain ⟨n4,p04,q4⟩:=Aj g4
 refine vk (vix n4 p04 (Db q4) rfl C9) ?_;refine vk (vfa Bs) ?_;refine vk (AE II G7) ?_
 obtain ⟨x5,g5,h⟩:=bnd h
 refine vk (VOK.tupd (vs:=[.i .i64 x5.1,.b x5.2]) (Aq (Jw g5) Tryz.call124)) ?_;refine vk (vex) ?_;refine vk (vex) ?_;refine asd ?_;refine ar [2,3] ?_;refine .ret ?_
 cases h
 exact ⟨by decide,rfl,rfl,rfl⟩
def chB (c:Int) : Bool:=decide (0≤c)&&(decide (c≤1114111)&&(decide (c<55296)||decide (57343<c)))
theorem QO (c:Int) : EZ c=some (chB c):=rfl
def AG (a:Arr) : Bool:=a.shape.isEmpty&&match a.items with
 | [x]=>decide (x.kind≠3)
 | _=>false
theorem Jy (a:Arr) : CW a=some (AG a):=by
 unfold CW AG
 cases hs:a.shape with
 | nil =>
  rw [if_pos (by simp)]
  match hi:a.items with
  | []=>rw [if_neg (by simp)];rfl
  | [x]=>rw [if_pos (by simp),N1];simp
  | x::y::r=>rw [if_neg (by simp;omega)];rfl
 | cons z zs=>rw [if_neg (by simp;omega)];rfl
mutual
def rI : Itm→Bool
 | .mk k n c b=>if k=1 then (DS n&&(decide (c=0)&&decide (b.length=0))) else if k=2 then (chB c&&(CM (.mk k n c b)&&decide (b.length=0))) else if k=3 then (decide (b.length=1)&&(CM (.mk k n c b)&&(decide (c=0)&&rBs b))) else false
def rA : Arr→Bool
 | .mk s i=>decide ((szP s).2=0)&&(decide ((i.length:Int)=if (szP s).1<1 then 1 else (szP s).1)&&rIs i)
def rIs : List Itm→Bool
 | []=>true
 | x::xs=>rI x&&rIs xs
def rBs : List Arr→Bool
 | []=>true
 | a::r=>(!AG a&&rA a)&&rBs r
end
mutual
def cI : Itm→Nat
 | .mk _ _ _ b=>cBs b
def cA : Arr→Nat
 | .mk _ i=>i.length+cIs i
def cIs : List Itm→Nat
 | []=>0
 | x::xs=>cI x+cIs xs
def cBs : List Arr→Nat
 | []=>0
 | a::r=>cA a+cBs r
end
mutual
def dI : Itm→Nat
 | .mk _ _ _ b=>dBs b
def dA : Arr→Nat
 | .mk s i=>if AG (.mk s i) then 0 else 1+dIs i
def dIs : List Itm→Nat
 | []=>0
 | x::xs=>max (dI x) (dIs xs)
def dBs : List Arr→Nat
 | []=>0
 | a::r=>max (dA a) (dBs r)
end
theorem K8 (x:Itm) : rI x=if x.kind=1 then (DS x.num&&(decide (x.char=0)&&decide (x.box.length=0))) else if x.kind=2 then (chB x.char&&(CM x&&decide (x.box.length=0))) else if x.kind=3 then (decide (x.box.length=1)&&(CM x&&(decide (x.char=0)&&rBs x.box))) else false:=by
 cases x;simp only [rI];rfl
theorem HR (a:Arr) : rA a=(decide ((szP a.shape).2=0)&&(decide ((a.items.length:Int)=if (szP a.shape).1<1 then 1 else (szP a.shape).1)&&rIs a.items)):=by cases a;simp only [rA];rfl
theorem G0 (a:Arr) : cA a=a.items.length+cIs a.items:=by cases a;simp only [cA];rfl
theorem Kw (x:Itm) : cI x=cBs x.box:=by cases x;simp only [cI];rfl
theorem GX (a:Arr) : dA a=if AG a then 0 else 1+dIs a.items:=by cases a;simp only [dA];rfl
theorem LV (x:Itm) : dI x=dBs x.box:=by cases x;simp only [dI];rfl
def up (d deep n:Nat) : Nat:=if n=0 then d else max d (deep+n)
theorem Vv (d deep n m:Nat) : up (up d deep n) deep m=up d deep (max n m):=by unfold up;split<;>split<;>split<;>omega
theorem Vs {d deep n:Nat} (h:d≤16) (h2:deep+n≤16) : up d deep n≤16:=by unfold up;split<;>omega
def MH (f:Int→Int→Int→Option M3) (r:Bool) (n dp:Nat) : Prop:=∀ deep c d : Nat,deep≤16→c≤16384→d≤16 →
 (r=true→deep+dp≤16→c+n≤16384→f deep c d=some (true,((c+n:Nat):Int),((up d deep dp:Nat):Int))) ∧
 (¬(r=true∧deep+dp≤16∧c+n≤16384)→∃ z,f deep c d=some (false,z))
theorem K7 (x:Itm) : CM x=true↔x.num=(false,[],[]):=by
 unfold CM
 simp only [Bool.and_eq_true,Bool.not_eq_true',decide_eq_true_eq]
 constructor
 ·rintro ⟨h1,h2,h3⟩
  exact Prod.ext h1 (Prod.ext (List.length_eq_zero_iff.1 (by omega)) (List.length_eq_zero_iff.1 (by omega)))
 ·intro h;rw [h];simp
theorem Ms {rc:Arr→Int→Int→Int→Option M3} {x:Itm} (hx:okI x) (hrc:∀ a∈x.box,MH (rc a) (rA a) (cA a) (dA a)) : MH (LF rc x) (rI x) (cI x) (dI x):=by
 have ox:=(DN x).1 hx
 intro deep c d h1 h2 h3
 unfold LF
 rw [K8,Kw,LV]
 have e0:(((x.box.length:Nat):Int)=0)↔x.box.length=0:=by omega
 have e1:(((x.box.length:Nat):Int)=1)↔x.box.length=1:=by omega
 by_cases k1:x.kind=1
 ·rw [if_pos k1,if_pos k1,JP ox.2.1,oB]
  simp only [e0]
  by_cases hb:x.box.length=0
  ·have:x.box=[]:=List.length_eq_zero_iff.1 hb
   rw [this]
   simp only [cBs,dBs,List.length_nil,decide_true,Bool.and_true,Nat.add_zero]
   refine ⟨fun hr _ _=>by rw [hr];rfl,fun hn=>?_⟩
   have:(DS x.num&&decide (x.char=0))=false:=by
    cases hq:(DS x.num&&decide (x.char=0)) with
    | false=>rfl
    | true=>exact absurd ⟨hq,h1,h2⟩ hn
   rw [this];exact ⟨_,rfl⟩
  ·simp only [hb,decide_false,Bool.and_false]
   exact ⟨fun h=>by simp at h,fun _=>⟨_,rfl⟩⟩
 rw [if_neg k1,if_neg k1]
 by_cases k2:x.kind=2
 ·rw [if_pos k2,if_pos k2,QO,oB]
  simp only [e0]
  by_cases hb:x.box.length=0
  ·have:x.box=[]:=List.length_eq_zero_iff.1 hb
   rw [this]
   simp only [cBs,dBs,List.length_nil,decide_true,Bool.and_true,Nat.add_zero]
   refine ⟨fun hr _ _=>by rw [hr];rfl,fun hn=>?_⟩
   have:(chB x.char&&CM x)=false:=by
    cases hq:(chB x.char&&CM x) with
    | false=>rfl
    | true=>exact absurd ⟨hq,h1,h2⟩ hn
   rw [this];exact ⟨_,rfl⟩
  ·simp only [hb,decide_false,Bool.and_false]
   exact ⟨fun h=>by simp at h,fun _=>⟨_,rfl⟩⟩
 rw [if_neg k2,if_neg k2]
 by_cases k3:x.kind=3
 ·rw [if_pos k3,if_pos k3]
  simp only [e1]
  by_cases hb:x.box.length=1
  rotate_left
  ·rw [if_neg hb];simp only [hb,decide_false,Bool.false_and]
   exact ⟨fun h=>by simp at h,fun _=>⟨_,rfl⟩⟩
  rw [if_pos hb]
  by_cases hn:CM x=true
  rotate_left
  ·rw [if_neg hn];simp only [hn,hb,decide_true,Bool.true_and,Bool.false_and]
   exact ⟨fun h=>by simp at h,fun _=>⟨_,rfl⟩⟩
  rw [if_pos hn]
  by_cases hc:x.char=0
  rotate_left
  ·rw [if_neg hc];simp only [hn,hb,hc,decide_true,decide_false,Bool.true_and,Bool.false_and]
   exact ⟨fun h=>by simp at h,fun _=>⟨_,rfl⟩⟩
  rw [if_pos hc]
  obtain ⟨a,ha⟩:∃ a,x.box=[a]:=List.length_eq_one_iff.1 hb
  have hm:=hrc a (by rw [ha];simp)
  rw [ha,N1,oB,Jy,oB]
  simp only [hn,hc,decide_true,Bool.true_and,rBs,cBs,dBs,Bool.and_true,Nat.add_zero,Nat.max_zero,List.length_cons,List.length_nil]
  by_cases hs:AG a=true
  ·rw [if_pos hs];simp only [hs]
   exact ⟨fun h=>by simp at h,fun _=>⟨_,rfl⟩⟩
  rw [if_neg hs,oB]
  have hs':AG a=false:=by simpa using hs
  simp only [hs',Bool.not_false,Bool.true_and]
  obtain ⟨m1,m2⟩:=hm deep c d h1 h2 h3
  refine ⟨fun hr g1 g2=>by rw [m1 hr g1 g2];rfl,fun hn=>?_⟩
  obtain ⟨z,hz⟩:=m2 hn
  exact ⟨z,by rw [hz];rfl⟩
 ·rw [if_neg k3,if_neg k3]
  exact ⟨fun h=>by simp at h,fun _=>⟨_,rfl⟩⟩
theorem Lr {rc:Arr→Int→Int→Int→Option M3} : ∀ {xs:List Itm},(∀ x∈xs,MH (LF rc x) (rI x) (cI x) (dI x))→MH (fun deep c d=>IB rc deep xs c d) (rIs xs) (cIs xs) (dIs xs)
 | [],_=>fun deep c d h1 h2 h3=>by
  simp only [IB,rIs,cIs,dIs]
  exact ⟨fun _ _ _=>rfl,fun h=>absurd ⟨trivial,h1,h2⟩ h⟩
 | x::xs,hx=>fun deep c d h1 h2 h3=>by
  obtain ⟨m1,m2⟩:=hx x (by simp) deep c d h1 h2 h3
  have ih:=Lr (xs:=xs) fun y hy=>hx y (by simp [hy])
  simp only [IB,rIs,cIs,dIs]
  by_cases hc:rI x=true∧deep+dI x≤16∧c+cI x≤16384
  ·obtain ⟨p1,p2,p3⟩:=hc
   rw [m1 p1 p2 p3,oB,if_pos rfl,p1,Bool.true_and]
   obtain ⟨n1,n2⟩:=ih deep (c+cI x) (up d deep (dI x)) h1 p3 (Vs h3 p2)
   refine ⟨fun hr g1 g2=>?_,fun hn=>n2 fun ⟨q1,q2,q3⟩=>hn ⟨q1,by omega,by omega⟩⟩
   have:=n1 hr (by omega) (by omega)
   rw [Vv,Nat.add_assoc] at this
   exact this
  ·obtain ⟨z,hz⟩:=m2 hc
   rw [hz,oB,if_neg (by simp)]
   refine ⟨fun hr g1 g2=>absurd ⟨?_,by omega,by omega⟩ hc,fun _=>⟨_,rfl⟩⟩
   simp only [Bool.and_eq_true] at hr;exact hr.1
theorem Hf {a:Arr} (hs:AG a=true) (hr:rIs a.items=true) : dIs a.items=0∧cIs a.items=0:=by
 unfold AG at hs
 rw [Bool.and_eq_true] at hs
 match hi:a.items,hs.2 with
 | [x],h2 =>
  rw [hi] at hr
  simp only [rIs,Bool.and_true] at hr
  rw [K8] at hr
  have h3:x.kind≠3:=by simpa using h2
  have hb:x.box=[]:=by
   by_cases k1:x.kind=1
   ·rw [if_pos k1] at hr;simp only [Bool.and_eq_true,decide_eq_true_eq] at hr;exact List.length_eq_zero_iff.1 hr.2.2
   rw [if_neg k1] at hr
   by_cases k2:x.kind=2
   ·rw [if_pos k2] at hr;simp only [Bool.and_eq_true,decide_eq_true_eq] at hr;exact List.length_eq_zero_iff.1 hr.2.2
   rw [if_neg k2,if_neg h3] at hr;cases hr
  simp [dIs,cIs,LV,Kw,hb,dBs,cBs]
theorem RV {rc:Arr→Int→Int→Int→Option M3} {a:Arr} (ha:okAr a) (hx:∀ x∈a.items,MH (LF rc x) (rI x) (cI x) (dI x)) : MH (RB rc a) (rA a) (cA a) (dA a):=by
 have oa:=(Bj a).1 ha
 intro deep c d h1 h2 h3
 have hl:=Gx a.shape
 unfold RB
 rw [GC oa.2.1,oB,HR,G0,GX]
 by_cases e1:(szP a.shape).2=0
 rotate_left
 ·rw [if_neg e1];simp only [e1,decide_false,Bool.false_and]
  exact ⟨fun h=>by simp at h,fun _=>⟨_,rfl⟩⟩
 rw [if_pos e1]
 by_cases e2:(a.items.length:Int)=if (szP a.shape).1<1 then 1 else (szP a.shape).1
 rotate_left
 ·rw [if_neg e2];simp only [e1,e2,decide_true,decide_false,Bool.true_and,Bool.false_and]
  exact ⟨fun h=>by simp at h,fun _=>⟨_,rfl⟩⟩
 rw [if_pos e2]
 have hlen:a.items.length≤4096:=by
  split at e2<;>omega
 simp only [e1,decide_true,Bool.true_and]
 rw [dT e2,Bool.true_and]
 have hw:w64 ((c:Int)+((a.items.length:Nat):Int))=((c+a.items.length:Nat):Int):=by rw [B1 (by omega) (by omega)];omega
 rw [hw]
 by_cases e3:(16384:Int)<((c+a.items.length:Nat):Int)
 ·rw [if_pos e3]
  exact ⟨fun _ _ _=>by omega,fun _=>⟨_,rfl⟩⟩
 rw [if_neg e3,Jy,oB]
 have hi:=Lr hx
 by_cases hs:AG a=true
 ·simp only [if_pos hs]
  rw [if_pos (show (deep:Int)≤16 by omega)]
  obtain ⟨m1,m2⟩:=hi deep (c+a.items.length) d h1 (by omega) h3
  refine ⟨fun hr g1 g2=>?_,fun hn=>m2 fun ⟨q1,q2,q3⟩=>hn ⟨q1,by omega,by omega⟩⟩
  obtain ⟨s1,s2⟩:=Hf hs hr
  have:=m1 hr (by omega) (by omega)
  rw [s1,Nat.add_assoc] at this
  exact this
 simp only [if_neg hs]
 have hw2:w64 ((deep:Int)+1)=((deep+1:Nat):Int):=by rw [B1 (by omega) (by omega)];omega
 rw [hw2]
 have hmx:(if (d:Int)<((deep+1:Nat):Int) then ((deep+1:Nat):Int) else (d:Int))=((max d (deep+1):Nat):Int):=by split<;>omega
 rw [hmx]
 by_cases e4:((deep+1:Nat):Int)≤16
 rotate_left
 ·rw [if_neg e4]
  exact ⟨fun _ _ _=>by omega,fun _=>⟨_,rfl⟩⟩
 rw [if_pos e4]
 obtain ⟨m1,m2⟩:=hi (deep+1) (c+a.items.length) (max d (deep+1)) (by omega) (by omega) (by omega)
 refine ⟨fun hr g1 g2=>?_,fun hn=>m2 fun ⟨q1,q2,q3⟩=>hn ⟨q1,by omega,by omega⟩⟩
 have:=m1 hr (by omega) (by omega)
 have hup:up (max d (deep+1)) (deep+1) (dIs a.items)=up d deep (1+dIs a.items):=by unfold up;split<;>split<;>omega
 rw [hup,Nat.add_assoc] at this
 exact this
theorem Lg : ∀ (k:Nat) {a:Arr},a.size<k→okAr a→MH (Ks k a) (rA a) (cA a) (dA a)
 | 0,a,h,_=>by omega
 | k+1,a,h,ha=>by
  have oa:=(Bj a).1 ha
  have:=RV (rc:=Ks k) ha fun x hx=>Ms (oa.2.2.2 x hx) fun b hb=>Lg k (by have:=Ht hx;have:=FQ hb;omega) (((DN x).1 (oa.2.2.2 x hx)).2.2.2.2 b hb)
  intro deep c d h1 h2 h3
  simp only [Ks]
  rw [if_pos (by omega)]
  exact this deep c d h1 h2 h3
theorem N7 {a:Arr} (ha:okAr a) : MH (mAr a) (rA a) (cA a) (dA a):=Lg _ (Nat.lt_succ_self _) ha
theorem SC {x:Itm} (hx:okI x) : MH (mIt x) (rI x) (cI x) (dI x):=Ms hx fun a ha=>N7 (((DN x).1 hx).2.2.2.2 a ha)
def AT (a:Arr) : Prop:=rA a=true∧dA a≤16∧cA a≤16384
def Cs (x:Itm) : Prop:=rI x=true∧dI x≤16∧cI x≤16384
instance (a:Arr) : Decidable (AT a):=by unfold AT;infer_instance
instance (x:Itm) : Decidable (Cs x):=by unfold Cs;infer_instance
theorem JD {a:Arr} (ha:okAr a) : Ep a=some (if AT a then (((cA a:Nat) : Int),((dA a:Nat) : Int)) else (0,0),decide (AT a)):=by
 obtain ⟨m1,m2⟩:=N7 ha 0 0 0 (by omega) (by omega) (by omega)
 unfold Ep
 by_cases h:AT a
 ·have:=m1 h.1 (by have:=h.2.1;omega) (by have:=h.2.2;omega)
  rw [show ((0:Nat):Int)=0 from rfl] at this
  rw [this,if_pos h,dT h]
  have hu:up 0 0 (dA a)=dA a:=by unfold up;split<;>omega
  simp [hu]
 ·obtain ⟨z,hz⟩:=m2 fun ⟨q1,q2,q3⟩=>h ⟨q1,by omega,by omega⟩
  rw [show ((0:Nat):Int)=0 from rfl] at hz
  rw [hz,if_neg h,dF h];rfl
theorem GY {a:Arr} (ha:okAr a) : Ba a=some (decide (AT a)):=by unfold Ba;rw [JD ha,oB]
theorem RQ {a:Arr} (ha:okAr a) : EO a=some (if AT a then ((cA a:Nat) : Int) else 0):=by
 unfold EO;rw [JD ha,oB];split<;>rfl
theorem MY {x:Itm} (hx:okI x) : EU x=some (decide (Cs x)):=by
 obtain ⟨m1,m2⟩:=SC hx 0 0 0 (by omega) (by omega) (by omega)
 unfold EU
 by_cases h:Cs x
 ·have:=m1 h.1 (by have:=h.2.1;omega) (by have:=h.2.2;omega)
  rw [show ((0:Nat):Int)=0 from rfl] at this
  rw [this,dT h];rfl
 ·obtain ⟨z,hz⟩:=m2 fun ⟨q1,q2,q3⟩=>h ⟨q1,by omega,by omega⟩
  rw [show ((0:Nat):Int)=0 from rfl] at hz
  rw [hz,dF h];rfl
theorem QD {a b:List Nat} (ha:okL 1048576 a=true) (hb:okL 35184372087808 b=true) : Hv a b=some (decide (a=b)):=if_pos (by rw [ha,hb];rfl)
theorem Th {p:Rat} (hp:Nk p) : FR (ofQ p)=some (decide (p.den=1)):=by
 unfold FR
 rw [JP (G5 hp),Jt hp,oB,if_pos rfl,QZ,oB]
 rw [show Hv (ofQ p).2.2 [1]=some (decide (An p.den=[1])) from QD (KK hp.2 (by decide)) (by rfl),oB,oB]
 congr 1
 exact decide_eq_decide.2 IV
end Go.FL
namespace Go.FL
open Go Go.RowKit
section
variable {P:Program} {C:Cx} {X:Snap} {o:Oper} {ops:Array Oper} {Q:Exit→Env→Ae→Prop} {env env':Env} {H H':Ae} {a:Act} {w w':World} {I I':Nat→Prop} {μ μ':List Nat} {O O':Nat→Option Loc}
 {K:Env→Ae→Prop} {k:Nat} {l:List Oper}
theorem Td {blk:Nat} {u0 u1 v0 v1:Value} {e:TypeId} (h:w.heap[blk]?=some (.cells #[u0,u1] e (0,0))) : w.setRow blk #[v0,v1]=(w.setCell ⟨blk,0,none⟩ v0).setCell ⟨blk,1,none⟩ v1:=by
 obtain ⟨hlt,hv⟩:=Array.getElem?_eq_some_iff.1 h
 have e1:w.heap.modify blk (fun|.cells _ elem frozen=>.cells #[v0,v1] elem frozen|o=>o)=(w.heap.modify blk (fun|.cells c elem frozen=>.cells (c.setIfInBounds 0 v0) elem frozen|o=>o)).modify blk (fun|.cells c elem frozen=>.cells (c.setIfInBounds 1 v1) elem frozen|o=>o):=by
  apply Array.ext
  ·simp
  ·intro i h1 h2
   simp only [Array.getElem_modify]
   by_cases hi:blk=i
   ·subst hi;simp only [if_true,hv];simp
   ·simp only [if_neg hi]
 unfold World.setRow World.setCell
 simp only [Option.isSome_none,Bool.false_eq_true,if_false]
 exact congrArg (fun x=>({w with heap:=x}:World)) e1
theorem bdo {ty s t e:Nat} {parts:Array (Nat×Operand)} {places:List (Nat×Nat)} {z:Value} {xs:List DV} (hp:DI P ty=some places) (hz:(P.info? ty).bind (·.zero)=some z) (hzr:z=.agg #[.slice none 0 0,.slice none 0 0]) (h:RL P C ops Q (k+1) l ((t,.ag [.own e xs,.nl])::(s,.un)::env) H)
  (hpl:places=[(0,1),(1,1)]:=by rfl) (hg:grd ops env o true=true:=by rfl) (ho:o.op=.build ty parts:=by rfl) (hpa:parts=#[(0,.tmp s)]:=by rfl) (hv:get env s=.own e xs:=by rfl) (hd:o.dst=some t:=by rfl)
  (hf:Ak (get env t)=false:=by rfl) (hr:Da s env=false:=by rfl) (ht:okT C.nt t:=by rfl):RL P C ops Q k (o::l) env H:=by
 have hst:=E1 hv hf
 subst hpl hzr
 refine .go hg (.val (t:=t) (av:=.ag [.own e xs,.nl]) (env':=put env s .un) (H':=H) (by simp [ho]) hd ht (fun X a w I μ O _ _ _ hs=>?_) ?_)
 ·obtain ⟨k1,bs,k2,k3,k4⟩:=hs.take s (by rw [hv];rfl)
  rw [hv] at k2
  have hb:P.built ty [(0,a.tmps.getD s undef)]=some #[a.tmps.getD s undef,.slice none 0 0]:=by
   unfold DI at hp
   unfold Program.built
   cases hi:P.info? ty with
   | none=>rw [hi] at hz;cases hz
   | some it =>
    rw [hi] at hz
    simp only [oB] at hz
    split at hp
    ·rename_i fields hu
     simp only [hu,hz,hp]
     have hone:∃ A n c,a.tmps.getD s undef=.slice A n c:=by
      generalize a.tmps.getD s undef=u at k2
      cases k2 with
      | own _ _ _ vs hsz ho' hr' =>
       rcases ho' with ⟨A,h1,_⟩|⟨_,g,cap,h1,_⟩<;>exact ⟨_,_,_,h1⟩
     obtain ⟨A,n,c,hu3⟩:=hone
     rw [hu3]
     simp [Instr.fill,Value.cells]
    ·cases hp
  refine ⟨.agg #[a.tmps.getD s undef,.slice none 0 0],w,I,μ,_,?_,k1,bs,?_,k3,k4⟩
  ·simp only [execOp,ho,hpa,Sem.run_bind]
   have:=run_build (P:=P) w ty #[(0,a.tmps.getD s undef)] #[a.tmps.getD s undef,.slice none 0 0] (by simpa using hb)
   simp only [List.map_toArray,List.map_cons,List.map_nil,Act.eval]
   rw [this]
   simp only [Result.andThen_ok,Sem.run_pure]
  ·have:=ARep.ag (ARepAll.cons k2 (ARepAll.cons (.nl (P:=P) (w:=w) (I:=I) (μ:=μ)) .nil))
   simpa using this
 ·refine RL.gh (Gh.same fun q=>?_) h
  have h1:Ak (get (put env s .un) t)=false:=by rw [C0 hr];simp [get,hst,hf]
  rw [Ai h1]
  simp only [get]
  split
  ·rfl
  ·rw [C0 hr];rfl
theorem st2 {x:Operand} {r ty id:Nat} {c0 c1 a0 a1:AV} (hH:H[id]?=some (.box [c0,c1])) (h:RL P C ops Q (k+1) l ((r,.un)::env) (H.set id (.box [a0,a1]))) (hsz:Az P ty=2) (hg:grd ops env o true=true:=by rfl)
  (ho:o.op=.store ty x (.tmp r):=by rfl) (hv:lk env x=.bp id 0:=by rfl) (hy:get env r=.ag [a0,a1]:=by rfl) (n0:Ak c0=false:=by rfl) (n1:Ak c1=false:=by rfl) (m0:one a0=true:=by rfl) (m1:one a1=true:=by rfl) (hd:o.dst=none:=by rfl) (h0:C.n0=0:=by rfl):RL P C ops Q k (o::l) env H:=by
 obtain ⟨h1,h2⟩:=Ar hv (by simp)
 have hlt:id<H.length:=(lS.1 hH).1
 refine .go hg (.done (env':=put env r .un) (H':=H.set id (.box [a0,a1])) (by simp [ho]) hd (fun X a w I μ O _ g2 _ hs=>?_) ?_)
 ·obtain ⟨blk,hm,he⟩:=hs.bp h1 h2
  obtain ⟨k1,bs,k2,k3,k4⟩:=hs.take r (by rw [hy];rfl)
  rw [hy] at k2
  generalize hev:a.tmps.getD r undef=u at k2
  cases k2 with
  | @ag _ vs _ k2 =>
   cases k2 with
   | @cons _ v0 _ _ b0 b1' q0 k2 =>
    cases k2 with
    | @cons _ v1 _ _ b1 b2 q1 k2 =>
     cases k2
     rw [List.append_nil] at k3 k4
     obtain ⟨d0,d1,d2⟩:=List.nodup_append.1 k3
     obtain ⟨s1,⟨y1,w1⟩,f1⟩:=k1.storeC (off:=0) hH rfl hm (by omega) q0 d0 fun b hb=>k4 b (by simp [hb])
     rw [n0] at s1
     have e1:Er H id 0 a0=H.set id (.box [a0,c1]):=by simp [Er,hH]
     rw [e1] at s1
     have hH1:(H.set id (.box [a0,c1]))[id]?=some (.box [a0,c1]):=List.getElem?_set_self hlt
     have q1':ARep P (w.setCell ⟨blk,0,none⟩ v0) I μ a1 v1 b1:=by
      obtain ⟨blk',bs',g1,⟨cells,et,g3,g4⟩,g5,_⟩:=k1.heap id _ hH
      rw [hm] at g1;cases g1
      have hOb:=(g5 (by omega)).2 blk (by simp)
      refine q1.keep (fun _ h=>h) (fun b hi=>heap_setCell_other w _ b v0 fun e=>?_) (fun _ _ h=>h) fun b hb=>heap_setCell_other w _ b v0 fun e=>?_
      ·have e':b=blk:=e
       subst e';exact (k1.own _ _ hOb).2 hi
      ·have e':b=blk:=e
       subst e'
       have h7:(O b).map (toR r)=some .r:=k4 b (by simp [hb])
       have h8:(O b).map (toR r)=some (.o id):=hOb
       rw [h7] at h8;cases h8
     obtain ⟨s2,⟨y2,w2⟩,f2⟩:=s1.storeC (off:=1) hH1 rfl hm (by omega) q1' d1 fun b hb=>by
      show (if b∈b0 then _ else _)=_
      rw [if_neg fun hm=>d2 b hm b hb rfl];exact k4 b (by simp [hb])
     rw [n1] at s2
     have e2:Er (H.set id (.box [a0,c1])) id 1 a1=H.set id (.box [a0,a1]):=by simp [Er,hH1]
     rw [e2] at s2
     refine ⟨_,I,μ,_,?_,s2⟩
     obtain ⟨blk',bs',g1,⟨cells,et,g3,g4⟩,g5,_⟩:=k1.heap id _ hH
     rw [hm] at g1;cases g1
     have hcl:cells.toList.length=2:=g4.length.symm
     obtain ⟨u0,u1,hcc⟩:∃ u0 u1,cells=#[u0,u1]:=by
      obtain ⟨l⟩:=cells
      match l,hcl with
      | [x,y],_=>exact ⟨x,y,rfl⟩
     rw [hcc] at g3
     have hone0:=Gj q0 m0
     have hone1:=Gj q1 m1
     obtain ⟨i,i1,i2⟩:=FM (P:=P) (t:=ty) (by omega)
     have hsi:(P.info? ty).map (·.size)=some (#[v0,v1]:Array Value).size:=by rw [i1];simp;omega
     have hrun:=run_storeVar_row (P:=P) w blk et ty #[u0,u1] #[v0,v1] g3 hsi rfl (by simp [hone0,hone1])
     have hevr:a.eval (.tmp r)=.agg #[v0,v1]:=by show a.tmps.getD r undef=_;rw [hev]
     simp only [execOp,ho,he,hevr,Instr.storeAt,Instr.sureAddr,Sem.run_bind,Sem.run_pure,Result.andThen_ok,hrun]
     rw [Td g3]
 ·refine RL.gh (Gh.same fun q=>?_) h
  rw [Ai (by rw [hy];rfl)]
section
variable {nt:Nat×Nat} {J:JT} {ags:List Value} {QJ:Exit→Env→Ae→Nat→Prop} {n:Nat}
end
end
end Go.FL
namespace Go.FL
open Go Go.Proofs
section
variable {S:Type}
def Tz (step:Itm→S→Option (Bool×S)) : List Itm→S→Option (Bool×S)
 | [],s=>some (true,s)
 | x::xs,s=>(step x s).bind fun r=>if r.1=true then Tz step xs r.2 else some (false,r.2)
def Ri (step:Itm→S→Option (Bool×S)) (x:Itm) (s:S) : Option (Bool×S):=(step x s).map fun r=>(!r.1,r.2)
theorem PQ {step:Itm→S→Option (Bool×S)} : ∀ {xs:List Itm} {s:S} {z:Bool×S} {i:Int},0≤i→Tz step xs s=some z→∃ n,JZ (Ri step) xs s i=some (n,z.2)∧(!decide (0≤n))=z.1
 | [],s,z,i,_,h=>by cases h;exact ⟨-1,rfl,rfl⟩
 | x::xs,s,z,i,hi,h=>by
  rw [Tz] at h
  obtain ⟨y,hy,h⟩:=bnd h
  have hs:Ri step x s=some (!y.1,y.2):=by simp [Ri,hy]
  by_cases hc:y.1=true
  ·rw [if_pos hc] at h
   obtain ⟨n,h1,h2⟩:=PQ (i:=i+1) (by omega) h
   refine ⟨n,?_,h2⟩
   rw [JZ,hs,oB,if_neg (by simp [hc])];exact h1
  ·rw [if_neg hc] at h
   cases h
   refine ⟨i,?_,by simp [hi]⟩
   rw [JZ,hs,oB,if_pos (by simp [hc])]
end
theorem UC {S:Type} {step:Itm→S→Option (Bool×S)} {obj:S→HO} {f:FuncId} {caps:List AV} {id:Nat} (hcall:∀ args w,(callFunc f args).run Tryz.prog w=.ok (.enter f args) w) (hnc:noOwnL caps=true)
  (hstep:∀ (x:Itm) s r H,H[id]?=some (obj s)→step x s=some r→FnR Tryz.prog f (.d (dvI x)::caps) H fun v H'=>v=.d (.b r.1)∧Upd H id (obj r.2) H')
  {x:Itm} {s:S} {r:Bool×S} {H:Ae} {n3:Nat} (hs:H[id]?=some (obj s)) (h3:H[n3]?=some (.box [.fn f [] caps])) (h:Ri step x s=some r) :
  FnR Tryz.prog 159 [.d (dvI x),.bp n3 0] H fun v H'=>v=.d (.b r.1)∧Upd H id (obj r.2) H':=by
 simp only [Ri,Option.map_eq_some_iff] at h
 obtain ⟨y,hy,rfl⟩:=h
 have hfn:noOwn (.fn f [] caps)=true:=by simp [noOwn,noOwnL,hnc]
 refine FnR.of (rs:=[.tmp 3]) 8 Tryz.func159 rfl rfl rfl (by simp) ?_;refine .sr ?_;refine vk (vbx) ?_;refine asd ?_;refine rn ?_;refine .sr ?_;refine vk (L8 (cs:=[.fn f [] caps]) (c:=.fn f [] caps) h3 rfl (by kernel_rfl) (hn:=hfn)) ?_;refine vk (AE A4 AA) ?_
 refine VE (avs:=[.d (dvI x)]) (hstep _ _ _ _ hs hy) hcall (fun v H' hp=>?_) (hnc:=hnc)
 obtain ⟨rfl,hp⟩:=hp
 refine vk (vnt) ?_;refine asd ?_;refine rn ?_;refine .ret ?_
 exact ⟨_,⟨rfl,rfl⟩,rfl,hp⟩
def Vg {S:Type} (step:Itm→S→Option (Bool×S)) (a:Arr) (s:S) : Option (Bool×S) :=
 (Ba a).bind fun x1=>if x1=true then (if ((List.length a.shape:Nat):Int)≤1 then (D7 a).bind fun l=>if l.length≤9223372036854775806 then Tz step l s else none else some (false,s)) else some (false,s)
set_option maxRecDepth 10000 in
theorem VA {S:Type} {step:Itm→S→Option (Bool×S)} {obj:S→HO} {f:FuncId} {caps:List AV} {id:Nat} (hcall:∀ args w,(callFunc f args).run Tryz.prog w=.ok (.enter f args) w) (hnc:noOwnL caps=true)
  (hstep:∀ (x:Itm) s r H,H[id]?=some (obj s)→step x s=some r→FnR Tryz.prog f (.d (dvI x)::caps) H fun v H'=>v=.d (.b r.1)∧Upd H id (obj r.2) H')
  {a:Arr} {s:S} {r:Bool×S} {H:Ae} (hs:H[id]?=some (obj s)) (h:Vg step a s=some r) :
  FnR Tryz.prog 122 [.d (dvA a),.fn f [] caps] H fun v H'=>v=.d (.b r.1)∧Upd H id (obj r.2) H':=by
 unfold Vg at h
 have hfn:noOwn (.fn f [] caps)=true:=by simp [noOwn,noOwnL,hnc]
 have hid:id<H.length:=(lS.1 hs).1
 refine FnR.of (rs:=[.tmp 4]) 20 Tryz.func122 rfl rfl rfl (by simp) ?_;refine .sr ?_;refine vk (vbx) ?_
 refine bxA (c:=.fn f [] caps) ?_ (hn:=hfn)
 refine asd ?_
 have f0:Upd H id (obj s) (H++[.box [.fn f [] caps]]):=⟨by rw [List.getElem?_append_left hid];exact hs,by simp,fun j h1 h2=>by rw [List.getElem?_append_left h2]⟩
 have f3:(H++[HO.box [.fn f [] caps]])[H.length]?=some (.box [.fn f [] caps]):=by simp
 have g3:H.length≠id:=by omega
 generalize H++[HO.box [.fn f [] caps]]=H2 at f0 f3 ⊢
 obtain ⟨n3,hn3⟩:∃ n3,n3=H.length:=⟨_,rfl⟩
 rw [← hn3] at f3 g3 ⊢
 refine rn ?_;refine .gh (Gh.keep [2,3] rfl) ?_;refine .sr ?_;refine vk (AE Ad Ac) ?_
 obtain ⟨x1,hx1,h⟩:=bnd h
 refine vk (Aq (BC hx1) Tryz.call15) ?_
 by_cases hc:x1=true
 rotate_left
 ·rw [if_neg hc] at h
  cases h
  refine vk (VOK.lit (Aa) (bf hc)) ?_;refine gf ?_;refine gf ?_;refine gf ?_;refine gf ?_;refine vk (Af) ?_;refine vk (Aa) ?_;refine gf ?_;refine gf ?_;refine gf ?_;refine gf ?_;refine gf ?_;refine vk (Af) ?_;refine asd ?_;refine rn ?_;refine .ret ?_
  exact ⟨_,⟨rfl,rfl⟩,rfl,f0⟩
 rw [if_pos hc] at h
 refine vk (VOK.lit (Aa) hc) ?_;refine vk (vfa Aw) ?_;refine vk (Ah A9) ?_;refine vk (A2 (Ag _) (Bt _) Bk) ?_;refine vk (vbi) ?_;refine vk (Af) ?_
 by_cases hc:((List.length a.shape:Nat):Int)≤1
 rotate_left
 ·rw [if_neg hc] at h
  cases h
  refine vk (VOK.lit (Aa) (dF hc)) ?_;refine gf ?_;refine gf ?_;refine gf ?_;refine gf ?_;refine gf ?_;refine vk (Af) ?_;refine asd ?_;refine rn ?_;refine .ret ?_
  exact ⟨_,⟨rfl,rfl⟩,rfl,f0⟩
 rw [if_pos hc] at h
 refine vk (VOK.lit (Aa) (dT hc)) ?_;refine vk (AE Ad Ac) ?_
 obtain ⟨l,hx2,h⟩:=bnd h
 obtain ⟨hl,h⟩:=GR h
 refine vk (Aq (G9 hx2) Tryz.call158) ?_;refine UZ (avs:=[.bp n3 0]) ?_
 obtain ⟨n,h1,h2⟩:=PQ (Int.le_refl 0) h
 have step':=GK (S:=S) (step:=Ri step) (st:=fun s H'=>Upd H id (obj s) H'∧H'[n3]?=some (.box [.fn f [] caps])) (caps:=[.bp n3 0]) Tryz.call159 rfl
  (fun x s y H' hs hy=>by
   obtain ⟨hs0,hs3⟩:=hs
   refine (UC hcall hnc hstep hs0.1 hs3 hy).mono fun v H'' hp=>⟨hp.1,hs0.trans hp.2,?_⟩
   rw [hp.2.2.2 n3 g3 (lS.1 hs3).1];exact hs3)
  hl h1 (H:=H2) ⟨f0,f3⟩
 refine clR (avs:=[.d (.sl (Its l)),.fn 159 [] [.bp n3 0]]) step' Tryz.call27 (fun v H' hp=>?_)
 obtain ⟨rfl,hp⟩:=hp
 refine vk (vnt) ?_
 rw [h2]
 refine vk (Af) ?_;refine asd ?_;refine rn ?_;refine .ret ?_
 exact ⟨_,⟨rfl,rfl⟩,rfl,hp.1⟩
abbrev Rb (s:List Int) : HO:=.box [.own 3 (Is s)]
def ON (x:Itm) (s:List Int) : Option (Bool×List Int):=(FT x.num).bind fun y=>(ap? 17592186044416 s [y.1]).bind fun o=>some (y.2&&decide (x.kind=1),o)
theorem QE (id:Nat) (x:Itm) (s:List Int) (r:Bool×List Int) (H:Ae) (hH:H[id]?=some (Rb s)) (h:ON x s=some r) :
  FnR Tryz.prog 123 (.d (dvI x)::[.bp id 0]) H fun v H'=>v=.d (.b r.1)∧Upd H id (Rb r.2) H':=by
 unfold ON at h
 obtain ⟨y,hy,h⟩:=bnd h
 obtain ⟨z,hz,h⟩:=bnd h
 have hid:id<H.length:=(lS.1 hH).1
 refine FnR.of (rs:=[.tmp 3]) 22 Tryz.func123 rfl rfl rfl (by simp) ?_;refine .sr ?_;refine vk (vbx) ?_;refine asd ?_;refine rn ?_;refine .sr ?_;refine vk (vfa Bs) ?_;refine vk (AE II G7) ?_;refine vk (VOK.tupd (vs:=[.i .i64 y.1,.b y.2]) (Aq (Jw hy) Tryz.call124)) ?_;refine vk (Aa) ?_;refine vk (vex) ?_;refine vk (vex) ?_;refine asd ?_;refine asd ?_;refine rn ?_;refine .gh (Gh.keep [1,2,4,5] rfl) ?_;refine .sr ?_
 refine Rn (cs:=[.own 3 (Is s)]) hH rfl ?_ A9
 refine vk (Aa) ?_;refine vk (LD (EG [y.1]) Dw).deep ?_
 have hset:∀ c,(H.set id (.box [c]))[id]?=some (.box [c]):=fun c=>List.getElem?_set_self hid
 refine Pn Lk hz hH rfl Mi ?_ Ie Ag Dw (hnc:=by simp [KY,get,HG,Oj])
 refine RL.gh (Gh.keep [1,2,4,5,15] rfl) ?_
 refine Ja (cs:=[.un]) (c:=.un) (hset _) rfl ?_ Nd
 refine rn ?_
 have hfin:(((H.set id (.box [.un])).set id (.box [.own 3 (Is z)])):Ae)=H.set id (Rb z):=by simp
 change AW _ _ _ _ _ ((H.set id (.box [.un])).set id (.box [.own 3 (Is z)]))
 rw [hfin]
 have hup:Upd H id (Rb z) (H.set id (Rb z)):=(Upd.same hH).set_id
 refine .gh (Gh.keep [2,4,5] rfl) ?_;refine .sr ?_;refine vk (Aa) ?_
 by_cases hc:y.2=true
 ·refine vk (VOK.lit (Aa) hc) ?_
  refine vk (vfa Cm) ?_;refine vk (Ah Bd) ?_;refine vk (vbi) ?_;refine vk (Af) ?_;refine asd ?_;refine rn ?_;refine .ret ?_
  cases h
  exact ⟨_,⟨rfl,rfl⟩,by rw [hc];rfl,hup⟩
 ·refine vk (VOK.lit (Aa) (bf hc)) ?_
  refine gf ?_;refine gf ?_;refine gf ?_;refine vk (Af) ?_;refine asd ?_;refine rn ?_;refine .ret ?_
  cases h
  exact ⟨_,⟨rfl,rfl⟩,by rw [bf hc];rfl,hup⟩
def Lo (a:Arr) : Option (List Int×Bool):=(Vg ON a []).map fun r=>if r.1=true then (r.2,true) else ([],false)
theorem TC : 0<Az Tryz.prog 3:=by rw [C8];decide
theorem Nu {a:Arr} {r:List Int×Bool} (h:Lo a=some r) : Fn Tryz.prog 73 [dvA a] (.tup [.d (.sl (Is r.1)),.d (.b r.2)]):=by
 simp only [Lo,Option.map_eq_some_iff] at h
 obtain ⟨z,hz,rfl⟩:=h
 refine Fn.of (rs:=[.tmp 2,.tmp 3]) (nt:=12) Tryz.func73 rfl rfl rfl (by simp) rfl ?_;refine .sr ?_;refine vk (vbx) ?_;refine asn ?_;refine asd ?_;refine rn ?_;refine .sr ?_
 refine al ?_ (Am PB) (fun w I μ=>RI w I μ)
 refine rn ?_;refine .gh (Gh.nlOwnC (id:=0) (off:=0) 3 TC) ?_;refine .sr ?_;refine vk (AE Ad Ac) ?_;refine UZ (avs:=[.bp 0 0]) ?_
 refine clR (avs:=[.d (dvA a),.fn 123 [] [.bp 0 0]]) (VA (obj:=Rb) (id:=0) (caps:=[.bp 0 0]) (s:=[]) Tryz.call123 rfl (fun x s r H hH hs=>QE 0 x s r H hH hs) rfl hz) Tryz.call122 (fun v H' hp=>?_)
 obtain ⟨rfl,hp⟩:=hp
 refine asd ?_;refine rn ?_;refine .gh (Gh.keep [2,3,4,5] rfl) ?_;refine .seq ?_;refine .sr ?_;refine vk (Aa) ?_;refine vk (vnt) ?_;refine rn ?_
 by_cases hc:z.1=true
 ·rw [if_pos hc]
  refine cnf (ntf hc) ?_;refine .skip ?_
  show AW _ _ _ _ _ _
  refine .sr ?_
  refine Rn (cs:=[.own 3 (Is z.2)]) hp.1 rfl ?_ A9
  refine fz (p:=.c 0 0) (e:=3) (xs:=Is z.2) ?_ (hp:=by simp [AK,hp.1])
  refine asd ?_;refine asd ?_;refine rn ?_;refine .ret ?_
  refine ⟨by decide,?_,rfl,rfl⟩
  show AV.tup [.d (.sl (Is z.2)),.d (.b true)]=AV.tup [.d (.sl (((Is z.2).drop 0).take (Is z.2).length)),.d (.b true)]
  rw [List.drop_zero,List.take_length]
 ·rw [if_neg hc]
  refine cnt (ntt (bf hc)) ?_;refine .sr ?_;refine asn ?_;refine asd ?_;refine rn ?_;refine .gh (Gh.nlD (t:=2) rfl) ?_;refine .ret ?_
  exact ⟨by decide,rfl,rfl,rfl⟩
def TD (x:Itm) : DV:=.ag [.i .u8 x.kind,.b x.num.1,.sl (L x.num.2.1),.sl (L x.num.2.2),.i .i32 x.char,.sl (Ars x.box)]
def G6 : List Int→Option (List Itm)
 | []=>some []
 | n::ns=>(Ee n).bind fun q=>(BR q).bind fun x=>(G6 ns).bind fun xs=>some (x::xs)
theorem No : ∀ {l:List Int} {xs:List Itm},G6 l=some xs→xs.length=l.length∧∀ (i:Nat) n,l[i]?=some n→∃ q x,Ee n=some q∧BR q=some x∧xs[i]?=some x:=by
 intro l
 induction l with
 | nil=>intro xs h;cases h;exact ⟨rfl,fun i n hn=>by simp at hn⟩
 | cons m ns ih =>
  intro xs h
  rw [G6] at h
  obtain ⟨q,hq,h⟩:=bnd h
  obtain ⟨x,hx,h⟩:=bnd h
  obtain ⟨ys,hy,h⟩:=bnd h
  cases h
  obtain ⟨h1,h2⟩:=ih hy
  refine ⟨by simp [h1],fun i n hn=>?_⟩
  cases i with
  | zero=>simp at hn;subst hn;exact ⟨q,x,hq,hx,rfl⟩
  | succ i=>simpa using h2 i n (by simpa using hn)
def itY (xs:List Itm) : List (List DV):=xs.map fun x=>[TD x]
theorem UR {xs:List Itm} {i:Nat} {x:Itm} (h:xs[i]?=some x) : (itY xs)[i]?=some [TD x]:=by simp [itY,h]
set_option maxRecDepth 10000 in
theorem Sm {l:List Int} {xs:List Itm} (h:G6 l=some xs) (hl:l.length≤9223372036854775806) (m:Nat) : ItG Tryz.prog 46 [.ptr [.sl (Is l)]] (itY xs) m:=by
 obtain ⟨hlen,hat⟩:=No h
 have hyl:(itY xs).length=l.length:=by simp [itY,hlen]
 refine ItG.of Tryz.func46 rfl rfl (nt:=18) rfl (by simp) fun lp J hJ hR=>?_;refine .seq ?_;refine .lift ?_;refine .region ?_;refine vk (Ah A9) ?_;refine vk (A2 (Ag _) (Bt _) Bk) ?_;refine vk (Aa) ?_;refine .nil ?_
 show AWJ _ _ _ _ _ _ _ _ _
 refine .block ?_;refine ALJ.loop ?_;refine ALJ.gh (Gh.keep [0,5,6,7] rfl) ?_
 refine ALJ.ind (σ:=Nat) (m:=fun i=>l.length-i) (e:=fun i=>[(0,.d (.yl lp)),(5,.d (.sl (Is l))),(6,.d (.i .i64 ((List.length l:Nat):Int))),(7,.d (.i .i64 ((i:Nat):Int)))]) (h:=fun _=>[]) (r:=fun i=>i) (I:=fun i=>i≤l.length∧i≤m) ?_ 0 ⟨Nat.zero_le _,Nat.zero_le _⟩
 rintro i ⟨hi,him⟩ ih
 refine .seq ?_;refine .lift ?_;refine .region ?_;refine vk (vbi) ?_;refine .nil ?_
 show AWJ _ _ _ _ _ _ _ _ _
 refine .seq ?_
 by_cases hc:((i:Nat):Int)<((List.length l:Nat):Int)
 ·refine .cond (x:=true) (by show AV.d (.b (decide _))=_;rw [dT hc]) (fun _=>?_) (fun h=>by cases h)
  have hlt:i<l.length:=by omega
  obtain ⟨q,x,hq,hx,hxi⟩:=hat i _ (lG hlt)
  refine .skip ?_
  show AWJ _ _ _ _ _ _ _ _ _
  refine .seq ?_;refine .block ?_;refine .seq ?_;refine .lift ?_;refine .region ?_;refine vk (vix i rfl (Bg (lG hlt)) rfl Bc) ?_;refine vk (Ah AD) ?_;refine asd ?_;refine .nil ?_
  show AWJ _ _ _ _ _ _ _ _ _
  refine .seq ?_;refine .region ?_;refine vkJ (Aa) ?_;refine vkJ (Aa) ?_;refine vkJ (Aq (Ft hq) Tryz.call45) ?_;refine vkJ (Aq (DP hx) Tryz.call44) ?_;refine yld (hR i [TD x] (UR hxi) him) hJ ?_;refine vkJ (vnt) ?_;refine .nil ?_
  show AWJ _ _ _ _ _ _ _ _ _
  by_cases hm:i<m
  ·refine .cond (x:=false) (by show AV.d (.b (!decide _))=_;rw [dT hm];rfl) (fun h=>by cases h) (fun _=>?_)
   refine .skip ?_
   show AWJ _ _ _ _ _ _ _ _ _
   refine .lift ?_;refine .region ?_;refine vk (vbi) ?_;refine vk (Aa) ?_;refine .nil ?_
   show ALJ _ _ _ _ _ _ _ _ _
   have hw:IntKind.wrap .i64 ((i:Int)+1)=((i+1:Nat):Int):=by simp only [IntKind.wrap,IntKind.bits,IntKind.signed];simp;omega
   rw [hw]
   refine ALJ.gh (Gh.keep [0,5,6,7] rfl) ?_
   exact ih (i+1) ⟨hlt,hm⟩ (by omega)
  ·refine .cond (x:=true) (by show AV.d (.b (!decide _))=_;rw [dF hm];rfl) (fun _=>?_) (fun h=>by cases h)
   refine .ret ?_
   exact ⟨.inr rfl,by rw [hyl];omega⟩
 ·refine .cond (x:=false) (by show AV.d (.b (decide _))=_;rw [dF hc]) (fun h=>by cases h) (fun _=>?_)
  refine .exit ?_
  exact ⟨.inl rfl,by rw [hyl];omega⟩
def Nj (proto:Itm) (xs:List Itm) : Arr:=.mk [((min xs.length 4096:Nat) : Int)] (if xs.length=0 then [proto] else xs.take 4096)
abbrev V0 (xs:List Itm) (n:Nat) : Ae:=[.box [.own 3 (Is [((n:Nat) : Int)]),.own 58 (Its (xs.take n))]]
theorem TR : 0<Az Tryz.prog 58:=by rw [Ll];decide
set_option maxRecDepth 10000 in
set_option maxHeartbeats 4000000 in
theorem QL {proto:Itm} {xs:List Itm} {f:FuncId} {caps:List DV} (hcall:∀ args w,(callFunc f args).run Tryz.prog w=.ok (.enter f args) w) (hit:ItG Tryz.prog f caps (itY xs) 4096) :
  Fn Tryz.prog 43 [TD proto,.fn f [] caps] (.d (.ag [.sl (Is (Nj proto xs).shape),.sl (Its (Nj proto xs).items)])):=by
 refine Fn.ofMA (rs:=[.cell 4 27]) (nt:=37) Tryz.func43 rfl rfl rfl (by simp) rfl ?_;refine .seqA ?_;refine .region ?_;refine vk (vbx (cs:=[.i .u8 proto.kind,.b proto.num.1,.sl (L proto.num.2.1),.sl (L proto.num.2.2),.i .i32 proto.char,.sl (Ars proto.box)])) ?_;refine vk (van (Am AB) AJ) ?_;refine .nil ?_
 show AWM _ _ _ _ _ _
 refine .seqA ?_;refine .region ?_;refine vk (ET (ds':=Is [0]) rfl (EG [0]) Dw) ?_;refine bdo CG AB rfl ?_
 refine al ?_ (Am AB) (fun w I μ=>Kp w I μ)
 refine st2 (c0:=.nl) (c1:=.nl) rfl ?_ Ac
 refine .nil ?_
 show AWM _ _ _ _ _ _
 refine .gh (Gh.keep [1,2,4,5] rfl) ?_;refine .gh (Gh.nlOwnC (id:=0) (off:=1) 58 TR) ?_;refine .seq rfl ?_;refine .seqA ?_;refine .region ?_;refine vk (Aa) ?_;refine .nil ?_
 show AWM _ _ _ _ _ _
 refine .block ?_
 refine AWM.rangeFuncG (ps:=[10]) (f:=f) (caps:=caps) (ys:=itY xs) (m:=4096) (e1:=.exit 0) rfl rfl rfl hcall hit (fun ds hd=>?_) (fun p hp=>?_) rfl (fun k H=>H=V0 xs (min k 4096)) rfl (.inl ⟨0,rfl⟩) (fun l k ds H hk hkm hH=>?_) (fun H hH=>?_)
 ·simp only [itY,List.mem_map] at hd
  obtain ⟨x,_,rfl⟩:=hd;rfl
 ·simp only [List.mem_cons,List.not_mem_nil,or_false] at hp;subst hp;rfl
 ·subst hH
  simp only [itY,List.getElem?_map,Option.map_eq_some_iff] at hk
  obtain ⟨x,hx,rfl⟩:=hk
  rw [Nat.min_eq_left hkm]
  refine .region ?_;refine vk (van (Am CI) CZ) ?_
  refine stn ?_ AA (by decide)
  refine .nil ?_
  show AW _ _ _ _ _ _
  refine .block ?_;refine .seq ?_;refine .seq ?_;refine .region ?_;refine vk (DR Aw) ?_
  refine Rn (cs:=[.own 3 (Is [((k:Nat):Int)]),.own 58 (Its (xs.take k))]) rfl rfl ?_ A9
  refine ixr (len:=1) (xs:=Is [((k:Nat):Int)]) 0 rfl (by decide) ?_ Bc (by decide)
  refine lde (xs:=Is [((k:Nat):Int)]) (.i .i64 ((k:Nat):Int)) ⟨_,rfl,rfl⟩ ?_ AD
  refine vk (vbi) ?_;refine rn ?_
  by_cases hm:((k:Nat):Int)=4096
  ·refine cnt (dT hm) ?_
   refine .exit ?_
   have hk4:k=4096:=by omega
   subst hk4
   exact ⟨rfl,rfl⟩
  refine cnf (dF hm) ?_
  have hlt:k<4096:=by omega
  have hkl:k<xs.length:=(lS.1 hx).1
  refine .skip ?_
  show AW _ _ _ _ _ _
  refine .gh (Gh.keep [5,6] rfl) ?_;refine .seq ?_;refine .region ?_;refine vk (DR AC) ?_
  refine Rn (cs:=[.own 3 (Is [((k:Nat):Int)]),.own 58 (Its (xs.take k))]) rfl rfl ?_ Bx
  refine vk (HL A4 AA) ?_;refine vk (ET (EK x) (DB [x]) Dm) ?_
  have hap:ap? 1466015503701 (xs.take k) [x]=some (xs.take (k+1)):=by
   rw [ap?,if_pos (by simp;omega),List.take_add_one,hx];rfl
  refine Pn F9 hap rfl rfl Ib ?_ Fk Ay Dm
  refine RL.gh (Gh.keep [5,6,20] rfl) ?_;refine vk (DR AC) ?_
  refine Ja (cs:=[.own 3 (Is [((k:Nat):Int)]),.un]) (c:=.un) rfl rfl ?_ Jj
  refine rn ?_;refine .gh (Gh.keep [5] rfl) ?_;refine .region ?_;refine vk (DR Aw) ?_
  refine Rn (cs:=[.own 3 (Is [((k:Nat):Int)]),.own 58 (Its (xs.take (k+1)))]) rfl rfl ?_ A9
  refine ixr (len:=1) (xs:=Is [((k:Nat):Int)]) 0 rfl (by decide) ?_ Bc (by decide)
  refine lde (xs:=Is [((k:Nat):Int)]) (.i .i64 ((k:Nat):Int)) ⟨_,rfl,rfl⟩ ?_ AD
  refine vk (vbi) ?_
  refine ixr (len:=1) (xs:=Is [((k:Nat):Int)]) 0 rfl (by decide) ?_ Bc (by decide)
  refine ste (xs:=Is [((k:Nat):Int)]) ⟨_,rfl,rfl⟩ ?_ C8 (hn:=fun _ _ _=>Nat.zero_le _)
  refine .nil ?_
  have hw:IntKind.wrap .i64 ((k:Int)+1)=((k+1:Nat):Int):=by simp only [IntKind.wrap,IntKind.bits,IntKind.signed];simp;omega
  refine ⟨by rw [if_pos hlt],?_⟩
  rw [Nat.min_eq_left (by omega:k+1≤4096)]
  show [HO.box [AV.own _ [.i .i64 (IntKind.wrap .i64 ((k:Int)+1))],_]]=_
  rw [hw];rfl
 ·have hlen:(itY xs).length=xs.length:=by simp [itY]
  rw [hlen] at hH ⊢
  have hn:min (min (4096+1) xs.length) 4096=min xs.length 4096:=by omega
  rw [hn] at hH
  subst hH
  by_cases hb:4096<xs.length
  case' pos=>rw [if_pos hb]
  case' neg=>rw [if_neg hb]
  all_goals
   show AWM _ _ _ _ _ _
   refine .lift ?_;refine .gh (Gh.keep [2,4,5] rfl) ?_;refine .seq ?_;refine .seq ?_;refine .region ?_;refine vk (DR Aw) ?_
   refine Rn (cs:=[.own 3 (Is [((min xs.length 4096:Nat):Int)]),.own 58 (Its (xs.take (min xs.length 4096)))]) rfl rfl ?_ A9
   refine ixr (len:=1) (xs:=Is [((min xs.length 4096:Nat):Int)]) 0 rfl (by decide) ?_ Bc (by decide)
   refine lde (xs:=Is [((min xs.length 4096:Nat):Int)]) (.i .i64 ((min xs.length 4096:Nat):Int)) ⟨_,rfl,rfl⟩ ?_ AD
   refine vk (vbi) ?_;refine rn ?_;refine .gh (Gh.keep [2,4,5,32] rfl) ?_
   by_cases h0:((min xs.length 4096:Nat):Int)=0
   ·have hx0:xs.length=0:=by omega
    refine cnt (dT h0) ?_;refine .region ?_;refine vk (AE A4 AA) ?_;refine vk (ET (EK proto) (DB [proto]) Dm) ?_;refine vk (DR AC) ?_
    refine Ja (cs:=[.own 3 (Is [((min xs.length 4096:Nat):Int)]),.own 58 (Its (xs.take (min xs.length 4096)))]) (c:=.own 58 (Its (xs.take (min xs.length 4096)))) rfl rfl ?_ Jj
    refine .nil ?_
    show AW _ _ _ _ _ _
    refine .gh (Gh.keep [4,5] rfl) ?_;refine .seq ?_;refine .region ?_;refine fz (p:=.c 0 0) ?_;refine fz (p:=.c 0 1) ?_;refine vk (GN (cs:=[.d (.sl (Is [((min xs.length 4096:Nat):Int)])),.d (.sl (Its [proto]))]) (ds:=[.sl (Is [((min xs.length 4096:Nat):Int)]),.sl (Its [proto])]) rfl Ad Ac) ?_
    refine stn ?_ Ac (by decide)
    refine rn ?_;refine .ret ?_
    exact ⟨.inr rfl,.inl ⟨_,⟨.inr rfl,Ad,Ac,(by decide:(0:Nat)<2)⟩,by simp only [Nj,if_pos hx0];rfl⟩⟩
   ·have hx0:¬xs.length=0:=by omega
    refine cnf (dF h0) ?_;refine .skip ?_
    show AW _ _ _ _ _ _
    refine .gh (Gh.keep [4,5] rfl) ?_;refine .seq ?_;refine .region ?_;refine fz (p:=.c 0 0) ?_;refine fz (p:=.c 0 1) ?_;refine vk (GN (cs:=[.d (.sl (Is [((min xs.length 4096:Nat):Int)])),.d (.sl (Its (xs.take (min xs.length 4096))))]) (ds:=[.sl (Is [((min xs.length 4096:Nat):Int)]),.sl (Its (xs.take (min xs.length 4096)))]) rfl Ad Ac) ?_
    refine stn ?_ Ac (by decide)
    refine rn ?_;refine .ret ?_
    have ht:xs.take (min xs.length 4096)=xs.take 4096:=by
     rcases Nat.le_total xs.length 4096 with h|h
     ·rw [Nat.min_eq_left h,List.take_of_length_le (Nat.le_refl _),List.take_of_length_le h]
     ·rw [Nat.min_eq_right h]
    exact ⟨.inr rfl,.inl ⟨_,⟨.inr rfl,Ad,Ac,(by decide:(0:Nat)<2)⟩,by simp only [Nj,if_neg hx0,ht];rfl⟩⟩
def O6 (l:List Int) : Option Arr:=if l.length≤9223372036854775806 then (G6 l).bind fun xs=>(Ee 0).bind fun q=>(BR q).bind fun p=>some (Nj p xs) else none
theorem LW {l:List Int} {r:Arr} (h:O6 l=some r) : Fn Tryz.prog 13 [.sl (Is l)] (.d (.ag [.sl (Is r.shape),.sl (Its r.items)])):=by
 obtain ⟨hl,h⟩:=GR h
 obtain ⟨xs,hxs,h⟩:=bnd h
 obtain ⟨q,hq,h⟩:=bnd h
 obtain ⟨p,hp,h⟩:=bnd h
 cases h
 refine Fn.ofC (rs:=[.cell 2 27]) (nt:=7) Tryz.func13 rfl rfl rfl (by simp) rfl ?_;refine .seq ?_;refine .region ?_;refine vk (UJ) ?_;refine vk (van (Am AB) AJ) ?_;refine rn ?_;refine .seq ?_;refine .region ?_;refine vk (Aq (Ft hq) Tryz.call45) ?_;refine vk (Aq (DP hp) Tryz.call44) ?_;refine vk (TG) ?_;refine vk (Aq (QL (proto:=p) Tryz.call46 (Sm hxs hl 4096)) Tryz.call43) ?_
 refine stn ?_ Ac (by decide)
 refine rn ?_;refine .ret ?_
 exact ⟨_,⟨.inr rfl,Ad,Ac,(by decide:(0:Nat)<2)⟩,rfl⟩
mutual
def tyI : Itm→Itm
 | .mk k _ _ b=>if k=1 then .mk 1 (ofQ 0) 0 [] else if k=2 then .mk 2 (false,[],[]) 32 [] else .mk 3 (false,[],[]) 0 (tyBs b)
def tyA : Arr→Arr
 | .mk s i=>.mk s (tyIs i)
def tyIs : List Itm→List Itm
 | []=>[]
 | x::xs=>tyI x::tyIs xs
def tyBs : List Arr→List Arr
 | []=>[]
 | a::_=>[tyA a]
end
theorem GL (s:List Int) (i:List Itm) : (Arr.mk s i).shape=s:=rfl
theorem D0 (s:List Int) (i:List Itm) : (Arr.mk s i).items=i:=rfl
theorem Kv (k:Int) (n:RT) (c:Int) (b:List Arr) : (Itm.mk k n c b).kind=k:=rfl
theorem T4 (k:Int) (n:RT) (c:Int) (b:List Arr) : (Itm.mk k n c b).num=n:=rfl
theorem Ul (k:Int) (n:RT) (c:Int) (b:List Arr) : (Itm.mk k n c b).char=c:=rfl
theorem RA (k:Int) (n:RT) (c:Int) (b:List Arr) : (Itm.mk k n c b).box=b:=rfl
theorem RW (xs:List Itm) : tyIs xs=xs.map tyI:=by induction xs with
 | nil=>simp [tyIs]
 | cons x xs ih=>simp [tyIs,ih]
theorem Ho (a:Arr) : tyA a=.mk a.shape (a.items.map tyI):=by cases a;simp only [tyA,RW];rfl
theorem EJ : ∀ {xs:List Itm},rIs xs=true↔∀ x∈xs,rI x=true
 | []=>by simp [rIs]
 | x::xs=>by simp [rIs,EJ (xs:=xs)]
theorem P9 : ∀ {xs:List Arr},rBs xs=true↔∀ a∈xs,AG a=false∧rA a=true
 | []=>by simp [rBs]
 | x::xs=>by simp [rBs,P9 (xs:=xs)]
theorem La {x:Itm} (h:rI x=true) : (x.kind=1∧DS x.num=true∧x.char=0∧x.box=[])∨(x.kind=2∧chB x.char=true∧x.num=(false,[],[])∧x.box=[])∨(x.kind=3∧x.num=(false,[],[])∧x.char=0∧∃ a,x.box=[a]∧AG a=false∧rA a=true):=by
 rw [K8] at h
 by_cases k1:x.kind=1
 ·rw [if_pos k1] at h;simp only [Bool.and_eq_true,decide_eq_true_eq] at h
  exact .inl ⟨k1,h.1,h.2.1,List.length_eq_zero_iff.1 h.2.2⟩
 rw [if_neg k1] at h
 by_cases k2:x.kind=2
 ·rw [if_pos k2] at h;simp only [Bool.and_eq_true,decide_eq_true_eq] at h
  exact .inr (.inl ⟨k2,h.1,(K7 x).1 h.2.1,List.length_eq_zero_iff.1 h.2.2⟩)
 rw [if_neg k2] at h
 by_cases k3:x.kind=3
 ·rw [if_pos k3] at h;simp only [Bool.and_eq_true,decide_eq_true_eq] at h
  obtain ⟨a,ha⟩:=List.length_eq_one_iff.1 h.1
  refine .inr (.inr ⟨k3,(K7 x).1 h.2.1,h.2.2.1,a,ha,P9.1 h.2.2.2 a (by simp [ha])⟩)
 ·rw [if_neg k3] at h;cases h
def Tc (x:Itm) : Prop:=rI (tyI x)=true∧dI (tyI x)=dI x∧cI (tyI x)=cI x∧tyI (tyI x)=tyI x∧(tyI x).kind=x.kind∧okI (tyI x)
theorem Pm {s:List Int} {i:List Itm} {f:Itm→Itm} (h:∀ x∈i,(f x).kind=x.kind) : AG (.mk s (i.map f))=AG (.mk s i):=by
 unfold AG
 match i with
 | []=>rfl
 | [x]=>simp only [GL,D0,List.map,h x (by simp)]
 | x::y::r=>rfl
theorem Qh {f:Itm→Itm} : ∀ {i:List Itm},(∀ x∈i,cI (f x)=cI x)→cIs (i.map f)=cIs i
 | [],_=>rfl
 | x::xs,h=>by simp only [List.map,cIs];rw [h x (by simp),Qh fun y hy=>h y (by simp [hy])]
theorem P2 {f:Itm→Itm} : ∀ {i:List Itm},(∀ x∈i,dI (f x)=dI x)→dIs (i.map f)=dIs i
 | [],_=>rfl
 | x::xs,h=>by simp only [List.map,dIs];rw [h x (by simp),P2 fun y hy=>h y (by simp [hy])]
theorem UP {a:Arr} (oa:okAr a) (hr:rA a=true) (ih:∀ x∈a.items,Tc x) : rA (tyA a)=true∧dA (tyA a)=dA a∧cA (tyA a)=cA a∧tyA (tyA a)=tyA a∧AG (tyA a)=AG a∧okAr (tyA a):=by
 have o:=(Bj a).1 oa
 have hs:AG (tyA a)=AG a:=by
  rw [Ho,Pm (fun x hx=>(ih x hx).2.2.2.2.1),Arr.eta]
 rw [HR] at hr
 simp only [Bool.and_eq_true,decide_eq_true_eq] at hr
 refine ⟨?_,?_,?_,?_,hs,?_⟩
 ·rw [HR,Ho]
  simp only [GL,D0,List.length_map,Bool.and_eq_true,decide_eq_true_eq]
  refine ⟨dT hr.1,hr.2.1,EJ.2 fun x hx=>?_⟩
  obtain ⟨y,hy,rfl⟩:=List.mem_map.1 hx
  exact (ih y hy).1
 ·rw [GX,GX,hs,Ho]
  simp only [D0]
  rw [P2 fun x hx=>(ih x hx).2.1]
 ·rw [G0,G0,Ho]
  simp only [D0,List.length_map]
  rw [Qh fun x hx=>(ih x hx).2.2.1]
 ·rw [Ho,Ho]
  simp only [GL,D0,List.map_map,Arr.mk.injEq,true_and]
  exact List.map_congr_left fun x hx=>(ih x hx).2.2.2.1
 ·rw [Bj,Ho]
  simp only [GL,D0,List.length_map]
  refine ⟨o.1,o.2.1,o.2.2.1,fun x hx=>?_⟩
  obtain ⟨y,hy,rfl⟩:=List.mem_map.1 hx
  exact (ih y hy).2.2.2.2.2
theorem Sd (n:RT) (c:Int) (b:List Arr) : tyI (.mk 1 n c b)=.mk 1 (ofQ 0) 0 []:=by simp [tyI]
theorem RP (n:RT) (c:Int) (b:List Arr) : tyI (.mk 2 n c b)=.mk 2 (false,[],[]) 32 []:=by simp [tyI]
theorem Sk (n:RT) (c:Int) (a:Arr) : tyI (.mk 3 n c [a])=.mk 3 (false,[],[]) 0 [tyA a]:=by simp [tyI,tyBs]
theorem PF {r:RT} (h:Ia r=true) : okI (.mk 1 r 0 []):=by
 simp [okI,okAs,h]
theorem RH {c:Int} (h:chB c=true) : okI (.mk 2 (false,[],[]) c []):=by
 simp only [chB,Bool.and_eq_true,decide_eq_true_eq] at h
 refine ⟨by omega,rfl,by omega,by simp,trivial⟩
theorem TB {a:Arr} (h:okAr a) : okI (.mk 3 (false,[],[]) 0 [a]):=⟨by omega,rfl,by omega,by simp,h,trivial⟩
theorem Sc {r:RT} (h:DS r=true) : rI (.mk 1 r 0 [])=true:=by simp [rI,h]
theorem S5 {c:Int} (h:chB c=true) : rI (.mk 2 (false,[],[]) c [])=true:=by simp [rI,h,CM,Itm.num]
theorem U2 {a:Arr} (h:rA a=true) (hs:AG a=false) : rI (.mk 3 (false,[],[]) 0 [a])=true:=by simp [rI,rBs,h,hs,CM,Itm.num]
theorem Sj : ∀ (k:Nat) {x:Itm},x.size<k→okI x→rI x=true→Tc x
 | 0,x,h,_,_=>by omega
 | k+1,x,h,ho,hr=>by
  have hc:=La hr
  cases x with
  | mk kd n c b =>
   simp only [Kv,T4,Ul,RA] at hc
   unfold Tc
   rcases hc with ⟨rfl,h1,rfl,rfl⟩|⟨rfl,h1,rfl,rfl⟩|⟨rfl,rfl,rfl,a,rfl,h2,h3⟩
   ·rw [Sd,Sd]
    exact ⟨Sc (Jt Jg),rfl,rfl,rfl,rfl,PF (G5 Jg)⟩
   ·rw [RP,RP]
    exact ⟨S5 rfl,rfl,rfl,rfl,rfl,RH rfl⟩
   ·have hb:a∈Itm.box (.mk 3 (false,[],[]) 0 [a]):=by simp [Itm.box]
    have hz:=FQ hb
    have oa:okAr a:=((DN _).1 ho).2.2.2.2 a hb
    have h3':=h3
    rw [HR] at h3';simp only [Bool.and_eq_true] at h3'
    obtain ⟨p1,p2,p3,p4,p5,p6⟩:=UP oa h3 fun y hy=>Sj k (by have:=Ht hy;omega) (((Bj a).1 oa).2.2.2 y hy) (EJ.1 h3'.2.2 y hy)
    rw [Sk,Sk,p4]
    refine ⟨U2 p1 (by rw [p5,h2]),?_,?_,rfl,rfl,TB p6⟩
    ·simp only [dI,dBs,p2]
    ·simp only [cI,cBs,p3]
theorem KO {x:Itm} (ho:okI x) (hr:rI x=true) : Tc x:=Sj _ (Nat.lt_succ_self _) ho hr
theorem Kr : ∀ (k:Nat) {x:Itm},x.size<k→okI x→rI x=true→Ew k x=some (tyI x)
 | 0,x,h,_,_=>by omega
 | k+1,x,h,ho,hr=>by
  have hc:=La hr
  cases x with
  | mk kd n c b =>
   simp only [Kv,T4,Ul,RA] at hc
   rw [Ew,FX]
   rcases hc with ⟨rfl,h1,rfl,rfl⟩|⟨rfl,h1,rfl,rfl⟩|⟨rfl,rfl,rfl,a,rfl,h2,h3⟩
   ·rw [if_pos (Kv 1 n 0 []),Sd,PU (by omega) (by omega),oB,Rat.intCast_zero,JA (G5 Jg),oB]
   ·rw [if_neg (by rw [Kv];decide),if_pos (Kv 2 _ c []),RP];rfl
   ·have hb:a∈Itm.box (.mk 3 (false,[],[]) 0 [a]):=by simp [Itm.box]
    have hz:=FQ hb
    have oa:okAr a:=((DN _).1 ho).2.2.2.2 a hb
    have h3':=h3
    rw [HR] at h3';simp only [Bool.and_eq_true] at h3'
    have o:=(Bj a).1 oa
    rw [if_neg (by rw [Kv];decide),if_neg (by rw [Kv];decide),RA,N1,oB,Jd (h:=tyI) (fun y hy=>Kr k (by have:=Ht hy;omega) (o.2.2.2 y hy) (EJ.1 h3'.2.2 y hy)) o.2.1 o.2.2.1,oB,Sk,Ho]
theorem Nm {x:Itm} (ho:okI x) (hr:rI x=true) : IW x=some (tyI x):=Kr _ (Nat.lt_succ_self _) ho hr
theorem HD {a:Arr} (h:rA a=true) : (szP a.shape).2=0∧(a.items.length:Int)=(if (szP a.shape).1<1 then 1 else (szP a.shape).1)∧∀ x∈a.items,rI x=true:=by
 rw [HR] at h;simp only [Bool.and_eq_true,decide_eq_true_eq] at h
 exact ⟨h.1,h.2.1,EJ.1 h.2.2⟩
theorem S1 {a:Arr} (ha:okAr a) : D7 a=some (if (szP a.shape).1=0∨¬AT a then [] else a.items):=by
 have o:=(Bj a).1 ha
 unfold D7
 rw [GC o.2.1,oB]
 by_cases h0:(szP a.shape).1=0
 ·rw [if_pos h0,if_pos (.inl h0)];rfl
 rw [if_neg h0,GY ha,oB]
 by_cases h:AT a
 ·rw [dT h,if_neg (by rintro (q|q);exact h0 q;exact q h),Bool.not_true,oB,if_neg (by decide),JB ha];rfl
 ·rw [dF h,if_pos (.inr h)];rfl
theorem L5 {xs:List Itm} {f:B6} {p:Itm→Bool} (hf:∀ x∈xs,f.g x=some (p x)) (K:Int→Option Int) (hl:xs.length≤17592186044416) : ∀ (n i k:Nat) (s:Int),n=xs.length-i→i≤xs.length→n<k →
  (Ap xs f K k s (i:Int)=K s∧(xs.drop i).any p=false)∨(∃ j:Nat,Ap xs f K k s (i:Int)=some (j:Int)∧(xs.drop i).any p=true)
 | _,_,0,_,_,_,h=>by omega
 | n,i,k+1,s,hn,hi,hk=>by
  rw [Ap]
  by_cases h:i<xs.length
  ·rw [if_pos (by omega),BJ h,oB,hf _ (List.getElem_mem h),oB,lC h,List.any_cons]
   by_cases hp:p xs[i]=true
   ·rw [if_pos hp,hp];exact .inr ⟨i,rfl,rfl⟩
   ·rw [if_neg hp,BX (by omega)]
    have:p xs[i]=false:=by simpa using hp
    rw [this,Bool.false_or]
    exact L5 hf K hl (n-1) (i+1) k s (by omega) (by omega) (by omega)
  ·rw [if_neg (by omega),List.drop_of_length_le (by omega)];exact .inl ⟨rfl,rfl⟩
theorem LJ {xs:List Itm} {f:B6} {p:Itm→Bool} (hf:∀ x∈xs,f.g x=some (p x)) (hl:xs.length≤17592186044416) : AH xs f=some (xs.any p):=by
 unfold AH A5
 rw [CX]
 rcases L5 hf (fun _=>some (-1)) hl xs.length 0 AQ 0 rfl (Nat.zero_le _) (B0 (by omega)) with ⟨h1,h2⟩|⟨j,h1,h2⟩
 ·rw [show ((0:Nat):Int)=0 from rfl] at h1
  rw [h1,oB,List.drop_zero] at *
  rw [h2];rfl
 ·rw [show ((0:Nat):Int)=0 from rfl] at h1
  rw [h1,oB]
  rw [List.drop_zero] at h2
  rw [h2,dT (by omega)]
def DH (xs:List Itm) : List Int:=xs.map fun x=>((1+cI x:Nat) : Int)
theorem Rq {x:Itm} (hx:okI x) (hr:Cs x) : ∀ a∈x.box,okAr a∧AT a∧cI x=cA a∧x.box=[a]:=fun a ha=>by
 have oa:=((DN x).1 hx).2.2.2.2 a ha
 rcases La hr.1 with ⟨_,_,_,h⟩|⟨_,_,_,h⟩|⟨_,_,_,b,h,h2,h3⟩
 ·rw [h] at ha;cases ha
 ·rw [h] at ha;cases ha
 ·have hb:=ha
  rw [h,List.mem_singleton] at hb
  subst hb
  have e1:cI x=cA a:=by rw [Kw,h];simp [cBs]
  have e2:dI x=dA a:=by rw [LV,h];simp [dBs]
  exact ⟨oa,⟨h3,e2▸hr.2.1,e1▸hr.2.2⟩,e1,h⟩
theorem Tx {x:Itm} (hx:okI x) (hr:Cs x) (K:Int→Option (Arr×Int)) : Ca x K AQ 1 0=K ((1+cI x:Nat) : Int):=by
 have hF:AQ=999999999999998+1+1:=rfl
 rw [hF,Ca]
 by_cases hb:x.box=[]
 ·rw [if_neg (by rw [hb];decide)]
  have:cI x=0:=by rw [Kw,hb];rfl
  rw [this];rfl
 ·obtain ⟨a,ha⟩:=List.exists_mem_of_ne_nil _ hb
  obtain ⟨oa,ra,e1,e2⟩:=Rq hx hr a ha
  have h16:=ra.2.2
  rw [e2,if_pos (by simp),N1,oB,RQ oa,oB,if_pos ra,Ca,e2,if_neg (by rw [show w64 ((0:Int)+1)=1 from rfl];simp),B1 (by omega) (by omega),e1]
  congr 1
theorem PR {xs:List Itm} (hx:∀ x∈xs,okI x∧Cs x) (hl:xs.length≤1466015503701) (K:List Int→Option (Arr×Int)) : ∀ (n i k:Nat) (t:List Int),n=xs.length-i→i≤xs.length→n<k→t.length=i →
  BS xs K k t (i:Int)=K (t++(DH xs).drop i)
 | _,_,0,_,_,_,h,_=>by omega
 | n,i,k+1,t,hn,hi,hk,ht=>by
  rw [BS]
  have hcl:(DH xs).length=xs.length:=by simp [DH]
  by_cases h:i<xs.length
  ·obtain ⟨o,r⟩:=hx _ (List.getElem_mem h)
   have hd:(DH xs)[i]'(by omega)=((1+cI xs[i]:Nat):Int):=by simp [DH]
   rw [if_pos (by omega),CX,BJ h,oB,CX,Tx o r,JC (by simp;omega),oB,BX (by omega)]
   show BS xs K k (t++[((1+cI xs[i]:Nat):Int)]) ((i+1:Nat):Int)=_
   rw [PR hx hl K (n-1) (i+1) k _ (by omega) (by omega) (by omega) (by simp [ht]),
    lC (by omega:i<(DH xs).length),hd,List.append_assoc]
   rfl
  ·rw [if_neg (by omega),List.drop_of_length_le (by omega),List.append_nil]
def cyc (xs:List Itm) (n:Nat) : List Itm:=(List.range n).map fun i=>xs.getD (i % xs.length) default
theorem Ls (xs:List Itm) (n:Nat) : cyc xs (n+1)=cyc xs n++[xs.getD (n % xs.length) default]:=by
 unfold cyc;rw [List.range_succ,List.map_append];rfl
theorem Ff (xs:List Itm) (n:Nat) : (cyc xs n).length=n:=by simp [cyc]
theorem MU (xs ys:List Itm) : cIs (xs++ys)=cIs xs+cIs ys:=by
 induction xs with
 | nil=>simp [cIs]
 | cons x xs ih=>simp only [List.cons_append,cIs,ih];omega
theorem Qa {xs:List Itm} (h:xs≠[]) {n:Nat} {x:Itm} (hx:x∈cyc xs n) : x∈xs:=by
 unfold cyc at hx
 obtain ⟨i,_,rfl⟩:=List.mem_map.1 hx
 have hp:0<xs.length:=List.length_pos_iff.2 h
 have hlt:=Nat.mod_lt i hp
 rw [lD,lG hlt]
 exact List.getElem_mem hlt
theorem Vi (xs:List Itm) {i n:Nat} (h:i≤n) : i+cIs (cyc xs i)≤n+cIs (cyc xs n):=by
 induction n with
 | zero =>
  have:i=0:=by omega
  subst this;exact Nat.le_refl _
 | succ n ih =>
  by_cases he:i=n+1
  ·subst he;exact Nat.le_refl _
  ·have:=ih (by omega)
   rw [Ls,MU];omega
theorem PX {xs:List Itm} (hx:∀ x∈xs,okI x∧Cs x) (hne:xs≠[]) (hl:xs.length≤1466015503701) {m:Nat} (hm:m≤4096) (x1:Int×Int) (hx1:x1.1=(m:Int)) (K:Arr→Int→List Int→List Itm→Option (Arr×Int)) (a:Arr) (b:Int) (s:List Int) (t0:List Itm) (ht0:t0.length≤1) : ∀ (n i k:Nat),n=m-i→i≤m→n<k→i+cIs (cyc xs i)≤16384 →
  BN xs x1 (DH xs) K k a b (i:Int) ((i+cIs (cyc xs i):Nat):Int) s (t0++cyc xs i)=if m+cIs (cyc xs m)≤16384 then K a b s (t0++cyc xs m) else some (.mk [] [],8)
 | _,_,0,_,_,h,_=>by omega
 | n,i,k+1,hn,hi,hk,hc=>by
  rw [BN]
  have hcl:(DH xs).length=xs.length:=by simp [DH]
  have hp:0<xs.length:=List.length_pos_iff.2 hne
  by_cases h:i<m
  ·have hlt:=Nat.mod_lt i hp
   have htm:Int.tmod (i:Int) ((xs.length:Nat):Int)=((i % xs.length:Nat):Int):=by
    rw [Int.tmod_eq_emod_of_nonneg (by omega)];rfl
   have hgr:EW (((List.length xs:Nat):Int)≠0)=some ():=if_pos (by omega)
   have hd:(DH xs)[i % xs.length]'(by omega)=((1+cI xs[i % xs.length]:Nat):Int):=by simp [DH]
   obtain ⟨o,r⟩:=hx _ (List.getElem_mem hlt)
   have hg:xs.getD (i % xs.length) default=xs[i % xs.length]:=by rw [lD,lG hlt];rfl
   have hci:cI xs[i % xs.length]≤16384:=r.2.2
   have hsum:cIs (cyc xs (i+1))=cIs (cyc xs i)+cI xs[i % xs.length]:=by rw [Ls,MU,hg];simp [cIs]
   rw [if_pos (by omega),hgr,oB,htm,BJ (by omega:i % xs.length<(DH xs).length),oB,hd,B1 (by omega) (by omega)]
   by_cases hbig:(16384:Int)<((i+cIs (cyc xs i):Nat):Int)+((1+cI xs[i % xs.length]:Nat):Int)
   ·rw [if_pos hbig,if_neg]
    have:=Vi xs (show i+1≤m by omega)
    omega
   ·have hlen:=Ff xs i
    rw [if_neg hbig,oB,BJ hlt,oB,Mu o,oB,JC (by simp;omega),oB,BX (by omega)]
    have ih:=PX hx hne hl hm x1 hx1 K a b s t0 ht0 (n-1) (i+1) k (by omega) (by omega) (by omega) (by omega)
    rw [Ls,hg] at ih
    rw [← ih,List.append_assoc]
    congr 1
    rw [MU];simp only [cIs];omega
  ·have:i=m:=by omega
   subst this
   rw [if_neg (by omega),if_pos hc]
def BE (n:Int) (xs:List Itm) : List Itm:=if n=0 then [tyI (xs.headD default)] else cyc xs n.toNat
theorem Mx {s:List Int} {xs:List Itm} (hs:∀ z∈s,-9223372036854775808≤z∧z≤9223372036854775807) (hl:s.length≤17592186044416) (hxl:xs.length≤1466015503701) (hx:∀ x∈xs,okI x) :
  AU s xs=some (if (szP s).2≠0 then (.mk [] [],(szP s).2) else if xs=[]∨¬(∀ x∈xs,Cs x) then (.mk [] [],22) else if AT (.mk s (BE (szP s).1 xs)) then (.mk s (BE (szP s).1 xs),0) else (.mk [] [],8)):=by
 unfold AU
 rw [GC hl,oB]
 by_cases h0:(szP s).2=0
 rotate_left
 ·rw [if_neg h0,if_pos h0]
 have h0':¬((szP s).2≠0):=fun h=>h h0
 rw [if_pos h0,if_neg h0']
 by_cases hn:xs=[]
 ·subst hn;rw [if_pos (show ((([]:List Itm).length:Nat):Int)=0 from rfl),if_pos (.inl rfl)];rfl
 have hlen:¬((xs.length:Nat):Int)=0:=by have:=List.length_pos_iff.2 hn;omega
 rw [if_neg hlen,LJ (p:=fun x=>!decide (Cs x)) (fun x hx'=>by
  show Ed x=_
  unfold Ed;rw [MY (hx x hx'),oB]) (by omega),oB,oB]
 by_cases hr:∀ x∈xs,Cs x
 rotate_left
 ·rw [if_pos (.inr hr:xs=[]∨¬∀ x∈xs,Cs x),if_pos]
  rw [List.any_eq_true]
  simp only [Classical.not_forall] at hr
  obtain ⟨x,h1,h2⟩:=hr
  exact ⟨x,h1,by rw [dF h2];rfl⟩
 rw [if_neg (show ¬(xs=[]∨¬∀ x∈xs,Cs x) from fun h=>h.elim hn fun h=>h hr),if_neg (by
  intro h
  rw [List.any_eq_true] at h
  obtain ⟨x,h1,h2⟩:=h
  rw [dT (hr x h1)] at h2;cases h2),HF hl,oB,CX]
 have hp:0<xs.length:=List.length_pos_iff.2 hn
 have hxr:∀ x∈xs,okI x∧Cs x:=fun x h=>⟨hx x h,hr x h⟩
 obtain ⟨hz0,hz1⟩:=Gx s
 obtain ⟨m,hm⟩:∃ m:Nat,(szP s).1=(m:Int):=⟨(szP s).1.toNat,by omega⟩
 have hgo:∀ t0:List Itm,t0.length≤1→t0++cyc xs m=BE (szP s).1 xs→(∀ x∈BE (szP s).1 xs,okI x)→m+cIs (cyc xs m)≤cA (.mk s (BE (szP s).1 xs)) →
   BS xs (fun z8=>jn (fun z19 z20 z21 z22=>(Ba (Arr.mk z21 z22)).bind fun x35=>if x35=true then some (Arr.mk z21 z22,0) else some (Arr.mk [] [],8)) fun K6=>BN xs (szP s) z8 K6 AQ (Arr.mk [] []) 0 0 0 s t0) AQ [] 0=some (if AT (.mk s (BE (szP s).1 xs)) then (.mk s (BE (szP s).1 xs),0) else (.mk [] [],8)):=by
  intro t0 ht0 he hok hca
  have e2:=PR hxr hxl (fun z8=>jn (fun z19 z20 z21 z22=>(Ba (Arr.mk z21 z22)).bind fun x35=>if x35=true then some (Arr.mk z21 z22,0) else some (Arr.mk [] [],8)) fun K6=>BN xs (szP s) z8 K6 AQ (Arr.mk [] []) 0 0 0 s t0) xs.length 0 AQ [] rfl (Nat.zero_le _) (B0 (by omega)) rfl
  rw [show ((0:Nat):Int)=0 from rfl] at e2
  rw [e2,List.nil_append,List.drop_zero]
  show jn _ _=_
  rw [CX]
  have e7:=PX hxr hn hxl (show m≤4096 by omega) (szP s) hm (fun z19 z20 z21 z22=>(Ba (Arr.mk z21 z22)).bind fun x35=>if x35=true then some (Arr.mk z21 z22,0) else some (Arr.mk [] [],8)) (Arr.mk [] []) 0 s t0 ht0 m 0 AQ rfl (Nat.zero_le _) (B0 (by omega)) (by show 0+0≤_;omega)
  rw [show cyc xs 0=[] from rfl,List.append_nil,show ((0:Nat):Int)=0 from rfl] at e7
  rw [show (((0+cIs []:Nat)):Int)=0 from rfl] at e7
  rw [e7,he]
  have hit:(BE (szP s).1 xs).length≤1466015503701:=by
   rw [← he,List.length_append,Ff];omega
  have ho:okAr (.mk s (BE (szP s).1 xs)):=by
   rw [Bj];exact ⟨hs,hl,hit,hok⟩
  rw [GY ho]
  by_cases hR:AT (.mk s (BE (szP s).1 xs))
  ·rw [if_pos (nT hca hR.2.2),if_pos hR,dT hR];rfl
  ·rw [if_neg hR,dF hR];split<;>rfl
 by_cases hz:(szP s).1=0
 ·have hm0:m=0:=by omega
  subst hm0
  obtain ⟨y,ys,rfl⟩:=List.exists_cons_of_ne_nil hn
  have hmk:BE (szP s).1 (y::ys)=[tyI y]:=by unfold BE;rw [if_pos hz];rfl
  obtain ⟨o,r⟩:=hxr y (by simp)
  rw [if_pos hz,N1,oB,Nm o r.1,oB]
  show jn _ _=_
  rw [CX]
  refine hgo [tyI y] (by simp) (by rw [hmk];rfl) ?_ ?_
  ·rw [hmk];intro x hx';rw [List.mem_singleton] at hx';subst hx';exact (KO o r.1).2.2.2.2.2
  ·show 0+0≤_;omega
 ·have hmk:BE (szP s).1 xs=cyc xs m:=by unfold BE;rw [if_neg hz,hm];rfl
  rw [if_neg hz]
  show jn _ _=_
  rw [CX]
  refine hgo [] (by simp) (by rw [hmk];rfl) ?_ ?_
  ·rw [hmk];intro x hx';exact hx x (Qa hn hx')
  ·rw [hmk,G0,D0,Ff];omega
def GW (z:Int) : Prop:=-9223372036854775808≤z∧z≤9223372036854775807
def HH (z:Int) : Itm:=.mk 1 (ofQ (z:Rat)) 0 []
theorem F7 {z:Int} (h:GW z) : Nk (z:Rat):=RG h.1 (by have:=h.2;omega)
theorem Pz {z:Int} (h:GW z) : okI (HH z):=PF (G5 (F7 h))
theorem Lb {z:Int} (h:GW z) : rI (HH z)=true:=Sc (Jt (F7 h))
theorem Ti {z:Int} (h:GW z) {β:Type} (f:Itm→Option β) : ((Ee z).bind fun q=>(BR q).bind f)=f (HH z):=by
 rw [PU h.1 h.2,oB,JA (G5 (F7 h)),oB];rfl
theorem Oz {z:Int} (h:GW z) : Et z=some (.mk [] [HH z]):=by
 unfold Et;rw [Ti h];rfl
theorem Kn : szP []=(1,0):=rfl
theorem Pa {s:List Int} {i:List Itm} {n:Int} (hs:szP s=(n,0)) (hl:(i.length:Int)=if n<1 then 1 else n) (hi:∀ x∈i,rI x=true∧x.box=[]) : AT (.mk s i)∧cA (.mk s i)=i.length∧dA (.mk s i)=if AG (.mk s i) then 0 else 1:=by
 have hn:=Gx s
 rw [hs] at hn
 have hc:cIs i=0:=by
  clear hl
  induction i with
  | nil=>rfl
  | cons x xs ih=>rw [cIs,Kw,(hi x (by simp)).2,ih fun y hy=>hi y (by simp [hy])];rfl
 have hd:dIs i=0:=by
  clear hl hc
  induction i with
  | nil=>rfl
  | cons x xs ih=>rw [dIs,LV,(hi x (by simp)).2,ih fun y hy=>hi y (by simp [hy])];rfl
 have hcA:cA (.mk s i)=i.length:=by rw [G0,D0,hc];rfl
 have hdA:dA (.mk s i)=if AG (.mk s i) then 0 else 1:=by rw [GX,D0,hd]
 refine ⟨⟨?_,?_,?_⟩,hcA,hdA⟩
 ·rw [HR,GL,D0,hs,hl,dT rfl,dT rfl,EJ.2 fun x hx=>(hi x hx).1];rfl
 ·rw [hdA];split<;>omega
 ·rw [hcA];have:(i.length:Int)≤4096:=by rw [hl];split<;>omega
  omega
theorem OT {z:Int} (h:GW z) : FT (ofQ (z:Rat))=some (z,true):=by
 unfold FT
 have e:(ofQ (z:Rat)).2.1=An z.natAbs:=rfl
 have e1:(ofQ (z:Rat)).1=decide (z<0):=rfl
 have hw:okL 1048576 (An z.natAbs)=true:=ND (nT (show (An z.natAbs).length≤32 from (F7 h).1) (by decide))
 have hb:Bl z.natAbs≤64:=D1.2 (by have:=h.1;have:=h.2;omega)
 rw [Th (F7 h),oB,if_pos (dT (Rat.den_intCast z)),e,e1,AR,if_pos (by rw [hw,dT rfl];rfl),if_pos hb]
 unfold LI
 obtain ⟨h1,h2⟩:=h
 by_cases hz:z<0
 ·rw [if_pos (dT hz),if_pos (by omega)]
  congr 2;omega
 ·rw [if_neg (by rw [dF hz];decide),if_pos (by omega)]
  congr 2;omega
theorem IC {x:Itm} (h:rI x=true) (hb:x.box=[]) (hk:x.kind≠3) : AT (.mk [] [x])∧AG (.mk [] [x])=true:=by
 refine ⟨(Pa Kn rfl fun y hy=>by rw [List.mem_singleton] at hy;subst hy;exact ⟨h,hb⟩).1,?_⟩
 unfold AG;simp [GL,D0,hk]
theorem RK {x:Itm} (h:okI x) : okAr (.mk [] [x]):=by
 rw [Bj,GL,D0]
 exact ⟨nofun,by simp,by simp,fun y hy=>by rw [List.mem_singleton] at hy;rw [hy];exact h⟩
theorem Pv {z:Int} (h:GW z) : ES (.mk [] [HH z])=some (z,true):=by
 unfold ES
 have hr:=(IC (Lb h) rfl (show (1:Int)≠3 by decide)).1
 rw [S1 (RK (Pz h)),GL,Kn,if_neg (by rintro (q|q);exact absurd q (by decide);exact q hr),D0,oB,if_pos (by simp),N1,oB]
 have e:(HH z).num=ofQ (z:Rat):=rfl
 have hk:(!decide ((HH z).kind=1))=false:=rfl
 rw [hk,oB,if_neg (by decide),oB,e,OT h];rfl
theorem SS (xs:List Itm) : cyc xs xs.length=xs:=by
 apply List.ext_getElem?
 intro i
 by_cases h2:i<xs.length
 ·unfold cyc
  rw [List.getElem?_map,List.getElem?_range h2,Option.map_some,Nat.mod_eq_of_lt h2,lD,lG h2];rfl
 ·rw [List.getElem?_eq_none (by rw [Ff];omega),List.getElem?_eq_none (by omega)]
theorem MC {xs:List Itm} {n:Nat} (h:xs.length=n) (h0:n≠0) : BE ((n:Nat) : Int) xs=xs:=by
 unfold BE
 rw [if_neg (by omega),Int.toNat_natCast,← h]
 exact SS xs
def Tot (m:Option (Arr×Int)) (s:List Int) : Prop:=∃ r e,m=some (r,e)∧(e=0→okAr r∧AT r∧r.shape=s)∧(e≠0→r=.mk [] [])
theorem Ds {a:Arr} (oa:okAr a) (h:AT a) {x:Itm} (hx:x∈a.items) : okI x∧Cs x:=by
 have o:=(Bj a).1 oa
 obtain ⟨h1,h2,h3⟩:=h
 have hr:=(HD h1).2.2
 refine ⟨o.2.2.2 x hx,hr x hx,?_,?_⟩
 ·have hd:∀ {xs:List Itm},x∈xs→dI x≤dIs xs:=by
   intro xs
   induction xs with
   | nil=>intro h;cases h
   | cons y ys ih =>
    intro h
    rw [dIs]
    rcases List.mem_cons.1 h with rfl|h
    ·omega
    ·have:=ih h;omega
  have hdx:=hd hx
  rw [GX] at h2
  by_cases hs:AG a=true
  ·have:=(Hf hs (EJ.2 hr)).1
   omega
  ·rw [if_neg hs] at h2;omega
 ·have hc:∀ {xs:List Itm},x∈xs→cI x≤cIs xs:=by
   intro xs
   induction xs with
   | nil=>intro h;cases h
   | cons y ys ih =>
    intro h
    rw [cIs]
    rcases List.mem_cons.1 h with rfl|h
    ·omega
    ·have:=ih h;omega
  have hcx:=hc hx
  rw [G0] at h3
  omega
theorem O7 {s:List Int} {xs:List Itm} (hne:xs≠[]) (hx:∀ x∈xs,okI x∧Cs x) : ∀ x∈BE (szP s).1 xs,okI x:=by
 intro x hx'
 unfold BE at hx'
 split at hx'
 ·rw [List.mem_singleton] at hx'
  obtain ⟨y,ys,rfl⟩:=List.exists_cons_of_ne_nil hne
  obtain ⟨o,r⟩:=hx y (by simp)
  subst hx'
  exact (KO o r.1).2.2.2.2.2
 ·exact (hx x (Qa hne hx')).1
theorem Nh {s:List Int} {xs:List Itm} : (BE (szP s).1 xs).length≤4096:=by
 have:=Gx s
 unfold BE
 split
 ·simp
 ·rw [Ff];omega
theorem RM {s:List Int} {xs:List Itm} (hs:∀ z∈s,-9223372036854775808≤z∧z≤9223372036854775807) (hl:s.length≤17592186044416) (hxl:xs.length≤1466015503701) (hne:xs≠[]) (hx:∀ x∈xs,okI x∧Cs x) : Tot (AU s xs) s:=by
 rw [Mx hs hl hxl fun x h=>(hx x h).1]
 by_cases h0:(szP s).2≠0
 ·rw [if_pos h0];exact ⟨_,_,rfl,fun h=>absurd h h0,fun _=>rfl⟩
 rw [if_neg h0,if_neg (fun h=>h.elim hne fun h=>h fun x hx'=>(hx x hx').2)]
 by_cases hR:AT (.mk s (BE (szP s).1 xs))
 ·rw [if_pos hR]
  refine ⟨_,_,rfl,fun _=>⟨?_,hR,rfl⟩,fun h=>absurd rfl h⟩
  rw [Bj]
  exact ⟨hs,hl,by have:=Nh (s:=s) (xs:=xs);show (BE (szP s).1 xs).length≤_;omega,O7 hne hx⟩
 ·rw [if_neg hR]
  exact ⟨_,_,rfl,fun h=>absurd h (by decide),fun _=>rfl⟩
theorem KL {a:Arr} (h:AT a) : ∃ n : Nat,szP a.shape=((n:Int),0)∧a.items.length=if n=0 then 1 else n:=by
 obtain ⟨h1,h2,_⟩:=HD h.1
 have:=Gx a.shape
 refine ⟨(szP a.shape).1.toNat,?_,?_⟩
 ·rw [← h1,Int.toNat_of_nonneg this.1]
 ·split at h2<;>split<;>omega
theorem Mh {a:Arr} (h:AT a) : 0<a.items.length:=by
 obtain ⟨n,_,hl⟩:=KL h
 rw [hl];split<;>omega
end Go.FL
namespace Go.FL
open Go Go.RowKit
def FnN (P:Program) (f:FuncId) (args:List DV) (r:AV) : Prop :=
 ∀ (w:World) (I:Nat→Prop) (vs:List Value),(∀ b,I b→b<w.heap.size)→RepAll w I args vs →
  CallsIn (om none) 0 P f (Value.slice none 0 0::vs).toArray w fun e w'=>∃ v I' bs,e=.returned v∧Below w.heap.size w w'∧(∀ b,I b→I' b) ∧
   (∀ b,I' b→b<w'.heap.size∧(b<w.heap.size→I b))∧ARep P w' I' [] r v bs∧bs.Nodup∧∀ b∈bs,w.heap.size≤b∧b<w'.heap.size∧¬I' b
section
variable {P:Program} {H:Ae}
def VB (P:Program) (f:FuncId) (e:TypeId) (M:Nat) : Prop:=∀ (n:Nat) (w:World),n≤M →
 Calls P f #[.slice none 0 0,.int .i64 n] w fun x w'=>(x=.returned (.slice none 0 0)∧w'=w) ∨
  (∃ (cap:Nat) (cells:Array Value),0<cap∧cap≤maxLen∧cells.size=cap * Az P e∧x=.returned (.slice (some ⟨w.heap.size,0,none⟩) 0 cap)∧w'=w.drew.alloc (.cells cells e))
theorem FnN.grow {f e M:Nat} (hsz:0<Az P e) (h:VB P f e M) {n:Nat} (hn:n≤M) : FnN P f [.i .i64 n] (.own e []):=by
 intro w I vs hI ha
 have hvs:vs=[.int .i64 n]:=by
  cases ha with
  | cons h1 ha=>cases ha;cases h1;rfl
 subst hvs
 rw [TI]
 refine callsIn_wide.2 ((h n w hn).mono fun x w' hx=>?_)
 rcases hx with ⟨rfl,rfl⟩|⟨cap,cells,h0,hm,hc,rfl,rfl⟩
 ·refine ⟨_,I,[],rfl,Below.refl _ _,fun _ h=>h,fun b hb=>⟨hI b hb,fun _=>hb⟩,?_,nN,nofun⟩
  exact .own e [] (.slice none 0 0) [] hsz (.inl ⟨none,rfl,rfl,rfl⟩) (.nil _)
 ·have hlt:w.heap.size<(w.drew.alloc (.cells cells e)).heap.size:=(Array.getElem?_eq_some_iff.1 (heap_alloc_new w.drew (.cells cells e))).1
  have ho:OwnR (w.drew.alloc (.cells cells e)) e (Az P e) (.slice (some ⟨w.heap.size,0,none⟩) 0 cap) 0 []:=by
   refine .inr ⟨⟨by simp,.inr ⟨w.heap.size,cap,cells,rfl,Nat.zero_le _,heap_alloc_new w.drew _,Nat.zero_le _,hm,hc,by simp⟩⟩,w.heap.size,cap,rfl,h0⟩
  refine ⟨_,I,[w.heap.size],rfl,?_,fun _ h=>h,fun b hb=>⟨Nat.lt_trans (hI b hb) hlt,fun _=>hb⟩,?_,by simp,fun b hb=>?_⟩
  ·exact ((Below.refl _ w).drew).alloc (Nat.le_refl _) _
  ·have:[w.heap.size]=Bw (.slice (some ⟨w.heap.size,0,none⟩) 0 cap):=by simp [Bw,Nat.pos_iff_ne_zero.1 h0]
   rw [this]
   exact .own e [] _ [] hsz ho (.nil _)
  ·rw [List.mem_singleton] at hb
   subst hb
   exact ⟨Nat.le_refl _,hlt,fun hi=>by have:=hI _ hi;omega⟩
end
section
variable {P:Program} {C:Cx} {o:Oper} {ops:Array Oper} {Q:Exit→Env→Ae→Prop} {env:Env} {H:Ae} {k:Nat} {l:List Oper}
theorem MG {α:Type} {F:List α→List DV} {D:α→DV} (hset:∀ xs n x,(F xs).set n (D x)=F (xs.set n x)) {us:List α} {n m:Nat} {x:α} {y:Operand} {r ty e:Nat} {p:Pl} (hm:m=n) (hx:∃ z,(F us)[0+n]?=some z∧z.leaf=true)
  (h:RL P C ops Q (k+1) l (MB p (.own e (F (us.set m x))) env) (Qy p (.own e (F (us.set m x))) H)) (hsz:Az P ty=1)
  (hg:grd ops env o true=true:=by rfl) (ho:o.op=.store ty (.tmp r) y:=by rfl) (hv:get env r=.ep p (0+n) 0:=by rfl) (hp:AK env H p=.own e (F us):=by rfl) (hy:lk env y=.d (D x):=by rfl) (h1:(D x).leaf=true:=by rfl) (hd:o.dst=none:=by rfl)
  (hn:∀ id off,p=.c id off→C.n0≤id:=by (intro _ _ h;cases h<;>decide)):RL P C ops Q k (o::l) env H:=by
 subst hm
 exact ste hx (by rw [Nat.zero_add,hset];exact h) hsz hg ho hv hp hy h1 hd hn
end
end Go.FL
namespace Go.FL
open Go Go.RowKit
section
variable {P:Program} {C:Cx} {X:Snap} {o:Oper} {ops:Array Oper} {Q:Exit→Env→Ae→Prop} {env env':Env} {H H':Ae} {a:Act} {w w':World} {I I':Nat→Prop} {μ μ':List Nat} {O O':Nat→Option Loc}
 {K:Env→Ae→Prop} {k:Nat} {l:List Oper}
theorem VF {ty:Nat} (ho:o.op=.makeMap ty none:=by rfl) : VOK P C o env H (.om [] []) :=
 .val (by simp [ho]) fun X a w I μ O _ _ _ hs =>
  ⟨.map (some w.heap.size),w.alloc (.map #[] 0),I,[w.heap.size],by simp [execOp,ho,Instr.makeMap,newObj,Sem.run],A8 _,fun b hi=>hi,fun b hi=>⟨nL (hs.ilt b hi) (A8 _).size,fun _=>hi⟩,
   ARep.om [] [] [] [] w.heap.size #[] 0 (heap_alloc_new w _) .nil .nil (List.Perm.refl _) rfl,by simp,fun b hb=>by
    simp at hb;subst hb
    exact ⟨Nat.le_refl _,by simp,fun hi=>by have:=hs.ilt _ hi;omega⟩⟩
def freshK (q:IntKind) (z:Int) (ks:List DV) : Prop:=∀ k∈ks,∃ z',k=.i q z'∧z'≠z
theorem Pw {α β:Type} : ∀ {ks:List α} {vs:List β} {x:α},ks.length=vs.length→x∈ks→∃ v,(x,v)∈ks.zip vs
 | k::ks,v::vs,x,hl,h=>by
  rcases List.mem_cons.1 h with rfl|h
  ·exact ⟨v,by simp⟩
  ·obtain ⟨u,hu⟩:=Pw (ks:=ks) (vs:=vs) (by simpa using hl) h
   exact ⟨u,by simp [hu]⟩
theorem Jc {q:IntKind} {z:Int} {ty:TypeDesc} (hty:ty=.int q) : ∀ {es:List MapEntry} {ks:List DV} (n:Nat),RepAll w I ks (es.map MapEntry.key)→freshK q z ks→Instr.findNow ty (.int q z) es n=some none
 | [],_,n,_,_=>rfl
 | e::es,ks,n,hk,hf=>by
  subst hty
  cases hk with
  | @cons c _ cs _ h t =>
   obtain ⟨z',rfl,hz⟩:=hf c (by simp)
   have he:e.key=.int q z':=by
    generalize e.key=u at h
    cases h;rfl
   have hs:Instr.sameNow (.int q) (.int q z) e.key=some false:=by
    rw [he];simp [Instr.sameNow];exact fun h=>hz h.symm
   simp only [Instr.findNow,hs]
   exact Jc rfl (n+1) t fun k hk=>hf k (by simp [hk])
theorem Me {q:IntKind} {z:Int} {ty:TypeDesc} (hty:ty=.int q) {d:DV} : ∀ {es:List MapEntry} {ks vs:List DV} (n:Nat),RepAll w I ks (es.map MapEntry.key)→RepAll w I vs (es.map MapEntry.val) →
  (∀ k∈ks,∃ z',k=.i q z')→(.i q z,d)∈ks.zip vs→(∀ d',(.i q z,d')∈ks.zip vs→d'=d)→∃ i v,Instr.findNow ty (.int q z) es n=some (some (i,v))∧Rep w I d v
 | [],_,_,n,hk,_,_,hm,_=>by cases hk;simp at hm
 | e::es,ks,vs,n,hk,hv,hi,hm,hu=>by
  subst hty
  cases hk with
  | @cons c _ cs _ h t =>
   cases hv with
   | @cons c2 _ cs2 _ h2 t2 =>
    obtain ⟨z',rfl⟩:=hi c (by simp)
    have he:e.key=.int q z':=by
     generalize e.key=u at h
     cases h;rfl
    by_cases hz:z=z'
    ·subst hz
     have hs:Instr.sameNow (.int q) (.int q z) e.key=some true:=by rw [he];simp [Instr.sameNow]
     refine ⟨n,e.val,by simp only [Instr.findNow,hs],?_⟩
     have:=hu c2 (by simp)
     subst this;exact h2
    ·have hs:Instr.sameNow (.int q) (.int q z) e.key=some false:=by rw [he];simp [Instr.sameNow];exact hz
     simp only [Instr.findNow,hs]
     refine Me rfl (n+1) t t2 (fun k hk=>hi k (by simp [hk])) ?_ (fun d' hd=>hu d' (by simp [hd]))
     simp only [List.zip_cons_cons,List.mem_cons,Prod.mk.injEq,DV.i.injEq,true_and] at hm
     rcases hm with ⟨h3,_⟩|hm
     ·exact absurd h3 hz
     ·exact hm
theorem Jf {kt:TypeId} {q:IntKind} {z:Int} (hk:P.underlying kt=some (.int q)) (b:Bool) (n:Nat) : (Instr.checkKey b (n+1) kt (.int q z)).run P w=.ok () w:=by
 unfold Instr.checkKey
 simp [run_underlying hk]
theorem Ha {kt:TypeId} {q:IntKind} {z:Int} {es:List MapEntry} {r:Option (Nat×Value)} (hk:P.underlying kt=some (.int q)) (hf:Instr.findNow (.int q) (.int q z) es 0=some r) : (Instr.findKey kt (.int q z) es).run P w=.ok r w:=by
 simp [Instr.findKey,run_underlying hk,hf]
theorem MP {r:Nat} {es:Array MapEntry} {c:Nat} (hh:w.heap[r]?=some (.map es c)) : (getObj r).run P w=.ok (.map es c) w:=by
 simp [getObj,Sem.run,hh]
theorem OW {ty kt et:TypeId} {q:IntKind} {r:Nat} {es:Array MapEntry} {clock:Nat} {z:Int} {v:Value} (hu:P.underlying ty=some (.map kt et)) (hk:P.underlying kt=some (.int q)) (hh:w.heap[r]?=some (.map es clock)) (hf:Instr.findNow (.int q) (.int q z) es.toList 0=some none) :
  (Instr.mapUpdate ty (.map (some r)) (.int q z) v).run P w=.ok () {w with heap:=w.heap.setIfInBounds r (.map (es.push {key:=.int q z,val:=v,born:=clock}) (clock+1))}:=by
 have h1:=Jf (w:=w) (z:=z) hk false 9999
 have h2:=Ha (w:=w) (z:=z) hk hf
 have h3:=MP (P:=P) hh
 unfold Instr.mapUpdate
 simp only [run_underlying hu,Sem.run_bind,Result.andThen_ok,h1,h2,h3]
 simp [setObj,Sem.run,hh]
theorem KF {ty kt et:TypeId} {q:IntKind} {r:Nat} {es:Array MapEntry} {clock:Nat} {z:Int} {i:Nat} {v:Value} (hu:P.underlying ty=some (.map kt et)) (hk:P.underlying kt=some (.int q)) (hh:w.heap[r]?=some (.map es clock)) (hf:Instr.findNow (.int q) (.int q z) es.toList 0=some (some (i,v))) :
  (Instr.lookup ty (.map (some r)) (.int q z) false).run P w=.ok v w:=by
 have h1:=Jf (w:=w) (z:=z) hk es.isEmpty 9999
 have h2:=Ha (w:=w) (z:=z) hk hf
 have h3:=MP (P:=P) hh
 unfold Instr.lookup
 simp only [run_underlying hu,Sem.run_bind,Sem.run_pure,Result.andThen_ok,h1,h2,h3]
 rfl
theorem Kf {ty kt et:TypeId} {q:IntKind} {r:Nat} {es:Array MapEntry} {clock:Nat} {z:Int} {v:Value} (hu:P.underlying ty=some (.map kt et)) (hk:P.underlying kt=some (.int q)) (hz:(zeroValue et).run P w=.ok v w) (hh:w.heap[r]?=some (.map es clock)) (hf:Instr.findNow (.int q) (.int q z) es.toList 0=some none) :
  (Instr.lookup ty (.map (some r)) (.int q z) false).run P w=.ok v w:=by
 have h1:=Jf (w:=w) (z:=z) hk es.isEmpty 9999
 have h2:=Ha (w:=w) (z:=z) hk hf
 have h3:=MP (P:=P) hh
 unfold Instr.lookup
 simp only [run_underlying hu,Sem.run_bind,Sem.run_pure,Result.andThen_ok,h1,h2,h3,hz]
 rfl
theorem Ji {ks vs ks' vs':List DV} (hp:(ks'.zip vs').Perm (ks.zip vs)) (hl:ks'.length=vs'.length) {k:DV} (h:k∈ks') : k∈ks:=by
 obtain ⟨v,hv⟩:=Pw hl h
 exact (List.of_mem_zip (hp.mem_iff.1 hv)).1
theorem Sim.om_inv (hs:Sim P X env H a w I μ O) {t:Nat} {ks vs:List DV} (hg:get env t=.om ks vs) :
  ∃ blk es c ks' vs',a.tmps.getD t undef=.map (some blk)∧w.heap[blk]?=some (.map es c)∧RepAll w I ks' (es.toList.map MapEntry.key)∧RepAll w I vs' (es.toList.map MapEntry.val)∧(ks'.zip vs').Perm (ks.zip vs)∧ks.length=vs.length∧O blk=some (.t t):=by
 have:=hs.envr t
 rw [hg] at this
 obtain ⟨bs,h1,h2,h3⟩:=this.plain rfl
 generalize a.tmps.getD t undef=v at h1
 cases h1 with
 | om _ _ ks' vs' blk es c hh hk hv hp hl=>exact ⟨blk,es,c,ks',vs',rfl,hh,hk,hv,hp,hl,h3 blk (by simp)⟩
theorem Sim.ins (hs:Sim P X env H a w I μ O) {t:Nat} {ks vs:List DV} (hg:get env t=.om ks vs) {ty kt et:TypeId} {q:IntKind} {z:Int} {d:DV} {v:Value} (hu:P.underlying ty=some (.map kt et)) (hk:P.underlying kt=some (.int q)) (hf:freshK q z ks) (hv:Rep w I d v) :
  ∃ w',(Instr.mapUpdate ty (a.tmps.getD t undef) (.int q z) v).run P w=.ok () w'∧Sim P X ((t,.om (ks++[.i q z]) (vs++[d]))::env) H a w' I μ O:=by
 obtain ⟨blk,es,c,ks',vs',h1,h2,h3,h4,h5,h6,hO⟩:=hs.om_inv hg
 have hl':ks'.length=vs'.length:=by rw [h3.length,h4.length,List.length_map,List.length_map]
 have hfn:=Jc (q:=q) (z:=z) rfl 0 h3 fun k hk=>hf k (Ji h5 hl' hk)
 have hlt:blk<w.heap.size:=(hs.own blk _ hO).1
 refine ⟨{w with heap:=w.heap.setIfInBounds blk (.map (es.push {key:=.int q z,val:=v,born:=c}) (c+1))},by rw [h1];exact OW hu hk h2 hfn,?_⟩
 have hoth:∀ b,b≠blk→(w.heap.setIfInBounds blk (.map (es.push {key:=.int q z,val:=v,born:=c}) (c+1)))[b]?=w.heap[b]?:=fun b hb=>by
  rw [Array.getElem?_setIfInBounds,if_neg (Ne.symm hb)]
 obtain ⟨n1,_,_⟩:=hs.other_blk hO
 refine hs.blkSet (w':={w with heap:=w.heap.setIfInBounds blk (.map (es.push {key:=.int q z,val:=v,born:=c}) (c+1))}) (av:=.om (ks++[.i q z]) (vs++[d])) hO (by rw [hg];rfl) rfl hoth (by simp) rfl rfl rfl ?_
 rw [h1]
 have hI:∀ b,I b→(w.heap.setIfInBounds blk (.map (es.push {key:=.int q z,val:=v,born:=c}) (c+1)))[b]?=w.heap[b]?:=fun b hi=>hoth b (n1 b hi)
 refine .om _ _ (ks'++[.i q z]) (vs'++[d]) blk (es.push {key:=.int q z,val:=v,born:=c}) (c+1) ?_ ?_ ?_ ?_ (by simp [h6])
 ·show (w.heap.setIfInBounds blk _)[blk]?=_
  rw [Array.getElem?_setIfInBounds,if_pos rfl,if_pos hlt]
 ·rw [Array.toList_push,List.map_append]
  exact (h3.keep hI fun _ h=>h).append (.cons (.i _ _) .nil)
 ·rw [Array.toList_push,List.map_append]
  exact (h4.keep hI fun _ h=>h).append (.cons (hv.keep hI fun _ h=>h) .nil)
 ·rw [List.zip_append hl',List.zip_append h6]
  exact List.Perm.append h5 (List.Perm.refl _)
theorem I7 {m:Nat} {x y:Operand} {ty kt et:TypeId} {q:IntKind} {z:Int} {ks vs:List DV} {d:DV} (hu:P.underlying ty=some (.map kt et)) (hk:P.underlying kt=some (.int q)) (hf:freshK q z ks) (h:RL P C ops Q (k+1) l ((m,.om (ks++[.i q z]) (vs++[d]))::env) H) (hg:grd ops env o true=true:=by rfl)
  (ho:o.op=.insert ty (.tmp m) x y:=by rfl) (hm:get env m=.om ks vs:=by rfl) (hx:A1 (lk env x)=some (.i q z):=by rfl) (hy:A1 (lk env y)=some d:=by rfl) (hd:o.dst=none:=by rfl):RL P C ops Q k (o::l) env H:=by
 refine .go hg (.done (by simp [ho]) hd (fun X a w I μ O _ _ _ hs=>?_) h)
 have h1:=hs.deep (x:=x) hx
 have h2:=hs.deep (x:=y) hy
 generalize hev:a.eval x=u at h1
 cases h1
 obtain ⟨w',r1,r2⟩:=hs.ins hm hu hk hf h2
 have he:a.eval (.tmp m)=a.tmps.getD m undef:=rfl
 exact ⟨w',I,μ,O,by simp only [execOp,ho,hev,he,r1,Sem.run_bind,Result.andThen_ok,Sem.run_pure],r2⟩
theorem Gh.omf {t:Nat} {ks vs:List DV} (hg:get env t=.om ks vs) : Gh P C env H ((t,.d (.mp ks vs))::env) H:=fun X a w I μ O _ _ _ hs=>by
 obtain ⟨blk,es,c,ks',vs',h1,h2,h3,h4,h5,h6,hO⟩:=hs.om_inv hg
 obtain ⟨n1,n2,n3⟩:=hs.other_blk hO
 refine ⟨_,_,⟨hs.toMem.frz [blk] (fun b hm=>by simp at hm;subst hm;exact (hs.own b _ hO).1) (fun b hm hk=>by simp at hm;exact n2 b hk hm) H rfl ?_,fun s=>?_,hs.nt,hs.dfs⟩⟩
 ·intro id ob ho
  obtain ⟨bb,bs,k1,k2,k3,k4⟩:=hs.heap id ob ho
  refine ⟨bb,bs,k1,k2.mono fun _ h=>.inl h,fun hn=>⟨(k3 hn).1,fun b hb=>?_⟩,k4⟩
  have:b∉[blk]:=by simpa using n3 id ob bb bs ho k1 k3 k4 b hb
  simp only [this,if_false]
  exact (k3 hn).2 b hb
 ·by_cases hst:t=s
  ·subst hst
   rw [show get ((t,.d (.mp ks vs))::env) t=.d (.mp ks vs) by simp [get]]
   refine .of (bs:=[]) ?_ nN (by simp)
   rw [h1]
   exact .d (.mp ks vs ks' vs' blk es c (.inr (by simp)) h2 (h3.keep (fun _ _=>rfl) fun _ h=>.inl h) (h4.keep (fun _ _=>rfl) fun _ h=>.inl h) h5 h6)
  ·rw [show get ((t,.d (.mp ks vs))::env) s=get env s by simp [get,hst]]
   have key:∀ p e xs,AK env H p=.own e xs→AK ((t,AV.d (.mp ks vs))::env) H p=.own e xs:=by
    intro p e' xs hp
    cases p with
    | t r =>
     have hr':t≠r:=fun h=>by subst h;simp only [AK] at hp;rw [hg] at hp;cases hp
     simp only [AK,get,if_neg hr'];exact hp
    | c id off=>exact hp
   have ht:=hs.envr s
   cases hgs:get env s with
   | ref p off len =>
    rw [hgs] at ht
    obtain ⟨e',xs,A,n,c,g1,g2,g3,g4⟩:=ht
    exact ⟨e',xs,A,n,c,key p e' xs g1,g2,g3,g4⟩
   | ep p i k =>
    rw [hgs] at ht
    obtain ⟨e',xs,b,n,c,g1,g2,g3,g4,g5⟩:=ht
    exact ⟨e',xs,b,n,c,key p e' xs g1,g2,g3,g4,g5⟩
   | _ =>
    rw [hgs] at ht
    obtain ⟨bs,g1,g2,g3⟩:=ht.plain rfl
    refine .of (g1.keep (fun _ h=>.inl h) (fun _ _=>rfl) (fun _ _ h=>h) fun _ _=>rfl) g2 fun b hb=>?_
    have:b∉[blk]:=fun hm=>by
     simp at hm;subst hm
     have:=g3 b hb;rw [hO] at this;simp at this;exact hst this
    simp only [this,if_false]
    exact g3 b hb
theorem VU {x y:Operand} {ty kt et:TypeId} {q:IntKind} {z:Int} {ks vs:List DV} {d:DV} (hu:P.underlying ty=some (.map kt et)) (hk:P.underlying kt=some (.int q)) (hi:∀ k∈ks,∃ z',k=.i q z') (hm:(.i q z,d)∈ks.zip vs) (hq:∀ d',(.i q z,d')∈ks.zip vs→d'=d)
  (ho:o.op=.lookup ty x y false:=by rfl) (hx:A1 (lk env x)=some (.mp ks vs):=by rfl) (hy:A1 (lk env y)=some (.i q z):=by rfl):VOK P C o env H (.d d) :=
 .pv ⟨by simp [ho],fun X a w I μ O _ hs=>by
  have h1:=hs.deep (x:=x) hx
  have h2:=hs.deep (x:=y) hy
  generalize hev:a.eval x=u at h1
  generalize hev2:a.eval y=u2 at h2
  cases h2
  cases h1 with
  | mp _ _ ks' vs' r es c hI hh h3 h4 hp hl =>
   have hl':ks'.length=vs'.length:=by rw [h3.length,h4.length,List.length_map,List.length_map]
   obtain ⟨i,v,e1,e2⟩:=Me (q:=q) (z:=z) (d:=d) rfl 0 h3 h4 (fun k hk=>hi k (Ji hp hl' hk)) (hp.mem_iff.2 hm) fun d' hd=>hq d' (hp.mem_iff.1 hd)
   exact ⟨v,by simp only [execOp,ho,hev,hev2,KF hu hk hh e1,Sem.run_bind,Result.andThen_ok,Sem.run_pure],.of_rep e2⟩⟩
theorem VV {x y:Operand} {ty kt et:TypeId} {q:IntKind} {z:Int} {ks vs:List DV} {d:DV} {zv:Value} (hu:P.underlying ty=some (.map kt et)) (hk:P.underlying kt=some (.int q)) (hz:∀ w,(zeroValue et).run P w=.ok zv w) (hd:∀ w I,Rep w I d zv) (hf:freshK q z ks)
  (ho:o.op=.lookup ty x y false:=by rfl) (hx:A1 (lk env x)=some (.mp ks vs):=by rfl) (hy:A1 (lk env y)=some (.i q z):=by rfl):VOK P C o env H (.d d) :=
 .pv ⟨by simp [ho],fun X a w I μ O _ hs=>by
  have h1:=hs.deep (x:=x) hx
  have h2:=hs.deep (x:=y) hy
  generalize hev:a.eval x=u at h1
  generalize hev2:a.eval y=u2 at h2
  cases h2
  cases h1 with
  | mp _ _ ks' vs' r es c hI hh h3 h4 hp hl =>
   have hl':ks'.length=vs'.length:=by rw [h3.length,h4.length,List.length_map,List.length_map]
   have e1:=Jc (q:=q) (z:=z) rfl 0 h3 fun k hk=>hf k (Ji hp hl' hk)
   exact ⟨zv,by simp only [execOp,ho,hev,hev2,Kf hu hk (hz w) hh e1,Sem.run_bind,Result.andThen_ok,Sem.run_pure],.of_rep (hd w I)⟩⟩
end
end Go.FL
namespace Go.FL
open Go Go.RowKit
section
variable {P:Program} {C:Cx} {X:Snap} {o:Oper} {ops:Array Oper} {Q:Exit→Env→Ae→Prop} {env env':Env} {H H':Ae} {a:Act} {w w':World} {I I':Nat→Prop} {μ μ':List Nat} {O O':Nat→Option Loc}
 {K:Env→Ae→Prop} {k:Nat} {l:List Oper}
def Fw (P:Program) (t:TypeId) : Bool:=match P.underlying t with
 | some (.func ..)=>true
 | _=>false
theorem QX {t:TypeId} (hu:Fw P t=true) (f:Go.Fn) (fs cs:Array Value) : (Op.equal t (.func f fs cs) .nilFunc).run P w=.ok false w:=by
 unfold Fw at hu
 split at hu
 ·rename_i h
  have e:Op.equal t (.func f fs cs) .nilFunc=Op.equalIn (9999+1) t (.func f fs cs) .nilFunc:=rfl
  rw [e]
  unfold Op.equalIn
  simp only [run_underlying h,Sem.run_bind,Result.andThen_ok,Sem.run_pure]
 ·cases hu
theorem QC {t:TypeId} (hu:Fw P t=true) : (Op.equal t .nilFunc .nilFunc).run P w=.ok true w:=by
 unfold Fw at hu
 split at hu
 ·rename_i h
  have e:Op.equal t .nilFunc .nilFunc=Op.equalIn (9999+1) t .nilFunc .nilFunc:=rfl
  rw [e]
  unfold Op.equalIn
  simp only [run_underlying h,Sem.run_bind,Result.andThen_ok,Sem.run_pure]
 ·cases hu
theorem VX {xt yt:TypeId} {x y:Operand} {f:FuncId} {fs cs:List DV} (hu:Fw P xt=true) (ho:o.op=.binOp .eql xt x y yt:=by rfl) (hx:A1 (lk env x)=some (.fn f fs cs):=by rfl) (hy:A1 (lk env y)=some .nf:=by rfl) : VOK P C o env H (.d (.b false)):=by
 refine .same (by simp [ho]) fun X a w I μ O _ hs=>⟨.bool false,?_,.b _⟩
 have h1:=hs.deep hx
 have h2:=hs.deep hy
 generalize hev:a.eval x=v1 at h1
 generalize hev2:a.eval y=v2 at h2
 cases h1;cases h2
 simp [execOp,ho,hev,hev2,binOp,eqGuard,QX hu]
theorem Wf {xt yt:TypeId} {x y:Operand} (hu:Fw P xt=true) (ho:o.op=.binOp .eql xt x y yt:=by rfl) (hx:A1 (lk env x)=some .nf:=by rfl) (hy:A1 (lk env y)=some .nf:=by rfl) : VOK P C o env H (.d (.b true)):=by
 refine .same (by simp [ho]) fun X a w I μ O _ hs=>⟨.bool true,?_,.b _⟩
 have h1:=hs.deep hx
 have h2:=hs.deep hy
 generalize hev:a.eval x=v1 at h1
 generalize hev2:a.eval y=v2 at h2
 cases h1;cases h2
 simp [execOp,ho,hev,hev2,binOp,eqGuard,QC hu]
end
end Go.FL
namespace Go.FL
open Go Go.Proofs
theorem PH : Cj Tryz.prog 36=some true:=by kernel_rfl
theorem Nn : Az Tryz.prog 36=5:=by kernel_rfl
theorem PN : B9 Tryz.prog 36 0=some (0,1):=by kernel_rfl
theorem VL : DI Tryz.prog 36=some [(0,1),(1,3),(4,1)]:=by kernel_rfl
theorem TZ : (Tryz.prog.info? 36).bind (·.zero)=some (.agg #[.int .i64 0,.bool false,.slice none 0 0,.slice none 0 0,.int .i64 0]):=by kernel_rfl
theorem T7 (w:World) (I:Nat→Prop) : RepAll w I [.i .i64 0,.b false,.sl [],.sl [],.i .i64 0] (Value.agg #[.int .i64 0,.bool false,.slice none 0 0,.slice none 0 0,.int .i64 0]).cells.toList:=.cons (.i _ _) (.cons (.b _) (.cons (.sl0 _ _) (.cons (.sl0 _ _) (.cons (.i _ _) (.nil)))))
end Go.FL
namespace Go.FL
open Go Go.RowKit
section
variable {P:Program} {C:Cx} {X:Snap} {o:Oper} {ops:Array Oper} {Q:Exit→Env→Ae→Prop} {env env':Env} {H H':Ae} {a:Act} {w w':World} {I I':Nat→Prop} {μ μ':List Nat} {O O':Nat→Option Loc}
 {K:Env→Ae→Prop} {k:Nat} {l:List Oper}
theorem Sim.frzT (hs:Sim P X env H a w I μ O) {n:Nat} {e:TypeId} {xs:List DV} (hp:get env n=.own e xs) : ∃ (bs:List Nat) (O':Nat→Option Loc),Sim P X (Ic (.t n) xs env) H a w (fun b=>I b∨b∈bs) μ O':=by
 obtain ⟨v,bs,hv,hr,hb,hO⟩:=hs.at_place (p:=.t n) hp
 have hO':∀ b∈bs,O b=some (.t n):=fun b hm=>(hO b hm).2.1 n rfl
 refine ⟨bs,_,⟨hs.toMem.frz bs (fun b hm=>(hO b hm).1) (fun b hm hk=>by have:=hs.kO b hk;rw [hO' b hm] at this;cases this) H rfl ?_,hs.frz_env (p:=.t n) hp hv hr hO' (fun _ _ _ _ h=>h),hs.nt,hs.dfs⟩⟩
 intro id o ho
 obtain ⟨blk,cs,h1,h2,h3,h4⟩:=hs.heap id o ho
 refine ⟨blk,cs,h1,h2.mono fun _ h=>.inl h,fun hn=>⟨(h3 hn).1,fun b hb=>?_⟩,h4⟩
 have h5:=(h3 hn).2 b hb
 have:b∉bs:=fun hm=>by have:=hO' b hm;rw [h5] at this;simp at this
 simp [this,h5]
theorem Vq {c:Call} {fo:Operand} {gv:DV} {xs xs0:List DV} {q:IntKind} {n:Int} (s:Nat) {e:TypeId} {ys:List DV} (h:FnV P gv xs (.d (.i q n))) (hp:get env s=.own e ys:=by rfl) (ho:o.op=.call c:=by rfl) (hc:c.callee=.value fo:=by rfl) (hfo:lk env fo=.d gv:=by rfl) (ha:argsD (Ic (.t s) ys env) c.args.toList=some xs0:=by rfl) (hx:xs0=xs:=by simp) : VOK P C o env H (.d (.i q n)):=by
 subst hx
 obtain ⟨f,first,caps,rfl,hcall,hfn⟩:=h
 intro X a w I μ O next Q h1 h2 h3 hs hn
 have hfr0:=hs.deep (x:=fo) (v:=.fn f first caps) (by rw [hfo];rfl)
 obtain ⟨bs0,O2,hs2⟩:=hs.frzT hp
 have hfr:=hfr0.keep (w':=w) (I':=fun b=>I b∨b∈bs0) (fun _ _=>rfl) (fun _ h=>.inl h)
 generalize hev:a.eval fo=u at hfr
 cases hfr with
 | fn _ _ _ fs cs hfs hcs =>
  refine ⟨fun _ _=>trivial,?_⟩
  have hres:=BY (P:=P) (w:=w) (ρ:=a.eval) (ty:=o.type) hc hev
  have hex:(execOp a.eval o).run P w=.ok (.enter f (fs.toArray++c.args.map a.eval++cs.toArray)) w:=by
   simp only [execOp,ho,Sem.run_bind,hres,Result.andThen_ok,invoke,hcall]
  rw [Oper.semAt_eq _ _ _ (by simp [ho]),hex,Oper.uponIn_enter]
  refine ⟨fun h=>(by simp [om] at h),?_⟩
  have hcl:=hfn w _ _ hs2.ilt ((hfs.append (hs2.argsD ha)).append hcs)
  have e:(fs++c.args.toList.map a.eval++cs).toArray=fs.toArray++c.args.map a.eval++cs.toArray:=by
   apply Array.ext';simp
  rw [e] at hcl
  refine ⟨trivial,fun csF hroom=>?_⟩
  obtain ⟨e,w',fr,⟨v,I',bs,rfl,q1,q2,q3,q4,q5,q6⟩,s,x⟩:=hcl.2 csF (room_wide _)
  have hv:∀ J:Nat→Prop,ARep P w' J μ (.d (.i q n)) v []:=by
   intro J
   cases q4 with
   | d h=>cases h;exact .d (.i _ _)
  exact ⟨.returned v,w',fr,hn v w' (fun b=>I' b∧(b<w.heap.size→I b)) [] q1 (fun b hb=>⟨q2 b (.inl hb),fun _=>hb⟩) (fun b hb=>⟨(q3 b hb.1).1,hb.2⟩) (MJ (hv _) rfl) nN (by simp),s,x⟩
theorem TJ {y:Operand} {t ty:Nat} {c c':DV} (hsz:Az P ty=1) (ho:o.op=.store ty (.tmp t) y) (hv:get env t=.nb [c]) (hy:A1 (lk env y)=some c') (h1:c'.leaf=true) (hd:o.dst=none) (hK:K ((t,.nb [c'])::env) H) : OpOK P C o env H K:=by
 refine .done (by simp [ho]) hd (fun X a w I μ O _ _ _ hs=>?_) hK
 have hr:=hs.deep (x:=y) hy
 generalize hev:a.eval y=u at hr
 obtain ⟨blk,cells,e,q1,q2,q3,q4⟩:=hs.nbSet (vs:=[u]) hv (.cons hr .nil)
 refine ⟨_,I,μ,O,?_,q4⟩
 have hone:=hr.one h1
 obtain ⟨old,hold⟩:∃ old,cells=#[old]:=by
  have hl:=q3.length
  match hc:cells.toList,hl with
  | [old],_=>exact ⟨old,by apply Array.ext';simpa using hc⟩
 subst hold
 obtain ⟨i,i1,i2⟩:=FM (P:=P) (t:=ty) (by omega)
 have hx:a.eval (.tmp t)=.pointer (some ⟨blk,0,none⟩):=q1
 have hsi:(P.info? ty).map (·.size)=some 1:=by rw [i1];simp;omega
 simp only [execOp,ho,hx,hev,Instr.storeAt,Instr.sureAddr,Sem.run_bind,Sem.run_pure,Result.andThen_ok,Go.run_storeVar_one w blk e ty old u q2 hsi hone]
theorem VR {y:Operand} {t ty:Nat} {c c':DV} (h:RL P C ops Q (k+1) l ((t,.nb [c'])::env) H) (hsz:Az P ty=1) (hg:grd ops env o true=true:=by rfl) (ho:o.op=.store ty (.tmp t) y:=by rfl)
  (hv:get env t=.nb [c]:=by rfl) (hy:A1 (lk env y)=some c':=by rfl) (h1:c'.leaf=true:=by rfl) (hd:o.dst=none:=by rfl):RL P C ops Q k (o::l) env H :=
 .go hg (TJ hsz ho hv hy h1 hd h)
theorem mk' {α:Type} {F:List α→List DV} {x0:α} {x c:Operand} {ty t e by_:Nat} {z:Value} {q q':IntKind} {zl:Int} (n:Nat) (hF:List.replicate n (Ov z)=F (List.replicate n x0)) (hn:zl=n) (hb:by_ * n≤281474976710656∧n≤9223372036854775807) (h:RL P C ops Q (k+1) l ((t,.own e (F (List.replicate n x0)))::env) H)
  (hT:Cg P ty=some (e,1,by_,z)) (hz:zok z=true) (hg:grd ops env o true=true:=by rfl) (ho:o.op=.makeSlice ty x c:=by rfl) (hx:lk env x=.d (.i q zl):=by rfl) (hc:lk env c=.d (.i q' zl):=by rfl) (hd:o.dst=some t:=by rfl)
  (hf:Ak (get env t)=false:=by rfl) (ht:okT C.nt t:=by rfl):RL P C ops Q k (o::l) env H :=
 mk n ⟨hn,hn⟩ hb (by rw [hF];exact h) hT hz hg ho hx hc hd hf ht
end
end Go.FL
namespace Go.FL
open Go Go.RowKit
def TH (id:Nat) (cs:List DV) : AV→AV
 | .bp i off=>if i=id then .d (.ptr (cs.drop off)) else .bp i off
 | .d v=>.d v
 | .nl=>.nl
 | .own e xs=>.own e xs
 | .nb xs=>.nb xs
 | .it s p=>.it s p
 | .om k v=>.om k v
 | .ref (.t s) o n=>.ref (.t s) o n
 | .ep (.t s) i k=>.ep (.t s) i k
 | _=>.un
def Qq (id:Nat) (cs:List DV) (env:Env) : Env:=env.map fun x=>(x.1,TH id cs x.2)
theorem I4 (id:Nat) (cs:List DV) (t:Nat) : ∀ env : Env,get (Qq id cs env) t=TH id cs (get env t)
 | []=>rfl
 | (s,v)::r=>by
  show (if s=t then TH id cs v else get (Qq id cs r) t)=TH id cs (if s=t then v else get r t)
  split
  ·rfl
  ·exact I4 id cs t r
def Uh : HO→Bool
 | .box cs=>noBpL cs
section
variable {P:Program} {C:Cx} {X:Snap} {o:Oper} {ops:Array Oper} {Q:Exit→Env→Ae→Prop} {env env':Env} {H H':Ae} {a:Act} {w w':World} {I I':Nat→Prop} {μ μ':List Nat} {O O':Nat→Option Loc}
 {K:Env→Ae→Prop} {k:Nat} {l:List Oper}
theorem ARepAll.deepAll : ∀ {cs:List DV} {vs:List Value} {bs:List Nat},ARepAll P w I μ (cs.map .d) vs bs→bs=[]∧RepAll w I cs vs
 | [],_,_,h=>by cases h;exact ⟨rfl,.nil⟩
 | c::cs,_,_,h=>by
  cases h with
  | cons h t =>
   obtain ⟨e,r⟩:=t.deepAll
   subst e
   cases h with
   | d h=>exact ⟨rfl,.cons h r⟩
theorem Gh2.pop {H0:Ae} {bx:List AV} {cs:List DV} (hH:H=H0++[.box bx]) (hb:bx=cs.map .d) (hb0:H0.all Uh=true) (hne:Nat.ble C.ne H0.length=true) : Gh2 P C env H (Qq H0.length cs env) H0:=fun X a w I μ O _ h2 h3 hs=>by
 subst hH hb
 have hne':X.ne≤H0.length:=by rw [h3];exact Nat.le_of_ble_eq_true hne
 have hn0:X.n0≤H0.length:=nT hs.n0le hne'
 have hμl:μ.length=H0.length+1:=by rw [hs.μlen];simp
 obtain ⟨blk,bs,k1,⟨cells,e,m1,m2⟩,k3,_⟩:=hs.heap H0.length (.box (cs.map .d)) (by simp)
 obtain ⟨rfl,m3⟩:=m2.deepAll
 have hO:O blk=some (.o H0.length):=(k3 hn0).2 blk (by simp)
 have hKn:∀ b,X.K b→b≠blk:=fun b hk e=>by subst e;have:=hs.kO _ hk;rw [hO] at this;cases this
 have hμt:∀ i,i<H0.length→(μ.take H0.length)[i]?=μ[i]?:=fun i hi=>by rw [List.getElem?_take,if_pos hi]
 have hOn:∀ b l,O b=some l→l≠.o H0.length→(if b=blk then none else O b)=some l:=fun b l h hl=>by
  rw [if_neg fun e=>by subst e;rw [hO] at h;exact hl (oI h).symm];exact h
 refine ⟨fun b=>I b∨b=blk,μ.take H0.length,fun b=>if b=blk then none else O b,{
  prot:=hs.prot
  kO:=fun b hk=>by rw [if_neg (hKn b hk)];exact hs.kO b hk
  kI:=fun b hk hi=>hi.elim (hs.kI b hk) fun e=>absurd e (hKn b hk)
  mono:=fun b hi=>.inl (hs.mono b hi)
  os:=hs.os,tape:=hs.tape,output:=hs.output,size:=hs.size
  own:=fun b l hl=>by
   by_cases hb:b=blk
   ·rw [if_pos hb] at hl;cases hl
   ·rw [if_neg hb] at hl
    exact ⟨(hs.own b l hl).1,fun hi=>hi.elim (hs.own b l hl).2 hb⟩
  ilt:=fun b hi=>hi.elim (hs.ilt b) fun e=>by rw [e];exact (hs.own blk _ hO).1
  μlen:=by rw [List.length_take];omega
  μpre:=fun i b hi hb=>by rw [hμt i (by omega)];exact hs.μpre i b hi hb
  nle:=hne'
  heap:=fun id ob ho=>?_
  klt:=hs.klt
  n0le:=hs.n0le
  envr:=fun s=>?_
  nt:=hs.nt
  dfs:=hs.dfs}⟩
 ·have hlt:=(lS.1 ho).1
  obtain ⟨bb,bs',q1,q2,q3,q4⟩:=hs.heap id ob (by rw [List.getElem?_append_left hlt];exact ho)
  refine ⟨bb,bs',by rw [hμt id hlt];exact q1,?_,fun hn=>⟨(q3 hn).1,fun b hb=>hOn b _ ((q3 hn).2 b hb) (by simp;omega)⟩,q4⟩
  have hnb:Uh ob=true:=List.all_eq_true.1 hb0 ob (List.mem_of_getElem? ho)
  cases ob with
  | box c =>
   obtain ⟨cl,et,n1,n2⟩:=q2
   exact ⟨cl,et,n1,(n2.noBp (μ':=μ.take H0.length) hnb).keep (fun _ h=>.inl h) (fun _ _=>rfl) (fun _ _ h=>h) fun _ _=>rfl⟩
 ·rw [I4]
  have ht:=hs.envr s
  have plain:∀ av,get env s=av→noBp av=true→AS av=false→TRep P (Qq H0.length cs env) H0 a w (fun b=>I b∨b=blk) (μ.take H0.length) (fun b=>if b=blk then none else O b) s av:=by
   intro av hav hn hr
   rw [hav] at ht
   obtain ⟨bs,g1,g2,g3⟩:=ht.plain hr
   exact .of ((g1.noBp (μ':=μ.take H0.length) hn).keep (fun _ h=>.inl h) (fun _ _=>rfl) (fun _ _ h=>h) fun _ _=>rfl) g2 fun b hb=>hOn b _ (g3 b hb) (by simp)
  cases hgs:get env s with
  | bp i off =>
   rw [hgs] at ht
   obtain ⟨bs,g1,g2,g3⟩:=ht.plain rfl
   show TRep P _ _ a w _ _ _ s (if i=H0.length then .d (.ptr (cs.drop off)) else .bp i off)
   generalize hv:a.tmps.getD s undef=v at g1
   cases g1 with
   | bp _ _ blk' hb' =>
    by_cases hi:i=H0.length
    ·rw [if_pos hi]
     subst hi
     rw [k1] at hb'
     obtain rfl:=oI hb'
     refine .of (bs:=[]) ?_ nN (by simp)
     rw [hv]
     have hh:Has w blk 0 cells.toList:=fun j u hj=>by
      simp [World.cell?,m1]
      simpa using hj
     have hh2:=hh.drop off
     rw [Nat.zero_add] at hh2
     exact .d (.ptr _ blk off (cells.toList.drop off) (.inr rfl) hh2 ((m3.drop off).keep (fun _ _=>rfl) fun _ h=>.inl h))
    ·rw [if_neg hi]
     have hlt:=(lS.1 hb').1
     refine .of (bs:=[]) ?_ nN (by simp)
     rw [hv]
     exact .bp i off blk' (by rw [hμt i (by omega)];exact hb')
  | ref p off len =>
   cases p with
   | c _ _=>exact .un
   | t r =>
    rw [hgs] at ht
    obtain ⟨e',xs,A,n,c,g1,g2,g3,g4⟩:=ht
    refine ⟨e',xs,A,n,c,?_,g2,g3,g4⟩
    show get (Qq H0.length cs env) r=_
    rw [I4,show get env r=_ from g1];rfl
  | ep p i k =>
   cases p with
   | c _ _=>exact .un
   | t r =>
    rw [hgs] at ht
    obtain ⟨e',xs,b,n,c,g1,g2,g3,g4,g5⟩:=ht
    refine ⟨e',xs,b,n,c,?_,g2,g3,g4,g5⟩
    show get (Qq H0.length cs env) r=_
    rw [I4,show get env r=_ from g1];rfl
  | d v=>exact plain _ hgs rfl rfl
  | nl=>exact plain _ hgs rfl rfl
  | own e xs=>exact plain _ hgs rfl rfl
  | nb xs=>exact plain _ hgs rfl rfl
  | it s p=>exact plain _ hgs rfl rfl
  | om k v=>exact plain _ hgs rfl rfl
  | un=>exact .un
  | ag _=>exact .un
  | fn _ _ _=>exact .un
  | tup _=>exact .un
end
end Go.FL
namespace Go.FL
open Go Go.RowKit
theorem Ns (q:IntKind) : ∀ (ps:List (Int×DV)),(ps.map fun p=>DV.i q p.1).zip (ps.map (·.2))=ps.map fun p=>(DV.i q p.1,p.2)
 | []=>rfl
 | p::ps=>by simp [Ns q ps]
section
variable {P:Program} {C:Cx} {X:Snap} {o:Oper} {ops:Array Oper} {Q:Exit→Env→Ae→Prop} {env env' envi:Env} {H H':Ae} {a:Act} {w w':World} {I I':Nat→Prop} {μ μ':List Nat} {O O':Nat→Option Loc}
 {K:Env→Ae→Prop} {k:Nat} {l:List Oper} {av:AV}
def NQ : Nat:=1000000000
def V5 (P:Program) (C:Cx) (ops:Array Oper) (H:Ae) (env0 vals:Env) (tm i0 ty:Nat) (q:IntKind) (i:Nat) (o:Oper) (t:Nat) (v:AV) : Option (Int×DV)→Prop
 | none=>M9 P C ops H env0 vals o t v∧tm∉o.looksAt ops∧t<NQ∧(i≠i0→t≠tm)∧(i=i0→t=tm∧v=.om [] [])
 | some (z,d)=>o.dst=none∧o.guard=none∧v=.un∧t=NQ+i∧get env0 t=.un∧FG ops i i0=true∧∃ x y,o.op=.insert ty (.tmp tm) x y∧(∀ e,lk e x=.d (.i q z)) ∧
   ((∀ e,lk e y=.d d)∨∃ s,y=.tmp s∧s≠tm∧s∈o.looksAt ops∧get (Bf (o.looksAt ops) vals++env0) s=.d d)
end
end Go.FL
namespace Go.FL
open Go Go.RowKit
section
variable {P:Program} {C:Cx} {X:Snap} {o:Oper} {ops:Array Oper} {Q:Exit→Env→Ae→Prop} {env env' envi env0 vals:Env} {H H':Ae} {a:Act} {w w':World} {I I':Nat→Prop} {μ μ':List Nat} {O O':Nat→Option Loc}
 {k:Nat} {l:List Oper} {av v:AV} {t tm i0 ty n:Nat} {q:IntKind} {ps qs:List (Int×DV)}
inductive DLM (P:Program) (C:Cx) (ops:Array Oper) (H:Ae) (env0:Env) (tm i0 ty:Nat) (q:IntKind) : Nat→Env→List (Int×DV)→List Oper→Env→List (Int×DV)→Prop
 | nil (n:Nat) (vals:Env) (ps:List (Int×DV)):DLM P C ops H env0 tm i0 ty q n vals ps [] vals ps
 | run {n:Nat} {vals fin:Env} {ps qs:List (Int×DV)} {o:Oper} {t:Nat} {v:AV} {l:List Oper} (hi:n≠i0) (hd:o.dst=some t) (ht:okT C.nt t) (h0:Pf (get env0 t)=true) (hn:(vals.map (·.1)).contains t=false) (hs:Gp t v=true)
   (hg:grd ops (Bf (o.looksAt ops) vals++env0) o true=true) (hv:VOK P C o (Bf (o.looksAt ops) vals++env0) H v) (hr:CV (Bf (o.looksAt ops) vals++env0)=true) (hl:(o.looksAt ops).contains tm=false) (htd:t<NQ) (htm:t≠tm)
   (h:DLM P C ops H env0 tm i0 ty q (n+1) ((t,v)::vals) ps l fin qs):DLM P C ops H env0 tm i0 ty q n vals ps (o::l) fin qs
 | mk {vals fin:Env} {ps qs:List (Int×DV)} {o:Oper} {l:List Oper} (hd:o.dst=some tm) (ht:okT C.nt tm) (h0:Pf (get env0 tm)=true) (hn:(vals.map (·.1)).contains tm=false)
   (hg:grd ops (Bf (o.looksAt ops) vals++env0) o true=true) (hv:VOK P C o (Bf (o.looksAt ops) vals++env0) H (.om [] [])) (hr:CV (Bf (o.looksAt ops) vals++env0)=true) (hl:(o.looksAt ops).contains tm=false) (htd:tm<NQ)
   (h:DLM P C ops H env0 tm i0 ty q (i0+1) ((tm,.om [] [])::vals) ps l fin qs):DLM P C ops H env0 tm i0 ty q i0 vals ps (o::l) fin qs
 | ins {n:Nat} {vals fin:Env} {ps qs:List (Int×DV)} {o:Oper} {l:List Oper} {x y:Operand} {z:Int} {d:DV} (hi:n≠i0) (hd:o.dst=none) (hgn:o.guard=none) (hop:o.op=.insert ty (.tmp tm) x y) (hx:∀ e,lk e x=.d (.i q z))
   (hy:(∀ e,lk e y=.d d)∨∃ s,y=.tmp s∧s≠tm∧s∈o.looksAt ops∧get (Bf (o.looksAt ops) vals++env0) s=.d d) (hdi:FG ops n i0=true) (h0:get env0 (NQ+n)=.un)
   (h:DLM P C ops H env0 tm i0 ty q (n+1) ((NQ+n,.un)::vals) (ps++[(z,d)]) l fin qs):DLM P C ops H env0 tm i0 ty q n vals ps (o::l) fin qs
theorem DLM.table {n:Nat} {vals fin:Env} {ps qs:List (Int×DV)} {l:List Oper} (h:DLM P C ops H env0 tm i0 ty q n vals ps l fin qs) : ∃ (tv:List (Nat×AV)) (iv:List (Option (Int×DV))),tv.length=l.length∧iv.length=l.length∧fin=tv.reverse++vals∧qs=ps++iv.filterMap id ∧
  ∀ (i:Nat) o,l[i]?=some o→∃ t v p,tv[i]?=some (t,v)∧iv[i]?=some p∧(n+i=i0→p=none)∧V5 P C ops H env0 ((tv.take i).reverse++vals) tm i0 ty q (n+i) o t v p:=by
 induction h with
 | nil n vals ps=>exact ⟨[],[],rfl,rfl,rfl,by simp,fun i o h=>by simp at h⟩
 | @run n vals fin ps qs o t v l hi hd ht h0 hn hs hg hv hr hl htd htm h ih =>
  obtain ⟨tv,iv,k1,k2,k3,k4,k5⟩:=ih
  refine ⟨(t,v)::tv,none::iv,by simp [k1],by simp [k2],by rw [k3];simp,by rw [k4];simp,fun i o' hio=>?_⟩
  cases i with
  | zero =>
   simp at hio;subst hio
   refine ⟨t,v,none,rfl,rfl,fun _=>rfl,⟨hd,ht,Kh h0,fun x hx e=>?_,hs,hr,.inl ⟨hg,hv⟩⟩,fun hm=>?_,htd,fun _=>htm,fun e=>absurd e hi⟩
   ·subst e
    have:(vals.map (·.1)).contains x.1=true:=List.contains_iff_mem.2 (List.mem_map_of_mem hx)
    rw [hn] at this;cases this
   ·have:=List.contains_iff_mem.2 hm
    rw [hl] at this;cases this
  | succ i =>
   obtain ⟨t',v',p',m1,m2,m3,m4⟩:=k5 i o' (by simpa using hio)
   have e:n+(i+1)=n+1+i:=by omega
   refine ⟨t',v',p',by simpa using m1,by simpa using m2,by rw [e];exact m3,?_⟩
   rw [e];simpa using m4
 | @mk vals fin ps qs o l hd ht h0 hn hg hv hr hl htd h ih =>
  obtain ⟨tv,iv,k1,k2,k3,k4,k5⟩:=ih
  refine ⟨(tm,.om [] [])::tv,none::iv,by simp [k1],by simp [k2],by rw [k3];simp,by rw [k4];simp,fun i o' hio=>?_⟩
  cases i with
  | zero =>
   simp at hio;subst hio
   refine ⟨tm,.om [] [],none,rfl,rfl,fun _=>rfl,⟨hd,ht,Kh h0,fun x hx e=>?_,rfl,hr,.inl ⟨hg,hv⟩⟩,fun hm=>?_,htd,fun e=>absurd rfl e,fun _=>⟨rfl,rfl⟩⟩
   ·subst e
    have:(vals.map (·.1)).contains x.1=true:=List.contains_iff_mem.2 (List.mem_map_of_mem hx)
    rw [hn] at this;cases this
   ·have:=List.contains_iff_mem.2 hm
    rw [hl] at this;cases this
  | succ i =>
   obtain ⟨t',v',p',m1,m2,m3,m4⟩:=k5 i o' (by simpa using hio)
   have e:i0+(i+1)=i0+1+i:=by omega
   refine ⟨t',v',p',by simpa using m1,by simpa using m2,by rw [e];exact m3,?_⟩
   rw [e];simpa using m4
 | @ins n vals fin ps qs o l x y z d hi hd hgn hop hx hy hdi h0 h ih =>
  obtain ⟨tv,iv,k1,k2,k3,k4,k5⟩:=ih
  refine ⟨(NQ+n,.un)::tv,some (z,d)::iv,by simp [k1],by simp [k2],by rw [k3];simp,by rw [k4];simp,fun i o' hio=>?_⟩
  cases i with
  | zero =>
   simp at hio;subst hio
   exact ⟨NQ+n,.un,some (z,d),rfl,rfl,fun e=>absurd e hi,hd,hgn,rfl,rfl,h0,hdi,x,y,hop,hx,hy⟩
  | succ i =>
   obtain ⟨t',v',p',m1,m2,m3,m4⟩:=k5 i o' (by simpa using hio)
   have e:n+(i+1)=n+1+i:=by omega
   refine ⟨t',v',p',by simpa using m1,by simpa using m2,by rw [e];exact m3,?_⟩
   rw [e];simpa using m4
end
end Go.FL
namespace Go.FL
open Go Go.RowKit
def Sx {α β:Type} (T:List (Int×FW α β)) : List (Int×DV):=T.map fun p=>(p.1,p.2.dv)
def TW {α β:Type} (q:IntKind) (T:List (Int×FW α β)) : DV:=.mp ((Sx T).map fun p=>.i q p.1) ((Sx T).map (·.2))
def GO {α β:Type} (T:List (Int×FW α β)) (z:Int) : Option (FW α β):=(T.find? fun p=>decide (p.1=z)).map (·.2)
def UT {α β:Type} (x:Option α) (a:β) (f:α→β) : β:=match x with
 | none=>a
 | some y=>f y
theorem UL {α β:Type} {x:Option α} {a r:β} {f:α→β} (e:x=none) (h:UT x a f=r) : a=r:=by subst e;exact h
theorem UF {α β:Type} {x:Option α} {y:α} {a r:β} {f:α→β} (e:x=some y) (h:UT x a f=r) : f y=r:=by subst e;exact h
theorem Kk {α β:Type} {T:List (Int×FW α β)} {z:Int} {f:FW α β} (h:GO T z=some f) : (z,f)∈T:=by
 unfold GO at h
 simp only [Option.map_eq_some_iff] at h
 obtain ⟨p,hp,rfl⟩:=h
 have h1:=List.find?_some hp
 have h2:=List.mem_of_find?_eq_some hp
 have:p.1=z:=by simpa using h1
 rw [← this];exact h2
theorem TM {α β:Type} {T:List (Int×FW α β)} {z:Int} (h:GO T z=none) : ∀ p∈T,p.1≠z:=fun p hp=>by
 unfold GO at h
 rw [Option.map_eq_none_iff,List.find?_eq_none] at h
 simpa using h p hp
theorem P0 {α β:Type} (q:IntKind) (T:List (Int×FW α β)) : ((Sx T).map fun p=>DV.i q p.1).zip ((Sx T).map (·.2))=T.map fun p=>(DV.i q p.1,p.2.dv):=by
 rw [Ns];unfold Sx;rw [List.map_map];rfl
theorem Ml {α β:Type} : ∀ {T:List (Int×FW α β)},(T.map (·.1)).Nodup→∀ {z f g},(z,f)∈T→(z,g)∈T→f=g
 | p::T,hn,z,f,g,h1,h2=>by
  rw [List.map_cons,List.nodup_cons] at hn
  rcases List.mem_cons.1 h1 with e1|h1<;>rcases List.mem_cons.1 h2 with e2|h2
  ·rw [← e1] at e2;cases e2;rfl
  ·exact absurd (List.mem_map.2 ⟨_,h2,by rw [← e1]⟩) hn.1
  ·exact absurd (List.mem_map.2 ⟨_,h1,by rw [← e2]⟩) hn.1
  ·exact Ml hn.2 h1 h2
section
variable {P:Program} {C:Cx} {o:Oper} {ops:Array Oper} {Q:Exit→Env→Ae→Prop} {env:Env} {H:Ae} {k:Nat} {l:List Oper}
theorem Uc {α β:Type} {T:List (Int×FW α β)} {z:Int} {f:FW α β} {x y:Operand} {ty kt et:TypeId} {q:IntKind} (hnd:(T.map (·.1)).Nodup) (hu:P.underlying ty=some (.map kt et)) (hk:P.underlying kt=some (.int q)) (h:GO T z=some f)
  (ho:o.op=.lookup ty x y false:=by rfl) (hx:A1 (lk env x)=some (TW q T):=by rfl) (hy:A1 (lk env y)=some (.i q z):=by rfl):VOK P C o env H (.d f.dv):=by
 refine VU (q:=q) (z:=z) hu hk (fun k hk=>?_) ?_ (fun d' hd=>?_) ho hx hy
 ·obtain ⟨p,_,rfl⟩:=List.mem_map.1 hk;exact ⟨_,rfl⟩
 ·rw [P0];exact List.mem_map.2 ⟨_,Kk h,rfl⟩
 ·rw [P0] at hd
  obtain ⟨p,hp,e⟩:=List.mem_map.1 hd
  simp only [Prod.mk.injEq,DV.i.injEq,true_and] at e
  obtain ⟨e1,rfl⟩:=e
  have:(z,p.2)∈T:=by rw [← e1];exact hp
  rw [Ml hnd this (Kk h)]
theorem VQ {α β:Type} {T:List (Int×FW α β)} {z:Int} {x y:Operand} {ty kt et:TypeId} {q:IntKind} (hu:P.underlying ty=some (.map kt et)) (hk:P.underlying kt=some (.int q)) (hz:∀ w,(zeroValue et).run P w=.ok .nilFunc w) (h:GO T z=none)
  (ho:o.op=.lookup ty x y false:=by rfl) (hx:A1 (lk env x)=some (TW q T):=by rfl) (hy:A1 (lk env y)=some (.i q z):=by rfl):VOK P C o env H (.d .nf):=by
 refine VV (q:=q) (z:=z) hu hk hz (fun _ _=>.nf) (fun k hk=>?_) ho hx hy
 obtain ⟨p,hp,rfl⟩:=List.mem_map.1 hk
 obtain ⟨p',hp',rfl⟩:=List.mem_map.1 hp
 exact ⟨_,rfl,TM h p' hp'⟩
theorem Wa {xt yt:TypeId} {x y:Operand} {d:DV} (hu:Fw P xt=true) (hf:∃ f fs cs,d=.fn f fs cs) (ho:o.op=.binOp .eql xt x y yt:=by rfl) (hx:A1 (lk env x)=some d:=by rfl) (hy:A1 (lk env y)=some .nf:=by rfl) : VOK P C o env H (.d (.b false)):=by
 obtain ⟨f,fs,cs,rfl⟩:=hf
 exact VX hu ho hx hy
end
end Go.FL
namespace Go.FL
open Go Go.Proofs
section
variable {P:Program} {C:Cx} {o:Oper} {ops:Array Oper} {Q:Exit→Env→Ae→Prop} {env:Env} {H:Ae} {k:Nat} {l:List Oper}
theorem asu {x:Operand} {t:Nat} (h:RL P C ops Q (k+1) l ((t,.un)::env) H) (hg:grd ops env o true=true:=by rfl) (ho:o.op=.assign x:=by rfl) (hd:o.dst=some t:=by rfl) (hf:Ak (get env t)=false:=by rfl) (ht:okT C.nt t:=by rfl) : RL P C ops Q k (o::l) env H:=by
 rw [← Ai hf] at h
 exact .go hg (.pure (by simp [ho]) hd ht (fun X a w I μ O _ hs=>⟨a.eval x,by simp [execOp,ho],[],.un _,nN,by simp⟩) h)
theorem freshK.nil {q:IntKind} {z:Int} : freshK q z []:=nofun
theorem freshK.snoc {q:IntKind} {z z':Int} {ks:List DV} (h:freshK q z ks) (hz:z'≠z) : freshK q z (ks++[.i q z']):=fun k hk=>by
 rcases List.mem_append.1 hk with h1|h1
 ·exact h k h1
 ·rw [List.mem_singleton] at h1
  exact ⟨z',h1,hz⟩
end
theorem gkR : Tryz.prog.underlying 21=some (.int .i32):=by kernel_rfl
def isF (d:DV) : Prop:=∃ f fs cs,d=.fn f fs cs
theorem Jm {n:Nat} : List.replicate n (Ov (.int .i64 0))=Is (List.replicate n 0):=by simp [Is,Ov]
theorem Ue (w:World) (I:Nat→Prop) : RepAll w I [.sl []] (Value.slice none 0 0).cells.toList:=.cons (.sl0 _ _) .nil
abbrev D9 : Type:=FW (Arr) (Arr×Int)
abbrev Fp (f:D9) : Prop:=f.OK Tryz.prog (fun x=>[.ag [.sl (Is x.shape),.sl (Its x.items)]]) (fun r=>.tup [.d (.ag [.sl (Is r.1.shape),.sl (Its r.1.items)]),.d (.i .i64 r.2)])
abbrev Ch : Type:=FW ((List Int)) (Int)
abbrev OQ (f:Ch) : Prop:=f.OK Tryz.prog (fun x=>[.sl (Is x)]) (fun r=>.d (.i .i64 r))
theorem Eh : Fw Tryz.prog 84=true:=by kernel_rfl
def Cw (a0:Arr) : Option (Itm):=((Ba a0).bind fun x1=>(if x1=true then ((rd? a0.items 0).bind fun x2=>((IW x2).bind fun x3=>(some (x3)))) else (some ((Itm.mk 0 (false,[],[]) 0 [])))))
theorem KU {a0:Arr} {r:Itm} (h:Cw a0=some r) :
  Fn Tryz.prog 126 [.ag [.sl (Is a0.shape),.sl (Its a0.items)]] (.d (.ag [.i .u8 r.kind,.b r.num.1,.sl (L r.num.2.1),.sl (L r.num.2.2),.i .i32 r.char,.sl (Ars r.box)])):=by
 unfold Cw at h
 refine Fn.ofC (rs:=[.cell 2 58]) (nt:=12) Tryz.func126 rfl rfl rfl (by simp) rfl ?_;refine .sr ?_;refine vk (vbx) ?_;refine vk (van (Am CI) CZ) ?_;refine rk [1,2] ?_;refine .seq ?_;refine .sr ?_;refine vk (AE Ad Ac) ?_
 obtain ⟨x1,g1,h⟩:=bnd h
 refine vk (Aq (BC g1) Tryz.call15) ?_;refine vk (vnt) ?_;refine rk [1,2,5] ?_
 rcases brc h with ⟨hc,h⟩|⟨hc,h⟩
 ·refine cnf (ntf hc) ?_
  refine .skip ?_
  show AW _ _ _ _ _ _
  refine .sr ?_;refine vk (vfa AC) ?_;refine vk (Ah Bx) ?_
  obtain ⟨x2,g2,h⟩:=bnd h
  obtain ⟨n2,p02,q2⟩:=Aj g2
  refine vk (vix n2 p02 (Db q2) rfl C9) ?_;refine vk (AE A4 AA) ?_
  obtain ⟨x3,g3,h⟩:=bnd h
  refine vk (Aq (JI g3) Tryz.call31) ?_
  refine stn ?_ AA (by decide)
  refine rk [2] ?_;refine .ret ?_
  cases h
  exact ⟨_,⟨.inr rfl,A4,AA,p6⟩,rfl⟩
 refine cnt (ntt (bf hc)) ?_;refine .sr ?_;refine vk (vbd Ju CI CZ) ?_
 refine stn ?_ AA (by decide)
 refine rk [1,2] ?_;refine .ret ?_
 cases h
 exact ⟨_,⟨.inr rfl,A4,AA,p6⟩,rfl⟩
def Ez (a0:Arr) : Option (Arr):=((Ba a0).bind fun x1=>(if x1=true then ((B8 a0 (⟨.fn 33 [] [],fun x=>GF x⟩ : BU)).bind fun x2=>(some (x2))) else (some ((Arr.mk [] [])))))
theorem HT {a0:Arr} {r:Arr} (h:Ez a0=some r) :
  Fn Tryz.prog 134 [.ag [.sl (Is a0.shape),.sl (Its a0.items)]] (.d (.ag [.sl (Is r.shape),.sl (Its r.items)])):=by
 unfold Ez at h
 refine Fn.ofC (rs:=[.cell 2 27]) (nt:=9) Tryz.func134 rfl rfl rfl (by simp) rfl ?_;refine .sr ?_;refine vk (vbx) ?_;refine vk (van (Am AB) AJ) ?_;refine rk [1,2] ?_;refine .seq ?_;refine .sr ?_;refine vk (AE Ad Ac) ?_
 obtain ⟨x1,g1,h⟩:=bnd h
 refine vk (Aq (BC g1) Tryz.call15) ?_;refine vk (vnt) ?_;refine rk [1,2,5] ?_
 rcases brc h with ⟨hc,h⟩|⟨hc,h⟩
 ·refine cnf (ntf hc) ?_
  refine .skip ?_
  show AW _ _ _ _ _ _
  refine .sr ?_;refine vk (AE Ad Ac) ?_
  obtain ⟨x2,g2,h⟩:=bnd h
  refine vk (Aq (DM (Ek Tryz.call33 (fun _ _ h=>HV h)) g2) Tryz.call69) ?_
  refine stn ?_ Ac (by decide)
  refine rk [2] ?_;refine .ret ?_
  cases h
  exact ⟨_,⟨.inr rfl,Ad,Ac,p2⟩,rfl⟩
 refine cnt (ntt (bf hc)) ?_;refine .sr ?_;refine vk (vbd CG AB AJ) ?_
 refine stn ?_ Ac (by decide)
 refine rk [1,2] ?_;refine .ret ?_
 cases h
 exact ⟨_,⟨.inr rfl,Ad,Ac,p2⟩,rfl⟩
def Br (a0:(List Int)) (K0:(List Int)→Option ((List Int))) : Nat→(List Int)→Int→Int→Option ((List Int))
 | 0,_,_,_=>none
 | k+1,s3,s4,s5=>(if 0≤s5 then ((rd? s3 s5).bind fun x6=>((rd? a0 s5).bind fun x7=>(Br a0 K0 k (List.set s3 (Int.toNat s5) s4) (w64 (s4 * x7)) (w64 (s5-1))))) else (K0 s3))
def Ce (a0:(List Int)) : Option ((List Int)):=((EW (0≤((List.length a0:Nat) : Int)∧((List.length a0:Nat) : Int)≤17592186044416)).bind fun x1=>(jn (fun (z2:(List Int))=>(some (z2))) fun K0=>(Br a0 K0 AQ (List.replicate (Int.toNat ((List.length a0:Nat) : Int)) (0:Int)) 1 (w64 (((List.length a0:Nat) : Int)-1)))))
theorem Dv {a0:(List Int)} {r:(List Int)} (h:Ce a0=some r) :
  Fn Tryz.prog 75 [.sl (Is a0)] (.d (.sl (Is r))):=by
 unfold Ce at h
 refine Fn.o1 2 27 Tryz.func75 ?_;refine .sr ?_;refine asn ?_;refine rk [0,2] ?_;refine .sr ?_;refine vk (Aa) ?_;refine vk (A2 (Ag _) (Bt _) Bk) ?_
 obtain ⟨x1,g1,h⟩:=bnd h
 have ghx1:=Ea g1
 refine mk' (F:=Is) (x0:=0) (zl:=((List.length a0:Nat):Int)) (Int.toNat ((List.length a0:Nat):Int)) Jm (by omega) (by omega) ?_ Dw (by decide)
 refine aso ?_;refine rk [0,2,3] ?_;refine .sr ?_;refine ar [0,2,3,4] ?_;refine .seq ?_;refine .sr ?_;refine vk (Aa) ?_;refine vk (A2 (Ag _) (Bt _) Bk) ?_;refine vk (vbi) ?_;refine ar [0,2,3,4,5] ?_
 obtain ⟨K0,hK0,h⟩:=AZ h
 refine AW.mr (σ:=(List Int)) (fun p=>K0 p=some r) (fun p=>[(2,.nl),(3,.own 3 (Is p))]) (fun p=>[]) ?_ ?_
 ·skip
  refine .block ?_
  refine .loop (.gk [0,2,3,4,5] ?_)
  refine AL.ind (σ:=Nat×(List Int)×Int×Int) (m:=fun p=>p.1) (e:=fun p=>[(0,.d (.sl (Is a0))),(2,.nl),(3,.own 3 (Is p.2.1)),(4,.d (.i .i64 p.2.2.1)),(5,.d (.i .i64 p.2.2.2))]) (h:=fun p=>[]) (I:=fun p=>Br a0 K0 p.1 p.2.1 p.2.2.1 p.2.2.2=some r) ?_ (AQ,(List.replicate (Int.toNat ((List.length a0:Nat):Int)) (0:Int)),1,(w64 (((List.length a0:Nat):Int)-1))) h
  rintro ⟨k,s3,s4,s5⟩ h ih
  dsimp only at h ih ⊢
  rcases k with _|k
  ·rw [Br] at h;cases h
  rw [Br] at h
  refine .seq ?_;refine .sr ?_;refine vk (Aa) ?_;refine vk (vbi) ?_;refine rk [0,2,3,4,5,13] ?_
  rcases brc h with ⟨hc,h⟩|⟨hc,h⟩
  ·refine cnt (dT hc) ?_
   refine .skip ?_
   show AW _ _ _ _ _ _
   refine .seq ?_;refine .block ?_;refine .sr ?_;refine mvo ?_;refine vk (Aa) ?_;refine vk (Aa) ?_
   obtain ⟨x6,g6,h⟩:=bnd h
   obtain ⟨n6,p06,q6⟩:=Aj g6
   refine ixr (off:=0) (len:=(Is s3).length) n6 p06 (by rw [Ag];exact (lS.1 q6).1) ?_ Bc (by decide)
   refine MG (F:=Is) (D:=fun x=>.i .i64 x) Gr (us:=s3) (n:=n6) (m:=Int.toNat s5) (x:=s4) (by rw [p06];rfl) ⟨_,by rw [Nat.zero_add];exact Bg q6,rfl⟩ ?_ C8
   refine RL.gk [0,2,3,4,5,13,17,18] ?_;refine rk [0,2,3,4,5] ?_;refine .region ?_;refine vk (Aa) ?_;refine vk (Aa) ?_;refine vk (Aa) ?_
   obtain ⟨x7,g7,h⟩:=bnd h
   obtain ⟨n7,p07,q7⟩:=Aj g7
   refine vk (vix n7 p07 (Bg q7) rfl Bc) ?_;refine vk (Ah AD) ?_;refine vk (vbi) ?_;refine asd ?_;refine .nil ?_
   show AW _ _ _ _ _ _
   refine .gk [0,2,3,4,5] ?_;refine .region ?_;refine vk (Aa) ?_;refine vk (vbi) ?_;refine asd ?_;refine .nil ?_;refine AL.gk [0,2,3,4,5] ?_
   exact ih (k,(List.set s3 (Int.toNat s5) s4),(w64 (s4 * x7)),(w64 (s5-1))) h (Nat.lt_succ_self _)
  refine cnf (dF hc) ?_;refine .gk [2,3] ?_;refine .exit ?_
  exact jr (s3) h
 rintro z2 h
 try dsimp only at h ⊢
 subst hK0
 show AW _ _ _ _ _ _
 refine .sr ?_;refine fz (p:=.t 3) ?_;refine vk (Aa) ?_;refine ar [2] ?_;refine .ret ?_
 cases h
 exact ⟨rfl,rfl⟩
def Ck (a0:(List Int)) (a1:(List Int)) (K0:Int→Option (Int)) : Nat→Int→Int→Option (Int)
 | 0,_,_=>none
 | k+1,s2,s3=>(if s3<((List.length a0:Nat):Int) then ((rd? a0 s3).bind fun x4=>((rd? a1 s3).bind fun x5=>(Ck a0 a1 K0 k (w64 (s2+(w64 (x4 * x5)))) (w64 (s3+1))))) else (K0 s2))
def Dl (a0:(List Int)) (a1:(List Int)) : Option (Int):=(jn (fun (z1:Int)=>(some (z1))) fun K0=>(Ck a0 a1 K0 AQ 0 0))
theorem E8 {a0:(List Int)} {a1:(List Int)} {r:Int} (h:Dl a0 a1=some r) :
  Fn Tryz.prog 79 [.sl (Is a0),.sl (Is a1)] (.d (.i .i64 r)):=by
 unfold Dl at h
 refine Fn.o1 4 25 Tryz.func79 ?_;refine .sr ?_;refine ar [0,1,4] ?_;refine .sr ?_;refine ar [0,1,4,5] ?_;refine .seq ?_;refine .sr ?_;refine vk (Aa) ?_;refine vk (A2 (Ag _) (Bt _) Bk) ?_;refine vk (Aa) ?_;refine rk [1,4,5,8,9,10] ?_
 obtain ⟨K0,hK0,h⟩:=AZ h
 refine AW.mr (σ:=Int) (fun p=>K0 p=some r) (fun p=>[(4,.d (.i .i64 0)),(5,.d (.i .i64 p))]) (fun p=>[]) ?_ ?_
 ·skip
  refine .block ?_
  refine .loop (.gk [1,4,5,8,9,10] ?_)
  refine AL.ind (σ:=Nat×Int×Int) (m:=fun p=>p.1) (e:=fun p=>[(1,.d (.sl (Is a1))),(4,.d (.i .i64 0)),(5,.d (.i .i64 p.2.1)),(8,.d (.sl (Is a0))),(9,.d (.i .i64 ((List.length a0:Nat):Int))),(10,.d (.i .i64 p.2.2))]) (h:=fun p=>[]) (I:=fun p=>Ck a0 a1 K0 p.1 p.2.1 p.2.2=some r) ?_ (AQ,0,0) h
  rintro ⟨k,s2,s3⟩ h ih
  dsimp only at h ih ⊢
  rcases k with _|k
  ·rw [Ck] at h;cases h
  rw [Ck] at h
  refine .sr ?_;refine vk (vbi) ?_;refine rk [1,4,5,8,9,10,11] ?_;refine .seq ?_
  rcases brc h with ⟨hc,h⟩|⟨hc,h⟩
  ·refine cnt (dT hc) ?_
   refine .skip ?_
   show AW _ _ _ _ _ _
   refine .seq ?_;refine .block ?_;refine .sr ?_;refine vk (Aa) ?_
   obtain ⟨x4,g4,h⟩:=bnd h
   obtain ⟨n4,p04,q4⟩:=Aj g4
   refine vk (vix n4 p04 (Bg q4) rfl Bc) ?_;refine vk (Ah AD) ?_;refine asd ?_;refine ar [1,4,5,6,7,8,9,10] ?_;refine .region ?_;refine vk (Aa) ?_;refine vk (Aa) ?_;refine vk (Aa) ?_;refine vk (Aa) ?_
   obtain ⟨x5,g5,h⟩:=bnd h
   obtain ⟨n5,p05,q5⟩:=Aj g5
   refine vk (vix n5 p05 (Bg q5) rfl Bc) ?_;refine vk (Ah AD) ?_;refine vk (vbi) ?_;refine vk (vbi) ?_;refine asd ?_;refine .nil ?_
   show AW _ _ _ _ _ _
   refine .gk [1,4,5,8,9,10] ?_;refine .region ?_;refine vk (vbi) ?_;refine vk (Aa) ?_;refine .nil ?_;refine AL.gk [1,4,5,8,9,10] ?_
   exact ih (k,(w64 (s2+(w64 (x4 * x5)))),(w64 (s3+1))) h (Nat.lt_succ_self _)
  refine cnf (dF hc) ?_;refine .gk [4,5] ?_;refine .exit ?_
  exact jr (s2) h
 rintro z1 h
 try dsimp only at h ⊢
 subst hK0
 show AW _ _ _ _ _ _
 refine .sr ?_;refine vk (Aa) ?_;refine ar [4] ?_;refine .ret ?_
 cases h
 exact ⟨rfl,rfl⟩
def Ci (a1:(List Int)) (x3:(List Int)) (s8:Int) (K3:(List Int)→Option (Arr×Int)) : Nat→(List Int)→Int→Option (Arr×Int)
 | 0,_,_=>none
 | k+1,s12,s13=>(if s13<((List.length x3:Nat):Int) then ((rd? x3 s13).bind fun x14=>((EW (x14≠0)).bind fun x15=>((rd? a1 s13).bind fun x16=>((EW (x16≠0)).bind fun x17=>((rd? s12 s13).bind fun x18=>(Ci a1 x3 s8 K3 k (List.set s12 (Int.toNat s13) (Int.tmod (w64 (Int.tdiv s8 x14)) x16)) (w64 (s13+1)))))))) else (K3 s12))
def BV (a0:Arr) (a1:(List Int)) (a2:Ch) (x1:Int×Int) (x2:Itm) (x3:(List Int)) (K0:(List Itm)→Option (Arr×Int)) : Nat→(List Int)→(List Itm)→Int→Option (Arr×Int)
 | 0,_,_,_=>none
 | k+1,s6,s7,s8=>(if s8<x1.1 then (jn (fun (z9:(List Int)) (z10:(List Itm))=>(BV a0 a1 a2 x1 x2 x3 K0 k z9 z10 (w64 (s8+1)))) fun K2=>(jn (fun (z11:(List Int))=>((a2.g z11).bind fun x19=>(if 0≤x19 then ((rd? a0.items x19).bind fun x20=>((ap? 1466015503701 s7 [x20]).bind fun x21=>(K2 z11 x21))) else ((ap? 1466015503701 s7 [x2]).bind fun x22=>(K2 z11 x22))))) fun K3=>(Ci a1 x3 s8 K3 AQ s6 0))) else (K0 s7))
def Cu (a0:Arr) (a1:(List Int)) (a2:Ch) : Option (Arr×Int):=((CD a1).bind fun x1=>(if x1.2=0 then ((Cw a0).bind fun x2=>((Ce a1).bind fun x3=>((EW (0≤((List.length a1:Nat) : Int)∧((List.length a1:Nat) : Int)≤17592186044416)).bind fun x4=>(jn (fun (z5:(List Itm))=>(jn (fun (z23:(List Itm))=>((AU a1 z23).bind fun x25=>(some (x25.1,x25.2)))) fun K5=>(if x1.1=0 then ((ap? 1466015503701 z5 [x2]).bind fun x24=>(K5 x24)) else (K5 z5)))) fun K0=>(BV a0 a1 a2 x1 x2 x3 K0 AQ (List.replicate (Int.toNat ((List.length a1:Nat) : Int)) (0:Int)) [] 0))))) else (some ((Arr.mk [] []),x1.2))))
theorem E5 {a0:Arr} {a1:(List Int)} {a2:Ch} (oa2:OQ a2) {r:Arr×Int} (h:Cu a0 a1 a2=some r) :
  Fn Tryz.prog 76 [.ag [.sl (Is a0.shape),.sl (Its a0.items)],.sl (Is a1),a2.dv] (.tup [.d (.ag [.sl (Is r.1.shape),.sl (Its r.1.items)]),.d (.i .i64 r.2)]):=by
 unfold Cu at h
 refine Fn.ofC (rs:=[.cell 6 27,.tmp 7]) (nt:=86) Tryz.func76 rfl rfl rfl (by simp) rfl ?_;refine .sr ?_;refine vk (vbx) ?_;refine vk (van (Am AB) AJ) ?_;refine ar [1,2,3,6,7] ?_;refine .sr ?_;refine vk (Aa) ?_
 obtain ⟨x1,g1,h⟩:=bnd h
 refine vk (VOK.tupd (vs:=[.i .i64 x1.1,.i .i64 x1.2]) (Aq (C6 g1) Tryz.call26)) ?_;refine vk (Aa) ?_;refine vk (vex) ?_;refine vk (vex) ?_;refine asd ?_;refine ar [1,2,3,6,7,8,9] ?_;refine .seq ?_;refine .sr ?_;refine vk (Aa) ?_;refine vk (vbi) ?_;refine rk [1,2,3,6,7,8,9,24] ?_
 rcases brc h with ⟨hc,h⟩|⟨hc,h⟩
 ·refine cnf (ntf (dT hc)) ?_
  refine .skip ?_
  show AW _ _ _ _ _ _
  refine .sr ?_;refine vk (AE Ad Ac) ?_
  obtain ⟨x2,g2,h⟩:=bnd h
  refine vk (Aq (KU g2) Tryz.call126) ?_;refine vk (van (Am CI) CZ) ?_
  refine stn ?_ AA (by decide)
  refine rk [1,2,3,6,7,8,10] ?_;refine .sr ?_;refine vk (Aa) ?_
  obtain ⟨x3,g3,h⟩:=bnd h
  refine vk (Aq (Dv g3) Tryz.call75) ?_;refine ar [1,2,3,6,7,8,10,11] ?_;refine .sr ?_;refine vk (Aa) ?_;refine vk (A2 (Ag _) (Bt _) Bk) ?_
  obtain ⟨x4,g4,h⟩:=bnd h
  have ghx4:=Ea g4
  refine mk' (F:=Is) (x0:=0) (zl:=((List.length a1:Nat):Int)) (Int.toNat ((List.length a1:Nat):Int)) Jm (by omega) (by omega) ?_ Dw (by decide)
  refine aso ?_;refine rk [1,2,3,6,7,8,10,11,12] ?_;refine .sr ?_;refine asn ?_;refine rk [1,2,3,6,7,8,10,11,12,13] ?_;refine .seq ?_;refine .sr ?_;refine vk (Aa) ?_;refine vk (Aa) ?_;refine rk [1,2,3,6,7,8,10,11,12,13,34,35] ?_
  obtain ⟨K0,hK0,h⟩:=AZ h
  refine AW.mr (σ:=(List Itm)) (fun p=>K0 p=some r) (fun p=>[(1,.d (.sl (Is a1))),(6,.nb [.sl (Is []),.sl (Its [])]),(7,.d (.i .i64 0)),(8,.d (.i .i64 x1.1)),(10,.nb [.i .u8 x2.kind,.b x2.num.1,.sl (L x2.num.2.1),.sl (L x2.num.2.2),.i .i32 x2.char,.sl (Ars x2.box)]),(13,.own 58 (Its p))]) (fun p=>[]) ?_ ?_
  ·skip
   refine .block ?_;refine .gh (Gh.nlOwn (t:=13) 58 (by rw [Ll];decide) rfl) ?_
   refine .loop (.gk [1,2,3,6,7,8,10,11,12,13,34,35] ?_)
   refine AL.ind (σ:=Nat×(List Int)×(List Itm)×Int) (m:=fun p=>p.1) (e:=fun p=>[(1,.d (.sl (Is a1))),(2,.d (a2.dv)),(3,.d (.ptr [.sl (Is a0.shape),.sl (Its a0.items)])),(6,.nb [.sl (Is []),.sl (Its [])]),(7,.d (.i .i64 0)),(8,.d (.i .i64 x1.1)),(10,.nb [.i .u8 x2.kind,.b x2.num.1,.sl (L x2.num.2.1),.sl (L x2.num.2.2),.i .i32 x2.char,.sl (Ars x2.box)]),(11,.d (.sl (Is x3))),(12,.own 3 (Is p.2.1)),(13,.own 58 (Its p.2.2.1)),(34,.d (.i .i64 x1.1)),(35,.d (.i .i64 p.2.2.2))]) (h:=fun p=>[]) (I:=fun p=>BV a0 a1 a2 x1 x2 x3 K0 p.1 p.2.1 p.2.2.1 p.2.2.2=some r) ?_ (AQ,(List.replicate (Int.toNat ((List.length a1:Nat):Int)) (0:Int)),[],0) h
   rintro ⟨k,s6,s7,s8⟩ h ih
   dsimp only at h ih ⊢
   rcases k with _|k
   ·rw [BV] at h;cases h
   rw [BV] at h
   refine .sr ?_;refine vk (vbi) ?_;refine rk [1,2,3,6,7,8,10,11,12,13,34,35,36] ?_;refine .seq ?_
   rcases brc h with ⟨hc,h⟩|⟨hc,h⟩
   ·refine cnt (dT hc) ?_
    refine .skip ?_
    show AW _ _ _ _ _ _
    obtain ⟨K2,hK2,h⟩:=AZ h
    refine AW.mj (σ:=(List Int)×(List Itm)) (fun p=>K2 p.1 p.2=some r) (fun p=>[(1,.d (.sl (Is a1))),(2,.d (a2.dv)),(3,.d (.ptr [.sl (Is a0.shape),.sl (Its a0.items)])),(6,.nb [.sl (Is []),.sl (Its [])]),(7,.d (.i .i64 0)),(8,.d (.i .i64 x1.1)),(10,.nb [.i .u8 x2.kind,.b x2.num.1,.sl (L x2.num.2.1),.sl (L x2.num.2.2),.i .i32 x2.char,.sl (Ars x2.box)]),(11,.d (.sl (Is x3))),(12,.own 3 (Is p.1)),(13,.own 58 (Its p.2)),(34,.d (.i .i64 x1.1)),(35,.d (.i .i64 s8))]) (fun p=>[]) ?_ ?_
    ·skip
     refine .block ?_;refine .sr ?_;refine vk (Aa) ?_;refine ar [1,2,3,6,7,8,10,11,12,13,14,34,35] ?_;refine .seq ?_;refine .sr ?_;refine vk (Aa) ?_;refine vk (A2 (Ag _) (Bt _) Bk) ?_;refine vk (Aa) ?_;refine rk [1,2,3,6,7,8,10,11,12,13,14,34,35,38,39,40] ?_
     obtain ⟨K3,hK3,h⟩:=AZ h
     refine AW.mr (σ:=(List Int)) (fun p=>K3 p=some r) (fun p=>[(1,.d (.sl (Is a1))),(2,.d (a2.dv)),(3,.d (.ptr [.sl (Is a0.shape),.sl (Its a0.items)])),(6,.nb [.sl (Is []),.sl (Its [])]),(7,.d (.i .i64 0)),(8,.d (.i .i64 x1.1)),(10,.nb [.i .u8 x2.kind,.b x2.num.1,.sl (L x2.num.2.1),.sl (L x2.num.2.2),.i .i32 x2.char,.sl (Ars x2.box)]),(11,.d (.sl (Is x3))),(12,.own 3 (Is p)),(13,.own 58 (Its s7)),(34,.d (.i .i64 x1.1)),(35,.d (.i .i64 s8))]) (fun p=>[]) ?_ ?_
     ·skip
      refine .block ?_
      refine .loop (.gk [1,2,3,6,7,8,10,11,12,13,14,34,35,38,39,40] ?_)
      refine AL.ind (σ:=Nat×(List Int)×Int) (m:=fun p=>p.1) (e:=fun p=>[(1,.d (.sl (Is a1))),(2,.d (a2.dv)),(3,.d (.ptr [.sl (Is a0.shape),.sl (Its a0.items)])),(6,.nb [.sl (Is []),.sl (Its [])]),(7,.d (.i .i64 0)),(8,.d (.i .i64 x1.1)),(10,.nb [.i .u8 x2.kind,.b x2.num.1,.sl (L x2.num.2.1),.sl (L x2.num.2.2),.i .i32 x2.char,.sl (Ars x2.box)]),(11,.d (.sl (Is x3))),(12,.own 3 (Is p.2.1)),(13,.own 58 (Its s7)),(14,.d (.i .i64 s8)),(34,.d (.i .i64 x1.1)),(35,.d (.i .i64 s8)),(38,.d (.sl (Is x3))),(39,.d (.i .i64 ((List.length x3:Nat):Int))),(40,.d (.i .i64 p.2.2))]) (h:=fun p=>[]) (I:=fun p=>Ci a1 x3 s8 K3 p.1 p.2.1 p.2.2=some r) ?_ (AQ,s6,0) h
      rintro ⟨k,s12,s13⟩ h ih
      dsimp only at h ih ⊢
      rcases k with _|k
      ·rw [Ci] at h;cases h
      rw [Ci] at h
      refine .sr ?_;refine vk (vbi) ?_;refine rk [1,2,3,6,7,8,10,11,12,13,14,34,35,38,39,40,41] ?_;refine .seq ?_
      rcases brc h with ⟨hc,h⟩|⟨hc,h⟩
      ·refine cnt (dT hc) ?_
       refine .skip ?_
       show AW _ _ _ _ _ _
       refine .seq ?_;refine .block ?_;refine .sr ?_;refine vk (Aa) ?_
       obtain ⟨x14,g14,h⟩:=bnd h
       obtain ⟨n14,p014,q14⟩:=Aj g14
       refine vk (vix n14 p014 (Bg q14) rfl Bc) ?_;refine vk (Ah AD) ?_;refine asd ?_;refine ar [1,2,3,6,7,8,10,11,12,13,14,15,16,34,35,38,39,40] ?_;refine .drawn 11 Bh (by kernel_rfl) ?_;refine dv OG ?_;refine dv (Aa) ?_;refine dv (Aa) ?_;refine dv (Aa) ?_
       obtain ⟨x15,g15,h⟩:=bnd h
       refine dv (Ly (Ea g15)) ?_;refine dv (Aa) ?_;refine dv (Aa) ?_
       obtain ⟨x16,g16,h⟩:=bnd h
       obtain ⟨n16,p016,q16⟩:=Aj g16
       refine dv (vix n16 p016 (Bg q16) rfl Bc) ?_;refine dv (Ah AD) ?_
       obtain ⟨x17,g17,h⟩:=bnd h
       refine dv (Ly (Ea g17)) ?_
       obtain ⟨x18,g18,h⟩:=bnd h
       obtain ⟨n18,p018,q18⟩:=Aj g18
       refine dv (NR (off:=0) (len:=(Is s12).length) n18 p018 (by rw [Ag];exact (lS.1 q18).1) Bc (by decide)) ?_;refine dz ?_
       refine MG (F:=Is) (D:=fun x=>.i .i64 x) Gr (us:=s12) (n:=n18) (m:=Int.toNat s13) (x:=(Int.tmod (w64 (Int.tdiv s8 x14)) x16)) (by rw [p018];rfl) ⟨_,by rw [Nat.zero_add];exact Bg q18,rfl⟩ ?_ C8
       refine RL.gk [1,2,3,6,7,8,10,11,12,13,14,15,16,34,35,38,39,40,46,47,48,49,50,51,52,53,54] ?_;refine .nil ?_
       show AW _ _ _ _ _ _
       refine .gk [1,2,3,6,7,8,10,11,12,13,14,34,35,38,39,40] ?_;refine .region ?_;refine vk (vbi) ?_;refine vk (Aa) ?_;refine .nil ?_;refine AL.gk [1,2,3,6,7,8,10,11,12,13,14,34,35,38,39,40] ?_
       exact ih (k,(List.set s12 (Int.toNat s13) (Int.tmod (w64 (Int.tdiv s8 x14)) x16)),(w64 (s13+1))) h (Nat.lt_succ_self _)
      refine cnf (dF hc) ?_;refine .gk [1,2,3,6,7,8,10,11,12,13,34,35] ?_;refine .exit ?_
      exact jr (s12) h
     rintro z11 h
     try dsimp only at h ⊢
     subst hK3
     show AW _ _ _ _ _ _
     refine .sr ?_;refine vk (Aa) ?_;refine mvo ?_
     obtain ⟨x19,g19,h⟩:=bnd h
     refine vk (Vq 12 (oa2 _ _ g19)) ?_;refine ar [1,2,3,6,7,8,10,11,12,13,17,34,35] ?_;refine .sr ?_;refine vk (Aa) ?_;refine vk (vbi) ?_;refine rk [1,2,3,6,7,8,10,11,12,13,17,34,35,61] ?_
     rcases brc h with ⟨hc,h⟩|⟨hc,h⟩
     ·refine cnt (dT hc) ?_
      refine .region ?_;refine mvo ?_;refine vk (vfa AC) ?_;refine vk (Ah Bx) ?_;refine vk (Aa) ?_
      obtain ⟨x20,g20,h⟩:=bnd h
      obtain ⟨n20,p020,q20⟩:=Aj g20
      refine vk (vix n20 p020 (Db q20) rfl C9) ?_;refine vk (AE A4 AA) ?_;refine vk ((ET (EK x20) (DB [x20]) Dm).deep) ?_
      obtain ⟨x21,g21,h⟩:=bnd h
      refine Ts F9 g21 Ib ?_ Fk Ay Dm
      refine aso ?_;refine RL.gk [1,2,3,6,7,8,10,11,12,13,34,35] ?_;refine .nil ?_
      exact jr (z11,x21) h
     refine cnf (dF hc) ?_;refine .region ?_;refine mvo ?_;refine vk (HL A4 AA) ?_;refine vk ((ET (EK x2) (DB [x2]) Dm).deep) ?_
     obtain ⟨x22,g22,h⟩:=bnd h
     refine Ts F9 g22 Ib ?_ Fk Ay Dm
     refine aso ?_;refine RL.gk [1,2,3,6,7,8,10,11,12,13,34,35] ?_;refine .nil ?_
     exact jr (z11,x22) h
    rintro ⟨z9,z10⟩ h
    try dsimp only at h ⊢
    subst hK2
    refine .region ?_;refine vk (vbi) ?_;refine vk (Aa) ?_;refine .nil ?_;refine AL.gk [1,2,3,6,7,8,10,11,12,13,34,35] ?_
    exact ih (k,z9,z10,(w64 (s8+1))) h (Nat.lt_succ_self _)
   refine cnf (dF hc) ?_;refine .gk [1,6,7,8,10,13] ?_;refine .exit ?_
   exact jr (s7) h
  rintro z5 h
  try dsimp only at h ⊢
  subst hK0
  show AW _ _ _ _ _ _
  refine .seq ?_;refine .sr ?_;refine vk (Aa) ?_;refine vk (vbi) ?_;refine rk [1,6,7,10,13,76] ?_
  obtain ⟨K5,hK5,h⟩:=AZ h
  refine AW.mr (σ:=(List Itm)) (fun p=>K5 p=some r) (fun p=>[(1,.d (.sl (Is a1))),(6,.nb [.sl (Is []),.sl (Its [])]),(7,.d (.i .i64 0)),(13,.own 58 (Its p))]) (fun p=>[]) ?_ ?_
  ·skip
   rcases brc h with ⟨hc,h⟩|⟨hc,h⟩
   ·refine cnt (dT hc) ?_
    refine .region ?_;refine mvo ?_;refine vk (HL A4 AA) ?_;refine vk ((ET (EK x2) (DB [x2]) Dm).deep) ?_
    obtain ⟨x24,g24,h⟩:=bnd h
    refine Ts F9 g24 Ib ?_ Fk Ay Dm
    refine aso ?_;refine RL.gk [1,6,7,13] ?_;refine .nil ?_
    exact jr (x24) h
   refine cnf (dF hc) ?_;refine .gk [1,6,7,13] ?_;refine .skip ?_
   exact jr (z5) h
  rintro z23 h
  try dsimp only at h ⊢
  subst hK5
  show AW _ _ _ _ _ _
  refine .sr ?_;refine vk (Aa) ?_;refine fz (p:=.t 13) ?_;refine vk (Aa) ?_
  obtain ⟨x25,g25,h⟩:=bnd h
  refine vk (VOK.tupd (vs:=[.ag [.sl (Is x25.1.shape),.sl (Its x25.1.items)],.i .i64 x25.2]) (Aq (FC g25) Tryz.call10)) ?_;refine vk (vex) ?_;refine vk (vex) ?_
  refine stn ?_ Ac (by decide)
  refine ar [6,7] ?_;refine .ret ?_
  cases h
  exact ⟨_,_,⟨.inr rfl,Ad,Ac,p2⟩,rfl,rfl⟩
 refine cnt (ntt (dF hc)) ?_;refine .sr ?_;refine vk (vbd CG AB AJ) ?_;refine vk (Aa) ?_
 refine stn ?_ Ac (by decide)
 refine ar [1,2,3,6,7,8] ?_;refine .ret ?_
 cases h
 exact ⟨_,_,⟨.inr rfl,Ad,Ac,p2⟩,rfl,rfl⟩
def C5 (a0:(List Int)) (c0:(List Int)) (c1:Int) (c2:(List Int)) : Option (Int):=((rd? a0 c1).bind fun x1=>((rd? c0 x1).bind fun x2=>(if x2<0 then (some ((-1))) else ((Dl c2 a0).bind fun x3=>((rd? c2 c1).bind fun x4=>((rd? a0 c1).bind fun x5=>(some ((w64 (x3+(w64 (x4 * (w64 (x2-x5))))))))))))))
theorem Jr {a0:(List Int)} {c0:(List Int)} {c1:Int} {c2:(List Int)} {r:Int} (h:C5 a0 c0 c1 c2=some r) :
  Fn Tryz.prog 168 [.sl (Is a0),.ptr [.sl (Is c0)],.ptr [.i .i64 c1],.ptr [.sl (Is c2)]] (.d (.i .i64 r)):=by
 unfold C5 at h
 refine Fn.o1 5 31 Tryz.func168 ?_;refine .sr ?_;refine ar [0,1,2,3,5] ?_;refine .seq ?_;refine .drawn 7 Bh (by kernel_rfl) ?_;refine dv (Ah A9) ?_;refine dv (Aa) ?_;refine dv (Ah AD) ?_
 obtain ⟨x1,g1,h⟩:=bnd h
 obtain ⟨n1,p01,q1⟩:=Aj g1
 refine dv (vix n1 p01 (Bg q1) rfl Bc) ?_;refine dv (Ah AD) ?_
 obtain ⟨x2,g2,h⟩:=bnd h
 obtain ⟨n2,p02,q2⟩:=Aj g2
 refine dv (vix n2 p02 (Bg q2) rfl Bc) ?_;refine dv (Ah AD) ?_;refine dz ?_;refine ar [0,2,3,5,6] ?_;refine .seq ?_;refine .sr ?_;refine vk (Aa) ?_;refine vk (vbi) ?_;refine rk [0,2,3,5,6,15] ?_
 rcases brc h with ⟨hc,h⟩|⟨hc,h⟩
 ·refine cnt (dT hc) ?_
  refine .sr ?_;refine ar [0,2,3,5,6] ?_;refine .ret ?_
  cases h
  exact ⟨rfl,rfl⟩
 refine cnf (dF hc) ?_;refine .skip ?_
 show AW _ _ _ _ _ _
 refine .seq ?_;refine .drawn 15 Bh (by kernel_rfl) ?_;refine dv (Ah A9) ?_;refine dv (Aa) ?_
 obtain ⟨x3,g3,h⟩:=bnd h
 refine dv (Aq (E8 g3) Tryz.call79) ?_;refine dv (Ah A9) ?_;refine dv (Ah AD) ?_
 obtain ⟨x4,g4,h⟩:=bnd h
 obtain ⟨n4,p04,q4⟩:=Aj g4
 refine dv (vix n4 p04 (Bg q4) rfl Bc) ?_;refine dv (Ah AD) ?_;refine dv (Aa) ?_;refine dv (Aa) ?_;refine dv (Ah AD) ?_
 obtain ⟨x5,g5,h⟩:=bnd h
 obtain ⟨n5,p05,q5⟩:=Aj g5
 refine dv (vix n5 p05 (Bg q5) rfl Bc) ?_;refine dv (Ah AD) ?_;refine dv (vbi) ?_;refine dv (vbi) ?_;refine dv (vbi) ?_;refine dz ?_;refine ar [5] ?_;refine .ret ?_
 cases h
 exact ⟨rfl,rfl⟩
def BH (a0:Arr) (a1:Int) (a2:(List Int)) : Option (Arr×Int):=((DX a0.shape).bind fun x1=>((rd? x1 a1).bind fun x2=>((Ce a0.shape).bind fun x3=>((Cu a0 (List.set x1 (Int.toNat a1) ((List.length a2:Nat) : Int)) (⟨.fn 168 [] [.ptr [.sl (Is a2)],.ptr [.i .i64 a1],.ptr [.sl (Is x3)]],fun x=>C5 x a2 a1 x3⟩ : Ch)).bind fun x4=>(some (x4.1,x4.2))))))
theorem Hg {a0:Arr} {a1:Int} {a2:(List Int)} {r:Arr×Int} (h:BH a0 a1 a2=some r) :
  Fn Tryz.prog 135 [.ag [.sl (Is a0.shape),.sl (Its a0.items)],.i .i64 a1,.sl (Is a2)] (.tup [.d (.ag [.sl (Is r.1.shape),.sl (Its r.1.items)]),.d (.i .i64 r.2)]):=by
 unfold BH at h
 refine Fn.ofC (rs:=[.cell 6 27,.tmp 7]) (nt:=27) Tryz.func135 rfl rfl rfl (by simp) rfl ?_;refine .sr ?_;refine vk (vbx) ?_;refine vk (UJ) ?_;refine vk (UJ) ?_;refine vk (van (Am AB) AJ) ?_;refine ar [3,4,5,6,7] ?_;refine .sr ?_;refine vk (vfa Aw) ?_;refine vk (Ah A9) ?_
 obtain ⟨x1,g1,h⟩:=bnd h
 refine vk (Aq (FD g1) Tryz.call30) ?_;refine aso ?_;refine rk [3,4,5,6,7,8] ?_;refine .sr ?_;refine mvo ?_;refine vk (Ah AD) ?_;refine vk (Ah A9) ?_;refine vk (A2 (Ag _) (Bt _) Bk) ?_
 obtain ⟨x2,g2,h⟩:=bnd h
 obtain ⟨n2,p02,q2⟩:=Aj g2
 refine ixr (off:=0) (len:=(Is x1).length) n2 p02 (by rw [Ag];exact (lS.1 q2).1) ?_ Bc (by decide)
 refine MG (F:=Is) (D:=fun x=>.i .i64 x) Gr (us:=x1) (n:=n2) (m:=Int.toNat a1) (x:=((List.length a2:Nat):Int)) (by rw [p02];rfl) ⟨_,by rw [Nat.zero_add];exact Bg q2,rfl⟩ ?_ C8
 refine RL.gk [3,4,5,6,7,8,14,15,16] ?_;refine rk [3,4,5,6,7,8] ?_;refine .sr ?_;refine vk (vfa Aw) ?_;refine vk (Ah A9) ?_
 obtain ⟨x3,g3,h⟩:=bnd h
 refine vk (Aq (Dv g3) Tryz.call75) ?_;refine vk (van (Am PB) Ue) ?_
 refine VR ?_ Nd
 refine rk [3,4,5,6,7,8,9] ?_;refine .sr ?_;refine vk (AE Ad Ac) ?_;refine fz (p:=.t 8) ?_;refine vk (Aa) ?_;refine RL.gh (Gh.nbp (t:=9) rfl) ?_;refine vk (TG) ?_
 obtain ⟨x4,g4,h⟩:=bnd h
 refine vk (VOK.tupd (vs:=[.ag [.sl (Is x4.1.shape),.sl (Its x4.1.items)],.i .i64 x4.2]) (Aq (E5 (Ek Tryz.call168 (fun _ _ h=>Jr h)) g4) Tryz.call76)) ?_;refine vk (vex) ?_;refine vk (vex) ?_
 refine stn ?_ Ac (by decide)
 refine ar [6,7] ?_;refine .ret ?_
 cases h
 exact ⟨_,_,⟨.inr rfl,Ad,Ac,p2⟩,rfl,rfl⟩
def HB (a0:Arr) (a1:Bool) : Option (Int):=(if a1=true then (some (0)) else (some ((if (w64 (((List.length a0.shape:Nat) : Int)-1))<0 then 0 else (w64 (((List.length a0.shape:Nat) : Int)-1))))))
theorem IJ {a0:Arr} {a1:Bool} {r:Int} (h:HB a0 a1=some r) :
  Fn Tryz.prog 40 [.ag [.sl (Is a0.shape),.sl (Its a0.items)],.b a1] (.d (.i .i64 r)):=by
 unfold HB at h
 refine Fn.o1 4 11 Tryz.func40 ?_;refine .sr ?_;refine vk (vbx) ?_;refine ar [1,2,4] ?_;refine .seq ?_;refine .sr ?_;refine vk (Aa) ?_;refine rk [2,4,5] ?_
 rcases brc h with ⟨hc,h⟩|⟨hc,h⟩
 ·refine cnt hc ?_
  refine .sr ?_;refine ar [2,4] ?_;refine .ret ?_
  cases h
  exact ⟨rfl,rfl⟩
 refine cnf (bf hc) ?_;refine .skip ?_
 show AW _ _ _ _ _ _
 refine .sr ?_;refine vk (vfa Aw) ?_;refine vk (Ah A9) ?_;refine vk (A2 (Ag _) (Bt _) Bk) ?_;refine vk (vbi) ?_;refine vk (vmx) ?_;refine ar [4] ?_;refine .ret ?_
 cases h
 exact ⟨rfl,rfl⟩
def Ir : List Int→List Int×Int
 | []=>([],1)
 | x::xs=>((Ir xs).2::(Ir xs).1,w64 ((Ir xs).2 * x))
theorem IT {a:List Int} (hl:a.length≤17592186044416) (K:List Int→Option (List Int)) : ∀ (i k:Nat),i≤a.length→i<k →
  Br a K k (List.replicate i 0++(Ir (a.drop i)).1) (Ir (a.drop i)).2 ((i:Int)-1)=K (Ir a).1
 | _,0,_,h=>by omega
 | 0,k+1,_,_=>by rw [Br,if_neg (by omega)];rfl
 | i+1,k+1,hi,hk=>by
  have hlt:i<a.length:=by omega
  rw [Br,if_pos (by omega)]
  have e0:((i+1:Nat):Int)-1=(i:Int):=by omega
  have e1:List.replicate (i+1) (0:Int)++(Ir (a.drop (i+1))).1=List.replicate i 0++0::(Ir (a.drop (i+1))).1:=by
   rw [List.replicate_succ',List.append_assoc];rfl
  rw [e0,e1,BJ (by simp),oB,BJ hlt,oB,Int.toNat_natCast,List.set_append_right _ _ (by simp),List.length_replicate,Nat.sub_self,List.set_cons_zero,show w64 ((i:Int)-1)=(i:Int)-1 from B1 (by omega) (by omega)]
  have e2:a.drop i=a[i]::a.drop (i+1):=lC hlt
  have ih:=IT hl K i k (by omega) (by omega)
  rw [e2] at ih
  exact ih
theorem GD {a:List Int} (hl:a.length≤17592186044416) : Ce a=some (Ir a).1:=by
 unfold Ce
 have hg:EW (0≤((List.length a:Nat):Int)∧((List.length a:Nat):Int)≤17592186044416)=some ():=if_pos (by omega)
 rw [hg,oB,CX]
 have:=IT hl (fun z=>some z) a.length AQ (Nat.le_refl _) (B0 (by omega))
 rw [List.drop_of_length_le (Nat.le_refl _)] at this
 rw [Int.toNat_natCast,B1 (by omega) (by omega)]
 rw [show (Ir []).1=[] from rfl,List.append_nil] at this
 exact this
def pr : List Nat→Nat
 | []=>1
 | x::xs=>x * pr xs
def stN : List Nat→List Nat
 | []=>[]
 | _::xs=>pr xs::stN xs
def atN : List Nat→Nat→List Nat
 | [],_=>[]
 | x::xs,i=>(i / pr xs % x)::atN xs i
def plN : List Nat→List Nat→Nat
 | x::xs,y::ys=>x * y+plN xs ys
 | _,_=>0
def VC : List Nat→List Nat→Prop
 | [],[]=>True
 | x::xs,y::ys=>y<x∧VC xs ys
 | _,_=>False
theorem Ln : ∀ {t:List Nat},(∀ x∈t,0<x)→0<pr t
 | [],_=>Nat.one_pos
 | x::xs,h=>Nat.mul_pos (h x (by simp)) (Ln fun y hy=>h y (by simp [hy]))
theorem MD : ∀ (t:List Nat) (i:Nat),plN (stN t) (atN t i)=i % pr t
 | [],i=>by rw [pr,Nat.mod_one];rfl
 | x::xs,i=>by
  show pr xs * (i / pr xs % x)+plN (stN xs) (atN xs i)=i % (x * pr xs)
  rw [MD xs i,Nat.mul_comm x (pr xs),Nat.mod_mul,Nat.add_comm]
theorem I8 : ∀ {t:List Nat} (i:Nat),(∀ x∈t,0<x)→VC t (atN t i)
 | [],_,_=>trivial
 | x::xs,i,h=>⟨Nat.mod_lt _ (h x (by simp)),I8 i fun y hy=>h y (by simp [hy])⟩
theorem OV : ∀ {t c:List Nat},VC t c→plN (stN t) c<pr t
 | [],[],_=>Nat.one_pos
 | x::xs,y::ys,⟨h1,h2⟩=>by
  have:=OV h2
  show pr xs * y+plN (stN xs) ys<x * pr xs
  have h3:(y+1) * pr xs≤x * pr xs:=Nat.mul_le_mul_right _ h1
  rw [Nat.add_mul,Nat.one_mul,Nat.mul_comm y] at h3
  omega
 | [],_::_,h=>h.elim
 | _::_,[],h=>h.elim
theorem Pu : ∀ (t:List Nat) (y i:Nat),(∀ x∈t,0<x)→atN t (pr t * y+i)=atN t i
 | [],_,_,_=>rfl
 | x::xs,y,i,h=>by
  have hp:=Ln fun z hz=>h z (List.mem_cons_of_mem _ hz)
  show ((x * pr xs * y+i) / pr xs % x)::atN xs (x * pr xs * y+i)=(i / pr xs % x)::atN xs i
  have e:x * pr xs * y+i=pr xs * (x * y)+i:=by rw [Nat.mul_comm x (pr xs),Nat.mul_assoc]
  rw [e,Pu xs (x * y) i fun z hz=>h z (List.mem_cons_of_mem _ hz),Nat.mul_add_div hp,Nat.mul_add_mod]
theorem Ko : ∀ {t c:List Nat},VC t c→atN t (plN (stN t) c)=c
 | [],[],_=>rfl
 | x::xs,y::ys,⟨h1,h2⟩=>by
  have hpos:∀ {t c:List Nat},VC t c→∀ z∈t,0<z:=by
   intro t
   induction t with
   | nil=>intro c _ z hz;cases hz
   | cons u us ih =>
    intro c hc z hz
    cases c with
    | nil=>exact hc.elim
    | cons v vs =>
     rcases List.mem_cons.1 hz with rfl|hz
     ·exact Nat.lt_of_le_of_lt (Nat.zero_le _) hc.1
     ·exact ih hc.2 z hz
  have hp:=hpos h2
  have hr:=OV h2
  show ((pr xs * y+plN (stN xs) ys) / pr xs % x)::atN xs (pr xs * y+plN (stN xs) ys)=y::ys
  rw [Pu xs y _ hp,Ko h2,Nat.mul_add_div (Ln hp),Nat.div_eq_of_lt hr,Nat.add_zero,Nat.mod_eq_of_lt h1]
 | [],_::_,h=>h.elim
 | _::_,[],h=>h.elim
theorem JV : ∀ {t c:List Nat},VC t c→∀ (k:Nat) (h1:k<c.length) (h2:k<t.length),c[k]<t[k]
 | x::xs,y::ys,⟨h,_⟩,0,_,_=>h
 | x::xs,y::ys,⟨_,h⟩,k+1,h1,h2=>JV h k (by simpa using h1) (by simpa using h2)
 | [],[],_,_,h1,_=>by simp at h1
 | [],_::_,h,_,_,_=>h.elim
 | _::_,[],h,_,_,_=>h.elim
theorem T8 : ∀ {t c:List Nat},c.length=t.length→(∀ (k:Nat) (h1:k<c.length) (h2:k<t.length),c[k]<t[k])→VC t c
 | [],[],_,_=>trivial
 | x::xs,y::ys,hl,h=>⟨h 0 (by simp) (by simp),T8 (by simpa using hl) fun k h1 h2=>h (k+1) (by simpa using h1) (by simpa using h2)⟩
 | [],_::_,hl,_=>by simp at hl
 | _::_,[],hl,_=>by simp at hl
theorem CY (t:List Nat) (i:Nat) : (atN t i).length=t.length:=by
 induction t with
 | nil=>rfl
 | cons x xs ih=>rw [atN,List.length_cons,List.length_cons,ih]
theorem DQ (t:List Nat) : (stN t).length=t.length:=by
 induction t with
 | nil=>rfl
 | cons x xs ih=>rw [stN,List.length_cons,List.length_cons,ih]
theorem Pt : ∀ (l c:List Nat) (k v:Nat) (h1:k<c.length) (h2:k<l.length),plN l (c.set k v)+l[k] * c[k]=plN l c+l[k] * v
 | x::xs,y::ys,0,v,_,_=>by
  show x * v+plN xs ys+x * y=x * y+plN xs ys+x * v
  omega
 | x::xs,y::ys,k+1,v,h1,h2=>by
  have h1':k<ys.length:=by simpa using h1
  have h2':k<xs.length:=by simpa using h2
  have:=Pt xs ys k v h1' h2'
  show x * y+plN xs (ys.set k v)+xs[k] * ys[k]=x * y+plN xs ys+xs[k] * v
  omega
 | [],_,_,_,_,h2=>by simp at h2
 | _::_,[],_,_,h1,_=>by simp at h1
def up_ (t:List Nat) : List Int:=t.map fun n : Nat=>((n:Nat) : Int)
theorem Bp (t:List Nat) : (up_ t).length=t.length:=by simp [up_]
theorem Lj : ∀ t : List Nat,CO (up_ t)=(pr t:Int)
 | []=>rfl
 | x::xs=>by
  have e:CO (up_ (x::xs))=(x:Int) * CO (up_ xs):=by
   show CO ((x:Int)::up_ xs)=_
   unfold CO;rw [List.foldl_cons,Hq,Int.one_mul]
  rw [e,Lj xs,pr]
  exact (Int.natCast_mul _ _).symm
theorem P7 {s:List Int} {n:Nat} (h:szP s=((n:Int),0)) (h0:n≠0) : ∃ t : List Nat,s=up_ t∧(∀ x∈t,0<x∧x≤4096)∧pr t=n∧n≤4096∧t.length≤8:=by
 have hle:=Gx s
 unfold szP at h
 split at h
 ·exact absurd (congrArg Prod.snd h) (by simp)
 split at h
 ·exact absurd (congrArg Prod.snd h) (by simp)
 split at h
 ·exact absurd (congrArg Prod.snd h) (by simp)
 split at h
 ·have:=congrArg Prod.fst h
  simp only at this
  omega
 split at h
 ·rename_i h8 hneg hbig hz hp
  have hp1:CO s=(n:Int):=congrArg Prod.fst h
  have each:∀ x∈s,1≤x∧x≤4096:=fun x hx=>by
   simp only [List.any_eq_true,decide_eq_true_eq,not_exists,not_and] at hneg hbig
   have a:=hneg x hx
   have b:=hbig x hx
   have c:x≠0:=fun e=>hz (e▸hx)
   omega
  have es:s=up_ (s.map Int.toNat):=by
   unfold up_
   rw [List.map_map]
   refine (List.map_id' s).symm.trans (List.map_congr_left fun x hx=>?_)
   have:=each x hx
   show x=((x.toNat:Nat):Int)
   omega
  refine ⟨s.map Int.toNat,es,fun x hx=>?_,?_,by omega,by simp;omega⟩
  ·obtain ⟨y,hy,rfl⟩:=List.mem_map.1 hx
   have:=each y hy
   omega
  ·rw [es,Lj] at hp1
   omega
 ·exact absurd (congrArg Prod.snd h) (by simp)
theorem UX {t:List Nat} (h8:t.length≤8) (h:∀ x∈t,0<x∧x≤4096) (hp:pr t≤4096) : szP (up_ t)=((pr t:Int),0):=by
 have hm:∀ x∈up_ t,1≤x∧x≤4096:=fun x hx=>by
  obtain ⟨y,hy,rfl⟩:=List.mem_map.1 hx
  have:=h y hy;omega
 unfold szP
 rw [if_neg (by rw [Bp];omega),if_neg,if_neg,if_neg,Lj,if_pos (by omega)]
 ·intro h0;have:=hm 0 h0;omega
 ·simp only [List.any_eq_true,decide_eq_true_eq,not_exists,not_and]
  intro x hx;have:=hm x hx;omega
 ·simp only [List.any_eq_true,decide_eq_true_eq,not_exists,not_and]
  intro x hx;have:=hm x hx;omega
theorem MN : ∀ {t:List Nat},pr t≤4096→(∀ x∈t,0<x)→Ir (up_ t)=(up_ (stN t),(pr t:Int))
 | [],_,_=>rfl
 | x::xs,h,hp=>by
  have hx:=hp x (by simp)
  have h1:pr xs≤pr (x::xs):=by
   show pr xs≤x * pr xs
   exact Nat.le_mul_of_pos_left _ hx
  have ih:=MN (t:=xs) (by omega) fun y hy=>hp y (by simp [hy])
  show ((Ir (up_ xs)).2::(Ir (up_ xs)).1,w64 ((Ir (up_ xs)).2 * (x:Int)))=_
  rw [ih]
  have e:(pr xs:Int) * (x:Int)=(pr (x::xs):Int):=by
   rw [← Int.natCast_mul,Nat.mul_comm];rfl
  show ((pr xs:Int)::up_ (stN xs),w64 ((pr xs:Int) * (x:Int)))=_
  rw [e,B1 (by omega) (by omega)]
  rfl
theorem SP : ∀ {t:List Nat},(∀ x∈t,0<x)→∀ y∈stN t,y≤pr t
 | x::xs,h,y,hy=>by
  have hx:=h x (by simp)
  have h1:pr xs≤pr (x::xs):=by
   show pr xs≤x * pr xs
   exact Nat.le_mul_of_pos_left _ hx
  rcases List.mem_cons.1 hy with rfl|hy
  ·exact h1
  ·have:=SP (fun z hz=>h z (List.mem_cons_of_mem _ hz)) y hy
   omega
theorem Pp : ∀ {t:List Nat},(∀ x∈t,0<x)→∀ y∈stN t,0<y
 | x::xs,h,y,hy=>by
  have hp:=Ln fun z hz=>h z (List.mem_cons_of_mem x hz)
  rcases List.mem_cons.1 hy with rfl|hy
  ·exact hp
  ·exact Pp (fun z hz=>h z (List.mem_cons_of_mem _ hz)) y hy
theorem Lh {t:List Nat} {i:Nat} (h:i<t.length) : (up_ t)[i]'(by rw [Bp];exact h)=(t[i] : Int):=by simp [up_]
theorem JG {t:List Nat} {i:Nat} (h:i<t.length) : rd? (up_ t) (i:Int)=some (t[i] : Int):=by
 rw [BJ (by rw [Bp];exact h),Lh h]
theorem Se : ∀ (l c:List Nat) (i:Nat) (h1:i<l.length) (h2:i<c.length),plN (l.drop i) (c.drop i)=l[i] * c[i]+plN (l.drop (i+1)) (c.drop (i+1)):=fun l c i h1 h2=>by
 rw [lC h1,lC h2];rfl
theorem I5 {a b:Nat} (ha:a≤4096) (hb:b≤4096) : a * b≤16777216:=Nat.mul_le_mul ha hb
theorem KQ {l c:List Nat} (h8:l.length≤8) (hlen:l.length≤c.length) (hl:∀ x∈l,x≤4096) (hc:∀ x∈c,x≤4096) (K:Int→Option Int) : ∀ (n i k m:Nat),n=l.length-i→i≤l.length→n<k→m≤i * 16777216 →
  Ck (up_ l) (up_ c) K k (m:Int) (i:Int)=K ((m+plN (l.drop i) (c.drop i):Nat):Int)
 | _,_,0,_,_,_,h,_=>by omega
 | n,i,k+1,m,hn,hi,hk,hm=>by
  rw [Ck]
  by_cases h:i<l.length
  ·have h2:i<c.length:=by omega
   have hb:=I5 (hl _ (List.getElem_mem h)) (hc _ (List.getElem_mem h2))
   rw [if_pos (by rw [Bp];omega),JG h,oB,JG h2,oB,← Int.natCast_mul,show w64 ((l[i] * c[i]:Nat):Int)=((l[i] * c[i]:Nat):Int) from B1 (by omega) (by omega),show w64 ((m:Int)+((l[i] * c[i]:Nat):Int))=(m:Int)+((l[i] * c[i]:Nat):Int) from B1 (by omega) (by omega),BX (by omega),← Int.natCast_add,
    KQ h8 hlen hl hc K (n-1) (i+1) k _ (by omega) (by omega) (by omega) (by omega),Se l c i h h2,Nat.add_assoc]
  ·rw [if_neg (by rw [Bp];omega),List.drop_of_length_le (by omega)]
   simp [plN]
theorem RC {l c:List Nat} (h8:l.length≤8) (hlen:l.length≤c.length) (hl:∀ x∈l,x≤4096) (hc:∀ x∈c,x≤4096) : Dl (up_ l) (up_ c)=some ((plN l c:Nat) : Int):=by
 unfold Dl
 rw [CX]
 have:=KQ h8 hlen hl hc (fun z=>some z) l.length 0 AQ 0 rfl (Nat.zero_le _) (B0 (by omega)) (by omega)
 rw [List.drop_zero,List.drop_zero,Nat.zero_add] at this
 exact this
theorem Nc {a:Arr} (oa:okAr a) (ra:AT a) : Cw a=some (tyI (a.items.headD default)):=by
 have hp:=Mh ra
 unfold Cw
 rw [GY oa,oB,dT ra,if_pos rfl]
 cases hi:a.items with
 | nil=>rw [hi] at hp;simp at hp
 | cons x xs =>
  obtain ⟨ox,rx⟩:=Ds oa ra (x:=x) (by rw [hi];simp)
  rw [N1,oB,Nm ox rx.1];rfl
theorem Tn {a:Arr} (oa:okAr a) (ra:AT a) : Ez a=some a:=by
 unfold Ez
 rw [GY oa,oB,dT ra,if_pos rfl,JB oa];rfl
theorem PC : ∀ (t:List Nat) (i j:Nat) (h:j<t.length),(atN t i)[j]'(by rw [CY];exact h)=i / (stN t)[j]'(by rw [DQ];exact h) % t[j]
 | x::xs,i,0,_=>rfl
 | x::xs,i,j+1,h=>PC xs i j (by simpa using h)
 | [],_,_,h=>by simp at h
theorem NB {α:Type} {L r:List α} {j:Nat} (hl:L.length=r.length) (h:j<L.length) : (L.take j++r.drop j).set j L[j]=L.take (j+1)++r.drop (j+1):=by
 have hj:(L.take j).length=j:=by rw [List.length_take];omega
 have e:r.drop j=r[j]'(by omega)::r.drop (j+1):=lC (by omega)
 rw [e,List.set_append_right _ _ (by omega),hj,Nat.sub_self,List.set_cons_zero,List.take_succ_eq_append_getElem h,List.append_assoc]
 rfl
theorem NF {t:List Nat} (ht:∀ x∈t,0<x∧x≤4096) (h8:t.length≤8) {i:Nat} (hi:i≤4096) (K:List Int→Option (Arr×Int)) {r:List Int} (hr:r.length=t.length) : ∀ (n j k:Nat),n=t.length-j→j≤t.length→n<k →
  Ci (up_ t) (up_ (stN t)) (i:Int) K k ((up_ (atN t i)).take j++r.drop j) (j:Int)=K (up_ (atN t i))
 | _,_,0,_,_,h=>by omega
 | n,j,k+1,hn,hj,hk=>by
  have hlen:(up_ (atN t i)).length=t.length:=by rw [Bp,CY]
  rw [Ci]
  by_cases h:j<t.length
  ·have hs:j<(stN t).length:=by rw [DQ];exact h
   have hsp:=Pp (fun x hx=>(ht x hx).1) _ (List.getElem_mem hs)
   have htp:=(ht _ (List.getElem_mem h)).1
   have hcur:j<((up_ (atN t i)).take j++r.drop j).length:=by rw [List.length_append,List.length_take,List.length_drop];omega
   have g1:EW (((stN t)[j]:Int)≠0)=some ():=if_pos (by omega)
   have g2:EW ((t[j]:Int)≠0)=some ():=if_pos (by omega)
   have e1:Int.tdiv (i:Int) ((stN t)[j]:Int)=((i / (stN t)[j]:Nat):Int):=rfl
   have hd:i / (stN t)[j]≤i:=Nat.div_le_self _ _
   have hw:w64 ((i / (stN t)[j]:Nat):Int)=((i / (stN t)[j]:Nat):Int):=by
    generalize i / (stN t)[j]=d at hd ⊢
    exact B1 (by omega) (by omega)
   have e2:Int.tmod ((i / (stN t)[j]:Nat):Int) (t[j]:Int)=((i / (stN t)[j] % t[j]:Nat):Int):=rfl
   have e3:((i / (stN t)[j] % t[j]:Nat):Int)=(up_ (atN t i))[j]'(by rw [hlen];exact h):=by
    rw [Lh (by rw [CY];exact h),PC t i j h]
   rw [if_pos (by rw [Bp,DQ];omega),JG hs,oB,g1,oB,JG h,oB,g2,oB,BJ hcur,oB,e1,hw,e2,e3,Int.toNat_natCast,BX (by omega),
    NB (by rw [hlen,hr]) (by rw [hlen];exact h),NF ht h8 hi K hr (n-1) (j+1) k (by omega) (by omega) (by omega)]
  ·rw [if_neg (by rw [Bp,DQ];omega),List.take_of_length_le (by omega),List.drop_of_length_le (by omega),List.append_nil]
def J2 (a:Arr) (p:Itm) (j:Int) : Itm:=if 0≤j then a.items.getD j.toNat default else p
theorem KE {a:Arr} {t:List Nat} {F:Ch} {p:Itm} {J:Nat→Int} (ht:∀ x∈t,0<x∧x≤4096) (h8:t.length≤8) (hn:pr t≤4096) (hF:∀ i,i<pr t→F.g (up_ (atN t i))=some (J i)∧J i<(a.items.length:Int)) {x1:Int×Int} (hx1:x1.1=(pr t:Int)) (K:List Itm→Option (Arr×Int)) : ∀ (n i k:Nat) (r:List Int),n=pr t-i→i≤pr t→n<k→r.length=t.length →
  BV a (up_ t) F x1 p (up_ (stN t)) K k r (((List.range (pr t)).map fun i=>J2 a p (J i)).take i) (i:Int)=K ((List.range (pr t)).map fun i=>J2 a p (J i))
 | _,_,0,_,_,_,h,_=>by omega
 | n,i,k+1,r,hn',hi,hk,hr=>by
  have hlen:((List.range (pr t)).map fun i=>J2 a p (J i)).length=pr t:=by simp
  rw [BV]
  by_cases h:i<pr t
  ·have hb:=fun K=>NF ht h8 (i:=i) (by omega) K hr t.length 0 AQ rfl (Nat.zero_le _) (B0 (by omega))
   rw [List.take_zero,List.nil_append,List.drop_zero,show ((0:Nat):Int)=0 from rfl] at hb
   obtain ⟨f1,f2⟩:=hF i h
   have hg:((List.range (pr t)).map fun i=>J2 a p (J i))[i]'(by rw [hlen];exact h)=J2 a p (J i):=by simp
   have ih:=KE (p:=p) ht h8 hn hF hx1 K (n-1) (i+1) k (up_ (atN t i)) (by omega) (by omega) (by omega) (by rw [Bp,CY])
   rw [List.take_succ_eq_append_getElem (by rw [hlen];exact h),hg] at ih
   have hcap:(((List.range (pr t)).map fun i=>J2 a p (J i)).take i).length+1≤1466015503701:=by rw [List.length_take];omega
   rw [if_pos (by omega),CX,CX,hb,f1,oB]
   by_cases h0:0≤J i
   ·have hj:(J i).toNat<a.items.length:=by omega
    have e:rd? a.items (J i)=some (a.items.getD (J i).toNat default):=by
     unfold rd?
     rw [if_pos h0,lD,lG hj];rfl
    have ep:J2 a p (J i)=a.items.getD (J i).toNat default:=if_pos h0
    rw [if_pos h0,e,oB,JC (by simpa using hcap),oB,BX (by omega),← ep]
    exact ih
   ·have ep:J2 a p (J i)=p:=if_neg h0
    rw [if_neg h0,JC (by simpa using hcap),oB,BX (by omega)]
    rw [ep] at ih
    exact ih
  ·rw [if_neg (by omega),List.take_of_length_le (by omega)]
theorem QB {a:Arr} {t:List Nat} {F:Ch} {p:Itm} {J:Nat→Int} (hp:Cw a=some p) (ht:∀ x∈t,0<x∧x≤4096) (h8:t.length≤8) (hn:pr t≤4096) (hF:∀ i,i<pr t→F.g (up_ (atN t i))=some (J i)∧J i<(a.items.length:Int)) :
  Cu a (up_ t) F=AU (up_ t) ((List.range (pr t)).map fun i=>J2 a p (J i)):=by
 have hpp:=Ln fun x hx=>(ht x hx).1
 have hl:(up_ t).length≤17592186044416:=by rw [Bp];omega
 have hg:EW (0≤((List.length (up_ t):Nat):Int)∧((List.length (up_ t):Nat):Int)≤17592186044416)=some ():=if_pos (by omega)
 unfold Cu
 rw [GC hl,oB,UX h8 ht hn,if_pos rfl,hp,oB,GD hl,oB,hg,oB,CX,MN hn fun x hx=>(ht x hx).1]
 have:=fun K=>KE (p:=p) ht h8 hn hF (x1:=((pr t:Int),0)) rfl K (pr t) 0 AQ (List.replicate (Int.toNat ((List.length (up_ t):Nat):Int)) 0) rfl (Nat.zero_le _) (B0 (by omega)) (by simp [Bp])
 rw [List.take_zero,show ((0:Nat):Int)=0 from rfl] at this
 rw [this,CX,if_neg (by show ¬((pr t:Int)=0);omega)]
 show ((AU (up_ t) ((List.range (pr t)).map fun i=>J2 a p (J i))).bind fun x25=>some (x25.1,x25.2))=_
 generalize AU _ _=m
 cases m<;>rfl
theorem Pi {a:Arr} {s:List Int} {F:Ch} {p:Itm} (hp:Cw a=some p) (hl:s.length≤17592186044416) (hs:szP s=(0,0)) : Cu a s F=AU s [p]:=by
 have hg:EW (0≤((List.length s:Nat):Int)∧((List.length s:Nat):Int)≤17592186044416)=some ():=if_pos (by omega)
 have hF:AQ=999999999999999+1:=rfl
 unfold Cu
 rw [GC hl,oB,hs,if_pos rfl,hp,oB,GD hl,oB,hg,oB,CX,hF,BV,if_neg (by decide),CX,if_pos rfl,JC (by simp),oB]
 show ((AU s [p]).bind fun x25=>some (x25.1,x25.2))=_
 generalize AU _ _=m
 cases m<;>rfl
def Bm (t:List Nat) (ax:Nat) (fr:List Nat) (i:Nat) : Nat:=plN (stN t) ((atN (t.set ax fr.length) i).set ax (fr.getD ((atN (t.set ax fr.length) i).getD ax 0) 0))
theorem Hx {t:List Nat} {ax:Nat} {fr:List Nat} (ht:∀ x∈t,0<x) (hax:ax<t.length) (hfr:∀ x∈fr,x<t[ax]) (h0:0<fr.length) (i:Nat) : VC t ((atN (t.set ax fr.length) i).set ax (fr.getD ((atN (t.set ax fr.length) i).getD ax 0) 0)):=by
 have ht':∀ x∈t.set ax fr.length,0<x:=fun x hx=>by
  rcases List.mem_or_eq_of_mem_set hx with hx|rfl
  ·exact ht x hx
  ·exact h0
 have hv:=I8 (t:=t.set ax fr.length) i ht'
 have hl:(atN (t.set ax fr.length) i).length=t.length:=by rw [CY,List.length_set]
 have hc:(atN (t.set ax fr.length) i).getD ax 0<fr.length:=by
  have:=JV hv ax (by omega) (by simpa using hax)
  rw [List.getElem_set_self] at this
  rw [lD,lG (by omega)]
  exact this
 refine T8 (by rw [List.length_set,hl]) fun k h1 h2=>?_
 rw [List.getElem_set]
 split
 ·rename_i e
  subst e
  refine hfr _ ?_
  rw [lD,lG hc]
  exact List.getElem_mem hc
 ·rename_i e
  have:=JV hv k (by omega) (by simpa using h2)
  rw [List.getElem_set_ne e] at this
  exact this
theorem Hy {t:List Nat} {ax:Nat} {fr:List Nat} (ht:∀ x∈t,0<x) (hax:ax<t.length) (hfr:∀ x∈fr,x<t[ax]) (h0:0<fr.length) (i:Nat) : Bm t ax fr i<pr t:=OV (Hx ht hax hfr h0 i)
theorem NL {P R z v c:Nat} (hpl:R+z * c=P+z * v) (m1:z * c≤16777216) (m2:z * v≤16777216) (hz:z≤4096) (hv:v≤4096) (hc:c≤4096) (hR:R≤4096) : w64 ((P:Int)+w64 ((z:Int) * w64 ((v:Int)-(c:Int))))=(R:Int):=by
 have e1:w64 ((v:Int)-(c:Int))=(v:Int)-(c:Int):=B1 (by omega) (by omega)
 have e2:(z:Int) * ((v:Int)-(c:Int))=((z * v:Nat):Int)-((z * c:Nat):Int):=by rw [Int.mul_sub,Int.natCast_mul,Int.natCast_mul]
 rw [e1,e2]
 generalize z * v=A at *
 generalize z * c=B at *
 have e3:w64 ((A:Int)-(B:Int))=(A:Int)-(B:Int):=B1 (by omega) (by omega)
 rw [e3,show (P:Int)+((A:Int)-(B:Int))=(R:Int) by omega,B1 (by omega) (by omega)]
theorem Te {t:List Nat} {ax:Nat} {fr:List Nat} (ht:∀ x∈t,0<x∧x≤4096) (h8:t.length≤8) (hn:pr t≤4096) (hax:ax<t.length) (hfr:∀ x∈fr,x<t[ax]) (h0:0<fr.length) (hm:fr.length≤4096) (i:Nat) :
  C5 (up_ (atN (t.set ax fr.length) i)) (up_ fr) (ax:Int) (up_ (stN t))=some ((Bm t ax fr i:Nat):Int):=by
 have ht':∀ x∈t.set ax fr.length,0<x∧x≤4096:=fun x hx=>by
  rcases List.mem_or_eq_of_mem_set hx with hx|rfl
  ·exact ht x hx
  ·exact ⟨h0,hm⟩
 have hv:=I8 (t:=t.set ax fr.length) i fun x hx=>(ht' x hx).1
 have hl:(atN (t.set ax fr.length) i).length=t.length:=by rw [CY,List.length_set]
 have hcv:=JV hv ax (by omega) (by simpa using hax)
 rw [List.getElem_set_self] at hcv
 have hst:ax<(stN t).length:=by rw [DQ];exact hax
 have hcb:∀ x∈atN (t.set ax fr.length) i,x≤4096:=fun x hx=>by
  obtain ⟨k,hk,rfl⟩:=List.getElem_of_mem hx
  have:=JV hv k hk (by rw [List.length_set];omega)
  have h2:=(ht' _ (List.getElem_mem (show k<(t.set ax fr.length).length by rw [List.length_set];omega))).2
  omega
 have hsb:∀ x∈stN t,x≤4096:=fun x hx=>nT (SP (fun x hx=>(ht x hx).1) x hx) hn
 have hpl:=Pt (stN t) (atN (t.set ax fr.length) i) ax (fr.getD ((atN (t.set ax fr.length) i).getD ax 0) 0) (by omega) hst
 have hgd:(atN (t.set ax fr.length) i).getD ax 0=(atN (t.set ax fr.length) i)[ax]'(by omega):=by rw [lD,lG (by omega)];rfl
 have hfd:fr.getD ((atN (t.set ax fr.length) i)[ax]'(by omega)) 0=fr[(atN (t.set ax fr.length) i)[ax]'(by omega)]'hcv:=by rw [lD,lG hcv];rfl
 have hlt:=Hy (fun x hx=>(ht x hx).1) hax hfr h0 i
 unfold Bm at hlt ⊢
 rw [hgd,hfd] at hpl hlt ⊢
 have hf1:=hfr _ (List.getElem_mem hcv)
 have htx:=(ht _ (List.getElem_mem hax)).2
 have hs1:=hsb _ (List.getElem_mem hst)
 have hc1:=hcb _ (List.getElem_mem (show ax<(atN (t.set ax fr.length) i).length by omega))
 have m1:=I5 hs1 hc1
 have m2:=I5 hs1 (show fr[(atN (t.set ax fr.length) i)[ax]'(by omega)]'hcv≤4096 by omega)
 unfold C5
 rw [JG (by omega),oB,JG hcv,oB,if_neg (by omega),RC (by rw [DQ];exact h8) (by rw [DQ];omega) hsb hcb,oB,JG hst,oB,oB]
 exact congrArg some (NL hpl m1 m2 (by omega) (by omega) (by omega) (by omega))
theorem QG {a:Arr} {t:List Nat} {ax:Nat} {fr:List Nat} {p:Itm} (hp:Cw a=some p) (ha:a.shape=up_ t) (hit:a.items.length=pr t) (ht:∀ x∈t,0<x∧x≤4096) (h8:t.length≤8) (hn:pr t≤4096) (hax:ax<t.length) (hfr:∀ x∈fr,x<t[ax]) (h0:0<fr.length) (hm:fr.length≤4096) (hn':pr (t.set ax fr.length)≤4096) :
  BH a (ax:Int) (up_ fr)=AU (up_ (t.set ax fr.length)) ((List.range (pr (t.set ax fr.length))).map fun i=>a.items.getD (Bm t ax fr i) default):=by
 have ht':∀ x∈t.set ax fr.length,0<x∧x≤4096:=fun x hx=>by
  rcases List.mem_or_eq_of_mem_set hx with hx|rfl
  ·exact ht x hx
  ·exact ⟨h0,hm⟩
 have hl:(up_ t).length≤17592186044416:=by rw [Bp];omega
 unfold BH
 rw [ha,HF hl,oB,JG hax,oB,GD hl,oB,MN hn fun x hx=>(ht x hx).1,Int.toNat_natCast]
 have e:List.set (up_ t) ax ((List.length (up_ fr):Nat):Int)=up_ (t.set ax fr.length):=by
  rw [Bp];unfold up_;rw [List.map_set]
 rw [e]
 have hb:=QB (F:=(⟨.fn 168 [] [.ptr [.sl (Is (up_ fr))],.ptr [.i .i64 (ax:Int)],.ptr [.sl (Is (up_ (stN t)))]],fun x=>C5 x (up_ fr) (ax:Int) (up_ (stN t))⟩:Ch)) (J:=fun i=>((Bm t ax fr i:Nat):Int)) hp ht' (by rw [List.length_set];exact h8) hn' (fun i _=>⟨Te ht h8 hn hax hfr h0 hm i,by have:=Hy (fun x hx=>(ht x hx).1) hax hfr h0 i;show ((Bm t ax fr i:Nat):Int)<_;omega⟩)
 rw [hb]
 have e2:((List.range (pr (t.set ax fr.length))).map fun i=>J2 a p ((Bm t ax fr i:Nat):Int))=((List.range (pr (t.set ax fr.length))).map fun i=>a.items.getD (Bm t ax fr i) default):=by
  refine List.map_congr_left fun i _=>?_
  unfold J2
  rw [if_pos (by omega),Int.toNat_natCast]
 rw [e2]
 generalize AU _ _=m
 cases m<;>rfl
theorem OC {a:Arr} {ax:Nat} {fr:List Int} {p:Itm} (hp:Cw a=some p) (hl:a.shape.length≤17592186044416) (hax:ax<a.shape.length) (hs:szP (a.shape.set ax ((fr.length:Nat) : Int))=(0,0)) :
  BH a (ax:Int) fr=AU (a.shape.set ax ((fr.length:Nat):Int)) [p]:=by
 unfold BH
 rw [HF hl,oB,BJ hax,oB,GD hl,oB,Int.toNat_natCast,Pi hp (by rw [List.length_set];exact hl) hs]
 generalize AU _ _=m
 cases m<;>rfl
def FF (g:Nat→Nat) : List Nat→Nat
 | []=>0
 | x::xs=>g x+FF g xs
theorem Rj {g:Nat→Nat} {l m:List Nat} (h:l.Perm m) : FF g l=FF g m:=by
 induction h with
 | nil=>rfl
 | cons x _ ih=>rw [FF,FF,ih]
 | swap x y l=>rw [FF,FF,FF,FF];omega
 | trans _ _ a b=>exact a.trans b
theorem NS (g:Nat→Nat) : ∀ l m : List Nat,FF g (l++m)=FF g l+FF g m
 | [],m=>by rw [List.nil_append,FF,Nat.zero_add]
 | x::l,m=>by rw [List.cons_append,FF,FF,NS g l m,Nat.add_assoc]
theorem M5 (g:Nat→Nat) : ∀ (n:Nat) (L:List Nat),L.Nodup→(∀ x∈L,x<n)→FF g L≤FF g (List.range n)
 | 0,[],_,_=>Nat.le_refl _
 | 0,x::_,_,h=>absurd (h x (by simp)) (by omega)
 | n+1,L,hd,h=>by
  rw [List.range_succ,NS]
  by_cases hn:n∈L
  ·rw [Rj (List.perm_cons_erase hn)]
   have:=M5 g n (L.erase n) (hd.erase n) fun x hx=>by
    have h1:=(hd.mem_erase_iff).1 hx
    have:=h x h1.2
    have:=h1.1
    omega
   simp only [FF]
   omega
  ·have:=M5 g n L hd fun x hx=>by
    have:=h x hx
    have:x≠n:=fun e=>hn (e▸hx)
    omega
   omega
theorem Qe (xs:List Itm) (L:List Nat) : cIs (L.map fun j=>xs.getD j default)=FF (fun j=>cI (xs.getD j default)) L:=by
 induction L with
 | nil=>rfl
 | cons j L ih=>rw [List.map_cons,cIs,FF,ih]
theorem Pk (xs:List Itm) : (List.range xs.length).map (fun j=>xs.getD j default)=xs:=by
 apply List.ext_getElem
 ·simp
 ·intro i h1 h2
  rw [List.getElem_map,List.getElem_range,lD,lG h2];rfl
theorem Uq {xs:List Itm} {d:Nat} (h:∀ x∈xs,dI x≤d) : dIs xs≤d:=by
 induction xs with
 | nil=>exact Nat.zero_le _
 | cons x xs ih =>
  rw [dIs]
  have h1:=h x (by simp)
  have h2:=ih fun y hy=>h y (by simp [hy])
  omega
theorem Mt {x:Itm} : ∀ {xs:List Itm},x∈xs→dI x≤dIs xs
 | y::ys,h=>by
  rw [dIs]
  rcases List.mem_cons.1 h with rfl|h
  ·omega
  ·have:=Mt h;omega
def Cl (a:Arr) (n:Nat) (J:Nat→Nat) : List Itm:=(List.range n).map fun i=>a.items.getD (J i) default
theorem Gd {a:Arr} {n:Nat} {J:Nat→Nat} (hJ:∀ i,i<n→J i<a.items.length) : ∀ x∈Cl a n J,x∈a.items:=fun x hx=>by
 obtain ⟨i,hi,rfl⟩:=List.mem_map.1 hx
 have:=hJ i (List.mem_range.1 hi)
 rw [lD,lG this]
 exact List.getElem_mem this
theorem EF (a:Arr) (n:Nat) (J:Nat→Nat) : (Cl a n J).length=n:=by simp [Cl]
theorem Qm {s:List Int} {xs:List Itm} {n:Nat} (hs64:∀ z∈s,-9223372036854775808≤z∧z≤9223372036854775807) (hl:s.length≤17592186044416) (hsz:szP s=((n:Int),0)) (h0:n≠0) (hlen:xs.length=n) (hx:∀ x∈xs,okI x∧Cs x) (hR:AT (.mk s xs)) : AU s xs=some (.mk s xs,0):=by
 have hn:=Gx s
 rw [hsz] at hn
 have hne:¬(xs=[]∨¬∀ x∈xs,Cs x):=fun q=>q.elim (fun e=>by rw [e] at hlen;simp at hlen;omega) fun q=>q fun x h=>(hx x h).2
 rw [Mx hs64 hl (by omega) (fun x h=>(hx x h).1),hsz,if_neg (fun q=>q rfl),if_neg hne,MC hlen h0,if_pos hR]
theorem KP {a:Arr} (oa:okAr a) (ra:AT a) {s:List Int} {n:Nat} (hsz:szP s=((n:Int),0)) (h0:n≠0) (hlen:a.items.length=n) {J:Nat→Nat} (hJ:∀ i,i<n→J i<n) (hinj:∀ i j,i<n→j<n→J i=J j→i=j) : AT (.mk s (Cl a n J)):=by
 have hJ':∀ i,i<n→J i<a.items.length:=fun i hi=>by rw [hlen];exact hJ i hi
 have hx:∀ x∈Cl a n J,okI x∧Cs x:=fun x h=>Ds oa ra (Gd hJ' x h)
 have hc:cIs (Cl a n J)≤cIs a.items:=by
  have e1:Cl a n J=((List.range n).map J).map fun j=>a.items.getD j default:=by unfold Cl;rw [List.map_map];rfl
  have e2:cIs a.items=FF (fun j=>cI (a.items.getD j default)) (List.range n):=by
   rw [← Qe,← hlen,Pk]
  rw [e1,Qe,e2]
  refine M5 _ n _ ?_ fun x hx=>?_
  ·rw [List.Nodup,List.pairwise_map]
   refine List.pairwise_lt_range.imp_of_mem fun {i j} hi hj hij e=>?_
   have:=hinj i j (List.mem_range.1 hi) (List.mem_range.1 hj) e
   omega
  ·obtain ⟨i,hi,rfl⟩:=List.mem_map.1 hx
   exact hJ i (List.mem_range.1 hi)
 have hd:dIs (Cl a n J)≤dIs a.items:=Uq fun x h=>Mt (Gd hJ' x h)
 obtain ⟨r1,r2,r3⟩:=ra
 have hri:=(HD r1).2.2
 refine ⟨?_,?_,?_⟩
 ·rw [HR,GL,D0,hsz,EJ.2 fun x h=>(hx x h).2.1,EF]
  simp only [Bool.and_true,decide_true,Bool.true_and,decide_eq_true_eq]
  rw [if_neg (by omega)]
 ·rw [GX,D0]
  rw [GX] at r2
  split
  ·omega
  ·by_cases hs:AG a=true
   ·have:=(Hf hs (EJ.2 hri)).1
    omega
   ·rw [if_neg hs] at r2;omega
 ·rw [G0,D0,EF]
  rw [G0] at r3
  omega
theorem Ro {a:Arr} (oa:okAr a) (ra:AT a) {s:List Int} {n:Nat} (hs64:∀ z∈s,-9223372036854775808≤z∧z≤9223372036854775807) (hl:s.length≤17592186044416) (hsz:szP s=((n:Int),0)) (h0:n≠0) (hlen:a.items.length=n) {J:Nat→Nat} (hJ:∀ i,i<n→J i<n) (hinj:∀ i j,i<n→j<n→J i=J j→i=j) :
  AU s (Cl a n J)=some (.mk s (Cl a n J),0) :=
 Qm hs64 hl hsz h0 (EF a n J) (fun x h=>Ds oa ra (Gd (fun i hi=>by rw [hlen];exact hJ i hi) x h)) (KP oa ra hsz h0 hlen hJ hinj)
theorem L9 {a:Arr} (oa:okAr a) (ra:AT a) (hz:szP a.shape=(0,0)) {s:List Int} (hs64:∀ z∈s,-9223372036854775808≤z∧z≤9223372036854775807) (hl:s.length≤17592186044416) (hsz:szP s=(0,0)) {p:Itm} (hp:p=a.items.headD default∨p=tyI (a.items.headD default)) :
  AU s [p]=some (.mk s [tyI (a.items.headD default)],0):=by
 have hne:=Mh ra
 obtain ⟨r1,r2,r3⟩:=ra
 have hlen:a.items.length=1:=by
  have:=(HD r1).2.1
  rw [hz] at this
  rw [if_pos (by decide)] at this
  omega
 obtain ⟨x,hx⟩:=List.length_eq_one_iff.1 hlen
 have hx':a.items.headD default=x:=by rw [hx];rfl
 rw [hx'] at hp ⊢
 obtain ⟨ox,rx⟩:=Ds oa ⟨r1,r2,r3⟩ (x:=x) (by rw [hx];simp)
 obtain ⟨t1,t2,t3,t4,t5,t6⟩:=KO ox rx.1
 have hns:∀ {s:List Int} {i:List Itm},szP s=(0,0)→AG (.mk s i)=false:=by
  intro s i h
  unfold AG
  cases s with
  | nil=>exact absurd (congrArg Prod.fst h) (by decide)
  | cons y ys=>rfl
 have hpr:okI p∧Cs p∧tyI p=tyI x:=by
  rcases hp with rfl|rfl
  ·exact ⟨ox,rx,rfl⟩
  ·exact ⟨t6,⟨t1,t2▸rx.2.1,t3▸rx.2.2⟩,t4⟩
 have hmk:BE (szP s).1 [p]=[tyI x]:=by
  rw [hsz];show [tyI p]=_;rw [hpr.2.2]
 have hR:AT (.mk s [tyI x]):=by
  have e1:dA a=1+dI x:=by
   have:AG a=false:=by have:=hns (i:=a.items) hz;rwa [Arr.eta] at this
   rw [GX,this,if_neg (by decide),hx,dIs,dIs,Nat.max_zero]
  have e2:cA a=1+cI x:=by rw [G0,hx];simp [cIs]
  refine ⟨?_,?_,?_⟩
  ·rw [HR,GL,D0,hsz,EJ.2 (by simpa using t1)];rfl
  ·rw [GX,hns hsz,if_neg (by decide),D0,dIs,dIs,Nat.max_zero,t2];omega
  ·rw [G0,D0];simp only [cIs,List.length_singleton];omega
 have hc:¬([p]=[]∨¬∀ y∈[p],Cs y):=fun q=>q.elim (fun e=>by cases e) fun q=>q fun y hy=>by rw [List.mem_singleton] at hy;subst hy;exact hpr.2.1
 rw [Mx hs64 hl (by simp) (fun y hy=>by rw [List.mem_singleton] at hy;subst hy;exact hpr.1),hmk,if_neg (by rw [hsz];exact fun q=>q rfl),if_neg hc,if_pos hR]
theorem QA {l:List Nat} (hd:l.Nodup) {i j:Nat} (hi:i<l.length) (hj:j<l.length) (e:l[i]=l[j]) : i=j:=by
 have h:=List.pairwise_iff_getElem.1 hd
 rcases Nat.lt_trichotomy i j with hl|hl|hl
 ·exact absurd e (h i j hi hj hl)
 ·exact hl
 ·exact absurd e.symm (h j i hj hi hl)
theorem OM {t:List Nat} {ax:Nat} {fr:List Nat} (ht:∀ x∈t,0<x) (hax:ax<t.length) (hfr:∀ x∈fr,x<t[ax]) (hlen:fr.length=t[ax]) (hd:fr.Nodup) : ∀ i j,i<pr t→j<pr t→Bm t ax fr i=Bm t ax fr j→i=j:=by
 intro i j hi hj e
 have h0:0<fr.length:=by rw [hlen];exact ht _ (List.getElem_mem hax)
 have hset:t.set ax fr.length=t:=by rw [hlen];exact List.set_getElem_self hax
 have vi:=Hx ht hax hfr h0 i
 have vj:=Hx ht hax hfr h0 j
 have e2:(atN (t.set ax fr.length) i).set ax (fr.getD ((atN (t.set ax fr.length) i).getD ax 0) 0)=(atN (t.set ax fr.length) j).set ax (fr.getD ((atN (t.set ax fr.length) j).getD ax 0) 0):=by
  rw [← Ko vi,← Ko vj]
  exact congrArg (atN t) e
 rw [hset] at e2
 have hci:=I8 (t:=t) i ht
 have hcj:=I8 (t:=t) j ht
 have li:(atN t i).length=t.length:=CY t i
 have lj:(atN t j).length=t.length:=CY t j
 have key:atN t i=atN t j:=by
  refine List.ext_getElem (by rw [li,lj]) fun k h1 h2=>?_
  by_cases hk:ax=k
  ·subst hk
   have hh:((atN t i).set ax (fr.getD ((atN t i).getD ax 0) 0))[ax]?=((atN t j).set ax (fr.getD ((atN t j).getD ax 0) 0))[ax]?:=by rw [e2]
   rw [List.getElem?_set_self (by omega),List.getElem?_set_self (by omega)] at hh
   have gi:(atN t i).getD ax 0=(atN t i)[ax]:=by rw [lD,lG h1];rfl
   have gj:(atN t j).getD ax 0=(atN t j)[ax]:=by rw [lD,lG h2];rfl
   have bi:=JV hci ax h1 hax
   have bj:=JV hcj ax h2 hax
   rw [gi,gj] at hh
   have hh:=oI hh
   rw [lD,lD,lG (by omega),lG (by omega)] at hh
   exact QA hd _ _ hh
  ·have hh:((atN t i).set ax (fr.getD ((atN t i).getD ax 0) 0))[k]?=((atN t j).set ax (fr.getD ((atN t j).getD ax 0) 0))[k]?:=by rw [e2]
   rw [List.getElem?_set_ne hk,List.getElem?_set_ne hk,lG h1,lG h2] at hh
   exact oI hh
 have pi:=MD t i
 have pj:=MD t j
 rw [key,pj,Nat.mod_eq_of_lt hi,Nat.mod_eq_of_lt hj] at pi
 exact pi.symm
def Cy (x2:Int) (K0:(List Int)→Option (Arr×Int)) : Nat→(List Int)→Int→Option (Arr×Int)
 | 0,_,_=>none
 | k+1,s4,s5=>(if s5<x2 then ((ap? 17592186044416 [s5] s4).bind fun x6=>(Cy x2 K0 k x6 (w64 (s5+1)))) else (K0 s4))
def Ec (a0:Arr) (a1:Int) : Option (Arr×Int):=(if ((List.length a0.shape:Nat) : Int)=0 then ((Ez a0).bind fun x1=>(some (x1,0))) else ((rd? a0.shape a1).bind fun x2=>(jn (fun (z3:(List Int))=>((BH a0 a1 z3).bind fun x7=>(some (x7.1,x7.2)))) fun K0=>(Cy x2 K0 AQ [] 0))))
theorem Fv {a0:Arr} {a1:Int} {r:Arr×Int} (h:Ec a0 a1=some r) :
  Fn Tryz.prog 94 [.ag [.sl (Is a0.shape),.sl (Its a0.items)],.i .i64 a1] (.tup [.d (.ag [.sl (Is r.1.shape),.sl (Its r.1.items)]),.d (.i .i64 r.2)]):=by
 unfold Ec at h
 refine Fn.ofC (rs:=[.cell 4 27,.tmp 5]) (nt:=33) Tryz.func94 rfl rfl rfl (by simp) rfl ?_;refine .sr ?_;refine vk (vbx) ?_;refine vk (van (Am AB) AJ) ?_;refine ar [1,2,4,5] ?_;refine .seq ?_;refine .sr ?_;refine vk (vfa Aw) ?_;refine vk (Ah A9) ?_;refine vk (A2 (Ag _) (Bt _) Bk) ?_;refine vk (vbi) ?_;refine rk [1,2,4,5,11] ?_
 rcases brc h with ⟨hc,h⟩|⟨hc,h⟩
 ·refine cnt (dT hc) ?_
  refine .sr ?_;refine vk (AE Ad Ac) ?_
  obtain ⟨x1,g1,h⟩:=bnd h
  refine vk (Aq (HT g1) Tryz.call134) ?_
  refine stn ?_ Ac (by decide)
  refine ar [1,2,4,5] ?_;refine .ret ?_
  cases h
  exact ⟨_,_,⟨.inr rfl,Ad,Ac,p2⟩,rfl,rfl⟩
 refine cnf (dF hc) ?_;refine .skip ?_
 show AW _ _ _ _ _ _
 refine .sr ?_;refine asn ?_;refine rk [1,2,4,5,6] ?_;refine .seq ?_;refine .sr ?_;refine vk (vfa Aw) ?_;refine vk (Ah A9) ?_;refine vk (Aa) ?_
 obtain ⟨x2,g2,h⟩:=bnd h
 obtain ⟨n2,p02,q2⟩:=Aj g2
 refine vk (vix n2 p02 (Bg q2) rfl Bc) ?_;refine vk (Ah AD) ?_;refine vk (Aa) ?_;refine rk [1,2,4,5,6,18,19] ?_
 obtain ⟨K0,hK0,h⟩:=AZ h
 refine AW.mr (σ:=(List Int)) (fun p=>K0 p=some r) (fun p=>[(1,.d (.i .i64 a1)),(2,.d (.ptr [.sl (Is a0.shape),.sl (Its a0.items)])),(4,.nb [.sl (Is []),.sl (Its [])]),(5,.d (.i .i64 0)),(6,.d (.sl (Is p)))]) (fun p=>[]) ?_ ?_
 ·skip
  refine .block ?_;refine .gh (Gh.nlD (t:=6) rfl) ?_
  refine .loop (.gk [1,2,4,5,6,18,19] ?_)
  refine AL.ind (σ:=Nat×(List Int)×Int) (m:=fun p=>p.1) (e:=fun p=>[(1,.d (.i .i64 a1)),(2,.d (.ptr [.sl (Is a0.shape),.sl (Its a0.items)])),(4,.nb [.sl (Is []),.sl (Its [])]),(5,.d (.i .i64 0)),(6,.d (.sl (Is p.2.1))),(18,.d (.i .i64 x2)),(19,.d (.i .i64 p.2.2))]) (h:=fun p=>[]) (I:=fun p=>Cy x2 K0 p.1 p.2.1 p.2.2=some r) ?_ (AQ,[],0) h
  rintro ⟨k,s4,s5⟩ h ih
  dsimp only at h ih ⊢
  rcases k with _|k
  ·rw [Cy] at h;cases h
  rw [Cy] at h
  refine .sr ?_;refine vk (vbi) ?_;refine rk [1,2,4,5,6,18,19,20] ?_;refine .seq ?_
  rcases brc h with ⟨hc,h⟩|⟨hc,h⟩
  ·refine cnt (dT hc) ?_
   refine .skip ?_
   show AW _ _ _ _ _ _
   refine .seq ?_;refine .block ?_;refine .sr ?_;refine vk (Aa) ?_;refine ar [1,2,4,5,6,7,18,19] ?_;refine .region ?_;refine vk (Aa) ?_;refine vk (LD (EG [s5]) Dw) ?_;refine vk (Aa) ?_
   obtain ⟨x6,g6,h⟩:=bnd h
   refine UU Lk g6 Mi ?_ Ie Ag Dw
   refine aso ?_;refine .nil ?_
   show AW _ _ _ _ _ _
   refine .gk [1,2,4,5,6,18,19] ?_;refine .region ?_;refine vk (vbi) ?_;refine vk (Aa) ?_;refine .nil ?_;refine AL.gh (Gh.frz (p:=.t 6) rfl (fun _ _ h=>by cases h)) ?_;refine AL.gk [1,2,4,5,6,18,19] ?_
   exact ih (k,x6,(w64 (s5+1))) h (Nat.lt_succ_self _)
  refine cnf (dF hc) ?_;refine .gk [1,2,4,5,6] ?_;refine .exit ?_
  exact jr (s4) h
 rintro z3 h
 try dsimp only at h ⊢
 subst hK0
 show AW _ _ _ _ _ _
 refine .sr ?_;refine vk (AE Ad Ac) ?_;refine vk (Aa) ?_;refine vk (Aa) ?_
 obtain ⟨x7,g7,h⟩:=bnd h
 refine vk (VOK.tupd (vs:=[.ag [.sl (Is x7.1.shape),.sl (Its x7.1.items)],.i .i64 x7.2]) (Aq (Hg g7) Tryz.call135)) ?_;refine vk (vex) ?_;refine vk (vex) ?_
 refine stn ?_ Ac (by decide)
 refine ar [4,5] ?_;refine .ret ?_
 cases h
 exact ⟨_,_,⟨.inr rfl,Ad,Ac,p2⟩,rfl,rfl⟩
def DU (a0:(List Int)) (c0:(List Int)) : Option (Int):=((Dl c0 a0).bind fun x1=>(some (x1)))
theorem GQ {a0:(List Int)} {c0:(List Int)} {r:Int} (h:DU a0 c0=some r) :
  Fn Tryz.prog 127 [.sl (Is a0),.ptr [.sl (Is c0)]] (.d (.i .i64 r)):=by
 unfold DU at h
 refine Fn.o1 3 7 Tryz.func127 ?_;refine .sr ?_;refine ar [0,1,3] ?_;refine .sr ?_;refine vk (Ah A9) ?_;refine vk (Aa) ?_
 obtain ⟨x1,g1,h⟩:=bnd h
 refine vk (Aq (E8 g1) Tryz.call79) ?_;refine ar [3] ?_;refine .ret ?_
 cases h
 exact ⟨rfl,rfl⟩
def B3 (a2:Int) (K0:(List Int)→Option (Arr×Int)) : Nat→(List Int)→Int→Option (Arr×Int)
 | 0,_,_=>none
 | k+1,s4,s5=>(if s5<((List.length (List.replicate (Int.toNat a2) (0:Int)):Nat):Int) then ((rd? s4 s5).bind fun x6=>(B3 a2 K0 k (List.set s4 (Int.toNat s5) 4096) (w64 (s5+1)))) else (K0 s4))
def B5 (a0:Arr) (a1:(List Int)) (x7:(List Int)) (K2:(List Int)→(List Int)→Option (Arr×Int)) : Nat→(List Int)→Int→(List Int)→Option (Arr×Int)
 | 0,_,_,_=>none
 | k+1,s10,s11,s12=>(if s11<((List.length x7:Nat):Int) then ((rd? x7 s11).bind fun x13=>((rd? a1 s11).bind fun x14=>((rd? a1 s11).bind fun x15=>((rd? s10 x15).bind fun x16=>((rd? a0.shape s11).bind fun x17=>((rd? s10 x14).bind fun x18=>((rd? a1 s11).bind fun x19=>((rd? s12 x19).bind fun x20=>((rd? s12 x19).bind fun x21=>(B5 a0 a1 x7 K2 k (List.set s10 (Int.toNat x14) (if x17<x16 then x17 else x16)) (w64 (s11+1)) (List.set s12 (Int.toNat x19) (w64 (x20+x13))))))))))))) else (K2 s10 s12))
def Eo (a0:Arr) (a1:(List Int)) (a2:Int) : Option (Arr×Int):=((EW (0≤a2∧a2≤17592186044416)).bind fun x1=>((EW (0≤a2∧a2≤17592186044416)).bind fun x2=>(jn (fun (z3:(List Int))=>((Ce a0.shape).bind fun x7=>(jn (fun (z8:(List Int)) (z9:(List Int))=>((Cu a0 z8 (⟨.fn 127 [] [.ptr [.sl (Is z9)]],fun x=>DU x z9⟩ : Ch)).bind fun x22=>(some (x22.1,x22.2)))) fun K2=>(B5 a0 a1 x7 K2 AQ z3 0 (List.replicate (Int.toNat a2) (0:Int)))))) fun K0=>(B3 a2 K0 AQ (List.replicate (Int.toNat a2) (0:Int)) 0))))
theorem HI {a0:Arr} {a1:(List Int)} {a2:Int} {r:Arr×Int} (h:Eo a0 a1 a2=some r) :
  Fn Tryz.prog 80 [.ag [.sl (Is a0.shape),.sl (Its a0.items)],.sl (Is a1),.i .i64 a2] (.tup [.d (.ag [.sl (Is r.1.shape),.sl (Its r.1.items)]),.d (.i .i64 r.2)]):=by
 unfold Eo at h
 refine Fn.ofC (rs:=[.cell 6 27,.tmp 7]) (nt:=71) Tryz.func80 rfl rfl rfl (by simp) rfl ?_;refine .sr ?_;refine vk (vbx) ?_;refine vk (van (Am AB) AJ) ?_;refine ar [1,2,3,6,7] ?_;refine .sr ?_;refine vk (Aa) ?_
 obtain ⟨x1,g1,h⟩:=bnd h
 have ghx1:=Ea g1
 refine mk' (F:=Is) (x0:=0) (zl:=a2) (Int.toNat a2) Jm (by omega) (by omega) ?_ Dw (by decide)
 refine aso ?_;refine rk [1,2,3,6,7,8] ?_;refine .sr ?_;refine vk (Aa) ?_
 obtain ⟨x2,g2,h⟩:=bnd h
 have ghx2:=Ea g2
 refine mk' (F:=Is) (x0:=0) (zl:=a2) (Int.toNat a2) Jm (by omega) (by omega) ?_ Dw (by decide)
 refine al ?_ (Am PB) (fun w I μ=>RI w I μ)
 refine Ja (cs:=[.nl]) (c:=.nl) rfl rfl ?_ Nd
 refine rk [1,3,6,7,8,9] ?_;refine .seq ?_;refine .sr ?_;refine mvo ?_;refine vk (Ug (Ag _) Bk) ?_;refine vk (Aa) ?_;refine rk [1,3,6,7,8,9,18,19] ?_
 obtain ⟨K0,hK0,h⟩:=AZ h
 refine AW.mr (σ:=(List Int)) (fun p=>K0 p=some r) (fun p=>[(1,.d (.sl (Is a1))),(3,.d (.ptr [.sl (Is a0.shape),.sl (Its a0.items)])),(6,.nb [.sl (Is []),.sl (Its [])]),(7,.d (.i .i64 0)),(8,.own 3 (Is p)),(9,.bp 0 0)]) (fun p=>[HO.box [.own 3 (Is (List.replicate (Int.toNat a2) (0:Int)))]]) ?_ ?_
 ·skip
  refine .block ?_
  refine .loop (.gk [1,3,6,7,8,9,18,19] ?_)
  refine AL.ind (σ:=Nat×(List Int)×Int) (m:=fun p=>p.1) (e:=fun p=>[(1,.d (.sl (Is a1))),(3,.d (.ptr [.sl (Is a0.shape),.sl (Its a0.items)])),(6,.nb [.sl (Is []),.sl (Its [])]),(7,.d (.i .i64 0)),(8,.own 3 (Is p.2.1)),(9,.bp 0 0),(18,.d (.i .i64 ((List.length (List.replicate (Int.toNat a2) (0:Int)):Nat):Int))),(19,.d (.i .i64 p.2.2))]) (h:=fun p=>[HO.box [.own 3 (Is (List.replicate (Int.toNat a2) (0:Int)))]]) (I:=fun p=>B3 a2 K0 p.1 p.2.1 p.2.2=some r) ?_ (AQ,(List.replicate (Int.toNat a2) (0:Int)),0) h
  rintro ⟨k,s4,s5⟩ h ih
  dsimp only at h ih ⊢
  rcases k with _|k
  ·rw [B3] at h;cases h
  rw [B3] at h
  refine .sr ?_;refine vk (vbi) ?_;refine rk [1,3,6,7,8,9,18,19,20] ?_;refine .seq ?_
  rcases brc h with ⟨hc,h⟩|⟨hc,h⟩
  ·refine cnt (dT hc) ?_
   refine .skip ?_
   show AW _ _ _ _ _ _
   refine .seq ?_;refine .block ?_;refine .sr ?_;refine vk (Aa) ?_;refine ar [1,3,6,7,8,9,10,18,19] ?_;refine .region ?_;refine mvo ?_;refine vk (Aa) ?_
   obtain ⟨x6,g6,h⟩:=bnd h
   obtain ⟨n6,p06,q6⟩:=Aj g6
   refine ixr (off:=0) (len:=(Is s4).length) n6 p06 (by rw [Ag];exact (lS.1 q6).1) ?_ Bc (by decide)
   refine MG (F:=Is) (D:=fun x=>.i .i64 x) Gr (us:=s4) (n:=n6) (m:=Int.toNat s5) (x:=4096) (by rw [p06];rfl) ⟨_,by rw [Nat.zero_add];exact Bg q6,rfl⟩ ?_ C8
   refine RL.gk [1,3,6,7,8,9,10,18,19,23] ?_;refine .nil ?_
   show AW _ _ _ _ _ _
   refine .gk [1,3,6,7,8,9,18,19] ?_;refine .region ?_;refine vk (vbi) ?_;refine vk (Aa) ?_;refine .nil ?_;refine AL.gk [1,3,6,7,8,9,18,19] ?_
   exact ih (k,(List.set s4 (Int.toNat s5) 4096),(w64 (s5+1))) h (Nat.lt_succ_self _)
  refine cnf (dF hc) ?_;refine .gk [1,3,6,7,8,9] ?_;refine .exit ?_
  exact jr (s4) h
 rintro z3 h
 try dsimp only at h ⊢
 subst hK0
 show AW _ _ _ _ _ _
 refine .seq ?_;refine .sr ?_;refine vk (vfa Aw) ?_;refine vk (Ah A9) ?_
 obtain ⟨x7,g7,h⟩:=bnd h
 refine vk (Aq (Dv g7) Tryz.call75) ?_;refine vk (A2 (Ag _) (Bt _) Bk) ?_;refine vk (Aa) ?_;refine rk [1,3,6,7,8,9,28,29,30] ?_
 obtain ⟨K2,hK2,h⟩:=AZ h
 refine AW.mr (σ:=(List Int)×(List Int)) (fun p=>K2 p.1 p.2=some r) (fun p=>[(3,.d (.ptr [.sl (Is a0.shape),.sl (Its a0.items)])),(6,.nb [.sl (Is []),.sl (Its [])]),(7,.d (.i .i64 0)),(8,.own 3 (Is p.1)),(9,.bp 0 0)]) (fun p=>[HO.box [.own 3 (Is p.2)]]) ?_ ?_
 ·skip
  refine .block ?_
  refine .loop (.gk [1,3,6,7,8,9,28,29,30] ?_)
  refine AL.ind (σ:=Nat×(List Int)×Int×(List Int)) (m:=fun p=>p.1) (e:=fun p=>[(1,.d (.sl (Is a1))),(3,.d (.ptr [.sl (Is a0.shape),.sl (Its a0.items)])),(6,.nb [.sl (Is []),.sl (Its [])]),(7,.d (.i .i64 0)),(8,.own 3 (Is p.2.1)),(9,.bp 0 0),(28,.d (.sl (Is x7))),(29,.d (.i .i64 ((List.length x7:Nat):Int))),(30,.d (.i .i64 p.2.2.1))]) (h:=fun p=>[HO.box [.own 3 (Is p.2.2.2)]]) (I:=fun p=>B5 a0 a1 x7 K2 p.1 p.2.1 p.2.2.1 p.2.2.2=some r) ?_ (AQ,z3,0,(List.replicate (Int.toNat a2) (0:Int))) h
  rintro ⟨k,s10,s11,s12⟩ h ih
  dsimp only at h ih ⊢
  rcases k with _|k
  ·rw [B5] at h;cases h
  rw [B5] at h
  refine .sr ?_;refine vk (vbi) ?_;refine rk [1,3,6,7,8,9,28,29,30,31] ?_;refine .seq ?_
  rcases brc h with ⟨hc,h⟩|⟨hc,h⟩
  ·refine cnt (dT hc) ?_
   refine .skip ?_
   show AW _ _ _ _ _ _
   refine .seq ?_;refine .block ?_;refine .sr ?_;refine vk (Aa) ?_
   obtain ⟨x13,g13,h⟩:=bnd h
   obtain ⟨n13,p013,q13⟩:=Aj g13
   refine vk (vix n13 p013 (Bg q13) rfl Bc) ?_;refine vk (Ah AD) ?_;refine asd ?_;refine ar [1,3,6,7,8,9,11,12,28,29,30] ?_;refine .seq ?_;refine .drawn 19 Bh (by kernel_rfl) ?_;refine dv OG ?_;refine dv (Aa) ?_;refine dv (Aa) ?_
   obtain ⟨x14,g14,h⟩:=bnd h
   obtain ⟨n14,p014,q14⟩:=Aj g14
   refine dv (vix n14 p014 (Bg q14) rfl Bc) ?_;refine dv (Ah AD) ?_;refine dv OG ?_;refine dv (Aa) ?_;refine dv (Aa) ?_
   obtain ⟨x15,g15,h⟩:=bnd h
   obtain ⟨n15,p015,q15⟩:=Aj g15
   refine dv (vix n15 p015 (Bg q15) rfl Bc) ?_;refine dv (Ah AD) ?_
   obtain ⟨x16,g16,h⟩:=bnd h
   obtain ⟨n16,p016,q16⟩:=Aj g16
   refine dv (NR (off:=0) (len:=(Is s10).length) n16 p016 (by rw [Ag];exact (lS.1 q16).1) Bc (by decide)) ?_;refine dv (ST (i:=0+n16) (j:=0) (xs:=Is s10) (.i .i64 x16) ⟨_,by rw [Nat.zero_add];exact Bg q16,rfl⟩ AD) ?_;refine dv (vfa Aw) ?_;refine dv (Ah A9) ?_;refine dv (Aa) ?_
   obtain ⟨x17,g17,h⟩:=bnd h
   obtain ⟨n17,p017,q17⟩:=Aj g17
   refine dv (vix n17 p017 (Bg q17) rfl Bc) ?_;refine dv (Ah AD) ?_;refine dv (vmn) ?_
   obtain ⟨x18,g18,h⟩:=bnd h
   obtain ⟨n18,p018,q18⟩:=Aj g18
   refine dv (NR (off:=0) (len:=(Is s10).length) n18 p018 (by rw [Ag];exact (lS.1 q18).1) Bc (by decide)) ?_;refine dz ?_
   refine MG (F:=Is) (D:=fun x=>.i .i64 x) Gr (us:=s10) (n:=n18) (m:=Int.toNat x14) (x:=(if x17<x16 then x17 else x16)) (by rw [p018];rfl) ⟨_,by rw [Nat.zero_add];exact Bg q18,rfl⟩ ?_ C8
   refine RL.gk [1,3,6,7,8,9,11,12,28,29,30,36,37,38,39,41,42,43,44,46,47,48,49,50,51,52] ?_;refine rk [1,3,6,7,8,9,11,12,28,29,30] ?_;refine .drawn 10 Bh (by kernel_rfl) ?_;refine dv (Mj (cs:=[.own 3 (Is s12)]) rfl rfl A9) ?_;refine dv (Aa) ?_;refine dv (Aa) ?_
   obtain ⟨x19,g19,h⟩:=bnd h
   obtain ⟨n19,p019,q19⟩:=Aj g19
   refine dv (vix n19 p019 (Bg q19) rfl Bc) ?_;refine dv (Ah AD) ?_
   obtain ⟨x20,g20,h⟩:=bnd h
   obtain ⟨n20,p020,q20⟩:=Aj g20
   refine dv (NR (off:=0) (len:=(Is s12).length) n20 p020 (by rw [Ag];exact (lS.1 q20).1) Bc (by decide)) ?_;refine dv (ST (i:=0+n20) (j:=0) (xs:=Is s12) (.i .i64 x20) ⟨_,by rw [Nat.zero_add];exact Bg q20,rfl⟩ AD) ?_;refine dv (Aa) ?_;refine dv (vbi) ?_
   obtain ⟨x21,g21,h⟩:=bnd h
   obtain ⟨n21,p021,q21⟩:=Aj g21
   refine dv (NR (off:=0) (len:=(Is s12).length) n21 p021 (by rw [Ag];exact (lS.1 q21).1) Bc (by decide)) ?_;refine dz ?_
   refine MG (F:=Is) (D:=fun x=>.i .i64 x) Gr (us:=s12) (n:=n21) (m:=Int.toNat x19) (x:=(w64 (x20+x13))) (by rw [p021];rfl) ⟨_,by rw [Nat.zero_add];exact Bg q21,rfl⟩ ?_ C8
   refine RL.gk [1,3,6,7,8,9,11,12,28,29,30,55,56,57,58,60,61,62] ?_;refine .nil ?_
   show AW _ _ _ _ _ _
   refine .gk [1,3,6,7,8,9,28,29,30] ?_;refine .region ?_;refine vk (vbi) ?_;refine vk (Aa) ?_;refine .nil ?_;refine AL.gk [1,3,6,7,8,9,28,29,30] ?_
   exact ih (k,(List.set s10 (Int.toNat x14) (if x17<x16 then x17 else x16)),(w64 (s11+1)),(List.set s12 (Int.toNat x19) (w64 (x20+x13)))) h (Nat.lt_succ_self _)
  refine cnf (dF hc) ?_;refine .gk [3,6,7,8,9] ?_;refine .exit ?_
  exact jr (s10,s12) h
 rintro ⟨z8,z9⟩ h
 try dsimp only at h ⊢
 subst hK2
 show AW _ _ _ _ _ _
 refine .sr ?_;refine vk (AE Ad Ac) ?_;refine fz (p:=.t 8) ?_;refine vk (Aa) ?_;refine fz (p:=.c 0 0) ?_;refine RL.gh2 (Gh2.pop (H0:=[]) (cs:=[.sl (Is z9)]) rfl rfl rfl rfl) ?_;refine vk (TG) ?_
 obtain ⟨x22,g22,h⟩:=bnd h
 refine vk (VOK.tupd (vs:=[.ag [.sl (Is x22.1.shape),.sl (Its x22.1.items)],.i .i64 x22.2]) (Aq (E5 (Ek Tryz.call127 (fun _ _ h=>GQ h)) g22) Tryz.call76)) ?_;refine vk (vex) ?_;refine vk (vex) ?_
 refine stn ?_ Ac (by decide)
 refine ar [6,7] ?_;refine .ret ?_
 cases h
 exact ⟨_,_,⟨.inr rfl,Ad,Ac,p2⟩,rfl,rfl⟩
def GG (a0:Arr) : Option (Arr×Int):=((CD a0.shape).bind fun x1=>((AU ([x1.1]) a0.items).bind fun x2=>(some (x2.1,x2.2))))
theorem Ke {a0:Arr} {r:Arr×Int} (h:GG a0=some r) :
  Fn Tryz.prog 92 [.ag [.sl (Is a0.shape),.sl (Its a0.items)]] (.tup [.d (.ag [.sl (Is r.1.shape),.sl (Its r.1.items)]),.d (.i .i64 r.2)]):=by
 unfold GG at h
 refine Fn.ofC (rs:=[.cell 2 27,.tmp 3]) (nt:=19) Tryz.func92 rfl rfl rfl (by simp) rfl ?_;refine .sr ?_;refine vk (vbx) ?_;refine vk (van (Am AB) AJ) ?_;refine ar [1,2,3] ?_;refine .sr ?_;refine vk (vfa Aw) ?_;refine vk (Ah A9) ?_
 obtain ⟨x1,g1,h⟩:=bnd h
 refine vk (VOK.tupd (vs:=[.i .i64 x1.1,.i .i64 x1.2]) (Aq (C6 g1) Tryz.call26)) ?_;refine vk (Aa) ?_;refine vk (vex) ?_;refine vk (vex) ?_;refine asd ?_;refine ar [1,2,3,4] ?_;refine .sr ?_;refine vk (Aa) ?_;refine vk ((LD (EG [x1.1]) Dw).deep) ?_;refine vk (vfa AC) ?_;refine vk (Ah Bx) ?_
 obtain ⟨x2,g2,h⟩:=bnd h
 refine vk (VOK.tupd (vs:=[.ag [.sl (Is x2.1.shape),.sl (Its x2.1.items)],.i .i64 x2.2]) (Aq (FC g2) Tryz.call10)) ?_;refine vk (vex) ?_;refine vk (vex) ?_
 refine stn ?_ Ac (by decide)
 refine ar [2,3] ?_;refine .ret ?_
 cases h
 exact ⟨_,_,⟨.inr rfl,Ad,Ac,p2⟩,rfl,rfl⟩
def Ge (a0:Arr) : Option (Arr×Int):=((HB a0 false).bind fun x1=>((Ec a0 x1).bind fun x2=>(some (x2.1,x2.2))))
theorem J7 {a0:Arr} {r:Arr×Int} (h:Ge a0=some r) :
  Fn Tryz.prog 93 [.ag [.sl (Is a0.shape),.sl (Its a0.items)]] (.tup [.d (.ag [.sl (Is r.1.shape),.sl (Its r.1.items)]),.d (.i .i64 r.2)]):=by
 unfold Ge at h
 refine Fn.ofC (rs:=[.cell 2 27,.tmp 3]) (nt:=10) Tryz.func93 rfl rfl rfl (by simp) rfl ?_;refine .sr ?_;refine vk (vbx) ?_;refine vk (van (Am AB) AJ) ?_;refine ar [1,2,3] ?_;refine .seq ?_;refine .drawn 6 Bh (by kernel_rfl) ?_;refine dv (AE Ad Ac) ?_;refine dv (AE Ad Ac) ?_
 obtain ⟨x1,g1,h⟩:=bnd h
 refine dv (Aq (IJ g1) Tryz.call40) ?_
 obtain ⟨x2,g2,h⟩:=bnd h
 refine dv (VOK.tupd (vs:=[.ag [.sl (Is x2.1.shape),.sl (Its x2.1.items)],.i .i64 x2.2]) (Aq (Fv g2) Tryz.call94)) ?_;refine dv (vex) ?_;refine dv (vex) ?_;refine dz ?_
 refine stn ?_ Ac (by decide)
 refine ar [2,3] ?_;refine .ret ?_
 cases h
 exact ⟨_,_,⟨.inr rfl,Ad,Ac,p2⟩,rfl,rfl⟩
def Gl (a0:Arr) : Option (Arr×Int):=((Ec a0 0).bind fun x1=>(some (x1.1,x1.2)))
theorem Ka {a0:Arr} {r:Arr×Int} (h:Gl a0=some r) :
  Fn Tryz.prog 95 [.ag [.sl (Is a0.shape),.sl (Its a0.items)]] (.tup [.d (.ag [.sl (Is r.1.shape),.sl (Its r.1.items)]),.d (.i .i64 r.2)]):=by
 unfold Gl at h
 refine Fn.ofC (rs:=[.cell 2 27,.tmp 3]) (nt:=8) Tryz.func95 rfl rfl rfl (by simp) rfl ?_;refine .sr ?_;refine vk (vbx) ?_;refine vk (van (Am AB) AJ) ?_;refine ar [1,2,3] ?_;refine .sr ?_;refine vk (AE Ad Ac) ?_
 obtain ⟨x1,g1,h⟩:=bnd h
 refine vk (VOK.tupd (vs:=[.ag [.sl (Is x1.1.shape),.sl (Its x1.1.items)],.i .i64 x1.2]) (Aq (Fv g1) Tryz.call94)) ?_;refine vk (vex) ?_;refine vk (vex) ?_
 refine stn ?_ Ac (by decide)
 refine ar [2,3] ?_;refine .ret ?_
 cases h
 exact ⟨_,_,⟨.inr rfl,Ad,Ac,p2⟩,rfl,rfl⟩
def C2 (a0:Arr) (K0:(List Int)→Option (Arr×Int)) : Nat→(List Int)→Int→Option (Arr×Int)
 | 0,_,_=>none
 | k+1,s2,s3=>(if s3<((List.length a0.shape:Nat):Int) then ((ap? 17592186044416 [s3] s2).bind fun x4=>(C2 a0 K0 k x4 (w64 (s3+1)))) else (K0 s2))
def GI (a0:Arr) : Option (Arr×Int):=(jn (fun (z1:(List Int))=>((Eo a0 z1 ((List.length z1:Nat) : Int)).bind fun x5=>(some (x5.1,x5.2)))) fun K0=>(C2 a0 K0 AQ [] 0))
theorem J1 {a0:Arr} {r:Arr×Int} (h:GI a0=some r) :
  Fn Tryz.prog 96 [.ag [.sl (Is a0.shape),.sl (Its a0.items)]] (.tup [.d (.ag [.sl (Is r.1.shape),.sl (Its r.1.items)]),.d (.i .i64 r.2)]):=by
 unfold GI at h
 refine Fn.ofC (rs:=[.cell 2 27,.tmp 3]) (nt:=24) Tryz.func96 rfl rfl rfl (by simp) rfl ?_;refine .sr ?_;refine vk (vbx) ?_;refine vk (van (Am AB) AJ) ?_;refine ar [1,2,3] ?_;refine .sr ?_;refine asn ?_;refine rk [1,2,3,4] ?_;refine .seq ?_;refine .sr ?_;refine vk (vfa Aw) ?_;refine vk (Ah A9) ?_;refine vk (A2 (Ag _) (Bt _) Bk) ?_;refine vk (Aa) ?_;refine rk [1,2,3,4,8,9] ?_
 obtain ⟨K0,hK0,h⟩:=AZ h
 refine AW.mr (σ:=(List Int)) (fun p=>K0 p=some r) (fun p=>[(1,.d (.ptr [.sl (Is a0.shape),.sl (Its a0.items)])),(2,.nb [.sl (Is []),.sl (Its [])]),(3,.d (.i .i64 0)),(4,.d (.sl (Is p)))]) (fun p=>[]) ?_ ?_
 ·skip
  refine .block ?_;refine .gh (Gh.nlD (t:=4) rfl) ?_
  refine .loop (.gk [1,2,3,4,8,9] ?_)
  refine AL.ind (σ:=Nat×(List Int)×Int) (m:=fun p=>p.1) (e:=fun p=>[(1,.d (.ptr [.sl (Is a0.shape),.sl (Its a0.items)])),(2,.nb [.sl (Is []),.sl (Its [])]),(3,.d (.i .i64 0)),(4,.d (.sl (Is p.2.1))),(8,.d (.i .i64 ((List.length a0.shape:Nat):Int))),(9,.d (.i .i64 p.2.2))]) (h:=fun p=>[]) (I:=fun p=>C2 a0 K0 p.1 p.2.1 p.2.2=some r) ?_ (AQ,[],0) h
  rintro ⟨k,s2,s3⟩ h ih
  dsimp only at h ih ⊢
  rcases k with _|k
  ·rw [C2] at h;cases h
  rw [C2] at h
  refine .sr ?_;refine vk (vbi) ?_;refine rk [1,2,3,4,8,9,10] ?_;refine .seq ?_
  rcases brc h with ⟨hc,h⟩|⟨hc,h⟩
  ·refine cnt (dT hc) ?_
   refine .skip ?_
   show AW _ _ _ _ _ _
   refine .seq ?_;refine .block ?_;refine .sr ?_;refine vk (Aa) ?_;refine ar [1,2,3,4,5,8,9] ?_;refine .region ?_;refine vk (Aa) ?_;refine vk (LD (EG [s3]) Dw) ?_;refine vk (Aa) ?_
   obtain ⟨x4,g4,h⟩:=bnd h
   refine UU Lk g4 Mi ?_ Ie Ag Dw
   refine aso ?_;refine .nil ?_
   show AW _ _ _ _ _ _
   refine .gk [1,2,3,4,8,9] ?_;refine .region ?_;refine vk (vbi) ?_;refine vk (Aa) ?_;refine .nil ?_;refine AL.gh (Gh.frz (p:=.t 4) rfl (fun _ _ h=>by cases h)) ?_;refine AL.gk [1,2,3,4,8,9] ?_
   exact ih (k,x4,(w64 (s3+1))) h (Nat.lt_succ_self _)
  refine cnf (dF hc) ?_;refine .gk [1,2,3,4] ?_;refine .exit ?_
  exact jr (s2) h
 rintro z1 h
 try dsimp only at h ⊢
 subst hK0
 show AW _ _ _ _ _ _
 refine .sr ?_;refine vk (AE Ad Ac) ?_;refine vk (Aa) ?_;refine vk (Aa) ?_;refine vk (A2 (Ag _) (Bt _) Bk) ?_
 obtain ⟨x5,g5,h⟩:=bnd h
 refine vk (VOK.tupd (vs:=[.ag [.sl (Is x5.1.shape),.sl (Its x5.1.items)],.i .i64 x5.2]) (Aq (HI g5) Tryz.call80)) ?_;refine vk (vex) ?_;refine vk (vex) ?_
 refine stn ?_ Ac (by decide)
 refine ar [2,3] ?_;refine .ret ?_
 cases h
 exact ⟨_,_,⟨.inr rfl,Ad,Ac,p2⟩,rfl,rfl⟩
def As (a0:(List Arr)) (a1:BA) (K0:Int→Option (Int)) : Nat→Int→Int→Option (Int)
 | 0,_,_=>none
 | k+1,s2,s3=>(if s3<((List.length a0:Nat):Int) then ((rd? a0 s3).bind fun x4=>((a1.g x4).bind fun x5=>(if x5=true then (some (s3)) else (As a0 a1 K0 k s2 (w64 (s3+1)))))) else (K0 s2))
def AY (a0:(List Arr)) (a1:BA) : Option (Int):=(jn (fun (z1:Int)=>(some ((-1)))) fun K0=>(As a0 a1 K0 AQ 0 0))
theorem De {a0:(List Arr)} {a1:BA} (oa1:Iy a1) {r:Int} (h:AY a0 a1=some r) :
  Fn Tryz.prog 121 [.sl (Ars a0),a1.dv] (.d (.i .i64 r)):=by
 unfold AY at h
 refine Fn.o1 4 19 Tryz.func121 ?_;refine .sr ?_;refine ar [0,1,4] ?_;refine .seq ?_;refine .sr ?_;refine vk (Aa) ?_;refine vk (A2 (Bb _) (DA _) Dz) ?_;refine vk (Aa) ?_;refine rk [0,1,4,7,8] ?_
 obtain ⟨K0,hK0,h⟩:=AZ h
 refine AW.mr (σ:=Int) (fun p=>K0 p=some r) (fun p=>[(4,.d (.i .i64 p))]) (fun p=>[]) ?_ ?_
 ·skip
  refine .block ?_
  refine .loop (.gk [0,1,4,7,8] ?_)
  refine AL.ind (σ:=Nat×Int×Int) (m:=fun p=>p.1) (e:=fun p=>[(0,.d (.sl (Ars a0))),(1,.d (a1.dv)),(4,.d (.i .i64 p.2.1)),(7,.d (.i .i64 ((List.length a0:Nat):Int))),(8,.d (.i .i64 p.2.2))]) (h:=fun p=>[]) (I:=fun p=>As a0 a1 K0 p.1 p.2.1 p.2.2=some r) ?_ (AQ,0,0) h
  rintro ⟨k,s2,s3⟩ h ih
  dsimp only at h ih ⊢
  rcases k with _|k
  ·rw [As] at h;cases h
  rw [As] at h
  refine .sr ?_;refine vk (vbi) ?_;refine rk [0,1,4,7,8,9] ?_;refine .seq ?_
  rcases brc h with ⟨hc,h⟩|⟨hc,h⟩
  ·refine cnt (dT hc) ?_
   refine .skip ?_
   show AW _ _ _ _ _ _
   refine .seq ?_;refine .block ?_;refine .sr ?_;refine vk (Aa) ?_;refine ar [0,1,4,5,7,8] ?_;refine .sr ?_;refine vk (Aa) ?_;refine vk (Aa) ?_;refine vk (Aa) ?_
   obtain ⟨x4,g4,h⟩:=bnd h
   obtain ⟨n4,p04,q4⟩:=Aj g4
   refine vk (vix n4 p04 (En q4) rfl Ev) ?_;refine vk (AE Ad Ac) ?_
   obtain ⟨x5,g5,h⟩:=bnd h
   refine vk (NJ (oa1 _ _ g5)) ?_;refine rk [0,1,4,5,7,8,16] ?_
   rcases brc h with ⟨hc,h⟩|⟨hc,h⟩
   ·refine cnt hc ?_
    refine .sr ?_;refine vk (Aa) ?_;refine ar [0,1,4,7,8] ?_;refine .ret ?_
    cases h
    exact ⟨rfl,rfl⟩
   refine cnf (bf hc) ?_;refine .skip ?_
   show AW _ _ _ _ _ _
   refine .region ?_;refine vk (vbi) ?_;refine vk (Aa) ?_;refine .nil ?_;refine AL.gk [0,1,4,7,8] ?_
   exact ih (k,s2,(w64 (s3+1))) h (Nat.lt_succ_self _)
  refine cnf (dF hc) ?_;refine .gk [4] ?_;refine .exit ?_
  exact jr (s2) h
 rintro z1 h
 try dsimp only at h ⊢
 subst hK0
 show AW _ _ _ _ _ _
 refine .sr ?_;refine ar [4] ?_;refine .ret ?_
 cases h
 exact ⟨rfl,rfl⟩
def Au (a0:(List Arr)) (a1:BA) : Option (Bool):=((AY a0 a1).bind fun x1=>(some ((decide (0≤x1)))))
theorem BB {a0:(List Arr)} {a1:BA} (oa1:Iy a1) {r:Bool} (h:Au a0 a1=some r) :
  Fn Tryz.prog 71 [.sl (Ars a0),a1.dv] (.d (.b r)):=by
 unfold Au at h
 refine Fn.o1 4 9 Tryz.func71 ?_;refine .sr ?_;refine ar [0,1,4] ?_;refine .sr ?_;refine vk (Aa) ?_;refine vk (Aa) ?_
 obtain ⟨x1,g1,h⟩:=bnd h
 refine vk (Aq (De oa1 g1) Tryz.call121) ?_;refine vk (vbi) ?_;refine ar [4] ?_;refine .ret ?_
 cases h
 exact ⟨rfl,rfl⟩
def CF (a0:Arr) : Option (Bool):=((Ba a0).bind fun x1=>(some ((!x1))))
theorem FS {a0:Arr} {r:Bool} (h:CF a0=some r) :
  Fn Tryz.prog 72 [.ag [.sl (Is a0.shape),.sl (Its a0.items)]] (.d (.b r)):=by
 unfold CF at h
 refine Fn.o1 2 6 Tryz.func72 ?_;refine .sr ?_;refine vk (vbx) ?_;refine ar [1,2] ?_;refine .sr ?_;refine vk (AE Ad Ac) ?_
 obtain ⟨x1,g1,h⟩:=bnd h
 refine vk (Aq (BC g1) Tryz.call15) ?_;refine vk (vnt) ?_;refine ar [2] ?_;refine .ret ?_
 cases h
 exact ⟨rfl,rfl⟩
def Dg (a0:(Int×RT×Int)) (a1:(List Arr)) : Option (Bool):=(Option.bind ((if a0.1=0 then ((Au a1 (⟨.fn 72 [] [],fun x=>CF x⟩ : BA)).bind fun x2=>(some (!x2))) else (if a0.1=1 then ((Au a1 (⟨.fn 72 [] [],fun x=>CF x⟩ : BA)).bind fun x3=>(some (!x3))) else (some false))) : Option (Bool)) fun (z1:Bool)=>(some (z1)))
theorem GT {a0:(Int×RT×Int)} {a1:(List Arr)} {r:Bool} (h:Dg a0 a1=some r) :
  Fn Tryz.prog 34 [.ag [.i .i64 a0.1,.b a0.2.1.1,.sl (L a0.2.1.2.1),.sl (L a0.2.1.2.2),.i .i64 a0.2.2],.sl (Ars a1)] (.d (.b r)):=by
 unfold Dg at h
 refine Fn.o1 4 18 Tryz.func34 ?_;refine .sr ?_;refine vk (vbx) ?_;refine ar [1,2,4] ?_;refine .seq ?_
 obtain ⟨z1,hz,h⟩:=bnd h
 refine AW.mr (σ:=Unit) (fun _=>True) (fun _=>[(4,.d (.b z1))]) (fun _=>[]) ?_ ?_
 ·skip
  refine .region ?_;refine vk (vfa PN) ?_;refine vk (Ah AD) ?_;refine vk (vbi) ?_
  rcases brc hz with ⟨hc,hz⟩|⟨hc,hz⟩
  ·have hb0:(decide (a0.1=0))=true:=(dT hc)
   refine vk (VOK.lit (Aa) hb0) ?_;refine gf ?_;refine gf ?_;refine gf ?_;refine vk (Af) ?_;refine vk (Aa) ?_;refine vk (Aa) ?_
   obtain ⟨x2,g2,hz⟩:=bnd hz
   refine vk (Aq (BB (Ek Tryz.call72 (fun _ _ h=>FS h)) g2) Tryz.call71) ?_;refine vk (vnt) ?_;refine vk (Af) ?_;refine asd ?_;refine RL.gk [4] ?_;refine .nil ?_
   cases hz
   exact jr () trivial
  have hb0:(decide (a0.1=0))=false:=(dF hc)
  refine vk (VOK.lit (Aa) hb0) ?_;refine vk (vfa PN) ?_;refine vk (Ah AD) ?_;refine vk (vbi) ?_;refine vk (Af) ?_
  rcases brc hz with ⟨hc,hz⟩|⟨hc,hz⟩
  ·have hb1:(decide (a0.1=1))=true:=(dT hc)
   refine vk (VOK.lit (Aa) hb1) ?_;refine vk (Aa) ?_
   obtain ⟨x3,g3,hz⟩:=bnd hz
   refine vk (Aq (BB (Ek Tryz.call72 (fun _ _ h=>FS h)) g3) Tryz.call71) ?_;refine vk (vnt) ?_;refine vk (Af) ?_;refine asd ?_;refine RL.gk [4] ?_;refine .nil ?_
   cases hz
   exact jr () trivial
  have hb1:(decide (a0.1=1))=false:=(dF hc)
  refine vk (VOK.lit (Aa) hb1) ?_;refine gf ?_;refine gf ?_;refine gf ?_;refine vk (Af) ?_;refine asd ?_;refine RL.gk [4] ?_;refine .nil ?_
  cases hz
  exact jr () trivial
 rintro _ _
 refine .ret ?_
 cases h
 exact ⟨rfl,rfl⟩
theorem Eu : Tryz.prog.underlying 85=some (.map 21 84):=by kernel_rfl
theorem Q7 : ∀ w,(zeroValue 84).run Tryz.prog w=.ok .nilFunc w:=Am (by kernel_rfl)
def PA : List (Int×DV):=[(9076,.fn 91 [] []),(44,.fn 92 [] []),(9021,.fn 93 [] []),(8854,.fn 95 [] []),(9033,.fn 96 [] [])]
theorem Rd : Fn Tryz.prog 50 [] (.d (.mp (PA.map fun p=>.i .i32 p.1) (PA.map (·.2)))):=by
 refine Fn.o1 0 3 Tryz.func50 ?_;refine .sr ?_;refine asu ?_;refine rn ?_;refine .sr ?_;refine vk (VF) ?_;refine I7 Eu gkR freshK.nil ?_;refine I7 Eu gkR (freshK.snoc (z:=44) (z':=9076) freshK.nil (by decide)) ?_;refine I7 Eu gkR (freshK.snoc (z:=9021) (z':=44) (freshK.snoc (z:=9021) (z':=9076) freshK.nil (by decide)) (by decide)) ?_;refine I7 Eu gkR (freshK.snoc (z:=8854) (z':=9021) (freshK.snoc (z:=8854) (z':=44) (freshK.snoc (z:=8854) (z':=9076) freshK.nil (by decide)) (by decide)) (by decide)) ?_;refine I7 Eu gkR (freshK.snoc (z:=9033) (z':=8854) (freshK.snoc (z:=9033) (z':=9021) (freshK.snoc (z:=9033) (z':=44) (freshK.snoc (z:=9033) (z':=9076) freshK.nil (by decide)) (by decide)) (by decide)) (by decide)) ?_;refine RL.gh (Gh.omf (t:=1) rfl) ?_;refine RL.gk [1] ?_;refine vk (Aa) ?_;refine asd ?_;refine rn ?_;refine .ret ?_
 exact ⟨rfl,rfl⟩
def GA : List (Int×D9):=[(9076,⟨.fn 91 [] [],fun _=>none⟩),(44,⟨.fn 92 [] [],fun x=>GG x⟩),(9021,⟨.fn 93 [] [],fun x=>Ge x⟩),(8854,⟨.fn 95 [] [],fun x=>Gl x⟩),(9033,⟨.fn 96 [] [],fun x=>GI x⟩)]
theorem OF : (GA.map (·.1)).Nodup:=by show List.Nodup [(9076:Int),(44:Int),(9021:Int),(8854:Int),(9033:Int)];decide
theorem Nw : ∀ p∈GA,Fp p.2∧isF p.2.dv:=by
 intro p hp
 simp only [GA,List.mem_cons,List.not_mem_nil,or_false] at hp
 rcases hp with rfl|rfl|rfl|rfl|rfl
 ·exact ⟨Ek Tryz.call91 (fun _ _ h=>nomatch h),_,_,_,rfl⟩
 ·exact ⟨Ek Tryz.call92 (fun _ _ h=>Ke h),_,_,_,rfl⟩
 ·exact ⟨Ek Tryz.call93 (fun _ _ h=>J7 h),_,_,_,rfl⟩
 ·exact ⟨Ek Tryz.call95 (fun _ _ h=>Ka h),_,_,_,rfl⟩
 ·exact ⟨Ek Tryz.call96 (fun _ _ h=>J1 h),_,_,_,rfl⟩
theorem Pc {z:Int} {f:D9} (h:GO GA z=some f) : Fp f∧isF f.dv:=Nw _ (Kk h)
theorem Ou : Fn Tryz.prog 50 [] (.d (TW .i32 GA)):=Rd
def FI (a0:(Int×RT×Int)) (a1:Int) (a2:Arr) : Option (Arr×Int):=(UT (GO GA a1) (some ((Arr.mk [] []),23)) fun f1=>((Dg a0 ([a2])).bind fun x2=>(if x2=true then ((f1.g a2).bind fun x3=>(some (x3.1,x3.2))) else (some ((Arr.mk [] []),22)))))
theorem Jh {a0:(Int×RT×Int)} {a1:Int} {a2:Arr} {r:Arr×Int} (h:FI a0 a1 a2=some r) :
  Fn Tryz.prog 17 [.ag [.i .i64 a0.1,.b a0.2.1.1,.sl (L a0.2.1.2.1),.sl (L a0.2.1.2.2),.i .i64 a0.2.2],.i .i32 a1,.ag [.sl (Is a2.shape),.sl (Its a2.items)]] (.tup [.d (.ag [.sl (Is r.1.shape),.sl (Its r.1.items)]),.d (.i .i64 r.2)]):=by
 unfold FI at h
 refine Fn.ofC (rs:=[.cell 6 27,.tmp 7]) (nt:=28) Tryz.func17 rfl rfl rfl (by simp) rfl ?_;refine .sr ?_;refine vk (vbx) ?_;refine vk (vbx) ?_;refine vk (van (Am AB) AJ) ?_;refine ar [1,3,5,6,7] ?_;refine .sr ?_;refine vk (Aq Ou Tryz.call50) ?_;refine vk (Aa) ?_
 rcases hmf1:(GO GA a1) with _|f1
 ·replace h:=UL hmf1 h
  refine vk (VQ Eu gkR Q7 hmf1) ?_;refine ar [3,5,6,7,8] ?_;refine .seq ?_;refine .block ?_;refine .sr ?_;refine vk (Aa) ?_;refine vk (Wf Eh) ?_;refine ar [3,5,6,7,8,12] ?_;refine BF ?_;refine .sr ?_;refine vk (vbd CG AB AJ) ?_
  refine stn ?_ Ac (by decide)
  refine ar [5,6,7,8] ?_;refine .ret ?_
  cases h
  exact ⟨_,_,⟨.inr rfl,Ad,Ac,p2⟩,rfl,rfl⟩
 replace h:=UF hmf1 h
 obtain ⟨of1,isf1⟩:=Pc hmf1
 refine vk (Uc OF Eu gkR hmf1) ?_;refine ar [3,5,6,7,8] ?_;refine .seq ?_;refine .block ?_;refine .sr ?_;refine vk (Aa) ?_;refine vk (Wa Eh isf1) ?_;refine ar [3,5,6,7,8,12] ?_;refine BD ?_;refine .sr ?_;refine vk (AE PH Nn) ?_;refine vk (AE Ad Ac) ?_;refine vk ((ET (Kj a2) (G8 [a2]) Ih).deep) ?_
 obtain ⟨x2,g2,h⟩:=bnd h
 refine vk (Aq (GT g2) Tryz.call34) ?_;refine vk (vnt) ?_;refine ar [5,6,7,8,16] ?_
 rcases brc h with ⟨hc,h⟩|⟨hc,h⟩
 ·refine cnf (ntf hc) ?_
  refine .skip ?_
  show AW _ _ _ _ _ _
  refine .sr ?_;refine vk (Aa) ?_;refine vk (AE Ad Ac) ?_
  obtain ⟨x3,g3,h⟩:=bnd h
  refine vk (VOK.tupd (vs:=[.ag [.sl (Is x3.1.shape),.sl (Its x3.1.items)],.i .i64 x3.2]) (NJ (of1 _ _ g3))) ?_;refine vk (vex) ?_;refine vk (vex) ?_
  refine stn ?_ Ac (by decide)
  refine ar [6,7] ?_;refine .ret ?_
  cases h
  exact ⟨_,_,⟨.inr rfl,Ad,Ac,p2⟩,rfl,rfl⟩
 refine cnt (ntt (bf hc)) ?_;refine .sr ?_;refine vk (vbd CG AB AJ) ?_
 refine stn ?_ Ac (by decide)
 refine ar [5,6,7,8] ?_;refine .ret ?_
 cases h
 exact ⟨_,_,⟨.inr rfl,Ad,Ac,p2⟩,rfl,rfl⟩
theorem KT {s:List Int} (h:(szP s).2=0) : (∀ x∈s,0≤x∧x≤4096)∧s.length≤8:=by
 unfold szP at h
 split at h
 ·exact absurd h (by decide)
 split at h
 ·exact absurd h (by decide)
 split at h
 ·exact absurd h (by decide)
 rename_i h8 hneg hbig
 refine ⟨fun x hx=>?_,by omega⟩
 simp only [List.any_eq_true,decide_eq_true_eq,not_exists,not_and] at hneg hbig
 have a:=hneg x hx
 have b:=hbig x hx
 omega
theorem Oy {b:Arr} {s:List Int} {n:Nat} (rb:AT b) (hs:b.shape=s) (hsz:szP s=((n:Int),0)) : b.items.length=if n=0 then 1 else n:=by
 obtain ⟨m,hm,hl⟩:=KL rb
 rw [hs,hsz] at hm
 have:n=m:=by
  have:=congrArg Prod.fst hm
  simp only at this
  omega
 rw [this];exact hl
theorem Sq {s:List Int} {ax:Nat} (hax:ax<s.length) {z:Int} (h:s[ax]=z) : s.set ax z=s:=by rw [← h];exact List.set_getElem_self hax
end Go.FL
namespace Go.FL
open Go Go.RowKit
section
variable {P:Program} {C:Cx} {o:Oper} {ops:Array Oper} {Q:Exit→Env→Ae→Prop} {env:Env} {H:Ae} {k:Nat} {l:List Oper}
theorem Vt {x:Operand} {src dst:Nat} {q:IntKind} {n:Int} (hs:(P.underlying src).isSome=true) (hd:P.underlying dst=some .string) (ho:o.op=.convert src dst x:=by rfl) (hv:lk env x=.d (.i q n):=by rfl) : VOK P C o env H (.d (.s (Utf8.encode n))):=by
 obtain ⟨h1,h2⟩:=Ar hv (by simp)
 refine .pv ⟨by simp [ho],fun X a w I μ O _ hs'=>⟨.string (Utf8.encode n),?_,.of_rep (.s _)⟩⟩
 have e1:=hs'.look_i h1 h2
 have:=run_convert_int_string (P:=P) w src dst q n hs hd
 simp only [execOp,ho,e1,Sem.run_bind,this,Result.andThen_ok,Sem.run_pure]
theorem VJ {x y:Operand} {ty:Nat} {s:ByteArray} {q:IntKind} {z:Int} (n:Nat) (hn:z=n∧n≤s.size) (hty:P.underlying ty=some .string) (ho:o.op=.slice ty x (some y) none none:=by rfl) (hv:lk env x=.d (.s s):=by rfl) (hi:lk env y=.d (.i q z):=by rfl) :
  VOK P C o env H (.d (.s (s.extract n s.size))):=by
 obtain ⟨rfl,hl⟩:=hn
 obtain ⟨h1,h2⟩:=Ar hv (by simp)
 obtain ⟨h3,h4⟩:=Ar hi (by simp)
 refine .pv ⟨by simp [ho],fun X a w I μ O _ hs=>⟨.string (s.extract n s.size),?_,.of_rep (.s _)⟩⟩
 have e1:=hs.look_s h1 h2
 have e2:=hs.look_i h3 h4
 have:=run_slice_string_l (P:=P) w ty s hty q (n:Int) (by omega) (by omega)
 rw [Int.toNat_natCast] at this
 simp only [execOp,ho,e1,Option.map_none,Option.map_some,e2,Instr.sliceAt,Sem.run_bind,run_underlying hty,this,Result.andThen_ok,Sem.run_pure]
theorem V4 {c:Call} {fo:Operand} {f:FuncId} {s:ByteArray} {b z:Int} (he:∀ w,(callFunc f #[.string s,.int .u8 b]).run P w=.ok (.value (.int .i64 z)) w) (ho:o.op=.call c:=by rfl) (hc:c.callee=.value fo:=by rfl) (hf:lk env fo=.d (.fn f [] []):=by rfl)
  (ha:argsD env c.args.toList=some [.s s,.i .u8 b]:=by rfl):VOK P C o env H (.d (.i .i64 z)):=by
 refine .pv ⟨by simp [ho],fun X a w I μ O _ hs=>⟨.int .i64 z,?_,.of_rep (.i _ _)⟩⟩
 have hfr:=hs.deep (x:=fo) (v:=.fn f [] []) (by rw [hf];rfl)
 generalize hev:a.eval fo=u at hfr
 cases hfr with
 | fn _ _ _ fs cs hfs hcs =>
  cases hfs
  cases hcs
  have hres:=BY (P:=P) (w:=w) (ρ:=a.eval) (ty:=o.type) hc hev
  have h:=hs.argsD ha
  have e:c.args.map a.eval=#[.string s,.int .u8 b]:=by
   apply Array.ext'
   rw [Array.toList_map]
   generalize c.args.toList.map a.eval=l at h
   cases h with
   | cons h1 h2 =>
    cases h1
    cases h2 with
    | cons h3 h4=>cases h3;cases h4;rfl
  have he':=he w
  rw [← e] at he'
  simp only [execOp,ho,Sem.run_bind,hres,Result.andThen_ok,invoke,List.toArray,Array.append_empty,Array.empty_append,he']
end
def noG (Q:Exit→Env→Ae→Prop) : Exit→Env→Ae→Prop
 | .goto _,_,_=>False
 | e,env,H=>Q e env H
section
variable {P:Program} {b:Frame} {a:Act} {k:List Item} {cs:List Frame} {w:World}
theorem FK {c:Code} : step P (lone (b.atR a (.code (.scope c)::k)) cs w)=.next (lone (b.atR a (.code c::.inScope c::k)) cs w) :=
 step_lone_go (by simp [stepG,stepG.exec,Frame.atR])
theorem Rk {c:Code} : step P (lone (b.atR a (.inScope c::k)) cs w)=.next (lone (b.atR a k) cs w) :=
 step_lone_go (by simp [stepG,stepG.exec,Frame.atR])
end
theorem AW.scope {P:Program} {C:Cx} {c:Code} {Q:Exit→Env→Ae→Prop} {env:Env} {H:Ae} (h:AW P C c (noG Q) env H) : AW P C (.scope c) Q env H:=by
 intro X a w I μ O h1 h2 h3 hs b k cs hro hb hr
 have h0:(lone (b.atR a (.code (.scope c)::k)) cs w).fenced P (om C.ro):=fenced_calm hb hr rfl
 obtain ⟨e,a₁,w₁,hq,harr⟩:=h X a w I μ O h1 h2 h3 hs b (.inScope c::k) cs hro hb hr
 obtain ⟨env',H',I',μ',O',s,q⟩:=hq
 cases e with
 | normal=>exact ⟨.normal,a₁,w₁,⟨env',H',I',μ',O',s,q⟩,.head h0 FK (StepsIn.trans harr (.one (fenced_calm hb hr rfl) Rk))⟩
 | exit id =>
  have hx:exitTo id (.inScope c::k)=exitTo id k:=by simp [exitTo]
  exact ⟨.exit id,a₁,w₁,⟨env',H',I',μ',O',s,q⟩,fun k' hk=>.head h0 FK (harr.1 k' (by rw [hx];exact hk)),
   fun hr' hk=>let ⟨k₁,h1,h2⟩:=harr.2 hr' (by rw [hx];exact hk);⟨k₁,h1,.head h0 FK h2⟩⟩
 | goto l=>exact q.elim
 | ret=>exact ⟨_,a₁,w₁,⟨env',H',I',μ',O',s,q⟩,.of_steps (.one h0 FK) harr⟩
 | panic ch=>exact ⟨_,a₁,w₁,⟨env',H',I',μ',O',s,q⟩,.of_steps (.one h0 FK) harr⟩
 | outgrown=>exact ⟨_,a₁,w₁,⟨env',H',I',μ',O',s,q⟩,.of_steps (.one h0 FK) harr⟩
end Go.FL
namespace Go.FL
open Go Go.Proofs Go.RowKit
theorem stS : Tryz.prog.underlying 9=some .string:=by kernel_rfl
theorem Ux (s:ByteArray) (b:Int) (w:World) : (callFunc 180 #[.string s,.int .u8 b]).run Tryz.prog w=.ok (.value (.int .i64 (Lib.indexByte s.data.toList b.toNat.toUInt8))) w:=by
 rw [run_callFunc_extern Tryz.func180 (by kernel_rfl) (by kernel_rfl) (by kernel_rfl) (e:=Extern.BytealgIndexByte.indexByte) (by kernel_rfl),Lib.run_indexByteString]
 rfl
def H8 (s:ByteArray) (b:Int) : Int:=Lib.indexByte s.data.toList b.toNat.toUInt8
theorem Nq (s:ByteArray) (b:Int) : Fn Tryz.prog 169 [.s s,.i .u8 b] (.d (.i .i64 (H8 s b))):=by
 refine Fn.of (rs:=[.tmp 4]) (nt:=8) Tryz.func169 rfl rfl rfl (by simp) rfl ?_;refine .seq ?_;refine .region ?_;refine asd ?_;refine rn ?_;refine .seq ?_;refine .region ?_;refine vk (Aa) ?_;refine vk (Aa) ?_;refine vk (V4 (Ux s b)) ?_;refine asd ?_;refine rn ?_;refine .ret ?_
 exact ⟨rfl,rfl⟩
theorem I6 (s:ByteArray) (b:Int) : Fn Tryz.prog 139 [.s s,.i .u8 b] (.d (.i .i64 (H8 s b))):=by
 refine Fn.of (rs:=[.tmp 4]) (nt:=8) Tryz.func139 rfl rfl rfl (by simp) rfl ?_;refine .seq ?_;refine .region ?_;refine asd ?_;refine rn ?_;refine .seq ?_;refine .region ?_;refine vk (Aa) ?_;refine vk (Aa) ?_;refine vk (Aq (Nq s b) Tryz.call169) ?_;refine asd ?_;refine rn ?_;refine .ret ?_
 exact ⟨rfl,rfl⟩
def CQ (a0:Int) : Option (Bool):=(if ((decide (0≤a0))&&(decide (a0<55296)))=true then (some (true)) else (if ((decide (57343<a0))&&(decide (a0≤1114111)))=true then (some (true)) else (some (false))))
theorem Fx {a0:Int} {r:Bool} (h:CQ a0=some r) :
  Fn Tryz.prog 140 [.i .i32 a0] (.d (.b r)):=by
 unfold CQ at h
 refine Fn.of (rs:=[.tmp 2]) (nt:=17) Tryz.func140 rfl rfl rfl (by simp) rfl ?_;refine .seq ?_;refine .region ?_;refine asd ?_;refine rn ?_;refine .gh (Gh.keep [0,2] rfl) ?_;refine .seq ?_;refine .block ?_;refine .seq ?_;refine AW.mr (σ:=Unit) (fun _=>True) (fun _=>[(0,.d (.i .i32 a0)),(2,.d (.b false)),(3,.d (.b ((decide (0≤a0))&&(decide (a0<55296)))))]) (fun _=>[]) ?_ ?_
 ·skip
  refine .region ?_;refine vk (Aa) ?_;refine vk (vbi) ?_
  by_cases hc:0≤a0
  ·have hb0:(decide (0≤a0))=true:=(dT hc)
   refine vk (VOK.lit (Aa) hb0) ?_;refine vk (Aa) ?_;refine vk (vbi) ?_;refine vk (Af) ?_;refine asd ?_;refine RL.gh (Gh.keep [0,2,3] rfl) ?_;refine .nil ?_
   exact jr () trivial (by simp only [hb0];rfl)
  have hb0:(decide (0≤a0))=false:=(dF hc)
  refine vk (VOK.lit (Aa) hb0) ?_;refine gf ?_;refine gf ?_;refine vk (Af) ?_;refine asd ?_;refine RL.gh (Gh.keep [0,2,3] rfl) ?_;refine .nil ?_
  exact jr () trivial (by simp only [hb0];rfl)
 rintro _ _
 by_cases hc:((decide (0≤a0))&&(decide (a0<55296)))=true
 ·replace h:=RZ hc h
  refine cnt hc ?_;refine .seq ?_;refine .region ?_;refine asd ?_;refine rn ?_;refine .gh (Gh.keep [2] rfl) ?_;refine .ret ?_
  cases h
  exact ⟨rfl,rfl⟩
 replace h:=Sa hc h
 refine cnf (bf hc) ?_;refine .seq ?_;refine AW.mr (σ:=Unit) (fun _=>True) (fun _=>[(2,.d (.b false)),(10,.d (.b ((decide (57343<a0))&&(decide (a0≤1114111)))))]) (fun _=>[]) ?_ ?_
 ·skip
  refine .region ?_;refine vk (Aa) ?_;refine vk (vbi) ?_
  by_cases hc:57343<a0
  ·have hb0:(decide (57343<a0))=true:=(dT hc)
   refine vk (VOK.lit (Aa) hb0) ?_;refine vk (Aa) ?_;refine vk (vbi) ?_;refine vk (Af) ?_;refine asd ?_;refine RL.gh (Gh.keep [2,10] rfl) ?_;refine .nil ?_
   exact jr () trivial (by simp only [hb0];rfl)
  have hb0:(decide (57343<a0))=false:=(dF hc)
  refine vk (VOK.lit (Aa) hb0) ?_;refine gf ?_;refine gf ?_;refine vk (Af) ?_;refine asd ?_;refine RL.gh (Gh.keep [2,10] rfl) ?_;refine .nil ?_
  exact jr () trivial (by simp only [hb0];rfl)
 rintro _ _
 by_cases hc:((decide (57343<a0))&&(decide (a0≤1114111)))=true
 ·replace h:=RZ hc h
  refine cnt hc ?_;refine .seq ?_;refine .region ?_;refine asd ?_;refine rn ?_;refine .gh (Gh.keep [2] rfl) ?_;refine .ret ?_
  cases h
  exact ⟨rfl,rfl⟩
 replace h:=Sa hc h
 refine cnf (bf hc) ?_;refine .skip ?_
 show AW _ _ _ _ _ _
 refine .seq ?_;refine .region ?_;refine asd ?_;refine rn ?_;refine .gh (Gh.keep [2] rfl) ?_;refine .ret ?_
 cases h
 exact ⟨rfl,rfl⟩
theorem NI (s:ByteArray) (r:Int) (h0:0≤r) (h1:r<128) : Fn Tryz.prog 85 [.s s,.i .i32 r] (.d (.i .i64 (H8 s r))):=by
 refine Fn.of (rs:=[.tmp 4]) (nt:=187) Tryz.func85 rfl rfl rfl (by simp) rfl ?_;refine .seq ?_;refine .region ?_;refine asd ?_;refine rn ?_;refine .gh (Gh.keep [0,1,4] rfl) ?_;refine .block ?_;refine .seq ?_;refine .region ?_;refine vk (Aa) ?_;refine vk (vbi) ?_
 have hb0:(decide (0≤r))=true:=dT h0
 refine vk (VOK.lit (Aa) hb0) ?_;refine vk (Aa) ?_;refine vk (vbi) ?_;refine vk (Af) ?_;refine asd ?_;refine rn ?_;refine .gh (Gh.keep [0,1,4,160] rfl) ?_;refine cnt (dT h1) ?_;refine .seq ?_;refine .region ?_;refine vk (Aa) ?_;refine vk (Aa) ?_
 have hw:IntKind.u8.wrap r=r:=by
  simp only [IntKind.wrap,IntKind.bits,IntKind.signed]
  simp
  omega
 refine vk (Rm (q1:=.i32) r hw (by kernel_rfl) (by kernel_rfl)) ?_;refine vk (Aq (I6 s r) Tryz.call139) ?_;refine asd ?_;refine rn ?_;refine .ret ?_
 exact ⟨rfl,rfl⟩
theorem JO (s:ByteArray) (r:Int) {x0 x1 x2 y2 p:Nat} (h0:2048≤r) (h1:r<55296) (he:F8 (Utf8.encode r)=[x0,x1,x2]) (hs:s.size≤1000) (h2:(F8 s)[2]?=some y2)
  (hc:(y2=x2∧p=2)∨(y2≠x2∧3≤p∧H8 (s.extract 3 s.size) x2=(p:Int)-3)) (hp1:(F8 s)[p-1]?=some x1) (hp0:(F8 s)[p-2]?=some x0) (hp:p<s.size) :
  Fn Tryz.prog 85 [.s s,.i .i32 r] (.d (.i .i64 ((p:Int)-2))):=by
 have hes:(Utf8.encode r).size=3:=by rw [← ER,he];rfl
 have hsub:DV.i .i64 (IntKind.i64.wrap (((Utf8.encode r).size:Int)-1))=.i .i64 2:=by rw [hes];rfl
 have hv:CQ r=some true:=by
  unfold CQ
  rw [dT (show (0:Int)≤r by omega),dT h1];rfl
 have h3:3≤s.size:=by
  have:=(lS.1 h2).1
  rw [ER] at this;omega
 refine Fn.of (rs:=[.tmp 4]) (nt:=187) Tryz.func85 rfl rfl rfl (by simp) rfl ?_;refine .seq ?_;refine .region ?_;refine asd ?_;refine rn ?_;refine .gh (Gh.keep [0,1,4] rfl) ?_;refine .block ?_;refine .seq ?_;refine .region ?_;refine vk (Aa) ?_;refine vk (vbi) ?_
 have hb0:(decide (0≤r))=true:=dT (by omega)
 refine vk (VOK.lit (Aa) hb0) ?_;refine vk (Aa) ?_;refine vk (vbi) ?_;refine vk (Af) ?_;refine asd ?_;refine rn ?_;refine .gh (Gh.keep [0,1,4,160] rfl) ?_;refine cnf (show decide (r<128)=false from dF (by omega)) ?_;refine .seq ?_;refine .region ?_;refine vk (Aa) ?_;refine vk (vbi) ?_;refine asd ?_;refine rn ?_;refine .gh (Gh.keep [0,1,4,171] rfl) ?_;refine cnf (show decide (r=65533)=false from dF (by omega)) ?_;refine .seq ?_;refine .region ?_;refine vk (Aa) ?_;refine vk (Aq (Fx hv) Tryz.call140) ?_;refine vk (vnt) ?_;refine asd ?_;refine rn ?_;refine .gh (Gh.keep [0,1,4,183] rfl) ?_;refine BD ?_;refine .scope ?_;refine .seq ?_;refine .region ?_;refine vk (Aa) ?_;refine vk (Vt (by kernel_rfl) stS) ?_;refine asd ?_;refine rn ?_;refine .gh (Gh.keep [0,1,4,7] rfl) ?_;refine .seq ?_;refine .region ?_;refine vk (Aa) ?_;refine vk (SF stS) ?_;refine vk (LM (.i .i64 2) ⟨trivial,hsub⟩) ?_;refine asd ?_;refine rn ?_;refine .gh (Gh.keep [0,1,4,7,8] rfl) ?_;refine .seq ?_;refine .region ?_;refine vk (Aa) ?_;refine asd ?_;refine rn ?_;refine .gh (Gh.keep [0,1,4,7,8,9] rfl) ?_;refine .seq ?_;refine .region ?_;refine asd ?_;refine rn ?_;refine .gh (Gh.keep [0,1,4,7,8,9,10] rfl) ?_;refine .seq ?_;refine .block ?_
 refine .loop (.round ?_)
 refine .seq ?_;refine .seq ?_;refine .region ?_;refine vk (Aa) ?_;refine vk (Aa) ?_;refine vk (SF stS) ?_;refine vk (vbi) ?_;refine rn ?_;refine .gh (Gh.keep [0,1,4,7,8,9,10,26] rfl) ?_;refine cnt (show decide ((2:Int)<((s.size:Nat):Int))=true from dT (by omega)) ?_;refine .skip ?_
 show AW _ _ _ _ _ _
 refine .block ?_;refine .scope ?_;refine .seq ?_;refine .seq ?_;refine .drawn 7 Bh (by kernel_rfl) ?_;refine dv (Aa) ?_;refine dv (Aa) ?_;refine dv (NN 2 y2 rfl h2 stS) ?_;refine dv (Aa) ?_;refine dv (Aa) ?_;refine dv (NN 2 x2 rfl (by rw [he];rfl) stS) ?_;refine dv (vbi) ?_;refine dz ?_;refine rn ?_;refine .gh (Gh.keep [0,1,4,7,8,9,10,33] rfl) ?_;refine AW.mr (σ:=Unit) (fun _=>True) (fun _=>[(0,.d (.s s)),(1,.d (.i .i32 r)),(4,.d (.i .i64 0)),(7,.d (.s (Utf8.encode r))),(8,.d (.i .i64 2)),(9,.d (.i .i64 (p:Int))),(10,.d (.i .i64 0))]) (fun _=>[]) ?_ ?_
 ·skip
  rcases hc with ⟨hc1,hc2⟩|⟨hc1,hc2,hc3⟩
  ·subst hc2
   refine cnf (ntf (dT (show (y2:Int)=x2 by omega))) ?_;refine .gh (Gh.keep [0,1,4,7,8,9,10] rfl) ?_;refine .skip ?_
   exact jr () trivial rfl
  have hI:=I6 (s.extract 3 s.size) x2
  rw [hc3] at hI
  refine cnt (ntt (dF (show ¬(y2:Int)=x2 by omega))) ?_;refine .seq ?_;refine .drawn 8 Bh (by kernel_rfl) ?_;refine dv (Aa) ?_;refine dv (Aa) ?_;refine dv (vad 3 ⟨rfl,by decide,by decide⟩) ?_;refine dv (VJ 3 ⟨rfl,h3⟩ stS) ?_;refine dv (Aa) ?_;refine dv (Aa) ?_;refine dv (NN 2 x2 rfl (by rw [he];rfl) stS) ?_;refine dv (Aq hI Tryz.call139) ?_;refine dz ?_;refine asd ?_;refine rn ?_;refine .gh (Gh.keep [0,1,4,7,8,9,10,11] rfl) ?_;refine .seq ?_;refine .seq ?_;refine .region ?_;refine vk (Aa) ?_;refine vk (vbi) ?_;refine rn ?_;refine .gh (Gh.keep [0,1,4,7,8,9,10,11,43] rfl) ?_;refine cnf (show decide ((p:Int)-3<0)=false from dF (by omega)) ?_;refine .skip ?_
  show AW _ _ _ _ _ _
  refine .region ?_;refine vk (Aa) ?_;refine vk (Aa) ?_;refine vk (vad (m:=(p:Int)-3) (n:=1) ((p:Int)-2) ⟨by omega,by omega,by omega⟩) ?_;refine vk (vad (m:=2) (n:=(p:Int)-2) (p:Int) ⟨by omega,by omega,by omega⟩) ?_;refine asd ?_;refine RL.gh (Gh.keep [0,1,4,7,8,9,10] rfl) ?_;refine .nil ?_
  exact jr () trivial rfl
 rintro _ _
 refine .seq ?_;refine .seq ?_;refine .region ?_;refine asd ?_;refine rn ?_;refine .gh (Gh.keep [0,1,4,7,8,9,10,12] rfl) ?_;refine .block ?_;refine .loop ?_
 refine AL.ind (σ:=Nat) (m:=fun j=>3-j) (e:=fun j=>[(0,.d (.s s)),(1,.d (.i .i32 r)),(4,.d (.i .i64 0)),(7,.d (.s (Utf8.encode r))),(8,.d (.i .i64 2)),(9,.d (.i .i64 (p:Int))),(10,.d (.i .i64 0)),(12,.d (.i .i64 (j:Int)))]) (h:=fun _=>[]) (I:=fun j=>1≤j∧j≤3) ?_ 1 ⟨by omega,by omega⟩
 rintro j ⟨hj1,hj3⟩ ih
 refine .seq ?_;refine .seq ?_;refine .region ?_;refine vk (Aa) ?_;refine vk (Aa) ?_;refine vk (SF stS) ?_;refine vk (vbi) ?_;refine rn ?_;refine .gh (Gh.keep [0,1,4,7,8,9,10,12,51] rfl) ?_
 by_cases hj:j<3
 ·refine cnt (show decide ((j:Int)<(((Utf8.encode r).size:Nat):Int))=true from dT (by rw [hes];omega)) ?_
  refine .skip ?_
  show AW _ _ _ _ _ _
  obtain ⟨xj,hA,hB⟩:∃ xj,(F8 s)[p-j]?=some xj∧(F8 (Utf8.encode r))[2-j]?=some xj:=by
   have:j=1∨j=2:=by omega
   rw [he]
   rcases this with rfl|rfl
   ·exact ⟨x1,hp1,rfl⟩
   ·exact ⟨x0,hp0,rfl⟩
  have hp2:2≤p:=by rcases hc with ⟨_,q⟩|⟨_,q,_⟩<;>omega
  refine .seq ?_;refine .block ?_;refine .seq ?_;refine .drawn 11 Bh (by kernel_rfl) ?_;refine dv (Aa) ?_;refine dv (Aa) ?_;refine dv (Aa) ?_;refine dv (vsu (m:=(p:Int)) (n:=(j:Int)) (((p-j:Nat)):Int) ⟨by omega,by omega,by omega⟩) ?_;refine dv (NN (p-j) xj rfl hA stS) ?_;refine dv (Aa) ?_;refine dv (Aa) ?_;refine dv (Aa) ?_;refine dv (vsu (m:=2) (n:=(j:Int)) (((2-j:Nat)):Int) ⟨by omega,by omega,by omega⟩) ?_;refine dv (NN (2-j) xj rfl hB stS) ?_;refine dv (vbi) ?_;refine dz ?_;refine rn ?_;refine .gh (Gh.keep [0,1,4,7,8,9,10,12,64] rfl) ?_;refine cnf (ntf (dT (show (xj:Int)=xj from rfl))) ?_;refine .skip ?_
  show AW _ _ _ _ _ _
  refine .region ?_;refine vk (Aa) ?_;refine vk (vad (m:=(j:Int)) (n:=1) ((j+1:Nat):Int) ⟨by omega,by omega,by omega⟩) ?_;refine asd ?_;refine .nil ?_;refine AL.gh (Gh.keep [0,1,4,7,8,9,10,12] rfl) ?_
  exact ih (j+1) ⟨by omega,by omega⟩ (by omega)
 have hp2:2≤p:=by rcases hc with ⟨_,q⟩|⟨_,q,_⟩<;>omega
 refine cnf (show decide ((j:Int)<(((Utf8.encode r).size:Nat):Int))=false from dF (by rw [hes];omega)) ?_;refine .exit ?_
 show AW _ _ _ _ _ _
 refine .seq ?_;refine .seq ?_;refine .region ?_;refine vk (Aa) ?_;refine vk (Aa) ?_;refine vk (vsu (m:=(p:Int)) (n:=2) ((p:Int)-2) ⟨by omega,by omega,by omega⟩) ?_;refine asd ?_;refine rn ?_;refine .gh (Gh.keep [4] rfl) ?_;refine .ret ?_
 exact ⟨rfl,rfl⟩
theorem NX (s:ByteArray) (r:Int) {x0 x1 x2 y2:Nat} (h0:2048≤r) (h1:r<55296) (he:F8 (Utf8.encode r)=[x0,x1,x2]) (hs:s.size≤1000) (h2:(F8 s)[2]?=some y2)
  (hc:y2≠x2) (hz:H8 (s.extract 3 s.size) x2<0):Fn Tryz.prog 85 [.s s,.i .i32 r] (.d (.i .i64 (-1))):=by
 have hes:(Utf8.encode r).size=3:=by rw [← ER,he];rfl
 have hsub:DV.i .i64 (IntKind.i64.wrap (((Utf8.encode r).size:Int)-1))=.i .i64 2:=by rw [hes];rfl
 have hv:CQ r=some true:=by
  unfold CQ
  rw [dT (show (0:Int)≤r by omega),dT h1];rfl
 have h3:3≤s.size:=by
  have:=(lS.1 h2).1
  rw [ER] at this;omega
 refine Fn.of (rs:=[.tmp 4]) (nt:=187) Tryz.func85 rfl rfl rfl (by simp) rfl ?_;refine .seq ?_;refine .region ?_;refine asd ?_;refine rn ?_;refine .gh (Gh.keep [0,1,4] rfl) ?_;refine .block ?_;refine .seq ?_;refine .region ?_;refine vk (Aa) ?_;refine vk (vbi) ?_
 have hb0:(decide (0≤r))=true:=dT (by omega)
 refine vk (VOK.lit (Aa) hb0) ?_;refine vk (Aa) ?_;refine vk (vbi) ?_;refine vk (Af) ?_;refine asd ?_;refine rn ?_;refine .gh (Gh.keep [0,1,4,160] rfl) ?_;refine cnf (show decide (r<128)=false from dF (by omega)) ?_;refine .seq ?_;refine .region ?_;refine vk (Aa) ?_;refine vk (vbi) ?_;refine asd ?_;refine rn ?_;refine .gh (Gh.keep [0,1,4,171] rfl) ?_;refine cnf (show decide (r=65533)=false from dF (by omega)) ?_;refine .seq ?_;refine .region ?_;refine vk (Aa) ?_;refine vk (Aq (Fx hv) Tryz.call140) ?_;refine vk (vnt) ?_;refine asd ?_;refine rn ?_;refine .gh (Gh.keep [0,1,4,183] rfl) ?_;refine BD ?_;refine .scope ?_;refine .seq ?_;refine .region ?_;refine vk (Aa) ?_;refine vk (Vt (by kernel_rfl) stS) ?_;refine asd ?_;refine rn ?_;refine .gh (Gh.keep [0,1,4,7] rfl) ?_;refine .seq ?_;refine .region ?_;refine vk (Aa) ?_;refine vk (SF stS) ?_;refine vk (LM (.i .i64 2) ⟨trivial,hsub⟩) ?_;refine asd ?_;refine rn ?_;refine .gh (Gh.keep [0,1,4,7,8] rfl) ?_;refine .seq ?_;refine .region ?_;refine vk (Aa) ?_;refine asd ?_;refine rn ?_;refine .gh (Gh.keep [0,1,4,7,8,9] rfl) ?_;refine .seq ?_;refine .region ?_;refine asd ?_;refine rn ?_;refine .gh (Gh.keep [0,1,4,7,8,9,10] rfl) ?_;refine .seq ?_;refine .block ?_
 refine .loop (.round ?_)
 refine .seq ?_;refine .seq ?_;refine .region ?_;refine vk (Aa) ?_;refine vk (Aa) ?_;refine vk (SF stS) ?_;refine vk (vbi) ?_;refine rn ?_;refine .gh (Gh.keep [0,1,4,7,8,9,10,26] rfl) ?_;refine cnt (show decide ((2:Int)<((s.size:Nat):Int))=true from dT (by omega)) ?_;refine .skip ?_
 show AW _ _ _ _ _ _
 refine .block ?_;refine .scope ?_;refine .seq ?_;refine .seq ?_;refine .drawn 7 Bh (by kernel_rfl) ?_;refine dv (Aa) ?_;refine dv (Aa) ?_;refine dv (NN 2 y2 rfl h2 stS) ?_;refine dv (Aa) ?_;refine dv (Aa) ?_;refine dv (NN 2 x2 rfl (by rw [he];rfl) stS) ?_;refine dv (vbi) ?_;refine dz ?_;refine rn ?_;refine .gh (Gh.keep [0,1,4,7,8,9,10,33] rfl) ?_
 have hI:=I6 (s.extract 3 s.size) x2
 refine cnt (ntt (dF (show ¬(y2:Int)=x2 by omega))) ?_;refine .seq ?_;refine .drawn 8 Bh (by kernel_rfl) ?_;refine dv (Aa) ?_;refine dv (Aa) ?_;refine dv (vad 3 ⟨rfl,by decide,by decide⟩) ?_;refine dv (VJ 3 ⟨rfl,h3⟩ stS) ?_;refine dv (Aa) ?_;refine dv (Aa) ?_;refine dv (NN 2 x2 rfl (by rw [he];rfl) stS) ?_;refine dv (Aq hI Tryz.call139) ?_;refine dz ?_;refine asd ?_;refine rn ?_;refine .gh (Gh.keep [0,1,4,7,8,9,10,11] rfl) ?_;refine .seq ?_;refine .seq ?_;refine .region ?_;refine vk (Aa) ?_;refine vk (vbi) ?_;refine rn ?_;refine .gh (Gh.keep [0,1,4,7,8,9,10,11,43] rfl) ?_;refine cnt (show decide (H8 (s.extract 3 s.size) x2<0)=true from dT hz) ?_;refine .seq ?_;refine .region ?_;refine asd ?_;refine rn ?_;refine .gh (Gh.keep [4] rfl) ?_;refine .ret ?_
 exact ⟨rfl,rfl⟩
def Ub (s:ByteArray) (r:Int) : List Nat→Option Nat→Option Int
 | [x0,x1,x2],some y2=>if y2=x2 then (if 3≤s.size∧(F8 s)[1]?=some x1∧(F8 s)[0]?=some x0 then some 0 else none)
  else if H8 (s.extract 3 s.size) x2<0 then some (-1)
  else if (F8 s)[(H8 (s.extract 3 s.size) x2).toNat+2]?=some x1∧(F8 s)[(H8 (s.extract 3 s.size) x2).toNat+1]?=some x0∧(H8 (s.extract 3 s.size) x2).toNat+3<s.size then some (H8 (s.extract 3 s.size) x2+1) else none
 | _,_=>none
def PW (s:ByteArray) (r:Int) : Option Int :=
 if s.size≤1000 then (if 0≤r∧r<128 then some (H8 s r) else if 2048≤r∧r<55296 then Ub s r (F8 (Utf8.encode r)) (F8 s)[2]? else none) else none
theorem RF {s:ByteArray} {r z:Int} (h:PW s r=some z) : Fn Tryz.prog 85 [.s s,.i .i32 r] (.d (.i .i64 z)):=by
 unfold PW at h
 by_cases hs:s.size≤1000
 rotate_left
 ·rw [if_neg hs] at h;cases h
 rw [if_pos hs] at h
 by_cases h1:0≤r∧r<128
 ·rw [if_pos h1] at h
  cases h
  exact NI s r h1.1 h1.2
 rw [if_neg h1] at h
 by_cases h2:2048≤r∧r<55296
 rotate_left
 ·rw [if_neg h2] at h;cases h
 rw [if_pos h2] at h
 generalize he:F8 (Utf8.encode r)=e at h
 generalize hy:(F8 s)[2]?=y at h
 unfold Ub at h
 split at h
 ·rename_i x0 x1 x2 y2
  split at h
  ·rename_i q
   split at h
   ·rename_i q2
    cases h
    exact JO s r (p:=2) h2.1 h2.2 he hs hy (.inl ⟨q,rfl⟩) q2.2.1 q2.2.2 (by omega)
   ·cases h
  ·rename_i q
   split at h
   ·rename_i q2
    cases h
    exact NX s r h2.1 h2.2 he hs hy q q2
   ·rename_i q2
    split at h
    ·rename_i q3
     cases h
     have e1:(((H8 (s.extract 3 s.size) x2).toNat+3:Nat):Int)-2=H8 (s.extract 3 s.size) x2+1:=by omega
     rw [← e1]
     exact JO s r (p:=(H8 (s.extract 3 s.size) x2).toNat+3) h2.1 h2.2 he hs hy (.inr ⟨q,by omega,by omega⟩) q3.1 q3.2.1 q3.2.2
    ·cases h
 ·cases h
def HM (s:ByteArray) (r:Int) : Option Bool:=(PW s r).map fun z=>decide (0≤z)
theorem KJ {s:ByteArray} {r:Int} {b:Bool} (h:HM s r=some b) : Fn Tryz.prog 42 [.s s,.i .i32 r] (.d (.b b)):=by
 unfold HM at h
 rcases hz:PW s r with _|z
 ·rw [hz] at h;cases h
 rw [hz] at h
 cases h
 refine Fn.of (rs:=[.tmp 4]) (nt:=9) Tryz.func42 rfl rfl rfl (by simp) rfl ?_;refine .seq ?_;refine .region ?_;refine asd ?_;refine rn ?_;refine .seq ?_;refine .region ?_;refine vk (Aa) ?_;refine vk (Aa) ?_;refine vk (Aq (RF hz) Tryz.call85) ?_;refine vk (vbi) ?_;refine asd ?_;refine rn ?_;refine .ret ?_
 exact ⟨rfl,rfl⟩
def txA : ByteArray:=⟨#[226,141,180,44,226,141,170,226,134,145,226,134,147,226,140,189,226,138,150,226,141,137,47,226,140,191,92,226,141,128]⟩
example : HM txA 8854=some true:=by kernel_rfl
example : HM txA 9076=some true:=by kernel_rfl
example : HM txA 92=some true:=by kernel_rfl
end Go.FL
namespace Go.FL
open Go Go.Proofs
abbrev Cr : Type:=FW (Arr×Arr×Int) (Arr×Int)
abbrev Dx (f:Cr) : Prop:=f.OK Tryz.prog (fun x=>[.ag [.sl (Is x.1.shape),.sl (Its x.1.items)],.ag [.sl (Is x.2.1.shape),.sl (Its x.2.1.items)],.i .i64 x.2.2]) (fun r=>.tup [.d (.ag [.sl (Is r.1.shape),.sl (Its r.1.items)]),.d (.i .i64 r.2)])
def EA (a0:Arr) : Option ((List Int)×Int):=(if 1<((List.length a0.shape:Nat) : Int) then (some ([],4)) else ((Lo a0).bind fun x1=>(if x1.2=true then (some (x1.1,0)) else (some ([],3)))))
theorem FN {a0:Arr} {r:(List Int)×Int} (h:EA a0=some r) :
  Fn Tryz.prog 35 [.ag [.sl (Is a0.shape),.sl (Its a0.items)]] (.tup [.d (.sl (Is r.1)),.d (.i .i64 r.2)]):=by
 unfold EA at h
 refine Fn.of (rs:=[.tmp 2,.tmp 3]) (nt:=18) Tryz.func35 rfl rfl rfl (by simp) rfl ?_;refine .sr ?_;refine vk (vbx) ?_;refine asn ?_;refine ar [1,2,3] ?_;refine .seq ?_;refine .sr ?_;refine vk (vfa Aw) ?_;refine vk (Ah A9) ?_;refine vk (A2 (Ag _) (Bt _) Bk) ?_;refine vk (vbi) ?_;refine rk [1,2,3,9] ?_
 rcases brc h with ⟨hc,h⟩|⟨hc,h⟩
 ·refine cnt (dT hc) ?_
  refine .sr ?_;refine asn ?_;refine ar [1,2,3] ?_;refine .gh (Gh.nlD (t:=2) rfl) ?_;refine .ret ?_
  cases h
  exact ⟨by decide,rfl,rfl,rfl⟩
 refine cnf (dF hc) ?_;refine .skip ?_
 show AW _ _ _ _ _ _
 refine .sr ?_;refine vk (AE Ad Ac) ?_
 obtain ⟨x1,g1,h⟩:=bnd h
 refine vk (VOK.tupd (vs:=[.sl (Is x1.1),.b x1.2]) (Aq (Nu g1) Tryz.call73)) ?_;refine vk (Aa) ?_;refine vk (vex) ?_;refine vk (vex) ?_;refine asd ?_;refine ar [2,3,4,5] ?_;refine .seq ?_;refine .sr ?_;refine vk (Aa) ?_;refine vk (vnt) ?_;refine rk [2,3,4,16] ?_
 rcases brc h with ⟨hc,h⟩|⟨hc,h⟩
 ·refine cnf (ntf hc) ?_
  refine .skip ?_
  show AW _ _ _ _ _ _
  refine .sr ?_;refine vk (Aa) ?_;refine asd ?_;refine ar [2,3] ?_;refine .ret ?_
  cases h
  exact ⟨by decide,rfl,rfl,rfl⟩
 refine cnt (ntt (bf hc)) ?_;refine .sr ?_;refine asn ?_;refine ar [2,3,4] ?_;refine .gh (Gh.nlD (t:=2) rfl) ?_;refine .ret ?_
 cases h
 exact ⟨by decide,rfl,rfl,rfl⟩
def Gc (a0:Arr) (a1:Arr) : Option ((List Int)×Arr×Int):=((EA a0).bind fun x1=>(jn ((if ((List.length x1.1:Nat) : Int)=((List.length a1.shape:Nat) : Int) then (some (x1.1,a1,0)) else (some ([],(Arr.mk [] []),5)))) fun K0=>(if x1.2=0 then (if ((decide (((List.length a1.shape:Nat) : Int)=0))&&(decide (8<((List.length x1.1:Nat) : Int))))=true then (some ([],(Arr.mk [] []),4)) else (if ((List.length a1.shape:Nat) : Int)=0 then none else (K0))) else (some ([],(Arr.mk [] []),x1.2)))))
theorem Kd {a0:Arr} {a1:Arr} {r:(List Int)×Arr×Int} (h:Gc a0 a1=some r) :
  Fn Tryz.prog 74 [.ag [.sl (Is a0.shape),.sl (Its a0.items)],.ag [.sl (Is a1.shape),.sl (Its a1.items)]] (.tup [.d (.sl (Is r.1)),.d (.ag [.sl (Is r.2.1.shape),.sl (Its r.2.1.items)]),.d (.i .i64 r.2.2)]):=by
 unfold Gc at h
 refine Fn.ofA (rs:=[.tmp 4,.cell 5 27,.tmp 6]) (nt:=49) Tryz.func74 rfl rfl rfl (by simp) rfl ?_;refine .sr ?_;refine vk (vbx) ?_;refine vk (vbn) ?_;refine RL.gh2 (Gh.nbb (t:=3) rfl) ?_;refine asn ?_;refine vk (van (Am AB) AJ) ?_;refine ar [2,3,4,5,6] ?_;refine .sr ?_;refine vk (AE Ad Ac) ?_
 obtain ⟨x1,g1,h⟩:=bnd h
 refine vk (VOK.tupd (vs:=[.sl (Is x1.1),.i .i64 x1.2]) (Aq (FN g1) Tryz.call35)) ?_;refine vk (Aa) ?_;refine vk (vex) ?_;refine vk (vex) ?_;refine asd ?_;refine ar [3,4,5,6,7,8] ?_
 obtain ⟨K0,hK0,h⟩:=AZ h
 refine AW.mj (σ:=Unit) (fun p=>K0=some r) (fun p=>[(3,.bp 0 0),(4,.nl),(5,.nb [.sl (Is []),.sl (Its [])]),(6,.d (.i .i64 0)),(7,.d (.sl (Is x1.1)))]) (fun p=>[HO.box [.d (.sl (Is a1.shape)),.d (.sl (Its a1.items))]]) ?_ ?_
 ·skip
  refine .block ?_;refine .sr ?_;refine vk (Aa) ?_;refine vk (vbi) ?_;refine ar [3,4,5,6,7,8,14] ?_
  rcases brc h with ⟨hc,h⟩|⟨hc,h⟩
  ·refine cnf (ntf (dT hc)) ?_
   refine .seq ?_;refine AW.mr (σ:=Unit) (fun _=>True) (fun _=>[(3,.bp 0 0),(4,.nl),(5,.nb [.sl (Is []),.sl (Its [])]),(6,.d (.i .i64 0)),(7,.d (.sl (Is x1.1))),(19,.d (.b ((decide (((List.length a1.shape:Nat):Int)=0))&&(decide (8<((List.length x1.1:Nat):Int))))))]) (fun _=>[HO.box [.d (.sl (Is a1.shape)),.d (.sl (Its a1.items))]]) ?_ ?_
   ·skip
    refine .region ?_;refine vk (DR Aw) ?_;refine vk (Lm (cs:=[.d (.sl (Is a1.shape)),.d (.sl (Its a1.items))]) (c:=.sl (Is a1.shape)) rfl rfl A9) ?_;refine vk (A2 (Ag _) (Bt _) Bk) ?_;refine vk (vbi) ?_
    by_cases hc:((List.length a1.shape:Nat):Int)=0
    ·have hb0:(decide (((List.length a1.shape:Nat):Int)=0))=true:=(dT hc)
     refine vk (VOK.lit (Aa) hb0) ?_;refine vk (Aa) ?_;refine vk (A2 (Ag _) (Bt _) Bk) ?_;refine vk (vbi) ?_;refine vk (Af) ?_;refine asd ?_;refine RL.gk [3,4,5,6,7,19] ?_;refine .nil ?_
     exact jr () trivial (by simp only [hb0];rfl) (by (try simp only [hb0]);rfl)
    have hb0:(decide (((List.length a1.shape:Nat):Int)=0))=false:=(dF hc)
    refine vk (VOK.lit (Aa) hb0) ?_;refine gf ?_;refine gf ?_;refine gf ?_;refine vk (Af) ?_;refine asd ?_;refine RL.gk [3,4,5,6,7,19] ?_;refine .nil ?_
    exact jr () trivial (by simp only [hb0];rfl) (by (try simp only [hb0]);rfl)
   rintro _ _
   rcases brc h with ⟨hc,h⟩|⟨hc,h⟩
   ·refine cnt hc ?_
    refine .sr ?_;refine vk (vbd CG AB AJ) ?_;refine asn ?_
    refine stn ?_ Ac (by decide)
    refine ar [3,4,5,6,7] ?_;refine .gh (Gh.nlD (t:=4) rfl) ?_;refine .ret ?_
    cases h
    exact ⟨_,_,_,rfl,⟨_,⟨.inr rfl,Ad,Ac,p2⟩,rfl⟩,rfl,rfl⟩
   refine cnf (bf hc) ?_;refine .sr ?_;refine vk (DR Aw) ?_;refine vk (Lm (cs:=[.d (.sl (Is a1.shape)),.d (.sl (Its a1.items))]) (c:=.sl (Is a1.shape)) rfl rfl A9) ?_;refine vk (A2 (Ag _) (Bt _) Bk) ?_;refine vk (vbi) ?_;refine ar [3,4,5,6,7,30] ?_
   rcases brc h with ⟨hc,h⟩|⟨hc,h⟩
   ·refine cnt (dT hc) ?_
    refine .region ?_;refine vk ((LD (EG [1]) Dw).deep) ?_;refine vk (Aa) ?_;refine vk (A2 (Ag _) (Bt _) Bk) ?_
    exact nomatch h
   refine cnf (dF hc) ?_;refine .gk [3,4,5,6,7] ?_;refine .skip ?_
   exact jr () h
  refine cnt (ntt (dF hc)) ?_;refine .sr ?_;refine vk (vbd CG AB AJ) ?_;refine vk (Aa) ?_;refine asn ?_
  refine stn ?_ Ac (by decide)
  refine ar [3,4,5,6,7] ?_;refine .gh (Gh.nlD (t:=4) rfl) ?_;refine .ret ?_
  cases h
  exact ⟨_,_,_,rfl,⟨_,⟨.inr rfl,Ad,Ac,p2⟩,rfl⟩,rfl,rfl⟩
 rintro _ h
 subst hK0
 refine .seq ?_;refine .sr ?_;refine vk (Aa) ?_;refine vk (A2 (Ag _) (Bt _) Bk) ?_;refine vk (DR Aw) ?_;refine vk (Lm (cs:=[.d (.sl (Is a1.shape)),.d (.sl (Its a1.items))]) (c:=.sl (Is a1.shape)) rfl rfl A9) ?_;refine vk (A2 (Ag _) (Bt _) Bk) ?_;refine vk (vbi) ?_;refine rk [3,4,5,6,7,45] ?_
 rcases brc h with ⟨hc,h⟩|⟨hc,h⟩
 ·refine cnf (ntf (dT hc)) ?_
  refine .skip ?_
  show AW _ _ _ _ _ _
  refine .seq ?_;refine .drawnF 2 [1] [(4,.d (.sl (Is x1.1)))] [HO.box [.d (.sl (Is a1.shape)),.d (.sl (Its a1.items))]] Bh (by kernel_rfl) rfl ?_;refine dv (Aa) ?_;refine dv (GN (cs:=[.d (.sl (Is a1.shape)),.d (.sl (Its a1.items))]) (ds:=[.sl (Is a1.shape),.sl (Its a1.items)]) rfl Ad Ac) ?_;refine dz ?_
  refine ⟨?_,?_,?_⟩
  ·intro k hk
   simp only [List.mem_cons,List.not_mem_nil,or_false] at hk
   subst hk
   exact ⟨_,_,_,rfl,rfl,rfl,rfl,rfl,rfl,(GN (cs:=[.d (.sl (Is a1.shape)),.d (.sl (Its a1.items))]) (ds:=[.sl (Is a1.shape),.sl (Its a1.items)]) rfl Ad Ac)⟩
  ·intro om e hom hge
   cases hom
   exact Vj rfl ((hge 47 (fun k hk v hv=>by
     simp only [List.mem_cons,List.not_mem_nil,or_false] at hk
     subst hk;exact (by decide:¬(some 48=some 47)) (congrArg (Option.map Prod.fst) hv))).trans rfl) rfl ((congrArg Ak (hge 4 (fun k hk v hv=>by
     simp only [List.mem_cons,List.not_mem_nil,or_false] at hk
     subst hk;exact (by decide:¬(some 48=some 4)) (congrArg (Option.map Prod.fst) hv)))).trans rfl) rfl ⟨rfl,rfl⟩
  refine stn ?_ Ac (by decide)
  refine ar [4,5,6] ?_;refine .ret ?_
  cases h
  exact ⟨_,_,_,rfl,⟨_,⟨.inr rfl,Ad,Ac,p2⟩,rfl⟩,rfl,rfl⟩
 refine cnt (ntt (dF hc)) ?_;refine .sr ?_;refine vk (vbd CG AB AJ) ?_;refine asn ?_
 refine stn ?_ Ac (by decide)
 refine ar [3,4,5,6,7] ?_;refine .gh (Gh.nlD (t:=4) rfl) ?_;refine .ret ?_
 cases h
 exact ⟨_,_,_,rfl,⟨_,⟨.inr rfl,Ad,Ac,p2⟩,rfl⟩,rfl,rfl⟩
def Gs (a0:(List Int)) (c0:Int) (c1:(List Int)) : Option (Int):=((Dl c1 a0).bind fun x1=>(some ((w64 (c0+x1)))))
theorem JW {a0:(List Int)} {c0:Int} {c1:(List Int)} {r:Int} (h:Gs a0 c0 c1=some r) :
  Fn Tryz.prog 78 [.sl (Is a0),.ptr [.i .i64 c0],.ptr [.sl (Is c1)]] (.d (.i .i64 r)):=by
 unfold Gs at h
 refine Fn.o1 4 10 Tryz.func78 ?_;refine .sr ?_;refine ar [0,1,2,4] ?_;refine .seq ?_;refine .drawn 5 Bh (by kernel_rfl) ?_;refine dv (Ah AD) ?_;refine dv (Ah A9) ?_;refine dv (Aa) ?_
 obtain ⟨x1,g1,h⟩:=bnd h
 refine dv (Aq (E8 g1) Tryz.call79) ?_;refine dv (vbi) ?_;refine dz ?_;refine ar [4] ?_;refine .ret ?_
 cases h
 exact ⟨rfl,rfl⟩
def DD (x1:(List Int)×Arr×Int) (x3:(List Int)) (K0:(List Int)→Int→Option (Arr×Int)) : Nat→(List Int)→Int→Int→Option (Arr×Int)
 | 0,_,_,_=>none
 | k+1,s6,s7,s8=>(if s7<((List.length x1.1:Nat):Int) then (jn (fun (z9:(List Int)) (z10:Int)=>(DD x1 x3 K0 k z9 (w64 (s7+1)) z10)) fun K2=>((rd? x1.1 s7).bind fun x11=>((rd? x1.2.1.shape s7).bind fun x12=>(if 0≤x11 then ((rd? x3 s7).bind fun x13=>((rd? s6 s7).bind fun x14=>(K2 (List.set s6 (Int.toNat s7) (w64 (x12-(if x12<x11 then x12 else x11)))) (w64 (s8+(w64 (x13 * (if x12<x11 then x12 else x11)))))))) else ((rd? s6 s7).bind fun x15=>(K2 (List.set s6 (Int.toNat s7) (if (w64 (x12+(if x11<(IntKind.wrap .i64 (0-x12)) then (IntKind.wrap .i64 (0-x12)) else x11)))<0 then 0 else (w64 (x12+(if x11<(IntKind.wrap .i64 (0-x12)) then (IntKind.wrap .i64 (0-x12)) else x11))))) s8)))))) else (K0 s6 s8))
def Im (a0:Arr) (a1:Arr) : Option (Arr×Int):=((Gc a0 a1).bind fun x1=>(if x1.2.2=0 then ((EW (0≤((List.length x1.1:Nat) : Int)∧((List.length x1.1:Nat) : Int)≤17592186044416)).bind fun x2=>((Ce x1.2.1.shape).bind fun x3=>(jn (fun (z4:(List Int)) (z5:Int)=>((Cu x1.2.1 z4 (⟨.fn 78 [] [.ptr [.i .i64 z5],.ptr [.sl (Is x3)]],fun x=>Gs x z5 x3⟩ : Ch)).bind fun x16=>(some (x16.1,x16.2)))) fun K0=>(DD x1 x3 K0 AQ (List.replicate (Int.toNat ((List.length x1.1:Nat) : Int)) (0:Int)) 0 0)))) else (some ((Arr.mk [] []),x1.2.2))))
theorem LA {a0:Arr} {a1:Arr} {r:Arr×Int} (h:Im a0 a1=some r) :
  Fn Tryz.prog 37 [.ag [.sl (Is a0.shape),.sl (Its a0.items)],.ag [.sl (Is a1.shape),.sl (Its a1.items)]] (.tup [.d (.ag [.sl (Is r.1.shape),.sl (Its r.1.items)]),.d (.i .i64 r.2)]):=by
 unfold Im at h
 refine Fn.ofC (rs:=[.cell 4 27,.tmp 5]) (nt:=80) Tryz.func37 rfl rfl rfl (by simp) rfl ?_;refine .sr ?_;refine vk (vbx) ?_;refine vk (vbn) ?_;refine vk (van (Am AB) AJ) ?_;refine ar [2,3,4,5] ?_;refine .sr ?_;refine vk (AE Ad Ac) ?_;refine vk (HL Ad Ac) ?_
 obtain ⟨x1,g1,h⟩:=bnd h
 refine vk (VOK.tupd (vs:=[.sl (Is x1.1),.ag [.sl (Is x1.2.1.shape),.sl (Its x1.2.1.items)],.i .i64 x1.2.2]) (Aq (Kd g1) Tryz.call74)) ?_;refine vk (Aa) ?_;refine vk (vex) ?_;refine vk (vex) ?_;refine vk (vex) ?_;refine asd ?_
 refine stn ?_ Ac (by decide)
 refine ar [3,4,5,6,7] ?_;refine .seq ?_;refine .sr ?_;refine vk (Aa) ?_;refine vk (vbi) ?_;refine rk [3,4,5,6,7,22] ?_
 rcases brc h with ⟨hc,h⟩|⟨hc,h⟩
 ·refine cnf (ntf (dT hc)) ?_
  refine .skip ?_
  show AW _ _ _ _ _ _
  refine .sr ?_;refine vk (Aa) ?_;refine vk (A2 (Ag _) (Bt _) Bk) ?_
  obtain ⟨x2,g2,h⟩:=bnd h
  have ghx2:=Ea g2
  refine mk' (F:=Is) (x0:=0) (zl:=((List.length x1.1:Nat):Int)) (Int.toNat ((List.length x1.1:Nat):Int)) Jm (by omega) (by omega) ?_ Dw (by decide)
  refine aso ?_;refine rk [3,4,5,6,8] ?_;refine .sr ?_
  refine al ?_ (Am U1) (fun w I μ=>TV w I μ)
  refine stb (cs:=[.d (.i .i64 0)]) (c:=.d (.i .i64 0)) rfl rfl ?_ C8
  refine rk [3,4,5,6,8,9] ?_;refine .seq ?_;refine .gh (Gh.nbp (t:=3) rfl) ?_;refine .region ?_;refine vk (vfa Aw) ?_;refine vk (Ah A9) ?_
  obtain ⟨x3,g3,h⟩:=bnd h
  refine vk (Aq (Dv g3) Tryz.call75) ?_;refine vk (van (Am PB) Ue) ?_
  refine VR ?_ Nd
  refine RL.gh (Gh.nbp (t:=10) rfl) ?_;refine rk [3,4,5,6,8,9,10] ?_;refine .seq ?_;refine .sr ?_;refine vk (Aa) ?_;refine vk (A2 (Ag _) (Bt _) Bk) ?_;refine vk (Aa) ?_;refine rk [3,4,5,8,9,10,31,32,33] ?_
  obtain ⟨K0,hK0,h⟩:=AZ h
  refine AW.mr (σ:=(List Int)×Int) (fun p=>K0 p.1 p.2=some r) (fun p=>[(3,.d (.ptr [.sl (Is x1.2.1.shape),.sl (Its x1.2.1.items)])),(4,.nb [.sl (Is []),.sl (Its [])]),(5,.d (.i .i64 0)),(8,.own 3 (Is p.1)),(9,.bp 0 0),(10,.d (.ptr [.sl (Is x3)]))]) (fun p=>[HO.box [.d (.i .i64 p.2)]]) ?_ ?_
  ·skip
   refine .block ?_
   refine .loop (.gk [3,4,5,8,9,10,31,32,33] ?_)
   refine AL.ind (σ:=Nat×(List Int)×Int×Int) (m:=fun p=>p.1) (e:=fun p=>[(3,.d (.ptr [.sl (Is x1.2.1.shape),.sl (Its x1.2.1.items)])),(4,.nb [.sl (Is []),.sl (Its [])]),(5,.d (.i .i64 0)),(8,.own 3 (Is p.2.1)),(9,.bp 0 0),(10,.d (.ptr [.sl (Is x3)])),(31,.d (.sl (Is x1.1))),(32,.d (.i .i64 ((List.length x1.1:Nat):Int))),(33,.d (.i .i64 p.2.2.1))]) (h:=fun p=>[HO.box [.d (.i .i64 p.2.2.2)]]) (I:=fun p=>DD x1 x3 K0 p.1 p.2.1 p.2.2.1 p.2.2.2=some r) ?_ (AQ,(List.replicate (Int.toNat ((List.length x1.1:Nat):Int)) (0:Int)),0,0) h
   rintro ⟨k,s6,s7,s8⟩ h ih
   dsimp only at h ih ⊢
   rcases k with _|k
   ·rw [DD] at h;cases h
   rw [DD] at h
   refine .sr ?_;refine vk (vbi) ?_;refine rk [3,4,5,8,9,10,31,32,33,34] ?_;refine .seq ?_
   rcases brc h with ⟨hc,h⟩|⟨hc,h⟩
   ·refine cnt (dT hc) ?_
    refine .skip ?_
    show AW _ _ _ _ _ _
    obtain ⟨K2,hK2,h⟩:=AZ h
    refine AW.mj (σ:=(List Int)×Int) (fun p=>K2 p.1 p.2=some r) (fun p=>[(3,.d (.ptr [.sl (Is x1.2.1.shape),.sl (Its x1.2.1.items)])),(4,.nb [.sl (Is []),.sl (Its [])]),(5,.d (.i .i64 0)),(8,.own 3 (Is p.1)),(9,.bp 0 0),(10,.d (.ptr [.sl (Is x3)])),(31,.d (.sl (Is x1.1))),(32,.d (.i .i64 ((List.length x1.1:Nat):Int))),(33,.d (.i .i64 s7))]) (fun p=>[HO.box [.d (.i .i64 p.2)]]) ?_ ?_
    ·skip
     refine .block ?_;refine .sr ?_;refine vk (Aa) ?_
     obtain ⟨x11,g11,h⟩:=bnd h
     obtain ⟨n11,p011,q11⟩:=Aj g11
     refine vk (vix n11 p011 (Bg q11) rfl Bc) ?_;refine vk (Ah AD) ?_;refine asd ?_;refine ar [3,4,5,8,9,10,11,12,31,32,33] ?_;refine .sr ?_;refine vk (vfa Aw) ?_;refine vk (Ah A9) ?_;refine vk (Aa) ?_
     obtain ⟨x12,g12,h⟩:=bnd h
     obtain ⟨n12,p012,q12⟩:=Aj g12
     refine vk (vix n12 p012 (Bg q12) rfl Bc) ?_;refine vk (Ah AD) ?_;refine ar [3,4,5,8,9,10,11,12,13,31,32,33] ?_;refine .sr ?_;refine vk (Aa) ?_;refine vk (vbi) ?_;refine rk [3,4,5,8,9,10,11,12,13,31,32,33,44] ?_
     rcases brc h with ⟨hc,h⟩|⟨hc,h⟩
     ·refine cnt (dT hc) ?_
      refine .seq ?_;refine .drawn 10 Bh (by kernel_rfl) ?_;refine dv (Lm (cs:=[.d (.i .i64 s8)]) (c:=.i .i64 s8) rfl rfl AD) ?_;refine dv (Ah A9) ?_;refine dv (Aa) ?_
      obtain ⟨x13,g13,h⟩:=bnd h
      obtain ⟨n13,p013,q13⟩:=Aj g13
      refine dv (vix n13 p013 (Bg q13) rfl Bc) ?_;refine dv (Ah AD) ?_;refine dv (Aa) ?_;refine dv (Aa) ?_;refine dv (vmn) ?_;refine dv (vbi) ?_;refine dv (vbi) ?_;refine dz ?_
      refine stb (cs:=[.d (.i .i64 s8)]) (c:=.d (.i .i64 s8)) rfl rfl ?_ C8
      refine rk [3,4,5,8,9,10,11,12,13,31,32,33] ?_;refine .region ?_;refine mvo ?_;refine vk (Aa) ?_;refine vk (Aa) ?_;refine vk (Aa) ?_;refine vk (Aa) ?_;refine vk (vmn) ?_;refine vk (vbi) ?_
      obtain ⟨x14,g14,h⟩:=bnd h
      obtain ⟨n14,p014,q14⟩:=Aj g14
      refine ixr (off:=0) (len:=(Is s6).length) n14 p014 (by rw [Ag];exact (lS.1 q14).1) ?_ Bc (by decide)
      refine MG (F:=Is) (D:=fun x=>.i .i64 x) Gr (us:=s6) (n:=n14) (m:=Int.toNat s7) (x:=(w64 (x12-(if x12<x11 then x12 else x11)))) (by rw [p014];rfl) ⟨_,by rw [Nat.zero_add];exact Bg q14,rfl⟩ ?_ C8
      refine RL.gk [3,4,5,8,9,10,11,12,13,31,32,33,56,57,58,59,60,61] ?_;refine RL.gk [3,4,5,8,9,10,31,32,33] ?_;refine .nil ?_
      exact jr ((List.set s6 (Int.toNat s7) (w64 (x12-(if x12<x11 then x12 else x11)))),(w64 (s8+(w64 (x13 * (if x12<x11 then x12 else x11)))))) h
     refine cnf (dF hc) ?_;refine .region ?_;refine mvo ?_;refine vk (Aa) ?_;refine vk (Aa) ?_;refine vk (Aa) ?_;refine vk (Aa) ?_;refine vk (vng) ?_;refine vk (vmx) ?_;refine vk (vbi) ?_;refine vk (vmx) ?_
     obtain ⟨x15,g15,h⟩:=bnd h
     obtain ⟨n15,p015,q15⟩:=Aj g15
     refine ixr (off:=0) (len:=(Is s6).length) n15 p015 (by rw [Ag];exact (lS.1 q15).1) ?_ Bc (by decide)
     refine MG (F:=Is) (D:=fun x=>.i .i64 x) Gr (us:=s6) (n:=n15) (m:=Int.toNat s7) (x:=(if (w64 (x12+(if x11<(IntKind.wrap .i64 (0-x12)) then (IntKind.wrap .i64 (0-x12)) else x11)))<0 then 0 else (w64 (x12+(if x11<(IntKind.wrap .i64 (0-x12)) then (IntKind.wrap .i64 (0-x12)) else x11))))) (by rw [p015];rfl) ⟨_,by rw [Nat.zero_add];exact Bg q15,rfl⟩ ?_ C8
     refine RL.gk [3,4,5,8,9,10,11,12,13,31,32,33,44,64,65,66,67,68,69,70,71] ?_;refine RL.gk [3,4,5,8,9,10,31,32,33] ?_;refine .nil ?_
     exact jr ((List.set s6 (Int.toNat s7) (if (w64 (x12+(if x11<(IntKind.wrap .i64 (0-x12)) then (IntKind.wrap .i64 (0-x12)) else x11)))<0 then 0 else (w64 (x12+(if x11<(IntKind.wrap .i64 (0-x12)) then (IntKind.wrap .i64 (0-x12)) else x11))))),s8) h
    rintro ⟨z9,z10⟩ h
    try dsimp only at h ⊢
    subst hK2
    refine .region ?_;refine vk (vbi) ?_;refine vk (Aa) ?_;refine .nil ?_;refine AL.gk [3,4,5,8,9,10,31,32,33] ?_
    exact ih (k,z9,(w64 (s7+1)),z10) h (Nat.lt_succ_self _)
   refine cnf (dF hc) ?_;refine .gk [3,4,5,8,9,10] ?_;refine .exit ?_
   exact jr (s6,s8) h
  rintro ⟨z4,z5⟩ h
  try dsimp only at h ⊢
  subst hK0
  show AW _ _ _ _ _ _
  refine .sr ?_;refine vk (AE Ad Ac) ?_;refine fz (p:=.t 8) ?_;refine vk (Aa) ?_;refine RL.gh2 (Gh2.pop (H0:=[]) (cs:=[.i .i64 z5]) rfl rfl rfl rfl) ?_;refine vk (TG) ?_
  obtain ⟨x16,g16,h⟩:=bnd h
  refine vk (VOK.tupd (vs:=[.ag [.sl (Is x16.1.shape),.sl (Its x16.1.items)],.i .i64 x16.2]) (Aq (E5 (Ek Tryz.call78 (fun _ _ h=>JW h)) g16) Tryz.call76)) ?_;refine vk (vex) ?_;refine vk (vex) ?_
  refine stn ?_ Ac (by decide)
  refine ar [4,5] ?_;refine .ret ?_
  cases h
  exact ⟨_,_,⟨.inr rfl,Ad,Ac,p2⟩,rfl,rfl⟩
 refine cnt (ntt (dF hc)) ?_;refine .sr ?_;refine vk (vbd CG AB AJ) ?_;refine vk (Aa) ?_
 refine stn ?_ Ac (by decide)
 refine ar [3,4,5,6] ?_;refine .ret ?_
 cases h
 exact ⟨_,_,⟨.inr rfl,Ad,Ac,p2⟩,rfl,rfl⟩
def BL (x2:Int×Bool) (x4:Int) (K0:(List Int)→Option (Arr×Int)) : Nat→(List Int)→Int→Option (Arr×Int)
 | 0,_,_=>none
 | k+1,s7,s8=>(if s8<((List.length (List.replicate (Int.toNat x4) (0:Int)):Nat):Int) then ((EW (x4≠0)).bind fun x9=>((EW (x4≠0)).bind fun x10=>((EW (x4≠0)).bind fun x11=>((rd? s7 s8).bind fun x12=>(BL x2 x4 K0 k (List.set s7 (Int.toNat s8) (Int.tmod (w64 ((Int.tmod (w64 (s8+(Int.tmod x2.1 x4))) x4)+x4)) x4)) (w64 (s8+1))))))) else (K0 s7))
def A7 (a0:Arr) (a1:Arr) (a2:Int) : Option (Arr×Int):=((CD a0.shape).bind fun x1=>(if x1.1=1 then ((ES a0).bind fun x2=>(if x2.2=true then (if ((List.length a1.shape:Nat) : Int)=0 then ((Ez a1).bind fun x3=>(some (x3,0))) else ((rd? a1.shape a2).bind fun x4=>((EW (0≤x4∧x4≤17592186044416)).bind fun x5=>(jn (fun (z6:(List Int))=>((BH a1 a2 z6).bind fun x13=>(some (x13.1,x13.2)))) fun K0=>(BL x2 x4 K0 AQ (List.replicate (Int.toNat x4) (0:Int)) 0))))) else (some ((Arr.mk [] []),3)))) else (some ((Arr.mk [] []),5))))
theorem F4 {a0:Arr} {a1:Arr} {a2:Int} {r:Arr×Int} (h:A7 a0 a1 a2=some r) :
  Fn Tryz.prog 82 [.ag [.sl (Is a0.shape),.sl (Its a0.items)],.ag [.sl (Is a1.shape),.sl (Its a1.items)],.i .i64 a2] (.tup [.d (.ag [.sl (Is r.1.shape),.sl (Its r.1.items)]),.d (.i .i64 r.2)]):=by
 unfold A7 at h
 refine Fn.ofC (rs:=[.cell 6 27,.tmp 7]) (nt:=73) Tryz.func82 rfl rfl rfl (by simp) rfl ?_;refine .sr ?_;refine vk (vbx) ?_;refine vk (vbx) ?_;refine vk (van (Am AB) AJ) ?_;refine ar [2,3,4,6,7] ?_;refine .seq ?_;refine .sr ?_;refine vk (vfa Aw) ?_;refine vk (Ah A9) ?_
 obtain ⟨x1,g1,h⟩:=bnd h
 refine vk (VOK.tupd (vs:=[.i .i64 x1.1,.i .i64 x1.2]) (Aq (C6 g1) Tryz.call26)) ?_;refine vk (Aa) ?_;refine vk (vex) ?_;refine vk (vex) ?_;refine asd ?_;refine ar [2,3,4,6,7,8] ?_;refine .sr ?_;refine vk (Aa) ?_;refine vk (vbi) ?_;refine rk [2,3,4,6,7,22] ?_
 rcases brc h with ⟨hc,h⟩|⟨hc,h⟩
 ·refine cnf (ntf (dT hc)) ?_
  refine .skip ?_
  show AW _ _ _ _ _ _
  refine .sr ?_;refine vk (AE Ad Ac) ?_
  obtain ⟨x2,g2,h⟩:=bnd h
  refine vk (VOK.tupd (vs:=[.i .i64 x2.1,.b x2.2]) (Aq (KM g2) Tryz.call133)) ?_;refine vk (Aa) ?_;refine vk (vex) ?_;refine vk (vex) ?_;refine asd ?_;refine ar [2,4,6,7,10,11] ?_;refine .seq ?_;refine .block ?_;refine .sr ?_;refine vk (Aa) ?_;refine vk (vnt) ?_;refine ar [2,4,6,7,10,29] ?_
  rcases brc h with ⟨hc,h⟩|⟨hc,h⟩
  ·refine cnf (ntf hc) ?_
   refine .sr ?_;refine vk (vfa Aw) ?_;refine vk (Ah A9) ?_;refine vk (A2 (Ag _) (Bt _) Bk) ?_;refine vk (vbi) ?_;refine ar [2,4,6,7,10,33] ?_
   rcases brc h with ⟨hc,h⟩|⟨hc,h⟩
   ·refine cnt (dT hc) ?_
    refine .sr ?_;refine vk (AE Ad Ac) ?_
    obtain ⟨x3,g3,h⟩:=bnd h
    refine vk (Aq (HT g3) Tryz.call134) ?_
    refine stn ?_ Ac (by decide)
    refine ar [2,4,6,7,10] ?_;refine .ret ?_
    cases h
    exact ⟨_,_,⟨.inr rfl,Ad,Ac,p2⟩,rfl,rfl⟩
   refine cnf (dF hc) ?_;refine .skip ?_
   show AW _ _ _ _ _ _
   refine .sr ?_;refine vk (vfa Aw) ?_;refine vk (Ah A9) ?_;refine vk (Aa) ?_
   obtain ⟨x4,g4,h⟩:=bnd h
   obtain ⟨n4,p04,q4⟩:=Aj g4
   refine vk (vix n4 p04 (Bg q4) rfl Bc) ?_;refine vk (Ah AD) ?_;refine ar [2,4,6,7,10,12] ?_;refine .sr ?_;refine vk (Aa) ?_
   obtain ⟨x5,g5,h⟩:=bnd h
   have ghx5:=Ea g5
   refine mk' (F:=Is) (x0:=0) (zl:=x4) (Int.toNat x4) Jm (by omega) (by omega) ?_ Dw (by decide)
   refine aso ?_;refine rk [2,4,6,7,10,12,13] ?_;refine .seq ?_;refine .sr ?_;refine mvo ?_;refine vk (Ug (Ag _) Bk) ?_;refine vk (Aa) ?_;refine rk [2,4,6,7,10,12,13,48,49] ?_
   obtain ⟨K0,hK0,h⟩:=AZ h
   refine AW.mr (σ:=(List Int)) (fun p=>K0 p=some r) (fun p=>[(2,.d (.i .i64 a2)),(4,.d (.ptr [.sl (Is a1.shape),.sl (Its a1.items)])),(6,.nb [.sl (Is []),.sl (Its [])]),(7,.d (.i .i64 0)),(13,.own 3 (Is p))]) (fun p=>[]) ?_ ?_
   ·skip
    refine .block ?_
    refine .loop (.gk [2,4,6,7,10,12,13,48,49] ?_)
    refine AL.ind (σ:=Nat×(List Int)×Int) (m:=fun p=>p.1) (e:=fun p=>[(2,.d (.i .i64 a2)),(4,.d (.ptr [.sl (Is a1.shape),.sl (Its a1.items)])),(6,.nb [.sl (Is []),.sl (Its [])]),(7,.d (.i .i64 0)),(10,.d (.i .i64 x2.1)),(12,.d (.i .i64 x4)),(13,.own 3 (Is p.2.1)),(48,.d (.i .i64 ((List.length (List.replicate (Int.toNat x4) (0:Int)):Nat):Int))),(49,.d (.i .i64 p.2.2))]) (h:=fun p=>[]) (I:=fun p=>BL x2 x4 K0 p.1 p.2.1 p.2.2=some r) ?_ (AQ,(List.replicate (Int.toNat x4) (0:Int)),0) h
    rintro ⟨k,s7,s8⟩ h ih
    dsimp only at h ih ⊢
    rcases k with _|k
    ·rw [BL] at h;cases h
    rw [BL] at h
    refine .sr ?_;refine vk (vbi) ?_;refine rk [2,4,6,7,10,12,13,48,49,50] ?_;refine .seq ?_
    rcases brc h with ⟨hc,h⟩|⟨hc,h⟩
    ·refine cnt (dT hc) ?_
     refine .skip ?_
     show AW _ _ _ _ _ _
     refine .seq ?_;refine .block ?_;refine .sr ?_;refine vk (Aa) ?_;refine ar [2,4,6,7,10,12,13,14,48,49] ?_;refine .region ?_;refine mvo ?_;refine vk (Aa) ?_;refine vk (Aa) ?_;refine vk (Aa) ?_;refine vk (Aa) ?_
     obtain ⟨x9,g9,h⟩:=bnd h
     refine vk (Ly (Ea g9)) ?_;refine vk (vbi) ?_;refine vk (Aa) ?_
     obtain ⟨x10,g10,h⟩:=bnd h
     refine vk (Ly (Ea g10)) ?_;refine vk (Aa) ?_;refine vk (vbi) ?_;refine vk (Aa) ?_
     obtain ⟨x11,g11,h⟩:=bnd h
     refine vk (Ly (Ea g11)) ?_
     obtain ⟨x12,g12,h⟩:=bnd h
     obtain ⟨n12,p012,q12⟩:=Aj g12
     refine ixr (off:=0) (len:=(Is s7).length) n12 p012 (by rw [Ag];exact (lS.1 q12).1) ?_ Bc (by decide)
     refine MG (F:=Is) (D:=fun x=>.i .i64 x) Gr (us:=s7) (n:=n12) (m:=Int.toNat s8) (x:=(Int.tmod (w64 ((Int.tmod (w64 (s8+(Int.tmod x2.1 x4))) x4)+x4)) x4)) (by rw [p012];rfl) ⟨_,by rw [Nat.zero_add];exact Bg q12,rfl⟩ ?_ C8
     refine RL.gk [2,4,6,7,10,12,13,14,48,49,53,54,55,56,57,58,59,60,61,62,63,64] ?_;refine .nil ?_
     show AW _ _ _ _ _ _
     refine .gk [2,4,6,7,10,12,13,48,49] ?_;refine .region ?_;refine vk (vbi) ?_;refine vk (Aa) ?_;refine .nil ?_;refine AL.gk [2,4,6,7,10,12,13,48,49] ?_
     exact ih (k,(List.set s7 (Int.toNat s8) (Int.tmod (w64 ((Int.tmod (w64 (s8+(Int.tmod x2.1 x4))) x4)+x4)) x4)),(w64 (s8+1))) h (Nat.lt_succ_self _)
    refine cnf (dF hc) ?_;refine .gk [2,4,6,7,13] ?_;refine .exit ?_
    exact jr (s7) h
   rintro z6 h
   try dsimp only at h ⊢
   subst hK0
   show AW _ _ _ _ _ _
   refine .sr ?_;refine vk (AE Ad Ac) ?_;refine vk (Aa) ?_;refine fz (p:=.t 13) ?_;refine vk (Aa) ?_
   obtain ⟨x13,g13,h⟩:=bnd h
   refine vk (VOK.tupd (vs:=[.ag [.sl (Is x13.1.shape),.sl (Its x13.1.items)],.i .i64 x13.2]) (Aq (Hg g13) Tryz.call135)) ?_;refine vk (vex) ?_;refine vk (vex) ?_
   refine stn ?_ Ac (by decide)
   refine ar [6,7] ?_;refine .ret ?_
   cases h
   exact ⟨_,_,⟨.inr rfl,Ad,Ac,p2⟩,rfl,rfl⟩
  refine cnt (ntt (bf hc)) ?_;refine .sr ?_;refine vk (vbd CG AB AJ) ?_
  refine stn ?_ Ac (by decide)
  refine ar [2,4,6,7,10] ?_;refine .ret ?_
  cases h
  exact ⟨_,_,⟨.inr rfl,Ad,Ac,p2⟩,rfl,rfl⟩
 refine cnt (ntt (dF hc)) ?_;refine .sr ?_;refine vk (vbd CG AB AJ) ?_
 refine stn ?_ Ac (by decide)
 refine ar [2,3,4,6,7] ?_;refine .ret ?_
 cases h
 exact ⟨_,_,⟨.inr rfl,Ad,Ac,p2⟩,rfl,rfl⟩
theorem LP {xs:List Arr} {f:BA} {p:Arr→Bool} (hf:∀ x∈xs,f.g x=some (p x)) (K:Int→Option Int) (hl:xs.length≤17592186044416) : ∀ (n i k:Nat) (s:Int),n=xs.length-i→i≤xs.length→n<k →
  As xs f K k s (i:Int)=match (xs.drop i).findIdx? p with|some j=>some (((i+j:Nat)):Int)|none=>K s
 | n,i,0,s,_,_,h=>by omega
 | n,i,k+1,s,hn,hi,hk=>by
  rw [As]
  by_cases hlt:i<xs.length
  ·rw [if_pos (by omega),BJ hlt,oB,hf _ (List.getElem_mem _),oB,lC hlt,List.findIdx?_cons]
   by_cases hp:p xs[i]=true
   ·rw [if_pos hp,if_pos hp];rfl
   ·rw [if_neg hp,if_neg hp,BX (by omega),LP hf K hl (n-1) (i+1) k s (by omega) (by omega) (by omega)]
    cases (xs.drop (i+1)).findIdx? p with
    | none=>rfl
    | some j=>simp only [Option.map_some];congr 1;omega
  ·rw [if_neg (by omega),List.drop_of_length_le (by omega)];rfl
theorem LG {xs:List Arr} {f:BA} {p:Arr→Bool} (hf:∀ x∈xs,f.g x=some (p x)) (hl:xs.length≤17592186044416) : Au xs f=some (xs.any p):=by
 unfold Au AY
 rw [CX]
 have:=LP hf (fun _=>some (-1)) hl xs.length 0 AQ 0 rfl (Nat.zero_le _) (B0 (by omega))
 rw [List.drop_zero,show ((0:Nat):Int)=0 from rfl] at this
 rw [this]
 cases h:xs.findIdx? p with
 | none =>
  rw [oB]
  have h1:=List.findIdx?_eq_none_iff.1 h
  have e:xs.any p=false:=List.any_eq_false.2 fun x hx=>by rw [h1 x hx];decide
  rw [e];rfl
 | some j =>
  rw [oB]
  congr 1
  have h2:xs.any p=true:=by
   have:=List.findIdx?_isSome (xs:=xs) (p:=p)
   rw [h] at this
   exact this.symm
  rw [h2]
  exact dT (by omega)
theorem R9 {e:Int×RT×Int} (he:e.1=0∨e.1=1) {l:List Arr} (hl:l.length≤17592186044416) (ho:∀ a∈l,okAr a) : Dg e l=some (!l.any fun a=>!decide (AT a)):=by
 have hc:=LG (xs:=l) (f:=(⟨.fn 72 [] [],fun x=>CF x⟩:BA)) (p:=fun a=>!decide (AT a)) (fun a ha=>by
  show CF a=_
  unfold CF;rw [GY (ho a ha)];rfl) hl
 unfold Dg
 rcases he with h|h
 ·rw [if_pos h,hc];rfl
 ·rw [if_neg (by omega),if_pos h,hc];rfl
theorem Ui {p:Prop} [Decidable p] (h:p) : EW p=some ():=if_pos h
theorem R0 {a:Arr} (oa:okAr a) (ra:AT a) {s':List Int} {n:Nat} {J:Nat→Nat} (hsz:szP a.shape=((n:Int),0)) (hsz':szP s'=((n:Int),0)) (h64:∀ z∈s',-9223372036854775808≤z∧z≤9223372036854775807) (hl:s'.length≤17592186044416)
  (hJ:n≠0→(∀ i,i<n→J i<n)∧∀ i j,i<n→j<n→J i=J j→i=j):okAr (.mk s' (if n=0 then [tyI (a.items.headD default)] else Cl a n J))∧AT (.mk s' (if n=0 then [tyI (a.items.headD default)] else Cl a n J)):=by
 have hlen:=Oy ra rfl hsz
 have hle:=Gx s'
 rw [hsz'] at hle
 by_cases h0:n=0
 ·rw [if_pos h0] at hlen ⊢
  have hz:szP a.shape=(0,0):=by rw [hsz,h0];rfl
  have hz':szP s'=(0,0):=by rw [hsz',h0];rfl
  have hm:=L9 oa ra hz h64 hl hz' (p:=tyI (a.items.headD default)) (.inr rfl)
  obtain ⟨x,hx⟩:=List.length_eq_one_iff.1 hlen
  obtain ⟨ox,rx⟩:=Ds oa ra (x:=x) (by rw [hx];simp)
  have hh:a.items.headD default=x:=by rw [hx];rfl
  rw [hh] at hm ⊢
  obtain ⟨t1,t2,t3,t4,t5,t6⟩:=KO ox rx.1
  obtain ⟨r,e,q1,q2,_⟩:=RM (xs:=[tyI x]) h64 hl (by simp) (by simp) (by simpa using ⟨t6,t1,t2▸rx.2.1,t3▸rx.2.2⟩)
  rw [hm] at q1
  cases q1
  exact ⟨(q2 rfl).1,(q2 rfl).2.1⟩
 ·rw [if_neg h0] at hlen ⊢
  obtain ⟨h1,h2⟩:=hJ h0
  refine ⟨?_,KP oa ra hsz' h0 hlen h1 h2⟩
  rw [Bj]
  exact ⟨h64,hl,by show (Cl a n J).length≤_;rw [EF];omega,fun x hx=>(Ds oa ra (Gd (fun i hi=>by rw [hlen];exact h1 i hi) x hx)).1⟩
theorem PJ {t:List Nat} : (up_ t).map Int.toNat=t:=by simp [up_,List.map_map,Function.comp_def]
theorem Q4 {b:Arr} {ax m n:Nat} {fr:List Nat} (ob:okAr b) (rb:AT b) (hsz:szP b.shape=((n:Int),0)) (hx:ax<b.shape.length) (hm:b.shape[ax]=(m:Int)) (f1:fr.length=m) (f2:∀ x∈fr,x<m) (f3:fr.Nodup) :
  BH b (ax:Int) (up_ fr)=some (.mk b.shape (if n=0 then [tyI (b.items.headD default)] else Cl b n (Bm (b.shape.map Int.toNat) ax fr)),0) ∧
  (n≠0→(∀ i,i<n→Bm (b.shape.map Int.toNat) ax fr i<n)∧∀ i j,i<n→j<n→Bm (b.shape.map Int.toNat) ax fr i=Bm (b.shape.map Int.toNat) ax fr j→i=j):=by
 obtain ⟨hd,h8⟩:=KT (s:=b.shape) (by rw [hsz])
 have hm2:m≤4096:=by have:=hd _ (List.getElem_mem hx);omega
 have hset:b.shape.set ax ((fr.length:Nat):Int)=b.shape:=Sq hx (by rw [f1];exact hm)
 have o:=(Bj b).1 ob
 by_cases h0':n=0
 ·refine ⟨?_,fun h=>absurd h0' h⟩
  have hz:szP b.shape=(0,0):=by rw [hsz,h0'];rfl
  have e:b.shape.set ax ((List.length (up_ fr):Nat):Int)=b.shape:=by rw [Bp];exact hset
  rw [OC (Nc ob rb) o.2.1 hx (by rw [e];exact hz),e,if_pos h0',L9 ob rb hz o.1 o.2.1 hz (.inr rfl)]
 ·obtain ⟨t,ht,hpos,hp,hn,ht8⟩:=P7 hsz h0'
  have hxt:ax<t.length:=by rw [ht,Bp] at hx;exact hx
  have hmt:t[ax]=m:=by
   have:=Lh hxt
   simp only [ht] at hm
   rw [hm] at this;omega
  have hlen:fr.length=t[ax]:=by rw [f1,hmt]
  have hfl:∀ x∈fr,x<t[ax]:=fun x hx=>by rw [hmt];exact f2 x hx
  have ht0:∀ x∈t,0<x:=fun x hx=>(hpos x hx).1
  have hst:t.set ax fr.length=t:=by rw [hlen];exact List.set_getElem_self hxt
  have hf0:0<fr.length:=by rw [hlen];exact ht0 _ (List.getElem_mem hxt)
  have hinj:=OM ht0 hxt hfl hlen f3
  have hlt:=fun i=>Hy ht0 hxt hfl hf0 i
  rw [hp] at hinj hlt
  have hl:=Oy rb rfl hsz
  rw [if_neg h0'] at hl
  have hdim:b.shape.map Int.toNat=t:=by rw [ht,PJ]
  rw [hdim]
  refine ⟨?_,fun _=>⟨fun i _=>hlt i,hinj⟩⟩
  rw [if_neg h0',QG (Nc ob rb) ht (by rw [hl,hp]) hpos ht8 (by rw [hp];exact hn) hxt hfl hf0 (by rw [f1];exact hm2) (by rw [hst,hp];exact hn),hst,hp,← ht]
  exact Ro ob rb o.1 o.2.1 hsz h0' hl (fun i _=>hlt i) hinj
theorem N5 {t:List Nat} {ax:Nat} {f1 f2 f3:List Nat} (ht:∀ x∈t,0<x) (hax:ax<t.length) (l1:f1.length=t[ax]) (l2:f2.length=t[ax]) (l3:f3.length=t[ax]) (h2:∀ x∈f2,x<t[ax]) (hc:∀ k,k<t[ax]→f3.getD k 0=f1.getD (f2.getD k 0) 0) (i:Nat) :
  Bm t ax f1 (Bm t ax f2 i)=Bm t ax f3 i:=by
 have h0:0<t[ax]:=ht _ (List.getElem_mem hax)
 have s1:t.set ax f1.length=t:=by rw [l1];exact List.set_getElem_self hax
 have s2:t.set ax f2.length=t:=by rw [l2];exact List.set_getElem_self hax
 have s3:t.set ax f3.length=t:=by rw [l3];exact List.set_getElem_self hax
 have v2:=Hx ht hax h2 (by omega) i
 have e2:atN t (Bm t ax f2 i)=(atN t i).set ax (f2.getD ((atN t i).getD ax 0) 0):=by
  unfold Bm
  rw [Ko v2,s2]
 have hla:ax<(atN t i).length:=by rw [CY];exact hax
 have hci:(atN t i).getD ax 0<t[ax]:=by
  have:=JV (I8 (t:=t) i ht) ax hla hax
  rw [lD,lG hla];exact this
 rw [show Bm t ax f1 (Bm t ax f2 i)=plN (stN t) ((atN (t.set ax f1.length) (Bm t ax f2 i)).set ax (f1.getD ((atN (t.set ax f1.length) (Bm t ax f2 i)).getD ax 0) 0)) from rfl]
 rw [s1,e2,List.set_set]
 have e3:((atN t i).set ax (f2.getD ((atN t i).getD ax 0) 0)).getD ax 0=f2.getD ((atN t i).getD ax 0) 0:=by
  rw [lD,List.getElem?_set_self hla];rfl
 rw [e3,← hc _ hci]
 unfold Bm
 rw [s3]
def Eg (z:Int) (m:Nat) : List Nat:=(List.range m).map fun (i:Nat)=>(((i:Int)+z) % (m:Int)).toNat
theorem Cv (z:Int) (m:Nat) : (Eg z m).length=m:=by simp [Eg]
theorem IL {z:Int} {m k:Nat} (h:k<m) : (Eg z m).getD k 0=(((k:Int)+z) % (m:Int)).toNat:=by
 unfold Eg
 rw [lD,List.getElem?_map,List.getElem?_range h];rfl
theorem M6 {z:Int} {m:Nat} : ∀ x∈Eg z m,x<m:=fun x hx=>by
 obtain ⟨i,hi,rfl⟩:=List.mem_map.1 hx
 have hi:=List.mem_range.1 hi
 have h1:=Int.emod_nonneg ((i:Int)+z) (b:=(m:Int)) (by omega)
 have h2:=Int.emod_lt_of_pos ((i:Int)+z) (b:=(m:Int)) (by omega)
 omega
theorem OD (z:Int) (m:Nat) : (Eg z m).Nodup:=by
 unfold Eg
 rw [List.Nodup,List.pairwise_map]
 have:(List.range m).Pairwise fun a b=>a≠b∧a<m∧b<m:=by
  refine List.Pairwise.imp_of_mem (fun {a b} ha hb h=>⟨h,List.mem_range.1 ha,List.mem_range.1 hb⟩) (List.nodup_range)
 refine this.imp fun {a b} ⟨h,ha,hb⟩ e=>h ?_
 have h1:=Int.emod_nonneg ((a:Int)+z) (b:=(m:Int)) (by omega)
 have h2:=Int.emod_nonneg ((b:Int)+z) (b:=(m:Int)) (by omega)
 have h3:((a:Int)+z) % (m:Int)=((b:Int)+z) % (m:Int):=by omega
 have h4:=Int.emod_emod_of_dvd ((a:Int)+z-z) (Int.dvd_refl (m:Int))
 have h5:((a:Int)+z-z) % (m:Int)=((b:Int)+z-z) % (m:Int):=by
  rw [Int.sub_emod,h3,← Int.sub_emod]
 rw [Int.add_sub_cancel,Int.add_sub_cancel,Int.emod_eq_of_lt (by omega) (by omega),Int.emod_eq_of_lt (by omega) (by omega)] at h5
 omega
theorem NZ (a m:Int) : (Int.tmod a m) % m=a % m:=by
 have h:=Int.tmod_add_mul_tdiv a m
 conv=>rhs;rw [← h]
 rw [Int.add_mul_emod_self_left]
theorem Rh {m i:Nat} {z:Int} (hm2:m≤4096) (hi:i<m) : Int.tmod (w64 ((Int.tmod (w64 ((i:Int)+Int.tmod z m)) m)+m)) m=((i:Int)+z) % m:=by
 have hp:(0:Int)<m:=by omega
 have b1:=Int.tmod_lt_of_pos z hp
 have b2:=Int.lt_tmod_of_pos z hp
 have e1:w64 ((i:Int)+Int.tmod z m)=(i:Int)+Int.tmod z m:=B1 (by omega) (by omega)
 rw [e1]
 have c1:=Int.tmod_lt_of_pos ((i:Int)+Int.tmod z m) hp
 have c2:=Int.lt_tmod_of_pos ((i:Int)+Int.tmod z m) hp
 rw [B1 (by omega) (by omega),Int.tmod_eq_emod_of_nonneg (by omega)]
 rw [Int.add_emod_right,NZ,Int.add_emod,NZ,← Int.add_emod]
theorem Nz {m:Nat} {z:Int} {r:List Int} (hm2:m≤4096) (hr:r.length=m) (K:List Int→Option (Arr×Int)) : ∀ (n i k:Nat),n=m-i→i≤m→n<k →
  BL (z,true) (m:Int) K k ((up_ (Eg z m)).take i++r.drop i) (i:Int)=K (up_ (Eg z m))
 | n,i,0,_,_,h=>by omega
 | n,i,k+1,hn,hi,hk=>by
  have hL:(up_ (Eg z m)).length=m:=by rw [Bp,Cv]
  rw [BL]
  have hlen:((List.length (List.replicate (Int.toNat (m:Int)) (0:Int)):Nat):Int)=m:=by simp
  rw [hlen]
  by_cases hlt:i<m
  ·have hm0:(m:Int)≠0:=by omega
   have hrd:∃ v,rd? ((up_ (Eg z m)).take i++r.drop i) (i:Int)=some v:=⟨_,BJ (by rw [List.length_append,List.length_take,List.length_drop];omega)⟩
   obtain ⟨v,hv⟩:=hrd
   rw [if_pos (by omega)]
   simp only [Ui hm0,oB]
   rw [hv,oB,Rh hm2 hlt,Int.toNat_natCast,BX (by omega)]
   have hLi:((i:Int)+z) % (m:Int)=(up_ (Eg z m))[i]'(by rw [hL];exact hlt):=by
    rw [Lh (by rw [Cv];exact hlt)]
    have:=IL (z:=z) hlt
    rw [lD,lG (by rw [Cv];exact hlt)] at this
    have h1:=Int.emod_nonneg ((i:Int)+z) (b:=(m:Int)) hm0
    have e:(Eg z m)[i]'(by rw [Cv];exact hlt)=(((i:Int)+z) % (m:Int)).toNat:=this
    rw [e];omega
   rw [hLi,NB (by rw [hL,hr]) (by rw [hL];exact hlt)]
   exact Nz hm2 hr K (n-1) (i+1) k (by omega) (by omega) (by omega)
  ·rw [if_neg (by omega)]
   have:i=m:=by omega
   subst this
   rw [List.take_of_length_le (by omega),List.drop_of_length_le (by omega),List.append_nil]
theorem NV {b:Arr} {z:Int} {ax:Int} (hz:GW z) (ob:okAr b) (rb:AT b) (hb:b.shape=[]) : A7 (.mk [] [HH z]) b ax=some (b,0):=by
 unfold A7
 rw [GL,GC (by simp),Kn,oB,if_pos rfl,Pv hz,oB,if_pos rfl,if_pos (by rw [hb];rfl),Tn ob rb];rfl
theorem OY {b:Arr} {z:Int} {ax m:Nat} (hz:GW z) (hx:ax<b.shape.length) (hm:b.shape[ax]=(m:Int)) (hm2:m≤4096) : A7 (.mk [] [HH z]) b (ax:Int)=BH b (ax:Int) (up_ (Eg z m)):=by
 unfold A7
 rw [GL,GC (by simp),Kn,oB,if_pos rfl,Pv hz,oB,if_pos rfl,if_neg (by omega),BJ hx,oB,hm,Ui (by omega),oB]
 have:=Nz (z:=z) (r:=List.replicate (Int.toNat (m:Int)) (0:Int)) hm2 (by simp) (fun z6=>(BH b (ax:Int) z6).bind fun x13=>some (x13.1,x13.2)) m 0 AQ (by omega) (by omega) (B0 (by omega))
 rw [List.take_zero,List.nil_append,List.drop_zero,show ((0:Nat):Int)=0 from rfl] at this
 rw [CX,this]
 cases BH b (ax:Int) (up_ (Eg z m))<;>rfl
end Go.FL
