/-
  Part 4 of the base of the proofs: a logic of our own over the calculus, the contracts of the functions
-/
import Derived.Test.YtjmalfcinmmekaaGreatPoC
set_option linter.unusedVariables false
namespace Go.FL
open Go Go.Proofs
def AU (a0:(List Int)) (a1:BY) (K0:Int→Option (Int)) : Nat→Int→Int→Option (Int)
 | 0,_,_=>none
 | k+1,s2,s3=>(if s3<((List.length a0:Nat):Int) then ((rd? a0 s3).bind fun x4=>((a1.g x4).bind fun x5=>(if x5=true then (some (s3)) else (AU a0 a1 K0 k s2 (w64 (s3+1)))))) else (K0 s2))
def BX (a0:(List Int)) (a1:BY) : Option (Int):=(jn (fun (z1:Int)=>(some ((-1)))) fun K0=>(AU a0 a1 K0 AK 0 0))
theorem FI {a0:(List Int)} {a1:BY} (oa1:Kf a1) {r:Int} (h:BX a0 a1=some r) :
  Fn Tryz.prog 150 [.sl (Is a0),a1.dv] (.d (.i .i64 r)):=by
 unfold BX at h
 refine Fn.o1 4 19 Tryz.func150 ?_;refine .sr ?_;refine ar [0,1,4] ?_;refine .seq ?_;refine .sr ?_;refine va ?_;refine vk (A8 (Ai _) (CT _) Cu) ?_;refine va ?_;refine rk [0,1,4,7,8] ?_
 obtain ⟨K0,hK0,h⟩:=AP h
 refine AW.mr (σ:=Int) (fun p=>K0 p=some r) (fun p=>[(4,.d (.i .i64 p))]) (fun p=>[]) ?_ ?_
 ·skip
  refine .block ?_
  refine .loop (.gk [0,1,4,7,8] ?_)
  refine AL.ind (σ:=Nat×Int×Int) (m:=fun p=>p.1) (e:=fun p=>[(0,.d (.sl (Is a0))),(1,.d (a1.dv)),(4,.d (.i .i64 p.2.1)),(7,.d (.i .i64 ((List.length a0:Nat):Int))),(8,.d (.i .i64 p.2.2))]) (h:=fun p=>[]) (I:=fun p=>AU a0 a1 K0 p.1 p.2.1 p.2.2=some r) ?_ (AK,0,0) h
  rintro ⟨k,s2,s3⟩ h ih
  dsimp only at h ih ⊢
  rcases k with _|k
  ·rw [AU] at h;cases h
  rw [AU] at h
  refine .sr ?_;refine vb ?_;refine rk [0,1,4,7,8,9] ?_;refine .seq ?_
  rcases brc h with ⟨hc,h⟩|⟨hc,h⟩
  ·refine cnt (dT hc) ?_
   refine .sk ?_;refine .seq ?_;refine .block ?_;refine .sr ?_;refine va ?_;refine ar [0,1,4,5,7,8] ?_;refine .sr ?_;refine va ?_;refine va ?_;refine va ?_
   obtain ⟨x4,g4,h⟩:=bnd h
   obtain ⟨n4,p04,q4⟩:=Aj g4
   refine vk (vix n4 p04 (BC q4) rfl Bo) ?_;refine vk (Am AS) ?_
   obtain ⟨x5,g5,h⟩:=bnd h
   refine vk (MC (oa1 _ _ g5)) ?_;refine rk [0,1,4,5,7,8,16] ?_
   rcases brc h with ⟨hc,h⟩|⟨hc,h⟩
   ·refine cnt hc ?_
    refine .sr ?_;refine va ?_;refine ar [0,1,4,7,8] ?_;refine .ret ?_
    cases h
    exact ⟨rfl,rfl⟩
   refine cnf (bf hc) ?_;refine .sk ?_;refine .region ?_;refine vb ?_;refine va ?_;refine .nil ?_;refine AL.gk [0,1,4,7,8] ?_
   exact ih (k,s2,(w64 (s3+1))) h (Nat.lt_succ_self _)
  refine cnf (dF hc) ?_;refine .gk [4] ?_;refine .exit ?_
  exact jr (s2) h
 rintro z1 h
 try dsimp only at h ⊢
 subst hK0
 refine aw ?_;refine .sr ?_;refine ar [4] ?_;refine .ret ?_
 cases h
 exact ⟨rfl,rfl⟩
def A5 (a0:(List Int)) (a1:BY) : Option (Bool):=((BX a0 a1).bind fun x1=>(some ((decide (0≤x1)))))
theorem C7 {a0:(List Int)} {a1:BY} (oa1:Kf a1) {r:Bool} (h:A5 a0 a1=some r) :
  Fn Tryz.prog 118 [.sl (Is a0),a1.dv] (.d (.b r)):=by
 unfold A5 at h
 refine Fn.o1 4 9 Tryz.func118 ?_;refine .sr ?_;refine ar [0,1,4] ?_;refine .sr ?_;refine va ?_;refine va ?_
 obtain ⟨x1,g1,h⟩:=bnd h
 refine vk (Ah (FI oa1 g1) Tryz.call150) ?_;refine vb ?_;refine ar [4] ?_;refine .ret ?_
 cases h
 exact ⟨rfl,rfl⟩
def A6 (a0:(List Int)) (a1:Int) (K0:Int→Option (Int)) : Nat→Int→Int→Option (Int)
 | 0,_,_=>none
 | k+1,s2,s3=>(if s3<((List.length a0:Nat):Int) then ((rd? a0 s3).bind fun x4=>(if a1=x4 then (some (s3)) else (A6 a0 a1 K0 k s2 (w64 (s3+1))))) else (K0 s2))
def CE (a0:(List Int)) (a1:Int) : Option (Int):=(jn (fun (z1:Int)=>(some ((-1)))) fun K0=>(A6 a0 a1 K0 AK 0 0))
theorem Hp {a0:(List Int)} {a1:Int} {r:Int} (h:CE a0 a1=some r) :
  Fn Tryz.prog 169 [.sl (Is a0),.i .i64 a1] (.d (.i .i64 r)):=by
 unfold CE at h
 refine Fn.o1 4 19 Tryz.func169 ?_;refine .sr ?_;refine ar [0,1,4] ?_;refine .seq ?_;refine .sr ?_;refine va ?_;refine vk (A8 (Ai _) (CT _) Cu) ?_;refine va ?_;refine rk [0,1,4,7,8] ?_
 obtain ⟨K0,hK0,h⟩:=AP h
 refine AW.mr (σ:=Int) (fun p=>K0 p=some r) (fun p=>[(4,.d (.i .i64 p))]) (fun p=>[]) ?_ ?_
 ·skip
  refine .block ?_
  refine .loop (.gk [0,1,4,7,8] ?_)
  refine AL.ind (σ:=Nat×Int×Int) (m:=fun p=>p.1) (e:=fun p=>[(0,.d (.sl (Is a0))),(1,.d (.i .i64 a1)),(4,.d (.i .i64 p.2.1)),(7,.d (.i .i64 ((List.length a0:Nat):Int))),(8,.d (.i .i64 p.2.2))]) (h:=fun p=>[]) (I:=fun p=>A6 a0 a1 K0 p.1 p.2.1 p.2.2=some r) ?_ (AK,0,0) h
  rintro ⟨k,s2,s3⟩ h ih
  dsimp only at h ih ⊢
  rcases k with _|k
  ·rw [A6] at h;cases h
  rw [A6] at h
  refine .sr ?_;refine vb ?_;refine rk [0,1,4,7,8,9] ?_;refine .seq ?_
  rcases brc h with ⟨hc,h⟩|⟨hc,h⟩
  ·refine cnt (dT hc) ?_
   refine .sk ?_;refine .seq ?_;refine .block ?_;refine .sr ?_;refine va ?_;refine ar [0,1,4,5,7,8] ?_;refine .sr ?_;refine va ?_;refine va ?_;refine va ?_
   obtain ⟨x4,g4,h⟩:=bnd h
   obtain ⟨n4,p04,q4⟩:=Aj g4
   refine vk (vix n4 p04 (BC q4) rfl Bo) ?_;refine vk (Am AS) ?_;refine vb ?_;refine rk [0,1,4,5,7,8,16] ?_
   rcases brc h with ⟨hc,h⟩|⟨hc,h⟩
   ·refine cnt (dT hc) ?_
    refine .sr ?_;refine va ?_;refine ar [0,1,4,7,8] ?_;refine .ret ?_
    cases h
    exact ⟨rfl,rfl⟩
   refine cnf (dF hc) ?_;refine .sk ?_;refine .region ?_;refine vb ?_;refine va ?_;refine .nil ?_;refine AL.gk [0,1,4,7,8] ?_
   exact ih (k,s2,(w64 (s3+1))) h (Nat.lt_succ_self _)
  refine cnf (dF hc) ?_;refine .gk [4] ?_;refine .exit ?_
  exact jr (s2) h
 rintro z1 h
 try dsimp only at h ⊢
 subst hK0
 refine aw ?_;refine .sr ?_;refine ar [4] ?_;refine .ret ?_
 cases h
 exact ⟨rfl,rfl⟩
def BF (a0:(List Int)) (a1:Int) : Option (Bool):=((CE a0 a1).bind fun x1=>(some ((decide (0≤x1)))))
theorem Gs {a0:(List Int)} {a1:Int} {r:Bool} (h:BF a0 a1=some r) :
  Fn Tryz.prog 121 [.sl (Is a0),.i .i64 a1] (.d (.b r)):=by
 unfold BF at h
 refine Fn.o1 4 9 Tryz.func121 ?_;refine .sr ?_;refine ar [0,1,4] ?_;refine .sr ?_;refine va ?_;refine va ?_
 obtain ⟨x1,g1,h⟩:=bnd h
 refine vk (Ah (Hp g1) Tryz.call169) ?_;refine vb ?_;refine ar [4] ?_;refine .ret ?_
 cases h
 exact ⟨rfl,rfl⟩
def HI (a0:Int) : Option (Bool):=(some ((decide (a0<0))))
theorem LU {a0:Int} {r:Bool} (h:HI a0=some r) :
  Fn Tryz.prog 119 [.i .i64 a0] (.d (.b r)):=by
 unfold HI at h
 refine Fn.o1 2 5 Tryz.func119 ?_;refine .sr ?_;refine ar [0,2] ?_;refine .sr ?_;refine va ?_;refine vb ?_;refine ar [2] ?_;refine .ret ?_
 cases h
 exact ⟨rfl,rfl⟩
def Hx (a0:Int) : Option (Bool):=(some ((decide (4096<a0))))
theorem LJ {a0:Int} {r:Bool} (h:Hx a0=some r) :
  Fn Tryz.prog 120 [.i .i64 a0] (.d (.b r)):=by
 unfold Hx at h
 refine Fn.o1 2 5 Tryz.func120 ?_;refine .sr ?_;refine ar [0,2] ?_;refine .sr ?_;refine va ?_;refine vb ?_;refine ar [2] ?_;refine .ret ?_
 cases h
 exact ⟨rfl,rfl⟩
def CO (a0:(List Int)) (K0:Int→Int→Int→Option (Int×Int)) : Nat→Int→Int→Int→Int→Option (Int×Int)
 | 0,_,_,_,_=>none
 | k+1,s7,s8,s9,s10=>(if s10<((List.length a0:Nat):Int) then ((rd? a0 s10).bind fun x11=>((G6 (s9≠0)).bind fun x12=>(if (w64 (Int.tdiv 4096 s9))<x11 then (some (0,8)) else (CO a0 K0 k s7 s8 (w64 (s9 * x11)) (w64 (s10+1)))))) else (K0 s7 s8 s9))
def Dc (a0:(List Int)) : Option (Int×Int):=(if 8<((List.length a0:Nat) : Int) then (some (0,4)) else ((A5 a0 (⟨.fn 119 [] [],fun x=>HI x⟩ : BY)).bind fun x1=>(if x1=true then (some (0,3)) else ((A5 a0 (⟨.fn 120 [] [],fun x=>Hx x⟩ : BY)).bind fun x2=>(if x2=true then (some (0,8)) else ((BF a0 0).bind fun x3=>(if x3=true then (some (0,0)) else (jn (fun (z4:Int) (z5:Int) (z6:Int)=>(some (z6,0))) fun K0=>(CO a0 K0 AK 0 0 1 0)))))))))
theorem Fa {a0:(List Int)} {r:Int×Int} (h:Dc a0=some r) :
  Fn Tryz.prog 56 [.sl (Is a0)] (.tup [.d (.i .i64 r.1),.d (.i .i64 r.2)]):=by
 unfold Dc at h
 refine Fn.of (rs:=[.tmp 2,.tmp 3]) (nt:=35) Tryz.func56 rfl rfl rfl (by simp) rfl ?_;refine .sr ?_;refine asd ?_;refine ar [0,2,3] ?_;refine .seq ?_;refine .block ?_;refine .sr ?_;refine va ?_;refine vk (A8 (Ai _) (CT _) Cu) ?_;refine vb ?_;refine ar [0,2,3,7] ?_
 rcases brc h with ⟨hc,h⟩|⟨hc,h⟩
 ·refine cnt (dT hc) ?_
  refine .sr ?_;refine asd ?_;refine ar [0,2,3] ?_;refine .ret ?_
  cases h
  exact ⟨by decide,rfl,rfl,rfl⟩
 refine cnf (dF hc) ?_;refine .sr ?_;refine va ?_
 obtain ⟨x1,g1,h⟩:=bnd h
 refine vk (Ah (C7 (KL Tryz.call119 (fun _ _ h=>LU h)) g1) Tryz.call118) ?_;refine ar [0,2,3,11] ?_
 rcases brc h with ⟨hc,h⟩|⟨hc,h⟩
 ·refine cnt hc ?_
  refine .sr ?_;refine asd ?_;refine ar [0,2,3] ?_;refine .ret ?_
  cases h
  exact ⟨by decide,rfl,rfl,rfl⟩
 refine cnf (bf hc) ?_;refine .sr ?_;refine va ?_
 obtain ⟨x2,g2,h⟩:=bnd h
 refine vk (Ah (C7 (KL Tryz.call120 (fun _ _ h=>LJ h)) g2) Tryz.call118) ?_;refine ar [0,2,3,14] ?_
 rcases brc h with ⟨hc,h⟩|⟨hc,h⟩
 ·refine cnt hc ?_
  refine .sr ?_;refine asd ?_;refine ar [0,2,3] ?_;refine .ret ?_
  cases h
  exact ⟨by decide,rfl,rfl,rfl⟩
 refine cnf (bf hc) ?_;refine .sr ?_;refine va ?_
 obtain ⟨x3,g3,h⟩:=bnd h
 refine vk (Ah (Gs g3) Tryz.call121) ?_;refine ar [0,2,3,17] ?_
 rcases brc h with ⟨hc,h⟩|⟨hc,h⟩
 ·refine cnt hc ?_
  refine .sr ?_;refine asd ?_;refine ar [0,2,3] ?_;refine .ret ?_
  cases h
  exact ⟨by decide,rfl,rfl,rfl⟩
 refine cnf (bf hc) ?_;refine .sk ?_;refine .sr ?_;refine ar [0,2,3,4] ?_;refine .seq ?_;refine .sr ?_;refine va ?_;refine vk (A8 (Ai _) (CT _) Cu) ?_;refine va ?_;refine rk [2,3,4,20,21,22] ?_
 obtain ⟨K0,hK0,h⟩:=AP h
 refine AW.mr (σ:=Int×Int×Int) (fun p=>K0 p.1 p.2.1 p.2.2=some r) (fun p=>[(2,.d (.i .i64 p.1)),(3,.d (.i .i64 p.2.1)),(4,.d (.i .i64 p.2.2))]) (fun p=>[]) ?_ ?_
 ·skip
  refine .block ?_
  refine .loop (.gk [2,3,4,20,21,22] ?_)
  refine AL.ind (σ:=Nat×Int×Int×Int×Int) (m:=fun p=>p.1) (e:=fun p=>[(2,.d (.i .i64 p.2.1)),(3,.d (.i .i64 p.2.2.1)),(4,.d (.i .i64 p.2.2.2.1)),(20,.d (.sl (Is a0))),(21,.d (.i .i64 ((List.length a0:Nat):Int))),(22,.d (.i .i64 p.2.2.2.2))]) (h:=fun p=>[]) (I:=fun p=>CO a0 K0 p.1 p.2.1 p.2.2.1 p.2.2.2.1 p.2.2.2.2=some r) ?_ (AK,0,0,1,0) h
  rintro ⟨k,s7,s8,s9,s10⟩ h ih
  dsimp only at h ih ⊢
  rcases k with _|k
  ·rw [CO] at h;cases h
  rw [CO] at h
  refine .sr ?_;refine vb ?_;refine rk [2,3,4,20,21,22,23] ?_;refine .seq ?_
  rcases brc h with ⟨hc,h⟩|⟨hc,h⟩
  ·refine cnt (dT hc) ?_
   refine .sk ?_;refine .seq ?_;refine .block ?_;refine .sr ?_
   obtain ⟨x11,g11,h⟩:=bnd h
   obtain ⟨n11,p011,q11⟩:=Aj g11
   refine vk (vix n11 p011 (BC q11) rfl Bo) ?_;refine vk (Am AS) ?_;refine ar [2,3,4,6,20,21,22] ?_;refine .seq ?_;refine .sr ?_;refine va ?_;refine va ?_
   obtain ⟨x12,g12,h⟩:=bnd h
   refine vk (Pe (IS g12)) ?_;refine vb ?_;refine rk [2,3,4,6,20,21,22,29] ?_
   rcases brc h with ⟨hc,h⟩|⟨hc,h⟩
   ·refine cnt (dT hc) ?_
    refine .sr ?_;refine asd ?_;refine ar [2,3,4,6,20,21,22] ?_;refine .ret ?_
    cases h
    exact ⟨by decide,rfl,rfl,rfl⟩
   refine cnf (dF hc) ?_;refine .sk ?_;refine .region ?_;refine va ?_;refine va ?_;refine vb ?_;refine asd ?_;refine .nil ?_;refine aw ?_;refine .gk [2,3,4,20,21,22] ?_;refine .region ?_;refine vb ?_;refine va ?_;refine .nil ?_;refine AL.gk [2,3,4,20,21,22] ?_
   exact ih (k,s7,s8,(w64 (s9 * x11)),(w64 (s10+1))) h (Nat.lt_succ_self _)
  refine cnf (dF hc) ?_;refine .gk [2,3,4] ?_;refine .exit ?_
  exact jr (s7,s8,s9) h
 rintro ⟨z4,z5,z6⟩ h
 try dsimp only at h ⊢
 subst hK0
 refine aw ?_;refine .sr ?_;refine va ?_;refine asd ?_;refine ar [2,3] ?_;refine .ret ?_
 cases h
 exact ⟨by decide,rfl,rfl,rfl⟩
def C4 (a0:Arr) : Option (Bool):=(Option.bind ((if ((List.length a0.shape:Nat) : Int)=0 then (if ((List.length a0.items:Nat) : Int)=1 then ((rd? a0.items 0).bind fun x2=>(some (!(decide (x2.kind=3))))) else (some false)) else (some false)) : Option (Bool)) fun (z1:Bool)=>(some (z1)))
theorem GL {a0:Arr} {r:Bool} (h:C4 a0=some r) :
  Fn Tryz.prog 82 [.ag [.sl (Is a0.shape),.sl (Its a0.items)]] (.d (.b r)):=by
 unfold C4 at h
 refine Fn.o1 2 21 Tryz.func82 ?_;refine .sr ?_;refine vk vbx ?_;refine ar [1,2] ?_;refine .seq ?_
 obtain ⟨z1,hz,h⟩:=bnd h
 refine AW.mr (σ:=Unit) (fun _=>True) (fun _=>[(2,.d (.b z1))]) (fun _=>[]) ?_ ?_
 ·skip
  refine .region ?_;refine vk (vfa Bh) ?_;refine vk (Am CS) ?_;refine vk (A8 (Ai _) (CT _) Cu) ?_;refine vb ?_
  rcases brc hz with ⟨hc,hz⟩|⟨hc,hz⟩
  ·have hb0:(decide (((List.length a0.shape:Nat):Int)=0))=true:=(dT hc)
   refine vL hb0 ?_;refine vk (vfa AY) ?_;refine vk (Am BR) ?_;refine vk (A8 (AC _) (BT _) BU) ?_;refine vb ?_;refine vk Ag ?_
   rcases brc hz with ⟨hc,hz⟩|⟨hc,hz⟩
   ·have hb1:(decide (((List.length a0.items:Nat):Int)=1))=true:=(dT hc)
    refine vL hb1 ?_;refine vk (vfa AY) ?_;refine vk (Am BR) ?_
    obtain ⟨x2,g2,hz⟩:=bnd hz
    obtain ⟨n2,p02,q2⟩:=Aj g2
    refine vk (vix n2 p02 (CR q2) rfl CK) ?_;refine vk (vfa Bp) ?_;refine vk (Am AT) ?_;refine vb ?_;refine vk Ag ?_;refine asd ?_;refine RL.gk [2] ?_;refine .nil ?_
    cases hz
    exact jr () trivial
   have hb1:(decide (((List.length a0.items:Nat):Int)=1))=false:=(dF hc)
   refine vL hb1 ?_;refine gf4 ?_;refine gf2 ?_;refine vk Ag ?_;refine asd ?_;refine RL.gk [2] ?_;refine .nil ?_
   cases hz
   exact jr () trivial
  have hb0:(decide (((List.length a0.shape:Nat):Int)=0))=false:=(dF hc)
  refine vL hb0 ?_;refine gf4 ?_;refine vk Ag ?_;refine va ?_;refine gf4 ?_;refine gf2 ?_;refine vk Ag ?_;refine asd ?_;refine RL.gk [2] ?_;refine .nil ?_
  cases hz
  exact jr () trivial
 rintro _ _
 refine .ret ?_
 cases h
 exact ⟨rfl,rfl⟩
def FG (a0:Int) : Option (Bool):=(some (((decide (0≤a0))&&((decide (a0≤1114111))&&((decide (a0<55296))||(decide (57343<a0)))))))
theorem LS {a0:Int} {r:Bool} (h:FG a0=some r) :
  Fn Tryz.prog 170 [.i .i32 a0] (.d (.b r)):=by
 unfold FG at h
 refine Fn.o1 2 17 Tryz.func170 ?_;refine .sr ?_;refine ar [0,2] ?_;refine .seq ?_;refine AW.mr (σ:=Unit) (fun _=>True) (fun _=>[(2,.d (.b ((decide (0≤a0))&&((decide (a0≤1114111))&&((decide (a0<55296))||(decide (57343<a0)))))))]) (fun _=>[]) ?_ ?_
 ·skip
  refine .region ?_;refine va ?_;refine vb ?_
  by_cases hc:0≤a0
  ·have hb0:(decide (0≤a0))=true:=(dT hc)
   refine vL hb0 ?_;refine va ?_;refine vb ?_;refine vk Ag ?_
   by_cases hc:a0≤1114111
   ·have hb1:(decide (a0≤1114111))=true:=(dT hc)
    refine vL hb1 ?_;refine va ?_;refine vb ?_
    by_cases hc:a0<55296
    ·have hb2:(decide (a0<55296))=true:=(dT hc)
     refine vL hb2 ?_;refine gf2 ?_;refine vk Ag ?_;refine vk Ag ?_;refine asd ?_;refine RL.gk [2] ?_;refine .nil ?_
     exact jr () trivial (by simp only [hb0,hb1,hb2];rfl)
    have hb2:(decide (a0<55296))=false:=(dF hc)
    refine vL hb2 ?_;refine va ?_;refine vb ?_;refine vk Ag ?_;refine vk Ag ?_;refine asd ?_;refine RL.gk [2] ?_;refine .nil ?_
    exact jr () trivial (by simp only [hb0,hb1,hb2];rfl)
   have hb1:(decide (a0≤1114111))=false:=(dF hc)
   refine vL hb1 ?_;refine gf2 ?_;refine gfu ?_;refine gf3 ?_;refine vk Ag ?_;refine asd ?_;refine RL.gk [2] ?_;refine .nil ?_
   exact jr () trivial (by simp only [hb0,hb1];rfl)
  have hb0:(decide (0≤a0))=false:=(dF hc)
  refine vL hb0 ?_;refine gf2 ?_;refine vk Ag ?_;refine va ?_;refine gf2 ?_;refine gfu ?_;refine gf3 ?_;refine vk Ag ?_;refine asd ?_;refine RL.gk [2] ?_;refine .nil ?_
  exact jr () trivial (by simp only [hb0];rfl)
 rintro _ _
 refine .ret ?_
 cases h
 exact ⟨rfl,rfl⟩
theorem Vh : 0<AA Tryz.prog 3:=by rw [D7];decide
def EW (a:(List Int)) : Option ((List Int)):=ap? 17592186044416 [] a
theorem Ju {a r:(List Int)} (h:EW a=some r) : Fn Tryz.prog 60 [.sl (Is a)] (.own 3 (Is r)):=by
 unfold EW at h
 refine Fn.o1 2 8 Tryz.func60 ?_;refine .sr ?_;refine asn ?_;refine rn ?_;refine .seq ?_;refine .sr ?_;refine mvd ?_
 refine nq (fun b hb=>?_) (CT _) Cu
 refine rn ?_
 refine cnd (fun hc=>?_) (fun hc=>?_)
 ·simp only [if_true] at hc
  have h0:Is a=[]:=by
   apply Classical.byContradiction
   intro h;rw [hb h] at hc;cases hc
  have h1:r=[]:=by
   have:=(L7 h).2
   rw [this,List.nil_append]
   exact List.length_eq_zero_iff.1 (by rw [← Ai a,h0];rfl)
  subst h1
  refine .sr ?_;refine asn ?_;refine rn ?_;refine .gh (Gh.nlOwn (t:=2) 3 Vh rfl) ?_;refine .ret ?_
  exact ⟨rfl,rfl⟩
 ·refine .sk ?_
  refine .sr ?_;refine vk (Hk (ds':=Is []) rfl (GM []) Hf) ?_;refine mvd ?_
  refine Zg RN h US ?_ PK Ai Hf
  refine aso ?_;refine rn ?_;refine .ret ?_
  exact ⟨rfl,rfl⟩
def CA (a0:RT) : Option (RT):=((FJ a0.2.1).bind fun x1=>((FJ a0.2.2).bind fun x2=>(some ((a0.1,x1,x2)))))
theorem Gt {a0:RT} {r:RT} (h:CA a0=some r) :
  Fn Tryz.prog 91 [.ag [.b a0.1,.sl (L a0.2.1),.sl (L a0.2.2)]] (.d (.ag [.b r.1,.sl (L r.2.1),.sl (L r.2.2)])):=by
 unfold CA at h
 refine Fn.ofC (rs:=[.cell 2 34]) (nt:=12) Tryz.func91 rfl rfl rfl (by simp) rfl ?_;refine .sr ?_;refine vk vbx ?_;refine vk (van (Ap Fq) Fr) ?_;refine rk [1,2] ?_;refine .seq ?_;refine .drawn 9 A2 (by kernel_rfl) ?_;refine dv (vfa E4) ?_;refine dv (Am D0) ?_;refine dv (vfa D6) ?_;refine dv (Am ET) ?_
 obtain ⟨x1,g1,h⟩:=bnd h
 refine dv ((Ah (EU g1) Tryz.call151).deep) ?_;refine dv (vfa Ga) ?_;refine dv (Am ET) ?_
 obtain ⟨x2,g2,h⟩:=bnd h
 refine dv ((Ah (EU g2) Tryz.call151).deep) ?_;refine dv (vbd KJ Fq Fr) ?_;refine dz ?_
 refine stn ?_ AE (by decide)
 refine rk [2] ?_;refine .ret ?_
 cases h
 exact ⟨_,⟨.inr rfl,A4,AE,p3⟩,rfl⟩
def Ce (a0:RT) : Option (Itm):=((CA a0).bind fun x1=>(some ((Itm.mk 1 x1 0 []))))
theorem En {a0:RT} {r:Itm} (h:Ce a0=some r) :
  Fn Tryz.prog 36 [.ag [.b a0.1,.sl (L a0.2.1),.sl (L a0.2.2)]] (.d (.ag [.i .u8 r.kind,.b r.num.1,.sl (L r.num.2.1),.sl (L r.num.2.2),.i .i32 r.char,.sl (Ars r.box)])):=by
 unfold Ce at h
 refine Fn.ofC (rs:=[.cell 2 51]) (nt:=6) Tryz.func36 rfl rfl rfl (by simp) rfl ?_;refine .sr ?_;refine vk vbx ?_;refine vk (van (Ap CN) CQ) ?_;refine rk [1,2] ?_;refine .sr ?_;refine vk (Aq A4 AE) ?_
 obtain ⟨x1,g1,h⟩:=bnd h
 refine vk (Ah (Gt g1) Tryz.call91) ?_;refine vk (vbd KG CN CQ) ?_
 refine stn ?_ As (by decide)
 refine rk [2] ?_;refine .ret ?_
 cases h
 exact ⟨_,⟨.inr rfl,AB,As,p6⟩,rfl⟩
def Jx (a0:Int) : Option (Itm):=(some ((Itm.mk 2 (false,[],[]) a0 [])))
theorem NS {a0:Int} {r:Itm} (h:Jx a0=some r) :
  Fn Tryz.prog 124 [.i .i32 a0] (.d (.ag [.i .u8 r.kind,.b r.num.1,.sl (L r.num.2.1),.sl (L r.num.2.2),.i .i32 r.char,.sl (Ars r.box)])):=by
 unfold Jx at h
 refine Fn.ofC (rs:=[.cell 2 51]) (nt:=5) Tryz.func124 rfl rfl rfl (by simp) rfl ?_;refine .sr ?_;refine vk (van (Ap CN) CQ) ?_;refine rk [0,2] ?_;refine .sr ?_;refine va ?_;refine vk (vbd KG CN CQ) ?_
 refine stn ?_ As (by decide)
 refine rk [2] ?_;refine .ret ?_
 cases h
 exact ⟨_,⟨.inr rfl,AB,As,p6⟩,rfl⟩
def FH (a0:Itm) : Option (Arr):=(some ((Arr.mk [] [a0])))
theorem H7 {a0:Itm} {r:Arr} (h:FH a0=some r) :
  Fn Tryz.prog 35 [.ag [.i .u8 a0.kind,.b a0.num.1,.sl (L a0.num.2.1),.sl (L a0.num.2.2),.i .i32 a0.char,.sl (Ars a0.box)]] (.d (.ag [.sl (Is r.shape),.sl (Its r.items)])):=by
 unfold FH at h
 refine Fn.ofC (rs:=[.cell 2 27]) (nt:=6) Tryz.func35 rfl rfl rfl (by simp) rfl ?_;refine .sr ?_;refine vk vbx ?_;refine vk (van (Ap A3) Bg) ?_;refine rk [1,2] ?_;refine .sr ?_;refine vk (Aq AB As) ?_;refine vk ((Hk (HV a0) (F4 [a0]) Ge).deep) ?_;refine vk (vbd Dd A3 Bg) ?_
 refine stn ?_ Ad (by decide)
 refine rk [2] ?_;refine .ret ?_
 cases h
 exact ⟨_,⟨.inr rfl,Al,Ad,p2⟩,rfl⟩
def KT (a0:Int) : Option (Arr):=((Ec a0).bind fun x1=>((Ce x1).bind fun x2=>((FH x2).bind fun x3=>(some (x3)))))
theorem PG {a0:Int} {r:Arr} (h:KT a0=some r) :
  Fn Tryz.prog 12 [.i .i64 a0] (.d (.ag [.sl (Is r.shape),.sl (Its r.items)])):=by
 unfold KT at h
 refine Fn.ofC (rs:=[.cell 2 27]) (nt:=7) Tryz.func12 rfl rfl rfl (by simp) rfl ?_;refine .sr ?_;refine vk (van (Ap A3) Bg) ?_;refine rk [0,2] ?_;refine .sr ?_;refine va ?_
 obtain ⟨x1,g1,h⟩:=bnd h
 refine vk (Ah (Ev g1) Tryz.call37) ?_
 obtain ⟨x2,g2,h⟩:=bnd h
 refine vk (Ah (En g2) Tryz.call36) ?_
 obtain ⟨x3,g3,h⟩:=bnd h
 refine vk (Ah (H7 g3) Tryz.call35) ?_
 refine stn ?_ Ad (by decide)
 refine rk [2] ?_;refine .ret ?_
 cases h
 exact ⟨_,⟨.inr rfl,Al,Ad,p2⟩,rfl⟩
def Cb (a0:Arr) (a1:B5) (K0:(List Int)→(List Itm)→Option (Arr)) : Nat→Int→(List Int)→(List Itm)→Option (Arr)
 | 0,_,_,_=>none
 | k+1,s4,s5,s6=>(if s4<((List.length a0.items:Nat):Int) then ((rd? a0.items s4).bind fun x7=>((a1.g x7).bind fun x8=>((ap? 1466015503701 s6 [x8]).bind fun x9=>(Cb a0 a1 K0 k (w64 (s4+1)) s5 x9)))) else (K0 s5 s6))
def Cj (a0:Arr) (a1:B5) : Option (Arr):=((EW a0.shape).bind fun x1=>(jn (fun (z2:(List Int)) (z3:(List Itm))=>(some ((Arr.mk z2 z3)))) fun K0=>(Cb a0 a1 K0 AK 0 x1 [])))
theorem Em {a0:Arr} {a1:B5} (oa1:QU a1) {r:Arr} (h:Cj a0 a1=some r) :
  Fn Tryz.prog 80 [.ag [.sl (Is a0.shape),.sl (Its a0.items)],a1.dv] (.d (.ag [.sl (Is r.shape),.sl (Its r.items)])):=by
 unfold Cj at h
 refine Fn.ofC (rs:=[.cell 4 27]) (nt:=29) Tryz.func80 rfl rfl rfl (by simp) rfl ?_;refine .sr ?_;refine vk vbx ?_;refine vk (van (Ap A3) Bg) ?_;refine rk [1,2,4] ?_;refine .sr ?_;refine vk (vfa Bh) ?_;refine vk (Am CS) ?_
 obtain ⟨x1,g1,h⟩:=bnd h
 refine vk ((Ah (Ju g1) Tryz.call60).deep) ?_;refine vk (YC Dd A3 (fun w I μ=>PJ w I μ)) ?_;refine vk (van (Ap A3) Bg) ?_
 refine XS ?_ Ad (by decide)
 refine rk [1,2,4,5] ?_;refine .seq ?_;refine .sr ?_;refine vk (vfa AY) ?_;refine vk (Am BR) ?_;refine vk (A8 (AC _) (BT _) BU) ?_;refine va ?_;refine rk [1,4,5,13,14,15] ?_
 obtain ⟨K0,hK0,h⟩:=AP h
 refine AW.mr (σ:=(List Int)×(List Itm)) (fun p=>K0 p.1 p.2=some r) (fun p=>[(4,.nb [.sl (Is []),.sl (Its [])]),(5,.bp 0 0)]) (fun p=>[HO.box [.d (.sl (Is p.1)),.own 51 (Its p.2)]]) ?_ ?_
 ·skip
  refine .block ?_;refine .gh (Gh.nlOwnC (id:=0) (off:=1) 51 (by rw [RP];decide)) ?_
  refine .loop (.gk [1,4,5,13,14,15] ?_)
  refine AL.ind (σ:=Nat×Int×(List Int)×(List Itm)) (m:=fun p=>p.1) (e:=fun p=>[(1,.d (a1.dv)),(4,.nb [.sl (Is []),.sl (Its [])]),(5,.bp 0 0),(13,.d (.sl (Its a0.items))),(14,.d (.i .i64 ((List.length a0.items:Nat):Int))),(15,.d (.i .i64 p.2.1))]) (h:=fun p=>[HO.box [.d (.sl (Is p.2.2.1)),.own 51 (Its p.2.2.2)]]) (I:=fun p=>Cb a0 a1 K0 p.1 p.2.1 p.2.2.1 p.2.2.2=some r) ?_ (AK,0,x1,[]) h
  rintro ⟨k,s4,s5,s6⟩ h ih
  dsimp only at h ih ⊢
  rcases k with _|k
  ·rw [Cb] at h;cases h
  rw [Cb] at h
  refine .sr ?_;refine vb ?_;refine rk [1,4,5,13,14,15,16] ?_;refine .seq ?_
  rcases brc h with ⟨hc,h⟩|⟨hc,h⟩
  ·refine cnt (dT hc) ?_
   refine .sk ?_;refine .seq ?_;refine .block ?_;refine .sr ?_
   obtain ⟨x7,g7,h⟩:=bnd h
   obtain ⟨n7,p07,q7⟩:=Aj g7
   refine vk (vix n7 p07 (CR q7) rfl CK) ?_;refine vk (Aq AB As) ?_;refine vk (van (Ap CN) CQ) ?_
   refine stn ?_ As (by decide)
   refine rk [1,4,5,7,13,14,15] ?_;refine .drawn 6 A2 (by kernel_rfl) ?_;refine dv (Ha AY) ?_;refine dv (S0 (cs:=[.d (.sl (Is s5)),.own 51 (Its s6)]) rfl rfl BR) ?_;refine dv Ae ?_;refine dv (E2 AB As) ?_
   obtain ⟨x8,g8,h⟩:=bnd h
   refine dv (MC (oa1 _ _ g8)) ?_;refine dv ((Hk (HV x8) (F4 [x8]) Ge).deep) ?_;refine dz ?_
   obtain ⟨x9,g9,h⟩:=bnd h
   refine Xc Pg g9 rfl rfl RZ ?_ Mi AC Ge
   refine RL.gk [1,4,5,7,13,14,15,19,21,22,23,24,25] ?_;refine vk (Ha AY) ?_
   refine Qs (cs:=[.d (.sl (Is s5)),.un]) (c:=.un) rfl rfl ?_ KI
   refine .nil ?_;refine aw ?_;refine .gk [1,4,5,13,14,15] ?_;refine .region ?_;refine vb ?_;refine va ?_;refine .nil ?_;refine AL.gk [1,4,5,13,14,15] ?_
   exact ih (k,(w64 (s4+1)),s5,x9) h (Nat.lt_succ_self _)
  refine cnf (dF hc) ?_;refine .gk [4,5] ?_;refine .exit ?_
  exact jr (s5,s6) h
 rintro ⟨z2,z3⟩ h
 try dsimp only at h ⊢
 subst hK0
 refine aw ?_;refine .sr ?_;refine fz (p:=.c 0 1) ?_;refine vk (JP (cs:=[.d (.sl (Is z2)),.d (.sl (Its z3))]) (ds:=[.sl (Is z2),.sl (Its z3)]) rfl Al Ad) ?_
 refine stn ?_ Ad (by decide)
 refine rk [4] ?_;refine .ret ?_
 cases h
 exact ⟨_,⟨.inr rfl,Al,Ad,p2⟩,rfl⟩
def DO (rc_array_same:Itm→Option (Itm)) (a0:Itm) (K0:Int→Bool→(List Nat)→(List Nat)→Int→(List Arr)→Option (Itm)) : Nat→Int→Int→Bool→(List Nat)→(List Nat)→Int→(List Arr)→Option (Itm)
 | 0,_,_,_,_,_,_,_=>none
 | k+1,s8,s9,s10,s11,s12,s13,s14=>(if s8<((List.length a0.box:Nat):Int) then ((rd? a0.box s8).bind fun x15=>((Cj x15 (⟨.fn 63 [] [],fun x=>rc_array_same x⟩:B5)).bind fun x16=>((ap? 2932031007402 s14 [x16]).bind fun x17=>(DO rc_array_same a0 K0 k (w64 (s8+1)) s9 s10 s11 s12 s13 x17)))) else (K0 s9 s10 s11 s12 s13 s14))
def IT (rc_array_same:Itm→Option (Itm)) (a0:Itm) : Option (Itm):=((CA a0.num).bind fun x1=>(jn (fun (z2:Int) (z3:Bool) (z4:(List Nat)) (z5:(List Nat)) (z6:Int) (z7:(List Arr))=>(some ((Itm.mk z2 (z3,z4,z5) z6 z7)))) fun K0=>(DO rc_array_same a0 K0 AK 0 a0.kind x1.1 x1.2.1 x1.2.2 a0.char [])))
theorem QB {rc_array_same:Itm→Option (Itm)} (orc_array_same:∀ x0 r,rc_array_same x0=some r→Fn Tryz.prog 63 [.ag [.i .u8 x0.kind,.b x0.num.1,.sl (L x0.num.2.1),.sl (L x0.num.2.2),.i .i32 x0.char,.sl (Ars x0.box)]] (.d (.ag [.i .u8 r.kind,.b r.num.1,.sl (L r.num.2.1),.sl (L r.num.2.2),.i .i32 r.char,.sl (Ars r.box)]))) {a0:Itm} {r:Itm} (h:IT rc_array_same a0=some r) :
  Fn Tryz.prog 63 [.ag [.i .u8 a0.kind,.b a0.num.1,.sl (L a0.num.2.1),.sl (L a0.num.2.2),.i .i32 a0.char,.sl (Ars a0.box)]] (.d (.ag [.i .u8 r.kind,.b r.num.1,.sl (L r.num.2.1),.sl (L r.num.2.2),.i .i32 r.char,.sl (Ars r.box)])):=by
 unfold IT at h
 refine Fn.ofC (rs:=[.cell 2 51]) (nt:=30) Tryz.func63 rfl rfl rfl (by simp) rfl ?_;refine .sr ?_;refine vk vbx ?_;refine vk (van (Ap CN) CQ) ?_;refine rk [1,2] ?_;refine .seq ?_;refine .drawn 9 A2 (by kernel_rfl) ?_;refine dv (vfa Bp) ?_;refine dv (Am AT) ?_;refine dv (vfa CI) ?_;refine dv (Am CF) ?_;refine dv (vfa BH) ?_;refine dv (Aq A4 AE) ?_
 obtain ⟨x1,g1,h⟩:=bnd h
 refine dv (Ah (Gt g1) Tryz.call91) ?_;refine dv (YC KG CN (fun w I μ=>WF w I μ)) ?_;refine dv (van (Ap CN) CQ) ?_;refine dz ?_
 refine XS ?_ As (by decide)
 refine rk [1,2,3] ?_;refine .seq ?_;refine .sr ?_;refine vk (vfa Ba) ?_;refine vk (Am B6) ?_;refine vk (A8 (BL _) (E0 _) E5) ?_;refine va ?_;refine rk [2,3,15,16,17] ?_
 obtain ⟨K0,hK0,h⟩:=AP h
 refine AW.mr (σ:=Int×Bool×(List Nat)×(List Nat)×Int×(List Arr)) (fun p=>K0 p.1 p.2.1 p.2.2.1 p.2.2.2.1 p.2.2.2.2.1 p.2.2.2.2.2=some r) (fun p=>[(2,.nb [.i .u8 0,.b false,.sl (L []),.sl (L []),.i .i32 0,.sl (Ars [])]),(3,.bp 0 0)]) (fun p=>[HO.box [.d (.i .u8 p.1),.d (.b p.2.1),.d (.sl (L p.2.2.1)),.d (.sl (L p.2.2.2.1)),.d (.i .i32 p.2.2.2.2.1),.own 27 (Ars p.2.2.2.2.2)]]) ?_ ?_
 ·skip
  refine .block ?_;refine .gh (Gh.nlOwnC (id:=0) (off:=5) 27 (by rw [X7];decide)) ?_
  refine .loop (.gk [2,3,15,16,17] ?_)
  refine AL.ind (σ:=Nat×Int×Int×Bool×(List Nat)×(List Nat)×Int×(List Arr)) (m:=fun p=>p.1) (e:=fun p=>[(2,.nb [.i .u8 0,.b false,.sl (L []),.sl (L []),.i .i32 0,.sl (Ars [])]),(3,.bp 0 0),(15,.d (.sl (Ars a0.box))),(16,.d (.i .i64 ((List.length a0.box:Nat):Int))),(17,.d (.i .i64 p.2.1))]) (h:=fun p=>[HO.box [.d (.i .u8 p.2.2.1),.d (.b p.2.2.2.1),.d (.sl (L p.2.2.2.2.1)),.d (.sl (L p.2.2.2.2.2.1)),.d (.i .i32 p.2.2.2.2.2.2.1),.own 27 (Ars p.2.2.2.2.2.2.2)]]) (I:=fun p=>DO rc_array_same a0 K0 p.1 p.2.1 p.2.2.1 p.2.2.2.1 p.2.2.2.2.1 p.2.2.2.2.2.1 p.2.2.2.2.2.2.1 p.2.2.2.2.2.2.2=some r) ?_ (AK,0,a0.kind,x1.1,x1.2.1,x1.2.2,a0.char,[]) h
  rintro ⟨k,s8,s9,s10,s11,s12,s13,s14⟩ h ih
  dsimp only at h ih ⊢
  rcases k with _|k
  ·rw [DO] at h;cases h
  rw [DO] at h
  refine .sr ?_;refine vb ?_;refine rk [2,3,15,16,17,18] ?_;refine .seq ?_
  rcases brc h with ⟨hc,h⟩|⟨hc,h⟩
  ·refine cnt (dT hc) ?_
   refine .sk ?_;refine .seq ?_;refine .block ?_;refine .sr ?_
   obtain ⟨x15,g15,h⟩:=bnd h
   obtain ⟨n15,p015,q15⟩:=Aj g15
   refine vk (vix n15 p015 (Db q15) rfl Dj) ?_;refine vk (Aq Al Ad) ?_;refine vk (van (Ap A3) Bg) ?_
   refine stn ?_ Ad (by decide)
   refine rk [2,3,5,15,16,17] ?_;refine .drawn 5 A2 (by kernel_rfl) ?_;refine dv (Ha Ba) ?_;refine dv (S0 (cs:=[.d (.i .u8 s9),.d (.b s10),.d (.sl (L s11)),.d (.sl (L s12)),.d (.i .i32 s13),.own 27 (Ars s14)]) rfl rfl B6) ?_;refine dv (E2 Al Ad) ?_
   obtain ⟨x16,g16,h⟩:=bnd h
   refine dv (Ah (Em (KL Tryz.call63 (fun _ _ h=>orc_array_same _ _ h)) g16) Tryz.call80) ?_;refine dv ((Hk (Pz x16) (Ks [x16]) Nu).deep) ?_;refine dz ?_
   obtain ⟨x17,g17,h⟩:=bnd h
   refine Xc WK g17 rfl rfl XK ?_ S7 BL Nu
   refine RL.gk [2,3,5,15,16,17,21,23,24,25,26] ?_;refine vk (Ha Ba) ?_
   refine Qs (cs:=[.d (.i .u8 s9),.d (.b s10),.d (.sl (L s11)),.d (.sl (L s12)),.d (.i .i32 s13),.un]) (c:=.un) rfl rfl ?_ X0
   refine .nil ?_;refine aw ?_;refine .gk [2,3,15,16,17] ?_;refine .region ?_;refine vb ?_;refine va ?_;refine .nil ?_;refine AL.gk [2,3,15,16,17] ?_
   exact ih (k,(w64 (s8+1)),s9,s10,s11,s12,s13,x17) h (Nat.lt_succ_self _)
  refine cnf (dF hc) ?_;refine .gk [2,3] ?_;refine .exit ?_
  exact jr (s9,s10,s11,s12,s13,s14) h
 rintro ⟨z2,z3,z4,z5,z6,z7⟩ h
 try dsimp only at h ⊢
 subst hK0
 refine aw ?_;refine .sr ?_;refine fz (p:=.c 0 5) ?_;refine vk (JP (cs:=[.d (.i .u8 z2),.d (.b z3),.d (.sl (L z4)),.d (.sl (L z5)),.d (.i .i32 z6),.d (.sl (Ars z7))]) (ds:=[.i .u8 z2,.b z3,.sl (L z4),.sl (L z5),.i .i32 z6,.sl (Ars z7)]) rfl AB As) ?_
 refine stn ?_ As (by decide)
 refine rk [2] ?_;refine .ret ?_
 cases h
 exact ⟨_,⟨.inr rfl,AB,As,p6⟩,rfl⟩
def ES : Nat→Itm→Option (Itm)
 | 0,_=>none
 | k+1,a0=>IT (ES k) a0
theorem JQ : ∀ (k:Nat) (a0:Itm) (r:Itm),ES k a0=some r→Fn Tryz.prog 63 [.ag [.i .u8 a0.kind,.b a0.num.1,.sl (L a0.num.2.1),.sl (L a0.num.2.2),.i .i32 a0.char,.sl (Ars a0.box)]] (.d (.ag [.i .u8 r.kind,.b r.num.1,.sl (L r.num.2.1),.sl (L r.num.2.2),.i .i32 r.char,.sl (Ars r.box)]))
 | 0,_,_,h=>by cases h
 | k+1,a0,_,h=>QB (JQ k) (show IT (ES k) a0=some _ from h)
def GN (a0:Itm) : Option (Itm):=ES (a0.size+1) a0
theorem HB {a0:Itm} {r:Itm} (h:GN a0=some r) : Fn Tryz.prog 63 [.ag [.i .u8 a0.kind,.b a0.num.1,.sl (L a0.num.2.1),.sl (L a0.num.2.2),.i .i32 a0.char,.sl (Ars a0.box)]] (.d (.ag [.i .u8 r.kind,.b r.num.1,.sl (L r.num.2.1),.sl (L r.num.2.2),.i .i32 r.char,.sl (Ars r.box)])):=JQ _ a0 r h
def Hh (rc_array_typed:Itm→Option (Itm)) (a0:Itm) : Option (Itm):=(if a0.kind=1 then ((Ec 0).bind fun x1=>((Ce x1).bind fun x2=>(some (x2)))) else (if a0.kind=2 then ((Jx 32).bind fun x3=>(some (x3))) else ((rd? a0.box 0).bind fun x4=>((Cj x4 (⟨.fn 61 [] [],fun x=>rc_array_typed x⟩ : B5)).bind fun x5=>(some ((Itm.mk 3 (false,[],[]) 0 [x5])))))))
theorem Pq {rc_array_typed:Itm→Option (Itm)} (orc_array_typed:∀ x0 r,rc_array_typed x0=some r→Fn Tryz.prog 61 [.ag [.i .u8 x0.kind,.b x0.num.1,.sl (L x0.num.2.1),.sl (L x0.num.2.2),.i .i32 x0.char,.sl (Ars x0.box)]] (.d (.ag [.i .u8 r.kind,.b r.num.1,.sl (L r.num.2.1),.sl (L r.num.2.2),.i .i32 r.char,.sl (Ars r.box)]))) {a0:Itm} {r:Itm} (h:Hh rc_array_typed a0=some r) :
  Fn Tryz.prog 61 [.ag [.i .u8 a0.kind,.b a0.num.1,.sl (L a0.num.2.1),.sl (L a0.num.2.2),.i .i32 a0.char,.sl (Ars a0.box)]] (.d (.ag [.i .u8 r.kind,.b r.num.1,.sl (L r.num.2.1),.sl (L r.num.2.2),.i .i32 r.char,.sl (Ars r.box)])):=by
 unfold Hh at h
 refine Fn.ofC (rs:=[.cell 2 51]) (nt:=19) Tryz.func61 rfl rfl rfl (by simp) rfl ?_;refine .sr ?_;refine vk vbx ?_;refine vk (van (Ap CN) CQ) ?_;refine rk [1,2] ?_;refine .seq ?_;refine .sr ?_;refine vk (vfa Bp) ?_;refine vk (Am AT) ?_;refine rk [1,2,4] ?_;refine .block ?_;refine .sr ?_;refine vb ?_;refine ar [1,2,4,5] ?_
 rcases brc h with ⟨hc,h⟩|⟨hc,h⟩
 ·refine cnt (dT hc) ?_
  refine .sr ?_
  obtain ⟨x1,g1,h⟩:=bnd h
  refine vk (Ah (Ev g1) Tryz.call37) ?_
  obtain ⟨x2,g2,h⟩:=bnd h
  refine vk (Ah (En g2) Tryz.call36) ?_
  refine stn ?_ As (by decide)
  refine rk [1,2] ?_;refine .ret ?_
  cases h
  exact ⟨_,⟨.inr rfl,AB,As,p6⟩,rfl⟩
 refine cnf (dF hc) ?_;refine .sr ?_;refine vb ?_;refine ar [1,2,9] ?_
 rcases brc h with ⟨hc,h⟩|⟨hc,h⟩
 ·refine cnt (dT hc) ?_
  refine .sr ?_
  obtain ⟨x3,g3,h⟩:=bnd h
  refine vk (Ah (NS g3) Tryz.call124) ?_
  refine stn ?_ As (by decide)
  refine rk [1,2] ?_;refine .ret ?_
  cases h
  exact ⟨_,⟨.inr rfl,AB,As,p6⟩,rfl⟩
 refine cnf (dF hc) ?_;refine .sk ?_;refine .sr ?_;refine vk (vfa Ba) ?_;refine vk (Am B6) ?_
 obtain ⟨x4,g4,h⟩:=bnd h
 obtain ⟨n4,p04,q4⟩:=Aj g4
 refine vk (vix n4 p04 (Db q4) rfl Dj) ?_;refine vk (Aq Al Ad) ?_
 obtain ⟨x5,g5,h⟩:=bnd h
 refine vk (Ah (Em (KL Tryz.call61 (fun _ _ h=>orc_array_typed _ _ h)) g5) Tryz.call80) ?_;refine vk ((Hk (Pz x5) (Ks [x5]) Nu).deep) ?_;refine vk (vbd KG CN CQ) ?_
 refine stn ?_ As (by decide)
 refine rk [2] ?_;refine .ret ?_
 cases h
 exact ⟨_,⟨.inr rfl,AB,As,p6⟩,rfl⟩
def EX : Nat→Itm→Option (Itm)
 | 0,_=>none
 | k+1,a0=>Hh (EX k) a0
theorem Jp : ∀ (k:Nat) (a0:Itm) (r:Itm),EX k a0=some r→Fn Tryz.prog 61 [.ag [.i .u8 a0.kind,.b a0.num.1,.sl (L a0.num.2.1),.sl (L a0.num.2.2),.i .i32 a0.char,.sl (Ars a0.box)]] (.d (.ag [.i .u8 r.kind,.b r.num.1,.sl (L r.num.2.1),.sl (L r.num.2.2),.i .i32 r.char,.sl (Ars r.box)]))
 | 0,_,_,h=>by cases h
 | k+1,a0,_,h=>Pq (Jp k) (show Hh (EX k) a0=some _ from h)
def Kt (a0:Itm) : Option (Itm):=EX (a0.size+1) a0
theorem QD {a0:Itm} {r:Itm} (h:Kt a0=some r) : Fn Tryz.prog 61 [.ag [.i .u8 a0.kind,.b a0.num.1,.sl (L a0.num.2.1),.sl (L a0.num.2.2),.i .i32 a0.char,.sl (Ars a0.box)]] (.d (.ag [.i .u8 r.kind,.b r.num.1,.sl (L r.num.2.1),.sl (L r.num.2.2),.i .i32 r.char,.sl (Ars r.box)])):=Jp _ a0 r h
def BG (a0:(List Int)) (a1:(List Int)) (K0:Bool→Option (Bool)) : Nat→Bool→Int→Option (Bool)
 | 0,_,_=>none
 | k+1,s2,s3=>(if s3<((List.length a0:Nat):Int) then ((rd? a0 s3).bind fun x4=>((rd? a1 s3).bind fun x5=>(if x4=x5 then (BG a0 a1 K0 k s2 (w64 (s3+1))) else (some (false))))) else (K0 s2))
def DR (a0:(List Int)) (a1:(List Int)) : Option (Bool):=(if ((List.length a0:Nat) : Int)=((List.length a1:Nat) : Int) then (jn (fun (z1:Bool)=>(some (true))) fun K0=>(BG a0 a1 K0 AK false 0)) else (some (false)))
theorem G5 {a0:(List Int)} {a1:(List Int)} {r:Bool} (h:DR a0 a1=some r) :
  Fn Tryz.prog 89 [.sl (Is a0),.sl (Is a1)] (.d (.b r)):=by
 unfold DR at h
 refine Fn.o1 4 26 Tryz.func89 ?_;refine .sr ?_;refine ar [0,1,4] ?_;refine .seq ?_;refine .sr ?_;refine va ?_;refine vk (A8 (Ai _) (CT _) Cu) ?_;refine va ?_;refine vk (A8 (Ai _) (CT _) Cu) ?_;refine vb ?_;refine rk [0,1,4,10] ?_
 rcases brc h with ⟨hc,h⟩|⟨hc,h⟩
 ·refine cnf (ntf (dT hc)) ?_
  refine .sk ?_;refine .seq ?_;refine .sr ?_;refine va ?_;refine vk (A8 (Ai _) (CT _) Cu) ?_;refine va ?_;refine rk [0,1,4,12,13] ?_
  obtain ⟨K0,hK0,h⟩:=AP h
  refine AW.mr (σ:=Bool) (fun p=>K0 p=some r) (fun p=>[(4,.d (.b p))]) (fun p=>[]) ?_ ?_
  ·skip
   refine .block ?_
   refine .loop (.gk [0,1,4,12,13] ?_)
   refine AL.ind (σ:=Nat×Bool×Int) (m:=fun p=>p.1) (e:=fun p=>[(0,.d (.sl (Is a0))),(1,.d (.sl (Is a1))),(4,.d (.b p.2.1)),(12,.d (.i .i64 ((List.length a0:Nat):Int))),(13,.d (.i .i64 p.2.2))]) (h:=fun p=>[]) (I:=fun p=>BG a0 a1 K0 p.1 p.2.1 p.2.2=some r) ?_ (AK,false,0) h
   rintro ⟨k,s2,s3⟩ h ih
   dsimp only at h ih ⊢
   rcases k with _|k
   ·rw [BG] at h;cases h
   rw [BG] at h
   refine .sr ?_;refine vb ?_;refine rk [0,1,4,12,13,14] ?_;refine .seq ?_
   rcases brc h with ⟨hc,h⟩|⟨hc,h⟩
   ·refine cnt (dT hc) ?_
    refine .sk ?_;refine .seq ?_;refine .block ?_;refine .sr ?_;refine va ?_;refine ar [0,1,4,5,12,13] ?_;refine .seq ?_;refine .drawn 9 A2 (by kernel_rfl) ?_;refine dv Ae ?_;refine dv Ae ?_
    obtain ⟨x4,g4,h⟩:=bnd h
    obtain ⟨n4,p04,q4⟩:=Aj g4
    refine dv (vix n4 p04 (BC q4) rfl Bo) ?_;refine dv (Am AS) ?_;refine dv Ae ?_;refine dv Ae ?_
    obtain ⟨x5,g5,h⟩:=bnd h
    obtain ⟨n5,p05,q5⟩:=Aj g5
    refine dv (vix n5 p05 (BC q5) rfl Bo) ?_;refine dv (Am AS) ?_;refine dv vbi ?_;refine dz ?_;refine rk [0,1,4,12,13,24] ?_
    rcases brc h with ⟨hc,h⟩|⟨hc,h⟩
    ·refine cnf (ntf (dT hc)) ?_
     refine .sk ?_;refine .region ?_;refine vb ?_;refine va ?_;refine .nil ?_;refine AL.gk [0,1,4,12,13] ?_
     exact ih (k,s2,(w64 (s3+1))) h (Nat.lt_succ_self _)
    refine cnt (ntt (dF hc)) ?_;refine .sr ?_;refine ar [0,1,4,12,13] ?_;refine .ret ?_
    cases h
    exact ⟨rfl,rfl⟩
   refine cnf (dF hc) ?_;refine .gk [4] ?_;refine .exit ?_
   exact jr (s2) h
  rintro z1 h
  try dsimp only at h ⊢
  subst hK0
  refine aw ?_;refine .sr ?_;refine ar [4] ?_;refine .ret ?_
  cases h
  exact ⟨rfl,rfl⟩
 refine cnt (ntt (dF hc)) ?_;refine .sr ?_;refine ar [0,1,4] ?_;refine .ret ?_
 cases h
 exact ⟨rfl,rfl⟩
def Aw (a0:(List Itm)) (a1:(List Itm)) (a2:C6) (K0:Bool→Option (Bool)) : Nat→Bool→Int→Option (Bool)
 | 0,_,_=>none
 | k+1,s2,s3=>(if s3<((List.length a0:Nat):Int) then ((rd? a0 s3).bind fun x4=>((rd? a1 s3).bind fun x5=>((a2.g (x4,x5)).bind fun x6=>(if x6=true then (Aw a0 a1 a2 K0 k s2 (w64 (s3+1))) else (some (false)))))) else (K0 s2))
def AX (a0:(List Itm)) (a1:(List Itm)) (a2:C6) : Option (Bool):=(if ((List.length a0:Nat) : Int)=((List.length a1:Nat) : Int) then (jn (fun (z1:Bool)=>(some (true))) fun K0=>(Aw a0 a1 a2 K0 AK false 0)) else (some (false)))
theorem B7 {a0:(List Itm)} {a1:(List Itm)} {a2:C6} (oa2:KR a2) {r:Bool} (h:AX a0 a1 a2=some r) :
  Fn Tryz.prog 114 [.sl (Its a0),.sl (Its a1),a2.dv] (.d (.b r)):=by
 unfold AX at h
 refine Fn.o1 6 32 Tryz.func114 ?_;refine .sr ?_;refine ar [0,1,2,6] ?_;refine .seq ?_;refine .sr ?_;refine va ?_;refine vk (A8 (AC _) (BT _) BU) ?_;refine va ?_;refine vk (A8 (AC _) (BT _) BU) ?_;refine vb ?_;refine rk [0,1,2,6,14] ?_
 rcases brc h with ⟨hc,h⟩|⟨hc,h⟩
 ·refine cnf (ntf (dT hc)) ?_
  refine .sk ?_;refine .seq ?_;refine .sr ?_;refine va ?_;refine vk (A8 (AC _) (BT _) BU) ?_;refine va ?_;refine rk [1,2,6,15,16,17] ?_
  obtain ⟨K0,hK0,h⟩:=AP h
  refine AW.mr (σ:=Bool) (fun p=>K0 p=some r) (fun p=>[(6,.d (.b p))]) (fun p=>[]) ?_ ?_
  ·skip
   refine .block ?_
   refine .loop (.gk [1,2,6,15,16,17] ?_)
   refine AL.ind (σ:=Nat×Bool×Int) (m:=fun p=>p.1) (e:=fun p=>[(1,.d (.sl (Its a1))),(2,.d (a2.dv)),(6,.d (.b p.2.1)),(15,.d (.sl (Its a0))),(16,.d (.i .i64 ((List.length a0:Nat):Int))),(17,.d (.i .i64 p.2.2))]) (h:=fun p=>[]) (I:=fun p=>Aw a0 a1 a2 K0 p.1 p.2.1 p.2.2=some r) ?_ (AK,false,0) h
   rintro ⟨k,s2,s3⟩ h ih
   dsimp only at h ih ⊢
   rcases k with _|k
   ·rw [Aw] at h;cases h
   rw [Aw] at h
   refine .sr ?_;refine vb ?_;refine rk [1,2,6,15,16,17,18] ?_;refine .seq ?_
   rcases brc h with ⟨hc,h⟩|⟨hc,h⟩
   ·refine cnt (dT hc) ?_
    refine .sk ?_;refine .seq ?_;refine .block ?_;refine .sr ?_;refine va ?_
    obtain ⟨x4,g4,h⟩:=bnd h
    obtain ⟨n4,p04,q4⟩:=Aj g4
    refine vk (vix n4 p04 (CR q4) rfl CK) ?_;refine vk (Aq AB As) ?_;refine vk (van (Ap CN) CQ) ?_;refine asd ?_
    refine stn ?_ As (by decide)
    refine rk [1,2,6,7,8,15,16,17] ?_;refine .sr ?_;refine va ?_;refine va ?_
    obtain ⟨x5,g5,h⟩:=bnd h
    obtain ⟨n5,p05,q5⟩:=Aj g5
    refine vk (vix n5 p05 (CR q5) rfl CK) ?_;refine vk (Aq AB As) ?_;refine vk (van (Ap CN) CQ) ?_
    refine stn ?_ As (by decide)
    refine rk [1,2,6,8,9,15,16,17] ?_;refine .sr ?_;refine va ?_;refine vk (E2 AB As) ?_;refine vk (E2 AB As) ?_
    obtain ⟨x6,g6,h⟩:=bnd h
    refine vk (MC (oa2 _ _ g6)) ?_;refine vk vnt ?_;refine rk [1,2,6,15,16,17,30] ?_
    rcases brc h with ⟨hc,h⟩|⟨hc,h⟩
    ·refine cnf (ntf hc) ?_
     refine .sk ?_;refine .region ?_;refine vb ?_;refine va ?_;refine .nil ?_;refine AL.gk [1,2,6,15,16,17] ?_
     exact ih (k,s2,(w64 (s3+1))) h (Nat.lt_succ_self _)
    refine cnt (ntt (bf hc)) ?_;refine .sr ?_;refine ar [1,2,6,15,16,17] ?_;refine .ret ?_
    cases h
    exact ⟨rfl,rfl⟩
   refine cnf (dF hc) ?_;refine .gk [6] ?_;refine .exit ?_
   exact jr (s2) h
  rintro z1 h
  try dsimp only at h ⊢
  subst hK0
  refine aw ?_;refine .sr ?_;refine ar [6] ?_;refine .ret ?_
  cases h
  exact ⟨rfl,rfl⟩
 refine cnt (ntt (dF hc)) ?_;refine .sr ?_;refine ar [0,1,2,6] ?_;refine .ret ?_
 cases h
 exact ⟨rfl,rfl⟩
def Au (a0:(List Arr)) (a1:(List Arr)) (a2:C1) (K0:Bool→Option (Bool)) : Nat→Bool→Int→Option (Bool)
 | 0,_,_=>none
 | k+1,s2,s3=>(if s3<((List.length a0:Nat):Int) then ((rd? a0 s3).bind fun x4=>((rd? a1 s3).bind fun x5=>((a2.g (x4,x5)).bind fun x6=>(if x6=true then (Au a0 a1 a2 K0 k s2 (w64 (s3+1))) else (some (false)))))) else (K0 s2))
def AN (a0:(List Arr)) (a1:(List Arr)) (a2:C1) : Option (Bool):=(if ((List.length a0:Nat) : Int)=((List.length a1:Nat) : Int) then (jn (fun (z1:Bool)=>(some (true))) fun K0=>(Au a0 a1 a2 K0 AK false 0)) else (some (false)))
theorem BS {a0:(List Arr)} {a1:(List Arr)} {a2:C1} (oa2:KA a2) {r:Bool} (h:AN a0 a1 a2=some r) :
  Fn Tryz.prog 117 [.sl (Ars a0),.sl (Ars a1),a2.dv] (.d (.b r)):=by
 unfold AN at h
 refine Fn.o1 6 32 Tryz.func117 ?_;refine .sr ?_;refine ar [0,1,2,6] ?_;refine .seq ?_;refine .sr ?_;refine va ?_;refine vk (A8 (BL _) (E0 _) E5) ?_;refine va ?_;refine vk (A8 (BL _) (E0 _) E5) ?_;refine vb ?_;refine rk [0,1,2,6,14] ?_
 rcases brc h with ⟨hc,h⟩|⟨hc,h⟩
 ·refine cnf (ntf (dT hc)) ?_
  refine .sk ?_;refine .seq ?_;refine .sr ?_;refine va ?_;refine vk (A8 (BL _) (E0 _) E5) ?_;refine va ?_;refine rk [1,2,6,15,16,17] ?_
  obtain ⟨K0,hK0,h⟩:=AP h
  refine AW.mr (σ:=Bool) (fun p=>K0 p=some r) (fun p=>[(6,.d (.b p))]) (fun p=>[]) ?_ ?_
  ·skip
   refine .block ?_
   refine .loop (.gk [1,2,6,15,16,17] ?_)
   refine AL.ind (σ:=Nat×Bool×Int) (m:=fun p=>p.1) (e:=fun p=>[(1,.d (.sl (Ars a1))),(2,.d (a2.dv)),(6,.d (.b p.2.1)),(15,.d (.sl (Ars a0))),(16,.d (.i .i64 ((List.length a0:Nat):Int))),(17,.d (.i .i64 p.2.2))]) (h:=fun p=>[]) (I:=fun p=>Au a0 a1 a2 K0 p.1 p.2.1 p.2.2=some r) ?_ (AK,false,0) h
   rintro ⟨k,s2,s3⟩ h ih
   dsimp only at h ih ⊢
   rcases k with _|k
   ·rw [Au] at h;cases h
   rw [Au] at h
   refine .sr ?_;refine vb ?_;refine rk [1,2,6,15,16,17,18] ?_;refine .seq ?_
   rcases brc h with ⟨hc,h⟩|⟨hc,h⟩
   ·refine cnt (dT hc) ?_
    refine .sk ?_;refine .seq ?_;refine .block ?_;refine .sr ?_;refine va ?_
    obtain ⟨x4,g4,h⟩:=bnd h
    obtain ⟨n4,p04,q4⟩:=Aj g4
    refine vk (vix n4 p04 (Db q4) rfl Dj) ?_;refine vk (Aq Al Ad) ?_;refine vk (van (Ap A3) Bg) ?_;refine asd ?_
    refine stn ?_ Ad (by decide)
    refine rk [1,2,6,7,8,15,16,17] ?_;refine .sr ?_;refine va ?_;refine va ?_
    obtain ⟨x5,g5,h⟩:=bnd h
    obtain ⟨n5,p05,q5⟩:=Aj g5
    refine vk (vix n5 p05 (Db q5) rfl Dj) ?_;refine vk (Aq Al Ad) ?_;refine vk (van (Ap A3) Bg) ?_
    refine stn ?_ Ad (by decide)
    refine rk [1,2,6,8,9,15,16,17] ?_;refine .sr ?_;refine va ?_;refine vk (E2 Al Ad) ?_;refine vk (E2 Al Ad) ?_
    obtain ⟨x6,g6,h⟩:=bnd h
    refine vk (MC (oa2 _ _ g6)) ?_;refine vk vnt ?_;refine rk [1,2,6,15,16,17,30] ?_
    rcases brc h with ⟨hc,h⟩|⟨hc,h⟩
    ·refine cnf (ntf hc) ?_
     refine .sk ?_;refine .region ?_;refine vb ?_;refine va ?_;refine .nil ?_;refine AL.gk [1,2,6,15,16,17] ?_
     exact ih (k,s2,(w64 (s3+1))) h (Nat.lt_succ_self _)
    refine cnt (ntt (bf hc)) ?_;refine .sr ?_;refine ar [1,2,6,15,16,17] ?_;refine .ret ?_
    cases h
    exact ⟨rfl,rfl⟩
   refine cnf (dF hc) ?_;refine .gk [6] ?_;refine .exit ?_
   exact jr (s2) h
  rintro z1 h
  try dsimp only at h ⊢
  subst hK0
  refine aw ?_;refine .sr ?_;refine ar [6] ?_;refine .ret ?_
  cases h
  exact ⟨rfl,rfl⟩
 refine cnt (ntt (dF hc)) ?_;refine .sr ?_;refine ar [0,1,2,6] ?_;refine .ret ?_
 cases h
 exact ⟨rfl,rfl⟩
def La (rc_array_equal:Arr→Arr→Option (Bool)) (a0:Itm) (a1:Itm) : Option (Bool):=(if a0.kind=a1.kind then (Option.bind ((if a0.char=a1.char then (if (a0.num.1 == a1.num.1)=true then ((I5 a0.num.2.1 a1.num.2.1).bind fun x2=>(if x2=true then ((I5 a0.num.2.2 a1.num.2.2).bind fun x3=>(if x3=true then ((AN a0.box a1.box (⟨.fn 55 [] [],fun x=>rc_array_equal x.1 x.2⟩ : C1)).bind fun x4=>(some x4)) else (some false))) else (some false))) else (some false)) else (some false)) : Option (Bool)) fun (z1:Bool)=>(some (z1))) else (some (false)))
theorem ON {rc_array_equal:Arr→Arr→Option (Bool)} (orc_array_equal:∀ x0 x1 r,rc_array_equal x0 x1=some r→Fn Tryz.prog 55 [.ag [.sl (Is x0.shape),.sl (Its x0.items)],.ag [.sl (Is x1.shape),.sl (Its x1.items)]] (.d (.b r))) {a0:Itm} {a1:Itm} {r:Bool} (h:La rc_array_equal a0 a1=some r) :
  Fn Tryz.prog 115 [.ag [.i .u8 a0.kind,.b a0.num.1,.sl (L a0.num.2.1),.sl (L a0.num.2.2),.i .i32 a0.char,.sl (Ars a0.box)],.ag [.i .u8 a1.kind,.b a1.num.1,.sl (L a1.num.2.1),.sl (L a1.num.2.2),.i .i32 a1.char,.sl (Ars a1.box)]] (.d (.b r)):=by
 unfold La at h
 refine Fn.o1 4 50 Tryz.func115 ?_;refine .sr ?_;refine vk vbx ?_;refine vk vbx ?_;refine ar [2,3,4] ?_;refine .seq ?_;refine .sr ?_;refine vk (vfa Bp) ?_;refine vk (Am AT) ?_;refine rk [2,3,4,6] ?_;refine .block ?_;refine .sr ?_;refine vk (vfa Bp) ?_;refine vk (Am AT) ?_;refine vb ?_;refine ar [2,3,4,7] ?_
 rcases brc h with ⟨hc,h⟩|⟨hc,h⟩
 ·refine cnt (dT hc) ?_
  refine .seq ?_
  obtain ⟨z1,hz,h⟩:=bnd h
  refine AW.mr (σ:=Unit) (fun _=>True) (fun _=>[(4,.d (.b z1))]) (fun _=>[]) ?_ ?_
  ·skip
   refine .region ?_;refine vk (vfa CI) ?_;refine vk (Am CF) ?_;refine vk (vfa CI) ?_;refine vk (Am CF) ?_;refine vb ?_
   rcases brc hz with ⟨hc,hz⟩|⟨hc,hz⟩
   ·have hb0:(decide (a0.char=a1.char))=true:=(dT hc)
    refine vL hb0 ?_;refine vk (vfa BH) ?_;refine vk (vfa E4) ?_;refine vk (Am D0) ?_;refine vk (vfa BH) ?_;refine vk (vfa E4) ?_;refine vk (Am D0) ?_;refine vk (XE (.inl rfl) bo) ?_;refine vk Ag ?_
    rcases brc hz with ⟨hc,hz⟩|⟨hc,hz⟩
    ·have hb1:(a0.num.1 == a1.num.1)=true:=hc
     refine vL hb1 ?_;refine vk (vfa BH) ?_;refine vk (vfa D6) ?_;refine vk (Am ET) ?_;refine vk (vfa BH) ?_;refine vk (vfa D6) ?_;refine vk (Am ET) ?_
     obtain ⟨x2,g2,hz⟩:=bnd hz
     refine vk (Ah (Nc g2) Tryz.call116) ?_;refine vk Ag ?_
     rcases brc hz with ⟨hc,hz⟩|⟨hc,hz⟩
     ·have hb2:x2=true:=hc
      refine vL hb2 ?_;refine vk (vfa BH) ?_;refine vk (vfa Ga) ?_;refine vk (Am ET) ?_;refine vk (vfa BH) ?_;refine vk (vfa Ga) ?_;refine vk (Am ET) ?_
      obtain ⟨x3,g3,hz⟩:=bnd hz
      refine vk (Ah (Nc g3) Tryz.call116) ?_;refine vk Ag ?_
      rcases brc hz with ⟨hc,hz⟩|⟨hc,hz⟩
      ·have hb3:x3=true:=hc
       refine vL hb3 ?_;refine vk (vfa Ba) ?_;refine vk (Am B6) ?_;refine vk (vfa Ba) ?_;refine vk (Am B6) ?_
       obtain ⟨x4,g4,hz⟩:=bnd hz
       refine vk (Ah (BS (KL Tryz.call55 (fun _ _ h=>orc_array_equal _ _ _ h)) g4) Tryz.call117) ?_;refine vk Ag ?_;refine asd ?_;refine RL.gk [4] ?_;refine .nil ?_
       cases hz
       exact jr () trivial
      have hb3:x3=false:=(bf hc)
      refine vL hb3 ?_;refine gf4 ?_;refine gf ?_;refine vk Ag ?_;refine asd ?_;refine RL.gk [4] ?_;refine .nil ?_
      cases hz
      exact jr () trivial
     have hb2:x2=false:=(bf hc)
     refine vL hb2 ?_;refine gf4 ?_;refine gf3 ?_;refine vk Ag ?_;refine va ?_;refine gf4 ?_;refine gf ?_;refine vk Ag ?_;refine asd ?_;refine RL.gk [4] ?_;refine .nil ?_
     cases hz
     exact jr () trivial
    have hb1:(a0.num.1 == a1.num.1)=false:=(bf hc)
    refine vL hb1 ?_;refine gf4 ?_;refine gf3 ?_;refine vk Ag ?_;refine va ?_;refine gf4 ?_;refine gf3 ?_;refine vk Ag ?_;refine va ?_;refine gf4 ?_;refine gf ?_;refine vk Ag ?_;refine asd ?_;refine RL.gk [4] ?_;refine .nil ?_
    cases hz
    exact jr () trivial
   have hb0:(decide (a0.char=a1.char))=false:=(dF hc)
   refine vL hb0 ?_;refine gf4 ?_;refine gf3 ?_;refine vk Ag ?_;refine va ?_;refine gf4 ?_;refine gf3 ?_;refine vk Ag ?_;refine va ?_;refine gf4 ?_;refine gf3 ?_;refine vk Ag ?_;refine va ?_;refine gf4 ?_;refine gf ?_;refine vk Ag ?_;refine asd ?_;refine RL.gk [4] ?_;refine .nil ?_
   cases hz
   exact jr () trivial
  rintro _ _
  refine .ret ?_
  cases h
  exact ⟨rfl,rfl⟩
 refine cnf (dF hc) ?_;refine .sk ?_;refine .sr ?_;refine ar [4] ?_;refine .ret ?_
 cases h
 exact ⟨rfl,rfl⟩
def Jd (rc_array_equal:Arr→Arr→Option (Bool)) (a0:Arr) (a1:Arr) : Option (Bool):=((DR a0.shape a1.shape).bind fun x1=>(Option.bind ((if x1=true then ((AX a0.items a1.items (⟨.fn 115 [] [],fun x=>La rc_array_equal x.1 x.2⟩ : C6)).bind fun x3=>(some x3)) else (some false)) : Option (Bool)) fun (z1:Bool)=>(some (z1))))
theorem OM {rc_array_equal:Arr→Arr→Option (Bool)} (orc_array_equal:∀ x0 x1 r,rc_array_equal x0 x1=some r→Fn Tryz.prog 55 [.ag [.sl (Is x0.shape),.sl (Its x0.items)],.ag [.sl (Is x1.shape),.sl (Its x1.items)]] (.d (.b r))) {a0:Arr} {a1:Arr} {r:Bool} (h:Jd rc_array_equal a0 a1=some r) :
  Fn Tryz.prog 55 [.ag [.sl (Is a0.shape),.sl (Its a0.items)],.ag [.sl (Is a1.shape),.sl (Its a1.items)]] (.d (.b r)):=by
 unfold Jd at h
 refine Fn.o1 4 17 Tryz.func55 ?_;refine .sr ?_;refine vk vbx ?_;refine vk vbx ?_;refine ar [2,3,4] ?_;refine .seq ?_
 obtain ⟨x1,g1,h⟩:=bnd h
 obtain ⟨z1,hz,h⟩:=bnd h
 refine AW.mr (σ:=Unit) (fun _=>True) (fun _=>[(4,.d (.b z1))]) (fun _=>[]) ?_ ?_
 ·skip
  refine .region ?_;refine vk (vfa Bh) ?_;refine vk (Am CS) ?_;refine vk (vfa Bh) ?_;refine vk (Am CS) ?_;refine vk (Ah (G5 g1) Tryz.call89) ?_
  rcases brc hz with ⟨hc,hz⟩|⟨hc,hz⟩
  ·have hb0:x1=true:=hc
   refine vL hb0 ?_;refine vk (vfa AY) ?_;refine vk (Am BR) ?_;refine vk (vfa AY) ?_;refine vk (Am BR) ?_
   obtain ⟨x3,g3,hz⟩:=bnd hz
   refine vk (Ah (B7 (KL Tryz.call115 (fun _ _ h=>ON orc_array_equal h)) g3) Tryz.call114) ?_;refine vk Ag ?_;refine asd ?_;refine RL.gk [4] ?_;refine .nil ?_
   cases hz
   exact jr () trivial
  have hb0:x1=false:=(bf hc)
  refine vL hb0 ?_;refine gf4 ?_;refine gf ?_;refine vk Ag ?_;refine asd ?_;refine RL.gk [4] ?_;refine .nil ?_
  cases hz
  exact jr () trivial
 rintro _ _
 refine .ret ?_
 cases h
 exact ⟨rfl,rfl⟩
def HM : Nat→Arr→Arr→Option (Bool)
 | 0,_,_=>none
 | k+1,a0,a1=>Jd (HM k) a0 a1
theorem Jq : ∀ (k:Nat) (a0:Arr) (a1:Arr) (r:Bool),HM k a0 a1=some r→Fn Tryz.prog 55 [.ag [.sl (Is a0.shape),.sl (Its a0.items)],.ag [.sl (Is a1.shape),.sl (Its a1.items)]] (.d (.b r))
 | 0,_,_,_,h=>by cases h
 | k+1,a0,a1,_,h=>OM (Jq k) (show Jd (HM k) a0 a1=some _ from h)
def QA (a0:Arr) (a1:Arr) : Option (Bool):=HM (a0.size+1) a0 a1
theorem Qb {a0:Arr} {a1:Arr} {r:Bool} (h:QA a0 a1=some r) : Fn Tryz.prog 55 [.ag [.sl (Is a0.shape),.sl (Its a0.items)],.ag [.sl (Is a1.shape),.sl (Its a1.items)]] (.d (.b r)):=Jq _ a0 a1 r h
abbrev sg (b:Bool) (n:Nat) : Int:=if b=true then -(n:Int) else n
def ofQ (p:Rat) : RT:=(decide (p.num<0),Ab p.num.natAbs,Ab p.den)
def LC (n:Nat) : Prop:=(Ab n).length≤32
instance (n:Nat) : Decidable (LC n):=inferInstanceAs (Decidable (_≤_))
def Jj (p:Rat) : Prop:=LC p.num.natAbs∧LC p.den
instance (p:Rat) : Decidable (Jj p):=inferInstanceAs (Decidable (_∧_))
abbrev bad (e:Int) : RT×Int:=((false,[],[]),e)
theorem Lb (b:Bool) (n:Nat) : (sg b n).natAbs=n:=by cases b<;>simp [sg]
theorem Yk (b:Bool) (n:Nat) : decide (sg b n<0)=(b&&decide (n≠0)):=by
 cases b with
 | false=>simp [sg]
 | true=>simp only [sg,if_true,Bool.true_and];apply decide_eq_decide.2;omega
abbrev q3 (p:Rat) : Q3:=(decide (p.num<0),p.num.natAbs,p.den)
theorem GY {r:RT} : A9 r=true↔∃ p,Jj p∧r=ofQ p:=by
 obtain ⟨b,n,d⟩:=r
 simp only [A9,FD,decide_eq_true_eq]
 constructor
 ·rintro ⟨h1,h2,h3,h4,h5,h6,h7⟩
  have hd0:val d≠0:=fun h=>h5 (by rw [← h2,h,AJ])
  refine ⟨⟨sg b (val n),val d,hd0,by rw [Nat.Coprime,Lb];exact h7⟩,⟨?_,?_⟩,?_⟩
  ·show LC (sg b (val n)).natAbs
   rw [Lb,LC,h1];exact h3
  ·show LC (val d)
   rw [LC,h2];exact h4
  ·simp only [ofQ,Lb,h1,h2]
   rw [Yk]
   congr 1
   cases b with
   | false=>rfl
   | true =>
    have:n≠[]:=fun h=>by have:=h6 h;cases this
    have hn0:val n≠0:=fun h=>this (by rw [← h1,h,AJ])
    simp [hn0]
 ·rintro ⟨p,⟨h1,h2⟩,h⟩
  simp only [ofQ,Prod.mk.injEq] at h
  obtain ⟨rfl,rfl,rfl⟩:=h
  refine ⟨by rw [Ar],by rw [Ar],h1,h2,?_,?_,?_⟩
  ·intro h
   have:=EP.1 h
   exact p.den_nz this
  ·intro h
   have:=EP.1 h
   exact dF (by omega)
  ·rw [Ar,Ar];exact p.reduced
theorem FX {p:Rat} (h:Jj p) : A9 (ofQ p)=true:=GY.2 ⟨p,h,rfl⟩
theorem CG {k n:Nat} (h:(Ab n).length≤k) : okL k (Ab n)=true:=BP.2 ⟨AH n,h⟩
theorem Nj {k n:Nat} (h:LC n) (hk:32≤k) : okL k (Ab n)=true:=CG (nT h hk)
theorem ED {p:Rat} (h:Jj p) : F8 (ofQ p)=true:=by
 simp only [F8,Bool.and_eq_true]
 exact ⟨Nj h.1 (by decide),Nj h.2 (by decide)⟩
theorem Lf : Jj 0:=by
 have e0:Ab 0=[]:=AJ
 have e1:Ab 1=[1]:=Ka (n:=1) (by decide) (by decide)
 constructor
 ·show (Ab 0).length≤32;rw [e0];decide
 ·show (Ab 1).length≤32;rw [e1];decide
theorem Rc : Ab 1=[1]:=Ka (n:=1) (by decide) (by decide)
abbrev HT (q:Q3) : Rat:=mkRat (sg q.1 q.2.1) q.2.2
theorem Tr {x y:Q3} (hx:x.2.2≠0) (hy:y.2.2≠0) : HT (Jm x y)=HT x+HT y∧(Jm x y).2.2≠0:=by
 obtain ⟨b,n,d⟩:=x
 obtain ⟨c,m,e⟩:=y
 simp only at hx hy
 have hde:d * e≠0:=Nat.mul_ne_zero hx hy
 rw [show HT (b,n,d)+HT (c,m,e)=mkRat (sg b n * e+sg c m * d) (d * e) from Rat.mkRat_add_mkRat _ _ hx hy]
 have key:∀ (q:Q3),q.2.2=d * e→sg q.1 q.2.1=sg b n * e+sg c m * d→HT q=mkRat (sg b n * e+sg c m * d) (d * e)∧q.2.2≠0:=fun q h1 h2=>by
  rw [HT,h1,h2];exact ⟨rfl,hde⟩
 unfold Jm
 simp only
 split
 ·rename_i h
  subst h
  refine key _ rfl ?_
  cases b<;>simp [sg]
  rw [Int.neg_add,Int.neg_mul,Int.neg_mul]
 ·rename_i h
  split
  ·rename_i h2
   refine key _ rfl ?_
   cases b<;>cases c<;>simp [sg] at h ⊢
   ·rw [Int.ofNat_sub h2];simp [Int.neg_mul];omega
   ·rw [Int.ofNat_sub h2];simp [Int.neg_mul];omega
  ·rename_i h2
   have h3:n * e≤m * d:=by omega
   refine key _ rfl ?_
   cases b<;>cases c<;>simp [sg] at h ⊢
   ·rw [Int.ofNat_sub h3];simp [Int.neg_mul];omega
   ·rw [Int.ofNat_sub h3];simp [Int.neg_mul];omega
theorem Pj (p:Rat) : HT (decide (p.num<0),p.num.natAbs,p.den)=p:=by
 have:sg (decide (p.num<0)) p.num.natAbs=p.num:=by
  simp only [sg,decide_eq_true_eq]
  split<;>omega
 rw [HT,this,Rat.mkRat_self]
theorem YP (p:Rat) : rq (ofQ p)=(decide (p.num<0),p.num.natAbs,p.den):=by simp [rq,ofQ,Ar]
theorem Ma (p:Rat) : HT (rq (ofQ p))=p:=by rw [YP];exact Pj p
def Fs (a0:RT) (a1:RT) : Option (Int):=((DU ([a0,a1])).bind fun x1=>(if x1=true then ((Gm a0).bind fun x2=>((Gm a1).bind fun x3=>(if ((!(decide (x2=x3)))&&(decide (x2<x3)))=true then (some ((-1))) else (if x2=x3 then ((Jn a0).bind fun x4=>((Jn a1).bind fun x5=>((ID x4.1 x5.1).bind fun x6=>((Jn a1).bind fun x7=>((Jn a0).bind fun x8=>((ID x7.1 x8.1).bind fun x9=>((J9 x6 x9).bind fun x10=>(some ((w64 (x2 * x10))))))))))) else (some (1)))))) else (some (0))))
theorem Mz {a0:RT} {a1:RT} {r:Int} (h:Fs a0 a1=some r) :
  Fn Tryz.prog 141 [.ag [.b a0.1,.sl (L a0.2.1),.sl (L a0.2.2)],.ag [.b a1.1,.sl (L a1.2.1),.sl (L a1.2.2)]] (.d (.i .i64 r)):=by
 unfold Fs at h
 refine Fn.o1 4 46 Tryz.func141 ?_;refine .sr ?_;refine vk vbx ?_;refine vk vbx ?_;refine ar [2,3,4] ?_;refine .seq ?_;refine .sr ?_;refine vk (Aq A4 AE) ?_;refine vk (Aq A4 AE) ?_;refine vk ((G0 (Gr [a0,a1]) IP).deep) ?_
 obtain ⟨x1,g1,h⟩:=bnd h
 refine vk (Ah (EF g1) Tryz.call190) ?_;refine vk vnt ?_;refine rk [2,3,4,11] ?_
 rcases brc h with ⟨hc,h⟩|⟨hc,h⟩
 ·refine cnf (ntf hc) ?_
  refine .sk ?_;refine .seq ?_;refine .drawn 4 A2 (by kernel_rfl) ?_;refine dv (Aq A4 AE) ?_
  obtain ⟨x2,g2,h⟩:=bnd h
  refine dv (Ah (Ij g2) Tryz.call130) ?_;refine dv (Aq A4 AE) ?_
  obtain ⟨x3,g3,h⟩:=bnd h
  refine dv (Ah (Ij g3) Tryz.call130) ?_;refine dz ?_;refine asd ?_;refine ar [2,3,4,5,6] ?_;refine .seq ?_;refine .block ?_;refine .seq ?_;refine AW.mr (σ:=Unit) (fun _=>True) (fun _=>[(2,.d (.ptr [.b a0.1,.sl (L a0.2.1),.sl (L a0.2.2)])),(3,.d (.ptr [.b a1.1,.sl (L a1.2.1),.sl (L a1.2.2)])),(4,.d (.i .i64 0)),(5,.d (.i .i64 x2)),(6,.d (.i .i64 x3)),(16,.d (.b ((!(decide (x2=x3)))&&(decide (x2<x3)))))]) (fun _=>[]) ?_ ?_
  ·skip
   refine .region ?_;refine va ?_;refine va ?_;refine vb ?_
   by_cases hc:x2=x3
   ·have hb0:(!(decide (x2=x3)))=false:=(ntf (dT hc))
    refine vL hb0 ?_;refine gf3 ?_;refine vk Ag ?_;refine asd ?_;refine RL.gk [2,3,4,5,6,16] ?_;refine .nil ?_
    exact jr () trivial (by simp only [hb0];rfl)
   have hb0:(!(decide (x2=x3)))=true:=(ntt (dF hc))
   refine vL hb0 ?_;refine va ?_;refine va ?_;refine vb ?_;refine vk Ag ?_;refine asd ?_;refine RL.gk [2,3,4,5,6,16] ?_;refine .nil ?_
   exact jr () trivial (by simp only [hb0];rfl)
  rintro _ _
  rcases brc h with ⟨hc,h⟩|⟨hc,h⟩
  ·refine cnt hc ?_
   refine .sr ?_;refine ar [2,3,4,5] ?_;refine .ret ?_
   cases h
   exact ⟨rfl,rfl⟩
  refine cnf (bf hc) ?_;refine .sr ?_;refine va ?_;refine va ?_;refine vb ?_;refine ar [2,3,4,5,25] ?_
  rcases brc h with ⟨hc,h⟩|⟨hc,h⟩
  ·refine cnf (ntf (dT hc)) ?_
   refine .sk ?_;refine .seq ?_;refine .drawn 17 A2 (by kernel_rfl) ?_;refine dv Ae ?_;refine dv (Aq A4 AE) ?_
   obtain ⟨x4,g4,h⟩:=bnd h
   refine dv (Ah (Gu g4) Tryz.call192) ?_;refine dv (WJ OO Pw) ?_;refine dv (Aq A4 AE) ?_
   obtain ⟨x5,g5,h⟩:=bnd h
   refine dv (Ah (Gu g5) Tryz.call192) ?_;refine dv (WJ OO Pw) ?_
   obtain ⟨x6,g6,h⟩:=bnd h
   refine dv (Ah (Lr g6) Tryz.call193) ?_;refine dv (Aq A4 AE) ?_
   obtain ⟨x7,g7,h⟩:=bnd h
   refine dv (Ah (Gu g7) Tryz.call192) ?_;refine dv (WJ OO Pw) ?_;refine dv (Aq A4 AE) ?_
   obtain ⟨x8,g8,h⟩:=bnd h
   refine dv (Ah (Gu g8) Tryz.call192) ?_;refine dv (WJ OO Pw) ?_
   obtain ⟨x9,g9,h⟩:=bnd h
   refine dv (Ah (Lr g9) Tryz.call193) ?_
   obtain ⟨x10,g10,h⟩:=bnd h
   refine dv (Ah (P2 g10) Tryz.call191) ?_;refine dv vbi ?_;refine dz ?_;refine ar [4] ?_;refine .ret ?_
   cases h
   exact ⟨rfl,rfl⟩
  refine cnt (ntt (dF hc)) ?_;refine .sr ?_;refine ar [2,3,4,5] ?_;refine .ret ?_
  cases h
  exact ⟨rfl,rfl⟩
 refine cnt (ntt (bf hc)) ?_;refine .sr ?_;refine ar [2,3,4] ?_;refine .ret ?_
 cases h
 exact ⟨rfl,rfl⟩
def IG (a0:RT) (a1:RT) : Option (RT×Int):=((DU ([a0,a1])).bind fun x1=>(if x1=true then (if ((List.length a0.2.1:Nat) : Int)=0 then ((JC a1 a1.1).bind fun x2=>(some (x2.1,x2.2))) else ((Md a1 a0).bind fun x3=>(if x3.2=0 then ((KD x3.1).bind fun x4=>(if x4.2=0 then ((Sd ([a0,x4.1])).bind fun x5=>(if x5.2=0 then ((HR a1 x5.1).bind fun x6=>(some (x6.1,x6.2))) else (some ((false,[],[]),x5.2)))) else (if x4.2=0 then ((HR a1 x4.1).bind fun x7=>(some (x7.1,x7.2))) else (some ((false,[],[]),x4.2))))) else (if x3.2=0 then ((Sd ([a0,x3.1])).bind fun x8=>(if x8.2=0 then ((HR a1 x8.1).bind fun x9=>(some (x9.1,x9.2))) else (some ((false,[],[]),x8.2)))) else (if x3.2=0 then ((HR a1 x3.1).bind fun x10=>(some (x10.1,x10.2))) else (some ((false,[],[]),x3.2))))))) else (some ((false,[],[]),22))))
theorem Mp {a0:RT} {a1:RT} {r:RT×Int} (h:IG a0 a1=some r) :
  Fn Tryz.prog 159 [.ag [.b a0.1,.sl (L a0.2.1),.sl (L a0.2.2)],.ag [.b a1.1,.sl (L a1.2.1),.sl (L a1.2.2)]] (.tup [.d (.ag [.b r.1.1,.sl (L r.1.2.1),.sl (L r.1.2.2)]),.d (.i .i64 r.2)]):=by
 unfold IG at h
 refine Fn.ofC (rs:=[.cell 4 34,.tmp 5]) (nt:=57) Tryz.func159 rfl rfl rfl (by simp) rfl ?_;refine .sr ?_;refine vk vbx ?_;refine vk vbx ?_;refine vk (van (Ap Fq) Fr) ?_;refine ar [2,3,4,5] ?_;refine .seq ?_;refine .block ?_;refine .sr ?_;refine vk (Aq A4 AE) ?_;refine vk (Aq A4 AE) ?_;refine vk ((G0 (Gr [a0,a1]) IP).deep) ?_
 obtain ⟨x1,g1,h⟩:=bnd h
 refine vk (Ah (EF g1) Tryz.call190) ?_;refine vk vnt ?_;refine ar [2,3,4,5,8] ?_
 rcases brc h with ⟨hc,h⟩|⟨hc,h⟩
 ·refine cnf (ntf hc) ?_
  refine .sr ?_;refine vk (vfa D6) ?_;refine vk (Am ET) ?_;refine vk (A8 (Aa _) (Bf _) Nz) ?_;refine vb ?_;refine ar [2,3,4,5,15] ?_
  rcases brc h with ⟨hc,h⟩|⟨hc,h⟩
  ·refine cnt (dT hc) ?_
   refine .sr ?_;refine vk (Aq A4 AE) ?_;refine vk (vfa E4) ?_;refine vk (Am D0) ?_
   obtain ⟨x2,g2,h⟩:=bnd h
   refine vk (VOK.tupd (vs:=[.ag [.b x2.1.1,.sl (L x2.1.2.1),.sl (L x2.1.2.2)],.i .i64 x2.2]) (Ah (NX g2) Tryz.call204)) ?_;refine vk vex ?_;refine vk vex ?_
   refine stn ?_ AE (by decide)
   refine ar [2,3,4,5] ?_;refine .ret ?_
   cases h
   exact ⟨_,_,⟨.inr rfl,A4,AE,p3⟩,rfl,rfl⟩
  refine cnf (dF hc) ?_;refine .sk ?_;refine .sr ?_;refine vk (Aq A4 AE) ?_;refine vk (Aq A4 AE) ?_
  obtain ⟨x3,g3,h⟩:=bnd h
  refine vk (VOK.tupd (vs:=[.ag [.b x3.1.1,.sl (L x3.1.2.1),.sl (L x3.1.2.2)],.i .i64 x3.2]) (Ah (Nf g3) Tryz.call161)) ?_;refine va ?_;refine vk vex ?_;refine vk vex ?_;refine vk (van (Ap Fq) Fr) ?_
  refine stn ?_ AE (by decide)
  refine ar [2,3,4,5,6,7] ?_;refine .seq ?_;refine .sr ?_;refine va ?_;refine vb ?_;refine rk [2,3,4,5,6,7,33] ?_
  rcases brc h with ⟨hc,h⟩|⟨hc,h⟩
  ·refine cnt (dT hc) ?_
   refine .region ?_;refine vk (E2 A4 AE) ?_
   obtain ⟨x4,g4,h⟩:=bnd h
   refine vk (VOK.tupd (vs:=[.ag [.b x4.1.1,.sl (L x4.1.2.1),.sl (L x4.1.2.2)],.i .i64 x4.2]) (Ah (PB g4) Tryz.call205)) ?_;refine va ?_;refine vk vex ?_;refine vk vex ?_
   refine stn ?_ AE (by decide)
   refine ar [2,3,4,5,6,7] ?_;refine .seq ?_;refine .sr ?_;refine va ?_;refine vb ?_;refine rk [2,3,4,5,6,7,40] ?_
   rcases brc h with ⟨hc,h⟩|⟨hc,h⟩
   ·refine cnt (dT hc) ?_
    refine .region ?_;refine vk (Aq A4 AE) ?_;refine vk (E2 A4 AE) ?_;refine vk ((G0 (Gr [a0,x4.1]) IP).deep) ?_
    obtain ⟨x5,g5,h⟩:=bnd h
    refine vk (VOK.tupd (vs:=[.ag [.b x5.1.1,.sl (L x5.1.2.1),.sl (L x5.1.2.2)],.i .i64 x5.2]) (Ah (Of g5) Tryz.call105)) ?_;refine va ?_;refine vk vex ?_;refine vk vex ?_
    refine stn ?_ AE (by decide)
    refine ar [3,4,5,6,7] ?_;refine .seq ?_;refine .sr ?_;refine va ?_;refine vb ?_;refine rk [3,4,5,6,7,49] ?_
    rcases brc h with ⟨hc,h⟩|⟨hc,h⟩
    ·refine cnf (ntf (dT hc)) ?_
     refine .sk ?_;refine .sr ?_;refine vk (Aq A4 AE) ?_;refine vk (E2 A4 AE) ?_
     obtain ⟨x6,g6,h⟩:=bnd h
     refine vk (VOK.tupd (vs:=[.ag [.b x6.1.1,.sl (L x6.1.2.1),.sl (L x6.1.2.2)],.i .i64 x6.2]) (Ah (F9 g6) Tryz.call160)) ?_;refine vk vex ?_;refine vk vex ?_
     refine stn ?_ AE (by decide)
     refine ar [4,5] ?_;refine .ret ?_
     cases h
     exact ⟨_,_,⟨.inr rfl,A4,AE,p3⟩,rfl,rfl⟩
    refine cnt (ntt (dF hc)) ?_;refine .sr ?_;refine vk (vbd KJ Fq Fr) ?_;refine va ?_
    refine stn ?_ AE (by decide)
    refine ar [3,4,5,6] ?_;refine .ret ?_
    cases h
    exact ⟨_,_,⟨.inr rfl,A4,AE,p3⟩,rfl,rfl⟩
   refine cnf (dF hc) ?_;refine .sk ?_;refine .seq ?_;refine .sr ?_;refine va ?_;refine vb ?_;refine rk [3,4,5,6,7,49] ?_
   rcases brc h with ⟨hc,h⟩|⟨hc,h⟩
   ·refine cnf (ntf (dT hc)) ?_
    refine .sk ?_;refine .sr ?_;refine vk (Aq A4 AE) ?_;refine vk (E2 A4 AE) ?_
    obtain ⟨x7,g7,h⟩:=bnd h
    refine vk (VOK.tupd (vs:=[.ag [.b x7.1.1,.sl (L x7.1.2.1),.sl (L x7.1.2.2)],.i .i64 x7.2]) (Ah (F9 g7) Tryz.call160)) ?_;refine vk vex ?_;refine vk vex ?_
    refine stn ?_ AE (by decide)
    refine ar [4,5] ?_;refine .ret ?_
    cases h
    exact ⟨_,_,⟨.inr rfl,A4,AE,p3⟩,rfl,rfl⟩
   refine cnt (ntt (dF hc)) ?_;refine .sr ?_;refine vk (vbd KJ Fq Fr) ?_;refine va ?_
   refine stn ?_ AE (by decide)
   refine ar [3,4,5,6] ?_;refine .ret ?_
   cases h
   exact ⟨_,_,⟨.inr rfl,A4,AE,p3⟩,rfl,rfl⟩
  refine cnf (dF hc) ?_;refine .sk ?_;refine .seq ?_;refine .sr ?_;refine va ?_;refine vb ?_;refine rk [2,3,4,5,6,7,40] ?_
  rcases brc h with ⟨hc,h⟩|⟨hc,h⟩
  ·refine cnt (dT hc) ?_
   refine .region ?_;refine vk (Aq A4 AE) ?_;refine vk (E2 A4 AE) ?_;refine vk ((G0 (Gr [a0,x3.1]) IP).deep) ?_
   obtain ⟨x8,g8,h⟩:=bnd h
   refine vk (VOK.tupd (vs:=[.ag [.b x8.1.1,.sl (L x8.1.2.1),.sl (L x8.1.2.2)],.i .i64 x8.2]) (Ah (Of g8) Tryz.call105)) ?_;refine va ?_;refine vk vex ?_;refine vk vex ?_
   refine stn ?_ AE (by decide)
   refine ar [3,4,5,6,7] ?_;refine .seq ?_;refine .sr ?_;refine va ?_;refine vb ?_;refine rk [3,4,5,6,7,49] ?_
   rcases brc h with ⟨hc,h⟩|⟨hc,h⟩
   ·refine cnf (ntf (dT hc)) ?_
    refine .sk ?_;refine .sr ?_;refine vk (Aq A4 AE) ?_;refine vk (E2 A4 AE) ?_
    obtain ⟨x9,g9,h⟩:=bnd h
    refine vk (VOK.tupd (vs:=[.ag [.b x9.1.1,.sl (L x9.1.2.1),.sl (L x9.1.2.2)],.i .i64 x9.2]) (Ah (F9 g9) Tryz.call160)) ?_;refine vk vex ?_;refine vk vex ?_
    refine stn ?_ AE (by decide)
    refine ar [4,5] ?_;refine .ret ?_
    cases h
    exact ⟨_,_,⟨.inr rfl,A4,AE,p3⟩,rfl,rfl⟩
   refine cnt (ntt (dF hc)) ?_;refine .sr ?_;refine vk (vbd KJ Fq Fr) ?_;refine va ?_
   refine stn ?_ AE (by decide)
   refine ar [3,4,5,6] ?_;refine .ret ?_
   cases h
   exact ⟨_,_,⟨.inr rfl,A4,AE,p3⟩,rfl,rfl⟩
  refine cnf (dF hc) ?_;refine .sk ?_;refine .seq ?_;refine .sr ?_;refine va ?_;refine vb ?_;refine rk [3,4,5,6,7,49] ?_
  rcases brc h with ⟨hc,h⟩|⟨hc,h⟩
  ·refine cnf (ntf (dT hc)) ?_
   refine .sk ?_;refine .sr ?_;refine vk (Aq A4 AE) ?_;refine vk (E2 A4 AE) ?_
   obtain ⟨x10,g10,h⟩:=bnd h
   refine vk (VOK.tupd (vs:=[.ag [.b x10.1.1,.sl (L x10.1.2.1),.sl (L x10.1.2.2)],.i .i64 x10.2]) (Ah (F9 g10) Tryz.call160)) ?_;refine vk vex ?_;refine vk vex ?_
   refine stn ?_ AE (by decide)
   refine ar [4,5] ?_;refine .ret ?_
   cases h
   exact ⟨_,_,⟨.inr rfl,A4,AE,p3⟩,rfl,rfl⟩
  refine cnt (ntt (dF hc)) ?_;refine .sr ?_;refine vk (vbd KJ Fq Fr) ?_;refine va ?_
  refine stn ?_ AE (by decide)
  refine ar [3,4,5,6] ?_;refine .ret ?_
  cases h
  exact ⟨_,_,⟨.inr rfl,A4,AE,p3⟩,rfl,rfl⟩
 refine cnt (ntt (bf hc)) ?_;refine .sr ?_;refine vk (vbd KJ Fq Fr) ?_
 refine stn ?_ AE (by decide)
 refine ar [2,3,4,5] ?_;refine .ret ?_
 cases h
 exact ⟨_,_,⟨.inr rfl,A4,AE,p3⟩,rfl,rfl⟩
theorem C2 {z:Int} (h1:-9223372036854775808≤z) (h2:z≤9223372036854775807) : w64 z=z:=Gc h1 h2
theorem Fl {α β:Type} {x:Option α} {a:α} {f:α→Option β} {r:Option β} (h:x=some a) (h2:f a=r) : x.bind f=r:=by rw [h];exact h2
theorem IW {r:RT} (h:F8 r=true) : Gp r=some (A9 r):=if_pos h
theorem Hy {r:RT} (h:F8 r=true) : Ez r=some (A9 r):=if_pos h
theorem Tc {l:List RT} (h:l.all F8=true) (hl:l.length≤1048576) : DU l=some (l.all A9):=if_pos (by rw [h,Bool.true_and];exact dT hl)
theorem Wn {a b:RT} (ha:F8 a=true) (hb:F8 b=true) : DU [a,b]=some (A9 a&&A9 b):=by
 rw [Tc (by simp [ha,hb]) (by simp)];simp
theorem Vx (a:RT) : Jn a=some ((a.2.1,a.2.2),a.1):=if_pos trivial
theorem TG : Le=some [1]:=if_pos trivial
theorem L9 (p:Rat) : Jn (ofQ p)=some (qN (q3 p)):=Vx _
def sm (k:Nat) (x:Q3) : Prop:=(Ab x.2.1).length≤k∧(Ab x.2.2).length≤k
theorem SF {k l:Nat} {x:Q3} (h:sm k x) (hl:k≤l) : sm l x:=⟨nT h.1 hl,nT h.2 hl⟩
theorem Ts {p:Rat} (h:Jj p) : sm 32 (q3 p):=h
theorem Uc (x:Q3) : HT (!x.1,x.2.1,x.2.2)=- HT x:=by
 rw [Rat.neg_mkRat]
 have:sg (!x.1) x.2.1=- sg x.1 x.2.1:=by cases x.1<;>simp [sg]
 rw [HT,this]
theorem Vt (p:Rat) : (q3 p).2.2≠0:=p.den_nz
theorem Oh {p q:Rat} (hp:Jj p) (hq:Jj q) : (A9 (ofQ p)&&A9 (ofQ q))=true:=by rw [FX hp,FX hq];rfl
theorem Wg {p:Rat} : (0:Int)<((List.length (ofQ p).2.1 : Nat) : Int)↔p≠0:=by
 show (0:Int)<(((Ab p.num.natAbs).length:Nat):Int)↔_
 constructor
 ·rintro h rfl
  rw [show (0:Rat).num.natAbs=0 from rfl,AJ] at h;simp at h
 ·intro h
  have:p.num≠0:=fun h2=>h (Rat.num_eq_zero.1 h2)
  have:Ab p.num.natAbs≠[]:=fun h2=>this (by have:=EP.1 h2;omega)
  have:=List.length_pos_iff.2 this
  omega
theorem VM {p:Rat} : ((List.length (ofQ p).2.1 : Nat) : Int)=0↔p=0:=by
 have:=@Wg p
 constructor
 ·intro h
  by_cases hp:p=0
  ·exact hp
  ·have:=this.2 hp;omega
 ·intro h
  by_cases h0:((List.length (ofQ p).2.1:Nat):Int)=0
  ·exact h0
  ·exact absurd h (this.1 (by omega))
theorem WL {z:Int} (h1:-9223372036854775808≤z) (h2:z≤9223372036854775807) : Ec z=some (ofQ z):=by
 have:Ec z=some (decide (z<0),Ab z.natAbs,[1]):=if_pos ⟨h1,h2⟩
 rw [this]
 show _=some (decide (z<0),Ab z.natAbs,Ab 1)
 rw [Rc]
theorem U5 {z:Int} (h1:-9223372036854775808≤z) (h2:z≤9223372036854775808) : Jj (z:Rat):=by
 constructor
 ·show (Ab z.natAbs).length≤32
  exact nT (CD (k:=3) (by omega)) (by decide)
 ·show (Ab 1).length≤32
  rw [Rc];decide
mutual
def okI : Itm→Prop
 | .mk k n c b=>(0≤k∧k<256)∧F8 n=true∧(-2147483648≤c∧c<2147483648)∧b.length≤2932031007402∧okAs b
def okAr : Arr→Prop
 | .mk s i=>(∀ z∈s,-9223372036854775808≤z∧z≤9223372036854775807)∧s.length≤17592186044416∧i.length≤1466015503701∧okIs i
def okIs : List Itm→Prop
 | []=>True
 | x::xs=>okI x∧okIs xs
def okAs : List Arr→Prop
 | []=>True
 | x::xs=>okAr x∧okAs xs
end
theorem PW : ∀ {xs:List Itm},okIs xs↔∀ x∈xs,okI x
 | []=>by simp [okIs]
 | x::xs=>by simp [okIs,PW (xs:=xs)]
theorem QX : ∀ {xs:List Arr},okAs xs↔∀ x∈xs,okAr x
 | []=>by simp [okAs]
 | x::xs=>by simp [okAs,QX (xs:=xs)]
theorem DA (x:Itm) : okI x↔(0≤x.kind∧x.kind<256)∧F8 x.num=true∧(-2147483648≤x.char∧x.char<2147483648)∧x.box.length≤2932031007402∧∀ a∈x.box,okAr a:=by
 cases x;simp only [okI,QX,Itm.kind,Itm.num,Itm.char,Itm.box]
theorem BE (a:Arr) : okAr a↔(∀ z∈a.shape,-9223372036854775808≤z∧z≤9223372036854775807)∧a.shape.length≤17592186044416∧a.items.length≤1466015503701∧∀ x∈a.items,okI x:=by
 cases a;simp only [okAr,PW,Arr.shape,Arr.items]
theorem OD : ∀ {xs:List Itm} {x:Itm},x∈xs→x.size≤itsSize xs
 | y::xs,x,h=>by
  rw [itsSize]
  rcases List.mem_cons.1 h with rfl|h
  ·omega
  ·have:=OD h;omega
theorem Q8 : ∀ {xs:List Arr} {x:Arr},x∈xs→x.size≤arsSize xs
 | y::xs,x,h=>by
  rw [arsSize]
  rcases List.mem_cons.1 h with rfl|h
  ·omega
  ·have:=Q8 h;omega
theorem HN {a:Arr} {x:Itm} (h:x∈a.items) : x.size<a.size:=by
 cases a;have:=OD (xs:=_) h;simp only [Arr.size,Arr.items] at *;omega
theorem FY {x:Itm} {a:Arr} (h:a∈x.box) : a.size<x.size:=by
 cases x;have:=Q8 (xs:=_) h;simp only [Itm.size,Itm.box] at *;omega
theorem CB {n:Nat} (h:n≤140737488355328) : n<AK:=by unfold AK;omega
theorem Dh {i:Nat} (h:i≤9223372036854775806) : w64 ((i:Int)+1)=((i+1:Nat) : Int):=by rw [C2 (by omega) (by omega)];omega
theorem YN {α:Type} {xs:List α} {i:Nat} {x:α} (h:xs[i]?=some x) : rd? xs (i:Int)=some x:=by
 rw [rd?,if_pos (by omega)];simpa using h
theorem Cf {α:Type} {xs:List α} {i:Nat} (h:i<xs.length) : rd? xs (i:Int)=some xs[i]:=YN (lG h)
theorem Na {α:Type} {m:Nat} {xs ys:List α} (h:xs.length+ys.length≤m) : ap? m xs ys=some (xs++ys):=if_pos h
theorem LK {α:Type} {x:α} {xs:List α} : rd? (x::xs) 0=some x:=rfl
theorem Ly {xs:List Int} {f:BY} {p:Int→Bool} (hf:∀ x∈xs,f.g x=some (p x)) (K:Int→Option Int) (hl:xs.length≤17592186044416) : ∀ (n i k:Nat) (s:Int),n=xs.length-i→i≤xs.length→n<k →
  AU xs f K k s (i:Int)=match (xs.drop i).findIdx? p with|some j=>some (((i+j:Nat)):Int)|none=>K s
 | n,i,0,s,_,_,h=>by omega
 | n,i,k+1,s,hn,hi,hk=>by
  rw [AU]
  by_cases hlt:i<xs.length
  ·rw [if_pos (by omega),Cf hlt,oB,hf _ (List.getElem_mem _),oB,lC hlt,List.findIdx?_cons]
   by_cases hp:p xs[i]=true
   ·rw [if_pos hp,if_pos hp];rfl
   ·rw [if_neg hp,if_neg hp,Dh (by omega),Ly hf K hl (n-1) (i+1) k s (by omega) (by omega) (by omega)]
    cases (xs.drop (i+1)).findIdx? p with
    | none=>rfl
    | some j=>simp only [Option.map_some];congr 1;omega
  ·rw [if_neg (by omega),List.drop_of_length_le (by omega)];rfl
theorem H9 {xs:List Int} {f:BY} {p:Int→Bool} (hf:∀ x∈xs,f.g x=some (p x)) (hl:xs.length≤17592186044416) : A5 xs f=some (xs.any p):=by
 unfold A5 BX
 simp only [jn]
 have:=Ly hf (fun _=>some (-1)) hl xs.length 0 AK 0 rfl (Nat.zero_le _) (CB (by omega))
 rw [List.drop_zero] at this
 rw [show ((0:Nat):Int)=0 from rfl] at this
 rw [this]
 cases h:xs.findIdx? p with
 | none =>
  rw [oB]
  rw [List.findIdx?_eq_none_iff] at h
  rw [show (xs.any p)=false by rw [List.any_eq_false];intro x hx;simp [h x hx]]
  rfl
 | some j =>
  rw [oB]
  rw [List.findIdx?_eq_some_iff_getElem] at h
  obtain ⟨hj,h1,_⟩:=h
  rw [show (xs.any p)=true by rw [List.any_eq_true];exact ⟨_,List.getElem_mem hj,h1⟩]
  simp
theorem JW {xs:List Int} {v:Int} (K:Int→Option Int) (hl:xs.length≤17592186044416) : ∀ (n i k:Nat) (s:Int),n=xs.length-i→i≤xs.length→n<k →
  A6 xs v K k s (i:Int)=match (xs.drop i).findIdx? (fun x=>decide (v=x)) with|some j=>some (((i+j:Nat)):Int)|none=>K s
 | n,i,0,s,_,_,h=>by omega
 | n,i,k+1,s,hn,hi,hk=>by
  rw [A6]
  by_cases hlt:i<xs.length
  ·rw [if_pos (by omega),Cf hlt,oB,lC hlt,List.findIdx?_cons]
   by_cases hp:v=xs[i]
   ·rw [if_pos hp,if_pos (dT hp)];rfl
   ·rw [if_neg hp,if_neg (by simp [hp]),Dh (by omega),JW K hl (n-1) (i+1) k s (by omega) (by omega) (by omega)]
    cases (xs.drop (i+1)).findIdx? (fun x=>decide (v=x)) with
    | none=>rfl
    | some j=>simp only [Option.map_some];congr 1;omega
  ·rw [if_neg (by omega),List.drop_of_length_le (by omega)];rfl
theorem QO {xs:List Int} {v:Int} (hl:xs.length≤17592186044416) : BF xs v=some (decide (v∈xs)):=by
 unfold BF CE
 simp only [jn]
 have:=JW (v:=v) (fun _=>some (-1)) hl xs.length 0 AK 0 rfl (Nat.zero_le _) (CB (by omega))
 rw [List.drop_zero] at this
 rw [show ((0:Nat):Int)=0 from rfl] at this
 rw [this]
 cases h:xs.findIdx? (fun x=>decide (v=x)) with
 | none =>
  rw [oB]
  rw [List.findIdx?_eq_none_iff] at h
  rw [show decide (v∈xs)=false by rw [decide_eq_false_iff_not];intro hx;have:=h v hx;simp at this]
  rfl
 | some j =>
  rw [oB]
  rw [List.findIdx?_eq_some_iff_getElem] at h
  obtain ⟨hj,h1,_⟩:=h
  rw [show decide (v∈xs)=true by rw [decide_eq_true_eq];rw [decide_eq_true_eq] at h1;rw [h1];exact List.getElem_mem hj]
  simp
def D4 (s:List Int) : Int:=s.foldl (· * ·) 1
def szP (s:List Int) : Int×Int :=
 if 8<s.length then (0,4) else if s.any (fun n=>decide (n<0)) then (0,3) else if s.any (fun n=>decide (4096<n)) then (0,8) else if 0∈s then (0,0) else if D4 s≤4096 then (D4 s,0) else (0,8)
theorem KN (s:List Int) : ∀ n : Int,s.foldl (· * ·) n=n * s.foldl (· * ·) 1:=by
 induction s with
 | nil=>intro n;simp
 | cons x xs ih=>intro n;rw [List.foldl_cons,List.foldl_cons,ih (n * x),ih (1 * x),Int.one_mul,Int.mul_assoc]
theorem KW {s:List Int} (h:∀ x∈s,1≤x) : 1≤D4 s:=by
 induction s with
 | nil=>exact Int.le_refl _
 | cons x xs ih =>
  have h1:=h x (by simp)
  have h2:=ih fun y hy=>h y (by simp [hy])
  unfold D4 at *
  rw [List.foldl_cons,KN,Int.one_mul]
  exact Int.le_trans (by omega:(1:Int)≤1 * 1) (Int.mul_le_mul h1 h2 (by omega) (by omega))
theorem N1 {s:List Int} (hl:s.length≤8) (hp:∀ x∈s,1≤x∧x≤4096) (K:Int→Int→Int→Option (Int×Int)) : ∀ (n i k:Nat) (a b m:Int),n=s.length-i→i≤s.length→n<k→1≤m→m≤4096 →
  CO s K k a b m (i:Int)=if m * D4 (s.drop i)≤4096 then K a b (m * D4 (s.drop i)) else some (0,8)
 | n,i,0,a,b,m,_,_,h,_,_=>by omega
 | n,i,k+1,a,b,m,hn,hi,hk,h1,h2=>by
  rw [CO]
  by_cases hlt:i<s.length
  ·rw [if_pos (by omega),Cf hlt,oB,G6,if_pos (by omega),oB,lC hlt]
   have hx:=hp s[i] (List.getElem_mem _)
   have hq0:0≤Int.tdiv 4096 m:=Int.tdiv_nonneg (by omega) (by omega)
   have hq1:Int.tdiv 4096 m≤4096:=by rw [Int.tdiv_eq_ediv_of_nonneg (by omega)];exact Int.ediv_le_self _ (by omega)
   rw [C2 (by omega) (by omega)]
   have hpos:1≤D4 (s.drop (i+1)):=KW fun x hx=>(hp x (List.mem_of_mem_drop hx)).1
   have hprod:D4 (s[i]::s.drop (i+1))=s[i] * D4 (s.drop (i+1)):=by unfold D4;rw [List.foldl_cons,KN,Int.one_mul]
   have hdiv:Int.tdiv 4096 m<s[i]↔4096<m * s[i]:=by
    rw [Int.tdiv_eq_ediv_of_nonneg (by omega),Int.ediv_lt_iff_lt_mul (by omega),Int.mul_comm]
   rw [hprod,← Int.mul_assoc]
   by_cases hc:4096<m * s[i]
   ·rw [if_pos (hdiv.2 hc),if_neg]
    have:m * s[i] * 1≤m * s[i] * D4 (s.drop (i+1)):=Int.mul_le_mul_of_nonneg_left hpos (by omega)
    omega
   ·have hm1:1≤m * s[i]:=Int.le_trans (by omega:(1:Int)≤1 * 1) (Int.mul_le_mul h1 hx.1 (by omega) (by omega))
    rw [if_neg (fun h=>hc (hdiv.1 h)),Dh (by omega),C2 (by omega) (by omega)]
    exact N1 hl hp K (n-1) (i+1) k a b (m * s[i]) (by omega) (by omega) (by omega) hm1 (by omega)
  ·rw [if_neg (by omega),List.drop_of_length_le (by omega)]
   rw [show D4 []=1 from rfl,Int.mul_one,if_pos h2]
theorem L6 {s:List Int} (hl:s.length≤17592186044416) : Dc s=some (szP s):=by
 unfold Dc szP
 by_cases h8:8<s.length
 ·rw [if_pos (by omega),if_pos h8]
 rw [if_neg (by omega),if_neg h8]
 rw [H9 (p:=fun n=>decide (n<0)) (fun x _=>rfl) hl,oB]
 by_cases h0:s.any (fun n=>decide (n<0))=true
 ·rw [if_pos h0,if_pos h0]
 rw [if_neg h0,if_neg h0]
 rw [H9 (p:=fun n=>decide (4096<n)) (fun x _=>rfl) hl,oB]
 by_cases h1:s.any (fun n=>decide (4096<n))=true
 ·rw [if_pos h1,if_pos h1]
 rw [if_neg h1,if_neg h1,QO hl,oB]
 by_cases h2:0∈s
 ·rw [if_pos (dT h2),if_pos h2]
 rw [if_neg (by simp [h2]),if_neg h2]
 have hp:∀ x∈s,1≤x∧x≤4096:=fun x hx=>by
  simp only [List.any_eq_true,decide_eq_true_eq,not_exists,not_and] at h0 h1
  have a:=h0 x hx
  have b:=h1 x hx
  have c:x≠0:=fun e=>h2 (e▸hx)
  omega
 have:=N1 (by omega) hp (fun z4 z5 z6=>some (z6,0)) s.length 0 AK 0 0 1 rfl (Nat.zero_le _) (CB (by omega)) (by omega) (by omega)
 rw [List.drop_zero,Int.one_mul,show ((0:Nat):Int)=0 from rfl] at this
 simp only [jn]
 rw [this]
 split<;>rfl
theorem ML (s:List Int) : 0≤(szP s).1∧(szP s).1≤4096:=by
 unfold szP
 split
 ·exact ⟨by decide,by decide⟩
 split
 ·exact ⟨by decide,by decide⟩
 split
 ·exact ⟨by decide,by decide⟩
 split
 ·exact ⟨by decide,by decide⟩
 split
 ·rename_i h8 h0 h1 h2 h3
  refine ⟨?_,h3⟩
  have:1≤D4 s:=KW fun x hx=>by
   simp only [List.any_eq_true,decide_eq_true_eq,not_exists,not_and] at h0 h1
   have a:=h0 x hx
   have c:x≠0:=fun e=>h2 (e▸hx)
   omega
  omega
 ·exact ⟨by decide,by decide⟩
def D2 (a0:(List Nat)) (a1:Bool) (a2:(List Nat)) (a3:Bool) : Option ((List Nat)×Bool):=(if (a1 == a3)=true then ((SE a0 a2).bind fun x1=>(some (x1,a1))) else ((I8 a0 a2).bind fun x2=>(if 0≤x2 then ((J3 a0 a2).bind fun x3=>(some (x3.1,a1))) else ((J3 a2 a0).bind fun x4=>(some (x4.1,a3))))))
theorem LQ {a0:(List Nat)} {a1:Bool} {a2:(List Nat)} {a3:Bool} {r:(List Nat)×Bool} (h:D2 a0 a1 a2 a3=some r) :
  Fn Tryz.prog 196 [.sl (L a0),.b a1,.sl (L a2),.b a3] (.tup [.d (.sl (L r.1)),.d (.b r.2)]):=by
 unfold D2 at h
 refine Fn.of (rs:=[.tmp 8,.tmp 9]) (nt:=41) Tryz.func196 rfl rfl rfl (by simp) rfl ?_;refine .sr ?_;refine asn ?_;refine ar [0,1,2,3,8,9] ?_;refine .seq ?_;refine .sr ?_;refine va ?_;refine va ?_;refine vk (XE (.inl rfl) bo) ?_;refine rk [0,1,2,3,8,9,16] ?_
 rcases brc h with ⟨hc,h⟩|⟨hc,h⟩
 ·refine cnt hc ?_
  refine .sr ?_;refine va ?_;refine va ?_
  obtain ⟨x1,g1,h⟩:=bnd h
  refine vk ((Ah (Up g1) Tryz.call236).deep) ?_;refine va ?_;refine asd ?_;refine ar [0,1,2,3,8,9] ?_;refine .ret ?_
  cases h
  exact ⟨by decide,rfl,rfl,rfl⟩
 refine cnf (bf hc) ?_;refine .sk ?_;refine .seq ?_;refine .sr ?_;refine va ?_;refine va ?_
 obtain ⟨x2,g2,h⟩:=bnd h
 refine vk (Ah (OT g2) Tryz.call231) ?_;refine vb ?_;refine rk [0,1,2,3,8,9,24] ?_
 rcases brc h with ⟨hc,h⟩|⟨hc,h⟩
 ·refine cnt (dT hc) ?_
  refine .sr ?_;refine va ?_;refine va ?_
  obtain ⟨x3,g3,h⟩:=bnd h
  refine vk (VOK.tupd (vs:=[.sl (L x3.1),.b x3.2]) (Ah (Np g3) Tryz.call237)) ?_;refine va ?_;refine vk vex ?_;refine vk vex ?_;refine asd ?_;refine ar [0,1,2,3,8,9,10] ?_;refine .sr ?_;refine va ?_;refine va ?_;refine asd ?_;refine ar [0,2,3,8,9] ?_;refine .ret ?_
  cases h
  exact ⟨by decide,rfl,rfl,rfl⟩
 refine cnf (dF hc) ?_;refine .sk ?_;refine .sr ?_;refine va ?_;refine va ?_
 obtain ⟨x4,g4,h⟩:=bnd h
 refine vk (VOK.tupd (vs:=[.sl (L x4.1),.b x4.2]) (Ah (Np g4) Tryz.call237)) ?_;refine va ?_;refine vk vex ?_;refine vk vex ?_;refine asd ?_;refine ar [3,8,9,12] ?_;refine .sr ?_;refine va ?_;refine va ?_;refine asd ?_;refine ar [8,9] ?_;refine .ret ?_
 cases h
 exact ⟨by decide,rfl,rfl,rfl⟩
def Eb (a0:RT) (a1:RT) : Option (Int):=((Ez a0).bind fun x1=>(Option.bind ((if x1=true then ((Ez a1).bind fun x3=>(some (!x3))) else (some true)) : Option (Bool)) fun (z1:Bool)=>(if z1=true then (some (0)) else ((MX a0.2.1 a1.2.2).bind fun x4=>((MX a1.2.1 a0.2.2).bind fun x5=>((D2 x4 a0.1 x5 (!a1.1)).bind fun x6=>(if ((List.length x6.1:Nat) : Int)=0 then (some (0)) else (if x6.2=true then (some ((-1))) else (some (1))))))))))
theorem Lh {a0:RT} {a1:RT} {r:Int} (h:Eb a0 a1=some r) :
  Fn Tryz.prog 149 [.ag [.b a0.1,.sl (L a0.2.1),.sl (L a0.2.2)],.ag [.b a1.1,.sl (L a1.2.1),.sl (L a1.2.2)]] (.d (.i .i64 r)):=by
 unfold Eb at h
 refine Fn.o1 4 40 Tryz.func149 ?_;refine .sr ?_;refine vk vbx ?_;refine vk vbx ?_;refine ar [2,3,4] ?_;refine .seq ?_;refine .seq ?_
 obtain ⟨x1,g1,h⟩:=bnd h
 obtain ⟨z1,hz,h⟩:=bnd h
 refine AW.mr (σ:=Unit) (fun _=>True) (fun _=>[(2,.d (.ptr [.b a0.1,.sl (L a0.2.1),.sl (L a0.2.2)])),(3,.d (.ptr [.b a1.1,.sl (L a1.2.1),.sl (L a1.2.2)])),(4,.d (.i .i64 0)),(14,.d (.b z1))]) (fun _=>[]) ?_ ?_
 ·skip
  refine .region ?_;refine vk (Aq A4 AE) ?_;refine vk (Ah (HG g1) Tryz.call183) ?_;refine vk vnt ?_
  rcases brc hz with ⟨hc,hz⟩|⟨hc,hz⟩
  ·have hb0:(!x1)=false:=(ntf hc)
   refine vL hb0 ?_;refine vk (Aq A4 AE) ?_
   obtain ⟨x3,g3,hz⟩:=bnd hz
   refine vk (Ah (HG g3) Tryz.call183) ?_;refine vk vnt ?_;refine vk Ag ?_;refine RL.gk [2,3,4,14] ?_;refine .nil ?_
   cases hz
   exact jr () trivial
  have hb0:(!x1)=true:=(ntt (bf hc))
  refine vL hb0 ?_;refine gf3 ?_;refine vk Ag ?_;refine RL.gk [2,3,4,14] ?_;refine .nil ?_
  cases hz
  exact jr () trivial
 rintro _ _
 rcases brc h with ⟨hc,h⟩|⟨hc,h⟩
 ·refine cnt hc ?_
  refine .sr ?_;refine ar [2,3,4] ?_;refine .ret ?_
  cases h
  exact ⟨rfl,rfl⟩
 refine cnf (bf hc) ?_;refine .sk ?_;refine .seq ?_
 obtain ⟨x4,g4,h⟩:=bnd h
 obtain ⟨x5,g5,h⟩:=bnd h
 obtain ⟨x6,g6,h⟩:=bnd h
 refine .drawnF 19 [18] [(5,.d (.sl (L x6.1)))] [] A2 (by kernel_rfl) rfl ?_;refine dv (vfa D6) ?_;refine dv (Am ET) ?_;refine dv (vfa Ga) ?_;refine dv (Am ET) ?_;refine dv ((Ah (QI g4) Tryz.call197).deep) ?_;refine dv (vfa E4) ?_;refine dv (Am D0) ?_;refine dv (vfa D6) ?_;refine dv (Am ET) ?_;refine dv (vfa Ga) ?_;refine dv (Am ET) ?_;refine dv ((Ah (QI g5) Tryz.call197).deep) ?_;refine dv (vfa E4) ?_;refine dv (Am D0) ?_;refine dv vnt ?_;refine dv (VOK.tupd (vs:=[.sl (L x6.1),.b x6.2]) (Ah (LQ g6) Tryz.call196)) ?_;refine dv Ae ?_;refine dv vex ?_;refine dv vex ?_;refine dz ?_
 refine ⟨?_,?_,?_⟩
 ·intro k hk
  simp only [List.mem_cons,List.not_mem_nil,or_false] at hk
  subst hk
  exact ⟨_,_,_,rfl,rfl,rfl,rfl,rfl,rfl,vex⟩
 ·intro om e hom hge
  cases hom
  exact VX rfl ((hge 32 (fun k hk v hv=>by
    simp only [List.mem_cons,List.not_mem_nil,or_false] at hk
    subst hk;exact (by decide:¬(some 33=some 32)) (congrArg (Option.map Prod.fst) hv))).trans rfl) rfl ((congrArg Ao (hge 5 (fun k hk v hv=>by
    simp only [List.mem_cons,List.not_mem_nil,or_false] at hk
    subst hk;exact (by decide:¬(some 33=some 5)) (congrArg (Option.map Prod.fst) hv)))).trans rfl) rfl ⟨rfl,rfl⟩
 refine ar [4,5,6] ?_;refine .seq ?_;refine .block ?_;refine .sr ?_;refine va ?_;refine vk (A8 (Aa _) (Bf _) Nz) ?_;refine vb ?_;refine ar [4,6,34] ?_
 rcases brc h with ⟨hc,h⟩|⟨hc,h⟩
 ·refine cnt (dT hc) ?_
  refine .sr ?_;refine ar [4] ?_;refine .ret ?_
  cases h
  exact ⟨rfl,rfl⟩
 refine cnf (dF hc) ?_;refine .sr ?_;refine va ?_;refine ar [4,38] ?_
 rcases brc h with ⟨hc,h⟩|⟨hc,h⟩
 ·refine cnt hc ?_
  refine .sr ?_;refine ar [4] ?_;refine .ret ?_
  cases h
  exact ⟨rfl,rfl⟩
 refine cnf (bf hc) ?_;refine .sk ?_;refine .sr ?_;refine ar [4] ?_;refine .ret ?_
 cases h
 exact ⟨rfl,rfl⟩
def EH (a0:Int) : Option (Bool):=(some (((decide (0≤a0))&&((decide (a0≤1114111))&&((decide (a0<55296))||(decide (57343<a0)))))))
theorem LV {a0:Int} {r:Bool} (h:EH a0=some r) :
  Fn Tryz.prog 184 [.i .i32 a0] (.d (.b r)):=by
 unfold EH at h
 refine Fn.o1 2 17 Tryz.func184 ?_;refine .sr ?_;refine ar [0,2] ?_;refine .seq ?_;refine AW.mr (σ:=Unit) (fun _=>True) (fun _=>[(2,.d (.b ((decide (0≤a0))&&((decide (a0≤1114111))&&((decide (a0<55296))||(decide (57343<a0)))))))]) (fun _=>[]) ?_ ?_
 ·skip
  refine .region ?_;refine va ?_;refine vb ?_
  by_cases hc:0≤a0
  ·have hb0:(decide (0≤a0))=true:=(dT hc)
   refine vL hb0 ?_;refine va ?_;refine vb ?_;refine vk Ag ?_
   by_cases hc:a0≤1114111
   ·have hb1:(decide (a0≤1114111))=true:=(dT hc)
    refine vL hb1 ?_;refine va ?_;refine vb ?_
    by_cases hc:a0<55296
    ·have hb2:(decide (a0<55296))=true:=(dT hc)
     refine vL hb2 ?_;refine gf2 ?_;refine vk Ag ?_;refine vk Ag ?_;refine asd ?_;refine RL.gk [2] ?_;refine .nil ?_
     exact jr () trivial (by simp only [hb0,hb1,hb2];rfl)
    have hb2:(decide (a0<55296))=false:=(dF hc)
    refine vL hb2 ?_;refine va ?_;refine vb ?_;refine vk Ag ?_;refine vk Ag ?_;refine asd ?_;refine RL.gk [2] ?_;refine .nil ?_
    exact jr () trivial (by simp only [hb0,hb1,hb2];rfl)
   have hb1:(decide (a0≤1114111))=false:=(dF hc)
   refine vL hb1 ?_;refine gf2 ?_;refine gfu ?_;refine gf3 ?_;refine vk Ag ?_;refine asd ?_;refine RL.gk [2] ?_;refine .nil ?_
   exact jr () trivial (by simp only [hb0,hb1];rfl)
  have hb0:(decide (0≤a0))=false:=(dF hc)
  refine vL hb0 ?_;refine gf2 ?_;refine vk Ag ?_;refine va ?_;refine gf2 ?_;refine gfu ?_;refine gf3 ?_;refine vk Ag ?_;refine asd ?_;refine RL.gk [2] ?_;refine .nil ?_
  exact jr () trivial (by simp only [hb0];rfl)
 rintro _ _
 refine .ret ?_
 cases h
 exact ⟨rfl,rfl⟩
def Tells (x:Option Bool) (p:Prop) : Prop:=∃ r,x=some r∧(r=true↔p)
theorem Tells.of {x:Option Bool} {p q:Prop} (h:Tells x p) (e:p↔q) : Tells x q:=by
 obtain ⟨r,h1,h2⟩:=h;exact ⟨r,h1,h2.trans e⟩
theorem Tells.yes {x:Option Bool} {p:Prop} (h:Tells x p) (hp:p) : x=some true:=by
 obtain ⟨r,h1,h2⟩:=h;rw [h1,h2.2 hp]
theorem Tells.no {x:Option Bool} {p:Prop} (h:Tells x p) (hp:¬p) : x=some false:=by
 obtain ⟨r,h1,h2⟩:=h
 cases r with
 | true=>exact absurd (h2.1 rfl) hp
 | false=>exact h1
theorem Dk {α β:Type} (k:α) (b:α→β) : jn k b=b k:=rfl
theorem Od {s:List Int} (h:s.length≤17592186044416) : EW s=some s:=by unfold EW;rw [Na (by simpa using h),List.nil_append]
theorem Kc {r:RT} (h:F8 r=true) : CA r=some r:=by
 have h1:=Kh.1 h
 unfold CA
 rw [FJ,if_pos h1.2.2.1,oB,FJ,if_pos h1.2.2.2,oB]
theorem Q4 {r:RT} (h:F8 r=true) : Ce r=some (.mk 1 r 0 []):=by
 unfold Ce;rw [Kc h,oB]
theorem Ls {a:Arr} {f:B5} {h:Itm→Itm} (hf:∀ x∈a.items,f.g x=some (h x)) (K:List Int→List Itm→Option Arr) (hl:a.items.length≤1466015503701) : ∀ (n i k:Nat) (s:List Int) (t:List Itm),n=a.items.length-i→i≤a.items.length→n<k→t.length=i →
  Cb a f K k (i:Int) s t=K s (t++(a.items.drop i).map h)
 | n,i,0,s,t,_,_,h,_=>by omega
 | n,i,k+1,s,t,hn,hi,hk,ht=>by
  rw [Cb]
  by_cases hlt:i<a.items.length
  ·rw [if_pos (by omega),Cf hlt,oB,hf _ (List.getElem_mem _),oB,Na (by simp;omega),oB,Dh (by omega),
    Ls hf K hl (n-1) (i+1) k s _ (by omega) (by omega) (by omega) (by simp [ht]),lC hlt,List.map_cons,List.append_assoc]
   rfl
  ·rw [if_neg (by omega),List.drop_of_length_le (by omega)];simp
theorem KY {a:Arr} {f:B5} {h:Itm→Itm} (hf:∀ x∈a.items,f.g x=some (h x)) (hs:a.shape.length≤17592186044416) (hl:a.items.length≤1466015503701) : Cj a f=some (.mk a.shape (a.items.map h)):=by
 unfold Cj
 rw [Od hs,oB]
 simp only [jn]
 have:=Ls hf (fun z2 z3=>some (Arr.mk z2 z3)) hl a.items.length 0 AK a.shape [] rfl (Nat.zero_le _) (CB (by omega)) rfl
 rw [List.drop_zero,show ((0:Nat):Int)=0 from rfl,List.nil_append] at this
 exact this
theorem MD {rc:Itm→Option Itm} {x:Itm} (hb:∀ a∈x.box,okAr a) (hrc:∀ a∈x.box,∀ y∈a.items,rc y=some y) (K:Int→Bool→List Nat→List Nat→Int→List Arr→Option Itm) (hl:x.box.length≤2932031007402) : ∀ (n i k:Nat) (s1:Int) (s2:Bool) (s3 s4:List Nat) (s5:Int) (t:List Arr),n=x.box.length-i→i≤x.box.length→n<k→t.length=i →
  DO rc x K k (i:Int) s1 s2 s3 s4 s5 t=K s1 s2 s3 s4 s5 (t++x.box.drop i)
 | n,i,0,s1,s2,s3,s4,s5,t,_,_,h,_=>by omega
 | n,i,k+1,s1,s2,s3,s4,s5,t,hn,hi,hk,ht=>by
  rw [DO]
  by_cases hlt:i<x.box.length
  ·have hm:=List.getElem_mem hlt
   have ho:=(BE _).1 (hb _ hm)
   have hc:=KY (a:=x.box[i]) (f:=⟨.fn 63 [] [],fun x=>rc x⟩) (h:=id) (fun y hy=>hrc _ hm y hy) ho.2.1 ho.2.2.1
   rw [List.map_id,Arr.eta] at hc
   rw [if_pos (by omega),Cf hlt,oB,hc,oB,Na (by simp;omega),oB,Dh (by omega),
    MD hb hrc K hl (n-1) (i+1) k s1 s2 s3 s4 s5 _ (by omega) (by omega) (by omega) (by simp [ht]),lC hlt,List.append_assoc]
   rfl
  ·rw [if_neg (by omega),List.drop_of_length_le (by omega)];simp
theorem Ou : ∀ (k:Nat) {x:Itm},x.size<k→okI x→ES k x=some x
 | 0,x,h,_=>by omega
 | k+1,x,h,ho=>by
  have h1:=(DA x).1 ho
  rw [ES,IT,Kc h1.2.1,oB]
  simp only [jn]
  have:=MD (rc:=ES k) (x:=x) h1.2.2.2.2 (fun a ha y hy=>Ou k (by have:=FY ha;have:=HN hy;omega) (((BE a).1 (h1.2.2.2.2 a ha)).2.2.2 y hy))
   (fun z2 z3 z4 z5 z6 z7=>some (Itm.mk z2 (z3,z4,z5) z6 z7)) h1.2.2.2.1 x.box.length 0 AK x.kind x.num.1 x.num.2.1 x.num.2.2 x.char [] rfl (Nat.zero_le _) (CB (by omega)) rfl
  rw [List.drop_zero,show ((0:Nat):Int)=0 from rfl,List.nil_append] at this
  rw [this]
  exact congrArg some (Itm.eta x)
theorem KF {x:Itm} (h:okI x) : GN x=some x:=Ou _ (Nat.lt_succ_self _) h
theorem Lx {a:Arr} (h:okAr a) : Cj a (⟨.fn 63 [] [],fun x=>GN x⟩ : B5)=some a:=by
 have ho:=(BE a).1 h
 have:=KY (a:=a) (f:=⟨.fn 63 [] [],fun x=>GN x⟩) (h:=id) (fun y hy=>KF (ho.2.2.2 y hy)) ho.2.1 ho.2.2.1
 rwa [List.map_id,Arr.eta] at this
mutual
def smI : Itm→Prop
 | .mk _ n _ b=>okL 1048576 n.2.1=true∧okL 1048576 n.2.2=true∧smAs b
def smA : Arr→Prop
 | .mk _ i=>smIs i
def smIs : List Itm→Prop
 | []=>True
 | x::xs=>smI x∧smIs xs
def smAs : List Arr→Prop
 | []=>True
 | x::xs=>smA x∧smAs xs
end
section
variable {S:Type} (step:Itm→S→Option (Bool×S))
def Pd : List Itm→S→Int→Option (Int×S)
 | [],s,_=>some (-1,s)
 | x::xs,s,i=>(step x s).bind fun r=>if r.1=true then some (i,r.2) else Pd xs r.2 (i+1)
end
theorem Yd {z:Int} (h1:-9223372036854775808≤z) (h2:z≤9223372036854775807) : w64 z=z:=by
 simp only [w64,IntKind.wrap,IntKind.bits,IntKind.signed];simp;omega
abbrev dvI (x:Itm) : DV:=.ag [.i .u8 x.kind,.b x.num.1,.sl (L x.num.2.1),.sl (L x.num.2.2),.i .i32 x.char,.sl (Ars x.box)]
abbrev dvA (x:Arr) : DV:=.ag [.sl (Is x.shape),.sl (Its x.items)]
set_option maxRecDepth 10000 in
theorem Pr {S:Type} {step:Itm→S→Option (Bool×S)} {st:S→Ac→Prop} {f:FuncId} {caps:List AV} (hcall:∀ args w,(callFunc f args).run Tryz.prog w=.ok (.enter f args) w) (hnc:noOwnL caps=true)
  (hstep:∀ (x:Itm) s r H,st s H→step x s=some r→FnR Tryz.prog f (.d (dvI x)::caps) H fun v H'=>v=.d (.b r.1)∧st r.2 H')
  {xs:List Itm} {s:S} {r:Int×S} (hl:xs.length≤9223372036854775806) (h:Pd step xs s 0=some r) {H:Ac} (hs:st s H) :
  FnR Tryz.prog 122 [.d (.sl (Its xs)),.fn f [] caps] H fun v H'=>v=.d (.i .i64 r.1)∧st r.2 H':=by
 have hfn:noOwn (.fn f [] caps)=true:=by simp [noOwn,noOwnL,hnc]
 refine FnR.of (rs:=[.tmp 4]) 19 Tryz.func122 rfl rfl rfl (by simp) ?_;refine .sr ?_;refine asd ?_;refine rn ?_;refine .seq ?_;refine .sr ?_;refine vk (Ae) ?_;refine vk (A8 (AC _) (BT _) BU) ?_;refine vk (Ae) ?_;refine rn ?_;refine .block ?_
 refine .loop (.gh (Gh.keep [0,1,7,8] rfl) ?_)
 refine AL.ind (σ:=Nat×S×Ac) (m:=fun p=>xs.length-p.1) (e:=fun p=>[(0,.d (.sl (Its xs))),(1,.fn f [] caps),(7,.d (.i .i64 ((List.length xs:Nat):Int))),(8,.d (.i .i64 ((p.1:Nat):Int)))]) (h:=fun p=>p.2.2)
  (I:=fun p=>p.1≤xs.length∧st p.2.1 p.2.2∧Pd step (xs.drop p.1) p.2.1 (p.1:Int)=some r) ?_ (0,s,H) ⟨Nat.zero_le _,hs,h⟩
 rintro ⟨i,s,H⟩ ⟨hi,hs,h⟩ ih
 dsimp only at hi hs h ih ⊢
 refine .sr ?_;refine vk (vbi) ?_;refine rn ?_;refine .seq ?_
 by_cases hc:((i:Nat):Int)<((List.length xs:Nat):Int)
 ·refine cnt (dT hc) ?_
  have hlt:i<xs.length:=by omega
  rw [lC hlt,Pd] at h
  obtain ⟨z,hz,h⟩:=bnd h
  refine .skip ?_;refine aw ?_;refine .seq ?_;refine .block ?_;refine .sr ?_;refine vk (Ae) ?_;refine asd ?_;refine rn ?_;refine .sr ?_;refine vk (Ye (av:=.fn f [] caps) (hn:=hfn)) ?_;refine vk (Ae) ?_;refine vk (Ae) ?_;refine vk (vix i rfl (CR (lG hlt)) rfl CK) ?_;refine vk (Aq AB As) ?_
  refine Zs (avs:=[.d (dvI xs[i])]) (hstep _ _ _ _ hs hz) hcall (fun v H' hp=>?_) (hnc:=hnc)
  obtain ⟨rfl,hs'⟩:=hp
  refine rn ?_
  by_cases hc:z.1=true
  ·refine cnt hc ?_
   rw [if_pos hc] at h
   cases h
   refine .sr ?_;refine vk (Ae) ?_;refine asd ?_;refine rn ?_;refine .ret ?_
   exact ⟨_,⟨rfl,rfl⟩,rfl,hs'⟩
  refine cnf (bf hc) ?_
  rw [if_neg hc] at h
  refine .skip ?_;refine aw ?_;refine .region ?_;refine vk (vbi) ?_;refine vk (Ae) ?_;refine .nil ?_
  have hw:IntKind.wrap .i64 ((i:Int)+1)=((i+1:Nat):Int):=by rw [show IntKind.wrap .i64 ((i:Int)+1)=(i:Int)+1 from Yd (by omega) (by omega)];omega
  rw [hw]
  refine AL.gh (Gh.keep [0,1,7,8] rfl) ?_
  exact ih (i+1,z.2,H') ⟨hlt,hs',by rw [← h];simp⟩ (by dsimp only;omega)
 ·refine cnf (dF hc) ?_
  have:i=xs.length:=by omega
  subst this
  rw [List.drop_length,Pd] at h
  cases h
  refine .exit ?_;refine aw ?_;refine .sr ?_;refine asd ?_;refine rn ?_;refine .ret ?_
  exact ⟨_,⟨rfl,rfl⟩,rfl,hs⟩
theorem LO {S:Type} {step:Itm→S→Option (Bool×S)} {st:S→Ac→Prop} {f:FuncId} {caps:List AV} (hcall:∀ args w,(callFunc f args).run Tryz.prog w=.ok (.enter f args) w) (hnc:noOwnL caps=true)
  (hstep:∀ (x:Itm) s r H,st s H→step x s=some r→FnR Tryz.prog f (.d (dvI x)::caps) H fun v H'=>v=.d (.b r.1)∧st r.2 H')
  {xs:List Itm} {s:S} {r:Int×S} (hl:xs.length≤9223372036854775806) (h:Pd step xs s 0=some r) {H:Ac} (hs:st s H) :
  FnR Tryz.prog 57 [.d (.sl (Its xs)),.fn f [] caps] H fun v H'=>v=.d (.b (decide (0≤r.1)))∧st r.2 H':=by
 have hfn:noOwn (.fn f [] caps)=true:=by simp [noOwn,noOwnL,hnc]
 refine FnR.of (rs:=[.tmp 4]) 9 Tryz.func57 rfl rfl rfl (by simp) ?_;refine .sr ?_;refine asd ?_;refine rn ?_;refine .sr ?_;refine vk (Ae) ?_;refine vk (Ye (av:=.fn f [] caps) (hn:=hfn)) ?_
 refine clR (avs:=[.d (.sl (Its xs)),.fn f [] caps]) (Pr hcall hnc hstep hl h hs) Tryz.call122 (fun v H' hp=>?_) (ha:=by simp [argsA,lk,get,hfn,A1,noOwn])
 obtain ⟨rfl,hs'⟩:=hp
 refine vk (vbi) ?_;refine asd ?_;refine rn ?_;refine .ret ?_
 exact ⟨_,⟨rfl,rfl⟩,rfl,hs'⟩
abbrev M3:=Bool×Int×Int
abbrev EB (c d:Int) : HO:=.box [.d (.i .i64 c),.d (.i .i64 d)]
def Upd (H:Ac) (id:Nat) (o:HO) (H':Ac) : Prop:=H'[id]?=some o∧H.length≤H'.length∧∀ j,j≠id→j<H.length→H'[j]?=H[j]?
theorem Upd.same {H:Ac} {id:Nat} {o:HO} (h:H[id]?=some o) : Upd H id o H:=⟨h,Nat.le_refl _,fun _ _ _=>rfl⟩
theorem Upd.trans {H H' H'':Ac} {id:Nat} {o o':HO} (h:Upd H id o H') (k:Upd H' id o' H'') : Upd H id o' H'' :=
 ⟨k.1,nT h.2.1 k.2.1,fun j h1 h2=>(k.2.2 j h1 (nL h2 h.2.1)).trans (h.2.2 j h1 h2)⟩
def PE (id:Nat) (r:M3) (H:Ac) : AV→Ac→Prop:=fun v H'=>v=.d (.b r.1)∧Upd H id (EB r.2.1 r.2.2) H'
theorem PE.refl {id:Nat} {b:Bool} {c d:Int} {H:Ac} (h:H[id]?=some (EB c d)) : PE id (b,c,d) H (.d (.b b)) H:=⟨rfl,.same h⟩
def OA (rc:Arr→Int→Int→Int→Option M3) : Prop:=∀ (a:Arr) (deep c d:Int) (r:M3),rc a deep c d=some r→∀ (H:Ac) (id:Nat),H[id]?=some (EB c d) →
 FnR Tryz.prog 139 [.bp id 0,.d (dvA a),.d (.i .i64 deep)] H (PE id r H)
def Cv (a1:Itm) : Bool:=((!a1.num.1)&&((decide (((List.length a1.num.2.1:Nat) : Int)=0))&&(decide (((List.length a1.num.2.2:Nat) : Int)=0))))
def NG (rc:Arr→Int→Int→Int→Option M3) (a1:Itm) (a2 c d:Int) : Option M3:=(if a1.kind=1 then ((Gp a1.num).bind fun x1=>(some ((x1&&((decide (a1.char=0))&&(decide (((List.length a1.box:Nat) : Int)=0)))),c,d))) else (if a1.kind=2 then ((FG a1.char).bind fun x2=>(some ((x2&&(Cv a1&&(decide (((List.length a1.box:Nat) : Int)=0)))),c,d))) else (if a1.kind=3 then (if ((List.length a1.box:Nat) : Int)=1 then (if Cv a1=true then (if a1.char=0 then ((rd? a1.box 0).bind fun x4=>((C4 x4).bind fun x5=>(if x5=true then (some (false,c,d)) else ((rd? a1.box 0).bind fun x6=>((rc x6 a2 c d).bind fun x7=>(some x7)))))) else (some (false,c,d))) else (some (false,c,d))) else (some (false,c,d))) else (some (false,c,d)))))
set_option maxHeartbeats 4000000 in
theorem IA {rc:Arr→Int→Int→Int→Option M3} (orc:OA rc) {a1:Itm} {a2 c d:Int} {r:M3} (h:NG rc a1 a2 c d=some r) {H:Ac} {id:Nat} (hH:H[id]?=some (EB c d)) :
  FnR Tryz.prog 123 [.bp id 0,.d (dvI a1),.d (.i .i64 a2)] H (PE id r H):=by
 unfold NG Cv at h
 refine FnR.of (rs:=[.tmp 6]) 89 Tryz.func123 rfl rfl rfl (by simp) ?_;refine .sr ?_;refine vk (vbx) ?_;refine asd ?_;refine rn ?_;refine .gh (Gh.keep [0,2,4,6] rfl) ?_;refine .seq ?_;refine AW.mr (σ:=Unit) (fun _=>True) (fun _=>[(0,.bp id 0),(2,.d (.i .i64 a2)),(4,.d (.ptr [.i .u8 a1.kind,.b a1.num.1,.sl (L a1.num.2.1),.sl (L a1.num.2.2),.i .i32 a1.char,.sl (Ars a1.box)])),(6,.d (.b false)),(7,.d (.b ((!a1.num.1)&&((decide (((List.length a1.num.2.1:Nat):Int)=0))&&(decide (((List.length a1.num.2.2:Nat):Int)=0))))))]) (fun _=>H) ?_ ?_
 ·skip
  refine .region ?_;refine vk (vfa BH) ?_;refine vk (vfa E4) ?_;refine vk (Am D0) ?_;refine vk (vnt) ?_
  by_cases hc:a1.num.1=true
  ·have hb0:(!a1.num.1)=false:=(ntf hc)
   refine vk (VOK.lit (Ae) hb0) ?_;refine gf4 ?_;refine gf ?_;refine vk (Ag) ?_;refine vk (Ae) ?_;refine gf4 ?_;refine gf ?_;refine vk (Ag) ?_;refine asd ?_;refine RL.gh (Gh.keep [0,2,4,6,7] rfl) ?_;refine .nil ?_
   exact jr () trivial (by simp only [hb0];rfl)
  have hb0:(!a1.num.1)=true:=(ntt (bf hc))
  refine vk (VOK.lit (Ae) hb0) ?_;refine vk (vfa BH) ?_;refine vk (vfa D6) ?_;refine vk (Am ET) ?_;refine vk (A8 (Aa _) (Bf _) Nz) ?_;refine vk (vbi) ?_;refine vk (Ag) ?_
  by_cases hc:((List.length a1.num.2.1:Nat):Int)=0
  ·have hb1:(decide (((List.length a1.num.2.1:Nat):Int)=0))=true:=(dT hc)
   refine vk (VOK.lit (Ae) hb1) ?_;refine vk (vfa BH) ?_;refine vk (vfa Ga) ?_;refine vk (Am ET) ?_;refine vk (A8 (Aa _) (Bf _) Nz) ?_;refine vk (vbi) ?_;refine vk (Ag) ?_;refine asd ?_;refine RL.gh (Gh.keep [0,2,4,6,7] rfl) ?_;refine .nil ?_
   exact jr () trivial (by simp only [hb0,hb1];rfl)
  have hb1:(decide (((List.length a1.num.2.1:Nat):Int)=0))=false:=(dF hc)
  refine vk (VOK.lit (Ae) hb1) ?_;refine gf4 ?_;refine gf ?_;refine vk (Ag) ?_;refine asd ?_;refine RL.gh (Gh.keep [0,2,4,6,7] rfl) ?_;refine .nil ?_
  exact jr () trivial (by simp only [hb0,hb1];rfl)
 rintro _ _
 refine .seq ?_;refine .sr ?_;refine vk (vfa Bp) ?_;refine vk (Am AT) ?_;refine rn ?_;refine .gh (Gh.keep [0,2,4,6,7,27] rfl) ?_;refine .block ?_;refine .sr ?_;refine vk (vbi) ?_;refine asd ?_;refine rn ?_;refine .gh (Gh.keep [0,2,4,6,7,27,28] rfl) ?_
 rcases brc h with ⟨hc,h⟩|⟨hc,h⟩
 ·refine cnt (dT hc) ?_
  refine .seq ?_
  obtain ⟨x1,hx1,h⟩:=bnd h
  refine AW.mr (σ:=Unit) (fun _=>True) (fun _=>[(6,.d (.b (x1&&((decide (a1.char=0))&&(decide (((List.length a1.box:Nat):Int)=0))))))]) (fun _=>H) ?_ ?_
  ·skip
   refine .region ?_;refine vk (vfa BH) ?_;refine vk (Aq A4 AE) ?_;refine vk (Ah (GE hx1) Tryz.call166) ?_
   by_cases hc:x1=true
   ·have hb0:x1=true:=hc
    refine vk (VOK.lit (Ae) hb0) ?_;refine vk (vfa CI) ?_;refine vk (Am CF) ?_;refine vk (vbi) ?_;refine vk (Ag) ?_
    by_cases hc:a1.char=0
    ·have hb1:(decide (a1.char=0))=true:=(dT hc)
     refine vk (VOK.lit (Ae) hb1) ?_;refine vk (vfa Ba) ?_;refine vk (Am B6) ?_;refine vk (A8 (BL _) (E0 _) E5) ?_;refine vk (vbi) ?_;refine vk (Ag) ?_;refine asd ?_;refine RL.gh (Gh.keep [6] rfl) ?_;refine .nil ?_
     exact jr () trivial (by simp only [hb0,hb1];rfl)
    have hb1:(decide (a1.char=0))=false:=(dF hc)
    refine vk (VOK.lit (Ae) hb1) ?_;refine gf4 ?_;refine vk (Ag) ?_;refine asd ?_;refine RL.gh (Gh.keep [6] rfl) ?_;refine .nil ?_
    exact jr () trivial (by simp only [hb0,hb1];rfl)
   have hb0:x1=false:=(bf hc)
   refine vk (VOK.lit (Ae) hb0) ?_;refine gf3 ?_;refine vk (Ag) ?_;refine vk (Ae) ?_;refine gf4 ?_;refine vk (Ag) ?_;refine asd ?_;refine RL.gh (Gh.keep [6] rfl) ?_;refine .nil ?_
   exact jr () trivial (by simp only [hb0];rfl)
  rintro _ _
  refine .ret ?_
  cases h
  exact ⟨_,⟨rfl,rfl⟩,.refl hH⟩
 refine cnf (dF hc) ?_;refine .sr ?_;refine vk (vbi) ?_;refine asd ?_;refine rn ?_;refine .gh (Gh.keep [0,2,4,6,7,27,44] rfl) ?_
 rcases brc h with ⟨hc,h⟩|⟨hc,h⟩
 ·refine cnt (dT hc) ?_
  refine .seq ?_
  obtain ⟨x2,hx2,h⟩:=bnd h
  refine AW.mr (σ:=Unit) (fun _=>True) (fun _=>[(6,.d (.b (x2&&(((!a1.num.1)&&((decide (((List.length a1.num.2.1:Nat):Int)=0))&&(decide (((List.length a1.num.2.2:Nat):Int)=0))))&&(decide (((List.length a1.box:Nat):Int)=0))))))]) (fun _=>H) ?_ ?_
  ·skip
   refine .region ?_;refine vk (vfa CI) ?_;refine vk (Am CF) ?_;refine vk (Ah (LS hx2) Tryz.call170) ?_
   by_cases hc:x2=true
   ·have hb0:x2=true:=hc
    refine vk (VOK.lit (Ae) hb0) ?_;refine vk (Ae) ?_;refine vk (Ag) ?_
    by_cases hc:((!a1.num.1)&&((decide (((List.length a1.num.2.1:Nat):Int)=0))&&(decide (((List.length a1.num.2.2:Nat):Int)=0))))=true
    ·have hb1:((!a1.num.1)&&((decide (((List.length a1.num.2.1:Nat):Int)=0))&&(decide (((List.length a1.num.2.2:Nat):Int)=0))))=true:=hc
     refine vk (VOK.lit (Ae) hb1) ?_;refine vk (vfa Ba) ?_;refine vk (Am B6) ?_;refine vk (A8 (BL _) (E0 _) E5) ?_;refine vk (vbi) ?_;refine vk (Ag) ?_;refine asd ?_;refine RL.gh (Gh.keep [6] rfl) ?_;refine .nil ?_
     exact jr () trivial (by simp only [hb0,hb1];rfl)
    have hb1:((!a1.num.1)&&((decide (((List.length a1.num.2.1:Nat):Int)=0))&&(decide (((List.length a1.num.2.2:Nat):Int)=0))))=false:=(bf hc)
    refine vk (VOK.lit (Ae) hb1) ?_;refine gf4 ?_;refine vk (Ag) ?_;refine asd ?_;refine RL.gh (Gh.keep [6] rfl) ?_;refine .nil ?_
    exact jr () trivial (by simp only [hb0,hb1];rfl)
   have hb0:x2=false:=(bf hc)
   refine vk (VOK.lit (Ae) hb0) ?_;refine gf ?_;refine vk (Ag) ?_;refine vk (Ae) ?_;refine gf4 ?_;refine vk (Ag) ?_;refine asd ?_;refine RL.gh (Gh.keep [6] rfl) ?_;refine .nil ?_
   exact jr () trivial (by simp only [hb0];rfl)
  rintro _ _
  refine .ret ?_
  cases h
  exact ⟨_,⟨rfl,rfl⟩,.refl hH⟩
 refine cnf (dF hc) ?_;refine .sr ?_;refine vk (vbi) ?_;refine asd ?_;refine rn ?_;refine .gh (Gh.keep [0,2,4,6,7,58] rfl) ?_
 rcases brc h with ⟨hc,h⟩|⟨hc,h⟩
 ·refine cnt (dT hc) ?_
  refine .seq ?_
  ·skip
   refine .region ?_;refine vk (vfa Ba) ?_;refine vk (Am B6) ?_;refine vk (A8 (BL _) (E0 _) E5) ?_;refine vk (vbi) ?_
   rcases brc h with ⟨hc,h⟩|⟨hc,h⟩
   ·have hb0:(decide (((List.length a1.box:Nat):Int)=1))=true:=(dT hc)
    refine vk (VOK.lit (Ae) hb0) ?_;refine vk (Ae) ?_;refine vk (Ag) ?_
    rcases brc h with ⟨hc,h⟩|⟨hc,h⟩
    ·have hb1:((!a1.num.1)&&((decide (((List.length a1.num.2.1:Nat):Int)=0))&&(decide (((List.length a1.num.2.2:Nat):Int)=0))))=true:=hc
     refine vk (VOK.lit (Ae) hb1) ?_;refine vk (vfa CI) ?_;refine vk (Am CF) ?_;refine vk (vbi) ?_;refine vk (Ag) ?_
     rcases brc h with ⟨hc,h⟩|⟨hc,h⟩
     ·have hb2:(decide (a1.char=0))=true:=(dT hc)
      refine vk (VOK.lit (Ae) hb2) ?_;refine vk (vfa Ba) ?_;refine vk (Am B6) ?_
      obtain ⟨x4,hx4,h⟩:=bnd h
      obtain ⟨nx4,hnx4,hxx4⟩:=Aj hx4
      refine vk (vix nx4 hnx4 (Db hxx4) rfl Dj) ?_;refine vk (Aq Al Ad) ?_
      obtain ⟨x5,hx5,h⟩:=bnd h
      refine vk (Ah (GL hx5) Tryz.call82) ?_;refine vk (vnt) ?_;refine vk (Ag) ?_
      rcases brc h with ⟨hc,h⟩|⟨hc,h⟩
      ·have hb3:(!x5)=false:=(ntf hc)
       refine vk (VOK.lit (Ae) hb3) ?_;refine gf4 ?_;refine gf3 ?_;refine vk (Ag) ?_;refine asd ?_;refine rn ?_;refine .gh (Gh.keep [6] rfl) ?_;refine .ret ?_
       cases h
       exact ⟨_,⟨rfl,rfl⟩,.refl hH⟩
      have hb3:(!x5)=true:=(ntt (bf hc))
      refine vk (VOK.lit (Ae) hb3) ?_;refine vk (Ye (av:=.bp id 0)) ?_;refine vk (vfa Ba) ?_;refine vk (Am B6) ?_
      obtain ⟨x6,hx6,h⟩:=bnd h
      obtain ⟨nx6,hnx6,hxx6⟩:=Aj hx6
      refine vk (vix nx6 hnx6 (Db hxx6) rfl Dj) ?_;refine vk (Aq Al Ad) ?_;refine vk (Ae) ?_
      obtain ⟨x7,hx7,h⟩:=bnd h
      refine clR (avs:=[.bp id 0,.d (dvA x6),.d (.i .i64 a2)]) (orc x6 a2 c d x7 hx7 H id hH) Tryz.call139 (fun v H' hp=>?_)
      obtain ⟨rfl,hp⟩:=hp
      refine vk (Ag) ?_;refine asd ?_;refine rn ?_;refine .gh (Gh.keep [6] rfl) ?_;refine .ret ?_
      cases h
      exact ⟨_,⟨rfl,rfl⟩,rfl,hp⟩
     have hb2:(decide (a1.char=0))=false:=(dF hc)
     refine vk (VOK.lit (Ae) hb2) ?_;refine gf4 ?_;refine gf2 ?_;refine vk (Ag) ?_;refine vk (Ae) ?_;refine gf4 ?_;refine gf3 ?_;refine vk (Ag) ?_;refine asd ?_;refine rn ?_;refine .gh (Gh.keep [6] rfl) ?_;refine .ret ?_
     cases h
     exact ⟨_,⟨rfl,rfl⟩,.refl hH⟩
    have hb1:((!a1.num.1)&&((decide (((List.length a1.num.2.1:Nat):Int)=0))&&(decide (((List.length a1.num.2.2:Nat):Int)=0))))=false:=(bf hc)
    refine vk (VOK.lit (Ae) hb1) ?_;refine gf3 ?_;refine vk (Ag) ?_;refine vk (Ae) ?_;refine gf4 ?_;refine gf2 ?_;refine vk (Ag) ?_;refine vk (Ae) ?_;refine gf4 ?_;refine gf3 ?_;refine vk (Ag) ?_;refine asd ?_;refine rn ?_;refine .gh (Gh.keep [6] rfl) ?_;refine .ret ?_
    cases h
    exact ⟨_,⟨rfl,rfl⟩,.refl hH⟩
   have hb0:(decide (((List.length a1.box:Nat):Int)=1))=false:=(dF hc)
   refine vk (VOK.lit (Ae) hb0) ?_;refine gf ?_;refine vk (Ag) ?_;refine vk (Ae) ?_;refine gf3 ?_;refine vk (Ag) ?_;refine vk (Ae) ?_;refine gf4 ?_;refine gf2 ?_;refine vk (Ag) ?_;refine vk (Ae) ?_;refine gf4 ?_;refine gf3 ?_;refine vk (Ag) ?_;refine asd ?_;refine rn ?_;refine .gh (Gh.keep [6] rfl) ?_;refine .ret ?_
   cases h
   exact ⟨_,⟨rfl,rfl⟩,.refl hH⟩
 refine cnf (dF hc) ?_;refine .skip ?_;refine aw ?_;refine .sr ?_;refine asd ?_;refine rn ?_;refine .gh (Gh.keep [6] rfl) ?_;refine .ret ?_
 cases h
 exact ⟨_,⟨rfl,rfl⟩,.refl hH⟩
def J2 (rc:Arr→Int→Int→Int→Option M3) (deep:Int) : List Itm→Int→Int→Option M3
 | [],c,d=>some (true,c,d)
 | x::xs,c,d=>(NG rc x deep c d).bind fun z=>if z.1=true then J2 rc deep xs z.2.1 z.2.2 else some (false,z.2.1,z.2.2)
def QG (rc:Arr→Int→Int→Int→Option M3) (deep:Int) (x:Itm) (s:Int×Int) : Option (Bool×(Int×Int)):=(NG rc x deep s.1 s.2).map fun z=>(!z.1,z.2)
theorem PO {rc:Arr→Int→Int→Int→Option M3} {deep:Int} : ∀ {xs:List Itm} {c d:Int} {z:M3} {i:Int},0≤i→J2 rc deep xs c d=some z→∃ n,Pd (QG rc deep) xs (c,d) i=some (n,z.2)∧(!decide (0≤n))=z.1
 | [],c,d,z,i,_,h=>by cases h;exact ⟨-1,rfl,rfl⟩
 | x::xs,c,d,z,i,hi,h=>by
  rw [J2] at h
  obtain ⟨y,hy,h⟩:=bnd h
  have hs:QG rc deep x (c,d)=some (!y.1,y.2):=by simp [QG,hy]
  by_cases hc:y.1=true
  ·rw [if_pos hc] at h
   obtain ⟨n,h1,h2⟩:=PO (i:=i+1) (by omega) h
   refine ⟨n,?_,h2⟩
   rw [Pd,hs,oB,if_neg (by simp [hc])];exact h1
  ·rw [if_neg hc] at h
   cases h
   refine ⟨i,?_,by simp [hi]⟩
   rw [Pd,hs,oB,if_pos (by simp [hc])]
theorem Li {rc:Arr→Int→Int→Int→Option M3} (orc:OA rc) {x:Itm} {deep c d:Int} {z:M3} (h:NG rc x deep c d=some z) {H:Ac} {id n3 n5:Nat} (hH:H[id]?=some (EB c d)) (h3:H[n3]?=some (.box [.bp id 0])) (h5:H[n5]?=some (.box [.d (.i .i64 deep)])) :
  FnR Tryz.prog 188 [.d (dvI x),.bp n3 0,.bp n5 0] H fun v H'=>v=.d (.b (!z.1))∧Upd H id (EB z.2.1 z.2.2) H':=by
 refine FnR.of (rs:=[.tmp 4]) 10 Tryz.func188 rfl rfl rfl (by simp) ?_;refine .sr ?_;refine vk (vbx) ?_;refine asd ?_;refine rn ?_;refine .sr ?_;refine vk (P5 (cs:=[.bp id 0]) (c:=.bp id 0) h3 rfl (by kernel_rfl)) ?_;refine vk (Aq AB As) ?_;refine vk (Ih (cs:=[.d (.i .i64 deep)]) (c:=.i .i64 deep) h5 rfl AS) ?_
 refine clR (avs:=[.bp id 0,.d (dvI x),.d (.i .i64 deep)]) (IA orc h hH) Tryz.call123 (fun v H' hp=>?_)
 obtain ⟨rfl,hp⟩:=hp
 refine vk (vnt) ?_;refine asd ?_;refine rn ?_;refine .ret ?_
 exact ⟨_,⟨rfl,rfl⟩,rfl,hp⟩
theorem Upd.set_new {H H':Ac} {id n:Nat} {o x:HO} (k:Upd H id o H') (h1:H.length≤n) (h2:n≠id) : Upd H id o (H'.set n x) :=
 ⟨by rw [List.getElem?_set_ne h2];exact k.1,by simpa using k.2.1,fun j h3 h4=>by rw [List.getElem?_set_ne (by omega)];exact k.2.2 j h3 h4⟩
theorem Upd.set_id {H H':Ac} {id:Nat} {o o':HO} (k:Upd H id o H') : Upd H id o' (H'.set id o') :=
 ⟨List.getElem?_set_self (lS.1 k.1).1,by simpa using k.2.1,fun j h3 h4=>by rw [List.getElem?_set_ne (Ne.symm h3)];exact k.2.2 j h3 h4⟩
def U7 (rc:Arr→Int→Int→Int→Option M3) (a:Arr) (deep c d:Int) : Option M3 :=
 (Dc a.shape).bind fun x1 =>
  if x1.2=0 then
   if ((List.length a.items:Nat):Int)=(if x1.1<1 then 1 else x1.1) then
    if 16384<w64 (c+((List.length a.items:Nat):Int)) then some (false,w64 (c+((List.length a.items:Nat):Int)),d) else
    (C4 a).bind fun sm =>
     if sm=true then (if deep≤16 then J2 rc deep a.items (w64 (c+((List.length a.items:Nat):Int))) d else some (false,w64 (c+((List.length a.items:Nat):Int)),d))
     else (if w64 (deep+1)≤16 then J2 rc (w64 (deep+1)) a.items (w64 (c+((List.length a.items:Nat):Int))) (if d<w64 (deep+1) then w64 (deep+1) else d) else some (false,w64 (c+((List.length a.items:Nat):Int)),(if d<w64 (deep+1) then w64 (deep+1) else d)))
   else some (false,c,d)
  else some (false,c,d)
set_option maxHeartbeats 4000000 in
set_option maxRecDepth 20000 in
theorem LM {rc:Arr→Int→Int→Int→Option M3} (orc:OA rc) {a:Arr} {deep c d:Int} {r:M3} (hlen:a.items.length≤9223372036854775806) (h:U7 rc a deep c d=some r) {H:Ac} {id:Nat} (hH:H[id]?=some (EB c d)) :
  FnR Tryz.prog 139 [.bp id 0,.d (dvA a),.d (.i .i64 deep)] H (PE id r H):=by
 unfold U7 at h
 have hid:id<H.length:=(lS.1 hH).1
 refine FnR.of (rs:=[.tmp 6]) 63 Tryz.func139 rfl rfl rfl (by simp) ?_;refine .sr ?_;refine bxA (c:=.bp id 0) ?_;refine vk (vbx) ?_;refine bxA (c:=.d (.i .i64 deep)) ?_;refine asd ?_
 have f0:Upd H id (EB c d) (H++[.box [.bp id 0]]++[.box [.d (.i .i64 deep)]]):=by
  refine ⟨?_,by simp,fun j h1 h2=>?_⟩
  ·rw [List.append_assoc,List.getElem?_append_left hid];exact hH
  ·rw [List.append_assoc,List.getElem?_append_left h2]
 have f3:(H++[HO.box [AV.bp id 0]]++[.box [.d (.i .i64 deep)]])[H.length]?=some (.box [.bp id 0]):=by simp
 have f5:(H++[HO.box [AV.bp id 0]]++[.box [.d (.i .i64 deep)]])[(H++[HO.box [AV.bp id 0]]).length]?=some (.box [.d (.i .i64 deep)]):=by
  rw [List.getElem?_append_right (Nat.le_refl _)];simp
 have g3:H.length≠id:=by omega
 have g5:(H++[HO.box [AV.bp id 0]]).length≠id:=by simp;omega
 have g5':H.length≤(H++[HO.box [AV.bp id 0]]).length:=by simp
 have g35:H.length≠(H++[HO.box [AV.bp id 0]]).length:=by simp
 have g3':H.length≤H.length:=Nat.le_refl _
 generalize H++[HO.box [AV.bp id 0]]++[.box [.d (.i .i64 deep)]]=H2 at f0 f3 f5 ⊢
 generalize (H++[HO.box [AV.bp id 0]]).length=n5 at f5 g5 g5' g35 ⊢
 obtain ⟨n3,hn3⟩:∃ n3,n3=H.length:=⟨_,rfl⟩
 rw [← hn3] at f3 g3 g35
 rw [← hn3]
 have f1:=f0.1
 refine rn ?_;refine .gh (Gh.keep [3,4,5] rfl) ?_;refine .sr ?_;refine vk (vfa Bh) ?_;refine vk (Am CS) ?_
 obtain ⟨x1,hx1,h⟩:=bnd h
 refine vk (VOK.tupd (vs:=[.i .i64 x1.1,.i .i64 x1.2]) (Ah (Fa hx1) Tryz.call56)) ?_;refine vk (Ae) ?_;refine vk (vex) ?_;refine vk (vex) ?_;refine asd ?_;refine asd ?_;refine rn ?_;refine .gh (Gh.keep [3,4,5,7,8] rfl) ?_;refine .seq ?_;refine .sr ?_;refine vk (Ae) ?_;refine vk (vbi) ?_
 by_cases hc:x1.2=0
 rotate_left
 ·rw [if_neg hc] at h
  cases h
  refine vk (VOK.lit (Ae) (show (!decide (x1.2=0))=true by simp [hc])) ?_;refine gf4 ?_;refine gf2 ?_;refine vk (Ag) ?_;refine rn ?_;refine cnt rfl ?_;refine .sr ?_;refine asd ?_;refine rn ?_;refine .ret ?_
  exact ⟨_,⟨rfl,rfl⟩,rfl,f0⟩
 rw [if_pos hc] at h
 refine vk (VOK.lit (Ae) (show (!decide (x1.2=0))=false by simp [hc])) ?_;refine vk (vfa AY) ?_;refine vk (Am BR) ?_;refine vk (A8 (AC _) (BT _) BU) ?_;refine vk (Ae) ?_;refine vk (vmx) ?_;refine vk (vbi) ?_;refine vk (Ag) ?_;refine rn ?_
 by_cases hc:((List.length a.items:Nat):Int)=(if x1.1<1 then 1 else x1.1)
 rotate_left
 ·rw [if_neg hc] at h
  cases h
  refine cnt (ntt (dF hc)) ?_;refine .sr ?_;refine asd ?_;refine rn ?_;refine .ret ?_
  exact ⟨_,⟨rfl,rfl⟩,rfl,f0⟩
 rw [if_pos hc] at h
 refine cnf (ntf (dT hc)) ?_;refine .skip ?_;refine aw ?_;refine .gh (Gh.keep [3,4,5] rfl) ?_;refine .seq ?_;refine .drawn 10 A2 (by kernel_rfl) ?_;refine dv (P5 (cs:=[.bp id 0]) (c:=.bp id 0) f3 rfl (by kernel_rfl)) ?_;refine dv (Vf) ?_;refine dv (Ha L8) ?_;refine dv (Ih (cs:=[.d (.i .i64 c),.d (.i .i64 d)]) (c:=.i .i64 c) f1 rfl AS) ?_;refine dv (vfa AY) ?_;refine dv (Am BR) ?_;refine dv (A8 (AC _) (BT _) BU) ?_;refine dv (vbi) ?_;refine dv (Vf) ?_;refine dv (Ha L8) ?_;refine dz ?_
 refine stb (cs:=[.d (.i .i64 c),.d (.i .i64 d)]) (c:=.d (.i .i64 c)) f1 rfl ?_ D7
 have q0:=f0.set_id (o':=EB (w64 (c+((List.length a.items:Nat):Int))) d)
 have q3:(H2.set id (EB (w64 (c+((List.length a.items:Nat):Int))) d))[n3]?=some (.box [.bp id 0]):=by rw [List.getElem?_set_ne (Ne.symm g3)];exact f3
 have q5:(H2.set id (EB (w64 (c+((List.length a.items:Nat):Int))) d))[n5]?=some (.box [.d (.i .i64 deep)]):=by rw [List.getElem?_set_ne (Ne.symm g5)];exact f5
 refine rn ?_
 change AW _ _ _ _ _ (H2.set id (EB (w64 (c+((List.length a.items:Nat):Int))) d))
 generalize H2.set id (EB (w64 (c+((List.length a.items:Nat):Int))) d)=H3 at q0 q3 q5 ⊢
 generalize w64 (c+((List.length a.items:Nat):Int))=c1 at h q0 ⊢
 have q1:=q0.1
 refine .gh (Gh.keep [3,4,5] rfl) ?_;refine .seq ?_;refine .sr ?_;refine vk (P5 (cs:=[.bp id 0]) (c:=.bp id 0) q3 rfl (by kernel_rfl)) ?_;refine vk (Vf) ?_;refine vk (Ha L8) ?_;refine vk (Ih (cs:=[.d (.i .i64 c1),.d (.i .i64 d)]) (c:=.i .i64 c1) q1 rfl AS) ?_;refine vk (vbi) ?_;refine rn ?_
 by_cases hc:16384<c1
 ·rw [if_pos hc] at h
  cases h
  refine cnt (dT hc) ?_;refine .sr ?_;refine asd ?_;refine rn ?_;refine .ret ?_
  exact ⟨_,⟨rfl,rfl⟩,rfl,q0⟩
 rw [if_neg hc] at h
 refine cnf (dF hc) ?_;refine .skip ?_;refine aw ?_;refine .gh (Gh.keep [3,4,5] rfl) ?_;refine .seq ?_
 obtain ⟨sm,hsm,h⟩:=bnd h
 refine .sr ?_;refine vk (Aq Al Ad) ?_;refine vk (Ah (GL hsm) Tryz.call82) ?_;refine vk (vnt) ?_;refine rn ?_
 refine AW.mr (σ:=Ac×Int×Int) (fun s=>Upd H id (EB c1 s.2.2) s.1∧s.1[n3]?=some (.box [.bp id 0])∧s.1[n5]?=some (.box [.d (.i .i64 s.2.1)])∧(if s.2.1≤16 then J2 rc s.2.1 a.items c1 s.2.2 else some (false,c1,s.2.2))=some r)
  (fun _=>[(3,.bp n3 0),(4,.d (.ptr [.sl (Is a.shape),.sl (Its a.items)])),(5,.bp n5 0)]) (fun s=>s.1) ?_ ?_
 ·by_cases hs:sm=true
  ·rw [if_pos hs] at h
   refine cnf (ntf hs) ?_;refine .gh (Gh.keep [3,4,5] rfl) ?_;refine .skip ?_
   exact jr (H3,deep,d) ⟨q0,q3,q5,h⟩
  rw [if_neg hs] at h
  refine cnt (ntt (bf hs)) ?_;refine .sr ?_;refine vk (Ih (cs:=[.d (.i .i64 deep)]) (c:=.i .i64 deep) q5 rfl AS) ?_;refine vk (vbi) ?_
  refine stb (cs:=[.d (.i .i64 deep)]) (c:=.d (.i .i64 deep)) q5 rfl ?_ D7
  have p0:=q0.set_new (n:=n5) (x:=.box [.d (.i .i64 (w64 (deep+1)))]) g5' g5
  have p3:(H3.set n5 (.box [.d (.i .i64 (w64 (deep+1)))]))[n3]?=some (.box [.bp id 0]):=by rw [List.getElem?_set_ne (Ne.symm g35)];exact q3
  have p5:(H3.set n5 (.box [.d (.i .i64 (w64 (deep+1)))]))[n5]?=some (.box [.d (.i .i64 (w64 (deep+1)))]):=List.getElem?_set_self (lS.1 q5).1
  refine rn ?_
  change AW _ _ _ _ _ (H3.set n5 (.box [.d (.i .i64 (w64 (deep+1)))]))
  generalize H3.set n5 (.box [.d (.i .i64 (w64 (deep+1)))])=H4 at p0 p3 p5 ⊢
  generalize w64 (deep+1)=dp at h p5 ⊢
  have p1:=p0.1
  refine .gh (Gh.keep [3,4,5] rfl) ?_;refine .drawn 9 A2 (by kernel_rfl) ?_;refine dv (P5 (cs:=[.bp id 0]) (c:=.bp id 0) p3 rfl (by kernel_rfl)) ?_;refine dv (P5 (cs:=[.bp id 0]) (c:=.bp id 0) p3 rfl (by kernel_rfl)) ?_;refine dv (Vf) ?_;refine dv (Ha SQ) ?_;refine dv (Ih (cs:=[.d (.i .i64 c1),.d (.i .i64 d)]) (c:=.i .i64 d) p1 rfl AS) ?_;refine dv (Ih (cs:=[.d (.i .i64 dp)]) (c:=.i .i64 dp) p5 rfl AS) ?_;refine dv (vmx) ?_;refine dv (Vf) ?_;refine dv (Ha SQ) ?_;refine dz ?_
  refine stb (cs:=[.d (.i .i64 c1),.d (.i .i64 d)]) (c:=.d (.i .i64 d)) p1 rfl ?_ D7
  have w0:=p0.set_id (o':=EB c1 (if d<dp then dp else d))
  have w3:(H4.set id (EB c1 (if d<dp then dp else d)))[n3]?=some (.box [.bp id 0]):=by rw [List.getElem?_set_ne (Ne.symm g3)];exact p3
  have w5:(H4.set id (EB c1 (if d<dp then dp else d)))[n5]?=some (.box [.d (.i .i64 dp)]):=by rw [List.getElem?_set_ne (Ne.symm g5)];exact p5
  refine RL.gh (Gh.keep [3,4,5] rfl) ?_;refine .nil ?_
  exact jr (H4.set id (EB c1 (if d<dp then dp else d)),dp,(if d<dp then dp else d)) ⟨w0,w3,w5,h⟩
 rintro ⟨H5,dp,d1⟩ ⟨u0,u3,u5,h⟩
 dsimp only at u0 u3 u5 h ⊢
 refine aw ?_;refine .sr ?_;refine vk (Ih (cs:=[.d (.i .i64 dp)]) (c:=.i .i64 dp) u5 rfl AS) ?_;refine vk (vbi) ?_
 by_cases hc:dp≤16
 rotate_left
 ·rw [if_neg hc] at h
  cases h
  refine vk (VOK.lit (Ae) (dF hc)) ?_;refine gf4 ?_;refine gf ?_;refine vk (Ag) ?_;refine asd ?_;refine rn ?_;refine .ret ?_
  exact ⟨_,⟨rfl,rfl⟩,rfl,u0⟩
 rw [if_pos hc] at h
 refine vk (VOK.lit (Ae) (dT hc)) ?_;refine vk (vfa AY) ?_;refine vk (Am BR) ?_;refine ZA (avs:=[.bp n3 0,.bp n5 0]) ?_
 obtain ⟨n,h1,h2⟩:=PO (Int.le_refl 0) h
 have step:=LO (S:=Int×Int) (step:=QG rc dp) (st:=fun s H'=>Upd H id (EB s.1 s.2) H'∧H'[n3]?=some (.box [.bp id 0])∧H'[n5]?=some (.box [.d (.i .i64 dp)])) (caps:=[.bp n3 0,.bp n5 0]) Tryz.call188 rfl
  (fun x s y H' hs hy=>by
   obtain ⟨hs0,hs3,hs5⟩:=hs
   simp only [QG,Option.map_eq_some_iff] at hy
   obtain ⟨z,hz,rfl⟩:=hy
   refine (Li orc hz hs0.1 hs3 hs5).mono fun v H'' hp=>⟨hp.1,hs0.trans hp.2,?_,?_⟩
   ·rw [hp.2.2.2 n3 g3 (lS.1 hs3).1];exact hs3
   ·rw [hp.2.2.2 n5 g5 (lS.1 hs5).1];exact hs5)
  hlen h1 (H:=H5) ⟨u0,u3,u5⟩
 refine clR (avs:=[.d (.sl (Its a.items)),.fn 188 [] [.bp n3 0,.bp n5 0]]) step Tryz.call57 (fun v H' hp=>?_)
 obtain ⟨rfl,hp⟩:=hp
 refine vk (vnt) ?_
 rw [h2]
 refine vk (Ag) ?_;refine asd ?_;refine rn ?_;refine .ret ?_
 exact ⟨_,⟨rfl,rfl⟩,rfl,hp.1⟩
def M1 : Nat→Arr→Int→Int→Int→Option M3
 | 0,_,_,_,_=>none
 | k+1,a,deep,c,d=>if a.items.length≤9223372036854775806 then U7 (M1 k) a deep c d else none
theorem Qf : ∀ k,OA (M1 k)
 | 0=>fun _ _ _ _ _ h=>by cases h
 | k+1=>fun a deep c d r h H id hH=>by
  rw [M1] at h
  obtain ⟨hl,h⟩:=DH h
  exact LM (Qf k) hl h hH
def mAr (a:Arr) (deep c d:Int) : Option M3:=M1 (a.size+1) a deep c d
def mIt (x:Itm) (deep c d:Int) : Option M3:=NG mAr x deep c d
theorem UU : OA mAr:=fun a deep c d r h=>Qf _ a deep c d r h
def E9 (a:Arr) : Option ((Int×Int)×Bool):=(mAr a 0 0 0).map fun z=>if z.1=true then (z.2,true) else ((0,0),false)
theorem Jt {a:Arr} {r:(Int×Int)×Bool} (h:E9 a=some r) : Fn Tryz.prog 81 [dvA a] (.tup [.d (.ag [.i .i64 r.1.1,.i .i64 r.1.2]),.d (.b r.2)]):=by
 simp only [E9,Option.map_eq_some_iff] at h
 obtain ⟨z,hz,rfl⟩:=h
 refine Fn.ofC (rs:=[.cell 2 102,.tmp 3]) (nt:=10) Tryz.func81 rfl rfl rfl (by simp) rfl ?_;refine .sr ?_;refine vk (vbx) ?_;refine vk (van (Ap Oj) SL) ?_;refine asd ?_;refine rn ?_;refine .sr ?_
 refine al ?_ (Ap Oj) (fun w I μ=>VL w I μ)
 refine rn ?_;refine .seq ?_;refine .sr ?_;refine vk (Aq Al Ad) ?_
 refine clR (avs:=[.bp 0 0,.d (dvA a),.d (.i .i64 0)]) (UU a 0 0 0 z hz _ 0 rfl) Tryz.call139 (fun v H' hp=>?_)
 obtain ⟨rfl,hp⟩:=hp
 refine vk (vnt) ?_;refine rn ?_
 by_cases hc:z.1=true
 ·rw [if_pos hc]
  refine cnf (ntf hc) ?_;refine .skip ?_;refine aw ?_;refine .sr ?_;refine vk (JP (cs:=[.d (.i .i64 z.2.1),.d (.i .i64 z.2.2)]) (ds:=[.i .i64 z.2.1,.i .i64 z.2.2]) hp.1 UD MV) ?_
  refine stn ?_ MV (by decide)
  refine asd ?_;refine rn ?_;refine .ret ?_
  exact ⟨_,_,⟨.inr rfl,UD,MV,p2⟩,rfl,rfl⟩
 ·rw [if_neg hc]
  refine cnt (ntt (bf hc)) ?_;refine .sr ?_;refine vk (vbd Y5 Oj SL) ?_
  refine stn ?_ MV (by decide)
  refine asd ?_;refine rn ?_;refine .ret ?_
  exact ⟨_,_,⟨.inr rfl,UD,MV,p2⟩,rfl,rfl⟩
def Et (x:Itm) : Option Bool:=(mIt x 0 0 0).map fun z=>z.1
theorem Il {x:Itm} {r:Bool} (h:Et x=some r) : Fn Tryz.prog 59 [dvI x] (.d (.b r)):=by
 simp only [Et,Option.map_eq_some_iff] at h
 obtain ⟨z,hz,rfl⟩:=h
 refine Fn.o1 2 6 Tryz.func59 ?_;refine .sr ?_;refine vk (vbx) ?_;refine asd ?_;refine rn ?_;refine .sr ?_
 refine al ?_ (Ap Oj) (fun w I μ=>VL w I μ)
 refine vk (Aq AB As) ?_
 refine clR (avs:=[.bp 0 0,.d (dvI x),.d (.i .i64 0)]) (IA UU hz (id:=0) rfl) Tryz.call123 (fun v H' hp=>?_)
 obtain ⟨rfl,hp⟩:=hp
 refine asd ?_;refine rn ?_;refine .ret ?_
 exact ⟨rfl,rfl⟩
def Y1 (s:Bool) (n:Nat) : Int×Bool:=if s=true then (if n≤9223372036854775808 then (-(n:Int),true) else (0,false)) else if n<9223372036854775808 then ((n:Int),true) else (0,false)
def M7 (a:RT) : Option (Int×Bool):=(Lk a).bind fun b=>if b=true then (if (okL 1048576 a.2.1&&decide (Ab (val a.2.1)=a.2.1))=true then some (if B9 (val a.2.1)≤64 then Y1 a.1 (val a.2.1) else (0,false)) else none) else some (0,false)
def Bu (a0:Arr) : Option (Bool):=((E9 a0).bind fun x1=>(some (x1.2)))
theorem DM {a0:Arr} {r:Bool} (h:Bu a0=some r) :
  Fn Tryz.prog 54 [.ag [.sl (Is a0.shape),.sl (Its a0.items)]] (.d (.b r)):=by
 unfold Bu at h
 refine Fn.o1 2 11 Tryz.func54 ?_;refine .sr ?_;refine vk vbx ?_;refine ar [1,2] ?_;refine .sr ?_;refine vk (Aq Al Ad) ?_
 obtain ⟨x1,g1,h⟩:=bnd h
 refine vk (VOK.tupd (vs:=[.ag [.i .i64 x1.1.1,.i .i64 x1.1.2],.b x1.2]) (Ah (Jt g1) Tryz.call81)) ?_;refine va ?_;refine vk vex ?_;refine vk vex ?_;refine vk (van (Ap Oj) SL) ?_
 refine stn ?_ MV (by decide)
 refine ar [2,4] ?_;refine .sr ?_;refine va ?_;refine ar [2] ?_;refine .ret ?_
 cases h
 exact ⟨rfl,rfl⟩
def Fz (a0:Arr) : Option (Int):=((E9 a0).bind fun x1=>(some (x1.1.1)))
theorem Mn {a0:Arr} {r:Int} (h:Fz a0=some r) :
  Fn Tryz.prog 62 [.ag [.sl (Is a0.shape),.sl (Its a0.items)]] (.d (.i .i64 r)):=by
 unfold Fz at h
 refine Fn.o1 2 12 Tryz.func62 ?_;refine .sr ?_;refine vk vbx ?_;refine ar [1,2] ?_;refine .sr ?_;refine vk (Aq Al Ad) ?_
 obtain ⟨x1,g1,h⟩:=bnd h
 refine vk (VOK.tupd (vs:=[.ag [.i .i64 x1.1.1,.i .i64 x1.1.2],.b x1.2]) (Ah (Jt g1) Tryz.call81)) ?_;refine va ?_;refine vk vex ?_;refine vk vex ?_;refine vk (van (Ap Oj) SL) ?_
 refine stn ?_ MV (by decide)
 refine ar [2,3] ?_;refine .seq ?_;refine .gh (Gh.nbp (t:=3) rfl) ?_;refine .region ?_;refine vk (vfa L8) ?_;refine vk (Am AS) ?_;refine ar [2] ?_;refine .ret ?_
 cases h
 exact ⟨rfl,rfl⟩
def GK (a0:Arr) (a1:Arr) : Option (Bool):=((Bu a0).bind fun x1=>(Option.bind ((if x1=true then ((Bu a1).bind fun x3=>(if x3=true then ((QA a0 a1).bind fun x4=>(some x4)) else (some false))) else (some false)) : Option (Bool)) fun (z1:Bool)=>(some (z1))))
theorem Ix {a0:Arr} {a1:Arr} {r:Bool} (h:GK a0 a1=some r) :
  Fn Tryz.prog 17 [.ag [.sl (Is a0.shape),.sl (Its a0.items)],.ag [.sl (Is a1.shape),.sl (Its a1.items)]] (.d (.b r)):=by
 unfold GK at h
 refine Fn.o1 4 16 Tryz.func17 ?_;refine .sr ?_;refine vk vbx ?_;refine vk vbx ?_;refine ar [2,3,4] ?_;refine .seq ?_
 obtain ⟨x1,g1,h⟩:=bnd h
 obtain ⟨z1,hz,h⟩:=bnd h
 refine AW.mr (σ:=Unit) (fun _=>True) (fun _=>[(4,.d (.b z1))]) (fun _=>[]) ?_ ?_
 ·skip
  refine .region ?_;refine vk (Aq Al Ad) ?_;refine vk (Ah (DM g1) Tryz.call54) ?_
  rcases brc hz with ⟨hc,hz⟩|⟨hc,hz⟩
  ·have hb0:x1=true:=hc
   refine vL hb0 ?_;refine vk (Aq Al Ad) ?_
   obtain ⟨x3,g3,hz⟩:=bnd hz
   refine vk (Ah (DM g3) Tryz.call54) ?_;refine vk Ag ?_
   rcases brc hz with ⟨hc,hz⟩|⟨hc,hz⟩
   ·have hb1:x3=true:=hc
    refine vL hb1 ?_;refine vk (Aq Al Ad) ?_;refine vk (Aq Al Ad) ?_
    obtain ⟨x4,g4,hz⟩:=bnd hz
    refine vk (Ah (Qb g4) Tryz.call55) ?_;refine vk Ag ?_;refine asd ?_;refine RL.gk [4] ?_;refine .nil ?_
    cases hz
    exact jr () trivial
   have hb1:x3=false:=(bf hc)
   refine vL hb1 ?_;refine gf3 ?_;refine vk Ag ?_;refine asd ?_;refine RL.gk [4] ?_;refine .nil ?_
   cases hz
   exact jr () trivial
  have hb0:x1=false:=(bf hc)
  refine vL hb0 ?_;refine gf2 ?_;refine vk Ag ?_;refine va ?_;refine gf3 ?_;refine vk Ag ?_;refine asd ?_;refine RL.gk [4] ?_;refine .nil ?_
  cases hz
  exact jr () trivial
 rintro _ _
 refine .ret ?_
 cases h
 exact ⟨rfl,rfl⟩
def Ax (a0:(List Itm)) (a1:Ch) (K0:Int→Option (Int)) : Nat→Int→Int→Option (Int)
 | 0,_,_=>none
 | k+1,s2,s3=>(if s3<((List.length a0:Nat):Int) then ((rd? a0 s3).bind fun x4=>((a1.g x4).bind fun x5=>(if x5=true then (some (s3)) else (Ax a0 a1 K0 k s2 (w64 (s3+1)))))) else (K0 s2))
def Bc (a0:(List Itm)) (a1:Ch) : Option (Int):=(jn (fun (z1:Int)=>(some ((-1)))) fun K0=>(Ax a0 a1 K0 AK 0 0))
theorem D3 {a0:(List Itm)} {a1:Ch} (oa1:J0 a1) {r:Int} (h:Bc a0 a1=some r) :
  Fn Tryz.prog 122 [.sl (Its a0),a1.dv] (.d (.i .i64 r)):=by
 unfold Bc at h
 refine Fn.o1 4 19 Tryz.func122 ?_;refine .sr ?_;refine ar [0,1,4] ?_;refine .seq ?_;refine .sr ?_;refine va ?_;refine vk (A8 (AC _) (BT _) BU) ?_;refine va ?_;refine rk [0,1,4,7,8] ?_
 obtain ⟨K0,hK0,h⟩:=AP h
 refine AW.mr (σ:=Int) (fun p=>K0 p=some r) (fun p=>[(4,.d (.i .i64 p))]) (fun p=>[]) ?_ ?_
 ·skip
  refine .block ?_
  refine .loop (.gk [0,1,4,7,8] ?_)
  refine AL.ind (σ:=Nat×Int×Int) (m:=fun p=>p.1) (e:=fun p=>[(0,.d (.sl (Its a0))),(1,.d (a1.dv)),(4,.d (.i .i64 p.2.1)),(7,.d (.i .i64 ((List.length a0:Nat):Int))),(8,.d (.i .i64 p.2.2))]) (h:=fun p=>[]) (I:=fun p=>Ax a0 a1 K0 p.1 p.2.1 p.2.2=some r) ?_ (AK,0,0) h
  rintro ⟨k,s2,s3⟩ h ih
  dsimp only at h ih ⊢
  rcases k with _|k
  ·rw [Ax] at h;cases h
  rw [Ax] at h
  refine .sr ?_;refine vb ?_;refine rk [0,1,4,7,8,9] ?_;refine .seq ?_
  rcases brc h with ⟨hc,h⟩|⟨hc,h⟩
  ·refine cnt (dT hc) ?_
   refine .sk ?_;refine .seq ?_;refine .block ?_;refine .sr ?_;refine va ?_;refine ar [0,1,4,5,7,8] ?_;refine .sr ?_;refine va ?_;refine va ?_;refine va ?_
   obtain ⟨x4,g4,h⟩:=bnd h
   obtain ⟨n4,p04,q4⟩:=Aj g4
   refine vk (vix n4 p04 (CR q4) rfl CK) ?_;refine vk (Aq AB As) ?_
   obtain ⟨x5,g5,h⟩:=bnd h
   refine vk (MC (oa1 _ _ g5)) ?_;refine rk [0,1,4,5,7,8,16] ?_
   rcases brc h with ⟨hc,h⟩|⟨hc,h⟩
   ·refine cnt hc ?_
    refine .sr ?_;refine va ?_;refine ar [0,1,4,7,8] ?_;refine .ret ?_
    cases h
    exact ⟨rfl,rfl⟩
   refine cnf (bf hc) ?_;refine .sk ?_;refine .region ?_;refine vb ?_;refine va ?_;refine .nil ?_;refine AL.gk [0,1,4,7,8] ?_
   exact ih (k,s2,(w64 (s3+1))) h (Nat.lt_succ_self _)
  refine cnf (dF hc) ?_;refine .gk [4] ?_;refine .exit ?_
  exact jr (s2) h
 rintro z1 h
 try dsimp only at h ⊢
 subst hK0
 refine aw ?_;refine .sr ?_;refine ar [4] ?_;refine .ret ?_
 cases h
 exact ⟨rfl,rfl⟩
def AR (a0:(List Itm)) (a1:Ch) : Option (Bool):=((Bc a0 a1).bind fun x1=>(some ((decide (0≤x1)))))
theorem Dx {a0:(List Itm)} {a1:Ch} (oa1:J0 a1) {r:Bool} (h:AR a0 a1=some r) :
  Fn Tryz.prog 57 [.sl (Its a0),a1.dv] (.d (.b r)):=by
 unfold AR at h
 refine Fn.o1 4 9 Tryz.func57 ?_;refine .sr ?_;refine ar [0,1,4] ?_;refine .sr ?_;refine va ?_;refine va ?_
 obtain ⟨x1,g1,h⟩:=bnd h
 refine vk (Ah (D3 oa1 g1) Tryz.call122) ?_;refine vb ?_;refine ar [4] ?_;refine .ret ?_
 cases h
 exact ⟨rfl,rfl⟩
def EG (a0:Itm) : Option (Bool):=((Et a0).bind fun x1=>(some ((!x1))))
theorem LW {a0:Itm} {r:Bool} (h:EG a0=some r) :
  Fn Tryz.prog 58 [.ag [.i .u8 a0.kind,.b a0.num.1,.sl (L a0.num.2.1),.sl (L a0.num.2.2),.i .i32 a0.char,.sl (Ars a0.box)]] (.d (.b r)):=by
 unfold EG at h
 refine Fn.o1 2 6 Tryz.func58 ?_;refine .sr ?_;refine vk vbx ?_;refine ar [1,2] ?_;refine .sr ?_;refine vk (Aq AB As) ?_
 obtain ⟨x1,g1,h⟩:=bnd h
 refine vk (Ah (Il g1) Tryz.call59) ?_;refine vk vnt ?_;refine ar [2] ?_;refine .ret ?_
 cases h
 exact ⟨rfl,rfl⟩
def Ck (x12:Itm) (K4:Int→Option (Arr×Int)) : Nat→Int→Int→Option (Arr×Int)
 | 0,_,_=>none
 | k+1,s14,s15=>(if s15<((List.length x12.box:Nat):Int) then ((rd? x12.box s15).bind fun x16=>((Fz x16).bind fun x17=>(Ck x12 K4 k (w64 (s14+x17)) (w64 (s15+1))))) else (K4 s14))
def B0 (a1:(List Itm)) (K1:(List Int)→Option (Arr×Int)) : Nat→(List Int)→Int→Option (Arr×Int)
 | 0,_,_=>none
 | k+1,s9,s10=>(if s10<((List.length a1:Nat):Int) then (jn (fun (z11:(List Int))=>(B0 a1 K1 k z11 (w64 (s10+1)))) fun K3=>((rd? a1 s10).bind fun x12=>(jn (fun (z13:Int)=>((ap? 17592186044416 s9 [z13]).bind fun x18=>(K3 x18))) fun K4=>(Ck x12 K4 AK 1 0)))) else (K1 s9))
def B1 (a1:(List Itm)) (x1:Int×Int) (z8:(List Int)) (K6:Arr→Int→(List Int)→(List Itm)→Option (Arr×Int)) : Nat→Arr→Int→Int→Int→(List Int)→(List Itm)→Option (Arr×Int)
 | 0,_,_,_,_,_,_=>none
 | k+1,s23,s24,s25,s26,s27,s28=>(if s25<x1.1 then ((G6 (((List.length a1:Nat):Int)≠0)).bind fun x29=>((rd? z8 (Int.tmod s25 ((List.length a1:Nat):Int))).bind fun x30=>(if 16384<(w64 (s26+x30)) then (some ((Arr.mk [] []),8)) else ((G6 (((List.length a1:Nat):Int)≠0)).bind fun x31=>((rd? a1 (Int.tmod s25 ((List.length a1:Nat):Int))).bind fun x32=>((GN x32).bind fun x33=>((ap? 1466015503701 s28 [x33]).bind fun x34=>(B1 a1 x1 z8 K6 k s23 s24 (w64 (s25+1)) (w64 (s26+x30)) s27 x34)))))))) else (K6 s23 s24 s27 s28))
def BK (a0:(List Int)) (a1:(List Itm)) : Option (Arr×Int):=((Dc a0).bind fun x1=>(if x1.2=0 then (Option.bind ((if ((List.length a1:Nat) : Int)=0 then (some true) else ((AR a1 (⟨.fn 58 [] [],fun x=>EG x⟩ : Ch)).bind fun x3=>(some x3))) : Option (Bool)) fun (z2:Bool)=>(if z2=true then (some ((Arr.mk [] []),22)) else ((EW a0).bind fun x4=>(jn (fun (z5:(List Itm))=>(jn (fun (z8:(List Int))=>(jn (fun (z19:Arr) (z20:Int) (z21:(List Int)) (z22:(List Itm))=>((Bu (Arr.mk z21 z22)).bind fun x35=>(if x35=true then (some ((Arr.mk z21 z22),0)) else (some ((Arr.mk [] []),8))))) fun K6=>(B1 a1 x1 z8 K6 AK (Arr.mk [] []) 0 0 0 x4 z5))) fun K1=>(B0 a1 K1 AK [] 0))) fun K0=>(if x1.1=0 then ((rd? a1 0).bind fun x6=>((Kt x6).bind fun x7=>(K0 ([x7])))) else (K0 [])))))) else (some ((Arr.mk [] []),x1.2))))
set_option maxHeartbeats 4000000 in
theorem NK {a0:(List Int)} {a1:(List Itm)} {r:Arr×Int} (h:BK a0 a1=some r) :
  Fn Tryz.prog 18 [.sl (Is a0),.sl (Its a1)] (.tup [.d (.ag [.sl (Is r.1.shape),.sl (Its r.1.items)]),.d (.i .i64 r.2)]):=by
 unfold BK at h
 refine Fn.ofC (rs:=[.cell 4 27,.tmp 5]) (nt:=105) Tryz.func18 rfl rfl rfl (by simp) rfl ?_;refine .sr ?_;refine vk (van (Ap A3) Bg) ?_;refine ar [0,1,4,5] ?_;refine .sr ?_;refine va ?_
 obtain ⟨x1,g1,h⟩:=bnd h
 refine vk (VOK.tupd (vs:=[.i .i64 x1.1,.i .i64 x1.2]) (Ah (Fa g1) Tryz.call56)) ?_;refine va ?_;refine vk vex ?_;refine vk vex ?_;refine asd ?_;refine ar [0,1,4,5,6,7] ?_;refine .seq ?_;refine .block ?_;refine .sr ?_;refine va ?_;refine vb ?_;refine ar [0,1,4,5,6,7,22] ?_
 rcases brc h with ⟨hc,h⟩|⟨hc,h⟩
 ·refine cnf (ntf (dT hc)) ?_
  refine .seq ?_
  obtain ⟨z2,hz,h⟩:=bnd h
  refine AW.mr (σ:=Unit) (fun _=>True) (fun _=>[(0,.d (.sl (Is a0))),(1,.d (.sl (Its a1))),(4,.nb [.sl (Is []),.sl (Its [])]),(5,.d (.i .i64 0)),(6,.d (.i .i64 x1.1)),(27,.d (.b z2))]) (fun _=>[]) ?_ ?_
  ·skip
   refine .region ?_;refine va ?_;refine vk (A8 (AC _) (BT _) BU) ?_;refine vb ?_
   rcases brc hz with ⟨hc,hz⟩|⟨hc,hz⟩
   ·have hb0:(decide (((List.length a1:Nat):Int)=0))=true:=(dT hc)
    refine vL hb0 ?_;refine gf2 ?_;refine vk Ag ?_;refine asd ?_;refine RL.gk [0,1,4,5,6,27] ?_;refine .nil ?_
    cases hz
    exact jr () trivial
   have hb0:(decide (((List.length a1:Nat):Int)=0))=false:=(dF hc)
   refine vL hb0 ?_;refine va ?_
   obtain ⟨x3,g3,hz⟩:=bnd hz
   refine vk (Ah (Dx (KL Tryz.call58 (fun _ _ h=>LW h)) g3) Tryz.call57) ?_;refine vk Ag ?_;refine asd ?_;refine RL.gk [0,1,4,5,6,27] ?_;refine .nil ?_
   cases hz
   exact jr () trivial
  rintro _ _
  rcases brc h with ⟨hc,h⟩|⟨hc,h⟩
  ·refine cnt hc ?_
   refine .sr ?_;refine vk (vbd Dd A3 Bg) ?_
   refine stn ?_ Ad (by decide)
   refine ar [0,1,4,5,6] ?_;refine .ret ?_
   cases h
   exact ⟨_,_,⟨.inr rfl,Al,Ad,p2⟩,rfl,rfl⟩
  refine cnf (bf hc) ?_;refine .sk ?_;refine .sr ?_;refine va ?_
  obtain ⟨x4,g4,h⟩:=bnd h
  refine vk ((Ah (Ju g4) Tryz.call60).deep) ?_;refine vk (YC Dd A3 (fun w I μ=>PJ w I μ)) ?_;refine vk (van (Ap A3) Bg) ?_
  refine XS ?_ Ad (by decide)
  refine rk [1,4,5,6,8] ?_;refine .seq ?_;refine .sr ?_;refine va ?_;refine vb ?_;refine rk [1,4,5,6,8,40] ?_
  obtain ⟨K0,hK0,h⟩:=AP h
  refine AW.mr (σ:=(List Itm)) (fun p=>K0 p=some r) (fun p=>[(1,.d (.sl (Its a1))),(4,.nb [.sl (Is []),.sl (Its [])]),(5,.d (.i .i64 0)),(6,.d (.i .i64 x1.1)),(8,.bp 0 0)]) (fun p=>[HO.box [.d (.sl (Is x4)),.own 51 (Its p)]]) ?_ ?_
  ·skip
   rcases brc h with ⟨hc,h⟩|⟨hc,h⟩
   ·refine cnt (dT hc) ?_
    refine .region ?_;refine va ?_
    obtain ⟨x6,g6,h⟩:=bnd h
    obtain ⟨n6,p06,q6⟩:=Aj g6
    refine vk (vix n6 p06 (CR q6) rfl CK) ?_;refine vk (Aq AB As) ?_
    obtain ⟨x7,g7,h⟩:=bnd h
    refine vk (Ah (QD g7) Tryz.call61) ?_;refine vk (Hk (HV x7) (F4 [x7]) Ge) ?_;refine vk (Ha AY) ?_
    refine Qs (cs:=[.d (.sl (Is x4)),.nl]) (c:=.nl) rfl rfl ?_ KI
    refine RL.gk [1,4,5,6,8] ?_;refine .nil ?_
    exact jr ([x7]) h
   refine cnf (dF hc) ?_;refine .gh (Gh.nlOwnC (id:=0) (off:=1) 51 (by rw [RP];decide)) ?_;refine .gk [1,4,5,6,8] ?_;refine .skip ?_
   exact jr ([]) h
  rintro z5 h
  try dsimp only at h ⊢
  subst hK0
  refine aw ?_;refine .sr ?_;refine asn ?_;refine rk [1,4,5,6,8,9] ?_;refine .seq ?_;refine .sr ?_;refine va ?_;refine vk (A8 (AC _) (BT _) BU) ?_;refine va ?_;refine rk [1,4,5,6,8,9,47,48,49] ?_
  obtain ⟨K1,hK1,h⟩:=AP h
  refine AW.mr (σ:=(List Int)) (fun p=>K1 p=some r) (fun p=>[(1,.d (.sl (Its a1))),(4,.nb [.sl (Is []),.sl (Its [])]),(5,.d (.i .i64 0)),(6,.d (.i .i64 x1.1)),(8,.bp 0 0),(9,.own 3 (Is p))]) (fun p=>[HO.box [.d (.sl (Is x4)),.own 51 (Its z5)]]) ?_ ?_
  ·skip
   refine .block ?_;refine .gh (Gh.nlOwn (t:=9) 3 (by rw [D7];decide) rfl) ?_
   refine .loop (.gk [1,4,5,6,8,9,47,48,49] ?_)
   refine AL.ind (σ:=Nat×(List Int)×Int) (m:=fun p=>p.1) (e:=fun p=>[(1,.d (.sl (Its a1))),(4,.nb [.sl (Is []),.sl (Its [])]),(5,.d (.i .i64 0)),(6,.d (.i .i64 x1.1)),(8,.bp 0 0),(9,.own 3 (Is p.2.1)),(47,.d (.sl (Its a1))),(48,.d (.i .i64 ((List.length a1:Nat):Int))),(49,.d (.i .i64 p.2.2))]) (h:=fun p=>[HO.box [.d (.sl (Is x4)),.own 51 (Its z5)]]) (I:=fun p=>B0 a1 K1 p.1 p.2.1 p.2.2=some r) ?_ (AK,[],0) h
   rintro ⟨k,s9,s10⟩ h ih
   dsimp only at h ih ⊢
   rcases k with _|k
   ·rw [B0] at h;cases h
   rw [B0] at h
   refine .sr ?_;refine vb ?_;refine rk [1,4,5,6,8,9,47,48,49,50] ?_;refine .seq ?_
   rcases brc h with ⟨hc,h⟩|⟨hc,h⟩
   ·refine cnt (dT hc) ?_
    refine .sk ?_
    obtain ⟨K3,hK3,h⟩:=AP h
    refine AW.mj (σ:=(List Int)) (fun p=>K3 p=some r) (fun p=>[(1,.d (.sl (Its a1))),(4,.nb [.sl (Is []),.sl (Its [])]),(5,.d (.i .i64 0)),(6,.d (.i .i64 x1.1)),(8,.bp 0 0),(9,.own 3 (Is p)),(47,.d (.sl (Its a1))),(48,.d (.i .i64 ((List.length a1:Nat):Int))),(49,.d (.i .i64 s10))]) (fun p=>[HO.box [.d (.sl (Is x4)),.own 51 (Its z5)]]) ?_ ?_
    ·skip
     refine .block ?_;refine .sr ?_
     obtain ⟨x12,g12,h⟩:=bnd h
     obtain ⟨n12,p012,q12⟩:=Aj g12
     refine vk (vix n12 p012 (CR q12) rfl CK) ?_;refine vk (Aq AB As) ?_;refine vk (van (Ap CN) CQ) ?_
     refine stn ?_ As (by decide)
     refine rk [1,4,5,6,8,9,11,47,48,49] ?_;refine .sr ?_;refine ar [1,4,5,6,8,9,11,12,47,48,49] ?_;refine .seq ?_;refine .seq ?_;refine .gh (Gh.nbp (t:=11) rfl) ?_;refine .region ?_;refine vk (vfa Ba) ?_;refine vk (Am B6) ?_;refine vk (A8 (BL _) (E0 _) E5) ?_;refine va ?_;refine rk [1,4,5,6,8,9,12,47,48,49,54,55,56] ?_
     obtain ⟨K4,hK4,h⟩:=AP h
     refine AW.mr (σ:=Int) (fun p=>K4 p=some r) (fun p=>[(1,.d (.sl (Its a1))),(4,.nb [.sl (Is []),.sl (Its [])]),(5,.d (.i .i64 0)),(6,.d (.i .i64 x1.1)),(8,.bp 0 0),(9,.own 3 (Is s9)),(12,.d (.i .i64 p)),(47,.d (.sl (Its a1))),(48,.d (.i .i64 ((List.length a1:Nat):Int))),(49,.d (.i .i64 s10))]) (fun p=>[HO.box [.d (.sl (Is x4)),.own 51 (Its z5)]]) ?_ ?_
     ·skip
      refine .block ?_
      refine .loop (.gk [1,4,5,6,8,9,12,47,48,49,54,55,56] ?_)
      refine AL.ind (σ:=Nat×Int×Int) (m:=fun p=>p.1) (e:=fun p=>[(1,.d (.sl (Its a1))),(4,.nb [.sl (Is []),.sl (Its [])]),(5,.d (.i .i64 0)),(6,.d (.i .i64 x1.1)),(8,.bp 0 0),(9,.own 3 (Is s9)),(12,.d (.i .i64 p.2.1)),(47,.d (.sl (Its a1))),(48,.d (.i .i64 ((List.length a1:Nat):Int))),(49,.d (.i .i64 s10)),(54,.d (.sl (Ars x12.box))),(55,.d (.i .i64 ((List.length x12.box:Nat):Int))),(56,.d (.i .i64 p.2.2))]) (h:=fun p=>[HO.box [.d (.sl (Is x4)),.own 51 (Its z5)]]) (I:=fun p=>Ck x12 K4 p.1 p.2.1 p.2.2=some r) ?_ (AK,1,0) h
      rintro ⟨k,s14,s15⟩ h ih
      dsimp only at h ih ⊢
      rcases k with _|k
      ·rw [Ck] at h;cases h
      rw [Ck] at h
      refine .sr ?_;refine vb ?_;refine rk [1,4,5,6,8,9,12,47,48,49,54,55,56,57] ?_;refine .seq ?_
      rcases brc h with ⟨hc,h⟩|⟨hc,h⟩
      ·refine cnt (dT hc) ?_
       refine .sk ?_;refine .seq ?_;refine .block ?_;refine .sr ?_
       obtain ⟨x16,g16,h⟩:=bnd h
       obtain ⟨n16,p016,q16⟩:=Aj g16
       refine vk (vix n16 p016 (Db q16) rfl Dj) ?_;refine vk (Aq Al Ad) ?_;refine vk (van (Ap A3) Bg) ?_
       refine stn ?_ Ad (by decide)
       refine rk [1,4,5,6,8,9,12,14,47,48,49,54,55,56] ?_;refine .region ?_;refine va ?_;refine vk (E2 Al Ad) ?_
       obtain ⟨x17,g17,h⟩:=bnd h
       refine vk (Ah (Mn g17) Tryz.call62) ?_;refine vb ?_;refine asd ?_;refine .nil ?_;refine aw ?_;refine .gk [1,4,5,6,8,9,12,47,48,49,54,55,56] ?_;refine .region ?_;refine vb ?_;refine va ?_;refine .nil ?_;refine AL.gk [1,4,5,6,8,9,12,47,48,49,54,55,56] ?_
       exact ih (k,(w64 (s14+x17)),(w64 (s15+1))) h (Nat.lt_succ_self _)
      refine cnf (dF hc) ?_;refine .gk [1,4,5,6,8,9,12,47,48,49] ?_;refine .exit ?_
      exact jr (s14) h
     rintro z13 h
     try dsimp only at h ⊢
     subst hK4
     refine aw ?_;refine .region ?_;refine mvo ?_;refine va ?_;refine vk ((G0 (GM [z13]) Hf).deep) ?_
     obtain ⟨x18,g18,h⟩:=bnd h
     refine Ym RN g18 US ?_ PK Ai Hf
     refine aso ?_;refine RL.gk [1,4,5,6,8,9,47,48,49] ?_;refine .nil ?_
     exact jr (x18) h
    rintro z11 h
    try dsimp only at h ⊢
    subst hK3
    refine .region ?_;refine vb ?_;refine va ?_;refine .nil ?_;refine AL.gk [1,4,5,6,8,9,47,48,49] ?_
    exact ih (k,z11,(w64 (s10+1))) h (Nat.lt_succ_self _)
   refine cnf (dF hc) ?_;refine .gk [1,4,5,6,8,9] ?_;refine .exit ?_
   exact jr (s9) h
  rintro z8 h
  try dsimp only at h ⊢
  subst hK1
  refine aw ?_;refine .seq ?_;refine .sr ?_;refine asd ?_;refine ar [1,4,5,6,8,9,15,16] ?_
  obtain ⟨K6,hK6,h⟩:=AP h
  refine AW.mr (σ:=Arr×Int×(List Int)×(List Itm)) (fun p=>K6 p.1 p.2.1 p.2.2.1 p.2.2.2=some r) (fun p=>[(4,.nb [.sl (Is p.1.shape),.sl (Its p.1.items)]),(5,.d (.i .i64 p.2.1)),(8,.bp 0 0)]) (fun p=>[HO.box [.d (.sl (Is p.2.2.1)),.own 51 (Its p.2.2.2)]]) ?_ ?_
  ·skip
   refine .block ?_;refine .gh (Gh.frz (p:=.t 9) rfl (by (intro _ _ h;cases h<;>decide))) ?_
   refine .loop (.gk [1,4,5,6,8,9,15,16] ?_)
   refine AL.ind (σ:=Nat×Arr×Int×Int×Int×(List Int)×(List Itm)) (m:=fun p=>p.1) (e:=fun p=>[(1,.d (.sl (Its a1))),(4,.nb [.sl (Is p.2.1.shape),.sl (Its p.2.1.items)]),(5,.d (.i .i64 p.2.2.1)),(6,.d (.i .i64 x1.1)),(8,.bp 0 0),(9,.d (.sl (Is z8))),(15,.d (.i .i64 p.2.2.2.1)),(16,.d (.i .i64 p.2.2.2.2.1))]) (h:=fun p=>[HO.box [.d (.sl (Is p.2.2.2.2.2.1)),.own 51 (Its p.2.2.2.2.2.2)]]) (I:=fun p=>B1 a1 x1 z8 K6 p.1 p.2.1 p.2.2.1 p.2.2.2.1 p.2.2.2.2.1 p.2.2.2.2.2.1 p.2.2.2.2.2.2=some r) ?_ (AK,(Arr.mk [] []),0,0,0,x4,z5) h
   rintro ⟨k,s23,s24,s25,s26,s27,s28⟩ h ih
   dsimp only at h ih ⊢
   rcases k with _|k
   ·rw [B1] at h;cases h
   rw [B1] at h
   refine .seq ?_;refine .sr ?_;refine va ?_;refine va ?_;refine vb ?_;refine rk [1,4,5,6,8,9,15,16,72] ?_
   rcases brc h with ⟨hc,h⟩|⟨hc,h⟩
   ·refine cnt (dT hc) ?_
    refine .sk ?_;refine .seq ?_;refine .block ?_;refine .seq ?_;refine .sr ?_;refine va ?_;refine va ?_;refine va ?_;refine va ?_;refine vk (A8 (AC _) (BT _) BU) ?_
    obtain ⟨x29,g29,h⟩:=bnd h
    refine vk (Pe (IS g29)) ?_
    obtain ⟨x30,g30,h⟩:=bnd h
    obtain ⟨n30,p030,q30⟩:=Aj g30
    refine vk (vix n30 p030 (BC q30) rfl Bo) ?_;refine vk (Am AS) ?_;refine vb ?_;refine ar [1,4,5,6,8,9,15,16] ?_;refine .sr ?_;refine va ?_;refine vb ?_;refine rk [1,4,5,6,8,9,15,16,85] ?_
    rcases brc h with ⟨hc,h⟩|⟨hc,h⟩
    ·refine cnt (dT hc) ?_
     refine .sr ?_;refine vk (vbd Dd A3 Bg) ?_
     refine stn ?_ Ad (by decide)
     refine ar [1,4,5,6,8,9,15,16] ?_;refine .ret ?_
     cases h
     exact ⟨_,_,⟨.inr rfl,Al,Ad,p2⟩,rfl,rfl⟩
    refine cnf (dF hc) ?_;refine .sk ?_;refine .drawn 11 A2 (by kernel_rfl) ?_;refine dv (Ha AY) ?_;refine dv (S0 (cs:=[.d (.sl (Is s27)),.own 51 (Its s28)]) rfl rfl BR) ?_;refine dv Ae ?_;refine dv Ae ?_;refine dv Ae ?_;refine dv (A8 (AC _) (BT _) BU) ?_
    obtain ⟨x31,g31,h⟩:=bnd h
    refine dv (Pe (IS g31)) ?_
    obtain ⟨x32,g32,h⟩:=bnd h
    obtain ⟨n32,p032,q32⟩:=Aj g32
    refine dv (vix n32 p032 (CR q32) rfl CK) ?_;refine dv (Aq AB As) ?_
    obtain ⟨x33,g33,h⟩:=bnd h
    refine dv (Ah (HB g33) Tryz.call63) ?_;refine dv ((Hk (HV x33) (F4 [x33]) Ge).deep) ?_;refine dz ?_
    obtain ⟨x34,g34,h⟩:=bnd h
    refine Xc Pg g34 rfl rfl RZ ?_ Mi AC Ge
    refine RL.gk [1,4,5,6,8,9,15,16,85,87,89,90,91,92,93,94,95,96,97,98] ?_;refine vk (Ha AY) ?_
    refine Qs (cs:=[.d (.sl (Is s27)),.un]) (c:=.un) rfl rfl ?_ KI
    refine .nil ?_;refine aw ?_;refine .gk [1,4,5,6,8,9,15,16] ?_;refine .region ?_;refine va ?_;refine vb ?_;refine asd ?_;refine .nil ?_;refine AL.gk [1,4,5,6,8,9,15,16] ?_
    exact ih (k,s23,s24,(w64 (s25+1)),(w64 (s26+x30)),s27,x34) h (Nat.lt_succ_self _)
   refine cnf (dF hc) ?_;refine .gk [4,5,8] ?_;refine .exit ?_
   exact jr (s23,s24,s27,s28) h
  rintro ⟨z19,z20,z21,z22⟩ h
  try dsimp only at h ⊢
  subst hK6
  refine aw ?_;refine .seq ?_;refine .sr ?_;refine fz (p:=.c 0 1) ?_;refine vk (JP (cs:=[.d (.sl (Is z21)),.d (.sl (Its z22))]) (ds:=[.sl (Is z21),.sl (Its z22)]) rfl Al Ad) ?_
  obtain ⟨x35,g35,h⟩:=bnd h
  refine vk (Ah (DM g35) Tryz.call54) ?_;refine vk vnt ?_;refine rk [4,5,8,102] ?_
  rcases brc h with ⟨hc,h⟩|⟨hc,h⟩
  ·refine cnf (ntf hc) ?_
   refine .sk ?_;refine .sr ?_;refine vk (JP (cs:=[.d (.sl (Is z21)),.d (.sl (Its z22))]) (ds:=[.sl (Is z21),.sl (Its z22)]) rfl Al Ad) ?_
   refine stn ?_ Ad (by decide)
   refine ar [4,5] ?_;refine .ret ?_
   cases h
   exact ⟨_,_,⟨.inr rfl,Al,Ad,p2⟩,rfl,rfl⟩
  refine cnt (ntt (bf hc)) ?_;refine .sr ?_;refine vk (vbd Dd A3 Bg) ?_
  refine stn ?_ Ad (by decide)
  refine ar [4,5,8] ?_;refine .ret ?_
  cases h
  exact ⟨_,_,⟨.inr rfl,Al,Ad,p2⟩,rfl,rfl⟩
 refine cnt (ntt (dF hc)) ?_;refine .sr ?_;refine vk (vbd Dd A3 Bg) ?_;refine va ?_
 refine stn ?_ Ad (by decide)
 refine ar [0,1,4,5,6] ?_;refine .ret ?_
 cases h
 exact ⟨_,_,⟨.inr rfl,Al,Ad,p2⟩,rfl,rfl⟩
def DX (a0:Arr) : Option ((List Itm)):=((Dc a0.shape).bind fun x1=>(Option.bind ((if x1.1=0 then (some true) else ((Bu a0).bind fun x3=>(some (!x3)))) : Option (Bool)) fun (z2:Bool)=>(if z2=true then (some ([])) else ((Cj a0 (⟨.fn 63 [] [],fun x=>GN x⟩ : B5)).bind fun x4=>(some (x4.items))))))
theorem IB {a0:Arr} {r:(List Itm)} (h:DX a0=some r) :
  Fn Tryz.prog 46 [.ag [.sl (Is a0.shape),.sl (Its a0.items)]] (.d (.sl (Its r))):=by
 unfold DX at h
 refine Fn.o1 2 21 Tryz.func46 ?_;refine .sr ?_;refine vk vbx ?_;refine asn ?_;refine rk [1,2] ?_;refine .seq ?_;refine .sr ?_;refine vk (vfa Bh) ?_;refine vk (Am CS) ?_
 obtain ⟨x1,g1,h⟩:=bnd h
 refine vk (VOK.tupd (vs:=[.i .i64 x1.1,.i .i64 x1.2]) (Ah (Fa g1) Tryz.call56)) ?_;refine va ?_;refine vk vex ?_;refine vk vex ?_;refine asd ?_;refine ar [1,2,3] ?_;refine .seq ?_
 obtain ⟨z2,hz,h⟩:=bnd h
 refine AW.mr (σ:=Unit) (fun _=>True) (fun _=>[(1,.d (.ptr [.sl (Is a0.shape),.sl (Its a0.items)])),(2,.nl),(17,.d (.b z2))]) (fun _=>[]) ?_ ?_
 ·skip
  refine .region ?_;refine va ?_;refine vb ?_
  rcases brc hz with ⟨hc,hz⟩|⟨hc,hz⟩
  ·have hb0:(decide (x1.1=0))=true:=(dT hc)
   refine vL hb0 ?_;refine gf3 ?_;refine vk Ag ?_;refine RL.gk [1,2,17] ?_;refine .nil ?_
   cases hz
   exact jr () trivial
  have hb0:(decide (x1.1=0))=false:=(dF hc)
  refine vL hb0 ?_;refine vk (Aq Al Ad) ?_
  obtain ⟨x3,g3,hz⟩:=bnd hz
  refine vk (Ah (DM g3) Tryz.call54) ?_;refine vk vnt ?_;refine vk Ag ?_;refine RL.gk [1,2,17] ?_;refine .nil ?_
  cases hz
  exact jr () trivial
 rintro _ _
 rcases brc h with ⟨hc,h⟩|⟨hc,h⟩
 ·refine cnt hc ?_
  refine .sr ?_;refine asn ?_;refine rk [1,2] ?_;refine .gh (Gh.nlD (t:=2) rfl) ?_;refine .ret ?_
  cases h
  exact ⟨rfl,rfl⟩
 refine cnf (bf hc) ?_;refine .sk ?_;refine .sr ?_;refine vk (Aq Al Ad) ?_
 obtain ⟨x4,g4,h⟩:=bnd h
 refine vk (Ah (Em (KL Tryz.call63 (fun _ _ h=>HB h)) g4) Tryz.call80) ?_;refine vk (X1 AY MS) ?_;refine ar [2] ?_;refine .ret ?_
 cases h
 exact ⟨rfl,rfl⟩
def Df (a0:Itm) : Option (Arr):=((Et a0).bind fun x1=>(if x1=true then (if a0.kind=3 then ((rd? a0.box 0).bind fun x2=>((Cj x2 (⟨.fn 63 [] [],fun x=>GN x⟩ : B5)).bind fun x3=>(some (x3)))) else ((GN a0).bind fun x4=>((FH x4).bind fun x5=>(some (x5))))) else (some ((Arr.mk [] [])))))
theorem Jo {a0:Itm} {r:Arr} (h:Df a0=some r) :
  Fn Tryz.prog 26 [.ag [.i .u8 a0.kind,.b a0.num.1,.sl (L a0.num.2.1),.sl (L a0.num.2.2),.i .i32 a0.char,.sl (Ars a0.box)]] (.d (.ag [.sl (Is r.shape),.sl (Its r.items)])):=by
 unfold Df at h
 refine Fn.ofC (rs:=[.cell 2 27]) (nt:=20) Tryz.func26 rfl rfl rfl (by simp) rfl ?_;refine .sr ?_;refine vk vbx ?_;refine vk (van (Ap A3) Bg) ?_;refine rk [1,2] ?_;refine .seq ?_;refine .block ?_;refine .sr ?_;refine vk (Aq AB As) ?_
 obtain ⟨x1,g1,h⟩:=bnd h
 refine vk (Ah (Il g1) Tryz.call59) ?_;refine vk vnt ?_;refine ar [1,2,3] ?_
 rcases brc h with ⟨hc,h⟩|⟨hc,h⟩
 ·refine cnf (ntf hc) ?_
  refine .sr ?_;refine vk (vfa Bp) ?_;refine vk (Am AT) ?_;refine vb ?_;refine ar [1,2,8] ?_
  rcases brc h with ⟨hc,h⟩|⟨hc,h⟩
  ·refine cnt (dT hc) ?_
   refine .sr ?_;refine vk (vfa Ba) ?_;refine vk (Am B6) ?_
   obtain ⟨x2,g2,h⟩:=bnd h
   obtain ⟨n2,p02,q2⟩:=Aj g2
   refine vk (vix n2 p02 (Db q2) rfl Dj) ?_;refine vk (Aq Al Ad) ?_
   obtain ⟨x3,g3,h⟩:=bnd h
   refine vk (Ah (Em (KL Tryz.call63 (fun _ _ h=>HB h)) g3) Tryz.call80) ?_
   refine stn ?_ Ad (by decide)
   refine rk [1,2] ?_;refine .ret ?_
   cases h
   exact ⟨_,⟨.inr rfl,Al,Ad,p2⟩,rfl⟩
  refine cnf (dF hc) ?_;refine .sk ?_;refine .sr ?_;refine vk (Aq AB As) ?_
  obtain ⟨x4,g4,h⟩:=bnd h
  refine vk (Ah (HB g4) Tryz.call63) ?_
  obtain ⟨x5,g5,h⟩:=bnd h
  refine vk (Ah (H7 g5) Tryz.call35) ?_
  refine stn ?_ Ad (by decide)
  refine rk [2] ?_;refine .ret ?_
  cases h
  exact ⟨_,⟨.inr rfl,Al,Ad,p2⟩,rfl⟩
 refine cnt (ntt (bf hc)) ?_;refine .sr ?_;refine vk (vbd Dd A3 Bg) ?_
 refine stn ?_ Ad (by decide)
 refine rk [1,2] ?_;refine .ret ?_
 cases h
 exact ⟨_,⟨.inr rfl,Al,Ad,p2⟩,rfl⟩
def chB (c:Int) : Bool:=decide (0≤c)&&(decide (c≤1114111)&&(decide (c<55296)||decide (57343<c)))
theorem TR (c:Int) : FG c=some (chB c):=rfl
def AI (a:Arr) : Bool:=a.shape.isEmpty&&match a.items with
 | [x]=>decide (x.kind≠3)
 | _=>false
theorem Lm (a:Arr) : C4 a=some (AI a):=by
 unfold C4 AI
 cases hs:a.shape with
 | nil =>
  rw [if_pos (by simp)]
  match hi:a.items with
  | []=>rw [if_neg (by simp)];rfl
  | [x]=>rw [if_pos (by simp),LK];simp
  | x::y::r=>rw [if_neg (by simp;omega)];rfl
 | cons z zs=>rw [if_neg (by simp;omega)];rfl
mutual
def rI : Itm→Bool
 | .mk k n c b=>if k=1 then (A9 n&&(decide (c=0)&&decide (b.length=0))) else if k=2 then (chB c&&(Cv (.mk k n c b)&&decide (b.length=0))) else if k=3 then (decide (b.length=1)&&(Cv (.mk k n c b)&&(decide (c=0)&&rBs b))) else false
def rA : Arr→Bool
 | .mk s i=>decide ((szP s).2=0)&&(decide ((i.length:Int)=if (szP s).1<1 then 1 else (szP s).1)&&rIs i)
def rIs : List Itm→Bool
 | []=>true
 | x::xs=>rI x&&rIs xs
def rBs : List Arr→Bool
 | []=>true
 | a::r=>(!AI a&&rA a)&&rBs r
end
mutual
def cI : Itm→Nat
 | .mk _ _ _ b=>cBs b
def cA : Arr→Nat
 | .mk _ i=>i.length+cIs i
def cIs : List Itm→Nat
 | []=>0
 | x::xs=>cI x+cIs xs
def cBs : List Arr→Nat
 | []=>0
 | a::r=>cA a+cBs r
end
mutual
def dI : Itm→Nat
 | .mk _ _ _ b=>dBs b
def dA : Arr→Nat
 | .mk s i=>if AI (.mk s i) then 0 else 1+dIs i
def dIs : List Itm→Nat
 | []=>0
 | x::xs=>max (dI x) (dIs xs)
def dBs : List Arr→Nat
 | []=>0
 | a::r=>max (dA a) (dBs r)
end
theorem Mx (x:Itm) : rI x=if x.kind=1 then (A9 x.num&&(decide (x.char=0)&&decide (x.box.length=0))) else if x.kind=2 then (chB x.char&&(Cv x&&decide (x.box.length=0))) else if x.kind=3 then (decide (x.box.length=1)&&(Cv x&&(decide (x.char=0)&&rBs x.box))) else false:=by
 cases x;simp only [rI];rfl
theorem Ik (a:Arr) : rA a=(decide ((szP a.shape).2=0)&&(decide ((a.items.length:Int)=if (szP a.shape).1<1 then 1 else (szP a.shape).1)&&rIs a.items)):=by cases a;simp only [rA];rfl
theorem H8 (a:Arr) : cA a=a.items.length+cIs a.items:=by cases a;simp only [cA];rfl
theorem Mm (x:Itm) : cI x=cBs x.box:=by cases x;simp only [cI];rfl
theorem GX (a:Arr) : dA a=if AI a then 0 else 1+dIs a.items:=by cases a;simp only [dA];rfl
theorem MZ (x:Itm) : dI x=dBs x.box:=by cases x;simp only [dI];rfl
def up (d deep n:Nat) : Nat:=if n=0 then d else max d (deep+n)
theorem YJ (d deep n m:Nat) : up (up d deep n) deep m=up d deep (max n m):=by unfold up;split<;>split<;>split<;>omega
theorem Y8 {d deep n:Nat} (h:d≤16) (h2:deep+n≤16) : up d deep n≤16:=by unfold up;split<;>omega
def Pu (f:Int→Int→Int→Option M3) (r:Bool) (n dp:Nat) : Prop:=∀ deep c d : Nat,deep≤16→c≤16384→d≤16 →
 (r=true→deep+dp≤16→c+n≤16384→f deep c d=some (true,((c+n:Nat):Int),((up d deep dp:Nat):Int))) ∧
 (¬(r=true∧deep+dp≤16∧c+n≤16384)→∃ z,f deep c d=some (false,z))
theorem Mv (x:Itm) : Cv x=true↔x.num=(false,[],[]):=by
 unfold Cv
 simp only [Bool.and_eq_true,Bool.not_eq_true',decide_eq_true_eq]
 constructor
 ·rintro ⟨h1,h2,h3⟩
  exact Prod.ext h1 (Prod.ext (List.length_eq_zero_iff.1 (by omega)) (List.length_eq_zero_iff.1 (by omega)))
 ·intro h;rw [h];simp
theorem OB {rc:Arr→Int→Int→Int→Option M3} {x:Itm} (hx:okI x) (hrc:∀ a∈x.box,Pu (rc a) (rA a) (cA a) (dA a)) : Pu (NG rc x) (rI x) (cI x) (dI x):=by
 have ox:=(DA x).1 hx
 intro deep c d h1 h2 h3
 unfold NG
 rw [Mx,Mm,MZ]
 have e0:(((x.box.length:Nat):Int)=0)↔x.box.length=0:=by omega
 have e1:(((x.box.length:Nat):Int)=1)↔x.box.length=1:=by omega
 by_cases k1:x.kind=1
 ·rw [if_pos k1,if_pos k1,IW ox.2.1,oB]
  simp only [e0]
  by_cases hb:x.box.length=0
  ·have:x.box=[]:=List.length_eq_zero_iff.1 hb
   rw [this]
   simp only [cBs,dBs,List.length_nil,decide_true,Bool.and_true,Nat.add_zero]
   refine ⟨fun hr _ _=>by rw [hr];rfl,fun hn=>?_⟩
   have:(A9 x.num&&decide (x.char=0))=false:=by
    cases hq:(A9 x.num&&decide (x.char=0)) with
    | false=>rfl
    | true=>exact absurd ⟨hq,h1,h2⟩ hn
   rw [this];exact ⟨_,rfl⟩
  ·simp only [hb,decide_false,Bool.and_false]
   exact ⟨fun h=>by simp at h,fun _=>⟨_,rfl⟩⟩
 rw [if_neg k1,if_neg k1]
 by_cases k2:x.kind=2
 ·rw [if_pos k2,if_pos k2,TR,oB]
  simp only [e0]
  by_cases hb:x.box.length=0
  ·have:x.box=[]:=List.length_eq_zero_iff.1 hb
   rw [this]
   simp only [cBs,dBs,List.length_nil,decide_true,Bool.and_true,Nat.add_zero]
   refine ⟨fun hr _ _=>by rw [hr];rfl,fun hn=>?_⟩
   have:(chB x.char&&Cv x)=false:=by
    cases hq:(chB x.char&&Cv x) with
    | false=>rfl
    | true=>exact absurd ⟨hq,h1,h2⟩ hn
   rw [this];exact ⟨_,rfl⟩
  ·simp only [hb,decide_false,Bool.and_false]
   exact ⟨fun h=>by simp at h,fun _=>⟨_,rfl⟩⟩
 rw [if_neg k2,if_neg k2]
 by_cases k3:x.kind=3
 ·rw [if_pos k3,if_pos k3]
  simp only [e1]
  by_cases hb:x.box.length=1
  rotate_left
  ·rw [if_neg hb];simp only [hb,decide_false,Bool.false_and]
   exact ⟨fun h=>by simp at h,fun _=>⟨_,rfl⟩⟩
  rw [if_pos hb]
  by_cases hn:Cv x=true
  rotate_left
  ·rw [if_neg hn];simp only [hn,hb,decide_true,Bool.true_and,Bool.false_and]
   exact ⟨fun h=>by simp at h,fun _=>⟨_,rfl⟩⟩
  rw [if_pos hn]
  by_cases hc:x.char=0
  rotate_left
  ·rw [if_neg hc];simp only [hn,hb,hc,decide_true,decide_false,Bool.true_and,Bool.false_and]
   exact ⟨fun h=>by simp at h,fun _=>⟨_,rfl⟩⟩
  rw [if_pos hc]
  obtain ⟨a,ha⟩:∃ a,x.box=[a]:=List.length_eq_one_iff.1 hb
  have hm:=hrc a (by rw [ha];simp)
  rw [ha,LK,oB,Lm,oB]
  simp only [hn,hc,decide_true,Bool.true_and,rBs,cBs,dBs,Bool.and_true,Nat.add_zero,Nat.max_zero,List.length_cons,List.length_nil]
  by_cases hs:AI a=true
  ·rw [if_pos hs];simp only [hs]
   exact ⟨fun h=>by simp at h,fun _=>⟨_,rfl⟩⟩
  rw [if_neg hs,oB]
  have hs':AI a=false:=by simpa using hs
  simp only [hs',Bool.not_false,Bool.true_and]
  obtain ⟨m1,m2⟩:=hm deep c d h1 h2 h3
  refine ⟨fun hr g1 g2=>by rw [m1 hr g1 g2];rfl,fun hn=>?_⟩
  obtain ⟨z,hz⟩:=m2 hn
  exact ⟨z,by rw [hz];rfl⟩
 ·rw [if_neg k3,if_neg k3]
  exact ⟨fun h=>by simp at h,fun _=>⟨_,rfl⟩⟩
theorem MH {rc:Arr→Int→Int→Int→Option M3} : ∀ {xs:List Itm},(∀ x∈xs,Pu (NG rc x) (rI x) (cI x) (dI x))→Pu (fun deep c d=>J2 rc deep xs c d) (rIs xs) (cIs xs) (dIs xs)
 | [],_=>fun deep c d h1 h2 h3=>by
  simp only [J2,rIs,cIs,dIs]
  exact ⟨fun _ _ _=>rfl,fun h=>absurd ⟨trivial,h1,h2⟩ h⟩
 | x::xs,hx=>fun deep c d h1 h2 h3=>by
  obtain ⟨m1,m2⟩:=hx x (by simp) deep c d h1 h2 h3
  have ih:=MH (xs:=xs) fun y hy=>hx y (by simp [hy])
  simp only [J2,rIs,cIs,dIs]
  by_cases hc:rI x=true∧deep+dI x≤16∧c+cI x≤16384
  ·obtain ⟨p1,p2,p3⟩:=hc
   rw [m1 p1 p2 p3,oB,if_pos rfl,p1,Bool.true_and]
   obtain ⟨n1,n2⟩:=ih deep (c+cI x) (up d deep (dI x)) h1 p3 (Y8 h3 p2)
   refine ⟨fun hr g1 g2=>?_,fun hn=>n2 fun ⟨q1,q2,q3⟩=>hn ⟨q1,by omega,by omega⟩⟩
   have:=n1 hr (by omega) (by omega)
   rw [YJ,Nat.add_assoc] at this
   exact this
  ·obtain ⟨z,hz⟩:=m2 hc
   rw [hz,oB,if_neg (by simp)]
   refine ⟨fun hr g1 g2=>absurd ⟨?_,by omega,by omega⟩ hc,fun _=>⟨_,rfl⟩⟩
   simp only [Bool.and_eq_true] at hr;exact hr.1
theorem Ko {a:Arr} (hs:AI a=true) (hr:rIs a.items=true) : dIs a.items=0∧cIs a.items=0:=by
 unfold AI at hs
 rw [Bool.and_eq_true] at hs
 match hi:a.items,hs.2 with
 | [x],h2 =>
  rw [hi] at hr
  simp only [rIs,Bool.and_true] at hr
  rw [Mx] at hr
  have h3:x.kind≠3:=by simpa using h2
  have hb:x.box=[]:=by
   by_cases k1:x.kind=1
   ·rw [if_pos k1] at hr;simp only [Bool.and_eq_true,decide_eq_true_eq] at hr;exact List.length_eq_zero_iff.1 hr.2.2
   rw [if_neg k1] at hr
   by_cases k2:x.kind=2
   ·rw [if_pos k2] at hr;simp only [Bool.and_eq_true,decide_eq_true_eq] at hr;exact List.length_eq_zero_iff.1 hr.2.2
   rw [if_neg k2,if_neg h3] at hr;cases hr
  simp [dIs,cIs,MZ,Mm,hb,dBs,cBs]
theorem U4 {rc:Arr→Int→Int→Int→Option M3} {a:Arr} (ha:okAr a) (hx:∀ x∈a.items,Pu (NG rc x) (rI x) (cI x) (dI x)) : Pu (U7 rc a) (rA a) (cA a) (dA a):=by
 have oa:=(BE a).1 ha
 intro deep c d h1 h2 h3
 have hl:=ML a.shape
 unfold U7
 rw [L6 oa.2.1,oB,Ik,H8,GX]
 by_cases e1:(szP a.shape).2=0
 rotate_left
 ·rw [if_neg e1];simp only [e1,decide_false,Bool.false_and]
  exact ⟨fun h=>by simp at h,fun _=>⟨_,rfl⟩⟩
 rw [if_pos e1]
 by_cases e2:(a.items.length:Int)=if (szP a.shape).1<1 then 1 else (szP a.shape).1
 rotate_left
 ·rw [if_neg e2];simp only [e1,e2,decide_true,decide_false,Bool.true_and,Bool.false_and]
  exact ⟨fun h=>by simp at h,fun _=>⟨_,rfl⟩⟩
 rw [if_pos e2]
 have hlen:a.items.length≤4096:=by
  split at e2<;>omega
 simp only [e1,decide_true,Bool.true_and]
 rw [dT e2,Bool.true_and]
 have hw:w64 ((c:Int)+((a.items.length:Nat):Int))=((c+a.items.length:Nat):Int):=by rw [C2 (by omega) (by omega)];omega
 rw [hw]
 by_cases e3:(16384:Int)<((c+a.items.length:Nat):Int)
 ·rw [if_pos e3]
  exact ⟨fun _ _ _=>by omega,fun _=>⟨_,rfl⟩⟩
 rw [if_neg e3,Lm,oB]
 have hi:=MH hx
 by_cases hs:AI a=true
 ·simp only [if_pos hs]
  rw [if_pos (show (deep:Int)≤16 by omega)]
  obtain ⟨m1,m2⟩:=hi deep (c+a.items.length) d h1 (by omega) h3
  refine ⟨fun hr g1 g2=>?_,fun hn=>m2 fun ⟨q1,q2,q3⟩=>hn ⟨q1,by omega,by omega⟩⟩
  obtain ⟨s1,s2⟩:=Ko hs hr
  have:=m1 hr (by omega) (by omega)
  rw [s1,Nat.add_assoc] at this
  exact this
 simp only [if_neg hs]
 have hw2:w64 ((deep:Int)+1)=((deep+1:Nat):Int):=by rw [C2 (by omega) (by omega)];omega
 rw [hw2]
 have hmx:(if (d:Int)<((deep+1:Nat):Int) then ((deep+1:Nat):Int) else (d:Int))=((max d (deep+1):Nat):Int):=by split<;>omega
 rw [hmx]
 by_cases e4:((deep+1:Nat):Int)≤16
 rotate_left
 ·rw [if_neg e4]
  exact ⟨fun _ _ _=>by omega,fun _=>⟨_,rfl⟩⟩
 rw [if_pos e4]
 obtain ⟨m1,m2⟩:=hi (deep+1) (c+a.items.length) (max d (deep+1)) (by omega) (by omega) (by omega)
 refine ⟨fun hr g1 g2=>?_,fun hn=>m2 fun ⟨q1,q2,q3⟩=>hn ⟨q1,by omega,by omega⟩⟩
 have:=m1 hr (by omega) (by omega)
 have hup:up (max d (deep+1)) (deep+1) (dIs a.items)=up d deep (1+dIs a.items):=by unfold up;split<;>split<;>omega
 rw [hup,Nat.add_assoc] at this
 exact this
theorem M2 : ∀ (k:Nat) {a:Arr},a.size<k→okAr a→Pu (M1 k a) (rA a) (cA a) (dA a)
 | 0,a,h,_=>by omega
 | k+1,a,h,ha=>by
  have oa:=(BE a).1 ha
  have:=U4 (rc:=M1 k) ha fun x hx=>OB (oa.2.2.2 x hx) fun b hb=>M2 k (by have:=HN hx;have:=FY hb;omega) (((DA x).1 (oa.2.2.2 x hx)).2.2.2.2 b hb)
  intro deep c d h1 h2 h3
  simp only [M1]
  rw [if_pos (by omega)]
  exact this deep c d h1 h2 h3
theorem Qw {a:Arr} (ha:okAr a) : Pu (mAr a) (rA a) (cA a) (dA a):=M2 _ (Nat.lt_succ_self _) ha
theorem Vm {x:Itm} (hx:okI x) : Pu (mIt x) (rI x) (cI x) (dI x):=OB hx fun a ha=>Qw (((DA x).1 hx).2.2.2.2 a ha)
def Bm (a:Arr) : Prop:=rA a=true∧dA a≤16∧cA a≤16384
def AD (x:Itm) : Prop:=rI x=true∧dI x≤16∧cI x≤16384
instance (a:Arr) : Decidable (Bm a):=by unfold Bm;infer_instance
instance (x:Itm) : Decidable (AD x):=by unfold AD;infer_instance
theorem Lu {a:Arr} (ha:okAr a) : E9 a=some (if Bm a then (((cA a:Nat) : Int),((dA a:Nat) : Int)) else (0,0),decide (Bm a)):=by
 obtain ⟨m1,m2⟩:=Qw ha 0 0 0 (by omega) (by omega) (by omega)
 unfold E9
 by_cases h:Bm a
 ·have:=m1 h.1 (by have:=h.2.1;omega) (by have:=h.2.2;omega)
  rw [show ((0:Nat):Int)=0 from rfl] at this
  rw [this,if_pos h,dT h]
  have hu:up 0 0 (dA a)=dA a:=by unfold up;split<;>omega
  simp [hu]
 ·obtain ⟨z,hz⟩:=m2 fun ⟨q1,q2,q3⟩=>h ⟨q1,by omega,by omega⟩
  rw [show ((0:Nat):Int)=0 from rfl] at hz
  rw [hz,if_neg h,dF h];rfl
theorem J7 {a:Arr} (ha:okAr a) : Bu a=some (decide (Bm a)):=by unfold Bu;rw [Lu ha,oB]
theorem Ud {a:Arr} (ha:okAr a) : Fz a=some (if Bm a then ((cA a:Nat) : Int) else 0):=by
 unfold Fz;rw [Lu ha,oB];split<;>rfl
theorem Hu {x:Itm} (hx:okI x) : Et x=some (decide (AD x)):=by
 obtain ⟨m1,m2⟩:=Vm hx 0 0 0 (by omega) (by omega) (by omega)
 unfold Et
 by_cases h:AD x
 ·have:=m1 h.1 (by have:=h.2.1;omega) (by have:=h.2.2;omega)
  rw [show ((0:Nat):Int)=0 from rfl] at this
  rw [this,dT h];rfl
 ·obtain ⟨z,hz⟩:=m2 fun ⟨q1,q2,q3⟩=>h ⟨q1,by omega,by omega⟩
  rw [show ((0:Nat):Int)=0 from rfl] at hz
  rw [hz,dF h];rfl
theorem OW {n:Nat} : (0:Int)<((List.length (Ab n) : Nat) : Int)↔n≠0:=by
 constructor
 ·rintro h rfl;rw [AJ] at h;simp at h
 ·intro h
  have:Ab n≠[]:=fun h2=>h (EP.1 h2)
  have:=List.length_pos_iff.2 this
  omega
theorem Ss {p:Rat} : (ofQ p).2.1=[]↔p=0:=by
 rw [← VM,← List.length_eq_zero_iff];omega
def D9 (p q:Rat) : Int:=if p<q then -1 else if p=q then 0 else 1
theorem Sq {p:Rat} : p.num<0↔p<0:=by
 rw [Rat.lt_iff];simp
theorem Va {p:Rat} (hp:Jj p) : Gm (ofQ p)=some (D9 p 0):=by
 unfold Gm
 rw [IW (ED hp),FX hp,oB]
 unfold D9
 by_cases h:p=0
 ·subst h
  rw [if_pos (by simp [Ss]),if_neg Rat.lt_irrefl,if_pos rfl]
 ·rw [if_neg (by simp [Ss,h])]
  show (if decide (p.num<0)=true then some (-1) else some 1)=_
  by_cases h2:p<0
  ·rw [if_pos h2,if_pos (dT (Sq.2 h2))]
  ·rw [if_neg h2,if_neg (by simpa using fun h3=>h2 (Sq.1 h3)),if_neg h]
theorem Tu {a b:List Nat} (ha:okL 1048576 a=true) (hb:okL 35184372087808 b=true) : I5 a b=some (decide (a=b)):=if_pos (by rw [ha,hb];rfl)
theorem Xb {p:Rat} (hp:Jj p) : Lk (ofQ p)=some (decide (p.den=1)):=by
 unfold Lk
 rw [IW (ED hp),FX hp,oB,if_pos rfl,TG,oB]
 rw [show I5 (ofQ p).2.2 [1]=some (decide (Ab p.den=[1])) from Tu (Nj hp.2 (by decide)) (by rfl),oB,oB]
 congr 1
 exact decide_eq_decide.2 J8
theorem SP {x y:Q3} (hx:sm 4000 x) (hy:sm 4000 y) : ID (qN x).1 (qN y).1=some (Ab (x.2.1 * y.2.2)):=by
 have:ID (qN x).1 (qN y).1=some (Ab (val (Ab x.2.1) * val (Ab y.2.2))):=if_pos (by
  rw [Bool.and_eq_true];exact ⟨CG hx.1,CG hy.2⟩)
 rw [this,Ar,Ar]
theorem PT {m n:Nat} (hm:(Ab m).length≤1048576) (hn:(Ab n).length≤1048576) : J9 (Ab m) (Ab n)=some (Dw m n):=by
 have:J9 (Ab m) (Ab n)=some (Dw (val (Ab m)) (val (Ab n))):=if_pos (by
  rw [Bool.and_eq_true];exact ⟨CG (by omega),CG (by omega)⟩)
 rw [this,Ar,Ar]
theorem QY {x y:Q3} {k:Nat} (hx:sm k x) (hy:sm k y) : (Ab (x.2.1 * y.2.2)).length≤2 * k:=by
 have l1:=Mg (AH x.2.1) (AH y.2.2) hx.1 hy.2
 rwa [Ar,Ar] at l1
theorem NC {p q:Rat} : D9 p q=if p.num * q.den<q.num * p.den then -1 else if p.num * q.den=q.num * p.den then 0 else 1:=by
 unfold D9
 simp only [Rat.lt_iff,Rat.eq_iff_mul_eq_mul]
theorem Gb {p:Rat} : D9 p 0=if p.num<0 then -1 else if p.num=0 then 0 else 1:=by
 rw [NC];simp
theorem Tp {p q:Rat} (h:D9 p 0=D9 q 0) : D9 p 0 * Dw (p.num.natAbs * q.den) (q.num.natAbs * p.den)=D9 p q:=by
 rw [Gb,Gb] at h
 rw [Gb,NC]
 have hp:(0:Int)<p.den:=by have:=p.den_nz;omega
 have hq:(0:Int)<q.den:=by have:=q.den_nz;omega
 unfold Dw
 by_cases h1:p.num<0
 ·rw [if_pos h1] at h ⊢
  have h2:q.num<0:=by
   by_cases h2:q.num<0
   ·exact h2
   ·rw [if_neg h2] at h;split at h<;>cases h
  have e1:((p.num.natAbs * q.den:Nat):Int)=-(p.num * q.den):=by rw [Int.natCast_mul,show ((p.num.natAbs:Nat):Int)=-p.num by omega,Int.neg_mul]
  have e2:((q.num.natAbs * p.den:Nat):Int)=-(q.num * p.den):=by rw [Int.natCast_mul,show ((q.num.natAbs:Nat):Int)=-q.num by omega,Int.neg_mul]
  generalize p.num.natAbs * q.den=a at *
  generalize q.num.natAbs * p.den=b at *
  generalize p.num * q.den=c at *
  generalize q.num * p.den=d at *
  split<;>split<;>(try split)<;>(try split)<;>omega
 ·rw [if_neg h1] at h ⊢
  by_cases h0:p.num=0
  ·rw [if_pos h0] at h ⊢
   have h2:q.num=0:=by
    by_cases h2:q.num<0
    ·rw [if_pos h2] at h;cases h
    ·rw [if_neg h2] at h
     by_cases h3:q.num=0
     ·exact h3
     ·rw [if_neg h3] at h;cases h
   rw [h0,h2];simp
  ·rw [if_neg h0] at h ⊢
   have h2:0<q.num:=by
    by_cases h2:q.num<0
    ·rw [if_pos h2] at h;cases h
    ·rw [if_neg h2] at h
     by_cases h3:q.num=0
     ·rw [if_pos h3] at h;cases h
     ·omega
   have e1:((p.num.natAbs * q.den:Nat):Int)=p.num * q.den:=by rw [Int.natCast_mul,show ((p.num.natAbs:Nat):Int)=p.num by omega]
   have e2:((q.num.natAbs * p.den:Nat):Int)=q.num * p.den:=by rw [Int.natCast_mul,show ((q.num.natAbs:Nat):Int)=q.num by omega]
   generalize p.num.natAbs * q.den=a at *
   generalize q.num.natAbs * p.den=b at *
   generalize p.num * q.den=c at *
   generalize q.num * p.den=d at *
   split<;>split<;>(try split)<;>(try split)<;>omega
theorem Oi (p q:Rat) : D9 p q=-1∨D9 p q=0∨D9 p q=1:=by
 unfold D9;split
 ·exact .inl rfl
 ·split
  ·exact .inr (.inl rfl)
  ·exact .inr (.inr rfl)
theorem Tf {p q:Rat} (h:¬D9 p 0=D9 q 0) : D9 p q=if D9 p 0<D9 q 0 then -1 else 1:=by
 rw [Gb,Gb] at h
 rw [Gb,Gb,NC]
 have hp0:(0:Int)<p.den:=by have:=p.den_nz;omega
 have hq0:(0:Int)<q.den:=by have:=q.den_nz;omega
 have m1:p.num<0→p.num * q.den<0:=fun h=>Int.mul_neg_of_neg_of_pos h hq0
 have m2:0<p.num→0<p.num * q.den:=fun h=>Int.mul_pos h hq0
 have m3:p.num=0→p.num * q.den=0:=fun h=>by rw [h,Int.zero_mul]
 have k1:q.num<0→q.num * p.den<0:=fun h=>Int.mul_neg_of_neg_of_pos h hp0
 have k2:0<q.num→0<q.num * p.den:=fun h=>Int.mul_pos h hp0
 have k3:q.num=0→q.num * p.den=0:=fun h=>by rw [h,Int.zero_mul]
 generalize p.num * q.den=c at *
 generalize q.num * p.den=d at *
 by_cases a1:p.num<0
 ·rw [if_pos a1] at h ⊢
  by_cases a3:q.num<0
  ·rw [if_pos a3] at h;exact absurd rfl h
  ·rw [if_neg a3] at h ⊢
   have:(if q.num=0 then (0:Int) else 1) > -1:=by split<;>decide
   rw [if_pos this,if_pos]
   omega
 ·rw [if_neg a1] at h ⊢
  by_cases a2:p.num=0
  ·rw [if_pos a2] at h ⊢
   by_cases a3:q.num<0
   ·rw [if_pos a3,if_neg (show ¬c<d by omega),if_neg (show ¬c=d by omega),if_neg (by decide)]
   ·rw [if_neg a3] at h ⊢
    by_cases a4:q.num=0
    ·rw [if_pos a4] at h;exact absurd rfl h
    ·rw [if_neg a4,if_pos (show c<d by omega),if_pos (by decide)]
  ·rw [if_neg a2] at h ⊢
   by_cases a3:q.num<0
   ·rw [if_pos a3,if_neg (show ¬c<d by omega),if_neg (show ¬c=d by omega),if_neg (by decide)]
   ·rw [if_neg a3] at h ⊢
    by_cases a4:q.num=0
    ·rw [if_pos a4,if_neg (show ¬c<d by omega),if_neg (show ¬c=d by omega),if_neg (by decide)]
    ·rw [if_neg a4] at h;exact absurd rfl h
theorem TB {p q:Rat} (hp:Jj p) (hq:Jj q) : Fs (ofQ p) (ofQ q)=some (D9 p q):=by
 unfold Fs
 refine Fl (Wn (ED hp) (ED hq)) ?_
 rw [Oh hp hq,if_pos rfl]
 refine Fl (Va hp) (Fl (Va hq) ?_)
 have s1:=SF (Ts hp) (show 32≤4000 by decide)
 have s2:=SF (Ts hq) (show 32≤4000 by decide)
 by_cases h:D9 p 0=D9 q 0
 ·rw [if_neg (by simp [h]),if_pos h]
  refine Fl (L9 p) (Fl (L9 q) (Fl (SP s1 s2) (Fl (L9 q) (Fl (L9 p) (Fl (SP s2 s1) (Fl (PT ?_ ?_) ?_))))))
  ·exact nT (QY (Ts hp) (Ts hq)) (by decide)
  ·exact nT (QY (Ts hq) (Ts hp)) (by decide)
  ·rw [Tp h,C2]<;>rcases Oi p q with h|h|h<;>rw [h]<;>decide
 ·rw [if_neg h,Tf h]
  by_cases h2:D9 p 0<D9 q 0
  ·rw [if_pos (by simp [h,h2]),if_pos h2]
  ·rw [if_neg (by simp [h2]),if_neg h2]
theorem Q9 {m n:Nat} (hm:(Ab m).length≤400000) (hn:(Ab n).length≤400000) : MX (Ab m) (Ab n)=some (Ab (m * n)):=by
 have:MX (Ab m) (Ab n)=some (Ab (val (Ab m) * val (Ab n))):=if_pos (by rw [Bool.and_eq_true];exact ⟨CG hm,CG hn⟩)
 rw [this,Ar,Ar]
theorem VW {m n:Nat} (hm:(Ab m).length≤500000) (hn:(Ab n).length≤500000) : SE (Ab m) (Ab n)=some (Ab (m+n)):=by
 have:SE (Ab m) (Ab n)=some (Ab (val (Ab m)+val (Ab n))):=if_pos (by rw [Bool.and_eq_true];exact ⟨CG hm,CG hn⟩)
 rw [this,Ar,Ar]
theorem OU {m n:Nat} (hm:(Ab m).length≤500000) (hn:(Ab n).length≤500000) : I8 (Ab m) (Ab n)=some (Dw m n):=by
 have:I8 (Ab m) (Ab n)=some (Dw (val (Ab m)) (val (Ab n))):=if_pos (by rw [Bool.and_eq_true];exact ⟨CG (by omega),CG (by omega)⟩)
 rw [this,Ar,Ar]
theorem MR {m n:Nat} (hm:(Ab m).length≤500000) (hn:(Ab n).length≤500000) : J3 (Ab m) (Ab n)=some (Ab (KP m n),decide (n≤m)):=by
 have:J3 (Ab m) (Ab n)=some (Ab (KP (val (Ab m)) (val (Ab n))),decide (val (Ab n)≤val (Ab m))):=if_pos (by rw [Bool.and_eq_true];exact ⟨CG hm,CG hn⟩)
 rw [this,Ar,Ar]
def Rb (a:Nat) (c:Bool) (b:Nat) (d:Bool) : Nat×Bool:=if c=d then (a+b,c) else if b≤a then (a-b,c) else (b-a,d)
theorem Tq {a b:Nat} (c d:Bool) (ha:(Ab a).length≤500000) (hb:(Ab b).length≤500000) : D2 (Ab a) c (Ab b) d=some (Ab (Rb a c b d).1,(Rb a c b d).2):=by
 unfold D2 Rb
 by_cases h:c=d
 ·subst h
  rw [if_pos (by simp),if_pos rfl,VW ha hb];rfl
 ·rw [if_neg (by simpa using h),if_neg h,OU ha hb,oB]
  by_cases h2:b≤a
  ·have:0≤Dw a b:=by unfold Dw;rw [if_neg (by omega)];split<;>decide
   rw [if_pos this,if_pos h2,MR ha hb,oB,KP,if_pos h2]
  ·have:¬0≤Dw a b:=by unfold Dw;rw [if_pos (by omega)];decide
   rw [if_neg this,if_neg h2,MR hb ha,oB,KP,if_pos (by omega)]
theorem YM {a b:Nat} {k:Nat} (ha:(Ab a).length≤k) (hb:(Ab b).length≤k) : (Ab (a * b)).length≤2 * k:=by
 have:=Mg (AH a) (AH b) ha hb
 rwa [Ar,Ar] at this
theorem TI {a b:RT} (ha:F8 a=true) (hb:F8 b=true) {β:Type} (f:Bool→Option β) : ((Ez a).bind fun x1=>Option.bind (if x1=true then ((Ez b).bind fun x3=>some (!x3)) else some true) f)=f (!(A9 a&&A9 b)):=by
 rw [Hy ha,oB]
 cases h:A9 a with
 | false=>rfl
 | true=>rw [if_pos rfl,Hy hb];rfl
end Go.FL
namespace Go.FL
open Go Go.RowKit
section
variable {P:Program} {C:Cx} {X:Snap} {o:Oper} {ops:Array Oper} {Q:Exit→Env→Ac→Prop} {env env':Env} {H H':Ac} {a:Act} {w w':World} {I I':Nat→Prop} {μ μ':List Nat} {O O':Nat→Option Loc}
 {K:Env→Ac→Prop} {k:Nat} {l:List Oper}
theorem V8 {blk:Nat} {u0 u1 v0 v1:Value} {e:TypeId} (h:w.heap[blk]?=some (.cells #[u0,u1] e (0,0))) : w.setRow blk #[v0,v1]=(w.setCell ⟨blk,0,none⟩ v0).setCell ⟨blk,1,none⟩ v1:=by
 obtain ⟨hlt,hv⟩:=Array.getElem?_eq_some_iff.1 h
 have e1:w.heap.modify blk (fun|.cells _ elem frozen=>.cells #[v0,v1] elem frozen|o=>o)=(w.heap.modify blk (fun|.cells c elem frozen=>.cells (c.setIfInBounds 0 v0) elem frozen|o=>o)).modify blk (fun|.cells c elem frozen=>.cells (c.setIfInBounds 1 v1) elem frozen|o=>o):=by
  apply Array.ext
  ·simp
  ·intro i h1 h2
   simp only [Array.getElem_modify]
   by_cases hi:blk=i
   ·subst hi;simp only [if_true,hv];simp
   ·simp only [if_neg hi]
 unfold World.setRow World.setCell
 simp only [Option.isSome_none,Bool.false_eq_true,if_false]
 exact congrArg (fun x=>({w with heap:=x}:World)) e1
theorem bdo {ty s t e:Nat} {parts:Array (Nat×Operand)} {places:List (Nat×Nat)} {z:Value} {xs:List DV} (hp:CU P ty=some places) (hz:(P.info? ty).bind (·.zero)=some z) (hzr:z=.agg #[.slice none 0 0,.slice none 0 0]) (h:RL P C ops Q (k+1) l ((t,.ag [.own e xs,.nl])::(s,.un)::env) H)
  (hpl:places=[(0,1),(1,1)]:=by rfl) (hg:grd ops env o true=true:=by rfl) (ho:o.op=.build ty parts:=by rfl) (hpa:parts=#[(0,.tmp s)]:=by rfl) (hv:get env s=.own e xs:=by rfl) (hd:o.dst=some t:=by rfl)
  (hf:Ao (get env t)=false:=by rfl) (hr:De s env=false:=by rfl) (ht:okT C.nt t:=by rfl):RL P C ops Q k (o::l) env H:=by
 have hst:=FR hv hf
 subst hpl hzr
 refine .go hg (.val (t:=t) (av:=.ag [.own e xs,.nl]) (env':=put env s .un) (H':=H) (by simp [ho]) hd ht (fun X a w I μ O _ _ _ hs=>?_) ?_)
 ·obtain ⟨k1,bs,k2,k3,k4⟩:=hs.take s (by rw [hv];rfl)
  rw [hv] at k2
  have hb:P.built ty [(0,a.tmps.getD s undef)]=some #[a.tmps.getD s undef,.slice none 0 0]:=by
   unfold CU at hp
   unfold Program.built
   cases hi:P.info? ty with
   | none=>rw [hi] at hz;cases hz
   | some it =>
    rw [hi] at hz
    simp only [oB] at hz
    split at hp
    ·rename_i fields hu
     simp only [hu,hz,hp]
     have hone:∃ A n c,a.tmps.getD s undef=.slice A n c:=by
      generalize a.tmps.getD s undef=u at k2
      cases k2 with
      | own _ _ _ vs hsz ho' hr' =>
       rcases ho' with ⟨A,h1,_⟩|⟨_,g,cap,h1,_⟩<;>exact ⟨_,_,_,h1⟩
     obtain ⟨A,n,c,hu3⟩:=hone
     rw [hu3]
     simp [Instr.fill,Value.cells]
    ·cases hp
  refine ⟨.agg #[a.tmps.getD s undef,.slice none 0 0],w,I,μ,_,?_,k1,bs,?_,k3,k4⟩
  ·simp only [execOp,ho,hpa,Sem.run_bind]
   have:=run_build (P:=P) w ty #[(0,a.tmps.getD s undef)] #[a.tmps.getD s undef,.slice none 0 0] (by simpa using hb)
   simp only [List.map_toArray,List.map_cons,List.map_nil,Act.eval]
   rw [this]
   simp only [Result.andThen_ok,Sem.run_pure]
  ·have:=ARep.ag (ARepAll.cons k2 (ARepAll.cons (.nl (P:=P) (w:=w) (I:=I) (μ:=μ)) .nil))
   simpa using this
 ·refine RL.gh (Gh.same fun q=>?_) h
  have h1:Ao (get (put env s .un) t)=false:=by rw [Dg hr];simp [get,hst,hf]
  rw [Ak h1]
  simp only [get]
  split
  ·rfl
  ·rw [Dg hr];rfl
theorem st2 {x:Operand} {r ty id:Nat} {c0 c1 a0 a1:AV} (hH:H[id]?=some (.box [c0,c1])) (h:RL P C ops Q (k+1) l ((r,.un)::env) (H.set id (.box [a0,a1]))) (hsz:AA P ty=2) (hg:grd ops env o true=true:=by rfl)
  (ho:o.op=.store ty x (.tmp r):=by rfl) (hv:lk env x=.bp id 0:=by rfl) (hy:get env r=.ag [a0,a1]:=by rfl) (n0:Ao c0=false:=by rfl) (n1:Ao c1=false:=by rfl) (m0:one a0=true:=by rfl) (m1:one a1=true:=by rfl) (hd:o.dst=none:=by rfl) (h0:C.n0=0:=by rfl):RL P C ops Q k (o::l) env H:=by
 obtain ⟨h1,h2⟩:=Av hv (by simp)
 have hlt:id<H.length:=(lS.1 hH).1
 refine .go hg (.done (env':=put env r .un) (H':=H.set id (.box [a0,a1])) (by simp [ho]) hd (fun X a w I μ O _ g2 _ hs=>?_) ?_)
 ·obtain ⟨blk,hm,he⟩:=hs.bp h1 h2
  obtain ⟨k1,bs,k2,k3,k4⟩:=hs.take r (by rw [hy];rfl)
  rw [hy] at k2
  generalize hev:a.tmps.getD r undef=u at k2
  cases k2 with
  | @ag _ vs _ k2 =>
   cases k2 with
   | @cons _ v0 _ _ b0 b1' q0 k2 =>
    cases k2 with
    | @cons _ v1 _ _ b1 b2 q1 k2 =>
     cases k2
     rw [List.append_nil] at k3 k4
     obtain ⟨d0,d1,d2⟩:=List.nodup_append.1 k3
     obtain ⟨s1,⟨y1,w1⟩,f1⟩:=k1.storeC (off:=0) hH rfl hm (by omega) q0 d0 fun b hb=>k4 b (by simp [hb])
     rw [n0] at s1
     have e1:D8 H id 0 a0=H.set id (.box [a0,c1]):=by simp [D8,hH]
     rw [e1] at s1
     have hH1:(H.set id (.box [a0,c1]))[id]?=some (.box [a0,c1]):=List.getElem?_set_self hlt
     have q1':ARep P (w.setCell ⟨blk,0,none⟩ v0) I μ a1 v1 b1:=by
      obtain ⟨blk',bs',g1,⟨cells,et,g3,g4⟩,g5,_⟩:=k1.heap id _ hH
      rw [hm] at g1;cases g1
      have hOb:=(g5 (by omega)).2 blk (by simp)
      refine q1.keep (fun _ h=>h) (fun b hi=>heap_setCell_other w _ b v0 fun e=>?_) (fun _ _ h=>h) fun b hb=>heap_setCell_other w _ b v0 fun e=>?_
      ·have e':b=blk:=e
       subst e';exact (k1.own _ _ hOb).2 hi
      ·have e':b=blk:=e
       subst e'
       have h7:(O b).map (toR r)=some .r:=k4 b (by simp [hb])
       have h8:(O b).map (toR r)=some (.o id):=hOb
       rw [h7] at h8;cases h8
     obtain ⟨s2,⟨y2,w2⟩,f2⟩:=s1.storeC (off:=1) hH1 rfl hm (by omega) q1' d1 fun b hb=>by
      show (if b∈b0 then _ else _)=_
      rw [if_neg fun hm=>d2 b hm b hb rfl];exact k4 b (by simp [hb])
     rw [n1] at s2
     have e2:D8 (H.set id (.box [a0,c1])) id 1 a1=H.set id (.box [a0,a1]):=by simp [D8,hH1]
     rw [e2] at s2
     refine ⟨_,I,μ,_,?_,s2⟩
     obtain ⟨blk',bs',g1,⟨cells,et,g3,g4⟩,g5,_⟩:=k1.heap id _ hH
     rw [hm] at g1;cases g1
     have hcl:cells.toList.length=2:=g4.length.symm
     obtain ⟨u0,u1,hcc⟩:∃ u0 u1,cells=#[u0,u1]:=by
      obtain ⟨l⟩:=cells
      match l,hcl with
      | [x,y],_=>exact ⟨x,y,rfl⟩
     rw [hcc] at g3
     have hone0:=HD q0 m0
     have hone1:=HD q1 m1
     obtain ⟨i,i1,i2⟩:=G4 (P:=P) (t:=ty) (by omega)
     have hsi:(P.info? ty).map (·.size)=some (#[v0,v1]:Array Value).size:=by rw [i1];simp;omega
     have hrun:=run_storeVar_row (P:=P) w blk et ty #[u0,u1] #[v0,v1] g3 hsi rfl (by simp [hone0,hone1])
     have hevr:a.eval (.tmp r)=.agg #[v0,v1]:=by show a.tmps.getD r undef=_;rw [hev]
     simp only [execOp,ho,he,hevr,Instr.storeAt,Instr.sureAddr,Sem.run_bind,Sem.run_pure,Result.andThen_ok,hrun]
     rw [V8 g3]
 ·refine RL.gh (Gh.same fun q=>?_) h
  rw [Ak (by rw [hy];rfl)]
section
variable {nt:Nat×Nat} {J:JT} {ags:List Value} {QJ:Exit→Env→Ac→Nat→Prop} {n:Nat}
end
end
end Go.FL
namespace Go.FL
open Go Go.Proofs
section
variable {S:Type}
def UA (step:Itm→S→Option (Bool×S)) : List Itm→S→Option (Bool×S)
 | [],s=>some (true,s)
 | x::xs,s=>(step x s).bind fun r=>if r.1=true then UA step xs r.2 else some (false,r.2)
end
def YO {S:Type} (step:Itm→S→Option (Bool×S)) (a:Arr) (s:S) : Option (Bool×S) :=
 (Bu a).bind fun x1=>if x1=true then (if ((List.length a.shape:Nat):Int)≤1 then (DX a).bind fun l=>if l.length≤9223372036854775806 then UA step l s else none else some (false,s)) else some (false,s)
def Px (x:Itm) (s:List Int) : Option (Bool×List Int):=(M7 x.num).bind fun y=>(ap? 17592186044416 s [y.1]).bind fun o=>some (y.2&&decide (x.kind=1),o)
def MY (a:Arr) : Option (List Int×Bool):=(YO Px a []).map fun r=>if r.1=true then (r.2,true) else ([],false)
def V7 (x:Itm) : DV:=.ag [.i .u8 x.kind,.b x.num.1,.sl (L x.num.2.1),.sl (L x.num.2.2),.i .i32 x.char,.sl (Ars x.box)]
def Ir : List Int→Option (List Itm)
 | []=>some []
 | n::ns=>(Ec n).bind fun q=>(Ce q).bind fun x=>(Ir ns).bind fun xs=>some (x::xs)
theorem QW : ∀ {l:List Int} {xs:List Itm},Ir l=some xs→xs.length=l.length∧∀ (i:Nat) n,l[i]?=some n→∃ q x,Ec n=some q∧Ce q=some x∧xs[i]?=some x:=by
 intro l
 induction l with
 | nil=>intro xs h;cases h;exact ⟨rfl,fun i n hn=>by simp at hn⟩
 | cons m ns ih =>
  intro xs h
  rw [Ir] at h
  obtain ⟨q,hq,h⟩:=bnd h
  obtain ⟨x,hx,h⟩:=bnd h
  obtain ⟨ys,hy,h⟩:=bnd h
  cases h
  obtain ⟨h1,h2⟩:=ih hy
  refine ⟨by simp [h1],fun i n hn=>?_⟩
  cases i with
  | zero=>simp at hn;subst hn;exact ⟨q,x,hq,hx,rfl⟩
  | succ i=>simpa using h2 i n (by simpa using hn)
def itY (xs:List Itm) : List (List DV):=xs.map fun x=>[V7 x]
theorem X9 {xs:List Itm} {i:Nat} {x:Itm} (h:xs[i]?=some x) : (itY xs)[i]?=some [V7 x]:=by simp [itY,h]
set_option maxRecDepth 10000 in
theorem Vi {l:List Int} {xs:List Itm} (h:Ir l=some xs) (hl:l.length≤9223372036854775806) (m:Nat) : ItG Tryz.prog 53 [.ptr [.sl (Is l)]] (itY xs) m:=by
 obtain ⟨hlen,hat⟩:=QW h
 have hyl:(itY xs).length=l.length:=by simp [itY,hlen]
 refine ItG.of Tryz.func53 rfl rfl (nt:=18) rfl (by simp) fun lp J hJ hR=>?_;refine .seq ?_;refine .lift ?_;refine .region ?_;refine vk (Am CS) ?_;refine vk (A8 (Ai _) (CT _) Cu) ?_;refine vk (Ae) ?_;refine .nil ?_
 show AWJ _ _ _ _ _ _ _ _ _
 refine .block ?_;refine ALJ.loop ?_;refine ALJ.gh (Gh.keep [0,5,6,7] rfl) ?_
 refine ALJ.ind (σ:=Nat) (m:=fun i=>l.length-i) (e:=fun i=>[(0,.d (.yl lp)),(5,.d (.sl (Is l))),(6,.d (.i .i64 ((List.length l:Nat):Int))),(7,.d (.i .i64 ((i:Nat):Int)))]) (h:=fun _=>[]) (r:=fun i=>i) (I:=fun i=>i≤l.length∧i≤m) ?_ 0 ⟨Nat.zero_le _,Nat.zero_le _⟩
 rintro i ⟨hi,him⟩ ih
 refine .seq ?_;refine .lift ?_;refine .region ?_;refine vk (vbi) ?_;refine .nil ?_
 show AWJ _ _ _ _ _ _ _ _ _
 refine .seq ?_
 by_cases hc:((i:Nat):Int)<((List.length l:Nat):Int)
 ·refine .cond (x:=true) (by show AV.d (.b (decide _))=_;rw [dT hc]) (fun _=>?_) (fun h=>by cases h)
  have hlt:i<l.length:=by omega
  obtain ⟨q,x,hq,hx,hxi⟩:=hat i _ (lG hlt)
  refine .skip ?_
  show AWJ _ _ _ _ _ _ _ _ _
  refine .seq ?_;refine .block ?_;refine .seq ?_;refine .lift ?_;refine .region ?_;refine vk (vix i rfl (BC (lG hlt)) rfl Bo) ?_;refine vk (Am AS) ?_;refine asd ?_;refine .nil ?_
  show AWJ _ _ _ _ _ _ _ _ _
  refine .seq ?_;refine .region ?_;refine vkJ (Ae) ?_;refine vkJ (Ae) ?_;refine vkJ (Ah (Ev hq) Tryz.call37) ?_;refine vkJ (Ah (En hx) Tryz.call36) ?_;refine yld (hR i [V7 x] (X9 hxi) him) hJ ?_;refine vkJ (vnt) ?_;refine .nil ?_
  show AWJ _ _ _ _ _ _ _ _ _
  by_cases hm:i<m
  ·refine .cond (x:=false) (by show AV.d (.b (!decide _))=_;rw [dT hm];rfl) (fun h=>by cases h) (fun _=>?_)
   refine .skip ?_
   show AWJ _ _ _ _ _ _ _ _ _
   refine .lift ?_;refine .region ?_;refine vk (vbi) ?_;refine vk (Ae) ?_;refine .nil ?_
   show ALJ _ _ _ _ _ _ _ _ _
   have hw:IntKind.wrap .i64 ((i:Int)+1)=((i+1:Nat):Int):=by simp only [IntKind.wrap,IntKind.bits,IntKind.signed];simp;omega
   rw [hw]
   refine ALJ.gh (Gh.keep [0,5,6,7] rfl) ?_
   exact ih (i+1) ⟨hlt,hm⟩ (by omega)
  ·refine .cond (x:=true) (by show AV.d (.b (!decide _))=_;rw [dF hm];rfl) (fun _=>?_) (fun h=>by cases h)
   refine .ret ?_
   exact ⟨.inr rfl,by rw [hyl];omega⟩
 ·refine .cond (x:=false) (by show AV.d (.b (decide _))=_;rw [dF hc]) (fun h=>by cases h) (fun _=>?_)
  refine .exit ?_
  exact ⟨.inl rfl,by rw [hyl];omega⟩
def P7 (proto:Itm) (xs:List Itm) : Arr:=.mk [((min xs.length 4096:Nat) : Int)] (if xs.length=0 then [proto] else xs.take 4096)
abbrev Zk (xs:List Itm) (n:Nat) : Ac:=[.box [.own 3 (Is [((n:Nat) : Int)]),.own 51 (Its (xs.take n))]]
theorem V0 : 0<AA Tryz.prog 51:=by rw [RP];decide
set_option maxRecDepth 10000 in
set_option maxHeartbeats 4000000 in
theorem Ty {proto:Itm} {xs:List Itm} {f:FuncId} {caps:List DV} (hcall:∀ args w,(callFunc f args).run Tryz.prog w=.ok (.enter f args) w) (hit:ItG Tryz.prog f caps (itY xs) 4096) :
  Fn Tryz.prog 52 [V7 proto,.fn f [] caps] (.d (.ag [.sl (Is (P7 proto xs).shape),.sl (Its (P7 proto xs).items)])):=by
 refine Fn.ofMA (rs:=[.cell 4 27]) (nt:=37) Tryz.func52 rfl rfl rfl (by simp) rfl ?_;refine .seqA ?_;refine .region ?_;refine vk (vbx (cs:=[.i .u8 proto.kind,.b proto.num.1,.sl (L proto.num.2.1),.sl (L proto.num.2.2),.i .i32 proto.char,.sl (Ars proto.box)])) ?_;refine vk (van (Ap A3) Bg) ?_;refine .nil ?_
 show AWM _ _ _ _ _ _
 refine .seqA ?_;refine .region ?_;refine vk (Hk (ds':=Is [0]) rfl (GM [0]) Hf) ?_;refine bdo Dd A3 rfl ?_
 refine al ?_ (Ap A3) (fun w I μ=>PJ w I μ)
 refine st2 (c0:=.nl) (c1:=.nl) rfl ?_ Ad
 refine .nil ?_
 show AWM _ _ _ _ _ _
 refine .gh (Gh.keep [1,2,4,5] rfl) ?_;refine .gh (Gh.nlOwnC (id:=0) (off:=1) 51 V0) ?_;refine .seq rfl ?_;refine .seqA ?_;refine .region ?_;refine vk (Ae) ?_;refine .nil ?_
 show AWM _ _ _ _ _ _
 refine .block ?_
 refine AWM.rangeFuncG (ps:=[10]) (f:=f) (caps:=caps) (ys:=itY xs) (m:=4096) (e1:=.exit 0) rfl rfl rfl hcall hit (fun ds hd=>?_) (fun p hp=>?_) rfl (fun k H=>H=Zk xs (min k 4096)) rfl (.inl ⟨0,rfl⟩) (fun l k ds H hk hkm hH=>?_) (fun H hH=>?_)
 ·simp only [itY,List.mem_map] at hd
  obtain ⟨x,_,rfl⟩:=hd;rfl
 ·simp only [List.mem_cons,List.not_mem_nil,or_false] at hp;subst hp;rfl
 ·subst hH
  simp only [itY,List.getElem?_map,Option.map_eq_some_iff] at hk
  obtain ⟨x,hx,rfl⟩:=hk
  rw [Nat.min_eq_left hkm]
  refine .region ?_;refine vk (van (Ap CN) CQ) ?_
  refine stn ?_ As (by decide)
  refine .nil ?_;refine aw ?_;refine .block ?_;refine .seq ?_;refine .seq ?_;refine .region ?_;refine vk (Ha Bh) ?_
  refine Pf (cs:=[.own 3 (Is [((k:Nat):Int)]),.own 51 (Its (xs.take k))]) rfl rfl ?_ CS
  refine ixr (len:=1) (xs:=Is [((k:Nat):Int)]) 0 rfl (by decide) ?_ Bo (by decide)
  refine lde (xs:=Is [((k:Nat):Int)]) (.i .i64 ((k:Nat):Int)) ⟨_,rfl,rfl⟩ ?_ AS
  refine vk (vbi) ?_;refine rn ?_
  by_cases hm:((k:Nat):Int)=4096
  ·refine cnt (dT hm) ?_
   refine .exit ?_
   have hk4:k=4096:=by omega
   subst hk4
   exact ⟨rfl,rfl⟩
  refine cnf (dF hm) ?_
  have hlt:k<4096:=by omega
  have hkl:k<xs.length:=(lS.1 hx).1
  refine .skip ?_;refine aw ?_;refine .gh (Gh.keep [5,6] rfl) ?_;refine .seq ?_;refine .region ?_;refine vk (Ha AY) ?_
  refine Pf (cs:=[.own 3 (Is [((k:Nat):Int)]),.own 51 (Its (xs.take k))]) rfl rfl ?_ BR
  refine vk (E2 AB As) ?_;refine vk (Hk (HV x) (F4 [x]) Ge) ?_
  have hap:ap? 1466015503701 (xs.take k) [x]=some (xs.take (k+1)):=by
   rw [ap?,if_pos (by simp;omega),List.take_add_one,hx];rfl
  refine Xc Pg hap rfl rfl RZ ?_ Mi AC Ge
  refine RL.gh (Gh.keep [5,6,20] rfl) ?_;refine vk (Ha AY) ?_
  refine Qs (cs:=[.own 3 (Is [((k:Nat):Int)]),.un]) (c:=.un) rfl rfl ?_ KI
  refine rn ?_;refine .gh (Gh.keep [5] rfl) ?_;refine .region ?_;refine vk (Ha Bh) ?_
  refine Pf (cs:=[.own 3 (Is [((k:Nat):Int)]),.own 51 (Its (xs.take (k+1)))]) rfl rfl ?_ CS
  refine ixr (len:=1) (xs:=Is [((k:Nat):Int)]) 0 rfl (by decide) ?_ Bo (by decide)
  refine lde (xs:=Is [((k:Nat):Int)]) (.i .i64 ((k:Nat):Int)) ⟨_,rfl,rfl⟩ ?_ AS
  refine vk (vbi) ?_
  refine ixr (len:=1) (xs:=Is [((k:Nat):Int)]) 0 rfl (by decide) ?_ Bo (by decide)
  refine ste (xs:=Is [((k:Nat):Int)]) ⟨_,rfl,rfl⟩ ?_ D7 (hn:=fun _ _ _=>Nat.zero_le _)
  refine .nil ?_
  have hw:IntKind.wrap .i64 ((k:Int)+1)=((k+1:Nat):Int):=by simp only [IntKind.wrap,IntKind.bits,IntKind.signed];simp;omega
  refine ⟨by rw [if_pos hlt],?_⟩
  rw [Nat.min_eq_left (by omega:k+1≤4096)]
  show [HO.box [AV.own _ [.i .i64 (IntKind.wrap .i64 ((k:Int)+1))],_]]=_
  rw [hw];rfl
 ·have hlen:(itY xs).length=xs.length:=by simp [itY]
  rw [hlen] at hH ⊢
  have hn:min (min (4096+1) xs.length) 4096=min xs.length 4096:=by omega
  rw [hn] at hH
  subst hH
  by_cases hb:4096<xs.length
  case' pos=>rw [if_pos hb]
  case' neg=>rw [if_neg hb]
  all_goals
   show AWM _ _ _ _ _ _
   refine .lift ?_;refine .gh (Gh.keep [2,4,5] rfl) ?_;refine .seq ?_;refine .seq ?_;refine .region ?_;refine vk (Ha Bh) ?_
   refine Pf (cs:=[.own 3 (Is [((min xs.length 4096:Nat):Int)]),.own 51 (Its (xs.take (min xs.length 4096)))]) rfl rfl ?_ CS
   refine ixr (len:=1) (xs:=Is [((min xs.length 4096:Nat):Int)]) 0 rfl (by decide) ?_ Bo (by decide)
   refine lde (xs:=Is [((min xs.length 4096:Nat):Int)]) (.i .i64 ((min xs.length 4096:Nat):Int)) ⟨_,rfl,rfl⟩ ?_ AS
   refine vk (vbi) ?_;refine rn ?_;refine .gh (Gh.keep [2,4,5,32] rfl) ?_
   by_cases h0:((min xs.length 4096:Nat):Int)=0
   ·have hx0:xs.length=0:=by omega
    refine cnt (dT h0) ?_;refine .region ?_;refine vk (Aq AB As) ?_;refine vk (Hk (HV proto) (F4 [proto]) Ge) ?_;refine vk (Ha AY) ?_
    refine Qs (cs:=[.own 3 (Is [((min xs.length 4096:Nat):Int)]),.own 51 (Its (xs.take (min xs.length 4096)))]) (c:=.own 51 (Its (xs.take (min xs.length 4096)))) rfl rfl ?_ KI
    refine .nil ?_;refine aw ?_;refine .gh (Gh.keep [4,5] rfl) ?_;refine .seq ?_;refine .region ?_;refine fz (p:=.c 0 0) ?_;refine fz (p:=.c 0 1) ?_;refine vk (JP (cs:=[.d (.sl (Is [((min xs.length 4096:Nat):Int)])),.d (.sl (Its [proto]))]) (ds:=[.sl (Is [((min xs.length 4096:Nat):Int)]),.sl (Its [proto])]) rfl Al Ad) ?_
    refine stn ?_ Ad (by decide)
    refine rn ?_;refine .ret ?_
    exact ⟨.inr rfl,.inl ⟨_,⟨.inr rfl,Al,Ad,(by decide:(0:Nat)<2)⟩,by simp only [P7,if_pos hx0];rfl⟩⟩
   ·have hx0:¬xs.length=0:=by omega
    refine cnf (dF h0) ?_;refine .skip ?_;refine aw ?_;refine .gh (Gh.keep [4,5] rfl) ?_;refine .seq ?_;refine .region ?_;refine fz (p:=.c 0 0) ?_;refine fz (p:=.c 0 1) ?_;refine vk (JP (cs:=[.d (.sl (Is [((min xs.length 4096:Nat):Int)])),.d (.sl (Its (xs.take (min xs.length 4096))))]) (ds:=[.sl (Is [((min xs.length 4096:Nat):Int)]),.sl (Its (xs.take (min xs.length 4096)))]) rfl Al Ad) ?_
    refine stn ?_ Ad (by decide)
    refine rn ?_;refine .ret ?_
    have ht:xs.take (min xs.length 4096)=xs.take 4096:=by
     rcases Nat.le_total xs.length 4096 with h|h
     ·rw [Nat.min_eq_left h,List.take_of_length_le (Nat.le_refl _),List.take_of_length_le h]
     ·rw [Nat.min_eq_right h]
    exact ⟨.inr rfl,.inl ⟨_,⟨.inr rfl,Al,Ad,(by decide:(0:Nat)<2)⟩,by simp only [P7,if_neg hx0,ht];rfl⟩⟩
def KZ (l:List Int) : Option Arr:=if l.length≤9223372036854775806 then (Ir l).bind fun xs=>(Ec 0).bind fun q=>(Ce q).bind fun p=>some (P7 p xs) else none
theorem Hi {l:List Int} {r:Arr} (h:KZ l=some r) : Fn Tryz.prog 15 [.sl (Is l)] (.d (.ag [.sl (Is r.shape),.sl (Its r.items)])):=by
 obtain ⟨hl,h⟩:=DH h
 obtain ⟨xs,hxs,h⟩:=bnd h
 obtain ⟨q,hq,h⟩:=bnd h
 obtain ⟨p,hp,h⟩:=bnd h
 cases h
 refine Fn.ofC (rs:=[.cell 2 27]) (nt:=7) Tryz.func15 rfl rfl rfl (by simp) rfl ?_;refine .sr ?_;refine vk (XO) ?_;refine vk (van (Ap A3) Bg) ?_;refine rn ?_;refine .sr ?_;refine vk (Ah (Ev hq) Tryz.call37) ?_;refine vk (Ah (En hp) Tryz.call36) ?_;refine vk (Y3) ?_;refine vk (Ah (Ty (proto:=p) Tryz.call53 (Vi hxs hl 4096)) Tryz.call52) ?_
 refine stn ?_ Ad (by decide)
 refine rn ?_;refine .ret ?_
 exact ⟨_,⟨.inr rfl,Al,Ad,p2⟩,rfl⟩
mutual
def tyI : Itm→Itm
 | .mk k _ _ b=>if k=1 then .mk 1 (ofQ 0) 0 [] else if k=2 then .mk 2 (false,[],[]) 32 [] else .mk 3 (false,[],[]) 0 (tyBs b)
def tyA : Arr→Arr
 | .mk s i=>.mk s (tyIs i)
def tyIs : List Itm→List Itm
 | []=>[]
 | x::xs=>tyI x::tyIs xs
def tyBs : List Arr→List Arr
 | []=>[]
 | a::_=>[tyA a]
end
theorem Fu (s:List Int) (i:List Itm) : (Arr.mk s i).shape=s:=rfl
theorem Ee (s:List Int) (i:List Itm) : (Arr.mk s i).items=i:=rfl
theorem ND (k:Int) (n:RT) (c:Int) (b:List Arr) : (Itm.mk k n c b).kind=k:=rfl
theorem Xf (k:Int) (n:RT) (c:Int) (b:List Arr) : (Itm.mk k n c b).num=n:=rfl
theorem Xq (k:Int) (n:RT) (c:Int) (b:List Arr) : (Itm.mk k n c b).char=c:=rfl
theorem Ue (k:Int) (n:RT) (c:Int) (b:List Arr) : (Itm.mk k n c b).box=b:=rfl
theorem U9 (xs:List Itm) : tyIs xs=xs.map tyI:=by induction xs with
 | nil=>simp [tyIs]
 | cons x xs ih=>simp [tyIs,ih]
theorem Iz (a:Arr) : tyA a=.mk a.shape (a.items.map tyI):=by cases a;simp only [tyA,U9];rfl
theorem Ff : ∀ {xs:List Itm},rIs xs=true↔∀ x∈xs,rI x=true
 | []=>by simp [rIs]
 | x::xs=>by simp [rIs,Ff (xs:=xs)]
theorem S2 : ∀ {xs:List Arr},rBs xs=true↔∀ a∈xs,AI a=false∧rA a=true
 | []=>by simp [rBs]
 | x::xs=>by simp [rBs,S2 (xs:=xs)]
theorem Dl {x:Itm} (h:rI x=true) : (x.kind=1∧A9 x.num=true∧x.char=0∧x.box=[])∨(x.kind=2∧chB x.char=true∧x.num=(false,[],[])∧x.box=[])∨(x.kind=3∧x.num=(false,[],[])∧x.char=0∧∃ a,x.box=[a]∧AI a=false∧rA a=true):=by
 rw [Mx] at h
 by_cases k1:x.kind=1
 ·rw [if_pos k1] at h;simp only [Bool.and_eq_true,decide_eq_true_eq] at h
  exact .inl ⟨k1,h.1,h.2.1,List.length_eq_zero_iff.1 h.2.2⟩
 rw [if_neg k1] at h
 by_cases k2:x.kind=2
 ·rw [if_pos k2] at h;simp only [Bool.and_eq_true,decide_eq_true_eq] at h
  exact .inr (.inl ⟨k2,h.1,(Mv x).1 h.2.1,List.length_eq_zero_iff.1 h.2.2⟩)
 rw [if_neg k2] at h
 by_cases k3:x.kind=3
 ·rw [if_pos k3] at h;simp only [Bool.and_eq_true,decide_eq_true_eq] at h
  obtain ⟨a,ha⟩:=List.length_eq_one_iff.1 h.1
  refine .inr (.inr ⟨k3,(Mv x).1 h.2.1,h.2.2.1,a,ha,S2.1 h.2.2.2 a (by simp [ha])⟩)
 ·rw [if_neg k3] at h;cases h
def WX (x:Itm) : Prop:=rI (tyI x)=true∧dI (tyI x)=dI x∧cI (tyI x)=cI x∧tyI (tyI x)=tyI x∧(tyI x).kind=x.kind∧okI (tyI x)
theorem RG {s:List Int} {i:List Itm} {f:Itm→Itm} (h:∀ x∈i,(f x).kind=x.kind) : AI (.mk s (i.map f))=AI (.mk s i):=by
 unfold AI
 match i with
 | []=>rfl
 | [x]=>simp only [Fu,Ee,List.map,h x (by simp)]
 | x::y::r=>rfl
theorem ST {f:Itm→Itm} : ∀ {i:List Itm},(∀ x∈i,cI (f x)=cI x)→cIs (i.map f)=cIs i
 | [],_=>rfl
 | x::xs,h=>by simp only [List.map,cIs];rw [h x (by simp),ST fun y hy=>h y (by simp [hy])]
theorem SS {f:Itm→Itm} : ∀ {i:List Itm},(∀ x∈i,dI (f x)=dI x)→dIs (i.map f)=dIs i
 | [],_=>rfl
 | x::xs,h=>by simp only [List.map,dIs];rw [h x (by simp),SS fun y hy=>h y (by simp [hy])]
theorem X4 {a:Arr} (oa:okAr a) (hr:rA a=true) (ih:∀ x∈a.items,WX x) : rA (tyA a)=true∧dA (tyA a)=dA a∧cA (tyA a)=cA a∧tyA (tyA a)=tyA a∧AI (tyA a)=AI a∧okAr (tyA a):=by
 have o:=(BE a).1 oa
 have hs:AI (tyA a)=AI a:=by
  rw [Iz,RG (fun x hx=>(ih x hx).2.2.2.2.1),Arr.eta]
 rw [Ik] at hr
 simp only [Bool.and_eq_true,decide_eq_true_eq] at hr
 refine ⟨?_,?_,?_,?_,hs,?_⟩
 ·rw [Ik,Iz]
  simp only [Fu,Ee,List.length_map,Bool.and_eq_true,decide_eq_true_eq]
  refine ⟨dT hr.1,hr.2.1,Ff.2 fun x hx=>?_⟩
  obtain ⟨y,hy,rfl⟩:=List.mem_map.1 hx
  exact (ih y hy).1
 ·rw [GX,GX,hs,Iz]
  simp only [Ee]
  rw [SS fun x hx=>(ih x hx).2.1]
 ·rw [H8,H8,Iz]
  simp only [Ee,List.length_map]
  rw [ST fun x hx=>(ih x hx).2.2.1]
 ·rw [Iz,Iz]
  simp only [Fu,Ee,List.map_map,Arr.mk.injEq,true_and]
  exact List.map_congr_left fun x hx=>(ih x hx).2.2.2.1
 ·rw [BE,Iz]
  simp only [Fu,Ee,List.length_map]
  refine ⟨o.1,o.2.1,o.2.2.1,fun x hx=>?_⟩
  obtain ⟨y,hy,rfl⟩:=List.mem_map.1 hx
  exact (ih y hy).2.2.2.2.2
theorem U2 (n:RT) (c:Int) (b:List Arr) : tyI (.mk 1 n c b)=.mk 1 (ofQ 0) 0 []:=by simp [tyI]
theorem Vd (n:RT) (c:Int) (b:List Arr) : tyI (.mk 2 n c b)=.mk 2 (false,[],[]) 32 []:=by simp [tyI]
theorem Vw (n:RT) (c:Int) (a:Arr) : tyI (.mk 3 n c [a])=.mk 3 (false,[],[]) 0 [tyA a]:=by simp [tyI,tyBs]
theorem SV {r:RT} (h:F8 r=true) : okI (.mk 1 r 0 []):=by
 simp [okI,okAs,h]
theorem VE {c:Int} (h:chB c=true) : okI (.mk 2 (false,[],[]) c []):=by
 simp only [chB,Bool.and_eq_true,decide_eq_true_eq] at h
 refine ⟨by omega,rfl,by omega,by simp,trivial⟩
theorem W5 {a:Arr} (h:okAr a) : okI (.mk 3 (false,[],[]) 0 [a]):=⟨by omega,rfl,by omega,by simp,h,trivial⟩
theorem VG {r:RT} (h:A9 r=true) : rI (.mk 1 r 0 [])=true:=by simp [rI,h]
theorem WZ {c:Int} (h:chB c=true) : rI (.mk 2 (false,[],[]) c [])=true:=by simp [rI,h,Cv,Itm.num]
theorem Yg {a:Arr} (h:rA a=true) (hs:AI a=false) : rI (.mk 3 (false,[],[]) 0 [a])=true:=by simp [rI,rBs,h,hs,Cv,Itm.num]
theorem VJ : ∀ (k:Nat) {x:Itm},x.size<k→okI x→rI x=true→WX x
 | 0,x,h,_,_=>by omega
 | k+1,x,h,ho,hr=>by
  have hc:=Dl hr
  cases x with
  | mk kd n c b =>
   simp only [ND,Xf,Xq,Ue] at hc
   unfold WX
   rcases hc with ⟨rfl,h1,rfl,rfl⟩|⟨rfl,h1,rfl,rfl⟩|⟨rfl,rfl,rfl,a,rfl,h2,h3⟩
   ·rw [U2,U2]
    exact ⟨VG (FX Lf),rfl,rfl,rfl,rfl,SV (ED Lf)⟩
   ·rw [Vd,Vd]
    exact ⟨WZ rfl,rfl,rfl,rfl,rfl,VE rfl⟩
   ·have hb:a∈Itm.box (.mk 3 (false,[],[]) 0 [a]):=by simp [Itm.box]
    have hz:=FY hb
    have oa:okAr a:=((DA _).1 ho).2.2.2.2 a hb
    have h3':=h3
    rw [Ik] at h3';simp only [Bool.and_eq_true] at h3'
    obtain ⟨p1,p2,p3,p4,p5,p6⟩:=X4 oa h3 fun y hy=>VJ k (by have:=HN hy;omega) (((BE a).1 oa).2.2.2 y hy) (Ff.1 h3'.2.2 y hy)
    rw [Vw,Vw,p4]
    refine ⟨Yg p1 (by rw [p5,h2]),?_,?_,rfl,rfl,W5 p6⟩
    ·simp only [dI,dBs,p2]
    ·simp only [cI,cBs,p3]
theorem Rz {x:Itm} (ho:okI x) (hr:rI x=true) : WX x:=VJ _ (Nat.lt_succ_self _) ho hr
theorem Nb : ∀ (k:Nat) {x:Itm},x.size<k→okI x→rI x=true→EX k x=some (tyI x)
 | 0,x,h,_,_=>by omega
 | k+1,x,h,ho,hr=>by
  have hc:=Dl hr
  cases x with
  | mk kd n c b =>
   simp only [ND,Xf,Xq,Ue] at hc
   rw [EX,Hh]
   rcases hc with ⟨rfl,h1,rfl,rfl⟩|⟨rfl,h1,rfl,rfl⟩|⟨rfl,rfl,rfl,a,rfl,h2,h3⟩
   ·rw [if_pos (ND 1 n 0 []),U2,WL (by omega) (by omega),oB,Rat.intCast_zero,Q4 (ED Lf),oB]
   ·rw [if_neg (by rw [ND];decide),if_pos (ND 2 _ c []),Vd];rfl
   ·have hb:a∈Itm.box (.mk 3 (false,[],[]) 0 [a]):=by simp [Itm.box]
    have hz:=FY hb
    have oa:okAr a:=((DA _).1 ho).2.2.2.2 a hb
    have h3':=h3
    rw [Ik] at h3';simp only [Bool.and_eq_true] at h3'
    have o:=(BE a).1 oa
    rw [if_neg (by rw [ND];decide),if_neg (by rw [ND];decide),Ue,LK,oB,KY (h:=tyI) (fun y hy=>Nb k (by have:=HN hy;omega) (o.2.2.2 y hy) (Ff.1 h3'.2.2 y hy)) o.2.1 o.2.2.1,oB,Vw,Iz]
theorem Qe {x:Itm} (ho:okI x) (hr:rI x=true) : Kt x=some (tyI x):=Nb _ (Nat.lt_succ_self _) ho hr
theorem Kz {a:Arr} (h:rA a=true) : (szP a.shape).2=0∧(a.items.length:Int)=(if (szP a.shape).1<1 then 1 else (szP a.shape).1)∧∀ x∈a.items,rI x=true:=by
 rw [Ik] at h;simp only [Bool.and_eq_true,decide_eq_true_eq] at h
 exact ⟨h.1,h.2.1,Ff.1 h.2.2⟩
theorem Ub {a:Arr} (ha:okAr a) : DX a=some (if (szP a.shape).1=0∨¬Bm a then [] else a.items):=by
 have o:=(BE a).1 ha
 unfold DX
 rw [L6 o.2.1,oB]
 by_cases h0:(szP a.shape).1=0
 ·rw [if_pos h0,if_pos (.inl h0)];rfl
 rw [if_neg h0,J7 ha,oB]
 by_cases h:Bm a
 ·rw [dT h,if_neg (by rintro (q|q);exact h0 q;exact q h),Bool.not_true,oB,if_neg (by decide),Lx ha];rfl
 ·rw [dF h,if_pos (.inr h)];rfl
theorem WD {x:Itm} (hx:okI x) (hr:AD x) : Df x=some (if x.kind=3 then x.box.headD default else .mk [] [x]):=by
 unfold Df
 rw [Hu hx,oB,dT hr,if_pos rfl]
 by_cases k:x.kind=3
 ·rw [if_pos k,if_pos k]
  rcases Dl hr.1 with h|h|⟨_,_,_,a,h,_⟩
  ·omega
  ·omega
  ·rw [h,LK,oB,Lx (((DA x).1 hx).2.2.2.2 a (by simp [h]))];rfl
 ·rw [if_neg k,if_neg k,KF hx];rfl
theorem Og {xs:List Itm} {f:Ch} {p:Itm→Bool} (hf:∀ x∈xs,f.g x=some (p x)) (K:Int→Option Int) (hl:xs.length≤17592186044416) : ∀ (n i k:Nat) (s:Int),n=xs.length-i→i≤xs.length→n<k →
  (Ax xs f K k s (i:Int)=K s∧(xs.drop i).any p=false)∨(∃ j:Nat,Ax xs f K k s (i:Int)=some (j:Int)∧(xs.drop i).any p=true)
 | _,_,0,_,_,_,h=>by omega
 | n,i,k+1,s,hn,hi,hk=>by
  rw [Ax]
  by_cases h:i<xs.length
  ·rw [if_pos (by omega),Cf h,oB,hf _ (List.getElem_mem h),oB,lC h,List.any_cons]
   by_cases hp:p xs[i]=true
   ·rw [if_pos hp,hp];exact .inr ⟨i,rfl,rfl⟩
   ·rw [if_neg hp,Dh (by omega)]
    have:p xs[i]=false:=by simpa using hp
    rw [this,Bool.false_or]
    exact Og hf K hl (n-1) (i+1) k s (by omega) (by omega) (by omega)
  ·rw [if_neg (by omega),List.drop_of_length_le (by omega)];exact .inl ⟨rfl,rfl⟩
theorem NV {xs:List Itm} {f:Ch} {p:Itm→Bool} (hf:∀ x∈xs,f.g x=some (p x)) (hl:xs.length≤17592186044416) : AR xs f=some (xs.any p):=by
 unfold AR Bc
 rw [Dk]
 rcases Og hf (fun _=>some (-1)) hl xs.length 0 AK 0 rfl (Nat.zero_le _) (CB (by omega)) with ⟨h1,h2⟩|⟨j,h1,h2⟩
 ·rw [show ((0:Nat):Int)=0 from rfl] at h1
  rw [h1,oB,List.drop_zero] at *
  rw [h2];rfl
 ·rw [show ((0:Nat):Int)=0 from rfl] at h1
  rw [h1,oB]
  rw [List.drop_zero] at h2
  rw [h2,dT (by omega)]
def Eh (xs:List Itm) : List Int:=xs.map fun x=>((1+cI x:Nat) : Int)
theorem FS {x:Itm} (hx:okI x) (hr:AD x) : ∀ a∈x.box,okAr a∧Bm a∧cI x=cA a∧x.box=[a]:=fun a ha=>by
 have oa:=((DA x).1 hx).2.2.2.2 a ha
 rcases Dl hr.1 with ⟨_,_,_,h⟩|⟨_,_,_,h⟩|⟨_,_,_,b,h,h2,h3⟩
 ·rw [h] at ha;cases ha
 ·rw [h] at ha;cases ha
 ·have hb:=ha
  rw [h,List.mem_singleton] at hb
  subst hb
  have e1:cI x=cA a:=by rw [Mm,h];simp [cBs]
  have e2:dI x=dA a:=by rw [MZ,h];simp [dBs]
  exact ⟨oa,⟨h3,e2▸hr.2.1,e1▸hr.2.2⟩,e1,h⟩
theorem Wu {x:Itm} (hx:okI x) (hr:AD x) (K:Int→Option (Arr×Int)) : Ck x K AK 1 0=K ((1+cI x:Nat) : Int):=by
 have hF:AK=999999999999998+1+1:=rfl
 rw [hF,Ck]
 by_cases hb:x.box=[]
 ·rw [if_neg (by rw [hb];decide)]
  have:cI x=0:=by rw [Mm,hb];rfl
  rw [this];rfl
 ·obtain ⟨a,ha⟩:=List.exists_mem_of_ne_nil _ hb
  obtain ⟨oa,ra,e1,e2⟩:=FS hx hr a ha
  have h16:=ra.2.2
  rw [e2,if_pos (by simp),LK,oB,Ud oa,oB,if_pos ra,Ck,e2,if_neg (by rw [show w64 ((0:Int)+1)=1 from rfl];simp),C2 (by omega) (by omega),e1]
  congr 1
theorem Sk {xs:List Itm} (hx:∀ x∈xs,okI x∧AD x) (hl:xs.length≤1466015503701) (K:List Int→Option (Arr×Int)) : ∀ (n i k:Nat) (t:List Int),n=xs.length-i→i≤xs.length→n<k→t.length=i →
  B0 xs K k t (i:Int)=K (t++(Eh xs).drop i)
 | _,_,0,_,_,_,h,_=>by omega
 | n,i,k+1,t,hn,hi,hk,ht=>by
  rw [B0]
  have hcl:(Eh xs).length=xs.length:=by simp [Eh]
  by_cases h:i<xs.length
  ·obtain ⟨o,r⟩:=hx _ (List.getElem_mem h)
   have hd:(Eh xs)[i]'(by omega)=((1+cI xs[i]:Nat):Int):=by simp [Eh]
   rw [if_pos (by omega),Dk,Cf h,oB,Dk,Wu o r,Na (by simp;omega),oB,Dh (by omega)]
   show B0 xs K k (t++[((1+cI xs[i]:Nat):Int)]) ((i+1:Nat):Int)=_
   rw [Sk hx hl K (n-1) (i+1) k _ (by omega) (by omega) (by omega) (by simp [ht]),
    lC (by omega:i<(Eh xs).length),hd,List.append_assoc]
   rfl
  ·rw [if_neg (by omega),List.drop_of_length_le (by omega),List.append_nil]
def cyc (xs:List Itm) (n:Nat) : List Itm:=(List.range n).map fun i=>xs.getD (i % xs.length) default
theorem M9 (xs:List Itm) (n:Nat) : cyc xs (n+1)=cyc xs n++[xs.getD (n % xs.length) default]:=by
 unfold cyc;rw [List.range_succ,List.map_append];rfl
theorem HX (xs:List Itm) (n:Nat) : (cyc xs n).length=n:=by simp [cyc]
theorem OX (xs ys:List Itm) : cIs (xs++ys)=cIs xs+cIs ys:=by
 induction xs with
 | nil=>simp [cIs]
 | cons x xs ih=>simp only [List.cons_append,cIs,ih];omega
theorem WI {xs:List Itm} (h:xs≠[]) {n:Nat} {x:Itm} (hx:x∈cyc xs n) : x∈xs:=by
 unfold cyc at hx
 obtain ⟨i,_,rfl⟩:=List.mem_map.1 hx
 have hp:0<xs.length:=List.length_pos_iff.2 h
 have hlt:=Nat.mod_lt i hp
 rw [lD,lG hlt]
 exact List.getElem_mem hlt
theorem Yy (xs:List Itm) {i n:Nat} (h:i≤n) : i+cIs (cyc xs i)≤n+cIs (cyc xs n):=by
 induction n with
 | zero =>
  have:i=0:=by omega
  subst this;exact Nat.le_refl _
 | succ n ih =>
  by_cases he:i=n+1
  ·subst he;exact Nat.le_refl _
  ·have:=ih (by omega)
   rw [M9,OX];omega
theorem SH {xs:List Itm} (hx:∀ x∈xs,okI x∧AD x) (hne:xs≠[]) (hl:xs.length≤1466015503701) {m:Nat} (hm:m≤4096) (x1:Int×Int) (hx1:x1.1=(m:Int)) (K:Arr→Int→List Int→List Itm→Option (Arr×Int)) (a:Arr) (b:Int) (s:List Int) (t0:List Itm) (ht0:t0.length≤1) : ∀ (n i k:Nat),n=m-i→i≤m→n<k→i+cIs (cyc xs i)≤16384 →
  B1 xs x1 (Eh xs) K k a b (i:Int) ((i+cIs (cyc xs i):Nat):Int) s (t0++cyc xs i)=if m+cIs (cyc xs m)≤16384 then K a b s (t0++cyc xs m) else some (.mk [] [],8)
 | _,_,0,_,_,h,_=>by omega
 | n,i,k+1,hn,hi,hk,hc=>by
  rw [B1]
  have hcl:(Eh xs).length=xs.length:=by simp [Eh]
  have hp:0<xs.length:=List.length_pos_iff.2 hne
  by_cases h:i<m
  ·have hlt:=Nat.mod_lt i hp
   have htm:Int.tmod (i:Int) ((xs.length:Nat):Int)=((i % xs.length:Nat):Int):=by
    rw [Int.tmod_eq_emod_of_nonneg (by omega)];rfl
   have hgr:G6 (((List.length xs:Nat):Int)≠0)=some ():=if_pos (by omega)
   have hd:(Eh xs)[i % xs.length]'(by omega)=((1+cI xs[i % xs.length]:Nat):Int):=by simp [Eh]
   obtain ⟨o,r⟩:=hx _ (List.getElem_mem hlt)
   have hg:xs.getD (i % xs.length) default=xs[i % xs.length]:=by rw [lD,lG hlt];rfl
   have hci:cI xs[i % xs.length]≤16384:=r.2.2
   have hsum:cIs (cyc xs (i+1))=cIs (cyc xs i)+cI xs[i % xs.length]:=by rw [M9,OX,hg];simp [cIs]
   rw [if_pos (by omega),hgr,oB,htm,Cf (by omega:i % xs.length<(Eh xs).length),oB,hd,C2 (by omega) (by omega)]
   by_cases hbig:(16384:Int)<((i+cIs (cyc xs i):Nat):Int)+((1+cI xs[i % xs.length]:Nat):Int)
   ·rw [if_pos hbig,if_neg]
    have:=Yy xs (show i+1≤m by omega)
    omega
   ·have hlen:=HX xs i
    rw [if_neg hbig,oB,Cf hlt,oB,KF o,oB,Na (by simp;omega),oB,Dh (by omega)]
    have ih:=SH hx hne hl hm x1 hx1 K a b s t0 ht0 (n-1) (i+1) k (by omega) (by omega) (by omega) (by omega)
    rw [M9,hg] at ih
    rw [← ih,List.append_assoc]
    congr 1
    rw [OX];simp only [cIs];omega
  ·have:i=m:=by omega
   subst this
   rw [if_neg (by omega),if_pos hc]
def Ci (n:Int) (xs:List Itm) : List Itm:=if n=0 then [tyI (xs.headD default)] else cyc xs n.toNat
theorem L4 {s:List Int} {xs:List Itm} (hs:∀ z∈s,-9223372036854775808≤z∧z≤9223372036854775807) (hl:s.length≤17592186044416) (hxl:xs.length≤1466015503701) (hx:∀ x∈xs,okI x) :
  BK s xs=some (if (szP s).2≠0 then (.mk [] [],(szP s).2) else if xs=[]∨¬(∀ x∈xs,AD x) then (.mk [] [],22) else if Bm (.mk s (Ci (szP s).1 xs)) then (.mk s (Ci (szP s).1 xs),0) else (.mk [] [],8)):=by
 unfold BK
 rw [L6 hl,oB]
 by_cases h0:(szP s).2=0
 rotate_left
 ·rw [if_neg h0,if_pos h0]
 have h0':¬((szP s).2≠0):=fun h=>h h0
 rw [if_pos h0,if_neg h0']
 by_cases hn:xs=[]
 ·subst hn;rw [if_pos (show ((([]:List Itm).length:Nat):Int)=0 from rfl),if_pos (.inl rfl)];rfl
 have hlen:¬((xs.length:Nat):Int)=0:=by have:=List.length_pos_iff.2 hn;omega
 rw [if_neg hlen,NV (p:=fun x=>!decide (AD x)) (fun x hx'=>by
  show EG x=_
  unfold EG;rw [Hu (hx x hx'),oB]) (by omega),oB,oB]
 by_cases hr:∀ x∈xs,AD x
 rotate_left
 ·rw [if_pos (.inr hr:xs=[]∨¬∀ x∈xs,AD x),if_pos]
  rw [List.any_eq_true]
  simp only [Classical.not_forall] at hr
  obtain ⟨x,h1,h2⟩:=hr
  exact ⟨x,h1,by rw [dF h2];rfl⟩
 rw [if_neg (show ¬(xs=[]∨¬∀ x∈xs,AD x) from fun h=>h.elim hn fun h=>h hr),if_neg (by
  intro h
  rw [List.any_eq_true] at h
  obtain ⟨x,h1,h2⟩:=h
  rw [dT (hr x h1)] at h2;cases h2),Od hl,oB,Dk]
 have hp:0<xs.length:=List.length_pos_iff.2 hn
 have hxr:∀ x∈xs,okI x∧AD x:=fun x h=>⟨hx x h,hr x h⟩
 obtain ⟨hz0,hz1⟩:=ML s
 obtain ⟨m,hm⟩:∃ m:Nat,(szP s).1=(m:Int):=⟨(szP s).1.toNat,by omega⟩
 have hgo:∀ t0:List Itm,t0.length≤1→t0++cyc xs m=Ci (szP s).1 xs→(∀ x∈Ci (szP s).1 xs,okI x)→m+cIs (cyc xs m)≤cA (.mk s (Ci (szP s).1 xs)) →
   B0 xs (fun z8=>jn (fun z19 z20 z21 z22=>(Bu (Arr.mk z21 z22)).bind fun x35=>if x35=true then some (Arr.mk z21 z22,0) else some (Arr.mk [] [],8)) fun K6=>B1 xs (szP s) z8 K6 AK (Arr.mk [] []) 0 0 0 s t0) AK [] 0=some (if Bm (.mk s (Ci (szP s).1 xs)) then (.mk s (Ci (szP s).1 xs),0) else (.mk [] [],8)):=by
  intro t0 ht0 he hok hca
  have e2:=Sk hxr hxl (fun z8=>jn (fun z19 z20 z21 z22=>(Bu (Arr.mk z21 z22)).bind fun x35=>if x35=true then some (Arr.mk z21 z22,0) else some (Arr.mk [] [],8)) fun K6=>B1 xs (szP s) z8 K6 AK (Arr.mk [] []) 0 0 0 s t0) xs.length 0 AK [] rfl (Nat.zero_le _) (CB (by omega)) rfl
  rw [show ((0:Nat):Int)=0 from rfl] at e2
  rw [e2,List.nil_append,List.drop_zero]
  show jn _ _=_
  rw [Dk]
  have e7:=SH hxr hn hxl (show m≤4096 by omega) (szP s) hm (fun z19 z20 z21 z22=>(Bu (Arr.mk z21 z22)).bind fun x35=>if x35=true then some (Arr.mk z21 z22,0) else some (Arr.mk [] [],8)) (Arr.mk [] []) 0 s t0 ht0 m 0 AK rfl (Nat.zero_le _) (CB (by omega)) (by show 0+0≤_;omega)
  rw [show cyc xs 0=[] from rfl,List.append_nil,show ((0:Nat):Int)=0 from rfl] at e7
  rw [show (((0+cIs []:Nat)):Int)=0 from rfl] at e7
  rw [e7,he]
  have hit:(Ci (szP s).1 xs).length≤1466015503701:=by
   rw [← he,List.length_append,HX];omega
  have ho:okAr (.mk s (Ci (szP s).1 xs)):=by
   rw [BE];exact ⟨hs,hl,hit,hok⟩
  rw [J7 ho]
  by_cases hR:Bm (.mk s (Ci (szP s).1 xs))
  ·rw [if_pos (nT hca hR.2.2),if_pos hR,dT hR];rfl
  ·rw [if_neg hR,dF hR];split<;>rfl
 by_cases hz:(szP s).1=0
 ·have hm0:m=0:=by omega
  subst hm0
  obtain ⟨y,ys,rfl⟩:=List.exists_cons_of_ne_nil hn
  have hmk:Ci (szP s).1 (y::ys)=[tyI y]:=by unfold Ci;rw [if_pos hz];rfl
  obtain ⟨o,r⟩:=hxr y (by simp)
  rw [if_pos hz,LK,oB,Qe o r.1,oB]
  show jn _ _=_
  rw [Dk]
  refine hgo [tyI y] (by simp) (by rw [hmk];rfl) ?_ ?_
  ·rw [hmk];intro x hx';rw [List.mem_singleton] at hx';subst hx';exact (Rz o r.1).2.2.2.2.2
  ·show 0+0≤_;omega
 ·have hmk:Ci (szP s).1 xs=cyc xs m:=by unfold Ci;rw [if_neg hz,hm];rfl
  rw [if_neg hz]
  show jn _ _=_
  rw [Dk]
  refine hgo [] (by simp) (by rw [hmk];rfl) ?_ ?_
  ·rw [hmk];intro x hx';exact hx x (WI hn hx')
  ·rw [hmk,H8,Ee,HX];omega
def Pa (z:Int) : Prop:=-9223372036854775808≤z∧z≤9223372036854775807
def LZ (z:Int) : Itm:=.mk 1 (ofQ (z:Rat)) 0 []
theorem Ja {z:Int} (h:Pa z) : Jj (z:Rat):=U5 h.1 (by have:=h.2;omega)
theorem W0 {z:Int} (h:Pa z) : okI (LZ z):=SV (ED (Ja h))
theorem RU {z:Int} (h:Pa z) : rI (LZ z)=true:=VG (FX (Ja h))
theorem OZ {n:Nat} (h:n≤4096) : szP [(n:Int)]=((n:Int),0):=by
 unfold szP D4
 simp only [List.length_cons,List.length_nil,List.any_cons,List.any_nil,Bool.or_false,decide_eq_true_eq,List.foldl_cons,List.foldl_nil,List.mem_singleton,Int.one_mul]
 rw [if_neg (by omega),if_neg (by omega),if_neg (by omega)]
 by_cases h0:(0:Int)=n
 ·rw [if_pos h0,← h0]
 ·rw [if_neg h0,if_pos (by omega)]
theorem JU : szP []=(1,0):=rfl
theorem Rq {s:List Int} {i:List Itm} {n:Int} (hs:szP s=(n,0)) (hl:(i.length:Int)=if n<1 then 1 else n) (hi:∀ x∈i,rI x=true∧x.box=[]) : Bm (.mk s i)∧cA (.mk s i)=i.length∧dA (.mk s i)=if AI (.mk s i) then 0 else 1:=by
 have hn:=ML s
 rw [hs] at hn
 have hc:cIs i=0:=by
  clear hl
  induction i with
  | nil=>rfl
  | cons x xs ih=>rw [cIs,Mm,(hi x (by simp)).2,ih fun y hy=>hi y (by simp [hy])];rfl
 have hd:dIs i=0:=by
  clear hl hc
  induction i with
  | nil=>rfl
  | cons x xs ih=>rw [dIs,MZ,(hi x (by simp)).2,ih fun y hy=>hi y (by simp [hy])];rfl
 have hcA:cA (.mk s i)=i.length:=by rw [H8,Ee,hc];rfl
 have hdA:dA (.mk s i)=if AI (.mk s i) then 0 else 1:=by rw [GX,Ee,hd]
 refine ⟨⟨?_,?_,?_⟩,hcA,hdA⟩
 ·rw [Ik,Fu,Ee,hs,hl,dT rfl,dT rfl,Ff.2 fun x hx=>(hi x hx).1];rfl
 ·rw [hdA];split<;>omega
 ·rw [hcA];have:(i.length:Int)≤4096:=by rw [hl];split<;>omega
  omega
theorem Sc {z:Int} (h:Pa z) : M7 (ofQ (z:Rat))=some (z,true):=by
 unfold M7
 have e:(ofQ (z:Rat)).2.1=Ab z.natAbs:=rfl
 have e1:(ofQ (z:Rat)).1=decide (z<0):=rfl
 have hw:okL 1048576 (Ab z.natAbs)=true:=CG (nT (show (Ab z.natAbs).length≤32 from (Ja h).1) (by decide))
 have hb:B9 z.natAbs≤64:=FU.2 (by have:=h.1;have:=h.2;omega)
 rw [Xb (Ja h),oB,if_pos (dT (Rat.den_intCast z)),e,e1,Ar,if_pos (by rw [hw,dT rfl];rfl),if_pos hb]
 unfold Y1
 obtain ⟨h1,h2⟩:=h
 by_cases hz:z<0
 ·rw [if_pos (dT hz),if_pos (by omega)]
  congr 2;omega
 ·rw [if_neg (by rw [dF hz];decide),if_pos (by omega)]
  congr 2;omega
theorem Ow : ∀ {l:List Int} {s:List Int},(∀ z∈l,Pa z)→s.length+l.length≤17592186044416→UA Px (l.map LZ) s=some (true,s++l)
 | [],s,_,_=>by simp [UA]
 | z::zs,s,h,hl=>by
  rw [List.map_cons,UA]
  unfold Px
  have e:(LZ z).num=ofQ (z:Rat):=rfl
  rw [e,Sc (h z (by simp)),oB,Na (by simp at hl ⊢;omega),oB,oB]
  have hk:(true&&decide ((LZ z).kind=1))=true:=rfl
  rw [hk,if_pos rfl]
  have:=Ow (l:=zs) (s:=s++[z]) (fun y hy=>h y (by simp [hy])) (by simp at hl ⊢;omega)
  unfold Px at this
  rw [this,List.append_assoc];rfl
theorem Hw {x:Itm} (h:rI x=true) (hb:x.box=[]) (hk:x.kind≠3) : Bm (.mk [] [x])∧AI (.mk [] [x])=true:=by
 refine ⟨(Rq JU rfl fun y hy=>by rw [List.mem_singleton] at hy;subst hy;exact ⟨h,hb⟩).1,?_⟩
 unfold AI;simp [Fu,Ee,hk]
theorem OV {x:Itm} (h:okI x) : okAr (.mk [] [x]):=by
 rw [BE,Fu,Ee]
 exact ⟨nofun,by simp,by simp,fun y hy=>by rw [List.mem_singleton] at hy;rw [hy];exact h⟩
theorem Vn (xs:List Itm) : cyc xs xs.length=xs:=by
 apply List.ext_getElem?
 intro i
 by_cases h2:i<xs.length
 ·unfold cyc
  rw [List.getElem?_map,List.getElem?_range h2,Option.map_some,Nat.mod_eq_of_lt h2,lD,lG h2];rfl
 ·rw [List.getElem?_eq_none (by rw [HX];omega),List.getElem?_eq_none (by omega)]
theorem JY {xs:List Itm} {n:Nat} (h:xs.length=n) (h0:n≠0) : Ci ((n:Nat) : Int) xs=xs:=by
 unfold Ci
 rw [if_neg (by omega),Int.toNat_natCast,← h]
 exact Vn xs
theorem Da {a:Arr} (oa:okAr a) (h:Bm a) {x:Itm} (hx:x∈a.items) : okI x∧AD x:=by
 have o:=(BE a).1 oa
 obtain ⟨h1,h2,h3⟩:=h
 have hr:=(Kz h1).2.2
 refine ⟨o.2.2.2 x hx,hr x hx,?_,?_⟩
 ·have hd:∀ {xs:List Itm},x∈xs→dI x≤dIs xs:=by
   intro xs
   induction xs with
   | nil=>intro h;cases h
   | cons y ys ih =>
    intro h
    rw [dIs]
    rcases List.mem_cons.1 h with rfl|h
    ·omega
    ·have:=ih h;omega
  have hdx:=hd hx
  rw [GX] at h2
  by_cases hs:AI a=true
  ·have:=(Ko hs (Ff.2 hr)).1
   omega
  ·rw [if_neg hs] at h2;omega
 ·have hc:∀ {xs:List Itm},x∈xs→cI x≤cIs xs:=by
   intro xs
   induction xs with
   | nil=>intro h;cases h
   | cons y ys ih =>
    intro h
    rw [cIs]
    rcases List.mem_cons.1 h with rfl|h
    ·omega
    ·have:=ih h;omega
  have hcx:=hc hx
  rw [H8] at h3
  omega
theorem Mu {a:Arr} (h:Bm a) : ∃ n : Nat,szP a.shape=((n:Int),0)∧a.items.length=if n=0 then 1 else n:=by
 obtain ⟨h1,h2,_⟩:=Kz h.1
 have:=ML a.shape
 refine ⟨(szP a.shape).1.toNat,?_,?_⟩
 ·rw [← h1,Int.toNat_of_nonneg this.1]
 ·split at h2<;>split<;>omega
theorem I7 {a:Arr} (h:Bm a) : 0<a.items.length:=by
 obtain ⟨n,_,hl⟩:=Mu h
 rw [hl];split<;>omega
def SU (x:Itm) : Arr:=if x.kind=3 then x.box.headD default else .mk [] [x]
theorem SB {x:Itm} (h:rI x=true) (k:x.kind≠3) : x.box=[]:=by
 rcases Dl h with ⟨_,_,_,q⟩|⟨_,_,_,q⟩|⟨q,_⟩
 ·exact q
 ·exact q
 ·exact absurd q k
theorem Lz {x:Itm} (hx:okI x∧AD x) : Df x=some (SU x)∧okAr (SU x)∧Bm (SU x):=by
 refine ⟨WD hx.1 hx.2,?_⟩
 unfold SU
 by_cases k:x.kind=3
 ·rw [if_pos k]
  rcases Dl hx.2.1 with ⟨q,_⟩|⟨q,_⟩|⟨_,_,_,b,hb,_⟩
  ·omega
  ·omega
  ·obtain ⟨ob,rb,_⟩:=FS hx.1 hx.2 b (by simp [hb])
   rw [hb];exact ⟨ob,rb⟩
 ·rw [if_neg k]
  exact ⟨OV hx.1,(Hw hx.2.1 (SB hx.2.1 k) k).1⟩
end Go.FL
namespace Go.FL
open Go Go.RowKit
def FnN (P:Program) (f:FuncId) (args:List DV) (r:AV) : Prop :=
 ∀ (w:World) (I:Nat→Prop) (vs:List Value),(∀ b,I b→b<w.heap.size)→RepAll w I args vs →
  CallsIn (om none) 0 P f (Value.slice none 0 0::vs).toArray w fun e w'=>∃ v I' bs,e=.returned v∧Below w.heap.size w w'∧(∀ b,I b→I' b) ∧
   (∀ b,I' b→b<w'.heap.size∧(b<w.heap.size→I b))∧ARep P w' I' [] r v bs∧bs.Nodup∧∀ b∈bs,w.heap.size≤b∧b<w'.heap.size∧¬I' b
section
variable {P:Program} {H:Ac}
theorem FnR.ofFnN {f:FuncId} {xs:List DV} {r:AV} (h:FnN P f xs r) : FnR P f (.nl::xs.map .d) H fun r' H'=>r'=r∧H'=H:=by
 intro X w I μ O vs0 e1 e2 e3 e4 e5 hm ha
 have hR:∀ {xs:List DV} {vs:List Value},ARepAll P w I μ (xs.map AV.d) vs []→RepAll w I xs vs:=by
  intro xs
  induction xs with
  | nil=>intro vs h;cases h;exact .nil
  | cons x xs ih =>
   intro vs h
   generalize hbs:([]:List Nat)=bs at h
   cases h with
   | cons h t =>
    have:=hbs.symm
    rw [List.append_eq_nil_iff] at this
    rw [this.2] at t
    cases h with
    | d h=>exact .cons h (ih t)
 obtain ⟨vs,rfl,ha2⟩:∃ vs,vs0=Value.slice none 0 0::vs∧ARepAll P w I μ (xs.map AV.d) vs []:=by
  generalize hbs:([]:List Nat)=bs at ha
  cases ha with
  | cons h t =>
   have:=hbs.symm
   rw [List.append_eq_nil_iff] at this
   obtain ⟨t1,t2⟩:=this
   subst t2
   cases h
   exact ⟨_,rfl,t⟩
 refine (h w I vs hm.ilt (hR ha2)).mono ?_
 rintro e w' ⟨v,I',bs,rfl,q1,q2,q3,q4,q5,q6⟩
 let a:Act:={tmps:=#[],defers:=[]}
 have hs:Sim P {X with nt:=(0,0),dfs:=[],args:=[]} [] H a w I μ O:=⟨hm.cast rfl rfl rfl rfl rfl rfl,fun t=>.un,rfl,rfl,fun t ht=>absurd ht (by simp)⟩
 have s1:=(hs.called q1 q2 q3).newR bs fun b hb=>by
  obtain ⟨h1,h2,h3⟩:=q6 b hb
  refine ⟨h2,.inl ?_,h3,fun hk=>by have:=hs.klt b hk;have:=hs.size;omega⟩
  cases hO:O b with
  | none=>rfl
  | some l=>have:=(hs.own b l hO).1;omega
 refine ⟨v,I',μ,_,H,r,bs,rfl,(s1.toMem.relabel (toT 0) fun _=>rfl).cast rfl rfl rfl rfl rfl rfl,q4.keep (fun _ h=>h) (fun _ _=>rfl) (fun i b h=>by simp at h) fun _ _=>rfl,q5,fun b hb=>⟨0,by simp [hb,toT]⟩,rfl,rfl⟩
def Su (P:Program) (f:FuncId) (e:TypeId) (M:Nat) : Prop:=∀ (n:Nat) (w:World),n≤M →
 Calls P f #[.slice none 0 0,.int .i64 n] w fun x w'=>(x=.returned (.slice none 0 0)∧w'=w) ∨
  (∃ (cap:Nat) (cells:Array Value),0<cap∧cap≤maxLen∧cells.size=cap * AA P e∧x=.returned (.slice (some ⟨w.heap.size,0,none⟩) 0 cap)∧w'=w.drew.alloc (.cells cells e))
theorem FnN.grow {f e M:Nat} (hsz:0<AA P e) (h:Su P f e M) {n:Nat} (hn:n≤M) : FnN P f [.i .i64 n] (.own e []):=by
 intro w I vs hI ha
 have hvs:vs=[.int .i64 n]:=by
  cases ha with
  | cons h1 ha=>cases ha;cases h1;rfl
 subst hvs
 rw [WG]
 refine callsIn_wide.2 ((h n w hn).mono fun x w' hx=>?_)
 rcases hx with ⟨rfl,rfl⟩|⟨cap,cells,h0,hm,hc,rfl,rfl⟩
 ·refine ⟨_,I,[],rfl,Below.refl _ _,fun _ h=>h,fun b hb=>⟨hI b hb,fun _=>hb⟩,?_,nN,nofun⟩
  exact .own e [] (.slice none 0 0) [] hsz (.inl ⟨none,rfl,rfl,rfl⟩) (.nil _)
 ·have hlt:w.heap.size<(w.drew.alloc (.cells cells e)).heap.size:=(Array.getElem?_eq_some_iff.1 (heap_alloc_new w.drew (.cells cells e))).1
  have ho:OwnR (w.drew.alloc (.cells cells e)) e (AA P e) (.slice (some ⟨w.heap.size,0,none⟩) 0 cap) 0 []:=by
   refine .inr ⟨⟨by simp,.inr ⟨w.heap.size,cap,cells,rfl,Nat.zero_le _,heap_alloc_new w.drew _,Nat.zero_le _,hm,hc,by simp⟩⟩,w.heap.size,cap,rfl,h0⟩
  refine ⟨_,I,[w.heap.size],rfl,?_,fun _ h=>h,fun b hb=>⟨Nat.lt_trans (hI b hb) hlt,fun _=>hb⟩,?_,by simp,fun b hb=>?_⟩
  ·exact ((Below.refl _ w).drew).alloc (Nat.le_refl _) _
  ·have:[w.heap.size]=Bv (.slice (some ⟨w.heap.size,0,none⟩) 0 cap):=by simp [Bv,Nat.pos_iff_ne_zero.1 h0]
   rw [this]
   exact .own e [] _ [] hsz ho (.nil _)
  ·rw [List.mem_singleton] at hb
   subst hb
   exact ⟨Nat.le_refl _,hlt,fun hi=>by have:=hI _ hi;omega⟩
theorem Wy {f e M:Nat} (hsz:0<AA P e) (h:Su P f e M) {z:Int} (hz:0≤z∧z≤(M:Int)) : FnR P f [.nl,.d (.i .i64 z)] H fun r' H'=>r'=.own e []∧H'=H:=by
 obtain ⟨n,rfl⟩:∃ n:Nat,z=(n:Int):=⟨z.toNat,by omega⟩
 exact FnR.ofFnN (xs:=[.i .i64 (n:Int)]) (FnN.grow hsz h (by omega))
end
section
variable {P:Program} {C:Cx} {o:Oper} {ops:Array Oper} {Q:Exit→Env→Ac→Prop} {env:Env} {H:Ac} {k:Nat} {l:List Oper}
theorem UZ {α:Type} {F:List α→List DV} {D:α→DV} (hset:∀ xs n x,(F xs).set n (D x)=F (xs.set n x)) {us:List α} {n m:Nat} {x:α} {y:Operand} {r ty e:Nat} {p:Pl} (hm:m=n) (hx:∃ z,(F us)[0+n]?=some z∧z.leaf=true)
  (h:RL P C ops Q (k+1) l (GR p (.own e (F (us.set m x))) env) (HA p (.own e (F (us.set m x))) H)) (hsz:AA P ty=1)
  (hg:grd ops env o true=true:=by rfl) (ho:o.op=.store ty (.tmp r) y:=by rfl) (hv:get env r=.ep p (0+n) 0:=by rfl) (hp:AG env H p=.own e (F us):=by rfl) (hy:lk env y=.d (D x):=by rfl) (h1:(D x).leaf=true:=by rfl) (hd:o.dst=none:=by rfl)
  (hn:∀ id off,p=.c id off→C.n0≤id:=by (intro _ _ h;cases h<;>decide)):RL P C ops Q k (o::l) env H:=by
 subst hm
 exact ste hx (by rw [Nat.zero_add,hset];exact h) hsz hg ho hv hp hy h1 hd hn
end
end Go.FL
namespace Go.FL
open Go Go.RowKit
section
variable {P:Program} {C:Cx} {X:Snap} {o:Oper} {ops:Array Oper} {Q:Exit→Env→Ac→Prop} {env env':Env} {H H':Ac} {a:Act} {w w':World} {I I':Nat→Prop} {μ μ':List Nat} {O O':Nat→Option Loc}
 {K:Env→Ac→Prop} {k:Nat} {l:List Oper}
theorem Zp {ty:Nat} (ho:o.op=.makeMap ty none:=by rfl) : VOK P C o env H (.om [] []) :=
 .val (by simp [ho]) fun X a w I μ O _ _ _ hs =>
  ⟨.map (some w.heap.size),w.alloc (.map #[] 0),I,[w.heap.size],by simp [execOp,ho,Instr.makeMap,newObj,Sem.run],Bi _,fun b hi=>hi,fun b hi=>⟨nL (hs.ilt b hi) (Bi _).size,fun _=>hi⟩,
   ARep.om [] [] [] [] w.heap.size #[] 0 (heap_alloc_new w _) .nil .nil (List.Perm.refl _) rfl,by simp,fun b hb=>by
    simp at hb;subst hb
    exact ⟨Nat.le_refl _,by simp,fun hi=>by have:=hs.ilt _ hi;omega⟩⟩
def freshK (q:IntKind) (z:Int) (ks:List DV) : Prop:=∀ k∈ks,∃ z',k=.i q z'∧z'≠z
theorem Sl {α β:Type} : ∀ {ks:List α} {vs:List β} {x:α},ks.length=vs.length→x∈ks→∃ v,(x,v)∈ks.zip vs
 | k::ks,v::vs,x,hl,h=>by
  rcases List.mem_cons.1 h with rfl|h
  ·exact ⟨v,by simp⟩
  ·obtain ⟨u,hu⟩:=Sl (ks:=ks) (vs:=vs) (by simpa using hl) h
   exact ⟨u,by simp [hu]⟩
theorem Lc {q:IntKind} {z:Int} {ty:TypeDesc} (hty:ty=.int q) : ∀ {es:List MapEntry} {ks:List DV} (n:Nat),RepAll w I ks (es.map MapEntry.key)→freshK q z ks→Instr.findNow ty (.int q z) es n=some none
 | [],_,n,_,_=>rfl
 | e::es,ks,n,hk,hf=>by
  subst hty
  cases hk with
  | @cons c _ cs _ h t =>
   obtain ⟨z',rfl,hz⟩:=hf c (by simp)
   have he:e.key=.int q z':=by
    generalize e.key=u at h
    cases h;rfl
   have hs:Instr.sameNow (.int q) (.int q z) e.key=some false:=by
    rw [he];simp [Instr.sameNow];exact fun h=>hz h.symm
   simp only [Instr.findNow,hs]
   exact Lc rfl (n+1) t fun k hk=>hf k (by simp [hk])
theorem Oe {q:IntKind} {z:Int} {ty:TypeDesc} (hty:ty=.int q) {d:DV} : ∀ {es:List MapEntry} {ks vs:List DV} (n:Nat),RepAll w I ks (es.map MapEntry.key)→RepAll w I vs (es.map MapEntry.val) →
  (∀ k∈ks,∃ z',k=.i q z')→(.i q z,d)∈ks.zip vs→(∀ d',(.i q z,d')∈ks.zip vs→d'=d)→∃ i v,Instr.findNow ty (.int q z) es n=some (some (i,v))∧Rep w I d v
 | [],_,_,n,hk,_,_,hm,_=>by cases hk;simp at hm
 | e::es,ks,vs,n,hk,hv,hi,hm,hu=>by
  subst hty
  cases hk with
  | @cons c _ cs _ h t =>
   cases hv with
   | @cons c2 _ cs2 _ h2 t2 =>
    obtain ⟨z',rfl⟩:=hi c (by simp)
    have he:e.key=.int q z':=by
     generalize e.key=u at h
     cases h;rfl
    by_cases hz:z=z'
    ·subst hz
     have hs:Instr.sameNow (.int q) (.int q z) e.key=some true:=by rw [he];simp [Instr.sameNow]
     refine ⟨n,e.val,by simp only [Instr.findNow,hs],?_⟩
     have:=hu c2 (by simp)
     subst this;exact h2
    ·have hs:Instr.sameNow (.int q) (.int q z) e.key=some false:=by rw [he];simp [Instr.sameNow];exact hz
     simp only [Instr.findNow,hs]
     refine Oe rfl (n+1) t t2 (fun k hk=>hi k (by simp [hk])) ?_ (fun d' hd=>hu d' (by simp [hd]))
     simp only [List.zip_cons_cons,List.mem_cons,Prod.mk.injEq,DV.i.injEq,true_and] at hm
     rcases hm with ⟨h3,_⟩|hm
     ·exact absurd h3 hz
     ·exact hm
theorem K7 {kt:TypeId} {q:IntKind} {z:Int} (hk:P.underlying kt=some (.int q)) (b:Bool) (n:Nat) : (Instr.checkKey b (n+1) kt (.int q z)).run P w=.ok () w:=by
 unfold Instr.checkKey
 simp [run_underlying hk]
theorem Io {kt:TypeId} {q:IntKind} {z:Int} {es:List MapEntry} {r:Option (Nat×Value)} (hk:P.underlying kt=some (.int q)) (hf:Instr.findNow (.int q) (.int q z) es 0=some r) : (Instr.findKey kt (.int q z) es).run P w=.ok r w:=by
 simp [Instr.findKey,run_underlying hk,hf]
theorem OQ {r:Nat} {es:Array MapEntry} {c:Nat} (hh:w.heap[r]?=some (.map es c)) : (getObj r).run P w=.ok (.map es c) w:=by
 simp [getObj,Sem.run,hh]
theorem Sh {ty kt et:TypeId} {q:IntKind} {r:Nat} {es:Array MapEntry} {clock:Nat} {z:Int} {v:Value} (hu:P.underlying ty=some (.map kt et)) (hk:P.underlying kt=some (.int q)) (hh:w.heap[r]?=some (.map es clock)) (hf:Instr.findNow (.int q) (.int q z) es.toList 0=some none) :
  (Instr.mapUpdate ty (.map (some r)) (.int q z) v).run P w=.ok () {w with heap:=w.heap.setIfInBounds r (.map (es.push {key:=.int q z,val:=v,born:=clock}) (clock+1))}:=by
 have h1:=K7 (w:=w) (z:=z) hk false 9999
 have h2:=Io (w:=w) (z:=z) hk hf
 have h3:=OQ (P:=P) hh
 unfold Instr.mapUpdate
 simp only [run_underlying hu,Sem.run_bind,Result.andThen_ok,h1,h2,h3]
 simp [setObj,Sem.run,hh]
theorem ME {ty kt et:TypeId} {q:IntKind} {r:Nat} {es:Array MapEntry} {clock:Nat} {z:Int} {i:Nat} {v:Value} (hu:P.underlying ty=some (.map kt et)) (hk:P.underlying kt=some (.int q)) (hh:w.heap[r]?=some (.map es clock)) (hf:Instr.findNow (.int q) (.int q z) es.toList 0=some (some (i,v))) :
  (Instr.lookup ty (.map (some r)) (.int q z) false).run P w=.ok v w:=by
 have h1:=K7 (w:=w) (z:=z) hk es.isEmpty 9999
 have h2:=Io (w:=w) (z:=z) hk hf
 have h3:=OQ (P:=P) hh
 unfold Instr.lookup
 simp only [run_underlying hu,Sem.run_bind,Sem.run_pure,Result.andThen_ok,h1,h2,h3]
 rfl
theorem LR {ty kt et:TypeId} {q:IntKind} {r:Nat} {es:Array MapEntry} {clock:Nat} {z:Int} {v:Value} (hu:P.underlying ty=some (.map kt et)) (hk:P.underlying kt=some (.int q)) (hz:(zeroValue et).run P w=.ok v w) (hh:w.heap[r]?=some (.map es clock)) (hf:Instr.findNow (.int q) (.int q z) es.toList 0=some none) :
  (Instr.lookup ty (.map (some r)) (.int q z) false).run P w=.ok v w:=by
 have h1:=K7 (w:=w) (z:=z) hk es.isEmpty 9999
 have h2:=Io (w:=w) (z:=z) hk hf
 have h3:=OQ (P:=P) hh
 unfold Instr.lookup
 simp only [run_underlying hu,Sem.run_bind,Sem.run_pure,Result.andThen_ok,h1,h2,h3,hz]
 rfl
theorem Ld {ks vs ks' vs':List DV} (hp:(ks'.zip vs').Perm (ks.zip vs)) (hl:ks'.length=vs'.length) {k:DV} (h:k∈ks') : k∈ks:=by
 obtain ⟨v,hv⟩:=Sl hl h
 exact (List.of_mem_zip (hp.mem_iff.1 hv)).1
theorem Sim.om_inv (hs:Sim P X env H a w I μ O) {t:Nat} {ks vs:List DV} (hg:get env t=.om ks vs) :
  ∃ blk es c ks' vs',a.tmps.getD t undef=.map (some blk)∧w.heap[blk]?=some (.map es c)∧RepAll w I ks' (es.toList.map MapEntry.key)∧RepAll w I vs' (es.toList.map MapEntry.val)∧(ks'.zip vs').Perm (ks.zip vs)∧ks.length=vs.length∧O blk=some (.t t):=by
 have:=hs.envr t
 rw [hg] at this
 obtain ⟨bs,h1,h2,h3⟩:=this.plain rfl
 generalize a.tmps.getD t undef=v at h1
 cases h1 with
 | om _ _ ks' vs' blk es c hh hk hv hp hl=>exact ⟨blk,es,c,ks',vs',rfl,hh,hk,hv,hp,hl,h3 blk (by simp)⟩
theorem Sim.ins (hs:Sim P X env H a w I μ O) {t:Nat} {ks vs:List DV} (hg:get env t=.om ks vs) {ty kt et:TypeId} {q:IntKind} {z:Int} {d:DV} {v:Value} (hu:P.underlying ty=some (.map kt et)) (hk:P.underlying kt=some (.int q)) (hf:freshK q z ks) (hv:Rep w I d v) :
  ∃ w',(Instr.mapUpdate ty (a.tmps.getD t undef) (.int q z) v).run P w=.ok () w'∧Sim P X ((t,.om (ks++[.i q z]) (vs++[d]))::env) H a w' I μ O:=by
 obtain ⟨blk,es,c,ks',vs',h1,h2,h3,h4,h5,h6,hO⟩:=hs.om_inv hg
 have hl':ks'.length=vs'.length:=by rw [h3.length,h4.length,List.length_map,List.length_map]
 have hfn:=Lc (q:=q) (z:=z) rfl 0 h3 fun k hk=>hf k (Ld h5 hl' hk)
 have hlt:blk<w.heap.size:=(hs.own blk _ hO).1
 refine ⟨{w with heap:=w.heap.setIfInBounds blk (.map (es.push {key:=.int q z,val:=v,born:=c}) (c+1))},by rw [h1];exact Sh hu hk h2 hfn,?_⟩
 have hoth:∀ b,b≠blk→(w.heap.setIfInBounds blk (.map (es.push {key:=.int q z,val:=v,born:=c}) (c+1)))[b]?=w.heap[b]?:=fun b hb=>by
  rw [Array.getElem?_setIfInBounds,if_neg (Ne.symm hb)]
 obtain ⟨n1,_,_⟩:=hs.other_blk hO
 refine hs.blkSet (w':={w with heap:=w.heap.setIfInBounds blk (.map (es.push {key:=.int q z,val:=v,born:=c}) (c+1))}) (av:=.om (ks++[.i q z]) (vs++[d])) hO (by rw [hg];rfl) rfl hoth (by simp) rfl rfl rfl ?_
 rw [h1]
 have hI:∀ b,I b→(w.heap.setIfInBounds blk (.map (es.push {key:=.int q z,val:=v,born:=c}) (c+1)))[b]?=w.heap[b]?:=fun b hi=>hoth b (n1 b hi)
 refine .om _ _ (ks'++[.i q z]) (vs'++[d]) blk (es.push {key:=.int q z,val:=v,born:=c}) (c+1) ?_ ?_ ?_ ?_ (by simp [h6])
 ·show (w.heap.setIfInBounds blk _)[blk]?=_
  rw [Array.getElem?_setIfInBounds,if_pos rfl,if_pos hlt]
 ·rw [Array.toList_push,List.map_append]
  exact (h3.keep hI fun _ h=>h).append (.cons (.i _ _) .nil)
 ·rw [Array.toList_push,List.map_append]
  exact (h4.keep hI fun _ h=>h).append (.cons (hv.keep hI fun _ h=>h) .nil)
 ·rw [List.zip_append hl',List.zip_append h6]
  exact List.Perm.append h5 (List.Perm.refl _)
theorem Y7 {m:Nat} {x y:Operand} {ty kt et:TypeId} {q:IntKind} {z:Int} {ks vs:List DV} {d:DV} (hu:P.underlying ty=some (.map kt et)) (hk:P.underlying kt=some (.int q)) (hf:freshK q z ks) (h:RL P C ops Q (k+1) l ((m,.om (ks++[.i q z]) (vs++[d]))::env) H) (hg:grd ops env o true=true:=by rfl)
  (ho:o.op=.insert ty (.tmp m) x y:=by rfl) (hm:get env m=.om ks vs:=by rfl) (hx:Bk (lk env x)=some (.i q z):=by rfl) (hy:Bk (lk env y)=some d:=by rfl) (hd:o.dst=none:=by rfl):RL P C ops Q k (o::l) env H:=by
 refine .go hg (.done (by simp [ho]) hd (fun X a w I μ O _ _ _ hs=>?_) h)
 have h1:=hs.deep (x:=x) hx
 have h2:=hs.deep (x:=y) hy
 generalize hev:a.eval x=u at h1
 cases h1
 obtain ⟨w',r1,r2⟩:=hs.ins hm hu hk hf h2
 have he:a.eval (.tmp m)=a.tmps.getD m undef:=rfl
 exact ⟨w',I,μ,O,by simp only [execOp,ho,hev,he,r1,Sem.run_bind,Result.andThen_ok,Sem.run_pure],r2⟩
theorem Gh.omf {t:Nat} {ks vs:List DV} (hg:get env t=.om ks vs) : Gh P C env H ((t,.d (.mp ks vs))::env) H:=fun X a w I μ O _ _ _ hs=>by
 obtain ⟨blk,es,c,ks',vs',h1,h2,h3,h4,h5,h6,hO⟩:=hs.om_inv hg
 obtain ⟨n1,n2,n3⟩:=hs.other_blk hO
 refine ⟨_,_,⟨hs.toMem.frz [blk] (fun b hm=>by simp at hm;subst hm;exact (hs.own b _ hO).1) (fun b hm hk=>by simp at hm;exact n2 b hk hm) H rfl ?_,fun s=>?_,hs.nt,hs.dfs⟩⟩
 ·intro id ob ho
  obtain ⟨bb,bs,k1,k2,k3,k4⟩:=hs.heap id ob ho
  refine ⟨bb,bs,k1,k2.mono fun _ h=>.inl h,fun hn=>⟨(k3 hn).1,fun b hb=>?_⟩,k4⟩
  have:b∉[blk]:=by simpa using n3 id ob bb bs ho k1 k3 k4 b hb
  simp only [this,if_false]
  exact (k3 hn).2 b hb
 ·by_cases hst:t=s
  ·subst hst
   rw [show get ((t,.d (.mp ks vs))::env) t=.d (.mp ks vs) by simp [get]]
   refine .of (bs:=[]) ?_ nN (by simp)
   rw [h1]
   exact .d (.mp ks vs ks' vs' blk es c (.inr (by simp)) h2 (h3.keep (fun _ _=>rfl) fun _ h=>.inl h) (h4.keep (fun _ _=>rfl) fun _ h=>.inl h) h5 h6)
  ·rw [show get ((t,.d (.mp ks vs))::env) s=get env s by simp [get,hst]]
   have key:∀ p e xs,AG env H p=.own e xs→AG ((t,AV.d (.mp ks vs))::env) H p=.own e xs:=by
    intro p e' xs hp
    cases p with
    | t r =>
     have hr':t≠r:=fun h=>by subst h;simp only [AG] at hp;rw [hg] at hp;cases hp
     simp only [AG,get,if_neg hr'];exact hp
    | c id off=>exact hp
   have ht:=hs.envr s
   cases hgs:get env s with
   | ref p off len =>
    rw [hgs] at ht
    obtain ⟨e',xs,A,n,c,g1,g2,g3,g4⟩:=ht
    exact ⟨e',xs,A,n,c,key p e' xs g1,g2,g3,g4⟩
   | ep p i k =>
    rw [hgs] at ht
    obtain ⟨e',xs,b,n,c,g1,g2,g3,g4,g5⟩:=ht
    exact ⟨e',xs,b,n,c,key p e' xs g1,g2,g3,g4,g5⟩
   | _ =>
    rw [hgs] at ht
    obtain ⟨bs,g1,g2,g3⟩:=ht.plain rfl
    refine .of (g1.keep (fun _ h=>.inl h) (fun _ _=>rfl) (fun _ _ h=>h) fun _ _=>rfl) g2 fun b hb=>?_
    have:b∉[blk]:=fun hm=>by
     simp at hm;subst hm
     have:=g3 b hb;rw [hO] at this;simp at this;exact hst this
    simp only [this,if_false]
    exact g3 b hb
theorem Zx {x y:Operand} {ty kt et:TypeId} {q:IntKind} {z:Int} {ks vs:List DV} {d:DV} (hu:P.underlying ty=some (.map kt et)) (hk:P.underlying kt=some (.int q)) (hi:∀ k∈ks,∃ z',k=.i q z') (hm:(.i q z,d)∈ks.zip vs) (hq:∀ d',(.i q z,d')∈ks.zip vs→d'=d)
  (ho:o.op=.lookup ty x y false:=by rfl) (hx:Bk (lk env x)=some (.mp ks vs):=by rfl) (hy:Bk (lk env y)=some (.i q z):=by rfl):VOK P C o env H (.d d) :=
 .pv ⟨by simp [ho],fun X a w I μ O _ hs=>by
  have h1:=hs.deep (x:=x) hx
  have h2:=hs.deep (x:=y) hy
  generalize hev:a.eval x=u at h1
  generalize hev2:a.eval y=u2 at h2
  cases h2
  cases h1 with
  | mp _ _ ks' vs' r es c hI hh h3 h4 hp hl =>
   have hl':ks'.length=vs'.length:=by rw [h3.length,h4.length,List.length_map,List.length_map]
   obtain ⟨i,v,e1,e2⟩:=Oe (q:=q) (z:=z) (d:=d) rfl 0 h3 h4 (fun k hk=>hi k (Ld hp hl' hk)) (hp.mem_iff.2 hm) fun d' hd=>hq d' (hp.mem_iff.1 hd)
   exact ⟨v,by simp only [execOp,ho,hev,hev2,ME hu hk hh e1,Sem.run_bind,Result.andThen_ok,Sem.run_pure],.of_rep e2⟩⟩
theorem ZB {x y:Operand} {ty kt et:TypeId} {q:IntKind} {z:Int} {ks vs:List DV} {d:DV} {zv:Value} (hu:P.underlying ty=some (.map kt et)) (hk:P.underlying kt=some (.int q)) (hz:∀ w,(zeroValue et).run P w=.ok zv w) (hd:∀ w I,Rep w I d zv) (hf:freshK q z ks)
  (ho:o.op=.lookup ty x y false:=by rfl) (hx:Bk (lk env x)=some (.mp ks vs):=by rfl) (hy:Bk (lk env y)=some (.i q z):=by rfl):VOK P C o env H (.d d) :=
 .pv ⟨by simp [ho],fun X a w I μ O _ hs=>by
  have h1:=hs.deep (x:=x) hx
  have h2:=hs.deep (x:=y) hy
  generalize hev:a.eval x=u at h1
  generalize hev2:a.eval y=u2 at h2
  cases h2
  cases h1 with
  | mp _ _ ks' vs' r es c hI hh h3 h4 hp hl =>
   have hl':ks'.length=vs'.length:=by rw [h3.length,h4.length,List.length_map,List.length_map]
   have e1:=Lc (q:=q) (z:=z) rfl 0 h3 fun k hk=>hf k (Ld hp hl' hk)
   exact ⟨zv,by simp only [execOp,ho,hev,hev2,LR hu hk (hz w) hh e1,Sem.run_bind,Result.andThen_ok,Sem.run_pure],.of_rep (hd w I)⟩⟩
end
end Go.FL
namespace Go.FL
open Go Go.Proofs
theorem Lo : B8 Tryz.prog 36=some true:=by kernel_rfl
theorem Kp : AA Tryz.prog 36=5:=by kernel_rfl
theorem Ke : Bq Tryz.prog 36 0=some (0,1):=by kernel_rfl
theorem YL : CU Tryz.prog 36=some [(0,1),(1,3),(4,1)]:=by kernel_rfl
theorem Xj : (Tryz.prog.info? 36).bind (·.zero)=some (.agg #[.int .i64 0,.bool false,.slice none 0 0,.slice none 0 0,.int .i64 0]):=by kernel_rfl
theorem Xi (w:World) (I:Nat→Prop) : RepAll w I [.i .i64 0,.b false,.sl [],.sl [],.i .i64 0] (Value.agg #[.int .i64 0,.bool false,.slice none 0 0,.slice none 0 0,.int .i64 0]).cells.toList:=.cons (.i _ _) (.cons (.b _) (.cons (.sl0 _ _) (.cons (.sl0 _ _) (.cons (.i _ _) (.nil)))))
end Go.FL
namespace Go.FL
open Go Go.RowKit
section
variable {P:Program} {C:Cx} {X:Snap} {o:Oper} {ops:Array Oper} {Q:Exit→Env→Ac→Prop} {env env':Env} {H H':Ac} {a:Act} {w w':World} {I I':Nat→Prop} {μ μ':List Nat} {O O':Nat→Option Loc}
 {K:Env→Ac→Prop} {k:Nat} {l:List Oper}
theorem Wd {y:Operand} {t ty:Nat} {c c':DV} (hsz:AA P ty=1) (ho:o.op=.store ty (.tmp t) y) (hv:get env t=.nb [c]) (hy:Bk (lk env y)=some c') (h1:c'.leaf=true) (hd:o.dst=none) (hK:K ((t,.nb [c'])::env) H) : OpOK P C o env H K:=by
 refine .done (by simp [ho]) hd (fun X a w I μ O _ _ _ hs=>?_) hK
 have hr:=hs.deep (x:=y) hy
 generalize hev:a.eval y=u at hr
 obtain ⟨blk,cells,e,q1,q2,q3,q4⟩:=hs.nbSet (vs:=[u]) hv (.cons hr .nil)
 refine ⟨_,I,μ,O,?_,q4⟩
 have hone:=hr.one h1
 obtain ⟨old,hold⟩:∃ old,cells=#[old]:=by
  have hl:=q3.length
  match hc:cells.toList,hl with
  | [old],_=>exact ⟨old,by apply Array.ext';simpa using hc⟩
 subst hold
 obtain ⟨i,i1,i2⟩:=G4 (P:=P) (t:=ty) (by omega)
 have hx:a.eval (.tmp t)=.pointer (some ⟨blk,0,none⟩):=q1
 have hsi:(P.info? ty).map (·.size)=some 1:=by rw [i1];simp;omega
 simp only [execOp,ho,hx,hev,Instr.storeAt,Instr.sureAddr,Sem.run_bind,Sem.run_pure,Result.andThen_ok,Go.run_storeVar_one w blk e ty old u q2 hsi hone]
theorem WR {y:Operand} {t ty:Nat} {c c':DV} (h:RL P C ops Q (k+1) l ((t,.nb [c'])::env) H) (hsz:AA P ty=1) (hg:grd ops env o true=true:=by rfl) (ho:o.op=.store ty (.tmp t) y:=by rfl)
  (hv:get env t=.nb [c]:=by rfl) (hy:Bk (lk env y)=some c':=by rfl) (h1:c'.leaf=true:=by rfl) (hd:o.dst=none:=by rfl):RL P C ops Q k (o::l) env H :=
 .go hg (Wd hsz ho hv hy h1 hd h)
theorem mk' {α:Type} {F:List α→List DV} {x0:α} {x c:Operand} {ty t e by_:Nat} {z:Value} {q q':IntKind} {zl:Int} (n:Nat) (hF:List.replicate n (RW z)=F (List.replicate n x0)) (hn:zl=n) (hb:by_ * n≤281474976710656∧n≤9223372036854775807) (h:RL P C ops Q (k+1) l ((t,.own e (F (List.replicate n x0)))::env) H)
  (hT:B3 P ty=some (e,1,by_,z)) (hz:zok z=true) (hg:grd ops env o true=true:=by rfl) (ho:o.op=.makeSlice ty x c:=by rfl) (hx:lk env x=.d (.i q zl):=by rfl) (hc:lk env c=.d (.i q' zl):=by rfl) (hd:o.dst=some t:=by rfl)
  (hf:Ao (get env t)=false:=by rfl) (ht:okT C.nt t:=by rfl):RL P C ops Q k (o::l) env H :=
 mk n ⟨hn,hn⟩ hb (by rw [hF];exact h) hT hz hg ho hx hc hd hf ht
end
end Go.FL
namespace Go.FL
open Go Go.RowKit
def Xk : HO→Bool
 | .box cs=>noBpL cs
section
variable {P:Program} {C:Cx} {X:Snap} {o:Oper} {ops:Array Oper} {Q:Exit→Env→Ac→Prop} {env env':Env} {H H':Ac} {a:Act} {w w':World} {I I':Nat→Prop} {μ μ':List Nat} {O O':Nat→Option Loc}
 {K:Env→Ac→Prop} {k:Nat} {l:List Oper}
end
end Go.FL
namespace Go.FL
open Go Go.RowKit
section
variable {P:Program} {C:Cx} {X:Snap} {o:Oper} {ops:Array Oper} {Q:Exit→Env→Ac→Prop} {env env' envi:Env} {H H':Ac} {a:Act} {w w':World} {I I':Nat→Prop} {μ μ':List Nat} {O O':Nat→Option Loc}
 {K:Env→Ac→Prop} {k:Nat} {l:List Oper} {av:AV}
def QV : Nat:=1000000000
def Zo (P:Program) (C:Cx) (ops:Array Oper) (H:Ac) (env0 vals:Env) (tm i0 ty:Nat) (q:IntKind) (i:Nat) (o:Oper) (t:Nat) (v:AV) : Option (Int×DV)→Prop
 | none=>NJ P C ops H env0 vals o t v∧tm∉o.looksAt ops∧t<QV∧(i≠i0→t≠tm)∧(i=i0→t=tm∧v=.om [] [])
 | some (z,d)=>o.dst=none∧o.guard=none∧v=.un∧t=QV+i∧get env0 t=.un∧EJ ops i i0=true∧∃ x y,o.op=.insert ty (.tmp tm) x y∧(∀ e,lk e x=.d (.i q z)) ∧
   ((∀ e,lk e y=.d d)∨∃ s,y=.tmp s∧s≠tm∧s∈o.looksAt ops∧get (Bt (o.looksAt ops) vals++env0) s=.d d)
end
end Go.FL
namespace Go.FL
open Go Go.RowKit
section
variable {P:Program} {C:Cx} {X:Snap} {o:Oper} {ops:Array Oper} {Q:Exit→Env→Ac→Prop} {env env' envi env0 vals:Env} {H H':Ac} {a:Act} {w w':World} {I I':Nat→Prop} {μ μ':List Nat} {O O':Nat→Option Loc}
 {k:Nat} {l:List Oper} {av v:AV} {t tm i0 ty n:Nat} {q:IntKind} {ps qs:List (Int×DV)}
inductive DLM (P:Program) (C:Cx) (ops:Array Oper) (H:Ac) (env0:Env) (tm i0 ty:Nat) (q:IntKind) : Nat→Env→List (Int×DV)→List Oper→Env→List (Int×DV)→Prop
 | nil (n:Nat) (vals:Env) (ps:List (Int×DV)):DLM P C ops H env0 tm i0 ty q n vals ps [] vals ps
 | run {n:Nat} {vals fin:Env} {ps qs:List (Int×DV)} {o:Oper} {t:Nat} {v:AV} {l:List Oper} (hi:n≠i0) (hd:o.dst=some t) (ht:okT C.nt t) (h0:Rn (get env0 t)=true) (hn:(vals.map (·.1)).contains t=false) (hs:HK t v=true)
   (hg:grd ops (Bt (o.looksAt ops) vals++env0) o true=true) (hv:VOK P C o (Bt (o.looksAt ops) vals++env0) H v) (hr:CW (Bt (o.looksAt ops) vals++env0)=true) (hl:(o.looksAt ops).contains tm=false) (htd:t<QV) (htm:t≠tm)
   (h:DLM P C ops H env0 tm i0 ty q (n+1) ((t,v)::vals) ps l fin qs):DLM P C ops H env0 tm i0 ty q n vals ps (o::l) fin qs
 | mk {vals fin:Env} {ps qs:List (Int×DV)} {o:Oper} {l:List Oper} (hd:o.dst=some tm) (ht:okT C.nt tm) (h0:Rn (get env0 tm)=true) (hn:(vals.map (·.1)).contains tm=false)
   (hg:grd ops (Bt (o.looksAt ops) vals++env0) o true=true) (hv:VOK P C o (Bt (o.looksAt ops) vals++env0) H (.om [] [])) (hr:CW (Bt (o.looksAt ops) vals++env0)=true) (hl:(o.looksAt ops).contains tm=false) (htd:tm<QV)
   (h:DLM P C ops H env0 tm i0 ty q (i0+1) ((tm,.om [] [])::vals) ps l fin qs):DLM P C ops H env0 tm i0 ty q i0 vals ps (o::l) fin qs
 | ins {n:Nat} {vals fin:Env} {ps qs:List (Int×DV)} {o:Oper} {l:List Oper} {x y:Operand} {z:Int} {d:DV} (hi:n≠i0) (hd:o.dst=none) (hgn:o.guard=none) (hop:o.op=.insert ty (.tmp tm) x y) (hx:∀ e,lk e x=.d (.i q z))
   (hy:(∀ e,lk e y=.d d)∨∃ s,y=.tmp s∧s≠tm∧s∈o.looksAt ops∧get (Bt (o.looksAt ops) vals++env0) s=.d d) (hdi:EJ ops n i0=true) (h0:get env0 (QV+n)=.un)
   (h:DLM P C ops H env0 tm i0 ty q (n+1) ((QV+n,.un)::vals) (ps++[(z,d)]) l fin qs):DLM P C ops H env0 tm i0 ty q n vals ps (o::l) fin qs
theorem DLM.table {n:Nat} {vals fin:Env} {ps qs:List (Int×DV)} {l:List Oper} (h:DLM P C ops H env0 tm i0 ty q n vals ps l fin qs) : ∃ (tv:List (Nat×AV)) (iv:List (Option (Int×DV))),tv.length=l.length∧iv.length=l.length∧fin=tv.reverse++vals∧qs=ps++iv.filterMap id ∧
  ∀ (i:Nat) o,l[i]?=some o→∃ t v p,tv[i]?=some (t,v)∧iv[i]?=some p∧(n+i=i0→p=none)∧Zo P C ops H env0 ((tv.take i).reverse++vals) tm i0 ty q (n+i) o t v p:=by
 induction h with
 | nil n vals ps=>exact ⟨[],[],rfl,rfl,rfl,by simp,fun i o h=>by simp at h⟩
 | @run n vals fin ps qs o t v l hi hd ht h0 hn hs hg hv hr hl htd htm h ih =>
  obtain ⟨tv,iv,k1,k2,k3,k4,k5⟩:=ih
  refine ⟨(t,v)::tv,none::iv,by simp [k1],by simp [k2],by rw [k3];simp,by rw [k4];simp,fun i o' hio=>?_⟩
  cases i with
  | zero =>
   simp at hio;subst hio
   refine ⟨t,v,none,rfl,rfl,fun _=>rfl,⟨hd,ht,Mh h0,fun x hx e=>?_,hs,hr,.inl ⟨hg,hv⟩⟩,fun hm=>?_,htd,fun _=>htm,fun e=>absurd e hi⟩
   ·subst e
    have:(vals.map (·.1)).contains x.1=true:=List.contains_iff_mem.2 (List.mem_map_of_mem hx)
    rw [hn] at this;cases this
   ·have:=List.contains_iff_mem.2 hm
    rw [hl] at this;cases this
  | succ i =>
   obtain ⟨t',v',p',m1,m2,m3,m4⟩:=k5 i o' (by simpa using hio)
   have e:n+(i+1)=n+1+i:=by omega
   refine ⟨t',v',p',by simpa using m1,by simpa using m2,by rw [e];exact m3,?_⟩
   rw [e];simpa using m4
 | @mk vals fin ps qs o l hd ht h0 hn hg hv hr hl htd h ih =>
  obtain ⟨tv,iv,k1,k2,k3,k4,k5⟩:=ih
  refine ⟨(tm,.om [] [])::tv,none::iv,by simp [k1],by simp [k2],by rw [k3];simp,by rw [k4];simp,fun i o' hio=>?_⟩
  cases i with
  | zero =>
   simp at hio;subst hio
   refine ⟨tm,.om [] [],none,rfl,rfl,fun _=>rfl,⟨hd,ht,Mh h0,fun x hx e=>?_,rfl,hr,.inl ⟨hg,hv⟩⟩,fun hm=>?_,htd,fun e=>absurd rfl e,fun _=>⟨rfl,rfl⟩⟩
   ·subst e
    have:(vals.map (·.1)).contains x.1=true:=List.contains_iff_mem.2 (List.mem_map_of_mem hx)
    rw [hn] at this;cases this
   ·have:=List.contains_iff_mem.2 hm
    rw [hl] at this;cases this
  | succ i =>
   obtain ⟨t',v',p',m1,m2,m3,m4⟩:=k5 i o' (by simpa using hio)
   have e:i0+(i+1)=i0+1+i:=by omega
   refine ⟨t',v',p',by simpa using m1,by simpa using m2,by rw [e];exact m3,?_⟩
   rw [e];simpa using m4
 | @ins n vals fin ps qs o l x y z d hi hd hgn hop hx hy hdi h0 h ih =>
  obtain ⟨tv,iv,k1,k2,k3,k4,k5⟩:=ih
  refine ⟨(QV+n,.un)::tv,some (z,d)::iv,by simp [k1],by simp [k2],by rw [k3];simp,by rw [k4];simp,fun i o' hio=>?_⟩
  cases i with
  | zero =>
   simp at hio;subst hio
   exact ⟨QV+n,.un,some (z,d),rfl,rfl,fun e=>absurd e hi,hd,hgn,rfl,rfl,h0,hdi,x,y,hop,hx,hy⟩
  | succ i =>
   obtain ⟨t',v',p',m1,m2,m3,m4⟩:=k5 i o' (by simpa using hio)
   have e:n+(i+1)=n+1+i:=by omega
   refine ⟨t',v',p',by simpa using m1,by simpa using m2,by rw [e];exact m3,?_⟩
   rw [e];simpa using m4
end
end Go.FL
namespace Go.FL
open Go Go.Proofs
section
variable {P:Program} {C:Cx} {o:Oper} {ops:Array Oper} {Q:Exit→Env→Ac→Prop} {env:Env} {H:Ac} {k:Nat} {l:List Oper}
theorem freshK.nil {q:IntKind} {z:Int} : freshK q z []:=nofun
theorem freshK.snoc {q:IntKind} {z z':Int} {ks:List DV} (h:freshK q z ks) (hz:z'≠z) : freshK q z (ks++[.i q z']):=fun k hk=>by
 rcases List.mem_append.1 hk with h1|h1
 ·exact h k h1
 ·rw [List.mem_singleton] at h1
  exact ⟨z',h1,hz⟩
end
theorem gkR : Tryz.prog.underlying 21=some (.int .i32):=by kernel_rfl
theorem XF {n:Nat} : List.replicate n (RW (.int .i64 0))=Is (List.replicate n 0):=by simp [Is,RW]
abbrev HE : Type:=FW ((List Int)) (Int)
def GD (a0:Arr) : Option (Itm):=((Bu a0).bind fun x1=>(if x1=true then ((rd? a0.items 0).bind fun x2=>((Kt x2).bind fun x3=>(some (x3)))) else (some ((Itm.mk 0 (false,[],[]) 0 [])))))
def CX (a0:(List Int)) (K0:(List Int)→Option ((List Int))) : Nat→(List Int)→Int→Int→Option ((List Int))
 | 0,_,_,_=>none
 | k+1,s3,s4,s5=>(if 0≤s5 then ((rd? s3 s5).bind fun x6=>((rd? a0 s5).bind fun x7=>(CX a0 K0 k (List.set s3 (Int.toNat s5) s4) (w64 (s4 * x7)) (w64 (s5-1))))) else (K0 s3))
def Fe (a0:(List Int)) : Option ((List Int)):=((G6 (0≤((List.length a0:Nat) : Int)∧((List.length a0:Nat) : Int)≤17592186044416)).bind fun x1=>(jn (fun (z2:(List Int))=>(some (z2))) fun K0=>(CX a0 K0 AK (List.replicate (Int.toNat ((List.length a0:Nat) : Int)) (0:Int)) 1 (w64 (((List.length a0:Nat) : Int)-1)))))
def II (a0:(List Int)) (a1:(List Int)) (K0:Int→Option (Int)) : Nat→Int→Int→Option (Int)
 | 0,_,_=>none
 | k+1,s2,s3=>(if s3<((List.length a0:Nat):Int) then ((rd? a0 s3).bind fun x4=>((rd? a1 s3).bind fun x5=>(II a0 a1 K0 k (w64 (s2+(w64 (x4 * x5)))) (w64 (s3+1))))) else (K0 s2))
def P9 (a0:(List Int)) (a1:(List Int)) : Option (Int):=(jn (fun (z1:Int)=>(some (z1))) fun K0=>(II a0 a1 K0 AK 0 0))
def Iv (a1:(List Int)) (x3:(List Int)) (s8:Int) (K3:(List Int)→Option (Arr×Int)) : Nat→(List Int)→Int→Option (Arr×Int)
 | 0,_,_=>none
 | k+1,s12,s13=>(if s13<((List.length x3:Nat):Int) then ((rd? x3 s13).bind fun x14=>((G6 (x14≠0)).bind fun x15=>((rd? a1 s13).bind fun x16=>((G6 (x16≠0)).bind fun x17=>((rd? s12 s13).bind fun x18=>(Iv a1 x3 s8 K3 k (List.set s12 (Int.toNat s13) (Int.tmod (w64 (Int.tdiv s8 x14)) x16)) (w64 (s13+1)))))))) else (K3 s12))
def Gx (a0:Arr) (a1:(List Int)) (a2:HE) (x1:Int×Int) (x2:Itm) (x3:(List Int)) (K0:(List Itm)→Option (Arr×Int)) : Nat→(List Int)→(List Itm)→Int→Option (Arr×Int)
 | 0,_,_,_=>none
 | k+1,s6,s7,s8=>(if s8<x1.1 then (jn (fun (z9:(List Int)) (z10:(List Itm))=>(Gx a0 a1 a2 x1 x2 x3 K0 k z9 z10 (w64 (s8+1)))) fun K2=>(jn (fun (z11:(List Int))=>((a2.g z11).bind fun x19=>(if 0≤x19 then ((rd? a0.items x19).bind fun x20=>((ap? 1466015503701 s7 [x20]).bind fun x21=>(K2 z11 x21))) else ((ap? 1466015503701 s7 [x2]).bind fun x22=>(K2 z11 x22))))) fun K3=>(Iv a1 x3 s8 K3 AK s6 0))) else (K0 s7))
def Es (a0:Arr) (a1:(List Int)) (a2:HE) : Option (Arr×Int):=((Dc a1).bind fun x1=>(if x1.2=0 then ((GD a0).bind fun x2=>((Fe a1).bind fun x3=>((G6 (0≤((List.length a1:Nat) : Int)∧((List.length a1:Nat) : Int)≤17592186044416)).bind fun x4=>(jn (fun (z5:(List Itm))=>(jn (fun (z23:(List Itm))=>((BK a1 z23).bind fun x25=>(some (x25.1,x25.2)))) fun K5=>(if x1.1=0 then ((ap? 1466015503701 z5 [x2]).bind fun x24=>(K5 x24)) else (K5 z5)))) fun K0=>(Gx a0 a1 a2 x1 x2 x3 K0 AK (List.replicate (Int.toNat ((List.length a1:Nat) : Int)) (0:Int)) [] 0))))) else (some ((Arr.mk [] []),x1.2))))
def Nt : List Int→List Int×Int
 | []=>([],1)
 | x::xs=>((Nt xs).2::(Nt xs).1,w64 ((Nt xs).2 * x))
theorem Kl {a:List Int} (hl:a.length≤17592186044416) (K:List Int→Option (List Int)) : ∀ (i k:Nat),i≤a.length→i<k →
  CX a K k (List.replicate i 0++(Nt (a.drop i)).1) (Nt (a.drop i)).2 ((i:Int)-1)=K (Nt a).1
 | _,0,_,h=>by omega
 | 0,k+1,_,_=>by rw [CX,if_neg (by omega)];rfl
 | i+1,k+1,hi,hk=>by
  have hlt:i<a.length:=by omega
  rw [CX,if_pos (by omega)]
  have e0:((i+1:Nat):Int)-1=(i:Int):=by omega
  have e1:List.replicate (i+1) (0:Int)++(Nt (a.drop (i+1))).1=List.replicate i 0++0::(Nt (a.drop (i+1))).1:=by
   rw [List.replicate_succ',List.append_assoc];rfl
  rw [e0,e1,Cf (by simp),oB,Cf hlt,oB,Int.toNat_natCast,List.set_append_right _ _ (by simp),List.length_replicate,Nat.sub_self,List.set_cons_zero,show w64 ((i:Int)-1)=(i:Int)-1 from C2 (by omega) (by omega)]
  have e2:a.drop i=a[i]::a.drop (i+1):=lC hlt
  have ih:=Kl hl K i k (by omega) (by omega)
  rw [e2] at ih
  exact ih
theorem NB {a:List Int} (hl:a.length≤17592186044416) : Fe a=some (Nt a).1:=by
 unfold Fe
 have hg:G6 (0≤((List.length a:Nat):Int)∧((List.length a:Nat):Int)≤17592186044416)=some ():=if_pos (by omega)
 rw [hg,oB,Dk]
 have:=Kl hl (fun z=>some z) a.length AK (Nat.le_refl _) (CB (by omega))
 rw [List.drop_of_length_le (Nat.le_refl _)] at this
 rw [Int.toNat_natCast,C2 (by omega) (by omega)]
 rw [show (Nt []).1=[] from rfl,List.append_nil] at this
 exact this
theorem VN {a:Arr} (oa:okAr a) (ra:Bm a) : GD a=some (tyI (a.items.headD default)):=by
 have hp:=I7 ra
 unfold GD
 rw [J7 oa,oB,dT ra,if_pos rfl]
 cases hi:a.items with
 | nil=>rw [hi] at hp;simp at hp
 | cons x xs =>
  obtain ⟨ox,rx⟩:=Da oa ra (x:=x) (by rw [hi];simp)
  rw [LK,oB,Qe ox rx.1];rfl
theorem YU {α:Type} {L r:List α} {j:Nat} (hl:L.length=r.length) (h:j<L.length) : (L.take j++r.drop j).set j L[j]=L.take (j+1)++r.drop (j+1):=by
 have hj:(L.take j).length=j:=by rw [List.length_take];omega
 have e:r.drop j=r[j]'(by omega)::r.drop (j+1):=lC (by omega)
 rw [e,List.set_append_right _ _ (by omega),hj,Nat.sub_self,List.set_cons_zero,List.take_succ_eq_append_getElem h,List.append_assoc]
 rfl
def ZD (a:Arr) (p:Itm) (j:Int) : Itm:=if 0≤j then a.items.getD j.toNat default else p
theorem RS {a:Arr} {s:List Int} {F:HE} {p:Itm} (hp:GD a=some p) (hl:s.length≤17592186044416) (hs:szP s=(0,0)) : Es a s F=BK s [p]:=by
 have hg:G6 (0≤((List.length s:Nat):Int)∧((List.length s:Nat):Int)≤17592186044416)=some ():=if_pos (by omega)
 have hF:AK=999999999999999+1:=rfl
 unfold Es
 rw [L6 hl,oB,hs,if_pos rfl,hp,oB,NB hl,oB,hg,oB,Dk,hF,Gx,if_neg (by decide),Dk,if_pos rfl,Na (by simp),oB]
 show ((BK s [p]).bind fun x25=>some (x25.1,x25.2))=_
 generalize BK _ _=m
 cases m<;>rfl
theorem Yl {xs:List Itm} {d:Nat} (h:∀ x∈xs,dI x≤d) : dIs xs≤d:=by
 induction xs with
 | nil=>exact Nat.zero_le _
 | cons x xs ih =>
  rw [dIs]
  have h1:=h x (by simp)
  have h2:=ih fun y hy=>h y (by simp [hy])
  omega
theorem I6 {x:Itm} : ∀ {xs:List Itm},x∈xs→dI x≤dIs xs
 | y::ys,h=>by
  rw [dIs]
  rcases List.mem_cons.1 h with rfl|h
  ·omega
  ·have:=I6 h;omega
theorem Tn {a:Arr} (oa:okAr a) (ra:Bm a) (hz:szP a.shape=(0,0)) {s:List Int} (hs64:∀ z∈s,-9223372036854775808≤z∧z≤9223372036854775807) (hl:s.length≤17592186044416) (hsz:szP s=(0,0)) {p:Itm} (hp:p=a.items.headD default∨p=tyI (a.items.headD default)) :
  BK s [p]=some (.mk s [tyI (a.items.headD default)],0):=by
 have hne:=I7 ra
 obtain ⟨r1,r2,r3⟩:=ra
 have hlen:a.items.length=1:=by
  have:=(Kz r1).2.1
  rw [hz] at this
  rw [if_pos (by decide)] at this
  omega
 obtain ⟨x,hx⟩:=List.length_eq_one_iff.1 hlen
 have hx':a.items.headD default=x:=by rw [hx];rfl
 rw [hx'] at hp ⊢
 obtain ⟨ox,rx⟩:=Da oa ⟨r1,r2,r3⟩ (x:=x) (by rw [hx];simp)
 obtain ⟨t1,t2,t3,t4,t5,t6⟩:=Rz ox rx.1
 have hns:∀ {s:List Int} {i:List Itm},szP s=(0,0)→AI (.mk s i)=false:=by
  intro s i h
  unfold AI
  cases s with
  | nil=>exact absurd (congrArg Prod.fst h) (by decide)
  | cons y ys=>rfl
 have hpr:okI p∧AD p∧tyI p=tyI x:=by
  rcases hp with rfl|rfl
  ·exact ⟨ox,rx,rfl⟩
  ·exact ⟨t6,⟨t1,t2▸rx.2.1,t3▸rx.2.2⟩,t4⟩
 have hmk:Ci (szP s).1 [p]=[tyI x]:=by
  rw [hsz];show [tyI p]=_;rw [hpr.2.2]
 have hR:Bm (.mk s [tyI x]):=by
  have e1:dA a=1+dI x:=by
   have:AI a=false:=by have:=hns (i:=a.items) hz;rwa [Arr.eta] at this
   rw [GX,this,if_neg (by decide),hx,dIs,dIs,Nat.max_zero]
  have e2:cA a=1+cI x:=by rw [H8,hx];simp [cIs]
  refine ⟨?_,?_,?_⟩
  ·rw [Ik,Fu,Ee,hsz,Ff.2 (by simpa using t1)];rfl
  ·rw [GX,hns hsz,if_neg (by decide),Ee,dIs,dIs,Nat.max_zero,t2];omega
  ·rw [H8,Ee];simp only [cIs,List.length_singleton];omega
 have hc:¬([p]=[]∨¬∀ y∈[p],AD y):=fun q=>q.elim (fun e=>by cases e) fun q=>q fun y hy=>by rw [List.mem_singleton] at hy;subst hy;exact hpr.2.1
 rw [L4 hs64 hl (by simp) (fun y hy=>by rw [List.mem_singleton] at hy;subst hy;exact hpr.1),hmk,if_neg (by rw [hsz];exact fun q=>q rfl),if_neg hc,if_pos hR]
def AM (a0:(List Arr)) (a1:CC) (K0:Int→Option (Int)) : Nat→Int→Int→Option (Int)
 | 0,_,_=>none
 | k+1,s2,s3=>(if s3<((List.length a0:Nat):Int) then ((rd? a0 s3).bind fun x4=>((a1.g x4).bind fun x5=>(if x5=true then (some (s3)) else (AM a0 a1 K0 k s2 (w64 (s3+1)))))) else (K0 s2))
def Br (a0:(List Arr)) (a1:CC) : Option (Int):=(jn (fun (z1:Int)=>(some ((-1)))) fun K0=>(AM a0 a1 K0 AK 0 0))
theorem DE {a0:(List Arr)} {a1:CC} (oa1:J1 a1) {r:Int} (h:Br a0 a1=some r) :
  Fn Tryz.prog 154 [.sl (Ars a0),a1.dv] (.d (.i .i64 r)):=by
 unfold Br at h
 refine Fn.o1 4 19 Tryz.func154 ?_;refine .sr ?_;refine ar [0,1,4] ?_;refine .seq ?_;refine .sr ?_;refine va ?_;refine vk (A8 (BL _) (E0 _) E5) ?_;refine va ?_;refine rk [0,1,4,7,8] ?_
 obtain ⟨K0,hK0,h⟩:=AP h
 refine AW.mr (σ:=Int) (fun p=>K0 p=some r) (fun p=>[(4,.d (.i .i64 p))]) (fun p=>[]) ?_ ?_
 ·skip
  refine .block ?_
  refine .loop (.gk [0,1,4,7,8] ?_)
  refine AL.ind (σ:=Nat×Int×Int) (m:=fun p=>p.1) (e:=fun p=>[(0,.d (.sl (Ars a0))),(1,.d (a1.dv)),(4,.d (.i .i64 p.2.1)),(7,.d (.i .i64 ((List.length a0:Nat):Int))),(8,.d (.i .i64 p.2.2))]) (h:=fun p=>[]) (I:=fun p=>AM a0 a1 K0 p.1 p.2.1 p.2.2=some r) ?_ (AK,0,0) h
  rintro ⟨k,s2,s3⟩ h ih
  dsimp only at h ih ⊢
  rcases k with _|k
  ·rw [AM] at h;cases h
  rw [AM] at h
  refine .sr ?_;refine vb ?_;refine rk [0,1,4,7,8,9] ?_;refine .seq ?_
  rcases brc h with ⟨hc,h⟩|⟨hc,h⟩
  ·refine cnt (dT hc) ?_
   refine .sk ?_;refine .seq ?_;refine .block ?_;refine .sr ?_;refine va ?_;refine ar [0,1,4,5,7,8] ?_;refine .sr ?_;refine va ?_;refine va ?_;refine va ?_
   obtain ⟨x4,g4,h⟩:=bnd h
   obtain ⟨n4,p04,q4⟩:=Aj g4
   refine vk (vix n4 p04 (Db q4) rfl Dj) ?_;refine vk (Aq Al Ad) ?_
   obtain ⟨x5,g5,h⟩:=bnd h
   refine vk (MC (oa1 _ _ g5)) ?_;refine rk [0,1,4,5,7,8,16] ?_
   rcases brc h with ⟨hc,h⟩|⟨hc,h⟩
   ·refine cnt hc ?_
    refine .sr ?_;refine va ?_;refine ar [0,1,4,7,8] ?_;refine .ret ?_
    cases h
    exact ⟨rfl,rfl⟩
   refine cnf (bf hc) ?_;refine .sk ?_;refine .region ?_;refine vb ?_;refine va ?_;refine .nil ?_;refine AL.gk [0,1,4,7,8] ?_
   exact ih (k,s2,(w64 (s3+1))) h (Nat.lt_succ_self _)
  refine cnf (dF hc) ?_;refine .gk [4] ?_;refine .exit ?_
  exact jr (s2) h
 rintro z1 h
 try dsimp only at h ⊢
 subst hK0
 refine aw ?_;refine .sr ?_;refine ar [4] ?_;refine .ret ?_
 cases h
 exact ⟨rfl,rfl⟩
def AZ (a0:(List Arr)) (a1:CC) : Option (Bool):=((Br a0 a1).bind fun x1=>(some ((decide (0≤x1)))))
theorem BN {a0:(List Arr)} {a1:CC} (oa1:J1 a1) {r:Bool} (h:AZ a0 a1=some r) :
  Fn Tryz.prog 95 [.sl (Ars a0),a1.dv] (.d (.b r)):=by
 unfold AZ at h
 refine Fn.o1 4 9 Tryz.func95 ?_;refine .sr ?_;refine ar [0,1,4] ?_;refine .sr ?_;refine va ?_;refine va ?_
 obtain ⟨x1,g1,h⟩:=bnd h
 refine vk (Ah (DE oa1 g1) Tryz.call154) ?_;refine vb ?_;refine ar [4] ?_;refine .ret ?_
 cases h
 exact ⟨rfl,rfl⟩
end Go.FL
namespace Go.FL
open Go Go.RowKit
section
variable {P:Program} {C:Cx} {o:Oper} {ops:Array Oper} {Q:Exit→Env→Ac→Prop} {env:Env} {H:Ac} {k:Nat} {l:List Oper}
theorem YS {x:Operand} {src dst:Nat} {q:IntKind} {n:Int} (hs:(P.underlying src).isSome=true) (hd:P.underlying dst=some .string) (ho:o.op=.convert src dst x:=by rfl) (hv:lk env x=.d (.i q n):=by rfl) : VOK P C o env H (.d (.s (Utf8.encode n))):=by
 obtain ⟨h1,h2⟩:=Av hv (by simp)
 refine .pv ⟨by simp [ho],fun X a w I μ O _ hs'=>⟨.string (Utf8.encode n),?_,.of_rep (.s _)⟩⟩
 have e1:=hs'.look_i h1 h2
 have:=run_convert_int_string (P:=P) w src dst q n hs hd
 simp only [execOp,ho,e1,Sem.run_bind,this,Result.andThen_ok,Sem.run_pure]
theorem YQ {x y:Operand} {ty:Nat} {s:ByteArray} {q:IntKind} {z:Int} (n:Nat) (hn:z=n∧n≤s.size) (hty:P.underlying ty=some .string) (ho:o.op=.slice ty x (some y) none none:=by rfl) (hv:lk env x=.d (.s s):=by rfl) (hi:lk env y=.d (.i q z):=by rfl) :
  VOK P C o env H (.d (.s (s.extract n s.size))):=by
 obtain ⟨rfl,hl⟩:=hn
 obtain ⟨h1,h2⟩:=Av hv (by simp)
 obtain ⟨h3,h4⟩:=Av hi (by simp)
 refine .pv ⟨by simp [ho],fun X a w I μ O _ hs=>⟨.string (s.extract n s.size),?_,.of_rep (.s _)⟩⟩
 have e1:=hs.look_s h1 h2
 have e2:=hs.look_i h3 h4
 have:=run_slice_string_l (P:=P) w ty s hty q (n:Int) (by omega) (by omega)
 rw [Int.toNat_natCast] at this
 simp only [execOp,ho,e1,Option.map_none,Option.map_some,e2,Instr.sliceAt,Sem.run_bind,run_underlying hty,this,Result.andThen_ok,Sem.run_pure]
theorem Zh {c:Call} {fo:Operand} {f:FuncId} {s:ByteArray} {b z:Int} (he:∀ w,(callFunc f #[.string s,.int .u8 b]).run P w=.ok (.value (.int .i64 z)) w) (ho:o.op=.call c:=by rfl) (hc:c.callee=.value fo:=by rfl) (hf:lk env fo=.d (.fn f [] []):=by rfl)
  (ha:argsD env c.args.toList=some [.s s,.i .u8 b]:=by rfl):VOK P C o env H (.d (.i .i64 z)):=by
 refine .pv ⟨by simp [ho],fun X a w I μ O _ hs=>⟨.int .i64 z,?_,.of_rep (.i _ _)⟩⟩
 have hfr:=hs.deep (x:=fo) (v:=.fn f [] []) (by rw [hf];rfl)
 generalize hev:a.eval fo=u at hfr
 cases hfr with
 | fn _ _ _ fs cs hfs hcs =>
  cases hfs
  cases hcs
  have hres:=CH (P:=P) (w:=w) (ρ:=a.eval) (ty:=o.type) hc hev
  have h:=hs.argsD ha
  have e:c.args.map a.eval=#[.string s,.int .u8 b]:=by
   apply Array.ext'
   rw [Array.toList_map]
   generalize c.args.toList.map a.eval=l at h
   cases h with
   | cons h1 h2 =>
    cases h1
    cases h2 with
    | cons h3 h4=>cases h3;cases h4;rfl
  have he':=he w
  rw [← e] at he'
  simp only [execOp,ho,Sem.run_bind,hres,Result.andThen_ok,invoke,List.toArray,Array.append_empty,Array.empty_append,he']
end
def noG (Q:Exit→Env→Ac→Prop) : Exit→Env→Ac→Prop
 | .goto _,_,_=>False
 | e,env,H=>Q e env H
section
variable {P:Program} {b:Frame} {a:Act} {k:List Item} {cs:List Frame} {w:World}
theorem Hg {c:Code} : step P (lone (b.atR a (.code (.scope c)::k)) cs w)=.next (lone (b.atR a (.code c::.inScope c::k)) cs w) :=
 step_lone_go (by simp [stepG,stepG.exec,Frame.atR])
theorem T9 {c:Code} : step P (lone (b.atR a (.inScope c::k)) cs w)=.next (lone (b.atR a k) cs w) :=
 step_lone_go (by simp [stepG,stepG.exec,Frame.atR])
end
theorem AW.scope {P:Program} {C:Cx} {c:Code} {Q:Exit→Env→Ac→Prop} {env:Env} {H:Ac} (h:AW P C c (noG Q) env H) : AW P C (.scope c) Q env H:=by
 intro X a w I μ O h1 h2 h3 hs b k cs hro hb hr
 have h0:(lone (b.atR a (.code (.scope c)::k)) cs w).fenced P (om C.ro):=fenced_calm hb hr rfl
 obtain ⟨e,a₁,w₁,hq,harr⟩:=h X a w I μ O h1 h2 h3 hs b (.inScope c::k) cs hro hb hr
 obtain ⟨env',H',I',μ',O',s,q⟩:=hq
 cases e with
 | normal=>exact ⟨.normal,a₁,w₁,⟨env',H',I',μ',O',s,q⟩,.head h0 Hg (StepsIn.trans harr (.one (fenced_calm hb hr rfl) T9))⟩
 | exit id =>
  have hx:exitTo id (.inScope c::k)=exitTo id k:=by simp [exitTo]
  exact ⟨.exit id,a₁,w₁,⟨env',H',I',μ',O',s,q⟩,fun k' hk=>.head h0 Hg (harr.1 k' (by rw [hx];exact hk)),
   fun hr' hk=>let ⟨k₁,h1,h2⟩:=harr.2 hr' (by rw [hx];exact hk);⟨k₁,h1,.head h0 Hg h2⟩⟩
 | goto l=>exact q.elim
 | ret=>exact ⟨_,a₁,w₁,⟨env',H',I',μ',O',s,q⟩,.of_steps (.one h0 Hg) harr⟩
 | panic ch=>exact ⟨_,a₁,w₁,⟨env',H',I',μ',O',s,q⟩,.of_steps (.one h0 Hg) harr⟩
 | outgrown=>exact ⟨_,a₁,w₁,⟨env',H',I',μ',O',s,q⟩,.of_steps (.one h0 Hg) harr⟩
end Go.FL
namespace Go.FL
open Go Go.Proofs Go.RowKit
theorem stS : Tryz.prog.underlying 9=some .string:=by kernel_rfl
theorem Yv (s:ByteArray) (b:Int) (w:World) : (callFunc 263 #[.string s,.int .u8 b]).run Tryz.prog w=.ok (.value (.int .i64 (Lib.indexByte s.data.toList b.toNat.toUInt8))) w:=by
 rw [run_callFunc_extern Tryz.func263 (by kernel_rfl) (by kernel_rfl) (by kernel_rfl) (e:=Extern.BytealgIndexByte.indexByte) (by kernel_rfl),Lib.run_indexByteString]
 rfl
def JK (s:ByteArray) (b:Int) : Int:=Lib.indexByte s.data.toList b.toNat.toUInt8
theorem P0 (s:ByteArray) (b:Int) : Fn Tryz.prog 239 [.s s,.i .u8 b] (.d (.i .i64 (JK s b))):=by
 refine Fn.of (rs:=[.tmp 4]) (nt:=8) Tryz.func239 rfl rfl rfl (by simp) rfl ?_;refine .seq ?_;refine .region ?_;refine asd ?_;refine rn ?_;refine .seq ?_;refine .region ?_;refine vk (Ae) ?_;refine vk (Ae) ?_;refine vk (Zh (Yv s b)) ?_;refine asd ?_;refine rn ?_;refine .ret ?_
 exact ⟨rfl,rfl⟩
theorem KC (s:ByteArray) (b:Int) : Fn Tryz.prog 198 [.s s,.i .u8 b] (.d (.i .i64 (JK s b))):=by
 refine Fn.of (rs:=[.tmp 4]) (nt:=8) Tryz.func198 rfl rfl rfl (by simp) rfl ?_;refine .seq ?_;refine .region ?_;refine asd ?_;refine rn ?_;refine .seq ?_;refine .region ?_;refine vk (Ae) ?_;refine vk (Ae) ?_;refine vk (Ah (P0 s b) Tryz.call239) ?_;refine asd ?_;refine rn ?_;refine .ret ?_
 exact ⟨rfl,rfl⟩
def CV (a0:Int) : Option (Bool):=(if ((decide (0≤a0))&&(decide (a0<55296)))=true then (some (true)) else (if ((decide (57343<a0))&&(decide (a0≤1114111)))=true then (some (true)) else (some (false))))
theorem GF {a0:Int} {r:Bool} (h:CV a0=some r) :
  Fn Tryz.prog 199 [.i .i32 a0] (.d (.b r)):=by
 unfold CV at h
 refine Fn.of (rs:=[.tmp 2]) (nt:=17) Tryz.func199 rfl rfl rfl (by simp) rfl ?_;refine .seq ?_;refine .region ?_;refine asd ?_;refine rn ?_;refine .gh (Gh.keep [0,2] rfl) ?_;refine .seq ?_;refine .block ?_;refine .seq ?_;refine AW.mr (σ:=Unit) (fun _=>True) (fun _=>[(0,.d (.i .i32 a0)),(2,.d (.b false)),(3,.d (.b ((decide (0≤a0))&&(decide (a0<55296)))))]) (fun _=>[]) ?_ ?_
 ·skip
  refine .region ?_;refine vk (Ae) ?_;refine vk (vbi) ?_
  by_cases hc:0≤a0
  ·have hb0:(decide (0≤a0))=true:=(dT hc)
   refine vk (VOK.lit (Ae) hb0) ?_;refine vk (Ae) ?_;refine vk (vbi) ?_;refine vk (Ag) ?_;refine asd ?_;refine RL.gh (Gh.keep [0,2,3] rfl) ?_;refine .nil ?_
   exact jr () trivial (by simp only [hb0];rfl)
  have hb0:(decide (0≤a0))=false:=(dF hc)
  refine vk (VOK.lit (Ae) hb0) ?_;refine gf2 ?_;refine vk (Ag) ?_;refine asd ?_;refine RL.gh (Gh.keep [0,2,3] rfl) ?_;refine .nil ?_
  exact jr () trivial (by simp only [hb0];rfl)
 rintro _ _
 by_cases hc:((decide (0≤a0))&&(decide (a0<55296)))=true
 ·replace h:=MK hc h
  refine cnt hc ?_;refine .seq ?_;refine .region ?_;refine asd ?_;refine rn ?_;refine .gh (Gh.keep [2] rfl) ?_;refine .ret ?_
  cases h
  exact ⟨rfl,rfl⟩
 replace h:=MO hc h
 refine cnf (bf hc) ?_;refine .seq ?_;refine AW.mr (σ:=Unit) (fun _=>True) (fun _=>[(2,.d (.b false)),(10,.d (.b ((decide (57343<a0))&&(decide (a0≤1114111)))))]) (fun _=>[]) ?_ ?_
 ·skip
  refine .region ?_;refine vk (Ae) ?_;refine vk (vbi) ?_
  by_cases hc:57343<a0
  ·have hb0:(decide (57343<a0))=true:=(dT hc)
   refine vk (VOK.lit (Ae) hb0) ?_;refine vk (Ae) ?_;refine vk (vbi) ?_;refine vk (Ag) ?_;refine asd ?_;refine RL.gh (Gh.keep [2,10] rfl) ?_;refine .nil ?_
   exact jr () trivial (by simp only [hb0];rfl)
  have hb0:(decide (57343<a0))=false:=(dF hc)
  refine vk (VOK.lit (Ae) hb0) ?_;refine gf2 ?_;refine vk (Ag) ?_;refine asd ?_;refine RL.gh (Gh.keep [2,10] rfl) ?_;refine .nil ?_
  exact jr () trivial (by simp only [hb0];rfl)
 rintro _ _
 by_cases hc:((decide (57343<a0))&&(decide (a0≤1114111)))=true
 ·replace h:=MK hc h
  refine cnt hc ?_;refine .seq ?_;refine .region ?_;refine asd ?_;refine rn ?_;refine .gh (Gh.keep [2] rfl) ?_;refine .ret ?_
  cases h
  exact ⟨rfl,rfl⟩
 replace h:=MO hc h
 refine cnf (bf hc) ?_;refine .skip ?_;refine aw ?_;refine .seq ?_;refine .region ?_;refine asd ?_;refine rn ?_;refine .gh (Gh.keep [2] rfl) ?_;refine .ret ?_
 cases h
 exact ⟨rfl,rfl⟩
theorem Rh (s:ByteArray) (r:Int) (h0:0≤r) (h1:r<128) : Fn Tryz.prog 153 [.s s,.i .i32 r] (.d (.i .i64 (JK s r))):=by
 refine Fn.of (rs:=[.tmp 4]) (nt:=187) Tryz.func153 rfl rfl rfl (by simp) rfl ?_;refine .seq ?_;refine .region ?_;refine asd ?_;refine rn ?_;refine .gh (Gh.keep [0,1,4] rfl) ?_;refine .block ?_;refine .seq ?_;refine .region ?_;refine vk (Ae) ?_;refine vk (vbi) ?_
 have hb0:(decide (0≤r))=true:=dT h0
 refine vk (VOK.lit (Ae) hb0) ?_;refine vk (Ae) ?_;refine vk (vbi) ?_;refine vk (Ag) ?_;refine asd ?_;refine rn ?_;refine .gh (Gh.keep [0,1,4,160] rfl) ?_;refine cnt (dT h1) ?_;refine .seq ?_;refine .region ?_;refine vk (Ae) ?_;refine vk (Ae) ?_
 have hw:IntKind.u8.wrap r=r:=by
  simp only [IntKind.wrap,IntKind.bits,IntKind.signed]
  simp
  omega
 refine vk (Qk (q1:=.i32) r hw (by kernel_rfl) (by kernel_rfl)) ?_;refine vk (Ah (KC s r) Tryz.call198) ?_;refine asd ?_;refine rn ?_;refine .ret ?_
 exact ⟨rfl,rfl⟩
theorem Ln (s:ByteArray) (r:Int) {x0 x1 x2 y2 p:Nat} (h0:2048≤r) (h1:r<55296) (he:Hq (Utf8.encode r)=[x0,x1,x2]) (hs:s.size≤1000) (h2:(Hq s)[2]?=some y2)
  (hc:(y2=x2∧p=2)∨(y2≠x2∧3≤p∧JK (s.extract 3 s.size) x2=(p:Int)-3)) (hp1:(Hq s)[p-1]?=some x1) (hp0:(Hq s)[p-2]?=some x0) (hp:p<s.size) :
  Fn Tryz.prog 153 [.s s,.i .i32 r] (.d (.i .i64 ((p:Int)-2))):=by
 have hes:(Utf8.encode r).size=3:=by rw [← Fp,he];rfl
 have hsub:DV.i .i64 (IntKind.i64.wrap (((Utf8.encode r).size:Int)-1))=.i .i64 2:=by rw [hes];rfl
 have hv:CV r=some true:=by
  unfold CV
  rw [dT (show (0:Int)≤r by omega),dT h1];rfl
 have h3:3≤s.size:=by
  have:=(lS.1 h2).1
  rw [Fp] at this;omega
 refine Fn.of (rs:=[.tmp 4]) (nt:=187) Tryz.func153 rfl rfl rfl (by simp) rfl ?_;refine .seq ?_;refine .region ?_;refine asd ?_;refine rn ?_;refine .gh (Gh.keep [0,1,4] rfl) ?_;refine .block ?_;refine .seq ?_;refine .region ?_;refine vk (Ae) ?_;refine vk (vbi) ?_
 have hb0:(decide (0≤r))=true:=dT (by omega)
 refine vk (VOK.lit (Ae) hb0) ?_;refine vk (Ae) ?_;refine vk (vbi) ?_;refine vk (Ag) ?_;refine asd ?_;refine rn ?_;refine .gh (Gh.keep [0,1,4,160] rfl) ?_;refine cnf (show decide (r<128)=false from dF (by omega)) ?_;refine .seq ?_;refine .region ?_;refine vk (Ae) ?_;refine vk (vbi) ?_;refine asd ?_;refine rn ?_;refine .gh (Gh.keep [0,1,4,171] rfl) ?_;refine cnf (show decide (r=65533)=false from dF (by omega)) ?_;refine .seq ?_;refine .region ?_;refine vk (Ae) ?_;refine vk (Ah (GF hv) Tryz.call199) ?_;refine vk (vnt) ?_;refine asd ?_;refine rn ?_;refine .gh (Gh.keep [0,1,4,183] rfl) ?_;refine Be ?_;refine .scope ?_;refine .seq ?_;refine .region ?_;refine vk (Ae) ?_;refine vk (YS (by kernel_rfl) stS) ?_;refine asd ?_;refine rn ?_;refine .gh (Gh.keep [0,1,4,7] rfl) ?_;refine .seq ?_;refine .region ?_;refine vk (Ae) ?_;refine vk (Ve stS) ?_;refine vk (Ll (.i .i64 2) ⟨trivial,hsub⟩) ?_;refine asd ?_;refine rn ?_;refine .gh (Gh.keep [0,1,4,7,8] rfl) ?_;refine .seq ?_;refine .region ?_;refine vk (Ae) ?_;refine asd ?_;refine rn ?_;refine .gh (Gh.keep [0,1,4,7,8,9] rfl) ?_;refine .seq ?_;refine .region ?_;refine asd ?_;refine rn ?_;refine .gh (Gh.keep [0,1,4,7,8,9,10] rfl) ?_;refine .seq ?_;refine .block ?_
 refine .loop (.round ?_)
 refine .seq ?_;refine .seq ?_;refine .region ?_;refine vk (Ae) ?_;refine vk (Ae) ?_;refine vk (Ve stS) ?_;refine vk (vbi) ?_;refine rn ?_;refine .gh (Gh.keep [0,1,4,7,8,9,10,26] rfl) ?_;refine cnt (show decide ((2:Int)<((s.size:Nat):Int))=true from dT (by omega)) ?_;refine .skip ?_;refine aw ?_;refine .block ?_;refine .scope ?_;refine .seq ?_;refine .seq ?_;refine .drawn 7 A2 (by kernel_rfl) ?_;refine dv (Ae) ?_;refine dv (Ae) ?_;refine dv (PY 2 y2 rfl h2 stS) ?_;refine dv (Ae) ?_;refine dv (Ae) ?_;refine dv (PY 2 x2 rfl (by rw [he];rfl) stS) ?_;refine dv (vbi) ?_;refine dz ?_;refine rn ?_;refine .gh (Gh.keep [0,1,4,7,8,9,10,33] rfl) ?_;refine AW.mr (σ:=Unit) (fun _=>True) (fun _=>[(0,.d (.s s)),(1,.d (.i .i32 r)),(4,.d (.i .i64 0)),(7,.d (.s (Utf8.encode r))),(8,.d (.i .i64 2)),(9,.d (.i .i64 (p:Int))),(10,.d (.i .i64 0))]) (fun _=>[]) ?_ ?_
 ·skip
  rcases hc with ⟨hc1,hc2⟩|⟨hc1,hc2,hc3⟩
  ·subst hc2
   refine cnf (ntf (dT (show (y2:Int)=x2 by omega))) ?_;refine .gh (Gh.keep [0,1,4,7,8,9,10] rfl) ?_;refine .skip ?_
   exact jr () trivial rfl
  have hI:=KC (s.extract 3 s.size) x2
  rw [hc3] at hI
  refine cnt (ntt (dF (show ¬(y2:Int)=x2 by omega))) ?_;refine .seq ?_;refine .drawn 8 A2 (by kernel_rfl) ?_;refine dv (Ae) ?_;refine dv (Ae) ?_;refine dv (vad 3 ⟨rfl,by decide,by decide⟩) ?_;refine dv (YQ 3 ⟨rfl,h3⟩ stS) ?_;refine dv (Ae) ?_;refine dv (Ae) ?_;refine dv (PY 2 x2 rfl (by rw [he];rfl) stS) ?_;refine dv (Ah hI Tryz.call198) ?_;refine dz ?_;refine asd ?_;refine rn ?_;refine .gh (Gh.keep [0,1,4,7,8,9,10,11] rfl) ?_;refine .seq ?_;refine .seq ?_;refine .region ?_;refine vk (Ae) ?_;refine vk (vbi) ?_;refine rn ?_;refine .gh (Gh.keep [0,1,4,7,8,9,10,11,43] rfl) ?_;refine cnf (show decide ((p:Int)-3<0)=false from dF (by omega)) ?_;refine .skip ?_;refine aw ?_;refine .region ?_;refine vk (Ae) ?_;refine vk (Ae) ?_;refine vk (vad (m:=(p:Int)-3) (n:=1) ((p:Int)-2) ⟨by omega,by omega,by omega⟩) ?_;refine vk (vad (m:=2) (n:=(p:Int)-2) (p:Int) ⟨by omega,by omega,by omega⟩) ?_;refine asd ?_;refine RL.gh (Gh.keep [0,1,4,7,8,9,10] rfl) ?_;refine .nil ?_
  exact jr () trivial rfl
 rintro _ _
 refine .seq ?_;refine .seq ?_;refine .region ?_;refine asd ?_;refine rn ?_;refine .gh (Gh.keep [0,1,4,7,8,9,10,12] rfl) ?_;refine .block ?_;refine .loop ?_
 refine AL.ind (σ:=Nat) (m:=fun j=>3-j) (e:=fun j=>[(0,.d (.s s)),(1,.d (.i .i32 r)),(4,.d (.i .i64 0)),(7,.d (.s (Utf8.encode r))),(8,.d (.i .i64 2)),(9,.d (.i .i64 (p:Int))),(10,.d (.i .i64 0)),(12,.d (.i .i64 (j:Int)))]) (h:=fun _=>[]) (I:=fun j=>1≤j∧j≤3) ?_ 1 ⟨by omega,by omega⟩
 rintro j ⟨hj1,hj3⟩ ih
 refine .seq ?_;refine .seq ?_;refine .region ?_;refine vk (Ae) ?_;refine vk (Ae) ?_;refine vk (Ve stS) ?_;refine vk (vbi) ?_;refine rn ?_;refine .gh (Gh.keep [0,1,4,7,8,9,10,12,51] rfl) ?_
 by_cases hj:j<3
 ·refine cnt (show decide ((j:Int)<(((Utf8.encode r).size:Nat):Int))=true from dT (by rw [hes];omega)) ?_
  refine .skip ?_;refine aw ?_
  obtain ⟨xj,hA,hB⟩:∃ xj,(Hq s)[p-j]?=some xj∧(Hq (Utf8.encode r))[2-j]?=some xj:=by
   have:j=1∨j=2:=by omega
   rw [he]
   rcases this with rfl|rfl
   ·exact ⟨x1,hp1,rfl⟩
   ·exact ⟨x0,hp0,rfl⟩
  have hp2:2≤p:=by rcases hc with ⟨_,q⟩|⟨_,q,_⟩<;>omega
  refine .seq ?_;refine .block ?_;refine .seq ?_;refine .drawn 11 A2 (by kernel_rfl) ?_;refine dv (Ae) ?_;refine dv (Ae) ?_;refine dv (Ae) ?_;refine dv (vsu (m:=(p:Int)) (n:=(j:Int)) (((p-j:Nat)):Int) ⟨by omega,by omega,by omega⟩) ?_;refine dv (PY (p-j) xj rfl hA stS) ?_;refine dv (Ae) ?_;refine dv (Ae) ?_;refine dv (Ae) ?_;refine dv (vsu (m:=2) (n:=(j:Int)) (((2-j:Nat)):Int) ⟨by omega,by omega,by omega⟩) ?_;refine dv (PY (2-j) xj rfl hB stS) ?_;refine dv (vbi) ?_;refine dz ?_;refine rn ?_;refine .gh (Gh.keep [0,1,4,7,8,9,10,12,64] rfl) ?_;refine cnf (ntf (dT (show (xj:Int)=xj from rfl))) ?_;refine .skip ?_;refine aw ?_;refine .region ?_;refine vk (Ae) ?_;refine vk (vad (m:=(j:Int)) (n:=1) ((j+1:Nat):Int) ⟨by omega,by omega,by omega⟩) ?_;refine asd ?_;refine .nil ?_;refine AL.gh (Gh.keep [0,1,4,7,8,9,10,12] rfl) ?_
  exact ih (j+1) ⟨by omega,by omega⟩ (by omega)
 have hp2:2≤p:=by rcases hc with ⟨_,q⟩|⟨_,q,_⟩<;>omega
 refine cnf (show decide ((j:Int)<(((Utf8.encode r).size:Nat):Int))=false from dF (by rw [hes];omega)) ?_;refine .exit ?_;refine aw ?_;refine .seq ?_;refine .seq ?_;refine .region ?_;refine vk (Ae) ?_;refine vk (Ae) ?_;refine vk (vsu (m:=(p:Int)) (n:=2) ((p:Int)-2) ⟨by omega,by omega,by omega⟩) ?_;refine asd ?_;refine rn ?_;refine .gh (Gh.keep [4] rfl) ?_;refine .ret ?_
 exact ⟨rfl,rfl⟩
theorem PN (s:ByteArray) (r:Int) {x0 x1 x2 y2:Nat} (h0:2048≤r) (h1:r<55296) (he:Hq (Utf8.encode r)=[x0,x1,x2]) (hs:s.size≤1000) (h2:(Hq s)[2]?=some y2)
  (hc:y2≠x2) (hz:JK (s.extract 3 s.size) x2<0):Fn Tryz.prog 153 [.s s,.i .i32 r] (.d (.i .i64 (-1))):=by
 have hes:(Utf8.encode r).size=3:=by rw [← Fp,he];rfl
 have hsub:DV.i .i64 (IntKind.i64.wrap (((Utf8.encode r).size:Int)-1))=.i .i64 2:=by rw [hes];rfl
 have hv:CV r=some true:=by
  unfold CV
  rw [dT (show (0:Int)≤r by omega),dT h1];rfl
 have h3:3≤s.size:=by
  have:=(lS.1 h2).1
  rw [Fp] at this;omega
 refine Fn.of (rs:=[.tmp 4]) (nt:=187) Tryz.func153 rfl rfl rfl (by simp) rfl ?_;refine .seq ?_;refine .region ?_;refine asd ?_;refine rn ?_;refine .gh (Gh.keep [0,1,4] rfl) ?_;refine .block ?_;refine .seq ?_;refine .region ?_;refine vk (Ae) ?_;refine vk (vbi) ?_
 have hb0:(decide (0≤r))=true:=dT (by omega)
 refine vk (VOK.lit (Ae) hb0) ?_;refine vk (Ae) ?_;refine vk (vbi) ?_;refine vk (Ag) ?_;refine asd ?_;refine rn ?_;refine .gh (Gh.keep [0,1,4,160] rfl) ?_;refine cnf (show decide (r<128)=false from dF (by omega)) ?_;refine .seq ?_;refine .region ?_;refine vk (Ae) ?_;refine vk (vbi) ?_;refine asd ?_;refine rn ?_;refine .gh (Gh.keep [0,1,4,171] rfl) ?_;refine cnf (show decide (r=65533)=false from dF (by omega)) ?_;refine .seq ?_;refine .region ?_;refine vk (Ae) ?_;refine vk (Ah (GF hv) Tryz.call199) ?_;refine vk (vnt) ?_;refine asd ?_;refine rn ?_;refine .gh (Gh.keep [0,1,4,183] rfl) ?_;refine Be ?_;refine .scope ?_;refine .seq ?_;refine .region ?_;refine vk (Ae) ?_;refine vk (YS (by kernel_rfl) stS) ?_;refine asd ?_;refine rn ?_;refine .gh (Gh.keep [0,1,4,7] rfl) ?_;refine .seq ?_;refine .region ?_;refine vk (Ae) ?_;refine vk (Ve stS) ?_;refine vk (Ll (.i .i64 2) ⟨trivial,hsub⟩) ?_;refine asd ?_;refine rn ?_;refine .gh (Gh.keep [0,1,4,7,8] rfl) ?_;refine .seq ?_;refine .region ?_;refine vk (Ae) ?_;refine asd ?_;refine rn ?_;refine .gh (Gh.keep [0,1,4,7,8,9] rfl) ?_;refine .seq ?_;refine .region ?_;refine asd ?_;refine rn ?_;refine .gh (Gh.keep [0,1,4,7,8,9,10] rfl) ?_;refine .seq ?_;refine .block ?_
 refine .loop (.round ?_)
 refine .seq ?_;refine .seq ?_;refine .region ?_;refine vk (Ae) ?_;refine vk (Ae) ?_;refine vk (Ve stS) ?_;refine vk (vbi) ?_;refine rn ?_;refine .gh (Gh.keep [0,1,4,7,8,9,10,26] rfl) ?_;refine cnt (show decide ((2:Int)<((s.size:Nat):Int))=true from dT (by omega)) ?_;refine .skip ?_;refine aw ?_;refine .block ?_;refine .scope ?_;refine .seq ?_;refine .seq ?_;refine .drawn 7 A2 (by kernel_rfl) ?_;refine dv (Ae) ?_;refine dv (Ae) ?_;refine dv (PY 2 y2 rfl h2 stS) ?_;refine dv (Ae) ?_;refine dv (Ae) ?_;refine dv (PY 2 x2 rfl (by rw [he];rfl) stS) ?_;refine dv (vbi) ?_;refine dz ?_;refine rn ?_;refine .gh (Gh.keep [0,1,4,7,8,9,10,33] rfl) ?_
 have hI:=KC (s.extract 3 s.size) x2
 refine cnt (ntt (dF (show ¬(y2:Int)=x2 by omega))) ?_;refine .seq ?_;refine .drawn 8 A2 (by kernel_rfl) ?_;refine dv (Ae) ?_;refine dv (Ae) ?_;refine dv (vad 3 ⟨rfl,by decide,by decide⟩) ?_;refine dv (YQ 3 ⟨rfl,h3⟩ stS) ?_;refine dv (Ae) ?_;refine dv (Ae) ?_;refine dv (PY 2 x2 rfl (by rw [he];rfl) stS) ?_;refine dv (Ah hI Tryz.call198) ?_;refine dz ?_;refine asd ?_;refine rn ?_;refine .gh (Gh.keep [0,1,4,7,8,9,10,11] rfl) ?_;refine .seq ?_;refine .seq ?_;refine .region ?_;refine vk (Ae) ?_;refine vk (vbi) ?_;refine rn ?_;refine .gh (Gh.keep [0,1,4,7,8,9,10,11,43] rfl) ?_;refine cnt (show decide (JK (s.extract 3 s.size) x2<0)=true from dT hz) ?_;refine .seq ?_;refine .region ?_;refine asd ?_;refine rn ?_;refine .gh (Gh.keep [4] rfl) ?_;refine .ret ?_
 exact ⟨rfl,rfl⟩
def Xg (s:ByteArray) (r:Int) : List Nat→Option Nat→Option Int
 | [x0,x1,x2],some y2=>if y2=x2 then (if 3≤s.size∧(Hq s)[1]?=some x1∧(Hq s)[0]?=some x0 then some 0 else none)
  else if JK (s.extract 3 s.size) x2<0 then some (-1)
  else if (Hq s)[(JK (s.extract 3 s.size) x2).toNat+2]?=some x1∧(Hq s)[(JK (s.extract 3 s.size) x2).toNat+1]?=some x0∧(JK (s.extract 3 s.size) x2).toNat+3<s.size then some (JK (s.extract 3 s.size) x2+1) else none
 | _,_=>none
def Sy (s:ByteArray) (r:Int) : Option Int :=
 if s.size≤1000 then (if 0≤r∧r<128 then some (JK s r) else if 2048≤r∧r<55296 then Xg s r (Hq (Utf8.encode r)) (Hq s)[2]? else none) else none
theorem UN {s:ByteArray} {r z:Int} (h:Sy s r=some z) : Fn Tryz.prog 153 [.s s,.i .i32 r] (.d (.i .i64 z)):=by
 unfold Sy at h
 by_cases hs:s.size≤1000
 rotate_left
 ·rw [if_neg hs] at h;cases h
 rw [if_pos hs] at h
 by_cases h1:0≤r∧r<128
 ·rw [if_pos h1] at h
  cases h
  exact Rh s r h1.1 h1.2
 rw [if_neg h1] at h
 by_cases h2:2048≤r∧r<55296
 rotate_left
 ·rw [if_neg h2] at h;cases h
 rw [if_pos h2] at h
 generalize he:Hq (Utf8.encode r)=e at h
 generalize hy:(Hq s)[2]?=y at h
 unfold Xg at h
 split at h
 ·rename_i x0 x1 x2 y2
  split at h
  ·rename_i q
   split at h
   ·rename_i q2
    cases h
    exact Ln s r (p:=2) h2.1 h2.2 he hs hy (.inl ⟨q,rfl⟩) q2.2.1 q2.2.2 (by omega)
   ·cases h
  ·rename_i q
   split at h
   ·rename_i q2
    cases h
    exact PN s r h2.1 h2.2 he hs hy q q2
   ·rename_i q2
    split at h
    ·rename_i q3
     cases h
     have e1:(((JK (s.extract 3 s.size) x2).toNat+3:Nat):Int)-2=JK (s.extract 3 s.size) x2+1:=by omega
     rw [← e1]
     exact Ln s r (p:=(JK (s.extract 3 s.size) x2).toNat+3) h2.1 h2.2 he hs hy (.inr ⟨q,by omega,by omega⟩) q3.1 q3.2.1 q3.2.2
    ·cases h
 ·cases h
def Nx (s:ByteArray) (r:Int) : Option Bool:=(Sy s r).map fun z=>decide (0≤z)
theorem Qi {s:ByteArray} {r:Int} {b:Bool} (h:Nx s r=some b) : Fn Tryz.prog 94 [.s s,.i .i32 r] (.d (.b b)):=by
 unfold Nx at h
 rcases hz:Sy s r with _|z
 ·rw [hz] at h;cases h
 rw [hz] at h
 cases h
 refine Fn.of (rs:=[.tmp 4]) (nt:=9) Tryz.func94 rfl rfl rfl (by simp) rfl ?_;refine .seq ?_;refine .region ?_;refine asd ?_;refine rn ?_;refine .seq ?_;refine .region ?_;refine vk (Ae) ?_;refine vk (Ae) ?_;refine vk (Ah (UN hz) Tryz.call153) ?_;refine vk (vbi) ?_;refine asd ?_;refine rn ?_;refine .ret ?_
 exact ⟨rfl,rfl⟩
def txA : ByteArray:=⟨#[226,141,180,44,226,141,170,226,134,145,226,134,147,226,140,189,226,138,150,226,141,137,47,226,140,191,92,226,141,128]⟩
example : Nx txA 8854=some true:=by kernel_rfl
example : Nx txA 9076=some true:=by kernel_rfl
example : Nx txA 92=some true:=by kernel_rfl
end Go.FL
namespace Go.FL
open Go Go.Proofs
def GS (a0:Arr) : Option ((List Int)×Int):=(if 1<((List.length a0.shape:Nat) : Int) then (some ([],4)) else ((MY a0).bind fun x1=>(if x1.2=true then (some (x1.1,0)) else (some ([],3)))))
def Hz (a0:Arr) (a1:Arr) : Option ((List Int)×Arr×Int):=((GS a0).bind fun x1=>(jn ((if ((List.length x1.1:Nat) : Int)=((List.length a1.shape:Nat) : Int) then (some (x1.1,a1,0)) else (some ([],(Arr.mk [] []),5)))) fun K0=>(if x1.2=0 then (if ((decide (((List.length a1.shape:Nat) : Int)=0))&&(decide (8<((List.length x1.1:Nat) : Int))))=true then (some ([],(Arr.mk [] []),4)) else (if ((List.length a1.shape:Nat) : Int)=0 then none else (K0))) else (some ([],(Arr.mk [] []),x1.2)))))
def Hv (a0:(List Int)) (c0:Int) (c1:(List Int)) : Option (Int):=((P9 c1 a0).bind fun x1=>(some ((w64 (c0+x1)))))
def Du (x1:(List Int)×Arr×Int) (x3:(List Int)) (K0:(List Int)→Int→Option (Arr×Int)) : Nat→(List Int)→Int→Int→Option (Arr×Int)
 | 0,_,_,_=>none
 | k+1,s6,s7,s8=>(if s7<((List.length x1.1:Nat):Int) then (jn (fun (z9:(List Int)) (z10:Int)=>(Du x1 x3 K0 k z9 (w64 (s7+1)) z10)) fun K2=>((rd? x1.1 s7).bind fun x11=>((rd? x1.2.1.shape s7).bind fun x12=>(if 0≤x11 then ((rd? x3 s7).bind fun x13=>((rd? s6 s7).bind fun x14=>(K2 (List.set s6 (Int.toNat s7) (w64 (x12-(if x12<x11 then x12 else x11)))) (w64 (s8+(w64 (x13 * (if x12<x11 then x12 else x11)))))))) else ((rd? s6 s7).bind fun x15=>(K2 (List.set s6 (Int.toNat s7) (if (w64 (x12+(if x11<(IntKind.wrap .i64 (0-x12)) then (IntKind.wrap .i64 (0-x12)) else x11)))<0 then 0 else (w64 (x12+(if x11<(IntKind.wrap .i64 (0-x12)) then (IntKind.wrap .i64 (0-x12)) else x11))))) s8)))))) else (K0 s6 s8))
def Jz (a0:Arr) (a1:Arr) : Option (Arr×Int):=((Hz a0 a1).bind fun x1=>(if x1.2.2=0 then ((G6 (0≤((List.length x1.1:Nat) : Int)∧((List.length x1.1:Nat) : Int)≤17592186044416)).bind fun x2=>((Fe x1.2.1.shape).bind fun x3=>(jn (fun (z4:(List Int)) (z5:Int)=>((Es x1.2.1 z4 (⟨.fn 221 [] [.ptr [.i .i64 z5],.ptr [.sl (Is x3)]],fun x=>Hv x z5 x3⟩ : HE)).bind fun x16=>(some (x16.1,x16.2)))) fun K0=>(Du x1 x3 K0 AK (List.replicate (Int.toNat ((List.length x1.1:Nat) : Int)) (0:Int)) 0 0)))) else (some ((Arr.mk [] []),x1.2.2))))
theorem YK {p:Prop} [Decidable p] (h:p) : G6 p=some ():=if_pos h
def vec (xs:List Itm) : Arr:=.mk [(xs.length:Int)] xs
def VR (xs:List Itm) : Prop:=xs≠[]∧xs.length≤4096∧(∀ x∈xs,okI x)∧Bm (vec xs)
theorem JM {n:Int} {xs:List Itm} : AI (.mk [n] xs)=false:=by unfold AI;rfl
theorem V1 {xs ys:List Itm} (h:ys.Sublist xs) : cIs ys≤cIs xs:=by
 induction h with
 | slnil=>exact Nat.le_refl _
 | cons a _ ih=>simp only [cIs];omega
 | cons_cons a _ ih=>simp only [cIs];omega
theorem Ul {xs ys:List Itm} (h:∀ x∈ys,x∈xs) : dIs ys≤dIs xs:=Yl fun x hx=>I6 (h x hx)
theorem VR.ok {xs:List Itm} (h:VR xs) : okAr (vec xs):=by
 obtain ⟨_,h2,h3,_⟩:=h
 rw [BE]
 refine ⟨fun z hz=>?_,by show [(xs.length:Int)].length≤_;simp,by show xs.length≤_;omega,h3⟩
 have hz':z∈[(xs.length:Int)]:=hz
 rw [List.mem_singleton] at hz'
 omega
theorem VR.items {xs:List Itm} (h:VR xs) : ∀ x∈xs,okI x∧AD x:=fun x hx=>Da h.ok h.2.2.2 (x:=x) hx
theorem VR.sz {xs:List Itm} (h:VR xs) : szP (vec xs).shape=((xs.length:Int),0):=OZ h.2.1
theorem VR.pos {xs:List Itm} (h:VR xs) : 0<xs.length:=List.length_pos_iff.2 h.1
theorem Vp {n:Nat} (h:n≤4096) : ∀ z∈[(n:Int)],-9223372036854775808≤z∧z≤9223372036854775807:=fun z hz=>by
 rw [List.mem_singleton] at hz;omega
theorem VR.make {xs:List Itm} (h:VR xs) : BK [(xs.length:Int)] xs=some (vec xs,0):=by
 obtain ⟨h1,h2,h3,h4⟩:=h
 have hs:=OZ h2
 have hp:=List.length_pos_iff.2 h1
 have hc:¬(xs=[]∨¬∀ x∈xs,AD x):=fun q=>q.elim h1 fun q=>q fun x hx=>(VR.items ⟨h1,h2,h3,h4⟩ x hx).2
 rw [L4 (Vp h2) (by simp) (by omega) h3,hs,if_neg (fun q=>q rfl),if_neg hc,JY rfl (by omega),if_pos (show Bm (Arr.mk [(xs.length:Int)] xs) from h4)];rfl
theorem VR.of {xs:List Itm} (h1:xs≠[]) (h2:xs.length≤4096) (h3:∀ x∈xs,okI x∧rI x=true) (hd:dIs xs≤15) (hc:xs.length+cIs xs≤16384) : VR xs:=by
 refine ⟨h1,h2,fun x hx=>(h3 x hx).1,?_,?_,?_⟩
 ·rw [Ik]
  show (decide ((szP [(xs.length:Int)]).2=0)&&(decide ((xs.length:Int)=if (szP [(xs.length:Int)]).1<1 then 1 else (szP [(xs.length:Int)]).1)&&rIs xs))=true
  have hp:=List.length_pos_iff.2 h1
  rw [OZ h2,Ff.2 fun x hx=>(h3 x hx).2,if_neg (by show ¬(xs.length:Int)<1;omega)]
  simp
 ·rw [GX]
  show (if AI (.mk [(xs.length:Int)] xs)=true then 0 else 1+dIs xs)≤16
  rw [JM,if_neg (by decide)];omega
 ·rw [H8];exact hc
theorem VR.parts {xs:List Itm} (h:VR xs) : dIs xs≤15∧xs.length+cIs xs≤16384:=by
 obtain ⟨_,_,_,_,h2,h3⟩:=h
 rw [GX] at h2
 have h2':(if AI (.mk [(xs.length:Int)] xs)=true then 0 else 1+dIs xs)≤16:=h2
 rw [JM,if_neg (by decide)] at h2'
 rw [H8] at h3
 have h3':xs.length+cIs xs≤16384:=h3
 omega
theorem VR.sub {xs ys:List Itm} (h:VR xs) (hs:ys.Sublist xs) (hn:ys≠[]) : VR ys:=by
 obtain ⟨p1,p2⟩:=h.parts
 have hl:=hs.length_le
 have hc:=V1 hs
 have h2:=h.2.1
 exact .of hn (by omega) (fun x hx=>⟨(h.items x (hs.subset hx)).1,(h.items x (hs.subset hx)).2.1⟩) (nT (Ul fun x hx=>hs.subset hx) p1) (by omega)
theorem VR.zero {xs:List Itm} (h:VR xs) : BK [0] [tyI (xs.headD default)]=some (.mk [0] [tyI (xs.headD default)],0)∧okAr (.mk [0] [tyI (xs.headD default)])∧Bm (.mk [0] [tyI (xs.headD default)]):=by
 obtain ⟨p1,p2⟩:=h.parts
 obtain ⟨x,ys,rfl⟩:=List.exists_cons_of_ne_nil h.1
 obtain ⟨ox,rx⟩:=h.items x (by simp)
 obtain ⟨t1,t2,t3,t4,t5,t6⟩:=Rz ox rx.1
 have hI:okI (tyI x)∧AD (tyI x):=⟨t6,t1,t2▸rx.2.1,t3▸rx.2.2⟩
 have hsz:szP [0]=(0,0):=rfl
 have hmk:Ci (szP [0]).1 [tyI x]=[tyI x]:=by
  rw [hsz];show [tyI (tyI x)]=_;rw [t4]
 have hd:dI x≤15:=nT (I6 (List.mem_cons_self ..)) p1
 have hcx:1+cI x≤16384:=by
  have:cIs (x::ys)=cI x+cIs ys:=rfl
  rw [this,List.length_cons] at p2;omega
 have hR:Bm (.mk [0] [tyI x]):=by
  refine ⟨?_,?_,?_⟩
  ·rw [Ik,Fu,Ee,hsz,Ff.2 (by simpa using t1)];rfl
  ·rw [GX,JM,if_neg (by decide),Ee,dIs,dIs,Nat.max_zero,t2];omega
  ·rw [H8,Ee];simp only [cIs,List.length_singleton];omega
 have hc:¬([tyI x]=[]∨¬∀ y∈[tyI x],AD y):=fun q=>q.elim (fun e=>by cases e) fun q=>q fun y hy=>by rw [List.mem_singleton] at hy;subst hy;exact hI.2
 refine ⟨?_,?_,hR⟩
 ·show BK [0] [tyI x]=some (.mk [0] [tyI x],0)
  rw [L4 (fun z hz=>by rw [List.mem_singleton] at hz;omega) (by simp) (by simp) (fun y hy=>by rw [List.mem_singleton] at hy;subst hy;exact hI.1),hmk,if_neg (by rw [hsz];exact fun q=>q rfl),if_neg hc,if_pos hR]
 ·show okAr (.mk [0] [tyI x])
  rw [BE]
  exact ⟨fun z hz=>by rw [Fu,List.mem_singleton] at hz;omega,by simp [Fu],by simp [Ee],fun y hy=>by rw [Ee,List.mem_singleton] at hy;subst hy;exact hI.1⟩
theorem WS {z:Int} (hz:Pa z) : okAr (.mk [] [LZ z])∧Bm (.mk [] [LZ z]):=⟨OV (W0 hz),(Hw (RU hz) rfl (by show (1:Int)≠3;decide)).1⟩
theorem PD {z:Int} (h:Pa z) : MY (.mk [] [LZ z])=some ([z],true):=by
 obtain ⟨on,rn⟩:=WS h
 unfold MY YO
 rw [J7 on,oB,dT rn,if_pos rfl,if_pos (by simp [Fu]),Ub on,Fu,JU,if_neg (by rintro (q|q);exact absurd q (by decide);exact q rn),Ee,oB,if_pos (by simp)]
 have:=Ow (l:=[z]) (s:=[]) (by simpa using h) (by simp)
 rw [List.map_singleton] at this
 rw [this];rfl
theorem PP {z:Int} (h:Pa z) : GS (.mk [] [LZ z])=some ([z],0):=by
 unfold GS
 rw [Fu,if_neg (by simp),PD h];rfl
theorem R0 {z n:Int} {xs:List Itm} (h:Pa z) : Hz (.mk [] [LZ z]) (.mk [n] xs)=some ([z],.mk [n] xs,0):=by
 unfold Hz
 rw [PP h,oB,Dk,if_pos rfl,Fu]
 rfl
theorem TT {n:Nat} {xs:List Itm} {z:Nat} (hL:n≤4096) (hz:z≤1000) (K:List Int→Int→Option (Arr×Int)) (k:Nat) :
  Du ([(z:Int)],.mk [(n:Int)] xs,0) [1] K (k+2) [0] 0 0=K [((n-min z n:Nat):Int)] ((min z n:Nat):Int):=by
 rw [Du,if_pos (by simp),Dk,LK,oB,Fu,LK,oB,if_pos (by omega),LK,oB,LK,oB]
 have e:(if (n:Int)<(z:Int) then (n:Int) else (z:Int))=((min z n:Nat):Int):=by
  by_cases q:(n:Int)<(z:Int)
  ·rw [if_pos q];omega
  ·rw [if_neg q];omega
 have a1:w64 (1 * ((min z n:Nat):Int))=((min z n:Nat):Int):=by rw [Int.one_mul];exact C2 (by omega) (by omega)
 have a2:w64 (0+((min z n:Nat):Int))=((min z n:Nat):Int):=by rw [Int.zero_add];exact C2 (by omega) (by omega)
 have a3:w64 ((n:Int)-((min z n:Nat):Int))=((n-min z n:Nat):Int):=by rw [C2 (by omega) (by omega)];omega
 have a4:w64 (0+1)=1:=C2 (by omega) (by omega)
 rw [e,a1,a2,a3,a4]
 show Du _ [1] K (k+1) _ 1 _=_
 rw [Du,if_neg (by simp)]
 rfl
theorem Rt {n:Nat} {xs:List Itm} {z:Nat} (hL:n≤4096) (hz:z≤1000) : Jz (.mk [] [LZ z]) (.mk [(n:Int)] xs) =
  Es (.mk [(n:Int)] xs) [((n-min z n:Nat):Int)] ⟨.fn 221 [] [.ptr [.i .i64 ((min z n:Nat):Int)],.ptr [.sl (Is [1])]],fun x=>Hv x ((min z n:Nat):Int) [1]⟩:=by
 have hF:AK=999999999999998+2:=rfl
 unfold Jz
 rw [R0 ⟨by omega,by omega⟩,oB,if_pos rfl,YK (by simp),oB,NB (by simp [Fu]),oB,Dk,hF]
 have hst:(Nt (Arr.mk [(n:Int)] xs).shape).1=[1]:=rfl
 simp only [hst]
 have:=TT (n:=n) (xs:=xs) (z:=z) hL hz (fun z4 z5=>(Es (.mk [(n:Int)] xs) z4 ⟨.fn 221 [] [.ptr [.i .i64 z5],.ptr [.sl (Is [1])]],fun x=>Hv x z5 [1]⟩).bind fun x16=>some (x16.1,x16.2)) 999999999999998
 refine Eq.trans this ?_
 generalize Es _ _ _=m
 cases m<;>rfl
theorem YH {p:Itm} (o:okAr (.mk [0] [p])) (r:Bm (.mk [0] [p])) {z:Nat} (hz:z≤1000) : Jz (.mk [] [LZ z]) (.mk [0] [p])=some (.mk [0] [tyI p],0):=by
 have:=Rt (n:=0) (xs:=[p]) (z:=z) (by omega) hz
 rw [show ((0:Nat):Int)=0 from rfl] at this
 rw [this]
 have hm:0-min z 0=0:=by omega
 rw [hm]
 refine (RS (VN o r) (by simp) rfl).trans ?_
 exact Tn o r rfl (fun z hz=>by rw [List.mem_singleton] at hz;omega) (by simp) rfl (.inr rfl)
end Go.FL
namespace Go.FL
open Go Go.RowKit
def Nn : AV→Bool
 | .ref (.c _ _) _ _=>false
 | .ep (.c _ _) _ _=>false
 | av=>noBp av
section
variable {P:Program} {C:Cx} {X:Snap} {o:Oper} {ops:Array Oper} {Q:Exit→Env→Ac→Prop} {env env':Env} {H H':Ac} {a:Act} {w w':World} {I I':Nat→Prop} {μ μ':List Nat} {O O':Nat→Option Loc}
 {K:Env→Ac→Prop} {k:Nat} {l:List Oper}
theorem Pi {p:AV→Bool} (hu:p .un=true) : ∀ {env:Env},(env.all fun x=>p x.2)=true→∀ t,p (get env t)=true
 | [],_,_=>hu
 | (s,v)::r,h,t=>by
  simp only [List.all_cons,Bool.and_eq_true] at h
  simp only [get]
  split
  ·exact h.1
  ·exact Pi hu h.2 t
theorem Gh2.drop (hb:(env.all fun x=>Nn x.2)=true) (hne:C.ne=0) : Gh2 P C env H env []:=fun X a w I μ O _ h2 h3 hs=>by
 have hne':X.ne=0:=h3.trans hne
 refine ⟨I,[],O,{
  prot:=hs.prot,kO:=hs.kO,kI:=hs.kI,mono:=hs.mono,os:=hs.os,tape:=hs.tape,output:=hs.output,size:=hs.size,own:=hs.own,ilt:=hs.ilt
  μlen:=rfl
  μpre:=fun i b hi _=>by omega
  nle:=by simp [hne']
  heap:=fun id ob ho=>by simp at ho
  klt:=hs.klt
  n0le:=hs.n0le
  envr:=fun s=>?_
  nt:=hs.nt
  dfs:=hs.dfs}⟩
 have hp:=Pi (p:=Nn) rfl hb s
 have ht:=hs.envr s
 have plain:∀ av,get env s=av→noBp av=true→A1 av=false→TRep P env [] a w I [] O s av:=by
  intro av hav hn hr
  rw [hav] at ht
  obtain ⟨bs,g1,g2,g3⟩:=ht.plain hr
  exact .of (g1.noBp (μ':=[]) hn) g2 g3
 cases hgs:get env s with
 | ref p off len =>
  rw [hgs] at hp
  cases p with
  | c _ _=>simp [Nn] at hp
  | t r =>
   rw [hgs] at ht
   obtain ⟨e',xs,A,n,c,g1,g2,g3,g4⟩:=ht
   exact ⟨e',xs,A,n,c,g1,g2,g3,g4⟩
 | ep p i k =>
  rw [hgs] at hp
  cases p with
  | c _ _=>simp [Nn] at hp
  | t r =>
   rw [hgs] at ht
   obtain ⟨e',xs,b,n,c,g1,g2,g3,g4,g5⟩:=ht
   exact ⟨e',xs,b,n,c,g1,g2,g3,g4,g5⟩
 | _ =>
  rw [hgs] at hp
  exact plain _ hgs hp rfl
theorem L0 {c:Call} {f t s t0:Nat} {avs:List AV} {r:AV} {xa:List Operand} {e:TypeId} {xs:List DV} (xs':List DV) (h:RL P C ops Q (k+1) l ((t,r)::(t0,.own e xs')::(s,.un)::env) []) (hfn:FnG P f (.own e xs::avs) H r [.own e xs'] H)
  (hcall:∀ args w,(callFunc f args).run P w=.ok (.enter f args) w) (hg:grd ops env o true=true:=by rfl) (ho:o.op=.call c:=by rfl) (hc:c.callee=.value (.func f):=by rfl) (hx:c.args.toList=.tmp s::xa:=by rfl)
  (hv:get env s=.ref (.t t0) 0 xs.length:=by rfl) (hp:get env t0=.own e xs:=by rfl) (ha:argsA ((t0,.un)::env) xa=some avs:=by rfl) (hcr:BQ env=false:=by rfl) (hr:De t0 ((s,.un)::env.filter fun x=>x.1 != s)=false:=by rfl) (hd:o.dst=some t:=by rfl)
  (hf:Ao (get env t)=false:=by rfl) (hst:s≠t0:=by decide) (htt:t≠t0:=by decide) (ht:okT C.nt t:=by rfl) (h0:C.n0=0:=by rfl) (hne:C.ne=0:=by rfl) (hb:(((t,r)::(t0,.own e xs')::(s,.un)::env).all fun x=>Nn x.2)=true:=by rfl):RL P C ops Q k (o::l) env H :=
 YZ xs' (fun _=>RL.gh2 (Gh2.drop hb hne) h) hfn hcall hg ho hc hx hv hp ha hcr hr hd hf hst htt ht h0
theorem XY {e:TypeId} {xs:List DV} (hH:H=[]) (h0:get env 0=.own e xs) : Xy [] (.tup []) [.own e xs] [] .ret env H :=
 ⟨⟨[],by rw [hH];rfl⟩,rfl,fun i c hi=>by
  cases i with
  | zero=>simp at hi;subst hi;exact ⟨h0,rfl,by simp⟩
  | succ i=>simp at hi⟩
theorem M4 {e:TypeId} {xs:List DV} (hH:H=[]) (h0:get env 0=.own e xs) : Xy [] (.tup []) [.own e xs] [] .normal env H:=XY (env:=env) hH h0
end
end Go.FL
