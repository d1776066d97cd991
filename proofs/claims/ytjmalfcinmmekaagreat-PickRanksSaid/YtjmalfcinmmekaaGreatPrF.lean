/-
  Part 6 of the base of the proofs: a logic of our own over the calculus, the contracts of the functions
-/
import Derived.Test.YtjmalfcinmmekaaGreatPrE
set_option linter.unusedVariables false
namespace Go.FL
open Go Go.Proofs
def DO (x1:(List Itm)) (K0:(List RT)→Int→(List RT)→Option ((List RT)×Int)) : Nat→(List RT)→Int→(List RT)→Int→Option ((List RT)×Int)
 | 0,_,_,_,_=>none
 | k+1,s5,s6,s7,s8=>(if s8<((List.length x1:Nat):Int) then ((rd? x1 s8).bind fun x9=>(if x9.kind=1 then ((ap? 2513169434916 s7 [x9.num]).bind fun x10=>(DO x1 K0 k s5 s6 x10 (w64 (s8+1)))) else (some ([],3)))) else (K0 s5 s6 s7))
def Gl (a0:Arr) : Option ((List RT)×Int):=((B9 a0).bind fun x1=>(jn (fun (z2:(List RT)) (z3:Int) (z4:(List RT))=>(some (z4,0))) fun K0=>(DO x1 K0 As [] 0 [] 0)))
theorem ID {a0:Arr} {r:(List RT)×Int} (h:Gl a0=some r) :
  Fn Tryz.prog 156 [.ag [.sl (Is a0.shape),.sl (Its a0.items)]] (.tup [.d (.sl (RVs r.1)),.d (.i .i64 r.2)]):=by
 unfold Gl at h
 refine Fn.of (rs:=[.tmp 2,.tmp 3]) (nt:=24) Tryz.func156 rfl rfl rfl (by simp) rfl ?_;refine .sr ?_;refine vk vbx ?_;refine asn ?_;refine ar [1,2,3] ?_;refine .sr ?_;refine asn ?_;refine rk [1,2,3,4] ?_;refine .seq ?_;refine .sr ?_;refine vk (Ar Ag Ab) ?_
 obtain ⟨x1,g1,h⟩:=bnd h
 refine vk (Al (GO g1) Tryz.call46) ?_;refine vk (A5 (Au _) (BS _) BO) ?_;refine va ?_;refine rk [2,3,4,8,9,10] ?_
 obtain ⟨K0,hK0,h⟩:=AH h
 refine AW.mr (σ:=(List RT)×Int×(List RT)) (fun p=>K0 p.1 p.2.1 p.2.2=some r) (fun p=>[(2,.d (.sl (RVs p.1))),(3,.d (.i .i64 p.2.1)),(4,.own 34 (RVs p.2.2))]) (fun p=>[]) ?_ ?_
 ·skip
  refine .block ?_;refine .gh (Gh.nlD (t:=2) rfl) ?_;refine .gh (Gh.nlOwn (t:=4) 34 (by rw [Aaf];decide) rfl) ?_
  refine .loop (.gk [2,3,4,8,9,10] ?_)
  refine AL.ind (σ:=Nat×(List RT)×Int×(List RT)×Int) (m:=fun p=>p.1) (e:=fun p=>[(2,.d (.sl (RVs p.2.1))),(3,.d (.i .i64 p.2.2.1)),(4,.own 34 (RVs p.2.2.2.1)),(8,.d (.sl (Its x1))),(9,.d (.i .i64 ((List.length x1:Nat):Int))),(10,.d (.i .i64 p.2.2.2.2))]) (h:=fun p=>[]) (I:=fun p=>DO x1 K0 p.1 p.2.1 p.2.2.1 p.2.2.2.1 p.2.2.2.2=some r) ?_ (As,[],0,[],0) h
  rintro ⟨k,s5,s6,s7,s8⟩ h ih
  dsimp only at h ih ⊢
  rcases k with _|k
  ·rw [DO] at h;cases h
  rw [DO] at h
  refine .sr ?_;refine vb ?_;refine rk [2,3,4,8,9,10,11] ?_;refine .seq ?_
  rcases brc h with ⟨hc,h⟩|⟨hc,h⟩
  ·refine cnt (dT hc) ?_
   refine .sk ?_;refine .seq ?_;refine .block ?_;refine .sr ?_
   obtain ⟨x9,g9,h⟩:=bnd h
   obtain ⟨n9,p09,q9⟩:=Ah g9
   refine vk (vix n9 p09 (CD q9) rfl CF) ?_;refine vk (Ar AT Az) ?_;refine vk (van (Ak CO) CL) ?_
   refine stn ?_ Az (by decide)
   refine rk [2,3,4,6,8,9,10] ?_;refine .seq ?_;refine .seq ?_;refine .gh (Gh.nbp (t:=6) rfl) ?_;refine .region ?_;refine vk (vfa Cs) ?_;refine vk (Ao Bg) ?_;refine vb ?_;refine rk [2,3,4,6,8,9,10,16] ?_
   rcases brc h with ⟨hc,h⟩|⟨hc,h⟩
   ·refine cnf (ntf (dT hc)) ?_
    refine .sk ?_;refine .region ?_;refine mvo ?_;refine vk (vfa BI) ?_;refine vk (Ar A0 AE) ?_;refine vk ((E1 (GC [x9.num]) Jf).deep) ?_
    obtain ⟨x10,g10,h⟩:=bnd h
    refine Ms WE g10 Ze ?_ WS D6 Jf
    refine aso ?_;refine .nil ?_;refine aw ?_;refine .gk [2,3,4,8,9,10] ?_;refine .region ?_;refine vb ?_;refine va ?_;refine .nil ?_;refine AL.gk [2,3,4,8,9,10] ?_
    exact ih (k,s5,s6,x10,(w64 (s8+1))) h (Nat.lt_succ_self _)
   refine cnt (ntt (dF hc)) ?_;refine .sr ?_;refine asn ?_;refine ar [2,3,4,6,8,9,10] ?_;refine .gh (Gh.nlD (t:=2) rfl) ?_;refine .ret ?_
   cases h
   exact ⟨by decide,rfl,rfl,rfl⟩
  refine cnf (dF hc) ?_;refine .gk [2,3,4] ?_;refine .exit ?_
  exact jr (s5,s6,s7) h
 rintro ⟨z2,z3,z4⟩ h
 try dsimp only at h ⊢
 subst hK0
 refine aw ?_;refine .sr ?_;refine fz (p:=.t 4) ?_;refine va ?_;refine asd ?_;refine ar [2,3] ?_;refine .ret ?_
 cases h
 exact ⟨by decide,rfl,rfl,rfl⟩
def Lv (a0:Arr) (a1:Arr) : Option ((List RT)×(List RT)×Int):=((Gl a0).bind fun x1=>(jn (fun (z2:(List RT)) (z3:Int)=>(some (x1.1,z2,z3))) fun K0=>(if x1.2=0 then ((Gl a1).bind fun x4=>(K0 x4.1 x4.2)) else (K0 [] x1.2))))
theorem PP {a0:Arr} {a1:Arr} {r:(List RT)×(List RT)×Int} (h:Lv a0 a1=some r) :
  Fn Tryz.prog 99 [.ag [.sl (Is a0.shape),.sl (Its a0.items)],.ag [.sl (Is a1.shape),.sl (Its a1.items)]] (.tup [.d (.sl (RVs r.1)),.d (.sl (RVs r.2.1)),.d (.i .i64 r.2.2)]):=by
 unfold Lv at h
 refine Fn.of (rs:=[.tmp 4,.tmp 5,.tmp 6]) (nt:=22) Tryz.func99 rfl rfl rfl (by simp) rfl ?_;refine .sr ?_;refine vk vbx ?_;refine vk vbx ?_;refine asn ?_;refine asn ?_;refine ar [2,3,4,5,6] ?_;refine .seq ?_;refine .sr ?_;refine vk (Ar Ag Ab) ?_
 obtain ⟨x1,g1,h⟩:=bnd h
 refine vk (VOK.tupd (vs:=[.sl (RVs x1.1),.i .i64 x1.2]) (Al (ID g1) Tryz.call156)) ?_;refine va ?_;refine vk vex ?_;refine vk vex ?_;refine asd ?_;refine ar [3,4,5,6] ?_;refine .sr ?_;refine va ?_;refine vb ?_;refine rk [3,4,5,6,13] ?_
 obtain ⟨K0,hK0,h⟩:=AH h
 refine AW.mr (σ:=(List RT)×Int) (fun p=>K0 p.1 p.2=some r) (fun p=>[(4,.d (.sl (RVs x1.1))),(5,.d (.sl (RVs p.1))),(6,.d (.i .i64 p.2))]) (fun p=>[]) ?_ ?_
 ·skip
  rcases brc h with ⟨hc,h⟩|⟨hc,h⟩
  ·refine cnt (dT hc) ?_
   refine .region ?_;refine vk (Ar Ag Ab) ?_
   obtain ⟨x4,g4,h⟩:=bnd h
   refine vk (VOK.tupd (vs:=[.sl (RVs x4.1),.i .i64 x4.2]) (Al (ID g4) Tryz.call156)) ?_;refine va ?_;refine vk vex ?_;refine vk vex ?_;refine asd ?_;refine asd ?_;refine RL.gk [4,5,6] ?_;refine .nil ?_
   exact jr (x4.1,x4.2) h
  refine cnf (dF hc) ?_;refine .gh (Gh.nlD (t:=5) rfl) ?_;refine .gk [4,5,6] ?_;refine .skip ?_
  exact jr ([],x1.2) h
 rintro ⟨z2,z3⟩ h
 try dsimp only at h ⊢
 subst hK0
 refine aw ?_;refine .sr ?_;refine va ?_;refine va ?_;refine va ?_;refine asd ?_;refine asd ?_;refine ar [4,5,6] ?_;refine .ret ?_
 cases h
 exact ⟨⟨by decide,by decide,by decide⟩,rfl,rfl,rfl,rfl⟩
def Kg (a0:RT) (a1:RT) : Option (RT×RT×Int):=((IK a0 a1).bind fun x1=>(Option.bind ((if x1.2=0 then ((FH a0).bind fun x3=>(some (decide (x3=0)))) else (some true)) : Option (Bool)) fun (z2:Bool)=>(if z2=true then none else ((Ig a1 x1.1).bind fun x4=>(jn (fun (z5:RT) (z6:Int)=>(some (x1.1,z5,z6))) fun K0=>(if x4.2=0 then ((MC x4.1 a0).bind fun x7=>(K0 x7.1 x7.2)) else (K0 x4.1 x4.2)))))))
theorem Oc {a0:RT} {a1:RT} {r:RT×RT×Int} (h:Kg a0 a1=some r) :
  Fn Tryz.prog 103 [.ag [.b a0.1,.sl (L a0.2.1),.sl (L a0.2.2)],.ag [.b a1.1,.sl (L a1.2.1),.sl (L a1.2.2)]] (.tup [.d (.ag [.b r.1.1,.sl (L r.1.2.1),.sl (L r.1.2.2)]),.d (.ag [.b r.2.1.1,.sl (L r.2.1.2.1),.sl (L r.2.1.2.2)]),.d (.i .i64 r.2.2)]):=by
 unfold Kg at h
 refine Fn.ofA (rs:=[.cell 4 34,.cell 5 34,.tmp 6]) (nt:=40) Tryz.func103 rfl rfl rfl (by simp) rfl ?_;refine .sr ?_;refine vk vbx ?_;refine vk vbx ?_;refine vk (van (Ak FJ) FY) ?_;refine vk (van (Ak FJ) FY) ?_;refine ar [2,3,4,5,6] ?_;refine .seq ?_;refine .sr ?_;refine vk (Ar A0 AE) ?_;refine vk (Ar A0 AE) ?_
 obtain ⟨x1,g1,h⟩:=bnd h
 refine vk (VOK.tupd (vs:=[.ag [.b x1.1.1,.sl (L x1.1.2.1),.sl (L x1.1.2.2)],.i .i64 x1.2]) (Al (MN g1) Tryz.call159)) ?_;refine va ?_;refine vk vex ?_;refine vk vex ?_
 refine stn ?_ AE (by decide)
 refine ar [2,3,4,5,6] ?_;refine .seq ?_
 obtain ⟨z2,hz,h⟩:=bnd h
 refine AW.mr (σ:=Unit) (fun _=>True) (fun _=>[(2,.d (.ptr [.b a0.1,.sl (L a0.2.1),.sl (L a0.2.2)])),(3,.d (.ptr [.b a1.1,.sl (L a1.2.1),.sl (L a1.2.2)])),(4,.nb [.b x1.1.1,.sl (L x1.1.2.1),.sl (L x1.1.2.2)]),(5,.nb [.b false,.sl (L []),.sl (L [])]),(6,.d (.i .i64 x1.2)),(19,.d (.b z2))]) (fun _=>[]) ?_ ?_
 ·skip
  refine .region ?_;refine va ?_;refine vb ?_
  rcases brc hz with ⟨hc,hz⟩|⟨hc,hz⟩
  ·have hb0:(!(decide (x1.2=0)))=false:=(ntf (dT hc))
   refine vL hb0 ?_;refine vk (Ar A0 AE) ?_
   obtain ⟨x3,g3,hz⟩:=bnd hz
   refine vk (Al (GW g3) Tryz.call130) ?_;refine vb ?_;refine vk Ap ?_;refine RL.gk [2,3,4,5,6,19] ?_;refine .nil ?_
   cases hz
   exact jr () trivial
  have hb0:(!(decide (x1.2=0)))=true:=(ntt (dF hc))
  refine vL hb0 ?_;refine gf3 ?_;refine vk Ap ?_;refine RL.gk [2,3,4,5,6,19] ?_;refine .nil ?_
  cases hz
  exact jr () trivial
 rintro _ _
 rcases brc h with ⟨hc,h⟩|⟨hc,h⟩
 ·exact nomatch h
 refine cnf (bf hc) ?_;refine .sk ?_;refine .seq ?_;refine .sr ?_;refine vk (Ar A0 AE) ?_;refine vk (D7 A0 AE) ?_
 obtain ⟨x4,g4,h⟩:=bnd h
 refine vk (VOK.tupd (vs:=[.ag [.b x4.1.1,.sl (L x4.1.2.1),.sl (L x4.1.2.2)],.i .i64 x4.2]) (Al (GH g4) Tryz.call160)) ?_;refine va ?_;refine vk vex ?_;refine vk vex ?_
 refine stn ?_ AE (by decide)
 refine ar [2,4,5,6] ?_;refine .sr ?_;refine va ?_;refine vb ?_;refine rk [2,4,5,6,30] ?_
 obtain ⟨K0,hK0,h⟩:=AH h
 refine AW.mr (σ:=RT×Int) (fun p=>K0 p.1 p.2=some r) (fun p=>[(4,.nb [.b x1.1.1,.sl (L x1.1.2.1),.sl (L x1.1.2.2)]),(5,.nb [.b p.1.1,.sl (L p.1.2.1),.sl (L p.1.2.2)]),(6,.d (.i .i64 p.2))]) (fun p=>[]) ?_ ?_
 ·skip
  rcases brc h with ⟨hc,h⟩|⟨hc,h⟩
  ·refine cnt (dT hc) ?_
   refine .region ?_;refine vk (D7 A0 AE) ?_;refine vk (Ar A0 AE) ?_
   obtain ⟨x7,g7,h⟩:=bnd h
   refine vk (VOK.tupd (vs:=[.ag [.b x7.1.1,.sl (L x7.1.2.1),.sl (L x7.1.2.2)],.i .i64 x7.2]) (Al (M6 g7) Tryz.call161)) ?_;refine va ?_;refine vk vex ?_;refine vk vex ?_
   refine stn ?_ AE (by decide)
   refine asd ?_;refine RL.gk [4,5,6] ?_;refine .nil ?_
   exact jr (x7.1,x7.2) h
  refine cnf (dF hc) ?_;refine .gk [4,5,6] ?_;refine .skip ?_
  exact jr (x4.1,x4.2) h
 rintro ⟨z5,z6⟩ h
 try dsimp only at h ⊢
 subst hK0
 refine aw ?_;refine .seq ?_;refine .drawnI 3 A6 (by kernel_rfl) ?_;refine dv (D7 A0 AE) ?_;refine dv (D7 A0 AE) ?_;refine dv Ae ?_;refine dz ?_
 refine ⟨?_,?_⟩
 ·intro i o hi ho e hj hn
  have hi2:=(Array.getElem?_eq_some_iff.1 ho).1
  have hi3:i=3∨i=4∨i=5:=by change i<6 at hi2;omega
  rcases hi3 with rfl|rfl|rfl<;>cases ho
  ·exact GM (cs:=[.b x1.1.1,.sl (L x1.1.2.1),.sl (L x1.1.2.2)]) (cs':=[.b x1.1.1,.sl (L x1.1.2.1),.sl (L x1.1.2.2)]) AE (by decide) rfl ((hn 4 (Oy rfl)).trans rfl) ((congrArg Bh (hj 0 37 _ (by kernel_rfl) rfl)).trans rfl) rfl rfl rfl rfl ⟨Nd ((hn 4 (Oy rfl)).trans rfl),rfl⟩
  ·exact GM (cs:=[.b z5.1,.sl (L z5.2.1),.sl (L z5.2.2)]) (cs':=[.b z5.1,.sl (L z5.2.1),.sl (L z5.2.2)]) AE (by decide) rfl ((hn 5 (Oy rfl)).trans rfl) ((congrArg Bh (hj 1 38 _ (by kernel_rfl) rfl)).trans rfl) rfl rfl rfl rfl ⟨Nd ((hn 5 (Oy rfl)).trans rfl),rfl⟩
  ·exact Wl rfl ((hj 2 39 _ (by kernel_rfl) rfl).trans rfl) rfl ((congrArg An (hn 6 (Oy rfl))).trans rfl) rfl ⟨Nd ((hn 6 (Oy rfl)).trans rfl),rfl⟩
 refine rk [4,5,6] ?_;refine .ret ?_
 cases h
 exact ⟨_,_,_,⟨_,⟨.inr rfl,A0,AE,p3⟩,rfl⟩,⟨_,⟨.inr rfl,A0,AE,p3⟩,rfl⟩,rfl,rfl⟩
def D4 (x1:(List RT)×(List RT)×Int) (x2:(List Int)) : Nat→Arr→Int→Int→Int→(List Itm)→Option (Arr×Int)
 | 0,_,_,_,_,_=>none
 | k+1,s7,s8,s9,s10,s11=>(if s9<((List.length x1.2.1:Nat):Int) then ((rd? x1.2.1 s9).bind fun x12=>((GV (((List.length x1.1:Nat):Int)≤1000000)).bind fun x13=>((TJ (fun (i25:Int) (x26:RT) (p:Int×(List Itm)×Bool×(List Nat)×(List Nat))=>((Kg x26 (p.2.2.1,p.2.2.2.1,p.2.2.2.2)).bind fun x27=>(if x27.2.2=0 then ((rd? p.2.1 (w64 ((w64 (i25 * ((List.length x1.2.1:Nat):Int)))+s9))).bind fun x28=>(some (x27.2.2,(List.set p.2.1 (Int.toNat (w64 ((w64 (i25 * ((List.length x1.2.1:Nat):Int)))+s9))) (Itm.mk 1 x27.1 0 [])),x27.2.1.1,x27.2.1.2.1,x27.2.1.2.2))) else none))) x1.1 (List.length x1.1) (s10,s11,x12.1,x12.2.1,x12.2.2)).bind fun z24=>(D4 x1 x2 k s7 s8 (w64 (s9+1)) z24.1 z24.2.1)))) else ((AZ x2 s11).bind fun x29=>(some (x29.1,x29.2))))
def Jl (a0:Arr) (a1:Arr) : Option (Arr×Int):=(if 1<((List.length a0.shape:Nat) : Int) then (some ((Arr.mk [] []),4)) else ((Lv a0 a1).bind fun x1=>(if x1.2.2=0 then ((DW ([a0.shape,a1.shape])).bind fun x2=>((CB x2).bind fun x3=>(if x3.2=0 then ((GV (0≤(if x3.1<1 then 1 else x3.1)∧(if x3.1<1 then 1 else x3.1)≤1466015503701)).bind fun x4=>((I6 0).bind fun x5=>((rd? (List.replicate (Int.toNat (if x3.1<1 then 1 else x3.1)) (Itm.mk 0 (false,[],[]) 0 [])) 0).bind fun x6=>(D4 x1 x2 As (Arr.mk [] []) 0 0 x3.2 (List.set (List.replicate (Int.toNat (if x3.1<1 then 1 else x3.1)) (Itm.mk 0 (false,[],[]) 0 [])) (Int.toNat 0) x5))))) else (some ((Arr.mk [] []),x3.2))))) else (some ((Arr.mk [] []),x1.2.2)))))
theorem M2 {a0:Arr} {a1:Arr} {r:Arr×Int} (h:Jl a0 a1=some r) :
  Fn Tryz.prog 41 [.ag [.sl (Is a0.shape),.sl (Its a0.items)],.ag [.sl (Is a1.shape),.sl (Its a1.items)]] (.tup [.d (.ag [.sl (Is r.1.shape),.sl (Its r.1.items)]),.d (.i .i64 r.2)]):=by
 unfold Jl at h
 refine Fn.ofMB (rs:=[.cell 4 27,.cell 5 29]) (nt:=92) Tryz.func41 rfl rfl rfl (by simp) rfl ?_;refine .seqA ?_;refine .region ?_;refine vk vbx ?_;refine vk vbx ?_;refine vk (van (Ak AK) AP) ?_;refine vk (van (Ak QM) UT) ?_;refine rn ?_;refine .gh (Gh.keep [2,3,4,5] rfl) ?_;refine .seqA ?_;refine .seq ?_;refine .region ?_;refine vk (vfa A7) ?_;refine vk (Ao CG) ?_;refine vk (A5 (Af _) (Da _) CU) ?_;refine vb ?_;refine rn ?_;refine .gh (Gh.keep [2,3,4,5,20] rfl) ?_
 by_cases hc:1<((List.length a0.shape:Nat):Int)
 ·replace h:=Mc hc h
  refine cnt (dT hc) ?_;refine .seq ?_;refine .region ?_;refine vk (vbd CJ AK AP) ?_
  refine stn ?_ Ab (by decide)
  refine WV ?_ GS
  refine rn ?_;refine .gh (Gh.keep [2,3,4,5] rfl) ?_;refine .ret ?_
  cases h
  exact ⟨.inr rfl,_,_,⟨.inr rfl,Ag,Ab,(by decide:(0:Nat)<2)⟩,⟨.inr rfl,Ec⟩,rfl⟩
 replace h:=LW hc h
 refine cnf (dF hc) ?_;refine .skip ?_
 show AWM _ _ _ _ _ _
 refine .seqA ?_;refine .region ?_;refine vk (Ar Ag Ab) ?_;refine vk (Ar Ag Ab) ?_
 obtain ⟨x1,hx1,h⟩:=bnd h
 refine vk (VOK.tupd (vs:=[.sl (RVs x1.1),.sl (RVs x1.2.1),.i .i64 x1.2.2]) (Al (PP hx1) Tryz.call99)) ?_;refine va ?_;refine vk vex ?_;refine vk vex ?_;refine vk vex ?_
 refine al ?_ (Ak Zx) (fun w I μ=>WM w I μ)
 refine al ?_ (Ak QM) (fun w I μ=>UA w I μ)
 refine asd ?_
 refine stb (cs:=[.nl]) (c:=.nl) rfl rfl ?_ Yn
 refine stb (cs:=[.d (.i .i64 0)]) (c:=.d (.i .i64 0)) rfl rfl ?_ GS
 refine rn ?_;refine .gh (Gh.keep [2,3,4,5,6,7,8] rfl) ?_;refine .seqA ?_;refine .seq ?_;refine .region ?_;refine vk (II (cs:=[.d (.i .i64 x1.2.2)]) (c:=.i .i64 x1.2.2) rfl rfl Ec) ?_;refine vb ?_;refine rn ?_;refine .gh (Gh.keep [2,3,4,5,6,7,8,30] rfl) ?_
 by_cases hc:x1.2.2=0
 ·replace h:=Mc hc h
  refine cnf (ntf (dT hc)) ?_;refine .skip ?_
  show AWM _ _ _ _ _ _
  refine .seqA ?_;refine .region ?_;refine vk (vfa A7) ?_;refine vk (Ao CG) ?_;refine vk (vfa A7) ?_;refine vk (Ao CG) ?_;refine vk ((E1 (MO [a0.shape,a1.shape]) NA).deep) ?_
  obtain ⟨x2,hx2,h⟩:=bnd h
  refine vk (Al (Hl hx2) Tryz.call100) ?_;refine asd ?_;refine rn ?_;refine .gh (Gh.keep [4,5,6,7,8,9] rfl) ?_;refine .seqA ?_;refine .region ?_;refine va ?_
  obtain ⟨x3,hx3,h⟩:=bnd h
  refine vk (VOK.tupd (vs:=[.i .i64 x3.1,.i .i64 x3.2]) (Al (DS hx3) Tryz.call56)) ?_;refine va ?_;refine vk vex ?_;refine vk vex ?_;refine asd ?_
  refine stb (cs:=[.d (.i .i64 x1.2.2)]) (c:=.d (.i .i64 x1.2.2)) rfl rfl ?_ GS
  refine rn ?_;refine .gh (Gh.keep [4,5,6,7,8,9,10] rfl) ?_;refine .seqA ?_;refine .seq ?_;refine .region ?_;refine vk (II (cs:=[.d (.i .i64 x3.2)]) (c:=.i .i64 x3.2) rfl rfl Ec) ?_;refine vb ?_;refine rn ?_;refine .gh (Gh.keep [4,5,6,7,8,9,10,45] rfl) ?_
  by_cases hc:x3.2=0
  ·replace h:=Mc hc h
   refine cnf (ntf (dT hc)) ?_;refine .skip ?_
   show AWM _ _ _ _ _ _
   refine .seqA ?_;refine .region ?_;refine va ?_;refine vk vmx ?_
   obtain ⟨x4,hx4,h⟩:=bnd h
   have ghx4:=Ik hx4
   refine Aat (F:=Its) (x0:=(Itm.mk 0 (false,[],[]) 0 [])) (zl:=(if x3.1<1 then 1 else x3.1)) (Int.toNat (if x3.1<1 then 1 else x3.1)) Vs (by omega) (by omega) ?_ E9 CL
   refine al ?_ (Ak Zk) (fun w I μ=>XC w I μ)
   refine RG (cs:=[.nl]) (c:=.nl) rfl rfl ?_ Lr
   refine rn ?_;refine .gh (Gh.keep [4,5,6,7,8,9,11] rfl) ?_;refine .seqA ?_;refine .drawn 3 A6 (by kernel_rfl) ?_;refine dv (Tg (cs:=[.own 51 (Its (List.replicate (Int.toNat (if x3.1<1 then 1 else x3.1)) (Itm.mk 0 (false,[],[]) 0 [])))]) rfl rfl BX) ?_
   obtain ⟨x5,hx5,h⟩:=bnd h
   refine dv (Al (ND hx5) Tryz.call101) ?_
   obtain ⟨x6,hx6,h⟩:=bnd h
   obtain ⟨nx6,hnx6,hxx6⟩:=Ah hx6
   refine dv (Gb (off:=0) (len:=(Its (List.replicate (Int.toNat (if x3.1<1 then 1 else x3.1)) (Itm.mk 0 (false,[],[]) 0 []))).length) nx6 hnx6 (by rw [Au];exact (lS.1 hxx6).1) CF (by decide)) ?_;refine dz ?_
   refine ZW (F:=Its) (zs:=[.i .u8 x6.kind,.b x6.num.1,.sl (L x6.num.2.1),.sl (L x6.num.2.2),.i .i32 x6.char,.sl (Ars x6.box)]) (us:=(List.replicate (Int.toNat (if x3.1<1 then 1 else x3.1)) (Itm.mk 0 (false,[],[]) 0 []))) (n:=nx6) (m:=Int.toNat 0) (x:=x5) (Rb (Itm.dv_eq x5).symm) (by rw [hnx6];rfl) (by rw [Nat.zero_add];exact CD hxx6) rfl ?_ Az Az (Nat.succ_pos _) (hn:=fun _ _ _=>Nat.zero_le _)
   refine RL.gh (Gh.keep [4,5,6,7,8,9,11,51,52] rfl) ?_;refine rn ?_;refine .gh (Gh.keep [4,5,6,7,8,9,11] rfl) ?_;refine .seq rfl ?_;refine .seqA ?_;refine .region ?_;refine vk (II (cs:=[.d (.sl (RVs x1.2.1))]) (c:=.sl (RVs x1.2.1)) rfl rfl PR) ?_;refine vk (A5 (D6 _) (M1 _) SJ) ?_;refine va ?_;refine rn ?_;refine .gh (Gh.keep [4,5,6,7,8,9,11,54,55,56] rfl) ?_;refine .block ?_
   refine .loop (.gh (Gh.keep [4,5,6,7,8,9,11,54,55,56] rfl) ?_)
   refine ALM.ind rfl (σ:=Nat×Arr×Int×Int×Int×(List Itm)) (m:=fun p=>p.1) (e:=fun p=>[(4,.nb [.sl (Is p.2.1.shape),.sl (Its p.2.1.items)]),(5,.nb [.i .i64 p.2.2.1]),(6,.d (.sl (RVs x1.1))),(7,.bp 0 0),(8,.bp 1 0),(9,.d (.sl (Is x2))),(11,.bp 2 0),(54,.d (.sl (RVs x1.2.1))),(55,.d (.i .i64 ((List.length x1.2.1:Nat):Int))),(56,.d (.i .i64 p.2.2.2.1))]) (h:=fun p=>[HO.box [.d (.sl (RVs x1.2.1))],HO.box [.d (.i .i64 p.2.2.2.2.1)],HO.box [.own 51 (Its p.2.2.2.2.2)]]) (I:=fun p=>D4 x1 x2 p.1 p.2.1 p.2.2.1 p.2.2.2.1 p.2.2.2.2.1 p.2.2.2.2.2=some r) ?_ (As,(Arr.mk [] []),0,0,x3.2,(List.set (List.replicate (Int.toNat (if x3.1<1 then 1 else x3.1)) (Itm.mk 0 (false,[],[]) 0 [])) (Int.toNat 0) x5)) h
   rintro ⟨k,s7,s8,s9,s10,s11⟩ h ih
   dsimp only at h ih ⊢
   rcases k with _|k
   ·rw [D4] at h;cases h
   rw [D4] at h
   refine .seqA ?_;refine .region ?_;refine vb ?_;refine rn ?_;refine .gh (Gh.keep [4,5,6,7,8,9,11,54,55,56,57] rfl) ?_;refine .seqA ?_
   by_cases hc:s9<((List.length x1.2.1:Nat):Int)
   ·replace h:=Mc hc h
    refine cnt (dT hc) ?_;refine .skip ?_
    show AWM _ _ _ _ _ _
    refine .seq rfl ?_;refine .block ?_;refine .seqA ?_;refine .region ?_;refine va ?_
    obtain ⟨x12,hx12,h⟩:=bnd h
    obtain ⟨nx12,hnx12,hxx12⟩:=Ah hx12
    refine vk (vix nx12 hnx12 (Pm hxx12) rfl Wd) ?_;refine vk (Ar A0 AE) ?_
    refine al ?_ (Ak Zg) (fun w I μ=>Xq w I μ)
    refine vk (van (Ak FJ) FY) ?_
    refine stb (cs:=[.d (.i .i64 0)]) (c:=.d (.i .i64 0)) rfl rfl ?_ Dg
    refine stn ?_ AE (by decide)
    refine RL.gh2 (Gh.nbb (t:=13) rfl) ?_;refine rn ?_;refine .gh (Gh.keep [4,5,6,7,8,9,11,12,13,54,55,56] rfl) ?_;refine .seqA ?_;refine .region ?_;refine va ?_;refine vk (Al (Yl (RVs x1.1)) Tryz.call102) ?_;refine rn ?_;refine .gh (Gh.keep [4,5,6,7,8,9,11,12,13,54,55,56,62] rfl) ?_;refine .block ?_
    obtain ⟨x13,hx13,h⟩:=bnd h
    have ghx13:=Ik hx13
    obtain ⟨z24,hz24,h⟩:=bnd h
    obtain ⟨Tz24,hTz240,hTz24n,hTz24t⟩:=Tf _ hz24
    refine AWM.rangeFuncG (ps:=[63,64]) (f:=158) (caps:=[.ptr [.sl (RVs x1.1)]]) (ys:=QN x1.1) (m:=List.length x1.1) (e1:=.ret) rfl rfl rfl Tryz.call158 (Yz (by omega) (Nat.le_refl _)) (fun ds hd=>Vw _ ds hd) (fun p hp=>by simp only [List.mem_cons,List.not_mem_nil,or_false] at hp;rcases hp with rfl|rfl<;>rfl) rfl (fun k H=>H=[HO.box [.d (.sl (RVs x1.2.1))],HO.box [.d (.i .i64 (Tz24 k).1)],HO.box [.own 51 (Its (Tz24 k).2.1)],HO.box [.d (.i .i64 s9)],HO.box [.d (.b (Tz24 k).2.2.1),.d (.sl (L (Tz24 k).2.2.2.1)),.d (.sl (L (Tz24 k).2.2.2.2))]]) (by rw [hTz240];try rfl) (.inr rfl) (fun l k ds H hk hkm hH=>?_) (fun H hH=>?_)
    ·subst hH
     have hkl:k<List.length x1.1:=by rw [← IQ];exact (lS.1 hk).1
     obtain ⟨x26,hx26,h⟩:=hTz24t k hkl
     rw [Ps hkl hx26] at hk
     cases hk
     generalize ((List.length x1.1-1-k:Nat):Int)=i25 at h ⊢
     clear hx26
     generalize Tz24 k=s0 at h ⊢
     generalize Tz24 (k+1)=s1 at h ⊢
     obtain ⟨s14,s15,s16,s17,s18⟩:=s0
     dsimp only at h ⊢
     refine .seq ?_;refine .region ?_;refine asd ?_;refine rn ?_;refine .gh (Gh.keep [7,8,11,12,13,14,64] rfl) ?_;refine .region ?_;refine vk (van (Ak FJ) FY) ?_
     refine stn ?_ AE (by decide)
     refine rn ?_;refine .gh (Gh.keep [7,8,11,12,13,14,15] rfl) ?_;refine .block ?_;refine .seq ?_;refine .region ?_;refine vk (van (Ak FJ) FY) ?_;refine rn ?_;refine .gh (Gh.keep [7,8,11,12,13,14,15,16] rfl) ?_;refine .seq ?_;refine .seq ?_;refine .region ?_;refine vk (D7 A0 AE) ?_;refine vk (Ks (cs:=[.d (.b s16),.d (.sl (L s17)),.d (.sl (L s18))]) (ds:=[.b s16,.sl (L s17),.sl (L s18)]) rfl A0 AE) ?_
     obtain ⟨x27,hx27,h⟩:=bnd h
     refine vk (VOK.tupd (vs:=[.ag [.b x27.1.1,.sl (L x27.1.2.1),.sl (L x27.1.2.2)],.ag [.b x27.2.1.1,.sl (L x27.2.1.2.1),.sl (L x27.2.1.2.2)],.i .i64 x27.2.2]) (Al (Oc hx27) Tryz.call103)) ?_;refine va ?_;refine vk vex ?_;refine vk vex ?_;refine vk vex ?_
     refine stn ?_ AE (by decide)
     refine Z8 (bx:=[.d (.b s16),.d (.sl (L s17)),.d (.sl (L s18))]) (zs:=[.b s16,.sl (L s17),.sl (L s18)]) (ds:=[.b x27.2.1.1,.sl (L x27.2.1.2.1),.sl (L x27.2.1.2.2)]) rfl rfl rfl ?_ AE (Nat.succ_pos _)
     refine stb (cs:=[.d (.i .i64 s14)]) (c:=.d (.i .i64 s14)) rfl rfl ?_ GS
     refine rn ?_;refine .gh (Gh.keep [7,8,11,12,14,16] rfl) ?_;refine .seq ?_;refine .region ?_;refine vk (II (cs:=[.d (.i .i64 x27.2.2)]) (c:=.i .i64 x27.2.2) rfl rfl Ec) ?_;refine vb ?_;refine rn ?_;refine .gh (Gh.keep [7,8,11,12,14,16,73] rfl) ?_
     by_cases hc:x27.2.2=0
     ·replace h:=Mc hc h
      refine cnf (ntf (dT hc)) ?_;refine .sk ?_;refine .region ?_
      refine PG (cs:=[.own 51 (Its s15)]) rfl rfl ?_ BX
      refine va ?_;refine vk (II (cs:=[.d (.sl (RVs x1.2.1))]) (c:=.sl (RVs x1.2.1)) rfl rfl PR) ?_;refine vk (A5 (D6 _) (M1 _) SJ) ?_;refine vb ?_;refine vk (II (cs:=[.d (.i .i64 s9)]) (c:=.i .i64 s9) rfl rfl AJ) ?_;refine vb ?_;refine vk (D7 A0 AE) ?_;refine vk (vbd Kk CO CL) ?_
      obtain ⟨x28,hx28,h⟩:=bnd h
      obtain ⟨nx28,hnx28,hxx28⟩:=Ah hx28
      refine ixr (off:=0) (len:=(Its s15).length) nx28 hnx28 (by rw [Au];exact (lS.1 hxx28).1) ?_ CF (by decide)
      refine ZW (F:=Its) (zs:=[.i .u8 x28.kind,.b x28.num.1,.sl (L x28.num.2.1),.sl (L x28.num.2.2),.i .i32 x28.char,.sl (Ars x28.box)]) (us:=s15) (n:=nx28) (m:=Int.toNat (w64 ((w64 (i25 * ((List.length x1.2.1:Nat):Int)))+s9))) (x:=(Itm.mk 1 x27.1 0 [])) (Rb (Itm.dv_eq (Itm.mk 1 x27.1 0 [])).symm) (by rw [hnx28];rfl) (by rw [Nat.zero_add];exact CD hxx28) rfl ?_ Az Az (Nat.succ_pos _) (hn:=fun _ _ _=>Nat.zero_le _)
      refine RL.gh (Gh.keep [7,8,11,12,14,16,73,76,77,78,79,80,81,82,83,84] rfl) ?_;refine .nil ?_
      cases h
      exact ⟨by rw [if_pos hkl],rfl⟩
     replace h:=LW hc h
     exact nomatch h
    have hmn:min (List.length x1.1+1) (QN x1.1).length=List.length x1.1:=by rw [IQ];omega
    rw [hmn,hTz24n] at hH
    subst hH
    rw [if_neg (by rw [IQ];omega)]
    clear hz24 hTz240 hTz24n hTz24t
    obtain ⟨z19,z20,z21,z22,z23⟩:=z24
    dsimp only at h ⊢
    show AWM _ _ _ _ _ _
    refine .lift ?_;refine .region ?_;refine vb ?_;refine va ?_;refine .nil ?_;refine ALM.gh (Gh.keep [4,5,6,7,8,9,11,54,55,56] rfl) ?_;refine ALM.gh2 (Gh2.cut (H0:=[HO.box [.d (.sl (RVs x1.2.1))],HO.box [.d (.i .i64 z19)],HO.box [.own 51 (Its z20)]]) [HO.box [.d (.i .i64 s9)],HO.box [.d (.b z21),.d (.sl (L z22)),.d (.sl (L z23))]] rfl rfl rfl rfl) ?_;refine ALM.gh (Gh.keep [4,5,6,7,8,9,11,54,55,56] rfl) ?_
    exact ih (k,s7,s8,(w64 (s9+1)),z19,z20) h (Nat.lt_succ_self _)
   replace h:=LW hc h
   refine cnf (dF hc) ?_;refine .exit ?_
   show AWM _ _ _ _ _ _
   refine .lift ?_;refine .seq ?_;refine .region ?_;refine va ?_;refine fz (p:=.c 2 0) ?_;refine vk (II (cs:=[.d (.sl (Its s11))]) (c:=.sl (Its s11)) rfl rfl BX) ?_
   obtain ⟨x29,hx29,h⟩:=bnd h
   refine vk (VOK.tupd (vs:=[.ag [.sl (Is x29.1.shape),.sl (Its x29.1.items)],.i .i64 x29.2]) (Al (Hh hx29) Tryz.call18)) ?_;refine vk vex ?_;refine vk vex ?_
   refine stn ?_ Ab (by decide)
   refine WV ?_ GS
   refine rn ?_;refine .gh (Gh.keep [4,5] rfl) ?_;refine .ret ?_
   cases h
   exact ⟨.inr rfl,_,_,⟨.inr rfl,Ag,Ab,(by decide:(0:Nat)<2)⟩,⟨.inr rfl,Ec⟩,rfl⟩
  replace h:=LW hc h
  refine cnt (ntt (dF hc)) ?_;refine .seq ?_;refine .drawnF 2 [1] [(4,.nb [.sl (Is []),.sl (Its [])])] [HO.box [.d (.sl (RVs x1.2.1))],HO.box [.d (.i .i64 x3.2)]] A6 (by kernel_rfl) rfl ?_;refine dv (vbd CJ AK AP) ?_;refine dv (II (cs:=[.d (.i .i64 x3.2)]) (c:=.i .i64 x3.2) rfl rfl Ec) ?_;refine dz ?_
  refine ⟨?_,?_,?_⟩
  ·intro k hk
   simp only [List.mem_cons,List.not_mem_nil,or_false] at hk
   subst hk
   exact ⟨_,_,_,rfl,rfl,rfl,rfl,rfl,rfl,(II (cs:=[.d (.i .i64 x3.2)]) (c:=.i .i64 x3.2) rfl rfl Ec)⟩
  ·intro om e hom hge
   cases hom
   exact GM (cs:=[.sl (Is []),.sl (Its [])]) (cs':=[.sl (Is []),.sl (Its [])]) Ab (by decide) rfl ((hge 4 (fun k hk v hv=>by
     simp only [List.mem_cons,List.not_mem_nil,or_false] at hk
     subst hk;exact (by decide:¬(some 47=some 4)) (congrArg (Option.map Prod.fst) hv))).trans rfl) ((congrArg Bh (hge 46 (fun k hk v hv=>by
     simp only [List.mem_cons,List.not_mem_nil,or_false] at hk
     subst hk;exact (by decide:¬(some 47=some 46)) (congrArg (Option.map Prod.fst) hv)))).trans rfl) rfl rfl rfl rfl ⟨rfl,rfl⟩
  refine WV ?_ GS
  refine rn ?_;refine .gh (Gh.keep [4,5,6,7,8,9,10] rfl) ?_;refine .ret ?_
  cases h
  exact ⟨.inr rfl,_,_,⟨.inr rfl,Ag,Ab,(by decide:(0:Nat)<2)⟩,⟨.inr rfl,Ec⟩,rfl⟩
 replace h:=LW hc h
 refine cnt (ntt (dF hc)) ?_;refine .seq ?_;refine .drawnF 2 [1] [(4,.nb [.sl (Is []),.sl (Its [])])] [HO.box [.d (.sl (RVs x1.2.1))],HO.box [.d (.i .i64 x1.2.2)]] A6 (by kernel_rfl) rfl ?_;refine dv (vbd CJ AK AP) ?_;refine dv (II (cs:=[.d (.i .i64 x1.2.2)]) (c:=.i .i64 x1.2.2) rfl rfl Ec) ?_;refine dz ?_
 refine ⟨?_,?_,?_⟩
 ·intro k hk
  simp only [List.mem_cons,List.not_mem_nil,or_false] at hk
  subst hk
  exact ⟨_,_,_,rfl,rfl,rfl,rfl,rfl,rfl,(II (cs:=[.d (.i .i64 x1.2.2)]) (c:=.i .i64 x1.2.2) rfl rfl Ec)⟩
 ·intro om e hom hge
  cases hom
  exact GM (cs:=[.sl (Is []),.sl (Its [])]) (cs':=[.sl (Is []),.sl (Its [])]) Ab (by decide) rfl ((hge 4 (fun k hk v hv=>by
    simp only [List.mem_cons,List.not_mem_nil,or_false] at hk
    subst hk;exact (by decide:¬(some 32=some 4)) (congrArg (Option.map Prod.fst) hv))).trans rfl) ((congrArg Bh (hge 31 (fun k hk v hv=>by
    simp only [List.mem_cons,List.not_mem_nil,or_false] at hk
    subst hk;exact (by decide:¬(some 32=some 31)) (congrArg (Option.map Prod.fst) hv)))).trans rfl) rfl rfl rfl rfl ⟨rfl,rfl⟩
 refine WV ?_ GS
 refine rn ?_;refine .gh (Gh.keep [2,3,4,5,6,7,8] rfl) ?_;refine .ret ?_
 cases h
 exact ⟨.inr rfl,_,_,⟨.inr rfl,Ag,Ab,(by decide:(0:Nat)<2)⟩,⟨.inr rfl,Ec⟩,rfl⟩
def Jj (a0:(Int×RT×Int)) (a1:Int) (a2:Arr) (a3:Arr) : Option (Arr×Int):=((Hi a1).bind fun x1=>(if x1=true then ((Eh a0 ([a2,a3])).bind fun x2=>(if x2=true then (if a1=8835 then none else (if a1=8868 then ((Jl a2 a3).bind fun x3=>(some (x3.1,x3.2))) else (if a1=8869 then none else (jn (fun (z4:Bool)=>(if z4=true then none else (if a1=9075 then none else (if a1=8714 then none else (if a1=9015 then none else none))))) fun K0=>(if a1=8801 then (K0 (decide (a1=8801))) else (K0 (decide (a1=8802)))))))) else (some ((Arr.mk [] []),22)))) else (some ((Arr.mk [] []),23))))
theorem No {a0:(Int×RT×Int)} {a1:Int} {a2:Arr} {a3:Arr} {r:Arr×Int} (h:Jj a0 a1 a2 a3=some r) :
  Fn Tryz.prog 13 [.ag [.i .i64 a0.1,.b a0.2.1.1,.sl (L a0.2.1.2.1),.sl (L a0.2.1.2.2),.i .i64 a0.2.2],.i .i32 a1,.ag [.sl (Is a2.shape),.sl (Its a2.items)],.ag [.sl (Is a3.shape),.sl (Its a3.items)]] (.tup [.d (.ag [.sl (Is r.1.shape),.sl (Its r.1.items)]),.d (.i .i64 r.2)]):=by
 unfold Jj at h
 refine Fn.ofC (rs:=[.cell 8 27,.tmp 9]) (nt:=92) Tryz.func13 rfl rfl rfl (by simp) rfl ?_;refine .sr ?_;refine vk vbx ?_;refine vk vbx ?_;refine vk vbx ?_;refine vk (van (Ak AK) AP) ?_;refine ar [1,4,6,7,8,9] ?_;refine .seq ?_;refine .block ?_;refine .sr ?_;refine va ?_
 obtain ⟨x1,g1,h⟩:=bnd h
 refine vk (Al (LA g1) Tryz.call38) ?_;refine vk vnt ?_;refine ar [1,4,6,7,8,9,11] ?_
 rcases brc h with ⟨hc,h⟩|⟨hc,h⟩
 ·refine cnf (ntf hc) ?_
  refine .sr ?_;refine vk (Ar IX IF) ?_;refine vk (Ar Ag Ab) ?_;refine vk (Ar Ag Ab) ?_;refine vk ((FF (W6 a2 a3) (GT [a2,a3]) I4).deep) ?_
  obtain ⟨x2,g2,h⟩:=bnd h
  refine vk (Al (Hg g2) Tryz.call39) ?_;refine vk vnt ?_;refine ar [1,4,6,7,8,9,16] ?_
  rcases brc h with ⟨hc,h⟩|⟨hc,h⟩
  ·refine cnf (ntf hc) ?_
   refine .sk ?_;refine .seq ?_;refine .sr ?_;refine va ?_;refine rk [1,4,6,7,8,9,24] ?_;refine .block ?_;refine .sr ?_;refine vb ?_;refine ar [1,4,6,7,8,9,24,25] ?_
   rcases brc h with ⟨hc,h⟩|⟨hc,h⟩
   ·refine cnt (dT hc) ?_
    refine .sr ?_;refine vk (Ar IX IF) ?_;refine vk (Ar Ag Ab) ?_;refine vk (Ar Ag Ab) ?_
    exact nomatch h
   refine cnf (dF hc) ?_;refine .sr ?_;refine vb ?_;refine ar [1,4,6,7,8,9,24,33] ?_
   rcases brc h with ⟨hc,h⟩|⟨hc,h⟩
   ·refine cnt (dT hc) ?_
    refine .sr ?_;refine vk (Ar Ag Ab) ?_;refine vk (Ar Ag Ab) ?_
    obtain ⟨x3,g3,h⟩:=bnd h
    refine vk (VOK.tupd (vs:=[.ag [.sl (Is x3.1.shape),.sl (Its x3.1.items)],.i .i64 x3.2]) (Al (M2 g3) Tryz.call41)) ?_;refine vk vex ?_;refine vk vex ?_
    refine stn ?_ Ab (by decide)
    refine ar [1,6,7,8,9] ?_;refine .ret ?_
    cases h
    exact ⟨_,_,⟨.inr rfl,Ag,Ab,p2⟩,rfl,rfl⟩
   refine cnf (dF hc) ?_;refine .sr ?_;refine vb ?_;refine ar [1,4,6,7,8,9,24,40] ?_
   rcases brc h with ⟨hc,h⟩|⟨hc,h⟩
   ·refine cnt (dT hc) ?_
    refine .sr ?_;refine vk (Ar Ag Ab) ?_;refine vk (Ar Ag Ab) ?_
    exact nomatch h
   refine cnf (dF hc) ?_;refine .seq ?_;refine .sr ?_;refine vb ?_;refine ar [1,4,6,7,8,9,24,47] ?_
   obtain ⟨K0,hK0,h⟩:=AH h
   refine AW.mr (σ:=Bool) (fun p=>K0 p=some r) (fun p=>[(1,.d (.i .i32 a1)),(4,.d (.ptr [.i .i64 a0.1,.b a0.2.1.1,.sl (L a0.2.1.2.1),.sl (L a0.2.1.2.2),.i .i64 a0.2.2])),(6,.d (.ptr [.sl (Is a2.shape),.sl (Its a2.items)])),(7,.d (.ptr [.sl (Is a3.shape),.sl (Its a3.items)])),(8,.nb [.sl (Is []),.sl (Its [])]),(9,.d (.i .i64 0)),(24,.d (.i .i32 a1)),(47,.d (.b p))]) (fun p=>[]) ?_ ?_
   ·skip
    rcases brc h with ⟨hc,h⟩|⟨hc,h⟩
    ·refine cnt (dT hc) ?_
     refine .gk [1,4,6,7,8,9,24,47] ?_;refine .skip ?_
     exact jr ((decide (a1=8801))) h
    refine cnf (dF hc) ?_;refine .region ?_;refine vb ?_;refine asd ?_;refine RL.gk [1,4,6,7,8,9,24,47] ?_;refine .nil ?_
    exact jr ((decide (a1=8802))) h
   rintro z4 h
   try dsimp only at h ⊢
   subst hK0
   refine aw ?_
   rcases brc h with ⟨hc,h⟩|⟨hc,h⟩
   ·refine cnt hc ?_
    refine .sr ?_;refine vk (Ar Ag Ab) ?_;refine vk (Ar Ag Ab) ?_
    exact nomatch h
   refine cnf (bf hc) ?_;refine .sr ?_;refine vb ?_;refine ar [1,4,6,7,8,9,24,58] ?_
   rcases brc h with ⟨hc,h⟩|⟨hc,h⟩
   ·refine cnt (dT hc) ?_
    refine .sr ?_;refine vk (Ar IX IF) ?_;refine vk (Ar Ag Ab) ?_;refine vk (Ar Ag Ab) ?_
    exact nomatch h
   refine cnf (dF hc) ?_;refine .sr ?_;refine vb ?_;refine ar [1,4,6,7,8,9,24,66] ?_
   rcases brc h with ⟨hc,h⟩|⟨hc,h⟩
   ·exact nomatch h
   refine cnf (dF hc) ?_;refine .sr ?_;refine vb ?_;refine ar [1,4,6,7,8,9,78] ?_
   rcases brc h with ⟨hc,h⟩|⟨hc,h⟩
   ·refine cnt (dT hc) ?_
    refine .sr ?_;refine vk (Ar IX IF) ?_;refine vk (Ar Ag Ab) ?_;refine vk (Ar Ag Ab) ?_
    exact nomatch h
   refine cnf (dF hc) ?_;refine .sk ?_;refine .sr ?_;refine va ?_;refine vk (Ar Ag Ab) ?_;refine vk (Ar Ag Ab) ?_
   exact nomatch h
  refine cnt (ntt (bf hc)) ?_;refine .sr ?_;refine vk (vbd CJ AK AP) ?_
  refine stn ?_ Ab (by decide)
  refine ar [1,4,6,7,8,9] ?_;refine .ret ?_
  cases h
  exact ⟨_,_,⟨.inr rfl,Ag,Ab,p2⟩,rfl,rfl⟩
 refine cnt (ntt (bf hc)) ?_;refine .sr ?_;refine vk (vbd CJ AK AP) ?_
 refine stn ?_ Ab (by decide)
 refine ar [1,4,6,7,8,9] ?_;refine .ret ?_
 cases h
 exact ⟨_,_,⟨.inr rfl,Ag,Ab,p2⟩,rfl,rfl⟩
def DR : Option ((Int×RT×Int)):=(some ((1,(false,[],[]),0)))
theorem DB {r:(Int×RT×Int)} (h:DR=some r) :
  Fn Tryz.prog 14 [] (.d (.ag [.i .i64 r.1,.b r.2.1.1,.sl (L r.2.1.2.1),.sl (L r.2.1.2.2),.i .i64 r.2.2])):=by
 unfold DR at h
 refine Fn.ofC (rs:=[.cell 0 36]) (nt:=2) Tryz.func14 rfl rfl rfl (by simp) rfl ?_;refine .sr ?_;refine vk (van (Ak X4) Yc) ?_;refine rk [0] ?_;refine .sr ?_;refine vk (vbd ZJ X4 Yc) ?_
 refine stn ?_ IF (by decide)
 refine rk [0] ?_;refine .ret ?_
 cases h
 exact ⟨_,⟨.inr rfl,IX,IF,(by decide:(0:Nat)<5)⟩,rfl⟩
def Fr : Option (Bool):=(DR.bind fun x1=>((GF ([3,1,2])).bind fun x2=>((BB x1 9035 x2).bind fun x3=>(DR.bind fun x4=>((GF ([10,10])).bind fun x5=>((Gt 37).bind fun x6=>((Jj x4 8868 x5 x6).bind fun x7=>(Option.bind ((if x3.2=0 then ((GF ([2,3,1])).bind fun x9=>((G0 x3.1 x9).bind fun x10=>(if x10=true then (if x7.2=0 then ((GF ([3,7])).bind fun x11=>((G0 x7.1 x11).bind fun x12=>(some x12))) else (some false)) else (some false)))) else (some false)) : Option (Bool)) fun (z8:Bool)=>(some (z8))))))))))
theorem JP {r:Bool} (h:Fr=some r) :
  Fn Tryz.prog 16 [] (.d (.b r)):=by
 unfold Fr at h
 refine Fn.o1 0 38 Tryz.func16 ?_;refine .sr ?_;refine ar [0] ?_;refine .sr ?_
 obtain ⟨x1,g1,h⟩:=bnd h
 refine vk (Al (DB g1) Tryz.call14) ?_;refine vk ((E1 (DZ [3,1,2]) DN).deep) ?_
 obtain ⟨x2,g2,h⟩:=bnd h
 refine vk (Al (Gq g2) Tryz.call15) ?_
 obtain ⟨x3,g3,h⟩:=bnd h
 refine vk (VOK.tupd (vs:=[.ag [.sl (Is x3.1.shape),.sl (Its x3.1.items)],.i .i64 x3.2]) (Al (EE g3) Tryz.call19)) ?_;refine va ?_;refine vk vex ?_;refine vk vex ?_;refine vk (van (Ak AK) AP) ?_
 refine stn ?_ Ab (by decide)
 refine ar [0,1,2] ?_;refine .sr ?_
 obtain ⟨x4,g4,h⟩:=bnd h
 refine vk (Al (DB g4) Tryz.call14) ?_;refine vk ((E1 (DZ [10,10]) DN).deep) ?_
 obtain ⟨x5,g5,h⟩:=bnd h
 refine vk (Al (Gq g5) Tryz.call15) ?_
 obtain ⟨x6,g6,h⟩:=bnd h
 refine vk (Al (Kr g6) Tryz.call12) ?_
 obtain ⟨x7,g7,h⟩:=bnd h
 refine vk (VOK.tupd (vs:=[.ag [.sl (Is x7.1.shape),.sl (Its x7.1.items)],.i .i64 x7.2]) (Al (No g7) Tryz.call13)) ?_;refine va ?_;refine vk vex ?_;refine vk vex ?_;refine vk (van (Ak AK) AP) ?_
 refine stn ?_ Ab (by decide)
 refine ar [0,1,2,3,4] ?_;refine .seq ?_
 obtain ⟨z8,hz,h⟩:=bnd h
 refine AW.mr (σ:=Unit) (fun _=>True) (fun _=>[(0,.d (.b z8))]) (fun _=>[]) ?_ ?_
 ·skip
  refine .drawn 18 A6 (by kernel_rfl) ?_;refine dv Ae ?_;refine dv vbi ?_
  rcases brc hz with ⟨hc,hz⟩|⟨hc,hz⟩
  ·have hb0:(decide (x3.2=0))=true:=(dT hc)
   refine dv (VOK.lit (Ae) hb0) ?_;refine dv (D7 Ag Ab) ?_;refine dv ((E1 (DZ [2,3,1]) DN).deep) ?_
   obtain ⟨x9,g9,hz⟩:=bnd hz
   refine dv (Al (Gq g9) Tryz.call15) ?_
   obtain ⟨x10,g10,hz⟩:=bnd hz
   refine dv (Al (IL g10) Tryz.call17) ?_;refine dv Ap ?_
   rcases brc hz with ⟨hc,hz⟩|⟨hc,hz⟩
   ·have hb1:x10=true:=hc
    refine dv (VOK.lit (Ae) hb1) ?_;refine dv Ae ?_;refine dv vbi ?_;refine dv Ap ?_
    rcases brc hz with ⟨hc,hz⟩|⟨hc,hz⟩
    ·have hb2:(decide (x7.2=0))=true:=(dT hc)
     refine dv (VOK.lit (Ae) hb2) ?_;refine dv (D7 Ag Ab) ?_;refine dv ((E1 (DZ [3,7]) DN).deep) ?_
     obtain ⟨x11,g11,hz⟩:=bnd hz
     refine dv (Al (Gq g11) Tryz.call15) ?_
     obtain ⟨x12,g12,hz⟩:=bnd hz
     refine dv (Al (IL g12) Tryz.call17) ?_;refine dv Ap ?_;refine dz ?_;refine asd ?_;refine RL.gk [0] ?_;refine .nil ?_
     cases hz
     exact jr () trivial
    have hb2:(decide (x7.2=0))=false:=(dF hc)
    refine dv (VOK.lit (Ae) hb2) ?_;refine dgf ?_;refine dgf ?_;refine dgf ?_;refine dgf ?_;refine dv Ap ?_;refine dz ?_;refine asd ?_;refine RL.gk [0] ?_;refine .nil ?_
    cases hz
    exact jr () trivial
   have hb1:x10=false:=(bf hc)
   refine dv (VOK.lit (Ae) hb1) ?_;refine dgf ?_;refine dgf ?_;refine dv Ap ?_;refine dv Ae ?_;refine dgf ?_;refine dgf ?_;refine dgf ?_;refine dgf ?_;refine dv Ap ?_;refine dz ?_;refine asd ?_;refine RL.gk [0] ?_;refine .nil ?_
   cases hz
   exact jr () trivial
  have hb0:(decide (x3.2=0))=false:=(dF hc)
  refine dv (VOK.lit (Ae) hb0) ?_;refine dgf ?_;refine dgf ?_;refine dgf ?_;refine dgf ?_;refine dv Ap ?_;refine dv Ae ?_;refine dgf ?_;refine dgf ?_;refine dv Ap ?_;refine dv Ae ?_;refine dgf ?_;refine dgf ?_;refine dgf ?_;refine dgf ?_;refine dv Ap ?_;refine dz ?_;refine asd ?_;refine RL.gk [0] ?_;refine .nil ?_
  cases hz
  exact jr () trivial
 rintro _ _
 refine .ret ?_
 cases h
 exact ⟨rfl,rfl⟩
end Go.FL
namespace Go.FL
open Go
theorem X7 : Fr=some true:=by kernel_rfl
end Go.FL
namespace Go.FL
open Go Go.RowKit Go.ChangeShapes Go.WideShapes Go.ChangeAt
section
variable {H:Type}
def OpF (enc:TypeId×Value→H) (P:Program) (W:World) (n:Nat) (t:TypeId) {α:Type} (F:α→List DV) (Q:α→Prop) : Prop :=
 ∀ (fuel:Nat) (cs:List Value) (x:DataW H×List MemPlace),fuel≤n→DataW.trod enc P W 0 (fun _=>true) true fuel t cs=some x→(∀ m∈DataW.weights P t x.1,m≤reachBytes) →
  ∃ a,Q a∧RepAll W (fun b=>b<W.heap.size) (F a) cs∧∀ u∈cs,u.oneCell'=true
variable {enc:TypeId×Value→H} {P:Program} {W:World}
theorem OpF.mono {n m t:Nat} {α:Type} {F:α→List DV} {Q:α→Prop} (h:OpF enc P W n t F Q) (hm:m≤n) : OpF enc P W m t F Q:=fun fuel cs x hf=>h fuel cs x (by omega)
theorem OpF.map {n t:Nat} {α β:Type} {F:α→List DV} {Q:α→Prop} {G:β→List DV} {R:β→Prop} (h:OpF enc P W n t F Q) (f:∀ a,Q a→∃ b,R b∧F a=G b) : OpF enc P W n t G R:=fun fuel cs x hf h1 h2=>by
 obtain ⟨a,q,r,c⟩:=h fuel cs x hf h1 h2
 obtain ⟨b,rb,e⟩:=f a q
 exact ⟨b,rb,e▸r,c⟩
theorem P0 {n t:Nat} {k:IntKind} (ht:P.underlying t=some (.int k)) : OpF enc P W n t (fun z:Int=>[.i k z]) (fun z=>(Lit.int k z).wf=true):=fun fuel cs x _ h _=>by
 obtain ⟨z,rfl,_,hw⟩:=DataW.trod_int ht h
 exact ⟨z,hw,.cons (.i _ _) .nil,by simp [Value.oneCell']⟩
theorem XG {n t:Nat} (ht:P.underlying t=some .bool) : OpF enc P W n t (fun z:Bool=>[.b z]) (fun _=>True):=fun fuel cs x _ h _=>by
 obtain ⟨z,rfl,_⟩:=DataW.trod_bool ht h
 exact ⟨z,trivial,.cons (.b _) .nil,by simp [Value.oneCell']⟩
theorem IU {e:TypeId} : ∀ {ds:List (DataW H)} {d:DataW H},d∈ds→∀ q∈DataW.weights P e d,q∈DataW.weightsAll P e ds
 | d::ds,d',hd,q,hq=>by
  rw [DataW.weightsAll,List.mem_append]
  rcases List.mem_cons.1 hd with rfl|hd
  ·exact .inl hq
  ·exact .inr (IU hd q hq)
theorem KS {n t e sz:Nat} {α:Type} {F:α→List DV} {Q:α→Prop} (D:α→DV) (ht:P.underlying t=some (.slice e)) (hs:P.cellsOf e=sz) (h0:0<sz) (hD:∀ a,(D a).cells=F a) (h:OpF enc P W n e F Q) :
  OpF enc P W (n+1) t (fun xs:List α=>[.sl (xs.map D)]) (fun xs=>(∀ x∈xs,Q x)∧xs.length * P.bytesOf e≤reachBytes):=by
 intro fuel cs x hf hx hw
 rcases DataW.trod_slice ht hx with ⟨rfl,rfl⟩|⟨a,len,cap,elems,rest,m,rfl,rfl,rfl,hb,hl,hm,hlen,hel,_,_⟩
 ·exact ⟨[],⟨by simp,by simp⟩,.cons (.sl0 _ _) .nil,by simp [Value.oneCell']⟩
 ·simp only [DataW.weights,ht] at hw
  have hroom:(elems.length+rest.length) * P.bytesOf e≤reachBytes:=by
   have:=hw ((elems.length+rest.length) * P.bytesOf e) (by simp)
   exact this
  have each:∀ i,i<len→∃ vs y,W.cells? 0 (a.add (i * P.cellsOf e)) (P.cellsOf e)=some vs∧DataW.trod enc P W 0 (fun _=>true) true m e vs=some y∧∀ q∈DataW.weights P e y.1,q≤reachBytes:=by
   intro i hi
   have h1:=hel i hi
   rw [lG (show i<elems.length by omega)] at h1
   obtain ⟨vs,h2,h3⟩:=Option.bind_eq_some_iff.1 h1
   refine ⟨vs,_,h2,h3,fun q hq=>hw q ?_⟩
   simp only [List.mem_cons,List.mem_append]
   exact .inr (.inl (IU (d:=(elems[i]'(by omega)).1) (List.mem_map_of_mem (List.getElem_mem _)) q hq))
  by_cases hlen0:len=0
  ·subst hlen0
   exact ⟨[],⟨by simp,by simp⟩,.cons (.sl0 _ _) .nil,by simp [Value.oneCell']⟩
  ·obtain ⟨b,off,spot⟩:=a
   have hspot:spot=none:=by
    obtain ⟨vs,y,h1,_,_⟩:=each 0 (by omega)
    obtain ⟨_,k2,k3⟩:=World.cells?_some h1
    have h4:=k3 0 (by omega)
    rw [lG (show 0<vs.length by omega)] at h4
    simpa [Addr.add] using World.cell?_spot h4
   subst hspot
   have build:∀ j,j≤len→∃ (xs:List α) (vs:List Value),xs.length=j∧(∀ x∈xs,Q x)∧Has W b off vs∧RepRows W (fun b=>b<W.heap.size) sz (xs.map D) vs:=by
    intro j
    induction j with
    | zero=>exact fun _=>⟨[],[],rfl,by simp,fun j u hj=>by simp at hj,.nil _⟩
    | succ j ih =>
     intro hj
     obtain ⟨xs,vs,k1,k2,k3,k4⟩:=ih (by omega)
     obtain ⟨us,y,g1,g2,g3⟩:=each j (by omega)
     obtain ⟨_,g4,g5⟩:=World.cells?_some g1
     obtain ⟨x,q1,q2,q3⟩:=h m us y (by omega) g2 g3
     have hvl:=k4.length
     rw [List.length_map,k1] at hvl
     refine ⟨xs++[x],vs++us,by simp [k1],?_,?_,?_⟩
     ·intro z hz
      rcases List.mem_append.1 hz with hz|hz
      ·exact k2 z hz
      ·simp at hz;subst hz;exact q1
     ·intro i u hi
      rw [List.getElem?_append] at hi
      split at hi
      ·exact k3 i u hi
      ·rename_i hge
       have:=g5 (i-vs.length) (by have:=(lS.1 hi).1;omega)
       rw [hi] at this
       rw [← this,hs]
       have e1:off+i=off+j * sz+(i-vs.length):=by omega
       rw [e1,add_plain,add_plain]
     ·rw [List.map_append]
      refine k4.append ?_
      have:=RepRows.cons (sz:=sz) (x:=D x) (xs:=[]) (us:=us) (vs:=[]) (by omega) q3 (by rw [hD];exact q2) (.nil sz)
      simpa using this
   obtain ⟨xs,vs,k1,k2,k3,k4⟩:=build len (Nat.le_refl _)
   have hne:xs≠[]:=fun h=>by subst h;simp at k1;omega
   have hlt:b<W.heap.size:=by
    obtain ⟨us,y,g1,_,_⟩:=each 0 (by omega)
    have:=World.cells?_block g1 (by omega)
    rwa [add_plain] at this
   refine ⟨xs,⟨k2,nT (Nat.mul_le_mul_right _ (by omega)) hroom⟩,.cons ?_ .nil,by simp [Value.oneCell']⟩
   have:=Rep.sl (w:=W) (I:=fun b=>b<W.heap.size) (xs.map D) b off sz cap vs (by simpa using hne) (by rw [List.length_map,k1];exact hl) hlt h0 k3 k4
   rwa [List.length_map,k1] at this
def fTO (P:Program) (t:TypeId) : Option (List (TypeId×Nat)):=match P.underlying t with
 | some (.struct fs)=>some (fs.toList.map fun f=>(f.type,f.offset))
 | _=>none
theorem Na {t:Nat} {l:List (TypeId×Nat)} (h:fTO P t=some l) : ∃ fs,P.underlying t=some (.struct fs)∧fs.toList.map (fun f=>(f.type,f.offset))=l:=by
 unfold fTO at h
 split at h
 ·rename_i fs hu;exact ⟨fs,hu,oI h⟩
 ·cases h
theorem RY {α0 α1:Type} {t n:Nat} {T0 s0:Nat} {F0:α0→List DV} {Q0:α0→Prop} {T1 s1:Nat} {F1:α1→List DV} {Q1:α1→Prop} (ht:fTO P t=some [(T0,0),(T1,s0)]) (hc:P.cellsOf t=s0+s1) (z0:P.cellsOf T0=s0) (h0:OpF enc P W n T0 F0 Q0) (z1:P.cellsOf T1=s1) (h1:OpF enc P W n T1 F1 Q1) :
  OpF enc P W (n+1) t (fun a:α0×α1=>F0 a.1++(F1 a.2)) (fun a=>Q0 a.1∧Q1 a.2):=by
 intro fuel cs x hf h hw
 obtain ⟨fs,hu,hfs⟩:=Na ht
 obtain ⟨xs,m,rfl,rfl,hl,hlen,hfield⟩:=DataW.trod_struct hu h
 have hsz:fs.size=2:=by have:=congrArg List.length hfs;simpa using this
 have hm:m≤n:=by omega
 have each:∀ (i T off:Nat),[(T0,0),(T1,s0)][i]?=some (T,off)→∃ y,DataW.trod enc P W 0 (fun _=>true) true m T ((cs.drop off).take (P.cellsOf T))=some y∧∀ q∈DataW.weights P T y.1,q≤reachBytes:=by
  intro i T off hi
  rw [← hfs] at hi
  obtain ⟨f,hf1,hf2⟩:∃ f,fs[i]?=some f∧(f.type,f.offset)=(T,off):=by
   rw [List.getElem?_map,Option.map_eq_some_iff] at hi
   obtain ⟨f,h1,h2⟩:=hi
   exact ⟨f,by simpa using h1,h2⟩
  cases hf2
  have hi2:i<xs.length:=by have:=(Array.getElem?_eq_some_iff.1 hf1).1;omega
  refine ⟨xs[i],by rw [hfield i f hf1,lG hi2],fun q hq=>hw q ?_⟩
  simp only [DataW.weights,hu]
  exact DataW.weights_mem_each (j:=i) (by simp [hf1]) (by simp [hi2]) q hq
 obtain ⟨y0,e0,w0⟩:=each 0 T0 (0) rfl
 obtain ⟨a0,q0,r0,c0⟩:=h0 m _ y0 hm e0 w0
 rw [z0] at r0 c0
 obtain ⟨y1,e1,w1⟩:=each 1 T1 (s0) rfl
 obtain ⟨a1,q1,r1,c1⟩:=h1 m _ y1 hm e1 w1
 rw [z1] at r1 c1
 have hcs:cs=(cs.drop (0)).take s0++(cs.drop (s0)).take s1:=by
  have hl2:cs.length=s0+s1:=by rw [hl,hc]
  clear each hfield h
  apply List.ext_getElem?
  intro j
  simp only [List.getElem?_append,List.getElem?_take,List.getElem?_drop,List.length_take,List.length_drop]
  repeat' split
  all_goals first|(congr 1;omega)|(rw [List.getElem?_eq_none (by omega)])
 refine ⟨(a0,a1),⟨q0,q1⟩,?_,?_⟩
 ·rw [hcs];exact (r0.append r1)
 ·intro u hu2
  rw [hcs] at hu2
  simp only [List.mem_append] at hu2
  rcases hu2 with hu2|hu2
  ·exact c0 u hu2
  ·exact c1 u hu2
theorem R9 {α0 α1 α2:Type} {t n:Nat} {T0 s0:Nat} {F0:α0→List DV} {Q0:α0→Prop} {T1 s1:Nat} {F1:α1→List DV} {Q1:α1→Prop} {T2 s2:Nat} {F2:α2→List DV} {Q2:α2→Prop} (ht:fTO P t=some [(T0,0),(T1,s0),(T2,s0+s1)]) (hc:P.cellsOf t=s0+s1+s2) (z0:P.cellsOf T0=s0) (h0:OpF enc P W n T0 F0 Q0) (z1:P.cellsOf T1=s1) (h1:OpF enc P W n T1 F1 Q1) (z2:P.cellsOf T2=s2) (h2:OpF enc P W n T2 F2 Q2) :
  OpF enc P W (n+1) t (fun a:α0×α1×α2=>F0 a.1++(F1 a.2.1++(F2 a.2.2))) (fun a=>Q0 a.1∧Q1 a.2.1∧Q2 a.2.2):=by
 intro fuel cs x hf h hw
 obtain ⟨fs,hu,hfs⟩:=Na ht
 obtain ⟨xs,m,rfl,rfl,hl,hlen,hfield⟩:=DataW.trod_struct hu h
 have hsz:fs.size=3:=by have:=congrArg List.length hfs;simpa using this
 have hm:m≤n:=by omega
 have each:∀ (i T off:Nat),[(T0,0),(T1,s0),(T2,s0+s1)][i]?=some (T,off)→∃ y,DataW.trod enc P W 0 (fun _=>true) true m T ((cs.drop off).take (P.cellsOf T))=some y∧∀ q∈DataW.weights P T y.1,q≤reachBytes:=by
  intro i T off hi
  rw [← hfs] at hi
  obtain ⟨f,hf1,hf2⟩:∃ f,fs[i]?=some f∧(f.type,f.offset)=(T,off):=by
   rw [List.getElem?_map,Option.map_eq_some_iff] at hi
   obtain ⟨f,h1,h2⟩:=hi
   exact ⟨f,by simpa using h1,h2⟩
  cases hf2
  have hi2:i<xs.length:=by have:=(Array.getElem?_eq_some_iff.1 hf1).1;omega
  refine ⟨xs[i],by rw [hfield i f hf1,lG hi2],fun q hq=>hw q ?_⟩
  simp only [DataW.weights,hu]
  exact DataW.weights_mem_each (j:=i) (by simp [hf1]) (by simp [hi2]) q hq
 obtain ⟨y0,e0,w0⟩:=each 0 T0 (0) rfl
 obtain ⟨a0,q0,r0,c0⟩:=h0 m _ y0 hm e0 w0
 rw [z0] at r0 c0
 obtain ⟨y1,e1,w1⟩:=each 1 T1 (s0) rfl
 obtain ⟨a1,q1,r1,c1⟩:=h1 m _ y1 hm e1 w1
 rw [z1] at r1 c1
 obtain ⟨y2,e2,w2⟩:=each 2 T2 (s0+s1) rfl
 obtain ⟨a2,q2,r2,c2⟩:=h2 m _ y2 hm e2 w2
 rw [z2] at r2 c2
 have hcs:cs=(cs.drop (0)).take s0++((cs.drop (s0)).take s1++(cs.drop (s0+s1)).take s2):=by
  have hl2:cs.length=s0+s1+s2:=by rw [hl,hc]
  clear each hfield h
  apply List.ext_getElem?
  intro j
  simp only [List.getElem?_append,List.getElem?_take,List.getElem?_drop,List.length_take,List.length_drop]
  repeat' split
  all_goals first|(congr 1;omega)|(rw [List.getElem?_eq_none (by omega)])
 refine ⟨(a0,a1,a2),⟨q0,q1,q2⟩,?_,?_⟩
 ·rw [hcs];exact (r0.append (r1.append r2))
 ·intro u hu2
  rw [hcs] at hu2
  simp only [List.mem_append] at hu2
  rcases hu2 with hu2|hu2|hu2
  ·exact c0 u hu2
  ·exact c1 u hu2
  ·exact c2 u hu2
theorem Sc {α0 α1 α2 α3:Type} {t n:Nat} {T0 s0:Nat} {F0:α0→List DV} {Q0:α0→Prop} {T1 s1:Nat} {F1:α1→List DV} {Q1:α1→Prop} {T2 s2:Nat} {F2:α2→List DV} {Q2:α2→Prop} {T3 s3:Nat} {F3:α3→List DV} {Q3:α3→Prop} (ht:fTO P t=some [(T0,0),(T1,s0),(T2,s0+s1),(T3,s0+s1+s2)]) (hc:P.cellsOf t=s0+s1+s2+s3) (z0:P.cellsOf T0=s0) (h0:OpF enc P W n T0 F0 Q0) (z1:P.cellsOf T1=s1) (h1:OpF enc P W n T1 F1 Q1) (z2:P.cellsOf T2=s2) (h2:OpF enc P W n T2 F2 Q2) (z3:P.cellsOf T3=s3) (h3:OpF enc P W n T3 F3 Q3) :
  OpF enc P W (n+1) t (fun a:α0×α1×α2×α3=>F0 a.1++(F1 a.2.1++(F2 a.2.2.1++(F3 a.2.2.2)))) (fun a=>Q0 a.1∧Q1 a.2.1∧Q2 a.2.2.1∧Q3 a.2.2.2):=by
 intro fuel cs x hf h hw
 obtain ⟨fs,hu,hfs⟩:=Na ht
 obtain ⟨xs,m,rfl,rfl,hl,hlen,hfield⟩:=DataW.trod_struct hu h
 have hsz:fs.size=4:=by have:=congrArg List.length hfs;simpa using this
 have hm:m≤n:=by omega
 have each:∀ (i T off:Nat),[(T0,0),(T1,s0),(T2,s0+s1),(T3,s0+s1+s2)][i]?=some (T,off)→∃ y,DataW.trod enc P W 0 (fun _=>true) true m T ((cs.drop off).take (P.cellsOf T))=some y∧∀ q∈DataW.weights P T y.1,q≤reachBytes:=by
  intro i T off hi
  rw [← hfs] at hi
  obtain ⟨f,hf1,hf2⟩:∃ f,fs[i]?=some f∧(f.type,f.offset)=(T,off):=by
   rw [List.getElem?_map,Option.map_eq_some_iff] at hi
   obtain ⟨f,h1,h2⟩:=hi
   exact ⟨f,by simpa using h1,h2⟩
  cases hf2
  have hi2:i<xs.length:=by have:=(Array.getElem?_eq_some_iff.1 hf1).1;omega
  refine ⟨xs[i],by rw [hfield i f hf1,lG hi2],fun q hq=>hw q ?_⟩
  simp only [DataW.weights,hu]
  exact DataW.weights_mem_each (j:=i) (by simp [hf1]) (by simp [hi2]) q hq
 obtain ⟨y0,e0,w0⟩:=each 0 T0 (0) rfl
 obtain ⟨a0,q0,r0,c0⟩:=h0 m _ y0 hm e0 w0
 rw [z0] at r0 c0
 obtain ⟨y1,e1,w1⟩:=each 1 T1 (s0) rfl
 obtain ⟨a1,q1,r1,c1⟩:=h1 m _ y1 hm e1 w1
 rw [z1] at r1 c1
 obtain ⟨y2,e2,w2⟩:=each 2 T2 (s0+s1) rfl
 obtain ⟨a2,q2,r2,c2⟩:=h2 m _ y2 hm e2 w2
 rw [z2] at r2 c2
 obtain ⟨y3,e3,w3⟩:=each 3 T3 (s0+s1+s2) rfl
 obtain ⟨a3,q3,r3,c3⟩:=h3 m _ y3 hm e3 w3
 rw [z3] at r3 c3
 have hcs:cs=(cs.drop (0)).take s0++((cs.drop (s0)).take s1++((cs.drop (s0+s1)).take s2++(cs.drop (s0+s1+s2)).take s3)):=by
  have hl2:cs.length=s0+s1+s2+s3:=by rw [hl,hc]
  clear each hfield h
  apply List.ext_getElem?
  intro j
  simp only [List.getElem?_append,List.getElem?_take,List.getElem?_drop,List.length_take,List.length_drop]
  repeat' split
  all_goals first|(congr 1;omega)|(rw [List.getElem?_eq_none (by omega)])
 refine ⟨(a0,a1,a2,a3),⟨q0,q1,q2,q3⟩,?_,?_⟩
 ·rw [hcs];exact (r0.append (r1.append (r2.append r3)))
 ·intro u hu2
  rw [hcs] at hu2
  simp only [List.mem_append] at hu2
  rcases hu2 with hu2|hu2|hu2|hu2
  ·exact c0 u hu2
  ·exact c1 u hu2
  ·exact c2 u hu2
  ·exact c3 u hu2
theorem UW {t:TypeId} {v:Value} {d:DataW H} {ps:List MemPlace} {α:Type} {D:α→DV} {Q:α→Prop} (h:∀ n,OpF enc P W n t (fun a=>[D a]) Q) (hv:v.cells.toList=[v])
  (hd:DataW.Trod enc P W 0 (fun _=>true) true t v d ps) (hw:∀ m∈DataW.weights P t d,m≤reachBytes):∃ a,Q a∧Rep W (fun b=>b<W.heap.size) (D a) v:=by
 obtain ⟨fuel,hf⟩:=hd
 obtain ⟨a,q,r,_⟩:=h fuel fuel _ _ (Nat.le_refl _) hf hw
 rw [hv] at r
 cases r with
 | cons r _=>exact ⟨a,q,r⟩
end
end Go.FL
namespace Go.FL
open Go Go.Proofs
section
variable {H:Type} {enc:TypeId×Value→H} {W:World}
theorem TW {n:Nat} : OpF enc Tryz.prog W (n+1) 32 (fun a:List Nat=>[.sl (L a)]) (fun a=>okL 35184372087808 a=true):=by
 refine (KS (α:=Int) (F:=fun z=>[.i .u32 z]) (sz:=1) (fun z=>.i .u32 z) (by kernel_rfl:Tryz.prog.underlying 32=some (.slice 23)) (by kernel_rfl) (by decide) (fun _=>rfl) (P0 (by kernel_rfl))).map fun zs hz=>?_
 obtain ⟨a,h1,h2⟩:=Rn zs hz.1
 refine ⟨a,Dl.2 ⟨h1,?_⟩,by rw [← h2]⟩
 have h3:=hz.2
 rw [show Tryz.prog.bytesOf 23=4 by kernel_rfl,show reachBytes=140737488351232 by decide] at h3
 have:=congrArg List.length h2
 rw [List.length_map,Aa] at this
 omega
theorem RF (n:Nat) : OpF enc Tryz.prog W n 32 (fun a:List Nat=>[.sl (L a)]) (fun a=>okL 35184372087808 a=true):=TW.mono (Nat.le_succ n)
theorem Y9 (n:Nat) : OpF enc Tryz.prog W n 34 (fun r:RT=>[.b r.1,.sl (L r.2.1),.sl (L r.2.2)]) (fun r=>HQ r=true):=by
 refine OpF.mono (n:=n+1) ((R9 (t:=34) (T0:=4) (T1:=32) (T2:=32) (s0:=1) (s1:=1) (s2:=1) (by kernel_rfl) (by kernel_rfl) (by kernel_rfl) (XG (by kernel_rfl)) (by kernel_rfl) (RF n) (by kernel_rfl) (RF n)).map fun r hr=>?_) (Nat.le_succ n)
 exact ⟨r,by rw [HQ,hr.2.1,hr.2.2];rfl,rfl⟩
end
section
variable {H:Type} {enc:TypeId×Value→H} {W:World}
theorem VE {n:Nat} : OpF enc Tryz.prog W (n+1) 24 (fun l:List Int=>[.sl (Is l)]) (fun l=>(∀ z∈l,-9223372036854775808≤z∧z≤9223372036854775807)∧l.length≤17592186044416):=by
 refine (KS (α:=Int) (F:=fun z=>[.i .i64 z]) (sz:=1) (fun z=>.i .i64 z) (by kernel_rfl:Tryz.prog.underlying 24=some (.slice 3)) (by kernel_rfl) (by decide) (fun _=>rfl) (P0 (by kernel_rfl))).map fun zs hz=>?_
 refine ⟨zs,⟨fun z h=>?_,?_⟩,rfl⟩
 ·have:=hz.1 z h
  simp [Lit.wf,IntKind.min,IntKind.max,IntKind.signed,IntKind.bits] at this
  omega
 ·have h3:=hz.2
  rw [show Tryz.prog.bytesOf 3=8 by kernel_rfl,show reachBytes=140737488351232 by decide] at h3
  omega
theorem XP (n:Nat) : OpF enc Tryz.prog W n 24 (fun l:List Int=>[.sl (Is l)]) (fun l=>(∀ z∈l,-9223372036854775808≤z∧z≤9223372036854775807)∧l.length≤17592186044416):=VE.mono (Nat.le_succ n)
def cI6 (x:Itm) : List DV:=[.i .u8 x.kind,.b x.num.1,.sl (L x.num.2.1),.sl (L x.num.2.2),.i .i32 x.char,.sl (Ars x.box)]
def cA2 (a:Arr) : List DV:=[.sl (Is a.shape),.sl (Its a.items)]
theorem Vc {n:Nat} (h:OpF enc Tryz.prog W n 27 cA2 okAr) : OpF enc Tryz.prog W (n+1) 45 (fun l:List Arr=>[.sl (Ars l)]) (fun l=>l.length≤2932031007402∧∀ a∈l,okAr a):=by
 refine (KS (α:=Arr) (F:=cA2) (sz:=2) Arr.dv (by kernel_rfl:Tryz.prog.underlying 45=some (.slice 27)) (by kernel_rfl) (by decide) (fun a=>by rw [Arr.dv_eq];rfl) h).map fun zs hz=>?_
 refine ⟨zs,⟨?_,hz.1⟩,by rw [Hf]⟩
 have h3:=hz.2
 rw [show Tryz.prog.bytesOf 27=48 by kernel_rfl,show reachBytes=140737488351232 by decide] at h3
 omega
theorem Oo {n:Nat} (h:OpF enc Tryz.prog W n 51 cI6 okI) : OpF enc Tryz.prog W (n+1) 25 (fun l:List Itm=>[.sl (Its l)]) (fun l=>l.length≤1466015503701∧∀ x∈l,okI x):=by
 refine (KS (α:=Itm) (F:=cI6) (sz:=6) Itm.dv (by kernel_rfl:Tryz.prog.underlying 25=some (.slice 51)) (by kernel_rfl) (by decide) (fun a=>by rw [Itm.dv_eq];rfl) h).map fun zs hz=>?_
 refine ⟨zs,⟨?_,hz.1⟩,by rw [Fz]⟩
 have h3:=hz.2
 rw [show Tryz.prog.bytesOf 51=96 by kernel_rfl,show reachBytes=140737488351232 by decide] at h3
 omega
theorem TA : ∀ n,OpF enc Tryz.prog W n 51 cI6 okI∧OpF enc Tryz.prog W n 27 cA2 okAr
 | 0=>by
  constructor <;>
  ·intro fuel cs x hf h _
   obtain rfl:fuel=0:=by omega
   simp [DataW.trod] at h
 | n+1=>by
  obtain ⟨hI,hA⟩:=TA n
  constructor
  ·refine OpF.mono (n:=n+1+1) ((Sc (t:=51) (T0:=49) (T1:=34) (T2:=21) (T3:=45) (s0:=1) (s1:=3) (s2:=1) (s3:=1) (by kernel_rfl) (by kernel_rfl) (by kernel_rfl) (P0 (by kernel_rfl:Tryz.prog.underlying 49=some (.int .u8))) (by kernel_rfl) (Y9 (n+1)) (by kernel_rfl) (P0 (by kernel_rfl:Tryz.prog.underlying 21=some (.int .i32))) (by kernel_rfl) (Vc hA)).map fun r hr=>?_) (Nat.le_succ _)
   obtain ⟨k,q,c,b⟩:=r
   obtain ⟨h1,h2,h3,h4⟩:=hr
   refine ⟨.mk k q c b,?_,rfl⟩
   rw [E5]
   refine ⟨?_,h2,?_,h4⟩
   ·simp [Lit.wf,IntKind.min,IntKind.max,IntKind.signed,IntKind.bits] at h1
    show 0≤k∧k<256
    omega
   ·simp [Lit.wf,IntKind.min,IntKind.max,IntKind.signed,IntKind.bits] at h3
    show -2147483648≤c∧c<2147483648
    omega
  ·refine OpF.mono (n:=n+1+1) ((RY (t:=27) (T0:=24) (T1:=25) (s0:=1) (s1:=1) (by kernel_rfl) (by kernel_rfl) (by kernel_rfl) (XP (n+1)) (by kernel_rfl) (Oo hI)).map fun r hr=>?_) (Nat.le_succ _)
   obtain ⟨s,i⟩:=r
   obtain ⟨⟨h1,h2⟩,h3,h4⟩:=hr
   refine ⟨.mk s i,?_,rfl⟩
   rw [BW]
   exact ⟨h1,h2,h3,h4⟩
theorem Wk (n:Nat) : OpF enc Tryz.prog W n 25 (fun l:List Itm=>[.sl (Its l)]) (fun l=>l.length≤1466015503701∧∀ x∈l,okI x):=(Oo (TA n).1).mono (Nat.le_succ n)
end
end Go.FL
