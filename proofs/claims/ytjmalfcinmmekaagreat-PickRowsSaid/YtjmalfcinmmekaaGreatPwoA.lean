/-
  The law: its function printed as a pure function, its contract, the plain law, the statement
-/
import Derived.Test.YtjmalfcinmmekaaGreatPwF
import Derived.Test.YtjmalfcinmmekaaGreatRows
set_option linter.unusedVariables false
namespace Go.FL
open Go Go.Proofs
def BB (a0:(List Itm)) (a1:Int) (K0:Bool→(List Itm)→Option (Bool)) : Nat→Bool→(List Itm)→Int→Option (Bool)
 | 0,_,_,_=>none
 | k+1,s5,s6,s7=>(if s7<(w64 (Int.tdiv ((List.length a0:Nat):Int) (w64 ((Int.tmod (IntKind.wrap .i64 a1) 4)+2)))) then ((sl? a0 (w64 (s7 * (w64 ((Int.tmod (IntKind.wrap .i64 a1) 4)+2)))) (w64 ((w64 (s7+1)) * (w64 ((Int.tmod (IntKind.wrap .i64 a1) 4)+2))))).bind fun x8=>((AM ([(w64 ((Int.tmod (IntKind.wrap .i64 a1) 4)+2))]) x8).bind fun x9=>(Option.bind ((if x9.2=0 then ((FC x9.1).bind fun x11=>(some (decide (16≤x11)))) else (some true)):Option (Bool)) fun (z10:Bool)=>(if z10=true then (CZ.bind fun x12=>(some (x12))) else ((C0 x9.1).bind fun x13=>((ap? 1466015503701 s6 [x13]).bind fun x14=>(BB a0 a1 K0 k s5 x14 (w64 (s7+1))))))))) else (K0 s5 s6))
def Bx (a0:(List Itm)) (a1:Int) (x17:Arr×Int) (K2:Bool→Option (Bool)) : Nat→Bool→Int→Option (Bool)
 | 0,_,_=>none
 | k+1,s22,s23=>(if s23<(w64 ((w64 (Int.tdiv ((List.length a0:Nat):Int) (w64 ((Int.tmod (IntKind.wrap .i64 a1) 4)+2)))) * (w64 ((Int.tmod (IntKind.wrap .i64 a1) 4)+2)))) then ((rd? x17.1.items s23).bind fun x24=>((rd? a0 s23).bind fun x25=>((Dh x24 x25).bind fun x26=>(if x26=true then (Bx a0 a1 x17 K2 k s22 (w64 (s23+1))) else (some (false)))))) else (K2 s22))
def EV (a0:(List Itm)) (a1:Int) : Option (Bool):=((Fp ((w64 ((Int.tmod (IntKind.wrap .i64 a1) 4)+2))≠0)).bind fun x1=>(if ((decide ((w64 (Int.tdiv ((List.length a0:Nat) : Int) (w64 ((Int.tmod (IntKind.wrap .i64 a1) 4)+2))))=0))||(decide (4096<(w64 ((w64 (Int.tdiv ((List.length a0:Nat) : Int) (w64 ((Int.tmod (IntKind.wrap .i64 a1) 4)+2)))) * (w64 ((Int.tmod (IntKind.wrap .i64 a1) 4)+2)))))))=true then (CZ.bind fun x2=>(some (x2))) else (jn (fun (z3:Bool) (z4:(List Itm))=>((AM ([(w64 (Int.tdiv ((List.length a0:Nat) : Int) (w64 ((Int.tmod (IntKind.wrap .i64 a1) 4)+2))))]) z4).bind fun x15=>(if x15.2=0 then (Fb.bind fun x16=>((Dq x16 8835 x15.1).bind fun x17=>(Option.bind ((if x17.2=0 then (if ((List.length x17.1.shape:Nat) : Int)=2 then ((rd? x17.1.shape 0).bind fun x19=>(if x19=(w64 (Int.tdiv ((List.length a0:Nat) : Int) (w64 ((Int.tmod (IntKind.wrap .i64 a1) 4)+2)))) then ((rd? x17.1.shape 1).bind fun x20=>(some (!(decide (x20=(w64 ((Int.tmod (IntKind.wrap .i64 a1) 4)+2))))))) else (some true))) else (some true)) else (some true)) : Option (Bool)) fun (z18:Bool)=>(if z18=true then (some (false)) else (jn (fun (z21:Bool)=>(CZ.bind fun x27=>(some (x27)))) fun K2=>(Bx a0 a1 x17 K2 AC z3 0)))))) else (CZ.bind fun x28=>(some (x28)))))) fun K0=>(BB a0 a1 K0 AC false [] 0))))
set_option maxHeartbeats 4000000 in
theorem Ku {a0:(List Itm)} {a1:Int} {r:Bool} (h:EV a0 a1=some r) :
  Fn Tryz.prog 7 [.sl (Its a0),.i .u8 a1] (.d (.b r)):=by
 unfold EV at h
 refine Fn.o1 4 125 Tryz.func7 ?_;refine .sr ?_;refine ar [0,1,4] ?_;refine .sr ?_;refine va ?_;refine vk (vcv TZ Hz) ?_;refine vk (Ip (c:=(4:Int)≠0) (by decide)) ?_;refine vb ?_;refine ar [0,4,5] ?_;refine .sr ?_;refine va ?_;refine vk (A0 (Az _) (Cu _) Ct) ?_;refine va ?_
 obtain ⟨x1,g1,h⟩:=bnd h
 refine vk (Ip (Ey g1)) ?_;refine ar [0,4,5,6] ?_;refine .seq ?_;refine .seq ?_;refine AW.mr (σ:=Unit) (fun _=>True) (fun _=>[(0,.d (.sl (Its a0))),(4,.d (.b false)),(5,.d (.i .i64 (w64 ((Int.tmod (IntKind.wrap .i64 a1) 4)+2)))),(6,.d (.i .i64 (w64 (Int.tdiv ((List.length a0:Nat):Int) (w64 ((Int.tmod (IntKind.wrap .i64 a1) 4)+2)))))),(31,.d (.b ((decide ((w64 (Int.tdiv ((List.length a0:Nat):Int) (w64 ((Int.tmod (IntKind.wrap .i64 a1) 4)+2))))=0))||(decide (4096<(w64 ((w64 (Int.tdiv ((List.length a0:Nat):Int) (w64 ((Int.tmod (IntKind.wrap .i64 a1) 4)+2)))) * (w64 ((Int.tmod (IntKind.wrap .i64 a1) 4)+2)))))))))]) (fun _=>[]) ?_ ?_
 ·skip
  refine .region ?_;refine va ?_;refine vb ?_
  by_cases hc:(w64 (Int.tdiv ((List.length a0:Nat):Int) (w64 ((Int.tmod (IntKind.wrap .i64 a1) 4)+2))))=0
  ·have hb0:(decide ((w64 (Int.tdiv ((List.length a0:Nat):Int) (w64 ((Int.tmod (IntKind.wrap .i64 a1) 4)+2))))=0))=true:=(dT hc)
   refine vL hb0 ?_;refine gf4 ?_;refine vk Aq ?_;refine RL.gk [0,4,5,6,31] ?_;refine .nil ?_
   exact jr () trivial (by simp only [hb0];rfl)
  have hb0:(decide ((w64 (Int.tdiv ((List.length a0:Nat):Int) (w64 ((Int.tmod (IntKind.wrap .i64 a1) 4)+2))))=0))=false:=(dF hc)
  refine vL hb0 ?_;refine va ?_;refine va ?_;refine vb ?_;refine vb ?_;refine vk Aq ?_;refine RL.gk [0,4,5,6,31] ?_;refine .nil ?_
  exact jr () trivial (by simp only [hb0];rfl)
 rintro _ _
 rcases brc h with ⟨hc,h⟩|⟨hc,h⟩
 ·refine cnt hc ?_
  refine .sr ?_
  obtain ⟨x2,g2,h⟩:=bnd h
  refine vk (Ai (Fz g2) Tryz.call16) ?_;refine ar [0,4,5,6] ?_;refine .ret ?_
  cases h
  exact ⟨rfl,rfl⟩
 refine cnf (bf hc) ?_;refine .sk ?_;refine .sr ?_;refine asn ?_;refine rk [0,4,5,6,7] ?_;refine .seq ?_;refine .sr ?_;refine ar [0,4,5,6,7,8] ?_
 obtain ⟨K0,hK0,h⟩:=AE h
 refine AW.mr (σ:=Bool×(List Itm)) (fun p=>K0 p.1 p.2=some r) (fun p=>[(0,.d (.sl (Its a0))),(4,.d (.b p.1)),(5,.d (.i .i64 (w64 ((Int.tmod (IntKind.wrap .i64 a1) 4)+2)))),(6,.d (.i .i64 (w64 (Int.tdiv ((List.length a0:Nat):Int) (w64 ((Int.tmod (IntKind.wrap .i64 a1) 4)+2)))))),(7,.own 51 (Its p.2))]) (fun p=>[]) ?_ ?_
 ·skip
  refine .block ?_;refine .gh (Gh.nlOwn (t:=7) 51 (by rw [Le];decide) rfl) ?_
  refine .loop (.gk [0,4,5,6,7,8] ?_)
  refine AL.ind (σ:=Nat×Bool×(List Itm)×Int) (m:=fun p=>p.1) (e:=fun p=>[(0,.d (.sl (Its a0))),(4,.d (.b p.2.1)),(5,.d (.i .i64 (w64 ((Int.tmod (IntKind.wrap .i64 a1) 4)+2)))),(6,.d (.i .i64 (w64 (Int.tdiv ((List.length a0:Nat):Int) (w64 ((Int.tmod (IntKind.wrap .i64 a1) 4)+2)))))),(7,.own 51 (Its p.2.2.1)),(8,.d (.i .i64 p.2.2.2))]) (h:=fun p=>[]) (I:=fun p=>BB a0 a1 K0 p.1 p.2.1 p.2.2.1 p.2.2.2=some r) ?_ (AC,false,[],0) h
  rintro ⟨k,s5,s6,s7⟩ h ih
  dsimp only at h ih ⊢
  rcases k with _|k
  ·rw [BB] at h;cases h
  rw [BB] at h
  refine .seq ?_;refine .sr ?_;refine va ?_;refine va ?_;refine vb ?_;refine rk [0,4,5,6,7,8,35] ?_
  rcases brc h with ⟨hc,h⟩|⟨hc,h⟩
  ·refine cnt (dT hc) ?_
   refine .sk ?_;refine .seq ?_;refine .block ?_;refine .sr ?_;refine va ?_;refine vk ((FE (Ed [(w64 ((Int.tmod (IntKind.wrap .i64 a1) 4)+2))]) DE).deep) ?_;refine va ?_;refine va ?_;refine va ?_;refine vb ?_;refine va ?_;refine vb ?_;refine va ?_;refine vb ?_
   obtain ⟨x8,g8,h⟩:=bnd h
   refine vk (Zg XB Xv Az g8 Fy Cl) ?_
   obtain ⟨x9,g9,h⟩:=bnd h
   refine vk (VOK.tupd (vs:=[.ag [.sl (Is x9.1.shape),.sl (Its x9.1.items)],.i .i64 x9.2]) (Ai (DO g9) Tryz.call18)) ?_;refine va ?_;refine vk vex ?_;refine vk vex ?_;refine vk (van (Ah AI) AK) ?_
   refine stn ?_ Aa (by decide)
   refine ar [0,4,5,6,7,8,9,10] ?_;refine .seq ?_;refine .seq ?_
   obtain ⟨z10,hz,h⟩:=bnd h
   refine AW.mr (σ:=Unit) (fun _=>True) (fun _=>[(0,.d (.sl (Its a0))),(4,.d (.b s5)),(5,.d (.i .i64 (w64 ((Int.tmod (IntKind.wrap .i64 a1) 4)+2)))),(6,.d (.i .i64 (w64 (Int.tdiv ((List.length a0:Nat):Int) (w64 ((Int.tmod (IntKind.wrap .i64 a1) 4)+2)))))),(7,.own 51 (Its s6)),(8,.d (.i .i64 s7)),(9,.nb [.sl (Is x9.1.shape),.sl (Its x9.1.items)]),(59,.d (.b z10))]) (fun _=>[]) ?_ ?_
   ·skip
    refine .region ?_;refine va ?_;refine vb ?_
    rcases brc hz with ⟨hc,hz⟩|⟨hc,hz⟩
    ·have hb0:(!(decide (x9.2=0)))=false:=(ntf (dT hc))
     refine vL hb0 ?_;refine vk (DF Ae Aa) ?_
     obtain ⟨x11,g11,hz⟩:=bnd hz
     refine vk (Ai (Nh g11) Tryz.call28) ?_;refine vb ?_;refine vk Aq ?_;refine RL.gk [0,4,5,6,7,8,9,59] ?_;refine .nil ?_
     cases hz
     exact jr () trivial
    have hb0:(!(decide (x9.2=0)))=true:=(ntt (dF hc))
    refine vL hb0 ?_;refine gf3 ?_;refine vk Aq ?_;refine RL.gk [0,4,5,6,7,8,9,59] ?_;refine .nil ?_
    cases hz
    exact jr () trivial
   rintro _ _
   rcases brc h with ⟨hc,h⟩|⟨hc,h⟩
   ·refine cnt hc ?_
    refine .sr ?_
    obtain ⟨x12,g12,h⟩:=bnd h
    refine vk (Ai (Fz g12) Tryz.call16) ?_;refine ar [0,4,5,6,7,8,9] ?_;refine .ret ?_
    cases h
    exact ⟨rfl,rfl⟩
   refine cnf (bf hc) ?_;refine .sk ?_;refine .region ?_;refine mvo ?_;refine vk (DF Ae Aa) ?_
   obtain ⟨x13,g13,h⟩:=bnd h
   refine vk (Ai (KJ g13) Tryz.call29) ?_;refine vk ((EI (EW x13) (D7 [x13]) De).deep) ?_
   obtain ⟨x14,g14,h⟩:=bnd h
   refine OO GY g14 IU ?_ Fy Az De
   refine aso ?_;refine .nil ?_;refine aw ?_;refine .gk [0,4,5,6,7,8] ?_;refine .region ?_;refine va ?_;refine vb ?_;refine asd ?_;refine .nil ?_;refine AL.gk [0,4,5,6,7,8] ?_
   exact ih (k,s5,x14,(w64 (s7+1))) h (Nat.lt_succ_self _)
  refine cnf (dF hc) ?_;refine .gk [0,4,5,6,7] ?_;refine .exit ?_
  exact jr (s5,s6) h
 rintro ⟨z3,z4⟩ h
 try dsimp only at h ⊢
 subst hK0
 refine aw ?_;refine .sr ?_;refine va ?_;refine vk ((FE (Ed [(w64 (Int.tdiv ((List.length a0:Nat):Int) (w64 ((Int.tmod (IntKind.wrap .i64 a1) 4)+2))))]) DE).deep) ?_;refine fz (p:=.t 7) ?_;refine va ?_
 obtain ⟨x15,g15,h⟩:=bnd h
 refine vk (VOK.tupd (vs:=[.ag [.sl (Is x15.1.shape),.sl (Its x15.1.items)],.i .i64 x15.2]) (Ai (DO g15) Tryz.call18)) ?_;refine va ?_;refine vk vex ?_;refine vk vex ?_;refine vk (van (Ah AI) AK) ?_
 refine stn ?_ Aa (by decide)
 refine ar [0,4,5,6,11,12] ?_;refine .seq ?_;refine .sr ?_;refine va ?_;refine vb ?_;refine rk [0,4,5,6,11,74] ?_
 rcases brc h with ⟨hc,h⟩|⟨hc,h⟩
 ·refine cnf (ntf (dT hc)) ?_
  refine .sk ?_;refine .seq ?_
  obtain ⟨x16,g16,h⟩:=bnd h
  obtain ⟨x17,g17,h⟩:=bnd h
  refine .drawnF 7 [5] [(13,.nb [.sl (Is x17.1.shape),.sl (Its x17.1.items)])] [] A3 (by kernel_rfl) rfl ?_;refine dv (Ai (Ia g16) Tryz.call14) ?_;refine dv (DF Ae Aa) ?_;refine dv (VOK.tupd (vs:=[.ag [.sl (Is x17.1.shape),.sl (Its x17.1.items)],.i .i64 x17.2]) (Ai (Ii g17) Tryz.call19)) ?_;refine dv Ac ?_;refine dv vex ?_;refine dv vex ?_;refine dv (van (Ah AI) AK) ?_;refine dz ?_
  refine ⟨?_,?_,?_⟩
  ·intro k hk
   simp only [List.mem_cons,List.not_mem_nil,or_false] at hk
   subst hk
   exact ⟨_,_,_,rfl,rfl,rfl,rfl,rfl,rfl,vex⟩
  ·intro om e hom hge
   cases hom
   exact Hy (cs:=[.sl (Is []),.sl (Its [])]) (cs':=[.sl (Is x17.1.shape),.sl (Its x17.1.items)]) Aa (by decide) rfl ((hge 13 (fun k hk v hv=>by
     simp only [List.mem_cons,List.not_mem_nil,or_false] at hk
     subst hk;exact (by decide:¬(some 81=some 13)) (congrArg (Option.map Prod.fst) hv))).trans rfl) ((congrArg Bo (hge 80 (fun k hk v hv=>by
     simp only [List.mem_cons,List.not_mem_nil,or_false] at hk
     subst hk;exact (by decide:¬(some 81=some 80)) (congrArg (Option.map Prod.fst) hv)))).trans rfl) rfl rfl rfl rfl ⟨rfl,rfl⟩
  refine ar [0,4,5,6,13,14] ?_;refine .seq ?_;refine .seq ?_;refine .gh (Gh.nbp (t:=13) rfl) ?_
  obtain ⟨z18,hz,h⟩:=bnd h
  refine AW.mr (σ:=Unit) (fun _=>True) (fun _=>[(0,.d (.sl (Its a0))),(4,.d (.b z3)),(5,.d (.i .i64 (w64 ((Int.tmod (IntKind.wrap .i64 a1) 4)+2)))),(6,.d (.i .i64 (w64 (Int.tdiv ((List.length a0:Nat):Int) (w64 ((Int.tmod (IntKind.wrap .i64 a1) 4)+2)))))),(13,.d (.ptr [.sl (Is x17.1.shape),.sl (Its x17.1.items)])),(105,.d (.b z18))]) (fun _=>[]) ?_ ?_
  ·skip
   refine .region ?_;refine va ?_;refine vb ?_
   rcases brc hz with ⟨hc,hz⟩|⟨hc,hz⟩
   ·have hb0:(!(decide (x17.2=0)))=false:=(ntf (dT hc))
    refine vL hb0 ?_;refine vk (vfa AJ) ?_;refine vk (Aj Bl) ?_;refine vk (A0 (Af _) (Bv _) Bp) ?_;refine vb ?_;refine vk Aq ?_
    rcases brc hz with ⟨hc,hz⟩|⟨hc,hz⟩
    ·have hb1:(!(decide (((List.length x17.1.shape:Nat):Int)=2)))=false:=(ntf (dT hc))
     refine vL hb1 ?_;refine vk (vfa AJ) ?_;refine vk (Aj Bl) ?_
     obtain ⟨x19,g19,hz⟩:=bnd hz
     obtain ⟨n19,p019,q19⟩:=Ag g19
     refine vk (vix n19 p019 (Be q19) rfl A9) ?_;refine vk (Aj AF) ?_;refine va ?_;refine vb ?_;refine vk Aq ?_
     rcases brc hz with ⟨hc,hz⟩|⟨hc,hz⟩
     ·have hb2:(!(decide (x19=(w64 (Int.tdiv ((List.length a0:Nat):Int) (w64 ((Int.tmod (IntKind.wrap .i64 a1) 4)+2)))))))=false:=(ntf (dT hc))
      refine vL hb2 ?_;refine vk (vfa AJ) ?_;refine vk (Aj Bl) ?_
      obtain ⟨x20,g20,hz⟩:=bnd hz
      obtain ⟨n20,p020,q20⟩:=Ag g20
      refine vk (vix n20 p020 (Be q20) rfl A9) ?_;refine vk (Aj AF) ?_;refine va ?_;refine vb ?_;refine vk Aq ?_;refine RL.gk [0,4,5,6,13,105] ?_;refine .nil ?_
      cases hz
      exact jr () trivial
     have hb2:(!(decide (x19=(w64 (Int.tdiv ((List.length a0:Nat):Int) (w64 ((Int.tmod (IntKind.wrap .i64 a1) 4)+2)))))))=true:=(ntt (dF hc))
     refine vL hb2 ?_;refine gf4 ?_;refine gf2 ?_;refine vk Aq ?_;refine RL.gk [0,4,5,6,13,105] ?_;refine .nil ?_
     cases hz
     exact jr () trivial
    have hb1:(!(decide (((List.length x17.1.shape:Nat):Int)=2)))=true:=(ntt (dF hc))
    refine vL hb1 ?_;refine gf4 ?_;refine gf2 ?_;refine vk Aq ?_;refine va ?_;refine gf4 ?_;refine gf2 ?_;refine vk Aq ?_;refine RL.gk [0,4,5,6,13,105] ?_;refine .nil ?_
    cases hz
    exact jr () trivial
   have hb0:(!(decide (x17.2=0)))=true:=(ntt (dF hc))
   refine vL hb0 ?_;refine gf4 ?_;refine vk Aq ?_;refine va ?_;refine gf4 ?_;refine gf2 ?_;refine vk Aq ?_;refine va ?_;refine gf4 ?_;refine gf2 ?_;refine vk Aq ?_;refine RL.gk [0,4,5,6,13,105] ?_;refine .nil ?_
   cases hz
   exact jr () trivial
  rintro _ _
  rcases brc h with ⟨hc,h⟩|⟨hc,h⟩
  ·refine cnt hc ?_
   refine .sr ?_;refine ar [0,4,5,6,13] ?_;refine .ret ?_
   cases h
   exact ⟨rfl,rfl⟩
  refine cnf (bf hc) ?_;refine .sk ?_;refine .seq ?_;refine .sr ?_;refine ar [0,4,5,6,13,15] ?_
  obtain ⟨K2,hK2,h⟩:=AE h
  refine AW.mr (σ:=Bool) (fun p=>K2 p=some r) (fun p=>[(4,.d (.b p))]) (fun p=>[]) ?_ ?_
  ·skip
   refine .block ?_
   refine .loop (.gk [0,4,5,6,13,15] ?_)
   refine AL.ind (σ:=Nat×Bool×Int) (m:=fun p=>p.1) (e:=fun p=>[(0,.d (.sl (Its a0))),(4,.d (.b p.2.1)),(5,.d (.i .i64 (w64 ((Int.tmod (IntKind.wrap .i64 a1) 4)+2)))),(6,.d (.i .i64 (w64 (Int.tdiv ((List.length a0:Nat):Int) (w64 ((Int.tmod (IntKind.wrap .i64 a1) 4)+2)))))),(13,.d (.ptr [.sl (Is x17.1.shape),.sl (Its x17.1.items)])),(15,.d (.i .i64 p.2.2))]) (h:=fun p=>[]) (I:=fun p=>Bx a0 a1 x17 K2 p.1 p.2.1 p.2.2=some r) ?_ (AC,z3,0) h
   rintro ⟨k,s22,s23⟩ h ih
   dsimp only at h ih ⊢
   rcases k with _|k
   ·rw [Bx] at h;cases h
   rw [Bx] at h
   refine .seq ?_;refine .sr ?_;refine va ?_;refine va ?_;refine va ?_;refine vb ?_;refine vb ?_;refine rk [0,4,5,6,13,15,110] ?_
   rcases brc h with ⟨hc,h⟩|⟨hc,h⟩
   ·refine cnt (dT hc) ?_
    refine .sk ?_;refine .seq ?_;refine .block ?_;refine .seq ?_;refine .drawn 11 A3 (by kernel_rfl) ?_;refine dv (vfa A4) ?_;refine dv (Aj BL) ?_;refine dv Ac ?_
    obtain ⟨x24,g24,h⟩:=bnd h
    obtain ⟨n24,p024,q24⟩:=Ag g24
    refine dv (vix n24 p024 (Cw q24) rfl Cl) ?_;refine dv (Ao AP Au) ?_;refine dv Ac ?_;refine dv Ac ?_
    obtain ⟨x25,g25,h⟩:=bnd h
    obtain ⟨n25,p025,q25⟩:=Ag g25
    refine dv (vix n25 p025 (Cw q25) rfl Cl) ?_;refine dv (Ao AP Au) ?_
    obtain ⟨x26,g26,h⟩:=bnd h
    refine dv (Ai (Kv g26) Tryz.call27) ?_;refine dv vnt ?_;refine dz ?_;refine rk [0,4,5,6,13,15,123] ?_
    rcases brc h with ⟨hc,h⟩|⟨hc,h⟩
    ·refine cnf (ntf hc) ?_
     refine .sk ?_;refine .region ?_;refine va ?_;refine vb ?_;refine asd ?_;refine .nil ?_;refine AL.gk [0,4,5,6,13,15] ?_
     exact ih (k,s22,(w64 (s23+1))) h (Nat.lt_succ_self _)
    refine cnt (ntt (bf hc)) ?_;refine .sr ?_;refine ar [0,4,5,6,13,15] ?_;refine .ret ?_
    cases h
    exact ⟨rfl,rfl⟩
   refine cnf (dF hc) ?_;refine .gk [4] ?_;refine .exit ?_
   exact jr (s22) h
  rintro z21 h
  try dsimp only at h ⊢
  subst hK2
  refine aw ?_;refine .sr ?_
  obtain ⟨x27,g27,h⟩:=bnd h
  refine vk (Ai (Fz g27) Tryz.call16) ?_;refine ar [4] ?_;refine .ret ?_
  cases h
  exact ⟨rfl,rfl⟩
 refine cnt (ntt (dF hc)) ?_;refine .sr ?_
 obtain ⟨x28,g28,h⟩:=bnd h
 refine vk (Ai (Fz g28) Tryz.call16) ?_;refine ar [0,4,5,6,11] ?_;refine .ret ?_
 cases h
 exact ⟨rfl,rfl⟩
theorem Zm : Fb=some (1,(false,[],[]),0):=rfl
theorem Wa : E7 8835=some true:=by kernel_rfl
theorem WM {a:Arr} (oa:okAr a) (ra:A7 a) {r:Arr} {e:Int} (h:DN a=some (r,e)) : Dq (1,(false,[],[]),0) 8835 a=some (r,e):=by
 unfold Dq
 rw [Wa,oB,if_pos rfl,TH oa ra,oB,if_pos rfl,MW oa,oB,if_neg (show ¬((8835:Int)=8834) by decide),if_pos rfl,h];rfl
def JG (l:List Itm) (w r:Nat) : List Itm:=(l.drop (r * w)).take w
def El (l:List Itm) (w R:Nat) : List (List Itm):=(List.range R).map (JG l w)
theorem JC (l:List Itm) (w R:Nat) : El l w (R+1)=El l w R++[JG l w R]:=by unfold El;rw [List.range_succ,List.map_append];rfl
theorem J9 (l:List Itm) (w R:Nat) : (El l w R).length=R:=by simp [El]
theorem MS (l:List Itm) (w:Nat) : ∀ R,(El l w R).flatten=l.take (R * w)
 | 0=>by simp [El]
 | R+1=>by
  rw [JC,List.flatten_append,MS l w R,Nat.succ_mul,List.take_add]
  simp [JG]
theorem Lu {l:List Itm} {w r R:Nat} (hr:r<R) (h:R * w≤l.length) : (JG l w r).length=w:=by
 have:(r+1) * w≤R * w:=Nat.mul_le_mul_right w hr
 rw [Nat.succ_mul] at this
 unfold JG
 rw [List.length_take,List.length_drop];omega
theorem NX : ∀ rows : List (List Itm),cIs (rows.map E2)=rows.flatten.length+cIs rows.flatten
 | []=>rfl
 | r::rows=>by
  rw [List.map_cons,cIs,NX rows,List.flatten_cons,List.length_append,L7]
  have:cI (E2 r)=r.length+cIs r:=by simp [E2,cI,cBs,vec,cA]
  omega
theorem Ym {r:List Itm} : dI (E2 r)=1+dIs r:=by
 rw [QD]
 show dBs [vec r]=_
 simp [dBs,vec,dA,GJ]
theorem NV {l:List Itm} (hl:l.length≤1466015503701∧∀ x∈l,okI x) {w R:Nat} {a1:Int} (hw:w64 ((Int.tmod (IntKind.wrap .i64 a1) 4)+2)=(w:Int)) (w0:2≤w) (w5:w≤5) (hR:w64 (Int.tdiv ((List.length l:Nat) : Int) (w64 ((Int.tmod (IntKind.wrap .i64 a1) 4)+2)))=(R:Int)) (hRw:R * w≤l.length) (hRw4:R * w≤4096) (K:Bool→List Itm→Option Bool) : ∀ (m i k:Nat) (s:Bool),m=R-i→i≤R→m<k→(∀ r∈El l w i,VR r∧okI (E2 r)) →
  BB l a1 K k s ((El l w i).map E2) (i:Int)=some true∨((∀ r∈El l w R,VR r∧okI (E2 r))∧BB l a1 K k s ((El l w i).map E2) (i:Int)=K s ((El l w R).map E2))
 | m,i,0,s,_,_,h,_=>by omega
 | m,i,k+1,s,hm,hi,hk,hv=>by
  rw [BB,hR,hw]
  by_cases hlt:i<R
  ·have hRl:R≤4096:=nT (Nat.le_mul_of_pos_right _ (by omega)) hRw4
   have hi1:(i+1) * w≤R * w:=Nat.mul_le_mul_right w hlt
   have hi0:i * w+w=(i+1) * w:=(Nat.succ_mul i w).symm
   have m1:w64 ((i:Int) * (w:Int))=((i * w:Nat):Int):=by rw [← Int.natCast_mul,B8 (by omega) (by omega)]
   have m2:w64 (((i+1:Nat):Int) * (w:Int))=(((i+1) * w:Nat):Int):=by rw [← Int.natCast_mul,B8 (by omega) (by omega)]
   have hs:sl? l ((i * w:Nat):Int) (((i+1) * w:Nat):Int)=some (JG l w i):=by
    unfold sl? JG
    rw [if_pos ⟨by omega,by omega,by omega⟩,Int.toNat_natCast,Int.toNat_natCast,show (i+1) * w-i * w=w by omega]
   have hlen:=Lu (l:=l) hlt hRw
   have hok:∀ x∈JG l w i,okI x:=fun x hx=>hl.2 x (List.mem_of_mem_drop (List.mem_of_mem_take hx))
   have hmk:∃ r e,AM [(w:Int)] (JG l w i)=some (r,e):=⟨_,_,GV (fun z hz=>by rw [List.mem_singleton] at hz;omega) (by simp) (by omega) hok⟩
   obtain ⟨r,e,hr⟩:=hmk
   rw [if_pos (by omega),Cr (by omega),m1,m2,hs,oB,hr,oB]
   dsimp only
   by_cases h0:e=0
   rotate_left
   ·left
    rw [if_neg h0,oB,if_pos rfl,PO];rfl
   subst h0
   obtain ⟨v,rfl⟩:=R4 hok (by omega) (by rw [hlen];exact hr)
   rw [if_pos rfl,VJ v.ok,oB,if_pos v.2.2.2,oB]
   by_cases hd:(16:Int)≤((dA (vec (JG l w i)):Nat):Int)
   ·left
    rw [if_pos (dT hd),PO];rfl
   obtain ⟨x,hx,ox,_⟩:=Nx v.ok v.2.2.2
   have ex:C0 (vec (JG l w i))=some (E2 (JG l w i)):=by
    rw [MF v.ok v.2.2.2]
    have:AQ (vec (JG l w i))=false:=GJ
    rw [this];rfl
   have hxe:x=E2 (JG l w i):=by rw [ex] at hx;exact (oI hx).symm
   subst hxe
   have e1:(El l w i).map E2++[E2 (JG l w i)]=(El l w (i+1)).map E2:=by rw [JC,List.map_append];rfl
   rw [if_neg (by rw [decide_eq_true_eq];exact hd),ex,oB,GN (by rw [List.length_map,J9];simp;omega),oB,e1]
   exact NV hl hw w0 w5 hR hRw hRw4 K (m-1) (i+1) k s (by omega) (by omega) (by omega) (fun r hr=>by
    rw [JC] at hr
    rcases List.mem_append.1 hr with h|h
    ·exact hv r h
    ·rw [List.mem_singleton] at h;subst h;exact ⟨v,ox⟩)
  ·have:i=R:=by omega
   subst this
   right
   exact ⟨hv,by rw [if_neg (by omega)]⟩
theorem MZ {l:List Itm} (hl:∀ x∈l,okI x) {w R:Nat} {a1:Int} (hw:w64 ((Int.tmod (IntKind.wrap .i64 a1) 4)+2)=(w:Int)) (hR:w64 (Int.tdiv ((List.length l:Nat) : Int) (w64 ((Int.tmod (IntKind.wrap .i64 a1) 4)+2)))=(R:Int)) (hRw:R * w≤l.length) (hRw4:R * w≤4096) {s0:List Int} (K:Bool→Option Bool) : ∀ (m i k:Nat) (s:Bool),m=R * w-i→i≤R * w→m<k →
  Bx l a1 (.mk s0 (l.take (R * w)),0) K k s (i:Int)=K s
 | m,i,0,s,_,_,h=>by omega
 | m,i,k+1,s,hm,hi,hk=>by
  have m1:w64 ((R:Int) * (w:Int))=((R * w:Nat):Int):=by rw [← Int.natCast_mul,B8 (by omega) (by omega)]
  rw [Bx,hR,hw,m1]
  by_cases hlt:i<R * w
  ·have h1:i<l.length:=by omega
   have h2:i<(l.take (R * w)).length:=by rw [List.length_take];omega
   have hg:rd? (Arr.mk s0 (l.take (R * w))).items (i:Int)=some l[i]:=by
    show rd? (l.take (R * w)) (i:Int)=_
    rw [CD h2,List.getElem_take]
   rw [if_pos (by omega),hg,oB,CD h1,oB,(QF (hl _ (List.getElem_mem h1))).yes rfl,oB,if_pos rfl,Cr (by omega)]
   exact MZ hl hw hR hRw hRw4 K (m-1) (i+1) k s (by omega) (by omega) (by omega)
  ·rw [if_neg (by omega)]
theorem PW {l:List Itm} {a:Int} (hl:l.length≤1466015503701∧∀ x∈l,okI x) (ha:(Lit.int .u8 a).wf=true) : EV l a=some true:=by
 obtain ⟨b,rfl,hb⟩:∃ b:Nat,a=(b:Int)∧b≤255:=by
  simp [Lit.wf,IntKind.min,IntKind.max,IntKind.signed,IntKind.bits] at ha
  exact ⟨a.toNat,by omega,by omega⟩
 have hw:w64 ((Int.tmod (IntKind.wrap .i64 ((b:Nat):Int)) 4)+2)=((b % 4+2:Nat):Int):=by
  rw [show IntKind.wrap .i64 ((b:Nat):Int)=((b:Nat):Int) from HV (by omega) (by omega),show Int.tmod ((b:Nat):Int) 4=((b % 4:Nat):Int) from rfl,B8 (by omega) (by omega)];omega
 have w2:2≤b % 4+2:=by omega
 have w5:b % 4+2≤5:=by omega
 generalize b % 4+2=w at hw w2 w5
 have hR:w64 (Int.tdiv ((List.length l:Nat):Int) (w64 ((Int.tmod (IntKind.wrap .i64 ((b:Nat):Int)) 4)+2)))=((l.length / w:Nat):Int):=by
  rw [hw,show Int.tdiv ((List.length l:Nat):Int) (w:Int)=((l.length / w:Nat):Int) from rfl]
  have:=Nat.div_le_self l.length w
  generalize l.length / w=q at this ⊢
  exact B8 (by omega) (by have:=hl.1;omega)
 have hRw:l.length / w * w≤l.length:=Nat.div_mul_le_self _ _
 unfold EV
 have hw':=hw
 have hR':=hR
 rw [hw'] at hR'
 rw [hw,MO (by omega),oB,hR']
 generalize hRR:l.length / w=R at hR hRw
 have hRl:R≤l.length:=by rw [← hRR];exact Nat.div_le_self _ _
 have m1:w64 ((R:Int) * (w:Int))=((R * w:Nat):Int):=by rw [← Int.natCast_mul,B8 (by omega) (by have:=hl.1;omega)]
 rw [m1]
 by_cases hc:((decide (((R:Nat):Int)=0))||(decide (4096<((R * w:Nat):Int))))=true
 ·rw [if_pos hc,PO];rfl
 rw [if_neg hc,Cn]
 simp at hc
 have hRw4:R * w≤4096:=by omega
 have hR0:0<R:=by omega
 have hRl4:R≤4096:=nT (Nat.le_mul_of_pos_right _ (by omega)) hRw4
 rcases NV hl hw w2 w5 hR hRw hRw4 (fun (z3:Bool) (z4:(List Itm))=>((AM ([((R:Nat):Int)]) z4).bind fun x15=>(if x15.2=0 then (Fb.bind fun x16=>((Dq x16 8835 x15.1).bind fun x17=>(Option.bind ((if x17.2=0 then (if ((List.length x17.1.shape:Nat):Int)=2 then ((rd? x17.1.shape 0).bind fun x19=>(if x19=((R:Nat):Int) then ((rd? x17.1.shape 1).bind fun x20=>(some (!(decide (x20=(w:Int)))))) else (some true))) else (some true)) else (some true)):Option (Bool)) fun (z18:Bool)=>(if z18=true then (some (false)) else (jn (fun (z21:Bool)=>(CZ.bind fun x27=>(some (x27)))) fun K2=>(Bx l ((b:Nat):Int) x17 K2 AC z3 0)))))) else (CZ.bind fun x28=>(some (x28)))))) R 0 AC false rfl (Nat.zero_le _) (B9 (by omega)) (by simp [El]) with h|⟨hv,h⟩
 ·exact h
 refine Eq.trans h ?_
 have hlen:=J9 l w R
 have hmk:∃ r e,AM [((R:Nat):Int)] ((El l w R).map E2)=some (r,e):=⟨_,_,GV (fun z hz=>by rw [List.mem_singleton] at hz;omega) (by simp) (by rw [List.length_map];omega) (fun x hx=>by
  obtain ⟨r,hr,rfl⟩:=List.mem_map.1 hx
  exact (hv r hr).2)⟩
 obtain ⟨r,e,hr⟩:=hmk
 rw [hr,oB]
 dsimp only
 by_cases h0:e=0
 rotate_left
 ·rw [if_neg h0,PO];rfl
 subst h0
 obtain ⟨v,rfl⟩:=R4 (xs:=(El l w R).map E2) (fun x hx=>by
  obtain ⟨r,hr,rfl⟩:=List.mem_map.1 hx
  exact (hv r hr).2) (by rw [List.length_map];omega) (by rw [List.length_map,hlen];exact hr)
 have hflat:=MS l w R
 have hfl:(l.take (R * w)).length=R * w:=by rw [List.length_take];omega
 have hitems:∀ x∈l.take (R * w),okI x∧BX x:=fun x hx=>by
  rw [← hflat] at hx
  obtain ⟨r,hr,hxr⟩:=List.mem_flatten.1 hx
  exact (hv r hr).1.items x hxr
 have hpar:=v.parts
 have hd:dIs (l.take (R * w))≤14:=Uc fun x hx=>by
  rw [← hflat] at hx
  obtain ⟨r,hr,hxr⟩:=List.mem_flatten.1 hx
  have h1:=Gk (List.mem_map.2 ⟨r,hr,rfl⟩:E2 r∈(El l w R).map E2)
  rw [Ym] at h1
  have h2:=Gk hxr
  omega
 have hcc:(l.take (R * w)).length+cIs (l.take (R * w))≤16384:=by
  have:=hpar.2
  rw [NX,hflat] at this
  omega
 have hsz:szP [((R:Nat):Int),(w:Int)]=(((R * w:Nat):Int),0):=by
  have:=Ru (t:=[R,w]) (by simp) (by simp;omega) (by simp [pr];omega)
  rw [show up_ [R,w]=[(R:Int),(w:Int)] from rfl] at this
  rw [this];simp [pr]
 have hNp:0<R * w:=Nat.mul_pos hR0 (by omega)
 have hRA:A7 (.mk [((R:Nat):Int),(w:Int)] (l.take (R * w))):=by
  refine ⟨?_,?_,?_⟩
  ·rw [IX]
   show (decide ((szP [((R:Nat):Int),(w:Int)]).2=0)&&(decide (((l.take (R * w)).length:Int)=if (szP [((R:Nat):Int),(w:Int)]).1<1 then 1 else (szP [((R:Nat):Int),(w:Int)]).1)&&rIs (l.take (R * w))))=true
   rw [hsz,hfl]
   have h3:rIs (l.take (R * w))=true:=by
    have:∀ xs:List Itm,(∀ x∈xs,rI x=true)→rIs xs=true:=fun xs=>by
     induction xs with
     | nil=>intro _;rfl
     | cons x xs ih=>intro h;rw [rIs,h x (by simp),ih fun y hy=>h y (by simp [hy])];rfl
    exact this _ fun x hx=>(hitems x hx).2.1
   rw [h3]
   simp;omega
  ·have h4:(if AQ (.mk [((R:Nat):Int),(w:Int)] (l.take (R * w)))=true then 0 else 1+dIs (l.take (R * w)))≤16:=by split<;>omega
   rw [Ie];exact h4
  ·show cA _≤16384
   rw [cA];exact hcc
 have hmk2:AM [((El l w R).length:Int),(w:Int)] (El l w R).flatten=some (.mk [((R:Nat):Int),(w:Int)] (l.take (R * w)),0):=by
  rw [hlen,hflat,GV (fun z hz=>by simp at hz;omega) (by simp) (by omega) (fun x hx=>(hitems x hx).1),hsz,if_neg (by simp),if_neg (by
   rintro (q|q)
   ·rw [q] at hfl;simp at hfl;omega
   ·exact q fun x hx=>(hitems x hx).2),F5 hfl (by omega),if_pos hRA]
 have hD:=Qo (rows:=El l w R) (w:=w) (fun q=>by rw [q] at hlen;simp at hlen;omega) (fun r hr=>(hv r hr).1) (fun r hr=>v.items _ (List.mem_map.2 ⟨r,hr,rfl⟩)) (fun r hr=>by
  obtain ⟨i,hi,rfl⟩:=List.mem_map.1 hr
  exact Lu (List.mem_range.1 hi) hRw) (by omega) (by rw [hlen];exact hRw4) (by rw [hlen,hflat];exact hfl) hmk2
 have e3:=MZ hl.2 hw hR hRw hRw4 (s0:=[((R:Nat):Int),(w:Int)]) (fun (z21:Bool)=>(CZ.bind fun x27=>(some (x27)))) (R * w) 0 AC false rfl (Nat.zero_le _) (B9 (by omega))
 rw [show ((0:Nat):Int)=0 from rfl] at e3
 rw [if_pos rfl,Zm,oB,WM v.ok v.2.2.2 hD,oB]
 dsimp only
 rw [if_pos rfl,if_pos (show ((List.length (Arr.mk [((R:Nat):Int),(w:Int)] (l.take (R * w))).shape:Nat):Int)=2 from rfl),show rd? (Arr.mk [((R:Nat):Int),(w:Int)] (l.take (R * w))).shape 0=some ((R:Nat):Int) from rfl,oB,if_pos rfl,show rd? (Arr.mk [((R:Nat):Int),(w:Int)] (l.take (R * w))).shape 1=some (w:Int) from rfl,oB,oB,if_neg (by simp),Cn,e3,PO];rfl
end Go.FL
namespace Go.Proofs.YtjmalfcinmmekaaGreat.pickRows
open Go.ChangeShapes Go.WideShapes Go.ChangeAt Go.RowKit Go.FL
theorem own : ownKnob Tryz.prog.godebug=none:=by kernel_rfl
theorem laid : laidOutB Tryz.prog=true:=by kernel_rfl
theorem params : ∀ t∈Tryz.f7.params.toList,Tryz.prog.readableRec t=true∧t<Tryz.prog.types.size:=by
 intro t ht
 simp only [Tryz.params7,List.mem_cons,List.not_mem_nil,or_false] at ht
 rcases ht with rfl|rfl<;>exact ⟨by kernel_rfl,of_decide_eq_true (by kernel_rfl)⟩
set_option maxRecDepth 100000 in
theorem lifted (os:Os) (started:os.Started) (H:Type) (enc:TypeId×Value→H) :
  ReturnsInHanded {} Tryz.checked os 7 .any (Rows.pickRowsSpec.pre6 enc Tryz.prog Tryz.f7 Rows.pickRowsRow.domain false) (Rows.pickRowsSpec.post enc Tryz.prog Tryz.f7 false true false false):=by
 refine returnsInHanded_of_change_sized (C:=Tryz.checked) own started (by kernel_rfl) Tryz.func7
  (ChangeSpec.witness6 (enc:=enc) (C:=Tryz.checked) false ⟨#[],#[.slice none 0 0,.int .u8 0],[]⟩ 8 (by kernel_rfl) (by kernel_rfl) (by kernel_rfl) (by kernel_rfl)) ?_
 intro W base args ds gs before hval0 hW hcnd hsz _
 have hval:∀ (j:Nat) t v,Tryz.f7.params[j]?=some t→args[j]?=some v→Value.okWide Tryz.prog W .any base t v:=hval0
 have hW':=hW
 obtain ⟨p,q,hA0,hV,rfl,hfz,hnd⟩:=hW
 have hA:DataW.TrodAll enc Tryz.prog W 0 (fun _=>true) true Tryz.f7.params.toList args.toList ds p:=hA0
 rw [Tryz.params7] at hA hval
 obtain ⟨v0,vs0,d0,ds0,p0,q0,hargs,rfl,rfl,h0,r0⟩:=trodAll_cons hA
 obtain ⟨v1,vs1,d1,ds1,p1,q1,rfl,rfl,rfl,h1,r1⟩:=trodAll_cons r0
 obtain ⟨rfl,rfl,rfl⟩:=trodAll_nil r1
 obtain rfl:args=#[v0,v1]:=by cases args;simp_all
 obtain ⟨rfl,rfl⟩:=trodVars_none hV
 rw [Tryz.params7] at hsz
 have w0:∀ m∈DataW.weights Tryz.prog 25 d0,m≤reachBytes:=fun m hm=>by simpa using List.all_eq_true.1 hsz m (DataW.weights_mem_each (j:=0) rfl rfl m hm)
 obtain ⟨a0,o0,e0⟩:=UZ (v:=v0) U3 (by obtain ⟨x0,x1,x2,rfl⟩:=okWide_slice Tryz.underlying25 (hval 0 25 v0 rfl rfl);rfl) h0 w0
 have w1:∀ m∈DataW.weights Tryz.prog 5 d1,m≤reachBytes:=fun m hm=>by simpa using List.all_eq_true.1 hsz m (DataW.weights_mem_each (j:=1) rfl rfl m hm)
 obtain ⟨a1,o1,e1⟩:=WZ (by kernel_rfl:Tryz.prog.underlying 5=some (.int .u8)) (hval 1 5 v1 rfl rfl) h1
 refine (Tq (Ku (PW o0 o1)) (.cons e0 (.cons e1 .nil))).mono fun e W' ⟨he,hb⟩=>?_
 subst he
 exact ⟨_,rfl,UW hW' rfl (fun _=>rfl) rfl Tryz.underlying4 laid params hb⟩
theorem over : Rows.pickRowsRow.holds Tryz.pinned (OpenSpec.ofChange Rows.pickRowsSpec) :=
 OpenClaim.holds_of_wide 7 Tryz.f7 rfl rfl rfl rfl rfl rfl rfl ⟨rfl,rfl,rfl,rfl,rfl⟩ rfl rfl rfl rfl rfl (by kernel_rfl) Tryz.func7 (by kernel_rfl)
  (of_decide_eq_true (by kernel_rfl)) (by unfold Func.isWrapper;first|(rw [if_pos (by decide +kernel)];kernel_rfl)|(rw [if_neg (by decide +kernel)];exact ⟨rfl,rfl⟩))
  (fun os started H enc _=>lifted os started H enc)
theorem proved : Rows.PickRowsSaid :=
 over
end Go.Proofs.YtjmalfcinmmekaaGreat.pickRows
