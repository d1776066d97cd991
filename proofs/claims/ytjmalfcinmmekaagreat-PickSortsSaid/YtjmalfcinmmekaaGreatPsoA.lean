/-
  The law: its function printed as a pure function, its contract, the plain law, the statement
-/
import Derived.Test.YtjmalfcinmmekaaGreatPsF
import Derived.Test.YtjmalfcinmmekaaGreatRows
set_option linter.unusedVariables false
namespace Go.FL
open Go Go.Proofs
def BS (a0:(List Itm)) (x5:Arr×Int) (K0:Bool→Option (Bool)) : Nat→Bool→Int→Option (Bool)
 | 0,_,_=>none
 | k+1,s7,s8=>(if s8<((List.length a0:Nat):Int) then ((rd? x5.1.items (w64 (s8-1))).bind fun x9=>((rd? x5.1.items s8).bind fun x10=>((Fs x9 x10).bind fun x11=>(if 0<x11 then (some (false)) else (BS a0 x5 K0 k s7 (w64 (s8+1))))))) else (K0 s7))
def BR (a0:(List Itm)) (x5:Arr×Int) (s14:Int) (K5:Int→Int→Option (Bool)) : Nat→Int→Int→Int→Option (Bool)
 | 0,_,_,_=>none
 | k+1,s17,s18,s19=>(if s19<((List.length a0:Nat):Int) then (jn (fun (z20:Int) (z21:Int)=>(BR a0 x5 s14 K5 k z20 z21 (w64 (s19+1)))) fun K7=>((rd? a0 s19).bind fun x22=>((rd? a0 s14).bind fun x23=>((CY x22 x23).bind fun x24=>(jn (fun (z25:Int)=>((rd? x5.1.items s19).bind fun x26=>((rd? a0 s14).bind fun x27=>((CY x26 x27).bind fun x28=>(if x28=true then (K7 z25 (w64 (s18+1))) else (K7 z25 s18)))))) fun K8=>(if x24=true then (K8 (w64 (s17+1))) else (K8 s17))))))) else (K5 s17 s18))
def A9 (a0:(List Itm)) (x5:Arr×Int) (K2:Bool→Option (Bool)) : Nat→Bool→Int→Option (Bool)
 | 0,_,_=>none
 | k+1,s13,s14=>(if s14<((List.length a0:Nat):Int) then (jn ((A9 a0 x5 K2 k s13 (w64 (s14+1)))) fun K4=>(jn (fun (z15:Int) (z16:Int)=>(if z15=z16 then (K4) else (some (false)))) fun K5=>(BR a0 x5 s14 K5 Aq 0 0 0))) else (K2 s13))
def Ex (a0:(List Itm)) : Option (Bool):=((A3 ([((List.length a0:Nat) : Int)]) a0).bind fun x1=>(if x1.2=0 then (Fr.bind fun x2=>((Db x2 9035 x1.1).bind fun x3=>(Fr.bind fun x4=>((Ib x4 x1.1 ([[x3.1]])).bind fun x5=>(if ((!(decide (x3.2=0)))||((!(decide (x5.2=0)))||(!(decide (((List.length x5.1.items:Nat) : Int)=((List.length a0:Nat) : Int))))))=true then (some (false)) else (jn (fun (z6:Bool)=>(jn (fun (z12:Bool)=>(Ef.bind fun x29=>(some (x29)))) fun K2=>(A9 a0 x5 K2 Aq z6 0))) fun K0=>(BS a0 x5 K0 Aq false 1))))))) else (Ef.bind fun x30=>(some (x30)))))
set_option maxHeartbeats 4000000 in
theorem Kd {a0:(List Itm)} {r:Bool} (h:Ex a0=some r) :
  Fn Tryz.prog 9 [.sl (Its a0)] (.d (.b r)):=by
 unfold Ex at h
 refine Fn.o1 2 112 Tryz.func9 ?_;refine .sr ?_;refine ar [0,2] ?_;refine .sr ?_;refine va ?_;refine vk (AZ (Au _) (BL _) BG) ?_;refine vk ((Fb (D3 [((List.length a0:Nat):Int)]) DP).deep) ?_;refine va ?_
 obtain ⟨x1,g1,h⟩:=bnd h
 refine vk (VOK.tupd (vs:=[.ag [.sl (Is x1.1.shape),.sl (Its x1.1.items)],.i .i64 x1.2]) (Ak (Hi g1) Tryz.call18)) ?_;refine va ?_;refine vk vex ?_;refine vk vex ?_;refine vk (van (Al AP) AX) ?_
 refine stn ?_ Ab (by decide)
 refine ar [0,2,3,4] ?_;refine .seq ?_;refine .sr ?_;refine va ?_;refine vb ?_;refine rk [0,2,3,23] ?_
 rcases brc h with ⟨hc,h⟩|⟨hc,h⟩
 ·refine cnf (ntf (dT hc)) ?_
  refine .sk ?_;refine .seq ?_
  obtain ⟨x2,g2,h⟩:=bnd h
  obtain ⟨x3,g3,h⟩:=bnd h
  refine .drawnF 7 [5] [(5,.nb [.sl (Is x3.1.shape),.sl (Its x3.1.items)])] [] A6 (by kernel_rfl) rfl ?_;refine dv (Ak (Gb g2) Tryz.call14) ?_;refine dv (EW Ah Ab) ?_;refine dv (VOK.tupd (vs:=[.ag [.sl (Is x3.1.shape),.sl (Its x3.1.items)],.i .i64 x3.2]) (Ak (IG g3) Tryz.call19)) ?_;refine dv Ad ?_;refine dv vex ?_;refine dv vex ?_;refine dv (van (Al AP) AX) ?_;refine dz ?_
  refine ⟨?_,?_,?_⟩
  ·intro k hk
   simp only [List.mem_cons,List.not_mem_nil,or_false] at hk
   subst hk
   exact ⟨_,_,_,rfl,rfl,rfl,rfl,rfl,rfl,vex⟩
  ·intro om e hom hge
   cases hom
   exact HN (cs:=[.sl (Is []),.sl (Its [])]) (cs':=[.sl (Is x3.1.shape),.sl (Its x3.1.items)]) Ab (by decide) rfl ((hge 5 (fun k hk v hv=>by
     simp only [List.mem_cons,List.not_mem_nil,or_false] at hk
     subst hk;exact (by decide:¬(some 30=some 5)) (congrArg (Option.map Prod.fst) hv))).trans rfl) ((congrArg Br (hge 29 (fun k hk v hv=>by
     simp only [List.mem_cons,List.not_mem_nil,or_false] at hk
     subst hk;exact (by decide:¬(some 30=some 29)) (congrArg (Option.map Prod.fst) hv)))).trans rfl) rfl rfl rfl rfl ⟨rfl,rfl⟩
  refine ar [0,2,3,5,6] ?_;refine .seq ?_
  obtain ⟨x4,g4,h⟩:=bnd h
  obtain ⟨x5,g5,h⟩:=bnd h
  refine .drawnF 10 [8] [(7,.nb [.sl (Is x5.1.shape),.sl (Its x5.1.items)])] [] A6 (by kernel_rfl) rfl ?_;refine dv (Ak (Gb g4) Tryz.call14) ?_;refine dv (EW Ah Ab) ?_;refine dv (EW Ah Ab) ?_;refine dv ((F7 (KF x3.1) (HI [x3.1]) Kg).deep) ?_;refine dv ((Fb (Uy [[x3.1]]) Xu).deep) ?_;refine dv (VOK.tupd (vs:=[.ag [.sl (Is x5.1.shape),.sl (Its x5.1.items)],.i .i64 x5.2]) (Ak (SH g5) Tryz.call20)) ?_;refine dv Ad ?_;refine dv vex ?_;refine dv vex ?_;refine dv (van (Al AP) AX) ?_;refine dz ?_
  refine ⟨?_,?_,?_⟩
  ·intro k hk
   simp only [List.mem_cons,List.not_mem_nil,or_false] at hk
   subst hk
   exact ⟨_,_,_,rfl,rfl,rfl,rfl,rfl,rfl,vex⟩
  ·intro om e hom hge
   cases hom
   exact HN (cs:=[.sl (Is []),.sl (Its [])]) (cs':=[.sl (Is x5.1.shape),.sl (Its x5.1.items)]) Ab (by decide) rfl ((hge 7 (fun k hk v hv=>by
     simp only [List.mem_cons,List.not_mem_nil,or_false] at hk
     subst hk;exact (by decide:¬(some 39=some 7)) (congrArg (Option.map Prod.fst) hv))).trans rfl) ((congrArg Br (hge 38 (fun k hk v hv=>by
     simp only [List.mem_cons,List.not_mem_nil,or_false] at hk
     subst hk;exact (by decide:¬(some 39=some 38)) (congrArg (Option.map Prod.fst) hv)))).trans rfl) rfl rfl rfl rfl ⟨rfl,rfl⟩
  refine ar [0,2,6,7,8] ?_;refine .seq ?_;refine .seq ?_;refine .gh (Gh.nbp (t:=7) rfl) ?_;refine AW.mr (σ:=Unit) (fun _=>True) (fun _=>[(0,.d (.sl (Its a0))),(2,.d (.b false)),(7,.d (.ptr [.sl (Is x5.1.shape),.sl (Its x5.1.items)])),(53,.d (.b ((!(decide (x3.2=0)))||((!(decide (x5.2=0)))||(!(decide (((List.length x5.1.items:Nat):Int)=((List.length a0:Nat):Int))))))))]) (fun _=>[]) ?_ ?_
  ·skip
   refine .region ?_;refine va ?_;refine vb ?_
   by_cases hc:x3.2=0
   ·have hb0:(!(decide (x3.2=0)))=false:=(ntf (dT hc))
    refine vL hb0 ?_;refine va ?_;refine vb ?_;refine vk As ?_
    by_cases hc:x5.2=0
    ·have hb1:(!(decide (x5.2=0)))=false:=(ntf (dT hc))
     refine vL hb1 ?_;refine vk (vfa AR) ?_;refine vk (Am BT) ?_;refine vk (AZ (Au _) (BL _) BG) ?_;refine va ?_;refine vk (AZ (Au _) (BL _) BG) ?_;refine vb ?_;refine vk As ?_;refine RL.gk [0,2,7,53] ?_;refine .nil ?_
     exact jr () trivial (by simp only [hb0,hb1];rfl)
    have hb1:(!(decide (x5.2=0)))=true:=(ntt (dF hc))
    refine vL hb1 ?_;refine gf4 ?_;refine gf2 ?_;refine vk As ?_;refine RL.gk [0,2,7,53] ?_;refine .nil ?_
    exact jr () trivial (by simp only [hb0,hb1];rfl)
   have hb0:(!(decide (x3.2=0)))=true:=(ntt (dF hc))
   refine vL hb0 ?_;refine gf2 ?_;refine vk As ?_;refine va ?_;refine gf4 ?_;refine gf2 ?_;refine vk As ?_;refine RL.gk [0,2,7,53] ?_;refine .nil ?_
   exact jr () trivial (by simp only [hb0];rfl)
  rintro _ _
  rcases brc h with ⟨hc,h⟩|⟨hc,h⟩
  ·refine cnt hc ?_
   refine .sr ?_;refine ar [0,2,7] ?_;refine .ret ?_
   cases h
   exact ⟨rfl,rfl⟩
  refine cnf (bf hc) ?_;refine .sk ?_;refine .seq ?_;refine .sr ?_;refine ar [0,2,7,9] ?_
  obtain ⟨K0,hK0,h⟩:=AD h
  refine AW.mr (σ:=Bool) (fun p=>K0 p=some r) (fun p=>[(0,.d (.sl (Its a0))),(2,.d (.b p)),(7,.d (.ptr [.sl (Is x5.1.shape),.sl (Its x5.1.items)]))]) (fun p=>[]) ?_ ?_
  ·skip
   refine .block ?_
   refine .loop (.gk [0,2,7,9] ?_)
   refine AL.ind (σ:=Nat×Bool×Int) (m:=fun p=>p.1) (e:=fun p=>[(0,.d (.sl (Its a0))),(2,.d (.b p.2.1)),(7,.d (.ptr [.sl (Is x5.1.shape),.sl (Its x5.1.items)])),(9,.d (.i .i64 p.2.2))]) (h:=fun p=>[]) (I:=fun p=>BS a0 x5 K0 p.1 p.2.1 p.2.2=some r) ?_ (Aq,false,1) h
   rintro ⟨k,s7,s8⟩ h ih
   dsimp only at h ih ⊢
   rcases k with _|k
   ·rw [BS] at h;cases h
   rw [BS] at h
   refine .seq ?_;refine .sr ?_;refine va ?_;refine va ?_;refine vk (AZ (Au _) (BL _) BG) ?_;refine vb ?_;refine rk [0,2,7,9,57] ?_
   rcases brc h with ⟨hc,h⟩|⟨hc,h⟩
   ·refine cnt (dT hc) ?_
    refine .sk ?_;refine .seq ?_;refine .block ?_;refine .seq ?_;refine .drawn 13 A6 (by kernel_rfl) ?_;refine dv (vfa AR) ?_;refine dv (Am BT) ?_;refine dv Ad ?_;refine dv vbi ?_
    obtain ⟨x9,g9,h⟩:=bnd h
    obtain ⟨n9,p09,q9⟩:=Af g9
    refine dv (vix n9 p09 (B5 q9) rfl Cc) ?_;refine dv (Ap AK Az) ?_;refine dv (vfa AR) ?_;refine dv (Am BT) ?_;refine dv Ad ?_
    obtain ⟨x10,g10,h⟩:=bnd h
    obtain ⟨n10,p010,q10⟩:=Af g10
    refine dv (vix n10 p010 (B5 q10) rfl Cc) ?_;refine dv (Ap AK Az) ?_
    obtain ⟨x11,g11,h⟩:=bnd h
    refine dv (Ak (N5 g11) Tryz.call30) ?_;refine dv vbi ?_;refine dz ?_;refine rk [0,2,7,9,72] ?_
    rcases brc h with ⟨hc,h⟩|⟨hc,h⟩
    ·refine cnt (dT hc) ?_
     refine .sr ?_;refine ar [0,2,7,9] ?_;refine .ret ?_
     cases h
     exact ⟨rfl,rfl⟩
    refine cnf (dF hc) ?_;refine .sk ?_;refine .region ?_;refine va ?_;refine vb ?_;refine asd ?_;refine .nil ?_;refine AL.gk [0,2,7,9] ?_
    exact ih (k,s7,(w64 (s8+1))) h (Nat.lt_succ_self _)
   refine cnf (dF hc) ?_;refine .gk [0,2,7] ?_;refine .exit ?_
   exact jr (s7) h
  rintro z6 h
  try dsimp only at h ⊢
  subst hK0
  refine aw ?_;refine .seq ?_;refine .sr ?_;refine ar [0,2,7,10] ?_
  obtain ⟨K2,hK2,h⟩:=AD h
  refine AW.mr (σ:=Bool) (fun p=>K2 p=some r) (fun p=>[(2,.d (.b p))]) (fun p=>[]) ?_ ?_
  ·skip
   refine .block ?_
   refine .loop (.gk [0,2,7,10] ?_)
   refine AL.ind (σ:=Nat×Bool×Int) (m:=fun p=>p.1) (e:=fun p=>[(0,.d (.sl (Its a0))),(2,.d (.b p.2.1)),(7,.d (.ptr [.sl (Is x5.1.shape),.sl (Its x5.1.items)])),(10,.d (.i .i64 p.2.2))]) (h:=fun p=>[]) (I:=fun p=>A9 a0 x5 K2 p.1 p.2.1 p.2.2=some r) ?_ (Aq,z6,0) h
   rintro ⟨k,s13,s14⟩ h ih
   dsimp only at h ih ⊢
   rcases k with _|k
   ·rw [A9] at h;cases h
   rw [A9] at h
   refine .seq ?_;refine .sr ?_;refine va ?_;refine va ?_;refine vk (AZ (Au _) (BL _) BG) ?_;refine vb ?_;refine rk [0,2,7,10,76] ?_
   rcases brc h with ⟨hc,h⟩|⟨hc,h⟩
   ·refine cnt (dT hc) ?_
    refine .sk ?_
    obtain ⟨K4,hK4,h⟩:=AD h
    refine AW.mj (σ:=Unit) (fun p=>K4=some r) (fun p=>[(0,.d (.sl (Its a0))),(2,.d (.b s13)),(7,.d (.ptr [.sl (Is x5.1.shape),.sl (Its x5.1.items)])),(10,.d (.i .i64 s14))]) (fun p=>[]) ?_ ?_
    ·skip
     refine .block ?_;refine .sr ?_;refine asd ?_;refine ar [0,2,7,10,11,12] ?_;refine .seq ?_;refine .sr ?_;refine ar [0,2,7,10,11,12,13] ?_
     obtain ⟨K5,hK5,h⟩:=AD h
     refine AW.mr (σ:=Int×Int) (fun p=>K5 p.1 p.2=some r) (fun p=>[(0,.d (.sl (Its a0))),(2,.d (.b s13)),(7,.d (.ptr [.sl (Is x5.1.shape),.sl (Its x5.1.items)])),(10,.d (.i .i64 s14)),(11,.d (.i .i64 p.1)),(12,.d (.i .i64 p.2))]) (fun p=>[]) ?_ ?_
     ·skip
      refine .block ?_
      refine .loop (.gk [0,2,7,10,11,12,13] ?_)
      refine AL.ind (σ:=Nat×Int×Int×Int) (m:=fun p=>p.1) (e:=fun p=>[(0,.d (.sl (Its a0))),(2,.d (.b s13)),(7,.d (.ptr [.sl (Is x5.1.shape),.sl (Its x5.1.items)])),(10,.d (.i .i64 s14)),(11,.d (.i .i64 p.2.1)),(12,.d (.i .i64 p.2.2.1)),(13,.d (.i .i64 p.2.2.2))]) (h:=fun p=>[]) (I:=fun p=>BR a0 x5 s14 K5 p.1 p.2.1 p.2.2.1 p.2.2.2=some r) ?_ (Aq,0,0,0) h
      rintro ⟨k,s17,s18,s19⟩ h ih
      dsimp only at h ih ⊢
      rcases k with _|k
      ·rw [BR] at h;cases h
      rw [BR] at h
      refine .seq ?_;refine .sr ?_;refine va ?_;refine va ?_;refine vk (AZ (Au _) (BL _) BG) ?_;refine vb ?_;refine rk [0,2,7,10,11,12,13,82] ?_
      rcases brc h with ⟨hc,h⟩|⟨hc,h⟩
      ·refine cnt (dT hc) ?_
       refine .sk ?_
       obtain ⟨K7,hK7,h⟩:=AD h
       refine AW.mj (σ:=Int×Int) (fun p=>K7 p.1 p.2=some r) (fun p=>[(0,.d (.sl (Its a0))),(2,.d (.b s13)),(7,.d (.ptr [.sl (Is x5.1.shape),.sl (Its x5.1.items)])),(10,.d (.i .i64 s14)),(11,.d (.i .i64 p.1)),(12,.d (.i .i64 p.2)),(13,.d (.i .i64 s19))]) (fun p=>[]) ?_ ?_
       ·skip
        refine .block ?_;refine .seq ?_;refine .seq ?_;refine .drawn 9 A6 (by kernel_rfl) ?_;refine dv Ad ?_;refine dv Ad ?_
        obtain ⟨x22,g22,h⟩:=bnd h
        obtain ⟨n22,p022,q22⟩:=Af g22
        refine dv (vix n22 p022 (B5 q22) rfl Cc) ?_;refine dv (Ap AK Az) ?_;refine dv Ad ?_;refine dv Ad ?_
        obtain ⟨x23,g23,h⟩:=bnd h
        obtain ⟨n23,p023,q23⟩:=Af g23
        refine dv (vix n23 p023 (B5 q23) rfl Cc) ?_;refine dv (Ap AK Az) ?_
        obtain ⟨x24,g24,h⟩:=bnd h
        refine dv (Ak (GS g24) Tryz.call27) ?_;refine dz ?_;refine rk [0,2,7,10,11,12,13,93] ?_
        obtain ⟨K8,hK8,h⟩:=AD h
        refine AW.mr (σ:=Int) (fun p=>K8 p=some r) (fun p=>[(0,.d (.sl (Its a0))),(2,.d (.b s13)),(7,.d (.ptr [.sl (Is x5.1.shape),.sl (Its x5.1.items)])),(10,.d (.i .i64 s14)),(11,.d (.i .i64 p)),(12,.d (.i .i64 s18)),(13,.d (.i .i64 s19))]) (fun p=>[]) ?_ ?_
        ·skip
         rcases brc h with ⟨hc,h⟩|⟨hc,h⟩
         ·refine cnt hc ?_
          refine .region ?_;refine va ?_;refine vb ?_;refine asd ?_;refine RL.gk [0,2,7,10,11,12,13] ?_;refine .nil ?_
          exact jr ((w64 (s17+1))) h
         refine cnf (bf hc) ?_;refine .gk [0,2,7,10,11,12,13] ?_;refine .skip ?_
         exact jr (s17) h
        rintro z25 h
        try dsimp only at h ⊢
        subst hK8
        refine aw ?_;refine .seq ?_;refine .drawn 10 A6 (by kernel_rfl) ?_;refine dv (vfa AR) ?_;refine dv (Am BT) ?_;refine dv Ad ?_
        obtain ⟨x26,g26,h⟩:=bnd h
        obtain ⟨n26,p026,q26⟩:=Af g26
        refine dv (vix n26 p026 (B5 q26) rfl Cc) ?_;refine dv (Ap AK Az) ?_;refine dv Ad ?_;refine dv Ad ?_
        obtain ⟨x27,g27,h⟩:=bnd h
        obtain ⟨n27,p027,q27⟩:=Af g27
        refine dv (vix n27 p027 (B5 q27) rfl Cc) ?_;refine dv (Ap AK Az) ?_
        obtain ⟨x28,g28,h⟩:=bnd h
        refine dv (Ak (GS g28) Tryz.call27) ?_;refine dz ?_;refine rk [0,2,7,10,11,12,13,105] ?_
        rcases brc h with ⟨hc,h⟩|⟨hc,h⟩
        ·refine cnt hc ?_
         refine .region ?_;refine va ?_;refine vb ?_;refine asd ?_;refine RL.gk [0,2,7,10,11,12,13] ?_;refine .nil ?_
         exact jr (z25,(w64 (s18+1))) h
        refine cnf (bf hc) ?_;refine .gk [0,2,7,10,11,12,13] ?_;refine .skip ?_
        exact jr (z25,s18) h
       rintro ⟨z20,z21⟩ h
       try dsimp only at h ⊢
       subst hK7
       refine .region ?_;refine va ?_;refine vb ?_;refine asd ?_;refine .nil ?_;refine AL.gk [0,2,7,10,11,12,13] ?_
       exact ih (k,z20,z21,(w64 (s19+1))) h (Nat.lt_succ_self _)
      refine cnf (dF hc) ?_;refine .gk [0,2,7,10,11,12] ?_;refine .exit ?_
      exact jr (s17,s18) h
     rintro ⟨z15,z16⟩ h
     try dsimp only at h ⊢
     subst hK5
     refine aw ?_;refine .sr ?_;refine va ?_;refine va ?_;refine vb ?_;refine rk [0,2,7,10,110] ?_
     rcases brc h with ⟨hc,h⟩|⟨hc,h⟩
     ·refine cnf (ntf (dT hc)) ?_
      refine .gk [0,2,7,10] ?_;refine .skip ?_
      exact jr () h
     refine cnt (ntt (dF hc)) ?_;refine .sr ?_;refine ar [0,2,7,10] ?_;refine .ret ?_
     cases h
     exact ⟨rfl,rfl⟩
    rintro _ h
    subst hK4
    refine .region ?_;refine va ?_;refine vb ?_;refine asd ?_;refine .nil ?_;refine AL.gk [0,2,7,10] ?_
    exact ih (k,s13,(w64 (s14+1))) h (Nat.lt_succ_self _)
   refine cnf (dF hc) ?_;refine .gk [2] ?_;refine .exit ?_
   exact jr (s13) h
  rintro z12 h
  try dsimp only at h ⊢
  subst hK2
  refine aw ?_;refine .sr ?_
  obtain ⟨x29,g29,h⟩:=bnd h
  refine vk (Ak (JO g29) Tryz.call16) ?_;refine ar [2] ?_;refine .ret ?_
  cases h
  exact ⟨rfl,rfl⟩
 refine cnt (ntt (dF hc)) ?_;refine .sr ?_
 obtain ⟨x30,g30,h⟩:=bnd h
 refine vk (Ak (JO g30) Tryz.call16) ?_;refine ar [0,2,3] ?_;refine .ret ?_
 cases h
 exact ⟨rfl,rfl⟩
theorem Aae : Fr=some (1,(false,[],[]),0):=rfl
theorem Jm {a0 ys:List Itm} (hl:a0.length≤4096) (hy:ys.length=a0.length) {K:Nat} (hR:∀ y∈ys,okI y∧Bw y∧y.size<K) (hs:ys.Pairwise fun x y=>Iq K x y≤0) (K0:Bool→Option Bool) : ∀ (n i k:Nat) (s:Bool),n=a0.length-i→i≤a0.length→0<i→n<k →
  BS a0 (vec ys,0) K0 k s (i:Int)=K0 s
 | n,i,0,s,_,_,_,h=>by omega
 | n,i,k+1,s,hn,hi,h0,hk=>by
  rw [BS]
  by_cases hlt:i<a0.length
  ·have h1:i-1<ys.length:=by omega
   have h2:i<ys.length:=by omega
   have m1:=hR _ (List.getElem_mem h1)
   have m2:=hR _ (List.getElem_mem h2)
   have w1:w64 ((i:Int)-1)=((i-1:Nat):Int):=by rw [AU (by omega) (by omega)];omega
   have hle:=List.pairwise_iff_getElem.1 hs (i-1) i h1 h2 (by omega)
   have ho:Fs ys[i-1] ys[i]=some (Iq K ys[i-1] ys[i]):=(Wv m1.2.2 m1.1 m2.1).trans (congrArg some (if_pos ⟨m1.2.1,m2.2.1⟩))
   rw [if_pos (by omega),w1,show rd? (vec ys).items ((i-1:Nat):Int)=some ys[i-1] from Bx h1,oB,show rd? (vec ys).items (i:Int)=some ys[i] from Bx h2,oB,ho,oB,if_neg (by omega),Bg (by omega)]
   exact Jm hl hy hR hs K0 (n-1) (i+1) k s (by omega) (by omega) (by omega) (by omega)
  ·rw [if_neg (by omega)]
open Classical in
theorem L8 {a0 ys:List Itm} (hl:a0.length≤4096) (hy:ys.length=a0.length) (oa:∀ x∈a0,okI x) (oy:∀ x∈ys,okI x) {t:Nat} (ht:t<a0.length) (K5:Int→Int→Option Bool) : ∀ (n i k:Nat),n=a0.length-i→i≤a0.length→n<k →
  BR a0 (vec ys,0) (t:Int) K5 k (((a0.take i).countP (fun x=>decide (x=a0[t])):Nat):Int) (((ys.take i).countP (fun x=>decide (x=a0[t])):Nat):Int) (i:Int)=K5 ((a0.countP (fun x=>decide (x=a0[t])):Nat):Int) ((ys.countP (fun x=>decide (x=a0[t])):Nat):Int)
 | n,i,0,_,_,h=>by omega
 | n,i,k+1,hn,hi,hk=>by
  rw [BR]
  by_cases hlt:i<a0.length
  ·have h2:i<ys.length:=by omega
   have c1:(a0.take i).countP (fun x=>decide (x=a0[t]))≤4096:=nT (List.countP_le_length) (by rw [List.length_take];omega)
   have c2:(ys.take i).countP (fun x=>decide (x=a0[t]))≤4096:=nT (List.countP_le_length) (by rw [List.length_take];omega)
   obtain ⟨r1,e1,g1⟩:=Mj (x:=a0[i]) (y:=a0[t]) (oa _ (List.getElem_mem hlt))
   obtain ⟨r2,e2,g2⟩:=Mj (x:=ys[i]) (y:=a0[t]) (oy _ (List.getElem_mem h2))
   have ih:=L8 hl hy oa oy ht K5 (n-1) (i+1) k (by omega) (by omega) (by omega)
   rw [List.take_succ_eq_append_getElem hlt,List.take_succ_eq_append_getElem h2,List.countP_append,List.countP_append,List.countP_singleton,List.countP_singleton] at ih
   rw [if_pos (by omega),Bm,Bx hlt,oB,Bx ht,oB,e1,oB,Bm,show rd? (vec ys).items (i:Int)=some ys[i] from Bx h2]
   have w1:∀ m:Nat,m≤4096→w64 ((m:Int)+1)=((m+1:Nat):Int):=fun m hm=>Bg (by omega)
   have wi:w64 ((i:Int)+1)=((i+1:Nat):Int):=Bg (by omega)
   by_cases q1:r1=true
   ·by_cases q2:r2=true
    ·rw [if_pos (dT (g1.1 q1)),if_pos (dT (g2.1 q2))] at ih
     rw [if_pos q1,w1 _ c1]
     dsimp only
     rw [oB,oB,e2,oB,if_pos q2,w1 _ c2,wi]
     exact ih
    ·rw [if_pos (dT (g1.1 q1)),if_neg (by rw [decide_eq_true_eq];exact fun h=>q2 (g2.2 h)),Nat.add_zero] at ih
     rw [if_pos q1,w1 _ c1]
     dsimp only
     rw [oB,oB,e2,oB,if_neg q2,wi]
     exact ih
   ·by_cases q2:r2=true
    ·rw [if_neg (by rw [decide_eq_true_eq];exact fun h=>q1 (g1.2 h)),if_pos (dT (g2.1 q2)),Nat.add_zero] at ih
     rw [if_neg q1]
     dsimp only
     rw [oB,oB,e2,oB,if_pos q2,w1 _ c2,wi]
     exact ih
    ·rw [if_neg (by rw [decide_eq_true_eq];exact fun h=>q1 (g1.2 h)),if_neg (by rw [decide_eq_true_eq];exact fun h=>q2 (g2.2 h)),Nat.add_zero,Nat.add_zero] at ih
     rw [if_neg q1]
     dsimp only
     rw [oB,oB,e2,oB,if_neg q2,wi]
     exact ih
  ·rw [if_neg (by omega),List.take_of_length_le (by omega),List.take_of_length_le (by omega)]
open Classical in
theorem Mg {a0 ys:List Itm} (hl:a0.length≤4096) (hp:ys.Perm a0) (oa:∀ x∈a0,okI x) (K2:Bool→Option Bool) : ∀ (n i k:Nat) (s:Bool),n=a0.length-i→i≤a0.length→n<k →
  A9 a0 (vec ys,0) K2 k s (i:Int)=K2 s
 | n,i,0,s,_,_,h=>by omega
 | n,i,k+1,s,hn,hi,hk=>by
  rw [A9]
  by_cases hlt:i<a0.length
  ·have:=L8 hl hp.length_eq oa (fun x hx=>oa x (hp.mem_iff.1 hx)) hlt (fun (z15:Int) (z16:Int)=>(if z15=z16 then (A9 a0 (vec ys,0) K2 k s (w64 ((i:Int)+1))) else (some (false)))) a0.length 0 Aq rfl (Nat.zero_le _) (AY (by omega))
   rw [List.take_zero,List.take_zero,List.countP_nil,show ((0:Nat):Int)=0 from rfl,hp.countP_eq,if_pos rfl,Bg (by omega)] at this
   rw [if_pos (by omega),Bm,Bm,Bg (by omega)]
   rw [this]
   exact Mg hl hp oa K2 (n-1) (i+1) k s (by omega) (by omega) (by omega)
  ·rw [if_neg (by omega)]
theorem P8 {l:List Itm} (hl:l.length≤1466015503701∧∀ x∈l,okI x) : Ex l=some true:=by
 have hmk:∃ r e,A3 [((List.length l:Nat):Int)] l=some (r,e):=⟨_,_,Jt (fun z hz=>by rw [List.mem_singleton] at hz;omega) (by simp) hl.1 hl.2⟩
 obtain ⟨r,e,hr⟩:=hmk
 unfold Ex
 rw [hr,oB]
 dsimp only
 by_cases h0:e=0
 rotate_left
 ·rw [if_neg h0,X5];rfl
 subst h0
 obtain ⟨v,rfl⟩:=Xn hl.2 hl.1 hr
 have h2:=v.2.1
 obtain ⟨S,p1,p2,p3⟩:=T9 v true
 obtain ⟨ys,ey,q1,q2,q3⟩:=RU v p1
 have p3':Db (1,(false,[],[]),0) 9035 (vec l)=some (J4 S,0):=p3
 have hlen:=q1.length_eq
 have hR:∀ y∈ys,okI y∧Bw y∧y.size<itsSize l+1:=fun y hy=>⟨(q2.items y hy).1,(q2.items y hy).2,Rm (q1.mem_iff.1 hy)⟩
 have C:=Kr (itsSize l+1)
 have hs:ys.Pairwise fun x y=>Iq (itsSize l+1) x y≤0:=by
  rw [ey,List.pairwise_map]
  refine p2.imp fun {i j} h=>?_
  have h':¬(1 * Iq (itsSize l+1) (l.getD (j-1).toNat default) (l.getD (i-1).toNat default)<0):=h
  rw [Int.one_mul] at h'
  have:=C.anti (l.getD (i-1).toNat default) (l.getD (j-1).toNat default)
  omega
 rw [if_pos rfl,Aae,oB,p3',oB,oB,q3,oB,if_neg (by simp [vec,Arr.items,hlen]),Bm]
 have e1:=Jm h2 hlen hR hs (fun (z6:Bool)=>(jn (fun (z12:Bool)=>(Ef.bind fun x29=>(some (x29)))) fun K2=>(A9 l (vec ys,0) K2 Aq z6 0))) l.length 1 Aq false
 have e3:=Mg h2 q1 hl.2 (fun (z12:Bool)=>(Ef.bind fun x29=>(some (x29)))) l.length 0 Aq false rfl (Nat.zero_le _) (AY (by omega))
 have e1':=Jm h2 hlen hR hs (fun (z6:Bool)=>(jn (fun (z12:Bool)=>(Ef.bind fun x29=>(some (x29)))) fun K2=>(A9 l (vec ys,0) K2 Aq z6 0))) (l.length-1) 1 Aq false rfl v.pos (by decide) (AY (by omega))
 rw [show ((1:Nat):Int)=1 from rfl] at e1'
 rw [show ((0:Nat):Int)=0 from rfl] at e3
 rw [e1',Bm,e3,X5];rfl
end Go.FL
namespace Go.Proofs.YtjmalfcinmmekaaGreat.pickSorts
open Go.ChangeShapes Go.WideShapes Go.ChangeAt Go.RowKit Go.FL
theorem own : ownKnob Tryz.prog.godebug=none:=by kernel_rfl
theorem laid : laidOutB Tryz.prog=true:=by kernel_rfl
theorem params : ∀ t∈Tryz.f9.params.toList,Tryz.prog.readableRec t=true∧t<Tryz.prog.types.size:=by
 intro t ht
 simp only [Tryz.params9,List.mem_cons,List.not_mem_nil,or_false] at ht
 rcases ht with rfl<;>exact ⟨by kernel_rfl,of_decide_eq_true (by kernel_rfl)⟩
set_option maxRecDepth 100000 in
theorem lifted (os:Os) (started:os.Started) (H:Type) (enc:TypeId×Value→H) :
  ReturnsInHanded {} Tryz.checked os 9 .any (Rows.pickSortsSpec.pre6 enc Tryz.prog Tryz.f9 Rows.pickSortsRow.domain false) (Rows.pickSortsSpec.post enc Tryz.prog Tryz.f9 false true false false):=by
 refine returnsInHanded_of_change_sized (C:=Tryz.checked) own started (by kernel_rfl) Tryz.func9
  (ChangeSpec.witness6 (enc:=enc) (C:=Tryz.checked) false ⟨#[],#[.slice none 0 0],[]⟩ 8 (by kernel_rfl) (by kernel_rfl) (by kernel_rfl) (by kernel_rfl)) ?_
 intro W base args ds gs before hval0 hW hcnd hsz _
 have hval:∀ (j:Nat) t v,Tryz.f9.params[j]?=some t→args[j]?=some v→Value.okWide Tryz.prog W .any base t v:=hval0
 have hW':=hW
 obtain ⟨p,q,hA0,hV,rfl,hfz,hnd⟩:=hW
 have hA:DataW.TrodAll enc Tryz.prog W 0 (fun _=>true) true Tryz.f9.params.toList args.toList ds p:=hA0
 rw [Tryz.params9] at hA hval
 obtain ⟨v0,vs0,d0,ds0,p0,q0,hargs,rfl,rfl,h0,r0⟩:=trodAll_cons hA
 obtain ⟨rfl,rfl,rfl⟩:=trodAll_nil r0
 obtain rfl:args=#[v0]:=by cases args;simp_all
 obtain ⟨rfl,rfl⟩:=trodVars_none hV
 rw [Tryz.params9] at hsz
 have w0:∀ m∈DataW.weights Tryz.prog 25 d0,m≤reachBytes:=fun m hm=>by simpa using List.all_eq_true.1 hsz m (DataW.weights_mem_each (j:=0) rfl rfl m hm)
 obtain ⟨a0,o0,e0⟩:=V2 (v:=v0) UT (by obtain ⟨x0,x1,x2,rfl⟩:=okWide_slice Tryz.underlying25 (hval 0 25 v0 rfl rfl);rfl) h0 w0
 refine (Um (Kd (P8 o0)) (.cons e0 .nil)).mono fun e W' ⟨he,hb⟩=>?_
 subst he
 exact ⟨_,rfl,UO hW' rfl (fun _=>rfl) rfl Tryz.underlying4 laid params hb⟩
theorem over : Rows.pickSortsRow.holds Tryz.pinned (OpenSpec.ofChange Rows.pickSortsSpec) :=
 OpenClaim.holds_of_wide 9 Tryz.f9 rfl rfl rfl rfl rfl rfl rfl ⟨rfl,rfl,rfl,rfl,rfl⟩ rfl rfl rfl rfl rfl (by kernel_rfl) Tryz.func9 (by kernel_rfl)
  (of_decide_eq_true (by kernel_rfl)) (by unfold Func.isWrapper;first|(rw [if_pos (by decide +kernel)];kernel_rfl)|(rw [if_neg (by decide +kernel)];exact ⟨rfl,rfl⟩))
  (fun os started H enc _=>lifted os started H enc)
theorem proved : Rows.PickSortsSaid :=
 over
end Go.Proofs.YtjmalfcinmmekaaGreat.pickSorts
