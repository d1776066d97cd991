/-
  The law: its function printed as a pure function, its contract, the plain law, the statement
-/
import Derived.Test.YtbeekjoeaigngaaGreatSlE
import Derived.Test.YtbeekjoeaigngaaGreatRows
set_option linter.unusedVariables false
namespace Go.FL
open Go Go.Proofs
def C1 (a0 : (List Bool)) (a1 : (List Bool)) (K0 : (List Int)→(List Int)→Option (Bool)) : Nat→(List Int)→(List Int)→Int→Option (Bool)
 | 0,_,_,_=>none
 | k+1,s3,s4,s5=>(if ((decide (s5<((List.length a0:Nat):Int))) && ((decide (s5<((List.length a1:Nat):Int))) && (decide (s5<50))))=true then ((rd? a0 s5).bind fun x6=>((MW x6).bind fun x7=>((ap? 17592186044416 s3 [x7]).bind fun x8=>((rd? a1 s5).bind fun x9=>((MW x9).bind fun x10=>((ap? 17592186044416 s4 [x10]).bind fun x11=>(C1 a0 a1 K0 k x8 x11 (w64 (s5+1))))))))) else (K0 s3 s4))
def HD (a0 : (List Bool)) (a1 : (List Bool)) : Option (Bool):=(jn (fun (z1 : (List Int)) (z2 : (List Int))=>((IB z1).bind fun x12=>((IB z2).bind fun x13=>(CS.bind fun x14=>((BB x14 8743 x12 x13).bind fun x15=>(CS.bind fun x16=>((BB x16 9074 x12 x13).bind fun x17=>(CS.bind fun x18=>((C2 x18 126 x15.1).bind fun x19=>(CS.bind fun x20=>((C2 x20 126 x12).bind fun x21=>(CS.bind fun x22=>((C2 x22 126 x13).bind fun x23=>(CS.bind fun x24=>((BB x24 8744 x21.1 x23.1).bind fun x25=>(CS.bind fun x26=>((C2 x26 126 x21.1).bind fun x27=>(FU.bind fun x28=>(Option.bind ((if x28=true then (if x15.2=0 then (if x17.2=0 then (if x19.2=0 then (if x21.2=0 then (if x23.2=0 then (if x25.2=0 then (if x27.2=0 then ((GC x17.1 x19.1).bind fun x30=>(if x30=true then ((GC x25.1 x17.1).bind fun x31=>(if x31=true then ((GC x27.1 x12).bind fun x32=>(some x32)) else (some false))) else (some false))) else (some false)) else (some false)) else (some false)) else (some false)) else (some false)) else (some false)) else (some false)) else (some false)) : Option (Bool)) fun (z28 : Bool)=>(some (z28))))))))))))))))))))) fun K0=>(C1 a0 a1 K0 BC [] [] 0))
set_option maxHeartbeats 4000000 in
theorem OO {a0 : (List Bool)} {a1 : (List Bool)} {r : Bool} (h : HD a0 a1=some r) :
  Fn Tryz.prog 9 [.sl (Bls a0),.sl (Bls a1)] (.d (.b r)):=by
 unfold HD at h
 refine Fn.o1 4 149 Tryz.func9 ?_;refine .sr ?_;refine ar [0,1,4] ?_;refine .sr ?_;refine asn ?_;refine asn ?_;refine rk [0,1,4,5,6] ?_;refine .seq ?_;refine .sr ?_;refine ar [0,1,4,5,6,7] ?_
 obtain ⟨K0,hK0,h⟩:=CX h
 refine AW.mr (σ:=(List Int) × (List Int)) (fun p=>K0 p.1 p.2=some r) (fun p=>[(4,.d (.b false)),(5,.own 3 (Is p.1)),(6,.own 3 (Is p.2))]) (fun p=>[]) ?_ ?_
 ·skip
  refine .block ?_;refine .gh (Gh.nlOwn (t:=5) 3 (by rw [I9];decide) rfl) ?_;refine .gh (Gh.nlOwn (t:=6) 3 (by rw [I9];decide) rfl) ?_
  refine .loop (.gk [0,1,4,5,6,7] ?_)
  refine AL.ind (σ:=Nat × (List Int) × (List Int) × Int) (m:=fun p=>p.1) (e:=fun p=>[(0,.d (.sl (Bls a0))),(1,.d (.sl (Bls a1))),(4,.d (.b false)),(5,.own 3 (Is p.2.1)),(6,.own 3 (Is p.2.2.1)),(7,.d (.i .i64 p.2.2.2))]) (h:=fun p=>[]) (I:=fun p=>C1 a0 a1 K0 p.1 p.2.1 p.2.2.1 p.2.2.2=some r) ?_ (BC,[],[],0) h
  rintro ⟨k,s3,s4,s5⟩ h ih
  dsimp only at h ih ⊢
  rcases k with _ | k
  ·rw [C1] at h;cases h
  rw [C1] at h
  refine .seq ?_;refine .seq ?_;refine AW.mr (σ:=Unit) (fun _=>True) (fun _=>[(0,.d (.sl (Bls a0))),(1,.d (.sl (Bls a1))),(4,.d (.b false)),(5,.own 3 (Is s3)),(6,.own 3 (Is s4)),(7,.d (.i .i64 s5)),(37,.d (.b ((decide (s5<((List.length a0:Nat):Int))) && ((decide (s5<((List.length a1:Nat):Int))) && (decide (s5<50))))))]) (fun _=>[]) ?_ ?_
  ·skip
   refine .region ?_;refine vk (Aa) ?_;refine vk (Aa) ?_;refine vk (Bz (Ua _) (YR _) Zf) ?_;refine vk (vbi) ?_
   by_cases hc:s5<((List.length a0:Nat):Int)
   ·have hb0:(decide (s5<((List.length a0:Nat):Int)))=true:=(dT hc)
    refine vk (VOK.lit (Aa) hb0) ?_;refine vk (Aa) ?_;refine vk (Aa) ?_;refine vk (Bz (Ua _) (YR _) Zf) ?_;refine vk (vbi) ?_;refine vk (Am) ?_
    by_cases hc:s5<((List.length a1:Nat):Int)
    ·have hb1:(decide (s5<((List.length a1:Nat):Int)))=true:=(dT hc)
     refine vk (VOK.lit (Aa) hb1) ?_;refine vk (Aa) ?_;refine vk (vbi) ?_;refine vk (Am) ?_;refine RL.gk [0,1,4,5,6,7,37] ?_;refine .nil ?_
     exact jr () trivial (by simp only [hb0,hb1];rfl)
    have hb1:(decide (s5<((List.length a1:Nat):Int)))=false:=(dF hc)
    refine vk (VOK.lit (Aa) hb1) ?_;refine gf ?_;refine gf ?_;refine vk (Am) ?_;refine RL.gk [0,1,4,5,6,7,37] ?_;refine .nil ?_
    exact jr () trivial (by simp only [hb0,hb1];rfl)
   have hb0:(decide (s5<((List.length a0:Nat):Int)))=false:=(dF hc)
   refine vk (VOK.lit (Aa) hb0) ?_;refine gf ?_;refine gf ?_;refine gf ?_;refine gf ?_;refine vk (Am) ?_;refine vk (Aa) ?_;refine gf ?_;refine gf ?_;refine vk (Am) ?_;refine RL.gk [0,1,4,5,6,7,37] ?_;refine .nil ?_
   exact jr () trivial (by simp only [hb0];rfl)
  rintro _ _
  by_cases hc:((decide (s5<((List.length a0:Nat):Int))) && ((decide (s5<((List.length a1:Nat):Int))) && (decide (s5<50))))=true
  ·replace h:=Aj hc h
   refine cnt hc ?_;refine .skip ?_
   show AW _ _ _ _ _ _
   refine .seq ?_;refine .block ?_;refine .sr ?_;refine mvo ?_;refine vk (Aa) ?_;refine vk (Aa) ?_
   obtain ⟨x6,hx6,h⟩:=bnd h
   obtain ⟨nx6,hnx6,hxx6⟩:=AS hx6
   refine vk (vix nx6 hnx6 (Zd hxx6) rfl Y2) ?_;refine vk (An BF) ?_
   obtain ⟨x7,hx7,h⟩:=bnd h
   refine vk (Ad (Ro hx7) Tryz.call29) ?_;refine vk ((Ev (Gj [x7]) HV).deep) ?_
   obtain ⟨x8,hx8,h⟩:=bnd h
   refine Xb QB hx8 TB ?_ Ou Bh HV
   refine aso ?_;refine rk [0,1,4,5,6,7] ?_;refine .region ?_;refine mvo ?_;refine vk (Aa) ?_;refine vk (Aa) ?_
   obtain ⟨x9,hx9,h⟩:=bnd h
   obtain ⟨nx9,hnx9,hxx9⟩:=AS hx9
   refine vk (vix nx9 hnx9 (Zd hxx9) rfl Y2) ?_;refine vk (An BF) ?_
   obtain ⟨x10,hx10,h⟩:=bnd h
   refine vk (Ad (Ro hx10) Tryz.call29) ?_;refine vk ((Ev (Gj [x10]) HV).deep) ?_
   obtain ⟨x11,hx11,h⟩:=bnd h
   refine Xb QB hx11 TB ?_ Ou Bh HV
   refine aso ?_;refine .nil ?_
   show AW _ _ _ _ _ _
   refine .gk [0,1,4,5,6,7] ?_;refine .region ?_;refine vk (Aa) ?_;refine vk (vbi) ?_;refine asd ?_;refine .nil ?_;refine AL.gk [0,1,4,5,6,7] ?_
   exact ih (k,x8,x11,(w64 (s5+1))) h (Nat.lt_succ_self _)
  replace h:=Ai hc h
  refine cnf (bf hc) ?_;refine .gk [4,5,6] ?_;refine .exit ?_
  exact jr (s3,s4) h
 rintro ⟨z1,z2⟩ h
 try dsimp only at h ⊢
 subst hK0
 show AW _ _ _ _ _ _
 refine .sr ?_;refine fz (p:=.t 5) ?_;refine vk (Aa) ?_
 obtain ⟨x12,hx12,h⟩:=bnd h
 refine vk (Ad (GK hx12) Tryz.call30) ?_;refine fz (p:=.t 6) ?_;refine vk (Aa) ?_
 obtain ⟨x13,hx13,h⟩:=bnd h
 refine vk (Ad (GK hx13) Tryz.call30) ?_;refine vk (van (Ah AU) A7) ?_;refine vk (van (Ah AU) A7) ?_
 refine stn ?_ Ag (by decide)
 refine stn ?_ Ag (by decide)
 refine rk [4,8,9] ?_;refine .seq ?_
 obtain ⟨x14,hx14,h⟩:=bnd h
 obtain ⟨x15,hx15,h⟩:=bnd h
 refine .drawnF 8 [6] [(10,.nb [.sl (Is x15.1.shape),.sl (Its x15.1.items)])] [] Ba (by kernel_rfl) rfl ?_;refine dv (Ad (CG hx14) Tryz.call16) ?_;refine dv (C8 As Ag) ?_;refine dv (C8 As Ag) ?_;refine dv (VOK.tupd (vs:=[.ag [.sl (Is x15.1.shape),.sl (Its x15.1.items)],.i .i64 x15.2]) (Ad (CD hx15) Tryz.call15)) ?_;refine dv (Aa) ?_;refine dv (vex) ?_;refine dv (vex) ?_;refine dv (van (Ah AU) A7) ?_;refine dz ?_
 refine ⟨?_,?_,?_⟩
 ·intro k hk
  simp only [List.mem_cons,List.not_mem_nil,or_false] at hk
  subst hk
  exact ⟨_,_,_,rfl,rfl,rfl,rfl,rfl,rfl,vex⟩
 ·intro om e hom hge
  cases hom
  exact Gz (cs:=[.sl (Is []),.sl (Its [])]) (cs':=[.sl (Is x15.1.shape),.sl (Its x15.1.items)]) Ag (by decide) rfl ((hge 10 (fun k hk v hv=>by
    simp only [List.mem_cons,List.not_mem_nil,or_false] at hk
    subst hk;exact (by decide:¬ (some 66=some 10)) (congrArg (Option.map Prod.fst) hv))).trans rfl) ((congrArg AX (hge 65 (fun k hk v hv=>by
    simp only [List.mem_cons,List.not_mem_nil,or_false] at hk
    subst hk;exact (by decide:¬ (some 66=some 65)) (congrArg (Option.map Prod.fst) hv)))).trans rfl) rfl rfl rfl rfl ⟨rfl,rfl⟩
 refine ar [4,8,9,10,11] ?_;refine .seq ?_
 obtain ⟨x16,hx16,h⟩:=bnd h
 obtain ⟨x17,hx17,h⟩:=bnd h
 refine .drawnF 8 [6] [(12,.nb [.sl (Is x17.1.shape),.sl (Its x17.1.items)])] [] Ba (by kernel_rfl) rfl ?_;refine dv (Ad (CG hx16) Tryz.call16) ?_;refine dv (C8 As Ag) ?_;refine dv (C8 As Ag) ?_;refine dv (VOK.tupd (vs:=[.ag [.sl (Is x17.1.shape),.sl (Its x17.1.items)],.i .i64 x17.2]) (Ad (CD hx17) Tryz.call15)) ?_;refine dv (Aa) ?_;refine dv (vex) ?_;refine dv (vex) ?_;refine dv (van (Ah AU) A7) ?_;refine dz ?_
 refine ⟨?_,?_,?_⟩
 ·intro k hk
  simp only [List.mem_cons,List.not_mem_nil,or_false] at hk
  subst hk
  exact ⟨_,_,_,rfl,rfl,rfl,rfl,rfl,rfl,vex⟩
 ·intro om e hom hge
  cases hom
  exact Gz (cs:=[.sl (Is []),.sl (Its [])]) (cs':=[.sl (Is x17.1.shape),.sl (Its x17.1.items)]) Ag (by decide) rfl ((hge 12 (fun k hk v hv=>by
    simp only [List.mem_cons,List.not_mem_nil,or_false] at hk
    subst hk;exact (by decide:¬ (some 73=some 12)) (congrArg (Option.map Prod.fst) hv))).trans rfl) ((congrArg AX (hge 72 (fun k hk v hv=>by
    simp only [List.mem_cons,List.not_mem_nil,or_false] at hk
    subst hk;exact (by decide:¬ (some 73=some 72)) (congrArg (Option.map Prod.fst) hv)))).trans rfl) rfl rfl rfl rfl ⟨rfl,rfl⟩
 refine ar [4,8,9,10,11,12,13] ?_;refine .seq ?_
 obtain ⟨x18,hx18,h⟩:=bnd h
 obtain ⟨x19,hx19,h⟩:=bnd h
 refine .drawnF 7 [5] [(14,.nb [.sl (Is x19.1.shape),.sl (Its x19.1.items)])] [] Ba (by kernel_rfl) rfl ?_;refine dv (Ad (CG hx18) Tryz.call16) ?_;refine dv (C8 As Ag) ?_;refine dv (VOK.tupd (vs:=[.ag [.sl (Is x19.1.shape),.sl (Its x19.1.items)],.i .i64 x19.2]) (Ad (FC hx19) Tryz.call10)) ?_;refine dv (Aa) ?_;refine dv (vex) ?_;refine dv (vex) ?_;refine dv (van (Ah AU) A7) ?_;refine dz ?_
 refine ⟨?_,?_,?_⟩
 ·intro k hk
  simp only [List.mem_cons,List.not_mem_nil,or_false] at hk
  subst hk
  exact ⟨_,_,_,rfl,rfl,rfl,rfl,rfl,rfl,vex⟩
 ·intro om e hom hge
  cases hom
  exact Gz (cs:=[.sl (Is []),.sl (Its [])]) (cs':=[.sl (Is x19.1.shape),.sl (Its x19.1.items)]) Ag (by decide) rfl ((hge 14 (fun k hk v hv=>by
    simp only [List.mem_cons,List.not_mem_nil,or_false] at hk
    subst hk;exact (by decide:¬ (some 79=some 14)) (congrArg (Option.map Prod.fst) hv))).trans rfl) ((congrArg AX (hge 78 (fun k hk v hv=>by
    simp only [List.mem_cons,List.not_mem_nil,or_false] at hk
    subst hk;exact (by decide:¬ (some 79=some 78)) (congrArg (Option.map Prod.fst) hv)))).trans rfl) rfl rfl rfl rfl ⟨rfl,rfl⟩
 refine ar [4,8,9,11,12,13,14,15] ?_;refine .seq ?_
 obtain ⟨x20,hx20,h⟩:=bnd h
 obtain ⟨x21,hx21,h⟩:=bnd h
 refine .drawnF 7 [5] [(16,.nb [.sl (Is x21.1.shape),.sl (Its x21.1.items)])] [] Ba (by kernel_rfl) rfl ?_;refine dv (Ad (CG hx20) Tryz.call16) ?_;refine dv (C8 As Ag) ?_;refine dv (VOK.tupd (vs:=[.ag [.sl (Is x21.1.shape),.sl (Its x21.1.items)],.i .i64 x21.2]) (Ad (FC hx21) Tryz.call10)) ?_;refine dv (Aa) ?_;refine dv (vex) ?_;refine dv (vex) ?_;refine dv (van (Ah AU) A7) ?_;refine dz ?_
 refine ⟨?_,?_,?_⟩
 ·intro k hk
  simp only [List.mem_cons,List.not_mem_nil,or_false] at hk
  subst hk
  exact ⟨_,_,_,rfl,rfl,rfl,rfl,rfl,rfl,vex⟩
 ·intro om e hom hge
  cases hom
  exact Gz (cs:=[.sl (Is []),.sl (Its [])]) (cs':=[.sl (Is x21.1.shape),.sl (Its x21.1.items)]) Ag (by decide) rfl ((hge 16 (fun k hk v hv=>by
    simp only [List.mem_cons,List.not_mem_nil,or_false] at hk
    subst hk;exact (by decide:¬ (some 85=some 16)) (congrArg (Option.map Prod.fst) hv))).trans rfl) ((congrArg AX (hge 84 (fun k hk v hv=>by
    simp only [List.mem_cons,List.not_mem_nil,or_false] at hk
    subst hk;exact (by decide:¬ (some 85=some 84)) (congrArg (Option.map Prod.fst) hv)))).trans rfl) rfl rfl rfl rfl ⟨rfl,rfl⟩
 refine ar [4,8,9,11,12,13,14,15,16,17] ?_;refine .seq ?_
 obtain ⟨x22,hx22,h⟩:=bnd h
 obtain ⟨x23,hx23,h⟩:=bnd h
 refine .drawnF 7 [5] [(18,.nb [.sl (Is x23.1.shape),.sl (Its x23.1.items)])] [] Ba (by kernel_rfl) rfl ?_;refine dv (Ad (CG hx22) Tryz.call16) ?_;refine dv (C8 As Ag) ?_;refine dv (VOK.tupd (vs:=[.ag [.sl (Is x23.1.shape),.sl (Its x23.1.items)],.i .i64 x23.2]) (Ad (FC hx23) Tryz.call10)) ?_;refine dv (Aa) ?_;refine dv (vex) ?_;refine dv (vex) ?_;refine dv (van (Ah AU) A7) ?_;refine dz ?_
 refine ⟨?_,?_,?_⟩
 ·intro k hk
  simp only [List.mem_cons,List.not_mem_nil,or_false] at hk
  subst hk
  exact ⟨_,_,_,rfl,rfl,rfl,rfl,rfl,rfl,vex⟩
 ·intro om e hom hge
  cases hom
  exact Gz (cs:=[.sl (Is []),.sl (Its [])]) (cs':=[.sl (Is x23.1.shape),.sl (Its x23.1.items)]) Ag (by decide) rfl ((hge 18 (fun k hk v hv=>by
    simp only [List.mem_cons,List.not_mem_nil,or_false] at hk
    subst hk;exact (by decide:¬ (some 91=some 18)) (congrArg (Option.map Prod.fst) hv))).trans rfl) ((congrArg AX (hge 90 (fun k hk v hv=>by
    simp only [List.mem_cons,List.not_mem_nil,or_false] at hk
    subst hk;exact (by decide:¬ (some 91=some 90)) (congrArg (Option.map Prod.fst) hv)))).trans rfl) rfl rfl rfl rfl ⟨rfl,rfl⟩
 refine ar [4,8,11,12,13,14,15,16,17,18,19] ?_;refine .seq ?_
 obtain ⟨x24,hx24,h⟩:=bnd h
 obtain ⟨x25,hx25,h⟩:=bnd h
 refine .drawnF 8 [6] [(20,.nb [.sl (Is x25.1.shape),.sl (Its x25.1.items)])] [] Ba (by kernel_rfl) rfl ?_;refine dv (Ad (CG hx24) Tryz.call16) ?_;refine dv (C8 As Ag) ?_;refine dv (C8 As Ag) ?_;refine dv (VOK.tupd (vs:=[.ag [.sl (Is x25.1.shape),.sl (Its x25.1.items)],.i .i64 x25.2]) (Ad (CD hx25) Tryz.call15)) ?_;refine dv (Aa) ?_;refine dv (vex) ?_;refine dv (vex) ?_;refine dv (van (Ah AU) A7) ?_;refine dz ?_
 refine ⟨?_,?_,?_⟩
 ·intro k hk
  simp only [List.mem_cons,List.not_mem_nil,or_false] at hk
  subst hk
  exact ⟨_,_,_,rfl,rfl,rfl,rfl,rfl,rfl,vex⟩
 ·intro om e hom hge
  cases hom
  exact Gz (cs:=[.sl (Is []),.sl (Its [])]) (cs':=[.sl (Is x25.1.shape),.sl (Its x25.1.items)]) Ag (by decide) rfl ((hge 20 (fun k hk v hv=>by
    simp only [List.mem_cons,List.not_mem_nil,or_false] at hk
    subst hk;exact (by decide:¬ (some 98=some 20)) (congrArg (Option.map Prod.fst) hv))).trans rfl) ((congrArg AX (hge 97 (fun k hk v hv=>by
    simp only [List.mem_cons,List.not_mem_nil,or_false] at hk
    subst hk;exact (by decide:¬ (some 98=some 97)) (congrArg (Option.map Prod.fst) hv)))).trans rfl) rfl rfl rfl rfl ⟨rfl,rfl⟩
 refine ar [4,8,11,12,13,14,15,16,17,19,20,21] ?_;refine .seq ?_
 obtain ⟨x26,hx26,h⟩:=bnd h
 obtain ⟨x27,hx27,h⟩:=bnd h
 refine .drawnF 7 [5] [(22,.nb [.sl (Is x27.1.shape),.sl (Its x27.1.items)])] [] Ba (by kernel_rfl) rfl ?_;refine dv (Ad (CG hx26) Tryz.call16) ?_;refine dv (C8 As Ag) ?_;refine dv (VOK.tupd (vs:=[.ag [.sl (Is x27.1.shape),.sl (Its x27.1.items)],.i .i64 x27.2]) (Ad (FC hx27) Tryz.call10)) ?_;refine dv (Aa) ?_;refine dv (vex) ?_;refine dv (vex) ?_;refine dv (van (Ah AU) A7) ?_;refine dz ?_
 refine ⟨?_,?_,?_⟩
 ·intro k hk
  simp only [List.mem_cons,List.not_mem_nil,or_false] at hk
  subst hk
  exact ⟨_,_,_,rfl,rfl,rfl,rfl,rfl,rfl,vex⟩
 ·intro om e hom hge
  cases hom
  exact Gz (cs:=[.sl (Is []),.sl (Its [])]) (cs':=[.sl (Is x27.1.shape),.sl (Its x27.1.items)]) Ag (by decide) rfl ((hge 22 (fun k hk v hv=>by
    simp only [List.mem_cons,List.not_mem_nil,or_false] at hk
    subst hk;exact (by decide:¬ (some 104=some 22)) (congrArg (Option.map Prod.fst) hv))).trans rfl) ((congrArg AX (hge 103 (fun k hk v hv=>by
    simp only [List.mem_cons,List.not_mem_nil,or_false] at hk
    subst hk;exact (by decide:¬ (some 104=some 103)) (congrArg (Option.map Prod.fst) hv)))).trans rfl) rfl rfl rfl rfl ⟨rfl,rfl⟩
 refine ar [4,8,11,12,13,14,15,17,19,20,21,22,23] ?_;refine .seq ?_
 obtain ⟨x28,hx28,h⟩:=bnd h
 obtain ⟨z28,hz,h⟩:=bnd h
 refine AW.mr (σ:=Unit) (fun _=>True) (fun _=>[(4,.d (.b z28))]) (fun _=>[]) ?_ ?_
 ·skip
  refine .region ?_;refine vk (Ad (IL hx28) Tryz.call17) ?_
  by_cases hc:x28=true
  ·replace hz:=Aj hc hz
   have hb0:x28=true:=hc
   refine vk (VOK.lit (Aa) hb0) ?_;refine vk (Aa) ?_;refine vk (vbi) ?_;refine vk (Am) ?_
   by_cases hc:x15.2=0
   ·replace hz:=Aj hc hz
    have hb1:(decide (x15.2=0))=true:=(dT hc)
    refine vk (VOK.lit (Aa) hb1) ?_;refine vk (Aa) ?_;refine vk (vbi) ?_;refine vk (Am) ?_
    by_cases hc:x17.2=0
    ·replace hz:=Aj hc hz
     have hb2:(decide (x17.2=0))=true:=(dT hc)
     refine vk (VOK.lit (Aa) hb2) ?_;refine vk (Aa) ?_;refine vk (vbi) ?_;refine vk (Am) ?_
     by_cases hc:x19.2=0
     ·replace hz:=Aj hc hz
      have hb3:(decide (x19.2=0))=true:=(dT hc)
      refine vk (VOK.lit (Aa) hb3) ?_;refine vk (Aa) ?_;refine vk (vbi) ?_;refine vk (Am) ?_
      by_cases hc:x21.2=0
      ·replace hz:=Aj hc hz
       have hb4:(decide (x21.2=0))=true:=(dT hc)
       refine vk (VOK.lit (Aa) hb4) ?_;refine vk (Aa) ?_;refine vk (vbi) ?_;refine vk (Am) ?_
       by_cases hc:x23.2=0
       ·replace hz:=Aj hc hz
        have hb5:(decide (x23.2=0))=true:=(dT hc)
        refine vk (VOK.lit (Aa) hb5) ?_;refine vk (Aa) ?_;refine vk (vbi) ?_;refine vk (Am) ?_
        by_cases hc:x25.2=0
        ·replace hz:=Aj hc hz
         have hb6:(decide (x25.2=0))=true:=(dT hc)
         refine vk (VOK.lit (Aa) hb6) ?_;refine vk (Aa) ?_;refine vk (vbi) ?_;refine vk (Am) ?_
         by_cases hc:x27.2=0
         ·replace hz:=Aj hc hz
          have hb7:(decide (x27.2=0))=true:=(dT hc)
          refine vk (VOK.lit (Aa) hb7) ?_;refine vk (C8 As Ag) ?_;refine vk (C8 As Ag) ?_
          obtain ⟨x30,hx30,hz⟩:=bnd hz
          refine vk (Ad (Ip hx30) Tryz.call18) ?_;refine vk (Am) ?_
          by_cases hc:x30=true
          ·replace hz:=Aj hc hz
           have hb8:x30=true:=hc
           refine vk (VOK.lit (Aa) hb8) ?_;refine vk (C8 As Ag) ?_;refine vk (C8 As Ag) ?_
           obtain ⟨x31,hx31,hz⟩:=bnd hz
           refine vk (Ad (Ip hx31) Tryz.call18) ?_;refine vk (Am) ?_
           by_cases hc:x31=true
           ·replace hz:=Aj hc hz
            have hb9:x31=true:=hc
            refine vk (VOK.lit (Aa) hb9) ?_;refine vk (C8 As Ag) ?_;refine vk (C8 As Ag) ?_
            obtain ⟨x32,hx32,hz⟩:=bnd hz
            refine vk (Ad (Ip hx32) Tryz.call18) ?_;refine vk (Am) ?_;refine asd ?_;refine RL.gk [4] ?_;refine .nil ?_
            cases hz
            exact jr () trivial
           replace hz:=Ai hc hz
           have hb9:x31=false:=(bf hc)
           refine vk (VOK.lit (Aa) hb9) ?_;refine gf ?_;refine gf ?_;refine gf ?_;refine vk (Am) ?_;refine asd ?_;refine RL.gk [4] ?_;refine .nil ?_
           cases hz
           exact jr () trivial
          replace hz:=Ai hc hz
          have hb8:x30=false:=(bf hc)
          refine vk (VOK.lit (Aa) hb8) ?_;refine gf ?_;refine gf ?_;refine gf ?_;refine vk (Am) ?_;refine vk (Aa) ?_;refine gf ?_;refine gf ?_;refine gf ?_;refine vk (Am) ?_;refine asd ?_;refine RL.gk [4] ?_;refine .nil ?_
          cases hz
          exact jr () trivial
         replace hz:=Ai hc hz
         have hb7:(decide (x27.2=0))=false:=(dF hc)
         refine vk (VOK.lit (Aa) hb7) ?_;refine gf ?_;refine gf ?_;refine gf ?_;refine vk (Am) ?_;refine vk (Aa) ?_;refine gf ?_;refine gf ?_;refine gf ?_;refine vk (Am) ?_;refine vk (Aa) ?_;refine gf ?_;refine gf ?_;refine gf ?_;refine vk (Am) ?_;refine asd ?_;refine RL.gk [4] ?_;refine .nil ?_
         cases hz
         exact jr () trivial
        replace hz:=Ai hc hz
        have hb6:(decide (x25.2=0))=false:=(dF hc)
        refine vk (VOK.lit (Aa) hb6) ?_;refine gf ?_;refine gf ?_;refine vk (Am) ?_;refine vk (Aa) ?_;refine gf ?_;refine gf ?_;refine gf ?_;refine vk (Am) ?_;refine vk (Aa) ?_;refine gf ?_;refine gf ?_;refine gf ?_;refine vk (Am) ?_;refine vk (Aa) ?_;refine gf ?_;refine gf ?_;refine gf ?_;refine vk (Am) ?_;refine asd ?_;refine RL.gk [4] ?_;refine .nil ?_
        cases hz
        exact jr () trivial
       replace hz:=Ai hc hz
       have hb5:(decide (x23.2=0))=false:=(dF hc)
       refine vk (VOK.lit (Aa) hb5) ?_;refine gf ?_;refine gf ?_;refine vk (Am) ?_;refine vk (Aa) ?_;refine gf ?_;refine gf ?_;refine vk (Am) ?_;refine vk (Aa) ?_;refine gf ?_;refine gf ?_;refine gf ?_;refine vk (Am) ?_;refine vk (Aa) ?_;refine gf ?_;refine gf ?_;refine gf ?_;refine vk (Am) ?_;refine vk (Aa) ?_;refine gf ?_;refine gf ?_;refine gf ?_;refine vk (Am) ?_;refine asd ?_;refine RL.gk [4] ?_;refine .nil ?_
       cases hz
       exact jr () trivial
      replace hz:=Ai hc hz
      have hb4:(decide (x21.2=0))=false:=(dF hc)
      refine vk (VOK.lit (Aa) hb4) ?_;refine gf ?_;refine gf ?_;refine vk (Am) ?_;refine vk (Aa) ?_;refine gf ?_;refine gf ?_;refine vk (Am) ?_;refine vk (Aa) ?_;refine gf ?_;refine gf ?_;refine vk (Am) ?_;refine vk (Aa) ?_;refine gf ?_;refine gf ?_;refine gf ?_;refine vk (Am) ?_;refine vk (Aa) ?_;refine gf ?_;refine gf ?_;refine gf ?_;refine vk (Am) ?_;refine vk (Aa) ?_;refine gf ?_;refine gf ?_;refine gf ?_;refine vk (Am) ?_;refine asd ?_;refine RL.gk [4] ?_;refine .nil ?_
      cases hz
      exact jr () trivial
     replace hz:=Ai hc hz
     have hb3:(decide (x19.2=0))=false:=(dF hc)
     refine vk (VOK.lit (Aa) hb3) ?_;refine gf ?_;refine gf ?_;refine vk (Am) ?_;refine vk (Aa) ?_;refine gf ?_;refine gf ?_;refine vk (Am) ?_;refine vk (Aa) ?_;refine gf ?_;refine gf ?_;refine vk (Am) ?_;refine vk (Aa) ?_;refine gf ?_;refine gf ?_;refine vk (Am) ?_;refine vk (Aa) ?_;refine gf ?_;refine gf ?_;refine gf ?_;refine vk (Am) ?_;refine vk (Aa) ?_;refine gf ?_;refine gf ?_;refine gf ?_;refine vk (Am) ?_;refine vk (Aa) ?_;refine gf ?_;refine gf ?_;refine gf ?_;refine vk (Am) ?_;refine asd ?_;refine RL.gk [4] ?_;refine .nil ?_
     cases hz
     exact jr () trivial
    replace hz:=Ai hc hz
    have hb2:(decide (x17.2=0))=false:=(dF hc)
    refine vk (VOK.lit (Aa) hb2) ?_;refine gf ?_;refine gf ?_;refine vk (Am) ?_;refine vk (Aa) ?_;refine gf ?_;refine gf ?_;refine vk (Am) ?_;refine vk (Aa) ?_;refine gf ?_;refine gf ?_;refine vk (Am) ?_;refine vk (Aa) ?_;refine gf ?_;refine gf ?_;refine vk (Am) ?_;refine vk (Aa) ?_;refine gf ?_;refine gf ?_;refine vk (Am) ?_;refine vk (Aa) ?_;refine gf ?_;refine gf ?_;refine gf ?_;refine vk (Am) ?_;refine vk (Aa) ?_;refine gf ?_;refine gf ?_;refine gf ?_;refine vk (Am) ?_;refine vk (Aa) ?_;refine gf ?_;refine gf ?_;refine gf ?_;refine vk (Am) ?_;refine asd ?_;refine RL.gk [4] ?_;refine .nil ?_
    cases hz
    exact jr () trivial
   replace hz:=Ai hc hz
   have hb1:(decide (x15.2=0))=false:=(dF hc)
   refine vk (VOK.lit (Aa) hb1) ?_;refine gf ?_;refine gf ?_;refine vk (Am) ?_;refine vk (Aa) ?_;refine gf ?_;refine gf ?_;refine vk (Am) ?_;refine vk (Aa) ?_;refine gf ?_;refine gf ?_;refine vk (Am) ?_;refine vk (Aa) ?_;refine gf ?_;refine gf ?_;refine vk (Am) ?_;refine vk (Aa) ?_;refine gf ?_;refine gf ?_;refine vk (Am) ?_;refine vk (Aa) ?_;refine gf ?_;refine gf ?_;refine vk (Am) ?_;refine vk (Aa) ?_;refine gf ?_;refine gf ?_;refine gf ?_;refine vk (Am) ?_;refine vk (Aa) ?_;refine gf ?_;refine gf ?_;refine gf ?_;refine vk (Am) ?_;refine vk (Aa) ?_;refine gf ?_;refine gf ?_;refine gf ?_;refine vk (Am) ?_;refine asd ?_;refine RL.gk [4] ?_;refine .nil ?_
   cases hz
   exact jr () trivial
  replace hz:=Ai hc hz
  have hb0:x28=false:=(bf hc)
  refine vk (VOK.lit (Aa) hb0) ?_;refine gf ?_;refine gf ?_;refine vk (Am) ?_;refine vk (Aa) ?_;refine gf ?_;refine gf ?_;refine vk (Am) ?_;refine vk (Aa) ?_;refine gf ?_;refine gf ?_;refine vk (Am) ?_;refine vk (Aa) ?_;refine gf ?_;refine gf ?_;refine vk (Am) ?_;refine vk (Aa) ?_;refine gf ?_;refine gf ?_;refine vk (Am) ?_;refine vk (Aa) ?_;refine gf ?_;refine gf ?_;refine vk (Am) ?_;refine vk (Aa) ?_;refine gf ?_;refine gf ?_;refine vk (Am) ?_;refine vk (Aa) ?_;refine gf ?_;refine gf ?_;refine gf ?_;refine vk (Am) ?_;refine vk (Aa) ?_;refine gf ?_;refine gf ?_;refine gf ?_;refine vk (Am) ?_;refine vk (Aa) ?_;refine gf ?_;refine gf ?_;refine gf ?_;refine vk (Am) ?_;refine asd ?_;refine RL.gk [4] ?_;refine .nil ?_
  cases hz
  exact jr () trivial
 rintro _ _
 refine .ret ?_
 cases h
 exact ⟨rfl,rfl⟩
theorem YL (b : Bool) : MW b=some (NA b):=by cases b <;> rfl
theorem UL {l m : List Bool} {n : Nat} (hn : n=min (min l.length m.length) 50) (K : List Int→List Int→Option Bool) : ∀ (j i k : Nat),j=n - i→i≤n→j<k →
  C1 l m K k ((l.take i).map NA) ((m.take i).map NA) (i:Int)=K ((l.take n).map NA) ((m.take n).map NA)
 | _,_,0,_,_,h=>by omega
 | j,i,k+1,hj,hi,hk=>by
  rw [C1]
  by_cases h:i<n
  ·have hl:i<l.length:=by omega
   have hm:i<m.length:=by omega
   rw [if_pos (by rw [dT (by omega),dT (by omega),dT (by omega)];rfl),Dp hl,oB,YL,oB,KT (by simp;omega),oB,Dp hm,oB,YL,oB,KT (by simp;omega),oB,Dj (by omega)]
   have e1:(l.take i).map NA++[NA l[i]]=(l.take (i+1)).map NA:=by rw [List.take_succ_eq_append_getElem hl,List.map_append];rfl
   have e2:(m.take i).map NA++[NA m[i]]=(m.take (i+1)).map NA:=by rw [List.take_succ_eq_append_getElem hm,List.map_append];rfl
   rw [e1,e2]
   exact UL hn K (j - 1) (i+1) k (by omega) (by omega) (by omega)
  ·obtain rfl:i=n:=by omega
   rw [if_neg]
   simp only [Bool.and_eq_true,decide_eq_true_eq]
   omega
theorem TL {l : List Bool} (h : l.length≤4096) : GC (Mp l) (Mp l)=some true:=(RB (Lw h).2).yes rfl
theorem Tj {l : List Bool} (h : l.length≤4096) : IB (l.map NA)=some (Mp l):=by
 rw [Yx (Vv l) (by simp;omega)]
 exact congrArg some (Vc h)
theorem Zy (l m : List Bool) : (List.zipWith (fun a b=>a && b) l m).map (fun a=>!a)=List.zipWith (fun a b=>!(a && b)) l m:=by
 rw [List.map_zipWith]
theorem Ya : ∀ (l m : List Bool),List.zipWith (fun a b=>a || b) (l.map fun a=>!a) (m.map fun a=>!a)=List.zipWith (fun a b=>!(a && b)) l m
 | [],_=>by simp
 | _::_,[]=>by simp
 | a::l,b::m=>by
  show (!a || !b)::_=(!(a && b))::_
  rw [← Ya l m,Bool.not_and]
theorem Aad (l : List Bool) : (l.map fun a=>!a).map (fun a=>!a)=l:=by
 rw [List.map_map]
 induction l with
 | nil=>rfl
 | cons a l ih=>rw [List.map_cons,ih];simp
theorem TJ {l m : List Bool} (hl : l.length≤140737488355328) (hm : m.length≤140737488355328) : HD l m=some true:=by
 unfold HD
 rw [HF]
 obtain ⟨n,hn⟩:∃ n,n=min (min l.length m.length) 50:=⟨_,rfl⟩
 have hloop:=fun K=>UL hn K n 0 BC (by omega) (by omega) (Di (by omega))
 have h1:(l.take n).length=n:=by rw [List.length_take];omega
 have h2:(m.take n).length=n:=by rw [List.length_take];omega
 rw [List.take_zero,List.take_zero] at hloop
 show C1 l m _ BC ([].map NA) ([].map NA) ((0:Nat):Int)=_
 rw [hloop]
 generalize l.take n=x at *
 generalize m.take n=y at *
 have hx:x.length≤4096:=by omega
 have hy:y.length≤4096:=by omega
 have hxy:x.length=y.length:=by omega
 have a:=Qf (g:=8743) rfl Y1 hxy hx
 have d:=Qf (g:=9074) rfl Yy hxy hx
 have hz:(List.zipWith (fun a b=>a && b) x y).length≤4096:=by rw [List.length_zipWith];omega
 have hz2:(List.zipWith (fun a b=>!(a && b)) x y).length≤4096:=by rw [List.length_zipWith];omega
 have c:=Mz (e:=(1,(false,[],[1]),0)) (g:=126) rfl RH hz
 have nx:=Mz (e:=(1,(false,[],[1]),0)) (g:=126) rfl RH hx
 have ny:=Mz (e:=(1,(false,[],[1]),0)) (g:=126) rfl RH hy
 have o:=Qf (g:=8744) rfl Zx (l:=x.map fun a=>!a) (m:=y.map fun a=>!a) (by simp [hxy]) (by simp;omega)
 have b:=Mz (e:=(1,(false,[],[1]),0)) (g:=126) rfl RH (l:=x.map fun a=>!a) (by simp;omega)
 rw [Zy] at c
 rw [Ya] at o
 rw [Aad] at b
 simp only [Tj hx,Tj hy,X6,a,d,c,nx,ny,o,b,Tf,oB,TL hz2,TL hx,if_true]
end Go.FL
namespace Go.Proofs.YtbeekjoeaigngaaGreat.scalarLogic
open Go.ChangeShapes Go.WideShapes Go.ChangeAt Go.RowKit Go.FL
theorem own : ownKnob Tryz.prog.godebug=none:=by kernel_rfl
theorem laid : laidOutB Tryz.prog=true:=by kernel_rfl
theorem params : ∀ t ∈ Tryz.f9.params.toList,Tryz.prog.readableRec t=true∧t<Tryz.prog.types.size:=by
 intro t ht
 simp only [Tryz.params9,List.mem_cons,List.not_mem_nil,or_false] at ht
 rcases ht with rfl | rfl <;> exact ⟨by kernel_rfl,of_decide_eq_true (by kernel_rfl)⟩
set_option maxRecDepth 100000 in
theorem lifted (os : Os) (started : os.Started) (H : Type) (enc : TypeId × Value→H) :
  ReturnsInHanded {} Tryz.checked os 9 .any (Rows.scalarLogicSpec.pre6 enc Tryz.prog Tryz.f9 Rows.scalarLogicRow.domain false) (Rows.scalarLogicSpec.post enc Tryz.prog Tryz.f9 false true false false):=by
 refine returnsInHanded_of_change_sized (C:=Tryz.checked) own started (by kernel_rfl) Tryz.func9
  (ChangeSpec.witness6 (enc:=enc) (C:=Tryz.checked) false ⟨#[],#[.slice none 0 0,.slice none 0 0],[]⟩ 8 (by kernel_rfl) (by kernel_rfl) (by kernel_rfl) (by kernel_rfl)) ?_
 intro W base args ds gs before hval0 hW hcnd hsz _
 have hval:∀ (j:Nat) t v,Tryz.f9.params[j]?=some t→args[j]?=some v→Value.okWide Tryz.prog W .any base t v:=hval0
 have hW':=hW
 obtain ⟨p,q,hA0,hV,rfl,hfz,hnd⟩:=hW
 have hA:DataW.TrodAll enc Tryz.prog W 0 (fun _=>true) true Tryz.f9.params.toList args.toList ds p:=hA0
 rw [Tryz.params9] at hA hval
 obtain ⟨v0,vs0,d0,ds0,p0,q0,hargs,rfl,rfl,h0,r0⟩:=trodAll_cons hA
 obtain ⟨v1,vs1,d1,ds1,p1,q1,rfl,rfl,rfl,h1,r1⟩:=trodAll_cons r0
 obtain ⟨rfl,rfl,rfl⟩:=trodAll_nil r1
 obtain rfl:args=#[v0,v1]:=by cases args;simp_all
 obtain ⟨rfl,rfl⟩:=trodVars_none hV
 rw [Tryz.params9] at hsz
 have w0:∀ m ∈ DataW.weights Tryz.prog 55 d0,m≤reachBytes:=fun m hm=>by simpa using List.all_eq_true.1 hsz m (DataW.weights_mem_each (j:=0) rfl rfl m hm)
 obtain ⟨a0,o0,e0⟩:=WO (v:=v0) WP (by obtain ⟨x0,x1,x2,rfl⟩:=okWide_slice Tryz.underlying55 (hval 0 55 v0 rfl rfl);rfl) h0 w0
 have w1:∀ m ∈ DataW.weights Tryz.prog 55 d1,m≤reachBytes:=fun m hm=>by simpa using List.all_eq_true.1 hsz m (DataW.weights_mem_each (j:=1) rfl rfl m hm)
 obtain ⟨a1,o1,e1⟩:=WO (v:=v1) WP (by obtain ⟨x0,x1,x2,rfl⟩:=okWide_slice Tryz.underlying55 (hval 1 55 v1 rfl rfl);rfl) h1 w1
 refine (P4 (OO (TJ o0 o1)) (.cons e0 (.cons e1 .nil))).mono fun e W' ⟨he,hb⟩=>?_
 subst he
 exact ⟨_,rfl,Q8 hW' rfl (fun _=>rfl) rfl Tryz.underlying4 laid params hb⟩
theorem over : Rows.scalarLogicRow.holds Tryz.pinned (OpenSpec.ofChange Rows.scalarLogicSpec) :=
 OpenClaim.holds_of_wide 9 Tryz.f9 rfl rfl rfl rfl rfl rfl rfl ⟨rfl,rfl,rfl,rfl,rfl⟩ rfl rfl rfl rfl rfl (by kernel_rfl) Tryz.func9 (by kernel_rfl)
  (of_decide_eq_true (by kernel_rfl)) (by unfold Func.isWrapper;first | (rw [if_pos (by decide +kernel)];kernel_rfl) | (rw [if_neg (by decide +kernel)];exact ⟨rfl,rfl⟩))
  (fun os started H enc _=>lifted os started H enc)
theorem proved : Rows.ScalarLogicSaid :=
 over
end Go.Proofs.YtbeekjoeaigngaaGreat.scalarLogic
