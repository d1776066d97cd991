/-
  The law: its function printed as a pure function, its contract, the plain law, the statement
-/
import Derived.Test.YtjmalfcinmmekaaGreatPuF
import Derived.Test.YtjmalfcinmmekaaGreatRows
set_option linter.unusedVariables false
namespace Go.FL
open Go Go.Proofs
def BB (a0:(List Itm)) (a1:Int) (a2:Itm) (x8:Arr×Int) (K0:Bool→Option (Bool)) : Nat→Bool→Int→Option (Bool)
 | 0,_,_=>none
 | k+1,s10,s11=>(if s11<((List.length a0:Nat):Int) then ((rd? a0 s11).bind fun x12=>(jn (fun (z13:Itm)=>(EH.bind fun x14=>((EE (w64 (s11+1))).bind fun x15=>((GP x14 x8.1 ([[x15]])).bind fun x16=>(Option.bind ((if x16.2=0 then (if ((List.length x16.1.items:Nat):Int)=1 then ((rd? x16.1.items 0).bind fun x18=>((CH x18 z13).bind fun x19=>(some (!x19)))) else (some true)) else (some true)):Option (Bool)) fun (z17:Bool)=>(if z17=true then (some (false)) else (BB a0 a1 a2 x8 K0 k s10 (w64 (s11+1))))))))) fun K2=>(if s11=(w64 ((w64 ((Int.tmod (IntKind.wrap .i64 a1) ((List.length a0:Nat):Int))+1))-1)) then (K2 a2) else (K2 x12)))) else (K0 s10))
def EZ (a0:(List Itm)) (a1:Int) (a2:Itm) : Option (Bool):=((AT ([((List.length a0:Nat) : Int)]) a0).bind fun x1=>(Option.bind ((if x1.2=0 then (if ((List.length a0:Nat) : Int)=0 then (some true) else ((GF a2).bind fun x3=>(some (!x3)))) else (some true)) : Option (Bool)) fun (z2:Bool)=>(if z2=true then (Ex.bind fun x4=>(some (x4))) else ((Gs (((List.length a0:Nat) : Int)≠0)).bind fun x5=>(EH.bind fun x6=>((EE (w64 ((Int.tmod (IntKind.wrap .i64 a1) ((List.length a0:Nat) : Int))+1))).bind fun x7=>((Gv x6 x1.1 (Arr.mk [] [a2]) ([[x7]])).bind fun x8=>(if x8.2=0 then (jn (fun (z9:Bool)=>(Ex.bind fun x20=>(some (x20)))) fun K0=>(BB a0 a1 a2 x8 K0 Az false 0)) else (Ex.bind fun x21=>(some ((x21&&(decide (x8.2=8))))))))))))))
set_option maxHeartbeats 4000000 in
theorem Kc {a0:(List Itm)} {a1:Int} {a2:Itm} {r:Bool} (h:EZ a0 a1 a2=some r) :
  Fn Tryz.prog 11 [.sl (Its a0),.i .u8 a1,.ag [.i .u8 a2.kind,.b a2.num.1,.sl (L a2.num.2.1),.sl (L a2.num.2.2),.i .i32 a2.char,.sl (Ars a2.box)]] (.d (.b r)):=by
 unfold EZ at h
 refine Fn.o1 6 109 Tryz.func11 ?_;refine .sr ?_;refine vk vbx ?_;refine ar [0,1,5,6] ?_;refine .sr ?_;refine va ?_;refine vk (AR (Ap _) (Bv _) Br) ?_;refine vk ((EO (DP [((List.length a0:Nat):Int)]) DQ).deep) ?_;refine va ?_
 obtain ⟨x1,g1,h⟩:=bnd h
 refine vk (VOK.tupd (vs:=[.ag [.sl (Is x1.1.shape),.sl (Its x1.1.items)],.i .i64 x1.2]) (Ak (Fx g1) Tryz.call18)) ?_;refine va ?_;refine vk vex ?_;refine vk vex ?_;refine vk (van (Al AY) A4) ?_
 refine stn ?_ Ab (by decide)
 refine ar [0,1,5,6,7,8] ?_;refine .seq ?_;refine .seq ?_
 obtain ⟨z2,hz,h⟩:=bnd h
 refine AW.mr (σ:=Unit) (fun _=>True) (fun _=>[(0,.d (.sl (Its a0))),(1,.d (.i .u8 a1)),(5,.d (.ptr [.i .u8 a2.kind,.b a2.num.1,.sl (L a2.num.2.1),.sl (L a2.num.2.2),.i .i32 a2.char,.sl (Ars a2.box)])),(6,.d (.b false)),(7,.nb [.sl (Is x1.1.shape),.sl (Its x1.1.items)]),(36,.d (.b z2))]) (fun _=>[]) ?_ ?_
 ·skip
  refine .region ?_;refine va ?_;refine vb ?_
  rcases brc hz with ⟨hc,hz⟩|⟨hc,hz⟩
  ·have hb0:(!(decide (x1.2=0)))=false:=(ntf (dT hc))
   refine vL hb0 ?_;refine va ?_;refine vk (AR (Ap _) (Bv _) Br) ?_;refine vb ?_;refine vk Aj ?_
   rcases brc hz with ⟨hc,hz⟩|⟨hc,hz⟩
   ·have hb1:(decide (((List.length a0:Nat):Int)=0))=true:=(dT hc)
    refine vL hb1 ?_;refine gf3 ?_;refine vk Aj ?_;refine RL.gk [0,1,5,6,7,36] ?_;refine .nil ?_
    cases hz
    exact jr () trivial
   have hb1:(decide (((List.length a0:Nat):Int)=0))=false:=(dF hc)
   refine vL hb1 ?_;refine vk (Aq AX Au) ?_
   obtain ⟨x3,g3,hz⟩:=bnd hz
   refine vk (Ak (NV g3) Tryz.call33) ?_;refine vk vnt ?_;refine vk Aj ?_;refine RL.gk [0,1,5,6,7,36] ?_;refine .nil ?_
   cases hz
   exact jr () trivial
  have hb0:(!(decide (x1.2=0)))=true:=(ntt (dF hc))
  refine vL hb0 ?_;refine gf3 ?_;refine vk Aj ?_;refine va ?_;refine gf3 ?_;refine vk Aj ?_;refine RL.gk [0,1,5,6,7,36] ?_;refine .nil ?_
  cases hz
  exact jr () trivial
 rintro _ _
 rcases brc h with ⟨hc,h⟩|⟨hc,h⟩
 ·refine cnt hc ?_
  refine .sr ?_
  obtain ⟨x4,g4,h⟩:=bnd h
  refine vk (Ak (Hb g4) Tryz.call16) ?_;refine ar [0,1,5,6,7] ?_;refine .ret ?_
  cases h
  exact ⟨rfl,rfl⟩
 refine cnf (bf hc) ?_;refine .sk ?_;refine .sr ?_;refine va ?_;refine vk (vcv Uw H7) ?_;refine va ?_;refine vk (AR (Ap _) (Bv _) Br) ?_
 obtain ⟨x5,g5,h⟩:=bnd h
 refine vk (Nu (G5 g5)) ?_;refine vb ?_;refine ar [0,5,6,7,9] ?_;refine .sr ?_;refine vk (Aq AX Au) ?_;refine vk ((Eg (Fp a2) (DW [a2]) DN).deep) ?_;refine vk (vbd CF AY A4) ?_;refine vk (van (Al AY) A4) ?_
 refine stn ?_ Ab (by decide)
 refine rk [0,5,6,7,9,10] ?_;refine .seq ?_
 obtain ⟨x6,g6,h⟩:=bnd h
 obtain ⟨x7,g7,h⟩:=bnd h
 obtain ⟨x8,g8,h⟩:=bnd h
 refine .drawnF 12 [10] [(11,.nb [.sl (Is x8.1.shape),.sl (Its x8.1.items)])] [] A2 (by kernel_rfl) rfl ?_;refine dv (Ak (F9 g6) Tryz.call14) ?_;refine dv (Ey Ai Ab) ?_;refine dv (Ey Ai Ab) ?_;refine dv Ad ?_;refine dv (Ak (HP g7) Tryz.call12) ?_;refine dv ((Eg (Jj x7) (FA [x7]) HZ).deep) ?_;refine dv ((EO (OG [[x7]]) Su).deep) ?_;refine dv (VOK.tupd (vs:=[.ag [.sl (Is x8.1.shape),.sl (Its x8.1.items)],.i .i64 x8.2]) (Ak (NF g8) Tryz.call34)) ?_;refine dv Ad ?_;refine dv vex ?_;refine dv vex ?_;refine dv (van (Al AY) A4) ?_;refine dz ?_
 refine ⟨?_,?_,?_⟩
 ·intro k hk
  simp only [List.mem_cons,List.not_mem_nil,or_false] at hk
  subst hk
  exact ⟨_,_,_,rfl,rfl,rfl,rfl,rfl,rfl,vex⟩
 ·intro om e hom hge
  cases hom
  exact HK (cs:=[.sl (Is []),.sl (Its [])]) (cs':=[.sl (Is x8.1.shape),.sl (Its x8.1.items)]) Ab (by decide) rfl ((hge 11 (fun k hk v hv=>by
    simp only [List.mem_cons,List.not_mem_nil,or_false] at hk
    subst hk;exact (by decide:¬(some 57=some 11)) (congrArg (Option.map Prod.fst) hv))).trans rfl) ((congrArg Bl (hge 56 (fun k hk v hv=>by
    simp only [List.mem_cons,List.not_mem_nil,or_false] at hk
    subst hk;exact (by decide:¬(some 57=some 56)) (congrArg (Option.map Prod.fst) hv)))).trans rfl) rfl rfl rfl rfl ⟨rfl,rfl⟩
 refine ar [0,5,6,9,11,12] ?_;refine .seq ?_;refine .sr ?_;refine va ?_;refine vb ?_;refine rk [0,5,6,9,11,12,59] ?_
 rcases brc h with ⟨hc,h⟩|⟨hc,h⟩
 ·refine cnf (ntf (dT hc)) ?_
  refine .sk ?_;refine .seq ?_;refine .sr ?_;refine ar [0,5,6,9,11,13] ?_
  obtain ⟨K0,hK0,h⟩:=AA h
  refine AW.mr (σ:=Bool) (fun p=>K0 p=some r) (fun p=>[(6,.d (.b p))]) (fun p=>[]) ?_ ?_
  ·skip
   refine .block ?_
   refine .loop (.gk [0,5,6,9,11,13] ?_)
   refine AL.ind (σ:=Nat×Bool×Int) (m:=fun p=>p.1) (e:=fun p=>[(0,.d (.sl (Its a0))),(5,.d (.ptr [.i .u8 a2.kind,.b a2.num.1,.sl (L a2.num.2.1),.sl (L a2.num.2.2),.i .i32 a2.char,.sl (Ars a2.box)])),(6,.d (.b p.2.1)),(9,.d (.i .i64 (w64 ((Int.tmod (IntKind.wrap .i64 a1) ((List.length a0:Nat):Int))+1)))),(11,.nb [.sl (Is x8.1.shape),.sl (Its x8.1.items)]),(13,.d (.i .i64 p.2.2))]) (h:=fun p=>[]) (I:=fun p=>BB a0 a1 a2 x8 K0 p.1 p.2.1 p.2.2=some r) ?_ (Az,false,0) h
   rintro ⟨k,s10,s11⟩ h ih
   dsimp only at h ih ⊢
   rcases k with _|k
   ·rw [BB] at h;cases h
   rw [BB] at h
   refine .seq ?_;refine .sr ?_;refine va ?_;refine va ?_;refine vk (AR (Ap _) (Bv _) Br) ?_;refine vb ?_;refine rk [0,5,6,9,11,13,68] ?_
   rcases brc h with ⟨hc,h⟩|⟨hc,h⟩
   ·refine cnt (dT hc) ?_
    refine .sk ?_;refine .seq ?_;refine .block ?_;refine .sr ?_;refine va ?_;refine va ?_
    obtain ⟨x12,g12,h⟩:=bnd h
    obtain ⟨n12,p012,q12⟩:=Af g12
    refine vk (vix n12 p012 (BY q12) rfl BX) ?_;refine vk (Aq AX Au) ?_;refine vk (van (Al Co) Cm) ?_
    refine stn ?_ Au (by decide)
    refine rk [0,5,6,9,11,13,14] ?_;refine .seq ?_;refine .sr ?_;refine va ?_;refine va ?_;refine vb ?_;refine vb ?_;refine rk [0,5,6,9,11,13,14,78] ?_
    obtain ⟨K2,hK2,h⟩:=AA h
    refine AW.mr (σ:=Itm) (fun p=>K2 p=some r) (fun p=>[(0,.d (.sl (Its a0))),(5,.d (.ptr [.i .u8 a2.kind,.b a2.num.1,.sl (L a2.num.2.1),.sl (L a2.num.2.2),.i .i32 a2.char,.sl (Ars a2.box)])),(6,.d (.b s10)),(9,.d (.i .i64 (w64 ((Int.tmod (IntKind.wrap .i64 a1) ((List.length a0:Nat):Int))+1)))),(11,.nb [.sl (Is x8.1.shape),.sl (Its x8.1.items)]),(13,.d (.i .i64 s11)),(14,.nb [.i .u8 p.kind,.b p.num.1,.sl (L p.num.2.1),.sl (L p.num.2.2),.i .i32 p.char,.sl (Ars p.box)])]) (fun p=>[]) ?_ ?_
    ·skip
     rcases brc h with ⟨hc,h⟩|⟨hc,h⟩
     ·refine cnt (dT hc) ?_
      refine .region ?_;refine vk (Aq AX Au) ?_
      refine stn ?_ Au (by decide)
      refine RL.gk [0,5,6,9,11,13,14] ?_;refine .nil ?_
      exact jr (a2) h
     refine cnf (dF hc) ?_;refine .gk [0,5,6,9,11,13,14] ?_;refine .skip ?_
     exact jr (x12) h
    rintro z13 h
    try dsimp only at h ⊢
    subst hK2
    refine aw ?_;refine .seq ?_
    obtain ⟨x14,g14,h⟩:=bnd h
    obtain ⟨x15,g15,h⟩:=bnd h
    obtain ⟨x16,g16,h⟩:=bnd h
    refine .drawnF 12 [10] [(15,.nb [.sl (Is x16.1.shape),.sl (Its x16.1.items)])] [] A2 (by kernel_rfl) rfl ?_;refine dv (Ak (F9 g14) Tryz.call14) ?_;refine dv (Ey Ai Ab) ?_;refine dv Ad ?_;refine dv vbi ?_;refine dv (Ak (HP g15) Tryz.call12) ?_;refine dv ((Eg (Jj x15) (FA [x15]) HZ).deep) ?_;refine dv ((EO (OG [[x15]]) Su).deep) ?_;refine dv (VOK.tupd (vs:=[.ag [.sl (Is x16.1.shape),.sl (Its x16.1.items)],.i .i64 x16.2]) (Ak (RC g16) Tryz.call20)) ?_;refine dv Ad ?_;refine dv vex ?_;refine dv vex ?_;refine dv (van (Al AY) A4) ?_;refine dz ?_
    refine ⟨?_,?_,?_⟩
    ·intro k hk
     simp only [List.mem_cons,List.not_mem_nil,or_false] at hk
     subst hk
     exact ⟨_,_,_,rfl,rfl,rfl,rfl,rfl,rfl,vex⟩
    ·intro om e hom hge
     cases hom
     exact HK (cs:=[.sl (Is []),.sl (Its [])]) (cs':=[.sl (Is x16.1.shape),.sl (Its x16.1.items)]) Ab (by decide) rfl ((hge 15 (fun k hk v hv=>by
       simp only [List.mem_cons,List.not_mem_nil,or_false] at hk
       subst hk;exact (by decide:¬(some 90=some 15)) (congrArg (Option.map Prod.fst) hv))).trans rfl) ((congrArg Bl (hge 89 (fun k hk v hv=>by
       simp only [List.mem_cons,List.not_mem_nil,or_false] at hk
       subst hk;exact (by decide:¬(some 90=some 89)) (congrArg (Option.map Prod.fst) hv)))).trans rfl) rfl rfl rfl rfl ⟨rfl,rfl⟩
    refine ar [0,5,6,9,11,13,14,15,16] ?_;refine .seq ?_;refine .gh (Gh.nbp (t:=15) rfl) ?_
    obtain ⟨z17,hz,h⟩:=bnd h
    refine AW.mr (σ:=Unit) (fun _=>True) (fun _=>[(0,.d (.sl (Its a0))),(5,.d (.ptr [.i .u8 a2.kind,.b a2.num.1,.sl (L a2.num.2.1),.sl (L a2.num.2.2),.i .i32 a2.char,.sl (Ars a2.box)])),(6,.d (.b s10)),(9,.d (.i .i64 (w64 ((Int.tmod (IntKind.wrap .i64 a1) ((List.length a0:Nat):Int))+1)))),(11,.nb [.sl (Is x8.1.shape),.sl (Its x8.1.items)]),(13,.d (.i .i64 s11)),(107,.d (.b z17))]) (fun _=>[]) ?_ ?_
    ·skip
     refine .drawn 17 A2 (by kernel_rfl) ?_;refine dv Ad ?_;refine dv vbi ?_
     rcases brc hz with ⟨hc,hz⟩|⟨hc,hz⟩
     ·have hb0:(!(decide (x16.2=0)))=false:=(ntf (dT hc))
      refine dv (VOK.lit (Ad) hb0) ?_;refine dv (vfa AM) ?_;refine dv (Ah Bo) ?_;refine dv (AR (Ap _) (Bv _) Br) ?_;refine dv vbi ?_;refine dv Aj ?_
      rcases brc hz with ⟨hc,hz⟩|⟨hc,hz⟩
      ·have hb1:(!(decide (((List.length x16.1.items:Nat):Int)=1)))=false:=(ntf (dT hc))
       refine dv (VOK.lit (Ad) hb1) ?_;refine dv (vfa AM) ?_;refine dv (Ah Bo) ?_
       obtain ⟨x18,g18,hz⟩:=bnd hz
       obtain ⟨n18,p018,q18⟩:=Af g18
       refine dv (vix n18 p018 (BY q18) rfl BX) ?_;refine dv (Aq AX Au) ?_;refine dv (Ey AX Au) ?_
       obtain ⟨x19,g19,hz⟩:=bnd hz
       refine dv (Ak (Kj g19) Tryz.call27) ?_;refine dv vnt ?_;refine dv Aj ?_;refine dz ?_;refine RL.gk [0,5,6,9,11,13,107] ?_;refine .nil ?_
       cases hz
       exact jr () trivial
      have hb1:(!(decide (((List.length x16.1.items:Nat):Int)=1)))=true:=(ntt (dF hc))
      refine dv (VOK.lit (Ad) hb1) ?_;refine dgf ?_;refine dgf ?_;refine dgf ?_;refine dgf ?_;refine dgf ?_;refine dgf ?_;refine dgf ?_;refine dv Aj ?_;refine dz ?_;refine RL.gk [0,5,6,9,11,13,107] ?_;refine .nil ?_
      cases hz
      exact jr () trivial
     have hb0:(!(decide (x16.2=0)))=true:=(ntt (dF hc))
     refine dv (VOK.lit (Ad) hb0) ?_;refine dgf ?_;refine dgf ?_;refine dgf ?_;refine dgf ?_;refine dv Aj ?_;refine dv Ad ?_;refine dgf ?_;refine dgf ?_;refine dgf ?_;refine dgf ?_;refine dgf ?_;refine dgf ?_;refine dgf ?_;refine dv Aj ?_;refine dz ?_;refine RL.gk [0,5,6,9,11,13,107] ?_;refine .nil ?_
     cases hz
     exact jr () trivial
    rintro _ _
    rcases brc h with ⟨hc,h⟩|⟨hc,h⟩
    ·refine cnt hc ?_
     refine .sr ?_;refine ar [0,5,6,9,11,13] ?_;refine .ret ?_
     cases h
     exact ⟨rfl,rfl⟩
    refine cnf (bf hc) ?_;refine .sk ?_;refine .region ?_;refine va ?_;refine vb ?_;refine asd ?_;refine .nil ?_;refine AL.gk [0,5,6,9,11,13] ?_
    exact ih (k,s10,(w64 (s11+1))) h (Nat.lt_succ_self _)
   refine cnf (dF hc) ?_;refine .gk [6] ?_;refine .exit ?_
   exact jr (s10) h
  rintro z9 h
  try dsimp only at h ⊢
  subst hK0
  refine aw ?_;refine .sr ?_
  obtain ⟨x20,g20,h⟩:=bnd h
  refine vk (Ak (Hb g20) Tryz.call16) ?_;refine ar [6] ?_;refine .ret ?_
  cases h
  exact ⟨rfl,rfl⟩
 refine cnt (ntt (dF hc)) ?_;refine .seq ?_
 obtain ⟨x21,g21,h⟩:=bnd h
 refine AW.mr (σ:=Unit) (fun _=>True) (fun _=>[(0,.d (.sl (Its a0))),(5,.d (.ptr [.i .u8 a2.kind,.b a2.num.1,.sl (L a2.num.2.1),.sl (L a2.num.2.2),.i .i32 a2.char,.sl (Ars a2.box)])),(6,.d (.b (x21&&(decide (x8.2=8))))),(9,.d (.i .i64 (w64 ((Int.tmod (IntKind.wrap .i64 a1) ((List.length a0:Nat):Int))+1)))),(11,.nb [.sl (Is x8.1.shape),.sl (Its x8.1.items)])]) (fun _=>[]) ?_ ?_
 ·skip
  refine .region ?_;refine vk (Ak (Hb g21) Tryz.call16) ?_
  by_cases hc:x21=true
  ·have hb0:x21=true:=hc
   refine vL hb0 ?_;refine va ?_;refine vb ?_;refine vk Aj ?_;refine asd ?_;refine RL.gk [0,5,6,9,11] ?_;refine .nil ?_
   exact jr () trivial (by simp only [hb0];rfl)
  have hb0:x21=false:=(bf hc)
  refine vL hb0 ?_;refine gf2 ?_;refine vk Aj ?_;refine asd ?_;refine RL.gk [0,5,6,9,11] ?_;refine .nil ?_
  exact jr () trivial (by simp only [hb0];rfl)
 rintro _ _
 refine .ret ?_
 cases h
 exact ⟨rfl,rfl⟩
theorem Y0 : EH=some (1,(false,[],[]),0):=rfl
theorem N4 {l:List Itm} {v:VR l} {y:Itm} {a1:Int} {k:Nat} (hk:w64 (w64 (Int.tmod (IntKind.wrap .i64 a1) ((List.length l:Nat) : Int)+1)-1)=(k:Int)) (w:VR (l.set k y)) (h2:l.length≤4096) (K:Bool→Option Bool) (hK:∀ s,K s=some true) : ∀ (n i f:Nat) (s:Bool),n=l.length-i→i≤l.length→n<f →
  BB l a1 y (vec (l.set k y),0) K f s (i:Int)=some true
 | n,i,0,s,_,_,h=>by omega
 | n,i,f+1,s,hn,hi,hf=>by
  rw [BB]
  by_cases hlt:i<l.length
  ·have hlt':i<(l.set k y).length:=by rw [List.length_set];exact hlt
   have e1:w64 ((i:Int)+1)=(i:Int)+1:=by rw [B6 (by omega)];omega
   have hio:okI (l.set k y)[i]:=w.2.2.1 _ (List.getElem_mem hlt')
   rw [if_pos (by omega),BO hlt,oB,BW,hk,e1]
   have rest:∀ z,z=(l.set k y)[i]→(EH.bind fun x14=>((EE ((i:Int)+1)).bind fun x15=>((GP x14 (vec (l.set k y),(0:Int)).1 ([[x15]])).bind fun x16=>(Option.bind ((if x16.2=0 then (if ((List.length x16.1.items:Nat):Int)=1 then ((rd? x16.1.items 0).bind fun x18=>((CH x18 z).bind fun x19=>(some (!x19)))) else (some true)) else (some true)):Option (Bool)) fun (z17:Bool)=>(if z17=true then (some (false)) else (BB l a1 y (vec (l.set k y),0) K f s ((i:Int)+1)))))))=some true:=by
    rintro z rfl
    rw [Y0,oB,VH ⟨by omega,by omega⟩,oB,WZ w hlt',oB,if_pos rfl,if_pos (show ((List.length (Arr.mk [] [(l.set k y)[i]]).items:Nat):Int)=1 from rfl),show rd? (Arr.mk [] [(l.set k y)[i]]).items 0=some (l.set k y)[i] from rfl,oB,(Qj hio).yes rfl,oB,oB,if_neg (by decide)]
    have:=N4 (v:=v) hk w h2 K hK (n-1) (i+1) f s (by omega) (by omega) (by omega)
    rw [show ((i+1:Nat):Int)=(i:Int)+1 by omega] at this
    exact this
   by_cases hik:(i:Int)=(k:Int)
   ·have hik':i=k:=by omega
    rw [if_pos hik]
    refine rest y ?_
    subst hik';simp
   ·have hik':¬k=i:=by omega
    rw [if_neg hik]
    refine rest l[i] ?_
    rw [List.getElem_set_ne hik']
  ·rw [if_neg (by omega),hK]
theorem Q4 {l:List Itm} {a:Int} {y:Itm} (hl:l.length≤1466015503701∧∀ x∈l,okI x) (ha:(Lit.int .u8 a).wf=true) (oy:okI y) : EZ l a y=some true:=by
 obtain ⟨b,rfl,hb⟩:∃ b:Nat,a=(b:Int)∧b≤255:=by
  simp [Lit.wf,IntKind.min,IntKind.max,IntKind.signed,IntKind.bits] at ha
  exact ⟨a.toNat,by omega,by omega⟩
 have hmk:∃ r e,AT [((List.length l:Nat):Int)] l=some (r,e):=⟨_,_,HV (fun z hz=>by rw [List.mem_singleton] at hz;omega) (by simp) hl.1 hl.2⟩
 obtain ⟨r,e,hr⟩:=hmk
 unfold EZ
 rw [hr,oB,Vi]
 dsimp only
 by_cases h0:e=0
 rotate_left
 ·rw [if_neg h0];rfl
 subst h0
 obtain ⟨v,rfl⟩:=SF hl.2 hl.1 hr
 have h2:=v.2.1
 have hp:=v.pos
 rw [if_pos rfl,if_neg (by omega),W4 oy,oB,oB]
 by_cases hf:Bc (.mk [] [y])
 rotate_left
 ·rw [if_pos (by simp [hf])];rfl
 rw [if_neg (by simp [hf]),UN (by omega),oB,Y0,oB]
 have hk0:Int.tmod (IntKind.wrap .i64 (b:Int)) ((List.length l:Nat):Int)=((b % l.length:Nat):Int):=by
  rw [show IntKind.wrap .i64 (b:Int)=(b:Int) from IR (by omega) (by omega)];rfl
 have hklt:b % l.length<l.length:=Nat.mod_lt _ hp
 generalize hkk:b % l.length=k at hk0 hklt
 have e1:w64 ((k:Int)+1)=(k:Int)+1:=by rw [B6 (by omega)];omega
 have hk:w64 (w64 (Int.tmod (IntKind.wrap .i64 (b:Int)) ((List.length l:Nat):Int)+1)-1)=(k:Int):=by
  rw [hk0,e1,CN (by omega) (by omega)];omega
 have hm2:∀ x∈l.set k y,okI x:=fun x hx=>by
  rcases List.mem_or_eq_of_mem_set hx with h|h
  ·exact hl.2 x h
  ·subst h;exact oy
 have ry:CK y:=(GM (OU oy) hf (x:=y) (by simp [Arr.items])).2
 rw [hk0,e1,VH ⟨by omega,by omega⟩,oB]
 have hlen:(l.set k y).length=l.length:=List.length_set
 have hM:=HV (s:=[((l.set k y).length:Int)]) (xs:=l.set k y) (fun z hz=>by rw [List.mem_singleton] at hz;omega) (by simp) (by omega) hm2
 rw [Kv (by omega),if_neg (by simp),if_neg (by
  rintro (q|q)
  ·have:=congrArg List.length q;rw [List.length_nil] at this;omega
  ·refine q fun x hx=>?_
   rcases List.mem_or_eq_of_mem_set hx with h|h
   ·exact (v.items x h).2
   ·subst h;exact ry)] at hM
 by_cases hR:Bc (.mk [((l.set k y).length:Int)] (Ck (((l.set k y).length:Nat):Int) (l.set k y)))
 ·rw [if_pos hR,F5 rfl (by omega)] at hM
  obtain ⟨w,_⟩:=SF hm2 (by omega) hM
  have hP:=UW v oy hf hklt (by rw [hlen] at hM;exact hM)
  rw [hP,oB,if_pos rfl,BW]
  have:=N4 (v:=v) hk w h2 (fun _=>Ex.bind fun x20=>some x20) (fun _=>by rw [Vi];rfl) l.length 0 Az false rfl (Nat.zero_le _) (B0 (by omega))
  rw [show ((0:Nat):Int)=0 from rfl] at this
  rw [Vi] at this
  have ev:Arr.mk [(l.length:Int)] (l.set k y)=vec (l.set k y):=by unfold vec;rw [hlen]
  rw [ev]
  exact this
 ·rw [if_neg hR] at hM
  have hP:=UW v oy hf hklt (by rw [hlen] at hM;exact hM)
  rw [hP,oB,if_neg (by decide)]
  rfl
end Go.FL
namespace Go.Proofs.YtjmalfcinmmekaaGreat.pickPuts
open Go.ChangeShapes Go.WideShapes Go.ChangeAt Go.RowKit Go.FL
theorem own : ownKnob Tryz.prog.godebug=none:=by kernel_rfl
theorem laid : laidOutB Tryz.prog=true:=by kernel_rfl
theorem params : ∀ t∈Tryz.f11.params.toList,Tryz.prog.readableRec t=true∧t<Tryz.prog.types.size:=by
 intro t ht
 simp only [Tryz.params11,List.mem_cons,List.not_mem_nil,or_false] at ht
 rcases ht with rfl|rfl|rfl<;>exact ⟨by kernel_rfl,of_decide_eq_true (by kernel_rfl)⟩
set_option maxRecDepth 100000 in
theorem lifted (os:Os) (started:os.Started) (H:Type) (enc:TypeId×Value→H) :
  ReturnsInHanded {} Tryz.checked os 11 .any (Rows.pickPutsSpec.pre6 enc Tryz.prog Tryz.f11 Rows.pickPutsRow.domain false) (Rows.pickPutsSpec.post enc Tryz.prog Tryz.f11 false true false false):=by
 refine returnsInHanded_of_change_sized (C:=Tryz.checked) own started (by kernel_rfl) Tryz.func11
  (ChangeSpec.witness6 (enc:=enc) (C:=Tryz.checked) false ⟨#[],#[.slice none 0 0,.int .u8 0,.agg #[.int .u8 0,.bool false,.slice none 0 0,.slice none 0 0,.int .i32 0,.slice none 0 0]],[]⟩ 8 (by kernel_rfl) (by kernel_rfl) (by kernel_rfl) (by kernel_rfl)) ?_
 intro W base args ds gs before hval0 hW hcnd hsz _
 have hval:∀ (j:Nat) t v,Tryz.f11.params[j]?=some t→args[j]?=some v→Value.okWide Tryz.prog W .any base t v:=hval0
 have hW':=hW
 obtain ⟨p,q,hA0,hV,rfl,hfz,hnd⟩:=hW
 have hA:DataW.TrodAll enc Tryz.prog W 0 (fun _=>true) true Tryz.f11.params.toList args.toList ds p:=hA0
 rw [Tryz.params11] at hA hval
 obtain ⟨v0,vs0,d0,ds0,p0,q0,hargs,rfl,rfl,h0,r0⟩:=trodAll_cons hA
 obtain ⟨v1,vs1,d1,ds1,p1,q1,rfl,rfl,rfl,h1,r1⟩:=trodAll_cons r0
 obtain ⟨v2,vs2,d2,ds2,p2,q2,rfl,rfl,rfl,h2,r2⟩:=trodAll_cons r1
 obtain ⟨rfl,rfl,rfl⟩:=trodAll_nil r2
 obtain rfl:args=#[v0,v1,v2]:=by cases args;simp_all
 obtain ⟨rfl,rfl⟩:=trodVars_none hV
 rw [Tryz.params11] at hsz
 have w0:∀ m∈DataW.weights Tryz.prog 25 d0,m≤reachBytes:=fun m hm=>by simpa using List.all_eq_true.1 hsz m (DataW.weights_mem_each (j:=0) rfl rfl m hm)
 obtain ⟨a0,o0,e0⟩:=Uh (v:=v0) U4 (by obtain ⟨x0,x1,x2,rfl⟩:=okWide_slice Tryz.underlying25 (hval 0 25 v0 rfl rfl);rfl) h0 w0
 have w1:∀ m∈DataW.weights Tryz.prog 5 d1,m≤reachBytes:=fun m hm=>by simpa using List.all_eq_true.1 hsz m (DataW.weights_mem_each (j:=1) rfl rfl m hm)
 obtain ⟨a1,o1,e1⟩:=WC (by kernel_rfl:Tryz.prog.underlying 5=some (.int .u8)) (hval 1 5 v1 rfl rfl) h1
 have w2:∀ m∈DataW.weights Tryz.prog 51 d2,m≤reachBytes:=fun m hm=>by simpa using List.all_eq_true.1 hsz m (DataW.weights_mem_each (j:=2) rfl rfl m hm)
 obtain ⟨a2,o2,e2⟩:=V9 (v:=v2) WI (let ⟨cs,h,_⟩:=okWide_struct (P:=Tryz.prog) Tryz.underlying51 (hval 2 51 v2 rfl rfl);⟨cs,h⟩) h2 w2
 refine (TD (Kc (Q4 o0 o1 o2)) (.cons e0 (.cons e1 (.cons e2 .nil)))).mono fun e W' ⟨he,hb⟩=>?_
 subst he
 exact ⟨_,rfl,Vl hW' rfl (fun _=>rfl) rfl Tryz.underlying4 laid params hb⟩
theorem over : Rows.pickPutsRow.holds Tryz.pinned (OpenSpec.ofChange Rows.pickPutsSpec) :=
 OpenClaim.holds_of_wide 11 Tryz.f11 rfl rfl rfl rfl rfl rfl rfl ⟨rfl,rfl,rfl,rfl,rfl⟩ rfl rfl rfl rfl rfl (by kernel_rfl) Tryz.func11 (by kernel_rfl)
  (of_decide_eq_true (by kernel_rfl)) (by unfold Func.isWrapper;first|(rw [if_pos (by decide +kernel)];kernel_rfl)|(rw [if_neg (by decide +kernel)];exact ⟨rfl,rfl⟩))
  (fun os started H enc _=>lifted os started H enc)
theorem proved : Rows.PickPutsSaid :=
 over
end Go.Proofs.YtjmalfcinmmekaaGreat.pickPuts
