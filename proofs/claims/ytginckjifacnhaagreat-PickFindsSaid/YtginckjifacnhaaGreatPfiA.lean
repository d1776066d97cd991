/-
  The law: its function printed as a pure function, its contract, the plain law, the statement
-/
import Derived.Test.YtginckjifacnhaaGreatPfF
import Derived.Test.YtginckjifacnhaaGreatRows
set_option linter.unusedVariables false
namespace Go.FL
open Go Go.Proofs
def BE (a0:(List Itm)) (a1:(List Itm)) (x5:Arr×Int) (x7:Arr×Int) (K0:Bool→Option (Bool)) : Nat→Bool→Int→Option (Bool)
 | 0,_,_=>none
 | k+1,s9,s10=>(if s10<((List.length a1:Nat):Int) then ((rd? x5.1.items s10).bind fun x11=>((Ej x11).bind fun x12=>((EA x12).bind fun x13=>((rd? x7.1.items s10).bind fun x14=>((Ej x14).bind fun x15=>((EA x15).bind fun x16=>(Option.bind ((if x13.2=true then (if x16.2=true then (if ((decide (x16.1=1)) != (decide (x13.1≤((List.length a0:Nat):Int))))=true then (some true) else (if x16.1=1 then ((rd? a0 (w64 (x13.1-1))).bind fun x18=>((rd? a1 s10).bind fun x19=>((C0 x18 x19).bind fun x20=>(some (!x20))))) else (some false))) else (some true)) else (some true)):Option (Bool)) fun (z17:Bool)=>(if z17=true then (some (false)) else (BE a0 a1 x5 x7 K0 k s9 (w64 (s10+1))))))))))) else (K0 s9))
def Ed (a0:(List Itm)) (a1:(List Itm)) : Option (Bool):=((Bi ([((List.length a0:Nat) : Int)]) a0).bind fun x1=>((Bi ([((List.length a1:Nat) : Int)]) a1).bind fun x2=>(if ((!(decide (x1.2=0)))||(!(decide (x2.2=0))))=true then (Gc.bind fun x3=>(some (x3))) else (E7.bind fun x4=>((CJ x4 9075 x1.1 x2.1).bind fun x5=>(E7.bind fun x6=>((CJ x6 8714 x2.1 x1.1).bind fun x7=>(if ((!(decide (x5.2=0)))||((!(decide (x7.2=0)))||((!(decide (((List.length x5.1.items:Nat) : Int)=((List.length a1:Nat) : Int))))||(!(decide (((List.length x7.1.items:Nat) : Int)=((List.length a1:Nat) : Int)))))))=true then (some (false)) else (jn (fun (z8:Bool)=>(Gc.bind fun x21=>(some (x21)))) fun K0=>(BE a0 a1 x5 x7 K0 AH false 0))))))))))
set_option maxHeartbeats 4000000 in
theorem JA {a0:(List Itm)} {a1:(List Itm)} {r:Bool} (h:Ed a0 a1=some r) :
  Fn Tryz.prog 4 [.sl (Its a0),.sl (Its a1)] (.d (.b r)):=by
 unfold Ed at h
 refine Fn.o1 4 136 Tryz.func4 ?_;refine .sr<|kR [0,1,4] zj<|.sr<|kA zj<|kK (AX (Ai _) (Bg _) Ba)<|kK ((GN (Fc [((List.length a0:Nat):Int)]) Gt).deep)<|kA zj ?_
 obtain ⟨x1,g1,h⟩:=bnd h
 refine kK (VOK.tupd (vs:=[.ag [.sl (Is x1.1.shape),.sl (Its x1.1.items)],.i .i64 x1.2]) (Ag (Fd g1) Tryz.call5))<|kA zj<|kK vex<|kK vex<|kK (van (Ae AP) AZ) ?_
 refine stn ?_ Ad (by decide)
 refine kR [0,1,4,5,6] zj<|.sr<|kA zj<|kK (AX (Ai _) (Bg _) Ba)<|kK ((GN (Fc [((List.length a1:Nat):Int)]) Gt).deep)<|kA zj ?_
 obtain ⟨x2,g2,h⟩:=bnd h
 refine kK (VOK.tupd (vs:=[.ag [.sl (Is x2.1.shape),.sl (Its x2.1.items)],.i .i64 x2.2]) (Ag (Fd g2) Tryz.call5))<|kA zj<|kK vex<|kK vex<|kK (van (Ae AP) AZ) ?_
 refine stn ?_ Ad (by decide)
 refine kR [0,1,4,5,6,7,8] zj<|.seq<|.seq<|AW.mr (σ:=Unit) (fun _=>True) (fun _=>[(0,.d (.sl (Its a0))),(1,.d (.sl (Its a1))),(4,.d (.b false)),(5,.nb [.sl (Is x1.1.shape),.sl (Its x1.1.items)]),(7,.nb [.sl (Is x2.1.shape),.sl (Its x2.1.items)]),(39,.d (.b ((!(decide (x1.2=0)))||(!(decide (x2.2=0))))))]) (fun _=>[]) ?_ ?_
 ·skip
  refine .region<|kA zj<|kB zj ?_
  by_cases hc:x1.2=0
  ·have hb0:(!(decide (x1.2=0)))=false:=(ntf (dT hc))
   refine kC zj hb0<|kA zj<|kB zj<|kK Ao<|RL.gk [0,1,4,5,7,39]<|.nil ?_
   exact jr () trivial (by simp only [hb0];rfl)
  have hb0:(!(decide (x1.2=0)))=true:=(ntt (dF hc))
  refine kC zj hb0<|gf2 ?_;refine kK Ao<|RL.gk [0,1,4,5,7,39]<|.nil ?_
  exact jr () trivial (by simp only [hb0];rfl)
 rintro _ _
 rcases brc h with ⟨hc,h⟩|⟨hc,h⟩
 ·refine cnt hc ?_
  refine .sr ?_
  obtain ⟨x3,g3,h⟩:=bnd h
  refine kK (Ag (Ji g3) Tryz.call6)<|kR [0,1,4,5,7] zj<|.ret ?_
  cases h
  exact ⟨rfl,rfl⟩
 refine cnf (bf hc) ?_;refine .sk ?_;refine .seq ?_
 obtain ⟨x4,g4,h⟩:=bnd h
 obtain ⟨x5,g5,h⟩:=bnd h
 refine .drawnF 8 [6] [(9,.nb [.sl (Is x5.1.shape),.sl (Its x5.1.items)])] [] AS (by kernel_rfl) rfl ?_;refine kV (Ag (FM g4) Tryz.call8)<|kV (Dv Ah Ad)<|kV (Dv Ah Ad)<|kV (VOK.tupd (vs:=[.ag [.sl (Is x5.1.shape),.sl (Its x5.1.items)],.i .i64 x5.2]) (Ag (Gf g5) Tryz.call9))<|kV Ac<|kV vex<|kV vex<|kV (van (Ae AP) AZ)<|dz ?_
 refine ⟨?_,?_,?_⟩
 ·intro k hk
  simp only [List.mem_cons,List.not_mem_nil,or_false] at hk
  subst hk
  exact ⟨_,_,_,rfl,rfl,rfl,rfl,rfl,rfl,vex⟩
 ·intro om e hom hge
  cases hom
  exact HE (cs:=[.sl (Is []),.sl (Its [])]) (cs':=[.sl (Is x5.1.shape),.sl (Its x5.1.items)]) Ad (by decide) rfl ((hge 9 (fun k hk v hv=>by
    simp only [List.mem_cons,List.not_mem_nil,or_false] at hk
    subst hk;exact (by decide:¬(some 47=some 9)) (congrArg (Option.map Prod.fst) hv))).trans rfl) ((congrArg A0 (hge 46 (fun k hk v hv=>by
    simp only [List.mem_cons,List.not_mem_nil,or_false] at hk
    subst hk;exact (by decide:¬(some 47=some 46)) (congrArg (Option.map Prod.fst) hv)))).trans rfl) rfl rfl rfl rfl ⟨rfl,rfl⟩
 refine kR [0,1,4,5,7,9,10] zj<|.seq ?_
 obtain ⟨x6,g6,h⟩:=bnd h
 obtain ⟨x7,g7,h⟩:=bnd h
 refine .drawnF 8 [6] [(11,.nb [.sl (Is x7.1.shape),.sl (Its x7.1.items)])] [] AS (by kernel_rfl) rfl ?_;refine kV (Ag (FM g6) Tryz.call8)<|kV (Dv Ah Ad)<|kV (Dv Ah Ad)<|kV (VOK.tupd (vs:=[.ag [.sl (Is x7.1.shape),.sl (Its x7.1.items)],.i .i64 x7.2]) (Ag (Gf g7) Tryz.call9))<|kV Ac<|kV vex<|kV vex<|kV (van (Ae AP) AZ)<|dz ?_
 refine ⟨?_,?_,?_⟩
 ·intro k hk
  simp only [List.mem_cons,List.not_mem_nil,or_false] at hk
  subst hk
  exact ⟨_,_,_,rfl,rfl,rfl,rfl,rfl,rfl,vex⟩
 ·intro om e hom hge
  cases hom
  exact HE (cs:=[.sl (Is []),.sl (Its [])]) (cs':=[.sl (Is x7.1.shape),.sl (Its x7.1.items)]) Ad (by decide) rfl ((hge 11 (fun k hk v hv=>by
    simp only [List.mem_cons,List.not_mem_nil,or_false] at hk
    subst hk;exact (by decide:¬(some 54=some 11)) (congrArg (Option.map Prod.fst) hv))).trans rfl) ((congrArg A0 (hge 53 (fun k hk v hv=>by
    simp only [List.mem_cons,List.not_mem_nil,or_false] at hk
    subst hk;exact (by decide:¬(some 54=some 53)) (congrArg (Option.map Prod.fst) hv)))).trans rfl) rfl rfl rfl rfl ⟨rfl,rfl⟩
 refine kR [0,1,4,9,10,11,12] zj<|.seq<|.seq<|.gh (Gh.nbp (t:=9) rfl)<|.gh (Gh.nbp (t:=11) rfl)<|AW.mr (σ:=Unit) (fun _=>True) (fun _=>[(0,.d (.sl (Its a0))),(1,.d (.sl (Its a1))),(4,.d (.b false)),(9,.d (.ptr [.sl (Is x5.1.shape),.sl (Its x5.1.items)])),(11,.d (.ptr [.sl (Is x7.1.shape),.sl (Its x7.1.items)])),(76,.d (.b ((!(decide (x5.2=0)))||((!(decide (x7.2=0)))||((!(decide (((List.length x5.1.items:Nat):Int)=((List.length a1:Nat):Int))))||(!(decide (((List.length x7.1.items:Nat):Int)=((List.length a1:Nat):Int)))))))))]) (fun _=>[]) ?_ ?_
 ·skip
  refine .region<|kA zj<|kB zj ?_
  by_cases hc:x5.2=0
  ·have hb0:(!(decide (x5.2=0)))=false:=(ntf (dT hc))
   refine kC zj hb0<|kA zj<|kB zj<|kK Ao ?_
   by_cases hc:x7.2=0
   ·have hb1:(!(decide (x7.2=0)))=false:=(ntf (dT hc))
    refine kC zj hb1<|kK (vfa AM)<|kK (Al Bl)<|kK (AX (Ai _) (Bg _) Ba)<|kA zj<|kK (AX (Ai _) (Bg _) Ba)<|kB zj<|kK Ao ?_
    by_cases hc:((List.length x5.1.items:Nat):Int)=((List.length a1:Nat):Int)
    ·have hb2:(!(decide (((List.length x5.1.items:Nat):Int)=((List.length a1:Nat):Int))))=false:=(ntf (dT hc))
     refine kC zj hb2<|kK (vfa AM)<|kK (Al Bl)<|kK (AX (Ai _) (Bg _) Ba)<|kA zj<|kK (AX (Ai _) (Bg _) Ba)<|kB zj<|kK Ao<|RL.gk [0,1,4,9,11,76]<|.nil ?_
     exact jr () trivial (by simp only [hb0,hb1,hb2];rfl)
    have hb2:(!(decide (((List.length x5.1.items:Nat):Int)=((List.length a1:Nat):Int))))=true:=(ntt (dF hc))
    refine kC zj hb2<|gf4 ?_;refine gf2 ?_;refine kK Ao<|RL.gk [0,1,4,9,11,76]<|.nil ?_
    exact jr () trivial (by simp only [hb0,hb1,hb2];rfl)
   have hb1:(!(decide (x7.2=0)))=true:=(ntt (dF hc))
   refine kC zj hb1<|gf4 ?_;refine gf2 ?_;refine kK Ao<|kA zj<|gf4 ?_;refine gf2 ?_;refine kK Ao<|RL.gk [0,1,4,9,11,76]<|.nil ?_
   exact jr () trivial (by simp only [hb0,hb1];rfl)
  have hb0:(!(decide (x5.2=0)))=true:=(ntt (dF hc))
  refine kC zj hb0<|gf2 ?_;refine kK Ao<|kA zj<|gf4 ?_;refine gf2 ?_;refine kK Ao<|kA zj<|gf4 ?_;refine gf2 ?_;refine kK Ao<|RL.gk [0,1,4,9,11,76]<|.nil ?_
  exact jr () trivial (by simp only [hb0];rfl)
 rintro _ _
 rcases brc h with ⟨hc,h⟩|⟨hc,h⟩
 ·refine cnt hc ?_
  refine .sr<|kR [0,1,4,9,11] zj<|.ret ?_
  cases h
  exact ⟨rfl,rfl⟩
 refine cnf (bf hc) ?_;refine .sk ?_;refine .seq<|.sr<|kR [0,1,4,9,11,13] zj ?_
 obtain ⟨K0,hK0,h⟩:=A1 h
 refine AW.mr (σ:=Bool) (fun p=>K0 p=some r) (fun p=>[(4,.d (.b p))]) (fun p=>[]) ?_ ?_
 ·skip
  refine .block ?_
  refine .loop (.gk [0,1,4,9,11,13] ?_)
  refine AL.ind (σ:=Nat×Bool×Int) (m:=fun p=>p.1) (e:=fun p=>[(0,.d (.sl (Its a0))),(1,.d (.sl (Its a1))),(4,.d (.b p.2.1)),(9,.d (.ptr [.sl (Is x5.1.shape),.sl (Its x5.1.items)])),(11,.d (.ptr [.sl (Is x7.1.shape),.sl (Its x7.1.items)])),(13,.d (.i .i64 p.2.2))]) (h:=fun p=>[]) (I:=fun p=>BE a0 a1 x5 x7 K0 p.1 p.2.1 p.2.2=some r) ?_ (AH,false,0) h
  rintro ⟨k,s9,s10⟩ h ih
  dsimp only at h ih ⊢
  rcases k with _|k
  ·rw [BE] at h;cases h
  rw [BE] at h
  refine .seq<|.sr<|kA zj<|kA zj<|kK (AX (Ai _) (Bg _) Ba)<|kB zj<|rk [0,1,4,9,11,13,80] ?_
  rcases brc h with ⟨hc,h⟩|⟨hc,h⟩
  ·refine cnt (dT hc) ?_
   refine .sk ?_;refine .seq<|.block<|.sr<|kK (vfa AM)<|kK (Al Bl)<|kA zj ?_
   obtain ⟨x11,g11,h⟩:=bnd h
   obtain ⟨n11,p011,q11⟩:=Aq g11
   refine kK (vix n11 p011 (BC q11) rfl Bs)<|kK (Ap AE Am) ?_
   obtain ⟨x12,g12,h⟩:=bnd h
   refine vk (Ag (Jl g12) Tryz.call15) ?_
   obtain ⟨x13,g13,h⟩:=bnd h
   refine kK (VOK.tupd (vs:=[.i .i64 x13.1,.b x13.2]) (Ag (IG g13) Tryz.call14))<|kA zj<|kK vex<|kK vex<|kD zj<|kR [0,1,4,9,11,13,14,15] zj<|.sr<|kK (vfa AM)<|kK (Al Bl)<|kA zj ?_
   obtain ⟨x14,g14,h⟩:=bnd h
   obtain ⟨n14,p014,q14⟩:=Aq g14
   refine kK (vix n14 p014 (BC q14) rfl Bs)<|kK (Ap AE Am) ?_
   obtain ⟨x15,g15,h⟩:=bnd h
   refine vk (Ag (Jl g15) Tryz.call15) ?_
   obtain ⟨x16,g16,h⟩:=bnd h
   refine kK (VOK.tupd (vs:=[.i .i64 x16.1,.b x16.2]) (Ag (IG g16) Tryz.call14))<|kA zj<|kK vex<|kK vex<|kD zj<|kR [0,1,4,9,11,13,14,15,16,17] zj<|.seq ?_
   obtain ⟨z17,hz,h⟩:=bnd h
   refine AW.mr (σ:=Unit) (fun _=>True) (fun _=>[(0,.d (.sl (Its a0))),(1,.d (.sl (Its a1))),(4,.d (.b s9)),(9,.d (.ptr [.sl (Is x5.1.shape),.sl (Its x5.1.items)])),(11,.d (.ptr [.sl (Is x7.1.shape),.sl (Its x7.1.items)])),(13,.d (.i .i64 s10)),(134,.d (.b z17))]) (fun _=>[]) ?_ ?_
   ·skip
    refine .drawn 32 AS (by kernel_rfl) ?_;refine kV Ac<|kV vnt ?_
    rcases brc hz with ⟨hc,hz⟩|⟨hc,hz⟩
    ·have hb0:(!x13.2)=false:=(ntf hc)
     refine kV (VOK.lit (Ac) hb0)<|kV Ac<|kV vnt<|kV Ao ?_
     rcases brc hz with ⟨hc,hz⟩|⟨hc,hz⟩
     ·have hb1:(!x16.2)=false:=(ntf hc)
      refine kV (VOK.lit (Ac) hb1)<|kV Ac<|kV vbi<|kV Ac<|kV Ac<|kV (AX (Ai _) (Bg _) Ba)<|kV vbi<|kV (ZU (.inr rfl) bo)<|kV Ao ?_
      rcases brc hz with ⟨hc,hz⟩|⟨hc,hz⟩
      ·have hb2:((decide (x16.1=1)) != (decide (x13.1≤((List.length a0:Nat):Int))))=true:=hc
       refine kV (VOK.lit (Ac) hb2)<|dgf ?_;refine dgf ?_;refine Zq ?_;refine dgf ?_;refine dgf ?_;refine dgf ?_;refine dgf ?_;refine dgf ?_;refine dgf ?_;refine dgf ?_;refine dgf ?_;refine dgf ?_;refine dgf ?_;refine dgf ?_;refine dgf ?_;refine kV Ao<|dz ?_;refine RL.gk [0,1,4,9,11,13,134]<|.nil ?_
       cases hz
       exact jr () trivial
      have hb2:((decide (x16.1=1)) != (decide (x13.1≤((List.length a0:Nat):Int))))=false:=(bf hc)
      refine kV (VOK.lit (Ac) hb2)<|kV Ac<|kV vbi ?_
      rcases brc hz with ⟨hc,hz⟩|⟨hc,hz⟩
      ·have hb3:(decide (x16.1=1))=true:=(dT hc)
       refine kV (VOK.lit (Ac) hb3)<|kV Ac<|kV Ac<|kV vbi ?_
       obtain ⟨x18,g18,hz⟩:=bnd hz
       obtain ⟨n18,p018,q18⟩:=Aq g18
       refine kV (vix n18 p018 (BC q18) rfl Bs)<|kV (Ap AE Am)<|kV Ac<|kV Ac ?_
       obtain ⟨x19,g19,hz⟩:=bnd hz
       obtain ⟨n19,p019,q19⟩:=Aq g19
       refine kV (vix n19 p019 (BC q19) rfl Bs)<|kV (Ap AE Am) ?_
       obtain ⟨x20,g20,hz⟩:=bnd hz
       refine kV (Ag (Kl g20) Tryz.call16)<|kV vnt<|kV Ao<|kV Ao<|dz ?_;refine RL.gk [0,1,4,9,11,13,134]<|.nil ?_
       cases hz
       exact jr () trivial
      have hb3:(decide (x16.1=1))=false:=(dF hc)
      refine kV (VOK.lit (Ac) hb3)<|dgf ?_;refine dgf ?_;refine dgf ?_;refine dgf ?_;refine dgf ?_;refine dgf ?_;refine dgf ?_;refine dgf ?_;refine dgf ?_;refine dgf ?_;refine dgf ?_;refine kV Ao<|kV Ao<|dz ?_;refine RL.gk [0,1,4,9,11,13,134]<|.nil ?_
      cases hz
      exact jr () trivial
     have hb1:(!x16.2)=true:=(ntt (bf hc))
     refine kV (VOK.lit (Ac) hb1)<|dgf ?_;refine dgf ?_;refine dgf ?_;refine dgf ?_;refine dgf ?_;refine dgf ?_;refine dgf ?_;refine kV Ao<|kV Ac<|dgf ?_;refine dgf ?_;refine Zq ?_;refine dgf ?_;refine dgf ?_;refine dgf ?_;refine dgf ?_;refine dgf ?_;refine dgf ?_;refine dgf ?_;refine dgf ?_;refine dgf ?_;refine dgf ?_;refine dgf ?_;refine dgf ?_;refine kV Ao<|dz ?_;refine RL.gk [0,1,4,9,11,13,134]<|.nil ?_
     cases hz
     exact jr () trivial
    have hb0:(!x13.2)=true:=(ntt (bf hc))
    refine kV (VOK.lit (Ac) hb0)<|dgf ?_;refine dgf ?_;refine kV Ao<|kV Ac<|dgf ?_;refine dgf ?_;refine dgf ?_;refine dgf ?_;refine dgf ?_;refine dgf ?_;refine dgf ?_;refine kV Ao<|kV Ac<|dgf ?_;refine dgf ?_;refine Zq ?_;refine dgf ?_;refine dgf ?_;refine dgf ?_;refine dgf ?_;refine dgf ?_;refine dgf ?_;refine dgf ?_;refine dgf ?_;refine dgf ?_;refine dgf ?_;refine dgf ?_;refine dgf ?_;refine kV Ao<|dz ?_;refine RL.gk [0,1,4,9,11,13,134]<|.nil ?_
    cases hz
    exact jr () trivial
   rintro _ _
   rcases brc h with ⟨hc,h⟩|⟨hc,h⟩
   ·refine cnt hc ?_
    refine .sr<|kR [0,1,4,9,11,13] zj<|.ret ?_
    cases h
    exact ⟨rfl,rfl⟩
   refine cnf (bf hc) ?_;refine .sk ?_;refine .region<|kA zj<|kB zj<|kD zj<|.nil ?_;refine AL.gk [0,1,4,9,11,13] ?_
   exact ih (k,s9,(w64 (s10+1))) h (Nat.lt_succ_self _)
  refine cnf (dF hc) ?_;refine .gk [4]<|.exit ?_
  exact jr (s9) h
 rintro z8 h
 try dsimp only at h ⊢
 subst hK0
 refine aw<|.sr ?_
 obtain ⟨x21,g21,h⟩:=bnd h
 refine kK (Ag (Ji g21) Tryz.call6)<|kR [4] zj<|.ret ?_
 cases h
 exact ⟨rfl,rfl⟩
theorem Ab8 : E7=some (1,(false,[],[]),0):=rfl
theorem Yh : DO 8714=some true:=by kernel_rfl
theorem Xg : DO 9075=some true:=by kernel_rfl
def inN (m:SM) (x:Itm) : Int:=if (m.get (kk x)).isSome=true then 1 else 0
theorem Vi (m:SM) (x:Itm) : EJ (inN m x):=by unfold inN;split<;>exact ⟨by omega,by omega⟩
theorem Y1 {l u:List Itm} (v:VR l) (w:VR u) : CJ (1,(false,[],[]),0) 8714 (vec l) (vec u)=some (vec ((l.map (inN (frL u SM.nil).2)).map Cj),0):=by
 unfold CJ
 rw [Yh,oB,if_pos rfl,OO v.ok v.2.2.2 w.ok w.2.2.2,oB,if_pos rfl,if_neg (show ¬((8714:Int)=8835) by decide),if_neg (show ¬((8714:Int)=8868) by decide),if_neg (show ¬((8714:Int)=8869) by decide),DA,if_neg (show ¬((8714:Int)=8801) by decide),show (decide ((8714:Int)=8802))=false from rfl]
 dsimp only
 rw [if_neg (show ¬(false=true) by decide),if_neg (show ¬((8714:Int)=9075) by decide),if_pos rfl,KC w,oB,WO w.items w.2.1,oB,SU (f:=inN (frL u SM.nil).2) v fun x hx=>⟨?_,Vi _ _⟩]
 ·rfl
 ·show D3 x (frL u SM.nil).2=_
  unfold D3 inN HH
  rw [ZV (v.items x hx).1 (v.items x hx).2,oB]
  split<;>rfl
theorem US {l:List Itm} (h:∀ x∈l,okI x∧BZ x) : ∀ (n:Nat) (m:SM) (hn:n≤l.length),∃ m',Ns Mr l n m=some m' ∧
  ∀ k,(∃ j,∃ hj:j<n,kk (l[j]'(by omega))=k∧m'.get k=some (j:Int))∨((∀ j,∀ hj:j<n,kk (l[j]'(by omega))≠k)∧m'.get k=m.get k)
 | 0,m,_=>⟨m,rfl,fun k=>.inr ⟨fun j hj=>by omega,rfl⟩⟩
 | n+1,m,hn=>by
  have hx:=h _ (List.getElem_mem (show n<l.length by omega))
  obtain ⟨m',e,hm⟩:=US h n (m.set (kk (l[n]'(by omega))) (n:Int)) (by omega)
  refine ⟨m',?_,fun k=>?_⟩
  ·rw [Ns,lG (by omega),oB]
   unfold Mr at *
   rw [PI hx.1 hx.2,oB,oB]
   exact e
  ·rcases hm k with ⟨j,hj,e1,e2⟩|⟨h1,h2⟩
   ·exact .inl ⟨j,by omega,e1,e2⟩
   ·rw [SM.get_set] at h2
    by_cases hk:kk (l[n]'(by omega))=k
    ·rw [if_pos hk] at h2
     exact .inl ⟨n,by omega,hk,h2⟩
    ·rw [if_neg hk] at h2
     refine .inr ⟨fun j hj=>?_,h2⟩
     by_cases hjn:j=n
     ·subst hjn;exact hk
     ·exact h1 j (by omega)
def plZ (m:SM) (n:Nat) (x:Itm) : Int:=if (m.get (kk x)).isSome=true then w64 ((m.get (kk x)).getD 0+1) else w64 ((n:Int)+1)
theorem Zy {l u:List Itm} (v:VR l) (w:VR u) : ∃ f : Itm→Int,CJ (1,(false,[],[]),0) 9075 (vec l) (vec u)=some (vec ((u.map f).map Cj),0) ∧
  ∀ y∈u,EJ (f y)∧((∃ j,∃ hj:j<l.length,kk l[j]=kk y∧f y=((j+1:Nat):Int))∨((∀ x∈l,kk x≠kk y)∧f y=((l.length+1:Nat):Int))):=by
 obtain ⟨m,hm,hk⟩:=US v.items l.length SM.nil (Nat.le_refl _)
 have hl:=v.2.1
 have hf:∀ y,(∃ j,∃ hj:j<l.length,kk l[j]=kk y∧plZ m l.length y=((j+1:Nat):Int))∨((∀ x∈l,kk x≠kk y)∧plZ m l.length y=((l.length+1:Nat):Int)):=fun y=>by
  rcases hk (kk y) with ⟨j,hj,e1,e2⟩|⟨h1,h2⟩
  ·refine .inl ⟨j,hj,e1,?_⟩
   unfold plZ
   rw [e2,Option.isSome_some,if_pos rfl,Option.getD_some,Cz (by omega)]
  ·refine .inr ⟨fun x hx=>?_,?_⟩
   ·obtain ⟨i,hi,rfl⟩:=List.mem_iff_getElem.1 hx
    exact h1 i hi
   ·unfold plZ
    rw [h2,SM.get_nil,if_neg (by simp),Cz (by omega)]
 have h64:∀ y,EJ (plZ m l.length y):=fun y=>by
  rcases hf y with ⟨j,hj,_,e⟩|⟨_,e⟩
  ·rw [e];exact ⟨by omega,by omega⟩
  ·rw [e];exact ⟨by omega,by omega⟩
 refine ⟨plZ m l.length,?_,fun y _=>⟨h64 y,hf y⟩⟩
 have hi:ED (1,(false,[],[]),0) (vec l) (vec u)=some (vec ((u.map (plZ m l.length)).map Cj),0):=by
  unfold ED
  rw [if_pos (show ((List.length (vec l).shape:Nat):Int)=1 from rfl),KC v,oB]
  have hg:Gk (((List.length l:Nat):Int)≤1000000)=some ():=by unfold Gk;rw [if_pos (by omega)]
  rw [hg,oB,hm,oB,SU (f:=plZ m l.length) w fun y hy=>⟨?_,h64 y⟩]
  ·rfl
  ·show DN y m _ l=_
   unfold DN plZ
   rw [PI (w.items y hy).1 (w.items y hy).2,oB]
 unfold CJ
 rw [Xg,oB,if_pos rfl,OO v.ok v.2.2.2 w.ok w.2.2.2,oB,if_pos rfl,if_neg (show ¬((9075:Int)=8835) by decide),if_neg (show ¬((9075:Int)=8868) by decide),if_neg (show ¬((9075:Int)=8869) by decide),DA,if_neg (show ¬((9075:Int)=8801) by decide),show (decide ((9075:Int)=8802))=false from rfl]
 dsimp only
 rw [if_neg (show ¬(false=true) by decide),if_pos rfl,hi];rfl
theorem Rt {z:Int} (h:EJ z) : Ej (Cj z)=some (.mk [] [Cj z]):=by
 have e1:dI (Cj z)=0:=rfl
 have e2:cI (Cj z)=0:=rfl
 rw [XA (Me h) ⟨Hw h,by omega,by omega⟩,if_neg (show ¬((Cj z).kind=3) by show ¬((1:Int)=3);decide)]
theorem M7 {l u:List Itm} (v:VR l) (w:VR u) {f g:Itm→Int} (hf:∀ y∈u,EJ (f y)∧((∃ j,∃ hj:j<l.length,kk l[j]=kk y∧f y=((j+1:Nat) : Int))∨((∀ x∈l,kk x≠kk y)∧f y=((l.length+1:Nat) : Int))))
  (hg:∀ y∈u,EJ (g y)∧(((∃ x∈l,kk x=kk y)∧g y=1)∨((∀ x∈l,kk x≠kk y)∧g y=0))) (K:Bool→Option Bool):∀ (n i k:Nat) (s:Bool),n=u.length-i→i≤u.length→n<k →
  BE l u (vec ((u.map f).map Cj),0) (vec ((u.map g).map Cj),0) K k s (i:Int)=K s
 | n,i,0,s,_,_,h=>by omega
 | n,i,k+1,s,hn,hi,hk=>by
  rw [BE]
  have hu:=w.2.1
  have hl:=v.2.1
  by_cases hlt:i<u.length
  ·have ih:=M7 v w hf hg K (n-1) (i+1) k s (by omega) (by omega) (by omega)
   have hy:=List.getElem_mem hlt
   obtain ⟨f64,hf'⟩:=hf _ hy
   obtain ⟨g64,hg'⟩:=hg _ hy
   have r1:rd? ((u.map f).map Cj) (i:Int)=some (Cj (f u[i])):=by rw [Ci (by simpa using hlt)];simp
   have r2:rd? ((u.map g).map Cj) (i:Int)=some (Cj (g u[i])):=by rw [Ci (by simpa using hlt)];simp
   rw [if_pos (by omega)]
   dsimp only
   rw [show (vec ((u.map f).map Cj)).items=(u.map f).map Cj from rfl,show (vec ((u.map g).map Cj)).items=(u.map g).map Cj from rfl,r1,oB,Rt f64,oB,SV f64,oB,r2,oB,Rt g64,oB,SV g64,oB]
   dsimp only
   rw [if_pos rfl,if_pos rfl,Cz (by omega)]
   rcases hf' with ⟨j,hj,e1,e2⟩|⟨h1,e2⟩
   ·have e3:g u[i]=1:=by
     rcases hg' with ⟨_,h⟩|⟨h,_⟩
     ·exact h
     ·exact absurd e1 (h _ (List.getElem_mem hj))
    have e4:l[j]=u[i]:=Y4 (v.items _ (List.getElem_mem hj)).2.1 (w.items _ hy).2.1 e1
    have e5:w64 (f u[i]-1)=(j:Int):=by rw [e2,EH (by omega) (by omega)];omega
    have e6:((decide (g u[i]=1)) != (decide (f u[i]≤((List.length l:Nat):Int))))=false:=by
     rw [e3,e2,dT (show (1:Int)=1 from rfl),dT (show ((j+1:Nat):Int)≤((l.length:Nat):Int) by omega)];rfl
    rw [e6,if_neg (show ¬(false=true) by decide),if_pos e3,e5,Ci hj,oB,Ci hlt,oB,(QM (v.items _ (List.getElem_mem hj)).1).yes e4,oB,oB]
    exact ih
   ·have e3:g u[i]=0:=by
     rcases hg' with ⟨⟨x,hx,h⟩,_⟩|⟨_,h⟩
     ·exact absurd h (h1 x hx)
     ·exact h
    have e6:((decide (g u[i]=1)) != (decide (f u[i]≤((List.length l:Nat):Int))))=false:=by
     rw [e3,e2,dF (show ¬((0:Int)=1) by decide),dF (show ¬((l.length+1:Nat):Int)≤((l.length:Nat):Int) by omega)];rfl
    rw [e6,if_neg (show ¬(false=true) by decide),if_neg (by rw [e3];decide),oB]
    exact ih
  ·rw [if_neg (by omega)]
theorem OX {l u:List Itm} (hl:l.length≤1466015503701∧∀ x∈l,okI x) (hu:u.length≤1466015503701∧∀ x∈u,okI x) : Ed l u=some true:=by
 have hmk:∀ {l:List Itm},(l.length≤1466015503701∧∀ x∈l,okI x)→∃ r e,Bi [((List.length l:Nat):Int)] l=some (r,e):=fun hl=>⟨_,_,Mc (fun z hz=>by rw [List.mem_singleton] at hz;omega) (by simp) hl.1 hl.2⟩
 obtain ⟨r,e,hr⟩:=hmk hl
 obtain ⟨r',e',hr'⟩:=hmk hu
 unfold Ed
 rw [hr,oB,hr',oB,Aar]
 dsimp only
 by_cases h0:e=0∧e'=0
 rotate_left
 ·rw [if_pos (by simp only [Bool.or_eq_true,Bool.not_eq_true',decide_eq_false_iff_not];omega)];rfl
 obtain ⟨rfl,rfl⟩:=h0
 obtain ⟨v,rfl⟩:=Te hl.2 hl.1 hr
 obtain ⟨w,rfl⟩:=Te hu.2 hu.1 hr'
 obtain ⟨f,e5,hf⟩:=Zy v w
 have e7:=Y1 w v
 rw [if_neg (by simp),Ab8,oB,e5,oB,oB,e7,oB]
 dsimp only
 rw [if_neg (by simp [vec,Arr.items]),DA]
 have hg:∀ y∈u,EJ (inN (frL l SM.nil).2 y)∧(((∃ x∈l,kk x=kk y)∧inN (frL l SM.nil).2 y=1)∨((∀ x∈l,kk x≠kk y)∧inN (frL l SM.nil).2 y=0)):=fun y _=>by
  refine ⟨Vi _ _,?_⟩
  unfold inN
  by_cases h:((frL l SM.nil).2.get (kk y)).isSome=true
  ·rw [if_pos h]
   rcases (IS l SM.nil (kk y)).1 h with h|h
   ·cases h
   ·exact .inl ⟨h,rfl⟩
  ·rw [if_neg h]
   exact .inr ⟨fun x hx e=>h ((IS l SM.nil (kk y)).2 (.inr ⟨x,hx,e⟩)),rfl⟩
 have e:=M7 v w hf hg (fun (z8:Bool)=>((some true).bind fun x21=>(some (x21)))) u.length 0 AH false rfl (Nat.zero_le _) (CE (by have:=w.2.1;omega))
 exact e
end Go.FL
namespace Go.Proofs.YtginckjifacnhaaGreat.pickFinds
open Go.ChangeShapes Go.WideShapes Go.ChangeAt Go.RowKit Go.FL
theorem own : ownKnob Tryz.prog.godebug=none:=by kernel_rfl
theorem laid : laidOutB Tryz.prog=true:=by kernel_rfl
theorem params : ∀ t∈Tryz.f4.params.toList,Tryz.prog.readableRec t=true∧t<Tryz.prog.types.size:=by
 intro t ht
 simp only [Tryz.params4,List.mem_cons,List.not_mem_nil,or_false] at ht
 rcases ht with rfl|rfl<;>exact ⟨by kernel_rfl,of_decide_eq_true (by kernel_rfl)⟩
set_option maxRecDepth 100000 in
theorem lifted (os:Os) (started:os.Started) (H:Type) (enc:TypeId×Value→H) :
  ReturnsInHanded {} Tryz.checked os 4 .any (Rows.pickFindsSpec.pre6 enc Tryz.prog Tryz.f4 Rows.pickFindsRow.domain false) (Rows.pickFindsSpec.post enc Tryz.prog Tryz.f4 false true false false):=by
 refine returnsInHanded_of_change_sized (C:=Tryz.checked) own started (by kernel_rfl) Tryz.func4
  (ChangeSpec.witness6 (enc:=enc) (C:=Tryz.checked) false ⟨#[],#[.slice none 0 0,.slice none 0 0],[]⟩ 8 (by kernel_rfl) (by kernel_rfl) (by kernel_rfl) (by kernel_rfl)) ?_
 intro W base args ds gs before hval0 hW hcnd hsz _
 have hval:∀ (j:Nat) t v,Tryz.f4.params[j]?=some t→args[j]?=some v→Value.okWide Tryz.prog W .any base t v:=hval0
 have hW':=hW
 obtain ⟨p,q,hA0,hV,rfl,hfz,hnd⟩:=hW
 have hA:DataW.TrodAll enc Tryz.prog W 0 (fun _=>true) true Tryz.f4.params.toList args.toList ds p:=hA0
 rw [Tryz.params4] at hA hval
 obtain ⟨v0,vs0,d0,ds0,p0,q0,hargs,rfl,rfl,h0,r0⟩:=trodAll_cons hA
 obtain ⟨v1,vs1,d1,ds1,p1,q1,rfl,rfl,rfl,h1,r1⟩:=trodAll_cons r0
 obtain ⟨rfl,rfl,rfl⟩:=trodAll_nil r1
 obtain rfl:args=#[v0,v1]:=by cases args;simp_all
 obtain ⟨rfl,rfl⟩:=trodVars_none hV
 rw [Tryz.params4] at hsz
 have w0:∀ m∈DataW.weights Tryz.prog 22 d0,m≤reachBytes:=fun m hm=>by simpa using List.all_eq_true.1 hsz m (DataW.weights_mem_each (j:=0) rfl rfl m hm)
 obtain ⟨a0,o0,e0⟩:=P3 (v:=v0) Qe (by obtain ⟨x0,x1,x2,rfl⟩:=okWide_slice Tryz.underlying22 (hval 0 22 v0 rfl rfl);rfl) h0 w0
 have w1:∀ m∈DataW.weights Tryz.prog 22 d1,m≤reachBytes:=fun m hm=>by simpa using List.all_eq_true.1 hsz m (DataW.weights_mem_each (j:=1) rfl rfl m hm)
 obtain ⟨a1,o1,e1⟩:=P3 (v:=v1) Qe (by obtain ⟨x0,x1,x2,rfl⟩:=okWide_slice Tryz.underlying22 (hval 1 22 v1 rfl rfl);rfl) h1 w1
 refine (Ut (JA (OX o0 o1)) (.cons e0 (.cons e1 .nil))).mono fun e W' ⟨he,hb⟩=>?_
 subst he
 exact ⟨_,rfl,Wx hW' rfl (fun _=>rfl) rfl Tryz.underlying4 laid params hb⟩
theorem over : Rows.pickFindsRow.holds Tryz.pinned (OpenSpec.ofChange Rows.pickFindsSpec) :=
 OpenClaim.holds_of_wide 4 Tryz.f4 rfl rfl rfl rfl rfl rfl rfl ⟨rfl,rfl,rfl,rfl,rfl⟩ rfl rfl rfl rfl rfl (by kernel_rfl) Tryz.func4 (by kernel_rfl)
  (of_decide_eq_true (by kernel_rfl)) (by unfold Func.isWrapper;first|(rw [if_pos (by decide +kernel)];kernel_rfl)|(rw [if_neg (by decide +kernel)];exact ⟨rfl,rfl⟩))
  (fun os started H enc _=>lifted os started H enc)
theorem proved : Rows.PickFindsSaid :=
 over
end Go.Proofs.YtginckjifacnhaaGreat.pickFinds
