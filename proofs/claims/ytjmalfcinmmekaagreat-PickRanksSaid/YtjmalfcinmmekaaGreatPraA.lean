/-
  The law: its function printed as a pure function, its contract, the plain law, the statement
-/
import Derived.Test.YtjmalfcinmmekaaGreatPrF
import Derived.Test.YtjmalfcinmmekaaGreatRows
set_option linter.unusedVariables false
namespace Go.FL
open Go Go.Proofs
def BR (a0:(List Itm)) (x12:Arr×Int) (K0:Bool→Option (Bool)) : Nat→Bool→Int→Option (Bool)
 | 0,_,_=>none
 | k+1,s16,s17=>(if s17<((List.length a0:Nat):Int) then ((rd? x12.1.items (w64 (s17-1))).bind fun x18=>((rd? x12.1.items s17).bind fun x19=>((Fw x18 x19).bind fun x20=>(if x20<0 then (some (false)) else (BR a0 x12 K0 k s16 (w64 (s17+1))))))) else (K0 s16))
def ED (a0:(List Itm)) : Option (Bool):=((AZ ([((List.length a0:Nat) : Int)]) a0).bind fun x1=>(if x1.2=0 then (DR.bind fun x2=>((BB x2 9042 x1.1).bind fun x3=>(DR.bind fun x4=>((BB x4 9035 x3.1).bind fun x5=>(DR.bind fun x6=>((Gc x6 x3.1 ([[x5.1]])).bind fun x7=>(DR.bind fun x8=>((Gt ((List.length a0:Nat) : Int)).bind fun x9=>((BB x8 9075 x9).bind fun x10=>(DR.bind fun x11=>((Gc x11 x1.1 ([[x3.1]])).bind fun x12=>(Option.bind ((if x3.2=0 then (if x5.2=0 then (if x7.2=0 then (if x10.2=0 then (if x12.2=0 then ((LF x7.1 x10.1).bind fun x14=>(if x14=true then (some (!(decide (((List.length x12.1.items:Nat) : Int)=((List.length a0:Nat) : Int))))) else (some true))) else (some true)) else (some true)) else (some true)) else (some true)) else (some true)) : Option (Bool)) fun (z13:Bool)=>(if z13=true then (some (false)) else (jn (fun (z15:Bool)=>(Fr.bind fun x21=>(some (x21)))) fun K0=>(BR a0 x12 K0 As false 1))))))))))))))) else (Fr.bind fun x22=>(some (x22)))))
set_option maxHeartbeats 4000000 in
theorem J0 {a0:(List Itm)} {r:Bool} (h:ED a0=some r) :
  Fn Tryz.prog 10 [.sl (Its a0)] (.d (.b r)):=by
 unfold ED at h
 refine Fn.o1 2 117 Tryz.func10 ?_;refine .sr ?_;refine ar [0,2] ?_;refine .sr ?_;refine va ?_;refine vk (A5 (Au _) (BS _) BO) ?_;refine vk ((E1 (DZ [((List.length a0:Nat):Int)]) DN).deep) ?_;refine va ?_
 obtain ⟨x1,g1,h⟩:=bnd h
 refine vk (VOK.tupd (vs:=[.ag [.sl (Is x1.1.shape),.sl (Its x1.1.items)],.i .i64 x1.2]) (Al (Hh g1) Tryz.call18)) ?_;refine va ?_;refine vk vex ?_;refine vk vex ?_;refine vk (van (Ak AK) AP) ?_
 refine stn ?_ Ab (by decide)
 refine ar [0,2,3,4] ?_;refine .seq ?_;refine .sr ?_;refine va ?_;refine vb ?_;refine rk [0,2,3,25] ?_
 rcases brc h with ⟨hc,h⟩|⟨hc,h⟩
 ·refine cnf (ntf (dT hc)) ?_
  refine .sk ?_;refine .seq ?_
  obtain ⟨x2,g2,h⟩:=bnd h
  obtain ⟨x3,g3,h⟩:=bnd h
  refine .drawnF 7 [5] [(5,.nb [.sl (Is x3.1.shape),.sl (Its x3.1.items)])] [] A6 (by kernel_rfl) rfl ?_;refine dv (Al (DB g2) Tryz.call14) ?_;refine dv (D7 Ag Ab) ?_;refine dv (VOK.tupd (vs:=[.ag [.sl (Is x3.1.shape),.sl (Its x3.1.items)],.i .i64 x3.2]) (Al (EE g3) Tryz.call19)) ?_;refine dv Ae ?_;refine dv vex ?_;refine dv vex ?_;refine dv (van (Ak AK) AP) ?_;refine dz ?_
  refine ⟨?_,?_,?_⟩
  ·intro k hk
   simp only [List.mem_cons,List.not_mem_nil,or_false] at hk
   subst hk
   exact ⟨_,_,_,rfl,rfl,rfl,rfl,rfl,rfl,vex⟩
  ·intro om e hom hge
   cases hom
   exact GM (cs:=[.sl (Is []),.sl (Its [])]) (cs':=[.sl (Is x3.1.shape),.sl (Its x3.1.items)]) Ab (by decide) rfl ((hge 5 (fun k hk v hv=>by
     simp only [List.mem_cons,List.not_mem_nil,or_false] at hk
     subst hk;exact (by decide:¬(some 32=some 5)) (congrArg (Option.map Prod.fst) hv))).trans rfl) ((congrArg Bh (hge 31 (fun k hk v hv=>by
     simp only [List.mem_cons,List.not_mem_nil,or_false] at hk
     subst hk;exact (by decide:¬(some 32=some 31)) (congrArg (Option.map Prod.fst) hv)))).trans rfl) rfl rfl rfl rfl ⟨rfl,rfl⟩
  refine ar [0,2,3,5,6] ?_;refine .seq ?_
  obtain ⟨x4,g4,h⟩:=bnd h
  obtain ⟨x5,g5,h⟩:=bnd h
  refine .drawnF 7 [5] [(7,.nb [.sl (Is x5.1.shape),.sl (Its x5.1.items)])] [] A6 (by kernel_rfl) rfl ?_;refine dv (Al (DB g4) Tryz.call14) ?_;refine dv (D7 Ag Ab) ?_;refine dv (VOK.tupd (vs:=[.ag [.sl (Is x5.1.shape),.sl (Its x5.1.items)],.i .i64 x5.2]) (Al (EE g5) Tryz.call19)) ?_;refine dv Ae ?_;refine dv vex ?_;refine dv vex ?_;refine dv (van (Ak AK) AP) ?_;refine dz ?_
  refine ⟨?_,?_,?_⟩
  ·intro k hk
   simp only [List.mem_cons,List.not_mem_nil,or_false] at hk
   subst hk
   exact ⟨_,_,_,rfl,rfl,rfl,rfl,rfl,rfl,vex⟩
  ·intro om e hom hge
   cases hom
   exact GM (cs:=[.sl (Is []),.sl (Its [])]) (cs':=[.sl (Is x5.1.shape),.sl (Its x5.1.items)]) Ab (by decide) rfl ((hge 7 (fun k hk v hv=>by
     simp only [List.mem_cons,List.not_mem_nil,or_false] at hk
     subst hk;exact (by decide:¬(some 38=some 7)) (congrArg (Option.map Prod.fst) hv))).trans rfl) ((congrArg Bh (hge 37 (fun k hk v hv=>by
     simp only [List.mem_cons,List.not_mem_nil,or_false] at hk
     subst hk;exact (by decide:¬(some 38=some 37)) (congrArg (Option.map Prod.fst) hv)))).trans rfl) rfl rfl rfl rfl ⟨rfl,rfl⟩
  refine ar [0,2,3,5,6,7,8] ?_;refine .seq ?_
  obtain ⟨x6,g6,h⟩:=bnd h
  obtain ⟨x7,g7,h⟩:=bnd h
  refine .drawnF 10 [8] [(9,.nb [.sl (Is x7.1.shape),.sl (Its x7.1.items)])] [] A6 (by kernel_rfl) rfl ?_;refine dv (Al (DB g6) Tryz.call14) ?_;refine dv (D7 Ag Ab) ?_;refine dv (D7 Ag Ab) ?_;refine dv ((FF (Jr x5.1) (GT [x5.1]) I4).deep) ?_;refine dv ((E1 (Pi [[x5.1]]) ST).deep) ?_;refine dv (VOK.tupd (vs:=[.ag [.sl (Is x7.1.shape),.sl (Its x7.1.items)],.i .i64 x7.2]) (Al (NQ g7) Tryz.call20)) ?_;refine dv Ae ?_;refine dv vex ?_;refine dv vex ?_;refine dv (van (Ak AK) AP) ?_;refine dz ?_
  refine ⟨?_,?_,?_⟩
  ·intro k hk
   simp only [List.mem_cons,List.not_mem_nil,or_false] at hk
   subst hk
   exact ⟨_,_,_,rfl,rfl,rfl,rfl,rfl,rfl,vex⟩
  ·intro om e hom hge
   cases hom
   exact GM (cs:=[.sl (Is []),.sl (Its [])]) (cs':=[.sl (Is x7.1.shape),.sl (Its x7.1.items)]) Ab (by decide) rfl ((hge 9 (fun k hk v hv=>by
     simp only [List.mem_cons,List.not_mem_nil,or_false] at hk
     subst hk;exact (by decide:¬(some 47=some 9)) (congrArg (Option.map Prod.fst) hv))).trans rfl) ((congrArg Bh (hge 46 (fun k hk v hv=>by
     simp only [List.mem_cons,List.not_mem_nil,or_false] at hk
     subst hk;exact (by decide:¬(some 47=some 46)) (congrArg (Option.map Prod.fst) hv)))).trans rfl) rfl rfl rfl rfl ⟨rfl,rfl⟩
  refine ar [0,2,3,5,6,8,9,10] ?_;refine .sr ?_
  obtain ⟨x8,g8,h⟩:=bnd h
  refine vk (Al (DB g8) Tryz.call14) ?_;refine va ?_;refine vk (A5 (Au _) (BS _) BO) ?_
  obtain ⟨x9,g9,h⟩:=bnd h
  refine vk (Al (Kr g9) Tryz.call12) ?_
  obtain ⟨x10,g10,h⟩:=bnd h
  refine vk (VOK.tupd (vs:=[.ag [.sl (Is x10.1.shape),.sl (Its x10.1.items)],.i .i64 x10.2]) (Al (EE g10) Tryz.call19)) ?_;refine va ?_;refine vk vex ?_;refine vk vex ?_;refine vk (van (Ak AK) AP) ?_
  refine stn ?_ Ab (by decide)
  refine ar [0,2,3,5,6,8,9,10,11,12] ?_;refine .seq ?_
  obtain ⟨x11,g11,h⟩:=bnd h
  obtain ⟨x12,g12,h⟩:=bnd h
  refine .drawnF 10 [8] [(13,.nb [.sl (Is x12.1.shape),.sl (Its x12.1.items)])] [] A6 (by kernel_rfl) rfl ?_;refine dv (Al (DB g11) Tryz.call14) ?_;refine dv (D7 Ag Ab) ?_;refine dv (D7 Ag Ab) ?_;refine dv ((FF (Jr x3.1) (GT [x3.1]) I4).deep) ?_;refine dv ((E1 (Pi [[x3.1]]) ST).deep) ?_;refine dv (VOK.tupd (vs:=[.ag [.sl (Is x12.1.shape),.sl (Its x12.1.items)],.i .i64 x12.2]) (Al (NQ g12) Tryz.call20)) ?_;refine dv Ae ?_;refine dv vex ?_;refine dv vex ?_;refine dv (van (Ak AK) AP) ?_;refine dz ?_
  refine ⟨?_,?_,?_⟩
  ·intro k hk
   simp only [List.mem_cons,List.not_mem_nil,or_false] at hk
   subst hk
   exact ⟨_,_,_,rfl,rfl,rfl,rfl,rfl,rfl,vex⟩
  ·intro om e hom hge
   cases hom
   exact GM (cs:=[.sl (Is []),.sl (Its [])]) (cs':=[.sl (Is x12.1.shape),.sl (Its x12.1.items)]) Ab (by decide) rfl ((hge 13 (fun k hk v hv=>by
     simp only [List.mem_cons,List.not_mem_nil,or_false] at hk
     subst hk;exact (by decide:¬(some 64=some 13)) (congrArg (Option.map Prod.fst) hv))).trans rfl) ((congrArg Bh (hge 63 (fun k hk v hv=>by
     simp only [List.mem_cons,List.not_mem_nil,or_false] at hk
     subst hk;exact (by decide:¬(some 64=some 63)) (congrArg (Option.map Prod.fst) hv)))).trans rfl) rfl rfl rfl rfl ⟨rfl,rfl⟩
  refine ar [0,2,6,8,9,10,11,12,13,14] ?_;refine .seq ?_;refine .seq ?_;refine .gh (Gh.nbp (t:=13) rfl) ?_
  obtain ⟨z13,hz,h⟩:=bnd h
  refine AW.mr (σ:=Unit) (fun _=>True) (fun _=>[(0,.d (.sl (Its a0))),(2,.d (.b false)),(13,.d (.ptr [.sl (Is x12.1.shape),.sl (Its x12.1.items)])),(96,.d (.b z13))]) (fun _=>[]) ?_ ?_
  ·skip
   refine .region ?_;refine va ?_;refine vb ?_
   rcases brc hz with ⟨hc,hz⟩|⟨hc,hz⟩
   ·have hb0:(!(decide (x3.2=0)))=false:=(ntf (dT hc))
    refine vL hb0 ?_;refine va ?_;refine vb ?_;refine vk Ap ?_
    rcases brc hz with ⟨hc,hz⟩|⟨hc,hz⟩
    ·have hb1:(!(decide (x5.2=0)))=false:=(ntf (dT hc))
     refine vL hb1 ?_;refine va ?_;refine vb ?_;refine vk Ap ?_
     rcases brc hz with ⟨hc,hz⟩|⟨hc,hz⟩
     ·have hb2:(!(decide (x7.2=0)))=false:=(ntf (dT hc))
      refine vL hb2 ?_;refine va ?_;refine vb ?_;refine vk Ap ?_
      rcases brc hz with ⟨hc,hz⟩|⟨hc,hz⟩
      ·have hb3:(!(decide (x10.2=0)))=false:=(ntf (dT hc))
       refine vL hb3 ?_;refine va ?_;refine vb ?_;refine vk Ap ?_
       rcases brc hz with ⟨hc,hz⟩|⟨hc,hz⟩
       ·have hb4:(!(decide (x12.2=0)))=false:=(ntf (dT hc))
        refine vL hb4 ?_;refine vk (D7 Ag Ab) ?_;refine vk (D7 Ag Ab) ?_
        obtain ⟨x14,g14,hz⟩:=bnd hz
        refine vk (Al (PT g14) Tryz.call21) ?_;refine vk vnt ?_;refine vk Ap ?_
        rcases brc hz with ⟨hc,hz⟩|⟨hc,hz⟩
        ·have hb5:(!x14)=false:=(ntf hc)
         refine vL hb5 ?_;refine vk (vfa AU) ?_;refine vk (Ao BX) ?_;refine vk (A5 (Au _) (BS _) BO) ?_;refine va ?_;refine vk (A5 (Au _) (BS _) BO) ?_;refine vb ?_;refine vk Ap ?_;refine RL.gk [0,2,13,96] ?_;refine .nil ?_
         cases hz
         exact jr () trivial
        have hb5:(!x14)=true:=(ntt (bf hc))
        refine vL hb5 ?_;refine gf4 ?_;refine gf2 ?_;refine vk Ap ?_;refine RL.gk [0,2,13,96] ?_;refine .nil ?_
        cases hz
        exact jr () trivial
       have hb4:(!(decide (x12.2=0)))=true:=(ntt (dF hc))
       refine vL hb4 ?_;refine gf4 ?_;refine vk Ap ?_;refine va ?_;refine gf4 ?_;refine gf2 ?_;refine vk Ap ?_;refine RL.gk [0,2,13,96] ?_;refine .nil ?_
       cases hz
       exact jr () trivial
      have hb3:(!(decide (x10.2=0)))=true:=(ntt (dF hc))
      refine vL hb3 ?_;refine gf2 ?_;refine vk Ap ?_;refine va ?_;refine gf4 ?_;refine vk Ap ?_;refine va ?_;refine gf4 ?_;refine gf2 ?_;refine vk Ap ?_;refine RL.gk [0,2,13,96] ?_;refine .nil ?_
      cases hz
      exact jr () trivial
     have hb2:(!(decide (x7.2=0)))=true:=(ntt (dF hc))
     refine vL hb2 ?_;refine gf2 ?_;refine vk Ap ?_;refine va ?_;refine gf2 ?_;refine vk Ap ?_;refine va ?_;refine gf4 ?_;refine vk Ap ?_;refine va ?_;refine gf4 ?_;refine gf2 ?_;refine vk Ap ?_;refine RL.gk [0,2,13,96] ?_;refine .nil ?_
     cases hz
     exact jr () trivial
    have hb1:(!(decide (x5.2=0)))=true:=(ntt (dF hc))
    refine vL hb1 ?_;refine gf2 ?_;refine vk Ap ?_;refine va ?_;refine gf2 ?_;refine vk Ap ?_;refine va ?_;refine gf2 ?_;refine vk Ap ?_;refine va ?_;refine gf4 ?_;refine vk Ap ?_;refine va ?_;refine gf4 ?_;refine gf2 ?_;refine vk Ap ?_;refine RL.gk [0,2,13,96] ?_;refine .nil ?_
    cases hz
    exact jr () trivial
   have hb0:(!(decide (x3.2=0)))=true:=(ntt (dF hc))
   refine vL hb0 ?_;refine gf2 ?_;refine vk Ap ?_;refine va ?_;refine gf2 ?_;refine vk Ap ?_;refine va ?_;refine gf2 ?_;refine vk Ap ?_;refine va ?_;refine gf2 ?_;refine vk Ap ?_;refine va ?_;refine gf4 ?_;refine vk Ap ?_;refine va ?_;refine gf4 ?_;refine gf2 ?_;refine vk Ap ?_;refine RL.gk [0,2,13,96] ?_;refine .nil ?_
   cases hz
   exact jr () trivial
  rintro _ _
  rcases brc h with ⟨hc,h⟩|⟨hc,h⟩
  ·refine cnt hc ?_
   refine .sr ?_;refine ar [0,2,13] ?_;refine .ret ?_
   cases h
   exact ⟨rfl,rfl⟩
  refine cnf (bf hc) ?_;refine .sk ?_;refine .seq ?_;refine .sr ?_;refine ar [0,2,13,15] ?_
  obtain ⟨K0,hK0,h⟩:=AH h
  refine AW.mr (σ:=Bool) (fun p=>K0 p=some r) (fun p=>[(2,.d (.b p))]) (fun p=>[]) ?_ ?_
  ·skip
   refine .block ?_
   refine .loop (.gk [0,2,13,15] ?_)
   refine AL.ind (σ:=Nat×Bool×Int) (m:=fun p=>p.1) (e:=fun p=>[(0,.d (.sl (Its a0))),(2,.d (.b p.2.1)),(13,.d (.ptr [.sl (Is x12.1.shape),.sl (Its x12.1.items)])),(15,.d (.i .i64 p.2.2))]) (h:=fun p=>[]) (I:=fun p=>BR a0 x12 K0 p.1 p.2.1 p.2.2=some r) ?_ (As,false,1) h
   rintro ⟨k,s16,s17⟩ h ih
   dsimp only at h ih ⊢
   rcases k with _|k
   ·rw [BR] at h;cases h
   rw [BR] at h
   refine .seq ?_;refine .sr ?_;refine va ?_;refine va ?_;refine vk (A5 (Au _) (BS _) BO) ?_;refine vb ?_;refine rk [0,2,13,15,100] ?_
   rcases brc h with ⟨hc,h⟩|⟨hc,h⟩
   ·refine cnt (dT hc) ?_
    refine .sk ?_;refine .seq ?_;refine .block ?_;refine .seq ?_;refine .drawn 13 A6 (by kernel_rfl) ?_;refine dv (vfa AU) ?_;refine dv (Ao BX) ?_;refine dv Ae ?_;refine dv vbi ?_
    obtain ⟨x18,g18,h⟩:=bnd h
    obtain ⟨n18,p018,q18⟩:=Ah g18
    refine dv (vix n18 p018 (CD q18) rfl CF) ?_;refine dv (Ar AT Az) ?_;refine dv (vfa AU) ?_;refine dv (Ao BX) ?_;refine dv Ae ?_
    obtain ⟨x19,g19,h⟩:=bnd h
    obtain ⟨n19,p019,q19⟩:=Ah g19
    refine dv (vix n19 p019 (CD q19) rfl CF) ?_;refine dv (Ar AT Az) ?_
    obtain ⟨x20,g20,h⟩:=bnd h
    refine dv (Al (N5 g20) Tryz.call30) ?_;refine dv vbi ?_;refine dz ?_;refine rk [0,2,13,15,115] ?_
    rcases brc h with ⟨hc,h⟩|⟨hc,h⟩
    ·refine cnt (dT hc) ?_
     refine .sr ?_;refine ar [0,2,13,15] ?_;refine .ret ?_
     cases h
     exact ⟨rfl,rfl⟩
    refine cnf (dF hc) ?_;refine .sk ?_;refine .region ?_;refine va ?_;refine vb ?_;refine asd ?_;refine .nil ?_;refine AL.gk [0,2,13,15] ?_
    exact ih (k,s16,(w64 (s17+1))) h (Nat.lt_succ_self _)
   refine cnf (dF hc) ?_;refine .gk [2] ?_;refine .exit ?_
   exact jr (s16) h
  rintro z15 h
  try dsimp only at h ⊢
  subst hK0
  refine aw ?_;refine .sr ?_
  obtain ⟨x21,g21,h⟩:=bnd h
  refine vk (Al (JP g21) Tryz.call16) ?_;refine ar [2] ?_;refine .ret ?_
  cases h
  exact ⟨rfl,rfl⟩
 refine cnt (ntt (dF hc)) ?_;refine .sr ?_
 obtain ⟨x22,g22,h⟩:=bnd h
 refine vk (Al (JP g22) Tryz.call16) ?_;refine ar [0,2,3] ?_;refine .ret ?_
 cases h
 exact ⟨rfl,rfl⟩
theorem Z7 : DR=some (1,(false,[],[]),0):=rfl
theorem YY : Cy 9075=some true:=by kernel_rfl
theorem Y6 {n:Nat} (hn:n≤4096) : BB (1,(false,[],[]),0) 9075 (.mk [] [BH (n:Int)])=some (GR (C3 n),0):=by
 have h64:Ev (n:Int):=⟨by omega,by omega⟩
 have o:=TD h64
 unfold BB
 rw [YY,oB,if_pos rfl,Jw o.1 o.2,oB,if_pos rfl,Ku o.1,oB,if_neg (show ¬((9075:Int)=8834) by decide),if_neg (show ¬((9075:Int)=8835) by decide),if_neg (show ¬((9075:Int)=8593) by decide),if_neg (show ¬((9075:Int)=8714) by decide),Bp,if_neg (show ¬((9075:Int)=9035) by decide),show (decide ((9075:Int)=9042))=false from rfl]
 dsimp only
 rw [if_neg (show ¬(false=true) by decide),if_neg (show ¬((9075:Int)=8746) by decide),if_neg (show ¬((9075:Int)=8801) by decide),if_neg (show ¬((9075:Int)=8802) by decide),WY hn]
 rfl
theorem Xg {js:List Int} (h:∀ z∈js,Ev z) (h0:js≠[]) (hl:js.length≤4096) : VR (js.map BH):=by
 have e:∀ l:List Int,dIs (l.map BH)=0∧cIs (l.map BH)=0:=fun l=>by
  induction l with
  | nil=>exact ⟨rfl,rfl⟩
  | cons z l ih=>exact ⟨by rw [List.map_cons,dIs,ih.1];rfl,by rw [List.map_cons,cIs,ih.2];rfl⟩
 exact VR.of (by simpa using h0) (by simpa using hl) (fun x hx=>⟨X0 h x hx,(Tm h x hx).1⟩) (by rw [(e js).1];omega) (by rw [(e js).2,List.length_map];omega)
theorem Wu {K:Nat} {a b:Int} : Ga (K+1) (BH a) (BH b)≤0↔a≤b:=by
 have e:Ga (K+1) (BH a) (BH b)=Ei (a:Rat) (b:Rat):=by
  rw [Ga,if_pos (show (BH a).kind=(BH b).kind from rfl)]
  show (if (1:Int)=1 then Ei (Kl (rq (ofQ (a:Rat)))) (Kl (rq (ofQ (b:Rat)))) else _)=_
  rw [if_pos rfl,H7,H7]
 rw [e]
 unfold Ei
 by_cases h1:(a:Rat)<(b:Rat)
 ·have:a<b:=Rat.intCast_lt_intCast.1 h1
  rw [if_pos h1];constructor<;>intro _<;>omega
 ·have h2:¬a<b:=fun q=>h1 (Rat.intCast_lt_intCast.2 q)
  rw [if_neg h1]
  by_cases h3:(a:Rat)=(b:Rat)
  ·have:=Rat.intCast_inj.1 h3
   rw [if_pos h3];constructor<;>intro _<;>omega
  ·have:a≠b:=fun q=>h3 (by rw [q])
   rw [if_neg h3];constructor<;>intro _<;>omega
theorem Qh (n:Nat) : (C3 n).Pairwise fun x y=>x≤y:=by
 unfold C3
 rw [List.pairwise_map]
 exact List.pairwise_lt_range.imp fun h=>by omega
theorem NG {a0 ys:List Itm} (hl:a0.length≤4096) (hy:ys.length=a0.length) {K:Nat} (hR:∀ y∈ys,okI y∧Br y∧y.size<K) (hs:ys.Pairwise fun x y=>0≤Ga K x y) (K0:Bool→Option Bool) : ∀ (n i k:Nat) (s:Bool),n=a0.length-i→i≤a0.length→0<i→n<k →
  BR a0 (vec ys,0) K0 k s (i:Int)=K0 s
 | n,i,0,s,_,_,_,h=>by omega
 | n,i,k+1,s,hn,hi,h0,hk=>by
  rw [BR]
  by_cases hlt:i<a0.length
  ·have h1:i-1<ys.length:=by omega
   have h2:i<ys.length:=by omega
   have m1:=hR _ (List.getElem_mem h1)
   have m2:=hR _ (List.getElem_mem h2)
   have w1:w64 ((i:Int)-1)=((i-1:Nat):Int):=by rw [AX (by omega) (by omega)];omega
   have hle:=List.pairwise_iff_getElem.1 hs (i-1) i h1 h2 (by omega)
   have ho:Fw ys[i-1] ys[i]=some (Ga K ys[i-1] ys[i]):=(UQ m1.2.2 m1.1 m2.1).trans (congrArg some (if_pos ⟨m1.2.1,m2.2.1⟩))
   rw [if_pos (by omega),w1,show rd? (vec ys).items ((i-1:Nat):Int)=some ys[i-1] from BE h1,oB,show rd? (vec ys).items (i:Int)=some ys[i] from BE h2,oB,ho,oB,if_neg (by omega),Bo (by omega)]
   exact NG hl hy hR hs K0 (n-1) (i+1) k s (by omega) (by omega) (by omega) (by omega)
  ·rw [if_neg (by omega)]
theorem P5 {l:List Itm} (hl:l.length≤1466015503701∧∀ x∈l,okI x) : ED l=some true:=by
 have hmk:∃ r e,AZ [((List.length l:Nat):Int)] l=some (r,e):=⟨_,_,JF (fun z hz=>by rw [List.mem_singleton] at hz;omega) (by simp) hl.1 hl.2⟩
 obtain ⟨r,e,hr⟩:=hmk
 unfold ED
 rw [hr,oB]
 dsimp only
 by_cases h0:e=0
 rotate_left
 ·rw [if_neg h0,X7];rfl
 subst h0
 obtain ⟨v,rfl⟩:=XN hl.2 hl.1 hr
 have h2:=v.2.1
 have hpos:=v.pos
 -- graded down
 obtain ⟨S,p1,p2,p3⟩:=O6 v false
 have p3':BB (1,(false,[],[]),0) 9042 (vec l)=some (GR S,0):=p3
 obtain ⟨ys,ey,q1,q2,q3⟩:=NK v p1
 have lS:S.length=l.length:=by rw [p1.length_eq,Bb]
 have nS:S≠[]:=fun q=>by rw [q] at lS;simp at lS;omega
 have sS:∀ z∈S,Ev z:=fun z hz=>KH h2 z (p1.mem_iff.1 hz)
 -- the grade, graded up
 have vS:=Xg sS nS (by omega)
 have eS:GR S=vec (S.map BH):=MJ nS (by omega)
 obtain ⟨R,r1,r2,r3⟩:=O6 vS true
 have r3':BB (1,(false,[],[]),0) 9035 (GR S)=some (GR R,0):=by rw [eS];exact r3
 rw [List.length_map,lS] at r1
 obtain ⟨zs,ez,t1,t2,t3⟩:=NK vS (S:=R) (by rw [List.length_map,lS];exact r1)
 -- what is taken is one, two, three ..
 have hz:zs=(C3 l.length).map BH:=by
  obtain ⟨ws,hw⟩:∃ ws:List Int,zs=ws.map BH:=⟨R.map fun z=>S.getD (z-1).toNat 0,by
   rw [ez,List.map_map]
   refine List.map_congr_left fun z hz=>?_
   have hz':=KI z (r1.mem_iff.1 hz)
   have hi:(z-1).toNat<S.length:=by omega
   show (S.map BH).getD (z-1).toNat default=BH (S.getD (z-1).toNat 0)
   rw [CZ (by rw [List.length_map];exact hi),CZ hi,List.getElem_map]⟩
  have hinj:∀ a b:Int,BH a=BH b→a=b:=fun a b h=>by
   have h1:ofQ ((a:Int):Rat)=ofQ ((b:Int):Rat):=congrArg Itm.num h
   have h2:=congrArg (fun r=>Kl (rq r)) h1
   rw [H7,H7] at h2
   exact Rat.intCast_inj.1 h2
  have hperm:ws.Perm (C3 l.length):=by
   have h1:(ws.map BH).Perm (S.map BH):=by rw [← hw];exact t1
   have h2:=(h1.map fun x:Itm=>(Kl (rq x.num)).num)
   rw [List.map_map,List.map_map] at h2
   have e:∀ js:List Int,js.map ((fun x:Itm=>(Kl (rq x.num)).num) ∘ BH)=js:=fun js=>by
    have:((fun x:Itm=>(Kl (rq x.num)).num) ∘ BH)=id:=by
     funext a
     show (Kl (rq (ofQ (a:Rat)))).num=a
     rw [H7];exact Rat.num_intCast a
    rw [this,List.map_id]
   rw [e,e] at h2
   exact h2.trans p1
  have hsort:ws.Pairwise fun x y=>x≤y:=by
   have h1:zs.Pairwise fun x y=>Ga (itsSize (S.map BH)+1) x y≤0:=by
    rw [ez,List.pairwise_map]
    refine r2.imp fun {i j} h=>?_
    have h':¬(1 * Ga (itsSize (S.map BH)+1) ((S.map BH).getD (j-1).toNat default) ((S.map BH).getD (i-1).toNat default)<0):=h
    rw [Int.one_mul] at h'
    have:=(Jo (itsSize (S.map BH)+1)).anti ((S.map BH).getD (i-1).toNat default) ((S.map BH).getD (j-1).toNat default)
    omega
   rw [hw,List.pairwise_map] at h1
   exact h1.imp fun h=>Wu.1 h
  have hws:ws=C3 l.length:=List.Perm.eq_of_pairwise (le:=fun x y:Int=>x≤y) (fun a b _ _ h1 h2=>by omega) hsort (Qh _) hperm
  rw [hw,hws]
 have nN:C3 l.length≠[]:=fun q=>by have:=congrArg List.length q;rw [Bb,List.length_nil] at this;omega
 have t3':Gc (1,(false,[],[]),0) (GR S) [[GR R]]=some (GR (C3 l.length),0):=by
  rw [eS,t3,hz,MJ nN (by rw [Bb];exact h2)]
 have o7:=P8 (KH h2)
 have hlen:=q1.length_eq
 have hR:∀ y∈ys,okI y∧Br y∧y.size<itsSize l+1:=fun y hy=>⟨(q2.items y hy).1,(q2.items y hy).2,QR (q1.mem_iff.1 hy)⟩
 have hs:ys.Pairwise fun x y=>0≤Ga (itsSize l+1) x y:=by
  rw [ey,List.pairwise_map]
  refine p2.imp fun {i j} h=>?_
  have h':¬((-1) * Ga (itsSize l+1) (l.getD (j-1).toNat default) (l.getD (i-1).toNat default)<0):=h
  have:=(Jo (itsSize l+1)).anti (l.getD (i-1).toNat default) (l.getD (j-1).toNat default)
  omega
 have e1:=NG h2 hlen hR hs (fun (_:Bool)=>(Fr.bind fun x21=>(some (x21)))) (l.length-1) 1 As false rfl hpos (by decide) (AY (by omega))
 rw [show ((1:Nat):Int)=1 from rfl] at e1
 rw [if_pos rfl]
 simp only [Z7,oB,p3',r3',t3',Zq (show Ev ((l.length:Nat):Int) from ⟨by omega,by omega⟩),Y6 h2,q3,if_true,(XS o7).yes rfl,jn]
 rw [if_neg (by simp [vec,Arr.items,hlen]),e1,X7];rfl
end Go.FL
namespace Go.Proofs.YtjmalfcinmmekaaGreat.pickRanks
open Go.ChangeShapes Go.WideShapes Go.ChangeAt Go.RowKit Go.FL
theorem own : ownKnob Tryz.prog.godebug=none:=by kernel_rfl
theorem laid : laidOutB Tryz.prog=true:=by kernel_rfl
theorem params : ∀ t∈Tryz.f10.params.toList,Tryz.prog.readableRec t=true∧t<Tryz.prog.types.size:=by
 intro t ht
 simp only [Tryz.params10,List.mem_cons,List.not_mem_nil,or_false] at ht
 rcases ht with rfl<;>exact ⟨by kernel_rfl,of_decide_eq_true (by kernel_rfl)⟩
set_option maxRecDepth 100000 in
theorem lifted (os:Os) (started:os.Started) (H:Type) (enc:TypeId×Value→H) :
  ReturnsInHanded {} Tryz.checked os 10 .any (Rows.pickRanksSpec.pre6 enc Tryz.prog Tryz.f10 Rows.pickRanksRow.domain false) (Rows.pickRanksSpec.post enc Tryz.prog Tryz.f10 false true false false):=by
 refine returnsInHanded_of_change_sized (C:=Tryz.checked) own started (by kernel_rfl) Tryz.func10
  (ChangeSpec.witness6 (enc:=enc) (C:=Tryz.checked) false ⟨#[],#[.slice none 0 0],[]⟩ 8 (by kernel_rfl) (by kernel_rfl) (by kernel_rfl) (by kernel_rfl)) ?_
 intro W base args ds gs before hval0 hW hcnd hsz _
 have hval:∀ (j:Nat) t v,Tryz.f10.params[j]?=some t→args[j]?=some v→Value.okWide Tryz.prog W .any base t v:=hval0
 have hW':=hW
 obtain ⟨p,q,hA0,hV,rfl,hfz,hnd⟩:=hW
 have hA:DataW.TrodAll enc Tryz.prog W 0 (fun _=>true) true Tryz.f10.params.toList args.toList ds p:=hA0
 rw [Tryz.params10] at hA hval
 obtain ⟨v0,vs0,d0,ds0,p0,q0,hargs,rfl,rfl,h0,r0⟩:=trodAll_cons hA
 obtain ⟨rfl,rfl,rfl⟩:=trodAll_nil r0
 obtain rfl:args=#[v0]:=by cases args;simp_all
 obtain ⟨rfl,rfl⟩:=trodVars_none hV
 rw [Tryz.params10] at hsz
 have w0:∀ m∈DataW.weights Tryz.prog 25 d0,m≤reachBytes:=fun m hm=>by simpa using List.all_eq_true.1 hsz m (DataW.weights_mem_each (j:=0) rfl rfl m hm)
 obtain ⟨a0,o0,e0⟩:=UW (v:=v0) Wk (by obtain ⟨x0,x1,x2,rfl⟩:=okWide_slice Tryz.underlying25 (hval 0 25 v0 rfl rfl);rfl) h0 w0
 refine (UJ (J0 (P5 o0)) (.cons e0 .nil)).mono fun e W' ⟨he,hb⟩=>?_
 subst he
 exact ⟨_,rfl,Wb hW' rfl (fun _=>rfl) rfl Tryz.underlying4 laid params hb⟩
theorem over : Rows.pickRanksRow.holds Tryz.pinned (OpenSpec.ofChange Rows.pickRanksSpec) :=
 OpenClaim.holds_of_wide 10 Tryz.f10 rfl rfl rfl rfl rfl rfl rfl ⟨rfl,rfl,rfl,rfl,rfl⟩ rfl rfl rfl rfl rfl (by kernel_rfl) Tryz.func10 (by kernel_rfl)
  (of_decide_eq_true (by kernel_rfl)) (by unfold Func.isWrapper;first|(rw [if_pos (by decide +kernel)];kernel_rfl)|(rw [if_neg (by decide +kernel)];exact ⟨rfl,rfl⟩))
  (fun os started H enc _=>lifted os started H enc)
theorem proved : Rows.PickRanksSaid :=
 over
end Go.Proofs.YtjmalfcinmmekaaGreat.pickRanks
