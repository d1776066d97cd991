/-
  The law: its function printed as a pure function, its contract, the plain law, the statement
-/
import Derived.Test.YtginckjifacnhaaGreatPqF
import Derived.Test.YtginckjifacnhaaGreatRows
set_option linter.unusedVariables false
namespace Go.FL
open Go Go.Proofs
def Bt (a0:(List Itm)) (x9:Arr×Int) (K0:Bool→Option (Bool)) : Nat→Bool→Int→Option (Bool)
 | 0,_,_=>none
 | k+1,s14,s15=>(if s15<((List.length a0:Nat):Int) then ((rd? x9.1.items s15).bind fun x16=>((Fq 1).bind fun x17=>((Ha x16.num x17).bind fun x18=>(if x18=true then (Bt a0 x9 K0 k s14 (w64 (s15+1))) else (some (false)))))) else (K0 s14))
def DW (a0:(List Itm)) : Option (Bool):=((A9 ([((List.length a0:Nat) : Int)]) a0).bind fun x1=>(if x1.2=0 then (D1.bind fun x2=>((Dd x2 8746 x1.1).bind fun x3=>(D1.bind fun x4=>((Dd x4 8746 x3.1).bind fun x5=>(D1.bind fun x6=>((CH x6 126 x1.1 x3.1).bind fun x7=>(D1.bind fun x8=>((CH x8 8714 x1.1 x3.1).bind fun x9=>(Option.bind ((if x3.2=0 then (if x5.2=0 then (if x7.2=0 then (if x9.2=0 then ((KS x3.1 x5.1).bind fun x11=>(if x11=true then ((FK x7.1).bind fun x12=>(if ((List.length x12:Nat) : Int)=0 then (some (!(decide (((List.length x9.1.items:Nat) : Int)=((List.length a0:Nat) : Int))))) else (some true))) else (some true))) else (some true)) else (some true)) else (some true)) else (some true)) : Option (Bool)) fun (z10:Bool)=>(if z10=true then (some (false)) else (jn (fun (z13:Bool)=>(F7.bind fun x19=>(some (x19)))) fun K0=>(Bt a0 x9 K0 AJ false 0)))))))))))) else (F7.bind fun x20=>(some (x20)))))
set_option maxHeartbeats 4000000 in
theorem Jc {a0:(List Itm)} {r:Bool} (h:DW a0=some r) :
  Fn Tryz.prog 3 [.sl (Its a0)] (.d (.b r)):=by
 unfold DW at h
 refine Fn.o1 2 101 Tryz.func3 ?_;refine .sr<|kR [0,2] zj<|.sr<|kA zj<|kK (A8 (Af _) (BD _) Bh)<|kK ((GK (Fb [((List.length a0:Nat):Int)]) Ga).deep)<|kA zj ?_
 obtain ⟨x1,g1,h⟩:=bnd h
 refine kK (VOK.tupd (vs:=[.ag [.sl (Is x1.1.shape),.sl (Its x1.1.items)],.i .i64 x1.2]) (Al (Fc g1) Tryz.call5))<|kA zj<|kK vex<|kK vex<|kK (van (Ai AR) A0) ?_
 refine stn ?_ Ac (by decide)
 refine kR [0,2,3,4] zj<|.seq<|.sr<|kA zj<|kB zj<|rk [0,2,3,23] ?_
 rcases brc h with ⟨hc,h⟩|⟨hc,h⟩
 ·refine cnf (ntf (dT hc)) ?_
  refine .sk ?_;refine .seq ?_
  obtain ⟨x2,g2,h⟩:=bnd h
  obtain ⟨x3,g3,h⟩:=bnd h
  refine .drawnF 7 [5] [(5,.nb [.sl (Is x3.1.shape),.sl (Its x3.1.items)])] [] A5 (by kernel_rfl) rfl ?_;refine kV (Al (DU g2) Tryz.call8)<|kV (CR Ag Ac)<|kV (VOK.tupd (vs:=[.ag [.sl (Is x3.1.shape),.sl (Its x3.1.items)],.i .i64 x3.2]) (Al (Fy g3) Tryz.call7))<|kV Ad<|kV vex<|kV vex<|kV (van (Ai AR) A0)<|dz ?_
  refine ⟨?_,?_,?_⟩
  ·intro k hk
   simp only [List.mem_cons,List.not_mem_nil,or_false] at hk
   subst hk
   exact ⟨_,_,_,rfl,rfl,rfl,rfl,rfl,rfl,vex⟩
  ·intro om e hom hge
   cases hom
   exact Gb (cs:=[.sl (Is []),.sl (Its [])]) (cs':=[.sl (Is x3.1.shape),.sl (Its x3.1.items)]) Ac (by decide) rfl ((hge 5 (fun k hk v hv=>by
     simp only [List.mem_cons,List.not_mem_nil,or_false] at hk
     subst hk;exact (by decide:¬(some 30=some 5)) (congrArg (Option.map Prod.fst) hv))).trans rfl) ((congrArg AU (hge 29 (fun k hk v hv=>by
     simp only [List.mem_cons,List.not_mem_nil,or_false] at hk
     subst hk;exact (by decide:¬(some 30=some 29)) (congrArg (Option.map Prod.fst) hv)))).trans rfl) rfl rfl rfl rfl ⟨rfl,rfl⟩
  refine kR [0,2,3,5,6] zj<|.seq ?_
  obtain ⟨x4,g4,h⟩:=bnd h
  obtain ⟨x5,g5,h⟩:=bnd h
  refine .drawnF 7 [5] [(7,.nb [.sl (Is x5.1.shape),.sl (Its x5.1.items)])] [] A5 (by kernel_rfl) rfl ?_;refine kV (Al (DU g4) Tryz.call8)<|kV (CR Ag Ac)<|kV (VOK.tupd (vs:=[.ag [.sl (Is x5.1.shape),.sl (Its x5.1.items)],.i .i64 x5.2]) (Al (Fy g5) Tryz.call7))<|kV Ad<|kV vex<|kV vex<|kV (van (Ai AR) A0)<|dz ?_
  refine ⟨?_,?_,?_⟩
  ·intro k hk
   simp only [List.mem_cons,List.not_mem_nil,or_false] at hk
   subst hk
   exact ⟨_,_,_,rfl,rfl,rfl,rfl,rfl,rfl,vex⟩
  ·intro om e hom hge
   cases hom
   exact Gb (cs:=[.sl (Is []),.sl (Its [])]) (cs':=[.sl (Is x5.1.shape),.sl (Its x5.1.items)]) Ac (by decide) rfl ((hge 7 (fun k hk v hv=>by
     simp only [List.mem_cons,List.not_mem_nil,or_false] at hk
     subst hk;exact (by decide:¬(some 36=some 7)) (congrArg (Option.map Prod.fst) hv))).trans rfl) ((congrArg AU (hge 35 (fun k hk v hv=>by
     simp only [List.mem_cons,List.not_mem_nil,or_false] at hk
     subst hk;exact (by decide:¬(some 36=some 35)) (congrArg (Option.map Prod.fst) hv)))).trans rfl) rfl rfl rfl rfl ⟨rfl,rfl⟩
  refine kR [0,2,3,5,6,7,8] zj<|.seq ?_
  obtain ⟨x6,g6,h⟩:=bnd h
  obtain ⟨x7,g7,h⟩:=bnd h
  refine .drawnF 8 [6] [(9,.nb [.sl (Is x7.1.shape),.sl (Its x7.1.items)])] [] A5 (by kernel_rfl) rfl ?_;refine kV (Al (DU g6) Tryz.call8)<|kV (CR Ag Ac)<|kV (CR Ag Ac)<|kV (VOK.tupd (vs:=[.ag [.sl (Is x7.1.shape),.sl (Its x7.1.items)],.i .i64 x7.2]) (Al (F6 g7) Tryz.call9))<|kV Ad<|kV vex<|kV vex<|kV (van (Ai AR) A0)<|dz ?_
  refine ⟨?_,?_,?_⟩
  ·intro k hk
   simp only [List.mem_cons,List.not_mem_nil,or_false] at hk
   subst hk
   exact ⟨_,_,_,rfl,rfl,rfl,rfl,rfl,rfl,vex⟩
  ·intro om e hom hge
   cases hom
   exact Gb (cs:=[.sl (Is []),.sl (Its [])]) (cs':=[.sl (Is x7.1.shape),.sl (Its x7.1.items)]) Ac (by decide) rfl ((hge 9 (fun k hk v hv=>by
     simp only [List.mem_cons,List.not_mem_nil,or_false] at hk
     subst hk;exact (by decide:¬(some 43=some 9)) (congrArg (Option.map Prod.fst) hv))).trans rfl) ((congrArg AU (hge 42 (fun k hk v hv=>by
     simp only [List.mem_cons,List.not_mem_nil,or_false] at hk
     subst hk;exact (by decide:¬(some 43=some 42)) (congrArg (Option.map Prod.fst) hv)))).trans rfl) rfl rfl rfl rfl ⟨rfl,rfl⟩
  refine kR [0,2,3,5,6,7,8,9,10] zj<|.seq ?_
  obtain ⟨x8,g8,h⟩:=bnd h
  obtain ⟨x9,g9,h⟩:=bnd h
  refine .drawnF 8 [6] [(11,.nb [.sl (Is x9.1.shape),.sl (Its x9.1.items)])] [] A5 (by kernel_rfl) rfl ?_;refine kV (Al (DU g8) Tryz.call8)<|kV (CR Ag Ac)<|kV (CR Ag Ac)<|kV (VOK.tupd (vs:=[.ag [.sl (Is x9.1.shape),.sl (Its x9.1.items)],.i .i64 x9.2]) (Al (F6 g9) Tryz.call9))<|kV Ad<|kV vex<|kV vex<|kV (van (Ai AR) A0)<|dz ?_
  refine ⟨?_,?_,?_⟩
  ·intro k hk
   simp only [List.mem_cons,List.not_mem_nil,or_false] at hk
   subst hk
   exact ⟨_,_,_,rfl,rfl,rfl,rfl,rfl,rfl,vex⟩
  ·intro om e hom hge
   cases hom
   exact Gb (cs:=[.sl (Is []),.sl (Its [])]) (cs':=[.sl (Is x9.1.shape),.sl (Its x9.1.items)]) Ac (by decide) rfl ((hge 11 (fun k hk v hv=>by
     simp only [List.mem_cons,List.not_mem_nil,or_false] at hk
     subst hk;exact (by decide:¬(some 50=some 11)) (congrArg (Option.map Prod.fst) hv))).trans rfl) ((congrArg AU (hge 49 (fun k hk v hv=>by
     simp only [List.mem_cons,List.not_mem_nil,or_false] at hk
     subst hk;exact (by decide:¬(some 50=some 49)) (congrArg (Option.map Prod.fst) hv)))).trans rfl) rfl rfl rfl rfl ⟨rfl,rfl⟩
  refine kR [0,2,5,6,7,8,9,10,11,12] zj<|.seq<|.seq<|.gh (Gh.nbp (t:=11) rfl) ?_
  obtain ⟨z10,hz,h⟩:=bnd h
  refine AW.mr (σ:=Unit) (fun _=>True) (fun _=>[(0,.d (.sl (Its a0))),(2,.d (.b false)),(11,.d (.ptr [.sl (Is x9.1.shape),.sl (Its x9.1.items)])),(84,.d (.b z10))]) (fun _=>[]) ?_ ?_
  ·skip
   refine .region<|kA zj<|kB zj ?_
   rcases brc hz with ⟨hc,hz⟩|⟨hc,hz⟩
   ·have hb0:(!(decide (x3.2=0)))=false:=(ntf (dT hc))
    refine kC zj hb0<|kA zj<|kB zj<|kK As ?_
    rcases brc hz with ⟨hc,hz⟩|⟨hc,hz⟩
    ·have hb1:(!(decide (x5.2=0)))=false:=(ntf (dT hc))
     refine kC zj hb1<|kA zj<|kB zj<|kK As ?_
     rcases brc hz with ⟨hc,hz⟩|⟨hc,hz⟩
     ·have hb2:(!(decide (x7.2=0)))=false:=(ntf (dT hc))
      refine kC zj hb2<|kA zj<|kB zj<|kK As ?_
      rcases brc hz with ⟨hc,hz⟩|⟨hc,hz⟩
      ·have hb3:(!(decide (x9.2=0)))=false:=(ntf (dT hc))
       refine kC zj hb3<|kK (CR Ag Ac)<|kK (CR Ag Ac) ?_
       obtain ⟨x11,g11,hz⟩:=bnd hz
       refine kK (Al (Pj g11) Tryz.call10)<|kK vnt<|kK As ?_
       rcases brc hz with ⟨hc,hz⟩|⟨hc,hz⟩
       ·have hb4:(!x11)=false:=(ntf hc)
        refine kC zj hb4<|kK (CR Ag Ac) ?_
        obtain ⟨x12,g12,hz⟩:=bnd hz
        refine kK (Al (LM g12) Tryz.call11)<|kK (A8 (Af _) (BD _) Bh)<|kB zj<|kK As ?_
        rcases brc hz with ⟨hc,hz⟩|⟨hc,hz⟩
        ·have hb5:(!(decide (((List.length x12:Nat):Int)=0)))=false:=(ntf (dT hc))
         refine kC zj hb5<|kK (vfa AP)<|kK (Am BG)<|kK (A8 (Af _) (BD _) Bh)<|kA zj<|kK (A8 (Af _) (BD _) Bh)<|kB zj<|kK As<|RL.gk [0,2,11,84]<|.nil ?_
         cases hz
         exact jr () trivial
        have hb5:(!(decide (((List.length x12:Nat):Int)=0)))=true:=(ntt (dF hc))
        refine kC zj hb5<|gf4 ?_;refine gf2 ?_;refine kK As<|RL.gk [0,2,11,84]<|.nil ?_
        cases hz
        exact jr () trivial
       have hb4:(!x11)=true:=(ntt (bf hc))
       refine kC zj hb4<|gf4 ?_;refine kK As<|kA zj<|gf4 ?_;refine gf2 ?_;refine kK As<|RL.gk [0,2,11,84]<|.nil ?_
       cases hz
       exact jr () trivial
      have hb3:(!(decide (x9.2=0)))=true:=(ntt (dF hc))
      refine kC zj hb3<|gf4 ?_;refine kK As<|kA zj<|gf4 ?_;refine kK As<|kA zj<|gf4 ?_;refine gf2 ?_;refine kK As<|RL.gk [0,2,11,84]<|.nil ?_
      cases hz
      exact jr () trivial
     have hb2:(!(decide (x7.2=0)))=true:=(ntt (dF hc))
     refine kC zj hb2<|gf2 ?_;refine kK As<|kA zj<|gf4 ?_;refine kK As<|kA zj<|gf4 ?_;refine kK As<|kA zj<|gf4 ?_;refine gf2 ?_;refine kK As<|RL.gk [0,2,11,84]<|.nil ?_
     cases hz
     exact jr () trivial
    have hb1:(!(decide (x5.2=0)))=true:=(ntt (dF hc))
    refine kC zj hb1<|gf2 ?_;refine kK As<|kA zj<|gf2 ?_;refine kK As<|kA zj<|gf4 ?_;refine kK As<|kA zj<|gf4 ?_;refine kK As<|kA zj<|gf4 ?_;refine gf2 ?_;refine kK As<|RL.gk [0,2,11,84]<|.nil ?_
    cases hz
    exact jr () trivial
   have hb0:(!(decide (x3.2=0)))=true:=(ntt (dF hc))
   refine kC zj hb0<|gf2 ?_;refine kK As<|kA zj<|gf2 ?_;refine kK As<|kA zj<|gf2 ?_;refine kK As<|kA zj<|gf4 ?_;refine kK As<|kA zj<|gf4 ?_;refine kK As<|kA zj<|gf4 ?_;refine gf2 ?_;refine kK As<|RL.gk [0,2,11,84]<|.nil ?_
   cases hz
   exact jr () trivial
  rintro _ _
  rcases brc h with ⟨hc,h⟩|⟨hc,h⟩
  ·refine cnt hc ?_
   refine .sr<|kR [0,2,11] zj<|.ret ?_
   cases h
   exact ⟨rfl,rfl⟩
  refine cnf (bf hc) ?_;refine .sk ?_;refine .seq<|.sr<|kR [0,2,11,13] zj ?_
  obtain ⟨K0,hK0,h⟩:=AX h
  refine AW.mr (σ:=Bool) (fun p=>K0 p=some r) (fun p=>[(2,.d (.b p))]) (fun p=>[]) ?_ ?_
  ·skip
   refine .block ?_
   refine .loop (.gk [0,2,11,13] ?_)
   refine AL.ind (σ:=Nat×Bool×Int) (m:=fun p=>p.1) (e:=fun p=>[(0,.d (.sl (Its a0))),(2,.d (.b p.2.1)),(11,.d (.ptr [.sl (Is x9.1.shape),.sl (Its x9.1.items)])),(13,.d (.i .i64 p.2.2))]) (h:=fun p=>[]) (I:=fun p=>Bt a0 x9 K0 p.1 p.2.1 p.2.2=some r) ?_ (AJ,false,0) h
   rintro ⟨k,s14,s15⟩ h ih
   dsimp only at h ih ⊢
   rcases k with _|k
   ·rw [Bt] at h;cases h
   rw [Bt] at h
   refine .seq<|.sr<|kA zj<|kA zj<|kK (A8 (Af _) (BD _) Bh)<|kB zj<|rk [0,2,11,13,88] ?_
   rcases brc h with ⟨hc,h⟩|⟨hc,h⟩
   ·refine cnt (dT hc) ?_
    refine .sk ?_;refine .seq<|.block<|.seq<|.drawn 9 A5 (by kernel_rfl) ?_;refine kV (vfa AP)<|kV (Am BG)<|kV Ad ?_
    obtain ⟨x16,g16,h⟩:=bnd h
    obtain ⟨n16,p016,q16⟩:=Ar g16
    refine kV (vix n16 p016 (BI q16) rfl Bp)<|kV (vfa BY)<|kV (Au A1 AD) ?_
    obtain ⟨x17,g17,h⟩:=bnd h
    refine dv (Al (Mm g17) Tryz.call13) ?_
    obtain ⟨x18,g18,h⟩:=bnd h
    refine kV (Al (Lw g18) Tryz.call12)<|kV vnt<|dz ?_;refine rk [0,2,11,13,99] ?_
    rcases brc h with ⟨hc,h⟩|⟨hc,h⟩
    ·refine cnf (ntf hc) ?_
     refine .sk ?_;refine .region<|kA zj<|kB zj<|kD zj<|.nil ?_;refine AL.gk [0,2,11,13] ?_
     exact ih (k,s14,(w64 (s15+1))) h (Nat.lt_succ_self _)
    refine cnt (ntt (bf hc)) ?_;refine .sr<|kR [0,2,11,13] zj<|.ret ?_
    cases h
    exact ⟨rfl,rfl⟩
   refine cnf (dF hc) ?_;refine .gk [2]<|.exit ?_
   exact jr (s14) h
  rintro z13 h
  try dsimp only at h ⊢
  subst hK0
  refine aw<|.sr ?_
  obtain ⟨x19,g19,h⟩:=bnd h
  refine kK (Al (Jf g19) Tryz.call6)<|kR [2] zj<|.ret ?_
  cases h
  exact ⟨rfl,rfl⟩
 refine cnt (ntt (dF hc)) ?_;refine .sr ?_
 obtain ⟨x20,g20,h⟩:=bnd h
 refine kK (Al (Jf g20) Tryz.call6)<|kR [0,2,3] zj<|.ret ?_
 cases h
 exact ⟨rfl,rfl⟩
theorem Abh : D1=some (1,(false,[],[]),0):=rfl
theorem Xg : Ee 8746=some true:=by kernel_rfl
theorem Xr : DA 126=some true:=by kernel_rfl
theorem Ye : DA 8714=some true:=by kernel_rfl
theorem UJ {u:List Itm} (v:VR u) (p:Itm) : C6 u p=some (vec u,0):=by
 unfold C6
 rw [C9,if_neg (by have:=v.pos;omega)]
 dsimp only
 rw [v.make];rfl
theorem SD {l:List Itm} (v:VR l) : C6 [] (tyI (l.headD default))=some (.mk [0] [tyI (l.headD default)],0):=by
 unfold C6
 rw [C9,if_pos (show ((List.length ([]:List Itm):Nat):Int)=0 from rfl)]
 dsimp only
 rw [show ((List.length ([]:List Itm):Nat):Int)=0 from rfl,v.zero.1];rfl
theorem Tr {l:List Itm} (v:VR l) : VR (frL l SM.nil).1∧Dd (1,(false,[],[]),0) 8746 (vec l)=some (vec (frL l SM.nil).1,0):=by
 have hu:VR (frL l SM.nil).1:=by
  refine v.sub (PH l SM.nil) fun h=>?_
  cases hl:l with
  | nil=>exact v.1 hl
  | cons x r=>rw [hl,frL,SM.get_nil,if_neg (by simp)] at h;cases h
 refine ⟨hu,?_⟩
 unfold Dd
 rw [Xg,oB,if_pos rfl,TS v.ok v.2.2.2,oB,if_pos rfl,G5 v,oB,if_neg (show ¬((8746:Int)=8834) by decide),if_neg (show ¬((8746:Int)=8835) by decide),if_neg (show ¬((8746:Int)=8593) by decide),if_neg (show ¬((8746:Int)=8714) by decide),C9,if_neg (show ¬((8746:Int)=9035) by decide),show (decide ((8746:Int)=9042))=false from rfl]
 dsimp only
 rw [if_neg (show ¬(false=true) by decide),if_pos rfl,if_neg (show ¬(1<((List.length (vec l).shape:Nat):Int)) by show ¬((1:Int)<1);decide),MX v.items v.2.1,oB,No v.ok v.2.2.2,oB,UJ hu,oB]
theorem Xh {l u:List Itm} (v:VR l) (w:VR u) (h:∀ x∈l,((frL u SM.nil).2.get (kk x)).isSome=true) : CH (1,(false,[],[]),0) 126 (vec l) (vec u)=some (.mk [0] [tyI (l.headD default)],0):=by
 have hs:G7 126 (vec l) (vec u)=some (.mk [0] [tyI (l.headD default)],0):=by
  unfold G7
  rw [if_neg (show ¬(1<((List.length (vec l).shape:Nat):Int)) by show ¬((1:Int)<1);decide),if_neg (show ¬((126:Int)=8746) by decide),G5 v,oB,G5 w,oB,MX w.items w.2.1,oB]
  have hd:Kn (frL u SM.nil).2 l=some []:=by
   unfold Kn
   rw [if_pos (by have:=v.2.1;omega),Tt fun x hx=>⟨v.items x hx,h x hx⟩];rfl
  rw [hd,oB,No v.ok v.2.2.2,oB,show (vec l).items=l from rfl,SD v];rfl
 unfold CH
 rw [Xr,oB,if_pos rfl,OB v.ok v.2.2.2 w.ok w.2.2.2,oB,if_pos rfl,if_neg (show ¬((126:Int)=8835) by decide),if_neg (show ¬((126:Int)=8868) by decide),if_neg (show ¬((126:Int)=8869) by decide),C9,if_neg (show ¬((126:Int)=8801) by decide),show (decide ((126:Int)=8802))=false from rfl]
 dsimp only
 rw [if_neg (show ¬(false=true) by decide),if_neg (show ¬((126:Int)=9075) by decide),if_neg (show ¬((126:Int)=8714) by decide),if_neg (show ¬((126:Int)=9015) by decide),hs];rfl
def inN (m:SM) (x:Itm) : Int:=if (m.get (kk x)).isSome=true then 1 else 0
theorem ZK (m:SM) (x:Itm) : Hw (inN m x):=by unfold inN;split<;>exact ⟨by omega,by omega⟩
theorem ZC {l u:List Itm} (v:VR l) (w:VR u) : CH (1,(false,[],[]),0) 8714 (vec l) (vec u)=some (vec ((l.map (inN (frL u SM.nil).2)).map Da),0):=by
 unfold CH
 rw [Ye,oB,if_pos rfl,OB v.ok v.2.2.2 w.ok w.2.2.2,oB,if_pos rfl,if_neg (show ¬((8714:Int)=8835) by decide),if_neg (show ¬((8714:Int)=8868) by decide),if_neg (show ¬((8714:Int)=8869) by decide),C9,if_neg (show ¬((8714:Int)=8801) by decide),show (decide ((8714:Int)=8802))=false from rfl]
 dsimp only
 rw [if_neg (show ¬(false=true) by decide),if_neg (show ¬((8714:Int)=9075) by decide),if_pos rfl,G5 w,oB,MX w.items w.2.1,oB,XO (f:=inN (frL u SM.nil).2) v fun x hx=>⟨?_,ZK _ _⟩]
 ·rfl
 ·show D4 x (frL u SM.nil).2=_
  unfold D4 inN HA
  rw [VD (v.items x hx).1 (v.items x hx).2,oB]
  split<;>rfl
theorem Qd {l:List Itm} {ns:List Int} (h1:∀ z∈ns,z=1) (hn:ns.length=l.length) (h2:l.length≤4096) (K:Bool→Option Bool) : ∀ (n i k:Nat) (s:Bool),n=l.length-i→i≤l.length→n<k →
  Bt l (vec (ns.map Da),0) K k s (i:Int)=K s
 | n,i,0,s,_,_,h=>by omega
 | n,i,k+1,s,hn',hi,hk=>by
  rw [Bt]
  by_cases hlt:i<l.length
  ·have hin:i<(ns.map Da).length:=by rw [List.length_map,hn];exact hlt
   have e:(ns.map Da)[i]=Da 1:=by rw [List.getElem_map,h1 _ (List.getElem_mem _)]
   rw [if_pos (by omega)]
   dsimp only
   rw [show (vec (ns.map Da)).items=ns.map Da from rfl,CC hin,e,oB,Qk (by omega) (by omega),oB,show (Da 1).num=ofQ ((1:Int):Rat) from rfl,NC (G0 (EV ⟨by omega,by omega⟩)),oB,if_pos rfl,CU (by omega)]
   exact Qd h1 hn h2 K (n-1) (i+1) k s (by omega) (by omega) (by omega)
  ·rw [if_neg (by omega)]
theorem SO (x:Itm) : FK (.mk [0] [x])=some []:=by kernel_rfl
theorem NK {l:List Itm} (hl:l.length≤1466015503701∧∀ x∈l,okI x) : DW l=some true:=by
 have hmk:∃ r e,A9 [((List.length l:Nat):Int)] l=some (r,e):=⟨_,_,J0 (fun z hz=>by rw [List.mem_singleton] at hz;omega) (by simp) hl.1 hl.2⟩
 obtain ⟨r,e,hr⟩:=hmk
 unfold DW
 rw [hr,oB,Aaj]
 dsimp only
 by_cases h0:e=0
 rotate_left
 ·rw [if_neg h0];rfl
 subst h0
 obtain ⟨v,rfl⟩:=X9 hl.2 hl.1 hr
 obtain ⟨w,e3⟩:=Tr v
 obtain ⟨_,e5⟩:=Tr w
 have hid:(frL (frL l SM.nil).1 SM.nil).1=(frL l SM.nil).1:=VU (PC l SM.nil).1 fun x _=>rfl
 rw [hid] at e5
 have hk:∀ x∈l,((frL (frL l SM.nil).1 SM.nil).2.get (kk x)).isSome=true:=fun x hx=>by
  rw [KO]
  rcases Pe l SM.nil x hx with h|⟨y,hy,e⟩
  ·cases h
  ·exact .inr ⟨y,hy,e⟩
 have e7:=Xh v w hk
 have e9:=ZC v w
 have h1:∀ z∈l.map (inN (frL (frL l SM.nil).1 SM.nil).2),z=1:=fun z hz=>by
  obtain ⟨x,hx,rfl⟩:=List.mem_map.1 hz
  unfold inN
  rw [if_pos (hk x hx)]
 have h12:=SO (tyI (l.headD default))
 rw [if_pos rfl,Abh,oB,e3,oB,oB]
 dsimp only
 rw [e5,oB,oB,e7,oB,oB,e9,oB]
 dsimp only
 rw [if_pos rfl,if_pos rfl,if_pos rfl,if_pos rfl,(Xb w.ok).yes rfl,oB,if_pos rfl,h12,oB,if_pos (show ((List.length ([]:List Itm):Nat):Int)=0 from rfl),oB]
 rw [if_neg (by show ¬((!decide (((List.length ((l.map (inN (frL (frL l SM.nil).1 SM.nil).2)).map Da):Nat):Int)=((List.length l:Nat):Int)))=true);simp),C9]
 have e:=Qd h1 (by simp) v.2.1 (fun (z13:Bool)=>((some true).bind fun x19=>(some (x19)))) l.length 0 AJ false rfl (Nat.zero_le _) (CL (by have:=v.2.1;omega))
 exact e
end Go.FL
namespace Go.Proofs.YtginckjifacnhaaGreat.pickUnique
open Go.ChangeShapes Go.WideShapes Go.ChangeAt Go.RowKit Go.FL
theorem own : ownKnob Tryz.prog.godebug=none:=by kernel_rfl
theorem laid : laidOutB Tryz.prog=true:=by kernel_rfl
theorem params : ∀ t∈Tryz.f3.params.toList,Tryz.prog.readableRec t=true∧t<Tryz.prog.types.size:=by
 intro t ht
 simp only [Tryz.params3,List.mem_cons,List.not_mem_nil,or_false] at ht
 rcases ht with rfl<;>exact ⟨by kernel_rfl,of_decide_eq_true (by kernel_rfl)⟩
set_option maxRecDepth 100000 in
theorem lifted (os:Os) (started:os.Started) (H:Type) (enc:TypeId×Value→H) :
  ReturnsInHanded {} Tryz.checked os 3 .any (Rows.pickUniqueSpec.pre6 enc Tryz.prog Tryz.f3 Rows.pickUniqueRow.domain false) (Rows.pickUniqueSpec.post enc Tryz.prog Tryz.f3 false true false false):=by
 refine returnsInHanded_of_change_sized (C:=Tryz.checked) own started (by kernel_rfl) Tryz.func3
  (ChangeSpec.witness6 (enc:=enc) (C:=Tryz.checked) false ⟨#[],#[.slice none 0 0],[]⟩ 8 (by kernel_rfl) (by kernel_rfl) (by kernel_rfl) (by kernel_rfl)) ?_
 intro W base args ds gs before hval0 hW hcnd hsz _
 have hval:∀ (j:Nat) t v,Tryz.f3.params[j]?=some t→args[j]?=some v→Value.okWide Tryz.prog W .any base t v:=hval0
 have hW':=hW
 obtain ⟨p,q,hA0,hV,rfl,hfz,hnd⟩:=hW
 have hA:DataW.TrodAll enc Tryz.prog W 0 (fun _=>true) true Tryz.f3.params.toList args.toList ds p:=hA0
 rw [Tryz.params3] at hA hval
 obtain ⟨v0,vs0,d0,ds0,p0,q0,hargs,rfl,rfl,h0,r0⟩:=trodAll_cons hA
 obtain ⟨rfl,rfl,rfl⟩:=trodAll_nil r0
 obtain rfl:args=#[v0]:=by cases args;simp_all
 obtain ⟨rfl,rfl⟩:=trodVars_none hV
 rw [Tryz.params3] at hsz
 have w0:∀ m∈DataW.weights Tryz.prog 22 d0,m≤reachBytes:=fun m hm=>by simpa using List.all_eq_true.1 hsz m (DataW.weights_mem_each (j:=0) rfl rfl m hm)
 obtain ⟨a0,o0,e0⟩:=Ws (v:=v0) Wp (by obtain ⟨x0,x1,x2,rfl⟩:=okWide_slice Tryz.underlying22 (hval 0 22 v0 rfl rfl);rfl) h0 w0
 refine (TW (Jc (NK o0)) (.cons e0 .nil)).mono fun e W' ⟨he,hb⟩=>?_
 subst he
 exact ⟨_,rfl,Wu hW' rfl (fun _=>rfl) rfl Tryz.underlying4 laid params hb⟩
theorem over : Rows.pickUniqueRow.holds Tryz.pinned (OpenSpec.ofChange Rows.pickUniqueSpec) :=
 OpenClaim.holds_of_wide 3 Tryz.f3 rfl rfl rfl rfl rfl rfl rfl ⟨rfl,rfl,rfl,rfl,rfl⟩ rfl rfl rfl rfl rfl (by kernel_rfl) Tryz.func3 (by kernel_rfl)
  (of_decide_eq_true (by kernel_rfl)) (by unfold Func.isWrapper;first|(rw [if_pos (by decide +kernel)];kernel_rfl)|(rw [if_neg (by decide +kernel)];exact ⟨rfl,rfl⟩))
  (fun os started H enc _=>lifted os started H enc)
theorem proved : Rows.PickUniqueSaid :=
 over
end Go.Proofs.YtginckjifacnhaaGreat.pickUnique
