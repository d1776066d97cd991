/-
  The law: its function printed as a pure function, its contract, the plain law, the statement
-/
import Derived.Test.YtbeekjoeaigngaaGreatSiF
import Derived.Test.YtbeekjoeaigngaaGreatRows
set_option linter.unusedVariables false
namespace Go.FL
open Go Go.Proofs
def CU (a0 : Arr) : Option (Bool):=(EF.bind fun x1=>((Fo 0).bind fun x2=>((CA x1 43 x2 a0).bind fun x3=>(EF.bind fun x4=>((Fo 1).bind fun x5=>((CA x4 215 a0 x5).bind fun x6=>(if x3.2=0 then (EF.bind fun x7=>((DP x7 43 a0).bind fun x8=>(Gu.bind fun x9=>(Option.bind ((if x9=true then (if x6.2=0 then (if x8.2=0 then ((Hz x3.1 x6.1).bind fun x11=>(if x11=true then ((Hz x3.1 x8.1).bind fun x12=>(if x12=true then ((Bq x3.1).bind fun x13=>(if x13=true then ((Fz a0).bind fun x14=>(if ((List.length x14 : Nat) : Int)=0 then (some true) else ((D3 a0).bind fun x15=>((Hz x3.1 a0).bind fun x16=>(if (x15 == x16)=true then (some true) else ((D3 a0).bind fun x17=>(some (!x17)))))))) else (some false))) else (some false))) else (some false))) else (some false)) else (some false)) else (some false)) : Option (Bool)) fun (z9 : Bool)=>(some (z9)))))) else (Gu.bind fun x18=>(some ((x18 && (!(decide (x6.2=0))))))))))))))
set_option maxHeartbeats 4000000 in
theorem Hx {a0 : Arr} {r : Bool} (h : CU a0=some r) :
  Fn Tryz.prog 8 [.ag [.sl (Is a0.shape),.sl (Its a0.items)]] (.d (.b r)):=by
 unfold CU at h
 refine Fn.o1 2 78 Tryz.func8 ?_;refine .sr ?_;refine vk (vbx) ?_;refine ar [1,2] ?_;refine .seq ?_
 obtain ⟨x1,hx1,h⟩:=bnd h
 obtain ⟨x2,hx2,h⟩:=bnd h
 obtain ⟨x3,hx3,h⟩:=bnd h
 refine .drawnF 8 [6] [(3,.nb [.sl (Is x3.1.shape),.sl (Its x3.1.items)])] [] A9 (by kernel_rfl) rfl ?_;refine dv (Af (ER hx1) Tryz.call16) ?_;refine dv (Af (HS hx2) Tryz.call26) ?_;refine dv (Ao Ar Ah) ?_;refine dv (VOK.tupd (vs:=[.ag [.sl (Is x3.1.shape),.sl (Its x3.1.items)],.i .i64 x3.2]) (Af (DX hx3) Tryz.call15)) ?_;refine dv (Aa) ?_;refine dv (vex) ?_;refine dv (vex) ?_;refine dv (van (Ag A4) Bh) ?_;refine dz ?_
 refine ⟨?_,?_,?_⟩
 ·intro k hk
  simp only [List.mem_cons,List.not_mem_nil,or_false] at hk
  subst hk
  exact ⟨_,_,_,rfl,rfl,rfl,rfl,rfl,rfl,vex⟩
 ·intro om e hom hge
  cases hom
  exact JJ (cs:=[.sl (Is []),.sl (Its [])]) (cs':=[.sl (Is x3.1.shape),.sl (Its x3.1.items)]) Ah (by decide) rfl ((hge 3 (fun k hk v hv=>by
    simp only [List.mem_cons,List.not_mem_nil,or_false] at hk
    subst hk;exact (by decide:¬ (some 15=some 3)) (congrArg (Option.map Prod.fst) hv))).trans rfl) ((congrArg Ba (hge 14 (fun k hk v hv=>by
    simp only [List.mem_cons,List.not_mem_nil,or_false] at hk
    subst hk;exact (by decide:¬ (some 15=some 14)) (congrArg (Option.map Prod.fst) hv)))).trans rfl) rfl rfl rfl rfl ⟨rfl,rfl⟩
 refine ar [1,2,3,4] ?_;refine .seq ?_
 obtain ⟨x4,hx4,h⟩:=bnd h
 obtain ⟨x5,hx5,h⟩:=bnd h
 obtain ⟨x6,hx6,h⟩:=bnd h
 refine .drawnF 8 [6] [(5,.nb [.sl (Is x6.1.shape),.sl (Its x6.1.items)])] [] A9 (by kernel_rfl) rfl ?_;refine dv (Af (ER hx4) Tryz.call16) ?_;refine dv (Ao Ar Ah) ?_;refine dv (Af (HS hx5) Tryz.call26) ?_;refine dv (VOK.tupd (vs:=[.ag [.sl (Is x6.1.shape),.sl (Its x6.1.items)],.i .i64 x6.2]) (Af (DX hx6) Tryz.call15)) ?_;refine dv (Aa) ?_;refine dv (vex) ?_;refine dv (vex) ?_;refine dv (van (Ag A4) Bh) ?_;refine dz ?_
 refine ⟨?_,?_,?_⟩
 ·intro k hk
  simp only [List.mem_cons,List.not_mem_nil,or_false] at hk
  subst hk
  exact ⟨_,_,_,rfl,rfl,rfl,rfl,rfl,rfl,vex⟩
 ·intro om e hom hge
  cases hom
  exact JJ (cs:=[.sl (Is []),.sl (Its [])]) (cs':=[.sl (Is x6.1.shape),.sl (Its x6.1.items)]) Ah (by decide) rfl ((hge 5 (fun k hk v hv=>by
    simp only [List.mem_cons,List.not_mem_nil,or_false] at hk
    subst hk;exact (by decide:¬ (some 22=some 5)) (congrArg (Option.map Prod.fst) hv))).trans rfl) ((congrArg Ba (hge 21 (fun k hk v hv=>by
    simp only [List.mem_cons,List.not_mem_nil,or_false] at hk
    subst hk;exact (by decide:¬ (some 22=some 21)) (congrArg (Option.map Prod.fst) hv)))).trans rfl) rfl rfl rfl rfl ⟨rfl,rfl⟩
 refine ar [1,2,3,4,5,6] ?_;refine .seq ?_;refine .sr ?_;refine vk (Aa) ?_;refine vk (vbi) ?_;refine rk [1,2,3,5,6,24] ?_
 by_cases hc:x3.2=0
 ·replace h:=Ad hc h
  refine cnf (ntf (dT hc)) ?_;refine .skip ?_
  show AW _ _ _ _ _ _
  refine .seq ?_
  obtain ⟨x7,hx7,h⟩:=bnd h
  obtain ⟨x8,hx8,h⟩:=bnd h
  refine .drawnF 7 [5] [(7,.nb [.sl (Is x8.1.shape),.sl (Its x8.1.items)])] [] A9 (by kernel_rfl) rfl ?_;refine dv (Af (ER hx7) Tryz.call16) ?_;refine dv (Ao Ar Ah) ?_;refine dv (VOK.tupd (vs:=[.ag [.sl (Is x8.1.shape),.sl (Its x8.1.items)],.i .i64 x8.2]) (Af (KJ hx8) Tryz.call10)) ?_;refine dv (Aa) ?_;refine dv (vex) ?_;refine dv (vex) ?_;refine dv (van (Ag A4) Bh) ?_;refine dz ?_
  refine ⟨?_,?_,?_⟩
  ·intro k hk
   simp only [List.mem_cons,List.not_mem_nil,or_false] at hk
   subst hk
   exact ⟨_,_,_,rfl,rfl,rfl,rfl,rfl,rfl,vex⟩
  ·intro om e hom hge
   cases hom
   exact JJ (cs:=[.sl (Is []),.sl (Its [])]) (cs':=[.sl (Is x8.1.shape),.sl (Its x8.1.items)]) Ah (by decide) rfl ((hge 7 (fun k hk v hv=>by
     simp only [List.mem_cons,List.not_mem_nil,or_false] at hk
     subst hk;exact (by decide:¬ (some 35=some 7)) (congrArg (Option.map Prod.fst) hv))).trans rfl) ((congrArg Ba (hge 34 (fun k hk v hv=>by
     simp only [List.mem_cons,List.not_mem_nil,or_false] at hk
     subst hk;exact (by decide:¬ (some 35=some 34)) (congrArg (Option.map Prod.fst) hv)))).trans rfl) rfl rfl rfl rfl ⟨rfl,rfl⟩
  refine ar [1,2,3,5,6,7,8] ?_;refine .seq ?_
  obtain ⟨x9,hx9,h⟩:=bnd h
  obtain ⟨z9,hz,h⟩:=bnd h
  refine AW.mr (σ:=Unit) (fun _=>True) (fun _=>[(2,.d (.b z9))]) (fun _=>[]) ?_ ?_
  ·skip
   refine .drawn 42 A9 (by kernel_rfl) ?_;refine dv (Af (Jn hx9) Tryz.call17) ?_
   by_cases hc:x9=true
   ·replace hz:=Ad hc hz
    have hb0:x9=true:=hc
    refine dv (VOK.lit (Aa) hb0) ?_;refine dv (Aa) ?_;refine dv (vbi) ?_;refine dv (Ai) ?_
    by_cases hc:x6.2=0
    ·replace hz:=Ad hc hz
     have hb1:(decide (x6.2=0))=true:=(dT hc)
     refine dv (VOK.lit (Aa) hb1) ?_;refine dv (Aa) ?_;refine dv (vbi) ?_;refine dv (Ai) ?_
     by_cases hc:x8.2=0
     ·replace hz:=Ad hc hz
      have hb2:(decide (x8.2=0))=true:=(dT hc)
      refine dv (VOK.lit (Aa) hb2) ?_;refine dv (D4 Ar Ah) ?_;refine dv (D4 Ar Ah) ?_
      obtain ⟨x11,hx11,hz⟩:=bnd hz
      refine dv (Af (HI hx11) Tryz.call18) ?_;refine dv (Ai) ?_
      by_cases hc:x11=true
      ·replace hz:=Ad hc hz
       have hb3:x11=true:=hc
       refine dv (VOK.lit (Aa) hb3) ?_;refine dv (D4 Ar Ah) ?_;refine dv (D4 Ar Ah) ?_
       obtain ⟨x12,hx12,hz⟩:=bnd hz
       refine dv (Af (HI hx12) Tryz.call18) ?_;refine dv (Ai) ?_
       by_cases hc:x12=true
       ·replace hz:=Ad hc hz
        have hb4:x12=true:=hc
        refine dv (VOK.lit (Aa) hb4) ?_;refine dv (D4 Ar Ah) ?_
        obtain ⟨x13,hx13,hz⟩:=bnd hz
        refine dv (Af (B7 hx13) Tryz.call13) ?_;refine dv (Ai) ?_
        by_cases hc:x13=true
        ·replace hz:=Ad hc hz
         have hb5:x13=true:=hc
         refine dv (VOK.lit (Aa) hb5) ?_;refine dv (Ao Ar Ah) ?_
         obtain ⟨x14,hx14,hz⟩:=bnd hz
         refine dv (Af (M0 hx14) Tryz.call27) ?_;refine dv (Bk (AE _) (Cr _) Ct) ?_;refine dv (vbi) ?_
         by_cases hc:((List.length x14:Nat):Int)=0
         ·replace hz:=Ad hc hz
          have hb6:(decide (((List.length x14:Nat):Int)=0))=true:=(dT hc)
          refine dv (VOK.lit (Aa) hb6) ?_;refine dgf ?_;refine dgf ?_;refine dgf ?_;refine dgf ?_;refine dgf ?_;refine dgf ?_;refine dv (Ai) ?_;refine dv (Aa) ?_;refine dgf ?_;refine dgf ?_;refine dgf ?_;refine dv (Ai) ?_;refine dv (Ai) ?_;refine dz ?_;refine asd ?_;refine RL.gk [2] ?_;refine .nil ?_
          cases hz
          exact jr () trivial
         replace hz:=Ae hc hz
         have hb6:(decide (((List.length x14:Nat):Int)=0))=false:=(dF hc)
         refine dv (VOK.lit (Aa) hb6) ?_;refine dv (Ao Ar Ah) ?_
         obtain ⟨x15,hx15,hz⟩:=bnd hz
         refine dv (Af (Ij hx15) Tryz.call28) ?_;refine dv (D4 Ar Ah) ?_;refine dv (Ao Ar Ah) ?_
         obtain ⟨x16,hx16,hz⟩:=bnd hz
         refine dv (Af (HI hx16) Tryz.call18) ?_;refine dv (WF (.inl rfl) bo) ?_;refine dv (Ai) ?_
         by_cases hc:(x15 == x16)=true
         ·replace hz:=Ad hc hz
          have hb7:(x15 == x16)=true:=hc
          refine dv (VOK.lit (Aa) hb7) ?_;refine dgf ?_;refine dgf ?_;refine dgf ?_;refine dv (Ai) ?_;refine dv (Ai) ?_;refine dz ?_;refine asd ?_;refine RL.gk [2] ?_;refine .nil ?_
          cases hz
          exact jr () trivial
         replace hz:=Ae hc hz
         have hb7:(x15 == x16)=false:=(bf hc)
         refine dv (VOK.lit (Aa) hb7) ?_;refine dv (Ao Ar Ah) ?_
         obtain ⟨x17,hx17,hz⟩:=bnd hz
         refine dv (Af (Ij hx17) Tryz.call28) ?_;refine dv (vnt) ?_;refine dv (Ai) ?_;refine dv (Ai) ?_;refine dz ?_;refine asd ?_;refine RL.gk [2] ?_;refine .nil ?_
         cases hz
         exact jr () trivial
        replace hz:=Ae hc hz
        have hb5:x13=false:=(bf hc)
        refine dv (VOK.lit (Aa) hb5) ?_;refine dgf ?_;refine dgf ?_;refine dgf ?_;refine dgf ?_;refine L6 ?_;refine dgf ?_;refine dgf ?_;refine dgf ?_;refine dgf ?_;refine dgf ?_;refine dgf ?_;refine dgf ?_;refine L6 ?_;refine dgf ?_;refine dgf ?_;refine dgf ?_;refine dgf ?_;refine dv (Ai) ?_;refine dz ?_;refine asd ?_;refine RL.gk [2] ?_;refine .nil ?_
        cases hz
        exact jr () trivial
       replace hz:=Ae hc hz
       have hb4:x12=false:=(bf hc)
       refine dv (VOK.lit (Aa) hb4) ?_;refine dgf ?_;refine dgf ?_;refine dv (Ai) ?_;refine dv (Aa) ?_;refine dgf ?_;refine dgf ?_;refine dgf ?_;refine dgf ?_;refine L6 ?_;refine dgf ?_;refine dgf ?_;refine dgf ?_;refine dgf ?_;refine dgf ?_;refine dgf ?_;refine dgf ?_;refine L6 ?_;refine dgf ?_;refine dgf ?_;refine dgf ?_;refine dgf ?_;refine dv (Ai) ?_;refine dz ?_;refine asd ?_;refine RL.gk [2] ?_;refine .nil ?_
       cases hz
       exact jr () trivial
      replace hz:=Ae hc hz
      have hb3:x11=false:=(bf hc)
      refine dv (VOK.lit (Aa) hb3) ?_;refine dgf ?_;refine dgf ?_;refine dgf ?_;refine dv (Ai) ?_;refine dv (Aa) ?_;refine dgf ?_;refine dgf ?_;refine dv (Ai) ?_;refine dv (Aa) ?_;refine dgf ?_;refine dgf ?_;refine dgf ?_;refine dgf ?_;refine L6 ?_;refine dgf ?_;refine dgf ?_;refine dgf ?_;refine dgf ?_;refine dgf ?_;refine dgf ?_;refine dgf ?_;refine L6 ?_;refine dgf ?_;refine dgf ?_;refine dgf ?_;refine dgf ?_;refine dv (Ai) ?_;refine dz ?_;refine asd ?_;refine RL.gk [2] ?_;refine .nil ?_
      cases hz
      exact jr () trivial
     replace hz:=Ae hc hz
     have hb2:(decide (x8.2=0))=false:=(dF hc)
     refine dv (VOK.lit (Aa) hb2) ?_;refine dgf ?_;refine dgf ?_;refine dgf ?_;refine dv (Ai) ?_;refine dv (Aa) ?_;refine dgf ?_;refine dgf ?_;refine dgf ?_;refine dv (Ai) ?_;refine dv (Aa) ?_;refine dgf ?_;refine dgf ?_;refine dv (Ai) ?_;refine dv (Aa) ?_;refine dgf ?_;refine dgf ?_;refine dgf ?_;refine dgf ?_;refine L6 ?_;refine dgf ?_;refine dgf ?_;refine dgf ?_;refine dgf ?_;refine dgf ?_;refine dgf ?_;refine dgf ?_;refine L6 ?_;refine dgf ?_;refine dgf ?_;refine dgf ?_;refine dgf ?_;refine dv (Ai) ?_;refine dz ?_;refine asd ?_;refine RL.gk [2] ?_;refine .nil ?_
     cases hz
     exact jr () trivial
    replace hz:=Ae hc hz
    have hb1:(decide (x6.2=0))=false:=(dF hc)
    refine dv (VOK.lit (Aa) hb1) ?_;refine dgf ?_;refine dgf ?_;refine dv (Ai) ?_;refine dv (Aa) ?_;refine dgf ?_;refine dgf ?_;refine dgf ?_;refine dv (Ai) ?_;refine dv (Aa) ?_;refine dgf ?_;refine dgf ?_;refine dgf ?_;refine dv (Ai) ?_;refine dv (Aa) ?_;refine dgf ?_;refine dgf ?_;refine dv (Ai) ?_;refine dv (Aa) ?_;refine dgf ?_;refine dgf ?_;refine dgf ?_;refine dgf ?_;refine L6 ?_;refine dgf ?_;refine dgf ?_;refine dgf ?_;refine dgf ?_;refine dgf ?_;refine dgf ?_;refine dgf ?_;refine L6 ?_;refine dgf ?_;refine dgf ?_;refine dgf ?_;refine dgf ?_;refine dv (Ai) ?_;refine dz ?_;refine asd ?_;refine RL.gk [2] ?_;refine .nil ?_
    cases hz
    exact jr () trivial
   replace hz:=Ae hc hz
   have hb0:x9=false:=(bf hc)
   refine dv (VOK.lit (Aa) hb0) ?_;refine dgf ?_;refine dgf ?_;refine dv (Ai) ?_;refine dv (Aa) ?_;refine dgf ?_;refine dgf ?_;refine dv (Ai) ?_;refine dv (Aa) ?_;refine dgf ?_;refine dgf ?_;refine dgf ?_;refine dv (Ai) ?_;refine dv (Aa) ?_;refine dgf ?_;refine dgf ?_;refine dgf ?_;refine dv (Ai) ?_;refine dv (Aa) ?_;refine dgf ?_;refine dgf ?_;refine dv (Ai) ?_;refine dv (Aa) ?_;refine dgf ?_;refine dgf ?_;refine dgf ?_;refine dgf ?_;refine L6 ?_;refine dgf ?_;refine dgf ?_;refine dgf ?_;refine dgf ?_;refine dgf ?_;refine dgf ?_;refine dgf ?_;refine L6 ?_;refine dgf ?_;refine dgf ?_;refine dgf ?_;refine dgf ?_;refine dv (Ai) ?_;refine dz ?_;refine asd ?_;refine RL.gk [2] ?_;refine .nil ?_
   cases hz
   exact jr () trivial
  rintro _ _
  refine .ret ?_
  cases h
  exact ⟨rfl,rfl⟩
 replace h:=Ae hc h
 refine cnt (ntt (dF hc)) ?_;refine .seq ?_
 obtain ⟨x18,hx18,h⟩:=bnd h
 refine AW.mr (σ:=Unit) (fun _=>True) (fun _=>[(1,.d (.ptr [.sl (Is a0.shape),.sl (Its a0.items)])),(2,.d (.b (x18 && (!(decide (x6.2=0)))))),(3,.nb [.sl (Is x3.1.shape),.sl (Its x3.1.items)]),(5,.nb [.sl (Is x6.1.shape),.sl (Its x6.1.items)]),(6,.d (.i .i64 x6.2))]) (fun _=>[]) ?_ ?_
 ·skip
  refine .region ?_;refine vk (Af (Jn hx18) Tryz.call17) ?_
  by_cases hc:x18=true
  ·have hb0:x18=true:=hc
   refine vk (VOK.lit (Aa) hb0) ?_;refine vk (Aa) ?_;refine vk (vbi) ?_;refine vk (Ai) ?_;refine asd ?_;refine RL.gk [1,2,3,5,6] ?_;refine .nil ?_
   exact jr () trivial (by simp only [hb0];rfl)
  have hb0:x18=false:=(bf hc)
  refine vk (VOK.lit (Aa) hb0) ?_;refine gf ?_;refine gf ?_;refine vk (Ai) ?_;refine asd ?_;refine RL.gk [1,2,3,5,6] ?_;refine .nil ?_
  exact jr () trivial (by simp only [hb0];rfl)
 rintro _ _
 refine .ret ?_
 cases h
 exact ⟨rfl,rfl⟩
theorem Kn {a : Arr} (hl : a.items.length≤1466015503701) (K : Bool→Option Bool) : ∀ (n i k : Nat) (s : Bool),n=a.items.length - i→i≤a.items.length→n<k →
  Cn a K k s (i:Int)=if (a.items.drop i).all (fun x=>decide (x.kind=1))=true then K s else some false
 | _,_,0,_,_,_,h=>by omega
 | n,i,k+1,s,hn,hi,hk=>by
  rw [Cn]
  by_cases hlt:i<a.items.length
  ·rw [if_pos (by omega),Ck hlt,oB,List.drop_eq_getElem_cons hlt,List.all_cons]
   by_cases h:a.items[i].kind=1
   ·rw [if_pos h,Cf (by omega),Kn hl K (n - 1) (i+1) k s (by omega) (by omega) (by omega),dT h,Bool.true_and]
   ·rw [if_neg h,dF h,Bool.false_and,if_neg (by decide)]
  ·rw [if_neg (by omega),List.drop_of_length_le (by omega)];rfl
theorem Sf {a : Arr} (hl : a.items.length≤1466015503701) : D3 a=some (a.items.all (fun x=>decide (x.kind=1))):=by
 unfold D3
 rw [Eh]
 have:=Kn hl (fun _=>some true) a.items.length 0 Bi false rfl (Nat.zero_le _) (Ce (by omega))
 rw [List.drop_zero,show ((0:Nat):Int)=0 from rfl] at this
 rw [this]
 cases a.items.all (fun x=>decide (x.kind=1)) <;> rfl
abbrev fS5 : Ap:=⟨.fn 78 [] [],fun x=>Cw x⟩
abbrev wA5 : Ak:=⟨.fn 132 [] [],fun x=>C7 x.1 x.2⟩
abbrev wM5 : Ak:=⟨.fn 134 [] [],fun x=>C5 x.1 x.2⟩
theorem U6 : RatF fS5 id:=fun p hp=>⟨O6 hp,hp⟩
theorem M6 {z : Int} (h : Ml z) : okAr (.mk [] [Dk z])∧AT (.mk [] [Dk z]):=by
 have hx:okI (Dk z)∧BC (Dk z):=Jb (E7 (EG h))
 have:=(Ip hx).2
 rwa [K7] at this
theorem TF {a : Arr} (oa : okAr a) (ra : AT a) (hs : ∀ x ∈ a.items,x.kind=1) (hz : (szP a.shape).1 ≠ 0) : H0 fS5 a=some (a,0):=by
 have o:=(Bo a).1 oa
 obtain ⟨n,hn,hl⟩:=Ix ra
 have hn0:n ≠ 0:=by rw [hn] at hz;intro q;subst q;exact hz rfl
 rw [if_neg hn0] at hl
 have hmap:a.items=(a.items.map (·.num)).map fun x=>Itm.mk 1 x 0 []:=by
  rw [List.map_map]
  refine (List.map_id' a.items).symm.trans (List.map_congr_left fun x hx=>?_)
  have hr:=(CY oa ra hx).2.1
  rcases DR hr with ⟨q1,_,q3,q4⟩ | ⟨q,_⟩ | ⟨q,_⟩
  ·show x=_
   rw [Itm.ext_iff'];exact ⟨q1,q3,rfl,q4⟩
  ·have:=hs x hx;omega
  ·have:=hs x hx;omega
 have e:=UB (f:=fS5) (s:=a.shape) (xs:=a.items.map (·.num)) (zs:=a.items.map (·.num)) o.2.1 (by rw [hn,List.length_map,hl]) (fun i hi=>by
  rw [List.length_map] at hi
  refine ⟨a.items[i].num,by rw [List.getElem?_map,List.getElem?_eq_getElem hi];rfl,?_⟩
  have hx:=CY oa ra (List.getElem_mem hi)
  obtain ⟨p,hp,hq⟩:=F8.1 (TU hx.2.1 (hs _ (List.getElem_mem hi)))
  rw [List.getElem_map,hq]
  exact O6 hp)
 rw [← hmap,Arr.eta] at e
 rw [e,List.length_map,if_neg (by omega),List.nil_append,SF o.1 o.2.1 o.2.2.1 o.2.2.2,hn,if_neg (by simp),if_neg,Pp hl hn0,Arr.eta,if_pos ra]
 rintro (q | q)
 ·have:=congrArg List.length q;simp only [List.length_nil] at this;omega
 ·exact q fun x hx=>(CY oa ra hx).2
theorem J0 {a : Arr} (oa : okAr a) : CU a=some true:=by
 have o:=(Bo a).1 oa
 have h1in:Ml 1:=by unfold Ml;omega
 obtain ⟨o0,r0⟩:=M6 Fk
 obtain ⟨o1,r1⟩:=M6 h1in
 have D1:=Ot (g:=43) (w:=wA5) rfl o0 oa
 have D2:=Ot (g:=215) (w:=wM5) rfl oa o1
 have M:=Sq (e:=(1,(false,[],[1]),0)) (g:=43) (w:=fS5) rfl oa
 unfold CU
 by_cases hr:AT a
 rotate_left
 ·rw [if_neg fun q=>hr q.2] at D1
  rw [if_neg fun q=>hr q.1] at D2
  simp only [YO,Pk Fk,Pk h1in,D1,D2,XB,oB]
  rfl
 rw [if_pos ⟨r0,hr⟩] at D1
 rw [if_pos ⟨hr,r1⟩] at D2
 rw [if_pos hr] at M
 obtain ⟨r,e,q1,q2,q3⟩:=Mq U6.tot (a.size+1) (Nat.lt_succ_self _) oa hr
 have e1:JF (wA5,43) (.mk [] [Dk 0]) a=some (r,e):=by
  rw [← q1]
  refine Xy Fk U6.tot (fun x hx=>?_) (by decide) (by decide) _ _ (by omega) (Nat.lt_succ_self _) oa hr
  obtain ⟨p,hp,rfl⟩:=F8.1 hx
  show C7 (ofQ ((0:Int):Rat)) (ofQ p)=Cw (ofQ p)
  rw [XX (EG Fk) hp,O6 hp,show (((0:Int):Rat))=0 from rfl,Rat.zero_add,Oi hp]
 have e2:JF (wM5,215) a (.mk [] [Dk 1])=some (r,e):=by
  rw [← q1]
  refine Xz h1in U6.tot (fun x hx=>?_) (by decide) (by decide) _ _ (by omega) (Nat.lt_succ_self _) oa hr
  obtain ⟨p,hp,rfl⟩:=F8.1 hx
  show C5 (ofQ p) (ofQ ((1:Int):Rat))=Cw (ofQ p)
  rw [XZ hp (EG h1in),O6 hp,show (((1:Int):Rat))=1 from rfl,Rat.mul_one,Oi hp]
 have e3:H0 fS5 a=some (r,e):=q1
 rw [e1] at D1
 rw [e2] at D2
 rw [e3] at M
 simp only [YO,Pk Fk,Pk h1in,D1,D2,M,XB,oB]
 by_cases h0:e=0
 rotate_left
 ·rw [if_neg h0,dF h0];rfl
 obtain ⟨or_,rr,_⟩:=q2 h0
 simp only [if_pos h0,if_true,(PU (a:=r) or_).yes rfl,Hq or_,dT rr,oB,Rr oa,Sf o.2.2.1]
 by_cases hz:(szP a.shape).1=0
 ·rw [if_pos (show (szP a.shape).1=0∨¬ AT a from .inl hz),if_pos (by rfl)];rfl
 rw [if_neg (show ¬ ((szP a.shape).1=0∨¬ AT a) from fun q=>q.elim hz fun q=>q hr)]
 have hp:=Tu hr
 rw [if_neg (by omega)]
 by_cases hs:a.items.all (fun x=>decide (x.kind=1))=true
 ·have hk:=TF oa hr (fun x hx=>of_decide_eq_true (List.all_eq_true.1 hs x hx)) hz
  rw [e3] at hk
  cases hk
  rw [(PU (a:=a) oa).yes rfl,oB,hs];rfl
 ·obtain ⟨b,hb,_⟩:=PU (b:=a) or_
  have hs':a.items.all (fun x=>decide (x.kind=1))=false:=by simpa using hs
  rw [hb,oB,hs']
  cases b <;> rfl
end Go.FL
namespace Go.Proofs.YtbeekjoeaigngaaGreat.scalarIdentity
open Go.ChangeShapes Go.WideShapes Go.ChangeAt Go.RowKit Go.FL
theorem own : ownKnob Tryz.prog.godebug=none:=by kernel_rfl
theorem laid : laidOutB Tryz.prog=true:=by kernel_rfl
theorem params : ∀ t ∈ Tryz.f8.params.toList,Tryz.prog.readableRec t=true∧t<Tryz.prog.types.size:=by
 intro t ht
 simp only [Tryz.params8,List.mem_cons,List.not_mem_nil,or_false] at ht
 rcases ht with rfl <;> exact ⟨by kernel_rfl,of_decide_eq_true (by kernel_rfl)⟩
set_option maxRecDepth 100000 in
theorem lifted (os : Os) (started : os.Started) (H : Type) (enc : TypeId × Value→H) :
  ReturnsInHanded {} Tryz.checked os 8 .any (Rows.scalarIdentitySpec.pre6 enc Tryz.prog Tryz.f8 Rows.scalarIdentityRow.domain false) (Rows.scalarIdentitySpec.post enc Tryz.prog Tryz.f8 false true false false):=by
 refine returnsInHanded_of_change_sized (C:=Tryz.checked) own started (by kernel_rfl) Tryz.func8
  (ChangeSpec.witness6 (enc:=enc) (C:=Tryz.checked) false ⟨#[],#[.agg #[.slice none 0 0,.slice none 0 0]],[]⟩ 8 (by kernel_rfl) (by kernel_rfl) (by kernel_rfl) (by kernel_rfl)) ?_
 intro W base args ds gs before hval0 hW hcnd hsz _
 have hval:∀ (j:Nat) t v,Tryz.f8.params[j]?=some t→args[j]?=some v→Value.okWide Tryz.prog W .any base t v:=hval0
 have hW':=hW
 obtain ⟨p,q,hA0,hV,rfl,hfz,hnd⟩:=hW
 have hA:DataW.TrodAll enc Tryz.prog W 0 (fun _=>true) true Tryz.f8.params.toList args.toList ds p:=hA0
 rw [Tryz.params8] at hA hval
 obtain ⟨v0,vs0,d0,ds0,p0,q0,hargs,rfl,rfl,h0,r0⟩:=trodAll_cons hA
 obtain ⟨rfl,rfl,rfl⟩:=trodAll_nil r0
 obtain rfl:args=#[v0]:=by cases args;simp_all
 obtain ⟨rfl,rfl⟩:=trodVars_none hV
 rw [Tryz.params8] at hsz
 have w0:∀ m ∈ DataW.weights Tryz.prog 25 d0,m≤reachBytes:=fun m hm=>by simpa using List.all_eq_true.1 hsz m (DataW.weights_mem_each (j:=0) rfl rfl m hm)
 obtain ⟨a0,o0,e0⟩:=Xo (v:=v0) Yg (let ⟨cs,h,_⟩:=okWide_struct (P:=Tryz.prog) Tryz.underlying25 (hval 0 25 v0 rfl rfl);⟨cs,h⟩) h0 w0
 refine (TT (Hx (J0 o0)) (.cons e0 .nil)).mono fun e W' ⟨he,hb⟩=>?_
 subst he
 exact ⟨_,rfl,VY hW' rfl (fun _=>rfl) rfl Tryz.underlying4 laid params hb⟩
theorem over : Rows.scalarIdentityRow.holds Tryz.pinned (OpenSpec.ofChange Rows.scalarIdentitySpec) :=
 OpenClaim.holds_of_wide 8 Tryz.f8 rfl rfl rfl rfl rfl rfl rfl ⟨rfl,rfl,rfl,rfl,rfl⟩ rfl rfl rfl rfl rfl (by kernel_rfl) Tryz.func8 (by kernel_rfl)
  (of_decide_eq_true (by kernel_rfl)) (by unfold Func.isWrapper;first | (rw [if_pos (by decide +kernel)];kernel_rfl) | (rw [if_neg (by decide +kernel)];exact ⟨rfl,rfl⟩))
  (fun os started H enc _=>lifted os started H enc)
theorem proved : Rows.ScalarIdentitySaid :=
 over
end Go.Proofs.YtbeekjoeaigngaaGreat.scalarIdentity
