/-
  The law: its function printed as a pure function, its contract, the plain law, the statement
-/
import Derived.Test.YtipdmmpgepoggaaGreatSqE
import Derived.Test.YtipdmmpgepoggaaGreatRows
set_option linter.unusedVariables false
namespace Go.FL
open Go Go.Proofs
def Fe (a0:(List Itm)) (a1:(List Itm)) (a2:(List Itm)) : Option (Bool):=((AF ([((List.length a0:Nat) : Int)]) a0).bind fun x1=>((AF ([((List.length a1:Nat) : Int)]) a1).bind fun x2=>((AF ([((List.length a2:Nat) : Int)]) a2).bind fun x3=>(if ((!(decide (x1.2=0)))||((!(decide (x2.2=0)))||(!(decide (x3.2=0)))))=true then (Eg.bind fun x4=>(some (x4))) else (Dh.bind fun x5=>((AU x5 44 x1.1 x2.1).bind fun x6=>(Dh.bind fun x7=>((AU x7 44 x2.1 x3.1).bind fun x8=>(Dh.bind fun x9=>((AU x9 44 x6.1 x3.1).bind fun x10=>(Dh.bind fun x11=>((AU x11 44 x1.1 x8.1).bind fun x12=>(if ((!(decide (x6.2=0)))||((!(decide (x8.2=0)))||((!(decide (x10.2=0)))||(!(decide (x12.2=0))))))=true then (Eg.bind fun x13=>(some (x13))) else (Eg.bind fun x14=>(Option.bind ((if x14=true then ((GC x10.1 x12.1).bind fun x16=>(some x16)) else (some false)) : Option (Bool)) fun (z14:Bool)=>(some (z14)))))))))))))))))
theorem KR {a0:(List Itm)} {a1:(List Itm)} {a2:(List Itm)} {r:Bool} (h:Fe a0 a1 a2=some r) :
  Fn Tryz.prog 4 [.sl (Its a0),.sl (Its a1),.sl (Its a2)] (.d (.b r)):=by
 unfold Fe at h
 refine Fn.o1 6 105 Tryz.func4 ?_;refine .sr ?_;refine ar [0,1,2,6] ?_;refine .sr ?_;refine vk (Aa) ?_;refine vk (AT (Ay _) (B7 _) B8) ?_;refine vk ((Hq (CY [((List.length a0:Nat):Int)]) Ct).deep) ?_;refine vk (Aa) ?_
 obtain ⟨x1,g1,h⟩:=bnd h
 refine vk (VOK.tupd (vs:=[.ag [.sl (Is x1.1.shape),.sl (Its x1.1.items)],.i .i64 x1.2]) (Aq (BT g1) Tryz.call10)) ?_;refine vk (Aa) ?_;refine vk (vex) ?_;refine vk (vex) ?_;refine vk (van (Aj Ax) Az) ?_
 refine stn ?_ Ab (by decide)
 refine ar [1,2,6,7,8] ?_;refine .sr ?_;refine vk (Aa) ?_;refine vk (AT (Ay _) (B7 _) B8) ?_;refine vk ((Hq (CY [((List.length a1:Nat):Int)]) Ct).deep) ?_;refine vk (Aa) ?_
 obtain ⟨x2,g2,h⟩:=bnd h
 refine vk (VOK.tupd (vs:=[.ag [.sl (Is x2.1.shape),.sl (Its x2.1.items)],.i .i64 x2.2]) (Aq (BT g2) Tryz.call10)) ?_;refine vk (Aa) ?_;refine vk (vex) ?_;refine vk (vex) ?_;refine vk (van (Aj Ax) Az) ?_
 refine stn ?_ Ab (by decide)
 refine ar [2,6,7,8,9,10] ?_;refine .sr ?_;refine vk (Aa) ?_;refine vk (AT (Ay _) (B7 _) B8) ?_;refine vk ((Hq (CY [((List.length a2:Nat):Int)]) Ct).deep) ?_;refine vk (Aa) ?_
 obtain ⟨x3,g3,h⟩:=bnd h
 refine vk (VOK.tupd (vs:=[.ag [.sl (Is x3.1.shape),.sl (Its x3.1.items)],.i .i64 x3.2]) (Aq (BT g3) Tryz.call10)) ?_;refine vk (Aa) ?_;refine vk (vex) ?_;refine vk (vex) ?_;refine vk (van (Aj Ax) Az) ?_
 refine stn ?_ Ab (by decide)
 refine ar [6,7,8,9,10,11,12] ?_;refine .seq ?_;refine .seq ?_;refine AW.mr (σ:=Unit) (fun _=>True) (fun _=>[(6,.d (.b false)),(7,.nb [.sl (Is x1.1.shape),.sl (Its x1.1.items)]),(9,.nb [.sl (Is x2.1.shape),.sl (Its x2.1.items)]),(11,.nb [.sl (Is x3.1.shape),.sl (Its x3.1.items)]),(54,.d (.b ((!(decide (x1.2=0)))||((!(decide (x2.2=0)))||(!(decide (x3.2=0)))))))]) (fun _=>[]) ?_ ?_
 ·skip
  refine .region ?_;refine vk (Aa) ?_;refine vk (vbi) ?_
  by_cases hc:x1.2=0
  ·have hb0:(!(decide (x1.2=0)))=false:=(ntf (dT hc))
   refine vk (VOK.lit (Aa) hb0) ?_;refine vk (Aa) ?_;refine vk (vbi) ?_;refine vk (Ao) ?_
   by_cases hc:x2.2=0
   ·have hb1:(!(decide (x2.2=0)))=false:=(ntf (dT hc))
    refine vk (VOK.lit (Aa) hb1) ?_;refine vk (Aa) ?_;refine vk (vbi) ?_;refine vk (Ao) ?_;refine RL.gk [6,7,9,11,54] ?_;refine .nil ?_
    exact jr () trivial (by simp only [hb0,hb1];rfl)
   have hb1:(!(decide (x2.2=0)))=true:=(ntt (dF hc))
   refine vk (VOK.lit (Aa) hb1) ?_;refine gf ?_;refine gf ?_;refine vk (Ao) ?_;refine RL.gk [6,7,9,11,54] ?_;refine .nil ?_
   exact jr () trivial (by simp only [hb0,hb1];rfl)
  have hb0:(!(decide (x1.2=0)))=true:=(ntt (dF hc))
  refine vk (VOK.lit (Aa) hb0) ?_;refine gf ?_;refine gf ?_;refine vk (Ao) ?_;refine vk (Aa) ?_;refine gf ?_;refine gf ?_;refine vk (Ao) ?_;refine RL.gk [6,7,9,11,54] ?_;refine .nil ?_
  exact jr () trivial (by simp only [hb0];rfl)
 rintro _ _
 rcases brc h with ⟨hc,h⟩|⟨hc,h⟩
 ·refine cnt hc ?_
  refine .sr ?_
  obtain ⟨x4,g4,h⟩:=bnd h
  refine vk (Aq (Fc g4) Tryz.call9) ?_;refine ar [6,7,9,11] ?_;refine .ret ?_
  cases h
  exact ⟨rfl,rfl⟩
 refine cnf (bf hc) ?_;refine .skip ?_
 show AW _ _ _ _ _ _
 refine .seq ?_
 obtain ⟨x5,g5,h⟩:=bnd h
 obtain ⟨x6,g6,h⟩:=bnd h
 refine .drawnF 8 [6] [(13,.nb [.sl (Is x6.1.shape),.sl (Its x6.1.items)])] [] A8 (by kernel_rfl) rfl ?_;refine dv (Aq (Dd g5) Tryz.call12) ?_;refine dv (Ei Ac Ab) ?_;refine dv (Ei Ac Ab) ?_;refine dv (VOK.tupd (vs:=[.ag [.sl (Is x6.1.shape),.sl (Its x6.1.items)],.i .i64 x6.2]) (Aq (CL g6) Tryz.call11)) ?_;refine dv (Aa) ?_;refine dv (vex) ?_;refine dv (vex) ?_;refine dv (van (Aj Ax) Az) ?_;refine dz ?_
 refine ⟨?_,?_,?_⟩
 ·intro k hk
  simp only [List.mem_cons,List.not_mem_nil,or_false] at hk
  subst hk
  exact ⟨_,_,_,rfl,rfl,rfl,rfl,rfl,rfl,vex⟩
 ·intro om e hom hge
  cases hom
  exact H7 (cs:=[.sl (Is []),.sl (Its [])]) (cs':=[.sl (Is x6.1.shape),.sl (Its x6.1.items)]) Ab (by decide) rfl ((hge 13 (fun k hk v hv=>by
    simp only [List.mem_cons,List.not_mem_nil,or_false] at hk
    subst hk;exact (by decide:¬(some 62=some 13)) (congrArg (Option.map Prod.fst) hv))).trans rfl) ((congrArg A2 (hge 61 (fun k hk v hv=>by
    simp only [List.mem_cons,List.not_mem_nil,or_false] at hk
    subst hk;exact (by decide:¬(some 62=some 61)) (congrArg (Option.map Prod.fst) hv)))).trans rfl) rfl rfl rfl rfl ⟨rfl,rfl⟩
 refine ar [6,7,9,11,13,14] ?_;refine .seq ?_
 obtain ⟨x7,g7,h⟩:=bnd h
 obtain ⟨x8,g8,h⟩:=bnd h
 refine .drawnF 8 [6] [(15,.nb [.sl (Is x8.1.shape),.sl (Its x8.1.items)])] [] A8 (by kernel_rfl) rfl ?_;refine dv (Aq (Dd g7) Tryz.call12) ?_;refine dv (Ei Ac Ab) ?_;refine dv (Ei Ac Ab) ?_;refine dv (VOK.tupd (vs:=[.ag [.sl (Is x8.1.shape),.sl (Its x8.1.items)],.i .i64 x8.2]) (Aq (CL g8) Tryz.call11)) ?_;refine dv (Aa) ?_;refine dv (vex) ?_;refine dv (vex) ?_;refine dv (van (Aj Ax) Az) ?_;refine dz ?_
 refine ⟨?_,?_,?_⟩
 ·intro k hk
  simp only [List.mem_cons,List.not_mem_nil,or_false] at hk
  subst hk
  exact ⟨_,_,_,rfl,rfl,rfl,rfl,rfl,rfl,vex⟩
 ·intro om e hom hge
  cases hom
  exact H7 (cs:=[.sl (Is []),.sl (Its [])]) (cs':=[.sl (Is x8.1.shape),.sl (Its x8.1.items)]) Ab (by decide) rfl ((hge 15 (fun k hk v hv=>by
    simp only [List.mem_cons,List.not_mem_nil,or_false] at hk
    subst hk;exact (by decide:¬(some 69=some 15)) (congrArg (Option.map Prod.fst) hv))).trans rfl) ((congrArg A2 (hge 68 (fun k hk v hv=>by
    simp only [List.mem_cons,List.not_mem_nil,or_false] at hk
    subst hk;exact (by decide:¬(some 69=some 68)) (congrArg (Option.map Prod.fst) hv)))).trans rfl) rfl rfl rfl rfl ⟨rfl,rfl⟩
 refine ar [6,7,11,13,14,15,16] ?_;refine .seq ?_
 obtain ⟨x9,g9,h⟩:=bnd h
 obtain ⟨x10,g10,h⟩:=bnd h
 refine .drawnF 8 [6] [(17,.nb [.sl (Is x10.1.shape),.sl (Its x10.1.items)])] [] A8 (by kernel_rfl) rfl ?_;refine dv (Aq (Dd g9) Tryz.call12) ?_;refine dv (Ei Ac Ab) ?_;refine dv (Ei Ac Ab) ?_;refine dv (VOK.tupd (vs:=[.ag [.sl (Is x10.1.shape),.sl (Its x10.1.items)],.i .i64 x10.2]) (Aq (CL g10) Tryz.call11)) ?_;refine dv (Aa) ?_;refine dv (vex) ?_;refine dv (vex) ?_;refine dv (van (Aj Ax) Az) ?_;refine dz ?_
 refine ⟨?_,?_,?_⟩
 ·intro k hk
  simp only [List.mem_cons,List.not_mem_nil,or_false] at hk
  subst hk
  exact ⟨_,_,_,rfl,rfl,rfl,rfl,rfl,rfl,vex⟩
 ·intro om e hom hge
  cases hom
  exact H7 (cs:=[.sl (Is []),.sl (Its [])]) (cs':=[.sl (Is x10.1.shape),.sl (Its x10.1.items)]) Ab (by decide) rfl ((hge 17 (fun k hk v hv=>by
    simp only [List.mem_cons,List.not_mem_nil,or_false] at hk
    subst hk;exact (by decide:¬(some 76=some 17)) (congrArg (Option.map Prod.fst) hv))).trans rfl) ((congrArg A2 (hge 75 (fun k hk v hv=>by
    simp only [List.mem_cons,List.not_mem_nil,or_false] at hk
    subst hk;exact (by decide:¬(some 76=some 75)) (congrArg (Option.map Prod.fst) hv)))).trans rfl) rfl rfl rfl rfl ⟨rfl,rfl⟩
 refine ar [6,7,14,15,16,17,18] ?_;refine .seq ?_
 obtain ⟨x11,g11,h⟩:=bnd h
 obtain ⟨x12,g12,h⟩:=bnd h
 refine .drawnF 8 [6] [(19,.nb [.sl (Is x12.1.shape),.sl (Its x12.1.items)])] [] A8 (by kernel_rfl) rfl ?_;refine dv (Aq (Dd g11) Tryz.call12) ?_;refine dv (Ei Ac Ab) ?_;refine dv (Ei Ac Ab) ?_;refine dv (VOK.tupd (vs:=[.ag [.sl (Is x12.1.shape),.sl (Its x12.1.items)],.i .i64 x12.2]) (Aq (CL g12) Tryz.call11)) ?_;refine dv (Aa) ?_;refine dv (vex) ?_;refine dv (vex) ?_;refine dv (van (Aj Ax) Az) ?_;refine dz ?_
 refine ⟨?_,?_,?_⟩
 ·intro k hk
  simp only [List.mem_cons,List.not_mem_nil,or_false] at hk
  subst hk
  exact ⟨_,_,_,rfl,rfl,rfl,rfl,rfl,rfl,vex⟩
 ·intro om e hom hge
  cases hom
  exact H7 (cs:=[.sl (Is []),.sl (Its [])]) (cs':=[.sl (Is x12.1.shape),.sl (Its x12.1.items)]) Ab (by decide) rfl ((hge 19 (fun k hk v hv=>by
    simp only [List.mem_cons,List.not_mem_nil,or_false] at hk
    subst hk;exact (by decide:¬(some 83=some 19)) (congrArg (Option.map Prod.fst) hv))).trans rfl) ((congrArg A2 (hge 82 (fun k hk v hv=>by
    simp only [List.mem_cons,List.not_mem_nil,or_false] at hk
    subst hk;exact (by decide:¬(some 83=some 82)) (congrArg (Option.map Prod.fst) hv)))).trans rfl) rfl rfl rfl rfl ⟨rfl,rfl⟩
 refine ar [6,14,16,17,18,19,20] ?_;refine .seq ?_;refine .seq ?_;refine AW.mr (σ:=Unit) (fun _=>True) (fun _=>[(6,.d (.b false)),(17,.nb [.sl (Is x10.1.shape),.sl (Its x10.1.items)]),(19,.nb [.sl (Is x12.1.shape),.sl (Its x12.1.items)]),(97,.d (.b ((!(decide (x6.2=0)))||((!(decide (x8.2=0)))||((!(decide (x10.2=0)))||(!(decide (x12.2=0))))))))]) (fun _=>[]) ?_ ?_
 ·skip
  refine .region ?_;refine vk (Aa) ?_;refine vk (vbi) ?_
  by_cases hc:x6.2=0
  ·have hb0:(!(decide (x6.2=0)))=false:=(ntf (dT hc))
   refine vk (VOK.lit (Aa) hb0) ?_;refine vk (Aa) ?_;refine vk (vbi) ?_;refine vk (Ao) ?_
   by_cases hc:x8.2=0
   ·have hb1:(!(decide (x8.2=0)))=false:=(ntf (dT hc))
    refine vk (VOK.lit (Aa) hb1) ?_;refine vk (Aa) ?_;refine vk (vbi) ?_;refine vk (Ao) ?_
    by_cases hc:x10.2=0
    ·have hb2:(!(decide (x10.2=0)))=false:=(ntf (dT hc))
     refine vk (VOK.lit (Aa) hb2) ?_;refine vk (Aa) ?_;refine vk (vbi) ?_;refine vk (Ao) ?_;refine RL.gk [6,17,19,97] ?_;refine .nil ?_
     exact jr () trivial (by simp only [hb0,hb1,hb2];rfl)
    have hb2:(!(decide (x10.2=0)))=true:=(ntt (dF hc))
    refine vk (VOK.lit (Aa) hb2) ?_;refine gf ?_;refine gf ?_;refine vk (Ao) ?_;refine RL.gk [6,17,19,97] ?_;refine .nil ?_
    exact jr () trivial (by simp only [hb0,hb1,hb2];rfl)
   have hb1:(!(decide (x8.2=0)))=true:=(ntt (dF hc))
   refine vk (VOK.lit (Aa) hb1) ?_;refine gf ?_;refine gf ?_;refine vk (Ao) ?_;refine vk (Aa) ?_;refine gf ?_;refine gf ?_;refine vk (Ao) ?_;refine RL.gk [6,17,19,97] ?_;refine .nil ?_
   exact jr () trivial (by simp only [hb0,hb1];rfl)
  have hb0:(!(decide (x6.2=0)))=true:=(ntt (dF hc))
  refine vk (VOK.lit (Aa) hb0) ?_;refine gf ?_;refine gf ?_;refine vk (Ao) ?_;refine vk (Aa) ?_;refine gf ?_;refine gf ?_;refine vk (Ao) ?_;refine vk (Aa) ?_;refine gf ?_;refine gf ?_;refine vk (Ao) ?_;refine RL.gk [6,17,19,97] ?_;refine .nil ?_
  exact jr () trivial (by simp only [hb0];rfl)
 rintro _ _
 rcases brc h with ⟨hc,h⟩|⟨hc,h⟩
 ·refine cnt hc ?_
  refine .sr ?_
  obtain ⟨x13,g13,h⟩:=bnd h
  refine vk (Aq (Fc g13) Tryz.call9) ?_;refine ar [6,17,19] ?_;refine .ret ?_
  cases h
  exact ⟨rfl,rfl⟩
 refine cnf (bf hc) ?_;refine .skip ?_
 show AW _ _ _ _ _ _
 refine .seq ?_
 obtain ⟨x14,g14,h⟩:=bnd h
 obtain ⟨z14,hz,h⟩:=bnd h
 refine AW.mr (σ:=Unit) (fun _=>True) (fun _=>[(6,.d (.b z14))]) (fun _=>[]) ?_ ?_
 ·skip
  refine .region ?_;refine vk (Aq (Fc g14) Tryz.call9) ?_
  rcases brc hz with ⟨hc,hz⟩|⟨hc,hz⟩
  ·have hb0:x14=true:=hc
   refine vk (VOK.lit (Aa) hb0) ?_;refine vk (Ei Ac Ab) ?_;refine vk (Ei Ac Ab) ?_
   obtain ⟨x16,g16,hz⟩:=bnd hz
   refine vk (Aq (Hp g16) Tryz.call14) ?_;refine vk (Ao) ?_;refine asd ?_;refine RL.gk [6] ?_;refine .nil ?_
   cases hz
   exact jr () trivial
  have hb0:x14=false:=(bf hc)
  refine vk (VOK.lit (Aa) hb0) ?_;refine gf ?_;refine gf ?_;refine gf ?_;refine vk (Ao) ?_;refine asd ?_;refine RL.gk [6] ?_;refine .nil ?_
  cases hz
  exact jr () trivial
 rintro _ _
 refine .ret ?_
 cases h
 exact ⟨rfl,rfl⟩
theorem NJ : Cu 44=some true:=by kernel_rfl
theorem My : Hg (⟨#[44,226,141,170]⟩ : ByteArray) 44=some true:=by kernel_rfl
theorem MA : Hg (⟨#[226,141,170,226,138,150,226,140,191,226,141,128]⟩ : ByteArray) 44=some false:=by kernel_rfl
theorem NK : okAr (.mk [] [])∧¬Be (.mk [] []):=by
 refine ⟨?_,by decide⟩
 rw [BI,D8,Dt]
 exact ⟨nofun,by simp,by simp,nofun⟩
theorem U0 {e:Int×RT×Int} (he:e.1=0∨e.1=1) {a b:Arr} (oa:okAr a) (ob:okAr b) (h:¬Be a∨¬Be b) : AU e 44 a b=some (.mk [] [],22):=by
 unfold AU
 rw [NJ,oB,if_pos rfl,Ow he (by simp) (by simpa using ⟨oa,ob⟩),oB,if_neg]
 rcases h with h|h<;>simp [h]
theorem U1 {e:Int×RT×Int} (he:e.1=0∨e.1=1) {xs ys:List Itm} (hx:VR xs) (hy:VR ys) : AU e 44 (vec xs) (vec ys)=A4 (vec xs) (vec ys) 0:=by
 have ht:F5 JZ 44=some ⟨.fn 81 [] [],fun x=>A4 x.1 x.2.1 x.2.2⟩:=rfl
 have hend:Eh (vec ys) false=some 0:=S1 (b:=vec ys) (by show [(ys.length:Int)].length≤_;simp)
 unfold AU Ef
 rw [NJ,oB,if_pos rfl,Po he hx.ok hy.ok hx.2.2.2 hy.2.2.2,oB,if_pos rfl,if_neg (by decide),if_neg (by decide),if_neg (by decide),if_neg (by decide),ht,oB,My,oB,Bool.true_and]
 have hg:¬decide (((List.length (vec ys).shape:Nat):Int)<((List.length (vec xs).shape:Nat):Int))=true:=by
  show ¬decide (((1:Nat):Int)<((1:Nat):Int))=true
  decide
 rw [if_neg hg,oB,MA,oB,hend,oB]
 show (A4 (vec xs) (vec ys) 0).bind _=_
 cases A4 (vec xs) (vec ys) 0<;>rfl
def JV (p:Arr) : Prop:=p=.mk [] []∨∃ w,VR w∧p=vec w
theorem Mg {e:Int×RT×Int} (he:e.1=0∨e.1=1) {p q:Arr} (hp:JV p) (hq:JV q) : ∃ r n,AU e 44 p q=some (r,n)∧JV r∧(n=0→∀ v w,VR v→VR w→p=vec v→q=vec w→VR (v++w)∧r=vec (v++w))∧(p=.mk [] []∨q=.mk [] []→n≠0)∧(n≠0→r=.mk [] []):=by
 have bad:p=.mk [] []∨q=.mk [] []→∃ r n,AU e 44 p q=some (r,n)∧JV r∧(n=0→∀ v w,VR v→VR w→p=vec v→q=vec w→VR (v++w)∧r=vec (v++w))∧(p=.mk [] []∨q=.mk [] []→n≠0)∧(n≠0→r=.mk [] []):=by
  intro h
  have op:okAr p:=hp.elim (fun e=>by rw [e];exact NK.1) fun ⟨w,hw,e⟩=>by rw [e];exact hw.ok
  have oq:okAr q:=hq.elim (fun e=>by rw [e];exact NK.1) fun ⟨w,hw,e⟩=>by rw [e];exact hw.ok
  refine ⟨_,_,U0 he op oq (h.imp (fun e=>by rw [e];exact NK.2) (fun e=>by rw [e];exact NK.2)),.inl rfl,fun h=>absurd h (by decide),fun _=>by decide,fun _=>rfl⟩
 rcases hp with hp|⟨v,hv,hp⟩
 ·exact bad (.inl hp)
 rcases hq with hq|⟨w,hw,hq⟩
 ·exact bad (.inr hq)
 subst hp hq
 obtain ⟨r,n,h1,h2,h3⟩:=Uw hv hw
 refine ⟨r,n,(U1 he hv hw).trans h1,?_,fun h v' w' _ _ e1 e2=>?_,fun h=>?_,h3⟩
 ·by_cases h:n=0
  ·exact .inr ⟨_,(h2 h).1,(h2 h).2⟩
  ·exact .inl (h3 h)
 ·have e1':v=v':=congrArg Arr.items e1
  have e2':w=w':=congrArg Arr.items e2
  subst e1' e2'
  exact h2 h
 ·rcases h with h|h
  ·exact absurd (congrArg Arr.items h) hv.1
  ·exact absurd (congrArg Arr.items h) hw.1
theorem Pm {x y z:List Itm} (hx:x.length≤1466015503701∧∀ i∈x,okI i) (hy:y.length≤1466015503701∧∀ i∈y,okI i) (hz:z.length≤1466015503701∧∀ i∈z,okI i) : Fe x y z=some true:=by
 have mk:∀ {l:List Itm},l.length≤1466015503701∧(∀ i∈l,okI i)→∃ r e,AF [((List.length l:Nat):Int)] l=some (r,e):=fun hl=>⟨_,_,Hb (fun z hz=>by rw [List.mem_singleton] at hz;omega) (by simp) hl.1 hl.2⟩
 obtain ⟨a,e1,h1⟩:=mk hx
 obtain ⟨b,e2,h2⟩:=mk hy
 obtain ⟨c,e3,h3⟩:=mk hz
 unfold Fe
 rw [h1,oB,h2,oB,h3,oB,Uq]
 by_cases hc:((!(decide (e1=0)))||((!(decide (e2=0)))||(!(decide (e3=0)))))=true
 ·rw [if_pos hc];rfl
 rw [if_neg hc]
 have hc':e1=0∧e2=0∧e3=0:=by simpa [and_assoc] using hc
 obtain ⟨rfl,rfl,rfl⟩:=hc'
 obtain ⟨vx,rfl⟩:=Lg hx.2 hx.1 h1
 obtain ⟨vy,rfl⟩:=Lg hy.2 hy.1 h2
 obtain ⟨vz,rfl⟩:=Lg hz.2 hz.1 h3
 have jx:JV (vec x):=.inr ⟨x,vx,rfl⟩
 have jy:JV (vec y):=.inr ⟨y,vy,rfl⟩
 have jz:JV (vec z):=.inr ⟨z,vz,rfl⟩
 have E:((1,(false,[],[]),0):Int×RT×Int).1=0∨((1,(false,[],[]),0):Int×RT×Int).1=1:=.inr rfl
 obtain ⟨p,n1,d1,jp,p1,_,_⟩:=Mg E jx jy
 obtain ⟨q,n2,d2,jq,q1,_,_⟩:=Mg E jy jz
 obtain ⟨r,n3,d3,jr,r1,_,_⟩:=Mg E jp jz
 obtain ⟨s,n4,d4,js,s1,_,_⟩:=Mg E jx jq
 simp only [U5,oB,d1,d2,d3,d4]
 by_cases hd:((!(decide (n1=0)))||((!(decide (n2=0)))||((!(decide (n3=0)))||(!(decide (n4=0))))))=true
 ·rw [if_pos hd]
 rw [if_neg hd]
 have hd':n1=0∧n2=0∧n3=0∧n4=0:=by simpa [and_assoc] using hd
 obtain ⟨rfl,rfl,rfl,rfl⟩:=hd'
 obtain ⟨vp,rfl⟩:=p1 rfl x y vx vy rfl rfl
 obtain ⟨vq,rfl⟩:=q1 rfl y z vy vz rfl rfl
 obtain ⟨vr,rfl⟩:=r1 rfl (x++y) z vp vz rfl rfl
 obtain ⟨vs,rfl⟩:=s1 rfl x (y++z) vx vq rfl rfl
 rw [List.append_assoc]
 simp only [if_true,(R2 vs.ok).yes rfl,oB]
end Go.FL
namespace Go.Proofs.YtipdmmpgepoggaaGreat.shapeJoins
open Go.ChangeShapes Go.WideShapes Go.ChangeAt Go.RowKit Go.FL
theorem own : ownKnob Tryz.prog.godebug=none:=by kernel_rfl
theorem laid : laidOutB Tryz.prog=true:=by kernel_rfl
theorem params : ∀ t∈Tryz.f4.params.toList,Tryz.prog.readableRec t=true∧t<Tryz.prog.types.size:=by
 intro t ht
 simp only [Tryz.params4,List.mem_cons,List.not_mem_nil,or_false] at ht
 rcases ht with rfl|rfl|rfl<;>exact ⟨by kernel_rfl,of_decide_eq_true (by kernel_rfl)⟩
set_option maxRecDepth 100000 in
theorem lifted (os:Os) (started:os.Started) (H:Type) (enc:TypeId×Value→H) :
  ReturnsInHanded {} Tryz.checked os 4 .any (Rows.shapeJoinsSpec.pre6 enc Tryz.prog Tryz.f4 Rows.shapeJoinsRow.domain false) (Rows.shapeJoinsSpec.post enc Tryz.prog Tryz.f4 false true false false):=by
 refine returnsInHanded_of_change_sized (C:=Tryz.checked) own started (by kernel_rfl) Tryz.func4
  (ChangeSpec.witness6 (enc:=enc) (C:=Tryz.checked) false ⟨#[],#[.slice none 0 0,.slice none 0 0,.slice none 0 0],[]⟩ 8 (by kernel_rfl) (by kernel_rfl) (by kernel_rfl) (by kernel_rfl)) ?_
 intro W base args ds gs before hval0 hW hcnd hsz _
 have hval:∀ (j:Nat) t v,Tryz.f4.params[j]?=some t→args[j]?=some v→Value.okWide Tryz.prog W .any base t v:=hval0
 have hW':=hW
 obtain ⟨p,q,hA0,hV,rfl,hfz,hnd⟩:=hW
 have hA:DataW.TrodAll enc Tryz.prog W 0 (fun _=>true) true Tryz.f4.params.toList args.toList ds p:=hA0
 rw [Tryz.params4] at hA hval
 obtain ⟨v0,vs0,d0,ds0,p0,q0,hargs,rfl,rfl,h0,r0⟩:=trodAll_cons hA
 obtain ⟨v1,vs1,d1,ds1,p1,q1,rfl,rfl,rfl,h1,r1⟩:=trodAll_cons r0
 obtain ⟨v2,vs2,d2,ds2,p2,q2,rfl,rfl,rfl,h2,r2⟩:=trodAll_cons r1
 obtain ⟨rfl,rfl,rfl⟩:=trodAll_nil r2
 obtain rfl:args=#[v0,v1,v2]:=by cases args;simp_all
 obtain ⟨rfl,rfl⟩:=trodVars_none hV
 rw [Tryz.params4] at hsz
 have w0:∀ m∈DataW.weights Tryz.prog 23 d0,m≤reachBytes:=fun m hm=>by simpa using List.all_eq_true.1 hsz m (DataW.weights_mem_each (j:=0) rfl rfl m hm)
 obtain ⟨a0,o0,e0⟩:=Lc (v:=v0) Le (by obtain ⟨x0,x1,x2,rfl⟩:=okWide_slice Tryz.underlying23 (hval 0 23 v0 rfl rfl);rfl) h0 w0
 have w1:∀ m∈DataW.weights Tryz.prog 23 d1,m≤reachBytes:=fun m hm=>by simpa using List.all_eq_true.1 hsz m (DataW.weights_mem_each (j:=1) rfl rfl m hm)
 obtain ⟨a1,o1,e1⟩:=Lc (v:=v1) Le (by obtain ⟨x0,x1,x2,rfl⟩:=okWide_slice Tryz.underlying23 (hval 1 23 v1 rfl rfl);rfl) h1 w1
 have w2:∀ m∈DataW.weights Tryz.prog 23 d2,m≤reachBytes:=fun m hm=>by simpa using List.all_eq_true.1 hsz m (DataW.weights_mem_each (j:=2) rfl rfl m hm)
 obtain ⟨a2,o2,e2⟩:=Lc (v:=v2) Le (by obtain ⟨x0,x1,x2,rfl⟩:=okWide_slice Tryz.underlying23 (hval 2 23 v2 rfl rfl);rfl) h2 w2
 refine (NL (KR (Pm o0 o1 o2)) (.cons e0 (.cons e1 (.cons e2 .nil)))).mono fun e W' ⟨he,hb⟩=>?_
 subst he
 exact ⟨_,rfl,PN hW' rfl (fun _=>rfl) rfl Tryz.underlying4 laid params hb⟩
theorem over : Rows.shapeJoinsRow.holds Tryz.pinned (OpenSpec.ofChange Rows.shapeJoinsSpec) :=
 OpenClaim.holds_of_wide 4 Tryz.f4 rfl rfl rfl rfl rfl rfl rfl ⟨rfl,rfl,rfl,rfl,rfl⟩ rfl rfl rfl rfl rfl (by kernel_rfl) Tryz.func4 (by kernel_rfl)
  (of_decide_eq_true (by kernel_rfl)) (by unfold Func.isWrapper;first|(rw [if_pos (by decide +kernel)];kernel_rfl)|(rw [if_neg (by decide +kernel)];exact ⟨rfl,rfl⟩))
  (fun os started H enc _=>lifted os started H enc)
theorem proved : Rows.ShapeJoinsSaid :=
 over
end Go.Proofs.YtipdmmpgepoggaaGreat.shapeJoins
