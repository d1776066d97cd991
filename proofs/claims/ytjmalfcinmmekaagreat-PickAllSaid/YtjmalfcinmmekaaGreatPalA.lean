/-
  The law: its function printed as a pure function, its contract, the plain law, the statement
-/
import Derived.Test.YtjmalfcinmmekaaGreatPaE
import Derived.Test.YtjmalfcinmmekaaGreatRows
set_option linter.unusedVariables false
namespace Go.FL
open Go Go.Proofs
def Fw (a0:(List Itm)) : Option (Bool):=((AX ([((List.length a0:Nat) : Int)]) a0).bind fun x1=>(if ((!(decide (x1.2=0)))||(decide (4096<((List.length a0:Nat) : Int))))=true then (Gi.bind fun x2=>(some (x2))) else (Ev.bind fun x3=>((DY ((List.length a0:Nat) : Int)).bind fun x4=>((D1 x3 9075 x4).bind fun x5=>(Ev.bind fun x6=>((F7 x6 x1.1 ([[x5.1]])).bind fun x7=>(Ev.bind fun x8=>((F7 x8 x1.1 ([[]])).bind fun x9=>(Gi.bind fun x10=>(Option.bind ((if x10=true then (if x5.2=0 then (if x7.2=0 then (if x9.2=0 then ((Jh x1.1 x7.1).bind fun x12=>(if x12=true then ((Jh x1.1 x9.1).bind fun x13=>(some x13)) else (some false))) else (some false)) else (some false)) else (some false)) else (some false)) : Option (Bool)) fun (z10:Bool)=>(some (z10)))))))))))))
theorem K7 {a0:(List Itm)} {r:Bool} (h:Fw a0=some r) :
  Fn Tryz.prog 4 [.sl (Its a0)] (.d (.b r)):=by
 unfold Fw at h
 refine Fn.o1 2 74 Tryz.func4 ?_;refine .sr ?_;refine ar [0,2] ?_;refine .sr ?_;refine vk (Aa) ?_;refine vk (AU (Ay _) (BQ _) BK) ?_;refine vk ((Ef (DC [((List.length a0:Nat):Int)]) Ds).deep) ?_;refine vk (Aa) ?_
 obtain ⟨x1,g1,h⟩:=bnd h
 refine vk (VOK.tupd (vs:=[.ag [.sl (Is x1.1.shape),.sl (Its x1.1.items)],.i .i64 x1.2]) (Ag (Fr g1) Tryz.call18)) ?_;refine vk (Aa) ?_;refine vk (vex) ?_;refine vk (vex) ?_;refine vk (van (Ah AI) AK) ?_
 refine stn ?_ Ab (by decide)
 refine ar [0,2,3,4] ?_;refine .seq ?_;refine .seq ?_;refine AW.mr (σ:=Unit) (fun _=>True) (fun _=>[(0,.d (.sl (Its a0))),(2,.d (.b false)),(3,.nb [.sl (Is x1.1.shape),.sl (Its x1.1.items)]),(25,.d (.b ((!(decide (x1.2=0)))||(decide (4096<((List.length a0:Nat):Int))))))]) (fun _=>[]) ?_ ?_
 ·skip
  refine .region ?_;refine vk (Aa) ?_;refine vk (vbi) ?_
  by_cases hc:x1.2=0
  ·have hb0:(!(decide (x1.2=0)))=false:=(ntf (dT hc))
   refine vk (VOK.lit (Aa) hb0) ?_;refine vk (Aa) ?_;refine vk (AU (Ay _) (BQ _) BK) ?_;refine vk (vbi) ?_;refine vk (Ao) ?_;refine RL.gk [0,2,3,25] ?_;refine .nil ?_
   exact jr () trivial (by simp only [hb0];rfl)
  have hb0:(!(decide (x1.2=0)))=true:=(ntt (dF hc))
  refine vk (VOK.lit (Aa) hb0) ?_;refine gf ?_;refine gf ?_;refine gf ?_;refine vk (Ao) ?_;refine RL.gk [0,2,3,25] ?_;refine .nil ?_
  exact jr () trivial (by simp only [hb0];rfl)
 rintro _ _
 rcases brc h with ⟨hc,h⟩|⟨hc,h⟩
 ·refine cnt hc ?_
  refine .sr ?_
  obtain ⟨x2,g2,h⟩:=bnd h
  refine vk (Ag (Jo g2) Tryz.call16) ?_;refine ar [0,2,3] ?_;refine .ret ?_
  cases h
  exact ⟨rfl,rfl⟩
 refine cnf (bf hc) ?_;refine .skip ?_
 show AW _ _ _ _ _ _
 refine .sr ?_
 obtain ⟨x3,g3,h⟩:=bnd h
 refine vk (Ag (EG g3) Tryz.call14) ?_;refine vk (Aa) ?_;refine vk (AU (Ay _) (BQ _) BK) ?_
 obtain ⟨x4,g4,h⟩:=bnd h
 refine vk (Ag (EQ g4) Tryz.call12) ?_
 obtain ⟨x5,g5,h⟩:=bnd h
 refine vk (VOK.tupd (vs:=[.ag [.sl (Is x5.1.shape),.sl (Its x5.1.items)],.i .i64 x5.2]) (Ag (H6 g5) Tryz.call19)) ?_;refine vk (Aa) ?_;refine vk (vex) ?_;refine vk (vex) ?_;refine vk (van (Ah AI) AK) ?_
 refine stn ?_ Ab (by decide)
 refine ar [2,3,5,6] ?_;refine .seq ?_
 obtain ⟨x6,g6,h⟩:=bnd h
 obtain ⟨x7,g7,h⟩:=bnd h
 refine .drawnF 10 [8] [(7,.nb [.sl (Is x7.1.shape),.sl (Its x7.1.items)])] [] AZ (by kernel_rfl) rfl ?_;refine dv (Ag (EG g6) Tryz.call14) ?_;refine dv (Di Ae Ab) ?_;refine dv (Di Ae Ab) ?_;refine dv ((E0 (I6 x5.1) (Gt [x5.1]) Il).deep) ?_;refine dv ((Ef (Oi [[x5.1]]) RN).deep) ?_;refine dv (VOK.tupd (vs:=[.ag [.sl (Is x7.1.shape),.sl (Its x7.1.items)],.i .i64 x7.2]) (Ag (MW g7) Tryz.call20)) ?_;refine dv (Aa) ?_;refine dv (vex) ?_;refine dv (vex) ?_;refine dv (van (Ah AI) AK) ?_;refine dz ?_
 refine ⟨?_,?_,?_⟩
 ·intro k hk
  simp only [List.mem_cons,List.not_mem_nil,or_false] at hk
  subst hk
  exact ⟨_,_,_,rfl,rfl,rfl,rfl,rfl,rfl,vex⟩
 ·intro om e hom hge
  cases hom
  exact Gq (cs:=[.sl (Is []),.sl (Its [])]) (cs':=[.sl (Is x7.1.shape),.sl (Its x7.1.items)]) Ab (by decide) rfl ((hge 7 (fun k hk v hv=>by
    simp only [List.mem_cons,List.not_mem_nil,or_false] at hk
    subst hk;exact (by decide:¬(some 43=some 7)) (congrArg (Option.map Prod.fst) hv))).trans rfl) ((congrArg A9 (hge 42 (fun k hk v hv=>by
    simp only [List.mem_cons,List.not_mem_nil,or_false] at hk
    subst hk;exact (by decide:¬(some 43=some 42)) (congrArg (Option.map Prod.fst) hv)))).trans rfl) rfl rfl rfl rfl ⟨rfl,rfl⟩
 refine ar [2,3,6,7,8] ?_;refine .seq ?_
 obtain ⟨x8,g8,h⟩:=bnd h
 obtain ⟨x9,g9,h⟩:=bnd h
 refine .drawnF 8 [6] [(9,.nb [.sl (Is x9.1.shape),.sl (Its x9.1.items)])] [] AZ (by kernel_rfl) rfl ?_;refine dv (Ag (EG g8) Tryz.call14) ?_;refine dv (Di Ae Ab) ?_;refine dv ((Ef (Oi [[]]) RN).deep) ?_;refine dv (VOK.tupd (vs:=[.ag [.sl (Is x9.1.shape),.sl (Its x9.1.items)],.i .i64 x9.2]) (Ag (MW g9) Tryz.call20)) ?_;refine dv (Aa) ?_;refine dv (vex) ?_;refine dv (vex) ?_;refine dv (van (Ah AI) AK) ?_;refine dz ?_
 refine ⟨?_,?_,?_⟩
 ·intro k hk
  simp only [List.mem_cons,List.not_mem_nil,or_false] at hk
  subst hk
  exact ⟨_,_,_,rfl,rfl,rfl,rfl,rfl,rfl,vex⟩
 ·intro om e hom hge
  cases hom
  exact Gq (cs:=[.sl (Is []),.sl (Its [])]) (cs':=[.sl (Is x9.1.shape),.sl (Its x9.1.items)]) Ab (by decide) rfl ((hge 9 (fun k hk v hv=>by
    simp only [List.mem_cons,List.not_mem_nil,or_false] at hk
    subst hk;exact (by decide:¬(some 50=some 9)) (congrArg (Option.map Prod.fst) hv))).trans rfl) ((congrArg A9 (hge 49 (fun k hk v hv=>by
    simp only [List.mem_cons,List.not_mem_nil,or_false] at hk
    subst hk;exact (by decide:¬(some 50=some 49)) (congrArg (Option.map Prod.fst) hv)))).trans rfl) rfl rfl rfl rfl ⟨rfl,rfl⟩
 refine ar [2,3,6,7,8,9,10] ?_;refine .seq ?_
 obtain ⟨x10,g10,h⟩:=bnd h
 obtain ⟨z10,hz,h⟩:=bnd h
 refine AW.mr (σ:=Unit) (fun _=>True) (fun _=>[(2,.d (.b z10))]) (fun _=>[]) ?_ ?_
 ·skip
  refine .region ?_;refine vk (Ag (Jo g10) Tryz.call16) ?_
  rcases brc hz with ⟨hc,hz⟩|⟨hc,hz⟩
  ·have hb0:x10=true:=hc
   refine vk (VOK.lit (Aa) hb0) ?_;refine vk (Aa) ?_;refine vk (vbi) ?_;refine vk (Ao) ?_
   rcases brc hz with ⟨hc,hz⟩|⟨hc,hz⟩
   ·have hb1:(decide (x5.2=0))=true:=(dT hc)
    refine vk (VOK.lit (Aa) hb1) ?_;refine vk (Aa) ?_;refine vk (vbi) ?_;refine vk (Ao) ?_
    rcases brc hz with ⟨hc,hz⟩|⟨hc,hz⟩
    ·have hb2:(decide (x7.2=0))=true:=(dT hc)
     refine vk (VOK.lit (Aa) hb2) ?_;refine vk (Aa) ?_;refine vk (vbi) ?_;refine vk (Ao) ?_
     rcases brc hz with ⟨hc,hz⟩|⟨hc,hz⟩
     ·have hb3:(decide (x9.2=0))=true:=(dT hc)
      refine vk (VOK.lit (Aa) hb3) ?_;refine vk (Di Ae Ab) ?_;refine vk (Di Ae Ab) ?_
      obtain ⟨x12,g12,hz⟩:=bnd hz
      refine vk (Ag (JW g12) Tryz.call21) ?_;refine vk (Ao) ?_
      rcases brc hz with ⟨hc,hz⟩|⟨hc,hz⟩
      ·have hb4:x12=true:=hc
       refine vk (VOK.lit (Aa) hb4) ?_;refine vk (Di Ae Ab) ?_;refine vk (Di Ae Ab) ?_
       obtain ⟨x13,g13,hz⟩:=bnd hz
       refine vk (Ag (JW g13) Tryz.call21) ?_;refine vk (Ao) ?_;refine asd ?_;refine RL.gk [2] ?_;refine .nil ?_
       cases hz
       exact jr () trivial
      have hb4:x12=false:=(bf hc)
      refine vk (VOK.lit (Aa) hb4) ?_;refine gf ?_;refine gf ?_;refine gf ?_;refine vk (Ao) ?_;refine asd ?_;refine RL.gk [2] ?_;refine .nil ?_
      cases hz
      exact jr () trivial
     have hb3:(decide (x9.2=0))=false:=(dF hc)
     refine vk (VOK.lit (Aa) hb3) ?_;refine gf ?_;refine gf ?_;refine gf ?_;refine vk (Ao) ?_;refine vk (Aa) ?_;refine gf ?_;refine gf ?_;refine gf ?_;refine vk (Ao) ?_;refine asd ?_;refine RL.gk [2] ?_;refine .nil ?_
     cases hz
     exact jr () trivial
    have hb2:(decide (x7.2=0))=false:=(dF hc)
    refine vk (VOK.lit (Aa) hb2) ?_;refine gf ?_;refine gf ?_;refine vk (Ao) ?_;refine vk (Aa) ?_;refine gf ?_;refine gf ?_;refine gf ?_;refine vk (Ao) ?_;refine vk (Aa) ?_;refine gf ?_;refine gf ?_;refine gf ?_;refine vk (Ao) ?_;refine asd ?_;refine RL.gk [2] ?_;refine .nil ?_
    cases hz
    exact jr () trivial
   have hb1:(decide (x5.2=0))=false:=(dF hc)
   refine vk (VOK.lit (Aa) hb1) ?_;refine gf ?_;refine gf ?_;refine vk (Ao) ?_;refine vk (Aa) ?_;refine gf ?_;refine gf ?_;refine vk (Ao) ?_;refine vk (Aa) ?_;refine gf ?_;refine gf ?_;refine gf ?_;refine vk (Ao) ?_;refine vk (Aa) ?_;refine gf ?_;refine gf ?_;refine gf ?_;refine vk (Ao) ?_;refine asd ?_;refine RL.gk [2] ?_;refine .nil ?_
   cases hz
   exact jr () trivial
  have hb0:x10=false:=(bf hc)
  refine vk (VOK.lit (Aa) hb0) ?_;refine gf ?_;refine gf ?_;refine vk (Ao) ?_;refine vk (Aa) ?_;refine gf ?_;refine gf ?_;refine vk (Ao) ?_;refine vk (Aa) ?_;refine gf ?_;refine gf ?_;refine vk (Ao) ?_;refine vk (Aa) ?_;refine gf ?_;refine gf ?_;refine gf ?_;refine vk (Ao) ?_;refine vk (Aa) ?_;refine gf ?_;refine gf ?_;refine gf ?_;refine vk (Ao) ?_;refine asd ?_;refine RL.gk [2] ?_;refine .nil ?_
  cases hz
  exact jr () trivial
 rintro _ _
 refine .ret ?_
 cases h
 exact ⟨rfl,rfl⟩
theorem YL : Ev=some (1,(false,[],[]),0):=rfl
theorem Tz : EP 9075=some true:=by kernel_rfl
theorem Ty {n:Nat} (hn:n≤4096) : D1 (1,(false,[],[]),0) 9075 (.mk [] [De (n:Int)])=some (JU (FN n),0):=by
 have h64:EM (n:Int):=⟨by omega,by omega⟩
 have o:=SD h64
 unfold D1
 rw [Tz,oB,if_pos rfl,NM o.1 o.2,oB,if_pos rfl,L0 o.1,oB,if_neg (show ¬((9075:Int)=8834) by decide),if_neg (show ¬((9075:Int)=8835) by decide),if_neg (show ¬((9075:Int)=8593) by decide),if_neg (show ¬((9075:Int)=8714) by decide),Ch,if_neg (show ¬((9075:Int)=9035) by decide),show (decide ((9075:Int)=9042))=false from rfl]
 dsimp only
 rw [if_neg (show ¬(false=true) by decide),if_neg (show ¬((9075:Int)=8746) by decide),if_neg (show ¬((9075:Int)=8801) by decide),if_neg (show ¬((9075:Int)=8802) by decide),Vn hn]
 rfl
theorem Nb (xs:List Itm) : (FN xs.length).map (fun z=>xs.getD (z-1).toNat default)=xs:=by
 apply List.ext_getElem
 ·simp [Ct]
 ·intro i h1 h2
  rw [List.getElem_map,NR,show ((i:Int)+1-1).toNat=i by omega]
  exact OL h2
theorem Q7 {l:List Itm} (hl:l.length≤1466015503701∧∀ x∈l,okI x) : Fw l=some true:=by
 have hmk:∃ r e,AX [((List.length l:Nat):Int)] l=some (r,e):=⟨_,_,J6 (fun z hz=>by rw [List.mem_singleton] at hz;omega) (by simp) hl.1 hl.2⟩
 obtain ⟨r,e,hr⟩:=hmk
 unfold Fw
 rw [hr,oB,Yc]
 dsimp only
 by_cases h0:e=0
 rotate_left
 ·rw [if_pos (by simp [h0])];rfl
 subst h0
 obtain ⟨v,rfl⟩:=Wl hl.2 hl.1 hr
 have h2:=v.2.1
 have hp:=v.pos
 have R2:=WG v
 have R1:F7 (1,(false,[],[]),0) (vec l) [[JU (FN l.length)]]=some (vec l,0):=by
  refine Vx v (fun q=>by have:=congrArg List.length q;rw [Ct,List.length_nil] at this;omega) (by rw [Ct];exact h2) Qs ?_
  rw [Nb,Ct];exact v.make
 rw [if_neg (by simp;omega)]
 simp only [YL,oB,Xl (show EM ((l.length:Nat):Int) from ⟨by omega,by omega⟩),Ty h2,R1,R2,if_true,(Ws v.ok).yes rfl]
end Go.FL
namespace Go.Proofs.YtjmalfcinmmekaaGreat.pickAll
open Go.ChangeShapes Go.WideShapes Go.ChangeAt Go.RowKit Go.FL
theorem own : ownKnob Tryz.prog.godebug=none:=by kernel_rfl
theorem laid : laidOutB Tryz.prog=true:=by kernel_rfl
theorem params : ∀ t∈Tryz.f4.params.toList,Tryz.prog.readableRec t=true∧t<Tryz.prog.types.size:=by
 intro t ht
 simp only [Tryz.params4,List.mem_cons,List.not_mem_nil,or_false] at ht
 rcases ht with rfl<;>exact ⟨by kernel_rfl,of_decide_eq_true (by kernel_rfl)⟩
set_option maxRecDepth 100000 in
theorem lifted (os:Os) (started:os.Started) (H:Type) (enc:TypeId×Value→H) :
  ReturnsInHanded {} Tryz.checked os 4 .any (Rows.pickAllSpec.pre6 enc Tryz.prog Tryz.f4 Rows.pickAllRow.domain false) (Rows.pickAllSpec.post enc Tryz.prog Tryz.f4 false true false false):=by
 refine returnsInHanded_of_change_sized (C:=Tryz.checked) own started (by kernel_rfl) Tryz.func4
  (ChangeSpec.witness6 (enc:=enc) (C:=Tryz.checked) false ⟨#[],#[.slice none 0 0],[]⟩ 8 (by kernel_rfl) (by kernel_rfl) (by kernel_rfl) (by kernel_rfl)) ?_
 intro W base args ds gs before hval0 hW hcnd hsz _
 have hval:∀ (j:Nat) t v,Tryz.f4.params[j]?=some t→args[j]?=some v→Value.okWide Tryz.prog W .any base t v:=hval0
 have hW':=hW
 obtain ⟨p,q,hA0,hV,rfl,hfz,hnd⟩:=hW
 have hA:DataW.TrodAll enc Tryz.prog W 0 (fun _=>true) true Tryz.f4.params.toList args.toList ds p:=hA0
 rw [Tryz.params4] at hA hval
 obtain ⟨v0,vs0,d0,ds0,p0,q0,hargs,rfl,rfl,h0,r0⟩:=trodAll_cons hA
 obtain ⟨rfl,rfl,rfl⟩:=trodAll_nil r0
 obtain rfl:args=#[v0]:=by cases args;simp_all
 obtain ⟨rfl,rfl⟩:=trodVars_none hV
 rw [Tryz.params4] at hsz
 have w0:∀ m∈DataW.weights Tryz.prog 25 d0,m≤reachBytes:=fun m hm=>by simpa using List.all_eq_true.1 hsz m (DataW.weights_mem_each (j:=0) rfl rfl m hm)
 obtain ⟨a0,o0,e0⟩:=T8 (v:=v0) UK (by obtain ⟨x0,x1,x2,rfl⟩:=okWide_slice Tryz.underlying25 (hval 0 25 v0 rfl rfl);rfl) h0 w0
 refine (Tn (K7 (Q7 o0)) (.cons e0 .nil)).mono fun e W' ⟨he,hb⟩=>?_
 subst he
 exact ⟨_,rfl,Uk hW' rfl (fun _=>rfl) rfl Tryz.underlying4 laid params hb⟩
theorem over : Rows.pickAllRow.holds Tryz.pinned (OpenSpec.ofChange Rows.pickAllSpec) :=
 OpenClaim.holds_of_wide 4 Tryz.f4 rfl rfl rfl rfl rfl rfl rfl ⟨rfl,rfl,rfl,rfl,rfl⟩ rfl rfl rfl rfl rfl (by kernel_rfl) Tryz.func4 (by kernel_rfl)
  (of_decide_eq_true (by kernel_rfl)) (by unfold Func.isWrapper;first|(rw [if_pos (by decide +kernel)];kernel_rfl)|(rw [if_neg (by decide +kernel)];exact ⟨rfl,rfl⟩))
  (fun os started H enc _=>lifted os started H enc)
theorem proved : Rows.PickAllSaid :=
 over
end Go.Proofs.YtjmalfcinmmekaaGreat.pickAll
