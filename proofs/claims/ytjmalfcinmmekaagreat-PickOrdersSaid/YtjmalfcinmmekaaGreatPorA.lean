/-
  The law: its function printed as a pure function, its contract, the plain law, the statement
-/
import Derived.Test.YtjmalfcinmmekaaGreatPoF
import Derived.Test.YtjmalfcinmmekaaGreatRows
set_option linter.unusedVariables false
namespace Go.FL
open Go Go.Proofs
def D1 (a0:Itm) (a1:Itm) (a2:Itm) : Option (Bool):=((DW a0 a1).bind fun x1=>((DW a1 a2).bind fun x2=>((DW a0 a2).bind fun x3=>(HP.bind fun x4=>(Option.bind ((if x4=true then ((Fv a0 a1).bind fun x6=>(if x1=x6 then ((DW a1 a0).bind fun x7=>(some (!(decide (x1=(IntKind.wrap .i64 (0-x7))))))) else (some true))) else (some true)) : Option (Bool)) fun (z4:Bool)=>(if z4=true then (some (false)) else ((BA a0).bind fun x8=>(Option.bind ((if x8=true then ((BA a1).bind fun x10=>(if x10=true then ((BA a2).bind fun x11=>(if x11=true then (if x1≤0 then (if x2≤0 then (some (decide (x3≤0))) else (some true)) else (some true)) else (some true))) else (some true))) else (some true)) : Option (Bool)) fun (z8:Bool)=>(some (z8))))))))))
theorem Ji {a0:Itm} {a1:Itm} {a2:Itm} {r:Bool} (h:D1 a0 a1 a2=some r) :
  Fn Tryz.prog 8 [.ag [.i .u8 a0.kind,.b a0.num.1,.sl (L a0.num.2.1),.sl (L a0.num.2.2),.i .i32 a0.char,.sl (Ars a0.box)],.ag [.i .u8 a1.kind,.b a1.num.1,.sl (L a1.num.2.1),.sl (L a1.num.2.2),.i .i32 a1.char,.sl (Ars a1.box)],.ag [.i .u8 a2.kind,.b a2.num.1,.sl (L a2.num.2.1),.sl (L a2.num.2.2),.i .i32 a2.char,.sl (Ars a2.box)]] (.d (.b r)):=by
 unfold D1 at h
 refine Fn.o1 6 62 Tryz.func8 ?_;refine .sr ?_;refine vk vbx ?_;refine vk vbx ?_;refine vk vbx ?_;refine ar [3,4,5,6] ?_;refine .seq ?_;refine .drawn 9 A2 (by kernel_rfl) ?_;refine dv (Aq AB As) ?_;refine dv (Aq AB As) ?_
 obtain ⟨x1,g1,h⟩:=bnd h
 refine dv (Ah (Fb g1) Tryz.call30) ?_;refine dv (Aq AB As) ?_;refine dv (Aq AB As) ?_
 obtain ⟨x2,g2,h⟩:=bnd h
 refine dv (Ah (Fb g2) Tryz.call30) ?_;refine dv (Aq AB As) ?_;refine dv (Aq AB As) ?_
 obtain ⟨x3,g3,h⟩:=bnd h
 refine dv (Ah (Fb g3) Tryz.call30) ?_;refine dz ?_;refine asd ?_;refine asd ?_;refine ar [3,4,5,6,7,8,9] ?_;refine .seq ?_;refine .seq ?_
 obtain ⟨x4,g4,h⟩:=bnd h
 obtain ⟨z4,hz,h⟩:=bnd h
 refine AW.mr (σ:=Unit) (fun _=>True) (fun _=>[(3,.d (.ptr [.i .u8 a0.kind,.b a0.num.1,.sl (L a0.num.2.1),.sl (L a0.num.2.2),.i .i32 a0.char,.sl (Ars a0.box)])),(4,.d (.ptr [.i .u8 a1.kind,.b a1.num.1,.sl (L a1.num.2.1),.sl (L a1.num.2.2),.i .i32 a1.char,.sl (Ars a1.box)])),(5,.d (.ptr [.i .u8 a2.kind,.b a2.num.1,.sl (L a2.num.2.1),.sl (L a2.num.2.2),.i .i32 a2.char,.sl (Ars a2.box)])),(6,.d (.b false)),(7,.d (.i .i64 x1)),(8,.d (.i .i64 x2)),(9,.d (.i .i64 x3)),(35,.d (.b z4))]) (fun _=>[]) ?_ ?_
 ·skip
  refine .region ?_;refine vk (Ah (NW g4) Tryz.call16) ?_;refine vk vnt ?_
  rcases brc hz with ⟨hc,hz⟩|⟨hc,hz⟩
  ·have hb0:(!x4)=false:=(ntf hc)
   refine vL hb0 ?_;refine va ?_;refine vk (Aq AB As) ?_;refine vk (Aq AB As) ?_
   obtain ⟨x6,g6,hz⟩:=bnd hz
   refine vk (Ah (Ng g6) Tryz.call31) ?_;refine vb ?_;refine vk Ag ?_
   rcases brc hz with ⟨hc,hz⟩|⟨hc,hz⟩
   ·have hb1:(!(decide (x1=x6)))=false:=(ntf (dT hc))
    refine vL hb1 ?_;refine va ?_;refine vk (Aq AB As) ?_;refine vk (Aq AB As) ?_
    obtain ⟨x7,g7,hz⟩:=bnd hz
    refine vk (Ah (Fb g7) Tryz.call30) ?_;refine vk vng ?_;refine vb ?_;refine vk Ag ?_;refine RL.gk [3,4,5,6,7,8,9,35] ?_;refine .nil ?_
    cases hz
    exact jr () trivial
   have hb1:(!(decide (x1=x6)))=true:=(ntt (dF hc))
   refine vL hb1 ?_;refine gf4 ?_;refine gf2 ?_;refine vk Ag ?_;refine RL.gk [3,4,5,6,7,8,9,35] ?_;refine .nil ?_
   cases hz
   exact jr () trivial
  have hb0:(!x4)=true:=(ntt (bf hc))
  refine vL hb0 ?_;refine gf4 ?_;refine gf ?_;refine vk Ag ?_;refine va ?_;refine gf4 ?_;refine gf2 ?_;refine vk Ag ?_;refine RL.gk [3,4,5,6,7,8,9,35] ?_;refine .nil ?_
  cases hz
  exact jr () trivial
 rintro _ _
 rcases brc h with ⟨hc,h⟩|⟨hc,h⟩
 ·refine cnt hc ?_
  refine .sr ?_;refine ar [3,4,5,6,7,8,9] ?_;refine .ret ?_
  cases h
  exact ⟨rfl,rfl⟩
 refine cnf (bf hc) ?_;refine .sk ?_;refine .seq ?_
 obtain ⟨x8,g8,h⟩:=bnd h
 obtain ⟨z8,hz,h⟩:=bnd h
 refine AW.mr (σ:=Unit) (fun _=>True) (fun _=>[(6,.d (.b z8))]) (fun _=>[]) ?_ ?_
 ·skip
  refine .region ?_;refine vk (Aq AB As) ?_;refine vk (Ah (Cq g8) Tryz.call32) ?_;refine vk vnt ?_
  rcases brc hz with ⟨hc,hz⟩|⟨hc,hz⟩
  ·have hb0:(!x8)=false:=(ntf hc)
   refine vL hb0 ?_;refine vk (Aq AB As) ?_
   obtain ⟨x10,g10,hz⟩:=bnd hz
   refine vk (Ah (Cq g10) Tryz.call32) ?_;refine vk vnt ?_;refine vk Ag ?_
   rcases brc hz with ⟨hc,hz⟩|⟨hc,hz⟩
   ·have hb1:(!x10)=false:=(ntf hc)
    refine vL hb1 ?_;refine vk (Aq AB As) ?_
    obtain ⟨x11,g11,hz⟩:=bnd hz
    refine vk (Ah (Cq g11) Tryz.call32) ?_;refine vk vnt ?_;refine vk Ag ?_
    rcases brc hz with ⟨hc,hz⟩|⟨hc,hz⟩
    ·have hb2:(!x11)=false:=(ntf hc)
     refine vL hb2 ?_;refine va ?_;refine vb ?_
     rcases brc hz with ⟨hc,hz⟩|⟨hc,hz⟩
     ·have hb3:(decide (x1≤0))=true:=(dT hc)
      refine vL hb3 ?_;refine va ?_;refine vb ?_;refine vk Ag ?_;refine vk vnt ?_;refine vk Ag ?_
      rcases brc hz with ⟨hc,hz⟩|⟨hc,hz⟩
      ·have hb4:(!(decide (x2≤0)))=false:=(ntf (dT hc))
       refine vL hb4 ?_;refine va ?_;refine vb ?_;refine vk Ag ?_;refine asd ?_;refine RL.gk [6] ?_;refine .nil ?_
       cases hz
       exact jr () trivial
      have hb4:(!(decide (x2≤0)))=true:=(ntt (dF hc))
      refine vL hb4 ?_;refine gf2 ?_;refine vk Ag ?_;refine asd ?_;refine RL.gk [6] ?_;refine .nil ?_
      cases hz
      exact jr () trivial
     have hb3:(decide (x1≤0))=false:=(dF hc)
     refine vL hb3 ?_;refine gf2 ?_;refine vk Ag ?_;refine vk vnt ?_;refine vk Ag ?_;refine va ?_;refine gf2 ?_;refine vk Ag ?_;refine asd ?_;refine RL.gk [6] ?_;refine .nil ?_
     cases hz
     exact jr () trivial
    have hb2:(!x11)=true:=(ntt (bf hc))
    refine vL hb2 ?_;refine gf2 ?_;refine gfu ?_;refine gf4 ?_;refine vk Ag ?_;refine va ?_;refine gf2 ?_;refine vk Ag ?_;refine asd ?_;refine RL.gk [6] ?_;refine .nil ?_
    cases hz
    exact jr () trivial
   have hb1:(!x10)=true:=(ntt (bf hc))
   refine vL hb1 ?_;refine gf3 ?_;refine vk Ag ?_;refine va ?_;refine gf2 ?_;refine gfu ?_;refine gf4 ?_;refine vk Ag ?_;refine va ?_;refine gf2 ?_;refine vk Ag ?_;refine asd ?_;refine RL.gk [6] ?_;refine .nil ?_
   cases hz
   exact jr () trivial
  have hb0:(!x8)=true:=(ntt (bf hc))
  refine vL hb0 ?_;refine gf3 ?_;refine vk Ag ?_;refine va ?_;refine gf3 ?_;refine vk Ag ?_;refine va ?_;refine gf2 ?_;refine gfu ?_;refine gf4 ?_;refine vk Ag ?_;refine va ?_;refine gf2 ?_;refine vk Ag ?_;refine asd ?_;refine RL.gk [6] ?_;refine .nil ?_
  cases hz
  exact jr () trivial
 rintro _ _
 refine .ret ?_
 cases h
 exact ⟨rfl,rfl⟩
theorem NO {x y z:Itm} (ox:okI x) (oy:okI y) (oz:okI z) : D1 x y z=some true:=by
 unfold D1
 have hx:x.size<x.size+y.size+1:=by omega
 have hy:y.size<x.size+y.size+1:=by omega
 have C:=Ra (x.size+y.size+1)
 generalize x.size+y.size+1=K at hx hy C
 rw [Kg hx ox oy,oB,Kg hy oy oz,oB,Kg hx ox oz,oB,Y4,oB,if_pos rfl,R6 hx ox oy,oB,if_pos rfl,Kg hy oy ox,oB,oB]
 have e1:(if AD x∧AD y then Fx K x y else 0)=IntKind.wrap .i64 (0-(if AD y∧AD x then Fx K y x else 0)):=by
  by_cases h:AD x∧AD y
  ·rw [if_pos h,if_pos ⟨h.2,h.1⟩]
   have:=C.anti x y
   have:=C.vals x y
   rw [show IntKind.wrap .i64 (0-Fx K y x)=0-Fx K y x from Gc (by omega) (by omega)];omega
  ·rw [if_neg h,if_neg fun q=>h ⟨q.2,q.1⟩];rfl
 rw [← e1,if_neg (by simp),Ft ox,oB]
 by_cases rx:AD x
 rotate_left
 ·rw [dF rx];rfl
 rw [dT rx,if_pos rfl,Ft oy,oB]
 by_cases ry:AD y
 rotate_left
 ·rw [dF ry];rfl
 rw [dT ry,if_pos rfl,Ft oz,oB]
 by_cases rz:AD z
 rotate_left
 ·rw [dF rz];rfl
 rw [dT rz,if_pos rfl]
 simp only [show (AD x∧AD y)=True from eq_true ⟨rx,ry⟩,show (AD y∧AD z)=True from eq_true ⟨ry,rz⟩,show (AD x∧AD z)=True from eq_true ⟨rx,rz⟩,if_true]
 by_cases h1:Fx K x y≤0
 rotate_left
 ·rw [if_neg h1];rfl
 by_cases h2:Fx K y z≤0
 rotate_left
 ·rw [if_pos h1,if_neg h2];rfl
 rw [if_pos h1,if_pos h2,dT (C.trans x y z h1 h2)];rfl
end Go.FL
namespace Go.Proofs.YtjmalfcinmmekaaGreat.pickOrders
open Go.ChangeShapes Go.WideShapes Go.ChangeAt Go.RowKit Go.FL
theorem own : ownKnob Tryz.prog.godebug=none:=by kernel_rfl
theorem laid : laidOutB Tryz.prog=true:=by kernel_rfl
theorem params : ∀ t∈Tryz.f8.params.toList,Tryz.prog.readableRec t=true∧t<Tryz.prog.types.size:=by
 intro t ht
 simp only [Tryz.params8,List.mem_cons,List.not_mem_nil,or_false] at ht
 rcases ht with rfl|rfl|rfl<;>exact ⟨by kernel_rfl,of_decide_eq_true (by kernel_rfl)⟩
set_option maxRecDepth 100000 in
theorem lifted (os:Os) (started:os.Started) (H:Type) (enc:TypeId×Value→H) :
  ReturnsInHanded {} Tryz.checked os 8 .any (Rows.pickOrdersSpec.pre6 enc Tryz.prog Tryz.f8 Rows.pickOrdersRow.domain false) (Rows.pickOrdersSpec.post enc Tryz.prog Tryz.f8 false true false false):=by
 refine returnsInHanded_of_change_sized (C:=Tryz.checked) own started (by kernel_rfl) Tryz.func8
  (ChangeSpec.witness6 (enc:=enc) (C:=Tryz.checked) false ⟨#[],#[.agg #[.int .u8 0,.bool false,.slice none 0 0,.slice none 0 0,.int .i32 0,.slice none 0 0],.agg #[.int .u8 0,.bool false,.slice none 0 0,.slice none 0 0,.int .i32 0,.slice none 0 0],.agg #[.int .u8 0,.bool false,.slice none 0 0,.slice none 0 0,.int .i32 0,.slice none 0 0]],[]⟩ 8 (by kernel_rfl) (by kernel_rfl) (by kernel_rfl) (by kernel_rfl)) ?_
 intro W base args ds gs before hval0 hW hcnd hsz _
 have hval:∀ (j:Nat) t v,Tryz.f8.params[j]?=some t→args[j]?=some v→Value.okWide Tryz.prog W .any base t v:=hval0
 have hW':=hW
 obtain ⟨p,q,hA0,hV,rfl,hfz,hnd⟩:=hW
 have hA:DataW.TrodAll enc Tryz.prog W 0 (fun _=>true) true Tryz.f8.params.toList args.toList ds p:=hA0
 rw [Tryz.params8] at hA hval
 obtain ⟨v0,vs0,d0,ds0,p0,q0,hargs,rfl,rfl,h0,r0⟩:=trodAll_cons hA
 obtain ⟨v1,vs1,d1,ds1,p1,q1,rfl,rfl,rfl,h1,r1⟩:=trodAll_cons r0
 obtain ⟨v2,vs2,d2,ds2,p2,q2,rfl,rfl,rfl,h2,r2⟩:=trodAll_cons r1
 obtain ⟨rfl,rfl,rfl⟩:=trodAll_nil r2
 obtain rfl:args=#[v0,v1,v2]:=by cases args;simp_all
 obtain ⟨rfl,rfl⟩:=trodVars_none hV
 rw [Tryz.params8] at hsz
 have w0:∀ m∈DataW.weights Tryz.prog 51 d0,m≤reachBytes:=fun m hm=>by simpa using List.all_eq_true.1 hsz m (DataW.weights_mem_each (j:=0) rfl rfl m hm)
 obtain ⟨a0,o0,e0⟩:=PM (v:=v0) O7 (let ⟨cs,h,_⟩:=okWide_struct (P:=Tryz.prog) Tryz.underlying51 (hval 0 51 v0 rfl rfl);⟨cs,h⟩) h0 w0
 have w1:∀ m∈DataW.weights Tryz.prog 51 d1,m≤reachBytes:=fun m hm=>by simpa using List.all_eq_true.1 hsz m (DataW.weights_mem_each (j:=1) rfl rfl m hm)
 obtain ⟨a1,o1,e1⟩:=PM (v:=v1) O7 (let ⟨cs,h,_⟩:=okWide_struct (P:=Tryz.prog) Tryz.underlying51 (hval 1 51 v1 rfl rfl);⟨cs,h⟩) h1 w1
 have w2:∀ m∈DataW.weights Tryz.prog 51 d2,m≤reachBytes:=fun m hm=>by simpa using List.all_eq_true.1 hsz m (DataW.weights_mem_each (j:=2) rfl rfl m hm)
 obtain ⟨a2,o2,e2⟩:=PM (v:=v2) O7 (let ⟨cs,h,_⟩:=okWide_struct (P:=Tryz.prog) Tryz.underlying51 (hval 2 51 v2 rfl rfl);⟨cs,h⟩) h2 w2
 refine (TZ (Ji (NO o0 o1 o2)) (.cons e0 (.cons e1 (.cons e2 .nil)))).mono fun e W' ⟨he,hb⟩=>?_
 subst he
 exact ⟨_,rfl,UO hW' rfl (fun _=>rfl) rfl Tryz.underlying4 laid params hb⟩
theorem over : Rows.pickOrdersRow.holds Tryz.pinned (OpenSpec.ofChange Rows.pickOrdersSpec) :=
 OpenClaim.holds_of_wide 8 Tryz.f8 rfl rfl rfl rfl rfl rfl rfl ⟨rfl,rfl,rfl,rfl,rfl⟩ rfl rfl rfl rfl rfl (by kernel_rfl) Tryz.func8 (by kernel_rfl)
  (of_decide_eq_true (by kernel_rfl)) (by unfold Func.isWrapper;first|(rw [if_pos (by decide +kernel)];kernel_rfl)|(rw [if_neg (by decide +kernel)];exact ⟨rfl,rfl⟩))
  (fun os started H enc _=>lifted os started H enc)
theorem proved : Rows.PickOrdersSaid :=
 over
end Go.Proofs.YtjmalfcinmmekaaGreat.pickOrders
