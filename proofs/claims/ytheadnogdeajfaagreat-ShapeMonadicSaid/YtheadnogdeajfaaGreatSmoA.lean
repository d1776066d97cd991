/-
  The law: its function printed as a pure function, its contract, the plain law, the statement
-/
import Derived.Test.YtheadnogdeajfaaGreatSmE
import Derived.Test.YtheadnogdeajfaaGreatRows
set_option linter.unusedVariables false
namespace Go.FL
open Go Go.Proofs
def DS (a0:(Int×RT×Int)) (a1:Int) (a2:Arr) : Option (Bool):=((Ex a2).bind fun x1=>((CP a0 a1 x1).bind fun x2=>((Dv a0 a1 a2).bind fun x3=>(Ia.bind fun x4=>(Option.bind ((if x4=true then (if x2.2=x3.2 then ((Hy x2.1 x3.1).bind fun x6=>(if x6=true then ((Hy x1 a2).bind fun x7=>(if x7=true then ((EG a1).bind fun x8=>((C8 a1).bind fun x9=>(if (x8 == x9)=true then ((Dy a1).bind fun x10=>((Fd a1).bind fun x11=>(some (x10 == x11)))) else (some false)))) else (some false))) else (some false))) else (some false)) else (some false)) : Option (Bool)) fun (z4:Bool)=>(some (z4)))))))
theorem Iy {a0:(Int×RT×Int)} {a1:Int} {a2:Arr} {r:Bool} (h:DS a0 a1 a2=some r) :
  Fn Tryz.prog 3 [.ag [.i .i64 a0.1,.b a0.2.1.1,.sl (L a0.2.1.2.1),.sl (L a0.2.1.2.2),.i .i64 a0.2.2],.i .i32 a1,.ag [.sl (Is a2.shape),.sl (Its a2.items)]] (.d (.b r)):=by
 unfold DS at h
 refine Fn.o1 6 58 Tryz.func3 ?_;refine .sr ?_;refine vk vbx ?_;refine vk vbx ?_;refine ar [1,3,5,6] ?_;refine .sr ?_;refine vk (AC Ac Aa) ?_
 obtain ⟨x1,g1,h⟩:=bnd h
 refine vk (Ak (F7 g1) Tryz.call4) ?_;refine vk (van (Aj AD) AI) ?_
 refine stn ?_ Aa (by decide)
 refine rk [1,3,5,6,7] ?_;refine .sr ?_;refine vk (AC Nl L2) ?_;refine va ?_;refine vk (Jw Ac Aa) ?_
 obtain ⟨x2,g2,h⟩:=bnd h
 refine vk (VOK.tupd (vs:=[.ag [.sl (Is x2.1.shape),.sl (Its x2.1.items)],.i .i64 x2.2]) (Ak (Hm g2) Tryz.call5)) ?_;refine va ?_;refine vk vex ?_;refine vk vex ?_;refine vk (van (Aj AD) AI) ?_
 refine stn ?_ Aa (by decide)
 refine ar [1,3,5,6,7,8,9] ?_;refine .sr ?_;refine vk (AC Nl L2) ?_;refine va ?_;refine vk (AC Ac Aa) ?_
 obtain ⟨x3,g3,h⟩:=bnd h
 refine vk (VOK.tupd (vs:=[.ag [.sl (Is x3.1.shape),.sl (Its x3.1.items)],.i .i64 x3.2]) (Ak (Lu g3) Tryz.call6)) ?_;refine va ?_;refine vk vex ?_;refine vk vex ?_;refine vk (van (Aj AD) AI) ?_
 refine stn ?_ Aa (by decide)
 refine ar [1,5,6,7,8,9,10,11] ?_;refine .seq ?_
 obtain ⟨x4,g4,h⟩:=bnd h
 obtain ⟨z4,hz,h⟩:=bnd h
 refine AW.mr (σ:=Unit) (fun _=>True) (fun _=>[(6,.d (.b z4))]) (fun _=>[]) ?_ ?_
 ·skip
  refine .region ?_;refine vk (Ak (N6 g4) Tryz.call7) ?_
  rcases brc hz with ⟨hc,hz⟩|⟨hc,hz⟩
  ·have hb0:x4=true:=hc
   refine vL hb0 ?_;refine va ?_;refine va ?_;refine vb ?_;refine vk Ag ?_
   rcases brc hz with ⟨hc,hz⟩|⟨hc,hz⟩
   ·have hb1:(decide (x2.2=x3.2))=true:=(dT hc)
    refine vL hb1 ?_;refine vk (Jw Ac Aa) ?_;refine vk (Jw Ac Aa) ?_
    obtain ⟨x6,g6,hz⟩:=bnd hz
    refine vk (Ak (Ig g6) Tryz.call8) ?_;refine vk Ag ?_
    rcases brc hz with ⟨hc,hz⟩|⟨hc,hz⟩
    ·have hb2:x6=true:=hc
     refine vL hb2 ?_;refine vk (Jw Ac Aa) ?_;refine vk (AC Ac Aa) ?_
     obtain ⟨x7,g7,hz⟩:=bnd hz
     refine vk (Ak (Ig g7) Tryz.call8) ?_;refine vk Ag ?_
     rcases brc hz with ⟨hc,hz⟩|⟨hc,hz⟩
     ·have hb3:x7=true:=hc
      refine vL hb3 ?_;refine va ?_
      obtain ⟨x8,g8,hz⟩:=bnd hz
      refine vk (Ak (JS g8) Tryz.call9) ?_;refine va ?_
      obtain ⟨x9,g9,hz⟩:=bnd hz
      refine vk (Ak (Gi g9) Tryz.call10) ?_;refine vk (YI (.inl rfl) bo) ?_;refine vk Ag ?_
      rcases brc hz with ⟨hc,hz⟩|⟨hc,hz⟩
      ·have hb4:(x8 == x9)=true:=hc
       refine vL hb4 ?_;refine va ?_
       obtain ⟨x10,g10,hz⟩:=bnd hz
       refine vk (Ak (E8 g10) Tryz.call11) ?_;refine va ?_
       obtain ⟨x11,g11,hz⟩:=bnd hz
       refine vk (Ak (Kc g11) Tryz.call12) ?_;refine vk (YI (.inl rfl) bo) ?_;refine vk Ag ?_;refine asd ?_;refine RL.gk [6] ?_;refine .nil ?_
       cases hz
       exact jr () trivial
      have hb4:(x8 == x9)=false:=(bf hc)
      refine vL hb4 ?_;refine gf4 ?_;refine gf ?_;refine vk Ag ?_;refine asd ?_;refine RL.gk [6] ?_;refine .nil ?_
      cases hz
      exact jr () trivial
     have hb3:x7=false:=(bf hc)
     refine vL hb3 ?_;refine gf4 ?_;refine gf ?_;refine vk Ag ?_;refine va ?_;refine gf4 ?_;refine gf ?_;refine vk Ag ?_;refine asd ?_;refine RL.gk [6] ?_;refine .nil ?_
     cases hz
     exact jr () trivial
    have hb2:x6=false:=(bf hc)
    refine vL hb2 ?_;refine gf3 ?_;refine vk Ag ?_;refine va ?_;refine gf4 ?_;refine gf ?_;refine vk Ag ?_;refine va ?_;refine gf4 ?_;refine gf ?_;refine vk Ag ?_;refine asd ?_;refine RL.gk [6] ?_;refine .nil ?_
    cases hz
    exact jr () trivial
   have hb1:(decide (x2.2=x3.2))=false:=(dF hc)
   refine vL hb1 ?_;refine gf3 ?_;refine vk Ag ?_;refine va ?_;refine gf3 ?_;refine vk Ag ?_;refine va ?_;refine gf4 ?_;refine gf ?_;refine vk Ag ?_;refine va ?_;refine gf4 ?_;refine gf ?_;refine vk Ag ?_;refine asd ?_;refine RL.gk [6] ?_;refine .nil ?_
   cases hz
   exact jr () trivial
  have hb0:x4=false:=(bf hc)
  refine vL hb0 ?_;refine gf3 ?_;refine vk Ag ?_;refine va ?_;refine gf3 ?_;refine vk Ag ?_;refine va ?_;refine gf3 ?_;refine vk Ag ?_;refine va ?_;refine gf4 ?_;refine gf ?_;refine vk Ag ?_;refine va ?_;refine gf4 ?_;refine gf ?_;refine vk Ag ?_;refine asd ?_;refine RL.gk [6] ?_;refine .nil ?_
  cases hz
  exact jr () trivial
 rintro _ _
 refine .ret ?_
 cases h
 exact ⟨rfl,rfl⟩
theorem YA : Ia=some true:=by kernel_rfl
def Me : ByteArray:=⟨#[226,141,180,44,226,140,189,226,138,150,226,141,137]⟩
def Ml : ByteArray:=⟨#[226,141,180,44,226,141,170,226,134,145,226,134,147,226,140,189,226,138,150,226,141,137,47,226,140,191,92,226,141,128]⟩
def RM6 : List Nat:=[9076,44,9021,8854,9033]
def RD6 : List Nat:=[9076,44,9066,8593,8595,9021,8854,9033,47,9023,92,9024]
theorem P0 {R:List Nat} {s:ByteArray} (h:(R.all fun c=>Bz s (c:Int) == some true)=true) : ∀ c∈R,Bz s (c:Int)=some true:=fun c hc=>eq_of_beq (List.all_eq_true.1 h c hc)
theorem cM6 : JG (Bd Me)=true:=by kernel_rfl
theorem cD6 : JG (Bd Ml)=true:=by kernel_rfl
theorem kM6 : R9 (Bd Me) RM6=true:=by kernel_rfl
theorem kD6 : R9 (Bd Ml) RD6=true:=by kernel_rfl
theorem sM6 : ((List.range 128).all fun t=>Bz Me (t:Int) == some (RM6.contains t))=true:=by kernel_rfl
theorem sD6 : ((List.range 128).all fun t=>Bz Ml (t:Int) == some (RD6.contains t))=true:=by kernel_rfl
theorem aM6 : (RM6.all fun c=>Bz Me (c:Int) == some true)=true:=by kernel_rfl
theorem aD6 : (RD6.all fun c=>Bz Ml (c:Int) == some true)=true:=by kernel_rfl
theorem eM6 : Bz Me 65533=some false:=by kernel_rfl
theorem eD6 : Bz Ml 65533=some false:=by kernel_rfl
theorem rM6 : MF Me=RM6.map fun (c:Nat)=>(c:Int):=by kernel_rfl
theorem rD6 : MF Ml=RD6.map fun (c:Nat)=>(c:Int):=by kernel_rfl
theorem zM6 : Me.size≤1000:=by decide
theorem zD6 : Ml.size≤1000:=by decide
theorem ZR (g:Int) : Eo g Me=Bz Me g:=OP cM6 zM6 kM6 sM6 (P0 aM6) eM6 rM6 g
theorem ZF (g:Int) : Eo g Ml=Bz Ml g:=OP cD6 zD6 kD6 sD6 (P0 aD6) eD6 rD6 g
theorem XH (g:Int) : Bz Me g=some (decide (∃ c∈RM6,g=(c:Int))):=LA cM6 zM6 kM6 sM6 (P0 aM6) eM6 g
theorem XI (g:Int) : Bz Ml g=some (decide (∃ c∈RD6,g=(c:Int))):=LA cD6 zD6 kD6 sD6 (P0 aD6) eD6 g
theorem r6M (g:Int) : C8 g=some (decide (∃ c∈RM6,g=(c:Int))):=by
 show ((Eo g Me).bind fun x1=>some x1)=_
 rw [ZR,XH];rfl
theorem r6D (g:Int) : Fd g=some (decide (∃ c∈RD6,g=(c:Int))):=by
 show ((Eo g Ml).bind fun x1=>some x1)=_
 rw [ZF,XI];rfl
theorem p6M (g:Int) : EG g=some (decide (∃ c∈RM6,g=(c:Int))):=by
 show ((Bz Me g).bind fun x1=>some x1)=_
 rw [XH];rfl
theorem p6D (g:Int) : Dy g=some (decide (∃ c∈RD6,g=(c:Int))):=by
 show ((Bz Ml g).bind fun x1=>some x1)=_
 rw [XI];rfl
theorem Mc {e:Int×RT×Int} {g:Int} {a:Arr} (_:((Lit.int .i64 e.1).wf=true)∧Hq e.2.1=true∧(Lit.int .i64 e.2.2).wf=true) (_:(Lit.int .i32 g).wf=true) (oa:okAr a) : DS e g a=some true:=by
 obtain ⟨r,h1,h2,h3⟩:=We (e:=e) (g:=g) oa (r6M g)
 unfold DS
 rw [Jt oa,oB,h1,oB,h2,oB,YA,oB,if_pos rfl,if_pos rfl,(S1 h3).yes rfl,oB,if_pos rfl,(S1 oa).yes rfl,oB,if_pos rfl,p6M,oB,r6M,oB,if_pos (by simp),p6D,oB,r6D,oB,oB]
 simp
end Go.FL
namespace Go.Proofs.YtheadnogdeajfaaGreat.shapeMonadic
open Go.ChangeShapes Go.WideShapes Go.ChangeAt Go.RowKit Go.FL
theorem own : ownKnob Tryz.prog.godebug=none:=by kernel_rfl
theorem laid : laidOutB Tryz.prog=true:=by kernel_rfl
theorem params : ∀ t∈Tryz.f3.params.toList,Tryz.prog.readableRec t=true∧t<Tryz.prog.types.size:=by
 intro t ht
 simp only [Tryz.params3,List.mem_cons,List.not_mem_nil,or_false] at ht
 rcases ht with rfl|rfl|rfl<;>exact ⟨by kernel_rfl,of_decide_eq_true (by kernel_rfl)⟩
set_option maxRecDepth 100000 in
theorem lifted (os:Os) (started:os.Started) (H:Type) (enc:TypeId×Value→H) :
  ReturnsInHanded {} Tryz.checked os 3 .any (Rows.shapeMonadicSpec.pre6 enc Tryz.prog Tryz.f3 Rows.shapeMonadicRow.domain false) (Rows.shapeMonadicSpec.post enc Tryz.prog Tryz.f3 false true false false):=by
 refine returnsInHanded_of_change_sized (C:=Tryz.checked) own started (by kernel_rfl) Tryz.func3
  (ChangeSpec.witness6 (enc:=enc) (C:=Tryz.checked) false ⟨#[],#[.agg #[.int .i64 0,.bool false,.slice none 0 0,.slice none 0 0,.int .i64 0],.int .i32 0,.agg #[.slice none 0 0,.slice none 0 0]],[]⟩ 8 (by kernel_rfl) (by kernel_rfl) (by kernel_rfl) (by kernel_rfl)) ?_
 intro W base args ds gs before hval0 hW hcnd hsz _
 have hval:∀ (j:Nat) t v,Tryz.f3.params[j]?=some t→args[j]?=some v→Value.okWide Tryz.prog W .any base t v:=hval0
 have hW':=hW
 obtain ⟨p,q,hA0,hV,rfl,hfz,hnd⟩:=hW
 have hA:DataW.TrodAll enc Tryz.prog W 0 (fun _=>true) true Tryz.f3.params.toList args.toList ds p:=hA0
 rw [Tryz.params3] at hA hval
 obtain ⟨v0,vs0,d0,ds0,p0,q0,hargs,rfl,rfl,h0,r0⟩:=trodAll_cons hA
 obtain ⟨v1,vs1,d1,ds1,p1,q1,rfl,rfl,rfl,h1,r1⟩:=trodAll_cons r0
 obtain ⟨v2,vs2,d2,ds2,p2,q2,rfl,rfl,rfl,h2,r2⟩:=trodAll_cons r1
 obtain ⟨rfl,rfl,rfl⟩:=trodAll_nil r2
 obtain rfl:args=#[v0,v1,v2]:=by cases args;simp_all
 obtain ⟨rfl,rfl⟩:=trodVars_none hV
 rw [Tryz.params3] at hsz
 have w0:∀ m∈DataW.weights Tryz.prog 26 d0,m≤reachBytes:=fun m hm=>by simpa using List.all_eq_true.1 hsz m (DataW.weights_mem_each (j:=0) rfl rfl m hm)
 obtain ⟨a0,o0,e0⟩:=S4 (v:=v0) X0 (let ⟨cs,h,_⟩:=okWide_struct (P:=Tryz.prog) Tryz.underlying26 (hval 0 26 v0 rfl rfl);⟨cs,h⟩) h0 w0
 have w1:∀ m∈DataW.weights Tryz.prog 21 d1,m≤reachBytes:=fun m hm=>by simpa using List.all_eq_true.1 hsz m (DataW.weights_mem_each (j:=1) rfl rfl m hm)
 obtain ⟨a1,o1,e1⟩:=WH (by kernel_rfl:Tryz.prog.underlying 21=some (.int .i32)) (hval 1 21 v1 rfl rfl) h1
 have w2:∀ m∈DataW.weights Tryz.prog 30 d2,m≤reachBytes:=fun m hm=>by simpa using List.all_eq_true.1 hsz m (DataW.weights_mem_each (j:=2) rfl rfl m hm)
 obtain ⟨a2,o2,e2⟩:=S4 (v:=v2) X7 (let ⟨cs,h,_⟩:=okWide_struct (P:=Tryz.prog) Tryz.underlying30 (hval 2 30 v2 rfl rfl);⟨cs,h⟩) h2 w2
 refine (Ts (Iy (Mc o0 o1 o2)) (.cons e0 (.cons e1 (.cons e2 .nil)))).mono fun e W' ⟨he,hb⟩=>?_
 subst he
 exact ⟨_,rfl,U6 hW' rfl (fun _=>rfl) rfl Tryz.underlying4 laid params hb⟩
theorem over : Rows.shapeMonadicRow.holds Tryz.pinned (OpenSpec.ofChange Rows.shapeMonadicSpec) :=
 OpenClaim.holds_of_wide 3 Tryz.f3 rfl rfl rfl rfl rfl rfl rfl ⟨rfl,rfl,rfl,rfl,rfl⟩ rfl rfl rfl rfl rfl (by kernel_rfl) Tryz.func3 (by kernel_rfl)
  (of_decide_eq_true (by kernel_rfl)) (by unfold Func.isWrapper;first|(rw [if_pos (by decide +kernel)];kernel_rfl)|(rw [if_neg (by decide +kernel)];exact ⟨rfl,rfl⟩))
  (fun os started H enc _=>lifted os started H enc)
theorem proved : Rows.ShapeMonadicSaid :=
 over
end Go.Proofs.YtheadnogdeajfaaGreat.shapeMonadic
