/-
  The law: its function printed as a pure function, its contract, the plain law, the statement
-/
import Derived.Test.YtbeekjoeaigngaaGreatSlE
import Derived.Test.YtbeekjoeaigngaaGreatRows
set_option linter.unusedVariables false
namespace Go.FL
open Go Go.Proofs
def Ii (a0 : Arr) : Option (Bool):=(CS.bind fun x1=>((C2 x1 45 a0).bind fun x2=>(if x2.2=0 then (CS.bind fun x3=>((BB x3 43 a0 x2.1).bind fun x4=>(CS.bind fun x5=>((HA 0).bind fun x6=>((BB x5 215 a0 x6).bind fun x7=>(FU.bind fun x8=>(Option.bind ((if x8=true then (if x4.2=0 then (if x7.2=0 then ((GC x4.1 x7.1).bind fun x10=>(if x10=true then ((Bk x4.1).bind fun x11=>(some x11)) else (some false))) else (some false)) else (some false)) else (some false)) : Option (Bool)) fun (z8 : Bool)=>(some (z8))))))))) else (FU.bind fun x12=>(some (x12))))))
theorem P6 {a0 : Arr} {r : Bool} (h : Ii a0=some r) :
  Fn Tryz.prog 7 [.ag [.sl (Is a0.shape),.sl (Its a0.items)]] (.d (.b r)):=by
 unfold Ii at h
 refine Fn.o1 2 50 Tryz.func7 ?_;refine .sr ?_;refine vk (vbx) ?_;refine ar [1,2] ?_;refine .seq ?_
 obtain ⟨x1,hx1,h⟩:=bnd h
 obtain ⟨x2,hx2,h⟩:=bnd h
 refine .drawnF 7 [5] [(3,.nb [.sl (Is x2.1.shape),.sl (Its x2.1.items)])] [] Ba (by kernel_rfl) rfl ?_;refine dv (Ad (CG hx1) Tryz.call16) ?_;refine dv (Ap As Ag) ?_;refine dv (VOK.tupd (vs:=[.ag [.sl (Is x2.1.shape),.sl (Its x2.1.items)],.i .i64 x2.2]) (Ad (FC hx2) Tryz.call10)) ?_;refine dv (Aa) ?_;refine dv (vex) ?_;refine dv (vex) ?_;refine dv (van (Ah AU) A7) ?_;refine dz ?_
 refine ⟨?_,?_,?_⟩
 ·intro k hk
  simp only [List.mem_cons,List.not_mem_nil,or_false] at hk
  subst hk
  exact ⟨_,_,_,rfl,rfl,rfl,rfl,rfl,rfl,vex⟩
 ·intro om e hom hge
  cases hom
  exact Gz (cs:=[.sl (Is []),.sl (Its [])]) (cs':=[.sl (Is x2.1.shape),.sl (Its x2.1.items)]) Ag (by decide) rfl ((hge 3 (fun k hk v hv=>by
    simp only [List.mem_cons,List.not_mem_nil,or_false] at hk
    subst hk;exact (by decide:¬ (some 14=some 3)) (congrArg (Option.map Prod.fst) hv))).trans rfl) ((congrArg AX (hge 13 (fun k hk v hv=>by
    simp only [List.mem_cons,List.not_mem_nil,or_false] at hk
    subst hk;exact (by decide:¬ (some 14=some 13)) (congrArg (Option.map Prod.fst) hv)))).trans rfl) rfl rfl rfl rfl ⟨rfl,rfl⟩
 refine ar [1,2,3,4] ?_;refine .seq ?_;refine .sr ?_;refine vk (Aa) ?_;refine vk (vbi) ?_;refine rk [1,2,3,16] ?_
 by_cases hc:x2.2=0
 ·replace h:=Aj hc h
  refine cnf (ntf (dT hc)) ?_;refine .skip ?_
  show AW _ _ _ _ _ _
  refine .seq ?_
  obtain ⟨x3,hx3,h⟩:=bnd h
  obtain ⟨x4,hx4,h⟩:=bnd h
  refine .drawnF 8 [6] [(5,.nb [.sl (Is x4.1.shape),.sl (Its x4.1.items)])] [] Ba (by kernel_rfl) rfl ?_;refine dv (Ad (CG hx3) Tryz.call16) ?_;refine dv (Ap As Ag) ?_;refine dv (C8 As Ag) ?_;refine dv (VOK.tupd (vs:=[.ag [.sl (Is x4.1.shape),.sl (Its x4.1.items)],.i .i64 x4.2]) (Ad (CD hx4) Tryz.call15)) ?_;refine dv (Aa) ?_;refine dv (vex) ?_;refine dv (vex) ?_;refine dv (van (Ah AU) A7) ?_;refine dz ?_
  refine ⟨?_,?_,?_⟩
  ·intro k hk
   simp only [List.mem_cons,List.not_mem_nil,or_false] at hk
   subst hk
   exact ⟨_,_,_,rfl,rfl,rfl,rfl,rfl,rfl,vex⟩
  ·intro om e hom hge
   cases hom
   exact Gz (cs:=[.sl (Is []),.sl (Its [])]) (cs':=[.sl (Is x4.1.shape),.sl (Its x4.1.items)]) Ag (by decide) rfl ((hge 5 (fun k hk v hv=>by
     simp only [List.mem_cons,List.not_mem_nil,or_false] at hk
     subst hk;exact (by decide:¬ (some 24=some 5)) (congrArg (Option.map Prod.fst) hv))).trans rfl) ((congrArg AX (hge 23 (fun k hk v hv=>by
     simp only [List.mem_cons,List.not_mem_nil,or_false] at hk
     subst hk;exact (by decide:¬ (some 24=some 23)) (congrArg (Option.map Prod.fst) hv)))).trans rfl) rfl rfl rfl rfl ⟨rfl,rfl⟩
  refine ar [1,2,5,6] ?_;refine .seq ?_
  obtain ⟨x5,hx5,h⟩:=bnd h
  obtain ⟨x6,hx6,h⟩:=bnd h
  obtain ⟨x7,hx7,h⟩:=bnd h
  refine .drawnF 8 [6] [(7,.nb [.sl (Is x7.1.shape),.sl (Its x7.1.items)])] [] Ba (by kernel_rfl) rfl ?_;refine dv (Ad (CG hx5) Tryz.call16) ?_;refine dv (Ap As Ag) ?_;refine dv (Ad (Lr hx6) Tryz.call26) ?_;refine dv (VOK.tupd (vs:=[.ag [.sl (Is x7.1.shape),.sl (Its x7.1.items)],.i .i64 x7.2]) (Ad (CD hx7) Tryz.call15)) ?_;refine dv (Aa) ?_;refine dv (vex) ?_;refine dv (vex) ?_;refine dv (van (Ah AU) A7) ?_;refine dz ?_
  refine ⟨?_,?_,?_⟩
  ·intro k hk
   simp only [List.mem_cons,List.not_mem_nil,or_false] at hk
   subst hk
   exact ⟨_,_,_,rfl,rfl,rfl,rfl,rfl,rfl,vex⟩
  ·intro om e hom hge
   cases hom
   exact Gz (cs:=[.sl (Is []),.sl (Its [])]) (cs':=[.sl (Is x7.1.shape),.sl (Its x7.1.items)]) Ag (by decide) rfl ((hge 7 (fun k hk v hv=>by
     simp only [List.mem_cons,List.not_mem_nil,or_false] at hk
     subst hk;exact (by decide:¬ (some 31=some 7)) (congrArg (Option.map Prod.fst) hv))).trans rfl) ((congrArg AX (hge 30 (fun k hk v hv=>by
     simp only [List.mem_cons,List.not_mem_nil,or_false] at hk
     subst hk;exact (by decide:¬ (some 31=some 30)) (congrArg (Option.map Prod.fst) hv)))).trans rfl) rfl rfl rfl rfl ⟨rfl,rfl⟩
  refine ar [2,5,6,7,8] ?_;refine .seq ?_
  obtain ⟨x8,hx8,h⟩:=bnd h
  obtain ⟨z8,hz,h⟩:=bnd h
  refine AW.mr (σ:=Unit) (fun _=>True) (fun _=>[(2,.d (.b z8))]) (fun _=>[]) ?_ ?_
  ·skip
   refine .region ?_;refine vk (Ad (IL hx8) Tryz.call17) ?_
   by_cases hc:x8=true
   ·replace hz:=Aj hc hz
    have hb0:x8=true:=hc
    refine vk (VOK.lit (Aa) hb0) ?_;refine vk (Aa) ?_;refine vk (vbi) ?_;refine vk (Am) ?_
    by_cases hc:x4.2=0
    ·replace hz:=Aj hc hz
     have hb1:(decide (x4.2=0))=true:=(dT hc)
     refine vk (VOK.lit (Aa) hb1) ?_;refine vk (Aa) ?_;refine vk (vbi) ?_;refine vk (Am) ?_
     by_cases hc:x7.2=0
     ·replace hz:=Aj hc hz
      have hb2:(decide (x7.2=0))=true:=(dT hc)
      refine vk (VOK.lit (Aa) hb2) ?_;refine vk (C8 As Ag) ?_;refine vk (C8 As Ag) ?_
      obtain ⟨x10,hx10,hz⟩:=bnd hz
      refine vk (Ad (Ip hx10) Tryz.call18) ?_;refine vk (Am) ?_
      by_cases hc:x10=true
      ·replace hz:=Aj hc hz
       have hb3:x10=true:=hc
       refine vk (VOK.lit (Aa) hb3) ?_;refine vk (C8 As Ag) ?_
       obtain ⟨x11,hx11,hz⟩:=bnd hz
       refine vk (Ad (Cj hx11) Tryz.call13) ?_;refine vk (Am) ?_;refine asd ?_;refine RL.gk [2] ?_;refine .nil ?_
       cases hz
       exact jr () trivial
      replace hz:=Ai hc hz
      have hb3:x10=false:=(bf hc)
      refine vk (VOK.lit (Aa) hb3) ?_;refine gf ?_;refine gf ?_;refine vk (Am) ?_;refine asd ?_;refine RL.gk [2] ?_;refine .nil ?_
      cases hz
      exact jr () trivial
     replace hz:=Ai hc hz
     have hb2:(decide (x7.2=0))=false:=(dF hc)
     refine vk (VOK.lit (Aa) hb2) ?_;refine gf ?_;refine gf ?_;refine gf ?_;refine vk (Am) ?_;refine vk (Aa) ?_;refine gf ?_;refine gf ?_;refine vk (Am) ?_;refine asd ?_;refine RL.gk [2] ?_;refine .nil ?_
     cases hz
     exact jr () trivial
    replace hz:=Ai hc hz
    have hb1:(decide (x4.2=0))=false:=(dF hc)
    refine vk (VOK.lit (Aa) hb1) ?_;refine gf ?_;refine gf ?_;refine vk (Am) ?_;refine vk (Aa) ?_;refine gf ?_;refine gf ?_;refine gf ?_;refine vk (Am) ?_;refine vk (Aa) ?_;refine gf ?_;refine gf ?_;refine vk (Am) ?_;refine asd ?_;refine RL.gk [2] ?_;refine .nil ?_
    cases hz
    exact jr () trivial
   replace hz:=Ai hc hz
   have hb0:x8=false:=(bf hc)
   refine vk (VOK.lit (Aa) hb0) ?_;refine gf ?_;refine gf ?_;refine vk (Am) ?_;refine vk (Aa) ?_;refine gf ?_;refine gf ?_;refine vk (Am) ?_;refine vk (Aa) ?_;refine gf ?_;refine gf ?_;refine gf ?_;refine vk (Am) ?_;refine vk (Aa) ?_;refine gf ?_;refine gf ?_;refine vk (Am) ?_;refine asd ?_;refine RL.gk [2] ?_;refine .nil ?_
   cases hz
   exact jr () trivial
  rintro _ _
  refine .ret ?_
  cases h
  exact ⟨rfl,rfl⟩
 replace h:=Ai hc h
 refine cnt (ntt (dF hc)) ?_;refine .sr ?_
 obtain ⟨x12,hx12,h⟩:=bnd h
 refine vk (Ad (IL hx12) Tryz.call17) ?_;refine ar [1,2,3] ?_;refine .ret ?_
 cases h
 exact ⟨rfl,rfl⟩
abbrev fN5 : AA:=⟨.fn 79 [] [],fun x=>MB x⟩
abbrev f05 : AA:=⟨.fn 79 [] [],fun _=>some (ofQ 0,0)⟩
abbrev zA5 : Ac:=⟨.fn 132 [] [],fun x=>Df x.1 x.2⟩
abbrev zM5 : Ac:=⟨.fn 134 [] [],fun x=>Dg x.1 x.2⟩
theorem Tt : RatF fN5 (fun p=>-p):=fun _ hp=>⟨ZS hp,Wm hp⟩
theorem Ym : RatF f05 (fun _=>0):=fun _ _=>⟨rfl,U4⟩
theorem Vr {b : Arr} (ob : okAr b) (rb : A0 b) {y : Itm} (h : Bx b=some y) : Hl y=b:=by
 rw [LN ob rb] at h
 by_cases hs:AT b=true
 ·rw [if_pos hs] at h
  obtain ⟨x,rfl,hk⟩:=JC hs
  cases h
  unfold Hl
  rw [if_neg]
  ·rfl
  ·exact hk
 ·rw [if_neg hs] at h
  cases h
  rfl
theorem Yf : ∀ (k k1 k' : Nat) {a n : Arr},a.size<k→a.size<k1→a.size<k'→okAr a→A0 a→BZ k1 fN5 a=some (n,0)→Dz k (zA5,43) a n=BZ k' f05 a
 | 0,_,_,_,_,h,_,_,_,_,_=>by omega
 | _+1,0,_,_,_,_,h,_,_,_,_=>by omega
 | _+1,_+1,0,_,_,_,_,h,_,_,_=>by omega
 | k+1,k1+1,k'+1,a,n,h,h1,h',oa,ra,hn=>by
  have o:=(Bm a).1 oa
  obtain ⟨m,hm,hl⟩:=Jk ra
  rw [BZ,J0] at hn
  have hitem:∀ i,i<m→i<a.items.length:=fun i hi=>by rw [hl];split <;> omega
  have hkid:∀ i,(hi:i<a.items.length)→∀ b ∈ a.items[i].box,b.size<k∧b.size<k1∧b.size<k':=fun i hi b hb=>by
   have:=Rk (List.getElem_mem hi) hb;omega
  have hrel:∀ i,(hi:i<m)→∃ y z e,OF (BZ k1) fN5 (a.items[i]'(hitem i hi))=some (y,e)∧OF (BZ k1) fN5 (a.items[i]'(hitem i hi))=some (z,e)∧(e=0→RI y z):=fun i hi =>
   YM Tt Tt (DC oa ra (List.getElem_mem (hitem i hi))) fun b hb ob rb=>SV Tt Tt k1 (hkid i (hitem i hi) b hb).2.1 ob rb
  have hat:∀ i,(hi:i<m)→E8 (BZ k1) ((i:Nat):Int) a fN5=OF (BZ k1) fN5 (a.items[i]'(hitem i hi)):=fun i hi=>HL (List.getElem?_eq_getElem (hitem i hi))
  obtain ⟨r1,r2,e,q1,_,q3,q4⟩:=Uf (F:=⟨.fn 93 [] [.ptr [.sl (Is a.shape),.sl (Its a.items)],.ptr [fN5.dv]],fun x=>E8 (BZ k1) x a fN5⟩) (G:=⟨.fn 93 [] [.ptr [.sl (Is a.shape),.sl (Its a.items)],.ptr [fN5.dv]],fun x=>E8 (BZ k1) x a fN5⟩) o.1 o.2.1 hm (fun i hi=>by
   obtain ⟨y,z,e,w1,w2,w3⟩:=hrel i hi
   exact ⟨y,z,e,(hat i hi).trans w1,(hat i hi).trans w2,w3⟩)
  rw [q1] at hn
  cases hn
  obtain ⟨hRA,hsh,hits⟩:=q3 rfl
  have on:=(Bm n).1 hRA.1
  rw [Dz,Le o.2.1 on.2.1,hsh,show Iq a.shape a.shape=(a.shape,0) from if_pos rfl,if_pos rfl,BZ,J0]
  refine MC o.2.1 hm (fun i hi=>?_) (fun i hi=>?_)
  ·obtain ⟨y,e,q,_⟩:=X8 (rc:=BZ k') Ym.tot (DC oa ra (List.getElem_mem (hitem i hi))) fun b hb ob rb=>Vq Ym.tot k' (hkid i (hitem i hi) b hb).2.2 ob rb
   exact ⟨(y,e),by rw [← q];exact HL (List.getElem?_eq_getElem (hitem i hi))⟩
  ·have hi':=hitem i hi
   obtain ⟨w1,_,w3⟩:=hits (by omega)
   obtain ⟨y,z,e,v1,_,v3⟩:=hrel i hi
   have hres:(Fd ⟨.fn 93 [] [.ptr [.sl (Is a.shape),.sl (Its a.items)],.ptr [fN5.dv]],fun x=>E8 (BZ k1) x a fN5⟩ m)[i]'(by rw [Co];exact hi)=(y,e):=Yp hi ((hat i hi).trans v1)
   have he:e=0:=by
    have:=HW w3 _ (List.getElem_mem (by rw [Co];exact hi))
    rw [hres] at this
    exact this
   subst he
   have hnlen:n.items.length=m:=by rw [w1,List.length_map,Co]
   have hny:n.items[i]?=some y:=by
    rw [w1,List.getElem?_map,List.getElem?_eq_getElem (by rw [Co];exact hi),hres];rfl
   have hry:=(v3 rfl).1
   have hx:=DC oa ra (List.getElem_mem hi')
   refine (H6 (x:=a.items[i]) (y:=y) (by rw [Nat.mod_eq_of_lt hi'];exact List.getElem?_eq_getElem hi') (by rw [hnlen,Nat.mod_eq_of_lt hi];exact hny)).trans (Eq.trans ?_ (HL (List.getElem?_eq_getElem hi')).symm)
   have hkd:=hkid i hi'
   revert v1 hx hkd
   generalize a.items[i]=x
   intro v1 hx hkd
   unfold OF at v1 ⊢
   rcases Ei hx.2.1 with ⟨q,hr,_,_⟩ | ⟨q,_⟩ | ⟨q,_,_,b,hb,_⟩
   ·obtain ⟨p,hp,hq⟩:=Fy.1 hr
    rw [if_pos q,hq] at v1
    rw [show fN5.g (ofQ p)=some (ofQ (-p),0) from ZS hp] at v1
    cases v1
    rw [if_pos q,Mx q rfl,hq]
    show (Df (ofQ p) (ofQ (-p))).bind _=_
    rw [Wo hp (Wm hp),Rat.add_neg_cancel,QS U4]
   ·rw [if_neg (by rw [q];decide),if_neg (by rw [q];decide)] at v1
    cases v1
   ·rw [if_neg (by rw [q];decide),if_pos q,hb,NY,oB] at v1
    rw [if_neg (by rw [q];decide),if_pos q,hb,NY,oB]
    obtain ⟨ob,rb,_⟩:=IG hx.1 hx.2 b (by simp [hb])
    obtain ⟨s1,s2,s3⟩:=hkd b (by simp [hb])
    obtain ⟨t1,t2,e,u1,_,u3,_⟩:=SV Tt Tt k1 s2 ob rb
    rw [u1,oB] at v1
    obtain ⟨y',hy',v2⟩:=Option.bind_eq_some_iff.1 v1
    cases v2
    have hRA1:=(u3 rfl).1
    rw [My hx hry (.inl q),Vm q hb,Vr hRA1.1 hRA1.2.2.1 hy',Yf k k1 k' s1 s2 s3 ob rb u1]
theorem U2 {a : Arr} (oa : okAr a) : Ii a=some true:=by
 have o:=(Bm a).1 oa
 have hc:okI (DM 0)∧Bl (DM 0):=Oj
 obtain ⟨o0,r0⟩:=(C9 hc).2
 rw [Vb] at o0 r0
 have M:=W9 (e:=(1,(false,[],[1]),0)) (g:=45) (w:=fN5) rfl oa
 unfold Ii
 by_cases hr:A0 a
 rotate_left
 ·rw [if_neg hr] at M
  simp only [X6,M,Tf,oB]
  rfl
 rw [if_pos hr] at M
 obtain ⟨n,z,e,q1,q2,q3,q4⟩:=SV Tt Ym (a.size+1) (Nat.lt_succ_self _) oa hr
 have e3:Mw fN5 a=some (n,e):=q1
 rw [e3] at M
 by_cases h0:e=0
 rotate_left
 ·simp only [X6,M,Tf,oB]
  rw [if_neg h0]
 subst h0
 obtain ⟨hRA,hsh⟩:=q3 rfl
 have D1:=OH (g:=43) (w:=zA5) rfl oa hRA.1
 have D2:=OH (g:=215) (w:=zM5) rfl oa o0
 rw [if_pos ⟨hr,hRA.2.2.1⟩] at D1
 rw [if_pos ⟨hr,r0⟩] at D2
 have e1:G9 (zA5,43) a n=some (z,0):=by
  rw [← q2]
  exact Yf _ _ _ (by omega) (Nat.lt_succ_self _) (Nat.lt_succ_self _) oa hr q1
 have e2:G9 (zM5,215) a (.mk [] [DM 0])=some (z,0):=by
  rw [← q2]
  refine ZQ Fk Ym.tot (fun x hx=>?_) (by decide) (by decide) _ _ (by omega) (Nat.lt_succ_self _) oa hr
  obtain ⟨p,hp,rfl⟩:=Fy.1 hx
  show Dg (ofQ p) (ofQ ((0:Int):Rat))=some (ofQ 0,0)
  rw [WJ hp (F8 Fk),show (((0:Int):Rat))=0 from rfl,Rat.mul_zero,QS U4]
 rw [e1] at D1
 rw [e2] at D2
 simp only [X6,ZZ Fk,D1,D2,M,Tf,oB,if_true,(RB (a:=z) hRA.2.1).yes rfl,GX hRA.2.1,dT hRA.2.2.2.1]
end Go.FL
namespace Go.Proofs.YtbeekjoeaigngaaGreat.scalarZero
open Go.ChangeShapes Go.WideShapes Go.ChangeAt Go.RowKit Go.FL
theorem own : ownKnob Tryz.prog.godebug=none:=by kernel_rfl
theorem laid : laidOutB Tryz.prog=true:=by kernel_rfl
theorem params : ∀ t ∈ Tryz.f7.params.toList,Tryz.prog.readableRec t=true∧t<Tryz.prog.types.size:=by
 intro t ht
 simp only [Tryz.params7,List.mem_cons,List.not_mem_nil,or_false] at ht
 rcases ht with rfl <;> exact ⟨by kernel_rfl,of_decide_eq_true (by kernel_rfl)⟩
set_option maxRecDepth 100000 in
theorem lifted (os : Os) (started : os.Started) (H : Type) (enc : TypeId × Value→H) :
  ReturnsInHanded {} Tryz.checked os 7 .any (Rows.scalarZeroSpec.pre6 enc Tryz.prog Tryz.f7 Rows.scalarZeroRow.domain false) (Rows.scalarZeroSpec.post enc Tryz.prog Tryz.f7 false true false false):=by
 refine returnsInHanded_of_change_sized (C:=Tryz.checked) own started (by kernel_rfl) Tryz.func7
  (ChangeSpec.witness6 (enc:=enc) (C:=Tryz.checked) false ⟨#[],#[.agg #[.slice none 0 0,.slice none 0 0]],[]⟩ 8 (by kernel_rfl) (by kernel_rfl) (by kernel_rfl) (by kernel_rfl)) ?_
 intro W base args ds gs before hval0 hW hcnd hsz _
 have hval:∀ (j:Nat) t v,Tryz.f7.params[j]?=some t→args[j]?=some v→Value.okWide Tryz.prog W .any base t v:=hval0
 have hW':=hW
 obtain ⟨p,q,hA0,hV,rfl,hfz,hnd⟩:=hW
 have hA:DataW.TrodAll enc Tryz.prog W 0 (fun _=>true) true Tryz.f7.params.toList args.toList ds p:=hA0
 rw [Tryz.params7] at hA hval
 obtain ⟨v0,vs0,d0,ds0,p0,q0,hargs,rfl,rfl,h0,r0⟩:=trodAll_cons hA
 obtain ⟨rfl,rfl,rfl⟩:=trodAll_nil r0
 obtain rfl:args=#[v0]:=by cases args;simp_all
 obtain ⟨rfl,rfl⟩:=trodVars_none hV
 rw [Tryz.params7] at hsz
 have w0:∀ m ∈ DataW.weights Tryz.prog 25 d0,m≤reachBytes:=fun m hm=>by simpa using List.all_eq_true.1 hsz m (DataW.weights_mem_each (j:=0) rfl rfl m hm)
 obtain ⟨a0,o0,e0⟩:=WX (v:=v0) Yu (let ⟨cs,h,_⟩:=okWide_struct (P:=Tryz.prog) Tryz.underlying25 (hval 0 25 v0 rfl rfl);⟨cs,h⟩) h0 w0
 refine (P4 (P6 (U2 o0)) (.cons e0 .nil)).mono fun e W' ⟨he,hb⟩=>?_
 subst he
 exact ⟨_,rfl,Q8 hW' rfl (fun _=>rfl) rfl Tryz.underlying4 laid params hb⟩
theorem over : Rows.scalarZeroRow.holds Tryz.pinned (OpenSpec.ofChange Rows.scalarZeroSpec) :=
 OpenClaim.holds_of_wide 7 Tryz.f7 rfl rfl rfl rfl rfl rfl rfl ⟨rfl,rfl,rfl,rfl,rfl⟩ rfl rfl rfl rfl rfl (by kernel_rfl) Tryz.func7 (by kernel_rfl)
  (of_decide_eq_true (by kernel_rfl)) (by unfold Func.isWrapper;first | (rw [if_pos (by decide +kernel)];kernel_rfl) | (rw [if_neg (by decide +kernel)];exact ⟨rfl,rfl⟩))
  (fun os started H enc _=>lifted os started H enc)
theorem proved : Rows.ScalarZeroSaid :=
 over
end Go.Proofs.YtbeekjoeaigngaaGreat.scalarZero
