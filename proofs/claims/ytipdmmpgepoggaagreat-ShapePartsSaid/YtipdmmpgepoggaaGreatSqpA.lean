/-
  The law: its function printed as a pure function, its contract, the plain law, the statement
-/
import Derived.Test.YtipdmmpgepoggaaGreatSqE
import Derived.Test.YtipdmmpgepoggaaGreatRows
set_option linter.unusedVariables false
namespace Go.FL
open Go Go.Proofs
def Ff (a0:(List Itm)) (a1:Int) : Option (Bool):=((AF ([((List.length a0:Nat) : Int)]) a0).bind fun x1=>(if x1.2=0 then ((DA ((w64 (((List.length a0:Nat) : Int)+1))≠0)).bind fun x2=>((IL (Int.tmod (IntKind.wrap .i64 a1) (w64 (((List.length a0:Nat) : Int)+1)))).bind fun x3=>(Dh.bind fun x4=>((AU x4 8593 x3 x1.1).bind fun x5=>(Dh.bind fun x6=>((AU x6 8595 x3 x1.1).bind fun x7=>(Dh.bind fun x8=>((AU x8 44 x5.1 x7.1).bind fun x9=>(Eg.bind fun x10=>(Option.bind ((if x10=true then (if x5.2=0 then (if x7.2=0 then (if x9.2=0 then ((GC x1.1 x9.1).bind fun x12=>(some x12)) else (some false)) else (some false)) else (some false)) else (some false)) : Option (Bool)) fun (z10:Bool)=>(some (z10)))))))))))) else (Eg.bind fun x13=>(some (x13)))))
theorem KQ {a0:(List Itm)} {a1:Int} {r:Bool} (h:Ff a0 a1=some r) :
  Fn Tryz.prog 6 [.sl (Its a0),.i .u8 a1] (.d (.b r)):=by
 unfold Ff at h
 refine Fn.o1 4 71 Tryz.func6 ?_;refine .sr ?_;refine ar [0,1,4] ?_;refine .sr ?_;refine vk (Aa) ?_;refine vk (AT (Ay _) (B7 _) B8) ?_;refine vk ((Hq (CY [((List.length a0:Nat):Int)]) Ct).deep) ?_;refine vk (Aa) ?_
 obtain ⟨x1,g1,h⟩:=bnd h
 refine vk (VOK.tupd (vs:=[.ag [.sl (Is x1.1.shape),.sl (Its x1.1.items)],.i .i64 x1.2]) (Aq (BT g1) Tryz.call10)) ?_;refine vk (Aa) ?_;refine vk (vex) ?_;refine vk (vex) ?_;refine vk (van (Aj Ax) Az) ?_
 refine stn ?_ Ab (by decide)
 refine ar [0,1,4,5,6] ?_;refine .seq ?_;refine .sr ?_;refine vk (Aa) ?_;refine vk (vbi) ?_;refine rk [0,1,4,5,23] ?_
 rcases brc h with ⟨hc,h⟩|⟨hc,h⟩
 ·refine cnf (ntf (dT hc)) ?_
  refine .skip ?_
  show AW _ _ _ _ _ _
  refine .sr ?_;refine vk (Aa) ?_;refine vk (vcv Tt U3) ?_;refine vk (Aa) ?_;refine vk (AT (Ay _) (B7 _) B8) ?_;refine vk (vbi) ?_
  obtain ⟨x2,g2,h⟩:=bnd h
  refine vk (Jh (CM g2)) ?_
  obtain ⟨x3,g3,h⟩:=bnd h
  refine vk (Aq (Qv g3) Tryz.call23) ?_;refine vk (van (Aj Ax) Az) ?_
  refine stn ?_ Ab (by decide)
  refine rk [4,5,7] ?_;refine .seq ?_
  obtain ⟨x4,g4,h⟩:=bnd h
  obtain ⟨x5,g5,h⟩:=bnd h
  refine .drawnF 8 [6] [(8,.nb [.sl (Is x5.1.shape),.sl (Its x5.1.items)])] [] A8 (by kernel_rfl) rfl ?_;refine dv (Aq (Dd g4) Tryz.call12) ?_;refine dv (Ei Ac Ab) ?_;refine dv (Ei Ac Ab) ?_;refine dv (VOK.tupd (vs:=[.ag [.sl (Is x5.1.shape),.sl (Its x5.1.items)],.i .i64 x5.2]) (Aq (CL g5) Tryz.call11)) ?_;refine dv (Aa) ?_;refine dv (vex) ?_;refine dv (vex) ?_;refine dv (van (Aj Ax) Az) ?_;refine dz ?_
  refine ⟨?_,?_,?_⟩
  ·intro k hk
   simp only [List.mem_cons,List.not_mem_nil,or_false] at hk
   subst hk
   exact ⟨_,_,_,rfl,rfl,rfl,rfl,rfl,rfl,vex⟩
  ·intro om e hom hge
   cases hom
   exact H7 (cs:=[.sl (Is []),.sl (Its [])]) (cs':=[.sl (Is x5.1.shape),.sl (Its x5.1.items)]) Ab (by decide) rfl ((hge 8 (fun k hk v hv=>by
     simp only [List.mem_cons,List.not_mem_nil,or_false] at hk
     subst hk;exact (by decide:¬(some 38=some 8)) (congrArg (Option.map Prod.fst) hv))).trans rfl) ((congrArg A2 (hge 37 (fun k hk v hv=>by
     simp only [List.mem_cons,List.not_mem_nil,or_false] at hk
     subst hk;exact (by decide:¬(some 38=some 37)) (congrArg (Option.map Prod.fst) hv)))).trans rfl) rfl rfl rfl rfl ⟨rfl,rfl⟩
  refine ar [4,5,7,8,9] ?_;refine .seq ?_
  obtain ⟨x6,g6,h⟩:=bnd h
  obtain ⟨x7,g7,h⟩:=bnd h
  refine .drawnF 8 [6] [(10,.nb [.sl (Is x7.1.shape),.sl (Its x7.1.items)])] [] A8 (by kernel_rfl) rfl ?_;refine dv (Aq (Dd g6) Tryz.call12) ?_;refine dv (Ei Ac Ab) ?_;refine dv (Ei Ac Ab) ?_;refine dv (VOK.tupd (vs:=[.ag [.sl (Is x7.1.shape),.sl (Its x7.1.items)],.i .i64 x7.2]) (Aq (CL g7) Tryz.call11)) ?_;refine dv (Aa) ?_;refine dv (vex) ?_;refine dv (vex) ?_;refine dv (van (Aj Ax) Az) ?_;refine dz ?_
  refine ⟨?_,?_,?_⟩
  ·intro k hk
   simp only [List.mem_cons,List.not_mem_nil,or_false] at hk
   subst hk
   exact ⟨_,_,_,rfl,rfl,rfl,rfl,rfl,rfl,vex⟩
  ·intro om e hom hge
   cases hom
   exact H7 (cs:=[.sl (Is []),.sl (Its [])]) (cs':=[.sl (Is x7.1.shape),.sl (Its x7.1.items)]) Ab (by decide) rfl ((hge 10 (fun k hk v hv=>by
     simp only [List.mem_cons,List.not_mem_nil,or_false] at hk
     subst hk;exact (by decide:¬(some 45=some 10)) (congrArg (Option.map Prod.fst) hv))).trans rfl) ((congrArg A2 (hge 44 (fun k hk v hv=>by
     simp only [List.mem_cons,List.not_mem_nil,or_false] at hk
     subst hk;exact (by decide:¬(some 45=some 44)) (congrArg (Option.map Prod.fst) hv)))).trans rfl) rfl rfl rfl rfl ⟨rfl,rfl⟩
  refine ar [4,5,8,9,10,11] ?_;refine .seq ?_
  obtain ⟨x8,g8,h⟩:=bnd h
  obtain ⟨x9,g9,h⟩:=bnd h
  refine .drawnF 8 [6] [(12,.nb [.sl (Is x9.1.shape),.sl (Its x9.1.items)])] [] A8 (by kernel_rfl) rfl ?_;refine dv (Aq (Dd g8) Tryz.call12) ?_;refine dv (Ei Ac Ab) ?_;refine dv (Ei Ac Ab) ?_;refine dv (VOK.tupd (vs:=[.ag [.sl (Is x9.1.shape),.sl (Its x9.1.items)],.i .i64 x9.2]) (Aq (CL g9) Tryz.call11)) ?_;refine dv (Aa) ?_;refine dv (vex) ?_;refine dv (vex) ?_;refine dv (van (Aj Ax) Az) ?_;refine dz ?_
  refine ⟨?_,?_,?_⟩
  ·intro k hk
   simp only [List.mem_cons,List.not_mem_nil,or_false] at hk
   subst hk
   exact ⟨_,_,_,rfl,rfl,rfl,rfl,rfl,rfl,vex⟩
  ·intro om e hom hge
   cases hom
   exact H7 (cs:=[.sl (Is []),.sl (Its [])]) (cs':=[.sl (Is x9.1.shape),.sl (Its x9.1.items)]) Ab (by decide) rfl ((hge 12 (fun k hk v hv=>by
     simp only [List.mem_cons,List.not_mem_nil,or_false] at hk
     subst hk;exact (by decide:¬(some 52=some 12)) (congrArg (Option.map Prod.fst) hv))).trans rfl) ((congrArg A2 (hge 51 (fun k hk v hv=>by
     simp only [List.mem_cons,List.not_mem_nil,or_false] at hk
     subst hk;exact (by decide:¬(some 52=some 51)) (congrArg (Option.map Prod.fst) hv)))).trans rfl) rfl rfl rfl rfl ⟨rfl,rfl⟩
  refine ar [4,5,9,11,12,13] ?_;refine .seq ?_
  obtain ⟨x10,g10,h⟩:=bnd h
  obtain ⟨z10,hz,h⟩:=bnd h
  refine AW.mr (σ:=Unit) (fun _=>True) (fun _=>[(4,.d (.b z10))]) (fun _=>[]) ?_ ?_
  ·skip
   refine .region ?_;refine vk (Aq (Fc g10) Tryz.call9) ?_
   rcases brc hz with ⟨hc,hz⟩|⟨hc,hz⟩
   ·have hb0:x10=true:=hc
    refine vk (VOK.lit (Aa) hb0) ?_;refine vk (Aa) ?_;refine vk (vbi) ?_;refine vk (Ao) ?_
    rcases brc hz with ⟨hc,hz⟩|⟨hc,hz⟩
    ·have hb1:(decide (x5.2=0))=true:=(dT hc)
     refine vk (VOK.lit (Aa) hb1) ?_;refine vk (Aa) ?_;refine vk (vbi) ?_;refine vk (Ao) ?_
     rcases brc hz with ⟨hc,hz⟩|⟨hc,hz⟩
     ·have hb2:(decide (x7.2=0))=true:=(dT hc)
      refine vk (VOK.lit (Aa) hb2) ?_;refine vk (Aa) ?_;refine vk (vbi) ?_;refine vk (Ao) ?_
      rcases brc hz with ⟨hc,hz⟩|⟨hc,hz⟩
      ·have hb3:(decide (x9.2=0))=true:=(dT hc)
       refine vk (VOK.lit (Aa) hb3) ?_;refine vk (Ei Ac Ab) ?_;refine vk (Ei Ac Ab) ?_
       obtain ⟨x12,g12,hz⟩:=bnd hz
       refine vk (Aq (Hp g12) Tryz.call14) ?_;refine vk (Ao) ?_;refine asd ?_;refine RL.gk [4] ?_;refine .nil ?_
       cases hz
       exact jr () trivial
      have hb3:(decide (x9.2=0))=false:=(dF hc)
      refine vk (VOK.lit (Aa) hb3) ?_;refine gf ?_;refine gf ?_;refine gf ?_;refine vk (Ao) ?_;refine asd ?_;refine RL.gk [4] ?_;refine .nil ?_
      cases hz
      exact jr () trivial
     have hb2:(decide (x7.2=0))=false:=(dF hc)
     refine vk (VOK.lit (Aa) hb2) ?_;refine gf ?_;refine gf ?_;refine vk (Ao) ?_;refine vk (Aa) ?_;refine gf ?_;refine gf ?_;refine gf ?_;refine vk (Ao) ?_;refine asd ?_;refine RL.gk [4] ?_;refine .nil ?_
     cases hz
     exact jr () trivial
    have hb1:(decide (x5.2=0))=false:=(dF hc)
    refine vk (VOK.lit (Aa) hb1) ?_;refine gf ?_;refine gf ?_;refine vk (Ao) ?_;refine vk (Aa) ?_;refine gf ?_;refine gf ?_;refine vk (Ao) ?_;refine vk (Aa) ?_;refine gf ?_;refine gf ?_;refine gf ?_;refine vk (Ao) ?_;refine asd ?_;refine RL.gk [4] ?_;refine .nil ?_
    cases hz
    exact jr () trivial
   have hb0:x10=false:=(bf hc)
   refine vk (VOK.lit (Aa) hb0) ?_;refine gf ?_;refine gf ?_;refine vk (Ao) ?_;refine vk (Aa) ?_;refine gf ?_;refine gf ?_;refine vk (Ao) ?_;refine vk (Aa) ?_;refine gf ?_;refine gf ?_;refine vk (Ao) ?_;refine vk (Aa) ?_;refine gf ?_;refine gf ?_;refine gf ?_;refine vk (Ao) ?_;refine asd ?_;refine RL.gk [4] ?_;refine .nil ?_
   cases hz
   exact jr () trivial
  rintro _ _
  refine .ret ?_
  cases h
  exact ⟨rfl,rfl⟩
 refine cnt (ntt (dF hc)) ?_;refine .sr ?_
 obtain ⟨x13,g13,h⟩:=bnd h
 refine vk (Aq (Fc g13) Tryz.call9) ?_;refine ar [0,1,4,5] ?_;refine .ret ?_
 cases h
 exact ⟨rfl,rfl⟩
theorem NJ : Cu 44=some true:=by kernel_rfl
theorem TQ : Cu 8593=some true:=by kernel_rfl
theorem My : Hg (⟨#[44,226,141,170]⟩ : ByteArray) 44=some true:=by kernel_rfl
theorem MA : Hg (⟨#[226,141,170,226,138,150,226,140,191,226,141,128]⟩ : ByteArray) 44=some false:=by kernel_rfl
theorem Qu {e:Int×RT×Int} (he:e.1=0∨e.1=1) {m n:Int} {xs ys:List Itm} (ox:okAr (.mk [m] xs)) (oy:okAr (.mk [n] ys)) (hx:Be (.mk [m] xs)) (hy:Be (.mk [n] ys)) : AU e 44 (.mk [m] xs) (.mk [n] ys)=A4 (.mk [m] xs) (.mk [n] ys) 0:=by
 have ht:F5 JZ 44=some ⟨.fn 81 [] [],fun x=>A4 x.1 x.2.1 x.2.2⟩:=rfl
 have hend:Eh (.mk [n] ys) false=some 0:=S1 (b:=.mk [n] ys) (by show [n].length≤_;simp)
 unfold AU Ef
 rw [NJ,oB,if_pos rfl,Po he ox oy hx hy,oB,if_pos rfl,if_neg (by decide),if_neg (by decide),if_neg (by decide),if_neg (by decide),ht,oB,My,oB,Bool.true_and]
 have hg:¬decide (((List.length (Arr.mk [n] ys).shape:Nat):Int)<((List.length (Arr.mk [m] xs).shape:Nat):Int))=true:=by
  show ¬decide (((1:Nat):Int)<((1:Nat):Int))=true
  decide
 rw [if_neg hg,oB,MA,oB,hend,oB]
 show (A4 (.mk [m] xs) (.mk [n] ys) 0).bind _=_
 cases A4 (.mk [m] xs) (.mk [n] ys) 0<;>rfl
theorem Uv {e:Int×RT×Int} (he:e.1=0∨e.1=1) {a b:Arr} (oa:okAr a) (ra:Be a) (ob:okAr b) (rb:Be b) : AU e 8593 a b=DM a b:=by
 unfold AU
 rw [TQ,oB,if_pos rfl,Po he oa ob ra rb,oB,if_pos rfl,if_neg (by decide),if_pos rfl]
 cases DM a b<;>rfl
def Un (xs:List Itm) (z:Nat) : Arr:=if z<xs.length then vec (xs.drop z) else .mk [0] [tyI (xs.headD default)]
theorem S0 {e:Int×RT×Int} (he:e.1=0∨e.1=1) {xs:List Itm} (h:VR xs) {z:Nat} (hz:z≤xs.length) : AU e 44 (N5 xs z) (Un xs z)=some (vec xs,0):=by
 have h2:=h.2.1
 have hp:=h.pos
 have hm:=h.make
 unfold N5 Un
 by_cases h0:z=0
 ·subst h0
  rw [if_pos rfl,if_pos hp,List.drop_zero]
  refine (Qu he h.zero.2.1 h.ok h.zero.2.2 h.2.2.2).trans ?_
  have:=Qt (m:=0) (n:=xs.length) (xs:=[tyI (xs.headD default)]) (ys:=xs) (by omega) (by omega) (by simp) (by simp) (by omega) (by omega)
  rw [List.take_zero,List.nil_append,List.take_of_length_le (Nat.le_refl _),Nat.zero_add] at this
  exact this.trans hm
 rw [if_neg h0]
 have ht:(xs.take z).length=z:=by rw [List.length_take];omega
 have vt:VR (xs.take z):=h.sub (List.take_sublist z xs) (List.length_pos_iff.1 (by rw [ht];omega))
 by_cases hl:z<xs.length
 ·rw [if_pos hl]
  have hdl:(xs.drop z).length=xs.length-z:=by rw [List.length_drop]
  have vd:VR (xs.drop z):=h.sub (List.drop_sublist z xs) (List.length_pos_iff.1 (by omega))
  refine (Qu he vt.ok vd.ok vt.2.2.2 vd.2.2.2).trans ?_
  have:=Qt (m:=(xs.take z).length) (n:=(xs.drop z).length) (xs:=xs.take z) (ys:=xs.drop z) (by omega) (by omega) (by omega) (by omega) (by omega) (by omega)
  rw [List.take_of_length_le (Nat.le_refl _),List.take_of_length_le (Nat.le_refl _),List.take_append_drop] at this
  have e1:(xs.take z).length+(xs.drop z).length=xs.length:=by omega
  rw [e1] at this
  exact this.trans hm
 ·have hzl:z=xs.length:=by omega
  subst hzl
  rw [if_neg hl]
  refine (Qu he vt.ok h.zero.2.1 vt.2.2.2 h.zero.2.2).trans ?_
  have:=Qt (m:=(xs.take xs.length).length) (n:=0) (xs:=xs.take xs.length) (ys:=[tyI (xs.headD default)]) (by omega) (by omega) (by omega) (by omega) (by simp) (by simp)
  rw [List.take_of_length_le (Nat.le_refl _),List.take_zero,List.append_nil,Nat.add_zero,List.take_of_length_le (Nat.le_refl _)] at this
  rw [List.take_of_length_le (Nat.le_refl _)]
  exact this.trans hm
theorem Pp {l:List Itm} {n:Int} (hl:l.length≤1466015503701∧∀ x∈l,okI x) (hn:(Lit.int .u8 n).wf=true) : Ff l n=some true:=by
 obtain ⟨a,rfl,ha⟩:∃ a:Nat,n=(a:Int)∧a≤255:=by
  simp [Lit.wf,IntKind.min,IntKind.max,IntKind.signed,IntKind.bits] at hn
  exact ⟨n.toNat,by omega,by omega⟩
 have en:IntKind.wrap .i64 (a:Int)=(a:Int):=GD (by omega) (by omega)
 have hmk:∃ r e,AF [((List.length l:Nat):Int)] l=some (r,e):=⟨_,_,Hb (fun z hz=>by rw [List.mem_singleton] at hz;omega) (by simp) hl.1 hl.2⟩
 obtain ⟨r,e,hr⟩:=hmk
 unfold Ff
 rw [hr,oB,Uq,en]
 by_cases h0:e=0
 rotate_left
 ·rw [if_neg h0];rfl
 subst h0
 obtain ⟨v,rfl⟩:=Lg hl.2 hl.1 hr
 have h2:=v.2.1
 have hw:w64 (((List.length l:Nat):Int)+1)=((l.length+1:Nat):Int):=by rw [Bk (by omega) (by omega)];omega
 have hk:Int.tmod (a:Int) ((l.length+1:Nat):Int)=((a % (l.length+1):Nat):Int):=rfl
 have hkl:a % (l.length+1)≤l.length:=by have:=Nat.mod_lt a (show 0<l.length+1 by omega);omega
 rw [if_pos rfl,hw,J3 (by omega),oB,hk]
 have hka:a % (l.length+1)≤255:=nT (Nat.mod_le _ _) ha
 generalize a % (l.length+1)=k at hkl hka
 have zk:Kz (k:Int):=⟨by omega,by omega⟩
 simp only [U5,U4 zk,oB]
 have E:((1,(false,[],[]),0):Int×RT×Int).1=0∨((1,(false,[],[]),0):Int×RT×Int).1=1:=.inr rfl
 have T:AU (1,(false,[],[]),0) 8593 (.mk [] [GB (k:Int)]) (vec l)=some (N5 l k,0):=(Uv E (KO zk).1 (KO zk).2 v.ok v.2.2.2).trans (TJ v hkl)
 have D:AU (1,(false,[],[]),0) 8595 (.mk [] [GB (k:Int)]) (vec l)=some (Un l k,0):=by
  refine (Uu E (KO zk).1 (KO zk).2 v.ok v.2.2.2).trans ?_
  exact TM v (by omega)
 rw [T,oB,D,oB,S0 E v hkl,oB]
 simp only [if_true,(R2 v.ok).yes rfl,oB]
end Go.FL
namespace Go.Proofs.YtipdmmpgepoggaaGreat.shapeParts
open Go.ChangeShapes Go.WideShapes Go.ChangeAt Go.RowKit Go.FL
theorem own : ownKnob Tryz.prog.godebug=none:=by kernel_rfl
theorem laid : laidOutB Tryz.prog=true:=by kernel_rfl
theorem params : ∀ t∈Tryz.f6.params.toList,Tryz.prog.readableRec t=true∧t<Tryz.prog.types.size:=by
 intro t ht
 simp only [Tryz.params6,List.mem_cons,List.not_mem_nil,or_false] at ht
 rcases ht with rfl|rfl<;>exact ⟨by kernel_rfl,of_decide_eq_true (by kernel_rfl)⟩
set_option maxRecDepth 100000 in
theorem lifted (os:Os) (started:os.Started) (H:Type) (enc:TypeId×Value→H) :
  ReturnsInHanded {} Tryz.checked os 6 .any (Rows.shapePartsSpec.pre6 enc Tryz.prog Tryz.f6 Rows.shapePartsRow.domain false) (Rows.shapePartsSpec.post enc Tryz.prog Tryz.f6 false true false false):=by
 refine returnsInHanded_of_change_sized (C:=Tryz.checked) own started (by kernel_rfl) Tryz.func6
  (ChangeSpec.witness6 (enc:=enc) (C:=Tryz.checked) false ⟨#[],#[.slice none 0 0,.int .u8 0],[]⟩ 8 (by kernel_rfl) (by kernel_rfl) (by kernel_rfl) (by kernel_rfl)) ?_
 intro W base args ds gs before hval0 hW hcnd hsz _
 have hval:∀ (j:Nat) t v,Tryz.f6.params[j]?=some t→args[j]?=some v→Value.okWide Tryz.prog W .any base t v:=hval0
 have hW':=hW
 obtain ⟨p,q,hA0,hV,rfl,hfz,hnd⟩:=hW
 have hA:DataW.TrodAll enc Tryz.prog W 0 (fun _=>true) true Tryz.f6.params.toList args.toList ds p:=hA0
 rw [Tryz.params6] at hA hval
 obtain ⟨v0,vs0,d0,ds0,p0,q0,hargs,rfl,rfl,h0,r0⟩:=trodAll_cons hA
 obtain ⟨v1,vs1,d1,ds1,p1,q1,rfl,rfl,rfl,h1,r1⟩:=trodAll_cons r0
 obtain ⟨rfl,rfl,rfl⟩:=trodAll_nil r1
 obtain rfl:args=#[v0,v1]:=by cases args;simp_all
 obtain ⟨rfl,rfl⟩:=trodVars_none hV
 rw [Tryz.params6] at hsz
 have w0:∀ m∈DataW.weights Tryz.prog 23 d0,m≤reachBytes:=fun m hm=>by simpa using List.all_eq_true.1 hsz m (DataW.weights_mem_each (j:=0) rfl rfl m hm)
 obtain ⟨a0,o0,e0⟩:=Lc (v:=v0) Le (by obtain ⟨x0,x1,x2,rfl⟩:=okWide_slice Tryz.underlying23 (hval 0 23 v0 rfl rfl);rfl) h0 w0
 have w1:∀ m∈DataW.weights Tryz.prog 5 d1,m≤reachBytes:=fun m hm=>by simpa using List.all_eq_true.1 hsz m (DataW.weights_mem_each (j:=1) rfl rfl m hm)
 obtain ⟨a1,o1,e1⟩:=Ut (by kernel_rfl:Tryz.prog.underlying 5=some (.int .u8)) (hval 1 5 v1 rfl rfl) h1
 refine (NL (KQ (Pp o0 o1)) (.cons e0 (.cons e1 .nil))).mono fun e W' ⟨he,hb⟩=>?_
 subst he
 exact ⟨_,rfl,PN hW' rfl (fun _=>rfl) rfl Tryz.underlying4 laid params hb⟩
theorem over : Rows.shapePartsRow.holds Tryz.pinned (OpenSpec.ofChange Rows.shapePartsSpec) :=
 OpenClaim.holds_of_wide 6 Tryz.f6 rfl rfl rfl rfl rfl rfl rfl ⟨rfl,rfl,rfl,rfl,rfl⟩ rfl rfl rfl rfl rfl (by kernel_rfl) Tryz.func6 (by kernel_rfl)
  (of_decide_eq_true (by kernel_rfl)) (by unfold Func.isWrapper;first|(rw [if_pos (by decide +kernel)];kernel_rfl)|(rw [if_neg (by decide +kernel)];exact ⟨rfl,rfl⟩))
  (fun os started H enc _=>lifted os started H enc)
theorem proved : Rows.ShapePartsSaid :=
 over
end Go.Proofs.YtipdmmpgepoggaaGreat.shapeParts
