/-
  The law: its function printed as a pure function, its contract, the plain law, the statement
-/
import Derived.Test.YtipdmmpgepoggaaGreatStE
import Derived.Test.YtipdmmpgepoggaaGreatRows
set_option linter.unusedVariables false
namespace Go.FL
open Go Go.Proofs
def Du (a0:Arr) (a1:Int) (a2:Int) : Option (Bool):=((EP a0).bind fun x1=>(if x1=true then (D4.bind fun x2=>((Et (IntKind.wrap .i64 a1)).bind fun x3=>((CC x2 8854 x3 a0).bind fun x4=>(D4.bind fun x5=>((Et (IntKind.wrap .i64 a2)).bind fun x6=>((CC x5 8854 x6 x4.1).bind fun x7=>(D4.bind fun x8=>((Et (w64 ((IntKind.wrap .i64 a1)+(IntKind.wrap .i64 a2)))).bind fun x9=>((CC x8 8854 x9 a0).bind fun x10=>(Fe.bind fun x11=>(Option.bind ((if x11=true then (if x4.2=0 then (if x7.2=0 then (if x10.2=0 then ((HC x7.1 x10.1).bind fun x13=>(some x13)) else (some false)) else (some false)) else (some false)) else (some false)) : Option (Bool)) fun (z11:Bool)=>(some (z11))))))))))))) else (Fe.bind fun x14=>(some (x14)))))
theorem HK {a0:Arr} {a1:Int} {a2:Int} {r:Bool} (h:Du a0 a1 a2=some r) :
  Fn Tryz.prog 7 [.ag [.sl (Is a0.shape),.sl (Its a0.items)],.i .i16 a1,.i .i16 a2] (.d (.b r)):=by
 unfold Du at h
 refine Fn.o1 6 65 Tryz.func7 ?_;refine .sr ?_;refine vk (vbx) ?_;refine ar [1,2,3,6] ?_;refine .seq ?_;refine .sr ?_;refine vk (AE Ad Ac) ?_
 obtain ⟨x1,g1,h⟩:=bnd h
 refine vk (Aq (K9 g1) Tryz.call24) ?_;refine vk (vnt) ?_;refine rk [1,2,3,6,15] ?_
 rcases brc h with ⟨hc,h⟩|⟨hc,h⟩
 ·refine cnf (ntf hc) ?_
  refine .skip ?_
  show AW _ _ _ _ _ _
  refine .seq ?_
  obtain ⟨x2,g2,h⟩:=bnd h
  obtain ⟨x3,g3,h⟩:=bnd h
  obtain ⟨x4,g4,h⟩:=bnd h
  refine .drawnF 10 [8] [(7,.nb [.sl (Is x4.1.shape),.sl (Its x4.1.items)])] [] Bh (by kernel_rfl) rfl ?_;refine dv (Aq (D8 g2) Tryz.call12) ?_;refine dv (Aa) ?_;refine dv (vcv IM ME) ?_;refine dv (Aq (Gw g3) Tryz.call23) ?_;refine dv (AE Ad Ac) ?_;refine dv (VOK.tupd (vs:=[.ag [.sl (Is x4.1.shape),.sl (Its x4.1.items)],.i .i64 x4.2]) (Aq (DO g4) Tryz.call11)) ?_;refine dv (Aa) ?_;refine dv (vex) ?_;refine dv (vex) ?_;refine dv (van (Am AB) AJ) ?_;refine dz ?_
  refine ⟨?_,?_,?_⟩
  ·intro k hk
   simp only [List.mem_cons,List.not_mem_nil,or_false] at hk
   subst hk
   exact ⟨_,_,_,rfl,rfl,rfl,rfl,rfl,rfl,vex⟩
  ·intro om e hom hge
   cases hom
   exact Lp (cs:=[.sl (Is []),.sl (Its [])]) (cs':=[.sl (Is x4.1.shape),.sl (Its x4.1.items)]) Ac (by decide) rfl ((hge 7 (fun k hk v hv=>by
     simp only [List.mem_cons,List.not_mem_nil,or_false] at hk
     subst hk;exact (by decide:¬(some 25=some 7)) (congrArg (Option.map Prod.fst) hv))).trans rfl) ((congrArg A1 (hge 24 (fun k hk v hv=>by
     simp only [List.mem_cons,List.not_mem_nil,or_false] at hk
     subst hk;exact (by decide:¬(some 25=some 24)) (congrArg (Option.map Prod.fst) hv)))).trans rfl) rfl rfl rfl rfl ⟨rfl,rfl⟩
  refine ar [1,2,3,6,7,8] ?_;refine .seq ?_
  obtain ⟨x5,g5,h⟩:=bnd h
  obtain ⟨x6,g6,h⟩:=bnd h
  obtain ⟨x7,g7,h⟩:=bnd h
  refine .drawnF 10 [8] [(9,.nb [.sl (Is x7.1.shape),.sl (Its x7.1.items)])] [] Bh (by kernel_rfl) rfl ?_;refine dv (Aq (D8 g5) Tryz.call12) ?_;refine dv (Aa) ?_;refine dv (vcv IM ME) ?_;refine dv (Aq (Gw g6) Tryz.call23) ?_;refine dv (HL Ad Ac) ?_;refine dv (VOK.tupd (vs:=[.ag [.sl (Is x7.1.shape),.sl (Its x7.1.items)],.i .i64 x7.2]) (Aq (DO g7) Tryz.call11)) ?_;refine dv (Aa) ?_;refine dv (vex) ?_;refine dv (vex) ?_;refine dv (van (Am AB) AJ) ?_;refine dz ?_
  refine ⟨?_,?_,?_⟩
  ·intro k hk
   simp only [List.mem_cons,List.not_mem_nil,or_false] at hk
   subst hk
   exact ⟨_,_,_,rfl,rfl,rfl,rfl,rfl,rfl,vex⟩
  ·intro om e hom hge
   cases hom
   exact Lp (cs:=[.sl (Is []),.sl (Its [])]) (cs':=[.sl (Is x7.1.shape),.sl (Its x7.1.items)]) Ac (by decide) rfl ((hge 9 (fun k hk v hv=>by
     simp only [List.mem_cons,List.not_mem_nil,or_false] at hk
     subst hk;exact (by decide:¬(some 34=some 9)) (congrArg (Option.map Prod.fst) hv))).trans rfl) ((congrArg A1 (hge 33 (fun k hk v hv=>by
     simp only [List.mem_cons,List.not_mem_nil,or_false] at hk
     subst hk;exact (by decide:¬(some 34=some 33)) (congrArg (Option.map Prod.fst) hv)))).trans rfl) rfl rfl rfl rfl ⟨rfl,rfl⟩
  refine ar [1,2,3,6,8,9,10] ?_;refine .seq ?_
  obtain ⟨x8,g8,h⟩:=bnd h
  obtain ⟨x9,g9,h⟩:=bnd h
  obtain ⟨x10,g10,h⟩:=bnd h
  refine .drawnF 13 [11] [(11,.nb [.sl (Is x10.1.shape),.sl (Its x10.1.items)])] [] Bh (by kernel_rfl) rfl ?_;refine dv (Aq (D8 g8) Tryz.call12) ?_;refine dv (Aa) ?_;refine dv (vcv IM ME) ?_;refine dv (Aa) ?_;refine dv (vcv IM ME) ?_;refine dv (vbi) ?_;refine dv (Aq (Gw g9) Tryz.call23) ?_;refine dv (AE Ad Ac) ?_;refine dv (VOK.tupd (vs:=[.ag [.sl (Is x10.1.shape),.sl (Its x10.1.items)],.i .i64 x10.2]) (Aq (DO g10) Tryz.call11)) ?_;refine dv (Aa) ?_;refine dv (vex) ?_;refine dv (vex) ?_;refine dv (van (Am AB) AJ) ?_;refine dz ?_
  refine ⟨?_,?_,?_⟩
  ·intro k hk
   simp only [List.mem_cons,List.not_mem_nil,or_false] at hk
   subst hk
   exact ⟨_,_,_,rfl,rfl,rfl,rfl,rfl,rfl,vex⟩
  ·intro om e hom hge
   cases hom
   exact Lp (cs:=[.sl (Is []),.sl (Its [])]) (cs':=[.sl (Is x10.1.shape),.sl (Its x10.1.items)]) Ac (by decide) rfl ((hge 11 (fun k hk v hv=>by
     simp only [List.mem_cons,List.not_mem_nil,or_false] at hk
     subst hk;exact (by decide:¬(some 46=some 11)) (congrArg (Option.map Prod.fst) hv))).trans rfl) ((congrArg A1 (hge 45 (fun k hk v hv=>by
     simp only [List.mem_cons,List.not_mem_nil,or_false] at hk
     subst hk;exact (by decide:¬(some 46=some 45)) (congrArg (Option.map Prod.fst) hv)))).trans rfl) rfl rfl rfl rfl ⟨rfl,rfl⟩
  refine ar [6,8,9,10,11,12] ?_;refine .seq ?_
  obtain ⟨x11,g11,h⟩:=bnd h
  obtain ⟨z11,hz,h⟩:=bnd h
  refine AW.mr (σ:=Unit) (fun _=>True) (fun _=>[(6,.d (.b z11))]) (fun _=>[]) ?_ ?_
  ·skip
   refine .region ?_;refine vk (Aq (HS g11) Tryz.call9) ?_
   rcases brc hz with ⟨hc,hz⟩|⟨hc,hz⟩
   ·have hb0:x11=true:=hc
    refine vk (VOK.lit (Aa) hb0) ?_;refine vk (Aa) ?_;refine vk (vbi) ?_;refine vk (Af) ?_
    rcases brc hz with ⟨hc,hz⟩|⟨hc,hz⟩
    ·have hb1:(decide (x4.2=0))=true:=(dT hc)
     refine vk (VOK.lit (Aa) hb1) ?_;refine vk (Aa) ?_;refine vk (vbi) ?_;refine vk (Af) ?_
     rcases brc hz with ⟨hc,hz⟩|⟨hc,hz⟩
     ·have hb2:(decide (x7.2=0))=true:=(dT hc)
      refine vk (VOK.lit (Aa) hb2) ?_;refine vk (Aa) ?_;refine vk (vbi) ?_;refine vk (Af) ?_
      rcases brc hz with ⟨hc,hz⟩|⟨hc,hz⟩
      ·have hb3:(decide (x10.2=0))=true:=(dT hc)
       refine vk (VOK.lit (Aa) hb3) ?_;refine vk (HL Ad Ac) ?_;refine vk (HL Ad Ac) ?_
       obtain ⟨x13,g13,hz⟩:=bnd hz
       refine vk (Aq (IG g13) Tryz.call14) ?_;refine vk (Af) ?_;refine asd ?_;refine RL.gk [6] ?_;refine .nil ?_
       cases hz
       exact jr () trivial
      have hb3:(decide (x10.2=0))=false:=(dF hc)
      refine vk (VOK.lit (Aa) hb3) ?_;refine gf ?_;refine gf ?_;refine gf ?_;refine vk (Af) ?_;refine asd ?_;refine RL.gk [6] ?_;refine .nil ?_
      cases hz
      exact jr () trivial
     have hb2:(decide (x7.2=0))=false:=(dF hc)
     refine vk (VOK.lit (Aa) hb2) ?_;refine gf ?_;refine gf ?_;refine vk (Af) ?_;refine vk (Aa) ?_;refine gf ?_;refine gf ?_;refine gf ?_;refine vk (Af) ?_;refine asd ?_;refine RL.gk [6] ?_;refine .nil ?_
     cases hz
     exact jr () trivial
    have hb1:(decide (x4.2=0))=false:=(dF hc)
    refine vk (VOK.lit (Aa) hb1) ?_;refine gf ?_;refine gf ?_;refine vk (Af) ?_;refine vk (Aa) ?_;refine gf ?_;refine gf ?_;refine vk (Af) ?_;refine vk (Aa) ?_;refine gf ?_;refine gf ?_;refine gf ?_;refine vk (Af) ?_;refine asd ?_;refine RL.gk [6] ?_;refine .nil ?_
    cases hz
    exact jr () trivial
   have hb0:x11=false:=(bf hc)
   refine vk (VOK.lit (Aa) hb0) ?_;refine gf ?_;refine gf ?_;refine vk (Af) ?_;refine vk (Aa) ?_;refine gf ?_;refine gf ?_;refine vk (Af) ?_;refine vk (Aa) ?_;refine gf ?_;refine gf ?_;refine vk (Af) ?_;refine vk (Aa) ?_;refine gf ?_;refine gf ?_;refine gf ?_;refine vk (Af) ?_;refine asd ?_;refine RL.gk [6] ?_;refine .nil ?_
   cases hz
   exact jr () trivial
  rintro _ _
  refine .ret ?_
  cases h
  exact ⟨rfl,rfl⟩
 refine cnt (ntt (bf hc)) ?_;refine .sr ?_
 obtain ⟨x14,g14,h⟩:=bnd h
 refine vk (Aq (HS g14) Tryz.call9) ?_;refine ar [1,2,3,6] ?_;refine .ret ?_
 cases h
 exact ⟨rfl,rfl⟩
theorem Vu : Fe=some true:=by kernel_rfl
theorem V2 : D4=some (1,(false,[],[]),0):=by kernel_rfl
theorem Ta : Dk 8854=some true:=by kernel_rfl
theorem Ql : HM (⟨#[44,226,141,170]⟩ : ByteArray) 8854=some false:=by kernel_rfl
theorem Qw : HM (⟨#[226,141,170,226,138,150,226,140,191,226,141,128]⟩ : ByteArray) 8854=some true:=by kernel_rfl
theorem U6 {a b:Arr} {e:Int×RT×Int} (he:e.1=0∨e.1=1) (oa:okAr a) (ob:okAr b) (ra:AT a) (rb:AT b) : Dg e [a,b]=some true:=by
 rw [R9 he (by simp) (by simpa using ⟨oa,ob⟩)]
 simp [ra,rb]
theorem S6 {z:Int} (hz:GW z) : okAr (.mk [] [HH z])∧AT (.mk [] [HH z]):=⟨RK (Pz hz),(IC (Lb hz) rfl (by show (1:Int)≠3;decide)).1⟩
theorem Uy {e:Int×RT×Int} (he:e.1=0∨e.1=1) {z:Int} {b:Arr} (hz:GW z) (ob:okAr b) (rb:AT b) : CC e 8854 (.mk [] [HH z]) b=A7 (.mk [] [HH z]) b 0:=by
 obtain ⟨on,rn⟩:=S6 hz
 have ht:GO KS 8854=some ⟨.fn 82 [] [],fun x=>A7 x.1 x.2.1 x.2.2⟩:=rfl
 unfold CC ED
 rw [Ta,oB,if_pos rfl,U6 he on ob rn rb,oB,if_pos rfl,if_neg (by decide),if_neg (by decide),if_neg (by decide),if_neg (by decide),ht,oB,Ql,oB,Bool.false_and,if_neg (by decide),oB,Qw,oB]
 show (A7 (.mk [] [HH z]) b 0).bind _=_
 cases A7 (.mk [] [HH z]) b 0<;>rfl
theorem OI {a:Arr} (oa:okAr a) (ra:AT a) {n m:Nat} (hsz:szP a.shape=((n:Int),0)) (hx:0<a.shape.length) (hm:a.shape[0]=(m:Int)) {z:Int} (hz:GW z) :
  A7 (.mk [] [HH z]) a 0=some (.mk a.shape (if n=0 then [tyI (a.items.headD default)] else Cl a n (Bm (a.shape.map Int.toNat) 0 (Eg z m))),0) ∧
  (okAr (.mk a.shape (if n=0 then [tyI (a.items.headD default)] else Cl a n (Bm (a.shape.map Int.toNat) 0 (Eg z m))))∧AT (.mk a.shape (if n=0 then [tyI (a.items.headD default)] else Cl a n (Bm (a.shape.map Int.toNat) 0 (Eg z m))))):=by
 obtain ⟨hd,h8⟩:=KT (s:=a.shape) (by rw [hsz])
 have hm2:m≤4096:=by have:=hd _ (List.getElem_mem hx);omega
 have o:=(Bj a).1 oa
 obtain ⟨h1,h2⟩:=Q4 oa ra hsz hx hm (Cv z m) M6 (OD z m)
 exact ⟨(OY (ax:=0) hz hx hm hm2).trans h1,R0 oa ra hsz hsz o.1 o.2.1 h2⟩
theorem Tg {x y:Int} {m:Nat} {k:Nat} (hk:k<m) : (Eg (x+y) m).getD k 0=(Eg x m).getD ((Eg y m).getD k 0) 0:=by
 have h1:=Int.emod_nonneg ((k:Int)+y) (b:=(m:Int)) (by omega)
 have h2:=Int.emod_lt_of_pos ((k:Int)+y) (b:=(m:Int)) (by omega)
 rw [IL hk,IL hk,IL (by omega),Int.toNat_of_nonneg h1]
 congr 1
 rw [Int.add_emod (((k:Int)+y) % (m:Int)),Int.emod_emod_of_dvd _ (Int.dvd_refl _),← Int.add_emod]
 congr 1;omega
theorem Lw {a:Arr} {n m:Int} (oa:okAr a) (hn:(Lit.int .i16 n).wf=true) (hm:(Lit.int .i16 m).wf=true) : Du a n m=some true:=by
 have hn':-32768≤n∧n<32768:=by
  simp [Lit.wf,IntKind.min,IntKind.max,IntKind.signed,IntKind.bits] at hn;omega
 have hm':-32768≤m∧m<32768:=by
  simp [Lit.wf,IntKind.min,IntKind.max,IntKind.signed,IntKind.bits] at hm;omega
 have en:IntKind.wrap .i64 n=n:=Gf (by omega) (by omega)
 have em:IntKind.wrap .i64 m=m:=Gf (by omega) (by omega)
 have e3:w64 (n+m)=n+m:=B1 (by omega) (by omega)
 have zn:GW n:=⟨by omega,by omega⟩
 have zm:GW m:=⟨by omega,by omega⟩
 have z3:GW (n+m):=⟨by omega,by omega⟩
 unfold Du
 rw [OL oa,oB,en,em,e3,Vu]
 by_cases ra:AT a
 rotate_left
 ·rw [dF ra];rfl
 rw [dT ra,if_pos rfl]
 simp only [V2,Oz zn,Oz zm,Oz z3,oB]
 have D:=fun {z:Int} (hz:GW z) {b:Arr} (ob:okAr b) (rb:AT b)=>Uy (e:=(1,(false,[],[]),0)) (.inr rfl) hz ob rb
 obtain ⟨n0,hsz,_⟩:=KL ra
 by_cases hs:a.shape=[]
 ·have R:=fun {z:Int} (hz:GW z)=>NV (z:=z) (ax:=0) hz oa ra hs
  rw [D zn oa ra,R zn,oB,D zm oa ra,R zm,oB,D z3 oa ra,R z3,oB]
  simp only [if_true,(P6 (a:=a) oa).yes rfl,oB]
 ·have hx:0<a.shape.length:=List.length_pos_iff.2 hs
  obtain ⟨hd,h8⟩:=KT (s:=a.shape) (by rw [hsz])
  obtain ⟨l,hl⟩:∃ l:Nat,a.shape[0]=(l:Int):=⟨(a.shape[0]).toNat,by have:=hd _ (List.getElem_mem hx);omega⟩
  obtain ⟨t1,o1,r1⟩:=OI oa ra hsz hx hl zn
  obtain ⟨t3,o3,r3⟩:=OI oa ra hsz hx hl z3
  obtain ⟨t2,o2,r2⟩:=OI o1 r1 (n:=n0) hsz hx hl zm
  rw [D zn oa ra,t1,oB,D zm o1 r1,t2,oB,D z3 oa ra,t3,oB]
  simp only [if_true]
  have he:(Arr.mk a.shape (if n0=0 then [tyI (a.items.headD default)] else Cl a n0 (Bm (a.shape.map Int.toNat) 0 (Eg (n+m) l)))) =
    .mk a.shape (if n0=0 then [tyI ((if n0=0 then [tyI (a.items.headD default)] else Cl a n0 (Bm (a.shape.map Int.toNat) 0 (Eg n l))).headD default)] else Cl (.mk a.shape (if n0=0 then [tyI (a.items.headD default)] else Cl a n0 (Bm (a.shape.map Int.toNat) 0 (Eg n l)))) n0 (Bm (a.shape.map Int.toNat) 0 (Eg m l))):=by
   congr 1
   by_cases h0:n0=0
   ·rw [if_pos h0,if_pos h0,if_pos h0]
    have hlen:=Oy ra rfl hsz
    rw [if_pos h0] at hlen
    obtain ⟨x,hx⟩:=List.length_eq_one_iff.1 hlen
    obtain ⟨ox,rx⟩:=Ds oa ra (x:=x) (by rw [hx];simp)
    rw [hx]
    show [tyI x]=[tyI (tyI x)]
    rw [(KO ox rx.1).2.2.2.1]
   ·rw [if_neg h0,if_neg h0,if_neg h0]
    obtain ⟨t,ht,hpos,hp,hn,ht8⟩:=P7 hsz h0
    have hdim:a.shape.map Int.toNat=t:=by rw [ht,PJ]
    rw [hdim]
    have hxt:0<t.length:=by rw [ht,Bp] at hx;exact hx
    have hmt:t[0]=l:=by
     have:=Lh hxt
     simp only [ht] at hl
     rw [hl] at this;omega
    have hpt:∀ x∈t,0<x:=fun x hx=>(hpos x hx).1
    unfold Cl
    refine List.map_congr_left fun i hi=>?_
    have hlt:=Hy hpt hxt (fr:=Eg m l) (fun x hx=>by rw [hmt];exact M6 x hx) (by rw [Cv,← hmt];exact hpt _ (List.getElem_mem hxt)) i
    rw [hp] at hlt
    rw [← N5 hpt hxt (f1:=Eg n l) (f2:=Eg m l) (by rw [Cv,hmt]) (by rw [Cv,hmt]) (by rw [Cv,hmt]) (fun x hx=>by rw [hmt];exact M6 x hx) (fun k hk=>Tg (by rw [← hmt];exact hk)) i]
    have hg:∀ (xs:List Itm) (k:Nat),xs.getD k default=xs[k]?.getD default:=fun xs k=>lD
    rw [D0,hg (List.map _ _),List.getElem?_map,List.getElem?_range hlt];rfl
  have key:∀ o:Option Bool,o=some true→((o.bind fun x=>some x).bind fun x=>some x)=some true:=fun o h=>by rw [h];rfl
  exact key _ ((P6 o2).yes he.symm)
end Go.FL
namespace Go.Proofs.YtipdmmpgepoggaaGreat.shapeTurns
open Go.ChangeShapes Go.WideShapes Go.ChangeAt Go.RowKit Go.FL
theorem own : ownKnob Tryz.prog.godebug=none:=by kernel_rfl
theorem laid : laidOutB Tryz.prog=true:=by kernel_rfl
theorem params : ∀ t∈Tryz.f7.params.toList,Tryz.prog.readableRec t=true∧t<Tryz.prog.types.size:=by
 intro t ht
 simp only [Tryz.params7,List.mem_cons,List.not_mem_nil,or_false] at ht
 rcases ht with rfl|rfl|rfl<;>exact ⟨by kernel_rfl,of_decide_eq_true (by kernel_rfl)⟩
set_option maxRecDepth 100000 in
theorem lifted (os:Os) (started:os.Started) (H:Type) (enc:TypeId×Value→H) :
  ReturnsInHanded {} Tryz.checked os 7 .any (Rows.shapeTurnsSpec.pre6 enc Tryz.prog Tryz.f7 Rows.shapeTurnsRow.domain false) (Rows.shapeTurnsSpec.post enc Tryz.prog Tryz.f7 false true false false):=by
 refine returnsInHanded_of_change_sized (C:=Tryz.checked) own started (by kernel_rfl) Tryz.func7
  (ChangeSpec.witness6 (enc:=enc) (C:=Tryz.checked) false ⟨#[],#[.agg #[.slice none 0 0,.slice none 0 0],.int .i16 0,.int .i16 0],[]⟩ 8 (by kernel_rfl) (by kernel_rfl) (by kernel_rfl) (by kernel_rfl)) ?_
 intro W base args ds gs before hval0 hW hcnd hsz _
 have hval:∀ (j:Nat) t v,Tryz.f7.params[j]?=some t→args[j]?=some v→Value.okWide Tryz.prog W .any base t v:=hval0
 have hW':=hW
 obtain ⟨p,q,hA0,hV,rfl,hfz,hnd⟩:=hW
 have hA:DataW.TrodAll enc Tryz.prog W 0 (fun _=>true) true Tryz.f7.params.toList args.toList ds p:=hA0
 rw [Tryz.params7] at hA hval
 obtain ⟨v0,vs0,d0,ds0,p0,q0,hargs,rfl,rfl,h0,r0⟩:=trodAll_cons hA
 obtain ⟨v1,vs1,d1,ds1,p1,q1,rfl,rfl,rfl,h1,r1⟩:=trodAll_cons r0
 obtain ⟨v2,vs2,d2,ds2,p2,q2,rfl,rfl,rfl,h2,r2⟩:=trodAll_cons r1
 obtain ⟨rfl,rfl,rfl⟩:=trodAll_nil r2
 obtain rfl:args=#[v0,v1,v2]:=by cases args;simp_all
 obtain ⟨rfl,rfl⟩:=trodVars_none hV
 rw [Tryz.params7] at hsz
 have w0:∀ m∈DataW.weights Tryz.prog 27 d0,m≤reachBytes:=fun m hm=>by simpa using List.all_eq_true.1 hsz m (DataW.weights_mem_each (j:=0) rfl rfl m hm)
 obtain ⟨a0,o0,e0⟩:=TK (v:=v0) Uw (let ⟨cs,h,_⟩:=okWide_struct (P:=Tryz.prog) Tryz.underlying27 (hval 0 27 v0 rfl rfl);⟨cs,h⟩) h0 w0
 have w1:∀ m∈DataW.weights Tryz.prog 49 d1,m≤reachBytes:=fun m hm=>by simpa using List.all_eq_true.1 hsz m (DataW.weights_mem_each (j:=1) rfl rfl m hm)
 obtain ⟨a1,o1,e1⟩:=Qc (by kernel_rfl:Tryz.prog.underlying 49=some (.int .i16)) (hval 1 49 v1 rfl rfl) h1
 have w2:∀ m∈DataW.weights Tryz.prog 49 d2,m≤reachBytes:=fun m hm=>by simpa using List.all_eq_true.1 hsz m (DataW.weights_mem_each (j:=2) rfl rfl m hm)
 obtain ⟨a2,o2,e2⟩:=Qc (by kernel_rfl:Tryz.prog.underlying 49=some (.int .i16)) (hval 2 49 v2 rfl rfl) h2
 refine (Rp (HK (Lw o0 o1 o2)) (.cons e0 (.cons e1 (.cons e2 .nil)))).mono fun e W' ⟨he,hb⟩=>?_
 subst he
 exact ⟨_,rfl,SE hW' rfl (fun _=>rfl) rfl Tryz.underlying4 laid params hb⟩
theorem over : Rows.shapeTurnsRow.holds Tryz.pinned (OpenSpec.ofChange Rows.shapeTurnsSpec) :=
 OpenClaim.holds_of_wide 7 Tryz.f7 rfl rfl rfl rfl rfl rfl rfl ⟨rfl,rfl,rfl,rfl,rfl⟩ rfl rfl rfl rfl rfl (by kernel_rfl) Tryz.func7 (by kernel_rfl)
  (of_decide_eq_true (by kernel_rfl)) (by unfold Func.isWrapper;first|(rw [if_pos (by decide +kernel)];kernel_rfl)|(rw [if_neg (by decide +kernel)];exact ⟨rfl,rfl⟩))
  (fun os started H enc _=>lifted os started H enc)
theorem proved : Rows.ShapeTurnsSaid :=
 over
end Go.Proofs.YtipdmmpgepoggaaGreat.shapeTurns
