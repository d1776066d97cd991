/-
  The law: its function printed as a pure function, its contract, the plain law, the statement
-/
import Derived.Test.YtipdmmpgepoggaaGreatSdD
import Derived.Test.YtipdmmpgepoggaaGreatRows
set_option linter.unusedVariables false
namespace Go.FL
open Go Go.Proofs
def C3 (a0:(List Itm)) (a1:Int) (a2:Int) : Option (Bool):=((AN ([((List.length a0:Nat) : Int)]) a0).bind fun x1=>(if x1.2=0 then (DB.bind fun x2=>((D1 (IntKind.wrap .i64 a1)).bind fun x3=>((Cb x2 8595 x3 x1.1).bind fun x4=>(DB.bind fun x5=>((D1 (IntKind.wrap .i64 a2)).bind fun x6=>((Cb x5 8595 x6 x4.1).bind fun x7=>(DB.bind fun x8=>((D1 (w64 ((IntKind.wrap .i64 a1)+(IntKind.wrap .i64 a2)))).bind fun x9=>((Cb x8 8595 x9 x1.1).bind fun x10=>(if ((!(decide (x4.2=0)))||((!(decide (x7.2=0)))||(!(decide (x10.2=0)))))=true then (some (false)) else (if ((List.length a0:Nat) : Int)≤(w64 ((IntKind.wrap .i64 a1)+(IntKind.wrap .i64 a2))) then (D6.bind fun x11=>(Option.bind ((if x11=true then ((rd? x7.1.shape 0).bind fun x13=>(if x13=0 then ((rd? x10.1.shape 0).bind fun x14=>(some (decide (x14=0)))) else (some false))) else (some false)) : Option (Bool)) fun (z11:Bool)=>(some (z11)))) else (D6.bind fun x15=>(Option.bind ((if x15=true then ((GO x7.1 x10.1).bind fun x17=>(some x17)) else (some false)) : Option (Bool)) fun (z15:Bool)=>(some (z15))))))))))))))) else (D6.bind fun x18=>(some (x18)))))
theorem GU {a0:(List Itm)} {a1:Int} {a2:Int} {r:Bool} (h:C3 a0 a1 a2=some r) :
  Fn Tryz.prog 8 [.sl (Its a0),.i .u8 a1,.i .u8 a2] (.d (.b r)):=by
 unfold C3 at h
 refine Fn.o1 6 95 Tryz.func8 ?_;refine .sr ?_;refine ar [0,1,2,6] ?_;refine .sr ?_;refine vk (Aa) ?_;refine vk (A5 (Ay _) (Cl _) Ch) ?_;refine vk ((Kq (DP [((List.length a0:Nat):Int)]) CS).deep) ?_;refine vk (Aa) ?_
 obtain ⟨x1,g1,h⟩:=bnd h
 refine vk (VOK.tupd (vs:=[.ag [.sl (Is x1.1.shape),.sl (Its x1.1.items)],.i .i64 x1.2]) (Aq (Ef g1) Tryz.call10)) ?_;refine vk (Aa) ?_;refine vk (vex) ?_;refine vk (vex) ?_;refine vk (van (Aj Az) AC) ?_
 refine stn ?_ Ab (by decide)
 refine ar [0,1,2,6,7,8] ?_;refine .seq ?_;refine .sr ?_;refine vk (Aa) ?_;refine vk (vbi) ?_;refine rk [0,1,2,6,7,24] ?_
 rcases brc h with ⟨hc,h⟩|⟨hc,h⟩
 ·refine cnf (ntf (dT hc)) ?_
  refine .skip ?_
  show AW _ _ _ _ _ _
  refine .seq ?_
  obtain ⟨x2,g2,h⟩:=bnd h
  obtain ⟨x3,g3,h⟩:=bnd h
  obtain ⟨x4,g4,h⟩:=bnd h
  refine .drawnF 10 [8] [(9,.nb [.sl (Is x4.1.shape),.sl (Its x4.1.items)])] [] Bf (by kernel_rfl) rfl ?_;refine dv (Aq (DQ g2) Tryz.call12) ?_;refine dv (Aa) ?_;refine dv (vcv Fu Iw) ?_;refine dv (Aq (FF g3) Tryz.call23) ?_;refine dv (Ge Ad Ab) ?_;refine dv (VOK.tupd (vs:=[.ag [.sl (Is x4.1.shape),.sl (Its x4.1.items)],.i .i64 x4.2]) (Aq (Dh g4) Tryz.call11)) ?_;refine dv (Aa) ?_;refine dv (vex) ?_;refine dv (vex) ?_;refine dv (van (Aj Az) AC) ?_;refine dz ?_
  refine ⟨?_,?_,?_⟩
  ·intro k hk
   simp only [List.mem_cons,List.not_mem_nil,or_false] at hk
   subst hk
   exact ⟨_,_,_,rfl,rfl,rfl,rfl,rfl,rfl,vex⟩
  ·intro om e hom hge
   cases hom
   exact JB (cs:=[.sl (Is []),.sl (Its [])]) (cs':=[.sl (Is x4.1.shape),.sl (Its x4.1.items)]) Ab (by decide) rfl ((hge 9 (fun k hk v hv=>by
     simp only [List.mem_cons,List.not_mem_nil,or_false] at hk
     subst hk;exact (by decide:¬(some 34=some 9)) (congrArg (Option.map Prod.fst) hv))).trans rfl) ((congrArg AS (hge 33 (fun k hk v hv=>by
     simp only [List.mem_cons,List.not_mem_nil,or_false] at hk
     subst hk;exact (by decide:¬(some 34=some 33)) (congrArg (Option.map Prod.fst) hv)))).trans rfl) rfl rfl rfl rfl ⟨rfl,rfl⟩
  refine ar [0,1,2,6,7,9,10] ?_;refine .seq ?_
  obtain ⟨x5,g5,h⟩:=bnd h
  obtain ⟨x6,g6,h⟩:=bnd h
  obtain ⟨x7,g7,h⟩:=bnd h
  refine .drawnF 10 [8] [(11,.nb [.sl (Is x7.1.shape),.sl (Its x7.1.items)])] [] Bf (by kernel_rfl) rfl ?_;refine dv (Aq (DQ g5) Tryz.call12) ?_;refine dv (Aa) ?_;refine dv (vcv Fu Iw) ?_;refine dv (Aq (FF g6) Tryz.call23) ?_;refine dv (Ge Ad Ab) ?_;refine dv (VOK.tupd (vs:=[.ag [.sl (Is x7.1.shape),.sl (Its x7.1.items)],.i .i64 x7.2]) (Aq (Dh g7) Tryz.call11)) ?_;refine dv (Aa) ?_;refine dv (vex) ?_;refine dv (vex) ?_;refine dv (van (Aj Az) AC) ?_;refine dz ?_
  refine ⟨?_,?_,?_⟩
  ·intro k hk
   simp only [List.mem_cons,List.not_mem_nil,or_false] at hk
   subst hk
   exact ⟨_,_,_,rfl,rfl,rfl,rfl,rfl,rfl,vex⟩
  ·intro om e hom hge
   cases hom
   exact JB (cs:=[.sl (Is []),.sl (Its [])]) (cs':=[.sl (Is x7.1.shape),.sl (Its x7.1.items)]) Ab (by decide) rfl ((hge 11 (fun k hk v hv=>by
     simp only [List.mem_cons,List.not_mem_nil,or_false] at hk
     subst hk;exact (by decide:¬(some 43=some 11)) (congrArg (Option.map Prod.fst) hv))).trans rfl) ((congrArg AS (hge 42 (fun k hk v hv=>by
     simp only [List.mem_cons,List.not_mem_nil,or_false] at hk
     subst hk;exact (by decide:¬(some 43=some 42)) (congrArg (Option.map Prod.fst) hv)))).trans rfl) rfl rfl rfl rfl ⟨rfl,rfl⟩
  refine ar [0,1,2,6,7,10,11,12] ?_;refine .seq ?_
  obtain ⟨x8,g8,h⟩:=bnd h
  obtain ⟨x9,g9,h⟩:=bnd h
  obtain ⟨x10,g10,h⟩:=bnd h
  refine .drawnF 13 [11] [(13,.nb [.sl (Is x10.1.shape),.sl (Its x10.1.items)])] [] Bf (by kernel_rfl) rfl ?_;refine dv (Aq (DQ g8) Tryz.call12) ?_;refine dv (Aa) ?_;refine dv (vcv Fu Iw) ?_;refine dv (Aa) ?_;refine dv (vcv Fu Iw) ?_;refine dv (vbi) ?_;refine dv (Aq (FF g9) Tryz.call23) ?_;refine dv (Ge Ad Ab) ?_;refine dv (VOK.tupd (vs:=[.ag [.sl (Is x10.1.shape),.sl (Its x10.1.items)],.i .i64 x10.2]) (Aq (Dh g10) Tryz.call11)) ?_;refine dv (Aa) ?_;refine dv (vex) ?_;refine dv (vex) ?_;refine dv (van (Aj Az) AC) ?_;refine dz ?_
  refine ⟨?_,?_,?_⟩
  ·intro k hk
   simp only [List.mem_cons,List.not_mem_nil,or_false] at hk
   subst hk
   exact ⟨_,_,_,rfl,rfl,rfl,rfl,rfl,rfl,vex⟩
  ·intro om e hom hge
   cases hom
   exact JB (cs:=[.sl (Is []),.sl (Its [])]) (cs':=[.sl (Is x10.1.shape),.sl (Its x10.1.items)]) Ab (by decide) rfl ((hge 13 (fun k hk v hv=>by
     simp only [List.mem_cons,List.not_mem_nil,or_false] at hk
     subst hk;exact (by decide:¬(some 55=some 13)) (congrArg (Option.map Prod.fst) hv))).trans rfl) ((congrArg AS (hge 54 (fun k hk v hv=>by
     simp only [List.mem_cons,List.not_mem_nil,or_false] at hk
     subst hk;exact (by decide:¬(some 55=some 54)) (congrArg (Option.map Prod.fst) hv)))).trans rfl) rfl rfl rfl rfl ⟨rfl,rfl⟩
  refine ar [0,1,2,6,10,11,12,13,14] ?_;refine .seq ?_;refine .seq ?_;refine AW.mr (σ:=Unit) (fun _=>True) (fun _=>[(0,.d (.sl (Its a0))),(1,.d (.i .u8 a1)),(2,.d (.i .u8 a2)),(6,.d (.b false)),(11,.nb [.sl (Is x7.1.shape),.sl (Its x7.1.items)]),(13,.nb [.sl (Is x10.1.shape),.sl (Its x10.1.items)]),(65,.d (.b ((!(decide (x4.2=0)))||((!(decide (x7.2=0)))||(!(decide (x10.2=0)))))))]) (fun _=>[]) ?_ ?_
  ·skip
   refine .region ?_;refine vk (Aa) ?_;refine vk (vbi) ?_
   by_cases hc:x4.2=0
   ·have hb0:(!(decide (x4.2=0)))=false:=(ntf (dT hc))
    refine vk (VOK.lit (Aa) hb0) ?_;refine vk (Aa) ?_;refine vk (vbi) ?_;refine vk (Ao) ?_
    by_cases hc:x7.2=0
    ·have hb1:(!(decide (x7.2=0)))=false:=(ntf (dT hc))
     refine vk (VOK.lit (Aa) hb1) ?_;refine vk (Aa) ?_;refine vk (vbi) ?_;refine vk (Ao) ?_;refine RL.gk [0,1,2,6,11,13,65] ?_;refine .nil ?_
     exact jr () trivial (by simp only [hb0,hb1];rfl)
    have hb1:(!(decide (x7.2=0)))=true:=(ntt (dF hc))
    refine vk (VOK.lit (Aa) hb1) ?_;refine gf ?_;refine gf ?_;refine vk (Ao) ?_;refine RL.gk [0,1,2,6,11,13,65] ?_;refine .nil ?_
    exact jr () trivial (by simp only [hb0,hb1];rfl)
   have hb0:(!(decide (x4.2=0)))=true:=(ntt (dF hc))
   refine vk (VOK.lit (Aa) hb0) ?_;refine gf ?_;refine gf ?_;refine vk (Ao) ?_;refine vk (Aa) ?_;refine gf ?_;refine gf ?_;refine vk (Ao) ?_;refine RL.gk [0,1,2,6,11,13,65] ?_;refine .nil ?_
   exact jr () trivial (by simp only [hb0];rfl)
  rintro _ _
  rcases brc h with ⟨hc,h⟩|⟨hc,h⟩
  ·refine cnt hc ?_
   refine .sr ?_;refine ar [0,1,2,6,11,13] ?_;refine .ret ?_
   cases h
   exact ⟨rfl,rfl⟩
  refine cnf (bf hc) ?_;refine .skip ?_
  show AW _ _ _ _ _ _
  refine .seq ?_;refine .sr ?_;refine vk (Aa) ?_;refine vk (vcv Fu Iw) ?_;refine vk (Aa) ?_;refine vk (vcv Fu Iw) ?_;refine vk (vbi) ?_;refine vk (Aa) ?_;refine vk (A5 (Ay _) (Cl _) Ch) ?_;refine vk (vbi) ?_;refine rk [6,11,13,73] ?_
  rcases brc h with ⟨hc,h⟩|⟨hc,h⟩
  ·refine cnt (dT hc) ?_
   refine .seq ?_;refine .gh (Gh.nbp (t:=11) rfl) ?_;refine .gh (Gh.nbp (t:=13) rfl) ?_
   obtain ⟨x11,g11,h⟩:=bnd h
   obtain ⟨z11,hz,h⟩:=bnd h
   refine AW.mr (σ:=Unit) (fun _=>True) (fun _=>[(6,.d (.b z11)),(11,.d (.ptr [.sl (Is x7.1.shape),.sl (Its x7.1.items)])),(13,.d (.ptr [.sl (Is x10.1.shape),.sl (Its x10.1.items)]))]) (fun _=>[]) ?_ ?_
   ·skip
    refine .region ?_;refine vk (Aq (E9 g11) Tryz.call9) ?_
    rcases brc hz with ⟨hc,hz⟩|⟨hc,hz⟩
    ·have hb0:x11=true:=hc
     refine vk (VOK.lit (Aa) hb0) ?_;refine vk (vfa Av) ?_;refine vk (Al A1) ?_
     obtain ⟨x13,g13,hz⟩:=bnd hz
     obtain ⟨n13,p013,q13⟩:=Ak g13
     refine vk (vix n13 p013 (Be q13) rfl A8) ?_;refine vk (Al AF) ?_;refine vk (vbi) ?_;refine vk (Ao) ?_
     rcases brc hz with ⟨hc,hz⟩|⟨hc,hz⟩
     ·have hb1:(decide (x13=0))=true:=(dT hc)
      refine vk (VOK.lit (Aa) hb1) ?_;refine vk (vfa Av) ?_;refine vk (Al A1) ?_
      obtain ⟨x14,g14,hz⟩:=bnd hz
      obtain ⟨n14,p014,q14⟩:=Ak g14
      refine vk (vix n14 p014 (Be q14) rfl A8) ?_;refine vk (Al AF) ?_;refine vk (vbi) ?_;refine vk (Ao) ?_;refine asd ?_;refine RL.gk [6,11,13] ?_;refine .nil ?_
      cases hz
      exact jr () trivial
     have hb1:(decide (x13=0))=false:=(dF hc)
     refine vk (VOK.lit (Aa) hb1) ?_;refine gf ?_;refine gf ?_;refine gf ?_;refine gf ?_;refine gf ?_;refine vk (Ao) ?_;refine asd ?_;refine RL.gk [6,11,13] ?_;refine .nil ?_
     cases hz
     exact jr () trivial
    have hb0:x11=false:=(bf hc)
    refine vk (VOK.lit (Aa) hb0) ?_;refine gf ?_;refine gf ?_;refine gf ?_;refine gf ?_;refine gf ?_;refine vk (Ao) ?_;refine vk (Aa) ?_;refine gf ?_;refine gf ?_;refine gf ?_;refine gf ?_;refine gf ?_;refine vk (Ao) ?_;refine asd ?_;refine RL.gk [6,11,13] ?_;refine .nil ?_
    cases hz
    exact jr () trivial
   rintro _ _
   refine .ret ?_
   cases h
   exact ⟨rfl,rfl⟩
  refine cnf (dF hc) ?_;refine .skip ?_
  show AW _ _ _ _ _ _
  refine .seq ?_
  obtain ⟨x15,g15,h⟩:=bnd h
  obtain ⟨z15,hz,h⟩:=bnd h
  refine AW.mr (σ:=Unit) (fun _=>True) (fun _=>[(6,.d (.b z15))]) (fun _=>[]) ?_ ?_
  ·skip
   refine .region ?_;refine vk (Aq (E9 g15) Tryz.call9) ?_
   rcases brc hz with ⟨hc,hz⟩|⟨hc,hz⟩
   ·have hb0:x15=true:=hc
    refine vk (VOK.lit (Aa) hb0) ?_;refine vk (Ge Ad Ab) ?_;refine vk (Ge Ad Ab) ?_
    obtain ⟨x17,g17,hz⟩:=bnd hz
    refine vk (Aq (HY g17) Tryz.call14) ?_;refine vk (Ao) ?_;refine asd ?_;refine RL.gk [6] ?_;refine .nil ?_
    cases hz
    exact jr () trivial
   have hb0:x15=false:=(bf hc)
   refine vk (VOK.lit (Aa) hb0) ?_;refine gf ?_;refine gf ?_;refine gf ?_;refine vk (Ao) ?_;refine asd ?_;refine RL.gk [6] ?_;refine .nil ?_
   cases hz
   exact jr () trivial
  rintro _ _
  refine .ret ?_
  cases h
  exact ⟨rfl,rfl⟩
 refine cnt (ntt (dF hc)) ?_;refine .sr ?_
 obtain ⟨x18,g18,h⟩:=bnd h
 refine vk (Aq (E9 g18) Tryz.call9) ?_;refine ar [0,1,2,6,7] ?_;refine .ret ?_
 cases h
 exact ⟨rfl,rfl⟩
def GJ (xs:List Itm) (z:Nat) : Arr:=if z<xs.length then vec (xs.drop z) else .mk [0] [tyI (xs.headD default)]
theorem Mq {xs:List Itm} (h:VR xs) (z:Nat) : okAr (GJ xs z)∧A3 (GJ xs z):=by
 unfold GJ
 by_cases hlt:z<xs.length
 ·rw [if_pos hlt]
  have hd:VR (xs.drop z):=h.sub (List.drop_sublist z xs) (List.length_pos_iff.1 (by rw [List.length_drop];omega))
  exact ⟨hd.ok,hd.2.2.2⟩
 ·rw [if_neg hlt];exact h.zero.2
theorem OB {xs:List Itm} (h:VR xs) {n m:Nat} (hm:m≤1000) : Bv (.mk [] [FG m]) (GJ xs n)=some (if n+m<xs.length then GJ xs (n+m) else .mk [0] [tyI (if n<xs.length then (xs.drop n).headD default else tyI (xs.headD default))],0):=by
 by_cases hlt:n<xs.length
 ·have hd:VR (xs.drop n):=h.sub (List.drop_sublist n xs) (List.length_pos_iff.1 (by rw [List.length_drop];omega))
  have e:GJ xs n=vec (xs.drop n):=if_pos hlt
  rw [e,JK hd hm,if_pos hlt]
  by_cases h2:n+m<xs.length
  ·rw [if_pos h2,if_pos (by rw [List.length_drop];omega),List.drop_drop]
   unfold GJ
   rw [if_pos h2]
  ·rw [if_neg h2,if_neg (by rw [List.length_drop];omega)]
 ·have e:GJ xs n=.mk [0] [tyI (xs.headD default)]:=if_neg hlt
  rw [e,OS h.zero.2.1 h.zero.2.2 hm,if_neg (by omega),if_neg hlt]
theorem Ky {l:List Itm} {n m:Int} (hl:l.length≤1466015503701∧∀ x∈l,okI x) (hn:(Lit.int .u8 n).wf=true) (hm:(Lit.int .u8 m).wf=true) : C3 l n m=some true:=by
 obtain ⟨a,rfl,ha⟩:∃ a:Nat,n=(a:Int)∧a≤255:=by
  simp [Lit.wf,IntKind.min,IntKind.max,IntKind.signed,IntKind.bits] at hn
  exact ⟨n.toNat,by omega,by omega⟩
 obtain ⟨b,rfl,hb⟩:∃ b:Nat,m=(b:Int)∧b≤255:=by
  simp [Lit.wf,IntKind.min,IntKind.max,IntKind.signed,IntKind.bits] at hm
  exact ⟨m.toNat,by omega,by omega⟩
 have en:IntKind.wrap .i64 (a:Int)=(a:Int):=FJ (by omega) (by omega)
 have em:IntKind.wrap .i64 (b:Int)=(b:Int):=FJ (by omega) (by omega)
 have e3:w64 ((a:Int)+(b:Int))=((a+b:Nat):Int):=by rw [CD (by omega) (by omega)];omega
 have zn:Hh (a:Int):=⟨by omega,by omega⟩
 have zm:Hh (b:Int):=⟨by omega,by omega⟩
 have z3:Hh ((a+b:Nat):Int):=⟨by omega,by omega⟩
 have hmk:∃ r e,AN [((List.length l:Nat):Int)] l=some (r,e):=⟨_,_,H8 (fun z hz=>by rw [List.mem_singleton] at hz;omega) (by simp) hl.1 hl.2⟩
 obtain ⟨r,e,hr⟩:=hmk
 unfold C3
 rw [hr,oB,TN,en,em,e3]
 by_cases h0:e=0
 rotate_left
 ·rw [if_neg h0];rfl
 subst h0
 obtain ⟨v,rfl⟩:=Rl hl.2 hl.1 hr
 rw [if_pos rfl]
 simp only [T8,NI zn,NI zm,NI z3,oB]
 have D:=fun {z:Int} (hz:Hh z) {b:Arr} (ob:okAr b) (rb:A3 b)=>Rr (e:=(1,(false,[],[]),0)) (.inr rfl) (LO hz).1 (LO hz).2 ob rb
 have R1:Bv (.mk [] [FG (a:Int)]) (vec l)=some (GJ l a,0):=JK v (by omega)
 have R3:Bv (.mk [] [FG ((a+b:Nat):Int)]) (vec l)=some (GJ l (a+b),0):=JK v (by omega)
 have R2:=OB v (n:=a) (m:=b) (by omega)
 have o1:=Mq v a
 have o3:=Mq v (a+b)
 rw [D zn v.ok v.2.2.2,R1,oB,D zm o1.1 o1.2,R2,oB,D z3 v.ok v.2.2.2,R3,oB]
 by_cases hlt:a+b<l.length
 ·rw [if_pos hlt]
  rw [if_neg (show ¬(!(decide ((0:Int)=0))||((!(decide ((0:Int)=0)))||(!(decide ((0:Int)=0)))))=true by decide),if_neg (by omega)]
  simp only [if_true,(RU o3.1).yes rfl,oB]
 ·rw [if_neg hlt]
  have e:GJ l (a+b)=.mk [0] [tyI (l.headD default)]:=if_neg hlt
  rw [if_neg (show ¬(!(decide ((0:Int)=0))||((!(decide ((0:Int)=0)))||(!(decide ((0:Int)=0)))))=true by decide),if_pos (by omega),e]
  rfl
end Go.FL
namespace Go.Proofs.YtipdmmpgepoggaaGreat.shapeDrops
open Go.ChangeShapes Go.WideShapes Go.ChangeAt Go.RowKit Go.FL
theorem own : ownKnob Tryz.prog.godebug=none:=by kernel_rfl
theorem laid : laidOutB Tryz.prog=true:=by kernel_rfl
theorem params : ∀ t∈Tryz.f8.params.toList,Tryz.prog.readableRec t=true∧t<Tryz.prog.types.size:=by
 intro t ht
 simp only [Tryz.params8,List.mem_cons,List.not_mem_nil,or_false] at ht
 rcases ht with rfl|rfl|rfl<;>exact ⟨by kernel_rfl,of_decide_eq_true (by kernel_rfl)⟩
set_option maxRecDepth 100000 in
theorem lifted (os:Os) (started:os.Started) (H:Type) (enc:TypeId×Value→H) :
  ReturnsInHanded {} Tryz.checked os 8 .any (Rows.shapeDropsSpec.pre6 enc Tryz.prog Tryz.f8 Rows.shapeDropsRow.domain false) (Rows.shapeDropsSpec.post enc Tryz.prog Tryz.f8 false true false false):=by
 refine returnsInHanded_of_change_sized (C:=Tryz.checked) own started (by kernel_rfl) Tryz.func8
  (ChangeSpec.witness6 (enc:=enc) (C:=Tryz.checked) false ⟨#[],#[.slice none 0 0,.int .u8 0,.int .u8 0],[]⟩ 8 (by kernel_rfl) (by kernel_rfl) (by kernel_rfl) (by kernel_rfl)) ?_
 intro W base args ds gs before hval0 hW hcnd hsz _
 have hval:∀ (j:Nat) t v,Tryz.f8.params[j]?=some t→args[j]?=some v→Value.okWide Tryz.prog W .any base t v:=hval0
 have hW':=hW
 obtain ⟨p,q,hA0,hV,rfl,hfz,hnd⟩:=hW
 have hA:DataW.TrodAll enc Tryz.prog W 0 (fun _=>true) true Tryz.f8.params.toList args.toList ds p:=hA0
 rw [Tryz.params8] at hA hval
 obtain ⟨v0,vs0,d0,ds0,p0,q0,hargs,rfl,rfl,h0,r0⟩:=trodAll_cons hA
 obtain ⟨v1,vs1,d1,ds1,p1,q1,rfl,rfl,rfl,h1,r1⟩:=trodAll_cons r0
 obtain ⟨v2,vs2,d2,ds2,p2,q2,rfl,rfl,rfl,h2,r2⟩:=trodAll_cons r1
 obtain ⟨rfl,rfl,rfl⟩:=trodAll_nil r2
 obtain rfl:args=#[v0,v1,v2]:=by cases args;simp_all
 obtain ⟨rfl,rfl⟩:=trodVars_none hV
 rw [Tryz.params8] at hsz
 have w0:∀ m∈DataW.weights Tryz.prog 23 d0,m≤reachBytes:=fun m hm=>by simpa using List.all_eq_true.1 hsz m (DataW.weights_mem_each (j:=0) rfl rfl m hm)
 obtain ⟨a0,o0,e0⟩:=P5 (v:=v0) Qs (by obtain ⟨x0,x1,x2,rfl⟩:=okWide_slice Tryz.underlying23 (hval 0 23 v0 rfl rfl);rfl) h0 w0
 have w1:∀ m∈DataW.weights Tryz.prog 5 d1,m≤reachBytes:=fun m hm=>by simpa using List.all_eq_true.1 hsz m (DataW.weights_mem_each (j:=1) rfl rfl m hm)
 obtain ⟨a1,o1,e1⟩:=NP (by kernel_rfl:Tryz.prog.underlying 5=some (.int .u8)) (hval 1 5 v1 rfl rfl) h1
 have w2:∀ m∈DataW.weights Tryz.prog 5 d2,m≤reachBytes:=fun m hm=>by simpa using List.all_eq_true.1 hsz m (DataW.weights_mem_each (j:=2) rfl rfl m hm)
 obtain ⟨a2,o2,e2⟩:=NP (by kernel_rfl:Tryz.prog.underlying 5=some (.int .u8)) (hval 2 5 v2 rfl rfl) h2
 refine (OQ (GU (Ky o0 o1 o2)) (.cons e0 (.cons e1 (.cons e2 .nil)))).mono fun e W' ⟨he,hb⟩=>?_
 subst he
 exact ⟨_,rfl,Q7 hW' rfl (fun _=>rfl) rfl Tryz.underlying4 laid params hb⟩
theorem over : Rows.shapeDropsRow.holds Tryz.pinned (OpenSpec.ofChange Rows.shapeDropsSpec) :=
 OpenClaim.holds_of_wide 8 Tryz.f8 rfl rfl rfl rfl rfl rfl rfl ⟨rfl,rfl,rfl,rfl,rfl⟩ rfl rfl rfl rfl rfl (by kernel_rfl) Tryz.func8 (by kernel_rfl)
  (of_decide_eq_true (by kernel_rfl)) (by unfold Func.isWrapper;first|(rw [if_pos (by decide +kernel)];kernel_rfl)|(rw [if_neg (by decide +kernel)];exact ⟨rfl,rfl⟩))
  (fun os started H enc _=>lifted os started H enc)
theorem proved : Rows.ShapeDropsSaid :=
 over
end Go.Proofs.YtipdmmpgepoggaaGreat.shapeDrops
